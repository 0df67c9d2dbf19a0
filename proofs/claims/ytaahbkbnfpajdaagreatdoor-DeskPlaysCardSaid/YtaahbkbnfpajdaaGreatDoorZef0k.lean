/- Lemmas. -/
import Derived.Test.YtaahbkbnfpajdaaGreatDoorZef0g
import Derived.Test.YtaahbkbnfpajdaaGreatDoorZef0f
namespace Go.Proofs.YtaahbkbnfpajdaaGreatDoor
set_option linter.all false
set_option maxRecDepth 100000
set_option maxHeartbeats 8000000
open Go.RowKit
variable{w W:Wd}{m:Mm}{l:Lz}{A:Oz}{e:Ending}
theorem aoP(w:Wd)(ps:Lz):IB ((w.alloc (.cells (agi Z25) 81)).setRow w.heap.size (agi ps)) w.heap.size 81 ps:=IB.stored w 81 Z25 ps
theorem Qx:agi Z25= #[.int .i64 0,.int .i64 0,.int .i64 0,.int .i64 0,.int .i64 0,.int .i64 0,.int .i64 0,.int .i64 0,.int .i64 0,.int .i64 0,.int .i64 0,.int .i64 0,.int .i64 0,.int .i64 0,.int .i64 0,.int .i64 0,.int .i64 0,.int .i64 0,.int .i64 0,.int .i64 0,.int .i64 0,.int .i64 0,.int .i64 0,.int .i64 0,.int .i64 0]:=rfl
theorem NewM.bad{w':Wd}{er:Int}(a:Bw w w'):NewM w aZ [] er (.returned (.tuple #[.agg aZ.ag,.slice none 0 0,.int .i64 er])) w':=⟨none,0,rfl,Own.nil,a⟩
theorem afK(m:Mm)(k:m.ok)(A:Oz)(c n:Nat)(xs:Lz)(w:Wd)(M:TabA w 4 dY)(N:TabA w 1 cO)(H:TabA w 3 dh)
 (S:Rb w w.heap.size A xs) (Q:xs.length=n) (O:n<=c) (T:Byts xs):Cl 13 #[.agg m.ag,.slice A n c] w (NewM w (deM m xs) (deY m xs) (deE m xs)):=by
 have hR:=yC (fn:=Tryz.f13) (p:=4) (q:=5) (r:=6) rfl;have F:=af (Ms.start w m);have K:=af k;have L:=af (fun W=>Iu m k W);have J:=af (fun W (h:Bw w W)=>aoO A c n xs W (H.below h) ((S.below h).more h.size) Q O T);unfold Qw at J;have z:=aj (deE m xs=if aO m=true then unE xs else 2) (rfl);have FM:=af (fun(h:deE m xs≠0)=>show deM m xs=aZ from by unfold deM;rw[if_neg h]);have B:=af (fun(h:deE m xs≠0)=>show deY m xs=[] from by unfold deY;rw[if_neg h]);have b:=af (fun(h:deE m xs=0)=>show deM m xs=frM m (unL xs) from by unfold deM;rw[if_pos h]);have d:=af (fun(h:deE m xs=0)=>show deY m xs=frO m (unL xs) from by unfold deY;rw[if_pos h]);have C:=af (yJ xs);have x:=af (fun(h:unE xs=0)=>yK h);have t:=af (fun(h:unE xs=0)=>D7 k (yK h) (yJ xs));have f:=af (fun W (h:Bw w W) (g:aO m=true) (he:unE xs=0)=>afF m k g (unL xs) W (M.below h) (N.below h) (H.below h) (yK he) (yJ xs));clear k S Q O T M N H;go_enter Tryz.func13,Tryz.ntmps13;go_wp2_with(refine iK rfl (.tmp 2) rfl _ m rfl F.o.A K.o ?_);with_reducible refine(L.o _).mono ?_
 rintro e U ⟨rfl,hB⟩;have y:=af (F.o.below hB);clear hB F L;cases G:aO m with
 |false=>
  have HE:=aj (deE m xs=2) (Ve);clear G;have I:=af (MB.setRow y.o.R aZ);have D:=af (aS y.o.bel (g:=w.heap.size+1) ah aZ.ag);go_wp2_with(refine dW rfl (.tmp 4) (.tmp 13) rfl _ aZ aZ rfl (iI Value.agg vw) y.o.R df df ?_);refine aX (v:=_) (hR _ _ _ aZ rfl I.o df) rfl ?_;rw[FM.o wG,B.o wG,HE.o];exact NewM.bad D.o
 |true=>
  have HG:=af G;have z:=aj (deE m xs=unE xs) (Ve);clear G;go_wp2_with fail;with_reducible refine(J.o U y.o.bel).mono ?_
  rintro e w2 ⟨rfl,hB⟩;have S2:=af (y.o.below hB);clear hB y J;by_cases he:unE xs=0
  ·have HE:=aj (deE m xs=0) (by rw[z.o,he])
   exact ahH
  ·have HE:=aj (deE m xs≠0) (by rw[z.o];exact he)
   exact ahL
theorem apa(A:Oz)(c n g:Nat)(ring:Lz)(w:Wd)(h:Blk w g 26 #[.slice A n c])(i:Rs w w.heap.size A ring)(q:ring.length=n)(r:W64 ring):
 FoldFn 67 (.pointer (some ⟨g,0,none⟩)) w ring:=by
 intro W a k c' v j b d;have s:W.cell? ⟨g,0,none⟩=some (.slice A n c):=Blk.cell (Blk.below' h a) 0;have m:=af (am5 A k c c' n 40 ring v W ((i.below a).more a.size) j q b r d);clear h i j a;go_enter Tryz.func67,Tryz.ntmps67;go_wp2_with fail;refine m.o.mono ?_;rintro e t ⟨A2,c2,rfl,f,a⟩;have p:=af f;have l:=af a;clear f a;go_wp2;go_ret;exact⟨A2,c2,rfl,p.o,l.o⟩
theorem QF{o:Oper}{a:Act}{w:Wd}{K:Act->Wd->Prop}{Q:Exit->Act->Wd->Prop}(l c:Operand)
 (p:o.op=.makeSlice 26 l c) (j i:IntKind) (n:Nat) (m:a.eval l=.int j (n:Int)) (k:a.eval c=.int i (n:Int)) (base:Nat) (t:n<=17592186044416) (b:base<=w.heap.size)
 (h:∀g,Own g base (some ⟨w.heap.size,0,none⟩) n (List.replicate n 0)->w.grownBy g none->K (a.put o.dst (.slice (some ⟨w.heap.size,0,none⟩) n n)) g):
 Oper.wp Tryz.prog o a w K Q:=by
 obtain⟨q,hi,e,f,D⟩:=mJ GY;obtain⟨w',d,r,s⟩:=run_make_full (P:=Tryz.prog) w base 26 3 q (.int .i64 0) 1 qH hi e f j i n wJ jg b;unfold Oper.wp;simp[execOp,p,m,k,d,Result.andThen];refine h w' ?_ s;unfold Own;rw[rW];rw[<-acp];simpa using r
def Zs8:Lz:=[0,0,0,0,0,0,0,0]
structure Ho(w W:Wd)(m:Mm)(a:Lz)(A:Oz)(l:Lz):Prop where
 J:MB W w.heap.size m
 F:IB W (w.heap.size+1) 73 a
 U:IB W (w.heap.size+2) 78 Zs8
 L:Rs W w.heap.size A l
 t1:TabA w 4 dY
 t2:TabA w 1 cO
 B:Bw w W
theorem Ho.below{c:Wd}{a:Lz}(s:Ho w W m a A l)(b:Bw W c):Ho w c m a A l:=
 ⟨Blk.below' s.J b,Blk.below' s.F b,Blk.below' s.U b,s.L.below (b.mono s.B.size),s.t1,s.t2,aH s.B b⟩
theorem Ho.setC{a:Lz}(s:Ho w W m a A l){g:Nat}(G:w.heap.size+3<=g)(vs:List Value)(o:Nat):Ho w (W.setCells g o vs) m a A l:=by
 have b:Below (w.heap.size+3) W (W.setCells g o vs):=iJ G _ _ _ (aP _ _);exact⟨cZ ah _ _ _ s.J,cZ ah _ _ _ s.F,cZ ah _ _ _ s.U,s.L.below (b.mono ah),s.t1,s.t2,iJ ah _ _ _ s.B⟩
theorem Zl(g:Nat):∀(vs:List Value) (o:Nat) (W:Wd),(W.setCells g o vs).heap.size=W.heap.size
 |[],_,_=>rfl
 |v::vs,o,W=>by
  rw[World.setCells,Zl g vs (o+1)];simp[World.setCell]
theorem apb{g:Nat}(h:IB W g 52 Z8):W.there g 0 8:=Blk.there h
theorem Ho.start(w:Wd)(m:Mm)(a l:Lz)(A:Oz)(h:Rs w w.heap.size A l)(e:TabA w 4 dY)(f:TabA w 1 cO):
 Ho w (((w.alloc (.cells m.ag 55)).alloc (.cells (agi a) 73)).alloc (.cells (agi Zs8) 78)) m a A l:=by
 have g:=MB.new w m;have c:=IB.new (w.alloc (.cells m.ag 55)) 73 a;have d:=IB.new ((w.alloc (.cells m.ag 55)).alloc (.cells (agi a) 73)) 78 Zs8;simp only[bT] at c d;have b:=(((aP _ _).alloc (ax w.heap.size) (.cells m.ag 55)).alloc ay (.cells (agi a) 73)).alloc aC (.cells (agi Zs8) 78);exact⟨Blk.alloc (Blk.alloc g _) _,Blk.alloc c _,d,h.below b,e,f,b⟩
theorem Zm:agi Zs8= #[.int .i64 0,.int .i64 0,.int .i64 0,.int .i64 0,.int .i64 0,.int .i64 0,.int .i64 0,.int .i64 0]:=rfl
structure Hp(w W:Wd)(m:Mm)(a:Lz)(A:Oz)(l:Lz)(gR:Nat)(A3:Oz)(c3:Nat)(G:Lz)(A2:Oz)(T:Lz):Prop where
 L:Ho w W m a A l
 C:Blk W gR 26 #[.slice A3 40 c3]
 G:Rs W W.heap.size A3 G
 R:Rs W W.heap.size A2 T
theorem Hp.below{d:Wd}{a G T:Lz}{A2 c:Oz}{e c3:Nat}(s:Hp w W m a A l e c c3 G A2 T)(b:Bw W d):Hp w d m a A l e c c3 G A2 T:=
 ⟨s.L.below b,Blk.below' s.C b,(s.G.below b).more b.size,(s.R.below b).more b.size⟩
theorem Hp.start{a G T:Lz}{A2 c:Oz}{c3:Nat}(s:Ho w W m a A l)(d:Rs W W.heap.size c G)(e:Rs W W.heap.size A2 T):Hp w (W.alloc (.cells #[.slice c 40 c3] 26)) m a A l W.heap.size c c3 G A2 T:=by
 have b:Bw W (W.alloc (.cells #[.slice c 40 c3] 26)):=baqq _ _;exact⟨s.below b,Blk.new _ _ _,(d.below b).more b.size,(e.below b).more b.size⟩
structure Hq(w W:Wd)(m:Mm)(a:Lz)(A:Oz)(l:Lz)(gR:Nat)(A3:Oz)(c3:Nat)(G:Lz)(A2:Oz)(T:Lz)(gS:Nat)(us:Lz):Prop where
 L:Ho w W m a A l
 C:Blk W gR 26 #[.slice A3 40 c3]
 l1:w.heap.size+3<=gS
 l2:gR<gS
 G:Rs W gS A3 G
 R:Rs W gS A2 T
 S:IB W gS 78 us
section
variable {w W W':Wd} {m:Mm} {a l G T us:Lz} {A A2 A3:Oz} {gR c3 gS:Nat}
theorem Hq.lt(s:Hq w W m a A l gR A3 c3 G A2 T gS us):gS<W.heap.size:=Blk.lt s.S
theorem Hq.below(s:Hq w W m a A l gR A3 c3 G A2 T gS us)(b:Bw W W'):Hq w W' m a A l gR A3 c3 G A2 T gS us:=
 ⟨s.L.below b,Blk.below' s.C b,s.l1,s.l2,s.G.below (b.mono (kY s.lt)),s.R.below (b.mono (kY s.lt)),Blk.below' s.S b⟩
theorem Hq.g(s:Hq w W m a A l gR A3 c3 G A2 T gS us):Rs W W.heap.size A3 G:=s.G.more (kY s.lt)
theorem Hq.t(s:Hq w W m a A l gR A3 c3 G A2 T gS us):Rs W W.heap.size A2 T:=s.R.more (kY s.lt)
theorem Hq.start(s:Hp w W m a A l gR A3 c3 G A2 T)(us:Lz):Hq w (W.alloc (.cells (agi us) 78)) m a A l gR A3 c3 G A2 T W.heap.size us:=by
 have b:Bw W (W.alloc (.cells (agi us) 78)):=baqq _ _;exact⟨s.L.below b,Blk.below' s.C b,Blk.lt s.L.U,Blk.lt s.C,s.G.below b,s.R.below b,IB.new _ _ _⟩
end
theorem Hq.sets{a G T us us':Lz}{A2 A3:Oz}{gR c3 gS:Nat}(s:Hq w W m a A l gR A3 c3 G A2 T gS us)(vs:List Value)(o:Nat)(h:IB (W.setCells gS o vs) gS 78 us'):Hq w (W.setCells gS o vs) m a A l gR A3 c3 G A2 T gS us':=by
 have b:Below gS W (W.setCells gS o vs):=iJ (ax _) _ _ _ (aP _ _);have c:=s.l2;exact⟨s.L.setC s.l1 vs o,cZ ah _ _ _ s.C,s.l1,s.l2,s.G.below b,s.R.below b,h⟩
theorem apc(m:Mm)(k:m.ok)(g:aO m=true)(a l:Lz)(ha:kw a)(M:a.length=9)(A:Oz)(c:Nat)(w:Wd)(hr:Rs w w.heap.size A l)(hl:l.length=40)(h16:fU l)(T1:TabA w 4 dY)(T2:TabA w 1 cO):
 Cl 31 #[.agg m.ag,.agg (agi a),.slice A 40 c] w (fun e w'=>e=.returned (.agg (agi (chU m a l)))/\Bw w w'):=by
 have hR:=Af (fn:=Tryz.f31) (p:=6) (ty:=78) rfl;have S0:=Ho.start w m a l A hr T1 T2;obtain⟨V0,hV⟩:=ak ((((w.alloc (.cells m.ag 55)).alloc (.cells (agi a) 73)).alloc (.cells (agi Zs8) 78)));rw[<-hV] at S0;rw[Zm] at hV;have S0:=af S0;have HV:=af hV.symm;have K0:=af k;have AL:=af M;have LL:=af hl;have L16:=af h16;have GF:=DV (x:=List.replicate 40 0) ha (jr g).2.1 (Yz 40);have YL:=af (aeE (m:=m) (a:=a));have Y16:=af (iw (show aG (lm m a)=true from yG _ _ _ _));have QL:=af (tC (lm m a) m.p k.p);have KM:=af (fun W A1 c1 (h:Rs W W.heap.size A1 (List.replicate 40 0))=>show Cl 64 #[.agg (au a).toArray,.agg (au m.p).toArray,.slice A1 40 c1] W (tZ W (lm m a) (fH m.p (lm m a)) 0) from by
  have h1:=Yx a m.p (List.replicate 40 0) A1 c1 40 W M k.p h rW ah;rw[GF,if_pos rfl,if_pos rfl,show bz true=0 from rfl,show eG a m.p (List.replicate 40 0) 40=lm m a from rfl] at h1;exact h1)
 unfold tZ at KM;have KLs:=af (fun W A1 c1 A2 c2 (h1:Rs W W.heap.size A1 l) (f:Rs W W.heap.size A2 (lm m a))=>show Cl 65 #[.slice A1 40 c1,.slice A2 40 c2] W (fun e w'=> ∃A c,e=.returned (.slice A 40 c)/\Own w' W.heap.size A c (chT m a l)/\Bw W w') from
  (afO A1 A2 c1 c2 l (lm m a) W h1 f hl YL.o h16 Y16.o).mono fun e w' ⟨A,c,h1,f,n⟩=>⟨A,c,by rw[h1,Ju],f,n⟩)
 have GL:=af (Jv ha);have GI:=af (Eb ha);have GW:=aj (W64 (chR a)) (nN (Eb ha));have KRg:=af (fun W=>show Cl 66 #[.agg (agi a),.int .i64 40] W (fun e w'=> ∃A c,e=.returned (.tuple #[.slice A 40 c,.int .i64 0])/\Own w' W.heap.size A c (chR a)/\Bw W w') from
  (anL a 40 W M).mono fun e w' ⟨A,c,h1,f,n⟩=>⟨A,c,ahf,f,n⟩)
 have PE:=af (show jh (chR a) m.e (chT m a l)=0 by
  unfold jh;rw[if_pos D9,Ea,(jr g).2.2.1,PV ha];rfl)
 have KPk:=af (fun W gR A2 c2 (hf:FoldFn 67 (.pointer (some ⟨gR,0,none⟩)) W (chR a)) (hr:Rs W W.heap.size A2 (chT m a l))=>show Cl 69 #[.agg (au m.e).toArray,.func (.func 67) #[] #[.pointer (some ⟨gR,0,none⟩)],.slice A2 40 c2] W (fun e w'=>e=.returned (.tuple #[.int .i64 (chK m a l).1,.int .i64 (chK m a l).2.1,.int .i64 (chK m a l).2.2,.int .i64 0])/\Bw W w') from
  (aoQ m.e (chR a) (chT m a l) _ A2 c2 40 W k.e hr D9 ah hf).mono fun e w' ⟨h1,f⟩=>⟨by
    unfold piA piB pkD at h1;rw[PE.o,if_pos rfl,if_pos rfl,if_pos rfl] at h1;exact h1,f⟩)
 have HI80:=aj ((Tryz.prog.info? 53).map (·.size)=some (au m.e).length) (FI);have KFd:=af (fun W gR A3 c3 (h1:Blk W gR 26 #[.slice A3 40 c3]) (f:Rs W W.heap.size A3 (chR a))=>apa A3 c3 40 gR (chR a) W h1 f GL.o GW.o);have KNr:=af (fun W (h:Ho w W m a A l)=>show Cl 70 #[.int .i64 (chK m a l).2.1,.int .i64 (chK m a l).2.2] W (fun e w'=>e=.returned (.int .i64 (chP m a l))/\Bw W w') from by
  have r:=Pz (chR a) m.e (iw (Ea (m:=m) (a:=a) (l:=l))) 60;have r2:chK m a l=pkS (chR a) m.e (chT m a l) 60:=rfl;rw[<-r2] at r;exact anA _ _ W (h.t2.below' h.B (ax _)) ah ah ah ah)
 have KGn:=af (fun W (h:Ho w W m a A l)=>show Cl 71 #[.int .i64 (chP m a l)] W (fun e w'=>e=.returned (.tuple #[.int .i64 (dJ (chP m a l)),.int .i64 0])/\W=w') from by
  have h1:=acV (chP m a l) W (h.t2.below' h.B (ax _));rw[Dw Jw.1 Jw.2] at h1;exact h1)
 have KPs:=af (fun W=>show Cl 72 #[.agg (au m.e).toArray,.int .i64 (chK m a l).1] W (fun e w'=> ∃A c,e=.returned (.tuple #[.slice A 40 c,.int .i64 0])/\Own w' W.heap.size A c (dU m.e (chK m a l).1)/\Bw W w') from
  (WP m.e (chK m a l).1 W k.e).mono fun e w' ⟨A,c,h1,f,n⟩=>⟨A,c,ahq,f,n⟩)
 have KF1:=af (fun W gR A3 c3 A5 c5 (h1:Blk W gR 26 #[.slice A3 40 c3]) (f:Rs W W.heap.size A3 (chR a)) (n:Rs W W.heap.size A5 (dU m.e (chK m a l).1))=>show Cl 67 #[.slice A5 40 c5,.pointer (some ⟨gR,0,none⟩)] W (fun e w'=> ∃A c,e=.returned (.slice A 40 c)/\Own w' W.heap.size A c (chV m a l)/\Bw W w') from
  (KFd.o W gR A3 c3 h1 f W (aP _ _) A5 c5 _ n PW (nN (YC g))).mono fun e w' ⟨A,c,h1,f,n⟩=>⟨A,c,ag7,f,n⟩)
 have KSc:=af (fun W A6 c6 (h1:Rs W W.heap.size A6 (chV m a l))=>show Cl 73 #[.slice A6 40 c6,.int .i64 (dJ (chP m a l))] W (fun e w'=> ∃A c,e=.returned (.slice A 40 c)/\Own w' W.heap.size A c (vG (chV m a l) (dJ (chP m a l)) 40)/\Bw W w') from
  (aoR A6 c6 (chV m a l) (dJ (chP m a l)) W h1 (YD g ha) (iw aeG) (by have:=OT (chP m a l);omega)).mono fun e w' ⟨A,c,h1,f,n⟩=>⟨A,c,by rw[h1,Yy],f,n⟩)
 have KL2:=af (fun W A2 c2 A7 c7 (h1:Rs W W.heap.size A2 (chT m a l)) (f:Rs W W.heap.size A7 (vG (chV m a l) (dJ (chP m a l)) 40))=>show Cl 65 #[.slice A2 40 c2,.slice A7 40 c7] W (fun e w'=> ∃A c,e=.returned (.slice A 40 c)/\Own w' W.heap.size A c (ji m a l)/\Bw W w') from
  (afO A2 A7 c2 c7 (chT m a l) _ W h1 f D9 (Yy _ _ _) (iw Ea) (iw (anN _ _ _))).mono fun e w' ⟨A,c,h1,f,n⟩=>⟨A,c,by rw[h1,Ju],f,n⟩)
 have KTg:=af (fun W A8 c8 A3 c3 (h1:Rs W W.heap.size A8 (ji m a l)) (f:Rs W W.heap.size A3 (chR a))=>show Cl 74 #[.slice A8 40 c8,.slice A3 40 c3] W (fun e w'=> ∃A c,e=.returned (.tuple #[.slice A 40 c,.int .i64 0])/\Own w' W.heap.size A c (chD m a l)/\Bw W w') from
  (alQ A8 A3 c8 c3 40 40 (ji m a l) (chR a) W h1 f Jy GL.o (nN AP) GW.o).mono fun e w' ⟨A,c,h1,f,n⟩=>⟨A,c,aha,f,n⟩)
 have KFw:=af (fun W A9 c9 A3 c3 (h1:Rs W W.heap.size A9 (chD m a l)) (f:Rs W W.heap.size A3 (chR a))=>show Cl 75 #[.slice A9 40 c9,.slice A3 40 c3] W (fun e w'=>e=.returned (.tuple #[.agg (agi (chI m a l)),.int .i64 (chS m a l),.int .i64 0])/\Bw W w') from
  (ao9 A9 A3 c9 c3 40 40 (chD m a l) (chR a) W h1 f (PX ha) GL.o (aeI ha) GW.o).mono fun e w' ⟨h1,f⟩=>⟨by
    unfold seX seS at h1;rw[aeJ ha,if_pos rfl,if_pos rfl] at h1;exact h1,f⟩)
 have KBd:=af (fun W=>show Cl 76 #[.agg (agi (chI m a l)),.int .i64 (chS m a l),.int .i64 4096] W (fun e w'=> ∃A c,e=.returned (.tuple #[.slice A 40 c,.int .i64 0])/\Own w' W.heap.size A c (blL (chI m a l) (chS m a l) 4096)/\Bw W w') from
  (ac9 (chI m a l) (chS m a l) 4096 W AQ ah ah).mono fun e w' ⟨A,c,h1,f,n⟩=>⟨A,c,by rw[h1,PY,Jz];rfl,f,n⟩)
 have KF2:=af (fun W gR A3 c3 A5 c5 (h1:Blk W gR 26 #[.slice A3 40 c3]) (f:Rs W W.heap.size A3 (chR a)) (n:Rs W W.heap.size A5 (blL (chI m a l) (chS m a l) 4096))=>show Cl 67 #[.slice A5 40 c5,.pointer (some ⟨gR,0,none⟩)] W (fun e w'=> ∃A c,e=.returned (.slice A 40 c)/\Own w' W.heap.size A c (chF m a l)/\Bw W w') from
  (KFd.o W gR A3 c3 h1 f W (aP _ _) A5 c5 _ n Jz (nN YG)).mono fun e w' ⟨A,c,h1,f,n⟩=>⟨A,c,ag5,f,n⟩)
 have KD1:=af (fun W A8 c8 A9 c9 (h1:Rs W W.heap.size A8 (ji m a l)) (f:Rs W W.heap.size A9 (chF m a l))=>show Cl 78 #[.slice A8 40 c8,.slice A9 40 c9] W (fun e w'=>e=.returned (.int .i64 (bQ (ji m a l) (chF m a l) 40))/\W=w') from
  afP A8 A9 c8 c9 40 40 _ _ W h1 f Jy (AU ha) (ax _) ah (iw AP) (iw ru))
 have KD2:=af (fun W A9 c9 (f:Rs W W.heap.size A9 (chF m a l))=>show Cl 78 #[.slice A9 40 c9,.slice A9 40 c9] W (fun e w'=>e=.returned (.int .i64 (bQ (chF m a l) (chF m a l) 40))/\W=w') from
  afP A9 A9 c9 c9 40 40 _ _ W f f (AU ha) (AU ha) (ax _) ah (iw ru) (iw ru))
 have dr1:=qy (iw (AP (m:=m) (a:=a) (l:=l))) (iw (ru (m:=m) (a:=a) (l:=l))) 40;have dr2:=qy (iw (ru (m:=m) (a:=a) (l:=l))) (iw (ru (m:=m) (a:=a) (l:=l))) 40;have dw:IntKind.i64.wrap (bQ (ji m a l) (chF m a l) 40*4096)=bQ (ji m a l) (chF m a l) 40*4096:=aV;have KO:=af (fun W (h:Ho w W m a A l)=>show Cl 77 #[.int .i64 (bQ (ji m a l) (chF m a l) 40*4096),.int .i64 (bQ (chF m a l) (chF m a l) 40)] W (fun e w'=>e=.returned (.int .i64 (chL m a l))/\W=w') from
  anC _ _ W (h.t1.below' h.B (ax _)) ah ah ah ah)
 have IL:=AQ (m:=m) (a:=a) (l:=l);obtain⟨T,hT⟩:=ak (chT m a l);generalize fH m.p (lm m a)=q2 at*
 obtain⟨Y,hY⟩:=ak (lm m a);rw[<-hY] at YL Y16 KM KLs;rw[<-hT] at KLs KPk PE KL2;obtain⟨G,hG⟩:=ak (chR a);rw[<-hG] at GL GI GW KRg KPk PE KFd KF1 KTg KFw KF2;have HGG:=af hG;clear hG;obtain⟨kL,hkL⟩:=ak ((chK m a l).1);obtain⟨kC,hkC⟩:=ak ((chK m a l).2.1);obtain⟨kE,hkE⟩:=ak ((chK m a l).2.2);rw[<-hkL,<-hkC,<-hkE] at KPk;rw[<-hkL] at KPs KF1;rw[<-hkC,<-hkE] at KNr;obtain⟨P,hP⟩:=ak (chP m a l);rw[<-hP] at KNr KGn KSc KL2;generalize dU m.e kL=Pa at*
 obtain⟨gv,hgv⟩:∃g,g=dJ P:=⟨_,rfl⟩;rw[<-hgv] at KGn KSc KL2;clear hgv;obtain⟨Vv,hVv⟩:∃V,V=chV m a l:=⟨_,rfl⟩;rw[<-hVv] at KF1 KSc KL2;clear hVv;generalize vG Vv gv 40=Sc at*
 obtain⟨TQ,hTQ⟩:∃V,V=ji m a l:=⟨_,rfl⟩;rw[<-hTQ] at KL2 KTg KD1 KO dr1 dw;have HTQ:=af hTQ;clear hTQ;obtain⟨D,hD⟩:∃V,V=chD m a l:=⟨_,rfl⟩;rw[<-hD] at KTg KFw;clear hD;have HU:=aj (chU m a l=(kL-20)::P::(chI m a l++[chS m a l,chL m a l])) (by rw[hkL,hP];rfl);generalize blL (chI m a l) (chS m a l) 4096=Bl at*
 generalize chF m a l=F at*
 generalize bQ TQ F 40=dC at*
 generalize bQ F F 40=dE at*
 generalize chL m a l=Lv at*
 generalize chS m a l=Sg at*
 generalize chI m a l=I at*
 generalize chU m a l=U at*
 obtain⟨i0,i1,i2,i3,rfl⟩:=xC IL;clear IL dr1 dr2;have HPP:=af hP;clear hP;have klr:=AO (m:=m) (a:=a) (l:=l);rw[<-hkL] at klr;have hkw:IntKind.i64.wrap (kL-20)=kL-20:=aV;have z:=af hkL;have HKC:=af hkC;have HKE:=af hkE;clear hkL hkC hkE;clear hV k M hl h16 hr T1 T2 GF;have HG:=af g;have HA:=af ha;have HY:=af hY;have HTT:=af hT;clear g ha hY hT;go_enter Tryz.func31,Tryz.ntmps31;go_upto_region 1 with(rw[HV.o];clear HV);go_cut[7,9] (fun s7 s9 wx=> ∃(A1:Oz) (c1:Nat),s7=.slice A1 40 c1/\s9=.int .i64 0/\Hy (Ho w wx m a A l)/\Hy (Rs wx wx.heap.size A1 Y))
 case first=>
  refine xQ (S:=fun W=>Ho w W m a A l) aB ?_;have S1:=af (Ho.below S0.o (bY _));change wpAnyH _ _ _ _ _ _ _ _ (World.drew _);obtain⟨V,hV⟩:=ak (V0.drew);rw[<-hV] at S1|-;clear hV S0;refine aI 0 (.agg (au a).toArray) rfl (pY az 73 (.tmp 4) rfl (w.heap.size+1) 0 rfl (au a) _ (fun W i=>IB.rangeAt i.F) bP rfl (by rw[bf,AL.o];exact bC)) S1.o ?_;refine aI 1 (.pointer (some ⟨w.heap.size,8,none⟩)) rfl (.inl ⟨az,fun W i=>by(first|rfl|go_simp)⟩) S1.o ?_;refine aI 2 (.agg (au m.p).toArray) rfl (pY az 52 (.tmp 30) rfl w.heap.size 8 rfl (au m.p) _ (fun W i=>MB.P i.J K0.o) aU rfl (by rw[bf,K0.o.p];exact aJ)) S1.o ?_;refine di (rs:=[3,9]) aB ay (bU rfl (fun K q=>?_) (bU rfl (fun K q=>?_) dA))
  ·
   rw[if_pos az];simp only[Act.put,bg,bD,bF,bG,bH,bI];refine QF _ _ rfl .i64 .i64 40 rfl rfl V.heap.size ah (ax _) ?_;intro N d hG;obtain⟨A1,hA1⟩:=ak (some (⟨V.heap.size,0,none⟩:Addr));rw[<-hA1] at d|-;have O2:=aj (Rs N N.heap.size A1 (List.replicate 40 0)) (d.reads);have Q2:=af (show Bw V N from(aP _ _).grown hG (ax _) ay);have O:=af (Ho.below S1.o Q2.o);clear d hG hA1;refine q.out _ _ O.o (fun _=>?_);refine di (rs:=[4,9]) aB ay (bU rfl (fun K q=>?_) (bU rfl (fun K q=>?_) dA))
   ·
    go_simp;(with_reducible refine(KM.o N A1 40 O2.o).mono ?_);rintro e W3 ⟨A2,c2,rfl,d,b⟩;have X:=af (Ho.below O.o b);have P3:=af d;have Q3:=af b;clear d b;rw[YL.o];go_simp;refine q.out _ _ X.o (fun _=>?_);refine aI 5 (.tuple #[.slice A2 40 c2,.agg (agi q2),.int .i64 0]) rfl (.inl ⟨az,fun W i=>by(first|rfl|go_simp)⟩) X.o ?_;refine aI 6 (.slice A2 40 c2) rfl (.inl ⟨az,fun W i=>by(first|rfl|go_simp)⟩) X.o ?_;refine aI 7 (.agg (agi q2)) rfl (.inl ⟨az,fun W i=>by(first|rfl|go_simp)⟩) X.o ?_;refine aI 8 (.int .i64 0) rfl (.inl ⟨az,fun W i=>by(first|rfl|go_simp)⟩) X.o ?_;refine di (rs:=[9]) aB ay (bU rfl (fun K q=>?_) dA);go_simp;have y:=af (Ho.below X.o (baqq _ (.cells (agi Z8) 52)));have Z4:=af (IB.new W3 52 Z8);obtain⟨W4,hW4⟩:=ak (W3.alloc (.cells (agi Z8) 52));have Q4:=aj (Bw W3 W4) (aaJ);rw[<-hW4] at y Z4;rw[dP] at hW4;rw[<-hW4];clear hW4;obtain⟨Q,s⟩:=ak (W3.heap.size);have GX:=aj (w.heap.size+3<=Q) (by rw[s];exact Blk.lt X.o.U);have GE:=af s;rw[<-s] at Z4|-;clear s;refine q.out _ _ y.o (fun _=>?_);refine aI 10 (.slice A2 40 c2) rfl (.inl ⟨az,fun W i=>by(first|rfl|go_simp)⟩) y.o ?_;refine di (rs:=[11]) aB ay (bU rfl (fun K q=>?_) dA);rw[if_pos az];simp only[Act.put,bg,bD,bF,bG,bH,bI];refine lF 52 (.tmp 8) (.tmp 35) rfl Q 0 (agi q2) rfl rfl FD wu (ik _) ?_;have u:=af (Ho.setC y.o GX.o (agi q2).toList 0);have RF:=aj (Rs (W4.setCells Q 0 (agi q2).toList) (W4.setCells Q 0 (agi q2).toList).heap.size A2 Y) (Rs.more (Rs.below P3.o.reads (show Bw W3 (W4.setCells Q 0 (agi q2).toList) from iJ CO _ _ _ Q4.o)) (dL Q4.o.size (by rw[Zl];exact ax _)));obtain⟨WF,hWF⟩:=ak (W4.setCells Q 0 (agi q2).toList);rw[<-hWF] at u RF|-;clear hWF;refine q.out _ _ u.o (fun _=>?_);refine aI 12 (.int .i64 0) rfl (.inl ⟨az,fun W i=>by(first|rfl|go_simp)⟩) u.o ?_;refine mO aB ?_ _;go_wp2_with fail;go_meet;exact⟨A2,c2,rfl,rfl,u,RF⟩
   
   go_simp;have X:=af (Ho.below O.o (baqq _ (.cells (agi Z8) 52)));have Z3:=af (IB.new N 52 Z8);obtain⟨W3,Z⟩:=ak (N.alloc (.cells (agi Z8) 52));have Q3:=aj (Bw N W3) (Mc);rw[<-Z] at X Z3;rw[dP] at Z;rw[<-Z];clear Z;obtain⟨Q,s⟩:=ak (N.heap.size);have GX:=aj (w.heap.size+3<=Q) (by rw[s];exact Blk.lt O.o.U);have GE:=af s;rw[<-s] at Z3|-;clear s;refine q.out _ _ X.o (fun _=>?_);refine di (rs:=[4]) aB ay (bU rfl (fun K q=>?_) dA);have O3:=af ((O2.o.below Q3.o).more Q3.o.size);go_simp;(with_reducible refine(KM.o W3 A1 40 O3.o).mono ?_);rintro e W4 ⟨A2,c2,rfl,d,b⟩;have y:=af (Ho.below X.o b);have P4:=af d;have Q4:=af b;clear d b;rw[YL.o];go_simp;refine q.out _ _ y.o (fun _=>?_);refine aI 5 (.tuple #[.slice A2 40 c2,.agg (agi q2),.int .i64 0]) rfl (.inl ⟨az,fun W i=>by(first|rfl|go_simp)⟩) y.o ?_;refine aI 6 (.slice A2 40 c2) rfl (.inl ⟨az,fun W i=>by(first|rfl|go_simp)⟩) y.o ?_;refine aI 7 (.agg (agi q2)) rfl (.inl ⟨az,fun W i=>by(first|rfl|go_simp)⟩) y.o ?_;refine aI 8 (.int .i64 0) rfl (.inl ⟨az,fun W i=>by(first|rfl|go_simp)⟩) y.o ?_;have Z4:=af (Blk.below' Z3.o Q4.o);refine aI 10 (.slice A2 40 c2) rfl (.inl ⟨az,fun W i=>by(first|rfl|go_simp)⟩) y.o ?_;refine di (rs:=[11]) aB ay (bU rfl (fun K q=>?_) dA);rw[if_pos az];simp only[Act.put,bg,bD,bF,bG,bH,bI];refine lF 52 (.tmp 8) (.tmp 35) rfl Q 0 (agi q2) rfl rfl FD wu (ik _) ?_;have u:=af (Ho.setC y.o GX.o (agi q2).toList 0);have RF:=af (show Rs (W4.setCells Q 0 (agi q2).toList) (W4.setCells Q 0 (agi q2).toList).heap.size A2 Y from(Own.setCs (g:=Q) (Blk.lt Z3.o) (agi q2).toList 0 _ P4.o).reads);obtain⟨WF,hWF⟩:=ak (W4.setCells Q 0 (agi q2).toList);rw[<-hWF] at u RF|-;clear hWF;refine q.out _ _ u.o (fun _=>?_);refine aI 12 (.int .i64 0) rfl (.inl ⟨az,fun W i=>by(first|rfl|go_simp)⟩) u.o ?_;refine mO aB ?_ _;go_wp2_with fail;go_meet;exact⟨A2,c2,rfl,rfl,u,RF⟩
  
  go_simp;have O:=af (Ho.below S1.o (baqq _ (.cells (agi Z8) 52)));have Z2:=af (IB.new V 52 Z8);obtain⟨N,hW2⟩:=ak (V.alloc (.cells (agi Z8) 52));have Q2:=aj (Bw V N) (Md);rw[<-hW2] at O Z2;rw[dP] at hW2;rw[<-hW2];clear hW2;obtain⟨Q,s⟩:=ak (V.heap.size);have GX:=aj (w.heap.size+3<=Q) (by rw[s];exact Blk.lt S1.o.U);have GE:=af s;rw[<-s] at Z2|-;clear s;refine q.out _ _ O.o (fun _=>?_);refine di (rs:=[3]) aB ay (bU rfl (fun K q=>?_) dA);rw[if_pos az];simp only[Act.put,bg,bD,bF,bG,bH,bI];refine QF _ _ rfl .i64 .i64 40 rfl rfl N.heap.size ah (ax _) ?_;intro W3 d hG;obtain⟨A1,hA1⟩:=ak (some (⟨N.heap.size,0,none⟩:Addr));rw[<-hA1] at d|-;have O3:=aj (Rs W3 W3.heap.size A1 (List.replicate 40 0)) (d.reads);have Q3:=af (show Bw N W3 from(aP _ _).grown hG (ax _) ay);have X:=af (Ho.below O.o Q3.o);clear d hG hA1;refine q.out _ _ X.o (fun _=>?_);have Z3:=af (Blk.below' Z2.o Q3.o);refine di (rs:=[4]) aB ay (bU rfl (fun K q=>?_) dA);go_simp;with_reducible refine(KM.o W3 A1 40 O3.o).mono ?_
  rintro e W4 ⟨A2,c2,rfl,d,b⟩;have y:=af (Ho.below X.o b);have P4:=af d;have Q4:=af b;clear d b;rw[YL.o];go_simp;refine q.out _ _ y.o (fun _=>?_);refine aI 5 (.tuple #[.slice A2 40 c2,.agg (agi q2),.int .i64 0]) rfl (.inl ⟨az,fun W i=>by(first|rfl|go_simp)⟩) y.o ?_;refine aI 6 (.slice A2 40 c2) rfl (.inl ⟨az,fun W i=>by(first|rfl|go_simp)⟩) y.o ?_;refine aI 7 (.agg (agi q2)) rfl (.inl ⟨az,fun W i=>by(first|rfl|go_simp)⟩) y.o ?_;refine aI 8 (.int .i64 0) rfl (.inl ⟨az,fun W i=>by(first|rfl|go_simp)⟩) y.o ?_;have Z4:=af (Blk.below' Z3.o Q4.o);refine aI 10 (.slice A2 40 c2) rfl (.inl ⟨az,fun W i=>by(first|rfl|go_simp)⟩) y.o ?_;refine di (rs:=[11]) aB ay (bU rfl (fun K q=>?_) dA);rw[if_pos az];simp only[Act.put,bg,bD,bF,bG,bH,bI];refine lF 52 (.tmp 8) (.tmp 35) rfl Q 0 (agi q2) rfl rfl FD wu (ik _) ?_;have u:=af (Ho.setC y.o GX.o (agi q2).toList 0);have RF:=af (show Rs (W4.setCells Q 0 (agi q2).toList) (W4.setCells Q 0 (agi q2).toList).heap.size A2 Y from(Own.setCs (g:=Q) (Blk.lt Z3.o) (agi q2).toList 0 _ P4.o).reads);obtain⟨WF,hWF⟩:=ak (W4.setCells Q 0 (agi q2).toList);rw[<-hWF] at u RF|-;clear hWF;refine q.out _ _ u.o (fun _=>?_);refine aI 12 (.int .i64 0) rfl (.inl ⟨az,fun W i=>by(first|rfl|go_simp)⟩) u.o ?_;refine mO aB ?_ _;go_wp2_with fail;go_meet;exact⟨A2,c2,rfl,rfl,u,RF⟩
 case rest=>
  obtain⟨A1,c1,rfl,rfl,L1,R1⟩:=hcut;clear S0 KM;go_wp2_with(first
   |(go_at_call 65;(with_reducible refine(KLs.o wc A c A1 c1 (L1.o.L.more L1.o.B.size) R1.o).mono ?_);rintro e w2 ⟨A2,c2,rfl,d,b⟩;have O:=af (L1.o.below b);have R2:=af d.reads;clear d b)
   |(refine aK 73 (.tmp 4) a 9 O.o.F bP bC AL.o ?_))
  refine(KRg.o w2).mono ?_;rintro e w3 ⟨A3,c3,rfl,d,b⟩;have X:=af (O.o.below b);have R3:=af ((R2.o.below b).more b.size);have G3:=af d.reads;clear d b;have P4:=af (Hp.start (c3:=c3) X.o G3.o R3.o);obtain⟨V4,hV4⟩:∃V,V=w3.alloc (.cells #[.slice A3 40 c3] 26):=⟨_,rfl⟩;rw[<-hV4] at P4;obtain⟨gR,hgR⟩:∃g,g=w3.heap.size:=⟨_,rfl⟩;rw[<-hgR] at P4;have HV4:=af hV4.symm;have HGR:=af hgR.symm;clear hV4 hgR;go_wp2_with(first
   |(rw[HV4.o];clear HV4)
   |(refine bZ rfl 53 (.tmp 47) rfl _ _ rfl (au m.e) _ (P4.o.L.J.E K0.o) iV rfl HI80.o ?_))
  rw[HGR.o];refine(KPk.o V4 gR A2 c2 (KFd.o V4 _ _ _ P4.o.C P4.o.G) P4.o.R).mono ?_;rintro e w5 ⟨rfl,b⟩;have P5:=af (P4.o.below b);clear b;go_wp2_with(go_at_call 70;(with_reducible refine(KNr.o w5 P5.o.L).mono ?_);rintro e w6 ⟨rfl,b⟩;have P6:=af (P5.o.below b);clear b);have Q7:=af (Hq.start P6.o [kL-20,P,0,0,0,0,0,0]);obtain⟨V7,hV7⟩:∃V,V=w6.alloc (.cells (agi [kL-20,P,0,0,0,0,0,0]) 78):=⟨_,rfl⟩;rw[<-hV7] at Q7;rw[show agi [kL-20,P,0,0,0,0,0,0]= #[.int .i64 (kL-20),.int .i64 P,.int .i64 0,.int .i64 0,.int .i64 0,.int .i64 0,.int .i64 0,.int .i64 0] from rfl] at hV7;rw[<-hV7];clear hV7;obtain⟨gS,hgS⟩:∃g,g=w6.heap.size:=⟨_,rfl⟩;rw[<-hgS] at Q7|-;clear hgS;refine(KGn.o V7 Q7.o.L).mono ?_;rintro e W ⟨rfl,rfl⟩;go_wp2_with(refine bZ rfl 53 (.tmp 69) rfl _ _ rfl (au m.e) _ (Q7.o.L.J.E K0.o) iV rfl HI80.o ?_);refine(KPs.o V7).mono ?_;rintro e w8 ⟨A5,c5,rfl,d,b⟩;have Q8:=af (Q7.o.below b);have R8:=af d.reads;clear d b;go_wp2_with(first
   |(go_at_call 67;(with_reducible refine(KF1.o w8 gR A3 c3 A5 c5 Q8.o.C Q8.o.g R8.o).mono ?_);rintro e w9 ⟨A6,c6,rfl,d,b⟩;have Q9:=af (Q8.o.below b);have R9:=af d.reads;clear d b)
   |(go_at_call 73;(with_reducible refine(KSc.o w9 A6 c6 R9.o).mono ?_);rintro e w10 ⟨A7,c7,rfl,d,b⟩;have Q10:=af (Q9.o.below b);have R10:=af d.reads;clear d b)
   |(go_at_call 65;(with_reducible refine(KL2.o w10 A2 c2 A7 c7 Q10.o.t R10.o).mono ?_);rintro e w11 ⟨A8,c8,rfl,d,b⟩;have Q11:=af (Q10.o.below b);have O11:=af d;have cb:=Blk.cell Q11.o.C 0;clear d b))
  refine(KTg.o w11 A8 c8 A3 c3 (O11.o.reads.more (ax _)) Q11.o.g).mono ?_;rintro e w12 ⟨A9,c9,rfl,d,b⟩;have Q12:=af (Q11.o.below b);have O12:=af (O11.o.below b);have R12:=af d.reads;clear d b cb;have cb:=Blk.cell Q12.o.C 0;go_wp2_with fail;refine(KFw.o w12 A9 c9 A3 c3 R12.o Q12.o.g).mono ?_;rintro e w13 ⟨rfl,b⟩;have Q13:=af (Q12.o.below b);have O13:=af (O12.o.below b);clear b cb;have Q14:=af (Q13.o.sets (us':=[kL-20,P,i0,i1,i2,i3,0,0]) (au [i0,i1,i2,i3]) 2 (IB.set_ (IB.set_ (IB.set_ (IB.set_ Q13.o.S 2 i0) 3 i1) 4 i2) 5 i3));have H:=aj (w13.there gS 2 (agi [i0,i1,i2,i3]).size) (fun j hj=>by
   have h:=Blk.there Q13.o.S (2+j) (by show 2+j<8;have:j<4:=hj;omega);rwa [qK] at h)
  obtain⟨V14,hV14⟩:∃V,V=w13.setCells gS 2 (au [i0,i1,i2,i3]):=⟨_,rfl⟩;have O14:=af (Own.setCs (g:=gS) (by have:=Q9.o.lt;have:=Q10.o.lt;exact this) (au [i0,i1,i2,i3]) 2 _ O13.o);rw[<-hV14] at Q14 O14;have HV14:=af hV14.symm;clear hV14;have c6:V14.cell? ⟨gS,6,none⟩=some (.int .i64 0):=Q14.o.S.cell 6 ay;have f6:V14.frozen? ⟨gS,6,none⟩=false:=Blk.frozen Q14.o.S 6;have Q15:=aj (Hq w (V14.setCell ⟨gS,6,none⟩ (.int .i64 Sg)) m a A l gR A3 c3 G A2 T gS [kL-20,P,i0,i1,i2,i3,Sg,0]) (Q14.o.sets [.int .i64 Sg] 6 (IB.set_ Q14.o.S 6 Sg));have O15:=aj (Own (V14.setCell ⟨gS,6,none⟩ (.int .i64 Sg)) w10.heap.size A8 c8 TQ) (Own.setCs (g:=gS) Q10.o.lt [.int .i64 Sg] 6 _ O14.o);obtain⟨V15,hV15⟩:∃V,V=V14.setCell ⟨gS,6,none⟩ (.int .i64 Sg):=⟨_,rfl⟩;rw[<-hV15] at Q15 O15;have HV15:=af hV15.symm;clear hV15;have d6:V15.cell? ⟨gS,6,none⟩=some (.int .i64 Sg):=Q15.o.S.cell 6 ay;have SZ4:Hy ((Tryz.prog.info? 76).map (·.size)=some (agi [i0,i1,i2,i3]).size):=af JE;have HI4:Hy ((Tryz.prog.info? 76).map (·.size)=some (au [i0,i1,i2,i3]).length):=af JE;go_wp2_with(first
   |(rw[HV15.o];clear HV15)
   |(refine iY rfl 76 (.tmp 95) (.tmp 92) rfl gS 2 (agi [i0,i1,i2,i3]) rfl rfl H.o SZ4.o (ik _) ?_;rw[show(agi [i0,i1,i2,i3]).toList=au [i0,i1,i2,i3] from rfl,HV14.o])
   |(refine bZ rfl 76 (.tmp 98) rfl _ _ rfl (au [i0,i1,i2,i3]) _ (Q15.o.S.mid 2 4 ay) iO rfl HI4.o ?_))
  refine(KBd.o V15).mono ?_;rintro e w16 ⟨A10,c10,rfl,d,b⟩;have Q16:=af (Q15.o.below b);have O16:=af (O15.o.below b);have R16:=af d.reads;clear d b d6 c6 f6;go_wp2_with fail;refine(KF2.o w16 gR A3 c3 A10 c10 Q16.o.C Q16.o.g R16.o).mono ?_;rintro e w17 ⟨A11,c11,rfl,d,b⟩;have Q17:=af (Q16.o.below b);have O17:=af (O16.o.below b);have R17:=af d.reads;clear d b;have c7:w17.cell? ⟨gS,7,none⟩=some (.int .i64 0):=Q17.o.S.cell 7 ay;have f7:w17.frozen? ⟨gS,7,none⟩=false:=Blk.frozen Q17.o.S 7;have Q18:=aj (Hq w (w17.setCell ⟨gS,7,none⟩ (.int .i64 Lv)) m a A l gR A3 c3 G A2 T gS [kL-20,P,i0,i1,i2,i3,Sg,Lv]) (Q17.o.sets [.int .i64 Lv] 7 (IB.set_ Q17.o.S 7 Lv));obtain⟨V18,hV18⟩:∃V,V=w17.setCell ⟨gS,7,none⟩ (.int .i64 Lv):=⟨_,rfl⟩;rw[<-hV18] at Q18;have HV18:=af hV18.symm;clear hV18;go_wp2_with(first
   |(rw[HV18.o];clear HV18)
   |(go_at_call 78;(first|(with_reducible refine(KD1.o w17 A8 c8 A11 c11 O17.o.reads R17.o).mono ?_)|(with_reducible refine(KD2.o w17 A11 c11 R17.o).mono ?_));rintro e w' ⟨rfl,rfl⟩)
   |(go_at_call 77;(with_reducible refine(KO.o w17 Q17.o.L).mono ?_);rintro e w' ⟨rfl,rfl⟩)
   |(refine aK 78 (.tmp 18) [kL-20,P,i0,i1,i2,i3,Sg,Lv] 8 Q18.o.S yU rG rfl ?_)
   |(refine aQ 78 (.tmp 6) (.tmp 117) Zs8 [kL-20,P,i0,i1,i2,i3,Sg,Lv] 8 Q18.o.L.U rG rfl rfl ?_))
  refine aX (v:=_) (hR _ _ _ 78 [kL-20,P,i0,i1,i2,i3,Sg,Lv] _ 8 rfl (IB.setRow Q18.o.L.U _) yU rfl rG rfl) rfl ?_;exact⟨by rw[HU.o];rfl,aS Q18.o.L.B ah _⟩
theorem apf(w:Wd)(v:Value){p q:Addr}(h:q.block≠p.block):(w.setCell p v).cell? q=w.cell? q:=by
 unfold World.cell?;rw[lV w p v q.block h]
def lw(l:Lz)(k:Nat):Lz:=(List.range 9).map (fun j=>if j<k then Ef (lu l (jB l j)) j else 0)
theorem uo(l:Lz)(k:Nat):(lw l k).length=9:=by simp[lw]
theorem apg(l:Lz):lw l 0=Z9:=by
 refine dM (by rw[uo];rfl) fun j hj=>?_;rw[uo] at hj;unfold lw Z9;exact ai6
theorem aph(l:Lz){k:Nat}(a:k<9):(lw l k).set k (Ef (lu l (jB l k)) k)=lw l (k+1):=by
 refine dM (by rw[fP,uo,uo]) fun j hj=>?_;rw[fP,uo] at hj;by_cases e:k=j
 ·subst e
  rw[gQ _ _ _ (by rw[uo];exact a)];unfold lw;rw[bJ _ hj,if_pos ah]
 rw[gV _ _ e];unfold lw;exact GH
theorem api(l:Lz):lw l 9=fM l (lu l) 9:=by
 refine dM (by rw[uo,ry]) fun j a=>?_;rw[uo] at a;unfold lw fM;rw[bJ _ a,bJ _ a,if_pos a,if_pos a]
def rJ(l:Lz)(k j:Nat):Int:=if j<k then lu l (jB l j) else jB l j
def vK(l:Lz)(j:Nat):Int:=fZ l j (120-j)
theorem Zn(X:Nat->Int)(k:Nat)(z:Int):upX X k z k=z:=if_pos rfl
theorem apj(X:Nat->Int)(k:Nat)(y z:Int)(j:Nat):upX (upX X k y) k z j=upX X k z j:=by
 unfold upX;split<;>rfl
theorem apk(l:Lz)(k j:Nat):upX (rJ l k) k (lu l (jB l k)) j=rJ l (k+1) j:=by
 unfold upX rJ;by_cases e:j=k
 ·subst e
  rw[if_pos rfl,if_pos ah]
 rw[if_neg e];by_cases h:j<k
 ·rw[if_pos h,if_pos ah]
 rw[if_neg h,if_neg ah]
theorem apl(l:Lz)(k j:Nat):upX (vK l) k (fZ l k (120-k)) j=vK l j:=by
 unfold upX vK;split
 ·rename_i e;rw[e]
 rfl
theorem apm(l:Lz)(j:Nat):upX (vK l) 0 (fZ l 0 120+1) j=rJ l 0 j:=by
 unfold upX vK rJ jB fG;rw[if_neg (show¬j<0 from ah)]
theorem apn(A:Oz)(c:Nat)(l:Lz)(w:Wd)(hr:Rs w w.heap.size A l)(hn:l.length=120)(g:aG l=true):
 Cl 42 #[.slice A 120 c] w (YO l w):=by
 have hR:=sG (fn:=Tryz.f42) (p:=2) (q:=3) (r:=4) (ty:=73) rfl;have KR:=af (fun(W:Wd) (h:Rs W W.heap.size A l)=>mX A c 120 W.heap.size l W h hn ah);rw[g] at KR;have G:=aj (fU l) (gU g);have HR:=af hr;have HN:=af hn;have B0:=((baqq w (.cells (agi Z9) 73)).alloc ay (.cells (agi Z9) 73));have M:=Blk.alloc (IB.new w 73 Z9) (.cells (agi Z9) 73);have R0:=IB.new (w.alloc (.cells (agi Z9) 73)) 73 Z9;simp only[bT] at R0;clear hr hn g;go_enter Tryz.func42,Tryz.ntmps42;go_wp2_with fail;refine(KR.o _ ((HR.o.below B0).more B0.size)).mono ?_;rintro e w1 ⟨rfl,rfl⟩;have BH:=af B0;have I1:=aj (IB ((w.alloc (.cells (agi Z9) 73)).alloc (.cells (agi Z9) 73)) w.heap.size 73 Z9) (M);have R1:=aj (IB ((w.alloc (.cells (agi Z9) 73)).alloc (.cells (agi Z9) 73)) (w.heap.size+1) 73 Z9) (R0);clear B0 M R0;obtain⟨V,hV⟩:=ak (((w.alloc (.cells (agi Z9) 73)).alloc (.cells (agi Z9) 73)));have SV:=aj (V.heap.size=w.heap.size+2) (Gt);rw[<-hV] at I1 R1 BH|-;clear hV;go_wp2_with(at_make;refine nK rfl _ _ rfl .i64 .i64 120 rfl rfl (w.heap.size+2) ah (by have:=SV.o;omega) ?_;intro w1 hO hG;have O1:=af hO;have G1:=af hG;clear hO hG);obtain⟨z,hgw⟩:=ak (V.heap.size);have t:=aj (Own w1 (w.heap.size+2) (some ⟨z,0,none⟩) 120 (iR l 0)) (by rw[aeT,hgw];exact O1.o);have GW:=af (show z=w.heap.size+2 by rw[hgw];exact SV.o);rw[<-hgw];have I2:=af (Blk.grown I1.o G1.o ay);have R2:=af (Blk.grown R1.o G1.o ay);have B2:=af (BH.o.grown G1.o BH.o.size ay);clear hgw SV I1 R1 BH O1 G1;go_loopw[25] (fun iv wr=> ∃i:Nat,i<=120/\iv=.int .i64 i/\Hy (IB wr w.heap.size 73 Z9)/\Hy (IB wr (w.heap.size+1) 73 Z9)/\Hy (Own wr (w.heap.size+2) (some ⟨z,0,none⟩) 120 (iR l i))/\Hy (Bw w wr)) (fun iv _=>120-(intOf iv).toNat)
 case atStart=>exact⟨0,ah,rfl,I2,R2,t,B2⟩
 case round=>
  clear I2 R2 t B2;obtain⟨i,hi,rfl,E,HQ,HW,H⟩:=hrel;by_cases hlt:i<120
  ·obtain⟨ad,rfl,hadb,c0⟩:=(HR.o.below H.o).at_ (k:=i) iT
   have x16:=G.o i;have yr:=YJ (i:Nat);have HSet:=af (aeU l hlt);have L:=aj (fJ l i=(l.getD i 0*wgt (i:Nat)+16384)/32768) (rfl);have KW:=af (fun W=>anW (i:Nat) W);generalize l.getD i 0=x at*
   generalize wgt (i:Nat)=y at*
   have pr:=iU (x:=x) (X:=32768) (y:=y) (Y:=32767) ah ah ⟨ah,ah⟩ ⟨ah,ah⟩;have p1: -1073709056<=x*y:=ah;have p2:x*y<=1073709056:=ah;have in0:(0:Int)<=i:=ah;have in1:(i:Int)<120:=ah;have hw1:IntKind.i64.wrap (x*y)=x*y:=aV;have hw2:IntKind.i64.wrap (x*y+16384)=x*y+16384:=aV;have KD:=af (fun W=>Io (x*y+16384) W ah ah);have hne:ad.block≠z:=(by have:=GW.o;omega);have hne2:z≠ad.block:=ah;have hsz:=H.o.size;clear pr x16 yr;go_wp2;go_region_held3 (fun w'=>w'.cell? (ad.add i)=some (.int .i64 x)) (first|go_keep|(refine(apf _ _ (by rw[dV];exact hne)).trans ?_;assumption)) (first
    |(go_at_call 95;(with_reducible refine(KW.o _).mono ?_);rintro e' w' ⟨rfl,rfl⟩)
    |(go_at_call 94;(with_reducible refine(KD.o wr.drew).mono ?_);rintro e' wD ⟨rfl,hD⟩;have LD:=af (((aP wr.heap.size wr).drew).trans hD);have cD:World.cell? wD (ad.add i)=some (.int .i64 x):=(LD.o.cell CS).trans c0;have WD:=af (HW.o.below LD.o);have cwD:=WD.o.cell i (by rw[uh];exact hlt);have fwD:=WD.o.frozen i;clear hD))
   all_goals
    rename_i hHeldZ;clear hHeldZ cD cwD fwD c0 hw1 hw2;try simp only[Exit.then]
    have NI:=af (Blk.far (Blk.below' E.o LD.o) (p:=⟨z,i,none⟩) (by show w.heap.size≠z;have:=GW.o;omega) (.int .i64 ((x*y+16384)/32768)));have NQ:=af (Blk.far (Blk.below' HQ.o LD.o) (p:=⟨z,i,none⟩) (by show w.heap.size+1≠z;have:=GW.o;omega) (.int .i64 ((x*y+16384)/32768)));have NW:=aj (Own (wD.setCell ⟨z,i,none⟩ (.int .i64 ((x*y+16384)/32768))) (w.heap.size+2) (some ⟨z,0,none⟩) 120 (iR l (i+1))) (by rw[<-HSet.o,L.o];exact WD.o.set_ i (by rw[uh];exact hlt) _);have K:=af ((aH H.o LD.o).setCell (p:=⟨z,i,none⟩) (by show w.heap.size<=z;have:=GW.o;omega) (.int .i64 ((x*y+16384)/32768)));go_wp2;go_roundw;case rel=>exact⟨i+1,ah,aT,NI,NQ,NW,K⟩
    case measure=>exact aW
  obtain rfl:i=120:=ah;have hgwlt:z<wr.heap.size:=(HW.o.lt _ rfl).2;have SC:=af (show Cs w (wr.alloc (.cells #[.pointer none,.pointer none,.pointer none,.pointer none,.pointer none,.pointer none,.pointer none,.pointer none,.pointer none] 141)) Z9 (iR l 120) z wr.heap.size 0 (fun _=>0) (vK l) from
   ⟨Blk.alloc E.o _,Blk.alloc HQ.o _,HW.o.alloc _,by rw[apd];exact Blk.new wr _ _,fun j hj=>ah,fun j hj=>ah,fun i j hij hj=>ah,by have:=GW.o;omega,hgwlt,H.o.alloc H.o.size _⟩)
  go_wp2;obtain⟨gs,hgs⟩:=ak (wr.heap.size);obtain⟨V2,hV2⟩:=ak (wr.alloc (.cells #[.pointer none,.pointer none,.pointer none,.pointer none,.pointer none,.pointer none,.pointer none,.pointer none,.pointer none] 141));rw[<-hV2,<-hgs] at SC|-;try rw[show((120:Nat):Int)=120 from rfl]
  clear hV2 hgs hgwlt E HQ HW H;go_loopw[41] (fun kv wr=> ∃(k:Nat) (P:Nat->Nat),k<=9/\kv=.int .i64 k/\Hy (Cs w wr Z9 (iR l 120) z gs k P (vK l))) (fun kv _=>9-(intOf kv).toNat)
  case atStart=>exact⟨0,_,ah,rfl,SC⟩
  case round=>
   clear SC;obtain⟨k,P,hk,rfl,C⟩:=hrel;by_cases f:k<9
   ·have hdec:decide ((k:Int)<9)=true:=aC
    have k0:(0:Int)<=k:=ah;have k9:(k:Int)<9:=ah;have cg:(wr.alloc (.cells #[.bool false,.slice none 0 0] 144)).cell? ⟨gs,k,none⟩=some (.pointer none):=by
     rw[Blk.cell (Blk.alloc C.o.S _) k,afW P k f];unfold EH;rw[if_neg ah]
    have fg:(wr.alloc (.cells #[.bool false,.slice none 0 0] 144)).frozen? ⟨gs,k,none⟩=false:=Blk.frozen (Blk.alloc C.o.S _) k;have HP:=af (C.o.push f);go_wp2;obtain⟨wo,hwo⟩:=ak ((wr.alloc (.cells #[.bool false,.slice none 0 0] 144)).setCell ⟨gs,k,none⟩ (.pointer (some ⟨wr.heap.size,0,none⟩)));rw[<-hwo] at HP|-;obtain⟨F,hP2⟩:=ak (upN P k wr.heap.size);rw[<-hP2] at HP;clear hwo hP2 cg fg C;go_loopw[10] (fun iv wr=> ∃i:Nat,i+k<=120/\iv=.int .i64 i/\Hy (Cs w wr Z9 (iR l 120) z gs (k+1) F (upX (vK l) k (fZ l k i)))) (fun iv _=>120-(intOf iv).toNat)
    case atStart=>exact⟨0,ah,rfl,HP⟩
    case round=>
     clear HP;obtain⟨i,hi,rfl,C⟩:=hrel;by_cases hlt:i+k<120
     ·obtain⟨m,O⟩:=ak (i+k)
      have cp:=C.o.ptr (j:=k) ah f;have ci:=C.o.at_ (j:=i) MV;have cm:=C.o.at_ (j:=m) MV;have CI:=af (Qd l (j:=i) ah);have CM:=af (Qd l (j:=m) ah);have ST:=af (show fZ l k (i+1)=fZ l k i+fJ l i*fJ l m by
       unfold fZ;simp only[aN];unfold vH;rw[O])
      have sr:=Qb G.o k i ah;have r1:=Ee G.o i;have r2:=Ee G.o m;rw[CI.o] at ci;rw[CM.o] at cm;generalize fJ l i=x at*
      generalize fJ l m=y at*
      obtain⟨s,Z⟩:=ak (fZ l k i);rw[<-Z] at sr ST C;have pr:=iU (x:=x) (X:=32768) (y:=y) (Y:=32768) ah ah ⟨ah,ah⟩ ⟨ah,ah⟩;have p1: -1073741824<=x*y:=ah;have p2:x*y<=1073741824:=ah;have I:IntKind.i64.wrap ((i:Int)+(k:Nat))=(m:Nat):=aV;have hw1:IntKind.i64.wrap (x*y)=x*y:=aV;have i1:(i:Int)<120:=ah;have i2:(0:Int)<=i:=ah;have i3:(m:Int)<120:=ah;have i4:(0:Int)<=m:=ah;have LI:=aj (i<(iR l 120).length) (MV);have LM:=aj (m<(iR l 120).length) (MV);have KA:=af (fun W=>jM W (x*y) ah ah);have KS:=af (fun W b h1 h2=>uZ W (F k) (F k) b s (x*y) (IntAt.blk h1) h1 h2 (pJ ah ah) (pJ ah ah));have HM:=af O;have kk:k<k+1:=ah;clear pr r1 r2 sr Z O;go_wp2;go_region_held3 (fun w'=>w'.cell? ⟨gs,k,none⟩=some (.pointer (some ⟨F k,0,none⟩))/\w'.cell? ⟨z,i,none⟩=some (.int .i64 x)/\w'.cell? ⟨z,m,none⟩=some (.int .i64 y)) (go_keep) (first
       |(go_at_call 97;(with_reducible refine(KA.o wr.drew).mono ?_);rintro e' U ⟨bA,rfl,hbA,hIA,hBA⟩;have SA:=af (C.o.drew.below hBA);have d:=af hIA;have a0:=SA.o.ptr (j:=k) kk f;have a1:=SA.o.at_ (j:=i) LI.o;have a2:=SA.o.at_ (j:=m) LM.o;rw[CI.o] at a1;rw[CM.o] at a2;have XA:=SA.o.N k kk;rw[Zn] at XA;have XA:=af XA;clear hIA hBA)
       |(go_at_call 96;(with_reducible refine(KS.o U bA XA.o d.o).mono ?_);rintro e' wS ⟨rfl,J,D⟩;have SS:=af (SA.o.give (j:=k) kk J D);have ns0:=SS.o.ptr (j:=k) kk f;have ns1:=SS.o.at_ (j:=i) LI.o;have ns2:=SS.o.at_ (j:=m) LM.o;rw[CI.o] at ns1;rw[CM.o] at ns2;clear J D))
      all_goals
       rename_i hHeldZ;clear hHeldZ a0 a1 a2 cp ci cm I hw1;try simp only[Exit.then]
       have SN:=af (SS.o.congr (Y:=upX (vK l) k (fZ l k (i+1))) fun j hj=>by rw[apj,ST.o]);go_wp2;go_roundw;case rel=>exact⟨i+1,ah,aT,SN⟩
       case measure=>exact aW
     have SN:=aj (Cs w wr Z9 (iR l 120) z gs (k+1) F (vK l)) (C.o.congr fun j hj=>by rw[show i=120-k from ah];exact apl l k j);go_wp2;go_roundw;case rel=>exact⟨k+1,F,ah,aT,SN⟩
     case measure=>exact aW
   obtain rfl:k=9:=ah;have c0:=C.o.ptr (j:=0) ah ah;have sr:=Qb G.o 0 120 ah;have zr:=yO G.o;have HZ:=aj (fG l=fZ l 0 120+1) (rfl);obtain⟨s,Z⟩:=ak (fZ l 0 120);rw[<-Z] at sr HZ;have X0:=aj (IntAt wr (P 0) s) (by rw[Z];exact C.o.N 0 ah);have HSS:=af Z;have KA:=af (fun W=>nH W 1 ah ah);have KS:=af (fun W b h1 h2=>uZ W (P 0) (P 0) b s 1 (IntAt.blk h1) h1 h2 (pJ ah ah) (pJ ah ah));clear Z sr;go_wp2;go_region_held3 (fun w'=>w'.cell? ⟨gs,0,none⟩=some (.pointer (some ⟨P 0,0,none⟩))) (go_keep) (first
    |(go_at_call 98;(with_reducible refine(KA.o wr.drew).mono ?_);rintro e' U ⟨bA,rfl,hbA,hIA,hBA⟩;have SA:=af (C.o.drew.below hBA);have d:=af hIA;have a0:=SA.o.ptr (j:=0) ah ah;have XA:=af (X0.o.drew.below hBA (ax _));clear hIA hBA)
    |(go_at_call 96;(with_reducible refine(KS.o U bA XA.o d.o).mono ?_);rintro e' wS ⟨rfl,J,D⟩;have SS:=af (SA.o.give (j:=0) ah J D);have ns0:=SS.o.ptr (j:=0) ah ah;clear J D))
   all_goals
    rename_i hHeldZ;clear hHeldZ a0 c0;try simp only[Exit.then]
    have SY:=aj (Cs w wS (lw l 0) (iR l 120) z gs 9 P (rJ l 0)) (by rw[apg];exact SS.o.congr fun j hj=>by rw[HSS.o];exact apm l j);have KB:=af (ak8 wS (P 0) (fG l) (SY.o.N 0 ah) (pJ ah ah));have kr:=ae0 G.o;obtain⟨N,hN⟩:=ak (nY l);have hwK:IntKind.i64.wrap ((gG (fG l).natAbs:Nat)-31:Int)=N:=(by rw[hN,mM];unfold nY at*;omega);have HK:=af hN;rw[<-hN] at kr;clear hN zr SS SA d XA X0 C;go_wp2_with(go_at_call 99;(with_reducible refine KB.o.mono ?_);rintro e' w' ⟨rfl,rfl⟩);clear hwK ns0 KB KA KS;go_loopw[83] (fun kv wr=> ∃k:Nat,k<=9/\kv=.int .i64 k/\Hy (Cs w wr (lw l k) (iR l 120) z gs 9 P (rJ l k))) (fun kv _=>9-(intOf kv).toNat)
    case atStart=>exact⟨0,ah,rfl,SY⟩
    case round=>
     clear SY;obtain⟨k,hk,rfl,C⟩:=hrel;by_cases f:k<9
     ·have cp:=C.o.ptr (j:=k) f f
      have xr:=Qe l f;have zr:=yO G.o;have gr:=aoh G.o f;have HG:=aj (lu l (jB l k)=if 0<N then jB l k/2^N.toNat else jB l k*2^(-N).toNat) (by rw[HK.o];rfl);have HE:=af (aph l f);have XK:=aj (IntAt wr (P k) (jB l k)) (by have:=C.o.N k f;rwa [show rJ l k k=jB l k from if_neg ah] at this);have HY:=af (apk l k);obtain⟨y,hy⟩:=ak (lu l (jB l k));rw[<-hy] at gr HG HE HY;have k0:(0:Int)<=k:=ah;have k9:(k:Int)<9:=ah;generalize jB l k=x at*
      have xs:Sm x.natAbs:=pJ ah ah;have XS:=af xs;have q1:=iU (x:=y) (X:=2147483648) (y:=(k:Int)) (Y:=8) ah ah ⟨ah,ah⟩ ⟨ah,ah⟩;have q2:=iU (x:=y*k) (X:=17179869184) (y:=(k:Int)) (Y:=8) ah ah ⟨ah,ah⟩ ⟨ah,ah⟩;have hw1:IntKind.i64.wrap (y*k)=y*k:=aV;have hw2:IntKind.i64.wrap (y*k*k)=y*k*k:=aV;have hw3:IntKind.i64.wrap (y-y*k*k/8192)=y-y*k*k/8192:=aV;have KD:=af (fun W=>akF (y*k*k) W ah ah);have KI:=af (fun W b h=>qm W b y h ah ah);clear xs q1 q2 gr zr xr hy;by_cases Z:0<N
      ·obtain⟨n,rfl⟩:∃n:Nat,N=n:=⟨N.toNat,ah⟩
       have hgt:decide (0<(n:Int))=true:=(by simpa using Z);have hu:IntKind.u64.wrap (n:Int)=n:=uN;have hv:=HG.o;rw[if_pos Z,uA] at hv;have HV:=af hv;have T:=af (Ih wr.drew (P k) (P k) x n (IntAt.blk XK.o.drew) XK.o.drew XS.o ah);rw[<-HV.o] at T;clear hv;go_wp2;go_region_held3 (fun w'=>w'.cell? ⟨gs,k,none⟩=some (.pointer (some ⟨P k,0,none⟩))) (go_keep) (first
        |(go_at_call 100;(with_reducible refine T.o.mono ?_);rintro e' wS ⟨rfl,J,D⟩;have SS:=af (C.o.drew.give (j:=k) f J D);have ns0:=SS.o.ptr (j:=k) f f;clear J D))
       all_goals
        rename_i hHeldZ;clear hHeldZ cp;try simp only[Exit.then]
        have SY:=aj (Cs w wS (lw l k) (iR l 120) z gs 9 P (rJ l (k+1))) (SS.o.congr fun j hj=>HY.o j);have YK:=aj (IntAt wS (P k) y) (by have:=SS.o.N k f;rwa [Zn] at this);clear SS;go_wp2_with(first
         |(go_at_call 102;(with_reducible refine(KI.o wS (P k) YK.o).mono ?_);rintro e' w' ⟨rfl,rfl⟩)
         |(go_at_call 94;(with_reducible refine(KD.o wS).mono ?_);rintro e' wD ⟨rfl,hD⟩;have SD:=af (SY.o.below hD);have qc:=IB.cell SD.o.Q k (by rw[uo];exact f);have qf:=Blk.frozen SD.o.Q k;clear hD))
        have SE:=aj (Cs w (wD.setCell ⟨w.heap.size+1,k,none⟩ (.int .i64 (y-y*k*k/8192))) (lw l (k+1)) (iR l 120) z gs 9 P (rJ l (k+1))) (by rw[<-HE.o];exact SD.o.setQ k (y-y*k*k/8192));go_roundw;case rel=>exact⟨k+1,ah,aT,SE⟩
        case measure=>exact aW
      obtain⟨n,rfl⟩:∃n:Nat,N= -(n:Int):=⟨(-N).toNat,ah⟩;have hgt:decide (0< -(n:Int))=false:=ay;have hu:IntKind.u64.wrap (n:Int)=n:=uN;have hu2:IntKind.i64.wrap (n:Int)=n:=aV;have hv:=HG.o;rw[if_neg Z,Le,uA] at hv;have HV:=af hv;have T:=af (zU wr.drew (P k) (P k) x n (IntAt.blk XK.o.drew) XK.o.drew XS.o ah);rw[<-HV.o] at T;clear hv;go_wp2;go_region_held3 (fun w'=>w'.cell? ⟨gs,k,none⟩=some (.pointer (some ⟨P k,0,none⟩))) (go_keep) (first
       |(go_at_call 101;(with_reducible refine T.o.mono ?_);rintro e' wS ⟨rfl,J,D⟩;have SS:=af (C.o.drew.give (j:=k) f J D);have ns0:=SS.o.ptr (j:=k) f f;clear J D))
      all_goals
       rename_i hHeldZ;clear hHeldZ cp;try simp only[Exit.then]
       have SY:=aj (Cs w wS (lw l k) (iR l 120) z gs 9 P (rJ l (k+1))) (SS.o.congr fun j hj=>HY.o j);have YK:=aj (IntAt wS (P k) y) (by have:=SS.o.N k f;rwa [Zn] at this);clear SS;go_wp2_with(first
        |(go_at_call 102;(with_reducible refine(KI.o wS (P k) YK.o).mono ?_);rintro e' w' ⟨rfl,rfl⟩)
        |(go_at_call 94;(with_reducible refine(KD.o wS).mono ?_);rintro e' wD ⟨rfl,hD⟩;have SD:=af (SY.o.below hD);have qc:=IB.cell SD.o.Q k (by rw[uo];exact f);have qf:=Blk.frozen SD.o.Q k;clear hD))
       have SE:=aj (Cs w (wD.setCell ⟨w.heap.size+1,k,none⟩ (.int .i64 (y-y*k*k/8192))) (lw l (k+1)) (iR l 120) z gs 9 P (rJ l (k+1))) (by rw[<-HE.o];exact SD.o.setQ k (y-y*k*k/8192));go_roundw;case rel=>exact⟨k+1,ah,aT,SE⟩
       case measure=>exact aW
     obtain rfl:k=9:=ah;have E:=af C.o.R;have HF:=af C.o.Q;have u:=af (uo l 9);have a:=af (IB.setRow E.o (lw l 9));have BE:=af (aS C.o.B (ax _) (agi (lw l 9)));go_wp2_with(first
      |(refine aK 73 (.tmp 5) (lw l 9) 9 HF.o bP mG u.o ?_)
      |(refine aQ 73 (.tmp 2) (.tmp 122) Z9 (lw l 9) 9 E.o mG rfl u.o ?_))
     refine aX (v:=_) (hR _ _ _ 73 (lw l 9) _ 9 rfl a.o bP rfl mG u.o) rfl ?_;exact⟨by rw[<-api,<-HK.o];rfl,BE.o⟩
theorem apo(A:Oz)(c n:Nat)(w:Wd)(e:n≠120):Cl 42 #[.slice A n c] w (Eg w 1):=by
 have hR:=sG (fn:=Tryz.f42) (p:=2) (q:=3) (r:=4) (ty:=73) rfl;have d:=(baqq w (.cells (agi Z9) 73)).alloc ay (.cells (agi Z9) 73);have M:=Blk.alloc (IB.new w 73 Z9) (.cells (agi Z9) 73);have b:=IB.new (w.alloc (.cells (agi Z9) 73)) 73 Z9;simp only[bT] at b;have a:=af (IB.setRow M Z9);have BE:=af (aS d (ax _) (agi Z9));have M:=aj (IB ((w.alloc (.cells (agi Z9) 73)).alloc (.cells (agi Z9) 73)) w.heap.size 73 Z9) (M);have b:=af b;have f:((n:Int) !=120)=true:=aC;have g: ¬(n:Int)=120:=ah;clear e;go_enter Tryz.func42,Tryz.ntmps42;go_wp2_with(first
  |(refine aK 73 (.tmp 5) Z9 9 b.o bP mG rfl ?_)
  |(refine aQ 73 (.tmp 2) (.tmp 17) Z9 Z9 9 M.o mG rfl rfl ?_))
 exact VQ
theorem apq(A:Oz)(c:Nat)(l:Lz)(w:Wd)(j:Rs w w.heap.size A l)(i:l.length=120)(g:aG l=false):Cl 42 #[.slice A 120 c] w (Eg w 2):=by
 have f:=af (fun(W:Wd) (h:Rs W W.heap.size A l)=>mX A c 120 W.heap.size l W h i ah);rw[g] at f;have k:=af j;have hR:=sG (fn:=Tryz.f42) (p:=2) (q:=3) (r:=4) (ty:=73) rfl;have b:=(baqq w (.cells (agi Z9) 73)).alloc ay (.cells (agi Z9) 73);have M:=Blk.alloc (IB.new w 73 Z9) (.cells (agi Z9) 73);have d:=IB.new (w.alloc (.cells (agi Z9) 73)) 73 Z9;simp only[bT] at d;have a:=af (IB.setRow M Z9);have BE:=af (aS b (ax _) (agi Z9));have M:=aj (IB ((w.alloc (.cells (agi Z9) 73)).alloc (.cells (agi Z9) 73)) w.heap.size 73 Z9) (M);have d:=af d;clear j i g;go_enter Tryz.func42,Tryz.ntmps42;go_wp2_with fail;refine(f.o _ ((k.o.below b).more b.size)).mono ?_;rintro e m ⟨rfl,rfl⟩;clear b;go_wp2_with(first
  |(refine aK 73 (.tmp 5) Z9 9 d.o bP mG rfl ?_)
  |(refine aQ 73 (.tmp 2) (.tmp 21) Z9 Z9 9 M.o mG rfl rfl ?_))
 exact VQ
def rM(l:Lz):Lz:=if l.length=120/\aG l=true then fM l (lu l) 9 else Z9
def EI(l:Lz):Int:=if l.length=120/\aG l=true then nY l else 0
def Bf(l:Lz)(w:Wd)(e:Ending)(w':Wd):Prop:=e=.returned (.tuple #[.agg (agi (rM l)),.int .i64 (EI l),.int .i64 (ug l)])/\Bw w w'
theorem afX(l:Lz):(rM l).length=9:=by
 unfold rM;split
 ·exact ry _ _ _
 rfl
theorem afY{w':Wd}(a:l.length=120)(b:aG l=true)(h:YO l w e w'):Bf l w e w':=by
 obtain⟨rfl,c⟩:=h;refine⟨?_,c⟩;unfold rM EI ug;rw[if_pos ⟨a,b⟩,if_pos ⟨a,b⟩,if_pos a,b];rfl
theorem afZ{w':Wd}(a:l.length≠120)(h:Eg w 1 e w'):Bf l w e w':=by
 obtain⟨rfl,b⟩:=h;refine⟨?_,b⟩;unfold rM EI ug;rw[if_neg (fun h=>a h.1),if_neg (fun h=>a h.1),if_neg a]
theorem af0{w':Wd}(b:l.length=120)(a:aG l=false)(h:Eg w 2 e w'):Bf l w e w':=by
 obtain⟨rfl,c⟩:=h;refine⟨?_,c⟩;unfold rM EI ug;rw[if_neg (fun h=>by rw[a] at h;exact absurd h.2 aA),if_neg (fun h=>by rw[a] at h;exact absurd h.2 aA),if_pos b,a];rfl
theorem apr(A:Oz)(c n:Nat)(l:Lz)(w:Wd)(d:Rs w w.heap.size A l)(a:l.length=n):Cl 25 #[.slice A n c] w (Bf l w):=by
 by_cases b:n=120
 ·subst b
  by_cases h2:aG l=true
  ·exact(an7 A c 120 l w d a h2).mono fun e w' h=>afY a h2 (aog (gU h2) h)
  exact(an9 A c l w d a zJ).mono fun e w' h=>af0 a zJ h
 exact(an8 A c n w b).mono fun e w' h=>afZ (by rw[a];exact b) h
theorem aps(A:Oz)(c n:Nat)(l:Lz)(w:Wd)(d:Rs w w.heap.size A l)(a:l.length=n):Cl 42 #[.slice A n c] w (Bf l w):=by
 by_cases b:n=120
 ·subst b
  by_cases h2:aG l=true
  ·exact(apn A c l w d a h2).mono fun e w' h=>afY a h2 h
  exact(apq A c l w d a zJ).mono fun e w' h=>af0 a zJ h
 exact(apo A c n w b).mono fun e w' h=>afZ (by rw[a];exact b) h
theorem apw(w:Wd):Cl 21 #[] w fun e w'=>e=.returned (.agg enB.ag)/\Bw w w':=by
 have hR:=afe (fn:=Tryz.f21) (p:=0) rfl;have KF:=af (fun W=>N7 W);have Z0:=af (ui w);have B0:=af (baqq w (.cells Tryz.zeroCells57 57));go_enter Tryz.func21,Tryz.ntmps21;exact ahX
