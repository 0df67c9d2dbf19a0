/- Lemmas. -/
import Derived.Test.YtaahbkbnfpajdaaGreatDoorZef0k
import Derived.Test.YtaahbkbnfpajdaaGreatDoorZef0v
import Derived.Test.YtaahbkbnfpajdaaGreatDoorZef0r
namespace Go.Proofs.YtaahbkbnfpajdaaGreatDoor
set_option linter.all false
set_option maxRecDepth 100000
set_option maxHeartbeats 8000000
open Go.RowKit
variable{f:Nat->Int}{A:Oz}
theorem aql(A:Oz)(c n g:Nat)(ring:Lz)(w:Wd)(f:Blk w g 26 #[.slice A n c])(h:Rs w w.heap.size A ring)(q:ring.length=n)(s:n<=1000):
 FoldFn 111 (.pointer (some ⟨g,0,none⟩)) w ring:=by
 intro W a j c' v i b p;have r:W.cell? ⟨g,0,none⟩=some (.slice A n c):=Blk.cell (Blk.below' f a) 0;have l:=af (anh A j c c' n 40 ring v W ((h.below a).more a.size) i q b ah ah);clear f h i a;go_enter Tryz.func111,Tryz.ntmps111;go_wp2_with fail;refine l.o.mono ?_;rintro e t ⟨A2,c2,rfl,d,a⟩;have m:=af d;have k:=af a;clear d a;go_wp2;go_ret;exact⟨A2,c2,rfl,m.o,k.o⟩
structure Fil(f:Nat->Int)(z ys:Lz)(k:Nat):Prop where
 l:ys.length=40
 a:∀j,ys.getD j 0=if j<k then f j else z.getD j 0
theorem Fil.start(f:Nat->Int){z:Lz}(h:z.length=40):Fil f z z 0:=⟨h,fun j=>by rw[if_neg ah]⟩
theorem Fil.next{z ys:Lz}{k:Nat}(h:Fil f z ys k)(c:k<40):Fil f z (ys.set k (f k)) (k+1):=⟨by simpa using h.l,fun j=>by
 by_cases e:k=j
 ·subst e
  rw[gQ _ _ _ (by rw[h.l];omega),if_pos ah]
 ·rw[gV _ _ e,h.a j]
  by_cases b:j<k
  ·rw[if_pos b,if_pos ah]
  ·rw[if_neg b,if_neg ah]⟩
theorem Fil.done{z ys:Lz}(h:Fil f z ys 40):ys=(List.range 40).map f:=Zi h.l fun j b=>by rw[h.a j,if_pos b]
theorem Fil.at_{z ys:Lz}{k:Nat}(h:Fil f z ys k):ys.getD k 0=z.getD k 0:=by rw[h.a k,if_neg ah]
theorem Zz(b:Nat):∀(vs:List Value) (o:Nat) (W:Wd),W.grownBy (W.setCells b o vs) (some b)
 |[],_,_=>⟨rfl,rfl,rfl,ax _,fun _ _ _=>rfl⟩
 |v::vs,o,W=>by
  have h:=Zz b vs (o+1) (W.setCell ⟨b,o,none⟩ v);exact⟨h.os,h.tape,h.output,dL uQ h.size,fun i hi a=>(h.block i (by simpa[World.setCell] using hi) a).trans (lV _ _ _ i (by intro e;exact a (by rw[e])))⟩
theorem aqm{w:Wd}{base c b:Nat}{xs:Lz}(h:Own w base A c xs)(d:∀a,A=some a->a.block≠b)(vs:List Value)(o:Nat):Own (w.setCells b o vs) base A c xs:=
 h.kept (Zz b vs o w) (fun a e x=>d a e (fQ x))
structure Ro(w W:Wd)(m:Mm)(a:Lz)(A:Oz)(l:Lz):Prop where
 J:MB W w.heap.size m
 F:IB W (w.heap.size+1) 73 a
 U:IB W (w.heap.size+2) 78 Zs8
 L:Rs W w.heap.size A l
 B:Bw w W
theorem Ro.below{w W c:Wd}{m:Mm}{a l:Lz}(s:Ro w W m a A l)(b:Bw W c):Ro w c m a A l:=
 ⟨Blk.below' s.J b,Blk.below' s.F b,Blk.below' s.U b,s.L.below (b.mono s.B.size),aH s.B b⟩
theorem Ro.setC{w W:Wd}{m:Mm}{a l:Lz}(s:Ro w W m a A l){g:Nat}(G:w.heap.size+3<=g)(vs:List Value)(o:Nat):Ro w (W.setCells g o vs) m a A l:=by
 have b:Below (w.heap.size+3) W (W.setCells g o vs):=iJ G _ _ _ (aP _ _);exact⟨cZ ah _ _ _ s.J,cZ ah _ _ _ s.F,cZ ah _ _ _ s.U,s.L.below (b.mono ah),iJ ah _ _ _ s.B⟩
theorem Ro.start(w:Wd)(m:Mm)(a l:Lz)(A:Oz)(f:Rs w w.heap.size A l):
 Ro w (((w.alloc (.cells m.ag 55)).alloc (.cells (agi a) 73)).alloc (.cells (agi Zs8) 78)) m a A l:=by
 have e:=MB.new w m;have c:=IB.new (w.alloc (.cells m.ag 55)) 73 a;have d:=IB.new ((w.alloc (.cells m.ag 55)).alloc (.cells (agi a) 73)) 78 Zs8;simp only[bT] at c d;have b:=(((aP _ _).alloc (ax w.heap.size) (.cells m.ag 55)).alloc ay (.cells (agi a) 73)).alloc aC (.cells (agi Zs8) 78);exact⟨Blk.alloc (Blk.alloc e _) _,Blk.alloc c _,d,f.below b,b⟩
structure Rp(w W:Wd)(m:Mm)(a:Lz)(A:Oz)(l:Lz)(gR:Nat)(A3:Oz)(c3:Nat)(G:Lz)(A1:Oz)(Y:Lz)(gB:Nat)(ys:Lz):Prop where
 L:Ro w W m a A l
 C:Blk W gR 26 #[.slice A3 40 c3]
 G:Rs W gB A3 G
 Y:Rs W gB A1 Y
 T:Own W gB (some ⟨gB,0,none⟩) 40 ys
 l1:w.heap.size+3<=gB
 l2:gR<gB
section
variable {w W W':Wd} {m:Mm} {a l G Y ys us:Lz} {A A1 A3:Oz} {gR c3 gB gS k:Nat}
theorem Rp.lt(s:Rp w W m a A l gR A3 c3 G A1 Y gB ys):gB<W.heap.size:=(s.T.lt _ rfl).2
theorem Rp.below(s:Rp w W m a A l gR A3 c3 G A1 Y gB ys)(b:Bw W W'):Rp w W' m a A l gR A3 c3 G A1 Y gB ys:=
 ⟨s.L.below b,Blk.below' s.C b,s.G.below (b.mono (kY s.lt)),s.Y.below (b.mono (kY s.lt)),s.T.below b,s.l1,s.l2⟩
theorem Rp.set(s:Rp w W m a A l gR A3 c3 G A1 Y gB ys)(c:k<ys.length)(z:Int):Rp w (W.setCell ⟨gB,k,none⟩ (.int .i64 z)) m a A l gR A3 c3 G A1 Y gB (ys.set k z):=by
 have b:Below gB W (W.setCell ⟨gB,k,none⟩ (.int .i64 z)):=(aP gB W).setCell (ax _) _;have d:=s.l2;exact⟨s.L.setC s.l1 [.int .i64 z] k,Blk.far s.C (by show gR≠gB;omega) _,s.G.below b,s.Y.below b,s.T.set_ k c z,s.l1,s.l2⟩
theorem Rp.g(s:Rp w W m a A l gR A3 c3 G A1 Y gB ys):Rs W W.heap.size A3 G:=s.G.more (kY s.lt)
theorem Rp.t(s:Rp w W m a A l gR A3 c3 G A1 Y gB ys):Rs W W.heap.size (some ⟨gB,0,none⟩) ys:=s.T.reads
end
structure Rq(w W:Wd)(m:Mm)(a:Lz)(A:Oz)(l:Lz)(gR:Nat)(A3:Oz)(c3:Nat)(G:Lz)(A1:Oz)(Y:Lz)(gB:Nat)(ys:Lz)(gS:Nat)(us:Lz):Prop where
 P:Rp w W m a A l gR A3 c3 G A1 Y gB ys
 S:IB W gS 78 us
 l3:gB<gS
section
variable {w W W':Wd} {m:Mm} {a l G Y ys us us':Lz} {A A1 A3:Oz} {gR c3 gB gS k:Nat}
theorem Rq.lt(s:Rq w W m a A l gR A3 c3 G A1 Y gB ys gS us):gS<W.heap.size:=Blk.lt s.S
theorem Rq.below(s:Rq w W m a A l gR A3 c3 G A1 Y gB ys gS us)(b:Bw W W'):Rq w W' m a A l gR A3 c3 G A1 Y gB ys gS us:=⟨s.P.below b,Blk.below' s.S b,s.l3⟩
theorem Rq.set(s:Rq w W m a A l gR A3 c3 G A1 Y gB ys gS us)(b:k<ys.length)(z:Int):Rq w (W.setCell ⟨gB,k,none⟩ (.int .i64 z)) m a A l gR A3 c3 G A1 Y gB (ys.set k z) gS us:=
 ⟨s.P.set b z,Blk.far s.S (by have:=s.l3;show gS≠gB;omega) _,s.l3⟩
theorem Rq.sets(s:Rq w W m a A l gR A3 c3 G A1 Y gB ys gS us)(vs:List Value)(o:Nat)(h:IB (W.setCells gS o vs) gS 78 us'):Rq w (W.setCells gS o vs) m a A l gR A3 c3 G A1 Y gB ys gS us':=by
 have c:Below gS W (W.setCells gS o vs):=iJ (ax _) _ _ _ (aP _ _);have d:=s.P.l2;have e:=s.l3;have f:=s.P.l1;exact⟨⟨s.P.L.setC ah vs o,cZ ah _ _ _ s.P.C,s.P.G.below (c.mono ah),s.P.Y.below (c.mono ah),aqm s.P.T (fun a b=>by injection b with b;subst b;show gB≠gS;omega) vs o,s.P.l1,s.P.l2⟩,h,s.l3⟩
theorem Rq.start(s:Rp w W m a A l gR A3 c3 G A1 Y gB ys)(us:Lz):Rq w (W.alloc (.cells (agi us) 78)) m a A l gR A3 c3 G A1 Y gB ys W.heap.size us:=
 ⟨s.below (baqq _ _),IB.new _ _ _,s.lt⟩
end
structure Rv(w W:Wd)(m:Mm)(a:Lz)(A:Oz)(l:Lz)(gR:Nat)(A3:Oz)(c3:Nat)(G:Lz)(A1:Oz)(Y:Lz)(gB:Nat)(ys:Lz)(gS:Nat)(us:Lz)(A6:Oz)(c6:Nat)(Vv:Lz):Prop where
 Q:Rq w W m a A l gR A3 c3 G A1 Y gB ys gS us
 V:Own W (gS+1) A6 c6 Vv
section
variable {w W W':Wd} {m:Mm} {a l G Y ys us Vv:Lz} {A A1 A3 A6:Oz} {gR c3 gB gS c6 k:Nat}
theorem Rv.below(s:Rv w W m a A l gR A3 c3 G A1 Y gB ys gS us A6 c6 Vv)(b:Bw W W'):Rv w W' m a A l gR A3 c3 G A1 Y gB ys gS us A6 c6 Vv:=⟨s.Q.below b,s.V.below b⟩
theorem Rv.set(s:Rv w W m a A l gR A3 c3 G A1 Y gB ys gS us A6 c6 Vv)(b:k<ys.length)(z:Int):Rv w (W.setCell ⟨gB,k,none⟩ (.int .i64 z)) m a A l gR A3 c3 G A1 Y gB (ys.set k z) gS us A6 c6 Vv:=
 ⟨s.Q.set b z,Own.setC s.V (by have:=s.Q.l3;omega) k _⟩
end
theorem aqn(m:Mm)(k:m.ok)(g:aO m=true)(a l:Lz)(ha:kw a)(M:a.length=9)(A:Oz)(c:Nat)(w:Wd)(hr:Rs w w.heap.size A l)(hl:l.length=40)(h16:fU l)(T1:TabS w 5 dY)(T2:TabS w 0 cO):
 Cl 48 #[.agg m.ag,.agg (agi a),.slice A 40 c] w (fun e w'=>e=.returned (.agg (agi (chU m a l)))/\Bw w w'):=by
 have hR:=Af (fn:=Tryz.f48) (p:=6) (ty:=78) rfl;have S0:=Ro.start w m a l A hr;obtain⟨V0,hV⟩:=ak ((((w.alloc (.cells m.ag 55)).alloc (.cells (agi a) 73)).alloc (.cells (agi Zs8) 78)));rw[<-hV] at S0;rw[Zm] at hV;have S0:=af S0;have HV:=af hV.symm;have K0:=af k;have AL:=af M;have LL:=af hl;have L16:=af h16;have GF:=DV (x:=List.replicate 40 0) ha (jr g).2.1 (Yz 40);have YL:=af (aeE (m:=m) (a:=a));have Y16:=af (iw (show aG (lm m a)=true from yG _ _ _ _));have QL:=af (tC (lm m a) m.p k.p);have KM:=af (fun W A1 (_:Nat) (h:Rs W W.heap.size A1 (List.replicate 40 0))=>show Cl 50 #[.agg (au a).toArray,.agg (au m.p).toArray,.slice A1 40 40] W (tZ W (lm m a) (fH m.p (lm m a)) 0) from by
  have h1:=D8 a m.p (List.replicate 40 0) A1 40 40 W M k.p h rW ah ah;rw[GF,if_pos rfl,if_pos rfl,show bz true=0 from rfl,show eG a m.p (List.replicate 40 0) 40=lm m a from rfl] at h1;exact h1)
 unfold tZ at KM;have GL:=af (Jv ha);have GI:=af (Eb ha);have GW:=aj (W64 (chR a)) (nN (Eb ha));have KRg:=af (fun W=>show Cl 110 #[.agg (agi a),.int .i64 40] W (fun e w'=> ∃A c,e=.returned (.tuple #[.slice A 40 c,.int .i64 0])/\Own w' W.heap.size A c (chR a)/\Bw W w') from
  (anM a 40 W M).mono fun e w' ⟨A,c,h1,h2,h3⟩=>⟨A,c,ahf,h2,h3⟩)
 have PE:=af (show jh (chR a) m.e (chT m a l)=0 by
  unfold jh;rw[if_pos D9,Ea,(jr g).2.2.1,PV ha];rfl)
 have KPk:=af (fun W gR A2 c2 (hf:FoldFn 111 (.pointer (some ⟨gR,0,none⟩)) W (chR a)) (hr:Rs W W.heap.size A2 (chT m a l))=>show Cl 113 #[.agg (au m.e).toArray,.func (.func 111) #[] #[.pointer (some ⟨gR,0,none⟩)],.slice A2 40 c2] W (fun e w'=>e=.returned (.tuple #[.int .i64 (chK m a l).1,.int .i64 (chK m a l).2.1,.int .i64 (chK m a l).2.2,.int .i64 0])/\Bw W w') from
  (aqb m.e (chR a) (chT m a l) _ A2 c2 40 W k.e hr D9 ah hf).mono fun e w' ⟨h1,h2⟩=>⟨by
    unfold piA piB pkD at h1;rw[PE.o,if_pos rfl,if_pos rfl,if_pos rfl] at h1;exact h1,h2⟩)
 have HI80:=aj ((Tryz.prog.info? 53).map (·.size)=some (au m.e).length) (FI);have KFd:=af (fun W gR A3 c3 (h1:Blk W gR 26 #[.slice A3 40 c3]) (h2:Rs W W.heap.size A3 (chR a))=>aql A3 c3 40 gR (chR a) W h1 h2 GL.o ah);have KNr:=af (fun W (h:Bw w W)=>show Cl 114 #[.int .i64 (chK m a l).2.1,.int .i64 (chK m a l).2.2] W (fun e w'=>e=.returned (.int .i64 (chP m a l))/\Bw W w') from by
  have r:=Pz (chR a) m.e (iw (Ea (m:=m) (a:=a) (l:=l))) 60;have r2:chK m a l=pkS (chR a) m.e (chT m a l) 60:=rfl;rw[<-r2] at r;exact anB _ _ W (T2.below' h (ax _)) ah ah ah ah)
 have KPs:=af (fun W=>show Cl 115 #[.agg (au m.e).toArray,.int .i64 (chK m a l).1] W (fun e w'=> ∃A c,e=.returned (.tuple #[.slice A 40 c,.int .i64 0])/\Own w' W.heap.size A c (dU m.e (chK m a l).1)/\Bw W w') from
  (Xa m.e (chK m a l).1 W k.e).mono fun e w' ⟨A,c,h1,h2,h3⟩=>⟨A,c,ahq,h2,h3⟩)
 have KF1:=af (fun W gR A3 c3 A5 c5 (h1:Blk W gR 26 #[.slice A3 40 c3]) (h2:Rs W W.heap.size A3 (chR a)) (h3:Rs W W.heap.size A5 (dU m.e (chK m a l).1))=>show Cl 111 #[.slice A5 40 c5,.pointer (some ⟨gR,0,none⟩)] W (fun e w'=> ∃A c,e=.returned (.slice A 40 c)/\Own w' W.heap.size A c (chV m a l)/\Bw W w') from
  (KFd.o W gR A3 c3 h1 h2 W (aP _ _) A5 c5 _ h3 PW (nN (YC g))).mono fun e w' ⟨A,c,h1,h2,h3⟩=>⟨A,c,ag7,h2,h3⟩)
 have KTg:=af (fun W A8 c8 A3 c3 (h1:Rs W W.heap.size A8 (ji m a l)) (h2:Rs W W.heap.size A3 (chR a))=>show Cl 116 #[.slice A8 40 c8,.slice A3 40 c3] W (fun e w'=> ∃A c,e=.returned (.tuple #[.slice A 40 c,.int .i64 0])/\Own w' W.heap.size A c (chD m a l)/\Bw W w') from
  (alR A8 A3 c8 c3 40 40 (ji m a l) (chR a) W h1 h2 Jy GL.o ah ah GW.o).mono fun e w' ⟨A,c,h1,h2,h3⟩=>⟨A,c,aha,h2,h3⟩)
 have KFw:=af (fun W A9 c9 A3 c3 (h1:Rs W W.heap.size A9 (chD m a l)) (h2:Rs W W.heap.size A3 (chR a))=>show Cl 117 #[.slice A9 40 c9,.slice A3 40 c3] W (fun e w'=>e=.returned (.tuple #[.agg (agi (chI m a l)),.int .i64 (chS m a l),.int .i64 0])/\Bw W w') from
  (aqk A9 A3 c9 c3 40 40 (chD m a l) (chR a) W h1 h2 (PX ha) GL.o (aeI ha) GW.o).mono fun e w' ⟨h1,h2⟩=>⟨by
    unfold seX seS at h1;rw[aeJ ha,if_pos rfl,if_pos rfl] at h1;exact h1,h2⟩)
 have KBd:=af (fun W=>show Cl 118 #[.agg (agi (chI m a l)),.int .i64 (chS m a l),.int .i64 4096] W (fun e w'=> ∃A c,e=.returned (.tuple #[.slice A 40 c,.int .i64 0])/\Own w' W.heap.size A c (blL (chI m a l) (chS m a l) 4096)/\Bw W w') from
  (ada (chI m a l) (chS m a l) 4096 W AQ).mono fun e w' ⟨A,c,h1,h2,h3⟩=>⟨A,c,by rw[h1,PY,Jz];rfl,h2,h3⟩)
 have KF2:=af (fun W gR A3 c3 A5 c5 (h1:Blk W gR 26 #[.slice A3 40 c3]) (h2:Rs W W.heap.size A3 (chR a)) (h3:Rs W W.heap.size A5 (blL (chI m a l) (chS m a l) 4096))=>show Cl 111 #[.slice A5 40 c5,.pointer (some ⟨gR,0,none⟩)] W (fun e w'=> ∃A c,e=.returned (.slice A 40 c)/\Own w' W.heap.size A c (chF m a l)/\Bw W w') from
  (KFd.o W gR A3 c3 h1 h2 W (aP _ _) A5 c5 _ h3 Jz (nN YG)).mono fun e w' ⟨A,c,h1,h2,h3⟩=>⟨A,c,ag5,h2,h3⟩)
 have KD1:=af (fun W A8 c8 A9 c9 (h1:Rs W W.heap.size A8 (ji m a l)) (h2:Rs W W.heap.size A9 (chF m a l))=>show Cl 46 #[.slice A8 40 c8,.slice A9 40 c9] W (pz W (bQ (ji m a l) (chF m a l) 40)) from
  Dy A8 A9 c8 c9 40 40 _ _ W h1 h2 Jy (AU ha) (ax _) ah (iw AP) (iw ru))
 have KD2:=af (fun W A9 c9 (h2:Rs W W.heap.size A9 (chF m a l))=>show Cl 46 #[.slice A9 40 c9,.slice A9 40 c9] W (pz W (bQ (chF m a l) (chF m a l) 40)) from
  Dy A9 A9 c9 c9 40 40 _ _ W h2 h2 (AU ha) (AU ha) (ax _) ah (iw ru) (iw ru))
 have dr1:=qy (iw (AP (m:=m) (a:=a) (l:=l))) (iw (ru (m:=m) (a:=a) (l:=l))) 40;have dr2:=qy (iw (ru (m:=m) (a:=a) (l:=l))) (iw (ru (m:=m) (a:=a) (l:=l))) 40;have dw:IntKind.i64.wrap (4096*bQ (ji m a l) (chF m a l) 40)=4096*bQ (ji m a l) (chF m a l) 40:=aV;have KO:=af (fun W (h:Bw w W)=>show Cl 119 #[.int .i64 (4096*bQ (ji m a l) (chF m a l) 40),.int .i64 (bQ (chF m a l) (chF m a l) 40)] W (fun e w'=>e=.returned (.int .i64 (chL m a l))/\Bw W w') from by
  have h1:=anD (4096*bQ (ji m a l) (chF m a l) 40) (bQ (chF m a l) (chF m a l) 40) W (T1.below' h (ax _)) ah ah ah ah;have e:lT (4096*bQ (ji m a l) (chF m a l) 40) (bQ (chF m a l) (chF m a l) 40)=chL m a l:=by
   unfold chL;rw[oC]
  rw[e] at h1;exact h1)
 have KS1:=af (fun W (i:Nat)=>show Cl 93 #[.int .i64 (l.getD i 0-(lm m a).getD i 0)] W (fun e w'=>e=.returned (.int .i64 (uf l (lm m a) i))/\Bw W w') from sN _ W (by have:=h16 i;have:=Y16.o i;omega) (by have:=h16 i;have:=Y16.o i;omega));obtain⟨pn,hpn,hp7⟩:∃n:Nat,chP m a l=n/\n<=7:=⟨(chP m a l).toNat,by have:=Jw (m:=m) (a:=a) (l:=l);omega,by have:=Jw (m:=m) (a:=a) (l:=l);omega⟩;have GVp:dJ (chP m a l)=cO.getD pn 0:=by rw[hpn];unfold dJ;rw[Dw ah ah];rfl
 obtain⟨Ap,cp,hg0,hcp,hel⟩:=T2.form;obtain⟨ap,rfl,hgp⟩:=hel pn (by show pn<8;omega);have hb0:=BG w _ hg0;have hb1:=BG w _ hgp;have PG:=af (fun W (h:Bw w W)=>show W.cell? ⟨0,0,none⟩=some (.slice (some ap) 8 cp)/\W.cell? (ap.add pn)=some (.int .i64 (dJ (chP m a l))) from⟨(h.cell hb0).trans hg0,by rw[GVp];exact(h.cell hb1).trans hgp⟩);have gvr:=OT (chP m a l);have vin:=iw (aeG (m:=m) (a:=a) (l:=l));have tin:=iw (Ea (m:=m) (a:=a) (l:=l));have KDn:=af (fun W (i:Nat)=>show Cl 94 #[.int .i64 ((chV m a l).getD i 0*dJ (chP m a l)+8192),.int .u64 14] W (fun e w'=>e=.returned (.int .i64 (((chV m a l).getD i 0*dJ (chP m a l)+8192)/16384))/\Bw W w') from by
  obtain⟨p1,p2⟩:=nO (vin i).1 (vin i).2 (show-32768<=dJ (chP m a l) from ah) (show dJ (chP m a l)<=32767 from ah);exact ace _ 14 W ah ah ah)
 have KS2:=af (fun W (i:Nat)=>show Cl 93 #[.int .i64 (((chV m a l).getD i 0*dJ (chP m a l)+8192)/16384)] W (fun e w'=>e=.returned (.int .i64 (pR (chV m a l) (dJ (chP m a l)) i))/\Bw W w') from by
  obtain⟨p1,p2⟩:=nO (vin i).1 (vin i).2 (show-32768<=dJ (chP m a l) from ah) (show dJ (chP m a l)<=32767 from ah);exact sN _ W ah ah)
 have sin:∀i,-32768<=pR (chV m a l) (dJ (chP m a l)) i/\pR (chV m a l) (dJ (chP m a l)) i<=32767:=fun i=>by have:=nI (((chV m a l).getD i 0*dJ (chP m a l)+8192)/16384);exact this
 have KS3:=af (fun W (i:Nat)=>show Cl 93 #[.int .i64 ((chT m a l).getD i 0-pR (chV m a l) (dJ (chP m a l)) i)] W (fun e w'=>e=.returned (.int .i64 (s16 ((chT m a l).getD i 0-pR (chV m a l) (dJ (chP m a l)) i)))/\Bw W w') from sN _ W (by have:=tin i;have:=sin i;omega) (by have:=tin i;have:=sin i;omega));have HT1:=aj (chT m a l=(List.range 40).map (uf l (lm m a))) (rfl);have HT2:=aj (ji m a l=(List.range 40).map (fun i=>s16 ((chT m a l).getD i 0-pR (chV m a l) (dJ (chP m a l)) i))) (by
  unfold ji yM;refine List.map_congr_left fun i hi=>?_;unfold uf vG;rw[IV _ (List.mem_range.1 hi)])
 have TIN:=af tin;have VIN:=af vin;have SIN:=af sin;have TL:=af (D9 (m:=m) (a:=a) (l:=l));have VL:=af (YD (l:=l) g ha);have IL:=AQ (m:=m) (a:=a) (l:=l);have klr:=AO (m:=m) (a:=a) (l:=l);have HU:=aj (chU m a l=((chK m a l).1-20)::chP m a l::(chI m a l++[chS m a l,chL m a l])) (rfl);clear hV k M hl h16 hr T1 T2 GF GVp hg0 hcp hel hgp hb0 hb1 vin tin sin;obtain⟨f1,hf1⟩:∃f,f=uf l (lm m a):=⟨_,rfl⟩;rw[<-hf1] at KS1 HT1;have HF1:=af hf1;clear hf1;obtain⟨Y,hY⟩:=ak (lm m a);rw[<-hY] at YL Y16 KM KS1 QL;clear hY;generalize fH m.p Y=q2 at*
 obtain⟨gv,hgv⟩:∃x,x=dJ (chP m a l):=⟨_,rfl⟩;rw[<-hgv] at PG gvr KDn KS2 SIN KS3 HT2;clear hgv;obtain⟨P,hP⟩:=ak (chP m a l);rw[<-hP] at hpn KNr HU;clear hP;obtain⟨Sc,hSc⟩:∃f,f=pR (chV m a l) gv:=⟨_,rfl⟩;rw[<-hSc] at KS2 SIN KS3 HT2;clear hSc;obtain⟨Vv,hVv⟩:∃x,x=chV m a l:=⟨_,rfl⟩;rw[<-hVv] at KDn KS2 VIN VL KF1;clear hVv;obtain⟨T,hT⟩:∃x,x=chT m a l:=⟨_,rfl⟩;rw[<-hT] at KPk PE KS3 HT1 HT2 TIN TL;clear hT;obtain⟨TQ,hTQ⟩:∃x,x=ji m a l:=⟨_,rfl⟩;rw[<-hTQ] at HT2 KTg KD1 KO dr1 dw;clear hTQ;obtain⟨G,hG⟩:∃x,x=chR a:=⟨_,rfl⟩;rw[<-hG] at GL GI GW KRg KPk PE KFd KF1 KTg KFw KF2;clear hG;obtain⟨kL,hkL⟩:=ak ((chK m a l).1);obtain⟨kC,hkC⟩:=ak ((chK m a l).2.1);obtain⟨kE,hkE⟩:=ak ((chK m a l).2.2);rw[<-hkL,<-hkC,<-hkE] at KPk;rw[<-hkL] at KPs KF1 klr HU;rw[<-hkC,<-hkE] at KNr;clear hkL hkC hkE;generalize dU m.e kL=Pa at*
 obtain⟨D,hD⟩:∃V,V=chD m a l:=⟨_,rfl⟩;rw[<-hD] at KTg KFw;clear hD;generalize blL (chI m a l) (chS m a l) 4096=Bl at*
 generalize chF m a l=F at*
 generalize bQ TQ F 40=dC at*
 generalize bQ F F 40=dE at*
 generalize chL m a l=Lv at*
 generalize chS m a l=Sg at*
 generalize chI m a l=I at*
 generalize chU m a l=U at*
 obtain⟨i0,i1,i2,i3,rfl⟩:=xC IL;clear IL dr1 dr2;have hkw:IntKind.i64.wrap (kL-20)=kL-20:=aV;have GVR:=af gvr;have HPN:=af hpn;have HP7:=af hp7;have HG:=af g;have HA:=af ha;clear g ha gvr hpn hp7;go_enter Tryz.func48,Tryz.ntmps48;go_upto_region 1 with(rw[HV.o];clear HV);go_cut[7,9] (fun s7 s9 wx=> ∃(A1:Oz) (c1:Nat),s7=.slice A1 40 c1/\s9=.int .i64 0/\Hy (Ro w wx m a A l)/\Hy (Rs wx wx.heap.size A1 Y))
 case first=>
  refine xQ (S:=fun W=>Ro w W m a A l) aB ?_;have S1:=af (Ro.below S0.o (bY _));change wpAnyH _ _ _ _ _ _ _ _ (World.drew _);obtain⟨V,hV⟩:=ak (V0.drew);rw[<-hV] at S1|-;clear hV S0;refine aI 0 (.agg (au a).toArray) rfl (pY az 73 (.tmp 4) rfl (w.heap.size+1) 0 rfl (au a) _ (fun W hW=>IB.rangeAt hW.F) bP rfl (by rw[bf,AL.o];exact bC)) S1.o ?_;refine aI 1 (.pointer (some ⟨w.heap.size,8,none⟩)) rfl (.inl ⟨az,fun W hW=>by(first|rfl|go_simp)⟩) S1.o ?_;refine aI 2 (.agg (au m.p).toArray) rfl (pY az 52 (.tmp 31) rfl w.heap.size 8 rfl (au m.p) _ (fun W hW=>MB.P hW.J K0.o) aU rfl (by rw[bf,K0.o.p];exact aJ)) S1.o ?_;refine di (rs:=[3,9]) aB ay (bU rfl (fun K hK=>?_) (bU rfl (fun K hK=>?_) dA))
  ·
   rw[if_pos az];simp only[Act.put,bg,bD,bF,bG,bH,bI];refine QF _ _ rfl .i64 .i64 40 rfl rfl V.heap.size ah (ax _) ?_;intro N hO hG;obtain⟨A1,hA1⟩:=ak (some (⟨V.heap.size,0,none⟩:Addr));rw[<-hA1] at hO|-;have O2:=aj (Rs N N.heap.size A1 (List.replicate 40 0)) (hO.reads);have Q2:=af (show Bw V N from(aP _ _).grown hG (ax _) ay);have O:=af (Ro.below S1.o Q2.o);clear hO hG hA1;refine hK.out _ _ O.o (fun _=>?_);refine di (rs:=[4,9]) aB ay (bU rfl (fun K hK=>?_) (bU rfl (fun K hK=>?_) dA))
   ·
    go_simp;(with_reducible refine(KM.o N A1 40 O2.o).mono ?_);rintro e W3 ⟨A2,c2,rfl,hO,hB⟩;have X:=af (Ro.below O.o hB);have P3:=af hO;have Q3:=af hB;clear hO hB;rw[YL.o];go_simp;refine hK.out _ _ X.o (fun _=>?_);refine aI 5 (.tuple #[.slice A2 40 c2,.agg (agi q2),.int .i64 0]) rfl (.inl ⟨az,fun W hW=>by(first|rfl|go_simp)⟩) X.o ?_;refine aI 6 (.slice A2 40 c2) rfl (.inl ⟨az,fun W hW=>by(first|rfl|go_simp)⟩) X.o ?_;refine aI 7 (.agg (agi q2)) rfl (.inl ⟨az,fun W hW=>by(first|rfl|go_simp)⟩) X.o ?_;refine aI 8 (.int .i64 0) rfl (.inl ⟨az,fun W hW=>by(first|rfl|go_simp)⟩) X.o ?_;refine di (rs:=[9]) aB ay (bU rfl (fun K hK=>?_) dA);go_simp;have L4:=af (Ro.below X.o (baqq _ (.cells (agi Z8) 52)));have Z4:=af (IB.new W3 52 Z8);obtain⟨W4,hW4⟩:=ak (W3.alloc (.cells (agi Z8) 52));have Q4:=aj (Bw W3 W4) (aaJ);rw[<-hW4] at L4 Z4;rw[dP] at hW4;rw[<-hW4];clear hW4;obtain⟨gx,s⟩:=ak (W3.heap.size);have GX:=aj (w.heap.size+3<=gx) (by rw[s];exact Blk.lt X.o.U);have GE:=af s;rw[<-s] at Z4|-;clear s;refine hK.out _ _ L4.o (fun _=>?_);refine aI 10 (.slice A2 40 c2) rfl (.inl ⟨az,fun W hW=>by(first|rfl|go_simp)⟩) L4.o ?_;refine di (rs:=[11]) aB ay (bU rfl (fun K hK=>?_) dA);rw[if_pos az];simp only[Act.put,bg,bD,bF,bG,bH,bI];refine lF 52 (.tmp 8) (.tmp 36) rfl gx 0 (agi q2) rfl rfl FD wu (ik _) ?_;have u:=af (Ro.setC L4.o GX.o (agi q2).toList 0);have RF:=aj (Rs (W4.setCells gx 0 (agi q2).toList) (W4.setCells gx 0 (agi q2).toList).heap.size A2 Y) (Rs.more (Rs.below P3.o.reads (show Bw W3 (W4.setCells gx 0 (agi q2).toList) from iJ CO _ _ _ Q4.o)) (dL Q4.o.size (by rw[Zl];exact ax _)));obtain⟨WF,hWF⟩:=ak (W4.setCells gx 0 (agi q2).toList);rw[<-hWF] at u RF|-;clear hWF;refine hK.out _ _ u.o (fun _=>?_);refine aI 12 (.int .i64 0) rfl (.inl ⟨az,fun W hW=>by(first|rfl|go_simp)⟩) u.o ?_;refine mO aB ?_ _;go_wp2_with fail;go_meet;exact⟨A2,c2,rfl,rfl,u,RF⟩
   
   go_simp;have X:=af (Ro.below O.o (baqq _ (.cells (agi Z8) 52)));have Z3:=af (IB.new N 52 Z8);obtain⟨W3,Z⟩:=ak (N.alloc (.cells (agi Z8) 52));have Q3:=aj (Bw N W3) (Mc);rw[<-Z] at X Z3;rw[dP] at Z;rw[<-Z];clear Z;obtain⟨gx,s⟩:=ak (N.heap.size);have GX:=aj (w.heap.size+3<=gx) (by rw[s];exact Blk.lt O.o.U);have GE:=af s;rw[<-s] at Z3|-;clear s;refine hK.out _ _ X.o (fun _=>?_);refine di (rs:=[4]) aB ay (bU rfl (fun K hK=>?_) dA);have O3:=af ((O2.o.below Q3.o).more Q3.o.size);go_simp;(with_reducible refine(KM.o W3 A1 40 O3.o).mono ?_);rintro e W4 ⟨A2,c2,rfl,hO,hB⟩;have L4:=af (Ro.below X.o hB);have P4:=af hO;have Q4:=af hB;clear hO hB;rw[YL.o];go_simp;refine hK.out _ _ L4.o (fun _=>?_);refine aI 5 (.tuple #[.slice A2 40 c2,.agg (agi q2),.int .i64 0]) rfl (.inl ⟨az,fun W hW=>by(first|rfl|go_simp)⟩) L4.o ?_;refine aI 6 (.slice A2 40 c2) rfl (.inl ⟨az,fun W hW=>by(first|rfl|go_simp)⟩) L4.o ?_;refine aI 7 (.agg (agi q2)) rfl (.inl ⟨az,fun W hW=>by(first|rfl|go_simp)⟩) L4.o ?_;refine aI 8 (.int .i64 0) rfl (.inl ⟨az,fun W hW=>by(first|rfl|go_simp)⟩) L4.o ?_;have Z4:=af (Blk.below' Z3.o Q4.o);refine aI 10 (.slice A2 40 c2) rfl (.inl ⟨az,fun W hW=>by(first|rfl|go_simp)⟩) L4.o ?_;refine di (rs:=[11]) aB ay (bU rfl (fun K hK=>?_) dA);rw[if_pos az];simp only[Act.put,bg,bD,bF,bG,bH,bI];refine lF 52 (.tmp 8) (.tmp 36) rfl gx 0 (agi q2) rfl rfl FD wu (ik _) ?_;have u:=af (Ro.setC L4.o GX.o (agi q2).toList 0);have RF:=af (show Rs (W4.setCells gx 0 (agi q2).toList) (W4.setCells gx 0 (agi q2).toList).heap.size A2 Y from(Own.setCs (g:=gx) (Blk.lt Z3.o) (agi q2).toList 0 _ P4.o).reads);obtain⟨WF,hWF⟩:=ak (W4.setCells gx 0 (agi q2).toList);rw[<-hWF] at u RF|-;clear hWF;refine hK.out _ _ u.o (fun _=>?_);refine aI 12 (.int .i64 0) rfl (.inl ⟨az,fun W hW=>by(first|rfl|go_simp)⟩) u.o ?_;refine mO aB ?_ _;go_wp2_with fail;go_meet;exact⟨A2,c2,rfl,rfl,u,RF⟩
  
  go_simp;have O:=af (Ro.below S1.o (baqq _ (.cells (agi Z8) 52)));have Z2:=af (IB.new V 52 Z8);obtain⟨N,hW2⟩:=ak (V.alloc (.cells (agi Z8) 52));have Q2:=aj (Bw V N) (Md);rw[<-hW2] at O Z2;rw[dP] at hW2;rw[<-hW2];clear hW2;obtain⟨gx,s⟩:=ak (V.heap.size);have GX:=aj (w.heap.size+3<=gx) (by rw[s];exact Blk.lt S1.o.U);have GE:=af s;rw[<-s] at Z2|-;clear s;refine hK.out _ _ O.o (fun _=>?_);refine di (rs:=[3]) aB ay (bU rfl (fun K hK=>?_) dA);rw[if_pos az];simp only[Act.put,bg,bD,bF,bG,bH,bI];refine QF _ _ rfl .i64 .i64 40 rfl rfl N.heap.size ah (ax _) ?_;intro W3 hO hG;obtain⟨A1,hA1⟩:=ak (some (⟨N.heap.size,0,none⟩:Addr));rw[<-hA1] at hO|-;have O3:=aj (Rs W3 W3.heap.size A1 (List.replicate 40 0)) (hO.reads);have Q3:=af (show Bw N W3 from(aP _ _).grown hG (ax _) ay);have X:=af (Ro.below O.o Q3.o);clear hO hG hA1;refine hK.out _ _ X.o (fun _=>?_);have Z3:=af (Blk.below' Z2.o Q3.o);refine di (rs:=[4]) aB ay (bU rfl (fun K hK=>?_) dA);go_simp;with_reducible refine(KM.o W3 A1 40 O3.o).mono ?_
  rintro e W4 ⟨A2,c2,rfl,hO,hB⟩;have L4:=af (Ro.below X.o hB);have P4:=af hO;have Q4:=af hB;clear hO hB;rw[YL.o];go_simp;refine hK.out _ _ L4.o (fun _=>?_);refine aI 5 (.tuple #[.slice A2 40 c2,.agg (agi q2),.int .i64 0]) rfl (.inl ⟨az,fun W hW=>by(first|rfl|go_simp)⟩) L4.o ?_;refine aI 6 (.slice A2 40 c2) rfl (.inl ⟨az,fun W hW=>by(first|rfl|go_simp)⟩) L4.o ?_;refine aI 7 (.agg (agi q2)) rfl (.inl ⟨az,fun W hW=>by(first|rfl|go_simp)⟩) L4.o ?_;refine aI 8 (.int .i64 0) rfl (.inl ⟨az,fun W hW=>by(first|rfl|go_simp)⟩) L4.o ?_;have Z4:=af (Blk.below' Z3.o Q4.o);refine aI 10 (.slice A2 40 c2) rfl (.inl ⟨az,fun W hW=>by(first|rfl|go_simp)⟩) L4.o ?_;refine di (rs:=[11]) aB ay (bU rfl (fun K hK=>?_) dA);rw[if_pos az];simp only[Act.put,bg,bD,bF,bG,bH,bI];refine lF 52 (.tmp 8) (.tmp 36) rfl gx 0 (agi q2) rfl rfl FD wu (ik _) ?_;have u:=af (Ro.setC L4.o GX.o (agi q2).toList 0);have RF:=af (show Rs (W4.setCells gx 0 (agi q2).toList) (W4.setCells gx 0 (agi q2).toList).heap.size A2 Y from(Own.setCs (g:=gx) (Blk.lt Z3.o) (agi q2).toList 0 _ P4.o).reads);obtain⟨WF,hWF⟩:=ak (W4.setCells gx 0 (agi q2).toList);rw[<-hWF] at u RF|-;clear hWF;refine hK.out _ _ u.o (fun _=>?_);refine aI 12 (.int .i64 0) rfl (.inl ⟨az,fun W hW=>by(first|rfl|go_simp)⟩) u.o ?_;refine mO aB ?_ _;go_wp2_with fail;go_meet;exact⟨A2,c2,rfl,rfl,u,RF⟩
 case rest=>
  obtain⟨A1,c1,rfl,rfl,L1,R1⟩:=hcut;clear S0 KM;have hpn:=HPN.o;subst hpn;clear HPN;go_wp2_with(refine aK 73 (.tmp 4) a 9 L1.o.F bP bC AL.o ?_);refine(KRg.o wc).mono ?_;rintro e w3 ⟨A3,c3,rfl,hO,hB⟩;have X:=af (L1.o.below hB);have R3:=af ((R1.o.below hB).more hB.size);have G3:=af hO.reads;clear hO hB L1 R1;have BB:=baqq w3 (.cells #[.slice A3 40 c3] 26);have L4:=af (X.o.below BB);have R4:=af ((R3.o.below BB).more BB.size);have G4:=af ((G3.o.below BB).more BB.size);have C4:=af (Blk.new w3 26 #[.slice A3 40 c3]);obtain⟨V4,hV4⟩:∃V,V=w3.alloc (.cells #[.slice A3 40 c3] 26):=⟨_,rfl⟩;rw[<-hV4] at L4 R4 G4 C4;have HV4:=af hV4.symm;clear hV4 BB X R3 G3;go_wp2_with(first
   |(rw[HV4.o];clear HV4)
   |(at_make;refine nK rfl _ _ rfl .i64 .i64 40 rfl rfl V4.heap.size ah (ax _) ?_
     intro w5 hO hG
     have hb5:=(aP V4.heap.size V4).grown hG (ax _) ay
     have P5:=af (show Rp w w5 m a A l w3.heap.size A3 c3 G A1 Y V4.heap.size (List.replicate 40 0) from⟨L4.o.below hb5,Blk.below' C4.o hb5,G4.o.below hb5,R4.o.below hb5,hO,Blk.lt L4.o.U,Blk.lt C4.o⟩)
     clear hO hG hb5))
  obtain⟨gR,hgR⟩:∃g,g=w3.heap.size:=⟨_,rfl⟩;obtain⟨gB,hgB⟩:∃g,g=V4.heap.size:=⟨_,rfl⟩;rw[<-hgR,<-hgB] at P5|-;clear hgR hgB L4 R4 G4 C4;go_loopw[14,47] (fun _ iv wr=> ∃(k:Nat) (ys:Lz),k<=40/\iv=.int .i64 k/\Hy (Fil f1 (List.replicate 40 0) ys k)/\Hy (Rp w wr m a A l gR A3 c3 G A1 Y gB ys)) (fun _ iv _=>40-(intOf iv).toNat)
  case atStart=>exact⟨0,_,ah,rfl,af (Fil.start _ ay),P5⟩
  case round=>
   clear P5;obtain⟨k,ys,hk,rfl,HF,HP⟩:=hrel;by_cases hlt:k<40
   ·obtain⟨ad,rfl,_,_⟩:=HP.o.L.L.at_ (k:=k) (by rw[LL.o];exact hlt)
    obtain⟨R,rfl,_,_⟩:=HP.o.Y.at_ (k:=k) (by rw[YL.o];exact hlt);have i40:(k:Int)<40:=ah;have x16:=L16.o k;have q:=Y16.o k;have KS:=af (fun W=>KS1.o W k);obtain⟨x,hx⟩:=ak (l.getD k 0);obtain⟨y,hy⟩:=ak (Y.getD k 0);obtain⟨z,hz⟩:=ak (f1 k);rw[<-hx,<-hy,<-hz] at KS;rw[<-hx] at x16;rw[<-hy] at q;have HX:=af hx;have HY:=af hy;have HZ:=af hz;clear hx hy hz;have hw1:IntKind.i64.wrap (x-y)=x-y:=aV;go_upto_region 8 with fail;refine uk [0,1,2,3,6,7] [4,5,8,9,10,11] 12 [13] (fun W=>Rp w W m a (some ad) l gR A3 c3 G (some R) Y gB ys) aB aB rfl (HP.o.below (bY _)) (fun _ _ d _ _ h=>uU) ?_;simp only[jC,o6,uJ,uK];refine iG (v:=.slice (some ⟨gB,0,none⟩) 40 40) az (fun W=>rfl) ?_;refine iG (v:=.int .i64 k) az (fun W=>rfl) ?_;refine iG (v:=.slice (some ad) 40 c) az (fun W=>rfl) ?_;refine iG (v:=.int .i64 k) az (fun W=>rfl) ?_;refine iG (v:=.slice (some R) 40 c1) az (fun W=>rfl) ?_;refine iG (v:=.int .i64 k) az (fun W=>rfl) ?_;refine uj ?_;simp only[Act.put,bg,bD,bF,bG,bH,bI];refine dB (fun K hK=>?_);go_simp;refine⟨.pointer (some (ad.add k)),fun W hW=>?_,hK _ ?_⟩
    ·go_simp
    refine dB (fun K hK=>?_);go_simp;refine⟨.int .i64 x,fun W hW=>?_,hK _ ?_⟩
    ·obtain⟨a',e,_,h⟩:=hW.L.L.at_ (k:=k) (by rw[LL.o];exact hlt)
     injection e with e;subst e;rw[<-HX.o] at h;go_simp
    refine dB (fun K hK=>?_);go_simp;refine⟨.pointer (some (R.add k)),fun W hW=>?_,hK _ ?_⟩
    ·go_simp
    refine dB (fun K hK=>?_);go_simp;refine⟨.int .i64 y,fun W hW=>?_,hK _ ?_⟩
    ·obtain⟨a',e,_,h⟩:=hW.Y.at_ (k:=k) (by rw[YL.o];exact hlt)
     injection e with e;subst e;rw[<-HY.o] at h;go_simp
    refine dB (fun K hK=>?_);go_simp;apply kX;refine⟨fun W hW=>rfl,hK _ ?_⟩;refine dB (fun K hK=>?_);go_simp;apply kX;refine⟨fun W hW=>?_,hK _ ?_⟩
    ·with_reducible exact(KS.o W).mono fun e w' ⟨h1,h2⟩=>⟨h1,hW.below h2⟩
    refine uC ?_;intro W8 hW8;have P8:=af hW8;clear hW8 HP KS;have cb:=P8.o.T.cell k MP;have fb:=P8.o.T.frozen k;have P9:=af (P8.o.set (k:=k) MP z);have NF:=HF.o.next hlt;rw[<-HZ.o] at NF;have NF:=af NF;go_wp2_with fail;go_roundw;case rel=>exact⟨k+1,ys.set k z,ah,aT,NF,P9⟩
    case measure=>exact aW
   obtain rfl:k=40:=ah;have e:=HF.o.done;rw[<-HT1.o] at e;have P9:=aj (Rp w wr m a A l gR A3 c3 G A1 Y gB T) (by rw[<-e];exact HP.o);clear HP HF e;have Q10:=af (Rq.start P9.o Zs8);obtain⟨V10,b⟩:∃V,V=wr.alloc (.cells (agi Zs8) 78):=⟨_,rfl⟩;rw[<-b] at Q10;rw[Zm] at b;have HV10:=af b.symm;obtain⟨gS,hgS⟩:∃g,g=wr.heap.size:=⟨_,rfl⟩;rw[<-hgS] at Q10;have HGS:=af hgS.symm;clear b hgS P9;go_wp2_with(first
    |(rw[HV10.o];clear HV10)
    |(refine bZ rfl 53 (.tmp 65) rfl _ _ rfl (au m.e) _ (Q10.o.P.L.J.E K0.o) iV rfl HI80.o ?_))
   rw[HGS.o];refine(KPk.o V10 gR (some ⟨gB,0,none⟩) 40 (KFd.o V10 _ _ _ Q10.o.P.C Q10.o.P.g) Q10.o.P.t).mono ?_;rintro e w11 ⟨rfl,hB⟩;have Q11:=af (Q10.o.below hB);clear hB Q10 HGS;go_wp2_with fail;(with_reducible refine(KNr.o w11 Q11.o.P.L.B).mono ?_);rintro e w12 ⟨rfl,hB⟩;have Q12:=af (Q11.o.below hB);clear hB Q11;have c0:w12.cell? ⟨gS,0,none⟩=some (.int .i64 0):=Q12.o.S.cell 0 (by simp[Zs8]);have f0:w12.frozen? ⟨gS,0,none⟩=false:=Blk.frozen Q12.o.S 0;have c1_:w12.cell? ⟨gS,1,none⟩=some (.int .i64 0):=Q12.o.S.cell 1 (by simp[Zs8]);have f1_:w12.frozen? ⟨gS,1,none⟩=false:=Blk.frozen Q12.o.S 1;have Q12a:=Q12.o.sets (us':=[kL-20,0,0,0,0,0,0,0]) [.int .i64 (kL-20)] 0 (IB.set_ Q12.o.S 0 (kL-20));have Q13:=aj (Rq w ((w12.setCell ⟨gS,0,none⟩ (.int .i64 (kL-20))).setCell ⟨gS,1,none⟩ (.int .i64 (pn:Nat))) m a A l gR A3 c3 G A1 Y gB T gS [kL-20,(pn:Int),0,0,0,0,0,0]) (Q12a.sets [.int .i64 (pn:Nat)] 1 (IB.set_ Q12a.S 1 (pn:Nat)));obtain⟨V13,hV13⟩:∃V,V=(w12.setCell ⟨gS,0,none⟩ (.int .i64 (kL-20))).setCell ⟨gS,1,none⟩ (.int .i64 (pn:Nat)):=⟨_,rfl⟩;rw[<-hV13] at Q13;have HV13:=af hV13.symm;clear hV13 Q12a Q12;go_wp2_with(first
    |(rw[HV13.o];clear HV13 c0 f0 c1_ f1_)
    |(refine bZ rfl 53 (.tmp 82) rfl _ _ rfl (au m.e) _ (Q13.o.P.L.J.E K0.o) iV rfl HI80.o ?_))
   refine(KPs.o V13).mono ?_;rintro e w14 ⟨A5,c5,rfl,hO,hB⟩;have Q14:=af (Q13.o.below hB);have R14:=af hO.reads;clear hO hB Q13;go_wp2_with fail;refine(KF1.o w14 gR A3 c3 A5 c5 Q14.o.P.C Q14.o.P.g R14.o).mono ?_;rintro e w15 ⟨A6,c6,rfl,hO,hB⟩;have V15:=af (⟨Q14.o.below hB,hO.more Q14.o.lt⟩:Rv w w15 m a A l gR A3 c3 G A1 Y gB T gS [kL-20,(pn:Int),0,0,0,0,0,0] A6 c6 Vv);clear hO hB Q14 R14;go_wp2_with fail;go_loopw[22,23,92] (fun _ _ iv wr=> ∃(k:Nat) (ys:Lz),k<=40/\iv=.int .i64 k/\Hy (Fil (fun i=>s16 (T.getD i 0-Sc i)) T ys k)/\Hy (Rv w wr m a A l gR A3 c3 G A1 Y gB ys gS [kL-20,(pn:Int),0,0,0,0,0,0] A6 c6 Vv)) (fun _ _ iv _=>40-(intOf iv).toNat)
   case atStart=>exact⟨0,_,ah,rfl,af (Fil.start _ TL.o),V15⟩
   case round=>
    clear V15;obtain⟨k,ys,hk,rfl,HF,HV⟩:=hrel;by_cases hlt:k<40
    ·have i40:(k:Int)<40:=ah
     obtain⟨av,rfl,_,cv⟩:=HV.o.V.reads.at_ (k:=k) (by rw[VL.o];exact hlt);have KDk:=af (fun W=>KDn.o W k);have KSk:=af (fun W=>KS2.o W k);have KSl:=af (fun W=>KS3.o W k);have v16:=VIN.o k;have x16:=TIN.o k;have s16_:=SIN.o k;obtain⟨x,hx⟩:=ak (T.getD k 0);obtain⟨v,hv⟩:∃y,y=Vv.getD k 0:=⟨_,rfl⟩;obtain⟨sc,hsc⟩:∃y,y=Sc k:=⟨_,rfl⟩;obtain⟨z,hz⟩:=ak (s16 (x-sc));rw[<-hv] at cv KDk KSk v16;rw[<-hsc] at KSk KSl s16_;rw[<-hx,<-hz] at KSl;rw[<-hx] at x16;have HX:=aj (ys.getD k 0=x) (by rw[hx];exact HF.o.at_);have HZ:=aj (z=s16 (T.getD k 0-Sc k)) (by rw[hz,hx,hsc]);have GR:=GVR.o;obtain⟨p1,p2⟩:=nO v16.1 v16.2 (show-32768<=gv from ah) (show gv<=32767 from ah);have hw2:IntKind.i64.wrap (v*gv)=v*gv:=aV;have hw3:IntKind.i64.wrap (v*gv+8192)=v*gv+8192:=aV;have hw4:IntKind.i64.wrap (x-sc)=x-sc:=aV;have p8:(pn:Int)<8:=(by have:=HP7.o;omega);have p8n:pn<8:=(by have:=HP7.o;omega);clear hx hv hsc hz p1 p2 GR;go_upto_region 17 with fail;clear cv;refine uk [0,1,2,3,6,8] [4,5,7,9,10,11,12,13,14,15,16,17] 18 [19] (fun W=>Rv w W m a A l gR A3 c3 G A1 Y gB ys gS [kL-20,(pn:Int),0,0,0,0,0,0] (some av) c6 Vv) aB aB rfl (HV.o.below (bY _)) (fun _ _ d _ _ h=>uU) ?_;simp only[jC,o6,uJ,uK];refine iG (v:=.slice (some ⟨gB,0,none⟩) 40 40) az (fun W=>rfl) ?_;refine iG (v:=.int .i64 k) az (fun W=>rfl) ?_;refine iG (v:=.slice (some ⟨gB,0,none⟩) 40 40) az (fun W=>rfl) ?_;refine iG (v:=.int .i64 k) az (fun W=>rfl) ?_;refine iG (v:=.int .i64 v) az (fun W=>rfl) ?_;refine iG (v:=.pointer (some ⟨gS,1,none⟩)) az (fun W=>?_) ?_
     ·go_simp
     refine uj ?_;simp only[Act.put,bg,bD,bF,bG,bH,bI];refine dB (fun K hK=>?_);go_simp;refine⟨.pointer (some ⟨gB,k,none⟩),fun W hW=>?_,hK _ ?_⟩
     ·go_simp
     refine dB (fun K hK=>?_);go_simp;refine⟨.int .i64 x,fun W hW=>?_,hK _ ?_⟩
     ·have h:=hW.Q.P.T.cell k MP
      rw[HX.o] at h;go_simp
     refine dB (fun K hK=>?_);go_simp;refine⟨.slice (some ap) 8 cp,fun W hW=>?_,hK _ ?_⟩
     ·have h:=(PG.o W hW.Q.P.L.B).1
      go_simp
     refine dB (fun K hK=>?_);go_simp;refine⟨.int .i64 (pn:Nat),fun W hW=>?_,hK _ ?_⟩
     ·have h:W.cell? ⟨gS,1,none⟩=some (.int .i64 (pn:Nat)):=hW.Q.S.cell 1 ay
      go_simp
     refine dB (fun K hK=>?_);go_simp;refine⟨.pointer (some (ap.add pn)),fun W hW=>?_,hK _ ?_⟩
     ·go_simp
     refine dB (fun K hK=>?_);go_simp;refine⟨.int .i64 gv,fun W hW=>?_,hK _ ?_⟩
     ·have h:=(PG.o W hW.Q.P.L.B).2
      go_simp
     refine dB (fun K hK=>?_);go_simp;apply kX;refine⟨fun W hW=>rfl,hK _ ?_⟩;refine dB (fun K hK=>?_);go_simp;apply kX;refine⟨fun W hW=>rfl,hK _ ?_⟩;refine dB (fun K hK=>?_);go_simp;apply kX;refine⟨fun W hW=>?_,hK _ ?_⟩
     ·with_reducible exact(KDk.o W).mono fun e w' ⟨h1,h2⟩=>⟨h1,hW.below h2⟩
     refine dB (fun K hK=>?_);go_simp;apply kX;refine⟨fun W hW=>?_,hK _ ?_⟩
     ·with_reducible exact(KSk.o W).mono fun e w' ⟨h1,h2⟩=>⟨h1,hW.below h2⟩
     refine dB (fun K hK=>?_);go_simp;apply kX;refine⟨fun W hW=>rfl,hK _ ?_⟩;refine dB (fun K hK=>?_);go_simp;apply kX;refine⟨fun W hW=>?_,hK _ ?_⟩
     ·with_reducible exact(KSl.o W).mono fun e w' ⟨h1,h2⟩=>⟨h1,hW.below h2⟩
     refine uC ?_;intro W8 hW8;have V8:=af hW8;clear hW8 HV KDk KSk KSl;have cb:=V8.o.Q.P.T.cell k MP;have fb:=V8.o.Q.P.T.frozen k;have V9:=af (V8.o.set (k:=k) MP z);have NF:=HF.o.next hlt;have NF:=aj (Fil (fun i=>s16 (T.getD i 0-Sc i)) T (ys.set k z) (k+1)) (by rw[HZ.o];exact NF);go_wp2_with fail;go_roundw;case rel=>exact⟨k+1,ys.set k z,ah,aT,NF,V9⟩
     case measure=>exact aW
    obtain rfl:k=40:=ah;have e:=HF.o.done;rw[<-HT2.o] at e;have Q19:=aj (Rq w wr m a A l gR A3 c3 G A1 Y gB TQ gS [kL-20,(pn:Int),0,0,0,0,0,0]) (by rw[<-e];exact HV.o.Q);clear HV HF e;have cb:=Blk.cell Q19.o.P.C 0;go_wp2_with fail;refine(KTg.o wr (some ⟨gB,0,none⟩) 40 A3 c3 Q19.o.P.t Q19.o.P.g).mono ?_;rintro e w20 ⟨A9,c9,rfl,hO,hB⟩;have Q20:=af (Q19.o.below hB);have R20:=af hO.reads;clear hO hB cb Q19;have cb:=Blk.cell Q20.o.P.C 0;go_wp2_with fail;refine(KFw.o w20 A9 c9 A3 c3 R20.o Q20.o.P.g).mono ?_;rintro e w21 ⟨rfl,hB⟩;have Q21:=af (Q20.o.below hB);clear hB cb Q20 R20;have Q22:=af (Q21.o.sets (us':=[kL-20,(pn:Int),i0,i1,i2,i3,0,0]) (au [i0,i1,i2,i3]) 2 (IB.set_ (IB.set_ (IB.set_ (IB.set_ Q21.o.S 2 i0) 3 i1) 4 i2) 5 i3));have H:=aj (w21.there gS 2 (agi [i0,i1,i2,i3]).size) (fun j hj=>by
     have h:=Blk.there Q21.o.S (2+j) (by show 2+j<8;have:j<4:=hj;omega);rwa [qK] at h)
    obtain⟨V22,hV22⟩:∃V,V=w21.setCells gS 2 (au [i0,i1,i2,i3]):=⟨_,rfl⟩;rw[<-hV22] at Q22;have HV22:=af hV22.symm;clear hV22;have c6:V22.cell? ⟨gS,6,none⟩=some (.int .i64 0):=Q22.o.S.cell 6 ay;have f6:V22.frozen? ⟨gS,6,none⟩=false:=Blk.frozen Q22.o.S 6;have Q23:=aj (Rq w (V22.setCell ⟨gS,6,none⟩ (.int .i64 Sg)) m a A l gR A3 c3 G A1 Y gB TQ gS [kL-20,(pn:Int),i0,i1,i2,i3,Sg,0]) (Q22.o.sets [.int .i64 Sg] 6 (IB.set_ Q22.o.S 6 Sg));obtain⟨V23,hV23⟩:∃V,V=V22.setCell ⟨gS,6,none⟩ (.int .i64 Sg):=⟨_,rfl⟩;rw[<-hV23] at Q23;have HV23:=af hV23.symm;clear hV23;have d6:V23.cell? ⟨gS,6,none⟩=some (.int .i64 Sg):=Q23.o.S.cell 6 ay;have SZ4:Hy ((Tryz.prog.info? 76).map (·.size)=some (agi [i0,i1,i2,i3]).size):=af JE;have HI4:Hy ((Tryz.prog.info? 76).map (·.size)=some (au [i0,i1,i2,i3]).length):=af JE;go_wp2_with(first
     |(rw[HV23.o];clear HV23)
     |(refine iY rfl 76 (.tmp 130) (.tmp 127) rfl gS 2 (agi [i0,i1,i2,i3]) rfl rfl H.o SZ4.o (ik _) ?_;rw[show(agi [i0,i1,i2,i3]).toList=au [i0,i1,i2,i3] from rfl,HV22.o])
     |(refine bZ rfl 76 (.tmp 133) rfl _ _ rfl (au [i0,i1,i2,i3]) _ (Q23.o.S.mid 2 4 ay) iO rfl HI4.o ?_))
    refine(KBd.o V23).mono ?_;rintro e w24 ⟨A10,c10,rfl,hO,hB⟩;have Q24:=af (Q23.o.below hB);have R24:=af hO.reads;clear hO hB d6 c6 f6;go_wp2_with fail;refine(KF2.o w24 gR A3 c3 A10 c10 Q24.o.P.C Q24.o.P.g R24.o).mono ?_;rintro e w25 ⟨A11,c11,rfl,hO,hB⟩;have Q25:=af (Q24.o.below hB);have R25:=af hO.reads;clear hO hB;go_wp2_with fail;(with_reducible refine(KD1.o w25 (some ⟨gB,0,none⟩) 40 A11 c11 Q25.o.P.t R25.o).mono ?_);rintro e w26 ⟨rfl,hB⟩;have Q26:=af (Q25.o.below hB);have R26:=af ((R25.o.below hB).more hB.size);clear hB;go_wp2_with fail;(with_reducible refine(KD2.o w26 A11 c11 R26.o).mono ?_);rintro e w27 ⟨rfl,hB⟩;have Q27:=af (Q26.o.below hB);clear hB;go_wp2_with fail;(with_reducible refine(KO.o w27 Q27.o.P.L.B).mono ?_);rintro e w28 ⟨rfl,hB⟩;have Q28:=af (Q27.o.below hB);clear hB;have c7:w28.cell? ⟨gS,7,none⟩=some (.int .i64 0):=Q28.o.S.cell 7 ay;have f7:w28.frozen? ⟨gS,7,none⟩=false:=Blk.frozen Q28.o.S 7;have Q29:=aj (Rq w (w28.setCell ⟨gS,7,none⟩ (.int .i64 Lv)) m a A l gR A3 c3 G A1 Y gB TQ gS [kL-20,(pn:Int),i0,i1,i2,i3,Sg,Lv]) (Q28.o.sets [.int .i64 Lv] 7 (IB.set_ Q28.o.S 7 Lv));obtain⟨V29,hV29⟩:∃V,V=w28.setCell ⟨gS,7,none⟩ (.int .i64 Lv):=⟨_,rfl⟩;rw[<-hV29] at Q29;have HV29:=af hV29.symm;clear hV29;go_wp2_with(first
     |(rw[HV29.o];clear HV29)
     |(refine aK 78 (.tmp 15) [kL-20,(pn:Int),i0,i1,i2,i3,Sg,Lv] 8 Q29.o.S yU rG rfl ?_)
     |(refine aQ 78 (.tmp 6) (.tmp 152) Zs8 [kL-20,(pn:Int),i0,i1,i2,i3,Sg,Lv] 8 Q29.o.P.L.U rG rfl rfl ?_))
    refine aX (v:=_) (hR _ _ _ 78 [kL-20,(pn:Int),i0,i1,i2,i3,Sg,Lv] _ 8 rfl (IB.setRow Q29.o.P.L.U _) yU rfl rG rfl) rfl ?_;exact⟨by rw[HU.o];rfl,aS Q29.o.P.L.B ah _⟩
