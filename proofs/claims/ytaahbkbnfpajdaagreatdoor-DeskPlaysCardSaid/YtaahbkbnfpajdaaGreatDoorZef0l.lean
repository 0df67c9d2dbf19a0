/- Lemmas. -/
import Derived.Test.YtaahbkbnfpajdaaGreatDoorZef0k
namespace Go.Proofs.YtaahbkbnfpajdaaGreatDoor
set_option linter.all false
set_option maxRecDepth 100000
set_option maxHeartbeats 8000000
open Go.RowKit
variable{g:Nat}{o xs:Lz}{W:Wd}{A:Oz}
def EncOut(w:Wd)(a:En)(s:Lz)(r:Bool)(e:Ending)(w':Wd):Prop:=
 ∃b c A2 c2,e=.returned (.tuple #[.agg (enE a s r).ag,.slice b (jk a s r).length c,.slice A2 (enY a s r).length c2,.int .i64 (dQ a s)])/\OwnB w' w.heap.size b c (jk a s r)/\Own w' w.heap.size A2 c2 (enY a s r)/\Bw w w'
theorem EncOut.bad{w w':Wd}{a:En}{s:Lz}{r:Bool}{er:Int}(f:Bw w w')(g:dQ a s=er)(b:er≠0):
 EncOut w a s r (.returned (.tuple #[.agg eH.ag,.slice none 0 0,.slice none 0 0,.int .i64 er])) w':=by
 subst g;have c:enE a s r=eH:=if_neg b;have d:jk a s r=[]:=if_neg b;have e:enY a s r=[]:=if_neg b;unfold EncOut;rw[c,d,e];exact⟨none,0,none,0,rfl,OwnB.nil,Own.nil,f⟩
structure Eo(w W:Wd)(e:En):Prop where
 E:EB W w.heap.size e
 Z:EB W (w.heap.size+1) eH
 bel:Bw w W
theorem Eo.start(w:Wd)(e:En):Eo w ((w.alloc (.cells e.ag 57)).alloc (.cells Tryz.zeroCells57 57)) e:=by
 have b:=EB.new w e;have a:=ui (w.alloc (.cells e.ag 57));simp only[bT] at a;exact⟨Blk.alloc b _,a,((aP _ _).alloc (ax w.heap.size) (.cells e.ag 57)).alloc ay (.cells Tryz.zeroCells57 57)⟩
section
variable {w W W':Wd} {e e':En}
theorem Eo.below(s:Eo w W e)(a:Bw W W'):Eo w W' e:=⟨Blk.below' s.E a,Blk.below' s.Z a,aH s.bel a⟩
theorem Eo.lt(s:Eo w W e):w.heap.size+2<=W.heap.size:=Blk.lt s.Z
theorem Eo.sets(s:Eo w W e)(vs:List Value)(o:Nat)(h:EB (W.setCells w.heap.size o vs) w.heap.size e'):Eo w (W.setCells w.heap.size o vs) e':=
 ⟨h,cZ ah _ _ _ s.Z,iJ (ax _) _ _ _ s.bel⟩
theorem Eo.row(s:Eo w W e):Eo w (W.setRow w.heap.size e'.ag) e':=⟨s.E.setRow e',Blk.rowFar s.Z ah,aS s.bel (ax _) _⟩
theorem Eo.far(s:Eo w W e)(G:w.heap.size+2<=g)(vs:List Value)(o:Nat):Eo w (W.setCells g o vs) e:=
 ⟨cZ ah _ _ _ s.E,cZ ah _ _ _ s.Z,iJ ah _ _ _ s.bel⟩
theorem Eo.farC(s:Eo w W e)(G:w.heap.size+2<=g)(o:Nat)(v:Value):Eo w (W.setCell ⟨g,o,none⟩ v) e:=
 ⟨Blk.far s.E aa5 _,Blk.far s.Z aa0 _,s.bel.setCell aa9 _⟩
theorem Eo.farR(s:Eo w W e)(G:w.heap.size+2<=g)(a:Array Value):Eo w (W.setRow g a) e:=
 ⟨Blk.rowFar s.E ah,Blk.rowFar s.Z ah,aS s.bel ah _⟩
end
structure Ei(w W:Wd)(e:En)(B:Nat)(ad:Addr)(c:Nat)(o:Lz):Prop where
 L:Eo w W e
 O:Own W B (some ad) c o
theorem apu{x:Lz}(c:x.length=120)(h:o.length=80):x.drop 80++o=(x.drop 80++x.drop 40).take 40++o++(x.drop 80++x.drop 40).drop (40+o.length):=by
 have g:(x.drop 80).length=40:=by rw[kJ,c]
 have i:(x.drop 40).length=80:=by rw[kJ,c]
 generalize x.drop 80=a at*
 generalize x.drop 40=b at*
 have d:(a++b).take 40=a:=by rw[<-g,List.take_left]
 have f:(a++b).drop (40+o.length)=[]:=BU (by rw[dN];omega);rw[d,f,xU]
structure Ej(w W:Wd)(e:En)(ad:Addr)(o:Lz)(gP:Nat)(ps:Lz):Prop where
 L:Eo w W e
 O:Rs W gP (some ad) o
 P:IB W gP 81 ps
 l0:w.heap.size+2<=gP
section
variable {w W W':Wd} {e:En} {ad:Addr} {o ps ps':Lz} {gP:Nat}
theorem Ej.lt(s:Ej w W e ad o gP ps):gP<W.heap.size:=Blk.lt s.P
theorem Ej.below(s:Ej w W e ad o gP ps)(a:Bw W W'):Ej w W' e ad o gP ps:=⟨s.L.below a,s.O.below (a.mono (kY s.lt)),Blk.below' s.P a,s.l0⟩
theorem Ej.over(s:Ej w W e ad o gP ps)(vs:List Value)(i:Nat)(h:IB (W.setCells gP i vs) gP 81 ps'):Ej w (W.setCells gP i vs) e ad o gP ps':=
 ⟨s.L.far s.l0 vs i,s.O.below (iJ (ax _) _ _ _ (aP _ _)),h,s.l0⟩
theorem Ej.kind(s:Ej w W e ad o gP ps)(x:Int):Ej w (W.setCell ⟨gP,0,none⟩ (.int .i64 x)) e ad o gP (ps.set 0 x):=
 ⟨s.L.farC s.l0 0 _,s.O.below ((aP gP W).setCell (by show gP<=gP;omega) _),s.P.set_ 0 x,s.l0⟩
theorem Ej.far(s:Ej w W e ad o gP ps)(G:gP<g)(vs:List Value)(i:Nat):Ej w (W.setCells g i vs) e ad o gP ps:=
 ⟨s.L.far (by have:=s.l0;omega) vs i,s.O.below (iJ ah _ _ _ (aP _ _)),cZ ah _ _ _ s.P,s.l0⟩
theorem Ej.farR(s:Ej w W e ad o gP ps)(G:gP<g)(a:Array Value):Ej w (W.setRow g a) e ad o gP ps:=
 ⟨s.L.farR (by have:=s.l0;omega) a,s.O.below (aS (aP gP W) ah a),Blk.rowFar s.P ah,s.l0⟩
end
structure Ek(w W:Wd)(e:En)(ad:Addr)(o:Lz)(gP gM:Nat)(ps:Lz)(m:Mm):Prop where
 J:Ej w W e ad o gP ps
 M:MB W gM m
 l1:gP<gM
section
variable {w W W':Wd} {e:En} {ad:Addr} {o ps ps':Lz} {gP gM:Nat} {m mm:Mm}
theorem Ek.lt(s:Ek w W e ad o gP gM ps m):gM<W.heap.size:=Blk.lt s.M
theorem Ek.below(s:Ek w W e ad o gP gM ps m)(a:Bw W W'):Ek w W' e ad o gP gM ps m:=⟨s.J.below a,Blk.below' s.M a,s.l1⟩
theorem Ek.over(s:Ek w W e ad o gP gM ps m)(vs:List Value)(i:Nat)(h:IB (W.setCells gP i vs) gP 81 ps'):Ek w (W.setCells gP i vs) e ad o gP gM ps' m:=
 ⟨s.J.over vs i h,cZ MZ _ _ _ s.M,s.l1⟩
theorem Ek.kind(s:Ek w W e ad o gP gM ps m)(x:Int):Ek w (W.setCell ⟨gP,0,none⟩ (.int .i64 x)) e ad o gP gM (ps.set 0 x) m:=
 ⟨s.J.kind x,Blk.far s.M (by show gM≠gP;have:=s.l1;omega) _,s.l1⟩
theorem Ek.rowM(s:Ek w W e ad o gP gM ps m):Ek w (W.setRow gM mm.ag) e ad o gP gM ps mm:=⟨s.J.farR s.l1 _,s.M.setRow mm,s.l1⟩
theorem Ek.setR(s:Ek w W e ad o gP gM ps m)(k:m.ok)(r:Lz)(a:r.length=8):Ek w (W.setCells gM 0 (au r)) e ad o gP gM ps {m with r:=r}:=⟨s.J.far s.l1 _ _,s.M.set_r k r a,s.l1⟩
end
structure Em(w W:Wd)(e:En)(ad:Addr)(o:Lz)(gP gM gN:Nat)(ps:Lz)(m:Mm)(now:Lz):Prop where
 K:Ek w W e ad o gP gM ps m
 N:IB W gN 52 now
 l2:gM<gN
section
variable {w W W':Wd} {e:En} {ad:Addr} {o ps ps' now:Lz} {gP gM gN:Nat} {m mm:Mm}
theorem Em.lt(s:Em w W e ad o gP gM gN ps m now):gN<W.heap.size:=Blk.lt s.N
theorem Em.below(s:Em w W e ad o gP gM gN ps m now)(a:Bw W W'):Em w W' e ad o gP gM gN ps m now:=⟨s.K.below a,Blk.below' s.N a,s.l2⟩
theorem Em.over(s:Em w W e ad o gP gM gN ps m now)(vs:List Value)(i:Nat)(h:IB (W.setCells gP i vs) gP 81 ps'):Em w (W.setCells gP i vs) e ad o gP gM gN ps' m now:=
 ⟨s.K.over vs i h,cZ (by have:=s.K.l1;have:=s.l2;omega) _ _ _ s.N,s.l2⟩
theorem Em.rowM(s:Em w W e ad o gP gM gN ps m now):Em w (W.setRow gM mm.ag) e ad o gP gM gN ps mm now:=⟨s.K.rowM,Blk.rowFar s.N Vo,s.l2⟩
theorem Em.setR(s:Em w W e ad o gP gM gN ps m now)(k:m.ok)(r:Lz)(a:r.length=8):Em w (W.setCells gM 0 (au r)) e ad o gP gM gN ps {m with r:=r} now:=
 ⟨s.K.setR k r a,cZ Vo _ _ _ s.N,s.l2⟩
end
structure Ew(w W:Wd)(e:En)(ad:Addr)(o:Lz)(gP gM gN:Nat)(ps:Lz)(m:Mm)(now:Lz)(gA:Nat)(a:Lz):Prop where
 R:Em w W e ad o gP gM gN ps m now
 F:IB W gA 73 a
structure Ey(w W:Wd)(e:En)(ad:Addr)(o:Lz)(gP gM gN:Nat)(ps:Lz)(m:Mm)(now:Lz)(gA:Nat)(a:Lz)(gW:Nat)(was:Lz):Prop where
 R:Em w W e ad o gP gM gN ps m now
 F:IB W gA 73 a
 B:IB W gW 52 was
theorem af1{o:Nat}{ps A u B:Lz}(h:IB W g 81 ps)(a:ps=A++(u++B))(b:A.length=o):W.rangeAt g o (au u):=
 iP h (au A) (au u) (au B) (by rw[a];unfold au;simp only[zi]) (by rw[bf,b])
theorem af2{ps:Lz}(h:dD ps 25=true)(f:ps.length=25):W64 ps:=fun x c=>by
 obtain⟨i,hi,rfl⟩:=aaB c;have a:=Jc h (show i<25 from ah);have b:∀m,m<25->pkT.getD m 0<=63:=aA;have d:=b i (show i<25 from ah);unfold qA at a;rw[bK,jU hi,aap] at a;omega
theorem JL{w w':Wd}{base c:Nat}{row:Option Nat}(h:OwnB w base A c xs)(G:w.grownBy w' row)(b:∀a,A=some a->some a.block≠row):OwnB w' base A c xs:=
 BC h G (by
  cases A with
  |none=>simp[Value.ownBlock]
  |some a=>simpa[Value.ownBlock] using b a rfl)
theorem Zo{w:Wd}{base c:Nat}(h:OwnB w base A c xs)(G:g<base)(b:Array Value):OwnB (w.setRow g b) base A c xs:=
 JL h (row:=some g) ⟨rfl,rfl,rfl,wE,fun i _ hn=>oz w g i b zB⟩ (fun ad e a=>by
  injection a with a;exact h.ne_ G ad e a)
theorem QH{w:Wd}{base c:Nat}(h:OwnB w base A c xs)(G:g<base)(i:Nat)(v:Value):OwnB (w.setCell ⟨g,i,none⟩ v) base A c xs:=
 JL h (row:=some g) ⟨rfl,rfl,rfl,uQ,fun j _ hn=>lV _ _ _ j wH⟩ (fun ad e a=>by
  injection a with a;exact h.ne_ G ad e a)
theorem JM{base g c:Nat}{A:Oz}{xs:Lz}(G:g<base):∀(vs:List Value) (o:Nat) (w:Wd),OwnB w base A c xs->OwnB (w.setCells g o vs) base A c xs
 |[],_,_,h=>h
 |v::vs,o,_,h=>JM G vs (o+1) _ (QH h G o v)
theorem Zp(g o j:Nat):(⟨g,o,none⟩:Addr).add j=⟨g,o+j,none⟩:=aaW
theorem apv{B c:Nat}{ad:Addr}(h:Own W B (some ad) c o)(a:0<o.length):∀j v,(au o)[j]?=some v->W.cell? (ad.add j)=some v:=fun j v d=>by
 obtain⟨f,e,_,b⟩:=h.reads.2 a;injection e with e;subst e;exact b j v d
theorem EB.rs{e:En}(h:EB W g e)(k:e.ok):Rs W W.heap.size (some ⟨g,4,none⟩) e.x:=
 ⟨by rw[bf,ou],fun _=>⟨_,rfl,Blk.lt h,fun j u a=>by rw[Zp];exact h.X k j u a⟩⟩
theorem Zq{b:Array Oper}{rest:List Oper}{o:Oper}{a:Act}{w:Wd}{Q:Exit->Act->Wd->Prop}(d s:Operand)(f g:TypeId)(c:o.op=.call {callee:=.builtin .copy,args:= #[d,s],argTypes:= #[f,g]})
 (h:wpList Tryz.prog b Q (o::rest) a w):wpList Tryz.prog b Q (o::rest) a w:=h
theorem af4(e:En)(s:Lz):aG (eu e s).2.1=true:=by
 unfold eu hiA;split
 ·exact aoy _ _ _ _ _ _
 rfl
theorem af5{kd:Int}{i was now:Lz}{m:Mm}{s:Nat}(b:i.length=8)(h:IB W g 81 (enZ kd i was now o m s)):W.rangeAt g 1 (au i):=by
 have a:=h.mid 1 8 (by unfold enZ;rw[xR];omega);have e:((enZ kd i was now o m s).drop 1).take 8=i:=by
  unfold enZ;exact ai1
 rw[e] at a;exact a
theorem af6{s:Nat}(a:fU o):fU (og o s):=aoA (Ba.2 fun x b=>by
 obtain⟨i,hi,rfl⟩:=aaB b;have h:=a i;rwa [bK,jU hi] at h)
theorem af7{B:Nat}{ad:Addr}{j:Nat}(h:Rs W B (some ad) o)(c:o.length=80)(b:j<2):Rs W B (some (ad.add (j*40))) (og o j):=by
 have a:=h.drop (k:=j*40) (cap:=80) ah ah;rw[if_neg ah] at a;exact Rs.take a (by rw[kJ];omega)
theorem af8(l:Lz)(a b c d:Int)(n:Nat):(hiA l a b c d n).1.length=4:=by
 unfold hiA;split<;>rfl
theorem xE:(Tryz.prog.info? 50).map (·.size)=some 4:=aB
theorem af9(e:En)(k:e.ok)(A:Oz)(c n:Nat)(s:Lz)(r:Bool)(w:Wd)(T1:TabA w 4 dY)(T2:TabA w 1 cO)(T3:TabA w 3 dh)
 (hr:Rs w w.heap.size A s) (hn:s.length=n) (hl:n<=17592186044000):Cl 12 #[.agg e.ag,.slice A n c,.bool r] w (EncOut w e s r):=by
 have hR:=aff (fn:=Tryz.f12) (p:=6) (q:=7) (r:=8) (s:=9) rfl;have S0:=af (Eo.start w e);have K:=af k;have KG:=af (fun W=>show Cl 23 #[.agg e.m.cs.toArray] W (Ip W (aO e.m)) from Iu e.m k.m W);have HIM:=aj ((Tryz.prog.info? 55).map (·.size)=some e.m.cs.length) (by rw[sS,e.m.len k.m]);have HIH:=aj ((Tryz.prog.info? 50).map (·.size)=some (au e.h).length) (by rw[xE,bf,k.h]);have TT:=af (⟨T1,T2,T3⟩:TabA w 4 dY/\TabA w 1 cO/\TabA w 3 dh);have HRS:=af hr;have HN:=af hn;have ER:=aj (dQ e s=if s.length=80 then(if aO e.m=true then(if(eu e s).2.2=true then bz (aG (enX e s)) else 2) else 2) else 1) (rfl);clear hr T1 T2 T3;by_cases h80:n=80
 ·subst h80
  have ER:=aj (dQ e s=if aO e.m=true then(if(eu e s).2.2=true then bz (aG (enX e s)) else 2) else 2) (by rw[ER.o,if_pos hn]);have KH:=af (fun W (h:Bw w W)=>show Cl 24 #[.agg (au e.h).toArray,.slice A 80 c] W (tZ W (eu e s).2.1 (eu e s).1 (bz (eu e s).2.2)) from by
   obtain⟨h0,h1,h2,h3,he⟩:=xC k.h;have h4:=anT h0 h1 h2 h3 s A c 80 W ((HRS.o.below h).more h.size) hn ah;unfold eu;rw[he];exact h4)
  have HL4:=af (fun(h:(eu e s).2.2=true)=>show(eu e s).2.1.length=80/\(eu e s).1.length=4 from Y0 _ _ _ _ _ _ h);unfold tZ at KH;clear k hn hl;go_enter Tryz.func12,Tryz.ntmps12;go_wp2_with(refine bZ rfl 55 (.tmp 31) rfl w.heap.size 124 rfl e.m.cs _ (EB.M S0.o.E K.o) kG rfl HIM.o ?_);with_reducible refine(KG.o _).mono ?_
  rintro e' w1 ⟨rfl,hB⟩;have S1:=af (S0.o.below hB);clear hB S0 KG;cases G:aO e.m with
  |false=>
   have HE:=aj (dQ e s=2) (Vf);clear G;go_wp2_with(refine rF rfl (.tmp 6) (.tmp 35) rfl _ eH eH rfl (iI Value.agg xw) S1.o.Z ig ig ?_);refine aX (v:=_) (hR _ _ _ eH rfl (EB.setRow S1.o.Z eH) ig) rfl ?_;exact EncOut.bad (aS S1.o.bel ah _) HE.o aA
  |true=>
   have HG:=af G;have ER:=aj (dQ e s=if(eu e s).2.2=true then bz (aG (enX e s)) else 2) (Vf);clear G;go_wp2_with(refine bZ rfl 50 (.tmp 37) rfl w.heap.size 0 rfl (au e.h) _ (EB.H S1.o.E) yT rfl HIH.o ?_);(with_reducible refine(KH.o w1 S1.o.bel).mono ?_);rintro e' w2 ⟨A2,c2,rfl,hO,hB⟩;have S2:=af (S1.o.below hB);have O2:=af hO;have HP4:=aj ((eu e s).1.length=4) (af8 _ _ _ _ _ _);have B1:=af S1.o.lt;clear hO hB KH;obtain⟨hp,hhp⟩:=ak ((eu e s).1);obtain⟨o,ho⟩:=ak ((eu e s).2.1);have EX:=aj (enX e s=e.x.drop 80++o) (by rw[ho];rfl);cases T:(eu e s).2.2 with
   |false=>
    have HE:=aj (dQ e s=2) (Vg);rw[show bz false=2 from rfl];rw[<-hhp] at HP4|-;rw[<-ho];clear T hhp ho O2 HL4 EX ER;go_wp2_with(first
     |(refine aQ 50 (.tmp 11) (.tmp 42) [0,0,0,0] hp 4 (IB.new w2 50 [0,0,0,0]) xE rfl HP4.o ?_
       have BB:=dI w2 (.cells (agi [0,0,0,0]) 50) (agi hp)
       obtain⟨V3,hV⟩:=ak ((w2.alloc (.cells (agi [0,0,0,0]) 50)).setRow w2.heap.size (agi hp))
       have S3:=aj (Eo w V3 e) (FN)
       rw[Ed] at hV
       rw[<-hV]
       clear hV BB)
     |(refine rF rfl (.tmp 6) (.tmp 46) rfl _ eH eH rfl (iI Value.agg xw) S3.o.Z ig ig ?_))
    refine aX (v:=_) (hR _ _ _ eH rfl (EB.setRow S3.o.Z eH) ig) rfl ?_;exact EncOut.bad (aS S3.o.bel ah _) HE.o aA
   |true=>
    have ER:=aj (dQ e s=bz (aG (enX e s))) (Vg);have OL:=af (HL4.o T).1;have C80:=aj (80<=c2) (by have h:=O2.o.cap.1;rw[<-ho] at OL;rw[<-ho,OL.o] at h;exact h);rw[show bz true=0 from rfl];rw[<-hhp] at HP4|-;rw[<-ho] at OL O2|-;rw[OL.o];have HHP:=af hhp;have Q:=af ho;clear T hhp ho HL4;obtain⟨t,rfl,_⟩:=O2.o.reads.ad Vp;obtain⟨e1,he1⟩:=ak ({e with h:=hp}:En);have K1:=aj (e1.ok) (by rw[he1];exact⟨HP4.o,K.o.x,K.o.m⟩);go_wp2_with(first
     |(refine aQ 50 (.tmp 11) (.tmp 42) [0,0,0,0] hp 4 (IB.new w2 50 [0,0,0,0]) xE rfl HP4.o ?_
       have BB:=dI w2 (.cells (agi [0,0,0,0]) 50) (agi hp)
       obtain⟨V3,hV⟩:=ak ((w2.alloc (.cells (agi [0,0,0,0]) 50)).setRow w2.heap.size (agi hp))
       have S3:=aj (Eo w V3 e) (FN)
       have H3:=aj (IB V3 w2.heap.size 50 hp) (by rw[hV];exact IB.stored w2 50 [0,0,0,0] hp)
       have O3:=aj (Own V3 w1.heap.size (some t) c2 o) (by rw[hV];exact O2.o.below BB)
       rw[Ed] at hV
       rw[<-hV]
       clear hV BB)
     |(refine aK 50 (.tmp 11) hp 4 H3.o yT xE HP4.o ?_)
     |(refine iY rfl 50 (.tmp 49) (.tmp 48) rfl w.heap.size 0 (agi hp) rfl rfl (by rw[dX,HP4.o];exact S3.o.E.thereH K.o) (by rw[dX,HP4.o];exact xE) (ik _) ?_
       have S4:=aj (Eo w (V3.setCells w.heap.size 0 (au hp)) e1) (S3.o.sets _ _ (by rw[he1];exact S3.o.E.set_h K.o hp HP4.o))
       have O4:=aj (Own (V3.setCells w.heap.size 0 (au hp)) w1.heap.size (some t) c2 o) (Own.setCs (g:=w.heap.size) (by have:=B1.o;omega) (au hp) 0 _ O3.o)
       obtain⟨V4,hV4⟩:=ak (V3.setCells w.heap.size 0 (au hp))
       rw[<-hV4] at S4 O4
       rw[show(agi hp).toList=au hp from rfl,<-hV4]
       clear hV4))
    clear S2 S3 H3 O2 O3;obtain⟨S,he2⟩:=ak ({e1 with x:=e.x.drop 80++e.x.drop 40}:En);obtain⟨e3,he3⟩:=ak ({e1 with x:=enX e s}:En);have K2:=aj (S.ok) (by rw[he2];exact⟨K1.o.h,by simp[K.o.x],K1.o.m⟩);have V:=aj (e3.ok) (by rw[he3];exact⟨K1.o.h,by rw[EX.o,dN,kJ,K.o.x,OL.o],K1.o.m⟩);have X1:=aj (e1.x=e.x) (by rw[he1]);have R1:=aj ((e1.ag.toList.take 4++(au (e1.x.drop 80)++e1.ag.toList.drop (4+(au (e1.x.drop 80)).length))).toArray=S.ag) (by
     have h1:=EB.splice K1.o 0 (e1.x.drop 80) (e.x.drop 80++e.x.drop 40) (by rw[kJ,K1.o.x];omega) (by rw[X1.o,kJ,K.o.x];rfl);rw[he2];exact iI List.toArray h1)
    have R2:=aj ((S.ag.toList.take 44++(au o++S.ag.toList.drop (44+(au o).length))).toArray=e3.ag) (by
     have h1:=EB.splice K2.o 40 o (enX e s) Vp (by
      rw[he2,EX.o];exact apu K.o.x OL.o)
     have h2:({S with x:=enX e s}:En)=e3:=(by rw[he2,he3]);rw[h2] at h1;exact iI List.toArray h1)
    refine uk [0,1,2,3] [] 4 [] (fun W=>Ei w W e1 w1.heap.size t c2 o) aB aB rfl ⟨S4.o.below (bY _),O4.o.drew⟩ (fun _ _ d _ _ h=>uU) ?_;simp only[jC,o6,uJ,uK];refine iG (v:=.pointer (some ⟨w.heap.size,4,none⟩)) az (fun W=>rfl) ?_;refine iG (v:=.slice (some ⟨w.heap.size,4,none⟩) 120 120) az (fun W=>rfl) ?_;refine iG (v:=.pointer (some ⟨w.heap.size,4,none⟩)) az (fun W=>rfl) ?_;refine iG (v:=.slice (some ⟨w.heap.size,84,none⟩) 40 40) az (fun W=>rfl) ?_;refine uj ?_;refine uC ?_;intro W5 hW5;have S5:=af hW5.L;have O5:=af hW5.O;clear hW5 S4 O4;have O5c:=af O5.o.cap;go_wp2_with(first
     |((with_reducible refine Zq (.tmp 51) (.tmp 53) 26 26 rfl ?_);refine aaC rfl (.tmp 51) (.tmp 53) 26 26 rfl 3 qH NT w.heap.size 4 120 120 ⟨w.heap.size,84,none⟩ 40 40 rfl rfl e1.ag _ S5.o.E (au (e1.x.drop 80)) (by rw[bf,kJ,K1.o.x];rfl) (fun j v hv=>by rw[Zp];exact S5.o.E.src K1.o 80 ah j v hv) (by rw[bf,kJ,K1.o.x,e1.size K1.o];omega) (o9 _) ?_;rw[R1.o]
       have S6:=af (S5.o.row (e':=S))
       have O6:=af (O5.o.setRow (g:=w.heap.size) (by have:=B1.o;omega) S.ag)
       have L6:=aj ((au (e1.x.drop 80)).length=40) (by rw[bf,kJ,K1.o.x])
       obtain⟨V6,hV6⟩:=ak (W5.setRow w.heap.size S.ag)
       rw[<-hV6] at S6 O6|-
       clear hV6 S5 O5)
     |((with_reducible refine Zq (.tmp 56) (.tmp 57) 26 26 rfl ?_);refine aaC rfl (.tmp 56) (.tmp 57) 26 26 rfl 3 qH NT w.heap.size 44 80 80 t 80 c2 rfl rfl S.ag _ S6.o.E (au o) (by rw[bf,OL.o];rfl) (apv O6.o Vp) (by rw[bf,OL.o,S.size K2.o];omega) (o9 _) ?_;rw[R2.o]
       have S7:=af (S6.o.row (e':=e3))
       have O7:=af (O6.o.setRow (g:=w.heap.size) (by have:=B1.o;omega) e3.ag)
       obtain⟨V7,hV7⟩:=ak (V6.setRow w.heap.size e3.ag)
       rw[<-hV7] at S7 O7|-
       clear hV7))
    obtain⟨x,hx⟩:=ak (enX e s);have XL:=aj (x.length=120) (ahc);rw[<-hx] at ER;have KC:=apr (some ⟨w.heap.size,4,none⟩) 120 120 x V7 (by
     have h1:=S7.o.E.rs V.o;rw[he3,<-hx] at h1;exact h1) XL.o
    unfold Bf at KC;have CL:=afX x;have CG:=af (fun(h:aG x=true)=>show rM x=fM x (lu x) 9/\ug x=0 from⟨by unfold rM;rw[if_pos ⟨XL.o,h⟩],Ue⟩);have CB:=af (fun(h:aG x=false)=>show ug x=2 from Ue);obtain⟨q,hq⟩:=ak (rM x);obtain⟨er,Y⟩:=ak (ug x);rw[<-hq] at KC CL CG;rw[<-Y] at KC CG CB;generalize EI x=qp at KC;clear hq Y;have KC:=af KC;have CL:=af CL;have HE3:=af (fun m=>show({e3 with m:=m}:En)=⟨hp,enX e s,m⟩ from by rw[he3,he1]);have HM3:=aj (e3.m=e.m) (by rw[he3,he1]);have OG:=aj (fU o) (by rw[Q.o];exact iw (af4 _ _));clear K1 K2 R1 R2 X1 he1 he2;(with_reducible refine KC.o.mono ?_);rintro e' w8 ⟨rfl,hB⟩;have S8:=af (S7.o.below hB);have O8:=af (O7.o.below hB);clear hB KC S6 S7 O6 O7;cases hc:aG x with
    |false=>
     have HE:=aj (dQ e s=2) (Vh);rw[CB.o hc];clear hc CG CB hx ER;go_wp2_with(first
      |(refine aQ 73 (.tmp 13) (.tmp 63) Z9 q 9 (IB.new w8 73 Z9) bC rfl CL.o ?_
        have BB:=dI w8 (.cells (agi Z9) 73) (agi q)
        obtain⟨V9,hV⟩:=ak ((w8.alloc (.cells (agi Z9) 73)).setRow w8.heap.size (agi q))
        have S9:=aj (Eo w V9 e3) (Um)
        rw[jR] at hV
        rw[<-hV]
        clear hV BB)
      |(refine rF rfl (.tmp 6) (.tmp 68) rfl _ eH eH rfl (iI Value.agg xw) S9.o.Z ig ig ?_))
     refine aX (v:=_) (hR _ _ _ eH rfl (EB.setRow S9.o.Z eH) ig) rfl ?_;exact EncOut.bad (aS S9.o.bel ah _) HE.o aA
    |true=>
     rw[(CG.o hc).2];have HX:=af hx;have HQ:=af (show q=fM x (lu x) 9 from(CG.o hc).1);have HE:=aj (dQ e s=0) (Vh);clear hx hc CG CB ER;have KL:=fun W=>apt q W CL.o;unfold JK at KL;obtain⟨rf,hrf⟩:=ak (dK 8 (jS q).1);have RX:=aj (YU x=rf) (by rw[hrf,HQ.o];rfl);have RL:=aj (rf.length=8) (by rw[hrf];exact afh _);rw[<-hrf] at KL;generalize (jS q).2.1=q1 at KL;generalize (jS q).2.2=q2 at KL;have KL:=af KL;have KA:=fun W (h:Bw w W)=>ama rf W RL.o (TT.o.2.2.below h);unfold vF at KA;obtain⟨i,hqn⟩:=ak (aL qV eU rf);have QX:=aj (enQ x=i) (by rw[hqn,<-RX.o];rfl);have QL:=aj (i.length=8) (by rw[<-QX.o];exact AZ x);rw[<-hqn] at KA;generalize aE eU rf 8=qe at KA;have KA:=af KA;have KV:=af (fun W (h:Bw w W)=>show Cl 29 #[.agg (au i).toArray] W (fun e w'=>e=.returned (.tuple #[.agg (agi (lU x)),.int .i64 0])/\Bw W w') from by
      have h1:=adm i W QL.o (TT.o.2.2.below h);unfold vF at h1;have g1:aL lvV ed i=lU x:=(by rw[<-QX.o];exact(Ql x).1);have g2:aE ed i 8=0:=(by rw[<-QX.o];exact(Ql x).2);rw[g1,g2] at h1;exact h1)
     have NL:=aj ((lU x).length=8) (by unfold lU;simp);have SN:=aj (dH (lU x)=true) (afk x);obtain⟨now,hnow⟩:=ak (lU x);rw[<-hnow] at KV NL SN;have HNOW:=af hnow;clear hrf hqn hnow;go_wp2_with(first
      |(refine aQ 73 (.tmp 13) (.tmp 63) Z9 q 9 (IB.new w8 73 Z9) bC rfl CL.o ?_
        have BB:=dI w8 (.cells (agi Z9) 73) (agi q)
        obtain⟨V9,hV⟩:=ak ((w8.alloc (.cells (agi Z9) 73)).setRow w8.heap.size (agi q))
        have S9:=aj (Eo w V9 e3) (Um)
        have O9:=aj (Own V9 w1.heap.size (some t) c2 o) (by rw[hV];exact O8.o.below BB)
        have C9:=aj (IB V9 w8.heap.size 73 q) (by rw[hV];exact IB.stored w8 73 Z9 q)
        rw[jR] at hV
        rw[<-hV]
        have BA:=baqq V9 (.cells (agi Z25) 81)
        obtain⟨V10,hW⟩:=ak (V9.alloc (.cells (agi Z25) 81))
        have I:=aj (Eo w V10 e3) (by rw[hW];exact S9.o.below BA)
        have O10:=aj (Rs V10 V9.heap.size (some t) o) (by rw[hW];exact O9.o.reads.below BA)
        have C10:=aj (IB V10 w8.heap.size 73 q) (by rw[hW];exact Blk.below' C9.o BA)
        have P10:=aj (IB V10 V9.heap.size 81 Z25) (by rw[hW];exact IB.new V9 _ _)
        have B10:=aj (Bw V9 V10) (by rw[hW];exact BA)
        rw[Qx] at hW
        have HW10:=af hW.symm
        clear hV BB hW BA)
      |(rw[HW10.o];clear HW10)
      |(refine aK 73 (.tmp 13) q 9 C10.o bP bC CL.o ?_))
     (with_reducible refine(KL.o V10).mono ?_);rintro e' w11 ⟨rfl,hB⟩;obtain⟨gP,hgP⟩:=ak (V9.heap.size);have J11:=aj (Ej w w11 e3 t o gP Z25) (by
      rw[hgP];exact Ej.below (W:=V10) ⟨I.o,O10.o,P10.o,S9.o.lt⟩ hB)
     rw[<-hgP];clear hB hgP KL S8 S9 I O8 O9 O10 C9 C10 P10 B10;go_wp2_with(first
      |(refine aQ 52 (.tmp 16) (.tmp 73) Z8 rf 8 (IB.new w11 52 Z8) aJ rfl RL.o ?_
        have BB:=dI w11 (.cells (agi Z8) 52) (agi rf)
        obtain⟨V12,hV⟩:=ak ((w11.alloc (.cells (agi Z8) 52)).setRow w11.heap.size (agi rf))
        have J12:=aj (Ej w V12 e3 t o gP Z25) (by rw[hV];exact J11.o.below BB)
        have F12:=aj (IB V12 w11.heap.size 52 rf) (by rw[hV];exact IB.stored w11 52 Z8 rf)
        rw[dP] at hV
        rw[<-hV]
        clear hV BB)
      |(refine aK 52 (.tmp 16) rf 8 F12.o aU aJ RL.o ?_))
     (with_reducible refine(KA.o V12 J12.o.L.bel).mono ?_);rintro e' w13 ⟨rfl,hB⟩;have J13:=af (J12.o.below hB);clear hB KA J11 J12 F12;obtain⟨f,hm0⟩:=ak (rD r e.m);have K0:=aj (f.ok) (by rw[hm0];exact afs r K.o.m);have G0:=aj (aO f=true) (by rw[hm0];exact aft r HG.o);obtain⟨was,hwas⟩:=ak (f.r);have WL:=aj (was.length=8) (UC);have SW:=aj (dH was=true) (by rw[hwas];exact Ji (jr G0.o).1);have ZL:=aj ((enZ 0 i was now o f 0).length=25) (Bc QL.o ah);have HIQ:=aj ((Tryz.prog.info? 52).map (·.size)=some (au i).length) (by rw[bf,QL.o];exact aJ);have HQN:=af (fun W kd gP (h:IB W gP 81 (enZ kd i was now o f 0))=>show W.rangeAt gP 1 (au i) from af5 QL.o h);have HM0:=af hm0;have HWAS:=af hwas;clear hm0 hwas;have HPP:=aj (jJ e s r=enP (vI r o) i was now o f) (by
      have h1:jJ e s r=enP (vI r (eu e s).2.1) (enQ (enX e s)) (rD r e.m).r (lU (enX e s)) (eu e s).2.1 (rD r e.m):=rfl;rw[h1,<-Q.o,<-HX.o,QX.o,<-HNOW.o,<-HM0.o,<-HWAS.o])
     cases r with
     |true=>
      have M0:=aj (f=eQ) (HM0.o);have KFr:=af (fun W=>show Cl 22 #[] W (fun e w'=>e=.returned (.agg f.ag)/\Bw W w') from by rw[M0.o];exact N7 W);go_wp2_with(first
       |(refine iY rfl 52 (.tmp 81) (.tmp 79) rfl gP 1 (agi i) rfl rfl (by rw[dX,QL.o];exact IB.thereAt J13.o.P 1 8 (by simp[Z25])) wu (ik _) ?_
         have J14:=aj (Ej w (w13.setCells gP 1 (au i)) e3 t o gP (enZ 0 i was now o f 0)) (J13.o.over _ _ (IB.over (A:=[0]) (old:=List.replicate 8 0) (B:=List.replicate 16 0) J13.o.P rfl (by rw[QL.o];rfl) (Qm QL.o).symm rfl))
         obtain⟨F,hV14⟩:=ak (w13.setCells gP 1 (au i))
         rw[<-hV14] at J14
         rw[show(agi i).toList=au i from rfl,<-hV14]
         clear hV14)
       |(refine bZ rfl 55 (.tmp 82) rfl w.heap.size 124 rfl e.m.cs _ ahh kG rfl HIM.o ?_)
       |(refine dW rfl (.tmp 19) (.tmp 83) rfl _ aZ e.m rfl rfl (oh F) df K.o.m ?_
         have BB:=dI F (.cells Tryz.zeroCells55 55) e.m.ag
         have N:=af (show Ek w ((F.alloc (.cells Tryz.zeroCells55 55)).setRow F.heap.size e.m.ag) e3 t o gP F.heap.size (enZ 0 i was now o f 0) e.m from⟨J14.o.below BB,MB.setRow (oh F) e.m,J14.o.lt⟩)
         obtain⟨V15,hV15⟩:=ak ((F.alloc (.cells Tryz.zeroCells55 55)).setRow F.heap.size e.m.ag)
         rw[<-hV15] at N|-
         clear hV15 BB
         have c0:=N.o.J.P.cell 0 Vq
         have f0:=Blk.frozen N.o.J.P 0)
       |(fail))
      obtain⟨gM,hgM⟩:=ak (F.heap.size);rw[<-hgM] at N|-;clear hgM J13 J14;have K16:=aj (Ek w (V15.setCell ⟨gP,0,none⟩ (.int .i64 1)) e3 t o gP gM (enZ 1 i was now o f 0) e.m) (N.o.kind 1);(with_reducible refine(KFr.o _).mono ?_);rintro e' w16 ⟨rfl,hB⟩;have K17:=af (K16.o.below hB);clear hB N K16 KFr c0 f0;have l:=af (K17.o.rowM (mm:=f));obtain⟨V18,R⟩:=ak (w16.setRow gM f.ag);rw[<-R] at l;have HV18:=af R;clear R;go_wp2_with(first
       |(refine dW rfl (.tmp 19) (.tmp 87) rfl _ e.m f rfl rfl K17.o.M K.o.m K0.o ?_;rw[<-HV18.o];clear HV18)
       |(refine bZ rfl 52 (.tmp 93) rfl gP 1 rfl (au i) _ (HQN.o _ _ _ l.o.J.P) aU rfl HIQ.o ?_))
      clear K17;obtain⟨kd,hkd⟩:=ak (1:Int);obtain⟨rr,hrr⟩:=ak (true:Bool);have HPF:=aj (jJ e s rr=enZ kd i was now o f 2) (ahx);have HRR:=af hrr;have l:=aj (Ek w V18 e3 t o gP gM (enZ kd i was now o f 0) f) (by rw[hkd];exact l.o);have hk2:(kd==2)=false:=zK;have hk3:(kd !=2)=true:=zK;clear hkd hrr;(with_reducible refine(KV.o V18 l.o.J.L.bel).mono ?_);rintro e' X ⟨rfl,hB⟩;have K19:=af (l.o.below hB);clear hB l;go_wp2_with(first
       |(refine aQ 52 (.tmp 20) (.tmp 96) Z8 now 8 (IB.new X 52 Z8) aJ rfl NL.o ?_
         have BB:=dI X (.cells (agi Z8) 52) (agi now)
         obtain⟨V20,hV⟩:=ak ((X.alloc (.cells (agi Z8) 52)).setRow X.heap.size (agi now))
         have M20:=aj (Em w V20 e3 t o gP gM X.heap.size (enZ kd i was now o f 0) f now) (ahb)
         rw[dP] at hV
         rw[<-hV]
         clear hV BB))
      obtain⟨gN,hgN⟩:=ak (X.heap.size);rw[<-hgN] at M20|-;clear hgN K19;go_loopw[98] (fun iv wr=> ∃j:Nat,j<=2/\iv=.int .i64 j/\Hy (Em w wr e3 t o gP gM gN (enZ kd i was now o f j) (enK was now o f j) now)) (fun iv _=>2-(intOf iv).toNat)
      case atStart=>exact⟨0,ah,rfl,M20⟩
      case round=>
       clear M20;obtain⟨j,hj,rfl,C⟩:=hrel;obtain⟨ps,D⟩:=ak (enZ kd i was now o f j);obtain⟨mk,hmk⟩:=ak (enK was now o f j);rw[<-D,<-hmk] at C;have PL:=aj (ps.length=25) (Ug);have P0:=aj (ps.getD 0 0=kd) (Gv);have KO:=aj (mk.ok) (Uk);have RK:=aj (mk.r=was) (UM);have c0:=C.o.K.J.P.cell 0 zH;rw[P0.o] at c0;have HPS:=af D;have HMK:=af hmk;clear D hmk;by_cases hlt:j<2
       ·exact ahA
       obtain rfl:j=2:=ah;have HPK:=aj (jJ e s rr=ps) (Uz);have J0:=af C.o.K.J;clear C HMK RK KO c0;exact abh
     |false=>
      have M0:=aj (f=e.m) (HM0.o);have KQ:=af (fun W (h:Rs W W.heap.size (some t) o)=>show Cl 28 #[.slice (some t) 80 c2] W (fun e w'=>e=.returned (.bool (Qh o))/\W=w') from aoS (some t) c2 80 o W h OL.o ah OG.o);have KD0:=aj (vI false o=if Qh o then 2 else 0) (rfl);obtain⟨qv,hqv⟩:=ak (Qh o);rw[<-hqv] at KQ KD0;clear hqv;go_wp2_with(first
       |(refine iY rfl 52 (.tmp 81) (.tmp 79) rfl gP 1 (agi i) rfl rfl (by rw[dX,QL.o];exact IB.thereAt J13.o.P 1 8 (by simp[Z25])) wu (ik _) ?_
         have J14:=aj (Ej w (w13.setCells gP 1 (au i)) e3 t o gP (enZ 0 i was now o f 0)) (J13.o.over _ _ (IB.over (A:=[0]) (old:=List.replicate 8 0) (B:=List.replicate 16 0) J13.o.P rfl (by rw[QL.o];rfl) (Qm QL.o).symm rfl))
         obtain⟨F,hV14⟩:=ak (w13.setCells gP 1 (au i))
         rw[<-hV14] at J14
         rw[show(agi i).toList=au i from rfl,<-hV14]
         clear hV14)
       |(refine bZ rfl 55 (.tmp 82) rfl w.heap.size 124 rfl e.m.cs _ ahh kG rfl HIM.o ?_)
       |(refine dW rfl (.tmp 19) (.tmp 83) rfl _ aZ e.m rfl rfl (oh F) df K.o.m ?_
         have BB:=dI F (.cells Tryz.zeroCells55 55) e.m.ag
         have N:=af (show Ek w ((F.alloc (.cells Tryz.zeroCells55 55)).setRow F.heap.size e.m.ag) e3 t o gP F.heap.size (enZ 0 i was now o f 0) e.m from⟨J14.o.below BB,MB.setRow (oh F) e.m,J14.o.lt⟩)
         obtain⟨V15,hV15⟩:=ak ((F.alloc (.cells Tryz.zeroCells55 55)).setRow F.heap.size e.m.ag)
         rw[<-hV15] at N|-
         clear hV15 BB
         have c0:=N.o.J.P.cell 0 Vq
         have f0:=Blk.frozen N.o.J.P 0)
       |(fail))
      obtain⟨gM,hgM⟩:=ak (F.heap.size);rw[<-hgM] at N|-;clear hgM J13 J14;(with_reducible refine(KQ.o V15 (N.o.J.O.more (kY N.o.J.lt))).mono ?_);rintro e' w16 ⟨rfl,rfl⟩;clear KQ;have M0:=M0.o;rw[<-M0] at N;have hq2:qv=true\/qv=false:=(by cases qv<;>simp);rcases hq2 with rfl|rfl
      ·have HPP:=aj (jJ e s false=enP 2 i was now o f) (by rw[HPP.o,KD0.o];rfl)
       have l:=aj (Ek w (V15.setCell ⟨gP,0,none⟩ (.int .i64 2)) e3 t o gP gM (enZ 2 i was now o f 0) f) (N.o.kind 2);clear KD0 N;obtain⟨V18,R⟩:=ak (V15.setCell ⟨gP,0,none⟩ (.int .i64 2));rw[<-R] at l;have HV18:=af R;clear R M0;go_wp2_with(first
        |(rw[<-HV18.o];clear HV18 c0 f0)
        |(refine bZ rfl 52 (.tmp 93) rfl gP 1 rfl (au i) _ (HQN.o _ _ _ l.o.J.P) aU rfl HIQ.o ?_))
       (with_reducible refine(KV.o V18 l.o.J.L.bel).mono ?_);rintro e' X ⟨rfl,hB⟩;have J19:=af (l.o.J.below hB);clear hB l;go_wp2_with(first
        |(refine aQ 52 (.tmp 20) (.tmp 96) Z8 now 8 (IB.new X 52 Z8) aJ rfl NL.o ?_
          have BB:=dI X (.cells (agi Z8) 52) (agi now)
          obtain⟨V20,hV⟩:=ak ((X.alloc (.cells (agi Z8) 52)).setRow X.heap.size (agi now))
          have J20:=aj (Ej w V20 e3 t o gP (enZ 2 i was now o f 0)) (by rw[hV];exact J19.o.below BB)
          rw[dP] at hV
          rw[<-hV]
          clear hV BB))
       clear J19;obtain⟨ps,D⟩:=ak (enZ 2 i was now o f 0);rw[<-D] at J20;have HPK:=aj (jJ e s false=ps) (by rw[D];exact HPP.o.trans afn.symm);have HPS:=aj (ps.getD 0 0=2) (Gv);have PL:=aj (ps.length=25) (by rw[D];exact Bc QL.o ah);clear D;go_loopw[98] (fun iv wr=>iv=.int .i64 0/\Hy (Ej w wr e3 t o gP ps)) (fun _ _=>0)
       case atStart=>exact⟨rfl,J20⟩
       case round=>
        clear J20;obtain⟨rfl,J0⟩:=hrel;have c0:=J0.o.P.cell 0 zH;rw[HPS.o] at c0;obtain⟨rr,hrr⟩:=ak (false:Bool);have HPK:=aj (jJ e s rr=ps) (by rw[hrr];exact HPK.o);have HRR:=af hrr;clear hrr;exact abh
      have HPP:=aj (jJ e s false=enP 0 i was now o f) (by rw[HPP.o,KD0.o];rfl);have l:=N;clear KD0 N M0 c0 f0;obtain⟨V18,R⟩:=ak (V15);rw[<-R] at l|-;clear R;go_wp2_with(first
       |(refine bZ rfl 52 (.tmp 93) rfl gP 1 rfl (au i) _ (HQN.o _ _ _ l.o.J.P) aU rfl HIQ.o ?_))
      obtain⟨kd,hkd⟩:=ak (0:Int);obtain⟨rr,hrr⟩:=ak (false:Bool);have HPF:=aj (jJ e s rr=enZ kd i was now o f 2) (ahy);have HRR:=af hrr;have l:=aj (Ek w V18 e3 t o gP gM (enZ kd i was now o f 0) f) (by rw[hkd];exact l.o);have hk2:(kd==2)=false:=zK;have hk3:(kd !=2)=true:=zK;clear hkd hrr;(with_reducible refine(KV.o V18 l.o.J.L.bel).mono ?_);rintro e' X ⟨rfl,hB⟩;have K19:=af (l.o.below hB);clear hB l;go_wp2_with(first
       |(refine aQ 52 (.tmp 20) (.tmp 96) Z8 now 8 (IB.new X 52 Z8) aJ rfl NL.o ?_
         have BB:=dI X (.cells (agi Z8) 52) (agi now)
         obtain⟨V20,hV⟩:=ak ((X.alloc (.cells (agi Z8) 52)).setRow X.heap.size (agi now))
         have M20:=aj (Em w V20 e3 t o gP gM X.heap.size (enZ kd i was now o f 0) f now) (ahb)
         rw[dP] at hV
         rw[<-hV]
         clear hV BB))
      obtain⟨gN,hgN⟩:=ak (X.heap.size);rw[<-hgN] at M20|-;clear hgN K19;go_loopw[98] (fun iv wr=> ∃j:Nat,j<=2/\iv=.int .i64 j/\Hy (Em w wr e3 t o gP gM gN (enZ kd i was now o f j) (enK was now o f j) now)) (fun iv _=>2-(intOf iv).toNat)
      case atStart=>exact⟨0,ah,rfl,M20⟩
      case round=>
       clear M20;obtain⟨j,hj,rfl,C⟩:=hrel;obtain⟨ps,D⟩:=ak (enZ kd i was now o f j);obtain⟨mk,hmk⟩:=ak (enK was now o f j);rw[<-D,<-hmk] at C;have PL:=aj (ps.length=25) (Ug);have P0:=aj (ps.getD 0 0=kd) (Gv);have KO:=aj (mk.ok) (Uk);have RK:=aj (mk.r=was) (UM);have c0:=C.o.K.J.P.cell 0 zH;rw[P0.o] at c0;have HPS:=af D;have HMK:=af hmk;clear D hmk;by_cases hlt:j<2
       ·exact ahA
       obtain rfl:j=2:=ah;have HPK:=aj (jJ e s rr=ps) (Uz);have J0:=af C.o.K.J;clear C HMK RK KO c0;exact abh
 ·have ER:=aj (dQ e s=1) (by rw[ER.o,if_neg ah])
  have hne:((n:Int) !=80)=true:=aC;clear KG K k HN TT hn;go_enter Tryz.func12,Tryz.ntmps12;go_wp2_with(refine rF rfl (.tmp 6) (.tmp 30) rfl _ eH eH rfl (iI Value.agg xw) S0.o.Z ig ig ?_);exact aiA
