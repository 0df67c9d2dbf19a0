/- Texts that the law rests on. -/
import Derived.Test.YthoiikkjjaldnaaGreatDoorZ1e0l
import Derived.Test.YthoiikkjjaldnaaGreatDoorZ1e0n
namespace Go.Proofs.YthoiikkjjaldnaaGreatDoor
set_option linter.unusedVariables false
set_option linter.unusedSimpArgs false
set_option maxRecDepth 100000
set_option maxHeartbeats 8000000
open Go.RowKit
theorem aav:agi Z25= #[.int .i64 0,.int .i64 0,.int .i64 0,.int .i64 0,.int .i64 0,.int .i64 0,.int .i64 0,.int .i64 0,.int .i64 0,.int .i64 0,.int .i64 0,.int .i64 0,.int .i64 0,.int .i64 0,.int .i64 0,.int .i64 0,.int .i64 0,.int .i64 0,.int .i64 0,.int .i64 0,.int .i64 0,.int .i64 0,.int .i64 0,.int .i64 0,.int .i64 0]:=rfl
def qg(l:List Int):List Int:=if l.length=120/\aG l=true then eX l (jJ l) 9 else Z9
def Aw(l:List Int):Int:=if l.length=120/\aG l=true then lw l else 0
def y8(l:List Int)(w:World)(e:Ending)(w':World):Prop:=e=.returned (.tuple #[.agg (agi (qg l)),.int .i64 (Aw l),.int .i64 (qY l)])/\Below w.heap.size w w'
theorem aaK(l:List Int):(qg l).length=9:=by
 unfold qg
 split
 ·exact pG _ _ _
 rfl
theorem aaL{l:List Int}{w w':World}{e:Ending}(h1:l.length=120)(h2:aG l=true)(h:RP l w e w'):y8 l w e w':=by
 obtain⟨rfl,hB⟩:=h
 refine⟨?_,hB⟩
 unfold qg Aw qY
 rw[if_pos ⟨h1,h2⟩,if_pos ⟨h1,h2⟩,if_pos h1,h2]
 rfl
theorem aaM{l:List Int}{w w':World}{e:Ending}(h1:l.length≠120)(h:Ad w 1 e w'):y8 l w e w':=by
 obtain⟨rfl,hB⟩:=h
 refine⟨?_,hB⟩
 unfold qg Aw qY
 rw[if_neg (fun h=>h1 h.1),if_neg (fun h=>h1 h.1),if_neg h1]
theorem aaN{l:List Int}{w w':World}{e:Ending}(h1:l.length=120)(h2:aG l=false)(h:Ad w 2 e w'):y8 l w e w':=by
 obtain⟨rfl,hB⟩:=h
 refine⟨?_,hB⟩
 unfold qg Aw qY
 rw[if_neg (fun h=>by rw[h2] at h;exact absurd h.2 aB),if_neg (fun h=>by rw[h2] at h;exact absurd h.2 aB),if_pos h1,h2]
 rfl
theorem ajh(A:Option Addr)(c n:Nat)(l:List Int)(w:World)(hr:Rs w w.heap.size A l)(hn:l.length=n):Calls Tryz.prog 38 #[.slice A n c] w (y8 l w):=by
 by_cases h1:n=120
 ·subst h1
  by_cases h2:aG l=true
  ·exact(ahU A c 120 l w hr hn h2).mono fun e w' h=>aaL hn h2 (ah3 (fP h2) h)
  exact(ahW A c l w hr hn zn).mono fun e w' h=>aaN hn zn h
 exact(ahV A c n w h1).mono fun e w' h=>aaM (by rw[hn];exact h1) h
theorem aji(A:Option Addr)(c n:Nat)(l:List Int)(w:World)(hr:Rs w w.heap.size A l)(hn:l.length=n):Calls Tryz.prog 49 #[.slice A n c] w (y8 l w):=by
 by_cases h1:n=120
 ·subst h1
  by_cases h2:aG l=true
  ·exact(aje A c l w hr hn h2).mono fun e w' h=>aaL hn h2 h
  exact(ajg A c l w hr hn zn).mono fun e w' h=>aaN hn zn h
 exact(ajf A c n w h1).mono fun e w' h=>aaM (by rw[hn];exact h1) h
def EncOut(w:World)(en:En)(s:List Int)(r:Bool)(e:Ending)(w':World):Prop:=
 ∃A1 c1 A2 c2,e=.returned (.tuple #[.agg (enE en s r).ag,.slice A1 (mi en s r).length c1,.slice A2 (enY en s r).length c2,.int .i64 (iI en s)])/\OwnB w' w.heap.size A1 c1 (mi en s r)/\Own w' w.heap.size A2 c2 (enY en s r)/\Below w.heap.size w w'
theorem EncOut.bad{w w':World}{en:En}{s:List Int}{r:Bool}{er:Int}(hB:Below w.heap.size w w')(he:iI en s=er)(h0:er≠0):
 EncOut w en s r (.returned (.tuple #[.agg dH.ag,.slice none 0 0,.slice none 0 0,.int .i64 er])) w':=by
 subst he
 have h1:enE en s r=dH:=if_neg h0
 have h2:mi en s r=[]:=if_neg h0
 have h3:enY en s r=[]:=if_neg h0
 unfold EncOut
 rw[h1,h2,h3]
 exact⟨none,0,none,0,rfl,OwnB.nil,Own.nil,hB⟩
structure Eo(w W:World)(e:En):Prop where
 E:EB W w.heap.size e
 Z:EB W (w.heap.size+1) dH
 bel:Below w.heap.size w W
theorem Eo.start(w:World)(e:En):Eo w ((w.alloc (.cells e.ag 47)).alloc (.cells Tryz.zeroCells47 47)) e:=by
 have h1:=EB.new w e
 have h2:=sQ (w.alloc (.cells e.ag 47))
 simp only[bU] at h2
 exact⟨Blk.alloc h1 _,h2,((aA _ _).alloc (al0z w.heap.size) (.cells e.ag 47)).alloc az (.cells Tryz.zeroCells47 47)⟩
section
variable {w W W':World} {e e':En}
theorem Eo.below(s:Eo w W e)(hb:Below W.heap.size W W'):Eo w W' e:=⟨Blk.below' s.E hb,Blk.below' s.Z hb,s.bel.trans (hb.mono s.bel.size)⟩
theorem Eo.lt(s:Eo w W e):w.heap.size+2<=W.heap.size:=Blk.lt s.Z
theorem Eo.sets(s:Eo w W e)(vs:List Value)(o:Nat)(h:EB (W.setCells w.heap.size o vs) w.heap.size e'):Eo w (W.setCells w.heap.size o vs) e':=
 ⟨h,dh ah _ _ _ s.Z,iM (al0z _) _ _ _ s.bel⟩
theorem Eo.row(s:Eo w W e):Eo w (W.setRow w.heap.size e'.ag) e':=⟨s.E.setRow e',Blk.rowFar s.Z ah,aS s.bel (al0z _) _⟩
theorem Eo.far(s:Eo w W e){g:Nat}(hg:w.heap.size+2<=g)(vs:List Value)(o:Nat):Eo w (W.setCells g o vs) e:=
 ⟨dh ah _ _ _ s.E,dh ah _ _ _ s.Z,iM ah _ _ _ s.bel⟩
theorem Eo.farC(s:Eo w W e){g:Nat}(hg:w.heap.size+2<=g)(o:Nat)(v:Value):Eo w (W.setCell ⟨g,o,none⟩ v) e:=
 ⟨Blk.far s.E UW _,Blk.far s.Z UN _,s.bel.setCell UZ _⟩
theorem Eo.farR(s:Eo w W e){g:Nat}(hg:w.heap.size+2<=g)(cs:Array Value):Eo w (W.setRow g cs) e:=
 ⟨Blk.rowFar s.E ah,Blk.rowFar s.Z ah,aS s.bel ah _⟩
end
structure Ei(w W:World)(e:En)(B:Nat)(ad:Addr)(c:Nat)(o:List Int):Prop where
 L:Eo w W e
 O:Own W B (some ad) c o
theorem ajk{x o:List Int}(hx:x.length=120)(ho:o.length=80):x.drop 80++o=(x.drop 80++x.drop 40).take 40++o++(x.drop 80++x.drop 40).drop (40+o.length):=by
 have l1:(x.drop 80).length=40:=by rw[jY,hx]
 have l2:(x.drop 40).length=80:=by rw[jY,hx]
 generalize x.drop 80=a at*
 generalize x.drop 40=b at*
 have h1:(a++b).take 40=a:=by rw[<-l1,List.take_left]
 have h2:(a++b).drop (40+o.length)=[]:=List.drop_of_length_le (by rw[gu];omega)
 rw[h1,h2,wQ]
structure Ej(w W:World)(e:En)(ad:Addr)(o:List Int)(gP:Nat)(ps:List Int):Prop where
 L:Eo w W e
 O:Rs W gP (some ad) o
 P:IB W gP 38 ps
 l0:w.heap.size+2<=gP
section
variable {w W W':World} {e:En} {ad:Addr} {o ps ps':List Int} {gP:Nat}
theorem Ej.lt(s:Ej w W e ad o gP ps):gP<W.heap.size:=Blk.lt s.P
theorem Ej.below(s:Ej w W e ad o gP ps)(hb:Below W.heap.size W W'):Ej w W' e ad o gP ps:=⟨s.L.below hb,s.O.below (hb.mono (jy s.lt)),Blk.below' s.P hb,s.l0⟩
theorem Ej.over(s:Ej w W e ad o gP ps)(vs:List Value)(i:Nat)(h:IB (W.setCells gP i vs) gP 38 ps'):Ej w (W.setCells gP i vs) e ad o gP ps':=
 ⟨s.L.far s.l0 vs i,s.O.below (iM (al0z _) _ _ _ (aA _ _)),h,s.l0⟩
theorem Ej.kind(s:Ej w W e ad o gP ps)(x:Int):Ej w (W.setCell ⟨gP,0,none⟩ (.int .i64 x)) e ad o gP (ps.set 0 x):=
 ⟨s.L.farC s.l0 0 _,s.O.below ((aA gP W).setCell (by show gP<=gP;omega) _),s.P.set_ 0 x,s.l0⟩
theorem Ej.far(s:Ej w W e ad o gP ps){g:Nat}(hg:gP<g)(vs:List Value)(i:Nat):Ej w (W.setCells g i vs) e ad o gP ps:=
 ⟨s.L.far (by have:=s.l0;omega) vs i,s.O.below (iM ah _ _ _ (aA _ _)),dh ah _ _ _ s.P,s.l0⟩
theorem Ej.farR(s:Ej w W e ad o gP ps){g:Nat}(hg:gP<g)(cs:Array Value):Ej w (W.setRow g cs) e ad o gP ps:=
 ⟨s.L.farR (by have:=s.l0;omega) cs,s.O.below (aS (aA gP W) ah cs),Blk.rowFar s.P ah,s.l0⟩
end
structure Ek(w W:World)(e:En)(ad:Addr)(o:List Int)(gP gM:Nat)(ps:List Int)(m:Mm):Prop where
 J:Ej w W e ad o gP ps
 M:MB W gM m
 l1:gP<gM
section
variable {w W W':World} {e:En} {ad:Addr} {o ps ps':List Int} {gP gM:Nat} {m mm:Mm}
theorem Ek.lt(s:Ek w W e ad o gP gM ps m):gM<W.heap.size:=Blk.lt s.M
theorem Ek.below(s:Ek w W e ad o gP gM ps m)(hb:Below W.heap.size W W'):Ek w W' e ad o gP gM ps m:=⟨s.J.below hb,Blk.below' s.M hb,s.l1⟩
theorem Ek.over(s:Ek w W e ad o gP gM ps m)(vs:List Value)(i:Nat)(h:IB (W.setCells gP i vs) gP 38 ps'):Ek w (W.setCells gP i vs) e ad o gP gM ps' m:=
 ⟨s.J.over vs i h,dh Ff _ _ _ s.M,s.l1⟩
theorem Ek.kind(s:Ek w W e ad o gP gM ps m)(x:Int):Ek w (W.setCell ⟨gP,0,none⟩ (.int .i64 x)) e ad o gP gM (ps.set 0 x) m:=
 ⟨s.J.kind x,Blk.far s.M (by show gM≠gP;have:=s.l1;omega) _,s.l1⟩
theorem Ek.rowM(s:Ek w W e ad o gP gM ps m):Ek w (W.setRow gM mm.ag) e ad o gP gM ps mm:=⟨s.J.farR s.l1 _,s.M.setRow mm,s.l1⟩
theorem Ek.setR(s:Ek w W e ad o gP gM ps m)(k:m.ok)(r:List Int)(hr:r.length=8):Ek w (W.setCells gM 0 (aj r)) e ad o gP gM ps {m with r:=r}:=⟨s.J.far s.l1 _ _,s.M.set_r k r hr,s.l1⟩
end
structure Em(w W:World)(e:En)(ad:Addr)(o:List Int)(gP gM gN:Nat)(ps:List Int)(m:Mm)(now:List Int):Prop where
 K:Ek w W e ad o gP gM ps m
 N:IB W gN 22 now
 l2:gM<gN
section
variable {w W W':World} {e:En} {ad:Addr} {o ps ps' now:List Int} {gP gM gN:Nat} {m mm:Mm}
theorem Em.lt(s:Em w W e ad o gP gM gN ps m now):gN<W.heap.size:=Blk.lt s.N
theorem Em.below(s:Em w W e ad o gP gM gN ps m now)(hb:Below W.heap.size W W'):Em w W' e ad o gP gM gN ps m now:=⟨s.K.below hb,Blk.below' s.N hb,s.l2⟩
theorem Em.over(s:Em w W e ad o gP gM gN ps m now)(vs:List Value)(i:Nat)(h:IB (W.setCells gP i vs) gP 38 ps'):Em w (W.setCells gP i vs) e ad o gP gM gN ps' m now:=
 ⟨s.K.over vs i h,dh (by have:=s.K.l1;have:=s.l2;omega) _ _ _ s.N,s.l2⟩
theorem Em.rowM(s:Em w W e ad o gP gM gN ps m now):Em w (W.setRow gM mm.ag) e ad o gP gM gN ps mm now:=⟨s.K.rowM,Blk.rowFar s.N Om,s.l2⟩
theorem Em.setR(s:Em w W e ad o gP gM gN ps m now)(k:m.ok)(r:List Int)(hr:r.length=8):Em w (W.setCells gM 0 (aj r)) e ad o gP gM gN ps {m with r:=r} now:=
 ⟨s.K.setR k r hr,dh Om _ _ _ s.N,s.l2⟩
end
structure Ew(w W:World)(e:En)(ad:Addr)(o:List Int)(gP gM gN:Nat)(ps:List Int)(m:Mm)(now:List Int)(gA:Nat)(a:List Int):Prop where
 R:Em w W e ad o gP gM gN ps m now
 F:IB W gA 90 a
structure Ey(w W:World)(e:En)(ad:Addr)(o:List Int)(gP gM gN:Nat)(ps:List Int)(m:Mm)(now:List Int)(gA:Nat)(a:List Int)(gW:Nat)(was:List Int):Prop where
 R:Em w W e ad o gP gM gN ps m now
 F:IB W gA 90 a
 B:IB W gW 22 was
theorem JR{W:World}{g o:Nat}{ps A u B:List Int}(h:IB W g 38 ps)(he:ps=A++(u++B))(ho:A.length=o):W.rangeAt g o (aj u):=
 gI h (aj A) (aj u) (aj B) (by rw[he];unfold aj;simp only[List.map_append]) (by rw[aQ,ho])
theorem Az{ps:List Int}(h:cf ps 25=true)(hl:ps.length=25):W64 ps:=fun x hx=>by
 obtain⟨i,hi,rfl⟩:=List.getElem_of_mem hx
 have h1:=Dw h (show i<25 from ah)
 have h2:∀m,m<25->pkT.getD m 0<=63:=aB
 have h3:=h2 i (show i<25 from ah)
 unfold oz at h1
 rw[bi,jO hi,Option.getD_some] at h1
 omega
theorem JS{w w':World}{base c:Nat}{A:Option Addr}{xs:List Int}{row:Option Nat}(h:OwnB w base A c xs)(hg:w.grownBy w' row)(hne:∀a,A=some a->some a.block≠row):OwnB w' base A c xs:=
 World.ownsRow.kept h hg (by
  cases A with
  |none=>simp[Value.ownBlock]
  |some a=>simpa[Value.ownBlock] using hne a rfl)
theorem aaO{w:World}{base c g:Nat}{A:Option Addr}{xs:List Int}(h:OwnB w base A c xs)(hg:g<base)(cs:Array Value):OwnB (w.setRow g cs) base A c xs:=
 JS h (row:=some g) ⟨rfl,rfl,rfl,by simp[World.setRow],fun i _ hn=>setRow_other w g i cs UK⟩ (fun ad e h2=>by
  injection h2 with h2
  exact h.ne_ hg ad e h2)
theorem ajl{w:World}{base c g:Nat}{A:Option Addr}{xs:List Int}(h:OwnB w base A c xs)(hg:g<base)(i:Nat)(v:Value):OwnB (w.setCell ⟨g,i,none⟩ v) base A c xs:=
 JS h (row:=some g) ⟨rfl,rfl,rfl,zi,fun j _ hn=>Below.heap_setCell _ _ _ j vp⟩ (fun ad e h2=>by
  injection h2 with h2
  exact h.ne_ hg ad e h2)
theorem JU{base g c:Nat}{A:Option Addr}{xs:List Int}(hg:g<base):∀(vs:List Value) (o:Nat) (w:World),OwnB w base A c xs->OwnB (w.setCells g o vs) base A c xs
 |[],_,_,h=>h
 |v::vs,o,_,h=>JU hg vs (o+1) _ (ajl h hg o v)
theorem TP(g o j:Nat):(⟨g,o,none⟩:Addr).add j=⟨g,o+j,none⟩:=by unfold Addr.add;split<;>simp_all
theorem ajm{W:World}{B c:Nat}{ad:Addr}{o:List Int}(h:Own W B (some ad) c o)(h0:0<o.length):∀j v,(aj o)[j]?=some v->W.cell? (ad.add j)=some v:=fun j v hv=>by
 obtain⟨a2,e,_,h2⟩:=h.reads.2 h0
 injection e with e
 subst e
 exact h2 j v hv
theorem EB.rs{W:World}{g:Nat}{e:En}(h:EB W g e)(k:e.ok):Rs W W.heap.size (some ⟨g,4,none⟩) e.x:=
 ⟨by rw[aQ,Nat.mul_one],fun _=>⟨_,rfl,Blk.lt h,fun j u hu=>by rw[TP];exact h.X k j u hu⟩⟩
theorem TR{ops:Array Oper}{rest:List Oper}{o:Oper}{a:Act}{w:World}{Q:Exit->Act->World->Prop}(d s:Operand)(dT sT:TypeId)(_ho:o.op=.call {callee:=.builtin .copy,args:= #[d,s],argTypes:= #[dT,sT]})
 (h:wpList Tryz.prog ops Q (o::rest) a w):wpList Tryz.prog ops Q (o::rest) a w:=h
theorem aaP(e:En)(s:List Int):aG (dG e s).2.1=true:=by
 unfold dG hiA
 split
 ·exact aip _ _ _ _ _ _
 rfl
theorem aaQ{W:World}{g:Nat}{kd:Int}{qn was now o:List Int}{m:Mm}{s:Nat}(hq:qn.length=8)(h:IB W g 38 (enZ kd qn was now o m s)):W.rangeAt g 1 (aj qn):=by
 have h1:=h.mid 1 8 (by unfold enZ;rw[y9];omega)
 have e:((enZ kd qn was now o m s).drop 1).take 8=qn:=by
  unfold enZ
  exact acl
 rw[e] at h1
 exact h1
theorem JV{o:List Int}{s:Nat}(ho:eG o):eG (jh o s):=aiw (yX.2 fun x hx=>by
 obtain⟨i,hi,rfl⟩:=List.getElem_of_mem hx
 have h:=ho i
 rwa [bi,jO hi] at h)
theorem JW{W:World}{B:Nat}{ad:Addr}{o:List Int}{j:Nat}(h:Rs W B (some ad) o)(ho:o.length=80)(hj:j<2):Rs W B (some (ad.add (j*40))) (jh o j):=by
 have h1:=h.drop (k:=j*40) (cap:=80) ah ah
 rw[if_neg ah] at h1
 exact Rs.take h1 Bf
theorem aaR(l:List Int)(a b c d:Int)(n:Nat):(hiA l a b c d n).1.length=4:=by
 unfold hiA
 split<;>rfl
theorem uX:(Tryz.prog.info? 44).map (·.size)=some 4:=au
theorem ajn(e:En)(k:e.ok)(A:Option Addr)(c n:Nat)(s:List Int)(r:Bool)(w:World)(T1:TabA w 4 iy)(T2:TabA w 2 aY)(T3:TabA w 3 fD)
 (hr:Rs w w.heap.size A s) (hn:s.length=n) (hl:n<=17592186044000):Calls Tryz.prog 11 #[.agg e.ag,.slice A n c,.bool r] w (EncOut w e s r):=by
 have hR:=ZW (fn:=Tryz.f11) (p:=6) (q:=7) (r:=8) (s:=9) rfl
 have S0:=hid (Eo.start w e)
 have K:=hid k
 have KG:=hid (fun W=>show Calls Tryz.prog 22 #[.agg e.m.cs.toArray] W (zD W (aU e.m)) from WE e.m k.m W)
 have HIM:=hid (show(Tryz.prog.info? 25).map (·.size)=some e.m.cs.length from by rw[yg,e.m.len k.m])
 have HIH:=hid (show(Tryz.prog.info? 44).map (·.size)=some (aj e.h).length from by rw[uX,aQ,k.h])
 have TT:=hid (⟨T1,T2,T3⟩:TabA w 4 iy/\TabA w 2 aY/\TabA w 3 fD)
 have HRS:=hid hr
 have HN:=hid hn
 have ER:=hid (show iI e s=if s.length=80 then(if aU e.m=true then(if(dG e s).2.2=true then aZ (aG (enX e s)) else 2) else 2) else 1 from rfl)
 clear hr T1 T2 T3
 by_cases h80:n=80
 ·subst h80
  have ER:=hid (show iI e s=if aU e.m=true then(if(dG e s).2.2=true then aZ (aG (enX e s)) else 2) else 2 from by rw[ER.out,if_pos hn])
  have KH:=hid (fun W (h:Below w.heap.size w W)=>show Calls Tryz.prog 37 #[.agg (aj e.h).toArray,.slice A 80 c] W (qW W (dG e s).2.1 (dG e s).1 (aZ (dG e s).2.2)) from by
   obtain⟨h0,h1,h2,h3,he⟩:=uV k.h
   have h4:=ahG h0 h1 h2 h3 s A c 80 W ((HRS.out.below h).more h.size) hn ah
   unfold dG
   rw[he]
   exact h4)
  have HL4:=hid (fun(h:(dG e s).2.2=true)=>show(dG e s).2.1.length=80/\(dG e s).1.length=4 from Su _ _ _ _ _ _ h)
  unfold qW at KH
  clear k hn hl
  go_enter Tryz.func11,Tryz.ntmps11
  go_wp2_with(refine bI rfl 25 (.tmp 31) rfl w.heap.size 124 rfl e.m.cs _ (EB.M S0.out.E K.out) Tryz.underlying25 rfl HIM.out ?_)
  with_reducible refine(KG.out _).mono ?_
  rintro e' w1 ⟨rfl,hB⟩
  have S1:=hid (S0.out.below hB)
  clear hB S0 KG
  cases hg:aU e.m with
  |false=>
   have HE:=hid (show iI e s=2 from N7)
   clear hg
   go_wp2_with(refine oI rfl (.tmp 6) (.tmp 35) rfl _ dH dH rfl (congrArg Value.agg uP) S1.out.Z ik ik ?_)
   refine bg (v:=_) (hR _ _ _ dH rfl (EB.setRow S1.out.Z dH) ik) rfl ?_
   exact EncOut.bad (aS S1.out.bel ah _) HE.out aB
  |true=>
   have HG:=hid hg
   have ER:=hid (show iI e s=if(dG e s).2.2=true then aZ (aG (enX e s)) else 2 from N7)
   clear hg
   go_wp2_with(refine bI rfl 44 (.tmp 37) rfl w.heap.size 0 rfl (aj e.h) _ (EB.H S1.out.E) Tryz.underlying44 rfl HIH.out ?_)
   with_reducible refine(KH.out w1 S1.out.bel).mono ?_
   rintro e' w2 ⟨A2,c2,rfl,hO,hB⟩
   have S2:=hid (S1.out.below hB)
   have O2:=hid hO
   have HP4:=hid (show(dG e s).1.length=4 from aaR _ _ _ _ _ _)
   have B1:=hid S1.out.lt
   clear hO hB KH
   obtain⟨hp,hhp⟩:∃hp,hp=(dG e s).1:=⟨_,rfl⟩
   obtain⟨o,ho⟩:∃o,o=(dG e s).2.1:=⟨_,rfl⟩
   have EX:=hid (show enX e s=e.x.drop 80++o from by rw[ho];rfl)
   cases hh:(dG e s).2.2 with
   |false=>
    have HE:=hid (show iI e s=2 from Oa)
    rw[show aZ false=2 from rfl]
    rw[<-hhp] at HP4|-
    rw[<-ho]
    clear hh hhp ho O2 HL4 EX ER
    go_wp2_with(first
     |(refine aP rfl 44 (.tmp 11) (.tmp 42) rfl _ 44 [0,0,0,0] hp 4 rfl rfl (IB.new w2 44 [0,0,0,0]) uX rfl HP4.out ?_
       have BB:=bT w2 (.cells (agi [0,0,0,0]) 44) (agi hp)
       obtain⟨V3,hV⟩:∃V3,V3=(w2.alloc (.cells (agi [0,0,0,0]) 44)).setRow w2.heap.size (agi hp):=⟨_,rfl⟩
       have S3:=hid (show Eo w V3 e from MI)
       rw[zX] at hV
       rw[<-hV]
       clear hV BB)
     |(refine oI rfl (.tmp 6) (.tmp 46) rfl _ dH dH rfl (congrArg Value.agg uP) S3.out.Z ik ik ?_))
    refine bg (v:=_) (hR _ _ _ dH rfl (EB.setRow S3.out.Z dH) ik) rfl ?_
    exact EncOut.bad (aS S3.out.bel ah _) HE.out aB
   |true=>
    have ER:=hid (show iI e s=aZ (aG (enX e s)) from Oa)
    have OL:=hid (HL4.out hh).1
    have C80:=hid (show 80<=c2 from by have h:=O2.out.cap.1;rw[<-ho] at OL;rw[<-ho,OL.out] at h;exact h)
    rw[show aZ true=0 from rfl]
    rw[<-hhp] at HP4|-
    rw[<-ho] at OL O2|-
    rw[OL.out]
    have HHP:=hid hhp
    have HO:=hid ho
    clear hh hhp ho HL4
    obtain⟨ad2,rfl,_⟩:=O2.out.reads.ad Oo
    obtain⟨e1,he1⟩:∃e1:En,e1={e with h:=hp}:=⟨_,rfl⟩
    have K1:=hid (show e1.ok from by rw[he1];exact⟨HP4.out,K.out.x,K.out.m⟩)
    go_wp2_with(first
     |(refine aP rfl 44 (.tmp 11) (.tmp 42) rfl _ 44 [0,0,0,0] hp 4 rfl rfl (IB.new w2 44 [0,0,0,0]) uX rfl HP4.out ?_
       have BB:=bT w2 (.cells (agi [0,0,0,0]) 44) (agi hp)
       obtain⟨V3,hV⟩:∃V3,V3=(w2.alloc (.cells (agi [0,0,0,0]) 44)).setRow w2.heap.size (agi hp):=⟨_,rfl⟩
       have S3:=hid (show Eo w V3 e from MI)
       have H3:=hid (show IB V3 w2.heap.size 44 hp from by rw[hV];exact IB.stored w2 44 [0,0,0,0] hp)
       have O3:=hid (show Own V3 w1.heap.size (some ad2) c2 o from by rw[hV];exact O2.out.below BB)
       rw[zX] at hV
       rw[<-hV]
       clear hV BB)
     |(refine aK rfl 44 (.tmp 11) rfl _ 44 hp 4 _ rfl H3.out Tryz.underlying44 rfl uX HP4.out ?_)
     |(refine jd rfl 44 (.tmp 49) (.tmp 48) rfl w.heap.size 0 (agi hp) rfl rfl (by rw[dV,HP4.out];exact S3.out.E.thereH K.out) (by rw[dV,HP4.out];exact uX) (gG _) ?_
       have S4:=hid (show Eo w (V3.setCells w.heap.size 0 (aj hp)) e1 from S3.out.sets _ _ (by rw[he1];exact S3.out.E.set_h K.out hp HP4.out))
       have O4:=hid (show Own (V3.setCells w.heap.size 0 (aj hp)) w1.heap.size (some ad2) c2 o from Own.setCs (g:=w.heap.size) (by have:=B1.out;omega) (aj hp) 0 _ O3.out)
       obtain⟨V4,hV4⟩:∃V4,V4=V3.setCells w.heap.size 0 (aj hp):=⟨_,rfl⟩
       rw[<-hV4] at S4 O4
       rw[show(agi hp).toList=aj hp from rfl,<-hV4]
       clear hV4))
    clear S2 S3 H3 O2 O3
    obtain⟨e2,he2⟩:∃e2:En,e2={e1 with x:=e.x.drop 80++e.x.drop 40}:=⟨_,rfl⟩
    obtain⟨e3,he3⟩:∃e3:En,e3={e1 with x:=enX e s}:=⟨_,rfl⟩
    have K2:=hid (show e2.ok from by rw[he2];exact⟨K1.out.h,by simp[K.out.x],K1.out.m⟩)
    have K3:=hid (show e3.ok from by rw[he3];exact⟨K1.out.h,by rw[EX.out,gu,jY,K.out.x,OL.out],K1.out.m⟩)
    have X1:=hid (show e1.x=e.x from by rw[he1])
    have R1:=hid (show(e1.ag.toList.take 4++(aj (e1.x.drop 80)++e1.ag.toList.drop (4+(aj (e1.x.drop 80)).length))).toArray=e2.ag from by
     have h1:=EB.splice K1.out 0 (e1.x.drop 80) (e.x.drop 80++e.x.drop 40) (by rw[jY,K1.out.x];omega) (by rw[X1.out,jY,K.out.x];rfl)
     rw[he2]
     exact congrArg List.toArray h1)
    have R2:=hid (show(e2.ag.toList.take 44++(aj o++e2.ag.toList.drop (44+(aj o).length))).toArray=e3.ag from by
     have h1:=EB.splice K2.out 40 o (enX e s) Oo (by
      rw[he2,EX.out]
      exact ajk K.out.x OL.out)
     have h2:({e2 with x:=enX e s}:En)=e3:=by rw[he2,he3]
     rw[h2] at h1
     exact congrArg List.toArray h1)
    refine mD [0,1,2,3] [] 4 [] (fun W=>Ei w W e1 w1.heap.size ad2 c2 o) au au rfl ⟨S4.out.below ((aA _ _).drew),O4.out.drew⟩ (fun _ _ d _ _ h=>mN) ?_
    simp only[iz,jZ,mJ,mL]
    refine bY (v:=.pointer (some ⟨w.heap.size,4,none⟩)) aC (fun W=>rfl) ?_
    refine bY (v:=.slice (some ⟨w.heap.size,4,none⟩) 120 120) aC (fun W=>rfl) ?_
    refine bY (v:=.pointer (some ⟨w.heap.size,4,none⟩)) aC (fun W=>rfl) ?_
    refine bY (v:=.slice (some ⟨w.heap.size,84,none⟩) 40 40) aC (fun W=>rfl) ?_
    refine mr ?_
    refine wpQuiet_nil ?_
    intro W5 hW5
    have S5:=hid hW5.L
    have O5:=hid hW5.O
    clear hW5 S4 O4
    have O5c:=hid O5.out.cap
    have AD5:=hid (show ad2.block<W5.heap.size/\w1.heap.size<=ad2.block from⟨(O5.out.lt ad2 rfl).2,(O5.out.lt ad2 rfl).1⟩)
    go_wp2_with(first
     |((with_reducible refine TR (.tmp 51) (.tmp 53) 27 27 rfl ?_);refine wpList_copy_own rfl (.tmp 51) (.tmp 53) 27 27 rfl 3 Tryz.underlying27 Gj w.heap.size 4 120 120 ⟨w.heap.size,84,none⟩ 40 40 rfl rfl e1.ag _ S5.out.E (aj (e1.x.drop 80)) (by rw[aQ,jY,K1.out.x];rfl) (fun j v hv=>by rw[TP];exact S5.out.E.src K1.out 80 ah j v hv) (by rw[aQ,jY,K1.out.x,e1.size K1.out];omega) (mQ _) ?_;rw[R1.out]
       have S6:=hid (S5.out.row (e':=e2))
       have O6:=hid (O5.out.setRow (g:=w.heap.size) (by have:=B1.out;omega) e2.ag)
       have L6:=hid (show(aj (e1.x.drop 80)).length=40 from by rw[aQ,jY,K1.out.x])
       obtain⟨V6,hV6⟩:∃V6,V6=W5.setRow w.heap.size e2.ag:=⟨_,rfl⟩
       rw[<-hV6] at S6 O6|-
       clear hV6 S5 O5)
     |((with_reducible refine TR (.tmp 56) (.tmp 57) 27 27 rfl ?_);refine wpList_copy_own rfl (.tmp 56) (.tmp 57) 27 27 rfl 3 Tryz.underlying27 Gj w.heap.size 44 80 80 ad2 80 c2 rfl rfl e2.ag _ S6.out.E (aj o) (by rw[aQ,OL.out];rfl) (ajm O6.out Oo) (by rw[aQ,OL.out,e2.size K2.out];omega) (mQ _) ?_;rw[R2.out]
       have S7:=hid (S6.out.row (e':=e3))
       have O7:=hid (O6.out.setRow (g:=w.heap.size) (by have:=B1.out;omega) e3.ag)
       obtain⟨V7,hV7⟩:∃V7,V7=V6.setRow w.heap.size e3.ag:=⟨_,rfl⟩
       rw[<-hV7] at S7 O7|-
       clear hV7))
    obtain⟨x,hx⟩:∃x,x=enX e s:=⟨_,rfl⟩
    have XL:=hid (show x.length=120 from abf)
    rw[<-hx] at ER
    have KC:=ajh (some ⟨w.heap.size,4,none⟩) 120 120 x V7 (by
     have h1:=S7.out.E.rs K3.out
     rw[he3,<-hx] at h1
     exact h1) XL.out
    unfold y8 at KC
    have CL:=aaK x
    have CG:=hid (fun(h:aG x=true)=>show qg x=eX x (jJ x) 9/\qY x=0 from⟨by unfold qg;rw[if_pos ⟨XL.out,h⟩],Ls⟩)
    have CB:=hid (fun(h:aG x=false)=>show qY x=2 from Ls)
    obtain⟨q,hq⟩:∃q,q=qg x:=⟨_,rfl⟩
    obtain⟨er,her⟩:∃er,er=qY x:=⟨_,rfl⟩
    rw[<-hq] at KC CL CG
    rw[<-her] at KC CG CB
    generalize Aw x=qp at KC
    clear hq her
    have KC:=hid KC
    have CL:=hid CL
    have HE3:=hid (fun m=>show({e3 with m:=m}:En)=⟨hp,enX e s,m⟩ from by rw[he3,he1])
    have HM3:=hid (show e3.m=e.m from by rw[he3,he1])
    have OG:=hid (show eG o from by rw[HO.out];exact fQ (aaP _ _))
    clear K1 K2 R1 R2 X1 he1 he2
    with_reducible refine KC.out.mono ?_
    rintro e' w8 ⟨rfl,hB⟩
    have S8:=hid (S7.out.below hB)
    have O8:=hid (O7.out.below hB)
    clear hB KC S6 S7 O6 O7
    cases hc:aG x with
    |false=>
     have HE:=hid (show iI e s=2 from Ob)
     rw[CB.out hc]
     clear hc CG CB hx ER
     go_wp2_with(first
      |(refine aP rfl 90 (.tmp 13) (.tmp 63) rfl _ 90 Z9 q 9 rfl rfl (IB.new w8 90 Z9) bC rfl CL.out ?_
        have BB:=bT w8 (.cells (agi Z9) 90) (agi q)
        obtain⟨V9,hV⟩:∃V9,V9=(w8.alloc (.cells (agi Z9) 90)).setRow w8.heap.size (agi q):=⟨_,rfl⟩
        have S9:=hid (show Eo w V9 e3 from MJ)
        rw[jq] at hV
        rw[<-hV]
        clear hV BB)
      |(refine oI rfl (.tmp 6) (.tmp 68) rfl _ dH dH rfl (congrArg Value.agg uP) S9.out.Z ik ik ?_))
     refine bg (v:=_) (hR _ _ _ dH rfl (EB.setRow S9.out.Z dH) ik) rfl ?_
     exact EncOut.bad (aS S9.out.bel ah _) HE.out aB
    |true=>
     rw[(CG.out hc).2]
     have HX:=hid hx
     have HQ:=hid (show q=eX x (jJ x) 9 from(CG.out hc).1)
     have HE:=hid (show iI e s=0 from Ob)
     clear hx hc CG CB ER
     have KL:=fun W=>ajj q W CL.out
     unfold Ez at KL
     obtain⟨rf,hrf⟩:∃rf,rf=bQ 8 (jg q).1:=⟨_,rfl⟩
     have RX:=hid (show RV x=rf from by rw[hrf,HQ.out];rfl)
     have RL:=hid (show rf.length=8 from by rw[hrf];exact aab _)
     rw[<-hrf] at KL
     generalize (jg q).2.1=q1 at KL
     generalize (jg q).2.2=q2 at KL
     have KL:=hid KL
     have KA:=fun W (h:Below w.heap.size w W)=>afR rf W RL.out (TT.out.2.2.below h)
     unfold rX at KA
     obtain⟨qn,hqn⟩:∃qn,qn=aL qV cG rf:=⟨_,rfl⟩
     have QX:=hid (show enQ x=qn from by rw[hqn,<-RX.out];rfl)
     have QL:=hid (show qn.length=8 from by rw[<-QX.out];exact yV x)
     rw[<-hqn] at KA
     generalize aE cG rf 8=qe at KA
     have KA:=hid KA
     have KV:=hid (fun W (h:Below w.heap.size w W)=>show Calls Tryz.prog 43 #[.agg (aj qn).toArray] W (fun e w'=>e=.returned (.tuple #[.agg (agi (jU x)),.int .i64 0])/\Below W.heap.size W w') from by
      have h1:=XI qn W QL.out (TT.out.2.2.below h)
      unfold rX at h1
      have g1:aL lvV bh qn=jU x:=by rw[<-QX.out];exact(Jy x).1
      have g2:aE bh qn 8=0:=by rw[<-QX.out];exact(Jy x).2
      rw[g1,g2] at h1
      exact h1)
     have NL:=hid (show(jU x).length=8 from by unfold jU;simp)
     have SN:=hid (show bM (jU x)=true from aae x)
     obtain⟨now,hnow⟩:∃now,now=jU x:=⟨_,rfl⟩
     rw[<-hnow] at KV NL SN
     have HNOW:=hid hnow
     clear hrf hqn hnow
     go_wp2_with(first
      |(refine aP rfl 90 (.tmp 13) (.tmp 63) rfl _ 90 Z9 q 9 rfl rfl (IB.new w8 90 Z9) bC rfl CL.out ?_
        have BB:=bT w8 (.cells (agi Z9) 90) (agi q)
        obtain⟨V9,hV⟩:∃V9,V9=(w8.alloc (.cells (agi Z9) 90)).setRow w8.heap.size (agi q):=⟨_,rfl⟩
        have S9:=hid (show Eo w V9 e3 from MJ)
        have O9:=hid (show Own V9 w1.heap.size (some ad2) c2 o from by rw[hV];exact O8.out.below BB)
        have C9:=hid (show IB V9 w8.heap.size 90 q from by rw[hV];exact IB.stored w8 90 Z9 q)
        rw[jq] at hV
        rw[<-hV]
        have BA:=(aA V9.heap.size V9).alloc (al0z _) (.cells (agi Z25) 38)
        obtain⟨V10,hW⟩:∃V10,V10=V9.alloc (.cells (agi Z25) 38):=⟨_,rfl⟩
        have S10:=hid (show Eo w V10 e3 from by rw[hW];exact S9.out.below BA)
        have O10:=hid (show Rs V10 V9.heap.size (some ad2) o from by rw[hW];exact O9.out.reads.below BA)
        have C10:=hid (show IB V10 w8.heap.size 90 q from by rw[hW];exact Blk.below' C9.out BA)
        have P10:=hid (show IB V10 V9.heap.size 38 Z25 from by rw[hW];exact IB.new V9 _ _)
        have B10:=hid (show Below V9.heap.size V9 V10 from by rw[hW];exact BA)
        rw[aav] at hW
        have HW10:=hid hW.symm
        clear hV BB hW BA)
      |(rw[HW10.out];clear HW10)
      |(refine aK rfl 90 (.tmp 13) rfl _ 90 q 9 _ rfl C10.out Tryz.underlying90 rfl bC CL.out ?_))
     with_reducible refine(KL.out V10).mono ?_
     rintro e' w11 ⟨rfl,hB⟩
     obtain⟨gP,hgP⟩:∃gP,gP=V9.heap.size:=⟨_,rfl⟩
     have J11:=hid (show Ej w w11 e3 ad2 o gP Z25 from by
      rw[hgP]
      exact Ej.below (W:=V10) ⟨S10.out,O10.out,P10.out,S9.out.lt⟩ hB)
     rw[<-hgP]
     clear hB hgP KL S8 S9 S10 O8 O9 O10 C9 C10 P10 B10
     go_wp2_with(first
      |(refine aP rfl 22 (.tmp 16) (.tmp 73) rfl _ 22 Z8 rf 8 rfl rfl (IB.new w11 22 Z8) aH rfl RL.out ?_
        have BB:=bT w11 (.cells (agi Z8) 22) (agi rf)
        obtain⟨V12,hV⟩:∃V12,V12=(w11.alloc (.cells (agi Z8) 22)).setRow w11.heap.size (agi rf):=⟨_,rfl⟩
        have J12:=hid (show Ej w V12 e3 ad2 o gP Z25 from by rw[hV];exact J11.out.below BB)
        have F12:=hid (show IB V12 w11.heap.size 22 rf from by rw[hV];exact IB.stored w11 22 Z8 rf)
        rw[bW] at hV
        rw[<-hV]
        clear hV BB)
      |(refine aK rfl 22 (.tmp 16) rfl _ 22 rf 8 _ rfl F12.out Tryz.underlying22 rfl aH RL.out ?_))
     with_reducible refine(KA.out V12 J12.out.L.bel).mono ?_
     rintro e' w13 ⟨rfl,hB⟩
     have J13:=hid (J12.out.below hB)
     clear hB KA J11 J12 F12
     obtain⟨m0,hm0⟩:∃m0,m0=pJ r e.m:=⟨_,rfl⟩
     have K0:=hid (show m0.ok from by rw[hm0];exact aai r K.out.m)
     have G0:=hid (show aU m0=true from by rw[hm0];exact aaj r HG.out)
     obtain⟨was,hwas⟩:∃was,was=m0.r:=⟨_,rfl⟩
     have WL:=hid (show was.length=8 from Nb)
     have SW:=hid (show bM was=true from by rw[hwas];exact Iu (kM G0.out).1)
     have ZL:=hid (show(enZ 0 qn was now o m0 0).length=25 from Ag QL.out ah)
     have HIQ:=hid (show(Tryz.prog.info? 22).map (·.size)=some (aj qn).length from by rw[aQ,QL.out];exact aH)
     have HQN:=hid (fun W kd gP (h:IB W gP 38 (enZ kd qn was now o m0 0))=>show W.rangeAt gP 1 (aj qn) from aaQ QL.out h)
     have HM0:=hid hm0
     have HWAS:=hid hwas
     clear hm0 hwas
     have HPP:=hid (show jV e s r=enP (sO r o) qn was now o m0 from by
      have h1:jV e s r=enP (sO r (dG e s).2.1) (enQ (enX e s)) (pJ r e.m).r (jU (enX e s)) (dG e s).2.1 (pJ r e.m):=rfl
      rw[h1,<-HO.out,<-HX.out,QX.out,<-HNOW.out,<-HM0.out,<-HWAS.out])
     cases r with
     |true=>
      have M0:=hid (show m0=lX from HM0.out)
      have KFr:=hid (fun W=>show Calls Tryz.prog 41 #[] W (fun e w'=>e=.returned (.agg m0.ag)/\Below W.heap.size W w') from by rw[M0.out];exact PN W)
      go_wp2_with(first
       |(refine jd rfl 22 (.tmp 81) (.tmp 79) rfl gP 1 (agi qn) rfl rfl (by rw[dV,QL.out];exact IB.thereAt J13.out.P 1 8 (by simp[Z25])) ui (gG _) ?_
         have J14:=hid (show Ej w (w13.setCells gP 1 (aj qn)) e3 ad2 o gP (enZ 0 qn was now o m0 0) from J13.out.over _ _ (IB.over (A:=[0]) (old:=List.replicate 8 0) (B:=List.replicate 16 0) J13.out.P rfl (by rw[QL.out];rfl) (Jz QL.out).symm rfl))
         obtain⟨V14,hV14⟩:∃V14,V14=w13.setCells gP 1 (aj qn):=⟨_,rfl⟩
         rw[<-hV14] at J14
         rw[show(agi qn).toList=aj qn from rfl,<-hV14]
         clear hV14)
       |(refine bI rfl 25 (.tmp 82) rfl w.heap.size 124 rfl e.m.cs _ abm Tryz.underlying25 rfl HIM.out ?_)
       |(refine iO rfl (.tmp 19) (.tmp 83) rfl _ bZ e.m rfl rfl (pO V14) jF K.out.m ?_
         have BB:=bT V14 (.cells Tryz.zeroCells25 25) e.m.ag
         have K15:=hid (show Ek w ((V14.alloc (.cells Tryz.zeroCells25 25)).setRow V14.heap.size e.m.ag) e3 ad2 o gP V14.heap.size (enZ 0 qn was now o m0 0) e.m from⟨J14.out.below BB,MB.setRow (pO V14) e.m,J14.out.lt⟩)
         obtain⟨V15,hV15⟩:∃V15,V15=(V14.alloc (.cells Tryz.zeroCells25 25)).setRow V14.heap.size e.m.ag:=⟨_,rfl⟩
         rw[<-hV15] at K15|-
         clear hV15 BB
         have c0:=K15.out.J.P.cell 0 Oq
         have f0:=Blk.frozen K15.out.J.P 0)
       |(fail))
      obtain⟨gM,hgM⟩:∃gM,gM=V14.heap.size:=⟨_,rfl⟩
      rw[<-hgM] at K15|-
      clear hgM J13 J14
      have K16:=hid (show Ek w (V15.setCell ⟨gP,0,none⟩ (.int .i64 1)) e3 ad2 o gP gM (enZ 1 qn was now o m0 0) e.m from K15.out.kind 1)
      with_reducible refine(KFr.out _).mono ?_
      rintro e' w16 ⟨rfl,hB⟩
      have K17:=hid (K16.out.below hB)
      clear hB K15 K16 KFr c0 f0
      have K18:=hid (K17.out.rowM (mm:=m0))
      obtain⟨V18,hV18⟩:∃V18,V18=w16.setRow gM m0.ag:=⟨_,rfl⟩
      rw[<-hV18] at K18
      have HV18:=hid hV18
      clear hV18
      go_wp2_with(first
       |(refine iO rfl (.tmp 19) (.tmp 87) rfl _ e.m m0 rfl rfl K17.out.M K.out.m K0.out ?_;rw[<-HV18.out];clear HV18)
       |(refine bI rfl 22 (.tmp 93) rfl gP 1 rfl (aj qn) _ (HQN.out _ _ _ K18.out.J.P) Tryz.underlying22 rfl HIQ.out ?_))
      clear K17
      with_reducible refine(KV.out V18 K18.out.J.L.bel).mono ?_
      rintro e' w19 ⟨rfl,hB⟩
      have K19:=hid (K18.out.below hB)
      clear hB K18
      go_wp2_with(first
       |(refine aP rfl 22 (.tmp 20) (.tmp 96) rfl _ 22 Z8 now 8 rfl rfl (IB.new w19 22 Z8) aH rfl NL.out ?_
         have BB:=bT w19 (.cells (agi Z8) 22) (agi now)
         obtain⟨V20,hV⟩:∃V20,V20=(w19.alloc (.cells (agi Z8) 22)).setRow w19.heap.size (agi now):=⟨_,rfl⟩
         have M20:=hid (show Em w V20 e3 ad2 o gP gM w19.heap.size (enZ 1 qn was now o m0 0) m0 now from abe)
         rw[bW] at hV
         rw[<-hV]
         clear hV BB))
      obtain⟨gN,hgN⟩:∃gN,gN=w19.heap.size:=⟨_,rfl⟩
      rw[<-hgN] at M20|-
      clear hgN K19
      go_loopw[98] (fun iv wr=> ∃j:Nat,j<=2/\iv=.int .i64 j/\Hid (Em w wr e3 ad2 o gP gM gN (enZ 1 qn was now o m0 j) (enK was now o m0 j) now)) (fun iv _=>2-(intOf iv).toNat)
      case atStart=>exact⟨0,ah,rfl,M20⟩
      case round=>
       clear M20
       obtain⟨j,hj,rfl,HS⟩:=hrel
       obtain⟨ps,hps⟩:∃ps,ps=enZ 1 qn was now o m0 j:=⟨_,rfl⟩
       obtain⟨mk,hmk⟩:∃mk,mk=enK was now o m0 j:=⟨_,rfl⟩
       rw[<-hps,<-hmk] at HS
       have PL:=hid (show ps.length=25 from LJ)
       have P0:=hid (show ps.getD 0 0=1 from BO)
       have KO:=hid (show mk.ok from Me)
       have RK:=hid (show mk.r=was from Nr)
       have c0:=HS.out.K.J.P.cell 0 xj
       rw[P0.out] at c0
       have HPS:=hid hps
       have HMK:=hid hmk
       clear hps hmk
       by_cases hlt:j<2
       ·have KF:=hid (fun W=>show Calls Tryz.prog 44 #[.agg (aj was).toArray,.agg (agi now),.int .i64 (j:Nat)] W (fun e w'=>e=.returned (.agg (agi (frA was now j)))/\Below W.heap.size W w') from Tn was now j W WL.out NL.out hlt)
        have GA:=zO SW.out SN.out hlt
        have AL:=hid (qQ was now j)
        obtain⟨a,ha⟩:∃a,a=frA was now j:=⟨_,rfl⟩
        rw[<-ha] at KF GA AL
        have HA:=hid ha
        have HI8:=hid (show(Tryz.prog.info? 22).map (·.size)=some (aj was).length from LX)
        have HGA:=hid GA
        clear ha GA
        go_wp2_with(first
         |(refine bI rfl 22 (.tmp 104) rfl gM 0 rfl (aj was) _ abq Tryz.underlying22 rfl HI8.out ?_)
         |(refine aK rfl 22 (.tmp 20) rfl _ 22 now 8 _ rfl HS.out.N Tryz.underlying22 rfl aH NL.out ?_))
        with_reducible refine(KF.out wr).mono ?_
        rintro e' w5 ⟨rfl,hB⟩
        have S5:=hid (HS.out.below hB)
        clear hB HS KF
        go_wp2_with(first
         |(refine aP rfl 90 (.tmp 23) (.tmp 108) rfl _ 90 Z9 a 9 rfl rfl (IB.new w5 90 Z9) bC rfl AL.out ?_
           have BB:=bT w5 (.cells (agi Z9) 90) (agi a)
           obtain⟨V6,hV⟩:∃V6,V6=(w5.alloc (.cells (agi Z9) 90)).setRow w5.heap.size (agi a):=⟨_,rfl⟩
           have W6:=hid (show Ew w V6 e3 ad2 o gP gM gN ps mk now w5.heap.size a from Kw)
           rw[jq] at hV
           rw[<-hV]
           clear hV BB))
        obtain⟨gA,hgA⟩:∃gA,gA=w5.heap.size:=⟨_,rfl⟩
        have GLT:=hid (show gN<gA from Nh)
        rw[<-hgA] at W6|-
        clear hgA S5
        have GK:=Jw (was:=was) (now:=now) (o:=o) G0.out j
        rw[<-HMK.out] at GK
        obtain⟨u,hu⟩:∃u,u=chU mk a (jh o j):=⟨_,rfl⟩
        have HU:=hid (show enU was now o m0 j=u from MX)
        have UO:=hid (show UOk u from Nw)
        have KCH:=hid (fun W A1 c1 (h:Rs W W.heap.size A1 (jh o j)) (hB:Below w.heap.size w W)=>show Calls Tryz.prog 45 #[.agg mk.cs.toArray,.agg (aj a).toArray,.slice A1 40 c1] W (fun e w'=>e=.returned (.agg (agi u))/\Below W.heap.size W w') from by
         rw[hu]
         exact aaH mk KO.out GK a (jh o j) HGA.out AL.out A1 c1 W h (JA OL.out hlt) (JV OG.out) (TT.out.1.below hB) (TT.out.2.1.below hB))
        have GK:=hid GK
        clear hu
        have hw40:IntKind.i64.wrap ((j:Int)*40)=(j:Int)*40:=aN
        refine mD [0,3,4,5,6,7,9] [1,2] 8 [10,11] (fun W=>Ew w W e3 ad2 o gP gM gN ps mk now gA a) au au rfl ⟨W6.out.R.below ((aA _ _).drew),Blk.drew W6.out.F⟩ (fun _ _ d _ _ h=>mN) ?_
        simp only[iz,jZ,mJ,mL]
        refine bY (v:=.int .i64 (j:Nat)) aC (fun W=>rfl) ?_
        refine bY (v:=.slice (some ad2) 80 c2) aC (fun W=>rfl) ?_
        refine bY (v:=.int .i64 (j:Nat)) aC (fun W=>rfl) ?_
        refine bY (v:=.int .i64 ((j:Int)*40)) aC (fun W=>?_) ?_
        ·go_simp
        refine bY (v:=.slice (some (ad2.add (j*40))) (80-j*40) (c2-j*40)) aC (fun W=>?_) ?_
        ·go_simp
         exact acw
        refine bY (v:=.slice (some (ad2.add (j*40))) 40 (c2-j*40)) aC (fun W=>?_) ?_
        ·go_simp
         have c80:=C80.out
         intro hbad
         omega
        refine bY (v:=.pointer (some ⟨gP,9,none⟩)) aC (fun W=>?_) ?_
        ·go_simp
        refine mr ?_
        simp only[Act.put,iZ,jm,jA,jB,jC,jD]
        refine bu (fun K hK=>?_)
        refine iD aC 25 (.tmp 19) rfl gM 0 rfl mk.cs _ (fun W hW=>MB.whole hW.R.K.M) Tryz.underlying25 rfl uj ?_
        refine hK _ ?_;clear hK K
        refine bu (fun K hK=>?_)
        refine iD aC 90 (.tmp 23) rfl gA 0 rfl (aj a) _ (fun W hW=>gI hW.F [] (aj a) [] az rfl) Tryz.underlying90 rfl Bg ?_
        refine hK _ ?_;clear hK K
        refine wpQuiet_nil ?_
        intro W7 hW7
        have R7:=hid hW7.R
        have F7:=hid hW7.F
        clear hW7 W6 hw40
        obtain⟨pA,hpA⟩:∃pA,pA=1::(qn++enF was now o m0 j):=⟨_,rfl⟩
        obtain⟨pB,hpB⟩:∃pB,pB=List.replicate (8-j*8) (0:Int):=⟨_,rfl⟩
        obtain⟨ps2,hps2⟩:∃ps2,ps2=enZ 1 qn was now o m0 (j+1):=⟨_,rfl⟩
        have HPA:=hid (show ps=pA++(List.replicate 8 0++pB) from Kz)
        have HPB:=hid (show ps2=pA++(u++pB) from Ll)
        have LPA:=hid (show pA.length=9+j*8 from Kt)
        have HPS2:=hid hps2
        have PL2:=hid (show ps2.length=25 from Ox)
        clear hpA hpB hps2
        have RSH:=hid (show Rs W7 W7.heap.size (some (ad2.add (j*40))) (jh o j) from(JW R7.out.K.J.O OL.out hlt).more (jy R7.out.K.J.lt))
        obtain⟨mn,hmn⟩:∃mn,mn=frP false a mk u:=⟨_,rfl⟩
        have HMN:=hid (show enK was now o m0 (j+1)=mn from Lm)
        have KN:=hid (show mn.ok from Ld)
        have RN:=hid (show mn.r=was from by rw[hmn,IE];exact RK.out)
        have RNE:=hid (show({mn with r:=was}:Mm)=mn from by have h:=RN.out;cases mn;simp only at h;rw[h])
        have KHF:=fun W (hB:Below w.heap.size w W)=>Tc mk KO.out a u W (TT.out.1.below hB) (TT.out.2.1.below hB) AL.out UO.out
        rw[(zQ GK.out UO.out HGA.out).1,(zQ GK.out UO.out HGA.out).2,<-hmn] at KHF
        unfold jW at KHF
        generalize frY false a mk u=y at KHF
        have KHF:=hid (fun W (hB:Below w.heap.size w W)=>show Calls Tryz.prog 46 #[.agg mk.cs.toArray,.agg (aj a).toArray,.agg (aj u).toArray] W (fun e w'=> ∃A c,e=.returned (.tuple #[.agg mn.ag,.slice A y.length c])/\Own w' W.heap.size A c y/\Below W.heap.size W w') from KHF W hB)
        clear hmn
        have HIS:=hid (show(Tryz.prog.info? 35).map (·.size)=some (aj u).length from Lu)
        go_wp2_with(first
         |(go_at_call 45;(with_reducible refine(KCH.out W7 _ _ RSH.out R7.out.K.J.L.bel).mono ?_);rintro e' w8 ⟨rfl,hB⟩;have R8:=hid (R7.out.below hB);have F8:=hid (Blk.below' F7.out hB);clear hB;have R9:=hid (R8.out.over (aj u) (9+j*8) (IB.over R8.out.K.J.P HPA.out Oc HPB.out LPA.out));have F9:=hid (dh (b:=gP) aby (aj u) (9+j*8) _ F8.out);obtain⟨V9,hV9⟩:∃V9,V9=w8.setCells gP (9+j*8) (aj u):=⟨_,rfl⟩;rw[<-hV9] at R9 F9;have HV9:=hid hV9;clear hV9)
         |(refine jd rfl 35 (.tmp 119) (.tmp 117) rfl gP (9+j*8) (agi u) rfl rfl abD Ly (gG _) ?_;rw[show(agi u).toList=aj u from rfl,<-HV9.out];clear HV9)
         |(refine bI rfl 22 (.tmp 120) rfl gM 0 rfl (aj was) _ abr Tryz.underlying22 rfl HI8.out ?_)
         |(refine aP rfl 22 (.tmp 24) (.tmp 121) rfl _ 22 Z8 was 8 rfl rfl (IB.new V9 22 Z8) aH rfl WL.out ?_
           have BB:=bT V9 (.cells (agi Z8) 22) (agi was)
           obtain⟨V10,hV⟩:∃V10,V10=(V9.alloc (.cells (agi Z8) 22)).setRow V9.heap.size (agi was):=⟨_,rfl⟩
           have R10:=hid (show Em w V10 e3 ad2 o gP gM gN ps2 mk now from by rw[hV];exact R9.out.below BB)
           have F10:=hid (show IB V10 gA 90 a from by rw[hV];exact Blk.below' F9.out BB)
           have W10:=hid (show IB V10 V9.heap.size 22 was from by rw[hV];exact IB.stored V9 22 Z8 was)
           rw[bW] at hV
           rw[<-hV]
           clear hV BB))
        obtain⟨gW,hgW⟩:∃gW,gW=V9.heap.size:=⟨_,rfl⟩
        have GWT:=hid (show gA<gW from by rw[hgW];exact Blk.lt F9.out)
        have HSU:=hid (fun W (h:IB W gP 38 ps2)=>show W.rangeAt gP (9+j*8) (aj u) from JR h HPB.out LPA.out)
        rw[<-hgW] at W10|-
        clear hgW R7 R8 R9 F7 F8 F9 RSH
        refine mD [] [0,1,2,3,4,5] 6 [7,8,9,10] (fun W=>Ey w W e3 ad2 o gP gM gN ps2 mk now gA a gW was) au au rfl ⟨R10.out.below ((aA _ _).drew),Blk.drew F10.out,Blk.drew W10.out⟩ (fun _ _ d _ _ h=>mN) ?_
        simp only[iz,jZ,mJ,mL]
        refine mr ?_
        refine bu (fun K hK=>?_)
        refine iD aC 25 (.tmp 19) rfl gM 0 rfl mk.cs _ (fun W hW=>MB.whole hW.R.K.M) Tryz.underlying25 rfl uj ?_
        refine hK _ ?_;clear hK K
        refine bu (fun K hK=>?_)
        refine iD aC 90 (.tmp 23) rfl gA 0 rfl (aj a) _ (fun W hW=>gI hW.F [] (aj a) [] az rfl) Tryz.underlying90 rfl Bg ?_
        refine hK _ ?_;clear hK K
        iterate 3
         refine bu (fun K hK=>?_)
         go_simp
         apply Exists.intro
         refine⟨fun W hW=>rfl,hK _ ?_⟩
         clear hK K
        refine bu (fun K hK=>?_)
        refine iD aC 35 (.tmp 127) rfl gP (9+j*8) rfl (aj u) _ (fun W hW=>HSU.out _ hW.R.K.J.P) Tryz.underlying35 rfl HIS.out ?_
        refine hK _ ?_;clear hK K
        refine wpQuiet_nil ?_
        intro W11 hW11
        have R11:=hid hW11.R
        have G11:=hid hW11.B
        clear hW11 R10 F10 W10
        go_wp2_with(first
         |(go_at_call 46;(with_reducible refine(KHF.out W11 R11.out.K.J.L.bel).mono ?_);rintro e' w12 ⟨A3,c3,rfl,hO,hB⟩;have R12:=hid (R11.out.below hB);have G12:=hid (Blk.below' G11.out hB);clear hO hB;have R13:=hid (R12.out.rowM (mm:=mn));have G13:=hid (Blk.rowFar (g:=gM) (c2:=mn.ag) G12.out abC);obtain⟨V13,hV13⟩:∃V13,V13=w12.setRow gM mn.ag:=⟨_,rfl⟩;rw[<-hV13] at R13 G13;have HV13:=hid hV13;clear hV13;have R14:=hid (R13.out.setR KN.out was WL.out);rw[RNE.out] at R14;obtain⟨V14b,hV14⟩:∃V14b,V14b=V13.setCells gM 0 (aj was):=⟨_,rfl⟩;rw[<-hV14] at R14;have HV14:=hid hV14;clear hV14)
         |(refine iO rfl (.tmp 19) (.tmp 130) rfl _ mk mn rfl rfl R12.out.K.M KO.out KN.out ?_;rw[<-HV13.out];clear HV13)
         |(refine aK rfl 22 (.tmp 24) rfl _ 22 was 8 _ rfl G13.out Tryz.underlying22 rfl aH WL.out ?_)
         |(refine jd rfl 22 (.tmp 133) (.tmp 132) rfl gM 0 (agi was) rfl rfl abt (by rw[dV,WL.out];exact aH) (gG _) ?_;rw[show(agi was).toList=aj was from rfl,<-HV14.out];clear HV14))
        go_roundw
        case rel=>exact⟨j+1,ah,aO,hid (by rw[HMN.out,<-HPS2.out];exact R14.out)⟩
        case measure=>simp[intOf]<;>omega
       obtain rfl:j=2:=ah
       have HPK:=hid (show jV e s true=ps from abJ)
       have J0:=hid HS.out.K.J
       clear HS HMK RK KO c0
       have PTO:cf ps 25=true:=Bd
       have PLN:ps.length=25:=Bc
       have KP:=hid (fun W (h:Below w.heap.size w W)=>Sl ps W (TT.out.2.2.below h) PLN (Az PTO PLN))
       unfold wH at KP
       rw[show qP ps=0 from if_pos PTO] at KP
       have KFM:=hid (fun W (h:Below w.heap.size w W)=>show Calls Tryz.prog 24 #[.agg e.m.cs.toArray,.agg (agi ps)] W (jW W (frM e.m ps) (frO e.m ps)) from Tq e.m K.out.m HG.out ps W (TT.out.1.below h) (TT.out.2.1.below h) (TT.out.2.2.below h) PTO PLN)
       have KMF:=hid (yE K.out.m PTO PLN)
       have PLN:=hid PLN
       have e4q:=hid (show enE e s true={e3 with m:=frM e.m ps} from by
        unfold enE
        rw[if_pos HE.out,HPK.out,<-HHP.out]
        exact(HE3.out _).symm)
       have HBS:=hid (show mi e s true=kZ ps from AZ)
       have HYS:=hid (show enY e s true=frO e.m ps from Ba)
       exact l4
     |false=>
      have M0:=hid (show m0=e.m from HM0.out)
      have KQ:=hid (fun W (h:Rs W W.heap.size (some ad2) o)=>show Calls Tryz.prog 42 #[.slice (some ad2) 80 c2] W (fun e w'=>e=.returned (.bool (Jv o))/\W=w') from aiK (some ad2) c2 80 o W h OL.out ah OG.out)
      have KD0:=hid (show sO false o=if Jv o then 2 else 0 from rfl)
      obtain⟨qv,hqv⟩:∃qv,qv=Jv o:=⟨_,rfl⟩
      rw[<-hqv] at KQ KD0
      clear hqv
      go_wp2_with(first
       |(refine jd rfl 22 (.tmp 81) (.tmp 79) rfl gP 1 (agi qn) rfl rfl (by rw[dV,QL.out];exact IB.thereAt J13.out.P 1 8 (by simp[Z25])) ui (gG _) ?_
         have J14:=hid (show Ej w (w13.setCells gP 1 (aj qn)) e3 ad2 o gP (enZ 0 qn was now o m0 0) from J13.out.over _ _ (IB.over (A:=[0]) (old:=List.replicate 8 0) (B:=List.replicate 16 0) J13.out.P rfl (by rw[QL.out];rfl) (Jz QL.out).symm rfl))
         obtain⟨V14,hV14⟩:∃V14,V14=w13.setCells gP 1 (aj qn):=⟨_,rfl⟩
         rw[<-hV14] at J14
         rw[show(agi qn).toList=aj qn from rfl,<-hV14]
         clear hV14)
       |(refine bI rfl 25 (.tmp 82) rfl w.heap.size 124 rfl e.m.cs _ abm Tryz.underlying25 rfl HIM.out ?_)
       |(refine iO rfl (.tmp 19) (.tmp 83) rfl _ bZ e.m rfl rfl (pO V14) jF K.out.m ?_
         have BB:=bT V14 (.cells Tryz.zeroCells25 25) e.m.ag
         have K15:=hid (show Ek w ((V14.alloc (.cells Tryz.zeroCells25 25)).setRow V14.heap.size e.m.ag) e3 ad2 o gP V14.heap.size (enZ 0 qn was now o m0 0) e.m from⟨J14.out.below BB,MB.setRow (pO V14) e.m,J14.out.lt⟩)
         obtain⟨V15,hV15⟩:∃V15,V15=(V14.alloc (.cells Tryz.zeroCells25 25)).setRow V14.heap.size e.m.ag:=⟨_,rfl⟩
         rw[<-hV15] at K15|-
         clear hV15 BB
         have c0:=K15.out.J.P.cell 0 Oq
         have f0:=Blk.frozen K15.out.J.P 0)
       |(fail))
      obtain⟨gM,hgM⟩:∃gM,gM=V14.heap.size:=⟨_,rfl⟩
      rw[<-hgM] at K15|-
      clear hgM J13 J14
      with_reducible refine(KQ.out V15 (K15.out.J.O.more (jy K15.out.J.lt))).mono ?_
      rintro e' w16 ⟨rfl,rfl⟩
      clear KQ
      have M0:=M0.out
      rw[<-M0] at K15
      have hq2:qv=true\/qv=false:=by cases qv<;>simp
      rcases hq2 with rfl|rfl
      ·have HPP:=hid (show jV e s false=enP 2 qn was now o m0 from by rw[HPP.out,KD0.out];rfl)
       have K18:=hid (show Ek w (V15.setCell ⟨gP,0,none⟩ (.int .i64 2)) e3 ad2 o gP gM (enZ 2 qn was now o m0 0) m0 from K15.out.kind 2)
       clear KD0 K15
       obtain⟨V18,hV18⟩:∃V18,V18=V15.setCell ⟨gP,0,none⟩ (.int .i64 2):=⟨_,rfl⟩
       rw[<-hV18] at K18
       have HV18:=hid hV18
       clear hV18 M0
       go_wp2_with(first
        |(rw[<-HV18.out];clear HV18 c0 f0)
        |(refine bI rfl 22 (.tmp 93) rfl gP 1 rfl (aj qn) _ (HQN.out _ _ _ K18.out.J.P) Tryz.underlying22 rfl HIQ.out ?_))
       with_reducible refine(KV.out V18 K18.out.J.L.bel).mono ?_
       rintro e' w19 ⟨rfl,hB⟩
       have J19:=hid (K18.out.J.below hB)
       clear hB K18
       go_wp2_with(first
        |(refine aP rfl 22 (.tmp 20) (.tmp 96) rfl _ 22 Z8 now 8 rfl rfl (IB.new w19 22 Z8) aH rfl NL.out ?_
          have BB:=bT w19 (.cells (agi Z8) 22) (agi now)
          obtain⟨V20,hV⟩:∃V20,V20=(w19.alloc (.cells (agi Z8) 22)).setRow w19.heap.size (agi now):=⟨_,rfl⟩
          have J20:=hid (show Ej w V20 e3 ad2 o gP (enZ 2 qn was now o m0 0) from by rw[hV];exact J19.out.below BB)
          rw[bW] at hV
          rw[<-hV]
          clear hV BB))
       clear J19
       obtain⟨ps,hps⟩:∃ps,ps=enZ 2 qn was now o m0 0:=⟨_,rfl⟩
       rw[<-hps] at J20
       have HPK:=hid (show jV e s false=ps from by rw[hps];exact HPP.out.trans aah.symm)
       have HPS:=hid (show ps.getD 0 0=2 from BO)
       have PL:=hid (show ps.length=25 from by rw[hps];exact Ag QL.out ah)
       clear hps
       go_loopw[98] (fun iv wr=>iv=.int .i64 0/\Hid (Ej w wr e3 ad2 o gP ps)) (fun _ _=>0)
       case atStart=>exact⟨rfl,J20⟩
       case round=>
        clear J20
        obtain⟨rfl,J0⟩:=hrel
        have c0:=J0.out.P.cell 0 xj
        rw[HPS.out] at c0
        have PTO:cf ps 25=true:=Bd
        have PLN:ps.length=25:=Bc
        have KP:=hid (fun W (h:Below w.heap.size w W)=>Sl ps W (TT.out.2.2.below h) PLN (Az PTO PLN))
        unfold wH at KP
        rw[show qP ps=0 from if_pos PTO] at KP
        have KFM:=hid (fun W (h:Below w.heap.size w W)=>show Calls Tryz.prog 24 #[.agg e.m.cs.toArray,.agg (agi ps)] W (jW W (frM e.m ps) (frO e.m ps)) from Tq e.m K.out.m HG.out ps W (TT.out.1.below h) (TT.out.2.1.below h) (TT.out.2.2.below h) PTO PLN)
        have KMF:=hid (yE K.out.m PTO PLN)
        have PLN:=hid PLN
        have e4q:=hid (show enE e s false={e3 with m:=frM e.m ps} from by
         unfold enE
         rw[if_pos HE.out,HPK.out,<-HHP.out]
         exact(HE3.out _).symm)
        have HBS:=hid (show mi e s false=kZ ps from AZ)
        have HYS:=hid (show enY e s false=frO e.m ps from Ba)
        exact l4
      have HPP:=hid (show jV e s false=enP 0 qn was now o m0 from by rw[HPP.out,KD0.out];rfl)
      have K18:=K15
      clear KD0 K15 M0 c0 f0
      obtain⟨V18,hV18⟩:∃V18,V18=V15:=⟨_,rfl⟩
      rw[<-hV18] at K18|-
      clear hV18
      go_wp2_with(first
       |(refine bI rfl 22 (.tmp 93) rfl gP 1 rfl (aj qn) _ (HQN.out _ _ _ K18.out.J.P) Tryz.underlying22 rfl HIQ.out ?_))
      with_reducible refine(KV.out V18 K18.out.J.L.bel).mono ?_
      rintro e' w19 ⟨rfl,hB⟩
      have K19:=hid (K18.out.below hB)
      clear hB K18
      go_wp2_with(first
       |(refine aP rfl 22 (.tmp 20) (.tmp 96) rfl _ 22 Z8 now 8 rfl rfl (IB.new w19 22 Z8) aH rfl NL.out ?_
         have BB:=bT w19 (.cells (agi Z8) 22) (agi now)
         obtain⟨V20,hV⟩:∃V20,V20=(w19.alloc (.cells (agi Z8) 22)).setRow w19.heap.size (agi now):=⟨_,rfl⟩
         have M20:=hid (show Em w V20 e3 ad2 o gP gM w19.heap.size (enZ 0 qn was now o m0 0) m0 now from abe)
         rw[bW] at hV
         rw[<-hV]
         clear hV BB))
      obtain⟨gN,hgN⟩:∃gN,gN=w19.heap.size:=⟨_,rfl⟩
      rw[<-hgN] at M20|-
      clear hgN K19
      go_loopw[98] (fun iv wr=> ∃j:Nat,j<=2/\iv=.int .i64 j/\Hid (Em w wr e3 ad2 o gP gM gN (enZ 0 qn was now o m0 j) (enK was now o m0 j) now)) (fun iv _=>2-(intOf iv).toNat)
      case atStart=>exact⟨0,ah,rfl,M20⟩
      case round=>
       clear M20
       obtain⟨j,hj,rfl,HS⟩:=hrel
       obtain⟨ps,hps⟩:∃ps,ps=enZ 0 qn was now o m0 j:=⟨_,rfl⟩
       obtain⟨mk,hmk⟩:∃mk,mk=enK was now o m0 j:=⟨_,rfl⟩
       rw[<-hps,<-hmk] at HS
       have PL:=hid (show ps.length=25 from LJ)
       have P0:=hid (show ps.getD 0 0=0 from BO)
       have KO:=hid (show mk.ok from Me)
       have RK:=hid (show mk.r=was from Nr)
       have c0:=HS.out.K.J.P.cell 0 xj
       rw[P0.out] at c0
       have HPS:=hid hps
       have HMK:=hid hmk
       clear hps hmk
       by_cases hlt:j<2
       ·have KF:=hid (fun W=>show Calls Tryz.prog 44 #[.agg (aj was).toArray,.agg (agi now),.int .i64 (j:Nat)] W (fun e w'=>e=.returned (.agg (agi (frA was now j)))/\Below W.heap.size W w') from Tn was now j W WL.out NL.out hlt)
        have GA:=zO SW.out SN.out hlt
        have AL:=hid (qQ was now j)
        obtain⟨a,ha⟩:∃a,a=frA was now j:=⟨_,rfl⟩
        rw[<-ha] at KF GA AL
        have HA:=hid ha
        have HI8:=hid (show(Tryz.prog.info? 22).map (·.size)=some (aj was).length from LX)
        have HGA:=hid GA
        clear ha GA
        go_wp2_with(first
         |(refine bI rfl 22 (.tmp 104) rfl gM 0 rfl (aj was) _ abq Tryz.underlying22 rfl HI8.out ?_)
         |(refine aK rfl 22 (.tmp 20) rfl _ 22 now 8 _ rfl HS.out.N Tryz.underlying22 rfl aH NL.out ?_))
        with_reducible refine(KF.out wr).mono ?_
        rintro e' w5 ⟨rfl,hB⟩
        have S5:=hid (HS.out.below hB)
        clear hB HS KF
        go_wp2_with(first
         |(refine aP rfl 90 (.tmp 23) (.tmp 108) rfl _ 90 Z9 a 9 rfl rfl (IB.new w5 90 Z9) bC rfl AL.out ?_
           have BB:=bT w5 (.cells (agi Z9) 90) (agi a)
           obtain⟨V6,hV⟩:∃V6,V6=(w5.alloc (.cells (agi Z9) 90)).setRow w5.heap.size (agi a):=⟨_,rfl⟩
           have W6:=hid (show Ew w V6 e3 ad2 o gP gM gN ps mk now w5.heap.size a from Kw)
           rw[jq] at hV
           rw[<-hV]
           clear hV BB))
        obtain⟨gA,hgA⟩:∃gA,gA=w5.heap.size:=⟨_,rfl⟩
        have GLT:=hid (show gN<gA from Nh)
        rw[<-hgA] at W6|-
        clear hgA S5
        have GK:=Jw (was:=was) (now:=now) (o:=o) G0.out j
        rw[<-HMK.out] at GK
        obtain⟨u,hu⟩:∃u,u=chU mk a (jh o j):=⟨_,rfl⟩
        have HU:=hid (show enU was now o m0 j=u from MX)
        have UO:=hid (show UOk u from Nw)
        have KCH:=hid (fun W A1 c1 (h:Rs W W.heap.size A1 (jh o j)) (hB:Below w.heap.size w W)=>show Calls Tryz.prog 45 #[.agg mk.cs.toArray,.agg (aj a).toArray,.slice A1 40 c1] W (fun e w'=>e=.returned (.agg (agi u))/\Below W.heap.size W w') from by
         rw[hu]
         exact aaH mk KO.out GK a (jh o j) HGA.out AL.out A1 c1 W h (JA OL.out hlt) (JV OG.out) (TT.out.1.below hB) (TT.out.2.1.below hB))
        have GK:=hid GK
        clear hu
        have hw40:IntKind.i64.wrap ((j:Int)*40)=(j:Int)*40:=aN
        refine mD [0,3,4,5,6,7,9] [1,2] 8 [10,11] (fun W=>Ew w W e3 ad2 o gP gM gN ps mk now gA a) au au rfl ⟨W6.out.R.below ((aA _ _).drew),Blk.drew W6.out.F⟩ (fun _ _ d _ _ h=>mN) ?_
        simp only[iz,jZ,mJ,mL]
        refine bY (v:=.int .i64 (j:Nat)) aC (fun W=>rfl) ?_
        refine bY (v:=.slice (some ad2) 80 c2) aC (fun W=>rfl) ?_
        refine bY (v:=.int .i64 (j:Nat)) aC (fun W=>rfl) ?_
        refine bY (v:=.int .i64 ((j:Int)*40)) aC (fun W=>?_) ?_
        ·go_simp
        refine bY (v:=.slice (some (ad2.add (j*40))) (80-j*40) (c2-j*40)) aC (fun W=>?_) ?_
        ·go_simp
         exact acw
        refine bY (v:=.slice (some (ad2.add (j*40))) 40 (c2-j*40)) aC (fun W=>?_) ?_
        ·go_simp
         have c80:=C80.out
         intro hbad
         omega
        refine bY (v:=.pointer (some ⟨gP,9,none⟩)) aC (fun W=>?_) ?_
        ·go_simp
        refine mr ?_
        simp only[Act.put,iZ,jm,jA,jB,jC,jD]
        refine bu (fun K hK=>?_)
        refine iD aC 25 (.tmp 19) rfl gM 0 rfl mk.cs _ (fun W hW=>MB.whole hW.R.K.M) Tryz.underlying25 rfl uj ?_
        refine hK _ ?_;clear hK K
        refine bu (fun K hK=>?_)
        refine iD aC 90 (.tmp 23) rfl gA 0 rfl (aj a) _ (fun W hW=>gI hW.F [] (aj a) [] az rfl) Tryz.underlying90 rfl Bg ?_
        refine hK _ ?_;clear hK K
        refine wpQuiet_nil ?_
        intro W7 hW7
        have R7:=hid hW7.R
        have F7:=hid hW7.F
        clear hW7 W6 hw40
        obtain⟨pA,hpA⟩:∃pA,pA=0::(qn++enF was now o m0 j):=⟨_,rfl⟩
        obtain⟨pB,hpB⟩:∃pB,pB=List.replicate (8-j*8) (0:Int):=⟨_,rfl⟩
        obtain⟨ps2,hps2⟩:∃ps2,ps2=enZ 0 qn was now o m0 (j+1):=⟨_,rfl⟩
        have HPA:=hid (show ps=pA++(List.replicate 8 0++pB) from Kz)
        have HPB:=hid (show ps2=pA++(u++pB) from Ll)
        have LPA:=hid (show pA.length=9+j*8 from Kt)
        have HPS2:=hid hps2
        have PL2:=hid (show ps2.length=25 from Ox)
        clear hpA hpB hps2
        have RSH:=hid (show Rs W7 W7.heap.size (some (ad2.add (j*40))) (jh o j) from(JW R7.out.K.J.O OL.out hlt).more (jy R7.out.K.J.lt))
        obtain⟨mn,hmn⟩:∃mn,mn=frP false a mk u:=⟨_,rfl⟩
        have HMN:=hid (show enK was now o m0 (j+1)=mn from Lm)
        have KN:=hid (show mn.ok from Ld)
        have RN:=hid (show mn.r=was from by rw[hmn,IE];exact RK.out)
        have RNE:=hid (show({mn with r:=was}:Mm)=mn from by have h:=RN.out;cases mn;simp only at h;rw[h])
        have KHF:=fun W (hB:Below w.heap.size w W)=>Tc mk KO.out a u W (TT.out.1.below hB) (TT.out.2.1.below hB) AL.out UO.out
        rw[(zQ GK.out UO.out HGA.out).1,(zQ GK.out UO.out HGA.out).2,<-hmn] at KHF
        unfold jW at KHF
        generalize frY false a mk u=y at KHF
        have KHF:=hid (fun W (hB:Below w.heap.size w W)=>show Calls Tryz.prog 46 #[.agg mk.cs.toArray,.agg (aj a).toArray,.agg (aj u).toArray] W (fun e w'=> ∃A c,e=.returned (.tuple #[.agg mn.ag,.slice A y.length c])/\Own w' W.heap.size A c y/\Below W.heap.size W w') from KHF W hB)
        clear hmn
        have HIS:=hid (show(Tryz.prog.info? 35).map (·.size)=some (aj u).length from Lu)
        go_wp2_with(first
         |(go_at_call 45;(with_reducible refine(KCH.out W7 _ _ RSH.out R7.out.K.J.L.bel).mono ?_);rintro e' w8 ⟨rfl,hB⟩;have R8:=hid (R7.out.below hB);have F8:=hid (Blk.below' F7.out hB);clear hB;have R9:=hid (R8.out.over (aj u) (9+j*8) (IB.over R8.out.K.J.P HPA.out Oc HPB.out LPA.out));have F9:=hid (dh (b:=gP) aby (aj u) (9+j*8) _ F8.out);obtain⟨V9,hV9⟩:∃V9,V9=w8.setCells gP (9+j*8) (aj u):=⟨_,rfl⟩;rw[<-hV9] at R9 F9;have HV9:=hid hV9;clear hV9)
         |(refine jd rfl 35 (.tmp 119) (.tmp 117) rfl gP (9+j*8) (agi u) rfl rfl abD Ly (gG _) ?_;rw[show(agi u).toList=aj u from rfl,<-HV9.out];clear HV9)
         |(refine bI rfl 22 (.tmp 120) rfl gM 0 rfl (aj was) _ abr Tryz.underlying22 rfl HI8.out ?_)
         |(refine aP rfl 22 (.tmp 24) (.tmp 121) rfl _ 22 Z8 was 8 rfl rfl (IB.new V9 22 Z8) aH rfl WL.out ?_
           have BB:=bT V9 (.cells (agi Z8) 22) (agi was)
           obtain⟨V10,hV⟩:∃V10,V10=(V9.alloc (.cells (agi Z8) 22)).setRow V9.heap.size (agi was):=⟨_,rfl⟩
           have R10:=hid (show Em w V10 e3 ad2 o gP gM gN ps2 mk now from by rw[hV];exact R9.out.below BB)
           have F10:=hid (show IB V10 gA 90 a from by rw[hV];exact Blk.below' F9.out BB)
           have W10:=hid (show IB V10 V9.heap.size 22 was from by rw[hV];exact IB.stored V9 22 Z8 was)
           rw[bW] at hV
           rw[<-hV]
           clear hV BB))
        obtain⟨gW,hgW⟩:∃gW,gW=V9.heap.size:=⟨_,rfl⟩
        have GWT:=hid (show gA<gW from by rw[hgW];exact Blk.lt F9.out)
        have HSU:=hid (fun W (h:IB W gP 38 ps2)=>show W.rangeAt gP (9+j*8) (aj u) from JR h HPB.out LPA.out)
        rw[<-hgW] at W10|-
        clear hgW R7 R8 R9 F7 F8 F9 RSH
        refine mD [] [0,1,2,3,4,5] 6 [7,8,9,10] (fun W=>Ey w W e3 ad2 o gP gM gN ps2 mk now gA a gW was) au au rfl ⟨R10.out.below ((aA _ _).drew),Blk.drew F10.out,Blk.drew W10.out⟩ (fun _ _ d _ _ h=>mN) ?_
        simp only[iz,jZ,mJ,mL]
        refine mr ?_
        refine bu (fun K hK=>?_)
        refine iD aC 25 (.tmp 19) rfl gM 0 rfl mk.cs _ (fun W hW=>MB.whole hW.R.K.M) Tryz.underlying25 rfl uj ?_
        refine hK _ ?_;clear hK K
        refine bu (fun K hK=>?_)
        refine iD aC 90 (.tmp 23) rfl gA 0 rfl (aj a) _ (fun W hW=>gI hW.F [] (aj a) [] az rfl) Tryz.underlying90 rfl Bg ?_
        refine hK _ ?_;clear hK K
        iterate 3
         refine bu (fun K hK=>?_)
         go_simp
         apply Exists.intro
         refine⟨fun W hW=>rfl,hK _ ?_⟩
         clear hK K
        refine bu (fun K hK=>?_)
        refine iD aC 35 (.tmp 127) rfl gP (9+j*8) rfl (aj u) _ (fun W hW=>HSU.out _ hW.R.K.J.P) Tryz.underlying35 rfl HIS.out ?_
        refine hK _ ?_;clear hK K
        refine wpQuiet_nil ?_
        intro W11 hW11
        have R11:=hid hW11.R
        have G11:=hid hW11.B
        clear hW11 R10 F10 W10
        go_wp2_with(first
         |(go_at_call 46;(with_reducible refine(KHF.out W11 R11.out.K.J.L.bel).mono ?_);rintro e' w12 ⟨A3,c3,rfl,hO,hB⟩;have R12:=hid (R11.out.below hB);have G12:=hid (Blk.below' G11.out hB);clear hO hB;have R13:=hid (R12.out.rowM (mm:=mn));have G13:=hid (Blk.rowFar (g:=gM) (c2:=mn.ag) G12.out abC);obtain⟨V13,hV13⟩:∃V13,V13=w12.setRow gM mn.ag:=⟨_,rfl⟩;rw[<-hV13] at R13 G13;have HV13:=hid hV13;clear hV13;have R14:=hid (R13.out.setR KN.out was WL.out);rw[RNE.out] at R14;obtain⟨V14b,hV14⟩:∃V14b,V14b=V13.setCells gM 0 (aj was):=⟨_,rfl⟩;rw[<-hV14] at R14;have HV14:=hid hV14;clear hV14)
         |(refine iO rfl (.tmp 19) (.tmp 130) rfl _ mk mn rfl rfl R12.out.K.M KO.out KN.out ?_;rw[<-HV13.out];clear HV13)
         |(refine aK rfl 22 (.tmp 24) rfl _ 22 was 8 _ rfl G13.out Tryz.underlying22 rfl aH WL.out ?_)
         |(refine jd rfl 22 (.tmp 133) (.tmp 132) rfl gM 0 (agi was) rfl rfl abt (by rw[dV,WL.out];exact aH) (gG _) ?_;rw[show(agi was).toList=aj was from rfl,<-HV14.out];clear HV14))
        go_roundw
        case rel=>exact⟨j+1,ah,aO,hid (by rw[HMN.out,<-HPS2.out];exact R14.out)⟩
        case measure=>simp[intOf]<;>omega
       obtain rfl:j=2:=ah
       have HPK:=hid (show jV e s false=ps from abK)
       have J0:=hid HS.out.K.J
       clear HS HMK RK KO c0
       have PTO:cf ps 25=true:=Bd
       have PLN:ps.length=25:=Bc
       have KP:=hid (fun W (h:Below w.heap.size w W)=>Sl ps W (TT.out.2.2.below h) PLN (Az PTO PLN))
       unfold wH at KP
       rw[show qP ps=0 from if_pos PTO] at KP
       have KFM:=hid (fun W (h:Below w.heap.size w W)=>show Calls Tryz.prog 24 #[.agg e.m.cs.toArray,.agg (agi ps)] W (jW W (frM e.m ps) (frO e.m ps)) from Tq e.m K.out.m HG.out ps W (TT.out.1.below h) (TT.out.2.1.below h) (TT.out.2.2.below h) PTO PLN)
       have KMF:=hid (yE K.out.m PTO PLN)
       have PLN:=hid PLN
       have e4q:=hid (show enE e s false={e3 with m:=frM e.m ps} from by
        unfold enE
        rw[if_pos HE.out,HPK.out,<-HHP.out]
        exact(HE3.out _).symm)
       have HBS:=hid (show mi e s false=kZ ps from AZ)
       have HYS:=hid (show enY e s false=frO e.m ps from Ba)
       exact l4
 ·have ER:=hid (show iI e s=1 from by rw[ER.out,if_neg ah])
  have hne:((n:Int) !=80)=true:=aJ
  clear KG K k HN TT hn
  go_enter Tryz.func11,Tryz.ntmps11
  go_wp2_with(refine oI rfl (.tmp 6) (.tmp 30) rfl _ dH dH rfl (congrArg Value.agg uP) S0.out.Z ik ik ?_)
  exact abR
theorem ajR{w:World}{B g:Nat}{y:Int}(h:w.cell? ⟨g,0,none⟩=some (.int .u8 y))(hg:g<B):Rb w B (some ⟨g,0,none⟩) [y]:=
 ⟨by simp[bts],fun _=>⟨_,rfl,hg,fun j u hj=>by
   match j,hj with
   |0,hj=>simp[bts] at hj;subst hj;rw[lI];exact h⟩⟩
theorem Ua(ps:List Int)(w:World)(T:TabS w 0 fD)(hl:ps.length=25)(hw:W64 ps):
 Calls Tryz.prog 8 #[.agg (agi ps)] w (wH ps w):=by
 have P0:=hid (IB.new w 38 ps)
 have B0:=hid ((aA w.heap.size w).alloc (al0z _) (.cells (agi ps) 38))
 have T0:=hid (T.below B0.out)
 have HL:=hid hl
 obtain⟨V,hV⟩:∃V,V=w.alloc (.cells (agi ps) 38):=⟨_,rfl⟩
 rw[<-hV] at P0 B0 T0
 have HV:=hid hV
 have KG:=hid (aiH ps V T0.out hl)
 have KN:=hid (fun W (h:TabS W 0 fD)=>aau ps W h hl)
 have KP:=hid (fun W=>aga ps W hl hw)
 clear T hl hw hV
 by_cases hg:cf ps 25=true
 ·have HG:=hid hg
  have HBY:=hid (show kZ ps=iG (pkW ps)++[chk (iG (pkW ps))] from if_pos hg)
  have HER:=hid (show qP ps=0 from if_pos hg)
  rw[hg] at KG
  clear hg
  go_enter Tryz.func8,Tryz.ntmps8
  go_wp2_with(first
   |(rw[<-HV.out];clear HV)
   |(refine aK rfl 38 (.tmp 1) rfl _ 38 ps 25 _ rfl P0.out Tryz.underlying38 rfl pK HL.out ?_)
   |(go_at_call 28;(with_reducible refine KG.out.mono ?_);rintro e w1 ⟨rfl,hB⟩;have P1:=hid (Blk.below' P0.out hB);have T1:=hid (T0.out.below hB);have B1:=hid (B0.out.trans (hB.mono B0.out.size));clear hB)
   |(refine aK rfl 38 (.tmp 1) rfl _ 38 ps 25 _ rfl P1.out Tryz.underlying38 rfl pK HL.out ?_)
   |(go_at_call 29;(with_reducible refine(KN.out w1 T1.out).mono ?_);rintro e w2 ⟨A1,c1,A2,c2,A3,c3,rfl,h1,h2,h3,hB⟩;have O1:=hid h1.reads;have O2:=hid h2.reads;have P2:=hid (Blk.below' P1.out hB);have B2:=hid (B1.out.trans (hB.mono B1.out.size));clear h1 h2 h3 hB))
  have I0:=hid (show IntAt (w2.alloc (.cells #[.bool false,.slice none 0 0] 80)) w2.heap.size ((pkX ps 0:Nat):Int) from Qh w2)
  have L0:=hid ((aA w2.heap.size w2).alloc (al0z _) (.cells #[.bool false,.slice none 0 0] 80))
  go_loopw[8,23] (fun nv iv wr=> ∃i:Nat,i<=25/\iv=.int .i64 i/\nv=.int .i64 (pkA i:Nat)/\Hid (IntAt wr w2.heap.size ((pkX ps i:Nat):Int))/\Hid (Below w2.heap.size w2 wr)) (fun _ iv _=>25-(intOf iv).toNat)
  case atStart=>exact⟨0,ah,rfl,rfl,I0,L0⟩
  case round=>
   clear I0 L0
   obtain⟨i,hi,rfl,rfl,HI,HB⟩:=hrel
   by_cases hlt:i<25
   ·obtain⟨ad,rfl,had,q0⟩:=O1.out.at_ (k:=i) oK
    obtain⟨ae,rfl,hae,q1⟩:=O2.out.at_ (k:=i) (by rw[Qq];exact hlt)
    obtain⟨hv1,hv2⟩:=Ik HG.out hlt
    obtain⟨hn1,hn2,_⟩:=Qz hlt
    have ha:=Qy (n:=i+1) ah
    have hx:=DC HG.out i hi
    have hx2:=DC HG.out (i+1) hlt
    have SX:=hid (show pkX ps (i+1)=pkX ps i*2^pkN i+(ps.getD i 0).toNat from rfl)
    have SY:=hid (show pkA (i+1)=pkA i+pkN i from rfl)
    rw[SY.out] at ha
    rw[hv2] at q0
    rw[hn2] at q1
    have hXs:(pkX ps i*2^pkN i)<340282366920938463463374607431768211456:=by
     have h1:pkX ps (i+1)<2^106:=lF hx2 (Nat.pow_le_pow_right aB (by rw[SY.out];omega))
     rw[SX.out] at h1
     have h2:(2:Nat)^106<=340282366920938463463374607431768211456:=aB
     omega
    have hXt:pkX ps i<340282366920938463463374607431768211456:=by
     have h1:pkX ps i<2^106:=lF hx (Nat.pow_le_pow_right aB ah)
     have h2:(2:Nat)^106<=340282366920938463463374607431768211456:=aB
     omega
    have hvb:(ps.getD i 0).toNat<64:=lF hv1 (show 2^pkN i<=2^6 from Nat.pow_le_pow_right aB hn1)
    generalize (ps.getD i 0).toNat=v at*
    generalize pkN i=n at*
    generalize pkX ps i=X at*
    generalize pkA i=a at*
    obtain⟨Y,hY⟩:∃Y,Y=X*2^n:=⟨_,rfl⟩
    rw[<-hY] at hXs SX
    have KL:=hid (show Calls Tryz.prog 30 #[.pointer (some ⟨w2.heap.size,0,none⟩),.pointer (some ⟨w2.heap.size,0,none⟩),.int .u64 (n:Nat)] wr (jE wr w2.heap.size ((Y:Nat):Int)) from by
     have h:=zy wr w2.heap.size w2.heap.size ((X:Nat):Int) n HI.out.blk HI.out (aW hXt) ah
     rw[show((X:Nat):Int)*2^n=((Y:Nat):Int) by rw[hY];simp] at h
     exact h)
    have KA:=hid (fun W=>fJ W ((v:Nat):Int) ah ah)
    have KS:=hid (fun W b h1 h2=>rK W w2.heap.size w2.heap.size b ((Y:Nat):Int) ((v:Nat):Int) (IntAt.blk h1) h1 h2 (aW hXs) (aW (by show v<_;omega)))
    have hnu:IntKind.u64.wrap ((n:Nat):Int)=(n:Nat):=xe
    have hwa:IntKind.i64.wrap ((a:Int)+(n:Nat))=(a:Int)+n:=aN
    have k1:wr.cell? (ae.add i)=some (.int .i64 (n:Nat)):=(HB.out.cell (by rw[dM];exact hae)).trans q1
    have i0:(0:Int)<=i:=ah
    have i25:(i:Int)<25:=ah
    have Q0:=hid q0
    have Q1:=hid q1
    have HA:=hid had
    have HE:=hid hae
    clear hv1 hv2 hn2 hx hx2 hXs hXt hY q0 q1 had hae
    go_wp2_with(first
     |(go_at_call 30;(with_reducible refine KL.out.mono ?_);rintro e wL ⟨rfl,hI,hG⟩;have IL:=hid hI;have BL:=hid (bK HB.out hG (al0z _));have kL:=(BL.out.cell (p:=ad.add i) (by rw[dM];exact HA.out)).trans Q0.out;clear hI hG)
     |(go_at_call 32;(with_reducible refine(KA.out wL).mono ?_);rintro e wA ⟨bA,rfl,hbA,hIA,hBA⟩;have IA:=hid hIA;have XA:=hid (IL.out.below hBA (al0z _));have BA:=hid (BL.out.trans (hBA.mono BL.out.size));clear hIA hBA)
     |(go_at_call 31;(with_reducible refine(KS.out wA bA XA.out IA.out).mono ?_);rintro e wS ⟨rfl,hIS,hGS⟩;have IS:=hid hIS;have BS:=hid (bK BA.out hGS (al0z _));have kS:=(BS.out.cell (p:=ae.add i) (by rw[dM];exact HE.out)).trans Q1.out;clear hIS hGS))
    go_roundw
    case rel=>exact⟨i+1,ah,aO,by rw[SY.out];push_cast;rfl,hid (by rw[SX.out];push_cast;exact IS.out),BS⟩
    case measure=>simp[intOf]<;>omega
   obtain rfl:i=25:=ah
   have hx:=DC HG.out 25 ah
   rw[zM] at hx
   rw[show((pkA 25:Nat):Int)=106 from by rw[zM];rfl]
   try rw[show((25:Nat):Int)=25 from rfl]
   rw[Yl] at KP
   have hqq:pkQ ps<2:=Nat.mod_lt _ aB
   have HW:=hid (Ym HG.out)
   have hW:=agj HG.out
   generalize pkQ ps=q at*
   generalize pkX ps 25=X at*
   have KL1:=hid (show Calls Tryz.prog 30 #[.pointer (some ⟨w2.heap.size,0,none⟩),.pointer (some ⟨w2.heap.size,0,none⟩),.int .u64 1] wr (jE wr w2.heap.size ((X*2:Nat):Int)) from by
    have h:=zy wr w2.heap.size w2.heap.size ((X:Nat):Int) 1 HI.out.blk HI.out (aW (by show X<_;omega)) ah
    rw[show((X:Nat):Int)*2^1=((X*2:Nat):Int) from az] at h
    exact h)
   have KA:=hid (fun W=>fJ W ((q:Nat):Int) ah ah)
   have KS:=hid (fun W b h1 h2=>show Calls Tryz.prog 31 #[.pointer (some ⟨w2.heap.size,0,none⟩),.pointer (some ⟨w2.heap.size,0,none⟩),.pointer (some ⟨b,0,none⟩)] W (jE W w2.heap.size ((X*2+q:Nat):Int)) from by
    have h:=rK W w2.heap.size w2.heap.size b ((X*2:Nat):Int) ((q:Nat):Int) (IntAt.blk h1) h1 h2 (aW (by show X*2<_;omega)) (aW (by show q<_;omega))
    rw[show((X*2:Nat):Int)+((q:Nat):Int)=((X*2+q:Nat):Int) from az] at h
    exact h)
   have KL5:=hid (fun W (h1:IntAt W w2.heap.size ((X*2+q:Nat):Int))=>show Calls Tryz.prog 30 #[.pointer (some ⟨w2.heap.size,0,none⟩),.pointer (some ⟨w2.heap.size,0,none⟩),.int .u64 5] W (jE W w2.heap.size ((pkW ps:Nat):Int)) from by
    have h:=zy W w2.heap.size w2.heap.size ((X*2+q:Nat):Int) 5 h1.blk h1 (aW (by show X*2+q<_;omega)) ah
    rw[show((X*2+q:Nat):Int)*2^5=((pkW ps:Nat):Int) by rw[HW.out];simp] at h
    exact h)
   have HBR:=hid B2.out
   generalize pkW ps=Z at*
   clear hx hqq
   go_wp2_with(first
    |(go_at_call 30;(with_reducible refine KL1.out.mono ?_);rintro e wL ⟨rfl,hI,hG⟩;have IL:=hid hI;have BL:=hid (bK HB.out hG (al0z _));have PL:=hid (Blk.below' P2.out BL.out);clear hI hG)
    |(refine aK rfl 38 (.tmp 1) rfl _ 38 ps 25 _ rfl PL.out Tryz.underlying38 rfl pK HL.out ?_)
    |(go_at_call 33;(with_reducible refine(KP.out wL).mono ?_);rintro e w6 ⟨rfl,hB⟩;have I6:=hid (IL.out.below hB (al0z _));have B6:=hid (BL.out.trans (hB.mono BL.out.size));clear hB)
    |(go_at_call 32;(with_reducible refine(KA.out w6).mono ?_);rintro e wA ⟨bA,rfl,hbA,hIA,hBA⟩;have IA:=hid hIA;have XA:=hid (I6.out.below hBA (al0z _));have BA:=hid (B6.out.trans (hBA.mono B6.out.size));clear hIA hBA)
    |(go_at_call 31;(with_reducible refine(KS.out wA bA XA.out IA.out).mono ?_);rintro e wS ⟨rfl,hIS,hGS⟩;have IS:=hid hIS;have BS:=hid (bK BA.out hGS (al0z _));clear hIS hGS)
    |(go_at_call 30;(with_reducible refine(KL5.out wS IS.out).mono ?_);rintro e wT ⟨rfl,hI,hG⟩;have IT:=hid hI;have BT:=hid (bK BS.out hG (al0z _));clear hI hG)
    |(at_make;refine Sj rfl _ _ rfl .i64 .i64 14 rfl rfl wT.heap.size ah (al0z _) ?_;intro w7 hO hG;have G7:=hid (OwnB.blk hO az);have L7:=hid ((aA wT.heap.size wT).grown hG (al0z _) az);have I7:=hid (IT.out.below L7.out (al0z _));have B7:=hid (BT.out.trans (L7.out.mono BT.out.size));clear hO hG)
    |(go_at_call 34;(with_reducible refine(ajQ w7 w2.heap.size wT.heap.size Z I7.out hW G7.out).mono ?_);rintro e w8 ⟨rfl,hS,hB⟩;have G8:=hid hS;have B8:=hid (B7.out.trans (hB.mono BT.out.size));clear hS hB)
    |(go_at_call 35;(with_reducible refine(agf (some ⟨wT.heap.size,0,none⟩) 14 14 (iG Z) w8 (aig G8.out) (oC _) ah (Yn _)).mono ?_);rintro e w' ⟨rfl,rfl⟩)
    |(at_builtin;refine agc rfl (.tmp 69) (.tmp 72) rfl wT.heap.size (some ⟨wT.heap.size,0,none⟩) 14 14 (iG Z) rfl (oC _) (ZQ (Blk.alloc G8.out _) (al0z _) EY) _ _ 1 1 [chk (iG Z)] rfl rfl (ajR (JE rfl) (qi _)) ah (by have:=Blk.lt G8.out;rw[bU];omega) ?_;intro A9 c9 w9 hO hG;have O9:=hid hO;have B9:=hid ((B8.out.alloc B8.out.size _).grown hG (by have:=B8.out.size;rw[bU];omega) (fun k hk=>by cases hk;exact BT.out.size));clear hO hG))
   go_ret2
   exact⟨A9,c9,by rw[HER.out,HBY.out,gu,oC];rfl,by rw[HBY.out];exact O9.out.more (gJ HBR.out.size BT.out.size),HBR.out.trans (B9.out.mono HBR.out.size)⟩
 ·have hgf:cf ps 25=false:=by simpa using hg
  have HBY:=hid (show kZ ps=[] from if_neg hg)
  have HER:=hid (show qP ps=2 from if_neg hg)
  rw[hgf] at KG
  clear hg hgf
  go_enter Tryz.func8,Tryz.ntmps8
  go_wp2_with(first
   |(rw[<-HV.out];clear HV)
   |(refine aK rfl 38 (.tmp 1) rfl _ 38 ps 25 _ rfl P0.out Tryz.underlying38 rfl pK HL.out ?_)
   |(go_at_call 28;(with_reducible refine KG.out.mono ?_);rintro e w1 ⟨rfl,hB⟩;have B1:=hid (B0.out.trans (hB.mono B0.out.size));clear hB))
  exact acC
theorem aj1(w:World):Calls Tryz.prog 14 #[] w fun e w'=>e=.returned (.agg enB.ag)/\Below w.heap.size w w':=by
 have hR:=ZV (fn:=Tryz.f14) (p:=0) rfl
 have KF:=hid (fun W=>PN W)
 have Z0:=hid (sQ w)
 have B0:=hid ((aA w.heap.size w).alloc (al0z _) (.cells Tryz.zeroCells47 47))
 go_enter Tryz.func14,Tryz.ntmps14
 exact l52
theorem EB.setAll{W:World}{g:Nat}{e0 e:En}(h:EB W g e0)(k0:e0.ok)(k:e.ok):EB (W.setCells g 0 e.cs) g e:=by
 have h0:Blk W g 47 ([]++(e0.cs++[])).toArray:=by rw[wQ];exact h
 have h1:=vT e.cs e0.cs [] [] W h0 (by rw[e.len k,e0.len k0])
 rw[wQ] at h1
 exact h1
theorem aa4{w:World}{B n c:Nat}{A:Option Addr}{ys:List Int}(h:Rb w B A ys)(hn:ys.length=n):
 (convert 26 9 (.slice A n c)).run Tryz.prog w=.ok (.string (strOfNums ys)) w:=by
 subst hn
 rw[run_convert_bytes_string w 26 9 5 A ys.length c Tryz.underlying26 Tryz.underlying5 Tryz.underlying9]
 cases A with
 |none=>
  have h0:ys=[]:=by
   rcases Nat.eq_zero_or_pos ys.length with h0|h0
   ·exact List.eq_nil_of_length_eq_zero h0
   obtain⟨ad,e,_⟩:=h.2 h0
   cases e
  subst h0
  simp[Conv.bytesToString]
  rfl
 |some a=>
  have hl:=run_loadCells_list (P:=Tryz.prog) w a (bts ys) (fun j v hv=>by
   have hj:j<(bts ys).length:=(List.getElem?_eq_some_iff.1 hv).1
   rw[qO] at hj
   obtain⟨ad,e,_,hc⟩:=h.2 ah
   injection e with e
   subst e
   exact hc j v hv)
  rw[qO] at hl
  rw[run_bytesToString w a ys.length c ys hl,foldl_push_bytes]
  simp[strOfNums,ByteArray.empty,ByteArray.emptyWithCapacity]
  rfl
end Go.Proofs.YthoiikkjjaldnaaGreatDoor
