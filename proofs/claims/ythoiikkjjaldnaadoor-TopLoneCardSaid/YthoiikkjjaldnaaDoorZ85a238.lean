/- Texts that the law rests on, laid together: EnW. -/
import Derived.Test.YthoiikkjjaldnaaDoorZd18350
import Derived.Test.YthoiikkjjaldnaaDoorZ22254e
import Derived.Test.YthoiikkjjaldnaaDoorZe4b8af
import Derived.Test.YthoiikkjjaldnaaDoorZ5a4ff4
import Derived.Test.YthoiikkjjaldnaaDoorZ12078c
import Derived.Test.YthoiikkjjaldnaaDoorZ6c66eb
set_option maxHeartbeats 8000000
namespace Go.Proofs.YthoiikkjjaldnaaDoor
set_option linter.unusedVariables false
set_option linter.unusedSimpArgs false
set_option maxRecDepth 100000
open Go.RowKit
def EncOut (w:World) (en:En) (s:List Int) (r:Bool) (e:Ending) (w':World):Prop:=
 ∃A1 c1 A2 c2,e= .returned (.tuple #[.agg (enE en s r).ag,.slice A1 (enBs en s r).length c1,.slice A2 (enY en s r).length c2,.int .i64 (encErr en s)])/\OwnB w' w.heap.size A1 c1 (enBs en s r)/\Own w' w.heap.size A2 c2 (enY en s r)/\Below w.heap.size w w'
theorem EncOut.bad {w w':World} {en:En} {s:List Int} {r:Bool} {er:Int} (hB:Below w.heap.size w w') (he:encErr en s=er) (h0:er≠0):
 EncOut w en s r (.returned (.tuple #[.agg zeroEn.ag,.slice none 0 0,.slice none 0 0,.int .i64 er])) w':=by
 subst he
 have h1:enE en s r=zeroEn:=if_neg h0
 have h2:enBs en s r=[]:=if_neg h0
 have h3:enY en s r=[]:=if_neg h0
 unfold EncOut
 rw[h1,h2,h3]
 exact⟨none,0,none,0,rfl,OwnB.nil,Own.nil,hB⟩
structure Eo (w W:World) (e:En):Prop where
 E:EB W w.heap.size e
 Z:EB W (w.heap.size+1) zeroEn
 bel:Below w.heap.size w W
theorem Eo.start (w:World) (e:En):Eo w ((w.alloc (.cells e.ag 32)).alloc (.cells Tryd.zeroCells32 32)) e:=by
 have h1:=EB.new w e
 have h2:=newzeroE (w.alloc (.cells e.ag 32))
 simp only[World.size_alloc] at h2
 exact⟨Blk.alloc h1 _,h2,((Below.refl _ _).alloc (Nat.le_refl w.heap.size) (.cells e.ag 32)).alloc (by simp) (.cells Tryd.zeroCells32 32)⟩
section
variable {w W W':World} {e e':En}
theorem Eo.below (s:Eo w W e) (hb:Below W.heap.size W W'):Eo w W' e:=⟨Blk.below' s.E hb,Blk.below' s.Z hb,s.bel.trans (hb.mono s.bel.size)⟩
theorem Eo.lt (s:Eo w W e):w.heap.size+2<=W.heap.size:=Blk.lt s.Z
theorem Eo.sets (s:Eo w W e) (vs:List Value) (o:Nat) (h:EB (W.setCells w.heap.size o vs) w.heap.size e'):Eo w (W.setCells w.heap.size o vs) e':=
 ⟨h,blk_sc (by omega) _ _ _ s.Z,below_sc (Nat.le_refl _) _ _ _ s.bel⟩
theorem Eo.row (s:Eo w W e):Eo w (W.setRow w.heap.size e'.ag) e':=⟨s.E.setRow e',Blk.rowFar s.Z (by omega),below_setRow s.bel (Nat.le_refl _) _⟩
theorem Eo.far (s:Eo w W e) {g:Nat} (hg:w.heap.size+2<=g) (vs:List Value) (o:Nat):Eo w (W.setCells g o vs) e:=
 ⟨blk_sc (by omega) _ _ _ s.E,blk_sc (by omega) _ _ _ s.Z,below_sc (by omega) _ _ _ s.bel⟩
theorem Eo.farC (s:Eo w W e) {g:Nat} (hg:w.heap.size+2<=g) (o:Nat) (v:Value):Eo w (W.setCell ⟨g,o,none⟩ v) e:=
 ⟨Blk.far s.E (by show w.heap.size≠g;omega) _,Blk.far s.Z (by show w.heap.size+1≠g;omega) _,s.bel.setCell (by show w.heap.size<=g;omega) _⟩
theorem Eo.farR (s:Eo w W e) {g:Nat} (hg:w.heap.size+2<=g) (cs:Array Value):Eo w (W.setRow g cs) e:=
 ⟨Blk.rowFar s.E (by omega),Blk.rowFar s.Z (by omega),below_setRow s.bel (by omega) _⟩
end
structure Ei (w W:World) (e:En) (B:Nat) (ad:Addr) (c:Nat) (o:List Int):Prop where
 L:Eo w W e
 O:Own W B (some ad) c o
theorem x_in2 {x o:List Int} (hx:x.length=120) (ho:o.length=80):x.drop 80++o=(x.drop 80++x.drop 40).take 40++o++(x.drop 80++x.drop 40).drop (40+o.length):=by
 have l1:(x.drop 80).length=40:=by rw[List.length_drop,hx]
 have l2:(x.drop 40).length=80:=by rw[List.length_drop,hx]
 generalize x.drop 80=a at*
 generalize x.drop 40=b at*
 have h1:(a++b).take 40=a:=by rw[<-l1,List.take_left]
 have h2:(a++b).drop (40+o.length)=[]:=List.drop_of_length_le (by rw[List.length_append];omega)
 rw[h1,h2,List.append_nil]
structure Ej (w W:World) (e:En) (ad:Addr) (o:List Int) (gP:Nat) (ps:List Int):Prop where
 L:Eo w W e
 O:Rs W gP (some ad) o
 P:IB W gP 77 ps
 l0:w.heap.size+2<=gP
section
variable {w W W':World} {e:En} {ad:Addr} {o ps ps':List Int} {gP:Nat}
theorem Ej.lt (s:Ej w W e ad o gP ps):gP<W.heap.size:=Blk.lt s.P
theorem Ej.below (s:Ej w W e ad o gP ps) (hb:Below W.heap.size W W'):Ej w W' e ad o gP ps:=⟨s.L.below hb,s.O.below (hb.mono (Nat.le_of_lt s.lt)),Blk.below' s.P hb,s.l0⟩
theorem Ej.over (s:Ej w W e ad o gP ps) (vs:List Value) (i:Nat) (h:IB (W.setCells gP i vs) gP 77 ps'):Ej w (W.setCells gP i vs) e ad o gP ps':=
 ⟨s.L.far s.l0 vs i,s.O.below (below_sc (Nat.le_refl _) _ _ _ (Below.refl _ _)),h,s.l0⟩
theorem Ej.kind (s:Ej w W e ad o gP ps) (x:Int):Ej w (W.setCell ⟨gP,0,none⟩ (.int .i64 x)) e ad o gP (ps.set 0 x):=
 ⟨s.L.farC s.l0 0 _,s.O.below ((Below.refl gP W).setCell (by show gP<=gP;omega) _),s.P.set_ 0 x,s.l0⟩
theorem Ej.far (s:Ej w W e ad o gP ps) {g:Nat} (hg:gP<g) (vs:List Value) (i:Nat):Ej w (W.setCells g i vs) e ad o gP ps:=
 ⟨s.L.far (by have:=s.l0;omega) vs i,s.O.below (below_sc (by omega) _ _ _ (Below.refl _ _)),blk_sc (by omega) _ _ _ s.P,s.l0⟩
theorem Ej.farR (s:Ej w W e ad o gP ps) {g:Nat} (hg:gP<g) (cs:Array Value):Ej w (W.setRow g cs) e ad o gP ps:=
 ⟨s.L.farR (by have:=s.l0;omega) cs,s.O.below (below_setRow (Below.refl gP W) (by omega) cs),Blk.rowFar s.P (by omega),s.l0⟩
end
structure Ek (w W:World) (e:En) (ad:Addr) (o:List Int) (gP gM:Nat) (ps:List Int) (m:Mm):Prop where
 J:Ej w W e ad o gP ps
 M:MB W gM m
 l1:gP<gM
section
variable {w W W':World} {e:En} {ad:Addr} {o ps ps':List Int} {gP gM:Nat} {m mm:Mm}
theorem Ek.lt (s:Ek w W e ad o gP gM ps m):gM<W.heap.size:=Blk.lt s.M
theorem Ek.below (s:Ek w W e ad o gP gM ps m) (hb:Below W.heap.size W W'):Ek w W' e ad o gP gM ps m:=⟨s.J.below hb,Blk.below' s.M hb,s.l1⟩
theorem Ek.over (s:Ek w W e ad o gP gM ps m) (vs:List Value) (i:Nat) (h:IB (W.setCells gP i vs) gP 77 ps'):Ek w (W.setCells gP i vs) e ad o gP gM ps' m:=
 ⟨s.J.over vs i h,blk_sc (by have:=s.l1;omega) _ _ _ s.M,s.l1⟩
theorem Ek.kind (s:Ek w W e ad o gP gM ps m) (x:Int):Ek w (W.setCell ⟨gP,0,none⟩ (.int .i64 x)) e ad o gP gM (ps.set 0 x) m:=
 ⟨s.J.kind x,Blk.far s.M (by show gM≠gP;have:=s.l1;omega) _,s.l1⟩
theorem Ek.rowM (s:Ek w W e ad o gP gM ps m):Ek w (W.setRow gM mm.ag) e ad o gP gM ps mm:=⟨s.J.farR s.l1 _,s.M.setRow mm,s.l1⟩
theorem Ek.setR (s:Ek w W e ad o gP gM ps m) (k:m.ok) (r:List Int) (hr:r.length=8):Ek w (W.setCells gM 0 (ints r)) e ad o gP gM ps {m with r:=r}:=⟨s.J.far s.l1 _ _,s.M.set_r k r hr,s.l1⟩
end
structure Em (w W:World) (e:En) (ad:Addr) (o:List Int) (gP gM gN:Nat) (ps:List Int) (m:Mm) (now:List Int):Prop where
 K:Ek w W e ad o gP gM ps m
 N:IB W gN 27 now
 l2:gM<gN
section
variable {w W W':World} {e:En} {ad:Addr} {o ps ps' now:List Int} {gP gM gN:Nat} {m mm:Mm}
theorem Em.lt (s:Em w W e ad o gP gM gN ps m now):gN<W.heap.size:=Blk.lt s.N
theorem Em.below (s:Em w W e ad o gP gM gN ps m now) (hb:Below W.heap.size W W'):Em w W' e ad o gP gM gN ps m now:=⟨s.K.below hb,Blk.below' s.N hb,s.l2⟩
theorem Em.over (s:Em w W e ad o gP gM gN ps m now) (vs:List Value) (i:Nat) (h:IB (W.setCells gP i vs) gP 77 ps'):Em w (W.setCells gP i vs) e ad o gP gM gN ps' m now:=
 ⟨s.K.over vs i h,blk_sc (by have:=s.K.l1;have:=s.l2;omega) _ _ _ s.N,s.l2⟩
theorem Em.rowM (s:Em w W e ad o gP gM gN ps m now):Em w (W.setRow gM mm.ag) e ad o gP gM gN ps mm now:=⟨s.K.rowM,Blk.rowFar s.N (by have:=s.l2;omega),s.l2⟩
theorem Em.setR (s:Em w W e ad o gP gM gN ps m now) (k:m.ok) (r:List Int) (hr:r.length=8):Em w (W.setCells gM 0 (ints r)) e ad o gP gM gN ps {m with r:=r} now:=
 ⟨s.K.setR k r hr,blk_sc (by have:=s.l2;omega) _ _ _ s.N,s.l2⟩
end
structure Ew (w W:World) (e:En) (ad:Addr) (o:List Int) (gP gM gN:Nat) (ps:List Int) (m:Mm) (now:List Int) (gA:Nat) (a:List Int):Prop where
 R:Em w W e ad o gP gM gN ps m now
 F:IB W gA 69 a
structure Ey (w W:World) (e:En) (ad:Addr) (o:List Int) (gP gM gN:Nat) (ps:List Int) (m:Mm) (now:List Int) (gA:Nat) (a:List Int) (gW:Nat) (was:List Int):Prop where
 R:Em w W e ad o gP gM gN ps m now
 F:IB W gA 69 a
 B:IB W gW 27 was
theorem sub_at {W:World} {g o:Nat} {ps A u B:List Int} (h:IB W g 77 ps) (he:ps=A++(u++B)) (ho:A.length=o):W.rangeAt g o (ints u):=
 range_of h (ints A) (ints u) (ints B) (by rw[he];unfold ints;simp only[List.map_append]) (by rw[ints_len,ho])
theorem pkTo_64 {ps:List Int} (h:pkTo ps 25=true) (hl:ps.length=25):W64 ps:=fun x hx=>by
 obtain⟨i,hi,rfl⟩:=List.getElem_of_mem hx
 have h1:=pkTo_at h (show i<25 by omega)
 have h2: ∀m,m<25->pkT.getD m 0<=63:=by decide
 have h3:=h2 i (show i<25 by omega)
 unfold pkOk at h1
 rw[List.getD_eq_getElem?_getD,List.getElem?_eq_getElem hi,Option.getD_some] at h1
 omega
theorem ownB_kept {w w':World} {base c:Nat} {A:Option Addr} {xs:List Int} {row:Option Nat} (h:OwnB w base A c xs) (hg:w.grownBy w' row) (hne: ∀a,A=some a->some a.block≠row):OwnB w' base A c xs:=
 World.ownsRow.kept h hg (by
  cases A with
  |none=>simp[Value.ownBlock]
  |some a=>simpa[Value.ownBlock] using hne a rfl)
theorem ownB_setRow {w:World} {base c g:Nat} {A:Option Addr} {xs:List Int} (h:OwnB w base A c xs) (hg:g<base) (cs:Array Value):OwnB (w.setRow g cs) base A c xs:=
 ownB_kept h (row:=some g) ⟨rfl,rfl,rfl,by simp[World.setRow],fun i _ hn=>setRow_other w g i cs (by intro e;subst e;exact hn rfl)⟩ (fun ad e h2=>by
  injection h2 with h2
  exact h.ne_ hg ad e h2)
theorem ownB_setC {w:World} {base c g:Nat} {A:Option Addr} {xs:List Int} (h:OwnB w base A c xs) (hg:g<base) (i:Nat) (v:Value):OwnB (w.setCell ⟨g,i,none⟩ v) base A c xs:=
 ownB_kept h (row:=some g) ⟨rfl,rfl,rfl,by simp[World.setCell],fun j _ hn=>Below.heap_setCell _ _ _ j (by simpa using hn)⟩ (fun ad e h2=>by
  injection h2 with h2
  exact h.ne_ hg ad e h2)
theorem ownB_setCs {base g c:Nat} {A:Option Addr} {xs:List Int} (hg:g<base): ∀(vs:List Value) (o:Nat) (w:World),OwnB w base A c xs->OwnB (w.setCells g o vs) base A c xs
 |[],_,_,h=>h
 |v::vs,o,_,h=>ownB_setCs hg vs (o+1) _ (ownB_setC h hg o v)
theorem add_none (g o j:Nat):(⟨g,o,none⟩:Addr).add j=⟨g,o+j,none⟩:=by unfold Addr.add;split<;>simp_all
theorem own_src {W:World} {B c:Nat} {ad:Addr} {o:List Int} (h:Own W B (some ad) c o) (h0:0<o.length): ∀j v,(ints o)[j]?=some v->W.cell? (ad.add j)=some v:=fun j v hv=>by
 obtain⟨a2,e,_,h2⟩:=h.reads.2 h0
 injection e with e
 subst e
 exact h2 j v hv
theorem EB.rs {W:World} {g:Nat} {e:En} (h:EB W g e) (k:e.ok):Rs W W.heap.size (some ⟨g,4,none⟩) e.x:=
 ⟨by rw[ints_len,Nat.mul_one],fun _=>⟨_,rfl,Blk.lt h,fun j u hu=>by rw[add_none];exact h.X k j u hu⟩⟩
theorem at_copy {ops:Array Oper} {rest:List Oper} {o:Oper} {a:Act} {w:World} {Q:Exit->Act->World->Prop} (d s:Operand) (dT sT:TypeId) (_ho:o.op= .call {callee:= .builtin .copy,args:= #[d,s],argTypes:= #[dT,sT]})
 (h:wpList Tryd.prog ops Q (o::rest) a w):wpList Tryd.prog ops Q (o::rest) a w:=h
theorem enO_in (e:En) (s:List Int):all16 (enHi e s).2.1=true:=by
 unfold enHi hiA
 split
 ·exact hiN_all _ _ _ _ _ _
 ·rfl
theorem enZ_rf {W:World} {g:Nat} {kd:Int} {qn was now o:List Int} {m:Mm} {s:Nat} (hq:qn.length=8) (h:IB W g 77 (enZ kd qn was now o m s)):W.rangeAt g 1 (ints qn):=by
 have h1:=h.mid 1 8 (by unfold enZ;rw[List.length_cons];omega)
 have e:((enZ kd qn was now o m s).drop 1).take 8=qn:=by
  unfold enZ
  rw[List.drop_succ_cons,List.drop_zero,List.take_append_of_le_length (by omega),List.take_of_length_le (by omega)]
 rw[e] at h1
 exact h1
theorem halfL_in2 {o:List Int} {s:Nat} (ho:In16 o):In16 (halfL o s):=halfL_in (all16_iff.2 fun x hx=>by
 obtain⟨i,hi,rfl⟩:=List.getElem_of_mem hx
 have h:=ho i
 rwa [List.getD_eq_getElem?_getD,List.getElem?_eq_getElem hi] at h)
theorem rs_half {W:World} {B:Nat} {ad:Addr} {o:List Int} {j:Nat} (h:Rs W B (some ad) o) (ho:o.length=80) (hj:j<2):Rs W B (some (ad.add (j*40))) (halfL o j):=by
 have h1:=h.drop (k:=j*40) (cap:=80) (by omega) (by omega)
 rw[if_neg (by omega)] at h1
 exact Rs.take h1 (by rw[List.length_drop];omega)
theorem hiA_l4 (l:List Int) (a b c d:Int) (n:Nat):(hiA l a b c d n).1.length=4:=by
 unfold hiA
 split<;>rfl
theorem size4p:(Tryd.prog.info? 25).map (·.size)=some 4:=by kernel_rfl
theorem encode_any (e:En) (k:e.ok) (A:Option Addr) (c n:Nat) (s:List Int) (r:Bool) (w:World) (T1:TabA w 2 rootsL) (T2:TabA w 0 gainsL) (T3:TabA w 1 widthL)
 (hr:Rs w w.heap.size A s) (hn:s.length=n) (hl:n<=17592186044000):Calls Tryd.prog 10 #[.agg e.ag,.slice A n c,.bool r] w (EncOut w e s r):=by
 have hR:=results_enc4 (fn:=Tryd.f10) (p:=6) (q:=7) (r:=8) (s:=9) rfl
 have S0:=hid (Eo.start w e)
 have K:=hid k
 have KG:=hid (fun W=>show Calls Tryd.prog 23 #[.agg e.m.cs.toArray] W (AnsB' W (goodM e.m)) from good_any e.m k.m W)
 have HIM:=hid (show(Tryd.prog.info? 30).map (·.size)=some e.m.cs.length from by rw[sizeM,e.m.len k.m])
 have HIH:=hid (show(Tryd.prog.info? 25).map (·.size)=some (ints e.h).length from by rw[size4p,ints_len,k.h])
 have TT:=hid (⟨T1,T2,T3⟩:TabA w 2 rootsL/\TabA w 0 gainsL/\TabA w 1 widthL)
 have HRS:=hid hr
 have HN:=hid hn
 have ER:=hid (show encErr e s=if s.length=80 then(if goodM e.m=true then(if(enHi e s).2.2=true then errOf (all16 (enX e s)) else 2) else 2) else 1 from rfl)
 clear hr T1 T2 T3
 by_cases h80:n=80
 ·subst h80
  have ER:=hid (show encErr e s=if goodM e.m=true then(if(enHi e s).2.2=true then errOf (all16 (enX e s)) else 2) else 2 from by rw[ER.out,if_pos hn])
  have KH:=hid (fun W (h:Below w.heap.size w W)=>show Calls Tryd.prog 24 #[.agg (ints e.h).toArray,.slice A 80 c] W (NewSP W (enHi e s).2.1 (enHi e s).1 (errOf (enHi e s).2.2)) from by
   obtain⟨h0,h1,h2,h3,he⟩:=list4 k.h
   have h4:=frontHigh_any h0 h1 h2 h3 s A c 80 W ((HRS.out.below h).more h.size) hn (by omega)
   unfold enHi
   rw[he]
   exact h4)
  have HL4:=hid (fun(h:(enHi e s).2.2=true)=>show(enHi e s).2.1.length=80/\(enHi e s).1.length=4 from hiA_len _ _ _ _ _ _ h)
  unfold NewSP at KH
  clear k hn hl
  go_enter Tryd.func10,Tryd.ntmps10
  go_wp2_with (refine wpList_load_mid rfl 30 (.tmp 31) rfl w.heap.size 124 rfl e.m.cs _ (EB.M S0.out.E K.out) Tryd.underlying30 rfl HIM.out ?_)
  with_reducible refine(KG.out _).mono ?_
  rintro e' w1 ⟨rfl,hB⟩
  have S1:=hid (S0.out.below hB)
  clear hB S0 KG
  cases hg:goodM e.m with
  |false=>
   have HE:=hid (show encErr e s=2 from by rw[ER.out,hg];rfl)
   clear hg
   go_wp2_with (refine wpList_storeE rfl (.tmp 6) (.tmp 35) rfl _ zeroEn zeroEn rfl (congrArg Value.agg zeroEn_ag) S1.out.Z zeroEn_ok zeroEn_ok ?_)
   refine bodyPost_ret (v:=_) (hR _ _ _ zeroEn rfl (EB.setRow S1.out.Z zeroEn) zeroEn_ok) rfl ?_
   exact EncOut.bad (below_setRow S1.out.bel (by omega) _) HE.out (by decide)
  |true=>
   have HG:=hid hg
   have ER:=hid (show encErr e s=if(enHi e s).2.2=true then errOf (all16 (enX e s)) else 2 from by rw[ER.out,hg];rfl)
   clear hg
   go_wp2_with (refine wpList_load_mid rfl 25 (.tmp 37) rfl w.heap.size 0 rfl (ints e.h) _ (EB.H S1.out.E) Tryd.underlying25 rfl HIH.out ?_)
   with_reducible refine(KH.out w1 S1.out.bel).mono ?_
   rintro e' w2 ⟨A2,c2,rfl,hO,hB⟩
   have S2:=hid (S1.out.below hB)
   have O2:=hid hO
   have HP4:=hid (show(enHi e s).1.length=4 from hiA_l4 _ _ _ _ _ _)
   have B1:=hid S1.out.lt
   clear hO hB KH
   obtain⟨hp,hhp⟩: ∃hp,hp=(enHi e s).1:=⟨_,rfl⟩
   obtain⟨o,ho⟩: ∃o,o=(enHi e s).2.1:=⟨_,rfl⟩
   have EX:=hid (show enX e s=e.x.drop 80++o from by rw[ho];rfl)
   cases hh:(enHi e s).2.2 with
   |false=>
    have HE:=hid (show encErr e s=2 from by rw[ER.out,hh];rfl)
    rw[show errOf false=2 from rfl]
    rw[<-hhp] at HP4|-
    rw[<-ho]
    clear hh hhp ho O2 HL4 EX ER
    go_wp2_with (first
     |(refine wpList_storeI rfl 25 (.tmp 11) (.tmp 42) rfl _ 25 [0,0,0,0] hp 4 rfl rfl (IB.new w2 25 [0,0,0,0]) size4p rfl HP4.out ?_
       have BB:=below_stored w2 (.cells (agi [0,0,0,0]) 25) (agi hp)
       obtain⟨V3,hV⟩: ∃V3,V3=(w2.alloc (.cells (agi [0,0,0,0]) 25)).setRow w2.heap.size (agi hp):=⟨_,rfl⟩
       have S3:=hid (show Eo w V3 e from by rw[hV];exact S2.out.below BB)
       rw[z4_eq] at hV
       rw[<-hV]
       clear hV BB)
     |(refine wpList_storeE rfl (.tmp 6) (.tmp 46) rfl _ zeroEn zeroEn rfl (congrArg Value.agg zeroEn_ag) S3.out.Z zeroEn_ok zeroEn_ok ?_))
    refine bodyPost_ret (v:=_) (hR _ _ _ zeroEn rfl (EB.setRow S3.out.Z zeroEn) zeroEn_ok) rfl ?_
    exact EncOut.bad (below_setRow S3.out.bel (by omega) _) HE.out (by decide)
   |true=>
    have ER:=hid (show encErr e s=errOf (all16 (enX e s)) from by rw[ER.out,hh];rfl)
    have OL:=hid (HL4.out hh).1
    have C80:=hid (show 80<=c2 from by have h:=O2.out.cap.1;rw[<-ho] at OL;rw[<-ho,OL.out] at h;exact h)
    rw[show errOf true=0 from rfl]
    rw[<-hhp] at HP4|-
    rw[<-ho] at OL O2|-
    rw[OL.out]
    have HHP:=hid hhp
    have HO:=hid ho
    clear hh hhp ho HL4
    obtain⟨ad2,rfl,_⟩:=O2.out.reads.ad (by rw[OL.out];omega)
    obtain⟨e1,he1⟩: ∃e1:En,e1={e with h:=hp}:=⟨_,rfl⟩
    have K1:=hid (show e1.ok from by rw[he1];exact⟨HP4.out,K.out.x,K.out.m⟩)
    go_wp2_with (first
     |(refine wpList_storeI rfl 25 (.tmp 11) (.tmp 42) rfl _ 25 [0,0,0,0] hp 4 rfl rfl (IB.new w2 25 [0,0,0,0]) size4p rfl HP4.out ?_
       have BB:=below_stored w2 (.cells (agi [0,0,0,0]) 25) (agi hp)
       obtain⟨V3,hV⟩: ∃V3,V3=(w2.alloc (.cells (agi [0,0,0,0]) 25)).setRow w2.heap.size (agi hp):=⟨_,rfl⟩
       have S3:=hid (show Eo w V3 e from by rw[hV];exact S2.out.below BB)
       have H3:=hid (show IB V3 w2.heap.size 25 hp from by rw[hV];exact IB.stored w2 25 [0,0,0,0] hp)
       have O3:=hid (show Own V3 w1.heap.size (some ad2) c2 o from by rw[hV];exact O2.out.below BB)
       rw[z4_eq] at hV
       rw[<-hV]
       clear hV BB)
     |(refine wpList_loadI rfl 25 (.tmp 11) rfl _ 25 hp 4 _ rfl H3.out Tryd.underlying25 rfl size4p HP4.out ?_)
     |(refine wpList_store_mid rfl 25 (.tmp 49) (.tmp 48) rfl w.heap.size 0 (agi hp) rfl rfl (by rw[agi_size,HP4.out];exact S3.out.E.thereH K.out) (by rw[agi_size,HP4.out];exact size4p) (agi_one _) ?_
       have S4:=hid (show Eo w (V3.setCells w.heap.size 0 (ints hp)) e1 from S3.out.sets _ _ (by rw[he1];exact S3.out.E.set_h K.out hp HP4.out))
       have O4:=hid (show Own (V3.setCells w.heap.size 0 (ints hp)) w1.heap.size (some ad2) c2 o from Own.setCs (g:=w.heap.size) (by have:=B1.out;omega) (ints hp) 0 _ O3.out)
       obtain⟨V4,hV4⟩: ∃V4,V4=V3.setCells w.heap.size 0 (ints hp):=⟨_,rfl⟩
       rw[<-hV4] at S4 O4
       rw[show(agi hp).toList=ints hp from rfl,<-hV4]
       clear hV4))
    clear S2 S3 H3 O2 O3
    obtain⟨e2,he2⟩: ∃e2:En,e2={e1 with x:=e.x.drop 80++e.x.drop 40}:=⟨_,rfl⟩
    obtain⟨e3,he3⟩: ∃e3:En,e3={e1 with x:=enX e s}:=⟨_,rfl⟩
    have K2:=hid (show e2.ok from by rw[he2];exact⟨K1.out.h,by simp[K.out.x],K1.out.m⟩)
    have K3:=hid (show e3.ok from by rw[he3];exact⟨K1.out.h,by rw[EX.out,List.length_append,List.length_drop,K.out.x,OL.out],K1.out.m⟩)
    have X1:=hid (show e1.x=e.x from by rw[he1])
    have R1:=hid (show(e1.ag.toList.take 4++(ints (e1.x.drop 80)++e1.ag.toList.drop (4+(ints (e1.x.drop 80)).length))).toArray=e2.ag from by
     have h1:=EB.splice K1.out 0 (e1.x.drop 80) (e.x.drop 80++e.x.drop 40) (by rw[List.length_drop,K1.out.x];omega) (by rw[X1.out,List.length_drop,K.out.x];rfl)
     rw[he2]
     exact congrArg List.toArray h1)
    have R2:=hid (show(e2.ag.toList.take 44++(ints o++e2.ag.toList.drop (44+(ints o).length))).toArray=e3.ag from by
     have h1:=EB.splice K2.out 40 o (enX e s) (by rw[OL.out];omega) (by
      rw[he2,EX.out]
      exact x_in2 K.out.x OL.out)
     have h2:({e2 with x:=enX e s}:En)=e3:=by rw[he2,he3]
     rw[h2] at h1
     exact congrArg List.toArray h1)
    refine wp_region_ord [0,1,2,3] [] 4 [] (fun W=>Ei w W e1 w1.heap.size ad2 c2 o) (by kernel_rfl) (by kernel_rfl) rfl ⟨S4.out.below ((Below.refl _ _).drew),O4.out.drew⟩ (fun _ _ d _ _ h=>by cases d<;>exact h) ?_
    simp only[opsAt,List.getElem?_toArray,List.getElem?_cons_zero,List.getElem?_cons_succ]
    refine wpYields_step (v:= .pointer (some ⟨w.heap.size,4,none⟩)) (by rfl) (fun W=>rfl) ?_
    refine wpYields_step (v:= .slice (some ⟨w.heap.size,4,none⟩) 120 120) (by rfl) (fun W=>rfl) ?_
    refine wpYields_step (v:= .pointer (some ⟨w.heap.size,4,none⟩)) (by rfl) (fun W=>rfl) ?_
    refine wpYields_step (v:= .slice (some ⟨w.heap.size,84,none⟩) 40 40) (by rfl) (fun W=>rfl) ?_
    refine wpYields_nil ?_
    refine wpQuiet_nil ?_
    intro W5 hW5
    have S5:=hid hW5.L
    have O5:=hid hW5.O
    clear hW5 S4 O4
    have O5c:=hid O5.out.cap
    have AD5:=hid (show ad2.block<W5.heap.size/\w1.heap.size<=ad2.block from⟨(O5.out.lt ad2 rfl).2,(O5.out.lt ad2 rfl).1⟩)
    go_wp2_with (first
     |((with_reducible refine at_copy (.tmp 51) (.tmp 53) 36 36 rfl ?_);refine wpList_copy_own rfl (.tmp 51) (.tmp 53) 36 36 rfl 3 Tryd.underlying36 infoSz w.heap.size 4 120 120 ⟨w.heap.size,84,none⟩ 40 40 rfl rfl e1.ag _ S5.out.E (ints (e1.x.drop 80)) (by rw[ints_len,List.length_drop,K1.out.x];rfl) (fun j v hv=>by rw[add_none];exact S5.out.E.src K1.out 80 (by omega) j v hv) (by rw[ints_len,List.length_drop,K1.out.x,e1.size K1.out];omega) (ints_one _) ?_;rw[R1.out]
       have S6:=hid (S5.out.row (e':=e2))
       have O6:=hid (O5.out.setRow (g:=w.heap.size) (by have:=B1.out;omega) e2.ag)
       have L6:=hid (show(ints (e1.x.drop 80)).length=40 from by rw[ints_len,List.length_drop,K1.out.x])
       obtain⟨V6,hV6⟩: ∃V6,V6=W5.setRow w.heap.size e2.ag:=⟨_,rfl⟩
       rw[<-hV6] at S6 O6|-
       clear hV6 S5 O5)
     |((with_reducible refine at_copy (.tmp 56) (.tmp 57) 36 36 rfl ?_);refine wpList_copy_own rfl (.tmp 56) (.tmp 57) 36 36 rfl 3 Tryd.underlying36 infoSz w.heap.size 44 80 80 ad2 80 c2 rfl rfl e2.ag _ S6.out.E (ints o) (by rw[ints_len,OL.out];rfl) (own_src O6.out (by rw[OL.out];omega)) (by rw[ints_len,OL.out,e2.size K2.out];omega) (ints_one _) ?_;rw[R2.out]
       have S7:=hid (S6.out.row (e':=e3))
       have O7:=hid (O6.out.setRow (g:=w.heap.size) (by have:=B1.out;omega) e3.ag)
       obtain⟨V7,hV7⟩: ∃V7,V7=V6.setRow w.heap.size e3.ag:=⟨_,rfl⟩
       rw[<-hV7] at S7 O7|-
       clear hV7))
    obtain⟨x,hx⟩: ∃x,x=enX e s:=⟨_,rfl⟩
    have XL:=hid (show x.length=120 from by rw[hx,EX.out,List.length_append,List.length_drop,K.out.x,OL.out])
    rw[<-hx] at ER
    have KC:=correlate_any (some ⟨w.heap.size,4,none⟩) 120 120 x V7 (by
     have h1:=S7.out.E.rs K3.out
     rw[he3,<-hx] at h1
     exact h1) XL.out
    unfold CorOut at KC
    have CL:=corA_len x
    have CG:=hid (fun(h:all16 x=true)=>show corA x=corF x (corG x) 9/\corErr x=0 from⟨by unfold corA;rw[if_pos ⟨XL.out,h⟩],by unfold corErr;rw[if_pos XL.out,h];rfl⟩)
    have CB:=hid (fun(h:all16 x=false)=>show corErr x=2 from by unfold corErr;rw[if_pos XL.out,h];rfl)
    obtain⟨q,hq⟩: ∃q,q=corA x:=⟨_,rfl⟩
    obtain⟨er,her⟩: ∃er,er=corErr x:=⟨_,rfl⟩
    rw[<-hq] at KC CL CG
    rw[<-her] at KC CG CB
    generalize corP x=qp at KC
    clear hq her
    have KC:=hid KC
    have CL:=hid CL
    have HE3:=hid (fun m=>show({e3 with m:=m}:En)=⟨hp,enX e s,m⟩ from by rw[he3,he1])
    have HM3:=hid (show e3.m=e.m from by rw[he3,he1])
    have OG:=hid (show In16 o from by rw[HO.out];exact all16_in (enO_in _ _))
    clear K1 K2 R1 R2 X1 he1 he2
    with_reducible refine KC.out.mono ?_
    rintro e' w8 ⟨rfl,hB⟩
    have S8:=hid (S7.out.below hB)
    have O8:=hid (O7.out.below hB)
    clear hB KC S6 S7 O6 O7
    cases hc:all16 x with
    |false=>
     have HE:=hid (show encErr e s=2 from by rw[ER.out,hc];rfl)
     rw[CB.out hc]
     clear hc CG CB hx ER
     go_wp2_with (first
      |(refine wpList_storeI rfl 69 (.tmp 13) (.tmp 63) rfl _ 69 Z9 q 9 rfl rfl (IB.new w8 69 Z9) size9 rfl CL.out ?_
        have BB:=below_stored w8 (.cells (agi Z9) 69) (agi q)
        obtain⟨V9,hV⟩: ∃V9,V9=(w8.alloc (.cells (agi Z9) 69)).setRow w8.heap.size (agi q):=⟨_,rfl⟩
        have S9:=hid (show Eo w V9 e3 from by rw[hV];exact S8.out.below BB)
        rw[z9_eq] at hV
        rw[<-hV]
        clear hV BB)
      |(refine wpList_storeE rfl (.tmp 6) (.tmp 68) rfl _ zeroEn zeroEn rfl (congrArg Value.agg zeroEn_ag) S9.out.Z zeroEn_ok zeroEn_ok ?_))
     refine bodyPost_ret (v:=_) (hR _ _ _ zeroEn rfl (EB.setRow S9.out.Z zeroEn) zeroEn_ok) rfl ?_
     exact EncOut.bad (below_setRow S9.out.bel (by omega) _) HE.out (by decide)
    |true=>
     rw[(CG.out hc).2]
     have HX:=hid hx
     have HQ:=hid (show q=corF x (corG x) 9 from(CG.out hc).1)
     have HE:=hid (show encErr e s=0 from by rw[ER.out,hc];rfl)
     clear hx hc CG CB ER
     have KL:=fun W=>levinson_any q W CL.out
     unfold Levs at KL
     obtain⟨rf,hrf⟩: ∃rf,rf=padTo 8 (levR q).1:=⟨_,rfl⟩
     have RX:=hid (show enRf x=rf from by rw[hrf,HQ.out];rfl)
     have RL:=hid (show rf.length=8 from by rw[hrf];exact padTo_len8 _)
     rw[<-hrf] at KL
     generalize (levR q).2.1=q1 at KL
     generalize (levR q).2.2=q2 at KL
     have KL:=hid KL
     have KA:=fun W (h:Below w.heap.size w W)=>quantAll_any rf W RL.out (TT.out.2.2.below h)
     unfold AAns at KA
     obtain⟨qn,hqn⟩: ∃qn,qn=aL qV qErr rf:=⟨_,rfl⟩
     have QX:=hid (show enQ x=qn from by rw[hqn,<-RX.out];rfl)
     have QL:=hid (show qn.length=8 from by rw[<-QX.out];exact enQ_len x)
     rw[<-hqn] at KA
     generalize aE qErr rf 8=qe at KA
     have KA:=hid KA
     have KV:=hid (fun W (h:Below w.heap.size w W)=>show Calls Tryd.prog 29 #[.agg (ints qn).toArray] W (fun e w'=>e= .returned (.tuple #[.agg (agi (enNow x)),.int .i64 0])/\Below W.heap.size W w') from by
      have h1:=quantValues_any qn W QL.out (TT.out.2.2.below h)
      unfold AAns at h1
      have g1:aL lvV lvErr qn=enNow x:=by rw[<-QX.out];exact(enNow_vals x).1
      have g2:aE lvErr qn 8=0:=by rw[<-QX.out];exact(enNow_vals x).2
      rw[g1,g2] at h1
      exact h1)
     have NL:=hid (show(enNow x).length=8 from by unfold enNow;simp)
     have SN:=hid (show steadyB (enNow x)=true from enNow_steady x)
     obtain⟨now,hnow⟩: ∃now,now=enNow x:=⟨_,rfl⟩
     rw[<-hnow] at KV NL SN
     have HNOW:=hid hnow
     clear hrf hqn hnow
     go_wp2_with (first
      |(refine wpList_storeI rfl 69 (.tmp 13) (.tmp 63) rfl _ 69 Z9 q 9 rfl rfl (IB.new w8 69 Z9) size9 rfl CL.out ?_
        have BB:=below_stored w8 (.cells (agi Z9) 69) (agi q)
        obtain⟨V9,hV⟩: ∃V9,V9=(w8.alloc (.cells (agi Z9) 69)).setRow w8.heap.size (agi q):=⟨_,rfl⟩
        have S9:=hid (show Eo w V9 e3 from by rw[hV];exact S8.out.below BB)
        have O9:=hid (show Own V9 w1.heap.size (some ad2) c2 o from by rw[hV];exact O8.out.below BB)
        have C9:=hid (show IB V9 w8.heap.size 69 q from by rw[hV];exact IB.stored w8 69 Z9 q)
        rw[z9_eq] at hV
        rw[<-hV]
        have BA:=(Below.refl V9.heap.size V9).alloc (Nat.le_refl _) (.cells (agi Z25) 77)
        obtain⟨V10,hW⟩: ∃V10,V10=V9.alloc (.cells (agi Z25) 77):=⟨_,rfl⟩
        have S10:=hid (show Eo w V10 e3 from by rw[hW];exact S9.out.below BA)
        have O10:=hid (show Rs V10 V9.heap.size (some ad2) o from by rw[hW];exact O9.out.reads.below BA)
        have C10:=hid (show IB V10 w8.heap.size 69 q from by rw[hW];exact Blk.below' C9.out BA)
        have P10:=hid (show IB V10 V9.heap.size 77 Z25 from by rw[hW];exact IB.new V9 _ _)
        have B10:=hid (show Below V9.heap.size V9 V10 from by rw[hW];exact BA)
        rw[z25_eq] at hW
        have HW10:=hid hW.symm
        clear hV BB hW BA)
      |(rw[HW10.out];clear HW10)
      |(refine wpList_loadI rfl 69 (.tmp 13) rfl _ 69 q 9 _ rfl C10.out Tryd.underlying69 rfl size9 CL.out ?_))
     with_reducible refine(KL.out V10).mono ?_
     rintro e' w11 ⟨rfl,hB⟩
     obtain⟨gP,hgP⟩: ∃gP,gP=V9.heap.size:=⟨_,rfl⟩
     have J11:=hid (show Ej w w11 e3 ad2 o gP Z25 from by
      rw[hgP]
      exact Ej.below (W:=V10) ⟨S10.out,O10.out,P10.out,S9.out.lt⟩ hB)
     rw[<-hgP]
     clear hB hgP KL S8 S9 S10 O8 O9 O10 C9 C10 P10 B10
     go_wp2_with (first
      |(refine wpList_storeI rfl 27 (.tmp 16) (.tmp 73) rfl _ 27 Z8 rf 8 rfl rfl (IB.new w11 27 Z8) size8 rfl RL.out ?_
        have BB:=below_stored w11 (.cells (agi Z8) 27) (agi rf)
        obtain⟨V12,hV⟩: ∃V12,V12=(w11.alloc (.cells (agi Z8) 27)).setRow w11.heap.size (agi rf):=⟨_,rfl⟩
        have J12:=hid (show Ej w V12 e3 ad2 o gP Z25 from by rw[hV];exact J11.out.below BB)
        have F12:=hid (show IB V12 w11.heap.size 27 rf from by rw[hV];exact IB.stored w11 27 Z8 rf)
        rw[z8_eq] at hV
        rw[<-hV]
        clear hV BB)
      |(refine wpList_loadI rfl 27 (.tmp 16) rfl _ 27 rf 8 _ rfl F12.out Tryd.underlying27 rfl size8 RL.out ?_))
     with_reducible refine(KA.out V12 J12.out.L.bel).mono ?_
     rintro e' w13 ⟨rfl,hB⟩
     have J13:=hid (J12.out.below hB)
     clear hB KA J11 J12 F12
     obtain⟨m0,hm0⟩: ∃m0,m0=enM0 r e.m:=⟨_,rfl⟩
     have K0:=hid (show m0.ok from by rw[hm0];exact enM0_ok r K.out.m)
     have G0:=hid (show goodM m0=true from by rw[hm0];exact enM0_good r HG.out)
     obtain⟨was,hwas⟩: ∃was,was=m0.r:=⟨_,rfl⟩
     have WL:=hid (show was.length=8 from by rw[hwas];exact K0.out.r)
     have SW:=hid (show steadyB was=true from by rw[hwas];exact okK_steady (goodM_of G0.out).1)
     have ZL:=hid (show(enZ 0 qn was now o m0 0).length=25 from enZ_len QL.out (by omega))
     have HIQ:=hid (show(Tryd.prog.info? 27).map (·.size)=some (ints qn).length from by rw[ints_len,QL.out];exact size8)
     have HQN:=hid (fun W kd gP (h:IB W gP 77 (enZ kd qn was now o m0 0))=>show W.rangeAt gP 1 (ints qn) from enZ_rf QL.out h)
     have HM0:=hid hm0
     have HWAS:=hid hwas
     clear hm0 hwas
     have HPP:=hid (show enPk e s r=enP (enKd r o) qn was now o m0 from by
      have h1:enPk e s r=enP (enKd r (enHi e s).2.1) (enQ (enX e s)) (enM0 r e.m).r (enNow (enX e s)) (enHi e s).2.1 (enM0 r e.m):=rfl
      rw[h1,<-HO.out,<-HX.out,QX.out,<-HNOW.out,<-HM0.out,<-HWAS.out])
     cases r with
     |true=>
      have M0:=hid (show m0=freshM from HM0.out)
      have KFr:=hid (fun W=>show Calls Tryd.prog 8 #[] W (fun e w'=>e= .returned (.agg m0.ag)/\Below W.heap.size W w') from by rw[M0.out];exact fresh_any W)
      go_wp2_with (first
       |(refine wpList_store_mid rfl 27 (.tmp 81) (.tmp 79) rfl gP 1 (agi qn) rfl rfl (by rw[agi_size,QL.out];exact IB.thereAt J13.out.P 1 8 (by simp[Z25])) (by rw[agi_size,QL.out];exact size8) (agi_one _) ?_
         have J14:=hid (show Ej w (w13.setCells gP 1 (ints qn)) e3 ad2 o gP (enZ 0 qn was now o m0 0) from J13.out.over _ _ (IB.over (A:=[0]) (old:=List.replicate 8 0) (B:=List.replicate 16 0) J13.out.P rfl (by rw[QL.out];rfl) (enZ_first QL.out).symm rfl))
         obtain⟨V14,hV14⟩: ∃V14,V14=w13.setCells gP 1 (ints qn):=⟨_,rfl⟩
         rw[<-hV14] at J14
         rw[show(agi qn).toList=ints qn from rfl,<-hV14]
         clear hV14)
       |(refine wpList_load_mid rfl 30 (.tmp 82) rfl w.heap.size 124 rfl e.m.cs _ (by have h:=EB.M J14.out.L.E K3.out;rw[HM3.out] at h;exact h) Tryd.underlying30 rfl HIM.out ?_)
       |(refine wpList_storeM rfl (.tmp 19) (.tmp 83) rfl _ zeroM e.m rfl rfl (newzero V14) zeroM_ok K.out.m ?_
         have BB:=below_stored V14 (.cells Tryd.zeroCells30 30) e.m.ag
         have K15:=hid (show Ek w ((V14.alloc (.cells Tryd.zeroCells30 30)).setRow V14.heap.size e.m.ag) e3 ad2 o gP V14.heap.size (enZ 0 qn was now o m0 0) e.m from⟨J14.out.below BB,MB.setRow (newzero V14) e.m,J14.out.lt⟩)
         obtain⟨V15,hV15⟩: ∃V15,V15=(V14.alloc (.cells Tryd.zeroCells30 30)).setRow V14.heap.size e.m.ag:=⟨_,rfl⟩
         rw[<-hV15] at K15|-
         clear hV15 BB
         have c0:=K15.out.J.P.cell 0 (by rw[ZL.out];omega)
         have f0:=Blk.frozen K15.out.J.P 0)
       |(fail))
      obtain⟨gM,hgM⟩: ∃gM,gM=V14.heap.size:=⟨_,rfl⟩
      rw[<-hgM] at K15|-
      clear hgM J13 J14
      have K16:=hid (show Ek w (V15.setCell ⟨gP,0,none⟩ (.int .i64 1)) e3 ad2 o gP gM (enZ 1 qn was now o m0 0) e.m from K15.out.kind 1)
      with_reducible refine(KFr.out _).mono ?_
      rintro e' w16 ⟨rfl,hB⟩
      have K17:=hid (K16.out.below hB)
      clear hB K15 K16 KFr c0 f0
      have K18:=hid (K17.out.rowM (mm:=m0))
      obtain⟨V18,hV18⟩: ∃V18,V18=w16.setRow gM m0.ag:=⟨_,rfl⟩
      rw[<-hV18] at K18
      have HV18:=hid hV18
      clear hV18
      go_wp2_with (first
       |(refine wpList_storeM rfl (.tmp 19) (.tmp 87) rfl _ e.m m0 rfl rfl K17.out.M K.out.m K0.out ?_;rw[<-HV18.out];clear HV18)
       |(refine wpList_load_mid rfl 27 (.tmp 93) rfl gP 1 rfl (ints qn) _ (HQN.out _ _ _ K18.out.J.P) Tryd.underlying27 rfl HIQ.out ?_))
      clear K17
      with_reducible refine(KV.out V18 K18.out.J.L.bel).mono ?_
      rintro e' w19 ⟨rfl,hB⟩
      have K19:=hid (K18.out.below hB)
      clear hB K18
      go_wp2_with (first
       |(refine wpList_storeI rfl 27 (.tmp 20) (.tmp 96) rfl _ 27 Z8 now 8 rfl rfl (IB.new w19 27 Z8) size8 rfl NL.out ?_
         have BB:=below_stored w19 (.cells (agi Z8) 27) (agi now)
         obtain⟨V20,hV⟩: ∃V20,V20=(w19.alloc (.cells (agi Z8) 27)).setRow w19.heap.size (agi now):=⟨_,rfl⟩
         have M20:=hid (show Em w V20 e3 ad2 o gP gM w19.heap.size (enZ 1 qn was now o m0 0) m0 now from by rw[hV];exact⟨K19.out.below BB,IB.stored w19 27 Z8 now,K19.out.lt⟩)
         rw[z8_eq] at hV
         rw[<-hV]
         clear hV BB))
      obtain⟨gN,hgN⟩: ∃gN,gN=w19.heap.size:=⟨_,rfl⟩
      rw[<-hgN] at M20|-
      clear hgN K19
      go_loopw [98] (fun iv wr=> ∃j:Nat,j<=2/\iv= .int .i64 j/\Hid (Em w wr e3 ad2 o gP gM gN (enZ 1 qn was now o m0 j) (enK was now o m0 j) now)) (fun iv _=>2-(intOf iv).toNat)
      case atStart=>exact⟨0,by omega,rfl,M20⟩
      case round=>
       clear M20
       obtain⟨j,hj,rfl,HS⟩:=hrel
       obtain⟨ps,hps⟩: ∃ps,ps=enZ 1 qn was now o m0 j:=⟨_,rfl⟩
       obtain⟨mk,hmk⟩: ∃mk,mk=enK was now o m0 j:=⟨_,rfl⟩
       rw[<-hps,<-hmk] at HS
       have PL:=hid (show ps.length=25 from by rw[hps];exact enZ_len QL.out hj)
       have P0:=hid (show ps.getD 0 0=1 from by rw[hps];rfl)
       have KO:=hid (show mk.ok from by rw[hmk];exact enK_ok K0.out j)
       have RK:=hid (show mk.r=was from by rw[hmk,enK_r,HWAS.out])
       have c0:=HS.out.K.J.P.cell 0 (by rw[PL.out];omega)
       rw[P0.out] at c0
       have HPS:=hid hps
       have HMK:=hid hmk
       clear hps hmk
       by_cases hlt:j<2
       ·have KF:=hid (fun W=>show Calls Tryd.prog 30 #[.agg (ints was).toArray,.agg (agi now),.int .i64 (j:Nat)] W (fun e w'=>e= .returned (.agg (agi (frA was now j)))/\Below W.heap.size W w') from filter_any was now j W WL.out NL.out hlt)
        have GA:=frA_good SW.out SN.out hlt
        have AL:=hid (frA_len was now j)
        obtain⟨a,ha⟩: ∃a,a=frA was now j:=⟨_,rfl⟩
        rw[<-ha] at KF GA AL
        have HA:=hid ha
        have HI8:=hid (show(Tryd.prog.info? 27).map (·.size)=some (ints was).length from by rw[ints_len,WL.out];exact size8)
        have HGA:=hid GA
        clear ha GA
        go_wp2_with (first
         |(refine wpList_load_mid rfl 27 (.tmp 104) rfl gM 0 rfl (ints was) _ (by have h:=MB.R HS.out.K.M KO.out;rw[RK.out] at h;exact h) Tryd.underlying27 rfl HI8.out ?_)
         |(refine wpList_loadI rfl 27 (.tmp 20) rfl _ 27 now 8 _ rfl HS.out.N Tryd.underlying27 rfl size8 NL.out ?_))
        with_reducible refine(KF.out wr).mono ?_
        rintro e' w5 ⟨rfl,hB⟩
        have S5:=hid (HS.out.below hB)
        clear hB HS KF
        go_wp2_with (first
         |(refine wpList_storeI rfl 69 (.tmp 23) (.tmp 108) rfl _ 69 Z9 a 9 rfl rfl (IB.new w5 69 Z9) size9 rfl AL.out ?_
           have BB:=below_stored w5 (.cells (agi Z9) 69) (agi a)
           obtain⟨V6,hV⟩: ∃V6,V6=(w5.alloc (.cells (agi Z9) 69)).setRow w5.heap.size (agi a):=⟨_,rfl⟩
           have W6:=hid (show Ew w V6 e3 ad2 o gP gM gN ps mk now w5.heap.size a from by rw[hV];exact⟨S5.out.below BB,IB.stored w5 69 Z9 a⟩)
           rw[z9_eq] at hV
           rw[<-hV]
           clear hV BB))
        obtain⟨gA,hgA⟩: ∃gA,gA=w5.heap.size:=⟨_,rfl⟩
        have GLT:=hid (show gN<gA from by rw[hgA];exact S5.out.lt)
        rw[<-hgA] at W6|-
        clear hgA S5
        have GK:=enK_good (was:=was) (now:=now) (o:=o) G0.out j
        rw[<-HMK.out] at GK
        obtain⟨u,hu⟩: ∃u,u=chU mk a (halfL o j):=⟨_,rfl⟩
        have HU:=hid (show enU was now o m0 j=u from by rw[hu,HMK.out,HA.out];rfl)
        have UO:=hid (show UOk u from by rw[hu];exact chU_ok)
        have KCH:=hid (fun W A1 c1 (h:Rs W W.heap.size A1 (halfL o j)) (hB:Below w.heap.size w W)=>show Calls Tryd.prog 31 #[.agg mk.cs.toArray,.agg (ints a).toArray,.slice A1 40 c1] W (fun e w'=>e= .returned (.agg (agi u))/\Below W.heap.size W w') from by
         rw[hu]
         exact choose_any mk KO.out GK a (halfL o j) HGA.out AL.out A1 c1 W h (halfL_len OL.out hlt) (halfL_in2 OG.out) (TT.out.1.below hB) (TT.out.2.1.below hB))
        have GK:=hid GK
        clear hu
        have hw40:IntKind.i64.wrap ((j:Int)*40)=(j:Int)*40:=by rw[IntKind.wrap_i64];omega
        refine wp_region_ord [0,3,4,5,6,7,9] [1,2] 8 [10,11] (fun W=>Ew w W e3 ad2 o gP gM gN ps mk now gA a) (by kernel_rfl) (by kernel_rfl) rfl ⟨W6.out.R.below ((Below.refl _ _).drew),Blk.drew W6.out.F⟩ (fun _ _ d _ _ h=>by cases d<;>exact h) ?_
        simp only[opsAt,List.getElem?_toArray,List.getElem?_cons_zero,List.getElem?_cons_succ]
        refine wpYields_step (v:= .int .i64 (j:Nat)) (by rfl) (fun W=>rfl) ?_
        refine wpYields_step (v:= .slice (some ad2) 80 c2) (by rfl) (fun W=>rfl) ?_
        refine wpYields_step (v:= .int .i64 (j:Nat)) (by rfl) (fun W=>rfl) ?_
        refine wpYields_step (v:= .int .i64 ((j:Int)*40)) (by rfl) (fun W=>?_) ?_
        ·go_simp
        refine wpYields_step (v:= .slice (some (ad2.add (j*40))) (80-j*40) (c2-j*40)) (by rfl) (fun W=>?_) ?_
        ·go_simp
         have c80:=C80.out
         rw[if_pos (by omega),show((j:Int)*40).toNat=j*40 by omega,if_neg (by omega)]
        refine wpYields_step (v:= .slice (some (ad2.add (j*40))) 40 (c2-j*40)) (by rfl) (fun W=>?_) ?_
        ·go_simp
         have c80:=C80.out
         intro hbad
         omega
        refine wpYields_step (v:= .pointer (some ⟨gP,9,none⟩)) (by rfl) (fun W=>?_) ?_
        ·go_simp
        refine wpYields_nil ?_
        simp only[Act.put,List.setIfInBounds_toArray,List.set_cons_zero,List.set_cons_succ,List.getElem_toArray,List.getElem_cons_succ,List.getElem_cons_zero]
        refine wpQuiet_step (fun K hK=>?_)
        refine quiet_mid (by rfl) 30 (.tmp 19) rfl gM 0 rfl mk.cs _ (fun W hW=>MB.whole hW.R.K.M) Tryd.underlying30 rfl (by rw[sizeM,mk.len KO.out]) ?_
        refine hK _ ?_;clear hK K
        refine wpQuiet_step (fun K hK=>?_)
        refine quiet_mid (by rfl) 69 (.tmp 23) rfl gA 0 rfl (ints a) _ (fun W hW=>range_of hW.F [] (ints a) [] (by simp) rfl) Tryd.underlying69 rfl (by rw[size9,ints_len,AL.out]) ?_
        refine hK _ ?_;clear hK K
        refine wpQuiet_nil ?_
        intro W7 hW7
        have R7:=hid hW7.R
        have F7:=hid hW7.F
        clear hW7 W6 hw40
        obtain⟨pA,hpA⟩: ∃pA,pA=1::(qn++enF was now o m0 j):=⟨_,rfl⟩
        obtain⟨pB,hpB⟩: ∃pB,pB=List.replicate (8-j*8) (0:Int):=⟨_,rfl⟩
        obtain⟨ps2,hps2⟩: ∃ps2,ps2=enZ 1 qn was now o m0 (j+1):=⟨_,rfl⟩
        have HPA:=hid (show ps=pA++(List.replicate 8 0++pB) from by rw[HPS.out,hpA,hpB];exact enZ_split QL.out hlt)
        have HPB:=hid (show ps2=pA++(u++pB) from by rw[hps2,enZ_next j hlt,HU.out,hpA,hpB])
        have LPA:=hid (show pA.length=9+j*8 from by rw[hpA,List.length_cons,List.length_append,enF_len,QL.out];omega)
        have HPS2:=hid hps2
        have PL2:=hid (show ps2.length=25 from by rw[hps2];exact enZ_len QL.out (by omega))
        clear hpA hpB hps2
        have RSH:=hid (show Rs W7 W7.heap.size (some (ad2.add (j*40))) (halfL o j) from(rs_half R7.out.K.J.O OL.out hlt).more (Nat.le_of_lt R7.out.K.J.lt))
        obtain⟨mn,hmn⟩: ∃mn,mn=frP false a mk u:=⟨_,rfl⟩
        have HMN:=hid (show enK was now o m0 (j+1)=mn from by rw[hmn,enK_step,HU.out,HMK.out,HA.out])
        have KN:=hid (show mn.ok from by rw[hmn];exact frP_ok false a KO.out UO.out)
        have RN:=hid (show mn.r=was from by rw[hmn,frP_r];exact RK.out)
        have RNE:=hid (show({mn with r:=was}:Mm)=mn from by have h:=RN.out;cases mn;simp only at h;rw[h])
        have KHF:=fun W (hB:Below w.heap.size w W)=>half_any mk KO.out a u W (TT.out.1.below hB) (TT.out.2.1.below hB) AL.out UO.out
        rw[(frP_voice GK.out UO.out HGA.out).1,(frP_voice GK.out UO.out HGA.out).2,<-hmn] at KHF
        unfold PlayA at KHF
        generalize frY false a mk u=y at KHF
        have KHF:=hid (fun W (hB:Below w.heap.size w W)=>show Calls Tryd.prog 32 #[.agg mk.cs.toArray,.agg (ints a).toArray,.agg (ints u).toArray] W (fun e w'=> ∃A c,e= .returned (.tuple #[.agg mn.ag,.slice A y.length c])/\Own w' W.heap.size A c y/\Below W.heap.size W w') from KHF W hB)
        clear hmn
        have HIS:=hid (show(Tryd.prog.info? 74).map (·.size)=some (ints u).length from by rw[ints_len,UO.out.l];exact sizeSub)
        go_wp2_with (first
         |(go_at_call 31;(with_reducible refine(KCH.out W7 _ _ RSH.out R7.out.K.J.L.bel).mono ?_);rintro e' w8 ⟨rfl,hB⟩;have R8:=hid (R7.out.below hB);have F8:=hid (Blk.below' F7.out hB);clear hB;have R9:=hid (R8.out.over (ints u) (9+j*8) (IB.over R8.out.K.J.P HPA.out (by rw[UO.out.l];simp) HPB.out LPA.out));have F9:=hid (blk_sc (b:=gP) (by have:=R8.out.l2;have:=R8.out.K.l1;have:=GLT.out;omega) (ints u) (9+j*8) _ F8.out);obtain⟨V9,hV9⟩: ∃V9,V9=w8.setCells gP (9+j*8) (ints u):=⟨_,rfl⟩;rw[<-hV9] at R9 F9;have HV9:=hid hV9;clear hV9)
         |(refine wpList_store_mid rfl 74 (.tmp 119) (.tmp 117) rfl gP (9+j*8) (agi u) rfl rfl (by rw[agi_size,UO.out.l];exact IB.thereAt R8.out.K.J.P (9+j*8) 8 (by rw[PL.out];omega)) (by rw[agi_size,UO.out.l];exact sizeSub) (agi_one _) ?_;rw[show(agi u).toList=ints u from rfl,<-HV9.out];clear HV9)
         |(refine wpList_load_mid rfl 27 (.tmp 120) rfl gM 0 rfl (ints was) _ (by have h:=MB.R R9.out.K.M KO.out;rw[RK.out] at h;exact h) Tryd.underlying27 rfl HI8.out ?_)
         |(refine wpList_storeI rfl 27 (.tmp 24) (.tmp 121) rfl _ 27 Z8 was 8 rfl rfl (IB.new V9 27 Z8) size8 rfl WL.out ?_
           have BB:=below_stored V9 (.cells (agi Z8) 27) (agi was)
           obtain⟨V10,hV⟩: ∃V10,V10=(V9.alloc (.cells (agi Z8) 27)).setRow V9.heap.size (agi was):=⟨_,rfl⟩
           have R10:=hid (show Em w V10 e3 ad2 o gP gM gN ps2 mk now from by rw[hV];exact R9.out.below BB)
           have F10:=hid (show IB V10 gA 69 a from by rw[hV];exact Blk.below' F9.out BB)
           have W10:=hid (show IB V10 V9.heap.size 27 was from by rw[hV];exact IB.stored V9 27 Z8 was)
           rw[z8_eq] at hV
           rw[<-hV]
           clear hV BB))
        obtain⟨gW,hgW⟩: ∃gW,gW=V9.heap.size:=⟨_,rfl⟩
        have GWT:=hid (show gA<gW from by rw[hgW];exact Blk.lt F9.out)
        have HSU:=hid (fun W (h:IB W gP 77 ps2)=>show W.rangeAt gP (9+j*8) (ints u) from sub_at h HPB.out LPA.out)
        rw[<-hgW] at W10|-
        clear hgW R7 R8 R9 F7 F8 F9 RSH
        refine wp_region_ord [] [0,1,2,3,4,5] 6 [7,8,9,10] (fun W=>Ey w W e3 ad2 o gP gM gN ps2 mk now gA a gW was) (by kernel_rfl) (by kernel_rfl) rfl ⟨R10.out.below ((Below.refl _ _).drew),Blk.drew F10.out,Blk.drew W10.out⟩ (fun _ _ d _ _ h=>by cases d<;>exact h) ?_
        simp only[opsAt,List.getElem?_toArray,List.getElem?_cons_zero,List.getElem?_cons_succ]
        refine wpYields_nil ?_
        refine wpQuiet_step (fun K hK=>?_)
        refine quiet_mid (by rfl) 30 (.tmp 19) rfl gM 0 rfl mk.cs _ (fun W hW=>MB.whole hW.R.K.M) Tryd.underlying30 rfl (by rw[sizeM,mk.len KO.out]) ?_
        refine hK _ ?_;clear hK K
        refine wpQuiet_step (fun K hK=>?_)
        refine quiet_mid (by rfl) 69 (.tmp 23) rfl gA 0 rfl (ints a) _ (fun W hW=>range_of hW.F [] (ints a) [] (by simp) rfl) Tryd.underlying69 rfl (by rw[size9,ints_len,AL.out]) ?_
        refine hK _ ?_;clear hK K
        iterate 3
         refine wpQuiet_step (fun K hK=>?_)
         go_simp
         apply Exists.intro
         refine⟨fun W hW=>rfl,hK _ ?_⟩
         clear hK K
        refine wpQuiet_step (fun K hK=>?_)
        refine quiet_mid (by rfl) 74 (.tmp 127) rfl gP (9+j*8) rfl (ints u) _ (fun W hW=>HSU.out _ hW.R.K.J.P) Tryd.underlying74 rfl HIS.out ?_
        refine hK _ ?_;clear hK K
        refine wpQuiet_nil ?_
        intro W11 hW11
        have R11:=hid hW11.R
        have G11:=hid hW11.B
        clear hW11 R10 F10 W10
        go_wp2_with (first
         |(go_at_call 32;(with_reducible refine(KHF.out W11 R11.out.K.J.L.bel).mono ?_);rintro e' w12 ⟨A3,c3,rfl,hO,hB⟩;have R12:=hid (R11.out.below hB);have G12:=hid (Blk.below' G11.out hB);clear hO hB;have R13:=hid (R12.out.rowM (mm:=mn));have G13:=hid (Blk.rowFar (g:=gM) (c2:=mn.ag) G12.out (by have:=R12.out.l2;have:=GLT.out;have:=GWT.out;omega));obtain⟨V13,hV13⟩: ∃V13,V13=w12.setRow gM mn.ag:=⟨_,rfl⟩;rw[<-hV13] at R13 G13;have HV13:=hid hV13;clear hV13;have R14:=hid (R13.out.setR KN.out was WL.out);rw[RNE.out] at R14;obtain⟨V14b,hV14⟩: ∃V14b,V14b=V13.setCells gM 0 (ints was):=⟨_,rfl⟩;rw[<-hV14] at R14;have HV14:=hid hV14;clear hV14)
         |(refine wpList_storeM rfl (.tmp 19) (.tmp 130) rfl _ mk mn rfl rfl R12.out.K.M KO.out KN.out ?_;rw[<-HV13.out];clear HV13)
         |(refine wpList_loadI rfl 27 (.tmp 24) rfl _ 27 was 8 _ rfl G13.out Tryd.underlying27 rfl size8 WL.out ?_)
         |(refine wpList_store_mid rfl 27 (.tmp 133) (.tmp 132) rfl gM 0 (agi was) rfl rfl (by rw[agi_size,WL.out];exact MB.thereR R13.out.K.M KN.out) (by rw[agi_size,WL.out];exact size8) (agi_one _) ?_;rw[show(agi was).toList=ints was from rfl,<-HV14.out];clear HV14))
        go_roundw
        case rel=>exact⟨j+1,by omega,by go_num,hid (by rw[HMN.out,<-HPS2.out];exact R14.out)⟩
        case measure=>simp[intOf]<;>omega
       ·obtain rfl:j=2:=by omega
        have HPK:=hid (show enPk e s true=ps from by rw[HPS.out];exact(HPP.out.trans (enZ_two (kd:=1) (by decide)).symm))
        have J0:=hid HS.out.K.J
        clear HS HMK RK KO c0
        have PTO:pkTo ps 25=true:=by rw[<-HPK.out];exact enPk_to _ _ _
        have PLN:ps.length=25:=by rw[<-HPK.out];exact enPk_len _ _ _
        have KP:=hid (fun W (h:Below w.heap.size w W)=>packPack_any ps W (TT.out.2.2.below h) PLN (pkTo_64 PTO PLN))
        unfold PkOut at KP
        rw[show pkErr ps=0 from if_pos PTO] at KP
        have KFM:=hid (fun W (h:Below w.heap.size w W)=>show Calls Tryd.prog 34 #[.agg e.m.cs.toArray,.agg (agi ps)] W (PlayA W (frM e.m ps) (frO e.m ps)) from frame_any e.m K.out.m HG.out ps W (TT.out.1.below h) (TT.out.2.1.below h) (TT.out.2.2.below h) PTO PLN)
        have KMF:=hid (frM_ok K.out.m PTO PLN)
        have PLN:=hid PLN
        have e4q:=hid (show enE e s true={e3 with m:=frM e.m ps} from by
         unfold enE
         rw[if_pos HE.out,HPK.out,<-HHP.out]
         exact(HE3.out _).symm)
        have HBS:=hid (show enBs e s true=pkBytes ps from by unfold enBs;rw[if_pos HE.out,HPK.out])
        have HYS:=hid (show enY e s true=frO e.m ps from by unfold enY;rw[if_pos HE.out,HPK.out])
        clear PTO HPK HPS
        generalize frM e.m ps=mf at*
        generalize frO e.m ps=yf at*
        generalize pkBytes ps=bs at*
        obtain⟨e4,he4⟩: ∃e4:En,e4={e3 with m:=mf}:=⟨_,rfl⟩
        rw[<-he4] at e4q
        have K4:=hid (show e4.ok from by rw[he4];exact⟨K3.out.h,K3.out.x,KMF.out⟩)
        go_wp2_with (first
         |(refine wpList_loadI rfl 77 (.tmp 15) rfl _ 77 ps 25 _ rfl J0.out.P Tryd.underlying77 rfl size25d PLN.out ?_))
        with_reducible refine(KP.out wr J0.out.L.bel).mono ?_
        rintro e' w20 ⟨A4,c4,rfl,hO,hB⟩
        have J1:=hid (J0.out.below hB)
        have B20:=hid hO
        have LT20:=hid J0.out.L.lt
        clear hO hB J0 KP
        go_wp2_with (first
         |(refine wpList_load_mid rfl 30 (.tmp 145) rfl w.heap.size 124 rfl e.m.cs _ (by have h:=EB.M J1.out.L.E K3.out;rw[HM3.out] at h;exact h) Tryd.underlying30 rfl HIM.out ?_)
         |(refine wpList_loadI rfl 77 (.tmp 15) rfl _ 77 ps 25 _ rfl J1.out.P Tryd.underlying77 rfl size25d PLN.out ?_))
        with_reducible refine(KFM.out w20 J1.out.L.bel).mono ?_
        rintro e' w21 ⟨A5,c5,rfl,hO,hB⟩
        have S21:=hid (J1.out.L.below hB)
        have B21:=hid (B20.out.below hB)
        have O21:=hid hO
        have LT21:=hid J1.out.L.lt
        clear hO hB J1 KFM B20
        have S22:=hid (S21.out.sets (e':=e4) mf.cs 124 (by rw[he4];exact S21.out.E.set_m K3.out mf KMF.out))
        have B22:=hid (ownB_setCs (g:=w.heap.size) (by have:=LT20.out;omega) mf.cs 124 _ B21.out)
        have O22:=hid (Own.setCs (g:=w.heap.size) (by have:=LT21.out;omega) mf.cs 124 _ O21.out)
        obtain⟨V22,hV22⟩: ∃V22,V22=w21.setCells w.heap.size 124 mf.cs:=⟨_,rfl⟩
        rw[<-hV22] at S22 B22 O22
        have HV22:=hid hV22
        clear hV22 he4
        go_wp2_with (first
         |(refine wpList_store_mid rfl 30 (.tmp 151) (.tmp 149) rfl w.heap.size 124 mf.ag rfl rfl (by rw[mf.size KMF.out];exact EB.thereM S21.out.E K3.out) (by rw[mf.size KMF.out];exact sizeM) mf.one ?_;rw[show mf.ag.toList=mf.cs from rfl,<-HV22.out];clear HV22)
         |(refine wpList_loadE rfl (.tmp 3) rfl _ e4 rfl S22.out.E K4.out ?_)
         |(refine wpList_storeE rfl (.tmp 6) (.tmp 152) rfl _ zeroEn e4 rfl rfl S22.out.Z zeroEn_ok K4.out ?_))
        refine bodyPost_ret (v:=_) (hR _ _ _ e4 rfl (EB.setRow S22.out.Z e4) K4.out) rfl ?_
        unfold EncOut
        rw[e4q.out,HBS.out,HYS.out,HE.out]
        exact⟨A4,c4,A5,c5,rfl,(ownB_setRow B22.out (g:=w.heap.size+1) (by have:=LT20.out;omega) e4.ag).more (base':=w.heap.size) (by have:=LT20.out;omega),(O22.out.setRow (g:=w.heap.size+1) (by have:=LT21.out;omega) e4.ag).more (base':=w.heap.size) (by have:=LT21.out;omega),below_setRow S22.out.bel (g:=w.heap.size+1) (by omega) e4.ag⟩
     |false=>
      have M0:=hid (show m0=e.m from HM0.out)
      have KQ:=hid (fun W (h:Rs W W.heap.size (some ad2) o)=>show Calls Tryd.prog 28 #[.slice (some ad2) 80 c2] W (fun e w'=>e= .returned (.bool (quietV o))/\W=w') from quiet_any (some ad2) c2 80 o W h OL.out (by omega) OG.out)
      have KD0:=hid (show enKd false o=if quietV o then 2 else 0 from rfl)
      obtain⟨qv,hqv⟩: ∃qv,qv=quietV o:=⟨_,rfl⟩
      rw[<-hqv] at KQ KD0
      clear hqv
      go_wp2_with (first
       |(refine wpList_store_mid rfl 27 (.tmp 81) (.tmp 79) rfl gP 1 (agi qn) rfl rfl (by rw[agi_size,QL.out];exact IB.thereAt J13.out.P 1 8 (by simp[Z25])) (by rw[agi_size,QL.out];exact size8) (agi_one _) ?_
         have J14:=hid (show Ej w (w13.setCells gP 1 (ints qn)) e3 ad2 o gP (enZ 0 qn was now o m0 0) from J13.out.over _ _ (IB.over (A:=[0]) (old:=List.replicate 8 0) (B:=List.replicate 16 0) J13.out.P rfl (by rw[QL.out];rfl) (enZ_first QL.out).symm rfl))
         obtain⟨V14,hV14⟩: ∃V14,V14=w13.setCells gP 1 (ints qn):=⟨_,rfl⟩
         rw[<-hV14] at J14
         rw[show(agi qn).toList=ints qn from rfl,<-hV14]
         clear hV14)
       |(refine wpList_load_mid rfl 30 (.tmp 82) rfl w.heap.size 124 rfl e.m.cs _ (by have h:=EB.M J14.out.L.E K3.out;rw[HM3.out] at h;exact h) Tryd.underlying30 rfl HIM.out ?_)
       |(refine wpList_storeM rfl (.tmp 19) (.tmp 83) rfl _ zeroM e.m rfl rfl (newzero V14) zeroM_ok K.out.m ?_
         have BB:=below_stored V14 (.cells Tryd.zeroCells30 30) e.m.ag
         have K15:=hid (show Ek w ((V14.alloc (.cells Tryd.zeroCells30 30)).setRow V14.heap.size e.m.ag) e3 ad2 o gP V14.heap.size (enZ 0 qn was now o m0 0) e.m from⟨J14.out.below BB,MB.setRow (newzero V14) e.m,J14.out.lt⟩)
         obtain⟨V15,hV15⟩: ∃V15,V15=(V14.alloc (.cells Tryd.zeroCells30 30)).setRow V14.heap.size e.m.ag:=⟨_,rfl⟩
         rw[<-hV15] at K15|-
         clear hV15 BB
         have c0:=K15.out.J.P.cell 0 (by rw[ZL.out];omega)
         have f0:=Blk.frozen K15.out.J.P 0)
       |(fail))
      obtain⟨gM,hgM⟩: ∃gM,gM=V14.heap.size:=⟨_,rfl⟩
      rw[<-hgM] at K15|-
      clear hgM J13 J14
      with_reducible refine(KQ.out V15 (K15.out.J.O.more (Nat.le_of_lt K15.out.J.lt))).mono ?_
      rintro e' w16 ⟨rfl,rfl⟩
      clear KQ
      have M0:=M0.out
      rw[<-M0] at K15
      have hq2:qv=true\/qv=false:=by cases qv<;>simp
      rcases hq2 with rfl|rfl
      ·have HPP:=hid (show enPk e s false=enP 2 qn was now o m0 from by rw[HPP.out,KD0.out];rfl)
       have K18:=hid (show Ek w (V15.setCell ⟨gP,0,none⟩ (.int .i64 2)) e3 ad2 o gP gM (enZ 2 qn was now o m0 0) m0 from K15.out.kind 2)
       clear KD0 K15
       obtain⟨V18,hV18⟩: ∃V18,V18=V15.setCell ⟨gP,0,none⟩ (.int .i64 2):=⟨_,rfl⟩
       rw[<-hV18] at K18
       have HV18:=hid hV18
       clear hV18 M0
       go_wp2_with (first
        |(rw[<-HV18.out];clear HV18 c0 f0)
        |(refine wpList_load_mid rfl 27 (.tmp 93) rfl gP 1 rfl (ints qn) _ (HQN.out _ _ _ K18.out.J.P) Tryd.underlying27 rfl HIQ.out ?_))
       with_reducible refine(KV.out V18 K18.out.J.L.bel).mono ?_
       rintro e' w19 ⟨rfl,hB⟩
       have J19:=hid (K18.out.J.below hB)
       clear hB K18
       go_wp2_with (first
        |(refine wpList_storeI rfl 27 (.tmp 20) (.tmp 96) rfl _ 27 Z8 now 8 rfl rfl (IB.new w19 27 Z8) size8 rfl NL.out ?_
          have BB:=below_stored w19 (.cells (agi Z8) 27) (agi now)
          obtain⟨V20,hV⟩: ∃V20,V20=(w19.alloc (.cells (agi Z8) 27)).setRow w19.heap.size (agi now):=⟨_,rfl⟩
          have J20:=hid (show Ej w V20 e3 ad2 o gP (enZ 2 qn was now o m0 0) from by rw[hV];exact J19.out.below BB)
          rw[z8_eq] at hV
          rw[<-hV]
          clear hV BB))
       clear J19
       obtain⟨ps,hps⟩: ∃ps,ps=enZ 2 qn was now o m0 0:=⟨_,rfl⟩
       rw[<-hps] at J20
       have HPK:=hid (show enPk e s false=ps from by rw[hps];exact HPP.out.trans enZ_none.symm)
       have HPS:=hid (show ps.getD 0 0=2 from by rw[hps];rfl)
       have PL:=hid (show ps.length=25 from by rw[hps];exact enZ_len QL.out (by omega))
       clear hps
       go_loopw [98] (fun iv wr=>iv= .int .i64 0/\Hid (Ej w wr e3 ad2 o gP ps)) (fun _ _=>0)
       case atStart=>exact⟨rfl,J20⟩
       case round=>
        clear J20
        obtain⟨rfl,J0⟩:=hrel
        have c0:=J0.out.P.cell 0 (by rw[PL.out];omega)
        rw[HPS.out] at c0
        have PTO:pkTo ps 25=true:=by rw[<-HPK.out];exact enPk_to _ _ _
        have PLN:ps.length=25:=by rw[<-HPK.out];exact enPk_len _ _ _
        have KP:=hid (fun W (h:Below w.heap.size w W)=>packPack_any ps W (TT.out.2.2.below h) PLN (pkTo_64 PTO PLN))
        unfold PkOut at KP
        rw[show pkErr ps=0 from if_pos PTO] at KP
        have KFM:=hid (fun W (h:Below w.heap.size w W)=>show Calls Tryd.prog 34 #[.agg e.m.cs.toArray,.agg (agi ps)] W (PlayA W (frM e.m ps) (frO e.m ps)) from frame_any e.m K.out.m HG.out ps W (TT.out.1.below h) (TT.out.2.1.below h) (TT.out.2.2.below h) PTO PLN)
        have KMF:=hid (frM_ok K.out.m PTO PLN)
        have PLN:=hid PLN
        have e4q:=hid (show enE e s false={e3 with m:=frM e.m ps} from by
         unfold enE
         rw[if_pos HE.out,HPK.out,<-HHP.out]
         exact(HE3.out _).symm)
        have HBS:=hid (show enBs e s false=pkBytes ps from by unfold enBs;rw[if_pos HE.out,HPK.out])
        have HYS:=hid (show enY e s false=frO e.m ps from by unfold enY;rw[if_pos HE.out,HPK.out])
        clear PTO HPK HPS
        generalize frM e.m ps=mf at*
        generalize frO e.m ps=yf at*
        generalize pkBytes ps=bs at*
        obtain⟨e4,he4⟩: ∃e4:En,e4={e3 with m:=mf}:=⟨_,rfl⟩
        rw[<-he4] at e4q
        have K4:=hid (show e4.ok from by rw[he4];exact⟨K3.out.h,K3.out.x,KMF.out⟩)
        go_wp2_with (first
         |(refine wpList_loadI rfl 77 (.tmp 15) rfl _ 77 ps 25 _ rfl J0.out.P Tryd.underlying77 rfl size25d PLN.out ?_))
        with_reducible refine(KP.out wr J0.out.L.bel).mono ?_
        rintro e' w20 ⟨A4,c4,rfl,hO,hB⟩
        have J1:=hid (J0.out.below hB)
        have B20:=hid hO
        have LT20:=hid J0.out.L.lt
        clear hO hB J0 KP
        go_wp2_with (first
         |(refine wpList_load_mid rfl 30 (.tmp 145) rfl w.heap.size 124 rfl e.m.cs _ (by have h:=EB.M J1.out.L.E K3.out;rw[HM3.out] at h;exact h) Tryd.underlying30 rfl HIM.out ?_)
         |(refine wpList_loadI rfl 77 (.tmp 15) rfl _ 77 ps 25 _ rfl J1.out.P Tryd.underlying77 rfl size25d PLN.out ?_))
        with_reducible refine(KFM.out w20 J1.out.L.bel).mono ?_
        rintro e' w21 ⟨A5,c5,rfl,hO,hB⟩
        have S21:=hid (J1.out.L.below hB)
        have B21:=hid (B20.out.below hB)
        have O21:=hid hO
        have LT21:=hid J1.out.L.lt
        clear hO hB J1 KFM B20
        have S22:=hid (S21.out.sets (e':=e4) mf.cs 124 (by rw[he4];exact S21.out.E.set_m K3.out mf KMF.out))
        have B22:=hid (ownB_setCs (g:=w.heap.size) (by have:=LT20.out;omega) mf.cs 124 _ B21.out)
        have O22:=hid (Own.setCs (g:=w.heap.size) (by have:=LT21.out;omega) mf.cs 124 _ O21.out)
        obtain⟨V22,hV22⟩: ∃V22,V22=w21.setCells w.heap.size 124 mf.cs:=⟨_,rfl⟩
        rw[<-hV22] at S22 B22 O22
        have HV22:=hid hV22
        clear hV22 he4
        go_wp2_with (first
         |(refine wpList_store_mid rfl 30 (.tmp 151) (.tmp 149) rfl w.heap.size 124 mf.ag rfl rfl (by rw[mf.size KMF.out];exact EB.thereM S21.out.E K3.out) (by rw[mf.size KMF.out];exact sizeM) mf.one ?_;rw[show mf.ag.toList=mf.cs from rfl,<-HV22.out];clear HV22)
         |(refine wpList_loadE rfl (.tmp 3) rfl _ e4 rfl S22.out.E K4.out ?_)
         |(refine wpList_storeE rfl (.tmp 6) (.tmp 152) rfl _ zeroEn e4 rfl rfl S22.out.Z zeroEn_ok K4.out ?_))
        refine bodyPost_ret (v:=_) (hR _ _ _ e4 rfl (EB.setRow S22.out.Z e4) K4.out) rfl ?_
        unfold EncOut
        rw[e4q.out,HBS.out,HYS.out,HE.out]
        exact⟨A4,c4,A5,c5,rfl,(ownB_setRow B22.out (g:=w.heap.size+1) (by have:=LT20.out;omega) e4.ag).more (base':=w.heap.size) (by have:=LT20.out;omega),(O22.out.setRow (g:=w.heap.size+1) (by have:=LT21.out;omega) e4.ag).more (base':=w.heap.size) (by have:=LT21.out;omega),below_setRow S22.out.bel (g:=w.heap.size+1) (by omega) e4.ag⟩
      have HPP:=hid (show enPk e s false=enP 0 qn was now o m0 from by rw[HPP.out,KD0.out];rfl)
      have K18:=K15
      clear KD0 K15 M0 c0 f0
      obtain⟨V18,hV18⟩: ∃V18,V18=V15:=⟨_,rfl⟩
      rw[<-hV18] at K18|-
      clear hV18
      go_wp2_with (first
       |(refine wpList_load_mid rfl 27 (.tmp 93) rfl gP 1 rfl (ints qn) _ (HQN.out _ _ _ K18.out.J.P) Tryd.underlying27 rfl HIQ.out ?_))
      with_reducible refine(KV.out V18 K18.out.J.L.bel).mono ?_
      rintro e' w19 ⟨rfl,hB⟩
      have K19:=hid (K18.out.below hB)
      clear hB K18
      go_wp2_with (first
       |(refine wpList_storeI rfl 27 (.tmp 20) (.tmp 96) rfl _ 27 Z8 now 8 rfl rfl (IB.new w19 27 Z8) size8 rfl NL.out ?_
         have BB:=below_stored w19 (.cells (agi Z8) 27) (agi now)
         obtain⟨V20,hV⟩: ∃V20,V20=(w19.alloc (.cells (agi Z8) 27)).setRow w19.heap.size (agi now):=⟨_,rfl⟩
         have M20:=hid (show Em w V20 e3 ad2 o gP gM w19.heap.size (enZ 0 qn was now o m0 0) m0 now from by rw[hV];exact⟨K19.out.below BB,IB.stored w19 27 Z8 now,K19.out.lt⟩)
         rw[z8_eq] at hV
         rw[<-hV]
         clear hV BB))
      obtain⟨gN,hgN⟩: ∃gN,gN=w19.heap.size:=⟨_,rfl⟩
      rw[<-hgN] at M20|-
      clear hgN K19
      go_loopw [98] (fun iv wr=> ∃j:Nat,j<=2/\iv= .int .i64 j/\Hid (Em w wr e3 ad2 o gP gM gN (enZ 0 qn was now o m0 j) (enK was now o m0 j) now)) (fun iv _=>2-(intOf iv).toNat)
      case atStart=>exact⟨0,by omega,rfl,M20⟩
      case round=>
       clear M20
       obtain⟨j,hj,rfl,HS⟩:=hrel
       obtain⟨ps,hps⟩: ∃ps,ps=enZ 0 qn was now o m0 j:=⟨_,rfl⟩
       obtain⟨mk,hmk⟩: ∃mk,mk=enK was now o m0 j:=⟨_,rfl⟩
       rw[<-hps,<-hmk] at HS
       have PL:=hid (show ps.length=25 from by rw[hps];exact enZ_len QL.out hj)
       have P0:=hid (show ps.getD 0 0=0 from by rw[hps];rfl)
       have KO:=hid (show mk.ok from by rw[hmk];exact enK_ok K0.out j)
       have RK:=hid (show mk.r=was from by rw[hmk,enK_r,HWAS.out])
       have c0:=HS.out.K.J.P.cell 0 (by rw[PL.out];omega)
       rw[P0.out] at c0
       have HPS:=hid hps
       have HMK:=hid hmk
       clear hps hmk
       by_cases hlt:j<2
       ·have KF:=hid (fun W=>show Calls Tryd.prog 30 #[.agg (ints was).toArray,.agg (agi now),.int .i64 (j:Nat)] W (fun e w'=>e= .returned (.agg (agi (frA was now j)))/\Below W.heap.size W w') from filter_any was now j W WL.out NL.out hlt)
        have GA:=frA_good SW.out SN.out hlt
        have AL:=hid (frA_len was now j)
        obtain⟨a,ha⟩: ∃a,a=frA was now j:=⟨_,rfl⟩
        rw[<-ha] at KF GA AL
        have HA:=hid ha
        have HI8:=hid (show(Tryd.prog.info? 27).map (·.size)=some (ints was).length from by rw[ints_len,WL.out];exact size8)
        have HGA:=hid GA
        clear ha GA
        go_wp2_with (first
         |(refine wpList_load_mid rfl 27 (.tmp 104) rfl gM 0 rfl (ints was) _ (by have h:=MB.R HS.out.K.M KO.out;rw[RK.out] at h;exact h) Tryd.underlying27 rfl HI8.out ?_)
         |(refine wpList_loadI rfl 27 (.tmp 20) rfl _ 27 now 8 _ rfl HS.out.N Tryd.underlying27 rfl size8 NL.out ?_))
        with_reducible refine(KF.out wr).mono ?_
        rintro e' w5 ⟨rfl,hB⟩
        have S5:=hid (HS.out.below hB)
        clear hB HS KF
        go_wp2_with (first
         |(refine wpList_storeI rfl 69 (.tmp 23) (.tmp 108) rfl _ 69 Z9 a 9 rfl rfl (IB.new w5 69 Z9) size9 rfl AL.out ?_
           have BB:=below_stored w5 (.cells (agi Z9) 69) (agi a)
           obtain⟨V6,hV⟩: ∃V6,V6=(w5.alloc (.cells (agi Z9) 69)).setRow w5.heap.size (agi a):=⟨_,rfl⟩
           have W6:=hid (show Ew w V6 e3 ad2 o gP gM gN ps mk now w5.heap.size a from by rw[hV];exact⟨S5.out.below BB,IB.stored w5 69 Z9 a⟩)
           rw[z9_eq] at hV
           rw[<-hV]
           clear hV BB))
        obtain⟨gA,hgA⟩: ∃gA,gA=w5.heap.size:=⟨_,rfl⟩
        have GLT:=hid (show gN<gA from by rw[hgA];exact S5.out.lt)
        rw[<-hgA] at W6|-
        clear hgA S5
        have GK:=enK_good (was:=was) (now:=now) (o:=o) G0.out j
        rw[<-HMK.out] at GK
        obtain⟨u,hu⟩: ∃u,u=chU mk a (halfL o j):=⟨_,rfl⟩
        have HU:=hid (show enU was now o m0 j=u from by rw[hu,HMK.out,HA.out];rfl)
        have UO:=hid (show UOk u from by rw[hu];exact chU_ok)
        have KCH:=hid (fun W A1 c1 (h:Rs W W.heap.size A1 (halfL o j)) (hB:Below w.heap.size w W)=>show Calls Tryd.prog 31 #[.agg mk.cs.toArray,.agg (ints a).toArray,.slice A1 40 c1] W (fun e w'=>e= .returned (.agg (agi u))/\Below W.heap.size W w') from by
         rw[hu]
         exact choose_any mk KO.out GK a (halfL o j) HGA.out AL.out A1 c1 W h (halfL_len OL.out hlt) (halfL_in2 OG.out) (TT.out.1.below hB) (TT.out.2.1.below hB))
        have GK:=hid GK
        clear hu
        have hw40:IntKind.i64.wrap ((j:Int)*40)=(j:Int)*40:=by rw[IntKind.wrap_i64];omega
        refine wp_region_ord [0,3,4,5,6,7,9] [1,2] 8 [10,11] (fun W=>Ew w W e3 ad2 o gP gM gN ps mk now gA a) (by kernel_rfl) (by kernel_rfl) rfl ⟨W6.out.R.below ((Below.refl _ _).drew),Blk.drew W6.out.F⟩ (fun _ _ d _ _ h=>by cases d<;>exact h) ?_
        simp only[opsAt,List.getElem?_toArray,List.getElem?_cons_zero,List.getElem?_cons_succ]
        refine wpYields_step (v:= .int .i64 (j:Nat)) (by rfl) (fun W=>rfl) ?_
        refine wpYields_step (v:= .slice (some ad2) 80 c2) (by rfl) (fun W=>rfl) ?_
        refine wpYields_step (v:= .int .i64 (j:Nat)) (by rfl) (fun W=>rfl) ?_
        refine wpYields_step (v:= .int .i64 ((j:Int)*40)) (by rfl) (fun W=>?_) ?_
        ·go_simp
        refine wpYields_step (v:= .slice (some (ad2.add (j*40))) (80-j*40) (c2-j*40)) (by rfl) (fun W=>?_) ?_
        ·go_simp
         have c80:=C80.out
         rw[if_pos (by omega),show((j:Int)*40).toNat=j*40 by omega,if_neg (by omega)]
        refine wpYields_step (v:= .slice (some (ad2.add (j*40))) 40 (c2-j*40)) (by rfl) (fun W=>?_) ?_
        ·go_simp
         have c80:=C80.out
         intro hbad
         omega
        refine wpYields_step (v:= .pointer (some ⟨gP,9,none⟩)) (by rfl) (fun W=>?_) ?_
        ·go_simp
        refine wpYields_nil ?_
        simp only[Act.put,List.setIfInBounds_toArray,List.set_cons_zero,List.set_cons_succ,List.getElem_toArray,List.getElem_cons_succ,List.getElem_cons_zero]
        refine wpQuiet_step (fun K hK=>?_)
        refine quiet_mid (by rfl) 30 (.tmp 19) rfl gM 0 rfl mk.cs _ (fun W hW=>MB.whole hW.R.K.M) Tryd.underlying30 rfl (by rw[sizeM,mk.len KO.out]) ?_
        refine hK _ ?_;clear hK K
        refine wpQuiet_step (fun K hK=>?_)
        refine quiet_mid (by rfl) 69 (.tmp 23) rfl gA 0 rfl (ints a) _ (fun W hW=>range_of hW.F [] (ints a) [] (by simp) rfl) Tryd.underlying69 rfl (by rw[size9,ints_len,AL.out]) ?_
        refine hK _ ?_;clear hK K
        refine wpQuiet_nil ?_
        intro W7 hW7
        have R7:=hid hW7.R
        have F7:=hid hW7.F
        clear hW7 W6 hw40
        obtain⟨pA,hpA⟩: ∃pA,pA=0::(qn++enF was now o m0 j):=⟨_,rfl⟩
        obtain⟨pB,hpB⟩: ∃pB,pB=List.replicate (8-j*8) (0:Int):=⟨_,rfl⟩
        obtain⟨ps2,hps2⟩: ∃ps2,ps2=enZ 0 qn was now o m0 (j+1):=⟨_,rfl⟩
        have HPA:=hid (show ps=pA++(List.replicate 8 0++pB) from by rw[HPS.out,hpA,hpB];exact enZ_split QL.out hlt)
        have HPB:=hid (show ps2=pA++(u++pB) from by rw[hps2,enZ_next j hlt,HU.out,hpA,hpB])
        have LPA:=hid (show pA.length=9+j*8 from by rw[hpA,List.length_cons,List.length_append,enF_len,QL.out];omega)
        have HPS2:=hid hps2
        have PL2:=hid (show ps2.length=25 from by rw[hps2];exact enZ_len QL.out (by omega))
        clear hpA hpB hps2
        have RSH:=hid (show Rs W7 W7.heap.size (some (ad2.add (j*40))) (halfL o j) from(rs_half R7.out.K.J.O OL.out hlt).more (Nat.le_of_lt R7.out.K.J.lt))
        obtain⟨mn,hmn⟩: ∃mn,mn=frP false a mk u:=⟨_,rfl⟩
        have HMN:=hid (show enK was now o m0 (j+1)=mn from by rw[hmn,enK_step,HU.out,HMK.out,HA.out])
        have KN:=hid (show mn.ok from by rw[hmn];exact frP_ok false a KO.out UO.out)
        have RN:=hid (show mn.r=was from by rw[hmn,frP_r];exact RK.out)
        have RNE:=hid (show({mn with r:=was}:Mm)=mn from by have h:=RN.out;cases mn;simp only at h;rw[h])
        have KHF:=fun W (hB:Below w.heap.size w W)=>half_any mk KO.out a u W (TT.out.1.below hB) (TT.out.2.1.below hB) AL.out UO.out
        rw[(frP_voice GK.out UO.out HGA.out).1,(frP_voice GK.out UO.out HGA.out).2,<-hmn] at KHF
        unfold PlayA at KHF
        generalize frY false a mk u=y at KHF
        have KHF:=hid (fun W (hB:Below w.heap.size w W)=>show Calls Tryd.prog 32 #[.agg mk.cs.toArray,.agg (ints a).toArray,.agg (ints u).toArray] W (fun e w'=> ∃A c,e= .returned (.tuple #[.agg mn.ag,.slice A y.length c])/\Own w' W.heap.size A c y/\Below W.heap.size W w') from KHF W hB)
        clear hmn
        have HIS:=hid (show(Tryd.prog.info? 74).map (·.size)=some (ints u).length from by rw[ints_len,UO.out.l];exact sizeSub)
        go_wp2_with (first
         |(go_at_call 31;(with_reducible refine(KCH.out W7 _ _ RSH.out R7.out.K.J.L.bel).mono ?_);rintro e' w8 ⟨rfl,hB⟩;have R8:=hid (R7.out.below hB);have F8:=hid (Blk.below' F7.out hB);clear hB;have R9:=hid (R8.out.over (ints u) (9+j*8) (IB.over R8.out.K.J.P HPA.out (by rw[UO.out.l];simp) HPB.out LPA.out));have F9:=hid (blk_sc (b:=gP) (by have:=R8.out.l2;have:=R8.out.K.l1;have:=GLT.out;omega) (ints u) (9+j*8) _ F8.out);obtain⟨V9,hV9⟩: ∃V9,V9=w8.setCells gP (9+j*8) (ints u):=⟨_,rfl⟩;rw[<-hV9] at R9 F9;have HV9:=hid hV9;clear hV9)
         |(refine wpList_store_mid rfl 74 (.tmp 119) (.tmp 117) rfl gP (9+j*8) (agi u) rfl rfl (by rw[agi_size,UO.out.l];exact IB.thereAt R8.out.K.J.P (9+j*8) 8 (by rw[PL.out];omega)) (by rw[agi_size,UO.out.l];exact sizeSub) (agi_one _) ?_;rw[show(agi u).toList=ints u from rfl,<-HV9.out];clear HV9)
         |(refine wpList_load_mid rfl 27 (.tmp 120) rfl gM 0 rfl (ints was) _ (by have h:=MB.R R9.out.K.M KO.out;rw[RK.out] at h;exact h) Tryd.underlying27 rfl HI8.out ?_)
         |(refine wpList_storeI rfl 27 (.tmp 24) (.tmp 121) rfl _ 27 Z8 was 8 rfl rfl (IB.new V9 27 Z8) size8 rfl WL.out ?_
           have BB:=below_stored V9 (.cells (agi Z8) 27) (agi was)
           obtain⟨V10,hV⟩: ∃V10,V10=(V9.alloc (.cells (agi Z8) 27)).setRow V9.heap.size (agi was):=⟨_,rfl⟩
           have R10:=hid (show Em w V10 e3 ad2 o gP gM gN ps2 mk now from by rw[hV];exact R9.out.below BB)
           have F10:=hid (show IB V10 gA 69 a from by rw[hV];exact Blk.below' F9.out BB)
           have W10:=hid (show IB V10 V9.heap.size 27 was from by rw[hV];exact IB.stored V9 27 Z8 was)
           rw[z8_eq] at hV
           rw[<-hV]
           clear hV BB))
        obtain⟨gW,hgW⟩: ∃gW,gW=V9.heap.size:=⟨_,rfl⟩
        have GWT:=hid (show gA<gW from by rw[hgW];exact Blk.lt F9.out)
        have HSU:=hid (fun W (h:IB W gP 77 ps2)=>show W.rangeAt gP (9+j*8) (ints u) from sub_at h HPB.out LPA.out)
        rw[<-hgW] at W10|-
        clear hgW R7 R8 R9 F7 F8 F9 RSH
        refine wp_region_ord [] [0,1,2,3,4,5] 6 [7,8,9,10] (fun W=>Ey w W e3 ad2 o gP gM gN ps2 mk now gA a gW was) (by kernel_rfl) (by kernel_rfl) rfl ⟨R10.out.below ((Below.refl _ _).drew),Blk.drew F10.out,Blk.drew W10.out⟩ (fun _ _ d _ _ h=>by cases d<;>exact h) ?_
        simp only[opsAt,List.getElem?_toArray,List.getElem?_cons_zero,List.getElem?_cons_succ]
        refine wpYields_nil ?_
        refine wpQuiet_step (fun K hK=>?_)
        refine quiet_mid (by rfl) 30 (.tmp 19) rfl gM 0 rfl mk.cs _ (fun W hW=>MB.whole hW.R.K.M) Tryd.underlying30 rfl (by rw[sizeM,mk.len KO.out]) ?_
        refine hK _ ?_;clear hK K
        refine wpQuiet_step (fun K hK=>?_)
        refine quiet_mid (by rfl) 69 (.tmp 23) rfl gA 0 rfl (ints a) _ (fun W hW=>range_of hW.F [] (ints a) [] (by simp) rfl) Tryd.underlying69 rfl (by rw[size9,ints_len,AL.out]) ?_
        refine hK _ ?_;clear hK K
        iterate 3
         refine wpQuiet_step (fun K hK=>?_)
         go_simp
         apply Exists.intro
         refine⟨fun W hW=>rfl,hK _ ?_⟩
         clear hK K
        refine wpQuiet_step (fun K hK=>?_)
        refine quiet_mid (by rfl) 74 (.tmp 127) rfl gP (9+j*8) rfl (ints u) _ (fun W hW=>HSU.out _ hW.R.K.J.P) Tryd.underlying74 rfl HIS.out ?_
        refine hK _ ?_;clear hK K
        refine wpQuiet_nil ?_
        intro W11 hW11
        have R11:=hid hW11.R
        have G11:=hid hW11.B
        clear hW11 R10 F10 W10
        go_wp2_with (first
         |(go_at_call 32;(with_reducible refine(KHF.out W11 R11.out.K.J.L.bel).mono ?_);rintro e' w12 ⟨A3,c3,rfl,hO,hB⟩;have R12:=hid (R11.out.below hB);have G12:=hid (Blk.below' G11.out hB);clear hO hB;have R13:=hid (R12.out.rowM (mm:=mn));have G13:=hid (Blk.rowFar (g:=gM) (c2:=mn.ag) G12.out (by have:=R12.out.l2;have:=GLT.out;have:=GWT.out;omega));obtain⟨V13,hV13⟩: ∃V13,V13=w12.setRow gM mn.ag:=⟨_,rfl⟩;rw[<-hV13] at R13 G13;have HV13:=hid hV13;clear hV13;have R14:=hid (R13.out.setR KN.out was WL.out);rw[RNE.out] at R14;obtain⟨V14b,hV14⟩: ∃V14b,V14b=V13.setCells gM 0 (ints was):=⟨_,rfl⟩;rw[<-hV14] at R14;have HV14:=hid hV14;clear hV14)
         |(refine wpList_storeM rfl (.tmp 19) (.tmp 130) rfl _ mk mn rfl rfl R12.out.K.M KO.out KN.out ?_;rw[<-HV13.out];clear HV13)
         |(refine wpList_loadI rfl 27 (.tmp 24) rfl _ 27 was 8 _ rfl G13.out Tryd.underlying27 rfl size8 WL.out ?_)
         |(refine wpList_store_mid rfl 27 (.tmp 133) (.tmp 132) rfl gM 0 (agi was) rfl rfl (by rw[agi_size,WL.out];exact MB.thereR R13.out.K.M KN.out) (by rw[agi_size,WL.out];exact size8) (agi_one _) ?_;rw[show(agi was).toList=ints was from rfl,<-HV14.out];clear HV14))
        go_roundw
        case rel=>exact⟨j+1,by omega,by go_num,hid (by rw[HMN.out,<-HPS2.out];exact R14.out)⟩
        case measure=>simp[intOf]<;>omega
       ·obtain rfl:j=2:=by omega
        have HPK:=hid (show enPk e s false=ps from by rw[HPS.out];exact(HPP.out.trans (enZ_two (kd:=0) (by decide)).symm))
        have J0:=hid HS.out.K.J
        clear HS HMK RK KO c0
        have PTO:pkTo ps 25=true:=by rw[<-HPK.out];exact enPk_to _ _ _
        have PLN:ps.length=25:=by rw[<-HPK.out];exact enPk_len _ _ _
        have KP:=hid (fun W (h:Below w.heap.size w W)=>packPack_any ps W (TT.out.2.2.below h) PLN (pkTo_64 PTO PLN))
        unfold PkOut at KP
        rw[show pkErr ps=0 from if_pos PTO] at KP
        have KFM:=hid (fun W (h:Below w.heap.size w W)=>show Calls Tryd.prog 34 #[.agg e.m.cs.toArray,.agg (agi ps)] W (PlayA W (frM e.m ps) (frO e.m ps)) from frame_any e.m K.out.m HG.out ps W (TT.out.1.below h) (TT.out.2.1.below h) (TT.out.2.2.below h) PTO PLN)
        have KMF:=hid (frM_ok K.out.m PTO PLN)
        have PLN:=hid PLN
        have e4q:=hid (show enE e s false={e3 with m:=frM e.m ps} from by
         unfold enE
         rw[if_pos HE.out,HPK.out,<-HHP.out]
         exact(HE3.out _).symm)
        have HBS:=hid (show enBs e s false=pkBytes ps from by unfold enBs;rw[if_pos HE.out,HPK.out])
        have HYS:=hid (show enY e s false=frO e.m ps from by unfold enY;rw[if_pos HE.out,HPK.out])
        clear PTO HPK HPS
        generalize frM e.m ps=mf at*
        generalize frO e.m ps=yf at*
        generalize pkBytes ps=bs at*
        obtain⟨e4,he4⟩: ∃e4:En,e4={e3 with m:=mf}:=⟨_,rfl⟩
        rw[<-he4] at e4q
        have K4:=hid (show e4.ok from by rw[he4];exact⟨K3.out.h,K3.out.x,KMF.out⟩)
        go_wp2_with (first
         |(refine wpList_loadI rfl 77 (.tmp 15) rfl _ 77 ps 25 _ rfl J0.out.P Tryd.underlying77 rfl size25d PLN.out ?_))
        with_reducible refine(KP.out wr J0.out.L.bel).mono ?_
        rintro e' w20 ⟨A4,c4,rfl,hO,hB⟩
        have J1:=hid (J0.out.below hB)
        have B20:=hid hO
        have LT20:=hid J0.out.L.lt
        clear hO hB J0 KP
        go_wp2_with (first
         |(refine wpList_load_mid rfl 30 (.tmp 145) rfl w.heap.size 124 rfl e.m.cs _ (by have h:=EB.M J1.out.L.E K3.out;rw[HM3.out] at h;exact h) Tryd.underlying30 rfl HIM.out ?_)
         |(refine wpList_loadI rfl 77 (.tmp 15) rfl _ 77 ps 25 _ rfl J1.out.P Tryd.underlying77 rfl size25d PLN.out ?_))
        with_reducible refine(KFM.out w20 J1.out.L.bel).mono ?_
        rintro e' w21 ⟨A5,c5,rfl,hO,hB⟩
        have S21:=hid (J1.out.L.below hB)
        have B21:=hid (B20.out.below hB)
        have O21:=hid hO
        have LT21:=hid J1.out.L.lt
        clear hO hB J1 KFM B20
        have S22:=hid (S21.out.sets (e':=e4) mf.cs 124 (by rw[he4];exact S21.out.E.set_m K3.out mf KMF.out))
        have B22:=hid (ownB_setCs (g:=w.heap.size) (by have:=LT20.out;omega) mf.cs 124 _ B21.out)
        have O22:=hid (Own.setCs (g:=w.heap.size) (by have:=LT21.out;omega) mf.cs 124 _ O21.out)
        obtain⟨V22,hV22⟩: ∃V22,V22=w21.setCells w.heap.size 124 mf.cs:=⟨_,rfl⟩
        rw[<-hV22] at S22 B22 O22
        have HV22:=hid hV22
        clear hV22 he4
        go_wp2_with (first
         |(refine wpList_store_mid rfl 30 (.tmp 151) (.tmp 149) rfl w.heap.size 124 mf.ag rfl rfl (by rw[mf.size KMF.out];exact EB.thereM S21.out.E K3.out) (by rw[mf.size KMF.out];exact sizeM) mf.one ?_;rw[show mf.ag.toList=mf.cs from rfl,<-HV22.out];clear HV22)
         |(refine wpList_loadE rfl (.tmp 3) rfl _ e4 rfl S22.out.E K4.out ?_)
         |(refine wpList_storeE rfl (.tmp 6) (.tmp 152) rfl _ zeroEn e4 rfl rfl S22.out.Z zeroEn_ok K4.out ?_))
        refine bodyPost_ret (v:=_) (hR _ _ _ e4 rfl (EB.setRow S22.out.Z e4) K4.out) rfl ?_
        unfold EncOut
        rw[e4q.out,HBS.out,HYS.out,HE.out]
        exact⟨A4,c4,A5,c5,rfl,(ownB_setRow B22.out (g:=w.heap.size+1) (by have:=LT20.out;omega) e4.ag).more (base':=w.heap.size) (by have:=LT20.out;omega),(O22.out.setRow (g:=w.heap.size+1) (by have:=LT21.out;omega) e4.ag).more (base':=w.heap.size) (by have:=LT21.out;omega),below_setRow S22.out.bel (g:=w.heap.size+1) (by omega) e4.ag⟩
 ·have ER:=hid (show encErr e s=1 from by rw[ER.out,if_neg (by omega)])
  have hne:((n:Int) !=80)=true:=by simp;omega
  clear KG K k HN TT hn
  go_enter Tryd.func10,Tryd.ntmps10
  go_wp2_with (refine wpList_storeE rfl (.tmp 6) (.tmp 30) rfl _ zeroEn zeroEn rfl (congrArg Value.agg zeroEn_ag) S0.out.Z zeroEn_ok zeroEn_ok ?_)
  refine bodyPost_ret (v:=_) (hR _ _ _ zeroEn rfl (EB.setRow S0.out.Z zeroEn) zeroEn_ok) rfl ?_
  exact EncOut.bad (below_setRow S0.out.bel (by omega) _) ER.out (by decide)
end Go.Proofs.YthoiikkjjaldnaaDoor
