/- Texts that the law rests on, laid together: TopW, TopA, EqS, DkS. -/
import Derived.Test.YthoiikkjjaldnaaDoorZ082df4
import Derived.Test.YthoiikkjjaldnaaDoorZd18350
import Derived.Test.YthoiikkjjaldnaaDoorZ7e0d48
import Derived.WideShapes
import Derived.ChangeArms
import Derived.ProofKit
import Derived.OpenShut
import Derived.Lib.SmallJoins
import Derived.Deep.Fields
import Derived.Test.YthoiikkjjaldnaaDoorZcd86f7
import Derived.Test.YthoiikkjjaldnaaDoorZe4c9da
import Derived.Test.YthoiikkjjaldnaaDoorZd03041
import Derived.Test.YthoiikkjjaldnaaDoorZ6c66eb
import Derived.Laws.BytesArg
set_option maxHeartbeats 2000000
namespace Go.Proofs.YthoiikkjjaldnaaDoor
set_option linter.unusedVariables false
set_option linter.unusedSimpArgs false
set_option maxRecDepth 100000
open Go.RowKit
def frE1 (l:List Int) (i:Nat):Int:=if i<l.length then l.getD i 0%65536-32768 else 0
def frL (l:List Int):List Int:=(List.range 80).map (frE1 l)
theorem frL_len (l:List Int):(frL l).length=80:=by simp[frL]
def FrS (l ys:List Int) (k:Nat):Prop:=ys.length=80/\∀j,ys.getD j 0=if j<k then frE1 l j else 0
theorem FrS.start (l:List Int):FrS l (List.replicate 80 0) 0:=⟨by simp,fun j=>by
 rw[if_neg (by omega),List.getD_eq_getElem?_getD,List.getElem?_replicate]
 split<;>rfl⟩
theorem FrS.next {l ys:List Int} {k:Nat} (h:FrS l ys k) (hk:k<80):FrS l (ys.set k (frE1 l k)) (k+1):=⟨by simpa using h.1,fun j=>by
 by_cases e:k=j
 ·subst e
  rw[get_set_same _ _ _ (by rw[h.1];omega),if_pos (by omega)]
 ·rw[get_set_other _ _ e,h.2 j]
  by_cases h1:j<k
  ·rw[if_pos h1,if_pos (by omega)]
  ·rw[if_neg h1,if_neg (by omega)]⟩
theorem FrS.done {l ys:List Int} {k:Nat} (h:FrS l ys k) (hk:k<=80) (he:k=80\/l.length<=k):ys=frL l:=by
 refine list_ext (by rw[h.1,frL_len]) fun j hj=>?_
 rw[h.1] at hj
 unfold frL
 rw[map_range_get _ hj,h.2 j]
 by_cases h1:j<k
 ·rw[if_pos h1]
 ·rw[if_neg h1]
  unfold frE1
  rw[if_neg (by omega)]
theorem topsame_yes (A A2:Option Addr) (c c2 n:Nat) (l:List Int) (w:World) (h1:Rs w w.heap.size A l) (h2:Rs w w.heap.size A2 l) (hn:l.length=n) (hl:n<=1000):
 Calls Tryd.prog 13 #[.slice A n c,.slice A2 n c2] w fun e w'=>e= .returned (.bool true)/\Below w.heap.size w w':=by
 have H1:=hid h1
 have H2:=hid h2
 have HN:=hid hn
 clear h1 h2 hn
 go_enter Tryd.func13,Tryd.ntmps13
 go_wp2
 go_loopw [5] (fun iv wr=> ∃k:Nat,k<=n/\iv= .int .i64 k/\Hid (Below w.heap.size w wr)) (fun iv _=>n-(intOf iv).toNat)
 case atStart=>exact⟨0,by omega,rfl,hid (Below.refl _ _)⟩
 case round=>
  obtain⟨k,hk,rfl,HB⟩:=hrel
  by_cases hlt:k<n
  ·obtain⟨ad,rfl,_,k0⟩:=(H1.out.below HB.out).at_ (k:=k) (by rw[HN.out];exact hlt)
   obtain⟨ae,rfl,_,k1⟩:=(H2.out.below HB.out).at_ (k:=k) (by rw[HN.out];exact hlt)
   go_wp2_with fail
   go_region
   go_wp2
   go_roundw
   case rel=>exact⟨k+1,by omega,by go_num,hid HB.out.drew⟩
   case measure=>simp[intOf]<;>omega
  ·obtain rfl:k=n:=by omega
   go_wp2
   go_ret
   exact⟨rfl,HB.out⟩
theorem begin_any (w:World):Calls Tryd.prog 7 #[] w fun e w'=>e= .returned (.agg enB.ag)/\Below w.heap.size w w':=by
 have hR:=results_enc1 (fn:=Tryd.f7) (p:=0) rfl
 have KF:=hid (fun W=>fresh_any W)
 have Z0:=hid (newzeroE w)
 have B0:=hid ((Below.refl w.heap.size w).alloc (Nat.le_refl _) (.cells Tryd.zeroCells32 32))
 go_enter Tryd.func7,Tryd.ntmps7
 go_wp2_with fail
 refine(KF.out _).mono ?_
 rintro e w1 ⟨rfl,hB⟩
 have Z1:=hid (Blk.below' Z0.out hB)
 have B1:=hid (B0.out.trans (hB.mono B0.out.size))
 clear hB Z0 B0
 have EO:=hid enB_fit.k
 go_wp2_with (refine wpList_storeE rfl (.tmp 0) (.tmp 2) rfl _ zeroEn enB rfl (by kernel_rfl) Z1.out zeroEn_ok EO.out ?_)
 refine bodyPost_ret (v:=_) (hR _ _ _ enB rfl (EB.setRow Z1.out enB) EO.out) rfl ?_
 exact⟨rfl,below_setRow B1.out (by omega) _⟩
end Go.Proofs.YthoiikkjjaldnaaDoor
namespace Go.Proofs.YthoiikkjjaldnaaDoor
set_option linter.unusedVariables false
set_option linter.unusedSimpArgs false
set_option maxRecDepth 100000
open Go.RowKit Go.ChangeShapes Go.WideShapes
structure Tk where
 A:Option Addr
 c:Nat
 xs:List Int
 q:Bool
 f:Int
 a:Int
 k:Int
def Tk.cs (t:Tk):List Value:=[.slice t.A t.xs.length t.c,.bool t.q,.int .i64 t.f,.int .i64 t.a,.int .i64 t.k]
structure TkAt (w:World) (B:Nat) (p:Addr) (t:Tk):Prop where
 b:p.block<B
 s: ∀j v,t.cs[j]?=some v->w.cell? (p.add j)=some v
 r:Rs w B t.A t.xs
 l:t.xs.length<=9223372036854775807
 f: -9223372036854775808<=t.f/\t.f<=9223372036854775807
 a: -9223372036854775808<=t.a/\t.a<=9223372036854775807
 k: -9223372036854775808<=t.k/\t.k<=9223372036854775807
def RT (w:World) (B:Nat) (A:Option Addr) (n:Nat):Prop:= ∀i,i<n->∃ad t,A=some ad/\TkAt w B (ad.add (i*5)) t
section
variable {w w':World} {B B' n:Nat} {A:Option Addr} {p:Addr} {t:Tk}
theorem TkAt.below (h:TkAt w B p t) (hb:Below B w w'):TkAt w' B p t:=⟨h.b,fun j v hv=>by rw[hb.cell (by rw[block_of_add];exact h.b)];exact h.s j v hv,h.r.below hb,h.l,h.f,h.a,h.k⟩
theorem RT.below (h:RT w B A n) (hb:Below B w w'):RT w' B A n:=fun i hi=>by
 obtain⟨ad,t,e,ht⟩:=h i hi
 exact⟨ad,t,e,ht.below hb⟩
end
theorem has_wf' {k:IntKind} {n:Int} (h:(Lit.int k n).wf=true):k.has n:=by simpa[Lit.wf,IntKind.has] using h
section
variable {H:Type} {enc:TypeId×Value->H} {P:Program} {w:World}
end
theorem list5 {α:Type} {l:List α} (h:l.length=5): ∃a b c d e,l=[a,b,c,d,e]:=by
 match l,h with
 |[a,b,c,d,e],_=>exact⟨a,b,c,d,e,rfl⟩
end Go.Proofs.YthoiikkjjaldnaaDoor
namespace Go.Proofs.YthoiikkjjaldnaaDoor
set_option linter.unusedVariables false
set_option linter.unusedSimpArgs false
set_option maxRecDepth 100000
open Go.RowKit
theorem eqFields_self (d:Nat) (xs:Array Value): ∀fs:List Field,(∀f∈fs,∃v,(∀w,(part f.type xs f.offset).run Tryd.prog w= .ok v w)/\∀w,(Op.equalIn d f.type v v).run Tryd.prog w= .ok true w)->∀w,(Op.eqFields d xs xs fs).run Tryd.prog w= .ok true w
 |[],_,w=>by simp[Op.eqFields]
 |f::fs,h,w=>by
  obtain⟨v,h1,h2⟩:=h f (by simp)
  have ih:=eqFields_self d xs fs (fun g hg=>h g (by simp[hg])) w
  simp only[Op.eqFields,Sem.run_bind,Sem.run_ite]
  split
  ·simp only[h1,h2,Result.andThen_ok,Bool.not_true,Bool.false_eq_true,if_false]
   exact ih
  ·exact ih
theorem part_row {t:TypeId} {n o:Nat} (hs: ∀w,(sizeOf t).run Tryd.prog w= .ok n w) (ha: ∀w,(isAgg t).run Tryd.prog w= .ok true w) (cs A xs B:List Value) (he:cs=A++(xs++B)) (ho:A.length=o) (hl:xs.length=n) (w:World):
 (part t cs.toArray o).run Tryd.prog w= .ok (.agg xs.toArray) w:=by
 subst he
 subst ho
 subst hl
 have e:(A++(xs++B)).toArray.extract A.length (A.length+xs.length)=xs.toArray:=by
  simp[List.extract_toArray]
 simp only[part,Sem.run_bind,ha,hs,Result.andThen_ok,if_true,Sem.run_pure,e]
theorem part_cell {t:TypeId} {o:Nat} (ha: ∀w,(isAgg t).run Tryd.prog w= .ok false w) (cs A B:List Value) (v:Value) (he:cs=A++(v::B)) (ho:A.length=o) (w:World):
 (part t cs.toArray o).run Tryd.prog w= .ok v w:=by
 subst he
 subst ho
 simp[part,ha]
theorem eql_struct {t:TypeId} (ht:Tryd.prog.underlying t=some (.struct (Tryd.prog.fieldsOf t))) (hp:Tryd.prog.stoodInHeld t=false) (xs:Array Value)
 (h: ∀f∈(Tryd.prog.fieldsOf t).toList,∃v,(∀w,(part f.type xs f.offset).run Tryd.prog w= .ok v w)/\∀w,(Op.equalIn 9999 f.type v v).run Tryd.prog w= .ok true w) (w:World):
 (binOp .eql t (.agg xs) (.agg xs)).run Tryd.prog w= .ok (.bool true) w:=by
 rw[run_eql_struct,run_equalIn_struct w 9999 t xs xs ht hp,eqFields_self 9999 xs _ h w]
 rfl
theorem eqi (x:Int) (w:World):(Op.equalIn 9999 3 (.int .i64 x) (.int .i64 x)).run Tryd.prog w= .ok true w:=by
 rw[run_equalIn_int w 9998 3 .i64 .i64 _ _ Tryd.underlying3]
 simp
theorem eqb (x:Bool) (w:World):(Op.equalIn 9999 4 (.bool x) (.bool x)).run Tryd.prog w= .ok true w:=by
 rw[run_equalIn_bool' w 9998 4 _ _ Tryd.underlying4]
 simp
theorem run_eql_mem (m:Mm) (k:m.ok) (w:World):(binOp .eql 30 (.agg m.ag) (.agg m.ag)).run Tryd.prog w= .ok (.bool true) w:=by
 refine eql_struct (by kernel_rfl) (by kernel_rfl) _ (fun f hf=>?_) w
 have hm:(f.type,f.offset)∈[(27,0),(27,8),(28,16),(3,96),(3,97),(3,98),(3,99),(3,100),(4,101)]:=by
  have e:(Tryd.prog.fieldsOf 30).toList.map (fun f=>(f.type,f.offset))=[(27,0),(27,8),(28,16),(3,96),(3,97),(3,98),(3,99),(3,100),(4,101)]:=by kernel_rfl
  rw[<-e]
  exact List.mem_map_of_mem hf
 simp only[List.mem_cons,List.not_mem_nil,or_false,Prod.mk.injEq] at hm
 have l16:(ints m.r++ints m.p).length=16:=by simp only[List.length_append,ints_len,k.r,k.p]
 have l96:(ints m.r++(ints m.p++ints m.e)).length=96:=by simp only[List.length_append,ints_len,k.r,k.p,k.e]
 have e96:m.cs=(ints m.r++(ints m.p++ints m.e))++m.tl:=by unfold Mm.cs Mm.tl;simp only[List.append_assoc]
 have ic: ∀(o:Nat) (A B:List Value) (x:Int),m.tl=A++(.int .i64 x::B)->96+A.length=o->∃v,(∀w,(part 3 m.ag o).run Tryd.prog w= .ok v w)/\∀w,(Op.equalIn 9999 3 v v).run Tryd.prog w= .ok true w:=fun o A B x hx ho=>
  ⟨.int .i64 x,fun w=>part_cell (fun _=>by kernel_rfl) m.cs ((ints m.r++(ints m.p++ints m.e))++A) B (.int .i64 x) (by rw[e96,hx];simp only[List.append_assoc]) (by rw[List.length_append,l96,ho]) w,eqi x⟩
 rcases hm with⟨h1,h2⟩|⟨h1,h2⟩|⟨h1,h2⟩|⟨h1,h2⟩|⟨h1,h2⟩|⟨h1,h2⟩|⟨h1,h2⟩|⟨h1,h2⟩|⟨h1,h2⟩<;>rw[h1,h2]
 ·exact⟨.agg (agi m.r),fun w=>part_row (n:=8) (fun _=>by kernel_rfl) (fun _=>by kernel_rfl) m.cs [] (ints m.r) _ rfl rfl (by rw[ints_len,k.r]) w,fun w=>run_equalIn_agi 9997 Tryd.underlying27 _ k.r w⟩
 ·exact⟨.agg (agi m.p),fun w=>part_row (n:=8) (fun _=>by kernel_rfl) (fun _=>by kernel_rfl) m.cs (ints m.r) (ints m.p) _ rfl (by rw[ints_len,k.r]) (by rw[ints_len,k.p]) w,fun w=>run_equalIn_agi 9997 Tryd.underlying27 _ k.p w⟩
 ·exact⟨.agg (agi m.e),fun w=>part_row (n:=80) (fun _=>by kernel_rfl) (fun _=>by kernel_rfl) m.cs (ints m.r++ints m.p) (ints m.e) m.tl (by unfold Mm.cs Mm.tl;simp only[List.append_assoc]) l16 (by rw[ints_len,k.e]) w,fun w=>run_equalIn_agi 9997 Tryd.underlying28 _ k.e w⟩
 ·exact ic 96 [] _ m.ga rfl rfl
 ·exact ic 97 [_] _ m.pi rfl rfl
 ·exact ic 98 [_,_] _ m.la rfl rfl
 ·exact ic 99 [_,_,_] _ m.er rfl rfl
 ·exact ic 100 [_,_,_,_] _ m.se rfl rfl
 ·exact⟨.bool m.si,fun w=>part_cell (fun _=>by kernel_rfl) m.cs ((ints m.r++(ints m.p++ints m.e))++[.int .i64 m.ga,.int .i64 m.pi,.int .i64 m.la,.int .i64 m.er,.int .i64 m.se]) [] (.bool m.si) (by rw[e96];unfold Mm.tl;simp only[List.append_assoc];rfl) (by rw[List.length_append,l96];rfl) w,eqb m.si⟩
end Go.Proofs.YthoiikkjjaldnaaDoor
namespace Go.Proofs.YthoiikkjjaldnaaDoor
set_option linter.unusedVariables false
set_option linter.unusedSimpArgs false
set_option maxRecDepth 100000
open Go.RowKit
theorem conv_rbD {w:World} {B n c:Nat} {A:Option Addr} {ys:List Int} (h:Rb w B A ys) (hn:ys.length=n):
 (convert 39 9 (.slice A n c)).run Tryd.prog w= .ok (.string (strOfNums ys)) w:=by
 subst hn
 rw[run_convert_bytes_string w 39 9 5 A ys.length c Tryd.underlying39 Tryd.underlying5 Tryd.underlying9]
 cases A with
 |none=>
  have h0:ys=[]:=by
   rcases Nat.eq_zero_or_pos ys.length with h0|h0
   ·exact List.eq_nil_of_length_eq_zero h0
   ·obtain⟨ad,e,_⟩:=h.2 h0
    cases e
  subst h0
  simp[Conv.bytesToString]
  rfl
 |some a=>
  have hl:=run_loadCells_list (P:=Tryd.prog) w a (bts ys) (fun j v hv=>by
   have hj:j<(bts ys).length:=(List.getElem?_eq_some_iff.1 hv).1
   rw[bts_len] at hj
   obtain⟨ad,e,_,hc⟩:=h.2 (by omega)
   injection e with e
   subst e
   exact hc j v hv)
  rw[bts_len] at hl
  rw[run_bytesToString w a ys.length c ys hl,foldl_push_bytes]
  simp[strOfNums,ByteArray.empty,ByteArray.emptyWithCapacity]
  rfl
theorem sameAns_yes (code v:Int) (A A2 A3 A4:Option Addr) (n c m c2 c3 c4:Nat) (bs ys:List Int) (w:World) (h1:Rb w w.heap.size A bs) (h2:Rs w w.heap.size A2 ys) (h3:Rb w w.heap.size A3 bs) (h4:Rs w w.heap.size A4 ys) (hn:bs.length=n) (hm:ys.length=m) (hm2:m<=1000):
 Calls Tryd.prog 20 #[.agg (ansC code v A n c A2 m c2),.agg (ansC code v A3 n c3 A4 m c4)] w fun e w'=>e= .returned (.bool true)/\Below w.heap.size w w':=by
 have BB:=((Below.refl w.heap.size w).alloc (Nat.le_refl _) (.cells #[.int .i64 code,.int .i64 v,.slice A n c,.slice A2 m c2] 58)).alloc (by simp) (.cells #[.int .i64 code,.int .i64 v,.slice A3 n c3,.slice A4 m c4] 58)
 obtain⟨V,hV⟩: ∃V,V=(w.alloc (.cells #[.int .i64 code,.int .i64 v,.slice A n c,.slice A2 m c2] 58)).alloc (.cells #[.int .i64 code,.int .i64 v,.slice A3 n c3,.slice A4 m c4] 58):=⟨_,rfl⟩
 have X1:=Blk.alloc (Blk.new w 58 #[.int .i64 code,.int .i64 v,.slice A n c,.slice A2 m c2]) (.cells #[.int .i64 code,.int .i64 v,.slice A3 n c3,.slice A4 m c4] 58)
 have X2:=Blk.new (w.alloc (.cells #[.int .i64 code,.int .i64 v,.slice A n c,.slice A2 m c2] 58)) 58 #[.int .i64 code,.int .i64 v,.slice A3 n c3,.slice A4 m c4]
 simp only[World.size_alloc] at X2
 rw[<-hV] at X1 X2 BB
 have p0:V.cell? ⟨w.heap.size,0,none⟩=some (.int .i64 code):=Blk.cell X1 0
 have p1:V.cell? ⟨w.heap.size,1,none⟩=some (.int .i64 v):=Blk.cell X1 1
 have p2:V.cell? ⟨w.heap.size,2,none⟩=some (.slice A n c):=Blk.cell X1 2
 have p3:V.cell? ⟨w.heap.size,3,none⟩=some (.slice A2 m c2):=Blk.cell X1 3
 have q0:V.cell? ⟨w.heap.size+1,0,none⟩=some (.int .i64 code):=Blk.cell X2 0
 have q1:V.cell? ⟨w.heap.size+1,1,none⟩=some (.int .i64 v):=Blk.cell X2 1
 have q2:V.cell? ⟨w.heap.size+1,2,none⟩=some (.slice A3 n c3):=Blk.cell X2 2
 have q3:V.cell? ⟨w.heap.size+1,3,none⟩=some (.slice A4 m c4):=Blk.cell X2 3
 have s1:=conv_rbD (c:=c) (h1.below BB) hn
 have s2:=conv_rbD (c:=c3) (h3.below BB) hn
 have KS:=hid (topsame_yes A2 A4 c2 c4 m ys V ((h2.below BB).more BB.size) ((h4.below BB).more BB.size) hm hm2)
 have B0:=hid BB
 have HV:=hid hV.symm
 clear h1 h2 h3 h4 hn hm hm2 X1 X2 BB hV
 generalize strOfNums bs=st at*
 unfold ansC
 go_enter Tryd.func20,Tryd.ntmps20
 go_wp2_with (first
  |(rw[HV.out];clear HV)
  |(go_at_call 13;(with_reducible refine KS.out.mono ?_);rintro e w2 ⟨rfl,hB⟩;have B2:=hid (B0.out.trans (hB.mono B0.out.size));clear hB))
 go_ret
 exact⟨rfl,B2.out⟩
end Go.Proofs.YthoiikkjjaldnaaDoor
