/- Texts that the law rests on, laid together: EnB, EnT, EnV, PkN, PkH, PkGL, CorR, CorL. -/
import Derived.Test.YthoiikkjjaldnaaDoorZ9f8558
import Derived.Test.YthoiikkjjaldnaaDoorZ6782c5
import Derived.Laws.CopyOwn
import Derived.Test.YthoiikkjjaldnaaDoorZ5a4ff4
import Derived.Test.YthoiikkjjaldnaaDoorZa172bc
import Derived.Test.YthoiikkjjaldnaaDoorZ7e0d48
import Derived.Deep.RegionHeld3
import Derived.Deep.MidRow
import Derived.Test.YthoiikkjjaldnaaDoorZ306d7b
import Derived.Test.YthoiikkjjaldnaaDoorZ4b4ffc
import Derived.Test.YthoiikkjjaldnaaDoorZbe9dc0
import Derived.Test.YthoiikkjjaldnaaDoorZcd86f7
import Derived.Test.YthoiikkjjaldnaaDoorZdf659f
namespace Go.Proofs.YthoiikkjjaldnaaDoor
set_option linter.unusedVariables false
set_option linter.unusedSimpArgs false
set_option maxRecDepth 100000
open Go.RowKit
def En.cs (e:En):List Value:=ints e.h++(ints e.x++e.m.cs)
def En.ag (e:En):Array Value:=e.cs.toArray
def EB (w:World) (g:Nat) (e:En):Prop:=Blk w g 32 e.ag
section
variable {w:World} {g:Nat} {e:En}
theorem En.len (e:En) (k:e.ok):e.cs.length=226:=by unfold En.cs;simp only[List.length_append,ints_len,k.h,k.x,e.m.len k.m]
theorem En.size (e:En) (k:e.ok):e.ag.size=226:=by unfold En.ag;rw[List.size_toArray,e.len k]
theorem mem_one {m:Mm}: ∀v∈m.cs,v.oneCell'=true:=fun v hv=>by
 have h:=Array.all_eq_true_iff_forall_mem.1 m.one
 exact h v (by simpa[Mm.ag] using hv)
theorem En.one (e:En):e.ag.all (·.oneCell')=true:=by
 rw[Array.all_eq_true_iff_forall_mem]
 intro v hv
 have:v∈e.cs:=by simpa[En.ag] using hv
 unfold En.cs at this
 rcases List.mem_append.1 this with h|h
 ·exact ints_one _ _ h
 ·rcases List.mem_append.1 h with h|h
  ·exact ints_one _ _ h
  ·exact mem_one _ h
theorem EB.H (h:EB w g e):w.rangeAt g 0 (ints e.h):=range_of h [] (ints e.h) _ rfl rfl
theorem EB.X (h:EB w g e) (k:e.ok):w.rangeAt g 4 (ints e.x):=range_of h (ints e.h) (ints e.x) e.m.cs rfl (by rw[ints_len,k.h])
theorem EB.M (h:EB w g e) (k:e.ok):w.rangeAt g 124 e.m.cs:=range_of h (ints e.h++ints e.x) e.m.cs [] (by unfold En.cs;simp only[List.append_assoc,List.append_nil]) (by simp only[List.length_append,ints_len,k.h,k.x])
theorem EB.src (h:EB w g e) (k:e.ok) (o:Nat) (ho:o<=120):w.rangeAt g (4+o) (ints (e.x.drop o)):=
 range_of h (ints e.h++ints (e.x.take o)) (ints (e.x.drop o)) e.m.cs (by
  unfold En.cs ints
  rw[List.append_assoc,<-List.append_assoc (List.map _ (e.x.take o)),<-List.map_append,List.take_append_drop])
  (by simp only[List.length_append,ints_len,k.h,List.length_take,k.x];omega)
theorem EB.whole (h:EB w g e):w.rangeAt g 0 e.cs:=range_of h [] e.cs [] (by simp) rfl
theorem EB.frozen (h:EB w g e) (i:Nat):w.frozen? ⟨g,i,none⟩=false:=Blk.frozen h i
theorem EB.new (w:World) (e:En):EB (w.alloc (.cells e.ag 32)) w.heap.size e:=Blk.new w _ _
theorem EB.there (h:EB w g e) (k:e.ok):w.there g 0 226:=fun j hj=>by
 refine⟨?_,Blk.frozen h _⟩
 rw[Blk.cell h]
 have:0+j<e.ag.size:=by rw[e.size k];omega
 rw[Array.getElem?_eq_getElem this];rfl
theorem EB.thereH (h:EB w g e) (k:e.ok):w.there g 0 4:=fun j hj=>h.there k j (by omega)
theorem EB.thereM (h:EB w g e) (k:e.ok):w.there g 124 102:=fun j hj=>by
 have h1:=h.there k (124+j) (by omega)
 rwa [Nat.zero_add] at h1
theorem EB.set_h (h:EB w g e) (k:e.ok) (x:List Int) (hx:x.length=4):EB (w.setCells g 0 (ints x)) g {e with h:=x}:=by
 have h0:Blk w g 32 ([]++(ints e.h++(ints e.x++e.m.cs))).toArray:=h
 exact blk_setCells (ints x) (ints e.h) [] _ w h0 (by rw[ints_len,ints_len,hx,k.h])
theorem EB.set_m (h:EB w g e) (k:e.ok) (m:Mm) (hm:m.ok):EB (w.setCells g 124 m.cs) g {e with m:=m}:=by
 have h0:Blk w g 32 ((ints e.h++ints e.x)++(e.m.cs++[])).toArray:=by
  have e1:e.ag=((ints e.h++ints e.x)++(e.m.cs++[])).toArray:=by unfold En.ag En.cs;simp only[List.append_assoc,List.append_nil]
  rw[<-e1];exact h
 have h1:=blk_setCells m.cs e.m.cs _ _ w h0 (by rw[m.len hm,e.m.len k.m])
 have hl:(ints e.h++ints e.x).length=124:=by simp only[List.length_append,ints_len,k.h,k.x]
 rw[hl] at h1
 have e2:({e with m:=m}:En).ag=((ints e.h++ints e.x)++(m.cs++[])).toArray:=by unfold En.ag En.cs;simp only[List.append_assoc,List.append_nil]
 unfold EB;rw[e2];exact h1
theorem EB.splice (k:e.ok) (o:Nat) (ys zs:List Int) (hf:o+ys.length<=120) (hz:zs=e.x.take o++ys++e.x.drop (o+ys.length)):
 splice e.cs (4+o) (ints ys)=({e with x:=zs}:En).cs:=by
 subst hz
 have h1:e.cs.take (4+o)=ints e.h++ints (e.x.take o):=by
  unfold En.cs
  rw[List.take_append,ints_len,k.h,List.take_of_length_le (by rw[ints_len,k.h];omega),show 4+o-4=o by omega,List.take_append_of_le_length (by rw[ints_len,k.x];omega)]
  unfold ints
  rw[List.map_take]
 have h2:e.cs.drop (4+o+(ints ys).length)=ints (e.x.drop (o+ys.length))++e.m.cs:=by
  unfold En.cs
  rw[ints_len,List.drop_append,ints_len,k.h,List.drop_of_length_le (by rw[ints_len,k.h];omega),List.nil_append,show 4+o+ys.length-4=o+ys.length by omega,List.drop_append_of_le_length (by rw[ints_len,k.x];omega)]
  unfold ints
  rw[List.map_drop]
 unfold Go.splice
 rw[h1,h2]
 unfold En.cs ints
 simp only[List.map_append,List.append_assoc]
end
theorem sizeE:(Tryd.prog.info? 32).map (·.size)=some 226:=by kernel_rfl
section
variable {w:World} {g:Nat} {e:En}
theorem wpList_storeE {ops:Array Oper} {rest:List Oper} {o:Oper} {a:Act} {Q:Exit->Act->World->Prop} (hgd:o.guard=none) (x y:Operand) (ho:o.op= .store 32 x y)
 (g:Nat) (e0:En) (e:En) (hx:a.eval x= .pointer (some ⟨g,0,none⟩)) (hy:a.eval y= .agg e.ag) (h:EB w g e0) (k0:e0.ok) (k:e.ok)
 (kk:wpList Tryd.prog ops Q rest (a.put o.dst undef) (w.setRow g e.ag)):wpList Tryd.prog ops Q (o::rest) a w:=
 wpList_store_row hgd 32 x y ho g e.ag hx hy 32 e0.ag h (by rw[sizeE,e.size k]) (by rw[e.size k,e0.size k0]) e.one kk
theorem wpList_loadE {ops:Array Oper} {rest:List Oper} {o:Oper} {a:Act} {Q:Exit->Act->World->Prop} (hw:Region.wanted o (yielded ops a.tmps)=true) (x:Operand) (ho:o.op= .load 32 x)
 (g:Nat) (e:En) (hx:a.eval x= .pointer (some ⟨g,0,none⟩)) (h:EB w g e) (k0:e.ok)
 (kk:wpList Tryd.prog ops Q rest (a.put o.dst (.agg e.ag)) w):wpList Tryd.prog ops Q (o::rest) a w:=
 Go.BigFrame.wpList_want hw fun K hK=>wp_load_row 32 x ho g hx 32 e.ag (0,0) _ h Tryd.underlying32 rfl (by rw[sizeE,e.size k0]) (hK _ _ kk)
theorem EB.setRow {e0:En} (h:EB w g e0) (e:En):EB (w.setRow g e.ag) g e:=setRow_heap w g _ _ _ _ h
theorem results_enc1 {fn:Func} {p:Tmp} (h:fn.results= #[.cell p 32]) (tmps:Array Value) (w:World) (g:Nat) (e:En)
 (hp:tmps.getD p undef= .pointer (some ⟨g,0,none⟩)) (hg:EB w g e) (k:e.ok):
 (results fn tmps).run Tryd.prog w= .ok (.agg e.ag) w:=by
 have hp':tmps[p]?.getD undef= .pointer (some ⟨g,0,none⟩):=by simpa using hp
 have hr:=run_loadVar_row (P:=Tryd.prog) w g 32 32 e.ag (0,0) _ hg Tryd.underlying32 rfl (by rw[sizeE,e.size k])
 simp[results,h,hp',asAddr,hr]
theorem results_enc4 {fn:Func} {p q r s:Tmp} (h:fn.results= #[.cell p 32,.tmp q,.tmp r,.tmp s]) (tmps:Array Value) (w:World) (g:Nat) (e:En)
 (hp:tmps.getD p undef= .pointer (some ⟨g,0,none⟩)) (hg:EB w g e) (k:e.ok):
 (results fn tmps).run Tryd.prog w= .ok (.tuple #[.agg e.ag,tmps.getD q undef,tmps.getD r undef,tmps.getD s undef]) w:=by
 have hp':tmps[p]?.getD undef= .pointer (some ⟨g,0,none⟩):=by simpa using hp
 have hr:=run_loadVar_row (P:=Tryd.prog) w g 32 32 e.ag (0,0) _ hg Tryd.underlying32 rfl (by rw[sizeE,e.size k])
 simp[results,h,hp',asAddr,hr]
end
def zeroEn:En:=⟨List.replicate 4 0,List.replicate 120 0,zeroM⟩
theorem zeroEn_ok:zeroEn.ok:=⟨rfl,rfl,zeroM_ok⟩
theorem zeroEn_ag:Tryd.zeroCells32=zeroEn.ag:=by kernel_rfl
theorem newzeroE (w:World):EB (w.alloc (.cells Tryd.zeroCells32 32)) w.heap.size zeroEn:=by rw[zeroEn_ag];exact EB.new w zeroEn
end Go.Proofs.YthoiikkjjaldnaaDoor
namespace Go.Proofs.YthoiikkjjaldnaaDoor
set_option linter.unusedVariables false
set_option linter.unusedSimpArgs false
set_option maxRecDepth 100000
open Go.RowKit
structure En.fit (e:En):Prop where
 k:e.ok
 g:goodM e.m=true
 h:all16 e.h=true
 x:all16 e.x=true
theorem all16_iff {l:List Int}:all16 l=true↔∀x∈l,-32768<=x/\x<=32767:=by
 unfold all16
 rw[List.all_eq_true]
 refine⟨fun h x hx=>?_,fun h x hx=>?_⟩
 ·have:=h x hx
  simpa[ok16] using this
 ·exact ok16_yes (h x hx).1 (h x hx).2
theorem all16_drop {l:List Int} (h:all16 l=true) (n:Nat):all16 (l.drop n)=true:=all16_iff.2 fun x hx=>all16_iff.1 h x (List.mem_of_mem_drop hx)
theorem all16_app {l r:List Int} (h:all16 l=true) (h2:all16 r=true):all16 (l++r)=true:=all16_iff.2 fun x hx=>by
 rcases List.mem_append.1 hx with h1|h1
 ·exact all16_iff.1 h x h1
 ·exact all16_iff.1 h2 x h1
theorem hiN_all (l:List Int) (a b c d:Int) (k:Nat):all16 (hiN l a b c d k).2=true:=by
 induction k with
 |zero=>rfl
 |succ k ih=>
  simp only[hiN]
  refine all16_app ih (all16_iff.2 fun x hx=>?_)
  rw[List.mem_singleton.1 hx]
  exact s16_in _
theorem hiA_len (l:List Int) (a b c d:Int) (n:Nat) (h:(hiA l a b c d n).2.2=true):(hiA l a b c d n).2.1.length=n/\(hiA l a b c d n).1.length=4:=by
 unfold hiA at*
 split
 ·exact⟨hiN_len _ _ _ _ _ _,rfl⟩
 ·next h2=>rw[if_neg h2] at h;cases h
section
variable {e:En} {s:List Int}
theorem enHi_yes (f:e.fit) (hs:all16 s=true):enHi e s=([(hiN s (e.h.getD 0 0) (e.h.getD 1 0) (e.h.getD 2 0) (e.h.getD 3 0) 80).1.1,(hiN s (e.h.getD 0 0) (e.h.getD 1 0) (e.h.getD 2 0) (e.h.getD 3 0) 80).1.2.1,
 (hiN s (e.h.getD 0 0) (e.h.getD 1 0) (e.h.getD 2 0) (e.h.getD 3 0) 80).1.2.2.1,(hiN s (e.h.getD 0 0) (e.h.getD 1 0) (e.h.getD 2 0) (e.h.getD 3 0) 80).1.2.2.2],(hiN s (e.h.getD 0 0) (e.h.getD 1 0) (e.h.getD 2 0) (e.h.getD 3 0) 80).2,true):=by
 have b: ∀i,-32768<=e.h.getD i 0/\e.h.getD i 0<=32767:=fun i=>all16_at f.h i
 have h2: ∀i j,all16 [e.h.getD i 0,e.h.getD j 0]=true:=fun i j=>all16_iff.2 fun x hx=>by
  simp only[List.mem_cons,List.not_mem_nil,or_false] at hx
  rcases hx with rfl|rfl
  ·exact b i
  ·exact b j
 unfold enHi hiA hiOk
 rw[hs,h2,h2]
 rfl
theorem enHi_fit (f:e.fit) (hs:all16 s=true):(enHi e s).2.2=true/\(enHi e s).2.1.length=80/\all16 (enHi e s).2.1=true/\(enHi e s).1.length=4/\all16 (enHi e s).1=true:=by
 have b: ∀i,-32768<=e.h.getD i 0/\e.h.getD i 0<=32767:=fun i=>all16_at f.h i
 have h2: ∀i j,all16 [e.h.getD i 0,e.h.getD j 0]=true:=fun i j=>all16_iff.2 fun x hx=>by
  simp only[List.mem_cons,List.not_mem_nil,or_false] at hx
  rcases hx with rfl|rfl
  ·exact b i
  ·exact b j
 have hi:=hiN_in (l:=s) hs (h2 0 1) (h2 2 3) 80
 have hl:=hiN_len s (e.h.getD 0 0) (e.h.getD 1 0) (e.h.getD 2 0) (e.h.getD 3 0) 80
 have ha:=hiN_all s (e.h.getD 0 0) (e.h.getD 1 0) (e.h.getD 2 0) (e.h.getD 3 0) 80
 rw[enHi_yes f hs]
 generalize hiN s (e.h.getD 0 0) (e.h.getD 1 0) (e.h.getD 2 0) (e.h.getD 3 0) 80=z at*
 refine⟨rfl,hl,ha,rfl,all16_iff.2 fun x hx=>?_⟩
 simp only[List.mem_cons,List.not_mem_nil,or_false] at hx
 rcases hx with rfl|rfl|rfl|rfl
 ·exact hi.1
 ·exact hi.2.1
 ·exact hi.2.2.1
 ·exact hi.2.2.2
theorem enX_fit (f:e.fit) (hs:all16 s=true):(enX e s).length=120/\all16 (enX e s)=true:=by
 obtain⟨_,h2,h3,_,_⟩:=enHi_fit f hs
 unfold enX
 refine⟨?_,all16_app (all16_drop f.x 80) h3⟩
 rw[List.length_append,List.length_drop,h2,f.k.x]
theorem enc_ok (f:e.fit) (hl:s.length=80) (hs:all16 s=true):encErr e s=0:=by
 unfold encErr
 rw[if_pos hl,if_pos f.g,if_pos (enHi_fit f hs).1,(enX_fit f hs).2];rfl
theorem enE_fit (f:e.fit) (hl:s.length=80) (hs:all16 s=true) (r:Bool):(enE e s r).fit:=by
 have e0:=enc_ok f hl hs
 obtain⟨_,_,_,h4,h5⟩:=enHi_fit f hs
 obtain⟨x1,x2⟩:=enX_fit f hs
 unfold enE
 rw[if_pos e0]
 exact⟨⟨h4,x1,frM_ok f.k.m (enPk_to _ _ _) (enPk_len _ _ _)⟩,frM_good f.g (enPk_to _ _ _) (enPk_len _ _ _),h5,x2⟩
theorem enE_m (f:e.fit) (hl:s.length=80) (hs:all16 s=true) (r:Bool):(enE e s r).m=frM e.m (enPk e s r):=by
 unfold enE;rw[if_pos (enc_ok f hl hs)]
theorem enBs_yes (f:e.fit) (hl:s.length=80) (hs:all16 s=true) (r:Bool):enBs e s r=pkBytes (enPk e s r):=if_pos (enc_ok f hl hs)
theorem enBs_len (f:e.fit) (hl:s.length=80) (hs:all16 s=true) (r:Bool):(enBs e s r).length=15:=by rw[enBs_yes f hl hs,pkBytes_len (enPk_to _ _ _)]
theorem enY_yes (f:e.fit) (hl:s.length=80) (hs:all16 s=true) (r:Bool):enY e s r=frO e.m (enPk e s r):=if_pos (enc_ok f hl hs)
theorem enY_len (f:e.fit) (hl:s.length=80) (hs:all16 s=true) (r:Bool):(enY e s r).length=80:=by rw[enY_yes f hl hs,frO_len]
theorem en_de (f:e.fit) (hl:s.length=80) (hs:all16 s=true) (r:Bool) {m:Mm} (g:goodM m=true):
 deE m (enBs e s r)=0/\deM m (enBs e s r)=frM m (enPk e s r)/\deY m (enBs e s r)=frO m (enPk e s r):=by
 obtain⟨h1,h2⟩:=pk_round (enPk_to e s r) (enPk_len e s r)
 have e0:deE m (enBs e s r)=0:=by unfold deE;rw[if_pos g,enBs_yes f hl hs,h1]
 refine⟨e0,?_,?_⟩
 ·unfold deM;rw[if_pos e0,enBs_yes f hl hs,h2]
 ·unfold deY;rw[if_pos e0,enBs_yes f hl hs,h2]
theorem en_sync (f:e.fit) (hl:s.length=80) (hs:all16 s=true) (r:Bool):
 deE e.m (enBs e s r)=0/\deM e.m (enBs e s r)=(enE e s r).m/\deY e.m (enBs e s r)=enY e s r:=by
 obtain⟨h1,h2,h3⟩:=en_de f hl hs r f.g
 exact⟨h1,by rw[h2,enE_m f hl hs],by rw[h3,enY_yes f hl hs]⟩
end
def enB:En:=⟨List.replicate 4 0,List.replicate 120 0,freshM⟩
theorem enB_fit:enB.fit:=⟨⟨rfl,by simp[enB],freshM_ok⟩,fresh_good,by decide,by decide⟩
end Go.Proofs.YthoiikkjjaldnaaDoor
namespace Go.Proofs.YthoiikkjjaldnaaDoor
set_option linter.unusedVariables false
set_option linter.unusedSimpArgs false
set_option maxRecDepth 100000
open Go.RowKit
theorem lev_len (r:List Int): ∀(n m:Nat) (al:List Int) (e:Int) (k:List Int),(lev r n m al e k).1.length<=k.length+n
 |0,_,_,_,k=>by rw[lev_zero];exact Nat.le_refl _
 |n+1,m,al,e,k=>by
  rw[lev_step r n m al e k _ _ rfl rfl]
  split
  ·show k.length<=_;omega
  ·split
   ·show(k++[_]).length<=_
    rw[List.length_append];show k.length+1<=_;omega
   ·refine Nat.le_trans (lev_len r n _ _ _ _) ?_
    rw[List.length_append];show k.length+1+n<=_;omega
theorem levR_len (r:List Int):(levR r).1.length<=8:=by
 unfold levR
 split
 ·show 0<=8;omega
 ·exact Nat.le_trans (lev_len _ _ _ _ _ _) (by show 0+8<=8;omega)
theorem padTo_len8 (r:List Int):(padTo 8 (levR r).1).length=8:=padTo_len (levR_len r)
theorem refL_enP {kd:Int} {q was now o:List Int} {m:Mm} (h:q.length=8):refL (enP kd q was now o m)=q:=by
 unfold refL enP
 rw[List.drop_succ_cons,List.drop_zero,List.take_append_of_le_length (by omega),List.take_of_length_le (by omega)]
theorem enNow_eq (x:List Int):frNow (enP 2 (enQ x) [] [] [] zeroM)=enNow x:=by
 unfold frNow enNow
 rw[refL_enP (enQ_len x)]
theorem enNow_vals (x:List Int):aL lvV lvErr (enQ x)=enNow x/\aE lvErr (enQ x) 8=0:=by
 have h:=enP_to (was:=[]) (now:=[]) (o:=[]) (m:=zeroM) (kd:=2) ⟨by omega,by omega⟩ x
 have h1:=frNow_eq h
 have h2:=frNow_err h 8 (Nat.le_refl _)
 rw[refL_enP (enQ_len x)] at h1 h2
 exact⟨by rw[h1,enNow_eq],h2⟩
theorem enNow_steady (x:List Int):steadyB (enNow x)=true:=by
 rw[<-enNow_eq]
 exact frNow_steady (enP_to (was:=[]) (now:=[]) (o:=[]) (m:=zeroM) (kd:=2) ⟨by omega,by omega⟩ x)
def enF (was now o:List Int) (m:Mm):Nat->List Int
 |0=>[]
 |s+1=>enF was now o m s++enU was now o m s
def enZ (kd:Int) (q was now o:List Int) (m:Mm) (s:Nat):List Int:=kd::(q++(enF was now o m s++List.replicate (16-s*8) 0))
section
variable {was now o q:List Int} {m:Mm} {kd:Int}
theorem enF_len (s:Nat):(enF was now o m s).length=s*8:=by
 induction s with
 |zero=>rfl
 |succ s ih=>rw[enF,List.length_append,ih,(enU_ok s).l];omega
theorem enZ_len (h:q.length=8) {s:Nat} (hs:s<=2):(enZ kd q was now o m s).length=25:=by
 unfold enZ
 rw[List.length_cons,List.length_append,List.length_append,enF_len,List.length_replicate,h];omega
theorem enZ_two (hk:kd≠2):enZ kd q was now o m 2=enP kd q was now o m:=by
 unfold enZ enP
 rw[if_neg hk]
 have e:enF was now o m 2=enU was now o m 0++enU was now o m 1:=by
  show([]++enU was now o m 0)++enU was now o m 1=_
  rw[List.nil_append]
 rw[e]
 simp
theorem enZ_none:enZ 2 q was now o m 0=enP 2 q was now o m:=by
 unfold enZ enP
 rw[if_pos rfl]
 rfl
theorem enZ_split (h:q.length=8) {s:Nat} (hs:s<2):enZ kd q was now o m s=(kd::(q++enF was now o m s))++(List.replicate 8 0++List.replicate (8-s*8) 0):=by
 unfold enZ
 have e:List.replicate (16-s*8) (0:Int)=List.replicate 8 0++List.replicate (8-s*8) 0:=by
  rw[List.replicate_append_replicate];congr 1;omega
 rw[e]
 simp
theorem enZ_next (s:Nat) (hs:s<2):enZ kd q was now o m (s+1)=(kd::(q++enF was now o m s))++(enU was now o m s++List.replicate (8-s*8) 0):=by
 unfold enZ
 rw[enF,show 16-(s+1)*8=8-s*8 by omega]
 simp
theorem enZ_first (h:q.length=8):(0:Int)::(q++List.replicate 16 0)=enZ 0 q was now o m 0:=by
 unfold enZ enF
 simp
theorem enK_step (s:Nat):enK was now o m (s+1)=frP false (frA was now s) (enK was now o m s) (enU was now o m s):=rfl
theorem halfL_len {s:Nat} (ho:o.length=80) (hs:s<2):(halfL o s).length=40:=by
 unfold halfL
 rw[List.length_take,List.length_drop];omega
theorem halfL_in {s:Nat} (ho:all16 o=true):In16 (halfL o s):=by
 refine all16_in (all16_iff.2 fun x hx=>all16_iff.1 ho x ?_)
 unfold halfL at hx
 exact List.mem_of_mem_drop (List.mem_of_mem_take hx)
theorem enM0_ok (r:Bool) (k:m.ok):(enM0 r m).ok:=by
 unfold enM0
 split
 ·exact freshM_ok
 ·exact k
theorem enM0_good (r:Bool) (g:goodM m=true):goodM (enM0 r m)=true:=by
 unfold enM0
 split
 ·exact fresh_good
 ·exact g
end
theorem IB.over {w:World} {g:Nat} {t:TypeId} {ps A old B ys qs:List Int} (h:IB w g t ps) (he:ps=A++(old++B)) (hl:ys.length=old.length) (hq:qs=A++(ys++B)) {o:Nat} (ho:A.length=o):IB (w.setCells g o (ints ys)) g t qs:=by
 subst he;subst hq;subst ho
 have h0:Blk w g t (ints A++(ints old++ints B)).toArray:=by
  have e:agi (A++(old++B))=(ints A++(ints old++ints B)).toArray:=by unfold agi ints;simp only[List.map_append]
  rw[<-e];exact h
 have h1:=blk_setCells (ints ys) (ints old) _ _ w h0 (by rw[ints_len,ints_len,hl])
 rw[ints_len] at h1
 have e2:agi (A++(ys++B))=(ints A++(ints ys++ints B)).toArray:=by unfold agi ints;simp only[List.map_append]
 unfold IB;rw[e2];exact h1
theorem IB.thereAt {w:World} {g:Nat} {t:TypeId} {ps:List Int} (h:IB w g t ps) (o n:Nat) (ho:o+n<=ps.length):w.there g o n:=fun j hj=>by
 refine⟨?_,Blk.frozen h _⟩
 rw[Blk.cell h]
 have:o+j<(agi ps).size:=by rw[agi_size];omega
 rw[Array.getElem?_eq_getElem this];rfl
end Go.Proofs.YthoiikkjjaldnaaDoor
namespace Go.Proofs.YthoiikkjjaldnaaDoor
set_option linter.unusedVariables false
set_option linter.unusedSimpArgs false
set_option maxRecDepth 100000
open Go.RowKit
theorem own_litN (w:World) (l:List Int) (base:Nat) (hb:base<=w.heap.size) (hl:l.length<=1000):Own (w.alloc (.cells (agi l) 3)) base (some ⟨w.heap.size,0,none⟩) l.length l:=
 World.ownsRow_lit (base:=base) (e:=3) (size:=1) w (agi l) l.length hb (by unfold maxLen;omega) (by rw[agi_size];omega)
theorem N3.start (w:World) (ps:List Int) (x y z:Int):N3 w ((((w.alloc (.cells (agi ps) 77)).alloc (.cells #[.int .i64 x] 3)).alloc (.cells #[.int .i64 y] 3)).alloc (.cells #[.int .i64 z] 3)) ps (some ⟨w.heap.size+1,0,none⟩) 1 [x] (some ⟨w.heap.size+1+1,0,none⟩) 1 [y] (some ⟨w.heap.size+1+1+1,0,none⟩) 1 [z]:=by
 have a:=own_litN (w.alloc (.cells (agi ps) 77)) [x] (w.heap.size+1) (by simp) (by simp)
 have b:=own_litN ((w.alloc (.cells (agi ps) 77)).alloc (.cells #[.int .i64 x] 3)) [y] (w.heap.size+1) (by simp) (by simp)
 have c:=own_litN (((w.alloc (.cells (agi ps) 77)).alloc (.cells #[.int .i64 x] 3)).alloc (.cells #[.int .i64 y] 3)) [z] (w.heap.size+1) (by simp) (by simp)
 simp only[World.size_alloc] at a b c
 exact⟨Blk.alloc (Blk.alloc (Blk.alloc (IB.new w 77 ps) _) _) _,(a.alloc _).alloc _,b.alloc _,c,fun a b ha hb=>by cases ha;cases hb;simp,fun a b ha hb=>by cases ha;cases hb;simp<;>omega,fun a b ha hb=>by cases ha;cases hb;simp,(((((Below.refl w.heap.size w).alloc (Nat.le_refl _) _).alloc (by simp) _).alloc (by simp;omega) _).alloc (by simp;omega) _)⟩
end Go.Proofs.YthoiikkjjaldnaaDoor
namespace Go.Proofs.YthoiikkjjaldnaaDoor
set_option linter.unusedVariables false
set_option linter.unusedSimpArgs false
set_option maxRecDepth 100000
open Go.RowKit
end Go.Proofs.YthoiikkjjaldnaaDoor
namespace Go.Proofs.YthoiikkjjaldnaaDoor
set_option linter.unusedVariables false
set_option linter.unusedSimpArgs false
set_option maxRecDepth 100000
open Go.RowKit
def Z25:List Int:=List.replicate 25 0
end Go.Proofs.YthoiikkjjaldnaaDoor
namespace Go.Proofs.YthoiikkjjaldnaaDoor
set_option linter.unusedVariables false
set_option linter.unusedSimpArgs false
set_option maxRecDepth 100000
open Go.RowKit
end Go.Proofs.YthoiikkjjaldnaaDoor
namespace Go.Proofs.YthoiikkjjaldnaaDoor
set_option linter.unusedVariables false
set_option linter.unusedSimpArgs false
set_option maxRecDepth 100000
open Go.RowKit
def corA (l:List Int):List Int:=if l.length=120/\all16 l=true then corF l (corG l) 9 else Z9
def corP (l:List Int):Int:=if l.length=120/\all16 l=true then corK l else 0
def CorOut (l:List Int) (w:World) (e:Ending) (w':World):Prop:=e= .returned (.tuple #[.agg (agi (corA l)),.int .i64 (corP l),.int .i64 (corErr l)])/\Below w.heap.size w w'
theorem corA_len (l:List Int):(corA l).length=9:=by
 unfold corA
 split
 ·exact corF_len _ _ _
 ·rfl
theorem cor_out_good {l:List Int} {w w':World} {e:Ending} (h1:l.length=120) (h2:all16 l=true) (h:CorFin l w e w'):CorOut l w e w':=by
 obtain⟨rfl,hB⟩:=h
 refine⟨?_,hB⟩
 unfold corA corP corErr
 rw[if_pos ⟨h1,h2⟩,if_pos ⟨h1,h2⟩,if_pos h1,h2]
 rfl
theorem cor_out_len {l:List Int} {w w':World} {e:Ending} (h1:l.length≠120) (h:CorBad w 1 e w'):CorOut l w e w':=by
 obtain⟨rfl,hB⟩:=h
 refine⟨?_,hB⟩
 unfold corA corP corErr
 rw[if_neg (fun h=>h1 h.1),if_neg (fun h=>h1 h.1),if_neg h1]
theorem cor_out_not {l:List Int} {w w':World} {e:Ending} (h1:l.length=120) (h2:all16 l=false) (h:CorBad w 2 e w'):CorOut l w e w':=by
 obtain⟨rfl,hB⟩:=h
 refine⟨?_,hB⟩
 unfold corA corP corErr
 rw[if_neg (fun h=>by rw[h2] at h;exact absurd h.2 (by decide)),if_neg (fun h=>by rw[h2] at h;exact absurd h.2 (by decide)),if_pos h1,h2]
 rfl
theorem correlate_any (A:Option Addr) (c n:Nat) (l:List Int) (w:World) (hr:Rs w w.heap.size A l) (hn:l.length=n):Calls Tryd.prog 25 #[.slice A n c] w (CorOut l w):=by
 by_cases h1:n=120
 ·subst h1
  by_cases h2:all16 l=true
  ·exact(correlate_good A c 120 l w hr hn h2).mono fun e w' h=>cor_out_good hn h2 (cor_fin (all16_at h2) h)
  ·exact(correlate_not A c l w hr hn (by simpa using h2)).mono fun e w' h=>cor_out_not hn (by simpa using h2) h
 ·exact(correlate_len A c n w h1).mono fun e w' h=>cor_out_len (by rw[hn];exact h1) h
end Go.Proofs.YthoiikkjjaldnaaDoor
