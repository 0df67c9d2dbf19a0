/- Texts that the law rests on, laid together: BigMath, BigRd, BigWords, BigAdd, BigCmp, BigSmall, BigShift, BigMul. -/
import Derived.WalkKit
import Derived.Test.YthoiikkjjaldnaaDoorRows
import Derived.Laws.AppendOwnNone
import Derived.Deep.QuietTactic
import Derived.BigQuiet
import Derived.WalkLawsBesides
namespace Go.Proofs.YthoiikkjjaldnaaDoor
set_option linter.unusedVariables false
set_option linter.unusedSimpArgs false
set_option maxRecDepth 100000
def wv:List Nat->Nat
 |[]=>0
 |a::l=>a+4294967296*wv l
def wok (l:List Nat):Prop:= ∀x∈l,x<4294967296
def tight (l:List Nat):Prop:= ∀n,l.length=n+1->l.getD n 0≠0
theorem wok_nil:wok []:=fun _ h=>by cases h
theorem tight_nil:tight []:=fun n h=>by simp at h
theorem wok_cons {a:Nat} {l:List Nat}:wok (a::l)↔a<4294967296/\wok l:=by
 simp[wok]
theorem getD_elem (l:List Nat) (i:Nat) (h:i<l.length):l.getD i 0=l[i]:=by
 rw[List.getD_eq_getElem?_getD,List.getElem?_eq_getElem h];rfl
theorem wok_take {l:List Nat} (h:wok l) (n:Nat):wok (l.take n):=fun x hx=>h x (List.mem_of_mem_take hx)
theorem wv_append (a b:List Nat):wv (a++b)=wv a+4294967296^a.length*wv b:=by
 induction a with
 |nil=>simp[wv]
 |cons x l ih=>
  simp only[List.cons_append,wv,ih,List.length_cons,Nat.pow_succ]
  rw[Nat.mul_add,Nat.mul_comm (4294967296^l.length) 4294967296,Nat.mul_assoc,Nat.add_assoc]
theorem wv_lt {l:List Nat} (h:wok l):wv l<4294967296^l.length:=by
 induction l with
 |nil=>simp[wv]
 |cons x l ih=>
  rw[wok_cons] at h
  have:=ih h.2
  simp only[wv,List.length_cons,Nat.pow_succ]
  have h2:wv l+1<=4294967296^l.length:=this
  have:=Nat.mul_le_mul_right 4294967296 h2
  omega
theorem wv_snoc (l:List Nat) (x:Nat):wv (l++[x])=wv l+4294967296^l.length*x:=by
 rw[wv_append];simp[wv]
theorem take_succ_getD (l:List Nat) (k:Nat) (h:k<l.length):l.take (k+1)=l.take k++[l.getD k 0]:=by
 rw[List.take_succ_eq_append_getElem h,getD_elem _ _ h]
theorem wv_take_succ (l:List Nat) (k:Nat) (h:k<l.length):wv (l.take (k+1))=wv (l.take k)+4294967296^k*l.getD k 0:=by
 rw[take_succ_getD l k h,wv_snoc,List.length_take,Nat.min_eq_left (by omega)]
theorem wv_take_succ' (l:List Nat) (k:Nat):wv (l.take (k+1))=wv (l.take k)+4294967296^k*l.getD k 0:=by
 by_cases h:k<l.length
 ·exact wv_take_succ l k h
 ·rw[List.take_of_length_le (by omega),List.take_of_length_le (by omega),List.getD_eq_getElem?_getD,List.getElem?_eq_none (by omega)]
  simp
theorem take_set_succ (l:List Nat) (k x:Nat) (h:k<l.length):(l.set k x).take (k+1)=l.take k++[x]:=by
 rw[List.set_eq_take_append_cons_drop,if_pos h,List.take_append,List.take_of_length_le (by rw[List.length_take];omega),List.length_take,Nat.min_eq_left (by omega)]
 simp
theorem wok_set {l:List Nat} (h:wok l) (k:Nat) {x:Nat} (hx:x<4294967296):wok (l.set k x):=by
 intro y hy
 rcases List.mem_or_eq_of_mem_set hy with h1|h1
 ·exact h y h1
 ·omega
theorem drop_getD (l:List Nat) (k:Nat) (h:k<l.length):l.drop k=l.getD k 0::l.drop (k+1):=by
 rw[List.drop_eq_getElem_cons h,getD_elem _ _ h]
theorem wv_ge {l:List Nat} {n:Nat} (ht:tight l) (hl:l.length=n+1):4294967296^n<=wv l:=by
 have h1:l=l.take n++[l.getD n 0]:=by
  rw[<-take_succ_getD l n (by omega),List.take_of_length_le (by omega)]
 have h2:=ht n hl
 rw[h1,wv_snoc,List.length_take,Nat.min_eq_left (by omega)]
 have h3:1<=l.getD n 0:=by omega
 have:=Nat.mul_le_mul_left (4294967296^n) h3
 omega
theorem len_le_of_lt {l:List Nat} (ht:tight l) {n:Nat} (h:wv l<4294967296^n):l.length<=n:=by
 by_cases hc:l.length<=n
 ·exact hc
 ·exfalso
  obtain⟨m,hm⟩: ∃m,l.length=m+1:=⟨l.length-1,by omega⟩
  have h1:=wv_ge ht hm
  have h2:4294967296^n<=4294967296^m:=Nat.pow_le_pow_right (by decide) (by omega)
  omega
theorem wv_set {l:List Nat} {k:Nat} (h:k<l.length) (x:Nat):wv (l.set k x)+4294967296^k*l.getD k 0=wv l+4294967296^k*x:=by
 have e: ∀y,wv (l.take k++y::l.drop (k+1))=wv (l.take k)+4294967296^k*y+4294967296^k*(4294967296*wv (l.drop (k+1))):=by
  intro y
  rw[wv_append,List.length_take,Nat.min_eq_left (by omega),wv,Nat.mul_add];omega
 rw[List.set_eq_take_append_cons_drop,if_pos h,e x]
 have h2:wv l=wv (l.take k++l.getD k 0::l.drop (k+1)):=by rw[<-drop_getD l k h,List.take_append_drop]
 rw[h2,e];omega
end Go.Proofs.YthoiikkjjaldnaaDoor
namespace Go.Proofs.YthoiikkjjaldnaaDoor
set_option linter.unusedVariables false
set_option linter.unusedSimpArgs false
set_option maxRecDepth 100000
open Go.RowKit
theorem hid {p:Prop} (h:p):Hid p:=h
def W32 (ws:List Nat):List Value:=ws.map (fun(n:Nat)=>Value.int .u32 (n:Int))
structure Rd (w:World) (ao:Option Addr) (n cap:Nat) (ws:List Nat):Prop where
 len:ws.length=n
 room:n<=cap
 big:cap<=maxLen
 ok:wok ws
 at_:ao=none->n=0/\cap=0
 cells: ∀a,ao=some a->a.spot=none/\∃cur fz,w.heap[a.block]?=some (.cells cur 176 fz)/\∀i,i<n->cur[a.off+i]?=some (.int .u32 (ws.getD i 0:Nat))
theorem Rd.lim {w:World} {ao:Option Addr} {n cap:Nat} {ws:List Nat} (h:Rd w ao n cap ws):n<=9223372036854775807/\cap<=9223372036854775807:=by
 have h1:=h.room
 have h2:=h.big
 unfold maxLen at h2
 omega
theorem Rd.nil (w:World):Rd w none 0 0 []:=⟨rfl,Nat.le_refl _,by unfold maxLen;omega,wok_nil,fun _=>⟨rfl,rfl⟩,fun a h=>by cases h⟩
theorem Rd.addr {w:World} {ao:Option Addr} {n cap:Nat} {ws:List Nat} (h:Rd w ao n cap ws) (hn:0<n):
 ∃g off,ao=some ⟨g,off,none⟩:=by
 cases ao with
 |none=>have:=h.at_ rfl;omega
 |some a=>
  obtain⟨b,o,s⟩:=a
  have:=(h.cells _ rfl).1
  simp only at this
  subst this
  exact⟨b,o,rfl⟩
theorem Rd.cell {w:World} {g off n cap:Nat} {ws:List Nat} (h:Rd w (some ⟨g,off,none⟩) n cap ws) (i:Nat) (hi:i<n):
 w.cell? ⟨g,off+i,none⟩=some (.int .u32 (ws.getD i 0:Nat)):=by
 obtain⟨_,cur,fz,hh,hc⟩:=h.cells _ rfl
 have:=hc i hi
 simp only[World.cell?,hh,this]
 rfl
theorem Rd.lt {w:World} {ao:Option Addr} {n cap:Nat} {ws:List Nat} (h:Rd w ao n cap ws): ∀a,ao=some a->a.block<w.heap.size:=by
 intro a ha
 obtain⟨_,cur,fz,hh,_⟩:=h.cells a ha
 by_cases hc:a.block<w.heap.size
 ·exact hc
 ·rw[Array.getElem?_eq_none (by omega)] at hh;cases hh
theorem Rd.of_block {w w':World} {ao:Option Addr} {n cap:Nat} {ws:List Nat} (h:Rd w ao n cap ws)
 (hk: ∀a,ao=some a->w'.heap[a.block]?=w.heap[a.block]?):Rd w' ao n cap ws:=
 ⟨h.len,h.room,h.big,h.ok,h.at_,fun a ha=>by
   obtain⟨h1,cur,fz,hh,hc⟩:=h.cells a ha
   exact⟨h1,cur,fz,by rw[hk a ha];exact hh,hc⟩⟩
theorem Rd.below {w w':World} {ao:Option Addr} {n cap:Nat} {ws:List Nat} (h:Rd w ao n cap ws) {B:Nat} (hb:Below B w w')
 (hB:w.heap.size<=B):Rd w' ao n cap ws:=
 h.of_block fun a ha=>hb.block _ (by have:=h.lt a ha;omega)
theorem Rd.take {w:World} {ao:Option Addr} {n cap:Nat} {ws:List Nat} (h:Rd w ao n cap ws) (k:Nat) (hk:k<=n):Rd w ao k cap (ws.take k):=
 ⟨by rw[List.length_take,h.len];omega,by have:=h.room;omega,h.big,wok_take h.ok k,fun ha=>by have:=h.at_ ha;omega,
  fun a ha=>by
   obtain⟨h1,cur,fz,hh,hc⟩:=h.cells a ha
   refine⟨h1,cur,fz,hh,fun i hi=>?_⟩
   rw[hc i (by omega)]
   have:(ws.take k).getD i 0=ws.getD i 0:=by
    rw[List.getD_eq_getElem?_getD,List.getElem?_take,if_pos hi,<-List.getD_eq_getElem?_getD]
   rw[this]⟩
theorem Rd.owned {w:World} {base:Nat} {v:Value} {n:Nat} {ws:List Nat} (h:w.ownsRow base 176 1 v n (W32 ws)) (ok:wok ws):
 ∃ao cap,v= .slice ao n cap/\Rd w ao n cap ws/\(∀a,ao=some a->base<=a.block/\a.off=0/\w.frozen? a=false):=by
 obtain⟨hl,h2⟩:=h
 have hl':ws.length=n:=by simpa[W32] using hl
 rcases h2 with⟨rfl,rfl⟩|⟨g,cap,cur,rfl,hg,hh,hnc,hcm,hcs,htake⟩
 ·obtain rfl:ws=[]:=List.length_eq_zero_iff.1 hl'
  exact⟨none,0,rfl,Rd.nil w,fun a ha=>by cases ha⟩
 ·refine⟨some ⟨g,0,none⟩,cap,rfl,⟨hl',hnc,hcm,ok,(fun ha=>by cases ha),fun a ha=>?_⟩,fun a ha=>?_⟩
  ·obtain rfl:=Option.some.inj ha
   refine⟨rfl,cur,(0,0),hh,fun i hi=>?_⟩
   have h3:(W32 ws)[i]?=some (.int .u32 (ws.getD i 0:Nat)):=by
    simp only[W32,List.getElem?_map]
    rw[List.getElem?_eq_getElem (by omega),getD_elem _ _ (by omega)];rfl
   rw[<-htake,List.getElem?_take,if_pos (by omega)] at h3
   simpa using h3
  ·obtain rfl:=Option.some.inj ha
   exact⟨hg,rfl,by simp[World.frozen?,hh]⟩
def Nm (w:World) (v:Value) (n:Nat):Prop:= ∃ao len cap ws,v= .slice ao len cap/\Rd w ao len cap ws/\tight ws/\wv ws=n
theorem Nm.below {w w':World} {v:Value} {n:Nat} (h:Nm w v n) {B:Nat} (hb:Below B w w') (hB:w.heap.size<=B):Nm w' v n:=by
 obtain⟨ao,len,cap,ws,rfl,hr,ht,hn⟩:=h
 exact⟨ao,len,cap,ws,rfl,hr.below hb hB,ht,hn⟩
theorem Nm.nil (w:World):Nm w (.slice none 0 0) 0:=⟨none,0,0,[],rfl,Rd.nil w,tight_nil,rfl⟩
end Go.Proofs.YthoiikkjjaldnaaDoor
namespace Go.Proofs.YthoiikkjjaldnaaDoor
set_option linter.unusedVariables false
set_option linter.unusedSimpArgs false
set_option maxRecDepth 100000
open Go.RowKit
end Go.Proofs.YthoiikkjjaldnaaDoor
namespace Go.Proofs.YthoiikkjjaldnaaDoor
set_option linter.unusedVariables false
set_option linter.unusedSimpArgs false
set_option maxRecDepth 100000
open Go.RowKit
theorem W32_set (rs:List Nat) (k x:Nat):(W32 rs).set k (.int .u32 (x:Nat))=W32 (rs.set k x):=by
 simp[W32,List.map_set]
structure AddInv (w wr:World) (an:Nat) (ua ub:List Nat) (k c:Nat) (rs:List Nat):Prop where
 len:rs.length=an+1
 ok:wok rs
 val:wv (rs.take k)+4294967296^k*c=wv (ua.take k)+wv (ub.take k)
 own:wr.ownsRow w.heap.size 176 1 (.slice (some ⟨w.heap.size,0,none⟩) (an+1) (an+1)) (an+1) (W32 rs)
 bel:Below w.heap.size w wr
theorem AddInv.step {w wr:World} {an:Nat} {ua ub:List Nat} {k c:Nat} {rs:List Nat} (h:AddInv w wr an ua ub k c rs) (hk:k<an)
 {x c' xa xb:Nat} (hx:x<4294967296) (hxa:ua.getD k 0=xa) (hxb:ub.getD k 0=xb) (hv:x+4294967296*c'=c+xa+xb):
 AddInv w (wr.setCell ⟨w.heap.size,k,none⟩ (.int .u32 (x:Nat))) an ua ub (k+1) c' (rs.set k x):=by
 have hl:=h.len
 refine⟨by simpa using h.len,wok_set h.ok k hx,?_,?_,h.bel.setCell (Nat.le_refl _) _⟩
 ·rw[take_set_succ _ _ _ (by omega),wv_snoc,List.length_take,Nat.min_eq_left (by omega),wv_take_succ',wv_take_succ',hxa,hxb,Nat.pow_succ]
  have h1:=h.val
  have h2:4294967296^k*(x+4294967296*c')=4294967296^k*(c+xa+xb):=by rw[hv]
  simp only[Nat.mul_add] at h2
  rw[Nat.mul_assoc]
  omega
 ·have:=(h.own.stored k (.int .u32 (x:Nat))).1
  rwa [W32_set] at this
theorem AddInv.fin {w wr:World} {an:Nat} {ua ub:List Nat} {c:Nat} {rs:List Nat} (h:AddInv w wr an ua ub an c rs) (hc:c<4294967296) (h1:ua.length=an) (h2:ub.length<=an):
 (wr.setCell ⟨w.heap.size,an,none⟩ (.int .u32 (c:Nat))).ownsRow w.heap.size 176 1 (.slice (some ⟨w.heap.size,0,none⟩) (an+1) (an+1)) (an+1) (W32 (rs.set an c))
 /\wok (rs.set an c)/\wv (rs.set an c)=wv ua+wv ub/\Below w.heap.size w (wr.setCell ⟨w.heap.size,an,none⟩ (.int .u32 (c:Nat))):=by
 refine⟨?_,wok_set h.ok an hc,?_,h.bel.setCell (Nat.le_refl _) _⟩
 ·have:=(h.own.stored an (.int .u32 (c:Nat))).1
  rwa [W32_set] at this
 ·have e:rs.set an c=(rs.set an c).take (an+1):=by rw[List.take_of_length_le];simp[h.len]
  have hv:=h.val
  rw[List.take_of_length_le (l:=ua) (by omega),List.take_of_length_le (l:=ub) (by omega)] at hv
  rw[e,take_set_succ _ _ _ (by rw[h.len];omega),wv_snoc,List.length_take,Nat.min_eq_left (by rw[h.len];omega)]
  exact hv
def Sm (n:Nat):Prop:=n<4294967296^60
theorem Nm.len {w:World} {v:Value} {n:Nat} (h:Nm w v n) (hs:Sm n): ∃ao len cap ws,v= .slice ao len cap/\Rd w ao len cap ws/\tight ws/\wv ws=n/\len<=60:=by
 obtain⟨ao,len,cap,ws,rfl,hr,ht,hn⟩:=h
 exact⟨ao,len,cap,ws,rfl,hr,ht,hn,by rw[<-hr.len];exact len_le_of_lt ht (by rw[hn];exact hs)⟩
end Go.Proofs.YthoiikkjjaldnaaDoor
namespace Go.Proofs.YthoiikkjjaldnaaDoor
set_option linter.unusedVariables false
set_option linter.unusedSimpArgs false
set_option maxRecDepth 100000
open Go.RowKit
end Go.Proofs.YthoiikkjjaldnaaDoor
namespace Go.Proofs.YthoiikkjjaldnaaDoor
set_option linter.unusedVariables false
set_option linter.unusedSimpArgs false
set_option maxRecDepth 100000
open Go.RowKit
def bitlen (n:Nat):Nat:=if n=0 then 0 else Nat.log2 n+1
theorem bitlen_lt (n:Nat):n<2^bitlen n:=by
 unfold bitlen
 split
 ·subst n;decide
 ·exact Nat.lt_log2_self
theorem bitlen_le_of_lt {n k:Nat} (h:n<2^k):bitlen n<=k:=by
 unfold bitlen
 split
 ·omega
 ·rename_i h0
  have:=(Nat.log2_lt h0).2 h
  omega
theorem bitlen_unique {n k:Nat} (h1:2^k<=n) (h2:n<2^(k+1)):bitlen n=k+1:=by
 have h0:n≠0:=by have:=Nat.two_pow_pos k;omega
 have h3:=bitlen_le_of_lt h2
 by_cases hc:bitlen n<=k
 ·have h4:=bitlen_lt n
  have:=Nat.pow_le_pow_right (show 0<2 by omega) hc
  omega
 ·omega
end Go.Proofs.YthoiikkjjaldnaaDoor
namespace Go.Proofs.YthoiikkjjaldnaaDoor
set_option linter.unusedVariables false
set_option linter.unusedSimpArgs false
set_option maxRecDepth 100000
open Go.RowKit
structure LeftInv (w wr:World) (q s m:Nat) (ua:List Nat) (k:Nat) (rs:List Nat):Prop where
 len:rs.length=m
 ok:wok rs
 val:wv rs=4294967296^q*(2^s*wv (ua.take k))
 top: ∀j,k+q<j->rs.getD j 0=0
 carry:rs.getD (k+q) 0<2^s
 own:wr.ownsRow w.heap.size 176 1 (.slice (some ⟨w.heap.size,0,none⟩) m m) m (W32 rs)
 bel:Below w.heap.size w wr
theorem getD_set (l:List Nat) (i j x:Nat) (h:i<l.length):(l.set i x).getD j 0=if i=j then x else l.getD j 0:=by
 rw[List.getD_eq_getElem?_getD,List.getElem?_set]
 by_cases hij:i=j
 ·subst hij;simp[h]
 ·rw[if_neg hij,if_neg hij,List.getD_eq_getElem?_getD]
theorem LeftInv.step {w wr:World} {q s m:Nat} {ua:List Nat} {k:Nat} {rs:List Nat} (h:LeftInv w wr q s m ua k rs) (hm:k+q+1<m) (hs:s<32)
 {xa c:Nat} (hx:xa<4294967296) (hxa:ua.getD k 0=xa) (hc:rs.getD (k+q) 0=c):
 LeftInv w ((wr.setCell ⟨w.heap.size,k+q,none⟩ (.int .u32 ((c+xa*2^s%4294967296:Nat):Int))).setCell ⟨w.heap.size,k+q+1,none⟩ (.int .u32 ((xa*2^s/4294967296:Nat):Int))) q s m ua (k+1)
  ((rs.set (k+q) (c+xa*2^s%4294967296)).set (k+q+1) (xa*2^s/4294967296)):=by
 have hl:=h.len
 have hcs:=h.carry
 rw[hc] at hcs
 obtain⟨t,ht⟩: ∃t,32=s+t:=⟨32-s,by omega⟩
 have hP:(4294967296:Nat)=2^s*2^t:=by rw[<-Nat.pow_add,<-ht]
 have hmod:xa*2^s%4294967296=2^s*(xa%2^t):=by
  rw[hP,Nat.mul_comm xa,Nat.mul_mod_mul_left]
 have hdiv:xa*2^s/4294967296<2^s:=by
  rw[Nat.div_lt_iff_lt_mul (by decide),Nat.mul_comm]
  exact Nat.mul_lt_mul_of_pos_left hx (Nat.two_pow_pos s)
 have hc1:c+xa*2^s%4294967296<4294967296:=by
  rw[hmod]
  have h1:xa%2^t<2^t:=Nat.mod_lt _ (Nat.two_pow_pos t)
  have h2:=Nat.mul_le_mul_left (2^s) (show xa%2^t+1<=2^t from h1)
  rw[Nat.mul_add,<-hP] at h2
  omega
 have hd1:xa*2^s/4294967296<4294967296:=by
  have:2^s<=2^32:=Nat.pow_le_pow_right (by decide) (by omega)
  omega
 refine⟨by simpa using hl,wok_set (wok_set h.ok _ hc1) _ hd1,?_,?_,?_,?_,(h.bel.setCell (Nat.le_refl _) _).setCell (Nat.le_refl _) _⟩
 ·have e1:=wv_set (l:=rs) (k:=k+q) (by omega) (c+xa*2^s%4294967296)
  have e2:=wv_set (l:=rs.set (k+q) (c+xa*2^s%4294967296)) (k:=k+q+1) (by simp;omega) (xa*2^s/4294967296)
  rw[getD_set _ _ _ _ (by omega),if_neg (by omega),h.top _ (by omega)] at e2
  rw[hc] at e1
  have e3:=h.val
  rw[wv_take_succ',hxa]
  have e4:4294967296^(k+q+1)*(xa*2^s/4294967296)+4294967296^(k+q)*(xa*2^s%4294967296)=4294967296^(k+q)*(xa*2^s):=by
   rw[Nat.pow_succ,Nat.mul_assoc,<-Nat.mul_add,Nat.div_add_mod]
  have e5:4294967296^q*(2^s*(wv (ua.take k)+4294967296^k*xa))=4294967296^q*(2^s*wv (ua.take k))+4294967296^(k+q)*(xa*2^s):=by
   rw[Nat.mul_add,Nat.mul_add,Nat.pow_add,Nat.mul_comm xa]
   congr 1
   rw[Nat.mul_left_comm (2^s),<-Nat.mul_assoc,Nat.mul_comm (4294967296^q)]
  rw[e5,<-e4,<-e3]
  rw[Nat.mul_add] at e1
  omega
 ·intro j hj
  rw[getD_set _ _ _ _ (by simp;omega),if_neg (by omega),getD_set _ _ _ _ (by omega),if_neg (by omega)]
  exact h.top j (by omega)
 ·rw[getD_set _ _ _ _ (by simp;omega),if_pos (by omega)]
  exact hdiv
 ·have h1:=(h.own.stored (k+q) (.int .u32 ((c+xa*2^s%4294967296:Nat):Int))).1
  rw[W32_set] at h1
  have h2:=(h1.stored (k+q+1) (.int .u32 ((xa*2^s/4294967296:Nat):Int))).1
  rwa [W32_set] at h2
structure RightInv (w wr:World) (m M:Nat) (k:Nat) (rs:List Nat):Prop where
 len:rs.length=m
 ok:wok rs
 val:wv (rs.take k)=M%4294967296^k
 own:wr.ownsRow w.heap.size 176 1 (.slice (some ⟨w.heap.size,0,none⟩) m m) m (W32 rs)
 bel:Below w.heap.size w wr
theorem RightInv.step {w wr:World} {m M k:Nat} {rs:List Nat} (h:RightInv w wr m M k rs) (hk:k<m) {x:Nat} (hx:x=M/4294967296^k%4294967296):
 RightInv w (wr.setCell ⟨w.heap.size,k,none⟩ (.int .u32 (x:Nat))) m M (k+1) (rs.set k x):=by
 have hl:=h.len
 have hlt:x<4294967296:=by rw[hx];exact Nat.mod_lt _ (by decide)
 refine⟨by simpa using h.len,wok_set h.ok k hlt,?_,?_,h.bel.setCell (Nat.le_refl _) _⟩
 ·rw[take_set_succ _ _ _ (by omega),wv_snoc,List.length_take,Nat.min_eq_left (by omega),h.val,hx,Nat.pow_succ,Nat.mod_mul]
 ·have:=(h.own.stored k (.int .u32 (x:Nat))).1
  rwa [W32_set] at this
end Go.Proofs.YthoiikkjjaldnaaDoor
namespace Go.Proofs.YthoiikkjjaldnaaDoor
set_option linter.unusedVariables false
set_option linter.unusedSimpArgs false
set_option maxRecDepth 100000
open Go.RowKit
structure MulInv (w wr:World) (m:Nat) (V:Nat) (t:Nat) (rs:List Nat):Prop where
 len:rs.length=m
 ok:wok rs
 val:wv rs=V
 top: ∀j,t<=j->rs.getD j 0=0
 own:wr.ownsRow w.heap.size 176 1 (.slice (some ⟨w.heap.size,0,none⟩) m m) m (W32 rs)
 bel:Below w.heap.size w wr
theorem MulInv.drewN {w wr:World} {m V t:Nat} {rs:List Nat} (h:MulInv w wr m V t rs) (n:Nat):MulInv w (wr.drewN n) m V t rs:=
 ⟨h.len,h.ok,h.val,h.top,h.own,h.bel.trans ⟨rfl,rfl,rfl,Nat.le_refl _,fun _ _=>rfl⟩⟩
theorem MulInv.step {w wr:World} {m V t:Nat} {rs:List Nat} (h:MulInv w wr m V t rs) {p x r V':Nat} (hp:p<m) (hx:x<4294967296) (hr:rs.getD p 0=r)
 (hV:V'+4294967296^p*r=V+4294967296^p*x) (t':Nat) (ht:t<=t') (hpt:p<t'):
 MulInv w (wr.setCell ⟨w.heap.size,p,none⟩ (.int .u32 (x:Nat))) m V' t' (rs.set p x):=by
 have hl:=h.len
 refine⟨by simpa using hl,wok_set h.ok _ hx,?_,fun j hj=>?_,?_,h.bel.setCell (Nat.le_refl _) _⟩
 ·have e1:=wv_set (l:=rs) (k:=p) (by omega) x
  rw[hr,h.val] at e1
  omega
 ·rw[getD_set _ _ _ _ (by omega),if_neg (by omega)]
  exact h.top j (by omega)
 ·have:=(h.own.stored p (.int .u32 (x:Nat))).1
  rwa [W32_set] at this
end Go.Proofs.YthoiikkjjaldnaaDoor
