/- Texts that the law rests on, laid together: CoM, DeM, CoP. -/
import Derived.Test.YthoiikkjjaldnaaDoorZ26e44a
import Derived.Test.YthoiikkjjaldnaaDoorZ4b8d9d
import Derived.Test.YthoiikkjjaldnaaDoorZ111339
import Derived.Test.YthoiikkjjaldnaaDoorZa2d71e
import Derived.Test.YthoiikkjjaldnaaDoorZ306d7b
import Derived.Test.YthoiikkjjaldnaaDoorZ718584
set_option maxHeartbeats 4000000
namespace Go.Proofs.YthoiikkjjaldnaaDoor
set_option linter.unusedVariables false
set_option linter.unusedSimpArgs false
set_option maxRecDepth 100000
open Go.RowKit
def eraA (m:Mm):List Int:=exL (dirL m.r) 32440
def playY (a p x:List Int):List Int:=if goodF a p x then makeN a p x x.length else[]
def playP (a p x:List Int):List Int:=if goodF a p x then newL p (makeN a p x x.length) else Z8
def stM (a:List Int) (m:Mm) (s:Int):Mm:={eraR m s with p:=playP a (eraR m s).p (eraY m s)}
def stY (a:List Int) (m:Mm) (s:Int):List Int:=playY a (eraR m s).p (eraY m s)
def coM (m:Mm):Mm:=if goodM m then stM (eraA m) (stM (eraA m) m 0) 1 else zeroM
def coY (m:Mm):List Int:=if goodM m then stY (eraA m) m 0++stY (eraA m) (stM (eraA m) m 0) 1 else[]
theorem playP_len {a p x:List Int} (hp:p.length=8):(playP a p x).length=8:=by
 unfold playP
 split
 ·exact newL_len _ _ hp
 ·rfl
theorem playY_len (a p x:List Int):(playY a p x).length<=x.length:=by
 unfold playY
 split
 ·rw[makeN_len];exact Nat.le_refl _
 ·simp
theorem stM_ok {m:Mm} (k:m.ok) (a:List Int) (s:Int):(stM a m s).ok:=⟨(eraR_ok k s).r,playP_len (eraR_ok k s).p,(eraR_ok k s).e⟩
theorem stY_len (a:List Int) (m:Mm) (s:Int):(stY a m s).length<=40:=Nat.le_trans (playY_len _ _ _) (eraY_len m s)
theorem coM_ok {m:Mm} (k:m.ok):(coM m).ok:=by
 unfold coM
 split
 ·exact stM_ok (stM_ok k _ _) _ _
 ·exact zeroM_ok
theorem keepL_in {h x:List Int} (hh:all16 h=true):all16 (keepL h x)=true:=by
 unfold all16 keepL at*
 rw[List.all_eq_true] at hh|-
 intro y hy
 rcases List.mem_append.1 hy with h1|h1
 ·exact hh y (List.mem_of_mem_drop h1)
 ·obtain⟨z,_,rfl⟩:=List.mem_map.1 h1
  have:=s16_range z
  exact ok16_yes this.1 this.2
end Go.Proofs.YthoiikkjjaldnaaDoor
namespace Go.Proofs.YthoiikkjjaldnaaDoor
set_option linter.unusedVariables false
set_option linter.unusedSimpArgs false
set_option maxRecDepth 100000
open Go.RowKit
structure UOk (u:List Int):Prop where
 l:u.length=8
 a:0<=u.getD 0 0/\u.getD 0 0<=59
 g:0<=u.getD 1 0/\u.getD 1 0<=7
 i: ∀j,2<=j->j<6->0<=u.getD j 0/\u.getD j 0<=9
 s:0<=u.getD 6 0/\u.getD 6 0<=15
 v:0<=u.getD 7 0/\u.getD 7 0<=31
def uI (u:List Int):List Int:=(u.drop 2).take 4
theorem uI_len {u:List Int} (h:u.length=8):(uI u).length=4:=by unfold uI;rw[List.length_take,List.length_drop];omega
theorem uI_get (u:List Int) {j:Nat} (h:j<4):(uI u).getD j 0=u.getD (2+j) 0:=by
 unfold uI
 rw[List.getD_eq_getElem?_getD,List.getElem?_take,if_pos h,List.getElem?_drop,<-List.getD_eq_getElem?_getD]
def spC (u:List Int):List Int:=blL (uI u) (u.getD 6 0) (glV (u.getD 7 0))
def spX (m:Mm) (u:List Int):List Int:=mxL m.e (spC u) (20+u.getD 0 0) (gainV (u.getD 1 0)) 40
def spM (m:Mm) (u:List Int):Mm:={m with e:=keepL m.e (spX m u),la:=20+u.getD 0 0,pi:=gainV (u.getD 1 0),ga:=glV (u.getD 7 0)}
theorem gainV_range (n:Int):0<=gainV n/\gainV n<=18022:=by
 unfold gainV
 split
 ·next h=>
  have h2:0<=n/\n<=7:=by unfold gainB at h;simpa using h
  obtain⟨k,rfl⟩:=Int.eq_ofNat_of_zero_le h2.1
  have hk:k<8:=by omega
  rw[Int.toNat_natCast]
  have: ∀k,k<8->0<=gainsL.getD k 0/\gainsL.getD k 0<=18022:=by decide
  exact this k hk
 ·omega
theorem UOk.bl {u:List Int} (h:UOk u):blB (uI u) (u.getD 6 0) (glV (u.getD 7 0))=true:=by
 have h1:=glV_range (u.getD 7 0)
 have h2:=h.s
 unfold blB blS
 rw[Bool.and_eq_true]
 refine⟨decide_eq_true ⟨⟨h2.1,h2.2⟩,h1.1,h1.2⟩,?_⟩
 have h3:allTo okI (uI u) 4:=fun j hj=>by
  rw[uI_get u hj]
  have:=h.i (2+j) (by omega) (by omega)
  exact okI_yes this.1 this.2
 exact h3.all (by rw[uI_len h.l];exact Nat.le_refl _)
theorem spC_len {u:List Int} (h:UOk u):(spC u).length=40:=by unfold spC blL;rw[h.bl];simp
theorem sp_mx {u:List Int} (h:UOk u):mxB (20+u.getD 0 0) (gainV (u.getD 1 0))=true:=by
 have h1:=gainV_range (u.getD 1 0)
 have h2:=h.a
 unfold mxB
 rw[pastB_yes (by omega) (by omega),Bool.true_and]
 exact decide_eq_true ⟨h1.1,by omega⟩
theorem spX_len {u:List Int} (h:UOk u) (m:Mm):(spX m u).length=40:=by unfold spX;rw[(mx_good (sp_mx h)).1];simp
theorem spX_in (m:Mm) (u:List Int):all16 (spX m u)=true:=mxL_in _ _ _ _ _
theorem spM_ok {m:Mm} {u:List Int} (k:m.ok) (h:UOk u):(spM m u).ok:=⟨k.r,k.p,keepL_len k.e (spX_len h m)⟩
theorem spM_good {m:Mm} {u:List Int} (g:goodM m=true) (h:UOk u):goodM (spM m u)=true:=by
 obtain⟨h1,h2,h3,t1,t2,t3,t4,t5⟩:=goodM_of g
 have a1:=h.a
 exact goodM_yes h1 h2 (keepL_in h3) ⟨⟨by show 20<=20+u.getD 0 0;omega,by show 20+u.getD 0 0<=79;omega⟩,t2,glV_range _,gainV_range _,t5⟩
theorem silM_good {m:Mm} (g:goodM m=true):goodM (silM m)=true:=by
 obtain⟨h1,h2,h3,t1,t2,t3,t4,t5⟩:=goodM_of g
 refine goodM_yes h1 h2 (keepL_in h3) ⟨t1,?_,t3,t4,t5⟩
 show 0<=nzE m.se 40/\nzE m.se 40<65536
 have:=nzS_range (nzE m.se 39)
 rw[show(40:Nat)=39+1 from rfl,nzE_succ]
 omega
def goodA (a:List Int):Prop:=okP a=true/\a.getD 0 0=4096
theorem dirL_goodA {k:List Int} (h:steadyB k=true):goodA (dirL k):=by
 have e:dirL k=(List.range 9).map (fun i=>((dirN k 8).getD i 0+2048)/4096):=by unfold dirL;rw[h];rfl
 constructor
 ·unfold okP
  rw[List.all_eq_true,e]
  intro x hx
  obtain⟨i,_,rfl⟩:=List.mem_map.1 hx
  have:=dirN_bd (steadyB_at h) (m:=8) (Nat.le_refl _) i
  exact okP1_yes (by omega) (by omega)
 ·rw[e,map_range_get (fun i=>((dirN k 8).getD i 0+2048)/4096) (by omega)]
  rw[show(8:Nat)=7+1 from rfl,dirN_head,show(7:Nat)=6+1 from rfl,dirN_head,show(6:Nat)=5+1 from rfl,dirN_head,show(5:Nat)=4+1 from rfl,dirN_head,show(4:Nat)=3+1 from rfl,dirN_head,
   show(3:Nat)=2+1 from rfl,dirN_head,show(2:Nat)=1+1 from rfl,dirN_head,show(1:Nat)=0+1 from rfl,dirN_head,dirN_zero]
  rfl
theorem goodA_F {a p x:List Int} (h:goodA a) (hp:all16 p=true) (hx:all16 x=true):goodF a p x=true:=by
 unfold goodF
 rw[h.1,h.2,hp,hx];rfl
theorem play_yes {a p x:List Int} (h:goodA a) (hp:all16 p=true) (hx:all16 x=true) (hl:x.length=40):playP a p x=newL p (makeN a p x 40)/\playY a p x=makeN a p x 40:=by
 unfold playP playY
 rw[if_pos (goodA_F h hp hx),if_pos (goodA_F h hp hx),hl]
 exact⟨rfl,rfl⟩
theorem goodM_play {m:Mm} (g:goodM m=true) (a x:List Int) (n:Nat):goodM {m with p:=newL m.p (makeN a m.p x n)}=true:=by
 obtain⟨h1,h2,h3,t⟩:=goodM_of g
 exact goodM_yes h1 (newL_all _ _ h2 (makeN_all _ _ _ _)) h3 t
def refL (ps:List Int):List Int:=(ps.drop 1).take 8
def subL (ps:List Int) (s:Nat):List Int:=(ps.drop (9+8*s)).take 8
theorem refL_get (ps:List Int) {j:Nat} (h:j<8):(refL ps).getD j 0=ps.getD (1+j) 0:=by
 unfold refL
 rw[List.getD_eq_getElem?_getD,List.getElem?_take,if_pos h,List.getElem?_drop,<-List.getD_eq_getElem?_getD]
theorem subL_get (ps:List Int) {s j:Nat} (h:j<8):(subL ps s).getD j 0=ps.getD (9+8*s+j) 0:=by
 unfold subL
 rw[List.getD_eq_getElem?_getD,List.getElem?_take,if_pos h,List.getElem?_drop,<-List.getD_eq_getElem?_getD]
theorem refL_len {ps:List Int} (h:ps.length=25):(refL ps).length=8:=by unfold refL;rw[List.length_take,List.length_drop];omega
theorem subL_len {ps:List Int} (h:ps.length=25) {s:Nat} (hs:s<2):(subL ps s).length=8:=by unfold subL;rw[List.length_take,List.length_drop];omega
theorem subL_ok {ps:List Int} (h:pkTo ps 25=true) (hl:ps.length=25) {s:Nat} (hs:s<2):UOk (subL ps s):=by
 have k: ∀j,j<8->0<=(subL ps s).getD j 0/\(subL ps s).getD j 0<=pkT.getD (9+8*s+j) 0:=fun j hj=>by
  rw[subL_get ps hj]
  exact pkTo_at h (by omega)
 have t: ∀s,s<2->pkT.getD (9+8*s+0) 0=59/\pkT.getD (9+8*s+1) 0=7/\pkT.getD (9+8*s+6) 0=15/\pkT.getD (9+8*s+7) 0=31/\∀j,2<=j->j<6->pkT.getD (9+8*s+j) 0=9:=by
  intro s hs
  have:s=0\/s=1:=by omega
  rcases this with rfl|rfl
  ·refine⟨rfl,rfl,rfl,rfl,fun j h1 h2=>?_⟩
   have:j=2\/j=3\/j=4\/j=5:=by omega
   rcases this with rfl|rfl|rfl|rfl<;>rfl
  ·refine⟨rfl,rfl,rfl,rfl,fun j h1 h2=>?_⟩
   have:j=2\/j=3\/j=4\/j=5:=by omega
   rcases this with rfl|rfl|rfl|rfl<;>rfl
 obtain⟨t0,t1,t6,t7,t2⟩:=t s hs
 have k0:=k 0 (by omega)
 have k1:=k 1 (by omega)
 have k6:=k 6 (by omega)
 have k7:=k 7 (by omega)
 rw[t0] at k0
 rw[t1] at k1
 rw[t6] at k6
 rw[t7] at k7
 exact⟨subL_len hl hs,k0,k1,fun j h1 h2=>by have:=k j (by omega);rw[t2 j h1 h2] at this;exact this,k6,k7⟩
theorem lv_in: ∀i,i<8->∀n,n<64-> -31000<=lvV (i:Nat) (n:Nat)/\lvV (i:Nat) (n:Nat)<=31000:=by decide+kernel
theorem lv_ok: ∀i,i<8->∀n,n<64->((n:Nat):Int)<=pkT.getD (1+i) 0->lvErr (i:Nat) (n:Nat)=0:=by decide+kernel
theorem pkT_ref: ∀i,i<8->pkT.getD (1+i) 0<=63:=by decide
def frNow (ps:List Int):List Int:=(List.range 8).map (aF lvV (refL ps))
theorem frNow_len (ps:List Int):(frNow ps).length=8:=by simp[frNow]
theorem refL_nat {ps:List Int} (h:pkTo ps 25=true) {i:Nat} (hi:i<8): ∃n:Nat,n<64/\(refL ps).getD i 0=n/\((n:Nat):Int)<=pkT.getD (1+i) 0:=by
 have h1:pkOk ps (1+i):=pkTo_at h (by omega)
 have h2:=pkT_ref i hi
 obtain⟨n,hn⟩:=Int.eq_ofNat_of_zero_le h1.1
 have h3:=h1.2
 rw[hn] at h3
 exact⟨n,by omega,by rw[refL_get ps hi,hn],h3⟩
theorem frNow_err {ps:List Int} (h:pkTo ps 25=true): ∀n,n<=8->aE lvErr (refL ps) n=0
 |0,_=>rfl
 |n+1,hn=>by
  rw[aE,if_pos (frNow_err h n (by omega))]
  obtain⟨v,hv,e,hle⟩:=refL_nat h (i:=n) (by omega)
  rw[e]
  exact lv_ok n (by omega) v hv hle
theorem frNow_eq {ps:List Int} (h:pkTo ps 25=true):aL lvV lvErr (refL ps)=frNow ps:=by
 unfold aL
 rw[if_pos (frNow_err h 8 (Nat.le_refl _))];rfl
theorem frNow_okK {ps:List Int} (h:pkTo ps 25=true):(frNow ps).all okK=true:=by
 unfold frNow
 rw[List.all_eq_true]
 intro x hx
 obtain⟨i,hi,rfl⟩:=List.mem_map.1 hx
 have hi8:i<8:=by simpa using hi
 obtain⟨v,hv,e,_⟩:=refL_nat h hi8
 unfold aF
 rw[e]
 have:=lv_in i hi8 v hv
 exact okK_yes this.1 this.2
theorem okK_steady {k:List Int} (h:k.all okK=true):steadyB k=true:=by
 unfold steadyB
 rw[List.all_eq_true] at h|-
 intro x hx
 have:=h x hx
 unfold okK at this
 have h2: -31000<=x/\x<=31000:=by simpa using this
 exact okR_yes (by omega) (by omega)
def frA (was now:List Int) (s:Nat):List Int:=dirL (mixL was now ((2+2*s:Nat):Int))
theorem tdiv4 {x:Int} {K:Int} (h1: -(4*K)<=x) (h2:x<=4*K): -K<=x.tdiv 4/\x.tdiv 4<=K:=by
 by_cases h:0<=x
 ·rw[Int.tdiv_eq_ediv_of_nonneg h];omega
 ·have e:x.tdiv 4= -((-x)/4):=by
   rw[<-Int.tdiv_eq_ediv_of_nonneg (show 0<= -x by omega),Int.neg_tdiv,Int.neg_neg]
  rw[e];omega
theorem mixL_steady {a b:List Int} (ha:steadyB a=true) (hb:steadyB b=true) {n:Int} (h0:0<=n) (h4:n<=4):steadyB (mixL a b n)=true:=by
 have e:mixL a b n=(List.range 8).map (mixE a b n):=by unfold mixL mixB;rw[ha,hb];rw[if_pos (by simp;omega)]
 rw[e]
 unfold steadyB
 rw[List.all_eq_true]
 intro x hx
 obtain⟨i,_,rfl⟩:=List.mem_map.1 hx
 have h1:=steadyB_at ha i
 have h2:=steadyB_at hb i
 unfold mixE
 have:n=0\/n=1\/n=2\/n=3\/n=4:=by omega
 have hb: -(4*32767)<=a.getD i 0*(4-n)+b.getD i 0*n/\a.getD i 0*(4-n)+b.getD i 0*n<=4*32767:=by
  rcases this with rfl|rfl|rfl|rfl|rfl<;>omega
 have:=tdiv4 hb.1 hb.2
 exact okR_yes (by omega) (by omega)
theorem frA_good {a b:List Int} (ha:steadyB a=true) (hb:steadyB b=true) {s:Nat} (hs:s<2):goodA (frA a b s):=dirL_goodA (mixL_steady ha hb (by omega) (by omega))
theorem frA_len (a b:List Int) (s:Nat):(frA a b s).length=9:=dirL_len _
def frX (q:Bool) (m:Mm) (u:List Int):List Int:=if q then nzL m.se 8 40 else spX m u
def frN (q:Bool) (m:Mm) (u:List Int):Mm:=if q then silM m else spM m u
def frP (q:Bool) (a:List Int) (m:Mm) (u:List Int):Mm:={frN q m u with p:=newL m.p (makeN a m.p (frX q m u) 40)}
def frY (q:Bool) (a:List Int) (m:Mm) (u:List Int):List Int:=makeN a m.p (frX q m u) 40
theorem frN_p (q:Bool) (m:Mm) (u:List Int):(frN q m u).p=m.p:=by unfold frN;split<;>rfl
theorem frN_r (q:Bool) (m:Mm) (u:List Int):(frN q m u).r=m.r:=by unfold frN;split<;>rfl
theorem frN_si (q:Bool) (m:Mm) (u:List Int):(frN q m u).si=m.si:=by unfold frN;split<;>rfl
theorem frX_len (q:Bool) (m:Mm) {u:List Int} (h:UOk u):(frX q m u).length=40:=by
 unfold frX
 split
 ·exact nzL_len _ _ _
 ·exact spX_len h m
theorem frX_in (q:Bool) (m:Mm) (u:List Int):all16 (frX q m u)=true:=by
 unfold frX
 split
 ·exact nzL_in _ _ _
 ·exact spX_in m u
theorem frN_ok (q:Bool) {m:Mm} {u:List Int} (k:m.ok) (h:UOk u):(frN q m u).ok:=by
 unfold frN
 split
 ·exact silM_ok k
 ·exact spM_ok k h
theorem frN_good (q:Bool) {m:Mm} {u:List Int} (g:goodM m=true) (h:UOk u):goodM (frN q m u)=true:=by
 unfold frN
 split
 ·exact silM_good g
 ·exact spM_good g h
theorem Mm.ok.pp {m:Mm} (k:m.ok) {p:List Int} (hp:p.length=8):({m with p:=p}:Mm).ok:=⟨k.r,hp,k.e⟩
theorem frP_ok (q:Bool) (a:List Int) {m:Mm} {u:List Int} (k:m.ok) (h:UOk u):(frP q a m u).ok:=by
 unfold frP
 exact(frN_ok q k h).pp (newL_len _ _ k.p)
theorem frP_r (q:Bool) (a:List Int) (m:Mm) (u:List Int):(frP q a m u).r=m.r:=by unfold frP;exact frN_r q m u
theorem frP_si (q:Bool) (a:List Int) (m:Mm) (u:List Int):(frP q a m u).si=m.si:=by unfold frP;exact frN_si q m u
theorem frP_good (q:Bool) (a:List Int) {m:Mm} {u:List Int} (g:goodM m=true) (h:UOk u):goodM (frP q a m u)=true:=by
 have h1:=goodM_play (frN_good q g h) a (frX q m u) 40
 rw[frN_p] at h1
 unfold frP
 exact h1
theorem frY_len (q:Bool) (a:List Int) (m:Mm) (u:List Int):(frY q a m u).length=40:=makeN_len _ _ _ _
theorem frP_play (q:Bool) {a:List Int} {m:Mm} {u:List Int} (g:goodM m=true) (h:UOk u) (ha:goodA a):
 ({frN q m u with p:=playP a (frN q m u).p (frX q m u)}:Mm)=frP q a m u/\playY a (frN q m u).p (frX q m u)=frY q a m u:=by
 obtain⟨_,h2,_⟩:=goodM_of g
 obtain⟨e1,e2⟩:=play_yes (p:=m.p) ha h2 (frX_in q m u) (frX_len q m h)
 rw[frN_p,e1,e2]
 exact⟨rfl,rfl⟩
theorem frP_voice {a:List Int} {m:Mm} {u:List Int} (g:goodM m=true) (h:UOk u) (ha:goodA a):
 ({spM m u with p:=playP a m.p (spX m u)}:Mm)=frP false a m u/\playY a m.p (spX m u)=frY false a m u:=by
 have h1:=frP_play false g h ha
 have e1:frN false m u=spM m u:=rfl
 have e2:frX false m u=spX m u:=rfl
 have e3:(spM m u).p=m.p:=rfl
 rw[e1,e2,e3] at h1
 exact h1
theorem frP_still {a:List Int} {m:Mm} {u:List Int} (g:goodM m=true) (h:UOk u) (ha:goodA a):
 silR m=frN true m u/\silY m=frX true m u/\({frN true m u with p:=playP a (frN true m u).p (frX true m u)}:Mm)=frP true a m u/\playY a (frN true m u).p (frX true m u)=frY true a m u:=by
 have h1:=frP_play true g h ha
 have e1:frN true m u=silM m:=rfl
 have e2:frX true m u=nzL m.se 8 40:=rfl
 have e3:silR m=silM m:=by unfold silR;rw[if_pos g]
 have e4:silY m=nzL m.se 8 40:=by unfold silY;rw[if_pos g]
 exact⟨by rw[e3,e1],by rw[e4,e2],h1⟩
def frK (q:Bool) (was now ps:List Int) (m:Mm):Nat->Mm
 |0=>m
 |s+1=>frP q (frA was now s) (frK q was now ps m s) (subL ps s)
def frZ (q:Bool) (was now ps:List Int) (m:Mm):Nat->List Int
 |0=>[]
 |s+1=>frZ q was now ps m s++frY q (frA was now s) (frK q was now ps m s) (subL ps s)
section
variable {q:Bool} {was now ps:List Int} {m:Mm}
theorem frK_ok (k:m.ok) (h:pkTo ps 25=true) (hl:ps.length=25): ∀n,n<=2->(frK q was now ps m n).ok
 |0,_=>k
 |n+1,hn=>frP_ok q _ (frK_ok k h hl n (by omega)) (subL_ok h hl (by omega))
theorem frK_good (g:goodM m=true) (h:pkTo ps 25=true) (hl:ps.length=25): ∀n,n<=2->goodM (frK q was now ps m n)=true
 |0,_=>g
 |n+1,hn=>frP_good q _ (frK_good g h hl n (by omega)) (subL_ok h hl (by omega))
theorem frK_si: ∀n,(frK q was now ps m n).si=m.si
 |0=>rfl
 |n+1=>by rw[frK,frP_si,frK_si n]
theorem frZ_len: ∀n,(frZ q was now ps m n).length=40*n
 |0=>rfl
 |n+1=>by rw[frZ,List.length_append,frZ_len n,frY_len];omega
end
def frQ (ps:List Int):Bool:=decide (ps.getD 0 0=2)
def fr0 (m:Mm) (ps:List Int):Mm:=if ps.getD 0 0=1 then freshM else m
def frE (m:Mm) (ps:List Int):Mm:=frK (frQ ps) (fr0 m ps).r (frNow ps) ps {fr0 m ps with si:=frQ ps} 2
def frM (m:Mm) (ps:List Int):Mm:={frE m ps with r:=frNow ps,er:=0}
def frO (m:Mm) (ps:List Int):List Int:=frZ (frQ ps) (fr0 m ps).r (frNow ps) ps {fr0 m ps with si:=frQ ps} 2
theorem fresh_good:goodM freshM=true:=by decide
theorem fr0_good {m:Mm} (g:goodM m=true) (ps:List Int):goodM (fr0 m ps)=true:=by
 unfold fr0
 split
 ·exact fresh_good
 ·exact g
theorem fr0_ok {m:Mm} (k:m.ok) (ps:List Int):(fr0 m ps).ok:=by
 unfold fr0
 split
 ·exact freshM_ok
 ·exact k
theorem good_si {m:Mm} (g:goodM m=true) (b:Bool):goodM {m with si:=b}=true:=g
theorem frE_ok {m:Mm} {ps:List Int} (k:m.ok) (h:pkTo ps 25=true) (hl:ps.length=25):(frE m ps).ok:=by
 unfold frE
 exact frK_ok (m:={fr0 m ps with si:=frQ ps}) ⟨(fr0_ok k ps).r,(fr0_ok k ps).p,(fr0_ok k ps).e⟩ h hl 2 (Nat.le_refl _)
theorem frM_ok {m:Mm} {ps:List Int} (k:m.ok) (h:pkTo ps 25=true) (hl:ps.length=25):(frM m ps).ok:=by
 have h1:=frE_ok k h hl
 unfold frM
 generalize frE m ps=z at*
 exact⟨frNow_len ps,h1.p,h1.e⟩
theorem frM_good {m:Mm} {ps:List Int} (g:goodM m=true) (h:pkTo ps 25=true) (hl:ps.length=25):goodM (frM m ps)=true:=by
 have h1:goodM (frE m ps)=true:=by unfold frE;exact frK_good (good_si (fr0_good g ps) _) h hl 2 (Nat.le_refl _)
 unfold frM
 generalize frE m ps=z at*
 obtain⟨_,h2,h3,t1,t2,t3,t4,t5⟩:=goodM_of h1
 exact goodM_yes (frNow_okK h) h2 h3 ⟨t1,t2,t3,t4,by show(0:Int)<=0;omega,by show(0:Int)<=6;omega⟩
theorem frO_len (m:Mm) (ps:List Int):(frO m ps).length=80:=by unfold frO;rw[frZ_len]
theorem fr0_steady {m:Mm} (g:goodM m=true) (ps:List Int):steadyB (fr0 m ps).r=true:=okK_steady (goodM_of (fr0_good g ps)).1
theorem frNow_steady {ps:List Int} (h:pkTo ps 25=true):steadyB (frNow ps)=true:=okK_steady (frNow_okK h)
def deE (m:Mm) (xs:List Int):Int:=if goodM m=true then unE xs else 2
def deM (m:Mm) (xs:List Int):Mm:=if deE m xs=0 then frM m (unL xs) else zeroM
def deY (m:Mm) (xs:List Int):List Int:=if deE m xs=0 then frO m (unL xs) else[]
theorem unE_to {xs:List Int} (h:unE xs=0):pkTo (unL xs) 25=true:=by
 have e:unL xs=uL (unV xs) 25:=by unfold unL;rw[if_pos h]
 rw[e]
 unfold unE at h
 by_cases h1:xs.length≠15
 ·rw[if_pos h1] at h;cases h
 rw[if_neg h1] at h
 by_cases h2:chk (xs.take 14)≠xs.getD 14 0
 ·rw[if_pos h2] at h;cases h
 rw[if_neg h2] at h
 by_cases h3:unV xs%32≠0
 ·rw[if_pos h3] at h;cases h
 rw[if_neg h3] at h
 by_cases h4:pkTo (uL (unV xs) 25) 25=false
 ·rw[if_pos h4] at h;cases h
 simpa using h4
theorem deM_ok {m:Mm} (k:m.ok) (xs:List Int):(deM m xs).ok:=by
 unfold deM
 split
 ·next h=>
  have h2:unE xs=0:=by
   unfold deE at h
   split at h
   ·exact h
   ·cases h
  exact frM_ok k (unE_to h2) (unL_len xs)
 ·exact zeroM_ok
end Go.Proofs.YthoiikkjjaldnaaDoor
namespace Go.Proofs.YthoiikkjjaldnaaDoor
set_option linter.unusedVariables false
set_option linter.unusedSimpArgs false
set_option maxRecDepth 100000
open Go.RowKit
section
variable {w w' wr:World} {g:Nat} {m:Mm}
theorem MB.thereP (h:MB w g m) (k:m.ok):w.there g 8 8:=fun j hj=>by
 have h1:=h.there k (8+j) (by omega)
 rwa [Nat.zero_add] at h1
theorem MB.set_p (h:MB w g m) (k:m.ok) (p:List Int) (hp:p.length=8):MB (w.setCells g 8 (ints p)) g {m with p:=p}:=by
 have h0:Blk w g 30 (ints m.r++(ints m.p++(ints m.e++m.tl))).toArray:=by
  have e1:m.ag=(ints m.r++(ints m.p++(ints m.e++m.tl))).toArray:=rfl
  rw[<-e1];exact h
 have h1:=blk_setCells (ints p) (ints m.p) _ _ w h0 (by rw[ints_len,ints_len,hp,k.p])
 have hl:(ints m.r).length=8:=by rw[ints_len,k.r]
 rw[hl] at h1
 exact h1
theorem results_mem2 {fn:Func} {p q:Tmp} (h:fn.results= #[.cell p 30,.tmp q]) (tmps:Array Value) (w:World) (g:Nat) (m:Mm)
 (hp:tmps.getD p undef= .pointer (some ⟨g,0,none⟩)) (hg:MB w g m) (k:m.ok):
 (results fn tmps).run Tryd.prog w= .ok (.tuple #[.agg m.ag,tmps.getD q undef]) w:=by
 have hp':tmps[p]?.getD undef= .pointer (some ⟨g,0,none⟩):=by simpa using hp
 have hr:=run_loadVar_row (P:=Tryd.prog) w g 30 30 m.ag (0,0) _ hg Tryd.underlying30 rfl (by rw[sizeM,m.size k])
 simp[results,h,hp',asAddr,hr]
theorem newzero (w:World):MB (w.alloc (.cells Tryd.zeroCells30 30)) w.heap.size zeroM:=by rw[zeroM_ag];exact MB.new w zeroM
theorem Ms.setA {mm:Mm} (s:Ms w wr m):Ms w (wr.setRow w.heap.size mm.ag) mm:=
 ⟨s.A.setRow mm,Blk.rowFar s.R (by omega),below_setRow s.bel (Nat.le_refl _) _⟩
end
structure Py (w wr:World) (m:Mm) (a:List Int):Prop where
 A:MB wr w.heap.size m
 F:IB wr (w.heap.size+1) 69 a
 R:MB wr (w.heap.size+2) zeroM
 bel:Below w.heap.size w wr
theorem Py.start (w:World) (m:Mm) (a:List Int):Py w (((w.alloc (.cells m.ag 30)).alloc (.cells (agi a) 69)).alloc (.cells Tryd.zeroCells30 30)) m a:=by
 have h1:=MB.new w m
 have h2:=IB.new (w.alloc (.cells m.ag 30)) 69 a
 have h3:=newzero ((w.alloc (.cells m.ag 30)).alloc (.cells (agi a) 69))
 simp only[World.size_alloc] at h2 h3
 exact⟨Blk.alloc (Blk.alloc h1 _) _,Blk.alloc h2 _,h3,((((Below.refl _ _).alloc (Nat.le_refl _) _).alloc (by simp) _).alloc (by simp;omega) _)⟩
theorem Py.below {w wr w':World} {m:Mm} {a:List Int} (s:Py w wr m a) (hb:Below wr.heap.size wr w'):Py w w' m a:=
 ⟨Blk.below' s.A hb,Blk.below' s.F hb,Blk.below' s.R hb,s.bel.trans (hb.mono s.bel.size)⟩
theorem Py.lt {w wr:World} {m:Mm} {a:List Int} (s:Py w wr m a):w.heap.size+3<=wr.heap.size:=Blk.lt s.R
def PlayA (w:World) (mm:Mm) (ys:List Int) (e:Ending) (w':World):Prop:= ∃A c,e= .returned (.tuple #[.agg mm.ag,.slice A ys.length c])/\Own w' w.heap.size A c ys/\Below w.heap.size w w'
theorem play_any (m:Mm) (k:m.ok) (a x:List Int) (A:Option Addr) (c n:Nat) (w:World) (ha:a.length=9) (hr:Rs w w.heap.size A x) (hn:x.length=n) (hl:n<=40):
 Calls Tryd.prog 39 #[.agg m.ag,.agg (agi a),.slice A n c] w (PlayA w {m with p:=playP a m.p x} (playY a m.p x)):=by
 have hR:=results_mem2 (fn:=Tryd.f39) (p:=6) (q:=7) rfl
 have S0:=hid (Py.start w m a)
 have K:=hid k
 have HA:=hid ha
 have QL:=hid (playP_len (a:=a) (x:=x) k.p)
 have HX:=hid ((hr.below S0.out.bel).more S0.out.bel.size)
 have KM:=hid (fun W (hr:Rs W W.heap.size A x)=>show Calls Tryd.prog 48 #[.agg (agi a),.agg (ints m.p).toArray,.slice A n c] W (NewSP W (playY a m.p x) (playP a m.p x) (errOf (goodF a m.p x))) from by
  have:=synthMake_any a m.p x A c n W ha k.p hr hn (by omega)
  unfold playY playP
  rw[hn]
  exact this)
 have hi8:(Tryd.prog.info? 27).map (·.size)=some (ints m.p).length:=by rw[ints_len,k.p];exact size8'
 have HI8:=hid hi8
 clear k ha hr hn hi8
 generalize hq:playP a m.p x=q at*
 generalize hy:playY a m.p x=y at*
 generalize errOf (goodF a m.p x)=er at*
 clear hq hy
 go_enter Tryd.func39,Tryd.ntmps39
 go_wp2_with (first
  |(refine wpList_loadI rfl 69 (.tmp 4) rfl _ 69 a 9 _ rfl S0.out.F Tryd.underlying69 rfl size9 HA.out ?_)
  |(refine wpList_load_mid rfl 27 (.tmp 13) rfl _ _ rfl (ints m.p) _ (S0.out.A.P K.out) Tryd.underlying27 rfl HI8.out ?_))
 refine(KM.out _ HX.out).mono ?_
 rintro e w1 ⟨A1,c1,rfl,hO,hB⟩
 have S1:=hid (S0.out.below hB)
 have LT0:=hid S0.out.lt
 have O1:=hid (hO.more (base':=w.heap.size+3) LT0.out)
 clear hO hB S0 HX KM
 have K2:=hid (show({m with p:=q}:Mm).ok from⟨K.out.r,QL.out,K.out.e⟩)
 have B2:=hid (below_stored w1 (.cells (agi Z8) 27) (agi q))
 obtain⟨w2,hw2⟩: ∃w2,w2=(w1.alloc (.cells (agi Z8) 27)).setRow w1.heap.size (agi q):=⟨_,rfl⟩
 rw[<-hw2] at B2
 have S2:=hid (S1.out.below B2.out)
 have Q2:=hid (show IB w2 w1.heap.size 27 q by rw[hw2];exact IB.stored w1 27 Z8 q)
 have O2:=hid (O1.out.below B2.out)
 rw[z8_eq] at hw2
 have HW2:=hid hw2
 clear hw2
 obtain⟨w3,hw3⟩: ∃w3,w3=w2.setCells w.heap.size 8 (ints q):=⟨_,rfl⟩
 have S3:=hid (show Py w w3 {m with p:=q} a by
  rw[hw3]
  exact⟨S2.out.A.set_p K.out q QL.out,blk_sc (by omega) _ _ _ S2.out.F,blk_sc (by omega) _ _ _ S2.out.R,below_sc (Nat.le_refl _) _ _ _ S2.out.bel⟩)
 have O3:=hid (show Own w3 (w.heap.size+3) A1 c1 y by rw[hw3];exact Own.setCs (by omega) _ _ _ O2.out)
 have HW3:=hid hw3
 clear hw3
 have hRow:=hid (MB.setRow S3.out.R {m with p:=q})
 have FIN:=hid (below_setRow S3.out.bel (g:=w.heap.size+2) (by omega) ({m with p:=q}:Mm).ag)
 have OF:=hid ((O3.out.setRow (g:=w.heap.size+2) (by omega) ({m with p:=q}:Mm).ag).more (base':=w.heap.size) (by omega))
 have SZ:=hid (show(Tryd.prog.info? 27).map (·.size)=some (agi q).size from by rw[agi_size,QL.out];exact size8')
 have TH:=hid (show w2.there w.heap.size 8 (agi q).size from by rw[agi_size,QL.out];exact S2.out.A.thereP K.out)
 go_wp2_with (first
  |(refine wpList_storeI rfl 27 (.tmp 9) (.tmp 18) rfl _ 27 Z8 q 8 rfl rfl (IB.new w1 27 Z8) size8' rfl QL.out ?_;rw[<-HW2.out])
  |(refine wpList_loadI rfl 27 (.tmp 9) rfl _ 27 q 8 _ rfl Q2.out Tryd.underlying27 rfl size8' QL.out ?_)
  |(refine wpList_store_mid rfl 27 (.tmp 21) (.tmp 20) rfl w.heap.size 8 (agi q) rfl rfl TH.out SZ.out (agi_one _) ?_;rw[show(agi q).toList=ints q from rfl,<-HW3.out])
  |(refine wpList_loadM rfl (.tmp 3) rfl _ {m with p:=q} rfl S3.out.A K2.out ?_)
  |(refine wpList_storeM rfl (.tmp 6) (.tmp 22) rfl _ zeroM {m with p:=q} rfl rfl S3.out.R zeroM_ok K2.out ?_))
 refine bodyPost_ret (v:=_) (hR _ _ _ {m with p:=q} rfl hRow.out K2.out) rfl ?_
 exact⟨A1,c1,rfl,OF.out,FIN.out⟩
end Go.Proofs.YthoiikkjjaldnaaDoor
