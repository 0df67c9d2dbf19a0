/- Texts that the law rests on. -/
import Derived.Test.YthoiikkjjaldnaaGreatDoorZ1e0j
namespace Go.Proofs.YthoiikkjjaldnaaGreatDoor
set_option linter.unusedVariables false
set_option linter.unusedSimpArgs false
set_option maxRecDepth 100000
set_option maxHeartbeats 8000000
open Go.RowKit
def okS(x:Int):Bool:=decide (-2147483647<=x/\x<=2147483647)
theorem ZB{x:Int}(h1: -2147483647<=x)(h2:x<=2147483647):okS x=true:=by unfold okS;simp;omega
theorem ZC{x:Int}(h:x< -2147483647\/2147483647<x):okS x=false:=by unfold okS;simp;omega
def jg(r:List Int):List Int×Int×Bool:=if r.all okS=false\/r.getD 0 0<=0 then([],0,false) else lev r 8 1 [16777216] (r.getD 0 0) []
theorem ZG{r:List Int}(h:r.all okS=false):jg r=([],0,false):=by unfold jg;rw[if_pos (.inl h)]
theorem ZH{r:List Int}(h:r.getD 0 0<=0):jg r=([],0,false):=by unfold jg;rw[if_pos (.inr h)]
theorem ah5{r:List Int}(h:r.all okS=true)(h2:0<r.getD 0 0):jg r=lev r 8 1 [16777216] (r.getD 0 0) []:=by unfold jg;rw[if_neg (by rintro(h3|h3);(rw[h] at h3;cases h3);omega)]
theorem RQ{r:List Int}(h:r.all okS=true):Within 2147483647 r:=by
 intro i
 by_cases hi:i<r.length
 ·have:=FW h i hi
  unfold okS at this
  simpa using this
 exact l96
structure LevSt(r:List Int)(m:Nat)(al:List Int)(e:Int)(k:List Int):Prop where
 run:jg r=lev r (9-m) m al e k
 la:al.length=m
 lk:k.length+1=m
 bd:Within (16777216*2^(m-1)) al
 e0:0<e
 e1:e<=2147483647
theorem LevSt.start{r:List Int}(h:r.all okS=true)(h2:0<r.getD 0 0):LevSt r 1 [16777216] (r.getD 0 0) []:=
 ⟨ah5 h h2,rfl,rfl,by
   intro i
   match i with
   |0=>simp
   |i+1=>simp,h2,(RQ h 0).2⟩
theorem LevSt.bnd{r:List Int}{m:Nat}{al k:List Int}{e:Int}(h:LevSt r m al e k)(hm:m<=9):Within 4294967296 al:=by
 intro i
 have h1:=h.bd i
 have h2:(2:Nat)^(m-1)<=2^8:=Nat.pow_le_pow_right aB ah
 have h3:((2^(m-1):Nat):Int)=2^(m-1):=az
 omega
theorem LevSt.fin{r al k:List Int}{e:Int}(h:LevSt r 9 al e k):jg r=(k,e,true):=h.run
section
variable {r al k:List Int} {m:Nat} {e q:Int}
theorem LevSt.stop(h:LevSt r m al e k)(h1:1<=m)(hm:m<=8)(hq:q=(-kQ al r m*32768).tdiv e)(hb:q<= -32000\/32000<=q):jg r=(k,e,false):=by
 rw[h.run,show 9-m=(8-m)+1 from ah,FV r (8-m) m al e k q _ hq rfl,if_pos hb]
theorem LevSt.none_(h:LevSt r m al e k)(h1:1<=m)(hm:m<=8)(hq:q=(-kQ al r m*32768).tdiv e)(hb: -32000<q)(hb2:q<32000)(he:e-e*q/32768*q/32768<=0):jg r=(k++[q],0,false):=by
 rw[h.run,show 9-m=(8-m)+1 from ah,FV r (8-m) m al e k q _ hq rfl,if_neg ah,if_pos he]
theorem LevSt.next(h:LevSt r m al e k)(h1:1<=m)(hm:m<=8)(hq:q=(-kQ al r m*32768).tdiv e)(hb: -32000<q)(hb2:q<32000)(he:0<e-e*q/32768*q/32768):
 LevSt r (m+1) (lV al q m) (e-e*q/32768*q/32768) (k++[q]):=by
 have hE:=Pv h.e0 h.e1 hb hb2
 refine⟨?_,vO _ _ _,by have:=h.lk;simp;omega,?_,he,by have:=h.e1;omega⟩
 ·rw[h.run,show 9-m=(8-m)+1 from ah,FV r (8-m) m al e k q _ hq rfl,if_neg ah,if_neg ah,show 9-(m+1)=8-m from ah]
 ·have h2:=Within.grow (m:=m) (by have:(0:Int)<2^(m-1):=Int.pow_pos aB;omega) h.bd ⟨ah,ah⟩ (q:=q)
  have e2:(16777216:Int)*2^(m+1-1)=2*(16777216*2^(m-1)):=by
   rw[show m+1-1=(m-1)+1 from ah,Int.pow_succ];omega
  rw[e2]
  exact h2
end
def RR(arr al:List Int):Prop:=arr.length=9/\∀j,arr.getD j 0=al.getD j 0
def LevMid(al zs:List Int)(q:Int)(m i:Nat):Prop:=zs.length=9/\∀j,zs.getD j 0=if j<i then(lV al q m).getD j 0 else al.getD j 0
theorem LevMid.start{arr al:List Int}{q:Int}{m:Nat}(h:RR arr al):LevMid al arr q m 1:=⟨h.1,fun j=>by
 rw[h.2 j]
 split
 ·obtain rfl:j=0:=ah
  rw[xP _ _ _ _ ah,if_pos rfl]
 ·rfl⟩
theorem LevMid.step{al zs:List Int}{q:Int}{m i:Nat}(h:LevMid al zs q m i)(h0:1<=i)(hi:i<=m)(h9:i<9):
 LevMid al (zs.set i (al.getD i 0+q*al.getD (m-i) 0/32768)) q m (i+1):=by
 refine⟨by simpa using h.1,fun j=>?_⟩
 by_cases he:i=j
 ·subst he
  rw[bi,List.getElem?_set_self (by rw[h.1];exact h9),if_pos ah,xP _ _ _ _ hi,if_neg ah]
  rfl
 ·have e:(zs.set i (al.getD i 0+q*al.getD (m-i) 0/32768)).getD j 0=zs.getD j 0:=by
   simp[he]
  rw[e,h.2 j]
  exact acH
theorem LevMid.fin{al zs:List Int}{q:Int}{m:Nat}(h:LevMid al zs q m (m+1))(hl:al.length=m):RR zs (lV al q m):=⟨h.1,fun j=>by
 rw[h.2 j]
 split
 ·rfl
 ·rw[bi,List.getElem?_eq_none ah,bi,List.getElem?_eq_none (by rw[vO];omega)]⟩
def lC(al r:List Int)(m i:Nat):Int:=al.getD i 0/512*r.getD (m-i) 0/32768
theorem ZI(al r:List Int)(m:Nat):kQ al r m=aI (lC al r m) m:=rfl
theorem RU{al r:List Int}{m:Nat}(ha:Within 4294967296 al)(hr:Within 2147483647 r)(i:Nat):
 (-8388608<=al.getD i 0/512/\al.getD i 0/512<=8388608)/\(-18014398509481984<=al.getD i 0/512*r.getD (m-i) 0/\al.getD i 0/512*r.getD (m-i) 0<=18014398509481984)/\(-549755813888<=lC al r m i/\lC al r m i<=549755813888):=by
 have h1:=ha i
 have h2:=hr (m-i)
 have h3:=ja (x:=al.getD i 0/512) (X:=8388608) (y:=r.getD (m-i) 0) (Y:=2147483647) ah ah ah h2
 unfold lC
 omega
theorem Ju{al r:List Int}{m:Nat}(ha:Within 4294967296 al)(hr:Within 2147483647 r)(i:Nat)(hi:i<=8): -4398046511104<=aI (lC al r m) i/\aI (lC al r m) i<=4398046511104:=by
 have h:=ad7 (f:=lC al r m) (B:=549755813888) i (fun j _=>(RU ha hr j).2.2)
 have:(549755813888:Int)*i<=549755813888*8:=ah
 omega
def jh(o:List Int)(s:Nat):List Int:=(o.drop (s*40)).take 40
def Jv(o:List Int):Bool:=decide (bz o o 80<16*80)
def sO(reset:Bool)(o:List Int):Int:=if reset then 1 else if Jv o then 2 else 0
def pJ(reset:Bool)(m:Mm):Mm:=if reset then lX else m
def RV(x:List Int):List Int:=bQ 8 (jg (eX x (jJ x) 9)).1
def enQ(x:List Int):List Int:=aL qV cG (RV x)
def jU(x:List Int):List Int:=(List.range 8).map (aF lvV (enQ x))
def enK(was now o:List Int)(m:Mm):Nat->Mm
 |0=>m
 |s+1=>frP false (frA was now s) (enK was now o m s) (chU (enK was now o m s) (frA was now s) (jh o s))
def enU(was now o:List Int)(m:Mm)(s:Nat):List Int:=chU (enK was now o m s) (frA was now s) (jh o s)
def enP(kd:Int)(q was now o:List Int)(m:Mm):List Int:=kd::(q++if kd=2 then List.replicate 16 0 else enU was now o m 0++enU was now o m 1)
section
variable {was now o:List Int} {m:Mm}
theorem Ae(s:Nat):UOk (enU was now o m s):=Jk
theorem ah6(s:Nat):(enK was now o m s).r=m.r:=by
 induction s with
 |zero=>rfl
 |succ s ih=>rw[enK,IE,ih]
theorem Jw(g:aU m=true)(s:Nat):aU (enK was now o m s)=true:=by
 induction s with
 |zero=>exact g
 |succ s ih=>exact Yr false _ ih Jk
theorem ah7(k:m.ok)(s:Nat):(enK was now o m s).ok:=by
 induction s with
 |zero=>exact k
 |succ s ih=>exact QE false _ ih Jk
theorem ah8{kd:Int}{q:List Int}(h:q.length=8):(enP kd q was now o m).length=25:=by
 unfold enP
 split
 ·simp[h]
 have h1:=(Ae (was:=was) (now:=now) (o:=o) (m:=m) 0).l
 have h2:=(Ae (was:=was) (now:=now) (o:=o) (m:=m) 1).l
 simp[h,h1,h2]
theorem ah9(x:Int)(l:List Int)(i:Nat):(x::l).getD (i+1) 0=l.getD i 0:=by simp[Ud]
theorem ZJ{l r:List Int}{i:Nat}(h:i<l.length):(l++r).getD i 0=l.getD i 0:=by
 simp only[bi];rw[mF h]
theorem ZK{l r:List Int}{i:Nat}(h:l.length<=i):(l++r).getD i 0=r.getD (i-l.length) 0:=by
 simp only[bi];rw[uY h]
theorem ZM{u:List Int}(h:UOk u){j:Nat}(hj:j<8):0<=u.getD j 0/\u.getD j 0<=[59,7,9,9,9,9,15,31].getD j 0:=by
 have e:j=0\/j=1\/(2<=j/\j<6)\/j=6\/j=7:=ah
 rcases e with rfl|rfl|⟨h1,h2⟩|rfl|rfl
 ·exact h.a
 ·exact h.g
 ·have h3:=h.i j h1 h2
  have:j=2\/j=3\/j=4\/j=5:=ah
  rcases this with rfl|rfl|rfl|rfl<;>exact h3
 ·exact h.s
 exact h.v
theorem aia{q u v:List Int}(hq:q.length=8)(hu:u.length=8)(i:Nat)(kd:Int):(kd::(q++(u++v))).getD i 0=if i=0 then kd else if i<9 then q.getD (i-1) 0 else if i<17 then u.getD (i-9) 0 else v.getD (i-17) 0:=by
 match i with
 |0=>rfl
 |i+1=>
  rw[ah9,if_neg ah]
  by_cases h1:i<8
  ·rw[if_pos ah,ZJ ah];rfl
  rw[if_neg ah,ZK ah,hq]
  by_cases h2:i-8<8
  ·rw[if_pos ah,ZJ ah];congr 1
  rw[if_neg ah,ZK ah,hu];congr 1
theorem ZN{kd:Int}{q u v:List Int}(hq:q.length=8)(hu:u.length=8)(hk:0<=kd/\kd<=2)(qb:∀j,j<8->0<=q.getD j 0/\q.getD j 0<=pkT.getD (j+1) 0)
 (ub:∀j,j<8->0<=u.getD j 0/\u.getD j 0<=[59,7,9,9,9,9,15,31].getD j 0) (vb:∀j,j<8->0<=v.getD j 0/\v.getD j 0<=[59,7,9,9,9,9,15,31].getD j 0):cf (kd::(q++(u++v))) 25=true:=by
 unfold cf
 rw[kF]
 intro i hi
 have hi:i<25:=List.mem_range.1 hi
 refine decide_eq_true ?_
 unfold oz
 rw[aia hq hu]
 by_cases h0:i=0
 ·subst h0;exact hk
 by_cases h1:i<9
 ·rw[if_neg h0,if_pos h1]
  have h:=qb (i-1) ah
  rwa [show i-1+1=i from ah] at h
 have t1:∀j,j<8->[59,7,9,9,9,9,15,31].getD j 0=pkT.getD (j+9) 0:=aB
 have t2:∀j,j<8->[59,7,9,9,9,9,15,31].getD j 0=pkT.getD (j+17) 0:=aB
 by_cases h2:i<17
 ·rw[if_neg h0,if_neg h1,if_pos h2]
  have h:=ub (i-9) ah
  rwa [t1 _ ah,show i-9+9=i from ah] at h
 ·rw[if_neg h0,if_neg h1,if_neg h2]
  have h:=vb (i-17) ah
  rwa [t2 _ ah,show i-17+17=i from ah] at h
theorem aib(i k:Int)(n:Nat):0<=(qB i k n).1/\(qB i k n).1<=((n-1:Nat):Int):=by
 induction n with
 |zero=>simp[qB]
 |succ n ih=>
  unfold qB
  split
  ·simp
  omega
theorem aic{j:Nat}(hj:j<8)(k:Int):0<=qV (j:Nat) k/\qV (j:Nat) k<=pkT.getD (j+1) 0:=by
 have h1:∀j,j<8->(((lvM (j:Nat)).toNat-1:Nat):Int)<=pkT.getD (j+1) 0/\0<=pkT.getD (j+1) 0:=uy
 have h2:=h1 j hj
 unfold qV
 split
 ·have h3:=aib (j:Nat) k (lvM (j:Nat)).toNat
  omega
 omega
theorem ZO(x:List Int){j:Nat}(hj:j<8):0<=(enQ x).getD j 0/\(enQ x).getD j 0<=pkT.getD (j+1) 0:=by
 unfold enQ aL
 split
 ·rw[aT _ hj]
  unfold aF
  exact aic hj _
 have h1:∀j,j<8->0<=Z8.getD j 0/\Z8.getD j 0<=pkT.getD (j+1) 0:=uy
 exact h1 j hj
theorem yV(x:List Int):(enQ x).length=8:=by
 unfold enQ aL
 split
 ·simp
 rfl
theorem Si{kd:Int}(hk:0<=kd/\kd<=2)(x:List Int):cf (enP kd (enQ x) was now o m) 25=true:=by
 have hz:∀j,j<8->0<=(List.replicate 8 (0:Int)).getD j 0/\(List.replicate 8 (0:Int)).getD j 0<=[59,7,9,9,9,9,15,31].getD j 0:=uy
 unfold enP
 split
 ·rw[show List.replicate 16 (0:Int)=List.replicate 8 0++List.replicate 8 0 from rfl]
  exact ZN (yV x) az hk (fun j hj=>ZO x hj) hz hz
 exact ZN (yV x) (Ae 0).l hk (fun j hj=>ZO x hj) (fun j hj=>ZM (Ae 0) hj) (fun j hj=>ZM (Ae 1) hj)
end
structure En where
 h:List Int
 x:List Int
 m:Mm
structure En.ok(e:En):Prop where
 h:e.h.length=4
 x:e.x.length=120
 m:e.m.ok
def dG(e:En)(s:List Int):List Int×List Int×Bool:=hiA s (e.h.getD 0 0) (e.h.getD 1 0) (e.h.getD 2 0) (e.h.getD 3 0) 80
def enX(e:En)(s:List Int):List Int:=e.x.drop 80++(dG e s).2.1
def iI(e:En)(s:List Int):Int:=
 if s.length=80 then(if aU e.m=true then(if(dG e s).2.2=true then aZ (aG (enX e s)) else 2) else 2) else 1
def jV(e:En)(s:List Int)(reset:Bool):List Int:=
 enP (sO reset (dG e s).2.1) (enQ (enX e s)) (pJ reset e.m).r (jU (enX e s)) (dG e s).2.1 (pJ reset e.m)
def mi(e:En)(s:List Int)(reset:Bool):List Int:=if iI e s=0 then kZ (jV e s reset) else[]
def enY(e:En)(s:List Int)(reset:Bool):List Int:=if iI e s=0 then frO e.m (jV e s reset) else[]
def enE(e:En)(s:List Int)(reset:Bool):En:=
 if iI e s=0 then⟨(dG e s).1,enX e s,frM e.m (jV e s reset)⟩ else⟨List.replicate 4 0,List.replicate 120 0,bZ⟩
theorem aij(reset:Bool)(o:List Int):0<=sO reset o/\sO reset o<=2:=by
 unfold sO
 split
 ·omega
 split<;>omega
theorem ZR(e:En)(s:List Int)(reset:Bool):cf (jV e s reset) 25=true:=Si (aij _ _) _
theorem ZT(e:En)(s:List Int)(reset:Bool):(jV e s reset).length=25:=ah8 (yV _)
def En.cs(e:En):List Value:=aj e.h++(aj e.x++e.m.cs)
def En.ag(e:En):Array Value:=e.cs.toArray
def EB(w:World)(g:Nat)(e:En):Prop:=Blk w g 47 e.ag
section
variable {w:World} {g:Nat} {e:En}
theorem En.len(e:En)(k:e.ok):e.cs.length=226:=by unfold En.cs;simp only[gu,aQ,k.h,k.x,e.m.len k.m]
theorem En.size(e:En)(k:e.ok):e.ag.size=226:=by unfold En.ag;rw[List.size_toArray,e.len k]
theorem aik{m:Mm}:∀v∈m.cs,v.oneCell'=true:=fun v hv=>by
 have h:=Array.all_eq_true_iff_forall_mem.1 m.one
 exact h v (by simpa[Mm.ag] using hv)
theorem En.one(e:En):e.ag.all (·.oneCell')=true:=by
 rw[Array.all_eq_true_iff_forall_mem]
 intro v hv
 have:v∈e.cs:=by simpa[En.ag] using hv
 unfold En.cs at this
 rcases List.mem_append.1 this with h|h
 ·exact mQ _ _ h
 rcases List.mem_append.1 h with h|h
 ·exact mQ _ _ h
 exact aik _ h
theorem EB.H(h:EB w g e):w.rangeAt g 0 (aj e.h):=gI h [] (aj e.h) _ rfl rfl
theorem EB.X(h:EB w g e)(k:e.ok):w.rangeAt g 4 (aj e.x):=gI h (aj e.h) (aj e.x) e.m.cs rfl (by rw[aQ,k.h])
theorem EB.M(h:EB w g e)(k:e.ok):w.rangeAt g 124 e.m.cs:=gI h (aj e.h++aj e.x) e.m.cs [] abl (by simp only[gu,aQ,k.h,k.x])
theorem EB.src(h:EB w g e)(k:e.ok)(o:Nat)(ho:o<=120):w.rangeAt g (4+o) (aj (e.x.drop o)):=
 gI h (aj e.h++aj (e.x.take o)) (aj (e.x.drop o)) e.m.cs (by
  unfold En.cs aj
  rw[mG,<-mG (List.map _ (e.x.take o)),<-List.map_append,qh])
  (by simp only[gu,aQ,k.h,fL,k.x];omega)
theorem EB.whole(h:EB w g e):w.rangeAt g 0 e.cs:=gI h [] e.cs [] az rfl
theorem EB.new(w:World)(e:En):EB (w.alloc (.cells e.ag 47)) w.heap.size e:=Blk.new w _ _
theorem EB.there(h:EB w g e)(k:e.ok):w.there g 0 226:=fun j hj=>by
 refine⟨?_,Blk.frozen h _⟩
 rw[Blk.cell h]
 have:0+j<e.ag.size:=by rw[e.size k];omega
 rw[Array.getElem?_eq_getElem this];rfl
theorem EB.thereH(h:EB w g e)(k:e.ok):w.there g 0 4:=fun j hj=>h.there k j ah
theorem EB.thereM(h:EB w g e)(k:e.ok):w.there g 124 102:=fun j hj=>by
 have h1:=h.there k (124+j) ah
 rwa [Nat.zero_add] at h1
theorem EB.set_h(h:EB w g e)(k:e.ok)(x:List Int)(hx:x.length=4):EB (w.setCells g 0 (aj x)) g {e with h:=x}:=by
 have h0:Blk w g 47 ([]++(aj e.h++(aj e.x++e.m.cs))).toArray:=h
 exact vT (aj x) (aj e.h) [] _ w h0 (by rw[aQ,aQ,hx,k.h])
theorem EB.set_m(h:EB w g e)(k:e.ok)(m:Mm)(hm:m.ok):EB (w.setCells g 124 m.cs) g {e with m:=m}:=by
 have h0:Blk w g 47 ((aj e.h++aj e.x)++(e.m.cs++[])).toArray:=by
  have e1:e.ag=((aj e.h++aj e.x)++(e.m.cs++[])).toArray:=abg
  rw[<-e1];exact h
 have h1:=vT m.cs e.m.cs _ _ w h0 (by rw[m.len hm,e.m.len k.m])
 have hl:(aj e.h++aj e.x).length=124:=by simp only[gu,aQ,k.h,k.x]
 rw[hl] at h1
 have e2:({e with m:=m}:En).ag=((aj e.h++aj e.x)++(m.cs++[])).toArray:=abg
 unfold EB;rw[e2];exact h1
theorem EB.splice(k:e.ok)(o:Nat)(ys zs:List Int)(hf:o+ys.length<=120)(hz:zs=e.x.take o++ys++e.x.drop (o+ys.length)):
 splice e.cs (4+o) (aj ys)=({e with x:=zs}:En).cs:=by
 subst hz
 have h1:e.cs.take (4+o)=aj e.h++aj (e.x.take o):=by
  unfold En.cs
  rw[List.take_append,aQ,k.h,List.take_of_length_le (by rw[aQ,k.h];omega),show 4+o-4=o from ah,List.take_append_of_le_length (by rw[aQ,k.x];omega)]
  unfold aj
  rw[List.map_take]
 have h2:e.cs.drop (4+o+(aj ys).length)=aj (e.x.drop (o+ys.length))++e.m.cs:=by
  unfold En.cs
  rw[aQ,List.drop_append,aQ,k.h,List.drop_of_length_le (by rw[aQ,k.h];omega),AC,show 4+o+ys.length-4=o+ys.length from ah,List.drop_append_of_le_length (by rw[aQ,k.x];omega)]
  unfold aj
  rw[List.map_drop]
 unfold Go.splice
 rw[h1,h2]
 unfold En.cs aj
 simp only[List.map_append,mG]
end
theorem Af:(Tryz.prog.info? 47).map (·.size)=some 226:=au
section
variable {w:World} {g:Nat} {e:En}
theorem oI{ops:Array Oper}{rest:List Oper}{o:Oper}{a:Act}{Q:Exit->Act->World->Prop}(hgd:o.guard=none)(x y:Operand)(ho:o.op=.store 47 x y)
 (g:Nat) (e0:En) (e:En) (hx:a.eval x=.pointer (some ⟨g,0,none⟩)) (hy:a.eval y=.agg e.ag) (h:EB w g e0) (k0:e0.ok) (k:e.ok)
 (kk:wpList Tryz.prog ops Q rest (a.put o.dst undef) (w.setRow g e.ag)):wpList Tryz.prog ops Q (o::rest) a w:=
 wpList_store_row hgd 47 x y ho g e.ag hx hy 47 e0.ag h (by rw[Af,e.size k]) (by rw[e.size k,e0.size k0]) e.one kk
theorem Ef{ops:Array Oper}{rest:List Oper}{o:Oper}{a:Act}{Q:Exit->Act->World->Prop}(hw:Region.wanted o (yielded ops a.tmps)=true)(x:Operand)(ho:o.op=.load 47 x)
 (g:Nat) (e:En) (hx:a.eval x=.pointer (some ⟨g,0,none⟩)) (h:EB w g e) (k0:e.ok)
 (kk:wpList Tryz.prog ops Q rest (a.put o.dst (.agg e.ag)) w):wpList Tryz.prog ops Q (o::rest) a w:=
 Go.BigFrame.wpList_want hw fun K hK=>wp_load_row 47 x ho g hx 47 e.ag (0,0) _ h Tryz.underlying47 rfl (by rw[Af,e.size k0]) (hK _ _ kk)
theorem EB.setRow{e0:En}(h:EB w g e0)(e:En):EB (w.setRow g e.ag) g e:=setRow_heap w g _ _ _ _ h
theorem ZV{fn:Func}{p:Tmp}(h:fn.results= #[.cell p 47])(tmps:Array Value)(w:World)(g:Nat)(e:En)
 (hp:tmps.getD p undef=.pointer (some ⟨g,0,none⟩)) (hg:EB w g e) (k:e.ok):
 (results fn tmps).run Tryz.prog w=.ok (.agg e.ag) w:=by
 have hp':tmps[p]?.getD undef=.pointer (some ⟨g,0,none⟩):=uu
 have hr:=run_loadVar_row (P:=Tryz.prog) w g 47 47 e.ag (0,0) _ hg Tryz.underlying47 rfl (by rw[Af,e.size k])
 simp[results,h,hp',asAddr,hr]
theorem ZW{fn:Func}{p q r s:Tmp}(h:fn.results= #[.cell p 47,.tmp q,.tmp r,.tmp s])(tmps:Array Value)(w:World)(g:Nat)(e:En)
 (hp:tmps.getD p undef=.pointer (some ⟨g,0,none⟩)) (hg:EB w g e) (k:e.ok):
 (results fn tmps).run Tryz.prog w=.ok (.tuple #[.agg e.ag,tmps.getD q undef,tmps.getD r undef,tmps.getD s undef]) w:=by
 have hp':tmps[p]?.getD undef=.pointer (some ⟨g,0,none⟩):=uu
 have hr:=run_loadVar_row (P:=Tryz.prog) w g 47 47 e.ag (0,0) _ hg Tryz.underlying47 rfl (by rw[Af,e.size k])
 simp[results,h,hp',asAddr,hr]
end
def dH:En:=⟨List.replicate 4 0,List.replicate 120 0,bZ⟩
theorem ik:dH.ok:=⟨rfl,rfl,jF⟩
theorem uP:Tryz.zeroCells47=dH.ag:=au
theorem sQ(w:World):EB (w.alloc (.cells Tryz.zeroCells47 47)) w.heap.size dH:=by rw[uP];exact EB.new w dH
structure En.fit(e:En):Prop where
 k:e.ok
 g:aU e.m=true
 h:aG e.h=true
 x:aG e.x=true
theorem yX{l:List Int}:aG l=true↔∀x∈l,-32768<=x/\x<=32767:=by
 unfold aG
 rw[kF]
 refine⟨fun h x hx=>?_,fun h x hx=>?_⟩
 ·have:=h x hx
  simpa[gV] using this
 exact qI (h x hx).1 (h x hx).2
theorem aio{l r:List Int}(h:aG l=true)(h2:aG r=true):aG (l++r)=true:=yX.2 fun x hx=>by
 rcases List.mem_append.1 hx with h1|h1
 ·exact yX.1 h x h1
 exact yX.1 h2 x h1
theorem aip(l:List Int)(a b c d:Int)(k:Nat):aG (hiN l a b c d k).2=true:=by
 induction k with
 |zero=>rfl
 |succ k ih=>
  simp only[hiN]
  refine aio ih (yX.2 fun x hx=>?_)
  rw[List.mem_singleton.1 hx]
  exact Zl _
theorem Su(l:List Int)(a b c d:Int)(n:Nat)(h:(hiA l a b c d n).2.2=true):(hiA l a b c d n).2.1.length=n/\(hiA l a b c d n).1.length=4:=by
 unfold hiA at*
 split
 ·exact⟨Jl _ _ _ _ _ _,rfl⟩
 next h2=>rw[if_neg h2] at h;cases h
section
variable {e:En} {s:List Int}
end
def enB:En:=⟨List.replicate 4 0,List.replicate 120 0,lX⟩
theorem ZY:enB.fit:=⟨⟨rfl,by simp[enB],CU⟩,QK,aB,aB⟩
theorem ZZ(r:List Int):∀(n m:Nat) (al:List Int) (e:Int) (k:List Int),(lev r n m al e k).1.length<=k.length+n
 |0,_,_,_,k=>by rw[ad8];exact al0z _
 |n+1,m,al,e,k=>by
  rw[FV r n m al e k _ _ rfl rfl]
  split
  ·show k.length<=_;omega
  split
  ·show(k++[_]).length<=_
   rw[gu];show k.length+1<=_;omega
  refine gJ (ZZ r n _ _ _ _) ?_
  rw[gu];show k.length+1+n<=_;omega
theorem aiq(r:List Int):(jg r).1.length<=8:=by
 unfold jg
 split
 ·show 0<=8;omega
 exact gJ (ZZ _ _ _ _ _ _) (by show 0+8<=8;omega)
theorem aab(r:List Int):(bQ 8 (jg r).1).length=8:=Cm (aiq r)
theorem aac{kd:Int}{q was now o:List Int}{m:Mm}(h:q.length=8):nC (enP kd q was now o m)=q:=by
 unfold nC enP
 exact acl
theorem aad(x:List Int):oG (enP 2 (enQ x) [] [] [] bZ)=jU x:=by
 unfold oG jU
 rw[aac (yV x)]
theorem Jy(x:List Int):aL lvV bh (enQ x)=jU x/\aE bh (enQ x) 8=0:=by
 have h:=Si (was:=[]) (now:=[]) (o:=[]) (m:=bZ) (kd:=2) ⟨ah,ah⟩ x
 have h1:=QC h
 have h2:=DD h 8 (al0z _)
 rw[aac (yV x)] at h1 h2
 exact⟨by rw[h1,aad],h2⟩
theorem aae(x:List Int):bM (jU x)=true:=by
 rw[<-aad]
 exact QO (Si (was:=[]) (now:=[]) (o:=[]) (m:=bZ) (kd:=2) ⟨ah,ah⟩ x)
def enF(was now o:List Int)(m:Mm):Nat->List Int
 |0=>[]
 |s+1=>enF was now o m s++enU was now o m s
def enZ(kd:Int)(q was now o:List Int)(m:Mm)(s:Nat):List Int:=kd::(q++(enF was now o m s++List.replicate (16-s*8) 0))
section
variable {was now o q:List Int} {m:Mm} {kd:Int}
theorem aaf(s:Nat):(enF was now o m s).length=s*8:=by
 induction s with
 |zero=>rfl
 |succ s ih=>rw[enF,gu,ih,(Ae s).l];omega
theorem Ag(h:q.length=8){s:Nat}(hs:s<=2):(enZ kd q was now o m s).length=25:=by
 unfold enZ
 rw[y9,gu,gu,aaf,nM,h];omega
theorem aag(hk:kd≠2):enZ kd q was now o m 2=enP kd q was now o m:=by
 unfold enZ enP
 rw[if_neg hk]
 have e:enF was now o m 2=enU was now o m 0++enU was now o m 1:=by
  show([]++enU was now o m 0)++enU was now o m 1=_
  rw[AC]
 rw[e]
 simp
theorem aah:enZ 2 q was now o m 0=enP 2 q was now o m:=by
 unfold enZ enP
 rw[if_pos rfl]
 rfl
theorem ais(h:q.length=8){s:Nat}(hs:s<2):enZ kd q was now o m s=(kd::(q++enF was now o m s))++(List.replicate 8 0++List.replicate (8-s*8) 0):=by
 unfold enZ
 have e:List.replicate (16-s*8) (0:Int)=List.replicate 8 0++List.replicate (8-s*8) 0:=by
  rw[List.replicate_append_replicate];congr 1;omega
 rw[e]
 simp
theorem aiu(s:Nat)(hs:s<2):enZ kd q was now o m (s+1)=(kd::(q++enF was now o m s))++(enU was now o m s++List.replicate (8-s*8) 0):=by
 unfold enZ
 rw[enF,show 16-(s+1)*8=8-s*8 from ah]
 simp
theorem Jz(h:q.length=8):(0:Int)::(q++List.replicate 16 0)=enZ 0 q was now o m 0:=by
 unfold enZ enF
 simp
theorem aiv(s:Nat):enK was now o m (s+1)=frP false (frA was now s) (enK was now o m s) (enU was now o m s):=rfl
theorem JA{s:Nat}(ho:o.length=80)(hs:s<2):(jh o s).length=40:=by
 unfold jh
 rw[fL,jY];omega
theorem aiw{s:Nat}(ho:aG o=true):eG (jh o s):=by
 refine fQ (yX.2 fun x hx=>yX.1 ho x ?_)
 unfold jh at hx
 exact List.mem_of_mem_drop (List.mem_of_mem_take hx)
theorem aai(r:Bool)(k:m.ok):(pJ r m).ok:=by
 unfold pJ
 split
 ·exact CU
 exact k
theorem aaj(r:Bool)(g:aU m=true):aU (pJ r m)=true:=by
 unfold pJ
 split
 ·exact QK
 exact g
end
theorem IB.over{w:World}{g:Nat}{t:TypeId}{ps A old B ys qs:List Int}(h:IB w g t ps)(he:ps=A++(old++B))(hl:ys.length=old.length)(hq:qs=A++(ys++B)){o:Nat}(ho:A.length=o):IB (w.setCells g o (aj ys)) g t qs:=by
 subst he;subst hq;subst ho
 have h0:Blk w g t (aj A++(aj old++aj B)).toArray:=by
  have e:agi (A++(old++B))=(aj A++(aj old++aj B)).toArray:=by unfold agi aj;simp only[List.map_append]
  rw[<-e];exact h
 have h1:=vT (aj ys) (aj old) _ _ w h0 (by rw[aQ,aQ,hl])
 rw[aQ] at h1
 have e2:agi (A++(ys++B))=(aj A++(aj ys++aj B)).toArray:=by unfold agi aj;simp only[List.map_append]
 unfold IB;rw[e2];exact h1
theorem IB.thereAt{w:World}{g:Nat}{t:TypeId}{ps:List Int}(h:IB w g t ps)(o n:Nat)(ho:o+n<=ps.length):w.there g o n:=fun j hj=>by
 refine⟨?_,Blk.frozen h _⟩
 rw[Blk.cell h]
 have:o+j<(agi ps).size:=by rw[dV];omega
 rw[Array.getElem?_eq_getElem this];rfl
structure PG(w W:World)(ps:List Int):Prop where
 P:IB W w.heap.size 38 ps
 A:TabA W 3 fD
 S:TabS W 0 fD
 B:Below w.heap.size w W
def Z25:List Int:=List.replicate 25 0
theorem aay{f:Nat->Int}{ys:List Int}{n k:Nat}(hl:ys.length=n)(h:∀j,j<k->ys.getD j 0=f j)(hk:k<n):(ys.set k (f k)).length=n/\∀j,j<k+1->(ys.set k (f k)).getD j 0=f j:=by
 refine⟨vu,fun j hj=>?_⟩
 by_cases e:k=j
 ·subst e;exact gQ _ _ _ ah
 rw[iw _ _ e];exact h j ah
theorem TC{f:Nat->Int}{ys:List Int}{n:Nat}(hl:ys.length=n)(h:∀j,j<n->ys.getD j 0=f j):ys=(List.range n).map f:=
 bV vu fun k hk=>by rw[hl] at hk;rw[h k hk,aT f hk]
theorem JI(a:Addr)(n:Nat):(a.add n).block=a.block:=by unfold Addr.add;split<;>rfl
theorem aaz(A A2:Option Addr)(c c2:Nat)(a b:List Int)(w:World)(hr:Rs w w.heap.size A a)(hr2:Rs w w.heap.size A2 b)(hn:a.length=40)(hm:b.length=40)(h1:eG a)(h2:eG b):
 Calls Tryz.prog 91 #[.slice A 40 c,.slice A2 40 c2] w (F6 w (wE a b 40)):=by
 have HX:=hid hr
 have HY:=hid hr2
 have HN:=hid hn
 have HM:=hid hm
 have H1:=hid h1
 have H2:=hid h2
 clear hr hr2 hn hm h1 h2
 go_enter Tryz.func91,Tryz.ntmps91
 go_wp2_with(at_make;refine kR rfl _ _ rfl .i64 .i64 40 rfl rfl w.heap.size ah (al0z _) ?_;intro w1 hO hG;have O1:=hid hO;have B1:=hid ((aA w.heap.size w).grown hG (al0z _) az);clear hO hG)
 go_loopw[6,12] (fun _ iv wr=> ∃(k:Nat) (ys:List Int),k<=40/\iv=.int .i64 k/\Hid (ys.length=40/\∀j,j<k->ys.getD j 0=qX a b j)/\Hid (Own wr w.heap.size (some ⟨w.heap.size,0,none⟩) 40 ys)/\Hid (Below w.heap.size w wr)) (fun _ iv _=>40-(intOf iv).toNat)
 case atStart=>exact⟨0,_,ah,rfl,hid ⟨az,fun j h=>ah⟩,O1,B1⟩
 case round=>
  clear O1 B1
  obtain⟨k,ys,hk,rfl,HY2,HO,HB⟩:=hrel
  by_cases hlt:k<40
  ·obtain⟨ad,rfl,hadb,k0⟩:=(HX.out.below HB.out).at_ (k:=k) iE
   obtain⟨ae,rfl,haeb,k1⟩:=(HY.out.below HB.out).at_ (k:=k) (by rw[HM.out];exact hlt)
   have x16:=H1.out k
   have y16:=H2.out k
   have cp:=HO.out.cell k Nc
   have fp:=HO.out.frozen k
   have NO:=hid (HO.out.set_ k Nc (qX a b k))
   have NB:=hid (HB.out.setCell (p:=⟨w.heap.size,k,none⟩) (al0z _) (.int .i64 (qX a b k)))
   have NX:=hid (aay (f:=qX a b) HY2.out.1 HY2.out.2 hlt)
   have KS:=hid (fun W=>show Calls Tryz.prog 159 #[.int .i64 (a.getD k 0-b.getD k 0)] W (fun e w'=>e=.returned (.int .i64 (qX a b k))/\W=w') from VW _ W)
   generalize qX a b k=z at*
   generalize a.getD k 0=x at*
   generalize b.getD k 0=y at*
   have hw1:IntKind.i64.wrap (x-y)=x-y:=aN
   have i40:(k:Int)<40:=ah
   have hadn:ad.block≠w.heap.size:=ah
   have haen:ae.block≠w.heap.size:=ah
   have P1:(wr.setCell ⟨w.heap.size,k,none⟩ (.int .i64 z)).drew.cell? (ad.add k)=some (.int .i64 x):=by
    show(wr.setCell ⟨w.heap.size,k,none⟩ (.int .i64 z)).cell? (ad.add k)=_
    refine(World.cell?_setCell_far _ _ _ _ fun e=>hadn ?_).trans k0
    first|exact(JI _ _).symm.trans e.symm|exact(JI _ _).symm.trans e
   have P2:(wr.setCell ⟨w.heap.size,k,none⟩ (.int .i64 z)).drew.cell? (ae.add k)=some (.int .i64 y):=by
    show(wr.setCell ⟨w.heap.size,k,none⟩ (.int .i64 z)).cell? (ae.add k)=_
    refine(World.cell?_setCell_far _ _ _ _ fun e=>haen ?_).trans k1
    first|exact(JI _ _).symm.trans e.symm|exact(JI _ _).symm.trans e
   go_wp2
   go_region_held3 (fun w'=>w'.cell? (ad.add k)=some (.int .i64 x)/\w'.cell? (ae.add k)=some (.int .i64 y)) (first|(exact⟨P1,P2⟩)|go_keep) (first
    |(go_at_call 159;(with_reducible refine(KS.out _).mono ?_);rintro e w' ⟨rfl,rfl⟩))
   go_wp2
   go_roundw
   case rel=>exact⟨k+1,_,ah,aO,NX,NO,hid (NB.out.trans ((aA _ _).drew.mono NB.out.size))⟩
   case measure=>simp[intOf]<;>omega
  obtain rfl:k=40:=ah
  go_wp2
  go_ret
  exact⟨_,_,by rw[D7];rfl,by unfold wE;rw[<-TC HY2.out.1 HY2.out.2];exact HO.out,HB.out⟩
theorem aiJ(A:Option Addr)(c:Nat)(a:List Int)(g:Int)(w:World)(hr:Rs w w.heap.size A a)(hn:a.length=40)(h1:eG a)(hg: -32768<=g/\g<=32767):
 Calls Tryz.prog 99 #[.slice A 40 c,.int .i64 g] w (F6 w (sH a g 40)):=by
 have HX:=hid hr
 have HN:=hid hn
 have H1:=hid h1
 clear hr hn h1
 go_enter Tryz.func99,Tryz.ntmps99
 go_wp2_with(at_make;refine kR rfl _ _ rfl .i64 .i64 40 rfl rfl w.heap.size ah (al0z _) ?_;intro w1 hO hG;have O1:=hid hO;have B1:=hid ((aA w.heap.size w).grown hG (al0z _) az);clear hO hG)
 go_loopw[6,7,13] (fun _ _ iv wr=> ∃(k:Nat) (ys:List Int),k<=40/\iv=.int .i64 k/\Hid (ys.length=40/\∀j,j<k->ys.getD j 0=nH a g j)/\Hid (Own wr w.heap.size (some ⟨w.heap.size,0,none⟩) 40 ys)/\Hid (Below w.heap.size w wr)) (fun _ _ iv _=>40-(intOf iv).toNat)
 case atStart=>exact⟨0,_,ah,rfl,hid ⟨az,fun j h=>ah⟩,O1,B1⟩
 case round=>
  clear O1 B1
  obtain⟨k,ys,hk,rfl,HY2,HO,HB⟩:=hrel
  by_cases hlt:k<40
  ·obtain⟨ad,rfl,hadb,k0⟩:=(HX.out.below HB.out).at_ (k:=k) iE
   have x16:=H1.out k
   have cp:=HO.out.cell k Nc
   have fp:=HO.out.frozen k
   have NO:=hid (HO.out.set_ k Nc (nH a g k))
   have NB:=hid (HB.out.setCell (p:=⟨w.heap.size,k,none⟩) (al0z _) (.int .i64 (nH a g k)))
   have NX:=hid (aay (f:=nH a g) HY2.out.1 HY2.out.2 hlt)
   have KS:=hid (fun W=>show Calls Tryz.prog 159 #[.int .i64 ((a.getD k 0*g+8192)/16384)] W (fun e w'=>e=.returned (.int .i64 (nH a g k))/\W=w') from VW _ W)
   generalize nH a g k=z at*
   generalize a.getD k 0=x at*
   obtain⟨p1,p2⟩:=kU x16.1 x16.2 hg.1 hg.2
   have hw1:IntKind.i64.wrap (x*g)=x*g:=aN
   have hw2:IntKind.i64.wrap (x*g+8192)=x*g+8192:=aN
   have hw3:IntKind.i64.wrap ((x*g+8192)/16384)=(x*g+8192)/16384:=aN
   have i40:(k:Int)<40:=ah
   have hadn:ad.block≠w.heap.size:=ah
   go_wp2_with(go_at_call 159;(with_reducible refine(KS.out _).mono ?_);rintro e w' ⟨rfl,rfl⟩)
   go_roundw
   case rel=>exact⟨k+1,_,ah,aO,NX,NO,NB⟩
   case measure=>simp[intOf]<;>omega
  obtain rfl:k=40:=ah
  go_wp2
  go_ret
  exact⟨_,_,by rw[Rl];rfl,by unfold sH;rw[<-TC HY2.out.1 HY2.out.2];exact HO.out,HB.out⟩
theorem aaA(A A2:Option Addr)(cA cB n m:Nat)(xs ys:List Int)(w:World)(hx:Rs w w.heap.size A xs)(hy:Rs w w.heap.size A2 ys)(hn:xs.length=n)(hm:ys.length=m)(hnm:n<=m)(hl:n<=1000)(h1:eG xs)(h2:eG ys):
 Calls Tryz.prog 104 #[.slice A n cA,.slice A2 m cB] w fun e w'=>e=.returned (.int .i64 (bz xs ys n))/\w=w':=by
 have HX:=hid hx
 have HY:=hid hy
 have HN:=hid hn
 have HM:=hid hm
 have H1:=hid h1
 have H2:=hid h2
 clear hx hy hn hm h1 h2
 go_enter Tryz.func104,Tryz.ntmps104
 go_wp2
 go_loop [5,10] (fun sv iv=> ∃(k:Nat) (s:Int),k<=n/\iv=.int .i64 k/\sv=.int .i64 s/\Hid (s=bz xs ys k)) (fun _ iv=>n-(intOf iv).toNat)
 case atStart=>exact⟨0,0,ah,rfl,rfl,hid rfl⟩
 case round=>
  exact l30
def aaB(l:List Int)(n:Nat):Bool:=decide (bz l l n<16*(n:Int))
theorem aiK(A:Option Addr)(c n:Nat)(l:List Int)(w:World)(hx:Rs w w.heap.size A l)(hn:l.length=n)(hl:n<=1000)(h1:eG l):
 Calls Tryz.prog 42 #[.slice A n c] w fun e w'=>e=.returned (.bool (aaB l n))/\w=w':=by
 have HX:=hid hx
 have HN:=hid hn
 have H1:=hid h1
 clear hx hn h1
 go_enter Tryz.func42,Tryz.ntmps42
 go_wp2
 go_loop [3,8] (fun sv iv=> ∃(k:Nat) (s:Int),k<=n/\iv=.int .i64 k/\sv=.int .i64 s/\Hid (s=bz l l k)) (fun _ iv=>n-(intOf iv).toNat)
 case atStart=>exact⟨0,0,ah,rfl,rfl,hid rfl⟩
 case round=>
  obtain⟨k,s,hk,rfl,rfl,HS⟩:=hrel
  have dr:=oq H1.out H1.out k
  rw[<-HS.out] at dr
  have s1: -1073741824000<=s:=ah
  have s2:s<=1073741824000:=ah
  clear dr
  by_cases hlt:k<n
  ·have ST:=hid (show bz l l (k+1)=s+l.getD k 0*l.getD k 0 from BK)
   obtain⟨ad,rfl,_,k0⟩:=HX.out.at_ (k:=k) iE
   have x16:=H1.out k
   generalize l.getD k 0=x at*
   obtain⟨p1,p2⟩:=kU x16.1 x16.2 x16.1 x16.2
   go_wp2
   go_round
   case rel=>exact⟨k+1,_,ah,aO,rfl,hid ST.out.symm⟩
   case measure=>simp[intOf]<;>omega
  obtain rfl:k=n:=ah
  have hw1:IntKind.i64.wrap (16*(k:Int))=16*k:=aN
  have HQ:=hid (show aaB l k=decide (s<16*(k:Int)) from BK)
  go_wp2
  go_ret
  exact⟨by rw[HQ.out];rfl,rfl⟩
def Ez(w:World)(r:List Int)(e:Ending)(w':World):Prop:=e=.returned (.tuple #[.agg (agi (bQ 8 (jg r).1)),.int .i64 (jg r).2.1,.bool (jg r).2.2])/\Below w.heap.size w w'
theorem tH{w w':World}{r k:List Int}{e:Int}{b:Bool}(h:jg r=(k,e,b))(hB:Below w.heap.size w w'):Ez w r (.returned (.tuple #[.agg (agi (bQ 8 k)),.int .i64 e,.bool b])) w':=by
 refine⟨?_,hB⟩
 rw[h]
theorem JQ:bQ 8 []=Z8:=rfl
structure Bx4(w wr:World)(r kk arr:List Int):Prop where
 A:IB wr w.heap.size 90 r
 R:IB wr (w.heap.size+1) 22 Z8
 K:IB wr (w.heap.size+1+1) 22 kk
 P:IB wr (w.heap.size+1+1+1) 90 arr
 bel:Below w.heap.size w wr
theorem Bx4.lt{w wr:World}{r kk arr:List Int}(h:Bx4 w wr r kk arr):w.heap.size+1+1+1<wr.heap.size:=Blk.lt h.P
theorem Bx4.drew{w wr:World}{r kk arr:List Int}(h:Bx4 w wr r kk arr):Bx4 w wr.drew r kk arr:=⟨h.A,h.R,h.K,h.P,h.bel.drew⟩
theorem Bx4.drewN{w wr:World}{r kk arr:List Int}(h:Bx4 w wr r kk arr)(n:Nat):Bx4 w (wr.drewN n) r kk arr:=⟨h.A,h.R,h.K,h.P,h.bel.trans ⟨rfl,rfl,rfl,al0z _,fun _ _=>rfl⟩⟩
theorem Bx4.setK{w wr:World}{r kk arr:List Int}(h:Bx4 w wr r kk arr)(i:Nat)(v:Int):Bx4 w (wr.setCell ⟨w.heap.size+1+1,i,none⟩ (.int .i64 v)) r (kk.set i v) arr:=
 ⟨Blk.far h.A Uw _,Blk.far h.R Ut _,IB.set_ h.K i v,Blk.far h.P (by show w.heap.size+1+1+1≠w.heap.size+1+1;omega) _,h.bel.setCell (p:=⟨w.heap.size+1+1,i,none⟩) Ux _⟩
theorem Bx4.setP{w wr:World}{r kk arr:List Int}(h:Bx4 w wr r kk arr)(i:Nat)(v:Int):Bx4 w (wr.setCell ⟨w.heap.size+1+1+1,i,none⟩ (.int .i64 v)) r kk (arr.set i v):=
 ⟨Blk.far h.A (by show w.heap.size≠w.heap.size+1+1+1;omega) _,Blk.far h.R (by show w.heap.size+1≠w.heap.size+1+1+1;omega) _,Blk.far h.K (by show w.heap.size+1+1≠w.heap.size+1+1+1;omega) _,IB.set_ h.P i v,h.bel.setCell (p:=⟨w.heap.size+1+1+1,i,none⟩) (by show w.heap.size<=w.heap.size+1+1+1;omega) _⟩
theorem Bx4.stored{w wr:World}{r kk arr:List Int}(h:Bx4 w wr r kk arr)(o:Obj)(c2:Array Value):Bx4 w ((wr.alloc o).setRow wr.heap.size c2) r kk arr:=
 ⟨Blk.rowFar (Blk.alloc h.A o) rI,Blk.rowFar (Blk.alloc h.R o) rI,Blk.rowFar (Blk.alloc h.K o) rI,Blk.rowFar (Blk.alloc h.P o) rI,
  aS (h.bel.alloc h.bel.size o) h.bel.size c2⟩
theorem Bx4.start(w:World)(r:List Int):Bx4 w (((((w.alloc (.cells (agi r) 90)).alloc (.cells (agi Z8) 22)).alloc (.cells (agi Z8) 22)).alloc (.cells (agi Z9) 90)).setRow (w.heap.size+1+1+1) (agi P0)) r Z8 P0:=by
 have h1:=IB.new w 90 r
 have h2:=IB.new (w.alloc (.cells (agi r) 90)) 22 Z8
 have h3:=IB.new ((w.alloc (.cells (agi r) 90)).alloc (.cells (agi Z8) 22)) 22 Z8
 have h4:=IB.new (((w.alloc (.cells (agi r) 90)).alloc (.cells (agi Z8) 22)).alloc (.cells (agi Z8) 22)) 90 Z9
 simp only[bU] at h2 h3 h4
 exact⟨Blk.rowFar (((Blk.alloc h1 _).alloc _).alloc _) ah,Blk.rowFar ((Blk.alloc h2 _).alloc _) ah,Blk.rowFar (Blk.alloc h3 _) ah,h4.setRow P0,
  aS (((((aA _ _).alloc (al0z _) _).alloc az _).alloc aJ _).alloc aJ _) ah _⟩
theorem Bx4.start0(w:World)(r:List Int):IB ((((w.alloc (.cells (agi r) 90)).alloc (.cells (agi Z8) 22)).alloc (.cells (agi Z8) 22)).alloc (.cells (agi Z9) 90)) (w.heap.size+1+1+1) 90 Z9:=by
 have h4:=IB.new (((w.alloc (.cells (agi r) 90)).alloc (.cells (agi Z8) 22)).alloc (.cells (agi Z8) 22)) 90 Z9
 simp only[bU] at h4
 exact h4
theorem ajj(r:List Int)(w:World)(hl:r.length=9):Calls Tryz.prog 39 #[.agg (agi r)] w (Ez w r):=by
 have I0:=hid (Bx4.start w r)
 have O0:=hid (Bx4.start0 w r)
 have hR:=qC (fn:=Tryz.f39) (p:=2) (q:=3) (r:=4) (ty:=22) rfl
 have HL:=hid hl
 have HIX:=hid (fun(k:Nat) (hk:k<9) (w:World)=>jp Tryz.underlying90 r hl k hk w)
 have c0:=IB.cell I0.out.A 0 ah
 obtain⟨r0,hr0⟩:∃r0,r0=r.getD 0 0:=⟨_,rfl⟩
 rw[<-hr0,bW,jq] at c0
 have HR0:=hid hr0
 rw[bW,jq] at I0
 rw[bW,jq] at O0
 rw[<-jq] at O0
 clear hl hr0
 go_enter Tryz.func39,Tryz.ntmps39
 go_wp2_with(first
  |(refine aP rfl 90 (.tmp 6) (.tmp 16) rfl _ 90 Z9 P0 9 rfl rfl O0.out bC rfl rfl ?_)
  |(refine aK rfl 90 (.tmp 1) rfl _ 90 r 9 _ rfl I0.out.A Tryz.underlying90 rfl bC HL.out ?_))
 go_loop [20] (fun iv=> ∃k:Nat,k<=9/\iv=.int .i64 k/\Hid (allTo okS r k)) (fun iv=>9-(intOf iv).toNat)
 case atStart=>exact⟨0,ah,rfl,hid allTo.zero⟩
 case round=>
  obtain⟨k,hk,rfl,HY⟩:=hrel
  by_cases hlt:k<9
  ·have hix:=HIX.out k hlt
   obtain⟨x,hx⟩:∃x,x=r.getD k 0:=⟨_,rfl⟩
   rw[<-hx] at hix
   have HX:=hid hx
   clear hx
   by_cases hbad:x< -2147483647\/2147483647<x
   ·have FIN:=hid (tH (ZG (iL (i:=k) oK (ZC vh))) (aS I0.out.bel (g:=w.heap.size+1) ah (agi Z8)))
    rw[JQ] at FIN
    rcases hbad with b1|b1
    ·have b0: ¬2147483647<x:=ah
     exact l58
    skip
    exact l58
   have b1: -2147483647<=x:=ah
   have b2:x<=2147483647:=ah
   have HN:=hid (HY.out.succ (by rw[<-HX.out];exact ZB b1 b2))
   clear hbad
   exact l47
  obtain rfl:k=9:=ah
  have sd:r.all okS=true:=HY.out.all L9
  have RW:=hid (RQ sd)
  clear hlt
  by_cases hlow:r0<=0
  ·have FIN:=hid (tH (ZH (r:=r) (by rw[<-HR0.out];exact hlow)) (aS I0.out.bel (g:=w.heap.size+1) ah (agi Z8)))
   rw[JQ] at FIN
   clear sd
   have hRow:=hid (I0.out.R.setRow Z8)
   go_wp2_with(first
    |(refine aK rfl 22 (.tmp 5) rfl _ 22 Z8 8 _ rfl I0.out.K Tryz.underlying22 rfl aH rfl ?_)
    |(refine aP rfl 22 (.tmp 2) (.tmp 33) rfl _ 22 Z8 Z8 8 rfl rfl I0.out.R aH rfl rfl ?_))
   refine bg (v:=_) (hR _ _ _ 22 Z8 _ 8 rfl hRow.out Tryz.underlying22 rfl aH rfl) rfl ?_
   exact FIN.out
  have h0:0<r0:=ah
  have ST0:=hid (LevSt.start sd (by rw[<-HR0.out];exact h0))
  rw[<-HR0.out] at ST0
  clear sd hlow
  go_wp2
  go_loopw[7,10] (fun ev mv wr=> ∃(m:Nat) (e:Int) (al k arr:List Int),1<=m/\m<=9/\mv=.int .i64 m/\ev=.int .i64 e/\Hid (LevSt r m al e k)/\Hid (RR arr al)/\Hid (Bx4 w wr r (bQ 8 k) arr)) (fun _ mv _=>9-(intOf mv).toNat)
  case atStart=>exact⟨1,r0,_,[],P0,ah,ah,rfl,rfl,ST0,hid ⟨rfl,fun j=>Qp [] j|>.symm⟩,I0⟩
  case round=>
   clear I0 O0 c0 ST0
   obtain⟨m,e,al,k,arr,hm1,hm9,rfl,rfl,ST,HA,HI⟩:=hrel
   obtain⟨wo,rfl⟩:∃wo:World,wo=wr:=⟨_,rfl⟩
   have LK:=hid (Cm (n:=8) (k:=k) Bj)
   by_cases hlt:m<=8
   ·have AB:=hid (ST.out.bnd hm9)
    have he0:=ST.out.e0
    have he1:=ST.out.e1
    go_wp2
    go_loopw[11,39] (fun sv iv wr=> ∃(i d:Nat) (s:Int),i<=m/\iv=.int .i64 i/\sv=.int .i64 s/\Hid (s=aI (lC al r m) i)/\Hid (wr=wo.drewN d)) (fun _ iv _=>m-(intOf iv).toNat)
    case atStart=>exact⟨0,0,0,ah,rfl,rfl,hid rfl,hid rfl⟩
    case round=>
     obtain⟨i,d0,s,hi,rfl,rfl,HS,HW⟩:=hrel
     obtain rfl:=HW.out
     clear HW
     by_cases hil:i<m
     ·obtain⟨d,hd⟩:∃d:Nat,m=i+d:=⟨m-i,ah⟩
      have hsub:(m:Int)-(i:Int)=(d:Nat):=ah
      have c1:=HI.out.P.cell i (by rw[HA.out.1];omega)
      have c2:=HI.out.A.cell d nV
      rw[HA.out.2] at c1
      have tb:=RU (m:=m) AB.out RW.out i
      have sb:=Ju (m:=m) AB.out RW.out i ah
      rw[<-HS.out] at sb
      have HT:=hid (show aI (lC al r m) (i+1)=s+lC al r m i from BK)
      unfold lC at tb HT
      rw[show m-i=d from ah] at tb HT
      generalize al.getD i 0=x at*
      generalize r.getD d 0=y at*
      obtain⟨⟨t1,t2⟩,⟨t3,t4⟩,⟨t5,t6⟩⟩:=tb
      obtain⟨s1,s2⟩:=sb
      have hi9:i<9:=ah
      have hd9:d<9:=ah
      have HD:=hid hd
      clear hd
      go_wp2
      go_quiet (fail)
      go_wp2
      go_roundw
      case rel=>exact⟨i+1,_,_,ah,aO,rfl,hid (by rw[show aI (lC al r m) (i+1)=_ from HT.out]),hid (by first|rfl|simp)⟩
      case measure=>simp[intOf]<;>omega
     obtain rfl:m=i:=ah
     have ID:=hid (HI.out.drewN d0)
     have sb:=Ju (m:=m) AB.out RW.out m ah
     rw[<-HS.out] at sb
     obtain⟨s1,s2⟩:=sb
     obtain⟨q,hq⟩:∃q,q=(-s*32768).tdiv e:=⟨_,rfl⟩
     have tq:=Pq (x:= -s*32768) (e:=e) he0
     rw[<-hq] at tq
     have q1: -9223372036854775808<=q:=ah
     have q2:q<=9223372036854775807:=ah
     have HQ:=hid (show q=(-kQ al r m*32768).tdiv e by rw[hq,HS.out,ZI])
     have hqe:(-s*32768).tdiv e=q:=hq.symm
     have hene: ¬e=0:=ah
     clear hq tq hil
     by_cases hb:q<= -32000\/32000<=q
     ·have FIN:=hid (tH (ST.out.stop hm1 hlt HQ.out hb) (aS ID.out.bel (g:=w.heap.size+1) ah (agi (bQ 8 k))))
      rcases hb with b1|b1
      ·skip
       have hRow:=hid (ID.out.R.setRow (bQ 8 k))
       go_wp2_with(first
        |(refine aK rfl 22 (.tmp 5) rfl _ 22 (bQ 8 k) 8 _ rfl ID.out.K Tryz.underlying22 rfl aH LK.out ?_)
        |(refine aP rfl 22 (.tmp 2) (.tmp 67) rfl _ 22 Z8 (bQ 8 k) 8 rfl rfl ID.out.R aH rfl LK.out ?_))
       exact l40
      have b0: ¬q<= -32000:=ah
      have hRow:=hid (ID.out.R.setRow (bQ 8 k))
      go_wp2_with(first
       |(refine aK rfl 22 (.tmp 5) rfl _ 22 (bQ 8 k) 8 _ rfl ID.out.K Tryz.underlying22 rfl aH LK.out ?_)
       |(refine aP rfl 22 (.tmp 2) (.tmp 67) rfl _ 22 Z8 (bQ 8 k) 8 rfl rfl ID.out.R aH rfl LK.out ?_))
      exact l40
     have b1: -32000<q:=ah
     have b2:q<32000:=ah
     clear hb
     obtain⟨j,hj⟩:∃j,m=j+1:=⟨m-1,ah⟩
     have hsub1:(m:Int)-1=(j:Nat):=ah
     have hj8:j<8:=ah
     have cK:=ID.out.K.cell j (by rw[LK.out];exact hj8)
     have fK:=Blk.frozen ID.out.K j
     have LK2:=hid (Cm (n:=8) (k:=k++[q]) (by have:=ST.out.lk;simp;omega))
     have I2:=hid (show Bx4 w ((wo.drewN d0).setCell ⟨w.heap.size+1+1,j,none⟩ (.int .i64 q)) r (bQ 8 (k++[q])) arr by
      have:=ID.out.setK j q
      rw[VR q Bj,show k.length=j from Bj]
      exact this)
     have hsz:((wo.drewN d0).setCell ⟨w.heap.size+1+1,j,none⟩ (.int .i64 q)).heap.size=wo.heap.size:=zi
     have NB0:=IB.new ((wo.drewN d0).setCell ⟨w.heap.size+1+1,j,none⟩ (.int .i64 q)) 90 Z9
     have I3:=I2.out.stored (.cells (agi Z9) 90) (agi arr)
     rw[hsz] at NB0 I3
     have NB1:=hid (NB0.setRow arr)
     have NB0:=hid NB0
     have I3:=hid I3
     have hlt0:=ID.out.lt
     have hlt1:w.heap.size+1+1+1<wo.heap.size:=hlt0
     have MID:=hid (LevMid.start (q:=q) (m:=m) HA.out)
     rw[jq] at I3 NB1
     clear hsz hlt0 hj HS
     go_wp2_with(first
      |(refine aK rfl 90 (.tmp 6) rfl _ 90 arr 9 _ rfl I2.out.P Tryz.underlying90 rfl bC HA.out.1 ?_)
      |(refine aP rfl 90 (.tmp 14) (.tmp 73) rfl _ 90 Z9 arr 9 rfl rfl NB0.out bC rfl HA.out.1 ?_))
     go_loopw[15] (fun iv wr=> ∃(i:Nat) (zs:List Int),1<=i/\i<=m+1/\iv=.int .i64 i/\Hid (LevMid al zs q m i)/\Hid (Bx4 w wr r (bQ 8 (k++[q])) zs)/\Hid (IB wr wo.heap.size 90 arr)) (fun iv _=>m+1-(intOf iv).toNat)
     case atStart=>exact⟨1,arr,ah,ah,rfl,MID,I3,NB1⟩
     case round=>
      clear I3 NB1 NB0 I2 MID cK fK
      obtain⟨i,zs,hi1,hi2,rfl,HM,HI2,HW2⟩:=hrel
      by_cases hle:i<=m
      ·obtain⟨d,hd⟩:∃d:Nat,m=i+d:=⟨m-i,ah⟩
       have hsub:(m:Int)-(i:Int)=(d:Nat):=ah
       have c1:=HW2.out.cell i (by rw[HA.out.1];omega)
       have c2:=HW2.out.cell d (by rw[HA.out.1];omega)
       have c3:=HI2.out.P.cell i Ny
       have f3:=Blk.frozen HI2.out.P i
       rw[HA.out.2] at c1 c2
       have bx:=AB.out i
       have by':=AB.out d
       have STP:=hid (HM.out.step hi1 hle ah)
       rw[show m-i=d from ah] at STP
       generalize al.getD i 0=x at*
       generalize al.getD d 0=y at*
       obtain⟨bx1,bx2⟩:=bx
       obtain⟨by1,by2⟩:=by'
       have pr:=ja (x:=q) (X:=32768) (y:=y) (Y:=4294967296) ah ah ⟨ah,ah⟩ ⟨ah,ah⟩
       have p1: -140737488355328<=q*y:=ah
       have p2:q*y<=140737488355328:=ah
       have NI:=hid (HI2.out.setP i (x+q*y/32768)).drew
       have NW:=hid (Blk.far HW2.out (p:=⟨w.heap.size+1+1+1,i,none⟩) (by show wo.heap.size≠w.heap.size+1+1+1;omega) (.int .i64 (x+q*y/32768)))
       have hd9:d<9:=ah
       have hi9:i<9:=ah
       clear pr hd
       go_wp2
       go_region
       all_goals
        go_wp2
        go_roundw
        case rel=>exact⟨i+1,_,ah,ah,aO,STP,NI,NW⟩
        case measure=>simp[intOf]<;>omega
      obtain rfl:i=m+1:=ah
      have AF:=hid (HM.out.fin ST.out.la)
      obtain⟨⟨u1,u2⟩,⟨u3,u4⟩,u5,u6⟩:=Pv he0 he1 b1 b2
      by_cases hend:e-e*q/32768*q/32768<=0
      ·have FIN:=hid (tH (ST.out.none_ hm1 hlt HQ.out b1 b2 hend) (aS HI2.out.bel (g:=w.heap.size+1) ah (agi (bQ 8 (k++[q])))))
       have hRow:=hid (HI2.out.R.setRow (bQ 8 (k++[q])))
       go_wp2_with(first
        |(refine aK rfl 22 (.tmp 5) rfl _ 22 (bQ 8 (k++[q])) 8 _ rfl HI2.out.K Tryz.underlying22 rfl aH LK2.out ?_)
        |(refine aP rfl 22 (.tmp 2) (.tmp 104) rfl _ 22 Z8 (bQ 8 (k++[q])) 8 rfl rfl HI2.out.R aH rfl LK2.out ?_))
       exact abX
      have NST:=hid (ST.out.next hm1 hlt HQ.out b1 b2 ah)
      have hend2:0<e-e*q/32768*q/32768:=ah
      go_wp2
      go_roundw
      case rel=>exact⟨m+1,_,_,_,zs,ah,ah,aO,rfl,NST,AF,HI2⟩
      case measure=>simp[intOf]<;>omega
   obtain rfl:m=9:=ah
   have FIN:=hid (tH ST.out.fin (aS HI.out.bel (g:=w.heap.size+1) ah (agi (bQ 8 k))))
   clear hlt
   have hRow:=hid (HI.out.R.setRow (bQ 8 k))
   go_wp2_with(first
    |(refine aK rfl 22 (.tmp 5) rfl _ 22 (bQ 8 k) 8 _ rfl HI.out.K Tryz.underlying22 rfl aH LK.out ?_)
    |(refine aP rfl 22 (.tmp 2) (.tmp 105) rfl _ 22 Z8 (bQ 8 k) 8 rfl rfl HI.out.R aH rfl LK.out ?_))
   exact l40
theorem ajG{ws:List Nat}(hok:wok ws){k:Nat}(hk:k<ws.length):ws.getD k 0=wv ws/2^(32*k)%2^32:=by
 have h1:=Vt ws hok k ah
 have h2:ws.drop k=ws.getD k 0::ws.drop (k+1):=by
  rw[List.drop_eq_getElem_cons hk,bi,jO hk]
  rfl
 have h3:=kO hok k
 rw[h2] at h1
 simp only[wv] at h1
 have e:(4294967296:Nat)^k=2^(32*k):=by rw[Nat.pow_mul]
 rw[<-e,<-h1,show(2:Nat)^32=4294967296 from rfl]
 omega
theorem ajH(X i:Nat):X/2^(32*(i/4))%2^32/2^(8*(i%4))%256=jG X (8*i):=by
 apply Nat.eq_of_testBit_eq
 intro q
 rw[Dt,show 256=2^8 from rfl,Nat.testBit_mod_two_pow,Nat.testBit_div_two_pow,Nat.testBit_mod_two_pow,Nat.testBit_div_two_pow]
 by_cases hq:q<8
 ·have h1:q+8*(i%4)<32:=ah
  have h2:q+8*(i%4)+32*(i/4)=8*i+q:=ah
  rw[h2]
  simp[hq,h1]
 simp[hq]
def byN(X n i:Nat):List Int:=(List.range n).map (fun j=>if n-1-j<i then(jG X (8*(n-1-j)):Int) else 0)
theorem wP(X n i:Nat):(byN X n i).length=n:=by simp[byN]
theorem ajI(X n:Nat):byN X n 0=List.replicate n 0:=by
 refine List.ext_getElem? fun j=>?_
 unfold byN
 by_cases hj:j<n
 ·simp[hj]
 simp[hj]
theorem ajJ(X n:Nat){i:Nat}(hi:i<n):(byN X n i).set (n-1-i) (jG X (8*i):Nat)=byN X n (i+1):=by
 refine List.ext_getElem? fun j=>?_
 by_cases hj:j<n
 ·rw[List.getElem?_set,wP]
  unfold byN
  simp only[rq,List.getElem?_range hj,Option.map_some]
  by_cases e:n-1-i=j
  ·rw[if_pos e,if_pos ah,if_pos ah,show n-1-j=i from ah]
  rw[if_neg e]
  congr 1
  by_cases h:n-1-j<i
  ·rw[if_pos h,if_pos ah]
  rw[if_neg h,if_neg ah]
 rw[List.getElem?_eq_none (by rw[List.length_set,wP];omega),List.getElem?_eq_none (by rw[wP];omega)]
theorem ajK{X n:Nat}(hn:n<=14)(hX:X<2^(8*n)):List.replicate (14-n) 0++byN X n n=iG X:=by
 refine List.ext_getElem? fun j=>?_
 by_cases hj:j<14
 ·rw[Dy X hj]
  by_cases h:j<14-n
  ·rw[mF (by simp;exact h),List.getElem?_replicate,if_pos h]
   have:X<2^(8*(13-j)):=lF hX (Nat.pow_le_pow_right aB ah)
   unfold jG
   rw[Nat.div_eq_of_lt this]
   rfl
  rw[uY aJ,nM]
  unfold byN
  have hr:j-(14-n)<n:=ah
  simp only[rq,List.getElem?_range hr,Option.map_some]
  rw[if_pos ah,show n-1-(j-(14-n))=13-j from ah]
 rw[List.getElem?_eq_none (by simp[wP];omega),List.getElem?_eq_none EY]
theorem OwnB.set_{w:World}{base c g:Nat}{xs:List Int}(h:OwnB w base (some ⟨g,0,none⟩) c xs)(k:Nat)(x:Int):OwnB (w.setCell ⟨g,k,none⟩ (.int .u8 x)) base (some ⟨g,0,none⟩) c (xs.set k x):=by
 have h1:=World.ownsRow.stored (g:=g) (cap:=c) h k (.int .u8 x)
 unfold OwnB
 rw[List.length_set]
 have e:bts (xs.set k x)=(bts xs).set k (.int .u8 x):=by simp[bts,List.map_set]
 rw[e];exact h1.1
theorem OwnB.cell{w:World}{base c g:Nat}{xs:List Int}(h:OwnB w base (some ⟨g,0,none⟩) c xs)(k:Nat)(hk:k<xs.length):w.cell? ⟨g,k,none⟩=some (.int .u8 (xs.getD k 0)):=by
 have h1:=World.ownsRow.cellAt (g:=g) (cap:=c) h k ah
 rw[h1];exact Qx xs k hk
theorem OwnB.frozen{w:World}{base c g:Nat}{xs:List Int}(h:OwnB w base (some ⟨g,0,none⟩) c xs)(k:Nat):w.frozen? ⟨g,k,none⟩=false:=World.ownsRow.frozenAt h k
def byC(X:Nat):Nat:=(fH X+7)/8
theorem ajL(X:Nat):X<2^(8*byC X):=lF (Cf X) (Nat.pow_le_pow_right aB (by unfold byC;omega))
theorem ajM{X:Nat}(h:X<2^112):byC X<=14:=by
 have:=xJ h
 unfold byC
 omega
theorem ajN(w:World)(c X:Nat)(hc:IntAt w c (X:Nat))(hX:X<2^112):
 Calls Tryz.prog 82 #[.pointer (some ⟨c,0,none⟩)] w fun e w'=> ∃g,e=.returned (.slice (some ⟨g,0,none⟩) (byC X) (byC X))/\w.heap.size<=g/\OwnB w' w.heap.size (some ⟨g,0,none⟩) (byC X) (byN X (byC X) (byC X))/\Below w.heap.size w w':=by
 have hs:Sm (X:Int).natAbs:=aW (by show X<_;exact Nat.lt_trans hX aB)
 obtain⟨v,_,hc1,hv⟩:=hc.cells
 have hv:Nm w v X:=hv
 have hs:Sm X:=hs
 obtain⟨ao,len,cap,ws,rfl,hr,ht,hwv,hl⟩:=hv.len hs
 have KL:=hid (Pi w (.slice ao len cap) X hv hs)
 have hb1:fH X<=32*len:=by
  have h1:=uA hr.ok
  rw[hwv,hr.len] at h1
  have e:(4294967296:Nat)^len=2^(32*len):=by rw[Nat.pow_mul]
  rw[e] at h1
  exact xJ h1
 have hb2:fH X<=112:=xJ hX
 obtain⟨n,hn⟩:∃n,n=byC X:=⟨_,rfl⟩
 rw[<-hn]
 unfold byC at hn
 generalize fH X=bl at*
 have hw0:IntKind.i64.wrap ((bl:Int)+7)=(bl:Int)+7:=aN
 have hq0:((bl:Int)+7)/8=(n:Nat):=ah
 have HC:=hid hc.lt
 have H1:=hid hc1
 have HR:=hid hr
 have HWV:=hid hwv
 have hn14:n<=14:=ah
 have HNN:=hid hn
 clear hv ht hc hs hn hwv hX
 go_enter Tryz.func82,Tryz.ntmps82
 go_wp2_with(first
  |(go_at_call 154;(with_reducible refine KL.out.mono ?_);rintro e w' ⟨rfl,rfl⟩)
  |(at_make;refine Sj rfl _ _ rfl .i64 .i64 n abk abk w.heap.size ah (al0z _) ?_;intro w1 hO hG;have O1:=hid (show OwnB w1 w.heap.size (some ⟨w.heap.size,0,none⟩) n (byN X n 0) by rw[ajI];exact hO);have B1:=hid ((aA w.heap.size w).grown hG (al0z _) az);clear hO hG))
 try rw[hq0]
 clear hw0 hq0 hc1
 go_loopw[5] (fun iv wr=> ∃i:Nat,i<=n/\iv=.int .i64 i/\Hid (OwnB wr w.heap.size (some ⟨w.heap.size,0,none⟩) n (byN X n i))/\Hid (Below w.heap.size w wr)) (fun iv _=>n-(intOf iv).toNat)
 case atStart=>exact⟨0,ah,rfl,O1,B1⟩
 case round=>
  clear O1 B1
  obtain⟨i,hi,rfl,HO,HB⟩:=hrel
  by_cases hlt:i<n
  ·have hil:i/4<len:=by have:=HNN.out;omega
   obtain⟨g,off,rfl⟩:=HR.out.addr ah
   have rr:=HR.out.below HB.out (al0z _)
   obtain⟨k,hk⟩:∃k,k=i/4:=⟨_,rfl⟩
   obtain⟨s,hs⟩:∃s,s=8*(i%4):=⟨_,rfl⟩
   obtain⟨J,hJ⟩:∃J,J=n-1-i:=⟨_,rfl⟩
   have cw:=rr.cell k ah
   have ca:wr.cell? ⟨c,1,none⟩=some (.slice (some ⟨g,off,none⟩) len cap):=(HB.out.cell (p:=⟨c,1,none⟩) HC.out).trans H1.out
   have wx:=ajG HR.out.ok (k:=k) (by rw[HR.out.len];omega)
   rw[HWV.out] at wx
   have wl:=kO HR.out.ok k
   have DX:=ajH X i
   rw[<-hk,<-hs] at DX
   rw[<-wx] at DX
   have HSet:=hid (ajJ X n hlt)
   rw[<-hJ] at HSet
   have co:=HO.out.cell J (by rw[wP];omega)
   have fo:=HO.out.frozen J
   generalize ws.getD k 0=wk at*
   obtain⟨d,hd⟩:∃d,d=jG X (8*i):=⟨_,rfl⟩
   rw[<-hd] at DX HSet
   obtain⟨y,hy⟩:∃y,y=wk/2^s:=⟨_,rfl⟩
   rw[<-hy] at DX
   have hyd:(wk:Int)/2^s=(y:Nat):=by rw[hy];simp
   have hd8:IntKind.u8.wrap ((y:Nat):Int)=(d:Nat):=MV
   have hw1:IntKind.i64.wrap ((n:Int)-1)=(n:Int)-1:=aN
   have hw2:IntKind.i64.wrap ((n:Int)-1-i)=(J:Nat):=aN
   have hk4:(i:Int)/4=(k:Nat):=ah
   have hiu:IntKind.u64.wrap (i:Int)=i:=xe
   have hms:IntKind.u64.wrap (8*((i:Int)%4))=(s:Nat):=xe
   have s0:(0:Int)<=s:=ah
   have s64:(s:Int)<64:=ah
   have s32:(s:Int)<32:=ah
   have J0:(0:Int)<=J:=ah
   have Jn:(J:Int)<n:=ah
   have k0:(0:Int)<=k:=ah
   have kl:(k:Int)<len:=ah
   have NO:=hid (show OwnB (wr.setCell ⟨w.heap.size,J,none⟩ (.int .u8 (d:Nat))) w.heap.size (some ⟨w.heap.size,0,none⟩) n (byN X n (i+1)) from by rw[<-HSet.out];exact HO.out.set_ J _)
   have NB:=hid (HB.out.setCell (p:=⟨w.heap.size,J,none⟩) (al0z _) (.int .u8 (d:Nat)))
   clear hk hs hJ hd hy wx wl rr
   go_wp2
   go_roundw
   case rel=>exact⟨i+1,ah,aO,NO,NB⟩
   case measure=>simp[intOf]<;>omega
  obtain rfl:i=n:=ah
  go_wp2
  go_ret
  exact⟨_,rfl,al0z _,HO.out,HB.out⟩
theorem ajO{B:Nat}{w wr:World}{g i:Nat}{t:TypeId}{cs:Array Value}{v:Value}(h:Below B w wr)(hb:Blk wr g t cs)(hi:cs[i]?=some v):Below B w (wr.setCell ⟨g,i,none⟩ v):=
 ⟨h.os,h.tape,h.output,by simpa[World.setCell] using h.size,fun k hk=>by
   by_cases e:k=g
   ·subst e
    have h1:=Blk.set_ hb i v
    have e2:cs.setIfInBounds i v=cs:=by
     have hlt:i<cs.size:=by
      rcases Nat.lt_or_ge i cs.size with h3|h3
      ·exact h3
      ·rw[Array.getElem?_eq_none h3] at hi;cases hi
     apply Array.ext
     ·simp
     ·intro j h3 h4
      rw[Array.getElem_setIfInBounds]
      split
      ·rename_i e3
       subst e3
       rw[Array.getElem?_eq_getElem hlt] at hi
       exact(nP hi).symm
      ·rfl
    rw[e2] at h1
    exact h1.trans (hb.symm.trans (h.block k hk))
   ·exact(Below.heap_setCell wr _ v k e).trans (h.block k hk)⟩
theorem aaZ:(Tryz.prog.info? 5).map (·.size)=some 1:=au
theorem aa2{X n:Nat}(hn:n<=14)(hX:X<2^(8*n)):splice (bts (List.replicate 14 0)) (14-n) (bts (byN X n n))=bts (iG X):=by
 rw[<-ajK hn hX]
 unfold splice bts
 rw[tX,wP,<-List.map_take,<-List.map_drop,List.map_append,List.take_replicate,List.drop_replicate]
 rw[show min (14-n) 14=14-n from ah,show 14-(14-n+n)=0 from ah]
 simp
theorem ajP{w:World}{B:Nat}{ad:Addr}{xs:List Int}(h:Rb w B (some ad) xs)(hn:0<xs.length):∀j u,(bts xs)[j]?=some u->w.cell? (ad.add j)=some u:=by
 obtain⟨a,e,_,hc⟩:=h.2 hn
 injection e with e
 subst e
 exact hc
theorem ajQ(w:World)(c gb X:Nat)(hc:IntAt w c (X:Nat))(hX:X<2^112)(hb:Blk w gb 5 (bts (List.replicate 14 0)).toArray):
 Calls Tryz.prog 34 #[.pointer (some ⟨c,0,none⟩),.slice (some ⟨gb,0,none⟩) 14 14] w fun e w'=>e=.returned (.slice (some ⟨gb,0,none⟩) 14 14)/\Blk w' gb 5 (bts (iG X)).toArray/\Below gb w w':=by
 have HC:=hid hc
 have HB0:=hid hb
 have hgl:=Blk.lt hb
 have hn14:=ajM hX
 have hXn:=ajL X
 have KB:=hid (fun W (h:IntAt W c (X:Nat))=>ajN W c X h hX)
 obtain⟨n,hn⟩:∃n,n=byC X:=⟨_,rfl⟩
 rw[<-hn] at hn14 hXn KB
 have HXN:=hid hXn
 clear hc hb hX hn hXn
 go_enter Tryz.func34,Tryz.ntmps34
 go_wp2
 go_loopw[9] (fun iv wr=> ∃i:Nat,i<=14/\iv=.int .i64 i/\Hid (Below w.heap.size w wr)) (fun iv _=>14-(intOf iv).toNat)
 case atStart=>exact⟨0,ah,rfl,hid (aA _ _)⟩
 case round=>
  obtain⟨i,hi,rfl,HB⟩:=hrel
  have HG:=hid (Blk.below' HB0.out HB.out)
  by_cases hlt:i<14
  ·have hv:(bts (List.replicate 14 0)).toArray[i]?=some (.int .u8 0):=by
    simp only[jZ]
    rw[Qx _ _ (by simp;exact hlt),bi,List.getElem?_replicate,if_pos hlt]
    rfl
   have c0:wr.cell? ⟨gb,i,none⟩=some (.int .u8 0):=(Blk.cell HG.out i).trans hv
   have f0:=Blk.frozen HG.out i
   have NB:=hid (ajO HB.out HG.out hv)
   have i0:(0:Int)<=i:=ah
   have i14:(i:Int)<14:=ah
   clear hv
   go_wp2
   go_roundw
   case rel=>exact⟨i+1,ah,aO,NB⟩
   case measure=>simp[intOf]<;>omega
  obtain rfl:i=14:=ah
  try rw[show((14:Nat):Int)=14 from rfl]
  have HCr:=hid (HC.out.below HB.out (al0z _))
  rcases Nat.eq_zero_or_pos n with hz|hp
  ·subst hz
   have hD:=hid (show bts (iG X)=bts (List.replicate 14 0) from by
    have:=aa2 hn14 HXN.out
    rw[<-this]
    rfl)
   go_wp2_with(first
    |(go_at_call 82;(with_reducible refine(KB.out wr HCr.out).mono ?_);rintro e w1 ⟨g,rfl,hg,hO,hB⟩;have O1:=hid hO;have G1:=hid (Blk.below' HG.out hB);have B1:=hid (HB.out.trans (hB.mono HB.out.size));have GG:=hid hg;clear hO hB hg)
    |(refine wpList_copy_nothing rfl (.tmp 29) (.tmp 30) 26 26 rfl 5 Tryz.underlying26 aaZ (some ⟨gb,0,none⟩) (some ⟨g,0,none⟩) 0 0 0 0 rfl rfl rfl ?_))
   go_ret
   exact⟨rfl,by rw[hD.out];exact G1.out,B1.out.mono (jy hgl)⟩
  have hle:decide ((n:Int)<=14)=true:=aJ
  obtain⟨lo,hlo⟩:∃lo,lo=14-n:=⟨_,rfl⟩
  have hw1:IntKind.i64.wrap (14-(n:Int))=(lo:Nat):=aN
  have hlo14:lo<14:=ah
  have hne: ¬14=lo:=ah
  have l0:(0:Int)<=lo:=ah
  have l14:(lo:Int)<=14:=ah
  have HLO:=hid hlo
  clear hlo
  go_wp2_with(first
   |(go_at_call 82;(with_reducible refine(KB.out wr HCr.out).mono ?_);rintro e w1 ⟨g,rfl,hg,hO,hB⟩;have O1:=hid hO;have G1:=hid (Blk.below' HG.out hB);have B1:=hid (HB.out.trans (hB.mono HB.out.size));have GG:=hid hg;clear hO hB hg)
   |(refine wpList_copy_splice rfl (.tmp 29) (.tmp 30) 26 26 rfl 5 Tryz.underlying26 aaZ (some ⟨gb,lo,none⟩) (some ⟨g,0,none⟩) (14-lo) (14-lo) n n rfl rfl gb lo (bts (List.replicate 14 0)) 5 G1.out (bts (byN X n n)) (by rw[qO,wP];show n=min n (14-lo);have:=HLO.out;omega) (fun h0=>⟨rfl,_,rfl,ajP O1.out.reads (by rw[qO] at h0;exact h0)⟩) (by rw[qO,qO,wP,nM];have:=HLO.out;omega) (Ye _) gb w (B1.out.mono (jy hgl)) (al0z _) ?_;intro w2 hS hB2;have S2:=hid (show Blk w2 gb 5 (bts (iG X)).toArray from by rw[<-aa2 hn14 HXN.out,<-HLO.out];exact hS);have B2:=hid hB2;clear hS hB2))
  go_ret
  exact⟨rfl,S2.out,B2.out⟩

end Go.Proofs.YthoiikkjjaldnaaGreatDoor
