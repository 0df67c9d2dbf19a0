/- Texts that the law rests on. -/
import Derived.Test.YthoiikkjjaldnaaGreatDoorZ1e04
import Derived.Test.YthoiikkjjaldnaaGreatDoorZ1e06
import Derived.Test.YthoiikkjjaldnaaGreatDoorZ1e07
namespace Go.Proofs.YthoiikkjjaldnaaGreatDoor
set_option linter.unusedVariables false
set_option linter.unusedSimpArgs false
set_option maxRecDepth 100000
set_option maxHeartbeats 8000000
open Go.RowKit
def jG(V e:Nat):Nat:=V/2^e%256
theorem XQ(V e:Nat):jG V e<256:=Nat.mod_lt _ ah
theorem Dt(V e q:Nat):(jG V e).testBit q=(decide (q<8)&&V.testBit (e+q)):=by
 unfold jG
 rw[show 256=2^8 from rfl,Nat.testBit_mod_two_pow,Nat.testBit_div_two_pow,Nat.add_comm q e]
theorem Ic{u:Nat}(hu:u<=1)(x:Nat):u.testBit x=(decide (x=0)&&decide (u=1)):=by
 have:u=0\/u=1:=ah
 rcases this with rfl|rfl
 ·simp
 cases x with
 |zero=>rfl
 |succ x=>simp[Nat.testBit_succ]
theorem afV{V u p e:Nat}(hu:u<=1)(h1:e<=p)(h2:p<e+8):jG (V|||u<<<p) e=jG V e|||u<<<(p-e):=by
 apply Nat.eq_of_testBit_eq
 intro q
 rw[Dt,Nat.testBit_or,Nat.testBit_or,Dt,Nat.testBit_shiftLeft,Nat.testBit_shiftLeft,Ic hu,Ic hu]
 by_cases hq:q<8
 ·by_cases hv:V.testBit (e+q)
  ·simp[hq,hv]
  by_cases h3:e+q=p
  ·have h4:q=p-e:=ah
   subst h4
   simp[hq,hv,h3]
  by_cases h5:p<=e+q
  ·have h6: ¬q-(p-e)=0:=ah
   have h7: ¬e+q-p=0:=ah
   simp[h6,h7,hv]
  have h6: ¬q>=p-e:=ah
  simp[h5,h6,hv]
 by_cases h3:q-(p-e)=0
 ·omega
 simp[hq,h3]
theorem afW{V u p e:Nat}(hu:u<=1)(h:p<e\/e+8<=p):jG (V|||u<<<p) e=jG V e:=by
 apply Nat.eq_of_testBit_eq
 intro q
 rw[Dt,Nat.testBit_or,Dt,Nat.testBit_shiftLeft,Ic hu]
 by_cases hq:q<8
 ·by_cases h5:e+q>=p
  ·have h7: ¬e+q-p=0:=ah
   simp[h7]
  simp[h5]
 simp[hq]
def iG(V:Nat):List Int:=(List.range 14).map (fun j=>(jG V (8*(13-j)):Int))
theorem afX(V v k P:Nat):(V|||(v>>>(k+1))<<<(P+1))|||((v>>>k%2)<<<P)=V|||(v>>>k)<<<P:=by
 rw[Nat.or_assoc]
 congr 1
 apply Nat.eq_of_testBit_eq
 intro x
 have hu:v>>>k%2<=1:=ah
 rw[Nat.testBit_or,Nat.testBit_shiftLeft,Nat.testBit_shiftLeft,Nat.testBit_shiftLeft,Nat.testBit_shiftRight,Nat.testBit_shiftRight,Ic hu]
 by_cases h1:x>=P
 ·by_cases h2:x=P
  ·subst h2
   have h3:v.testBit k=decide (v>>>k%2=1):=by
    rw[Nat.testBit,Nat.one_and_eq_mod_two]
    by_cases h:v>>>k%2=1
    ·simp[h]
    have:v>>>k%2=0:=ah
    simp[this]
   have h6: ¬x>=x+1:=ah
   rw[decide_eq_false h6,decide_eq_true h1,Nat.sub_self,show k+0=k from rfl,h3]
   simp only[Bool.true_and,Bool.false_and,Bool.false_or,decide_true]
  have h4: ¬x-P=0:=ah
  have h5:k+1+(x-(P+1))=k+(x-P):=ah
  have h6:x>=P+1:=ah
  rw[decide_eq_true h1,decide_eq_true h6,decide_eq_false h4,h5]
  simp only[Bool.true_and,Bool.false_and,Bool.or_false]
 have h6: ¬x>=P+1:=ah
 rw[decide_eq_false h1,decide_eq_false h6]
 rfl
theorem afY(a b:Nat)(ha:a<256)(hb:b<256):bits BinOp.or IntKind.u8 (a:Int) (b:Int)=((a|||b:Nat):Int):=by
 have h:(BitVec.ofInt 8 (a:Int)|||BitVec.ofInt 8 (b:Int)).toNat=a|||b:=by
  rw[BitVec.toNat_or,BitVec.toNat_ofInt,BitVec.toNat_ofInt]
  congr 1<;>omega
 have h2:a|||b<2^8:=Nat.or_lt_two_pow ha hb
 show IntKind.u8.wrap ((BitVec.ofInt 8 (a:Int)|||BitVec.ofInt 8 (b:Int)).toNat:Int)=_
 rw[h]
 rw[IntKind.wrap_u8]
 omega
theorem ahr(a p l:List Int)(A:Option Addr)(c n B:Nat)(w:World)(ha:a.length=9)(hp:p.length=8)(hr:Rs w w.heap.size A l)(hn:l.length=n)(hl:n<=17592186044416):
 Calls Tryz.prog 155 #[.agg (agi a),.agg (agi p),.slice A n c] w (PY w (di a p l)):=by
 have hI:=hid (IB.new w 90 a)
 have hJ:=IB.new (w.alloc (.cells (agi a) 90)) 22 p
 simp only[bU] at hJ
 have hJ:=hid hJ
 have hI:=hid (Blk.alloc hI.out (.cells (agi p) 22))
 have HA:=hid ha
 have HP:=hid hp
 have HN:=hid hn
 have HR:=hid (hr.below (((aA _ w).alloc (al0z _) (.cells (agi a) 90)).alloc az (.cells (agi p) 22)))
 have HB:=hid (((aA _ w).alloc (al0z _) (.cells (agi a) 90)).alloc az (.cells (agi p) 22))
 have hix:=fun(k:Nat) (hk:k<9) (w:World)=>jp Tryz.underlying90 a ha k hk w
 have HIX:=hid hix
 have hjx:=fun(k:Nat) (hk:k<8) (w:World)=>jp Tryz.underlying22 p hp k hk w
 have HJX:=hid hjx
 clear ha hp hn hr hix hjx
 have c0:=IB.cell hI.out 0 Oj
 obtain⟨a0,ha0⟩:∃a0,a0=a.getD 0 0:=⟨_,rfl⟩
 rw[<-ha0] at c0
 have HA0:=hid ha0
 have C0:=hid c0
 clear ha0 c0
 go_enter Tryz.func155,Tryz.ntmps155
 go_wp2_with(refine aK rfl 90 (.tmp 3) rfl _ 90 a 9 _ rfl hI.out Tryz.underlying90 rfl bC HA.out ?_)
 go_loop [14] (fun iv=> ∃k:Nat,k<=9/\iv=.int .i64 k/\Hid (allTo vU a k)) (fun iv=>9-(intOf iv).toNat)
 case atStart=>exact⟨0,ah,rfl,hid allTo.zero⟩
 case round=>
  obtain⟨k,hk,rfl,HY⟩:=hrel
  by_cases hlt:k<9
  ·have hix:=HIX.out k hlt
   obtain⟨x,hx⟩:∃x,x=a.getD k 0:=⟨_,rfl⟩
   rw[<-hx] at hix
   have HX:=hid hx
   clear hx
   by_cases b1:x< -1048576
   ·have HF:=hid (show okP a=false from iL (i:=k) uk (Gq EI))
    exact l99
   by_cases b2:1048576<x
   ·have HF:=hid (show okP a=false from iL (i:=k) uk (Gq EJ))
    exact l99
   have HN2:=hid (HY.out.succ (by rw[<-HX.out];exact Qc ah ah))
   go_wp2
   exact l32
  obtain rfl:k=9:=ah
  have HF9:=hid (show okP a=true from HY.out.all EG)
  clear hlt HY
  go_wp2_with(refine aK rfl 22 (.tmp 4) rfl _ 22 p 8 _ rfl hJ.out Tryz.underlying22 rfl aH HP.out ?_)
  go_loop [25] (fun iv=> ∃k:Nat,k<=8/\iv=.int .i64 k/\Hid (allTo gV p k)) (fun iv=>8-(intOf iv).toNat)
  case atStart=>exact⟨0,ah,rfl,hid allTo.zero⟩
  case round=>
   obtain⟨k,hk,rfl,HY⟩:=hrel
   by_cases hlt:k<8
   ·have hix:=HJX.out k hlt
    obtain⟨x,hx⟩:∃x,x=p.getD k 0:=⟨_,rfl⟩
    rw[<-hx] at hix
    have HX:=hid hx
    clear hx
    by_cases hbad:x< -32768\/32767<x
    ·have HF:=hid (show aG p=false from iL (i:=k) (by rw[HP.out];exact hlt) (rL vh))
     exact l67
    have HN2:=hid (HY.out.succ zq)
    have e0:=kH (x:=x) ah ah
    clear hbad
    go_wp2_with(go_at_call 156;refine(xY _ _).mono ?_;rintro e w' ⟨rfl,rfl⟩)
    exact l32
   obtain rfl:k=8:=ah
   have HF8:=hid (show aG p=true from HY.out.all (by rw[HP.out];exact al0z _))
   clear hlt HY
   go_wp2
   go_loop [35] (fun iv=> ∃k:Nat,k<=n/\iv=.int .i64 k/\Hid (allTo gV l k)) (fun iv=>n-(intOf iv).toNat)
   case atStart=>exact⟨0,ah,rfl,hid allTo.zero⟩
   case round=>
    obtain⟨k,hk,rfl,HY⟩:=hrel
    by_cases hlt:k<n
    ·obtain⟨ad,rfl,_,c1⟩:=HR.out.at_ (k:=k) iE
     obtain⟨x,hx⟩:∃x,x=l.getD k 0:=⟨_,rfl⟩
     rw[<-hx] at c1
     have HX:=hid hx
     clear hx
     by_cases hbad:x< -32768\/32767<x
     ·have HF:=hid (show aG l=false from iL (i:=k) iE (rL vh))
      exact l67
     have HN2:=hid (HY.out.succ zq)
     have e0:=kH (x:=x) ah ah
     clear hbad
     go_wp2_with(go_at_call 156;refine(xY _ _).mono ?_;rintro e w' ⟨rfl,rfl⟩)
     exact l32
    have HF:=hid (show aG l=true from HY.out.all BG)
    have c0:=C0.out
    go_wp2
    go_ret
    exact⟨by unfold di;rw[HF9.out,HF8.out,HF.out,<-HA0.out];simp only[Bool.true_and,Bool.and_true];rfl,HB.out⟩
theorem ahs(a p:List Int)(w:World)(ha:a.length=9)(hp:p.length=8)(oa:okP a=true)(op:aG p=true):
 Calls Tryz.prog 157 #[.agg (agi a),.agg (agi p)] w fun e w'=>e=.returned (.int .i64 (ni a p))/\Below w.heap.size w w':=by
 have hI:=hid (IB.new w 90 a)
 have hJ:=IB.new (w.alloc (.cells (agi a) 90)) 22 p
 simp only[bU] at hJ
 have hJ:=hid hJ
 have hI:=hid (Blk.alloc hI.out (.cells (agi p) 22))
 have HA:=hid ha
 have HP:=hid hp
 have HB:=hid (((aA _ w).alloc (al0z _) (.cells (agi a) 90)).alloc az (.cells (agi p) 22))
 have hjx:=fun(k:Nat) (hk:k<8) (w:World)=>jp Tryz.underlying22 p hp k hk w
 have HJX:=hid hjx
 have OA:=hid oa
 have OP:=hid op
 clear ha hp hjx oa op
 go_enter Tryz.func157,Tryz.ntmps157
 go_wp2_with(refine aK rfl 22 (.tmp 3) rfl _ 22 p 8 _ rfl hJ.out Tryz.underlying22 rfl aH HP.out ?_)
 go_loop [5,9] (fun sv iv=> ∃(k:Nat) (s:Int),k<=8/\iv=.int .i64 k/\sv=.int .i64 s/\Hid (s=2048+aI (lY a p) k)) (fun _ iv=>8-(intOf iv).toNat)
 case atStart=>exact⟨0,2048,ah,rfl,rfl,hid rfl⟩
 case round=>
  obtain⟨k,s,hk,rfl,rfl,HS⟩:=hrel
  by_cases hlt:k<8
  ·have hjx:=HJX.out k hlt
   have ci:=IB.cell hI.out (k+1) Oj
   have tb:=Qd OA.out OP.out k
   have sb:=Gs OA.out OP.out k
   have HT:=hid (show 2048+aI (lY a p) (k+1)=s+lY a p k by rw[HS.out];simp only[aI];omega)
   have hs:=HS.out
   have s1: -300000000000<=s:=ah
   have s2:s<=300000000000:=ah
   clear hs sb
   unfold lY at tb HT
   generalize a.getD (k+1) 0=x at*
   generalize p.getD k 0=y at*
   obtain⟨t1,t2⟩:=tb
   have HS2:=hid (show s+x*y=2048+aI (fun i=>a.getD (i+1) 0*p.getD i 0) (k+1) from HT.out.symm)
   clear HT HS
   go_wp2
   go_round
   case rel=>exact⟨k+1,_,ah,aO,rfl,HS2⟩
   case measure=>simp[intOf]<;>omega
  obtain rfl:k=8:=ah
  have HF:=hid (show s/4096=ni a p by unfold ni;rw[HS.out])
  go_wp2
  go_ret
  exact⟨by rw[<-HF.out];rfl,HB.out⟩
theorem aht(p:List Int)(x:Int)(w:World)(hp:p.length=8):
 Calls Tryz.prog 158 #[.agg (agi p),.int .i64 x] w fun e w'=>e=.returned (.agg (agi (jb p x)))/\Below w.heap.size w w':=by
 have hR:=x8 (fn:=Tryz.f158) (p:=4) (ty:=22) rfl
 have I0:=IB.new w 22 p
 have HA:=hid (Blk.alloc I0 (.cells (agi Z8) 22))
 have J0:=IB.new (w.alloc (.cells (agi p) 22)) 22 Z8
 simp only[bU] at J0
 have HJ:=hid J0
 have HB:=hid (((aA _ w).alloc (al0z _) (.cells (agi p) 22)).alloc az (.cells (agi Z8) 22))
 rw[bW] at HA HJ HB
 have HP:=hid hp
 have hl7:(p.take 7).length=7:=by simp[hp]
 have L7:=hid hl7
 obtain⟨zs,hz⟩:∃zs,zs=p.take 1++p.take 7++p.drop (1+(p.take 7).length):=⟨_,rfl⟩
 have hzs:zs.set 0 x=jb p x:=by
  rw[hz,hl7]
  have e8:p.drop 8=[]:=List.drop_eq_nil_of_le ah
  rw[e8]
  match p,hp with
  |a::q,_=>simp[jb]
 have hzl:zs.length=8:=by rw[hz,hl7];simp;omega
 have HZ:=hid hz
 have HZS:=hid hzs
 have HZL:=hid hzl
 have c7:∀j,j<7->(p.take 7).getD j 0=p.getD j 0:=fun j hj=>by simp[hj]
 have C7:=hid c7
 clear hp hl7 hz hzs hzl c7 I0 J0
 go_enter Tryz.func158,Tryz.ntmps158
 go_wp2
 go_region_law (refine VY rfl (.tmp 5) (.tmp 6) 27 27 rfl Tryz.underlying27 w.heap.size 1 7 7 ⟨w.heap.size,0,none⟩ 7 8 Nj Nj 22 p (p.take 7) zs HA.out (by rw[L7.out];rfl) (fun j hj=>by rw[lI];rw[L7.out] at hj;rw[C7.out j hj];exact IB.cell HA.out j (by rw[HP.out];omega)) (by rw[L7.out,HP.out];omega) HZ.out ?_)
 generalize hw4:World.setRow _ _ _=w4
 have IA:IB w4 w.heap.size 22 zs:=by rw[<-hw4];exact IB.setRow (Blk.drew HA.out) zs
 have IJ:IB w4 (w.heap.size+1) 22 Z8:=by rw[<-hw4];exact Blk.rowFar (Blk.drew HJ.out) ah
 have IL:Below w.heap.size w w4:=by rw[<-hw4];exact(Below.drew HB.out).trans (aS (aA _ _) (al0z _) _)
 have IA:=hid IA
 have IJ:=hid IJ
 have IL:=hid IL
 clear hw4 HA HJ HB
 have c0:=IB.cell IA.out 0 (by rw[HZL.out];omega)
 have f0:=Blk.frozen IA.out 0
 have IA2:=hid (show IB (w4.setCell ⟨w.heap.size,0,none⟩ (.int .i64 x)) w.heap.size 22 (jb p x) by rw[<-HZS.out];exact IB.set_ IA.out 0 x)
 have IJ2:=hid (show IB (w4.setCell ⟨w.heap.size,0,none⟩ (.int .i64 x)) (w.heap.size+1) 22 Z8 from Blk.far IJ.out (by show w.heap.size+1≠w.heap.size;omega) _)
 have IL2:=hid (IL.out.setCell (p:=⟨w.heap.size,0,none⟩) (al0z _) (.int .i64 x))
 have LP:=hid (Qe HP.out x)
 have FIN:=hid (aS IL2.out (g:=w.heap.size+1) ah (agi (jb p x)))
 have hRow:=hid (IB.setRow IJ2.out (jb p x))
 go_wp2_with(first
  |(refine aK rfl 22 (.tmp 2) rfl _ 22 (jb p x) 8 _ rfl IA2.out Tryz.underlying22 rfl aH LP.out ?_)
  |(refine aP rfl 22 (.tmp 4) (.tmp 10) rfl _ 22 Z8 (jb p x) 8 rfl rfl IJ2.out aH rfl LP.out ?_))
 refine bg (v:=_) (hR _ _ _ 22 (jb p x) _ 8 rfl hRow.out Tryz.underlying22 rfl aH LP.out) rfl ?_
 exact⟨rfl,FIN.out⟩
theorem ahu{w:World}{g B:Nat}{t:TypeId}{xs:List Int}(h:IB w g t xs)(hg:g<B):Rs w B (some ⟨g,0,none⟩) xs:=
 ⟨nZ,fun _=>⟨_,rfl,hg,fun j u hu=>by
   have hj:j<xs.length:=by
    have:=(List.getElem?_eq_some_iff.mp hu).1
    rwa [aQ] at this
   rw[rJ xs j hj] at hu
   rw[lI,<-hu]
   exact IB.cell h j hj⟩⟩
theorem ahv(a p l:List Int)(A:Option Addr)(c n B:Nat)(w:World)(ha:a.length=9)(hp:p.length=8)(hr:Rs w w.heap.size A l)(hn:l.length=n)(hl:n<=17592186044416):
 Calls Tryz.prog 135 #[.agg (agi a),.agg (agi p),.slice A n c] w (PY w (di a p l)):=by
 have hI:=hid (IB.new w 90 a)
 have hJ:=IB.new (w.alloc (.cells (agi a) 90)) 22 p
 simp only[bU] at hJ
 have hRP:=hid (show Rs ((w.alloc (.cells (agi a) 90)).alloc (.cells (agi p) 22)) (w.heap.size+1+1) (some ⟨w.heap.size+1,0,none⟩) p from ahu hJ ah)
 have hI:=hid (Blk.alloc hI.out (.cells (agi p) 22))
 have HA:=hid ha
 have HP:=hid hp
 have HN:=hid hn
 have HR:=hid (hr.below (((aA _ w).alloc (al0z _) (.cells (agi a) 90)).alloc az (.cells (agi p) 22)))
 have HB:=hid (((aA _ w).alloc (al0z _) (.cells (agi a) 90)).alloc az (.cells (agi p) 22))
 have hix:=fun(k:Nat) (hk:k<9) (w:World)=>jp Tryz.underlying90 a ha k hk w
 have HIX:=hid hix
 have K1:=hid (fun W (h:Rs W (w.heap.size+1+1) (some ⟨w.heap.size+1,0,none⟩) p)=>kJ (some ⟨w.heap.size+1,0,none⟩) 8 8 (w.heap.size+1+1) p W h hp ah)
 have K2:=hid (fun W (h:Rs W w.heap.size A l)=>kJ A c n w.heap.size l W h hn hl)
 clear ha hp hn hr hix hJ
 have c0:=IB.cell hI.out 0 Oj
 obtain⟨a0,ha0⟩:∃a0,a0=a.getD 0 0:=⟨_,rfl⟩
 rw[<-ha0] at c0
 have HA0:=hid ha0
 have C0:=hid c0
 clear ha0 c0
 go_enter Tryz.func135,Tryz.ntmps135
 go_wp2_with(refine aK rfl 90 (.tmp 3) rfl _ 90 a 9 _ rfl hI.out Tryz.underlying90 rfl bC HA.out ?_)
 go_loop [10] (fun iv=> ∃k:Nat,k<=9/\iv=.int .i64 k/\Hid (allTo vU a k)) (fun iv=>9-(intOf iv).toNat)
 case atStart=>exact⟨0,ah,rfl,hid allTo.zero⟩
 case round=>
  obtain⟨k,hk,rfl,HY⟩:=hrel
  by_cases hlt:k<9
  ·have hix:=HIX.out k hlt
   obtain⟨x,hx⟩:∃x,x=a.getD k 0:=⟨_,rfl⟩
   rw[<-hx] at hix
   have HX:=hid hx
   clear hx
   by_cases b1:x< -1048576
   ·have HF:=hid (show okP a=false from iL (i:=k) uk (Gq EI))
    exact l99
   by_cases b2:1048576<x
   ·have HF:=hid (show okP a=false from iL (i:=k) uk (Gq EJ))
    exact l99
   have HN2:=hid (HY.out.succ (by rw[<-HX.out];exact Qc ah ah))
   go_wp2
   exact l32
  obtain rfl:k=9:=ah
  have HF9:=hid (show okP a=true from HY.out.all EG)
  clear hlt HY
  have c0:=C0.out
  by_cases h0:a0=4096
  ·have HA1:=hid (show a.getD 0 0=4096 by rw[<-HA0.out,h0])
   obtain⟨b2,hb2⟩:∃b2,b2=aG p:=⟨_,rfl⟩
   have K1':=hid (K1.out _ hRP.out)
   rw[<-hb2] at K1'
   cases b2 with
   |false=>
    have HB2:=hid hb2
    clear hb2
    go_wp2_with(go_at_call 70;(with_reducible refine K1'.out.mono ?_);rintro e w' ⟨rfl,rfl⟩)
    go_ret
    exact⟨by unfold di;rw[HF9.out,HA1.out,<-HB2.out];rfl,HB.out⟩
   |true=>
    have HB2:=hid hb2
    clear hb2
    go_wp2_with(first
     |(go_at_call 70;(with_reducible refine K1'.out.mono ?_);rintro e w' ⟨rfl,rfl⟩)
     |(go_at_call 70;(with_reducible refine(K2.out _ HR.out).mono ?_);rintro e w' ⟨rfl,rfl⟩))
    go_ret
    exact⟨by unfold di;rw[HF9.out,HA1.out,<-HB2.out];simp,HB.out⟩
  have HA1:=hid (show decide (a.getD 0 0=4096)=false by rw[<-HA0.out];simpa using h0)
  go_wp2
  go_ret
  exact⟨by unfold di;rw[HF9.out,HA1.out];rfl,HB.out⟩
theorem Je{fn:Func}{p q r:Tmp}{ty:TypeId}(h:fn.results= #[.tmp p,.cell q ty,.tmp r])(tmps:Array Value)(w:World)(g:Nat)(t:TypeId)(xs:List Int)(d:TypeDesc)(n:Nat)
 (hp:tmps.getD q undef=.pointer (some ⟨g,0,none⟩)) (hg:IB w g t xs) (hu:Tryz.prog.underlying ty=some d) (hd:mV d=true) (hi:(Tryz.prog.info? ty).map (·.size)=some n) (hl:xs.length=n):
 (results fn tmps).run Tryz.prog w=.ok (.tuple #[tmps.getD p undef,.agg (agi xs),tmps.getD r undef]) w:=by
 have hp':tmps[q]?.getD undef=.pointer (some ⟨g,0,none⟩):=uu
 have hr:=run_loadVar_row (P:=Tryz.prog) w g t ty (agi xs) (0,0) d hg hu (by cases d<;>first|rfl|(simp[mV] at hd)) Bv
 simp[results,h,hp',asAddr,hr]
def qW(w:World)(ys q:List Int)(er:Int)(e:Ending)(w':World):Prop:=∃A c,e=.returned (.tuple #[.slice A ys.length c,.agg (agi q),.int .i64 er])/\Own w' w.heap.size A c ys/\Below w.heap.size w w'
structure Sx(w wr:World)(a q:List Int):Prop where
 A:IB wr w.heap.size 90 a
 P:IB wr (w.heap.size+1) 22 q
 R:IB wr (w.heap.size+2) 22 Z8
 bel:Below w.heap.size w wr
theorem Sx.lt{w wr:World}{a q:List Int}(h:Sx w wr a q):w.heap.size+3<=wr.heap.size:=Blk.lt h.R
theorem Sx.below{w wr wr':World}{a q:List Int}(h:Sx w wr a q)(hb:Below wr.heap.size wr wr'):Sx w wr' a q:=
 ⟨Blk.below' h.A hb,Blk.below' h.P hb,Blk.below' h.R hb,h.bel.trans (hb.mono rI)⟩
theorem Sx.alloc{w wr:World}{a q:List Int}(h:Sx w wr a q)(o:Obj):Sx w (wr.alloc o) a q:=
 ⟨Blk.alloc h.A o,Blk.alloc h.P o,Blk.alloc h.R o,h.bel.alloc rI o⟩
theorem Sx.setP{w wr:World}{a q:List Int}(h:Sx w wr a q)(q2:List Int):Sx w (wr.setRow (w.heap.size+1) (agi q2)) a q2:=
 ⟨Blk.rowFar h.A ah,IB.setRow h.P q2,Blk.rowFar h.R ah,aS h.bel ah _⟩
theorem Sx.start(w:World)(a q:List Int):Sx w (((w.alloc (.cells (agi a) 90)).alloc (.cells (agi q) 22)).alloc (.cells (agi Z8) 22)) a q:=by
 have h1:=IB.new w 90 a
 have h2:=IB.new (w.alloc (.cells (agi a) 90)) 22 q
 have h3:=IB.new ((w.alloc (.cells (agi a) 90)).alloc (.cells (agi q) 22)) 22 Z8
 exact l43
theorem Sx.grown{w wr wr':World}{a q xs:List Int}{A:Option Addr}{c:Nat}(h:Sx w wr a q)(hO:Own wr (w.heap.size+3) A c xs)(hG:wr.grownBy wr' (A.map (·.block))):Sx w wr' a q:=
 ⟨Blk.grownA h.A hG (hO.ne_ ah),Blk.grownA h.P hG (hO.ne_ ah),Blk.grownA h.R hG (hO.ne_ ah),
   uB h.bel (hO.more ah) hG rI⟩
theorem Rj{q:List Int}(h:q.length=8):∃q0 q1 q2 q3 q4 q5 q6 q7,q=[q0,q1,q2,q3,q4,q5,q6,q7]:=by
 match q,h with
 |[a,b,c,d,e,f,g,i],_=>exact⟨a,b,c,d,e,f,g,i,rfl⟩
theorem IB.set8{w:World}{g:Nat}{t:TypeId}(h:IB w g t Z8)(q0 q1 q2 q3 q4 q5 q6 q7:Int):
 IB ((((((((w.setCell ⟨g,0,none⟩ (.int .i64 q0)).setCell ⟨g,1,none⟩ (.int .i64 q1)).setCell ⟨g,2,none⟩ (.int .i64 q2)).setCell ⟨g,3,none⟩ (.int .i64 q3)).setCell ⟨g,4,none⟩ (.int .i64 q4)).setCell ⟨g,5,none⟩ (.int .i64 q5)).setCell ⟨g,6,none⟩ (.int .i64 q6)).setCell ⟨g,7,none⟩ (.int .i64 q7)) g t [q0,q1,q2,q3,q4,q5,q6,q7]:=
 (((((((h.set_ 0 q0).set_ 1 q1).set_ 2 q2).set_ 3 q3).set_ 4 q4).set_ 5 q5).set_ 6 q6).set_ 7 q7
theorem Y5{w0 w:World}{B g:Nat}(h:Below B w0 w)(hg:B<=g)(q0 q1 q2 q3 q4 q5 q6 q7:Int):
 Below B w0 ((((((((w.setCell ⟨g,0,none⟩ (.int .i64 q0)).setCell ⟨g,1,none⟩ (.int .i64 q1)).setCell ⟨g,2,none⟩ (.int .i64 q2)).setCell ⟨g,3,none⟩ (.int .i64 q3)).setCell ⟨g,4,none⟩ (.int .i64 q4)).setCell ⟨g,5,none⟩ (.int .i64 q5)).setCell ⟨g,6,none⟩ (.int .i64 q6)).setCell ⟨g,7,none⟩ (.int .i64 q7)):=
 (((((((h.setCell (p:=⟨g,0,none⟩) hg _).setCell (p:=⟨g,1,none⟩) hg _).setCell (p:=⟨g,2,none⟩) hg _).setCell (p:=⟨g,3,none⟩) hg _).setCell (p:=⟨g,4,none⟩) hg _).setCell (p:=⟨g,5,none⟩) hg _).setCell (p:=⟨g,6,none⟩) hg _).setCell (p:=⟨g,7,none⟩) hg _
theorem Own.set8{w:World}{base c g:Nat}{A:Option Addr}{xs:List Int}(h:Own w base A c xs)(hg:g<base)(q0 q1 q2 q3 q4 q5 q6 q7:Int):
 Own ((((((((w.setCell ⟨g,0,none⟩ (.int .i64 q0)).setCell ⟨g,1,none⟩ (.int .i64 q1)).setCell ⟨g,2,none⟩ (.int .i64 q2)).setCell ⟨g,3,none⟩ (.int .i64 q3)).setCell ⟨g,4,none⟩ (.int .i64 q4)).setCell ⟨g,5,none⟩ (.int .i64 q5)).setCell ⟨g,6,none⟩ (.int .i64 q6)).setCell ⟨g,7,none⟩ (.int .i64 q7)) base A c xs:=
 (((((((h.setC hg 0 _).setC hg 1 _).setC hg 2 _).setC hg 3 _).setC hg 4 _).setC hg 5 _).setC hg 6 _).setC hg 7 _
theorem Rk(a p l:List Int)(A0:Option Addr)(c0 n:Nat)(w:World)(ha:a.length=9)(hp:p.length=8)(hr:Rs w w.heap.size A0 l)(hn:l.length=n)(hl:n<=17592186044000):
 Calls Tryz.prog 90 #[.agg (agi a),.agg (agi p),.slice A0 n c0] w (qW w (if di a p l then dF a p l n else[]) (if di a p l then dY p (dF a p l n) else Z8) (aZ (di a p l))):=by
 have hR:=Je (fn:=Tryz.f90) (p:=6) (q:=7) (r:=8) (ty:=22) rfl
 have S0:=Sx.start w a p
 have R0:=hr.below S0.bel
 rw[bW] at S0
 rw[bW] at R0
 have S0:=hid S0
 have R0:=hid R0
 have HA:=hid ha
 have HP:=hid hp
 have HN:=hid hn
 have HR:=hid hr
 have KG:=hid (fun(W:World) (hW:Rs W W.heap.size A0 l)=>ahr a p l A0 c0 n 0 W ha hp hW hn ah)
 clear ha hp hn hr
 obtain⟨Y,hY⟩:∃Y,Y=(if di a p l then dF a p l n else[]):=⟨_,rfl⟩
 obtain⟨Z,hZ⟩:∃Z,Z=(if di a p l then dY p (dF a p l n) else Z8):=⟨_,rfl⟩
 rw[<-hY,<-hZ]
 have HYY:=hid hY
 have HZZ:=hid hZ
 clear hY hZ
 go_enter Tryz.func90,Tryz.ntmps90
 go_wp2_with(first
  |(refine aK rfl 90 (.tmp 3) rfl _ 90 a 9 _ rfl S0.out.A Tryz.underlying90 rfl bC HA.out ?_)
  |(refine aK rfl 22 (.tmp 4) rfl _ 22 p 8 _ rfl S0.out.P Tryz.underlying22 rfl aH HP.out ?_))
 refine(KG.out _ (R0.out.more aJ)).mono ?_
 rintro e w1 ⟨rfl,hB⟩
 have S1:=hid (S0.out.below hB)
 clear hB S0 R0 KG
 by_cases hg:di a p l=true
 ·have HG:=hid hg
  rw[hg]
  have y1:=HYY.out
  have z1:=HZZ.out
  rw[if_pos hg] at y1 z1
  have HY1:=hid y1
  have HZ1:=hid z1
  clear y1 z1
  obtain⟨ga,gz,gp,gl⟩:okP a=true/\a.getD 0 0=4096/\aG p=true/\aG l=true:=by simpa[di] using hg
  have GA:=hid ga
  have GP:=hid gp
  have GL:=hid gl
  clear hg ga gz gp gl
  go_wp2
  go_loopw[9,21] (fun ov iv wr=> ∃(k:Nat) (A:Option Addr) (c:Nat) (q ys:List Int),k<=n/\iv=.int .i64 k/\ov=.slice A k c/\Hid (ys=dF a p l k)/\Hid (q=dY p (dF a p l k))/\Hid (Own wr (w.heap.size+3) A c ys)/\Hid (Sx w wr a q)) (fun _ iv _=>n-(intOf iv).toNat)
  case atStart=>exact⟨0,none,0,p,[],ah,rfl,rfl,hid rfl,hid rfl,hid Own.nil,S1⟩
  case round=>
   clear S1
   obtain⟨k,A,c,q,ys,hk,rfl,rfl,HY,HQ,HO,HS⟩:=hrel
   have HQL:=hid (show q.length=8 by rw[HQ.out];exact qK _ _ HP.out)
   by_cases hlt:k<n
   ·have q16:=hid (show aG q=true by rw[HQ.out];exact Dc _ _ GP.out (yw _ _ _ _))
    obtain⟨ad,rfl,hadb,c1⟩:=(HR.out.below HS.out.bel).at_ (k:=k) iE
    have xb:=fP GL.out k
    have YN:=hid (show ys++[s16 (l.getD k 0-ni a q)]=dF a p l (k+1) by rw[dF,<-HY.out,HQ.out,HY.out])
    obtain⟨x,hx⟩:∃x,x=l.getD k 0:=⟨_,rfl⟩
    rw[<-hx] at c1 xb YN
    have gb:=WV GA.out q16.out
    have K1:=hid (fun W=>ahs a q W HA.out HQL.out GA.out q16.out)
    generalize ni a q=g at*
    obtain⟨x1,x2⟩:=xb
    obtain⟨g1,g2⟩:=gb
    have hw1:IntKind.i64.wrap (x-g)=x-g:=aN
    obtain⟨y,hy⟩:∃y,y=s16 (x-g):=⟨_,rfl⟩
    rw[<-hy] at YN
    have KS:=hid (fun W=>xY (x-g) W)
    rw[<-hy] at KS
    have QN:=hid (show jb q y=dY p (dF a p l (k+1)) by rw[<-YN.out,HY.out,Qg,HQ.out])
    have LP:=hid (Qe HQL.out y)
    have HX:=hid hx
    have YL:=hid (show ys.length=k by rw[HY.out,zE])
    clear hx hy
    go_wp2_with(first
     |(refine aK rfl 90 (.tmp 3) rfl _ 90 a 9 _ rfl HS.out.A Tryz.underlying90 rfl bC HA.out ?_)
     |(refine aK rfl 22 (.tmp 4) rfl _ 22 q 8 _ rfl HS.out.P Tryz.underlying22 rfl aH HQL.out ?_))
    refine(K1.out _).mono ?_
    rintro e w2 ⟨rfl,hB⟩
    have S2:=hid (HS.out.below hB)
    have O2:=hid (HO.out.below hB)
    clear hB HS HO c1
    go_wp2_with(first
     |(go_at_call 156;refine(KS.out _).mono ?_;rintro e w' ⟨rfl,rfl⟩)
     |(refine aK rfl 22 (.tmp 4) rfl _ 22 q 8 _ rfl S2.out.P Tryz.underlying22 rfl aH HQL.out ?_))
    refine(aht q y _ HQL.out).mono ?_
    rintro e w3 ⟨rfl,hB⟩
    have S3:=hid (S2.out.below hB)
    have O3:=hid (O2.out.below hB)
    clear hB S2 O2
    go_wp2_with(first
     |(refine aP rfl 22 (.tmp 4) (.tmp 33) rfl _ 22 q (jb q y) 8 rfl rfl S3.out.P aH HQL.out LP.out ?_
       obtain⟨w4,hw4⟩:∃w4,w4=w3.setRow (w.heap.size+1) (agi (jb q y)):=⟨_,rfl⟩
       rw[<-hw4]
       have S4:=hid (show Sx w w4 a (jb q y) by rw[hw4];exact S3.out.setP _)
       have O4:=hid (show Own w4 (w.heap.size+3) A c ys by rw[hw4];exact O3.out.setRow ah _)
       clear hw4)
     |(at_builtin;refine vP rfl (.tmp 34) (.tmp 36) rfl (w.heap.size+3) A c k ys rfl YL.out (O4.out.alloc _) ⟨w4.heap.size,0,none⟩ y rfl (mW w4 _ _) ah (gJ S4.out.lt az) ?_;intro A2 c2 w5 hO hG hA;have O5:=hid hO;have G5:=hid hG;clear hO hG hA))
    have S5:=hid ((S4.out.alloc _).grown (O4.out.alloc _) G5.out)
    go_wp2
    go_roundw
    case rel=>exact⟨k+1,A2,c2,_,_,ah,aO,rfl,YN,QN,O5,S5⟩
    case measure=>simp[intOf]<;>omega
   obtain rfl:k=n:=ah
   obtain⟨q0,q1,q2,q3,q4,q5,q6,q7,rfl⟩:=Rj HQL.out
   have c0:wr.cell? ⟨w.heap.size+1,0,none⟩=some (.int .i64 q0):=IB.cell HS.out.P 0 az
   have c1:wr.cell? ⟨w.heap.size+1,1,none⟩=some (.int .i64 q1):=IB.cell HS.out.P 1 az
   have c2:wr.cell? ⟨w.heap.size+1,2,none⟩=some (.int .i64 q2):=IB.cell HS.out.P 2 az
   have c3:wr.cell? ⟨w.heap.size+1,3,none⟩=some (.int .i64 q3):=IB.cell HS.out.P 3 az
   have c4:wr.cell? ⟨w.heap.size+1,4,none⟩=some (.int .i64 q4):=IB.cell HS.out.P 4 az
   have c5:wr.cell? ⟨w.heap.size+1,5,none⟩=some (.int .i64 q5):=IB.cell HS.out.P 5 az
   have c6:wr.cell? ⟨w.heap.size+1,6,none⟩=some (.int .i64 q6):=IB.cell HS.out.P 6 az
   have c7:wr.cell? ⟨w.heap.size+1,7,none⟩=some (.int .i64 q7):=IB.cell HS.out.P 7 az
   have r0:wr.cell? ⟨w.heap.size+1+1,0,none⟩=some (.int .i64 0):=IB.cell HS.out.R 0 aB
   have r1:wr.cell? ⟨w.heap.size+1+1,1,none⟩=some (.int .i64 0):=IB.cell HS.out.R 1 aB
   have r2:wr.cell? ⟨w.heap.size+1+1,2,none⟩=some (.int .i64 0):=IB.cell HS.out.R 2 aB
   have r3:wr.cell? ⟨w.heap.size+1+1,3,none⟩=some (.int .i64 0):=IB.cell HS.out.R 3 aB
   have r4:wr.cell? ⟨w.heap.size+1+1,4,none⟩=some (.int .i64 0):=IB.cell HS.out.R 4 aB
   have r5:wr.cell? ⟨w.heap.size+1+1,5,none⟩=some (.int .i64 0):=IB.cell HS.out.R 5 aB
   have r6:wr.cell? ⟨w.heap.size+1+1,6,none⟩=some (.int .i64 0):=IB.cell HS.out.R 6 aB
   have r7:wr.cell? ⟨w.heap.size+1+1,7,none⟩=some (.int .i64 0):=IB.cell HS.out.R 7 aB
   have f0:wr.frozen? ⟨w.heap.size+1+1,0,none⟩=false:=Blk.frozen HS.out.R 0
   have f1:wr.frozen? ⟨w.heap.size+1+1,1,none⟩=false:=Blk.frozen HS.out.R 1
   have f2:wr.frozen? ⟨w.heap.size+1+1,2,none⟩=false:=Blk.frozen HS.out.R 2
   have f3:wr.frozen? ⟨w.heap.size+1+1,3,none⟩=false:=Blk.frozen HS.out.R 3
   have f4:wr.frozen? ⟨w.heap.size+1+1,4,none⟩=false:=Blk.frozen HS.out.R 4
   have f5:wr.frozen? ⟨w.heap.size+1+1,5,none⟩=false:=Blk.frozen HS.out.R 5
   have f6:wr.frozen? ⟨w.heap.size+1+1,6,none⟩=false:=Blk.frozen HS.out.R 6
   have f7:wr.frozen? ⟨w.heap.size+1+1,7,none⟩=false:=Blk.frozen HS.out.R 7
   have IR:=hid (Blk.drew (IB.set8 HS.out.R q0 q1 q2 q3 q4 q5 q6 q7))
   have OR:=hid ((HO.out.set8 (g:=w.heap.size+2) ah q0 q1 q2 q3 q4 q5 q6 q7).drew.more (base':=w.heap.size) ah)
   have BR:=hid (Y5 HS.out.bel (g:=w.heap.size+2) ah q0 q1 q2 q3 q4 q5 q6 q7).drew
   have FY:=hid (show Y=ys by rw[HY1.out,HY.out])
   have FZ:=hid (show Z=[q0,q1,q2,q3,q4,q5,q6,q7] by rw[HZ1.out,HQ.out])
   have YL:=hid (show ys.length=k by rw[HY.out,zE])
   go_wp2
   go_region
   clear c0 c1 c2 c3 c4 c5 c6 c7 r0 r1 r2 r3 r4 r5 r6 r7 f0 f1 f2 f3 f4 f5 f6 f7
   simp only[Exit.then]
   go_wp2
   refine bg (v:=_) (hR _ _ _ 22 [q0,q1,q2,q3,q4,q5,q6,q7] _ 8 rfl IR.out Tryz.underlying22 rfl aH rfl) rfl ?_
   exact⟨A,c,by rw[FY.out,FZ.out,YL.out,HG.out];rfl,by rw[FY.out];exact OR.out,BR.out⟩
 ·have hb:di a p l=false:=by simpa using hg
  rw[hb]
  have hRow:=hid (S1.out.R)
  go_wp2_with(refine aP rfl 22 (.tmp 7) (.tmp 18) rfl _ 22 Z8 Z8 8 rfl rfl S1.out.R aH rfl rfl ?_)
  exact l75
theorem Jo{p:Prop}(h:p):Hid p:=h
def wgt(i:Int):Int:=if i<0\/120<=i then 0 else 32767*min (2*i+1) (239-2*i)/119
theorem Ed{i:Int}(h:i<0\/120<=i):wgt i=0:=by unfold wgt;rw[if_pos h]
theorem Jp{i:Int}(h0:0<=i)(h:i<60):wgt i=32767*(2*i+1)/119:=by
 unfold wgt;rw[if_neg ah,Int.min_eq_left ah]
theorem RH{i:Int}(h0:60<=i)(h:i<120):wgt i=32767*(239-2*i)/119:=by
 unfold wgt;rw[if_neg ah,Int.min_eq_right ah]
theorem ahH{i:Int}(h0:60<=i)(h:i<120):wgt (119-i)=wgt i:=by
 rw[RH h0 h,Jp ah ah]
 congr 1;omega
theorem ahI(i:Int)(w:World):Calls Tryz.prog 85 #[.int .i64 i] w fun e w'=>e=.returned (.int .i64 (wgt i))/\w=w':=by
 by_cases h1:i<0
 ·rw[Ed (.inl h1)]
  go_enter Tryz.func85,Tryz.ntmps85
  go_wp2
  go_ret
  exact⟨rfl,rfl⟩
 by_cases h2:120<=i
 ·rw[Ed (.inr h2)]
  have hd:decide (i<0)=false:=qo
  go_enter Tryz.func85,Tryz.ntmps85
  go_wp2
  go_ret
  exact⟨rfl,rfl⟩
 have hd:decide (i<0)=false:=qo
 have hd2:decide (120<=i)=false:=zn
 by_cases h3:i<60
 ·have HV:=Jo (Jp ah h3)
  have hm:min (2*i+1) (2*(120-i)-1)=2*i+1:=Int.min_eq_left ah
  go_enter Tryz.func85,Tryz.ntmps85
  go_wp2
  go_ret
  rw[HV.out]
  exact⟨az,rfl⟩
 have HV:=Jo (RH (i:=i) ah ah)
 have hm:min (2*i+1) (2*(120-i)-1)=2*(120-i)-1:=Int.min_eq_right ah
 go_enter Tryz.func85,Tryz.ntmps85
 go_wp2
 go_ret
 rw[HV.out]
 refine⟨?_,rfl⟩
 show Ending.returned (.int .i64 (32767*(2*(120-i)-1)/119))=_
 rw[show 2*(120-i)-1=239-2*i from ah]
theorem Zn(i:Int)(w:World)(h0:i<60):Calls Tryz.prog 111 #[.int .i64 i] w fun e w'=>e=.returned (.int .i64 (wgt i))/\w=w':=by
 by_cases h1:i<0
 ·rw[Ed (.inl h1)]
  go_enter Tryz.func111,Tryz.ntmps111
  go_wp2
  go_ret
  exact⟨rfl,rfl⟩
 have HV:=Jo (Jp ah h0)
 have hd:decide (i<0)=false:=qo
 have hd2:decide (119<i)=false:=aJ
 go_enter Tryz.func111,Tryz.ntmps111
 go_wp2
 go_ret
 rw[HV.out]
 exact⟨rfl,rfl⟩
theorem ahJ(i:Int)(w:World):Calls Tryz.prog 111 #[.int .i64 i] w fun e w'=>e=.returned (.int .i64 (wgt i))/\w=w':=by
 by_cases h0:i<60
 ·exact Zn i w h0
 have hd:decide (i<0)=false:=aJ
 by_cases h2:119<i
 ·rw[Ed (.inr ah)]
  go_enter Tryz.func111,Tryz.ntmps111
  go_wp2
  go_ret
  exact⟨rfl,rfl⟩
 have hd2:decide (119<i)=false:=zn
 have HV:=Jo (ahH (i:=i) ah ah)
 go_enter Tryz.func111,Tryz.ntmps111
 go_wp2_with(go_at_call 111;refine(Zn (119-i) w ah).mono ?_;rintro e w' ⟨rfl,rfl⟩)
 go_ret
 rw[<-HV.out]
 exact⟨rfl,rfl⟩

theorem aiE{l:List Int}(h:l.length=25):∃p0 p1 p2 p3 p4 p5 p6 p7 p8 p9 p10 p11 p12 p13 p14 p15 p16 p17 p18 p19 p20 p21 p22 p23 p24,l=[p0,p1,p2,p3,p4,p5,p6,p7,p8,p9,p10,p11,p12,p13,p14,p15,p16,p17,p18,p19,p20,p21,p22,p23,p24]:=by
 match l,h with
 |[p0,p1,p2,p3,p4,p5,p6,p7,p8,p9,p10,p11,p12,p13,p14,p15,p16,p17,p18,p19,p20,p21,p22,p23,p24],_=>exact⟨p0,p1,p2,p3,p4,p5,p6,p7,p8,p9,p10,p11,p12,p13,p14,p15,p16,p17,p18,p19,p20,p21,p22,p23,p24,rfl⟩
theorem Tz{l:List Int}{k:Nat}(h:k<l.length):l.take k++[l.getD k 0]=l.take (k+1):=by
 rw[List.take_add_one,bi,jO h]
 rfl
theorem yZ(w:World)(l:List Int)(base:Nat)(hb:base<=w.heap.size)(hl:l.length<=1000):Own (w.alloc (.cells (agi l) 3)) base (some ⟨w.heap.size,0,none⟩) l.length l:=
 World.ownsRow_lit (base:=base) (e:=3) (size:=1) w (agi l) l.length hb iT (by rw[dV];omega)
def aiF(w:World)(ps:List Int)(e:Ending)(w':World):Prop:=∃A1 c1 A2 c2 A3 c3,e=.returned (.tuple #[.slice A1 25 c1,.slice A2 25 c2,.slice A3 25 c3])/\Own w' (w.heap.size+1) A1 c1 ps/\Own w' (w.heap.size+1) A2 c2 pkB/\Own w' (w.heap.size+1) A3 c3 pkT/\Below w.heap.size w w'
theorem N3.start(w:World)(ps:List Int)(x y z:Int):N3 w ((((w.alloc (.cells (agi ps) 38)).alloc (.cells #[.int .i64 x] 3)).alloc (.cells #[.int .i64 y] 3)).alloc (.cells #[.int .i64 z] 3)) ps (some ⟨w.heap.size+1,0,none⟩) 1 [x] (some ⟨w.heap.size+1+1,0,none⟩) 1 [y] (some ⟨w.heap.size+1+1+1,0,none⟩) 1 [z]:=by
 have a:=yZ (w.alloc (.cells (agi ps) 38)) [x] (w.heap.size+1) az az
 have b:=yZ ((w.alloc (.cells (agi ps) 38)).alloc (.cells #[.int .i64 x] 3)) [y] (w.heap.size+1) az az
 have c:=yZ (((w.alloc (.cells (agi ps) 38)).alloc (.cells #[.int .i64 x] 3)).alloc (.cells #[.int .i64 y] 3)) [z] (w.heap.size+1) az az
 simp only[bU] at a b c
 exact⟨Blk.alloc (Blk.alloc (Blk.alloc (IB.new w 38 ps) _) _) _,(a.alloc _).alloc _,b.alloc _,c,fun a b ha hb=>by cases ha;cases hb;simp,fun a b ha hb=>by cases ha;cases hb;simp<;>omega,fun a b ha hb=>by cases ha;cases hb;simp,(((((aA w.heap.size w).alloc (al0z _) _).alloc az _).alloc aJ _).alloc aJ _)⟩
theorem IB.rangeMid{w:World}{g:Nat}{t:TypeId}{xs:List Int}(h:IB w g t xs)(o:Nat):w.rangeAt g o (aj (xs.drop o)):=fun j v hv=>by
 rw[Blk.cell h (o+j),<-hv]
 simp[agi,aj,List.getElem?_drop]
theorem aau(ps:List Int)(w:World)(T:TabS w 0 fD)(hl:ps.length=25):
 Calls Tryz.prog 29 #[.agg (agi ps)] w (aiF w ps):=by
 obtain⟨p0,p1,p2,p3,p4,p5,p6,p7,p8,p9,p10,p11,p12,p13,p14,p15,p16,p17,p18,p19,p20,p21,p22,p23,p24,rfl⟩:=aiE hl
 have S0:=N3.start w [p0,p1,p2,p3,p4,p5,p6,p7,p8,p9,p10,p11,p12,p13,p14,p15,p16,p17,p18,p19,p20,p21,p22,p23,p24] p0 2 2
 have P0:=IB.new w 38 [p0,p1,p2,p3,p4,p5,p6,p7,p8,p9,p10,p11,p12,p13,p14,p15,p16,p17,p18,p19,p20,p21,p22,p23,p24]
 have hA:agi [p0,p1,p2,p3,p4,p5,p6,p7,p8,p9,p10,p11,p12,p13,p14,p15,p16,p17,p18,p19,p20,p21,p22,p23,p24]= #[.int .i64 p0,.int .i64 p1,.int .i64 p2,.int .i64 p3,.int .i64 p4,.int .i64 p5,.int .i64 p6,.int .i64 p7,.int .i64 p8,.int .i64 p9,.int .i64 p10,.int .i64 p11,.int .i64 p12,.int .i64 p13,.int .i64 p14,.int .i64 p15,.int .i64 p16,.int .i64 p17,.int .i64 p18,.int .i64 p19,.int .i64 p20,.int .i64 p21,.int .i64 p22,.int .i64 p23,.int .i64 p24]:=rfl
 rw[hA] at S0 P0|-
 have TT:=hid T
 have HIX:=hid (show∀(k:Nat) (w':World),k<8->(Instr.index 22 (.agg #[.int .i64 p1,.int .i64 p2,.int .i64 p3,.int .i64 p4,.int .i64 p5,.int .i64 p6,.int .i64 p7,.int .i64 p8]) (.int .i64 (k:Nat))).run Tryz.prog w'=.ok (.int .i64 ([p1,p2,p3,p4,p5,p6,p7,p8].getD k 0)) w' from fun k w' hk=>jp Tryz.underlying22 [p1,p2,p3,p4,p5,p6,p7,p8] rfl k hk w')
 clear T hl hA
 obtain⟨V,hV⟩:∃V,V=w.alloc (.cells #[.int .i64 p0,.int .i64 p1,.int .i64 p2,.int .i64 p3,.int .i64 p4,.int .i64 p5,.int .i64 p6,.int .i64 p7,.int .i64 p8,.int .i64 p9,.int .i64 p10,.int .i64 p11,.int .i64 p12,.int .i64 p13,.int .i64 p14,.int .i64 p15,.int .i64 p16,.int .i64 p17,.int .i64 p18,.int .i64 p19,.int .i64 p20,.int .i64 p21,.int .i64 p22,.int .i64 p23,.int .i64 p24] 38):=⟨_,rfl⟩
 have SV:=hid (show V.heap.size=w.heap.size+1 by rw[hV];simp)
 rw[<-hV] at P0 S0
 have c0:V.cell? ⟨w.heap.size,0,none⟩=some (.int .i64 p0):=IB.cell P0 0 az
 have cb1:World.cell? (((V.alloc (.cells #[.int .i64 p0] 3)).alloc (.cells #[.int .i64 2] 3)).alloc (.cells #[.int .i64 2] 3)) ⟨w.heap.size,1,none⟩=some (.int .i64 p1):=IB.cell S0.P 1 az
 have cb2:World.cell? (((V.alloc (.cells #[.int .i64 p0] 3)).alloc (.cells #[.int .i64 2] 3)).alloc (.cells #[.int .i64 2] 3)) ⟨w.heap.size,2,none⟩=some (.int .i64 p2):=IB.cell S0.P 2 az
 have cb3:World.cell? (((V.alloc (.cells #[.int .i64 p0] 3)).alloc (.cells #[.int .i64 2] 3)).alloc (.cells #[.int .i64 2] 3)) ⟨w.heap.size,3,none⟩=some (.int .i64 p3):=IB.cell S0.P 3 az
 have cb4:World.cell? (((V.alloc (.cells #[.int .i64 p0] 3)).alloc (.cells #[.int .i64 2] 3)).alloc (.cells #[.int .i64 2] 3)) ⟨w.heap.size,4,none⟩=some (.int .i64 p4):=IB.cell S0.P 4 az
 have cb5:World.cell? (((V.alloc (.cells #[.int .i64 p0] 3)).alloc (.cells #[.int .i64 2] 3)).alloc (.cells #[.int .i64 2] 3)) ⟨w.heap.size,5,none⟩=some (.int .i64 p5):=IB.cell S0.P 5 az
 have cb6:World.cell? (((V.alloc (.cells #[.int .i64 p0] 3)).alloc (.cells #[.int .i64 2] 3)).alloc (.cells #[.int .i64 2] 3)) ⟨w.heap.size,6,none⟩=some (.int .i64 p6):=IB.cell S0.P 6 az
 have cb7:World.cell? (((V.alloc (.cells #[.int .i64 p0] 3)).alloc (.cells #[.int .i64 2] 3)).alloc (.cells #[.int .i64 2] 3)) ⟨w.heap.size,7,none⟩=some (.int .i64 p7):=IB.cell S0.P 7 az
 have cb8:World.cell? (((V.alloc (.cells #[.int .i64 p0] 3)).alloc (.cells #[.int .i64 2] 3)).alloc (.cells #[.int .i64 2] 3)) ⟨w.heap.size,8,none⟩=some (.int .i64 p8):=IB.cell S0.P 8 az
 have HV:=hid hV
 clear hV P0
 go_enter Tryz.func29,Tryz.ntmps29
 go_wp2_with(rw[<-HV.out];clear HV)
 rw[SV.out]
 obtain⟨psL,hpsL⟩:∃psL,psL=[p0,p1,p2,p3,p4,p5,p6,p7,p8,p9,p10,p11,p12,p13,p14,p15,p16,p17,p18,p19,p20,p21,p22,p23,p24]:=⟨_,rfl⟩
 have HPS:=hid hpsL
 rw[<-hpsL] at S0
 have e1:psL.take 1=[p0]:=by rw[hpsL];rfl
 have S0:=hid (show N3 w _ psL _ _ (psL.take 1) _ _ (pkB.take 1) _ _ (pkT.take 1) from by rw[e1];exact S0)
 clear hpsL e1
 obtain⟨W,hW⟩:∃W,W=(((V.alloc (.cells #[.int .i64 p0] 3)).alloc (.cells #[.int .i64 2] 3)).alloc (.cells #[.int .i64 2] 3)):=⟨_,rfl⟩
 rw[<-hW] at S0|-
 clear hW c0 cb1 cb2 cb3 cb4 cb5 cb6 cb7 cb8
 have LPS:=hid (show psL.length=25 from zl)
 go_loopw[5,6,7,19] (fun vv uv mv iv wr=> ∃(k n:Nat) (A1:Option Addr) (c1:Nat) (A2:Option Addr) (c2:Nat) (A3:Option Addr) (c3:Nat),k<=8/\n=k+1/\iv=.int .i64 k/\vv=.slice A1 n c1/\uv=.slice A2 n c2/\mv=.slice A3 n c3/\Hid (N3 w wr psL A1 c1 (psL.take n) A2 c2 (pkB.take n) A3 c3 (pkT.take n))) (fun _ _ _ iv _=>8-(intOf iv).toNat)
 case atStart=>exact⟨0,1,_,_,_,_,_,_,ah,rfl,rfl,rfl,rfl,rfl,S0⟩
 case round=>
  clear S0
  obtain⟨k,n,A1,c1,A2,c2,A3,c3,hk,hn,rfl,rfl,rfl,rfl,T⟩:=hrel
  by_cases hlt:k<8
  ·obtain⟨x,hx⟩:∃x,x=psL.getD n 0:=⟨_,rfl⟩
   have hx2:[p1,p2,p3,p4,p5,p6,p7,p8].getD k 0=x:=by
    rw[hx,HPS.out,hn]
    have:k=0\/k=1\/k=2\/k=3\/k=4\/k=5\/k=6\/k=7:=ah
    rcases this with rfl|rfl|rfl|rfl|rfl|rfl|rfl|rfl<;>rfl
   have hix:=fun w'=>HIX.out k w' hlt
   rw[hx2] at hix
   have k0:(0:Int)<=k:=ah
   have k8:(k:Int)<8:=ah
   obtain⟨d,hd,hd2,hd3,hd4⟩:∃d:Nat,fD.getD k 0=(d:Nat)/\pkB.getD n 0=(d:Nat)/\pkT.getD n 0=2^d-1/\3<=d/\d<=6:=by
    subst hn
    have:k=0\/k=1\/k=2\/k=3\/k=4\/k=5\/k=6\/k=7:=ah
    rcases this with rfl|rfl|rfl|rfl|rfl|rfl|rfl|rfl
    ·exact⟨6,rfl,rfl,rfl,ah⟩
    ·exact⟨6,rfl,rfl,rfl,ah⟩
    ·exact⟨5,rfl,rfl,rfl,ah⟩
    ·exact⟨5,rfl,rfl,rfl,ah⟩
    ·exact⟨4,rfl,rfl,rfl,ah⟩
    ·exact⟨4,rfl,rfl,rfl,ah⟩
    ·exact⟨3,rfl,rfl,rfl,ah⟩
    exact⟨3,rfl,rfl,rfl,ah⟩
   have d0:(0:Int)<=d:=ah
   have d64:(d:Int)<64:=ah
   have hsh:IntKind.i64.wrap (2^d)=2^d:=by
    have:d=3\/d=4\/d=5\/d=6:=ah
    rcases this with rfl|rfl|rfl|rfl<;>decide
   have hsh1:IntKind.i64.wrap (1*2^d)=2^d:=by rw[Int.one_mul];exact hsh
   have hsh2:IntKind.i64.wrap (2^d-1)=2^d-1:=by
    have:d=3\/d=4\/d=5\/d=6:=ah
    rcases this with rfl|rfl|rfl|rfl<;>decide
   have hdu:IntKind.u64.wrap (d:Int)=d:=xe
   obtain⟨aw,cw,tw0,htc,htw⟩:=TT.out.form
   obtain⟨adw,rfl,tw1⟩:=htw k (by rw[show fD.length=8 from rfl];exact hlt)
   rw[hd] at tw1
   have tw0:w.cell? ⟨0,0,none⟩=some (.slice (some adw) 8 cw):=tw0
   have hgt:=JD tw0
   have htl:=JD tw1
   have TW:=hid (fun(W:World) (hb:Below w.heap.size w W)=>show W.cell? ⟨0,0,none⟩=some (.slice (some adw) 8 cw)/\W.cell? (adw.add k)=some (.int .i64 (d:Nat)) from⟨(hb.cell (p:=⟨0,0,none⟩) hgt).trans tw0,(hb.cell htl).trans tw1⟩)
   obtain⟨u0,u1⟩:=TW.out wr T.out.B
   have hcw:(8:Nat)<=cw:=htc
   have HX1:=hid (Tz (l:=psL) (k:=n) (by rw[LPS.out];omega))
   have HX2:=hid (Tz (l:=pkB) (k:=n) (by rw[Qq];omega))
   have HX3:=hid (Tz (l:=pkT) (k:=n) (by rw[Qr];omega))
   rw[<-hx] at HX1
   rw[hd2] at HX2
   rw[hd3] at HX3
   have LV:=hid (show(psL.take n).length=n from UB)
   have LU:=hid (show(pkB.take n).length=n by rw[fL,Qq];omega)
   have LM:=hid (show(pkT.take n).length=n by rw[fL,Qr];omega)
   have HA1:=hid (fun a (h:A1=some a)=>(T.out.O1.lt a h).2)
   have HA2:=hid (fun a (h:A2=some a)=>(T.out.O2.lt a h).2)
   have HA3:=hid (fun a (h:A3=some a)=>(T.out.O3.lt a h).2)
   have HN:=hid hn
   clear hx hx2 hd hd2 hd3 htw hn tw0 tw1 hgt htl htc
   go_wp2
   go_region_held3 (fun w'=>w'.cell? ⟨0,0,none⟩=some (.slice (some adw) 8 cw)/\w'.cell? (adw.add k)=some (.int .i64 (d:Nat))) (first|exact TW.out _ (N3.B dX)|assumption|go_keep) (first
    |(refine uT rfl (.tmp 23) (.tmp 25) rfl (w.heap.size+1) A1 c1 n (psL.take n) rfl LV.out (N3.O1 dX) _ _ 1 1 (n+1) [x] rfl rfl rfl (Tu (by repeat (first|with_reducible exact mW _ _ _|with_reducible refine JE (by first|rfl|(simp;done))|with_reducible refine pY _ ?_|with_reducible refine JF ?_|with_reducible refine Lits.cell L1.out uZ ?_|with_reducible refine Lits.cell L2.out uZ ?_|with_reducible refine Lits.cell L3.out uZ ?_)) (qi _)) jo (N3.size dX) ?_;intro A1' c1' w1 hO hG hA;rw[HX1.out] at hO;have L1:=hid (Tt hG HA1.out);have hz1:=hG.size;(try simp at hz1);have T:=hid (N3.app1 dX hO hG hA);clear hO hG hA)
    |(refine uT rfl (.tmp 27) (.tmp 32) rfl (w.heap.size+1) A2 c2 n (pkB.take n) rfl LU.out (N3.O2 dX) _ _ 1 1 (n+1) [(d:Int)] rfl rfl rfl (Tu (by repeat (first|with_reducible exact mW _ _ _|with_reducible refine JE (by first|rfl|(simp;done))|with_reducible refine pY _ ?_|with_reducible refine JF ?_|with_reducible refine Lits.cell L1.out uZ ?_|with_reducible refine Lits.cell L2.out uZ ?_|with_reducible refine Lits.cell L3.out uZ ?_)) (qi _)) jo (N3.size dX) ?_;intro A2' c2' w2 hO hG hA;rw[HX2.out] at hO;have L2:=hid (Tt hG HA2.out);have hz2:=hG.size;(try simp at hz2);have T:=hid (N3.app2 dX hO hG hA);clear hO hG hA)
    |(refine uT rfl (.tmp 34) (.tmp 42) rfl (w.heap.size+1) A3 c3 n (pkT.take n) rfl LM.out (N3.O3 dX) _ _ 1 1 (n+1) [2^d-1] rfl rfl rfl (Tu (by repeat (first|with_reducible exact mW _ _ _|with_reducible refine JE (by first|rfl|(simp;done))|with_reducible refine pY _ ?_|with_reducible refine JF ?_|with_reducible refine Lits.cell L1.out uZ ?_|with_reducible refine Lits.cell L2.out uZ ?_|with_reducible refine Lits.cell L3.out uZ ?_)) (qi _)) jo (N3.size dX) ?_;intro A3' c3' w3 hO hG hA;rw[HX3.out] at hO;have L3:=hid (Tt hG HA3.out);have hz3:=hG.size;(try simp at hz3);have T:=hid (N3.app3 dX hO hG hA);clear hO hG hA))
   all_goals
    rename_i hHeldZ
    clear hHeldZ u0 u1 hix hsh hsh1 hsh2 hdu
    try simp only[Exit.then]
    go_wp2
    go_roundw
    case rel=>exact⟨k+1,n+1,A1',c1',A2',c2',A3',c3',ah,jo,aO,rfl,rfl,rfl,T⟩
    case measure=>simp[intOf]<;>omega
  obtain rfl:k=8:=ah
  obtain rfl:n=9:=hn
  try rw[show((8:Nat):Int)=8 from rfl]
  have HR:=hid (IB.rangeMid T.out.P 9)
  have H16:=hid (show(Tryz.prog.info? 36).map (·.size)=some (aj (psL.drop 9)).length from by rw[aQ,HPS.out];kernel_rfl)
  have HY0:=hid (show∀w',(Instr.index 36 (.agg (aj (psL.drop 9)).toArray) (.int .i64 0)).run Tryz.prog w'=.ok (.agg #[.int .i64 p9,.int .i64 p10,.int .i64 p11,.int .i64 p12,.int .i64 p13,.int .i64 p14,.int .i64 p15,.int .i64 p16]) w' from by rw[HPS.out];exact fun _=>au)
  have HY1:=hid (show∀w',(Instr.index 36 (.agg (aj (psL.drop 9)).toArray) (.int .i64 1)).run Tryz.prog w'=.ok (.agg #[.int .i64 p17,.int .i64 p18,.int .i64 p19,.int .i64 p20,.int .i64 p21,.int .i64 p22,.int .i64 p23,.int .i64 p24]) w' from by rw[HPS.out];exact fun _=>au)
  go_wp2_with(refine bI rfl 36 (.tmp 45) rfl _ 9 rfl (aj (psL.drop 9)) _ HR.out Tryz.underlying36 rfl H16.out ?_)
  generalize (aj (psL.drop 9)).toArray=L16 at*
  go_loopw[5,6,7,47] (fun vv uv mv iv wr=> ∃(s n:Nat) (A1:Option Addr) (c1:Nat) (A2:Option Addr) (c2:Nat) (A3:Option Addr) (c3:Nat),s<=2/\n=9+8*s/\iv=.int .i64 s/\vv=.slice A1 n c1/\uv=.slice A2 n c2/\mv=.slice A3 n c3/\Hid (N3 w wr psL A1 c1 (psL.take n) A2 c2 (pkB.take n) A3 c3 (pkT.take n))) (fun _ _ _ iv _=>2-(intOf iv).toNat)
  case atStart=>exact⟨0,9,_,_,_,_,_,_,ah,rfl,rfl,rfl,rfl,rfl,T⟩
  case round=>
   clear T HR
   obtain⟨s,n,A1,c1,A2,c2,A3,c3,hs,hn,rfl,rfl,rfl,rfl,T⟩:=hrel
   by_cases hlt:s<2
   ·obtain rfl|rfl:s=0\/s=1:=ah
    ·obtain rfl:n=9:=hn
     try rw[show((0:Nat):Int)=0 from rfl]
     have hdec:decide ((0:Int)<2)=true:=rfl
     have hiy:=HY0.out
     have HX1:=hid (show psL.take 9++[p9,p10]=psL.take 11 from zl)
     have HX2:=hid (show psL.take 11++[p11,p12,p13,p14]=psL.take 15 from zl)
     have HX3:=hid (show psL.take 15++[p15,p16]=psL.take 17 from zl)
     have TL:=hid (show∀j,j<=25->(psL.take j).length=j from fun j hj=>UB)
     have HA:=hid (fun a (h:A1=some a)=>(T.out.O1.lt a h).2)
     have NB:=hid (fun a (h:A1=some a)=>show a.block≠wr.heap.size from by have:=HA.out a h;omega)
     have T:=hid (T.out.alloc (.cells #[.int .i64 p9,.int .i64 p10,.int .i64 p11,.int .i64 p12,.int .i64 p13,.int .i64 p14,.int .i64 p15,.int .i64 p16] 35))
     have B8:=hid (Box8.new wr 35 p9 p10 p11 p12 p13 p14 p15 p16)
     obtain⟨s0,s1,s2,s3,s4,s5,s6,s7⟩:=B8.out
     go_wp2
     go_region_held3 (fun w'=>w'.cell? ⟨wr.heap.size,0,none⟩=some (.int .i64 p9)/\w'.cell? ⟨wr.heap.size,1,none⟩=some (.int .i64 p10)/\w'.cell? ⟨wr.heap.size,2,none⟩=some (.int .i64 p11)/\w'.cell? ⟨wr.heap.size,3,none⟩=some (.int .i64 p12)/\w'.cell? ⟨wr.heap.size,4,none⟩=some (.int .i64 p13)/\w'.cell? ⟨wr.heap.size,5,none⟩=some (.int .i64 p14)/\w'.cell? ⟨wr.heap.size,6,none⟩=some (.int .i64 p15)/\w'.cell? ⟨wr.heap.size,7,none⟩=some (.int .i64 p16)) (first|exact lG|go_keep) (first
      |(refine uT rfl (.tmp 50) (.tmp 55) rfl (w.heap.size+1) A1 c1 9 (psL.take 9) rfl (TL.out 9 ah) (N3.O1 dX) _ _ _ 2 11 [p9,p10] rfl rfl rfl (JG wU wU (qi _)) ah (N3.size dX) ?_;intro Aa ca w1 hO hG hA;rw[HX1.out] at hO;have L1:=hid (Ai hG);have M1:=hid hA;have U1:=hid (fun a h=>(Own.lt hO a h).2);have NB2:=hid (vS hA NB.out (Box8.lt lG));have B8:=hid (Box8.hop lG L1.out NB.out);have NB:=hid NB2.out;have T:=hid (N3.app1 dX hO hG hA);clear hO hG hA NB2)
      |(refine uT rfl (.tmp 56) (.tmp 58) rfl (w.heap.size+1) Aa ca 11 (psL.take 11) rfl (TL.out 11 ah) (N3.O1 dX) _ _ _ 4 15 [p11,p12,p13,p14] rfl rfl rfl (Box8.rs lG (qi _)) ah (N3.size dX) ?_;intro Ab cb w2 hO hG hA;rw[HX2.out] at hO;have L2:=hid (Ai hG);have M2:=hid hA;have U2:=hid (fun a h=>(Own.lt hO a h).2);have NB2:=hid (vS hA NB.out (Box8.lt lG));have B8:=hid (Box8.hop lG L2.out NB.out);have NB:=hid NB2.out;have T:=hid (N3.app1 dX hO hG hA);clear hO hG hA NB2)
      |(refine uT rfl (.tmp 59) (.tmp 64) rfl (w.heap.size+1) Ab cb 15 (psL.take 15) rfl (TL.out 15 ah) (N3.O1 dX) _ _ _ 2 17 [p15,p16] rfl rfl rfl (JG wU wU (qi _)) ah (N3.size dX) ?_;intro Ac cc w3 hO hG hA;rw[HX3.out] at hO;have L3:=hid (Ai hG);have M3:=hid hA;have U3:=hid (fun a h=>(Own.lt hO a h).2);have NB2:=hid (vS hA NB.out (Box8.lt lG));have B8:=hid (Box8.hop lG L3.out NB.out);have NB:=hid NB2.out;have T:=hid (N3.app1 dX hO hG hA);clear hO hG hA NB2))
     all_goals
      rename_i hHeldZ
      clear hHeldZ s0 s1 s2 s3 s4 s5 s6 s7 hiy B8 NB
      try simp only[Exit.then]
      go_wp2_with(first
       |(at_builtin;refine oQ rfl (.tmp 66) (.tmp 67) rfl (w.heap.size+1) A2 c2 9 (pkB.take 9) rfl rfl (N3.O2 dX) _ _ 8 8 [6,3,4,4,4,4,4,5] rfl rfl (yZ w3 [6,3,4,4,4,4,4,5] w3.heap.size (al0z _) aB).reads ah (N3.size dX) ?_;intro A2' c2' w4 hO hG hA;have hO:Own w4 (w.heap.size+1) A2' c2' (pkB.take 17):=hO;have T:=hid (N3.app2 dX hO hG hA);clear hO hG hA)
       |(at_builtin;refine oQ rfl (.tmp 69) (.tmp 70) rfl (w.heap.size+1) A3 c3 9 (pkT.take 9) rfl rfl (N3.O3 dX) _ _ 8 8 [59,7,9,9,9,9,15,31] rfl rfl (yZ w4 [59,7,9,9,9,9,15,31] w4.heap.size (al0z _) aB).reads ah (N3.size dX) ?_;intro A3' c3' w5 hO hG hA;have hO:Own w5 (w.heap.size+1) A3' c3' (pkT.take 17):=hO;have T:=hid (N3.app3 dX hO hG hA);clear hO hG hA))
      go_roundw
      case rel=>exact⟨1,17,Ac,cc,A2',c2',A3',c3',ah,rfl,rfl,rfl,rfl,rfl,T⟩
      case measure=>simp[intOf]<;>omega
    obtain rfl:n=17:=hn
    try rw[show((1:Nat):Int)=1 from rfl]
    have hdec:decide ((1:Int)<2)=true:=rfl
    have hiy:=HY1.out
    have HX1:=hid (show psL.take 17++[p17,p18]=psL.take 19 from zl)
    have HX2:=hid (show psL.take 19++[p19,p20,p21,p22]=psL.take 23 from zl)
    have HX3:=hid (show psL.take 23++[p23,p24]=psL.take 25 from zl)
    have TL:=hid (show∀j,j<=25->(psL.take j).length=j from fun j hj=>UB)
    have HA:=hid (fun a (h:A1=some a)=>(T.out.O1.lt a h).2)
    have NB:=hid (fun a (h:A1=some a)=>show a.block≠wr.heap.size from by have:=HA.out a h;omega)
    have T:=hid (T.out.alloc (.cells #[.int .i64 p17,.int .i64 p18,.int .i64 p19,.int .i64 p20,.int .i64 p21,.int .i64 p22,.int .i64 p23,.int .i64 p24] 35))
    have B8:=hid (Box8.new wr 35 p17 p18 p19 p20 p21 p22 p23 p24)
    obtain⟨s0,s1,s2,s3,s4,s5,s6,s7⟩:=B8.out
    go_wp2
    go_region_held3 (fun w'=>w'.cell? ⟨wr.heap.size,0,none⟩=some (.int .i64 p17)/\w'.cell? ⟨wr.heap.size,1,none⟩=some (.int .i64 p18)/\w'.cell? ⟨wr.heap.size,2,none⟩=some (.int .i64 p19)/\w'.cell? ⟨wr.heap.size,3,none⟩=some (.int .i64 p20)/\w'.cell? ⟨wr.heap.size,4,none⟩=some (.int .i64 p21)/\w'.cell? ⟨wr.heap.size,5,none⟩=some (.int .i64 p22)/\w'.cell? ⟨wr.heap.size,6,none⟩=some (.int .i64 p23)/\w'.cell? ⟨wr.heap.size,7,none⟩=some (.int .i64 p24)) (first|exact lG|go_keep) (first
     |(refine uT rfl (.tmp 50) (.tmp 55) rfl (w.heap.size+1) A1 c1 17 (psL.take 17) rfl (TL.out 17 ah) (N3.O1 dX) _ _ _ 2 19 [p17,p18] rfl rfl rfl (JG wU wU (qi _)) ah (N3.size dX) ?_;intro Aa ca w1 hO hG hA;rw[HX1.out] at hO;have L1:=hid (Ai hG);have M1:=hid hA;have U1:=hid (fun a h=>(Own.lt hO a h).2);have NB2:=hid (vS hA NB.out (Box8.lt lG));have B8:=hid (Box8.hop lG L1.out NB.out);have NB:=hid NB2.out;have T:=hid (N3.app1 dX hO hG hA);clear hO hG hA NB2)
     |(refine uT rfl (.tmp 56) (.tmp 58) rfl (w.heap.size+1) Aa ca 19 (psL.take 19) rfl (TL.out 19 ah) (N3.O1 dX) _ _ _ 4 23 [p19,p20,p21,p22] rfl rfl rfl (Box8.rs lG (qi _)) ah (N3.size dX) ?_;intro Ab cb w2 hO hG hA;rw[HX2.out] at hO;have L2:=hid (Ai hG);have M2:=hid hA;have U2:=hid (fun a h=>(Own.lt hO a h).2);have NB2:=hid (vS hA NB.out (Box8.lt lG));have B8:=hid (Box8.hop lG L2.out NB.out);have NB:=hid NB2.out;have T:=hid (N3.app1 dX hO hG hA);clear hO hG hA NB2)
     |(refine uT rfl (.tmp 59) (.tmp 64) rfl (w.heap.size+1) Ab cb 23 (psL.take 23) rfl (TL.out 23 ah) (N3.O1 dX) _ _ _ 2 25 [p23,p24] rfl rfl rfl (JG wU wU (qi _)) ah (N3.size dX) ?_;intro Ac cc w3 hO hG hA;rw[HX3.out] at hO;have L3:=hid (Ai hG);have M3:=hid hA;have U3:=hid (fun a h=>(Own.lt hO a h).2);have NB2:=hid (vS hA NB.out (Box8.lt lG));have B8:=hid (Box8.hop lG L3.out NB.out);have NB:=hid NB2.out;have T:=hid (N3.app1 dX hO hG hA);clear hO hG hA NB2))
    all_goals
     rename_i hHeldZ
     clear hHeldZ s0 s1 s2 s3 s4 s5 s6 s7 hiy B8 NB
     try simp only[Exit.then]
     go_wp2_with(first
      |(at_builtin;refine oQ rfl (.tmp 66) (.tmp 67) rfl (w.heap.size+1) A2 c2 17 (pkB.take 17) rfl rfl (N3.O2 dX) _ _ 8 8 [6,3,4,4,4,4,4,5] rfl rfl (yZ w3 [6,3,4,4,4,4,4,5] w3.heap.size (al0z _) aB).reads ah (N3.size dX) ?_;intro A2' c2' w4 hO hG hA;have hO:Own w4 (w.heap.size+1) A2' c2' (pkB.take 25):=hO;have T:=hid (N3.app2 dX hO hG hA);clear hO hG hA)
      |(at_builtin;refine oQ rfl (.tmp 69) (.tmp 70) rfl (w.heap.size+1) A3 c3 17 (pkT.take 17) rfl rfl (N3.O3 dX) _ _ 8 8 [59,7,9,9,9,9,15,31] rfl rfl (yZ w4 [59,7,9,9,9,9,15,31] w4.heap.size (al0z _) aB).reads ah (N3.size dX) ?_;intro A3' c3' w5 hO hG hA;have hO:Own w5 (w.heap.size+1) A3' c3' (pkT.take 25):=hO;have T:=hid (N3.app3 dX hO hG hA);clear hO hG hA))
     go_roundw
     case rel=>exact⟨2,25,Ac,cc,A2',c2',A3',c3',ah,rfl,rfl,rfl,rfl,rfl,T⟩
     case measure=>simp[intOf]<;>omega
   obtain rfl:s=2:=ah
   obtain rfl:n=25:=hn
   go_wp2
   go_ret3
   exact⟨A1,c1,A2,c2,A3,c3,rfl,by have:=T.out.O1;rw[HPS.out] at this;exact this,T.out.O2,T.out.O3,T.out.B⟩
theorem aiG:(Tryz.prog.info? 38).map (·.size)=some 25:=au
theorem aiH(ps:List Int)(w:World)(T:TabS w 0 fD)(hl:ps.length=25):
 Calls Tryz.prog 28 #[.agg (agi ps)] w fun e w'=>e=.returned (.bool (cf ps 25))/\Below w.heap.size w w':=by
 have P0:=hid (IB.new w 38 ps)
 have B0:=hid ((aA w.heap.size w).alloc (al0z _) (.cells (agi ps) 38))
 have T0:=hid (T.below B0.out)
 have HL:=hid hl
 clear T hl
 obtain⟨V,hV⟩:∃V,V=w.alloc (.cells (agi ps) 38):=⟨_,rfl⟩
 rw[<-hV] at P0 B0 T0
 have HV:=hid hV
 clear hV
 have KN:=hid (aau ps V T0.out HL.out)
 go_enter Tryz.func28,Tryz.ntmps28
 go_wp2_with(first
  |(rw[<-HV.out];clear HV)
  |(refine aK rfl 38 (.tmp 1) rfl _ 38 ps 25 _ rfl P0.out Tryz.underlying38 rfl aiG HL.out ?_)
  |(go_at_call 29;(with_reducible refine KN.out.mono ?_);rintro e w1 ⟨A1,c1,A2,c2,A3,c3,rfl,h1,h2,h3,hB⟩;have O1:=hid h1.reads;have O3:=hid h3.reads;have B1:=hid (B0.out.trans (hB.mono B0.out.size));clear h1 h2 h3 hB))
 go_loopw[15] (fun iv wr=> ∃i:Nat,i<=25/\iv=.int .i64 i/\Hid (cf ps i=true)/\Hid (Below w1.heap.size w1 wr)) (fun iv _=>25-(intOf iv).toNat)
 case atStart=>exact⟨0,ah,rfl,hid (Yb ps),hid (aA _ _)⟩
 case round=>
  obtain⟨i,hi,rfl,HP,HB⟩:=hrel
  by_cases hlt:i<25
  ·obtain⟨ad,rfl,_,k0⟩:=(O1.out.below HB.out).at_ (k:=i) oK
   obtain⟨ae,rfl,_,k1⟩:=(O3.out.below HB.out).at_ (k:=i) (by rw[Qr];exact hlt)
   have HN:=hid (fun h=>Yd (ps:=ps) hlt h)
   have HY:=hid (fun h=>Yc HP.out h)
   have HD:=hid (show oz ps i↔0<=ps.getD i 0/\ps.getD i 0<=pkT.getD i 0 from Iff.rfl)
   generalize ps.getD i 0=x at*
   generalize pkT.getD i 0=t at*
   have i0:(0:Int)<=i:=ah
   have i25:(i:Int)<25:=ah
   go_wp2
   by_cases hx:x<0
   ·have d0:decide (x<0)=true:=BJ
    exact abP
   have d0:decide (x<0)=false:=BJ
   by_cases ht:t<x
   ·have d1:decide (t<x)=true:=by simpa using ht
    exact abP
   have d1:decide (t<x)=false:=by simpa using ht
   go_quiet (fail)
   go_wp2
   go_roundw
   case rel=>exact⟨i+1,ah,aO,hid (HY.out (HD.out.2 ah)),hid (HB.out.trans ((iJ wr _).mono HB.out.size))⟩
   case measure=>simp[intOf]<;>omega
  exact aco
end Go.Proofs.YthoiikkjjaldnaaGreatDoor
