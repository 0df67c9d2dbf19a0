/- Texts that the law rests on. -/
import Derived.Test.YthoiikkjjaldnaaGreatDoorZ1e0l
import Derived.Test.YthoiikkjjaldnaaGreatDoorZ1e0n
namespace Go.Proofs.YthoiikkjjaldnaaGreatDoor
set_option linter.unusedVariables false
set_option linter.unusedSimpArgs false
set_option maxRecDepth 100000
set_option maxHeartbeats 8000000
open Go.RowKit
theorem ajp(A A2:Option Addr)(c c2 n1 n2:Nat)(d ring:List Int)(w:World)(hd:Rs w w.heap.size A d)(l1:d.length=n1)(l2:ring.length=n2):
 Calls Tryz.prog 180 #[.slice A n1 c,.slice A2 n2 c2] w (fun e w'=>e=.returned (.int .i64 (iV d ring))/\w=w'):=by
 by_cases hl:n1=40
 rotate_left
 ·have HE:=hid (Ar (d:=d) (ring:=ring) ah)
  have d0:((n1:Int) !=40)=true:=aJ
  have d1: ¬(n1:Int)=40:=ah
  clear hl hd l1 l2
  exact acF
 subst hl
 by_cases hl2:n2=40
 rotate_left
 ·have HE:=hid (Ar (d:=d) (ring:=ring) ah)
  have d0:((n2:Int) !=40)=true:=aJ
  have d1: ¬(n2:Int)=40:=ah
  clear hl2 hd l1 l2
  exact acF
 subst hl2
 have HE:=hid (aaG l1 l2)
 have HD:=hid hd
 have DL:=hid l1
 clear hd l1 l2
 go_enter Tryz.func180,Tryz.ntmps180
 go_wp2
 go_loop [17] (fun iv=> ∃i:Nat,i<=40/\iv=.int .i64 i/\Hid (allTo (fun x=>decide (-1099511627776<=x/\x<=1099511627776)) d i)) (fun iv=>40-(intOf iv).toNat)
 case atStart=>exact⟨0,ah,rfl,hid allTo.zero⟩
 case round=>
  obtain⟨i,hi,rfl,HY⟩:=hrel
  by_cases hlt:i<40
  ·obtain⟨ad,rfl,_,c0⟩:=HD.out.at_ (k:=i) UV
   obtain⟨x,hx⟩:∃x,x=d.getD i 0:=⟨_,rfl⟩
   rw[<-hx] at c0
   by_cases hb:x< -1099511627776\/1099511627776<x
   ·have HE2:=hid (show iV d ring=2 from abE)
    clear hx
    rcases hb with hb|hb
    ·have e1:decide (x< -1099511627776)=true:=Fh
     exact Vg
    have e1:decide (x< -1099511627776)=false:=aJ
    have e3:decide (1099511627776<x)=true:=aJ
    exact Vg
   exact l74
  obtain rfl:i=40:=ah
  have OK:=hid (show okD d=true from HY.out.all (by rw[DL.out];exact al0z _))
  have HE2:=hid (show iV d ring=0 by rw[HE.out,OK.out];rfl)
  exact Vg
def sgT(d x:List Int):Nat->Nat
 |0=>0
 |i+1=>if 0<=d.getD (plc x (3-i)) 0 then sgT d x i*2+1 else sgT d x i*2
theorem JY(d x:List Int)(i:Nat):sgT d x i<2^i:=by
 induction i with
 |zero=>simp[sgT]
 |succ i ih=>
  unfold sgT
  rw[Nat.pow_succ]
  split<;>omega
theorem ajq(d x:List Int):((sgT d x 4:Nat):Int)=mg d x 4:=by
 unfold mg
 congr 1
 simp only[sgT,gZ,show 3-0=3 from rfl,show 3-1=2 from rfl,show 3-2=1 from rfl,show 3-3=0 from rfl]
 generalize d.getD (plc x 0) 0=a0
 generalize d.getD (plc x 1) 0=a1
 generalize d.getD (plc x 2) 0=a2
 generalize d.getD (plc x 3) 0=a3
 by_cases h0:0<=a0<;>by_cases h1:0<=a1<;>by_cases h2:0<=a2<;>by_cases h3:0<=a3<;>simp[h0,h1,h2,h3]
theorem ajr(A:Option Addr)(c:Nat)(d x:List Int)(w:World)(hd:Rs w w.heap.size A d)(dl:d.length=40)(hx:Ix x):
 Calls Tryz.prog 182 #[.slice A 40 c,.agg (agi x)] w (fun e w'=>e=.returned (.int .i64 (mg d x 4))/\Below w.heap.size w w'):=by
 have BA:=hid ((aA w.heap.size w).alloc (al0z _) (.cells (agi x) 33))
 have I0:=hid (IB.new w 33 x)
 have HD:=hid ((hd.below BA.out).more BA.out.size)
 have DL:=hid dl
 have OK:=hid hx.2
 have X4:=hid hx.1
 have FIN:=hid (ajq d x)
 clear hd dl hx
 go_enter Tryz.func182,Tryz.ntmps182
 go_wp2
 generalize w.alloc (.cells (agi x) 33)=V at I0 HD BA|-
 go_loop [5,6] (fun sv iv=> ∃i:Nat,i<=4/\iv=.int .i64 (3-(i:Int))/\sv=.int .i64 ((sgT d x i:Nat):Int)) (fun _ iv=>(intOf iv+1).toNat)
 case atStart=>exact⟨0,ah,rfl,rfl⟩
 case round=>
  obtain⟨i,hi,rfl,rfl⟩:=hrel
  by_cases hlt:i<4
  ·have hi4:i=0\/i=1\/i=2\/i=3:=ah
   clear hlt hi
   rcases hi4 with rfl|rfl|rfl|rfl
   ·have po:=pg OK.out 3
    obtain⟨q,hq⟩:=dP po.1
    have pa:=qU OK.out (t:=3) ah
    have hpl:(3:Int)+4*(q:Nat)=(plc x 3:Nat):=uh
    have cx:=IB.cell I0.out 3 Ot
    rw[hq] at po cx
    try simp only[Int.zero_add] at hpl
    have SG:=hid (show sgT d x (0+1)=if 0<=d.getD (plc x 3) 0 then sgT d x 0*2+1 else sgT d x 0*2 from rfl)
    have SL:=JY d x 0
    obtain⟨a,ha⟩:∃a,a=plc x 3:=⟨_,rfl⟩
    rw[<-ha] at hpl pa SG
    obtain⟨ad,rfl,hadb,c0⟩:=HD.out.at_ (k:=a) rH
    generalize d.getD a 0=y at*
    generalize sgT d x 0=s at*
    have q9:(q:Int)<=9:=po.2
    have a40:(a:Int)<40:=ah
    have a0:(0:Int)<=a:=ah
    have s16:(s:Int)<16:=by have:s<1:=SL;omega
    have HA:=hid ha
    have HQ:=hid hq
    clear po ha hq SL
    by_cases hy:0<=y
    ·have hd:decide (0<=y)=true:=qm
     have NS:=hid (show sgT d x (0+1)=s*2+1 from xg)
     exact acb
    have hd:decide (0<=y)=false:=aJ
    have NS:=hid (show sgT d x (0+1)=s*2 from xh)
    exact acb
   ·have po:=pg OK.out 2
    obtain⟨q,hq⟩:=dP po.1
    have pa:=qU OK.out (t:=2) ah
    have hpl:(2:Int)+4*(q:Nat)=(plc x 2:Nat):=uh
    have cx:=IB.cell I0.out 2 Ot
    rw[hq] at po cx
    try simp only[Int.zero_add] at hpl
    have SG:=hid (show sgT d x (1+1)=if 0<=d.getD (plc x 2) 0 then sgT d x 1*2+1 else sgT d x 1*2 from rfl)
    have SL:=JY d x 1
    obtain⟨a,ha⟩:∃a,a=plc x 2:=⟨_,rfl⟩
    rw[<-ha] at hpl pa SG
    obtain⟨ad,rfl,hadb,c0⟩:=HD.out.at_ (k:=a) rH
    generalize d.getD a 0=y at*
    generalize sgT d x 1=s at*
    have q9:(q:Int)<=9:=po.2
    have a40:(a:Int)<40:=ah
    have a0:(0:Int)<=a:=ah
    have s16:(s:Int)<16:=by have:s<2:=SL;omega
    have HA:=hid ha
    have HQ:=hid hq
    clear po ha hq SL
    by_cases hy:0<=y
    ·have hd:decide (0<=y)=true:=qm
     have NS:=hid (show sgT d x (1+1)=s*2+1 from xg)
     exact acd
    have hd:decide (0<=y)=false:=aJ
    have NS:=hid (show sgT d x (1+1)=s*2 from xh)
    exact acd
   ·have po:=pg OK.out 1
    obtain⟨q,hq⟩:=dP po.1
    have pa:=qU OK.out (t:=1) ah
    have hpl:(1:Int)+4*(q:Nat)=(plc x 1:Nat):=uh
    have cx:=IB.cell I0.out 1 Ot
    rw[hq] at po cx
    try simp only[Int.zero_add] at hpl
    have SG:=hid (show sgT d x (2+1)=if 0<=d.getD (plc x 1) 0 then sgT d x 2*2+1 else sgT d x 2*2 from rfl)
    have SL:=JY d x 2
    obtain⟨a,ha⟩:∃a,a=plc x 1:=⟨_,rfl⟩
    rw[<-ha] at hpl pa SG
    obtain⟨ad,rfl,hadb,c0⟩:=HD.out.at_ (k:=a) rH
    generalize d.getD a 0=y at*
    generalize sgT d x 2=s at*
    have q9:(q:Int)<=9:=po.2
    have a40:(a:Int)<40:=ah
    have a0:(0:Int)<=a:=ah
    have s16:(s:Int)<16:=by have:s<4:=SL;omega
    have HA:=hid ha
    have HQ:=hid hq
    clear po ha hq SL
    by_cases hy:0<=y
    ·have hd:decide (0<=y)=true:=qm
     have NS:=hid (show sgT d x (2+1)=s*2+1 from xg)
     exact acf
    have hd:decide (0<=y)=false:=aJ
    have NS:=hid (show sgT d x (2+1)=s*2 from xh)
    exact acf
   have po:=pg OK.out 0
   obtain⟨q,hq⟩:=dP po.1
   have pa:=qU OK.out (t:=0) ah
   have hpl:(0:Int)+4*(q:Nat)=(plc x 0:Nat):=uh
   have cx:=IB.cell I0.out 0 Ot
   rw[hq] at po cx
   try simp only[Int.zero_add] at hpl
   have SG:=hid (show sgT d x (3+1)=if 0<=d.getD (plc x 0) 0 then sgT d x 3*2+1 else sgT d x 3*2 from rfl)
   have SL:=JY d x 3
   obtain⟨a,ha⟩:∃a,a=plc x 0:=⟨_,rfl⟩
   rw[<-ha] at hpl pa SG
   obtain⟨ad,rfl,hadb,c0⟩:=HD.out.at_ (k:=a) rH
   generalize d.getD a 0=y at*
   generalize sgT d x 3=s at*
   have q9:(q:Int)<=9:=po.2
   have a40:(a:Int)<40:=ah
   have a0:(0:Int)<=a:=ah
   have s16:(s:Int)<16:=by have:s<8:=SL;omega
   have HA:=hid ha
   have HQ:=hid hq
   clear po ha hq SL
   by_cases hy:0<=y
   ·have hd:decide (0<=y)=true:=qm
    have NS:=hid (show sgT d x (3+1)=s*2+1 from xg)
    exact acg
   have hd:decide (0<=y)=false:=aJ
   have NS:=hid (show sgT d x (3+1)=s*2 from xh)
   exact acg
  obtain rfl:i=4:=ah
  go_wp2
  go_ret
  exact⟨by rw[<-FIN.out];rfl,BA.out⟩
def boS(d ring:List Int)(l:List (List Int))(i:Nat):Bst:=if i=0 then⟨l.getD 0 [],true,0,0⟩ else jk d ring (l.take i)
theorem ajs{l:List (List Int)}{i:Nat}(h:i<l.length):l.take (i+1)=l.take i++[l.getD i []]:=by
 rw[List.take_add_one,bi,jO h]
 rfl
theorem ajt{d ring:List Int}{l:List (List Int)}{i:Nat}(h:i<l.length):
 boS d ring l (i+1)=if i=0\/dO (scC d (l.getD i []) 4) (scE d ring (l.getD i [])) (boS d ring l i).c (boS d ring l i).e=true then⟨l.getD i [],false,scC d (l.getD i []) 4,scE d ring (l.getD i [])⟩ else boS d ring l i:=by
 unfold boS
 rw[if_neg ah,ajs h,ahg]
 by_cases h0:i=0
 ·subst h0
  rw[if_pos (.inl rfl)]
  rfl
 ·rw[if_neg h0]
  have hf:(jk d ring (l.take i)).first=false:=by
   unfold jk
   rw[YU]
   have:(l.take i).isEmpty=false:=by
    have hl:(l.take i).length=i:=vg
    cases hq:l.take i with
    |nil=>rw[hq] at hl;simp at hl;omega
    |cons a b=>rfl
   rw[this,Bool.and_false]
  unfold fZ
  rw[hf,Bool.false_or]
  by_cases hb:dO (scC d (l.getD i []) 4) (scE d ring (l.getD i [])) (jk d ring (l.take i)).c (jk d ring (l.take i)).e=true
  ·rw[if_pos hb,if_pos (.inr hb)]
  rw[if_neg hb,if_neg (by rintro(h1|h1);exact h0 h1;exact hb h1)]
theorem aaT{d ring:List Int}{l:List (List Int)}(hl:∀x∈l,Ix x)(h0:0<l.length)(i:Nat):Ix (boS d ring l i).at_:=by
 unfold boS
 split
 ·show Ix (l.getD 0 [])
  rw[bi,jO h0]
  exact hl _ (List.getElem_mem h0)
 exact DR (s:=yJ) DN fun x hx=>hl x (List.mem_of_mem_take hx)
theorem aju{d ring:List Int}{l:List (List Int)}(i:Nat):Eu (boS d ring l i):=by
 unfold boS
 split
 ·exact⟨⟨(by decide:(-9223372036854775808:Int)<=0),(by decide:(0:Int)<=9223372036854775807)⟩,⟨(by decide:(-9223372036854775808:Int)<=0),(by decide:(0:Int)<=9223372036854775807)⟩⟩
 exact Ri (s:=yJ) ⟨⟨aB,aB⟩,⟨aB,aB⟩⟩
theorem aaU{l:List (List Int)}(hl:∀x∈l,Ix x){i:Nat}(h:i<l.length):Ix (l.getD i []):=by
 rw[bi,jO h]
 exact hl _ (List.getElem_mem h)
theorem ajv(A A2:Option Addr)(c c2 c3 g n:Nat)(d ring:List Int)(l:List (List Int))(w:World)(hd:Rs w w.heap.size A d)(hr:Rs w w.heap.size A2 ring)(l1:d.length=40)(l2:ring.length=40)(dw:W64 d)(rw_:W64 ring)(hl:∀x∈l,Ix x)(hn:l.length=n)(h0:0<n)(hn2:n<=100000)(h4:Rs4 w g l):
 Calls Tryz.prog 181 #[.slice A 40 c,.slice A2 40 c2,.slice (some ⟨g,0,none⟩) n c3] w (fun e w'=>e=.returned (.agg (agi (jk d ring l).at_))/\Below w.heap.size w w'):=by
 have hR:=x8 (fn:=Tryz.f181) (p:=6) (ty:=33) rfl
 have KS:=hid (fun(W:World) (h1:Rs W W.heap.size A d) (h2:Rs W W.heap.size A2 ring) (x:List Int) (hx:Ix x)=>show Calls Tryz.prog 198 #[.slice A 40 c,.slice A2 40 c2,.agg (agi x)] W (fun e w'=>e=.returned (.tuple #[.int .i64 (scC d x 4),.int .i64 (scE d ring x),.int .i64 0])/\Below W.heap.size W w') from by
  refine(aiY A A2 c c2 40 40 d ring x W h1 h2 l1 l2 dw rw_ hx.1).mono ?_
  rintro e w' ⟨rfl,hB⟩
  have he:lg d ring x=0:=by unfold lg;rw[if_pos ⟨l1,l2⟩,hx.2];rfl
  exact⟨by unfold Ja Jb;rw[he];rfl,hB⟩)
 have HD:=hid hd
 have HR:=hid hr
 have HL:=hid hl
 have HN:=hid hn
 have H0:=hid h0
 have B0:=((aA w.heap.size w).alloc (al0z _) (.cells (agi Z4) 33)).alloc az (.cells (agi Z4) 33)
 have I0:=hid (aaU hl (show 0<l.length from ah))
 have R0:=hid (show w.rangeAt g 0 (aj (l.getD 0 [])) from h4.2 0 ah)
 have RA:=hid (show(w.alloc (.cells (agi Z4) 33)).rangeAt g 0 (aj (l.getD 0 [])) from World.rangeAt_alloc R0.out _)
 have hi4:(Tryz.prog.info? 33).map (·.size)=some (aj (l.getD 0 [])).length:=by rw[aQ,I0.out.1];exact eY
 have GL:=hid h4.1
 have ZA:=hid (IB.new w 33 Z4)
 have QA:=IB.new (w.alloc (.cells (agi Z4) 33)) 33 Z4
 simp only[bU] at QA
 have QA:=hid QA
 rename_i QAr
 clear QAr
 have Q1:=hid (IB.setRow QA.out (l.getD 0 []))
 have Z1:=hid (show IB (((w.alloc (.cells (agi Z4) 33)).alloc (.cells (agi Z4) 33)).setRow (w.heap.size+1) (agi (l.getD 0 []))) w.heap.size 33 Z4 from Blk.rowFar (Blk.alloc ZA.out _) ah)
 have R1:=hid (show Rs4 (((w.alloc (.cells (agi Z4) 33)).alloc (.cells (agi Z4) 33)).setRow (w.heap.size+1) (agi (l.getD 0 []))) g l from Rs4.rowFar ((h4.below ((aA w.heap.size w).alloc (al0z _) _)).below ((aA _ _).alloc (al0z _) _)) mM _)
 have B1:=hid (aS B0 (g:=w.heap.size+1) ah (agi (l.getD 0 [])))
 obtain⟨W,hW⟩:∃W,W=(((w.alloc (.cells (agi Z4) 33)).alloc (.cells (agi Z4) 33)).setRow (w.heap.size+1) (agi (l.getD 0 []))):=⟨_,rfl⟩
 rw[<-hW] at Q1 Z1 R1 B1
 rw[show agi Z4= #[.int .i64 0,.int .i64 0,.int .i64 0,.int .i64 0] from rfl] at hW
 have HW:=hid hW
 have S0:=hid (show boS d ring l 0=⟨l.getD 0 [],true,0,0⟩ from rfl)
 have HI4:=hid hi4
 clear hd hr l1 l2 dw rw_ hl hn h4 B0 hW hi4
 obtain⟨y0,hy0⟩:∃y0,y0=l.getD 0 []:=⟨_,rfl⟩
 rw[<-hy0] at I0 R0 RA HI4 Q1 HW S0
 clear hy0
 have n0:(0:Int)<n:=ah
 have u4:=Tryz.underlying33
 go_enter Tryz.func181,Tryz.ntmps181
 go_wp2_with(first
  |(refine bI rfl 33 (.tmp 16) rfl g 0 rfl (aj y0) _ RA.out u4 rfl HI4.out ?_)
  |(refine aP rfl 33 (.tmp 7) (.tmp 17) rfl _ 33 Z4 y0 4 rfl rfl QA.out eY rfl I0.out.1 ?_;rw[<-HW.out]))
 clear RA ZA QA
 go_loopw[8,9,20] (fun cv ev iv wr=> ∃i:Nat,i<=n/\iv=.int .i64 i/\cv=.int .i64 (boS d ring l i).c/\ev=.int .i64 (boS d ring l i).e/\Hid (IB wr w.heap.size 33 Z4)/\Hid (IB wr (w.heap.size+1) 33 (boS d ring l i).at_)/\Hid (Rs4 wr g l)/\Hid (Below w.heap.size w wr)) (fun _ _ iv _=>n-(intOf iv).toNat)
 case atStart=>exact⟨0,ah,rfl,by rw[S0.out],by rw[S0.out],Z1,by rw[S0.out];exact Q1,R1,B1⟩
 case round=>
  clear Z1 Q1 R1 B1
  obtain⟨i,hi,rfl,rfl,rfl,HZ,HQ,H4,HB⟩:=hrel
  by_cases hlt:i<n
  ·have IX:=hid (aaU HL.out (show i<l.length from iE))
   have ST:=hid (ajt (d:=d) (ring:=ring) (l:=l) (i:=i) iE)
   have SI:=hid (aaT (d:=d) (ring:=ring) HL.out (show 0<l.length by rw[HN.out];exact H0.out) i)
   have S64:=aju (d:=d) (ring:=ring) (l:=l) i
   have RG:=hid (show wr.rangeAt g (i*4) (aj (l.getD i [])) from by rw[Nat.mul_comm];exact H4.out.2 i iE)
   have er:=QY d ring (l.getD i [])
   have cr:=QZ d (l.getD i []) 4
   have KS1:=hid (fun W h1 h2=>KS.out W h1 h2 (l.getD i []) IX.out)
   obtain⟨x,hx⟩:∃x,x=l.getD i []:=⟨_,rfl⟩
   rw[<-hx] at IX ST RG er cr KS1
   clear hx
   generalize scC d x 4=C at*
   generalize scE d ring x=E at*
   obtain⟨sa,hsa⟩:∃sa,sa=(boS d ring l i).at_:=⟨_,rfl⟩
   obtain⟨sc,hsc⟩:∃sc,sc=(boS d ring l i).c:=⟨_,rfl⟩
   obtain⟨se,hse⟩:∃se,se=(boS d ring l i).e:=⟨_,rfl⟩
   unfold Eu at S64
   rw[<-hsc,<-hse] at ST S64|-
   rw[<-hsa] at SI HQ
   have KB:=hid (fun W=>YA C E sc se W cr.1 cr.2 ah ah S64.1.1 S64.1.2 S64.2.1 S64.2.2)
   have X4:=hid IX.out.1
   have SL:=hid SI.out.1
   have HSA:=hid hsa
   have HSC:=hid hsc
   have HSE:=hid hse
   have hi4:(Tryz.prog.info? 33).map (·.size)=some (aj x).length:=by rw[aQ,X4.out];exact eY
   have HI4:=hid hi4
   have hL:=(aA wr.heap.size wr).alloc (al0z _) (.cells (agi Z4) 33)
   have XX0:=hid (IB.setRow (IB.new wr 33 Z4) x)
   have Z2:=hid (show IB ((wr.alloc (.cells (agi Z4) 33)).setRow wr.heap.size (agi x)) w.heap.size 33 Z4 from Blk.rowFar (Blk.below' HZ.out hL) (by have:=Blk.lt HZ.out;omega))
   have Q2:=hid (show IB ((wr.alloc (.cells (agi Z4) 33)).setRow wr.heap.size (agi x)) (w.heap.size+1) 33 sa from Blk.rowFar (Blk.below' HQ.out hL) (by have:=Blk.lt HQ.out;omega))
   have R2:=hid (show Rs4 ((wr.alloc (.cells (agi Z4) 33)).setRow wr.heap.size (agi x)) g l from Rs4.rowFar (H4.out.below hL) (by have:=H4.out.1;omega) _)
   have B2:=hid (aS (HB.out.trans (hL.mono HB.out.size)) (g:=wr.heap.size) HB.out.size (agi x))
   have RGA:=hid (show(wr.alloc (.cells (agi Z4) 33)).rangeAt g (i*4) (aj x) from World.rangeAt_alloc RG.out _)
   obtain⟨w1,hw1⟩:∃w1,w1=(wr.alloc (.cells (agi Z4) 33)).setRow wr.heap.size (agi x):=⟨_,rfl⟩
   rw[<-hw1] at XX0 Z2 Q2 R2 B2
   rw[show agi Z4= #[.int .i64 0,.int .i64 0,.int .i64 0,.int .i64 0] from rfl] at hw1
   have HW1:=hid hw1
   have in1:(i:Int)<n:=ah
   have in0:(0:Int)<=i:=ah
   clear hsa hsc hse hi4 hL hw1 er cr S64 HZ HQ H4 HB
   go_wp2_with(first
    |(refine bI rfl 33 (.tmp 23) rfl g (i*4) rfl (aj x) _ RG.out u4 rfl HI4.out ?_)
    |(refine bI rfl 33 (.tmp 23) rfl g (i*4) rfl (aj x) _ RGA.out u4 rfl HI4.out ?_)
    |(refine aP rfl 33 (.tmp 11) (.tmp 24) rfl _ 33 Z4 x 4 rfl rfl (IB.new wr _ Z4) eY rfl X4.out ?_;rw[<-HW1.out])
    |(refine aK rfl 33 (.tmp 11) rfl _ 33 x 4 _ rfl XX0.out Tryz.underlying33 rfl eY X4.out ?_))
   refine(KS1.out w1 ((HD.out.below B2.out).more B2.out.size) ((HR.out.below B2.out).more B2.out.size)).mono ?_
   rintro e w2 ⟨rfl,hB⟩
   have XX:=hid (Blk.below' XX0.out hB)
   have ZX:=hid (Blk.below' Z2.out hB)
   have QX:=hid (Blk.below' Q2.out hB)
   have RX:=hid (R2.out.below hB)
   have BX:=hid (B2.out.trans (hB.mono B2.out.size))
   clear hB KS1 XX0 Z2 Q2 R2 B2 RG RGA HW1
   by_cases hi0:i=0
   ·have NS:=hid (show boS d ring l (i+1)=⟨x,false,C,E⟩ by rw[ST.out,if_pos (.inl hi0)])
    have e0:((i:Int)==0)=true:=aJ
    have e1:(i:Int)=0:=ah
    clear ST KB hi0
    exact l37
   have e0:((i:Int)==0)=false:=aJ
   have e1: ¬(i:Int)=0:=ah
   obtain⟨b,hb⟩:∃b,b=dO C E sc se:=⟨_,rfl⟩
   rw[<-hb] at KB ST
   clear hb
   go_wp2_with fail
   refine(KB.out w2).mono ?_
   rintro e w3 ⟨rfl,hB⟩
   have XX':=hid (Blk.below' XX.out hB)
   have ZX':=hid (Blk.below' ZX.out hB)
   have QX':=hid (Blk.below' QX.out hB)
   have RX':=hid (RX.out.below hB)
   have BX':=hid (BX.out.trans (hB.mono BX.out.size))
   clear hB XX ZX QX RX BX KB
   rename Hid (IB w3 wr.heap.size _ x)=>XX
   rename Hid (IB w3 w.heap.size _ Z4)=>ZX
   rename Hid (IB w3 (w.heap.size+1) _ sa)=>QX
   rename Hid (Rs4 w3 g l)=>RX
   rename Hid (Below w.heap.size w w3)=>BX
   rcases Bool.eq_false_or_eq_true b with rfl|rfl
   rotate_left
   ·have NS:=hid (show boS d ring l (i+1)=boS d ring l i by rw[ST.out,if_neg (by rintro(h1|h1);exact hi0 h1;cases h1)])
    go_wp2
    go_roundw
    case rel=>exact⟨i+1,ah,aO,by rw[NS.out,HSC.out],by rw[NS.out,HSE.out],ZX,by rw[NS.out,<-HSA.out];exact QX,RX,BX⟩
    case measure=>simp[intOf]<;>omega
   have NS:=hid (show boS d ring l (i+1)=⟨x,false,C,E⟩ by rw[ST.out,if_pos (.inr rfl)])
   clear ST hi0
   exact l37
  obtain rfl:i=n:=ah
  have EE:=hid (show boS d ring l i=jk d ring l by
   unfold boS
   rw[if_neg (by have:=H0.out;omega),<-HN.out,List.take_length])
  have XL:=(aaT (d:=d) (ring:=ring) HL.out (show 0<l.length by rw[HN.out];exact H0.out) i).1
  rw[EE.out] at HQ XL
  obtain⟨xs,hxs⟩:∃xs,xs=(jk d ring l).at_:=⟨_,rfl⟩
  rw[<-hxs] at HQ XL
  have HXS:=hid hxs
  clear hxs
  have XL:=hid XL
  have RF:=hid (IB.setRow HZ.out xs)
  have BF:=hid (aS HB.out (al0z _) (agi xs))
  go_wp2_with(first
   |(refine aK rfl 33 (.tmp 7) rfl _ 33 xs 4 _ rfl HQ.out Tryz.underlying33 rfl eY XL.out ?_)
   |(refine aP rfl 33 (.tmp 6) (.tmp 46) rfl _ 33 Z4 xs 4 rfl rfl HZ.out eY rfl XL.out ?_))
  refine bg (v:=_) (hR _ _ _ 33 xs _ 4 rfl RF.out Tryz.underlying33 rfl eY XL.out) rfl ?_
  exact⟨by rw[HXS.out],BF.out⟩
theorem aaV(a b c d:Int):agi [a,b,c,d]= #[.int .i64 a,.int .i64 b,.int .i64 c,.int .i64 d]:=rfl
theorem ajw{a w w':World}{B base:Nat}{A:Option Addr}{c:Nat}{l:List (List Int)}(hB:Below B a w)(hO:Own4 w base A c l)(hG:w.grownBy w' (A.map (·.block)))(hb:B<=w.heap.size)(hbb:B<=base):Below B a w':=
 hB.grown hG hb (fun k hk=>by
  cases A with
  |none=>cases hk
  |some ad=>simp at hk;subst hk;exact gJ hbb (hO.lt ad rfl).1)
theorem ajx(A A2:Option Addr)(c c2 n1 n2:Nat)(d ring:List Int)(w:World)(hd:Rs w w.heap.size A d)(hr:Rs w w.heap.size A2 ring)(l1:d.length=n1)(l2:ring.length=n2)(dw:W64 d)(rw_:W64 ring):
 Calls Tryz.prog 128 #[.slice A n1 c,.slice A2 n2 c2] w (SeAns d ring (eu d ring 8) w):=by
 have hR:=qC (fn:=Tryz.f128) (p:=4) (q:=5) (r:=6) (ty:=33) rfl
 have B0:=hid ((aA w.heap.size w).alloc (al0z _) (.cells (agi Z4) 33))
 have Z0:=hid (IB.new w 33 Z4)
 rw[show agi Z4= #[.int .i64 0,.int .i64 0,.int .i64 0,.int .i64 0] from rfl] at B0 Z0
 obtain⟨V,hV⟩:∃V,V=w.alloc (.cells #[.int .i64 0,.int .i64 0,.int .i64 0,.int .i64 0] 33):=⟨_,rfl⟩
 rw[<-hV] at B0 Z0
 have HV:=hid hV
 have LV:=hid (show w.heap.size+1=V.heap.size by rw[hV];simp)
 have HD:=hid hd
 have HR:=hid hr
 have KW:=hid (ajp A A2 c c2 n1 n2 d ring V ((hd.below B0.out).more B0.out.size) l1 l2)
 clear hV hd hr
 go_enter Tryz.func128,Tryz.ntmps128
 go_wp2_with fail
 rw[<-HV.out]
 refine KW.out.mono ?_
 rintro e w1 ⟨rfl,rfl⟩
 clear KW
 by_cases he:iV d ring=0
 rotate_left
 ·have FB:=hid (fun w' (hB:Below w.heap.size w w')=>SeAns.bad (x:=(eu d ring 8)) (d:=d) (ring:=ring) rfl he hB)
  obtain⟨er,her⟩:∃er,er=iV d ring:=⟨_,rfl⟩
  rw[<-her] at FB he|-
  have hne:(er !=0)=true:=by simpa using he
  clear her
  have RF:=hid (IB.setRow Z0.out Z4)
  have BF:=hid (aS B0.out (g:=w.heap.size) (al0z _) (agi Z4))
  clear he l1 l2 dw rw_
  go_wp2_with(refine aP rfl 33 (.tmp 4) (.tmp 18) rfl _ 33 Z4 Z4 4 rfl rfl Z0.out eY rfl rfl ?_)
  exact ab9
 have h40:n1=40/\n2=40:=by
  refine Classical.byContradiction fun hc=>?_
  rw[Ar ah] at he
  cases he
 obtain⟨rfl,rfl⟩:=h40
 have DL:=hid l1
 have E0:=hid he
 have KBO:=hid (fun(W:World) (hB:Below w.heap.size w W) (c3 g n:Nat) (l:List (List Int)) (hl:∀x∈l,Ix x) (hn:l.length=n) (h0:0<n) (hn2:n<=100000) (h4:Rs4 W g l)=>ajv A A2 c c2 c3 g n d ring l W ((HD.out.below hB).more hB.size) ((HR.out.below hB).more hB.size) l1 l2 dw rw_ hl hn h0 hn2 h4)
 rw[he]
 clear he l1 l2 dw rw_
 go_wp2
 have hL0:=(aA V.heap.size V).alloc (al0z _) (.cells (agi Z4) 33)
 have N1:=hid (show IB (V.alloc (.cells (agi Z4) 33)) (w.heap.size+1) 33 (eu d ring 0) from by rw[LV.out];exact IB.new V _ Z4)
 have Z1:=hid (Blk.below' Z0.out hL0)
 have B1:=hid (B0.out.trans (hL0.mono B0.out.size))
 rw[show agi Z4= #[.int .i64 0,.int .i64 0,.int .i64 0,.int .i64 0] from rfl] at N1 Z1 B1
 generalize V.alloc (.cells #[.int .i64 0,.int .i64 0,.int .i64 0,.int .i64 0] 33)=w2 at N1 Z1 B1|-
 clear hL0 Z0 B0
 first|rw[<-LV.out]|skip
 go_loopw[9] (fun kv wr=> ∃k:Nat,k<=8/\kv=.int .i64 k/\Hid (IB wr w.heap.size 33 Z4)/\Hid (IB wr (w.heap.size+1) 33 (eu d ring k))/\Hid (Below w.heap.size w wr)) (fun kv _=>8-(intOf kv).toNat)
 case atStart=>exact⟨0,ah,rfl,Z1,N1,B1⟩
 case round=>
  clear Z1 N1 B1
  obtain⟨k,hk,rfl,HZ,HN,HB⟩:=hrel
  obtain⟨wo,rfl⟩:∃wo:World,wo=wr:=⟨_,rfl⟩
  by_cases hlt:k<8
  ·have hdec:decide ((k:Int)<8)=true:=aJ
   obtain⟨t,htk⟩:∃t,t=k%4:=⟨_,rfl⟩
   have ht:t<4:=ah
   have hkt:(k:Int)%4=(t:Nat):=ah
   have NK:=hid (show eu d ring (k+1)=(jk d ring (jc (eu d ring k) t 10)).at_ from by rw[eu,htk])
   have IN:=hid (wz d ring k)
   have INN:=hid (wz d ring (k+1))
   obtain⟨nx,hnx⟩:∃nx,nx=eu d ring (k+1):=⟨_,rfl⟩
   rw[<-hnx] at NK INN
   have HNX:=hid hnx
   have HTK:=hid htk
   generalize eu d ring k=now at*
   clear hnx htk
   go_wp2
   go_loopw[10,11] (fun lv pv wr=> ∃(p c3:Nat) (A3:Option Addr),p<=10/\pv=.int .i64 p/\lv=.slice A3 p c3/\Hid (Own4 wr (w.heap.size+2) A3 c3 (jc now t p))/\Hid (IB wr w.heap.size 33 Z4)/\Hid (IB wr (w.heap.size+1) 33 now)/\Hid (Below w.heap.size w wr)) (fun _ pv _=>10-(intOf pv).toNat)
   case atStart=>exact⟨0,0,none,ah,rfl,rfl,hid Own4.nil,HZ,HN,HB⟩
   case round=>
    clear HZ HN HB
    obtain⟨p,c3,A3,hp,rfl,rfl,HO,HZ,HN,HB⟩:=hrel
    by_cases hlp:p<10
    ·have NL:=hid (YV now t p)
     have LL:=hid (show(jc now t p).length=p by simp[jc])
     have hL:=(aA wr.heap.size wr).alloc (al0z _) (.cells (agi Z4) 33)
     have SZ:=hid (Blk.lt HN.out)
     have N1:=hid (show IB ((wr.alloc (.cells (agi Z4) 33)).setRow wr.heap.size (agi now)) (w.heap.size+1) 33 now from Blk.rowFar (Blk.below' HN.out hL) (by have:=SZ.out;omega))
     have Z1:=hid (show IB ((wr.alloc (.cells (agi Z4) 33)).setRow wr.heap.size (agi now)) w.heap.size 33 Z4 from Blk.rowFar (Blk.below' HZ.out hL) (by have:=SZ.out;omega))
     have X1:=hid (IB.setRow (IB.new wr 33 Z4) now)
     have B1:=hid (aS (HB.out.trans (hL.mono HB.out.size)) (g:=wr.heap.size) HB.out.size (agi now))
     have L1:=aS hL (g:=wr.heap.size) (al0z _) (agi now)
     have O1:=hid (HO.out.below L1)
     have S1:=hid L1.size
     obtain⟨w1,hw1⟩:∃w1,w1=(wr.alloc (.cells (agi Z4) 33)).setRow wr.heap.size (agi now):=⟨_,rfl⟩
     have G1:=hid (show w1.heap.size=wr.heap.size+1 by rw[hw1];simp)
     rw[<-hw1] at N1 Z1 X1 B1 O1 S1
     rw[show agi Z4= #[.int .i64 0,.int .i64 0,.int .i64 0,.int .i64 0] from rfl] at hw1
     have HW1:=hid hw1
     have ct:=IB.cell X1.out t (by rw[IN.out.1];exact ht)
     have ft:=Blk.frozen X1.out t
     have t4:(t:Int)<4:=ah
     have t0:(0:Int)<=t:=ah
     have X2:=hid (show IB (w1.setCell ⟨wr.heap.size,t,none⟩ (.int .i64 (p:Nat))) wr.heap.size 33 (jL now t p) from IB.set_ X1.out t p)
     have N2:=hid (Blk.far N1.out (p:=⟨wr.heap.size,t,none⟩) (by show w.heap.size+1≠wr.heap.size;have:=SZ.out;omega) (.int .i64 (p:Nat)))
     have Z2:=hid (Blk.far Z1.out (p:=⟨wr.heap.size,t,none⟩) (by show w.heap.size≠wr.heap.size;have:=SZ.out;omega) (.int .i64 (p:Nat)))
     have B2:=hid (B1.out.setCell (p:=⟨wr.heap.size,t,none⟩) (by show w.heap.size<=wr.heap.size;have:=SZ.out;omega) (.int .i64 (p:Nat)))
     have O2:=hid (show Own4 (w1.setCell ⟨wr.heap.size,t,none⟩ (.int .i64 (p:Nat))) (w.heap.size+2) A3 c3 (jc now t p) from HO.out.below (L1.setCell (p:=⟨wr.heap.size,t,none⟩) (al0z _) (.int .i64 (p:Nat))|>fun h=>by rw[HW1.out];exact h))
     have XL:=hid (JM IN.out.1 t p)
     obtain⟨xx,hxx⟩:∃xx,xx=jL now t p:=⟨_,rfl⟩
     rw[<-hxx] at X2 XL NL
     clear hxx
     obtain⟨y0,y1,y2,y3,rfl⟩:=uV XL.out
     obtain⟨w2,hw2⟩:∃w2,w2=w1.setCell ⟨wr.heap.size,t,none⟩ (.int .i64 (p:Nat)):=⟨_,rfl⟩
     have G2:=hid (show w2.heap.size=wr.heap.size+1 by rw[hw2];simp[World.setCell];exact G1.out)
     rw[<-hw2] at X2 N2 Z2 B2 O2
     have HW2:=hid hw2
     have hL2:=(aA w2.heap.size w2).alloc (al0z _) (.cells (agi [y0,y1,y2,y3]) 33)
     have X3:=hid (IB.new w2 33 [y0,y1,y2,y3])
     have N3:=hid (Blk.below' N2.out hL2)
     have Z3:=hid (Blk.below' Z2.out hL2)
     have B3:=hid (B2.out.trans (hL2.mono B2.out.size))
     have O3:=hid (O2.out.below hL2)
     have SB:=hid (show w.heap.size+2<=(w2.alloc (.cells (agi [y0,y1,y2,y3]) 33)).heap.size by simp;have:=SZ.out;have:=G2.out;omega)
     rw[aaV] at X3 N3 Z3 B3 O3 SB
     generalize jc now t p=lp at*
     clear hL hL2 L1 hw1 hw2 N1 Z1 B1 O1 N2 Z2 B2 O2 HO HZ HB
     go_wp2_with(first
      |(refine aK rfl 33 (.tmp 8) rfl _ 33 now 4 _ rfl HN.out Tryz.underlying33 rfl eY IN.out.1 ?_)
      |(refine aP rfl 33 (.tmp 12) (.tmp 28) rfl _ 33 Z4 now 4 rfl rfl (IB.new wr _ Z4) eY rfl IN.out.1 ?_;rw[<-HW1.out])
      |(refine aK rfl 33 (.tmp 12) rfl _ 33 [y0,y1,y2,y3] 4 _ rfl X2.out Tryz.underlying33 rfl eY rfl ?_;rw[aaV])
      |rw[<-HW2.out]
      |(at_builtin;refine af1 rfl (.tmp 33) (.tmp 35) rfl (w.heap.size+2) A3 c3 p lp rfl LL.out O3.out w2.heap.size [y0,y1,y2,y3] rfl X3.out rfl ah SB.out ?_;intro A4 c4 w4 hO hG;have O4:=hid hO;have N4:=hid (show IB w4 (w.heap.size+1) 33 now from Blk.grownA N3.out hG (O3.out.ne_ ah));have Z4':=hid (show IB w4 w.heap.size 33 Z4 from Blk.grownA Z3.out hG (O3.out.ne_ ah));have B4:=hid (show Below w.heap.size w w4 from ajw B3.out O3.out hG (by have:=SB.out;omega) ah);clear hO hG))
     go_roundw
     case rel=>exact⟨p+1,c4,A4,ah,aO,rfl,by rw[NL.out];exact O4,Z4',N4,B4⟩
     case measure=>simp[intOf]<;>omega
    obtain rfl:p=10:=ah
    have LL:=hid (show(jc now t 10).length=10 by simp[jc])
    obtain⟨g,rfl,hR4⟩:=HO.out.reads (by rw[LL.out];omega)
    have K1:=hid (KBO.out wr HB.out c3 g 10 (jc now t 10) (Jc IN.out t (al0z _)) LL.out ah ah hR4)
    rw[<-NK.out] at K1
    clear hR4 HO hlp hp
    go_wp2_with fail
    refine K1.out.mono ?_
    rintro e w2 ⟨rfl,hB⟩
    have N2:=hid (Blk.below' HN.out hB)
    have Z2:=hid (show IB (w2.setRow (w.heap.size+1) (agi nx)) w.heap.size 33 Z4 from Blk.rowFar (Blk.below' HZ.out hB) ah)
    have N3:=hid (show IB (w2.setRow (w.heap.size+1) (agi nx)) (w.heap.size+1) 33 (eu d ring (k+1)) from by rw[<-HNX.out];exact IB.setRow N2.out nx)
    have B3:=hid (aS (HB.out.trans (hB.mono HB.out.size)) (g:=w.heap.size+1) ah (agi nx))
    clear hB K1 HB HZ HN
    go_wp2_with(refine aP rfl 33 (.tmp 8) (.tmp 40) rfl _ 33 now nx 4 rfl rfl N2.out eY IN.out.1 INN.out.1 ?_)
    go_roundw
    case rel=>exact⟨k+1,ah,aO,Z2,N3,B3⟩
    case measure=>simp[intOf]<;>omega
  obtain rfl:k=8:=ah
  have IXX:=hid (wz d ring 8)
  obtain⟨WX,rfl⟩:∃WX:World,WX=wo:=⟨_,rfl⟩
  obtain⟨gx,hgx⟩:∃gx,gx=w.heap.size+1:=⟨_,rfl⟩
  have JX:=HN
  rw[<-hgx] at JX|-
  have ZX:=HZ
  have BX:=HB
  have LGX:=hid (show w.heap.size<gx from ah)
  clear HN HZ HB hgx KBO hlt hk
  obtain⟨P,hP⟩:∃P,P=SeAns d ring (eu d ring 8) w:=⟨_,rfl⟩
  have FG:=fun w' (hB:Below w.heap.size w w')=>show P (.returned (.tuple #[.agg (agi (eu d ring 8)),.int .i64 (mg d (eu d ring 8) 4),.int .i64 0])) w' from by rw[hP];exact SeAns.good (x:=(eu d ring 8)) E0.out hB
  have HP:=hid hP
  have KSG1:=ajr A c d (eu d ring 8) WX.drew (show Rs WX.drew WX.drew.heap.size A d from(HD.out.below BX.out).more BX.out.size) DL.out IXX.out
  have J3':=JX.out
  have IXN:=IXX.out
  clear hP
  obtain⟨xs,hxs⟩:∃xs,xs=(eu d ring 8):=⟨_,rfl⟩
  have HXS:=hid hxs
  rw[<-hxs] at J3' IXN KSG1 FG
  clear hxs JX IXX
  obtain⟨x0,x1,x2,x3,rfl⟩:=uV IXN.1
  have FG:=hid FG
  have J3:=hid J3'
  generalize mg d [x0,x1,x2,x3] 4=sv at*
  have KS1:=hid (show Calls Tryz.prog 182 #[.slice A 40 c,.agg #[.int .i64 x0,.int .i64 x1,.int .i64 x2,.int .i64 x3]] WX.drew (fun e w'=>e=.returned (.int .i64 sv)/\Below WX.drew.heap.size WX.drew w') from KSG1)
  rename_i FGr
  clear FGr KSG1 IXN
  have LG1:=LGX.out
  have LG2: ¬w.heap.size=gx:=ah
  have LG3: ¬gx=w.heap.size:=ah
  have k0:World.cell? WX ⟨gx,0,none⟩=some (.int .i64 x0):=IB.cell J3' 0 fO;have k1:World.cell? WX ⟨gx,1,none⟩=some (.int .i64 x1):=IB.cell J3' 1 fO;have k2:World.cell? WX ⟨gx,2,none⟩=some (.int .i64 x2):=IB.cell J3' 2 fO;have k3:World.cell? WX ⟨gx,3,none⟩=some (.int .i64 x3):=IB.cell J3' 3 fO
  clear J3'
  go_wp2
  go_region_held3 (fun w'=>w'.cell? ⟨gx,0,none⟩=some (.int .i64 x0)/\w'.cell? ⟨gx,1,none⟩=some (.int .i64 x1)/\w'.cell? ⟨gx,2,none⟩=some (.int .i64 x2)/\w'.cell? ⟨gx,3,none⟩=some (.int .i64 x3)) (go_keep) (first
   |(go_at_call 182;(with_reducible refine KS1.out.mono ?_);rintro e w3 ⟨rfl,hB⟩;have J4:IB w3 gx 33 [x0,x1,x2,x3]:=Blk.below' (Blk.drew J3.out) hB;have Z4':IB w3 w.heap.size 33 Z4:=Blk.below' (Blk.drew ZX.out) hB;have B4:=hid (show Below w.heap.size w w3 from BX.out.drew.trans (hB.mono BX.out.size));have l0:World.cell? w3 ⟨gx,0,none⟩=some (.int .i64 x0):=IB.cell J4 0 fO;have l1:World.cell? w3 ⟨gx,1,none⟩=some (.int .i64 x1):=IB.cell J4 1 fO;have l2:World.cell? w3 ⟨gx,2,none⟩=some (.int .i64 x2):=IB.cell J4 2 fO;have l3:World.cell? w3 ⟨gx,3,none⟩=some (.int .i64 x3):=IB.cell J4 3 fO;have z0:World.cell? w3 ⟨w.heap.size,0,none⟩=some (.int .i64 0):=IB.cell Z4' 0 fO;have z1:World.cell? w3 ⟨w.heap.size,1,none⟩=some (.int .i64 0):=IB.cell Z4' 1 fO;have z2:World.cell? w3 ⟨w.heap.size,2,none⟩=some (.int .i64 0):=IB.cell Z4' 2 fO;have z3:World.cell? w3 ⟨w.heap.size,3,none⟩=some (.int .i64 0):=IB.cell Z4' 3 fO;have y0:World.frozen? w3 ⟨w.heap.size,0,none⟩=false:=Blk.frozen Z4' 0;have y1:World.frozen? w3 ⟨w.heap.size,1,none⟩=false:=Blk.frozen Z4' 1;have y2:World.frozen? w3 ⟨w.heap.size,2,none⟩=false:=Blk.frozen Z4' 2;have y3:World.frozen? w3 ⟨w.heap.size,3,none⟩=false:=Blk.frozen Z4' 3;have J4:=hid J4;have Z5:=hid Z4';clear hB Z4'))
  exact l20
theorem ajy(A:Option Addr)(c n g:Nat)(ring:List Int)(w:World)(hb:Blk w g 27 #[.slice A n c])(hr:Rs w w.heap.size A ring)(hn:ring.length=n)(hl:n<=1000):
 FoldFn 122 (.pointer (some ⟨g,0,none⟩)) w ring:=by
 intro W hB A' c' v hv h40 h64
 have cb:W.cell? ⟨g,0,none⟩=some (.slice A n c):=Blk.cell (Blk.below' hb hB) 0
 have KF:=hid (ag6 A A' c c' n 40 ring v W ((hr.below hB).more hB.size) hv hn h40 ah ah)
 clear hb hr hv hB
 go_enter Tryz.func122,Tryz.ntmps122
 go_wp2_with fail
 refine KF.out.mono ?_
 rintro e w1 ⟨A2,c2,rfl,hO,hB⟩
 have O1:=hid hO
 have B1:=hid hB
 clear hO hB
 go_wp2
 go_ret
 exact⟨A2,c2,rfl,O1.out,B1.out⟩
structure Fil(f:Nat->Int)(z ys:List Int)(k:Nat):Prop where
 l:ys.length=40
 a:∀j,ys.getD j 0=if j<k then f j else z.getD j 0
theorem Fil.start(f:Nat->Int){z:List Int}(h:z.length=40):Fil f z z 0:=⟨h,fun j=>by rw[if_neg ah]⟩
theorem Fil.next{f:Nat->Int}{z ys:List Int}{k:Nat}(h:Fil f z ys k)(hk:k<40):Fil f z (ys.set k (f k)) (k+1):=⟨by simpa using h.l,fun j=>by
 by_cases e:k=j
 ·subst e
  rw[gQ _ _ _ (by rw[h.l];omega),if_pos ah]
 ·rw[iw _ _ e,h.a j]
  by_cases h1:j<k
  ·rw[if_pos h1,if_pos ah]
  ·rw[if_neg h1,if_neg ah]⟩
theorem Fil.done{f:Nat->Int}{z ys:List Int}(h:Fil f z ys 40):ys=(List.range 40).map f:=TC h.l fun j hj=>by rw[h.a j,if_pos hj]
theorem Fil.at_{f:Nat->Int}{z ys:List Int}{k:Nat}(h:Fil f z ys k):ys.getD k 0=z.getD k 0:=by rw[h.a k,if_neg ah]
theorem TU(b:Nat):∀(vs:List Value) (o:Nat) (W:World),W.grownBy (W.setCells b o vs) (some b)
 |[],_,_=>⟨rfl,rfl,rfl,al0z _,fun _ _ _=>rfl⟩
 |v::vs,o,W=>by
  have h:=TU b vs (o+1) (W.setCell ⟨b,o,none⟩ v)
  exact⟨h.os,h.tape,h.output,gJ zi h.size,fun i hi hn=>(h.block i (by simpa[World.setCell] using hi) hn).trans (Below.heap_setCell _ _ _ i (by intro e;exact hn (by rw[e])))⟩
theorem ajz{w:World}{base c b:Nat}{A:Option Addr}{xs:List Int}(h:Own w base A c xs)(hne:∀a,A=some a->a.block≠b)(vs:List Value)(o:Nat):Own (w.setCells b o vs) base A c xs:=
 h.kept (TU b vs o w) (fun a ha x=>hne a ha (nP x))
structure Ro(w W:World)(m:Mm)(a:List Int)(A:Option Addr)(l:List Int):Prop where
 J:MB W w.heap.size m
 F:IB W (w.heap.size+1) 90 a
 U:IB W (w.heap.size+2) 35 Zs8
 L:Rs W w.heap.size A l
 B:Below w.heap.size w W
theorem Ro.below{w W W':World}{m:Mm}{a l:List Int}{A:Option Addr}(s:Ro w W m a A l)(hb:Below W.heap.size W W'):Ro w W' m a A l:=
 ⟨Blk.below' s.J hb,Blk.below' s.F hb,Blk.below' s.U hb,s.L.below (hb.mono s.B.size),s.B.trans (hb.mono s.B.size)⟩
theorem Ro.setC{w W:World}{m:Mm}{a l:List Int}{A:Option Addr}(s:Ro w W m a A l){g:Nat}(hg:w.heap.size+3<=g)(vs:List Value)(o:Nat):Ro w (W.setCells g o vs) m a A l:=by
 have hb:Below (w.heap.size+3) W (W.setCells g o vs):=iM hg _ _ _ (aA _ _)
 exact⟨dh ah _ _ _ s.J,dh ah _ _ _ s.F,dh ah _ _ _ s.U,s.L.below (hb.mono ah),iM ah _ _ _ s.B⟩
theorem Ro.start(w:World)(m:Mm)(a l:List Int)(A:Option Addr)(hr:Rs w w.heap.size A l):
 Ro w (((w.alloc (.cells m.ag 25)).alloc (.cells (agi a) 90)).alloc (.cells (agi Zs8) 35)) m a A l:=by
 have h1:=MB.new w m
 have h2:=IB.new (w.alloc (.cells m.ag 25)) 90 a
 have h3:=IB.new ((w.alloc (.cells m.ag 25)).alloc (.cells (agi a) 90)) 35 Zs8
 simp only[bU] at h2 h3
 have B0:=(((aA _ _).alloc (al0z w.heap.size) (.cells m.ag 25)).alloc az (.cells (agi a) 90)).alloc aJ (.cells (agi Zs8) 35)
 exact⟨Blk.alloc (Blk.alloc h1 _) _,Blk.alloc h2 _,h3,hr.below B0,B0⟩
structure Rp(w W:World)(m:Mm)(a:List Int)(A:Option Addr)(l:List Int)(gR:Nat)(A3:Option Addr)(c3:Nat)(G:List Int)(A1:Option Addr)(Y:List Int)(gB:Nat)(ys:List Int):Prop where
 L:Ro w W m a A l
 C:Blk W gR 27 #[.slice A3 40 c3]
 G:Rs W gB A3 G
 Y:Rs W gB A1 Y
 T:Own W gB (some ⟨gB,0,none⟩) 40 ys
 l1:w.heap.size+3<=gB
 l2:gR<gB
section
variable {w W W':World} {m:Mm} {a l G Y ys us:List Int} {A A1 A3:Option Addr} {gR c3 gB gS k:Nat}
theorem Rp.lt(s:Rp w W m a A l gR A3 c3 G A1 Y gB ys):gB<W.heap.size:=(s.T.lt _ rfl).2
theorem Rp.below(s:Rp w W m a A l gR A3 c3 G A1 Y gB ys)(hb:Below W.heap.size W W'):Rp w W' m a A l gR A3 c3 G A1 Y gB ys:=
 ⟨s.L.below hb,Blk.below' s.C hb,s.G.below (hb.mono (jy s.lt)),s.Y.below (hb.mono (jy s.lt)),s.T.below hb,s.l1,s.l2⟩
theorem Rp.set(s:Rp w W m a A l gR A3 c3 G A1 Y gB ys)(hk:k<ys.length)(z:Int):Rp w (W.setCell ⟨gB,k,none⟩ (.int .i64 z)) m a A l gR A3 c3 G A1 Y gB (ys.set k z):=by
 have hb:Below gB W (W.setCell ⟨gB,k,none⟩ (.int .i64 z)):=(aA gB W).setCell (al0z _) _
 have h2:=s.l2
 exact⟨s.L.setC s.l1 [.int .i64 z] k,Blk.far s.C (by show gR≠gB;omega) _,s.G.below hb,s.Y.below hb,s.T.set_ k hk z,s.l1,s.l2⟩
theorem Rp.g(s:Rp w W m a A l gR A3 c3 G A1 Y gB ys):Rs W W.heap.size A3 G:=s.G.more (jy s.lt)
theorem Rp.t(s:Rp w W m a A l gR A3 c3 G A1 Y gB ys):Rs W W.heap.size (some ⟨gB,0,none⟩) ys:=s.T.reads
end
structure Rq(w W:World)(m:Mm)(a:List Int)(A:Option Addr)(l:List Int)(gR:Nat)(A3:Option Addr)(c3:Nat)(G:List Int)(A1:Option Addr)(Y:List Int)(gB:Nat)(ys:List Int)(gS:Nat)(us:List Int):Prop where
 P:Rp w W m a A l gR A3 c3 G A1 Y gB ys
 S:IB W gS 35 us
 l3:gB<gS
section
variable {w W W':World} {m:Mm} {a l G Y ys us us':List Int} {A A1 A3:Option Addr} {gR c3 gB gS k:Nat}
theorem Rq.lt(s:Rq w W m a A l gR A3 c3 G A1 Y gB ys gS us):gS<W.heap.size:=Blk.lt s.S
theorem Rq.below(s:Rq w W m a A l gR A3 c3 G A1 Y gB ys gS us)(hb:Below W.heap.size W W'):Rq w W' m a A l gR A3 c3 G A1 Y gB ys gS us:=⟨s.P.below hb,Blk.below' s.S hb,s.l3⟩
theorem Rq.set(s:Rq w W m a A l gR A3 c3 G A1 Y gB ys gS us)(hk:k<ys.length)(z:Int):Rq w (W.setCell ⟨gB,k,none⟩ (.int .i64 z)) m a A l gR A3 c3 G A1 Y gB (ys.set k z) gS us:=
 ⟨s.P.set hk z,Blk.far s.S (by have:=s.l3;show gS≠gB;omega) _,s.l3⟩
theorem Rq.sets(s:Rq w W m a A l gR A3 c3 G A1 Y gB ys gS us)(vs:List Value)(o:Nat)(h:IB (W.setCells gS o vs) gS 35 us'):Rq w (W.setCells gS o vs) m a A l gR A3 c3 G A1 Y gB ys gS us':=by
 have hb:Below gS W (W.setCells gS o vs):=iM (al0z _) _ _ _ (aA _ _)
 have h2:=s.P.l2
 have h3:=s.l3
 have h4:=s.P.l1
 exact⟨⟨s.P.L.setC ah vs o,dh ah _ _ _ s.P.C,s.P.G.below (hb.mono ah),s.P.Y.below (hb.mono ah),ajz s.P.T (fun a ha=>by injection ha with ha;subst ha;show gB≠gS;omega) vs o,s.P.l1,s.P.l2⟩,h,s.l3⟩
theorem Rq.start(s:Rp w W m a A l gR A3 c3 G A1 Y gB ys)(us:List Int):Rq w (W.alloc (.cells (agi us) 35)) m a A l gR A3 c3 G A1 Y gB ys W.heap.size us:=
 ⟨s.below ((aA _ _).alloc (al0z _) _),IB.new _ _ _,s.lt⟩
end
structure Rv(w W:World)(m:Mm)(a:List Int)(A:Option Addr)(l:List Int)(gR:Nat)(A3:Option Addr)(c3:Nat)(G:List Int)(A1:Option Addr)(Y:List Int)(gB:Nat)(ys:List Int)(gS:Nat)(us:List Int)(A6:Option Addr)(c6:Nat)(Vv:List Int):Prop where
 Q:Rq w W m a A l gR A3 c3 G A1 Y gB ys gS us
 V:Own W (gS+1) A6 c6 Vv
section
variable {w W W':World} {m:Mm} {a l G Y ys us Vv:List Int} {A A1 A3 A6:Option Addr} {gR c3 gB gS c6 k:Nat}
theorem Rv.below(s:Rv w W m a A l gR A3 c3 G A1 Y gB ys gS us A6 c6 Vv)(hb:Below W.heap.size W W'):Rv w W' m a A l gR A3 c3 G A1 Y gB ys gS us A6 c6 Vv:=⟨s.Q.below hb,s.V.below hb⟩
theorem Rv.set(s:Rv w W m a A l gR A3 c3 G A1 Y gB ys gS us A6 c6 Vv)(hk:k<ys.length)(z:Int):Rv w (W.setCell ⟨gB,k,none⟩ (.int .i64 z)) m a A l gR A3 c3 G A1 Y gB (ys.set k z) gS us A6 c6 Vv:=
 ⟨s.Q.set hk z,Own.setC s.V (by have:=s.Q.l3;omega) k _⟩
end
theorem aaW(m:Mm)(k:m.ok)(g:aU m=true)(a l:List Int)(ha:jH a)(hal:a.length=9)(A:Option Addr)(c:Nat)(w:World)(hr:Rs w w.heap.size A l)(hl:l.length=40)(h16:eG l)(T1:TabS w 5 iy)(T2:TabS w 1 aY):
 Calls Tryz.prog 55 #[.agg m.ag,.agg (agi a),.slice A 40 c] w (fun e w'=>e=.returned (.agg (agi (chU m a l)))/\Below w.heap.size w w'):=by
 have hR:=x8 (fn:=Tryz.f55) (p:=6) (ty:=35) rfl
 have S0:=Ro.start w m a l A hr
 obtain⟨V0,hV⟩:∃V0,V0=(((w.alloc (.cells m.ag 25)).alloc (.cells (agi a) 90)).alloc (.cells (agi Zs8) 35)):=⟨_,rfl⟩
 rw[<-hV] at S0
 rw[TM] at hV
 have S0:=hid S0
 have HV:=hid hV.symm
 have K0:=hid k
 have AL:=hid hal
 have LL:=hid hl
 have L16:=hid h16
 have GF:=zN (x:=List.replicate 40 0) ha (kM g).2.1 (Rn 40)
 have YL:=hid (Zc (m:=m) (a:=a))
 have Y16:=hid (fQ (show aG (jI m a)=true from yw _ _ _ _))
 have QL:=hid (qK (jI m a) m.p k.p)
 have KM:=hid (fun W A1 (_:Nat) (h:Rs W W.heap.size A1 (List.replicate 40 0))=>show Calls Tryz.prog 57 #[.agg (aj a).toArray,.agg (aj m.p).toArray,.slice A1 40 40] W (qW W (jI m a) (dY m.p (jI m a)) 0) from by
  have h1:=zV a m.p (List.replicate 40 0) A1 40 40 W hal k.p h nM ah ah
  rw[GF,if_pos rfl,if_pos rfl,show aZ true=0 from rfl,show dF a m.p (List.replicate 40 0) 40=jI m a from rfl] at h1
  exact h1)
 unfold qW at KM
 have GL:=hid (D8 ha)
 have GI:=hid (zW ha)
 have GW:=hid (show W64 (chR a) from mZ (zW ha))
 have KRg:=hid (fun W=>show Calls Tryz.prog 121 #[.agg (agi a),.int .i64 40] W (fun e w'=> ∃A c,e=.returned (.tuple #[.slice A 40 c,.int .i64 0])/\Own w' W.heap.size A c (chR a)/\Below W.heap.size W w') from
  (ahz a 40 W hal).mono fun e w' ⟨A,c,h1,h2,h3⟩=>⟨A,c,abj,h2,h3⟩)
 have PE:=hid (show iP (chR a) m.e (chT m a l)=0 by
  unfold iP
  rw[if_pos yK,yM,(kM g).2.2.1,Jg ha];rfl)
 have KPk:=hid (fun W gR A2 c2 (hf:FoldFn 122 (.pointer (some ⟨gR,0,none⟩)) W (chR a)) (hr:Rs W W.heap.size A2 (chT m a l))=>show Calls Tryz.prog 124 #[.agg (aj m.e).toArray,.func (.func 122) #[] #[.pointer (some ⟨gR,0,none⟩)],.slice A2 40 c2] W (fun e w'=>e=.returned (.tuple #[.int .i64 (chK m a l).1,.int .i64 (chK m a l).2.1,.int .i64 (chK m a l).2.2,.int .i64 0])/\Below W.heap.size W w') from
  (ajo m.e (chR a) (chT m a l) _ A2 c2 40 W k.e hr yK ah hf).mono fun e w' ⟨h1,h2⟩=>⟨by
    unfold piA piB pkD at h1
    rw[PE.out,if_pos rfl,if_pos rfl,if_pos rfl] at h1
    exact h1,h2⟩)
 have HI80:=hid (show(Tryz.prog.info? 23).map (·.size)=some (aj m.e).length from Be)
 have KFd:=hid (fun W gR A3 c3 (h1:Blk W gR 27 #[.slice A3 40 c3]) (h2:Rs W W.heap.size A3 (chR a))=>ajy A3 c3 40 gR (chR a) W h1 h2 GL.out ah)
 have KNr:=hid (fun W (h:Below w.heap.size w W)=>show Calls Tryz.prog 125 #[.int .i64 (chK m a l).2.1,.int .i64 (chK m a l).2.2] W (fun e w'=>e=.returned (.int .i64 (chP m a l))/\Below W.heap.size W w') from by
  have r:=IU (chR a) m.e (fQ (yM (m:=m) (a:=a) (l:=l))) 60
  have r2:chK m a l=pkS (chR a) m.e (chT m a l) 60:=rfl
  rw[<-r2] at r
  exact aho _ _ W (T2.below' h (al0z _)) ah ah ah ah)
 have KPs:=hid (fun W=>show Calls Tryz.prog 126 #[.agg (aj m.e).toArray,.int .i64 (chK m a l).1] W (fun e w'=> ∃A c,e=.returned (.tuple #[.slice A 40 c,.int .i64 0])/\Own w' W.heap.size A c (cO m.e (chK m a l).1)/\Below W.heap.size W w') from
  (PR m.e (chK m a l).1 W k.e).mono fun e w' ⟨A,c,h1,h2,h3⟩=>⟨A,c,abA,h2,h3⟩)
 have KF1:=hid (fun W gR A3 c3 A5 c5 (h1:Blk W gR 27 #[.slice A3 40 c3]) (h2:Rs W W.heap.size A3 (chR a)) (h3:Rs W W.heap.size A5 (cO m.e (chK m a l).1))=>show Calls Tryz.prog 122 #[.slice A5 40 c5,.pointer (some ⟨gR,0,none⟩)] W (fun e w'=> ∃A c,e=.returned (.slice A 40 c)/\Own w' W.heap.size A c (chV m a l)/\Below W.heap.size W w') from
  (KFd.out W gR A3 c3 h1 h2 W (aA _ _) A5 c5 _ h3 Jh (mZ (Ru g))).mono fun e w' ⟨A,c,h1,h2,h3⟩=>⟨A,c,aa8,h2,h3⟩)
 have KTg:=hid (fun W A8 c8 A3 c3 (h1:Rs W W.heap.size A8 (iQ m a l)) (h2:Rs W W.heap.size A3 (chR a))=>show Calls Tryz.prog 127 #[.slice A8 40 c8,.slice A3 40 c3] W (fun e w'=> ∃A c,e=.returned (.tuple #[.slice A 40 c,.int .i64 0])/\Own w' W.heap.size A c (chD m a l)/\Below W.heap.size W w') from
  (afj A8 A3 c8 c3 40 40 (iQ m a l) (chR a) W h1 h2 Ea GL.out ah ah GW.out).mono fun e w' ⟨A,c,h1,h2,h3⟩=>⟨A,c,abb,h2,h3⟩)
 have KFw:=hid (fun W A9 c9 A3 c3 (h1:Rs W W.heap.size A9 (chD m a l)) (h2:Rs W W.heap.size A3 (chR a))=>show Calls Tryz.prog 128 #[.slice A9 40 c9,.slice A3 40 c3] W (fun e w'=>e=.returned (.tuple #[.agg (agi (chI m a l)),.int .i64 (chS m a l),.int .i64 0])/\Below W.heap.size W w') from
  (ajx A9 A3 c9 c3 40 40 (chD m a l) (chR a) W h1 h2 (Ji ha) GL.out (Zg ha) GW.out).mono fun e w' ⟨h1,h2⟩=>⟨by
    unfold seX seS at h1
    rw[Zh ha,if_pos rfl,if_pos rfl] at h1
    exact h1,h2⟩)
 have KBd:=hid (fun W=>show Calls Tryz.prog 129 #[.agg (agi (chI m a l)),.int .i64 (chS m a l),.int .i64 4096] W (fun e w'=> ∃A c,e=.returned (.tuple #[.slice A 40 c,.int .i64 0])/\Own w' W.heap.size A c (blL (chI m a l) (chS m a l) 4096)/\Below W.heap.size W w') from
  (Xu (chI m a l) (chS m a l) 4096 W yP).mono fun e w' ⟨A,c,h1,h2,h3⟩=>⟨A,c,by rw[h1,Jj,Eb];rfl,h2,h3⟩)
 have KF2:=hid (fun W gR A3 c3 A5 c5 (h1:Blk W gR 27 #[.slice A3 40 c3]) (h2:Rs W W.heap.size A3 (chR a)) (h3:Rs W W.heap.size A5 (blL (chI m a l) (chS m a l) 4096))=>show Calls Tryz.prog 122 #[.slice A5 40 c5,.pointer (some ⟨gR,0,none⟩)] W (fun e w'=> ∃A c,e=.returned (.slice A 40 c)/\Own w' W.heap.size A c (chF m a l)/\Below W.heap.size W w') from
  (KFd.out W gR A3 c3 h1 h2 W (aA _ _) A5 c5 _ h3 Eb (mZ Ry)).mono fun e w' ⟨A,c,h1,h2,h3⟩=>⟨A,c,aa6,h2,h3⟩)
 have KD1:=hid (fun W A8 c8 A9 c9 (h1:Rs W W.heap.size A8 (iQ m a l)) (h2:Rs W W.heap.size A9 (chF m a l))=>show Calls Tryz.prog 53 #[.slice A8 40 c8,.slice A9 40 c9] W (qG W (bz (iQ m a l) (chF m a l) 40)) from
  zH A8 A9 c8 c9 40 40 _ _ W h1 h2 Ea (yR ha) (al0z _) ah (fQ yO) (fQ pF))
 have KD2:=hid (fun W A9 c9 (h2:Rs W W.heap.size A9 (chF m a l))=>show Calls Tryz.prog 53 #[.slice A9 40 c9,.slice A9 40 c9] W (qG W (bz (chF m a l) (chF m a l) 40)) from
  zH A9 A9 c9 c9 40 40 _ _ W h2 h2 (yR ha) (yR ha) (al0z _) ah (fQ pF) (fQ pF))
 have dr1:=oq (fQ (yO (m:=m) (a:=a) (l:=l))) (fQ (pF (m:=m) (a:=a) (l:=l))) 40
 have dr2:=oq (fQ (pF (m:=m) (a:=a) (l:=l))) (fQ (pF (m:=m) (a:=a) (l:=l))) 40
 have dw:IntKind.i64.wrap (4096*bz (iQ m a l) (chF m a l) 40)=4096*bz (iQ m a l) (chF m a l) 40:=aN
 have KO:=hid (fun W (h:Below w.heap.size w W)=>show Calls Tryz.prog 130 #[.int .i64 (4096*bz (iQ m a l) (chF m a l) 40),.int .i64 (bz (chF m a l) (chF m a l) 40)] W (fun e w'=>e=.returned (.int .i64 (chL m a l))/\Below W.heap.size W w') from by
  have h1:=ahq (4096*bz (iQ m a l) (chF m a l) 40) (bz (chF m a l) (chF m a l) 40) W (T1.below' h (al0z _)) ah ah ah ah
  have e:jl (4096*bz (iQ m a l) (chF m a l) 40) (bz (chF m a l) (chF m a l) 40)=chL m a l:=by
   unfold chL
   rw[Int.mul_comm]
  rw[e] at h1
  exact h1)
 have KS1:=hid (fun W (i:Nat)=>show Calls Tryz.prog 109 #[.int .i64 (l.getD i 0-(jI m a).getD i 0)] W (fun e w'=>e=.returned (.int .i64 (qX l (jI m a) i))/\Below W.heap.size W w') from qH _ W (by have:=h16 i;have:=Y16.out i;omega) (by have:=h16 i;have:=Y16.out i;omega))
 obtain⟨pn,hpn,hp7⟩:∃n:Nat,chP m a l=n/\n<=7:=⟨(chP m a l).toNat,by have:=D9 (m:=m) (a:=a) (l:=l);omega,by have:=D9 (m:=m) (a:=a) (l:=l);omega⟩
 have GVp:bP (chP m a l)=aY.getD pn 0:=by rw[hpn];unfold bP;rw[zF ah ah];rfl
 obtain⟨Ap,cp,hg0,hcp,hel⟩:=T2.form
 obtain⟨ap,rfl,hgp⟩:=hel pn (by show pn<8;omega)
 have hb0:=World.block_lt_of_cell? w _ hg0
 have hb1:=World.block_lt_of_cell? w _ hgp
 have PG:=hid (fun W (h:Below w.heap.size w W)=>show W.cell? ⟨1,0,none⟩=some (.slice (some ap) 8 cp)/\W.cell? (ap.add pn)=some (.int .i64 (bP (chP m a l))) from⟨(h.cell hb0).trans hg0,by rw[GVp];exact(h.cell hb1).trans hgp⟩)
 have gvr:=Io (chP m a l)
 have vin:=fQ (Ze (m:=m) (a:=a) (l:=l))
 have tin:=fQ (yM (m:=m) (a:=a) (l:=l))
 have KDn:=hid (fun W (i:Nat)=>show Calls Tryz.prog 110 #[.int .i64 ((chV m a l).getD i 0*bP (chP m a l)+8192),.int .u64 14] W (fun e w'=>e=.returned (.int .i64 (((chV m a l).getD i 0*bP (chP m a l)+8192)/16384))/\Below W.heap.size W w') from by
  obtain⟨p1,p2⟩:=kU (vin i).1 (vin i).2 (show-32768<=bP (chP m a l) from ah) (show bP (chP m a l)<=32767 from ah)
  exact VK _ 14 W ah ah ah)
 have KS2:=hid (fun W (i:Nat)=>show Calls Tryz.prog 109 #[.int .i64 (((chV m a l).getD i 0*bP (chP m a l)+8192)/16384)] W (fun e w'=>e=.returned (.int .i64 (nH (chV m a l) (bP (chP m a l)) i))/\Below W.heap.size W w') from by
  obtain⟨p1,p2⟩:=kU (vin i).1 (vin i).2 (show-32768<=bP (chP m a l) from ah) (show bP (chP m a l)<=32767 from ah)
  exact qH _ W ah ah)
 have sin:∀i,-32768<=nH (chV m a l) (bP (chP m a l)) i/\nH (chV m a l) (bP (chP m a l)) i<=32767:=fun i=>by have:=lJ (((chV m a l).getD i 0*bP (chP m a l)+8192)/16384);exact this
 have KS3:=hid (fun W (i:Nat)=>show Calls Tryz.prog 109 #[.int .i64 ((chT m a l).getD i 0-nH (chV m a l) (bP (chP m a l)) i)] W (fun e w'=>e=.returned (.int .i64 (s16 ((chT m a l).getD i 0-nH (chV m a l) (bP (chP m a l)) i)))/\Below W.heap.size W w') from qH _ W (by have:=tin i;have:=sin i;omega) (by have:=tin i;have:=sin i;omega))
 have HT1:=hid (show chT m a l=(List.range 40).map (qX l (jI m a)) from rfl)
 have HT2:=hid (show iQ m a l=(List.range 40).map (fun i=>s16 ((chT m a l).getD i 0-nH (chV m a l) (bP (chP m a l)) i)) from by
  unfold iQ wE
  refine List.map_congr_left fun i hi=>?_
  unfold qX sH
  rw[Ib _ (List.mem_range.1 hi)])
 have TIN:=hid tin
 have VIN:=hid vin
 have SIN:=hid sin
 have TL:=hid (yK (m:=m) (a:=a) (l:=l))
 have VL:=hid (Rw (l:=l) g ha)
 have IL:=yP (m:=m) (a:=a) (l:=l)
 have klr:=yN (m:=m) (a:=a) (l:=l)
 have HU:=hid (show chU m a l=((chK m a l).1-20)::chP m a l::(chI m a l++[chS m a l,chL m a l]) from rfl)
 clear hV k hal hl h16 hr T1 T2 GF GVp hg0 hcp hel hgp hb0 hb1 vin tin sin
 obtain⟨f1,hf1⟩:∃f,f=qX l (jI m a):=⟨_,rfl⟩
 rw[<-hf1] at KS1 HT1
 have HF1:=hid hf1
 clear hf1
 obtain⟨Y,hY⟩:∃Y,Y=jI m a:=⟨_,rfl⟩
 rw[<-hY] at YL Y16 KM KS1 QL
 clear hY
 generalize dY m.p Y=q2 at*
 obtain⟨gv,hgv⟩:∃x,x=bP (chP m a l):=⟨_,rfl⟩
 rw[<-hgv] at PG gvr KDn KS2 SIN KS3 HT2
 clear hgv
 obtain⟨P,hP⟩:∃P,P=chP m a l:=⟨_,rfl⟩
 rw[<-hP] at hpn KNr HU
 clear hP
 obtain⟨Sc,hSc⟩:∃f,f=nH (chV m a l) gv:=⟨_,rfl⟩
 rw[<-hSc] at KS2 SIN KS3 HT2
 clear hSc
 obtain⟨Vv,hVv⟩:∃x,x=chV m a l:=⟨_,rfl⟩
 rw[<-hVv] at KDn KS2 VIN VL KF1
 clear hVv
 obtain⟨T,hT⟩:∃x,x=chT m a l:=⟨_,rfl⟩
 rw[<-hT] at KPk PE KS3 HT1 HT2 TIN TL
 clear hT
 obtain⟨TQ,hTQ⟩:∃x,x=iQ m a l:=⟨_,rfl⟩
 rw[<-hTQ] at HT2 KTg KD1 KO dr1 dw
 clear hTQ
 obtain⟨G,hG⟩:∃x,x=chR a:=⟨_,rfl⟩
 rw[<-hG] at GL GI GW KRg KPk PE KFd KF1 KTg KFw KF2
 clear hG
 obtain⟨kL,hkL⟩:∃kL,kL=(chK m a l).1:=⟨_,rfl⟩
 obtain⟨kC,hkC⟩:∃kC,kC=(chK m a l).2.1:=⟨_,rfl⟩
 obtain⟨kE,hkE⟩:∃kE,kE=(chK m a l).2.2:=⟨_,rfl⟩
 rw[<-hkL,<-hkC,<-hkE] at KPk
 rw[<-hkL] at KPs KF1 klr HU
 rw[<-hkC,<-hkE] at KNr
 clear hkL hkC hkE
 generalize cO m.e kL=Pa at*
 obtain⟨D,hD⟩:∃V,V=chD m a l:=⟨_,rfl⟩
 rw[<-hD] at KTg KFw
 clear hD
 generalize blL (chI m a l) (chS m a l) 4096=Bl at*
 generalize chF m a l=F at*
 generalize bz TQ F 40=dC at*
 generalize bz F F 40=dE at*
 generalize chL m a l=Lv at*
 generalize chS m a l=Sg at*
 generalize chI m a l=I at*
 generalize chU m a l=U at*
 obtain⟨i0,i1,i2,i3,rfl⟩:=uV IL
 clear IL dr1 dr2
 have hkw:IntKind.i64.wrap (kL-20)=kL-20:=aN
 have GVR:=hid gvr
 have HPN:=hid hpn
 have HP7:=hid hp7
 have HG:=hid g
 have HA:=hid ha
 clear g ha gvr hpn hp7
 go_enter Tryz.func55,Tryz.ntmps55
 go_upto_region 1 with(rw[HV.out];clear HV)
 go_cut[7,9] (fun s7 s9 wx=> ∃(A1:Option Addr) (c1:Nat),s7=.slice A1 40 c1/\s9=.int .i64 0/\Hid (Ro w wx m a A l)/\Hid (Rs wx wx.heap.size A1 Y))
 case first=>
  refine wp_region_held (S:=fun W=>Ro w W m a A l) au ?_
  have S1:=hid (Ro.below S0.out ((aA _ _).drew))
  change wpAnyH _ _ _ _ _ _ _ _ (World.drew _)
  obtain⟨V,hV⟩:∃V,V=V0.drew:=⟨_,rfl⟩
  rw[<-hV] at S1|-
  clear hV S0
  refine aV (i:=0) (v:=.agg (aj a).toArray) rfl au au au (fun _ _ _ h=>h) (yieldsIf_load_mid aC 90 (.tmp 4) rfl (w.heap.size+1) 0 rfl (aj a) _ (fun W hW=>IB.rangeAt hW.F) Tryz.underlying90 rfl (by rw[aQ,AL.out];exact bC)) S1.out ?_
  refine aV (i:=1) (v:=.pointer (some ⟨w.heap.size,8,none⟩)) rfl au au au (fun _ _ _ h=>h) (.inl ⟨aC,fun W hW=>by(first|rfl|go_simp)⟩) S1.out ?_
  refine aV (i:=2) (v:=.agg (aj m.p).toArray) rfl au au au (fun _ _ _ h=>h) (yieldsIf_load_mid aC 22 (.tmp 31) rfl w.heap.size 8 rfl (aj m.p) _ (fun W hW=>MB.P hW.J K0.out) Tryz.underlying22 rfl (by rw[aQ,K0.out.p];exact aH)) S1.out ?_
  refine fM (rs:=[3,9]) au az (dJ rfl (fun K hK=>?_) (dJ rfl (fun K hK=>?_) fN))
  ·
   rw[if_pos aC]
   simp only[Act.put,iZ,jm,jA,jB,jC,jD]
   refine JP _ _ rfl .i64 .i64 40 rfl rfl V.heap.size ah (al0z _) ?_
   intro W2 hO hG
   obtain⟨A1,hA1⟩:∃A1,A1=some (⟨V.heap.size,0,none⟩:Addr):=⟨_,rfl⟩
   rw[<-hA1] at hO|-
   have O2:=hid (show Rs W2 W2.heap.size A1 (List.replicate 40 0) from hO.reads)
   have Q2:=hid (show Below V.heap.size V W2 from(aA _ _).grown hG (al0z _) az)
   have L2:=hid (Ro.below S1.out Q2.out)
   clear hO hG hA1
   refine hK.out _ _ L2.out (fun _=>?_)
   clear hK K
   refine fM (rs:=[4,9]) au az (dJ rfl (fun K hK=>?_) (dJ rfl (fun K hK=>?_) fN))
   ·
    go_simp
    with_reducible refine(KM.out W2 A1 40 O2.out).mono ?_
    rintro e W3 ⟨A2,c2,rfl,hO,hB⟩
    have L3:=hid (Ro.below L2.out hB)
    have P3:=hid hO
    have Q3:=hid hB
    clear hO hB
    rw[YL.out]
    go_simp
    refine hK.out _ _ L3.out (fun _=>?_)
    clear hK K
    refine aV (i:=5) (v:=.tuple #[.slice A2 40 c2,.agg (agi q2),.int .i64 0]) rfl au au au (fun _ _ _ h=>h) (.inl ⟨aC,fun W hW=>by(first|rfl|go_simp)⟩) L3.out ?_
    refine aV (i:=6) (v:=.slice A2 40 c2) rfl au au au (fun _ _ _ h=>h) (.inl ⟨aC,fun W hW=>by(first|rfl|go_simp)⟩) L3.out ?_
    refine aV (i:=7) (v:=.agg (agi q2)) rfl au au au (fun _ _ _ h=>h) (.inl ⟨aC,fun W hW=>by(first|rfl|go_simp)⟩) L3.out ?_
    refine aV (i:=8) (v:=.int .i64 0) rfl au au au (fun _ _ _ h=>h) (.inl ⟨aC,fun W hW=>by(first|rfl|go_simp)⟩) L3.out ?_
    refine fM (rs:=[9]) au az (dJ rfl (fun K hK=>?_) fN)
    go_simp
    have L4:=hid (Ro.below L3.out ((aA _ _).alloc (al0z _) (.cells (agi Z8) 22)))
    have Z4:=hid (IB.new W3 22 Z8)
    obtain⟨W4,hW4⟩:∃W4,W4=W3.alloc (.cells (agi Z8) 22):=⟨_,rfl⟩
    have Q4:=hid (show Below W3.heap.size W3 W4 from Uh)
    rw[<-hW4] at L4 Z4
    rw[bW] at hW4
    rw[<-hW4]
    clear hW4
    obtain⟨gx,hgx⟩:∃gx,gx=W3.heap.size:=⟨_,rfl⟩
    have GX:=hid (show w.heap.size+3<=gx from by rw[hgx];exact Blk.lt L3.out.U)
    have GE:=hid hgx
    rw[<-hgx] at Z4|-
    clear hgx
    refine hK.out _ _ L4.out (fun _=>?_)
    clear hK K
    refine aV (i:=10) (v:=.slice A2 40 c2) rfl au au au (fun _ _ _ h=>h) (.inl ⟨aC,fun W hW=>by(first|rfl|go_simp)⟩) L4.out ?_
    refine fM (rs:=[11]) au az (dJ rfl (fun K hK=>?_) fN)
    rw[if_pos aC]
    simp only[Act.put,iZ,jm,jA,jB,jC,jD]
    refine qj 22 (.tmp 8) (.tmp 36) rfl gx 0 (agi q2) rfl rfl AO ui (gG _) ?_
    have LF:=hid (Ro.setC L4.out GX.out (agi q2).toList 0)
    have RF:=hid (show Rs (W4.setCells gx 0 (agi q2).toList) (W4.setCells gx 0 (agi q2).toList).heap.size A2 Y from Rs.more (Rs.below P3.out.reads (show Below W3.heap.size W3 (W4.setCells gx 0 (agi q2).toList) from iM Md _ _ _ Q4.out)) (gJ Q4.out.size (by rw[TK];exact al0z _)))
    obtain⟨WF,hWF⟩:∃WF,WF=W4.setCells gx 0 (agi q2).toList:=⟨_,rfl⟩
    rw[<-hWF] at LF RF|-
    clear hWF
    refine hK.out _ _ LF.out (fun _=>?_)
    clear hK K
    refine aV (i:=12) (v:=.int .i64 0) rfl au au au (fun _ _ _ h=>h) (.inl ⟨aC,fun W hW=>by(first|rfl|go_simp)⟩) LF.out ?_
    refine tY au ?_ _
    go_wp2_with fail
    go_meet
    exact⟨A2,c2,rfl,rfl,LF,RF⟩
   
   go_simp
   have L3:=hid (Ro.below L2.out ((aA _ _).alloc (al0z _) (.cells (agi Z8) 22)))
   have Z3:=hid (IB.new W2 22 Z8)
   obtain⟨W3,hW3⟩:∃W3,W3=W2.alloc (.cells (agi Z8) 22):=⟨_,rfl⟩
   have Q3:=hid (show Below W2.heap.size W2 W3 from Ui)
   rw[<-hW3] at L3 Z3
   rw[bW] at hW3
   rw[<-hW3]
   clear hW3
   obtain⟨gx,hgx⟩:∃gx,gx=W2.heap.size:=⟨_,rfl⟩
   have GX:=hid (show w.heap.size+3<=gx from by rw[hgx];exact Blk.lt L2.out.U)
   have GE:=hid hgx
   rw[<-hgx] at Z3|-
   clear hgx
   refine hK.out _ _ L3.out (fun _=>?_)
   clear hK K
   refine fM (rs:=[4]) au az (dJ rfl (fun K hK=>?_) fN)
   have O3:=hid ((O2.out.below Q3.out).more Q3.out.size)
   go_simp
   with_reducible refine(KM.out W3 A1 40 O3.out).mono ?_
   rintro e W4 ⟨A2,c2,rfl,hO,hB⟩
   have L4:=hid (Ro.below L3.out hB)
   have P4:=hid hO
   have Q4:=hid hB
   clear hO hB
   rw[YL.out]
   go_simp
   refine hK.out _ _ L4.out (fun _=>?_)
   clear hK K
   refine aV (i:=5) (v:=.tuple #[.slice A2 40 c2,.agg (agi q2),.int .i64 0]) rfl au au au (fun _ _ _ h=>h) (.inl ⟨aC,fun W hW=>by(first|rfl|go_simp)⟩) L4.out ?_
   refine aV (i:=6) (v:=.slice A2 40 c2) rfl au au au (fun _ _ _ h=>h) (.inl ⟨aC,fun W hW=>by(first|rfl|go_simp)⟩) L4.out ?_
   refine aV (i:=7) (v:=.agg (agi q2)) rfl au au au (fun _ _ _ h=>h) (.inl ⟨aC,fun W hW=>by(first|rfl|go_simp)⟩) L4.out ?_
   refine aV (i:=8) (v:=.int .i64 0) rfl au au au (fun _ _ _ h=>h) (.inl ⟨aC,fun W hW=>by(first|rfl|go_simp)⟩) L4.out ?_
   have Z4:=hid (Blk.below' Z3.out Q4.out)
   refine aV (i:=10) (v:=.slice A2 40 c2) rfl au au au (fun _ _ _ h=>h) (.inl ⟨aC,fun W hW=>by(first|rfl|go_simp)⟩) L4.out ?_
   refine fM (rs:=[11]) au az (dJ rfl (fun K hK=>?_) fN)
   rw[if_pos aC]
   simp only[Act.put,iZ,jm,jA,jB,jC,jD]
   refine qj 22 (.tmp 8) (.tmp 36) rfl gx 0 (agi q2) rfl rfl AO ui (gG _) ?_
   have LF:=hid (Ro.setC L4.out GX.out (agi q2).toList 0)
   have RF:=hid (show Rs (W4.setCells gx 0 (agi q2).toList) (W4.setCells gx 0 (agi q2).toList).heap.size A2 Y from(Own.setCs (g:=gx) (Blk.lt Z3.out) (agi q2).toList 0 _ P4.out).reads)
   obtain⟨WF,hWF⟩:∃WF,WF=W4.setCells gx 0 (agi q2).toList:=⟨_,rfl⟩
   rw[<-hWF] at LF RF|-
   clear hWF
   refine hK.out _ _ LF.out (fun _=>?_)
   clear hK K
   refine aV (i:=12) (v:=.int .i64 0) rfl au au au (fun _ _ _ h=>h) (.inl ⟨aC,fun W hW=>by(first|rfl|go_simp)⟩) LF.out ?_
   refine tY au ?_ _
   go_wp2_with fail
   go_meet
   exact⟨A2,c2,rfl,rfl,LF,RF⟩
  
  go_simp
  have L2:=hid (Ro.below S1.out ((aA _ _).alloc (al0z _) (.cells (agi Z8) 22)))
  have Z2:=hid (IB.new V 22 Z8)
  obtain⟨W2,hW2⟩:∃W2,W2=V.alloc (.cells (agi Z8) 22):=⟨_,rfl⟩
  have Q2:=hid (show Below V.heap.size V W2 from Uj)
  rw[<-hW2] at L2 Z2
  rw[bW] at hW2
  rw[<-hW2]
  clear hW2
  obtain⟨gx,hgx⟩:∃gx,gx=V.heap.size:=⟨_,rfl⟩
  have GX:=hid (show w.heap.size+3<=gx from by rw[hgx];exact Blk.lt S1.out.U)
  have GE:=hid hgx
  rw[<-hgx] at Z2|-
  clear hgx
  refine hK.out _ _ L2.out (fun _=>?_)
  clear hK K
  refine fM (rs:=[3]) au az (dJ rfl (fun K hK=>?_) fN)
  rw[if_pos aC]
  simp only[Act.put,iZ,jm,jA,jB,jC,jD]
  refine JP _ _ rfl .i64 .i64 40 rfl rfl W2.heap.size ah (al0z _) ?_
  intro W3 hO hG
  obtain⟨A1,hA1⟩:∃A1,A1=some (⟨W2.heap.size,0,none⟩:Addr):=⟨_,rfl⟩
  rw[<-hA1] at hO|-
  have O3:=hid (show Rs W3 W3.heap.size A1 (List.replicate 40 0) from hO.reads)
  have Q3:=hid (show Below W2.heap.size W2 W3 from(aA _ _).grown hG (al0z _) az)
  have L3:=hid (Ro.below L2.out Q3.out)
  clear hO hG hA1
  refine hK.out _ _ L3.out (fun _=>?_)
  clear hK K
  have Z3:=hid (Blk.below' Z2.out Q3.out)
  refine fM (rs:=[4]) au az (dJ rfl (fun K hK=>?_) fN)
  go_simp
  with_reducible refine(KM.out W3 A1 40 O3.out).mono ?_
  rintro e W4 ⟨A2,c2,rfl,hO,hB⟩
  have L4:=hid (Ro.below L3.out hB)
  have P4:=hid hO
  have Q4:=hid hB
  clear hO hB
  rw[YL.out]
  go_simp
  refine hK.out _ _ L4.out (fun _=>?_)
  clear hK K
  refine aV (i:=5) (v:=.tuple #[.slice A2 40 c2,.agg (agi q2),.int .i64 0]) rfl au au au (fun _ _ _ h=>h) (.inl ⟨aC,fun W hW=>by(first|rfl|go_simp)⟩) L4.out ?_
  refine aV (i:=6) (v:=.slice A2 40 c2) rfl au au au (fun _ _ _ h=>h) (.inl ⟨aC,fun W hW=>by(first|rfl|go_simp)⟩) L4.out ?_
  refine aV (i:=7) (v:=.agg (agi q2)) rfl au au au (fun _ _ _ h=>h) (.inl ⟨aC,fun W hW=>by(first|rfl|go_simp)⟩) L4.out ?_
  refine aV (i:=8) (v:=.int .i64 0) rfl au au au (fun _ _ _ h=>h) (.inl ⟨aC,fun W hW=>by(first|rfl|go_simp)⟩) L4.out ?_
  have Z4:=hid (Blk.below' Z3.out Q4.out)
  refine aV (i:=10) (v:=.slice A2 40 c2) rfl au au au (fun _ _ _ h=>h) (.inl ⟨aC,fun W hW=>by(first|rfl|go_simp)⟩) L4.out ?_
  refine fM (rs:=[11]) au az (dJ rfl (fun K hK=>?_) fN)
  rw[if_pos aC]
  simp only[Act.put,iZ,jm,jA,jB,jC,jD]
  refine qj 22 (.tmp 8) (.tmp 36) rfl gx 0 (agi q2) rfl rfl AO ui (gG _) ?_
  have LF:=hid (Ro.setC L4.out GX.out (agi q2).toList 0)
  have RF:=hid (show Rs (W4.setCells gx 0 (agi q2).toList) (W4.setCells gx 0 (agi q2).toList).heap.size A2 Y from(Own.setCs (g:=gx) (Blk.lt Z3.out) (agi q2).toList 0 _ P4.out).reads)
  obtain⟨WF,hWF⟩:∃WF,WF=W4.setCells gx 0 (agi q2).toList:=⟨_,rfl⟩
  rw[<-hWF] at LF RF|-
  clear hWF
  refine hK.out _ _ LF.out (fun _=>?_)
  clear hK K
  refine aV (i:=12) (v:=.int .i64 0) rfl au au au (fun _ _ _ h=>h) (.inl ⟨aC,fun W hW=>by(first|rfl|go_simp)⟩) LF.out ?_
  refine tY au ?_ _
  go_wp2_with fail
  go_meet
  exact⟨A2,c2,rfl,rfl,LF,RF⟩
 case rest=>
  obtain⟨A1,c1,rfl,rfl,L1,R1⟩:=hcut
  clear S0 KM
  have hpn:=HPN.out
  subst hpn
  clear HPN
  go_wp2_with(refine aK rfl 90 (.tmp 4) rfl _ 90 a 9 _ rfl L1.out.F Tryz.underlying90 rfl bC AL.out ?_)
  refine(KRg.out wc).mono ?_
  rintro e w3 ⟨A3,c3,rfl,hO,hB⟩
  have L3:=hid (L1.out.below hB)
  have R3:=hid ((R1.out.below hB).more hB.size)
  have G3:=hid hO.reads
  clear hO hB L1 R1
  have BB:=(aA w3.heap.size w3).alloc (al0z _) (.cells #[.slice A3 40 c3] 27)
  have L4:=hid (L3.out.below BB)
  have R4:=hid ((R3.out.below BB).more BB.size)
  have G4:=hid ((G3.out.below BB).more BB.size)
  have C4:=hid (Blk.new w3 27 #[.slice A3 40 c3])
  obtain⟨V4,hV4⟩:∃V,V=w3.alloc (.cells #[.slice A3 40 c3] 27):=⟨_,rfl⟩
  rw[<-hV4] at L4 R4 G4 C4
  have HV4:=hid hV4.symm
  clear hV4 BB L3 R3 G3
  go_wp2_with(first
   |(rw[HV4.out];clear HV4)
   |(at_make;refine kR rfl _ _ rfl .i64 .i64 40 rfl rfl V4.heap.size ah (al0z _) ?_
     intro w5 hO hG
     have hb5:=(aA V4.heap.size V4).grown hG (al0z _) az
     have P5:=hid (show Rp w w5 m a A l w3.heap.size A3 c3 G A1 Y V4.heap.size (List.replicate 40 0) from⟨L4.out.below hb5,Blk.below' C4.out hb5,G4.out.below hb5,R4.out.below hb5,hO,Blk.lt L4.out.U,Blk.lt C4.out⟩)
     clear hO hG hb5))
  obtain⟨gR,hgR⟩:∃g,g=w3.heap.size:=⟨_,rfl⟩
  obtain⟨gB,hgB⟩:∃g,g=V4.heap.size:=⟨_,rfl⟩
  rw[<-hgR,<-hgB] at P5|-
  clear hgR hgB L4 R4 G4 C4
  go_loopw[14,47] (fun _ iv wr=> ∃(k:Nat) (ys:List Int),k<=40/\iv=.int .i64 k/\Hid (Fil f1 (List.replicate 40 0) ys k)/\Hid (Rp w wr m a A l gR A3 c3 G A1 Y gB ys)) (fun _ iv _=>40-(intOf iv).toNat)
  case atStart=>exact⟨0,_,ah,rfl,hid (Fil.start _ az),P5⟩
  case round=>
   clear P5
   obtain⟨k,ys,hk,rfl,HF,HP⟩:=hrel
   by_cases hlt:k<40
   ·obtain⟨ad,rfl,_,_⟩:=HP.out.L.L.at_ (k:=k) (by rw[LL.out];exact hlt)
    obtain⟨ae,rfl,_,_⟩:=HP.out.Y.at_ (k:=k) (by rw[YL.out];exact hlt)
    have i40:(k:Int)<40:=ah
    have x16:=L16.out k
    have y16:=Y16.out k
    have KS:=hid (fun W=>KS1.out W k)
    obtain⟨x,hx⟩:∃x,x=l.getD k 0:=⟨_,rfl⟩
    obtain⟨y,hy⟩:∃y,y=Y.getD k 0:=⟨_,rfl⟩
    obtain⟨z,hz⟩:∃z,z=f1 k:=⟨_,rfl⟩
    rw[<-hx,<-hy,<-hz] at KS
    rw[<-hx] at x16
    rw[<-hy] at y16
    have HX:=hid hx
    have HY:=hid hy
    have HZ:=hid hz
    clear hx hy hz
    have hw1:IntKind.i64.wrap (x-y)=x-y:=aN
    go_upto_region 8 with fail
    refine mD [0,1,2,3,6,7] [4,5,8,9,10,11] 12 [13] (fun W=>Rp w W m a (some ad) l gR A3 c3 G (some ae) Y gB ys) au au rfl (HP.out.below ((aA _ _).drew)) (fun _ _ d _ _ h=>mN) ?_
    simp only[iz,jZ,mJ,mL]
    refine bY (v:=.slice (some ⟨gB,0,none⟩) 40 40) aC (fun W=>rfl) ?_
    refine bY (v:=.int .i64 k) aC (fun W=>rfl) ?_
    refine bY (v:=.slice (some ad) 40 c) aC (fun W=>rfl) ?_
    refine bY (v:=.int .i64 k) aC (fun W=>rfl) ?_
    refine bY (v:=.slice (some ae) 40 c1) aC (fun W=>rfl) ?_
    refine bY (v:=.int .i64 k) aC (fun W=>rfl) ?_
    refine mr ?_
    simp only[Act.put,iZ,jm,jA,jB,jC,jD]
    refine bu (fun K hK=>?_)
    go_simp
    refine⟨.pointer (some (ad.add k)),fun W hW=>?_,hK _ ?_⟩
    ·go_simp
    clear hK K
    refine bu (fun K hK=>?_)
    go_simp
    refine⟨.int .i64 x,fun W hW=>?_,hK _ ?_⟩
    ·obtain⟨a',e,_,h⟩:=hW.L.L.at_ (k:=k) (by rw[LL.out];exact hlt)
     injection e with e
     subst e
     rw[<-HX.out] at h
     go_simp
    clear hK K
    refine bu (fun K hK=>?_)
    go_simp
    refine⟨.pointer (some (ae.add k)),fun W hW=>?_,hK _ ?_⟩
    ·go_simp
    clear hK K
    refine bu (fun K hK=>?_)
    go_simp
    refine⟨.int .i64 y,fun W hW=>?_,hK _ ?_⟩
    ·obtain⟨a',e,_,h⟩:=hW.Y.at_ (k:=k) (by rw[YL.out];exact hlt)
     injection e with e
     subst e
     rw[<-HY.out] at h
     go_simp
    clear hK K
    refine bu (fun K hK=>?_)
    go_simp
    apply Exists.intro
    refine⟨fun W hW=>rfl,hK _ ?_⟩
    clear hK K
    refine bu (fun K hK=>?_)
    go_simp
    apply Exists.intro
    refine⟨fun W hW=>?_,hK _ ?_⟩
    ·with_reducible exact(KS.out W).mono fun e w' ⟨h1,h2⟩=>⟨h1,hW.below h2⟩
    clear hK K
    refine wpQuiet_nil ?_
    intro W8 hW8
    have P8:=hid hW8
    clear hW8 HP KS
    have cb:=P8.out.T.cell k EQ
    have fb:=P8.out.T.frozen k
    have P9:=hid (P8.out.set (k:=k) EQ z)
    have NF:=HF.out.next hlt
    rw[<-HZ.out] at NF
    have NF:=hid NF
    go_wp2_with fail
    go_roundw
    case rel=>exact⟨k+1,ys.set k z,ah,aO,NF,P9⟩
    case measure=>simp[intOf]<;>omega
   obtain rfl:k=40:=ah
   have e:=HF.out.done
   rw[<-HT1.out] at e
   have P9:=hid (show Rp w wr m a A l gR A3 c3 G A1 Y gB T from by rw[<-e];exact HP.out)
   clear HP HF e
   have Q10:=hid (Rq.start P9.out Zs8)
   obtain⟨V10,hV10⟩:∃V,V=wr.alloc (.cells (agi Zs8) 35):=⟨_,rfl⟩
   rw[<-hV10] at Q10
   rw[TM] at hV10
   have HV10:=hid hV10.symm
   obtain⟨gS,hgS⟩:∃g,g=wr.heap.size:=⟨_,rfl⟩
   rw[<-hgS] at Q10
   have HGS:=hid hgS.symm
   clear hV10 hgS P9
   go_wp2_with(first
    |(rw[HV10.out];clear HV10)
    |(refine bI rfl 23 (.tmp 65) rfl _ _ rfl (aj m.e) _ (Q10.out.P.L.J.E K0.out) Tryz.underlying23 rfl HI80.out ?_))
   rw[HGS.out]
   refine(KPk.out V10 gR (some ⟨gB,0,none⟩) 40 (KFd.out V10 _ _ _ Q10.out.P.C Q10.out.P.g) Q10.out.P.t).mono ?_
   rintro e w11 ⟨rfl,hB⟩
   have Q11:=hid (Q10.out.below hB)
   clear hB Q10 HGS
   go_wp2_with fail
   with_reducible refine(KNr.out w11 Q11.out.P.L.B).mono ?_
   rintro e w12 ⟨rfl,hB⟩
   have Q12:=hid (Q11.out.below hB)
   clear hB Q11
   have c0:w12.cell? ⟨gS,0,none⟩=some (.int .i64 0):=Q12.out.S.cell 0 (by simp[Zs8])
   have f0:w12.frozen? ⟨gS,0,none⟩=false:=Blk.frozen Q12.out.S 0
   have c1_:w12.cell? ⟨gS,1,none⟩=some (.int .i64 0):=Q12.out.S.cell 1 (by simp[Zs8])
   have f1_:w12.frozen? ⟨gS,1,none⟩=false:=Blk.frozen Q12.out.S 1
   have Q12a:=Q12.out.sets (us':=[kL-20,0,0,0,0,0,0,0]) [.int .i64 (kL-20)] 0 (IB.set_ Q12.out.S 0 (kL-20))
   have Q13:=hid (show Rq w ((w12.setCell ⟨gS,0,none⟩ (.int .i64 (kL-20))).setCell ⟨gS,1,none⟩ (.int .i64 (pn:Nat))) m a A l gR A3 c3 G A1 Y gB T gS [kL-20,(pn:Int),0,0,0,0,0,0] from Q12a.sets [.int .i64 (pn:Nat)] 1 (IB.set_ Q12a.S 1 (pn:Nat)))
   obtain⟨V13,hV13⟩:∃V,V=(w12.setCell ⟨gS,0,none⟩ (.int .i64 (kL-20))).setCell ⟨gS,1,none⟩ (.int .i64 (pn:Nat)):=⟨_,rfl⟩
   rw[<-hV13] at Q13
   have HV13:=hid hV13.symm
   clear hV13 Q12a Q12
   go_wp2_with(first
    |(rw[HV13.out];clear HV13 c0 f0 c1_ f1_)
    |(refine bI rfl 23 (.tmp 82) rfl _ _ rfl (aj m.e) _ (Q13.out.P.L.J.E K0.out) Tryz.underlying23 rfl HI80.out ?_))
   refine(KPs.out V13).mono ?_
   rintro e w14 ⟨A5,c5,rfl,hO,hB⟩
   have Q14:=hid (Q13.out.below hB)
   have R14:=hid hO.reads
   clear hO hB Q13
   go_wp2_with fail
   refine(KF1.out w14 gR A3 c3 A5 c5 Q14.out.P.C Q14.out.P.g R14.out).mono ?_
   rintro e w15 ⟨A6,c6,rfl,hO,hB⟩
   have V15:=hid (⟨Q14.out.below hB,hO.more Q14.out.lt⟩:Rv w w15 m a A l gR A3 c3 G A1 Y gB T gS [kL-20,(pn:Int),0,0,0,0,0,0] A6 c6 Vv)
   clear hO hB Q14 R14
   go_wp2_with fail
   go_loopw[22,23,92] (fun _ _ iv wr=> ∃(k:Nat) (ys:List Int),k<=40/\iv=.int .i64 k/\Hid (Fil (fun i=>s16 (T.getD i 0-Sc i)) T ys k)/\Hid (Rv w wr m a A l gR A3 c3 G A1 Y gB ys gS [kL-20,(pn:Int),0,0,0,0,0,0] A6 c6 Vv)) (fun _ _ iv _=>40-(intOf iv).toNat)
   case atStart=>exact⟨0,_,ah,rfl,hid (Fil.start _ TL.out),V15⟩
   case round=>
    clear V15
    obtain⟨k,ys,hk,rfl,HF,HV⟩:=hrel
    by_cases hlt:k<40
    ·have i40:(k:Int)<40:=ah
     obtain⟨av,rfl,_,cv⟩:=HV.out.V.reads.at_ (k:=k) (by rw[VL.out];exact hlt)
     have KDk:=hid (fun W=>KDn.out W k)
     have KSk:=hid (fun W=>KS2.out W k)
     have KSl:=hid (fun W=>KS3.out W k)
     have v16:=VIN.out k
     have x16:=TIN.out k
     have s16_:=SIN.out k
     obtain⟨x,hx⟩:∃x,x=T.getD k 0:=⟨_,rfl⟩
     obtain⟨v,hv⟩:∃y,y=Vv.getD k 0:=⟨_,rfl⟩
     obtain⟨sc,hsc⟩:∃y,y=Sc k:=⟨_,rfl⟩
     obtain⟨z,hz⟩:∃z,z=s16 (x-sc):=⟨_,rfl⟩
     rw[<-hv] at cv KDk KSk v16
     rw[<-hsc] at KSk KSl s16_
     rw[<-hx,<-hz] at KSl
     rw[<-hx] at x16
     have HX:=hid (show ys.getD k 0=x from by rw[hx];exact HF.out.at_)
     have HZ:=hid (show z=s16 (T.getD k 0-Sc k) from by rw[hz,hx,hsc])
     have GR:=GVR.out
     obtain⟨p1,p2⟩:=kU v16.1 v16.2 (show-32768<=gv from ah) (show gv<=32767 from ah)
     have hw2:IntKind.i64.wrap (v*gv)=v*gv:=aN
     have hw3:IntKind.i64.wrap (v*gv+8192)=v*gv+8192:=aN
     have hw4:IntKind.i64.wrap (x-sc)=x-sc:=aN
     have p8:(pn:Int)<8:=by have:=HP7.out;omega
     have p8n:pn<8:=by have:=HP7.out;omega
     clear hx hv hsc hz p1 p2 GR
     go_upto_region 17 with fail
     clear cv
     refine mD [0,1,2,3,6,8] [4,5,7,9,10,11,12,13,14,15,16,17] 18 [19] (fun W=>Rv w W m a A l gR A3 c3 G A1 Y gB ys gS [kL-20,(pn:Int),0,0,0,0,0,0] (some av) c6 Vv) au au rfl (HV.out.below ((aA _ _).drew)) (fun _ _ d _ _ h=>mN) ?_
     simp only[iz,jZ,mJ,mL]
     refine bY (v:=.slice (some ⟨gB,0,none⟩) 40 40) aC (fun W=>rfl) ?_
     refine bY (v:=.int .i64 k) aC (fun W=>rfl) ?_
     refine bY (v:=.slice (some ⟨gB,0,none⟩) 40 40) aC (fun W=>rfl) ?_
     refine bY (v:=.int .i64 k) aC (fun W=>rfl) ?_
     refine bY (v:=.int .i64 v) aC (fun W=>rfl) ?_
     refine bY (v:=.pointer (some ⟨gS,1,none⟩)) aC (fun W=>?_) ?_
     ·go_simp
     refine mr ?_
     simp only[Act.put,iZ,jm,jA,jB,jC,jD]
     refine bu (fun K hK=>?_)
     go_simp
     refine⟨.pointer (some ⟨gB,k,none⟩),fun W hW=>?_,hK _ ?_⟩
     ·go_simp
     clear hK K
     refine bu (fun K hK=>?_)
     go_simp
     refine⟨.int .i64 x,fun W hW=>?_,hK _ ?_⟩
     ·have h:=hW.Q.P.T.cell k EQ
      rw[HX.out] at h
      go_simp
     clear hK K
     refine bu (fun K hK=>?_)
     go_simp
     refine⟨.slice (some ap) 8 cp,fun W hW=>?_,hK _ ?_⟩
     ·have h:=(PG.out W hW.Q.P.L.B).1
      go_simp
     clear hK K
     refine bu (fun K hK=>?_)
     go_simp
     refine⟨.int .i64 (pn:Nat),fun W hW=>?_,hK _ ?_⟩
     ·have h:W.cell? ⟨gS,1,none⟩=some (.int .i64 (pn:Nat)):=hW.Q.S.cell 1 az
      go_simp
     clear hK K
     refine bu (fun K hK=>?_)
     go_simp
     refine⟨.pointer (some (ap.add pn)),fun W hW=>?_,hK _ ?_⟩
     ·go_simp
     clear hK K
     refine bu (fun K hK=>?_)
     go_simp
     refine⟨.int .i64 gv,fun W hW=>?_,hK _ ?_⟩
     ·have h:=(PG.out W hW.Q.P.L.B).2
      go_simp
     clear hK K
     refine bu (fun K hK=>?_)
     go_simp
     apply Exists.intro
     refine⟨fun W hW=>rfl,hK _ ?_⟩
     clear hK K
     refine bu (fun K hK=>?_)
     go_simp
     apply Exists.intro
     refine⟨fun W hW=>rfl,hK _ ?_⟩
     clear hK K
     refine bu (fun K hK=>?_)
     go_simp
     apply Exists.intro
     refine⟨fun W hW=>?_,hK _ ?_⟩
     ·with_reducible exact(KDk.out W).mono fun e w' ⟨h1,h2⟩=>⟨h1,hW.below h2⟩
     clear hK K
     refine bu (fun K hK=>?_)
     go_simp
     apply Exists.intro
     refine⟨fun W hW=>?_,hK _ ?_⟩
     ·with_reducible exact(KSk.out W).mono fun e w' ⟨h1,h2⟩=>⟨h1,hW.below h2⟩
     clear hK K
     refine bu (fun K hK=>?_)
     go_simp
     apply Exists.intro
     refine⟨fun W hW=>rfl,hK _ ?_⟩
     clear hK K
     refine bu (fun K hK=>?_)
     go_simp
     apply Exists.intro
     refine⟨fun W hW=>?_,hK _ ?_⟩
     ·with_reducible exact(KSl.out W).mono fun e w' ⟨h1,h2⟩=>⟨h1,hW.below h2⟩
     clear hK K
     refine wpQuiet_nil ?_
     intro W8 hW8
     have V8:=hid hW8
     clear hW8 HV KDk KSk KSl
     have cb:=V8.out.Q.P.T.cell k EQ
     have fb:=V8.out.Q.P.T.frozen k
     have V9:=hid (V8.out.set (k:=k) EQ z)
     have NF:=HF.out.next hlt
     have NF:=hid (show Fil (fun i=>s16 (T.getD i 0-Sc i)) T (ys.set k z) (k+1) from by rw[HZ.out];exact NF)
     go_wp2_with fail
     go_roundw
     case rel=>exact⟨k+1,ys.set k z,ah,aO,NF,V9⟩
     case measure=>simp[intOf]<;>omega
    obtain rfl:k=40:=ah
    have e:=HF.out.done
    rw[<-HT2.out] at e
    have Q19:=hid (show Rq w wr m a A l gR A3 c3 G A1 Y gB TQ gS [kL-20,(pn:Int),0,0,0,0,0,0] from by rw[<-e];exact HV.out.Q)
    clear HV HF e
    have cb:=Blk.cell Q19.out.P.C 0
    go_wp2_with fail
    refine(KTg.out wr (some ⟨gB,0,none⟩) 40 A3 c3 Q19.out.P.t Q19.out.P.g).mono ?_
    rintro e w20 ⟨A9,c9,rfl,hO,hB⟩
    have Q20:=hid (Q19.out.below hB)
    have R20:=hid hO.reads
    clear hO hB cb Q19
    have cb:=Blk.cell Q20.out.P.C 0
    go_wp2_with fail
    refine(KFw.out w20 A9 c9 A3 c3 R20.out Q20.out.P.g).mono ?_
    rintro e w21 ⟨rfl,hB⟩
    have Q21:=hid (Q20.out.below hB)
    clear hB cb Q20 R20
    have Q22:=hid (Q21.out.sets (us':=[kL-20,(pn:Int),i0,i1,i2,i3,0,0]) (aj [i0,i1,i2,i3]) 2 (IB.set_ (IB.set_ (IB.set_ (IB.set_ Q21.out.S 2 i0) 3 i1) 4 i2) 5 i3))
    have TH:=hid (show w21.there gS 2 (agi [i0,i1,i2,i3]).size from fun j hj=>by
     have h:=Blk.there Q21.out.S (2+j) (by show 2+j<8;have:j<4:=hj;omega)
     rwa [Nat.zero_add] at h)
    obtain⟨V22,hV22⟩:∃V,V=w21.setCells gS 2 (aj [i0,i1,i2,i3]):=⟨_,rfl⟩
    rw[<-hV22] at Q22
    have HV22:=hid hV22.symm
    clear hV22
    have c6:V22.cell? ⟨gS,6,none⟩=some (.int .i64 0):=Q22.out.S.cell 6 az
    have f6:V22.frozen? ⟨gS,6,none⟩=false:=Blk.frozen Q22.out.S 6
    have Q23:=hid (show Rq w (V22.setCell ⟨gS,6,none⟩ (.int .i64 Sg)) m a A l gR A3 c3 G A1 Y gB TQ gS [kL-20,(pn:Int),i0,i1,i2,i3,Sg,0] from Q22.out.sets [.int .i64 Sg] 6 (IB.set_ Q22.out.S 6 Sg))
    obtain⟨V23,hV23⟩:∃V,V=V22.setCell ⟨gS,6,none⟩ (.int .i64 Sg):=⟨_,rfl⟩
    rw[<-hV23] at Q23
    have HV23:=hid hV23.symm
    clear hV23
    have d6:V23.cell? ⟨gS,6,none⟩=some (.int .i64 Sg):=Q23.out.S.cell 6 az
    have SZ4:Hid ((Tryz.prog.info? 33).map (·.size)=some (agi [i0,i1,i2,i3]).size):=hid Eh
    have HI4:Hid ((Tryz.prog.info? 33).map (·.size)=some (aj [i0,i1,i2,i3]).length):=hid Eh
    go_wp2_with(first
     |(rw[HV23.out];clear HV23)
     |(refine jd rfl 33 (.tmp 130) (.tmp 127) rfl gS 2 (agi [i0,i1,i2,i3]) rfl rfl TH.out SZ4.out (gG _) ?_;rw[show(agi [i0,i1,i2,i3]).toList=aj [i0,i1,i2,i3] from rfl,HV22.out])
     |(refine bI rfl 33 (.tmp 133) rfl _ _ rfl (aj [i0,i1,i2,i3]) _ (Q23.out.S.mid 2 4 az) Tryz.underlying33 rfl HI4.out ?_))
    refine(KBd.out V23).mono ?_
    rintro e w24 ⟨A10,c10,rfl,hO,hB⟩
    have Q24:=hid (Q23.out.below hB)
    have R24:=hid hO.reads
    clear hO hB d6 c6 f6
    go_wp2_with fail
    refine(KF2.out w24 gR A3 c3 A10 c10 Q24.out.P.C Q24.out.P.g R24.out).mono ?_
    rintro e w25 ⟨A11,c11,rfl,hO,hB⟩
    have Q25:=hid (Q24.out.below hB)
    have R25:=hid hO.reads
    clear hO hB
    go_wp2_with fail
    with_reducible refine(KD1.out w25 (some ⟨gB,0,none⟩) 40 A11 c11 Q25.out.P.t R25.out).mono ?_
    rintro e w26 ⟨rfl,hB⟩
    have Q26:=hid (Q25.out.below hB)
    have R26:=hid ((R25.out.below hB).more hB.size)
    clear hB
    go_wp2_with fail
    with_reducible refine(KD2.out w26 A11 c11 R26.out).mono ?_
    rintro e w27 ⟨rfl,hB⟩
    have Q27:=hid (Q26.out.below hB)
    clear hB
    go_wp2_with fail
    with_reducible refine(KO.out w27 Q27.out.P.L.B).mono ?_
    rintro e w28 ⟨rfl,hB⟩
    have Q28:=hid (Q27.out.below hB)
    clear hB
    have c7:w28.cell? ⟨gS,7,none⟩=some (.int .i64 0):=Q28.out.S.cell 7 az
    have f7:w28.frozen? ⟨gS,7,none⟩=false:=Blk.frozen Q28.out.S 7
    have Q29:=hid (show Rq w (w28.setCell ⟨gS,7,none⟩ (.int .i64 Lv)) m a A l gR A3 c3 G A1 Y gB TQ gS [kL-20,(pn:Int),i0,i1,i2,i3,Sg,Lv] from Q28.out.sets [.int .i64 Lv] 7 (IB.set_ Q28.out.S 7 Lv))
    obtain⟨V29,hV29⟩:∃V,V=w28.setCell ⟨gS,7,none⟩ (.int .i64 Lv):=⟨_,rfl⟩
    rw[<-hV29] at Q29
    have HV29:=hid hV29.symm
    clear hV29
    go_wp2_with(first
     |(rw[HV29.out];clear HV29)
     |(refine aK rfl 35 (.tmp 15) rfl _ 35 [kL-20,(pn:Int),i0,i1,i2,i3,Sg,Lv] 8 _ rfl Q29.out.S Tryz.underlying35 rfl sW rfl ?_)
     |(refine aP rfl 35 (.tmp 6) (.tmp 152) rfl _ 35 Zs8 [kL-20,(pn:Int),i0,i1,i2,i3,Sg,Lv] 8 rfl rfl Q29.out.P.L.U sW rfl rfl ?_))
    refine bg (v:=_) (hR _ _ _ 35 [kL-20,(pn:Int),i0,i1,i2,i3,Sg,Lv] _ 8 rfl (IB.setRow Q29.out.P.L.U _) Tryz.underlying35 rfl sW rfl) rfl ?_
    exact⟨by rw[HU.out];rfl,aS Q29.out.P.L.B ah _⟩
end Go.Proofs.YthoiikkjjaldnaaGreatDoor
