/- Texts that the law rests on. -/
import Derived.Test.YthoiikkjjaldnaaGreatDoorZ1e01
import Derived.Test.YthoiikkjjaldnaaGreatDoorZ1e03
namespace Go.Proofs.YthoiikkjjaldnaaGreatDoor
set_option linter.unusedVariables false
set_option linter.unusedSimpArgs false
set_option maxRecDepth 100000
set_option maxHeartbeats 8000000
open Go.RowKit
section
open Go.ChangeShapes
def iy:List Int:=[444758425,203159592,97181937,47538611,23511884,11692281,5830311,2911209,1454619,727063,363470,181719,90856,45427,22713]
def aY:List Int:=[0,3277,6554,9830,12452,14746,16384,18022]
def fD:List Int:=[6,6,5,5,4,4,3,3]
def TabA(w:World)(g:Nat)(zs:List Int):Prop:=∃t fr,w.heap[g]?=some (.cells (agi zs) t fr)
def TabS(w:World)(g:Nat)(zs:List Int):Prop:=∃A c,g<w.heap.size/\w.cell? ⟨g,0,none⟩=some (.slice A zs.length c)/\Rs w w.heap.size A zs/\zs.length<=c
section
variable {w w':World} {g:Nat} {zs:List Int}
theorem TabA.lt(h:TabA w g zs):g<w.heap.size:=by
 obtain⟨t,fr,h⟩:=h
 rcases Nat.lt_or_ge g w.heap.size with hlt|hge
 ·exact hlt
 rw[Array.getElem?_eq_none hge] at h;cases h
theorem TabA.cell(h:TabA w g zs)(i:Nat)(hi:i<zs.length):w.cell? ⟨g,i,none⟩=some (.int .i64 (zs.getD i 0)):=by
 obtain⟨t,fr,h⟩:=h
 exact(cell_of_row w g i _ t fr h).trans (Fq zs i hi)
theorem TabA.below(h:TabA w g zs)(hb:Below w.heap.size w w'):TabA w' g zs:=by
 obtain⟨t,fr,h1⟩:=h
 exact⟨t,fr,(hb.block g (TabA.lt ⟨t,fr,h1⟩)).trans h1⟩
theorem TabS.below(h:TabS w g zs)(hb:Below w.heap.size w w'):TabS w' g zs:=by
 obtain⟨A,c,h0,h1,h2,h3⟩:=h
 have:=hb.size
 exact⟨A,c,ah,(hb.cell (p:=⟨g,0,none⟩) h0).trans h1,(h2.below hb).more this,h3⟩
theorem TabA.below'{B:Nat}(h:TabA w g zs)(hb:Below B w w')(hB:w.heap.size<=B):TabA w' g zs:=h.below (hb.mono hB)
theorem TabS.below'{B:Nat}(h:TabS w g zs)(hb:Below B w w')(hB:w.heap.size<=B):TabS w' g zs:=h.below (hb.mono hB)
theorem TabS.form(h:TabS w g zs):∃A c,w.cell? ⟨g,0,none⟩=some (.slice A zs.length c)/\zs.length<=c/\∀k,k<zs.length->∃ad,A=some ad/\w.cell? (ad.add k)=some (.int .i64 (zs.getD k 0)):=by
 obtain⟨A,c,_,h1,h2,h3⟩:=h
 refine⟨A,c,h1,h3,fun k hk=>?_⟩
 obtain⟨ad,e,_,hc⟩:=h2.at_ hk
 exact⟨ad,e,hc⟩
end
theorem acO{ops:Array Oper}{rest:List Oper}{o:Oper}{a:Act}{w:World}{Q:Exit->Act->World->Prop}(hw:Region.wanted o (yielded ops a.tmps)=true)(ty:TypeId)(x:Operand)(ho:o.op=.load ty x)
 (g:Nat) (xs:List Int) (n:Nat) (d:TypeDesc) (hx:a.eval x=.pointer (some ⟨g,0,none⟩)) (h:TabA w g xs) (hu:Tryz.prog.underlying ty=some d) (hd:mV d=true) (hi:(Tryz.prog.info? ty).map (·.size)=some n) (hl:xs.length=n)
 (hk:wpList Tryz.prog ops Q rest (a.put o.dst (.agg (agi xs))) w):wpList Tryz.prog ops Q (o::rest) a w:=by
 obtain⟨t,fr,h⟩:=h
 exact Go.BigFrame.wpList_want hw fun K hK=>wp_load_row ty x ho g hx t (agi xs) fr d h hu (by cases d<;>first|rfl|(simp[mV] at hd)) Bv (hK _ _ hk)
theorem akc{W:World}{name:String}{zs:List Int}{rest:List (String×DataW Unit)}{ps:List MemPlace}{g:Nat}{t:TypeId}{n:Nat}
 (hg:Tryz.prog.globalNamed name=some g) (hty:(Tryz.prog.globals[g]?).map (·.type)=some t) (ht:Tryz.prog.underlying t=some (.array n 3)) (hce:Tryz.prog.cellsOf 3=1) (hct:Tryz.prog.cellsOf t=n)
 (h:DataW.LaidVars Tryz.prog W ((name,Lib.tabData .i64 zs)::rest) ps):TabA W g zs/\∃q,DataW.LaidVars Tryz.prog W rest q:=by
 obtain⟨g',t',cs,fuel,p,q,hg',ht',hvar,hd,hr,_⟩:=h
 obtain rfl:=nP (hg.symm.trans hg')
 obtain rfl:=nP (hty.symm.trans ht')
 refine⟨?_,q,hr⟩
 have hcs:=Lib.cells_of_tab ht Tryz.underlying3 hce hct hd
 simp only[World.var?,hg,Option.bind_some] at hvar
 split at hvar
 ·rename_i c t fr hb
  cases hvar
  refine⟨t,fr,?_⟩
  rw[hb]
  have:cs=agi zs:=by
   unfold agi aj
   rw[<-hcs]
  rw[this]
 ·cases hvar
theorem akd{W:World}{name:String}{zs:List Int}{rest:List (String×DataW Unit)}{ps:List MemPlace}{g:Nat}{t:TypeId}
 (hg:Tryz.prog.globalNamed name=some g) (hty:(Tryz.prog.globals[g]?).map (·.type)=some t) (ht:Tryz.prog.underlying t=some (.slice 3)) (hce:Tryz.prog.cellsOf 3=1)
 (h:DataW.LaidVars Tryz.prog W ((name,.slice (zs.map fun z=>.lit (.int .i64 z)) [])::rest) ps):TabS W g zs/\∃q,DataW.LaidVars Tryz.prog W rest q:=by
 obtain⟨g',t',cs,fuel,p,q,hg',ht',hvar,hd,hr,_⟩:=h
 obtain rfl:=nP (hg.symm.trans hg')
 obtain rfl:=nP (hty.symm.trans ht')
 refine⟨?_,q,hr⟩
 have hv:=World.var?_cell hg hvar 0
 rcases open_ints ht Tryz.underlying3 hce hd with⟨_,hx⟩|⟨a,len,cap,ys,h1,_,hl,hm,hlen,hx,hcell,_⟩
 ·simp at hx
 ·simp only[Prod.mk.injEq,DataW.slice.injEq] at hx
  obtain⟨⟨hx1,hx2⟩,_⟩:=hx
  have hz:ys.take len=zs:=by
   have h2:(zs.map fun z=>(DataW.lit (.int .i64 z):DataW Unit))=(ys.take len).map fun z=>DataW.lit (.int .i64 z):=by simpa[lits] using hx1
   exact(List.map_inj_right (fun a b hab=>by injection hab with hab;injection hab)).1 h2|>.symm
  have hle:len<=ys.length:=by split at hlen<;>omega
  have hzl:zs.length=len:=by rw[<-hz,fL];omega
  have hg0:W.cell? ⟨g,0,none⟩=some (.slice (some a) len cap):=by
   rw[hv,Array.eq_one_of_toList h1];rfl
  refine⟨some a,cap,World.block_lt_of_cell? W ⟨g,0,none⟩ hg0,by rw[hzl];exact hg0,⟨nZ,fun hn=>⟨a,rfl,?_,?_⟩⟩,ah⟩
  ·have:=World.block_lt_of_cell? W _ (hcell 0 ah)
   rwa [dM] at this
  intro j u hu
  have hj:j<zs.length:=by
   have:=(List.getElem?_eq_some_iff.1 hu).1
   simpa[aj] using this
  rw[rJ _ j hj] at hu
  rw[hcell j ah,<-hu,<-hz]
  exact acD
end
theorem fJ(w:World)(x:Int)(h1: -9223372036854775808<=x)(h2:x<=9223372036854775807):
 Calls Tryz.prog 32 #[.int .i64 x] w (Vw w x):=by
 go_enter Tryz.func32,Tryz.ntmps32
 go_wp2_with(go_at_call 81;refine(kP w x h1 h2).mono ?_;rintro e w1 ⟨b,rfl,hb,hI,hB⟩)
 go_ret
 exact⟨b,rfl,hb,hI,hB⟩
theorem adD(m:Nat)(h:m<=64):Sm (((2:Int)^m)).natAbs:=by
 apply aW
 rw[Int.natAbs_pow]
 have:(2:Nat)^m<=2^64:=Nat.pow_le_pow_right aB h
 show(2:Nat)^m<_
 omega
def VI(w:World)(lo hi z:Int)(e:Ending)(w':World):Prop:=e=.returned (.tuple #[.int .i64 (lim lo hi z),.bool (qF lo hi z)])/\Below w.heap.size w w'
theorem adE(w:World)(c:Nat)(z:Int)(m:Nat)(hc:IntAt w c z)(hs:Sm z.natAbs)(hm:m<=63)(lo hi:Int)(hlo:lo= -(2^m))(hhi:hi=2^m-1):
 Calls Tryz.prog 169 #[.pointer (some ⟨c,0,none⟩),.int .u64 ((m+1:Nat):Int)] w (VI w lo hi z):=by
 have HC:=hid hc
 have HS:=hid hs
 have hp1:(1:Int)<=2^m:=by have h:(0:Int)<2^m:=Int.pow_pos aB;omega
 have hp2:(2:Int)^m<=9223372036854775808:=by
  have:(2:Nat)^m<=2^63:=Nat.pow_le_pow_right aB hm
  have h2:((2^m:Nat):Int)=2^m:=az
  omega
 have SP:=hid (adD m ah)
 obtain⟨P,hP⟩:∃P,P=(2:Int)^m:=⟨_,rfl⟩
 rw[<-hP] at hp1 hp2 SP hlo hhi
 have HP:=hid hP
 have HLO:=hid hlo
 have HHI:=hid hhi
 clear hc hs hP
 have S1:=hid (aW (n:=(1:Int).natAbs) aB)
 have SPm:=hid (aW (n:=(-P).natAbs) ah)
 have hlt:=HC.out.lt
 clear hlo hhi
 go_enter Tryz.func169,Tryz.ntmps169
 go_wp2_with fail
 refine(kP _ 1 ah ah).mono ?_
 rintro e w1 ⟨b1,rfl,hb1,hI1,hB1⟩
 have A0:=hid (IntBlk.below (IntBlk.new w (.bool false) (.slice none 0 0)) hB1 (al0z _))
 have C1:=hid ((HC.out.below ((aA _ _).alloc (al0z _) _) (al0z _)).below hB1 (al0z _))
 have I1:=hid hI1
 have B1:=hid (((aA _ w).alloc (al0z _) _).trans (hB1.mono az))
 have hs1:=B1.out.size
 simp at hb1
 have hne1:b1≠w.heap.size:=ah
 clear hI1 hB1
 go_wp2_with fail
 refine(zy _ w.heap.size b1 1 m A0.out I1.out S1.out ah).mono ?_
 rintro e w2 ⟨rfl,hI2,hG2⟩
 rw[Int.one_mul,<-HP.out] at hI2
 have C2:=hid (C1.out.kept A0.out hG2 ah)
 have I2:=hid hI2
 have B2:=hid (bK B1.out hG2 (al0z _))
 have hs2:=B2.out.size
 have hs2':=I2.out.lt
 clear hI2 hG2 I1 C1
 go_wp2_with fail
 refine(adt _ w2.heap.size w.heap.size P (IntBlk.new w2 _ _) (I2.out.below ((aA _ _).alloc (al0z _) _) (al0z _)) SP.out).mono ?_
 rintro e w3 ⟨rfl,hI3,hG3⟩
 have L3:=hid hI3
 have C3:=hid ((C2.out.below ((aA _ _).alloc (al0z _) _) (al0z _)).kept (IntBlk.new w2 (.bool false) (.slice none 0 0)) hG3 ah)
 have H3:=hid ((I2.out.below ((aA _ _).alloc (al0z _) _) (al0z _)).kept (IntBlk.new w2 (.bool false) (.slice none 0 0)) hG3 ah)
 have B3:=hid (bK (B2.out.alloc ah _) hG3 ah)
 have hs3:=L3.out.lt
 clear hI3 hG3 I2 C2
 go_wp2_with fail
 refine(kP _ 1 ah ah).mono ?_
 rintro e w4 ⟨b4,rfl,hb4,hI4,hB4⟩
 have C4:=hid (C3.out.below hB4 (al0z _))
 have L4:=hid (L3.out.below hB4 (al0z _))
 have H4:=hid (H3.out.below hB4 (al0z _))
 have I4:=hid hI4
 have B4:=hid (B3.out.trans (hB4.mono B3.out.size))
 have hs4:=B4.out.size
 clear hI4 hB4 C3 L3 H3
 go_wp2_with fail
 refine(VD _ w.heap.size w.heap.size b4 P 1 H4.out.blk H4.out I4.out SP.out S1.out).mono ?_
 rintro e w5 ⟨rfl,hI5,hG5⟩
 have H5:=hid hI5
 have C5:=hid (C4.out.kept H4.out.blk hG5 ah)
 have L5:=hid (L4.out.kept H4.out.blk hG5 ah)
 have B5:=hid (bK B4.out hG5 (al0z _))
 clear hI5 hG5 C4 L4 H4 I4
 have SH:=hid (aW (n:=(P-1).natAbs) ah)
 have K1:=hid (xO _ c w2.heap.size z (-P) C5.out L5.out HS.out SPm.out)
 have FIN:=hid (fun(n:Nat) (r:Int) (b:Bool) (hr:r=lim lo hi z) (hb:b=qF lo hi z)=>show VI w lo hi z (.returned (.tuple #[.int .i64 r,.bool b])) (w5.drewN n) from⟨by rw[hr,hb],B5.out.trans ⟨rfl,rfl,rfl,al0z _,fun _ _=>rfl⟩⟩)
 by_cases hlow:z< -P
 ·have hc1:gU z (-P)= -1:=by unfold gU;rw[if_pos hlow]
  rw[hc1] at K1
  have e1:=hid (show(-P)=lim lo hi z/\true=qF lo hi z by rw[HLO.out,HHI.out];unfold lim qF;rw[if_pos hlow,if_pos hlow];exact⟨rfl,rfl⟩)
  clear hc1
  go_wp2_with(first
   |(go_at_call 195;refine K1.out.mono ?_;rintro e w6 ⟨rfl,k,rfl⟩)
   |(go_at_call 75;refine(oP _ _ (-P) (L5.out.drewN k) ah ah).mono ?_;rintro e w6 ⟨rfl,rfl⟩))
  go_ret2
  exact FIN.out _ _ _ e1.out.1 e1.out.2
 ·have hc1:0<=gU z (-P):=by unfold gU;rw[if_neg hlow];split<;>omega
  have K2:=hid (fun n=>xO (w5.drewN n) c w.heap.size z (P-1) (C5.out.drewN n) (H5.out.drewN n) HS.out SH.out)
  by_cases hhigh:P-1<z
  ·have hc2:gU z (P-1)=1:=by unfold gU;rw[if_neg ah,if_pos hhigh]
   rw[hc2] at K2
   have e1:=hid (show(P-1)=lim lo hi z/\true=qF lo hi z by rw[HLO.out,HHI.out];unfold lim qF;rw[if_neg hlow,if_pos hhigh,if_neg hlow,if_pos hhigh];exact⟨rfl,rfl⟩)
   clear hc2
   go_wp2_with fail
   refine K1.out.mono ?_
   rintro e w6 ⟨rfl,k,rfl⟩
   go_wp2_with fail
   refine(K2.out _).mono ?_
   rintro e w6 ⟨rfl,k2,rfl⟩
   rw[World.drewN_drewN]
   go_wp2_with(go_at_call 75;refine(oP _ _ (P-1) (H5.out.drewN _) ah ah).mono ?_;rintro e w6 ⟨rfl,rfl⟩)
   go_ret2
   exact FIN.out _ _ _ e1.out.1 e1.out.2
  have hc2: ¬0<gU z (P-1):=by
   unfold gU
   repeat' split
   all_goals omega
  have e1:=hid (show z=lim lo hi z/\false=qF lo hi z by rw[HLO.out,HHI.out];unfold lim qF;rw[if_neg hlow,if_neg hhigh,if_neg hlow,if_neg hhigh];exact⟨rfl,rfl⟩)
  go_wp2_with fail
  refine K1.out.mono ?_
  rintro e w6 ⟨rfl,k,rfl⟩
  go_wp2_with fail
  refine(K2.out _).mono ?_
  rintro e w6 ⟨rfl,k2,rfl⟩
  rw[World.drewN_drewN]
  go_wp2_with(go_at_call 75;refine(oP _ _ z (C5.out.drewN _) ah ah).mono ?_;rintro e w6 ⟨rfl,rfl⟩)
  go_ret2
  exact FIN.out _ _ _ e1.out.1 e1.out.2
def qG(w:World)(n:Int)(e:Ending)(w':World):Prop:=e=.returned (.int .i64 n)/\Below w.heap.size w w'
theorem qH(x:Int)(w:World)(h1: -9223372036854775808<=x)(h2:x<=9223372036854775807):
 Calls Tryz.prog 109 #[.int .i64 x] w (qG w (s16 x)):=by
 go_enter Tryz.func109,Tryz.ntmps109
 go_wp2_with(first
  |(go_at_call 32;refine(fJ w x h1 h2).mono ?_;rintro e w1 ⟨b,rfl,hb,hI,hB⟩;have q1:=hid hI;have q2:=hid hB;clear hI hB)
  |(go_at_call 169;refine(adE _ b x 15 q1.out (aW ah) ah (-32768) 32767 aB aB).mono ?_;rintro e w2 ⟨rfl,hB⟩;have q3:=hid hB;clear hB))
 go_ret
 exact⟨rfl,q2.out.trans (q3.out.mono q2.out.size)⟩
theorem VJ(n:Nat):(0:Int)<2^n:=Int.pow_pos aB
theorem adF{a lo p:Int}(hp:0<p)(h0:lo<=0)(h:lo<=a):lo<=a/p:=by
 rw[Int.le_ediv_iff_mul_le hp]
 have h1:=Int.mul_le_mul_of_nonneg_left (show(1:Int)<=p from ah) (show 0<= -lo from ah)
 rw[Int.neg_mul,Int.neg_mul,Int.mul_one] at h1
 omega
theorem adG{a hi p:Int}(hp:0<p)(h0:0<=hi)(h:a<=hi):a/p<=hi:=by
 have h1:=Int.ediv_le_ediv hp h
 have h2:=Int.ediv_le_self p (a:=hi) h0
 omega
theorem VK(a:Int)(n:Nat)(w:World)(h1: -9223372036854775808<=a)(h2:a<=9223372036854775807)(hn:n<=10000):
 Calls Tryz.prog 110 #[.int .i64 a,.int .u64 (n:Nat)] w (qG w (a/2^n)):=by
 have hq1:=adF (VJ n) (lo:= -9223372036854775808) ah h1
 have hq2:=adG (VJ n) (hi:=9223372036854775807) ah h2
 go_enter Tryz.func110,Tryz.ntmps110
 go_wp2_with fail
 refine(fJ _ a h1 h2).mono ?_
 rintro e w1 ⟨b,rfl,hb,hI,hB⟩
 have A1:=hid (IntBlk.below (IntBlk.new w (.bool false) (.slice none 0 0)) hB (al0z _))
 have I1:=hid hI
 have B1:=hid (((aA _ w).alloc (al0z _) _).trans (hB.mono az))
 clear hI hB
 go_wp2_with fail
 refine(FT _ w.heap.size b a n A1.out I1.out (aW ah) hn).mono ?_
 rintro e w2 ⟨rfl,hI,hG⟩
 have I2:=hid hI
 have B2:=hid (bK B1.out hG (al0z _))
 clear hI hG
 go_wp2_with fail
 refine(oP _ w.heap.size (a/2^n) I2.out hq1 hq2).mono ?_
 rintro e w3 ⟨rfl,rfl⟩
 go_wp2
 go_ret
 exact⟨rfl,B2.out⟩
theorem zA(a:Int)(n:Nat)(p q:Int)(w:World)(h1: -9223372036854775808<=a)(h2:a<=9223372036854775807)(hn:n<=10000)(hp:(2:Int)^n=p)(hq:a/p=q):
 Calls Tryz.prog 110 #[.int .i64 a,.int .u64 (n:Nat)] w (qG w q):=by
 have h:=VK a n w h1 h2 hn
 rw[hp,hq] at h
 exact h
def Cj(w:World)(q r:Nat)(e:Ending)(w':World):Prop:=∃v1 v2,e=.returned (.tuple #[v1,v2])/\Nm w' v1 q/\Nm w' v2 r/\Below w.heap.size w w'
theorem Nm.drewN{w:World}{v:Value}{n:Nat}(h:Nm w v n)(k:Nat):Nm (w.drewN k) v n:=h.below (B:=w.heap.size) ⟨rfl,rfl,rfl,al0z _,fun _ _=>rfl⟩ (al0z _)
set_option maxRecDepth 100000 in
theorem adH(w:World)(va vb:Value)(a b:Nat)(ha:Nm w va a)(hb:Nm w vb b)(hb0:b≠0)(hlim:a<18446744073709551616)(sb:Sm b):
 Calls Tryz.prog 196 #[va,vb] w (Cj w (a/b) (a%b)):=by
 have sa:Sm a:=aW ah
 have HA:=hid ha
 have HB:=hid hb
 obtain⟨ao,an,ac,ua,hva,hra,hta,hna,hla⟩:=ha.len sa
 obtain⟨bo,bn,bc,ub,hvb,hrb,htb,hnb,hlb⟩:=hb.len sb
 have han:an<=2:=by
  rw[<-hra.len];exact zt hta (n:=2) (by rw[hna];simpa using hlim)
 have hbn:bn≠0:=by
  intro h;subst h
  have:ub=[]:=List.length_eq_zero_iff.1 hrb.len
  subst this;exact hb0 (by rw[<-hnb];rfl)
 have hbz:((bn:Int)==0)=false:=EH
 have K:=hid (zu w va vb a b ha hb sa sb)
 have T:=hid (fun k=>Pn (w.drewN k) va a (ha.drewN k) sa)
 by_cases hlt:a<b
 ·have hc:fU a b<0:=by rw[Ce hlt];decide
  have FIN:=hid (fun(k:Nat) (v:Value) (w1:World) (hnm:Nm w1 v a) (hbel:Below (w.drewN k).heap.size (w.drewN k) w1)=>
   show Cj w (a/b) (a%b) (.returned (.tuple #[.slice none 0 0,v])) w1 from
    ⟨_,_,rfl,by rw[Nat.div_eq_of_lt hlt];exact Nm.nil w1,by rw[Nat.mod_eq_of_lt hlt];exact hnm,Below.trans (b:=w.drewN k) ⟨rfl,rfl,rfl,al0z _,fun _ _=>rfl⟩ hbel⟩)
  clear ha hb hra hta hna hrb htb hnb sa sb hlt hla hlb hb0 hlim
  subst hva hvb
  go_enter Tryz.func196,Tryz.ntmps196
  go_wp2_with(first
   |(go_at_call 152;refine K.out.mono ?_;rintro e w1 ⟨rfl,k,rfl⟩)
   |(go_at_call 204;refine(T.out _).mono ?_;rintro e w1 ⟨⟨v1,rfl,hnm⟩,hbel⟩;have q1:=hid hnm;have q2:=hid hbel;clear hnm hbel))
  go_ret2
  exact FIN.out _ _ _ q1.out q2.out
 ·have hc:0<=fU a b:=by
   unfold fU
   repeat' split
   all_goals omega
  have hblim:b<18446744073709551616:=ah
  have PA:=hid (fun k=>Vs (w.drewN k) va a (ha.drewN k) hlim)
  have PB:=hid (fun k=>Vs (w.drewN k) vb b (hb.drewN k) hblim)
  have hbne: ¬(b:Int)=0:=ah
  have hq0:(0:Int)<=(a:Int)/b:=Int.ediv_nonneg ah ah
  have hq1:(a:Int)/b<=18446744073709551615:=by
   have:=Int.ediv_le_self (b:Int) (a:=(a:Int)) ah;omega
  have hr0:(0:Int)<=(a:Int)%b:=Int.emod_nonneg _ ah
  have hr1:(a:Int)%b<=18446744073709551615:=by
   have:=Int.emod_lt_of_pos (a:Int) (b:=(b:Int)) ah;omega
  have hqt:((a:Int)/b).toNat=a/b:=by rw[show((a:Int)/b)=((a/b:Nat):Int) from az];exact Int.toNat_natCast _
  have hrt:((a:Int)%b).toNat=a%b:=by rw[show((a:Int)%b)=((a%b:Nat):Int) from az];exact Int.toNat_natCast _
  have HQT:=hid hqt
  have HRT:=hid hrt
  clear ha hb hra hta hna hrb htb hnb sa sb hlt hla hlb hb0 hqt hrt
  subst hva hvb
  go_enter Tryz.func196,Tryz.ntmps196
  go_wp2_with fail
  refine K.out.mono ?_
  rintro e w1 ⟨rfl,k,rfl⟩
  go_wp2_with fail
  refine(PA.out _).mono ?_
  rintro e w1 ⟨rfl,rfl⟩
  go_wp2_with fail
  refine(PB.out _).mono ?_
  rintro e w1 ⟨rfl,rfl⟩
  go_wp2_with fail
  have hw1:IntKind.u64.wrap ((a:Int)/b)=(a:Int)/b:=by
   rw[FN];omega
  have hw2:(a:Int).tmod b=(a:Int)%b:=Int.tmod_eq_emod_of_nonneg ah
  have hw3:(a:Int).tdiv b=(a:Int)/b:=Int.tdiv_eq_ediv_of_nonneg ah
  have FIN:=hid (fun(w0 w1 w2:World) (v1 v2:Value) (h0:Below w.heap.size w w0) (h1:Nm w1 v1 ((a:Int)/b).toNat) (h2:Below w0.heap.size w0 w1) (h3:Nm w2 v2 ((a:Int)%b).toNat) (h4:Below w1.heap.size w1 w2)=>
   show Cj w (a/b) (a%b) (.returned (.tuple #[v1,v2])) w2 from
    ⟨_,_,rfl,by rw[HQT.out] at h1;exact h1.below h4 (al0z _),by rw[HRT.out] at h3;exact h3,(h0.trans (h2.mono h0.size)).trans (h4.mono (gJ h0.size h2.size))⟩)
  have tok1:True:=trivial
  go_region_with (first
   |(go_at_call 146;have _t:=tok1;refine(FH _ _ (by first|exact hq0|exact hr0) (by first|exact hq1|exact hr1)).mono ?_;rintro e w1 ⟨⟨v1,rfl,hnm⟩,hbel⟩;have q1:=hid hnm;have q2:=hid hbel;clear hnm hbel tok1 _t)
   |(go_at_call 146;refine(FH _ _ (by first|exact hq0|exact hr0) (by first|exact hq1|exact hr1)).mono ?_;rintro e w2 ⟨⟨v2,rfl,hnm⟩,hbel⟩;have q3:=hid hnm;have q4:=hid hbel;clear hnm hbel))
  all_goals
   go_wp2
   go_ret2
   exact FIN.out ((w.drewN k).drew) w1 w2 _ _ ⟨rfl,rfl,rfl,al0z _,fun _ _=>rfl⟩ q1.out q2.out q3.out q4.out
def adJ(w:World)(q r:Nat)(e:Ending)(w':World):Prop:=∃v,e=.returned (.tuple #[v,.int .u32 (r:Nat)])/\Nm w' v q/\Below w.heap.size w w'
structure SmInv(w wr:World)(an:Nat)(ua:List Nat)(d k r:Nat)(rs:List Nat):Prop where
 len:rs.length=an
 ok:wok rs
 lt:r<d
 val:wv (ua.drop k)=d*wv (rs.drop k)+r
 own:wr.ownsRow w.heap.size 172 1 (.slice (some ⟨w.heap.size,0,none⟩) an an) an (W32 rs)
 bel:Below w.heap.size w wr
theorem adK(l:List Nat)(k x:Nat)(h:k<l.length):(l.set k x).drop k=x::l.drop (k+1):=by
 rw[List.set_eq_take_append_cons_drop,if_pos h,List.drop_append,List.drop_of_length_le vg,fL,Nat.min_eq_left ah]
 simp
theorem SmInv.step{w wr:World}{an:Nat}{ua:List Nat}{d k r:Nat}{rs:List Nat}(h:SmInv w wr an ua d (k+1) r rs)(hk:k<an)(hl:ua.length=an)(hd:d<4294967296)(hxa:ua.getD k 0<4294967296):
 SmInv w (wr.setCell ⟨w.heap.size,k,none⟩ (.int .u32 (((r*4294967296+ua.getD k 0)/d:Nat):Int))) an ua d k ((r*4294967296+ua.getD k 0)%d) (rs.set k ((r*4294967296+ua.getD k 0)/d))/\(r*4294967296+ua.getD k 0)/d<4294967296:=by
 have hrl:=h.len
 have hlt:=h.lt
 have hq:(r*4294967296+ua.getD k 0)/d<4294967296:=by
  rw[Nat.div_lt_iff_lt_mul ah]
  have:=Nat.mul_le_mul_right 4294967296 (show r+1<=d from ah)
  rw[Nat.mul_comm 4294967296 d]
  omega
 refine⟨⟨NV,vG h.ok k hq,Nat.mod_lt _ ah,?_,?_,h.bel.setCell (al0z _) _⟩,hq⟩
 ·rw[adK _ _ _ ah,Cc ua k ah,wv,wv,h.val]
  have h1:=Nat.div_add_mod (r*4294967296+ua.getD k 0) d
  generalize ua.getD k 0=x at*
  generalize wv (rs.drop (k+1))=W at*
  generalize (r*4294967296+x)/d=Q at*
  generalize (r*4294967296+x)%d=R at*
  rw[Nat.mul_add,Nat.mul_add]
  have h2:4294967296*(d*W)=d*(4294967296*W):=by rw[<-Nat.mul_assoc,Nat.mul_comm 4294967296 d,Nat.mul_assoc]
  rw[h2]
  omega
 ·have:=(h.own.stored k (.int .u32 (((r*4294967296+ua.getD k 0)/d:Nat):Int))).1
  rwa [vK] at this
theorem adL{r x:Nat}(hr:r<4294967296)(hx:x<4294967296):bits BinOp.or IntKind.u64 ((r:Int)*4294967296) (x:Int)=((r*4294967296+x:Nat):Int):=by
 rw[show((r:Int)*4294967296)=((r*4294967296:Nat):Int) from ah,u64_or_nat _ _ ah ah,
  nat_join 32 _ _ ah ah]
set_option maxRecDepth 100000 in
theorem adM(w:World)(ao:Option Addr)(an ac:Nat)(ua:List Nat)(d:Nat)(ha:Rd w ao an ac ua)(hn:an<=64)(h0:0<d)(hd:d<4294967296):
 Calls Tryz.prog 206 #[.slice ao an ac,.int .u32 (d:Nat)] w (adJ w (wv ua/d) (wv ua%d)):=by
 obtain⟨i0,hi,hz0,hz1,hz2⟩:=info_parts vH
 have HA:=hid ha
 have HD:=hid (And.intro h0 hd)
 have hdn: ¬(d:Int)=0:=ah
 have hd0:(0:Int)<d:=ah
 clear ha h0
 go_enter Tryz.func206,Tryz.ntmps206
 go_wp2_with(first
  |(at_make;refine wpList_make_full _ rfl _ _ 78 rfl w.heap.size 172 i0 (.int .u32 0) 1 Tryz.underlying78 hi hz0 hz1 _ _ _ _ an rfl rfl az az uw iT (al0z _) ?_;intro w1 hown hgrow)
  )
 rw[xI] at hown
 have inv0:SmInv w w1 an ua d an 0 (List.replicate an 0):=⟨az,xG _,HD.out.1,by rw[List.drop_of_length_le Bo,List.drop_of_length_le az];simp[wv],hown,(aA _ _).grown hgrow (al0z _) (fun k h=>qA)⟩
 clear hown hgrow
 go_loopw[7,8] (fun rv iv wr=> ∃(k r:Nat) (rs:List Nat),k<=an/\iv=.int .i64 ((k:Int)-1)/\rv=.int .u64 r/\r<4294967296/\SmInv w wr an ua d k r rs) (fun _ iv _=>(intOf iv+1).toNat)
 case atStart=>exact⟨an,0,_,ah,by first|rfl|simp,rfl,ah,inv0⟩
 case round=>
  clear inv0 w1
  obtain⟨k,r,rs,hk,rfl,rfl,hr,inv⟩:=hrel
  by_cases hka:0<k
  ·obtain⟨j,rfl⟩:∃j,k=j+1:=⟨k-1,ah⟩
   rw[show(((j+1:Nat):Int)-1)=(j:Int) from ah]
   have hcr:∃v,wr.cell? ⟨w.heap.size,j,none⟩=some v:=by
    rw[inv.own.cellAt j ah]
    exact⟨_,jO (by simp[W32,inv.len];omega)⟩
   have hfr:=inv.own.frozenAt j
   obtain⟨v0,hcr⟩:=hcr
   have INV:=hid inv
   clear inv
   obtain⟨g,off,rfl⟩:=HA.out.addr ah
   have hca:=(HA.out.below INV.out.bel (al0z _)).cell j ah
   have hra:=kO HA.out.ok j
   have ST:=hid (INV.out.step ah HA.out.len hd hra)
   generalize hxa:ua.getD j 0=xa at hca hra ST
   clear hxa
   have eor:=adL hr hra
   obtain⟨X,hX⟩:∃X,X=r*4294967296+xa:=⟨_,rfl⟩
   rw[<-hX] at ST eor
   have hX1:X<18446744073709551616:=ah
   have eq1:(X:Int)/d=((X/d:Nat):Int):=az
   have eq2:(X:Int)%d=((X%d:Nat):Int):=az
   have hQ:=ST.out.2
   have hR:X%d<4294967296:=by have:=Nat.mod_lt X HD.out.1;omega
   have HX:=hid hX
   clear hX hka
   generalize X/d=Q at*
   generalize X%d=R at*
   go_wp2
   go_roundw
   case rel=>exact⟨j,R,_,ah,by first|rfl|simp,by first|rfl|(rw[eq2])|(simp[eq2]),hR,ST.out.1⟩
   case measure=>simp[intOf]<;>omega
  obtain rfl:k=0:=ah
  have INV:=hid inv
  have hval:=inv.val
  have hlt:=inv.lt
  simp only[List.drop_zero] at hval
  have e1:wv ua/d=wv rs:=by
   rw[hval]
   rw[Nat.mul_add_div ah,Nat.div_eq_of_lt hlt,Nat.add_zero]
  have e2:wv ua%d=r:=by
   rw[hval,Nat.mul_add_mod,Nat.mod_eq_of_lt hlt]
  have E:=hid (And.intro e1 e2)
  clear inv hval hlt e1 e2
  go_wp2_with(go_at_call 151;refine(vI _ w.heap.size _ an rs INV.out.own INV.out.ok).mono ?_;rintro e w' ⟨⟨v',rfl,hnm⟩,rfl⟩)
  go_ret2
  exact⟨v',by rw[E.out.2];first|rfl|simp,by rw[E.out.1];exact hnm,INV.out.bel⟩
theorem Nm.one_word(w:World)(r:Nat)(h:r<4294967296):∀c,(w.alloc (.cells #[.int .u32 (r:Nat)] 172)).ownsRow c 172 1 (.slice (some ⟨w.heap.size,0,none⟩) 1 1) 1 (W32 [r])\/¬c<=w.heap.size:=fun c=>by
 by_cases hc:c<=w.heap.size
 ·exact .inl (World.ownsRow_lit (base:=c) (e:=172) (size:=1) w #[.int .u32 (r:Nat)] 1 hc iT rfl)
 exact .inr hc
set_option maxRecDepth 100000 in
theorem div_one(w:World)(va vb:Value)(a b:Nat)(ha:Nm w va a)(hb:Nm w vb b)(hb0:b≠0)(hlim: ¬a<18446744073709551616)(hb1:b<4294967296)(sa:Sm a):
 Calls Tryz.prog 196 #[va,vb] w (Cj w (a/b) (a%b)):=by
 have sb:Sm b:=aW ah
 have HA:=hid ha
 have HB:=hid hb
 obtain⟨ao,an,ac,ua,hva,hra,hta,hna,hla⟩:=ha.len sa
 obtain⟨bo,bn,bc,ub,hvb,hrb,htb,hnb,hlb⟩:=hb.len sb
 have han:2<an:=by
  have h1:=uA hra.ok
  rw[hra.len,hna] at h1
  by_cases hc:2<an
  ·exact hc
  have h2:(4294967296:Nat)^an<=4294967296^2:=Nat.pow_le_pow_right aB ah
  omega
 have hbn1:bn<=1:=by rw[<-hrb.len];exact zt htb (n:=1) (by rw[hnb];simpa using hb1)
 obtain⟨y,rfl⟩:∃y,ub=[y]:=by
  match ub,hrb.len,hnb with
  |[],h,hn=>exact absurd hn.symm hb0
  |[y],_,_=>exact⟨y,rfl⟩
  |y::z::l,h,_=>simp at h;omega
 obtain rfl:bn=1:=by simpa using hrb.len.symm
 obtain rfl:y=b:=by simpa[wv] using hnb
 obtain⟨g,off,rfl⟩:=hrb.addr ah
 have hcb:=hrb.cell 0 ah
 simp at hcb
 have K:=hid (zu w va vb a y ha hb sa sb)
 have hc:0<=fU a y:=by
  unfold fU
  repeat' split
  all_goals omega
 have SM:=hid (fun k=>adM (w.drewN k) ao an ac ua y (hra.below (iJ w k) (al0z _)) ah ah hb1)
 have hrr:a%y<4294967296:=by have:=Nat.mod_lt a (show 0<y from ah);omega
 rw[hna] at SM
 have HR:=hid hrr
 have HB0:=hid hb0
 clear ha hb hra hta hna hrb htb hnb sa sb hla hlb hb0 hlim hrr hbn1
 subst hva hvb
 go_enter Tryz.func196,Tryz.ntmps196
 go_wp2_with fail
 refine K.out.mono ?_
 rintro e w1 ⟨rfl,k,rfl⟩
 go_wp2_with fail
 refine(SM.out k).mono ?_
 rintro e w1 ⟨v1,rfl,hn1,hB1⟩
 have N1:=hid hn1
 have B1:=hid (show Below w.heap.size w w1 from Below.trans (b:=w.drewN k) ⟨rfl,rfl,rfl,al0z _,fun _ _=>rfl⟩ hB1)
 have hO:=(Nm.one_word w1 (a%y) HR.out w1.heap.size).resolve_right az
 have OW:=hid hO
 clear hn1 hB1 hO
 go_wp2_with fail
 refine(vI _ w1.heap.size _ 1 [a%y] OW.out (by intro x hx;simp at hx;subst hx;exact HR.out)).mono ?_
 rintro e w2 ⟨⟨v2,rfl,hn2⟩,rfl⟩
 have N2:=hid hn2
 clear hn2
 go_wp2
 go_ret2
 refine⟨_,_,rfl,N1.out.below ((aA _ _).alloc (al0z _) _) (al0z _),?_,B1.out.trans ((((aA _ w1).alloc (al0z _) _)).mono B1.out.size)⟩
 have:=N2.out
 simpa[wv] using this
theorem adN(w:World)(va vb:Value)(a b:Nat)(ha:Nm w va a)(hb:Nm w vb b)(hb0:b≠0)(hlim:a<18446744073709551616\/b<4294967296)(sa:Sm a)(sb:Sm b):
 Calls Tryz.prog 196 #[va,vb] w (Cj w (a/b) (a%b)):=by
 by_cases h:a<18446744073709551616
 ·exact adH w va vb a b ha hb hb0 h sb
 ·exact div_one w va vb a b ha hb hb0 h ah sa
def VM(w:World)(b m:Nat)(q r:Int)(e:Ending)(w':World):Prop:=
 e=.returned (.tuple #[.pointer (some ⟨b,0,none⟩),.pointer (some ⟨m,0,none⟩)])/\IntAt w' b q/\IntAt w' m r/\∃w1,w.grownBy w1 (some b)/\w1.grownBy w' (some m)
theorem adO(x y:Int):sgn (!(decide (x<0)==decide (y<0))) (x.natAbs/y.natAbs)=x.tdiv y:=by
 unfold sgn
 rcases Int.natAbs_eq x with hx|hx<;>rcases Int.natAbs_eq y with hy|hy
 all_goals
  generalize x.natAbs=a at*
  generalize y.natAbs=b at*
  subst hx hy
  try simp only[Int.neg_tdiv,Int.tdiv_neg,Int.neg_neg]
  have e:((a:Int).tdiv b)=((a/b:Nat):Int):=by rw[Int.tdiv_eq_ediv_of_nonneg ah];simp
  rw[e]
  by_cases ha:a=0
  ·subst ha;simp
  ·by_cases hb:b=0
   ·subst hb;simp
   simp<;>(try omega)
   try (split<;>omega)
theorem adP(x y:Int):sgn (decide (x<0)) (x.natAbs%y.natAbs)=x.tmod y:=by
 unfold sgn
 rcases Int.natAbs_eq x with hx|hx<;>rcases Int.natAbs_eq y with hy|hy
 all_goals
  generalize x.natAbs=a at*
  generalize y.natAbs=b at*
  subst hx hy
  try simp only[Int.neg_tmod,Int.tmod_neg,Int.neg_neg]
  have e:((a:Int).tmod b)=((a%b:Nat):Int):=by rw[Int.tmod_eq_emod_of_nonneg ah];simp
  rw[e]
  by_cases ha:a=0
  ·subst ha;simp
  ·simp<;>(try omega)
   try (split<;>omega)
theorem VN(w:World)(b c d m:Nat)(x y:Int)(hb:IntBlk w b)(hc:IntAt w c x)(hd:IntAt w d y)(hm:IntBlk w m)(hbm:b≠m)
 (hx:x.natAbs<18446744073709551616\/y.natAbs<4294967296) (hy:y≠0) (sx:Sm x.natAbs) (sy:Sm y.natAbs):
 Calls Tryz.prog 170 #[.pointer (some ⟨b,0,none⟩),.pointer (some ⟨c,0,none⟩),.pointer (some ⟨d,0,none⟩),.pointer (some ⟨m,0,none⟩)] w (VM w b m (x.tdiv y) (x.tmod y)):=by
 obtain⟨vx,h0,h1,hvx⟩:=hc.cells
 obtain⟨vy,k0,k1,hvy⟩:=hd.cells
 obtain⟨s,hs⟩:∃s,s=decide (x<0):=⟨_,rfl⟩
 rw[<-hs] at h0
 obtain⟨t,ht⟩:∃t,t=decide (y<0):=⟨_,rfl⟩
 rw[<-ht] at k0
 have D0:=hid (fun n=>adN (w.drewN n) vx vy x.natAbs y.natAbs (hvx.drewN n) (hvy.drewN n) ah hx sx sy)
 have FIN:=hid (fun(n:Nat) (w1 w2 w3:World) (v2:Value) (_:Nm w1 v2 (x.natAbs%y.natAbs)) (hB:Below (w.drewN n).heap.size (w.drewN n) w1) (hI:IntAt w2 b (sgn (!(s==t)) (x.natAbs/y.natAbs))) (hG:w1.grownBy w2 (some b)) (hJ:IntAt w3 m (sgn s (x.natAbs%y.natAbs))) (hK:w2.grownBy w3 (some m)) (hbl:IntBlk w2 m)=>
  show VM w b m (x.tdiv y) (x.tmod y) (.returned (.tuple #[.pointer (some ⟨b,0,none⟩),.pointer (some ⟨m,0,none⟩)])) w3 from
   ⟨rfl,by subst hs ht;rw[adO] at hI;exact hI.kept hbl hK hbm,by subst hs ht;rw[adP] at hJ;exact hJ,w2,jQ (kG (show Below w.heap.size w w1 from Below.trans (b:=w.drewN n) ⟨rfl,rfl,rfl,al0z _,fun _ _=>rfl⟩ hB) (al0z _) _) hG,hK⟩)
 have HB:=hid hb
 have HM:=hid hm
 have HBM:=hid hbm
 have hlc:=hc.lt
 have hld:=hd.lt
 clear hvx hvy hc hd hs ht hb hm hbm hy hx sx
 go_enter Tryz.func170,Tryz.ntmps170
 go_wp2
 go_quiet (fail)
 go_wp2_with fail
 go_region_with (go_at_call 196;refine(D0.out _).mono ?_;rintro e w1 ⟨v1,v2,rfl,hn1,hn2,hB⟩;have q1:=hid hn1;have q2:=hid hn2;have q3:=hid hB;clear hn1 hn2 hB)
 all_goals
  have HW:=hid (show Below w.heap.size w w1 from Below.trans (b:=w.drewN _) ⟨rfl,rfl,rfl,al0z _,fun _ _=>rfl⟩ q3.out)
  go_wp2_with fail
  refine(oO _ b _ v1 _ (HB.out.below HW.out (al0z _)) q1.out).mono ?_
  rintro e w2 ⟨rfl,hI,hG⟩
  have q4:=hid hI
  have q5:=hid hG
  have q6:=hid (IntBlk.kept (HM.out.below HW.out (al0z _)) hG (fun h=>HBM.out h.symm))
  have q7:=hid (q2.out.kept (HB.out.below HW.out (al0z _)) hG)
  clear hI hG
  go_wp2_with fail
  refine(oO _ m _ v2 _ q6.out q7.out).mono ?_
  rintro e w3 ⟨rfl,hJ,hK⟩
  have q8:=hid hJ
  have q9:=hid hK
  clear hJ hK
  go_wp2
  go_ret2
  exact FIN.out _ _ _ _ _ q2.out q3.out q4.out q5.out q8.out q9.out q6.out
theorem VO{x y:Int}(hy:0<y)(h: ¬x.tmod y<0):x.tdiv y=x/y:=by
 have h1:=Int.mul_tdiv_add_tmod x y
 have h2:x.tmod y<y:=Int.tmod_lt_of_pos x hy
 symm
 rw[Int.ediv_eq_iff_of_pos hy]
 generalize x.tdiv y=q at*
 generalize x.tmod y=r at*
 have e1:q*y=y*q:=Int.mul_comm _ _
 have e2:(q+1)*y=y*q+y:=by rw[Int.add_mul,Int.one_mul,Int.mul_comm]
 first
  |(rw[e1,e2];omega)
  |(constructor<;>(first|rw[e1]|rw[e2]|skip)<;>omega)
theorem VP{x y:Int}(hy:0<y)(h:x.tmod y<0):x.tdiv y-1=x/y:=by
 have h1:=Int.mul_tdiv_add_tmod x y
 have h2: -y<x.tmod y:=Int.lt_tmod_of_pos x hy
 symm
 rw[Int.ediv_eq_iff_of_pos hy]
 generalize x.tdiv y=q at*
 generalize x.tmod y=r at*
 have e1:(q-1)*y=y*q-y:=by rw[Int.sub_mul,Int.one_mul,Int.mul_comm]
 have e2:(q-1+1)*y=y*q:=by rw[Int.sub_add_cancel,Int.mul_comm]
 first
  |(rw[e1,e2];omega)
  |(constructor<;>(first|rw[e1]|rw[e2]|skip)<;>omega)
theorem adX(x y:Int):sgn (!(decide (x<0)==decide (y<0))) (x.natAbs*y.natAbs)=x*y:=by
 have hx:=vN x
 have hy:=vN y
 unfold sgn at*
 by_cases h1:x<0<;>by_cases h2:y<0<;>simp[h1,h2] at hx hy|- <;>
  (conv=>rhs;rw[<-hx,<-hy])<;>simp[Int.neg_mul,Int.mul_neg]
theorem aeb(a:Int)(w:World)(h1: -9223372036854775808<=a)(h2:a<=9223372036854775807):Calls Tryz.prog 110 #[.int .i64 a,.int .u64 9] w (qG w (a/512)):=zA a 9 512 (a/512) w h1 h2 ah aB rfl
theorem F5(a:Int)(w:World)(h1: -9223372036854775808<=a)(h2:a<=9223372036854775807):Calls Tryz.prog 110 #[.int .i64 a,.int .u64 12] w (qG w (a/4096)):=zA a 12 4096 (a/4096) w h1 h2 ah aB rfl
theorem aec(a:Int)(w:World)(h1: -9223372036854775808<=a)(h2:a<=9223372036854775807):Calls Tryz.prog 110 #[.int .i64 a,.int .u64 13] w (qG w (a/8192)):=zA a 13 8192 (a/8192) w h1 h2 ah aB rfl
theorem aed(a:Int)(w:World)(h1: -9223372036854775808<=a)(h2:a<=9223372036854775807):Calls Tryz.prog 110 #[.int .i64 a,.int .u64 14] w (qG w (a/16384)):=zA a 14 16384 (a/16384) w h1 h2 ah aB rfl
theorem CN(a:Int)(w:World)(h1: -9223372036854775808<=a)(h2:a<=9223372036854775807):Calls Tryz.prog 110 #[.int .i64 a,.int .u64 15] w (qG w (a/32768)):=zA a 15 32768 (a/32768) w h1 h2 ah aB rfl
theorem Rs.drew{w:World}{B:Nat}{A:Option Addr}{xs:List Int}(h:Rs w B A xs):Rs w.drew B A xs:=h
theorem aee(A:Option Addr)(c B:Nat)(xs:List Int)(i n:Nat)(w:World)(hr:Rs w B A xs)(hl:xs.length=n)(hn:n<=100):
 Calls Tryz.prog 172 #[.slice A n c,.int .i64 (i:Nat)] w fun e w'=>e=.returned (.int .i64 (xs.getD i 0))/\w=w':=by
 by_cases h:i<n
 ·obtain⟨ad,rfl,_,hc⟩:=hr.at_ (k:=i) ah
  generalize xs.getD i 0=x at*
  clear hr hl
  go_enter Tryz.func172,Tryz.ntmps172
  go_wp2
  go_ret
  exact⟨rfl,rfl⟩
 ·have hv:xs.getD i 0=0:=abI
  rw[hv]
  clear hr hl hv
  go_enter Tryz.func172,Tryz.ntmps172
  go_wp2
  go_ret
  exact⟨rfl,rfl⟩
def F6(w:World)(xs:List Int)(e:Ending)(w':World):Prop:=∃A c,e=.returned (.slice A xs.length c)/\Own w' w.heap.size A c xs/\Below w.heap.size w w'
theorem aef{wr w1:World}{p:Addr}{v:Value}(hB:Below wr.drew.heap.size wr.drew w1)(hc:wr.cell? p=some v):w1.cell? p=some v:=
 (hB.cell (World.block_lt_of_cell? wr p hc)).trans hc
theorem aeg{wr w1:World}{p:Addr}{v:Value}(hB:Below wr.drew.heap.size wr.drew w1)(hc:wr.cell? p=some v)(hf:wr.frozen? p=false):w1.frozen? p=false:=
 (hB.frozen (World.block_lt_of_cell? wr p hc)).trans hf
def GrowMid(a zs:List Int)(q:Int)(m i:Nat):Prop:=zs.length=m+1/\∀j,j<=m->zs.getD j 0=if j<i then(lV a q m).getD j 0 else a.getD j 0
theorem GrowMid.step{a zs:List Int}{q:Int}{m i:Nat}(h:GrowMid a zs q m i)(h0:1<=i)(hi:i<=m):
 GrowMid a (zs.set i (a.getD i 0+q*a.getD (m-i) 0/32768)) q m (i+1):=by
 refine⟨by simpa using h.1,fun j hj=>?_⟩
 by_cases he:i=j
 ·subst he
  rw[gQ _ _ _ (by rw[h.1];omega),if_pos ah,xP _ _ _ _ hi,if_neg ah]
 ·rw[iw _ _ he,h.2 j hj]
  by_cases h2:j<i
  ·rw[if_pos h2,if_pos ah]
  rw[if_neg h2,if_neg ah]
theorem Gf{wr w1:World}(h:Below wr.drew.heap.size wr.drew w1):Below wr.heap.size wr w1:=⟨h.os,h.tape,h.output,h.size,h.block⟩
theorem VT(A:Option Addr)(c:Nat)(xs:List Int)(q:Int)(m:Nat)(w:World)(hr:Rs w w.heap.size A xs)(hl:xs.length=m)(hm0:1<=m)(hm:m<=20)(hq: -32768<=q/\q<=32768)(hx:Within 4294967296 xs):
 Calls Tryz.prog 115 #[.slice A m c,.int .i64 q] w (F6 w (lV xs q m)):=by
 have HR:=hid hr
 have HL:=hid hl
 have HX:=hid hx
 clear hr hx
 subst hl
 go_enter Tryz.func115,Tryz.ntmps115
 go_wp2_with(first
  |(at_builtin;refine Fv rfl (.const (.slice none 0 0)) (.tmp 7) rfl w.heap.size none 0 [] rfl Own.nil w.heap.size A c xs rfl HR.out aJ (al0z _) ?_;intro A1 c1 w1 hO hG hA;simp only[AC] at hO;have O1:=hid hO;have B1:=hid ((aA w.heap.size w).grown hG (al0z _) az);clear hO hG hA)
  |(at_builtin;refine Vj rfl (.tmp 8) (.tmp 9) rfl w.heap.size A1 c1 xs rfl (O1.out.alloc _) ⟨w1.heap.size,0,none⟩ 0 rfl (mW w1 _ _) ah (gJ B1.out.size az) ?_;intro A2 c2 w2 hO hG hA;obtain⟨g,rfl,hg1,hg2⟩:=hO.head az;have O2:=hid hO;have B2:=hid ((B1.out.alloc B1.out.size _).grown hG (gJ B1.out.size az) (by intro k hk;cases A1 with|none=>cases hk|some ad=>(simp at hk;subst hk;exact(O1.out.lt _ rfl).1)));clear hO hG hA))
 have MID:=hid (show GrowMid xs (xs++[0]) q xs.length 1 from⟨az,fun j hj=>by
  by_cases h:j<1
  ·obtain rfl:j=0:=ah
   rw[if_pos h,xP _ _ _ _ ah,if_pos rfl]
   simp only[bi]
   rw[mF ah]
  ·rw[if_neg h]
   simp only[bi]
   by_cases h2:j<xs.length
   ·rw[mF h2]
   ·obtain rfl:j=xs.length:=ah
    simp⟩)
 clear O1 B1
 go_loopw[6] (fun iv wr=> ∃(i:Nat) (zs:List Int),1<=i/\i<=xs.length+1/\iv=.int .i64 i/\Hid (GrowMid xs zs q xs.length i)/\Hid (Own wr w.heap.size (some ⟨g,0,none⟩) c2 zs)/\Hid (Below w.heap.size w wr)) (fun iv _=>xs.length+1-(intOf iv).toNat)
 case atStart=>exact⟨1,xs++[0],ah,ah,rfl,MID,O2,B2⟩
 case round=>
  clear O2 B2 MID
  obtain⟨i,zs,hi1,hi2,rfl,HM,HO,HB⟩:=hrel
  by_cases hlt:i<xs.length+1
  ·have co:=HO.out.cell i Ny
   have fo:=HO.out.frozen i
   obtain⟨d,hd⟩:∃d:Nat,xs.length=i+d:=⟨xs.length-i,ah⟩
   have hsub:(xs.length:Int)-(i:Int)=(d:Nat):=ah
   have hw1:IntKind.i64.wrap (xs.length:Int)=(xs.length:Int):=aN
   have hw2:IntKind.i64.wrap ((xs.length:Int)-(i:Int))=(d:Nat):=aN
   rw[HM.out.2 i ah,if_neg ah] at co
   have KT:=hid (fun W (h:Rs W w.heap.size A xs)=>aee A c w.heap.size xs d xs.length W h rfl ah)
   have RW:=hid ((HR.out.below HB.out).drew)
   have NEXT:=hid (HM.out.step hi1 ah)
   rw[show xs.length-i=d from ah] at NEXT
   have bx:=HX.out i
   have by':=HX.out d
   generalize xs.getD i 0=x at*
   generalize xs.getD d 0=y at*
   obtain⟨bx1,bx2⟩:=bx
   obtain⟨by1,by2⟩:=by'
   have pr:=ja (x:=q) (X:=32768) (y:=y) (Y:=4294967296) ah ah hq ⟨ah,ah⟩
   have p1: -140737488355328<=q*y:=ah
   have p2:q*y<=140737488355328:=ah
   have hw3:IntKind.i64.wrap (q*y)=q*y:=aN
   have hw4:IntKind.i64.wrap (x+q*y/32768)=x+q*y/32768:=aN
   have KD:=hid (fun W=>CN (q*y) W ah ah)
   have HD:=hid hd
   clear pr hd hsub
   go_wp2
   go_region_with (first
    |(go_at_call 172;((with_reducible refine(KT.out _ RW.out).mono ?_);rintro e w' ⟨rfl,rfl⟩))
    |(go_at_call 110;(with_reducible refine(KD.out _).mono ?_);rintro e w3 ⟨rfl,hB⟩;have k1:=aef hB co;have k2:=aeg hB co fo;have q1:=hid hB;clear hB))
   all_goals
    clear hw1 hw2 hw3 hw4
    have OB:=hid ((HO.out.below (Gf q1.out)).set_ i Ny (x+q*y/32768))
    have BB:=hid ((HB.out.trans ((Gf q1.out).mono HB.out.size)).setCell (p:=⟨g,i,none⟩) hg1 (.int .i64 (x+q*y/32768)))
    go_wp2
    go_roundw
    case rel=>exact⟨i+1,_,ah,ah,aO,NEXT,OB,BB⟩
    case measure=>simp[intOf]<;>omega
  obtain rfl:i=xs.length+1:=ah
  have HF:=hid (show zs=lV xs q xs.length from bV (by rw[HM.out.1,vO]) (fun j hj=>by
   rw[HM.out.2 j (by rw[HM.out.1] at hj;omega),if_pos (by rw[HM.out.1] at hj;omega)]))
  have HL2:=HM.out.1
  go_wp2
  go_ret
  refine⟨_,_,?_,by rw[<-HF.out];exact HO.out,HB.out⟩
  rw[vO]
  rfl
def gV(x:Int):Bool:=decide (-32768<=x/\x<=32767)
theorem qI{x:Int}(h1: -32768<=x)(h2:x<=32767):gV x=true:=by unfold gV;simp;omega
theorem rL{x:Int}(h:x< -32768\/32767<x):gV x=false:=by unfold gV;simp;omega
def aG(xs:List Int):Bool:=xs.all gV
theorem fP{xs:List Int}(h:aG xs=true)(i:Nat): -32768<=xs.getD i 0/\xs.getD i 0<=32767:=by
 by_cases hi:i<xs.length
 ·have:=FW h i hi
  unfold gV at this
  simpa using this
 exact l96
def zD(w:World)(b:Bool)(e:Ending)(w':World):Prop:=e=.returned (.bool b)/\Below w.heap.size w w'
theorem kH{x:Int}(h1: -32768<=x)(h2:x<=32767):s16 x=x:=by unfold s16 lim;rw[if_neg ah,if_neg ah]
theorem rN{x:Int}(h:x< -32768\/32767<x):s16 x≠x:=by have:=lJ x;omega
theorem aeh(A:Option Addr)(c:Nat)(xs:List Int)(w:World)(hr:Rs w w.heap.size A xs)(hl:xs.length<=17592186044416):
 Calls Tryz.prog 12 #[.slice A xs.length c] w (F6 w xs):=by
 have HR:=hid hr
 clear hr
 go_enter Tryz.func12,Tryz.ntmps12
 go_wp2_with(at_builtin;refine Fv rfl (.const (.slice none 0 0)) (.tmp 3) rfl w.heap.size none 0 [] rfl Own.nil w.heap.size A c xs rfl HR.out vu (al0z _) ?_;intro A1 c1 w1 hO hG hA;simp only[AC] at hO;have O1:=hid hO;have B1:=hid ((aA w.heap.size w).grown hG (al0z _) az);clear hO hG hA)
 go_ret
 exact⟨A1,c1,az,O1.out,B1.out⟩
theorem aei(A A2:Option Addr)(c c2 n B B2:Nat)(xs:List Int)(w:World)(hr:Rs w B A xs)(hr2:Rs w B2 A2 xs)(hn:xs.length=n)(hl:n<=17592186044416):
 Calls Tryz.prog 36 #[.slice A n c,.slice A2 n c2] w (zD w true):=by
 have HR:=hid (And.intro hr hr2)
 have HN:=hid hn
 clear hr hr2 hn
 go_enter Tryz.func36,Tryz.ntmps36
 go_wp2
 go_loopw[13] (fun iv wr=> ∃(k d:Nat),k<=n/\iv=.int .i64 k/\Hid (wr=w.drewN d)) (fun iv _=>n-(intOf iv).toNat)
 case atStart=>exact⟨0,0,ah,rfl,hid rfl⟩
 case round=>
  obtain⟨k,d,hk,rfl,HW⟩:=hrel
  obtain rfl:=HW.out
  by_cases hlt:k<n
  ·obtain⟨ad,rfl,_,c1⟩:=HR.out.1.at_ (k:=k) iE
   obtain⟨ad2,rfl,_,c2'⟩:=HR.out.2.at_ (k:=k) iE
   generalize xs.getD k 0=x at*
   have hI:(k:Int)<(n:Int):=ah
   have hI0:(0:Int)<=(k:Int):=ah
   clear HW
   go_wp2
   go_quiet (fail)
   go_wp2
   go_roundw
   case rel=>exact⟨k+1,_,ah,aO,hid (by first|rfl|simp)⟩
   case measure=>simp[intOf]<;>omega
  go_wp2
  go_ret
  exact⟨rfl,⟨rfl,rfl,rfl,al0z _,fun _ _=>rfl⟩⟩
theorem aej(A A2:Option Addr)(c c2 n B B2:Nat)(xs:List Int)(w:World)(hr:Rs w B A xs)(hr2:Rs w B2 A2 xs)(hn:xs.length=n)(hl:n<=17592186044416):
 Calls Tryz.prog 10 #[.slice A n c,.slice A2 n c2] w (zD w true):=by
 have K:=hid (aei A A2 c c2 n B B2 xs w hr hr2 hn hl)
 clear hr hr2 hn
 go_enter Tryz.func10,Tryz.ntmps10
 go_wp2_with(go_at_call 36;refine K.out.mono ?_;rintro e w1 ⟨rfl,hB⟩;have q1:=hid hB;clear hB)
 go_ret
 exact⟨rfl,q1.out⟩
theorem PD(x:Int)(w:World):Calls Tryz.prog 84 #[.int .i64 x] w fun e w'=>e=.returned (.int .i64 (s16 x))/\w=w':=by
 go_enter Tryz.func84,Tryz.ntmps84
 exact l44
theorem VU(x:Int)(w:World):Calls Tryz.prog 189 #[.int .i64 x] w fun e w'=>e=.returned (.int .i64 (s16 x))/\w=w':=by
 go_enter Tryz.func189,Tryz.ntmps189
 exact l44
theorem xU(x:Int)(w:World):Calls Tryz.prog 163 #[.int .i64 x] w fun e w'=>e=.returned (.int .i64 (s16 x))/\w=w':=by
 go_enter Tryz.func163,Tryz.ntmps163
 exact l44
theorem xX(x:Int)(w:World):Calls Tryz.prog 61 #[.int .i64 x] w fun e w'=>e=.returned (.int .i64 (s16 x))/\w=w':=by
 go_enter Tryz.func61,Tryz.ntmps61
 exact l44
theorem xY(x:Int)(w:World):Calls Tryz.prog 156 #[.int .i64 x] w fun e w'=>e=.returned (.int .i64 (s16 x))/\w=w':=by
 go_enter Tryz.func156,Tryz.ntmps156
 exact l44
theorem VW(x:Int)(w:World):Calls Tryz.prog 159 #[.int .i64 x] w fun e w'=>e=.returned (.int .i64 (s16 x))/\w=w':=by
 go_enter Tryz.func159,Tryz.ntmps159
 exact l44
theorem CO(A:Option Addr)(c n B:Nat)(xs:List Int)(w:World)(hr:Rs w B A xs)(hn:xs.length=n)(hl:n<=17592186044416):
 Calls Tryz.prog 83 #[.slice A n c] w fun e w'=>e=.returned (.bool (aG xs))/\w=w':=by
 have HR:=hid hr
 have HN:=hid hn
 clear hr hn
 go_enter Tryz.func83,Tryz.ntmps83
 go_wp2
 go_loop [7] (fun iv=> ∃k:Nat,k<=n/\iv=.int .i64 k/\Hid (allTo gV xs k)) (fun iv=>n-(intOf iv).toNat)
 case atStart=>exact⟨0,ah,rfl,hid allTo.zero⟩
 case round=>
  obtain⟨k,hk,rfl,HY⟩:=hrel
  by_cases hlt:k<n
  ·obtain⟨ad,rfl,_,c1⟩:=HR.out.at_ (k:=k) iE
   obtain⟨x,hx⟩:∃x,x=xs.getD k 0:=⟨_,rfl⟩
   rw[<-hx] at c1
   have HX:=hid hx
   clear hx
   by_cases hbad:x< -32768\/32767<x
   ·have HF:=hid (show aG xs=false from iL (i:=k) iE (rL vh))
    have e1:(x==s16 x)=false:=Ku
    have e2:(x !=s16 x)=true:=Ky
    clear hbad
    go_wp2_with(go_at_call 84;refine(PD _ _).mono ?_;rintro e w' ⟨rfl,rfl⟩)
    go_ret
    exact⟨nY,rfl⟩
   have HN2:=hid (HY.out.succ zq)
   have e0:=kH (x:=x) ah ah
   clear hbad
   go_wp2_with(go_at_call 84;refine(PD _ _).mono ?_;rintro e w' ⟨rfl,rfl⟩)
   exact l32
  exact l83
theorem Gh(A:Option Addr)(c n B:Nat)(xs:List Int)(w:World)(hr:Rs w B A xs)(hn:xs.length=n)(hl:n<=17592186044416):
 Calls Tryz.prog 160 #[.slice A n c] w fun e w'=>e=.returned (.bool (aG xs))/\w=w':=by
 have HR:=hid hr
 have HN:=hid hn
 clear hr hn
 go_enter Tryz.func160,Tryz.ntmps160
 go_wp2
 go_loop [7] (fun iv=> ∃k:Nat,k<=n/\iv=.int .i64 k/\Hid (allTo gV xs k)) (fun iv=>n-(intOf iv).toNat)
 case atStart=>exact⟨0,ah,rfl,hid allTo.zero⟩
 case round=>
  obtain⟨k,hk,rfl,HY⟩:=hrel
  by_cases hlt:k<n
  ·obtain⟨ad,rfl,_,c1⟩:=HR.out.at_ (k:=k) iE
   obtain⟨x,hx⟩:∃x,x=xs.getD k 0:=⟨_,rfl⟩
   rw[<-hx] at c1
   have HX:=hid hx
   clear hx
   by_cases hbad:x< -32768\/32767<x
   ·have HF:=hid (show aG xs=false from iL (i:=k) iE (rL vh))
    have e1:(x==s16 x)=false:=Ku
    have e2:(x !=s16 x)=true:=Ky
    clear hbad
    go_wp2_with(go_at_call 189;refine(VU _ _).mono ?_;rintro e w' ⟨rfl,rfl⟩)
    go_ret
    exact⟨nY,rfl⟩
   have HN2:=hid (HY.out.succ zq)
   have e0:=kH (x:=x) ah ah
   clear hbad
   go_wp2_with(go_at_call 189;refine(VU _ _).mono ?_;rintro e w' ⟨rfl,rfl⟩)
   exact l32
  exact l83
theorem kJ(A:Option Addr)(c n B:Nat)(xs:List Int)(w:World)(hr:Rs w B A xs)(hn:xs.length=n)(hl:n<=17592186044416):
 Calls Tryz.prog 70 #[.slice A n c] w fun e w'=>e=.returned (.bool (aG xs))/\w=w':=by
 have HR:=hid hr
 have HN:=hid hn
 clear hr hn
 go_enter Tryz.func70,Tryz.ntmps70
 go_wp2
 go_loop [7] (fun iv=> ∃k:Nat,k<=n/\iv=.int .i64 k/\Hid (allTo gV xs k)) (fun iv=>n-(intOf iv).toNat)
 case atStart=>exact⟨0,ah,rfl,hid allTo.zero⟩
 case round=>
  obtain⟨k,hk,rfl,HY⟩:=hrel
  by_cases hlt:k<n
  ·obtain⟨ad,rfl,_,c1⟩:=HR.out.at_ (k:=k) iE
   obtain⟨x,hx⟩:∃x,x=xs.getD k 0:=⟨_,rfl⟩
   rw[<-hx] at c1
   have HX:=hid hx
   clear hx
   by_cases b1:x< -32768
   ·have HF:=hid (show aG xs=false from iL (i:=k) iE (rL EI))
    go_wp2
    go_ret
    exact⟨nY,rfl⟩
   by_cases b2:32767<x
   ·have HF:=hid (show aG xs=false from iL (i:=k) iE (rL EJ))
    go_wp2
    go_ret
    exact⟨nY,rfl⟩
   have HN2:=hid (HY.out.succ zq)
   go_wp2
   exact l32
  exact l83
theorem VX(n:Nat):(madeCells (Value.int .i64 0).cells (n*1)).toList=aj (List.replicate n 0):=by
 rw[Nat.mul_one]
 show(madeCells #[Value.int .i64 0] n).toList=_
 rw[toList_madeCells_one]
 simp[aj]
theorem kR{ops:Array Oper}{rest:List Oper}{o:Oper}{a:Act}{w:World}{Q:Exit->Act->World->Prop}(hgd:o.guard=none)(l c:Operand)
 (ho:o.op=.makeSlice 27 l c) (kl kc:IntKind) (n:Nat) (hl:a.eval l=.int kl (n:Int)) (hc:a.eval c=.int kc (n:Int)) (base:Nat) (hn:n<=17592186044416) (hbase:base<=w.heap.size)
 (h:∀w1,Own w1 base (some ⟨w.heap.size,0,none⟩) n (List.replicate n 0)->w.grownBy w1 none->wpList Tryz.prog ops Q rest (a.put o.dst (.slice (some ⟨w.heap.size,0,none⟩) n n)) w1):
 wpList Tryz.prog ops Q (o::rest) a w:=by
 obtain⟨i0,hi,hz0,hz1,hz2⟩:=info_parts BZ
 refine wpList_make_full w hgd l c 27 ho base 3 i0 (.int .i64 0) 1 Tryz.underlying27 hi hz0 hz1 kl kc (n:Int) (n:Int) n hl hc rfl rfl uw iT hbase ?_
 intro w1 hown hgrow
 refine h w1 ?_ hgrow
 unfold Own
 rw[nM]
 rw[<-VX]
 simpa using hown
def ku(h:List Int)(lag:Nat)(i:Nat):Int:=h.getD (80-lag+i%lag) 0
def mY(lag:Int):Bool:=decide (20<=lag/\lag<=79)
def cO(h:List Int)(lag:Int):List Int:=if mY lag then(List.range 40).map (ku h lag.toNat) else[]
theorem rO{lag:Int}(h1:20<=lag)(h2:lag<=79):mY lag=true:=by unfold mY;simp;omega
theorem Gi{lag:Int}(h:lag<20\/79<lag):mY lag=false:=by unfold mY;simp;omega
theorem xZ{h:List Int}{lag:Int}(hb:mY lag=true):(cO h lag).length=40:=by unfold cO;rw[hb];simp
theorem aT{n j:Nat}(f:Nat->Int)(h:j<n):((List.range n).map f).getD j 0=f j:=by
 rw[bi,rq,List.getElem?_range h]
 rfl
theorem aek{h:List Int}{lag:Int}(hb:mY lag=true)(j:Nat)(hj:j<40):(cO h lag).getD j 0=ku h lag.toNat j:=by
 unfold cO;rw[if_pos hb,aT _ hj]
theorem ael{h:List Int}{lag i:Nat}(hi:i<lag):ku h lag i=h.getD (80-lag+i) 0:=by
 unfold ku;rw[Nat.mod_eq_of_lt hi]
theorem aem{h:List Int}{lag i:Nat}(hi:lag<=i):ku h lag i=ku h lag (i-lag):=by
 unfold ku;rw[Nat.mod_eq_sub_mod hi]
theorem CP{n:Nat}(f:Nat->Int):(List.range n).map f++[f n]=(List.range (n+1)).map f:=by
 rw[List.range_succ,List.map_append];rfl

theorem aeK(d:Nat){t:TypeId}{n:Nat}(ht:Tryz.prog.underlying t=some (.array n 3))(xs:List Int)(hl:xs.length=n)(w:World):
 (Op.equalIn (d+2) t (.agg (agi xs)) (.agg (agi xs))).run Tryz.prog w=.ok true w:=by
 have hs:∀w,(sizeOf 3).run Tryz.prog w=.ok 1 w:=fun w=>au
 have ha:∀w,(isAgg 3).run Tryz.prog w=.ok false w:=fun w=>au
 rw[Op.equalIn]
 simp only[nR,run_underlying ht,nU,hs,Std.Legacy.Range.forIn_eq_forIn_range',Std.Legacy.Range.size,Nat.sub_zero,Nat.add_sub_cancel,Nat.div_one]
 have hl2:∀i∈List.range' 0 n 1,i<n:=fun i hi=>by simpa using(List.mem_range'_1.1 hi).2
 generalize List.range' 0 n 1=l at hl2|-
 induction l with
 |nil=>simp
 |cons i l ih=>
  have hi:i<n:=hl2 i az
  have px:(part 3 (agi xs) (i*1)).run Tryz.prog w=.ok (.int .i64 (xs.getD i 0)) w:=by
   have hg:=Fq xs i ah
   simp[part,ha,hg]
  have pe:(Op.equalIn (d+1) 3 (.int .i64 (xs.getD i 0)) (.int .i64 (xs.getD i 0))).run Tryz.prog w=.ok true w:=by
   rw[run_equalIn_int w d 3 .i64 .i64 _ _ Tryz.underlying3]
   simp
  simp only[List.forIn_cons,nR,px,pe,nU]
  simp only[Bool.not_true,Bool.false_eq_true,if_false,rD,nU]
  exact ih fun j hj=>hl2 j (by simp[hj])
theorem Blk.stored{w:World}{g:Nat}{t:TypeId}{cs c2:Array Value}(h:Blk w g t cs)(o:Obj):Blk ((w.alloc o).setRow w.heap.size c2) g t cs:=
 Blk.rowFar (Blk.alloc h o) (by have:=Blk.lt h;omega)
theorem IB.stored(w:World)(t:TypeId)(zs ys:List Int):IB ((w.alloc (.cells (agi zs) t)).setRow w.heap.size (agi ys)) w.heap.size t ys:=(IB.new w t zs).setRow ys
theorem bT(w:World)(o:Obj)(c2:Array Value):Below w.heap.size w ((w.alloc o).setRow w.heap.size c2):=
 aS ((aA _ w).alloc (al0z _) o) (al0z _) c2
theorem aeL(f g:Nat->Int)(n:Nat):aI (fun i=>f i+g i) n=aI f n+aI g n:=by
 induction n with
 |zero=>rfl
 |succ n ih=>simp only[aI];rw[ih];omega
theorem Qa(c:Int)(f:Nat->Int)(n:Nat):aI (fun i=>c*f i) n=c*aI f n:=by
 induction n with
 |zero=>simp[aI]
 |succ n ih=>simp only[aI];rw[ih,Int.mul_add]
theorem Qb(n:Nat):aI (fun _=>0) n=0:=by
 induction n with
 |zero=>rfl
 |succ n ih=>simp only[aI];rw[ih];rfl
theorem WU(f:Nat->Nat->Int)(m n:Nat):aI (fun i=>aI (fun j=>f i j) n) m=aI (fun j=>aI (fun i=>f i j) m) n:=by
 induction m with
 |zero=>simp only[aI];rw[Qb]
 |succ m ih=>simp only[aI];rw[ih,aeL]
theorem aeM(f:Nat->Int)(n:Nat):aI f (n+1)=f 0+aI (fun i=>f (i+1)) n:=by
 induction n with
 |zero=>simp[aI]
 |succ n ih=>rw[aI,ih];simp only[aI];omega
theorem aeN(f:Nat->Int)(n:Nat):aI f n=aI (fun i=>f (n-1-i)) n:=by
 induction n with
 |zero=>rfl
 |succ n ih=>
  rw[aeM (fun i=>f (n+1-1-i)) n,aI,ih]
  have e:aI (fun i=>f (n+1-1-(i+1))) n=aI (fun i=>f (n-1-i)) n:=lL n (fun i hi=>by congr 1;omega)
  rw[e]
  simp only[Nat.add_sub_cancel,Nat.sub_zero]
  omega
theorem aeO(f:Nat->Int)(m n:Nat):aI f (m+n)=aI f m+aI (fun i=>f (m+i)) n:=by
 induction n with
 |zero=>simp[aI]
 |succ n ih=>rw[<-Nat.add_assoc,aI,ih];simp only[aI];omega
theorem nz{z:Int}(h1: -9223372036854775808<=z)(h2:z<=9223372036854775807):Sm z.natAbs:=aW ah
theorem Xi{w w':World}{b:Nat}{p:Addr}(h:w.grownBy w' (some b))(hp:p.block≠b)(hlt:p.block<w.heap.size):w'.cell? p=w.cell? p:=by
 have:=h.block p.block hlt uu
 unfold World.cell?
 rw[this]
theorem Qh(w:World):IntAt (w.alloc (.cells #[.bool false,.slice none 0 0] 80)) w.heap.size 0:=⟨_,heap_alloc_new w _,Nm.nil _⟩
def qM(xs ys:List Int)(i:Nat):Int:=xs.getD i 0*ys.getD i 0
def bz(xs ys:List Int)(n:Nat):Int:=aI (qM xs ys) n
def eG(xs:List Int):Prop:=∀i,-32768<=xs.getD i 0/\xs.getD i 0<=32767
theorem kU{x y:Int}(h1: -32768<=x)(h2:x<=32767)(h3: -32768<=y)(h4:y<=32767): -1073741824<=x*y/\x*y<=1073741824:=by
 have:=ja (x:=x) (X:=32768) (y:=y) (Y:=32768) ah ah ⟨ah,ah⟩ ⟨ah,ah⟩
 omega
theorem oq{xs ys:List Int}(hx:eG xs)(hy:eG ys)(n:Nat): -(1073741824*(n:Int))<=bz xs ys n/\bz xs ys n<=1073741824*(n:Int):=by
 unfold bz
 induction n with
 |zero=>simp[aI]
 |succ n ih=>
  have h:=kU (hx n).1 (hx n).2 (hy n).1 (hy n).2
  simp only[aI]
  unfold qM at*
  push_cast
  omega
def bJ(i:Int):Int:=if 0<=i/\i<=7 then fD.getD i.toNat 0 else 0
theorem Qm{i:Int}(h:i<0\/7<i):bJ i=0:=by unfold bJ;rw[if_neg ah]
theorem zJ(i:Int):bJ i=0/\(i<0\/7<i)\/bJ i=6/\0<=i/\i<=1\/bJ i=5/\2<=i/\i<=3\/bJ i=4/\4<=i/\i<=5\/bJ i=3/\6<=i/\i<=7:=by
 by_cases h:i<0\/7<i
 ·exact .inl ⟨Qm h,h⟩
 obtain⟨k,rfl⟩:=dP (show 0<=i from ah)
 have hk:k<8:=ah
 have e:bJ (k:Nat)=fD.getD k 0:=U0
 rw[e]
 have:k=0\/k=1\/k=2\/k=3\/k=4\/k=5\/k=6\/k=7:=ah
 rcases this with rfl|rfl|rfl|rfl|rfl|rfl|rfl|rfl<;>simp[fD]
theorem Qn(i:Int)(w:World)(T:TabA w 3 fD):
 Calls Tryz.prog 143 #[.int .i64 i] w fun e w'=>e=.returned (.int .i64 (bJ i))/\w=w':=by
 by_cases h1:i<0\/7<i
 ·rw[Qm h1]
  rcases h1 with h1|h1
  ·exact Vd
  have h2: ¬i<0:=ah
  have h3:8<=i:=ah
  exact Vd
 ·obtain⟨k,rfl⟩:=dP (show 0<=i from ah)
  have hk:k<8:=ah
  have hc:=T.cell k hk
  rw[show bJ (k:Nat)=fD.getD k 0 from U0]
  generalize fD.getD k 0=v at*
  clear h1 T
  exact Vd
end Go.Proofs.YthoiikkjjaldnaaGreatDoor
