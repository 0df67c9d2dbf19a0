/- Texts that the law rests on. -/
import Derived.Test.YthoiikkjjaldnaaGreatDoorZ1e0u
import Derived.Test.YthoiikkjjaldnaaGreatDoorZ1e0v
namespace Go.Proofs.YthoiikkjjaldnaaGreatDoor
set_option linter.unusedVariables false
set_option linter.unusedSimpArgs false
set_option maxRecDepth 100000
set_option maxHeartbeats 8000000
open Go.RowKit
structure Two(b m:Nat)(w w':World):Prop where
 os:w'.os=w.os
 tape:w'.tape=w.tape
 output:w'.output=w.output
 size:w.heap.size<=w'.heap.size
 block:∀k,k<w.heap.size->k≠b->k≠m->w'.heap[k]?=w.heap[k]?
theorem Two.trans{b m:Nat}{u v w:World}(h:Two b m u v)(k:Two b m v w):Two b m u w:=
 ⟨k.os.trans h.os,k.tape.trans h.tape,k.output.trans h.output,gJ h.size k.size,fun i hi hb hm=>(k.block i (lF hi h.size) hb hm).trans (h.block i hi hb hm)⟩
theorem Two.left{b m:Nat}{u v:World}(h:u.grownBy v (some b)):Two b m u v:=⟨h.os,h.tape,h.output,h.size,fun k hk hb _=>h.block k hk Fh⟩
theorem Two.right{b m:Nat}{u v:World}(h:u.grownBy v (some m)):Two b m u v:=⟨h.os,h.tape,h.output,h.size,fun k hk _ hm=>h.block k hk (by simpa using hm)⟩
theorem Two.below{b m:Nat}{u v:World}(h:Below u.heap.size u v):Two b m u v:=⟨h.os,h.tape,h.output,h.size,fun k hk _ _=>h.block k hk⟩
def adR(w:World)(b m:Nat)(q r:Int)(e:Ending)(w':World):Prop:=
 e=.returned (.tuple #[.pointer (some ⟨b,0,none⟩),.pointer (some ⟨m,0,none⟩)])/\IntAt w' b q/\IntAt w' m r/\Two b m w w'
theorem adS{x y:Int}(hy:0<y)(h:x.tmod y<0):x.tmod y+y=x%y:=by
 have h1:=Int.mul_tdiv_add_tmod x y
 have h2:=VP hy h
 have h3:=Int.mul_ediv_add_emod x y
 rw[<-h2,Int.mul_sub,Int.mul_one] at h3
 omega
theorem adT{x y:Int}(hy:0<y)(h: ¬x.tmod y<0):x.tmod y=x%y:=by
 have h1:=Int.mul_tdiv_add_tmod x y
 have h2:=VO hy h
 have h3:=Int.mul_ediv_add_emod x y
 rw[<-h2] at h3
 omega
theorem adU(x y:Int):(x.tdiv y).natAbs<=x.natAbs:=by rw[Int.natAbs_tdiv];exact Nat.div_le_self _ _
theorem adV(x y:Int):(x.tmod y).natAbs<=x.natAbs:=by rw[Int.natAbs_tmod];exact Nat.mod_le _ _
theorem adW(w:World)(b c d m:Nat)(x y:Int)(hb:IntBlk w b)(hc:IntAt w c x)(hd:IntAt w d y)(hm:IntBlk w m)(hbm:b≠m)
 (hx:x.natAbs<18446744073709551616\/y<4294967296) (sx:Sm x.natAbs) (hy:0<y) (hy2:y<18446744073709551616):
 Calls Tryz.prog 208 #[.pointer (some ⟨b,0,none⟩),.pointer (some ⟨c,0,none⟩),.pointer (some ⟨d,0,none⟩),.pointer (some ⟨m,0,none⟩)] w (adR w b m (x/y) (x%y)):=by
 have sy:Sm y.natAbs:=aW ah
 have SY:=hid sy
 have SX:=hid sx
 have HX:=hid (show x.natAbs<18446744073709551616\/y.natAbs<4294967296 from ah)
 clear sx hx
 have HB:=hid hb
 have HC:=hid hc
 have HD:=hid hd
 have HM:=hid hm
 have HBM:=hid hbm
 have hlb:=hb.lt
 have hlm:=hm.lt
 have hlc:=hc.lt
 have hld:=hd.lt
 have dy:decide (y<0)=false:=aJ
 have DY:=hid dy
 clear sy hb hc hd hm hbm dy
 go_enter Tryz.func208,Tryz.ntmps208
 go_wp2_with fail
 refine(adr _ w.heap.size d y (IntBlk.new w _ _) (HD.out.below ((aA _ _).alloc (al0z _) _) (al0z _)) SY.out).mono ?_
 rintro e w1 ⟨rfl,hI,hG⟩
 have D1:=hid hI
 have B1:=hid (bK ((aA _ w).alloc (al0z _) _) hG (al0z _))
 have hs1:=B1.out.size
 have hl1:=D1.out.lt
 clear hI hG
 go_wp2_with fail
 refine(VN w1 b c d m x y (HB.out.below B1.out (al0z _)) (HC.out.below B1.out (al0z _)) (HD.out.below B1.out (al0z _)) (HM.out.below B1.out (al0z _)) HBM.out HX.out ah SX.out SY.out).mono ?_
 rintro e w2 ⟨rfl,hQ,hR,w1',g1,g2⟩
 have Q2:=hid hQ
 have R2:=hid hR
 have D2:=hid ((D1.out.kept (HB.out.below B1.out (al0z _)) g1 ah).kept (IntBlk.kept (HM.out.below B1.out (al0z _)) g1 (fun h=>HBM.out h.symm)) g2 ah)
 have T2:=hid ((Two.below (b:=b) (m:=m) B1.out).trans ((Two.left g1).trans (Two.right g2)))
 clear hQ hR g1 g2
 obtain⟨v,r0,r1,_⟩:=R2.out.cells
 obtain⟨v',e0,e1,_⟩:=D2.out.cells
 rw[DY.out] at e0
 have hs2:=T2.out.size
 by_cases hneg:x.tmod y<0
 ·have dn:decide (x.tmod y<0)=true:=by simpa using hneg
  rw[dn] at r0
  have FQ:=hid (VP hy hneg)
  have FR:=hid (adS hy hneg)
  have SQ:=hid (show Sm (x.tdiv y).natAbs by have:=adU x y;have:=SX.out;unfold Sm at*;omega)
  have SR:=hid (show Sm (x.tmod y).natAbs by have:=adV x y;have:=SX.out;unfold Sm at*;omega)
  clear dn hneg
  go_wp2_with fail
  refine(kP _ 1 ah ah).mono ?_
  rintro e w3 ⟨b3,rfl,hb3,hI3,hB3⟩
  have I3:=hid hI3
  have Q3:=hid (Q2.out.below hB3 (al0z _))
  have R3:=hid (R2.out.below hB3 (al0z _))
  have D3:=hid (D2.out.below hB3 (al0z _))
  have T3:=hid (T2.out.trans (Two.below hB3))
  clear hI3 hB3 Q2 R2 D2 T2
  go_wp2_with fail
  refine(VD _ b b b3 _ 1 Q3.out.blk Q3.out I3.out SQ.out (aW aB)).mono ?_
  rintro e w4 ⟨rfl,hI4,hG4⟩
  have Q4:=hid hI4
  have R4:=hid (R3.out.kept Q3.out.blk hG4 (fun h=>HBM.out h.symm))
  have D4:=hid (D3.out.kept Q3.out.blk hG4 ah)
  have T4:=hid (T3.out.trans (Two.left hG4))
  clear hI4 hG4 Q3 R3 D3 T3
  go_wp2_with fail
  refine(rK _ m m w.heap.size _ y R4.out.blk R4.out D4.out SR.out SY.out).mono ?_
  rintro e w5 ⟨rfl,hI5,hG5⟩
  have Q5:=hid (Q4.out.kept R4.out.blk hG5 HBM.out)
  have R5:=hid hI5
  have T5:=hid (T4.out.trans (Two.right hG5))
  clear hI5 hG5
  rw[FQ.out] at Q5
  rw[FR.out] at R5
  go_wp2
  go_ret2
  exact⟨rfl,Q5.out,R5.out,T5.out⟩
 ·have dn:decide (x.tmod y<0)=false:=by simpa using hneg
  rw[dn] at r0
  have FQ:=hid (VO hy hneg)
  have FR:=hid (adT hy hneg)
  clear dn hneg
  rw[FQ.out] at Q2
  rw[FR.out] at R2
  go_wp2
  go_ret2
  exact⟨rfl,Q2.out,R2.out,T2.out⟩
theorem Po(w:World)(b c d:Nat)(x y:Int)(hb:IntBlk w b)(hc:IntAt w c x)(hd:IntAt w d y)
 (hx:x.natAbs<18446744073709551616\/y<4294967296) (sx:Sm x.natAbs) (hy:0<y) (hy2:y<18446744073709551616):
 Calls Tryz.prog 199 #[.pointer (some ⟨b,0,none⟩),.pointer (some ⟨c,0,none⟩),.pointer (some ⟨d,0,none⟩)] w (jE w b (x%y)):=by
 have HB:=hid hb
 have HC:=hid hc
 have HD:=hid hd
 have hlb:=hb.lt
 clear hb hc hd
 go_enter Tryz.func199,Tryz.ntmps199
 go_wp2_with(go_at_call 208;refine(adW _ w.heap.size c d b x y (IntBlk.new w _ _) (HC.out.below ((aA _ _).alloc (al0z _) _) (al0z _)) (HD.out.below ((aA _ _).alloc (al0z _) _) (al0z _)) (HB.out.below ((aA _ _).alloc (al0z _) _) (al0z _)) ah hx sx hy hy2).mono ?_;rintro e w1 ⟨rfl,hQ,hR,hT⟩;have q1:=hid hR;have q2:=hid hT;clear hQ hR hT)
 go_ret
 refine⟨rfl,q1.out,?_⟩
 have hT:=q2.out
 exact⟨hT.os,hT.tape,hT.output,by have:=hT.size;simp at this;omega,fun k hk hn=>by
  rw[hT.block k aJ ah vp]
  exact Below.heap_alloc _ _ _ hk⟩
theorem adY(x:Int):bits BinOp.and IntKind.i64 x 65535=x%65536:=by
 have h:(BitVec.ofInt 64 x&&&BitVec.ofInt 64 65535).toNat=(x%65536).toNat:=by
  rw[BitVec.toNat_and,BitVec.toNat_ofInt,show(BitVec.ofInt 64 65535).toNat=2^16-1 from aB,Nat.and_two_pow_sub_one_eq_mod]
  omega
 show IntKind.i64.wrap ((BitVec.ofInt 64 x&&&BitVec.ofInt 64 65535).toNat:Int)=_
 rw[h]
 simp only[IntKind.wrap,IntKind.signed,IntKind.bits]
 simp
 omega
def nzS(s:Int):Int:=(s*31821+13849)%65536
def nzZ(z:Int):Int:=min (max z 0) 32767
def nzX(s z:Int):Int:=(nzS s-32768)*nzZ z/32768
theorem zB(s:Int):0<=nzS s/\nzS s<=65535:=by unfold nzS;omega
theorem adZ(z:Int):0<=nzZ z/\nzZ z<=32767:=by unfold nzZ;omega
theorem FU{a b:Int}(h1:0<=a)(h2:a<=65535)(h3:0<=b)(h4:b<=32767): -2147483648<=(a-32768)*b/\(a-32768)*b<=2147483648:=by
 have h5:(a-32768)*b<=32767*b:=Int.mul_le_mul_of_nonneg_right ah h3
 have h6: -32768*b<=(a-32768)*b:=Int.mul_le_mul_of_nonneg_right ah h3
 omega
theorem ad4(s:Int):bits BinOp.and IntKind.i64 (wrap64 (wrap64 (s*31821)+13849)) 65535=nzS s:=by
 rw[adY]
 unfold nzS wrap64
 omega
def VQ(w:World)(s z:Int)(e:Ending)(w':World):Prop:=e=.returned (.tuple #[.int .i64 (nzS s),.int .i64 (nzX s z)])/\Below w.heap.size w w'
theorem ad5(s z:Int)(w:World):Calls Tryz.prog 187 #[.int .i64 s,.int .i64 z] w fun e w'=>e=.returned (.tuple #[.int .i64 (nzS s),.int .i64 (nzX s z)])/\w=w':=by
 have hw:=ad4 s
 have hr:=zB s
 have HX:=hid (show nzX s z=(nzS s-32768)*nzZ z/32768 from rfl)
 generalize nzS s=y at*
 obtain⟨h1,h2⟩:=hr
 rcases(show(z<0/\nzZ z=0)\/(0<=z/\z<=32767/\nzZ z=z)\/(32767<z/\nzZ z=32767) by unfold nzZ;omega) with⟨hz,e0⟩|⟨hz0,hz1,e0⟩|⟨hz,e0⟩
 all_goals
  rw[e0] at HX
  clear e0
 ·exact U7
 ·obtain⟨m1,m2⟩:=FU h1 h2 hz0 hz1
  exact U7
 exact U7
theorem ad6(s z:Int)(w:World)(hs1: -9223372036854775808<=s)(hs2:s<=9223372036854775807):Calls Tryz.prog 188 #[.int .i64 s,.int .i64 z] w (VQ w s z):=by
 have hr:=zB s
 have HX:=hid (show nzX s z=(nzS s-32768)*nzZ z/32768 from rfl)
 have HS:=hid (show(s*31821+13849)%65536=nzS s from rfl)
 obtain⟨y,hy⟩:∃y,y=nzS s:=⟨_,rfl⟩
 rw[<-hy] at hr HX HS
 have FIN:=hid (fun(w1:World) (v:Int) (hv:v=nzX s z) (hB:Below w.heap.size w w1)=>show VQ w s z (.returned (.tuple #[.int .i64 y,.int .i64 v])) w1 from⟨by rw[hv,hy],hB⟩)
 obtain⟨h1,h2⟩:=hr
 have HR:=hid (show(s*31821).natAbs<340282366920938463463374607431768211456/\(s*31821+13849).natAbs<340282366920938463463374607431768211456 from ah)
 clear hy
 rcases(show(z<0/\nzZ z=0)\/(0<=z/\z<=32767/\nzZ z=z)\/(32767<z/\nzZ z=32767) by unfold nzZ;omega) with⟨hz,e0⟩|⟨hz0,hz1,e0⟩|⟨hz,e0⟩
 ·skip
  rw[e0] at HX
  clear e0
  go_enter Tryz.func188,Tryz.ntmps188
  go_wp2_with fail
  refine(fJ _ s hs1 hs2).mono ?_
  rintro e w1 ⟨b1,rfl,hb1,hI,hB⟩
  have Z1:=hid (IntBlk.below (IntBlk.new w (.bool false) (.slice none 0 0)) hB (al0z _))
  have I1:=hid hI
  have B1:=hid (((aA _ w).alloc (al0z _) (.cells #[.bool false,.slice none 0 0] 80)).trans (hB.mono az))
  clear hI hB
  go_wp2_with fail
  refine(kP _ 31821 ah ah).mono ?_
  rintro e w2 ⟨b2,rfl,hb2,hI,hB⟩
  have Z2:=hid (Z1.out.below hB (al0z _))
  have X2:=hid (I1.out.below hB (al0z _))
  have Y2:=hid hI
  have B2:=hid (B1.out.trans (hB.mono B1.out.size))
  clear hI hB Z1 I1 B1
  go_wp2_with fail
  refine(iK _ w.heap.size b1 b2 s 31821 Z2.out X2.out Y2.out (aW ah) (aW aB)).mono ?_
  rintro e w3 ⟨rfl,hI,hG⟩
  have Z3:=hid hI
  have B3:=hid (bK B2.out hG (al0z _))
  clear hI hG Z2 X2 Y2 B2
  go_wp2_with fail
  refine(kP _ 13849 ah ah).mono ?_
  rintro e w4 ⟨b4,rfl,hb4,hI,hB⟩
  have Z4:=hid (Z3.out.below hB (al0z _))
  have Y4:=hid hI
  have B4:=hid (B3.out.trans (hB.mono B3.out.size))
  clear hI hB Z3 B3
  go_wp2_with fail
  refine(rK _ w.heap.size w.heap.size b4 (s*31821) 13849 Z4.out.blk Z4.out Y4.out (aW HR.out.1) (aW aB)).mono ?_
  rintro e w5 ⟨rfl,hI,hG⟩
  have Z5:=hid hI
  have B5:=hid (bK B4.out hG (al0z _))
  clear hI hG Z4 Y4 B4
  go_wp2_with fail
  refine(kP _ 65536 ah ah).mono ?_
  rintro e w6 ⟨b6,rfl,hb6,hI,hB⟩
  have Z6:=hid (Z5.out.below hB (al0z _))
  have Y6:=hid hI
  have B6:=hid (B5.out.trans (hB.mono B5.out.size))
  clear hI hB Z5 B5
  go_wp2_with fail
  refine(Po _ w.heap.size w.heap.size b6 (s*31821+13849) 65536 Z6.out.blk Z6.out Y6.out (.inr aB) (aW HR.out.2) aB aB).mono ?_
  rintro e w7 ⟨rfl,hI,hG⟩
  rw[HS.out] at hI
  have Z7:=hid hI
  have B7:=hid (bK B6.out hG (al0z _))
  clear hI hG Z6 Y6 B6
  go_wp2_with fail
  refine(oP _ w.heap.size y Z7.out ah ah).mono ?_
  rintro e w8 ⟨rfl,rfl⟩
  obtain⟨m1,m2⟩:=FU (b:=0) h1 h2 ah ah
  exact l31
 ·skip
  rw[e0] at HX
  clear e0
  go_enter Tryz.func188,Tryz.ntmps188
  go_wp2_with fail
  refine(fJ _ s hs1 hs2).mono ?_
  rintro e w1 ⟨b1,rfl,hb1,hI,hB⟩
  have Z1:=hid (IntBlk.below (IntBlk.new w (.bool false) (.slice none 0 0)) hB (al0z _))
  have I1:=hid hI
  have B1:=hid (((aA _ w).alloc (al0z _) (.cells #[.bool false,.slice none 0 0] 80)).trans (hB.mono az))
  clear hI hB
  go_wp2_with fail
  refine(kP _ 31821 ah ah).mono ?_
  rintro e w2 ⟨b2,rfl,hb2,hI,hB⟩
  have Z2:=hid (Z1.out.below hB (al0z _))
  have X2:=hid (I1.out.below hB (al0z _))
  have Y2:=hid hI
  have B2:=hid (B1.out.trans (hB.mono B1.out.size))
  clear hI hB Z1 I1 B1
  go_wp2_with fail
  refine(iK _ w.heap.size b1 b2 s 31821 Z2.out X2.out Y2.out (aW ah) (aW aB)).mono ?_
  rintro e w3 ⟨rfl,hI,hG⟩
  have Z3:=hid hI
  have B3:=hid (bK B2.out hG (al0z _))
  clear hI hG Z2 X2 Y2 B2
  go_wp2_with fail
  refine(kP _ 13849 ah ah).mono ?_
  rintro e w4 ⟨b4,rfl,hb4,hI,hB⟩
  have Z4:=hid (Z3.out.below hB (al0z _))
  have Y4:=hid hI
  have B4:=hid (B3.out.trans (hB.mono B3.out.size))
  clear hI hB Z3 B3
  go_wp2_with fail
  refine(rK _ w.heap.size w.heap.size b4 (s*31821) 13849 Z4.out.blk Z4.out Y4.out (aW HR.out.1) (aW aB)).mono ?_
  rintro e w5 ⟨rfl,hI,hG⟩
  have Z5:=hid hI
  have B5:=hid (bK B4.out hG (al0z _))
  clear hI hG Z4 Y4 B4
  go_wp2_with fail
  refine(kP _ 65536 ah ah).mono ?_
  rintro e w6 ⟨b6,rfl,hb6,hI,hB⟩
  have Z6:=hid (Z5.out.below hB (al0z _))
  have Y6:=hid hI
  have B6:=hid (B5.out.trans (hB.mono B5.out.size))
  clear hI hB Z5 B5
  go_wp2_with fail
  refine(Po _ w.heap.size w.heap.size b6 (s*31821+13849) 65536 Z6.out.blk Z6.out Y6.out (.inr aB) (aW HR.out.2) aB aB).mono ?_
  rintro e w7 ⟨rfl,hI,hG⟩
  rw[HS.out] at hI
  have Z7:=hid hI
  have B7:=hid (bK B6.out hG (al0z _))
  clear hI hG Z6 Y6 B6
  go_wp2_with fail
  refine(oP _ w.heap.size y Z7.out ah ah).mono ?_
  rintro e w8 ⟨rfl,rfl⟩
  obtain⟨m1,m2⟩:=FU (b:=z) h1 h2 ah ah
  exact l31
 skip
 rw[e0] at HX
 clear e0
 go_enter Tryz.func188,Tryz.ntmps188
 go_wp2_with fail
 refine(fJ _ s hs1 hs2).mono ?_
 rintro e w1 ⟨b1,rfl,hb1,hI,hB⟩
 have Z1:=hid (IntBlk.below (IntBlk.new w (.bool false) (.slice none 0 0)) hB (al0z _))
 have I1:=hid hI
 have B1:=hid (((aA _ w).alloc (al0z _) (.cells #[.bool false,.slice none 0 0] 80)).trans (hB.mono az))
 clear hI hB
 go_wp2_with fail
 refine(kP _ 31821 ah ah).mono ?_
 rintro e w2 ⟨b2,rfl,hb2,hI,hB⟩
 have Z2:=hid (Z1.out.below hB (al0z _))
 have X2:=hid (I1.out.below hB (al0z _))
 have Y2:=hid hI
 have B2:=hid (B1.out.trans (hB.mono B1.out.size))
 clear hI hB Z1 I1 B1
 go_wp2_with fail
 refine(iK _ w.heap.size b1 b2 s 31821 Z2.out X2.out Y2.out (aW ah) (aW aB)).mono ?_
 rintro e w3 ⟨rfl,hI,hG⟩
 have Z3:=hid hI
 have B3:=hid (bK B2.out hG (al0z _))
 clear hI hG Z2 X2 Y2 B2
 go_wp2_with fail
 refine(kP _ 13849 ah ah).mono ?_
 rintro e w4 ⟨b4,rfl,hb4,hI,hB⟩
 have Z4:=hid (Z3.out.below hB (al0z _))
 have Y4:=hid hI
 have B4:=hid (B3.out.trans (hB.mono B3.out.size))
 clear hI hB Z3 B3
 go_wp2_with fail
 refine(rK _ w.heap.size w.heap.size b4 (s*31821) 13849 Z4.out.blk Z4.out Y4.out (aW HR.out.1) (aW aB)).mono ?_
 rintro e w5 ⟨rfl,hI,hG⟩
 have Z5:=hid hI
 have B5:=hid (bK B4.out hG (al0z _))
 clear hI hG Z4 Y4 B4
 go_wp2_with fail
 refine(kP _ 65536 ah ah).mono ?_
 rintro e w6 ⟨b6,rfl,hb6,hI,hB⟩
 have Z6:=hid (Z5.out.below hB (al0z _))
 have Y6:=hid hI
 have B6:=hid (B5.out.trans (hB.mono B5.out.size))
 clear hI hB Z5 B5
 go_wp2_with fail
 refine(Po _ w.heap.size w.heap.size b6 (s*31821+13849) 65536 Z6.out.blk Z6.out Y6.out (.inr aB) (aW HR.out.2) aB aB).mono ?_
 rintro e w7 ⟨rfl,hI,hG⟩
 rw[HS.out] at hI
 have Z7:=hid hI
 have B7:=hid (bK B6.out hG (al0z _))
 clear hI hG Z6 Y6 B6
 go_wp2_with fail
 refine(oP _ w.heap.size y Z7.out ah ah).mono ?_
 rintro e w8 ⟨rfl,rfl⟩
 obtain⟨m1,m2⟩:=FU (b:=32767) h1 h2 ah ah
 exact l31
end Go.Proofs.YthoiikkjjaldnaaGreatDoor
