/- Texts that the law rests on. -/
import Derived.Test.YthoiikkjjaldnaaGreatDoorZ1e0g
import Derived.Test.YthoiikkjjaldnaaGreatDoorZ1e02
namespace Go.Proofs.YthoiikkjjaldnaaGreatDoor
set_option linter.unusedVariables false
set_option linter.unusedSimpArgs false
set_option maxRecDepth 100000
set_option maxHeartbeats 8000000
open Go.RowKit
def PY(w:World)(b:Bool)(e:Ending)(w':World):Prop:=e=.returned (.bool b)/\Below w.heap.size w w'
theorem PZ(a:List Int)(w:World)(ha:a.length=8):Calls Tryz.prog 176 #[.agg (agi a)] w (PY w (bM a)):=by
 have hI:=hid (IB.new w 22 a)
 have HA:=hid ha
 have hix:=fun(k:Nat) (hk:k<8) (w:World)=>jp Tryz.underlying22 a ha k hk w
 have HIX:=hid hix
 clear ha hix
 go_enter Tryz.func176,Tryz.ntmps176
 go_wp2_with(refine aK rfl 22 (.tmp 1) rfl _ 22 a 8 _ rfl hI.out Tryz.underlying22 rfl aH HA.out ?_)
 go_loop [6] (fun iv=> ∃k:Nat,k<=8/\iv=.int .i64 k/\Hid (allTo okR a k)) (fun iv=>8-(intOf iv).toNat)
 case atStart=>exact⟨0,ah,rfl,hid allTo.zero⟩
 case round=>
  obtain⟨k,hk,rfl,HY⟩:=hrel
  by_cases hlt:k<8
  ·have hix:=HIX.out k hlt
   obtain⟨x,hx⟩:∃x,x=a.getD k 0:=⟨_,rfl⟩
   rw[<-hx] at hix
   have HX:=hid hx
   clear hx
   by_cases b1:x<= -32768
   ·have HF:=hid (show bM a=false from iL (i:=k) uk (CC EI))
    exact U9
   by_cases b2:32768<=x
   ·have HF:=hid (show bM a=false from iL (i:=k) uk (CC EJ))
    exact U9
   have HN:=hid (HY.out.succ (by rw[<-HX.out];exact zC ah ah))
   exact l47
  obtain rfl:k=8:=ah
  have HF:=hid (show bM a=true from HY.out.all EG)
  exact U9
theorem WQ(w:World)(b c d:Nat)(x y:Int)(hb:IntBlk w b)(hc:IntAt w c x)(hd:IntAt w d y)
 (hx:x.natAbs<18446744073709551616\/y.natAbs<4294967296) (hy:y≠0) (sx:Sm x.natAbs) (sy:Sm y.natAbs):
 Calls Tryz.prog 113 #[.pointer (some ⟨b,0,none⟩),.pointer (some ⟨c,0,none⟩),.pointer (some ⟨d,0,none⟩)] w (jE w b (x.tdiv y)):=by
 have HB:=hid hb
 have HC:=hid hc
 have HD:=hid hd
 have hlb:=hb.lt
 have K:=hid (VN (w.alloc (.cells #[.bool false,.slice none 0 0] 80)) b c d w.heap.size x y (hb.below ((aA _ _).alloc (al0z _) _) (al0z _)) (hc.below ((aA _ _).alloc (al0z _) _) (al0z _)) (hd.below ((aA _ _).alloc (al0z _) _) (al0z _)) (IntBlk.new w _ _) ah hx hy sx sy)
 clear hb hc hd hx hy
 go_enter Tryz.func113,Tryz.ntmps113
 go_wp2_with fail
 refine K.out.mono ?_
 rintro e w1 ⟨rfl,hQ,hR,w1',g1,g2⟩
 have q1:=hid hQ
 have q2:=hid (And.intro g1 g2)
 clear hQ hR g1 g2
 go_wp2
 go_ret
 refine⟨rfl,q1.out,?_⟩
 obtain⟨g1,g2⟩:=q2.out
 have hs1:=g1.size
 have hs2:=g2.size
 simp at hs1
 exact⟨g2.os.trans g1.os,g2.tape.trans g1.tape,g2.output.trans g1.output,ah,fun k hk hn=>by
  rw[g2.block k ah aJ,g1.block k aJ hn]
  exact Below.heap_alloc _ _ _ hk⟩
theorem aeG(w:World)(c:Nat)(x:Int)(hc:IntAt w c x)(sx:Sm x.natAbs):
 Calls Tryz.prog 112 #[.pointer (some ⟨c,0,none⟩)] w fun e w'=>e=.returned (.int .i64 (fH x.natAbs:Nat))/\w=w':=by
 obtain⟨v,h0,h1,hv⟩:=hc.cells
 have K:=hid (Pi w v _ hv sx)
 clear hv hc
 go_enter Tryz.func112,Tryz.ntmps112
 go_wp2_with(go_at_call 154;refine K.out.mono ?_;rintro e w1 ⟨rfl,rfl⟩)
 go_ret
 exact⟨rfl,rfl⟩
theorem aeH(w:World)(c:Nat)(x:Int)(hc:IntAt w c x)(h1: -9223372036854775808<x)(h2:x<=9223372036854775807):
 Calls Tryz.prog 114 #[.pointer (some ⟨c,0,none⟩)] w fun e w'=>e=.returned (.bool true)/\w=w':=by
 obtain⟨v,h0,h3,hv⟩:=hc.cells
 have hb:fH x.natAbs<=63:=xJ ah
 have K:=hid (Pi w v _ hv (aW ah))
 clear hv hc
 generalize fH x.natAbs=n at*
 have d1:decide (n<64)=true:=aJ
 go_enter Tryz.func114,Tryz.ntmps114
 go_wp2_with(go_at_call 154;refine K.out.mono ?_;rintro e w1 ⟨rfl,rfl⟩)
 go_ret
 exact⟨rfl,rfl⟩
theorem aeI(w:World)(n:Nat)(o:Obj):Below w.heap.size w ((w.drewN n).alloc o):=
 Below.alloc (a:=w) (w:=w.drewN n) ⟨rfl,rfl,rfl,al0z _,fun _ _=>rfl⟩ (al0z _) o
structure Bx3(w wr:World)(a b r:List Int):Prop where
 A:IB wr w.heap.size 22 a
 B:IB wr (w.heap.size+1) 22 b
 R:IB wr (w.heap.size+1+1) 22 r
 bel:Below w.heap.size w wr
theorem Bx3.lt{w wr:World}{a b r:List Int}(h:Bx3 w wr a b r):w.heap.size+1+1<wr.heap.size:=Blk.lt h.R
theorem Bx3.below{w wr wr':World}{a b r:List Int}(h:Bx3 w wr a b r)(hb:Below wr.heap.size wr wr'):Bx3 w wr' a b r:=
 ⟨Blk.below' h.A hb,Blk.below' h.B hb,Blk.below' h.R hb,h.bel.trans (hb.mono rI)⟩
theorem Bx3.setCell{w wr:World}{a b r:List Int}(h:Bx3 w wr a b r){g:Nat}(hg:w.heap.size+1+1<g)(k:Nat)(v:Value):Bx3 w (wr.setCell ⟨g,k,none⟩ v) a b r:=
 ⟨Blk.far h.A UW _,Blk.far h.B UN _,Blk.far h.R (by show w.heap.size+1+1≠g;omega) _,h.bel.setCell (p:=⟨g,k,none⟩) UZ _⟩
theorem Bx3.start(w:World)(a b:List Int):Bx3 w (((w.alloc (.cells (agi a) 22)).alloc (.cells (agi b) 22)).alloc (.cells (agi Z8) 22)) a b Z8:=by
 have h1:=IB.new w 22 a
 have h2:=IB.new (w.alloc (.cells (agi a) 22)) 22 b
 have h3:=IB.new ((w.alloc (.cells (agi a) 22)).alloc (.cells (agi b) 22)) 22 Z8
 exact abO
theorem aeJ(a b:List Int)(num:Int)(w:World)(ha:a.length=8)(hb:b.length=8)(hn: -9223372036854775808<=num)(hn2:num<=9223372036854775807):Calls Tryz.prog 119 #[.agg (agi a),.agg (agi b),.int .i64 num] w (yu w a b num):=by
 have I0:=hid (Bx3.start w a b)
 have hR:=oL (fn:=Tryz.f119) (p:=6) (q:=7) (ty:=22) rfl
 by_cases h1:num<0\/4<num
 ·have FIN:=hid (CZ (a:=a) (b:=b) (num:=num) (by unfold jK;simp;omega) (aS I0.out.bel (g:=w.heap.size+1+1) ah (agi Z8)))
  have hRow2:=hid (I0.out.R.setRow Z8)
  rcases h1 with h1|h1
  ·have d1:decide (num<0)=true:=qo
   go_enter Tryz.func119,Tryz.ntmps119
   go_wp2_with(refine aP rfl 22 (.tmp 6) (.tmp 27) rfl _ 22 Z8 Z8 8 rfl rfl I0.out.R aH rfl rfl ?_)
   exact l61
  have d1:decide (num<0)=false:=aJ
  have d2:decide (4<num)=true:=qo
  go_enter Tryz.func119,Tryz.ntmps119
  go_wp2_with(refine aP rfl 22 (.tmp 6) (.tmp 27) rfl _ 22 Z8 Z8 8 rfl rfl I0.out.R aH rfl rfl ?_)
  exact l61
 have h0:0<=num:=ah
 have h4:num<=4:=ah
 have d1:decide (num<0)=false:=aJ
 have d2:decide (4<num)=false:=aJ
 have KA:=hid (fun w1=>PZ a w1 ha)
 have KB:=hid (fun w1=>PZ b w1 hb)
 have HA:=hid ha
 have HB:=hid hb
 clear h1 ha hb
 by_cases sa:bM a=true
 ·rw[sa] at KA
  by_cases sb:bM b=true
  ·rw[sb] at KB
   have hg:jK a b num=true:=by unfold jK;rw[sa,sb];simp;omega
   have FIN:=hid (fun(w1:World) (ys:List Int)=>WP (w:=w) (w':=w1) (ys:=ys) hg)
   have SA:=hid (fun i=>xQ sa i)
   have SB:=hid (fun i=>xQ sb i)
   clear sa sb hg
   go_enter Tryz.func119,Tryz.ntmps119
   go_wp2_with(refine aK rfl 22 (.tmp 3) rfl _ 22 a 8 _ rfl I0.out.A Tryz.underlying22 rfl aH HA.out ?_)
   refine(KA.out _).mono ?_
   rintro e w1 ⟨rfl,hB1⟩
   have I1:=hid (I0.out.below hB1)
   clear hB1
   go_wp2_with(refine aK rfl 22 (.tmp 4) rfl _ 22 b 8 _ rfl I1.out.B Tryz.underlying22 rfl aH HB.out ?_)
   refine(KB.out _).mono ?_
   rintro e w2 ⟨rfl,hB2⟩
   have I2:=hid (I1.out.below hB2)
   have hl2:=I2.out.lt
   clear hB2 I1
   have I3:=hid (I2.out.below ((aA _ _).alloc (al0z _) (.cells (agi Z8) 22)))
   have O3:=hid (IB.new w2 22 Z8)
   rw[bW] at I3 O3
   go_wp2
   go_loopw[28] (fun iv wr=> ∃(k:Nat) (ys:List Int),k<=8/\iv=.int .i64 k/\Hid (ys.length=8/\∀j,j<k->ys.getD j 0=oh a b num j)/\Hid (Bx3 w wr a b Z8)/\Hid (IB wr w2.heap.size 22 ys)) (fun iv _=>8-(intOf iv).toNat)
   case atStart=>exact⟨0,Z8,ah,rfl,hid ⟨rfl,fun j h=>ah⟩,I3,O3⟩
   case round=>
    clear I3 O3 I2 I0 KA KB
    obtain⟨k,ys,hk,rfl,HY,HI,HO⟩:=hrel
    by_cases hlt:k<8
    ·have ca:=HI.out.A.cell k uk
     have cb:=HI.out.B.cell k (by rw[HB.out];exact hlt)
     have ra:=SA.out k
     have rb:=SB.out k
     obtain⟨x,hx⟩:∃x,x=a.getD k 0:=⟨_,rfl⟩
     obtain⟨y,hy⟩:∃y,y=b.getD k 0:=⟨_,rfl⟩
     rw[<-hx] at ca ra
     rw[<-hy] at cb rb
     have HX:=hid hx
     have HYY:=hid hy
     clear hx hy
     obtain⟨b1,b2⟩:=ra
     obtain⟨b3,b4⟩:=rb
     obtain⟨m1,m2,m3,m4⟩:=VS ⟨b1,b2⟩ ⟨b3,b4⟩ ⟨h0,h4⟩
     go_wp2
     go_quiet (fail)
     obtain⟨s,hs⟩:∃s,s=x*(4-num)+y*num:=⟨_,rfl⟩
     rw[<-hs]
     have hs1: -524288<=s:=ah
     have hs2:s<=524288:=ah
     have NEXT:=hid (show Hid ((ys.set k (s.tdiv 4)).length=8/\∀j,j<k+1->(ys.set k (s.tdiv 4)).getD j 0=oh a b num j) from by
      obtain⟨q1,q4⟩:=HY.out
      refine⟨xu,fun j hj=>?_⟩
      by_cases he:k=j
      ·subst he
       rw[gQ _ _ _ ah,oh,<-HX.out,<-HYY.out,hs]
      ·rw[iw _ _ he]
       exact q4 j ah)
     clear hs ca cb m1 m2 m3 m4
     have hls:=HI.out.lt
     have hlo:=Blk.lt HO.out
     go_wp2_with fail
     refine(fJ _ s ah ah).mono ?_
     rintro e w3 ⟨b3,rfl,hb3,hI,hB⟩
     have Z3:=hid (IntBlk.below (IntBlk.new (wr.drewN _) (.bool false) (.slice none 0 0)) hB (al0z _))
     have X3:=hid hI
     have B3:=hid (show Below wr.heap.size wr w3 from(aeI wr _ _).trans (hB.mono az))
     clear hI hB
     go_wp2_with fail
     refine(kP _ 4 ah ah).mono ?_
     rintro e w4 ⟨b4,rfl,hb4,hI,hB⟩
     have X4:=hid (X3.out.below hB (al0z _))
     have Y4:=hid hI
     have Z4:=hid (Z3.out.below hB (al0z _))
     have B4:=hid (B3.out.trans (hB.mono B3.out.size))
     clear hI hB X3 Z3 B3
     go_wp2_with fail
     refine(WQ _ wr.heap.size b3 b4 s 4 Z4.out X4.out Y4.out (.inl ah) ah (aW ah) (aW aB)).mono ?_
     rintro e w5 ⟨rfl,hI,hG⟩
     have Z5:=hid hI
     have B5:=hid (bK B4.out hG (al0z _))
     have ht1:=Pq (x:=s) (e:=4) ah
     clear hI hG X4 Y4 Z4 B4
     go_wp2_with fail
     refine(oP _ wr.heap.size (s.tdiv 4) Z5.out ah ah).mono ?_
     rintro e w6 ⟨rfl,rfl⟩
     have HI5:=hid (HI.out.below B5.out)
     have HO5:=hid (Blk.below' HO.out B5.out)
     have co:=IB.cell HO5.out k rG
     have fo:=Blk.frozen HO5.out k
     have HI6:=hid (HI5.out.setCell (g:=w2.heap.size) hl2 k (.int .i64 (s.tdiv 4)))
     have HO6:=hid (IB.set_ HO5.out k (s.tdiv 4))
     clear ht1 B5 Z5
     go_wp2
     go_roundw
     case rel=>exact⟨k+1,_,ah,aO,NEXT.out,HI6,HO6⟩
     case measure=>simp[intOf]<;>omega
    obtain rfl:k=8:=ah
    have F2:=hid (FIN.out (wr.setRow (w.heap.size+1+1) (agi ys)) ys HY.out.1 HY.out.2 (aS HI.out.bel (g:=w.heap.size+1+1) ah (agi ys)))
    have hRow:=hid (HI.out.R.setRow ys)
    clear hlt
    go_wp2_with(first
     |(refine aK rfl 22 (.tmp 8) rfl _ 22 ys 8 _ rfl HO.out Tryz.underlying22 rfl aH HY.out.1 ?_)
     |(refine aP rfl 22 (.tmp 6) (.tmp 52) rfl _ 22 Z8 ys 8 rfl rfl HI.out.R aH rfl HY.out.1 ?_))
    refine bg (v:=_) (hR _ _ _ 22 ys _ 8 rfl hRow.out Tryz.underlying22 rfl aH HY.out.1) rfl ?_
    exact F2.out
  have sb':bM b=false:=by simpa using sb
  have sa':=sa
  rw[sb'] at KB
  have FIN:=hid (fun(w1:World)=>CZ (w:=w) (w':=w1) (a:=a) (b:=b) (num:=num) (by unfold jK;rw[sb'];simp))
  clear sa sb sb' sa'
  go_enter Tryz.func119,Tryz.ntmps119
  go_wp2_with(refine aK rfl 22 (.tmp 3) rfl _ 22 a 8 _ rfl I0.out.A Tryz.underlying22 rfl aH HA.out ?_)
  refine(KA.out _).mono ?_
  rintro e w1 ⟨rfl,hB1⟩
  have I1:=hid (I0.out.below hB1)
  clear hB1
  go_wp2_with(refine aK rfl 22 (.tmp 4) rfl _ 22 b 8 _ rfl I1.out.B Tryz.underlying22 rfl aH HB.out ?_)
  refine(KB.out _).mono ?_
  rintro e w2 ⟨rfl,hB2⟩
  have I2:=hid (I1.out.below hB2)
  have F2:=hid (FIN.out _ (aS I2.out.bel (g:=w.heap.size+1+1) ah (agi Z8)))
  have hRow:=hid (I2.out.R.setRow Z8)
  clear hB2 I1
  go_wp2_with(refine aP rfl 22 (.tmp 6) (.tmp 27) rfl _ 22 Z8 Z8 8 rfl rfl I2.out.R aH rfl rfl ?_)
  exact acm
 have sa':bM a=false:=by simpa using sa
 rw[sa'] at KA
 have FIN:=hid (fun(w1:World)=>CZ (w:=w) (w':=w1) (a:=a) (b:=b) (num:=num) (by unfold jK;rw[sa'];simp))
 clear sa sa'
 go_enter Tryz.func119,Tryz.ntmps119
 go_wp2_with(refine aK rfl 22 (.tmp 3) rfl _ 22 a 8 _ rfl I0.out.A Tryz.underlying22 rfl aH HA.out ?_)
 refine(KA.out _).mono ?_
 rintro e w1 ⟨rfl,hB1⟩
 have I1:=hid (I0.out.below hB1)
 have F2:=hid (FIN.out _ (aS I1.out.bel (g:=w.heap.size+1+1) ah (agi Z8)))
 have hRow:=hid (I1.out.R.setRow Z8)
 clear hB1
 go_wp2_with(refine aP rfl 22 (.tmp 6) (.tmp 27) rfl _ 22 Z8 Z8 8 rfl rfl I1.out.R aH rfl rfl ?_)
 exact acm
structure Bx2(t:TypeId)(w wr:World)(a r:List Int):Prop where
 A:IB wr w.heap.size t a
 R:IB wr (w.heap.size+1) 90 r
 bel:Below w.heap.size w wr
theorem Bx2.lt{t:TypeId}{w wr:World}{a r:List Int}(h:Bx2 t w wr a r):w.heap.size+1<wr.heap.size:=Blk.lt h.R
theorem Bx2.below{t:TypeId}{w wr wr':World}{a r:List Int}(h:Bx2 t w wr a r)(hb:Below wr.heap.size wr wr'):Bx2 t w wr' a r:=
 ⟨Blk.below' h.A hb,Blk.below' h.R hb,h.bel.trans (hb.mono rI)⟩
theorem Bx2.setCell{t:TypeId}{w wr:World}{a r:List Int}(h:Bx2 t w wr a r){g:Nat}(hg:w.heap.size+1<g)(k:Nat)(v:Value):Bx2 t w (wr.setCell ⟨g,k,none⟩ v) a r:=
 ⟨Blk.far h.A UW _,Blk.far h.R UN _,h.bel.setCell (p:=⟨g,k,none⟩) UZ _⟩
theorem Bx2.drew{t:TypeId}{w wr:World}{a r:List Int}(h:Bx2 t w wr a r):Bx2 t w wr.drew a r:=⟨h.A,h.R,h.bel.drew⟩
theorem Bx2.start(t:TypeId)(w:World)(a:List Int):Bx2 t w ((w.alloc (.cells (agi a) t)).alloc (.cells (agi Z9) 90)) a Z9:=by
 have h1:=IB.new w t a
 have h2:=IB.new (w.alloc (.cells (agi a) t)) 90 Z9
 simp only[bU] at h2
 exact⟨Blk.alloc h1 _,h2,(((aA _ _).alloc (al0z _) _).alloc az _)⟩
def rU(n:Int):Bool:=decide (0<=n/\n<=7)
def bP(n:Int):Int:=if rU n then aY.getD n.toNat 0 else 0
theorem zF{n:Int}(h1:0<=n)(h2:n<=7):rU n=true:=by unfold rU;simp;omega
theorem Gv{n:Int}(h:n<0\/7<n):rU n=false:=by unfold rU;simp;omega
theorem Xb(n:Int)(w:World)(T:TabA w 2 aY):
 Calls Tryz.prog 97 #[.int .i64 n] w fun e w'=>e=.returned (.tuple #[.int .i64 (bP n),.int .i64 (aZ (rU n))])/\w=w':=by
 by_cases h1:n<0\/7<n
 ·rw[show bP n=0 from by unfold bP;rw[Gv h1];rfl,Gv h1]
  rcases h1 with h1|h1
  ·exact Vf
  have h2: ¬n<0:=ah
  have h3:8<=n:=ah
  exact Vf
 ·obtain⟨k,rfl⟩:=dP (show 0<=n from ah)
  have hk:k<8:=ah
  have hc:=T.cell k hk
  rw[show bP (k:Nat)=aY.getD k 0 from by unfold bP;rw[zF ah ah];rfl,zF ah ah]
  generalize aY.getD k 0=v at*
  clear h1 T
  exact Vf
theorem aeW(n:Int)(w:World)(T:TabS w 1 aY):
 Calls Tryz.prog 132 #[.int .i64 n] w fun e w'=>e=.returned (.tuple #[.int .i64 (bP n),.int .i64 (aZ (rU n))])/\w=w':=by
 by_cases h1:n<0\/7<n
 ·rw[show bP n=0 from by unfold bP;rw[Gv h1];rfl,Gv h1]
  rcases h1 with h1|h1
  ·exact Vb
  have h2: ¬n<0:=ah
  exact Vb
 ·obtain⟨k,rfl⟩:=dP (show 0<=n from ah)
  have hk:k<8:=ah
  obtain⟨A,c,h0,hlen,hc⟩:=T.form
  obtain⟨ad,rfl,hc⟩:=hc k hk
  have h0:w.cell? ⟨1,0,none⟩=some (.slice (some ad) 8 c):=h0
  rw[show bP (k:Nat)=aY.getD k 0 from by unfold bP;rw[zF ah ah];rfl,zF ah ah]
  generalize aY.getD k 0=v at*
  clear h1 T hlen
  exact Vb
theorem zG(x:Int):bits BinOp.and IntKind.i64 x 1=x%2:=by
 have h:(BitVec.ofInt 64 x&&&BitVec.ofInt 64 1).toNat=(x%2).toNat:=by
  rw[BitVec.toNat_and,BitVec.toNat_ofInt,show(BitVec.ofInt 64 1).toNat=2^1-1 from aB,Nat.and_two_pow_sub_one_eq_mod]
  omega
 show IntKind.i64.wrap ((BitVec.ofInt 64 x&&&BitVec.ofInt 64 1).toNat:Int)=_
 rw[h,oJ]
 omega
def lvM(i:Int):Int:=2^(bJ i).toNat
def bh(i n:Int):Int:=if bJ i=0 then 4 else if n<0\/lvM i<=n then 2 else 0
def bF(m n:Int):Int:=31000-31000*(2*(m-n)-1)*(2*(m-n)-1)/(m*m)
def lvV(i n:Int):Int:=if bh i n=0 then(if 2*n<lvM i then-bF (lvM i) (lvM i-1-n) else bF (lvM i) n) else 0
theorem Xv(i:Int)(w:World)(T:TabS w 0 fD):
 Calls Tryz.prog 173 #[.int .i64 i] w fun e w'=>e=.returned (.int .i64 (bJ i))/\w=w':=by
 by_cases h1:i<0\/7<i
 ·rw[Qm h1]
  rcases h1 with h1|h1
  ·exact Ve
  have h2:0<=i:=ah
  exact Ve
 ·obtain⟨k,rfl⟩:=dP (show 0<=i from ah)
  have hk:k<8:=ah
  obtain⟨A,c,h0,hlen,hc⟩:=T.form
  obtain⟨ad,rfl,hc⟩:=hc k hk
  have h0:w.cell? ⟨0,0,none⟩=some (.slice (some ad) 8 c):=h0
  rw[show bJ (k:Nat)=fD.getD k 0 from U0]
  generalize fD.getD k 0=v at*
  clear h1 T hlen
  exact Ve
theorem kX(r m:Int)(h1:0<=r)(h2:r<=m)(hm:m<=128):0<=31000*r/\31000*r<=3968000/\0<=31000*r*r/\31000*r*r<=507904000:=by
 have h3:31000*r*r<=3968000*128:=Int.mul_le_mul ah ah h1 ah
 have h4:0<=31000*r*r:=Int.mul_nonneg ah h1
 omega
def bG(i n:Int)(w:World)(e:Ending)(w':World):Prop:=e=.returned (.tuple #[.int .i64 (lvV i n),.int .i64 (bh i n)])/\w=w'
theorem afs(i n:Int)(w:World)(hw:bJ i=6)(K:Calls Tryz.prog 143 #[.int .i64 i] w fun e w'=>e=.returned (.int .i64 (6))/\w=w'):
 Calls Tryz.prog 87 #[.int .i64 i,.int .i64 n] w (bG i n w):=by
 have hM:lvM i=64:=jP
 have K:=hid K
 by_cases h1:n<0\/63<n
 ·have hE:bh i n=2:=xy
  have hV:lvV i n=0:=xC
  have FIN:bG i n w (.returned (.tuple #[.int .i64 0,.int .i64 2])) w:=⟨vC,rfl⟩
  have FIN:=hid FIN
  clear hw hM hE hV
  rcases h1 with h1|h1
  ·exact l11
  have h2: ¬n<0:=ah
  exact l11
 ·have hE:bh i n=0:=lH
  have l1:0<=n:=ah
  have l2:n<=63:=ah
  have l3: ¬n<0:=ah
  have l4: ¬63<n:=ah
  by_cases hs:2*n<64
  ·have x1:2*n-63<0:=ah
   have hV:lvV i n= -bF 64 (64-1-n):=wY
   have q:=kX (64+(2*n-63)) 128 ah ah ah
   obtain⟨q1,q2,q3,q4⟩:=q
   have q5:=Int.ediv_nonneg q3 (show 0<=(64*64:Int) from aB)
   have q6:31000*(64+(2*n-63))*(64+(2*n-63))/(64*64)<=507904000:=ah
   have hP:bF 64 (64-1-n)=31000-31000*(64+(2*n-63))*(64+(2*n-63))/(64*64):=by
    unfold bF
    rw[show 2*((64:Int)-(64-1-n))-1=64+(2*n-63) from ah]
   have FIN:bG i n w (.returned (.tuple #[.int .i64 (-(31000-31000*(64+(2*n-63))*(64+(2*n-63))/(64*64))),.int .i64 0])) w:=⟨xw,rfl⟩
   have FIN:=hid FIN
   clear hw hM hE hV hP h1 hs
   exact l11
  have x1: ¬2*n-63<0:=ah
  have hV:lvV i n=bF 64 n:=Lp
  have q:=kX (64-(2*n-63)) 128 ah ah ah
  obtain⟨q1,q2,q3,q4⟩:=q
  have q5:=Int.ediv_nonneg q3 (show 0<=(64*64:Int) from aB)
  have q6:31000*(64-(2*n-63))*(64-(2*n-63))/(64*64)<=507904000:=ah
  have hP:bF 64 n=31000-31000*(64-(2*n-63))*(64-(2*n-63))/(64*64):=by
   unfold bF
   rw[show 2*((64:Int)-n)-1=64-(2*n-63) from ah]
  have FIN:bG i n w (.returned (.tuple #[.int .i64 (31000-31000*(64-(2*n-63))*(64-(2*n-63))/(64*64)),.int .i64 0])) w:=⟨xw,rfl⟩
  have FIN:=hid FIN
  clear hw hM hE hV hP h1 hs
  exact l11
theorem aft(i n:Int)(w:World)(hw:bJ i=5)(K:Calls Tryz.prog 143 #[.int .i64 i] w fun e w'=>e=.returned (.int .i64 (5))/\w=w'):
 Calls Tryz.prog 87 #[.int .i64 i,.int .i64 n] w (bG i n w):=by
 have hM:lvM i=32:=jP
 have K:=hid K
 by_cases h1:n<0\/31<n
 ·have hE:bh i n=2:=xy
  have hV:lvV i n=0:=xC
  have FIN:bG i n w (.returned (.tuple #[.int .i64 0,.int .i64 2])) w:=⟨vC,rfl⟩
  have FIN:=hid FIN
  clear hw hM hE hV
  rcases h1 with h1|h1
  ·exact l11
  have h2: ¬n<0:=ah
  exact l11
 ·have hE:bh i n=0:=lH
  have l1:0<=n:=ah
  have l2:n<=31:=ah
  have l3: ¬n<0:=ah
  have l4: ¬31<n:=ah
  by_cases hs:2*n<32
  ·have x1:2*n-31<0:=ah
   have hV:lvV i n= -bF 32 (32-1-n):=wY
   have q:=kX (32+(2*n-31)) 128 ah ah ah
   obtain⟨q1,q2,q3,q4⟩:=q
   have q5:=Int.ediv_nonneg q3 (show 0<=(32*32:Int) from aB)
   have q6:31000*(32+(2*n-31))*(32+(2*n-31))/(32*32)<=507904000:=ah
   have hP:bF 32 (32-1-n)=31000-31000*(32+(2*n-31))*(32+(2*n-31))/(32*32):=by
    unfold bF
    rw[show 2*((32:Int)-(32-1-n))-1=32+(2*n-31) from ah]
   have FIN:bG i n w (.returned (.tuple #[.int .i64 (-(31000-31000*(32+(2*n-31))*(32+(2*n-31))/(32*32))),.int .i64 0])) w:=⟨xw,rfl⟩
   have FIN:=hid FIN
   clear hw hM hE hV hP h1 hs
   exact l11
  have x1: ¬2*n-31<0:=ah
  have hV:lvV i n=bF 32 n:=Lp
  have q:=kX (32-(2*n-31)) 128 ah ah ah
  obtain⟨q1,q2,q3,q4⟩:=q
  have q5:=Int.ediv_nonneg q3 (show 0<=(32*32:Int) from aB)
  have q6:31000*(32-(2*n-31))*(32-(2*n-31))/(32*32)<=507904000:=ah
  have hP:bF 32 n=31000-31000*(32-(2*n-31))*(32-(2*n-31))/(32*32):=by
   unfold bF
   rw[show 2*((32:Int)-n)-1=32-(2*n-31) from ah]
  have FIN:bG i n w (.returned (.tuple #[.int .i64 (31000-31000*(32-(2*n-31))*(32-(2*n-31))/(32*32)),.int .i64 0])) w:=⟨xw,rfl⟩
  have FIN:=hid FIN
  clear hw hM hE hV hP h1 hs
  exact l11
theorem afu(i n:Int)(w:World)(hw:bJ i=4)(K:Calls Tryz.prog 143 #[.int .i64 i] w fun e w'=>e=.returned (.int .i64 (4))/\w=w'):
 Calls Tryz.prog 87 #[.int .i64 i,.int .i64 n] w (bG i n w):=by
 have hM:lvM i=16:=jP
 have K:=hid K
 by_cases h1:n<0\/15<n
 ·have hE:bh i n=2:=xy
  have hV:lvV i n=0:=xC
  have FIN:bG i n w (.returned (.tuple #[.int .i64 0,.int .i64 2])) w:=⟨vC,rfl⟩
  have FIN:=hid FIN
  clear hw hM hE hV
  rcases h1 with h1|h1
  ·exact l11
  have h2: ¬n<0:=ah
  exact l11
 ·have hE:bh i n=0:=lH
  have l1:0<=n:=ah
  have l2:n<=15:=ah
  have l3: ¬n<0:=ah
  have l4: ¬15<n:=ah
  by_cases hs:2*n<16
  ·have x1:2*n-15<0:=ah
   have hV:lvV i n= -bF 16 (16-1-n):=wY
   have q:=kX (16+(2*n-15)) 128 ah ah ah
   obtain⟨q1,q2,q3,q4⟩:=q
   have q5:=Int.ediv_nonneg q3 (show 0<=(16*16:Int) from aB)
   have q6:31000*(16+(2*n-15))*(16+(2*n-15))/(16*16)<=507904000:=ah
   have hP:bF 16 (16-1-n)=31000-31000*(16+(2*n-15))*(16+(2*n-15))/(16*16):=by
    unfold bF
    rw[show 2*((16:Int)-(16-1-n))-1=16+(2*n-15) from ah]
   have FIN:bG i n w (.returned (.tuple #[.int .i64 (-(31000-31000*(16+(2*n-15))*(16+(2*n-15))/(16*16))),.int .i64 0])) w:=⟨xw,rfl⟩
   have FIN:=hid FIN
   clear hw hM hE hV hP h1 hs
   exact l11
  have x1: ¬2*n-15<0:=ah
  have hV:lvV i n=bF 16 n:=Lp
  have q:=kX (16-(2*n-15)) 128 ah ah ah
  obtain⟨q1,q2,q3,q4⟩:=q
  have q5:=Int.ediv_nonneg q3 (show 0<=(16*16:Int) from aB)
  have q6:31000*(16-(2*n-15))*(16-(2*n-15))/(16*16)<=507904000:=ah
  have hP:bF 16 n=31000-31000*(16-(2*n-15))*(16-(2*n-15))/(16*16):=by
   unfold bF
   rw[show 2*((16:Int)-n)-1=16-(2*n-15) from ah]
  have FIN:bG i n w (.returned (.tuple #[.int .i64 (31000-31000*(16-(2*n-15))*(16-(2*n-15))/(16*16)),.int .i64 0])) w:=⟨xw,rfl⟩
  have FIN:=hid FIN
  clear hw hM hE hV hP h1 hs
  exact l11
theorem afv(i n:Int)(w:World)(hw:bJ i=3)(K:Calls Tryz.prog 143 #[.int .i64 i] w fun e w'=>e=.returned (.int .i64 (3))/\w=w'):
 Calls Tryz.prog 87 #[.int .i64 i,.int .i64 n] w (bG i n w):=by
 have hM:lvM i=8:=jP
 have K:=hid K
 by_cases h1:n<0\/7<n
 ·have hE:bh i n=2:=xy
  have hV:lvV i n=0:=xC
  have FIN:bG i n w (.returned (.tuple #[.int .i64 0,.int .i64 2])) w:=⟨vC,rfl⟩
  have FIN:=hid FIN
  clear hw hM hE hV
  rcases h1 with h1|h1
  ·exact l11
  have h2: ¬n<0:=ah
  exact l11
 ·have hE:bh i n=0:=lH
  have l1:0<=n:=ah
  have l2:n<=7:=ah
  have l3: ¬n<0:=ah
  have l4: ¬7<n:=ah
  by_cases hs:2*n<8
  ·have x1:2*n-7<0:=ah
   have hV:lvV i n= -bF 8 (8-1-n):=wY
   have q:=kX (8+(2*n-7)) 128 ah ah ah
   obtain⟨q1,q2,q3,q4⟩:=q
   have q5:=Int.ediv_nonneg q3 (show 0<=(8*8:Int) from aB)
   have q6:31000*(8+(2*n-7))*(8+(2*n-7))/(8*8)<=507904000:=ah
   have hP:bF 8 (8-1-n)=31000-31000*(8+(2*n-7))*(8+(2*n-7))/(8*8):=by
    unfold bF
    rw[show 2*((8:Int)-(8-1-n))-1=8+(2*n-7) from ah]
   have FIN:bG i n w (.returned (.tuple #[.int .i64 (-(31000-31000*(8+(2*n-7))*(8+(2*n-7))/(8*8))),.int .i64 0])) w:=⟨xw,rfl⟩
   have FIN:=hid FIN
   clear hw hM hE hV hP h1 hs
   exact l11
  have x1: ¬2*n-7<0:=ah
  have hV:lvV i n=bF 8 n:=Lp
  have q:=kX (8-(2*n-7)) 128 ah ah ah
  obtain⟨q1,q2,q3,q4⟩:=q
  have q5:=Int.ediv_nonneg q3 (show 0<=(8*8:Int) from aB)
  have q6:31000*(8-(2*n-7))*(8-(2*n-7))/(8*8)<=507904000:=ah
  have hP:bF 8 n=31000-31000*(8-(2*n-7))*(8-(2*n-7))/(8*8):=by
   unfold bF
   rw[show 2*((8:Int)-n)-1=8-(2*n-7) from ah]
  have FIN:bG i n w (.returned (.tuple #[.int .i64 (31000-31000*(8-(2*n-7))*(8-(2*n-7))/(8*8)),.int .i64 0])) w:=⟨xw,rfl⟩
  have FIN:=hid FIN
  clear hw hM hE hV hP h1 hs
  exact l11
theorem Qo{i n:Int}(h:bJ i=0):bh i n=4:=by unfold bh;rw[if_pos h]
theorem Xx{i n:Int}(h:bJ i=0):lvV i n=0:=by unfold lvV;rw[Qo h];rfl
theorem afw(i n:Int)(w:World)(hw:bJ i=0)(K:Calls Tryz.prog 143 #[.int .i64 i] w fun e w'=>e=.returned (.int .i64 0)/\w=w'):
 Calls Tryz.prog 87 #[.int .i64 i,.int .i64 n] w (bG i n w):=by
 have FIN:bG i n w (.returned (.tuple #[.int .i64 0,.int .i64 4])) w:=⟨by rw[Qo hw,Xx hw],rfl⟩
 have FIN:=hid FIN
 have K:=hid K
 clear hw
 go_enter Tryz.func87,Tryz.ntmps87
 go_wp2_with(go_at_call 143;(with_reducible refine K.out.mono ?_);rintro e w' ⟨rfl,rfl⟩)
 go_ret2
 exact FIN.out
theorem Xy(i n:Int)(w:World)(T:TabA w 3 fD):
 Calls Tryz.prog 87 #[.int .i64 i,.int .i64 n] w (bG i n w):=by
 have K:=Qn i w T
 rcases zJ i with⟨h,_⟩|⟨h,_⟩|⟨h,_⟩|⟨h,_⟩|⟨h,_⟩
 ·rw[h] at K;exact afw i n w h K
 ·rw[h] at K;exact afs i n w h K
 ·rw[h] at K;exact aft i n w h K
 ·rw[h] at K;exact afu i n w h K
 ·rw[h] at K;exact afv i n w h K
theorem Xz(i n:Int)(w:World)(hw:bJ i=6)(h2:64<=2*n)(h3:n<64)(K:Calls Tryz.prog 173 #[.int .i64 i] w fun e w'=>e=.returned (.int .i64 (6))/\w=w'):
 Calls Tryz.prog 117 #[.int .i64 i,.int .i64 n] w (bG i n w):=by
 have hM:lvM i=64:=jP
 have K:=hid K
 have hE:bh i n=0:=lH
 have l1:0<=n:=ah
 have l3: ¬n<0:=ah
 have l4: ¬64<=n:=ah
 have l5: ¬2*n<64:=ah
 have hV:lvV i n=bF 64 n:=Lr
 obtain⟨q1,q2,q3,q4⟩:=kX (2*(64-n)-1) 128 ah ah ah
 have q5:=Int.ediv_nonneg q3 (show 0<=(64*64:Int) from aB)
 have q6:31000*(2*(64-n)-1)*(2*(64-n)-1)/(64*64)<=507904000:=ah
 have FIN:bG i n w (.returned (.tuple #[.int .i64 (31000-31000*(2*(64-n)-1)*(2*(64-n)-1)/(64*64)),.int .i64 0])) w:=⟨by rw[hE,hV];rfl,rfl⟩
 have FIN:=hid FIN
 clear hw hM hE hV
 go_enter Tryz.func117,Tryz.ntmps117
 go_wp2_with(go_at_call 173;(with_reducible refine K.out.mono ?_);rintro e w' ⟨rfl,rfl⟩)
 go_ret2
 exact FIN.out
theorem afx(i n:Int)(w:World)(hw:bJ i=6)(K:Calls Tryz.prog 173 #[.int .i64 i] w fun e w'=>e=.returned (.int .i64 (6))/\w=w'):
 Calls Tryz.prog 117 #[.int .i64 i,.int .i64 n] w (bG i n w):=by
 have hM:lvM i=64:=jP
 by_cases h1:n<0\/63<n
 ·have hE:bh i n=2:=xy
  have hV:lvV i n=0:=xC
  have FIN:bG i n w (.returned (.tuple #[.int .i64 0,.int .i64 2])) w:=⟨vC,rfl⟩
  have FIN:=hid FIN
  have K:=hid K
  clear hw hM hE hV
  rcases h1 with h1|h1
  ·exact l21
  have h2: ¬n<0:=ah
  have h3:64<=n:=ah
  exact l21
 ·by_cases hs:2*n<64
  ·have hE:bh i n=0:=lH
   have hE2:bh i (63-n)=0:=lH
   have hV:lvV i n= -bF 64 (64-1-n):=wY
   have hV2:lvV i (63-n)=bF 64 (64-1-n):=by unfold lvV;rw[if_pos hE2,hM,if_neg ah,show(63:Int)-n=64-1-n from ah]
   have K2:=Xz i (63-n) w hw ah ah K
   unfold bG at K2
   rw[hE2,hV2] at K2
   have K2:=hid K2
   have K:=hid K
   have l1:0<=n:=ah
   have l2:n<64:=ah
   have l3: ¬n<0:=ah
   have l4: ¬64<=n:=ah
   obtain⟨q1,q2,q3,q4⟩:=kX (2*(64-(64-1-n))-1) 128 ah ah ah
   have q5:=Int.ediv_nonneg q3 (show 0<=(64*64:Int) from aB)
   have q6:31000*(2*(64-(64-1-n))-1)*(2*(64-(64-1-n))-1)/(64*64)<=507904000:=ah
   have hP: -507904000<=bF 64 (64-1-n)/\bF 64 (64-1-n)<=31000:=NH
   obtain⟨p1,p2⟩:=hP
   generalize bF 64 (64-1-n)=v at*
   exact l15
  exact Xz i n w hw ah ah K
theorem XC(i n:Int)(w:World)(hw:bJ i=5)(h2:32<=2*n)(h3:n<32)(K:Calls Tryz.prog 173 #[.int .i64 i] w fun e w'=>e=.returned (.int .i64 (5))/\w=w'):
 Calls Tryz.prog 117 #[.int .i64 i,.int .i64 n] w (bG i n w):=by
 have hM:lvM i=32:=jP
 have K:=hid K
 have hE:bh i n=0:=lH
 have l1:0<=n:=ah
 have l3: ¬n<0:=ah
 have l4: ¬32<=n:=ah
 have l5: ¬2*n<32:=ah
 have hV:lvV i n=bF 32 n:=Lr
 obtain⟨q1,q2,q3,q4⟩:=kX (2*(32-n)-1) 128 ah ah ah
 have q5:=Int.ediv_nonneg q3 (show 0<=(32*32:Int) from aB)
 have q6:31000*(2*(32-n)-1)*(2*(32-n)-1)/(32*32)<=507904000:=ah
 have FIN:bG i n w (.returned (.tuple #[.int .i64 (31000-31000*(2*(32-n)-1)*(2*(32-n)-1)/(32*32)),.int .i64 0])) w:=⟨by rw[hE,hV];rfl,rfl⟩
 have FIN:=hid FIN
 clear hw hM hE hV
 go_enter Tryz.func117,Tryz.ntmps117
 go_wp2_with(go_at_call 173;(with_reducible refine K.out.mono ?_);rintro e w' ⟨rfl,rfl⟩)
 go_ret2
 exact FIN.out
theorem afy(i n:Int)(w:World)(hw:bJ i=5)(K:Calls Tryz.prog 173 #[.int .i64 i] w fun e w'=>e=.returned (.int .i64 (5))/\w=w'):
 Calls Tryz.prog 117 #[.int .i64 i,.int .i64 n] w (bG i n w):=by
 have hM:lvM i=32:=jP
 by_cases h1:n<0\/31<n
 ·have hE:bh i n=2:=xy
  have hV:lvV i n=0:=xC
  have FIN:bG i n w (.returned (.tuple #[.int .i64 0,.int .i64 2])) w:=⟨vC,rfl⟩
  have FIN:=hid FIN
  have K:=hid K
  clear hw hM hE hV
  rcases h1 with h1|h1
  ·exact l21
  have h2: ¬n<0:=ah
  have h3:32<=n:=ah
  exact l21
 ·by_cases hs:2*n<32
  ·have hE:bh i n=0:=lH
   have hE2:bh i (31-n)=0:=lH
   have hV:lvV i n= -bF 32 (32-1-n):=wY
   have hV2:lvV i (31-n)=bF 32 (32-1-n):=by unfold lvV;rw[if_pos hE2,hM,if_neg ah,show(31:Int)-n=32-1-n from ah]
   have K2:=XC i (31-n) w hw ah ah K
   unfold bG at K2
   rw[hE2,hV2] at K2
   have K2:=hid K2
   have K:=hid K
   have l1:0<=n:=ah
   have l2:n<32:=ah
   have l3: ¬n<0:=ah
   have l4: ¬32<=n:=ah
   obtain⟨q1,q2,q3,q4⟩:=kX (2*(32-(32-1-n))-1) 128 ah ah ah
   have q5:=Int.ediv_nonneg q3 (show 0<=(32*32:Int) from aB)
   have q6:31000*(2*(32-(32-1-n))-1)*(2*(32-(32-1-n))-1)/(32*32)<=507904000:=ah
   have hP: -507904000<=bF 32 (32-1-n)/\bF 32 (32-1-n)<=31000:=NH
   obtain⟨p1,p2⟩:=hP
   generalize bF 32 (32-1-n)=v at*
   exact l15
  exact XC i n w hw ah ah K
theorem XD(i n:Int)(w:World)(hw:bJ i=4)(h2:16<=2*n)(h3:n<16)(K:Calls Tryz.prog 173 #[.int .i64 i] w fun e w'=>e=.returned (.int .i64 (4))/\w=w'):
 Calls Tryz.prog 117 #[.int .i64 i,.int .i64 n] w (bG i n w):=by
 have hM:lvM i=16:=jP
 have K:=hid K
 have hE:bh i n=0:=lH
 have l1:0<=n:=ah
 have l3: ¬n<0:=ah
 have l4: ¬16<=n:=ah
 have l5: ¬2*n<16:=ah
 have hV:lvV i n=bF 16 n:=Lr
 obtain⟨q1,q2,q3,q4⟩:=kX (2*(16-n)-1) 128 ah ah ah
 have q5:=Int.ediv_nonneg q3 (show 0<=(16*16:Int) from aB)
 have q6:31000*(2*(16-n)-1)*(2*(16-n)-1)/(16*16)<=507904000:=ah
 have FIN:bG i n w (.returned (.tuple #[.int .i64 (31000-31000*(2*(16-n)-1)*(2*(16-n)-1)/(16*16)),.int .i64 0])) w:=⟨by rw[hE,hV];rfl,rfl⟩
 have FIN:=hid FIN
 clear hw hM hE hV
 go_enter Tryz.func117,Tryz.ntmps117
 go_wp2_with(go_at_call 173;(with_reducible refine K.out.mono ?_);rintro e w' ⟨rfl,rfl⟩)
 go_ret2
 exact FIN.out
theorem afz(i n:Int)(w:World)(hw:bJ i=4)(K:Calls Tryz.prog 173 #[.int .i64 i] w fun e w'=>e=.returned (.int .i64 (4))/\w=w'):
 Calls Tryz.prog 117 #[.int .i64 i,.int .i64 n] w (bG i n w):=by
 have hM:lvM i=16:=jP
 by_cases h1:n<0\/15<n
 ·have hE:bh i n=2:=xy
  have hV:lvV i n=0:=xC
  have FIN:bG i n w (.returned (.tuple #[.int .i64 0,.int .i64 2])) w:=⟨vC,rfl⟩
  have FIN:=hid FIN
  have K:=hid K
  clear hw hM hE hV
  rcases h1 with h1|h1
  ·exact l21
  have h2: ¬n<0:=ah
  have h3:16<=n:=ah
  exact l21
 ·by_cases hs:2*n<16
  ·have hE:bh i n=0:=lH
   have hE2:bh i (15-n)=0:=lH
   have hV:lvV i n= -bF 16 (16-1-n):=wY
   have hV2:lvV i (15-n)=bF 16 (16-1-n):=by unfold lvV;rw[if_pos hE2,hM,if_neg ah,show(15:Int)-n=16-1-n from ah]
   have K2:=XD i (15-n) w hw ah ah K
   unfold bG at K2
   rw[hE2,hV2] at K2
   have K2:=hid K2
   have K:=hid K
   have l1:0<=n:=ah
   have l2:n<16:=ah
   have l3: ¬n<0:=ah
   have l4: ¬16<=n:=ah
   obtain⟨q1,q2,q3,q4⟩:=kX (2*(16-(16-1-n))-1) 128 ah ah ah
   have q5:=Int.ediv_nonneg q3 (show 0<=(16*16:Int) from aB)
   have q6:31000*(2*(16-(16-1-n))-1)*(2*(16-(16-1-n))-1)/(16*16)<=507904000:=ah
   have hP: -507904000<=bF 16 (16-1-n)/\bF 16 (16-1-n)<=31000:=NH
   obtain⟨p1,p2⟩:=hP
   generalize bF 16 (16-1-n)=v at*
   exact l15
  exact XD i n w hw ah ah K
theorem XE(i n:Int)(w:World)(hw:bJ i=3)(h2:8<=2*n)(h3:n<8)(K:Calls Tryz.prog 173 #[.int .i64 i] w fun e w'=>e=.returned (.int .i64 (3))/\w=w'):
 Calls Tryz.prog 117 #[.int .i64 i,.int .i64 n] w (bG i n w):=by
 have hM:lvM i=8:=jP
 have K:=hid K
 have hE:bh i n=0:=lH
 have l1:0<=n:=ah
 have l3: ¬n<0:=ah
 have l4: ¬8<=n:=ah
 have l5: ¬2*n<8:=ah
 have hV:lvV i n=bF 8 n:=Lr
 obtain⟨q1,q2,q3,q4⟩:=kX (2*(8-n)-1) 128 ah ah ah
 have q5:=Int.ediv_nonneg q3 (show 0<=(8*8:Int) from aB)
 have q6:31000*(2*(8-n)-1)*(2*(8-n)-1)/(8*8)<=507904000:=ah
 have FIN:bG i n w (.returned (.tuple #[.int .i64 (31000-31000*(2*(8-n)-1)*(2*(8-n)-1)/(8*8)),.int .i64 0])) w:=⟨by rw[hE,hV];rfl,rfl⟩
 have FIN:=hid FIN
 clear hw hM hE hV
 go_enter Tryz.func117,Tryz.ntmps117
 go_wp2_with(go_at_call 173;(with_reducible refine K.out.mono ?_);rintro e w' ⟨rfl,rfl⟩)
 go_ret2
 exact FIN.out
theorem afA(i n:Int)(w:World)(hw:bJ i=3)(K:Calls Tryz.prog 173 #[.int .i64 i] w fun e w'=>e=.returned (.int .i64 (3))/\w=w'):
 Calls Tryz.prog 117 #[.int .i64 i,.int .i64 n] w (bG i n w):=by
 have hM:lvM i=8:=jP
 by_cases h1:n<0\/7<n
 ·have hE:bh i n=2:=xy
  have hV:lvV i n=0:=xC
  have FIN:bG i n w (.returned (.tuple #[.int .i64 0,.int .i64 2])) w:=⟨vC,rfl⟩
  have FIN:=hid FIN
  have K:=hid K
  clear hw hM hE hV
  rcases h1 with h1|h1
  ·exact l21
  have h2: ¬n<0:=ah
  have h3:8<=n:=ah
  exact l21
 ·by_cases hs:2*n<8
  ·have hE:bh i n=0:=lH
   have hE2:bh i (7-n)=0:=lH
   have hV:lvV i n= -bF 8 (8-1-n):=wY
   have hV2:lvV i (7-n)=bF 8 (8-1-n):=by unfold lvV;rw[if_pos hE2,hM,if_neg ah,show(7:Int)-n=8-1-n from ah]
   have K2:=XE i (7-n) w hw ah ah K
   unfold bG at K2
   rw[hE2,hV2] at K2
   have K2:=hid K2
   have K:=hid K
   have l1:0<=n:=ah
   have l2:n<8:=ah
   have l3: ¬n<0:=ah
   have l4: ¬8<=n:=ah
   obtain⟨q1,q2,q3,q4⟩:=kX (2*(8-(8-1-n))-1) 128 ah ah ah
   have q5:=Int.ediv_nonneg q3 (show 0<=(8*8:Int) from aB)
   have q6:31000*(2*(8-(8-1-n))-1)*(2*(8-(8-1-n))-1)/(8*8)<=507904000:=ah
   have hP: -507904000<=bF 8 (8-1-n)/\bF 8 (8-1-n)<=31000:=NH
   obtain⟨p1,p2⟩:=hP
   generalize bF 8 (8-1-n)=v at*
   exact l15
  exact XE i n w hw ah ah K
theorem afB(i n:Int)(w:World)(hw:bJ i=0)(K:Calls Tryz.prog 173 #[.int .i64 i] w fun e w'=>e=.returned (.int .i64 0)/\w=w'):
 Calls Tryz.prog 117 #[.int .i64 i,.int .i64 n] w (bG i n w):=by
 have FIN:bG i n w (.returned (.tuple #[.int .i64 0,.int .i64 4])) w:=⟨by rw[Qo hw,Xx hw],rfl⟩
 have FIN:=hid FIN
 have K:=hid K
 clear hw
 go_enter Tryz.func117,Tryz.ntmps117
 go_wp2_with(go_at_call 173;(with_reducible refine K.out.mono ?_);rintro e w' ⟨rfl,rfl⟩)
 go_ret2
 exact FIN.out
theorem XF(i n:Int)(w:World)(T:TabS w 0 fD):
 Calls Tryz.prog 117 #[.int .i64 i,.int .i64 n] w (bG i n w):=by
 have K:=Xv i w T
 rcases zJ i with⟨h,_⟩|⟨h,_⟩|⟨h,_⟩|⟨h,_⟩|⟨h,_⟩
 ·rw[h] at K;exact afB i n w h K
 ·rw[h] at K;exact afx i n w h K
 ·rw[h] at K;exact afy i n w h K
 ·rw[h] at K;exact afz i n w h K
 ·rw[h] at K;exact afA i n w h K
end Go.Proofs.YthoiikkjjaldnaaGreatDoor
