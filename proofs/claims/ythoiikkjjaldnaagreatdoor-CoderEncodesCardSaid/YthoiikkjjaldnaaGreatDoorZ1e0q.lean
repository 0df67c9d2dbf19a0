/- Texts that the law rests on. -/
import Derived.Test.YthoiikkjjaldnaaGreatDoorZ1e0f
namespace Go.Proofs.YthoiikkjjaldnaaGreatDoor
set_option linter.unusedVariables false
set_option linter.unusedSimpArgs false
set_option maxRecDepth 100000
set_option maxHeartbeats 8000000
open Go.RowKit
structure BxL(w wr:World)(r kk:List Int):Prop where
 A:IB wr w.heap.size 90 r
 R:IB wr (w.heap.size+1) 22 Z8
 K:IB wr (w.heap.size+1+1) 22 kk
 bel:Below w.heap.size w wr
theorem BxL.lt{w wr:World}{r kk:List Int}(h:BxL w wr r kk):w.heap.size+1+1<wr.heap.size:=Blk.lt h.K
theorem BxL.below{w wr wr':World}{r kk:List Int}(h:BxL w wr r kk)(hb:Below wr.heap.size wr wr'):BxL w wr' r kk:=
 ⟨Blk.below' h.A hb,Blk.below' h.R hb,Blk.below' h.K hb,h.bel.trans (hb.mono rI)⟩
theorem BxL.setK{w wr:World}{r kk:List Int}(h:BxL w wr r kk)(i:Nat)(v:Int):BxL w (wr.setCell ⟨w.heap.size+1+1,i,none⟩ (.int .i64 v)) r (kk.set i v):=
 ⟨Blk.far h.A Uw _,Blk.far h.R Ut _,IB.set_ h.K i v,h.bel.setCell (p:=⟨w.heap.size+1+1,i,none⟩) Ux _⟩
theorem BxL.start(w:World)(r:List Int):BxL w (((w.alloc (.cells (agi r) 90)).alloc (.cells (agi Z8) 22)).alloc (.cells (agi Z8) 22)) r Z8:=by
 have h1:=IB.new w 90 r
 have h2:=IB.new (w.alloc (.cells (agi r) 90)) 22 Z8
 have h3:=IB.new ((w.alloc (.cells (agi r) 90)).alloc (.cells (agi Z8) 22)) 22 Z8
 exact abO
theorem ajE{w:World}{base g g' c:Nat}{xs:List Int}{t:TypeId}{cs:Array Value}(h:Own w base (some ⟨g,0,none⟩) c xs)(hn:0<xs.length)(hb:Blk w g' t cs)(ht:3≠t):g≠g':=by
 obtain⟨g2,cap,cur,hA,_,_,hh,_⟩:=h.form hn
 injection hA with hA
 injection hA with hA
 subst hA
 exact Blk.ne_ (t:=3) hh hb ht
theorem ajF(r:List Int)(w:World)(hl:r.length=9):Calls Tryz.prog 50 #[.agg (agi r)] w (Ez w r):=by
 have I0:=hid (BxL.start w r)
 have hR:=qC (fn:=Tryz.f50) (p:=2) (q:=3) (r:=4) (ty:=22) rfl
 have HL:=hid hl
 have HIX:=hid (fun(k:Nat) (hk:k<9) (w:World)=>jp Tryz.underlying90 r hl k hk w)
 have c0:=IB.cell I0.out.A 0 ah
 obtain⟨r0,hr0⟩:∃r0,r0=r.getD 0 0:=⟨_,rfl⟩
 rw[<-hr0,bW] at c0
 have HR0:=hid hr0
 rw[bW] at I0
 clear hl hr0
 go_enter Tryz.func50,Tryz.ntmps50
 go_wp2_with(refine aK rfl 90 (.tmp 1) rfl _ 90 r 9 _ rfl I0.out.A Tryz.underlying90 rfl bC HL.out ?_)
 go_loop [16] (fun iv=> ∃k:Nat,k<=9/\iv=.int .i64 k/\Hid (allTo okS r k)) (fun iv=>9-(intOf iv).toNat)
 case atStart=>exact⟨0,ah,rfl,hid allTo.zero⟩
 case round=>
  obtain⟨k,hk,rfl,HY⟩:=hrel
  by_cases hlt:k<9
  ·have hix:=HIX.out k hlt
   obtain⟨x,hx⟩:∃x,x=r.getD k 0:=⟨_,rfl⟩
   rw[<-hx] at hix
   have HX:=hid hx
   clear hx
   by_cases hbad:x< -2147483647\/2147483647<x
   ·have FIN:=hid (tH (ZG (iL (i:=k) oK (ZC vh))) (aS I0.out.bel (g:=w.heap.size+1) ah (agi Z8)))
    rw[JQ] at FIN
    rcases hbad with b1|b1
    ·have b0: ¬2147483647<x:=ah
     exact l57
    skip
    exact l57
   have b1: -2147483647<=x:=ah
   have b2:x<=2147483647:=ah
   have HN:=hid (HY.out.succ (by rw[<-HX.out];exact ZB b1 b2))
   clear hbad
   exact l47
  obtain rfl:k=9:=ah
  have sd:r.all okS=true:=HY.out.all L9
  have RW:=hid (RQ sd)
  clear hlt
  by_cases hlow:r0<1
  ·have FIN:=hid (tH (ZH (r:=r) (by rw[<-HR0.out];omega)) (aS I0.out.bel (g:=w.heap.size+1) ah (agi Z8)))
   rw[JQ] at FIN
   clear sd
   have hRow:=hid (I0.out.R.setRow (Z8))
   go_wp2_with(first
    |(refine aK rfl 22 (.tmp 5) rfl _ 22 (Z8) 8 _ rfl I0.out.K Tryz.underlying22 rfl aH rfl ?_)
    |(refine aP rfl 22 (.tmp 2) (.tmp 31) rfl _ 22 Z8 (Z8) 8 rfl rfl I0.out.R aH rfl rfl ?_))
   refine bg (v:=_) (hR _ _ _ 22 (Z8) _ 8 rfl hRow.out Tryz.underlying22 rfl aH rfl) rfl ?_
   exact FIN.out
  have h0:0<r0:=ah
  have ST0:=hid (LevSt.start sd (by rw[<-HR0.out];exact h0))
  rw[<-HR0.out] at ST0
  have hs0:w.heap.size+1+1+1=(((w.alloc (.cells (agi r) 90)).alloc (.cells (agi Z8) 22)).alloc (.cells (agi Z8) 22)).heap.size:=az
  have G0:=aaX (((w.alloc (.cells (agi r) 90)).alloc (.cells (agi Z8) 22)).alloc (.cells (agi Z8) 22)) 16777216 w.heap.size (by rw[<-hs0];omega)
  rw[<-hs0,bW] at G0
  have G0:=hid G0
  have I1:=hid (I0.out.below ((aA _ _).alloc (al0z _) (.cells #[.int .i64 16777216] 3)))
  have hlow2: ¬r0<1:=hlow
  clear sd hlow hs0
  go_wp2
  go_loopw[8,9,10] (fun ev av mv wr=> ∃(m n g c:Nat) (e:Int) (al k:List Int),m<=8/\mv=.int .i64 m/\ev=.int .i64 e/\av=.slice (some ⟨g,0,none⟩) n c/\Hid (n=m+1)/\Hid (LevSt r (m+1) al e k)/\Hid (Own wr w.heap.size (some ⟨g,0,none⟩) c al)/\Hid (BxL w wr r (bQ 8 k))) (fun _ _ mv _=>8-(intOf mv).toNat)
  case atStart=>exact⟨0,1,_,_,r0,_,[],ah,rfl,rfl,rfl,hid rfl,ST0,G0,I1⟩
  case round=>
   clear I0 I1 c0 ST0 G0
   obtain⟨m,n,g,c,e,al,k,hm8,rfl,rfl,rfl,HN,ST,HG,HI⟩:=hrel
   obtain⟨wo,rfl⟩:∃wo:World,wo=wr:=⟨_,rfl⟩
   have LK:=hid (Cm (n:=8) (k:=k) Bj)
   have LA:=hid (show al.length=n by rw[ST.out.la,HN.out])
   by_cases hlt:m<8
   ·have AB:=hid (ST.out.bnd ah)
    have he0:=ST.out.e0
    have he1:=ST.out.e1
    have hn9:n<=8:=jo
    have dm:decide ((m:Int)<8)=true:=aJ
    go_wp2
    go_loopw[11,39] (fun sv iv wr=> ∃(i:Nat) (s:Int),i<=n/\iv=.int .i64 i/\sv=.int .i64 s/\Hid (s=aI (lC al r n) i)/\Hid (Own wr w.heap.size (some ⟨g,0,none⟩) c al)/\Hid (BxL w wr r (bQ 8 k))) (fun _ iv _=>n-(intOf iv).toNat)
    case atStart=>exact⟨0,0,ah,rfl,rfl,hid rfl,HG,HI⟩
    case round=>
     clear HG HI
     obtain⟨i,s,hi,rfl,rfl,HS,HG,HI⟩:=hrel
     by_cases hil:i<n
     ·obtain⟨d,hd⟩:∃d:Nat,n=i+d:=⟨n-i,ah⟩
      have ca:=HG.out.cell i (by rw[LA.out];omega)
      have c2:=HI.out.A.cell d nV
      have tb:=RU (m:=n) AB.out RW.out i
      have sb:=Ju (m:=n) AB.out RW.out i ah
      rw[<-HS.out] at sb
      have HT:=hid (show aI (lC al r n) (i+1)=s+lC al r n i from BK)
      unfold lC at tb HT
      rw[show n-i=d from ah] at tb HT
      have bx:=AB.out i
      generalize al.getD i 0=x at*
      generalize r.getD d 0=y at*
      obtain⟨⟨t1,t2⟩,⟨t3,t4⟩,⟨t5,t6⟩⟩:=tb
      obtain⟨s1,s2⟩:=sb
      obtain⟨bx1,bx2⟩:=bx
      have hd9:d<9:=ah
      have hdI:(d:Int)<9:=ah
      have hd0:(0:Int)<=(d:Int):=ah
      have hin:(i:Int)<n:=ah
      have hmn:=HN.out
      have hwA:IntKind.i64.wrap ((m:Int)+1)=(m:Int)+1:=aN
      have hwB:IntKind.i64.wrap ((m:Int)+1-(i:Int))=(d:Nat):=aN
      have hwC:IntKind.i64.wrap (x/512*y)=x/512*y:=aN
      have hwD:IntKind.i64.wrap (s+x/512*y/32768)=s+x/512*y/32768:=aN
      have K1:=hid (fun W=>aeb x W ah ah)
      have K2:=hid (fun W=>CN (x/512*y) W ah ah)
      have hltA:=Blk.lt HI.out.A
      have HD:=hid hd
      have HMN:=hid hmn
      clear hd hmn
      go_wp2
      go_region_held3 (fun w'=>w'.cell? ⟨w.heap.size,d,none⟩=some (.int .i64 y)) (go_keep)
       (first
       |(go_at_call 110;(with_reducible refine(K1.out _).mono ?_);rintro e1 w3 ⟨rfl,hB⟩;have k1:=(hB.cell (p:=⟨w.heap.size,d,none⟩) hltA).trans c2;have q1:=hid hB;clear hB)
       |(go_at_call 110;(with_reducible refine(K2.out _).mono ?_);rintro e1 w4 ⟨rfl,hB⟩;have k2:=(hB.cell (p:=⟨w.heap.size,d,none⟩) (lF hltA q1.out.size)).trans k1;have q2:=hid hB;clear hB))
      all_goals
       clear hwA hwB hwC hwD
       have BB:=hid (show Below wr.heap.size wr w4 from(Gf q1.out).trans (q2.out.mono q1.out.size))
       have G4:=hid (HG.out.below BB.out)
       have I4:=hid (HI.out.below BB.out)
       go_wp2
       go_roundw
       case rel=>exact⟨i+1,_,ah,aO,rfl,hid HT.out.symm,G4,I4⟩
       case measure=>simp[intOf]<;>omega
     obtain rfl:n=i:=ah
     have sb:=Ju (m:=n) AB.out RW.out n hn9
     rw[<-HS.out] at sb
     obtain⟨s1,s2⟩:=sb
     obtain⟨q,hq⟩:∃q,q=(-s*32768).tdiv e:=⟨_,rfl⟩
     have tq:=Pq (x:= -s*32768) (e:=e) he0
     rw[<-hq] at tq
     have q1: -1000000000000000000<=q:=ah
     have q2:q<=1000000000000000000:=ah
     have HQ:=hid (show q=(-kQ al r (m+1)*32768).tdiv e by rw[hq,HS.out,ZI,HN.out])
     have HQE:=hid hq
     have hne:=ajE HG.out (by rw[LA.out];have:=HN.out;omega) HI.out.K aB
     clear hq tq hil
     go_wp2_with fail
     refine(fJ _ (-s) ah ah).mono ?_
     rintro e1 w1 ⟨bA,rfl,hbA,hI,hB⟩
     have n1:=IntBlk.new wr (.bool false) (.slice none 0 0)
     have n2:=IntBlk.new (wr.alloc (.cells #[.bool false,.slice none 0 0] 80)) (.bool false) (.slice none 0 0)
     simp only[bU] at n2
     have Z1:=hid (IntBlk.below (n1.below ((aA _ _).alloc (al0z _) (.cells #[.bool false,.slice none 0 0] 80)) (al0z _)) hB (al0z _))
     have Y1:=hid (IntBlk.below n2 hB (al0z _))
     have X1:=hid hI
     have B1:=hid ((((aA _ wr).alloc (al0z _) (.cells #[.bool false,.slice none 0 0] 80)).alloc az (.cells #[.bool false,.slice none 0 0] 80)).trans (hB.mono aJ))
     have hbA2:wr.heap.size+1+1<=bA:=by simpa using hbA
     clear hI hB n1 n2 hbA
     go_wp2_with fail
     refine(zy _ (wr.heap.size+1) bA (-s) 15 Y1.out X1.out (aW ah) ah).mono ?_
     rintro e1 w2 ⟨rfl,hI,hG⟩
     rw[show(2:Int)^15=32768 from aB] at hI
     have Z2:=hid (IntBlk.kept Z1.out hG ah)
     have Y2:=hid hI
     have B2:=hid (bK B1.out hG ah)
     clear hI hG Z1 Y1 X1 B1
     go_wp2_with fail
     refine(fJ _ e ah ah).mono ?_
     rintro e1 w3 ⟨bB,rfl,hbB,hI,hB⟩
     have Z3:=hid (Z2.out.below hB (al0z _))
     have Y3:=hid (Y2.out.below hB (al0z _))
     have X3:=hid hI
     have B3:=hid (B2.out.trans (hB.mono B2.out.size))
     clear hI hB Z2 Y2 B2
     go_wp2_with fail
     refine(WQ _ wr.heap.size (wr.heap.size+1) bB (-s*32768) e Z3.out Y3.out X3.out (.inl ah) ah (aW ah) (aW ah)).mono ?_
     rintro e1 w4 ⟨rfl,hI,hG⟩
     rw[<-HQE.out] at hI
     have Z4:=hid hI
     have B4:=hid (bK B3.out hG (al0z _))
     clear hI hG Z3 Y3 X3 B3
     have KI:=hid (aeH w4 wr.heap.size q Z4.out ah ah)
     have KJ:=hid (oP w4 wr.heap.size q Z4.out ah ah)
     have G4:=hid (HG.out.below B4.out)
     have I4:=hid (HI.out.below B4.out)
     have hlt4:=I4.out.lt
     clear Z4 B4 HG HI
     by_cases hb:q<= -32000\/32000<=q
     ·have FIN:=hid (tH (ST.out.stop ah ah HQ.out hb) (aS I4.out.bel (g:=w.heap.size+1) ah (agi (bQ 8 k))))
      rcases hb with b1|b1
      ·skip
       have hRow:=hid (I4.out.R.setRow (bQ 8 k))
       go_wp2_with(first
       |(go_at_call 114;refine KI.out.mono ?_;rintro e1 w5 ⟨rfl,rfl⟩)
       |(go_at_call 75;refine KJ.out.mono ?_;rintro e1 w5 ⟨rfl,rfl⟩)
        |(refine aK rfl 22 (.tmp 5) rfl _ 22 (bQ 8 k) 8 _ rfl I4.out.K Tryz.underlying22 rfl aH LK.out ?_)
        |(refine aP rfl 22 (.tmp 2) (.tmp 79) rfl _ 22 Z8 (bQ 8 k) 8 rfl rfl I4.out.R aH rfl LK.out ?_))
       exact l40
      have b0: ¬q<= -32000:=ah
      have hRow:=hid (I4.out.R.setRow (bQ 8 k))
      go_wp2_with(first
      |(go_at_call 114;refine KI.out.mono ?_;rintro e1 w5 ⟨rfl,rfl⟩)
      |(go_at_call 75;refine KJ.out.mono ?_;rintro e1 w5 ⟨rfl,rfl⟩)
       |(refine aK rfl 22 (.tmp 5) rfl _ 22 (bQ 8 k) 8 _ rfl I4.out.K Tryz.underlying22 rfl aH LK.out ?_)
       |(refine aP rfl 22 (.tmp 2) (.tmp 79) rfl _ 22 Z8 (bQ 8 k) 8 rfl rfl I4.out.R aH rfl LK.out ?_))
      exact l40
     have b1: -32000<q:=ah
     have b2:q<32000:=ah
     clear hb
     have cK:=I4.out.K.cell m (by rw[LK.out];exact hlt)
     have fK:=Blk.frozen I4.out.K m
     have LK2:=hid (Cm (n:=8) (k:=k++[q]) (by have:=ST.out.lk;simp;omega))
     have I5:=hid (show BxL w (w4.setCell ⟨w.heap.size+1+1,m,none⟩ (.int .i64 q)) r (bQ 8 (k++[q])) by
      have:=I4.out.setK m q
      rw[VR q Bj,show k.length=m from Bj]
      exact this)
     have cq:(w4.setCell ⟨w.heap.size+1+1,m,none⟩ (.int .i64 q)).cell? ⟨w.heap.size+1+1,m,none⟩=some (.int .i64 q):=World.cell?_setCell_same _ _ _ cK
     have G5:=hid (G4.out.kept (row:=some (w.heap.size+1+1)) (w':=w4.setCell ⟨w.heap.size+1+1,m,none⟩ (.int .i64 q)) ⟨rfl,rfl,rfl,zi,fun i _ hn=>Below.heap_setCell _ _ _ i vp⟩ (fun ad h=>by injection h with h;subst h;simpa using hne))
     have KG:=hid (VT (some ⟨g,0,none⟩) c al q n _ G5.out.reads LA.out jo ah ⟨ah,ah⟩ AB.out)
     go_wp2_with(first
      |(go_at_call 114;refine KI.out.mono ?_;rintro e1 w5 ⟨rfl,rfl⟩)
      |(go_at_call 75;refine KJ.out.mono ?_;rintro e1 w5 ⟨rfl,rfl⟩))
     refine KG.out.mono ?_
     rintro e1 w5 ⟨P2,c2,rfl,hO,hB⟩
     obtain⟨g2,rfl,_,_⟩:=hO.head (by rw[vO];omega)
     have G6:=hid (hO.more (base':=w.heap.size) I5.out.bel.size)
     have I6:=hid (I5.out.below hB)
     have cq6:w5.cell? ⟨w.heap.size+1+1,m,none⟩=some (.int .i64 q):=(hB.cell (p:=⟨w.heap.size+1+1,m,none⟩) (by have:=I5.out.lt;exact this)).trans cq
     have hltK:=Blk.lt I6.out.K
     rw[vO]
     clear hO hB cq cK fK KG KI KJ I5 G5 G4 I4
     obtain⟨⟨u1,u2⟩,⟨u3,u4⟩,u5,u6⟩:=Pv he0 he1 b1 b2
     have D1:=hid (fun W=>CN (e*q) W ah ah)
     have D2:=hid (fun W=>CN (e*q/32768*q) W ah ah)
     obtain⟨e',he'⟩:∃e',e'=e-e*q/32768*q/32768:=⟨_,rfl⟩
     have hm0:(0:Int)<=(m:Int):=ah
     have hm1:(m:Int)<8:=ah
     have hw1:IntKind.i64.wrap (e*q)=e*q:=aN
     have hw2:IntKind.i64.wrap (e*q/32768*q)=e*q/32768*q:=aN
     have hw3:IntKind.i64.wrap (e-e*q/32768*q/32768)=e':=aN
     have HE:=hid he'
     have v1:e'<=2147483647:=ah
     have v2: -2147483648<=e':=ah
     clear he' u5 u6
     go_wp2
     go_region_held3 (fun w'=>w'.cell? ⟨w.heap.size+1+1,m,none⟩=some (.int .i64 q)) (go_keep)
      (first
      |(go_at_call 110;(with_reducible refine(D1.out _).mono ?_);rintro e1 w6 ⟨rfl,hB⟩;have k1:=(hB.cell (p:=⟨w.heap.size+1+1,m,none⟩) hltK).trans cq6;have r1:=hid hB;clear hB)
      |(go_at_call 110;(with_reducible refine(D2.out _).mono ?_);rintro e1 w7 ⟨rfl,hB⟩;have k2:=(hB.cell (p:=⟨w.heap.size+1+1,m,none⟩) (lF hltK r1.out.size)).trans k1;have r2:=hid hB;clear hB))
     all_goals
      clear hw1 hw2 hw3
      have BB:=hid (show Below w5.heap.size w5 w7 from(Gf r1.out).trans (r2.out.mono r1.out.size))
      have G7:=hid (G6.out.below BB.out)
      have I7:=hid (I6.out.below BB.out)
      by_cases hend:e'<1
      ·have FIN:=hid (tH (ST.out.none_ ah ah HQ.out b1 b2 (by rw[<-HE.out];omega)) (aS I7.out.bel (g:=w.heap.size+1) ah (agi (bQ 8 (k++[q])))))
       have hRow:=hid (I7.out.R.setRow (bQ 8 (k++[q])))
       go_wp2_with(first
        |(refine aK rfl 22 (.tmp 5) rfl _ 22 (bQ 8 (k++[q])) 8 _ rfl I7.out.K Tryz.underlying22 rfl aH LK2.out ?_)
        |(refine aP rfl 22 (.tmp 2) (.tmp 105) rfl _ 22 Z8 (bQ 8 (k++[q])) 8 rfl rfl I7.out.R aH rfl LK2.out ?_))
       exact abX
      ·have NST:=hid (ST.out.next ah ah HQ.out b1 b2 (by rw[<-HE.out];omega))
       rw[<-HE.out] at NST
       have hend2:1<=e':=ah
       go_wp2
       go_roundw
       case rel=>exact⟨m+1,n+1,g2,c2,e',_,_,ah,aO,rfl,rfl,hid (by rw[HN.out]),by rw[<-HN.out] at*;exact NST,G7,I7⟩
       case measure=>simp[intOf]<;>omega
   obtain rfl:m=8:=ah
   have FIN:=hid (tH ST.out.fin (aS HI.out.bel (g:=w.heap.size+1) ah (agi (bQ 8 k))))
   clear hlt
   have hRow:=hid (HI.out.R.setRow (bQ 8 k))
   go_wp2_with(first
    |(refine aK rfl 22 (.tmp 5) rfl _ 22 (bQ 8 k) 8 _ rfl HI.out.K Tryz.underlying22 rfl aH LK.out ?_)
    |(refine aP rfl 22 (.tmp 2) (.tmp 106) rfl _ 22 Z8 (bQ 8 k) 8 rfl rfl HI.out.R aH rfl LK.out ?_))
   exact l40
end Go.Proofs.YthoiikkjjaldnaaGreatDoor
