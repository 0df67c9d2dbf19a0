/- Texts that the law rests on. -/
import Derived.Test.YthoiikkjjaldnaaGreatDoorZ1e0a
import Derived.Test.YthoiikkjjaldnaaGreatDoorZ1e0i
import Derived.Test.YthoiikkjjaldnaaGreatDoorZ1e05
import Derived.Test.YthoiikkjjaldnaaGreatDoorZ1e08
namespace Go.Proofs.YthoiikkjjaldnaaGreatDoor
set_option linter.unusedVariables false
set_option linter.unusedSimpArgs false
set_option maxRecDepth 100000
set_option maxHeartbeats 8000000
open Go.RowKit
theorem mZ{xs:List Int}(h:aG xs=true):W64 xs:=fun x hx=>by
 unfold aG at h
 have:=List.all_eq_true.1 h x hx
 unfold gV at this
 simp at this
 omega
theorem aeC(m:Mm)(k:m.ok)(hw64:W64 m.nums)(w:World):Calls Tryz.prog 77 #[.agg m.ag] w (Gp w (yl m) (yt m) (aZ (aU m))):=by
 have hR:=Ws (fn:=Tryz.f77) (p:=2) (q:=3) (r:=4) rfl
 have S0:=hid (Ms.start w m)
 have K:=hid k
 have KG:=hid (fun W=>WJ m k hw64 W)
 have KN:=hid (fun W=>Wl 8 40 m.se W ah (hw64 m.se (by unfold Mm.nums;simp)).1 (hw64 m.se (by unfold Mm.nums;simp)).2)
 have NL:=hid (qJ m.se 8 40)
 have KL:=hid (rP k.e (qJ m.se 8 40))
 have FR:=hid (show yl m=if aU m then ji m else bZ from rfl)
 have FY:=hid (show yt m=if aU m then nzL m.se 8 40 else[] from rfl)
 have FM:=hid (show ji m={m with se:=nzE m.se 40,e:=bH m.e (nzL m.se 8 40)} from rfl)
 have KK:=hid (fun W A c (h:Rs W W.heap.size A (nzL m.se 8 40))=>show Calls Tryz.prog 134 #[.agg (aj m.e).toArray,.slice A 40 c] W (Gl W m.e (nzL m.se 8 40) 40) from Wn m.e _ A c 40 W k.e h (qJ _ _ _) ah (mZ (Wj _ _ _)))
 have hi80:(Tryz.prog.info? 23).map (·.size)=some (aj m.e).length:=Be
 have HI80:=hid hi80
 clear k hi80 hw64
 go_enter Tryz.func77,Tryz.ntmps77
 go_wp2_with(refine oU rfl (.tmp 1) rfl _ m rfl S0.out.A K.out ?_)
 refine(KG.out _).mono ?_
 rintro e w1 ⟨rfl,hB⟩
 have S1:=hid (S0.out.below hB)
 clear hB S0 KG
 cases hg:aU m with
 |false=>
  have HG:=hid hg
  clear hg
  have hRow:=hid (MB.setRow S1.out.R bZ)
  have FIN:=hid (aS S1.out.bel (g:=w.heap.size+1) ah bZ.ag)
  go_wp2_with(refine iO rfl (.tmp 2) (.tmp 10) rfl _ bZ bZ rfl (congrArg Value.agg Gm) S1.out.R jF jF ?_)
  exact abW
 |true=>
  have HG:=hid hg
  clear hg
  have cse:=S1.out.A.cse K.out
  go_wp2_with fail
  refine(KN.out _).mono ?_
  rintro e w2 ⟨A2,c2,rfl,hO,hB⟩
  have S2:=hid (S1.out.below hB)
  have LT:=hid S1.out.lt
  have O2:=hid hO
  clear hB hO
  have cse2:=S2.out.A.cse K.out
  have fse2:=MB.frozen S2.out.A 100
  have S3:=hid (S2.out.se K.out (nzE m.se 40))
  have O3:=hid (Own.setC (g:=w.heap.size) O2.out xk 100 (.int .i64 (nzE m.se 40)))
  obtain⟨w3,hw3⟩:∃w3,w3=w2.setCell ⟨w.heap.size,100,none⟩ (.int .i64 (nzE m.se 40)):=⟨_,rfl⟩
  rw[<-hw3] at S3 O3
  have HW3:=hid hw3
  clear hw3 LT
  have K3:=hid (K.out.se (nzE m.se 40))
  go_wp2_with(first
   |(rw[<-HW3.out])
   |(refine bI rfl 23 (.tmp 20) rfl _ _ rfl (aj m.e) _ (S3.out.A.E K3.out) Tryz.underlying23 rfl HI80.out ?_))
  refine(KK.out w3 A2 c2 O3.out.reads).mono ?_
  rintro e w4 ⟨rfl,hB⟩
  have S4:=hid (S3.out.below hB)
  have O4:=hid (O3.out.below hB)
  have LT:=hid S1.out.lt
  clear hB
  have hKE:=hid (show x9 m.e (nzL m.se 8 40) 40=bH m.e (nzL m.se 8 40) from rfl)
  rw[hKE.out]
  have S5:=hid (S4.out.ex K3.out _ KL.out)
  have O5:=hid (Own.setCs (g:=w.heap.size) xk (aj (bH m.e (nzL m.se 8 40))) 16 _ O4.out)
  obtain⟨w5,hw5⟩:∃w5,w5=w4.setCells w.heap.size 16 (aj (bH m.e (nzL m.se 8 40))):=⟨_,rfl⟩
  rw[<-hw5] at S5 O5
  have HW5:=hid hw5
  clear hw5
  have OK5:=hid (show Mm.ok _ from(K3.out.ex KL.out))
  have T5:=hid (show Ms w w5 (ji m) from S5.out)
  have OKS:=hid (PQ K.out)
  have hRow:=hid (MB.setRow T5.out.R (ji m))
  have FIN:=hid (aS T5.out.bel (g:=w.heap.size+1) ah (ji m).ag)
  have OF:=hid ((O5.out.setRow (g:=w.heap.size+1) xk (ji m).ag).more (base':=w.heap.size) xk)
  have SZ:=hid (show(Tryz.prog.info? 23).map (·.size)=some (agi (bH m.e (nzL m.se 8 40))).size from by rw[dV,KL.out];exact kK)
  have TH:=hid (show w4.there w.heap.size 16 (agi (bH m.e (nzL m.se 8 40))).size from by rw[dV,KL.out];exact S4.out.A.thereE K3.out)
  go_wp2_with(first
   |(refine jd rfl 23 (.tmp 26) (.tmp 24) rfl w.heap.size 16 (agi (bH m.e (nzL m.se 8 40))) rfl rfl TH.out SZ.out (gG _) ?_;rw[show(agi (bH m.e (nzL m.se 8 40))).toList=aj (bH m.e (nzL m.se 8 40)) from rfl,<-HW5.out])
   |(refine oU rfl (.tmp 1) rfl _ (ji m) rfl T5.out.A OKS.out ?_)
   |(refine iO rfl (.tmp 2) (.tmp 27) rfl _ bZ (ji m) rfl rfl T5.out.R jF OKS.out ?_))
  exact l97
def oV(a p x:List Int):List Int:=if di a p x then dF a p x x.length else[]
def jR(a p x:List Int):List Int:=if di a p x then dY p (dF a p x x.length) else Z8
theorem W9{a p x:List Int}(hp:p.length=8):(jR a p x).length=8:=by
 unfold jR
 split
 ·exact qK _ _ hp
 rfl
theorem aeV{m:Mm}:W64 m.nums↔W64 m.r/\W64 m.p/\W64 m.e/\W64 [m.ga,m.pi,m.la,m.er,m.se]:=by
 unfold Mm.nums W64
 simp only[List.mem_append]
 constructor
 ·intro h
  exact⟨fun x hx=>h x (.inl hx),fun x hx=>h x (.inr (.inl hx)),fun x hx=>h x (.inr (.inr (.inl hx))),fun x hx=>h x (.inr (.inr (.inr hx)))⟩
 rintro⟨h1,h2,h3,h4⟩ x (hx|hx|hx|hx)
 ·exact h1 x hx
 ·exact h2 x hx
 ·exact h3 x hx
 exact h4 x hx
theorem Xa{h x:List Int}(hh:aG h=true):aG (bH h x)=true:=by
 unfold aG bH at*
 rw[kF] at hh|-
 intro y hy
 rcases List.mem_append.1 hy with h1|h1
 ·exact hh y (List.mem_of_mem_drop h1)
 obtain⟨z,_,rfl⟩:=List.mem_map.1 h1
 have:=lJ z
 exact qI this.1 this.2
def aE(EF:Int->Int->Int)(ks:List Int):Nat->Int
 |0=>0
 |n+1=>if aE EF ks n=0 then EF (n:Nat) (ks.getD n 0) else aE EF ks n
def aF(VF:Int->Int->Int)(ks:List Int)(j:Nat):Int:=VF (j:Nat) (ks.getD j 0)
def aL(VF EF:Int->Int->Int)(ks:List Int):List Int:=if aE EF ks 8=0 then(List.range 8).map (aF VF ks) else Z8
theorem afO{EF:Int->Int->Int}{ks:List Int}{n:Nat}(h:aE EF ks n≠0):∀m,n<=m->aE EF ks m=aE EF ks n:=by
 intro m hm
 induction m with
 |zero=>obtain rfl:n=0:=by omega
        rfl
 |succ m ih=>
  by_cases h2:n=m+1
  ·rw[h2]
  have:=ih ah
  rw[aE,if_neg (by rw[this];exact h),this]
def rX(VF EF:Int->Int->Int)(ks:List Int)(w:World)(e:Ending)(w':World):Prop:=
 e=.returned (.tuple #[.agg (agi (aL VF EF ks)),.int .i64 (aE EF ks 8)])/\Below w.heap.size w w'
structure Sq(w wr:World)(ks ys:List Int):Prop where
 A:IB wr w.heap.size 22 ks
 R:IB wr (w.heap.size+1) 22 Z8
 O:IB wr (w.heap.size+2) 22 ys
 B:Below w.heap.size w wr
theorem Sq.start(w:World)(ks:List Int):Sq w (((w.alloc (.cells (agi ks) 22)).alloc (.cells (agi Z8) 22)).alloc (.cells (agi Z8) 22)) ks Z8:=by
 have h1:=IB.new w 22 ks
 have h2:=IB.new (w.alloc (.cells (agi ks) 22)) 22 Z8
 have h3:=IB.new ((w.alloc (.cells (agi ks) 22)).alloc (.cells (agi Z8) 22)) 22 Z8
 exact l43
theorem Sq.lt{w wr:World}{ks ys:List Int}(h:Sq w wr ks ys):w.heap.size+3<=wr.heap.size:=Blk.lt h.O
theorem Sq.below{w wr wr':World}{ks ys:List Int}(h:Sq w wr ks ys)(hb:Below wr.heap.size wr wr'):Sq w wr' ks ys:=
 ⟨Blk.below' h.A hb,Blk.below' h.R hb,Blk.below' h.O hb,h.B.trans (hb.mono rI)⟩
theorem Sq.set_{w wr:World}{ks ys:List Int}(h:Sq w wr ks ys)(i:Nat)(x:Int):Sq w (wr.setCell ⟨w.heap.size+2,i,none⟩ (.int .i64 x)) ks (ys.set i x):=
 ⟨Blk.far h.A (p:=⟨w.heap.size+2,i,none⟩) (show w.heap.size≠w.heap.size+2 from ah) _,Blk.far h.R (p:=⟨w.heap.size+2,i,none⟩) (show w.heap.size+1≠w.heap.size+2 from ah) _,IB.set_ h.O i x,
   h.B.setCell (p:=⟨w.heap.size+2,i,none⟩) (show w.heap.size<=w.heap.size+2 from ah) _⟩
theorem afP{f:Nat->Int}{ys:List Int}{n:Nat}(hl:ys.length=8)(h:∀j,j<n->ys.getD j 0=f j)(hn:n<8):(ys.set n (f n)).length=8/\∀j,j<n+1->(ys.set n (f n)).getD j 0=f j:=by
 refine⟨vu,fun j hj=>?_⟩
 by_cases e:n=j
 ·subst e;exact gQ _ _ _ ah
 rw[iw _ _ e];exact h j ah
theorem afQ{f:Nat->Int}{ys:List Int}(hl:ys.length=8)(h:∀j,j<8->ys.getD j 0=f j):ys=(List.range 8).map f:=
 bV vu fun k hk=>by rw[hl] at hk;rw[h k hk,aT f hk]
theorem afR(ks:List Int)(w:World)(hl:ks.length=8)(T:TabA w 3 fD):
 Calls Tryz.prog 40 #[.agg (agi ks)] w (rX qV cG ks w):=by
 have hR:=oL (fn:=Tryz.f40) (p:=2) (q:=3) (ty:=22) rfl
 have S0:=Sq.start w ks
 rw[bW] at S0
 have S0:=hid S0
 have KC:=hid (fun i k w' (h:Below w.heap.size w w')=>afM i k w' (T.below' h (al0z _)))
 have HIX:=hid (fun(k:Nat) (hk:k<8) (w:World)=>jp Tryz.underlying22 ks hl k hk w)
 have HL:=hid hl
 clear T hl
 go_enter Tryz.func40,Tryz.ntmps40
 go_wp2_with(refine aK rfl 22 (.tmp 1) rfl _ 22 ks 8 _ rfl S0.out.A Tryz.underlying22 rfl aH HL.out ?_)
 go_loopw[10] (fun iv wr=> ∃(n:Nat) (ys:List Int),n<=8/\iv=.int .i64 n/\Hid (aE cG ks n=0)/\Hid (ys.length=8/\∀j,j<n->ys.getD j 0=aF qV ks j)/\Hid (Sq w wr ks ys)) (fun iv _=>8-(intOf iv).toNat)
 case atStart=>exact⟨0,Z8,ah,rfl,hid rfl,hid ⟨rfl,fun j h=>ah⟩,S0⟩
 case round=>
  clear S0
  obtain⟨n,ys,hn,rfl,HE,HY,HS⟩:=hrel
  by_cases hlt:n<8
  ·have K:=KC.out (n:Nat) (ks.getD n 0) wr HS.out.B
   unfold o7 at K
   have hix:=HIX.out n hlt
   have ca:=IB.cell HS.out.A n oK
   have HV:=hid (show aF qV ks n=qV (n:Nat) (ks.getD n 0) from rfl)
   have HE1:=hid (show aE cG ks (n+1)=cG (n:Nat) (ks.getD n 0) from Nu)
   generalize qV (n:Nat) (ks.getD n 0)=v at*
   generalize cG (n:Nat) (ks.getD n 0)=er at*
   generalize ks.getD n 0=x at*
   have K':=hid K
   clear K
   by_cases h0:er=0
   ·subst h0
    go_wp2_with fail
    refine K'.out.mono ?_
    rintro e w1 ⟨rfl,rfl⟩
    have HS2:=HS
    exact l23
   have e1:(er !=0)=true:=ql
   have e2:(er==0)=false:=ql
   have HF:=hid (show aE cG ks 8=er from Ov)
   have HF2:=hid (show aL qV cG ks=Z8 from Mc)
   clear h0
   go_wp2_with fail
   refine K'.out.mono ?_
   rintro e w1 ⟨rfl,rfl⟩
   have HS2:=HS
   clear ca hix
   go_wp2_with(refine aP rfl 22 (.tmp 2) (.tmp 22) rfl _ 22 Z8 Z8 8 rfl rfl HS2.out.R aH rfl rfl ?_)
   exact l42
  obtain rfl:n=8:=ah
  have HF2:=hid (show aL qV cG ks=ys from Kq)
  have HYL:=hid HY.out.1
  go_wp2_with(first
   |(refine aK rfl 22 (.tmp 4) rfl _ 22 ys 8 _ rfl HS.out.O Tryz.underlying22 rfl aH HYL.out ?_)
   |(refine aP rfl 22 (.tmp 2) (.tmp 28) rfl _ 22 Z8 ys 8 rfl rfl HS.out.R aH rfl HYL.out ?_))
  exact l41
theorem XI(ks:List Int)(w:World)(hl:ks.length=8)(T:TabA w 3 fD):
 Calls Tryz.prog 43 #[.agg (agi ks)] w (rX lvV bh ks w):=by
 have hR:=oL (fn:=Tryz.f43) (p:=2) (q:=3) (ty:=22) rfl
 have S0:=Sq.start w ks
 rw[bW] at S0
 have S0:=hid S0
 have KC:=hid (fun i k w' (h:Below w.heap.size w w')=>Xy i k w' (T.below' h (al0z _)))
 have HIX:=hid (fun(k:Nat) (hk:k<8) (w:World)=>jp Tryz.underlying22 ks hl k hk w)
 have HL:=hid hl
 clear T hl
 go_enter Tryz.func43,Tryz.ntmps43
 go_wp2_with(refine aK rfl 22 (.tmp 1) rfl _ 22 ks 8 _ rfl S0.out.A Tryz.underlying22 rfl aH HL.out ?_)
 go_loopw[10] (fun iv wr=> ∃(n:Nat) (ys:List Int),n<=8/\iv=.int .i64 n/\Hid (aE bh ks n=0)/\Hid (ys.length=8/\∀j,j<n->ys.getD j 0=aF lvV ks j)/\Hid (Sq w wr ks ys)) (fun iv _=>8-(intOf iv).toNat)
 case atStart=>exact⟨0,Z8,ah,rfl,hid rfl,hid ⟨rfl,fun j h=>ah⟩,S0⟩
 case round=>
  clear S0
  obtain⟨n,ys,hn,rfl,HE,HY,HS⟩:=hrel
  by_cases hlt:n<8
  ·have K:=KC.out (n:Nat) (ks.getD n 0) wr HS.out.B
   unfold bG at K
   have hix:=HIX.out n hlt
   have ca:=IB.cell HS.out.A n oK
   have HV:=hid (show aF lvV ks n=lvV (n:Nat) (ks.getD n 0) from rfl)
   have HE1:=hid (show aE bh ks (n+1)=bh (n:Nat) (ks.getD n 0) from Nu)
   generalize lvV (n:Nat) (ks.getD n 0)=v at*
   generalize bh (n:Nat) (ks.getD n 0)=er at*
   generalize ks.getD n 0=x at*
   have K':=hid K
   clear K
   by_cases h0:er=0
   ·subst h0
    go_wp2_with fail
    refine K'.out.mono ?_
    rintro e w1 ⟨rfl,rfl⟩
    have HS2:=HS
    exact l23
   have e1:(er !=0)=true:=ql
   have e2:(er==0)=false:=ql
   have HF:=hid (show aE bh ks 8=er from Ov)
   have HF2:=hid (show aL lvV bh ks=Z8 from Mc)
   clear h0
   go_wp2_with fail
   refine K'.out.mono ?_
   rintro e w1 ⟨rfl,rfl⟩
   have HS2:=HS
   clear ca hix
   go_wp2_with(refine aP rfl 22 (.tmp 2) (.tmp 22) rfl _ 22 Z8 Z8 8 rfl rfl HS2.out.R aH rfl rfl ?_)
   exact l42
  obtain rfl:n=8:=ah
  have HF2:=hid (show aL lvV bh ks=ys from Kq)
  have HYL:=hid HY.out.1
  go_wp2_with(first
   |(refine aK rfl 22 (.tmp 4) rfl _ 22 ys 8 _ rfl HS.out.O Tryz.underlying22 rfl aH HYL.out ?_)
   |(refine aP rfl 22 (.tmp 2) (.tmp 28) rfl _ 22 Z8 ys 8 rfl rfl HS.out.R aH rfl HYL.out ?_))
  exact l41
theorem afS(ks:List Int)(w:World)(hl:ks.length=8)(T:TabS w 0 fD):
 Calls Tryz.prog 51 #[.agg (agi ks)] w (rX qV cG ks w):=by
 have hR:=oL (fn:=Tryz.f51) (p:=2) (q:=3) (ty:=22) rfl
 have S0:=Sq.start w ks
 rw[bW] at S0
 have S0:=hid S0
 have KC:=hid (fun i k w' (h:Below w.heap.size w w')=>afN i k w' (T.below' h (al0z _)))
 have HIX:=hid (fun(k:Nat) (hk:k<8) (w:World)=>jp Tryz.underlying22 ks hl k hk w)
 have HL:=hid hl
 clear T hl
 go_enter Tryz.func51,Tryz.ntmps51
 go_wp2
 go_loopw[8] (fun iv wr=> ∃(n:Nat) (ys:List Int),n<=8/\iv=.int .i64 n/\Hid (aE cG ks n=0)/\Hid (ys.length=8/\∀j,j<n->ys.getD j 0=aF qV ks j)/\Hid (Sq w wr ks ys)) (fun iv _=>8-(intOf iv).toNat)
 case atStart=>exact⟨0,Z8,ah,rfl,hid rfl,hid ⟨rfl,fun j h=>ah⟩,S0⟩
 case round=>
  clear S0
  obtain⟨n,ys,hn,rfl,HE,HY,HS⟩:=hrel
  by_cases hlt:n<8
  ·have K:=KC.out (n:Nat) (ks.getD n 0) wr HS.out.B
   unfold o8 at K
   have hix:=HIX.out n hlt
   have ca:=IB.cell HS.out.A n oK
   have HV:=hid (show aF qV ks n=qV (n:Nat) (ks.getD n 0) from rfl)
   have HE1:=hid (show aE cG ks (n+1)=cG (n:Nat) (ks.getD n 0) from Nu)
   generalize qV (n:Nat) (ks.getD n 0)=v at*
   generalize cG (n:Nat) (ks.getD n 0)=er at*
   generalize ks.getD n 0=x at*
   have K':=hid K
   clear K
   by_cases h0:er=0
   ·subst h0
    go_wp2_with fail
    refine K'.out.mono ?_
    rintro e w1 ⟨rfl,hB⟩
    have HS2:=hid (HS.out.below hB)
    clear hB
    exact l23
   have e1:(er !=0)=true:=ql
   have e2:(er==0)=false:=ql
   have HF:=hid (show aE cG ks 8=er from Ov)
   have HF2:=hid (show aL qV cG ks=Z8 from Mc)
   clear h0
   go_wp2_with fail
   refine K'.out.mono ?_
   rintro e w1 ⟨rfl,hB⟩
   have HS2:=hid (HS.out.below hB)
   clear hB
   clear ca hix
   go_wp2_with(refine aP rfl 22 (.tmp 2) (.tmp 21) rfl _ 22 Z8 Z8 8 rfl rfl HS2.out.R aH rfl rfl ?_)
   exact l42
  obtain rfl:n=8:=ah
  have HF2:=hid (show aL qV cG ks=ys from Kq)
  have HYL:=hid HY.out.1
  go_wp2_with(first
   |(refine aK rfl 22 (.tmp 4) rfl _ 22 ys 8 _ rfl HS.out.O Tryz.underlying22 rfl aH HYL.out ?_)
   |(refine aP rfl 22 (.tmp 2) (.tmp 27) rfl _ 22 Z8 ys 8 rfl rfl HS.out.R aH rfl HYL.out ?_))
  exact l41
theorem XJ(ks:List Int)(w:World)(hl:ks.length=8)(T:TabS w 0 fD):
 Calls Tryz.prog 52 #[.agg (agi ks)] w (rX lvV bh ks w):=by
 have hR:=oL (fn:=Tryz.f52) (p:=2) (q:=3) (ty:=22) rfl
 have S0:=Sq.start w ks
 rw[bW] at S0
 have S0:=hid S0
 have KC:=hid (fun i k w' (h:Below w.heap.size w w')=>XF i k w' (T.below' h (al0z _)))
 have HIX:=hid (fun(k:Nat) (hk:k<8) (w:World)=>jp Tryz.underlying22 ks hl k hk w)
 have HL:=hid hl
 clear T hl
 go_enter Tryz.func52,Tryz.ntmps52
 go_wp2
 go_loopw[8] (fun iv wr=> ∃(n:Nat) (ys:List Int),n<=8/\iv=.int .i64 n/\Hid (aE bh ks n=0)/\Hid (ys.length=8/\∀j,j<n->ys.getD j 0=aF lvV ks j)/\Hid (Sq w wr ks ys)) (fun iv _=>8-(intOf iv).toNat)
 case atStart=>exact⟨0,Z8,ah,rfl,hid rfl,hid ⟨rfl,fun j h=>ah⟩,S0⟩
 case round=>
  clear S0
  obtain⟨n,ys,hn,rfl,HE,HY,HS⟩:=hrel
  by_cases hlt:n<8
  ·have K:=KC.out (n:Nat) (ks.getD n 0) wr HS.out.B
   unfold bG at K
   have hix:=HIX.out n hlt
   have ca:=IB.cell HS.out.A n oK
   have HV:=hid (show aF lvV ks n=lvV (n:Nat) (ks.getD n 0) from rfl)
   have HE1:=hid (show aE bh ks (n+1)=bh (n:Nat) (ks.getD n 0) from Nu)
   generalize lvV (n:Nat) (ks.getD n 0)=v at*
   generalize bh (n:Nat) (ks.getD n 0)=er at*
   generalize ks.getD n 0=x at*
   have K':=hid K
   clear K
   by_cases h0:er=0
   ·subst h0
    go_wp2_with fail
    refine K'.out.mono ?_
    rintro e w1 ⟨rfl,rfl⟩
    have HS2:=HS
    exact l23
   have e1:(er !=0)=true:=ql
   have e2:(er==0)=false:=ql
   have HF:=hid (show aE bh ks 8=er from Ov)
   have HF2:=hid (show aL lvV bh ks=Z8 from Mc)
   clear h0
   go_wp2_with fail
   refine K'.out.mono ?_
   rintro e w1 ⟨rfl,rfl⟩
   have HS2:=HS
   clear ca hix
   go_wp2_with(refine aP rfl 22 (.tmp 2) (.tmp 21) rfl _ 22 Z8 Z8 8 rfl rfl HS2.out.R aH rfl rfl ?_)
   exact l42
  obtain rfl:n=8:=ah
  have HF2:=hid (show aL lvV bh ks=ys from Kq)
  have HYL:=hid HY.out.1
  go_wp2_with(first
   |(refine aK rfl 22 (.tmp 4) rfl _ 22 ys 8 _ rfl HS.out.O Tryz.underlying22 rfl aH HYL.out ?_)
   |(refine aP rfl 22 (.tmp 2) (.tmp 27) rfl _ 22 Z8 ys 8 rfl rfl HS.out.R aH rfl HYL.out ?_))
  exact l41
def bD(vs:List Int)(one c e:Int):Nat->Int
 |0=>0
 |k+1=>if k=0 then 0 else if(vs.getD k 0+vs.getD (k-1) 0)*e<2*one*c then k else bD vs one c e k
theorem rY(vs:List Int)(one c e:Int){k:Nat}(h:0<k):bD vs one c e (k+1)=if(vs.getD k 0+vs.getD (k-1) 0)*e<2*one*c then(k:Int) else bD vs one c e k:=by
 rw[bD,if_neg ah]
theorem rZ(vs:List Int)(one c e:Int)(k:Nat):0<=bD vs one c e k/\bD vs one c e k<=k:=by
 induction k with
 |zero=>simp[bD]
 |succ k ih=>
  unfold bD
  split
  ·omega
  split<;>omega
theorem sG{x y X Y:Int}(h1:0<=x)(h2:x<=X)(h3: -Y<=y)(h4:y<=Y): -(X*Y)<=x*y/\x*y<=X*Y:=by
 have hX:0<=X:=ah
 have hY:0<=Y:=ah
 have a1:x*y<=x*Y:=Int.mul_le_mul_of_nonneg_left h4 h1
 have a2:x*Y<=X*Y:=Int.mul_le_mul_of_nonneg_right h2 hY
 have a3:x*(-Y)<=x*y:=Int.mul_le_mul_of_nonneg_left h3 h1
 have a4:x*(-Y)= -(x*Y):=by rw[Int.mul_neg]
 omega
theorem YY(A:Option Addr)(cA n:Nat)(vs:List Int)(one c e:Int)(w:World)(hr:Rs w w.heap.size A vs)(hn:vs.length=n)(h1n:1<=n)(hl:n<=100)(hv:∀i,0<=vs.getD i 0/\vs.getD i 0<=65536)
 (o1:0<=one) (o2:one<=16384) (c1: -9223372036854775808<=c) (c2:c<=9223372036854775807) (e1: -9223372036854775808<=e) (e2:e<=9223372036854775807):
 Calls Tryz.prog 178 #[.slice A n cA,.int .i64 one,.int .i64 c,.int .i64 e] w fun e' w'=>e'=.returned (.int .i64 (bD vs one c e n))/\Below w.heap.size w w':=by
 have HR:=hid hr
 have HN:=hid hn
 have HV:=hid hv
 have xb:=sG (x:=2*one) (X:=32768) (y:=c) (Y:=9223372036854775808) ah ah ah ah
 have XB:=hid (show(2*one*c).natAbs<340282366920938463463374607431768211456 from ah)
 clear hr hn hv xb
 go_enter Tryz.func178,Tryz.ntmps178
 go_wp2
 go_loopw[9,10] (fun bv iv wr=> ∃(k:Nat),1<=k/\k<=n/\iv=.int .i64 k/\bv=.int .i64 (bD vs one c e k)/\Hid (Below w.heap.size w wr)) (fun _ iv _=>n-(intOf iv).toNat)
 case atStart=>exact⟨1,ah,ah,rfl,vw,hid (aA _ _)⟩
 case round=>
  obtain⟨k,hk1,hk,rfl,rfl,HB⟩:=hrel
  have nb:=rZ vs one c e k
  have ST:=hid (rY vs one c e (k:=k) ah)
  by_cases hlt:k<n
  ·generalize bD vs one c e k=bst at*
   go_wp2_with fail
   refine(fJ _ (2*one) ah ah).mono ?_
   rintro e' w2 ⟨b2,rfl,hb2,hI2,hB2⟩
   have P2:=hid (IntBlk.below (IntBlk.new wr (.bool false) (.slice none 0 0)) hB2 (al0z _))
   have I2:=hid hI2
   have B2:=hid ((HB.out.alloc HB.out.size _).trans (hB2.mono (by have:=HB.out.size;simp;omega)))
   have hws:=HB.out.size
   clear hI2 hB2
   go_wp2_with fail
   refine(fJ _ c ah ah).mono ?_
   rintro e' w3 ⟨b3,rfl,hb3,hI3,hB3⟩
   have P3:=hid (P2.out.below hB3 (al0z _))
   have I3:=hid hI3
   have J3:=hid (I2.out.below hB3 (al0z _))
   have B3:=hid (B2.out.trans (hB3.mono B2.out.size))
   clear hI3 hB3 P2 I2 B2
   go_wp2_with fail
   refine(iK w3 wr.heap.size b2 b3 (2*one) c P3.out J3.out I3.out (nG ah ah) (nG ah ah)).mono ?_
   rintro e' W ⟨rfl,hIW,hGW⟩
   have XW:=hid hIW
   have BW:=hid (bK B3.out hGW hws)
   clear hIW hGW P3 I3 J3 B3
   have hxl:=XW.out.lt
   have RW:=hid (HR.out.below BW.out)
   obtain⟨ad,rfl,hadb,k0⟩:=RW.out.at_ (k:=k) iE
   obtain⟨ad2,had2,_,k1⟩:=RW.out.at_ (k:=k-1) BG
   injection had2 with had2
   subst had2
   have v0:=HV.out k
   have v1:=HV.out (k-1)
   generalize vs.getD k 0=y at*
   generalize vs.getD (k-1) 0=x at*
   obtain⟨m,hm⟩:∃m,m=k-1:=⟨_,rfl⟩
   rw[<-hm] at k1
   have hw0:IntKind.i64.wrap ((k:Int)-1)=(m:Nat):=aN
   have hw1:IntKind.i64.wrap (y+x)=y+x:=aN
   have i1:(k:Int)<n:=ah
   have i2:(m:Int)<n:=ah
   have i3:(0:Int)<=m:=ah
   have i4:(0:Int)<=k:=ah
   have HM:=hid hm
   clear hm
   have K1:=hid (fun W'=>fJ W' (y+x) ah ah)
   have K2:=hid (fun W'=>fJ W' e ah ah)
   go_wp2
   go_region_held3 (fun w'=>w'.cell? (ad.add k)=some (.int .i64 y)/\w'.cell? (ad.add m)=some (.int .i64 x)) (go_keep) (first
    |(go_at_call 32;(with_reducible refine(K1.out W.drew).mono ?_);rintro e' wA ⟨bA,rfl,hbA,hIA,hBA⟩;have LA:Below W.heap.size W wA:=((aA W.heap.size W).drew).trans (hBA.mono L8);have sA:=LA.size;have a0:World.cell? wA (ad.add k)=some (.int .i64 y):=(LA.cell (by rw[dM];first|omega|(simp;omega))).trans k0;have a1:World.cell? wA (ad.add m)=some (.int .i64 x):=(LA.cell (by rw[dM];first|omega|(simp;omega))).trans k1;have IA:=hid hIA;have LA:=hid LA;clear hIA hBA)
    |(go_at_call 32;(with_reducible refine(K1.out (World.drew (W.alloc (.cells #[.bool false,.slice none 0 0] 80)))).mono ?_);rintro e' wA ⟨bA,rfl,hbA,hIA,hBA⟩;have LA:Below W.heap.size W wA:=(((aA W.heap.size W).alloc (al0z _) (.cells #[.bool false,.slice none 0 0] 80)).drew).trans (hBA.mono L8);have sA:=LA.size;have a0:World.cell? wA (ad.add k)=some (.int .i64 y):=(LA.cell (by rw[dM];first|omega|(simp;omega))).trans k0;have a1:World.cell? wA (ad.add m)=some (.int .i64 x):=(LA.cell (by rw[dM];first|omega|(simp;omega))).trans k1;have PA:=hid (IntBlk.below (IntBlk.new W (.bool false) (.slice none 0 0)).drew hBA (al0z _));have IA:=hid hIA;have LA:=hid LA;clear hIA hBA)
    |(go_at_call 32;(with_reducible refine(K2.out wA).mono ?_);rintro e' wB ⟨bB,rfl,hbB,hIB,hBB⟩;have LB:Below W.heap.size W wB:=LA.out.trans (hBB.mono MO);have sB:=LB.size;have b0:World.cell? wB (ad.add k)=some (.int .i64 y):=(LB.cell (by rw[dM];first|omega|(simp;omega))).trans k0;have b1:World.cell? wB (ad.add m)=some (.int .i64 x):=(LB.cell (by rw[dM];first|omega|(simp;omega))).trans k1;have IB:=hid (IA.out.below hBB (al0z _));have sAB:=hBB.size;have ABw:=hid hBB;have JB:=hid hIB;have LB:=hid LB;clear hIB hBB)
    |(go_at_call 32;(with_reducible refine(K2.out (wA.alloc (.cells #[.bool false,.slice none 0 0] 80))).mono ?_);rintro e' wB ⟨bB,rfl,hbB,hIB,hBB⟩;have LB:Below W.heap.size W wB:=(LA.out.alloc sA (.cells #[.bool false,.slice none 0 0] 80)).trans (hBB.mono MO);have sB:=LB.size;have b0:World.cell? wB (ad.add k)=some (.int .i64 y):=(LB.cell (by rw[dM];first|omega|(simp;omega))).trans k0;have b1:World.cell? wB (ad.add m)=some (.int .i64 x):=(LB.cell (by rw[dM];first|omega|(simp;omega))).trans k1;have PB:=hid (IntBlk.below (IntBlk.new wA (.bool false) (.slice none 0 0)) hBB (al0z _));have IB:=hid ((IA.out.below ((aA _ _).alloc (al0z _) (.cells #[.bool false,.slice none 0 0] 80)) (al0z _)).below hBB (al0z _));have JB:=hid hIB;have LB:=hid LB;clear hIB hBB)
    |(go_at_call 118;(with_reducible refine(iK (wB.alloc (.cells #[.bool false,.slice none 0 0] 80)) wB.heap.size bA bB (y+x) e (IntBlk.new wB (.bool false) (.slice none 0 0)) (IB.out.below ((aA _ _).alloc (al0z _) (.cells #[.bool false,.slice none 0 0] 80)) (al0z _)) (JB.out.below ((aA _ _).alloc (al0z _) (.cells #[.bool false,.slice none 0 0] 80)) (al0z _)) (nG ah ah) (nG ah ah)).mono ?_);rintro e' wM ⟨rfl,hIM,hGM⟩;have ltM:W.heap.size<=wB.heap.size:=ah;have XM:=hid ((XW.out.below (LB.out.alloc sB (.cells #[.bool false,.slice none 0 0] 80)) (al0z _):IntAt (wB.alloc (.cells #[.bool false,.slice none 0 0] 80)) wr.heap.size (2*one*c)).kept (IntBlk.new wB (.bool false) (.slice none 0 0)) hGM Bi);have LM:Below W.heap.size W wM:=bK (LB.out.alloc sB (.cells #[.bool false,.slice none 0 0] 80)) hGM ah;have m0:World.cell? wM (ad.add k)=some (.int .i64 y):=(LM.cell (by rw[dM];first|omega|(simp;omega))).trans k0;have m1:World.cell? wM (ad.add m)=some (.int .i64 x):=(LM.cell (by rw[dM];first|omega|(simp;omega))).trans k1;have IM:=hid hIM;have LM:=hid LM;clear hIM hGM)
    |(go_at_call 118;have tok:=PB.out;clear tok;(with_reducible refine(iK wB wA.heap.size bA bB (y+x) e PB.out IB.out JB.out (nG ah ah) (nG ah ah)).mono ?_);rintro e' wM ⟨rfl,hIM,hGM⟩;have ltM:W.heap.size<=wA.heap.size:=ah;have XM:=hid ((XW.out.below LB.out (al0z _):IntAt wB wr.heap.size (2*one*c)).kept PB.out hGM Bi);have LM:Below W.heap.size W wM:=bK (LB.out) hGM ah;have m0:World.cell? wM (ad.add k)=some (.int .i64 y):=(LM.cell (by rw[dM];first|omega|(simp;omega))).trans k0;have m1:World.cell? wM (ad.add m)=some (.int .i64 x):=(LM.cell (by rw[dM];first|omega|(simp;omega))).trans k1;have IM:=hid hIM;have LM:=hid LM;clear hIM hGM)
    |(go_at_call 118;have PC:=hid (IntBlk.below PA.out (B:=wA.heap.size) ABw.out (al0z _));(with_reducible refine(iK wB W.heap.size bA bB (y+x) e PC.out IB.out JB.out (nG ah ah) (nG ah ah)).mono ?_);rintro e' wM ⟨rfl,hIM,hGM⟩;have ltM:W.heap.size<=W.heap.size:=ah;have XM:=hid ((XW.out.below LB.out (al0z _):IntAt wB wr.heap.size (2*one*c)).kept PC.out hGM Bi);have LM:Below W.heap.size W wM:=bK (LB.out) hGM ah;have m0:World.cell? wM (ad.add k)=some (.int .i64 y):=(LM.cell (by rw[dM];first|omega|(simp;omega))).trans k0;have m1:World.cell? wM (ad.add m)=some (.int .i64 x):=(LM.cell (by rw[dM];first|omega|(simp;omega))).trans k1;have IM:=hid hIM;have LM:=hid LM;clear hIM hGM))
   all_goals
    rename_i hHeldZ
    clear hHeldZ a0 a1 b0 b1 m0 m1 k0 k1
    simp only[Exit.then]
    have YB:=hid (show((y+x)*e).natAbs<340282366920938463463374607431768211456 by
     have:=sG (x:=y+x) (X:=131072) (y:=e) (Y:=9223372036854775808) ah ah ah ah
     omega)
    have KC:=hid (xO wM wr.heap.size _ (2*one*c) ((y+x)*e) XM.out IM.out (aW XB.out) (aW YB.out))
    have BM:=hid (BW.out.trans (LM.out.mono BW.out.size))
    clear IM XM LM K1 K2
    by_cases hgt:(y+x)*e<2*one*c
    ·have hc:0<gU (2*one*c) ((y+x)*e):=by unfold gU;rw[if_neg ah,if_pos hgt];decide
     have HS2:=hid (show bD vs one c e (k+1)=k by rw[ST.out,if_pos hgt])
     exact l64
    ·have hc: ¬0<gU (2*one*c) ((y+x)*e):=by
      unfold gU
      repeat' split
      all_goals first|decide|omega
     have HS2:=hid (show bD vs one c e (k+1)=bst by rw[ST.out,if_neg hgt])
     exact l64
  obtain rfl:k=n:=ah
  go_wp2
  go_ret
  exact⟨rfl,HB.out⟩
def hiY(a b c d x:Int):Int:=s16 ((3798*x-7596*a+3798*b+7807*c-3733*d+2048)/4096)
def hiN(l:List Int)(a b c d:Int):Nat->(Int×Int×Int×Int)×List Int
 |0=>((a,b,c,d),[])
 |k+1=>((l.getD k 0,(hiN l a b c d k).1.1,hiY (hiN l a b c d k).1.1 (hiN l a b c d k).1.2.1 (hiN l a b c d k).1.2.2.1 (hiN l a b c d k).1.2.2.2 (l.getD k 0),(hiN l a b c d k).1.2.2.1),
   (hiN l a b c d k).2++[hiY (hiN l a b c d k).1.1 (hiN l a b c d k).1.2.1 (hiN l a b c d k).1.2.2.1 (hiN l a b c d k).1.2.2.2 (l.getD k 0)])
def yT(a b c d:Int)(l:List Int):Bool:=aG l&&(aG [a,b]&&aG [c,d])
def wF(x:Int):Prop:= -32768<=x/\x<=32767
theorem Zl(x:Int):wF (s16 x):=by
 unfold s16 lim wF
 repeat' split
 all_goals omega
theorem Jl(l:List Int)(a b c d:Int)(k:Nat):(hiN l a b c d k).2.length=k:=by
 induction k with
 |zero=>rfl
 |succ k ih=>simp only[hiN,gu,ih];rfl
theorem Zm{l:List Int}{a b c d:Int}(hl:aG l=true)(h1:aG [a,b]=true)(h2:aG [c,d]=true)(k:Nat):
 wF (hiN l a b c d k).1.1/\wF (hiN l a b c d k).1.2.1/\wF (hiN l a b c d k).1.2.2.1/\wF (hiN l a b c d k).1.2.2.2:=by
 induction k with
 |zero=>exact⟨fP h1 0,fP h1 1,fP h2 0,fP h2 1⟩
 |succ k ih=>exact⟨fP hl k,ih.1,Zl _,ih.2.2.1⟩
structure Hx(w wr:World)(h:List Int):Prop where
 H:IB wr w.heap.size 44 h
 R:IB wr (w.heap.size+1) 44 [0,0,0,0]
 bel:Below w.heap.size w wr
theorem Hx.lt{w wr:World}{h:List Int}(s:Hx w wr h):w.heap.size+2<=wr.heap.size:=Blk.lt s.R
theorem Hx.start(w:World)(h:List Int):Hx w ((w.alloc (.cells (agi h) 44)).alloc (.cells (agi [0,0,0,0]) 44)) h:=by
 have h1:=IB.new w 44 h
 have h2:=IB.new (w.alloc (.cells (agi h) 44)) 44 [0,0,0,0]
 simp only[bU] at h2
 exact U5
theorem Hx.alloc{w wr:World}{h:List Int}(s:Hx w wr h)(o:Obj):Hx w (wr.alloc o) h:=
 ⟨Blk.alloc s.H o,Blk.alloc s.R o,s.bel.alloc (by have:=s.lt;omega) o⟩
theorem Hx.drew{w wr:World}{h:List Int}(s:Hx w wr h):Hx w wr.drew h:=⟨s.H,s.R,s.bel.drew⟩
theorem Hx.grown{w wr wr':World}{h xs:List Int}{A:Option Addr}{c:Nat}(s:Hx w wr h)(hO:Own wr (w.heap.size+2) A c xs)(hG:wr.grownBy wr' (A.map (·.block))):Hx w wr' h:=
 ⟨Blk.grownA s.H hG (hO.ne_ ah),Blk.grownA s.R hG (hO.ne_ ah),uB s.bel (hO.more ah) hG (by have:=s.lt;omega)⟩
theorem Hx.set{w wr:World}{h:List Int}(s:Hx w wr h)(i:Nat)(x:Int):Hx w (wr.setCell ⟨w.heap.size,i,none⟩ (.int .i64 x)) (h.set i x):=
 ⟨IB.set_ s.H i x,Blk.far s.R az _,s.bel.setCell az _⟩
theorem Hx.set4{w wr:World}{a b c d:Int}(s:Hx w wr [a,b,c,d])(x0 x1 x2 x3:Int):
 Hx w ((((wr.setCell ⟨w.heap.size,0,none⟩ (.int .i64 x0)).setCell ⟨w.heap.size,1,none⟩ (.int .i64 x1)).setCell ⟨w.heap.size,2,none⟩ (.int .i64 x2)).setCell ⟨w.heap.size,3,none⟩ (.int .i64 x3)) [x0,x1,x2,x3]:=
 (((s.set 0 x0).set 1 x1).set 2 x2).set 3 x3
theorem zX:agi [0,0,0,0]= #[.int .i64 0,.int .i64 0,.int .i64 0,.int .i64 0]:=rfl
theorem yU:(Tryz.prog.info? 44).map (·.size)=some 4:=au
theorem Own.set4{w:World}{base c g:Nat}{A:Option Addr}{xs:List Int}(h:Own w base A c xs)(hg:g<base)(x0 x1 x2 x3:Int):
 Own ((((w.setCell ⟨g,0,none⟩ (.int .i64 x0)).setCell ⟨g,1,none⟩ (.int .i64 x1)).setCell ⟨g,2,none⟩ (.int .i64 x2)).setCell ⟨g,3,none⟩ (.int .i64 x3)) base A c xs:=
 (((h.setC hg 0 _).setC hg 1 _).setC hg 2 _).setC hg 3 _
theorem IB.set4{w:World}{g:Nat}{t:TypeId}{a b c d:Int}(h:IB w g t [a,b,c,d])(x0 x1 x2 x3:Int):
 IB ((((w.setCell ⟨g,0,none⟩ (.int .i64 x0)).setCell ⟨g,1,none⟩ (.int .i64 x1)).setCell ⟨g,2,none⟩ (.int .i64 x2)).setCell ⟨g,3,none⟩ (.int .i64 x3)) g t [x0,x1,x2,x3]:=
 IB.set_ (IB.set_ (IB.set_ (IB.set_ h 0 x0) 1 x1) 2 x2) 3 x3
theorem Rz{B g:Nat}{w0 w:World}(h:Below B w0 w)(hg:B<=g)(x0 x1 x2 x3:Int):
 Below B w0 ((((w.setCell ⟨g,0,none⟩ (.int .i64 x0)).setCell ⟨g,1,none⟩ (.int .i64 x1)).setCell ⟨g,2,none⟩ (.int .i64 x2)).setCell ⟨g,3,none⟩ (.int .i64 x3)):=
 (((h.setCell hg _).setCell hg _).setCell hg _).setCell hg _
theorem Jm{w:World}{g o B:Nat}{x y:Int}(h0:w.cell? ⟨g,o,none⟩=some (.int .i64 x))(h1:w.cell? ⟨g,o+1,none⟩=some (.int .i64 y))(hg:g<B):Rs w B (some ⟨g,o,none⟩) [x,y]:=
 ⟨nZ,fun _=>⟨_,rfl,hg,fun j u hu=>by
   have hj:j<2:=by
    have:=(List.getElem?_eq_some_iff.mp hu).1
    rwa [aQ] at this
   rw[rJ [x,y] j hj] at hu
   rw[<-hu]
   match j,hj with
   |0,_=>exact h0
   |1,_=>exact h1⟩⟩
def hiA(l:List Int)(a b c d:Int)(n:Nat):List Int×List Int×Bool:=
 if yT a b c d l then([(hiN l a b c d n).1.1,(hiN l a b c d n).1.2.1,(hiN l a b c d n).1.2.2.1,(hiN l a b c d n).1.2.2.2],(hiN l a b c d n).2,true) else([0,0,0,0],[],false)
theorem ahG(a b c d:Int)(l:List Int)(A0:Option Addr)(c0 n:Nat)(w:World)(hr:Rs w w.heap.size A0 l)(hn:l.length=n)(hl:n<=17592186044000):
 Calls Tryz.prog 37 #[.agg (agi [a,b,c,d]),.slice A0 n c0] w (qW w (hiA l a b c d n).2.1 (hiA l a b c d n).1 (aZ (hiA l a b c d n).2.2)):=by
 have hR:=Je (fn:=Tryz.f37) (p:=4) (q:=5) (r:=6) (ty:=44) rfl
 have S0:=Hx.start w [a,b,c,d]
 rw[zX] at S0
 have S0:=hid S0
 have R0:=hid (hr.below S0.out.bel)
 have HN:=hid hn
 have HR:=hid hr
 have KL:=hid (fun(W:World) (h:Rs W W.heap.size A0 l)=>CO A0 c0 n W.heap.size l W h hn ah)
 have KX:=hid (fun(W:World) (h:Rs W W.heap.size (some ⟨w.heap.size,0,none⟩) [a,b])=>CO _ 2 2 W.heap.size [a,b] W h rfl ah)
 have KY:=hid (fun(W:World) (h:Rs W W.heap.size (some ⟨w.heap.size,2,none⟩) [c,d])=>CO _ 2 2 W.heap.size [c,d] W h rfl ah)
 have k0:∀W,Hx w W [a,b,c,d]->W.cell? ⟨w.heap.size,0,none⟩=some (.int .i64 a):=fun W s=>IB.cell s.H 0 az
 have RX:=hid (Jm (IB.cell S0.out.H 0 az) (IB.cell S0.out.H 1 az) (Blk.lt S0.out.H))
 have RY:=hid (Jm (IB.cell S0.out.H 2 az) (IB.cell S0.out.H 3 az) (Blk.lt S0.out.H))
 have RL:=hid (R0.out.more (show w.heap.size<=_ from S0.out.bel.size))
 clear hn hr k0 R0
 have K1:=hid (KL.out _ RL.out)
 have K2:=hid (KX.out _ RX.out)
 have K3:=hid (KY.out _ RY.out)
 clear KL KX KY RX RY RL
 by_cases hg:yT a b c d l=true
 ·obtain⟨gl,g1,g2⟩:aG l=true/\aG [a,b]=true/\aG [c,d]=true:=by simpa[yT] using hg
  unfold hiA
  rw[if_pos hg]
  have GN:=hid (fun k=>Zm gl g1 g2 k)
  have GL:=hid gl
  have K1':=K1.out
  have K2':=K2.out
  have K3':=K3.out
  rw[gl] at K1'
  rw[g1] at K2'
  rw[g2] at K3'
  have K1:=hid K1'
  have K2:=hid K2'
  have K3:=hid K3'
  clear K1' K2' K3' gl g1 g2 hg
  go_enter Tryz.func37,Tryz.ntmps37
  go_wp2_with(first
   |(go_at_call 83;(with_reducible refine K1.out.mono ?_);rintro e w' ⟨rfl,rfl⟩)
   |(go_at_call 83;(with_reducible refine K2.out.mono ?_);rintro e w' ⟨rfl,rfl⟩)
   |(go_at_call 83;(with_reducible refine K3.out.mono ?_);rintro e w' ⟨rfl,rfl⟩))
  have S0':=S0
  clear K1 K2 K3 S0
  go_loopw[7,30] (fun ov iv wr=> ∃(k:Nat) (A:Option Addr) (cc:Nat) (h0 h1 h2 h3:Int) (ys:List Int),k<=n/\iv=.int .i64 k/\ov=.slice A k cc/\Hid (hiN l a b c d k=((h0,h1,h2,h3),ys))/\Hid (Own wr (w.heap.size+2) A cc ys)/\Hid (Hx w wr [h0,h1,h2,h3])) (fun _ iv _=>n-(intOf iv).toNat)
  case atStart=>exact⟨0,none,0,a,b,c,d,[],ah,rfl,rfl,hid rfl,hid Own.nil,S0'⟩
  case round=>
   clear S0'
   obtain⟨k,A,cc,h0,h1,h2,h3,ys,hk,rfl,rfl,HY,HO,HS⟩:=hrel
   have YL:=hid (show ys.length=k by have:=Jl l a b c d k;rw[HY.out] at this;exact this)
   have e0:wr.cell? ⟨w.heap.size,0,none⟩=some (.int .i64 h0):=IB.cell HS.out.H 0 az
   have e1:wr.cell? ⟨w.heap.size,1,none⟩=some (.int .i64 h1):=IB.cell HS.out.H 1 az
   have e2:wr.cell? ⟨w.heap.size,2,none⟩=some (.int .i64 h2):=IB.cell HS.out.H 2 az
   have e3:wr.cell? ⟨w.heap.size,3,none⟩=some (.int .i64 h3):=IB.cell HS.out.H 3 az
   by_cases hlt:k<n
   ·obtain⟨ad,rfl,hadb,c1⟩:=(HR.out.below HS.out.bel).at_ (k:=k) iE
    have xb:=fP GL.out k
    have gn:=GN.out k
    rw[HY.out] at gn
    dsimp only at gn
    have HY2:=hid (show hiN l a b c d (k+1)=((l.getD k 0,h0,hiY h0 h1 h2 h3 (l.getD k 0),h2),ys++[hiY h0 h1 h2 h3 (l.getD k 0)]) by rw[hiN,HY.out])
    obtain⟨x,hx⟩:∃x,x=l.getD k 0:=⟨_,rfl⟩
    rw[<-hx] at c1 xb HY2
    unfold hiY wF at*
    obtain⟨x1,x2⟩:=xb
    obtain⟨⟨g1,g2⟩,⟨g3,g4⟩,⟨g5,g6⟩,g7,g8⟩:=gn
    have f0:wr.frozen? ⟨w.heap.size,0,none⟩=false:=Blk.frozen HS.out.H 0
    have f1:wr.frozen? ⟨w.heap.size,1,none⟩=false:=Blk.frozen HS.out.H 1
    have f2:wr.frozen? ⟨w.heap.size,2,none⟩=false:=Blk.frozen HS.out.H 2
    have f3:wr.frozen? ⟨w.heap.size,3,none⟩=false:=Blk.frozen HS.out.H 3
    clear hx
    have hw1:IntKind.i64.wrap (3798*x)=3798*x:=aN
    have hw2:IntKind.i64.wrap (7596*h0)=7596*h0:=aN
    have hw3:IntKind.i64.wrap (3798*h1)=3798*h1:=aN
    have hw4:IntKind.i64.wrap (7807*h2)=7807*h2:=aN
    have hw5:IntKind.i64.wrap (3733*h3)=3733*h3:=aN
    have hw6:IntKind.i64.wrap (3798*x-7596*h0)=3798*x-7596*h0:=aN
    have hw7:IntKind.i64.wrap (3798*x-7596*h0+3798*h1)=3798*x-7596*h0+3798*h1:=aN
    have hw8:IntKind.i64.wrap (3798*x-7596*h0+3798*h1+7807*h2)=3798*x-7596*h0+3798*h1+7807*h2:=aN
    have hw9:IntKind.i64.wrap (3798*x-7596*h0+3798*h1+7807*h2-3733*h3)=3798*x-7596*h0+3798*h1+7807*h2-3733*h3:=aN
    have hw10:IntKind.i64.wrap (3798*x-7596*h0+3798*h1+7807*h2-3733*h3+2048)=3798*x-7596*h0+3798*h1+7807*h2-3733*h3+2048:=aN
    clear x1 x2 g1 g2 g3 g4 g5 g6 g7 g8 hR
    obtain⟨y,hy⟩:∃y,y=s16 ((3798*x-7596*h0+3798*h1+7807*h2-3733*h3+2048)/4096):=⟨_,rfl⟩
    rw[<-hy] at HY2
    have KS:=hid (fun W=>PD ((3798*x-7596*h0+3798*h1+7807*h2-3733*h3+2048)/4096) W)
    rw[<-hy] at KS
    clear hy
    obtain⟨w4,hw4⟩:∃w4,w4=((((wr.setCell ⟨w.heap.size,0,none⟩ (.int .i64 x)).setCell ⟨w.heap.size,1,none⟩ (.int .i64 h0)).setCell ⟨w.heap.size,2,none⟩ (.int .i64 y)).setCell ⟨w.heap.size,3,none⟩ (.int .i64 h2)):=⟨_,rfl⟩
    have S4:=hid (show Hx w w4 [x,h0,y,h2] from hw4▸HS.out.set4 x h0 y h2)
    have O4:=hid (show Own w4 (w.heap.size+2) A cc ys from hw4▸HO.out.set4 (g:=w.heap.size) ah x h0 y h2)
    have HW4:=hid hw4
    have HCN:=hid (show(w4.alloc (.cells #[.int .i64 y] 3)).cell? ⟨wr.heap.size,0,none⟩=some (.int .i64 y) from by rw[show wr.heap.size=w4.heap.size from by rw[hw4];simp];exact mW w4 _ _)
    clear hw4
    go_wp2_with(first
     |(go_at_call 84;(with_reducible refine(KS.out _).mono ?_);rintro e w' ⟨rfl,rfl⟩;clear hw1 hw2 hw3 hw4 hw5 hw6 hw7 hw8 hw9 hw10)
     |(at_builtin;rw[<-HW4.out];refine vP rfl (.tmp 76) (.tmp 78) rfl (w.heap.size+2) A cc k ys rfl YL.out (O4.out.alloc _) ⟨wr.heap.size,0,none⟩ y rfl HCN.out ah (gJ S4.out.lt az) ?_;intro A2 c2 w5 hO hG hA;have O5:=hid hO;have G5:=hid hG;clear hO hG hA))
    have S5:=hid ((S4.out.alloc _).grown (O4.out.alloc _) G5.out)
    go_wp2
    go_roundw
    case rel=>exact⟨k+1,A2,c2,_,_,_,_,_,ah,aO,rfl,HY2,O5,S5⟩
    case measure=>simp[intOf]<;>omega
   obtain rfl:k=n:=ah
   have r0:wr.cell? ⟨w.heap.size+1,0,none⟩=some (.int .i64 0):=IB.cell HS.out.R 0 aB
   have r1:wr.cell? ⟨w.heap.size+1,1,none⟩=some (.int .i64 0):=IB.cell HS.out.R 1 aB
   have r2:wr.cell? ⟨w.heap.size+1,2,none⟩=some (.int .i64 0):=IB.cell HS.out.R 2 aB
   have r3:wr.cell? ⟨w.heap.size+1,3,none⟩=some (.int .i64 0):=IB.cell HS.out.R 3 aB
   have f0:wr.frozen? ⟨w.heap.size+1,0,none⟩=false:=Blk.frozen HS.out.R 0
   have f1:wr.frozen? ⟨w.heap.size+1,1,none⟩=false:=Blk.frozen HS.out.R 1
   have f2:wr.frozen? ⟨w.heap.size+1,2,none⟩=false:=Blk.frozen HS.out.R 2
   have f3:wr.frozen? ⟨w.heap.size+1,3,none⟩=false:=Blk.frozen HS.out.R 3
   have IR:=hid (Blk.drew (IB.set4 HS.out.R h0 h1 h2 h3))
   have OR:=hid ((HO.out.set4 (g:=w.heap.size+1) ah h0 h1 h2 h3).drew.more (base':=w.heap.size) ah)
   have BR:=hid (Rz HS.out.bel (g:=w.heap.size+1) ah h0 h1 h2 h3).drew
   go_wp2
   go_region
   clear e0 e1 e2 e3 r0 r1 r2 r3 f0 f1 f2 f3
   simp only[Exit.then]
   go_wp2
   refine bg (v:=_) (hR _ _ _ 44 [h0,h1,h2,h3] _ 4 rfl IR.out Tryz.underlying44 rfl yU rfl) rfl ?_
   rw[HY.out]
   exact⟨A,cc,by rw[YL.out];rfl,OR.out,BR.out⟩
 ·have hA:hiA l a b c d n=([0,0,0,0],[],false):=by unfold hiA;rw[if_neg hg]
  rw[hA]
  clear hA
  obtain⟨W,hW⟩:∃W,W=(w.alloc (.cells (agi [a,b,c,d]) 44)).alloc (.cells #[.int .i64 0,.int .i64 0,.int .i64 0,.int .i64 0] 44):=⟨_,rfl⟩
  rw[<-hW] at K1 K2 K3 S0
  have r0:W.cell? ⟨w.heap.size+1,0,none⟩=some (.int .i64 0):=IB.cell S0.out.R 0 aB
  have r1:W.cell? ⟨w.heap.size+1,1,none⟩=some (.int .i64 0):=IB.cell S0.out.R 1 aB
  have r2:W.cell? ⟨w.heap.size+1,2,none⟩=some (.int .i64 0):=IB.cell S0.out.R 2 aB
  have r3:W.cell? ⟨w.heap.size+1,3,none⟩=some (.int .i64 0):=IB.cell S0.out.R 3 aB
  have f0:W.frozen? ⟨w.heap.size+1,0,none⟩=false:=Blk.frozen S0.out.R 0
  have f1:W.frozen? ⟨w.heap.size+1,1,none⟩=false:=Blk.frozen S0.out.R 1
  have f2:W.frozen? ⟨w.heap.size+1,2,none⟩=false:=Blk.frozen S0.out.R 2
  have f3:W.frozen? ⟨w.heap.size+1,3,none⟩=false:=Blk.frozen S0.out.R 3
  have IR:=hid S0.out.R
  have BR:=hid S0.out.bel
  have FIN:=hid (show qW w [] [0,0,0,0] (aZ false) (.returned (.tuple #[.slice none 0 0,.agg (agi [0,0,0,0]),.int .i64 2])) W from⟨none,0,rfl,Own.nil,BR.out⟩)
  unfold yT at hg
  cases gl:aG l with
  |false=>
    rw[gl] at K1
    clear K2 K3 hg S0
    exact l26
  |true=>
   rw[gl] at K1 hg
   cases g1:aG [a,b] with
   |false=>
     rw[g1] at K2
     clear K3 hg S0
     exact l26
   |true=>
    rw[g1] at K2 hg
    cases g2:aG [c,d] with
    |false=>
     rw[g2] at K3
     clear hg S0
     exact l26
    |true=>rw[g2] at hg;simp at hg
theorem RI(i:Int):0<=wgt i/\wgt i<=32767:=by
 by_cases h:i<0\/120<=i
 ·rw[Ed h];omega
 by_cases h2:i<60
 ·rw[Jp ah h2];omega
 rw[RH ah ah];omega
def eQ(l:List Int)(i:Nat):Int:=(l.getD i 0*wgt (i:Nat)+16384)/32768
theorem zY{l:List Int}(h:eG l)(i:Nat): -32768<=eQ l i/\eQ l i<=32768:=by
 have h1:=h i
 have h2:=RI (i:Nat)
 unfold eQ
 generalize l.getD i 0=x at*
 generalize wgt (i:Nat)=y at*
 have:=ja (x:=x) (X:=32768) (y:=y) (Y:=32767) ah ah ⟨ah,ah⟩ ⟨ah,ah⟩
 omega
def sN(l:List Int)(k i:Nat):Int:=eQ l i*eQ l (i+k)
def fG(l:List Int)(k n:Nat):Int:=aI (sN l k) n
theorem ahK{l:List Int}(h:eG l)(k i:Nat): -1073741824<=sN l k i/\sN l k i<=1073741824:=by
 have h1:=zY h i
 have h2:=zY h (i+k)
 have:=ja (x:=eQ l i) (X:=32768) (y:=eQ l (i+k)) (Y:=32768) ah ah ⟨ah,ah⟩ ⟨ah,ah⟩
 unfold sN
 omega
theorem Jq{l:List Int}(h:eG l)(k n:Nat)(hn:n<=120): -128849018880<=fG l k n/\fG l k n<=128849018880:=by
 have: -(1073741824*(n:Int))<=fG l k n/\fG l k n<=1073741824*(n:Int):=by
  clear hn
  unfold fG
  induction n with
  |zero=>simp[aI]
  |succ n ih=>
   have:=ahK h k n
   simp only[aI]
   push_cast
   omega
 omega
def eF(l:List Int):Int:=fG l 0 120+1
theorem Jr(x:Int):0<=x*x:=by
 rcases Int.le_total 0 x with h|h
 ·exact Int.mul_nonneg h h
 exact Int.mul_nonneg_of_nonpos_of_nonpos h h
theorem ahL(a b:Int): -(a*a+b*b)<=2*(a*b)/\2*(a*b)<=a*a+b*b:=by
 have h1:=Jr (a+b)
 have h2:=Jr (a-b)
 have e1:(a+b)*(a+b)=a*a+2*(a*b)+b*b:=by rw[Int.add_mul,Int.mul_add,Int.mul_add,Int.mul_comm b a];omega
 have e2:(a-b)*(a-b)=a*a-2*(a*b)+b*b:=by rw[Int.sub_mul,Int.mul_sub,Int.mul_sub,Int.mul_comm b a];omega
 omega
def sqs(l:List Int)(n:Nat):Int:=aI (fun i=>eQ l i*eQ l i) n
theorem RJ(l:List Int)(n:Nat):0<=sqs l n:=by
 unfold sqs
 induction n with
 |zero=>simp[aI]
 |succ n ih=>simp only[aI];have:=Jr (eQ l n);omega
theorem Zo(l:List Int){m n:Nat}(h:m<=n):sqs l m<=sqs l n:=by
 induction n with
 |zero=>obtain rfl:m=0:=by omega
        exact Int.le_refl _
 |succ n ih=>
  by_cases e:m=n+1
  ·subst e;exact Int.le_refl _
  have:=ih ah
  have h2:=Jr (eQ l n)
  unfold sqs at*
  simp only[aI]
  omega
theorem ahM(l:List Int)(k n:Nat):aI (fun i=>eQ l (i+k)*eQ l (i+k)) n<=sqs l (n+k):=by
 induction n with
 |zero=>simpa[aI] using RJ l (0+k)
 |succ n ih=>
  simp only[aI]
  have e:sqs l (n+1+k)=sqs l (n+k)+eQ l (n+k)*eQ l (n+k):=by
   rw[show n+1+k=(n+k)+1 from ah]
   rfl
  rw[e]
  omega
theorem ahN(l:List Int){k n:Nat}(h:n+k<=120): -(eF l-1)<=fG l k n/\fG l k n<=eF l-1:=by
 have hz:eF l-1=sqs l 120:=by
  unfold eF fG sqs
  rw[lL 120 (g:=fun i=>eQ l i*eQ l i) (fun i _=>by unfold sN;rw[Nat.add_zero])]
  omega
 have h1:sqs l n<=sqs l 120:=Zo l ah
 have h2:=ahM l k n
 have h3:sqs l (n+k)<=sqs l 120:=Zo l h
 have key: -(sqs l n+aI (fun i=>eQ l (i+k)*eQ l (i+k)) n)<=2*fG l k n/\2*fG l k n<=sqs l n+aI (fun i=>eQ l (i+k)*eQ l (i+k)) n:=by
  clear h h1 h2 h3 hz
  unfold sqs fG
  induction n with
  |zero=>simp[aI]
  |succ n ih=>
   simp only[aI]
   have:=ahL (eQ l n) (eQ l (n+k))
   unfold sN
   unfold sN at ih
   omega
 rw[hz]
 omega
theorem Zp(l:List Int):eF l=sqs l 120+1:=by
 unfold eF fG sqs
 rw[lL 120 (g:=fun i=>eQ l i*eQ l i) (fun i _=>by unfold sN;rw[Nat.add_zero])]
theorem wG{l:List Int}(h:eG l):1<=eF l/\eF l<=128849018881:=by
 have h1:=Jq h 0 120 ah
 have h2:=RJ l 120
 have h3:=Zp l
 unfold eF at*
 generalize fG l 0 120=s at*
 generalize sqs l 120=q at*
 omega
end Go.Proofs.YthoiikkjjaldnaaGreatDoor
