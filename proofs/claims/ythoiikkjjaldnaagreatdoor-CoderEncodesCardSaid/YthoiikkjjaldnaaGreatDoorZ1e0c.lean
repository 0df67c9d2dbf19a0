/- Texts that the law rests on. -/
import Derived.Test.YthoiikkjjaldnaaGreatDoorZ1e0d
import Derived.Test.YthoiikkjjaldnaaGreatDoorZ1e09
namespace Go.Proofs.YthoiikkjjaldnaaGreatDoor
set_option linter.unusedVariables false
set_option linter.unusedSimpArgs false
set_option maxRecDepth 100000
set_option maxHeartbeats 8000000
open Go.RowKit
def qY(l:List Int):Int:=if l.length=120 then aZ (aG l) else 1
theorem kD:(Tryz.prog.info? 90).map (·.size)=some 9:=au
def nI:Array Value:=agi (List.replicate 120 0)
theorem ahO:nI=agi (List.replicate 120 0):=rfl
theorem Zq:nI.size=120:=by unfold nI;rw[dV,nM]
theorem ahP: ¬nI= #[]:=fun h=>by
 have:=Zq
 rw[h] at this
 simp at this
theorem ahQ(w:World):(zeroValue 45).run Tryz.prog w=.ok (.agg nI) w:=au
def iH(l:List Int)(k:Nat):List Int:=(List.range 120).map (fun j=>if j<k then eQ l j else 0)
theorem qZ(l:List Int)(k:Nat):(iH l k).length=120:=by simp[iH]
theorem Zr(l:List Int):iH l 0=List.replicate 120 0:=by
 refine bV (by rw[qZ];simp) fun j hj=>?_
 rw[qZ] at hj
 unfold iH
 exact acp
theorem Zt(l:List Int){k:Nat}(hk:k<120):(iH l k).set k (eQ l k)=iH l (k+1):=by
 refine bV (by rw[List.length_set,qZ,qZ]) fun j hj=>?_
 rw[List.length_set,qZ] at hj
 by_cases e:k=j
 ·subst e
  rw[gQ _ _ _ (by rw[qZ];exact hk)]
  unfold iH
  rw[aT _ hj,if_pos ah]
 rw[iw _ _ e]
 unfold iH
 rw[aT _ hj,aT _ hj]
 by_cases h2:j<k
 ·rw[if_pos h2,if_pos ah]
 rw[if_neg h2,if_neg ah]
theorem Js(l:List Int){j:Nat}(hj:j<120):(iH l 120).getD j 0=eQ l j:=by unfold iH;rw[aT _ hj,if_pos hj]
def jw(l:List Int)(k n:Nat):List Int:=(List.range 9).map (fun j=>if j<k then fG l j (120-j) else if j=k then fG l k n else 0)
theorem lu(l:List Int)(k n:Nat):(jw l k n).length=9:=by simp[jw]
theorem ahR(l:List Int){k:Nat}(hk:k<9)(n:Nat):(jw l k n).getD k 0=fG l k n:=by unfold jw;rw[aT _ hk,if_neg ah,if_pos rfl]
theorem ahS(l:List Int){k:Nat}(hk:k<9)(n:Nat):(jw l k n).set k (fG l k (n+1))=jw l k (n+1):=by
 refine bV (by rw[List.length_set,lu,lu]) fun j hj=>?_
 rw[List.length_set,lu] at hj
 by_cases e:k=j
 ·subst e
  rw[gQ _ _ _ (by rw[lu];exact hk)]
  unfold jw
  rw[aT _ hj,if_neg ah,if_pos rfl]
 rw[iw _ _ e]
 unfold jw
 rw[aT _ hj,aT _ hj]
 by_cases h2:j<k
 ·rw[if_pos h2,if_pos h2]
 rw[if_neg h2,if_neg ah,if_neg h2,if_neg ah]
theorem ahT(l:List Int)(k:Nat):jw l k (120-k)=jw l (k+1) 0:=by
 refine bV (by rw[lu,lu]) fun j hj=>?_
 rw[lu] at hj
 unfold jw
 rw[aT _ hj,aT _ hj]
 by_cases h1:j<k
 ·rw[if_pos h1,if_pos ah]
 rw[if_neg h1]
 by_cases h2:j=k
 ·subst h2;rw[if_pos rfl,if_pos ah]
 rw[if_neg h2,if_neg ah]
 by_cases h3:j=k+1
 ·subst h3;rw[if_pos rfl];rfl
 rw[if_neg h3]
theorem Zu(l:List Int){j:Nat}(hj:j<9):(jw l 9 0).getD j 0=fG l j (120-j):=by unfold jw;rw[aT _ hj,if_pos hj]
def iY(l:List Int)(j:Nat):Int:=if j=0 then eF l else fG l j (120-j)
theorem Jt(l:List Int){j:Nat}(hj:j<9): -eF l<=iY l j/\iY l j<=eF l:=by
 have h0:=RJ l 120
 have h1:=Zp l
 unfold iY
 split
 ·omega
 have:=ahN l (k:=j) (n:=120-j) ah
 omega
def zZ(x:Int)(k:Nat):Int:=x-x*k*k/8192
def eX(l:List Int)(f:Int->Int)(k:Nat):List Int:=(List.range 9).map (fun j=>if j<k then zZ (f (iY l j)) j else iY l j)
theorem pG(l:List Int)(f:Int->Int)(k:Nat):(eX l f k).length=9:=by simp[eX]
theorem Zv(l:List Int)(f:Int->Int){k:Nat}(hk:k<9):(eX l f k).getD k 0=iY l k:=by unfold eX;rw[aT _ hk,if_neg ah]
theorem Zw(l:List Int)(f:Int->Int){k:Nat}(hk:k<9):(eX l f k).set k (zZ (f (iY l k)) k)=eX l f (k+1):=by
 refine bV (by rw[List.length_set,pG,pG]) fun j hj=>?_
 rw[List.length_set,pG] at hj
 by_cases e:k=j
 ·subst e
  rw[gQ _ _ _ (by rw[pG];exact hk)]
  unfold eX
  rw[aT _ hj,if_pos ah]
 rw[iw _ _ e]
 unfold eX
 rw[aT _ hj,aT _ hj]
 by_cases h2:j<k
 ·rw[if_pos h2,if_pos ah]
 rw[if_neg h2,if_neg ah]
theorem Zx(l:List Int)(f:Int->Int):(jw l 9 0).set 0 (eF l)=eX l f 0:=by
 refine bV (by rw[List.length_set,lu,pG]) fun j hj=>?_
 rw[List.length_set,lu] at hj
 unfold eX
 rw[aT _ hj,if_neg ah]
 unfold iY
 by_cases e:0=j
 ·subst e
  rw[gQ _ _ _ (by rw[lu];omega),if_pos rfl]
 rw[iw _ _ e,if_neg ah,Zu l hj]
def Zy(l:List Int)(w:World)(e:Ending)(w':World):Prop:=
 ∃(f:Int->Int) (N:Int),e=.returned (.tuple #[.agg (agi (eX l f 9)),.int .i64 N,.int .i64 0])/\Below w.heap.size w w'/\
  ((∃n:Nat,N=(n:Int)/\0<n/\f=(fun x=>x/2^n)/\eF l/2^n<=2147483647/\2147483647<eF l/2^(n-1))\/
   (∃m:Nat,N= -(m:Int)/\f=(fun x=>x*2^m)/\eF l<=2147483647/\1073741824<=eF l*2^m/\∀j,j<m->eF l*2^j<1073741824))
theorem ahU(A:Option Addr)(c n:Nat)(l:List Int)(w:World)(hr:Rs w w.heap.size A l)(hn:l.length=120)(g:aG l=true):
 Calls Tryz.prog 38 #[.slice A 120 c] w (Zy l w):=by
 have hR:=qC (fn:=Tryz.f38) (p:=2) (q:=3) (r:=4) (ty:=90) rfl
 have KR:=hid (fun(W:World) (h:Rs W W.heap.size A l)=>CO A c 120 W.heap.size l W h hn ah)
 rw[g] at KR
 have G:=hid (show eG l from fP g)
 have HR:=hid hr
 have HN:=hid hn
 have B0:=(((aA w.heap.size w).alloc (al0z _) (.cells (agi Z9) 90)).alloc az (.cells (agi Z9) 90))
 have B1:=B0.alloc aJ (.cells nI 45)
 have I0:=Blk.alloc (Blk.alloc (IB.new w 90 Z9) (.cells (agi Z9) 90)) (.cells nI 45)
 have R0:=Blk.alloc (IB.new (w.alloc (.cells (agi Z9) 90)) 90 Z9) (.cells nI 45)
 have W0:=Blk.new ((w.alloc (.cells (agi Z9) 90)).alloc (.cells (agi Z9) 90)) 45 nI
 simp only[bU] at I0 R0 W0
 clear hr hn g
 have hzv:∀w,(zeroValue 45).run Tryz.prog w=.ok (.agg nI) w:=ahQ
 have hzn:=ahP
 have hzs:=Zq
 go_enter Tryz.func38,Tryz.ntmps38
 go_wp2_with fail
 refine(KR.out _ ((HR.out.below B0).more B0.size)).mono ?_
 rintro e w1 ⟨rfl,rfl⟩
 clear B0
 go_wp2
 clear hzv hzn hzs
 have I1:=hid (show IB (((w.alloc (.cells (agi Z9) 90)).alloc (.cells (agi Z9) 90)).alloc (.cells nI 45)) w.heap.size 90 Z9 from I0)
 have R1:=hid (show IB (((w.alloc (.cells (agi Z9) 90)).alloc (.cells (agi Z9) 90)).alloc (.cells nI 45)) (w.heap.size+1) 90 Z9 from R0)
 have W1:=hid (show IB (((w.alloc (.cells (agi Z9) 90)).alloc (.cells (agi Z9) 90)).alloc (.cells nI 45)) (w.heap.size+1+1) 45 (iH l 0) from by rw[Zr];unfold IB;rw[<-ahO];exact W0)
 have BH:=hid B1
 clear B1
 obtain⟨V,hV⟩:∃V,V=(((w.alloc (.cells (agi Z9) 90)).alloc (.cells (agi Z9) 90)).alloc (.cells nI 45)):=⟨_,rfl⟩
 rw[<-hV] at I1 R1 W1 BH|-
 clear hV I0 R0 W0
 go_loopw[23] (fun iv wr=> ∃i:Nat,i<=120/\iv=.int .i64 i/\Hid (IB wr w.heap.size 90 Z9)/\Hid (IB wr (w.heap.size+1) 90 Z9)/\Hid (IB wr (w.heap.size+1+1) 45 (iH l i))/\Hid (Below w.heap.size w wr)) (fun iv _=>120-(intOf iv).toNat)
 case atStart=>exact⟨0,ah,rfl,I1,R1,W1,BH⟩
 case round=>
  clear I1 R1 W1 BH
  obtain⟨i,hi,rfl,HI,HRr,HW,HB⟩:=hrel
  by_cases hlt:i<120
  ·obtain⟨ad,rfl,hadb,c0⟩:=(HR.out.below HB.out).at_ (k:=i) iE
   have x16:=G.out i
   have yr:=RI (i:Nat)
   have HSet:=hid (Zt l hlt)
   have HC:=hid (show eQ l i=(l.getD i 0*wgt (i:Nat)+16384)/32768 from rfl)
   have cw:=IB.cell HW.out i (by rw[qZ];exact hlt)
   have fw:=Blk.frozen HW.out i
   have KW:=hid (fun W=>ahI (i:Nat) W)
   generalize l.getD i 0=x at*
   generalize wgt (i:Nat)=y at*
   have pr:=ja (x:=x) (X:=32768) (y:=y) (Y:=32767) ah ah ⟨ah,ah⟩ ⟨ah,ah⟩
   have p1: -1073709056<=x*y:=ah
   have p2:x*y<=1073709056:=ah
   have in0:(0:Int)<=i:=ah
   have in1:(i:Int)<120:=ah
   have NW:=hid (show IB (wr.setCell ⟨w.heap.size+1+1,i,none⟩ (.int .i64 ((x*y+16384)/32768))) (w.heap.size+1+1) 45 (iH l (i+1)) from by rw[<-HSet.out,HC.out];exact IB.set_ HW.out i _)
   have NI:=hid (Blk.far HI.out (p:=⟨w.heap.size+1+1,i,none⟩) Uw (.int .i64 ((x*y+16384)/32768)))
   have NR:=hid (Blk.far HRr.out (p:=⟨w.heap.size+1+1,i,none⟩) Ut (.int .i64 ((x*y+16384)/32768)))
   have NB:=hid (HB.out.setCell (p:=⟨w.heap.size+1+1,i,none⟩) Ux (.int .i64 ((x*y+16384)/32768)))
   clear pr x16 yr
   go_wp2_with(go_at_call 85;(with_reducible refine(KW.out _).mono ?_);rintro e w' ⟨rfl,rfl⟩)
   go_roundw
   case rel=>exact⟨i+1,ah,aO,NI,NR,NW,NB⟩
   case measure=>simp[intOf]<;>omega
  obtain rfl:i=120:=ah
  have RZ:=hid (show IB wr (w.heap.size+1) 90 (jw l 0 0) from by
   have e:jw l 0 0=Z9:=by
    refine bV (by rw[lu];rfl) fun j hj=>?_
    rw[lu] at hj
    unfold jw Z9
    rw[aT _ hj,if_neg ah,bi,List.getElem?_replicate,if_pos hj]
    split<;>rfl
   rw[e];exact HRr.out)
  go_wp2
  go_loopw[37] (fun kv wr=> ∃k:Nat,k<=9/\kv=.int .i64 k/\Hid (IB wr w.heap.size 90 Z9)/\Hid (IB wr (w.heap.size+1) 90 (jw l k 0))/\Hid (IB wr (w.heap.size+1+1) 45 (iH l 120))/\Hid (Below w.heap.size w wr)) (fun kv _=>9-(intOf kv).toNat)
  case atStart=>exact⟨0,ah,rfl,HI,RZ,HW,HB⟩
  case round=>
   clear HI RZ HW HB HRr
   obtain⟨k,hk,rfl,HI,HRr,HW,HB⟩:=hrel
   obtain⟨wo,rfl⟩:∃wo:World,wo=wr:=⟨_,rfl⟩
   by_cases hlk:k<9
   ·have hdec:decide ((k:Int)<9)=true:=aJ
    go_wp2
    go_loopw[10] (fun iv wr=> ∃(i m:Nat),i<=120/\i=m+k/\iv=.int .i64 i/\Hid (IB wr w.heap.size 90 Z9)/\Hid (IB wr (w.heap.size+1) 90 (jw l k m))/\Hid (IB wr (w.heap.size+1+1) 45 (iH l 120))/\Hid (Below w.heap.size w wr)) (fun iv _=>120-(intOf iv).toNat)
    case atStart=>exact⟨k,0,ah,ah,rfl,HI,HRr,HW,HB⟩
    case round=>
     clear HI HRr HW HB
     obtain⟨i,m,hi,him,rfl,HI,HRr,HW,HB⟩:=hrel
     by_cases hli:i<120
     ·have ck:=IB.cell HRr.out k (by rw[lu];exact hlk)
      rw[ahR l hlk] at ck
      have fk:=Blk.frozen HRr.out k
      have ci:=IB.cell HW.out i (by rw[qZ];exact hli)
      rw[Js l hli] at ci
      have cm:=IB.cell HW.out m Fa
      rw[Js l ah] at cm
      have ST:=hid (show fG l k (m+1)=fG l k m+eQ l i*eQ l m by
       unfold fG
       simp only[aI]
       unfold sN
       rw[him,Int.mul_comm])
      have HSet:=hid (ahS l hlk m)
      have sr:=Jq G.out k m ah
      have r1:=zY G.out i
      have r2:=zY G.out m
      generalize eQ l i=x at*
      generalize eQ l m=y at*
      obtain⟨s,hs⟩:∃s,s=fG l k m:=⟨_,rfl⟩
      rw[<-hs] at ck ST sr
      have pr:=ja (x:=x) (X:=32768) (y:=y) (Y:=32768) ah ah ⟨ah,ah⟩ ⟨ah,ah⟩
      have p1: -1073741824<=x*y:=ah
      have p2:x*y<=1073741824:=ah
      have hw0:IntKind.i64.wrap ((i:Int)-(k:Nat))=(m:Nat):=aN
      have hw1:IntKind.i64.wrap (x*y)=x*y:=aN
      have hw2:IntKind.i64.wrap (s+x*y)=s+x*y:=aN
      have i1:(i:Int)<120:=ah
      have i2:(0:Int)<=i:=ah
      have i3:(m:Int)<120:=ah
      have i4:(0:Int)<=m:=ah
      have i5:(k:Int)<9:=ah
      have i6:(0:Int)<=k:=ah
      have NR:=hid (show IB (wr.setCell ⟨w.heap.size+1,k,none⟩ (.int .i64 (s+x*y))) (w.heap.size+1) 90 (jw l k (m+1)) from by rw[<-HSet.out,ST.out];exact IB.set_ HRr.out k _)
      have NI:=hid (Blk.far HI.out (p:=⟨w.heap.size+1,k,none⟩) AP (.int .i64 (s+x*y)))
      have NW:=hid (Blk.far HW.out (p:=⟨w.heap.size+1,k,none⟩) Uu (.int .i64 (s+x*y)))
      have NB:=hid (HB.out.setCell (p:=⟨w.heap.size+1,k,none⟩) ug (.int .i64 (s+x*y)))
      have HS:=hid hs
      have HIM:=hid him
      clear pr r1 r2 sr hs him
      go_wp2
      go_region
      clear hw0 hw1 hw2 ck ci cm fk
      go_wp2
      go_roundw
      case rel=>exact⟨i+1,m+1,ah,by have:=HIM.out;omega,aO,hid (Blk.drew NI.out),hid (Blk.drew NR.out),hid (Blk.drew NW.out),hid NB.out.drew⟩
      case measure=>simp[intOf]<;>omega
     obtain rfl:i=120:=ah
     have NR:=hid (show IB wr (w.heap.size+1) 90 (jw l (k+1) 0) from by rw[<-ahT,show 120-k=m from ah];exact HRr.out)
     go_wp2
     go_roundw
     case rel=>exact⟨k+1,ah,aO,HI,NR,HW,HB⟩
     case measure=>simp[intOf]<;>omega
   obtain rfl:k=9:=ah
   have c0:=IB.cell HRr.out 0 (by rw[lu];omega)
   rw[Zu l (by omega:0<9)] at c0
   have f0:=Blk.frozen HRr.out 0
   have zr:=wG G.out
   have ZE:=hid (show eF l=fG l 0 120+1 from rfl)
   have hz:=ZE.out
   obtain⟨s,hs⟩:∃s,s=fG l 0 (120-0):=⟨_,rfl⟩
   rw[show(120:Nat)-0=120 from rfl] at hs
   rw[show(120:Nat)-0=120 from rfl,<-hs] at c0
   rw[<-hs] at hz
   have hzs:s+1=eF l:=ah
   have s1:0<=s:=ah
   have s2:s<=128849018880:=ah
   have NR:=hid (show IB (wo.setCell ⟨w.heap.size+1,0,none⟩ (.int .i64 (s+1))) (w.heap.size+1) 90 ((jw l 9 0).set 0 (s+1)) from IB.set_ HRr.out 0 _)
   have NI:=hid (Blk.far HI.out (p:=⟨w.heap.size+1,0,none⟩) AP (.int .i64 (s+1)))
   have NB:=hid (HB.out.setCell (p:=⟨w.heap.size+1,0,none⟩) ug (.int .i64 (s+1)))
   have HZS:=hid hzs
   clear hs hz zr hzs
   go_wp2
   generalize wo.setCell ⟨w.heap.size+1,0,none⟩ (.int .i64 (s+1))=w2 at NR NI NB|-
   obtain⟨z,hz⟩:∃z,z=s+1:=⟨_,rfl⟩
   have z1:1<=z:=ah
   have z2:z<=128849018881:=ah
   rw[<-hz] at NR
   have HZ:=hid hz
   have cz:=IB.cell NR.out 0 (by rw[List.length_set,lu];omega)
   rw[gQ _ _ _ (by rw[lu];omega)] at cz
   clear hz c0 f0
   go_loop [11] (fun nv=> ∃n:Nat,n<=10/\nv=.int .i64 n/\Hid (∀m,m<n->2147483647<z/2^m)) (fun nv=>10-(intOf nv).toNat)
   case atStart=>exact⟨0,ah,rfl,hid (fun m hm=>ah)⟩
   case round=>
    obtain⟨n,hn,rfl,HM⟩:=hrel
    have n0:(0:Int)<=n:=ah
    have n64:(n:Int)<64:=ah
    have HX6:=hid (fun(h:2147483647<z/2^n)=>show n<7 from by
     refine Classical.byContradiction fun hc=>?_
     have h7:(2:Int)^7<=2^n:=by exact_mod_cast Nat.pow_le_pow_right (by decide:0<2) (by omega:7<=n)
     have h8:z/2^n<=z/2^7:=by
      have h0:(0:Int)<2^n:=Int.pow_pos aB
      refine Int.le_of_lt_add_one ((Int.ediv_lt_iff_lt_mul h0).2 ?_)
      have:=Int.lt_ediv_add_one_mul_self z (show(0:Int)<2^7 from aB)
      have h9:(0:Int)<=z/2^7+1:=by have:=Int.ediv_nonneg (show 0<=z from ah) (show(0:Int)<=2^7 from aB);omega
      exact Int.lt_of_lt_of_le this (Int.mul_le_mul_of_nonneg_left h7 h9)
     have h10:z/2^7<=128849018881/2^7:=Int.ediv_le_ediv aB z2
     have h11:(128849018881:Int)/2^7=1006632960:=aB
     omega)
    go_wp2
    ·rename_i hgt
     have hn7:=HX6.out hgt
     refine⟨⟨n+1,ah,aO,hid fun m hm=>?_⟩,?_⟩
     ·by_cases e:m=n
      ·subst e;exact hgt
      exact HM.out m ah
     simp[intOf]<;>omega
    have hle:z/2^n<=2147483647:=by assumption
    by_cases hn0:n=0
    ·subst hn0
     have z31:z<=2147483647:=by simpa using hle
     clear hle HX6 HM
     go_loop [11] (fun nv=> ∃m:Nat,nv=.int .i64 (-(m:Int))/\Hid (∀j,j<m->z*2^j<1073741824)) (fun nv=>(40+intOf nv).toNat)
     case atStart=>exact⟨0,rfl,hid (fun j hj=>ah)⟩
     case round=>
      obtain⟨m,rfl,HJ⟩:=hrel
      have hb:z*2^m<2147483648:=by
       by_cases e:m=0
       ·subst e;simpa using(by omega:z<2147483648)
       obtain⟨q,rfl⟩:∃q,m=q+1:=⟨m-1,ah⟩
       have:=HJ.out q ah
       rw[Int.pow_succ,<-Int.mul_assoc]
       omega
      have hb0:1<=z*2^m:=by
       have h0:(0:Int)<2^m:=Int.pow_pos aB
       have:=Int.mul_pos (show 0<z from ah) h0
       omega
      have hm31:m<32:=by
       refine Classical.byContradiction fun hc=>?_
       have h7:(2:Int)^32<=2^m:=by exact_mod_cast Nat.pow_le_pow_right (by decide:0<2) (by omega:32<=m)
       have h8:(2:Int)^m<=z*2^m:=by
        have:=Int.mul_le_mul_of_nonneg_right (show 1<=z from ah) (show(0:Int)<=2^m from Int.le_of_lt (Int.pow_pos aB))
        rwa [Int.one_mul] at this
       have h9:(2:Int)^32=4294967296:=aB
       omega
      have m0:(0:Int)<=m:=ah
      have m64:(m:Int)<64:=ah
      have hneg:decide (-(m:Int)<=0)=true:=BN
      go_wp2
      ·have hlt30:z*2^m<1073741824:=by assumption
       refine⟨⟨m+1,by push_cast;congr 1;omega,hid fun j hj=>?_⟩,?_⟩
       ·by_cases e:j=m
        ·subst e;exact hlt30
        exact HJ.out j ah
       simp[intOf]<;>omega
      have hge30:1073741824<=z*2^m:=by assumption
      have RF:=hid (show IB w2 (w.heap.size+1) 90 (eX l (fun x=>x*2^m) 0) from by
       rw[<-Zx]
       have e:z=eF l:=EC
       rw[<-e];exact NR.out)
      have WF:=hid (Blk.far HW.out (p:=⟨w.heap.size+1,0,none⟩) Uu (.int .i64 (s+1)))
      clear cz
      go_wp2
      go_loopw[85] (fun kv wr=> ∃k:Nat,k<=9/\kv=.int .i64 k/\Hid (IB wr w.heap.size 90 Z9)/\Hid (IB wr (w.heap.size+1) 90 (eX l (fun x=>x*2^m) k))/\Hid (Below w.heap.size w wr)) (fun kv _=>9-(intOf kv).toNat)
      case atStart=>exact⟨0,ah,rfl,NI,RF,NB⟩
      case round=>
       clear RF NI NB WF
       obtain⟨k,hk,rfl,HI,HF,HB⟩:=hrel
       by_cases hlk:k<9
       ·have ck:=IB.cell HF.out k Np
        rw[Zv l _ hlk] at ck
        have fk:=Blk.frozen HF.out k
        have HSet:=hid (Zw l (fun x=>x*2^m) hlk)
        have xr:=Jt l hlk
        have zr:=wG G.out
        generalize iY l k=x at*
        have k0:(0:Int)<=k:=ah
        have k9:(k:Int)<9:=ah
        have yb: -2147483648<=x*2^m/\x*2^m<=2147483648:=by
         have d1:(0:Int)<=2^m:=Int.le_of_lt (Int.pow_pos aB)
         have ez:z=eF l:=EC
         generalize (2:Int)^m=dd at*
         have m1:x*dd<=z*dd:=Int.mul_le_mul_of_nonneg_right ah d1
         have m2: -z*dd<=x*dd:=Int.mul_le_mul_of_nonneg_right ah d1
         rw[Int.neg_mul] at m2
         omega
        have hwx:IntKind.i64.wrap (x*2^m)=x*2^m:=aN
        have hsg:decide (0< -(m:Int))=false:=BN
        have R3:=hid (show IB (wr.setCell ⟨w.heap.size+1,k,none⟩ (.int .i64 (x*2^m))) (w.heap.size+1) 90 ((eX l (fun x=>x*2^m) k).set k (x*2^m)) from IB.set_ HF.out k _)
        have I3:=hid (Blk.far HI.out (p:=⟨w.heap.size+1,k,none⟩) AP (.int .i64 (x*2^m)))
        have B3:=hid (HB.out.setCell (p:=⟨w.heap.size+1,k,none⟩) ug (.int .i64 (x*2^m)))
        go_wp2
        generalize wr.setCell ⟨w.heap.size+1,k,none⟩ (.int .i64 (x*2^m))=w3 at R3 I3 B3|-
        have c3:=IB.cell R3.out k (by rw[List.length_set,pG];exact hlk)
        rw[gQ _ _ _ Np] at c3
        have f3:=Blk.frozen R3.out k
        have R4:=hid (fun v=>IB.set_ R3.out k v)
        have HQ:=hid (show zZ (x*2^m) k=x*2^m-x*2^m*k*k/8192 from rfl)
        generalize x*2^m=y at*
        have q1:=ja (x:=y) (X:=128849018881) (y:=(k:Int)) (Y:=8) ah ah ⟨ah,ah⟩ ⟨ah,ah⟩
        have q2:=ja (x:=y*k) (X:=1030792151048) (y:=(k:Int)) (Y:=8) ah ah ⟨ah,ah⟩ ⟨ah,ah⟩
        have hw1:IntKind.i64.wrap (y*k)=y*k:=aN
        have hw2:IntKind.i64.wrap (y*k*k)=y*k*k:=aN
        have hw3:IntKind.i64.wrap (y-y*k*k/8192)=y-y*k*k/8192:=aN
        have R5:=hid (show IB (w3.setCell ⟨w.heap.size+1,k,none⟩ (.int .i64 (y-y*k*k/8192))) (w.heap.size+1) 90 (eX l (fun x=>x*2^m) (k+1)) from by
         have:=R4.out (y-y*k*k/8192)
         rw[List.set_set,<-HQ.out,HSet.out] at this
         rw[<-HQ.out]
         exact this)
        exact l49
       obtain rfl:k=9:=ah
       have LF:=hid (pG l (fun x=>x*2^m) 9)
       have RE:=hid (IB.setRow HI.out (eX l (fun x=>x*2^m) 9))
       have BE:=hid (aS HB.out (al0z _) (agi (eX l (fun x=>x*2^m) 9)))
       have EZ:=hid (show z=eF l from EC)
       go_wp2_with(first
        |(refine aK rfl 90 (.tmp 5) rfl _ 90 (eX l (fun x=>x*2^m) 9) 9 _ rfl HF.out Tryz.underlying90 rfl kD LF.out ?_)
        |(refine aP rfl 90 (.tmp 2) (.tmp 119) rfl _ 90 Z9 (eX l (fun x=>x*2^m) 9) 9 rfl rfl HI.out kD rfl LF.out ?_))
       refine bg (v:=_) (hR _ _ _ 90 (eX l (fun x=>x*2^m) 9) _ 9 rfl RE.out Tryz.underlying90 rfl kD LF.out) rfl ?_
       exact⟨fun x=>x*2^m,-(m:Int),rfl,BE.out,.inr ⟨m,rfl,rfl,by rw[<-EZ.out];exact z31,by rw[<-EZ.out];exact hge30,by rw[<-EZ.out];exact HJ.out⟩⟩
    have hd:decide ((n:Int)<=0)=false:=aJ
    have hd2:decide (0<(n:Int))=true:=aJ
    have RF:=hid (show IB w2 (w.heap.size+1) 90 (eX l (fun x=>x/2^n) 0) from by
     rw[<-Zx]
     have e:z=eF l:=EC
     rw[<-e];exact NR.out)
    have WF:=hid (Blk.far HW.out (p:=⟨w.heap.size+1,0,none⟩) Uu (.int .i64 (s+1)))
    have HLE:=hid hle
    have HM2:=hid (HM.out (n-1) ah)
    clear hle HX6 HM cz
    refine wp_loop_rounds 1 ?_
    rw[rounds_succ]
    go_wp2
    go_loopw[85] (fun kv wr=> ∃k:Nat,k<=9/\kv=.int .i64 k/\Hid (IB wr w.heap.size 90 Z9)/\Hid (IB wr (w.heap.size+1) 90 (eX l (fun x=>x/2^n) k))/\Hid (Below w.heap.size w wr)) (fun kv _=>9-(intOf kv).toNat)
    case atStart=>exact⟨0,ah,rfl,NI,RF,NB⟩
    case round=>
     clear RF NI NB WF
     obtain⟨k,hk,rfl,HI,HF,HB⟩:=hrel
     by_cases hlk:k<9
     ·have ck:=IB.cell HF.out k Np
      rw[Zv l _ hlk] at ck
      have fk:=Blk.frozen HF.out k
      have HSet:=hid (Zw l (fun x=>x/2^n) hlk)
      have xr:=Jt l hlk
      have zr:=wG G.out
      generalize iY l k=x at*
      have k0:(0:Int)<=k:=ah
      have k9:(k:Int)<9:=ah
      have yb: -128849018881<=x/2^n/\x/2^n<=128849018881:=by
       have d1:(1:Int)<=2^n:=Int.pow_pos aB
       generalize (2:Int)^n=dd at*
       have m1:128849018881*1<=128849018881*dd:=Int.mul_le_mul_of_nonneg_left d1 aB
       exact⟨Int.le_ediv_of_mul_le ah (by rw[Int.neg_mul];omega),Int.ediv_le_of_le_mul ah ah⟩
      have R3:=hid (show IB (wr.setCell ⟨w.heap.size+1,k,none⟩ (.int .i64 (x/2^n))) (w.heap.size+1) 90 ((eX l (fun x=>x/2^n) k).set k (x/2^n)) from IB.set_ HF.out k _)
      have I3:=hid (Blk.far HI.out (p:=⟨w.heap.size+1,k,none⟩) AP (.int .i64 (x/2^n)))
      have B3:=hid (HB.out.setCell (p:=⟨w.heap.size+1,k,none⟩) ug (.int .i64 (x/2^n)))
      have n0:(0:Int)<=n:=ah
      go_wp2
      generalize wr.setCell ⟨w.heap.size+1,k,none⟩ (.int .i64 (x/2^n))=w3 at R3 I3 B3|-
      have c3:=IB.cell R3.out k (by rw[List.length_set,pG];exact hlk)
      rw[gQ _ _ _ Np] at c3
      have f3:=Blk.frozen R3.out k
      have R4:=hid (fun v=>IB.set_ R3.out k v)
      have HQ:=hid (show zZ (x/2^n) k=x/2^n-x/2^n*k*k/8192 from rfl)
      generalize x/2^n=y at*
      have q1:=ja (x:=y) (X:=128849018881) (y:=(k:Int)) (Y:=8) ah ah ⟨ah,ah⟩ ⟨ah,ah⟩
      have q2:=ja (x:=y*k) (X:=1030792151048) (y:=(k:Int)) (Y:=8) ah ah ⟨ah,ah⟩ ⟨ah,ah⟩
      have hw1:IntKind.i64.wrap (y*k)=y*k:=aN
      have hw2:IntKind.i64.wrap (y*k*k)=y*k*k:=aN
      have hw3:IntKind.i64.wrap (y-y*k*k/8192)=y-y*k*k/8192:=aN
      have R5:=hid (show IB (w3.setCell ⟨w.heap.size+1,k,none⟩ (.int .i64 (y-y*k*k/8192))) (w.heap.size+1) 90 (eX l (fun x=>x/2^n) (k+1)) from by
       have:=R4.out (y-y*k*k/8192)
       rw[List.set_set,<-HQ.out,HSet.out] at this
       rw[<-HQ.out]
       exact this)
      exact l49
     obtain rfl:k=9:=ah
     have LF:=hid (pG l (fun x=>x/2^n) 9)
     have RE:=hid (IB.setRow HI.out (eX l (fun x=>x/2^n) 9))
     have BE:=hid (aS HB.out (al0z _) (agi (eX l (fun x=>x/2^n) 9)))
     have EZ:=hid (show z=eF l from EC)
     go_wp2_with(first
      |(refine aK rfl 90 (.tmp 5) rfl _ 90 (eX l (fun x=>x/2^n) 9) 9 _ rfl HF.out Tryz.underlying90 rfl kD LF.out ?_)
      |(refine aP rfl 90 (.tmp 2) (.tmp 119) rfl _ 90 Z9 (eX l (fun x=>x/2^n) 9) 9 rfl rfl HI.out kD rfl LF.out ?_))
     refine bg (v:=_) (hR _ _ _ 90 (eX l (fun x=>x/2^n) 9) _ 9 rfl RE.out Tryz.underlying90 rfl kD LF.out) rfl ?_
     exact⟨fun x=>x/2^n,n,rfl,BE.out,.inl ⟨n,rfl,ah,rfl,by rw[<-EZ.out];exact HLE.out,by rw[<-EZ.out];exact HM2.out⟩⟩
def Ad(w:World)(er:Int)(e:Ending)(w':World):Prop:=e=.returned (.tuple #[.agg (agi Z9),.int .i64 0,.int .i64 er])/\Below w.heap.size w w'
theorem ahV(A:Option Addr)(c n:Nat)(w:World)(hn:n≠120):Calls Tryz.prog 38 #[.slice A n c] w (Ad w 1):=by
 have hR:=qC (fn:=Tryz.f38) (p:=2) (q:=3) (r:=4) (ty:=90) rfl
 have B0:=((aA w.heap.size w).alloc (al0z _) (.cells (agi Z9) 90)).alloc az (.cells (agi Z9) 90)
 have I0:=Blk.alloc (IB.new w 90 Z9) (.cells (agi Z9) 90)
 have R0:=IB.new (w.alloc (.cells (agi Z9) 90)) 90 Z9
 simp only[bU] at R0
 have RE:=hid (IB.setRow I0 Z9)
 have BE:=hid (aS B0 (al0z _) (agi Z9))
 have I0:=hid (show IB ((w.alloc (.cells (agi Z9) 90)).alloc (.cells (agi Z9) 90)) w.heap.size 90 Z9 from I0)
 have R0:=hid R0
 have d0:((n:Int) !=120)=true:=aJ
 have d1: ¬(n:Int)=120:=ah
 clear hn
 go_enter Tryz.func38,Tryz.ntmps38
 go_wp2_with(first
  |(refine aK rfl 90 (.tmp 5) rfl _ 90 Z9 9 _ rfl R0.out Tryz.underlying90 rfl kD rfl ?_)
  |(refine aP rfl 90 (.tmp 2) (.tmp 16) rfl _ 90 Z9 Z9 9 rfl rfl I0.out kD rfl rfl ?_))
 exact l59
theorem ahW(A:Option Addr)(c:Nat)(l:List Int)(w:World)(hr:Rs w w.heap.size A l)(hn:l.length=120)(g:aG l=false):Calls Tryz.prog 38 #[.slice A 120 c] w (Ad w 2):=by
 have KR:=hid (fun(W:World) (h:Rs W W.heap.size A l)=>CO A c 120 W.heap.size l W h hn ah)
 rw[g] at KR
 have HR:=hid hr
 have hR:=qC (fn:=Tryz.f38) (p:=2) (q:=3) (r:=4) (ty:=90) rfl
 have B0:=((aA w.heap.size w).alloc (al0z _) (.cells (agi Z9) 90)).alloc az (.cells (agi Z9) 90)
 have I0:=Blk.alloc (IB.new w 90 Z9) (.cells (agi Z9) 90)
 have R0:=IB.new (w.alloc (.cells (agi Z9) 90)) 90 Z9
 simp only[bU] at R0
 have RE:=hid (IB.setRow I0 Z9)
 have BE:=hid (aS B0 (al0z _) (agi Z9))
 have I0:=hid (show IB ((w.alloc (.cells (agi Z9) 90)).alloc (.cells (agi Z9) 90)) w.heap.size 90 Z9 from I0)
 have R0:=hid R0
 clear hr hn g
 go_enter Tryz.func38,Tryz.ntmps38
 go_wp2_with fail
 refine(KR.out _ ((HR.out.below B0).more B0.size)).mono ?_
 rintro e w1 ⟨rfl,rfl⟩
 clear B0
 go_wp2_with(first
  |(refine aK rfl 90 (.tmp 5) rfl _ 90 Z9 9 _ rfl R0.out Tryz.underlying90 rfl kD rfl ?_)
  |(refine aP rfl 90 (.tmp 2) (.tmp 20) rfl _ 90 Z9 Z9 9 rfl rfl I0.out kD rfl rfl ?_))
 exact l59
theorem ahX{Z n:Nat}(hn:0<n)(h1:Z/2^n<=2147483647)(h2:2147483647<Z/2^(n-1)):fH Z=n+31:=by
 obtain⟨m,rfl⟩:∃m,n=m+1:=⟨n-1,ah⟩
 rw[Nat.add_sub_cancel] at h2
 have a1:=Nat.div_mul_le_self Z (2^m)
 have a2:=Nat.mul_le_mul_right (2^m) (show 2147483648<=Z/2^m from ah)
 have b1:=(Nat.div_lt_iff_lt_mul (Nat.two_pow_pos (m+1))).1 (show Z/2^(m+1)<2147483648 from ah)
 have e1:2^(31+m)=2147483648*2^m:=by rw[Nat.pow_add]
 have e2:2^(31+m+1)=2147483648*2^(m+1):=by rw[show 31+m+1=31+(m+1) from ah,Nat.pow_add]
 rw[FK (k:=31+m) (by rw[e1];omega) (by rw[e2];exact b1)]
 omega
theorem ahY{Z m:Nat}(h0:0<Z)(h1:Z<=2147483647)(h2:1073741824<=Z*2^m)(h3:∀j,j<m->Z*2^j<1073741824):fH Z+m=31:=by
 by_cases hm:m=0
 ·subst hm
  rw[FK (k:=30) ah ah]
 obtain⟨j,rfl⟩:∃j,m=j+1:=⟨m-1,ah⟩
 have h4:=h3 j ah
 have hj:2^j<2^30:=by
  have:=Nat.mul_le_mul_right (2^j) h0
  omega
 have hj2:j<30:=(Nat.pow_lt_pow_iff_right ah).1 hj
 obtain⟨k,hk⟩:∃k,k+(j+1)=30:=⟨29-j,ah⟩
 have e1:2^k*2^(j+1)=1073741824:=by rw[<-Nat.pow_add,hk]
 have e2:2^(k+1)*2^j=1073741824:=by rw[<-Nat.pow_add,show k+1+j=k+(j+1) from ah,hk]
 have l1:2^k<=Z:=by
  rw[<-e1] at h2
  exact Nat.le_of_mul_le_mul_right h2 (Nat.two_pow_pos _)
 have l2:Z<2^(k+1):=by
  rw[<-e2] at h4
  exact Nat.lt_of_mul_lt_mul_right h4
 rw[FK l1 l2]
 omega
def lw(l:List Int):Int:=(fH (eF l).natAbs:Nat)-31
def jJ(l:List Int):Int->Int:=fun x=>if 0<lw l then x/2^(lw l).toNat else x*2^(-lw l).toNat
theorem ahZ{Z n c:Nat}(h:((Z:Int)/2^n)<=(c:Nat)):Z/2^n<=c:=by
 have e:((Z:Int)/2^n)=((Z/2^n:Nat):Int):=az
 rw[e] at h
 exact Int.ofNat_le.1 h
theorem ah0{Z n c:Nat}(h:((c:Nat):Int)<((Z:Int)/2^n)):c<Z/2^n:=by
 have e:((Z:Int)/2^n)=((Z/2^n:Nat):Int):=az
 rw[e] at h
 exact Int.ofNat_lt.1 h
theorem ah1{Z n c:Nat}(h:((c:Nat):Int)<=((Z:Int)*2^n)):c<=Z*2^n:=by
 have e:((Z:Int)*2^n)=((Z*2^n:Nat):Int):=az
 rw[e] at h
 exact Int.ofNat_le.1 h
theorem ah2{Z n c:Nat}(h:((Z:Int)*2^n)<((c:Nat):Int)):Z*2^n<c:=by
 have e:((Z:Int)*2^n)=((Z*2^n:Nat):Int):=az
 rw[e] at h
 exact Int.ofNat_lt.1 h
def RP(l:List Int)(w:World)(e:Ending)(w':World):Prop:=e=.returned (.tuple #[.agg (agi (eX l (jJ l) 9)),.int .i64 (lw l),.int .i64 0])/\Below w.heap.size w w'
theorem ah3{l:List Int}{w w':World}{e:Ending}(hl:eG l)(h:Zy l w e w'):RP l w e w':=by
 obtain⟨f,N,rfl,hB,h⟩:=h
 have hz:=wG hl
 obtain⟨Z,hZ⟩:∃Z:Nat,eF l=(Z:Int):=⟨(eF l).toNat,ah⟩
 have hK:lw l=(fH Z:Nat)-31:=by unfold lw;rw[hZ];rfl
 rw[hZ] at h hz
 rcases h with⟨n,rfl,hn,rfl,h1,h2⟩|⟨m,rfl,rfl,h1,h2,h3⟩
 ·have h1':Z/2^n<=2147483647:=ahZ h1
  have h2':2147483647<Z/2^(n-1):=ah0 h2
  have hb:=ahX hn h1' h2'
  have hk:lw l=(n:Int):=ah
  have hg:jJ l=fun x=>x/2^n:=by
   funext x
   unfold jJ
   rw[hk,if_pos ah,Int.toNat_natCast]
  exact⟨by rw[hg,hk],hB⟩
 have h2':1073741824<=Z*2^m:=ah1 h2
 have hb:=ahY (Z:=Z) (m:=m) ah ah h2' (fun j hj=>ah2 (h3 j hj))
 have hk:lw l= -(m:Int):=ah
 have hg:jJ l=fun x=>x*2^m:=by
  funext x
  unfold jJ
  rw[hk,if_neg ah,Int.neg_neg,Int.toNat_natCast]
 exact⟨by rw[hg,hk],hB⟩
theorem Zz{l:List Int}(hl:eG l): -30<=lw l/\lw l<=6:=by
 have hz:=wG hl
 unfold lw
 have h1:fH (eF l).natAbs<=37:=xJ ah
 have h2:fH (eF l).natAbs≠0:=by
  intro h
  have:=Cf (eF l).natAbs
  rw[h] at this
  omega
 omega
theorem ah4{l:List Int}(hl:eG l){k:Nat}(hk:k<9): -2147483648<=jJ l (iY l k)/\jJ l (iY l k)<=2147483647:=by
 have hz:=wG hl
 have hx:=Jt l hk
 have hb:=Cf (eF l).natAbs
 have hr:=Zz hl
 obtain⟨b,hbb⟩:∃b,b=fH (eF l).natAbs:=⟨_,rfl⟩
 have hK:lw l=(b:Int)-31:=by unfold lw;rw[<-hbb]
 rw[<-hbb] at hb
 have hzb:eF l+1<=2^b:=by
  have e:((2^b:Nat):Int)=2^b:=az
  rw[<-e]
  omega
 unfold jJ
 rw[hK]
 generalize iY l k=x at*
 generalize eF l=z at*
 split
 ·obtain⟨n,hn⟩:∃n:Nat,b=n+31:=⟨b-31,ah⟩
  subst hn
  rw[show(((n+31:Nat):Int)-31).toNat=n from ah]
  have hp:(0:Int)<2^n:=by exact_mod_cast Nat.two_pow_pos n
  have he:(2:Int)^(n+31)=2147483648*2^n:=by rw[Int.pow_add,Int.mul_comm];rfl
  rw[he] at hzb
  constructor
  ·exact(Int.le_ediv_iff_mul_le hp).2 ah
  exact Int.lt_add_one_iff.1 ((Int.ediv_lt_iff_lt_mul hp).2 ah)
 obtain⟨n,hn⟩:∃n:Nat,b+n=31:=⟨31-b,ah⟩
 rw[show(-((b:Int)-31)).toNat=n from ah]
 have hp:(0:Int)<2^n:=by exact_mod_cast Nat.two_pow_pos n
 have he:(2:Int)^b*2^n=2147483648:=by rw[<-Int.pow_add,hn];rfl
 have m1:=Int.mul_le_mul_of_nonneg_right (show x+1<=2^b from ah) (Int.le_of_lt hp)
 have m2:=Int.mul_le_mul_of_nonneg_right (show-(x+2^b)+1<=0 from ah) (Int.le_of_lt hp)
 rw[he] at m1
 have e3:(x+1)*2^n=x*2^n+2^n:=by rw[Int.add_mul,Int.one_mul]
 have e4:(-(x+2^b)+1)*2^n= -(x*2^n)-2147483648+2^n:=by rw[Int.add_mul,Int.neg_mul,Int.add_mul,he,Int.one_mul];omega
 rw[e3] at m1
 rw[e4] at m2
 generalize x*2^n=y at*
 generalize (2:Int)^n=p at*
 omega
theorem wI{fn:Func}{t u v x:Tmp}(h:fn.results= #[.tmp t,.tmp u,.tmp v,.tmp x])(tmps:Array Value)(P:Program)(w:World):
 (results fn tmps).run P w=.ok (.tuple #[tmps.getD t undef,tmps.getD u undef,tmps.getD v undef,tmps.getD x undef]) w:=by
 simp[results,h]
theorem aaw:(Tryz.prog.info? 23).map (·.size)=some 80:=au
def FoldFn(K:Nat)(p:Value)(w:World)(ring:List Int):Prop:=
 ∀(W:World),Below w.heap.size w W->∀(A:Option Addr) (c:Nat) (v:List Int),Rs W W.heap.size A v->v.length=40->W64 v->
  Calls Tryz.prog K #[.slice A 40 c,p] W (fun e w'=> ∃A2 c2,e=.returned (.slice A2 (foL ring v).length c2)/\Own w' W.heap.size A2 c2 (foL ring v)/\Below W.heap.size W w')
theorem FoldFn.below{K:Nat}{p:Value}{w w':World}{ring:List Int}(h:FoldFn K p w ring)(hb:Below w.heap.size w w'):FoldFn K p w' ring:=
 fun W hB=>h W (hb.trans (hB.mono hb.size))
theorem aax(K:Nat)(p:Value)(w:World):(binOp .eql 50 (.func (.func K) #[] #[p]) .nilFunc).run Tryz.prog w=.ok (.bool false) w:=au
theorem aiI(h ring t:List Int)(p:Value)(A:Option Addr)(c n:Nat)(w:World)(hh:h.length=80)(hr:Rs w w.heap.size A t)(hn:t.length=n)(hl:n<=17592186044416)(hf:FoldFn 93 p w ring):
 Calls Tryz.prog 95 #[.agg (agi h),.func (.func 93) #[] #[p],.slice A n c] w (PkAns ring h t w):=by
 have BA:=hid ((aA w.heap.size w).alloc (al0z _) (.cells (agi h) 23))
 have FB:=hid (fun(er:Int) (he:iP ring h t=er) (h0:er≠0) w' (hB:Below w.heap.size w w')=>PkAns.bad (ring:=ring) (h:=h) (t:=t) he h0 hB)
 by_cases h40:n=40
 rotate_left
 ·have HE:=hid (show iP ring h t=1 by unfold iP;rw[if_neg ah])
  have d0:((n:Int) !=40)=true:=aJ
  have d1: ¬(n:Int)=40:=ah
  clear h40 hn hr hf
  go_enter Tryz.func95,Tryz.ntmps95
  exact abV
 subst h40
 have I0:=hid (IB.new w 23 h)
 have HT:=hid ((hr.below BA.out).more BA.out.size)
 have HH:=hid hh
 have HN:=hid hn
 have KF:=hid (hf.below BA.out)
 have hnf:=aax 93 p
 clear hr hf hh hn
 obtain⟨V,hV⟩:∃V,V=w.alloc (.cells (agi h) 23):=⟨_,rfl⟩
 rw[<-hV] at I0 HT KF BA
 have HV:=hid hV
 clear hV
 cases gt:aG t with
 |false=>
  have HE:=hid (show iP ring h t=2 by unfold iP;rw[if_pos HN.out,gt];rfl)
  have KR:=hid (Gh A c 40 V.heap.size t V HT.out HN.out ah)
  rw[gt] at KR
  clear gt
  go_enter Tryz.func95,Tryz.ntmps95
  go_wp2_with fail
  rw[<-HV.out]
  refine KR.out.mono ?_
  rintro e w1 ⟨rfl,rfl⟩
  go_wp2
  ((try simp only[Exit.inBlock,Exit.then]);refine bg (wI rfl _ _ _) rfl ?_)
  exact FB.out _ HE.out aB _ BA.out
 |true=>
 have KR:=hid (Gh A c 40 V.heap.size t V HT.out HN.out ah)
 rw[gt] at KR
 have KR2:=hid (Gh (some ⟨w.heap.size,0,none⟩) 80 80 V.heap.size h V (YG I0.out) HH.out ah)
 cases gh:aG h with
 |false=>
  have HE:=hid (show iP ring h t=2 from Lj)
  rw[gh] at KR2
  clear gt gh
  go_enter Tryz.func95,Tryz.ntmps95
  go_wp2_with fail
  rw[<-HV.out]
  refine KR.out.mono ?_
  rintro e w1 ⟨rfl,rfl⟩
  go_wp2_with fail
  refine KR2.out.mono ?_
  rintro e w1 ⟨rfl,rfl⟩
  go_wp2
  ((try simp only[Exit.inBlock,Exit.then]);refine bg (wI rfl _ _ _) rfl ?_)
  exact FB.out _ HE.out aB _ BA.out
 |true=>
 rw[gh] at KR2
 have HE:=hid (show iP ring h t=if pkR ring then 0 else 1 from Lj)
 have T16:=hid (fP gt)
 have H16:=hid (fP gh)
 clear gt gh
 go_enter Tryz.func95,Tryz.ntmps95
 go_wp2_with fail
 rw[<-HV.out]
 refine KR.out.mono ?_
 rintro e w1 ⟨rfl,rfl⟩
 go_wp2_with fail
 refine KR2.out.mono ?_
 rintro e w1 ⟨rfl,rfl⟩
 go_wp2
 clear KR KR2
 go_loopw[10,11,12,13] (fun bv cv ev iv wr=> ∃(n L:Nat),n<=60/\Hid (L=20+n)/\iv=.int .i64 L/\bv=.int .i64 (pkS ring h t n).1/\cv=.int .i64 (pkS ring h t n).2.1/\ev=.int .i64 (pkS ring h t n).2.2/\Hid (0<n->pkR ring=true)/\Hid (Below V.heap.size V wr)) (fun _ _ _ iv _=>80-(intOf iv).toNat)
 case atStart=>exact⟨0,20,ah,hid rfl,rfl,rfl,rfl,rfl,hid (fun h=>ah),hid (aA _ _)⟩
 case round=>
  obtain⟨n,L,hn,HLL,rfl,rfl,rfl,rfl,HG,HB⟩:=hrel
  have hL:=HLL.out
  by_cases hlt:n<60
  ·have o5:(L:Int)<=79:=ah
   have HP:=hid (xZ (h:=h) (lag:=(20:Int)+n) (rO ah ah))
   have HP16:=hid (QT H16.out ((20:Int)+n))
   have KP:=hid (fun W=>show Calls Tryz.prog 98 #[.agg (agi h),.int .i64 (L:Nat)] W (fun e w'=> ∃A c,e=.returned (.tuple #[.slice A 40 c,.int .i64 0])/\Own w' W.heap.size A c (cO h ((20:Int)+n))/\Below W.heap.size W w') from by
    have hLi:(L:Int)=(20:Int)+n:=ah
    rw[hLi]
    refine(PH h ((20:Int)+n) W HH.out).mono ?_
    rintro e w' ⟨A,c,h1,h2,h3⟩
    rw[rO ah ah,HP.out] at h1
    exact⟨A,c,h1,h2,h3⟩)
   have VL:=hid (IQ (ring:=ring) HP.out HP16.out)
   have ST:=hid (show pkS ring h t (n+1)=if decide (0<pkC ring h t n)&&dO (pkC ring h t n) (pkE ring h n) (pkS ring h t n).2.1 (pkS ring h t n).2.2 then(20+(n:Int),pkC ring h t n,pkE ring h n) else pkS ring h t n from rfl)
   unfold pkC pkE piV at ST
   have HL2:=hid (show L+1=20+(n+1) from Nv)
   have hLI:=hid (show(20:Int)+n=(L:Nat) from Nv)
   have P64:=hid (YJ (fP HP16.out))
   have V16:=hid (DK ring (cO h ((20:Int)+n)))
   have rS:=IU ring h T16.out n
   have bnn:=YO ring h t n
   generalize cO h ((20:Int)+n)=v at*
   have KF2:=hid (fun W (hB:Below V.heap.size V W) A c (hr:Rs W W.heap.size A v)=>KF.out W hB A c v hr HP.out P64.out)
   generalize foL ring v=f at*
   have KD1:=hid (fun W A1 c1 A2 c2 (h1:Rs W W.heap.size A1 t) (h2:Rs W W.heap.size A2 f) (hf:f.length=40)=>YC A1 A2 c1 c2 40 40 t f W h1 h2 HN.out hf (al0z _) ah T16.out (fP V16.out))
   have KD2:=hid (fun W A2 c2 (h2:Rs W W.heap.size A2 f) (hf:f.length=40)=>YC A2 A2 c2 c2 40 40 f f W h2 h2 hf hf (al0z _) ah (fP V16.out) (fP V16.out))
   have KRF:=hid (fun W A2 c2 n (h2:Rs W W.heap.size A2 f) (hf:f.length=n) (hn:n<=17592186044416)=>Gh A2 c2 n W.heap.size f W h2 hf hn)
   have rC:=oq T16.out (fP V16.out) 40
   have rE:=oq (fP V16.out) (fP V16.out) 40
   have pos:=YF (a:=t) (b:=f) (n:=40)
   obtain⟨q1,hq1⟩:∃q1,q1=(pkS ring h t n).1:=⟨_,rfl⟩
   obtain⟨q2,hq2⟩:∃q2,q2=(pkS ring h t n).2.1:=⟨_,rfl⟩
   obtain⟨q3,hq3⟩:∃q3,q3=(pkS ring h t n).2.2:=⟨_,rfl⟩
   rw[<-hq2,<-hq3] at ST rS
   rw[<-hq3] at bnn
   rw[<-hq1,<-hq2,<-hq3]
   have HQ:=hid (show pkS ring h t n=(q1,q2,q3) by rw[hq1,hq2,hq3])
   have IW:=hid (Blk.below' I0.out HB.out)
   have TW:=hid ((HT.out.below HB.out).more HB.out.size)
   clear hq1 hq2 hq3 hL
   generalize bz t f 40=C at*
   generalize bz f f 40=E at*
   have KB:=hid (fun W=>Yz C E q2 q3 W ah ah ah ah ah ah ah ah)
   have POS:=hid pos
   have BNN:=hid bnn
   clear pos bnn rS rC rE
   go_wp2_with(refine aK rfl 23 (.tmp 3) rfl _ 23 h 80 _ rfl IW.out Tryz.underlying23 rfl aaw HH.out ?_)
   refine(KP.out wr).mono ?_
   rintro e w1 ⟨A1,c1,rfl,hO,hB⟩
   have B1:=hid (HB.out.trans (hB.mono HB.out.size))
   have O1:=hid hO.reads
   have TW1:=hid ((TW.out.below hB).more hB.size)
   clear hO hB KP IW
   go_wp2_with fail
   refine(KF2.out w1 B1.out A1 c1 O1.out).mono ?_
   rintro e w2 ⟨A2,c2,rfl,hO,hB⟩
   have B2:=hid (B1.out.trans (hB.mono B1.out.size))
   have O2:=hid hO.reads
   have TW2:=hid ((TW1.out.below hB).more hB.size)
   clear hO hB KF2 O1 TW1 B1 HB TW
   cases hR:pkR ring with
   |false=>
    exact l62
   |true=>
    have F40:=VL.out
    rw[hR] at F40
    simp only[if_true] at F40
    rw[F40]
    have KRF2:=hid (KRF.out w2 A2 c2 40 O2.out F40 ah)
    have KD1':=hid (KD1.out w2 A c A2 c2 TW2.out O2.out F40)
    have KD2':=hid (KD2.out w2 A2 c2 O2.out F40)
    have HG2:=hid (fun(_:0<n+1)=>hR)
    rw[V16.out] at KRF2
    clear hR F40 KRF KD1 KD2
    go_wp2_with fail
    refine KRF2.out.mono ?_
    rintro e w3 ⟨rfl,rfl⟩
    go_wp2_with fail
    refine KD1'.out.mono ?_
    rintro e w3 ⟨rfl,rfl⟩
    go_wp2_with fail
    refine KD2'.out.mono ?_
    rintro e w3 ⟨rfl,rfl⟩
    by_cases hC:C<=0
    ·have NS:=hid (show pkS ring h t (n+1)=(q1,q2,q3) by rw[ST.out,decide_eq_false ah];exact HQ.out)
     clear ST
     go_wp2
     go_roundw
     case rel=>exact⟨n+1,L+1,ah,HL2,aO,qy,qy,qy,HG2,B2⟩
     case measure=>simp[intOf]<;>omega
    have hE: ¬E<=0:=by have:=POS.out ah;omega
    by_cases h0:q3=0
    ·subst h0
     have NS:=hid (show pkS ring h t (n+1)=(20+(n:Int),C,E) by rw[ST.out,agU (fun h=>POS.out h),decide_eq_true ah];rfl)
     clear ST
     go_wp2
     go_roundw
     case rel=>exact⟨n+1,L+1,ah,HL2,aO,by rw[NS.out,<-hLI.out],qy,qy,HG2,B2⟩
     case measure=>simp[intOf]<;>omega
    have e1:(q3==0)=false:=ql
    obtain⟨b,hb⟩:∃b,b=dO C E q2 q3:=⟨_,rfl⟩
    rw[<-hb,decide_eq_true ah] at ST
    rw[<-hb] at KB
    clear hb
    go_wp2_with fail
    refine(KB.out _).mono ?_
    rintro en w3 ⟨rfl,hB⟩
    have B3:=hid (B2.out.trans (hB.mono B2.out.size))
    clear hB
    cases b
    ·have NS:=hid (show pkS ring h t (n+1)=(q1,q2,q3) by rw[ST.out];exact HQ.out)
     go_wp2
     go_roundw
     case rel=>exact⟨n+1,L+1,ah,HL2,aO,qy,qy,qy,HG2,B3⟩
     case measure=>simp[intOf]<;>omega
    have NS:=hid (show pkS ring h t (n+1)=(20+(n:Int),C,E) by rw[ST.out];rfl)
    go_wp2
    go_roundw
    case rel=>exact⟨n+1,L+1,ah,HL2,aO,by rw[NS.out,<-hLI.out],qy,qy,HG2,B3⟩
    case measure=>simp[intOf]<;>omega
  obtain rfl:n=60:=ah
  obtain rfl:L=80:=ah
  have HE0:=hid (show iP ring h t=0 by rw[HE.out,HG.out ah];rfl)
  clear hL hlt
  go_wp2
  ((try simp only[Exit.inBlock,Exit.then]);refine bg (wI rfl _ _ _) rfl ?_)
  exact⟨by unfold piA piB pkD;rw[HE0.out];rfl,BA.out.trans (HB.out.mono BA.out.size)⟩
theorem eY:(Tryz.prog.info? 33).map (·.size)=some 4:=au
theorem aiL:Tryz.zeroCells216=agi (List.replicate 1600 0):=au
theorem aiM(x:Int)(w:World):Calls Tryz.prog 203 #[.int .i64 x] w fun e w'=>e=.returned (.int .i64 (sgp x))/\w'=w:=by
 by_cases h:x<0
 ·have hs:=hid (show sgp x= -1 by unfold sgp;rw[if_pos h])
  go_enter Tryz.func203,Tryz.ntmps203
  exact Fp
 have hs:=hid (show sgp x=1 by unfold sgp;rw[if_neg h])
 go_enter Tryz.func203,Tryz.ntmps203
 exact Fp
theorem aiN(A:Option Addr)(c:Nat)(ring:List Int)(w:World)(hr:Rs w w.heap.size A ring)(hn:ring.length=40)(hw:W64 ring):
 Calls Tryz.prog 191 #[.slice A 40 c] w (fun e w'=> ∃L,e=.returned (.pointer (some ⟨w.heap.size,0,none⟩))/\IB w' w.heap.size 216 L/\Tbl L ring 40 0/\Below w.heap.size w w'):=by
 have HR:=hid hr
 have KE:=hid (fun(W:World) (h:Rs W W.heap.size A ring) (a b:Nat) (ha:a<40) (hb:b<40)=>show Calls Tryz.prog 202 #[.slice A 40 c,.int .i64 (a:Nat),.int .i64 (b:Nat)] W (fun e w'=>e=.returned (.tuple #[.int .i64 (en0 ring a b),.int .i64 0])/\Below W.heap.size W w') from by
  refine(ae9 A c 40 ring a b W h hn hw).mono ?_
  rintro e w' ⟨rfl,hB⟩
  have he:uD ring.length (a:Int) (b:Int)=0:=by unfold uD inH;rw[if_pos hn];simp;omega
  refine⟨?_,hB⟩
  rw[he]
  unfold enV
  rw[he,if_pos rfl,ag8]
  rfl)
 have I0:=hid (show IB (w.alloc (.cells Tryz.zeroCells216 216)) w.heap.size 216 (List.replicate 1600 0) from by rw[aiL];exact IB.new w _ _)
 have B0:=hid ((aA w.heap.size w).alloc (al0z _) (.cells Tryz.zeroCells216 216))
 have T0:=hid (Tbl.start ring)
 clear hr hn hw
 go_enter Tryz.func191,Tryz.ntmps191
 go_wp2
 generalize w.alloc (.cells Tryz.zeroCells216 216)=w0 at I0 B0|-
 generalize List.replicate 1600 (0:Int)=L0 at I0 T0
 go_loopw[8] (fun iv wr=> ∃(a:Nat) (L:List Int),a<=40/\iv=.int .i64 a/\Hid (IB wr w.heap.size 216 L)/\Hid (Tbl L ring a 0)/\Hid (Below w.heap.size w wr)) (fun iv _=>40-(intOf iv).toNat)
 case atStart=>exact⟨0,L0,ah,rfl,I0,T0,B0⟩
 case round=>
  clear I0 T0 B0
  obtain⟨a,L,ha,rfl,HI,HT,HB⟩:=hrel
  obtain⟨wo,rfl⟩:∃wo:World,wo=wr:=⟨_,rfl⟩
  by_cases hlt:a<40
  ·have hdec:decide ((a:Int)<40)=true:=aJ
   go_wp2
   go_loopw[13] (fun iv wr=> ∃(b:Nat) (L:List Int),b<=a+1/\iv=.int .i64 b/\Hid (IB wr w.heap.size 216 L)/\Hid (Tbl L ring a b)/\Hid (Below w.heap.size w wr)) (fun iv _=>a+1-(intOf iv).toNat)
   case atStart=>exact⟨0,L,ah,rfl,HI,HT,HB⟩
   case round=>
    clear HI HT HB
    obtain⟨b,L,hb,rfl,HI,HT,HB⟩:=hrel
    by_cases hlb:b<a+1
    ·have KX:=hid (KE.out wr ((HR.out.below HB.out).more HB.out.size) a b hlt ah)
     have LT:=hid (HT.out.set_ hlt (by omega:b<=a))
     generalize en0 ring a b=x at*
     go_wp2_with fail
     refine KX.out.mono ?_
     rintro e w1 ⟨rfl,hB⟩
     have I1:=hid (Blk.below' HI.out hB)
     have B1:=hid (HB.out.trans (hB.mono HB.out.size))
     clear hB HI HB KX KE
     have c1:=IB.cell I1.out (a*40+b) (by rw[HT.out.len];omega)
     have c2:=IB.cell I1.out (b*40+a) (by rw[HT.out.len];omega)
     have f1:=Blk.frozen I1.out (a*40+b)
     have f2:=Blk.frozen I1.out (b*40+a)
     have i1:(a:Int)<40:=ah
     have i2:(b:Int)<40:=ah
     have i3:(0:Int)<=a:=ah
     have i4:(0:Int)<=b:=ah
     obtain⟨v1,hv1⟩:=cell?_setCell_some (w:=w1) (p:=⟨w.heap.size,a*40+b,none⟩) (x:=.int .i64 x) (q:=⟨w.heap.size,b*40+a,none⟩) c2
     obtain⟨v2,hv2⟩:=cell?_setCell_some (w:=w1) (p:=⟨w.heap.size,b*40+a,none⟩) (x:=.int .i64 x) (q:=⟨w.heap.size,a*40+b,none⟩) c1
     have NI:=hid (IB.set_ (IB.set_ I1.out (a*40+b) x) (b*40+a) x)
     have NB:=hid ((B1.out.setCell (p:=⟨w.heap.size,a*40+b,none⟩) (al0z _) (.int .i64 x)).setCell (p:=⟨w.heap.size,b*40+a,none⟩) (al0z _) (.int .i64 x))
     clear I1 B1
     go_wp2
     go_region
     clear c1 c2 f1 f2 hv1 hv2
     go_wp2
     go_roundw
     case rel=>exact⟨b+1,_,ah,aO,hid (Blk.drew NI.out),LT,hid NB.out.drew⟩
     case measure=>simp[intOf]<;>omega
    obtain rfl:b=a+1:=ah
    go_wp2
    go_roundw
    case rel=>exact⟨a+1,L,ah,aO,HI,hid HT.out.next,HB⟩
    case measure=>simp[intOf]<;>omega
  obtain rfl:a=40:=ah
  go_wp2
  go_ret
  exact⟨L,rfl,HI.out,HT.out,HB.out⟩
theorem aiO(A:Option Addr)(c g:Nat)(d ring ix L:List Int)(w:World)(hd:Rs w w.heap.size A d)(dl:d.length=40)(dw:W64 d)(hL:IB w g 216 L)(ht:Tbl L ring 40 0)(hx:Ix ix):
 Calls Tryz.prog 193 #[.slice A 40 c,.pointer (some ⟨g,0,none⟩),.agg (agi ix)] w (fun e w'=>e=.returned (.tuple #[.int .i64 (scC d ix 4),.int .i64 (scE d ring ix)])/\Below w.heap.size w w'):=by
 have HIX:=hid (fun(k:Nat) (hk:k<4) (w:World)=>jp Tryz.underlying33 ix hx.1 k hk w)
 have BA:=hid ((aA w.heap.size w).alloc (al0z _) (.cells (agi ix) 33))
 have I0:=hid (IB.new w 33 ix)
 have HD:=hid ((hd.below BA.out).more BA.out.size)
 have HL:=hid (show IB (w.alloc (.cells (agi ix) 33)) g 216 L from Blk.alloc hL _)
 have HT:=hid ht
 have DL:=hid dl
 have DW:=hid dw
 have OK:=hid hx.2
 have X4:=hid hx.1
 have KS:=hid (fun(x:Int) W=>aiM x W)
 clear hd dl dw hL ht hx
 go_enter Tryz.func193,Tryz.ntmps193
 go_wp2_with(first
  |(refine aK rfl 33 (.tmp 5) rfl _ 33 ix 4 _ rfl I0.out Tryz.underlying33 rfl eY X4.out ?_))
 obtain⟨V,hV⟩:∃V,V=w.alloc (.cells (agi ix) 33):=⟨_,rfl⟩
 rw[<-hV] at I0 HD HL BA|-
 clear hV
 go_loopw[8,9,17] (fun cv ev iv wr=> ∃(i:Nat) (e:Int),i<=4/\iv=.int .i64 i/\cv=.int .i64 (scC d ix i)/\ev=.int .i64 e/\Hid (e=aI (scR d ring ix) i)/\Hid (Below V.heap.size V wr)) (fun _ _ iv _=>4-(intOf iv).toNat)
 case atStart=>exact⟨0,0,ah,rfl,rfl,rfl,hid rfl,hid (aA _ _)⟩
 case round=>
  obtain⟨i,e,hi,rfl,rfl,rfl,HE,HB⟩:=hrel
  by_cases hlt:i<4
  ·have hI:=HIX.out i hlt
   have po:=pg OK.out i
   obtain⟨q,hq⟩:=dP po.1
   have pa:=qU OK.out hlt
   have hpl:(i:Int)+4*(q:Nat)=(plc ix i:Nat):=uh
   have SC:=hid (show scC d ix (i+1)=IntKind.i64.wrap (scC d ix i+IntKind.i64.wrap (sg d ix i*d.getD (plc ix i) 0)) from rfl)
   have SE:=hid (show aI (scR d ring ix) (i+1)=e+scR d ring ix i by rw[HE.out];rfl)
   have er:=YR d ring ix i ah
   rw[<-HE.out] at er
   have e1: -687194767360<=e:=er.1
   have e2:e<=687194767360:=er.2
   rw[hq] at hI po
   have SG:=hid (show sg d ix i=sgp (d.getD (plc ix i) 0) from rfl)
   have ST:=hid (fun j=>show scT d ring ix i j=sg d ix i*sg d ix j*en0 ring (plc ix i) (plc ix j) from rfl)
   have SR:=hid (show scR d ring ix i=aI (scT d ring ix i) 4 from rfl)
   have SB:=hid (fun j hj=>YQ d ring ix i j hj)
   have I1:=hid (Blk.below' I0.out HB.out)
   have D1:=hid ((HD.out.below HB.out).more HB.out.size)
   have L1:=hid (Blk.below' HL.out HB.out)
   obtain⟨a,ha⟩:∃a,a=plc ix i:=⟨_,rfl⟩
   rw[<-ha] at hpl pa SC SG ST
   obtain⟨ad,rfl,hadb,c0⟩:=D1.out.at_ (k:=a) rH
   obtain⟨x,hx⟩:∃x,x=d.getD a 0:=⟨_,rfl⟩
   rw[<-hx] at c0 SC SG
   have KX:=hid (fun W=>KS.out x W)
   obtain⟨s,hs⟩:∃s,s=sgp x:=⟨_,rfl⟩
   rw[<-hs] at KX SG
   rw[SG.out] at SC ST
   have s2:s=1\/s= -1:=by rw[hs];exact QV x
   have HA:=hid ha
   have HQ:=hid hq
   have HS:=hid hs
   have HX:=hid hx
   have S2:=hid s2
   generalize scC d ix i=cc at*
   have q9:(q:Int)<=9:=po.2
   have a40:(a:Int)<40:=ah
   have a0:(0:Int)<=a:=ah
   have hw0:IntKind.i64.wrap (4*(q:Int))=4*(q:Int):=aN
   have hdec:decide ((i:Int)<4)=true:=aJ
   clear po ha hq hs hx er s2 HD HL
   obtain⟨wo,hwo⟩:∃wo:World,wo=wr:=⟨_,rfl⟩
   rw[<-hwo] at I1 D1 L1 HB c0|-
   clear hwo
   go_wp2
   go_quiet ((go_at_call 203;(with_reducible exact Calls.quiet_of_same (KX.out _))))
   rename_i nq
   have I2:=hid (show IB (wo.drewN nq) w.heap.size 33 ix from I1.out)
   have B2:=hid (HB.out.trans ((iJ wo nq).mono HB.out.size))
   have D2:=hid (show Rs (wo.drewN nq) (wo.drewN nq).heap.size (some ad) d from D1.out)
   have L2:=hid (show IB (wo.drewN nq) g 216 L from L1.out)
   clear I1 HB D1 L1 c0
   generalize wo.drewN nq=w2 at*
   go_wp2_with(first
    |(refine aK rfl 33 (.tmp 5) rfl _ 33 ix 4 _ rfl I2.out Tryz.underlying33 rfl eY X4.out ?_))
   go_loopw[9,38] (fun ev jv wr=> ∃(j:Nat) (f:Int),j<=4/\jv=.int .i64 j/\ev=.int .i64 f/\Hid (f=e+aI (scT d ring ix i) j)/\Hid (Below V.heap.size V wr)/\Hid (Rs wr wr.heap.size (some ad) d)/\Hid (IB wr g 216 L)) (fun _ jv _=>4-(intOf jv).toNat)
   case atStart=>exact⟨0,e,ah,rfl,rfl,hid (by simp[aI]),B2,D2,L2⟩
   case round=>
    clear B2 D2 L2 I2
    obtain⟨j,f,hj,rfl,rfl,HF,HB,D1,L1⟩:=hrel
    by_cases hltj:j<4
    ·have hJ:=HIX.out j hltj
     have po:=pg OK.out j
     obtain⟨r,hr⟩:=dP po.1
     have pb:=qU OK.out hltj
     have hpj:(j:Int)+4*(r:Nat)=(plc ix j:Nat):=by unfold plc;rw[hr];push_cast;rfl
     rw[hr] at hJ po
     have SJ:=hid (show sg d ix j=sgp (d.getD (plc ix j) 0) from rfl)
     have er:=YP ring a (plc ix j)
     have TJ:=ST.out j
     have CT:=IB.cell L1.out (a*40+plc ix j) (by rw[HT.out.len];omega)
     rw[HT.out.get pa pb] at CT
     obtain⟨b,hb⟩:∃b,b=plc ix j:=⟨_,rfl⟩
     rw[<-hb] at hpj pb SJ er TJ CT
     obtain⟨ad2,had2,_,c0⟩:=D1.out.at_ (k:=a) rH
     obtain⟨ad3,had3,_,c1⟩:=D1.out.at_ (k:=b) (by rw[DL.out];exact pb)
     injection had2 with had2
     injection had3 with had3
     subst had2
     subst had3
     rw[<-HX.out] at c0
     obtain⟨y,hy⟩:∃y,y=d.getD b 0:=⟨_,rfl⟩
     rw[<-hy] at c1 SJ
     have KY:=hid (fun W=>KS.out y W)
     obtain⟨u,hu⟩:∃u,u=sgp y:=⟨_,rfl⟩
     rw[<-hu] at KY SJ
     rw[SJ.out] at TJ
     have u2:u=1\/u= -1:=by rw[hu];exact QV y
     have s2:=S2.out
     generalize en0 ring a b=z at*
     have p1:s*u=1\/s*u= -1:=by rcases s2 with rfl|rfl<;>rcases u2 with rfl|rfl<;>decide
     have p2:=IV p1 er
     have SB1:=SB.out j ah
     have NF:=hid (show f+s*u*z=e+aI (scT d ring ix i) (j+1) by rw[HF.out,aI,TJ];omega)
     have hf:=HF.out
     have hw1:IntKind.i64.wrap (s*u)=s*u:=aN
     have hw2:IntKind.i64.wrap (s*u*z)=s*u*z:=aN
     have hw3:IntKind.i64.wrap (f+s*u*z)=f+s*u*z:=aN
     have hw4:IntKind.i64.wrap (4*(r:Int))=4*(r:Int):=aN
     have r9:(r:Int)<=9:=po.2
     have b40:(b:Int)<40:=ah
     have b0:(0:Int)<=b:=ah
     have HBB:=hid hb
     have HY:=hid hy
     have HU:=hid hu
     clear po hb hy hu er u2 s2 p1 p2 SB1 hf hr
     obtain⟨wo2,hwo2⟩:∃wo2:World,wo2=wr:=⟨_,rfl⟩
     rw[<-hwo2] at D1 L1 HB c0 c1 CT|-
     clear hwo2
     go_wp2
     go_quiet ((go_at_call 203;first|(with_reducible exact Calls.quiet_of_same (KX.out _))|(with_reducible exact Calls.quiet_of_same (KY.out _))))
     have B3:=hid (fun N=>HB.out.trans ((iJ wo2 N).mono HB.out.size))
     have D3:=hid (fun N=>show Rs (wo2.drewN N) (wo2.drewN N).heap.size (some ad) d from D1.out)
     have L3:=hid (fun N=>show IB (wo2.drewN N) g 216 L from L1.out)
     clear HB D1 L1 c0 c1 CT hw1 hw2 hw3
     go_wp2
     go_roundw
     case rel=>exact⟨j+1,_,ah,aO,rfl,NF,hid (B3.out _),hid (D3.out _),hid (L3.out _)⟩
     case measure=>simp[intOf]<;>omega
    obtain rfl:j=4:=ah
    have NE:=hid (show f=aI (scR d ring ix) (i+1) by rw[HF.out,SE.out,SR.out])
    go_wp2
    go_roundw
    case rel=>exact⟨i+1,f,ah,aO,by rw[SC.out];first|rfl|(simp only[wrap64,oJ]),rfl,NE,HB⟩
    case measure=>simp[intOf]<;>omega
  obtain rfl:i=4:=ah
  go_wp2
  go_ret2
  exact⟨by rw[HE.out];rfl,BA.out.trans (HB.out.mono BA.out.size)⟩
theorem JJ{z p:Nat}(e:z|||p=z+p)(h:z+p<4294967296):bits BinOp.or IntKind.i64 (z:Nat) (p:Nat)=((z+p:Nat):Int):=by
 have hlt:(BitVec.ofInt 64 (z:Int)|||BitVec.ofInt 64 (p:Int)).toNat=z+p:=by
  rw[BitVec.ofInt_natCast,BitVec.ofInt_natCast,BitVec.toNat_or,BitVec.toNat_ofNat,BitVec.toNat_ofNat,Nat.mod_eq_of_lt ah,Nat.mod_eq_of_lt ah,e]
 show IntKind.i64.wrap ((BitVec.ofInt 64 (z:Int)|||BitVec.ofInt 64 (p:Int)).toNat:Int)=_
 rw[hlt,oJ]
 omega
theorem aaE(x:Int)(w:World):Calls Tryz.prog 207 #[.int .i64 x] w fun e w'=>e=.returned (.int .i64 (s16 x))/\w'=w:=by
 by_cases h1:32767<x
 ·have hs:=hid (show s16 x=32767 from Uy)
  have m1:min x 32767=32767:=ah
  go_enter Tryz.func207,Tryz.ntmps207
  exact Fp
 by_cases h2:x< -32768
 ·have hs:=hid (show s16 x= -32768 from Uy)
  have m1:min x 32767=x:=ah
  have m2:max x (-32768)= -32768:=ah
  go_enter Tryz.func207,Tryz.ntmps207
  exact Fp
 have hs:=hid (show s16 x=x from Uy)
 have m1:min x 32767=x:=ah
 have m2:max x (-32768)=x:=ah
 go_enter Tryz.func207,Tryz.ntmps207
 exact Fp
theorem uV:∀{l:List Int} (_:l.length=4),∃a b c d,l=[a,b,c,d]
 |[a,b,c,d],_=>⟨a,b,c,d,rfl⟩
def iR(d ring ix:List Int)(t k:Nat):List Int:=(List.range 40).map (fun j=>if j<k then hrd d ring ix (t+1) j else hrd d ring ix t j)
theorem nJ(d ring ix:List Int)(t k:Nat):(iR d ring ix t k).length=40:=by simp[iR]
theorem aaF(d ring ix:List Int)(t j:Nat):hrd d ring ix (t+1) j=hrd d ring ix t j+sg d ix t*iF ring (plc ix t) j:=rfl
theorem aiS(d ring ix:List Int)(t:Nat){k:Nat}(hk:k<40):(iR d ring ix t k).getD k 0=hrd d ring ix t k:=by
 unfold iR;rw[aT _ hk,if_neg ah]
theorem aiT(d ring ix:List Int){t k:Nat}(hk:k<40)(h:plc ix t<=k):(iR d ring ix t k).set k (hrd d ring ix t k+sg d ix t*s16 (ring.getD (k-plc ix t) 0))=iR d ring ix t (k+1):=by
 refine bV (by rw[List.length_set,nJ,nJ]) fun j hj=>?_
 rw[List.length_set,nJ] at hj
 by_cases e:k=j
 ·subst e
  rw[gQ _ _ _ (by rw[nJ];exact hk)]
  unfold iR
  rw[aT _ hj,if_pos ah,aaF]
  unfold iF
  rw[if_pos h]
 rw[iw _ _ e]
 unfold iR
 rw[aT _ hj,aT _ hj]
 by_cases h2:j<k
 ·rw[if_pos h2,if_pos ah]
 rw[if_neg h2,if_neg ah]
theorem aiU(d ring ix:List Int)(t:Nat):iR d ring ix t (plc ix t)=iR d ring ix t 0:=by
 refine bV (by rw[nJ,nJ]) fun j hj=>?_
 rw[nJ] at hj
 unfold iR
 rw[aT _ hj,aT _ hj,if_neg (by omega: ¬j<0)]
 by_cases h:j<plc ix t
 ·rw[if_pos h,aaF]
  unfold iF
  rw[if_neg ah]
  omega
 rw[if_neg h]
theorem aiV(d ring ix:List Int)(t:Nat):iR d ring ix t 40=iR d ring ix (t+1) 0:=by
 refine bV (by rw[nJ,nJ]) fun j hj=>?_
 rw[nJ] at hj
 unfold iR
 rw[aT _ hj,aT _ hj,if_pos hj,if_neg ah]
theorem aiW(d ring ix:List Int):iR d ring ix 0 0=List.replicate 40 0:=by
 refine bV (by rw[nJ];simp) fun j hj=>?_
 rw[nJ] at hj
 unfold iR
 rw[aT _ hj,if_neg ah,zI]
 rfl
theorem aiX(d ring ix:List Int)(t:Nat){j:Nat}(hj:j<40):(iR d ring ix t 0).getD j 0=hrd d ring ix t j:=by
 unfold iR;rw[aT _ hj,if_neg ah]
def ScAns(d ring ix:List Int)(w:World)(e:Ending)(w':World):Prop:=e=.returned (.tuple #[.int .i64 (Ja d ring ix),.int .i64 (Jb d ring ix),.int .i64 (lg d ring ix)])/\Below w.heap.size w w'
theorem ScAns.bad{d ring ix:List Int}{w w':World}{er:Int}(he:lg d ring ix=er)(h0:er≠0)(hB:Below w.heap.size w w'):ScAns d ring ix w (.returned (.tuple #[.int .i64 0,.int .i64 0,.int .i64 er])) w':=
 ⟨by unfold Ja Jb;rw[he,if_neg h0,if_neg h0],hB⟩
theorem ScAns.good{d ring ix:List Int}{w w':World}(he:lg d ring ix=0)(hB:Below w.heap.size w w'):ScAns d ring ix w (.returned (.tuple #[.int .i64 (scC d ix 4),.int .i64 (scE d ring ix),.int .i64 0])) w':=
 ⟨by unfold Ja Jb;rw[he,if_pos rfl,if_pos rfl],hB⟩
theorem aiY(A A2:Option Addr)(c c2 n1 n2:Nat)(d ring ix:List Int)(w:World)(hd:Rs w w.heap.size A d)(hr:Rs w w.heap.size A2 ring)(l1:d.length=n1)(l2:ring.length=n2)(dw:W64 d)(rw_:W64 ring)(hx:ix.length=4):
 Calls Tryz.prog 198 #[.slice A n1 c,.slice A2 n2 c2,.agg (agi ix)] w (ScAns d ring ix w):=by
 have BA:=hid ((aA w.heap.size w).alloc (al0z _) (.cells (agi ix) 33))
 have FB:=hid (fun(er:Int) (he:lg d ring ix=er) (h0:er≠0) w' (hB:Below w.heap.size w w')=>ScAns.bad he h0 hB)
 by_cases hl:n1=40
 rotate_left
 ·have HE:=hid (show lg d ring ix=1 by unfold lg;rw[if_neg ah])
  have d0:((n1:Int) !=40)=true:=aJ
  have d1: ¬(n1:Int)=40:=ah
  clear hl l1 l2 hd hr
  exact acx
 subst hl
 by_cases hl2:n2=40
 rotate_left
 ·have HE:=hid (show lg d ring ix=1 by unfold lg;rw[if_neg ah])
  have d0:((n2:Int) !=40)=true:=aJ
  have d1: ¬(n2:Int)=40:=ah
  clear hl2 l1 l2 hd hr
  exact acx
 subst hl2
 have HE:=hid (show lg d ring ix=if qR ix then 0 else 2 by unfold lg;rw[if_pos ⟨l1,l2⟩])
 have HIX:=hid (fun(k:Nat) (hk:k<4) (w:World)=>jp Tryz.underlying33 ix hx k hk w)
 have I0:=hid (IB.new w 33 ix)
 have HD:=hid ((hd.below BA.out).more BA.out.size)
 have HR:=hid ((hr.below BA.out).more BA.out.size)
 have DL:=hid l1
 have RL:=hid l2
 have X4:=hid hx
 have DW:=hid dw
 have RW:=hid rw_
 obtain⟨V,hV⟩:∃V,V=w.alloc (.cells (agi ix) 33):=⟨_,rfl⟩
 rw[<-hV] at I0 HD HR BA
 have HV:=hid hV
 clear hV hx hd hr l1 l2 dw rw_
 go_enter Tryz.func198,Tryz.ntmps198
 go_wp2_with(first|rw[<-HV.out]|(refine aK rfl 33 (.tmp 5) rfl _ 33 ix 4 _ rfl I0.out Tryz.underlying33 rfl eY X4.out ?_))
 go_loop [30] (fun iv=> ∃i:Nat,i<=4/\iv=.int .i64 i/\Hid (allTo (fun p=>decide (0<=p/\p<=9)) ix i)) (fun iv=>4-(intOf iv).toNat)
 case atStart=>exact⟨0,ah,rfl,hid allTo.zero⟩
 case round=>
  obtain⟨i,hi,rfl,HY⟩:=hrel
  by_cases hlt:i<4
  ·have hI:=HIX.out i hlt
   obtain⟨x,hx⟩:∃x,x=ix.getD i 0:=⟨_,rfl⟩
   rw[<-hx] at hI
   by_cases hb:x<0\/9<x
   ·have HE2:=hid (show lg d ring ix=2 by rw[HE.out,show qR ix=false from iL (i:=i) (by rw[X4.out];exact hlt) MZ];rfl)
    clear hx
    rcases hb with hb|hb
    ·have e1:decide (x<0)=true:=Fh
     go_wp2
     go_ret3
     exact FB.out _ HE2.out aB _ BA.out
    have e1:decide (x<0)=false:=aJ
    have e2:decide (10<=x)=true:=aJ
    have e3:decide (9<x)=true:=aJ
    go_wp2
    go_ret3
    exact FB.out _ HE2.out aB _ BA.out
   have HN:=hid (HY.out.succ MZ)
   have e1:decide (x<0)=false:=aJ
   have e2:decide (10<=x)=false:=aJ
   have e3:decide (9<x)=false:=aJ
   clear hb hx
   go_wp2
   go_round
   case rel=>exact⟨i+1,ah,aO,HN⟩
   case measure=>simp[intOf]<;>omega
  obtain rfl:i=4:=ah
  have OK:=hid (show qR ix=true from HY.out.all (by rw[X4.out];exact al0z _))
  have HE2:=hid (show lg d ring ix=0 by rw[HE.out,OK.out];rfl)
  clear HY HE
  have HG:=hid (fun w' (hB:Below w.heap.size w w')=>ScAns.good (w:=w) (w':=w') HE2.out hB)
  clear HE2 FB hlt
  have sV:=BA.out.size
  go_wp2_with(first
   |(at_make;refine kR rfl _ _ rfl .i64 .i64 40 rfl rfl V.heap.size ah (al0z _) ?_;intro w1 hO hG;have O1:=hid (show Own w1 V.heap.size (some ⟨V.heap.size,0,none⟩) 40 (iR d ring ix 0 0) by rw[aiW];exact hO);have B1:=hid ((aA V.heap.size V).grown hG (al0z _) az);clear hO hG)
   |(refine aK rfl 33 (.tmp 5) rfl _ 33 ix 4 _ rfl (Blk.below' I0.out B1.out) Tryz.underlying33 rfl eY X4.out ?_))
  go_loopw[11,42] (fun cv iv wr=> ∃t:Nat,t<=4/\iv=.int .i64 t/\cv=.int .i64 (scC d ix t)/\Hid (Own wr V.heap.size (some ⟨V.heap.size,0,none⟩) 40 (iR d ring ix t 0))/\Hid (Below V.heap.size V wr)) (fun _ iv _=>4-(intOf iv).toNat)
  case atStart=>exact⟨0,ah,rfl,rfl,O1,B1⟩
  case round=>
   clear O1 B1
   obtain⟨t,ht,rfl,rfl,HO,HB⟩:=hrel
   by_cases hlt:t<4
   ·have hI:=HIX.out t hlt
    have po:=pg OK.out t
    obtain⟨q,hq⟩:=dP po.1
    have pa:=qU OK.out hlt
    have hpl:(t:Int)+4*(q:Nat)=(plc ix t:Nat):=uh
    have SC:=hid (show scC d ix (t+1)=IntKind.i64.wrap (scC d ix t+IntKind.i64.wrap (sg d ix t*d.getD (plc ix t) 0)) from rfl)
    have HS0:=hid (aiU d ring ix t)
    have HNX:=hid (aiV d ring ix t)
    have HSet:=hid (fun k hk h=>aiT d ring ix (t:=t) (k:=k) hk h)
    have HAt:=hid (fun k hk=>aiS d ring ix t (k:=k) hk)
    have HRg:=hid (fun k=>Rf d ring ix t k ah)
    rw[hq] at hI po
    have SG:=hid (show sg d ix t=sgp (d.getD (plc ix t) 0) from rfl)
    have D1:=hid ((HD.out.below HB.out).more HB.out.size)
    have O1:=hid (show Own wr V.heap.size (some ⟨V.heap.size,0,none⟩) 40 (iR d ring ix t (plc ix t)) by rw[HS0.out];exact HO.out)
    obtain⟨a,ha⟩:∃a,a=plc ix t:=⟨_,rfl⟩
    rw[<-ha] at hpl pa SC SG O1 HSet
    obtain⟨ad,hAd,hadb,c0⟩:=D1.out.at_ (k:=a) rH
    obtain⟨x,hx⟩:∃x,x=d.getD a 0:=⟨_,rfl⟩
    rw[<-hx] at c0 SC SG
    obtain⟨s,hs⟩:∃s,s=sgp x:=⟨_,rfl⟩
    rw[<-hs] at SG
    rw[SG.out] at SC HSet
    have HSG:=hid hs
    have HX:=hid hx
    have q9:(q:Int)<=9:=po.2
    have a40:(a:Int)<40:=ah
    have a0:(0:Int)<=a:=ah
    have HQ:=hid hq
    have HA:=hid ha
    have hdec:decide ((t:Int)<4)=true:=aJ
    generalize scC d ix t=cc at*
    clear po hq ha hx HO
    subst hAd
    by_cases hsg:x<0
    ·have hs1:s= -1:=by rw[hs];unfold sgp;rw[if_pos hsg]
     have hsgn:decide (x<0)=true:=by simpa using hsg
     subst hs1
     clear hs HSG
     have SC2:=SC.out
     rw[Int.neg_one_mul] at SC2
     have SC2:=hid SC2
     clear SC
     go_wp2
     clear c0 hsgn
     go_loopw[17] (fun iv wr=> ∃k:Nat,a<=k/\k<=40/\iv=.int .i64 k/\Hid (Own wr V.heap.size (some ⟨V.heap.size,0,none⟩) 40 (iR d ring ix t k))/\Hid (Below V.heap.size V wr)) (fun iv _=>40-(intOf iv).toNat)
     case atStart=>exact⟨a,al0z _,ah,rfl,O1,HB⟩
     case round=>
      clear O1 HB D1
      obtain⟨k,hka,hk,rfl,HO,HB⟩:=hrel
      by_cases hlk:k<40
      ·obtain⟨ae,hAe,haeb,c1⟩:=(HR.out.below HB.out).at_ (k:=k-a) (by rw[RL.out];omega)
       have co:=HO.out.cell k Nq
       rw[HAt.out k hlk] at co
       have fo:=HO.out.frozen k
       have HSk:=HSet.out k hlk hka
       rw[Int.neg_one_mul] at HSk
       have HSk:=hid HSk
       have hrg:=HRg.out k
       obtain⟨m,hm⟩:∃m,m=k-a:=⟨_,rfl⟩
       rw[<-hm] at c1 HSk
       obtain⟨y,hy⟩:∃y,y=ring.getD m 0:=⟨_,rfl⟩
       rw[<-hy] at c1 HSk
       have KS:=hid (fun W=>aaE y W)
       have yr:=lJ y
       obtain⟨z,hz⟩:∃z,z=s16 y:=⟨_,rfl⟩
       rw[<-hz] at KS yr HSk
       obtain⟨v,hv⟩:∃v,v=hrd d ring ix t k:=⟨_,rfl⟩
       rw[<-hv] at co hrg HSk
       have hw0:IntKind.i64.wrap ((k:Int)-(a:Nat))=(m:Nat):=aN
       have hw1:IntKind.i64.wrap (-z)=(-z):=aN
       have hw2:IntKind.i64.wrap (v+(-z))=v+(-z):=aN
       have i1:(m:Int)<40:=ah
       have i2:(0:Int)<=m:=ah
       have i3:(k:Int)<40:=ah
       have i4:(0:Int)<=k:=ah
       have NO:=hid (show Own (wr.setCell ⟨V.heap.size,k,none⟩ (.int .i64 (v+(-z)))) V.heap.size (some ⟨V.heap.size,0,none⟩) 40 (iR d ring ix t (k+1)) from by rw[<-HSk.out];exact HO.out.set_ k Nq _)
       have NB:=hid (HB.out.setCell (p:=⟨V.heap.size,k,none⟩) (al0z _) (.int .i64 (v+(-z))))
       exact l53
      exact l66
    have hs1:s=1:=by rw[hs];unfold sgp;rw[if_neg hsg]
    have hsgn:decide (x<0)=false:=by simpa using hsg
    subst hs1
    clear hs HSG
    have SC2:=SC.out
    rw[Int.one_mul] at SC2
    have SC2:=hid SC2
    clear SC
    go_wp2
    clear c0 hsgn
    go_loopw[17] (fun iv wr=> ∃k:Nat,a<=k/\k<=40/\iv=.int .i64 k/\Hid (Own wr V.heap.size (some ⟨V.heap.size,0,none⟩) 40 (iR d ring ix t k))/\Hid (Below V.heap.size V wr)) (fun iv _=>40-(intOf iv).toNat)
    case atStart=>exact⟨a,al0z _,ah,rfl,O1,HB⟩
    case round=>
     clear O1 HB D1
     obtain⟨k,hka,hk,rfl,HO,HB⟩:=hrel
     by_cases hlk:k<40
     ·obtain⟨ae,hAe,haeb,c1⟩:=(HR.out.below HB.out).at_ (k:=k-a) (by rw[RL.out];omega)
      have co:=HO.out.cell k Nq
      rw[HAt.out k hlk] at co
      have fo:=HO.out.frozen k
      have HSk:=HSet.out k hlk hka
      rw[Int.one_mul] at HSk
      have HSk:=hid HSk
      have hrg:=HRg.out k
      obtain⟨m,hm⟩:∃m,m=k-a:=⟨_,rfl⟩
      rw[<-hm] at c1 HSk
      obtain⟨y,hy⟩:∃y,y=ring.getD m 0:=⟨_,rfl⟩
      rw[<-hy] at c1 HSk
      have KS:=hid (fun W=>aaE y W)
      have yr:=lJ y
      obtain⟨z,hz⟩:∃z,z=s16 y:=⟨_,rfl⟩
      rw[<-hz] at KS yr HSk
      obtain⟨v,hv⟩:∃v,v=hrd d ring ix t k:=⟨_,rfl⟩
      rw[<-hv] at co hrg HSk
      have hw0:IntKind.i64.wrap ((k:Int)-(a:Nat))=(m:Nat):=aN
      have hw1:IntKind.i64.wrap (z)=(z):=aN
      have hw2:IntKind.i64.wrap (v+(z))=v+(z):=aN
      have i1:(m:Int)<40:=ah
      have i2:(0:Int)<=m:=ah
      have i3:(k:Int)<40:=ah
      have i4:(0:Int)<=k:=ah
      have NO:=hid (show Own (wr.setCell ⟨V.heap.size,k,none⟩ (.int .i64 (v+(z)))) V.heap.size (some ⟨V.heap.size,0,none⟩) 40 (iR d ring ix t (k+1)) from by rw[<-HSk.out];exact HO.out.set_ k Nq _)
      have NB:=hid (HB.out.setCell (p:=⟨V.heap.size,k,none⟩) (al0z _) (.int .i64 (v+(z))))
      exact l53
     exact l66
   obtain rfl:t=4:=ah
   have NE:=hid (show∀j,j<40->(iR d ring ix 4 0).getD j 0=hrd d ring ix 4 j from fun j hj=>aiX d ring ix 4 hj)
   have SE:=hid (ahe d ring ix)
   have SQ:=hid (fun n hn=>ahf d ring ix n hn)
   have SH:=hid (fun n=>Rf d ring ix 4 n (al0z _))
   have LH:=hid (nJ d ring ix 4 0)
   go_wp2
   have cells:=hid (fun n (hn:n<40)=>HO.out.cell n (by rw[LH.out];exact hn))
   go_loop [18,86] (fun ev iv=> ∃(n:Nat) (e:Int),n<=40/\iv=.int .i64 n/\ev=.int .i64 e/\Hid (e=aI (hsq d ring ix) n)) (fun _ iv=>40-(intOf iv).toNat)
   case atStart=>exact⟨0,0,ah,rfl,rfl,hid rfl⟩
   case round=>
    obtain⟨n,e,hn,rfl,rfl,HE⟩:=hrel
    by_cases hln:n<40
    ·have c0:=cells.out n hln
     rw[NE.out n hln] at c0
     have SS:=hid (show aI (hsq d ring ix) (n+1)=e+hrd d ring ix 4 n*hrd d ring ix 4 n by rw[HE.out];rfl)
     have sb:=SQ.out n hn
     rw[<-HE.out] at sb
     have hb:=SH.out n
     have hq:=Rh d ring ix n
     unfold hsq at hq
     generalize hrd d ring ix 4 n=x at*
     have e1:0<=e:=sb.1
     have e2:e<=687194767360:=sb.2
     have q1:0<=x*x:=hq.1
     have q2:x*x<=17179869184:=hq.2
     clear sb hb hq
     go_wp2
     go_round
     case rel=>exact⟨n+1,_,ah,aO,rfl,hid SS.out.symm⟩
     case measure=>simp[intOf]<;>omega
    obtain rfl:n=40:=ah
    have FIN:=hid (HG.out _ (BA.out.trans (HB.out.mono BA.out.size)))
    rw[<-SE.out,<-HE.out] at FIN
    go_wp2
    go_ret3
    exact FIN.out
section
variable {w w':World} {g:Nat} {t:TypeId} {xs:List Int} {cs:Array Value}
theorem Blk.rangeAt(h:Blk w g t cs):w.rangeAt g 0 cs.toList:=fun j v hv=>by
 rw[Nat.zero_add,Blk.cell h j,<-hv]
 simp
theorem IB.rangeAt(h:IB w g t xs):w.rangeAt g 0 (aj xs):=by
 have:=Blk.rangeAt h
 simpa[agi] using this
theorem Blk.there(h:Blk w g t cs):w.there g 0 cs.size:=fun j hj=>by
 rw[Nat.zero_add]
 refine⟨?_,Blk.frozen h j⟩
 rw[Blk.cell h j]
 simp[hj]
end
end Go.Proofs.YthoiikkjjaldnaaGreatDoor
