/- Texts that the law rests on. -/
import Derived.Test.YthoiikkjjaldnaaGreatDoorZ1e0g
import Derived.Test.YthoiikkjjaldnaaGreatDoorZ1e0w
namespace Go.Proofs.YthoiikkjjaldnaaGreatDoor
set_option linter.unusedVariables false
set_option linter.unusedSimpArgs false
set_option maxRecDepth 100000
set_option maxHeartbeats 8000000
open Go.RowKit
def NewSE(w:World)(xs:List Int)(er:Int)(e:Ending)(w':World):Prop:=∃A c,e=.returned (.tuple #[.slice A xs.length c,.int .i64 er])/\Own w' w.heap.size A c xs/\Below w.heap.size w w'
theorem NewSE.none_{w w':World}{er:Int}(hB:Below w.heap.size w w'):NewSE w [] er (.returned (.tuple #[.slice none 0 0,.int .i64 er])) w':=⟨none,0,rfl,Own.nil,hB⟩
theorem PH(h:List Int)(lag:Int)(w:World)(hl:h.length=80):Calls Tryz.prog 98 #[.agg (agi h),.int .i64 lag] w (NewSE w (cO h lag) (aZ (mY lag))):=by
 by_cases h1:lag<20\/79<lag
 ·rw[show cO h lag=[] from by unfold cO;rw[Gi h1];rfl,Gi h1]
  have FIN:=hid (NewSE.none_ (er:=2) ((aA _ w).alloc (al0z _) (.cells (agi h) 23)))
  rcases h1 with h1|h1
  ·have d1:decide (lag<20)=true:=qo
   go_enter Tryz.func98,Tryz.ntmps98
   go_wp2
   go_ret2
   exact FIN.out
  have d1:decide (lag<20)=false:=aJ
  have d2:decide (79<lag)=true:=qo
  go_enter Tryz.func98,Tryz.ntmps98
  go_wp2
  go_ret2
  exact FIN.out
 have hb:mY lag=true:=rO ah ah
 have hlen:=xZ (h:=h) hb
 obtain⟨L,rfl⟩:=dP (show 0<=lag from ah)
 have hP:=hid (fun j hj=>aek (h:=h) hb j hj)
 rw[hb]
 have hL1:20<=L:=ah
 have hL2:L<=79:=ah
 obtain⟨E,hE⟩:∃E,E=80-L:=⟨_,rfl⟩
 have hEi:(80:Int)-(L:Nat)=(E:Nat):=ah
 have hE2:E+L=80:=ah
 have A0:=hid (IB.new w 23 h)
 have d1:decide ((L:Int)<20)=false:=aJ
 have d2:decide (79<(L:Int))=false:=aJ
 have HL:=hid hl
 have HN:=hid hlen
 have HE:=hid hE
 clear h1 hb hl hlen hE
 go_enter Tryz.func98,Tryz.ntmps98
 go_wp2_with(at_make;refine kR rfl _ _ rfl .i64 .i64 40 rfl rfl w.heap.size ah az ?_;intro w1 hO hG;have O1:=hid hO;have A1:=hid (Blk.grown A0.out hG az);have B1:=hid (((aA w.heap.size w).alloc (al0z _) (.cells (agi h) 23)).grown hG az az);clear hO hG)
 simp only[bU] at O1
 go_loopw[17] (fun iv wr=> ∃(k:Nat) (ys:List Int),k<=40/\iv=.int .i64 k/\Hid (ys.length=40/\∀j,j<k->ys.getD j 0=ku h L j)/\Hid (Own wr w.heap.size (some ⟨w.heap.size+1,0,none⟩) 40 ys)/\Hid (IB wr w.heap.size 23 h)/\Hid (Below w.heap.size w wr)) (fun iv _=>40-(intOf iv).toNat)
 case atStart=>exact⟨0,_,ah,rfl,hid ⟨az,fun j h=>ah⟩,O1,A1,B1⟩
 case round=>
  clear O1 A1 B1
  obtain⟨k,ys,hk,rfl,HY,HO,HA,HB⟩:=hrel
  by_cases hlt:k<40
  ·have co:=HO.out.cell k rG
   have fo:=HO.out.frozen k
   have NO:=hid (fun v=>HO.out.set_ k rG v)
   have NA:=hid (fun v=>Blk.far HA.out (p:=⟨w.heap.size+1,k,none⟩) AP v)
   have NB:=hid (fun v=>HB.out.setCell (p:=⟨w.heap.size+1,k,none⟩) ug v)
   have NEXT:=hid (fun(v:Int) (hv:v=ku h L k)=>show Hid ((ys.set k v).length=40/\∀j,j<k+1->(ys.set k v).getD j 0=ku h L j) from by
    obtain⟨q1,q3⟩:=HY.out
    refine⟨xu,fun j hj=>?_⟩
    by_cases he:k=j
    ·subst he
     rw[gQ _ _ _ ah,hv]
    ·rw[iw _ _ he]
     exact q3 j ah)
   by_cases hlow:k<L
   ·have ci:=HA.out.cell (E+k) nV
    have hEk:E+k<80:=ah
    have HV:=hid (show h.getD (E+k) 0=ku h L k by rw[ael hlow,<-HE.out])
    generalize h.getD (E+k) 0=x at*
    exact abS
   obtain⟨d,hd⟩:∃d,k=L+d:=⟨k-L,ah⟩
   have hsub:(k:Int)-(L:Nat)=(d:Nat):=ah
   have cd:=HO.out.cell d EW
   have hd40:d<40:=ah
   have HV:=hid (show ys.getD d 0=ku h L k by rw[HY.out.2 d ah,aem (h:=h) (lag:=L) (i:=k) ah,show k-L=d from ah])
   have HD:=hid hd
   clear hd
   generalize ys.getD d 0=x at*
   exact abS
  obtain rfl:k=40:=ah
  have HF:=hid (show ys=cO h (L:Nat) from bV (by rw[HY.out.1,HN.out]) (fun j hj=>by rw[HY.out.2 j (by rw[HY.out.1] at hj;exact hj),hP.out j (by rw[HY.out.1] at hj;exact hj)];rfl))
  go_wp2
  go_ret2
  exact⟨_,_,by rw[HN.out];rfl,by rw[<-HF.out];exact HO.out,HB.out⟩
def bH(h x:List Int):List Int:=h.drop 40++x.map s16
def x9(h x:List Int)(n:Nat):List Int:=if n=40 then bH h x else List.replicate 80 0
def PI(n:Nat):Int:=if n=40 then 0 else 1
theorem rP{h x:List Int}(hh:h.length=80)(hx:x.length=40):(bH h x).length=80:=by unfold bH;simp[hh,hx]
theorem VZ{h x:List Int}(hh:h.length=80)(j:Nat)(hj:j<40):(bH h x).getD j 0=h.getD (40+j) 0:=by
 unfold bH
 simp[bi,mF (show j<(h.drop 40).length from aJ)]
theorem We{h x:List Int}(hh:h.length=80)(hx:x.length=40)(j:Nat)(hj:j<40):(bH h x).getD (40+j) 0=s16 (x.getD j 0):=by
 unfold bH
 have hl:(h.drop 40).length=40:=by simp[hh]
 rw[bi,uY ah,hl,Nat.add_sub_cancel_left]
 simp[bi,jO (show j<x.length from ah)]
theorem aen{h x ys:List Int}(hh:h.length=80)(hx:x.length=40)(h1:ys.length=80)(h2:∀j,j<40->ys.getD j 0=h.getD (40+j) 0)(h3:∀j,j<40->ys.getD (40+j) 0=s16 (x.getD j 0)):ys=bH h x:=by
 refine bV (by rw[h1,rP hh hx]) (fun k hk=>?_)
 by_cases hlt:k<40
 ·rw[h2 k hlt,VZ hh k hlt]
 obtain⟨j,rfl⟩:∃j,k=40+j:=⟨k-40,ah⟩
 rw[h3 j ah,We hh hx j ah]
def Gl(w:World)(h x:List Int)(n:Nat)(e:Ending)(w':World):Prop:=e=.returned (.tuple #[.agg (agi (x9 h x n)),.int .i64 (PI n)])/\Below w.heap.size w w'
def Z80:List Int:=List.replicate 80 0
theorem PK:Tryz.zeroCells23=agi Z80:=au
theorem kK:(Tryz.prog.info? 23).map (·.size)=some 80:=au
structure Kx(w wr:World)(ys:List Int):Prop where
 A:IB wr w.heap.size 23 ys
 R:IB wr (w.heap.size+1) 23 Z80
 bel:Below w.heap.size w wr
theorem Kx.start(w:World)(h:List Int):Kx w ((w.alloc (.cells (agi h) 23)).alloc (.cells Tryz.zeroCells23 23)) h:=by
 have h1:=IB.new w 23 h
 have h2:=IB.new (w.alloc (.cells (agi h) 23)) 23 Z80
 simp only[bU] at h2
 rw[PK]
 exact U5
theorem Kx.set_{w wr:World}{ys:List Int}(s:Kx w wr ys)(k:Nat)(x:Int):Kx w (wr.setCell ⟨w.heap.size,k,none⟩ (.int .i64 x)) (ys.set k x):=
 ⟨IB.set_ s.A k x,Blk.far s.R az _,s.bel.setCell az _⟩
theorem Wh(h x:List Int)(A:Option Addr)(c n:Nat)(w:World)(hh:h.length=80)(hr:Rs w w.heap.size A x)(hn:x.length=n)(hl:n<=17592186044416):
 Calls Tryz.prog 107 #[.agg (agi h),.slice A n c] w (Gl w h x n):=by
 have hR:=oL (fn:=Tryz.f107) (p:=4) (q:=5) (ty:=23) rfl
 have S0:=hid (Kx.start w h)
 have HR:=hid hr
 have HN:=hid hn
 have HH:=hid hh
 by_cases h40:n=40
 ·subst h40
  have FA:x9 h x 40=bH h x:=if_pos rfl
  have KL:=hid (rP hh hn)
  have FA:=hid FA
  have D40:=hid (show(h.drop 40).length=40 by simp[hh])
  have HZ:=hid (show h.drop 40++h.drop 40=h.take 0++h.drop 40++h.drop (0+(h.drop 40).length) by simp[hh])
  have HZ1:=hid (show(h.drop 40++h.drop 40).length=80 by simp[hh])
  have HZ2:=hid (fun(j:Nat) (hj:j<40)=>show(h.drop 40++h.drop 40).getD j 0=h.getD (40+j) 0 by
   simp[bi,mF (show j<(h.drop 40).length from aJ)])
  have HD:=hid (fun(j:Nat) (hj:j<40)=>show(h.drop 40).getD j 0=h.getD (40+j) 0 by simp[bi])
  clear hr hn hh
  go_enter Tryz.func107,Tryz.ntmps107
  go_wp2
  go_region_law (refine VY rfl (.tmp 12) (.tmp 13) 27 27 rfl Tryz.underlying27 w.heap.size 0 80 80 ⟨w.heap.size,40,none⟩ 40 40 Nj Nj 23 h (h.drop 40) (h.drop 40++h.drop 40) S0.out.A (by rw[D40.out];rfl) (fun j hj=>by rw[D40.out] at hj;rw[HD.out j hj,Addr.add_mid];exact IB.cell S0.out.A (40+j) (by rw[HH.out];omega)) (by rw[D40.out,HH.out];omega) HZ.out ?_)
  generalize hw4:World.setRow _ _ _=w4
  have S4:Kx w w4 (h.drop 40++h.drop 40):=by
   rw[<-hw4]
   exact⟨IB.setRow (Blk.drew S0.out.A) _,Blk.rowFar (Blk.drew S0.out.R) ah,aS (Below.drew S0.out.bel) (al0z _) _⟩
  have S4:=hid S4
  clear hw4 S0
  obtain⟨ys0,hys0⟩:∃ys0,ys0=h.drop 40++h.drop 40:=⟨_,rfl⟩
  rw[<-hys0] at S4 HZ1 HZ2
  clear hys0
  generalize ((h.length-40:Nat):Int)=u14
  simp only[Exit.then]
  go_wp2
  go_loopw[17] (fun iv wr=> ∃(k:Nat) (ys:List Int),k<=40/\iv=.int .i64 k/\Hid (ys.length=80/\(∀j,j<40->ys.getD j 0=h.getD (40+j) 0)/\∀j,j<k->ys.getD (40+j) 0=s16 (x.getD j 0))/\Hid (Kx w wr ys)) (fun iv _=>40-(intOf iv).toNat)
  case atStart=>exact⟨0,_,ah,rfl,hid ⟨HZ1.out,HZ2.out,fun j h=>ah⟩,S4⟩
  case round=>
   clear S4
   obtain⟨k,ys,hk,rfl,HY,HS⟩:=hrel
   by_cases hlt:k<40
   ·obtain⟨ad,rfl,_,c1⟩:=(HR.out.below HS.out.bel).at_ (k:=k) iE
    obtain⟨J,hJ⟩:∃J:Nat,J=40+k:=⟨_,rfl⟩
    obtain⟨v,hv⟩:∃v,v=x.getD k 0:=⟨_,rfl⟩
    rw[<-hv] at c1
    have co:=IB.cell HS.out.A J EW
    have fo:=Blk.frozen HS.out.A J
    have hwJ:IntKind.i64.wrap (40+(k:Int))=(J:Nat):=aN
    have hJ80:(J:Int)<80:=ah
    have SX:=hid (HS.out.set_ J (s16 v))
    have NEXT:=hid (show(ys.set J (s16 v)).length=80/\(∀j,j<40->(ys.set J (s16 v)).getD j 0=h.getD (40+j) 0)/\∀j,j<k+1->(ys.set J (s16 v)).getD (40+j) 0=s16 (x.getD j 0) from by
     obtain⟨q1,q2,q3⟩:=HY.out
     refine⟨xu,fun j hj=>?_,fun j hj=>?_⟩
     ·rw[iw _ _ ah];exact q2 j hj
     ·by_cases he:j=k
      ·subst he
       rw[<-hJ,gQ _ _ _ ah,hv]
      ·rw[iw _ _ ah]
       exact q3 j ah)
    clear hJ hv
    go_wp2_with(go_at_call 61;refine(xX _ _).mono ?_;rintro e w' ⟨rfl,rfl⟩)
    go_roundw
    case rel=>exact⟨k+1,_,ah,aO,NEXT,SX⟩
    case measure=>simp[intOf]<;>omega
   obtain rfl:k=40:=ah
   have HF:=aen HH.out HN.out HY.out.1 HY.out.2.1 HY.out.2.2
   subst HF
   have FIN:=hid (aS HS.out.bel (g:=w.heap.size+1) ah (agi (bH h x)))
   have hRow:=hid (IB.setRow HS.out.R (bH h x))
   go_wp2_with(first
    |(refine aK rfl 23 (.tmp 2) rfl _ 23 (bH h x) 80 _ rfl HS.out.A Tryz.underlying23 rfl kK KL.out ?_)
    |(refine aP rfl 23 (.tmp 4) (.tmp 28) rfl _ 23 Z80 (bH h x) 80 rfl rfl HS.out.R kK rfl KL.out ?_))
   refine bg (v:=_) (hR _ _ _ 23 (bH h x) _ 80 rfl hRow.out Tryz.underlying23 rfl kK KL.out) rfl ?_
   exact⟨by rw[FA.out];rfl,FIN.out⟩
 ·have FA:=hid (show x9 h x n=Z80 from if_neg h40)
  have FE:=hid (show PI n=1 from if_neg h40)
  have d1:((n:Int)==40)=false:=aJ
  have d2:((n:Int) !=40)=true:=aJ
  clear h40
  have FIN:=hid (aS S0.out.bel (g:=w.heap.size+1) ah (agi Z80))
  have hRow:=hid (IB.setRow S0.out.R Z80)
  go_enter Tryz.func107,Tryz.ntmps107
  go_wp2_with(refine aP rfl 23 (.tmp 4) (.tmp 11) rfl _ 23 Z80 Z80 80 rfl (congrArg Value.agg PK) S0.out.R kK rfl rfl ?_)
  exact abT
def nzE(s:Int):Nat->Int
 |0=>s
 |k+1=>nzE (nzS s) k
def nzL(s z:Int):Nat->List Int
 |0=>[]
 |k+1=>nzX s z::nzL (nzS s) z k
theorem Wi(s:Int)(k:Nat):nzE s (k+1)=nzS (nzE s k):=by
 induction k generalizing s with
 |zero=>rfl
 |succ k ih=>rw[nzE,ih,nzE]
theorem aeo(s z:Int)(k:Nat):nzL s z (k+1)=nzL s z k++[nzX (nzE s k) z]:=by
 induction k generalizing s with
 |zero=>rfl
 |succ k ih=>rw[nzL,ih,nzL];rfl
theorem qJ(s z:Int)(k:Nat):(nzL s z k).length=k:=by
 induction k generalizing s with
 |zero=>rfl
 |succ k ih=>simp[nzL,ih]
theorem aep(s z:Int): -32768<=nzX s z/\nzX s z<=32767:=by
 have h1:=zB s
 have h2:=adZ z
 have h3: -1073709056<=(nzS s-32768)*nzZ z/\(nzS s-32768)*nzZ z<=1073709056:=by
  have e1:(nzS s-32768)*nzZ z<=32767*nzZ z:=Int.mul_le_mul_of_nonneg_right ah h2.1
  have e2:(-32768)*nzZ z<=(nzS s-32768)*nzZ z:=Int.mul_le_mul_of_nonneg_right ah h2.1
  omega
 unfold nzX
 omega
theorem Wj(s z:Int)(k:Nat):aG (nzL s z k)=true:=by
 unfold aG
 rw[kF]
 intro x hx
 induction k generalizing s with
 |zero=>cases hx
 |succ k ih=>
  rcases List.mem_cons.1 hx with rfl|h
  ·have:=aep s z
   exact qI this.1 this.2
  exact ih _ h
theorem aeq(s z:Int)(n k:Nat)(h:k<n):(nzL s z k++List.replicate (n-k) 0).set k (nzX (nzE s k) z)=nzL s z (k+1)++List.replicate (n-(k+1)) 0:=by
 have hl:=qJ s z k
 obtain⟨d,rfl⟩:∃d,n=k+1+d:=⟨n-(k+1),ah⟩
 have e:k+1+d-k=d+1:=ah
 have e2:k+1+d-(k+1)=d:=ah
 rw[e,e2,List.replicate_succ,List.set_append_right _ _ ah,hl,Nat.sub_self,jm,aeo,mG]
 rfl
theorem aer(s z:Int)(n k:Nat)(h:k<=n):(nzL s z k++List.replicate (n-k) 0).length=n:=by rw[gu,qJ,nM];omega
theorem aes(w:World)(v:Int)(base:Nat)(hb:base<=w.heap.size):Own (w.alloc (.cells #[.int .i64 v] 3)) base (some ⟨w.heap.size,0,none⟩) 1 [v]:=
 World.ownsRow_lit (base:=base) (e:=3) (size:=1) w #[.int .i64 v] 1 hb iT rfl
def NzA(w:World)(s z:Int)(n:Nat)(e:Ending)(w':World):Prop:=∃A c,e=.returned (.tuple #[.int .i64 (nzE s n),.slice A n c])/\Own w' w.heap.size A c (nzL s z n)/\Below w.heap.size w w'
theorem aet(s z:Int)(n:Nat)(w:World)(hn:n<=1000):Calls Tryz.prog 144 #[.int .i64 s,.int .i64 z,.int .i64 n] w (NzA w s z n):=by
 have hn2:(n:Int)<=1000:=ah
 go_enter Tryz.func144,Tryz.ntmps144
 go_wp2_with(at_make;refine kR rfl _ _ rfl .i64 .i64 n rfl rfl w.heap.size ah (al0z _) ?_;intro w1 hO hG;have O1:=hid hO;have B1:=hid ((aA w.heap.size w).grown hG (al0z _) az);clear hO hG)
 go_loopw[0,14] (fun sv iv wr=> ∃(k:Nat),k<=n/\iv=.int .i64 k/\sv=.int .i64 (nzE s k)/\Hid (Own wr w.heap.size (some ⟨w.heap.size,0,none⟩) n (nzL s z k++List.replicate (n-k) 0))/\Hid (Below w.heap.size w wr)) (fun _ iv _=>n-(intOf iv).toNat)
 case atStart=>exact⟨0,ah,rfl,rfl,O1,B1⟩
 case round=>
  clear O1 B1
  obtain⟨k,hk,rfl,rfl,HO,HB⟩:=hrel
  by_cases hlt:k<n
  ·have HL:=hid (aer s z n k hk)
   have co:=HO.out.cell k oK
   have fo:=HO.out.frozen k
   have NO:=hid (show Own _ _ _ _ _ from by have:=HO.out.set_ k oK (nzX (nzE s k) z);rwa [aeq s z n k hlt] at this)
   have NB:=hid (HB.out.setCell (p:=⟨w.heap.size,k,none⟩) (al0z _) (.int .i64 (nzX (nzE s k) z)))
   have hkn:(k:Int)<n:=ah
   have NE:=hid (Wi s k)
   have KN:=hid (fun W=>ad5 (nzE s k) z W)
   generalize nzX (nzE s k) z=x at*
   generalize (nzL s z k++List.replicate (n-k) 0).getD k 0=x0 at*
   generalize hE:nzE s k=E at*
   clear hE
   go_wp2_with(go_at_call 187;refine(KN.out _).mono ?_;rintro e w' ⟨rfl,rfl⟩)
   go_roundw
   case rel=>exact⟨k+1,ah,aO,by rw[NE.out],NO,NB⟩
   case measure=>simp[intOf]<;>omega
  obtain rfl:k=n:=ah
  have OF:=hid (show Own wr w.heap.size (some ⟨w.heap.size,0,none⟩) k (nzL s z k) from by have:=HO.out;rwa [Nat.sub_self,List.replicate_zero,wQ] at this)
  clear HO
  go_wp2
  go_ret2
  exact⟨_,_,rfl,OF.out,HB.out⟩
theorem Wl(z:Int):∀(n:Nat) (s:Int) (w:World),n<=1000-> -9223372036854775808<=s->s<=9223372036854775807->Calls Tryz.prog 150 #[.int .i64 s,.int .i64 z,.int .i64 n] w (NzA w s z n)
 |0,s,w,_,_,_=>by
  go_enter Tryz.func150,Tryz.ntmps150
  go_wp2
  go_ret2
  exact⟨none,0,rfl,Own.nil,aA _ _⟩
 |n+1,s,w,hn,h1,h2=>by
  have K1:=hid (fun W=>ad6 s z W h1 h2)
  have K2:=hid (fun W=>Wl z n (nzS s) W ah (by have:=zB s;omega) (by have:=zB s;omega))
  obtain⟨m,hm⟩:∃m,m=n+1:=⟨_,rfl⟩
  rw[<-hm]
  have d1:((m:Int)==0)=false:=aJ
  have d2: ¬(m:Int)=0:=ah
  have hw1:IntKind.i64.wrap ((m:Int)-1)=(n:Nat):=aN
  have HM:=hid hm
  clear hm h1 h2
  go_enter Tryz.func150,Tryz.ntmps150
  go_wp2_with fail
  refine(K1.out _).mono ?_
  rintro e w1 ⟨rfl,hB⟩
  have B1:=hid hB
  clear hB
  go_wp2_with fail
  refine(K2.out _).mono ?_
  rintro e w2 ⟨A2,c2,rfl,hO,hB⟩
  have B2:=hid (B1.out.trans (hB.mono B1.out.size))
  have R2:=hid hO.reads
  have NL:=hid (qJ (nzS s) z n)
  clear hO hB B1
  have LE:=hid B2.out.size
  have F1:=hid (show nzE s m=nzE (nzS s) n by rw[HM.out];rfl)
  have F2:=hid (show nzL s z m=[nzX s z]++nzL (nzS s) z n by rw[HM.out];rfl)
  generalize nzL (nzS s) z n=l at*
  generalize nzE (nzS s) n=E at*
  generalize nzX s z=x at*
  go_wp2_with(at_builtin;refine oQ rfl (.tmp 30) (.tmp 31) rfl w.heap.size (some ⟨w2.heap.size,0,none⟩) 1 1 [x] rfl rfl (aes w2 x _ LE.out) w2.heap.size A2 c2 n l rfl NL.out (R2.out.below ((aA _ _).alloc (al0z _) _)) ah (by simp;have:=LE.out;omega) ?_;intro A3 c3 w5 hO hG hA;have O5:=hid hO;have B5:=hid ((B2.out.alloc LE.out (.cells #[.int .i64 x] 3)).grown hG (by simp;have:=LE.out;omega) (fun k hk=>by injection hk with hk;have:=LE.out;show w.heap.size<=k;rw[<-hk];exact LE.out));clear hO hG hA)
  go_ret2
  exact⟨A3,c3,by rw[F1.out,HM.out,Nat.add_comm n 1];rfl,by rw[F2.out];exact O5.out,B5.out⟩
structure Kr(w wr:World)(h ys:List Int):Prop where
 A:IB wr w.heap.size 23 h
 R:IB wr (w.heap.size+1) 23 Z80
 O:IB wr (w.heap.size+2) 23 ys
 bel:Below w.heap.size w wr
theorem Kr.start(w:World)(h:List Int):Kr w (((w.alloc (.cells (agi h) 23)).alloc (.cells Tryz.zeroCells23 23)).alloc (.cells Tryz.zeroCells23 23)) h Z80:=by
 have h1:=IB.new w 23 h
 have h2:=IB.new (w.alloc (.cells (agi h) 23)) 23 Z80
 have h3:=IB.new ((w.alloc (.cells (agi h) 23)).alloc (.cells (agi Z80) 23)) 23 Z80
 simp only[bU] at h2 h3
 rw[PK]
 exact abU
theorem Kr.set_{w wr:World}{h ys:List Int}(s:Kr w wr h ys)(k:Nat)(x:Int):Kr w (wr.setCell ⟨w.heap.size+2,k,none⟩ (.int .i64 x)) h (ys.set k x):=
 ⟨Blk.far s.A az _,Blk.far s.R az _,IB.set_ s.O k x,s.bel.setCell (p:=⟨w.heap.size+2,k,none⟩) (by show w.heap.size<=w.heap.size+2;omega) _⟩
theorem Kr.below{w wr w':World}{h ys:List Int}(s:Kr w wr h ys)(hb:Below wr.heap.size wr w'):Kr w w' h ys:=
 ⟨Blk.below' s.A hb,Blk.below' s.R hb,Blk.below' s.O hb,s.bel.trans (hb.mono s.bel.size)⟩
theorem Kr.lt{w wr:World}{h ys:List Int}(s:Kr w wr h ys):w.heap.size+3<=wr.heap.size:=Blk.lt s.O
theorem Wn(h x:List Int)(A:Option Addr)(c n:Nat)(w:World)(hh:h.length=80)(hr:Rs w w.heap.size A x)(hn:x.length=n)(hl:n<=17592186044416)(hw:W64 x):
 Calls Tryz.prog 134 #[.agg (agi h),.slice A n c] w (Gl w h x n):=by
 have hR:=oL (fn:=Tryz.f134) (p:=4) (q:=5) (ty:=23) rfl
 have S0:=hid (Kr.start w h)
 have HR:=hid hr
 have HN:=hid hn
 have HH:=hid hh
 have HW:=hid hw
 by_cases h40:n=40
 ·subst h40
  have FA:x9 h x 40=bH h x:=if_pos rfl
  have KL:=hid (rP hh hn)
  have LO:=hid (fun j hj=>VZ (x:=x) hh j hj)
  have HI:=hid (fun j hj=>We hh hn j hj)
  have FA':=hid FA
  clear hr hn hh hw FA
  go_enter Tryz.func134,Tryz.ntmps134
  go_wp2
  go_loopw[12] (fun iv wr=> ∃(k:Nat) (ys:List Int),k<=80/\iv=.int .i64 k/\Hid (ys.length=80/\∀j,j<k->ys.getD j 0=(bH h x).getD j 0)/\Hid (Kr w wr h ys)) (fun iv _=>80-(intOf iv).toNat)
  case atStart=>exact⟨0,_,ah,rfl,hid ⟨rfl,fun j h=>ah⟩,S0⟩
  case round=>
   clear S0
   obtain⟨k,ys,hk,rfl,HY,HS⟩:=hrel
   by_cases hlt:k<80
   ·have NEXT:=fun v (hv:v=(bH h x).getD k 0)=>hid (show(ys.set k v).length=80/\∀j,j<k+1->(ys.set k v).getD j 0=(bH h x).getD j 0 from by
     obtain⟨q1,q3⟩:=HY.out
     refine⟨xu,fun j hj=>?_⟩
     by_cases he:k=j
     ·subst he
      rw[gQ _ _ _ ah,hv]
     ·rw[iw _ _ he]
      exact q3 j ah)
    have hk80:(k:Int)<80:=ah
    by_cases hlow:k<40
    ·obtain⟨J,hJ⟩:∃J:Nat,J=k+40:=⟨_,rfl⟩
     have ci:=IB.cell HS.out.A J (by rw[HH.out];omega)
     have NX:=NEXT (h.getD J 0) (by rw[LO.out k hlow,hJ,Nat.add_comm])
     have SX:=hid (HS.out.set_ k (h.getD J 0))
     have co:=IB.cell HS.out.O k rG
     have fo:=Blk.frozen HS.out.O k
     have hwJ:IntKind.i64.wrap ((k:Int)+40)=(J:Nat):=aN
     have hJ80:(J:Int)<80:=ah
     generalize h.getD J 0=v at*
     clear hJ NEXT
     go_wp2
     go_roundw
     case rel=>exact⟨k+1,_,ah,aO,NX,SX⟩
     case measure=>simp[intOf]<;>omega
    obtain⟨d,hd⟩:∃d:Nat,k=40+d:=⟨k-40,ah⟩
    obtain⟨ad,rfl,_,c1⟩:=(HR.out.below HS.out.bel).at_ (k:=d) BG
    have vb:=HW.out.at_ d
    have hv2:s16 (x.getD d 0)=(bH h x).getD k 0:=by rw[hd,HI.out d ah]
    generalize x.getD d 0=v at*
    have NX:=NEXT (s16 v) hv2
    have SX:=hid (fun w' (hb:Below wr.heap.size wr w')=>(HS.out.below hb).set_ k (s16 v))
    have KS:=hid (fun W=>qH v W vb.1 vb.2)
    have LT:=hid HS.out.lt
    have hwd:IntKind.i64.wrap ((k:Int)-40)=(d:Nat):=aN
    have hd40:(d:Int)<40:=ah
    have hd0: ¬(k:Int)<40:=ah
    have HK:=hid hd
    clear hd NEXT hv2 vb hlow
    go_wp2_with fail
    refine(KS.out _).mono ?_
    rintro e w9 ⟨rfl,hB⟩
    have SX9:=hid (SX.out _ hB)
    have S9:=HS.out.below hB
    have co:=IB.cell S9.O k rG
    have fo:=Blk.frozen S9.O k
    clear hB S9
    go_wp2
    go_roundw
    case rel=>exact⟨k+1,_,ah,aO,NX,SX9⟩
    case measure=>simp[intOf]<;>omega
   obtain rfl:k=80:=ah
   have HF:ys=bH h x:=bV (by rw[HY.out.1,KL.out]) (fun k hk=>HY.out.2 k (by rw[HY.out.1] at hk;exact hk))
   subst HF
   have FIN:=hid (aS HS.out.bel (g:=w.heap.size+1) ah (agi (bH h x)))
   have hRow:=hid (IB.setRow HS.out.R (bH h x))
   go_wp2_with(first
    |(refine aK rfl 23 (.tmp 6) rfl _ 23 (bH h x) 80 _ rfl HS.out.O Tryz.underlying23 rfl kK KL.out ?_)
    |(refine aP rfl 23 (.tmp 4) (.tmp 32) rfl _ 23 Z80 (bH h x) 80 rfl rfl HS.out.R kK rfl KL.out ?_))
   refine bg (v:=_) (hR _ _ _ 23 (bH h x) _ 80 rfl hRow.out Tryz.underlying23 rfl kK KL.out) rfl ?_
   exact⟨by rw[FA'.out];rfl,FIN.out⟩
 ·have FA:=hid (show x9 h x n=Z80 from if_neg h40)
  have FE:=hid (show PI n=1 from if_neg h40)
  have d1:((n:Int)==40)=false:=aJ
  have d2:((n:Int) !=40)=true:=aJ
  clear h40
  have FIN:=hid (aS S0.out.bel (g:=w.heap.size+1) ah (agi Z80))
  have hRow:=hid (IB.setRow S0.out.R Z80)
  go_enter Tryz.func134,Tryz.ntmps134
  go_wp2_with(first
   |(refine aK rfl 23 (.tmp 6) rfl _ 23 Z80 80 _ rfl S0.out.O Tryz.underlying23 rfl kK rfl ?_)
   |(refine aP rfl 23 (.tmp 4) (.tmp 11) rfl _ 23 Z80 Z80 80 rfl rfl S0.out.R kK rfl rfl ?_))
  exact abT
def okK(x:Int):Bool:=decide (-31000<=x/\x<=31000)
theorem Wu{x:Int}(h1: -31000<=x)(h2:x<=31000):okK x=true:=by unfold okK;simp;omega
theorem Wv{x:Int}(h:x< -31000\/31000<x):okK x=false:=by unfold okK;simp;omega
def rQ(m:Mm):Prop:=(20<=m.la/\m.la<=79)/\(0<=m.se/\m.se<65536)/\(0<=m.ga/\m.ga<=32767)/\(0<=m.pi/\m.pi<=18022)/\0<=m.er/\m.er<=6
instance (m:Mm):Decidable (rQ m):=by unfold rQ;infer_instance
def aU(m:Mm):Bool:=m.r.all okK&&(aG m.p&&(aG m.e&&decide (rQ m)))
theorem Wx{m:Mm}(h:m.r.all okK=false):aU m=false:=by unfold aU;rw[h];rfl
theorem Wy{m:Mm}(h:aG m.p=false):aU m=false:=by unfold aU;rw[h];simp
theorem WC{m:Mm}(h:aG m.e=false):aU m=false:=by unfold aU;rw[h];simp
theorem yh{m:Mm}(h: ¬rQ m):aU m=false:=by unfold aU;simp[h]
theorem CQ{m:Mm}(h1:m.r.all okK=true)(h2:aG m.p=true)(h3:aG m.e=true)(h4:rQ m):aU m=true:=by unfold aU;simp[h1,h2,h3,h4]
theorem kM{m:Mm}(h:aU m=true):m.r.all okK=true/\aG m.p=true/\aG m.e=true/\rQ m:=by
 unfold aU at h
 simpa using h
theorem aex:(Tryz.prog.info? 23).map (·.size)=some 80:=au
theorem yj:(Tryz.prog.info? 22).map (·.size)=some 8:=au
theorem WE(m:Mm)(k:m.ok)(w:World):Calls Tryz.prog 22 #[.agg m.ag] w (zD w (aU m)):=by
 have I0:=hid (MB.new w m)
 have HB:=hid ((aA _ w).alloc (al0z _) (.cells m.ag 25))
 obtain⟨W,hW⟩:∃W,W=w.alloc (.cells m.ag 25):=⟨_,rfl⟩
 rw[<-hW] at I0 HB
 have HW:=hid hW
 clear hW
 have K:=hid k
 have HI8:=hid (fun(xs:List Int) (hx:xs.length=8) (j:Nat) (hj:j<8) (w:World)=>show(Instr.index 22 (.agg (aj xs).toArray) (.int .i64 (j:Nat))).run Tryz.prog w=.ok (.int .i64 (xs.getD j 0)) w from jp Tryz.underlying22 xs hx j hj w)
 have HI80:=hid (fun(xs:List Int) (hx:xs.length=80) (j:Nat) (hj:j<80) (w:World)=>show(Instr.index 23 (.agg (aj xs).toArray) (.int .i64 (j:Nat))).run Tryz.prog w=.ok (.int .i64 (xs.getD j 0)) w from jp Tryz.underlying23 xs hx j hj w)
 clear k
 go_enter Tryz.func22,Tryz.ntmps22
 go_wp2_with(first
  |(rw[<-HW.out])
  |(refine bI rfl 22 (.tmp 10) rfl _ _ rfl (aj m.r) _ (I0.out.R K.out) Tryz.underlying22 rfl (by rw[aQ,K.out.r];exact yj) ?_))
 go_loop [12] (fun iv=> ∃k:Nat,k<=8/\iv=.int .i64 k/\Hid (allTo okK m.r k)) (fun iv=>8-(intOf iv).toNat)
 case atStart=>exact⟨0,ah,rfl,hid allTo.zero⟩
 case round=>
  obtain⟨k,hk,rfl,HY⟩:=hrel
  by_cases hlt:k<8
  ·exact l33
  obtain rfl:k=8:=ah
  have HR:=hid (show m.r.all okK=true from HY.out.all (by rw[K.out.r];exact al0z _))
  clear HY hlt hk
  go_wp2_with(refine bI rfl 22 (.tmp 22) rfl _ _ rfl (aj m.p) _ (I0.out.P K.out) Tryz.underlying22 rfl (by rw[aQ,K.out.p];exact yj) ?_)
  go_loop [24] (fun iv=> ∃k:Nat,k<=8/\iv=.int .i64 k/\Hid (allTo gV m.p k)) (fun iv=>8-(intOf iv).toNat)
  case atStart=>exact⟨0,ah,rfl,hid allTo.zero⟩
  case round=>
   obtain⟨k,hk,rfl,HY⟩:=hrel
   by_cases hlt:k<8
   ·have hix:=HI8.out m.p K.out.p k hlt
    obtain⟨x,hx⟩:∃x,x=m.p.getD k 0:=⟨_,rfl⟩
    rw[<-hx] at hix
    have HX:=hid hx
    clear hx
    by_cases hbad:x< -32768\/32767<x
    ·have HF:=hid (show aU m=false from Wy (iL (i:=k) (by rw[K.out.p];exact hlt) (rL vh)))
     exact l69
    have HN2:=hid (HY.out.succ zq)
    have e0:=kH (x:=x) ah ah
    clear hbad
    go_wp2_with(go_at_call 61;refine(xX _ _).mono ?_;rintro e w' ⟨rfl,rfl⟩)
    exact l32
   obtain rfl:k=8:=ah
   have HP:=hid (show aG m.p=true from HY.out.all (by rw[K.out.p];exact al0z _))
   clear HY hlt hk
   go_wp2_with(refine bI rfl 23 (.tmp 32) rfl _ _ rfl (aj m.e) _ (I0.out.E K.out) Tryz.underlying23 rfl (by rw[aQ,K.out.e];exact aex) ?_)
   go_loop [34] (fun iv=> ∃k:Nat,k<=80/\iv=.int .i64 k/\Hid (allTo gV m.e k)) (fun iv=>80-(intOf iv).toNat)
   case atStart=>exact⟨0,ah,rfl,hid allTo.zero⟩
   case round=>
    obtain⟨k,hk,rfl,HY⟩:=hrel
    by_cases hlt:k<80
    ·have hix:=HI80.out m.e K.out.e k hlt
     obtain⟨x,hx⟩:∃x,x=m.e.getD k 0:=⟨_,rfl⟩
     rw[<-hx] at hix
     have HX:=hid hx
     clear hx
     by_cases hbad:x< -32768\/32767<x
     ·have HF:=hid (show aU m=false from WC (iL (i:=k) (by rw[K.out.e];exact hlt) (rL vh)))
      exact l69
     have HN2:=hid (HY.out.succ zq)
     have e0:=kH (x:=x) ah ah
     clear hbad
     go_wp2_with(go_at_call 61;refine(xX _ _).mono ?_;rintro e w' ⟨rfl,rfl⟩)
     exact l32
    obtain rfl:k=80:=ah
    have HE:=hid (show aG m.e=true from HY.out.all (by rw[K.out.e];exact al0z _))
    clear HY hlt hk
    have a1:W.cell? ⟨w.heap.size,98,none⟩=some (.int .i64 m.la):=I0.out.cla K.out
    have a2:W.cell? ⟨w.heap.size,100,none⟩=some (.int .i64 m.se):=I0.out.cse K.out
    have a3:W.cell? ⟨w.heap.size,96,none⟩=some (.int .i64 m.ga):=I0.out.cga K.out
    have a4:W.cell? ⟨w.heap.size,97,none⟩=some (.int .i64 m.pi):=I0.out.cpi K.out
    have a5:W.cell? ⟨w.heap.size,99,none⟩=some (.int .i64 m.er):=I0.out.cer K.out
    by_cases b0:m.la<20
    ·exact l22
    by_cases b1:79<m.la
    ·exact l22
    by_cases b2:m.se<0
    ·exact l22
    by_cases b3:65536<=m.se
    ·exact l22
    by_cases b4:m.ga<0
    ·exact l22
    by_cases b5:32767<m.ga
    ·exact l22
    by_cases b6:m.pi<0
    ·exact l22
    by_cases b7:18022<m.pi
    ·exact l22
    by_cases b8:m.er<0
    ·exact l22
    by_cases b9:6<m.er
    ·have HF:=hid (show aU m=false from yh (by unfold rQ;omega))
     have e9:decide (m.er<=6)=false:=aJ
     go_wp2
     go_ret
     exact⟨nY,HB.out⟩
    have HT:=hid (show aU m=true from CQ HR.out HP.out HE.out (by unfold rQ;omega))
    go_wp2
    go_ret
    exact⟨by rw[HT.out];rfl,HB.out⟩
def lX:Mm:=⟨List.replicate 8 0,List.replicate 8 0,List.replicate 80 0,0,0,20,0,21845,false⟩
theorem CU:lX.ok:=⟨rfl,rfl,rfl⟩
theorem aey:(Tryz.zeroCells25.setIfInBounds 98 (.int .i64 20)).setIfInBounds 100 (.int .i64 21845)=lX.ag:=au
theorem PN(w:World):Calls Tryz.prog 41 #[] w fun e w'=>e=.returned (.agg lX.ag)/\Below w.heap.size w w':=by
 have hR:=Wq (fn:=Tryz.f41) (p:=0) rfl
 have HZ:MB (w.alloc (.cells Tryz.zeroCells25 25)) w.heap.size bZ:=UD
 have HZ:=hid HZ
 go_enter Tryz.func41,Tryz.ntmps41
 exact l65
theorem PO(w:World):Calls Tryz.prog 9 #[] w fun e w'=>e=.returned (.agg lX.ag)/\Below w.heap.size w w':=by
 have hR:=Wq (fn:=Tryz.f9) (p:=0) rfl
 have HZ:MB (w.alloc (.cells Tryz.zeroCells25 25)) w.heap.size bZ:=UD
 have HZ:=hid HZ
 go_enter Tryz.func9,Tryz.ntmps9
 exact l65
theorem WH{w:World}{g o B:Nat}{xs:List Int}(h:w.rangeAt g o (aj xs))(hg:g<B):Rs w B (some ⟨g,o,none⟩) xs:=
 ⟨nZ,fun _=>⟨_,rfl,hg,fun j u hu=>by
   have e:(⟨g,o,none⟩:Addr).add j=⟨g,o+j,none⟩:=Addr.add_mid g o j
   rw[e]
   exact h j u hu⟩⟩
theorem WI(x hi:Int)(w:World):Calls Tryz.prog 69 #[.int .i64 x,.int .i64 hi] w fun e w'=>e=.returned (.bool (decide (0<=x/\x<=hi)))/\w=w':=by
 go_enter Tryz.func69,Tryz.ntmps69
 by_cases h1:0<=x
 ·go_wp2
  go_ret
  exact⟨by simp[h1],rfl⟩
 have h2:decide (0<=x/\x<=hi)=false:=decide_eq_false (fun h=>h1 h.1)
 go_wp2
 go_ret
 exact⟨by first|rfl|(rw[h2];rfl),rfl⟩
theorem CV{x hi:Int}{w:World}(h:0<=x/\x<=hi):Calls Tryz.prog 69 #[.int .i64 x,.int .i64 hi] w fun e w'=>e=.returned (.bool true)/\w=w':=by
 have:=WI x hi w
 rwa [decide_eq_true h] at this
theorem CY{x hi:Int}{w:World}(h: ¬(0<=x/\x<=hi)):Calls Tryz.prog 69 #[.int .i64 x,.int .i64 hi] w fun e w'=>e=.returned (.bool false)/\w=w':=by
 have:=WI x hi w
 rwa [decide_eq_false h] at this
theorem WJ(m:Mm)(k:m.ok)(hw64:W64 m.nums)(w:World):Calls Tryz.prog 25 #[.agg m.ag] w (zD w (aU m)):=by
 have I0:=hid (MB.new w m)
 have HB:=hid ((aA _ w).alloc (al0z _) (.cells m.ag 25))
 have hlt:w.heap.size<(w.alloc (.cells m.ag 25)).heap.size:=az
 obtain⟨W,hW⟩:∃W,W=w.alloc (.cells m.ag 25):=⟨_,rfl⟩
 rw[<-hW] at I0 HB hlt
 have HW:=hid hW
 have HLT:=hid hlt
 clear hW hlt
 have K:=hid k
 have HI8:=hid (fun(xs:List Int) (hx:xs.length=8) (j:Nat) (hj:j<8) (w:World)=>show(Instr.index 22 (.agg (aj xs).toArray) (.int .i64 (j:Nat))).run Tryz.prog w=.ok (.int .i64 (xs.getD j 0)) w from jp Tryz.underlying22 xs hx j hj w)
 have KP:=hid (kJ (some ⟨w.heap.size,8,none⟩) 8 8 W.heap.size m.p W (WH (I0.out.P K.out) HLT.out) k.p ah)
 have KE:=hid (kJ (some ⟨w.heap.size,16,none⟩) 80 80 W.heap.size m.e W (WH (I0.out.E K.out) HLT.out) k.e ah)
 clear k
 go_enter Tryz.func25,Tryz.ntmps25
 go_wp2_with(first
  |(rw[<-HW.out])
  |(refine bI rfl 22 (.tmp 6) rfl _ _ rfl (aj m.r) _ (I0.out.R K.out) Tryz.underlying22 rfl (by rw[aQ,K.out.r];exact yj) ?_))
 go_loop [8] (fun iv=> ∃k:Nat,k<=8/\iv=.int .i64 k/\Hid (allTo okK m.r k)) (fun iv=>8-(intOf iv).toNat)
 case atStart=>exact⟨0,ah,rfl,hid allTo.zero⟩
 case round=>
  obtain⟨k,hk,rfl,HY⟩:=hrel
  by_cases hlt:k<8
  ·exact l33
  obtain rfl:k=8:=ah
  have HR:=hid (show m.r.all okK=true from HY.out.all (by rw[K.out.r];exact al0z _))
  clear HY hlt hk
  have a1:W.cell? ⟨w.heap.size,98,none⟩=some (.int .i64 m.la):=I0.out.cla K.out
  have a2:W.cell? ⟨w.heap.size,100,none⟩=some (.int .i64 m.se):=I0.out.cse K.out
  have a3:W.cell? ⟨w.heap.size,96,none⟩=some (.int .i64 m.ga):=I0.out.cga K.out
  have a4:W.cell? ⟨w.heap.size,97,none⟩=some (.int .i64 m.pi):=I0.out.cpi K.out
  have a5:W.cell? ⟨w.heap.size,99,none⟩=some (.int .i64 m.er):=I0.out.cer K.out
  have wla:=hw64 m.la (by unfold Mm.nums;simp)
  obtain⟨x,hx⟩:∃x,IntKind.i64.wrap (m.la-20)=x:=⟨_,rfl⟩
  have hx':x=(m.la-20+9223372036854775808)%18446744073709551616-9223372036854775808:=by rw[<-hx,oJ]
  have HX:=hid hx'
  clear hx'
  cases g1:aG m.p with
  |false=>
   have KP':=KP.out
   rw[g1] at KP'
   have C1:=hid KP'
   have HF:=hid (show aU m=false from Wy g1)
   clear KP'
   exact l7
  |true=>
  have KP':=KP.out
  rw[g1] at KP'
  have C1:=hid KP'
  have HP:=hid g1
  clear KP' g1
  cases g2:aG m.e with
  |false=>
   have KE':=KE.out
   rw[g2] at KE'
   have C2:=hid KE'
   have HF:=hid (show aU m=false from WC g2)
   clear KE'
   exact l7
  |true=>
  have KE':=KE.out
  rw[g2] at KE'
  have C2:=hid KE'
  have HE:=hid g2
  clear KE' g2
  by_cases gC3:20<=m.la/\m.la<=79
  rotate_left
  ·have C3:=hid (CY (x:=x) (hi:=59) (w:=W) uq)
   have HF:=hid (show aU m=false from yh EK)
   clear gC3
   exact l7
  have C3:=hid (CV (x:=x) (hi:=59) (w:=W) uq)
  have GC3:=hid gC3
  clear gC3
  by_cases gC4:0<=m.se/\m.se<65536
  rotate_left
  ·have C4:=hid (CY (x:=m.se) (hi:=65535) (w:=W) uq)
   have HF:=hid (show aU m=false from yh EK)
   clear gC4
   exact l7
  have C4:=hid (CV (x:=m.se) (hi:=65535) (w:=W) uq)
  have GC4:=hid gC4
  clear gC4
  by_cases gC5:0<=m.ga/\m.ga<=32767
  rotate_left
  ·have C5:=hid (CY (x:=m.ga) (hi:=32767) (w:=W) uq)
   have HF:=hid (show aU m=false from yh EK)
   clear gC5
   exact l7
  have C5:=hid (CV (x:=m.ga) (hi:=32767) (w:=W) uq)
  have GC5:=hid gC5
  clear gC5
  by_cases gC6:0<=m.pi/\m.pi<=18022
  rotate_left
  ·have C6:=hid (CY (x:=m.pi) (hi:=18022) (w:=W) uq)
   have HF:=hid (show aU m=false from yh EK)
   clear gC6
   exact l7
  have C6:=hid (CV (x:=m.pi) (hi:=18022) (w:=W) uq)
  have GC6:=hid gC6
  clear gC6
  by_cases gC7:0<=m.er/\m.er<=6
  rotate_left
  ·have C7:=hid (CY (x:=m.er) (hi:=6) (w:=W) uq)
   have HF:=hid (show aU m=false from yh EK)
   clear gC7
   exact l7
  have C7:=hid (CV (x:=m.er) (hi:=6) (w:=W) uq)
  have GC7:=hid gC7
  clear gC7
  have HF:=hid (show aU m=true from CQ HR.out HP.out HE.out ⟨GC3.out,GC4.out,GC5.out,GC6.out,GC7.out⟩)
  exact l7
def ji(m:Mm):Mm:={m with se:=nzE m.se 40,e:=bH m.e (nzL m.se 8 40)}
def yl(m:Mm):Mm:=if aU m then ji m else bZ
def yt(m:Mm):List Int:=if aU m then nzL m.se 8 40 else[]
theorem PQ{m:Mm}(k:m.ok):(ji m).ok:=⟨k.r,k.p,rP k.e (qJ _ _ _)⟩
def Gp(w:World)(mm:Mm)(ys:List Int)(er:Int)(e:Ending)(w':World):Prop:=∃A c,e=.returned (.tuple #[.agg mm.ag,.slice A ys.length c,.int .i64 er])/\Own w' w.heap.size A c ys/\Below w.heap.size w w'
theorem Own.setCs{base g c:Nat}{A:Option Addr}{xs:List Int}(hg:g<base):∀(vs:List Value) (o:Nat) (w:World),Own w base A c xs->Own (w.setCells g o vs) base A c xs
 |[],_,_,h=>h
 |v::vs,o,_,h=>Own.setCs hg vs (o+1) _ (Own.setC h hg o v)
structure Ms(w wr:World)(m:Mm):Prop where
 A:MB wr w.heap.size m
 R:MB wr (w.heap.size+1) bZ
 bel:Below w.heap.size w wr
theorem Ms.start(w:World)(m:Mm):Ms w ((w.alloc (.cells m.ag 25)).alloc (.cells Tryz.zeroCells25 25)) m:=by
 have h1:=MB.new w m
 have h2:=MB.new (w.alloc (.cells m.ag 25)) bZ
 simp only[bU] at h2
 rw[Gm]
 exact U5
theorem Ms.below{w wr w':World}{m:Mm}(s:Ms w wr m)(hb:Below wr.heap.size wr w'):Ms w w' m:=
 ⟨Blk.below' s.A hb,Blk.below' s.R hb,s.bel.trans (hb.mono s.bel.size)⟩
theorem Ms.lt{w wr:World}{m:Mm}(s:Ms w wr m):w.heap.size+2<=wr.heap.size:=Blk.lt s.R
theorem Ms.se{w wr:World}{m:Mm}(s:Ms w wr m)(k:m.ok)(x:Int):Ms w (wr.setCell ⟨w.heap.size,100,none⟩ (.int .i64 x)) {m with se:=x}:=
 ⟨s.A.set_se k x,Blk.far s.R az _,s.bel.setCell az _⟩
theorem Ms.ex{w wr:World}{m:Mm}(s:Ms w wr m)(k:m.ok)(e:List Int)(he:e.length=80):Ms w (wr.setCells w.heap.size 16 (aj e)) {m with e:=e}:=
 ⟨s.A.set_e k e he,dh ah _ _ _ s.R,iM (al0z _) _ _ _ s.bel⟩
theorem aez(m:Mm)(k:m.ok)(w:World):Calls Tryz.prog 67 #[.agg m.ag] w (Gp w (yl m) (yt m) (aZ (aU m))):=by
 have hR:=Ws (fn:=Tryz.f67) (p:=2) (q:=3) (r:=4) rfl
 have S0:=hid (Ms.start w m)
 have K:=hid k
 have KG:=hid (fun W=>WE m k W)
 have KN:=hid (fun W=>aet m.se 8 40 W ah)
 have NL:=hid (qJ m.se 8 40)
 have KL:=hid (rP k.e (qJ m.se 8 40))
 have FR:=hid (show yl m=if aU m then ji m else bZ from rfl)
 have FY:=hid (show yt m=if aU m then nzL m.se 8 40 else[] from rfl)
 have FM:=hid (show ji m={m with se:=nzE m.se 40,e:=bH m.e (nzL m.se 8 40)} from rfl)
 have KK:=hid (fun W A c (h:Rs W W.heap.size A (nzL m.se 8 40))=>show Calls Tryz.prog 107 #[.agg (aj m.e).toArray,.slice A 40 c] W (Gl W m.e (nzL m.se 8 40) 40) from Wh m.e _ A c 40 W k.e h (qJ _ _ _) ah)
 have hi80:(Tryz.prog.info? 23).map (·.size)=some (aj m.e).length:=Be
 have HI80:=hid hi80
 clear k hi80
 go_enter Tryz.func67,Tryz.ntmps67
 go_wp2_with(refine oU rfl (.tmp 1) rfl _ m rfl S0.out.A K.out ?_)
 refine(KG.out _).mono ?_
 rintro e w1 ⟨rfl,hB⟩
 have S1:=hid (S0.out.below hB)
 clear hB S0 KG
 cases hg:aU m with
 |false=>
  have HG:=hid hg
  clear hg
  have hRow:=hid (MB.setRow S1.out.R bZ)
  have FIN:=hid (aS S1.out.bel (g:=w.heap.size+1) ah bZ.ag)
  go_wp2_with(refine iO rfl (.tmp 2) (.tmp 9) rfl _ bZ bZ rfl (congrArg Value.agg Gm) S1.out.R jF jF ?_)
  exact abW
 |true=>
  have HG:=hid hg
  clear hg
  have cse:=S1.out.A.cse K.out
  go_wp2_with fail
  refine(KN.out _).mono ?_
  rintro e w2 ⟨A2,c2,rfl,hO,hB⟩
  have S2:=hid (S1.out.below hB)
  have LT:=hid S1.out.lt
  have O2:=hid hO
  clear hB hO
  have cse2:=S2.out.A.cse K.out
  have fse2:=MB.frozen S2.out.A 100
  have S3:=hid (S2.out.se K.out (nzE m.se 40))
  have O3:=hid (Own.setC (g:=w.heap.size) O2.out xk 100 (.int .i64 (nzE m.se 40)))
  obtain⟨w3,hw3⟩:∃w3,w3=w2.setCell ⟨w.heap.size,100,none⟩ (.int .i64 (nzE m.se 40)):=⟨_,rfl⟩
  rw[<-hw3] at S3 O3
  have HW3:=hid hw3
  clear hw3 LT
  have K3:=hid (K.out.se (nzE m.se 40))
  go_wp2_with(first
   |(rw[<-HW3.out])
   |(refine bI rfl 23 (.tmp 18) rfl _ _ rfl (aj m.e) _ (S3.out.A.E K3.out) Tryz.underlying23 rfl HI80.out ?_))
  refine(KK.out w3 A2 c2 O3.out.reads).mono ?_
  rintro e w4 ⟨rfl,hB⟩
  have S4:=hid (S3.out.below hB)
  have O4:=hid (O3.out.below hB)
  have LT:=hid S1.out.lt
  clear hB
  have hKE:=hid (show x9 m.e (nzL m.se 8 40) 40=bH m.e (nzL m.se 8 40) from rfl)
  rw[hKE.out]
  have S5:=hid (S4.out.ex K3.out _ KL.out)
  have O5:=hid (Own.setCs (g:=w.heap.size) xk (aj (bH m.e (nzL m.se 8 40))) 16 _ O4.out)
  obtain⟨w5,hw5⟩:∃w5,w5=w4.setCells w.heap.size 16 (aj (bH m.e (nzL m.se 8 40))):=⟨_,rfl⟩
  rw[<-hw5] at S5 O5
  have HW5:=hid hw5
  clear hw5
  have OK5:=hid (show Mm.ok _ from(K3.out.ex KL.out))
  have T5:=hid (show Ms w w5 (ji m) from S5.out)
  have OKS:=hid (PQ K.out)
  have hRow:=hid (MB.setRow T5.out.R (ji m))
  have FIN:=hid (aS T5.out.bel (g:=w.heap.size+1) ah (ji m).ag)
  have OF:=hid ((O5.out.setRow (g:=w.heap.size+1) xk (ji m).ag).more (base':=w.heap.size) xk)
  have SZ:=hid (show(Tryz.prog.info? 23).map (·.size)=some (agi (bH m.e (nzL m.se 8 40))).size from by rw[dV,KL.out];exact kK)
  have TH:=hid (show w4.there w.heap.size 16 (agi (bH m.e (nzL m.se 8 40))).size from by rw[dV,KL.out];exact S4.out.A.thereE K3.out)
  go_wp2_with(first
   |(refine jd rfl 23 (.tmp 24) (.tmp 22) rfl w.heap.size 16 (agi (bH m.e (nzL m.se 8 40))) rfl rfl TH.out SZ.out (gG _) ?_;rw[show(agi (bH m.e (nzL m.se 8 40))).toList=aj (bH m.e (nzL m.se 8 40)) from rfl,<-HW5.out])
   |(refine oU rfl (.tmp 1) rfl _ (ji m) rfl T5.out.A OKS.out ?_)
   |(refine iO rfl (.tmp 2) (.tmp 25) rfl _ bZ (ji m) rfl rfl T5.out.R jF OKS.out ?_))
  exact l97
theorem PR(h:List Int)(lag:Int)(w:World)(hl:h.length=80):Calls Tryz.prog 126 #[.agg (agi h),.int .i64 lag] w (NewSE w (cO h lag) (aZ (mY lag))):=by
 by_cases h1:lag<20\/79<lag
 ·rw[show cO h lag=[] from by unfold cO;rw[Gi h1];rfl,Gi h1]
  have FIN:=hid (NewSE.none_ (er:=2) ((aA _ w).alloc (al0z _) (.cells (agi h) 23)))
  rcases h1 with h1|h1
  ·have d1:decide (lag<20)=true:=qo
   go_enter Tryz.func126,Tryz.ntmps126
   go_wp2
   go_ret2
   exact FIN.out
  have d1:decide (lag<20)=false:=aJ
  have d2:decide (79<lag)=true:=qo
  go_enter Tryz.func126,Tryz.ntmps126
  go_wp2
  go_ret2
  exact FIN.out
 have hb:mY lag=true:=rO ah ah
 have hlen:=xZ (h:=h) hb
 obtain⟨L,rfl⟩:=dP (show 0<=lag from ah)
 have hP:=hid (show cO h (L:Nat)=(List.range 40).map (ku h L) by unfold cO;rw[if_pos hb];rfl)
 rw[hb]
 have hL1:20<=L:=ah
 have hL2:L<=79:=ah
 obtain⟨E,hE⟩:∃E,E=80-L:=⟨_,rfl⟩
 have hEi:(80:Int)-(L:Nat)=(E:Nat):=ah
 have hE2:E+L=80:=ah
 have A0:=hid (IB.new w 23 h)
 have B0:=hid ((aA w.heap.size w).alloc (al0z _) (.cells (agi h) 23))
 have d1:decide ((L:Int)<20)=false:=aJ
 have d2:decide (79<(L:Int))=false:=aJ
 have HL:=hid hl
 have HN:=hid hlen
 have HE:=hid hE
 clear h1 hb hl hlen hE
 go_enter Tryz.func126,Tryz.ntmps126
 go_wp2
 go_loopw[6,7] (fun ov iv wr=> ∃(k:Nat) (A:Option Addr) (c:Nat),k<=40/\iv=.int .i64 k/\ov=.slice A k c/\Hid (Own wr w.heap.size A c ((List.range k).map (ku h L)))/\Hid (∀ad,A=some ad->ad.block≠w.heap.size)/\Hid (IB wr w.heap.size 23 h)/\Hid (Below w.heap.size w wr)) (fun _ iv _=>40-(intOf iv).toNat)
 case atStart=>exact⟨0,none,0,ah,rfl,rfl,hid Own.nil,hid (fun ad h=>qA),A0,B0⟩
 case round=>
  clear A0 B0
  obtain⟨k,A,c,hk,rfl,rfl,HO,HX,HA,HB⟩:=hrel
  by_cases hlt:k<40
  ·have hm:k%L<L:=Nat.mod_lt _ ah
   obtain⟨r,hr⟩:∃r,r=k%L:=⟨_,rfl⟩
   have ci:=HA.out.cell (E+r) nV
   have hEr:E+r<80:=ah
   have hmod:(k:Int)%(L:Nat)=(r:Nat):=by rw[hr];simp
   have hmod2:(k:Int).tmod (L:Nat)=(r:Nat):=by rw[Int.tmod_eq_emod_of_nonneg ah,hmod]
   have hL0: ¬((L:Nat):Int)=0:=ah
   have HV:=hid (show h.getD (E+r) 0=ku h L k by unfold ku;rw[<-hr,<-HE.out])
   generalize h.getD (E+r) 0=x at*
   have HR:=hid hr
   clear hr
   go_wp2_with(at_builtin;refine vP rfl (.tmp 18) (.tmp 27) rfl w.heap.size A c k ((List.range k).map (ku h L)) rfl az (HO.out.alloc _) ⟨wr.heap.size,0,none⟩ x rfl (mW wr _ _) ah (gJ HB.out.size az) ?_;intro A2 c2 w2 hO hG hA;have O2:=hid hO;have G2:=hid hG;have Y2:=hid hA;clear hO hG hA)
   have hlt2:=Blk.lt HA.out
   have N1:=hid (show Own w2 w.heap.size A2 c2 ((List.range (k+1)).map (ku h L)) by rw[<-CP,<-HV.out];exact O2.out)
   have N2:=hid (vS (g:=w.heap.size) Y2.out HX.out aJ)
   have N3:=hid (Blk.grownA (Blk.alloc HA.out _) G2.out HX.out)
   have N4:=hid (uB (HB.out.alloc HB.out.size _) (HO.out.alloc _) G2.out (gJ HB.out.size az))
   go_wp2
   go_roundw
   case rel=>exact⟨k+1,A2,c2,ah,aO,rfl,N1,N2,N3,N4⟩
   case measure=>simp[intOf]<;>omega
  obtain rfl:k=40:=ah
  go_wp2
  go_ret2
  exact⟨_,_,by rw[HN.out];rfl,by rw[hP.out];exact HO.out,HB.out⟩
def mxV(p g b:Int):Int:=s16 ((s16 p*g+8192)/16384+s16 b)
def mxB(lag g:Int):Bool:=mY lag&&decide (0<=g/\g<=32767)
def mxE(h x:List Int)(lag g:Int)(i:Nat):Int:=mxV ((cO h lag).getD i 0) g (x.getD i 0)
def mxL(h x:List Int)(lag g:Int)(n:Nat):List Int:=if n=40/\mxB lag g=true then(List.range 40).map (mxE h x lag g) else[]
def mxR(lag g:Int)(n:Nat):Int:=if n=40 then aZ (mxB lag g) else 1
theorem WM{h x:List Int}{lag g:Int}{n:Nat}(hn:n≠40):mxL h x lag g n=[]/\mxR lag g n=1:=⟨if_neg (fun h=>hn h.1),if_neg hn⟩
theorem PV{h x:List Int}{lag g:Int}(hb:mxB lag g=false):mxL h x lag g 40=[]/\mxR lag g 40=2:=⟨if_neg (fun h=>by rw[hb] at h;exact absurd h.2 az),by unfold mxR;rw[if_pos rfl,hb];rfl⟩
theorem PW{h x:List Int}{lag g:Int}(hb:mxB lag g=true):mxL h x lag g 40=(List.range 40).map (mxE h x lag g)/\mxR lag g 40=0:=⟨if_pos ⟨rfl,hb⟩,by unfold mxR;rw[if_pos rfl,hb];rfl⟩
theorem aeA(h x:List Int)(lag g:Int)(n:Nat):aG (mxL h x lag g n)=true:=by
 unfold mxL
 split
 ·unfold aG
  rw[kF]
  intro y hy
  obtain⟨i,_,rfl⟩:=List.mem_map.1 hy
  have:=lJ ((s16 ((cO h lag).getD i 0)*g+8192)/16384+s16 (x.getD i 0))
  exact qI this.1 this.2
 rfl
theorem WO{a g:Int}(h1: -32768<=a)(h2:a<=32767)(h3:0<=g)(h4:g<=32767): -1073741824<=a*g/\a*g<=1073741824:=by
 have:=ja (x:=a) (X:=32768) (y:=g) (Y:=32768) ah ah ⟨ah,ah⟩ ⟨ah,ah⟩
 omega
theorem aeB(h x:List Int)(lag g:Int)(A:Option Addr)(c n:Nat)(w:World)(hh:h.length=80)(hr:Rs w w.heap.size A x)(hn:x.length=n)(hl:n<=17592186044416):
 Calls Tryz.prog 106 #[.agg (agi h),.int .i64 lag,.int .i64 g,.slice A n c] w (NewSE w (mxL h x lag g n) (mxR lag g n)):=by
 have A0:=hid (IB.new w 23 h)
 have B0:=hid ((aA w.heap.size w).alloc (al0z _) (.cells (agi h) 23))
 have HH:=hid hh
 have HR:=hid hr
 have HN:=hid hn
 by_cases h40:n=40
 ·subst h40
  have KP:=hid (fun W=>PH h lag W hh)
  clear hr hn hh
  cases hb:mY lag with
  |false=>
   obtain⟨e1,e2⟩:=PV (h:=h) (x:=x) (lag:=lag) (g:=g) (by unfold mxB;rw[hb];rfl)
   rw[e1,e2]
   have hp:cO h lag=[]:=by unfold cO;rw[hb];rfl
   rw[hp,hb] at KP
   clear e1 e2 hp hb
   exact l39
  |true=>
   have hlen:=xZ (h:=h) hb
   by_cases hg:0<=g/\g<=32767
   ·obtain⟨g1,g2⟩:=hg
    obtain⟨e1,e2⟩:=PW (h:=h) (x:=x) (lag:=lag) (g:=g) UM
    have E1:=hid e1
    rw[e2]
    rw[hb] at KP
    have HPL:=hid hlen
    have HE:=hid (fun i=>show mxE h x lag g i=mxV ((cO h lag).getD i 0) g (x.getD i 0) from rfl)
    generalize cO h lag=P at*
    clear e1 e2 hb hlen
    go_enter Tryz.func106,Tryz.ntmps106
    go_wp2_with(refine aK rfl 23 (.tmp 4) rfl _ 23 h 80 _ rfl A0.out Tryz.underlying23 rfl kK HH.out ?_)
    refine(KP.out _).mono ?_
    rintro e w1 ⟨A1,c1,rfl,hO,hB⟩
    have L1:=hid (B0.out.trans (hB.mono B0.out.size))
    obtain⟨gv,rfl,gv1,gv2⟩:=hO.head (by rw[HPL.out];omega)
    have O1:=hid (hO.more (base':=w.heap.size) az)
    have hgv:w.heap.size<=gv:=by simp at gv1;omega
    rw[HPL.out]
    clear hO hB gv1 gv2
    go_wp2
    go_loopw[34] (fun iv wr=> ∃(k:Nat) (ys:List Int),k<=40/\iv=.int .i64 k/\Hid (ys.length=40/\(∀j,j<k->ys.getD j 0=mxE h x lag g j)/\∀j,k<=j->ys.getD j 0=P.getD j 0)/\Hid (Own wr w.heap.size (some ⟨gv,0,none⟩) c1 ys)/\Hid (Below w.heap.size w wr)) (fun iv _=>40-(intOf iv).toNat)
    case atStart=>exact⟨0,P,ah,rfl,hid ⟨HPL.out,fun j h=>ah,fun j h=>rfl⟩,O1,L1⟩
    case round=>
     clear O1 L1
     obtain⟨k,ys,hk,rfl,HY,HO,HB⟩:=hrel
     by_cases hlt:k<40
     ·obtain⟨ad,rfl,_,cb⟩:=(HR.out.below HB.out).at_ (k:=k) iE
      have cp:=HO.out.cell k rG
      rw[HY.out.2.2 k (al0z _)] at cp
      have fp:=HO.out.frozen k
      have NO:=hid (fun v=>HO.out.set_ k rG v)
      have NB:=hid (fun v=>HB.out.setCell (p:=⟨gv,k,none⟩) hgv v)
      have NEXT:=hid (fun(v:Int) (hv:v=mxE h x lag g k)=>show Hid ((ys.set k v).length=40/\(∀j,j<k+1->(ys.set k v).getD j 0=mxE h x lag g j)/\∀j,k+1<=j->(ys.set k v).getD j 0=P.getD j 0) from by
       obtain⟨q1,q2,q3⟩:=HY.out
       refine⟨xu,fun j hj=>?_,fun j hj=>?_⟩
       ·by_cases he:k=j
        ·subst he
         rw[gQ _ _ _ ah,hv]
        ·rw[iw _ _ he]
         exact q2 j ah
       ·rw[iw _ _ ah]
        exact q3 j ah)
      have hk40:(k:Int)<40:=ah
      have HV:=HE.out k
      obtain⟨p,hp⟩:∃p,p=P.getD k 0:=⟨_,rfl⟩
      obtain⟨b,hb⟩:∃b,b=x.getD k 0:=⟨_,rfl⟩
      rw[<-hp] at cp HV
      rw[<-hb] at cb HV
      unfold mxV at HV
      have KA:=hid (fun W=>xX p W)
      have KB:=hid (fun W=>xX b W)
      have ra:=lJ p
      have rb:=lJ b
      generalize s16 p=sa at KA HV ra
      generalize s16 b=sb at KB HV rb
      have hq:=WO ra.1 ra.2 g1 g2
      obtain⟨q,hqe⟩:∃q,sa*g=q:=⟨_,rfl⟩
      rw[hqe] at hq HV
      have hw1:IntKind.i64.wrap (sa*g)=q:=by rw[hqe,oJ];omega
      have hw2:IntKind.i64.wrap (q+8192)=q+8192:=aN
      obtain⟨t,ht⟩:∃t,t=(q+8192)/16384+sb:=⟨_,rfl⟩
      have hw3:IntKind.i64.wrap ((q+8192)/16384+sb)=t:=by rw[ht,oJ];omega
      rw[<-ht] at HV
      have KT:=hid (fun W=>xX t W)
      obtain⟨y,hy⟩:∃y,y=s16 t:=⟨_,rfl⟩
      rw[<-hy] at KT HV
      have NX:=NEXT.out y HV.symm
      have NO2:=hid (NO.out y)
      have NB2:=hid (NB.out (.int .i64 y))
      clear hp hb ra rb hq hqe ht hy HV NEXT NO NB
      go_wp2_with(first
       |(go_at_call 61;(with_reducible refine(KA.out _).mono ?_);rintro e w' ⟨rfl,rfl⟩)
       |(go_at_call 61;(with_reducible refine(KB.out _).mono ?_);rintro e w' ⟨rfl,rfl⟩)
       |(go_at_call 61;(with_reducible refine(KT.out _).mono ?_);rintro e w' ⟨rfl,rfl⟩))
      go_roundw
      case rel=>exact⟨k+1,_,ah,aO,NX,NO2,NB2⟩
      case measure=>simp[intOf]<;>omega
     obtain rfl:k=40:=ah
     have HF:ys=(List.range 40).map (mxE h x lag g):=bV (by rw[HY.out.1];simp) (fun k hk=>by rw[HY.out.1] at hk;rw[HY.out.2.1 k hk,aT _ hk])
     have HF:=hid HF
     go_wp2
     go_ret2
     rw[E1.out,<-HF.out]
     exact⟨_,_,by rw[HY.out.1];rfl,HO.out,HB.out⟩
   obtain⟨e1,e2⟩:=PV (h:=h) (x:=x) (lag:=lag) (g:=g) UM
   rw[e1,e2]
   rw[hb] at KP
   have HPL:=hid hlen
   generalize cO h lag=P at*
   clear e1 e2 hb hlen
   rcases Int.lt_or_le g 0 with hg1|hg1
   ·exact l39
   have hg2:32767<g:=ah
   have hg3: ¬g<0:=ah
   exact l39
 ·obtain⟨e1,e2⟩:=WM (h:=h) (x:=x) (lag:=lag) (g:=g) h40
  rw[e1,e2]
  have d1:((n:Int)==40)=false:=aJ
  have d2:((n:Int) !=40)=true:=aJ
  have FIN:=hid (NewSE.none_ (er:=1) B0.out)
  clear h40 e1 e2
  go_enter Tryz.func106,Tryz.ntmps106
  go_wp2
  go_ret2
  exact FIN.out
end Go.Proofs.YthoiikkjjaldnaaGreatDoor
