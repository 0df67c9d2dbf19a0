/- Lemmas. -/
import Derived.Test.YtaahbkbnfpajdaaGreatDoorZef08
namespace Go.Proofs.YtaahbkbnfpajdaaGreatDoor
set_option linter.all false
set_option maxRecDepth 100000
set_option maxHeartbeats 8000000
open Go.RowKit
variable{m:Mm}
def fB(m:Mm):Int:=dO m.ga m.er/4
def jP(m:Mm):Lz:=mxL m.e (nzL m.se (fB m) 40) m.la (dO m.pi m.er) 40
def iq(m:Mm):Mm:={m with se:=nzE m.se 40,e:=bi m.e (jP m)}
def er1(m:Mm)(a:Int):Int:=if a=0/\m.er<6 then m.er+1 else m.er
def nM(m:Mm)(a:Int):Mm:={m with er:=er1 m a}
def ku(m:Mm)(a:Int):Bool:=aO m&&decide (0<=a/\a<=1)
def jQ(m:Mm)(a:Int):Mm:=if ku m a then iq (nM m a) else aZ
def lg(m:Mm)(a:Int):Lz:=if ku m a then jP (nM m a) else[]
theorem IC(h:20<=m.la/\m.la<=79):mxB m.la (dO m.pi m.er)=true:=by
 unfold mxB;have:=Dp m.pi m.er;rw[sQ h.1 h.2];simp[this.1,this.2]
theorem sZ(h:20<=m.la/\m.la<=79):(jP m).length=40:=by
 unfold jP;rw[(yD (IC h)).1];simp
theorem ak2(k:m.ok)(h:20<=m.la/\m.la<=79):(iq m).ok:=⟨k.r,k.p,pG k.e (sZ h)⟩
theorem Xe(k:m.ok)(a:Int):(nM m a).ok:=⟨k.r,k.p,k.e⟩
theorem acH{a:Int}(h:ku m a=true):aO m=true/\0<=a/\a<=1:=by
 unfold ku at h;simpa using h
theorem IE(k:m.ok)(a:Int):(jQ m a).ok:=by
 unfold jQ;split
 ·next h=>exact ak2 (Xe k a) (jr (acH h).1).2.2.2.1
 exact df
theorem Xf(m:Mm)(a:Int):(lg m a).length<=40:=by
 unfold lg;split
 ·next h=>exact Nat.le_of_eq (sZ (jr (acH h).1).2.2.2.1)
 simp
theorem ak3(m:Mm)(k:m.ok)(half:Int)(w:Wd):Cl 38 #[.agg m.ag,.int .i64 half] w (NewM w (jQ m half) (lg m half) (bz (ku m half))):=by
 have hR:=yC (fn:=Tryz.f38) (p:=4) (q:=5) (r:=6) rfl;have S0:=af (Ms.start w m);have K:=af k;have KG:=af (fun W=>Iu m k W);clear k;go_enter Tryz.func38,Tryz.ntmps38;go_wp2_with(refine iK rfl (.tmp 2) rfl _ m rfl S0.o.A K.o ?_);refine(KG.o _).mono ?_;rintro e w1 ⟨rfl,hB⟩;have S1:=af (S0.o.below hB);clear hB S0 KG;cases G:aO m with
 |false=>
  have HE:=af (show ku m half=false by unfold ku;rw[G];rfl);exact abj
 |true=>
 by_cases R:half<0
 ·have HE:=aj (ku m half=false) (UG)
  exact abj
 by_cases h2:2<=half
 ·have HE:=aj (ku m half=false) (UG)
  exact abj
 have HE:=af (show ku m half=true by unfold ku;rw[G];simp;omega);have HT:=af (jr G).2.2.2;have Y:=aj (jQ m half=iq (nM m half)) (Us);have B:=aj (lg m half=jP (nM m half)) (Ut);clear G;have key:(half=0/\m.er<6)\/(half=0/\m.er=6)\/half=1:=by
  have:=HT.o.2.2.2.2;omega
 have a5:w1.cell? ⟨w.heap.size,99,none⟩=some (.int .i64 m.er):=S1.o.A.cer K.o;have f5:w1.frozen? ⟨w.heap.size,99,none⟩=false:=MB.frozen S1.o.A 99;have hM:∃J:Mm,J=nM m half:=⟨_,rfl⟩;obtain⟨J,d⟩:=hM;rw[<-d] at Y B;have K2:=af (show J.ok by rw[d];exact Xe K.o half);have t:=af (show 20<=J.la/\J.la<=79 by rw[d];exact HT.o.1);rcases key with⟨rfl,h6⟩|⟨rfl,h6⟩|rfl
 ·have hw1:IntKind.i64.wrap (m.er+1)=m.er+1:=by have:=HT.o.2.2.2.2;rw[mM];omega
  have h7:m.er+1<=6:=ah;have n:=af (show Ms w (w1.setCell ⟨w.heap.size,99,none⟩ (.int .i64 (m.er+1))) J by
   have:=S1.o.er K.o (m.er+1);rw[d];unfold nM er1;rw[if_pos ⟨rfl,h6⟩];exact this)
  clear d R h2;go_wp2_with fail;obtain⟨N,E⟩:=ak (w1.setCell ⟨w.heap.size,99,none⟩ (.int .i64 (m.er+1)));rw[<-E] at n|-;clear E a5 f5 hw1 h6 h7;have C:N.cell? ⟨w.heap.size,96,none⟩=some (.int .i64 J.ga):=n.o.A.cga K2.o;have b:N.cell? ⟨w.heap.size,99,none⟩=some (.int .i64 J.er):=n.o.A.cer K2.o;have L:N.cell? ⟨w.heap.size,100,none⟩=some (.int .i64 J.se):=n.o.A.cse K2.o;have KN:=af (fun W=>show Cl 89 #[.int .i64 J.se,.int .i64 (fB J),.int .i64 40] W (NzA W J.se (fB J) 40) from NV J.se (fB J) 40 W ah);have KM:=af (fun W A c (hr:Rs W W.heap.size A (nzL J.se (fB J) 40))=>show Cl 80 #[.agg (au J.e).toArray,.int .i64 J.la,.int .i64 (dO J.pi J.er),.slice A 40 c] W (fun e w'=> ∃A c,e=.returned (.tuple #[.slice A 40 c,.int .i64 0])/\Own w' W.heap.size A c (jP J)/\Bw W w') from by
   refine(Ob J.e _ J.la (dO J.pi J.er) A c 40 W K2.o.e hr (oM _ _ _) ah).mono ?_;rintro e w' ⟨A',c',R,h2,h3⟩;rw[(yD (h:=J.e) (x:=nzL J.se (fB J) 40) (IC t.o)).2] at R;have hl:=sZ t.o;unfold jP at hl;rw[hl] at R;exact⟨A',c',R,h2,h3⟩)
  have XL:=af (sZ t.o);have EN:=aj (iq J={J with se:=nzE J.se 40,e:=bi J.e (jP J)}) (rfl);have P:=fun W=>Dq J.ga J.er W;have Q:=fun W=>Dq J.pi J.er W;have fb:=Dp J.ga J.er;have hwz:IntKind.i64.wrap (fB J)=fB J:=Ua;have hq:(dO J.ga J.er).tdiv 4=fB J:=TP;generalize jP J=x at*
  generalize fB J=z at*
  generalize dO J.ga J.er=f at*
  generalize dO J.pi J.er=f2 at*
  have KF:=af P;have KG:=af Q;clear P Q fb;refine aai ?_;refine aaj (S:=fun w'=>w'.cell? ⟨w.heap.size,96,none⟩=some (.int .i64 J.ga)/\w'.cell? ⟨w.heap.size,99,none⟩=some (.int .i64 J.er)) aB ⟨C,b⟩ (fun hHeld=>?_);refine aI 0 ?_ rfl (iW ⟨az,?_⟩) hHeld ?_;rotate_left
  ·exact o7
  try simp only[bG,bI,bH,Act.put,bg,bD,bF]
  refine aI 2 ?_ rfl (iW ⟨az,?_⟩) hHeld ?_;rotate_left
  ·exact o7
  try simp only[bG,bI,bH,Act.put,bg,bD,bF]
  refine aI 3 ?_ rfl (iW ⟨az,?_⟩) hHeld ?_;rotate_left
  ·exact o7
  try simp only[bG,bI,bH,Act.put,bg,bD,bF]
  refine aI 4 ?_ rfl (iW ⟨az,?_⟩) hHeld ?_;rotate_left
  ·exact o7
  try simp only[bG,bI,bH,Act.put,bg,bD,bF]
  refine aI 5 ?_ rfl (iW ⟨az,?_⟩) hHeld ?_;rotate_left
  ·exact o7
  try simp only[bG,bI,bH,Act.put,bg,bD,bF]
  refine di (rs:=[1,6]) aB ay ?_;refine bU rfl (fun K hK=>?_) (bU rfl (fun K hK=>?_) dA)
  ·exact abd
  exact abe
 ·have h6':=af h6
  have a6:w1.cell? ⟨w.heap.size,99,none⟩=some (.int .i64 6):=by rw[a5,h6]
  have n:=af (show Ms w (w1.setCell ⟨w.heap.size,99,none⟩ (.int .i64 6)) J by
   have:=S1.o.er K.o 6;rw[d];unfold nM er1;rw[if_neg ah,h6];exact this)
  clear d R h2 h6 a5;go_wp2_with fail;obtain⟨N,E⟩:=ak (w1.setCell ⟨w.heap.size,99,none⟩ (.int .i64 6));rw[<-E] at n|-;clear E a6 f5 h6';have C:N.cell? ⟨w.heap.size,96,none⟩=some (.int .i64 J.ga):=n.o.A.cga K2.o;have b:N.cell? ⟨w.heap.size,99,none⟩=some (.int .i64 J.er):=n.o.A.cer K2.o;have L:N.cell? ⟨w.heap.size,100,none⟩=some (.int .i64 J.se):=n.o.A.cse K2.o;have KN:=af (fun W=>show Cl 89 #[.int .i64 J.se,.int .i64 (fB J),.int .i64 40] W (NzA W J.se (fB J) 40) from NV J.se (fB J) 40 W ah);have KM:=af (fun W A c (hr:Rs W W.heap.size A (nzL J.se (fB J) 40))=>show Cl 80 #[.agg (au J.e).toArray,.int .i64 J.la,.int .i64 (dO J.pi J.er),.slice A 40 c] W (fun e w'=> ∃A c,e=.returned (.tuple #[.slice A 40 c,.int .i64 0])/\Own w' W.heap.size A c (jP J)/\Bw W w') from by
   refine(Ob J.e _ J.la (dO J.pi J.er) A c 40 W K2.o.e hr (oM _ _ _) ah).mono ?_;rintro e w' ⟨A',c',R,h2,h3⟩;rw[(yD (h:=J.e) (x:=nzL J.se (fB J) 40) (IC t.o)).2] at R;have hl:=sZ t.o;unfold jP at hl;rw[hl] at R;exact⟨A',c',R,h2,h3⟩)
  have XL:=af (sZ t.o);have EN:=aj (iq J={J with se:=nzE J.se 40,e:=bi J.e (jP J)}) (rfl);have P:=fun W=>Dq J.ga J.er W;have Q:=fun W=>Dq J.pi J.er W;have fb:=Dp J.ga J.er;have hwz:IntKind.i64.wrap (fB J)=fB J:=Ua;have hq:(dO J.ga J.er).tdiv 4=fB J:=TP;generalize jP J=x at*
  generalize fB J=z at*
  generalize dO J.ga J.er=f at*
  generalize dO J.pi J.er=f2 at*
  have KF:=af P;have KG:=af Q;clear P Q fb;refine aai ?_;refine aaj (S:=fun w'=>w'.cell? ⟨w.heap.size,96,none⟩=some (.int .i64 J.ga)/\w'.cell? ⟨w.heap.size,99,none⟩=some (.int .i64 J.er)) aB ⟨C,b⟩ (fun hHeld=>?_);refine aI 0 ?_ rfl (iW ⟨az,?_⟩) hHeld ?_;rotate_left
  ·exact o7
  try simp only[bG,bI,bH,Act.put,bg,bD,bF]
  refine aI 2 ?_ rfl (iW ⟨az,?_⟩) hHeld ?_;rotate_left
  ·exact o7
  try simp only[bG,bI,bH,Act.put,bg,bD,bF]
  refine aI 3 ?_ rfl (iW ⟨az,?_⟩) hHeld ?_;rotate_left
  ·exact o7
  try simp only[bG,bI,bH,Act.put,bg,bD,bF]
  refine aI 4 ?_ rfl (iW ⟨az,?_⟩) hHeld ?_;rotate_left
  ·exact o7
  try simp only[bG,bI,bH,Act.put,bg,bD,bF]
  refine aI 5 ?_ rfl (iW ⟨az,?_⟩) hHeld ?_;rotate_left
  ·exact o7
  try simp only[bG,bI,bH,Act.put,bg,bD,bF]
  refine di (rs:=[1,6]) aB ay ?_;refine bU rfl (fun K hK=>?_) (bU rfl (fun K hK=>?_) dA)
  ·exact abd
  exact abe
 have n:=af (show Ms w w1 J by
  rw[d];unfold nM er1;rw[if_neg ah];exact S1.o)
 clear d R h2 a5 f5;go_wp2_with fail;obtain⟨N,E⟩:=ak (w1);rw[<-E] at n|-;clear E;have C:N.cell? ⟨w.heap.size,96,none⟩=some (.int .i64 J.ga):=n.o.A.cga K2.o;have b:N.cell? ⟨w.heap.size,99,none⟩=some (.int .i64 J.er):=n.o.A.cer K2.o;have L:N.cell? ⟨w.heap.size,100,none⟩=some (.int .i64 J.se):=n.o.A.cse K2.o;have KN:=af (fun W=>show Cl 89 #[.int .i64 J.se,.int .i64 (fB J),.int .i64 40] W (NzA W J.se (fB J) 40) from NV J.se (fB J) 40 W ah);have KM:=af (fun W A c (hr:Rs W W.heap.size A (nzL J.se (fB J) 40))=>show Cl 80 #[.agg (au J.e).toArray,.int .i64 J.la,.int .i64 (dO J.pi J.er),.slice A 40 c] W (fun e w'=> ∃A c,e=.returned (.tuple #[.slice A 40 c,.int .i64 0])/\Own w' W.heap.size A c (jP J)/\Bw W w') from by
  refine(Ob J.e _ J.la (dO J.pi J.er) A c 40 W K2.o.e hr (oM _ _ _) ah).mono ?_;rintro e w' ⟨A',c',R,h2,h3⟩;rw[(yD (h:=J.e) (x:=nzL J.se (fB J) 40) (IC t.o)).2] at R;have hl:=sZ t.o;unfold jP at hl;rw[hl] at R;exact⟨A',c',R,h2,h3⟩)
 have XL:=af (sZ t.o);have EN:=aj (iq J={J with se:=nzE J.se 40,e:=bi J.e (jP J)}) (rfl);have P:=fun W=>Dq J.ga J.er W;have Q:=fun W=>Dq J.pi J.er W;have fb:=Dp J.ga J.er;have hwz:IntKind.i64.wrap (fB J)=fB J:=Ua;have hq:(dO J.ga J.er).tdiv 4=fB J:=TP;generalize jP J=x at*
 generalize fB J=z at*
 generalize dO J.ga J.er=f at*
 generalize dO J.pi J.er=f2 at*
 have KF:=af P;have KG:=af Q;clear P Q fb;refine aai ?_;refine aaj (S:=fun w'=>w'.cell? ⟨w.heap.size,96,none⟩=some (.int .i64 J.ga)/\w'.cell? ⟨w.heap.size,99,none⟩=some (.int .i64 J.er)) aB ⟨C,b⟩ (fun hHeld=>?_);refine aI 0 ?_ rfl (iW ⟨az,?_⟩) hHeld ?_;rotate_left
 ·exact o7
 try simp only[bG,bI,bH,Act.put,bg,bD,bF]
 refine aI 2 ?_ rfl (iW ⟨az,?_⟩) hHeld ?_;rotate_left
 ·exact o7
 try simp only[bG,bI,bH,Act.put,bg,bD,bF]
 refine aI 3 ?_ rfl (iW ⟨az,?_⟩) hHeld ?_;rotate_left
 ·exact o7
 try simp only[bG,bI,bH,Act.put,bg,bD,bF]
 refine aI 4 ?_ rfl (iW ⟨az,?_⟩) hHeld ?_;rotate_left
 ·exact o7
 try simp only[bG,bI,bH,Act.put,bg,bD,bF]
 refine aI 5 ?_ rfl (iW ⟨az,?_⟩) hHeld ?_;rotate_left
 ·exact o7
 try simp only[bG,bI,bH,Act.put,bg,bD,bF]
 refine di (rs:=[1,6]) aB ay ?_;refine bU rfl (fun K hK=>?_) (bU rfl (fun K hK=>?_) dA)
 ·exact abd
 exact abe
