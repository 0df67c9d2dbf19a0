/- Texts that the law rests on. -/
import Derived.Test.YthoiikkjjaldnaaGreatDoorZ1e06
import Derived.Test.YthoiikkjjaldnaaGreatDoorZ1e07
namespace Go.Proofs.YthoiikkjjaldnaaGreatDoor
set_option linter.unusedVariables false
set_option linter.unusedSimpArgs false
set_option maxRecDepth 100000
set_option maxHeartbeats 8000000
open Go.RowKit
theorem afC(w:World)(c d:Nat)(x y:Int)(hc:IntAt w c x)(hd:IntAt w d y)(sx:Sm x.natAbs)(sy:Sm y.natAbs):
 Calls Tryz.prog 174 #[.pointer (some ⟨c,0,none⟩),.pointer (some ⟨d,0,none⟩)] w fun e w'=>e=.returned (.int .i64 (fU x.natAbs y.natAbs))/\∃n,w'=w.drewN n:=by
 obtain⟨vx,h0,h1,hvx⟩:=hc.cells
 obtain⟨vy,k0,k1,hvy⟩:=hd.cells
 have K0:=hid (fun n=>zu (w.drewN n) vx vy _ _ (hvx.below (iJ w n) (al0z _)) (hvy.below (iJ w n) (al0z _)) sx sy)
 have hr:=VG x.natAbs y.natAbs
 clear hvx hvy hc hd sx sy
 go_enter Tryz.func174,Tryz.ntmps174
 go_wp2
 go_quiet ((go_at_call 152;exact Calls.quiet_of (K0.out _)))
 go_wp2
 go_ret
 exact⟨rfl,_,rfl⟩
def qD(i k:Int)(n:Nat):Int:=if lvV i n-k<0 then-(lvV i n-k) else lvV i n-k
def qB(i k:Int):Nat->Int×Int
 |0=>(0,1048576)
 |n+1=>if qD i k n<(qB i k n).2 then((n:Int),qD i k n) else qB i k n
def cG(i k:Int):Int:=if bJ i=0 then 4 else if k< -32768\/32768<k then 2 else 0
def qV(i k:Int):Int:=if cG i k=0 then(qB i k (lvM i).toNat).1 else 0
theorem XG(m:Int)(hm:m=8\/m=16\/m=32\/m=64)(n:Int)(h1:0<=n)(h2:n<m)(h3:m<=2*n): -31000<=bF m n/\bF m n<=31000:=by
 obtain⟨k,rfl⟩:=dP h1
 rcases hm with rfl|rfl|rfl|rfl
 ·exact(show∀k:Nat,k<8->8<=2*k-> -31000<=bF 8 (k:Nat)/\bF 8 (k:Nat)<=31000 from uy) k ah ah
 ·exact(show∀k:Nat,k<16->16<=2*k-> -31000<=bF 16 (k:Nat)/\bF 16 (k:Nat)<=31000 from uy) k ah ah
 ·exact(show∀k:Nat,k<32->32<=2*k-> -31000<=bF 32 (k:Nat)/\bF 32 (k:Nat)<=31000 from uy) k ah ah
 exact(show∀k:Nat,k<64->64<=2*k-> -31000<=bF 64 (k:Nat)/\bF 64 (k:Nat)<=31000 from uy) k ah ah
theorem afD{i:Int}(h:bJ i≠0):lvM i=8\/lvM i=16\/lvM i=32\/lvM i=64:=by
 unfold lvM
 rcases zJ i with⟨e,_⟩|⟨e,_⟩|⟨e,_⟩|⟨e,_⟩|⟨e,_⟩
 ·exact absurd e h
 all_goals rw[e];decide
theorem ou(i n:Int): -31000<=lvV i n/\lvV i n<=31000:=by
 unfold lvV
 split
 ·rename_i h0
  unfold bh at h0
  split at h0
  ·omega
  rename_i hw
  split at h0
  ·omega
  have hm:=afD hw
  split
  ·have:=XG (lvM i) hm (lvM i-1-n) ah ah ah
   omega
  exact XG (lvM i) hm n ah ah ah
 omega
theorem XH{i k:Int}(h1: -32768<=k)(h2:k<=32768)(n:Nat):0<=qD i k n/\qD i k n<=63768:=by
 have:=ou i n
 unfold qD
 split<;>omega
theorem Ia{i k:Int}(h1: -32768<=k)(h2:k<=32768)(n:Nat):(0<=(qB i k n).1/\(qB i k n).1<=n)/\0<=(qB i k n).2/\(qB i k n).2<=1048576:=by
 induction n with
 |zero=>simp[qB]
 |succ n ih=>
  have:=XH (i:=i) h1 h2 n
  unfold qB
  split
  ·simp only;omega
  omega
theorem Dq{i k:Int}(h1: -32768<=k)(h2:k<=32768)(n:Nat):∃b:Nat,(qB i k (n+1)).1=b/\b<=n/\(qB i k (n+1)).2=qD i k b:=by
 induction n with
 |zero=>
  have:=XH (i:=i) h1 h2 0
  have h:qD i k 0<(qB i k 0).2:=by show qD i k 0<1048576;omega
  refine⟨0,?_,ah,?_⟩
  ·rw[qB,if_pos h]
  rw[qB,if_pos h]
 |succ n ih=>
  obtain⟨b,e1,e2,e3⟩:=ih
  rw[qB]
  split
  ·exact⟨n+1,rfl,ah,rfl⟩
  exact⟨b,e1,ah,e3⟩
theorem vX{i k:Int}(n:Nat):qB i k (n+1)=if qD i k n<(qB i k n).2 then((n:Int),qD i k n) else qB i k n:=rfl
def o7(i k:Int)(w:World)(e:Ending)(w':World):Prop:=e=.returned (.tuple #[.int .i64 (qV i k),.int .i64 (cG i k)])/\w=w'
def o8(i k:Int)(w:World)(e:Ending)(w':World):Prop:=e=.returned (.tuple #[.int .i64 (qV i k),.int .i64 (cG i k)])/\Below w.heap.size w w'
theorem afE(i k:Int)(w:World)(hw:bJ i=6)(k1: -32768<=k)(k2:k<=32768)(KW:Calls Tryz.prog 143 #[.int .i64 i] w fun e w'=>e=.returned (.int .i64 (6))/\w=w')(KL:∀n,Calls Tryz.prog 87 #[.int .i64 i,.int .i64 n] w (bG i n w)):
 Calls Tryz.prog 86 #[.int .i64 i,.int .i64 k] w (o7 i k w):=by
 have hM:lvM i=64:=jP
 have hE:cG i k=0:=xA
 have FIN:=hid (show o7 i k w (.returned (.tuple #[.int .i64 (qB i k 64).1,.int .i64 0])) w from⟨wZ,rfl⟩)
 have KW':=hid KW
 have KL':=hid KL
 have l1: ¬k< -32768:=ah
 have l2: ¬32768<k:=ah
 clear hw hM hE KW KL
 go_enter Tryz.func86,Tryz.ntmps86
 go_wp2_with(go_at_call 143;(with_reducible refine KW'.out.mono ?_);rintro e w' ⟨rfl,rfl⟩)
 go_loop [7,8,26] (fun bv dv iv=> ∃(n:Nat),n<=64/\iv=.int .i64 n/\bv=.int .i64 (qB i k n).1/\dv=.int .i64 (qB i k n).2) (fun _ _ iv=>64-(intOf iv).toNat)
 case atStart=>exact⟨0,ah,rfl,rfl,rfl⟩
 case round=>
  obtain⟨n,hn,rfl,rfl,rfl⟩:=hrel
  by_cases hlt:n<64
  ·have KK:=KL'.out (n:Nat)
   unfold bG at KK
   have KK':=hid KK
   have rg:=ou i n
   have qr:=Ia (i:=i) k1 k2 n
   have HS:=hid (vX (i:=i) (k:=k) n)
   unfold qD at HS
   obtain⟨b,hb⟩:∃b,b=(qB i k n).1:=⟨_,rfl⟩
   obtain⟨d,hd⟩:∃d,d=(qB i k n).2:=⟨_,rfl⟩
   rw[<-hb,<-hd] at qr
   rw[<-hd] at HS
   have HB1:=hid hb
   have HB2:=hid hd
   rw[<-hb,<-hd]
   clear hb hd
   generalize lvV i (n:Nat)=v at*
   generalize bh i (n:Nat)=er at*
   have i1:(n:Int)<64:=ah
   exact l5
  obtain rfl:n=64:=ah
  go_wp2
  go_ret2
  exact FIN.out
theorem afF(i k:Int)(w:World)(hw:bJ i=5)(k1: -32768<=k)(k2:k<=32768)(KW:Calls Tryz.prog 143 #[.int .i64 i] w fun e w'=>e=.returned (.int .i64 (5))/\w=w')(KL:∀n,Calls Tryz.prog 87 #[.int .i64 i,.int .i64 n] w (bG i n w)):
 Calls Tryz.prog 86 #[.int .i64 i,.int .i64 k] w (o7 i k w):=by
 have hM:lvM i=32:=jP
 have hE:cG i k=0:=xA
 have FIN:=hid (show o7 i k w (.returned (.tuple #[.int .i64 (qB i k 32).1,.int .i64 0])) w from⟨wZ,rfl⟩)
 have KW':=hid KW
 have KL':=hid KL
 have l1: ¬k< -32768:=ah
 have l2: ¬32768<k:=ah
 clear hw hM hE KW KL
 go_enter Tryz.func86,Tryz.ntmps86
 go_wp2_with(go_at_call 143;(with_reducible refine KW'.out.mono ?_);rintro e w' ⟨rfl,rfl⟩)
 go_loop [7,8,26] (fun bv dv iv=> ∃(n:Nat),n<=32/\iv=.int .i64 n/\bv=.int .i64 (qB i k n).1/\dv=.int .i64 (qB i k n).2) (fun _ _ iv=>32-(intOf iv).toNat)
 case atStart=>exact⟨0,ah,rfl,rfl,rfl⟩
 case round=>
  obtain⟨n,hn,rfl,rfl,rfl⟩:=hrel
  by_cases hlt:n<32
  ·have KK:=KL'.out (n:Nat)
   unfold bG at KK
   have KK':=hid KK
   have rg:=ou i n
   have qr:=Ia (i:=i) k1 k2 n
   have HS:=hid (vX (i:=i) (k:=k) n)
   unfold qD at HS
   obtain⟨b,hb⟩:∃b,b=(qB i k n).1:=⟨_,rfl⟩
   obtain⟨d,hd⟩:∃d,d=(qB i k n).2:=⟨_,rfl⟩
   rw[<-hb,<-hd] at qr
   rw[<-hd] at HS
   have HB1:=hid hb
   have HB2:=hid hd
   rw[<-hb,<-hd]
   clear hb hd
   generalize lvV i (n:Nat)=v at*
   generalize bh i (n:Nat)=er at*
   have i1:(n:Int)<32:=ah
   exact l5
  obtain rfl:n=32:=ah
  go_wp2
  go_ret2
  exact FIN.out
theorem afG(i k:Int)(w:World)(hw:bJ i=4)(k1: -32768<=k)(k2:k<=32768)(KW:Calls Tryz.prog 143 #[.int .i64 i] w fun e w'=>e=.returned (.int .i64 (4))/\w=w')(KL:∀n,Calls Tryz.prog 87 #[.int .i64 i,.int .i64 n] w (bG i n w)):
 Calls Tryz.prog 86 #[.int .i64 i,.int .i64 k] w (o7 i k w):=by
 have hM:lvM i=16:=jP
 have hE:cG i k=0:=xA
 have FIN:=hid (show o7 i k w (.returned (.tuple #[.int .i64 (qB i k 16).1,.int .i64 0])) w from⟨wZ,rfl⟩)
 have KW':=hid KW
 have KL':=hid KL
 have l1: ¬k< -32768:=ah
 have l2: ¬32768<k:=ah
 clear hw hM hE KW KL
 go_enter Tryz.func86,Tryz.ntmps86
 go_wp2_with(go_at_call 143;(with_reducible refine KW'.out.mono ?_);rintro e w' ⟨rfl,rfl⟩)
 go_loop [7,8,26] (fun bv dv iv=> ∃(n:Nat),n<=16/\iv=.int .i64 n/\bv=.int .i64 (qB i k n).1/\dv=.int .i64 (qB i k n).2) (fun _ _ iv=>16-(intOf iv).toNat)
 case atStart=>exact⟨0,ah,rfl,rfl,rfl⟩
 case round=>
  obtain⟨n,hn,rfl,rfl,rfl⟩:=hrel
  by_cases hlt:n<16
  ·have KK:=KL'.out (n:Nat)
   unfold bG at KK
   have KK':=hid KK
   have rg:=ou i n
   have qr:=Ia (i:=i) k1 k2 n
   have HS:=hid (vX (i:=i) (k:=k) n)
   unfold qD at HS
   obtain⟨b,hb⟩:∃b,b=(qB i k n).1:=⟨_,rfl⟩
   obtain⟨d,hd⟩:∃d,d=(qB i k n).2:=⟨_,rfl⟩
   rw[<-hb,<-hd] at qr
   rw[<-hd] at HS
   have HB1:=hid hb
   have HB2:=hid hd
   rw[<-hb,<-hd]
   clear hb hd
   generalize lvV i (n:Nat)=v at*
   generalize bh i (n:Nat)=er at*
   have i1:(n:Int)<16:=ah
   exact l5
  obtain rfl:n=16:=ah
  go_wp2
  go_ret2
  exact FIN.out
theorem afH(i k:Int)(w:World)(hw:bJ i=3)(k1: -32768<=k)(k2:k<=32768)(KW:Calls Tryz.prog 143 #[.int .i64 i] w fun e w'=>e=.returned (.int .i64 (3))/\w=w')(KL:∀n,Calls Tryz.prog 87 #[.int .i64 i,.int .i64 n] w (bG i n w)):
 Calls Tryz.prog 86 #[.int .i64 i,.int .i64 k] w (o7 i k w):=by
 have hM:lvM i=8:=jP
 have hE:cG i k=0:=xA
 have FIN:=hid (show o7 i k w (.returned (.tuple #[.int .i64 (qB i k 8).1,.int .i64 0])) w from⟨wZ,rfl⟩)
 have KW':=hid KW
 have KL':=hid KL
 have l1: ¬k< -32768:=ah
 have l2: ¬32768<k:=ah
 clear hw hM hE KW KL
 go_enter Tryz.func86,Tryz.ntmps86
 go_wp2_with(go_at_call 143;(with_reducible refine KW'.out.mono ?_);rintro e w' ⟨rfl,rfl⟩)
 go_loop [7,8,26] (fun bv dv iv=> ∃(n:Nat),n<=8/\iv=.int .i64 n/\bv=.int .i64 (qB i k n).1/\dv=.int .i64 (qB i k n).2) (fun _ _ iv=>8-(intOf iv).toNat)
 case atStart=>exact⟨0,ah,rfl,rfl,rfl⟩
 case round=>
  obtain⟨n,hn,rfl,rfl,rfl⟩:=hrel
  by_cases hlt:n<8
  ·have KK:=KL'.out (n:Nat)
   unfold bG at KK
   have KK':=hid KK
   have rg:=ou i n
   have qr:=Ia (i:=i) k1 k2 n
   have HS:=hid (vX (i:=i) (k:=k) n)
   unfold qD at HS
   obtain⟨b,hb⟩:∃b,b=(qB i k n).1:=⟨_,rfl⟩
   obtain⟨d,hd⟩:∃d,d=(qB i k n).2:=⟨_,rfl⟩
   rw[<-hb,<-hd] at qr
   rw[<-hd] at HS
   have HB1:=hid hb
   have HB2:=hid hd
   rw[<-hb,<-hd]
   clear hb hd
   generalize lvV i (n:Nat)=v at*
   generalize bh i (n:Nat)=er at*
   have i1:(n:Int)<8:=ah
   exact l5
  obtain rfl:n=8:=ah
  go_wp2
  go_ret2
  exact FIN.out
theorem afI(i k:Int)(w:World)(hw:bJ i=6)(k1: -32768<=k)(k2:k<=32768)(KW:∀w',Below w.heap.size w w'->Calls Tryz.prog 173 #[.int .i64 i] w' fun e w2=>e=.returned (.int .i64 (6))/\w'=w2)(KL:∀n w',Below w.heap.size w w'->Calls Tryz.prog 117 #[.int .i64 i,.int .i64 n] w' (bG i n w')):
 Calls Tryz.prog 116 #[.int .i64 i,.int .i64 k] w (o8 i k w):=by
 have hM:lvM i=64:=jP
 have hE:cG i k=0:=xA
 have FIN:=hid (fun w' (h:Below w.heap.size w w')=>show o8 i k w (.returned (.tuple #[.int .i64 (qB i k 64).1,.int .i64 0])) w' from⟨wZ,h⟩)
 have KW':=hid KW
 have KL':=hid KL
 have l1: ¬k< -32768:=ah
 have l2: ¬32768<k:=ah
 have h01:(qB i k 1).1=0:=by
  exact OQ
 have H01:=hid h01
 clear hw hM hE KW KL h01
 go_enter Tryz.func116,Tryz.ntmps116
 go_wp2_with(go_at_call 173;(with_reducible refine(KW'.out _ (aA _ _)).mono ?_);rintro e w' ⟨rfl,rfl⟩)
 go_loopw[6,7] (fun bv iv wr=> ∃(n:Nat),n+1<=64/\iv=.int .i64 ((n+1:Nat):Int)/\bv=.int .i64 (qB i k (n+1)).1/\Hid (Below w.heap.size w wr)) (fun _ iv _=>64-(intOf iv).toNat)
 case atStart=>exact⟨0,ah,rfl,by rw[H01.out],hid (aA _ _)⟩
 case round=>
  obtain⟨m,hn,rfl,rfl,HB⟩:=hrel
  obtain⟨b,hb,hb2,hdist⟩:=Dq (i:=i) k1 k2 m
  obtain⟨n,hnm⟩:∃n,n=m+1:=⟨_,rfl⟩
  rw[<-hnm] at hb hdist hn|-
  rw[hb]
  by_cases hlt:n<64
  ·have KA:=KL'.out (b:Nat) wr HB.out
   have KN:=KL'.out (n:Nat) wr HB.out
   unfold bG at KA KN
   have KWr:=hid (KW'.out wr HB.out)
   have rgA:=ou i b
   have rgN:=ou i n
   have HS:=hid (vX (i:=i) (k:=k) n)
   rw[hdist] at HS
   unfold qD at HS
   have HB0:=hid hb
   generalize lvV i (b:Nat)=va at*
   generalize lvV i (n:Nat)=vn at*
   generalize bh i (b:Nat)=ea at*
   generalize bh i (n:Nat)=en at*
   have KA':=hid KA
   have KN':=hid KN
   have i1:(n:Int)<64:=ah
   have HNM:=hid hnm
   obtain⟨ra1,ra2⟩:=rgA
   obtain⟨rn1,rn2⟩:=rgN
   clear KA KN hb hdist hnm
   go_wp2_with(first
    |(go_at_call 173;(with_reducible refine KWr.out.mono ?_);rintro e w' ⟨rfl,rfl⟩)
    |(go_at_call 117;(with_reducible refine KA'.out.mono ?_);rintro e w' ⟨rfl,rfl⟩)
    |(go_at_call 117;(with_reducible refine KN'.out.mono ?_);rintro e w' ⟨rfl,rfl⟩))
   refine(fJ _ (vn-k) ah ah).mono ?_
   rintro e w2 ⟨b2,rfl,hb2',hI2,hB2⟩
   have I2:=hid hI2
   have B2:=hid (HB.out.trans (hB2.mono HB.out.size))
   clear hI2 hB2
   go_wp2_with fail
   refine(fJ _ (va-k) ah ah).mono ?_
   rintro e w3 ⟨b3,rfl,hb3',hI3,hB3⟩
   have I3:=hid hI3
   have J3:=hid (I2.out.below hB3 (al0z _))
   have B3:=hid (B2.out.trans (hB3.mono B2.out.size))
   clear hI3 hB3
   have KC:=hid (afC w3 b2 b3 (vn-k) (va-k) J3.out I3.out (aW ah) (aW ah))
   by_cases hc:(vn-k).natAbs<(va-k).natAbs
   ·have hz:fU (vn-k).natAbs (va-k).natAbs<0:=by rw[Ce hc];decide
    have HS2:=hid (show(qB i k (n+1)).1=n by rw[HS.out,if_pos (by split<;>split<;>omega)])
    generalize fU (vn-k).natAbs (va-k).natAbs=z at*
    clear HS hc
    go_wp2_with(go_at_call 174;(with_reducible refine KC.out.mono ?_);rintro e w7 ⟨rfl,n7,rfl⟩)
    go_roundw
    case rel=>exact⟨n,ah,aO,vz,hid (B3.out.trans ((iJ _ _).mono B3.out.size))⟩
    case measure=>simp[intOf]<;>omega
   have hz: ¬fU (vn-k).natAbs (va-k).natAbs<0:=by
    unfold fU
    rw[if_neg hc]
    split<;>decide
   have HS2:=hid (show(qB i k (n+1)).1=b by rw[HS.out,if_neg (by split<;>split<;>omega),HB0.out])
   generalize fU (vn-k).natAbs (va-k).natAbs=z at*
   clear HS hc
   go_wp2_with(go_at_call 174;(with_reducible refine KC.out.mono ?_);rintro e w7 ⟨rfl,n7,rfl⟩)
   go_roundw
   case rel=>exact⟨n,ah,aO,vz,hid (B3.out.trans ((iJ _ _).mono B3.out.size))⟩
   case measure=>simp[intOf]<;>omega
  obtain rfl:n=64:=ah
  exact l38
theorem afJ(i k:Int)(w:World)(hw:bJ i=5)(k1: -32768<=k)(k2:k<=32768)(KW:∀w',Below w.heap.size w w'->Calls Tryz.prog 173 #[.int .i64 i] w' fun e w2=>e=.returned (.int .i64 (5))/\w'=w2)(KL:∀n w',Below w.heap.size w w'->Calls Tryz.prog 117 #[.int .i64 i,.int .i64 n] w' (bG i n w')):
 Calls Tryz.prog 116 #[.int .i64 i,.int .i64 k] w (o8 i k w):=by
 have hM:lvM i=32:=jP
 have hE:cG i k=0:=xA
 have FIN:=hid (fun w' (h:Below w.heap.size w w')=>show o8 i k w (.returned (.tuple #[.int .i64 (qB i k 32).1,.int .i64 0])) w' from⟨wZ,h⟩)
 have KW':=hid KW
 have KL':=hid KL
 have l1: ¬k< -32768:=ah
 have l2: ¬32768<k:=ah
 have h01:(qB i k 1).1=0:=by
  exact OQ
 have H01:=hid h01
 clear hw hM hE KW KL h01
 go_enter Tryz.func116,Tryz.ntmps116
 go_wp2_with(go_at_call 173;(with_reducible refine(KW'.out _ (aA _ _)).mono ?_);rintro e w' ⟨rfl,rfl⟩)
 go_loopw[6,7] (fun bv iv wr=> ∃(n:Nat),n+1<=32/\iv=.int .i64 ((n+1:Nat):Int)/\bv=.int .i64 (qB i k (n+1)).1/\Hid (Below w.heap.size w wr)) (fun _ iv _=>32-(intOf iv).toNat)
 case atStart=>exact⟨0,ah,rfl,by rw[H01.out],hid (aA _ _)⟩
 case round=>
  obtain⟨m,hn,rfl,rfl,HB⟩:=hrel
  obtain⟨b,hb,hb2,hdist⟩:=Dq (i:=i) k1 k2 m
  obtain⟨n,hnm⟩:∃n,n=m+1:=⟨_,rfl⟩
  rw[<-hnm] at hb hdist hn|-
  rw[hb]
  by_cases hlt:n<32
  ·have KA:=KL'.out (b:Nat) wr HB.out
   have KN:=KL'.out (n:Nat) wr HB.out
   unfold bG at KA KN
   have KWr:=hid (KW'.out wr HB.out)
   have rgA:=ou i b
   have rgN:=ou i n
   have HS:=hid (vX (i:=i) (k:=k) n)
   rw[hdist] at HS
   unfold qD at HS
   have HB0:=hid hb
   generalize lvV i (b:Nat)=va at*
   generalize lvV i (n:Nat)=vn at*
   generalize bh i (b:Nat)=ea at*
   generalize bh i (n:Nat)=en at*
   have KA':=hid KA
   have KN':=hid KN
   have i1:(n:Int)<32:=ah
   have HNM:=hid hnm
   obtain⟨ra1,ra2⟩:=rgA
   obtain⟨rn1,rn2⟩:=rgN
   clear KA KN hb hdist hnm
   go_wp2_with(first
    |(go_at_call 173;(with_reducible refine KWr.out.mono ?_);rintro e w' ⟨rfl,rfl⟩)
    |(go_at_call 117;(with_reducible refine KA'.out.mono ?_);rintro e w' ⟨rfl,rfl⟩)
    |(go_at_call 117;(with_reducible refine KN'.out.mono ?_);rintro e w' ⟨rfl,rfl⟩))
   refine(fJ _ (vn-k) ah ah).mono ?_
   rintro e w2 ⟨b2,rfl,hb2',hI2,hB2⟩
   have I2:=hid hI2
   have B2:=hid (HB.out.trans (hB2.mono HB.out.size))
   clear hI2 hB2
   go_wp2_with fail
   refine(fJ _ (va-k) ah ah).mono ?_
   rintro e w3 ⟨b3,rfl,hb3',hI3,hB3⟩
   have I3:=hid hI3
   have J3:=hid (I2.out.below hB3 (al0z _))
   have B3:=hid (B2.out.trans (hB3.mono B2.out.size))
   clear hI3 hB3
   have KC:=hid (afC w3 b2 b3 (vn-k) (va-k) J3.out I3.out (aW ah) (aW ah))
   by_cases hc:(vn-k).natAbs<(va-k).natAbs
   ·have hz:fU (vn-k).natAbs (va-k).natAbs<0:=by rw[Ce hc];decide
    have HS2:=hid (show(qB i k (n+1)).1=n by rw[HS.out,if_pos (by split<;>split<;>omega)])
    generalize fU (vn-k).natAbs (va-k).natAbs=z at*
    clear HS hc
    go_wp2_with(go_at_call 174;(with_reducible refine KC.out.mono ?_);rintro e w7 ⟨rfl,n7,rfl⟩)
    go_roundw
    case rel=>exact⟨n,ah,aO,vz,hid (B3.out.trans ((iJ _ _).mono B3.out.size))⟩
    case measure=>simp[intOf]<;>omega
   have hz: ¬fU (vn-k).natAbs (va-k).natAbs<0:=by
    unfold fU
    rw[if_neg hc]
    split<;>decide
   have HS2:=hid (show(qB i k (n+1)).1=b by rw[HS.out,if_neg (by split<;>split<;>omega),HB0.out])
   generalize fU (vn-k).natAbs (va-k).natAbs=z at*
   clear HS hc
   go_wp2_with(go_at_call 174;(with_reducible refine KC.out.mono ?_);rintro e w7 ⟨rfl,n7,rfl⟩)
   go_roundw
   case rel=>exact⟨n,ah,aO,vz,hid (B3.out.trans ((iJ _ _).mono B3.out.size))⟩
   case measure=>simp[intOf]<;>omega
  obtain rfl:n=32:=ah
  exact l38
theorem afK(i k:Int)(w:World)(hw:bJ i=4)(k1: -32768<=k)(k2:k<=32768)(KW:∀w',Below w.heap.size w w'->Calls Tryz.prog 173 #[.int .i64 i] w' fun e w2=>e=.returned (.int .i64 (4))/\w'=w2)(KL:∀n w',Below w.heap.size w w'->Calls Tryz.prog 117 #[.int .i64 i,.int .i64 n] w' (bG i n w')):
 Calls Tryz.prog 116 #[.int .i64 i,.int .i64 k] w (o8 i k w):=by
 have hM:lvM i=16:=jP
 have hE:cG i k=0:=xA
 have FIN:=hid (fun w' (h:Below w.heap.size w w')=>show o8 i k w (.returned (.tuple #[.int .i64 (qB i k 16).1,.int .i64 0])) w' from⟨wZ,h⟩)
 have KW':=hid KW
 have KL':=hid KL
 have l1: ¬k< -32768:=ah
 have l2: ¬32768<k:=ah
 have h01:(qB i k 1).1=0:=by
  exact OQ
 have H01:=hid h01
 clear hw hM hE KW KL h01
 go_enter Tryz.func116,Tryz.ntmps116
 go_wp2_with(go_at_call 173;(with_reducible refine(KW'.out _ (aA _ _)).mono ?_);rintro e w' ⟨rfl,rfl⟩)
 go_loopw[6,7] (fun bv iv wr=> ∃(n:Nat),n+1<=16/\iv=.int .i64 ((n+1:Nat):Int)/\bv=.int .i64 (qB i k (n+1)).1/\Hid (Below w.heap.size w wr)) (fun _ iv _=>16-(intOf iv).toNat)
 case atStart=>exact⟨0,ah,rfl,by rw[H01.out],hid (aA _ _)⟩
 case round=>
  obtain⟨m,hn,rfl,rfl,HB⟩:=hrel
  obtain⟨b,hb,hb2,hdist⟩:=Dq (i:=i) k1 k2 m
  obtain⟨n,hnm⟩:∃n,n=m+1:=⟨_,rfl⟩
  rw[<-hnm] at hb hdist hn|-
  rw[hb]
  by_cases hlt:n<16
  ·have KA:=KL'.out (b:Nat) wr HB.out
   have KN:=KL'.out (n:Nat) wr HB.out
   unfold bG at KA KN
   have KWr:=hid (KW'.out wr HB.out)
   have rgA:=ou i b
   have rgN:=ou i n
   have HS:=hid (vX (i:=i) (k:=k) n)
   rw[hdist] at HS
   unfold qD at HS
   have HB0:=hid hb
   generalize lvV i (b:Nat)=va at*
   generalize lvV i (n:Nat)=vn at*
   generalize bh i (b:Nat)=ea at*
   generalize bh i (n:Nat)=en at*
   have KA':=hid KA
   have KN':=hid KN
   have i1:(n:Int)<16:=ah
   have HNM:=hid hnm
   obtain⟨ra1,ra2⟩:=rgA
   obtain⟨rn1,rn2⟩:=rgN
   clear KA KN hb hdist hnm
   go_wp2_with(first
    |(go_at_call 173;(with_reducible refine KWr.out.mono ?_);rintro e w' ⟨rfl,rfl⟩)
    |(go_at_call 117;(with_reducible refine KA'.out.mono ?_);rintro e w' ⟨rfl,rfl⟩)
    |(go_at_call 117;(with_reducible refine KN'.out.mono ?_);rintro e w' ⟨rfl,rfl⟩))
   refine(fJ _ (vn-k) ah ah).mono ?_
   rintro e w2 ⟨b2,rfl,hb2',hI2,hB2⟩
   have I2:=hid hI2
   have B2:=hid (HB.out.trans (hB2.mono HB.out.size))
   clear hI2 hB2
   go_wp2_with fail
   refine(fJ _ (va-k) ah ah).mono ?_
   rintro e w3 ⟨b3,rfl,hb3',hI3,hB3⟩
   have I3:=hid hI3
   have J3:=hid (I2.out.below hB3 (al0z _))
   have B3:=hid (B2.out.trans (hB3.mono B2.out.size))
   clear hI3 hB3
   have KC:=hid (afC w3 b2 b3 (vn-k) (va-k) J3.out I3.out (aW ah) (aW ah))
   by_cases hc:(vn-k).natAbs<(va-k).natAbs
   ·have hz:fU (vn-k).natAbs (va-k).natAbs<0:=by rw[Ce hc];decide
    have HS2:=hid (show(qB i k (n+1)).1=n by rw[HS.out,if_pos (by split<;>split<;>omega)])
    generalize fU (vn-k).natAbs (va-k).natAbs=z at*
    clear HS hc
    go_wp2_with(go_at_call 174;(with_reducible refine KC.out.mono ?_);rintro e w7 ⟨rfl,n7,rfl⟩)
    go_roundw
    case rel=>exact⟨n,ah,aO,vz,hid (B3.out.trans ((iJ _ _).mono B3.out.size))⟩
    case measure=>simp[intOf]<;>omega
   have hz: ¬fU (vn-k).natAbs (va-k).natAbs<0:=by
    unfold fU
    rw[if_neg hc]
    split<;>decide
   have HS2:=hid (show(qB i k (n+1)).1=b by rw[HS.out,if_neg (by split<;>split<;>omega),HB0.out])
   generalize fU (vn-k).natAbs (va-k).natAbs=z at*
   clear HS hc
   go_wp2_with(go_at_call 174;(with_reducible refine KC.out.mono ?_);rintro e w7 ⟨rfl,n7,rfl⟩)
   go_roundw
   case rel=>exact⟨n,ah,aO,vz,hid (B3.out.trans ((iJ _ _).mono B3.out.size))⟩
   case measure=>simp[intOf]<;>omega
  obtain rfl:n=16:=ah
  exact l38
theorem afL(i k:Int)(w:World)(hw:bJ i=3)(k1: -32768<=k)(k2:k<=32768)(KW:∀w',Below w.heap.size w w'->Calls Tryz.prog 173 #[.int .i64 i] w' fun e w2=>e=.returned (.int .i64 (3))/\w'=w2)(KL:∀n w',Below w.heap.size w w'->Calls Tryz.prog 117 #[.int .i64 i,.int .i64 n] w' (bG i n w')):
 Calls Tryz.prog 116 #[.int .i64 i,.int .i64 k] w (o8 i k w):=by
 have hM:lvM i=8:=jP
 have hE:cG i k=0:=xA
 have FIN:=hid (fun w' (h:Below w.heap.size w w')=>show o8 i k w (.returned (.tuple #[.int .i64 (qB i k 8).1,.int .i64 0])) w' from⟨wZ,h⟩)
 have KW':=hid KW
 have KL':=hid KL
 have l1: ¬k< -32768:=ah
 have l2: ¬32768<k:=ah
 have h01:(qB i k 1).1=0:=by
  exact OQ
 have H01:=hid h01
 clear hw hM hE KW KL h01
 go_enter Tryz.func116,Tryz.ntmps116
 go_wp2_with(go_at_call 173;(with_reducible refine(KW'.out _ (aA _ _)).mono ?_);rintro e w' ⟨rfl,rfl⟩)
 go_loopw[6,7] (fun bv iv wr=> ∃(n:Nat),n+1<=8/\iv=.int .i64 ((n+1:Nat):Int)/\bv=.int .i64 (qB i k (n+1)).1/\Hid (Below w.heap.size w wr)) (fun _ iv _=>8-(intOf iv).toNat)
 case atStart=>exact⟨0,ah,rfl,by rw[H01.out],hid (aA _ _)⟩
 case round=>
  obtain⟨m,hn,rfl,rfl,HB⟩:=hrel
  obtain⟨b,hb,hb2,hdist⟩:=Dq (i:=i) k1 k2 m
  obtain⟨n,hnm⟩:∃n,n=m+1:=⟨_,rfl⟩
  rw[<-hnm] at hb hdist hn|-
  rw[hb]
  by_cases hlt:n<8
  ·have KA:=KL'.out (b:Nat) wr HB.out
   have KN:=KL'.out (n:Nat) wr HB.out
   unfold bG at KA KN
   have KWr:=hid (KW'.out wr HB.out)
   have rgA:=ou i b
   have rgN:=ou i n
   have HS:=hid (vX (i:=i) (k:=k) n)
   rw[hdist] at HS
   unfold qD at HS
   have HB0:=hid hb
   generalize lvV i (b:Nat)=va at*
   generalize lvV i (n:Nat)=vn at*
   generalize bh i (b:Nat)=ea at*
   generalize bh i (n:Nat)=en at*
   have KA':=hid KA
   have KN':=hid KN
   have i1:(n:Int)<8:=ah
   have HNM:=hid hnm
   obtain⟨ra1,ra2⟩:=rgA
   obtain⟨rn1,rn2⟩:=rgN
   clear KA KN hb hdist hnm
   go_wp2_with(first
    |(go_at_call 173;(with_reducible refine KWr.out.mono ?_);rintro e w' ⟨rfl,rfl⟩)
    |(go_at_call 117;(with_reducible refine KA'.out.mono ?_);rintro e w' ⟨rfl,rfl⟩)
    |(go_at_call 117;(with_reducible refine KN'.out.mono ?_);rintro e w' ⟨rfl,rfl⟩))
   refine(fJ _ (vn-k) ah ah).mono ?_
   rintro e w2 ⟨b2,rfl,hb2',hI2,hB2⟩
   have I2:=hid hI2
   have B2:=hid (HB.out.trans (hB2.mono HB.out.size))
   clear hI2 hB2
   go_wp2_with fail
   refine(fJ _ (va-k) ah ah).mono ?_
   rintro e w3 ⟨b3,rfl,hb3',hI3,hB3⟩
   have I3:=hid hI3
   have J3:=hid (I2.out.below hB3 (al0z _))
   have B3:=hid (B2.out.trans (hB3.mono B2.out.size))
   clear hI3 hB3
   have KC:=hid (afC w3 b2 b3 (vn-k) (va-k) J3.out I3.out (aW ah) (aW ah))
   by_cases hc:(vn-k).natAbs<(va-k).natAbs
   ·have hz:fU (vn-k).natAbs (va-k).natAbs<0:=by rw[Ce hc];decide
    have HS2:=hid (show(qB i k (n+1)).1=n by rw[HS.out,if_pos (by split<;>split<;>omega)])
    generalize fU (vn-k).natAbs (va-k).natAbs=z at*
    clear HS hc
    go_wp2_with(go_at_call 174;(with_reducible refine KC.out.mono ?_);rintro e w7 ⟨rfl,n7,rfl⟩)
    go_roundw
    case rel=>exact⟨n,ah,aO,vz,hid (B3.out.trans ((iJ _ _).mono B3.out.size))⟩
    case measure=>simp[intOf]<;>omega
   have hz: ¬fU (vn-k).natAbs (va-k).natAbs<0:=by
    unfold fU
    rw[if_neg hc]
    split<;>decide
   have HS2:=hid (show(qB i k (n+1)).1=b by rw[HS.out,if_neg (by split<;>split<;>omega),HB0.out])
   generalize fU (vn-k).natAbs (va-k).natAbs=z at*
   clear HS hc
   go_wp2_with(go_at_call 174;(with_reducible refine KC.out.mono ?_);rintro e w7 ⟨rfl,n7,rfl⟩)
   go_roundw
   case rel=>exact⟨n,ah,aO,vz,hid (B3.out.trans ((iJ _ _).mono B3.out.size))⟩
   case measure=>simp[intOf]<;>omega
  obtain rfl:n=8:=ah
  exact l38
theorem afM(i k:Int)(w:World)(T:TabA w 3 fD):Calls Tryz.prog 86 #[.int .i64 i,.int .i64 k] w (o7 i k w):=by
 have KW:=Qn i w T
 have KL:=fun n=>Xy i n w T
 by_cases h0:bJ i=0
 ·have FIN:=hid (show o7 i k w (.returned (.tuple #[.int .i64 0,.int .i64 4])) w from⟨by rw[show cG i k=4 by unfold cG;rw[if_pos h0],show qV i k=0 by unfold qV cG;rw[if_pos h0];rfl],rfl⟩)
  rw[h0] at KW
  have KW':=hid KW
  clear KW KL h0 T
  exact l71
 by_cases hk:k< -32768\/32768<k
 ·have FIN:=hid (show o7 i k w (.returned (.tuple #[.int .i64 0,.int .i64 2])) w from⟨by rw[show cG i k=2 by unfold cG;rw[if_neg h0,if_pos hk],show qV i k=0 by unfold qV cG;rw[if_neg h0,if_pos hk];rfl],rfl⟩)
  have KW':=hid KW
  have z1: ¬bJ i=0:=h0
  have z2:(bJ i==0)=false:=ql
  generalize bJ i=wv at*
  clear KW KL h0 T
  rcases hk with hk|hk
  ·exact l71
  have l1: ¬k< -32768:=ah
  exact l71
 have k1: -32768<=k:=ah
 have k2:k<=32768:=ah
 rcases zJ i with⟨h,_⟩|⟨h,_⟩|⟨h,_⟩|⟨h,_⟩|⟨h,_⟩
 ·exact absurd h h0
 ·rw[h] at KW;exact afE i k w h k1 k2 KW KL
 ·rw[h] at KW;exact afF i k w h k1 k2 KW KL
 ·rw[h] at KW;exact afG i k w h k1 k2 KW KL
 rw[h] at KW;exact afH i k w h k1 k2 KW KL
theorem afN(i k:Int)(w:World)(T:TabS w 0 fD):Calls Tryz.prog 116 #[.int .i64 i,.int .i64 k] w (o8 i k w):=by
 have KW:=fun w' (h:Below w.heap.size w w')=>Xv i w' (T.below' h (al0z _))
 have KL:=fun n w' (h:Below w.heap.size w w')=>XF i n w' (T.below' h (al0z _))
 by_cases h0:bJ i=0
 ·have FIN:=hid (show o8 i k w (.returned (.tuple #[.int .i64 0,.int .i64 4])) w from⟨by rw[show cG i k=4 by unfold cG;rw[if_pos h0],show qV i k=0 by unfold qV cG;rw[if_pos h0];rfl],aA _ _⟩)
  have KW:=KW w (aA _ _)
  rw[h0] at KW
  have KW':=hid KW
  clear KW KL h0 T
  exact l70
 by_cases hk:k< -32768\/32768<k
 ·have FIN:=hid (show o8 i k w (.returned (.tuple #[.int .i64 0,.int .i64 2])) w from⟨by rw[show cG i k=2 by unfold cG;rw[if_neg h0,if_pos hk],show qV i k=0 by unfold qV cG;rw[if_neg h0,if_pos hk];rfl],aA _ _⟩)
  have KW:=KW w (aA _ _)
  have KW':=hid KW
  have z1: ¬bJ i=0:=h0
  have z2:(bJ i==0)=false:=ql
  clear KL
  generalize bJ i=wv at*
  clear KW h0 T
  rcases hk with hk|hk
  ·exact l70
  have l1: ¬k< -32768:=ah
  exact l70
 have k1: -32768<=k:=ah
 have k2:k<=32768:=ah
 rcases zJ i with⟨h,_⟩|⟨h,_⟩|⟨h,_⟩|⟨h,_⟩|⟨h,_⟩
 ·exact absurd h h0
 ·rw[h] at KW;exact afI i k w h k1 k2 KW KL
 ·rw[h] at KW;exact afJ i k w h k1 k2 KW KL
 ·rw[h] at KW;exact afK i k w h k1 k2 KW KL
 rw[h] at KW;exact afL i k w h k1 k2 KW KL
section
open Go.ChangeShapes
def bts(xs:List Int):List Value:=xs.map (Value.int .u8)
theorem qO(xs:List Int):(bts xs).length=xs.length:=by simp[bts]
theorem Qx(xs:List Int)(k:Nat)(h:k<xs.length):(bts xs)[k]?=some (.int .u8 (xs.getD k 0)):=by simp[bts,h]
theorem Ye(xs:List Int):∀u∈bts xs,u.oneCell'=true:=ints_oneCell .u8 xs
theorem Yf(xs ys:List Int):bts xs++bts ys=bts (xs++ys):=by simp[bts]
def Rb(w:World)(B:Nat)(A:Option Addr)(xs:List Int):Prop:=Reads w B 1 A xs.length (bts xs)
def OwnB(w:World)(base:Nat)(A:Option Addr)(c:Nat)(xs:List Int):Prop:=w.ownsRow base 5 1 (.slice A xs.length c) xs.length (bts xs)
theorem Yg:(Tryz.prog.info? 5).map (fun i=>(i.zero,i.size,i.bytes))=some (some (.int .u8 0),1,1):=au
section
variable {w w':World} {B B':Nat} {A:Option Addr} {xs:List Int}
theorem Rb.below(h:Rb w B A xs)(hb:Below B w w'):Rb w' B A xs:=Reads.below h hb
theorem Rb.more(h:Rb w B A xs)(hB:B<=B'):Rb w B' A xs:=Reads.more h hB
theorem Rb.at_{k:Nat}(h:Rb w B A xs)(hk:k<xs.length):∃ad,A=some ad/\ad.block<B/\w.cell? (ad.add k)=some (.int .u8 (xs.getD k 0)):=by
 obtain⟨ad,e,hb,hc⟩:=h.2 ah
 exact⟨ad,e,hb,hc k _ (Qx xs k hk)⟩
theorem OwnB.nil{base:Nat}:OwnB w base none 0 []:=World.ownsRow_nil w base _ _
theorem OwnB.reads{base c:Nat}(h:OwnB w base A c xs):Rb w w.heap.size A xs:=Reads.of_own h
theorem OwnB.below{base c:Nat}(h:OwnB w base A c xs)(hb:Below w.heap.size w w'):OwnB w' base A c xs:=
 World.ownsRow.kept h (row:=none) ⟨hb.os,hb.tape,hb.output,hb.size,fun k hk _=>hb.block k hk⟩ UJ
theorem OwnB.lt{base c:Nat}(h:OwnB w base A c xs):∀a,A=some a->base<=a.block/\a.block<w.heap.size:=fun a ha=>by
 subst ha
 exact World.ownsRow.lt h a.block rfl
theorem OwnB.ne_{base c g:Nat}(h:OwnB w base A c xs)(hg:g<base):∀ad,A=some ad->ad.block≠g:=fun ad e=>by
 have:=(h.lt ad e).1
 omega
end
theorem agb{w:World}{base n:Nat}{v:Value}{vs:List Value}{ys:List Int}(h:w.ownsRow base 5 1 v n vs)(hv:vs=bts ys):∃A c,v=.slice A ys.length c/\OwnB w base A c ys:=by
 subst hv
 have hl:ys.length=n:=by have:=h.1;simpa[bts] using this
 subst hl
 rcases h.2 with⟨hv,hn⟩|⟨g,cap,cur,hv,rest⟩
 ·subst hv
  refine⟨none,0,by rw[hn],?_⟩
  unfold OwnB
  rw[hn] at h|-
  exact h
 subst hv
 exact⟨_,_,rfl,h⟩
theorem agc{ops:Array Oper}{rest:List Oper}{o:Oper}{a:Act}{w:World}{Q:Exit->Act->World->Prop}(hgd:o.guard=none)(s x:Operand)
 (ho:o.op=.call {callee:=.builtin .append,args:= #[s,x],argTypes:= #[26,26]})
 (base:Nat) (A:Option Addr) (c n:Nat) (xs:List Int) (hs:a.eval s=.slice A n c) (hn:xs.length=n) (hown:OwnB w base A c xs)
 (B:Nat) (A2:Option Addr) (c2 m:Nat) (ys:List Int) (hx:a.eval x=.slice A2 m c2) (hm:ys.length=m) (hr:Rb w B A2 ys) (hlen:n+m<=140737488355328) (hbase:base<=w.heap.size)
 (h:∀A' c' w',OwnB w' base A' c' (xs++ys)->w.grownBy w' (A.map (·.block))->wpList Tryz.prog ops Q rest (a.put o.dst (.slice A' (n+m) c')) w'):wpList Tryz.prog ops Q (o::rest) a w:=by
 subst hn
 subst hm
 obtain⟨i0,hi,hz0,hz1,hz2⟩:=info_parts Yg
 refine wpList_plain hgd fun K hK=>?_
 obtain⟨v',w',hrun,h2,h3,h4⟩:=xE (P:=Tryz.prog) w base 26 o.type 5 i0 (.int .u8 0) 1 1 Tryz.underlying26 hi hz0 hz1 hz2 rfl ah _ _ _ hown B A2 ys.length c2 (bts ys) hr (Ye ys) iT ah hbase
 obtain⟨A',c',rfl,hO⟩:=agb h2 (Yf xs ys)
 have hl:(xs++ys).length=xs.length+ys.length:=az
 unfold Oper.wp execOp
 simp only[ho,resolve,invoke,builtin,nR,rD,nU,List.map_toArray,List.map_cons,List.map_nil,hs,hx,hrun]
 refine hK _ _ ?_
 rw[hl]
 exact h A' c' w' hO zk
section
variable {H:Type} {enc:TypeId×Value->H} {P:Program} {w:World}
end
end
def lZ(xs:List Int):Nat->Int
 |0=>90
 |n+1=>lZ xs n+xs.getD n 0
def Ij(xs:List Int):Prop:=∀i,0<=xs.getD i 0/\xs.getD i 0<=255
theorem Yh{xs:List Int}(h:Ij xs)(n:Nat):0<=lZ xs n/\lZ xs n<=90+255*(n:Int):=by
 induction n with
 |zero=>simp[lZ]
 |succ n ih=>
  have:=h n
  simp only[lZ]
  push_cast
  omega
def chk(xs:List Int):Int:=lZ xs xs.length%256
theorem agd(A:Option Addr)(c n:Nat)(xs:List Int)(w:World)(hr:Rb w w.heap.size A xs)(hn:xs.length=n)(hl:n<=1000)(hx:Ij xs):
 Calls Tryz.prog 62 #[.slice A n c] w fun e w'=>e=.returned (.int .u8 (chk xs))/\w=w':=by
 have HC:=hid (show chk xs=lZ xs n%256 from by unfold chk;rw[hn])
 have HR:=hid hr
 have HN:=hid hn
 clear hr hn
 go_enter Tryz.func62,Tryz.ntmps62
 go_wp2
 go_loop [3,8] (fun sv iv=> ∃k:Nat,k<=n/\iv=.int .i64 k/\sv=.int .i64 (lZ xs k)) (fun _ iv=>n-(intOf iv).toNat)
 case atStart=>exact⟨0,ah,rfl,rfl⟩
 case round=>
  obtain⟨k,hk,rfl,rfl⟩:=hrel
  have sr:=Yh hx k
  by_cases hlt:k<n
  ·exact l50
  obtain rfl:k=n:=ah
  generalize lZ xs k=s at*
  have hw:IntKind.u8.wrap s=s%256:=IntKind.wrap_u8 s
  go_wp2
  go_ret
  exact⟨by rw[HC.out];rfl,rfl⟩
theorem agf(A:Option Addr)(c n:Nat)(xs:List Int)(w:World)(hr:Rb w w.heap.size A xs)(hn:xs.length=n)(hl:n<=1000)(hx:Ij xs):
 Calls Tryz.prog 35 #[.slice A n c] w fun e w'=>e=.returned (.int .u8 (chk xs))/\w=w':=by
 have HC:=hid (show chk xs=lZ xs n%256 from by unfold chk;rw[hn])
 have HR:=hid hr
 have HN:=hid hn
 clear hr hn
 go_enter Tryz.func35,Tryz.ntmps35
 go_wp2
 go_loop [3,8] (fun sv iv=> ∃k:Nat,k<=n/\iv=.int .i64 k/\sv=.int .i64 (lZ xs k)) (fun _ iv=>n-(intOf iv).toNat)
 case atStart=>exact⟨0,ah,rfl,rfl⟩
 case round=>
  obtain⟨k,hk,rfl,rfl⟩:=hrel
  have sr:=Yh hx k
  by_cases hlt:k<n
  ·exact l50
  obtain rfl:k=n:=ah
  generalize lZ xs k=s at*
  have hw:IntKind.u8.wrap (s%256)=s%256:=MV
  have hm:s.tmod 256=s%256:=Int.tmod_eq_emod_of_nonneg sr.1
  go_wp2
  go_ret
  exact⟨by rw[HC.out];rfl,rfl⟩
def dgI(n:Nat)(k:Nat):Int:=(dg n k:Nat)
theorem vY(c f:Nat)(hc:c<18446744073709551616)(hf:f<18446744073709551616)(W:World):Calls Tryz.prog 190 #[.int .u64 (c:Nat),.int .u64 (f:Nat)] W (fun e w'=>e=.returned (.agg #[.int .u64 (dgI (c*c*f) 0),.int .u64 (dgI (c*c*f) 1),.int .u64 (dgI (c*c*f) 2)])/\Below W.heap.size W w'):=
 (agQ c f hc hf W).mono fun e w' h=>⟨by rw[h.1];rfl,h.2⟩
theorem agS(w:World)(a b c:Nat):Below w.heap.size w (((w.drewN a).drewN b).drewN c):=⟨rfl,rfl,rfl,al0z _,fun _ _=>rfl⟩
theorem zS{c:Int}(h:0<=c):max c 0=c:=ah
theorem zT{c:Int}(h:c<0):max c 0=0:=ah
theorem vZ{c d:Nat}{e f:Int}{en fn:Nat}(he:e=en)(hf:f=fn)(h1:0<e)(h2:0<f){c' d':Int}(hc:max c' 0=c)(hd:max d' 0=d):dO c' e d' f=decide (d*d*en<c*c*fn):=by
 rw[agR h1 h2,hc,hd,he,hf]
 have e1:((d:Int)*d*en)=((d*d*en:Nat):Int):=az
 have e2:((c:Int)*c*fn)=((c*c*fn:Nat):Int):=az
 rw[e1,e2]
 by_cases h:d*d*en<c*c*fn
 ·rw[decide_eq_true h,decide_eq_true ah]
 rw[decide_eq_false h,decide_eq_false ah]
theorem Yz(c e d f:Int)(w:World)(c1: -9223372036854775808<=c)(c2:c<=9223372036854775807)(e1: -9223372036854775808<=e)(e2:e<=9223372036854775807)(d1: -9223372036854775808<=d)(d2:d<=9223372036854775807)(f1: -9223372036854775808<=f)(f2:f<=9223372036854775807):
 Calls Tryz.prog 162 #[.int .i64 c,.int .i64 e,.int .i64 d,.int .i64 f] w fun en w'=>en=.returned (.bool (dO c e d f))/\Below w.heap.size w w':=by
 by_cases he:e<=0
 ·have FIN:=hid (Yy (c:=c) (d:=d) (f:=f) he)
  have q: ¬0<e:=ah
  exact acv
 by_cases hf:f<=0
 ·have FIN:=hid (QQ (c:=c) (d:=d) (f:=f) (e:=e) ah hf)
  have q:0<e:=ah
  exact acv
 obtain⟨en,rfl⟩:=dP (show 0<=e from ah)
 obtain⟨fn,rfl⟩:=dP (show 0<=f from ah)
 have he:0<((en:Nat):Int):=ah
 have hf:0<((fn:Nat):Int):=ah
 by_cases hc:0<=c
 ·obtain⟨cn,rfl⟩:=dP hc
  have HMC:max ((cn:Nat):Int) 0=(cn:Nat):=zS hc
  by_cases hd:0<=d
  ·obtain⟨dn,rfl⟩:=dP hd
   have HMD:max ((dn:Nat):Int) 0=(dn:Nat):=zS hd
   have K1:=vY cn fn ah ah
   have K2:=vY dn en ah ah
   have HB:=hid (vZ (c:=cn) (d:=dn) (c':=((cn:Nat))) (d':=((dn:Nat))) (e:=(en:Nat)) (f:=(fn:Nat)) rfl rfl he hf HMC HMD)
   obtain⟨D0,D1,D2,D3⟩:=IK (cn*cn*fn) (dn*dn*en)
   generalize cn*cn*fn=X at*
   generalize dn*dn*en=Y at*
   have A0:=hid D0
   have A1:=hid D1
   have A2:=hid D2
   have A3:=hid D3
   have hx0:=hid (show dgI X 0=(dg X 0:Nat) from rfl)
   have hx1:=hid (show dgI X 1=(dg X 1:Nat) from rfl)
   have hx2:=hid (show dgI X 2=(dg X 2:Nat) from rfl)
   have hy0:=hid (show dgI Y 0=(dg Y 0:Nat) from rfl)
   have hy1:=hid (show dgI Y 1=(dg Y 1:Nat) from rfl)
   have hy2:=hid (show dgI Y 2=(dg Y 2:Nat) from rfl)
   clear D0 D1 D2 D3
   generalize dgI X 0=x0 at*
   generalize dgI X 1=x1 at*
   generalize dgI X 2=x2 at*
   generalize dgI Y 0=y0 at*
   generalize dgI Y 1=y1 at*
   generalize dgI Y 2=y2 at*
   have K1':=hid K1
   have K2':=hid K2
   clear K1 K2
   go_enter Tryz.func162,Tryz.ntmps162
   go_wp2_with fail
   refine(K1'.out _).mono ?_
   rintro en1 w1 ⟨rfl,hB⟩
   have B1:=hid hB
   clear hB
   go_wp2_with fail
   refine(K2'.out _).mono ?_
   rintro en1 w2 ⟨rfl,hB⟩
   have B2:=hid (B1.out.trans (hB.mono B1.out.size))
   clear hB
   go_wp2
   have BV:=hid ((B2.out.alloc B2.out.size (.cells #[.int .u64 x0,.int .u64 x1,.int .u64 x2] 199)).alloc MH (.cells #[.int .u64 y0,.int .u64 y1,.int .u64 y2] 199))
   obtain⟨V,hV⟩:∃V,V=(w2.alloc (.cells #[.int .u64 x0,.int .u64 x1,.int .u64 x2] 199)).alloc (.cells #[.int .u64 y0,.int .u64 y1,.int .u64 y2] 199):=⟨_,rfl⟩
   have P1:=hid (show Blk V w2.heap.size 199 #[.int .u64 x0,.int .u64 x1,.int .u64 x2] from Lh)
   have P2:=hid (show Blk V (w2.heap.size+1) 199 #[.int .u64 y0,.int .u64 y1,.int .u64 y2] from Ko)
   rw[<-hV] at BV|-
   clear hV B1 B2
   go_loopw[32] (fun iv wr=> ∃(k m:Nat),k<=3/\iv=.int .i64 k/\wr=V.drewN m/\Hid (∀j,j<k->dg X j=dg Y j)) (fun iv _=>3-(intOf iv).toNat)
   case atStart=>exact⟨0,0,ah,rfl,rfl,hid (fun j h=>ah)⟩
   case round=>
    obtain⟨k,m,hk,rfl,rfl,HE⟩:=hrel
    have BW:=hid (BV.out.trans ((iJ V m).mono BV.out.size))
    by_cases h0:k=0
    ·subst h0
     have cx:V.cell? ⟨w2.heap.size,0,none⟩=some (.int .u64 x0):=Blk.cell P1.out 0
     have cy:V.cell? ⟨w2.heap.size+1,0,none⟩=some (.int .u64 y0):=Blk.cell P2.out 0
     by_cases heq:x0=y0
     ·exact l17
     have e1:(x0==y0)=false:=iC
     have e2:(x0 !=y0)=true:=iC
     have HF:=hid (show dO ((cn:Nat)) (en:Nat) ((dn:Nat)) (fn:Nat)=decide (y0<x0) by
      rw[HB.out]
      have h1:=hx0.out
      have h2:=hy0.out
      have h3:dg Y 0<dg X 0↔Y<X:=A0.out (fun hh=>heq ah)
      by_cases h:Y<X
      ·have:=h3.2 h;rw[decide_eq_true h,decide_eq_true ah]
      ·have: ¬dg Y 0<dg X 0:=fun hh=>h (h3.1 hh)
       rw[decide_eq_false h,decide_eq_false ah])
     exact l12
    by_cases h1:k=1
    ·subst h1
     have cx:V.cell? ⟨w2.heap.size,1,none⟩=some (.int .u64 x1):=Blk.cell P1.out 1
     have cy:V.cell? ⟨w2.heap.size+1,1,none⟩=some (.int .u64 y1):=Blk.cell P2.out 1
     by_cases heq:x1=y1
     ·exact l18
     have e1:(x1==y1)=false:=iC
     have e2:(x1 !=y1)=true:=iC
     have HF:=hid (show dO ((cn:Nat)) (en:Nat) ((dn:Nat)) (fn:Nat)=decide (y1<x1) by
      rw[HB.out]
      have h1:=hx1.out
      have h2:=hy1.out
      have h3:dg Y 1<dg X 1↔Y<X:=A1.out (HE.out 0 ah) (fun hh=>heq ah)
      by_cases h:Y<X
      ·have:=h3.2 h;rw[decide_eq_true h,decide_eq_true ah]
      ·have: ¬dg Y 1<dg X 1:=fun hh=>h (h3.1 hh)
       rw[decide_eq_false h,decide_eq_false ah])
     exact l12
    by_cases h2:k=2
    ·subst h2
     have cx:V.cell? ⟨w2.heap.size,2,none⟩=some (.int .u64 x2):=Blk.cell P1.out 2
     have cy:V.cell? ⟨w2.heap.size+1,2,none⟩=some (.int .u64 y2):=Blk.cell P2.out 2
     by_cases heq:x2=y2
     ·exact l19
     have e1:(x2==y2)=false:=iC
     have e2:(x2 !=y2)=true:=iC
     have HF:=hid (show dO ((cn:Nat)) (en:Nat) ((dn:Nat)) (fn:Nat)=decide (y2<x2) by
      rw[HB.out]
      have h1:=hx2.out
      have h2:=hy2.out
      have h3:dg Y 2<dg X 2↔Y<X:=A2.out (HE.out 0 ah) (HE.out 1 ah) (fun hh=>heq ah)
      by_cases h:Y<X
      ·have:=h3.2 h;rw[decide_eq_true h,decide_eq_true ah]
      ·have: ¬dg Y 2<dg X 2:=fun hh=>h (h3.1 hh)
       rw[decide_eq_false h,decide_eq_false ah])
     exact l12
    obtain rfl:k=3:=ah
    have HF:=hid (show dO ((cn:Nat)) (en:Nat) ((dn:Nat)) (fn:Nat)=false by
     rw[HB.out]
     have:=A3.out (HE.out 0 ah) (HE.out 1 ah) (HE.out 2 ah)
     simp;omega)
    exact l98
  have hd2:d<0:=ah
  have HMD:max d 0=((0:Nat):Int):=zT hd2
  have K1:=vY cn fn ah ah
  have K2:=vY 0 en ah ah
  have HB:=hid (vZ (c:=cn) (d:=0) (c':=((cn:Nat))) (d':=(d)) (e:=(en:Nat)) (f:=(fn:Nat)) rfl rfl he hf HMC HMD)
  obtain⟨D0,D1,D2,D3⟩:=IK (cn*cn*fn) (0*0*en)
  generalize cn*cn*fn=X at*
  generalize 0*0*en=Y at*
  have A0:=hid D0
  have A1:=hid D1
  have A2:=hid D2
  have A3:=hid D3
  have hx0:=hid (show dgI X 0=(dg X 0:Nat) from rfl)
  have hx1:=hid (show dgI X 1=(dg X 1:Nat) from rfl)
  have hx2:=hid (show dgI X 2=(dg X 2:Nat) from rfl)
  have hy0:=hid (show dgI Y 0=(dg Y 0:Nat) from rfl)
  have hy1:=hid (show dgI Y 1=(dg Y 1:Nat) from rfl)
  have hy2:=hid (show dgI Y 2=(dg Y 2:Nat) from rfl)
  clear D0 D1 D2 D3
  generalize dgI X 0=x0 at*
  generalize dgI X 1=x1 at*
  generalize dgI X 2=x2 at*
  generalize dgI Y 0=y0 at*
  generalize dgI Y 1=y1 at*
  generalize dgI Y 2=y2 at*
  have K1':=hid K1
  have K2':=hid K2
  clear K1 K2
  go_enter Tryz.func162,Tryz.ntmps162
  go_wp2_with fail
  refine(K1'.out _).mono ?_
  rintro en1 w1 ⟨rfl,hB⟩
  have B1:=hid hB
  clear hB
  go_wp2_with fail
  refine(K2'.out _).mono ?_
  rintro en1 w2 ⟨rfl,hB⟩
  have B2:=hid (B1.out.trans (hB.mono B1.out.size))
  clear hB
  go_wp2
  have BV:=hid ((B2.out.alloc B2.out.size (.cells #[.int .u64 x0,.int .u64 x1,.int .u64 x2] 199)).alloc MH (.cells #[.int .u64 y0,.int .u64 y1,.int .u64 y2] 199))
  obtain⟨V,hV⟩:∃V,V=(w2.alloc (.cells #[.int .u64 x0,.int .u64 x1,.int .u64 x2] 199)).alloc (.cells #[.int .u64 y0,.int .u64 y1,.int .u64 y2] 199):=⟨_,rfl⟩
  have P1:=hid (show Blk V w2.heap.size 199 #[.int .u64 x0,.int .u64 x1,.int .u64 x2] from Lh)
  have P2:=hid (show Blk V (w2.heap.size+1) 199 #[.int .u64 y0,.int .u64 y1,.int .u64 y2] from Ko)
  rw[<-hV] at BV|-
  clear hV B1 B2
  go_loopw[32] (fun iv wr=> ∃(k m:Nat),k<=3/\iv=.int .i64 k/\wr=V.drewN m/\Hid (∀j,j<k->dg X j=dg Y j)) (fun iv _=>3-(intOf iv).toNat)
  case atStart=>exact⟨0,0,ah,rfl,rfl,hid (fun j h=>ah)⟩
  case round=>
   obtain⟨k,m,hk,rfl,rfl,HE⟩:=hrel
   have BW:=hid (BV.out.trans ((iJ V m).mono BV.out.size))
   by_cases h0:k=0
   ·subst h0
    have cx:V.cell? ⟨w2.heap.size,0,none⟩=some (.int .u64 x0):=Blk.cell P1.out 0
    have cy:V.cell? ⟨w2.heap.size+1,0,none⟩=some (.int .u64 y0):=Blk.cell P2.out 0
    by_cases heq:x0=y0
    ·exact l17
    have e1:(x0==y0)=false:=iC
    have e2:(x0 !=y0)=true:=iC
    have HF:=hid (show dO ((cn:Nat)) (en:Nat) (d) (fn:Nat)=decide (y0<x0) by
     rw[HB.out]
     have h1:=hx0.out
     have h2:=hy0.out
     have h3:dg Y 0<dg X 0↔Y<X:=A0.out (fun hh=>heq ah)
     by_cases h:Y<X
     ·have:=h3.2 h;rw[decide_eq_true h,decide_eq_true ah]
     ·have: ¬dg Y 0<dg X 0:=fun hh=>h (h3.1 hh)
      rw[decide_eq_false h,decide_eq_false ah])
    exact l12
   by_cases h1:k=1
   ·subst h1
    have cx:V.cell? ⟨w2.heap.size,1,none⟩=some (.int .u64 x1):=Blk.cell P1.out 1
    have cy:V.cell? ⟨w2.heap.size+1,1,none⟩=some (.int .u64 y1):=Blk.cell P2.out 1
    by_cases heq:x1=y1
    ·exact l18
    have e1:(x1==y1)=false:=iC
    have e2:(x1 !=y1)=true:=iC
    have HF:=hid (show dO ((cn:Nat)) (en:Nat) (d) (fn:Nat)=decide (y1<x1) by
     rw[HB.out]
     have h1:=hx1.out
     have h2:=hy1.out
     have h3:dg Y 1<dg X 1↔Y<X:=A1.out (HE.out 0 ah) (fun hh=>heq ah)
     by_cases h:Y<X
     ·have:=h3.2 h;rw[decide_eq_true h,decide_eq_true ah]
     ·have: ¬dg Y 1<dg X 1:=fun hh=>h (h3.1 hh)
      rw[decide_eq_false h,decide_eq_false ah])
    exact l12
   by_cases h2:k=2
   ·subst h2
    have cx:V.cell? ⟨w2.heap.size,2,none⟩=some (.int .u64 x2):=Blk.cell P1.out 2
    have cy:V.cell? ⟨w2.heap.size+1,2,none⟩=some (.int .u64 y2):=Blk.cell P2.out 2
    by_cases heq:x2=y2
    ·exact l19
    have e1:(x2==y2)=false:=iC
    have e2:(x2 !=y2)=true:=iC
    have HF:=hid (show dO ((cn:Nat)) (en:Nat) (d) (fn:Nat)=decide (y2<x2) by
     rw[HB.out]
     have h1:=hx2.out
     have h2:=hy2.out
     have h3:dg Y 2<dg X 2↔Y<X:=A2.out (HE.out 0 ah) (HE.out 1 ah) (fun hh=>heq ah)
     by_cases h:Y<X
     ·have:=h3.2 h;rw[decide_eq_true h,decide_eq_true ah]
     ·have: ¬dg Y 2<dg X 2:=fun hh=>h (h3.1 hh)
      rw[decide_eq_false h,decide_eq_false ah])
    exact l12
   obtain rfl:k=3:=ah
   have HF:=hid (show dO ((cn:Nat)) (en:Nat) (d) (fn:Nat)=false by
    rw[HB.out]
    have:=A3.out (HE.out 0 ah) (HE.out 1 ah) (HE.out 2 ah)
    simp;omega)
   exact l98
 ·have hc2:c<0:=ah
  have HMC:max c 0=((0:Nat):Int):=zT hc2
  by_cases hd:0<=d
  ·obtain⟨dn,rfl⟩:=dP hd
   have HMD:max ((dn:Nat):Int) 0=(dn:Nat):=zS hd
   have K1:=vY 0 fn ah ah
   have K2:=vY dn en ah ah
   have HB:=hid (vZ (c:=0) (d:=dn) (c':=(c)) (d':=((dn:Nat))) (e:=(en:Nat)) (f:=(fn:Nat)) rfl rfl he hf HMC HMD)
   obtain⟨D0,D1,D2,D3⟩:=IK (0*0*fn) (dn*dn*en)
   generalize 0*0*fn=X at*
   generalize dn*dn*en=Y at*
   have A0:=hid D0
   have A1:=hid D1
   have A2:=hid D2
   have A3:=hid D3
   have hx0:=hid (show dgI X 0=(dg X 0:Nat) from rfl)
   have hx1:=hid (show dgI X 1=(dg X 1:Nat) from rfl)
   have hx2:=hid (show dgI X 2=(dg X 2:Nat) from rfl)
   have hy0:=hid (show dgI Y 0=(dg Y 0:Nat) from rfl)
   have hy1:=hid (show dgI Y 1=(dg Y 1:Nat) from rfl)
   have hy2:=hid (show dgI Y 2=(dg Y 2:Nat) from rfl)
   clear D0 D1 D2 D3
   generalize dgI X 0=x0 at*
   generalize dgI X 1=x1 at*
   generalize dgI X 2=x2 at*
   generalize dgI Y 0=y0 at*
   generalize dgI Y 1=y1 at*
   generalize dgI Y 2=y2 at*
   have K1':=hid K1
   have K2':=hid K2
   clear K1 K2
   go_enter Tryz.func162,Tryz.ntmps162
   go_wp2_with fail
   refine(K1'.out _).mono ?_
   rintro en1 w1 ⟨rfl,hB⟩
   have B1:=hid hB
   clear hB
   go_wp2_with fail
   refine(K2'.out _).mono ?_
   rintro en1 w2 ⟨rfl,hB⟩
   have B2:=hid (B1.out.trans (hB.mono B1.out.size))
   clear hB
   go_wp2
   have BV:=hid ((B2.out.alloc B2.out.size (.cells #[.int .u64 x0,.int .u64 x1,.int .u64 x2] 199)).alloc MH (.cells #[.int .u64 y0,.int .u64 y1,.int .u64 y2] 199))
   obtain⟨V,hV⟩:∃V,V=(w2.alloc (.cells #[.int .u64 x0,.int .u64 x1,.int .u64 x2] 199)).alloc (.cells #[.int .u64 y0,.int .u64 y1,.int .u64 y2] 199):=⟨_,rfl⟩
   have P1:=hid (show Blk V w2.heap.size 199 #[.int .u64 x0,.int .u64 x1,.int .u64 x2] from Lh)
   have P2:=hid (show Blk V (w2.heap.size+1) 199 #[.int .u64 y0,.int .u64 y1,.int .u64 y2] from Ko)
   rw[<-hV] at BV|-
   clear hV B1 B2
   go_loopw[32] (fun iv wr=> ∃(k m:Nat),k<=3/\iv=.int .i64 k/\wr=V.drewN m/\Hid (∀j,j<k->dg X j=dg Y j)) (fun iv _=>3-(intOf iv).toNat)
   case atStart=>exact⟨0,0,ah,rfl,rfl,hid (fun j h=>ah)⟩
   case round=>
    obtain⟨k,m,hk,rfl,rfl,HE⟩:=hrel
    have BW:=hid (BV.out.trans ((iJ V m).mono BV.out.size))
    by_cases h0:k=0
    ·subst h0
     have cx:V.cell? ⟨w2.heap.size,0,none⟩=some (.int .u64 x0):=Blk.cell P1.out 0
     have cy:V.cell? ⟨w2.heap.size+1,0,none⟩=some (.int .u64 y0):=Blk.cell P2.out 0
     by_cases heq:x0=y0
     ·exact l17
     have e1:(x0==y0)=false:=iC
     have e2:(x0 !=y0)=true:=iC
     have HF:=hid (show dO (c) (en:Nat) ((dn:Nat)) (fn:Nat)=decide (y0<x0) by
      rw[HB.out]
      have h1:=hx0.out
      have h2:=hy0.out
      have h3:dg Y 0<dg X 0↔Y<X:=A0.out (fun hh=>heq ah)
      by_cases h:Y<X
      ·have:=h3.2 h;rw[decide_eq_true h,decide_eq_true ah]
      ·have: ¬dg Y 0<dg X 0:=fun hh=>h (h3.1 hh)
       rw[decide_eq_false h,decide_eq_false ah])
     exact l12
    by_cases h1:k=1
    ·subst h1
     have cx:V.cell? ⟨w2.heap.size,1,none⟩=some (.int .u64 x1):=Blk.cell P1.out 1
     have cy:V.cell? ⟨w2.heap.size+1,1,none⟩=some (.int .u64 y1):=Blk.cell P2.out 1
     by_cases heq:x1=y1
     ·exact l18
     have e1:(x1==y1)=false:=iC
     have e2:(x1 !=y1)=true:=iC
     have HF:=hid (show dO (c) (en:Nat) ((dn:Nat)) (fn:Nat)=decide (y1<x1) by
      rw[HB.out]
      have h1:=hx1.out
      have h2:=hy1.out
      have h3:dg Y 1<dg X 1↔Y<X:=A1.out (HE.out 0 ah) (fun hh=>heq ah)
      by_cases h:Y<X
      ·have:=h3.2 h;rw[decide_eq_true h,decide_eq_true ah]
      ·have: ¬dg Y 1<dg X 1:=fun hh=>h (h3.1 hh)
       rw[decide_eq_false h,decide_eq_false ah])
     exact l12
    by_cases h2:k=2
    ·subst h2
     have cx:V.cell? ⟨w2.heap.size,2,none⟩=some (.int .u64 x2):=Blk.cell P1.out 2
     have cy:V.cell? ⟨w2.heap.size+1,2,none⟩=some (.int .u64 y2):=Blk.cell P2.out 2
     by_cases heq:x2=y2
     ·exact l19
     have e1:(x2==y2)=false:=iC
     have e2:(x2 !=y2)=true:=iC
     have HF:=hid (show dO (c) (en:Nat) ((dn:Nat)) (fn:Nat)=decide (y2<x2) by
      rw[HB.out]
      have h1:=hx2.out
      have h2:=hy2.out
      have h3:dg Y 2<dg X 2↔Y<X:=A2.out (HE.out 0 ah) (HE.out 1 ah) (fun hh=>heq ah)
      by_cases h:Y<X
      ·have:=h3.2 h;rw[decide_eq_true h,decide_eq_true ah]
      ·have: ¬dg Y 2<dg X 2:=fun hh=>h (h3.1 hh)
       rw[decide_eq_false h,decide_eq_false ah])
     exact l12
    obtain rfl:k=3:=ah
    have HF:=hid (show dO (c) (en:Nat) ((dn:Nat)) (fn:Nat)=false by
     rw[HB.out]
     have:=A3.out (HE.out 0 ah) (HE.out 1 ah) (HE.out 2 ah)
     simp;omega)
    exact l98
  have hd2:d<0:=ah
  have HMD:max d 0=((0:Nat):Int):=zT hd2
  have K1:=vY 0 fn ah ah
  have K2:=vY 0 en ah ah
  have HB:=hid (vZ (c:=0) (d:=0) (c':=(c)) (d':=(d)) (e:=(en:Nat)) (f:=(fn:Nat)) rfl rfl he hf HMC HMD)
  obtain⟨D0,D1,D2,D3⟩:=IK (0*0*fn) (0*0*en)
  generalize 0*0*fn=X at*
  generalize 0*0*en=Y at*
  have A0:=hid D0
  have A1:=hid D1
  have A2:=hid D2
  have A3:=hid D3
  have hx0:=hid (show dgI X 0=(dg X 0:Nat) from rfl)
  have hx1:=hid (show dgI X 1=(dg X 1:Nat) from rfl)
  have hx2:=hid (show dgI X 2=(dg X 2:Nat) from rfl)
  have hy0:=hid (show dgI Y 0=(dg Y 0:Nat) from rfl)
  have hy1:=hid (show dgI Y 1=(dg Y 1:Nat) from rfl)
  have hy2:=hid (show dgI Y 2=(dg Y 2:Nat) from rfl)
  clear D0 D1 D2 D3
  generalize dgI X 0=x0 at*
  generalize dgI X 1=x1 at*
  generalize dgI X 2=x2 at*
  generalize dgI Y 0=y0 at*
  generalize dgI Y 1=y1 at*
  generalize dgI Y 2=y2 at*
  have K1':=hid K1
  have K2':=hid K2
  clear K1 K2
  go_enter Tryz.func162,Tryz.ntmps162
  go_wp2_with fail
  refine(K1'.out _).mono ?_
  rintro en1 w1 ⟨rfl,hB⟩
  have B1:=hid hB
  clear hB
  go_wp2_with fail
  refine(K2'.out _).mono ?_
  rintro en1 w2 ⟨rfl,hB⟩
  have B2:=hid (B1.out.trans (hB.mono B1.out.size))
  clear hB
  go_wp2
  have BV:=hid ((B2.out.alloc B2.out.size (.cells #[.int .u64 x0,.int .u64 x1,.int .u64 x2] 199)).alloc MH (.cells #[.int .u64 y0,.int .u64 y1,.int .u64 y2] 199))
  obtain⟨V,hV⟩:∃V,V=(w2.alloc (.cells #[.int .u64 x0,.int .u64 x1,.int .u64 x2] 199)).alloc (.cells #[.int .u64 y0,.int .u64 y1,.int .u64 y2] 199):=⟨_,rfl⟩
  have P1:=hid (show Blk V w2.heap.size 199 #[.int .u64 x0,.int .u64 x1,.int .u64 x2] from Lh)
  have P2:=hid (show Blk V (w2.heap.size+1) 199 #[.int .u64 y0,.int .u64 y1,.int .u64 y2] from Ko)
  rw[<-hV] at BV|-
  clear hV B1 B2
  go_loopw[32] (fun iv wr=> ∃(k m:Nat),k<=3/\iv=.int .i64 k/\wr=V.drewN m/\Hid (∀j,j<k->dg X j=dg Y j)) (fun iv _=>3-(intOf iv).toNat)
  case atStart=>exact⟨0,0,ah,rfl,rfl,hid (fun j h=>ah)⟩
  case round=>
   obtain⟨k,m,hk,rfl,rfl,HE⟩:=hrel
   have BW:=hid (BV.out.trans ((iJ V m).mono BV.out.size))
   by_cases h0:k=0
   ·subst h0
    have cx:V.cell? ⟨w2.heap.size,0,none⟩=some (.int .u64 x0):=Blk.cell P1.out 0
    have cy:V.cell? ⟨w2.heap.size+1,0,none⟩=some (.int .u64 y0):=Blk.cell P2.out 0
    by_cases heq:x0=y0
    ·exact l17
    have e1:(x0==y0)=false:=iC
    have e2:(x0 !=y0)=true:=iC
    have HF:=hid (show dO (c) (en:Nat) (d) (fn:Nat)=decide (y0<x0) by
     rw[HB.out]
     have h1:=hx0.out
     have h2:=hy0.out
     have h3:dg Y 0<dg X 0↔Y<X:=A0.out (fun hh=>heq ah)
     by_cases h:Y<X
     ·have:=h3.2 h;rw[decide_eq_true h,decide_eq_true ah]
     ·have: ¬dg Y 0<dg X 0:=fun hh=>h (h3.1 hh)
      rw[decide_eq_false h,decide_eq_false ah])
    exact l12
   by_cases h1:k=1
   ·subst h1
    have cx:V.cell? ⟨w2.heap.size,1,none⟩=some (.int .u64 x1):=Blk.cell P1.out 1
    have cy:V.cell? ⟨w2.heap.size+1,1,none⟩=some (.int .u64 y1):=Blk.cell P2.out 1
    by_cases heq:x1=y1
    ·exact l18
    have e1:(x1==y1)=false:=iC
    have e2:(x1 !=y1)=true:=iC
    have HF:=hid (show dO (c) (en:Nat) (d) (fn:Nat)=decide (y1<x1) by
     rw[HB.out]
     have h1:=hx1.out
     have h2:=hy1.out
     have h3:dg Y 1<dg X 1↔Y<X:=A1.out (HE.out 0 ah) (fun hh=>heq ah)
     by_cases h:Y<X
     ·have:=h3.2 h;rw[decide_eq_true h,decide_eq_true ah]
     ·have: ¬dg Y 1<dg X 1:=fun hh=>h (h3.1 hh)
      rw[decide_eq_false h,decide_eq_false ah])
    exact l12
   by_cases h2:k=2
   ·subst h2
    have cx:V.cell? ⟨w2.heap.size,2,none⟩=some (.int .u64 x2):=Blk.cell P1.out 2
    have cy:V.cell? ⟨w2.heap.size+1,2,none⟩=some (.int .u64 y2):=Blk.cell P2.out 2
    by_cases heq:x2=y2
    ·exact l19
    have e1:(x2==y2)=false:=iC
    have e2:(x2 !=y2)=true:=iC
    have HF:=hid (show dO (c) (en:Nat) (d) (fn:Nat)=decide (y2<x2) by
     rw[HB.out]
     have h1:=hx2.out
     have h2:=hy2.out
     have h3:dg Y 2<dg X 2↔Y<X:=A2.out (HE.out 0 ah) (HE.out 1 ah) (fun hh=>heq ah)
     by_cases h:Y<X
     ·have:=h3.2 h;rw[decide_eq_true h,decide_eq_true ah]
     ·have: ¬dg Y 2<dg X 2:=fun hh=>h (h3.1 hh)
      rw[decide_eq_false h,decide_eq_false ah])
    exact l12
   obtain rfl:k=3:=ah
   have HF:=hid (show dO (c) (en:Nat) (d) (fn:Nat)=false by
    rw[HB.out]
    have:=A3.out (HE.out 0 ah) (HE.out 1 ah) (HE.out 2 ah)
    simp;omega)
   exact l98
theorem IP(x y:Int):decide (0<gU x y)=decide (y<x):=by
 unfold gU
 by_cases h1:x<y
 ·rw[if_pos h1,decide_eq_false (by omega: ¬y<x)];decide
 rw[if_neg h1]
 by_cases h2:y<x
 ·rw[if_pos h2,decide_eq_true h2];decide
 rw[if_neg h2,decide_eq_false h2];decide
theorem wu{a:Nat}(h:a<=9223372036854775807):(((a:Nat):Int)*(a:Nat)).natAbs<340282366920938463463374607431768211456:=by
 have:a*a<=9223372036854775807*9223372036854775807:=Nat.mul_le_mul h h
 have e:(((a:Nat):Int)*(a:Nat))=((a*a:Nat):Int):=az
 rw[e]
 omega
theorem ww{a b:Nat}(h:a<=9223372036854775807)(hb:b<=9223372036854775807):Sm (((a:Nat):Int)*(a:Nat)*(b:Nat)).natAbs:=by
 have h1:a*a<=9223372036854775807*9223372036854775807:=Nat.mul_le_mul h h
 have h2:a*a*b<=9223372036854775807*9223372036854775807*9223372036854775807:=Nat.mul_le_mul h1 hb
 have e:(((a:Nat):Int)*(a:Nat)*(b:Nat))=((a*a*b:Nat):Int):=az
 rw[e]
 unfold Sm
 exact Nat.lt_of_le_of_lt h2 aB
theorem YA(c e d f:Int)(w:World)(c1: -9223372036854775808<=c)(c2:c<=9223372036854775807)(e1: -9223372036854775808<=e)(e2:e<=9223372036854775807)(d1: -9223372036854775808<=d)(d2:d<=9223372036854775807)(f1: -9223372036854775808<=f)(f2:f<=9223372036854775807):
 Calls Tryz.prog 177 #[.int .i64 c,.int .i64 e,.int .i64 d,.int .i64 f] w fun en w'=>en=.returned (.bool (dO c e d f))/\Below w.heap.size w w':=by
 by_cases he:e<=0
 ·have FIN:=hid (Yy (c:=c) (d:=d) (f:=f) he)
  go_enter Tryz.func177,Tryz.ntmps177
  exact l55
 by_cases hf:f<=0
 ·have FIN:=hid (QQ (c:=c) (d:=d) (f:=f) (e:=e) ah hf)
  go_enter Tryz.func177,Tryz.ntmps177
  exact l55
 obtain⟨en,rfl⟩:=dP (show 0<=e from ah)
 obtain⟨fn,rfl⟩:=dP (show 0<=f from ah)
 have he:0<((en:Nat):Int):=ah
 have hf:0<((fn:Nat):Int):=ah
 by_cases hc:0<=c
 ·obtain⟨cn,rfl⟩:=dP hc
  have HMC:max ((cn:Nat):Int) 0=(cn:Nat):=zS hc
  by_cases hd:0<=d
  ·obtain⟨dn,rfl⟩:=dP hd
   have HMD:max ((dn:Nat):Int) 0=(dn:Nat):=zS hd
   have HB:=hid (vZ (c:=cn) (d:=dn) (c':=((cn:Nat))) (d':=((dn:Nat))) (e:=(en:Nat)) (f:=(fn:Nat)) rfl rfl he hf HMC HMD)
   have qc:((cn:Nat):Int)<=9223372036854775807:=ah
   have qd:((dn:Nat):Int)<=9223372036854775807:=ah
   have sqc:=wu (a:=cn) ah
   have sqd:=wu (a:=dn) ah
   have cuc:=ww (a:=cn) (b:=fn) ah ah
   have cud:=ww (a:=dn) (b:=en) ah ah
   have KW1:=hid (fun W=>fJ W ((cn:Nat):Int) ah ah)
   have KW2:=hid (fun W=>fJ W ((dn:Nat):Int) ah ah)
   have KW3:=hid (fun W=>fJ W ((fn:Nat):Int) ah ah)
   have KW4:=hid (fun W=>fJ W ((en:Nat):Int) ah ah)
   have SQC:=hid sqc
   have SQD:=hid sqd
   have CUC:=hid cuc
   have CUD:=hid cud
   clear sqc sqd cuc cud
   go_enter Tryz.func177,Tryz.ntmps177
   go_wp2_with fail
   refine(KW1.out _).mono ?_
   rintro en1 w1 ⟨b1,rfl,hb1,hI1,hB⟩
   have I1:=hid hI1
   have B1:=hid hB
   clear hI1 hB
   go_wp2_with fail
   refine(KW2.out _).mono ?_
   rintro en1 w2 ⟨b2,rfl,hb2,hI2,hB⟩
   have I2:=hid hI2
   have J1:=hid (I1.out.below hB (al0z _))
   have B2:=hid (B1.out.trans (hB.mono B1.out.size))
   have l1:=I1.out.lt
   have s1:=B1.out.size
   have ne12:b1≠b2:=ah
   clear hI2 hB
   go_wp2_with fail
   refine(iK w2 b1 b1 b1 (cn:Nat) (cn:Nat) J1.out.blk J1.out J1.out (aW ah) (aW ah)).mono ?_
   rintro en1 w3 ⟨rfl,hI3,hG⟩
   have J3:=hid hI3
   have K3:=hid (I2.out.kept J1.out.blk hG (fun h=>ne12 h.symm))
   have B3:=hid (bK B2.out hG hb1)
   clear hI3 hG
   go_wp2_with fail
   refine(KW3.out _).mono ?_
   rintro en1 w4 ⟨b4,rfl,hb4,hI4,hB⟩
   have J4:=hid (J3.out.below hB (al0z _))
   have K4:=hid (K3.out.below hB (al0z _))
   have I4:=hid hI4
   have B4:=hid (B3.out.trans (hB.mono B3.out.size))
   clear hI4 hB
   go_wp2_with fail
   refine(iK w4 b1 b1 b4 ((cn:Nat)*(cn:Nat)) (fn:Nat) J4.out.blk J4.out I4.out (aW SQC.out) (aW ah)).mono ?_
   rintro en1 w5 ⟨rfl,hI5,hG⟩
   have J5:=hid hI5
   have K5:=hid (K4.out.kept J4.out.blk hG (fun h=>ne12 h.symm))
   have B5:=hid (bK B4.out hG hb1)
   clear hI5 hG
   go_wp2_with fail
   refine(iK w5 b2 b2 b2 (dn:Nat) (dn:Nat) K5.out.blk K5.out K5.out (aW ah) (aW ah)).mono ?_
   rintro en1 w6 ⟨rfl,hI6,hG⟩
   have K6:=hid hI6
   have J6:=hid (J5.out.kept K5.out.blk hG ne12)
   have B6:=hid (bK B5.out hG ah)
   clear hI6 hG
   go_wp2_with fail
   refine(KW4.out _).mono ?_
   rintro en1 w7 ⟨b7,rfl,hb7,hI7,hB⟩
   have J7:=hid (J6.out.below hB (al0z _))
   have K7:=hid (K6.out.below hB (al0z _))
   have I7:=hid hI7
   have B7:=hid (B6.out.trans (hB.mono B6.out.size))
   clear hI7 hB
   go_wp2_with fail
   refine(iK w7 b2 b2 b7 ((dn:Nat)*(dn:Nat)) (en:Nat) K7.out.blk K7.out I7.out (aW SQD.out) (aW ah)).mono ?_
   rintro en1 w8 ⟨rfl,hI8,hG⟩
   have K8:=hid hI8
   have J8:=hid (J7.out.kept K7.out.blk hG ne12)
   have B8:=hid (bK B7.out hG ah)
   clear hI8 hG
   have KC:=hid (xO w8 b1 b2 ((cn:Nat)*(cn:Nat)*(fn:Nat)) ((dn:Nat)*(dn:Nat)*(en:Nat)) J8.out K8.out CUC.out CUD.out)
   have HZ:=hid (show dO ((cn:Nat)) (en:Nat) ((dn:Nat)) (fn:Nat)=decide (0<gU ((cn:Nat)*(cn:Nat)*(fn:Nat)) ((dn:Nat)*(dn:Nat)*(en:Nat))) by
    rw[HB.out,IP]
    have q1:(((cn:Nat):Int)*(cn:Nat)*(fn:Nat))=((cn*cn*fn:Nat):Int):=az
    have q2:(((dn:Nat):Int)*(dn:Nat)*(en:Nat))=((dn*dn*en:Nat):Int):=az
    rw[q1,q2]
    by_cases h:dn*dn*en<cn*cn*fn
    ·rw[decide_eq_true h,decide_eq_true ah]
    ·rw[decide_eq_false h,decide_eq_false ah])
   generalize gU ((cn:Nat)*(cn:Nat)*(fn:Nat)) ((dn:Nat)*(dn:Nat)*(en:Nat))=z at*
   exact l48
  have hd2:d<0:=ah
  have HMD:max d 0=((0:Nat):Int):=zT hd2
  have HB:=hid (vZ (c:=cn) (d:=0) (c':=((cn:Nat))) (d':=(d)) (e:=(en:Nat)) (f:=(fn:Nat)) rfl rfl he hf HMC HMD)
  have qc:((cn:Nat):Int)<=9223372036854775807:=ah
  have qd:((0:Nat):Int)<=9223372036854775807:=ah
  have sqc:=wu (a:=cn) ah
  have sqd:=wu (a:=0) ah
  have cuc:=ww (a:=cn) (b:=fn) ah ah
  have cud:=ww (a:=0) (b:=en) ah ah
  have KW1:=hid (fun W=>fJ W ((cn:Nat):Int) ah ah)
  have KW2:=hid (fun W=>fJ W ((0:Nat):Int) ah ah)
  have KW3:=hid (fun W=>fJ W ((fn:Nat):Int) ah ah)
  have KW4:=hid (fun W=>fJ W ((en:Nat):Int) ah ah)
  have SQC:=hid sqc
  have SQD:=hid sqd
  have CUC:=hid cuc
  have CUD:=hid cud
  clear sqc sqd cuc cud
  go_enter Tryz.func177,Tryz.ntmps177
  go_wp2_with fail
  refine(KW1.out _).mono ?_
  rintro en1 w1 ⟨b1,rfl,hb1,hI1,hB⟩
  have I1:=hid hI1
  have B1:=hid hB
  clear hI1 hB
  go_wp2_with fail
  refine(KW2.out _).mono ?_
  rintro en1 w2 ⟨b2,rfl,hb2,hI2,hB⟩
  have I2:=hid hI2
  have J1:=hid (I1.out.below hB (al0z _))
  have B2:=hid (B1.out.trans (hB.mono B1.out.size))
  have l1:=I1.out.lt
  have s1:=B1.out.size
  have ne12:b1≠b2:=ah
  clear hI2 hB
  go_wp2_with fail
  refine(iK w2 b1 b1 b1 (cn:Nat) (cn:Nat) J1.out.blk J1.out J1.out (aW ah) (aW ah)).mono ?_
  rintro en1 w3 ⟨rfl,hI3,hG⟩
  have J3:=hid hI3
  have K3:=hid (I2.out.kept J1.out.blk hG (fun h=>ne12 h.symm))
  have B3:=hid (bK B2.out hG hb1)
  clear hI3 hG
  go_wp2_with fail
  refine(KW3.out _).mono ?_
  rintro en1 w4 ⟨b4,rfl,hb4,hI4,hB⟩
  have J4:=hid (J3.out.below hB (al0z _))
  have K4:=hid (K3.out.below hB (al0z _))
  have I4:=hid hI4
  have B4:=hid (B3.out.trans (hB.mono B3.out.size))
  clear hI4 hB
  go_wp2_with fail
  refine(iK w4 b1 b1 b4 ((cn:Nat)*(cn:Nat)) (fn:Nat) J4.out.blk J4.out I4.out (aW SQC.out) (aW ah)).mono ?_
  rintro en1 w5 ⟨rfl,hI5,hG⟩
  have J5:=hid hI5
  have K5:=hid (K4.out.kept J4.out.blk hG (fun h=>ne12 h.symm))
  have B5:=hid (bK B4.out hG hb1)
  clear hI5 hG
  go_wp2_with fail
  refine(iK w5 b2 b2 b2 (0:Nat) (0:Nat) K5.out.blk K5.out K5.out (aW ah) (aW ah)).mono ?_
  rintro en1 w6 ⟨rfl,hI6,hG⟩
  have K6:=hid hI6
  have J6:=hid (J5.out.kept K5.out.blk hG ne12)
  have B6:=hid (bK B5.out hG ah)
  clear hI6 hG
  go_wp2_with fail
  refine(KW4.out _).mono ?_
  rintro en1 w7 ⟨b7,rfl,hb7,hI7,hB⟩
  have J7:=hid (J6.out.below hB (al0z _))
  have K7:=hid (K6.out.below hB (al0z _))
  have I7:=hid hI7
  have B7:=hid (B6.out.trans (hB.mono B6.out.size))
  clear hI7 hB
  go_wp2_with fail
  refine(iK w7 b2 b2 b7 ((0:Nat)*(0:Nat)) (en:Nat) K7.out.blk K7.out I7.out (aW SQD.out) (aW ah)).mono ?_
  rintro en1 w8 ⟨rfl,hI8,hG⟩
  have K8:=hid hI8
  have J8:=hid (J7.out.kept K7.out.blk hG ne12)
  have B8:=hid (bK B7.out hG ah)
  clear hI8 hG
  have KC:=hid (xO w8 b1 b2 ((cn:Nat)*(cn:Nat)*(fn:Nat)) ((0:Nat)*(0:Nat)*(en:Nat)) J8.out K8.out CUC.out CUD.out)
  have HZ:=hid (show dO ((cn:Nat)) (en:Nat) (d) (fn:Nat)=decide (0<gU ((cn:Nat)*(cn:Nat)*(fn:Nat)) ((0:Nat)*(0:Nat)*(en:Nat))) by
   rw[HB.out,IP]
   have q1:(((cn:Nat):Int)*(cn:Nat)*(fn:Nat))=((cn*cn*fn:Nat):Int):=az
   have q2:(((0:Nat):Int)*(0:Nat)*(en:Nat))=((0*0*en:Nat):Int):=az
   rw[q1,q2]
   by_cases h:0*0*en<cn*cn*fn
   ·rw[decide_eq_true h,decide_eq_true ah]
   ·rw[decide_eq_false h,decide_eq_false ah])
  generalize gU ((cn:Nat)*(cn:Nat)*(fn:Nat)) ((0:Nat)*(0:Nat)*(en:Nat))=z at*
  exact l48
 ·have hc2:c<0:=ah
  have HMC:max c 0=((0:Nat):Int):=zT hc2
  by_cases hd:0<=d
  ·obtain⟨dn,rfl⟩:=dP hd
   have HMD:max ((dn:Nat):Int) 0=(dn:Nat):=zS hd
   have HB:=hid (vZ (c:=0) (d:=dn) (c':=(c)) (d':=((dn:Nat))) (e:=(en:Nat)) (f:=(fn:Nat)) rfl rfl he hf HMC HMD)
   have qc:((0:Nat):Int)<=9223372036854775807:=ah
   have qd:((dn:Nat):Int)<=9223372036854775807:=ah
   have sqc:=wu (a:=0) ah
   have sqd:=wu (a:=dn) ah
   have cuc:=ww (a:=0) (b:=fn) ah ah
   have cud:=ww (a:=dn) (b:=en) ah ah
   have KW1:=hid (fun W=>fJ W ((0:Nat):Int) ah ah)
   have KW2:=hid (fun W=>fJ W ((dn:Nat):Int) ah ah)
   have KW3:=hid (fun W=>fJ W ((fn:Nat):Int) ah ah)
   have KW4:=hid (fun W=>fJ W ((en:Nat):Int) ah ah)
   have SQC:=hid sqc
   have SQD:=hid sqd
   have CUC:=hid cuc
   have CUD:=hid cud
   clear sqc sqd cuc cud
   go_enter Tryz.func177,Tryz.ntmps177
   go_wp2_with fail
   refine(KW1.out _).mono ?_
   rintro en1 w1 ⟨b1,rfl,hb1,hI1,hB⟩
   have I1:=hid hI1
   have B1:=hid hB
   clear hI1 hB
   go_wp2_with fail
   refine(KW2.out _).mono ?_
   rintro en1 w2 ⟨b2,rfl,hb2,hI2,hB⟩
   have I2:=hid hI2
   have J1:=hid (I1.out.below hB (al0z _))
   have B2:=hid (B1.out.trans (hB.mono B1.out.size))
   have l1:=I1.out.lt
   have s1:=B1.out.size
   have ne12:b1≠b2:=ah
   clear hI2 hB
   go_wp2_with fail
   refine(iK w2 b1 b1 b1 (0:Nat) (0:Nat) J1.out.blk J1.out J1.out (aW ah) (aW ah)).mono ?_
   rintro en1 w3 ⟨rfl,hI3,hG⟩
   have J3:=hid hI3
   have K3:=hid (I2.out.kept J1.out.blk hG (fun h=>ne12 h.symm))
   have B3:=hid (bK B2.out hG hb1)
   clear hI3 hG
   go_wp2_with fail
   refine(KW3.out _).mono ?_
   rintro en1 w4 ⟨b4,rfl,hb4,hI4,hB⟩
   have J4:=hid (J3.out.below hB (al0z _))
   have K4:=hid (K3.out.below hB (al0z _))
   have I4:=hid hI4
   have B4:=hid (B3.out.trans (hB.mono B3.out.size))
   clear hI4 hB
   go_wp2_with fail
   refine(iK w4 b1 b1 b4 ((0:Nat)*(0:Nat)) (fn:Nat) J4.out.blk J4.out I4.out (aW SQC.out) (aW ah)).mono ?_
   rintro en1 w5 ⟨rfl,hI5,hG⟩
   have J5:=hid hI5
   have K5:=hid (K4.out.kept J4.out.blk hG (fun h=>ne12 h.symm))
   have B5:=hid (bK B4.out hG hb1)
   clear hI5 hG
   go_wp2_with fail
   refine(iK w5 b2 b2 b2 (dn:Nat) (dn:Nat) K5.out.blk K5.out K5.out (aW ah) (aW ah)).mono ?_
   rintro en1 w6 ⟨rfl,hI6,hG⟩
   have K6:=hid hI6
   have J6:=hid (J5.out.kept K5.out.blk hG ne12)
   have B6:=hid (bK B5.out hG ah)
   clear hI6 hG
   go_wp2_with fail
   refine(KW4.out _).mono ?_
   rintro en1 w7 ⟨b7,rfl,hb7,hI7,hB⟩
   have J7:=hid (J6.out.below hB (al0z _))
   have K7:=hid (K6.out.below hB (al0z _))
   have I7:=hid hI7
   have B7:=hid (B6.out.trans (hB.mono B6.out.size))
   clear hI7 hB
   go_wp2_with fail
   refine(iK w7 b2 b2 b7 ((dn:Nat)*(dn:Nat)) (en:Nat) K7.out.blk K7.out I7.out (aW SQD.out) (aW ah)).mono ?_
   rintro en1 w8 ⟨rfl,hI8,hG⟩
   have K8:=hid hI8
   have J8:=hid (J7.out.kept K7.out.blk hG ne12)
   have B8:=hid (bK B7.out hG ah)
   clear hI8 hG
   have KC:=hid (xO w8 b1 b2 ((0:Nat)*(0:Nat)*(fn:Nat)) ((dn:Nat)*(dn:Nat)*(en:Nat)) J8.out K8.out CUC.out CUD.out)
   have HZ:=hid (show dO (c) (en:Nat) ((dn:Nat)) (fn:Nat)=decide (0<gU ((0:Nat)*(0:Nat)*(fn:Nat)) ((dn:Nat)*(dn:Nat)*(en:Nat))) by
    rw[HB.out,IP]
    have q1:(((0:Nat):Int)*(0:Nat)*(fn:Nat))=((0*0*fn:Nat):Int):=az
    have q2:(((dn:Nat):Int)*(dn:Nat)*(en:Nat))=((dn*dn*en:Nat):Int):=az
    rw[q1,q2]
    by_cases h:dn*dn*en<0*0*fn
    ·rw[decide_eq_true h,decide_eq_true ah]
    ·rw[decide_eq_false h,decide_eq_false ah])
   generalize gU ((0:Nat)*(0:Nat)*(fn:Nat)) ((dn:Nat)*(dn:Nat)*(en:Nat))=z at*
   exact l48
  have hd2:d<0:=ah
  have HMD:max d 0=((0:Nat):Int):=zT hd2
  have HB:=hid (vZ (c:=0) (d:=0) (c':=(c)) (d':=(d)) (e:=(en:Nat)) (f:=(fn:Nat)) rfl rfl he hf HMC HMD)
  have qc:((0:Nat):Int)<=9223372036854775807:=ah
  have qd:((0:Nat):Int)<=9223372036854775807:=ah
  have sqc:=wu (a:=0) ah
  have sqd:=wu (a:=0) ah
  have cuc:=ww (a:=0) (b:=fn) ah ah
  have cud:=ww (a:=0) (b:=en) ah ah
  have KW1:=hid (fun W=>fJ W ((0:Nat):Int) ah ah)
  have KW2:=hid (fun W=>fJ W ((0:Nat):Int) ah ah)
  have KW3:=hid (fun W=>fJ W ((fn:Nat):Int) ah ah)
  have KW4:=hid (fun W=>fJ W ((en:Nat):Int) ah ah)
  have SQC:=hid sqc
  have SQD:=hid sqd
  have CUC:=hid cuc
  have CUD:=hid cud
  clear sqc sqd cuc cud
  go_enter Tryz.func177,Tryz.ntmps177
  go_wp2_with fail
  refine(KW1.out _).mono ?_
  rintro en1 w1 ⟨b1,rfl,hb1,hI1,hB⟩
  have I1:=hid hI1
  have B1:=hid hB
  clear hI1 hB
  go_wp2_with fail
  refine(KW2.out _).mono ?_
  rintro en1 w2 ⟨b2,rfl,hb2,hI2,hB⟩
  have I2:=hid hI2
  have J1:=hid (I1.out.below hB (al0z _))
  have B2:=hid (B1.out.trans (hB.mono B1.out.size))
  have l1:=I1.out.lt
  have s1:=B1.out.size
  have ne12:b1≠b2:=ah
  clear hI2 hB
  go_wp2_with fail
  refine(iK w2 b1 b1 b1 (0:Nat) (0:Nat) J1.out.blk J1.out J1.out (aW ah) (aW ah)).mono ?_
  rintro en1 w3 ⟨rfl,hI3,hG⟩
  have J3:=hid hI3
  have K3:=hid (I2.out.kept J1.out.blk hG (fun h=>ne12 h.symm))
  have B3:=hid (bK B2.out hG hb1)
  clear hI3 hG
  go_wp2_with fail
  refine(KW3.out _).mono ?_
  rintro en1 w4 ⟨b4,rfl,hb4,hI4,hB⟩
  have J4:=hid (J3.out.below hB (al0z _))
  have K4:=hid (K3.out.below hB (al0z _))
  have I4:=hid hI4
  have B4:=hid (B3.out.trans (hB.mono B3.out.size))
  clear hI4 hB
  go_wp2_with fail
  refine(iK w4 b1 b1 b4 ((0:Nat)*(0:Nat)) (fn:Nat) J4.out.blk J4.out I4.out (aW SQC.out) (aW ah)).mono ?_
  rintro en1 w5 ⟨rfl,hI5,hG⟩
  have J5:=hid hI5
  have K5:=hid (K4.out.kept J4.out.blk hG (fun h=>ne12 h.symm))
  have B5:=hid (bK B4.out hG hb1)
  clear hI5 hG
  go_wp2_with fail
  refine(iK w5 b2 b2 b2 (0:Nat) (0:Nat) K5.out.blk K5.out K5.out (aW ah) (aW ah)).mono ?_
  rintro en1 w6 ⟨rfl,hI6,hG⟩
  have K6:=hid hI6
  have J6:=hid (J5.out.kept K5.out.blk hG ne12)
  have B6:=hid (bK B5.out hG ah)
  clear hI6 hG
  go_wp2_with fail
  refine(KW4.out _).mono ?_
  rintro en1 w7 ⟨b7,rfl,hb7,hI7,hB⟩
  have J7:=hid (J6.out.below hB (al0z _))
  have K7:=hid (K6.out.below hB (al0z _))
  have I7:=hid hI7
  have B7:=hid (B6.out.trans (hB.mono B6.out.size))
  clear hI7 hB
  go_wp2_with fail
  refine(iK w7 b2 b2 b7 ((0:Nat)*(0:Nat)) (en:Nat) K7.out.blk K7.out I7.out (aW SQD.out) (aW ah)).mono ?_
  rintro en1 w8 ⟨rfl,hI8,hG⟩
  have K8:=hid hI8
  have J8:=hid (J7.out.kept K7.out.blk hG ne12)
  have B8:=hid (bK B7.out hG ah)
  clear hI8 hG
  have KC:=hid (xO w8 b1 b2 ((0:Nat)*(0:Nat)*(fn:Nat)) ((0:Nat)*(0:Nat)*(en:Nat)) J8.out K8.out CUC.out CUD.out)
  have HZ:=hid (show dO (c) (en:Nat) (d) (fn:Nat)=decide (0<gU ((0:Nat)*(0:Nat)*(fn:Nat)) ((0:Nat)*(0:Nat)*(en:Nat))) by
   rw[HB.out,IP]
   have q1:(((0:Nat):Int)*(0:Nat)*(fn:Nat))=((0*0*fn:Nat):Int):=az
   have q2:(((0:Nat):Int)*(0:Nat)*(en:Nat))=((0*0*en:Nat):Int):=az
   rw[q1,q2]
   by_cases h:0*0*en<0*0*fn
   ·rw[decide_eq_true h,decide_eq_true ah]
   ·rw[decide_eq_false h,decide_eq_false ah])
  generalize gU ((0:Nat)*(0:Nat)*(fn:Nat)) ((0:Nat)*(0:Nat)*(en:Nat))=z at*
  exact l48
theorem YC(A A2:Option Addr)(cA cB n m:Nat)(xs ys:List Int)(w:World)(hx:Rs w w.heap.size A xs)(hy:Rs w w.heap.size A2 ys)(hn:xs.length=n)(hm:ys.length=m)(hnm:n<=m)(hl:n<=1000)(h1:eG xs)(h2:eG ys):
 Calls Tryz.prog 161 #[.slice A n cA,.slice A2 m cB] w fun e w'=>e=.returned (.int .i64 (bz xs ys n))/\w=w':=by
 have HX:=hid hx
 have HY:=hid hy
 have HN:=hid hn
 have HM:=hid hm
 have H1:=hid h1
 have H2:=hid h2
 clear hx hy hn hm h1 h2
 go_enter Tryz.func161,Tryz.ntmps161
 go_wp2
 go_loop [5,10] (fun sv iv=> ∃(k:Nat) (s:Int),k<=n/\iv=.int .i64 k/\sv=.int .i64 s/\Hid (s=bz xs ys k)) (fun _ iv=>n-(intOf iv).toNat)
 case atStart=>exact⟨0,0,ah,rfl,rfl,hid rfl⟩
 case round=>
  exact l30
theorem YD(x:Int):0<=x*x:=by
 rcases Int.le_total 0 x with h|h
 ·exact Int.mul_nonneg h h
 have:=Int.mul_nonneg (show 0<= -x from ah) (show 0<= -x from ah)
 rwa [Int.neg_mul_neg] at this
theorem QR(b:List Int)(n:Nat):0<=bz b b n:=by
 unfold bz
 induction n with
 |zero=>simp[aI]
 |succ n ih=>
  simp only[aI]
  have:0<=qM b b n:=by unfold qM;exact YD _
  omega
theorem agT{b:List Int}{n:Nat}(h:bz b b n=0):∀i,i<n->b.getD i 0=0:=by
 induction n with
 |zero=>intro i hi;omega
 |succ n ih=>
  intro i hi
  have h1:=QR b n
  have h2:0<=qM b b n:=by unfold qM;exact YD _
  have h3:bz b b n+qM b b n=0:=h
  by_cases e:i=n
  ·subst e
   have h4:b.getD i 0*b.getD i 0=0:=by unfold qM at h3 h2;omega
   rcases Int.mul_eq_zero.1 h4 with h5|h5<;>exact h5
  exact ih ah i ah
theorem YF{a b:List Int}{n:Nat}(h:0<bz a b n):0<bz b b n:=by
 have h1:=QR b n
 by_cases h0:bz b b n=0
 ·exfalso
  have hz:=agT h0
  have:bz a b n=0:=by
   unfold bz
   rw[lL n (g:=fun _=>0) (fun i hi=>by unfold qM;rw[hz i hi];simp)]
   exact Qb n
  omega
 omega
theorem agU{c e bc:Int}(h:0<c->0<e):(decide (0<c)&&dO c e bc 0)=decide (0<c):=by
 by_cases hc:0<c
 ·rw[QQ (h hc) ah,decide_eq_true hc];rfl
 rw[decide_eq_false hc];rfl
theorem YG{w:World}{g:Nat}{t:TypeId}{xs:List Int}(h:IB w g t xs):Rs w w.heap.size (some ⟨g,0,none⟩) xs:=
 ⟨nZ,fun _=>⟨_,rfl,Blk.lt h,fun j u hu=>by
   have hj:j<xs.length:=by
    have:=(List.getElem?_eq_some_iff.mp hu).1
    rwa [aQ] at this
   rw[rJ xs j hj] at hu
   rw[lI,<-hu]
   exact IB.cell h j hj⟩⟩
def sgp(x:Int):Int:=if x<0 then-1 else 1
theorem QV(x:Int):sgp x=1\/sgp x= -1:=by
 unfold sgp
 split
 ·exact .inr rfl
 exact .inl rfl
def plc(ix:List Int)(t:Nat):Nat:=t+4*(ix.getD t 0).toNat
def en0(ring:List Int)(a b:Nat):Int:=aI (enT ring a b) 40
def sg(d ix:List Int)(t:Nat):Int:=sgp (d.getD (plc ix t) 0)
theorem ag8(ring:List Int)(a b:Nat):bz (jr ring a) (jr ring b) 40=en0 ring a b:=Xk ring a b
theorem ag9(ring:List Int)(a b:Nat):en0 ring a b=en0 ring b a:=by
 unfold en0
 exact lL 40 fun i _=>by unfold enT;exact Int.mul_comm _ _
theorem YP(ring:List Int)(a b:Nat): -42949672960<=en0 ring a b/\en0 ring a b<=42949672960:=by
 have:=Xl ring a b 40
 unfold en0
 omega
def scT(d ring ix:List Int)(i j:Nat):Int:=sg d ix i*sg d ix j*en0 ring (plc ix i) (plc ix j)
theorem IV{s x B:Int}(hs:s=1\/s= -1)(h: -B<=x/\x<=B): -B<=s*x/\s*x<=B:=by
 rcases hs with rfl|rfl
 ·rw[Int.one_mul];exact h
 rw[Int.neg_one_mul];omega
theorem QW(d ix:List Int)(t:Nat):sg d ix t=1\/sg d ix t= -1:=QV _
theorem aha(d ring ix:List Int)(i j:Nat): -42949672960<=scT d ring ix i j/\scT d ring ix i j<=42949672960:=by
 unfold scT
 rw[Int.mul_assoc]
 exact IV (QW d ix i) (IV (QW d ix j) (YP ring _ _))
def scR(d ring ix:List Int)(i:Nat):Int:=aI (scT d ring ix i) 4
def scE(d ring ix:List Int):Int:=aI (scR d ring ix) 4
theorem IZ{f:Nat->Int}{B:Int}(h:∀i,-B<=f i/\f i<=B)(n:Nat): -(B*n)<=aI f n/\aI f n<=B*n:=by
 induction n with
 |zero=>simp[aI]
 |succ n ih=>
  simp only[aI]
  have:=h n
  have e:B*((n+1:Nat):Int)=B*n+B:=by push_cast;rw[Int.mul_add,Int.mul_one]
  rw[e]
  omega
theorem YQ(d ring ix:List Int)(i j:Nat)(hj:j<=4): -171798691840<=aI (scT d ring ix i) j/\aI (scT d ring ix i) j<=171798691840:=by
 have:=IZ (aha d ring ix i) j
 omega
theorem ahb(d ring ix:List Int)(i:Nat): -171798691840<=scR d ring ix i/\scR d ring ix i<=171798691840:=YQ d ring ix i 4 (al0z _)
theorem YR(d ring ix:List Int)(i:Nat)(hi:i<=4): -687194767360<=aI (scR d ring ix) i/\aI (scR d ring ix) i<=687194767360:=by
 have:=IZ (ahb d ring ix) i
 omega
theorem QY(d ring ix:List Int): -687194767360<=scE d ring ix/\scE d ring ix<=687194767360:=YR d ring ix 4 (al0z _)
def scC(d ix:List Int):Nat->Int
 |0=>0
 |t+1=>IntKind.i64.wrap (scC d ix t+IntKind.i64.wrap (sg d ix t*d.getD (plc ix t) 0))
theorem ahc(x:Int): -9223372036854775808<=IntKind.i64.wrap x/\IntKind.i64.wrap x<=9223372036854775807:=by
 rw[oJ]
 omega
theorem QZ(d ix:List Int)(t:Nat): -9223372036854775808<=scC d ix t/\scC d ix t<=9223372036854775807:=by
 cases t with
 |zero=>simp[scC]
 |succ t=>exact ahc _
def hrd(d ring ix:List Int)(t n:Nat):Int:=aI (fun u=>sg d ix u*iF ring (plc ix u) n) t
theorem Rf(d ring ix:List Int)(t n:Nat)(ht:t<=4): -131072<=hrd d ring ix t n/\hrd d ring ix t n<=131072:=by
 have:=IZ (f:=fun u=>sg d ix u*iF ring (plc ix u) n) (B:=32768) (fun u=>IV (QW d ix u) (by have:=vV ring (plc ix u) n;omega)) t
 unfold hrd
 omega
theorem ahd(c:Int)(f:Nat->Int)(n:Nat):aI f n*c=aI (fun i=>f i*c) n:=by
 rw[Int.mul_comm,<-Qa]
 exact lL n fun i _=>Int.mul_comm _ _
def hsq(d ring ix:List Int)(n:Nat):Int:=hrd d ring ix 4 n*hrd d ring ix 4 n
theorem ahe(d ring ix:List Int):aI (hsq d ring ix) 40=scE d ring ix:=by
 have h1:∀n,hsq d ring ix n=aI (fun i=>aI (fun j=>(sg d ix i*iF ring (plc ix i) n)*(sg d ix j*iF ring (plc ix j) n)) 4) 4:=fun n=>by
  unfold hsq
  conv=>lhs;unfold hrd
  rw[ahd]
  exact lL 4 fun i _=>by rw[<-Qa]
 rw[lL 40 (g:=fun n=>aI (fun i=>aI (fun j=>(sg d ix i*iF ring (plc ix i) n)*(sg d ix j*iF ring (plc ix j) n)) 4) 4) (fun n _=>h1 n),WU]
 unfold scE
 refine lL 4 fun i _=>?_
 rw[WU]
 unfold scR
 refine lL 4 fun j _=>?_
 unfold scT en0
 rw[<-Qa]
 refine lL 40 fun n _=>?_
 unfold enT
 generalize sg d ix i=a
 generalize sg d ix j=b
 generalize iF ring (plc ix i) n=x
 generalize iF ring (plc ix j) n=y
 rw[Int.mul_assoc a x,Int.mul_assoc a b,<-Int.mul_assoc x b,Int.mul_comm x b,Int.mul_assoc b x]
theorem Rh(d ring ix:List Int)(n:Nat):0<=hsq d ring ix n/\hsq d ring ix n<=17179869184:=by
 have h:=Rf d ring ix 4 n (al0z _)
 unfold hsq
 generalize hrd d ring ix 4 n=x at*
 refine⟨?_,?_⟩
 ·rcases Int.le_total 0 x with h0|h0
  ·exact Int.mul_nonneg h0 h0
  exact Int.mul_nonneg_of_nonpos_of_nonpos h0 h0
 have:=ja (x:=x) (X:=131072) (y:=x) (Y:=131072) ah ah ⟨ah,ah⟩ ⟨ah,ah⟩
 omega
theorem ahf(d ring ix:List Int)(n:Nat)(hn:n<=40):0<=aI (hsq d ring ix) n/\aI (hsq d ring ix) n<=687194767360:=by
 have h1:=IZ (f:=hsq d ring ix) (B:=17179869184) (fun i=>by have:=Rh d ring ix i;omega) n
 refine⟨?_,ah⟩
 clear h1 hn
 induction n with
 |zero=>simp[aI]
 |succ n ih=>simp only[aI];have:=Rh d ring ix n;omega
structure Tbl(L ring:List Int)(a b:Nat):Prop where
 len:L.length=1600
 at_:∀i j,i<40->j<40->(i<a/\j<a\/i=a/\j<b\/j=a/\i<b)->L.getD (i*40+j) 0=en0 ring i j
theorem Tbl.start(ring:List Int):Tbl (List.replicate 1600 0) ring 0 0:=⟨by rw[nM],fun i j _ _ h=>ah⟩
theorem Tbl.set_{L ring:List Int}{a b:Nat}(h:Tbl L ring a b)(ha:a<40)(hb:b<=a):Tbl ((L.set (a*40+b) (en0 ring a b)).set (b*40+a) (en0 ring a b)) ring a (b+1):=by
 refine⟨by rw[List.length_set,List.length_set,h.len],fun i j hi hj hc=>?_⟩
 by_cases e1:b*40+a=i*40+j
 ·have:i=b/\j=a:=ah
  obtain⟨rfl,rfl⟩:=this
  rw[gQ _ _ _ (by rw[List.length_set,h.len];omega)]
  exact ag9 _ _ _
 rw[iw _ _ e1]
 by_cases e2:a*40+b=i*40+j
 ·have:i=a/\j=b:=ah
  obtain⟨rfl,rfl⟩:=this
  rw[gQ _ _ _ (by rw[h.len];omega)]
 rw[iw _ _ e2]
 refine h.at_ i j hi hj ?_
 have e3: ¬(i=b/\j=a):=ah
 have e4: ¬(i=a/\j=b):=ah
 omega
theorem Tbl.next{L ring:List Int}{a:Nat}(h:Tbl L ring a (a+1)):Tbl L ring (a+1) 0:=⟨h.len,fun i j hi hj hc=>h.at_ i j hi hj ah⟩
theorem Tbl.get{L ring:List Int}(h:Tbl L ring 40 0){i j:Nat}(hi:i<40)(hj:j<40):L.getD (i*40+j) 0=en0 ring i j:=h.at_ i j hi hj ah
def qR(ix:List Int):Bool:=ix.all fun p=>decide (0<=p/\p<=9)
theorem pg{ix:List Int}(h:qR ix=true)(t:Nat):0<=ix.getD t 0/\ix.getD t 0<=9:=by
 by_cases ht:t<ix.length
 ·have:=FW h t ht
  simpa using this
 exact l96
theorem qU{ix:List Int}(h:qR ix=true){t:Nat}(ht:t<4):plc ix t<40:=by
 have:=pg h t
 unfold plc
 omega
def Ix(x:List Int):Prop:=x.length=4/\qR x=true
def lg(d ring ix:List Int):Int:=if d.length=40/\ring.length=40 then(if qR ix then 0 else 2) else 1
def Ja(d ring ix:List Int):Int:=if lg d ring ix=0 then scC d ix 4 else 0
def Jb(d ring ix:List Int):Int:=if lg d ring ix=0 then scE d ring ix else 0
theorem ajS{ops:Array Oper}{o:Oper}{a:Act}{w:World}{K:Act->World->Prop}{Q:Exit->Act->World->Prop}{E:Prop}(hgd:o.guard=none)(s x:Operand)
 (ho:o.op=.call {callee:=.builtin .append,args:= #[s,x],argTypes:= #[27,27]})
 (base:Nat) (A:Option Addr) (c n:Nat) (xs:List Int) (hs:a.eval s=.slice A n c) (hn:xs.length=n) (hown:Own w base A c xs)
 (ad:Addr) (y:Int) (hx:a.eval x=.slice (some ad) 1 1) (hc:w.cell? ad=some (.int .i64 y)) (hlen:n+1<=17592186044416) (hbase:base<=w.heap.size)
 (h:∀A' c' w',Own w' base A' c' (xs++[y])->w.grownBy w' (A.map (·.block))->K (a.put o.dst (.slice A' (n+1) c')) w'):
 if Region.wanted o (yielded ops a.tmps)=true then Oper.wp Tryz.prog o a w K Q else E:=by
 have hw:Region.wanted o (yielded ops a.tmps)=true:=Na
 rw[if_pos hw]
 subst hn
 obtain⟨i0,hi,hz0,hz1,hz2⟩:=info_parts BZ
 have hr:Reads w (ad.block+1) 1 (some ad) 1 (aj [y]):=⟨nZ,fun _=>⟨ad,rfl,ah,fun j u hj=>by
  match j,hj with
  |0,hj=>simp[aj] at hj;subst hj;have e:ad.add 0=ad:=by unfold Addr.add;simp
         rw[e];exact hc⟩⟩
 obtain⟨v',w',hrun,h2,h3,h4⟩:=xE (P:=Tryz.prog) w base 27 o.type 3 i0 (.int .i64 0) 1 8 Tryz.underlying27 hi hz0 hz1 hz2 rfl ah _ _ _ hown (ad.block+1) (some ad) 1 1 (aj [y]) hr (mQ [y]) iT ah hbase
 obtain⟨A',c',rfl,hO⟩:=OU h2 (BU xs [y])
 have hl:(xs++[y]).length=xs.length+1:=az
 unfold Oper.wp execOp
 simp only[ho,resolve,invoke,builtin,nR,rD,nU,List.map_toArray,List.map_cons,List.map_nil,hs,hx,hrun]
 rw[hl]
 exact h A' c' w' hO zk
end Go.Proofs.YthoiikkjjaldnaaGreatDoor
