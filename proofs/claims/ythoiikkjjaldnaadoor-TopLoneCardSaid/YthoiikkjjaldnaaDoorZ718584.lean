/- Texts that the law rests on, laid together: PkC, SynthW, PushW, NewR, MakeW, EqG. -/
import Derived.Test.YthoiikkjjaldnaaDoorZa172bc
import Derived.Test.YthoiikkjjaldnaaDoorZ4b8d9d
import Derived.Test.YthoiikkjjaldnaaDoorZ7e0d48
import Derived.Test.YthoiikkjjaldnaaDoorZ4df1bd
import Derived.BigRegion
import Derived.Test.YthoiikkjjaldnaaDoorZcd86f7
import Derived.Test.YthoiikkjjaldnaaDoorZ111339
import Derived.Laws.CopyOwn
import Derived.Deep.RegionLaw
import Derived.Test.YthoiikkjjaldnaaDoorZdf659f
set_option maxHeartbeats 4000000
namespace Go.Proofs.YthoiikkjjaldnaaDoor
set_option linter.unusedVariables false
set_option linter.unusedSimpArgs false
set_option maxRecDepth 100000
open Go.RowKit
theorem digL_len (V:Nat):(digL V).length=14:=by simp[digL]
theorem digL_get (V:Nat) {j:Nat} (hj:j<14):(digL V)[j]?=some (digE V (8*(13-j)):Int):=by
 unfold digL
 simp[hj]
theorem digL_put (V:Nat) {u j q P:Nat} (hu:u<=1) (hj:j<14) (hq:q<8) (hP:P=8*(13-j)+q):(digL V).set j ((digE V (8*(13-j))|||u<<<q:Nat):Int)=digL (V|||u<<<P):=by
 refine List.ext_getElem? fun i=>?_
 by_cases hi:i<14
 ·rw[List.getElem?_set,digL_get _ hi,digL_get _ hi,digL_len]
  by_cases e:j=i
  ·subst e
   rw[if_pos rfl,if_pos hj,digE_put hu (by omega) (by omega),show P-8*(13-j)=q by omega]
  ·rw[if_neg e,digE_far hu (by omega)]
 ·rw[List.getElem?_eq_none (by rw[List.length_set,digL_len];omega),List.getElem?_eq_none (by rw[digL_len];omega)]
structure TwoP (g h:Nat) (w w':World):Prop where
 os:w'.os=w.os
 tape:w'.tape=w.tape
 output:w'.output=w.output
 size:w.heap.size<=w'.heap.size
 keep: ∀k,k<w.heap.size->k≠g->k≠h->w'.heap[k]?=w.heap[k]?
section
variable {g h:Nat} {w w1 w2:World}
theorem TwoP.refl (g h:Nat) (w:World):TwoP g h w w:=⟨rfl,rfl,rfl,Nat.le_refl _,fun _ _ _ _=>rfl⟩
theorem TwoP.trans (a:TwoP g h w w1) (b:TwoP g h w1 w2):TwoP g h w w2:=
 ⟨b.os.trans a.os,b.tape.trans a.tape,b.output.trans a.output,Nat.le_trans a.size b.size,fun k h1 h2 h3=>(b.keep k (Nat.lt_of_lt_of_le h1 a.size) h2 h3).trans (a.keep k h1 h2 h3)⟩
theorem TwoP.of_below (hb:Below w.heap.size w w1):TwoP g h w w1:=⟨hb.os,hb.tape,hb.output,hb.size,fun k h1 _ _=>hb.block k h1⟩
theorem TwoP.set1 (a:TwoP g h w w1) (i:Nat) (v:Value):TwoP g h w (w1.setCell ⟨g,i,none⟩ v):=
 ⟨a.os,a.tape,a.output,by simpa[World.setCell] using a.size,fun k h1 h2 h3=>(Below.heap_setCell w1 _ v k h2).trans (a.keep k h1 h2 h3)⟩
theorem TwoP.set2 (a:TwoP g h w w1) (i:Nat) (v:Value):TwoP g h w (w1.setCell ⟨h,i,none⟩ v):=
 ⟨a.os,a.tape,a.output,by simpa[World.setCell] using a.size,fun k h1 h2 h3=>(Below.heap_setCell w1 _ v k h3).trans (a.keep k h1 h2 h3)⟩
theorem TwoP.drew (a:TwoP g h w w1):TwoP g h w w1.drew:=a.trans (TwoP.of_below ((Below.refl _ _).drew))
theorem TwoP.blk (a:TwoP g h w w1) {k:Nat} {t:TypeId} {cs:Array Value} (hb:Blk w k t cs) (h1:k≠g) (h2:k≠h):Blk w1 k t cs:=(a.keep k (Blk.lt hb) h1 h2).trans hb
theorem TwoP.below {B:Nat} (a:TwoP g h w w1) (hB:B<=w.heap.size) (h1:B<=g) (h2:B<=h):Below B w w1:=⟨a.os,a.tape,a.output,a.size,fun k hk=>a.keep k (by omega) (by omega) (by omega)⟩
end
def pkL (V:Nat):List Int:=digL V++[0]
structure Pst (gb gB gA V n:Nat) (W:World):Prop where
 R:Blk W gb 5 (bts (pkL V)).toArray
 B:Blk W gB 39 #[.slice (some ⟨gb,0,none⟩) 15 15]
 A:Blk W gA 3 #[.int .i64 (n:Nat)]
 l1:gb<gB
 l2:gB<gA
section
variable {gb gB gA V n:Nat} {W W':World}
theorem Pst.below (s:Pst gb gB gA V n W) (hb:Below W.heap.size W W'):Pst gb gB gA V n W':=⟨Blk.below' s.R hb,Blk.below' s.B hb,Blk.below' s.A hb,s.l1,s.l2⟩
theorem Pst.drew (s:Pst gb gB gA V n W):Pst gb gB gA V n W.drew:=⟨s.R,s.B,s.A,s.l1,s.l2⟩
theorem Pst.cell (s:Pst gb gB gA V n W) {j:Nat} (hj:j<14):W.cell? ⟨gb,j,none⟩=some (.int .u8 (digE V (8*(13-j)):Nat)):=by
 rw[Blk.cell s.R j]
 simp only[bts,pkL,List.getElem?_toArray,List.getElem?_map]
 rw[List.getElem?_append_left (by rw[digL_len];exact hj),digL_get V hj]
 rfl
theorem Pst.put (s:Pst gb gB gA V n W) {u j q P:Nat} (hu:u<=1) (hj:j<14) (hq:q<8) (hP:P=8*(13-j)+q) (m:Nat):
 Pst gb gB gA (V|||u<<<P) m ((W.setCell ⟨gb,j,none⟩ (.int .u8 ((digE V (8*(13-j))|||u<<<q:Nat):Int))).setCell ⟨gA,0,none⟩ (.int .i64 (m:Nat))):=by
 have h1:=s.l1
 have h2:=s.l2
 refine⟨?_,?_,?_,h1,h2⟩
 ·have a:=(Blk.set_ s.R j (.int .u8 ((digE V (8*(13-j))|||u<<<q:Nat):Int))).far (p:=⟨gA,0,none⟩) (by show gb≠gA;omega) (.int .i64 (m:Nat))
  have e:(bts (pkL V)).toArray.setIfInBounds j (.int .u8 ((digE V (8*(13-j))|||u<<<q:Nat):Int))=(bts (pkL (V|||u<<<P))).toArray:=by
   unfold pkL
   rw[<-digL_put V hu hj hq hP,List.setIfInBounds_toArray]
   unfold bts
   rw[<-List.map_set,List.set_append_left _ _ (by rw[digL_len];exact hj)]
  rw[e] at a
  exact a
 ·exact(Blk.far s.B (p:=⟨gb,j,none⟩) (by show gB≠gb;omega) _).far (p:=⟨gA,0,none⟩) (by show gB≠gA;omega) _
 ·have a:=Blk.set_ (Blk.far s.A (p:=⟨gb,j,none⟩) (by show gA≠gb;omega) (.int .u8 ((digE V (8*(13-j))|||u<<<q:Nat):Int))) 0 (.int .i64 (m:Nat))
  exact a
end
theorem put_any (gb gB gA V a v n:Nat) (w:World) (S:Pst gb gB gA V a w) (hn:n<=62) (hv:v<2^n) (ha:a+n<=112):
 Calls Tryd.prog 67 #[.int .i64 v,.int .i64 n,.pointer (some ⟨gB,0,none⟩),.pointer (some ⟨gA,0,none⟩)] w
  (fun e w'=>e= .returned (.tuple #[])/\Pst gb gB gA (V|||v<<<(112-a-n)) (a+n) w'/\TwoP gb gA w w'):=by
 have S0:=hid (show Pst gb gB gA (V|||(v>>>n)<<<(112-a)) a w from by
  rw[Nat.shiftRight_eq_div_pow,Nat.div_eq_of_lt hv,Nat.zero_shiftLeft,Nat.or_zero]
  exact S)
 have hn1:IntKind.i64.wrap ((n:Int)-1)=(n:Int)-1:=by rw[IntKind.wrap_i64];omega
 clear S
 go_enter Tryd.func67,Tryd.ntmps67
 go_wp2
 go_loopw [6] (fun iv wr=> ∃m k:Nat,m+k=n/\iv= .int .i64 ((k:Int)-1)/\Hid (Pst gb gB gA (V|||(v>>>k)<<<(112-a-m)) (a+m) wr)/\Hid (TwoP gb gA w wr)) (fun iv _=>(intOf iv+1).toNat)
 case atStart=>exact⟨0,n,by omega,rfl,S0,hid (TwoP.refl _ _ _)⟩
 case round=>
  clear S0
  obtain⟨m,k,hmk,rfl,HS,HT⟩:=hrel
  by_cases hlt:0<k
  ·obtain⟨K,rfl⟩: ∃K,k=K+1:=⟨k-1,by omega⟩
   have hsub:((K+1:Nat):Int)-1=K:=by omega
   rw[hsub]
   clear hsub
   obtain⟨A,hA⟩: ∃A,A=a+m:=⟨_,rfl⟩
   have hA112:A<112:=by omega
   obtain⟨j,hj⟩: ∃j,j=A/8:=⟨_,rfl⟩
   obtain⟨q,hq⟩: ∃q,q=7-A%8:=⟨_,rfl⟩
   obtain⟨P,hP⟩: ∃P,P=112-a-(m+1):=⟨_,rfl⟩
   have hj14:j<14:=by omega
   have hq8:q<8:=by omega
   have hPe:P=8*(13-j)+q:=by omega
   have hP1:112-a-m=P+1:=by omega
   rw[hP1,<-hA] at HS
   obtain⟨y,hy⟩: ∃y,y=v>>>K:=⟨_,rfl⟩
   obtain⟨u,hu⟩: ∃u,u=y%2:=⟨_,rfl⟩
   have hu1:u<=1:=by omega
   have HV:=hid (show(V|||(v>>>(K+1))<<<(P+1))|||(u<<<P)=V|||(v>>>K)<<<P from by rw[hu,hy];exact put_bit V v K P)
   obtain⟨X,hX⟩: ∃X,X=V|||(v>>>(K+1))<<<(P+1):=⟨_,rfl⟩
   rw[<-hX] at HS HV
   have cb:=HS.out.cell hj14
   have fb:=Blk.frozen HS.out.R j
   have cB:wr.cell? ⟨gB,0,none⟩=some (.slice (some ⟨gb,0,none⟩) 15 15):=Blk.cell HS.out.B 0
   have cA:wr.cell? ⟨gA,0,none⟩=some (.int .i64 (A:Nat)):=Blk.cell HS.out.A 0
   have l1:=HS.out.l1
   have l2:=HS.out.l2
   have SN:=hid (fun(W:World) (h:Pst gb gB gA X A W)=>Pst.put h hu1 hj14 hq8 hPe (A+1))
   obtain⟨e0,he0⟩: ∃e0,e0=digE X (8*(13-j)):=⟨_,rfl⟩
   have he256:e0<256:=by rw[he0];exact digE_lt _ _
   rw[<-he0] at cb SN
   obtain⟨z,hz⟩: ∃z,z=u<<<q:=⟨_,rfl⟩
   have hz256:z<256:=by
    rw[hz,Nat.shiftLeft_eq]
    have h1:u*2^q<=1*2^q:=Nat.mul_le_mul_right _ hu1
    have h2:2^q<=2^7:=Nat.pow_le_pow_right (by decide) (by omega)
    omega
   rw[<-hz] at SN
   have hz2:(u:Int)*2^q=(z:Nat):=by rw[hz,Nat.shiftLeft_eq];simp
   have hor:=or_bytes e0 z he256 hz256
   have hyd:(v:Int)/2^K=(y:Nat):=by rw[hy,Nat.shiftRight_eq_div_pow];simp
   have hand:=and1 (y:Nat)
   have hu2:((y:Nat):Int)%2=(u:Nat):=by omega
   rw[hu2] at hand
   have hdj:(A:Int)/8=(j:Nat):=by omega
   have hdr:IntKind.i64.wrap (7-(A:Int)%8)=(q:Nat):=by rw[IntKind.wrap_i64];omega
   have hu8:IntKind.u8.wrap ((u:Nat):Int)=(u:Nat):=by rw[IntKind.wrap_u8];omega
   have hz8:IntKind.u8.wrap ((z:Nat):Int)=(z:Nat):=by rw[IntKind.wrap_u8];omega
   have hqu:IntKind.u64.wrap ((q:Nat):Int)=(q:Nat):=by rw[IntKind.wrap_u64];omega
   have hKu:IntKind.u64.wrap ((K:Nat):Int)=(K:Nat):=by rw[IntKind.wrap_u64];omega
   have K0:(0:Int)<=K:=by omega
   have K64:(K:Int)<64:=by omega
   have q0:(0:Int)<=q:=by omega
   have q64:(q:Int)<64:=by omega
   have j0:(0:Int)<=j:=by omega
   have j15:(j:Int)<15:=by omega
   have hA1:IntKind.i64.wrap ((A:Int)+1)=(A:Int)+1:=by rw[IntKind.wrap_i64];omega
   have HAA:=hid hA
   have HPP:=hid hP
   clear hA hj hq hP hPe hP1 hy hu hX he0 hz
   have hne1: ¬gb=gA:=by omega
   have hne2: ¬gA=gb:=by omega
   have hne3: ¬gB=gb:=by omega
   go_wp2
   go_region
   obtain⟨W2,hW2⟩: ∃W2,W2=(wr.setCell ⟨gb,j,none⟩ (.int .u8 ((e0|||z:Nat):Int))).drew:=⟨_,rfl⟩
   have hW3:W2=wr.drew.setCell ⟨gb,j,none⟩ (.int .u8 ((e0|||z:Nat):Int)):=hW2
   have BA:=Blk.far (Blk.drew HS.out.A) (p:=⟨gb,j,none⟩) hne2 (.int .u8 ((e0|||z:Nat):Int))
   have SE:=SN.out _ HS.out.drew
   have TE:=((HT.out.drew).set1 j (.int .u8 ((e0|||z:Nat):Int))).set2 0 (.int .i64 ((A+1:Nat):Int))
   rw[<-hW3] at BA SE TE
   rw[<-hW2]
   have cA2:W2.cell? ⟨gA,0,none⟩=some (.int .i64 (A:Nat)):=Blk.cell BA 0
   have fA2:W2.frozen? ⟨gA,0,none⟩=false:=Blk.frozen BA 0
   have SE:=hid SE
   have TE:=hid TE
   clear cb fb cB cA hor hyd hand hu2 hdj hdr hu8 hz8 hqu hKu hW2 hW3 BA
   go_wp2
   go_roundw
   case rel=>exact⟨m+1,K,by omega,by congr 1,hid (by rw[<-HPP.out,<-HV.out,show a+(m+1)=A+1 by have:=HAA.out;omega];exact SE.out),hid TE.out⟩
   case measure=>simp[intOf]<;>omega
  ·obtain rfl:k=0:=by omega
   obtain rfl:m=n:=by omega
   go_wp2
   go_end0
   exact⟨rfl,by have:=HS.out;rwa [Nat.shiftRight_zero] at this,HT.out⟩
end Go.Proofs.YthoiikkjjaldnaaDoor
namespace Go.Proofs.YthoiikkjjaldnaaDoor
set_option linter.unusedVariables false
set_option linter.unusedSimpArgs false
set_option maxRecDepth 100000
open Go.RowKit
theorem synthgood_any (a p l:List Int) (A:Option Addr) (c n B:Nat) (w:World) (ha:a.length=9) (hp:p.length=8) (hr:Rs w w.heap.size A l) (hn:l.length=n) (hl:n<=17592186044416):
 Calls Tryd.prog 77 #[.agg (agi a),.agg (agi p),.slice A n c] w (AnsB w (goodF a p l)):=by
 have hI:=hid (IB.new w 69 a)
 have hJ:=IB.new (w.alloc (.cells (agi a) 69)) 27 p
 simp only[World.size_alloc] at hJ
 have hJ:=hid hJ
 have hI:=hid (Blk.alloc hI.out (.cells (agi p) 27))
 have HA:=hid ha
 have HP:=hid hp
 have HN:=hid hn
 have HR:=hid (hr.below (((Below.refl _ w).alloc (Nat.le_refl _) (.cells (agi a) 69)).alloc (by simp) (.cells (agi p) 27)))
 have HB:=hid (((Below.refl _ w).alloc (Nat.le_refl _) (.cells (agi a) 69)).alloc (by simp) (.cells (agi p) 27))
 have hix:=fun(k:Nat) (hk:k<9) (w:World)=>run_index_agi Tryd.underlying69 a ha k hk w
 have HIX:=hid hix
 have hjx:=fun(k:Nat) (hk:k<8) (w:World)=>run_index_agi Tryd.underlying27 p hp k hk w
 have HJX:=hid hjx
 clear ha hp hn hr hix hjx
 have c0:=IB.cell hI.out 0 (by rw[HA.out];omega)
 obtain⟨a0,ha0⟩: ∃a0,a0=a.getD 0 0:=⟨_,rfl⟩
 rw[<-ha0] at c0
 have HA0:=hid ha0
 have C0:=hid c0
 clear ha0 c0
 go_enter Tryd.func77,Tryd.ntmps77
 go_wp2_with (refine wpList_loadI rfl 69 (.tmp 3) rfl _ 69 a 9 _ rfl hI.out Tryd.underlying69 rfl size9 HA.out ?_)
 go_loop [14] (fun iv=> ∃k:Nat,k<=9/\iv= .int .i64 k/\Hid (allTo okP1 a k)) (fun iv=>9-(intOf iv).toNat)
 case atStart=>exact⟨0,by omega,rfl,hid allTo.zero⟩
 case round=>
  obtain⟨k,hk,rfl,HY⟩:=hrel
  by_cases hlt:k<9
  ·have hix:=HIX.out k hlt
   obtain⟨x,hx⟩: ∃x,x=a.getD k 0:=⟨_,rfl⟩
   rw[<-hx] at hix
   have HX:=hid hx
   clear hx
   by_cases b1:x< -1048576
   ·have HF:=hid (show okP a=false from all_no (i:=k) (by rw[HA.out];exact hlt) (okP1_no (by rw[<-HX.out];exact .inl b1)))
    go_wp2
    go_ret
    exact⟨by unfold goodF;rw[HF.out];rfl,HB.out⟩
   by_cases b2:1048576<x
   ·have HF:=hid (show okP a=false from all_no (i:=k) (by rw[HA.out];exact hlt) (okP1_no (by rw[<-HX.out];exact .inr b2)))
    go_wp2
    go_ret
    exact⟨by unfold goodF;rw[HF.out];rfl,HB.out⟩
   have HN2:=hid (HY.out.succ (by rw[<-HX.out];exact okP1_yes (by omega) (by omega)))
   go_wp2
   go_round
   case rel=>exact⟨k+1,by omega,by go_num,HN2⟩
   case measure=>simp[intOf]<;>omega
  ·obtain rfl:k=9:=by omega
   have HF9:=hid (show okP a=true from HY.out.all (by rw[HA.out];exact Nat.le_refl _))
   clear hlt HY
   go_wp2_with (refine wpList_loadI rfl 27 (.tmp 4) rfl _ 27 p 8 _ rfl hJ.out Tryd.underlying27 rfl size8 HP.out ?_)
   go_loop [25] (fun iv=> ∃k:Nat,k<=8/\iv= .int .i64 k/\Hid (allTo ok16 p k)) (fun iv=>8-(intOf iv).toNat)
   case atStart=>exact⟨0,by omega,rfl,hid allTo.zero⟩
   case round=>
    obtain⟨k,hk,rfl,HY⟩:=hrel
    by_cases hlt:k<8
    ·have hix:=HJX.out k hlt
     obtain⟨x,hx⟩: ∃x,x=p.getD k 0:=⟨_,rfl⟩
     rw[<-hx] at hix
     have HX:=hid hx
     clear hx
     by_cases hbad:x< -32768\/32767<x
     ·have HF:=hid (show all16 p=false from all_no (i:=k) (by rw[HP.out];exact hlt) (ok16_no (by rw[<-HX.out];exact hbad)))
      have e1:(x==s16 x)=false:=by rw[beq_eq_false_iff_ne];exact fun h=>s16_ne hbad h.symm
      have e2:(x !=s16 x)=true:=by rw[bne_iff_ne];exact fun h=>s16_ne hbad h.symm
      clear hbad
      go_wp2_with (go_at_call 78;refine(synthsat_any _ _).mono ?_;rintro e w' ⟨rfl,rfl⟩)
      go_ret
      exact⟨by unfold goodF;rw[HF.out];simp,HB.out⟩
     ·have HN2:=hid (HY.out.succ (by rw[<-HX.out];exact ok16_yes (by omega) (by omega)))
      have e0:=s16_id (x:=x) (by omega) (by omega)
      clear hbad
      go_wp2_with (go_at_call 78;refine(synthsat_any _ _).mono ?_;rintro e w' ⟨rfl,rfl⟩)
      go_round
      case rel=>exact⟨k+1,by omega,by go_num,HN2⟩
      case measure=>simp[intOf]<;>omega
    ·obtain rfl:k=8:=by omega
     have HF8:=hid (show all16 p=true from HY.out.all (by rw[HP.out];exact Nat.le_refl _))
     clear hlt HY
     go_wp2
     go_loop [35] (fun iv=> ∃k:Nat,k<=n/\iv= .int .i64 k/\Hid (allTo ok16 l k)) (fun iv=>n-(intOf iv).toNat)
     case atStart=>exact⟨0,by omega,rfl,hid allTo.zero⟩
     case round=>
      obtain⟨k,hk,rfl,HY⟩:=hrel
      by_cases hlt:k<n
      ·obtain⟨ad,rfl,_,c1⟩:=HR.out.at_ (k:=k) (by rw[HN.out];exact hlt)
       obtain⟨x,hx⟩: ∃x,x=l.getD k 0:=⟨_,rfl⟩
       rw[<-hx] at c1
       have HX:=hid hx
       clear hx
       by_cases hbad:x< -32768\/32767<x
       ·have HF:=hid (show all16 l=false from all_no (i:=k) (by rw[HN.out];exact hlt) (ok16_no (by rw[<-HX.out];exact hbad)))
        have e1:(x==s16 x)=false:=by rw[beq_eq_false_iff_ne];exact fun h=>s16_ne hbad h.symm
        have e2:(x !=s16 x)=true:=by rw[bne_iff_ne];exact fun h=>s16_ne hbad h.symm
        clear hbad
        go_wp2_with (go_at_call 78;refine(synthsat_any _ _).mono ?_;rintro e w' ⟨rfl,rfl⟩)
        go_ret
        exact⟨by unfold goodF;rw[HF.out];simp,HB.out⟩
       ·have HN2:=hid (HY.out.succ (by rw[<-HX.out];exact ok16_yes (by omega) (by omega)))
        have e0:=s16_id (x:=x) (by omega) (by omega)
        clear hbad
        go_wp2_with (go_at_call 78;refine(synthsat_any _ _).mono ?_;rintro e w' ⟨rfl,rfl⟩)
        go_round
        case rel=>exact⟨k+1,by omega,by go_num,HN2⟩
        case measure=>simp[intOf]<;>omega
      ·have HF:=hid (show all16 l=true from HY.out.all (by rw[HN.out];omega))
       have c0:=C0.out
       go_wp2
       go_ret
       exact⟨by unfold goodF;rw[HF9.out,HF8.out,HF.out,<-HA0.out];simp only[Bool.true_and,Bool.and_true];rfl,HB.out⟩
theorem synthguess_any (a p:List Int) (w:World) (ha:a.length=9) (hp:p.length=8) (oa:okP a=true) (op:all16 p=true):
 Calls Tryd.prog 79 #[.agg (agi a),.agg (agi p)] w fun e w'=>e= .returned (.int .i64 (guessL a p))/\Below w.heap.size w w':=by
 have hI:=hid (IB.new w 69 a)
 have hJ:=IB.new (w.alloc (.cells (agi a) 69)) 27 p
 simp only[World.size_alloc] at hJ
 have hJ:=hid hJ
 have hI:=hid (Blk.alloc hI.out (.cells (agi p) 27))
 have HA:=hid ha
 have HP:=hid hp
 have HB:=hid (((Below.refl _ w).alloc (Nat.le_refl _) (.cells (agi a) 69)).alloc (by simp) (.cells (agi p) 27))
 have hjx:=fun(k:Nat) (hk:k<8) (w:World)=>run_index_agi Tryd.underlying27 p hp k hk w
 have HJX:=hid hjx
 have OA:=hid oa
 have OP:=hid op
 clear ha hp hjx oa op
 go_enter Tryd.func79,Tryd.ntmps79
 go_wp2_with (refine wpList_loadI rfl 27 (.tmp 3) rfl _ 27 p 8 _ rfl hJ.out Tryd.underlying27 rfl size8 HP.out ?_)
 go_loop [5,9] (fun sv iv=> ∃(k:Nat) (s:Int),k<=8/\iv= .int .i64 k/\sv= .int .i64 s/\Hid (s=2048+sumN (gterm a p) k)) (fun _ iv=>8-(intOf iv).toNat)
 case atStart=>exact⟨0,2048,by omega,rfl,rfl,hid rfl⟩
 case round=>
  obtain⟨k,s,hk,rfl,rfl,HS⟩:=hrel
  by_cases hlt:k<8
  ·have hjx:=HJX.out k hlt
   have ci:=IB.cell hI.out (k+1) (by rw[HA.out];omega)
   have tb:=gterm_bound OA.out OP.out k
   have sb:=gsum_bound OA.out OP.out k
   have HT:=hid (show 2048+sumN (gterm a p) (k+1)=s+gterm a p k by rw[HS.out];simp only[sumN];omega)
   have hs:=HS.out
   have s1: -300000000000<=s:=by omega
   have s2:s<=300000000000:=by omega
   clear hs sb
   unfold gterm at tb HT
   generalize a.getD (k+1) 0=x at*
   generalize p.getD k 0=y at*
   obtain⟨t1,t2⟩:=tb
   have HS2:=hid (show s+x*y=2048+sumN (fun i=>a.getD (i+1) 0*p.getD i 0) (k+1) from HT.out.symm)
   clear HT HS
   go_wp2
   go_round
   case rel=>exact⟨k+1,_,by omega,by go_num,rfl,HS2⟩
   case measure=>simp[intOf]<;>omega
  ·obtain rfl:k=8:=by omega
   have HF:=hid (show s/4096=guessL a p by unfold guessL;rw[HS.out])
   go_wp2
   go_ret
   exact⟨by rw[<-HF.out];rfl,HB.out⟩
end Go.Proofs.YthoiikkjjaldnaaDoor
namespace Go.Proofs.YthoiikkjjaldnaaDoor
set_option linter.unusedVariables false
set_option linter.unusedSimpArgs false
set_option maxRecDepth 100000
open Go.RowKit
theorem synthpush_any (p:List Int) (x:Int) (w:World) (hp:p.length=8):
 Calls Tryd.prog 80 #[.agg (agi p),.int .i64 x] w fun e w'=>e= .returned (.agg (agi (pushL p x)))/\Below w.heap.size w w':=by
 have hR:=results_row1 (fn:=Tryd.f80) (p:=4) (ty:=27) rfl
 have I0:=IB.new w 27 p
 have HA:=hid (Blk.alloc I0 (.cells (agi Z8) 27))
 have J0:=IB.new (w.alloc (.cells (agi p) 27)) 27 Z8
 simp only[World.size_alloc] at J0
 have HJ:=hid J0
 have HB:=hid (((Below.refl _ w).alloc (Nat.le_refl _) (.cells (agi p) 27)).alloc (by simp) (.cells (agi Z8) 27))
 rw[z8_eq] at HA HJ HB
 have HP:=hid hp
 have hl7:(p.take 7).length=7:=by simp[hp]
 have L7:=hid hl7
 obtain⟨zs,hz⟩: ∃zs,zs=p.take 1++p.take 7++p.drop (1+(p.take 7).length):=⟨_,rfl⟩
 have hzs:zs.set 0 x=pushL p x:=by
  rw[hz,hl7]
  have e8:p.drop 8=[]:=List.drop_eq_nil_of_le (by omega)
  rw[e8]
  match p,hp with
  |a::q,_=>simp[pushL]
 have hzl:zs.length=8:=by rw[hz,hl7];simp;omega
 have HZ:=hid hz
 have HZS:=hid hzs
 have HZL:=hid hzl
 have c7: ∀j,j<7->(p.take 7).getD j 0=p.getD j 0:=fun j hj=>by simp[hj]
 have C7:=hid c7
 clear hp hl7 hz hzs hzl c7 I0 J0
 go_enter Tryd.func80,Tryd.ntmps80
 go_wp2
 go_region_law (refine step_copyI rfl (.tmp 5) (.tmp 6) 36 36 rfl Tryd.underlying36 w.heap.size 1 7 7 ⟨w.heap.size,0,none⟩ 7 8 (by simp[Act.eval,Act.put]) (by simp[Act.eval,Act.put]) 27 p (p.take 7) zs HA.out (by rw[L7.out];rfl) (fun j hj=>by rw[add_zero'];rw[L7.out] at hj;rw[C7.out j hj];exact IB.cell HA.out j (by rw[HP.out];omega)) (by rw[L7.out,HP.out];omega) HZ.out ?_)
 generalize hw4:World.setRow _ _ _=w4
 have IA:IB w4 w.heap.size 27 zs:=by rw[<-hw4];exact IB.setRow (Blk.drew HA.out) zs
 have IJ:IB w4 (w.heap.size+1) 27 Z8:=by rw[<-hw4];exact Blk.rowFar (Blk.drew HJ.out) (by omega)
 have IL:Below w.heap.size w w4:=by rw[<-hw4];exact(Below.drew HB.out).trans (below_setRow (Below.refl _ _) (Nat.le_refl _) _)
 have IA:=hid IA
 have IJ:=hid IJ
 have IL:=hid IL
 clear hw4 HA HJ HB
 have c0:=IB.cell IA.out 0 (by rw[HZL.out];omega)
 have f0:=Blk.frozen IA.out 0
 have IA2:=hid (show IB (w4.setCell ⟨w.heap.size,0,none⟩ (.int .i64 x)) w.heap.size 27 (pushL p x) by rw[<-HZS.out];exact IB.set_ IA.out 0 x)
 have IJ2:=hid (show IB (w4.setCell ⟨w.heap.size,0,none⟩ (.int .i64 x)) (w.heap.size+1) 27 Z8 from Blk.far IJ.out (by show w.heap.size+1≠w.heap.size;omega) _)
 have IL2:=hid (IL.out.setCell (p:=⟨w.heap.size,0,none⟩) (Nat.le_refl _) (.int .i64 x))
 have LP:=hid (pushL_len HP.out x)
 have FIN:=hid (below_setRow IL2.out (g:=w.heap.size+1) (by omega) (agi (pushL p x)))
 have hRow:=hid (IB.setRow IJ2.out (pushL p x))
 go_wp2_with (first
  |(refine wpList_loadI rfl 27 (.tmp 2) rfl _ 27 (pushL p x) 8 _ rfl IA2.out Tryd.underlying27 rfl size8 LP.out ?_)
  |(refine wpList_storeI rfl 27 (.tmp 4) (.tmp 10) rfl _ 27 Z8 (pushL p x) 8 rfl rfl IJ2.out size8 rfl LP.out ?_))
 refine bodyPost_ret (v:=_) (hR _ _ _ 27 (pushL p x) _ 8 rfl hRow.out Tryd.underlying27 rfl size8 LP.out) rfl ?_
 exact⟨rfl,FIN.out⟩
end Go.Proofs.YthoiikkjjaldnaaDoor
namespace Go.Proofs.YthoiikkjjaldnaaDoor
set_option linter.unusedVariables false
set_option linter.unusedSimpArgs false
set_option maxRecDepth 100000
open Go.RowKit
structure Nx (w wr:World) (p ys:List Int):Prop where
 A:IB wr w.heap.size 27 p
 R:IB wr (w.heap.size+1) 27 Z8
 O:IB wr (w.heap.size+2) 27 ys
 bel:Below w.heap.size w wr
theorem Nx.start (w:World) (p:List Int):Nx w (((w.alloc (.cells (agi p) 27)).alloc (.cells (agi Z8) 27)).alloc (.cells (agi Z8) 27)) p Z8:=by
 have h1:=IB.new w 27 p
 have h2:=IB.new (w.alloc (.cells (agi p) 27)) 27 Z8
 have h3:=IB.new ((w.alloc (.cells (agi p) 27)).alloc (.cells (agi Z8) 27)) 27 Z8
 simp only[World.size_alloc] at h2 h3
 exact⟨Blk.alloc (Blk.alloc h1 _) _,Blk.alloc h2 _,h3,((((Below.refl _ _).alloc (Nat.le_refl _) _).alloc (by simp) _).alloc (by simp;omega) _)⟩
theorem Nx.set_ {w wr:World} {p ys:List Int} (h:Nx w wr p ys) (k:Nat) (x:Int):Nx w (wr.setCell ⟨w.heap.size+2,k,none⟩ (.int .i64 x)) p (ys.set k x):=
 ⟨Blk.far h.A (by show w.heap.size≠w.heap.size+2;omega) _,Blk.far h.R (by show w.heap.size+1≠w.heap.size+2;omega) _,IB.set_ h.O k x,h.bel.setCell (p:=⟨w.heap.size+2,k,none⟩) (by show w.heap.size<=w.heap.size+2;omega) _⟩
theorem Nx.drew {w wr:World} {p ys:List Int} (h:Nx w wr p ys):Nx w wr.drew p ys:=⟨h.A,h.R,h.O,h.bel.drew⟩
end Go.Proofs.YthoiikkjjaldnaaDoor
namespace Go.Proofs.YthoiikkjjaldnaaDoor
set_option linter.unusedVariables false
set_option linter.unusedSimpArgs false
set_option maxRecDepth 100000
open Go.RowKit
theorem results_mid3 {fn:Func} {p q r:Tmp} {ty:TypeId} (h:fn.results= #[.tmp p,.cell q ty,.tmp r]) (tmps:Array Value) (w:World) (g:Nat) (t:TypeId) (xs:List Int) (d:TypeDesc) (n:Nat)
 (hp:tmps.getD q undef= .pointer (some ⟨g,0,none⟩)) (hg:IB w g t xs) (hu:Tryd.prog.underlying ty=some d) (hd:isAggD d=true) (hi:(Tryd.prog.info? ty).map (·.size)=some n) (hl:xs.length=n):
 (results fn tmps).run Tryd.prog w= .ok (.tuple #[tmps.getD p undef,.agg (agi xs),tmps.getD r undef]) w:=by
 have hp':tmps[q]?.getD undef= .pointer (some ⟨g,0,none⟩):=by simpa using hp
 have hr:=run_loadVar_row (P:=Tryd.prog) w g t ty (agi xs) (0,0) d hg hu (by cases d<;>first|rfl|(simp[isAggD] at hd)) (by rw[hi,agi_size,hl])
 simp[results,h,hp',asAddr,hr]
def NewSP (w:World) (ys q:List Int) (er:Int) (e:Ending) (w':World):Prop:= ∃A c,e= .returned (.tuple #[.slice A ys.length c,.agg (agi q),.int .i64 er])/\Own w' w.heap.size A c ys/\Below w.heap.size w w'
structure Sx (w wr:World) (a q:List Int):Prop where
 A:IB wr w.heap.size 69 a
 P:IB wr (w.heap.size+1) 27 q
 R:IB wr (w.heap.size+2) 27 Z8
 bel:Below w.heap.size w wr
theorem Sx.lt {w wr:World} {a q:List Int} (h:Sx w wr a q):w.heap.size+3<=wr.heap.size:=Blk.lt h.R
theorem Sx.below {w wr wr':World} {a q:List Int} (h:Sx w wr a q) (hb:Below wr.heap.size wr wr'):Sx w wr' a q:=
 ⟨Blk.below' h.A hb,Blk.below' h.P hb,Blk.below' h.R hb,h.bel.trans (hb.mono (by have:=h.lt;omega))⟩
theorem Sx.alloc {w wr:World} {a q:List Int} (h:Sx w wr a q) (o:Obj):Sx w (wr.alloc o) a q:=
 ⟨Blk.alloc h.A o,Blk.alloc h.P o,Blk.alloc h.R o,h.bel.alloc (by have:=h.lt;omega) o⟩
theorem Sx.setP {w wr:World} {a q:List Int} (h:Sx w wr a q) (q2:List Int):Sx w (wr.setRow (w.heap.size+1) (agi q2)) a q2:=
 ⟨Blk.rowFar h.A (by omega),IB.setRow h.P q2,Blk.rowFar h.R (by omega),below_setRow h.bel (by omega) _⟩
theorem Sx.drew {w wr:World} {a q:List Int} (h:Sx w wr a q):Sx w wr.drew a q:=⟨h.A,h.P,h.R,h.bel.drew⟩
theorem Sx.start (w:World) (a q:List Int):Sx w (((w.alloc (.cells (agi a) 69)).alloc (.cells (agi q) 27)).alloc (.cells (agi Z8) 27)) a q:=by
 have h1:=IB.new w 69 a
 have h2:=IB.new (w.alloc (.cells (agi a) 69)) 27 q
 have h3:=IB.new ((w.alloc (.cells (agi a) 69)).alloc (.cells (agi q) 27)) 27 Z8
 simp only[World.size_alloc] at h2 h3
 exact⟨Blk.alloc (Blk.alloc h1 _) _,Blk.alloc h2 _,h3,((((Below.refl _ _).alloc (Nat.le_refl _) _).alloc (by simp) _).alloc (by simp;omega) _)⟩
theorem Sx.grown {w wr wr':World} {a q xs:List Int} {A:Option Addr} {c:Nat} (h:Sx w wr a q) (hO:Own wr (w.heap.size+3) A c xs) (hG:wr.grownBy wr' (A.map (·.block))):Sx w wr' a q:=
 ⟨Blk.grownA h.A hG (hO.ne_ (by omega)),Blk.grownA h.P hG (hO.ne_ (by omega)),Blk.grownA h.R hG (hO.ne_ (by omega)),
   below_grown h.bel (hO.more (by omega)) hG (by have:=h.lt;omega)⟩
theorem list8 {q:List Int} (h:q.length=8): ∃q0 q1 q2 q3 q4 q5 q6 q7,q=[q0,q1,q2,q3,q4,q5,q6,q7]:=by
 match q,h with
 |[a,b,c,d,e,f,g,i],_=>exact⟨a,b,c,d,e,f,g,i,rfl⟩
theorem IB.set8 {w:World} {g:Nat} {t:TypeId} (h:IB w g t Z8) (q0 q1 q2 q3 q4 q5 q6 q7:Int):
 IB ((((((((w.setCell ⟨g,0,none⟩ (.int .i64 q0)).setCell ⟨g,1,none⟩ (.int .i64 q1)).setCell ⟨g,2,none⟩ (.int .i64 q2)).setCell ⟨g,3,none⟩ (.int .i64 q3)).setCell ⟨g,4,none⟩ (.int .i64 q4)).setCell ⟨g,5,none⟩ (.int .i64 q5)).setCell ⟨g,6,none⟩ (.int .i64 q6)).setCell ⟨g,7,none⟩ (.int .i64 q7)) g t [q0,q1,q2,q3,q4,q5,q6,q7]:=
 (((((((h.set_ 0 q0).set_ 1 q1).set_ 2 q2).set_ 3 q3).set_ 4 q4).set_ 5 q5).set_ 6 q6).set_ 7 q7
theorem below_set8 {w0 w:World} {B g:Nat} (h:Below B w0 w) (hg:B<=g) (q0 q1 q2 q3 q4 q5 q6 q7:Int):
 Below B w0 ((((((((w.setCell ⟨g,0,none⟩ (.int .i64 q0)).setCell ⟨g,1,none⟩ (.int .i64 q1)).setCell ⟨g,2,none⟩ (.int .i64 q2)).setCell ⟨g,3,none⟩ (.int .i64 q3)).setCell ⟨g,4,none⟩ (.int .i64 q4)).setCell ⟨g,5,none⟩ (.int .i64 q5)).setCell ⟨g,6,none⟩ (.int .i64 q6)).setCell ⟨g,7,none⟩ (.int .i64 q7)):=
 (((((((h.setCell (p:=⟨g,0,none⟩) hg _).setCell (p:=⟨g,1,none⟩) hg _).setCell (p:=⟨g,2,none⟩) hg _).setCell (p:=⟨g,3,none⟩) hg _).setCell (p:=⟨g,4,none⟩) hg _).setCell (p:=⟨g,5,none⟩) hg _).setCell (p:=⟨g,6,none⟩) hg _).setCell (p:=⟨g,7,none⟩) hg _
theorem Own.set8 {w:World} {base c g:Nat} {A:Option Addr} {xs:List Int} (h:Own w base A c xs) (hg:g<base) (q0 q1 q2 q3 q4 q5 q6 q7:Int):
 Own ((((((((w.setCell ⟨g,0,none⟩ (.int .i64 q0)).setCell ⟨g,1,none⟩ (.int .i64 q1)).setCell ⟨g,2,none⟩ (.int .i64 q2)).setCell ⟨g,3,none⟩ (.int .i64 q3)).setCell ⟨g,4,none⟩ (.int .i64 q4)).setCell ⟨g,5,none⟩ (.int .i64 q5)).setCell ⟨g,6,none⟩ (.int .i64 q6)).setCell ⟨g,7,none⟩ (.int .i64 q7)) base A c xs:=
 (((((((h.setC hg 0 _).setC hg 1 _).setC hg 2 _).setC hg 3 _).setC hg 4 _).setC hg 5 _).setC hg 6 _).setC hg 7 _
theorem synthMake_any (a p l:List Int) (A0:Option Addr) (c0 n:Nat) (w:World) (ha:a.length=9) (hp:p.length=8) (hr:Rs w w.heap.size A0 l) (hn:l.length=n) (hl:n<=17592186044000):
 Calls Tryd.prog 48 #[.agg (agi a),.agg (agi p),.slice A0 n c0] w (NewSP w (if goodF a p l then makeN a p l n else[]) (if goodF a p l then newL p (makeN a p l n) else Z8) (errOf (goodF a p l))):=by
 have hR:=results_mid3 (fn:=Tryd.f48) (p:=6) (q:=7) (r:=8) (ty:=27) rfl
 have S0:=Sx.start w a p
 have R0:=hr.below S0.bel
 rw[z8_eq] at S0
 rw[z8_eq] at R0
 have S0:=hid S0
 have R0:=hid R0
 have HA:=hid ha
 have HP:=hid hp
 have HN:=hid hn
 have HR:=hid hr
 have KG:=hid (fun(W:World) (hW:Rs W W.heap.size A0 l)=>synthgood_any a p l A0 c0 n 0 W ha hp hW hn (by omega))
 clear ha hp hn hr
 obtain⟨Y,hY⟩: ∃Y,Y=(if goodF a p l then makeN a p l n else[]):=⟨_,rfl⟩
 obtain⟨Z,hZ⟩: ∃Z,Z=(if goodF a p l then newL p (makeN a p l n) else Z8):=⟨_,rfl⟩
 rw[<-hY,<-hZ]
 have HYY:=hid hY
 have HZZ:=hid hZ
 clear hY hZ
 go_enter Tryd.func48,Tryd.ntmps48
 go_wp2_with (first
  |(refine wpList_loadI rfl 69 (.tmp 3) rfl _ 69 a 9 _ rfl S0.out.A Tryd.underlying69 rfl size9 HA.out ?_)
  |(refine wpList_loadI rfl 27 (.tmp 4) rfl _ 27 p 8 _ rfl S0.out.P Tryd.underlying27 rfl size8 HP.out ?_))
 refine(KG.out _ (R0.out.more (by simp;omega))).mono ?_
 rintro e w1 ⟨rfl,hB⟩
 have S1:=hid (S0.out.below hB)
 clear hB S0 R0 KG
 by_cases hg:goodF a p l=true
 ·have HG:=hid hg
  rw[hg]
  have y1:=HYY.out
  have z1:=HZZ.out
  rw[if_pos hg] at y1 z1
  have HY1:=hid y1
  have HZ1:=hid z1
  clear y1 z1
  obtain⟨ga,gz,gp,gl⟩:okP a=true/\a.getD 0 0=4096/\all16 p=true/\all16 l=true:=by simpa[goodF] using hg
  have GA:=hid ga
  have GP:=hid gp
  have GL:=hid gl
  clear hg ga gz gp gl
  go_wp2
  go_loopw [9,21] (fun ov iv wr=> ∃(k:Nat) (A:Option Addr) (c:Nat) (q ys:List Int),k<=n/\iv= .int .i64 k/\ov= .slice A k c/\Hid (ys=makeN a p l k)/\Hid (q=newL p (makeN a p l k))/\Hid (Own wr (w.heap.size+3) A c ys)/\Hid (Sx w wr a q)) (fun _ iv _=>n-(intOf iv).toNat)
  case atStart=>exact⟨0,none,0,p,[],by omega,rfl,rfl,hid rfl,hid rfl,hid Own.nil,S1⟩
  case round=>
   clear S1
   obtain⟨k,A,c,q,ys,hk,rfl,rfl,HY,HQ,HO,HS⟩:=hrel
   have HQL:=hid (show q.length=8 by rw[HQ.out];exact newL_len _ _ HP.out)
   by_cases hlt:k<n
   ·have q16:=hid (show all16 q=true by rw[HQ.out];exact newL_all _ _ GP.out (makeN_all _ _ _ _))
    obtain⟨ad,rfl,hadb,c1⟩:=(HR.out.below HS.out.bel).at_ (k:=k) (by rw[HN.out];exact hlt)
    have xb:=all16_at GL.out k
    have YN:=hid (show ys++[s16 (l.getD k 0-guessL a q)]=makeN a p l (k+1) by rw[makeN,<-HY.out,HQ.out,HY.out])
    obtain⟨x,hx⟩: ∃x,x=l.getD k 0:=⟨_,rfl⟩
    rw[<-hx] at c1 xb YN
    have gb:=guess_bound GA.out q16.out
    have K1:=hid (fun W=>synthguess_any a q W HA.out HQL.out GA.out q16.out)
    generalize guessL a q=g at*
    obtain⟨x1,x2⟩:=xb
    obtain⟨g1,g2⟩:=gb
    have hw1:IntKind.i64.wrap (x-g)=x-g:=by rw[IntKind.wrap_i64];omega
    obtain⟨y,hy⟩: ∃y,y=s16 (x-g):=⟨_,rfl⟩
    rw[<-hy] at YN
    have KS:=hid (fun W=>synthsat_any (x-g) W)
    rw[<-hy] at KS
    have QN:=hid (show pushL q y=newL p (makeN a p l (k+1)) by rw[<-YN.out,HY.out,newL_snoc,HQ.out])
    have LP:=hid (pushL_len HQL.out y)
    have HX:=hid hx
    have YL:=hid (show ys.length=k by rw[HY.out,makeN_len])
    clear hx hy
    go_wp2_with (first
     |(refine wpList_loadI rfl 69 (.tmp 3) rfl _ 69 a 9 _ rfl HS.out.A Tryd.underlying69 rfl size9 HA.out ?_)
     |(refine wpList_loadI rfl 27 (.tmp 4) rfl _ 27 q 8 _ rfl HS.out.P Tryd.underlying27 rfl size8 HQL.out ?_))
    refine(K1.out _).mono ?_
    rintro e w2 ⟨rfl,hB⟩
    have S2:=hid (HS.out.below hB)
    have O2:=hid (HO.out.below hB)
    clear hB HS HO c1
    go_wp2_with (first
     |(go_at_call 78;refine(KS.out _).mono ?_;rintro e w' ⟨rfl,rfl⟩)
     |(refine wpList_loadI rfl 27 (.tmp 4) rfl _ 27 q 8 _ rfl S2.out.P Tryd.underlying27 rfl size8 HQL.out ?_))
    refine(synthpush_any q y _ HQL.out).mono ?_
    rintro e w3 ⟨rfl,hB⟩
    have S3:=hid (S2.out.below hB)
    have O3:=hid (O2.out.below hB)
    clear hB S2 O2
    go_wp2_with (first
     |(refine wpList_storeI rfl 27 (.tmp 4) (.tmp 33) rfl _ 27 q (pushL q y) 8 rfl rfl S3.out.P size8 HQL.out LP.out ?_
       obtain⟨w4,hw4⟩: ∃w4,w4=w3.setRow (w.heap.size+1) (agi (pushL q y)):=⟨_,rfl⟩
       rw[<-hw4]
       have S4:=hid (show Sx w w4 a (pushL q y) by rw[hw4];exact S3.out.setP _)
       have O4:=hid (show Own w4 (w.heap.size+3) A c ys by rw[hw4];exact O3.out.setRow (by omega) _)
       clear hw4)
     |(at_builtin;refine wpList_pushN rfl (.tmp 34) (.tmp 36) rfl (w.heap.size+3) A c k ys rfl YL.out (O4.out.alloc _) ⟨w4.heap.size,0,none⟩ y rfl (cell_new w4 _ _) (by omega) (Nat.le_trans S4.out.lt (by simp)) ?_;intro A2 c2 w5 hO hG hA;have O5:=hid hO;have G5:=hid hG;clear hO hG hA))
    have S5:=hid ((S4.out.alloc _).grown (O4.out.alloc _) G5.out)
    go_wp2
    go_roundw
    case rel=>exact⟨k+1,A2,c2,_,_,by omega,by go_num,rfl,YN,QN,O5,S5⟩
    case measure=>simp[intOf]<;>omega
   ·obtain rfl:k=n:=by omega
    obtain⟨q0,q1,q2,q3,q4,q5,q6,q7,rfl⟩:=list8 HQL.out
    have c0:wr.cell? ⟨w.heap.size+1,0,none⟩=some (.int .i64 q0):=IB.cell HS.out.P 0 (by simp)
    have c1:wr.cell? ⟨w.heap.size+1,1,none⟩=some (.int .i64 q1):=IB.cell HS.out.P 1 (by simp)
    have c2:wr.cell? ⟨w.heap.size+1,2,none⟩=some (.int .i64 q2):=IB.cell HS.out.P 2 (by simp)
    have c3:wr.cell? ⟨w.heap.size+1,3,none⟩=some (.int .i64 q3):=IB.cell HS.out.P 3 (by simp)
    have c4:wr.cell? ⟨w.heap.size+1,4,none⟩=some (.int .i64 q4):=IB.cell HS.out.P 4 (by simp)
    have c5:wr.cell? ⟨w.heap.size+1,5,none⟩=some (.int .i64 q5):=IB.cell HS.out.P 5 (by simp)
    have c6:wr.cell? ⟨w.heap.size+1,6,none⟩=some (.int .i64 q6):=IB.cell HS.out.P 6 (by simp)
    have c7:wr.cell? ⟨w.heap.size+1,7,none⟩=some (.int .i64 q7):=IB.cell HS.out.P 7 (by simp)
    have r0:wr.cell? ⟨w.heap.size+1+1,0,none⟩=some (.int .i64 0):=IB.cell HS.out.R 0 (by decide)
    have r1:wr.cell? ⟨w.heap.size+1+1,1,none⟩=some (.int .i64 0):=IB.cell HS.out.R 1 (by decide)
    have r2:wr.cell? ⟨w.heap.size+1+1,2,none⟩=some (.int .i64 0):=IB.cell HS.out.R 2 (by decide)
    have r3:wr.cell? ⟨w.heap.size+1+1,3,none⟩=some (.int .i64 0):=IB.cell HS.out.R 3 (by decide)
    have r4:wr.cell? ⟨w.heap.size+1+1,4,none⟩=some (.int .i64 0):=IB.cell HS.out.R 4 (by decide)
    have r5:wr.cell? ⟨w.heap.size+1+1,5,none⟩=some (.int .i64 0):=IB.cell HS.out.R 5 (by decide)
    have r6:wr.cell? ⟨w.heap.size+1+1,6,none⟩=some (.int .i64 0):=IB.cell HS.out.R 6 (by decide)
    have r7:wr.cell? ⟨w.heap.size+1+1,7,none⟩=some (.int .i64 0):=IB.cell HS.out.R 7 (by decide)
    have f0:wr.frozen? ⟨w.heap.size+1+1,0,none⟩=false:=Blk.frozen HS.out.R 0
    have f1:wr.frozen? ⟨w.heap.size+1+1,1,none⟩=false:=Blk.frozen HS.out.R 1
    have f2:wr.frozen? ⟨w.heap.size+1+1,2,none⟩=false:=Blk.frozen HS.out.R 2
    have f3:wr.frozen? ⟨w.heap.size+1+1,3,none⟩=false:=Blk.frozen HS.out.R 3
    have f4:wr.frozen? ⟨w.heap.size+1+1,4,none⟩=false:=Blk.frozen HS.out.R 4
    have f5:wr.frozen? ⟨w.heap.size+1+1,5,none⟩=false:=Blk.frozen HS.out.R 5
    have f6:wr.frozen? ⟨w.heap.size+1+1,6,none⟩=false:=Blk.frozen HS.out.R 6
    have f7:wr.frozen? ⟨w.heap.size+1+1,7,none⟩=false:=Blk.frozen HS.out.R 7
    have IR:=hid (Blk.drew (IB.set8 HS.out.R q0 q1 q2 q3 q4 q5 q6 q7))
    have OR:=hid ((HO.out.set8 (g:=w.heap.size+2) (by omega) q0 q1 q2 q3 q4 q5 q6 q7).drew.more (base':=w.heap.size) (by omega))
    have BR:=hid (below_set8 HS.out.bel (g:=w.heap.size+2) (by omega) q0 q1 q2 q3 q4 q5 q6 q7).drew
    have FY:=hid (show Y=ys by rw[HY1.out,HY.out])
    have FZ:=hid (show Z=[q0,q1,q2,q3,q4,q5,q6,q7] by rw[HZ1.out,HQ.out])
    have YL:=hid (show ys.length=k by rw[HY.out,makeN_len])
    go_wp2
    go_region
    clear c0 c1 c2 c3 c4 c5 c6 c7 r0 r1 r2 r3 r4 r5 r6 r7 f0 f1 f2 f3 f4 f5 f6 f7
    simp only[Exit.then]
    go_wp2
    refine bodyPost_ret (v:=_) (hR _ _ _ 27 [q0,q1,q2,q3,q4,q5,q6,q7] _ 8 rfl IR.out Tryd.underlying27 rfl size8 rfl) rfl ?_
    exact⟨A,c,by rw[FY.out,FZ.out,YL.out,HG.out];rfl,by rw[FY.out];exact OR.out,BR.out⟩
 ·have hb:goodF a p l=false:=by simpa using hg
  rw[hb]
  have hRow:=hid (S1.out.R)
  go_wp2_with (refine wpList_storeI rfl 27 (.tmp 7) (.tmp 18) rfl _ 27 Z8 Z8 8 rfl rfl S1.out.R size8 rfl rfl ?_)
  refine bodyPost_ret (v:=_) (hR _ _ _ 27 Z8 _ 8 rfl (IB.setRow S1.out.R Z8) Tryd.underlying27 rfl size8 rfl) rfl ?_
  have y1:=HYY.out
  have z1:=HZZ.out
  rw[if_neg hg] at y1 z1
  subst y1
  subst z1
  exact⟨none,0,by rw[hb];rfl,Own.nil,below_setRow S1.out.bel (by omega) _⟩
end Go.Proofs.YthoiikkjjaldnaaDoor
namespace Go.Proofs.YthoiikkjjaldnaaDoor
set_option linter.unusedVariables false
set_option linter.unusedSimpArgs false
set_option maxRecDepth 100000
open Go.RowKit
def SameAt (d:Nat) (t:TypeId) (v:Value):Prop:= ∀w,(Op.equalIn d t v v).run Tryd.prog w= .ok true w
def PartAt (t:TypeId) (xs:Array Value) (o:Nat) (v:Value):Prop:= ∀w,(part t xs o).run Tryd.prog w= .ok v w
theorem SameAt.num (d:Nat) (x:Int):SameAt (d+1) 3 (.int .i64 x):=fun w=>by
 rw[run_equalIn_int w d 3 .i64 .i64 _ _ Tryd.underlying3]
 simp
theorem SameAt.arr (d:Nat) {t:TypeId} {n:Nat} (ht:Tryd.prog.underlying t=some (.array n 3)) (xs:List Int) (hl:xs.length=n):SameAt (d+2) t (.agg (agi xs)):=run_equalIn_agi d ht xs hl
theorem PartAt.row {t:TypeId} {n o:Nat} (hs: ∀w,(sizeOf t).run Tryd.prog w= .ok n w) (ha: ∀w,(isAgg t).run Tryd.prog w= .ok true w) (cs A xs B:List Value) (he:cs=A++(xs++B)) (ho:A.length=o) (hl:xs.length=n):PartAt t cs.toArray o (.agg xs.toArray):=fun w=>by
 subst he
 subst ho
 subst hl
 have e:(A++(xs++B)).toArray.extract A.length (A.length+xs.length)=xs.toArray:=by
  simp[List.extract_toArray]
 simp only[part,Sem.run_bind,ha,hs,Result.andThen_ok,if_true,Sem.run_pure,e]
theorem PartAt.cell {t:TypeId} {o:Nat} (ha: ∀w,(isAgg t).run Tryd.prog w= .ok false w) (cs A B:List Value) (v:Value) (he:cs=A++(v::B)) (ho:A.length=o):PartAt t cs.toArray o v:=fun w=>by
 subst he
 subst ho
 simp[part,ha]
theorem eqFieldsG (d:Nat) (xs:Array Value): ∀fs:List Field,(∀f∈fs,∃v,PartAt f.type xs f.offset v/\SameAt d f.type v)->∀w,(Op.eqFields d xs xs fs).run Tryd.prog w= .ok true w
 |[],_,w=>by simp[Op.eqFields]
 |f::fs,h,w=>by
  obtain⟨v,h1,h2⟩:=h f (by simp)
  have ih:=eqFieldsG d xs fs (fun g hg=>h g (by simp[hg])) w
  simp only[Op.eqFields,Sem.run_bind,Sem.run_ite]
  split
  ·simp only[h1 w,h2 w,Result.andThen_ok,Bool.not_true,Bool.false_eq_true,if_false]
   exact ih
  ·exact ih
theorem SameAt.struct {d:Nat} {t:TypeId} (ht:Tryd.prog.underlying t=some (.struct (Tryd.prog.fieldsOf t))) (hp:Tryd.prog.stoodInHeld t=false) (xs:Array Value) (l:List (TypeId×Nat))
 (e:(Tryd.prog.fieldsOf t).toList.map (fun f=>(f.type,f.offset))=l) (h: ∀p∈l,∃v,PartAt p.1 xs p.2 v/\SameAt d p.1 v):SameAt (d+1) t (.agg xs):=fun w=>by
 rw[run_equalIn_struct w d t xs xs ht hp]
 exact eqFieldsG d xs _ (fun f hf=>h (f.type,f.offset) (by rw[<-e];exact List.mem_map_of_mem hf)) w
theorem SameAt.array {d:Nat} {t e:TypeId} {n k:Nat} (ht:Tryd.prog.underlying t=some (.array n e)) (hs: ∀w,(sizeOf e).run Tryd.prog w= .ok k w) (xs:Array Value)
 (h: ∀i,i<n->∃v,PartAt e xs (i*k) v/\SameAt d e v):SameAt (d+1) t (.agg xs):=fun w=>by
 rw[Op.equalIn]
 simp only[Sem.run_bind,run_underlying ht,Result.andThen_ok,hs,Std.Legacy.Range.forIn_eq_forIn_range',Std.Legacy.Range.size,Nat.sub_zero,Nat.add_sub_cancel,Nat.div_one]
 have hl2: ∀i∈List.range' 0 n 1,i<n:=fun i hi=>by simpa using(List.mem_range'_1.1 hi).2
 generalize List.range' 0 n 1=l at hl2|-
 induction l with
 |nil=>simp
 |cons i l ih=>
  obtain⟨v,px,pe⟩:=h i (hl2 i (by simp))
  simp only[List.forIn_cons,Sem.run_bind,px w,pe w,Result.andThen_ok]
  simp only[Bool.not_true,Bool.false_eq_true,if_false,Sem.run_pure,Result.andThen_ok]
  exact ih fun j hj=>hl2 j (by simp[hj])
theorem SameAt.eql {t:TypeId} {xs:Array Value} (h:SameAt 10000 t (.agg xs)) (w:World):(binOp .eql t (.agg xs) (.agg xs)).run Tryd.prog w= .ok (.bool true) w:=by
 rw[run_eql_struct,h w]
 rfl
theorem ints_cut (ps:List Int) (o n:Nat):ints ps=ints (ps.take o)++(ints ((ps.drop o).take n)++ints (ps.drop (o+n))):=by
 rw[ints_append,ints_append,<-List.drop_drop,List.take_append_drop,List.take_append_drop]
end Go.Proofs.YthoiikkjjaldnaaDoor
