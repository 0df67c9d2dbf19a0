/- Texts that the law rests on. -/
import Derived.Test.YthoiikkjjaldnaaGreatDoorZ1e0a
import Derived.Test.YthoiikkjjaldnaaGreatDoorZ1e0i
import Derived.Test.YthoiikkjjaldnaaGreatDoorZ1e08
namespace Go.Proofs.YthoiikkjjaldnaaGreatDoor
set_option linter.unusedVariables false
set_option linter.unusedSimpArgs false
set_option maxRecDepth 100000
set_option maxHeartbeats 8000000
open Go.RowKit
theorem oC(V:Nat):(iG V).length=14:=by simp[iG]
theorem Dy(V:Nat){j:Nat}(hj:j<14):(iG V)[j]?=some (jG V (8*(13-j)):Int):=by
 unfold iG
 simp[hj]
theorem agh(V:Nat){u j q P:Nat}(hu:u<=1)(hj:j<14)(hq:q<8)(hP:P=8*(13-j)+q):(iG V).set j ((jG V (8*(13-j))|||u<<<q:Nat):Int)=iG (V|||u<<<P):=by
 refine List.ext_getElem? fun i=>?_
 by_cases hi:i<14
 ·rw[List.getElem?_set,Dy _ hi,Dy _ hi,oC]
  by_cases e:j=i
  ·subst e
   rw[if_pos rfl,if_pos hj,afV hu ah ah,show P-8*(13-j)=q from ah]
  rw[if_neg e,afW hu ah]
 rw[List.getElem?_eq_none (by rw[List.length_set,oC];omega),List.getElem?_eq_none EY]
structure TwoP(g h:Nat)(w w':World):Prop where
 os:w'.os=w.os
 tape:w'.tape=w.tape
 output:w'.output=w.output
 size:w.heap.size<=w'.heap.size
 keep:∀k,k<w.heap.size->k≠g->k≠h->w'.heap[k]?=w.heap[k]?
section
variable {g h:Nat} {w w1 w2:World}
theorem TwoP.refl(g h:Nat)(w:World):TwoP g h w w:=⟨rfl,rfl,rfl,al0z _,fun _ _ _ _=>rfl⟩
theorem TwoP.trans(a:TwoP g h w w1)(b:TwoP g h w1 w2):TwoP g h w w2:=
 ⟨b.os.trans a.os,b.tape.trans a.tape,b.output.trans a.output,gJ a.size b.size,fun k h1 h2 h3=>(b.keep k (lF h1 a.size) h2 h3).trans (a.keep k h1 h2 h3)⟩
theorem TwoP.of_below(hb:Below w.heap.size w w1):TwoP g h w w1:=⟨hb.os,hb.tape,hb.output,hb.size,fun k h1 _ _=>hb.block k h1⟩
theorem TwoP.set1(a:TwoP g h w w1)(i:Nat)(v:Value):TwoP g h w (w1.setCell ⟨g,i,none⟩ v):=
 ⟨a.os,a.tape,a.output,by simpa[World.setCell] using a.size,fun k h1 h2 h3=>(Below.heap_setCell w1 _ v k h2).trans (a.keep k h1 h2 h3)⟩
theorem TwoP.set2(a:TwoP g h w w1)(i:Nat)(v:Value):TwoP g h w (w1.setCell ⟨h,i,none⟩ v):=
 ⟨a.os,a.tape,a.output,by simpa[World.setCell] using a.size,fun k h1 h2 h3=>(Below.heap_setCell w1 _ v k h3).trans (a.keep k h1 h2 h3)⟩
theorem TwoP.drew(a:TwoP g h w w1):TwoP g h w w1.drew:=a.trans (TwoP.of_below ((aA _ _).drew))
theorem TwoP.blk(a:TwoP g h w w1){k:Nat}{t:TypeId}{cs:Array Value}(hb:Blk w k t cs)(h1:k≠g)(h2:k≠h):Blk w1 k t cs:=(a.keep k (Blk.lt hb) h1 h2).trans hb
theorem TwoP.below{B:Nat}(a:TwoP g h w w1)(hB:B<=w.heap.size)(h1:B<=g)(h2:B<=h):Below B w w1:=⟨a.os,a.tape,a.output,a.size,fun k hk=>a.keep k ah ah ah⟩
end
def pkL(V:Nat):List Int:=iG V++[0]
structure Pst(gb gB gA V n:Nat)(W:World):Prop where
 R:Blk W gb 5 (bts (pkL V)).toArray
 B:Blk W gB 26 #[.slice (some ⟨gb,0,none⟩) 15 15]
 A:Blk W gA 3 #[.int .i64 (n:Nat)]
 l1:gb<gB
 l2:gB<gA
section
variable {gb gB gA V n:Nat} {W W':World}
theorem Pst.below(s:Pst gb gB gA V n W)(hb:Below W.heap.size W W'):Pst gb gB gA V n W':=⟨Blk.below' s.R hb,Blk.below' s.B hb,Blk.below' s.A hb,s.l1,s.l2⟩
theorem Pst.drew(s:Pst gb gB gA V n W):Pst gb gB gA V n W.drew:=⟨s.R,s.B,s.A,s.l1,s.l2⟩
theorem Pst.cell(s:Pst gb gB gA V n W){j:Nat}(hj:j<14):W.cell? ⟨gb,j,none⟩=some (.int .u8 (jG V (8*(13-j)):Nat)):=by
 rw[Blk.cell s.R j]
 simp only[bts,pkL,jZ,rq]
 rw[mF (by rw[oC];exact hj),Dy V hj]
 rfl
theorem Pst.put(s:Pst gb gB gA V n W){u j q P:Nat}(hu:u<=1)(hj:j<14)(hq:q<8)(hP:P=8*(13-j)+q)(m:Nat):
 Pst gb gB gA (V|||u<<<P) m ((W.setCell ⟨gb,j,none⟩ (.int .u8 ((jG V (8*(13-j))|||u<<<q:Nat):Int))).setCell ⟨gA,0,none⟩ (.int .i64 (m:Nat))):=by
 have h1:=s.l1
 have h2:=s.l2
 refine⟨?_,?_,?_,h1,h2⟩
 ·have a:=(Blk.set_ s.R j (.int .u8 ((jG V (8*(13-j))|||u<<<q:Nat):Int))).far (p:=⟨gA,0,none⟩) (by show gb≠gA;omega) (.int .i64 (m:Nat))
  have e:(bts (pkL V)).toArray.setIfInBounds j (.int .u8 ((jG V (8*(13-j))|||u<<<q:Nat):Int))=(bts (pkL (V|||u<<<P))).toArray:=by
   unfold pkL
   rw[<-agh V hu hj hq hP,iZ]
   unfold bts
   rw[<-List.map_set,List.set_append_left _ _ (by rw[oC];exact hj)]
  rw[e] at a
  exact a
 ·exact(Blk.far s.B (p:=⟨gb,j,none⟩) (by show gB≠gb;omega) _).far (p:=⟨gA,0,none⟩) (by show gB≠gA;omega) _
 ·have a:=Blk.set_ (Blk.far s.A (p:=⟨gb,j,none⟩) (by show gA≠gb;omega) (.int .u8 ((jG V (8*(13-j))|||u<<<q:Nat):Int))) 0 (.int .i64 (m:Nat))
  exact a
end
theorem Yi(gb gB gA V a v n:Nat)(w:World)(S:Pst gb gB gA V a w)(hn:n<=62)(hv:v<2^n)(ha:a+n<=112):
 Calls Tryz.prog 108 #[.int .i64 v,.int .i64 n,.pointer (some ⟨gB,0,none⟩),.pointer (some ⟨gA,0,none⟩)] w
  (fun e w'=>e=.returned (.tuple #[])/\Pst gb gB gA (V|||v<<<(112-a-n)) (a+n) w'/\TwoP gb gA w w'):=by
 have S0:=hid (show Pst gb gB gA (V|||(v>>>n)<<<(112-a)) a w from by
  rw[Nat.shiftRight_eq_div_pow,Nat.div_eq_of_lt hv,Nat.zero_shiftLeft,Nat.or_zero]
  exact S)
 have hn1:IntKind.i64.wrap ((n:Int)-1)=(n:Int)-1:=aN
 clear S
 go_enter Tryz.func108,Tryz.ntmps108
 go_wp2
 go_loopw[6] (fun iv wr=> ∃m k:Nat,m+k=n/\iv=.int .i64 ((k:Int)-1)/\Hid (Pst gb gB gA (V|||(v>>>k)<<<(112-a-m)) (a+m) wr)/\Hid (TwoP gb gA w wr)) (fun iv _=>(intOf iv+1).toNat)
 case atStart=>exact⟨0,n,ah,rfl,S0,hid (TwoP.refl _ _ _)⟩
 case round=>
  clear S0
  obtain⟨m,k,hmk,rfl,HS,HT⟩:=hrel
  by_cases hlt:0<k
  ·obtain⟨K,rfl⟩:∃K,k=K+1:=⟨k-1,ah⟩
   have hsub:((K+1:Nat):Int)-1=K:=ah
   rw[hsub]
   clear hsub
   obtain⟨A,hA⟩:∃A,A=a+m:=⟨_,rfl⟩
   have hA112:A<112:=ah
   obtain⟨j,hj⟩:∃j,j=A/8:=⟨_,rfl⟩
   obtain⟨q,hq⟩:∃q,q=7-A%8:=⟨_,rfl⟩
   obtain⟨P,hP⟩:∃P,P=112-a-(m+1):=⟨_,rfl⟩
   have hj14:j<14:=ah
   have hq8:q<8:=ah
   have hPe:P=8*(13-j)+q:=ah
   have hP1:112-a-m=P+1:=ah
   rw[hP1,<-hA] at HS
   obtain⟨y,hy⟩:∃y,y=v>>>K:=⟨_,rfl⟩
   obtain⟨u,hu⟩:∃u,u=y%2:=⟨_,rfl⟩
   have hu1:u<=1:=ah
   have HV:=hid (show(V|||(v>>>(K+1))<<<(P+1))|||(u<<<P)=V|||(v>>>K)<<<P from by rw[hu,hy];exact afX V v K P)
   obtain⟨X,hX⟩:∃X,X=V|||(v>>>(K+1))<<<(P+1):=⟨_,rfl⟩
   rw[<-hX] at HS HV
   have cb:=HS.out.cell hj14
   have fb:=Blk.frozen HS.out.R j
   have cB:wr.cell? ⟨gB,0,none⟩=some (.slice (some ⟨gb,0,none⟩) 15 15):=Blk.cell HS.out.B 0
   have cA:wr.cell? ⟨gA,0,none⟩=some (.int .i64 (A:Nat)):=Blk.cell HS.out.A 0
   have l1:=HS.out.l1
   have l2:=HS.out.l2
   have SN:=hid (fun(W:World) (h:Pst gb gB gA X A W)=>Pst.put h hu1 hj14 hq8 hPe (A+1))
   obtain⟨e0,he0⟩:∃e0,e0=jG X (8*(13-j)):=⟨_,rfl⟩
   have he256:e0<256:=by rw[he0];exact XQ _ _
   rw[<-he0] at cb SN
   obtain⟨z,hz⟩:∃z,z=u<<<q:=⟨_,rfl⟩
   have hz256:z<256:=by
    rw[hz,Nat.shiftLeft_eq]
    have h1:u*2^q<=1*2^q:=Nat.mul_le_mul_right _ hu1
    have h2:2^q<=2^7:=Nat.pow_le_pow_right aB ah
    omega
   rw[<-hz] at SN
   have hz2:(u:Int)*2^q=(z:Nat):=by rw[hz,Nat.shiftLeft_eq];simp
   have hor:=afY e0 z he256 hz256
   have hyd:(v:Int)/2^K=(y:Nat):=by rw[hy,Nat.shiftRight_eq_div_pow];simp
   have hand:=zG (y:Nat)
   have hu2:((y:Nat):Int)%2=(u:Nat):=ah
   rw[hu2] at hand
   have hdj:(A:Int)/8=(j:Nat):=ah
   have hdr:IntKind.i64.wrap (7-(A:Int)%8)=(q:Nat):=aN
   have hu8:IntKind.u8.wrap ((u:Nat):Int)=(u:Nat):=MV
   have hz8:IntKind.u8.wrap ((z:Nat):Int)=(z:Nat):=MV
   have hqu:IntKind.u64.wrap ((q:Nat):Int)=(q:Nat):=xe
   have hKu:IntKind.u64.wrap ((K:Nat):Int)=(K:Nat):=xe
   have K0:(0:Int)<=K:=ah
   have K64:(K:Int)<64:=ah
   have q0:(0:Int)<=q:=ah
   have q64:(q:Int)<64:=ah
   have j0:(0:Int)<=j:=ah
   have j15:(j:Int)<15:=ah
   have hA1:IntKind.i64.wrap ((A:Int)+1)=(A:Int)+1:=aN
   have HAA:=hid hA
   have HPP:=hid hP
   clear hA hj hq hP hPe hP1 hy hu hX he0 hz
   have hne1: ¬gb=gA:=ah
   have hne2: ¬gA=gb:=ah
   have hne3: ¬gB=gb:=ah
   go_wp2
   go_region
   obtain⟨W2,hW2⟩:∃W2,W2=(wr.setCell ⟨gb,j,none⟩ (.int .u8 ((e0|||z:Nat):Int))).drew:=⟨_,rfl⟩
   have hW3:W2=wr.drew.setCell ⟨gb,j,none⟩ (.int .u8 ((e0|||z:Nat):Int)):=hW2
   have BA:=Blk.far (Blk.drew HS.out.A) (p:=⟨gb,j,none⟩) hne2 (.int .u8 ((e0|||z:Nat):Int))
   have SE:=SN.out _ HS.out.drew
   have TE:=((HT.out.drew).set1 j (.int .u8 ((e0|||z:Nat):Int))).set2 0 (.int .i64 ((A+1:Nat):Int))
   rw[<-hW3] at BA SE TE
   rw[<-hW2]
   have cA2:W2.cell? ⟨gA,0,none⟩=some (.int .i64 (A:Nat)):=Blk.cell BA 0
   have fA2:W2.frozen? ⟨gA,0,none⟩=false:=Blk.frozen BA 0
   have SE:=hid SE
   have TE:=hid TE
   clear cb fb cB cA hor hyd hand hu2 hdj hdr hu8 hz8 hqu hKu hW2 hW3 BA
   go_wp2
   go_roundw
   case rel=>exact⟨m+1,K,ah,by congr 1,hid (by rw[<-HPP.out,<-HV.out,show a+(m+1)=A+1 by have:=HAA.out;omega];exact SE.out),hid TE.out⟩
   case measure=>simp[intOf]<;>omega
  obtain rfl:k=0:=ah
  obtain rfl:m=n:=ah
  go_wp2
  go_end0
  exact⟨rfl,by have:=HS.out;rwa [Nat.shiftRight_zero] at this,HT.out⟩
def pkN(i:Nat):Nat:=(pkB.getD i 0).toNat
def pkA:Nat->Nat
 |0=>0
 |n+1=>pkA n+pkN n
def pkX(ps:List Int):Nat->Nat
 |0=>0
 |n+1=>pkX ps n*2^pkN n+(ps.getD n 0).toNat
def pkV(ps:List Int):Nat->Nat
 |0=>0
 |n+1=>pkV ps n|||(ps.getD n 0).toNat<<<(112-pkA n-pkN n)
theorem zM:pkA 25=106:=aB
theorem Qy{n:Nat}(h:n<=25):pkA n<=106:=by
 have:∀m,m<=25->pkA m<=106:=aB
 exact this n h
theorem Qz{n:Nat}(h:n<25):pkN n<=6/\pkB.getD n 0=(pkN n:Nat)/\pkT.getD n 0<2^pkN n:=by
 have:∀m,m<25->pkN m<=6/\pkB.getD m 0=(pkN m:Nat)/\pkT.getD m 0<2^pkN m:=aB
 exact this n h
theorem Ik{ps:List Int}(h:cf ps 25=true){n:Nat}(hn:n<25):(ps.getD n 0).toNat<2^pkN n/\ps.getD n 0=((ps.getD n 0).toNat:Nat):=by
 have h1:=Dw h hn
 have h2:=(Qz hn).2.2
 unfold oz at h1
 generalize ps.getD n 0=x at*
 generalize pkT.getD n 0=t at*
 have e:((2^pkN n:Nat):Int)=2^pkN n:=az
 rw[<-e] at h2
 omega
theorem Yj(a b n:Nat):(a|||b)<<<n=a<<<n|||b<<<n:=by
 apply Nat.eq_of_testBit_eq
 intro i
 simp only[Nat.testBit_or,Nat.testBit_shiftLeft]
 cases decide (i>=n)<;>simp
theorem Yk{ps:List Int}(h:cf ps 25=true):∀n,n<=25->pkV ps n=pkX ps n<<<(112-pkA n)
 |0,_=>by simp[pkV,pkX]
 |n+1,hn=>by
  have ih:=Yk h n ah
  have hp:=(Ik h (n:=n) ah).1
  have ha:=Qy (n:=n+1) hn
  simp only[pkA] at ha
  simp only[pkV,pkX,pkA]
  rw[ih,<-Nat.shiftLeft_eq,Nat.shiftLeft_add_eq_or_of_lt hp,Yj,<-Nat.shiftLeft_add,show pkN n+(112-(pkA n+pkN n))=112-pkA n from ah,show 112-pkA n-pkN n=112-(pkA n+pkN n) from ah]
theorem DC{ps:List Int}(h:cf ps 25=true):∀n,n<=25->pkX ps n<2^pkA n
 |0,_=>by simp[pkX,pkA]
 |n+1,hn=>by
  have ih:=DC h n ah
  have hp:=(Ik h (n:=n) ah).1
  simp only[pkX,pkA]
  rw[Nat.pow_add]
  have h1:(pkX ps n+1)*2^pkN n<=2^pkA n*2^pkN n:=Nat.mul_le_mul_right _ ih
  rw[Nat.add_mul,Nat.one_mul] at h1
  omega
def pkQ(ps:List Int):Nat:=(gX (ps.getD 0 0)+gX (ps.getD 9 0)+gX (ps.getD 17 0))%2
theorem Yl(ps:List Int):Dx ps=(pkQ ps:Nat):=rfl
def pkW(ps:List Int):Nat:=pkV ps 25|||pkQ ps<<<5
theorem Ym{ps:List Int}(h:cf ps 25=true):pkW ps=(pkX ps 25*2+pkQ ps)*2^5:=by
 have hq:pkQ ps<2^1:=Nat.mod_lt _ aB
 have e:pkX ps 25*2+pkQ ps=pkX ps 25<<<1|||pkQ ps:=by rw[<-Nat.shiftLeft_add_eq_or_of_lt hq,Nat.shiftLeft_eq]
 unfold pkW
 rw[Yk h 25 ah,zM,e,<-Nat.shiftLeft_eq,Yj,<-Nat.shiftLeft_add]
theorem agj{ps:List Int}(h:cf ps 25=true):pkW ps<2^112:=by
 have h1:=DC h 25 ah
 rw[zM] at h1
 have hq:pkQ ps<2:=Nat.mod_lt _ aB
 rw[Ym h]
 omega
theorem Yn(V:Nat):Ij (iG V):=fun i=>by
 rw[bi]
 by_cases h:i<14
 ·rw[Dy V h]
  have:=XQ V (8*(13-i))
  simp only[Option.getD_some]
  omega
 rw[List.getElem?_eq_none EY]
 simp
def kZ(ps:List Int):List Int:=if cf ps 25=true then iG (pkW ps)++[chk (iG (pkW ps))] else[]
def qP(ps:List Int):Int:=if cf ps 25=true then 0 else 2
def nb(xs:List Int):Nat->Nat
 |0=>0
 |k+1=>nb xs k*256+(xs.getD k 0).toNat
def gt(V a n:Nat):Nat:=V>>>(112-a-n)%2^n
theorem YJ{xs:List Int}(h:eG xs):W64 xs:=fun x hx=>by
 obtain⟨i,hi⟩:=List.getElem?_of_mem hx
 have:=h i
 rw[bi,hi] at this
 simp at this
 omega
theorem YM{xs:List Int}(h:∀i,i<xs.length-> -32768<=xs.getD i 0/\xs.getD i 0<=32767):aG xs=true:=by
 unfold aG
 rw[kF]
 intro x hx
 obtain⟨i,hi⟩:=List.getElem?_of_mem hx
 have hl:=(List.getElem?_eq_some_iff.1 hi).1
 have:=h i hl
 rw[bi,hi] at this
 simp at this
 exact qI this.1 this.2
theorem QT{h:List Int}(hh:eG h)(lag:Int):aG (cO h lag)=true:=by
 unfold cO
 split
 ·refine YM fun i hi=>?_
  rw[tX,List.length_range] at hi
  rw[aT _ hi]
  exact hh _
 rfl
theorem DK(r l:List Int):aG (foL r l)=true:=by
 unfold foL
 split
 ·refine YM fun i hi=>?_
  rw[tX,List.length_range] at hi
  rw[aT _ hi]
  exact lJ _
 rfl
def pkR(ring:List Int):Bool:=decide (ring.length=40)&&aG ring
theorem IQ{ring v:List Int}(hv:v.length=40)(ha:aG v=true):(foL ring v).length=if pkR ring then 40 else 0:=by
 unfold pkR
 by_cases h:ring.length=40
 ·rw[decide_eq_true h,Bool.true_and]
  have he:kz ring v=aZ (aG ring):=by
   rw[QS ah ah]
   unfold foB
   rw[ha,Bool.and_true]
  cases hr:aG ring with
  |true=>rw[hr] at he;rw[DJ he,tX,List.length_range,hv];rfl
  |false=>rw[hr] at he;rw[DI (by rw[he];decide)];rfl
 rw[decide_eq_false h,Bool.false_and]
 rw[DI abG]
 rfl
def piV(ring h:List Int)(n:Nat):List Int:=foL ring (cO h (20+(n:Int)))
def pkC(ring h t:List Int)(n:Nat):Int:=bz t (piV ring h n) 40
def pkE(ring h:List Int)(n:Nat):Int:=bz (piV ring h n) (piV ring h n) 40
def pkS(ring h t:List Int):Nat->Int×Int×Int
 |0=>(20,0,0)
 |n+1=>if decide (0<pkC ring h t n)&&dO (pkC ring h t n) (pkE ring h n) (pkS ring h t n).2.1 (pkS ring h t n).2.2 then(20+(n:Int),pkC ring h t n,pkE ring h n) else pkS ring h t n
theorem QU(ring h:List Int)(n:Nat):eG (piV ring h n):=fP (DK _ _)
theorem YO(ring h t:List Int)(n:Nat):0<=(pkS ring h t n).2.2:=by
 induction n with
 |zero=>simp[pkS]
 |succ n ih=>
  unfold pkS
  split
  ·exact QR _ _
  exact ih
theorem IU(ring h:List Int){t:List Int}(ht:eG t)(n:Nat):(-42949672960<=(pkS ring h t n).2.1/\(pkS ring h t n).2.1<=42949672960)/\ -42949672960<=(pkS ring h t n).2.2/\(pkS ring h t n).2.2<=42949672960:=by
 induction n with
 |zero=>simp[pkS]
 |succ n ih=>
  have r1:=oq ht (QU ring h n) 40
  have r2:=oq (QU ring h n) (QU ring h n) 40
  unfold pkS
  split
  ·simp only
   unfold pkC pkE
   omega
  exact ih
theorem ag7(ring h t:List Int)(n:Nat)(hn:n<=60):20<=(pkS ring h t n).1/\(pkS ring h t n).1<=79:=by
 induction n with
 |zero=>simp[pkS]
 |succ n ih=>
  unfold pkS
  split
  ·simp only
   omega
  exact ih ah
def iP(ring h t:List Int):Int:=if t.length=40 then(if aG t&&aG h then(if pkR ring then 0 else 1) else 2) else 1
def piA(ring h t:List Int):Int:=if iP ring h t=0 then(pkS ring h t 60).1 else 0
def piB(ring h t:List Int):Int:=if iP ring h t=0 then(pkS ring h t 60).2.1 else 0
def pkD(ring h t:List Int):Int:=if iP ring h t=0 then(pkS ring h t 60).2.2 else 0
def PkAns(ring h t:List Int)(w:World)(e:Ending)(w':World):Prop:=e=.returned (.tuple #[.int .i64 (piA ring h t),.int .i64 (piB ring h t),.int .i64 (pkD ring h t),.int .i64 (iP ring h t)])/\Below w.heap.size w w'
theorem PkAns.bad{ring h t:List Int}{w w':World}{er:Int}(he:iP ring h t=er)(h0:er≠0)(hB:Below w.heap.size w w'):PkAns ring h t w (.returned (.tuple #[.int .i64 0,.int .i64 0,.int .i64 0,.int .i64 er])) w':=
 ⟨by unfold piA piB pkD;rw[he,if_neg h0,if_neg h0,if_neg h0],hB⟩
theorem pK:(Tryz.prog.info? 38).map (·.size)=some 25:=au
theorem aie(n:Nat):(madeCells (Value.int .u8 0).cells (n*1)).toList=bts (List.replicate n 0):=by
 rw[Nat.mul_one]
 show(madeCells #[Value.int .u8 0] n).toList=_
 rw[toList_madeCells_one]
 simp[bts]
theorem Sj{ops:Array Oper}{rest:List Oper}{o:Oper}{a:Act}{w:World}{Q:Exit->Act->World->Prop}(hgd:o.guard=none)(l c:Operand)
 (ho:o.op=.makeSlice 26 l c) (kl kc:IntKind) (n:Nat) (hl:a.eval l=.int kl (n:Int)) (hc:a.eval c=.int kc (n:Int)) (base:Nat) (hn:n<=17592186044416) (hbase:base<=w.heap.size)
 (h:∀w1,OwnB w1 base (some ⟨w.heap.size,0,none⟩) n (List.replicate n 0)->w.grownBy w1 none->wpList Tryz.prog ops Q rest (a.put o.dst (.slice (some ⟨w.heap.size,0,none⟩) n n)) w1):
 wpList Tryz.prog ops Q (o::rest) a w:=by
 obtain⟨i0,hi,hz0,hz1,hz2⟩:=info_parts Yg
 refine wpList_make_full w hgd l c 26 ho base 5 i0 (.int .u8 0) 1 Tryz.underlying26 hi hz0 hz1 kl kc (n:Int) (n:Int) n hl hc rfl rfl uw iT hbase ?_
 intro w1 hown hgrow
 refine h w1 ?_ hgrow
 unfold OwnB
 rw[nM]
 rw[<-aie]
 simpa using hown
theorem OwnB.blk{w:World}{base g:Nat}{xs:List Int}(h:OwnB w base (some ⟨g,0,none⟩) xs.length xs)(hn:0<xs.length):Blk w g 5 (bts xs).toArray:=by
 rcases h.2 with⟨_,h0⟩|⟨g',cap,cur,hv,_,hg,h1,_,h3,h4⟩
 ·omega
 injection hv with hA _ hc
 injection hA with hA
 injection hA with hA _ _
 subst hA
 subst hc
 have e:cur=(bts xs).toArray:=by
  have h5:cur.toList.length=xs.length:=by simpa using h3
  have h6:cur.toList.take xs.length=bts xs:=by simpa using h4
  rw[List.take_of_length_le ah] at h6
  rw[<-h6]
 rw[<-e]
 exact hg
theorem aif:pkL 0=List.replicate 15 0:=aB
theorem TwoP.cell{g h:Nat}{w w1:World}(a:TwoP g h w w1){p:Addr}{v:Value}(hc:w.cell? p=some v)(h1:p.block≠g)(h2:p.block≠h):w1.cell? p=some v:=by
 have hlt:p.block<w.heap.size:=by
  rcases Nat.lt_or_ge p.block w.heap.size with h3|h3
  ·exact h3
  unfold World.cell? at hc
  rw[Array.getElem?_eq_none h3] at hc
  simp at hc
 have:=a.keep p.block hlt h1 h2
 unfold World.cell? at*
 rw[this]
 exact hc
theorem Pst.size{gb gB gA V n:Nat}{W:World}(s:Pst gb gB gA V n W):gA<W.heap.size:=Blk.lt s.A
theorem ZP{w:World}{p:Addr}{v:Value}(h:w.cell? p=some v):p.block<w.heap.size:=by
 exact l56
theorem aig{w:World}{g:Nat}{xs:List Int}(h:Blk w g 5 (bts xs).toArray):Rb w w.heap.size (some ⟨g,0,none⟩) xs:=
 ⟨by rw[qO,Nat.mul_one],fun _=>⟨_,rfl,Blk.lt h,fun j u hj=>by rw[lI,Blk.cell h j];simpa using hj⟩⟩
theorem aih{w:World}{g V:Nat}(h:Blk w g 5 (bts (pkL V)).toArray):Rb w w.heap.size (some ⟨g,0,none⟩) (iG V):=
 ⟨by rw[qO,Nat.mul_one],fun _=>⟨_,rfl,Blk.lt h,fun j u hj=>by
   have hj2:j<(bts (iG V)).length:=(List.getElem?_eq_some_iff.1 hj).1
   rw[lI,Blk.cell h j,<-hj]
   unfold pkL
   rw[<-Yf,jZ,mF hj2]⟩⟩
def wH(ps:List Int)(w:World)(e:Ending)(w':World):Prop:=∃A c,e=.returned (.tuple #[.slice A (kZ ps).length c,.int .i64 (qP ps)])/\OwnB w' w.heap.size A c (kZ ps)/\Below w.heap.size w w'
theorem ZQ{w:World}{base g:Nat}{xs:List Int}(h:Blk w g 5 (bts xs).toArray)(hb:base<=g)(hl:xs.length<=1000):OwnB w base (some ⟨g,0,none⟩) xs.length xs:=
 ⟨by rw[qO,Nat.mul_one],.inr ⟨g,xs.length,(bts xs).toArray,rfl,hb,h,al0z _,iT,by simp[qO],by rw[Nat.mul_one];show(bts xs).take xs.length=bts xs;rw[List.take_of_length_le (by rw[qO];exact al0z _)]⟩⟩
theorem aii{w:World}{base g n:Nat}{xs:List Int}(hn:xs.length=n)(h:Blk w g 5 (bts xs).toArray)(hb:base<=g)(hl:n<=1000):OwnB w base (some ⟨g,0,none⟩) n xs:=by
 subst hn
 exact ZQ h hb hl
theorem OwnB.more{w:World}{base base' c:Nat}{A:Option Addr}{xs:List Int}(h:OwnB w base A c xs)(hb:base'<=base):OwnB w base' A c xs:=by
 exact ab2
theorem Sl(ps:List Int)(w:World)(T:TabA w 3 fD)(hl:ps.length=25)(hw:W64 ps):
 Calls Tryz.prog 47 #[.agg (agi ps)] w (wH ps w):=by
 have hmf:∀(fn:Fn) (first cap:Array Value) (w:World),(Instr.makeFunc fn first cap).run Tryz.prog w=.ok (.func fn first cap) w:=fun _ _ _ _=>rfl
 have P0:=hid (IB.new w 38 ps)
 have B0:=hid ((aA w.heap.size w).alloc (al0z _) (.cells (agi ps) 38))
 have T0:=hid (T.below B0.out)
 have HL:=hid hl
 obtain⟨V,hV⟩:∃V,V=w.alloc (.cells (agi ps) 38):=⟨_,rfl⟩
 rw[<-hV] at P0 B0 T0
 have HV:=hid hV
 have KG:=hid (af8 ps V T0.out hl)
 have KP:=hid (fun W=>af9 ps W hl hw)
 clear T hl hw hV
 by_cases hg:cf ps 25=true
 ·have HG:=hid hg
  have HBY:=hid (show kZ ps=iG (pkW ps)++[chk (iG (pkW ps))] from if_pos hg)
  have HER:=hid (show qP ps=0 from if_pos hg)
  rw[hg] at KG
  clear hg
  go_enter Tryz.func47,Tryz.ntmps47
  go_wp2_with(first
   |(rw[<-HV.out];clear HV)
   |(refine aK rfl 38 (.tmp 1) rfl _ 38 ps 25 _ rfl P0.out Tryz.underlying38 rfl pK HL.out ?_)
   |(go_at_call 65;(with_reducible refine KG.out.mono ?_);rintro e w1 ⟨rfl,hB⟩;have P1:=hid (Blk.below' P0.out hB);have T1:=hid (T0.out.below hB);have B1:=hid (B0.out.trans (hB.mono B0.out.size));clear hB)
   |(at_make;refine Sj rfl _ _ rfl .i64 .i64 15 rfl rfl w1.heap.size ah (al0z _) ?_;intro w2 hO hG;have G2:=hid (OwnB.blk hO az);have L2:=hid ((aA w1.heap.size w1).grown hG (al0z _) az);have P2:=hid (Blk.below' P1.out L2.out);have T2:=hid (T1.out.below L2.out);have B2:=hid (B1.out.trans (L2.out.mono B1.out.size));clear hO hG))
  obtain⟨W3,hW3⟩:∃W3,W3=((w2.alloc (.cells #[.slice (some ⟨w1.heap.size,0,none⟩) 15 15] 26)).alloc (.cells #[.int .i64 0] 3)):=⟨_,rfl⟩
  have LA:Below w2.heap.size w2 W3:=by rw[hW3];exact((aA w2.heap.size w2).alloc (al0z _) _).alloc az _
  have HS2:=hid (show w1.heap.size<w2.heap.size from Blk.lt G2.out)
  have S3:=hid (show Pst w1.heap.size w2.heap.size (w2.heap.size+1) 0 0 W3 from
   ⟨by rw[aif];exact Blk.below' G2.out LA,by rw[hW3];exact Blk.alloc (Blk.new w2 _ _) _,by
     have h:=Blk.new (w2.alloc (.cells #[.slice (some ⟨w1.heap.size,0,none⟩) 15 15] 26)) 3 #[.int .i64 0]
     simp only[bU] at h
     rw[hW3];exact h,HS2.out,qi _⟩)
  have P3:=hid (Blk.below' P2.out LA)
  have T3:=hid (T2.out.below LA)
  have B3:=hid (B2.out.trans (LA.mono B2.out.size))
  rw[<-hW3]
  have HW1:=hid (show w.heap.size<w1.heap.size from Blk.lt P1.out)
  clear LA hW3
  refine(Ya w.heap.size W3 T3.out).mono ?_
  rintro e w4 ⟨A,c,rfl,hO,hB⟩
  obtain⟨b,rfl,hb1,hb2,hb3⟩:=OwnF.at_ hO ah
  have HB2:=hid hb2
  have HC:=hid hb3
  have P4:=hid (Blk.below' P3.out hB)
  have B4:=hid (B3.out.trans (hB.mono B3.out.size))
  have S4:=hid (S3.out.below hB)
  have T4:=hid (T3.out.below hB)
  have LB3:=hid (show w2.heap.size+1<b from by have:=S3.out.size;omega)
  clear hO hB hb1 hb2 hb3 T0 T1 T2 T3 P0 P1 P2 P3 B0 B1 B2 B3 G2 L2 S3
  go_wp2
  go_loopw[16] (fun iv wr=> ∃i:Nat,i<=25/\iv=.int .i64 i/\Hid (Pst w1.heap.size w2.heap.size (w2.heap.size+1) (pkV ps i) (pkA i) wr)/\Hid (TwoP w1.heap.size (w2.heap.size+1) w4 wr)) (fun iv _=>25-(intOf iv).toNat)
  case atStart=>exact⟨0,ah,rfl,S4,hid (TwoP.refl _ _ _)⟩
  case round=>
   clear S4
   obtain⟨i,hi,rfl,HS,HT⟩:=hrel
   by_cases hlt:i<25
   ·obtain⟨f0,f1,f2⟩:=HC.out i hlt
    have hs12:=HS2.out
    have hs1:=HW1.out
    have hlb:=LB3.out
    have nb1:b≠w1.heap.size:=ah
    have nb2:b≠w2.heap.size+1:=ah
    have np1:w.heap.size≠w1.heap.size:=ah
    have np2:w.heap.size≠w2.heap.size+1:=ah
    have c0:wr.cell? ⟨b,i*3,none⟩=some (.pointer (some ⟨w.heap.size,i,none⟩)):=by rw[Nat.mul_comm];exact HT.out.cell f0 nb1 nb2
    have c1:wr.cell? ⟨b,i*3+1,none⟩=some (.int .i64 (pkB.getD i 0)):=by rw[Nat.mul_comm];exact HT.out.cell f1 nb1 nb2
    have c2:wr.cell? ⟨b,i*3+2,none⟩=some (.int .i64 (pkT.getD i 0)):=by rw[Nat.mul_comm];exact HT.out.cell f2 nb1 nb2
    have p0:wr.cell? ⟨w.heap.size,i,none⟩=some (.int .i64 (ps.getD i 0)):=HT.out.cell (IB.cell P4.out i oK) np1 np2
    obtain⟨hv1,hv2⟩:=Ik HG.out hlt
    obtain⟨hn1,hn2,_⟩:=Qz hlt
    have ha:=Qy (n:=i+1) ah
    have SX:=hid (show pkV ps (i+1)=pkV ps i|||(ps.getD i 0).toNat<<<(112-pkA i-pkN i) from rfl)
    have SY:=hid (show pkA (i+1)=pkA i+pkN i from rfl)
    rw[SY.out] at ha
    rw[hv2] at p0
    rw[hn2] at c1
    generalize (ps.getD i 0).toNat=v at*
    generalize pkN i=n at*
    generalize pkT.getD i 0=t at*
    have hbl:=(ZP c0)
    have hpl:=(ZP p0)
    have i0:(0:Int)<=i:=ah
    have i25:(i:Int)<25:=ah
    obtain⟨W,hW⟩:∃W,W=wr.alloc (.cells #[.pointer (some ⟨w.heap.size,i,none⟩),.int .i64 (n:Nat),.int .i64 t] 122):=⟨_,rfl⟩
    have LW:Below wr.heap.size wr W:=by rw[hW];exact(aA _ _).alloc (al0z _) _
    have q0:W.cell? ⟨wr.heap.size,0,none⟩=some (.pointer (some ⟨w.heap.size,i,none⟩)):=by rw[hW];exact Blk.cell (Blk.new wr _ _) 0
    have q1:W.cell? ⟨wr.heap.size,1,none⟩=some (.int .i64 (n:Nat)):=by rw[hW];exact Blk.cell (Blk.new wr _ _) 1
    have qx:W.cell? ⟨w.heap.size,i,none⟩=some (.int .i64 (v:Nat)):=(LW.cell (p:=⟨w.heap.size,i,none⟩) hpl).trans p0
    have SW:=hid (HS.out.below LW)
    have TW:=hid (HT.out.trans (TwoP.of_below LW))
    have hgl:=HS.out.size
    have nr1:wr.heap.size≠w1.heap.size:=ah
    have nr2:wr.heap.size≠w2.heap.size+1:=ah
    have KU:=hid (Yi w1.heap.size w2.heap.size (w2.heap.size+1) (pkV ps i) (pkA i) v n W.drew SW.out.drew ah hv1 ah)
    clear f0 f1 f2 hv2 hn2
    go_wp2
    rw[<-hW]
    clear hW c0 c1 c2 p0 LW
    go_region_held3 (fun w'=>w'.cell? ⟨wr.heap.size,0,none⟩=some (.pointer (some ⟨w.heap.size,i,none⟩))/\w'.cell? ⟨wr.heap.size,1,none⟩=some (.int .i64 (n:Nat))/\w'.cell? ⟨w.heap.size,i,none⟩=some (.int .i64 (v:Nat))) (go_keep) (first
     |(go_at_call 108;(with_reducible refine KU.out.mono ?_);rintro e' w5 ⟨rfl,hS,hT⟩;have k0:=hT.cell (p:=⟨wr.heap.size,0,none⟩) q0 nr1 nr2;have k1:=hT.cell (p:=⟨wr.heap.size,1,none⟩) q1 nr1 nr2;have k2:=hT.cell (p:=⟨w.heap.size,i,none⟩) qx np1 np2;have S5:=hid hS;have T5:=hid (TW.out.drew.trans hT);clear hS hT))
    rename_i hHeldZ
    clear hHeldZ k0 k1 k2 q0 q1 qx
    try simp only[Exit.then]
    go_wp2
    go_roundw
    case rel=>exact⟨i+1,ah,aO,hid (by rw[SX.out,SY.out];exact S5.out),T5⟩
    case measure=>simp[intOf]<;>omega
   obtain rfl:i=25:=ah
   try rw[show((25:Nat):Int)=25 from rfl]
   have hs12:=HS2.out
   have hs1:=HW1.out
   have np1:w.heap.size≠w1.heap.size:=ah
   have np2:w.heap.size≠w2.heap.size+1:=ah
   have PE:=hid (HT.out.blk P4.out np1 np2)
   have BE:=hid (B4.out.trans (HT.out.below (B:=w.heap.size) (by have:=B4.out.size;exact this) ah ah))
   have KQ:=hid (fun W (S:Pst w1.heap.size w2.heap.size (w2.heap.size+1) (pkV ps 25) (pkA 25) W)=>show Calls Tryz.prog 108 #[.int .i64 (pkQ ps:Nat),.int .i64 1,.pointer (some ⟨w2.heap.size,0,none⟩),.pointer (some ⟨w2.heap.size+1,0,none⟩)] W (fun e w'=>e=.returned (.tuple #[])/\Pst w1.heap.size w2.heap.size (w2.heap.size+1) (pkV ps 25|||pkQ ps<<<(112-pkA 25-1)) (pkA 25+1) w'/\TwoP w1.heap.size (w2.heap.size+1) W w') from Yi w1.heap.size w2.heap.size (w2.heap.size+1) (pkV ps 25) (pkA 25) (pkQ ps) 1 W S ah (Nat.mod_lt _ aB) (by rw[zM];omega))
   rw[Yl] at KP
   have HWW:=hid (show pkV ps 25|||pkQ ps<<<(112-pkA 25-1)=pkW ps from by rw[zM];rfl)
   rw[HWW.out] at KQ
   clear HC P4 B4 T4
   generalize pkQ ps=qq at*
   go_wp2_with(first
    |(refine aK rfl 38 (.tmp 1) rfl _ 38 ps 25 _ rfl PE.out Tryz.underlying38 rfl pK HL.out ?_)
    |(go_at_call 66;(with_reducible refine(KP.out wr).mono ?_);rintro e w6 ⟨rfl,hB⟩;have S6:=hid (HS.out.below hB);have B6:=hid (BE.out.trans (hB.mono BE.out.size));clear hB)
    |(go_at_call 108;(with_reducible refine(KQ.out w6 S6.out).mono ?_);rintro e' w7 ⟨rfl,hS,hT⟩;have S7:=hid hS;have B7:=hid (B6.out.trans (hT.below (B:=w.heap.size) (by have:=B6.out.size;exact this) ah ah));clear hS hT;have cB:w7.cell? ⟨w2.heap.size,0,none⟩=some (.slice (some ⟨w1.heap.size,0,none⟩) 15 15):=Blk.cell S7.out.B 0))
   have KS:=hid (agd (some ⟨w1.heap.size,0,none⟩) 15 14 (iG (pkW ps)) w7.drew (aih (Blk.drew S7.out.R)) (oC _) ah (Yn _))
   have cE:w7.cell? ⟨w1.heap.size,14,none⟩=some (.int .u8 0):=by
    rw[Blk.cell S7.out.R 14]
    simp[bts,pkL,oC]
   have fE:=Blk.frozen S7.out.R 14
   have FE:=hid (fun(v:Int)=>show Blk (w7.drew.setCell ⟨w1.heap.size,14,none⟩ (.int .u8 v)) w1.heap.size 5 (bts (iG (pkW ps)++[v])).toArray from by
    have a:=Blk.set_ (Blk.drew S7.out.R) 14 (.int .u8 v)
    have e:(bts (pkL (pkW ps))).toArray.setIfInBounds 14 (.int .u8 v)=(bts (iG (pkW ps)++[v])).toArray:=by
     rw[iZ]
     unfold bts pkL
     rw[<-List.map_set,List.set_append_right _ _ EY,oC]
     rfl
    rw[e] at a
    exact a)
   have GE:=hid (fun(v:Int)=>Blk.cell (Blk.far (Blk.drew S7.out.B) (p:=⟨w1.heap.size,14,none⟩) (show w2.heap.size≠w1.heap.size from ah) (.int .u8 v)) 0)
   have BF:=hid (fun(v:Int)=>(B7.out.drew).setCell (p:=⟨w1.heap.size,14,none⟩) (show w.heap.size<=w1.heap.size from ah) (.int .u8 v))
   have LN:=hid (show(kZ ps).length=15 from by rw[HBY.out,gu,oC];rfl)
   obtain⟨ck,hck⟩:∃ck,ck=chk (iG (pkW ps)):=⟨_,rfl⟩
   rw[<-hck] at KS HBY
   clear hck
   have GE:=GE.out ck
   have hne3: ¬w2.heap.size=w1.heap.size:=ah
   go_region_with ((go_at_call 62;(with_reducible refine KS.out.mono ?_);rintro e' w' ⟨rfl,rfl⟩))
   all_goals
    try simp only[Exit.then]
    go_wp2
    go_ret2
    exact⟨_,15,by rw[LN.out,HER.out];rfl,by rw[HBY.out];exact aii (by rw[gu,oC];rfl) (FE.out ck) ah ah,BF.out ck⟩
 ·have hgf:cf ps 25=false:=by simpa using hg
  have HBY:=hid (show kZ ps=[] from if_neg hg)
  have HER:=hid (show qP ps=2 from if_neg hg)
  rw[hgf] at KG
  clear hg hgf
  go_enter Tryz.func47,Tryz.ntmps47
  go_wp2_with(first
   |(rw[<-HV.out];clear HV)
   |(refine aK rfl 38 (.tmp 1) rfl _ 38 ps 25 _ rfl P0.out Tryz.underlying38 rfl pK HL.out ?_)
   |(go_at_call 65;(with_reducible refine KG.out.mono ?_);rintro e w1 ⟨rfl,hB⟩;have B1:=hid (B0.out.trans (hB.mono B0.out.size));clear hB))
  exact acC
section
variable {ps:List Int}
end
def SameAt(d:Nat)(t:TypeId)(v:Value):Prop:=∀w,(Op.equalIn d t v v).run Tryz.prog w=.ok true w
def PartAt(t:TypeId)(xs:Array Value)(o:Nat)(v:Value):Prop:=∀w,(part t xs o).run Tryz.prog w=.ok v w
theorem SameAt.num(d:Nat)(x:Int):SameAt (d+1) 3 (.int .i64 x):=fun w=>by
 rw[run_equalIn_int w d 3 .i64 .i64 _ _ Tryz.underlying3]
 simp
theorem SameAt.tf(d:Nat)(x:Bool):SameAt (d+1) 4 (.bool x):=fun w=>by
 rw[run_equalIn_bool' w d 4 _ _ Tryz.underlying4]
 simp
theorem SameAt.arr(d:Nat){t:TypeId}{n:Nat}(ht:Tryz.prog.underlying t=some (.array n 3))(xs:List Int)(hl:xs.length=n):SameAt (d+2) t (.agg (agi xs)):=aeK d ht xs hl
theorem PartAt.row{t:TypeId}{n o:Nat}(hs:∀w,(sizeOf t).run Tryz.prog w=.ok n w)(ha:∀w,(isAgg t).run Tryz.prog w=.ok true w)(cs A xs B:List Value)(he:cs=A++(xs++B))(ho:A.length=o)(hl:xs.length=n):PartAt t cs.toArray o (.agg xs.toArray):=fun w=>by
 subst he
 subst ho
 subst hl
 have e:(A++(xs++B)).toArray.extract A.length (A.length+xs.length)=xs.toArray:=by
  simp[List.extract_toArray]
 simp only[part,nR,ha,hs,nU,if_true,rD,e]
theorem PartAt.cell{t:TypeId}{o:Nat}(ha:∀w,(isAgg t).run Tryz.prog w=.ok false w)(cs A B:List Value)(v:Value)(he:cs=A++(v::B))(ho:A.length=o):PartAt t cs.toArray o v:=fun w=>by
 subst he
 subst ho
 simp[part,ha]
theorem aak(d:Nat)(xs:Array Value):∀fs:List Field,(∀f∈fs,∃v,PartAt f.type xs f.offset v/\SameAt d f.type v)->∀w,(Op.eqFields d xs xs fs).run Tryz.prog w=.ok true w
 |[],_,w=>by simp[Op.eqFields]
 |f::fs,h,w=>by
  obtain⟨v,h1,h2⟩:=h f az
  have ih:=aak d xs fs (fun g hg=>h g (by simp[hg])) w
  simp only[Op.eqFields,nR,Sem.run_ite]
  split
  ·simp only[h1 w,h2 w,nU,Bool.not_true,Bool.false_eq_true,if_false]
   exact ih
  exact ih
theorem SameAt.struct{d:Nat}{t:TypeId}(ht:Tryz.prog.underlying t=some (.struct (Tryz.prog.fieldsOf t)))(hp:Tryz.prog.stoodInHeld t=false)(xs:Array Value)(l:List (TypeId×Nat))
 (e:(Tryz.prog.fieldsOf t).toList.map (fun f=>(f.type,f.offset))=l) (h:∀p∈l,∃v,PartAt p.1 xs p.2 v/\SameAt d p.1 v):SameAt (d+1) t (.agg xs):=fun w=>by
 rw[run_equalIn_struct w d t xs xs ht hp]
 exact aak d xs _ (fun f hf=>h (f.type,f.offset) (by rw[<-e];exact List.mem_map_of_mem hf)) w
theorem SameAt.eql{t:TypeId}{xs:Array Value}(h:SameAt 10000 t (.agg xs))(w:World):(binOp .eql t (.agg xs) (.agg xs)).run Tryz.prog w=.ok (.bool true) w:=by
 rw[run_eql_struct,h w]
 rfl
theorem aix(ps:List Int)(o n:Nat):aj ps=aj (ps.take o)++(aj ((ps.drop o).take n)++aj (ps.drop (o+n))):=by
 rw[BU,BU,<-List.drop_drop,qh,qh]
section
variable {gB gA c n:Nat} {A:Option Addr} {xs:List Int} {W W':World}
end
end Go.Proofs.YthoiikkjjaldnaaGreatDoor
