/- Texts that the law rests on. -/
import Derived.Test.YthoiikkjjaldnaaGreatDoorZ1e0k
namespace Go.Proofs.YthoiikkjjaldnaaGreatDoor
set_option linter.unusedVariables false
set_option linter.unusedSimpArgs false
set_option maxRecDepth 100000
set_option maxHeartbeats 8000000
open Go.RowKit
theorem ai6(w:World)(v:Value){p q:Addr}(h:q.block≠p.block):(w.setCell p v).cell? q=w.cell? q:=by
 unfold World.cell?
 rw[Below.heap_setCell w p v q.block h]
def jX(l:List Int)(k:Nat):List Int:=(List.range 9).map (fun j=>if j<k then zZ (jJ l (iY l j)) j else 0)
theorem tj(l:List Int)(k:Nat):(jX l k).length=9:=by simp[jX]
theorem ai7(l:List Int):jX l 0=Z9:=by
 refine bV (by rw[tj];rfl) fun j hj=>?_
 rw[tj] at hj
 unfold jX Z9
 exact acp
theorem ai8(l:List Int){k:Nat}(hk:k<9):(jX l k).set k (zZ (jJ l (iY l k)) k)=jX l (k+1):=by
 refine bV (by rw[List.length_set,tj,tj]) fun j hj=>?_
 rw[List.length_set,tj] at hj
 by_cases e:k=j
 ·subst e
  rw[gQ _ _ _ (by rw[tj];exact hk)]
  unfold jX
  rw[aT _ hj,if_pos ah]
 rw[iw _ _ e]
 unfold jX
 rw[aT _ hj,aT _ hj]
 by_cases h2:j<k
 ·rw[if_pos h2,if_pos ah]
 rw[if_neg h2,if_neg ah]
theorem ai9(l:List Int):jX l 9=eX l (jJ l) 9:=by
 refine bV (by rw[tj,pG]) fun j hj=>?_
 rw[tj] at hj
 unfold jX eX
 rw[aT _ hj,aT _ hj,if_pos hj,if_pos hj]
def tu(l:List Int)(k j:Nat):Int:=if j<k then jJ l (iY l j) else iY l j
def tG(l:List Int)(j:Nat):Int:=fG l j (120-j)
theorem aaJ(X:Nat->Int)(k:Nat)(z:Int):upX X k z k=z:=if_pos rfl
theorem aja(X:Nat->Int)(k:Nat)(y z:Int)(j:Nat):upX (upX X k y) k z j=upX X k z j:=by
 unfold upX
 split<;>rfl
theorem ajb(l:List Int)(k j:Nat):upX (tu l k) k (jJ l (iY l k)) j=tu l (k+1) j:=by
 unfold upX tu
 by_cases e:j=k
 ·subst e
  rw[if_pos rfl,if_pos ah]
 rw[if_neg e]
 by_cases h:j<k
 ·rw[if_pos h,if_pos ah]
 rw[if_neg h,if_neg ah]
theorem ajc(l:List Int)(k j:Nat):upX (tG l) k (fG l k (120-k)) j=tG l j:=by
 unfold upX tG
 split
 ·rename_i e;rw[e]
 rfl
theorem ajd(l:List Int)(j:Nat):upX (tG l) 0 (fG l 0 120+1) j=tu l 0 j:=by
 unfold upX tG tu iY eF
 rw[if_neg (show¬j<0 from ah)]
theorem aje(A:Option Addr)(c:Nat)(l:List Int)(w:World)(hr:Rs w w.heap.size A l)(hn:l.length=120)(g:aG l=true):
 Calls Tryz.prog 49 #[.slice A 120 c] w (RP l w):=by
 have hR:=qC (fn:=Tryz.f49) (p:=2) (q:=3) (r:=4) (ty:=90) rfl
 have KR:=hid (fun(W:World) (h:Rs W W.heap.size A l)=>kJ A c 120 W.heap.size l W h hn ah)
 rw[g] at KR
 have G:=hid (show eG l from fP g)
 have HR:=hid hr
 have HN:=hid hn
 have B0:=(((aA w.heap.size w).alloc (al0z _) (.cells (agi Z9) 90)).alloc az (.cells (agi Z9) 90))
 have I0:=Blk.alloc (IB.new w 90 Z9) (.cells (agi Z9) 90)
 have R0:=IB.new (w.alloc (.cells (agi Z9) 90)) 90 Z9
 simp only[bU] at R0
 clear hr hn g
 go_enter Tryz.func49,Tryz.ntmps49
 go_wp2_with fail
 refine(KR.out _ ((HR.out.below B0).more B0.size)).mono ?_
 rintro e w1 ⟨rfl,rfl⟩
 have BH:=hid B0
 have I1:=hid (show IB ((w.alloc (.cells (agi Z9) 90)).alloc (.cells (agi Z9) 90)) w.heap.size 90 Z9 from I0)
 have R1:=hid (show IB ((w.alloc (.cells (agi Z9) 90)).alloc (.cells (agi Z9) 90)) (w.heap.size+1) 90 Z9 from R0)
 clear B0 I0 R0
 obtain⟨V,hV⟩:∃V,V=((w.alloc (.cells (agi Z9) 90)).alloc (.cells (agi Z9) 90)):=⟨_,rfl⟩
 have SV:=hid (show V.heap.size=w.heap.size+2 by rw[hV];simp)
 rw[<-hV] at I1 R1 BH|-
 clear hV
 go_wp2_with(at_make;refine kR rfl _ _ rfl .i64 .i64 120 rfl rfl (w.heap.size+2) ah (by have:=SV.out;omega) ?_;intro w1 hO hG;have O1:=hid hO;have G1:=hid hG;clear hO hG)
 obtain⟨gw,hgw⟩:∃gw,gw=V.heap.size:=⟨_,rfl⟩
 have W1:=hid (show Own w1 (w.heap.size+2) (some ⟨gw,0,none⟩) 120 (iH l 0) from by rw[Zr,hgw];exact O1.out)
 have GW:=hid (show gw=w.heap.size+2 by rw[hgw];exact SV.out)
 rw[<-hgw]
 have I2:=hid (Blk.grown I1.out G1.out az)
 have R2:=hid (Blk.grown R1.out G1.out az)
 have B2:=hid (BH.out.grown G1.out BH.out.size az)
 clear hgw SV I1 R1 BH O1 G1
 go_loopw[25] (fun iv wr=> ∃i:Nat,i<=120/\iv=.int .i64 i/\Hid (IB wr w.heap.size 90 Z9)/\Hid (IB wr (w.heap.size+1) 90 Z9)/\Hid (Own wr (w.heap.size+2) (some ⟨gw,0,none⟩) 120 (iH l i))/\Hid (Below w.heap.size w wr)) (fun iv _=>120-(intOf iv).toNat)
 case atStart=>exact⟨0,ah,rfl,I2,R2,W1,B2⟩
 case round=>
  clear I2 R2 W1 B2
  obtain⟨i,hi,rfl,HI,HQ,HW,HB⟩:=hrel
  by_cases hlt:i<120
  ·obtain⟨ad,rfl,hadb,c0⟩:=(HR.out.below HB.out).at_ (k:=i) iE
   have x16:=G.out i
   have yr:=RI (i:Nat)
   have HSet:=hid (Zt l hlt)
   have HC:=hid (show eQ l i=(l.getD i 0*wgt (i:Nat)+16384)/32768 from rfl)
   have KW:=hid (fun W=>ahJ (i:Nat) W)
   generalize l.getD i 0=x at*
   generalize wgt (i:Nat)=y at*
   have pr:=ja (x:=x) (X:=32768) (y:=y) (Y:=32767) ah ah ⟨ah,ah⟩ ⟨ah,ah⟩
   have p1: -1073709056<=x*y:=ah
   have p2:x*y<=1073709056:=ah
   have in0:(0:Int)<=i:=ah
   have in1:(i:Int)<120:=ah
   have hw1:IntKind.i64.wrap (x*y)=x*y:=aN
   have hw2:IntKind.i64.wrap (x*y+16384)=x*y+16384:=aN
   have KD:=hid (fun W=>CN (x*y+16384) W ah ah)
   have hne:ad.block≠gw:=by have:=GW.out;omega
   have hne2:gw≠ad.block:=ah
   have hsz:=HB.out.size
   clear pr x16 yr
   go_wp2
   go_region_held3 (fun w'=>w'.cell? (ad.add i)=some (.int .i64 x)) (first|go_keep|(refine(ai6 _ _ (by rw[dM];exact hne)).trans ?_;assumption)) (first
    |(go_at_call 111;(with_reducible refine(KW.out _).mono ?_);rintro e' w' ⟨rfl,rfl⟩)
    |(go_at_call 110;(with_reducible refine(KD.out wr.drew).mono ?_);rintro e' wD ⟨rfl,hD⟩;have LD:=hid (((aA wr.heap.size wr).drew).trans hD);have cD:World.cell? wD (ad.add i)=some (.int .i64 x):=(LD.out.cell zh).trans c0;have WD:=hid (HW.out.below LD.out);have cwD:=WD.out.cell i (by rw[qZ];exact hlt);have fwD:=WD.out.frozen i;clear hD))
   all_goals
    rename_i hHeldZ
    clear hHeldZ cD cwD fwD c0 hw1 hw2
    try simp only[Exit.then]
    have NI:=hid (Blk.far (Blk.below' HI.out LD.out) (p:=⟨gw,i,none⟩) (by show w.heap.size≠gw;have:=GW.out;omega) (.int .i64 ((x*y+16384)/32768)))
    have NQ:=hid (Blk.far (Blk.below' HQ.out LD.out) (p:=⟨gw,i,none⟩) (by show w.heap.size+1≠gw;have:=GW.out;omega) (.int .i64 ((x*y+16384)/32768)))
    have NW:=hid (show Own (wD.setCell ⟨gw,i,none⟩ (.int .i64 ((x*y+16384)/32768))) (w.heap.size+2) (some ⟨gw,0,none⟩) 120 (iH l (i+1)) from by rw[<-HSet.out,HC.out];exact WD.out.set_ i (by rw[qZ];exact hlt) _)
    have NB:=hid ((HB.out.trans (LD.out.mono HB.out.size)).setCell (p:=⟨gw,i,none⟩) (by show w.heap.size<=gw;have:=GW.out;omega) (.int .i64 ((x*y+16384)/32768)))
    go_wp2
    go_roundw
    case rel=>exact⟨i+1,ah,aO,NI,NQ,NW,NB⟩
    case measure=>simp[intOf]<;>omega
  obtain rfl:i=120:=ah
  have hgwlt:gw<wr.heap.size:=(HW.out.lt _ rfl).2
  have SC:=hid (show Cs w (wr.alloc (.cells #[.pointer none,.pointer none,.pointer none,.pointer none,.pointer none,.pointer none,.pointer none,.pointer none,.pointer none] 156)) Z9 (iH l 120) gw wr.heap.size 0 (fun _=>0) (tG l) from
   ⟨Blk.alloc HI.out _,Blk.alloc HQ.out _,HW.out.alloc _,by rw[ai4];exact Blk.new wr _ _,fun j hj=>ah,fun j hj=>ah,fun i j hij hj=>ah,by have:=GW.out;omega,hgwlt,HB.out.alloc HB.out.size _⟩)
  go_wp2
  obtain⟨gs,hgs⟩:∃gs,gs=wr.heap.size:=⟨_,rfl⟩
  obtain⟨V2,hV2⟩:∃V2,V2=wr.alloc (.cells #[.pointer none,.pointer none,.pointer none,.pointer none,.pointer none,.pointer none,.pointer none,.pointer none,.pointer none] 156):=⟨_,rfl⟩
  rw[<-hV2,<-hgs] at SC|-
  try rw[show((120:Nat):Int)=120 from rfl]
  clear hV2 hgs hgwlt HI HQ HW HB
  go_loopw[41] (fun kv wr=> ∃(k:Nat) (P:Nat->Nat),k<=9/\kv=.int .i64 k/\Hid (Cs w wr Z9 (iH l 120) gw gs k P (tG l))) (fun kv _=>9-(intOf kv).toNat)
  case atStart=>exact⟨0,_,ah,rfl,SC⟩
  case round=>
   clear SC
   obtain⟨k,P,hk,rfl,HS⟩:=hrel
   by_cases hlk:k<9
   ·have hdec:decide ((k:Int)<9)=true:=aJ
    have k0:(0:Int)<=k:=ah
    have k9:(k:Int)<9:=ah
    have cg:(wr.alloc (.cells #[.bool false,.slice none 0 0] 80)).cell? ⟨gs,k,none⟩=some (.pointer none):=by
     rw[Blk.cell (Blk.alloc HS.out.S _) k,aaI P k hlk]
     unfold Au
     rw[if_neg ah]
    have fg:(wr.alloc (.cells #[.bool false,.slice none 0 0] 80)).frozen? ⟨gs,k,none⟩=false:=Blk.frozen (Blk.alloc HS.out.S _) k
    have HP:=hid (HS.out.push hlk)
    go_wp2
    obtain⟨wo,hwo⟩:∃wo,wo=(wr.alloc (.cells #[.bool false,.slice none 0 0] 80)).setCell ⟨gs,k,none⟩ (.pointer (some ⟨wr.heap.size,0,none⟩)):=⟨_,rfl⟩
    rw[<-hwo] at HP|-
    obtain⟨P2,hP2⟩:∃P2,P2=upN P k wr.heap.size:=⟨_,rfl⟩
    rw[<-hP2] at HP
    clear hwo hP2 cg fg HS
    go_loopw[10] (fun iv wr=> ∃i:Nat,i+k<=120/\iv=.int .i64 i/\Hid (Cs w wr Z9 (iH l 120) gw gs (k+1) P2 (upX (tG l) k (fG l k i)))) (fun iv _=>120-(intOf iv).toNat)
    case atStart=>exact⟨0,ah,rfl,HP⟩
    case round=>
     clear HP
     obtain⟨i,hi,rfl,HS⟩:=hrel
     by_cases hlt:i+k<120
     ·obtain⟨m,hm⟩:∃m,m=i+k:=⟨_,rfl⟩
      have cp:=HS.out.ptr (j:=k) ah hlk
      have ci:=HS.out.at_ (j:=i) Fa
      have cm:=HS.out.at_ (j:=m) Fa
      have CI:=hid (Js l (j:=i) ah)
      have CM:=hid (Js l (j:=m) ah)
      have ST:=hid (show fG l k (i+1)=fG l k i+eQ l i*eQ l m by
       unfold fG
       simp only[aI]
       unfold sN
       rw[hm])
      have sr:=Jq G.out k i ah
      have r1:=zY G.out i
      have r2:=zY G.out m
      rw[CI.out] at ci
      rw[CM.out] at cm
      generalize eQ l i=x at*
      generalize eQ l m=y at*
      obtain⟨s,hs⟩:∃s,s=fG l k i:=⟨_,rfl⟩
      rw[<-hs] at sr ST HS
      have pr:=ja (x:=x) (X:=32768) (y:=y) (Y:=32768) ah ah ⟨ah,ah⟩ ⟨ah,ah⟩
      have p1: -1073741824<=x*y:=ah
      have p2:x*y<=1073741824:=ah
      have hw0:IntKind.i64.wrap ((i:Int)+(k:Nat))=(m:Nat):=aN
      have hw1:IntKind.i64.wrap (x*y)=x*y:=aN
      have i1:(i:Int)<120:=ah
      have i2:(0:Int)<=i:=ah
      have i3:(m:Int)<120:=ah
      have i4:(0:Int)<=m:=ah
      have LI:=hid (show i<(iH l 120).length from Fa)
      have LM:=hid (show m<(iH l 120).length from Fa)
      have KA:=hid (fun W=>fJ W (x*y) ah ah)
      have KS:=hid (fun W b h1 h2=>rK W (P2 k) (P2 k) b s (x*y) (IntAt.blk h1) h1 h2 (nz ah ah) (nz ah ah))
      have HM:=hid hm
      have kk:k<k+1:=ah
      clear pr r1 r2 sr hs hm
      go_wp2
      go_region_held3 (fun w'=>w'.cell? ⟨gs,k,none⟩=some (.pointer (some ⟨P2 k,0,none⟩))/\w'.cell? ⟨gw,i,none⟩=some (.int .i64 x)/\w'.cell? ⟨gw,m,none⟩=some (.int .i64 y)) (go_keep) (first
       |(go_at_call 32;(with_reducible refine(KA.out wr.drew).mono ?_);rintro e' wA ⟨bA,rfl,hbA,hIA,hBA⟩;have SA:=hid (HS.out.drew.below hBA);have IA:=hid hIA;have a0:=SA.out.ptr (j:=k) kk hlk;have a1:=SA.out.at_ (j:=i) LI.out;have a2:=SA.out.at_ (j:=m) LM.out;rw[CI.out] at a1;rw[CM.out] at a2;have XA:=SA.out.N k kk;rw[aaJ] at XA;have XA:=hid XA;clear hIA hBA)
       |(go_at_call 31;(with_reducible refine(KS.out wA bA XA.out IA.out).mono ?_);rintro e' wS ⟨rfl,hIS,hGS⟩;have SS:=hid (SA.out.give (j:=k) kk hIS hGS);have ns0:=SS.out.ptr (j:=k) kk hlk;have ns1:=SS.out.at_ (j:=i) LI.out;have ns2:=SS.out.at_ (j:=m) LM.out;rw[CI.out] at ns1;rw[CM.out] at ns2;clear hIS hGS))
      all_goals
       rename_i hHeldZ
       clear hHeldZ a0 a1 a2 cp ci cm hw0 hw1
       try simp only[Exit.then]
       have SN:=hid (SS.out.congr (Y:=upX (tG l) k (fG l k (i+1))) fun j hj=>by rw[aja,ST.out])
       go_wp2
       go_roundw
       case rel=>exact⟨i+1,ah,aO,SN⟩
       case measure=>simp[intOf]<;>omega
     have SN:=hid (show Cs w wr Z9 (iH l 120) gw gs (k+1) P2 (tG l) from HS.out.congr fun j hj=>by rw[show i=120-k from ah];exact ajc l k j)
     go_wp2
     go_roundw
     case rel=>exact⟨k+1,P2,ah,aO,SN⟩
     case measure=>simp[intOf]<;>omega
   obtain rfl:k=9:=ah
   have c0:=HS.out.ptr (j:=0) ah ah
   have sr:=Jq G.out 0 120 ah
   have zr:=wG G.out
   have HZ:=hid (show eF l=fG l 0 120+1 from rfl)
   obtain⟨s,hs⟩:∃s,s=fG l 0 120:=⟨_,rfl⟩
   rw[<-hs] at sr HZ
   have X0:=hid (show IntAt wr (P 0) s from by rw[hs];exact HS.out.N 0 ah)
   have HSS:=hid hs
   have KA:=hid (fun W=>kP W 1 ah ah)
   have KS:=hid (fun W b h1 h2=>rK W (P 0) (P 0) b s 1 (IntAt.blk h1) h1 h2 (nz ah ah) (nz ah ah))
   clear hs sr
   go_wp2
   go_region_held3 (fun w'=>w'.cell? ⟨gs,0,none⟩=some (.pointer (some ⟨P 0,0,none⟩))) (go_keep) (first
    |(go_at_call 81;(with_reducible refine(KA.out wr.drew).mono ?_);rintro e' wA ⟨bA,rfl,hbA,hIA,hBA⟩;have SA:=hid (HS.out.drew.below hBA);have IA:=hid hIA;have a0:=SA.out.ptr (j:=0) ah ah;have XA:=hid (X0.out.drew.below hBA (al0z _));clear hIA hBA)
    |(go_at_call 31;(with_reducible refine(KS.out wA bA XA.out IA.out).mono ?_);rintro e' wS ⟨rfl,hIS,hGS⟩;have SS:=hid (SA.out.give (j:=0) ah hIS hGS);have ns0:=SS.out.ptr (j:=0) ah ah;clear hIS hGS))
   all_goals
    rename_i hHeldZ
    clear hHeldZ a0 c0
    try simp only[Exit.then]
    have SY:=hid (show Cs w wS (jX l 0) (iH l 120) gw gs 9 P (tu l 0) from by rw[ai7];exact SS.out.congr fun j hj=>by rw[HSS.out];exact ajd l j)
    have KB:=hid (aeG wS (P 0) (eF l) (SY.out.N 0 ah) (nz ah ah))
    have kr:=Zz G.out
    obtain⟨N,hN⟩:∃N,N=lw l:=⟨_,rfl⟩
    have hwK:IntKind.i64.wrap ((fH (eF l).natAbs:Nat)-31:Int)=N:=by rw[hN,oJ];unfold lw at*;omega
    have HK:=hid hN
    rw[<-hN] at kr
    clear hN zr SS SA IA XA X0 HS
    go_wp2_with(go_at_call 112;(with_reducible refine KB.out.mono ?_);rintro e' w' ⟨rfl,rfl⟩)
    clear hwK ns0 KB KA KS
    go_loopw[83] (fun kv wr=> ∃k:Nat,k<=9/\kv=.int .i64 k/\Hid (Cs w wr (jX l k) (iH l 120) gw gs 9 P (tu l k))) (fun kv _=>9-(intOf kv).toNat)
    case atStart=>exact⟨0,ah,rfl,SY⟩
    case round=>
     clear SY
     obtain⟨k,hk,rfl,HS⟩:=hrel
     by_cases hlk:k<9
     ·have cp:=HS.out.ptr (j:=k) hlk hlk
      have xr:=Jt l hlk
      have zr:=wG G.out
      have gr:=ah4 G.out hlk
      have HG:=hid (show jJ l (iY l k)=if 0<N then iY l k/2^N.toNat else iY l k*2^(-N).toNat from by rw[HK.out];rfl)
      have HE:=hid (ai8 l hlk)
      have XK:=hid (show IntAt wr (P k) (iY l k) from by have:=HS.out.N k hlk;rwa [show tu l k k=iY l k from if_neg ah] at this)
      have HY:=hid (ajb l k)
      obtain⟨y,hy⟩:∃y,y=jJ l (iY l k):=⟨_,rfl⟩
      rw[<-hy] at gr HG HE HY
      have k0:(0:Int)<=k:=ah
      have k9:(k:Int)<9:=ah
      generalize iY l k=x at*
      have xs:Sm x.natAbs:=nz ah ah
      have XS:=hid xs
      have q1:=ja (x:=y) (X:=2147483648) (y:=(k:Int)) (Y:=8) ah ah ⟨ah,ah⟩ ⟨ah,ah⟩
      have q2:=ja (x:=y*k) (X:=17179869184) (y:=(k:Int)) (Y:=8) ah ah ⟨ah,ah⟩ ⟨ah,ah⟩
      have hw1:IntKind.i64.wrap (y*k)=y*k:=aN
      have hw2:IntKind.i64.wrap (y*k*k)=y*k*k:=aN
      have hw3:IntKind.i64.wrap (y-y*k*k/8192)=y-y*k*k/8192:=aN
      have KD:=hid (fun W=>aec (y*k*k) W ah ah)
      have KI:=hid (fun W b h=>oP W b y h ah ah)
      clear xs q1 q2 gr zr xr hy
      by_cases hs:0<N
      ·obtain⟨n,rfl⟩:∃n:Nat,N=n:=⟨N.toNat,ah⟩
       have hgt:decide (0<(n:Int))=true:=by simpa using hs
       have hu:IntKind.u64.wrap (n:Int)=n:=xe
       have hv:=HG.out
       rw[if_pos hs,Int.toNat_natCast] at hv
       have HV:=hid hv
       have KX:=hid (FT wr.drew (P k) (P k) x n (IntAt.blk XK.out.drew) XK.out.drew XS.out ah)
       rw[<-HV.out] at KX
       clear hv
       go_wp2
       go_region_held3 (fun w'=>w'.cell? ⟨gs,k,none⟩=some (.pointer (some ⟨P k,0,none⟩))) (go_keep) (first
        |(go_at_call 73;(with_reducible refine KX.out.mono ?_);rintro e' wS ⟨rfl,hIS,hGS⟩;have SS:=hid (HS.out.drew.give (j:=k) hlk hIS hGS);have ns0:=SS.out.ptr (j:=k) hlk hlk;clear hIS hGS))
       all_goals
        rename_i hHeldZ
        clear hHeldZ cp
        try simp only[Exit.then]
        have SY:=hid (show Cs w wS (jX l k) (iH l 120) gw gs 9 P (tu l (k+1)) from SS.out.congr fun j hj=>HY.out j)
        have YK:=hid (show IntAt wS (P k) y from by have:=SS.out.N k hlk;rwa [aaJ] at this)
        clear SS
        go_wp2_with(first
         |(go_at_call 75;(with_reducible refine(KI.out wS (P k) YK.out).mono ?_);rintro e' w' ⟨rfl,rfl⟩)
         |(go_at_call 110;(with_reducible refine(KD.out wS).mono ?_);rintro e' wD ⟨rfl,hD⟩;have SD:=hid (SY.out.below hD);have qc:=IB.cell SD.out.Q k (by rw[tj];exact hlk);have qf:=Blk.frozen SD.out.Q k;clear hD))
        have SE:=hid (show Cs w (wD.setCell ⟨w.heap.size+1,k,none⟩ (.int .i64 (y-y*k*k/8192))) (jX l (k+1)) (iH l 120) gw gs 9 P (tu l (k+1)) from by rw[<-HE.out];exact SD.out.setQ k (y-y*k*k/8192))
        go_roundw
        case rel=>exact⟨k+1,ah,aO,SE⟩
        case measure=>simp[intOf]<;>omega
      obtain⟨n,rfl⟩:∃n:Nat,N= -(n:Int):=⟨(-N).toNat,ah⟩
      have hgt:decide (0< -(n:Int))=false:=az
      have hu:IntKind.u64.wrap (n:Int)=n:=xe
      have hu2:IntKind.i64.wrap (n:Int)=n:=aN
      have hv:=HG.out
      rw[if_neg hs,Int.neg_neg,Int.toNat_natCast] at hv
      have HV:=hid hv
      have KX:=hid (zy wr.drew (P k) (P k) x n (IntAt.blk XK.out.drew) XK.out.drew XS.out ah)
      rw[<-HV.out] at KX
      clear hv
      go_wp2
      go_region_held3 (fun w'=>w'.cell? ⟨gs,k,none⟩=some (.pointer (some ⟨P k,0,none⟩))) (go_keep) (first
       |(go_at_call 30;(with_reducible refine KX.out.mono ?_);rintro e' wS ⟨rfl,hIS,hGS⟩;have SS:=hid (HS.out.drew.give (j:=k) hlk hIS hGS);have ns0:=SS.out.ptr (j:=k) hlk hlk;clear hIS hGS))
      all_goals
       rename_i hHeldZ
       clear hHeldZ cp
       try simp only[Exit.then]
       have SY:=hid (show Cs w wS (jX l k) (iH l 120) gw gs 9 P (tu l (k+1)) from SS.out.congr fun j hj=>HY.out j)
       have YK:=hid (show IntAt wS (P k) y from by have:=SS.out.N k hlk;rwa [aaJ] at this)
       clear SS
       go_wp2_with(first
        |(go_at_call 75;(with_reducible refine(KI.out wS (P k) YK.out).mono ?_);rintro e' w' ⟨rfl,rfl⟩)
        |(go_at_call 110;(with_reducible refine(KD.out wS).mono ?_);rintro e' wD ⟨rfl,hD⟩;have SD:=hid (SY.out.below hD);have qc:=IB.cell SD.out.Q k (by rw[tj];exact hlk);have qf:=Blk.frozen SD.out.Q k;clear hD))
       have SE:=hid (show Cs w (wD.setCell ⟨w.heap.size+1,k,none⟩ (.int .i64 (y-y*k*k/8192))) (jX l (k+1)) (iH l 120) gw gs 9 P (tu l (k+1)) from by rw[<-HE.out];exact SD.out.setQ k (y-y*k*k/8192))
       go_roundw
       case rel=>exact⟨k+1,ah,aO,SE⟩
       case measure=>simp[intOf]<;>omega
     obtain rfl:k=9:=ah
     have HI:=hid HS.out.R
     have HF:=hid HS.out.Q
     have LF:=hid (tj l 9)
     have RE:=hid (IB.setRow HI.out (jX l 9))
     have BE:=hid (aS HS.out.B (al0z _) (agi (jX l 9)))
     go_wp2_with(first
      |(refine aK rfl 90 (.tmp 5) rfl _ 90 (jX l 9) 9 _ rfl HF.out Tryz.underlying90 rfl kD LF.out ?_)
      |(refine aP rfl 90 (.tmp 2) (.tmp 122) rfl _ 90 Z9 (jX l 9) 9 rfl rfl HI.out kD rfl LF.out ?_))
     refine bg (v:=_) (hR _ _ _ 90 (jX l 9) _ 9 rfl RE.out Tryz.underlying90 rfl kD LF.out) rfl ?_
     exact⟨by rw[<-ai9,<-HK.out];rfl,BE.out⟩
theorem ajf(A:Option Addr)(c n:Nat)(w:World)(hn:n≠120):Calls Tryz.prog 49 #[.slice A n c] w (Ad w 1):=by
 have hR:=qC (fn:=Tryz.f49) (p:=2) (q:=3) (r:=4) (ty:=90) rfl
 have B0:=((aA w.heap.size w).alloc (al0z _) (.cells (agi Z9) 90)).alloc az (.cells (agi Z9) 90)
 have I0:=Blk.alloc (IB.new w 90 Z9) (.cells (agi Z9) 90)
 have R0:=IB.new (w.alloc (.cells (agi Z9) 90)) 90 Z9
 simp only[bU] at R0
 have RE:=hid (IB.setRow I0 Z9)
 have BE:=hid (aS B0 (al0z _) (agi Z9))
 have I0:=hid (show IB ((w.alloc (.cells (agi Z9) 90)).alloc (.cells (agi Z9) 90)) w.heap.size 90 Z9 from I0)
 have R0:=hid R0
 have d0:((n:Int) !=120)=true:=aJ
 have d1: ¬(n:Int)=120:=ah
 clear hn
 go_enter Tryz.func49,Tryz.ntmps49
 go_wp2_with(first
  |(refine aK rfl 90 (.tmp 5) rfl _ 90 Z9 9 _ rfl R0.out Tryz.underlying90 rfl kD rfl ?_)
  |(refine aP rfl 90 (.tmp 2) (.tmp 17) rfl _ 90 Z9 Z9 9 rfl rfl I0.out kD rfl rfl ?_))
 exact l59
theorem ajg(A:Option Addr)(c:Nat)(l:List Int)(w:World)(hr:Rs w w.heap.size A l)(hn:l.length=120)(g:aG l=false):Calls Tryz.prog 49 #[.slice A 120 c] w (Ad w 2):=by
 have KR:=hid (fun(W:World) (h:Rs W W.heap.size A l)=>kJ A c 120 W.heap.size l W h hn ah)
 rw[g] at KR
 have HR:=hid hr
 have hR:=qC (fn:=Tryz.f49) (p:=2) (q:=3) (r:=4) (ty:=90) rfl
 have B0:=((aA w.heap.size w).alloc (al0z _) (.cells (agi Z9) 90)).alloc az (.cells (agi Z9) 90)
 have I0:=Blk.alloc (IB.new w 90 Z9) (.cells (agi Z9) 90)
 have R0:=IB.new (w.alloc (.cells (agi Z9) 90)) 90 Z9
 simp only[bU] at R0
 have RE:=hid (IB.setRow I0 Z9)
 have BE:=hid (aS B0 (al0z _) (agi Z9))
 have I0:=hid (show IB ((w.alloc (.cells (agi Z9) 90)).alloc (.cells (agi Z9) 90)) w.heap.size 90 Z9 from I0)
 have R0:=hid R0
 clear hr hn g
 go_enter Tryz.func49,Tryz.ntmps49
 go_wp2_with fail
 refine(KR.out _ ((HR.out.below B0).more B0.size)).mono ?_
 rintro e w1 ⟨rfl,rfl⟩
 clear B0
 go_wp2_with(first
  |(refine aK rfl 90 (.tmp 5) rfl _ 90 Z9 9 _ rfl R0.out Tryz.underlying90 rfl kD rfl ?_)
  |(refine aP rfl 90 (.tmp 2) (.tmp 21) rfl _ 90 Z9 Z9 9 rfl rfl I0.out kD rfl rfl ?_))
 exact l59
theorem aaS:(Tryz.prog.info? 166).map (·.size)=some 3:=au
theorem ajo(h ring t:List Int)(p:Value)(A:Option Addr)(c n:Nat)(w:World)(hh:h.length=80)(hr:Rs w w.heap.size A t)(hn:t.length=n)(hl:n<=17592186044416)(hf:FoldFn 122 p w ring):
 Calls Tryz.prog 124 #[.agg (agi h),.func (.func 122) #[] #[p],.slice A n c] w (PkAns ring h t w):=by
 have BA:=hid ((aA w.heap.size w).alloc (al0z _) (.cells (agi h) 23))
 have FB:=hid (fun(er:Int) (he:iP ring h t=er) (h0:er≠0) w' (hB:Below w.heap.size w w')=>PkAns.bad (ring:=ring) (h:=h) (t:=t) he h0 hB)
 by_cases h40:n=40
 rotate_left
 ·have HE:=hid (show iP ring h t=1 by unfold iP;rw[if_neg ah])
  have d0:((n:Int) !=40)=true:=aJ
  have d1: ¬(n:Int)=40:=ah
  clear h40 hn hr hf
  go_enter Tryz.func124,Tryz.ntmps124
  exact abV
 subst h40
 have I0:=hid (IB.new w 23 h)
 have HT:=hid ((hr.below BA.out).more BA.out.size)
 have HH:=hid hh
 have HN:=hid hn
 have KF:=hid (hf.below BA.out)
 have hnf:=aax 122 p
 clear hr hf hh hn
 obtain⟨V,hV⟩:∃V,V=w.alloc (.cells (agi h) 23):=⟨_,rfl⟩
 rw[<-hV] at I0 HT KF BA
 have HV:=hid hV
 clear hV
 cases gt:aG t with
 |false=>
  have HE:=hid (show iP ring h t=2 by unfold iP;rw[if_pos HN.out,gt];rfl)
  have KR:=hid (kJ A c 40 V.heap.size t V HT.out HN.out ah)
  rw[gt] at KR
  clear gt
  go_enter Tryz.func124,Tryz.ntmps124
  go_wp2_with fail
  rw[<-HV.out]
  refine KR.out.mono ?_
  rintro e w1 ⟨rfl,rfl⟩
  go_wp2
  ((try simp only[Exit.inBlock,Exit.then]);refine bg (wI rfl _ _ _) rfl ?_)
  exact FB.out _ HE.out aB _ BA.out
 |true=>
 have KR:=hid (kJ A c 40 V.heap.size t V HT.out HN.out ah)
 rw[gt] at KR
 have KR2:=hid (kJ (some ⟨w.heap.size,0,none⟩) 80 80 V.heap.size h V (YG I0.out) HH.out ah)
 cases gh:aG h with
 |false=>
  have HE:=hid (show iP ring h t=2 from Lj)
  rw[gh] at KR2
  clear gt gh
  go_enter Tryz.func124,Tryz.ntmps124
  go_wp2_with fail
  rw[<-HV.out]
  refine KR.out.mono ?_
  rintro e w1 ⟨rfl,rfl⟩
  go_wp2_with fail
  refine KR2.out.mono ?_
  rintro e w1 ⟨rfl,rfl⟩
  go_wp2
  ((try simp only[Exit.inBlock,Exit.then]);refine bg (wI rfl _ _ _) rfl ?_)
  exact FB.out _ HE.out aB _ BA.out
 |true=>
 rw[gh] at KR2
 have HE:=hid (show iP ring h t=if pkR ring then 0 else 1 from Lj)
 have T16:=hid (fP gt)
 have H16:=hid (fP gh)
 clear gt gh
 go_enter Tryz.func124,Tryz.ntmps124
 go_wp2_with fail
 rw[<-HV.out]
 refine KR.out.mono ?_
 rintro e w1 ⟨rfl,rfl⟩
 go_wp2_with fail
 refine KR2.out.mono ?_
 rintro e w1 ⟨rfl,rfl⟩
 clear KR KR2
 go_wp2_with(refine aP rfl 166 (.tmp 10) (.tmp 32) rfl _ 166 [0,0,0] [20,0,0] 3 rfl rfl (IB.new _ _ [0,0,0]) aaS rfl rfl ?_)
 have BB:=hid (show IB ((V.alloc (.cells (agi [0,0,0]) 166)).setRow V.heap.size (agi [20,0,0])) V.heap.size 166 [20,0,0] from IB.setRow (IB.new V _ [0,0,0]) _)
 have BL:=hid (show Below V.heap.size V ((V.alloc (.cells (agi [0,0,0]) 166)).setRow V.heap.size (agi [20,0,0])) from aS ((aA _ _).alloc (al0z _) _) (al0z _) _)
 go_loopw[11] (fun iv wr=> ∃(n L:Nat),n<=60/\Hid (L=20+n)/\iv=.int .i64 L/\Hid (IB wr V.heap.size 166 [(pkS ring h t n).1,(pkS ring h t n).2.1,(pkS ring h t n).2.2])/\Hid (0<n->pkR ring=true)/\Hid (Below V.heap.size V wr)) (fun iv _=>80-(intOf iv).toNat)
 case atStart=>exact⟨0,20,ah,hid rfl,rfl,BB,hid (fun h=>ah),BL⟩
 case round=>
  clear BB BL
  obtain⟨n,L,hn,HLL,rfl,HQB,HG,HB⟩:=hrel
  have hL:=HLL.out
  by_cases hlt:n<60
  ·have o5:(L:Int)<80:=ah
   have HP:=hid (xZ (h:=h) (lag:=(20:Int)+n) (rO ah ah))
   have HP16:=hid (QT H16.out ((20:Int)+n))
   have KP:=hid (fun W=>show Calls Tryz.prog 126 #[.agg (agi h),.int .i64 (L:Nat)] W (fun e w'=> ∃A c,e=.returned (.tuple #[.slice A 40 c,.int .i64 0])/\Own w' W.heap.size A c (cO h ((20:Int)+n))/\Below W.heap.size W w') from by
    have hLi:(L:Int)=(20:Int)+n:=ah
    rw[hLi]
    refine(PR h ((20:Int)+n) W HH.out).mono ?_
    rintro e w' ⟨A,c,h1,h2,h3⟩
    rw[rO ah ah,HP.out] at h1
    exact⟨A,c,h1,h2,h3⟩)
   have VL:=hid (IQ (ring:=ring) HP.out HP16.out)
   have ST:=hid (show pkS ring h t (n+1)=if decide (0<pkC ring h t n)&&dO (pkC ring h t n) (pkE ring h n) (pkS ring h t n).2.1 (pkS ring h t n).2.2 then(20+(n:Int),pkC ring h t n,pkE ring h n) else pkS ring h t n from rfl)
   unfold pkC pkE piV at ST
   have HL2:=hid (show L+1=20+(n+1) from Nv)
   have hLI:=hid (show(20:Int)+n=(L:Nat) from Nv)
   have P64:=hid (YJ (fP HP16.out))
   have V16:=hid (DK ring (cO h ((20:Int)+n)))
   have rS:=IU ring h T16.out n
   have bnn:=YO ring h t n
   generalize cO h ((20:Int)+n)=v at*
   have KF2:=hid (fun W (hB:Below V.heap.size V W) A c (hr:Rs W W.heap.size A v)=>KF.out W hB A c v hr HP.out P64.out)
   generalize foL ring v=f at*
   have KD1:=hid (fun W A1 c1 A2 c2 (h1:Rs W W.heap.size A1 t) (h2:Rs W W.heap.size A2 f) (hf:f.length=40)=>zH A1 A2 c1 c2 40 40 t f W h1 h2 HN.out hf (al0z _) ah T16.out (fP V16.out))
   have KD2:=hid (fun W A2 c2 (h2:Rs W W.heap.size A2 f) (hf:f.length=40)=>zH A2 A2 c2 c2 40 40 f f W h2 h2 hf hf (al0z _) ah (fP V16.out) (fP V16.out))
   have KRF:=hid (fun W A2 c2 n (h2:Rs W W.heap.size A2 f) (hf:f.length=n) (hn:n<=17592186044416)=>kJ A2 c2 n W.heap.size f W h2 hf hn)
   have rC:=oq T16.out (fP V16.out) 40
   have rE:=oq (fP V16.out) (fP V16.out) 40
   have pos:=YF (a:=t) (b:=f) (n:=40)
   obtain⟨q1,hq1⟩:∃q1,q1=(pkS ring h t n).1:=⟨_,rfl⟩
   obtain⟨q2,hq2⟩:∃q2,q2=(pkS ring h t n).2.1:=⟨_,rfl⟩
   obtain⟨q3,hq3⟩:∃q3,q3=(pkS ring h t n).2.2:=⟨_,rfl⟩
   rw[<-hq2,<-hq3] at ST rS
   rw[<-hq3] at bnn
   rw[<-hq1,<-hq2,<-hq3] at HQB
   have HQ:=hid (show pkS ring h t n=(q1,q2,q3) by rw[hq1,hq2,hq3])
   have IW:=hid (Blk.below' I0.out HB.out)
   have TW:=hid ((HT.out.below HB.out).more HB.out.size)
   clear hq1 hq2 hq3 hL
   generalize bz t f 40=C at*
   generalize bz f f 40=E at*
   have KB:=hid (fun W=>YA C E q2 q3 W ah ah ah ah ah ah ah ah)
   have POS:=hid pos
   have BNN:=hid bnn
   clear pos bnn rS rC rE
   go_wp2_with(refine aK rfl 23 (.tmp 3) rfl _ 23 h 80 _ rfl IW.out Tryz.underlying23 rfl aaw HH.out ?_)
   refine(KP.out wr).mono ?_
   rintro e w1 ⟨A1,c1,rfl,hO,hB⟩
   have B1:=hid (HB.out.trans (hB.mono HB.out.size))
   have O1:=hid hO.reads
   have TW1:=hid ((TW.out.below hB).more hB.size)
   have Q1:=hid (Blk.below' HQB.out hB)
   clear hO hB KP IW
   go_wp2_with fail
   refine(KF2.out w1 B1.out A1 c1 O1.out).mono ?_
   rintro e w2 ⟨A2,c2,rfl,hO,hB⟩
   have B2:=hid (B1.out.trans (hB.mono B1.out.size))
   have O2:=hid hO.reads
   have TW2:=hid ((TW1.out.below hB).more hB.size)
   have Q2:=hid (Blk.below' Q1.out hB)
   clear hO hB KF2 O1 TW1 B1 HB TW Q1 HQB
   cases hR:pkR ring with
   |false=>
    exact l62
   |true=>
    have F40:=VL.out
    rw[hR] at F40
    simp only[if_true] at F40
    rw[F40]
    have KRF2:=hid (KRF.out w2 A2 c2 40 O2.out F40 ah)
    have HG2:=hid (fun(_:0<n+1)=>hR)
    have L40:=hid F40
    rw[V16.out] at KRF2
    clear hR F40 KRF
    go_wp2_with fail
    refine KRF2.out.mono ?_
    rintro e w3 ⟨rfl,rfl⟩
    go_wp2_with fail
    refine(KD1.out w2 A c A2 c2 TW2.out O2.out L40.out).mono ?_
    rintro e w3 ⟨rfl,hB⟩
    have B3:=hid (B2.out.trans (hB.mono B2.out.size))
    have O3:=hid ((O2.out.below hB).more hB.size)
    have Q3:=hid (Blk.below' Q2.out hB)
    clear hB KD1 O2 Q2 TW2 B2
    go_wp2_with fail
    refine(KD2.out w3 A2 c2 O3.out L40.out).mono ?_
    rintro e w4 ⟨rfl,hB⟩
    have B4:=hid (B3.out.trans (hB.mono B3.out.size))
    have Q4:=hid (Blk.below' Q3.out hB)
    clear hB KD2 O3 Q3 B3
    by_cases hC:C<=0
    ·have NS:=hid (show pkS ring h t (n+1)=(q1,q2,q3) by rw[ST.out,decide_eq_false ah];exact HQ.out)
     have hC2:decide (0<C)=false:=aJ
     clear ST
     go_wp2
     go_roundw
     case rel=>exact⟨n+1,L+1,ah,HL2,aO,hid (by rw[NS.out];exact Q4.out),HG2,B4⟩
     case measure=>simp[intOf]<;>omega
    have hC2:decide (0<C)=true:=aJ
    obtain⟨b,hb⟩:∃b,b=dO C E q2 q3:=⟨_,rfl⟩
    rw[<-hb,hC2] at ST
    rw[<-hb] at KB
    clear hb
    have c1:=IB.cell Q4.out 1 az
    have c2:=IB.cell Q4.out 2 az
    simp only[Ud,List.getD_cons_zero] at c1 c2
    go_wp2_with fail
    refine(KB.out _).mono ?_
    rintro en w5 ⟨rfl,hB⟩
    have B5:=hid (B4.out.trans (hB.mono B4.out.size))
    have Q5:=hid (Blk.below' Q4.out hB)
    clear hB Q4 B4 c1 c2
    cases b
    ·have NS:=hid (show pkS ring h t (n+1)=(q1,q2,q3) by rw[ST.out];exact HQ.out)
     go_wp2
     go_roundw
     case rel=>exact⟨n+1,L+1,ah,HL2,aO,hid (by rw[NS.out];exact Q5.out),HG2,B5⟩
     case measure=>simp[intOf]<;>omega
    have NS:=hid (show pkS ring h t (n+1)=(((L:Nat):Int),C,E) by rw[ST.out,<-hLI.out];rfl)
    have Q6:=hid (IB.setRow Q5.out [((L:Nat):Int),C,E])
    have B6:=hid (aS B5.out (g:=V.heap.size) (al0z _) (agi [((L:Nat):Int),C,E]))
    go_wp2_with(refine aP rfl 166 (.tmp 10) (.tmp 74) rfl _ 166 [q1,q2,q3] [((L:Nat):Int),C,E] 3 rfl rfl Q5.out aaS rfl rfl ?_)
    go_roundw
    case rel=>exact⟨n+1,L+1,ah,HL2,aO,hid (by rw[NS.out];exact Q6.out),HG2,B6⟩
    case measure=>simp[intOf]<;>omega
  obtain rfl:n=60:=ah
  obtain rfl:L=80:=ah
  have HE0:=hid (show iP ring h t=0 by rw[HE.out,HG.out ah];rfl)
  clear hL hlt
  have c0:=IB.cell HQB.out 0 az
  have c1:=IB.cell HQB.out 1 az
  have c2:=IB.cell HQB.out 2 az
  simp only[Ud,List.getD_cons_zero] at c0 c1 c2
  have FIN:=hid (fun m=>HB.out.trans ((iJ wr m).mono HB.out.size))
  go_wp2
  go_quiet (fail)
  go_wp2
  ((try simp only[Exit.inBlock,Exit.then]);refine bg (wI rfl _ _ _) rfl ?_)
  exact⟨by unfold piA piB pkD;rw[HE0.out];rfl,BA.out.trans ((FIN.out _).mono BA.out.size)⟩
end Go.Proofs.YthoiikkjjaldnaaGreatDoor
