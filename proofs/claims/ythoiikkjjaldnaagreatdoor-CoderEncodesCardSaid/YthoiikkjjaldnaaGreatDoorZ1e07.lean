/- Texts that the law rests on. -/
import Derived.Test.YthoiikkjjaldnaaGreatDoorZ1e0u
import Derived.Test.YthoiikkjjaldnaaGreatDoorZ1e0v
namespace Go.Proofs.YthoiikkjjaldnaaGreatDoor
set_option linter.unusedVariables false
set_option linter.unusedSimpArgs false
set_option maxRecDepth 100000
set_option maxHeartbeats 8000000
open Go.RowKit
def vU(x:Int):Bool:=decide (-1048576<=x/\x<=1048576)
theorem Qc{x:Int}(h1: -1048576<=x)(h2:x<=1048576):vU x=true:=by unfold vU;simp;omega
theorem Gq{x:Int}(h:x< -1048576\/1048576<x):vU x=false:=by unfold vU;simp;omega
def okP(a:List Int):Bool:=a.all vU
theorem aeP{a:List Int}(h:okP a=true)(i:Nat): -1048576<=a.getD i 0/\a.getD i 0<=1048576:=by
 by_cases hi:i<a.length
 ·have:=List.all_eq_true.mp h _ (List.getElem_mem hi)
  rw[bi,jO hi]
  unfold vU at this
  simpa using this
 rw[bi,List.getElem?_eq_none ah]
 simp
def di(a p l:List Int):Bool:=okP a&&(decide (a.getD 0 0=4096)&&(aG p&&aG l))
def lY(a p:List Int)(i:Nat):Int:=a.getD (i+1) 0*p.getD i 0
theorem Qd{a p:List Int}(ha:okP a=true)(hp:aG p=true)(i:Nat): -34359738368<=lY a p i/\lY a p i<=34359738368:=by
 have h1:=aeP ha (i+1)
 have h2:=fP hp i
 have:=ja (x:=a.getD (i+1) 0) (X:=1048576) (y:=p.getD i 0) (Y:=32768) ah ah ⟨ah,ah⟩ ⟨ah,ah⟩
 unfold lY
 omega
theorem Gs{a p:List Int}(ha:okP a=true)(hp:aG p=true)(n:Nat): -(34359738368*(n:Int))<=aI (lY a p) n/\aI (lY a p) n<=34359738368*(n:Int):=by
 induction n with
 |zero=>simp[aI]
 |succ n ih=>
  have:=Qd ha hp n
  simp only[aI]
  push_cast
  omega
def ni(a p:List Int):Int:=(2048+aI (lY a p) 8)/4096
theorem WV{a p:List Int}(ha:okP a=true)(hp:aG p=true): -1000000000<=ni a p/\ni a p<=1000000000:=by
 have:=Gs ha hp 8
 unfold ni
 omega
def jb(p:List Int)(x:Int):List Int:=x::p.take 7
theorem Qe{p:List Int}(h:p.length=8)(x:Int):(jb p x).length=8:=by simp[jb,h]
theorem WY{p:List Int}(h:aG p=true)(n:Nat):aG (p.take n)=true:=by
 unfold aG at*
 rw[kF] at*
 intro x hx
 exact h x (List.mem_of_mem_take hx)
theorem aeQ{p:List Int}(h:aG p=true){x:Int}(hx:gV x=true):aG (jb p x)=true:=by
 have:=WY h 7
 unfold aG at*
 simp[jb,hx,this]
theorem WZ(x:Int):gV (s16 x)=true:=by
 have:=lJ x
 exact qI ah ah
def dY(p:List Int):List Int->List Int
 |[]=>p
 |x::xs=>dY (jb p x) xs
theorem qK:∀(l p:List Int),p.length=8->(dY p l).length=8
 |[],_,h=>h
 |x::xs,p,h=>qK xs (jb p x) (Qe h x)
theorem Qg:∀(l p:List Int) (x:Int),dY p (l++[x])=jb (dY p l) x
 |[],_,_=>rfl
 |y::ys,p,x=>Qg ys (jb p y) x
theorem Dc:∀(l p:List Int),aG p=true->aG l=true->aG (dY p l)=true
 |[],_,h,_=>h
 |x::xs,p,h,hl=>by
  have h2:gV x=true/\aG xs=true:=by simpa[aG] using hl
  exact Dc xs (jb p x) (aeQ h h2.1) h2.2
theorem aeR{p:List Int}(x:Int)(i:Nat)(hi:i<8):(jb p x).getD i 0=if i=0 then x else p.getD (i-1) 0:=by
 rcases i with _|i
 ·simp[jb]
 have h7:i<7:=ah
 simp[jb,h7]
def qL(p l:List Int)(i:Nat):Int:=if i<l.length then l.getD (l.length-1-i) 0 else p.getD (i-l.length) 0
theorem aeS(p l:List Int)(x:Int)(i:Nat):qL p (l++[x]) i=if i=0 then x else qL p l (i-1):=by
 unfold qL
 rcases i with _|i
 ·simp
 simp only[gu,List.length_singleton,Nat.add_sub_cancel,Nat.succ_ne_zero,if_false]
 by_cases h:i<l.length
 ·rw[if_pos ah,if_pos h]
  have e:l.length-(i+1)=l.length-1-i:=ah
  rw[e,bi,bi,mF ah]
 rw[if_neg ah,if_neg h]
 congr 1
 omega
theorem aeT(p:List Int)(l:List Int):∀i,i<8->(dY p l).getD i 0=qL p l i:=by
 induction hl:l.length generalizing l with
 |zero=>
  intro i _
  obtain rfl:l=[]:=List.eq_nil_of_length_eq_zero hl
  simp[dY,qL]
 |succ n ih=>
  intro i hi
  have hne:l≠[]:=by intro h;simp[h] at hl
  obtain⟨m,x,rfl⟩:∃m x,l=m++[x]:=⟨l.dropLast,l.getLast hne,(List.dropLast_concat_getLast hne).symm⟩
  rw[Qg,aeS,aeR _ _ hi]
  split
  ·rfl
  exact ih m vu (i-1) ah
theorem aeU{p l:List Int}(hp:p.length=8):dY p l=(List.range 8).map (qL p l):=by
 refine bV (by rw[qK _ _ hp];simp) fun k hk=>?_
 rw[qK _ _ hp] at hk
 rw[aeT p l k hk]
 simp[hk]
def dF(a p e:List Int):Nat->List Int
 |0=>[]
 |n+1=>dF a p e n++[s16 (e.getD n 0-ni a (dY p (dF a p e n)))]
theorem zE(a p e:List Int)(n:Nat):(dF a p e n).length=n:=by
 induction n with
 |zero=>rfl
 |succ n ih=>simp[dF,ih]
theorem yw(a p e:List Int)(n:Nat):aG (dF a p e n)=true:=by
 induction n with
 |zero=>rfl
 |succ n ih=>
  unfold aG at*
  simp[dF,ih,WZ]
theorem zH(A A2:Option Addr)(cA cB n m:Nat)(xs ys:List Int)(w:World)(hx:Rs w w.heap.size A xs)(hy:Rs w w.heap.size A2 ys)(hn:xs.length=n)(hm:ys.length=m)(hnm:n<=m)(hl:n<=1000)(h1:eG xs)(h2:eG ys):
 Calls Tryz.prog 53 #[.slice A n cA,.slice A2 m cB] w (qG w (bz xs ys n)):=by
 have HX:=hid hx
 have HY:=hid hy
 have HN:=hid hn
 have HM:=hid hm
 have H1:=hid h1
 have H2:=hid h2
 clear hx hy hn hm h1 h2
 go_enter Tryz.func53,Tryz.ntmps53
 go_wp2
 obtain⟨bs,hbs⟩:∃bs,bs=w.heap.size:=⟨_,rfl⟩
 have I0:=hid (show IntAt (w.alloc (.cells #[.bool false,.slice none 0 0] 80)) bs 0 from by rw[hbs];exact Qh w)
 have B0:=hid ((aA w.heap.size w).alloc (al0z _) (.cells #[.bool false,.slice none 0 0] 80))
 rw[<-hbs]
 have HBS:=hid hbs
 clear hbs
 go_loopw[10] (fun iv wr=> ∃k:Nat,k<=n/\iv=.int .i64 k/\Hid (IntAt wr bs (bz xs ys k))/\Hid (Below w.heap.size w wr)) (fun iv _=>n-(intOf iv).toNat)
 case atStart=>exact⟨0,ah,rfl,I0,B0⟩
 case round=>
  clear I0 B0
  obtain⟨k,hk,rfl,XW,BW⟩:=hrel
  obtain⟨W,rfl⟩:∃W:World,W=wr:=⟨_,rfl⟩
  have dr:=oq H1.out H2.out k
  have ST:=hid (show bz xs ys (k+1)=bz xs ys k+xs.getD k 0*ys.getD k 0 from rfl)
  obtain⟨s,hs⟩:∃s,s=bz xs ys k:=⟨_,rfl⟩
  rw[<-hs] at dr ST XW
  have HS:=hid hs
  clear hs
  have s1: -1073741824000<=s:=ah
  have s2:s<=1073741824000:=ah
  clear dr
  by_cases hlt:k<n
  ·have RX:=HX.out.below BW.out
   have RY:=HY.out.below BW.out
   obtain⟨ad,rfl,hadb,k0⟩:=RX.at_ (k:=k) iE
   obtain⟨ae,rfl,haeb,k1⟩:=RY.at_ (k:=k) (by rw[HM.out];omega)
   have x16:=H1.out k
   have y16:=H2.out k
   generalize xs.getD k 0=x at*
   generalize ys.getD k 0=y at*
   obtain⟨p1,p2⟩:=kU x16.1 x16.2 y16.1 y16.2
   obtain⟨x1,x2⟩:=x16
   obtain⟨y1,y2⟩:=y16
   have i1:(k:Int)<n:=ah
   have i2:(k:Int)<m:=ah
   have i3:(0:Int)<=k:=ah
   have hws:=BW.out.size
   have hbW:=HBS.out
   have hadW:ad.block<W.heap.size:=ah
   have haeW:ae.block<W.heap.size:=ah
   have hadb':ad.block≠bs:=ah
   have haeb':ae.block≠bs:=ah
   have K1:=hid (fun W'=>fJ W' x ah ah)
   have K2:=hid (fun W'=>fJ W' y ah ah)
   clear RX RY hbW
   go_wp2
   go_region_held3 (fun w'=>w'.cell? (ad.add k)=some (.int .i64 x)/\w'.cell? (ae.add k)=some (.int .i64 y)) (go_keep) (first
    |(go_at_call 32;(with_reducible refine(K1.out W.drew).mono ?_);rintro e' wA ⟨bA,rfl,hbA,hIA,hBA⟩;have LA:Below W.heap.size W wA:=((aA W.heap.size W).drew).trans (hBA.mono L8);have sA:=LA.size;have a0:World.cell? wA (ad.add k)=some (.int .i64 x):=(LA.cell (by rw[dM];first|omega|(simp;omega))).trans k0;have a1:World.cell? wA (ae.add k)=some (.int .i64 y):=(LA.cell (by rw[dM];first|omega|(simp;omega))).trans k1;have IA:=hid hIA;have LA:=hid LA;clear hIA hBA)
    |(go_at_call 32;(with_reducible refine(K1.out (World.drew (W.alloc (.cells #[.bool false,.slice none 0 0] 80)))).mono ?_);rintro e' wA ⟨bA,rfl,hbA,hIA,hBA⟩;have LA:Below W.heap.size W wA:=(((aA W.heap.size W).alloc (al0z _) (.cells #[.bool false,.slice none 0 0] 80)).drew).trans (hBA.mono L8);have sA:=LA.size;have a0:World.cell? wA (ad.add k)=some (.int .i64 x):=(LA.cell (by rw[dM];first|omega|(simp;omega))).trans k0;have a1:World.cell? wA (ae.add k)=some (.int .i64 y):=(LA.cell (by rw[dM];first|omega|(simp;omega))).trans k1;have PA:=hid (IntBlk.below (IntBlk.new W (.bool false) (.slice none 0 0)).drew hBA (al0z _));have IA:=hid hIA;have LA:=hid LA;clear hIA hBA)
    |(go_at_call 32;(with_reducible refine(K2.out wA).mono ?_);rintro e' wB ⟨bB,rfl,hbB,hIB,hBB⟩;have LB:Below W.heap.size W wB:=LA.out.trans (hBB.mono MO);have sB:=LB.size;have b0:World.cell? wB (ad.add k)=some (.int .i64 x):=(LB.cell (by rw[dM];first|omega|(simp;omega))).trans k0;have b1:World.cell? wB (ae.add k)=some (.int .i64 y):=(LB.cell (by rw[dM];first|omega|(simp;omega))).trans k1;have IB:=hid (IA.out.below hBB (al0z _));have sAB:=hBB.size;have ABw:=hid hBB;have JB:=hid hIB;have LB:=hid LB;clear hIB hBB)
    |(go_at_call 32;(with_reducible refine(K2.out (wA.alloc (.cells #[.bool false,.slice none 0 0] 80))).mono ?_);rintro e' wB ⟨bB,rfl,hbB,hIB,hBB⟩;have LB:Below W.heap.size W wB:=(LA.out.alloc sA (.cells #[.bool false,.slice none 0 0] 80)).trans (hBB.mono MO);have sB:=LB.size;have b0:World.cell? wB (ad.add k)=some (.int .i64 x):=(LB.cell (by rw[dM];first|omega|(simp;omega))).trans k0;have b1:World.cell? wB (ae.add k)=some (.int .i64 y):=(LB.cell (by rw[dM];first|omega|(simp;omega))).trans k1;have PB:=hid (IntBlk.below (IntBlk.new wA (.bool false) (.slice none 0 0)) hBB (al0z _));have IB:=hid ((IA.out.below ((aA _ _).alloc (al0z _) (.cells #[.bool false,.slice none 0 0] 80)) (al0z _)).below hBB (al0z _));have JB:=hid hIB;have LB:=hid LB;clear hIB hBB)
    |(go_at_call 118;(with_reducible refine(iK (wB.alloc (.cells #[.bool false,.slice none 0 0] 80)) wB.heap.size bA bB x y (IntBlk.new wB (.bool false) (.slice none 0 0)) (IB.out.below ((aA _ _).alloc (al0z _) (.cells #[.bool false,.slice none 0 0] 80)) (al0z _)) (JB.out.below ((aA _ _).alloc (al0z _) (.cells #[.bool false,.slice none 0 0] 80)) (al0z _)) (nz ah ah) (nz ah ah)).mono ?_);rintro e' wM ⟨rfl,hIM,hGM⟩;have ltM:W.heap.size<=wB.heap.size:=ah;have XM:=hid ((XW.out.below (LB.out.alloc sB (.cells #[.bool false,.slice none 0 0] 80)) (al0z _):IntAt (wB.alloc (.cells #[.bool false,.slice none 0 0] 80)) bs s).kept (IntBlk.new wB (.bool false) (.slice none 0 0)) hGM Bi);have LM:Below W.heap.size W wM:=bK (LB.out.alloc sB (.cells #[.bool false,.slice none 0 0] 80)) hGM ah;have m0:World.cell? wM (ad.add k)=some (.int .i64 x):=(LM.cell (by rw[dM];first|omega|(simp;omega))).trans k0;have m1:World.cell? wM (ae.add k)=some (.int .i64 y):=(LM.cell (by rw[dM];first|omega|(simp;omega))).trans k1;have IM:=hid hIM;have LM:=hid LM;clear hIM hGM)
    |(go_at_call 118;have tok:=PB.out;clear tok;(with_reducible refine(iK wB wA.heap.size bA bB x y PB.out IB.out JB.out (nz ah ah) (nz ah ah)).mono ?_);rintro e' wM ⟨rfl,hIM,hGM⟩;have ltM:W.heap.size<=wA.heap.size:=ah;have XM:=hid ((XW.out.below LB.out (al0z _):IntAt wB bs s).kept PB.out hGM Bi);have LM:Below W.heap.size W wM:=bK (LB.out) hGM ah;have m0:World.cell? wM (ad.add k)=some (.int .i64 x):=(LM.cell (by rw[dM];first|omega|(simp;omega))).trans k0;have m1:World.cell? wM (ae.add k)=some (.int .i64 y):=(LM.cell (by rw[dM];first|omega|(simp;omega))).trans k1;have IM:=hid hIM;have LM:=hid LM;clear hIM hGM)
    |(go_at_call 118;have PC:=hid (IntBlk.below PA.out (B:=wA.heap.size) ABw.out (al0z _));(with_reducible refine(iK wB W.heap.size bA bB x y PC.out IB.out JB.out (nz ah ah) (nz ah ah)).mono ?_);rintro e' wM ⟨rfl,hIM,hGM⟩;have ltM:W.heap.size<=W.heap.size:=ah;have XM:=hid ((XW.out.below LB.out (al0z _):IntAt wB bs s).kept PC.out hGM Bi);have LM:Below W.heap.size W wM:=bK (LB.out) hGM ah;have m0:World.cell? wM (ad.add k)=some (.int .i64 x):=(LM.cell (by rw[dM];first|omega|(simp;omega))).trans k0;have m1:World.cell? wM (ae.add k)=some (.int .i64 y):=(LM.cell (by rw[dM];first|omega|(simp;omega))).trans k1;have IM:=hid hIM;have LM:=hid LM;clear hIM hGM)
    |(go_at_call 31;(with_reducible refine(rK wM bs bs _ s (x*y) XM.out.blk XM.out IM.out (nz ah ah) (nz ah ah)).mono ?_);rintro e' wS ⟨rfl,hIS,hGS⟩;have XS:=hid hIS;have GS:=hid hGS;have ns0:World.cell? wS (ad.add k)=some (.int .i64 x):=(Xi GS.out zh (by rw[dM];have:=LM.out.size;omega)).trans m0;have ns1:World.cell? wS (ae.add k)=some (.int .i64 y):=(Xi GS.out zh (by rw[dM];have:=LM.out.size;omega)).trans m1;clear hIS hGS))
   all_goals
    rename_i hHeldZ
    clear hHeldZ a0 a1 b0 b1 m0 m1 k0 k1 ns0 ns1
    try simp only[Exit.then]
    have BS:=hid (bK (BW.out.trans (LM.out.mono BW.out.size)) GS.out (by rw[HBS.out];exact al0z _))
    have XS2:=hid (show IntAt wS bs (bz xs ys (k+1)) by rw[ST.out];exact XS.out)
    go_wp2
    go_roundw
    case rel=>exact⟨k+1,ah,aO,XS2,BS⟩
    case measure=>simp[intOf]<;>omega
  obtain rfl:k=n:=ah
  have K:=hid (oP W bs s XW.out ah ah)
  go_wp2_with(go_at_call 75;(with_reducible refine K.out.mono ?_);rintro e w' ⟨rfl,rfl⟩)
  go_ret
  exact⟨BK,BW.out⟩
theorem zI(n k:Nat):(List.replicate n (0:Int)).getD k 0=0:=by
 rw[bi,List.getElem?_replicate]
 split<;>rfl
def iF(ring:List Int)(a i:Nat):Int:=if a<=i then s16 (ring.getD (i-a) 0) else 0
def jr(ring:List Int)(a:Nat):List Int:=(List.range 40).map (iF ring a)
def kV(ring:List Int)(a k:Nat):List Int:=(List.range 40).map (fun j=>if j<k then iF ring a j else 0)
theorem Qi(ring:List Int)(a:Nat):(jr ring a).length=40:=by simp[jr]
theorem oZ(ring:List Int)(a k:Nat):(kV ring a k).length=40:=by simp[kV]
theorem vV(ring:List Int)(a i:Nat): -32768<=iF ring a i/\iF ring a i<=32767:=by
 unfold iF
 split
 ·exact lJ _
 omega
theorem ae2(ring:List Int)(a:Nat):eG (jr ring a):=fun i=>by
 by_cases h:i<40
 ·unfold jr;rw[aT _ h];exact vV ring a i
 rw[bi,List.getElem?_eq_none (by rw[Qi];omega)];simp
theorem ae3(ring:List Int)(a:Nat):kV ring a 40=jr ring a:=by
 refine bV (by rw[oZ,Qi]) fun k hk=>?_
 rw[oZ] at hk
 unfold kV jr
 rw[aT _ hk,aT _ hk,if_pos hk]
theorem ae5(ring:List Int)(a:Nat):kV ring a 0=List.replicate 40 0:=by
 refine bV (by rw[oZ];simp) fun k hk=>?_
 rw[oZ] at hk
 unfold kV
 rw[aT _ hk,if_neg ah,zI]
theorem ae6(ring:List Int){a k:Nat}(h:k<a):kV ring a (k+1)=kV ring a k:=by
 refine bV (by rw[oZ,oZ]) fun j hj=>?_
 rw[oZ] at hj
 unfold kV
 rw[aT _ hj,aT _ hj]
 by_cases e:j=k
 ·subst e;rw[if_pos ah,if_neg ah];unfold iF;rw[if_neg ah]
 by_cases h2:j<k
 ·rw[if_pos h2,if_pos ah]
 rw[if_neg h2,if_neg ah]
theorem ae7(ring:List Int){a k:Nat}(h:a<=k)(hk:k<40):(kV ring a k).set k (s16 (ring.getD (k-a) 0))=kV ring a (k+1):=by
 refine bV (by simp[oZ]) fun j hj=>?_
 rw[List.length_set,oZ] at hj
 by_cases e:k=j
 ·subst e
  rw[gQ _ _ _ (by rw[oZ];exact hk)]
  unfold kV
  rw[aT _ hj,if_pos ah]
  unfold iF
  rw[if_pos h]
 rw[iw _ _ e]
 unfold kV
 rw[aT _ hj,aT _ hj]
 by_cases h2:j<k
 ·rw[if_pos h2,if_pos ah]
 rw[if_neg h2,if_neg ah]
theorem ae8(A:Option Addr)(c:Nat)(ring:List Int)(a:Nat)(w:World)(hr:Rs w w.heap.size A ring)(hn:ring.length=40)(ha:a<=40)(hw:W64 ring):
 Calls Tryz.prog 179 #[.slice A 40 c,.int .i64 (a:Nat)] w (fun e w'=> ∃A2 c2,e=.returned (.slice A2 40 c2)/\Own w' w.heap.size A2 c2 (jr ring a)/\Below w.heap.size w w'):=by
 have HR:=hid hr
 have HN:=hid hn
 have HW:=hid hw
 clear hr hn hw
 go_enter Tryz.func179,Tryz.ntmps179
 go_wp2_with(at_make;refine kR rfl _ _ rfl .i64 .i64 40 rfl rfl w.heap.size ah (al0z _) ?_;intro w1 hO hG;have O1:=hid (show Own w1 w.heap.size (some ⟨w.heap.size,0,none⟩) 40 (kV ring a 0) by rw[ae5];exact hO);have B1:=hid ((aA w.heap.size w).grown hG (al0z _) az);clear hO hG)
 go_loopw[10] (fun iv wr=> ∃k:Nat,k<=40/\iv=.int .i64 k/\Hid (Own wr w.heap.size (some ⟨w.heap.size,0,none⟩) 40 (kV ring a k))/\Hid (Below w.heap.size w wr)) (fun iv _=>40-(intOf iv).toNat)
 case atStart=>exact⟨0,ah,rfl,O1,B1⟩
 case round=>
  clear O1 B1
  obtain⟨k,hk,rfl,HO,HB⟩:=hrel
  by_cases hlt:k<40
  ·by_cases hak:a<=k
   ·obtain⟨ad,rfl,hadb,c0⟩:=(HR.out.below HB.out).at_ (k:=k-a) BG
    have x64:=HW.out.at_ (k-a)
    have HSet:=hid (ae7 ring hak hlt)
    obtain⟨x1,x2⟩:=x64
    generalize ring.getD (k-a) 0=x at*
    obtain⟨m,hm⟩:∃m,m=k-a:=⟨_,rfl⟩
    rw[<-hm] at c0
    have hi:(k:Int)-(a:Nat)=(m:Nat):=ah
    have i1:(m:Int)<40:=ah
    have i2:(0:Int)<=m:=ah
    have d1:(a:Int)<=k:=ah
    have HM:=hid hm
    clear hm
    go_wp2_with fail
    refine(qH x _ x1 x2).mono ?_
    rintro e w2 ⟨rfl,hB⟩
    have O2:=hid (HO.out.below hB)
    have B2:=hid (HB.out.trans (hB.mono HB.out.size))
    have co:=O2.out.cell k (by rw[oZ];exact hlt)
    have fo:=O2.out.frozen k
    have O3:=hid (O2.out.set_ k (by rw[oZ];exact hlt) (s16 x))
    rw[HSet.out] at O3
    have B3:=hid (B2.out.setCell (p:=⟨w.heap.size,k,none⟩) (al0z _) (.int .i64 (s16 x)))
    clear hB c0 hi
    go_wp2
    go_roundw
    case rel=>exact⟨k+1,ah,aO,O3,B3⟩
    case measure=>simp[intOf]<;>omega
   have d1: ¬(a:Int)<=k:=ah
   have O3:=hid (show Own wr w.heap.size (some ⟨w.heap.size,0,none⟩) 40 (kV ring a (k+1)) by rw[ae6 ring ah];exact HO.out)
   clear hak
   go_wp2
   go_roundw
   case rel=>exact⟨k+1,ah,aO,O3,HB⟩
   case measure=>simp[intOf]<;>omega
  obtain rfl:k=40:=ah
  have O3:=hid (show Own wr w.heap.size (some ⟨w.heap.size,0,none⟩) 40 (jr ring a) by rw[<-ae3];exact HO.out)
  go_wp2
  go_ret
  exact⟨_,_,rfl,O3.out,HB.out⟩
def inH(a:Int):Bool:=decide (0<=a/\a<=39)
def uD(n:Nat)(a b:Int):Int:=if n=40 then(if inH a&&inH b then 0 else 2) else 1
def enV(ring:List Int)(a b:Int):Int:=if uD ring.length a b=0 then bz (jr ring a.toNat) (jr ring b.toNat) 40 else 0
def EnAns(ring:List Int)(a b:Int)(w:World)(e:Ending)(w':World):Prop:=e=.returned (.tuple #[.int .i64 (enV ring a b),.int .i64 (uD ring.length a b)])/\Below w.heap.size w w'
theorem EnAns.bad{ring:List Int}{a b:Int}{w w':World}{er:Int}(h:uD ring.length a b=er)(h0:er≠0)(hB:Below w.heap.size w w'):EnAns ring a b w (.returned (.tuple #[.int .i64 0,.int .i64 er])) w':=
 ⟨by unfold enV;rw[h,if_neg h0],hB⟩
def enT(ring:List Int)(a b i:Nat):Int:=iF ring a i*iF ring b i
theorem Xk(ring:List Int)(a b:Nat):bz (jr ring a) (jr ring b) 40=aI (enT ring a b) 40:=
 lL 40 fun i hi=>by unfold qM jr enT;rw[aT _ hi,aT _ hi]
theorem Qj(ring:List Int)(a b:Nat):∀k,k<=a\/k<=b->aI (enT ring a b) k=0
 |0,_=>rfl
 |k+1,h=>by
  have h0:iF ring a k=0\/iF ring b k=0:=by
   rcases h with h|h
   ·left;unfold iF;rw[if_neg ah]
   right;unfold iF;rw[if_neg ah]
  have h1:=Qj ring a b k ah
  simp only[aI]
  rw[h1]
  unfold enT
  rcases h0 with h0|h0<;>rw[h0]<;>simp
theorem Xl(ring:List Int)(a b k:Nat): -(1073741824*(k:Int))<=aI (enT ring a b) k/\aI (enT ring a b) k<=1073741824*(k:Int):=by
 induction k with
 |zero=>simp[aI]
 |succ k ih=>
  have h:=kU (vV ring a k).1 (vV ring a k).2 (vV ring b k).1 (vV ring b k).2
  simp only[aI]
  unfold enT at*
  push_cast
  omega
theorem ae9(A:Option Addr)(c n:Nat)(ring:List Int)(a b:Int)(w:World)(hr:Rs w w.heap.size A ring)(hrn:ring.length=n)(hw:W64 ring):
 Calls Tryz.prog 202 #[.slice A n c,.int .i64 a,.int .i64 b] w (EnAns ring a b w):=by
 by_cases hn:n=40
 rotate_left
 ·have FIN:=hid (fun w' (hB:Below w.heap.size w w')=>EnAns.bad (ring:=ring) (a:=a) (b:=b) (er:=1) (by rw[hrn];unfold uD;rw[if_neg hn]) aB hB)
  have d0:((n:Int) !=40)=true:=aJ
  have d00: ¬(n:Int)=40:=ah
  clear hn hrn hr hw
  go_enter Tryz.func202,Tryz.ntmps202
  exact l36
 subst hn
 by_cases hab:inH a=true/\inH b=true
 rotate_left
 ·have FIN:=hid (fun w' (hB:Below w.heap.size w w')=>EnAns.bad (ring:=ring) (a:=a) (b:=b) (er:=2) (by rw[hrn];unfold uD;rw[if_pos rfl,if_neg (by simpa using hab)]) aB hB)
  unfold inH at hab
  simp only[decide_eq_true_eq] at hab
  clear hrn hr hw
  by_cases a1:a<0
  ·clear hab
   go_enter Tryz.func202,Tryz.ntmps202
   exact l36
  by_cases a2:39<a
  ·have a3:40<=a:=ah
   clear hab
   go_enter Tryz.func202,Tryz.ntmps202
   exact l36
  have a3: ¬40<=a:=ah
  by_cases b1:b<0
  ·clear hab
   go_enter Tryz.func202,Tryz.ntmps202
   exact l36
  have b2:39<b:=ah
  have b3:40<=b:=ah
  clear hab
  go_enter Tryz.func202,Tryz.ntmps202
  exact l36
 have HV:=hid (show uD ring.length a b=0 by rw[hrn];unfold uD;rw[if_pos rfl,if_pos (by simpa using hab)])
 have HV2:=hid (show enV ring a b=bz (jr ring a.toNat) (jr ring b.toNat) 40 by unfold enV;rw[if_pos HV.out])
 unfold inH at hab
 simp only[decide_eq_true_eq] at hab
 obtain⟨⟨a1,a2⟩,b1,b2⟩:=hab
 obtain⟨p,rfl⟩:=dP a1
 obtain⟨q,rfl⟩:=dP b1
 rw[show((p:Nat):Int).toNat=p from rfl,show((q:Nat):Int).toNat=q from rfl] at HV2
 have HRN:=hid hrn
 have HR:=hid hr
 have HW:=hid hw
 clear hr hrn hw
 have a3: ¬((p:Nat):Int)<0:=ah
 have a4: ¬40<=((p:Nat):Int):=ah
 have b3: ¬((q:Nat):Int)<0:=ah
 have b4: ¬40<=((q:Nat):Int):=ah
 by_cases hpq:(p:Int)<q
 ·have H0:=hid (show(0:Int)=aI (enT ring p q) q from(Qj ring p q q (.inr (al0z _))).symm)
  go_enter Tryz.func202,Tryz.ntmps202
  go_wp2
  go_loopw[8,9] (fun sv iv wr=> ∃(k:Nat) (s:Int),q<=k/\k<=40/\iv=.int .i64 k/\sv=.int .i64 s/\Hid (s=aI (enT ring p q) k)/\Hid (Below w.heap.size w wr)) (fun _ iv _=>40-(intOf iv).toNat)
  case atStart=>exact⟨q,0,al0z _,ah,rfl,rfl,H0,hid (aA _ _)⟩
  case round=>
   obtain⟨k,s,hk0,hk,rfl,rfl,HS,HB⟩:=hrel
   by_cases hlt:k<40
   ·have sb:=Xl ring p q k
    have ST:=hid (show aI (enT ring p q) (k+1)=s+s16 (ring.getD (k-p) 0)*s16 (ring.getD (k-q) 0) by
     rw[HS.out];simp only[aI];unfold enT iF;rw[if_pos ah,if_pos ah])
    have hs:=HS.out
    rw[<-hs] at sb
    have s1: -1073741824000<=s:=ah
    have s2:s<=1073741824000:=ah
    clear hs sb
    obtain⟨ad,rfl,hadb,c0⟩:=(HR.out.below HB.out).at_ (k:=k-p) (by rw[HRN.out];omega)
    obtain⟨ad2,had2,_,c1⟩:=(HR.out.below HB.out).at_ (k:=k-q) (by rw[HRN.out];omega)
    injection had2 with had2
    subst had2
    generalize ring.getD (k-p) 0=x at*
    generalize ring.getD (k-q) 0=y at*
    obtain⟨m,hm⟩:∃m,m=k-p:=⟨_,rfl⟩
    obtain⟨m2,hm2⟩:∃m2,m2=k-q:=⟨_,rfl⟩
    rw[<-hm] at c0
    rw[<-hm2] at c1
    have hw0:IntKind.i64.wrap ((k:Int)-(p:Nat))=(m:Nat):=aN
    have hw1:IntKind.i64.wrap ((k:Int)-(q:Nat))=(m2:Nat):=aN
    have xr:=lJ x
    have yr:=lJ y
    have KX:Hid (∀W,Calls Tryz.prog 163 #[.int .i64 x] W fun e w'=>e=.returned (.int .i64 (s16 x))/\w'=W):=hid (fun W=>(xU x W).mono fun _ _ h=>⟨h.1,h.2.symm⟩)
    have KY:Hid (∀W,Calls Tryz.prog 163 #[.int .i64 y] W fun e w'=>e=.returned (.int .i64 (s16 y))/\w'=W):=hid (fun W=>(xU y W).mono fun _ _ h=>⟨h.1,h.2.symm⟩)
    generalize s16 x=x' at*
    generalize s16 y=y' at*
    obtain⟨p1,p2⟩:=kU xr.1 xr.2 yr.1 yr.2
    have hw2:IntKind.i64.wrap (x'*y')=x'*y':=aN
    have hw3:IntKind.i64.wrap (s+x'*y')=s+x'*y':=aN
    have i1:(m:Int)<40:=ah
    have i2:(0:Int)<=m:=ah
    have i3:(m2:Int)<40:=ah
    have i4:(0:Int)<=m2:=ah
    have HM:=hid hm
    have HM2:=hid hm2
    clear hm hm2 xr yr
    go_wp2
    go_quiet ((go_at_call 163;first|(with_reducible exact Calls.quiet_of_same (KX.out _))|(with_reducible exact Calls.quiet_of_same (KY.out _))))
    clear hw0 hw1 hw2 hw3
    go_wp2
    go_roundw
    case rel=>exact⟨k+1,_,ah,ah,aO,rfl,hid ST.out.symm,hid (HB.out.trans ((iJ _ _).mono HB.out.size))⟩
    case measure=>simp[intOf]<;>omega
   obtain rfl:k=40:=ah
   go_wp2
   go_ret2
   exact⟨by rw[HV.out,HV2.out,Xk,<-HS.out];rfl,HB.out⟩
 ·have H0:=hid (show(0:Int)=aI (enT ring p q) p from(Qj ring p q p (.inl (al0z _))).symm)
  have hpq2:(q:Int)<=p:=ah
  go_enter Tryz.func202,Tryz.ntmps202
  go_wp2
  go_loopw[8,9] (fun sv iv wr=> ∃(k:Nat) (s:Int),p<=k/\k<=40/\iv=.int .i64 k/\sv=.int .i64 s/\Hid (s=aI (enT ring p q) k)/\Hid (Below w.heap.size w wr)) (fun _ iv _=>40-(intOf iv).toNat)
  case atStart=>exact⟨p,0,al0z _,ah,rfl,rfl,H0,hid (aA _ _)⟩
  case round=>
   obtain⟨k,s,hk0,hk,rfl,rfl,HS,HB⟩:=hrel
   by_cases hlt:k<40
   ·have sb:=Xl ring p q k
    have ST:=hid (show aI (enT ring p q) (k+1)=s+s16 (ring.getD (k-p) 0)*s16 (ring.getD (k-q) 0) by
     rw[HS.out];simp only[aI];unfold enT iF;rw[if_pos ah,if_pos ah])
    have hs:=HS.out
    rw[<-hs] at sb
    have s1: -1073741824000<=s:=ah
    have s2:s<=1073741824000:=ah
    clear hs sb
    obtain⟨ad,rfl,hadb,c0⟩:=(HR.out.below HB.out).at_ (k:=k-p) (by rw[HRN.out];omega)
    obtain⟨ad2,had2,_,c1⟩:=(HR.out.below HB.out).at_ (k:=k-q) (by rw[HRN.out];omega)
    injection had2 with had2
    subst had2
    generalize ring.getD (k-p) 0=x at*
    generalize ring.getD (k-q) 0=y at*
    obtain⟨m,hm⟩:∃m,m=k-p:=⟨_,rfl⟩
    obtain⟨m2,hm2⟩:∃m2,m2=k-q:=⟨_,rfl⟩
    rw[<-hm] at c0
    rw[<-hm2] at c1
    have hw0:IntKind.i64.wrap ((k:Int)-(p:Nat))=(m:Nat):=aN
    have hw1:IntKind.i64.wrap ((k:Int)-(q:Nat))=(m2:Nat):=aN
    have xr:=lJ x
    have yr:=lJ y
    have KX:Hid (∀W,Calls Tryz.prog 163 #[.int .i64 x] W fun e w'=>e=.returned (.int .i64 (s16 x))/\w'=W):=hid (fun W=>(xU x W).mono fun _ _ h=>⟨h.1,h.2.symm⟩)
    have KY:Hid (∀W,Calls Tryz.prog 163 #[.int .i64 y] W fun e w'=>e=.returned (.int .i64 (s16 y))/\w'=W):=hid (fun W=>(xU y W).mono fun _ _ h=>⟨h.1,h.2.symm⟩)
    generalize s16 x=x' at*
    generalize s16 y=y' at*
    obtain⟨p1,p2⟩:=kU xr.1 xr.2 yr.1 yr.2
    have hw2:IntKind.i64.wrap (x'*y')=x'*y':=aN
    have hw3:IntKind.i64.wrap (s+x'*y')=s+x'*y':=aN
    have i1:(m:Int)<40:=ah
    have i2:(0:Int)<=m:=ah
    have i3:(m2:Int)<40:=ah
    have i4:(0:Int)<=m2:=ah
    have HM:=hid hm
    have HM2:=hid hm2
    clear hm hm2 xr yr
    go_wp2
    go_quiet ((go_at_call 163;first|(with_reducible exact Calls.quiet_of_same (KX.out _))|(with_reducible exact Calls.quiet_of_same (KY.out _))))
    clear hw0 hw1 hw2 hw3
    go_wp2
    go_roundw
    case rel=>exact⟨k+1,_,ah,ah,aO,rfl,hid ST.out.symm,hid (HB.out.trans ((iJ _ _).mono HB.out.size))⟩
    case measure=>simp[intOf]<;>omega
   obtain rfl:k=40:=ah
   go_wp2
   go_ret2
   exact⟨by rw[HV.out,HV2.out,Xk,<-HS.out];rfl,HB.out⟩
def af5(w:World)(g:Nat)(e:Ending)(w':World):Prop:=∃A c,e=.returned (.slice A 25 c)/\OwnF w' w.heap.size A c g 25/\Below w.heap.size w w'
theorem af6(w:World)(g base:Nat)(hb:base<=w.heap.size):OwnF (w.alloc (.cells #[.pointer (some ⟨g,0,none⟩),.int .i64 2,.int .i64 2] 122)) base (some ⟨w.heap.size,0,none⟩) 1 g 1:=
 World.ownsRow_lit (base:=base) (e:=122) (size:=3) w #[.pointer (some ⟨g,0,none⟩),.int .i64 2,.int .i64 2] 1 hb iT rfl
theorem af7{k:Nat}(hk:k<8):pkB.getD (k+1) 0=bJ (k:Nat)/\pkT.getD (k+1) 0=2^(bJ (k:Nat)).toNat-1:=by
 have:k=0\/k=1\/k=2\/k=3\/k=4\/k=5\/k=6\/k=7:=ah
 rcases this with rfl|rfl|rfl|rfl|rfl|rfl|rfl|rfl<;>decide
theorem zL{w:World}{base c g n:Nat}{A:Option Addr}(h:OwnF w base A c g n):∀k,A.map (·.block)=some k->base<=k:=by
 intro k hk
 exact acz
theorem Ya(g:Nat)(w:World)(T:TabA w 3 fD):
 Calls Tryz.prog 64 #[.pointer (some ⟨g,0,none⟩)] w (af5 w g):=by
 have HT:=hid T
 have S0:=hid (af6 w g w.heap.size (al0z _))
 have B0:=hid ((aA w.heap.size w).alloc (al0z _) (.cells #[.pointer (some ⟨g,0,none⟩),.int .i64 2,.int .i64 2] 122))
 clear T
 go_enter Tryz.func64,Tryz.ntmps64
 go_wp2
 go_loopw[3,14] (fun sv iv wr=> ∃(k:Nat) (A:Option Addr) (c:Nat),k<=8/\iv=.int .i64 k/\sv=.slice A (k+1) c/\Hid (OwnF wr w.heap.size A c g (k+1))/\Hid (Below w.heap.size w wr)) (fun _ iv _=>8-(intOf iv).toNat)
 case atStart=>exact⟨0,_,_,ah,rfl,rfl,S0,B0⟩
 case round=>
  clear S0 B0
  obtain⟨k,A,c,hk,rfl,rfl,HO,HB⟩:=hrel
  by_cases hlt:k<8
  ·have KW:=hid (fun W (h:TabA W 3 fD)=>Qn (k:Nat) W h)
   have TW:=hid (HT.out.below HB.out)
   have HV:=af7 hlt
   have k0:(0:Int)<=k:=ah
   have k8:(k:Int)<8:=ah
   obtain⟨v,hv⟩:∃v,v=bJ (k:Nat):=⟨_,rfl⟩
   rw[<-hv] at HV KW
   have hvc:v=3\/v=4\/v=5\/v=6:=by
    rcases zJ (k:Nat) with h|h|h|h|h<;>omega
   have HVV:=hid HV
   clear HV hv
   have HK:=hid hlt
   rcases hvc with rfl|rfl|rfl|rfl
   all_goals
    go_wp2_with(first
     |(go_at_call 143;(with_reducible refine(KW.out _ TW.out).mono ?_);rintro e w' ⟨rfl,rfl⟩)
     |(at_builtin;refine XZ rfl (.tmp 19) (.tmp 31) rfl w.heap.size A c g (k+1) 1 (k+1+1) rfl rfl (HO.out.alloc _) wr.heap.size _ rfl (Blk.new wr _ _) (XU g (k+1) (XT g ah HVV.out.1 HVV.out.2)) ah La ?_;intro A5 c5 w5 hO hG;have O5:=hid hO;have B5:=hid ((HB.out.alloc HB.out.size _).grown hG La (zL HO.out));clear hO hG))
    go_roundw
    case rel=>exact⟨k+1,A5,c5,ah,aO,rfl,O5,B5⟩
    case measure=>simp[intOf]<;>omega
  obtain rfl:k=8:=ah
  have hA:(8:Nat)+1=9:=rfl
  rw[hA] at HO|-
  try rw[show((8:Nat):Int)=8 from rfl]
  go_wp2
  go_loopw[3,34] (fun sv iv wr=> ∃(s n:Nat) (A:Option Addr) (c:Nat),s<=2/\n=9+8*s/\iv=.int .i64 s/\sv=.slice A n c/\Hid (OwnF wr w.heap.size A c g n)/\Hid (Below w.heap.size w wr)) (fun _ iv _=>2-(intOf iv).toNat)
  case atStart=>exact⟨0,9,_,_,ah,rfl,rfl,rfl,HO,HB⟩
  case round=>
   clear HO HB
   obtain⟨s,n,A,c,hs,hn,rfl,rfl,HO,HB⟩:=hrel
   by_cases hlt:s<2
   ·obtain rfl|rfl:s=0\/s=1:=ah
    ·obtain rfl:n=9:=hn
     try rw[show((0:Nat):Int)=0 from rfl]
     have hdec:decide ((0:Int)<2)=true:=rfl
     go_wp2
     go_region_held3 (fun _=>True) (trivial) (first
      |(refine Ig rfl (.tmp 42) (.tmp 51) rfl w.heap.size A c g 9 2 11 rfl rfl (HO.out.alloc _).drew wr.heap.size _ rfl (Blk.drew (Blk.new wr _ _)) (Ie g 9 rfl) ah wV ?_;intro A5 c5 w5 hO hG;have O5:=hid hO;have B5:=hid (((HB.out.alloc HB.out.size _).drew).grown hG wV (zL HO.out));clear hO hG))
     rename_i hHeldZ
     clear hHeldZ HO HB
     try simp only[Exit.then]
     go_wp2
     go_loopw[3,53] (fun sv tv wr=> ∃(t m:Nat) (A:Option Addr) (c:Nat),t<=4/\m=11+t/\tv=.int .i64 t/\sv=.slice A m c/\Hid (OwnF wr w.heap.size A c g m)/\Hid (Below w.heap.size w wr)) (fun _ tv _=>4-(intOf tv).toNat)
     case atStart=>exact⟨0,11,_,_,ah,rfl,rfl,rfl,O5,B5⟩
     case round=>
      clear O5 B5
      obtain⟨t,m,A,c,ht,hm,rfl,rfl,HO,HB⟩:=hrel
      by_cases hlt:t<4
      ·exact l28
      obtain rfl:t=4:=ah
      obtain rfl:m=15:=hm
      go_wp2
      go_region_held3 (fun _=>True) (trivial) (first
       |(refine Ig rfl (.tmp 66) (.tmp 75) rfl w.heap.size A c g 15 2 17 rfl rfl (HO.out.alloc _).drew wr.heap.size _ rfl (Blk.drew (Blk.new wr _ _)) (Ie g 15 rfl) ah wV ?_;intro A7 c7 w7 hO hG;have O7:=hid hO;have B7:=hid (((HB.out.alloc HB.out.size _).drew).grown hG wV (zL HO.out));clear hO hG))
      rename_i hHeldZ
      clear hHeldZ HO HB
      try simp only[Exit.then]
      go_wp2
      go_roundw
      case rel=>exact⟨0+1,17,A7,c7,ah,ah,rfl,rfl,O7,B7⟩
      case measure=>simp[intOf]<;>omega
    obtain rfl:n=17:=hn
    try rw[show((1:Nat):Int)=1 from rfl]
    have hdec:decide ((1:Int)<2)=true:=rfl
    go_wp2
    go_region_held3 (fun _=>True) (trivial) (first
     |(refine Ig rfl (.tmp 42) (.tmp 51) rfl w.heap.size A c g 17 2 19 rfl rfl (HO.out.alloc _).drew wr.heap.size _ rfl (Blk.drew (Blk.new wr _ _)) (Ie g 17 rfl) ah wV ?_;intro A5 c5 w5 hO hG;have O5:=hid hO;have B5:=hid (((HB.out.alloc HB.out.size _).drew).grown hG wV (zL HO.out));clear hO hG))
    rename_i hHeldZ
    clear hHeldZ HO HB
    try simp only[Exit.then]
    go_wp2
    go_loopw[3,53] (fun sv tv wr=> ∃(t m:Nat) (A:Option Addr) (c:Nat),t<=4/\m=19+t/\tv=.int .i64 t/\sv=.slice A m c/\Hid (OwnF wr w.heap.size A c g m)/\Hid (Below w.heap.size w wr)) (fun _ tv _=>4-(intOf tv).toNat)
    case atStart=>exact⟨0,19,_,_,ah,rfl,rfl,rfl,O5,B5⟩
    case round=>
     clear O5 B5
     obtain⟨t,m,A,c,ht,hm,rfl,rfl,HO,HB⟩:=hrel
     by_cases hlt:t<4
     ·exact l28
     obtain rfl:t=4:=ah
     obtain rfl:m=23:=hm
     go_wp2
     go_region_held3 (fun _=>True) (trivial) (first
      |(refine Ig rfl (.tmp 66) (.tmp 75) rfl w.heap.size A c g 23 2 25 rfl rfl (HO.out.alloc _).drew wr.heap.size _ rfl (Blk.drew (Blk.new wr _ _)) (Ie g 23 rfl) ah wV ?_;intro A7 c7 w7 hO hG;have O7:=hid hO;have B7:=hid (((HB.out.alloc HB.out.size _).drew).grown hG wV (zL HO.out));clear hO hG))
     rename_i hHeldZ
     clear hHeldZ HO HB
     try simp only[Exit.then]
     go_wp2
     go_roundw
     case rel=>exact⟨1+1,25,A7,c7,ah,ah,rfl,rfl,O7,B7⟩
     case measure=>simp[intOf]<;>omega
   obtain rfl:s=2:=ah
   obtain rfl:n=25:=hn
   go_wp2
   go_ret
   exact⟨A,c,rfl,HO.out,HB.out⟩
def oz(ps:List Int)(i:Nat):Prop:=0<=ps.getD i 0/\ps.getD i 0<=pkT.getD i 0
instance (ps:List Int) (i:Nat):Decidable (oz ps i):=by unfold oz;infer_instance
def cf(ps:List Int)(n:Nat):Bool:=(List.range n).all (fun i=>decide (oz ps i))
theorem Yb(ps:List Int):cf ps 0=true:=rfl
theorem Yc{ps:List Int}{n:Nat}(h:cf ps n=true)(h2:oz ps n):cf ps (n+1)=true:=by
 unfold cf at*
 rw[List.range_succ,List.all_append,h]
 simp[h2]
theorem Yd{ps:List Int}{n m:Nat}(hn:n<m)(h2: ¬oz ps n):cf ps m=false:=by
 unfold cf
 rw[List.all_eq_false]
 exact⟨n,vp,zn⟩
theorem Dw{ps:List Int}{n i:Nat}(h:cf ps n=true)(hi:i<n):oz ps i:=by
 unfold cf at h
 rw[kF] at h
 simpa using h i Fj
theorem af8(ps:List Int)(w:World)(T:TabA w 3 fD)(hl:ps.length=25):
 Calls Tryz.prog 65 #[.agg (agi ps)] w fun e w'=>e=.returned (.bool (cf ps 25))/\Below w.heap.size w w':=by
 have P0:=hid (IB.new w 38 ps)
 have B0:=hid ((aA w.heap.size w).alloc (al0z _) (.cells (agi ps) 38))
 have T0:=hid (T.below B0.out)
 have HL:=hid hl
 clear T hl
 obtain⟨V,hV⟩:∃V,V=w.alloc (.cells (agi ps) 38):=⟨_,rfl⟩
 have SV:=hid (show V.heap.size=w.heap.size+1 by rw[hV];simp)
 rw[<-hV] at P0 B0 T0
 have HV:=hid hV
 clear hV
 go_enter Tryz.func65,Tryz.ntmps65
 go_wp2_with(first
  |(rw[<-HV.out];clear HV)
  |(go_at_call 64;(with_reducible refine(Ya w.heap.size V T0.out).mono ?_);rintro e w1 ⟨A,c,rfl,hO,hB⟩;obtain⟨b,rfl,hb1,hb2,hb3⟩:=OwnF.at_ hO ah;have HB1:=hid hb1;have HB2:=hid hb2;have HC:=hid hb3;have P1:=hid (Blk.below' P0.out hB);have B1:=hid (B0.out.trans (hB.mono B0.out.size));clear hO hB hb1 hb2 hb3))
 go_loopw[7] (fun iv wr=> ∃i:Nat,i<=25/\iv=.int .i64 i/\Hid (cf ps i=true)/\Hid (Below w1.heap.size w1 wr)) (fun iv _=>25-(intOf iv).toNat)
 case atStart=>exact⟨0,ah,rfl,hid (Yb ps),hid (aA _ _)⟩
 case round=>
  obtain⟨i,hi,rfl,HP,HB⟩:=hrel
  by_cases hlt:i<25
  ·obtain⟨f0,f1,f2⟩:=HC.out i hlt
   have hs1:=HB.out.size
   have hb1:=HB1.out
   have c0:wr.cell? ⟨b,i*3,none⟩=some (.pointer (some ⟨w.heap.size,i,none⟩)):=by rw[Nat.mul_comm];exact(HB.out.cell (p:=⟨b,3*i,none⟩) hb1).trans f0
   have c1:wr.cell? ⟨b,i*3+1,none⟩=some (.int .i64 (pkB.getD i 0)):=by rw[Nat.mul_comm];exact(HB.out.cell (p:=⟨b,3*i+1,none⟩) hb1).trans f1
   have c2:wr.cell? ⟨b,i*3+2,none⟩=some (.int .i64 (pkT.getD i 0)):=by rw[Nat.mul_comm];exact(HB.out.cell (p:=⟨b,3*i+2,none⟩) hb1).trans f2
   have p0:wr.cell? ⟨w.heap.size,i,none⟩=some (.int .i64 (ps.getD i 0)):=IB.cell (Blk.below' P1.out HB.out) i oK
   have hpl:w.heap.size<wr.heap.size:=Blk.lt (Blk.below' P1.out HB.out)
   have HN:=hid (fun h=>Yd (ps:=ps) hlt h)
   have HY:=hid (fun h=>Yc HP.out h)
   have HD:=hid (show oz ps i↔0<=ps.getD i 0/\ps.getD i 0<=pkT.getD i 0 from Iff.rfl)
   generalize ps.getD i 0=x at*
   generalize pkT.getD i 0=t at*
   generalize pkB.getD i 0=bb at*
   have i0:(0:Int)<=i:=ah
   have i25:(i:Int)<25:=ah
   obtain⟨W,hW⟩:∃W,W=wr.alloc (.cells #[.pointer (some ⟨w.heap.size,i,none⟩),.int .i64 bb,.int .i64 t] 122):=⟨_,rfl⟩
   have q0:W.cell? ⟨wr.heap.size,0,none⟩=some (.pointer (some ⟨w.heap.size,i,none⟩)):=by rw[hW];exact Blk.cell (Blk.new wr _ _) 0
   have q2:W.cell? ⟨wr.heap.size,2,none⟩=some (.int .i64 t):=by rw[hW];exact Blk.cell (Blk.new wr _ _) 2
   have qx:W.cell? ⟨w.heap.size,i,none⟩=some (.int .i64 x):=by rw[hW];exact(((aA wr.heap.size wr).alloc (al0z _) _).cell (p:=⟨w.heap.size,i,none⟩) hpl).trans p0
   have BW:=hid (show Below w1.heap.size w1 W by rw[hW];exact HB.out.alloc hs1 _)
   clear f0 f1 f2
   go_wp2
   rw[<-hW]
   clear hW c0 c1 c2 p0
   by_cases hx:x<0
   ·have d0:decide (x<0)=true:=BJ
    exact abQ
   have d0:decide (x<0)=false:=BJ
   by_cases ht:t<x
   ·have d1:decide (t<x)=true:=by simpa using ht
    exact abQ
   have d1:decide (t<x)=false:=by simpa using ht
   go_quiet (fail)
   go_wp2
   go_roundw
   case rel=>exact⟨i+1,ah,aO,hid (HY.out (HD.out.2 ah)),hid (BW.out.trans ((iJ W _).mono BW.out.size))⟩
   case measure=>simp[intOf]<;>omega
  exact aco
end Go.Proofs.YthoiikkjjaldnaaGreatDoor
