/- Texts that the law rests on. -/
import Derived.Test.YthoiikkjjaldnaaGreatDoorZ1e0b
import Derived.Test.YthoiikkjjaldnaaGreatDoorZ1e0d
import Derived.Test.YthoiikkjjaldnaaGreatDoorZ1e09
namespace Go.Proofs.YthoiikkjjaldnaaGreatDoor
set_option linter.unusedVariables false
set_option linter.unusedSimpArgs false
set_option maxRecDepth 100000
set_option maxHeartbeats 8000000
open Go.RowKit
structure UOk(u:List Int):Prop where
 l:u.length=8
 a:0<=u.getD 0 0/\u.getD 0 0<=59
 g:0<=u.getD 1 0/\u.getD 1 0<=7
 i:∀j,2<=j->j<6->0<=u.getD j 0/\u.getD j 0<=9
 s:0<=u.getD 6 0/\u.getD 6 0<=15
 v:0<=u.getD 7 0/\u.getD 7 0<=31
def uI(u:List Int):List Int:=(u.drop 2).take 4
theorem Il{u:List Int}(h:u.length=8):(uI u).length=4:=by unfold uI;rw[fL,jY];omega
theorem agk(u:List Int){j:Nat}(h:j<4):(uI u).getD j 0=u.getD (2+j) 0:=by
 unfold uI
 exact l93
def spC(u:List Int):List Int:=blL (uI u) (u.getD 6 0) (glV (u.getD 7 0))
def spX(m:Mm)(u:List Int):List Int:=mxL m.e (spC u) (20+u.getD 0 0) (bP (u.getD 1 0)) 40
def spM(m:Mm)(u:List Int):Mm:={m with e:=bH m.e (spX m u),la:=20+u.getD 0 0,pi:=bP (u.getD 1 0),ga:=glV (u.getD 7 0)}
theorem Io(n:Int):0<=bP n/\bP n<=18022:=by
 unfold bP
 split
 ·next h=>
  have h2:0<=n/\n<=7:=by unfold rU at h;simpa using h
  obtain⟨k,rfl⟩:=dP h2.1
  have hk:k<8:=ah
  rw[Int.toNat_natCast]
  have:∀k,k<8->0<=aY.getD k 0/\aY.getD k 0<=18022:=aB
  exact this k hk
 omega
theorem UOk.bl{u:List Int}(h:UOk u):blB (uI u) (u.getD 6 0) (glV (u.getD 7 0))=true:=by
 have h1:=Dp (u.getD 7 0)
 have h2:=h.s
 unfold blB blS
 rw[Bool.and_eq_true]
 refine⟨decide_eq_true ⟨⟨h2.1,h2.2⟩,h1.1,h1.2⟩,?_⟩
 have h3:allTo okI (uI u) 4:=fun j hj=>by
  rw[agk u hj]
  have:=h.i (2+j) ah ah
  exact GZ this.1 this.2
 exact h3.all (by rw[Il h.l];exact al0z _)
theorem Ip{u:List Int}(h:UOk u):(spC u).length=40:=by unfold spC blL;rw[h.bl];simp
theorem agl{u:List Int}(h:UOk u):mxB (20+u.getD 0 0) (bP (u.getD 1 0))=true:=by
 have h1:=Io (u.getD 1 0)
 have h2:=h.a
 unfold mxB
 rw[rO ah ah,Bool.true_and]
 exact decide_eq_true ⟨h1.1,ah⟩
theorem o9{u:List Int}(h:UOk u)(m:Mm):(spX m u).length=40:=by unfold spX;rw[(PW (agl h)).1];simp
theorem Yo(m:Mm)(u:List Int):aG (spX m u)=true:=aeA _ _ _ _ _
theorem yB{m:Mm}{u:List Int}(k:m.ok)(h:UOk u):(spM m u).ok:=⟨k.r,k.p,rP k.e (o9 h m)⟩
theorem agm{m:Mm}{u:List Int}(g:aU m=true)(h:UOk u):aU (spM m u)=true:=by
 obtain⟨h1,h2,h3,t1,t2,t3,t4,t5⟩:=kM g
 have a1:=h.a
 exact CQ h1 h2 (Xa h3) ⟨⟨by show 20<=20+u.getD 0 0;omega,by show 20+u.getD 0 0<=79;omega⟩,t2,Dp _,Io _,t5⟩
theorem agn{m:Mm}(g:aU m=true):aU (ji m)=true:=by
 obtain⟨h1,h2,h3,t1,t2,t3,t4,t5⟩:=kM g
 refine CQ h1 h2 (Xa h3) ⟨t1,?_,t3,t4,t5⟩
 show 0<=nzE m.se 40/\nzE m.se 40<65536
 have:=zB (nzE m.se 39)
 rw[show(40:Nat)=39+1 from rfl,Wi]
 omega
def jH(a:List Int):Prop:=okP a=true/\a.getD 0 0=4096
theorem agp{k:List Int}(h:bM k=true):jH (lW k):=by
 have e:lW k=(List.range 9).map (fun i=>((cH k 8).getD i 0+2048)/4096):=by unfold lW;rw[h];rfl
 constructor
 ·unfold okP
  rw[kF,e]
  intro x hx
  obtain⟨i,_,rfl⟩:=List.mem_map.1 hx
  have:=zK (xQ h) (m:=8) (al0z _) i
  exact Qc ah ah
 rw[e,Ib (fun i=>((cH k 8).getD i 0+2048)/4096) ah]
 rw[show(8:Nat)=7+1 from rfl,uH,show(7:Nat)=6+1 from rfl,uH,show(6:Nat)=5+1 from rfl,uH,show(5:Nat)=4+1 from rfl,uH,show(4:Nat)=3+1 from rfl,uH,
  show(3:Nat)=2+1 from rfl,uH,show(2:Nat)=1+1 from rfl,uH,show(1:Nat)=0+1 from rfl,uH,Qp]
 rfl
theorem zN{a p x:List Int}(h:jH a)(hp:aG p=true)(hx:aG x=true):di a p x=true:=by
 unfold di
 rw[h.1,h.2,hp,hx];rfl
theorem agq{a p x:List Int}(h:jH a)(hp:aG p=true)(hx:aG x=true)(hl:x.length=40):jR a p x=dY p (dF a p x 40)/\oV a p x=dF a p x 40:=by
 unfold jR oV
 rw[if_pos (zN h hp hx),if_pos (zN h hp hx),hl]
 exact⟨rfl,rfl⟩
theorem agr{m:Mm}(g:aU m=true)(a x:List Int)(n:Nat):aU {m with p:=dY m.p (dF a m.p x n)}=true:=by
 obtain⟨h1,h2,h3,t⟩:=kM g
 exact CQ h1 (Dc _ _ h2 (yw _ _ _ _)) h3 t
def nC(ps:List Int):List Int:=(ps.drop 1).take 8
def aX(ps:List Int)(s:Nat):List Int:=(ps.drop (9+8*s)).take 8
theorem agt(ps:List Int){j:Nat}(h:j<8):(nC ps).getD j 0=ps.getD (1+j) 0:=by
 unfold nC
 exact l93
theorem agu(ps:List Int){s j:Nat}(h:j<8):(aX ps s).getD j 0=ps.getD (9+8*s+j) 0:=by
 unfold aX
 exact l93
theorem Iq{ps:List Int}(h:ps.length=25):(nC ps).length=8:=by unfold nC;rw[fL,jY];omega
theorem agv{ps:List Int}(h:ps.length=25){s:Nat}(hs:s<2):(aX ps s).length=8:=by unfold aX;rw[fL,jY];omega
theorem Ir{ps:List Int}(h:cf ps 25=true)(hl:ps.length=25){s:Nat}(hs:s<2):UOk (aX ps s):=by
 have k:∀j,j<8->0<=(aX ps s).getD j 0/\(aX ps s).getD j 0<=pkT.getD (9+8*s+j) 0:=fun j hj=>by
  rw[agu ps hj]
  exact Dw h ah
 have t:∀s,s<2->pkT.getD (9+8*s+0) 0=59/\pkT.getD (9+8*s+1) 0=7/\pkT.getD (9+8*s+6) 0=15/\pkT.getD (9+8*s+7) 0=31/\∀j,2<=j->j<6->pkT.getD (9+8*s+j) 0=9:=by
  intro s hs
  have:s=0\/s=1:=ah
  rcases this with rfl|rfl
  ·exact acj
  exact acj
 obtain⟨t0,t1,t6,t7,t2⟩:=t s hs
 have k0:=k 0 ah
 have k1:=k 1 ah
 have k6:=k 6 ah
 have k7:=k 7 ah
 rw[t0] at k0
 rw[t1] at k1
 rw[t6] at k6
 rw[t7] at k7
 exact⟨agv hl hs,k0,k1,fun j h1 h2=>by have:=k j ah;rw[t2 j h1 h2] at this;exact this,k6,k7⟩
theorem agw:∀i,i<8->∀n,n<64-> -31000<=lvV (i:Nat) (n:Nat)/\lvV (i:Nat) (n:Nat)<=31000:=uy
theorem agx:∀i,i<8->∀n,n<64->((n:Nat):Int)<=pkT.getD (1+i) 0->bh (i:Nat) (n:Nat)=0:=uy
theorem agy:∀i,i<8->pkT.getD (1+i) 0<=63:=aB
def oG(ps:List Int):List Int:=(List.range 8).map (aF lvV (nC ps))
theorem QB(ps:List Int):(oG ps).length=8:=by simp[oG]
theorem Yp{ps:List Int}(h:cf ps 25=true){i:Nat}(hi:i<8):∃n:Nat,n<64/\(nC ps).getD i 0=n/\((n:Nat):Int)<=pkT.getD (1+i) 0:=by
 have h1:oz ps (1+i):=Dw h ah
 have h2:=agy i hi
 obtain⟨n,hn⟩:=dP h1.1
 have h3:=h1.2
 rw[hn] at h3
 exact⟨n,ah,by rw[agt ps hi,hn],h3⟩
theorem DD{ps:List Int}(h:cf ps 25=true):∀n,n<=8->aE bh (nC ps) n=0
 |0,_=>rfl
 |n+1,hn=>by
  rw[aE,if_pos (DD h n ah)]
  obtain⟨v,hv,e,hle⟩:=Yp h (i:=n) ah
  rw[e]
  exact agx n ah v hv hle
theorem QC{ps:List Int}(h:cf ps 25=true):aL lvV bh (nC ps)=oG ps:=by
 unfold aL
 rw[if_pos (DD h 8 (al0z _))];rfl
theorem agz{ps:List Int}(h:cf ps 25=true):(oG ps).all okK=true:=by
 unfold oG
 rw[kF]
 intro x hx
 obtain⟨i,hi,rfl⟩:=List.mem_map.1 hx
 have hi8:i<8:=Fj
 obtain⟨v,hv,e,_⟩:=Yp h hi8
 unfold aF
 rw[e]
 have:=agw i hi8 v hv
 exact Wu this.1 this.2
theorem Iu{k:List Int}(h:k.all okK=true):bM k=true:=by
 unfold bM
 rw[kF] at h|-
 intro x hx
 have:=h x hx
 unfold okK at this
 have h2: -31000<=x/\x<=31000:=by simpa using this
 exact zC ah ah
def frA(was now:List Int)(s:Nat):List Int:=lW (je was now ((2+2*s:Nat):Int))
theorem agA{x:Int}{K:Int}(h1: -(4*K)<=x)(h2:x<=4*K): -K<=x.tdiv 4/\x.tdiv 4<=K:=by
 by_cases h:0<=x
 ·rw[Int.tdiv_eq_ediv_of_nonneg h];omega
 have e:x.tdiv 4= -((-x)/4):=by
  rw[<-Int.tdiv_eq_ediv_of_nonneg (show 0<= -x from ah),Int.neg_tdiv,Int.neg_neg]
 rw[e];omega
theorem agB{a b:List Int}(ha:bM a=true)(hb:bM b=true){n:Int}(h0:0<=n)(h4:n<=4):bM (je a b n)=true:=by
 have e:je a b n=(List.range 8).map (oh a b n):=by unfold je jK;rw[ha,hb];rw[if_pos aJ]
 rw[e]
 unfold bM
 rw[kF]
 intro x hx
 obtain⟨i,_,rfl⟩:=List.mem_map.1 hx
 have h1:=xQ ha i
 have h2:=xQ hb i
 unfold oh
 have:n=0\/n=1\/n=2\/n=3\/n=4:=ah
 have hb: -(4*32767)<=a.getD i 0*(4-n)+b.getD i 0*n/\a.getD i 0*(4-n)+b.getD i 0*n<=4*32767:=by
  rcases this with rfl|rfl|rfl|rfl|rfl<;>omega
 have:=agA hb.1 hb.2
 exact zC ah ah
theorem agC{a b:List Int}(ha:bM a=true)(hb:bM b=true)(hl:b.length=8):je a b 4=b:=by
 have e:je a b 4=(List.range 8).map (oh a b 4):=by unfold je jK;rw[ha,hb];rfl
 rw[e]
 refine bV (by simp[hl]) fun k hk=>?_
 have hk8:k<8:=by simpa using hk
 rw[Ib (oh a b 4) hk8]
 unfold oh
 rw[show a.getD k 0*(4-4)+b.getD k 0*4=b.getD k 0*4 from ah]
 exact Int.mul_tdiv_cancel _ aB
theorem zO{a b:List Int}(ha:bM a=true)(hb:bM b=true){s:Nat}(hs:s<2):jH (frA a b s):=agp (agB ha hb ah ah)
theorem qQ(a b:List Int)(s:Nat):(frA a b s).length=9:=Pz _
theorem agD{a b:List Int}(ha:bM a=true)(hb:bM b=true)(hl:b.length=8):frA a b 1=lW b:=by
 unfold frA
 rw[show(((2+2*1:Nat)):Int)=4 from rfl,agC ha hb hl]
def frX(q:Bool)(m:Mm)(u:List Int):List Int:=if q then nzL m.se 8 40 else spX m u
def frN(q:Bool)(m:Mm)(u:List Int):Mm:=if q then ji m else spM m u
def frP(q:Bool)(a:List Int)(m:Mm)(u:List Int):Mm:={frN q m u with p:=dY m.p (dF a m.p (frX q m u) 40)}
def frY(q:Bool)(a:List Int)(m:Mm)(u:List Int):List Int:=dF a m.p (frX q m u) 40
theorem Iw(q:Bool)(m:Mm)(u:List Int):(frN q m u).p=m.p:=Nl
theorem QD(q:Bool)(m:Mm)(u:List Int):(frN q m u).r=m.r:=Nl
theorem agE(q:Bool)(m:Mm)(u:List Int):(frN q m u).si=m.si:=Nl
theorem Iy(q:Bool)(m:Mm){u:List Int}(h:UOk u):(frX q m u).length=40:=by
 unfold frX
 split
 ·exact qJ _ _ _
 exact o9 h m
theorem Yq(q:Bool)(m:Mm)(u:List Int):aG (frX q m u)=true:=by
 unfold frX
 split
 ·exact Wj _ _ _
 exact Yo m u
theorem Iz(q:Bool){m:Mm}{u:List Int}(k:m.ok)(h:UOk u):(frN q m u).ok:=by
 unfold frN
 split
 ·exact PQ k
 exact yB k h
theorem agF(q:Bool){m:Mm}{u:List Int}(g:aU m=true)(h:UOk u):aU (frN q m u)=true:=by
 unfold frN
 split
 ·exact agn g
 exact agm g h
theorem Mm.ok.pp{m:Mm}(k:m.ok){p:List Int}(hp:p.length=8):({m with p:=p}:Mm).ok:=⟨k.r,hp,k.e⟩
theorem QE(q:Bool)(a:List Int){m:Mm}{u:List Int}(k:m.ok)(h:UOk u):(frP q a m u).ok:=by
 unfold frP
 exact(Iz q k h).pp (qK _ _ k.p)
theorem IE(q:Bool)(a:List Int)(m:Mm)(u:List Int):(frP q a m u).r=m.r:=by unfold frP;exact QD q m u
theorem agG(q:Bool)(a:List Int)(m:Mm)(u:List Int):(frP q a m u).si=m.si:=by unfold frP;exact agE q m u
theorem Yr(q:Bool)(a:List Int){m:Mm}{u:List Int}(g:aU m=true)(h:UOk u):aU (frP q a m u)=true:=by
 have h1:=agr (agF q g h) a (frX q m u) 40
 rw[Iw] at h1
 unfold frP
 exact h1
theorem yC(q:Bool)(a:List Int)(m:Mm)(u:List Int):(frY q a m u).length=40:=zE _ _ _ _
theorem Yt(q:Bool){a:List Int}{m:Mm}{u:List Int}(g:aU m=true)(h:UOk u)(ha:jH a):
 ({frN q m u with p:=jR a (frN q m u).p (frX q m u)}:Mm)=frP q a m u/\oV a (frN q m u).p (frX q m u)=frY q a m u:=by
 obtain⟨_,h2,_⟩:=kM g
 obtain⟨e1,e2⟩:=agq (p:=m.p) ha h2 (Yq q m u) (Iy q m h)
 rw[Iw,e1,e2]
 exact⟨rfl,rfl⟩
theorem zQ{a:List Int}{m:Mm}{u:List Int}(g:aU m=true)(h:UOk u)(ha:jH a):
 ({spM m u with p:=jR a m.p (spX m u)}:Mm)=frP false a m u/\oV a m.p (spX m u)=frY false a m u:=by
 have h1:=Yt false g h ha
 have e1:frN false m u=spM m u:=rfl
 have e2:frX false m u=spX m u:=rfl
 have e3:(spM m u).p=m.p:=rfl
 rw[e1,e2,e3] at h1
 exact h1
theorem Yu{a:List Int}{m:Mm}{u:List Int}(g:aU m=true)(h:UOk u)(ha:jH a):
 yl m=frN true m u/\yt m=frX true m u/\({frN true m u with p:=jR a (frN true m u).p (frX true m u)}:Mm)=frP true a m u/\oV a (frN true m u).p (frX true m u)=frY true a m u:=by
 have h1:=Yt true g h ha
 have e1:frN true m u=ji m:=rfl
 have e2:frX true m u=nzL m.se 8 40:=rfl
 have e3:yl m=ji m:=by unfold yl;rw[if_pos g]
 have e4:yt m=nzL m.se 8 40:=by unfold yt;rw[if_pos g]
 exact⟨by rw[e3,e1],by rw[e4,e2],h1⟩
def frK(q:Bool)(was now ps:List Int)(m:Mm):Nat->Mm
 |0=>m
 |s+1=>frP q (frA was now s) (frK q was now ps m s) (aX ps s)
def frZ(q:Bool)(was now ps:List Int)(m:Mm):Nat->List Int
 |0=>[]
 |s+1=>frZ q was now ps m s++frY q (frA was now s) (frK q was now ps m s) (aX ps s)
section
variable {q:Bool} {was now ps:List Int} {m:Mm}
theorem IG(k:m.ok)(h:cf ps 25=true)(hl:ps.length=25):∀n,n<=2->(frK q was now ps m n).ok
 |0,_=>k
 |n+1,hn=>QE q _ (IG k h hl n ah) (Ir h hl ah)
theorem QF(g:aU m=true)(h:cf ps 25=true)(hl:ps.length=25):∀n,n<=2->aU (frK q was now ps m n)=true
 |0,_=>g
 |n+1,hn=>Yr q _ (QF g h hl n ah) (Ir h hl ah)
theorem QG:∀n,(frK q was now ps m n).r=m.r
 |0=>rfl
 |n+1=>by rw[frK,IE,QG n]
theorem QH:∀n,(frK q was now ps m n).si=m.si
 |0=>rfl
 |n+1=>by rw[frK,agG,QH n]
theorem QI:∀n,(frZ q was now ps m n).length=40*n
 |0=>rfl
 |n+1=>by rw[frZ,gu,QI n,yC];omega
theorem agH(b:Bool)(m:Mm)(u:List Int):frN q {m with si:=b} u={frN q m u with si:=b}:=Nl
theorem agI(b:Bool)(a:List Int)(m:Mm)(u:List Int):frP q a {m with si:=b} u={frP q a m u with si:=b}:=by
 have hx:frX q {m with si:=b} u=frX q m u:=by unfold frX;split<;>rfl
 unfold frP
 rw[agH,hx]
theorem QJ(b:Bool):∀n,frK q was now ps {m with si:=b} n={frK q was now ps m n with si:=b}
 |0=>rfl
 |n+1=>by rw[frK,QJ b n,agI,frK]
theorem agJ(b:Bool)(a:List Int)(m:Mm)(u:List Int):frY q a {m with si:=b} u=frY q a m u:=by
 have hx:frX q {m with si:=b} u=frX q m u:=by unfold frX;split<;>rfl
 unfold frY
 rw[hx]
theorem Yv(b:Bool):∀n,frZ q was now ps {m with si:=b} n=frZ q was now ps m n
 |0=>rfl
 |n+1=>by rw[frZ,Yv b n,QJ,agJ,frZ]
end
def frQ(ps:List Int):Bool:=decide (ps.getD 0 0=2)
def fr0(m:Mm)(ps:List Int):Mm:=if ps.getD 0 0=1 then lX else m
def frE(m:Mm)(ps:List Int):Mm:=frK (frQ ps) (fr0 m ps).r (oG ps) ps {fr0 m ps with si:=frQ ps} 2
def frM(m:Mm)(ps:List Int):Mm:={frE m ps with r:=oG ps,er:=0}
def frO(m:Mm)(ps:List Int):List Int:=frZ (frQ ps) (fr0 m ps).r (oG ps) ps {fr0 m ps with si:=frQ ps} 2
theorem QK:aU lX=true:=aB
theorem QM{m:Mm}(g:aU m=true)(ps:List Int):aU (fr0 m ps)=true:=by
 unfold fr0
 split
 ·exact QK
 exact g
theorem DG{m:Mm}(k:m.ok)(ps:List Int):(fr0 m ps).ok:=by
 unfold fr0
 split
 ·exact CU
 exact k
theorem agK{m:Mm}(g:aU m=true)(b:Bool):aU {m with si:=b}=true:=g
theorem agL{m:Mm}{ps:List Int}(k:m.ok)(h:cf ps 25=true)(hl:ps.length=25):(frE m ps).ok:=by
 unfold frE
 exact IG (m:={fr0 m ps with si:=frQ ps}) ⟨(DG k ps).r,(DG k ps).p,(DG k ps).e⟩ h hl 2 (al0z _)
theorem yE{m:Mm}{ps:List Int}(k:m.ok)(h:cf ps 25=true)(hl:ps.length=25):(frM m ps).ok:=by
 have h1:=agL k h hl
 unfold frM
 generalize frE m ps=z at*
 exact⟨QB ps,h1.p,h1.e⟩
theorem yF(m:Mm)(ps:List Int):(frO m ps).length=80:=by unfold frO;rw[QI]
theorem Yw{m:Mm}(g:aU m=true)(ps:List Int):bM (fr0 m ps).r=true:=Iu (kM (QM g ps)).1
theorem QO{ps:List Int}(h:cf ps 25=true):bM (oG ps)=true:=Iu (agz h)
def ij(x:Int):Int:=if x<=1099511627776 then x else 1099511627776
def ju(c e:Int):Int:=if c<=0\/e<=0 then 0 else bD aY 16384 (ij c) (ij e) 8
theorem uK(i:Nat):0<=aY.getD i 0/\aY.getD i 0<=65536:=by
 by_cases h:i<8
 ·have:∀j,j<8->0<=aY.getD j 0/\aY.getD j 0<=65536:=aB
  exact this i h
 rw[bi,List.getElem?_eq_none (by simp[aY];omega)];simp
theorem ahn(c e:Int)(w:World)(T:TabA w 2 aY)(c1: -9223372036854775808<=c)(c2:c<=9223372036854775807)(e1: -9223372036854775808<=e)(e2:e<=9223372036854775807):
 Calls Tryz.prog 96 #[.int .i64 c,.int .i64 e] w fun e' w'=>e'=.returned (.int .i64 (ju c e))/\Below w.heap.size w w':=by
 by_cases h1:c<=0
 ·have FIN:=hid (show ju c e=0 by unfold ju;rw[if_pos (.inl h1)])
  clear T
  go_enter Tryz.func96,Tryz.ntmps96
  exact l55
 by_cases h2:e<=0
 ·have FIN:=hid (show ju c e=0 by unfold ju;rw[if_pos (.inr h2)])
  clear T
  go_enter Tryz.func96,Tryz.ntmps96
  exact l55
 have FIN:=hid (show ju c e=bD aY 16384 (ij c) (ij e) 8 by unfold ju;rw[if_neg ah])
 have TT:=hid T
 clear T
 have p1:0<c:=ah
 have p2:0<e:=ah
 clear h1 h2
 by_cases b1:c<=1099511627776
 ·by_cases b2:e<=1099511627776
  ·have FIN:=hid (show ju c e=bD aY 16384 c e 8 by rw[FIN.out];unfold ij;rw[if_pos b1,if_pos b2])
   go_enter Tryz.func96,Tryz.ntmps96
   go_wp2
   go_loopw[5,6] (fun bv iv wr=> ∃(k:Nat),1<=k/\k<=8/\iv=.int .i64 k/\bv=.int .i64 (bD aY 16384 (c) (e) k)/\Hid (Below w.heap.size w wr)) (fun _ iv _=>8-(intOf iv).toNat)
   case atStart=>exact⟨1,ah,ah,rfl,vw,hid (aA _ _)⟩
   case round=>
    obtain⟨k,hk1,hk,rfl,rfl,HB⟩:=hrel
    have nb:=rZ aY 16384 (c) (e) k
    have ST:=hid (rY aY 16384 (c) (e) (k:=k) ah)
    by_cases hlt:k<8
    ·generalize bD aY 16384 (c) (e) k=bst at*
     have TW:=TT.out.below HB.out
     have q0:=TW.cell k hlt
     have q1:=TW.cell (k-1) Oh
     have v0:=uK k
     have v1:=uK (k-1)
     generalize aY.getD k 0=y at*
     generalize aY.getD (k-1) 0=x at*
     obtain⟨m,hm⟩:∃m,m=k-1:=⟨_,rfl⟩
     rw[<-hm] at q1
     have mb:=sG (x:=y+x) (X:=131072) (y:=(e)) (Y:=1099511627776) ah ah ah ah
     have hw0:IntKind.i64.wrap ((k:Int)-1)=(m:Nat):=aN
     have hw1:IntKind.i64.wrap (y+x)=y+x:=aN
     have hw2:IntKind.i64.wrap (32768*(c))=32768*(c):=aN
     have hw3:IntKind.i64.wrap ((y+x)*(e))=(y+x)*(e):=aN
     have i1:(k:Int)<8:=ah
     have i2:(m:Int)<8:=ah
     have i3:(0:Int)<=m:=ah
     have i4:(0:Int)<=k:=ah
     have HM:=hid hm
     clear hm TW
     by_cases hgt:(y+x)*(e)<32768*(c)
     ·have HS2:=hid (show bD aY 16384 (c) (e) (k+1)=k from OH)
      have dd:decide ((y+x)*(e)<32768*(c))=true:=xq
      exact l13
     have HS2:=hid (show bD aY 16384 (c) (e) (k+1)=bst from OI)
     have dd:decide ((y+x)*(e)<32768*(c))=false:=xq
     exact l13
    exact l89
  have b3:1099511627776<e:=ah
  have FIN:=hid (show ju c e=bD aY 16384 c 1099511627776 8 by rw[FIN.out];unfold ij;rw[if_pos b1,if_neg b2])
  go_enter Tryz.func96,Tryz.ntmps96
  go_wp2
  go_loopw[5,6] (fun bv iv wr=> ∃(k:Nat),1<=k/\k<=8/\iv=.int .i64 k/\bv=.int .i64 (bD aY 16384 (c) (1099511627776) k)/\Hid (Below w.heap.size w wr)) (fun _ iv _=>8-(intOf iv).toNat)
  case atStart=>exact⟨1,ah,ah,rfl,vw,hid (aA _ _)⟩
  case round=>
   obtain⟨k,hk1,hk,rfl,rfl,HB⟩:=hrel
   have nb:=rZ aY 16384 (c) (1099511627776) k
   have ST:=hid (rY aY 16384 (c) (1099511627776) (k:=k) ah)
   by_cases hlt:k<8
   ·generalize bD aY 16384 (c) (1099511627776) k=bst at*
    have TW:=TT.out.below HB.out
    have q0:=TW.cell k hlt
    have q1:=TW.cell (k-1) Oh
    have v0:=uK k
    have v1:=uK (k-1)
    generalize aY.getD k 0=y at*
    generalize aY.getD (k-1) 0=x at*
    obtain⟨m,hm⟩:∃m,m=k-1:=⟨_,rfl⟩
    rw[<-hm] at q1
    have mb:=sG (x:=y+x) (X:=131072) (y:=(1099511627776)) (Y:=1099511627776) ah ah ah ah
    have hw0:IntKind.i64.wrap ((k:Int)-1)=(m:Nat):=aN
    have hw1:IntKind.i64.wrap (y+x)=y+x:=aN
    have hw2:IntKind.i64.wrap (32768*(c))=32768*(c):=aN
    have hw3:IntKind.i64.wrap ((y+x)*(1099511627776))=(y+x)*(1099511627776):=aN
    have i1:(k:Int)<8:=ah
    have i2:(m:Int)<8:=ah
    have i3:(0:Int)<=m:=ah
    have i4:(0:Int)<=k:=ah
    have HM:=hid hm
    clear hm TW
    by_cases hgt:(y+x)*(1099511627776)<32768*(c)
    ·have HS2:=hid (show bD aY 16384 (c) (1099511627776) (k+1)=k from OH)
     have dd:decide ((y+x)*(1099511627776)<32768*(c))=true:=xq
     exact l13
    have HS2:=hid (show bD aY 16384 (c) (1099511627776) (k+1)=bst from OI)
    have dd:decide ((y+x)*(1099511627776)<32768*(c))=false:=xq
    exact l13
   exact l89
 ·have b4:1099511627776<c:=ah
  by_cases b2:e<=1099511627776
  ·have FIN:=hid (show ju c e=bD aY 16384 1099511627776 e 8 by rw[FIN.out];unfold ij;rw[if_neg b1,if_pos b2])
   go_enter Tryz.func96,Tryz.ntmps96
   go_wp2
   go_loopw[5,6] (fun bv iv wr=> ∃(k:Nat),1<=k/\k<=8/\iv=.int .i64 k/\bv=.int .i64 (bD aY 16384 (1099511627776) (e) k)/\Hid (Below w.heap.size w wr)) (fun _ iv _=>8-(intOf iv).toNat)
   case atStart=>exact⟨1,ah,ah,rfl,vw,hid (aA _ _)⟩
   case round=>
    obtain⟨k,hk1,hk,rfl,rfl,HB⟩:=hrel
    have nb:=rZ aY 16384 (1099511627776) (e) k
    have ST:=hid (rY aY 16384 (1099511627776) (e) (k:=k) ah)
    by_cases hlt:k<8
    ·generalize bD aY 16384 (1099511627776) (e) k=bst at*
     have TW:=TT.out.below HB.out
     have q0:=TW.cell k hlt
     have q1:=TW.cell (k-1) Oh
     have v0:=uK k
     have v1:=uK (k-1)
     generalize aY.getD k 0=y at*
     generalize aY.getD (k-1) 0=x at*
     obtain⟨m,hm⟩:∃m,m=k-1:=⟨_,rfl⟩
     rw[<-hm] at q1
     have mb:=sG (x:=y+x) (X:=131072) (y:=(e)) (Y:=1099511627776) ah ah ah ah
     have hw0:IntKind.i64.wrap ((k:Int)-1)=(m:Nat):=aN
     have hw1:IntKind.i64.wrap (y+x)=y+x:=aN
     have hw2:IntKind.i64.wrap (32768*(1099511627776))=32768*(1099511627776):=aN
     have hw3:IntKind.i64.wrap ((y+x)*(e))=(y+x)*(e):=aN
     have i1:(k:Int)<8:=ah
     have i2:(m:Int)<8:=ah
     have i3:(0:Int)<=m:=ah
     have i4:(0:Int)<=k:=ah
     have HM:=hid hm
     clear hm TW
     by_cases hgt:(y+x)*(e)<32768*(1099511627776)
     ·have HS2:=hid (show bD aY 16384 (1099511627776) (e) (k+1)=k from OH)
      have dd:decide ((y+x)*(e)<32768*(1099511627776))=true:=xq
      exact l13
     have HS2:=hid (show bD aY 16384 (1099511627776) (e) (k+1)=bst from OI)
     have dd:decide ((y+x)*(e)<32768*(1099511627776))=false:=xq
     exact l13
    exact l89
  have b3:1099511627776<e:=ah
  have FIN:=hid (show ju c e=bD aY 16384 1099511627776 1099511627776 8 by rw[FIN.out];unfold ij;rw[if_neg b1,if_neg b2])
  go_enter Tryz.func96,Tryz.ntmps96
  go_wp2
  go_loopw[5,6] (fun bv iv wr=> ∃(k:Nat),1<=k/\k<=8/\iv=.int .i64 k/\bv=.int .i64 (bD aY 16384 (1099511627776) (1099511627776) k)/\Hid (Below w.heap.size w wr)) (fun _ iv _=>8-(intOf iv).toNat)
  case atStart=>exact⟨1,ah,ah,rfl,vw,hid (aA _ _)⟩
  case round=>
   obtain⟨k,hk1,hk,rfl,rfl,HB⟩:=hrel
   have nb:=rZ aY 16384 (1099511627776) (1099511627776) k
   have ST:=hid (rY aY 16384 (1099511627776) (1099511627776) (k:=k) ah)
   by_cases hlt:k<8
   ·generalize bD aY 16384 (1099511627776) (1099511627776) k=bst at*
    have TW:=TT.out.below HB.out
    have q0:=TW.cell k hlt
    have q1:=TW.cell (k-1) Oh
    have v0:=uK k
    have v1:=uK (k-1)
    generalize aY.getD k 0=y at*
    generalize aY.getD (k-1) 0=x at*
    obtain⟨m,hm⟩:∃m,m=k-1:=⟨_,rfl⟩
    rw[<-hm] at q1
    have mb:=sG (x:=y+x) (X:=131072) (y:=(1099511627776)) (Y:=1099511627776) ah ah ah ah
    have hw0:IntKind.i64.wrap ((k:Int)-1)=(m:Nat):=aN
    have hw1:IntKind.i64.wrap (y+x)=y+x:=aN
    have hw2:IntKind.i64.wrap (32768*(1099511627776))=32768*(1099511627776):=aN
    have hw3:IntKind.i64.wrap ((y+x)*(1099511627776))=(y+x)*(1099511627776):=aN
    have i1:(k:Int)<8:=ah
    have i2:(m:Int)<8:=ah
    have i3:(0:Int)<=m:=ah
    have i4:(0:Int)<=k:=ah
    have HM:=hid hm
    clear hm TW
    by_cases hgt:(y+x)*(1099511627776)<32768*(1099511627776)
    ·have HS2:=hid (show bD aY 16384 (1099511627776) (1099511627776) (k+1)=k from OH)
     have dd:decide ((y+x)*(1099511627776)<32768*(1099511627776))=true:=xq
     exact l13
    have HS2:=hid (show bD aY 16384 (1099511627776) (1099511627776) (k+1)=bst from OI)
    have dd:decide ((y+x)*(1099511627776)<32768*(1099511627776))=false:=xq
    exact l13
   exact l89
theorem aho(c e:Int)(w:World)(T:TabS w 1 aY)(c1: -9223372036854775808<=c)(c2:c<=9223372036854775807)(e1: -9223372036854775808<=e)(e2:e<=9223372036854775807):
 Calls Tryz.prog 125 #[.int .i64 c,.int .i64 e] w fun e' w'=>e'=.returned (.int .i64 (ju c e))/\Below w.heap.size w w':=by
 by_cases h1:c<=0
 ·have FIN:=hid (show ju c e=0 by unfold ju;rw[if_pos (.inl h1)])
  clear T
  go_enter Tryz.func125,Tryz.ntmps125
  exact l55
 by_cases h2:e<=0
 ·have FIN:=hid (show ju c e=0 by unfold ju;rw[if_pos (.inr h2)])
  clear T
  go_enter Tryz.func125,Tryz.ntmps125
  exact l55
 have FIN:=hid (show ju c e=bD aY 16384 (ij c) (ij e) 8 by unfold ju;rw[if_neg ah])
 obtain⟨A,cp,_,h0,hR,_⟩:=T
 have h0:w.cell? ⟨1,0,none⟩=some (.slice A 8 cp):=h0
 have p1:0<c:=ah
 have p2:0<e:=ah
 clear h1 h2
 have k1:0<ij c/\ij c<=1099511627776:=by unfold ij;split<;>omega
 have k2:0<ij e/\ij e<=1099511627776:=by unfold ij;split<;>omega
 have K:=hid (YY A cp 8 aY 16384 (ij c) (ij e) w hR rfl ah ah uK ah ah ah ah ah ah)
 clear hR k1 k2
 by_cases b1:c<=1099511627776
 ·have e1:ij c=c:=by unfold ij;rw[if_pos b1]
  by_cases b2:e<=1099511627776
  ·have e2:ij e=e:=by unfold ij;rw[if_pos b2]
   exact l29
  have e2:ij e=1099511627776:=by unfold ij;rw[if_neg b2]
  have b3:1099511627776<e:=ah
  exact l29
 ·have e1:ij c=1099511627776:=by unfold ij;rw[if_neg b1]
  have b4:1099511627776<c:=ah
  by_cases b2:e<=1099511627776
  ·have e2:ij e=e:=by unfold ij;rw[if_pos b2]
   exact l29
  have e2:ij e=1099511627776:=by unfold ij;rw[if_neg b2]
  have b3:1099511627776<e:=ah
  exact l29
def glF(k:Nat):Int:=glV (k:Nat)
def glL:List Int:=(List.range 32).map glF
theorem YZ:glL.length=32:=by simp[glL]
theorem zU{k:Nat}(h:k<32):glL.getD k 0=glV (k:Nat):=aT glF h
theorem uM(i:Nat):0<=glL.getD i 0/\glL.getD i 0<=32767:=by
 by_cases h:i<32
 ·rw[zU h];exact Dp _
 rw[bi,List.getElem?_eq_none (by rw[YZ];omega)];simp
def lj(x:Int):Int:=if x<=1152921504606846976 then x else 1152921504606846976
def jM(x:Int):Int:=if x<=17592186044416 then x else 17592186044416
def jl(c e:Int):Int:=if c<=0\/e<=0 then 0 else bD glL 1 (lj c) (jM e) 32
theorem ahp(c e:Int)(w:World)(T:TabA w 4 iy)(c1: -9223372036854775808<=c)(c2:c<=9223372036854775807)(e1: -9223372036854775808<=e)(e2:e<=9223372036854775807):
 Calls Tryz.prog 103 #[.int .i64 c,.int .i64 e] w fun e' w'=>e'=.returned (.int .i64 (jl c e))/\w=w':=by
 by_cases h1:c<=0
 ·have FIN:=hid (show jl c e=0 by unfold jl;rw[if_pos (.inl h1)])
  clear T
  go_enter Tryz.func103,Tryz.ntmps103
  exact l84
 by_cases h2:e<=0
 ·have FIN:=hid (show jl c e=0 by unfold jl;rw[if_pos (.inr h2)])
  clear T
  go_enter Tryz.func103,Tryz.ntmps103
  exact l84
 have FIN:=hid (show jl c e=bD glL 1 (lj c) (jM e) 32 by unfold jl;rw[if_neg ah])
 have KL:=hid (fun n=>Xh n w T)
 clear T
 have p1:0<c:=ah
 have p2:0<e:=ah
 clear h1 h2
 by_cases b1:c<=1152921504606846976
 ·by_cases b2:e<=17592186044416
  ·have FIN:=hid (show jl c e=bD glL 1 c e 32 by rw[FIN.out];unfold lj jM;rw[if_pos b1,if_pos b2])
   go_enter Tryz.func103,Tryz.ntmps103
   go_wp2
   go_loop [5,6] (fun bv iv=> ∃(k:Nat),1<=k/\k<=32/\iv=.int .i64 k/\bv=.int .i64 (bD glL 1 (c) (e) k)) (fun _ iv=>32-(intOf iv).toNat)
   case atStart=>exact⟨1,ah,ah,rfl,vw⟩
   case round=>
    obtain⟨k,hk1,hk,rfl,rfl⟩:=hrel
    have nb:=rZ glL 1 (c) (e) k
    have ST:=hid (rY glL 1 (c) (e) (k:=k) ah)
    by_cases hlt:k<32
    ·generalize bD glL 1 (c) (e) k=bst at*
     have K1:=KL.out ((k:Int)-1)
     have K2:=KL.out (k:Nat)
     rw[show glV ((k:Int)-1)=glL.getD (k-1) 0 from Oz] at K1
     rw[<-zU hlt] at K2
     have v0:=uM k
     have v1:=uM (k-1)
     generalize glL.getD k 0=y at*
     generalize glL.getD (k-1) 0=x at*
     have mb:=sG (x:=x+y) (X:=65534) (y:=(e)) (Y:=17592186044416) ah ah ah ah
     have hcomm:(y+x)*(e)=(x+y)*(e):=Oi
     obtain⟨mb1,mb2⟩:=mb
     have K1':=hid K1
     have K2':=hid K2
     clear K1 K2
     have l1:(k:Int)<=31:=ah
     by_cases hgt:(x+y)*(e)<2*(c)
     ·have HS2:=hid (show bD glL 1 (c) (e) (k+1)=k from OC)
      exact l10
     have HS2:=hid (show bD glL 1 (c) (e) (k+1)=bst from OE)
     exact l10
    obtain rfl:k=32:=ah
    exact l84
  have b3:17592186044416<e:=ah
  have FIN:=hid (show jl c e=bD glL 1 c 17592186044416 32 by rw[FIN.out];unfold lj jM;rw[if_pos b1,if_neg b2])
  go_enter Tryz.func103,Tryz.ntmps103
  go_wp2
  go_loop [5,6] (fun bv iv=> ∃(k:Nat),1<=k/\k<=32/\iv=.int .i64 k/\bv=.int .i64 (bD glL 1 (c) (17592186044416) k)) (fun _ iv=>32-(intOf iv).toNat)
  case atStart=>exact⟨1,ah,ah,rfl,vw⟩
  case round=>
   obtain⟨k,hk1,hk,rfl,rfl⟩:=hrel
   have nb:=rZ glL 1 (c) (17592186044416) k
   have ST:=hid (rY glL 1 (c) (17592186044416) (k:=k) ah)
   by_cases hlt:k<32
   ·generalize bD glL 1 (c) (17592186044416) k=bst at*
    have K1:=KL.out ((k:Int)-1)
    have K2:=KL.out (k:Nat)
    rw[show glV ((k:Int)-1)=glL.getD (k-1) 0 from Oz] at K1
    rw[<-zU hlt] at K2
    have v0:=uM k
    have v1:=uM (k-1)
    generalize glL.getD k 0=y at*
    generalize glL.getD (k-1) 0=x at*
    have mb:=sG (x:=x+y) (X:=65534) (y:=(17592186044416)) (Y:=17592186044416) ah ah ah ah
    have hcomm:(y+x)*(17592186044416)=(x+y)*(17592186044416):=Oi
    obtain⟨mb1,mb2⟩:=mb
    have K1':=hid K1
    have K2':=hid K2
    clear K1 K2
    have l1:(k:Int)<=31:=ah
    by_cases hgt:(x+y)*(17592186044416)<2*(c)
    ·have HS2:=hid (show bD glL 1 (c) (17592186044416) (k+1)=k from OC)
     exact l10
    have HS2:=hid (show bD glL 1 (c) (17592186044416) (k+1)=bst from OE)
    exact l10
   obtain rfl:k=32:=ah
   exact l84
 ·have b4:1152921504606846976<c:=ah
  by_cases b2:e<=17592186044416
  ·have FIN:=hid (show jl c e=bD glL 1 1152921504606846976 e 32 by rw[FIN.out];unfold lj jM;rw[if_neg b1,if_pos b2])
   go_enter Tryz.func103,Tryz.ntmps103
   go_wp2
   go_loop [5,6] (fun bv iv=> ∃(k:Nat),1<=k/\k<=32/\iv=.int .i64 k/\bv=.int .i64 (bD glL 1 (1152921504606846976) (e) k)) (fun _ iv=>32-(intOf iv).toNat)
   case atStart=>exact⟨1,ah,ah,rfl,vw⟩
   case round=>
    obtain⟨k,hk1,hk,rfl,rfl⟩:=hrel
    have nb:=rZ glL 1 (1152921504606846976) (e) k
    have ST:=hid (rY glL 1 (1152921504606846976) (e) (k:=k) ah)
    by_cases hlt:k<32
    ·generalize bD glL 1 (1152921504606846976) (e) k=bst at*
     have K1:=KL.out ((k:Int)-1)
     have K2:=KL.out (k:Nat)
     rw[show glV ((k:Int)-1)=glL.getD (k-1) 0 from Oz] at K1
     rw[<-zU hlt] at K2
     have v0:=uM k
     have v1:=uM (k-1)
     generalize glL.getD k 0=y at*
     generalize glL.getD (k-1) 0=x at*
     have mb:=sG (x:=x+y) (X:=65534) (y:=(e)) (Y:=17592186044416) ah ah ah ah
     have hcomm:(y+x)*(e)=(x+y)*(e):=Oi
     obtain⟨mb1,mb2⟩:=mb
     have K1':=hid K1
     have K2':=hid K2
     clear K1 K2
     have l1:(k:Int)<=31:=ah
     by_cases hgt:(x+y)*(e)<2*(1152921504606846976)
     ·have HS2:=hid (show bD glL 1 (1152921504606846976) (e) (k+1)=k from OC)
      exact l10
     have HS2:=hid (show bD glL 1 (1152921504606846976) (e) (k+1)=bst from OE)
     exact l10
    obtain rfl:k=32:=ah
    exact l84
  have b3:17592186044416<e:=ah
  have FIN:=hid (show jl c e=bD glL 1 1152921504606846976 17592186044416 32 by rw[FIN.out];unfold lj jM;rw[if_neg b1,if_neg b2])
  go_enter Tryz.func103,Tryz.ntmps103
  go_wp2
  go_loop [5,6] (fun bv iv=> ∃(k:Nat),1<=k/\k<=32/\iv=.int .i64 k/\bv=.int .i64 (bD glL 1 (1152921504606846976) (17592186044416) k)) (fun _ iv=>32-(intOf iv).toNat)
  case atStart=>exact⟨1,ah,ah,rfl,vw⟩
  case round=>
   obtain⟨k,hk1,hk,rfl,rfl⟩:=hrel
   have nb:=rZ glL 1 (1152921504606846976) (17592186044416) k
   have ST:=hid (rY glL 1 (1152921504606846976) (17592186044416) (k:=k) ah)
   by_cases hlt:k<32
   ·generalize bD glL 1 (1152921504606846976) (17592186044416) k=bst at*
    have K1:=KL.out ((k:Int)-1)
    have K2:=KL.out (k:Nat)
    rw[show glV ((k:Int)-1)=glL.getD (k-1) 0 from Oz] at K1
    rw[<-zU hlt] at K2
    have v0:=uM k
    have v1:=uM (k-1)
    generalize glL.getD k 0=y at*
    generalize glL.getD (k-1) 0=x at*
    have mb:=sG (x:=x+y) (X:=65534) (y:=(17592186044416)) (Y:=17592186044416) ah ah ah ah
    have hcomm:(y+x)*(17592186044416)=(x+y)*(17592186044416):=Oi
    obtain⟨mb1,mb2⟩:=mb
    have K1':=hid K1
    have K2':=hid K2
    clear K1 K2
    have l1:(k:Int)<=31:=ah
    by_cases hgt:(x+y)*(17592186044416)<2*(1152921504606846976)
    ·have HS2:=hid (show bD glL 1 (1152921504606846976) (17592186044416) (k+1)=k from OC)
     exact l10
    have HS2:=hid (show bD glL 1 (1152921504606846976) (17592186044416) (k+1)=bst from OE)
    exact l10
   obtain rfl:k=32:=ah
   exact l84
theorem ahq(c e:Int)(w:World)(T:TabS w 5 iy)(c1: -9223372036854775808<=c)(c2:c<=9223372036854775807)(e1: -9223372036854775808<=e)(e2:e<=9223372036854775807):
 Calls Tryz.prog 130 #[.int .i64 c,.int .i64 e] w fun e' w'=>e'=.returned (.int .i64 (jl c e))/\Below w.heap.size w w':=by
 by_cases h1:c<=0
 ·have FIN:=hid (show jl c e=0 by unfold jl;rw[if_pos (.inl h1)])
  clear T
  go_enter Tryz.func130,Tryz.ntmps130
  exact l55
 by_cases h2:e<=0
 ·have FIN:=hid (show jl c e=0 by unfold jl;rw[if_pos (.inr h2)])
  clear T
  go_enter Tryz.func130,Tryz.ntmps130
  exact l55
 have FIN:=hid (show jl c e=bD glL 1 (lj c) (jM e) 32 by unfold jl;rw[if_neg ah])
 have KL:=hid (fun n w' (h:Below w.heap.size w w')=>YX n w' (T.below' h (al0z _)))
 clear T
 have p1:0<c:=ah
 have p2:0<e:=ah
 clear h1 h2
 have k1:0<lj c/\lj c<=1152921504606846976:=by unfold lj;split<;>omega
 have k2:0<jM e/\jM e<=17592186044416:=by unfold jM;split<;>omega
 have K:=hid (fun W A cp (hR:Rs W W.heap.size A glL)=>YY A cp 32 glL 1 (lj c) (jM e) W hR YZ ah ah (fun i=>by have:=uM i;omega) ah ah ah ah ah ah)
 clear k1 k2
 go_enter Tryz.func130,Tryz.ntmps130
 go_wp2
 go_loopw[5,6] (fun ov iv wr=> ∃(k:Nat) (A:Option Addr) (cp:Nat),k<=32/\iv=.int .i64 k/\ov=.slice A k cp/\Hid (Own wr w.heap.size A cp ((List.range k).map glF))/\Hid (Below w.heap.size w wr)) (fun _ iv _=>32-(intOf iv).toNat)
 case atStart=>exact⟨0,none,0,ah,rfl,rfl,hid Own.nil,hid (aA _ _)⟩
 case round=>
  obtain⟨k,A,cp,hk,rfl,rfl,HO,HB⟩:=hrel
  by_cases hlt:k<32
  ·have KK:=KL.out (k:Nat) wr HB.out
   unfold DU at KK
   rw[show glV (k:Nat)=glF k from rfl] at KK
   generalize hx:glF k=x at*
   have HX:=hid hx
   have KK':=hid KK
   clear hx KK
   go_wp2_with fail
   refine KK'.out.mono ?_
   rintro e' w1 ⟨rfl,hB⟩
   have O1:=hid (HO.out.below hB)
   have B1:=hid (HB.out.trans (hB.mono HB.out.size))
   clear hB HO
   go_wp2_with(at_builtin;refine vP rfl (.tmp 24) (.tmp 26) rfl w.heap.size A cp k ((List.range k).map glF) rfl az (O1.out.alloc _) ⟨w1.heap.size,0,none⟩ x rfl (mW w1 _ _) ah (gJ B1.out.size az) ?_;intro A2 c2 w2 hO hG hA;have O2:=hid hO;have G2:=hid hG;clear hO hG hA)
   have N1:=hid (show Own w2 w.heap.size A2 c2 ((List.range (k+1)).map glF) by rw[<-CP,HX.out];exact O2.out)
   have N4:=hid (uB (B1.out.alloc B1.out.size _) (O1.out.alloc _) G2.out (gJ B1.out.size az))
   go_wp2
   go_roundw
   case rel=>exact⟨k+1,A2,c2,ah,aO,rfl,N1,N4⟩
   case measure=>simp[intOf]<;>omega
  obtain rfl:k=32:=ah
  rw[show(List.range 32).map glF=glL from rfl] at HO
  clear hlt KL
  by_cases b1:c<=1152921504606846976
  ·have q1:lj c=c:=by unfold lj;rw[if_pos b1]
   by_cases b2:e<=17592186044416
   ·have q2:jM e=e:=by unfold jM;rw[if_pos b2]
    exact l27
   have q2:jM e=17592186044416:=by unfold jM;rw[if_neg b2]
   have b3:17592186044416<e:=ah
   exact l27
  have q1:lj c=1152921504606846976:=by unfold lj;rw[if_neg b1]
  have b4:1152921504606846976<c:=ah
  by_cases b2:e<=17592186044416
  ·have q2:jM e=e:=by unfold jM;rw[if_pos b2]
   exact l27
  have q2:jM e=17592186044416:=by unfold jM;rw[if_neg b2]
  have b3:17592186044416<e:=ah
  exact l27
theorem zV(a p l:List Int)(A0:Option Addr)(c0 n:Nat)(w:World)(ha:a.length=9)(hp:p.length=8)(hr:Rs w w.heap.size A0 l)(hn:l.length=n)(hl:n<=17592186044000)(hc:n<=c0):
 Calls Tryz.prog 57 #[.agg (agi a),.agg (agi p),.slice A0 n c0] w (qW w (if di a p l then dF a p l n else[]) (if di a p l then dY p (dF a p l n) else Z8) (aZ (di a p l))):=by
 have hR:=Je (fn:=Tryz.f57) (p:=6) (q:=7) (r:=8) (ty:=22) rfl
 have S0:=Sx.start w a p
 have R0:=hr.below S0.bel
 rw[bW] at S0
 rw[bW] at R0
 have S0:=hid S0
 have R0:=hid R0
 have HA:=hid ha
 have HP:=hid hp
 have HN:=hid hn
 have HR:=hid hr
 have KG:=hid (fun(W:World) (hW:Rs W W.heap.size A0 l)=>ahv a p l A0 c0 n 0 W ha hp hW hn ah)
 clear ha hp hn hr
 obtain⟨Y,hY⟩:∃Y,Y=(if di a p l then dF a p l n else[]):=⟨_,rfl⟩
 obtain⟨Z,hZ⟩:∃Z,Z=(if di a p l then dY p (dF a p l n) else Z8):=⟨_,rfl⟩
 rw[<-hY,<-hZ]
 have HYY:=hid hY
 have HZZ:=hid hZ
 clear hY hZ
 go_enter Tryz.func57,Tryz.ntmps57
 go_wp2_with(first
  |(refine aK rfl 90 (.tmp 3) rfl _ 90 a 9 _ rfl S0.out.A Tryz.underlying90 rfl bC HA.out ?_)
  |(refine aK rfl 22 (.tmp 4) rfl _ 22 p 8 _ rfl S0.out.P Tryz.underlying22 rfl aH HP.out ?_))
 refine(KG.out _ (R0.out.more aJ)).mono ?_
 rintro e w1 ⟨rfl,hB⟩
 have S1:=hid (S0.out.below hB)
 clear hB S0 R0 KG
 by_cases hg:di a p l=true
 ·have HG:=hid hg
  rw[hg]
  have y1:=HYY.out
  have z1:=HZZ.out
  rw[if_pos hg] at y1 z1
  have HY1:=hid y1
  have HZ1:=hid z1
  clear y1 z1
  obtain⟨ga,gz,gp,gl⟩:okP a=true/\a.getD 0 0=4096/\aG p=true/\aG l=true:=by simpa[di] using hg
  have GA:=hid ga
  have GP:=hid gp
  have GL:=hid gl
  clear hg ga gz gp gl
  go_wp2
  go_loopw[9,20] (fun ov iv wr=> ∃(k:Nat) (A:Option Addr) (c:Nat) (ys:List Int),k<=n/\iv=.int .i64 k/\ov=.slice A k c/\Hid (ys=dF a p l k)/\Hid (Own wr (w.heap.size+3) A c ys)/\Hid (Sx w wr a p)) (fun _ iv _=>n-(intOf iv).toNat)
  case atStart=>exact⟨0,none,0,[],ah,rfl,rfl,hid rfl,hid Own.nil,S1⟩
  case round=>
   clear S1
   obtain⟨k,A,c,ys,hk,rfl,rfl,HY,HO,HS⟩:=hrel
   have YL:=hid (show ys.length=k by rw[HY.out,zE])
   by_cases hlt:k<n
   ·obtain⟨ad,rfl,hadb,c1⟩:=(HR.out.below HS.out.bel).at_ (k:=k) iE
    have xb:=fP GL.out k
    have YT:=hid (show ys.take k=ys from List.take_of_length_le (by rw[YL.out];exact al0z _))
    have q16:=hid (show aG (dY p ys)=true from Dc _ _ GP.out (by rw[HY.out];exact yw _ _ _ _))
    have KC:=hid (show k<=c from by have:=HO.out.cap.1;rw[YL.out] at this;exact this)
    have YN:=hid (show ys++[s16 (l.getD k 0-ni a (dY p ys))]=dF a p l (k+1) by rw[dF,<-HY.out])
    obtain⟨x,hx⟩:∃x,x=l.getD k 0:=⟨_,rfl⟩
    rw[<-hx] at c1 xb YN
    have gb:=WV GA.out q16.out
    have K1:=hid (fun W hW=>ahw a p ys A c k k W HA.out HP.out GA.out GP.out (by rw[HY.out];exact yw _ _ _ _) hW YL.out ah (al0z _) KC.out)
    rw[YT.out] at K1
    generalize ni a (dY p ys)=g at*
    obtain⟨x1,x2⟩:=xb
    obtain⟨g1,g2⟩:=gb
    have hw1:IntKind.i64.wrap (x-g)=x-g:=aN
    have RO:=hid (HO.out.reads)
    obtain⟨y,hy⟩:∃y,y=s16 (x-g):=⟨_,rfl⟩
    rw[<-hy] at YN
    have HX:=hid hx
    have KS:=hid (fun W=>qH (x-g) W ah ah)
    rw[<-hy] at KS
    clear hx hy
    go_wp2_with(first
     |(refine aK rfl 90 (.tmp 3) rfl _ 90 a 9 _ rfl HS.out.A Tryz.underlying90 rfl bC HA.out ?_)
     |(refine aK rfl 22 (.tmp 4) rfl _ 22 p 8 _ rfl HS.out.P Tryz.underlying22 rfl aH HP.out ?_))
    refine(K1.out _ RO.out).mono ?_
    rintro e w2 ⟨rfl,hB⟩
    have S2:=hid (HS.out.below hB)
    have O2:=hid (HO.out.below hB)
    clear hB HS HO c1
    go_wp2_with fail
    refine(KS.out _).mono ?_
    rintro e w3 ⟨rfl,hB⟩
    have S3:=hid (S2.out.below hB)
    have O3:=hid (O2.out.below hB)
    clear hB S2 O2
    go_wp2_with(at_builtin;refine vP rfl (.tmp 25) (.tmp 34) rfl (w.heap.size+3) A c k ys rfl YL.out (O3.out.alloc _) ⟨w3.heap.size,0,none⟩ y rfl (mW w3 _ _) ah (gJ S3.out.lt az) ?_;intro A2 c2 w5 hO hG hA;have O5:=hid hO;have G5:=hid hG;clear hO hG hA)
    have S5:=hid ((S3.out.alloc _).grown (O3.out.alloc _) G5.out)
    go_wp2
    go_roundw
    case rel=>exact⟨k+1,A2,c2,_,ah,aO,rfl,YN,O5,S5⟩
    case measure=>simp[intOf]<;>omega
   obtain rfl:k=n:=ah
   have FY:=hid (show Y=ys by rw[HY1.out,HY.out])
   have KC:=hid (show k<=c from by have:=HO.out.cap.1;rw[YL.out] at this;exact this)
   have KN:=hid (fun(W:World) (hW:Rs W W.heap.size A ys)=>Y0 p ys A c k 0 W HP.out hW YL.out ah)
   have FZ:=hid (show Z=dY p ys by rw[HZ1.out,HY.out])
   have ZL:=hid (show(dY p ys).length=8 from qK _ _ HP.out)
   have RO:=hid (HO.out.reads)
   go_wp2_with(refine aK rfl 22 (.tmp 4) rfl _ 22 p 8 _ rfl HS.out.P Tryz.underlying22 rfl aH HP.out ?_)
   refine(KN.out _ RO.out).mono ?_
   rintro e w2 ⟨rfl,hB⟩
   have S2:=hid (HS.out.below hB)
   have O2:=hid (HO.out.below hB)
   clear hB HS HO
   go_wp2_with(refine aP rfl 22 (.tmp 7) (.tmp 40) rfl _ 22 Z8 (dY p ys) 8 rfl rfl S2.out.R aH rfl ZL.out ?_)
   refine bg (v:=_) (hR _ _ _ 22 (dY p ys) _ 8 rfl (IB.setRow S2.out.R _) Tryz.underlying22 rfl aH ZL.out) rfl ?_
   exact⟨A,c,by rw[FY.out,FZ.out,YL.out,HG.out];rfl,by rw[FY.out];exact(O2.out.setRow ah _).more ah,aS S2.out.bel ah _⟩
 ·have hb:di a p l=false:=by simpa using hg
  rw[hb]
  have hRow:=hid (S1.out.R)
  go_wp2_with(refine aP rfl 22 (.tmp 7) (.tmp 17) rfl _ 22 Z8 Z8 8 rfl rfl S1.out.R aH rfl rfl ?_)
  exact l75
section
variable {w w' wr:World} {g:Nat} {m:Mm}
theorem MB.thereP(h:MB w g m)(k:m.ok):w.there g 8 8:=fun j hj=>by
 have h1:=h.there k (8+j) ah
 rwa [Nat.zero_add] at h1
theorem MB.set_p(h:MB w g m)(k:m.ok)(p:List Int)(hp:p.length=8):MB (w.setCells g 8 (aj p)) g {m with p:=p}:=by
 have h0:Blk w g 25 (aj m.r++(aj m.p++(aj m.e++m.tl))).toArray:=by
  have e1:m.ag=(aj m.r++(aj m.p++(aj m.e++m.tl))).toArray:=rfl
  rw[<-e1];exact h
 have h1:=vT (aj p) (aj m.p) _ _ w h0 (by rw[aQ,aQ,hp,k.p])
 have hl:(aj m.r).length=8:=Oe
 rw[hl] at h1
 exact h1
theorem Ee{fn:Func}{p q:Tmp}(h:fn.results= #[.cell p 25,.tmp q])(tmps:Array Value)(w:World)(g:Nat)(m:Mm)
 (hp:tmps.getD p undef=.pointer (some ⟨g,0,none⟩)) (hg:MB w g m) (k:m.ok):
 (results fn tmps).run Tryz.prog w=.ok (.tuple #[.agg m.ag,tmps.getD q undef]) w:=by
 have hp':tmps[p]?.getD undef=.pointer (some ⟨g,0,none⟩):=uu
 have hr:=run_loadVar_row (P:=Tryz.prog) w g 25 25 m.ag (0,0) _ hg Tryz.underlying25 rfl Nz
 simp[results,h,hp',asAddr,hr]
theorem pO(w:World):MB (w.alloc (.cells Tryz.zeroCells25 25)) w.heap.size bZ:=UD
end
structure Py(w wr:World)(m:Mm)(a:List Int):Prop where
 A:MB wr w.heap.size m
 F:IB wr (w.heap.size+1) 90 a
 R:MB wr (w.heap.size+2) bZ
 bel:Below w.heap.size w wr
theorem Py.start(w:World)(m:Mm)(a:List Int):Py w (((w.alloc (.cells m.ag 25)).alloc (.cells (agi a) 90)).alloc (.cells Tryz.zeroCells25 25)) m a:=by
 have h1:=MB.new w m
 have h2:=IB.new (w.alloc (.cells m.ag 25)) 90 a
 have h3:=pO ((w.alloc (.cells m.ag 25)).alloc (.cells (agi a) 90))
 exact l43
theorem Py.below{w wr w':World}{m:Mm}{a:List Int}(s:Py w wr m a)(hb:Below wr.heap.size wr w'):Py w w' m a:=
 ⟨Blk.below' s.A hb,Blk.below' s.F hb,Blk.below' s.R hb,s.bel.trans (hb.mono s.bel.size)⟩
theorem Py.lt{w wr:World}{m:Mm}{a:List Int}(s:Py w wr m a):w.heap.size+3<=wr.heap.size:=Blk.lt s.R
def jW(w:World)(mm:Mm)(ys:List Int)(e:Ending)(w':World):Prop:=∃A c,e=.returned (.tuple #[.agg mm.ag,.slice A ys.length c])/\Own w' w.heap.size A c ys/\Below w.heap.size w w'
theorem ZU(m:Mm)(k:m.ok)(a x:List Int)(A:Option Addr)(c n:Nat)(w:World)(ha:a.length=9)(hr:Rs w w.heap.size A x)(hn:x.length=n)(hl:n<=40):
 Calls Tryz.prog 68 #[.agg m.ag,.agg (agi a),.slice A n c] w (jW w {m with p:=jR a m.p x} (oV a m.p x)):=by
 have hR:=Ee (fn:=Tryz.f68) (p:=6) (q:=7) rfl
 have S0:=hid (Py.start w m a)
 have K:=hid k
 have HA:=hid ha
 have QL:=hid (W9 (a:=a) (x:=x) k.p)
 have HX:=hid ((hr.below S0.out.bel).more S0.out.bel.size)
 have KM:=hid (fun W (hr:Rs W W.heap.size A x)=>show Calls Tryz.prog 90 #[.agg (agi a),.agg (aj m.p).toArray,.slice A n c] W (qW W (oV a m.p x) (jR a m.p x) (aZ (di a m.p x))) from by
  have:=Rk a m.p x A c n W ha k.p hr hn ah
  unfold oV jR
  rw[hn]
  exact this)
 have hi8:(Tryz.prog.info? 22).map (·.size)=some (aj m.p).length:=by rw[aQ,k.p];exact yj
 have HI8:=hid hi8
 clear k ha hr hn hi8
 generalize hq:jR a m.p x=q at*
 generalize hy:oV a m.p x=y at*
 generalize aZ (di a m.p x)=er at*
 clear hq hy
 go_enter Tryz.func68,Tryz.ntmps68
 go_wp2_with(first
  |(refine aK rfl 90 (.tmp 4) rfl _ 90 a 9 _ rfl S0.out.F Tryz.underlying90 rfl bC HA.out ?_)
  |(refine bI rfl 22 (.tmp 13) rfl _ _ rfl (aj m.p) _ (S0.out.A.P K.out) Tryz.underlying22 rfl HI8.out ?_))
 refine(KM.out _ HX.out).mono ?_
 rintro e w1 ⟨A1,c1,rfl,hO,hB⟩
 have S1:=hid (S0.out.below hB)
 have LT0:=hid S0.out.lt
 have O1:=hid (hO.more (base':=w.heap.size+3) LT0.out)
 clear hO hB S0 HX KM
 have K2:=hid (show({m with p:=q}:Mm).ok from⟨K.out.r,QL.out,K.out.e⟩)
 have B2:=hid (bT w1 (.cells (agi Z8) 22) (agi q))
 obtain⟨w2,hw2⟩:∃w2,w2=(w1.alloc (.cells (agi Z8) 22)).setRow w1.heap.size (agi q):=⟨_,rfl⟩
 rw[<-hw2] at B2
 have S2:=hid (S1.out.below B2.out)
 have Q2:=hid (show IB w2 w1.heap.size 22 q by rw[hw2];exact IB.stored w1 22 Z8 q)
 have O2:=hid (O1.out.below B2.out)
 rw[bW] at hw2
 have HW2:=hid hw2
 clear hw2
 obtain⟨w3,hw3⟩:∃w3,w3=w2.setCells w.heap.size 8 (aj q):=⟨_,rfl⟩
 have S3:=hid (show Py w w3 {m with p:=q} a by
  rw[hw3]
  exact⟨S2.out.A.set_p K.out q QL.out,dh ah _ _ _ S2.out.F,dh ah _ _ _ S2.out.R,iM (al0z _) _ _ _ S2.out.bel⟩)
 have O3:=hid (show Own w3 (w.heap.size+3) A1 c1 y by rw[hw3];exact Own.setCs ah _ _ _ O2.out)
 have HW3:=hid hw3
 clear hw3
 have hRow:=hid (MB.setRow S3.out.R {m with p:=q})
 have FIN:=hid (aS S3.out.bel (g:=w.heap.size+2) ah ({m with p:=q}:Mm).ag)
 have OF:=hid ((O3.out.setRow (g:=w.heap.size+2) ah ({m with p:=q}:Mm).ag).more (base':=w.heap.size) ah)
 have SZ:=hid (show(Tryz.prog.info? 22).map (·.size)=some (agi q).size from by rw[dV,QL.out];exact yj)
 have TH:=hid (show w2.there w.heap.size 8 (agi q).size from by rw[dV,QL.out];exact S2.out.A.thereP K.out)
 go_wp2_with(first
  |(refine aP rfl 22 (.tmp 9) (.tmp 18) rfl _ 22 Z8 q 8 rfl rfl (IB.new w1 22 Z8) yj rfl QL.out ?_;rw[<-HW2.out])
  |(refine aK rfl 22 (.tmp 9) rfl _ 22 q 8 _ rfl Q2.out Tryz.underlying22 rfl yj QL.out ?_)
  |(refine jd rfl 22 (.tmp 21) (.tmp 20) rfl w.heap.size 8 (agi q) rfl rfl TH.out SZ.out (gG _) ?_;rw[show(agi q).toList=aj q from rfl,<-HW3.out])
  |(refine oU rfl (.tmp 3) rfl _ {m with p:=q} rfl S3.out.A K2.out ?_)
  |(refine iO rfl (.tmp 6) (.tmp 22) rfl _ bZ {m with p:=q} rfl rfl S3.out.R jF K2.out ?_))
 refine bg (v:=_) (hR _ _ _ {m with p:=q} rfl hRow.out K2.out) rfl ?_
 exact⟨A1,c1,rfl,OF.out,FIN.out⟩
section
variable {w wr w':World} {m mm:Mm} {g:Nat} {a:List Int}
end
end Go.Proofs.YthoiikkjjaldnaaGreatDoor
