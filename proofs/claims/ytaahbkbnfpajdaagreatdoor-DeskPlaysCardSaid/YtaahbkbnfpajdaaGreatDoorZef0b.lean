/- Lemmas. -/
import Derived.Test.YtaahbkbnfpajdaaGreatDoorZef0j
import Derived.Test.YtaahbkbnfpajdaaGreatDoorZef0c
import Derived.Test.YtaahbkbnfpajdaaGreatDoorZef05
namespace Go.Proofs.YtaahbkbnfpajdaaGreatDoor
set_option linter.all false
set_option maxRecDepth 100000
set_option maxHeartbeats 8000000
open Go.RowKit
variable{xs a u ps ring l:Lz}{m:Mm}{j s i c:Nat}{n:Int}{t:TypeId}{w:Wd}{f:Nat->Int}
theorem nN(h:aG xs=true):W64 xs:=fun x a=>by
 unfold aG at h;have:=List.all_eq_true.1 h x a;unfold gY at this;simp at this;omega
theorem ak4(m:Mm)(k:m.ok)(a:W64 m.nums)(w:Wd):Cl 132 #[.agg m.ag] w (NewM w (Ak m) (Am m) (bz (aO m))):=by
 have hR:=yC (fn:=Tryz.f132) (p:=2) (q:=3) (r:=4) rfl;have y:=af (Ms.start w m);have K:=af k;have F:=af (fun W=>Iz m k a W);have Z:=af (fun W=>WW 8 40 m.se W ah (a m.se (by unfold Mm.nums;simp)).1 (a m.se (by unfold Mm.nums;simp)).2);have NL:=af (oM m.se 8 40);have KL:=af (pG k.e (oM m.se 8 40));have Y:=aj (Ak m=if aO m then kZ m else aZ) (rfl);have B:=aj (Am m=if aO m then nzL m.se 8 40 else[]) (rfl);have U:=af (fun W A c (h:Rs W W.heap.size A (nzL m.se 8 40))=>show Cl 123 #[.agg (au m.e).toArray,.slice A 40 c] W (Ag W m.e (nzL m.se 8 40) 40) from WY m.e _ A c 40 W k.e h (oM _ _ _) ah (nN (WV _ _ _)));have j:(Tryz.prog.info? 53).map (·.size)=some (au m.e).length:=FI;have n:=af j;clear k j a;go_enter Tryz.func132,Tryz.ntmps132;go_wp2_with(refine iK rfl (.tmp 1) rfl _ m rfl y.o.A K.o ?_);refine(F.o _).mono ?_;rintro e w1 ⟨rfl,b⟩;have d:=af (y.o.below b);clear b y F;cases G:aO m with
 |false=>
  have HG:=af G;clear G;have I:=af (MB.setRow d.o.R aZ);have D:=af (aS d.o.bel (g:=w.heap.size+1) ah aZ.ag);go_wp2_with(refine dW rfl (.tmp 2) (.tmp 10) rfl _ aZ aZ rfl (iI Value.agg vw) d.o.R df df ?_);exact ah1
 |true=>
  have HG:=af G;clear G;have cse:=d.o.A.cse K.o;go_wp2_with fail;refine(Z.o _).mono ?_;rintro e w2 ⟨A2,c2,rfl,Q,b⟩;have z:=af (d.o.below b);have P:=af d.o.lt;have O2:=af Q;clear b Q;have N:=z.o.A.cse K.o;have O:=MB.frozen z.o.A 100;have C:=af (z.o.se K.o (nzE m.se 40));have x:=af (Own.setC (g:=w.heap.size) O2.o uT 100 (.int .i64 (nzE m.se 40)));obtain⟨w3,f⟩:=ak (w2.setCell ⟨w.heap.size,100,none⟩ (.int .i64 (nzE m.se 40)));rw[<-f] at C x;have t:=af f;clear f P;have V:=af (K.o.se (nzE m.se 40));go_wp2_with(first
   |(rw[<-t.o])
   |(refine bZ rfl 53 (.tmp 20) rfl _ _ rfl (au m.e) _ (C.o.A.E V.o) iV rfl n.o ?_))
  refine(U.o w3 A2 c2 x.o.reads).mono ?_;rintro e S ⟨rfl,b⟩;have L:=af (C.o.below b);have O4:=af (x.o.below b);have P:=af d.o.lt;clear b;have T:=aj (vk m.e (nzL m.se 8 40) 40=bi m.e (nzL m.se 8 40)) (rfl);rw[T.o];have M:=af (L.o.ex V.o _ KL.o);have J:=af (Own.setCs (g:=w.heap.size) uT (au (bi m.e (nzL m.se 8 40))) 16 _ O4.o);obtain⟨w5,l⟩:=ak (S.setCells w.heap.size 16 (au (bi m.e (nzL m.se 8 40))));rw[<-l] at M J;have u:=af l;clear l;have s:=aj (Ms w w5 (kZ m)) (M.o);have i:=af (WZ K.o);have I:=af (MB.setRow s.o.R (kZ m));have D:=af (aS s.o.bel (g:=w.heap.size+1) ah (kZ m).ag);have OF:=af ((J.o.setRow (g:=w.heap.size+1) uT (kZ m).ag).more (base':=w.heap.size) uT);have X:=aj ((Tryz.prog.info? 53).map (·.size)=some (agi (bi m.e (nzL m.se 8 40))).size) (MF);have H:=aj (S.there w.heap.size 16 (agi (bi m.e (nzL m.se 8 40))).size) (by rw[dX,KL.o];exact L.o.A.thereE V.o);go_wp2_with(first
   |(refine iY rfl 53 (.tmp 26) (.tmp 24) rfl w.heap.size 16 (agi (bi m.e (nzL m.se 8 40))) rfl rfl H.o X.o (ik _) ?_;rw[show(agi (bi m.e (nzL m.se 8 40))).toList=au (bi m.e (nzL m.se 8 40)) from rfl,<-u.o])
   |(refine iK rfl (.tmp 1) rfl _ (kZ m) rfl s.o.A i.o ?_)
   |(refine dW rfl (.tmp 2) (.tmp 27) rfl _ aZ (kZ m) rfl rfl s.o.R df i.o ?_))
  exact ais
def mg(m:Mm):Lz:=exL (jZ m.r) 32440
def oO(a p x:Lz):Lz:=if dZ a p x then eG a p x x.length else[]
def lI(a p x:Lz):Lz:=if dZ a p x then fH p (eG a p x x.length) else Z8
def stM(a:Lz)(m:Mm)(s:Int):Mm:={jQ m s with p:=lI a (jQ m s).p (lg m s)}
def stY(a:Lz)(m:Mm)(s:Int):Lz:=oO a (jQ m s).p (lg m s)
def coM(m:Mm):Mm:=if aO m then stM (mg m) (stM (mg m) m 0) 1 else aZ
def coY(m:Mm):Lz:=if aO m then stY (mg m) m 0++stY (mg m) (stM (mg m) m 0) 1 else[]
theorem Xr{p x:Lz}(b:p.length=8):(lI a p x).length=8:=by
 unfold lI;split
 ·exact tC _ _ b
 rfl
theorem alp(a p x:Lz):(oO a p x).length<=x.length:=by
 unfold oO;split
 ·rw[yF];exact ax _
 simp
theorem II(k:m.ok)(a:Lz)(s:Int):(stM a m s).ok:=⟨(IE k s).r,Xr (IE k s).p,(IE k s).e⟩
theorem Xt(a:Lz)(m:Mm)(s:Int):(stY a m s).length<=40:=dL (alp _ _ _) (Xf m s)
theorem Xu(k:m.ok):(coM m).ok:=by
 unfold coM;split
 ·exact II (II k _ _) _ _
 exact df
theorem alq(a p x:Lz):W64 (lI a p x):=by
 unfold lI;split
 ·next h=>
  have b:okP a=true/\a.getD 0 0=4096/\aG p=true/\aG x=true:=by simpa[dZ] using h
  exact nN (Du _ _ b.2.2.1 (yG _ _ _ _))
 intro y c;have:y=0:=by simpa[Z8] using c
 omega
theorem alr{h x:Lz}(c:W64 h):W64 (bi h x):=fun y b=>by
 unfold bi at b;rcases List.mem_append.1 b with a|a
 ·exact c y (Ko a)
 obtain⟨z,_,rfl⟩:=List.mem_map.1 a;have:=nI z;omega
theorem Dv:W64 m.nums↔W64 m.r/\W64 m.p/\W64 m.e/\W64 [m.ga,m.pi,m.la,m.er,m.se]:=by
 unfold Mm.nums W64;simp only[Ri];constructor
 ·intro h
  exact⟨fun x a=>h x (.inl a),fun x a=>h x (.inr (.inl a)),fun x a=>h x (.inr (.inr (.inl a))),fun x a=>h x (.inr (.inr (.inr a)))⟩
 rintro⟨b,c,d,f⟩ x (a|a|a|a)
 ·exact b x a
 ·exact c x a
 ·exact d x a
 exact f x a
theorem Xv(n:Nat):W64 (List.replicate n 0):=fun x a=>by
 have:=(List.mem_replicate.1 a).2;omega
theorem als(l:W64 m.nums)(s:Int):W64 (jQ m s).nums:=by
 unfold jQ;split
 ·obtain⟨i,j,k,a⟩:=Dv.1 l
  have c:=a m.ga ay;have e:=a m.pi ay;have d:=a m.la ay;have Y:=a m.er ay;have b:=a m.se ay;refine Dv.2 ⟨i,j,alr k,fun x f=>?_⟩;have h:=akS b.1 b.2 40;have S: -9223372036854775808<=er1 m s/\er1 m s<=9223372036854775807:=by unfold er1;split<;>omega
  have g:x=m.ga\/x=m.pi\/x=m.la\/x=er1 m s\/x=nzE m.se 40:=by
   have:=f;simp only[zt,zu,yZ] at this;exact this
  rcases g with rfl|rfl|rfl|rfl|rfl
  ·exact c
  ·exact e
  ·exact d
  ·exact S
  exact h
 exact Dv.2 ⟨Xv 8,Xv 8,Xv 80,fun x f=>by
  have:x=0:=by simpa[aZ] using f
  omega⟩
theorem alu(e:W64 m.nums)(a:Lz)(s:Int):W64 (stM a m s).nums:=by
 obtain⟨b,_,c,d⟩:=Dv.1 (als e s);exact Dv.2 ⟨b,alq _ _ _,c,d⟩
theorem acU{h x:Lz}(T:aG h=true):aG (bi h x)=true:=by
 unfold aG bi at*
 rw[lM] at T|-;intro y b;rcases List.mem_append.1 b with a|a
 ·exact T y (Ko a)
 obtain⟨z,_,rfl⟩:=List.mem_map.1 a;have:=nI z;exact sO this.1 this.2
structure UOk(u:Lz):Prop where
 l:u.length=8
 a:0<=u.getD 0 0/\u.getD 0 0<=59
 g:0<=u.getD 1 0/\u.getD 1 0<=7
 i:∀j,2<=j->j<6->0<=u.getD j 0/\u.getD j 0<=9
 s:0<=u.getD 6 0/\u.getD 6 0<=15
 v:0<=u.getD 7 0/\u.getD 7 0<=31
def uI(u:Lz):Lz:=(u.drop 2).take 4
theorem OQ(h:u.length=8):(uI u).length=4:=by unfold uI;rw[dR,kJ];omega
theorem amz(u:Lz)(h:j<4):(uI u).getD j 0=u.getD (2+j) 0:=by
 unfold uI;exact abw
def spC(u:Lz):Lz:=blL (uI u) (u.getD 6 0) (glV (u.getD 7 0))
def spX(m:Mm)(u:Lz):Lz:=mxL m.e (spC u) (20+u.getD 0 0) (dJ (u.getD 1 0)) 40
def spM(m:Mm)(u:Lz):Mm:={m with e:=bi m.e (spX m u),la:=20+u.getD 0 0,pi:=dJ (u.getD 1 0),ga:=glV (u.getD 7 0)}
theorem OT(n:Int):0<=dJ n/\dJ n<=18022:=by
 unfold dJ;split
 ·next h=>
  have a:0<=n/\n<=7:=by unfold vz at h;simpa using h
  obtain⟨k,rfl⟩:=gI a.1;have b:k<8:=ah;rw[uA];have:∀k,k<8->0<=cO.getD k 0/\cO.getD k 0<=18022:=aA;exact this k b
 omega
theorem UOk.bl(h:UOk u):blB (uI u) (u.getD 6 0) (glV (u.getD 7 0))=true:=by
 have a:=IU (u.getD 7 0);have b:=h.s;unfold blB blS;rw[rV];refine⟨kH ⟨⟨b.1,b.2⟩,a.1,a.2⟩,?_⟩;have c:allTo okI (uI u) 4:=fun j d=>by
  rw[amz u d];have:=h.i (2+j) ah ah;exact Oq this.1 this.2
 exact c.all (by rw[OQ h.l];exact ax _)
theorem OU(h:UOk u):(spC u).length=40:=by unfold spC blL;rw[h.bl];simp
theorem amA(h:UOk u):mxB (20+u.getD 0 0) (dJ (u.getD 1 0))=true:=by
 have b:=OT (u.getD 1 0);have c:=h.a;unfold mxB;rw[sQ ah ah,Lu];exact kH ⟨b.1,ah⟩
theorem tV(h:UOk u)(m:Mm):(spX m u).length=40:=by unfold spX;rw[(yD (amA h)).1];simp
theorem adQ(m:Mm)(u:Lz):aG (spX m u)=true:=Xd _ _ _ _ _
theorem DU(k:m.ok)(h:UOk u):(spM m u).ok:=⟨k.r,k.p,pG k.e (tV h m)⟩
theorem amB(g:aO m=true)(h:UOk u):aO (spM m u)=true:=by
 obtain⟨c,d,e,j,f,k,l,b⟩:=jr g;have i:=h.a;exact Ai c d (acU e) ⟨⟨by show 20<=20+u.getD 0 0;omega,by show 20+u.getD 0 0<=79;omega⟩,f,IU _,OT _,b⟩
theorem amC(g:aO m=true):aO (kZ m)=true:=by
 exact aip
def kw(a:Lz):Prop:=okP a=true/\a.getD 0 0=4096
theorem adR{k:Lz}(h:dH k=true):kw (jZ k):=by
 have e:jZ k=(List.range 9).map (fun i=>((dS k 8).getD i 0+2048)/4096):=by unfold jZ;rw[h];rfl
 constructor
 ·unfold okP
  rw[lM,e];intro x a;obtain⟨i,_,rfl⟩:=List.mem_map.1 a;have:=DK (zX h) (m:=8) (ax _) i;exact Oc ah ah
 rw[e,IV (fun i=>((dS k 8).getD i 0+2048)/4096) ah];rw[show(8:Nat)=7+1 from rfl,xh,show(7:Nat)=6+1 from rfl,xh,show(6:Nat)=5+1 from rfl,xh,show(5:Nat)=4+1 from rfl,xh,show(4:Nat)=3+1 from rfl,xh,
  show(3:Nat)=2+1 from rfl,xh,show(2:Nat)=1+1 from rfl,xh,show(1:Nat)=0+1 from rfl,xh,XH]
 rfl
theorem DV{p x:Lz}(h:kw a)(b:aG p=true)(c:aG x=true):dZ a p x=true:=by
 unfold dZ;rw[h.1,h.2,b,c];rfl
theorem adS{p x:Lz}(h:kw a)(b:aG p=true)(c:aG x=true)(d:x.length=40):lI a p x=fH p (eG a p x 40)/\oO a p x=eG a p x 40:=by
 unfold lI oO;rw[if_pos (DV h b c),if_pos (DV h b c),d];exact⟨rfl,rfl⟩
theorem adT(g:aO m=true)(a x:Lz)(n:Nat):aO {m with p:=fH m.p (eG a m.p x n)}=true:=by
 obtain⟨b,c,d,t⟩:=jr g;exact Ai b (Du _ _ c (yG _ _ _ _)) d t
def pK(ps:Lz):Lz:=(ps.drop 1).take 8
def bM(ps:Lz)(s:Nat):Lz:=(ps.drop (9+8*s)).take 8
theorem amD(ps:Lz)(h:j<8):(pK ps).getD j 0=ps.getD (1+j) 0:=by
 unfold pK;exact abw
theorem amE(ps:Lz)(h:j<8):(bM ps s).getD j 0=ps.getD (9+8*s+j) 0:=by
 unfold bM;exact abw
theorem OV(h:ps.length=25):(pK ps).length=8:=by unfold pK;rw[dR,kJ];omega
theorem amF(h:ps.length=25)(Z:s<2):(bM ps s).length=8:=by unfold bM;rw[dR,kJ];omega
theorem OY(h:dD ps 25=true)(d:ps.length=25)(Z:s<2):UOk (bM ps s):=by
 have k:∀j,j<8->0<=(bM ps s).getD j 0/\(bM ps s).getD j 0<=pkT.getD (9+8*s+j) 0:=fun j c=>by
  rw[amE ps c];exact Jc h ah
 have t:∀s,s<2->pkT.getD (9+8*s+0) 0=59/\pkT.getD (9+8*s+1) 0=7/\pkT.getD (9+8*s+6) 0=15/\pkT.getD (9+8*s+7) 0=31/\∀j,2<=j->j<6->pkT.getD (9+8*s+j) 0=9:=by
  intro s Z;have:s=0\/s=1:=ah;rcases this with rfl|rfl
  ·exact ai0
  exact ai0
 obtain⟨e,f,i,l,g⟩:=t s Z;have a:=k 0 ah;have b:=k 1 ah;have u:=k 6 ah;have r:=k 7 ah;rw[e] at a;rw[f] at b;rw[i] at u;rw[l] at r;exact⟨amF d Z,a,b,fun j h1 h2=>by have:=k j ah;rw[g j h1 h2] at this;exact this,u,r⟩
theorem amG:∀i,i<8->∀n,n<64-> -31000<=lvV (i:Nat) (n:Nat)/\lvV (i:Nat) (n:Nat)<=31000:=wK
theorem amH:∀i,i<8->∀n,n<64->((n:Nat):Int)<=pkT.getD (1+i) 0->ed (i:Nat) (n:Nat)=0:=wK
theorem amI:∀i,i<8->pkT.getD (1+i) 0<=63:=aA
def qE(ps:Lz):Lz:=(List.range 8).map (aF lvV (pK ps))
theorem XU(ps:Lz):(qE ps).length=8:=by simp[qE]
theorem adU(h:dD ps 25=true)(hi:i<8):∃n:Nat,n<64/\(pK ps).getD i 0=n/\((n:Nat):Int)<=pkT.getD (1+i) 0:=by
 have a:qA ps (1+i):=Jc h ah;have d:=amI i hi;obtain⟨n,c⟩:=gI a.1;have b:=a.2;rw[c] at b;exact⟨n,ah,by rw[amD ps hi,c],b⟩
theorem Jh{ps:Lz}(h:dD ps 25=true):∀n,n<=8->aE ed (pK ps) n=0
 |0,_=>rfl
 |n+1,hn=>by
  rw[aE,if_pos (Jh h n ah)];obtain⟨v,a,e,T⟩:=adU h (i:=n) ah;rw[e];exact amH n ah v a T
theorem XV(h:dD ps 25=true):aL lvV ed (pK ps)=qE ps:=by
 unfold aL;rw[if_pos (Jh h 8 (ax _))];rfl
theorem adV(h:dD ps 25=true):(qE ps).all okK=true:=by
 unfold qE;rw[lM];intro x c;obtain⟨i,hi,rfl⟩:=List.mem_map.1 c;have a:i<8:=Nc;obtain⟨v,b,e,_⟩:=adU h a;unfold aF;rw[e];have:=amG i a v b;exact acw this.1 this.2
theorem Ji{k:Lz}(h:k.all okK=true):dH k=true:=by
 unfold dH;rw[lM] at h|-;intro x a;have:=h x a;unfold okK at this;have b: -31000<=x/\x<=31000:=by simpa using this
 exact Dn ah ah
def frA(was now:Lz)(s:Nat):Lz:=jZ (jO was now ((2+2*s:Nat):Int))
theorem amJ{x:Int}{K:Int}(a: -(4*K)<=x)(b:x<=4*K): -K<=x.tdiv 4/\x.tdiv 4<=K:=by
 by_cases h:0<=x
 ·rw[Ld h];omega
 have e:x.tdiv 4= -((-x)/4):=by
  rw[<-Ld (show 0<= -x from ah),Int.neg_tdiv,Le]
 rw[e];omega
theorem amK{b:Lz}(d:dH a=true)(c:dH b=true)(g:0<=n)(k:n<=4):dH (jO a b n)=true:=by
 have e:jO a b n=(List.range 8).map (qo a b n):=by unfold jO lH;rw[d,c];rw[if_pos aC]
 rw[e];unfold dH;rw[lM];intro x f;obtain⟨i,_,rfl⟩:=List.mem_map.1 f;have h:=zX d i;have j:=zX c i;unfold qo;have:n=0\/n=1\/n=2\/n=3\/n=4:=ah;have c: -(4*32767)<=a.getD i 0*(4-n)+b.getD i 0*n/\a.getD i 0*(4-n)+b.getD i 0*n<=4*32767:=by
  rcases this with rfl|rfl|rfl|rfl|rfl<;>omega
 have:=amJ c.1 c.2;exact Dn ah ah
theorem amL{b:Lz}(d:dH a=true)(f:dH b=true)(h:b.length=8):jO a b 4=b:=by
 have e:jO a b 4=(List.range 8).map (qo a b 4):=by unfold jO lH;rw[d,f];rfl
 rw[e];refine dM (by simp[h]) fun k g=>?_;have c:k<8:=by simpa using g
 rw[IV (qo a b 4) c];unfold qo;rw[show a.getD k 0*(4-4)+b.getD k 0*4=b.getD k 0*4 from ah];exact Int.mul_tdiv_cancel _ aA
theorem OZ{b:Lz}(c:dH a=true)(d:dH b=true)(Z:s<2):kw (frA a b s):=adR (amK c d ah ah)
theorem xk(a b:Lz)(s:Nat):(frA a b s).length=9:=yB _
theorem amM{b:Lz}(c:dH a=true)(d:dH b=true)(e:b.length=8):frA a b 1=jZ b:=by
 unfold frA;rw[show(((2+2*1:Nat)):Int)=4 from rfl,amL c d e]
def frX(q:Bool)(m:Mm)(u:Lz):Lz:=if q then nzL m.se 8 40 else spX m u
def frN(q:Bool)(m:Mm)(u:Lz):Mm:=if q then kZ m else spM m u
def frP(q:Bool)(a:Lz)(m:Mm)(u:Lz):Mm:={frN q m u with p:=fH m.p (eG a m.p (frX q m u) 40)}
def frY(q:Bool)(a:Lz)(m:Mm)(u:Lz):Lz:=eG a m.p (frX q m u) 40
theorem Pe(q:Bool)(m:Mm)(u:Lz):(frN q m u).p=m.p:=UI
theorem XY(q:Bool)(m:Mm)(u:Lz):(frN q m u).r=m.r:=UI
theorem amN(q:Bool)(m:Mm)(u:Lz):(frN q m u).si=m.si:=UI
theorem Pg(q:Bool)(m:Mm)(h:UOk u):(frX q m u).length=40:=by
 unfold frX;split
 ·exact oM _ _ _
 exact tV h m
theorem adW(q:Bool)(m:Mm)(u:Lz):aG (frX q m u)=true:=by
 unfold frX;split
 ·exact WV _ _ _
 exact adQ m u
theorem Ph(q:Bool)(k:m.ok)(h:UOk u):(frN q m u).ok:=by
 unfold frN;split
 ·exact WZ k
 exact DU k h
theorem amO(q:Bool)(g:aO m=true)(h:UOk u):aO (frN q m u)=true:=by
 unfold frN;split
 ·exact amC g
 exact amB g h
theorem Mm.ok.pp(k:m.ok){p:Lz}(a:p.length=8):({m with p:=p}:Mm).ok:=⟨k.r,a,k.e⟩
theorem Pi(q:Bool)(a:Lz)(k:m.ok)(h:UOk u):(frP q a m u).ok:=by
 unfold frP;exact(Ph q k h).pp (tC _ _ k.p)
theorem XZ(q:Bool)(a:Lz)(m:Mm)(u:Lz):(frP q a m u).r=m.r:=by unfold frP;exact XY q m u
theorem amP(q:Bool)(a:Lz)(m:Mm)(u:Lz):(frP q a m u).si=m.si:=by unfold frP;exact amN q m u
theorem adX(q:Bool)(a:Lz)(g:aO m=true)(h:UOk u):aO (frP q a m u)=true:=by
 have b:=adT (amO q g h) a (frX q m u) 40;rw[Pe] at b;unfold frP;exact b
theorem Az(q:Bool)(a:Lz)(m:Mm)(u:Lz):(frY q a m u).length=40:=yF _ _ _ _
theorem adY(q:Bool){a:Lz}{m:Mm}{u:Lz}(g:aO m=true)(h:UOk u)(d:kw a):
 ({frN q m u with p:=lI a (frN q m u).p (frX q m u)}:Mm)=frP q a m u/\oO a (frN q m u).p (frX q m u)=frY q a m u:=by
 obtain⟨_,c,_⟩:=jr g;obtain⟨b,S⟩:=adS (p:=m.p) d c (adW q m u) (Pg q m h);rw[Pe,b,S];exact⟨rfl,rfl⟩
theorem Pj{a:Lz}{m:Mm}{u:Lz}(g:aO m=true)(h:UOk u)(e:kw a):
 ({spM m u with p:=lI a m.p (spX m u)}:Mm)=frP false a m u/\oO a m.p (spX m u)=frY false a m u:=by
 have b:=adY false g h e;have c:frN false m u=spM m u:=rfl;have S:frX false m u=spX m u:=rfl;have d:(spM m u).p=m.p:=rfl;rw[c,S,d] at b;exact b
theorem adZ{a:Lz}{m:Mm}{u:Lz}(g:aO m=true)(h:UOk u)(f:kw a):
 Ak m=frN true m u/\Am m=frX true m u/\({frN true m u with p:=lI a (frN true m u).p (frX true m u)}:Mm)=frP true a m u/\oO a (frN true m u).p (frX true m u)=frY true a m u:=by
 have e:=adY true g h f;have b:frN true m u=kZ m:=rfl;have S:frX true m u=nzL m.se 8 40:=rfl;have c:Ak m=kZ m:=by unfold Ak;rw[if_pos g]
 have d:Am m=nzL m.se 8 40:=by unfold Am;rw[if_pos g]
 exact⟨by rw[c,b],by rw[d,S],e⟩
def frK(q:Bool)(was now ps:Lz)(m:Mm):Nat->Mm
 |0=>m
 |s+1=>frP q (frA was now s) (frK q was now ps m s) (bM ps s)
def frZ(q:Bool)(was now ps:Lz)(m:Mm):Nat->Lz
 |0=>[]
 |s+1=>frZ q was now ps m s++frY q (frA was now s) (frK q was now ps m s) (bM ps s)
section
variable {q:Bool} {was now ps:Lz} {m:Mm}
theorem Pm(k:m.ok)(h:dD ps 25=true)(a:ps.length=25):∀n,n<=2->(frK q was now ps m n).ok
 |0,_=>k
 |n+1,hn=>Pi q _ (Pm k h a n ah) (OY h a ah)
theorem Pn(g:aO m=true)(h:dD ps 25=true)(a:ps.length=25):∀n,n<=2->aO (frK q was now ps m n)=true
 |0,_=>g
 |n+1,hn=>adX q _ (Pn g h a n ah) (OY h a ah)
theorem Ya:∀n,(frK q was now ps m n).r=m.r
 |0=>rfl
 |n+1=>by rw[frK,XZ,Ya n]
theorem Yb:∀n,(frK q was now ps m n).si=m.si
 |0=>rfl
 |n+1=>by rw[frK,amP,Yb n]
theorem Yc:∀n,(frZ q was now ps m n).length=40*n
 |0=>rfl
 |n+1=>by rw[frZ,dN,Yc n,Az];omega
theorem amQ(b:Bool)(m:Mm)(u:Lz):frN q {m with si:=b} u={frN q m u with si:=b}:=UI
theorem amR(b:Bool)(a:Lz)(m:Mm)(u:Lz):frP q a {m with si:=b} u={frP q a m u with si:=b}:=by
 have c:frX q {m with si:=b} u=frX q m u:=by unfold frX;split<;>rfl
 unfold frP;rw[amQ,c]
theorem Yd(b:Bool):∀n,frK q was now ps {m with si:=b} n={frK q was now ps m n with si:=b}
 |0=>rfl
 |n+1=>by rw[frK,Yd b n,amR,frK]
theorem amS(b:Bool)(a:Lz)(m:Mm)(u:Lz):frY q a {m with si:=b} u=frY q a m u:=by
 have c:frX q {m with si:=b} u=frX q m u:=by unfold frX;split<;>rfl
 unfold frY;rw[c]
theorem ad1(b:Bool):∀n,frZ q was now ps {m with si:=b} n=frZ q was now ps m n
 |0=>rfl
 |n+1=>by rw[frZ,ad1 b n,Yd,amS,frZ]
end
def frQ(ps:Lz):Bool:=decide (ps.getD 0 0=2)
def fr0(m:Mm)(ps:Lz):Mm:=if ps.getD 0 0=1 then eQ else m
def frE(m:Mm)(ps:Lz):Mm:=frK (frQ ps) (fr0 m ps).r (qE ps) ps {fr0 m ps with si:=frQ ps} 2
def frM(m:Mm)(ps:Lz):Mm:={frE m ps with r:=qE ps,er:=0}
def frO(m:Mm)(ps:Lz):Lz:=frZ (frQ ps) (fr0 m ps).r (qE ps) ps {fr0 m ps with si:=frQ ps} 2
theorem DZ:aO eQ=true:=aA
theorem Po(g:aO m=true)(ps:Lz):aO (fr0 m ps)=true:=by
 unfold fr0;split
 ·exact DZ
 exact g
theorem Jj(k:m.ok)(ps:Lz):(fr0 m ps).ok:=by
 unfold fr0;split
 ·exact Aj
 exact k
theorem ad4(g:aO m=true)(b:Bool):aO {m with si:=b}=true:=g
theorem amT(k:m.ok)(h:dD ps 25=true)(a:ps.length=25):(frE m ps).ok:=by
 unfold frE;exact Pm (m:={fr0 m ps with si:=frQ ps}) ⟨(Jj k ps).r,(Jj k ps).p,(Jj k ps).e⟩ h a 2 (ax _)
theorem D7(k:m.ok)(h:dD ps 25=true)(b:ps.length=25):(frM m ps).ok:=by
 have a:=amT k h b;unfold frM;generalize frE m ps=z at*
 exact⟨XU ps,a.p,a.e⟩
theorem ad5(g:aO m=true)(h:dD ps 25=true)(e:ps.length=25):aO (frM m ps)=true:=by
 have a:aO (frE m ps)=true:=by unfold frE;exact Pn (ad4 (Po g ps) _) h e 2 (ax _)
 unfold frM;generalize frE m ps=z at*
 obtain⟨_,c,d,f,i,j,k,b⟩:=jr a;exact Ai (adV h) c d ⟨f,i,j,k,by show(0:Int)<=0;omega,by show(0:Int)<=6;omega⟩
theorem Jk(m:Mm)(ps:Lz):(frO m ps).length=80:=by unfold frO;rw[Yc]
theorem ad6(g:aO m=true)(ps:Lz):dH (fr0 m ps).r=true:=Ji (jr (Po g ps)).1
theorem Ye(h:dD ps 25=true):dH (qE ps)=true:=Ji (adV h)
def deE(m:Mm)(xs:Lz):Int:=if aO m=true then unE xs else 2
def deM(m:Mm)(xs:Lz):Mm:=if deE m xs=0 then frM m (unL xs) else aZ
def deY(m:Mm)(xs:Lz):Lz:=if deE m xs=0 then frO m (unL xs) else[]
theorem yK(h:unE xs=0):dD (unL xs) 25=true:=by
 have e:unL xs=uL (unV xs) 25:=by unfold unL;rw[if_pos h]
 rw[e];unfold unE at h;by_cases a:xs.length≠15
 ·rw[if_pos a] at h;cases h
 rw[if_neg a] at h;by_cases b:chk (xs.take 14)≠xs.getD 14 0
 ·rw[if_pos b] at h;cases h
 rw[if_neg b] at h;by_cases c:unV xs%32≠0
 ·rw[if_pos c] at h;cases h
 rw[if_neg c] at h;by_cases d:dD (uL (unV xs) 25) 25=false
 ·rw[if_pos d] at h;cases h
 simpa using d
theorem Pq(k:m.ok)(xs:Lz):(deM m xs).ok:=by
 unfold deM;split
 ·next h=>
  have a:unE xs=0:=by
   unfold deE at h;split at h
   ·exact h
   cases h
  exact D7 k (yK a) (yJ xs)
 exact df
theorem ael(h:fU xs):W64 xs:=fun x a=>by
 obtain⟨i,hi⟩:=ZJ a;have:=h i;rw[bK,hi] at this;simp at this;omega
theorem aem(h:∀i,i<xs.length-> -32768<=xs.getD i 0/\xs.getD i 0<=32767):aG xs=true:=by
 unfold aG;rw[lM];intro x b;obtain⟨i,hi⟩:=ZJ b;have a:=(List.getElem?_eq_some_iff.1 hi).1;have:=h i a;rw[bK,hi] at this;simp at this;exact sO this.1 this.2
theorem Yj{h:Lz}(T:fU h)(lag:Int):aG (dU h lag)=true:=by
 unfold dU;split
 ·refine aem fun i hi=>?_
  rw[zq,Tf] at hi;rw[bJ _ hi];exact T _
 rfl
theorem Jo(r l:Lz):aG (foL r l)=true:=by
 unfold foL;split
 ·refine aem fun i hi=>?_
  rw[zq,Tf] at hi;rw[bJ _ hi];exact nI _
 rfl
def pkR(ring:Lz):Bool:=decide (ring.length=40)&&aG ring
theorem Px{v:Lz}(c:v.length=40)(b:aG v=true):(foL ring v).length=if pkR ring then 40 else 0:=by
 unfold pkR;by_cases h:ring.length=40
 ·rw[kH h,Lu]
  have a:mr ring v=bz (aG ring):=by
   rw[Yi ah ah];unfold foB;rw[b,Bool.and_true]
  cases hr:aG ring with
  |true=>rw[hr] at a;rw[Jm a,zq,Tf,c];rfl
  |false=>rw[hr] at a;rw[Jl (by rw[a];decide)];rfl
 rw[kV h,aal];rw[Jl ahv];rfl
def piV(ring h:Lz)(n:Nat):Lz:=foL ring (dU h (20+(n:Int)))
def pkC(ring h t:Lz)(n:Nat):Int:=bQ t (piV ring h n) 40
def pkE(ring h:Lz)(n:Nat):Int:=bQ (piV ring h n) (piV ring h n) 40
def pkS(ring h t:Lz):Nat->Int×Int×Int
 |0=>(20,0,0)
 |n+1=>if decide (0<pkC ring h t n)&&jy (pkC ring h t n) (pkE ring h n) (pkS ring h t n).2.1 (pkS ring h t n).2.2 then(20+(n:Int),pkC ring h t n,pkE ring h n) else pkS ring h t n
theorem Yk(ring h:Lz)(n:Nat):fU (piV ring h n):=gU (Jo _ _)
theorem aen(ring h t:Lz)(n:Nat):0<=(pkS ring h t n).2.2:=by
 induction n with
 |zero=>simp[pkS]
 |succ n ih=>
  unfold pkS;split
  ·exact Yh _ _
  exact ih
theorem Pz(ring h:Lz){t:Lz}(F:fU t)(n:Nat):(-42949672960<=(pkS ring h t n).2.1/\(pkS ring h t n).2.1<=42949672960)/\ -42949672960<=(pkS ring h t n).2.2/\(pkS ring h t n).2.2<=42949672960:=by
 induction n with
 |zero=>simp[pkS]
 |succ n ih=>
  have a:=qy F (Yk ring h n) 40;have b:=qy (Yk ring h n) (Yk ring h n) 40;unfold pkS;split
  ·simp only
   unfold pkC pkE;omega
  exact ih
theorem ani(ring h t:Lz)(n:Nat)(a:n<=60):20<=(pkS ring h t n).1/\(pkS ring h t n).1<=79:=by
 induction n with
 |zero=>simp[pkS]
 |succ n ih=>
  unfold pkS;split
  ·simp only
   omega
  exact ih ah
def jh(ring h t:Lz):Int:=if t.length=40 then(if aG t&&aG h then(if pkR ring then 0 else 1) else 2) else 1
def piA(ring h t:Lz):Int:=if jh ring h t=0 then(pkS ring h t 60).1 else 0
def piB(ring h t:Lz):Int:=if jh ring h t=0 then(pkS ring h t 60).2.1 else 0
def pkD(ring h t:Lz):Int:=if jh ring h t=0 then(pkS ring h t 60).2.2 else 0
def PkAns(ring h t:Lz)(w:Wd)(e:Ending)(w':Wd):Prop:=e=.returned (.tuple #[.int .i64 (piA ring h t),.int .i64 (piB ring h t),.int .i64 (pkD ring h t),.int .i64 (jh ring h t)])/\Bw w w'
theorem PkAns.bad{h t:Lz}{w':Wd}{er:Int}(c:jh ring h t=er)(a:er≠0)(b:Bw w w'):PkAns ring h t w (.returned (.tuple #[.int .i64 0,.int .i64 0,.int .i64 0,.int .i64 er])) w':=
 ⟨by unfold piA piB pkD;rw[c,if_neg a,if_neg a,if_neg a],b⟩
def iM(x:Int):Int:=if x<=1099511627776 then x else 1099511627776
def mD(c e:Int):Int:=if c<=0\/e<=0 then 0 else iF cO 16384 (iM c) (iM e) 8
theorem Yt(i:Nat):0<=cO.getD i 0/\cO.getD i 0<=65536:=by
 by_cases h:i<8
 ·have:∀j,j<8->0<=cO.getD j 0/\cO.getD j 0<=65536:=aA
  exact this i h
 rw[bK,iy (by simp[cO];omega)];simp
theorem anA(c e:Int)(w:Wd)(T:TabA w 1 cO)(R: -9223372036854775808<=c)(c2:c<=9223372036854775807)(U: -9223372036854775808<=e)(S:e<=9223372036854775807):
 Cl 70 #[.int .i64 c,.int .i64 e] w fun e' w'=>e'=.returned (.int .i64 (mD c e))/\Bw w w':=by
 by_cases t:c<=0
 ·have D:=af (show mD c e=0 by unfold mD;rw[if_pos (.inl t)])
  clear T;go_enter Tryz.func70,Tryz.ntmps70;exact zM
 by_cases u:e<=0
 ·have D:=af (show mD c e=0 by unfold mD;rw[if_pos (.inr u)])
  clear T;go_enter Tryz.func70,Tryz.ntmps70;exact zM
 have D:=af (show mD c e=iF cO 16384 (iM c) (iM e) 8 by unfold mD;rw[if_neg ah]);have v:=af T;clear T;have J:0<c:=ah;have K:0<e:=ah;clear t u;obtain⟨b,d,A,B⟩:∃b,b=iM c/\0<b/\b<=1099511627776:=⟨_,rfl,FP,FP⟩;obtain⟨a,f,E,F⟩:∃a,a=iM e/\0<a/\a<=1099511627776:=⟨_,rfl,FP,FP⟩;rw[<-d,<-f] at D;have h:=af d;have i:=af f;clear d f;go_enter Tryz.func70,Tryz.ntmps70;go_upto_region 3 with fail;go_cut[0,1] (fun M N P=>M=.int .i64 b/\N=.int .i64 a/\Hy (w=P))
 case first=>
  rcases Ff 1099511627776 c with r|r<;>rcases Ff 1099511627776 e with s|s<;>(
   try have n1:=Int.not_le.2 r
   try have n2:=Int.not_le.2 s
   go_wp2_with fail;go_meet;exact⟨iI (Value.int .i64) (by rw[h.o];unfold iM;split<;>omega),iI (Value.int .i64) (by rw[i.o];unfold iM;split<;>omega),af rfl⟩)
 case rest=>
  obtain⟨rfl,rfl,q⟩:=hcut;obtain rfl:=q.o;clear q h i J K;go_wp2;go_loopw[5,6] (fun z p wr=> ∃(k:Nat),1<=k/\k<=8/\p=.int .i64 k/\z=.int .i64 (iF cO 16384 b a k)/\Hy (Bw w wr)) (fun _ p _=>8-(intOf p).toNat)
  case atStart=>exact⟨1,ah,ah,rfl,by simp[iF],af (aP _ _)⟩
  case round=>
   obtain⟨k,G,V,rfl,rfl,H⟩:=hrel;have nb:=PR cO 16384 b a k;have ST:=af (PQ cO 16384 b a (k:=k) ah);by_cases n:k<8
   ·generalize iF cO 16384 b a k=bst at*
    have l:=v.o.below H.o;have q0:=l.cell k n;have L:=l.cell (k-1) (by show k-1<8;omega);have v0:=Yt k;have v1:=Yt (k-1);generalize cO.getD k 0=y at*
    generalize cO.getD (k-1) 0=x at*
    obtain⟨m,O⟩:=ak (k-1);rw[<-O] at L;have mb:=PS (x:=y+x) (X:=131072) (y:=a) (Y:=1099511627776) ah ah ah ah;have I:IntKind.i64.wrap ((k:Int)-1)=(m:Nat):=aV;have hw1:IntKind.i64.wrap (y+x)=y+x:=aV;have hw2:IntKind.i64.wrap (32768*b)=32768*b:=aV;have hw3:IntKind.i64.wrap ((y+x)*a)=(y+x)*a:=aV;have W:(k:Int)<8:=ah;have Z:(m:Int)<8:=ah;have i3:(0:Int)<=m:=ah;have i4:(0:Int)<=k:=ah;have Q:=af O;clear O l;by_cases j:(y+x)*a<32768*b
    ·have g:=af (show iF cO 16384 b a (k+1)=k by rw[ST.o,if_pos ah])
     have C:decide ((y+x)*a<32768*b)=true:=(by simpa using j);exact ain
    have g:=af (show iF cO 16384 b a (k+1)=bst by rw[ST.o,if_neg ah]);have C:decide ((y+x)*a<32768*b)=false:=(by simpa using j);exact ain
   obtain rfl:k=8:=ah;go_wp2;go_ret;exact⟨Na,H.o⟩
theorem anB(c e:Int)(w:Wd)(T:TabS w 0 cO)(n: -9223372036854775808<=c)(c2:c<=9223372036854775807)(e1: -9223372036854775808<=e)(S:e<=9223372036854775807):
 Cl 114 #[.int .i64 c,.int .i64 e] w fun e' w'=>e'=.returned (.int .i64 (mD c e))/\Bw w w':=by
 by_cases g:c<=0
 ·have D:=af (show mD c e=0 by unfold mD;rw[if_pos (.inl g)])
  clear T;go_enter Tryz.func114,aat;exact zM
 by_cases h:e<=0
 ·have D:=af (show mD c e=0 by unfold mD;rw[if_pos (.inr h)])
  clear T;go_enter Tryz.func114,aat;exact zM
 have D:=af (show mD c e=iF cO 16384 (iM c) (iM e) 8 by unfold mD;rw[if_neg ah]);obtain⟨A,d,_,f,i,_⟩:=T;have f:w.cell? ⟨0,0,none⟩=some (.slice A 8 d):=f;have o:0<c:=ah;have p:0<e:=ah;clear g h;have k:0<iM c/\iM c<=1099511627776:=FP;have l:0<iM e/\iM e<=1099511627776:=FP;have K:=af (aev A d 8 cO 16384 (iM c) (iM e) w i rfl ah ah Yt ah ah ah ah ah ah);clear i k l;by_cases b:c<=1099511627776
 ·have e1:iM c=c:=by unfold iM;rw[if_pos b]
  by_cases a:e<=1099511627776
  ·have S:iM e=e:=by unfold iM;rw[if_pos a]
   exact VE
  have S:iM e=1099511627776:=by unfold iM;rw[if_neg a]
  have j:1099511627776<e:=ah;exact VE
 ·have e1:iM c=1099511627776:=by unfold iM;rw[if_neg b]
  have m:1099511627776<c:=ah;by_cases a:e<=1099511627776
  ·have S:iM e=e:=by unfold iM;rw[if_pos a]
   exact VE
  have S:iM e=1099511627776:=by unfold iM;rw[if_neg a]
  have j:1099511627776<e:=ah;exact VE
theorem anH{g B:Nat}(h:IB w g t xs)(G:g<B):Rs w B (some ⟨g,0,none⟩) xs:=
 ⟨qP,fun _=>⟨_,rfl,G,fun j u a=>by
   have b:j<xs.length:=by
    have:=(List.getElem?_eq_some_iff.mp a).1;rwa [bf] at this
   rw[wO xs j b] at a;rw[lN,<-a];exact IB.cell h j b⟩⟩
theorem anI(a p l:Lz)(A:Oz)(c n B:Nat)(w:Wd)(D:a.length=9)(F:p.length=8)(L:Rs w w.heap.size A l)(E:l.length=n)(R:n<=17592186044416):
 Cl 124 #[.agg (agi a),.agg (agi p),.slice A n c] w (Xg w (dZ a p l)):=by
 have s:=af (IB.new w 73 a);have z:=IB.new (w.alloc (.cells (agi a) 73)) 52 p;simp only[bT] at z;have C:=aj (Rs ((w.alloc (.cells (agi a) 73)).alloc (.cells (agi p) 52)) (w.heap.size+1+1) (some ⟨w.heap.size+1,0,none⟩) p) (anH z ah);have s:=af (Blk.alloc s.o (.cells (agi p) 52));have HA:=af D;have T:=af F;have S:=af E;have N:=af (L.below (((aP _ w).alloc (ax _) (.cells (agi a) 73)).alloc ay (.cells (agi p) 52)));have H:=af (((aP _ w).alloc (ax _) (.cells (agi a) 73)).alloc ay (.cells (agi p) 52));have u:=fun(k:Nat) (K:k<9) (w:Wd)=>jW bP a D k K w;have v:=af u;have O:=af (fun W (h:Rs W (w.heap.size+1+1) (some ⟨w.heap.size+1,0,none⟩) p)=>mX (some ⟨w.heap.size+1,0,none⟩) 8 8 (w.heap.size+1+1) p W h F ah);have P:=af (fun W (h:Rs W w.heap.size A l)=>mX A c n w.heap.size l W h E R);clear D F E L u z;have r:=IB.cell s.o 0 Vk;obtain⟨Q,m⟩:=ak (a.getD 0 0);rw[<-m] at r;have q:=af m;have M:=af r;clear m r;go_enter Tryz.func124,Tryz.ntmps124;go_wp2_with(refine aK 73 (.tmp 3) a 9 s.o bP bC HA.o ?_);go_loop [10] (fun I=> ∃k:Nat,k<=9/\I=.int .i64 k/\Hy (allTo yE a k)) (fun I=>9-(intOf I).toNat)
 case atStart=>exact⟨0,ah,rfl,af allTo.zero⟩
 case round=>
  obtain⟨k,K,rfl,y⟩:=hrel;by_cases hlt:k<9
  ·have u:=v.o k hlt
   obtain⟨x,G⟩:=ak (a.getD k 0);rw[<-G] at u;have HX:=af G;clear G;by_cases b1:x< -1048576
   ·have HF:=aj (okP a=false) (jb (i:=k) uP (Oe MJ))
    exact We
   by_cases b2:1048576<x
   ·have HF:=aj (okP a=false) (jb (i:=k) uP (Oe MK))
    exact We
   have b:=af (y.o.succ (by rw[<-HX.o];exact Oc ah ah));go_wp2;exact yg
  obtain rfl:k=9:=ah;have j:=aj (okP a=true) (y.o.all MH);clear hlt y;have r:=M.o;by_cases J:Q=4096
  ·have f:=af (show a.getD 0 0=4096 by rw[<-q.o,J])
   obtain⟨b2,d⟩:=ak (aG p);have t:=af (O.o _ C.o);rw[<-d] at t;cases b2 with
   |false=>
    have g:=af d;clear d;go_wp2_with(go_at_call 92;(with_reducible refine t.o.mono ?_);rintro e w' ⟨rfl,rfl⟩);go_ret;exact⟨by unfold dZ;rw[j.o,f.o,<-g.o];rfl,H.o⟩
   |true=>
    have g:=af d;clear d;go_wp2_with(first
     |(go_at_call 92;(with_reducible refine t.o.mono ?_);rintro e w' ⟨rfl,rfl⟩)
     |(go_at_call 92;(with_reducible refine(P.o _ N.o).mono ?_);rintro e w' ⟨rfl,rfl⟩))
    go_ret;exact⟨by unfold dZ;rw[j.o,f.o,<-g.o];simp,H.o⟩
  have f:=af (show decide (a.getD 0 0=4096)=false by rw[<-q.o];simpa using J);go_wp2;go_ret;exact⟨by unfold dZ;rw[j.o,f.o];rfl,H.o⟩
theorem Jt(a b c d e f g h:Int):agi [a,b,c,d,e,f,g,h]= #[.int .i64 a,.int .i64 b,.int .i64 c,.int .i64 d,.int .i64 e,.int .i64 f,.int .i64 g,.int .i64 h]:=rfl
theorem anJ(a p l:Lz)(A:Oz)(c n m:Nat)(w:Wd)(ha:a.length=9)(hp:p.length=8)(oa:okP a=true)(op:aG p=true)(ol:aG l=true)(hr:Rs w w.heap.size A l)(hn:l.length=n)(hl:n<=17592186044416)(O:m<=n)(hc:n<=c):
 Cl 125 #[.agg (agi a),.agg (agi p),.slice A n c,.int .i64 m] w fun e w'=>e=.returned (.int .i64 (pI a (fH p (l.take m))))/\Bw w w':=by
 obtain⟨p0,p1,p2,p3,p4,p5,p6,p7,rfl⟩:=Yw hp;obtain⟨ys,hy⟩:=ak (fH [p0,p1,p2,p3,p4,p5,p6,p7] (l.take m));have hyl:ys.length=8:=by rw[hy];exact tC _ _ rfl
 have h16:aG ys=true:=by rw[hy];exact Du _ _ op (acS ol m)
 have KN:=fun(W:Wd) (hW:Rs W W.heap.size A (l.take m))=>aex [p0,p1,p2,p3,p4,p5,p6,p7] (l.take m) A c m 0 W rfl hW aC ah;rw[<-hy] at KN|-;obtain⟨B,z,y2,K,f,j,G,J,rfl⟩:=Yw hyl;rw[Jt,Jt] at KN;have KN:=af KN;have hI:=IB.new w 73 a;have hJ:=IB.new (w.alloc (.cells (agi a) 73)) 52 [p0,p1,p2,p3,p4,p5,p6,p7];simp only[bT] at hJ;have hI:=Blk.alloc hI (.cells (agi [p0,p1,p2,p3,p4,p5,p6,p7]) 52);have hB:=(((aP _ w).alloc (ax _) (.cells (agi a) 73)).alloc ay (.cells (agi [p0,p1,p2,p3,p4,p5,p6,p7]) 52));have Z:((w.alloc (.cells (agi a) 73)).alloc (.cells (agi [p0,p1,p2,p3,p4,p5,p6,p7]) 52)).heap.size=w.heap.size+1+1:=ay;have hr1:=hr.below hB;have HA:=af ha;have OA:=af oa;have HY:=af hy;have q:=af h16;rw[Jt] at hI hJ hB Z hr1;generalize hW:(w.alloc (.cells (agi a) 73)).alloc (.cells #[.int .i64 p0,.int .i64 p1,.int .i64 p2,.int .i64 p3,.int .i64 p4,.int .i64 p5,.int .i64 p6,.int .i64 p7] 52)=W at hI hJ hB Z hr1;have c0:W.cell? ⟨w.heap.size+1,0,none⟩=some (.int .i64 p0):=IB.cell hJ 0 ay;have c1:W.cell? ⟨w.heap.size+1,1,none⟩=some (.int .i64 p1):=IB.cell hJ 1 ay;have c2:W.cell? ⟨w.heap.size+1,2,none⟩=some (.int .i64 p2):=IB.cell hJ 2 ay;have c3:W.cell? ⟨w.heap.size+1,3,none⟩=some (.int .i64 p3):=IB.cell hJ 3 ay;have c4:W.cell? ⟨w.heap.size+1,4,none⟩=some (.int .i64 p4):=IB.cell hJ 4 ay;have c5:W.cell? ⟨w.heap.size+1,5,none⟩=some (.int .i64 p5):=IB.cell hJ 5 ay;have c6:W.cell? ⟨w.heap.size+1,6,none⟩=some (.int .i64 p6):=IB.cell hJ 6 ay;have c7:W.cell? ⟨w.heap.size+1,7,none⟩=some (.int .i64 p7):=IB.cell hJ 7 ay;have g:=af (fun N (hb:Bw W N)=>(((hr1.take (k:=m) ah).below (hb.mono ah)).more (show w.heap.size<=N.heap.size from by have:=hb.size;omega)));have hm1:(m:Int)<=c:=ah;have hm0:(0:Int)<=m:=ah;have hmc:m<=c:=ah;have E:=af hI;have H:=af hB;have HW:=af hW;have C:=af Z;clear hy hyl h16 hI hJ hB hr1 Z oa op ol ha hr hn;go_enter Tryz.func125,Tryz.ntmps125;go_wp2;rw[Jt,hW];clear hW;have HRZ:=af (g.o (W.alloc (.cells (agi Z8) 52)).drew (rQ (baqq _ _)));have KZ:=af (KN.o (W.alloc (.cells (agi Z8) 52)).drew HRZ.o);rw[dP] at KZ;have hltJ:w.heap.size+1<W.heap.size:=by have:=C.o;omega
 have hne1: ¬W.heap.size=w.heap.size+1:=ah;have hne2: ¬w.heap.size+1=W.heap.size:=ah;go_region_held3 (fun w'=>w'.cell? ⟨w.heap.size+1,0,none⟩=some (.int .i64 p0)/\w'.cell? ⟨w.heap.size+1,1,none⟩=some (.int .i64 p1)/\w'.cell? ⟨w.heap.size+1,2,none⟩=some (.int .i64 p2)/\w'.cell? ⟨w.heap.size+1,3,none⟩=some (.int .i64 p3)/\w'.cell? ⟨w.heap.size+1,4,none⟩=some (.int .i64 p4)/\w'.cell? ⟨w.heap.size+1,5,none⟩=some (.int .i64 p5)/\w'.cell? ⟨w.heap.size+1,6,none⟩=some (.int .i64 p6)/\w'.cell? ⟨w.heap.size+1,7,none⟩=some (.int .i64 p7)) (go_keep) (first
  |(go_at_call 126;(with_reducible refine(KN.o W.drew (g.o _ (rQ (aP _ _)))).mono ?_);rintro e w2 ⟨rfl,hB⟩;have HB2:=af hB;clear hB;have D:W.heap.size<=w2.heap.size:=HB2.o.size;have n1: ¬w2.heap.size=w.heap.size+1:=ah;have n2: ¬w.heap.size+1=w2.heap.size:=ah;have k0:=(HB2.o.cell (p:=⟨w.heap.size+1,0,none⟩) (show w.heap.size+1<W.drew.heap.size from hltJ)).trans c0;have k1:=(HB2.o.cell (p:=⟨w.heap.size+1,1,none⟩) (show w.heap.size+1<W.drew.heap.size from hltJ)).trans c1;have k2:=(HB2.o.cell (p:=⟨w.heap.size+1,2,none⟩) (show w.heap.size+1<W.drew.heap.size from hltJ)).trans c2;have I:=(HB2.o.cell (p:=⟨w.heap.size+1,3,none⟩) (show w.heap.size+1<W.drew.heap.size from hltJ)).trans c3;have P:=(HB2.o.cell (p:=⟨w.heap.size+1,4,none⟩) (show w.heap.size+1<W.drew.heap.size from hltJ)).trans c4;have b:=(HB2.o.cell (p:=⟨w.heap.size+1,5,none⟩) (show w.heap.size+1<W.drew.heap.size from hltJ)).trans c5;have u:=(HB2.o.cell (p:=⟨w.heap.size+1,6,none⟩) (show w.heap.size+1<W.drew.heap.size from hltJ)).trans c6;have r:=(HB2.o.cell (p:=⟨w.heap.size+1,7,none⟩) (show w.heap.size+1<W.drew.heap.size from hltJ)).trans c7)
  |(go_at_call 126;(with_reducible refine KZ.o.mono ?_);rintro e w2 ⟨rfl,hB⟩;have b9:IB w2 W.heap.size 52 Z8:=Blk.below' (Blk.drew (IB.new W 52 Z8)) hB;have z0:w2.cell? ⟨W.heap.size,0,none⟩=some (.int .i64 0):=IB.cell b9 0 aA;have g0:w2.frozen? ⟨W.heap.size,0,none⟩=false:=Blk.frozen b9 0;have z1:w2.cell? ⟨W.heap.size,1,none⟩=some (.int .i64 0):=IB.cell b9 1 aA;have g1:w2.frozen? ⟨W.heap.size,1,none⟩=false:=Blk.frozen b9 1;have z2:w2.cell? ⟨W.heap.size,2,none⟩=some (.int .i64 0):=IB.cell b9 2 aA;have g2:w2.frozen? ⟨W.heap.size,2,none⟩=false:=Blk.frozen b9 2;have z3:w2.cell? ⟨W.heap.size,3,none⟩=some (.int .i64 0):=IB.cell b9 3 aA;have g3:w2.frozen? ⟨W.heap.size,3,none⟩=false:=Blk.frozen b9 3;have z4:w2.cell? ⟨W.heap.size,4,none⟩=some (.int .i64 0):=IB.cell b9 4 aA;have g4:w2.frozen? ⟨W.heap.size,4,none⟩=false:=Blk.frozen b9 4;have z5:w2.cell? ⟨W.heap.size,5,none⟩=some (.int .i64 0):=IB.cell b9 5 aA;have g5:w2.frozen? ⟨W.heap.size,5,none⟩=false:=Blk.frozen b9 5;have z6:w2.cell? ⟨W.heap.size,6,none⟩=some (.int .i64 0):=IB.cell b9 6 aA;have g6:w2.frozen? ⟨W.heap.size,6,none⟩=false:=Blk.frozen b9 6;have z7:w2.cell? ⟨W.heap.size,7,none⟩=some (.int .i64 0):=IB.cell b9 7 aA;have g7:w2.frozen? ⟨W.heap.size,7,none⟩=false:=Blk.frozen b9 7;have HB2:=af hB;have S:=af b9;clear hB b9;have k0:=(HB2.o.cell (p:=⟨w.heap.size+1,0,none⟩) aC).trans (((aP _ W).alloc (ax _) _).cell (p:=⟨w.heap.size+1,0,none⟩) hltJ|>.trans c0);have k1:=(HB2.o.cell (p:=⟨w.heap.size+1,1,none⟩) aC).trans (((aP _ W).alloc (ax _) _).cell (p:=⟨w.heap.size+1,1,none⟩) hltJ|>.trans c1);have k2:=(HB2.o.cell (p:=⟨w.heap.size+1,2,none⟩) aC).trans (((aP _ W).alloc (ax _) _).cell (p:=⟨w.heap.size+1,2,none⟩) hltJ|>.trans c2);have I:=(HB2.o.cell (p:=⟨w.heap.size+1,3,none⟩) aC).trans (((aP _ W).alloc (ax _) _).cell (p:=⟨w.heap.size+1,3,none⟩) hltJ|>.trans c3);have P:=(HB2.o.cell (p:=⟨w.heap.size+1,4,none⟩) aC).trans (((aP _ W).alloc (ax _) _).cell (p:=⟨w.heap.size+1,4,none⟩) hltJ|>.trans c4);have b:=(HB2.o.cell (p:=⟨w.heap.size+1,5,none⟩) aC).trans (((aP _ W).alloc (ax _) _).cell (p:=⟨w.heap.size+1,5,none⟩) hltJ|>.trans c5);have u:=(HB2.o.cell (p:=⟨w.heap.size+1,6,none⟩) aC).trans (((aP _ W).alloc (ax _) _).cell (p:=⟨w.heap.size+1,6,none⟩) hltJ|>.trans c6);have r:=(HB2.o.cell (p:=⟨w.heap.size+1,7,none⟩) aC).trans (((aP _ W).alloc (ax _) _).cell (p:=⟨w.heap.size+1,7,none⟩) hltJ|>.trans c7)))
 ·have d:=Blk.alloc (Blk.below' (Blk.drew E.o) HB2.o) (.cells (agi [B,z,y2,K,f,j,G,J]) 52)
  have Q:=IB.new w2 52 [B,z,y2,K,f,j,G,J];have IL:=((H.o.drew).trans (HB2.o.mono (show w.heap.size<=W.drew.heap.size from(show w.heap.size<=W.heap.size from ah)))).alloc (show w.heap.size<=w2.heap.size from ah) (.cells (agi [B,z,y2,K,f,j,G,J]) 52);rw[Jt] at d IL;generalize hV:World.alloc w2 _=V;rw[hV] at d IL;have R:IB V w2.heap.size 52 [B,z,y2,K,f,j,G,J]:=by rw[<-hV];exact Q
  generalize w2.heap.size=g9 at*
  exact ahF
 ·have IA0:=Blk.below' (Blk.drew (Blk.alloc E.o (.cells (agi Z8) 52))) HB2.o
  have far:∀(N:Wd) (i:Nat) (v:Value),Blk N w.heap.size 73 (agi a)->Blk (N.setCell ⟨W.heap.size,i,none⟩ v) w.heap.size 73 (agi a):=fun N i v h=>Blk.far h (show w.heap.size≠W.heap.size from ah) v;have d:=far _ 7 (.int .i64 J) (far _ 6 (.int .i64 G) (far _ 5 (.int .i64 j) (far _ 4 (.int .i64 f) (far _ 3 (.int .i64 K) (far _ 2 (.int .i64 y2) (far _ 1 (.int .i64 z) (far _ 0 (.int .i64 B) IA0)))))));have R:=IB.set8 S.o B z y2 K f j G J;have IL:=aey (((H.o.alloc (show w.heap.size<=W.heap.size from ah) (.cells (agi Z8) 52)).drew).trans (HB2.o.mono aC)) (show w.heap.size<=W.heap.size from ah) B z y2 K f j G J;generalize World.setCell _ _ _=V at*
  generalize W.heap.size=g9 at*
  exact ahF
theorem D8(a p l:Lz)(M:Oz)(O n:Nat)(w:Wd)(U:a.length=9)(X:p.length=8)(hr:Rs w w.heap.size M l)(V:l.length=n)(hl:n<=17592186044000)(hc:n<=O):
 Cl 50 #[.agg (agi a),.agg (agi p),.slice M n O] w (tZ w (if dZ a p l then eG a p l n else[]) (if dZ a p l then fH p (eG a p l n) else Z8) (bz (dZ a p l))):=by
 have hR:=PT (fn:=Tryz.f50) (p:=6) (q:=7) (r:=8) (ty:=52) rfl;have h:=Sx.start w a p;have u:=hr.below h.bel;rw[dP] at h;rw[dP] at u;have h:=af h;have u:=af u;have F:=af U;have j:=af X;have HN:=af V;have HR:=af hr;have KG:=af (fun(W:Wd) (D:Rs W W.heap.size M l)=>anI a p l M O n 0 W U X D V ah);clear U X V hr;obtain⟨Y,S⟩:=ak ((if dZ a p l then eG a p l n else[]));obtain⟨Z,T⟩:=ak ((if dZ a p l then fH p (eG a p l n) else Z8));rw[<-S,<-T];have d:=af S;have b:=af T;clear S T;go_enter Tryz.func50,Tryz.ntmps50;go_wp2_with(first
  |(refine aK 73 (.tmp 3) a 9 h.o.A bP bC F.o ?_)
  |(refine aK 52 (.tmp 4) p 8 h.o.P aU aJ j.o ?_))
 refine(KG.o _ (u.o.more aC)).mono ?_;rintro e w1 ⟨rfl,f⟩;have S1:=af (h.o.below f);clear f h u KG;by_cases G:dZ a p l=true
 ·have HG:=af G
  rw[G];have z:=d.o;have z1:=b.o;rw[if_pos G] at z z1;have H:=af z;have I:=af z1;clear z z1;obtain⟨ga,gz,gp,gl⟩:okP a=true/\a.getD 0 0=4096/\aG p=true/\aG l=true:=by simpa[dZ] using G
  have GA:=af ga;have t:=af gp;have GL:=af gl;clear G ga gz gp gl;go_wp2;go_loopw[9,20] (fun ov iv wr=> ∃(k:Nat) (A:Oz) (c:Nat) (ys:Lz),k<=n/\iv=.int .i64 k/\ov=.slice A k c/\Hy (ys=eG a p l k)/\Hy (Own wr (w.heap.size+3) A c ys)/\Hy (Sx w wr a p)) (fun _ iv _=>n-(intOf iv).toNat)
  case atStart=>exact⟨0,none,0,[],ah,rfl,rfl,af rfl,af Own.nil,S1⟩
  case round=>
   clear S1;obtain⟨k,A,c,ys,hk,rfl,rfl,m,Q,C⟩:=hrel;have i:=af (show ys.length=k by rw[m.o,yF]);by_cases hlt:k<n
   ·obtain⟨ad,rfl,hadb,c1⟩:=(HR.o.below C.o.bel).at_ (k:=k) iT
    have xb:=gU GL.o k;have YT:=aj (ys.take k=ys) (kU (by rw[i.o];exact ax _));have q16:=aj (aG (fH p ys)=true) (Du _ _ t.o (by rw[m.o];exact yG _ _ _ _));have KC:=aj (k<=c) (by have:=Q.o.cap.1;rw[i.o] at this;exact this);have L:=af (show ys++[s16 (l.getD k 0-pI a (fH p ys))]=eG a p l (k+1) by rw[eG,<-m.o]);obtain⟨x,hx⟩:=ak (l.getD k 0);rw[<-hx] at c1 xb L;have gb:=acR GA.o q16.o;have K1:=af (fun W D=>anJ a p ys A c k k W F.o j.o GA.o t.o (by rw[m.o];exact yG _ _ _ _) D i.o ah (ax _) KC.o);rw[YT.o] at K1;generalize pI a (fH p ys)=g at*
    obtain⟨N,J⟩:=xb;obtain⟨g1,g2⟩:=gb;have hw1:IntKind.i64.wrap (x-g)=x-g:=aV;have K:=af (Q.o.reads);obtain⟨y,hy⟩:=ak (s16 (x-g));rw[<-hy] at L;have HX:=af hx;have KS:=af (fun W=>sN (x-g) W ah ah);rw[<-hy] at KS;clear hx hy;go_wp2_with(first
     |(refine aK 73 (.tmp 3) a 9 C.o.A bP bC F.o ?_)
     |(refine aK 52 (.tmp 4) p 8 C.o.P aU aJ j.o ?_))
    refine(K1.o _ K.o).mono ?_;rintro e w2 ⟨rfl,f⟩;have s:=af (C.o.below f);have E:=af (Q.o.below f);clear f C Q c1;go_wp2_with fail;refine(KS.o _).mono ?_;rintro e w3 ⟨rfl,f⟩;have S3:=af (s.o.below f);have O3:=af (E.o.below f);clear f s E;go_wp2_with(at_builtin;refine wR rfl (.tmp 25) (.tmp 34) rfl (w.heap.size+3) A c k ys rfl i.o (O3.o.alloc _) ⟨w3.heap.size,0,none⟩ y rfl (oH w3 _ _) ah (dL S3.o.lt ay) ?_;intro A2 c2 w5 hO hG hA;have O5:=af hO;have G5:=af hG;clear hO hG hA);have S5:=af ((S3.o.alloc _).grown (O3.o.alloc _) G5.o);go_wp2;go_roundw;case rel=>exact⟨k+1,A2,c2,_,ah,aT,rfl,L,O5,S5⟩
    case measure=>exact aW
   obtain rfl:k=n:=ah;have B:=af (show Y=ys by rw[H.o,m.o]);have KC:=aj (k<=c) (by have:=Q.o.cap.1;rw[i.o] at this;exact this);have KN:=af (fun(W:Wd) (D:Rs W W.heap.size A ys)=>aex p ys A c k 0 W j.o D i.o ah);have FZ:=af (show Z=fH p ys by rw[I.o,m.o]);have ZL:=aj ((fH p ys).length=8) (tC _ _ j.o);have K:=af (Q.o.reads);go_wp2_with(refine aK 52 (.tmp 4) p 8 C.o.P aU aJ j.o ?_);refine(KN.o _ K.o).mono ?_;rintro e w2 ⟨rfl,f⟩;have s:=af (C.o.below f);have E:=af (Q.o.below f);clear f C Q;go_wp2_with(refine aQ 52 (.tmp 7) (.tmp 40) Z8 (fH p ys) 8 s.o.R aJ rfl ZL.o ?_);refine aX (v:=_) (hR _ _ _ 52 (fH p ys) _ 8 rfl (IB.setRow s.o.R _) aU rfl aJ ZL.o) rfl ?_;exact⟨A,c,by rw[B.o,FZ.o,i.o,HG.o];rfl,by rw[B.o];exact(E.o.setRow ah _).more ah,aS s.o.bel ah _⟩
 ·have hb:dZ a p l=false:=Gs
  rw[hb];go_wp2_with(refine aQ 52 (.tmp 7) (.tmp 17) Z8 Z8 8 S1.o.R aJ rfl rfl ?_);exact aif
def jI(n:Nat):Lz:=(List.replicate n 0).set 0 4096
def xn(n:Int):Bool:=decide (0<=n/\n<=80)
def nV(a:Lz)(n:Int):Lz:=if xn n then(if dZ a Z8 (jI n.toNat) then eG a Z8 (jI n.toNat) n.toNat else[]) else[]
def rq(a:Lz)(n:Int):Int:=if xn n then bz (dZ a Z8 (jI n.toNat)) else 1
theorem aez(n:Nat):(jI n).length=n:=by simp[jI]
theorem PU(h:n<0\/80<n):xn n=false:=by unfold xn;simp;omega
theorem aeA(a:0<=n)(b:n<=80):xn n=true:=by unfold xn;simp;omega
def xq(n k:Nat):Lz:=if k=0 then List.replicate n 0 else jI n
theorem aeB(n k:Nat):(xq n k).length=n:=by unfold xq;split<;>simp[jI]
theorem anK(k:Nat):xq k k=jI k:=by
 unfold xq;split
 ·rename_i h;subst h;rfl
 rfl
theorem anL(a:Lz)(n:Int)(w:Wd)(i:a.length=9):Cl 66 #[.agg (agi a),.int .i64 n] w (NewSE w (nV a n) (rq a n)):=by
 by_cases h1:n<0\/80<n
 ·rw[show nV a n=[] from by unfold nV;rw[PU h1];rfl,show rq a n=1 from by unfold rq;rw[PU h1];rfl]
  have D:=af (NewSE.none_ (er:=1) ((aP _ w).alloc (ax _) (.cells (agi a) 73)));rcases h1 with h1|h1
  ·go_enter Ti,Tj
   go_wp2;go_ret2;exact D.o
  have h2: ¬n<0:=ah;go_enter Ti,Tj;go_wp2;go_ret2;exact D.o
 obtain⟨N,rfl⟩:=gI (show 0<=n from ah);have hb:xn (N:Nat)=true:=aeA ah ah;have z:N<=80:=ah;obtain⟨ys,f⟩:=ak (nV a (N:Nat));obtain⟨er,Y⟩:=ak (rq a (N:Nat));have c:∀W A,Rs W W.heap.size A (jI N)->Cl 64 #[.agg (agi a),.agg (agi Z8),.slice A N N] W (fun e w'=> ∃A3 c3 q,q.length=8/\e=.returned (.tuple #[.slice A3 ys.length c3,.agg (agi q),.int .i64 er])/\Own w' W.heap.size A3 c3 ys/\Bw W w'):=fun W A h=>by
  refine(Yx a Z8 (jI N) A N N W i rfl h (aez N) ah).mono ?_;exact ahT
 rw[<-f,<-Y];clear f Y hb h1;rw[dP] at c;have t:=af c;clear c;have M:=af (IB.new w 73 a);have k:=af i;clear i;have u:decide ((N:Int)<0)=false:=Gu;have v:decide (80<(N:Int))=false:=aC;by_cases l:N=0
 ·subst l
  have c:=af (fun W A=>t.o W A);clear t;go_enter Ti,Tj;go_wp2_with(first
   |(at_make;refine nK rfl _ _ rfl .i64 .i64 0 rfl rfl w.heap.size ah ay ?_;intro j hO b;simp only[bT] at hO;have g:=aj (Own j w.heap.size (some ⟨w.heap.size+1,0,none⟩) 0 (jI 0)) (hO);have d:=af (Blk.grown M.o b ay);have B1:=af ((baqq w (.cells (agi a) 73)).grown b ay ay);clear hO b)
   |(refine aK 73 (.tmp 2) a 9 d.o bP bC k.o ?_))
  refine(c.o _ _ g.o.reads).mono ?_;exact ahZ
 have x:decide (0<(N:Int))=true:=aC;have B:(0:Int)<N:=ah;have m:0<N:=ah;have r:=af (fun W A h=>t.o W A h);clear t l;go_enter Ti,Tj;go_wp2_with(first
  |(at_make;refine nK rfl _ _ rfl .i64 .i64 N rfl rfl w.heap.size ah ay ?_;intro j hO b;simp only[bT] at hO;have s:=hO.cell 0 (by simpa using m);have y:=hO.frozen 0;have g:=aj (Own (j.setCell ⟨w.heap.size+1,0,none⟩ (.int .i64 4096)) w.heap.size (some ⟨w.heap.size+1,0,none⟩) N (jI N)) (hO.set_ 0 (by simpa using m) 4096);have d:=af (Blk.far (Blk.grown M.o b ay) (p:=⟨w.heap.size+1,0,none⟩) (show w.heap.size≠w.heap.size+1 from ah) (.int .i64 4096));have B1:=af (((baqq w (.cells (agi a) 73)).grown b ay ay).setCell (p:=⟨w.heap.size+1,0,none⟩) (show w.heap.size<=w.heap.size+1 from ah) (.int .i64 4096));clear hO b)
  |(refine aK 73 (.tmp 2) a 9 d.o bP bC k.o ?_))
 refine(r.o _ _ g.o.reads).mono ?_;exact ahZ
theorem anM(a:Lz)(n:Int)(w:Wd)(u:a.length=9):Cl 110 #[.agg (agi a),.int .i64 n] w (NewSE w (nV a n) (rq a n)):=by
 by_cases h1:n<0\/80<n
 ·rw[show nV a n=[] from by unfold nV;rw[PU h1];rfl,show rq a n=1 from by unfold rq;rw[PU h1];rfl]
  have D:=af (NewSE.none_ (er:=1) ((aP _ w).alloc (ax _) (.cells (agi a) 73)));rcases h1 with h1|h1
  ·go_enter Tryz.func110,aav
   go_wp2;go_ret2;exact D.o
  have h2: ¬n<0:=ah;go_enter Tryz.func110,aav;go_wp2;go_ret2;exact D.o
 obtain⟨N,rfl⟩:=gI (show 0<=n from ah);have hb:xn (N:Nat)=true:=aeA ah ah;have P:N<=80:=ah;obtain⟨ys,f⟩:=ak (nV a (N:Nat));obtain⟨er,Y⟩:=ak (rq a (N:Nat));have m:∀W A,Rs W W.heap.size A (jI N)->Cl 50 #[.agg (agi a),.agg (agi Z8),.slice A N N] W (fun e w'=> ∃A3 c3 q,q.length=8/\e=.returned (.tuple #[.slice A3 ys.length c3,.agg (agi q),.int .i64 er])/\Own w' W.heap.size A3 c3 ys/\Bw W w'):=fun W A h=>by
  refine(D8 a Z8 (jI N) A N N W u rfl h (aez N) ah ah).mono ?_;exact ahT
 rw[<-f,<-Y];clear f Y hb h1;rw[dP] at m;have t:=af m;clear m;have M:=af (IB.new w 73 a);have B:=af u;clear u;have I:decide ((N:Int)<0)=false:=Gu;have J:decide (80<(N:Int))=false:=aC;go_enter Tryz.func110,aav;go_wp2_with(at_make;refine nK rfl _ _ rfl .i64 .i64 N rfl rfl w.heap.size ah ay ?_;intro F g s;simp only[bT] at g;have b:=aj (Own F w.heap.size (some ⟨w.heap.size+1,0,none⟩) N (xq N 0)) (g);have d:=af (Blk.grown M.o s ay);have c:=af ((baqq w (.cells (agi a) 73)).grown s ay ay);clear g s);go_loopw[21] (fun v wr=> ∃k:Nat,k<=N/\v=.int .i64 k/\Hy (Own wr w.heap.size (some ⟨w.heap.size+1,0,none⟩) N (xq N k))/\Hy (IB wr w.heap.size 73 a)/\Hy (Bw w wr)) (fun v _=>N-(intOf v).toNat)
 case atStart=>exact⟨0,ah,rfl,b,d,c⟩
 case round=>
  clear b d c;obtain⟨k,Q,rfl,b,d,c⟩:=hrel;by_cases j:k<N
  ·by_cases r:k=0
   ·subst r
    have G:=b.o.cell 0 (by rw[aeB];exact j);have O:=b.o.frozen 0;have R:(0:Int)<N:=ah;have i:=aj (Own (wr.setCell ⟨w.heap.size+1,0,none⟩ (.int .i64 4096)) w.heap.size (some ⟨w.heap.size+1,0,none⟩) N (xq N 1)) (b.o.set_ 0 (by rw[aeB];exact j) 4096);have A2:=af (Blk.far d.o (p:=⟨w.heap.size+1,0,none⟩) (show w.heap.size≠w.heap.size+1 from ah) (.int .i64 4096));have l:=af (c.o.setCell (p:=⟨w.heap.size+1,0,none⟩) (show w.heap.size<=w.heap.size+1 from ah) (.int .i64 4096));go_wp2;go_roundw;case rel=>exact⟨1,ah,aT,i,A2,l⟩
    case measure=>exact aW
   have H:((k:Int)==0)=false:=Gu;have K:((k:Int) !=0)=true:=Gu;have L: ¬(k:Int)=0:=ah;have i:=aj (Own wr w.heap.size (some ⟨w.heap.size+1,0,none⟩) N (xq N (k+1))) (by have h:=b.o;unfold xq at h|-;rw[if_neg r] at h;rw[if_neg ah];exact h);clear b r;go_wp2;go_roundw;case rel=>exact⟨k+1,ah,aT,i,d,c⟩
   case measure=>exact aW
  obtain rfl:k=N:=ah;have i:=aj (Own wr w.heap.size (some ⟨w.heap.size+1,0,none⟩) k (jI k)) (by have h:=b.o;rw[anK] at h;exact h);go_wp2_with(refine aK 73 (.tmp 2) a 9 d.o bP bC B.o ?_);refine(t.o _ _ i.o.reads).mono ?_;rintro e x ⟨A3,c3,q,z,rfl,g,y⟩;have C:=af z;have E:=af g;have l:=af (aH c.o y);clear y g z;go_wp2_with(refine aQ 52 (.tmp 9) (.tmp 36) Z8 q 8 (IB.new x 52 Z8) aJ rfl C.o ?_);go_ret2;exact⟨A3,c3,rfl,(E.o.below (dI x (.cells (agi Z8) 52) _)).more c.o.size,l.o.trans ((dI x (.cells (agi Z8) 52) _).mono l.o.size)⟩
def uf(a b:Lz)(i:Nat):Int:=s16 (a.getD i 0-b.getD i 0)
def yM(a b:Lz)(n:Nat):Lz:=(List.range n).map (uf a b)
def pR(l:Lz)(g:Int)(i:Nat):Int:=s16 ((l.getD i 0*g+8192)/16384)
def vG(l:Lz)(g:Int)(n:Nat):Lz:=(List.range n).map (pR l g)
theorem Ju(a b:Lz)(n:Nat):(yM a b n).length=n:=by simp[yM]
theorem Yy(l:Lz)(g:Int)(n:Nat):(vG l g n).length=n:=by simp[vG]
theorem aeC(f:Nat->Int)(h:∀i,∃x,f i=s16 x)(n:Nat):aG ((List.range n).map f)=true:=by
 unfold aG;rw[lM];intro y b;obtain⟨i,_,rfl⟩:=List.mem_map.1 b;obtain⟨x,a⟩:=h i;rw[a];exact acT x
theorem aeD(a b:Lz)(n:Nat):aG (yM a b n)=true:=aeC _ (fun i=>⟨_,rfl⟩) n
theorem anN(l:Lz)(g:Int)(n:Nat):aG (vG l g n)=true:=aeC _ (fun i=>⟨_,rfl⟩) n
def lm(m:Mm)(a:Lz):Lz:=eG a m.p (List.replicate 40 0) 40
def chT(m:Mm)(a l:Lz):Lz:=yM l (lm m a) 40
def chR(a:Lz):Lz:=nV a 40
def chK(m:Mm)(a l:Lz):Int×Int×Int:=pkS (chR a) m.e (chT m a l) 60
def chP(m:Mm)(a l:Lz):Int:=mD (chK m a l).2.1 (chK m a l).2.2
def chV(m:Mm)(a l:Lz):Lz:=foL (chR a) (dU m.e (chK m a l).1)
def ji(m:Mm)(a l:Lz):Lz:=yM (chT m a l) (vG (chV m a l) (dJ (chP m a l)) 40) 40
def chD(m:Mm)(a l:Lz):Lz:=tgL (ji m a l) (chR a)
def chI(m:Mm)(a l:Lz):Lz:=fV (chD m a l) (chR a) 8
def chS(m:Mm)(a l:Lz):Int:=oQ (chD m a l) (chI m a l) 4
def chF(m:Mm)(a l:Lz):Lz:=foL (chR a) (blL (chI m a l) (chS m a l) 4096)
def chL(m:Mm)(a l:Lz):Int:=lT (bQ (ji m a l) (chF m a l) 40*4096) (bQ (chF m a l) (chF m a l) 40)
def chU(m:Mm)(a l:Lz):Lz:=((chK m a l).1-20)::chP m a l::(chI m a l++[chS m a l,chL m a l])
theorem Yz(n:Nat):aG (List.replicate n 0)=true:=by
 unfold aG;rw[lM];intro x a;rw[agZ a];decide
theorem anO:aG (jI 40)=true:=aA
section
variable {m:Mm} {a l:Lz}
theorem aeE:(lm m a).length=40:=yF _ _ _ _
theorem D9:(chT m a l).length=40:=Ju _ _ _
theorem Ea:aG (chT m a l)=true:=aeD _ _ _
theorem YA(c:kw a):nV a 40=eG a Z8 (jI 40) 40/\rq a 40=0:=by
 have d:xn 40=true:=aA;have b:dZ a Z8 (jI (40:Int).toNat)=true:=DV c (Yz 8) anO;unfold nV rq;rw[d,if_pos rfl,if_pos rfl,b,if_pos rfl];exact⟨rfl,rfl⟩
theorem Jv(b:kw a):(chR a).length=40:=by unfold chR;rw[(YA b).1];exact yF _ _ _ _
theorem Eb(b:kw a):aG (chR a)=true:=by unfold chR;rw[(YA b).1];exact yG _ _ _ _
theorem PV(b:kw a):pkR (chR a)=true:=by unfold pkR;rw[Eb b,Jv b];rfl
theorem AO:20<=(chK m a l).1/\(chK m a l).1<=79:=ani _ _ _ 60 (ax _)
theorem aeF(vs:Lz)(b c e:Int){k:Nat}(h:0<k):0<=iF vs b c e (k+1)/\iF vs b c e (k+1)<=k:=by
 have d:=PR vs b c e k;rw[PQ vs b c e h];split<;>omega
theorem anP(c e:Int):0<=mD c e/\mD c e<=7:=by
 unfold mD;split
 ·omega
 exact aeF cO 16384 (iM c) (iM e) (k:=7) ah
theorem anQ(c e:Int):0<=lT c e/\lT c e<=31:=by
 unfold lT;split
 ·omega
 exact aeF glL 1 (pO c) (mF e) (k:=31) ah
theorem Jw:0<=chP m a l/\chP m a l<=7:=anP _ _
theorem PW:(dU m.e (chK m a l).1).length=40:=Ae (sQ AO.1 AO.2)
theorem YC(g:aO m=true):aG (dU m.e (chK m a l).1)=true:=Yj (gU (jr g).2.2.1) _
theorem YD(g:aO m=true)(b:kw a):(chV m a l).length=40:=by
 have h:=Px (ring:=chR a) (v:=dU m.e (chK m a l).1) PW (YC g);rw[PV b] at h;exact h
theorem aeG:aG (chV m a l)=true:=Jo _ _
theorem Jy:(ji m a l).length=40:=Ju _ _ _
theorem AP:aG (ji m a l)=true:=aeD _ _ _
theorem YF(b:kw a):lS (ji m a l) (chR a)=0:=by
 rw[XC Jy (Jv b)];unfold tgB;rw[AP,Eb b];rfl
theorem PX(b:kw a):(chD m a l).length=40:=by unfold chD;rw[Om (YF b)];simp
theorem aeH(c:kw a):∀x∈chD m a l,-42949672960<=x/\x<=42949672960:=by
 intro x b;unfold chD at b;rw[Om (YF c)] at b;obtain⟨n,_,rfl⟩:=List.mem_map.1 b;have:=ac4 (gU (AP (m:=m) (a:=a) (l:=l))) (chR a) n 40;unfold tgE;omega
theorem aeI(b:kw a):W64 (chD m a l):=fun x c=>by have:=aeH b x c;omega
theorem aeJ(b:kw a):jA (chD m a l) (chR a)=0:=by
 unfold jA;rw[if_pos ⟨PX b,Jv b⟩,if_pos ?_];rw[lM];intro x c;have:=aeH b x c;simp;omega
theorem aeK:Ix (chI m a l):=yL _ _ _
theorem AQ:(chI m a l).length=4:=aeK.1
theorem aeL(d:j<4):0<=(chI m a l).getD j 0/\(chI m a l).getD j 0<=9:=by
 have h:=aeK (m:=m) (a:=a) (l:=l);have b:=h.2;unfold tX at b;have c:=Nz b j (by rw[h.1];exact d);simpa using c
theorem aeM:0<=chS m a l/\chS m a l<=15:=by
 have:=Jr (chD m a l) (chI m a l) 4;unfold chS oQ;omega
theorem PY:blB (chI m a l) (chS m a l) 4096=true:=by
 have h:=aeM (m:=m) (a:=a) (l:=l);unfold blB blS;rw[rV];refine⟨kH ⟨h,ah,ah⟩,?_⟩;have b:allTo okI (chI m a l) 4:=fun j c=>by
  have:=aeL (m:=m) (a:=a) (l:=l) c;exact Oq this.1 this.2
 exact b.all (by rw[AQ];exact ax _)
theorem Jz:(blL (chI m a l) (chS m a l) 4096).length=40:=by unfold blL;rw[PY];simp
theorem YG:aG (blL (chI m a l) (chS m a l) 4096)=true:=by
 unfold blL;rw[PY,if_pos rfl];unfold aG;rw[lM];intro y b;obtain⟨i,_,rfl⟩:=List.mem_map.1 b;unfold blE;split
 ·split<;>decide
 decide
theorem AU(b:kw a):(chF m a l).length=40:=by
 have h:=Px (ring:=chR a) (v:=blL (chI m a l) (chS m a l) 4096) Jz YG;rw[PV b] at h;exact h
theorem ru:aG (chF m a l)=true:=Jo _ _
theorem anR:0<=chL m a l/\chL m a l<=31:=anQ _ _
theorem anS:(chU m a l).length=8:=by unfold chU;simp[AQ]
theorem JA:UOk (chU m a l):=by
 have o:=AO (m:=m) (a:=a) (l:=l);have c:=Jw (m:=m) (a:=a) (l:=l);have d:=aeM (m:=m) (a:=a) (l:=l);have f:=anR (m:=m) (a:=a) (l:=l);have g:=AQ (m:=m) (a:=a) (l:=l);have b:∀j,j<4->0<=(chI m a l).getD j 0/\(chI m a l).getD j 0<=9:=fun j b=>aeL b;have h:=anS (m:=m) (a:=a) (l:=l);unfold chU at*
 generalize (chK m a l).1=k at*
 generalize chP m a l=p at*
 generalize chS m a l=s at*
 generalize chL m a l=v at*
 generalize chI m a l=I at*
 match I,g with
 |[i0,i1,i2,i3],_=>
  refine⟨h,⟨by show 0<=k-20;omega,by show k-20<=59;omega⟩,c,fun j i n=>?_,d,f⟩;have e:j=2\/j=3\/j=4\/j=5:=ah;rcases e with rfl|rfl|rfl|rfl
  ·exact b 0 ah
  ·exact b 1 ah
  ·exact b 2 ah
  exact b 3 ah
end
theorem aoa{Z n:Nat}(g:0<n)(f:Z/2^n<=2147483647)(c:2147483647<Z/2^(n-1)):gG Z=n+31:=by
 obtain⟨m,rfl⟩:∃m,n=m+1:=⟨n-1,ah⟩;rw[Rn] at c;have d:=Nat.div_mul_le_self Z (2^m);have e:=xJ (2^m) (show 2147483648<=Z/2^m from ah);have a:=(Rt (vS (m+1))).1 (show Z/2^(m+1)<2147483648 from ah);have b:2^(31+m)=2147483648*2^m:=by rw[lD]
 have S:2^(31+m+1)=2147483648*2^(m+1):=by rw[show 31+m+1=31+(m+1) from ah,lD]
 rw[Nr (k:=31+m) (by rw[b];omega) (by rw[S];exact a)];omega
theorem aob{Z m:Nat}(e:0<Z)(n:Z<=2147483647)(a:1073741824<=Z*2^m)(f:∀j,j<m->Z*2^j<1073741824):gG Z+m=31:=by
 by_cases O:m=0
 ·subst O
  rw[Nr (k:=30) ah ah]
 obtain⟨j,rfl⟩:∃j,m=j+1:=⟨m-1,ah⟩;have b:=f j ah;have g:2^j<2^30:=by
  have:=xJ (2^j) e;omega
 have h:j<30:=(Nat.pow_lt_pow_iff_right ah).1 g;obtain⟨k,c⟩:∃k,k+(j+1)=30:=⟨29-j,ah⟩;have d:2^k*2^(j+1)=1073741824:=by rw[<-lD,c]
 have S:2^(k+1)*2^j=1073741824:=by rw[<-lD,show k+1+j=k+(j+1) from ah,c]
 have i:2^k<=Z:=by
  rw[<-d] at a;exact Nat.le_of_mul_le_mul_right a (vS _)
 have l:Z<2^(k+1):=by
  rw[<-S] at b;exact Nat.lt_of_mul_lt_mul_right b
 rw[Nr i l];omega
def nY(l:Lz):Int:=(gG (fG l).natAbs:Nat)-31
def lu(l:Lz):Int->Int:=fun x=>if 0<nY l then x/2^(nY l).toNat else x*2^(-nY l).toNat
theorem aoc{Z n:Nat}(h:((Z:Int)/2^n)<=(c:Nat)):Z/2^n<=c:=by
 have e:((Z:Int)/2^n)=((Z/2^n:Nat):Int):=ay;rw[e] at h;exact Int.ofNat_le.1 h
theorem aod{Z n:Nat}(h:((c:Nat):Int)<((Z:Int)/2^n)):c<Z/2^n:=by
 have e:((Z:Int)/2^n)=((Z/2^n:Nat):Int):=ay;rw[e] at h;exact Int.ofNat_lt.1 h
theorem aoe{Z n:Nat}(h:((c:Nat):Int)<=((Z:Int)*2^n)):c<=Z*2^n:=by
 have e:((Z:Int)*2^n)=((Z*2^n:Nat):Int):=ay;rw[e] at h;exact Int.ofNat_le.1 h
theorem aof{Z n:Nat}(h:((Z:Int)*2^n)<((c:Nat):Int)):Z*2^n<c:=by
 have e:((Z:Int)*2^n)=((Z*2^n:Nat):Int):=ay;rw[e] at h;exact Int.ofNat_lt.1 h
def YO(l:Lz)(w:Wd)(e:Ending)(w':Wd):Prop:=e=.returned (.tuple #[.agg (agi (fM l (lu l) 9)),.int .i64 (nY l),.int .i64 0])/\Bw w w'
theorem aog{w':Wd}{e:Ending}(o:fU l)(h:aeZ l w e w'):YO l w e w':=by
 obtain⟨f,N,rfl,d,h⟩:=h;have p:=yO o;obtain⟨Z,g⟩:∃Z:Nat,fG l=(Z:Int):=⟨(fG l).toNat,ah⟩;have q:nY l=(gG Z:Nat)-31:=by unfold nY;rw[g];rfl
 rw[g] at h p;rcases h with⟨n,rfl,hn,rfl,h1,h2⟩|⟨m,rfl,rfl,h1,h2,h3⟩
 ·have c:Z/2^n<=2147483647:=aoc h1
  have a:2147483647<Z/2^(n-1):=aod h2;have i:=aoa hn c a;have b:nY l=(n:Int):=ah;have G:lu l=fun x=>x/2^n:=by
   funext x;unfold lu;rw[b,if_pos ah,uA]
  exact⟨by rw[G,b],d⟩
 have a:1073741824<=Z*2^m:=aoe h2;have i:=aob (Z:=Z) (m:=m) ah ah a (fun j k=>aof (h3 j k));have b:nY l= -(m:Int):=ah;have G:lu l=fun x=>x*2^m:=by
  funext x;unfold lu;rw[b,if_neg ah,Le,uA]
 exact⟨by rw[G,b],d⟩
theorem ae0(a:fU l): -30<=nY l/\nY l<=6:=by
 have d:=yO a;unfold nY;have b:gG (fG l).natAbs<=37:=zS ah;have c:gG (fG l).natAbs≠0:=by
  intro h;have:=Ie (fG l).natAbs;rw[h] at this;omega
 omega
theorem aoh(h:fU l){k:Nat}(r:k<9): -2147483648<=lu l (jB l k)/\lu l (jB l k)<=2147483647:=by
 have u:=yO h;have t:=Qe l r;have q:=Ie (fG l).natAbs;have s:=ae0 h;obtain⟨b,f⟩:=ak (gG (fG l).natAbs);have o:nY l=(b:Int)-31:=by unfold nY;rw[<-f]
 rw[<-f] at q;have g:fG l+1<=2^b:=by
  have e:((2^b:Nat):Int)=2^b:=ay;rw[<-e];omega
 unfold lu;rw[o];generalize jB l k=x at*
 generalize fG l=z at*
 split
 ·obtain⟨n,d⟩:∃n:Nat,b=n+31:=⟨b-31,ah⟩
  subst d;rw[show(((n+31:Nat):Int)-31).toNat=n from ah];have a:(0:Int)<2^n:=by exact_mod_cast vS n
  have c:(2:Int)^(n+31)=2147483648*2^n:=by rw[Int.pow_add,oC];rfl
  rw[c] at g;constructor
  ·exact(Int.le_ediv_iff_mul_le a).2 ah
  exact Int.lt_add_one_iff.1 ((Int.ediv_lt_iff_lt_mul a).2 ah)
 obtain⟨n,d⟩:∃n:Nat,b+n=31:=⟨31-b,ah⟩;rw[show(-((b:Int)-31)).toNat=n from ah];have a:(0:Int)<2^n:=by exact_mod_cast vS n
 have c:(2:Int)^b*2^n=2147483648:=by rw[<-Int.pow_add,d];rfl
 have i:=uB (show x+1<=2^b from ah) (Tz a);have J:=uB (show-(x+2^b)+1<=0 from ah) (Tz a);rw[c] at i;have j:(x+1)*2^n=x*2^n+2^n:=by rw[Lh,vT]
 have m:(-(x+2^b)+1)*2^n= -(x*2^n)-2147483648+2^n:=by rw[Lh,xO,Lh,c,vT];omega
 rw[j] at i;rw[m] at J;generalize x*2^n=y at*
 generalize (2:Int)^n=p at*
 omega
def og(o:Lz)(s:Nat):Lz:=(o.drop (s*40)).take 40
def Qh(o:Lz):Bool:=decide (bQ o o 80<16*80)
def vI(a:Bool)(o:Lz):Int:=if a then 1 else if Qh o then 2 else 0
def rD(a:Bool)(m:Mm):Mm:=if a then eQ else m
def YU(x:Lz):Lz:=dK 8 (jS (fM x (lu x) 9)).1
def enQ(x:Lz):Lz:=aL qV eU (YU x)
def lU(x:Lz):Lz:=(List.range 8).map (aF lvV (enQ x))
def enK(was now o:Lz)(m:Mm):Nat->Mm
 |0=>m
 |s+1=>frP false (frA was now s) (enK was now o m s) (chU (enK was now o m s) (frA was now s) (og o s))
def enU(was now o:Lz)(m:Mm)(s:Nat):Lz:=chU (enK was now o m s) (frA was now s) (og o s)
def enP(kd:Int)(q was now o:Lz)(m:Mm):Lz:=kd::(q++if kd=2 then List.replicate 16 0 else enU was now o m 0++enU was now o m 1)
section
variable {was now o:Lz} {m:Mm}
theorem Eh(s:Nat):UOk (enU was now o m s):=JA
theorem aoj(s:Nat):(enK was now o m s).r=m.r:=by
 induction s with
 |zero=>rfl
 |succ s ih=>rw[enK,XZ,ih]
theorem ae6(g:aO m=true)(s:Nat):aO (enK was now o m s)=true:=by
 induction s with
 |zero=>exact g
 |succ s ih=>exact adX false _ ih JA
theorem aok(k:m.ok)(s:Nat):(enK was now o m s).ok:=by
 induction s with
 |zero=>exact k
 |succ s ih=>exact Pi false _ ih JA
theorem aol{kd:Int}{q:Lz}(h:q.length=8):(enP kd q was now o m).length=25:=by
 unfold enP;split
 ·simp[h]
 have a:=(Eh (was:=was) (now:=now) (o:=o) (m:=m) 0).l;have b:=(Eh (was:=was) (now:=now) (o:=o) (m:=m) 1).l;simp[h,a,b]
theorem aom(x:Int)(l:Lz)(i:Nat):(x::l).getD (i+1) 0=l.getD i 0:=by simp[aaD]
theorem ae7{r:Lz}(h:i<l.length):(l++r).getD i 0=l.getD i 0:=by
 simp only[bK];rw[oD h]
theorem ae8{r:Lz}(h:l.length<=i):(l++r).getD i 0=r.getD (i-l.length) 0:=by
 simp only[bK];rw[uH h]
theorem ae9(h:UOk u)(f:j<8):0<=u.getD j 0/\u.getD j 0<=[59,7,9,9,9,9,15,31].getD j 0:=by
 have e:j=0\/j=1\/(2<=j/\j<6)\/j=6\/j=7:=ah;rcases e with rfl|rfl|⟨b,c⟩|rfl|rfl
 ·exact h.a
 ·exact h.g
 ·have d:=h.i j b c
  have:j=2\/j=3\/j=4\/j=5:=ah;rcases this with rfl|rfl|rfl|rfl<;>exact d
 ·exact h.s
 exact h.v
theorem aon{q v:Lz}(a:q.length=8)(b:u.length=8)(i:Nat)(kd:Int):(kd::(q++(u++v))).getD i 0=if i=0 then kd else if i<9 then q.getD (i-1) 0 else if i<17 then u.getD (i-9) 0 else v.getD (i-17) 0:=by
 match i with
 |0=>rfl
 |i+1=>
  rw[aom,if_neg ah];by_cases c:i<8
  ·rw[if_pos ah,ae7 ah];rfl
  rw[if_neg ah,ae8 ah,a];by_cases d:i-8<8
  ·rw[if_pos ah,ae7 ah];congr 1
  rw[if_neg ah,ae8 ah,b];congr 1
theorem afa{kd:Int}{q u v:Lz}(e:q.length=8)(f:u.length=8)(d:0<=kd/\kd<=2)(g:∀j,j<8->0<=q.getD j 0/\q.getD j 0<=pkT.getD (j+1) 0)
 (n:∀j,j<8->0<=u.getD j 0/\u.getD j 0<=[59,7,9,9,9,9,15,31].getD j 0) (p:∀j,j<8->0<=v.getD j 0/\v.getD j 0<=[59,7,9,9,9,9,15,31].getD j 0):dD (kd::(q++(u++v))) 25=true:=by
 unfold dD;rw[lM];intro i hi;have hi:i<25:=List.mem_range.1 hi;refine kH ?_;unfold qA;rw[aon e f];by_cases a:i=0
 ·subst a;exact d
 by_cases b:i<9
 ·rw[if_neg a,if_pos b]
  have h:=g (i-1) ah;rwa [show i-1+1=i from ah] at h
 have k:∀j,j<8->[59,7,9,9,9,9,15,31].getD j 0=pkT.getD (j+9) 0:=aA;have l:∀j,j<8->[59,7,9,9,9,9,15,31].getD j 0=pkT.getD (j+17) 0:=aA;by_cases c:i<17
 ·rw[if_neg a,if_neg b,if_pos c]
  have h:=n (i-9) ah;rwa [k _ ah,show i-9+9=i from ah] at h
 ·rw[if_neg a,if_neg b,if_neg c]
  have h:=p (i-17) ah;rwa [l _ ah,show i-17+17=i from ah] at h
theorem aoo(i k:Int)(n:Nat):0<=(qB i k n).1/\(qB i k n).1<=((n-1:Nat):Int):=by
 induction n with
 |zero=>simp[qB]
 |succ n ih=>
  unfold qB;split
  ·simp
  omega
theorem aop(b:j<8)(k:Int):0<=qV (j:Nat) k/\qV (j:Nat) k<=pkT.getD (j+1) 0:=by
 have a:∀j,j<8->(((lvM (j:Nat)).toNat-1:Nat):Int)<=pkT.getD (j+1) 0/\0<=pkT.getD (j+1) 0:=wK;have c:=a j b;unfold qV;split
 ·have d:=aoo (j:Nat) k (lvM (j:Nat)).toNat
  omega
 omega
theorem afb(x:Lz)(a:j<8):0<=(enQ x).getD j 0/\(enQ x).getD j 0<=pkT.getD (j+1) 0:=by
 unfold enQ aL;split
 ·rw[bJ _ a]
  unfold aF;exact aop a _
 have b:∀j,j<8->0<=Z8.getD j 0/\Z8.getD j 0<=pkT.getD (j+1) 0:=wK;exact b j a
theorem AZ(x:Lz):(enQ x).length=8:=by
 unfold enQ aL;split
 ·simp
 rfl
theorem YV{kd:Int}(b:0<=kd/\kd<=2)(x:Lz):dD (enP kd (enQ x) was now o m) 25=true:=by
 have c:∀j,j<8->0<=(List.replicate 8 (0:Int)).getD j 0/\(List.replicate 8 (0:Int)).getD j 0<=[59,7,9,9,9,9,15,31].getD j 0:=wK;unfold enP;split
 ·rw[show List.replicate 16 (0:Int)=List.replicate 8 0++List.replicate 8 0 from rfl]
  exact afa (AZ x) ay b (fun j a=>afb x a) c c
 exact afa (AZ x) (Eh 0).l b (fun j a=>afb x a) (fun j a=>ae9 (Eh 0) a) (fun j a=>ae9 (Eh 1) a)
end
section
variable {w w' wr:Wd} {g:Nat} {m:Mm}
theorem MB.thereP(h:MB w g m)(k:m.ok):w.there g 8 8:=fun j b=>by
 have a:=h.there k (8+j) ah;rwa [qK] at a
theorem MB.set_p(h:MB w g m)(k:m.ok)(p:Lz)(f:p.length=8):MB (w.setCells g 8 (au p)) g {m with p:=p}:=by
 have c:Blk w g 55 (au m.r++(au m.p++(au m.e++m.tl))).toArray:=by
  have b:m.ag=(au m.r++(au m.p++(au m.e++m.tl))).toArray:=rfl;rw[<-b];exact h
 have a:=qR (au p) (au m.p) _ _ w c (by rw[bf,bf,f,k.p]);have d:(au m.r).length=8:=by rw[bf,k.r]
 rw[d] at a;exact a
theorem JD{fn:Func}{p q:Tmp}(h:fn.results= #[.cell p 55,.tmp q])(a:Array Value)(w:Wd)(g:Nat)(m:Mm)
 (hp:a.getD p undef=.pointer (some ⟨g,0,none⟩)) (G:MB w g m) (k:m.ok):
 (results fn a).run Tryz.prog w=.ok (.tuple #[.agg m.ag,a.getD q undef]) w:=by
 have b:a[p]?.getD undef=.pointer (some ⟨g,0,none⟩):=uV;have c:=vO (P:=Tryz.prog) w g 55 55 m.ag (0,0) _ G kG rfl U0;simp[results,h,b,asAddr,c]
theorem oh(w:Wd):MB (w.alloc (.cells Tryz.zeroCells55 55)) w.heap.size aZ:=aaS
theorem Ms.setA{mm:Mm}(s:Ms w wr m):Ms w (wr.setRow w.heap.size mm.ag) mm:=
 ⟨s.A.setRow mm,Blk.rowFar s.R ah,aS s.bel (ax _) _⟩
end
structure Py(w wr:Wd)(m:Mm)(a:Lz):Prop where
 A:MB wr w.heap.size m
 F:IB wr (w.heap.size+1) 73 a
 R:MB wr (w.heap.size+2) aZ
 bel:Bw w wr
theorem Py.start(w:Wd)(m:Mm)(a:Lz):Py w (((w.alloc (.cells m.ag 55)).alloc (.cells (agi a) 73)).alloc (.cells Tryz.zeroCells55 55)) m a:=by
 have h1:=MB.new w m;have h2:=IB.new (w.alloc (.cells m.ag 55)) 73 a;have h3:=oh ((w.alloc (.cells m.ag 55)).alloc (.cells (agi a) 73));exact VK
theorem Py.below{wr w':Wd}(s:Py w wr m a)(b:Bw wr w'):Py w w' m a:=
 ⟨Blk.below' s.A b,Blk.below' s.F b,Blk.below' s.R b,aH s.bel b⟩
theorem Py.lt{wr:Wd}(s:Py w wr m a):w.heap.size+3<=wr.heap.size:=Blk.lt s.R
def pV(w:Wd)(mm:Mm)(ys:Lz)(e:Ending)(w':Wd):Prop:=∃A c,e=.returned (.tuple #[.agg mm.ag,.slice A ys.length c])/\Own w' w.heap.size A c ys/\Bw w w'
theorem YY(m:Mm)(k:m.ok)(a x:Lz)(A:Oz)(c n:Nat)(w:Wd)(J:a.length=9)(t:Rs w w.heap.size A x)(L:x.length=n)(hl:n<=40):
 Cl 39 #[.agg m.ag,.agg (agi a),.slice A n c] w (pV w {m with p:=lI a m.p x} (oO a m.p x)):=by
 have hR:=JD (fn:=Tryz.f39) (p:=6) (q:=7) rfl;have f:=af (Py.start w m a);have K:=af k;have Y:=af J;have h:=af (Xr (a:=a) (x:=x) k.p);have O:=af ((t.below f.o.bel).more f.o.bel.size);have Q:=af (fun W (t:Rs W W.heap.size A x)=>show Cl 64 #[.agg (agi a),.agg (au m.p).toArray,.slice A n c] W (tZ W (oO a m.p x) (lI a m.p x) (bz (dZ a m.p x))) from by
  have:=Yx a m.p x A c n W J k.p t L ah;unfold oO lI;rw[L];exact this)
 have l:(Tryz.prog.info? 52).map (·.size)=some (au m.p).length:=by rw[bf,k.p];exact sW
 have z:=af l;clear k J t L l;generalize hq:lI a m.p x=q at*
 generalize hy:oO a m.p x=y at*
 generalize bz (dZ a m.p x)=er at*
 clear hq hy;go_enter Tryz.func39,Tryz.ntmps39;go_wp2_with(first
  |(refine aK 73 (.tmp 4) a 9 f.o.F bP bC Y.o ?_)
  |(refine bZ rfl 52 (.tmp 13) rfl _ _ rfl (au m.p) _ (f.o.A.P K.o) aU rfl z.o ?_))
 refine(Q.o _ O.o).mono ?_;rintro e i ⟨N,S,rfl,U,T⟩;have S1:=af (f.o.below T);have G:=af f.o.lt;have Z:=af (U.more (base':=w.heap.size+3) G.o);clear U T f O Q;have E:=af (show({m with p:=q}:Mm).ok from⟨K.o.r,h.o,K.o.e⟩);have u:=af (dI i (.cells (agi Z8) 52) (agi q));obtain⟨M,b⟩:=ak ((i.alloc (.cells (agi Z8) 52)).setRow i.heap.size (agi q));rw[<-b] at u;have j:=af (S1.o.below u.o);have Q2:=af (show IB M i.heap.size 52 q by rw[b];exact IB.stored i 52 Z8 q);have O2:=af (Z.o.below u.o);rw[dP] at b;have B:=af b;clear b;obtain⟨V,d⟩:=ak (M.setCells w.heap.size 8 (au q));have s:=af (show Py w V {m with p:=q} a by
  rw[d];exact⟨j.o.A.set_p K.o q h.o,cZ ah _ _ _ j.o.F,cZ ah _ _ _ j.o.R,iJ (ax _) _ _ _ j.o.bel⟩)
 have O3:=af (show Own V (w.heap.size+3) N S y by rw[d];exact Own.setCs ah _ _ _ O2.o);have C:=af d;clear d;have I:=af (MB.setRow s.o.R {m with p:=q});have D:=af (aS s.o.bel (g:=w.heap.size+2) ah ({m with p:=q}:Mm).ag);have OF:=af ((O3.o.setRow (g:=w.heap.size+2) ah ({m with p:=q}:Mm).ag).more (base':=w.heap.size) ah);have X:=aj ((Tryz.prog.info? 52).map (·.size)=some (agi q).size) (by rw[dX,h.o];exact sW);have H:=aj (M.there w.heap.size 8 (agi q).size) (by rw[dX,h.o];exact j.o.A.thereP K.o);go_wp2_with(first
  |(refine aQ 52 (.tmp 9) (.tmp 18) Z8 q 8 (IB.new i 52 Z8) sW rfl h.o ?_;rw[<-B.o])
  |(refine aK 52 (.tmp 9) q 8 Q2.o aU sW h.o ?_)
  |(refine iY rfl 52 (.tmp 21) (.tmp 20) rfl w.heap.size 8 (agi q) rfl rfl H.o X.o (ik _) ?_;rw[show(agi q).toList=au q from rfl,<-C.o])
  |(refine iK rfl (.tmp 3) rfl _ {m with p:=q} rfl s.o.A E.o ?_)
  |(refine dW rfl (.tmp 6) (.tmp 22) rfl _ aZ {m with p:=q} rfl rfl s.o.R df E.o ?_))
 refine aX (v:=_) (hR _ _ _ {m with p:=q} rfl I.o E.o) rfl ?_;exact⟨N,S,rfl,OF.o,D.o⟩
theorem IB.mid{g:Nat}(h:IB w g t ps)(o n:Nat)(a:o<=ps.length):w.rangeAt g o (au ((ps.drop o).take n)):=
 iP h (au (ps.take o)) (au ((ps.drop o).take n)) (au (ps.drop (o+n))) (aoB ps o n) (by rw[bf,dR];omega)
section
variable {w:Wd} {g:Nat} {m:Mm}
theorem MB.set_la(h:MB w g m)(k:m.ok)(x:Int):MB (w.setCell ⟨g,98,none⟩ (.int .i64 x)) g {m with la:=x}:=h.set_tl k 2 (.int .i64 x) _ rfl rfl rfl rfl ah
theorem MB.set_pi(h:MB w g m)(k:m.ok)(x:Int):MB (w.setCell ⟨g,97,none⟩ (.int .i64 x)) g {m with pi:=x}:=h.set_tl k 1 (.int .i64 x) _ rfl rfl rfl rfl ah
theorem MB.set_ga(h:MB w g m)(k:m.ok)(x:Int):MB (w.setCell ⟨g,96,none⟩ (.int .i64 x)) g {m with ga:=x}:=h.set_tl k 0 (.int .i64 x) _ rfl rfl rfl rfl ah
theorem MB.set_si(h:MB w g m)(k:m.ok)(x:Bool):MB (w.setCell ⟨g,101,none⟩ (.bool x)) g {m with si:=x}:=h.set_tl k 5 (.bool x) _ rfl rfl rfl rfl ah
end
theorem afu{B b:Nat}{a:Wd}(c:B<=b)(h:Below B a w)(i j k:Nat)(x y z:Value):Below B a (((w.setCell ⟨b,i,none⟩ x).setCell ⟨b,j,none⟩ y).setCell ⟨b,k,none⟩ z):=((h.setCell c x).setCell c y).setCell c z
theorem Ep{g b:Nat}{c:Array Value}(a:g≠b)(h:Blk w g t c)(i j k:Nat)(x y z:Value):Blk (((w.setCell ⟨b,i,none⟩ x).setCell ⟨b,j,none⟩ y).setCell ⟨b,k,none⟩ z) g t c:=
 Blk.far (Blk.far (Blk.far h (p:=⟨b,i,none⟩) a x) (p:=⟨b,j,none⟩) a y) (p:=⟨b,k,none⟩) a z
theorem afv{base b:Nat}{A:Oz}(a:b<base)(h:Own w base A c xs)(i j k:Nat)(x y z:Value):Own (((w.setCell ⟨b,i,none⟩ x).setCell ⟨b,j,none⟩ y).setCell ⟨b,k,none⟩ z) base A c xs:=
 Own.setC (Own.setC (Own.setC h a i x) a j y) a k z
structure Hv(w wr:Wd)(m:Mm)(a u:Lz):Prop where
 A:MB wr w.heap.size m
 F:IB wr (w.heap.size+1) 73 a
 U:IB wr (w.heap.size+2) 78 u
 R:MB wr (w.heap.size+3) aZ
 bel:Bw w wr
theorem Hv.start(w:Wd)(m:Mm)(a u:Lz):Hv w ((((w.alloc (.cells m.ag 55)).alloc (.cells (agi a) 73)).alloc (.cells (agi u) 78)).alloc (.cells Tryz.zeroCells55 55)) m a u:=by
 have e:=MB.new w m;have b:=IB.new (w.alloc (.cells m.ag 55)) 73 a;have c:=IB.new ((w.alloc (.cells m.ag 55)).alloc (.cells (agi a) 73)) 78 u;have d:=oh (((w.alloc (.cells m.ag 55)).alloc (.cells (agi a) 73)).alloc (.cells (agi u) 78));simp only[bT] at b c d;exact⟨Blk.alloc (Blk.alloc (Blk.alloc e _) _) _,Blk.alloc (Blk.alloc b _) _,Blk.alloc c _,d,(((baqq _ _).alloc ay _).alloc aC _).alloc aC _⟩
section
variable {w wr w':Wd} {m:Mm} {a u:Lz}
theorem Hv.below(s:Hv w wr m a u)(b:Bw wr w'):Hv w w' m a u:=
 ⟨Blk.below' s.A b,Blk.below' s.F b,Blk.below' s.U b,Blk.below' s.R b,aH s.bel b⟩
theorem Hv.lt(s:Hv w wr m a u):w.heap.size+4<=wr.heap.size:=Blk.lt s.R
theorem Hv.setE(s:Hv w wr m a u)(k:m.ok)(e:Lz)(b:e.length=80):Hv w (wr.setCells w.heap.size 16 (au e)) {m with e:=e} a u:=
 ⟨s.A.set_e k e b,cZ ah _ _ _ s.F,cZ ah _ _ _ s.U,cZ ah _ _ _ s.R,iJ (ax _) _ _ _ s.bel⟩
theorem Hv.set3(s:Hv w wr m a u)(k:m.ok)(x y z:Int):Hv w (((wr.setCell ⟨w.heap.size,98,none⟩ (.int .i64 x)).setCell ⟨w.heap.size,97,none⟩ (.int .i64 y)).setCell ⟨w.heap.size,96,none⟩ (.int .i64 z)) {m with la:=x,pi:=y,ga:=z} a u:=
 ⟨((s.A.set_la k x).set_pi ⟨k.r,k.p,k.e⟩ y).set_ga ⟨k.r,k.p,k.e⟩ z,Ep ah s.F _ _ _ _ _ _,Ep ah s.U _ _ _ _ _ _,Ep ah s.R _ _ _ _ _ _,afu (ax _) s.bel _ _ _ _ _ _⟩
end
theorem JE:(Tryz.prog.info? 76).map (·.size)=some 4:=aB
theorem afw(m:Mm)(k:m.ok)(a u:Lz)(w:Wd)(T1:TabA w 4 dY)(T2:TabA w 1 cO)(ha:a.length=9)(hu:UOk u):
 Cl 32 #[.agg m.ag,.agg (agi a),.agg (agi u)] w (pV w {spM m u with p:=lI a m.p (spX m u)} (oO a m.p (spX m u))):=by
 have hR:=JD (fn:=Tryz.f32) (p:=6) (q:=7) rfl;have f:=Hv.start w m a u;obtain⟨V,hV⟩:=ak (((((w.alloc (.cells m.ag 55)).alloc (.cells (agi a) 73)).alloc (.cells (agi u) 78)).alloc (.cells Tryz.zeroCells55 55)));rw[<-hV] at f;have HV:=af hV.symm;have f:=af f;have K:=af k;have HA:=af ha;have C:=af hu.l;have h59:=hu.a;have KL:=af (ac0 (u.getD 7 0) V (T1.below f.o.bel));have KG:=af (acV (u.getD 1 0) V (T2.below f.o.bel));have rg:=IU (u.getD 7 0);have KB:=aj (Cl 76 #[.agg (au ((u.drop 2).take 4)).toArray,.int .i64 (u.getD 6 0),.int .i64 (glV (u.getD 7 0))] V (NewSE V (spC u) (bz (blB (uI u) (u.getD 6 0) (glV (u.getD 7 0)))))) (ac9 (uI u) (u.getD 6 0) (glV (u.getD 7 0)) V (OQ hu.l) ah ah);have CL:=af (OU hu);have XL:=af (tV hu m);have T:=af (fun W A c (h:Rs W W.heap.size A (spC u))=>show Cl 80 #[.agg (au m.e).toArray,.int .i64 (20+u.getD 0 0),.int .i64 (dJ (u.getD 1 0)),.slice A 40 c] W (NewSE W (spX m u) (mxR (20+u.getD 0 0) (dJ (u.getD 1 0)) 40)) from Ob m.e (spC u) _ _ A c 40 W k.e h (OU hu) ah);have KK:=af (fun W A c (h:Rs W W.heap.size A (spX m u))=>show Cl 81 #[.agg (au m.e).toArray,.slice A 40 c] W (fun e w'=>e=.returned (.tuple #[.agg (agi (bi m.e (spX m u))),.int .i64 0])/\Bw W w') from NU m.e _ A c 40 W k.e h (tV hu m) ah);have EL:=af (pG k.e (tV hu m));have KP:=af (fun W A c (h:Rs W W.heap.size A (spX m u))=>show Cl 39 #[.agg (spM m u).ag,.agg (agi a),.slice A 40 c] W (pV W {spM m u with p:=lI a m.p (spX m u)} (oO a m.p (spX m u))) from YY (spM m u) (DU k hu) a _ A c 40 W ha h (tV hu m) ah);have FM:=aj (spM m u={m with e:=bi m.e (spX m u),la:=20+u.getD 0 0,pi:=dJ (u.getD 1 0),ga:=glV (u.getD 7 0)}) (rfl);have t:=af (show({spM m u with p:=lI a m.p (spX m u)}:Mm).ok from(DU k hu).pp (Xr k.p));have i:=af (DU k hu);have j:(Tryz.prog.info? 53).map (·.size)=some (au m.e).length:=FI;have r:=af j;have Z:(Tryz.prog.info? 76).map (·.size)=some (au ((u.drop 2).take 4)).length:=ag9;have HI4:=af Z;have X:=aj ((Tryz.prog.info? 53).map (·.size)=some (agi (bi m.e (spX m u))).size) (ahi);have c7:=f.o.U.cell 7 (by rw[hu.l];omega);have c1:=f.o.U.cell 1 (by rw[hu.l];omega);have c6:=f.o.U.cell 6 (by rw[hu.l];omega);clear k ha hu j Z T1 T2 rg hV;generalize ({spM m u with p:=lI a m.p (spX m u)}:Mm)=mf at*
 generalize oO a m.p (spX m u)=yf at*
 generalize spM m u=ms at*
 generalize spX m u=x at*
 generalize spC u=code at*
 generalize bz (blB (uI u) (u.getD 6 0) (glV (u.getD 7 0)))=er1 at*
 generalize mxR (20+u.getD 0 0) (dJ (u.getD 1 0)) 40=er2 at*
 generalize bz (glB (u.getD 7 0))=er3 at*
 generalize bz (vz (u.getD 1 0))=er4 at*
 generalize dJ (u.getD 1 0)=g at*
 generalize glV (u.getD 7 0)=size at*
 generalize bi m.e x=S at*
 generalize u.getD 7 0=l7 at*
 generalize u.getD 1 0=l1 at*
 generalize u.getD 6 0=l6 at*
 obtain⟨l0,B⟩:=ak (u.getD 0 0);have L:=af B;rw[<-B] at T FM h59;clear B;go_enter Tryz.func32,Tryz.ntmps32;go_wp2_with(first
  |(rw[HV.o];clear HV)
  |(go_at_call 79;(with_reducible refine KL.o.mono ?_);rintro e w' ⟨rfl,rfl⟩)
  |(go_at_call 71;(with_reducible refine KG.o.mono ?_);rintro e w' ⟨rfl,rfl⟩)
  |(refine bZ rfl 76 (.tmp 29) rfl _ _ rfl (au ((u.drop 2).take 4)) _ (f.o.U.mid 2 4 zG) iO rfl HI4.o ?_)
  |(go_at_call 76;(with_reducible refine KB.o.mono ?_);rintro e w1 ⟨A1,c1',rfl,z,d⟩;have O:=af (f.o.below d);have O1:=af z.reads;clear z d;rw[CL.o];have cu:=O.o.U.cell 0 zG;rw[<-L.o] at cu)
  |(refine bZ rfl 53 (.tmp 38) rfl _ _ rfl (au m.e) _ (O.o.A.E K.o) iV rfl r.o ?_)
  |(go_at_call 80;(with_reducible refine(T.o w1 A1 c1' O1.o).mono ?_);rintro e w2 ⟨A2,c2,rfl,z,d⟩;have S2:=af (O.o.below d);have O2:=af z;have y:=af O.o.lt;clear z d;rw[XL.o])
  |(refine bZ rfl 53 (.tmp 49) rfl _ _ rfl (au m.e) _ (S2.o.A.E K.o) iV rfl r.o ?_))
 refine(KK.o w2 A2 c2 O2.o.reads).mono ?_;rintro e w3 ⟨rfl,d⟩;have S3:=af (S2.o.below d);have O3:=af (O2.o.below d);clear d;have n:=af (S3.o.setE K.o S EL.o);have O4:=af (Own.setCs (g:=w.heap.size) wz (au S) 16 _ O3.o);have H:=aj (w3.there w.heap.size 16 (agi S).size) (by rw[dX,EL.o];exact S3.o.A.thereE K.o);obtain⟨w4,G⟩:=ak (w3.setCells w.heap.size 16 (au S));rw[<-G] at n O4;have M:=af G;have K4:=af (K.o.ex EL.o);have Y:=n.o.U.cell 0 zG;rw[<-L.o] at Y;have d98:=n.o.A.cla K4.o;have d97:=n.o.A.cpi K4.o;have d96:=n.o.A.cga K4.o;have f98:=MB.frozen n.o.A 98;have f97:=MB.frozen n.o.A 97;have f96:=MB.frozen n.o.A 96;have P:=aj (Hv w _ ms a u) (FM.o▸n.o.set3 K4.o (20+l0) g size);have O5:=af (afv (b:=w.heap.size) wz O4.o 98 97 96 (.int .i64 (20+l0)) (.int .i64 g) (.int .i64 size));obtain⟨w5,J⟩:=ak (((w4.setCell ⟨w.heap.size,98,none⟩ (.int .i64 (20+l0))).setCell ⟨w.heap.size,97,none⟩ (.int .i64 g)).setCell ⟨w.heap.size,96,none⟩ (.int .i64 size));rw[<-J] at P O5;have N:=af J.symm;have I:=af (fun W (s:Hv w W ms a u)=>MB.setRow s.R mf);clear G J S3 S2 O f O1 O2 O3 T KK KL KG KB c1 c6 c7 cu;go_wp2_with(first
  |(refine iY rfl 53 (.tmp 55) (.tmp 53) rfl w.heap.size 16 (agi S) rfl rfl H.o X.o (ik _) ?_;rw[show(agi S).toList=au S from rfl,<-M.o])
  |(rw[N.o];clear N d98 d97 d96 f98 f97 f96 Y M H)
  |(refine iK rfl (.tmp 3) rfl _ ms rfl P.o.A i.o ?_)
  |(refine aK 73 (.tmp 4) a 9 P.o.F bP bC HA.o ?_)
  |(go_at_call 39;(with_reducible refine(KP.o w5 A2 c2 O5.o.reads).mono ?_);rintro e w6 ⟨A6,c6,rfl,z,d⟩;have S6:=af (P.o.below d);have O6:=af z;have Q:=af P.o.lt;clear z d)
  |(refine dW rfl (.tmp 6) (.tmp 68) rfl _ aZ mf rfl rfl S6.o.R df t.o ?_))
 have D:=af (aS S6.o.bel (g:=w.heap.size+3) ah mf.ag);have OF:=af ((O6.o.setRow (g:=w.heap.size+3) (by have:=Q.o;omega) mf.ag).more (base':=w.heap.size) (by have:=Q.o;omega));refine aX (v:=_) (hR _ _ _ mf rfl (I.o _ S6.o) t.o) rfl ?_;exact⟨A6,c6,rfl,OF.o,D.o⟩
def msK(a:Lz)(m:Mm):Nat->Mm
 |0=>m
 |k+1=>stM a (msK a m k) k
def ysK(a:Lz)(m:Mm):Nat->Lz
 |0=>[]
 |k+1=>ysK a m k++stY a (msK a m k) k
theorem Qo(k:m.ok)(n:Nat):(msK a m n).ok:=by
 induction n with
 |zero=>exact k
 |succ n ih=>exact II ih _ _
theorem aoG(h:W64 m.nums)(n:Nat):W64 (msK a m n).nums:=by
 induction n with
 |zero=>exact h
 |succ n ih=>exact alu ih _ _
theorem afD(a:Lz)(m:Mm)(n:Nat):(ysK a m n).length<=40*n:=by
 induction n with
 |zero=>exact ax _
 |succ n ih=>
  have:=Xt a (msK a m n) n;rw[ysK,dN];omega
structure Ec(w wr:Wd)(m:Mm)(g:Nat)(a:Lz):Prop where
 M:Ms w wr m
 F:IB wr g 73 a
 lt:w.heap.size+2<=g
section
variable {w wr w':Wd} {m mm:Mm} {g:Nat} {a:Lz}
theorem Ec.below(s:Ec w wr m g a)(b:Bw wr w'):Ec w w' m g a:=⟨s.M.below b,Blk.below' s.F b,s.lt⟩
theorem Ec.setA(s:Ec w wr m g a):Ec w (wr.setRow w.heap.size mm.ag) mm g a:=⟨s.M.setA,Blk.rowFar s.F Vl,s.lt⟩
theorem Ec.grown{A:Oz}(s:Ec w wr m g a)(d:Own wr (g+1) A c xs)(b:wr.grownBy w' (A.map (·.block))):Ec w w' m g a:=by
 have e:=s.lt;have f:g<wr.heap.size:=Blk.lt s.F;exact⟨⟨Blk.grownA s.M.A b (d.ne_ ah),Blk.grownA s.M.R b (d.ne_ ah),uX s.M.bel (d.more (base':=w.heap.size) ah) b ah⟩,Blk.grownA s.F b (d.ne_ ah),s.lt⟩
theorem Ec.glt(s:Ec w wr m g a):g<wr.heap.size:=Blk.lt s.F
end
theorem aoH(m:Mm)(k:m.ok)(w:Wd):Cl 14 #[.agg m.ag] w (NewM w (coM m) (coY m) (bz (aO m))):=by
 have hR:=yC (fn:=Tryz.f14) (p:=2) (q:=3) (r:=4) rfl;have S0:=af (Ms.start w m);have K:=af k;have KG:=af (fun W=>Iu m k W);have KD:=af (fun W=>show Cl 36 #[.agg (au m.r).toArray] W (tN W m.r) from adr m.r W k.r);have T:=af (fun W=>ale (jZ m.r) 32440 W (yB _));have Y:=aj (coM m=if aO m then msK (mg m) m 2 else aZ) (rfl);have B:=aj (coY m=if aO m then ysK (mg m) m 2 else[]) (by unfold coY ysK ysK ysK;rfl);have O:(Tryz.prog.info? 52).map (·.size)=some (au m.r).length:=by rw[bf,k.r];exact sW
 have HI8:=af O;have P:=af (yB m.r);have V:=aj ((mg m).length=9) (WM _ _);clear k O;go_enter Tryz.func14,Tryz.ntmps14;go_wp2_with(refine iK rfl (.tmp 1) rfl _ m rfl S0.o.A K.o ?_);refine(KG.o _).mono ?_;rintro e w1 ⟨rfl,b⟩;have S1:=af (S0.o.below b);clear b S0 KG;cases G:aO m with
 |false=>
  exact ah0
 |true=>
  have HG:=af G;clear G;go_wp2_with(refine bZ rfl 52 (.tmp 16) rfl _ _ rfl (au m.r) _ (S1.o.A.R K.o) aU rfl HI8.o ?_);refine(KD.o _).mono ?_;rintro e t ⟨rfl,b⟩;have S2:=af (S1.o.below b);clear b S1 KD;obtain⟨d,U⟩:=ak (jZ m.r);obtain⟨a,ha⟩:=ak (mg m);have hx:exL d 32440=a:=by rw[ha,U];rfl
  have j:∀W,Cl 37 #[.agg (agi d),.int .i64 32440] W (fun e w'=>e=.returned (.tuple #[.agg (agi a),.int .i64 (bz (exB d 32440))])/\Bw W w'):=fun W=>by
   have:=T.o W;unfold Dt at this;rw[<-U,hx] at this;exact this
  have j:=af j;clear T;rename_i KXr;clear KXr;rw[<-U] at P|-;rw[<-ha] at Y B V;clear U ha hx;go_wp2_with(first
   |(refine aQ 73 (.tmp 5) (.tmp 19) Z9 d 9 (IB.new t 73 Z9) bC rfl P.o ?_
     have B3:=dI t (.cells (agi Z9) 73) (agi d)
     obtain⟨w3,f⟩:=ak ((t.alloc (.cells (agi Z9) 73)).setRow t.heap.size (agi d))
     have S3:=af (show Ms w w3 m by rw[f];exact S2.o.below B3)
     have F3:=af (show IB w3 t.heap.size 73 d by rw[f];exact IB.stored t 73 Z9 d)
     rw[jR] at f
     rw[<-f]
     clear f B3)
   |(refine aK 73 (.tmp 5) d 9 F3.o bP bC P.o ?_))
  refine(j.o _).mono ?_;rintro e w4 ⟨rfl,b⟩;have S4:=af (S3.o.below b);have X:=af (Blk.below' F3.o b);have GL:=af S2.o.lt;obtain⟨z,N⟩:=ak (t.heap.size);rw[<-N] at X GL|-;clear b S2 S3 F3 N j;have E5:=af (show Ec w (w4.setRow z (agi a)) m z a from⟨⟨Blk.rowFar S4.o.A jV,Blk.rowFar S4.o.R jV,aS S4.o.bel jV _⟩,IB.setRow X.o a,GL.o⟩);go_wp2_with(refine aQ 73 (.tmp 5) (.tmp 24) d a 9 X.o bC P.o V.o ?_);generalize w4.setRow z (agi a)=w5 at E5|-;clear S4 X;go_loopw[7,26] (fun ov iv wr=> ∃(k:Nat) (A:Oz) (c n:Nat),k<=2/\iv=.int .i64 k/\ov=.slice A n c/\Hy ((ysK a m k).length=n)/\Hy (Own wr (z+1) A c (ysK a m k))/\Hy (Ec w wr (msK a m k) z a)) (fun _ iv _=>2-(intOf iv).toNat)
  case atStart=>exact⟨0,none,0,0,ah,rfl,rfl,af rfl,af Own.nil,E5⟩
  case round=>
   clear E5;obtain⟨k,A,c,n,hk,rfl,rfl,HN,Q,L⟩:=hrel;by_cases hlt:k<2
   ·have H:=af (Qo (a:=a) K.o k)
    have KE:=af (fun W=>ak3 (msK a m k) H.o k W);have K1:=af (IE H.o (k:Int));have KP:=af (fun W A c (h:Rs W W.heap.size A (lg (msK a m k) k))=>show Cl 39 #[.agg (jQ (msK a m k) k).ag,.agg (agi a),.slice A (lg (msK a m k) k).length c] W (pV W (stM a (msK a m k) k) (stY a (msK a m k) k)) from YY (jQ (msK a m k) k) K1.o a _ A c _ W V.o h rfl (Xf _ _));have K2:=af (II H.o a k);have YL:=af (Xt a (msK a m k) k);have NM:=aj (msK a m (k+1)=stM a (msK a m k) k) (rfl);have NY:=aj (ysK a m (k+1)=ysK a m k++stY a (msK a m k) k) (rfl);have YN:=af (afD a m k);generalize stM a (msK a m k) k=J at*
    generalize stY a (msK a m k) k=y at*
    generalize jQ (msK a m k) k=m1 at*
    generalize lg (msK a m k) k=x at*
    generalize bz (ku (msK a m k) k)=er at*
    generalize msK a m k=mk at*
    generalize ysK a m k=ys at*
    go_wp2_with(refine iK rfl (.tmp 1) rfl _ mk rfl L.o.M.A H.o ?_);refine(KE.o _).mono ?_;rintro e w6 ⟨A6,c6,rfl,l,b⟩;have C:=af (L.o.below b);have O6:=af (Q.o.below b);have SZ6:=af b.size;have X6:=af l;have GT:=af L.o.glt;clear l b L Q KE;have S:=af (C.o.setA (mm:=m1));have O7:=af (O6.o.setRow (g:=w.heap.size) (by have:=C.o.lt;omega) m1.ag);have X7:=af (X6.o.setRow (g:=w.heap.size) (by have:=C.o.lt;have:=GT.o;omega) m1.ag).reads;obtain⟨w7,u⟩:=ak (w6.setRow w.heap.size m1.ag);rw[<-u] at S O7 X7;have Z:=af u;clear u;go_wp2_with(first
     |(refine dW rfl (.tmp 1) (.tmp 33) rfl _ mk m1 rfl rfl C.o.M.A H.o K1.o ?_;rw[<-Z.o])
     |(refine iK rfl (.tmp 1) rfl _ m1 rfl S.o.M.A K1.o ?_)
     |(refine aK 73 (.tmp 5) a 9 S.o.F bP bC V.o ?_))
    refine(KP.o _ _ _ X7.o).mono ?_;rintro e w8 ⟨A8,c8,rfl,l,b⟩;have E:=af (S.o.below b);have O8:=af (O7.o.below b);have GT8:=af S.o.glt;have X8:=af l;clear l b C S O6 O7 X6 X7 KP Z;have C9:=af (E.o.setA (mm:=J));have O9:=af (O8.o.setRow (g:=w.heap.size) (by have:=E.o.lt;omega) J.ag);have X9:=af (X8.o.setRow (g:=w.heap.size) (by have:=E.o.lt;have:=GT8.o;omega) J.ag).reads;obtain⟨w9,s⟩:=ak (w8.setRow w.heap.size J.ag);rw[<-s] at C9 O9 X9;have HW9:=af s;clear s;have GT9:=af C9.o.glt;go_wp2_with(first
     |(refine dW rfl (.tmp 1) (.tmp 41) rfl _ m1 J rfl rfl E.o.M.A K1.o K2.o ?_;rw[<-HW9.o])
     |(at_builtin;refine pg rfl (.tmp 43) (.tmp 44) rfl (z+1) A c n ys rfl HN.o O9.o w9.heap.size A8 c8 y.length y rfl rfl X9.o (by have:=YL.o;have:=YN.o;have:=HN.o;omega) (by have:=GT9.o;omega) ?_;intro A10 c10 w10 l hG hA;have C10:=af (C9.o.grown O9.o hG);have O10:=af l;clear l hG hA))
    exact aio
   obtain rfl:k=2:=ah;have i:=af (Qo (a:=a) K.o 2);have I:=af (MB.setRow L.o.M.R (msK a m 2));have D:=af (aS L.o.M.bel (g:=w.heap.size+1) ah (msK a m 2).ag);have OF:=af ((Q.o.setRow (g:=w.heap.size+1) UR (msK a m 2).ag).more (base':=w.heap.size) UR);generalize msK a m 2=mf at*
   generalize ysK a m 2=yf at*
   go_wp2_with(first
    |(refine iK rfl (.tmp 1) rfl _ mf rfl L.o.M.A i.o ?_)
    |(refine dW rfl (.tmp 2) (.tmp 47) rfl _ aZ mf rfl rfl L.o.M.R df i.o ?_))
   exact ait
theorem yP{fn:Func}{t u v x:Tmp}(h:fn.results= #[.tmp t,.tmp u,.tmp v,.tmp x])(a:Array Value)(P:Program)(w:Wd):
 (results fn a).run P w=.ok (.tuple #[a.getD t undef,a.getD u undef,a.getD v undef,a.getD x undef]) w:=by
 simp[results,h]
theorem afL:(Tryz.prog.info? 53).map (·.size)=some 80:=aB
def FoldFn(K:Nat)(p:Value)(w:Wd)(ring:Lz):Prop:=
 ∀(W:Wd),Bw w W->∀(A:Oz) (c:Nat) (v:Lz),Rs W W.heap.size A v->v.length=40->W64 v->
  Cl K #[.slice A 40 c,p] W (fun e w'=> ∃A2 c2,e=.returned (.slice A2 (foL ring v).length c2)/\Own w' W.heap.size A2 c2 (foL ring v)/\Bw W w')
theorem FoldFn.below{K:Nat}{p:Value}{w':Wd}(h:FoldFn K p w ring)(b:Bw w w'):FoldFn K p w' ring:=
 fun W a=>h W (aH b a)
theorem afM(K:Nat)(p:Value)(w:Wd):(binOp .eql 65 (.func (.func K) #[] #[p]) .nilFunc).run Tryz.prog w=.ok (.bool false) w:=aB
theorem aoQ(h ring t:Lz)(p:Value)(A:Oz)(c n:Nat)(w:Wd)(T:h.length=80)(hr:Rs w w.heap.size A t)(P:t.length=n)(hl:n<=17592186044416)(u:FoldFn 67 p w ring):
 Cl 69 #[.agg (agi h),.func (.func 67) #[] #[p],.slice A n c] w (PkAns ring h t w):=by
 have BA:=af (baqq w (.cells (agi h) 53));have FB:=af (fun(er:Int) (he:jh ring h t=er) (h0:er≠0) w' (g:Bw w w')=>PkAns.bad (ring:=ring) (h:=h) (t:=t) he h0 g);by_cases h40:n=40;rotate_left
 ·have HE:=af (show jh ring h t=1 by unfold jh;rw[if_neg ah])
  have d0:((n:Int) !=40)=true:=aC;have d1: ¬(n:Int)=40:=ah;clear h40 P hr u;go_enter TA,TB;exact aiG
 subst h40;have M:=af (IB.new w 53 h);have HT:=af ((hr.below BA.o).more BA.o.size);have s:=af T;have HN:=af P;have KF:=af (u.below BA.o);have hnf:=afM 67 p;clear hr u T P;obtain⟨V,hV⟩:=ak (w.alloc (.cells (agi h) 53));rw[<-hV] at M HT KF BA;have HV:=af hV;clear hV;cases gt:aG t with
 |false=>
  have HE:=af (show jh ring h t=2 by unfold jh;rw[if_pos HN.o,gt];rfl);have G:=af (NH A c 40 V.heap.size t V HT.o HN.o ah);rw[gt] at G;clear gt;go_enter TA,TB;go_wp2_with fail;rw[<-HV.o];refine G.o.mono ?_;rintro e Q ⟨rfl,rfl⟩;go_wp2
  ((try simp only[Exit.inBlock,Exit.then]);refine aX (yP rfl _ _ _) rfl ?_)
  exact FB.o _ HE.o aA _ BA.o
 |true=>
 have G:=af (NH A c 40 V.heap.size t V HT.o HN.o ah);rw[gt] at G;have m:=af (NH (some ⟨w.heap.size,0,none⟩) 80 80 V.heap.size h V (aei M.o) s.o ah);cases gh:aG h with
 |false=>
  have HE:=aj (jh ring h t=2) (TV);rw[gh] at m;clear gt gh;go_enter TA,TB;go_wp2_with fail;rw[<-HV.o];refine G.o.mono ?_;rintro e Q ⟨rfl,rfl⟩;go_wp2_with fail;refine m.o.mono ?_;rintro e Q ⟨rfl,rfl⟩;go_wp2
  ((try simp only[Exit.inBlock,Exit.then]);refine aX (yP rfl _ _ _) rfl ?_)
  exact FB.o _ HE.o aA _ BA.o
 |true=>
 rw[gh] at m;have HE:=aj (jh ring h t=if pkR ring then 0 else 1) (TV);have I:=af (gU gt);have q:=af (gU gh);clear gt gh;go_enter TA,TB;go_wp2_with fail;rw[<-HV.o];refine G.o.mono ?_;rintro e Q ⟨rfl,rfl⟩;go_wp2_with fail;refine m.o.mono ?_;rintro e Q ⟨rfl,rfl⟩;go_wp2;clear G m;go_loopw[10,11,12,13] (fun bv cv ev iv wr=> ∃(n L:Nat),n<=60/\Hy (L=20+n)/\iv=.int .i64 L/\bv=.int .i64 (pkS ring h t n).1/\cv=.int .i64 (pkS ring h t n).2.1/\ev=.int .i64 (pkS ring h t n).2.2/\Hy (0<n->pkR ring=true)/\Hy (Bw V wr)) (fun _ _ _ iv _=>80-(intOf iv).toNat)
 case atStart=>exact⟨0,20,ah,af rfl,rfl,rfl,rfl,rfl,af (fun h=>ah),af (aP _ _)⟩
 case round=>
  obtain⟨n,L,P,d,rfl,rfl,rfl,rfl,HG,H⟩:=hrel;have hL:=d.o;by_cases hlt:n<60
  ·have o5:(L:Int)<=79:=ah
   have HP:=af (Ae (h:=h) (lag:=(20:Int)+n) (sQ ah ah));have B:=af (Yj q.o ((20:Int)+n));have KP:=af (fun W=>show Cl 72 #[.agg (agi h),.int .i64 (L:Nat)] W (fun e w'=> ∃A c,e=.returned (.tuple #[.slice A 40 c,.int .i64 0])/\Own w' W.heap.size A c (dU h ((20:Int)+n))/\Bw W w') from by
    have hLi:(L:Int)=(20:Int)+n:=ah;rw[hLi];refine(WP h ((20:Int)+n) W s.o).mono ?_;rintro e w' ⟨A,c,h1,F,h3⟩;rw[sQ ah ah,HP.o] at h1;exact⟨A,c,h1,F,h3⟩)
   have VL:=af (Px (ring:=ring) HP.o B.o);have ST:=aj (pkS ring h t (n+1)=if decide (0<pkC ring h t n)&&jy (pkC ring h t n) (pkE ring h n) (pkS ring h t n).2.1 (pkS ring h t n).2.2 then(20+(n:Int),pkC ring h t n,pkE ring h n) else pkS ring h t n) (rfl);unfold pkC pkE piV at ST;have y:=aj (L+1=20+(n+1)) (UX);have hLI:=aj ((20:Int)+n=(L:Nat)) (UX);have P64:=af (ael (gU B.o));have l:=af (Jo ring (dU h ((20:Int)+n)));have rS:=Pz ring h I.o n;have K:=aen ring h t n;generalize dU h ((20:Int)+n)=v at*
   have Y:=af (fun W (g:Bw V W) A c (hr:Rs W W.heap.size A v)=>KF.o W g A c v hr HP.o P64.o);generalize foL ring v=f at*
   have R:=af (fun W A1 c1 A2 c2 (h1:Rs W W.heap.size A1 t) (F:Rs W W.heap.size A2 f) (u:f.length=40)=>aef A1 A2 c1 c2 40 40 t f W h1 F HN.o u (ax _) ah I.o (gU l.o));have U:=af (fun W A2 c2 (F:Rs W W.heap.size A2 f) (u:f.length=40)=>aef A2 A2 c2 c2 40 40 f f W F F u u (ax _) ah (gU l.o) (gU l.o));have Z:=af (fun W A2 c2 n (F:Rs W W.heap.size A2 f) (u:f.length=n) (P:n<=17592186044416)=>NH A2 c2 n W.heap.size f W F u P);have rC:=qy I.o (gU l.o) 40;have rE:=qy (gU l.o) (gU l.o) 40;have pos:=aeh (a:=t) (b:=f) (n:=40);obtain⟨q1,N⟩:=ak ((pkS ring h t n).1);obtain⟨q2,z⟩:=ak ((pkS ring h t n).2.1);obtain⟨O,r⟩:=ak ((pkS ring h t n).2.2);rw[<-z,<-r] at ST rS;rw[<-r] at K;rw[<-N,<-z,<-r];have HQ:=af (show pkS ring h t n=(q1,q2,O) by rw[N,z,r]);have IW:=af (Blk.below' M.o H.o);have TW:=af ((HT.o.below H.o).more H.o.size);clear N z r hL;generalize bQ t f 40=C at*
   generalize bQ f f 40=E at*
   have KB:=af (fun W=>aeb C E q2 O W ah ah ah ah ah ah ah ah);have POS:=af pos;have BNN:=af K;clear pos K rS rC rE;go_wp2_with(refine aK 53 (.tmp 3) h 80 IW.o iV afL s.o ?_);refine(KP.o wr).mono ?_;rintro e Q ⟨A1,c1,rfl,hO,g⟩;have B1:=af (aH H.o g);have O1:=af hO.reads;have TW1:=af ((TW.o.below g).more g.size);clear hO g KP IW;go_wp2_with fail;refine(Y.o Q B1.o A1 c1 O1.o).mono ?_;rintro e w2 ⟨A2,c2,rfl,hO,g⟩;have B2:=af (aH B1.o g);have O2:=af hO.reads;have TW2:=af ((TW1.o.below g).more g.size);clear hO g Y O1 TW1 B1 H TW;cases hR:pkR ring with
   |false=>
    exact ah5
   |true=>
    have k:=VL.o;rw[hR] at k;simp only[if_true] at k;rw[k];have D:=af (Z.o w2 A2 c2 40 O2.o k ah);have S:=af (R.o w2 A c A2 c2 TW2.o O2.o k);have X:=af (U.o w2 A2 c2 O2.o k);have x:=af (fun(_:0<n+1)=>hR);rw[l.o] at D;clear hR k Z R U;go_wp2_with fail;refine D.o.mono ?_;rintro e w3 ⟨rfl,rfl⟩;go_wp2_with fail;refine S.o.mono ?_;rintro e w3 ⟨rfl,rfl⟩;go_wp2_with fail;refine X.o.mono ?_;rintro e w3 ⟨rfl,rfl⟩;by_cases hC:C<=0
    ·have j:=af (show pkS ring h t (n+1)=(q1,q2,O) by rw[ST.o,kV ah];exact HQ.o)
     clear ST;go_wp2;go_roundw;case rel=>exact⟨n+1,L+1,ah,y,aT,sF,sF,sF,x,B2⟩
     case measure=>exact aW
    have J: ¬E<=0:=(by have:=POS.o ah;omega);by_cases h0:O=0
    ·subst h0
     have j:=af (show pkS ring h t (n+1)=(20+(n:Int),C,E) by rw[ST.o,am4 (fun h=>POS.o h),kH ah];rfl);clear ST;go_wp2;go_roundw;case rel=>exact⟨n+1,L+1,ah,y,aT,by rw[j.o,<-hLI.o],sF,sF,x,B2⟩
     case measure=>exact aW
    have e1:(O==0)=false:=rZ;obtain⟨b,hb⟩:=ak (jy C E q2 O);rw[<-hb,kH ah] at ST;rw[<-hb] at KB;clear hb;go_wp2_with fail;refine(KB.o _).mono ?_;rintro en w3 ⟨rfl,g⟩;have B3:=af (aH B2.o g);clear g;cases b
    ·have j:=af (show pkS ring h t (n+1)=(q1,q2,O) by rw[ST.o];exact HQ.o)
     go_wp2;go_roundw;case rel=>exact⟨n+1,L+1,ah,y,aT,sF,sF,sF,x,B3⟩
     case measure=>exact aW
    have j:=af (show pkS ring h t (n+1)=(20+(n:Int),C,E) by rw[ST.o];rfl);go_wp2;go_roundw;case rel=>exact⟨n+1,L+1,ah,y,aT,by rw[j.o,<-hLI.o],sF,sF,x,B3⟩
    case measure=>exact aW
  obtain rfl:n=60:=ah;obtain rfl:L=80:=ah;have HE0:=af (show jh ring h t=0 by rw[HE.o,HG.o ah];rfl);clear hL hlt;go_wp2
  ((try simp only[Exit.inBlock,Exit.then]);refine aX (yP rfl _ _ _) rfl ?_)
  exact⟨by unfold piA piB pkD;rw[HE0.o];rfl,aH BA.o H.o⟩
theorem afN{ys:Lz}{n k:Nat}(hl:ys.length=n)(h:∀j,j<k->ys.getD j 0=f j)(b:k<n):(ys.set k (f k)).length=n/\∀j,j<k+1->(ys.set k (f k)).getD j 0=f j:=by
 refine⟨xZ,fun j a=>?_⟩;by_cases e:k=j
 ·subst e;exact gQ _ _ _ ah
 rw[gV _ _ e];exact h j ah
theorem Zi{ys:Lz}{n:Nat}(hl:ys.length=n)(h:∀j,j<n->ys.getD j 0=f j):ys=(List.range n).map f:=
 dM xZ fun k a=>by rw[hl] at a;rw[h k a,bJ f a]
theorem Qy(a:Addr)(n:Nat):(a.add n).block=a.block:=by unfold Addr.add;split<;>rfl
theorem afO(A A2:Oz)(c c2:Nat)(a b:Lz)(w:Wd)(L:Rs w w.heap.size A a)(l:Rs w w.heap.size A2 b)(J:a.length=40)(O:b.length=40)(v:fU a)(C:fU b):
 Cl 65 #[.slice A 40 c,.slice A2 40 c2] w (ND w (yM a b 40)):=by
 have N:=af L;have P:=af l;have HN:=af J;have M:=af O;have t:=af v;have g:=af C;clear L l J O v C;go_enter Tryz.func65,Tryz.ntmps65;go_wp2_with(at_make;refine nK rfl _ _ rfl .i64 .i64 40 rfl rfl w.heap.size ah (ax _) ?_;intro w1 E D;have u:=af E;have s:=af ((aP w.heap.size w).grown D (ax _) ay);clear E D);go_loopw[6,12] (fun _ r wr=> ∃(k:Nat) (ys:Lz),k<=40/\r=.int .i64 k/\Hy (ys.length=40/\∀j,j<k->ys.getD j 0=uf a b j)/\Hy (Own wr w.heap.size (some ⟨w.heap.size,0,none⟩) 40 ys)/\Hy (Bw w wr)) (fun _ r _=>40-(intOf r).toNat)
 case atStart=>exact⟨0,_,ah,rfl,af ⟨ay,fun j h=>ah⟩,u,s⟩
 case round=>
  clear u s;obtain⟨k,ys,hk,rfl,m,Q,H⟩:=hrel;by_cases hlt:k<40
  ·obtain⟨n,rfl,G,Y⟩:=(N.o.below H.o).at_ (k:=k) iT
   obtain⟨R,rfl,I,Z⟩:=(P.o.below H.o).at_ (k:=k) (by rw[M.o];exact hlt);have x16:=t.o k;have q:=g.o k;have cp:=Q.o.cell k UD;have fp:=Q.o.frozen k;have B:=af (Q.o.set_ k UD (uf a b k));have K:=af (H.o.setCell (p:=⟨w.heap.size,k,none⟩) (ax _) (.int .i64 (uf a b k)));have T:=af (afN (f:=uf a b) m.o.1 m.o.2 hlt);have S:=af (fun W=>show Cl 146 #[.int .i64 (a.getD k 0-b.getD k 0)] W (fun e w'=>e=.returned (.int .i64 (uf a b k))/\W=w') from aco _ W);generalize uf a b k=z at*
   generalize a.getD k 0=x at*
   generalize b.getD k 0=y at*
   have V:IntKind.i64.wrap (x-y)=x-y:=aV;have X:(k:Int)<40:=ah;have d:n.block≠w.heap.size:=ah;have i:R.block≠w.heap.size:=ah;have U:(wr.setCell ⟨w.heap.size,k,none⟩ (.int .i64 z)).drew.cell? (n.add k)=some (.int .i64 x):=by
    show(wr.setCell ⟨w.heap.size,k,none⟩ (.int .i64 z)).cell? (n.add k)=_;refine(ag3 _ _ _ _ fun e=>d ?_).trans Y;first|exact(Qy _ _).symm.trans e.symm|exact(Qy _ _).symm.trans e
   have F:(wr.setCell ⟨w.heap.size,k,none⟩ (.int .i64 z)).drew.cell? (R.add k)=some (.int .i64 y):=by
    show(wr.setCell ⟨w.heap.size,k,none⟩ (.int .i64 z)).cell? (R.add k)=_;refine(ag3 _ _ _ _ fun e=>i ?_).trans Z;first|exact(Qy _ _).symm.trans e.symm|exact(Qy _ _).symm.trans e
   go_wp2;go_region_held3 (fun w'=>w'.cell? (n.add k)=some (.int .i64 x)/\w'.cell? (R.add k)=some (.int .i64 y)) (first|(exact⟨U,F⟩)|go_keep) (first
    |(go_at_call 146;(with_reducible refine(S.o _).mono ?_);rintro e w' ⟨rfl,rfl⟩))
   go_wp2;go_roundw;case rel=>exact⟨k+1,_,ah,aT,T,B,af (K.o.trans ((aP _ _).drew.mono K.o.size))⟩
   case measure=>exact aW
  obtain rfl:k=40:=ah;go_wp2;go_ret;exact⟨_,_,by rw[Ju];rfl,by unfold yM;rw[<-Zi m.o.1 m.o.2];exact Q.o,H.o⟩
theorem aoR(A:Oz)(c:Nat)(a:Lz)(g:Int)(w:Wd)(y:Rs w w.heap.size A a)(v:a.length=40)(n:fU a)(G: -32768<=g/\g<=32767):
 Cl 73 #[.slice A 40 c,.int .i64 g] w (ND w (vG a g 40)):=by
 have C:=af y;have HN:=af v;have t:=af n;clear y v n;go_enter Tryz.func73,Tryz.ntmps73;go_wp2_with(at_make;refine nK rfl _ _ rfl .i64 .i64 40 rfl rfl w.heap.size ah (ax _) ?_;intro U r q;have l:=af r;have i:=af ((aP w.heap.size w).grown q (ax _) ay);clear r q);go_loopw[6,7,13] (fun _ _ d wr=> ∃(k:Nat) (ys:Lz),k<=40/\d=.int .i64 k/\Hy (ys.length=40/\∀j,j<k->ys.getD j 0=pR a g j)/\Hy (Own wr w.heap.size (some ⟨w.heap.size,0,none⟩) 40 ys)/\Hy (Bw w wr)) (fun _ _ d _=>40-(intOf d).toNat)
 case atStart=>exact⟨0,_,ah,rfl,af ⟨ay,fun j h=>ah⟩,l,i⟩
 case round=>
  clear l i;obtain⟨k,ys,P,rfl,m,Q,H⟩:=hrel;by_cases hlt:k<40
  ·obtain⟨F,rfl,s,R⟩:=(C.o.below H.o).at_ (k:=k) iT
   have b:=t.o k;have N:=Q.o.cell k UD;have O:=Q.o.frozen k;have B:=af (Q.o.set_ k UD (pR a g k));have K:=af (H.o.setCell (p:=⟨w.heap.size,k,none⟩) (ax _) (.int .i64 (pR a g k)));have E:=af (afN (f:=pR a g) m.o.1 m.o.2 hlt);have D:=af (fun W=>show Cl 146 #[.int .i64 ((a.getD k 0*g+8192)/16384)] W (fun e w'=>e=.returned (.int .i64 (pR a g k))/\W=w') from aco _ W);generalize pR a g k=z at*
   generalize a.getD k 0=x at*
   obtain⟨S,T⟩:=nO b.1 b.2 G.1 G.2;have I:IntKind.i64.wrap (x*g)=x*g:=aV;have J:IntKind.i64.wrap (x*g+8192)=x*g+8192:=aV;have L:IntKind.i64.wrap ((x*g+8192)/16384)=(x*g+8192)/16384:=aV;have M:(k:Int)<40:=ah;have u:F.block≠w.heap.size:=ah;go_wp2_with(go_at_call 146;(with_reducible refine(D.o _).mono ?_);rintro e w' ⟨rfl,rfl⟩);go_roundw;case rel=>exact⟨k+1,_,ah,aT,E,B,K⟩
   case measure=>exact aW
  obtain rfl:k=40:=ah;go_wp2;go_ret;exact⟨_,_,by rw[Yy];rfl,by unfold vG;rw[<-Zi m.o.1 m.o.2];exact Q.o,H.o⟩
theorem afP(A A2:Oz)(j l n m:Nat)(xs ys:Lz)(w:Wd)(h:Rs w w.heap.size A xs)(i:Rs w w.heap.size A2 ys)(f:xs.length=n)(O:ys.length=m)(u:n<=m)(p:n<=1000)(c:fU xs)(d:fU ys):
 Cl 78 #[.slice A n j,.slice A2 m l] w fun e w'=>e=.returned (.int .i64 (bQ xs ys n))/\w=w':=by
 have HX:=af h;have HY:=af i;have HN:=af f;have HM:=af O;have t:=af c;have g:=af d;clear h i f O c d;go_enter Tryz.func78,Tryz.ntmps78;go_wp2;go_loop [5,10] (fun o a=> ∃(k:Nat) (s:Int),k<=n/\a=.int .i64 k/\o=.int .i64 s/\Hy (s=bQ xs ys k)) (fun _ a=>n-(intOf a).toNat)
 case atStart=>exact⟨0,0,ah,rfl,rfl,af rfl⟩
 case round=>
  exact ahN
def afQ(l:Lz)(n:Nat):Bool:=decide (bQ l l n<16*(n:Int))
theorem aoS(A:Oz)(c n:Nat)(l:Lz)(w:Wd)(h:Rs w w.heap.size A l)(g:l.length=n)(v:n<=1000)(f:fU l):
 Cl 28 #[.slice A n c] w fun e w'=>e=.returned (.bool (afQ l n))/\w=w':=by
 have j:=af h;have HN:=af g;have t:=af f;clear h g f;go_enter Tryz.func28,Tryz.ntmps28;go_wp2;go_loop [3,8] (fun q d=> ∃(k:Nat) (s:Int),k<=n/\d=.int .i64 k/\q=.int .i64 s/\Hy (s=bQ l l k)) (fun _ d=>n-(intOf d).toNat)
 case atStart=>exact⟨0,0,ah,rfl,rfl,af rfl⟩
 case round=>
  obtain⟨k,s,u,rfl,rfl,C⟩:=hrel;have b:=qy t.o t.o k;rw[<-C.o] at b;have D: -1073741824000<=s:=ah;have E:s<=1073741824000:=ah;clear b;by_cases hlt:k<n
  ·have m:=aj (bQ l l (k+1)=s+l.getD k 0*l.getD k 0) (Gq)
   obtain⟨r,rfl,_,y⟩:=j.o.at_ (k:=k) iT;have a:=t.o k;generalize l.getD k 0=x at*
   obtain⟨z,B⟩:=nO a.1 a.2 a.1 a.2;go_wp2;go_round;case rel=>exact⟨k+1,_,ah,aT,rfl,af m.o.symm⟩
   case measure=>exact aW
  obtain rfl:k=n:=ah;have p:IntKind.i64.wrap (16*(k:Int))=16*k:=aV;have i:=aj (afQ l k=decide (s<16*(k:Int))) (Gq);go_wp2;go_ret;exact⟨by rw[i.o];rfl,rfl⟩
theorem QE(h:s<2^i):s|||2^i=s+2^i:=by
 have:=Nat.two_pow_add_eq_or_of_lt h 1;rw[ou] at this;rw[Rl,<-this,qI]
theorem afS(A:Oz)(c:Nat)(d x:Lz)(w:Wd)(U:Rs w w.heap.size A d)(R:d.length=40)(F:Ix x):
 Cl 153 #[.slice A 40 c,.agg (agi x)] w (fun e w'=>e=.returned (.int .i64 (oQ d x 4))/\Bw w w'):=by
 have r:=af (fun(k:Nat) (hk:k<4) (w:Wd)=>jW iO x F.1 k hk w);have D:=af (baqq w (.cells (agi x) 76));have M:=af (IB.new w 76 x);have C:=af ((U.below D.o).more D.o.size);have DL:=af R;have u:=af F.2;have P:=af F.1;clear U R F;go_enter Tryz.func153,Tryz.ntmps153;go_wp2_with(refine aK 76 (.tmp 3) x 4 M.o iO fO P.o ?_);generalize w.alloc (.cells (agi x) 76)=V at M C D|-;go_loop [5,9] (fun S O=> ∃i:Nat,i<=4/\O=.int .i64 i/\S=.int .i64 ((iE d x i:Nat):Int)) (fun _ O=>4-(intOf O).toNat)
 case atStart=>exact⟨0,ah,rfl,rfl⟩
 case round=>
  obtain⟨i,hi,rfl,rfl⟩:=hrel;by_cases N:i<4
  ·have L:i=0\/i=1\/i=2\/i=3:=ah
   clear N hi;rcases L with rfl|rfl|rfl|rfl
   ·have h:=r.o 0 ah
    rw[show((0:Nat):Int)=(0:Int) from rfl] at h;have f:=qZ u.o 0;obtain⟨q,hq⟩:=gI f.1;have E:=tY u.o (t:=0) ah;have b:(0:Int)+4*(q:Nat)=(plc x 0:Nat):=vZ;rw[hq] at h f;try simp only[zn] at b
    have l:=aj (iE d x (0+1)=if 0<=d.getD (plc x 0) 0 then iE d x 0+2^0 else iE d x 0) (rfl);have m:=Jr d x 0;obtain⟨a,g⟩:=ak (plc x 0);rw[<-g] at b E l;obtain⟨J,rfl,n,K⟩:=C.o.at_ (k:=a) uS;generalize d.getD a 0=y at*
    generalize iE d x 0=s at*
    have B:bits BinOp.or IntKind.i64 (s:Nat) 1=((s+1:Nat):Int):=by
     have:=Qz (z:=s) (p:=1) (QE (i:=0) m) (by have:s<1:=m;omega);exact this
    have Q:(q:Int)<=9:=f.2;have v:(a:Int)<40:=ah;have I:(0:Int)<=a:=ah;have G:=af g;have H:=af hq;clear f g hq m;by_cases hy:0<=y
    ·have U:decide (0<=y)=true:=sD
     have j:=aj (iE d x (0+1)=s+1) (zC);exact aiN
    have U:decide (0<=y)=false:=aC;have j:=aj (iE d x (0+1)=s) (zD);exact aiN
   ·have h:=r.o 1 ah
    rw[show((1:Nat):Int)=(1:Int) from rfl] at h;have f:=qZ u.o 1;obtain⟨q,hq⟩:=gI f.1;have E:=tY u.o (t:=1) ah;have b:(1:Int)+4*(q:Nat)=(plc x 1:Nat):=vZ;rw[hq] at h f;try simp only[zn] at b
    have l:=aj (iE d x (1+1)=if 0<=d.getD (plc x 1) 0 then iE d x 1+2^1 else iE d x 1) (rfl);have m:=Jr d x 1;obtain⟨a,g⟩:=ak (plc x 1);rw[<-g] at b E l;obtain⟨J,rfl,n,K⟩:=C.o.at_ (k:=a) uS;generalize d.getD a 0=y at*
    generalize iE d x 1=s at*
    have B:bits BinOp.or IntKind.i64 (s:Nat) 2=((s+2:Nat):Int):=by
     have:=Qz (z:=s) (p:=2) (QE (i:=1) m) (by have:s<2:=m;omega);exact this
    have Q:(q:Int)<=9:=f.2;have v:(a:Int)<40:=ah;have I:(0:Int)<=a:=ah;have G:=af g;have H:=af hq;clear f g hq m;by_cases hy:0<=y
    ·have U:decide (0<=y)=true:=sD
     have j:=aj (iE d x (1+1)=s+2) (zC);exact aiO
    have U:decide (0<=y)=false:=aC;have j:=aj (iE d x (1+1)=s) (zD);exact aiO
   ·have h:=r.o 2 ah
    rw[show((2:Nat):Int)=(2:Int) from rfl] at h;have f:=qZ u.o 2;obtain⟨q,hq⟩:=gI f.1;have E:=tY u.o (t:=2) ah;have b:(2:Int)+4*(q:Nat)=(plc x 2:Nat):=vZ;rw[hq] at h f;try simp only[zn] at b
    have l:=aj (iE d x (2+1)=if 0<=d.getD (plc x 2) 0 then iE d x 2+2^2 else iE d x 2) (rfl);have m:=Jr d x 2;obtain⟨a,g⟩:=ak (plc x 2);rw[<-g] at b E l;obtain⟨J,rfl,n,K⟩:=C.o.at_ (k:=a) uS;generalize d.getD a 0=y at*
    generalize iE d x 2=s at*
    have B:bits BinOp.or IntKind.i64 (s:Nat) 4=((s+4:Nat):Int):=by
     have:=Qz (z:=s) (p:=4) (QE (i:=2) m) (by have:s<4:=m;omega);exact this
    have Q:(q:Int)<=9:=f.2;have v:(a:Int)<40:=ah;have I:(0:Int)<=a:=ah;have G:=af g;have H:=af hq;clear f g hq m;by_cases hy:0<=y
    ·have U:decide (0<=y)=true:=sD
     have j:=aj (iE d x (2+1)=s+4) (zC);exact aiP
    have U:decide (0<=y)=false:=aC;have j:=aj (iE d x (2+1)=s) (zD);exact aiP
   have h:=r.o 3 ah;rw[show((3:Nat):Int)=(3:Int) from rfl] at h;have f:=qZ u.o 3;obtain⟨q,hq⟩:=gI f.1;have E:=tY u.o (t:=3) ah;have b:(3:Int)+4*(q:Nat)=(plc x 3:Nat):=vZ;rw[hq] at h f;try simp only[zn] at b
   have l:=aj (iE d x (3+1)=if 0<=d.getD (plc x 3) 0 then iE d x 3+2^3 else iE d x 3) (rfl);have m:=Jr d x 3;obtain⟨a,g⟩:=ak (plc x 3);rw[<-g] at b E l;obtain⟨J,rfl,n,K⟩:=C.o.at_ (k:=a) uS;generalize d.getD a 0=y at*
   generalize iE d x 3=s at*
   have B:bits BinOp.or IntKind.i64 (s:Nat) 8=((s+8:Nat):Int):=by
    have:=Qz (z:=s) (p:=8) (QE (i:=3) m) (by have:s<8:=m;omega);exact this
   have Q:(q:Int)<=9:=f.2;have v:(a:Int)<40:=ah;have I:(0:Int)<=a:=ah;have G:=af g;have H:=af hq;clear f g hq m;by_cases hy:0<=y
   ·have U:decide (0<=y)=true:=sD
    have j:=aj (iE d x (3+1)=s+8) (zC);exact aiQ
   have U:decide (0<=y)=false:=aC;have j:=aj (iE d x (3+1)=s) (zD);exact aiQ
  obtain rfl:i=4:=ah;go_wp2;go_ret;exact⟨rfl,D.o⟩
def SeAns(d ring x:Lz)(w:Wd)(e:Ending)(w':Wd):Prop:=e=.returned (.tuple #[.agg (agi (seX d ring x)),.int .i64 (seS d ring x),.int .i64 (jA d ring)])/\Bw w w'
theorem SeAns.bad{d x:Lz}{w':Wd}{er:Int}(c:jA d ring=er)(a:er≠0)(b:Bw w w'):SeAns d ring x w (.returned (.tuple #[.agg (agi Z4),.int .i64 0,.int .i64 er])) w':=
 ⟨by unfold seX seS;rw[c,if_neg a,if_neg a],b⟩
theorem SeAns.good{d x:Lz}{w':Wd}(b:jA d ring=0)(a:Bw w w'):SeAns d ring x w (.returned (.tuple #[.agg (agi x),.int .i64 (oQ d x 4),.int .i64 0])) w':=
 ⟨by unfold seX seS;rw[b,if_pos rfl,if_pos rfl],a⟩
def okD(d:Lz):Bool:=d.all fun x=>decide (-1099511627776<=x/\x<=1099511627776)
theorem EG{d:Lz}(h: ¬(d.length=40/\ring.length=40)):jA d ring=1:=by unfold jA;rw[if_neg h]
theorem afV{d:Lz}(a:d.length=40)(b:ring.length=40):jA d ring=if okD d then 0 else 2:=by unfold jA okD;rw[if_pos ⟨a,b⟩]
def seW(a:Wd)(gt:Nat):Wd:=((((a.alloc (.cells #[.pointer (some ⟨gt,0,none⟩)] 197)).alloc (.cells #[.int .i64 0,.int .i64 0,.int .i64 0,.int .i64 0] 76)).alloc (.cells #[.bool true] 4)).alloc (.cells #[.int .i64 0] 3)).alloc (.cells #[.int .i64 0] 3)
theorem Zk(a:Wd)(gt:Nat):Bw a (seW a gt):=by
 unfold seW;exact((((baqq _ _).alloc ay _).alloc aC _).alloc aC _).alloc aC _
theorem ao7(a:Wd)(e gt c:Nat)(A:Oz)(L d:Lz)(g:Blk a e 26 #[.slice A 40 c])(l:Rs a a.heap.size A d)(i:IB a gt 214 L):Sst a.heap.size e A c gt L d AC (seW a gt):=by
 have b:=Zk a gt;have j:=Blk.new a 197 #[.pointer (some ⟨gt,0,none⟩)];have k:=Blk.new (a.alloc (.cells #[.pointer (some ⟨gt,0,none⟩)] 197)) 76 #[.int .i64 0,.int .i64 0,.int .i64 0,.int .i64 0];have h:=Blk.new ((a.alloc (.cells #[.pointer (some ⟨gt,0,none⟩)] 197)).alloc (.cells #[.int .i64 0,.int .i64 0,.int .i64 0,.int .i64 0] 76)) 4 #[.bool true];have f:=Blk.new (((a.alloc (.cells #[.pointer (some ⟨gt,0,none⟩)] 197)).alloc (.cells #[.int .i64 0,.int .i64 0,.int .i64 0,.int .i64 0] 76)).alloc (.cells #[.bool true] 4)) 3 #[.int .i64 0];have J:=Blk.new ((((a.alloc (.cells #[.pointer (some ⟨gt,0,none⟩)] 197)).alloc (.cells #[.int .i64 0,.int .i64 0,.int .i64 0,.int .i64 0] 76)).alloc (.cells #[.bool true] 4)).alloc (.cells #[.int .i64 0] 3)) 3 #[.int .i64 0];simp only[bT] at j k h f J;exact⟨Blk.below' g b,l.below b,Blk.alloc (Blk.alloc (Blk.alloc (Blk.alloc j _) _) _) _,Blk.below' i b,Blk.alloc (Blk.alloc (Blk.alloc k _) _) _,Blk.alloc (Blk.alloc h _) _,Blk.alloc f _,J,Blk.lt g,Blk.lt i⟩
theorem ao8(A A2:Oz)(c c2 H n2:Nat)(d ring:Lz)(l:List (Lz))(pw qw:Value)(w:Wd)(U:Rs w w.heap.size A d)(hr:Rs w w.heap.size A2 ring)(l1:d.length=H)(l2:ring.length=n2)(rw_:W64 ring)(hlx:∀x∈l,Ix x)
 (KW:d.length=40->∀(g gd gt:Nat) (L:Lz) (s0:Bst) (W:Wd),Bw w W->w.heap.size<=g->Sst g gd A c gt L d s0 W->Tbl L ring 40 0->Ix s0.at_->JJ s0->
   Cl 152 #[QB g gd,pw,qw] W (fun e w'=>e=.returned (.tuple #[])/\Sst g gd A c gt L d (l.foldl (gZ d ring) s0) w'/\Onl g W w')):
 Cl 151 #[.slice A H c,.slice A2 n2 c2,.func (.func 152) #[] #[pw,qw]] w (SeAns d ring (kD d ring l).at_ w):=by
 have hR:=sG (fn:=Tryz.f151) (p:=6) (q:=7) (r:=8) (ty:=76) rfl;have FB:=af (fun(er:Int) (he:jA d ring=er) (h0:er≠0) w' (C:Bw w w')=>SeAns.bad (x:=(kD d ring l).at_) he h0 C);have M:=af ((baqq w (.cells #[.slice A H c] 26)).alloc ay (.cells (agi Z4) 76));have D0:=af (Blk.alloc (Blk.new w 26 #[.slice A H c]) (.cells (agi Z4) 76));have Z0:=IB.new (w.alloc (.cells #[.slice A H c] 26)) 76 Z4;simp only[bT] at Z0;have j:=af Z0;clear Z0;have z4:agi Z4= #[.int .i64 0,.int .i64 0,.int .i64 0,.int .i64 0]:=rfl;rw[z4] at M D0 j;obtain⟨V,hV⟩:=ak ((w.alloc (.cells #[.slice A H c] 26)).alloc (.cells #[.int .i64 0,.int .i64 0,.int .i64 0,.int .i64 0] 76));rw[<-hV] at M D0 j;have HV:=af hV;have HD:=af ((U.below M.o).more M.o.size);have HR:=af ((hr.below M.o).more M.o.size);have DL:=af l1;have RL:=af l2;have RW:=af rw_;have HLX:=af hlx;have HKW:=af KW;have cD:V.cell? ⟨w.heap.size,0,none⟩=some (.slice A H c):=Blk.cell D0.o 0;rw[hV] at cD;clear hV U hr l1 l2 rw_ hlx KW z4;have RB:=af (IB.setRow j.o Z4);have BB:=af (aS M.o (g:=w.heap.size+1) ah (agi Z4));by_cases hl:H=40;rotate_left
 ·have HE:=af (EG (d:=d) (ring:=ring) (by have:=DL.o;omega))
  have d0:((H:Int) !=40)=true:=aC;have d1: ¬(H:Int)=40:=ah;clear hl;exact ahW
 subst hl;by_cases hl2:n2=40;rotate_left
 ·have HE:=af (EG (d:=d) (ring:=ring) (by have:=RL.o;omega))
  have d0:((n2:Int) !=40)=true:=aC;have d1: ¬(n2:Int)=40:=ah;clear hl2;exact ahW
 subst hl2;have HE:=af (afV DL.o RL.o);go_enter Tryz.func151,Tryz.ntmps151;go_wp2;rw[<-HV.o];clear cD;go_loop [27] (fun iv=> ∃i:Nat,i<=40/\iv=.int .i64 i/\Hy (allTo (fun x=>decide (-1099511627776<=x/\x<=1099511627776)) d i)) (fun iv=>40-(intOf iv).toNat)
 case atStart=>exact⟨0,ah,rfl,af allTo.zero⟩
 case round=>
  obtain⟨i,hi,rfl,HY⟩:=hrel;by_cases hlt:i<40
  ·obtain⟨ad,rfl,_,c0⟩:=HD.o.at_ (k:=i) aa4
   obtain⟨x,hx⟩:=ak (d.getD i 0);rw[<-hx] at c0;by_cases hb:x< -1099511627776\/1099511627776<x
   ·have HE2:=aj (jA d ring=2) (ahu)
    clear hx;rcases hb with hb|hb
    ·have e1:decide (x< -1099511627776)=true:=Nb
     exact aih
    have e1:decide (x< -1099511627776)=false:=aC;have e3:decide (1099511627776<x)=true:=aC;exact aih
   exact aie
  obtain rfl:i=40:=ah;have OK:=aj (okD d=true) (HY.o.all (by rw[DL.o];exact ax _));have HE2:=af (show jA d ring=0 by rw[HE.o,OK.o];rfl);clear HY HE hlt hi RB BB FB;have KE:=af (aoV A2 c2 ring V HR.o RL.o RW.o);go_wp2_with fail;refine KE.o.mono ?_;rintro e a ⟨L,rfl,hI,hT,C⟩;have L1:=af hI;have T1:=af hT;have D1:=af (Blk.below' D0.o C);have Z1:=af (Blk.below' j.o C);have R1:=af ((HD.o.below C).more C.size);have B1:=af (aH M.o C);clear hI hT C KE HR HD D0 j M;have S2:=af (ao7 a w.heap.size V.heap.size c A L d D1.o R1.o L1.o);have B2:=af (aH B1.o (Zk a V.heap.size));have Z2:=af (Blk.below' Z1.o (Zk a V.heap.size));have LZ:=af (Blk.lt Z1.o);have T:=af (HKW.o DL.o a.heap.size w.heap.size V.heap.size L AC (seW a V.heap.size) B2.o B1.o.size S2.o T1.o Jp ⟨⟨aA,aA⟩,⟨aA,aA⟩⟩);have Q:=af (Jq (d:=d) (ring:=ring) (s:=AC) Jp HLX.o);obtain⟨P,hP⟩:=ak (SeAns d ring (kD d ring l).at_ w);have O:=af (fun w' (C:Bw w w')=>show P (.returned (.tuple #[.agg (agi (kD d ring l).at_),.int .i64 (oQ d (kD d ring l).at_ 4),.int .i64 0])) w' from by rw[hP];exact SeAns.good (x:=(kD d ring l).at_) HE2.o C);have HP:=af hP;clear hP;have F:=af (fun W (h:Rs W W.heap.size A d)=>afS A c d (kD d ring l).at_ W h DL.o Q.o);unfold kD at O F;unfold QB seW at T;generalize l.foldl (gZ d ring) AC=sb at*
  clear D1 R1 L1 T1 Z1 B1 HKW HLX RW;go_wp2_with fail;refine T.o.mono ?_;rintro e E ⟨rfl,hS,Y⟩;have J3:IB E (a.heap.size+1) 76 sb.at_:=hS.X;have cD:E.cell? ⟨w.heap.size,0,none⟩=some (.slice A 40 c):=Blk.cell hS.D 0;have R3:=aj (Rs E.drew E.drew.heap.size A d) (hS.R.more (by have:=hS.lt;show a.heap.size<=E.heap.size;omega));have D3:=af hS.D;have Z3:=aj (IB E (w.heap.size+1) 76 Z4) (Y.blk Z2.o (.inl LZ.o));have B3:=aj (Bw w E) (B2.o.trans ⟨Y.b.os,Y.b.tape,Y.b.output,Y.b.size,fun k hk=>Y.b.block k Gj⟩);clear hS Y T S2 B2 Z2;have S:=Q.o.1;have F:=F.o;have O:=O.o;obtain⟨xs,y⟩:=ak (sb.at_);rw[<-y] at J3 S F O;obtain⟨u,N,J,f,rfl⟩:=xC S;have J3:=af J3;generalize oQ d [u,N,J,f] 4=sv at*
  have KS1:=aj (Cl 153 #[.slice A 40 c,.agg #[.int .i64 u,.int .i64 N,.int .i64 J,.int .i64 f]] E.drew (fun e w'=>e=.returned (.int .i64 sv)/\Below E.drew.heap.size E.drew w')) (F E.drew R3.o);have O:=af O;rename_i J3r KSGr FGr;have LG: ¬w.heap.size+1=a.heap.size+1:=Gj;have LG2: ¬a.heap.size+1=w.heap.size+1:=Gj;have LG5: ¬w.heap.size=a.heap.size:=Gj;have LG6: ¬a.heap.size=w.heap.size:=Gj;have LG3: ¬w.heap.size=w.heap.size+1:=ah;have LG4: ¬w.heap.size=a.heap.size+1:=Gj;have G:=J3.o;have k0:World.cell? E ⟨a.heap.size+1,0,none⟩=some (.int .i64 u):=IB.cell G 0 gJ;have k1:World.cell? E ⟨a.heap.size+1,1,none⟩=some (.int .i64 N):=IB.cell G 1 gJ;have k2:World.cell? E ⟨a.heap.size+1,2,none⟩=some (.int .i64 J):=IB.cell G 2 gJ;have I:World.cell? E ⟨a.heap.size+1,3,none⟩=some (.int .i64 f):=IB.cell G 3 gJ;clear G F S y Q OK;go_wp2;go_region_held3 (fun w'=>w'.cell? ⟨a.heap.size+1,0,none⟩=some (.int .i64 u)/\w'.cell? ⟨a.heap.size+1,1,none⟩=some (.int .i64 N)/\w'.cell? ⟨a.heap.size+1,2,none⟩=some (.int .i64 J)/\w'.cell? ⟨a.heap.size+1,3,none⟩=some (.int .i64 f)/\w'.cell? ⟨w.heap.size,0,none⟩=some (.slice A 40 c)) (go_keep) (first
   |(go_at_call 153;(with_reducible refine KS1.o.mono ?_);rintro e t ⟨rfl,C⟩;have Z:IB t (a.heap.size+1) 76 [u,N,J,f]:=Blk.below' (Blk.drew J3.o) C;have cD4:t.cell? ⟨w.heap.size,0,none⟩=some (.slice A 40 c):=Blk.cell (Blk.below' (Blk.drew D3.o) C) 0;have n:IB t (w.heap.size+1) 76 Z4:=Blk.below' (Blk.drew Z3.o) C;have B4:=aj (Bw w t) (B3.o.drew.trans (C.mono B3.o.size));have l0:World.cell? t ⟨a.heap.size+1,0,none⟩=some (.int .i64 u):=IB.cell Z 0 gJ;have l1:World.cell? t ⟨a.heap.size+1,1,none⟩=some (.int .i64 N):=IB.cell Z 1 gJ;have l2:World.cell? t ⟨a.heap.size+1,2,none⟩=some (.int .i64 J):=IB.cell Z 2 gJ;have l3:World.cell? t ⟨a.heap.size+1,3,none⟩=some (.int .i64 f):=IB.cell Z 3 gJ;have z0:World.cell? t ⟨w.heap.size+1,0,none⟩=some (.int .i64 0):=IB.cell n 0 gJ;have z1:World.cell? t ⟨w.heap.size+1,1,none⟩=some (.int .i64 0):=IB.cell n 1 gJ;have z2:World.cell? t ⟨w.heap.size+1,2,none⟩=some (.int .i64 0):=IB.cell n 2 gJ;have z3:World.cell? t ⟨w.heap.size+1,3,none⟩=some (.int .i64 0):=IB.cell n 3 gJ;have B:World.frozen? t ⟨w.heap.size+1,0,none⟩=false:=Blk.frozen n 0;have z:World.frozen? t ⟨w.heap.size+1,1,none⟩=false:=Blk.frozen n 1;have y2:World.frozen? t ⟨w.heap.size+1,2,none⟩=false:=Blk.frozen n 2;have K:World.frozen? t ⟨w.heap.size+1,3,none⟩=false:=Blk.frozen n 3;have Z:=af Z;have m:=af n;clear C n))
  rename_i hHeldZ;clear hHeldZ;clear k0 k1 k2 I l0 l1 l2 l3 z0 z1 z2 z3 B z y2 K;simp only[Exit.then];have RF:=aj (IB ((((t.setCell ⟨w.heap.size+1,0,none⟩ (.int .i64 u)).setCell ⟨w.heap.size+1,1,none⟩ (.int .i64 N)).setCell ⟨w.heap.size+1,2,none⟩ (.int .i64 J)).setCell ⟨w.heap.size+1,3,none⟩ (.int .i64 f)) (w.heap.size+1) 76 [u,N,J,f]) (IB.set_ (IB.set_ (IB.set_ (IB.set_ m.o 0 u) 1 N) 2 J) 3 f);have BF:=af (show Bw w ((((t.setCell ⟨w.heap.size+1,0,none⟩ (.int .i64 u)).setCell ⟨w.heap.size+1,1,none⟩ (.int .i64 N)).setCell ⟨w.heap.size+1,2,none⟩ (.int .i64 J)).setCell ⟨w.heap.size+1,3,none⟩ (.int .i64 f)) from(((B4.o.setCell (p:=⟨w.heap.size+1,0,none⟩) vY _).setCell (p:=⟨w.heap.size+1,1,none⟩) vY _).setCell (p:=⟨w.heap.size+1,2,none⟩) vY _).setCell (p:=⟨w.heap.size+1,3,none⟩) vY _);go_wp2;refine aX (v:=_) (hR _ _ _ 76 [u,N,J,f] _ 4 rfl RF.o iO rfl fO rfl) rfl ?_;have:=O.o _ BF.o;rw[HP.o] at this;exact this
theorem ao9(A A2:Oz)(c c2 n1 n2:Nat)(d ring:Lz)(w:Wd)(U:Rs w w.heap.size A d)(hr:Rs w w.heap.size A2 ring)(l1:d.length=n1)(l2:ring.length=n2)(dw:W64 d)(rw_:W64 ring):
 Cl 75 #[.slice A n1 c,.slice A2 n2 c2] w (SeAns d ring (fV d ring 8) w):=by
 have hR:=sG (fn:=Tryz.f75) (p:=4) (q:=5) (r:=6) (ty:=76) rfl;have hmf:∀(fn:Fn) (first cap:Array Value) (w:Wd),(Instr.makeFunc fn first cap).run Tryz.prog w=.ok (.func fn first cap) w:=fun _ _ _ _=>rfl;have B0:=(baqq w (.cells (agi Z4) 76)).alloc ay (.cells (agi Z4) 76);have Z0:=Blk.alloc (IB.new w 76 Z4) (.cells (agi Z4) 76);have N0:=IB.new (w.alloc (.cells (agi Z4) 76)) 76 Z4;simp only[bT] at N0;rw[show agi Z4= #[.int .i64 0,.int .i64 0,.int .i64 0,.int .i64 0] from rfl] at B0 Z0 N0;obtain⟨V,hV⟩:=ak ((w.alloc (.cells #[.int .i64 0,.int .i64 0,.int .i64 0,.int .i64 0] 76)).alloc (.cells #[.int .i64 0,.int .i64 0,.int .i64 0,.int .i64 0] 76));rw[<-hV] at B0 Z0 N0;have HV:=af hV;have B0:=af B0;have Z0:=aj (IB V w.heap.size 76 Z4) (Z0);have N0:=af N0;have HD:=af U;have HR:=af hr;have KS:=af (fun(W:Wd) (h1:Rs W W.heap.size A d) (h2:Rs W W.heap.size A2 ring) (now:Lz) (hn:Ix now) (t:Nat) (F:t<4) (gn gq:Nat) (bn:IB W gn 76 now) (bq:Blk W gq 3 #[.int .i64 (t:Nat)])=>
  show Cl 151 #[.slice A n1 c,.slice A2 n2 c2,.func (.func 152) #[] #[.pointer (some ⟨gn,0,none⟩),.pointer (some ⟨gq,0,none⟩)]] W (SeAns d ring (kD d ring (jH now t 10)).at_ W) from
  ao8 A A2 c c2 n1 n2 d ring (jH now t 10) _ _ W h1 h2 l1 l2 rw_ (PO hn t (ax _)) (fun hl g gd gt L s0 W' l G S hT Z h64=>aoZ g gd gt gn gq c t A L d ring now s0 W' S hl dw hT Z h64 (Blk.below' bn l) (Blk.below' bq l) (je (Blk.lt bn) G) (je (Blk.lt bq) G) hn F))
 have KSG:=af (fun(he:jA d ring=0) (W:Wd) (h:Rs W W.heap.size A d) (x:Lz) (hx:Ix x)=>show Cl 153 #[.slice A n1 c,.agg (agi x)] W (fun e w'=>e=.returned (.int .i64 (oQ d x 4))/\Bw W w') from by
  have h40:n1=40:=by
   rw[<-l1];refine zl fun hc=>?_;rw[EG (fun h=>hc h.1)] at he;cases he
  subst h40;exact afS A c d x W h l1 hx)
 clear U hr l1 l2 dw rw_ hV;rename_i B0r Z0r N0r;clear B0r Z0r N0r;go_enter Tryz.func75,Tryz.ntmps75;go_wp2;rw[<-HV.o];go_loopw[12] (fun jv wr=> ∃j:Nat,j<=2/\jv=.int .i64 j/\Hy (IB wr w.heap.size 76 Z4)/\Hy (IB wr (w.heap.size+1) 76 (fV d ring (4*j)))/\Hy (0<j->jA d ring=0)/\Hy (Bw w wr)) (fun jv _=>2-(intOf jv).toNat)
 case atStart=>exact⟨0,ah,rfl,Z0,N0,af (fun h=>ah),B0⟩
 case round=>
  clear Z0 N0;obtain⟨j,hj,rfl,X,Q,O,H⟩:=hrel;obtain⟨E,rfl⟩:=ak (wr:Wd);by_cases hlt:j<2
  ·have hdec:decide ((j:Int)<2)=true:=aC
   go_wp2;go_loopw[14] (fun tv wr=> ∃t:Nat,t<=4/\tv=.int .i64 t/\Hy (IB wr w.heap.size 76 Z4)/\Hy (IB wr (w.heap.size+1) 76 (fV d ring (4*j+t)))/\Hy (0<j\/0<t->jA d ring=0)/\Hy (Bw w wr)) (fun tv _=>4-(intOf tv).toNat)
   case atStart=>exact⟨0,ah,rfl,X,Q,af (fun h=>O.o ah),H⟩
   case round=>
    clear X Q O H;obtain⟨t,F,rfl,X,Q,O,H⟩:=hrel;by_cases hlt4:t<4
    ·have D:=baqq wr (.cells #[.int .i64 (t:Nat)] 3)
     have Z1:=aj (IB (wr.alloc (.cells #[.int .i64 (t:Nat)] 3)) w.heap.size 76 Z4) (Blk.below' X.o D);have N1:=aj (IB (wr.alloc (.cells #[.int .i64 (t:Nat)] 3)) (w.heap.size+1) 76 (fV d ring (4*j+t))) (Blk.below' Q.o D);have B1:=af (aH H.o D);have Q1:=af (Blk.new wr 3 #[.int .i64 (t:Nat)]);have NX:=aj (fV d ring (4*j+(t+1))=(kD d ring (jH (fV d ring (4*j+t)) t 10)).at_) (by
      rw[show 4*j+(t+1)=(4*j+t)+1 from ah,fV,show(4*j+t)%4=t from ah])
     have NL:=af (yL d ring (4*j+(t+1)));have n:=af (fun(W:Wd) (h1:Rs W W.heap.size A d) (h2:Rs W W.heap.size A2 ring) (gn gq:Nat) bn bq=>KS.o W h1 h2 (fV d ring (4*j+t)) (yL d ring _) t hlt4 gn gq bn bq);unfold SeAns seX seS at n;rw[<-NX.o] at n;have hdt:decide ((t:Int)<4)=true:=aC;obtain⟨s,hnx⟩:=ak (fV d ring (4*j+(t+1)));rw[<-hnx] at n NL;have NXE:=af hnx;clear hnx NX;have NI:=af (yL d ring (4*j+t));generalize fV d ring (4*j+t)=now at*
     have KS2:=af (n.o _ ((HD.o.below B1.o).more B1.o.size) ((HR.o.below B1.o).more B1.o.size) (w.heap.size+1) wr.heap.size N1.o Q1.o);clear n X Q H;go_wp2_with fail;refine KS2.o.mono ?_;rintro e i ⟨rfl,l⟩;have Z2:=af (Blk.below' Z1.o l);have N2:=af (Blk.below' N1.o l);have B2:=af (aH B1.o l);clear l KS2 Z1 N1 B1 Q1;have D:=baqq i (.cells (agi Z4) 76);by_cases he:jA d ring=0
     ·rw[if_pos he]
      have HE2:=aj (0<j\/0<t+1->jA d ring=0) (fun _=>he);rw[if_pos he];rw[he];have X1:=af (IB.setRow (IB.new i 76 Z4) s);have Z3:=aj (IB ((i.alloc (.cells (agi Z4) 76)).setRow i.heap.size (agi s)) w.heap.size 76 Z4) (Blk.rowFar (Blk.below' Z2.o D) Uy);have N3:=aj (IB ((i.alloc (.cells (agi Z4) 76)).setRow i.heap.size (agi s)) (w.heap.size+1) 76 now) (Blk.rowFar (Blk.below' N2.o D) (by have:=Blk.lt N2.o;omega));have B3:=af (aS (aH B2.o D) (g:=i.heap.size) B2.o.size (agi s));obtain⟨w3,b⟩:=ak ((i.alloc (.cells (agi Z4) 76)).setRow i.heap.size (agi s));rw[<-b] at X1 Z3 N3 B3;rw[show agi Z4= #[.int .i64 0,.int .i64 0,.int .i64 0,.int .i64 0] from rfl] at b;have T:=af b;have a:=aj (IB (w3.setRow (w.heap.size+1) (agi s)) w.heap.size 76 Z4) (Blk.rowFar Z3.o ah);have N4:=aj (IB (w3.setRow (w.heap.size+1) (agi s)) (w.heap.size+1) 76 s) (IB.setRow N3.o s);have B4:=af (aS B3.o (g:=w.heap.size+1) ah (agi s));clear Z2 N2 B2 b D O;go_wp2_with(first
       |(refine aQ 76 (.tmp 9) (.tmp 22) Z4 s 4 (IB.new i _ Z4) fO rfl NL.o.1 ?_;rw[<-T.o])
       |(refine aK 76 (.tmp 9) s 4 X1.o iO fO NL.o.1 ?_)
       |(refine aQ 76 (.tmp 7) (.tmp 29) now s 4 N3.o fO NI.o.1 NL.o.1 ?_))
      go_roundw;case rel=>exact⟨t+1,ah,aT,a,by rw[<-NXE.o];exact N4,HE2,B4⟩
      case measure=>exact aW
     rw[if_neg he,if_neg he];have FB:=af (fun w' (l:Bw w w')=>SeAns.bad (x:=fV d ring 8) (d:=d) (ring:=ring) rfl he l);obtain⟨er,Y⟩:=ak (jA d ring);rw[<-Y] at FB he|-;have hne:(er !=0)=true:=x8;clear Y;have Z3:=aj (IB ((i.alloc (.cells (agi Z4) 76)).setRow i.heap.size (agi Z4)) w.heap.size 76 Z4) (Blk.rowFar (Blk.below' Z2.o D) Uy);have B3:=af (aS (aH B2.o D) (g:=i.heap.size) B2.o.size (agi Z4));obtain⟨w3,b⟩:=ak ((i.alloc (.cells (agi Z4) 76)).setRow i.heap.size (agi Z4));rw[<-b] at Z3 B3;rw[show(i.alloc (.cells (agi Z4) 76))=(i.alloc (.cells #[.int .i64 0,.int .i64 0,.int .i64 0,.int .i64 0] 76)) from rfl] at b;have T:=af b;have RF:=af (IB.setRow Z3.o Z4);have BF:=af (aS B3.o (g:=w.heap.size) (ax _) (agi Z4));clear Z2 N2 B2 b D O he NL NXE KSG KS;go_wp2_with(first
      |(refine aQ 76 (.tmp 9) (.tmp 22) Z4 Z4 4 (IB.new i _ Z4) fO rfl rfl ?_;rw[<-T.o])
      |(refine aQ 76 (.tmp 4) (.tmp 27) Z4 Z4 4 Z3.o fO rfl rfl ?_))
     exact aiT
    obtain rfl:t=4:=ah;have NN:=aj (IB wr (w.heap.size+1) 76 (fV d ring (4*(j+1)))) (by rw[show 4*(j+1)=4*j+4 from ah];exact Q.o);have HE3:=aj (0<j+1->jA d ring=0) (fun _=>O.o (.inr ah));go_wp2;go_roundw;case rel=>exact⟨j+1,ah,aT,X,NN,HE3,H⟩
    case measure=>exact aW
  obtain rfl:j=2:=ah;have E0:=af (O.o ah);have k:=Q.o;rw[show 4*2=8 from rfl] at k;have M:=yL d ring 8;have R:=KSG.o E0.o E.drew (show Rs E.drew E.drew.heap.size A d from(HD.o.below H.o).more H.o.size);obtain⟨P,hP⟩:=ak (SeAns d ring (fV d ring 8) w);have FG:=fun w' (l:Bw w w')=>show P (.returned (.tuple #[.agg (agi (fV d ring 8)),.int .i64 (oQ d (fV d ring 8) 4),.int .i64 0])) w' from by rw[hP];exact SeAns.good (x:=fV d ring 8) E0.o l
  have HP:=af hP;clear hP KS KSG O Q hlt hj;have C:=R (fV d ring 8) M;clear R;obtain⟨xs,y⟩:=ak (fV d ring 8);have HXS:=af y;rw[<-y] at k M C FG;clear y;obtain⟨u,N,J,f,rfl⟩:=xC M.1;have FG:=af FG;have J3:=af k;generalize oQ d [u,N,J,f] 4=sv at*
  have n:=aj (Cl 153 #[.slice A n1 c,.agg #[.int .i64 u,.int .i64 N,.int .i64 J,.int .i64 f]] E.drew (fun e w'=>e=.returned (.int .i64 sv)/\Below E.drew.heap.size E.drew w')) (C);rename_i FGr;clear FGr C M;have k0:World.cell? E ⟨w.heap.size+1,0,none⟩=some (.int .i64 u):=IB.cell k 0 gJ;have k1:World.cell? E ⟨w.heap.size+1,1,none⟩=some (.int .i64 N):=IB.cell k 1 gJ;have k2:World.cell? E ⟨w.heap.size+1,2,none⟩=some (.int .i64 J):=IB.cell k 2 gJ;have I:World.cell? E ⟨w.heap.size+1,3,none⟩=some (.int .i64 f):=IB.cell k 3 gJ;clear k;go_wp2;go_region_held3 (fun w'=>w'.cell? ⟨w.heap.size+1,0,none⟩=some (.int .i64 u)/\w'.cell? ⟨w.heap.size+1,1,none⟩=some (.int .i64 N)/\w'.cell? ⟨w.heap.size+1,2,none⟩=some (.int .i64 J)/\w'.cell? ⟨w.heap.size+1,3,none⟩=some (.int .i64 f)) (go_keep) (first
   |(go_at_call 153;(with_reducible refine n.o.mono ?_);rintro e w3 ⟨rfl,l⟩;have J4:IB w3 (w.heap.size+1) 76 [u,N,J,f]:=Blk.below' (Blk.drew J3.o) l;have a:IB w3 w.heap.size 76 Z4:=Blk.below' (Blk.drew X.o) l;have B4:=aj (Bw w w3) (H.o.drew.trans (l.mono H.o.size));have l0:World.cell? w3 ⟨w.heap.size+1,0,none⟩=some (.int .i64 u):=IB.cell J4 0 gJ;have l1:World.cell? w3 ⟨w.heap.size+1,1,none⟩=some (.int .i64 N):=IB.cell J4 1 gJ;have l2:World.cell? w3 ⟨w.heap.size+1,2,none⟩=some (.int .i64 J):=IB.cell J4 2 gJ;have l3:World.cell? w3 ⟨w.heap.size+1,3,none⟩=some (.int .i64 f):=IB.cell J4 3 gJ;have z0:World.cell? w3 ⟨w.heap.size,0,none⟩=some (.int .i64 0):=IB.cell a 0 gJ;have z1:World.cell? w3 ⟨w.heap.size,1,none⟩=some (.int .i64 0):=IB.cell a 1 gJ;have z2:World.cell? w3 ⟨w.heap.size,2,none⟩=some (.int .i64 0):=IB.cell a 2 gJ;have z3:World.cell? w3 ⟨w.heap.size,3,none⟩=some (.int .i64 0):=IB.cell a 3 gJ;have B:World.frozen? w3 ⟨w.heap.size,0,none⟩=false:=Blk.frozen a 0;have z:World.frozen? w3 ⟨w.heap.size,1,none⟩=false:=Blk.frozen a 1;have y2:World.frozen? w3 ⟨w.heap.size,2,none⟩=false:=Blk.frozen a 2;have K:World.frozen? w3 ⟨w.heap.size,3,none⟩=false:=Blk.frozen a 3;have J4:=af J4;have m:=af a;clear l a))
  exact ahK
theorem aqc(A A2:Oz)(c c2 f g:Nat)(d ring:Lz)(w:Wd)(U:Rs w w.heap.size A d)(b:d.length=f)(h:ring.length=g):
 Cl 176 #[.slice A f c,.slice A2 g c2] w (fun e w'=>e=.returned (.int .i64 (jA d ring))/\w=w'):=by
 by_cases l:f=40;rotate_left
 ·have HE:=af (EG (d:=d) (ring:=ring) ah)
  have q:((f:Int) !=40)=true:=aC;have r: ¬(f:Int)=40:=ah;clear l U b h;exact aji
 subst l;by_cases a:g=40;rotate_left
 ·have HE:=af (EG (d:=d) (ring:=ring) ah)
  have q:((g:Int) !=40)=true:=aC;have r: ¬(g:Int)=40:=ah;clear a U b h;exact aji
 subst a;have HE:=af (afV b h);have m:=af U;have DL:=af b;clear U b h;go_enter Tryz.func176,Tryz.ntmps176;go_wp2;go_loop [17] (fun j=> ∃i:Nat,i<=40/\j=.int .i64 i/\Hy (allTo (fun x=>decide (-1099511627776<=x/\x<=1099511627776)) d i)) (fun j=>40-(intOf j).toNat)
 case atStart=>exact⟨0,ah,rfl,af allTo.zero⟩
 case round=>
  obtain⟨i,hi,rfl,HY⟩:=hrel;by_cases hlt:i<40
  ·obtain⟨s,rfl,_,p⟩:=m.o.at_ (k:=i) aa4
   obtain⟨x,hx⟩:=ak (d.getD i 0);rw[<-hx] at p;by_cases hb:x< -1099511627776\/1099511627776<x
   ·have HE2:=aj (jA d ring=2) (ahu)
    clear hx;rcases hb with hb|hb
    ·have e1:decide (x< -1099511627776)=true:=Nb
     exact abK
    have e1:decide (x< -1099511627776)=false:=aC;have e3:decide (1099511627776<x)=true:=aC;exact abK
   exact aie
  obtain rfl:i=40:=ah;have n:=aj (okD d=true) (HY.o.all (by rw[DL.o];exact ax _));have HE2:=af (show jA d ring=0 by rw[HE.o,n.o];rfl);exact abK
def sgT(d x:Lz):Nat->Nat
 |0=>0
 |i+1=>if 0<=d.getD (plc x (3-i)) 0 then sgT d x i*2+1 else sgT d x i*2
theorem QR(d x:Lz)(i:Nat):sgT d x i<2^i:=by
 induction i with
 |zero=>simp[sgT]
 |succ i ih=>
  unfold sgT;rw[uy];split<;>omega
theorem aqd(d x:Lz):((sgT d x 4:Nat):Int)=oQ d x 4:=by
 unfold oQ;congr 1;simp only[sgT,iE,show 3-0=3 from rfl,show 3-1=2 from rfl,show 3-2=1 from rfl,show 3-3=0 from rfl];generalize d.getD (plc x 0) 0=a0;generalize d.getD (plc x 1) 0=a1;generalize d.getD (plc x 2) 0=a2;generalize d.getD (plc x 3) 0=a3;by_cases a:0<=a0<;>by_cases b:0<=a1<;>by_cases c:0<=a2<;>by_cases e:0<=a3<;>simp[a,b,c,e]
theorem aqe(A:Oz)(c:Nat)(d x:Lz)(w:Wd)(U:Rs w w.heap.size A d)(N:d.length=40)(J:Ix x):
 Cl 178 #[.slice A 40 c,.agg (agi x)] w (fun e w'=>e=.returned (.int .i64 (oQ d x 4))/\Bw w w'):=by
 have v:=af (baqq w (.cells (agi x) 76));have M:=af (IB.new w 76 x);have u:=af ((U.below v.o).more v.o.size);have DL:=af N;have n:=af J.2;have P:=af J.1;have D:=af (aqd d x);clear U N J;go_enter Tryz.func178,Tryz.ntmps178;go_wp2;generalize w.alloc (.cells (agi x) 76)=V at M u v|-;go_loop [5,6] (fun O K=> ∃i:Nat,i<=4/\K=.int .i64 (3-(i:Int))/\O=.int .i64 ((sgT d x i:Nat):Int)) (fun _ K=>(intOf K+1).toNat)
 case atStart=>exact⟨0,ah,rfl,rfl⟩
 case round=>
  obtain⟨i,hi,rfl,rfl⟩:=hrel;by_cases I:i<4
  ·have H:i=0\/i=1\/i=2\/i=3:=ah
   clear I hi;rcases H with rfl|rfl|rfl|rfl
   ·have f:=qZ n.o 3
    obtain⟨q,hq⟩:=gI f.1;have E:=tY n.o (t:=3) ah;have b:(3:Int)+4*(q:Nat)=(plc x 3:Nat):=vZ;have r:=IB.cell M.o 3 Vr;rw[hq] at f r;try simp only[zn] at b
    have l:=aj (sgT d x (0+1)=if 0<=d.getD (plc x 3) 0 then sgT d x 0*2+1 else sgT d x 0*2) (rfl);have m:=QR d x 0;obtain⟨a,g⟩:=ak (plc x 3);rw[<-g] at b E l;obtain⟨F,rfl,h,G⟩:=u.o.at_ (k:=a) uS;generalize d.getD a 0=y at*
    generalize sgT d x 0=s at*
    have L:(q:Int)<=9:=f.2;have p:(a:Int)<40:=ah;have C:(0:Int)<=a:=ah;have s16:(s:Int)<16:=(by have:s<1:=m;omega);have z:=af g;have B:=af hq;clear f g hq m;by_cases hy:0<=y
    ·have U:decide (0<=y)=true:=sD
     have j:=aj (sgT d x (0+1)=s*2+1) (zC);exact aiV
    have U:decide (0<=y)=false:=aC;have j:=aj (sgT d x (0+1)=s*2) (zD);exact aiV
   ·have f:=qZ n.o 2
    obtain⟨q,hq⟩:=gI f.1;have E:=tY n.o (t:=2) ah;have b:(2:Int)+4*(q:Nat)=(plc x 2:Nat):=vZ;have r:=IB.cell M.o 2 Vr;rw[hq] at f r;try simp only[zn] at b
    have l:=aj (sgT d x (1+1)=if 0<=d.getD (plc x 2) 0 then sgT d x 1*2+1 else sgT d x 1*2) (rfl);have m:=QR d x 1;obtain⟨a,g⟩:=ak (plc x 2);rw[<-g] at b E l;obtain⟨F,rfl,h,G⟩:=u.o.at_ (k:=a) uS;generalize d.getD a 0=y at*
    generalize sgT d x 1=s at*
    have L:(q:Int)<=9:=f.2;have p:(a:Int)<40:=ah;have C:(0:Int)<=a:=ah;have s16:(s:Int)<16:=(by have:s<2:=m;omega);have z:=af g;have B:=af hq;clear f g hq m;by_cases hy:0<=y
    ·have U:decide (0<=y)=true:=sD
     have j:=aj (sgT d x (1+1)=s*2+1) (zC);exact aiW
    have U:decide (0<=y)=false:=aC;have j:=aj (sgT d x (1+1)=s*2) (zD);exact aiW
   ·have f:=qZ n.o 1
    obtain⟨q,hq⟩:=gI f.1;have E:=tY n.o (t:=1) ah;have b:(1:Int)+4*(q:Nat)=(plc x 1:Nat):=vZ;have r:=IB.cell M.o 1 Vr;rw[hq] at f r;try simp only[zn] at b
    have l:=aj (sgT d x (2+1)=if 0<=d.getD (plc x 1) 0 then sgT d x 2*2+1 else sgT d x 2*2) (rfl);have m:=QR d x 2;obtain⟨a,g⟩:=ak (plc x 1);rw[<-g] at b E l;obtain⟨F,rfl,h,G⟩:=u.o.at_ (k:=a) uS;generalize d.getD a 0=y at*
    generalize sgT d x 2=s at*
    have L:(q:Int)<=9:=f.2;have p:(a:Int)<40:=ah;have C:(0:Int)<=a:=ah;have s16:(s:Int)<16:=(by have:s<4:=m;omega);have z:=af g;have B:=af hq;clear f g hq m;by_cases hy:0<=y
    ·have U:decide (0<=y)=true:=sD
     have j:=aj (sgT d x (2+1)=s*2+1) (zC);exact aiX
    have U:decide (0<=y)=false:=aC;have j:=aj (sgT d x (2+1)=s*2) (zD);exact aiX
   have f:=qZ n.o 0;obtain⟨q,hq⟩:=gI f.1;have E:=tY n.o (t:=0) ah;have b:(0:Int)+4*(q:Nat)=(plc x 0:Nat):=vZ;have r:=IB.cell M.o 0 Vr;rw[hq] at f r;try simp only[zn] at b
   have l:=aj (sgT d x (3+1)=if 0<=d.getD (plc x 0) 0 then sgT d x 3*2+1 else sgT d x 3*2) (rfl);have m:=QR d x 3;obtain⟨a,g⟩:=ak (plc x 0);rw[<-g] at b E l;obtain⟨F,rfl,h,G⟩:=u.o.at_ (k:=a) uS;generalize d.getD a 0=y at*
   generalize sgT d x 3=s at*
   have L:(q:Int)<=9:=f.2;have p:(a:Int)<40:=ah;have C:(0:Int)<=a:=ah;have s16:(s:Int)<16:=(by have:s<8:=m;omega);have z:=af g;have B:=af hq;clear f g hq m;by_cases hy:0<=y
   ·have U:decide (0<=y)=true:=sD
    have j:=aj (sgT d x (3+1)=s*2+1) (zC);exact aiY
   have U:decide (0<=y)=false:=aC;have j:=aj (sgT d x (3+1)=s*2) (zD);exact aiY
  obtain rfl:i=4:=ah;go_wp2;go_ret;exact⟨by rw[<-D.o];rfl,v.o⟩
