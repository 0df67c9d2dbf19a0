/- Lemmas. -/
import Derived.Test.YtaahbkbnfpajdaaGreatDoorZef03
import Derived.Test.YtaahbkbnfpajdaaGreatDoorZef06
namespace Go.Proofs.YtaahbkbnfpajdaaGreatDoor
set_option linter.all false
set_option maxRecDepth 100000
set_option maxHeartbeats 8000000
open Go.RowKit
variable{A:Oz}{xs:Lz}
theorem akv(x:Int):bits BinOp.and IntKind.i64 x 65535=x%65536:=by
 have h:(BitVec.ofInt 64 x&&&BitVec.ofInt 64 65535).toNat=(x%65536).toNat:=by
  rw[aab,Cb,show(BitVec.ofInt 64 65535).toNat=2^16-1 from aA,aac];omega
 show IntKind.i64.wrap ((BitVec.ofInt 64 x&&&BitVec.ofInt 64 65535).toNat:Int)=_;rw[h];simp only[IntKind.wrap,IntKind.signed,IntKind.bits];simp;omega
def nzS(s:Int):Int:=(s*31821+13849)%65536
def nzZ(z:Int):Int:=min (max z 0) 32767
def nzX(s z:Int):Int:=(nzS s-32768)*nzZ z/32768
theorem zV(s:Int):0<=nzS s/\nzS s<=65535:=by unfold nzS;omega
theorem akw(z:Int):0<=nzZ z/\nzZ z<=32767:=by unfold nzZ;omega
theorem Nw{a b:Int}(d:0<=a)(e:a<=65535)(c:0<=b)(f:b<=32767): -2147483648<=(a-32768)*b/\(a-32768)*b<=2147483648:=by
 have g:(a-32768)*b<=32767*b:=uB ah c;have h: -32768*b<=(a-32768)*b:=uB ah c;omega
theorem akx(s:Int):bits BinOp.and IntKind.i64 (wrap64 (wrap64 (s*31821)+13849)) 65535=nzS s:=by
 rw[akv];unfold nzS wrap64;omega
def acj(w:Wd)(s z:Int)(e:Ending)(w':Wd):Prop:=e=.returned (.tuple #[.int .i64 (nzS s),.int .i64 (nzX s z)])/\Bw w w'
theorem aky(s z:Int)(w:Wd):Cl 156 #[.int .i64 s,.int .i64 z] w fun e w'=>e=.returned (.tuple #[.int .i64 (nzS s),.int .i64 (nzX s z)])/\w=w':=by
 have hw:=akx s;have c:=zV s;have HX:=aj (nzX s z=(nzS s-32768)*nzZ z/32768) (rfl);generalize nzS s=y at*
 obtain⟨a,b⟩:=c;rcases(show(z<0/\nzZ z=0)\/(0<=z/\z<=32767/\nzZ z=z)\/(32767<z/\nzZ z=32767) by unfold nzZ;omega) with⟨hz,e0⟩|⟨hz0,hz1,e0⟩|⟨hz,e0⟩;all_goals
  rw[e0] at HX;clear e0
 ·exact aby
 ·obtain⟨d,J⟩:=Nw a b hz0 hz1
  exact aby
 exact aby
theorem akz(s z:Int)(w:Wd)(A: -9223372036854775808<=s)(B:s<=9223372036854775807):Cl 182 #[.int .i64 s,.int .i64 z] w (acj w s z):=by
 have V:=zV s;have HX:=aj (nzX s z=(nzS s-32768)*nzZ z/32768) (rfl);have C:=aj ((s*31821+13849)%65536=nzS s) (rfl);obtain⟨y,U⟩:=ak (nzS s);rw[<-U] at V HX C;have D:=af (fun(Q:Wd) (v:Int) (hv:v=nzX s z) (hB:Bw w Q)=>show acj w s z (.returned (.tuple #[.int .i64 y,.int .i64 v])) Q from⟨by rw[hv,U],hB⟩);obtain⟨R,T⟩:=V;have E:=aj ((s*31821).natAbs<340282366920938463463374607431768211456/\(s*31821+13849).natAbs<340282366920938463463374607431768211456) (ah);clear U;rcases(show(z<0/\nzZ z=0)\/(0<=z/\z<=32767/\nzZ z=z)\/(32767<z/\nzZ z=32767) by unfold nzZ;omega) with⟨hz,e0⟩|⟨hz0,hz1,e0⟩|⟨hz,e0⟩
 ·skip
  rw[e0] at HX;clear e0;go_enter Tryz.func182,aad;go_wp2_with fail;refine(jM _ s A B).mono ?_;rintro e Q ⟨G,rfl,M,a,hB⟩;have r:=af (IntBlk.below (IntBlk.new w (.bool false) (.slice none 0 0)) hB (ax _));have k:=af a;have d:=af (((aP _ w).alloc (ax _) (.cells #[.bool false,.slice none 0 0] 144)).trans (hB.mono ay));clear a hB;go_wp2_with fail;refine(nH _ 31821 ah ah).mono ?_;rintro e W ⟨H,rfl,N,a,hB⟩;have t:=af (r.o.below hB (ax _));have l:=af (k.o.below hB (ax _));have n:=af a;have g:=af (aH d.o hB);clear a hB r k d;go_wp2_with fail;refine(oJ _ w.heap.size G H s 31821 t.o l.o n.o (bW ah) (bW aA)).mono ?_;rintro e X ⟨rfl,a,c⟩;have x:=af a;have h:=af (eP g.o c (ax _));clear a c t l n g;go_wp2_with fail;refine(nH _ 13849 ah ah).mono ?_;rintro e Y ⟨I,rfl,O,a,hB⟩;have Z4:=af (x.o.below hB (ax _));have p:=af a;have i:=af (aH h.o hB);clear a hB x h;go_wp2_with fail;refine(uZ _ w.heap.size w.heap.size I (s*31821) 13849 Z4.o.blk Z4.o p.o (bW E.o.1) (bW aA)).mono ?_;rintro e Z ⟨rfl,a,c⟩;have m:=af a;have j:=af (eP i.o c (ax _));clear a c Z4 p i;go_wp2_with fail;refine(nH _ 65536 ah ah).mono ?_;rintro e w6 ⟨L,rfl,P,a,hB⟩;have f:=af (m.o.below hB (ax _));have q:=af a;have u:=af (aH j.o hB);clear a hB m j;go_wp2_with fail;refine(WG _ w.heap.size w.heap.size L (s*31821+13849) 65536 f.o.blk f.o q.o (.inr aA) (bW E.o.2) aA aA).mono ?_;rintro e w7 ⟨rfl,a,c⟩;rw[C.o] at a;have F:=af a;have K:=af (eP u.o c (ax _));clear a c f q u;go_wp2_with fail;refine(qm _ w.heap.size y F.o ah ah).mono ?_;rintro e w8 ⟨rfl,rfl⟩;obtain⟨m1,J⟩:=Nw (b:=0) R T ah ah;exact abn
 ·skip
  rw[e0] at HX;clear e0;go_enter Tryz.func182,aad;go_wp2_with fail;refine(jM _ s A B).mono ?_;rintro e Q ⟨G,rfl,M,a,hB⟩;have r:=af (IntBlk.below (IntBlk.new w (.bool false) (.slice none 0 0)) hB (ax _));have k:=af a;have d:=af (((aP _ w).alloc (ax _) (.cells #[.bool false,.slice none 0 0] 144)).trans (hB.mono ay));clear a hB;go_wp2_with fail;refine(nH _ 31821 ah ah).mono ?_;rintro e W ⟨H,rfl,N,a,hB⟩;have t:=af (r.o.below hB (ax _));have l:=af (k.o.below hB (ax _));have n:=af a;have g:=af (aH d.o hB);clear a hB r k d;go_wp2_with fail;refine(oJ _ w.heap.size G H s 31821 t.o l.o n.o (bW ah) (bW aA)).mono ?_;rintro e X ⟨rfl,a,c⟩;have x:=af a;have h:=af (eP g.o c (ax _));clear a c t l n g;go_wp2_with fail;refine(nH _ 13849 ah ah).mono ?_;rintro e Y ⟨I,rfl,O,a,hB⟩;have Z4:=af (x.o.below hB (ax _));have p:=af a;have i:=af (aH h.o hB);clear a hB x h;go_wp2_with fail;refine(uZ _ w.heap.size w.heap.size I (s*31821) 13849 Z4.o.blk Z4.o p.o (bW E.o.1) (bW aA)).mono ?_;rintro e Z ⟨rfl,a,c⟩;have m:=af a;have j:=af (eP i.o c (ax _));clear a c Z4 p i;go_wp2_with fail;refine(nH _ 65536 ah ah).mono ?_;rintro e w6 ⟨L,rfl,P,a,hB⟩;have f:=af (m.o.below hB (ax _));have q:=af a;have u:=af (aH j.o hB);clear a hB m j;go_wp2_with fail;refine(WG _ w.heap.size w.heap.size L (s*31821+13849) 65536 f.o.blk f.o q.o (.inr aA) (bW E.o.2) aA aA).mono ?_;rintro e w7 ⟨rfl,a,c⟩;rw[C.o] at a;have F:=af a;have K:=af (eP u.o c (ax _));clear a c f q u;go_wp2_with fail;refine(qm _ w.heap.size y F.o ah ah).mono ?_;rintro e w8 ⟨rfl,rfl⟩;obtain⟨m1,J⟩:=Nw (b:=z) R T ah ah;exact abn
 rw[e0] at HX;clear e0;go_enter Tryz.func182,aad;go_wp2_with fail;refine(jM _ s A B).mono ?_;rintro e Q ⟨G,rfl,M,a,hB⟩;have r:=af (IntBlk.below (IntBlk.new w (.bool false) (.slice none 0 0)) hB (ax _));have k:=af a;have d:=af (((aP _ w).alloc (ax _) (.cells #[.bool false,.slice none 0 0] 144)).trans (hB.mono ay));clear a hB;go_wp2_with fail;refine(nH _ 31821 ah ah).mono ?_;rintro e W ⟨H,rfl,N,a,hB⟩;have t:=af (r.o.below hB (ax _));have l:=af (k.o.below hB (ax _));have n:=af a;have g:=af (aH d.o hB);clear a hB r k d;go_wp2_with fail;refine(oJ _ w.heap.size G H s 31821 t.o l.o n.o (bW ah) (bW aA)).mono ?_;rintro e X ⟨rfl,a,c⟩;have x:=af a;have h:=af (eP g.o c (ax _));clear a c t l n g;go_wp2_with fail;refine(nH _ 13849 ah ah).mono ?_;rintro e Y ⟨I,rfl,O,a,hB⟩;have Z4:=af (x.o.below hB (ax _));have p:=af a;have i:=af (aH h.o hB);clear a hB x h;go_wp2_with fail;refine(uZ _ w.heap.size w.heap.size I (s*31821) 13849 Z4.o.blk Z4.o p.o (bW E.o.1) (bW aA)).mono ?_;rintro e Z ⟨rfl,a,c⟩;have m:=af a;have j:=af (eP i.o c (ax _));clear a c Z4 p i;go_wp2_with fail;refine(nH _ 65536 ah ah).mono ?_;rintro e w6 ⟨L,rfl,P,a,hB⟩;have f:=af (m.o.below hB (ax _));have q:=af a;have u:=af (aH j.o hB);clear a hB m j;go_wp2_with fail;refine(WG _ w.heap.size w.heap.size L (s*31821+13849) 65536 f.o.blk f.o q.o (.inr aA) (bW E.o.2) aA aA).mono ?_;rintro e w7 ⟨rfl,a,c⟩;rw[C.o] at a;have F:=af a;have K:=af (eP u.o c (ax _));clear a c f q u;go_wp2_with fail;refine(qm _ w.heap.size y F.o ah ah).mono ?_;rintro e w8 ⟨rfl,rfl⟩;obtain⟨m1,J⟩:=Nw (b:=32767) R T ah ah;exact abn
theorem alf(f g:Nat->Int)(n:Nat):aN (fun i=>f i+g i) n=aN f n+aN g n:=by
 induction n with
 |zero=>rfl
 |succ n ih=>simp only[aN];rw[ih];omega
theorem Xk(c:Int)(f:Nat->Int)(n:Nat):aN (fun i=>c*f i) n=c*aN f n:=by
 induction n with
 |zero=>simp[aN]
 |succ n ih=>simp only[aN];rw[ih,Lj]
theorem Xl(n:Nat):aN (fun _=>0) n=0:=by
 induction n with
 |zero=>rfl
 |succ n ih=>simp only[aN];rw[ih];rfl
theorem acQ(f:Nat->Nat->Int)(m n:Nat):aN (fun i=>aN (fun j=>f i j) n) m=aN (fun j=>aN (fun i=>f i j) m) n:=by
 induction m with
 |zero=>simp only[aN];rw[Xl]
 |succ m ih=>simp only[aN];rw[ih,alf]
theorem alg(f:Nat->Int)(n:Nat):aN f (n+1)=f 0+aN (fun i=>f (i+1)) n:=by
 induction n with
 |zero=>simp[aN]
 |succ n ih=>rw[aN,ih];simp only[aN];omega
theorem alh(f:Nat->Int)(n:Nat):aN f n=aN (fun i=>f (n-1-i)) n:=by
 induction n with
 |zero=>rfl
 |succ n ih=>
  rw[alg (fun i=>f (n+1-1-i)) n,aN,ih];have e:aN (fun i=>f (n+1-1-(i+1))) n=aN (fun i=>f (n-1-i)) n:=oK n (fun i hi=>by congr 1;omega);rw[e];simp only[Rn,Nat.sub_zero];omega
theorem ali(f:Nat->Int)(m n:Nat):aN f (m+n)=aN f m+aN (fun i=>f (m+i)) n:=by
 induction n with
 |zero=>simp[aN]
 |succ n ih=>rw[<-xI,aN,ih];simp only[aN];omega
theorem al2(w:Wd)(c d:Nat)(x y:Int)(f:IntAt w c x)(U:IntAt w d y)(g:Sm x.natAbs)(h:Sm y.natAbs):
 Cl 171 #[.pointer (some ⟨c,0,none⟩),.pointer (some ⟨d,0,none⟩)] w fun e w'=>e=.returned (.int .i64 (gX x.natAbs y.natAbs))/\∃n,w'=w.drewN n:=by
 obtain⟨j,l,m,a⟩:=f.cells;obtain⟨k,q,r,b⟩:=U.cells;have i:=af (fun n=>Dl (w.drewN n) j k _ _ (a.below (jL w n) (ax _)) (b.below (jL w n) (ax _)) g h);have p:=ab9 x.natAbs y.natAbs;clear a b f U g h;go_enter Tryz.func171,Tryz.ntmps171;go_wp2;go_quiet ((go_at_call 191;exact Calls.quiet_of (i.o _)));go_wp2;go_ret;exact⟨rfl,_,rfl⟩
def qD(i k:Int)(n:Nat):Int:=if lvV i n-k<0 then-(lvV i n-k) else lvV i n-k
def qB(i k:Int):Nat->Int×Int
 |0=>(0,1048576)
 |n+1=>if qD i k n<(qB i k n).2 then((n:Int),qD i k n) else qB i k n
def eU(i k:Int):Int:=if fD i=0 then 4 else if k< -32768\/32768<k then 2 else 0
def qV(i k:Int):Int:=if eU i k=0 then(qB i k (lvM i).toNat).1 else 0
theorem adh(m:Int)(O:m=8\/m=16\/m=32\/m=64)(n:Int)(a:0<=n)(b:n<m)(c:m<=2*n): -31000<=jF m n/\jF m n<=31000:=by
 obtain⟨k,rfl⟩:=gI a;rcases O with rfl|rfl|rfl|rfl
 ·exact(show∀k:Nat,k<8->8<=2*k-> -31000<=jF 8 (k:Nat)/\jF 8 (k:Nat)<=31000 from wK) k ah ah
 ·exact(show∀k:Nat,k<16->16<=2*k-> -31000<=jF 16 (k:Nat)/\jF 16 (k:Nat)<=31000 from wK) k ah ah
 ·exact(show∀k:Nat,k<32->32<=2*k-> -31000<=jF 32 (k:Nat)/\jF 32 (k:Nat)<=31000 from wK) k ah ah
 exact(show∀k:Nat,k<64->64<=2*k-> -31000<=jF 64 (k:Nat)/\jF 64 (k:Nat)<=31000 from wK) k ah ah
theorem al3{i:Int}(h:fD i≠0):lvM i=8\/lvM i=16\/lvM i=32\/lvM i=64:=by
 unfold lvM;rcases DD i with⟨e,_⟩|⟨e,_⟩|⟨e,_⟩|⟨e,_⟩|⟨e,_⟩
 ·exact absurd e h
 all_goals rw[e];decide
theorem Oy(i n:Int): -31000<=lvV i n/\lvV i n<=31000:=by
 unfold lvV;split
 ·rename_i h0
  unfold ed at h0;split at h0
  ·omega
  rename_i hw;split at h0
  ·omega
  have O:=al3 hw;split
  ·have:=adh (lvM i) O (lvM i-1-n) ah ah ah
   omega
  exact adh (lvM i) O n ah ah ah
 omega
theorem adi{i k:Int}(a: -32768<=k)(b:k<=32768)(n:Nat):0<=qD i k n/\qD i k n<=63768:=by
 have:=Oy i n;unfold qD;split<;>omega
theorem al4{i k:Int}(a: -32768<=k)(b:k<=32768)(n:Nat):(0<=(qB i k n).1/\(qB i k n).1<=n)/\0<=(qB i k n).2/\(qB i k n).2<=1048576:=by
 induction n with
 |zero=>simp[qB]
 |succ n ih=>
  have:=adi (i:=i) a b n;unfold qB;split
  ·simp only;omega
  omega
theorem adk{i k:Int}(d: -32768<=k)(e:k<=32768)(n:Nat):∃b:Nat,(qB i k (n+1)).1=b/\b<=n/\(qB i k (n+1)).2=qD i k b:=by
 induction n with
 |zero=>
  have:=adi (i:=i) d e 0;have h:qD i k 0<(qB i k 0).2:=by show qD i k 0<1048576;omega
  refine⟨0,?_,ah,?_⟩
  ·rw[qB,if_pos h]
  rw[qB,if_pos h]
 |succ n ih=>
  obtain⟨b,a,S,c⟩:=ih;rw[qB];split
  ·exact⟨n+1,rfl,ah,rfl⟩
  exact⟨b,a,ah,c⟩
theorem adl{i k:Int}(n:Nat):qB i k (n+1)=if qD i k n<(qB i k n).2 then((n:Int),qD i k n) else qB i k n:=rfl
def DI(i k:Int)(w:Wd)(e:Ending)(w':Wd):Prop:=e=.returned (.tuple #[.int .i64 (qV i k),.int .i64 (eU i k)])/\w=w'
def DJ(i k:Int)(w:Wd)(e:Ending)(w':Wd):Prop:=e=.returned (.tuple #[.int .i64 (qV i k),.int .i64 (eU i k)])/\Bw w w'
theorem OC(B M O:Int)(l:Bs B M O)(i k:Int)(w:Wd)(K:fD i=B)(R: -32768<=k)(S:k<=32768)(F:Cl 141 #[.int .i64 i] w fun e w'=>e=.returned (.int .i64 B)/\w=w')(E:∀n,Cl 62 #[.int .i64 i,.int .i64 n] w (kR i n w)):
 Cl 61 #[.int .i64 i,.int .i64 k] w (DI i k w):=by
 obtain⟨G,I⟩:=l.lv K;obtain⟨r,s,c,f⟩:=l.lin;obtain⟨N,H⟩:∃N:Nat,(N:Int)=M:=⟨M.toNat,ah⟩;have V:1<=N:=ah;have J:eU i k=0:=by unfold eU;rw[if_neg I,if_neg ah]
 have D:=af (show DI i k w (.returned (.tuple #[.int .i64 (qB i k N).1,.int .i64 0])) w from⟨by rw[J];unfold qV;rw[if_pos J,G,<-H];rfl,rfl⟩);have q:=af (show(∀n:Nat,n<N->(n:Int)<M)/\¬(N:Int)<M from⟨fun n h=>ah,ah⟩);have a:=af F;have y:=af E;have Z: ¬k< -32768:=ah;have l2: ¬32768<k:=ah;clear K I G J F E H r s c f;rcases l with⟨rfl,rfl,rfl⟩|⟨rfl,rfl,rfl⟩|⟨rfl,rfl,rfl⟩|⟨rfl,rfl,rfl⟩<;>(
  go_enter Tryz.func61,Tryz.ntmps61;go_wp2_with(go_at_call 141;(with_reducible refine a.o.mono ?_);rintro e w' ⟨rfl,rfl⟩);go_loop [7,8,26] (fun P Q A=> ∃(n:Nat),n<=N/\A=.int .i64 n/\P=.int .i64 (qB i k n).1/\Q=.int .i64 (qB i k n).2) (fun _ _ A=>N-(intOf A).toNat)
  case atStart=>exact⟨0,ah,rfl,rfl,rfl⟩
  case round=>
   obtain⟨n,W,rfl,rfl,rfl⟩:=hrel;by_cases z:n<N
   ·have x:=y.o (n:Nat)
    unfold kR at x;have j:=af x;have T:=Oy i n;have L:=al4 (i:=i) R S n;have C:=af (adl (i:=i) (k:=k) n);unfold qD at C;obtain⟨b,u⟩:=ak ((qB i k n).1);obtain⟨d,U⟩:=ak ((qB i k n).2);rw[<-u,<-U] at L;rw[<-U] at C;have m:=af u;have p:=af U;rw[<-u,<-U];clear u U;generalize lvV i (n:Nat)=v at*
    generalize ed i (n:Nat)=er at*
    have X:=q.o.1 n z;clear x;obtain⟨⟨r1,r2⟩,r3,r4⟩:=L;obtain⟨v1,v2⟩:=T;by_cases U:v-k<0
    ·by_cases t: -(v-k)<d
     ·have g:=af (show qB i k (n+1)=((n:Int),-(v-k)) by rw[C.o,if_pos U,if_pos t])
      clear C;go_wp2_with(go_at_call 62;(with_reducible refine j.o.mono ?_);rintro e w' ⟨rfl,rfl⟩);go_round;case rel=>exact⟨n+1,ah,aT,x9,x9⟩
      case measure=>exact aW
     ·have g:=af (show qB i k (n+1)=qB i k n by rw[C.o,if_pos U,if_neg t])
      clear C;go_wp2_with(go_at_call 62;(with_reducible refine j.o.mono ?_);rintro e w' ⟨rfl,rfl⟩);go_round;case rel=>exact⟨n+1,ah,aT,by rw[g.o];exact iI _ m.o,by rw[g.o];exact iI _ p.o⟩
      case measure=>exact aW
    ·by_cases t:v-k<d
     ·have g:=af (show qB i k (n+1)=((n:Int),v-k) by rw[C.o,if_neg U,if_pos t])
      clear C;go_wp2_with(go_at_call 62;(with_reducible refine j.o.mono ?_);rintro e w' ⟨rfl,rfl⟩);go_round;case rel=>exact⟨n+1,ah,aT,x9,x9⟩
      case measure=>exact aW
     ·have g:=af (show qB i k (n+1)=qB i k n by rw[C.o,if_neg U,if_neg t])
      clear C;go_wp2_with(go_at_call 62;(with_reducible refine j.o.mono ?_);rintro e w' ⟨rfl,rfl⟩);go_round;case rel=>exact⟨n+1,ah,aT,by rw[g.o];exact iI _ m.o,by rw[g.o];exact iI _ p.o⟩
      case measure=>exact aW
   ·obtain rfl:n=N:=ah
    have Y:=q.o.2;go_wp2;go_ret2;exact D.o)
theorem OD(B M O:Int)(q:Bs B M O)(i k:Int)(w:Wd)(hw:fD i=B)(k1: -32768<=k)(k2:k<=32768)(KW:∀w',Bw w w'->Cl 170 #[.int .i64 i] w' fun e w2=>e=.returned (.int .i64 B)/\w'=w2)(KL:∀n w',Bw w w'->Cl 107 #[.int .i64 i,.int .i64 n] w' (kR i n w')):
 Cl 106 #[.int .i64 i,.int .i64 k] w (DJ i k w):=by
 obtain⟨hM,I⟩:=q.lv hw;obtain⟨r,s,c,f⟩:=q.lin;obtain⟨N,hN⟩:∃N:Nat,(N:Int)=M:=⟨M.toNat,ah⟩;have N1:1<=N:=ah;have J:eU i k=0:=by unfold eU;rw[if_neg I,if_neg ah]
 have D:=af (fun w' (h:Bw w w')=>show DJ i k w (.returned (.tuple #[.int .i64 (qB i k N).1,.int .i64 0])) w' from⟨by rw[J];unfold qV;rw[if_pos J,hM,<-hN];rfl,h⟩);have y:=af (show(∀n:Nat,n<N->(n:Int)<M)/\¬(N:Int)<M from⟨fun n h=>ah,ah⟩);have a:=af KW;have A:=af KL;have l1: ¬k< -32768:=ah;have l2: ¬32768<k:=ah;have E:(qB i k 1).1=0:=by
  obtain⟨b,e1,S,_⟩:=adk (i:=i) k1 k2 0;rw[e1];omega
 have Q:=af E;clear hw I hM J KW KL hN r s c f E;rcases q with⟨rfl,rfl,rfl⟩|⟨rfl,rfl,rfl⟩|⟨rfl,rfl,rfl⟩|⟨rfl,rfl,rfl⟩<;>(
  go_enter Tryz.func106,Tryz.ntmps106;go_wp2_with(go_at_call 170;(with_reducible refine(a.o _ (aP _ _)).mono ?_);rintro e w' ⟨rfl,rfl⟩);go_loopw[6,7] (fun bv V wr=> ∃(n:Nat),n+1<=N/\V=.int .i64 ((n+1:Nat):Int)/\bv=.int .i64 (qB i k (n+1)).1/\Hy (Bw w wr)) (fun _ V _=>N-(intOf V).toNat)
  case atStart=>exact⟨0,ah,rfl,by rw[Q.o],af (aP _ _)⟩
  case round=>
   obtain⟨m,hn,rfl,rfl,H⟩:=hrel;obtain⟨b,x,hb2,d⟩:=adk (i:=i) k1 k2 m;obtain⟨n,u⟩:=ak (m+1);rw[<-u] at x d hn|-;rw[x];by_cases L:n<N
   ·have R:=A.o (b:Nat) wr H.o
    have T:=A.o (n:Nat) wr H.o;unfold kR at R T;have t:=af (a.o wr H.o);have W:=Oy i b;have X:=Oy i n;have C:=af (adl (i:=i) (k:=k) n);rw[d] at C;unfold qD at C;have j:=af x;generalize lvV i (b:Nat)=va at*
    generalize lvV i (n:Nat)=vn at*
    generalize ed i (b:Nat)=ea at*
    generalize ed i (n:Nat)=en at*
    have l:=af R;have U:=af T;have i1:=y.o.1 n L;have HNM:=af u;obtain⟨ra1,ra2⟩:=W;obtain⟨rn1,rn2⟩:=X;clear R T x d u;go_wp2_with(first
     |(go_at_call 170;(with_reducible refine t.o.mono ?_);rintro e w' ⟨rfl,rfl⟩)
     |(go_at_call 107;(with_reducible refine l.o.mono ?_);rintro e w' ⟨rfl,rfl⟩)
     |(go_at_call 107;(with_reducible refine U.o.mono ?_);rintro e w' ⟨rfl,rfl⟩))
    refine(jM _ (vn-k) ah ah).mono ?_;rintro e w2 ⟨b2,rfl,hb2',G,F⟩;have I2:=af G;have B2:=af (aH H.o F);clear G F;go_wp2_with fail;refine(jM _ (va-k) ah ah).mono ?_;rintro e w3 ⟨b3,rfl,hb3',K,v⟩;have I3:=af K;have J3:=af (I2.o.below v (ax _));have Y:=af (aH B2.o v);clear K v;have KC:=af (al2 w3 b2 b3 (vn-k) (va-k) J3.o I3.o (bW ah) (bW ah));by_cases P:(vn-k).natAbs<(va-k).natAbs
    ·have hz:gX (vn-k).natAbs (va-k).natAbs<0:=by rw[Ib P];decide
     have g:=af (show(qB i k (n+1)).1=n by rw[C.o,if_pos (by split<;>split<;>omega)]);generalize gX (vn-k).natAbs (va-k).natAbs=z at*
     clear C P;go_wp2_with(go_at_call 171;(with_reducible refine KC.o.mono ?_);rintro e w7 ⟨rfl,p,rfl⟩);go_roundw;case rel=>exact⟨n,ah,aT,x9,af (aH Y.o (jL _ _))⟩
     case measure=>exact aW
    ·have hz: ¬gX (vn-k).natAbs (va-k).natAbs<0:=by
      unfold gX;rw[if_neg P];split<;>decide
     have g:=af (show(qB i k (n+1)).1=b by rw[C.o,if_neg (by split<;>split<;>omega),j.o]);generalize gX (vn-k).natAbs (va-k).natAbs=z at*
     clear C P;go_wp2_with(go_at_call 171;(with_reducible refine KC.o.mono ?_);rintro e w7 ⟨rfl,p,rfl⟩);go_roundw;case rel=>exact⟨n,ah,aT,x9,af (aH Y.o (jL _ _))⟩
     case measure=>exact aW
   ·obtain rfl:n=N:=ah
    have i2:=y.o.2;have t:=af (a.o wr H.o);have Z:=af (D.o wr H.o);rw[x] at Z;clear x d u L;go_wp2_with(go_at_call 170;(with_reducible refine t.o.mono ?_);rintro e w' ⟨rfl,rfl⟩);go_ret2;exact Z.o)
theorem al5(i k:Int)(w:Wd)(T:TabA w 3 dh):Cl 61 #[.int .i64 i,.int .i64 k] w (DI i k w):=by
 have b:=XF i w T;have c:=fun n=>ade i n w T;by_cases h0:fD i=0
 ·have D:=af (show DI i k w (.returned (.tuple #[.int .i64 0,.int .i64 4])) w from⟨by rw[show eU i k=4 by unfold eU;rw[if_pos h0],show qV i k=0 by unfold qV eU;rw[if_pos h0];rfl],rfl⟩)
  rw[h0] at b;have a:=af b;clear b c h0 T;exact abt
 by_cases d:k< -32768\/32768<k
 ·have D:=af (show DI i k w (.returned (.tuple #[.int .i64 0,.int .i64 2])) w from⟨by rw[show eU i k=2 by unfold eU;rw[if_neg h0,if_pos d],show qV i k=0 by unfold qV eU;rw[if_neg h0,if_pos d];rfl],rfl⟩)
  have a:=af b;have l: ¬fD i=0:=h0;have m:(fD i==0)=false:=rZ;generalize fD i=wv at*
  clear b c h0 T;rcases d with d|d
  ·exact abt
  have j: ¬k< -32768:=ah;exact abt
 have f: -32768<=k:=ah;have g:k<=32768:=ah;rcases DD i with⟨h,_⟩|⟨h,_⟩|⟨h,_⟩|⟨h,_⟩|⟨h,_⟩
 ·exact absurd h h0
 ·rw[h] at b;exact OC 6 64 63 (.inl ⟨rfl,rfl,rfl⟩) i k w h f g b c
 ·rw[h] at b;exact OC 5 32 31 (.inr (.inl ⟨rfl,rfl,rfl⟩)) i k w h f g b c
 ·rw[h] at b;exact OC 4 16 15 (.inr (.inr (.inl ⟨rfl,rfl,rfl⟩))) i k w h f g b c
 rw[h] at b;exact OC 3 8 7 (.inr (.inr (.inr ⟨rfl,rfl,rfl⟩))) i k w h f g b c
theorem al6(i k:Int)(w:Wd)(T:TabS w 2 dh):Cl 106 #[.int .i64 i,.int .i64 k] w (DJ i k w):=by
 have b:=fun w' (h:Bw w w')=>adb i w' (T.below' h (ax _));have c:=fun n w' (h:Bw w w')=>adg i n w' (T.below' h (ax _));by_cases h0:fD i=0
 ·have D:=af (show DJ i k w (.returned (.tuple #[.int .i64 0,.int .i64 4])) w from⟨by rw[show eU i k=4 by unfold eU;rw[if_pos h0],show qV i k=0 by unfold qV eU;rw[if_pos h0];rfl],aP _ _⟩)
  have b:=b w (aP _ _);rw[h0] at b;have a:=af b;clear b c h0 T;exact abr
 by_cases d:k< -32768\/32768<k
 ·have D:=af (show DJ i k w (.returned (.tuple #[.int .i64 0,.int .i64 2])) w from⟨by rw[show eU i k=2 by unfold eU;rw[if_neg h0,if_pos d],show qV i k=0 by unfold qV eU;rw[if_neg h0,if_pos d];rfl],aP _ _⟩)
  have b:=b w (aP _ _);have a:=af b;have l: ¬fD i=0:=h0;have m:(fD i==0)=false:=rZ;clear c;generalize fD i=wv at*
  clear b h0 T;rcases d with d|d
  ·exact abr
  have j: ¬k< -32768:=ah;exact abr
 have f: -32768<=k:=ah;have g:k<=32768:=ah;rcases DD i with⟨h,_⟩|⟨h,_⟩|⟨h,_⟩|⟨h,_⟩|⟨h,_⟩
 ·exact absurd h h0
 ·rw[h] at b;exact OD 6 64 63 (.inl ⟨rfl,rfl,rfl⟩) i k w h f g b c
 ·rw[h] at b;exact OD 5 32 31 (.inr (.inl ⟨rfl,rfl,rfl⟩)) i k w h f g b c
 ·rw[h] at b;exact OD 4 16 15 (.inr (.inr (.inl ⟨rfl,rfl,rfl⟩))) i k w h f g b c
 rw[h] at b;exact OD 3 8 7 (.inr (.inr (.inr ⟨rfl,rfl,rfl⟩))) i k w h f g b c
theorem pM{z:Int}(a: -9223372036854775808<=z)(b:z<=9223372036854775807):Sm z.natAbs:=bW ah
theorem anw{k:Nat}(h:k<15):(0:Int)<2^(14-k)/\(2:Int)^(14-k)<=16384:=by
 have:∀j,j<15->(0:Int)<2^(14-j)/\(2:Int)^(14-j)<=16384:=aA;exact this k h
def PP(w:Wd)(n f:Int)(e:Ending)(w':Wd):Prop:=e=.returned (.tuple #[.int .i64 (lQ n f),.int .i64 (bz (qU n f))])/\Bw w w'
theorem anx(n f:Int)(w:Wd)(T:TabS w 5 dY)(n1:0<=n)(n2:n<=30)(f1:0<=f)(f2:f<=32767):
 Cl 179 #[.int .i64 n,.int .i64 f] w fun e w'=>e=.returned (.tuple #[.int .i64 (lQ n f),.int .i64 0])/\Bw w w':=by
 have d1: ¬n<0:=ah;have d2: ¬30<n:=ah;have d3: ¬f<0:=ah;have d4: ¬32767<f:=ah;have TT:=af T;clear T;go_enter Tryz.func179,Tryz.ntmps179;go_wp2_with fail;refine(nH _ 1073741824 ah ah).mono ?_;rintro e w1 ⟨h,rfl,D,v,s⟩;have X:=af v;have W:=af s;clear v s;go_wp2;go_loopw[7] (fun U wr=> ∃(k:Nat) (x:Int),k<=15/\U=.int .i64 k/\Hy (x=jw f k)/\Hy (IntAt wr h x)/\Hy (Bw w wr)) (fun U _=>15-(intOf U).toNat)
 case atStart=>exact⟨0,1073741824,ah,rfl,af rfl,X,W⟩
 case round=>
  clear X W;obtain⟨k,x,hk,rfl,HX,E,H⟩:=hrel;by_cases q:k<15
  ·have N:1073741824<=x:=by rw[HX.o];exact IP f k
   have J:x<=2147483648:=Vw;have r1:=IK k;have r2:=acW k;have G:=af (show jw f (k+1)=if Oi f k then x+x*mi k/1073741824 else x by rw[jw,<-HX.o]);obtain⟨g1,g2⟩:=anw q;have g3: ¬(2:Int)^(14-k)=0:=ah;have g4:0<=f/2^(14-k):=BZ f1 ah;by_cases hb:f/2^(14-k)%2=1
   ·have e1:(f/2^(14-k)%2==1)=true:=by rw[hb];rfl
    have g:=af (show jw f (k+1)=x+x*mi k/1073741824 by rw[G.o,if_pos Ul]);clear hb G;obtain⟨A,c,R,I,p⟩:=(TT.o.below' (H.o.alloc H.o.size (.cells #[.bool false,.slice none 0 0] 144)) (ax _)).form;obtain⟨ad,rfl,p⟩:=p k q;have R:(wr.alloc (.cells #[.bool false,.slice none 0 0] 144)).cell? ⟨5,0,none⟩=some (.slice (some ad) 15 c):=R;unfold mi at r1 r2 g;generalize dY.getD k 0=r at*
    obtain⟨q1,q2,q3,q4⟩:=acX N J r1 r2;have HQ:=af (lX q1 (lX q2 (lX q3 q4)));clear I q1 q2 q3 q4;go_wp2_with fail;refine(jM _ r ah ah).mono ?_;rintro e V ⟨b2,rfl,hb2,b,d⟩;have F:=af (IntBlk.below (IntBlk.new wr (.bool false) (.slice none 0 0)) d (ax _));have Y:=af ((E.o.below (baqq _ _) (ax _)).below d (ax _));have O:=af b;have B2:=af ((H.o.alloc H.o.size _).trans (d.mono (by have:=H.o.size;simp;omega)));have Z:=E.o.lt;have hws:=H.o.size;clear b d p R;go_wp2_with fail;refine(oJ V wr.heap.size h b2 x r F.o Y.o O.o (pM ah ah) (pM ah ah)).mono ?_;rintro e w3 ⟨rfl,B,i⟩;have Q:=af B;have X3:=af (Y.o.kept F.o i ah);have B3:=af (eP B2.o i ah);clear B i;go_wp2_with fail;refine(Ih w3 wr.heap.size wr.heap.size (x*r) 30 Q.o.blk Q.o (pM U7 U7) ah).mono ?_;rintro e w4 ⟨rfl,l,j⟩;rw[show(2:Int)^30=1073741824 from aA] at l;have P4:=af l;have P:=af (X3.o.kept Q.o.blk j ah);have B4:=af (eP B3.o j ah);clear l j;go_wp2_with fail;refine(uZ w4 h h wr.heap.size x (x*r/1073741824) P.o.blk P.o P4.o (pM ah ah) (pM U7 U7)).mono ?_;rintro e w5 ⟨rfl,C,u⟩;have X5:=af C;have B5:=af (eP B4.o u D);clear C u;go_wp2;go_roundw;case rel=>exact⟨k+1,_,ah,aT,af g.o.symm,X5,B5⟩
    case measure=>exact aW
   have e1:(f/2^(14-k)%2==1)=false:=Nb;have g:=af (show jw f (k+1)=x by rw[G.o,if_neg Ul]);clear hb G;go_wp2;go_roundw;case rel=>exact⟨k+1,_,ah,aT,af g.o.symm,E,H⟩
   case measure=>exact aW
  obtain rfl:k=15:=ah;obtain⟨m,rfl⟩:=gI n1;have N:1073741824<=x:=by rw[HX.o];exact IP f 15
  have J:x<=2147483648:=Vw;have L:=af (show lQ (m:Nat) f=(if 2147483647<=x/2^(30-m) then 2147483647 else x/2^(30-m)) by
   unfold lQ;rw[if_pos (by unfold qU;simp;omega),<-HX.o,show((30:Int)-(m:Nat)).toNat=30-m from ah])
  have S:(0:Int)<2^(30-m):=rU aA;have z:0<=x/2^(30-m):=BZ ah ah;have y2:x/2^(30-m)<=2147483648:=RQ (ZY _ ah) J;clear HX q S;go_wp2_with fail;rw[show(30:Int)-(m:Int)=((30-m:Nat):Int) from ah];refine(Ih wr h h x (30-m) E.o.blk E.o (pM ah ah) ah).mono ?_;rintro e V ⟨rfl,b,t⟩;have O:=af b;have B2:=af (eP H.o t D);clear b t;generalize x/2^(30-m)=y at*
  have K:=af (qm V h y O.o ah ah);by_cases p:2147483647<=y
  ·have M:=af (show lQ (m:Nat) f=2147483647 by rw[L.o,if_pos p])
   clear L;exact aiu
  have M:=af (show lQ (m:Nat) f=y by rw[L.o,if_neg p]);have g1:y<2147483647:=ah;clear L p;exact aiu
theorem anz(n f:Int)(w:Wd)(T:TabS w 5 dY):
 Cl 179 #[.int .i64 n,.int .i64 f] w (PP w n f):=by
 by_cases h:(0<=n/\n<=30)/\0<=f/\f<=32767
 ·have a:qU n f=true:=Uu
  unfold PP;rw[a];exact anx n f w T h.1.1 h.1.2 h.2.1 h.2.2
 ·have a:qU n f=false:=Uu
  have b:lQ n f=0:=by unfold lQ;rw[a];rfl
  have D:=af (show PP w n f (.returned (.tuple #[.int .i64 0,.int .i64 2])) w from⟨by rw[a,b];rfl,aP _ _⟩);clear a b T;by_cases c:n<0
  ·exact VY
  by_cases d:30<n
  ·exact VY
  by_cases e:f<0
  ·exact VY
  have g:32767<f:=ah;exact VY
def Js(w:Wd)(n:Int)(e:Ending)(w':Wd):Prop:=e=.returned (.tuple #[.int .i64 (glV n),.int .i64 (bz (glB n))])/\Bw w w'
theorem aeu(n:Int)(w:Wd)(T:TabS w 5 dY):
 Cl 120 #[.int .i64 n] w (Js w n):=by
 by_cases h:n<0\/31<n
 ·have D:=af (show Js w n (.returned (.tuple #[.int .i64 0,.int .i64 2])) w from⟨by rw[show glV n=0 by unfold glV;rw[IQ h];rfl,IQ h];rfl,aP _ _⟩)
  clear T;rcases h with h|h
  ·go_enter Tryz.func120,aas
   go_wp2;go_ret2;exact D.o
  have j: ¬n<0:=ah;go_enter Tryz.func120,aas;go_wp2;go_ret2;exact D.o
 ·have a:0<=n:=ah
  have b:n<=31:=ah;have k: ¬n<0:=ah;have l: ¬31<n:=ah;have K:=anz ((24+3*n)/8) ((24+3*n)%8*4096) w T;have d:lQ ((24+3*n)/8) ((24+3*n)%8*4096)=glV n:=by unfold glV;rw[Oj a b];rfl
  unfold PP at K;rw[acZ a b,d] at K;have g:=af (fun(w':Wd) (h:Bw w w')=>show Js w n (.returned (.tuple #[.int .i64 (glV n),.int .i64 0])) w' from⟨by rw[Oj a b];rfl,h⟩);have i:=af K;clear d T h K;go_enter Tryz.func120,aas;go_wp2_with(go_at_call 179;(with_reducible refine i.o.mono ?_);rintro e w' ⟨rfl,c⟩;have f:=af c;clear c);go_ret2;exact g.o _ f.o
def iF(vs:Lz)(a c e:Int):Nat->Int
 |0=>0
 |k+1=>if k=0 then 0 else if(vs.getD k 0+vs.getD (k-1) 0)*e<2*a*c then k else iF vs a c e k
theorem PQ(vs:Lz)(a c e:Int){k:Nat}(h:0<k):iF vs a c e (k+1)=if(vs.getD k 0+vs.getD (k-1) 0)*e<2*a*c then(k:Int) else iF vs a c e k:=by
 rw[iF,if_neg ah]
theorem PR(vs:Lz)(a c e:Int)(k:Nat):0<=iF vs a c e k/\iF vs a c e k<=k:=by
 induction k with
 |zero=>simp[iF]
 |succ k ih=>
  unfold iF;split
  ·omega
  split<;>omega
theorem PS{x y X Y:Int}(a:0<=x)(b:x<=X)(c: -Y<=y)(d:y<=Y): -(X*Y)<=x*y/\x*y<=X*Y:=by
 have j:0<=X:=ah;have e:0<=Y:=ah;have f:x*y<=x*Y:=Lc d a;have g:x*Y<=X*Y:=uB b e;have h:x*(-Y)<=x*y:=Lc c a;have i:x*(-Y)= -(x*Y):=by rw[Int.mul_neg]
 omega
theorem aev(A:Oz)(cA n:Nat)(vs:Lz)(one c e:Int)(w:Wd)(hr:Rs w w.heap.size A vs)(hn:vs.length=n)(h1n:1<=n)(hl:n<=100)(hv:∀i,0<=vs.getD i 0/\vs.getD i 0<=65536)
 (r:0<=one) (s:one<=16384) (c1: -9223372036854775808<=c) (c2:c<=9223372036854775807) (e1: -9223372036854775808<=e) (S:e<=9223372036854775807):
 Cl 174 #[.slice A n cA,.int .i64 one,.int .i64 c,.int .i64 e] w fun e' w'=>e'=.returned (.int .i64 (iF vs one c e n))/\Bw w w':=by
 have HR:=af hr;have HN:=af hn;have HV:=af hv;have xb:=PS (x:=2*one) (X:=32768) (y:=c) (Y:=9223372036854775808) ah ah ah ah;have XB:=aj ((2*one*c).natAbs<340282366920938463463374607431768211456) (ah);clear hr hn hv xb;go_enter Tryz.func174,Tryz.ntmps174;go_wp2;go_loopw[9,10] (fun bv iv wr=> ∃(k:Nat),1<=k/\k<=n/\iv=.int .i64 k/\bv=.int .i64 (iF vs one c e k)/\Hy (Bw w wr)) (fun _ iv _=>n-(intOf iv).toNat)
 case atStart=>exact⟨1,ah,ah,rfl,by simp[iF],af (aP _ _)⟩
 case round=>
  obtain⟨k,hk1,hk,rfl,rfl,H⟩:=hrel;have nb:=PR vs one c e k;have ST:=af (PQ vs one c e (k:=k) ah);by_cases hlt:k<n
  ·generalize iF vs one c e k=bst at*
   go_wp2_with fail;refine(jM _ (2*one) ah ah).mono ?_;rintro e' w2 ⟨b2,rfl,hb2,R,P⟩;have F:=af (IntBlk.below (IntBlk.new wr (.bool false) (.slice none 0 0)) P (ax _));have I2:=af R;have B2:=af ((H.o.alloc H.o.size _).trans (P.mono (by have:=H.o.size;simp;omega)));have hws:=H.o.size;clear R P;go_wp2_with fail;refine(jM _ c ah ah).mono ?_;rintro e' w3 ⟨b3,rfl,hb3,T,L⟩;have P3:=af (F.o.below L (ax _));have I3:=af T;have J3:=af (I2.o.below L (ax _));have B3:=af (aH B2.o L);clear T L F I2 B2;go_wp2_with fail;refine(oJ w3 wr.heap.size b2 b3 (2*one) c P3.o J3.o I3.o (pM ah ah) (pM ah ah)).mono ?_;rintro e' W ⟨rfl,V,Q⟩;have a:=af V;have BW:=af (eP B3.o Q hws);clear V Q P3 I3 J3 B3;have hxl:=a.o.lt;have RW:=af (HR.o.below BW.o);obtain⟨C,rfl,hadb,N⟩:=RW.o.at_ (k:=k) iT;obtain⟨t,v,_,M⟩:=RW.o.at_ (k:=k-1) Gl;injection v with v;subst v;have v0:=HV.o k;have v1:=HV.o (k-1);generalize vs.getD k 0=y at*
   generalize vs.getD (k-1) 0=x at*
   obtain⟨m,O⟩:=ak (k-1);rw[<-O] at M;have I:IntKind.i64.wrap ((k:Int)-1)=(m:Nat):=aV;have hw1:IntKind.i64.wrap (y+x)=y+x:=aV;have i1:(k:Int)<n:=ah;have i2:(m:Int)<n:=ah;have i3:(0:Int)<=m:=ah;have i4:(0:Int)<=k:=ah;have HM:=af O;clear O;have K1:=af (fun W'=>jM W' (y+x) ah ah);have K2:=af (fun W'=>jM W' e ah ah);go_wp2;go_region_held3 (fun w'=>w'.cell? (C.add k)=some (.int .i64 y)/\w'.cell? (C.add m)=some (.int .i64 x)) (go_keep) (first
    |(go_at_call 97;(with_reducible refine(K1.o W.drew).mono ?_);rintro e' U ⟨bA,rfl,hbA,J,E⟩;have D:Bw W U:=((aP W.heap.size W).drew).trans (E.mono Uh);have h:=D.size;have a0:World.cell? U (C.add k)=some (.int .i64 y):=(D.cell (by rw[dV];first|omega|(simp;omega))).trans N;have a1:World.cell? U (C.add m)=some (.int .i64 x):=(D.cell (by rw[dV];first|omega|(simp;omega))).trans M;have d:=af J;have D:=af D;clear J E)
    |(go_at_call 97;(with_reducible refine(K1.o (World.drew (W.alloc (.cells #[.bool false,.slice none 0 0] 144)))).mono ?_);rintro e' U ⟨bA,rfl,hbA,J,E⟩;have D:Bw W U:=((baqq W (.cells #[.bool false,.slice none 0 0] 144)).drew).trans (E.mono Uh);have h:=D.size;have a0:World.cell? U (C.add k)=some (.int .i64 y):=(D.cell (by rw[dV];first|omega|(simp;omega))).trans N;have a1:World.cell? U (C.add m)=some (.int .i64 x):=(D.cell (by rw[dV];first|omega|(simp;omega))).trans M;have PA:=af (IntBlk.below (IntBlk.new W (.bool false) (.slice none 0 0)).drew E (ax _));have d:=af J;have D:=af D;clear J E)
    |(go_at_call 97;(with_reducible refine(K2.o U).mono ?_);rintro e' l ⟨bB,rfl,hbB,K,j⟩;have LB:Bw W l:=D.o.trans (j.mono Un);have sB:=LB.size;have b0:World.cell? l (C.add k)=some (.int .i64 y):=(LB.cell (by rw[dV];first|omega|(simp;omega))).trans N;have b1:World.cell? l (C.add m)=some (.int .i64 x):=(LB.cell (by rw[dV];first|omega|(simp;omega))).trans M;have IB:=af (d.o.below j (ax _));have sAB:=j.size;have ABw:=af j;have JB:=af K;have LB:=af LB;clear K j)
    |(go_at_call 97;(with_reducible refine(K2.o (U.alloc (.cells #[.bool false,.slice none 0 0] 144))).mono ?_);rintro e' l ⟨bB,rfl,hbB,K,j⟩;have LB:Bw W l:=(D.o.alloc h (.cells #[.bool false,.slice none 0 0] 144)).trans (j.mono Un);have sB:=LB.size;have b0:World.cell? l (C.add k)=some (.int .i64 y):=(LB.cell (by rw[dV];first|omega|(simp;omega))).trans N;have b1:World.cell? l (C.add m)=some (.int .i64 x):=(LB.cell (by rw[dV];first|omega|(simp;omega))).trans M;have PB:=af (IntBlk.below (IntBlk.new U (.bool false) (.slice none 0 0)) j (ax _));have IB:=af ((d.o.below (baqq _ (.cells #[.bool false,.slice none 0 0] 144)) (ax _)).below j (ax _));have JB:=af K;have LB:=af LB;clear K j)
    |(go_at_call 108;(with_reducible refine(oJ (l.alloc (.cells #[.bool false,.slice none 0 0] 144)) l.heap.size bA bB (y+x) e (IntBlk.new l (.bool false) (.slice none 0 0)) (IB.o.below (baqq _ (.cells #[.bool false,.slice none 0 0] 144)) (ax _)) (JB.o.below (baqq _ (.cells #[.bool false,.slice none 0 0] 144)) (ax _)) (pM ah ah) (pM ah ah)).mono ?_);rintro e' G ⟨rfl,q,b⟩;have Z:W.heap.size<=l.heap.size:=ah;have XM:=af ((a.o.below (LB.o.alloc sB (.cells #[.bool false,.slice none 0 0] 144)) (ax _):IntAt (l.alloc (.cells #[.bool false,.slice none 0 0] 144)) wr.heap.size (2*one*c)).kept (IntBlk.new l (.bool false) (.slice none 0 0)) b FW);have u:Bw W G:=eP (LB.o.alloc sB (.cells #[.bool false,.slice none 0 0] 144)) b ah;have f:World.cell? G (C.add k)=some (.int .i64 y):=(u.cell (by rw[dV];first|omega|(simp;omega))).trans N;have m1:World.cell? G (C.add m)=some (.int .i64 x):=(u.cell (by rw[dV];first|omega|(simp;omega))).trans M;have IM:=af q;have u:=af u;clear q b)
    |(go_at_call 108;have tok:=PB.o;clear tok;(with_reducible refine(oJ l U.heap.size bA bB (y+x) e PB.o IB.o JB.o (pM ah ah) (pM ah ah)).mono ?_);rintro e' G ⟨rfl,q,b⟩;have Z:W.heap.size<=U.heap.size:=ah;have XM:=af ((a.o.below LB.o (ax _):IntAt l wr.heap.size (2*one*c)).kept PB.o b FW);have u:Bw W G:=eP (LB.o) b ah;have f:World.cell? G (C.add k)=some (.int .i64 y):=(u.cell (by rw[dV];first|omega|(simp;omega))).trans N;have m1:World.cell? G (C.add m)=some (.int .i64 x):=(u.cell (by rw[dV];first|omega|(simp;omega))).trans M;have IM:=af q;have u:=af u;clear q b)
    |(go_at_call 108;have PC:=af (IntBlk.below PA.o (B:=U.heap.size) ABw.o (ax _));(with_reducible refine(oJ l W.heap.size bA bB (y+x) e PC.o IB.o JB.o (pM ah ah) (pM ah ah)).mono ?_);rintro e' G ⟨rfl,q,b⟩;have Z:W.heap.size<=W.heap.size:=ah;have XM:=af ((a.o.below LB.o (ax _):IntAt l wr.heap.size (2*one*c)).kept PC.o b FW);have u:Bw W G:=eP (LB.o) b ah;have f:World.cell? G (C.add k)=some (.int .i64 y):=(u.cell (by rw[dV];first|omega|(simp;omega))).trans N;have m1:World.cell? G (C.add m)=some (.int .i64 x):=(u.cell (by rw[dV];first|omega|(simp;omega))).trans M;have IM:=af q;have u:=af u;clear q b))
   all_goals
    rename_i hHeldZ;clear hHeldZ a0 a1 b0 b1 f m1 N M;simp only[Exit.then];have YB:=af (show((y+x)*e).natAbs<340282366920938463463374607431768211456 by
     have:=PS (x:=y+x) (X:=131072) (y:=e) (Y:=9223372036854775808) ah ah ah ah;omega)
    have KC:=af (Nv G wr.heap.size _ (2*one*c) ((y+x)*e) XM.o IM.o (bW XB.o) (bW YB.o));have BM:=af (aH BW.o u.o);clear IM XM u K1 K2;by_cases hgt:(y+x)*e<2*one*c
    ·have hc:0<jq (2*one*c) ((y+x)*e):=by unfold jq;rw[if_neg ah,if_pos hgt];decide
     have g:=af (show iF vs one c e (k+1)=k by rw[ST.o,if_pos hgt]);exact ah7
    ·have hc: ¬0<jq (2*one*c) ((y+x)*e):=by
      unfold jq;repeat' split
      all_goals first|decide|omega
     have g:=af (show iF vs one c e (k+1)=bst by rw[ST.o,if_neg hgt]);exact ah7
  obtain rfl:k=n:=ah;go_wp2;go_ret;exact⟨rfl,H.o⟩
theorem OwnB.kept{w w':Wd}{base c:Nat}{row:Option Nat}(h:OwnB w base A c xs)(G:w.grownBy w' row)(b:∀a,A=some a->some a.block≠row):OwnB w' base A c xs:=
 BC h G (by
  cases A with
  |none=>exact .inl rfl
  |some a=>exact .inr (b a rfl))
theorem OwnB.setRow{w:Wd}{base c g:Nat}(h:OwnB w base A c xs)(G:g<base)(b:Array Value):OwnB (w.setRow g b) base A c xs:=
 h.kept (row:=some g) ⟨rfl,rfl,rfl,wE,fun i _ hn=>oz w g i b zB⟩ (fun d e a=>by
  injection a with a;exact h.ne_ G d e a)
theorem OwnB.setC{w:Wd}{base c g:Nat}(h:OwnB w base A c xs)(G:g<base)(i:Nat)(v:Value):OwnB (w.setCell ⟨g,i,none⟩ v) base A c xs:=
 h.kept (row:=some g) ⟨rfl,rfl,rfl,uQ,fun j _ hn=>lV _ _ _ j wH⟩ (fun b e a=>by
  injection a with a;exact h.ne_ G b e a)
section
variable {ops:Array Oper} {rest:List Oper} {o:Oper} {a:Act} {w:Wd} {Q:Exit->Act->Wd->Prop}
end
theorem ard(k v:Int)(r:Bool)(A A2:Oz)(n c i c2:Nat)(xs F:Lz)(w:Wd)(hr:Rs w w.heap.size A xs)(N:xs.length=n)(hb:Rb w w.heap.size A2 F)(B:F.length=i)(h1:n<=17592186044416)(h2:i<=140737488355328):
 Cl 7 #[.agg (wU k v r A n c A2 i c2)] w (fun e w'=> ∃j c3 l L,e=.returned (.agg (wU k v r j n c3 l i L))/\Own w' w.heap.size j c3 xs/\OwnB w' w.heap.size l L F/\Bw w w'):=by
 have hR:=lY (fn:=Tryz.f7) (p:=2) (ty:=37) rfl;have S:=af (fun W (h:Rs W W.heap.size A xs)=>show Cl 15 #[.slice A n c] W (fun e w'=> ∃O Y,e=.returned (.slice O n Y)/\Own w' W.heap.size O Y xs/\Bw W w') from by
  have:=akK A c xs W h ah;rw[<-N];exact this)
 have u:=af ((baqq w (.cells (wU k v r A n c A2 i c2) 37)).alloc ay (.cells #[.int .i64 0,.int .i64 0,.bool false,.slice none 0 0,.slice none 0 0] 37));have x:=af (Blk.alloc (Blk.new w 37 (wU k v r A n c A2 i c2)) (.cells #[.int .i64 0,.int .i64 0,.bool false,.slice none 0 0,.slice none 0 0] 37));have q:=Blk.new (w.alloc (.cells (wU k v r A n c A2 i c2) 37)) 37 #[.int .i64 0,.int .i64 0,.bool false,.slice none 0 0,.slice none 0 0];simp only[bT] at q;have q:=af q;rename_i Z0r;clear Z0r;have HN:=af N;have b:=af B;have H:=af hb;unfold wU at u x q|-;obtain⟨W,M⟩:=ak ((w.alloc (.cells #[.int .i64 k,.int .i64 v,.bool r,.slice A n c,.slice A2 i c2] 37)).alloc (.cells #[.int .i64 0,.int .i64 0,.bool false,.slice none 0 0,.slice none 0 0] 37));rw[<-M] at u x q;have U:=af ((hr.below u.o).more u.o.size);have R:=af M;clear hr hb N B M;have c3:=Blk.cell x.o 3;go_enter Tryz.func7,Tryz.ntmps7;go_wp2_with(first|rw[<-R.o]|fail);first|rw[<-R.o]|skip
 refine(S.o W U.o).mono ?_;rintro e w1 ⟨j,m,rfl,t,G⟩;have E:=af (Blk.below' x.o G);have V:=af (Blk.below' q.o G);have P:=af (aH u.o G);have d:=af (Blk.lt q.o);have ON:=af t;clear t G x q U S c3;have c3:=Blk.cell E.o 3;have f3:=Blk.frozen E.o 3;have J:=aj (Blk (w1.setCell ⟨w.heap.size,3,none⟩ (.slice j n m)) w.heap.size 37 #[.int .i64 k,.int .i64 v,.bool r,.slice j n m,.slice A2 i c2]) (Blk.set_ E.o 3 _);have Z2:=af (Blk.far V.o (p:=⟨w.heap.size,3,none⟩) Ub (.slice j n m));have D:=af (P.o.setCell (p:=⟨w.heap.size,3,none⟩) (ax _) (.slice j n m));have T:=af (Own.setC ON.o (g:=w.heap.size) Vb 3 (.slice j n m));obtain⟨C,s⟩:=ak (w1.setCell ⟨w.heap.size,3,none⟩ (.slice j n m));rw[<-s] at J Z2 D T;have I:=af s;clear s E V P;have L:=Blk.cell J.o 4;have s2:=D.o.size;go_wp2_with(first
  |rw[<-I.o]
  |(at_builtin;refine abR rfl (.const (.slice none 0 0)) (.tmp 8) rfl C.heap.size none 0 0 [] rfl rfl OwnB.nil C.heap.size A2 c2 i F rfl b.o ((H.o.below D.o).more s2) ah (ax _) ?_
    intro l f w3 t Z
    simp only[CE,qK] at t
    have z:=(aP C.heap.size C).grown Z (ax _) ay
    have K:=af (Blk.below' J.o z)
    have X:=af (Blk.below' Z2.o z)
    have B3:=af (D.o.trans (z.mono s2))
    have O3:=af (T.o.below z)
    have P3:=af t
    clear t Z z
    have e4:=Blk.cell K.o 4
    have f4:=Blk.frozen K.o 4
    have LT3:=af (Blk.lt X.o)
    have y:=aj (w.heap.size<C.heap.size) (Uy)
    have J4:=aj (Blk (w3.setCell ⟨w.heap.size,4,none⟩ (.slice l i f)) w.heap.size 37 #[.int .i64 k,.int .i64 v,.bool r,.slice j n m,.slice l i f]) (Blk.set_ K.o 4 _)
    have Z4:=af (Blk.far X.o (p:=⟨w.heap.size,4,none⟩) Ub (.slice l i f))
    have B4:=af (B3.o.setCell (p:=⟨w.heap.size,4,none⟩) (ax _) (.slice l i f))
    have O4:=af (Own.setC O3.o (g:=w.heap.size) Vb 4 (.slice l i f))
    have P4:=af (OwnB.setC P3.o (g:=w.heap.size) y.o 4 (.slice l i f)))
  |(refine jY rfl 37 (.tmp 1) rfl _ 37 _ _ rfl J4.o ES rfl GZ ?_)
  |(refine jX rfl 37 (.tmp 2) (.tmp 11) rfl _ 37 _ #[.int .i64 k,.int .i64 v,.bool r,.slice j n m,.slice l i f] rfl rfl Z4.o GZ rfl (ajt k v r j n m l i f) ?_))
 have RF:=af (Blk.setRow_ Z4.o #[.int .i64 k,.int .i64 v,.bool r,.slice j n m,.slice l i f]);have BF:=af (aS B4.o (g:=w.heap.size+1) ah #[.int .i64 k,.int .i64 v,.bool r,.slice j n m,.slice l i f]);have OF:=af ((Own.setRow O4.o (g:=w.heap.size+1) Vb #[.int .i64 k,.int .i64 v,.bool r,.slice j n m,.slice l i f]).more (base':=w.heap.size) Vb);have PF:=af ((OwnB.setRow P4.o (g:=w.heap.size+1) Uy #[.int .i64 k,.int .i64 v,.bool r,.slice j n m,.slice l i f]).more (base':=w.heap.size) (by have:=y.o;omega));refine aX (v:=_) (hR _ _ _ _ _ rfl RF.o ES rfl GZ) rfl ?_;exact⟨j,m,l,f,rfl,OF.o,PF.o,BF.o⟩
