/- Lemmas. -/
import Derived.Test.YtaahbkbnfpajdaaGreatDoorZef0t
import Derived.Test.YtaahbkbnfpajdaaGreatDoorZef0u
import Derived.Test.YtaahbkbnfpajdaaGreatDoorZef0w
namespace Go.Proofs.YtaahbkbnfpajdaaGreatDoor
set_option linter.all false
set_option maxRecDepth 100000
set_option maxHeartbeats 8000000
open Go.RowKit
theorem aq8(g B n:Nat)(A:Oz)(c:Nat)(A2:Oz)(c2:Nat)(vs:Lz)(d:List (En×Mm))(q:Cq)(xs o:Lz)(w:Wd)(P:TabS w 5 dY)(Q:TabS w 0 cO)(R:TabS w 2 dh)
 (i:Rf w g B n A c A2 c2 vs d) (S:B<=w.heap.size) (C:n<=1000) (G:∀p∈d,aO p.1.m=true/\aO p.2=true)
 (Z:Rs w w.heap.size q.A xs) (Y:xs.length=q.n) (N:q.n<=17592186044000) (M:Rb w w.heap.size q.A2 o) (K:o.length=q.n2) (X:q.n2<=q.c2) (hz:Byts o):
 Cl 8 #[.pointer (some ⟨g,0,none⟩),.agg #[.int .i64 q.k,.int .i64 q.v,.bool q.r,.slice q.A q.n q.c,.slice q.A2 q.n2 q.c2]] w (Bj w g B A A2 q.v (rfS vs d q.k q.v q.r xs o).1 (rfS vs d q.k q.v q.r xs o).2.1 (rfS vs d q.k q.v q.r xs o).2.2.1 (rfS vs d q.k q.v q.r xs o).2.2.2.1 (rfS vs d q.k q.v q.r xs o).2.2.2.2):=by
 have hx2:=Zw vs q.v n;have D:=i.hv;unfold rfS;rw[D];by_cases a:rfC n q.k q.v (rIx vs q.v n)=0
 ·rw[if_neg (fun h=>h a)]
  by_cases u:q.k=1
  ·rw[if_pos u]
   unfold rfC at a;rw[if_neg ah,if_pos u] at a;by_cases f:q.v<0
   ·rw[if_pos f] at a;cases a
   rw[if_neg f] at a;by_cases s:0<=rIx vs q.v n
   ·rw[if_pos s] at a;cases a
   rw[if_neg s] at a;by_cases y:32<=n
   ·rw[if_pos y] at a;cases a
   exact aqa g B n A c A2 c2 vs d q w i ah S u ah ah
  rw[if_neg u];have hk:1<=q.k/\q.k<=5/\0<=rIx vs q.v n:=by
   unfold rfC at a;by_cases f:q.k<1\/5<q.k
   ·rw[if_pos f] at a;cases a
   rw[if_neg f,if_neg u] at a;by_cases s:rIx vs q.v n<0
   ·rw[if_pos s] at a;cases a
   omega
  obtain⟨j,z⟩:∃j:Nat,rIx vs q.v n=(j:Int):=⟨(rIx vs q.v n).toNat,ah⟩;have l:j<n:=ah;rw[z,uA];obtain⟨p,t⟩:∃p,d[j]?=some p:=⟨d[j]'(by rw[i.hl];exact l),jU _⟩;obtain⟨e,m⟩:=p;obtain⟨F,b,_⟩:=i.L.E t;obtain⟨O,H⟩:=i.L.2 _ (vN t);obtain⟨U,I⟩:=G _ (vN t);rw[t];subst b;by_cases f:q.k=2
  ·simp only[if_pos f]
   exact aqQ g B n j F A c c2 vs d q e m xs w P Q R i C f z l t O (Zx U) Z Y N (agj O xs q.r)
  by_cases s:q.k=3
  ·simp only[if_neg f,if_pos s]
   exact aqX g B n j F A c c2 vs d q e m o w P Q R i C s z l t O H (Zx I) M K X hz (Pq H o)
  by_cases y:q.k=4
  ·simp only[if_neg f,if_neg s,if_pos y]
   exact aq2 g B n j F A c c2 vs d q e m w i C y z l t H (Zx I) I (Xu H)
  simp only[if_neg f,if_neg s,if_neg y];obtain⟨T,cap,hv,_⟩:=World.ownsRow.form i.V (by rw[D];omega);injection hv with hA _ _;exact aq7 g B n j T F A c c2 vs d q w hA i C S ah z l
 ·rw[if_pos a]
  refine(apZ g B n A c A2 c2 vs d q w i C a).mono ?_;rintro x w' ⟨N,J,W⟩;exact⟨none,0,none,0,n,A,c,A2,c2,N,OwnB.nil,Own.nil,J,Tu.below W⟩
theorem arf(e:En)(xs:Lz)(r:Bool):(enY e xs r).length<=1000:=by
 unfold enY;by_cases h:dQ e xs=0
 ·rw[if_pos h,Jk];omega
 rw[if_neg h];exact Fv _
theorem arh(m:Mm)(a:Lz):(deY m a).length<=1000:=by
 unfold deY;by_cases h:deE m a=0
 ·rw[if_pos h,Jk];omega
 rw[if_neg h];exact Fv _
theorem ari{vs:Lz}{c:List (En×Mm)}(h:∀p∈c,aO p.1.m=true/\aO p.2=true)(k u:Int)(r:Bool)(xs j:Lz):(rfS vs c k u r xs j).2.2.1.length<=1000:=by
 unfold rfS;by_cases d:rfC vs.length k u (rIx vs u vs.length)=0
 ·rw[if_neg (fun x=>x d)]
  by_cases f:k=1
  ·rw[if_pos f];exact Fv _
  rw[if_neg f];cases hp:c[(rIx vs u vs.length).toNat]? with
  |none=>exact Fv _
  |some p=>
   obtain⟨e,m⟩:=p;have g:=(h _ (vN hp)).2;have l:(coY m).length<=1000:=(by rw[(JO g).2];omega);by_cases a:k=2
   ·simp only[if_pos a];exact arf e xs r
   by_cases b:k=3
   ·simp only[if_neg a,if_pos b];exact arh m j
   by_cases i:k=4
   ·simp only[if_neg a,if_neg b,if_pos i];exact l
   simp only[if_neg a,if_neg b,if_neg i];exact Fv _
 rw[if_pos d];exact Fv _
section
variable {w W W':Wd} {gK gM nD nD' g B n c c2 b c5 c6:Nat} {A A2 A5 A6:Oz} {D D':DataW Unit} {β β':Int->Nat} {σ σ':Ses} {vs:Lz} {ls:List (En×Mm)} {bs ys:Lz} {i:Nat}
theorem agW{e:TypeId}{l m:Nat}{v:Value}{o:List Value}(h:W.ownsRow b e l v m o)(u:Tu W W' g A A2)(k:g<b/\(∀a,A=some a->a.block<b)/\(∀a,A2=some a->a.block<b)):W'.ownsRow b e l v m o:=by
 rcases h.2 with p|⟨C,cap,d,s,r,j,q⟩
 ·exact⟨h.1,.inl p⟩
 exact⟨h.1,.inr ⟨C,cap,d,s,r,(u.2.2.2.2 C (Blk.lt j) ah (fun a f=>by have:=k.2.1 a f;omega) (fun a f=>by have:=k.2.2 a f;omega)).trans j,q⟩⟩
theorem agX{k:Nat}{t:TypeId}{f:Array Value}(d:Rf W g B n A c A2 c2 vs ls)(u:Tu W W' g A A2)(h:Blk W k t f)(l:t≠29)(m:t≠3)(o:t≠69):Blk W' k t f:=
 (u.2.2.2.2 k (Blk.lt h) (pX h d.K l) (fun a e=>by
   obtain⟨j,U⟩:=d.V.blk_ a e;exact(pX h U m).symm) (fun a e=>by
   obtain⟨j,U⟩:=d.L.blk_ a e;exact(pX h U o).symm)).trans h
theorem Dk.tu(h:Dk W gK gM nD D β σ)(j:Rf W g B n A c A2 c2 vs ls)(u:Tu W W' g A A2):Dk W' gK gM nD D β σ:=by
 have p:W'.heap[gM]?=W.heap[gM]?:=u.2.2.2.2 gM h.lt.2 (fun x=>h.d.blk_ne j.K x) (fun a k x=>by
  obtain⟨l,U⟩:=j.V.blk_ a k;exact h.d.blk_ne U x.symm) (fun a k x=>by
  obtain⟨l,U⟩:=j.L.blk_ a k;exact h.d.blk_ne U x.symm)
 obtain⟨o,f,q,O⟩:=h.d.M;exact⟨⟨agX j u h.d.K aA aA aA,o,f,p.trans q,O⟩,h.T,h.no,fun x e m r=>by
  obtain⟨s,t,I,P⟩:=h.yes x e m r;exact⟨s,t,agX j u I aA aA aA,P⟩,h.inj⟩
theorem DkR.rf(r:DkR W W' gK gM nD nD' D D' β β' σ σ' A5 c5 bs A6 c6 ys)(o:Dk W gK gM nD D β σ)(f:Rf W g B n A c A2 c2 vs ls):Rf W' g B n A c A2 c2 vs ls:=by
 obtain⟨b,q,v⟩:=r.gr;have l:∀{k:Nat} {t:TypeId} {cs:Array Value},Blk W k t cs->t≠61->k≠b:=fun h F x=>by
  subst x;rcases v with rfl|⟨u,y,rfl⟩
  ·exact o.d.blk_ne h rfl
  obtain⟨e,m,s⟩:=o.ses y;exact pX h s F rfl
 exact f.grow q (fun x=>l f.K aA (fQ x).symm) (fun a j x=>by
  obtain⟨p,U⟩:=f.V.blk_ a j;exact l U aA (fQ x)) (fun a j x=>by
  obtain⟨p,U⟩:=f.L.blk_ a j;exact l U aA (fQ x))
theorem Tu.bel(u:Tu W W' g A A2)(h:Bw w W)(f:w.heap.size<=g/\(∀a,A=some a->w.heap.size<=a.block)/\(∀a,A2=some a->w.heap.size<=a.block)):Bw w W':=
 ⟨u.1.trans h.os,u.2.1.trans h.tape,u.2.2.1.trans h.output,dL h.size u.2.2.2.1,fun k e=>(u.2.2.2.2 k (je e h.size) ah (fun a d=>by have:=f.2.1 a d;omega) (fun a d=>by have:=f.2.2 a d;omega)).trans (h.block k e)⟩
structure Tq(w W:Wd)(gK gM nD:Nat)(D:DataW Unit)(β:Int->Nat)(σ:Ses)(g n:Nat)(A:Oz)(c:Nat)(A2:Oz)(c2:Nat)(vs:Lz)(ls:List (En×Mm))(i:Nat):Prop where
 a:Dk W gK gM nD D β σ
 r:Rf W g w.heap.size n A c A2 c2 vs ls
 bel:Bw w W
 l1:w.heap.size<=gM
 s1:∀u,σ u≠none->w.heap.size<=β u
 l2:w.heap.size<=g
 nD:nD<=i
 n:n<=i
theorem Tq.below(h:Tq w W gK gM nD D β σ g n A c A2 c2 vs ls i)(d:Bw W W'):Tq w W' gK gM nD D β σ g n A c A2 c2 vs ls i:=
 ⟨h.a.below d,h.r.below d,aH h.bel d,h.l1,h.s1,h.l2,h.nD,h.n⟩
theorem Tq.one(h:Tq w W gK gM nD D β σ g n A c A2 c2 vs ls i)(r:DkR W W' gK gM nD nD' D D' β β' σ σ' A5 c5 bs A6 c6 ys):Tq w W' gK gM nD' D' β' σ' g n A c A2 c2 vs ls (i+1):=
 ⟨r.K,r.rf h.a h.r,r.below h.bel h.l1 h.s1,h.l1,fun u d=>by
   rcases r.old u d with⟨k,e⟩|k
   ·rw[e];exact h.s1 u k
   ·exact dL h.bel.size k,h.l2,by have:=r.n;have:=h.nD;omega,by have:=h.n;omega⟩
theorem Tq.two{l c' e:Nat}{m d:Oz}{j:Lz}{f:List (En×Mm)}(h:Tq w W gK gM nD D β σ g n A c A2 c2 vs ls i)(o:Rf W' g w.heap.size l m c' d e j f)(u:Tu W W' g A A2)(p:l<=i):Tq w W' gK gM nD D β σ g l m c' d e j f i:=
 ⟨h.a.tu h.r u,o,u.bel h.bel ⟨h.l2,fun a k=>(h.r.V.lt a k).1,fun a k=>(h.r.L.lt a k).1⟩,h.l1,h.s1,h.l2,h.nD,p⟩
end
theorem agY{P:Program}{o:Oper}{a:Act}(ty:TypeId)(x:Operand)(h:o.op=.load ty x)(p:Addr)(l:a.eval x=.pointer (some p))(e:List Value)(d:TypeDesc){w:Wd}(f:∀j v,e[j]?=some v->w.cell? (p.add j)=some v)
 (k:P.underlying ty=some d) (U:d.isRow=true) (hi:(P.info? ty).map (·.size)=some e.length):(execOp a.eval o).run P w=.ok (.value (.agg e.toArray)) w:=by
 unfold execOp;simp only[h,l,Instr.loadAt,Instr.sureAddr,ng,uM,qh,apD w p ty e d f k U hi]
theorem arj(a v:Int)(A A2 j h:Oz)(n c m c2 c3 l:Nat)(bs ys:Lz)(w:Wd)(t:Rb w w.heap.size A bs)(u:Rs w w.heap.size A2 ys)(x:Rb w w.heap.size j bs)(y:Rs w w.heap.size h ys)(r:bs.length=n)(O:ys.length=m)(d:m<=1000):
 Cl 5 #[.agg (aY a v A n c A2 m c2),.agg (aY a v j n c3 h m l)] w fun e w'=>e=.returned (.bool true)/\Bw w w':=by
 have f:=(baqq w (.cells #[.int .i64 a,.int .i64 v,.slice A n c,.slice A2 m c2] 34)).alloc ay (.cells #[.int .i64 a,.int .i64 v,.slice j n c3,.slice h m l] 34);obtain⟨V,q⟩:=ak ((w.alloc (.cells #[.int .i64 a,.int .i64 v,.slice A n c,.slice A2 m c2] 34)).alloc (.cells #[.int .i64 a,.int .i64 v,.slice j n c3,.slice h m l] 34));have p:=Blk.alloc (Blk.new w 34 #[.int .i64 a,.int .i64 v,.slice A n c,.slice A2 m c2]) (.cells #[.int .i64 a,.int .i64 v,.slice j n c3,.slice h m l] 34);have k:=Blk.new (w.alloc (.cells #[.int .i64 a,.int .i64 v,.slice A n c,.slice A2 m c2] 34)) 34 #[.int .i64 a,.int .i64 v,.slice j n c3,.slice h m l];simp only[bT] at k;rw[<-q] at p k f;have G:V.cell? ⟨w.heap.size,0,none⟩=some (.int .i64 a):=Blk.cell p 0;have H:V.cell? ⟨w.heap.size,1,none⟩=some (.int .i64 v):=Blk.cell p 1;have I:V.cell? ⟨w.heap.size,2,none⟩=some (.slice A n c):=Blk.cell p 2;have J:V.cell? ⟨w.heap.size,3,none⟩=some (.slice A2 m c2):=Blk.cell p 3;have K:V.cell? ⟨w.heap.size+1,0,none⟩=some (.int .i64 a):=Blk.cell k 0;have L:V.cell? ⟨w.heap.size+1,1,none⟩=some (.int .i64 v):=Blk.cell k 1;have M:V.cell? ⟨w.heap.size+1,2,none⟩=some (.slice j n c3):=Blk.cell k 2;have N:V.cell? ⟨w.heap.size+1,3,none⟩=some (.slice h m l):=Blk.cell k 3;have P:=agV (c:=c) (t.below f) r;have Q:=agV (c:=c3) (x.below f) r;have F:=af (akL A2 h c2 l m _ _ ys V ((u.below f).more f.size) ((y.below f).more f.size) O ah);have C:=af f;have s:=af q.symm;clear t u x y r O d p k f q;generalize strOfNums bs=st at*
 unfold aY;go_enter Tryz.func5,Tryz.ntmps5;go_wp2_with(first
  |(rw[s.o];clear s)
  |(go_at_call 10;(with_reducible refine F.o.mono ?_);rintro e R ⟨rfl,z⟩;have E:=af (aH C.o z);clear z))
 go_ret;exact⟨rfl,E.o⟩
theorem art(w:Wd)(M:TabA w 4 dY)(T2:TabA w 1 cO)(T3:TabA w 3 dh)(R1:TabS w 5 dY)(R3:TabS w 2 dh)(R2:TabS w 0 cO)(A:Oz)(n c:Nat)(hc:n<=c)(hc2:c<=9223372036854775807)(R:CT w w.heap.size A n):
 Cl 3 #[.slice A n c] w (fun e w'=>e=.returned (.bool true)/\Bw w w'):=by
 have KN:=af (fun W=>apA W);have HR:=af R;have TT:=af (⟨M,T2,T3⟩:TabA w 4 dY/\TabA w 1 cO/\TabA w 3 dh);have TS:=af (⟨R1,R2,R3⟩:TabS w 5 dY/\TabS w 0 cO/\TabS w 2 dh);clear R M T2 T3 R1 R2 R3 hc hc2;go_enter Tryz.func3,Tryz.ntmps3;go_wp2_with fail;refine(KN.o _).mono ?_;rintro e w1 ⟨gK,gM,rfl,hgM,hgK,hD1,O⟩;go_wp2_with fail;have I2:=af (show Tq w (w1.alloc (.cells #[.slice none 0 0,.slice none 0 0] 29)) gK gM 0 (.map []) (fun _=>0) (fun _=>none) w1.heap.size 0 none 0 none 0 [] [] 0 from
  Tq.mk (.empty (hD1.below (baqq _ _))) ⟨Blk.new _ _ _,Own.nil,OwnL.nil,rfl,rfl⟩ (O.alloc O.size _) hgM (fun _ h=>absurd rfl h) O.size (ax _) (ax _))
 obtain⟨g,G⟩:=ak (w1.heap.size);rw[<-G] at I2|-;clear G hgM hgK hD1 O KN;go_loopw[5] (fun iv wr=> ∃(i nD m d d2:Nat) (Z V:Oz) (D:DataW Unit) (β:Int->Nat) (σ:Ses) (vs:Lz) (ls:List (En×Mm)),iv=.int .i64 i/\i<=n/\i<=40/\Hy (Tq w wr gK gM nD D β σ g m Z d V d2 vs ls i)/\Hy (Lk D σ vs ls)) (fun iv _=>n-(intOf iv).toNat)
 case atStart=>exact⟨0,0,0,0,0,none,none,_,_,_,_,_,rfl,ah,ah,I2,af Lk.empty⟩
 case round=>
  clear I2;obtain⟨i,nD,m,d,d2,Z,V,D,β,σ,vs,ls,rfl,hi,h40,HT,HL⟩:=hrel;by_cases hlt:i<n
  ·by_cases h4:i<40
   ·obtain⟨ad,q,rfl,hq⟩:=HR.o i hlt
    have B:=af hq;clear hq;have b1:decide ((i:Int)<n)=true:=aC;have b2:decide ((i:Int)<40)=true:=aC;have i0:(0:Int)<=i:=ah;have i1:(i:Int)<n:=ah;have P:=af (show i<40/\m<=40 from⟨h4,by have:=HT.o.n;omega⟩);have KC:=af (fun W (h:Bw w W)=>show Cl 7 #[.agg q.cs.toArray] W (fun e w'=> ∃S c3 U c4,e=.returned (.agg #[.int .i64 q.k,.int .i64 q.v,.bool q.r,.slice S q.xs.length c3,.slice U q.zs.length c4])/\Own w' W.heap.size S c3 q.xs/\OwnB w' W.heap.size U c4 q.zs/\Bw W w') from
     ard q.k q.v q.r q.A q.A2 q.xs.length q.c q.zs.length q.c2 q.xs q.zs W ((B.o.r.below h).more h.size) rfl ((B.o.r2.below h).more h.size) rfl (by have:=B.o.l;omega) (by have:=B.o.l2;omega))
    have KD:=af (fun W S c3 U c4 (h:Tq w W gK gM nD D β σ g m Z d V d2 vs ls i) (hO:Rs W W.heap.size S q.xs) (hP:Rb W W.heap.size U q.zs) (h4:q.zs.length<=c4)=>
     apT gK gM nD D β σ ⟨q.k,q.v,q.r,S,q.xs.length,c3,U,q.zs.length,c4⟩ q.xs q.zs W (TT.o.1.below h.bel) (TT.o.2.1.below h.bel) (TT.o.2.2.below h.bel) h.a B.o.v (by have:=h.nD;have:=P.o.1;unfold maxLen;omega) hO rfl B.o.l hP rfl h4 B.o.z)
    have KR:=af (fun F D' β' σ' W (h:Tq w W gK gM F D' β' σ' g m Z d V d2 vs ls (i+1))=>
     show Cl 8 #[.pointer (some ⟨g,0,none⟩),.agg q.cs.toArray] W (Bj W g w.heap.size Z V q.v (rfS vs ls q.k q.v q.r q.xs q.zs).1 (rfS vs ls q.k q.v q.r q.xs q.zs).2.1 (rfS vs ls q.k q.v q.r q.xs q.zs).2.2.1 (rfS vs ls q.k q.v q.r q.xs q.zs).2.2.2.1 (rfS vs ls q.k q.v q.r q.xs q.zs).2.2.2.2) from aq8 g w.heap.size m Z d V d2 vs ls ⟨q.k,q.v,q.r,q.A,q.xs.length,q.c,q.A2,q.zs.length,q.c2⟩ q.xs q.zs W (TS.o.1.below h.bel) (TS.o.2.1.below h.bel) (TS.o.2.2.below h.bel) h.r h.bel.size (by have:=P.o.2;omega) HL.o.good ((B.o.r.below h.bel).more h.bel.size) rfl B.o.l ((B.o.r2.below h.bel).more h.bel.size) rfl B.o.cap B.o.z)
    have ST:=af (fun D'=>HL.o.step (D':=D') (u:=q.v) q.k q.r q.xs q.zs);have LEN:=af (ari (vs:=vs) HL.o.good q.k q.v q.r q.xs q.zs);obtain⟨cd,hcd⟩:∃x,x=(dsC D (σ q.v) q.k q.v q.r q.xs q.zs).1:=⟨_,rfl⟩;obtain⟨bs,hbs⟩:∃x,x=(dsC D (σ q.v) q.k q.v q.r q.xs q.zs).2.1:=⟨_,rfl⟩;obtain⟨ys,f⟩:∃x,x=(dsC D (σ q.v) q.k q.v q.r q.xs q.zs).2.2.1:=⟨_,rfl⟩;obtain⟨so,hso⟩:∃x,x=(dsC D (σ q.v) q.k q.v q.r q.xs q.zs).2.2.2:=⟨_,rfl⟩;obtain⟨cd2,I⟩:∃x,x=(rfS vs ls q.k q.v q.r q.xs q.zs).1:=⟨_,rfl⟩;obtain⟨bs2,H⟩:∃x,x=(rfS vs ls q.k q.v q.r q.xs q.zs).2.1:=⟨_,rfl⟩;obtain⟨ys2,y⟩:∃x,x=(rfS vs ls q.k q.v q.r q.xs q.zs).2.2.1:=⟨_,rfl⟩;obtain⟨vs2,L⟩:∃x,x=(rfS vs ls q.k q.v q.r q.xs q.zs).2.2.2.1:=⟨_,rfl⟩;obtain⟨ls2,J⟩:∃x,x=(rfS vs ls q.k q.v q.r q.xs q.zs).2.2.2.2:=⟨_,rfl⟩;simp only[<-hcd,<-hbs,<-f,<-hso] at KD;simp only[<-I,<-H,<-y,<-L,<-J] at KR;simp only[<-hcd,<-hbs,<-f,<-hso,<-I,<-H,<-y,<-L,<-J] at ST;rw[<-y] at LEN;clear hcd hbs f hso I H y L J;go_upto_region 5 with fail;refine xG (fun W=> ∀j v,q.cs[j]?=some v->W.cell? ((ad.add (i*5)).add j)=some v) (E:=([]:List Nat).contains) aB ?_;have T0:=af (HT.o.below (bY _));have C:=af (fun W (h:Bw w W)=>(B.o.below h).s);obtain⟨W0,hW0⟩:=ak (World.drew wr);rw[<-hW0] at T0|-;clear hW0 HT b1 b2;refine bu 0 (.pointer (some ⟨gK,0,none⟩)) rfl ?_;refine bu 1 (.slice (some ad) n c) rfl ?_;refine bu 2 (.int .i64 i) rfl ?_;refine bu 3 (.pointer (some (ad.add (i*5)))) rfl ?_;simp only[Act.put,bg,bD,bF,bG,bH,bI];refine kF 4 (.agg q.cs.toArray) rfl (.inl ⟨az,fun W hW=>agY 37 (.tmp 22) rfl (ad.add (i*5)) rfl q.cs _ hW ES rfl GZ⟩) (C.o W0 T0.o.bel) ?_;refine bu 7 (.pointer (some ⟨g,0,none⟩)) rfl ?_;refine bu 8 (.slice (some ad) n c) rfl ?_;refine bu 9 (.int .i64 i) rfl ?_;refine bu 10 (.pointer (some (ad.add (i*5)))) rfl ?_;simp only[Act.put,bg,bD,bF,bG,bH,bI];refine kF 11 (.agg q.cs.toArray) rfl (.inl ⟨az,fun W hW=>agY 37 (.tmp 29) rfl (ad.add (i*5)) rfl q.cs _ hW ES rfl GZ⟩) (C.o W0 T0.o.bel) ?_;refine iH 5 rfl (fun K p=>?_);go_simp;(with_reducible refine(KC.o W0 T0.o.bel).mono ?_);rintro e t ⟨S,c3,U,c4,rfl,hO,hP,hB⟩;have M:=af (T0.o.below hB);have T:=af (KD.o t S c3 U c4 M.o hO.reads hP.reads hP.cap.1);clear hO hP hB KC KD T0;go_simp;refine p.out _ _ (.inr fun _=>C.o t M.o.bel) ?_;refine iH 6 rfl (fun K p=>?_);go_simp;(with_reducible refine T.o.mono ?_);rintro e N ⟨A5,c5,A6,c6,F,D',β',rfl,R⟩;have T2:=af (M.o.one R);have Q2:=af R.Q;have Y2:=af R.Y;have NL:=aj (g<t.heap.size/\(∀a,Z=some a->a.block<t.heap.size)/\(∀a,V=some a->a.block<t.heap.size)) (M.o.r.lt);obtain⟨rfl,rfl,rfl,hLk⟩:=ST.o D' (ap0 R.cn);have HLk:=af hLk;have X:=aj (Maps.size D'<=i+1) (by have:=R.sz;have:=HL.o.size;have:=M.o.n;have:=M.o.r.hv;omega);have T:=af (KR.o F D' β' _ N T2.o);clear R hLk ST KR;go_simp;refine p.out _ _ (.inr fun _=>C.o N T2.o.bel) ?_;refine iH 12 rfl (fun K p=>?_);go_simp;(with_reducible refine T.o.mono ?_);rintro e W3 ⟨A7,c7,A8,c8,m',AV',d',AL',d2',rfl,hQ,hY,hF,hu⟩;obtain rfl:m'=Maps.size D':=(by rw[<-hF.hv,HLk.o.size]);have T3:=af (T2.o.two hF hu X.o);have KS:=af (arj cd2 q.v A5 A6 A7 A8 bs2.length c5 ys2.length c6 c7 c8 bs2 ys2 W3 (OwnB.reads (agW Q2.o hu NL.o)) (Own.reads (agW Y2.o hu NL.o)) hQ.reads hY.reads rfl rfl LEN.o);clear hQ hY hF hu T Q2 Y2;go_simp;refine p.out _ _ (.inr fun _=>C.o W3 T3.o.bel) ?_;refine iH 13 rfl (fun K p=>?_);go_simp;(with_reducible refine KS.o.mono ?_);rintro e W4 ⟨rfl,hB⟩;have T4:=af (T3.o.below hB);have KM:=af (apB gK gM F D' W4 T4.o.a.d);clear hB KS T3;go_simp;refine p.out _ _ (.inr fun _=>C.o W4 T4.o.bel) ?_;refine bu 14 (.bool false) rfl ?_;refine bu 15 (.bool false) rfl ?_;refine bu 16 (.pointer (some ⟨gK,0,none⟩)) rfl ?_;refine bu 18 (.pointer (some ⟨g,0,none⟩)) rfl ?_;refine bu 19 (.pointer (some ⟨g,0,none⟩)) rfl ?_;refine bu 20 (.pointer (some ⟨g,0,none⟩)) rfl ?_;have cc:W4.cell? ⟨g,0,none⟩=some (.slice AV' (Maps.size D') d'):=Blk.cell T4.o.r.K 0;refine QP (rs:=[17,21]) (AllE.cons rfl (fun K p=>?_) (AllE.cons rfl (fun K p=>?_) AllE.nil))
    ·go_simp
     (with_reducible refine KM.o.mono ?_);rintro e W5 ⟨rfl,rfl⟩;go_simp;refine p.out _ _ (.inr fun h=>h) ?_;refine iH 21 rfl (fun K p=>?_);go_simp;refine p.out _ _ (.inr fun h=>h) ?_;clear p K KM;refine bu 22 (.int .i64 (Maps.size D':Nat)) rfl ?_;refine bu 23 (.bool false) rfl ?_;refine bu 24 (.bool false) rfl ?_;refine rO ?_ aB _;try simp only[Exit.then]
     go_wp2_with fail;go_roundw;case rel=>exact⟨i+1,F,Maps.size D',d',d2',AV',AL',D',β',_,vs2,ls2,aT,ah,by have:=P.o.1;omega,T4,HLk⟩
     case measure=>exact aW
    ·go_simp
     refine p.out _ _ (.inr fun h=>h) ?_;refine bu 22 (.int .i64 (Maps.size D':Nat)) rfl ?_;refine iH 17 rfl (fun K p=>?_);go_simp;(with_reducible refine KM.o.mono ?_);rintro e W5 ⟨rfl,rfl⟩;go_simp;refine p.out _ _ (.inr fun h=>h) ?_;clear p K KM;refine bu 23 (.bool false) rfl ?_;refine bu 24 (.bool false) rfl ?_;refine rO ?_ aB _;try simp only[Exit.then]
     go_wp2_with fail;go_roundw;case rel=>exact⟨i+1,F,Maps.size D',d',d2',AV',AL',D',β',_,vs2,ls2,aT,ah,by have:=P.o.1;omega,T4,HLk⟩
     case measure=>exact aW
   obtain rfl:i=40:=ah;have b1:decide (((40:Nat):Int)<n)=true:=aC;have b2:decide (((40:Nat):Int)<40)=false:=ay;exact arn
  obtain rfl:i=n:=ah;have b1:decide ((i:Int)<i)=false:=ay;exact arn
