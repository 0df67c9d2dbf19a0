/- Lemmas. -/
import Derived.Test.YtaahbkbnfpajdaaGreatDoorZef0m
import Derived.Test.YtaahbkbnfpajdaaGreatDoorZef0v
namespace Go.Proofs.YtaahbkbnfpajdaaGreatDoor
set_option linter.all false
set_option maxRecDepth 100000
set_option maxHeartbeats 8000000
open Go.RowKit
variable{vs:Lz}{q:Cq}{b:Nat}{f:List (En×Mm)}
def rIx(vs:Lz)(u:Int):Nat->Int
 |0=> -1
 |i+1=>if vs.getD i 0=u then i else rIx vs u i
theorem Zw(vs:Lz)(u:Int):∀i:Nat,-1<=rIx vs u i/\rIx vs u i<i
 |0=>by unfold rIx;omega
 |i+1=>by
  have h:=Zw vs u i;unfold rIx;split<;>omega
def rfC(n:Nat)(k u x:Int):Int:=
 if k<1\/5<k then 4 else if k=1 then(if u<0 then 2 else if 0<=x then 10 else if 32<=n then 7 else 0) else if x<0 then 6 else 0
structure Rf(W:Wd)(g B n:Nat)(A:Oz)(c:Nat)(A2:Oz)(c2:Nat)(vs:Lz)(ls:List (En×Mm)):Prop where
 K:Blk W g 29 #[.slice A n c,.slice A2 n c2]
 V:Own W B A c vs
 L:OwnL W B A2 c2 ls
 hv:vs.length=n
 hl:ls.length=n
structure Rj(w W:Wd)(g B n:Nat)(A:Oz)(c:Nat)(A2:Oz)(c2:Nat)(vs:Lz)(ls:List (En×Mm))(q:Cq):Prop where
 C:Blk W w.heap.size 37 q.cs
 R:Blk W (w.heap.size+1) 34 (aY 0 0 none 0 0 none 0 0)
 T:Blk W (w.heap.size+2) 34 (aY 0 q.v none 0 0 none 0 0)
 F:Rf W g B n A c A2 c2 vs ls
 bel:Bw w W
theorem EM{w W:Wd}{g B n:Nat}{A:Oz}{c:Nat}{A2:Oz}{c2:Nat}{a:List (En×Mm)}(h:Rj w W g B n A c A2 c2 vs a q):∃V,V=W/\Hy (Rj w V g B n A c A2 c2 vs a q):=⟨W,rfl,h⟩
section
variable {w W W':Wd} {g B n c c2 b:Nat} {A A2:Oz} {vs:Lz} {ls:List (En×Mm)} {q:Cq}
theorem Rf.below(h:Rf W g B n A c A2 c2 vs ls)(a:Bw W W'):Rf W' g B n A c A2 c2 vs ls:=⟨Blk.below' h.K a,h.V.below a,h.L.below a,h.hv,h.hl⟩
theorem Rf.row(h:Rf W g B n A c A2 c2 vs ls)(k:g≠b)(l:∀a,A=some a->a.block≠b)(m:∀a,A2=some a->a.block≠b)(d:Array Value):Rf (W.setRow b d) g B n A c A2 c2 vs ls:=by
 have j:W.grownBy (W.setRow b d) (some b):=⟨rfl,rfl,rfl,wE,fun i _ hn=>oz W b i d zB⟩;exact⟨Blk.rowFar h.K k,h.V.kept j (fun a f x=>l a f (fQ x)),h.L.kept j (fun a f x=>m a f (fQ x)),h.hv,h.hl⟩
theorem Rf.cell(h:Rf W g B n A c A2 c2 vs ls)(j:g≠b)(k:∀a,A=some a->a.block≠b)(l:∀a,A2=some a->a.block≠b)(o:Nat)(v:Value):Rf (W.setCell ⟨b,o,none⟩ v) g B n A c A2 c2 vs ls:=by
 have f:W.grownBy (W.setCell ⟨b,o,none⟩ v) (some b):=⟨rfl,rfl,rfl,uQ,fun i _ hn=>lV _ _ _ i zB⟩;exact⟨Blk.far h.K j v,h.V.kept f (fun a d x=>k a d (fQ x)),h.L.kept f (fun a d x=>l a d (fQ x)),h.hv,h.hl⟩
theorem Rf.lt(h:Rf W g B n A c A2 c2 vs ls):g<W.heap.size/\(∀a,A=some a->a.block<W.heap.size)/\(∀a,A2=some a->a.block<W.heap.size):=⟨Blk.lt h.K,fun a d=>(h.V.lt a d).2,fun a d=>(h.L.lt a d).2⟩
theorem Rj.lt(h:Rj w W g B n A c A2 c2 vs ls q):w.heap.size+3<=W.heap.size:=Blk.lt h.T
theorem Rj.below(h:Rj w W g B n A c A2 c2 vs ls q)(a:Bw W W'):Rj w W' g B n A c A2 c2 vs ls q:=⟨Blk.below' h.C a,Blk.below' h.R a,Blk.below' h.T a,h.F.below a,aH h.bel a⟩
theorem Rj.q0(h:Rj w W g B n A c A2 c2 vs ls q):W.cell? ⟨w.heap.size,0,none⟩=some (.int .i64 q.k):=Blk.cell h.C 0
theorem Rj.q1(h:Rj w W g B n A c A2 c2 vs ls q):W.cell? ⟨w.heap.size,1,none⟩=some (.int .i64 q.v):=Blk.cell h.C 1
theorem Rj.q2(h:Rj w W g B n A c A2 c2 vs ls q):W.cell? ⟨w.heap.size,2,none⟩=some (.bool q.r):=Blk.cell h.C 2
theorem Rj.q3(h:Rj w W g B n A c A2 c2 vs ls q):W.cell? ⟨w.heap.size,3,none⟩=some (.slice q.A q.n q.c):=Blk.cell h.C 3
theorem Rj.q4(h:Rj w W g B n A c A2 c2 vs ls q):W.cell? ⟨w.heap.size,4,none⟩=some (.slice q.A2 q.n2 q.c2):=Blk.cell h.C 4
theorem Rj.f0(h:Rj w W g B n A c A2 c2 vs ls q):W.cell? ⟨g,0,none⟩=some (.slice A n c):=Blk.cell h.F.K 0
theorem Rj.f1(h:Rj w W g B n A c A2 c2 vs ls q):W.cell? ⟨g,1,none⟩=some (.slice A2 n c2):=Blk.cell h.F.K 1
theorem Rj.start(w:Wd)(q:Cq)(h:Rf w g B n A c A2 c2 vs ls):
 Rj w (((w.alloc (.cells #[.int .i64 q.k,.int .i64 q.v,.bool q.r,.slice q.A q.n q.c,.slice q.A2 q.n2 q.c2] 37)).alloc (.cells #[.int .i64 0,.int .i64 0,.slice none 0 0,.slice none 0 0] 34)).alloc (.cells #[.int .i64 0,.int .i64 q.v,.slice none 0 0,.slice none 0 0] 34)) g B n A c A2 c2 vs ls q:=by
 have f:=Blk.new w 37 #[.int .i64 q.k,.int .i64 q.v,.bool q.r,.slice q.A q.n q.c,.slice q.A2 q.n2 q.c2];have a:=Blk.new (w.alloc (.cells #[.int .i64 q.k,.int .i64 q.v,.bool q.r,.slice q.A q.n q.c,.slice q.A2 q.n2 q.c2] 37)) 34 #[.int .i64 0,.int .i64 0,.slice none 0 0,.slice none 0 0];have d:=Blk.new ((w.alloc (.cells #[.int .i64 q.k,.int .i64 q.v,.bool q.r,.slice q.A q.n q.c,.slice q.A2 q.n2 q.c2] 37)).alloc (.cells #[.int .i64 0,.int .i64 0,.slice none 0 0,.slice none 0 0] 34)) 34 #[.int .i64 0,.int .i64 q.v,.slice none 0 0,.slice none 0 0];simp only[bT] at a d;have e:=((baqq w (.cells #[.int .i64 q.k,.int .i64 q.v,.bool q.r,.slice q.A q.n q.c,.slice q.A2 q.n2 q.c2] 37)).alloc ay (.cells #[.int .i64 0,.int .i64 0,.slice none 0 0,.slice none 0 0] 34)).alloc aC (.cells #[.int .i64 0,.int .i64 q.v,.slice none 0 0,.slice none 0 0] 34);exact⟨Blk.alloc (Blk.alloc f _) _,Blk.alloc a _,d,h.below e,e⟩
end
theorem apZ(g B n:Nat)(A:Oz)(c:Nat)(A2:Oz)(c2:Nat)(vs:Lz)(ls:List (En×Mm))(q:Cq)(w:Wd)(C:Rf w g B n A c A2 c2 vs ls)(U:n<=1000)(m:rfC n q.k q.v (rIx vs q.v n)≠0):
 Cl 8 #[.pointer (some ⟨g,0,none⟩),.agg #[.int .i64 q.k,.int .i64 q.v,.bool q.r,.slice q.A q.n q.c,.slice q.A2 q.n2 q.c2]] w (fun x w'=>x=.returned (.agg (aY (rfC n q.k q.v (rIx vs q.v n)) q.v none 0 0 none 0 0))/\Rf w' g B n A c A2 c2 vs ls/\Bw w w'):=by
 have hR:=lY (fn:=Tryz.f8) (p:=4) (ty:=34) rfl;obtain⟨J,z,S0⟩:=EM (Rj.start w q C);have t:=af z.symm;have HL:=af C.lt;have L:=af m;have k1:=S0.o.q1;have I:=S0.o.f0;clear z C m;go_enter Fp,Fq;go_upto_region 4 with(first|rw[t.o]|fail);first|rw[t.o]|skip
 clear k1 I;go_loopw[6,24] (fun P D wr=> ∃i:Nat,i<=n/\P=.int .i64 (rIx vs q.v i)/\D=.int .i64 i/\Hy (wr=J)) (fun _ D _=>n-(intOf D).toNat)
 case atStart=>exact⟨0,ah,rfl,rfl,af rfl⟩
 case round=>
  obtain⟨i,hi,rfl,rfl,E⟩:=hrel;obtain rfl:=E.o;clear E;by_cases hlt:i<n
  ·exact Gx
  obtain rfl:i=n:=ah;have V:=Zw vs q.v i;generalize hxe:rIx vs q.v i=x at*
  have f:=af hxe;clear hxe;have b1:decide ((i:Int)<i)=false:=ay;have k0:=S0.o.q0;have k1:=S0.o.q1;have I:=S0.o.f0;have X:=Blk.cell S0.o.T 0;have S:=Blk.frozen S0.o.T 0;have m:=L.o;by_cases u:q.k<1
  ·have K:decide (q.k<1)=true:=by simpa using u
   have e:=aj (rfC i q.k q.v x=4) (if_pos (.inl u));clear m;have l:=aj (Blk (wr.setCell ⟨w.heap.size+1+1,0,none⟩ (.int .i64 4)) (w.heap.size+1+1) 34 (aY 4 q.v none 0 0 none 0 0)) (Blk.set_ S0.o.T 0 _);have R1:=af (Blk.far S0.o.R (p:=⟨w.heap.size+1+1,0,none⟩) ni (.int .i64 4));have d:=af (S0.o.F.cell (b:=w.heap.size+1+1) CY (fun a ha=>CP) (fun a ha=>CQ) 0 (.int .i64 4));have B1:=af (S0.o.bel.setCell (p:=⟨w.heap.size+1+1,0,none⟩) qM (.int .i64 4));clear L S0;go_wp2_with(first
    |(refine jY rfl 34 (.tmp 5) rfl _ 34 _ _ rfl l.o eX rfl bV ?_)
    |(refine jX rfl 34 (.tmp 4) (.tmp 239) rfl _ 34 _ (aY 4 q.v none 0 0 none 0 0) rfl rfl R1.o bV rfl (kM _ _ _ _ _ _ _ _) ?_))
   exact Gy
  have K:decide (q.k<1)=false:=by simpa using u
  by_cases c2:5<q.k
  ·have M:decide (5<q.k)=true:=by simpa using c2
   have e:=aj (rfC i q.k q.v x=4) (if_pos (.inr c2));clear m;have l:=aj (Blk (wr.setCell ⟨w.heap.size+1+1,0,none⟩ (.int .i64 4)) (w.heap.size+1+1) 34 (aY 4 q.v none 0 0 none 0 0)) (Blk.set_ S0.o.T 0 _);have R1:=af (Blk.far S0.o.R (p:=⟨w.heap.size+1+1,0,none⟩) ni (.int .i64 4));have d:=af (S0.o.F.cell (b:=w.heap.size+1+1) CY (fun a ha=>CP) (fun a ha=>CQ) 0 (.int .i64 4));have B1:=af (S0.o.bel.setCell (p:=⟨w.heap.size+1+1,0,none⟩) qM (.int .i64 4));clear L S0;go_wp2_with(first
    |(refine jY rfl 34 (.tmp 5) rfl _ 34 _ _ rfl l.o eX rfl bV ?_)
    |(refine jX rfl 34 (.tmp 4) (.tmp 239) rfl _ 34 _ (aY 4 q.v none 0 0 none 0 0) rfl rfl R1.o bV rfl (kM _ _ _ _ _ _ _ _) ?_))
   exact Gy
  have M:decide (5<q.k)=false:=by simpa using c2
  by_cases c3:q.k=1
  ·have N:(q.k==1)=true:=by simpa using c3
   have j:rfC i q.k q.v x=if q.v<0 then 2 else if 0<=x then 10 else if 32<=i then 7 else 0:=(by unfold rfC;rw[if_neg ah,if_pos c3]);clear u c2 c3;by_cases s:q.v<0
   ·have H:decide (q.v<0)=true:=by simpa using s
    have e:=aj (rfC i q.k q.v x=2) (j.trans (if_pos s));clear m j;have l:=aj (Blk (wr.setCell ⟨w.heap.size+1+1,0,none⟩ (.int .i64 2)) (w.heap.size+1+1) 34 (aY 2 q.v none 0 0 none 0 0)) (Blk.set_ S0.o.T 0 _);have R1:=af (Blk.far S0.o.R (p:=⟨w.heap.size+1+1,0,none⟩) ni (.int .i64 2));have d:=af (S0.o.F.cell (b:=w.heap.size+1+1) CY (fun a ha=>CP) (fun a ha=>CQ) 0 (.int .i64 2));have B1:=af (S0.o.bel.setCell (p:=⟨w.heap.size+1+1,0,none⟩) qM (.int .i64 2));clear L S0;go_wp2_with(first
     |(refine jY rfl 34 (.tmp 5) rfl _ 34 _ _ rfl l.o eX rfl bV ?_)
     |(refine jX rfl 34 (.tmp 4) (.tmp 239) rfl _ 34 _ (aY 2 q.v none 0 0 none 0 0) rfl rfl R1.o bV rfl (kM _ _ _ _ _ _ _ _) ?_))
    exact Gy
   have H:decide (q.v<0)=false:=(by simpa using s);rw[if_neg s] at j;clear s;by_cases y:0<=x
   ·have O:decide (0<=x)=true:=by simpa using y
    have e:=aj (rfC i q.k q.v x=10) (j.trans (if_pos y));clear m j;have l:=aj (Blk (wr.setCell ⟨w.heap.size+1+1,0,none⟩ (.int .i64 10)) (w.heap.size+1+1) 34 (aY 10 q.v none 0 0 none 0 0)) (Blk.set_ S0.o.T 0 _);have R1:=af (Blk.far S0.o.R (p:=⟨w.heap.size+1+1,0,none⟩) ni (.int .i64 10));have d:=af (S0.o.F.cell (b:=w.heap.size+1+1) CY (fun a ha=>CP) (fun a ha=>CQ) 0 (.int .i64 10));have B1:=af (S0.o.bel.setCell (p:=⟨w.heap.size+1+1,0,none⟩) qM (.int .i64 10));clear L S0;go_wp2_with(first
     |(refine jY rfl 34 (.tmp 5) rfl _ 34 _ _ rfl l.o eX rfl bV ?_)
     |(refine jX rfl 34 (.tmp 4) (.tmp 239) rfl _ 34 _ (aY 10 q.v none 0 0 none 0 0) rfl rfl R1.o bV rfl (kM _ _ _ _ _ _ _ _) ?_))
    exact Gy
   have O:decide (0<=x)=false:=(by simpa using y);rw[if_neg y] at j;clear y;have G:32<=i:=by
    rcases yX i 32 with h|h
    ·rw[if_neg ah] at j
     exact absurd j m
    exact h
   have Q:decide ((32:Int)<=i)=true:=aC;have e:=aj (rfC i q.k q.v x=7) (j.trans (if_pos G));clear m j G;have l:=aj (Blk (wr.setCell ⟨w.heap.size+1+1,0,none⟩ (.int .i64 7)) (w.heap.size+1+1) 34 (aY 7 q.v none 0 0 none 0 0)) (Blk.set_ S0.o.T 0 _);have R1:=af (Blk.far S0.o.R (p:=⟨w.heap.size+1+1,0,none⟩) ni (.int .i64 7));have d:=af (S0.o.F.cell (b:=w.heap.size+1+1) CY (fun a ha=>CP) (fun a ha=>CQ) 0 (.int .i64 7));have B1:=af (S0.o.bel.setCell (p:=⟨w.heap.size+1+1,0,none⟩) qM (.int .i64 7));clear L S0;go_wp2_with(first
    |(refine jY rfl 34 (.tmp 5) rfl _ 34 _ _ rfl l.o eX rfl bV ?_)
    |(refine jX rfl 34 (.tmp 4) (.tmp 239) rfl _ 34 _ (aY 7 q.v none 0 0 none 0 0) rfl rfl R1.o bV rfl (kM _ _ _ _ _ _ _ _) ?_))
   exact Gy
  have N:(q.k==1)=false:=by simpa using c3
  have j:rfC i q.k q.v x=if x<0 then 6 else 0:=by unfold rfC;rw[if_neg ah,if_neg c3]
  have s:x<0:=by
   rcases Ff x 0 with h|h
   ·exact h
   rw[if_neg ah] at j;exact absurd j m
  have H:decide (x<0)=true:=by simpa using s
  have e:=aj (rfC i q.k q.v x=6) (j.trans (if_pos s));clear m j u c2 c3 s;have l:=aj (Blk (wr.setCell ⟨w.heap.size+1+1,0,none⟩ (.int .i64 6)) (w.heap.size+1+1) 34 (aY 6 q.v none 0 0 none 0 0)) (Blk.set_ S0.o.T 0 _);have R1:=af (Blk.far S0.o.R (p:=⟨w.heap.size+1+1,0,none⟩) ni (.int .i64 6));have d:=af (S0.o.F.cell (b:=w.heap.size+1+1) CY (fun a ha=>CP) (fun a ha=>CQ) 0 (.int .i64 6));have B1:=af (S0.o.bel.setCell (p:=⟨w.heap.size+1+1,0,none⟩) qM (.int .i64 6));clear L S0;go_wp2_with(first
   |(refine jY rfl 34 (.tmp 5) rfl _ 34 _ _ rfl l.o eX rfl bV ?_)
   |(refine jX rfl 34 (.tmp 4) (.tmp 239) rfl _ 34 _ (aY 6 q.v none 0 0 none 0 0) rfl rfl R1.o bV rfl (kM _ _ _ _ _ _ _ _) ?_))
  exact Gy
section
variable {w W W':Wd} {g b n B c c2 k:Nat} {A A2:Oz} {row:Option Nat} {vs:Lz} {ls:List (En×Mm)} {q:Cq} {an:Array Value} {e e':En} {m m':Mm}
theorem JR(h:Bw W W'):W.grownBy W' none:=⟨h.os,h.tape,h.output,h.size,fun k a _=>h.block k a⟩
theorem Bi(b:Nat)(a:List Value)(o:Nat)(W:Wd):W.grownBy (W.setCells b o a) (some b):=Gr.setCs (g:=b) (.inl rfl) a o W (Gr.of (aP _ _))
theorem JS(b o:Nat)(v:Value)(W:Wd):W.grownBy (W.setCell ⟨b,o,none⟩ v) (some b):=Bi b [v] o W
theorem Zy(b:Nat)(a:Array Value)(W:Wd):W.grownBy (W.setRow b a) (some b):=⟨rfl,rfl,rfl,wE,fun i _ hn=>oz W b i a zB⟩
theorem EP{t:TypeId}{a:Array Value}(h:Blk W k t a)(d:W.grownBy W' row)(f:row≠some k):Blk W' k t a:=(d.block k (Blk.lt h) fun x=>f x.symm).trans h
theorem pX{a:Nat}{t u:TypeId}{h i:Array Value}(f:Blk W a t h)(d:Blk W b u i)(F:t≠u):a≠b:=fun x=>by
 subst x;unfold Blk at f d;rw[f] at d;injection d with d;injection d with h3 h4;exact F h4
theorem Own.blk_(h:Own W B A c vs):∀a,A=some a->∃f,Blk W a.block 3 f:=fun a i=>by
 subst i;rcases h.2 with⟨h1,_⟩|⟨g,cap,d,hv,_,hc,_⟩
 ·cases h1
 injection hv with h1 _ _;injection h1 with h1;subst h1;exact⟨_,hc⟩
theorem OwnL.blk_(h:OwnL W B A c ls):∀a,A=some a->∃f,Blk W a.block 69 f:=fun a i=>by
 subst i;rcases h.1.2 with⟨h1,_⟩|⟨g,cap,d,hv,_,hc,_⟩
 ·cases h1
 injection hv with h1 _ _;injection h1 with h1;subst h1;exact⟨_,hc⟩
def Tu(w w':Wd)(g:Nat)(A A2:Oz):Prop:=w'.os=w.os/\w'.tape=w.tape/\w'.output=w.output/\w.heap.size<=w'.heap.size/\∀k,k<w.heap.size->k≠g->(∀a,A=some a->a.block≠k)->(∀a,A2=some a->a.block≠k)->w'.heap[k]?=w.heap[k]?
def Mi(w:Wd)(g:Nat)(A A2:Oz)(b:Nat):Prop:=b=g\/(∃a,A=some a/\a.block=b)\/(∃a,A2=some a/\a.block=b)\/w.heap.size<=b
theorem Tu.below(h:Bw w W):Tu w W g A A2:=⟨h.os,h.tape,h.output,h.size,fun k a _ _ _=>h.block k a⟩
theorem Tu.grow(h:Tu w W g A A2)(d:W.grownBy W' row)(p:∀b,row=some b->Mi w g A A2 b):Tu w W' g A A2:=
 ⟨d.os.trans h.1,d.tape.trans h.2.1,d.output.trans h.2.2.1,dL h.2.2.2.1 d.size,fun k o i j l=>(d.block k (je o h.2.2.2.1) (fun e=>by
   rcases p k e.symm with x|⟨a,f,x⟩|⟨a,f,x⟩|x
   ·exact i x
   ·exact j a f x
   ·exact l a f x
   ·omega)).trans (h.2.2.2.2 k o i j l)⟩
structure Rbx(w W:Wd)(q:Cq)(an:Array Value):Prop where
 C:Blk W w.heap.size 37 q.cs
 R:Blk W (w.heap.size+1) 34 (aY 0 0 none 0 0 none 0 0)
 T:Blk W (w.heap.size+1+1) 34 an
theorem Rbx.grow(h:Rbx w W q an)(a:W.grownBy W' row)(d:∀b,row=some b->b<w.heap.size\/w.heap.size+3<=b):Rbx w W' q an:=
 ⟨EP h.C a (fun x=>by have:=d _ x;omega),EP h.R a (fun x=>by have:=d _ x;omega),EP h.T a (fun x=>by have:=d _ x;omega)⟩
theorem Rbx.ans(h:Rbx w W q an)(i:Nat)(v:Value):Rbx w (W.setCell ⟨w.heap.size+1+1,i,none⟩ v) q (an.setIfInBounds i v):=
 ⟨Blk.far h.C Me v,Blk.far h.R ni v,Blk.set_ h.T i v⟩
theorem Rbx.q1(h:Rbx w W q an):W.cell? ⟨w.heap.size,1,none⟩=some (.int .i64 q.v):=Blk.cell h.C 1
theorem Rf.grow(h:Rf W g B n A c A2 c2 vs ls)(d:W.grownBy W' row)(f:row≠some g)(i:∀a,A=some a->some a.block≠row)(j:∀a,A2=some a->some a.block≠row):Rf W' g B n A c A2 c2 vs ls:=
 ⟨EP h.K d f,h.V.kept d i,h.L.kept d j,h.hv,h.hl⟩
structure Rz(w W:Wd)(g B n:Nat)(A:Oz)(c:Nat)(A2:Oz)(c2:Nat)(vs:Lz)(ls:List (En×Mm))(q:Cq)(an:Array Value):Prop where
 b:Rbx w W q an
 F:Rf W g B n A c A2 c2 vs ls
 u:Tu w W g A A2
 lt:g<w.heap.size/\(∀a,A=some a->a.block<w.heap.size)/\(∀a,A2=some a->a.block<w.heap.size)
theorem Rz.of(h:Rj w W g B n A c A2 c2 vs ls q)(d:g<w.heap.size/\(∀a,A=some a->a.block<w.heap.size)/\(∀a,A2=some a->a.block<w.heap.size)):Rz w W g B n A c A2 c2 vs ls q (aY 0 q.v none 0 0 none 0 0):=⟨⟨h.C,h.R,h.T⟩,h.F,.below h.bel,d⟩
theorem Rz.f1(h:Rz w W g B n A c A2 c2 vs ls q an):W.cell? ⟨g,1,none⟩=some (.slice A2 n c2):=Blk.cell h.F.K 1
theorem Rz.grow(h:Rz w W g B n A c A2 c2 vs ls q an)(f:W.grownBy W' row)(d:∀b,row=some b->w.heap.size+3<=b):Rz w W' g B n A c A2 c2 vs ls q an:=
 ⟨h.b.grow f (fun b x=>.inr (d b x)),h.F.grow f (fun x=>by have:=d _ x;have:=h.lt.1;omega) (fun a i x=>by have:=d _ x.symm;have:=h.lt.2.1 a i;omega) (fun a i x=>by have:=d _ x.symm;have:=h.lt.2.2 a i;omega),h.u.grow f (fun b x=>.inr (.inr (.inr (by have:=d b x;omega)))),h.lt⟩
theorem Rz.below(h:Rz w W g B n A c A2 c2 vs ls q an)(a:Bw W W'):Rz w W' g B n A c A2 c2 vs ls q an:=h.grow (JR a) (fun _ x=>by cases x)
theorem Rz.far(h:Rz w W g B n A c A2 c2 vs ls q an)(d:w.heap.size+3<=b)(a:List Value)(o:Nat):Rz w (W.setCells b o a) g B n A c A2 c2 vs ls q an:=h.grow (Bi b a o W) (fun x hx=>aaY)
theorem Rz.ans(h:Rz w W g B n A c A2 c2 vs ls q an)(i:Nat)(v:Value):Rz w (W.setCell ⟨w.heap.size+1+1,i,none⟩ v) g B n A c A2 c2 vs ls q (an.setIfInBounds i v):=
 ⟨h.b.ans i v,h.F.cell (b:=w.heap.size+1+1) (by have:=h.lt.1;omega) (fun a d=>by have:=h.lt.2.1 a d;omega) (fun a d=>by have:=h.lt.2.2 a d;omega) i v,h.u.grow (JS _ i v W) (fun b x=>.inr (.inr (.inr MI))),h.lt⟩
theorem Rz.end_(h:Rz w W g B n A c A2 c2 vs ls q an)(d:Array Value):Rf (W.setRow (w.heap.size+1) d) g B n A c A2 c2 vs ls/\Tu w (W.setRow (w.heap.size+1) d) g A A2:=
 ⟨h.F.row (b:=w.heap.size+1) (by have:=h.lt.1;omega) (fun a f=>by have:=h.lt.2.1 a f;omega) (fun a f=>by have:=h.lt.2.2 a f;omega) d,h.u.grow (Zy _ d W) (fun b x=>.inr (.inr (.inr MI)))⟩
theorem Rz.ne{d:Nat}(h:Rz w W g B n A c (some ⟨d,0,none⟩) c2 vs ls q an):g≠d/\(∀a,A=some a->a.block≠d)/\d<w.heap.size:=by
 obtain⟨l,f⟩:=h.F.L.blk_ _ rfl;exact⟨pX h.F.K f aA,fun a j=>by
  obtain⟨o,i⟩:=h.F.V.blk_ a j;exact pX i f aA,h.lt.2.2 _ rfl⟩
theorem Rz.line{d:Nat}(h:Rz w W g B n A c (some ⟨d,0,none⟩) c2 vs ls q an)(i:List Value)(o:Nat)(j:OwnL (W.setCells d o i) B (some ⟨d,0,none⟩) c2 f)(p:f.length=ls.length):Rz w (W.setCells d o i) g B n A c (some ⟨d,0,none⟩) c2 vs f q an:=by
 obtain⟨r,s,t⟩:=h.ne;exact⟨h.b.grow (Bi d i o W) (fun b x=>MI),⟨cZ r _ _ _ h.F.K,h.F.V.kept (Bi d i o W) (fun a l x=>s a l (fQ x)),j,h.F.hv,p.trans h.F.hl⟩,h.u.grow (Bi d i o W) (fun b x=>.inr (.inr (.inl ⟨_,rfl,fQ x⟩))),h.lt⟩
theorem Rz.setE{a j:Nat}(h:Rz w W g B n A c (some ⟨a,0,none⟩) c2 vs ls q an)(d:ls[j]?=some (e,m))(f:e'.ok):Rz w (W.setCells a (j*328) e'.cs) g B n A c (some ⟨a,0,none⟩) c2 vs (ls.set j (e',m)) q an:=h.line _ _ (h.F.L.setE d f) (fP ..)
theorem Rz.setM{a j:Nat}(h:Rz w W g B n A c (some ⟨a,0,none⟩) c2 vs ls q an)(d:ls[j]?=some (e,m))(f:m'.ok):Rz w (W.setCells a (j*328+226) m'.cs) g B n A c (some ⟨a,0,none⟩) c2 vs (ls.set j (e,m')) q an:=h.line _ _ (h.F.L.setM d f) (fP ..)
end
def Bj(w:Wd)(g B:Nat)(A A2:Oz)(v er:Int)(i ys:Lz)(vs:Lz)(ls:List (En×Mm))(x:Ending)(w':Wd):Prop:=
 ∃f j h l p o c' a d,x=.returned (.agg (aY er v f i.length j h ys.length l))/\OwnB w' w.heap.size f j i/\Own w' w.heap.size h l ys/\Rf w' g B p o c' a d vs ls/\Tu w w' g A A2
theorem Rj.far{w W:Wd}{g B n c c2:Nat}{A A2:Oz}(h:Rj w W g B n A c A2 c2 vs f q)(j:g<w.heap.size/\(∀a,A=some a->a.block<w.heap.size)/\(∀a,A2=some a->a.block<w.heap.size))(i:w.heap.size+3<=b)(e:List Value)(o:Nat):Rj w (W.setCells b o e) g B n A c A2 c2 vs f q:=
 have d:=(Rz.of h j).far i e o
 ⟨d.b.C,d.b.R,d.b.T,d.F,iJ (b:=b) ah e o _ h.bel⟩
theorem Rj.E{w W:Wd}{g B n c c2 j:Nat}{A:Oz}{d:List (En×Mm)}{e:En}{m:Mm}(h:Rj w W g B n A c (some ⟨b,0,none⟩) c2 vs d q)(k:d[j]?=some (e,m)):W.rangeAt b (j*328) e.cs/\W.rangeAt b (j*328+226) m.cs:=by
 obtain⟨C,a,_,_,f,i⟩:=h.F.L.E k;injection a with a;injection a with a;subst a;exact⟨f,i⟩
def oq:Array Value:=(eCs (enB,eQ)).toArray
theorem agr:∀p∈[(enB,eQ)],uq p:=fun p a=>by
 rw[List.mem_singleton.1 a];exact⟨Y7.k,Aj⟩
theorem ap3:(Tryz.prog.info? 69).map (fun i=>(i.size,i.bytes,i.zero.map (fun z=>(z.cells.size,Instr.fill (fun k=>some (k*i.size,i.size)) ((Array.range (1*i.size)).map (z.cells[· %z.cells.size]!)) [(0,.agg oq)]))))=some (328,2624,some (328,some oq)):=aB
theorem ags:∃(a:TypeInfo) (z:Value),Tryz.prog.info? 69=some a/\a.zero=some z/\a.size=328/\a.bytes=2624/\z.cells.size=328/\Instr.fill (fun k=>some (k*a.size,a.size)) ((Array.range (1*a.size)).map (z.cells[· %z.cells.size]!)) [(0,.agg oq)]=some oq:=by
 have h:=ap3;cases hi:Tryz.prog.info? 69 with
 |none=>rw[hi] at h;cases h
 |some a=>
  rw[hi] at h;simp only[uz,Fe,Fa] at h;obtain⟨c,d,b⟩:=h;cases hz:a.zero with
  |none=>rw[hz] at b;cases b
  |some z=>
   rw[hz] at b;simp only[uz,Fe,Fa] at b;exact⟨a,z,rfl,hz,c,d,b⟩
theorem ap4:Tryz.prog.built 69 [(0,.agg enB.ag),(1,.agg eQ.ag)]=some oq:=aB
theorem ap5{o:Oper}{a:Act}(x y:Operand)(c:o.op=.build 69 #[(0,x),(1,y)])(d:a.eval x=.agg enB.ag)(e:a.eval y=.agg eQ.ag)(w:Wd):(execOp a.eval o).run Tryz.prog w=.ok (.value (.agg oq)) w:=by
 have b:Tryz.prog.built 69 ((#[(0,x),(1,y)]:Array (Nat×Operand)).map fun(i,x)=>(i,a.eval x)).toList=some oq:=by
  simp only[ut,uu,uw];rw[d,e];exact ap4
 unfold execOp;simp only[c,ng,run_build w 69 _ _ b,qh];rfl
theorem ap6{o:Oper}{a:Act}{w:Wd}{K:Act->Wd->Prop}{Q:Exit->Act->Wd->Prop}(x:Operand)(e:o.op=.buildSlice 27 1 #[(0,x)])(f:a.eval x=.agg oq)
 (h:K (a.put o.dst (.slice (some ⟨w.heap.size,0,none⟩) 1 1)) (w.alloc (.cells oq 69))):o.wp Tryz.prog a w K Q:=by
 obtain⟨i,z,d,g,c,_,_,b⟩:=ags;refine wp_buildSlice 27 69 1 _ e oq i z Tryz.underlying27 d g (by rw[c];decide) (by rw[c];decide) ?_ h;simp only[ut,uu,uw];rw[f];exact b
theorem ap7(w:Wd):Reads (w.alloc (.cells oq 69)) (w.heap.size+1) 328 (some ⟨w.heap.size,0,none⟩) 1 (eL [(enB,eQ)]):=
 ⟨by rw[Bh agr];rfl,fun _=>⟨_,rfl,mP _,fun j u a=>by
   rw[apW] at a;have h:=Blk.cell (Blk.new w 69 oq) j;rw[lN,h];unfold oq;simpa using a⟩⟩
theorem ap8{w:Wd}{base n:Nat}{v:Value}{f:List Value}{l:List (En×Mm)}(h:w.ownsRow base 69 328 v n f)(a:f=eL l)(b:n=l.length)(e:∀p∈l,uq p):∃A c,v=.slice A l.length c/\OwnL w base A c l:=by
 subst a;subst b;rcases h.2 with⟨a,b⟩|⟨g,cap,d,a,rest⟩
 ·subst a
  refine⟨none,0,by rw[b],?_,e⟩;rw[b] at h|-;exact h
 subst a;exact⟨_,_,rfl,h,e⟩
theorem agt{g:Array Oper}{o:Oper}{a:Act}{w:Wd}{K:Act->Wd->Prop}{Q:Exit->Act->Wd->Prop}{E:Prop}(hgd:o.guard=none)(s x:Operand)
 (C:o.op=.call {callee:=.builtin .append,args:= #[s,x],argTypes:= #[27,27]})
 (base:Nat) (A:Oz) (c n:Nat) (l:List (En×Mm)) (Z:a.eval s=.slice A n c) (y:l.length=n) (f:OwnL w base A c l)
 (B:Nat) (A2:Oz) (c2 m q:Nat) (d:List (En×Mm)) (M:a.eval x=.slice A2 m c2) (O:d.length=m) (G:n+m=q) (H:Reads w B 328 A2 m (eL d)) (j:∀p∈d,uq p) (I:q<=1000) (b:base<=w.heap.size)
 (h:∀i c' w',OwnL w' base i c' (l++d)->w.grownBy w' (A.map (·.block))->K (a.put o.dst (.slice i q c')) w'):if Region.wanted o (yielded g a.tmps)=true then Oper.wp Tryz.prog o a w K Q else E:=by
 subst y O G;have L:Region.wanted o (yielded g a.tmps)=true:=MO;rw[if_pos L];obtain⟨N,z,hi,k,r,D,t,_⟩:=ags;obtain⟨J,w',e,u,h3,_⟩:=yh (P:=Tryz.prog) w base 27 o.type 69 N z 328 2624 Tryz.underlying27 hi k r D t ah _ _ _ f.1 B A2 d.length c2 (eL d) H apX jg ah b;obtain⟨i,c',rfl,v⟩:=ap8 u (Zv l d).symm List.length_append.symm (fun p F=>(List.mem_append.1 F).elim (f.2 p) (j p));unfold Oper.wp execOp;simp only[C,resolve,invoke,builtin,ng,uM,qh,ut,uu,uw,Z,M,e];rw[dN];exact h i c' w' v zF
structure Rfo(w W:Wd)(g B:Nat)(A A2:Oz)(d:Array Value)(A3:Oz)(c3:Nat)(vs:Lz)(A4:Oz)(c4:Nat)(ls:List (En×Mm))(q:Cq)(an:Array Value):Prop where
 K:Blk W g 29 d
 V:Own W B A3 c3 vs
 L:OwnL W B A4 c4 ls
 b:Rbx w W q an
 u:Tu w W g A A2
 lt:g<w.heap.size
section
variable {w W W':Wd} {g B n c3 c4 c5:Nat} {A A2 A3 A4 A5:Oz} {d:Array Value} {vs vs2:Lz} {ls ls2:List (En×Mm)} {q:Cq} {an:Array Value}
theorem Rfo.of{c c2:Nat}(h:Rj w W g B n A c A2 c2 vs ls q)(a:g<w.heap.size):Rfo w W g B A A2 #[.slice A n c,.slice A2 n c2] A c vs A2 c2 ls q (aY 0 q.v none 0 0 none 0 0):=⟨h.F.K,h.F.V,h.F.L,⟨h.C,h.R,h.T⟩,.below h.bel,a⟩
theorem Rfo.below(h:Rfo w W g B A A2 d A3 c3 vs A4 c4 ls q an)(a:Bw W W'):Rfo w W' g B A A2 d A3 c3 vs A4 c4 ls q an:=
 ⟨Blk.below' h.K a,h.V.below a,h.L.below a,h.b.grow (JR a) (fun _ x=>by cases x),h.u.grow (JR a) (fun _ x=>by cases x),h.lt⟩
theorem Rfo.s{x y:Value}(h:Rfo w W g B A A2 #[x,y] A3 c3 vs A4 c4 ls q an):W.cell? ⟨g,0,none⟩=some x/\W.cell? ⟨g,1,none⟩=some y/\W.cell? ⟨w.heap.size,1,none⟩=some (.int .i64 q.v):=⟨Blk.cell h.K 0,Blk.cell h.K 1,h.b.q1⟩
theorem yR(e:∀a,A3=some a->a.block<w.heap.size)(c:A3.map (·.block)=some b):b<w.heap.size/\∃a,A3=some a/\a.block=b:=by
 cases A3 with
 |none=>cases c
 |some a=>
  have f:a.block=b:=fQ c;exact⟨by have:=e a rfl;omega,a,rfl,f⟩
theorem Rfo.catV(h:Rfo w W g B A A2 d A c3 vs A4 c4 ls q an)(c:∀a,A=some a->a.block<w.heap.size)(e:W.grownBy W' (A.map (·.block)))(o:Own W' B A5 c5 vs2):Rfo w W' g B A A2 d A5 c5 vs2 A4 c4 ls q an:=by
 refine⟨EP h.K e (fun x=>?_),o,h.L.kept e (fun a f x=>?_),h.b.grow e (fun b x=>.inl (yR c x).1),h.u.grow e (fun b x=>.inr (.inl (yR c x).2)),h.lt⟩
 ·obtain⟨_,a,f,j⟩:=yR c x
  obtain⟨m,k⟩:=h.V.blk_ a f;exact pX k h.K aA j
 obtain⟨_,l,i,j⟩:=yR c x.symm;obtain⟨m,k⟩:=h.V.blk_ l i;obtain⟨p,U⟩:=h.L.blk_ a f;exact pX k U aA j
theorem Rfo.catL(h:Rfo w W g B A A2 d A3 c3 vs A2 c4 ls q an)(c:∀a,A2=some a->a.block<w.heap.size)(e:W.grownBy W' (A2.map (·.block)))(o:OwnL W' B A5 c5 ls2):Rfo w W' g B A A2 d A3 c3 vs A5 c5 ls2 q an:=by
 refine⟨EP h.K e (fun x=>?_),h.V.kept e (fun a f x=>?_),o,h.b.grow e (fun b x=>.inl (yR c x).1),h.u.grow e (fun b x=>.inr (.inr (.inl (yR c x).2))),h.lt⟩
 ·obtain⟨_,a,f,j⟩:=yR c x
  obtain⟨m,k⟩:=h.L.blk_ a f;exact pX k h.K aA j
 obtain⟨_,l,i,j⟩:=yR c x.symm;obtain⟨m,k⟩:=h.L.blk_ l i;obtain⟨p,U⟩:=h.V.blk_ a f;exact pX k U aA j
theorem Rfo.desk(h:Rfo w W g B A A2 d A3 c3 vs A4 c4 ls q an)(i:Nat)(v:Value):Rfo w (W.setCell ⟨g,i,none⟩ v) g B A A2 (d.setIfInBounds i v) A3 c3 vs A4 c4 ls q an:=by
 refine⟨Blk.set_ h.K i v,h.V.kept (JS g i v W) (fun a c x=>?_),h.L.kept (JS g i v W) (fun a c x=>?_),h.b.grow (JS g i v W) (fun b x=>.inl (by have:=fQ x;have:=h.lt;omega)),h.u.grow (JS g i v W) (fun b x=>.inl (fQ x).symm),h.lt⟩
 ·obtain⟨f,e⟩:=h.V.blk_ a c
  exact pX e h.K aA (fQ x)
 obtain⟨f,e⟩:=h.L.blk_ a c;exact pX e h.K aA (fQ x)
theorem Rfo.end_(h:Rfo w W g B A A2 #[.slice A3 n c3,.slice A4 n c4] A3 c3 vs A4 c4 ls q an)(j:vs.length=n)(i:ls.length=n)(c:Array Value):
 Rf (W.setRow (w.heap.size+1) c) g B n A3 c3 A4 c4 vs ls/\Tu w (W.setRow (w.heap.size+1) c) g A A2:=
 ⟨Rf.row ⟨h.K,h.V,h.L,j,i⟩ rX (fun a e=>by
   obtain⟨c,f⟩:=h.V.blk_ a e;exact pX f h.b.R aA) (fun a e=>by
   obtain⟨c,f⟩:=h.L.blk_ a e;exact pX f h.b.R aA) c,h.u.grow (Zy _ c W) (fun b x=>.inr (.inr (.inr MI)))⟩
end
section
variable {o:Oper} {a:Act} {gL n c j k:Nat}
theorem EQ(x y:Operand)(d:o.op=.indexAddr 27 x y)(e:a.eval x=.slice (some ⟨gL,0,none⟩) n c)(f:a.eval y=.int .i64 (j:Nat))(i:j<n)(b:k=j*328)(w:Wd):
 (execOp a.eval o).run Tryz.prog w=.ok (.value (.pointer (some ⟨gL,k,none⟩))) w:=by
 subst b;unfold execOp;have g:(0:Int)<=j:=ah;have h:(j:Int)<n:=ah;simp only[d,e,f];go_simp
theorem agu(x:Operand)(b:o.op=.fieldAddr 69 x 0)(d:a.eval x=.pointer (some ⟨gL,k,none⟩))(w:Wd):(execOp a.eval o).run Tryz.prog w=.ok (.value (.pointer (some ⟨gL,k,none⟩))) w:=by
 unfold execOp;simp only[b,d];go_simp
theorem QQ(x:Operand)(b:o.op=.fieldAddr 69 x 1)(d:a.eval x=.pointer (some ⟨gL,k,none⟩))(w:Wd):(execOp a.eval o).run Tryz.prog w=.ok (.value (.pointer (some ⟨gL,k+226,none⟩))) w:=by
 unfold execOp;simp only[b,d];go_simp
end
structure Rx(w W:Wd)(gx:Nat)(A5:Oz)(c5:Nat)(bs:Lz)(A6:Oz)(c6:Nat)(ys:Lz):Prop where
 G:w.heap.size+3<=gx
 Q:OwnB W (w.heap.size+3) A5 c5 bs
 Y:Own W (w.heap.size+3) A6 c6 ys
 ne:(∀a,A5=some a->a.block≠gx)/\(∀a,A6=some a->a.block≠gx)
section
variable {w W W':Wd} {gx c5 c6 b:Nat} {A5 A6:Oz} {bs ys:Lz} {row:Option Nat}
theorem Rx.grow(h:Rx w W gx A5 c5 bs A6 c6 ys)(e:W.grownBy W' row)(f:∀b,row=some b->b<w.heap.size+3\/b=gx):Rx w W' gx A5 c5 bs A6 c6 ys:=
 ⟨h.G,JL h.Q e (fun a d x=>by have g:=(h.Q.lt a d).1;have i:=h.ne.1 a d;have:=f _ x.symm;omega),h.Y.kept e (fun a d x=>by have g:=(h.Y.lt a d).1;have i:=h.ne.2 a d;have:=f _ x.symm;omega),h.ne⟩
theorem Rx.cs(h:Rx w W gx A5 c5 bs A6 c6 ys)(d:List Value)(o:Nat):Rx w (W.setCells gx o d) gx A5 c5 bs A6 c6 ys:=h.grow (Bi gx d o W) (fun b x=>.inr (fQ x).symm)
theorem Rx.low(h:Rx w W gx A5 c5 bs A6 c6 ys)(e:b<w.heap.size+3)(d:List Value)(o:Nat):Rx w (W.setCells b o d) gx A5 c5 bs A6 c6 ys:=h.grow (Bi b d o W) (fun x hx=>.inl aaY)
theorem Rx.ans(h:Rx w W gx A5 c5 bs A6 c6 ys)(i:Nat)(v:Value):Rx w (W.setCell ⟨w.heap.size+1+1,i,none⟩ v) gx A5 c5 bs A6 c6 ys:=h.low (b:=w.heap.size+1+1) ah [v] i
theorem Rx.sr(h:Rx w W gx A5 c5 bs A6 c6 ys)(d:Array Value):Rx w (W.setRow (w.heap.size+1) d) gx A5 c5 bs A6 c6 ys:=h.grow (Zy _ d W) (fun x hx=>.inl aaY)
theorem Rx.late(g:w.heap.size+3<=W.heap.size)(e:OwnB W' W.heap.size A5 c5 bs)(f:Own W' W.heap.size A6 c6 ys)(h:Bw W W')(o:Obj):Rx w (W'.alloc o) W'.heap.size A5 c5 bs A6 c6 ys:=
 ⟨by have:=h.size;omega,(e.below (baqq _ o)).more g,(f.below (baqq _ o)).more g,fun a d x=>by have:=(e.lt a d).2;omega,fun a d x=>by have:=(f.lt a d).2;omega⟩
theorem Rx.early(g:w.heap.size+3<=gx)(G:gx<W.heap.size)(e:OwnB W' W.heap.size A5 c5 bs)(f:Own W' W.heap.size A6 c6 ys):Rx w W' gx A5 c5 bs A6 c6 ys:=
 ⟨g,e.more ah,f.more ah,fun a d x=>by have:=(e.lt a d).1;omega,fun a d x=>by have:=(f.lt a d).1;omega⟩
theorem Rx.end_(h:Rx w W gx A5 c5 bs A6 c6 ys):OwnB W w.heap.size A5 c5 bs/\Own W w.heap.size A6 c6 ys:=⟨h.Q.more ah,h.Y.more ah⟩
end
