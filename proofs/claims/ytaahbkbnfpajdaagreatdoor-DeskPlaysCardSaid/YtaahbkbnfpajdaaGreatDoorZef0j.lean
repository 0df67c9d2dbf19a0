/- Lemmas. -/
import Derived.Test.YtaahbkbnfpajdaaGreatDoorZef08
namespace Go.Proofs.YtaahbkbnfpajdaaGreatDoor
set_option linter.all false
set_option maxRecDepth 100000
set_option maxHeartbeats 8000000
open Go.RowKit
variable{a ys now q h:Lz}{n:Nat}{w wr:Wd}{f:Nat->Int}{t:TypeId}{p:Addr}
def aE(i:Int->Int->Int)(a:Lz):Nat->Int
 |0=>0
 |n+1=>if aE i a n=0 then i (n:Nat) (a.getD n 0) else aE i a n
def aF(a:Int->Int->Int)(b:Lz)(j:Nat):Int:=a (j:Nat) (b.getD j 0)
def aL(b i:Int->Int->Int)(a:Lz):Lz:=if aE i a 8=0 then(List.range 8).map (aF b a) else Z8
theorem al7{i:Int->Int->Int}(h:aE i a n≠0):∀m,n<=m->aE i a m=aE i a n:=by
 intro m O;induction m with
 |zero=>obtain rfl:n=0:=by omega
        rfl
 |succ m ih=>
  by_cases b:n=m+1
  ·rw[b]
  have:=ih ah;rw[aE,if_neg (by rw[this];exact h),this]
def vF(b i:Int->Int->Int)(a:Lz)(w:Wd)(e:Ending)(w':Wd):Prop:=
 e=.returned (.tuple #[.agg (agi (aL b i a)),.int .i64 (aE i a 8)])/\Bw w w'
structure Sq(w wr:Wd)(ks ys:Lz):Prop where
 A:IB wr w.heap.size 52 ks
 R:IB wr (w.heap.size+1) 52 Z8
 O:IB wr (w.heap.size+2) 52 ys
 B:Bw w wr
theorem Sq.start(w:Wd)(a:Lz):Sq w (((w.alloc (.cells (agi a) 52)).alloc (.cells (agi Z8) 52)).alloc (.cells (agi Z8) 52)) a Z8:=by
 have h1:=IB.new w 52 a;have h2:=IB.new (w.alloc (.cells (agi a) 52)) 52 Z8;have h3:=IB.new ((w.alloc (.cells (agi a) 52)).alloc (.cells (agi Z8) 52)) 52 Z8;exact VK
theorem Sq.lt(h:Sq w wr a ys):w.heap.size+3<=wr.heap.size:=Blk.lt h.O
theorem Sq.below{a:Wd}{c:Lz}(h:Sq w wr c ys)(b:Bw wr a):Sq w a c ys:=
 ⟨Blk.below' h.A b,Blk.below' h.R b,Blk.below' h.O b,h.B.trans (b.mono rX)⟩
theorem Sq.set_(h:Sq w wr a ys)(i:Nat)(x:Int):Sq w (wr.setCell ⟨w.heap.size+2,i,none⟩ (.int .i64 x)) a (ys.set i x):=
 ⟨Blk.far h.A (p:=⟨w.heap.size+2,i,none⟩) (show w.heap.size≠w.heap.size+2 from ah) _,Blk.far h.R (p:=⟨w.heap.size+2,i,none⟩) (show w.heap.size+1≠w.heap.size+2 from ah) _,IB.set_ h.O i x,
   h.B.setCell (p:=⟨w.heap.size+2,i,none⟩) (show w.heap.size<=w.heap.size+2 from ah) _⟩
theorem al8(hl:ys.length=8)(h:∀j,j<n->ys.getD j 0=f j)(b:n<8):(ys.set n (f n)).length=8/\∀j,j<n+1->(ys.set n (f n)).getD j 0=f j:=by
 refine⟨xZ,fun j a=>?_⟩;by_cases e:n=j
 ·subst e;exact gQ _ _ _ ah
 rw[gV _ _ e];exact h j ah
theorem al9(hl:ys.length=8)(h:∀j,j<8->ys.getD j 0=f j):ys=(List.range 8).map f:=
 dM xZ fun k a=>by rw[hl] at a;rw[h k a,bJ f a]
theorem ama(d:Lz)(w:Wd)(r:d.length=8)(T:TabA w 3 dh):
 Cl 27 #[.agg (agi d)] w (vF qV eU d w):=by
 have hR:=nz (fn:=Tryz.f27) (p:=2) (q:=3) (ty:=52) rfl;have f:=Sq.start w d;rw[dP] at f;have f:=af f;have y:=af (fun i k w' (h:Bw w w')=>al5 i k w' (T.below' h (ax _)));have l:=af (fun(k:Nat) (hk:k<8) (w:Wd)=>jW aU d r k hk w);have HL:=af r;clear T r;go_enter Tryz.func27,Tryz.ntmps27;go_wp2_with(refine aK 52 (.tmp 1) d 8 f.o.A aU aJ HL.o ?_);go_loopw[10] (fun s wr=> ∃(n:Nat) (ys:Lz),n<=8/\s=.int .i64 n/\Hy (aE eU d n=0)/\Hy (ys.length=8/\∀j,j<n->ys.getD j 0=aF qV d j)/\Hy (Sq w wr d ys)) (fun s _=>8-(intOf s).toNat)
 case atStart=>exact⟨0,Z8,ah,rfl,af rfl,af ⟨rfl,fun j h=>ah⟩,f⟩
 case round=>
  clear f;obtain⟨n,ys,E,rfl,HE,HY,C⟩:=hrel;by_cases hlt:n<8
  ·have K:=y.o (n:Nat) (d.getD n 0) wr C.o.B
   unfold DI at K;have u:=l.o n hlt;have Y:=IB.cell C.o.A n qN;have HV:=aj (aF qV d n=qV (n:Nat) (d.getD n 0)) (rfl);have HE1:=aj (aE eU d (n+1)=eU (n:Nat) (d.getD n 0)) (UV);generalize qV (n:Nat) (d.getD n 0)=v at*
   generalize eU (n:Nat) (d.getD n 0)=er at*
   generalize d.getD n 0=x at*
   have t:=af K;clear K;by_cases h0:er=0
   ·subst h0
    go_wp2_with fail;refine t.o.mono ?_;rintro e z ⟨rfl,rfl⟩;have g:=C;exact Vz
   have D:(er !=0)=true:=rZ;have S:(er==0)=false:=rZ;have HF:=aj (aE eU d 8=er) (Vt);have b:=aj (aL qV eU d=Z8) (Uj);clear h0;go_wp2_with fail;refine t.o.mono ?_;rintro e z ⟨rfl,rfl⟩;have g:=C;clear Y u;go_wp2_with(refine aQ 52 (.tmp 2) (.tmp 22) Z8 Z8 8 g.o.R aJ rfl rfl ?_);exact VJ
  obtain rfl:n=8:=ah;have b:=aj (aL qV eU d=ys) (TI);have a:=af HY.o.1;go_wp2_with(first
   |(refine aK 52 (.tmp 4) ys 8 C.o.O aU aJ a.o ?_)
   |(refine aQ 52 (.tmp 2) (.tmp 28) Z8 ys 8 C.o.R aJ rfl a.o ?_))
  exact VI
theorem adm(d:Lz)(w:Wd)(r:d.length=8)(T:TabA w 3 dh):
 Cl 29 #[.agg (agi d)] w (vF lvV ed d w):=by
 have hR:=nz (fn:=Tryz.f29) (p:=2) (q:=3) (ty:=52) rfl;have f:=Sq.start w d;rw[dP] at f;have f:=af f;have y:=af (fun i k w' (h:Bw w w')=>ade i k w' (T.below' h (ax _)));have l:=af (fun(k:Nat) (hk:k<8) (w:Wd)=>jW aU d r k hk w);have HL:=af r;clear T r;go_enter Tryz.func29,Tryz.ntmps29;go_wp2_with(refine aK 52 (.tmp 1) d 8 f.o.A aU aJ HL.o ?_);go_loopw[10] (fun s wr=> ∃(n:Nat) (ys:Lz),n<=8/\s=.int .i64 n/\Hy (aE ed d n=0)/\Hy (ys.length=8/\∀j,j<n->ys.getD j 0=aF lvV d j)/\Hy (Sq w wr d ys)) (fun s _=>8-(intOf s).toNat)
 case atStart=>exact⟨0,Z8,ah,rfl,af rfl,af ⟨rfl,fun j h=>ah⟩,f⟩
 case round=>
  clear f;obtain⟨n,ys,E,rfl,HE,HY,C⟩:=hrel;by_cases hlt:n<8
  ·have K:=y.o (n:Nat) (d.getD n 0) wr C.o.B
   unfold kR at K;have u:=l.o n hlt;have Y:=IB.cell C.o.A n qN;have HV:=aj (aF lvV d n=lvV (n:Nat) (d.getD n 0)) (rfl);have HE1:=aj (aE ed d (n+1)=ed (n:Nat) (d.getD n 0)) (UV);generalize lvV (n:Nat) (d.getD n 0)=v at*
   generalize ed (n:Nat) (d.getD n 0)=er at*
   generalize d.getD n 0=x at*
   have t:=af K;clear K;by_cases h0:er=0
   ·subst h0
    go_wp2_with fail;refine t.o.mono ?_;rintro e z ⟨rfl,rfl⟩;have g:=C;exact Vz
   have D:(er !=0)=true:=rZ;have S:(er==0)=false:=rZ;have HF:=aj (aE ed d 8=er) (Vt);have b:=aj (aL lvV ed d=Z8) (Uj);clear h0;go_wp2_with fail;refine t.o.mono ?_;rintro e z ⟨rfl,rfl⟩;have g:=C;clear Y u;go_wp2_with(refine aQ 52 (.tmp 2) (.tmp 22) Z8 Z8 8 g.o.R aJ rfl rfl ?_);exact VJ
  obtain rfl:n=8:=ah;have b:=aj (aL lvV ed d=ys) (TI);have a:=af HY.o.1;go_wp2_with(first
   |(refine aK 52 (.tmp 4) ys 8 C.o.O aU aJ a.o ?_)
   |(refine aQ 52 (.tmp 2) (.tmp 28) Z8 ys 8 C.o.R aJ rfl a.o ?_))
  exact VI
theorem amb(d:Lz)(w:Wd)(s:d.length=8)(T:TabS w 2 dh):
 Cl 44 #[.agg (agi d)] w (vF qV eU d w):=by
 have hR:=nz (fn:=Tryz.f44) (p:=2) (q:=3) (ty:=52) rfl;have f:=Sq.start w d;rw[dP] at f;have f:=af f;have z:=af (fun i k w' (h:Bw w w')=>al6 i k w' (T.below' h (ax _)));have r:=af (fun(k:Nat) (hk:k<8) (w:Wd)=>jW aU d s k hk w);have HL:=af s;clear T s;go_enter Tryz.func44,Tryz.ntmps44;go_wp2;go_loopw[8] (fun t wr=> ∃(n:Nat) (ys:Lz),n<=8/\t=.int .i64 n/\Hy (aE eU d n=0)/\Hy (ys.length=8/\∀j,j<n->ys.getD j 0=aF qV d j)/\Hy (Sq w wr d ys)) (fun t _=>8-(intOf t).toNat)
 case atStart=>exact⟨0,Z8,ah,rfl,af rfl,af ⟨rfl,fun j h=>ah⟩,f⟩
 case round=>
  clear f;obtain⟨n,ys,F,rfl,HE,HY,C⟩:=hrel;by_cases hlt:n<8
  ·have K:=z.o (n:Nat) (d.getD n 0) wr C.o.B
   unfold DJ at K;have u:=r.o n hlt;have Y:=IB.cell C.o.A n qN;have HV:=aj (aF qV d n=qV (n:Nat) (d.getD n 0)) (rfl);have HE1:=aj (aE eU d (n+1)=eU (n:Nat) (d.getD n 0)) (UV);generalize qV (n:Nat) (d.getD n 0)=v at*
   generalize eU (n:Nat) (d.getD n 0)=er at*
   generalize d.getD n 0=x at*
   have y:=af K;clear K;by_cases h0:er=0
   ·subst h0
    go_wp2_with fail;refine y.o.mono ?_;rintro e D ⟨rfl,l⟩;have g:=af (C.o.below l);clear l;exact Vz
   have E:(er !=0)=true:=rZ;have S:(er==0)=false:=rZ;have HF:=aj (aE eU d 8=er) (Vt);have b:=aj (aL qV eU d=Z8) (Uj);clear h0;go_wp2_with fail;refine y.o.mono ?_;rintro e D ⟨rfl,l⟩;have g:=af (C.o.below l);clear l;clear Y u;go_wp2_with(refine aQ 52 (.tmp 2) (.tmp 21) Z8 Z8 8 g.o.R aJ rfl rfl ?_);exact VJ
  obtain rfl:n=8:=ah;have b:=aj (aL qV eU d=ys) (TI);have a:=af HY.o.1;go_wp2_with(first
   |(refine aK 52 (.tmp 4) ys 8 C.o.O aU aJ a.o ?_)
   |(refine aQ 52 (.tmp 2) (.tmp 27) Z8 ys 8 C.o.R aJ rfl a.o ?_))
  exact VI
theorem adn(d:Lz)(w:Wd)(r:d.length=8)(T:TabS w 2 dh):
 Cl 45 #[.agg (agi d)] w (vF lvV ed d w):=by
 have hR:=nz (fn:=Tryz.f45) (p:=2) (q:=3) (ty:=52) rfl;have f:=Sq.start w d;rw[dP] at f;have f:=af f;have y:=af (fun i k w' (h:Bw w w')=>adg i k w' (T.below' h (ax _)));have l:=af (fun(k:Nat) (hk:k<8) (w:Wd)=>jW aU d r k hk w);have HL:=af r;clear T r;go_enter Tryz.func45,Tryz.ntmps45;go_wp2;go_loopw[8] (fun s wr=> ∃(n:Nat) (ys:Lz),n<=8/\s=.int .i64 n/\Hy (aE ed d n=0)/\Hy (ys.length=8/\∀j,j<n->ys.getD j 0=aF lvV d j)/\Hy (Sq w wr d ys)) (fun s _=>8-(intOf s).toNat)
 case atStart=>exact⟨0,Z8,ah,rfl,af rfl,af ⟨rfl,fun j h=>ah⟩,f⟩
 case round=>
  clear f;obtain⟨n,ys,E,rfl,HE,HY,C⟩:=hrel;by_cases hlt:n<8
  ·have K:=y.o (n:Nat) (d.getD n 0) wr C.o.B
   unfold kR at K;have u:=l.o n hlt;have Y:=IB.cell C.o.A n qN;have HV:=aj (aF lvV d n=lvV (n:Nat) (d.getD n 0)) (rfl);have HE1:=aj (aE ed d (n+1)=ed (n:Nat) (d.getD n 0)) (UV);generalize lvV (n:Nat) (d.getD n 0)=v at*
   generalize ed (n:Nat) (d.getD n 0)=er at*
   generalize d.getD n 0=x at*
   have t:=af K;clear K;by_cases h0:er=0
   ·subst h0
    go_wp2_with fail;refine t.o.mono ?_;rintro e z ⟨rfl,rfl⟩;have g:=C;exact Vz
   have D:(er !=0)=true:=rZ;have S:(er==0)=false:=rZ;have HF:=aj (aE ed d 8=er) (Vt);have b:=aj (aL lvV ed d=Z8) (Uj);clear h0;go_wp2_with fail;refine t.o.mono ?_;rintro e z ⟨rfl,rfl⟩;have g:=C;clear Y u;go_wp2_with(refine aQ 52 (.tmp 2) (.tmp 21) Z8 Z8 8 g.o.R aJ rfl rfl ?_);exact VJ
  obtain rfl:n=8:=ah;have b:=aj (aL lvV ed d=ys) (TI);have a:=af HY.o.1;go_wp2_with(first
   |(refine aK 52 (.tmp 4) ys 8 C.o.O aU aJ a.o ?_)
   |(refine aQ 52 (.tmp 2) (.tmp 27) Z8 ys 8 C.o.R aJ rfl a.o ?_))
  exact VI
theorem aef(A A2:Oz)(j l n m:Nat)(xs ys:Lz)(w:Wd)(h:Rs w w.heap.size A xs)(i:Rs w w.heap.size A2 ys)(f:xs.length=n)(O:ys.length=m)(u:n<=m)(p:n<=1000)(c:fU xs)(d:fU ys):
 Cl 148 #[.slice A n j,.slice A2 m l] w fun e w'=>e=.returned (.int .i64 (bQ xs ys n))/\w=w':=by
 have HX:=af h;have HY:=af i;have HN:=af f;have HM:=af O;have t:=af c;have g:=af d;clear h i f O c d;go_enter Tryz.func148,Tryz.ntmps148;go_wp2;go_loop [5,10] (fun o a=> ∃(k:Nat) (s:Int),k<=n/\a=.int .i64 k/\o=.int .i64 s/\Hy (s=bQ xs ys k)) (fun _ a=>n-(intOf a).toNat)
 case atStart=>exact⟨0,0,ah,rfl,rfl,af rfl⟩
 case round=>
  exact ahN
theorem aeg(x:Int):0<=x*x:=by
 rcases RS 0 x with h|h
 ·exact qL h h
 have:=qL (show 0<= -x from ah) (show 0<= -x from ah);rwa [Int.neg_mul_neg] at this
theorem Yh(b:Lz)(n:Nat):0<=bQ b b n:=by
 unfold bQ;induction n with
 |zero=>simp[aN]
 |succ n ih=>
  simp only[aN];have:0<=tJ b b n:=by unfold tJ;exact aeg _
  omega
theorem am3{b:Lz}(h:bQ b b n=0):∀i,i<n->b.getD i 0=0:=by
 induction n with
 |zero=>intro i hi;omega
 |succ n ih=>
  intro i hi;have g:=Yh b n;have c:0<=tJ b b n:=by unfold tJ;exact aeg _
  have d:bQ b b n+tJ b b n=0:=h;by_cases e:i=n
  ·subst e
   have f:b.getD i 0*b.getD i 0=0:=(by unfold tJ at d c;omega);rcases Int.mul_eq_zero.1 f with a|a<;>exact a
  exact ih ah i ah
theorem aeh{b:Lz}(h:0<bQ a b n):0<bQ b b n:=by
 have e:=Yh b n;by_cases c:bQ b b n=0
 ·exfalso
  have d:=am3 c;have:bQ a b n=0:=by
   unfold bQ;rw[oK n (g:=fun _=>0) (fun i hi=>by unfold tJ;rw[d i hi];simp)];exact Xl n
  omega
 omega
theorem am4{c e b:Int}(h:0<c->0<e):(decide (0<c)&&jy c e b 0)=decide (0<c):=by
 by_cases a:0<c
 ·rw[Yg (h a) ah,kH a];rfl
 rw[kV a];rfl
theorem aei{g:Nat}{xs:Lz}(h:IB w g t xs):Rs w w.heap.size (some ⟨g,0,none⟩) xs:=
 ⟨qP,fun _=>⟨_,rfl,Blk.lt h,fun j u a=>by
   have b:j<xs.length:=by
    have:=(List.getElem?_eq_some_iff.mp a).1;rwa [bf] at this
   rw[wO xs j b] at a;rw[lN,<-a];exact IB.cell h j b⟩⟩
def sgp(x:Int):Int:=if x<0 then-1 else 1
theorem Yl(x:Int):sgp x=1\/sgp x= -1:=by
 unfold sgp;split
 ·exact .inr rfl
 exact .inl rfl
def plc(a:Lz)(t:Nat):Nat:=t+4*(a.getD t 0).toNat
def en0(ring:Lz)(a b:Nat):Int:=aN (enT ring a b) 40
def sg(d a:Lz)(t:Nat):Int:=sgp (d.getD (plc a t) 0)
theorem anj(ring:Lz)(a b:Nat):bQ (kN ring a) (kN ring b) 40=en0 ring a b:=ac2 ring a b
theorem ank(ring:Lz)(a b:Nat):en0 ring a b=en0 ring b a:=by
 unfold en0;exact oK 40 fun i _=>by unfold enT;exact oC _ _
theorem aeo(ring:Lz)(a b:Nat): -42949672960<=en0 ring a b/\en0 ring a b<=42949672960:=by
 have:=ac3 ring a b 40;unfold en0;omega
def scT(d ring a:Lz)(i j:Nat):Int:=sg d a i*sg d a j*en0 ring (plc a i) (plc a j)
theorem PD{s x B:Int}(Z:s=1\/s= -1)(h: -B<=x/\x<=B): -B<=s*x/\s*x<=B:=by
 rcases Z with rfl|rfl
 ·rw[vT];exact h
 rw[aar];omega
theorem Ym(d a:Lz)(t:Nat):sg d a t=1\/sg d a t= -1:=Yl _
theorem anl(d ring a:Lz)(i j:Nat): -42949672960<=scT d ring a i j/\scT d ring a i j<=42949672960:=by
 unfold scT;rw[Fh];exact PD (Ym d a i) (PD (Ym d a j) (aeo ring _ _))
def scR(d ring a:Lz)(i:Nat):Int:=aN (scT d ring a i) 4
def scE(d ring a:Lz):Int:=aN (scR d ring a) 4
theorem PH{B:Int}(h:∀i,-B<=f i/\f i<=B)(n:Nat): -(B*n)<=aN f n/\aN f n<=B*n:=by
 induction n with
 |zero=>simp[aN]
 |succ n ih=>
  simp only[aN];have:=h n;have e:B*((n+1:Nat):Int)=B*n+B:=by push_cast;rw[Lj,RH]
  rw[e];omega
theorem aep(d ring a:Lz)(i j:Nat)(b:j<=4): -171798691840<=aN (scT d ring a i) j/\aN (scT d ring a i) j<=171798691840:=by
 have:=PH (anl d ring a i) j;omega
theorem anm(d ring a:Lz)(i:Nat): -171798691840<=scR d ring a i/\scR d ring a i<=171798691840:=aep d ring a i 4 (ax _)
theorem aeq(d ring a:Lz)(i:Nat)(hi:i<=4): -687194767360<=aN (scR d ring a) i/\aN (scR d ring a) i<=687194767360:=by
 have:=PH (anm d ring a) i;omega
theorem Yn(d ring a:Lz): -687194767360<=scE d ring a/\scE d ring a<=687194767360:=aeq d ring a 4 (ax _)
def scC(d a:Lz):Nat->Int
 |0=>0
 |t+1=>IntKind.i64.wrap (scC d a t+IntKind.i64.wrap (sg d a t*d.getD (plc a t) 0))
theorem ann(x:Int): -9223372036854775808<=IntKind.i64.wrap x/\IntKind.i64.wrap x<=9223372036854775807:=by
 rw[mM];omega
theorem Yo(d a:Lz)(t:Nat): -9223372036854775808<=scC d a t/\scC d a t<=9223372036854775807:=by
 cases t with
 |zero=>simp[scC]
 |succ t=>exact ann _
def hrd(d ring a:Lz)(t n:Nat):Int:=aN (fun u=>sg d a u*jc ring (plc a u) n) t
theorem Yp(d ring a:Lz)(t n:Nat)(F:t<=4): -131072<=hrd d ring a t n/\hrd d ring a t n<=131072:=by
 have:=PH (f:=fun u=>sg d a u*jc ring (plc a u) n) (B:=32768) (fun u=>PD (Ym d a u) (by have:=yH ring (plc a u) n;omega)) t;unfold hrd;omega
theorem ano(c:Int)(f:Nat->Int)(n:Nat):aN f n*c=aN (fun i=>f i*c) n:=by
 rw[oC,<-Xk];exact oK n fun i _=>oC _ _
def hsq(d ring a:Lz)(n:Nat):Int:=hrd d ring a 4 n*hrd d ring a 4 n
theorem anp(d ring c:Lz):aN (hsq d ring c) 40=scE d ring c:=by
 have e:∀n,hsq d ring c n=aN (fun i=>aN (fun j=>(sg d c i*jc ring (plc c i) n)*(sg d c j*jc ring (plc c j) n)) 4) 4:=fun n=>by
  unfold hsq;conv=>lhs;unfold hrd
  rw[ano];exact oK 4 fun i _=>by rw[<-Xk]
 rw[oK 40 (g:=fun n=>aN (fun i=>aN (fun j=>(sg d c i*jc ring (plc c i) n)*(sg d c j*jc ring (plc c j) n)) 4) 4) (fun n _=>e n),acQ];unfold scE;refine oK 4 fun i _=>?_;rw[acQ];unfold scR;refine oK 4 fun j _=>?_;unfold scT en0;rw[<-Xk];refine oK 40 fun n _=>?_;unfold enT;generalize sg d c i=a;generalize sg d c j=b;generalize jc ring (plc c i) n=x;generalize jc ring (plc c j) n=y;rw[Fh a x,Fh a b,<-Fh x b,oC x b,Fh b x]
theorem Yq(d ring b:Lz)(n:Nat):0<=hsq d ring b n/\hsq d ring b n<=17179869184:=by
 have h:=Yp d ring b 4 n (ax _);unfold hsq;generalize hrd d ring b 4 n=x at*
 refine⟨?_,?_⟩
 ·rcases RS 0 x with a|a
  ·exact qL a a
  exact ag0 a a
 have:=iU (x:=x) (X:=131072) (y:=x) (Y:=131072) ah ah ⟨ah,ah⟩ ⟨ah,ah⟩;omega
theorem anq(d ring a:Lz)(n:Nat)(c:n<=40):0<=aN (hsq d ring a) n/\aN (hsq d ring a) n<=687194767360:=by
 have b:=PH (f:=hsq d ring a) (B:=17179869184) (fun i=>by have:=Yq d ring a i;omega) n;refine⟨?_,ah⟩;clear b c;induction n with
 |zero=>simp[aN]
 |succ n ih=>simp only[aN];have:=Yq d ring a n;omega
structure Tbl(L ring:Lz)(a b:Nat):Prop where
 len:L.length=1600
 at_:∀i j,i<40->j<40->(i<a/\j<a\/i=a/\j<b\/j=a/\i<b)->L.getD (i*40+j) 0=en0 ring i j
theorem Tbl.start(ring:Lz):Tbl (List.replicate 1600 0) ring 0 0:=⟨by rw[rW],fun i j _ _ h=>ah⟩
theorem Tbl.set_{L ring:Lz}{a b:Nat}(h:Tbl L ring a b)(g:a<40)(k:b<=a):Tbl ((L.set (a*40+b) (en0 ring a b)).set (b*40+a) (en0 ring a b)) ring a (b+1):=by
 refine⟨by rw[fP,fP,h.len],fun i j hi d l=>?_⟩;by_cases c:b*40+a=i*40+j
 ·have:i=b/\j=a:=ah
  obtain⟨rfl,rfl⟩:=this;rw[gQ _ _ _ (by rw[fP,h.len];omega)];exact ank _ _ _
 rw[gV _ _ c];by_cases S:a*40+b=i*40+j
 ·have:i=a/\j=b:=ah
  obtain⟨rfl,rfl⟩:=this;rw[gQ _ _ _ (by rw[h.len];omega)]
 rw[gV _ _ S];refine h.at_ i j hi d ?_;have e: ¬(i=b/\j=a):=ah;have f: ¬(i=a/\j=b):=ah;omega
theorem Tbl.next{L ring:Lz}{a:Nat}(h:Tbl L ring a (a+1)):Tbl L ring (a+1) 0:=⟨h.len,fun i j hi b c=>h.at_ i j hi b ah⟩
theorem Tbl.get{L ring:Lz}(h:Tbl L ring 40 0){i j:Nat}(hi:i<40)(a:j<40):L.getD (i*40+j) 0=en0 ring i j:=h.at_ i j hi a ah
def tX(a:Lz):Bool:=a.all fun p=>decide (0<=p/\p<=9)
theorem qZ(h:tX a=true)(t:Nat):0<=a.getD t 0/\a.getD t 0<=9:=by
 by_cases F:t<a.length
 ·have:=Nz h t F
  simpa using this
 exact VZ
theorem tY(h:tX a=true){t:Nat}(F:t<4):plc a t<40:=by
 have:=qZ h t;unfold plc;omega
def Ix(x:Lz):Prop:=x.length=4/\tX x=true
def nU(d ring a:Lz):Int:=if d.length=40/\ring.length=40 then(if tX a then 0 else 2) else 1
def PI(d ring a:Lz):Int:=if nU d ring a=0 then scC d a 4 else 0
def PK(d ring a:Lz):Int:=if nU d ring a=0 then scE d ring a else 0
def Z4:Lz:=[0,0,0,0]
structure Bst where
 at_:Lz
 first:Bool
 c:Int
 e:Int
def AC:Bst:=⟨Z4,true,0,0⟩
def gZ(d ring:Lz)(s:Bst)(x:Lz):Bst:=if s.first||jy (scC d x 4) (scE d ring x) s.c s.e then⟨x,false,scC d x 4,scE d ring x⟩ else s
def kD(d ring:Lz)(l:List (Lz)):Bst:=l.foldl (gZ d ring) AC
theorem anr(d ring:Lz)(l:List (Lz))(x:Lz):kD d ring (l++[x])=gZ d ring (kD d ring l) x:=by
 unfold kD;rw[List.foldl_append];rfl
theorem Jp:Ix Z4:=⟨rfl,aA⟩
theorem ant{d ring x:Lz}{s:Bst}(h:Ix s.at_)(a:Ix x):Ix (gZ d ring s x).at_:=by
 unfold gZ;split
 ·exact a
 exact h
theorem Jq{d ring:Lz}:∀{l:List (Lz)} {s:Bst},Ix s.at_->(∀x∈l,Ix x)->Ix (l.foldl (gZ d ring) s).at_
 |[],_,h,_=>h
 |x::l,s,h,hl=>Jq (l:=l) (ant h (hl x (rP ..))) fun y a=>hl y (vV _ a)
theorem anu{d ring x:Lz}{s:Bst}(h:(-9223372036854775808<=s.c/\s.c<=9223372036854775807)/\ -9223372036854775808<=s.e/\s.e<=9223372036854775807):(-9223372036854775808<=(gZ d ring s x).c/\(gZ d ring s x).c<=9223372036854775807)/\ -9223372036854775808<=(gZ d ring s x).e/\(gZ d ring s x).e<=9223372036854775807:=by
 unfold gZ;split
 ·have:=Yn d ring x
  exact⟨Yo d x 4,by show-9223372036854775808<=scE d ring x;omega,by show scE d ring x<=9223372036854775807;omega⟩
 exact h
theorem Yr{d ring:Lz}:∀{l:List (Lz)} {s:Bst},((-9223372036854775808<=s.c/\s.c<=9223372036854775807)/\ -9223372036854775808<=s.e/\s.e<=9223372036854775807)->((-9223372036854775808<=(l.foldl (gZ d ring) s).c/\(l.foldl (gZ d ring) s).c<=9223372036854775807)/\ -9223372036854775808<=(l.foldl (gZ d ring) s).e/\(l.foldl (gZ d ring) s).e<=9223372036854775807)
 |[],_,h=>h
 |x::l,s,h=>Yr (l:=l) (anu h)
theorem aer(d ring:Lz):∀(l:List (Lz)) (s:Bst),(l.foldl (gZ d ring) s).first=(s.first&&l.isEmpty)
 |[],s=>ay
 |x::l,s=>by
  show(l.foldl (gZ d ring) (gZ d ring s x)).first=_
  rw[aer d ring l];unfold gZ;cases Z:s.first<;>simp[Z];split<;>simp[Z]
def lJ(now:Lz)(t p:Nat):Lz:=now.set t (p:Int)
def jH(now:Lz)(t n:Nat):List (Lz):=(List.range n).map (lJ now t)
theorem aes(now:Lz)(t n:Nat):jH now t (n+1)=jH now t n++[lJ now t n]:=by unfold jH;rw[Si,zi];rfl
theorem anv{x:Lz}(h:tX x=true)(t:Nat){p:Int}(b:0<=p/\p<=9):tX (x.set t p)=true:=by
 unfold tX at*
 rw[lM] at*
 intro y c;rcases Rk c with a|a
 ·exact h y a
 subst a;simpa using b
theorem aet(h:Ix now){t p:Nat}(a:p<10):Ix (lJ now t p):=⟨by unfold lJ;rw[fP];exact h.1,anv h.2 t ah⟩
theorem PO(h:Ix now)(t:Nat)(c:n<=10):∀x∈jH now t n,Ix x:=fun x a=>by
 unfold jH at a;obtain⟨k,b,rfl⟩:=List.mem_map.1 a;exact aet h (by have:=List.mem_range.1 b;omega)
def fV(d ring:Lz):Nat->Lz
 |0=>Z4
 |k+1=>(kD d ring (jH (fV d ring k) (k%4) 10)).at_
theorem yL(d ring:Lz)(k:Nat):Ix (fV d ring k):=by
 induction k with
 |zero=>exact Jp
 |succ k ih=>exact Jq Jp (PO ih _ (ax _))
def iE(d x:Lz):Nat->Nat
 |0=>0
 |t+1=>if 0<=d.getD (plc x t) 0 then iE d x t+2^t else iE d x t
theorem Jr(d x:Lz)(t:Nat):iE d x t<2^t:=by
 induction t with
 |zero=>simp[iE]
 |succ t ih=>
  unfold iE;rw[uy];split<;>omega
def oQ(d x:Lz)(t:Nat):Int:=(iE d x t:Nat)
def jA(d ring:Lz):Int:=if d.length=40/\ring.length=40 then(if d.all (fun x=>decide (-1099511627776<=x/\x<=1099511627776)) then 0 else 2) else 1
def seX(d ring x:Lz):Lz:=if jA d ring=0 then x else Z4
def seS(d ring x:Lz):Int:=if jA d ring=0 then oQ d x 4 else 0
structure Nx(w wr:Wd)(p ys:Lz):Prop where
 A:IB wr w.heap.size 52 p
 R:IB wr (w.heap.size+1) 52 Z8
 O:IB wr (w.heap.size+2) 52 ys
 bel:Bw w wr
theorem Nx.start(w:Wd)(p:Lz):Nx w (((w.alloc (.cells (agi p) 52)).alloc (.cells (agi Z8) 52)).alloc (.cells (agi Z8) 52)) p Z8:=by
 have h1:=IB.new w 52 p;have h2:=IB.new (w.alloc (.cells (agi p) 52)) 52 Z8;have h3:=IB.new ((w.alloc (.cells (agi p) 52)).alloc (.cells (agi Z8) 52)) 52 Z8;exact VK
theorem Nx.set_{p:Lz}(h:Nx w wr p ys)(k:Nat)(x:Int):Nx w (wr.setCell ⟨w.heap.size+2,k,none⟩ (.int .i64 x)) p (ys.set k x):=
 ⟨Blk.far h.A (by show w.heap.size≠w.heap.size+2;omega) _,Blk.far h.R (by show w.heap.size+1≠w.heap.size+2;omega) _,IB.set_ h.O k x,h.bel.setCell (p:=⟨w.heap.size+2,k,none⟩) (by show w.heap.size<=w.heap.size+2;omega) _⟩
theorem aex(p l:Lz)(A:Oz)(c n B:Nat)(w:Wd)(u:p.length=8)(K:Rs w w.heap.size A l)(J:l.length=n)(hl:n<=17592186044416):
 Cl 126 #[.agg (agi p),.slice A n c] w fun e w'=>e=.returned (.agg (agi (fH p l)))/\Bw w w':=by
 have Q:=Af (fn:=Tryz.f126) (p:=4) (ty:=52) rfl;have a:=Nx.start w p;rw[dP] at a;have a:=af a;have L:=af u;have HN:=af J;have M:=af K;have G:=af (alo (l:=l) u);clear u J K;go_enter Tryz.func126,Tryz.ntmps126;go_wp2;go_loopw[7] (fun E wr=> ∃(k:Nat) (ys:Lz),k<=8/\E=.int .i64 k/\Hy (ys.length=8/\∀j,j<k->ys.getD j 0=tH p l j)/\Hy (Nx w wr p ys)) (fun E _=>8-(intOf E).toNat)
 case atStart=>exact⟨0,Z8,ah,rfl,af ⟨rfl,fun j h=>ah⟩,a⟩
 case round=>
  clear a;obtain⟨k,ys,Z,rfl,HY,C⟩:=hrel;have q:=fun i=>Blk.frozen C.o.O i;by_cases t:k<8
  ·have r:=fun x (hx:x=tH p l k)=>aj ((ys.set k x).length=8/\∀j,j<k+1->(ys.set k x).getD j 0=tH p l j) (by
    obtain⟨z,F⟩:=HY.o;refine⟨by simpa using z,fun j T=>?_⟩;by_cases H:k=j
    ·subst H
     rw[gQ _ _ _ ah,hx]
    ·rw[gV _ _ H]
     exact F j ah)
   have X:=IB.cell C.o.O k MR;have Y:=q k;clear q;by_cases b:k<n
   ·obtain⟨d,U⟩:∃d:Nat,n=k+1+d:=⟨n-(k+1),ah⟩
    obtain⟨W,rfl,_,P⟩:=(M.o.below C.o.bel).at_ (k:=d) Gl;have HX:=r (l.getD d 0) (by unfold tH;rw[if_pos (by rw[HN.o];exact b),HN.o];congr 1;omega);have f:=af (C.o.set_ k (l.getD d 0));have V:IntKind.i64.wrap ((n:Int)-1)=(n:Int)-1:=aV;have y:IntKind.i64.wrap ((n:Int)-1-(k:Int))=(d:Nat):=aV;generalize l.getD d 0=x at*
    have s:(d:Int)<n:=ah;exact aiJ
   obtain⟨d,U⟩:∃d:Nat,k=n+d:=⟨k-n,ah⟩;have P:=IB.cell C.o.A d (by rw[L.o];omega);have HX:=r (p.getD d 0) (by unfold tH;rw[if_neg (by rw[HN.o];exact b),HN.o];congr 1;omega);have f:=af (C.o.set_ k (p.getD d 0));have y:IntKind.i64.wrap ((k:Int)-(n:Int))=(d:Nat):=aV;generalize p.getD d 0=x at*
   have s:(d:Int)<8:=ah;have S:d<8:=ah;exact aiJ
  obtain rfl:k=8:=ah;have N:=aj (ys=fH p l) (by
   rw[G.o];obtain⟨z,F⟩:=HY.o;exact dM (by rw[z];simp) fun j T=>by rw[F j ah];simp[show j<8 from ah])
  have m:=af HY.o.1;clear t q;have I:=af (IB.setRow C.o.R ys);have D:=af (aS C.o.bel (g:=w.heap.size+1) ah (agi ys));go_wp2_with(first
   |(refine aK 52 (.tmp 5) ys 8 C.o.O aU aJ m.o ?_)
   |(refine aQ 52 (.tmp 4) (.tmp 33) Z8 ys 8 C.o.R aJ rfl m.o ?_))
  refine aX (v:=_) (Q _ _ _ 52 ys _ 8 rfl I.o aU rfl aJ m.o) rfl ?_;exact⟨by rw[N.o],D.o⟩
theorem PT{fn:Func}{p q r:Tmp}{ty:TypeId}(h:fn.results= #[.tmp p,.cell q ty,.tmp r])(a:Array Value)(w:Wd)(g:Nat)(t:TypeId)(xs:Lz)(d:TypeDesc)(n:Nat)
 (hp:a.getD q undef=.pointer (some ⟨g,0,none⟩)) (G:IB w g t xs) (e:Tryz.prog.underlying ty=some d) (U:mV d=true) (hi:(Tryz.prog.info? ty).map (·.size)=some n) (hl:xs.length=n):
 (results fn a).run Tryz.prog w=.ok (.tuple #[a.getD p undef,.agg (agi xs),a.getD r undef]) w:=by
 have b:a[q]?.getD undef=.pointer (some ⟨g,0,none⟩):=uV;have c:=vO (P:=Tryz.prog) w g t ty (agi xs) (0,0) d G e (by cases d<;>first|rfl|(simp[mV] at U)) Gi;simp[results,h,b,asAddr,c]
def tZ(w:Wd)(ys q:Lz)(er:Int)(e:Ending)(w':Wd):Prop:=∃A c,e=.returned (.tuple #[.slice A ys.length c,.agg (agi q),.int .i64 er])/\Own w' w.heap.size A c ys/\Bw w w'
structure Sx(w wr:Wd)(a q:Lz):Prop where
 A:IB wr w.heap.size 73 a
 P:IB wr (w.heap.size+1) 52 q
 R:IB wr (w.heap.size+2) 52 Z8
 bel:Bw w wr
theorem Sx.lt(h:Sx w wr a q):w.heap.size+3<=wr.heap.size:=Blk.lt h.R
theorem Sx.below{b:Wd}(h:Sx w wr a q)(c:Bw wr b):Sx w b a q:=
 ⟨Blk.below' h.A c,Blk.below' h.P c,Blk.below' h.R c,h.bel.trans (c.mono rX)⟩
theorem Sx.alloc(h:Sx w wr a q)(o:Obj):Sx w (wr.alloc o) a q:=
 ⟨Blk.alloc h.A o,Blk.alloc h.P o,Blk.alloc h.R o,h.bel.alloc rX o⟩
theorem Sx.setP(h:Sx w wr a q)(b:Lz):Sx w (wr.setRow (w.heap.size+1) (agi b)) a b:=
 ⟨Blk.rowFar h.A ah,IB.setRow h.P b,Blk.rowFar h.R ah,aS h.bel ah _⟩
theorem Sx.start(w:Wd)(a q:Lz):Sx w (((w.alloc (.cells (agi a) 73)).alloc (.cells (agi q) 52)).alloc (.cells (agi Z8) 52)) a q:=by
 have h1:=IB.new w 73 a;have h2:=IB.new (w.alloc (.cells (agi a) 73)) 52 q;have h3:=IB.new ((w.alloc (.cells (agi a) 73)).alloc (.cells (agi q) 52)) 52 Z8;exact VK
theorem Sx.grown{b:Wd}{xs:Lz}{A:Oz}{c:Nat}(h:Sx w wr a q)(e:Own wr (w.heap.size+3) A c xs)(d:wr.grownBy b (A.map (·.block))):Sx w b a q:=
 ⟨Blk.grownA h.A d (e.ne_ ah),Blk.grownA h.P d (e.ne_ ah),Blk.grownA h.R d (e.ne_ ah),
   uX h.bel (e.more ah) d rX⟩
theorem Yw(h:q.length=8):∃j k l m n o p r,q=[j,k,l,m,n,o,p,r]:=by
 match q,h with
 |[a,b,c,d,e,f,g,i],_=>exact⟨a,b,c,d,e,f,g,i,rfl⟩
theorem IB.set8{w:Wd}{g:Nat}{t:TypeId}(h:IB w g t Z8)(a b c d e f i j:Int):
 IB ((((((((w.setCell ⟨g,0,none⟩ (.int .i64 a)).setCell ⟨g,1,none⟩ (.int .i64 b)).setCell ⟨g,2,none⟩ (.int .i64 c)).setCell ⟨g,3,none⟩ (.int .i64 d)).setCell ⟨g,4,none⟩ (.int .i64 e)).setCell ⟨g,5,none⟩ (.int .i64 f)).setCell ⟨g,6,none⟩ (.int .i64 i)).setCell ⟨g,7,none⟩ (.int .i64 j)) g t [a,b,c,d,e,f,i,j]:=
 (((((((h.set_ 0 a).set_ 1 b).set_ 2 c).set_ 3 d).set_ 4 e).set_ 5 f).set_ 6 i).set_ 7 j
theorem aey{a w:Wd}{B g:Nat}(h:Below B a w)(G:B<=g)(b c d e f i j k:Int):
 Below B a ((((((((w.setCell ⟨g,0,none⟩ (.int .i64 b)).setCell ⟨g,1,none⟩ (.int .i64 c)).setCell ⟨g,2,none⟩ (.int .i64 d)).setCell ⟨g,3,none⟩ (.int .i64 e)).setCell ⟨g,4,none⟩ (.int .i64 f)).setCell ⟨g,5,none⟩ (.int .i64 i)).setCell ⟨g,6,none⟩ (.int .i64 j)).setCell ⟨g,7,none⟩ (.int .i64 k)):=
 (((((((h.setCell (p:=⟨g,0,none⟩) G _).setCell (p:=⟨g,1,none⟩) G _).setCell (p:=⟨g,2,none⟩) G _).setCell (p:=⟨g,3,none⟩) G _).setCell (p:=⟨g,4,none⟩) G _).setCell (p:=⟨g,5,none⟩) G _).setCell (p:=⟨g,6,none⟩) G _).setCell (p:=⟨g,7,none⟩) G _
theorem Own.set8{w:Wd}{base c g:Nat}{A:Oz}{xs:Lz}(h:Own w base A c xs)(G:g<base)(a b d e f i j k:Int):
 Own ((((((((w.setCell ⟨g,0,none⟩ (.int .i64 a)).setCell ⟨g,1,none⟩ (.int .i64 b)).setCell ⟨g,2,none⟩ (.int .i64 d)).setCell ⟨g,3,none⟩ (.int .i64 e)).setCell ⟨g,4,none⟩ (.int .i64 f)).setCell ⟨g,5,none⟩ (.int .i64 i)).setCell ⟨g,6,none⟩ (.int .i64 j)).setCell ⟨g,7,none⟩ (.int .i64 k)) base A c xs:=
 (((((((h.setC G 0 _).setC G 1 _).setC G 2 _).setC G 3 _).setC G 4 _).setC G 5 _).setC G 6 _).setC G 7 _
theorem Yx(a p l:Lz)(M:Oz)(V n:Nat)(w:Wd)(ha:a.length=9)(hp:p.length=8)(hr:Rs w w.heap.size M l)(hn:l.length=n)(hl:n<=17592186044000):
 Cl 64 #[.agg (agi a),.agg (agi p),.slice M n V] w (tZ w (if dZ a p l then eG a p l n else[]) (if dZ a p l then fH p (eG a p l n) else Z8) (bz (dZ a p l))):=by
 have hR:=PT (fn:=Tryz.f64) (p:=6) (q:=7) (r:=8) (ty:=52) rfl;have m:=Sx.start w a p;have S:=hr.below m.bel;rw[dP] at m;rw[dP] at S;have m:=af m;have S:=af S;have HA:=af ha;have HP:=af hp;have HN:=af hn;have HR:=af hr;have KG:=af (fun(W:Wd) (hW:Rs W W.heap.size M l)=>anE a p l M V n 0 W ha hp hW hn ah);clear ha hp hn hr;obtain⟨Y,hY⟩:=ak ((if dZ a p l then eG a p l n else[]));obtain⟨Z,hZ⟩:=ak ((if dZ a p l then fH p (eG a p l n) else Z8));rw[<-hY,<-hZ];have d:=af hY;have b:=af hZ;clear hY hZ;go_enter Tryz.func64,Tryz.ntmps64;go_wp2_with(first
  |(refine aK 73 (.tmp 3) a 9 m.o.A bP bC HA.o ?_)
  |(refine aK 52 (.tmp 4) p 8 m.o.P aU aJ HP.o ?_))
 refine(KG.o _ (S.o.more aC)).mono ?_;rintro e w1 ⟨rfl,h⟩;have S1:=af (m.o.below h);clear h m S KG;by_cases G:dZ a p l=true
 ·have HG:=af G
  rw[G];have z:=d.o;have z1:=b.o;rw[if_pos G] at z z1;have HY1:=af z;have HZ1:=af z1;clear z z1;obtain⟨ga,gz,gp,gl⟩:okP a=true/\a.getD 0 0=4096/\aG p=true/\aG l=true:=by simpa[dZ] using G
  have GA:=af ga;have t:=af gp;have GL:=af gl;clear G ga gz gp gl;go_wp2;go_loopw[9,21] (fun ov iv wr=> ∃(k:Nat) (A:Oz) (c:Nat) (q ys:Lz),k<=n/\iv=.int .i64 k/\ov=.slice A k c/\Hy (ys=eG a p l k)/\Hy (q=fH p (eG a p l k))/\Hy (Own wr (w.heap.size+3) A c ys)/\Hy (Sx w wr a q)) (fun _ iv _=>n-(intOf iv).toNat)
  case atStart=>exact⟨0,none,0,p,[],ah,rfl,rfl,af rfl,af rfl,af Own.nil,S1⟩
  case round=>
   clear S1;obtain⟨k,A,c,q,ys,hk,rfl,rfl,s,O,Q,C⟩:=hrel;have f:=af (show q.length=8 by rw[O.o];exact tC _ _ HP.o);by_cases hlt:k<n
   ·have T:=af (show aG q=true by rw[O.o];exact Du _ _ t.o (yG _ _ _ _))
    obtain⟨ad,rfl,hadb,X⟩:=(HR.o.below C.o.bel).at_ (k:=k) iT;have xb:=gU GL.o k;have U:=af (show ys++[s16 (l.getD k 0-pI a q)]=eG a p l (k+1) by rw[eG,<-s.o,O.o,s.o]);obtain⟨x,hx⟩:=ak (l.getD k 0);rw[<-hx] at X xb U;have gb:=acR GA.o T.o;have K1:=af (fun W=>anF a q W HA.o f.o GA.o T.o);generalize pI a q=g at*
    obtain⟨N,J⟩:=xb;obtain⟨g1,g2⟩:=gb;have hw1:IntKind.i64.wrap (x-g)=x-g:=aV;obtain⟨y,hy⟩:=ak (s16 (x-g));rw[<-hy] at U;have KS:=af (fun W=>Ad (x-g) W);rw[<-hy] at KS;have QN:=af (show jE q y=fH p (eG a p l (k+1)) by rw[<-U.o,s.o,Xq,O.o]);have LP:=af (Xp f.o y);have HX:=af hx;have YL:=af (show ys.length=k by rw[s.o,yF]);clear hx hy;go_wp2_with(first
     |(refine aK 73 (.tmp 3) a 9 C.o.A bP bC HA.o ?_)
     |(refine aK 52 (.tmp 4) q 8 C.o.P aU aJ f.o ?_))
    refine(K1.o _).mono ?_;rintro e w2 ⟨rfl,h⟩;have S2:=af (C.o.below h);have O2:=af (Q.o.below h);clear h C Q X;go_wp2_with(first
     |(go_at_call 143;refine(KS.o _).mono ?_;rintro e w' ⟨rfl,rfl⟩)
     |(refine aK 52 (.tmp 4) q 8 S2.o.P aU aJ f.o ?_))
    refine(anG q y _ f.o).mono ?_;rintro e w3 ⟨rfl,h⟩;have S3:=af (S2.o.below h);have O3:=af (O2.o.below h);clear h S2 O2;go_wp2_with(first
     |(refine aQ 52 (.tmp 4) (.tmp 33) q (jE q y) 8 S3.o.P aJ f.o LP.o ?_
       obtain⟨w4,i⟩:=ak (w3.setRow (w.heap.size+1) (agi (jE q y)))
       rw[<-i]
       have S4:=af (show Sx w w4 a (jE q y) by rw[i];exact S3.o.setP _)
       have O4:=af (show Own w4 (w.heap.size+3) A c ys by rw[i];exact O3.o.setRow ah _)
       clear i)
     |(at_builtin;refine wR rfl (.tmp 34) (.tmp 36) rfl (w.heap.size+3) A c k ys rfl YL.o (O4.o.alloc _) ⟨w4.heap.size,0,none⟩ y rfl (oH w4 _ _) ah (dL S4.o.lt ay) ?_;intro A2 c2 w5 hO hG hA;have O5:=af hO;have G5:=af hG;clear hO hG hA))
    have S5:=af ((S4.o.alloc _).grown (O4.o.alloc _) G5.o);go_wp2;go_roundw;case rel=>exact⟨k+1,A2,c2,_,_,ah,aT,rfl,U,QN,O5,S5⟩
    case measure=>exact aW
   obtain rfl:k=n:=ah;obtain⟨u,D,E,F,H,I,K,L,rfl⟩:=Yw f.o;have V:wr.cell? ⟨w.heap.size+1,0,none⟩=some (.int .i64 u):=IB.cell C.o.P 0 ay;have X:wr.cell? ⟨w.heap.size+1,1,none⟩=some (.int .i64 D):=IB.cell C.o.P 1 ay;have c2:wr.cell? ⟨w.heap.size+1,2,none⟩=some (.int .i64 E):=IB.cell C.o.P 2 ay;have c3:wr.cell? ⟨w.heap.size+1,3,none⟩=some (.int .i64 F):=IB.cell C.o.P 3 ay;have c4:wr.cell? ⟨w.heap.size+1,4,none⟩=some (.int .i64 H):=IB.cell C.o.P 4 ay;have c5:wr.cell? ⟨w.heap.size+1,5,none⟩=some (.int .i64 I):=IB.cell C.o.P 5 ay;have c6:wr.cell? ⟨w.heap.size+1,6,none⟩=some (.int .i64 K):=IB.cell C.o.P 6 ay;have c7:wr.cell? ⟨w.heap.size+1,7,none⟩=some (.int .i64 L):=IB.cell C.o.P 7 ay;have r0:wr.cell? ⟨w.heap.size+1+1,0,none⟩=some (.int .i64 0):=IB.cell C.o.R 0 aA;have r1:wr.cell? ⟨w.heap.size+1+1,1,none⟩=some (.int .i64 0):=IB.cell C.o.R 1 aA;have r2:wr.cell? ⟨w.heap.size+1+1,2,none⟩=some (.int .i64 0):=IB.cell C.o.R 2 aA;have r3:wr.cell? ⟨w.heap.size+1+1,3,none⟩=some (.int .i64 0):=IB.cell C.o.R 3 aA;have r4:wr.cell? ⟨w.heap.size+1+1,4,none⟩=some (.int .i64 0):=IB.cell C.o.R 4 aA;have r5:wr.cell? ⟨w.heap.size+1+1,5,none⟩=some (.int .i64 0):=IB.cell C.o.R 5 aA;have r6:wr.cell? ⟨w.heap.size+1+1,6,none⟩=some (.int .i64 0):=IB.cell C.o.R 6 aA;have r7:wr.cell? ⟨w.heap.size+1+1,7,none⟩=some (.int .i64 0):=IB.cell C.o.R 7 aA;have f0:wr.frozen? ⟨w.heap.size+1+1,0,none⟩=false:=Blk.frozen C.o.R 0;have f1:wr.frozen? ⟨w.heap.size+1+1,1,none⟩=false:=Blk.frozen C.o.R 1;have f2:wr.frozen? ⟨w.heap.size+1+1,2,none⟩=false:=Blk.frozen C.o.R 2;have f3:wr.frozen? ⟨w.heap.size+1+1,3,none⟩=false:=Blk.frozen C.o.R 3;have f4:wr.frozen? ⟨w.heap.size+1+1,4,none⟩=false:=Blk.frozen C.o.R 4;have f5:wr.frozen? ⟨w.heap.size+1+1,5,none⟩=false:=Blk.frozen C.o.R 5;have f6:wr.frozen? ⟨w.heap.size+1+1,6,none⟩=false:=Blk.frozen C.o.R 6;have f7:wr.frozen? ⟨w.heap.size+1+1,7,none⟩=false:=Blk.frozen C.o.R 7;have j:=af (Blk.drew (IB.set8 C.o.R u D E F H I K L));have OR:=af ((Q.o.set8 (g:=w.heap.size+2) ah u D E F H I K L).drew.more (base':=w.heap.size) ah);have BR:=af (aey C.o.bel (g:=w.heap.size+2) ah u D E F H I K L).drew;have B:=af (show Y=ys by rw[HY1.o,s.o]);have FZ:=af (show Z=[u,D,E,F,H,I,K,L] by rw[HZ1.o,O.o]);have YL:=af (show ys.length=k by rw[s.o,yF]);go_wp2;go_region;clear V X c2 c3 c4 c5 c6 c7 r0 r1 r2 r3 r4 r5 r6 r7 f0 f1 f2 f3 f4 f5 f6 f7;simp only[Exit.then];go_wp2;refine aX (v:=_) (hR _ _ _ 52 [u,D,E,F,H,I,K,L] _ 8 rfl j.o aU rfl aJ rfl) rfl ?_;exact⟨A,c,by rw[B.o,FZ.o,YL.o,HG.o];rfl,by rw[B.o];exact OR.o,BR.o⟩
 ·have hb:dZ a p l=false:=Gs
  rw[hb];go_wp2_with(refine aQ 52 (.tmp 7) (.tmp 18) Z8 Z8 8 S1.o.R aJ rfl rfl ?_);exact aif
def hiY(a b c d x:Int):Int:=s16 ((3798*x-7596*a+3798*b+7807*c-3733*d+2048)/4096)
def hiN(l:Lz)(a b c d:Int):Nat->(Int×Int×Int×Int)×Lz
 |0=>((a,b,c,d),[])
 |k+1=>((l.getD k 0,(hiN l a b c d k).1.1,hiY (hiN l a b c d k).1.1 (hiN l a b c d k).1.2.1 (hiN l a b c d k).1.2.2.1 (hiN l a b c d k).1.2.2.2 (l.getD k 0),(hiN l a b c d k).1.2.2.1),
   (hiN l a b c d k).2++[hiY (hiN l a b c d k).1.1 (hiN l a b c d k).1.2.1 (hiN l a b c d k).1.2.2.1 (hiN l a b c d k).1.2.2.2 (l.getD k 0)])
def AX(a b c d:Int)(l:Lz):Bool:=aG l&&(aG [a,b]&&aG [c,d])
def yN(x:Int):Prop:= -32768<=x/\x<=32767
theorem aeN(x:Int):yN (s16 x):=by
 unfold s16 lim yN;repeat' split
 all_goals omega
theorem PZ(l:Lz)(a b c d:Int)(k:Nat):(hiN l a b c d k).2.length=k:=by
 induction k with
 |zero=>rfl
 |succ k ih=>simp only[hiN,dN,ih];rfl
theorem aeO{l:Lz}{a b c d:Int}(g:aG l=true)(e:aG [a,b]=true)(f:aG [c,d]=true)(k:Nat):
 yN (hiN l a b c d k).1.1/\yN (hiN l a b c d k).1.2.1/\yN (hiN l a b c d k).1.2.2.1/\yN (hiN l a b c d k).1.2.2.2:=by
 induction k with
 |zero=>exact⟨gU e 0,gU e 1,gU f 0,gU f 1⟩
 |succ k ih=>exact⟨gU g k,ih.1,aeN _,ih.2.2.1⟩
structure Hx(w wr:Wd)(h:Lz):Prop where
 H:IB wr w.heap.size 50 h
 R:IB wr (w.heap.size+1) 50 [0,0,0,0]
 bel:Bw w wr
theorem Hx.lt(s:Hx w wr h):w.heap.size+2<=wr.heap.size:=Blk.lt s.R
theorem Hx.start(w:Wd)(h:Lz):Hx w ((w.alloc (.cells (agi h) 50)).alloc (.cells (agi [0,0,0,0]) 50)) h:=by
 have h1:=IB.new w 50 h;have h2:=IB.new (w.alloc (.cells (agi h) 50)) 50 [0,0,0,0];simp only[bT] at h2;exact abx
theorem Hx.alloc(s:Hx w wr h)(o:Obj):Hx w (wr.alloc o) h:=
 ⟨Blk.alloc s.H o,Blk.alloc s.R o,s.bel.alloc Vl o⟩
theorem Hx.drew(s:Hx w wr h):Hx w wr.drew h:=⟨s.H,s.R,s.bel.drew⟩
theorem Hx.grown{a:Wd}{xs:Lz}{A:Oz}{c:Nat}(s:Hx w wr h)(d:Own wr (w.heap.size+2) A c xs)(b:wr.grownBy a (A.map (·.block))):Hx w a h:=
 ⟨Blk.grownA s.H b (d.ne_ ah),Blk.grownA s.R b (d.ne_ ah),uX s.bel (d.more ah) b Vl⟩
theorem Hx.set(s:Hx w wr h)(i:Nat)(x:Int):Hx w (wr.setCell ⟨w.heap.size,i,none⟩ (.int .i64 x)) (h.set i x):=
 ⟨IB.set_ s.H i x,Blk.far s.R ay _,s.bel.setCell ay _⟩
theorem Hx.set4{w wr:Wd}{a b c d:Int}(s:Hx w wr [a,b,c,d])(u N J f:Int):
 Hx w ((((wr.setCell ⟨w.heap.size,0,none⟩ (.int .i64 u)).setCell ⟨w.heap.size,1,none⟩ (.int .i64 N)).setCell ⟨w.heap.size,2,none⟩ (.int .i64 J)).setCell ⟨w.heap.size,3,none⟩ (.int .i64 f)) [u,N,J,f]:=
 (((s.set 0 u).set 1 N).set 2 J).set 3 f
theorem Ed:agi [0,0,0,0]= #[.int .i64 0,.int .i64 0,.int .i64 0,.int .i64 0]:=rfl
theorem AY:(Tryz.prog.info? 50).map (·.size)=some 4:=aB
theorem Own.set4{w:Wd}{base c g:Nat}{A:Oz}{xs:Lz}(h:Own w base A c xs)(G:g<base)(u N J f:Int):
 Own ((((w.setCell ⟨g,0,none⟩ (.int .i64 u)).setCell ⟨g,1,none⟩ (.int .i64 N)).setCell ⟨g,2,none⟩ (.int .i64 J)).setCell ⟨g,3,none⟩ (.int .i64 f)) base A c xs:=
 (((h.setC G 0 _).setC G 1 _).setC G 2 _).setC G 3 _
theorem IB.set4{w:Wd}{g:Nat}{t:TypeId}{a b c d:Int}(h:IB w g t [a,b,c,d])(u N J f:Int):
 IB ((((w.setCell ⟨g,0,none⟩ (.int .i64 u)).setCell ⟨g,1,none⟩ (.int .i64 N)).setCell ⟨g,2,none⟩ (.int .i64 J)).setCell ⟨g,3,none⟩ (.int .i64 f)) g t [u,N,J,f]:=
 IB.set_ (IB.set_ (IB.set_ (IB.set_ h 0 u) 1 N) 2 J) 3 f
theorem YH{B g:Nat}{a w:Wd}(h:Below B a w)(G:B<=g)(u N J f:Int):
 Below B a ((((w.setCell ⟨g,0,none⟩ (.int .i64 u)).setCell ⟨g,1,none⟩ (.int .i64 N)).setCell ⟨g,2,none⟩ (.int .i64 J)).setCell ⟨g,3,none⟩ (.int .i64 f)):=
 (((h.setCell G _).setCell G _).setCell G _).setCell G _
theorem P7{g o B:Nat}{x y:Int}(c:w.cell? ⟨g,o,none⟩=some (.int .i64 x))(d:w.cell? ⟨g,o+1,none⟩=some (.int .i64 y))(G:g<B):Rs w B (some ⟨g,o,none⟩) [x,y]:=
 ⟨qP,fun _=>⟨_,rfl,G,fun j u a=>by
   have b:j<2:=by
    have:=(List.getElem?_eq_some_iff.mp a).1;rwa [bf] at this
   rw[wO [x,y] j b] at a;rw[<-a];match j,b with
   |0,_=>exact c
   |1,_=>exact d⟩⟩
def hiA(l:Lz)(a b c d:Int)(n:Nat):Lz×Lz×Bool:=
 if AX a b c d l then([(hiN l a b c d n).1.1,(hiN l a b c d n).1.2.1,(hiN l a b c d n).1.2.2.1,(hiN l a b c d n).1.2.2.2],(hiN l a b c d n).2,true) else([0,0,0,0],[],false)
theorem anT(a b c d:Int)(l:Lz)(M:Oz)(c0 n:Nat)(w:Wd)(hr:Rs w w.heap.size M l)(hn:l.length=n)(hl:n<=17592186044000):
 Cl 24 #[.agg (agi [a,b,c,d]),.slice M n c0] w (tZ w (hiA l a b c d n).2.1 (hiA l a b c d n).1 (bz (hiA l a b c d n).2.2)):=by
 have hR:=PT (fn:=Tryz.f24) (p:=4) (q:=5) (r:=6) (ty:=50) rfl;have z:=Hx.start w [a,b,c,d];rw[Ed] at z;have z:=af z;have R0:=af (hr.below z.o.bel);have HN:=af hn;have HR:=af hr;have KL:=af (fun(W:Wd) (h:Rs W W.heap.size M l)=>Iq M c0 n W.heap.size l W h hn ah);have T:=af (fun(W:Wd) (h:Rs W W.heap.size (some ⟨w.heap.size,0,none⟩) [a,b])=>Iq _ 2 2 W.heap.size [a,b] W h rfl ah);have KY:=af (fun(W:Wd) (h:Rs W W.heap.size (some ⟨w.heap.size,2,none⟩) [c,d])=>Iq _ 2 2 W.heap.size [c,d] W h rfl ah);have k0:∀W,Hx w W [a,b,c,d]->W.cell? ⟨w.heap.size,0,none⟩=some (.int .i64 a):=fun W s=>IB.cell s.H 0 ay;have RX:=af (P7 (IB.cell z.o.H 0 ay) (IB.cell z.o.H 1 ay) (Blk.lt z.o.H));have RY:=af (P7 (IB.cell z.o.H 2 ay) (IB.cell z.o.H 3 ay) (Blk.lt z.o.H));have RL:=af (R0.o.more (show w.heap.size<=_ from z.o.bel.size));clear hn hr k0 R0;have K1:=af (KL.o _ RL.o);have K2:=af (T.o _ RX.o);have V:=af (KY.o _ RY.o);clear KL T KY RX RY RL;by_cases G:AX a b c d l=true
 ·obtain⟨U,K,L⟩:aG l=true/\aG [a,b]=true/\aG [c,d]=true:=by simpa[AX] using G
  unfold hiA;rw[if_pos G];have GN:=af (fun k=>aeO U K L k);have GL:=af U;have t:=K1.o;have i:=K2.o;have P:=V.o;rw[U] at t;rw[K] at i;rw[L] at P;have K1:=af t;have K2:=af i;have V:=af P;clear t i P U K L G;go_enter Tryz.func24,Tryz.ntmps24;go_wp2_with(first
   |(go_at_call 58;(with_reducible refine K1.o.mono ?_);rintro e w' ⟨rfl,rfl⟩)
   |(go_at_call 58;(with_reducible refine K2.o.mono ?_);rintro e w' ⟨rfl,rfl⟩)
   |(go_at_call 58;(with_reducible refine V.o.mono ?_);rintro e w' ⟨rfl,rfl⟩))
  have Y:=z;clear K1 K2 V z;go_loopw[7,30] (fun ov iv wr=> ∃(k:Nat) (A:Oz) (X:Nat) (f E B F:Int) (ys:Lz),k<=n/\iv=.int .i64 k/\ov=.slice A k X/\Hy (hiN l a b c d k=((f,E,B,F),ys))/\Hy (Own wr (w.heap.size+2) A X ys)/\Hy (Hx w wr [f,E,B,F])) (fun _ iv _=>n-(intOf iv).toNat)
  case atStart=>exact⟨0,none,0,a,b,c,d,[],ah,rfl,rfl,af rfl,af Own.nil,Y⟩
  case round=>
   clear Y;obtain⟨k,A,X,f,E,B,F,ys,hk,rfl,rfl,HY,Q,C⟩:=hrel;have YL:=af (show ys.length=k by have:=PZ l a b c d k;rw[HY.o] at this;exact this);have e0:wr.cell? ⟨w.heap.size,0,none⟩=some (.int .i64 f):=IB.cell C.o.H 0 ay;have e1:wr.cell? ⟨w.heap.size,1,none⟩=some (.int .i64 E):=IB.cell C.o.H 1 ay;have S:wr.cell? ⟨w.heap.size,2,none⟩=some (.int .i64 B):=IB.cell C.o.H 2 ay;have e3:wr.cell? ⟨w.heap.size,3,none⟩=some (.int .i64 F):=IB.cell C.o.H 3 ay;by_cases hlt:k<n
   ·obtain⟨ad,rfl,hadb,c1⟩:=(HR.o.below C.o.bel).at_ (k:=k) iT
    have xb:=gU GL.o k;have gn:=GN.o k;rw[HY.o] at gn;dsimp only at gn;have m:=af (show hiN l a b c d (k+1)=((l.getD k 0,f,hiY f E B F (l.getD k 0),B),ys++[hiY f E B F (l.getD k 0)]) by rw[hiN,HY.o]);obtain⟨x,hx⟩:=ak (l.getD k 0);rw[<-hx] at c1 xb m;unfold hiY yN at*
    obtain⟨N,J⟩:=xb;obtain⟨⟨K,L⟩,⟨g3,g4⟩,⟨g5,g6⟩,g7,g8⟩:=gn;have f0:wr.frozen? ⟨w.heap.size,0,none⟩=false:=Blk.frozen C.o.H 0;have f1:wr.frozen? ⟨w.heap.size,1,none⟩=false:=Blk.frozen C.o.H 1;have f2:wr.frozen? ⟨w.heap.size,2,none⟩=false:=Blk.frozen C.o.H 2;have f3:wr.frozen? ⟨w.heap.size,3,none⟩=false:=Blk.frozen C.o.H 3;clear hx;have hw1:IntKind.i64.wrap (3798*x)=3798*x:=aV;have hw2:IntKind.i64.wrap (7596*f)=7596*f:=aV;have hw3:IntKind.i64.wrap (3798*E)=3798*E:=aV;have I:IntKind.i64.wrap (7807*B)=7807*B:=aV;have hw5:IntKind.i64.wrap (3733*F)=3733*F:=aV;have O:IntKind.i64.wrap (3798*x-7596*f)=3798*x-7596*f:=aV;have u:IntKind.i64.wrap (3798*x-7596*f+3798*E)=3798*x-7596*f+3798*E:=aV;have hw8:IntKind.i64.wrap (3798*x-7596*f+3798*E+7807*B)=3798*x-7596*f+3798*E+7807*B:=aV;have hw9:IntKind.i64.wrap (3798*x-7596*f+3798*E+7807*B-3733*F)=3798*x-7596*f+3798*E+7807*B-3733*F:=aV;have Z:IntKind.i64.wrap (3798*x-7596*f+3798*E+7807*B-3733*F+2048)=3798*x-7596*f+3798*E+7807*B-3733*F+2048:=aV;clear N J K L g3 g4 g5 g6 g7 g8 hR;obtain⟨y,hy⟩:=ak (s16 ((3798*x-7596*f+3798*E+7807*B-3733*F+2048)/4096));rw[<-hy] at m;have KS:=af (fun W=>WO ((3798*x-7596*f+3798*E+7807*B-3733*F+2048)/4096) W);rw[<-hy] at KS;clear hy;obtain⟨w4,I⟩:=ak (((((wr.setCell ⟨w.heap.size,0,none⟩ (.int .i64 x)).setCell ⟨w.heap.size,1,none⟩ (.int .i64 f)).setCell ⟨w.heap.size,2,none⟩ (.int .i64 y)).setCell ⟨w.heap.size,3,none⟩ (.int .i64 B)));have S4:=aj (Hx w w4 [x,f,y,B]) (I▸C.o.set4 x f y B);have O4:=aj (Own w4 (w.heap.size+2) A X ys) (I▸Q.o.set4 (g:=w.heap.size) ah x f y B);have HW4:=af I;have HCN:=aj ((w4.alloc (.cells #[.int .i64 y] 3)).cell? ⟨wr.heap.size,0,none⟩=some (.int .i64 y)) (by rw[show wr.heap.size=w4.heap.size from by rw[I];simp];exact oH w4 _ _);clear I;go_wp2_with(first
     |(go_at_call 59;(with_reducible refine(KS.o _).mono ?_);rintro e w' ⟨rfl,rfl⟩;clear hw1 hw2 hw3 I hw5 O u hw8 hw9 Z)
     |(at_builtin;rw[<-HW4.o];refine wR rfl (.tmp 76) (.tmp 78) rfl (w.heap.size+2) A X k ys rfl YL.o (O4.o.alloc _) ⟨wr.heap.size,0,none⟩ y rfl HCN.o ah (dL S4.o.lt ay) ?_;intro A2 c2 w5 hO hG hA;have O5:=af hO;have G5:=af hG;clear hO hG hA))
    have S5:=af ((S4.o.alloc _).grown (O4.o.alloc _) G5.o);go_wp2;go_roundw;case rel=>exact⟨k+1,A2,c2,_,_,_,_,_,ah,aT,rfl,m,O5,S5⟩
    case measure=>exact aW
   obtain rfl:k=n:=ah;have r0:wr.cell? ⟨w.heap.size+1,0,none⟩=some (.int .i64 0):=IB.cell C.o.R 0 aA;have r1:wr.cell? ⟨w.heap.size+1,1,none⟩=some (.int .i64 0):=IB.cell C.o.R 1 aA;have r2:wr.cell? ⟨w.heap.size+1,2,none⟩=some (.int .i64 0):=IB.cell C.o.R 2 aA;have r3:wr.cell? ⟨w.heap.size+1,3,none⟩=some (.int .i64 0):=IB.cell C.o.R 3 aA;have f0:wr.frozen? ⟨w.heap.size+1,0,none⟩=false:=Blk.frozen C.o.R 0;have f1:wr.frozen? ⟨w.heap.size+1,1,none⟩=false:=Blk.frozen C.o.R 1;have f2:wr.frozen? ⟨w.heap.size+1,2,none⟩=false:=Blk.frozen C.o.R 2;have f3:wr.frozen? ⟨w.heap.size+1,3,none⟩=false:=Blk.frozen C.o.R 3;have j:=af (Blk.drew (IB.set4 C.o.R f E B F));have OR:=af ((Q.o.set4 (g:=w.heap.size+1) ah f E B F).drew.more (base':=w.heap.size) ah);have BR:=af (YH C.o.bel (g:=w.heap.size+1) ah f E B F).drew;go_wp2;go_region;clear e0 e1 S e3 r0 r1 r2 r3 f0 f1 f2 f3;simp only[Exit.then];go_wp2;refine aX (v:=_) (hR _ _ _ 50 [f,E,B,F] _ 4 rfl j.o yT rfl AY rfl) rfl ?_;rw[HY.o];exact⟨A,X,by rw[YL.o];rfl,OR.o,BR.o⟩
 ·have hA:hiA l a b c d n=([0,0,0,0],[],false):=by unfold hiA;rw[if_neg G]
  rw[hA];clear hA;obtain⟨W,hW⟩:=ak ((w.alloc (.cells (agi [a,b,c,d]) 50)).alloc (.cells #[.int .i64 0,.int .i64 0,.int .i64 0,.int .i64 0] 50));rw[<-hW] at K1 K2 V z;have r0:W.cell? ⟨w.heap.size+1,0,none⟩=some (.int .i64 0):=IB.cell z.o.R 0 aA;have r1:W.cell? ⟨w.heap.size+1,1,none⟩=some (.int .i64 0):=IB.cell z.o.R 1 aA;have r2:W.cell? ⟨w.heap.size+1,2,none⟩=some (.int .i64 0):=IB.cell z.o.R 2 aA;have r3:W.cell? ⟨w.heap.size+1,3,none⟩=some (.int .i64 0):=IB.cell z.o.R 3 aA;have f0:W.frozen? ⟨w.heap.size+1,0,none⟩=false:=Blk.frozen z.o.R 0;have f1:W.frozen? ⟨w.heap.size+1,1,none⟩=false:=Blk.frozen z.o.R 1;have f2:W.frozen? ⟨w.heap.size+1,2,none⟩=false:=Blk.frozen z.o.R 2;have f3:W.frozen? ⟨w.heap.size+1,3,none⟩=false:=Blk.frozen z.o.R 3;have j:=af z.o.R;have BR:=af z.o.bel;have D:=af (show tZ w [] [0,0,0,0] (bz false) (.returned (.tuple #[.slice none 0 0,.agg (agi [0,0,0,0]),.int .i64 2])) W from⟨none,0,rfl,Own.nil,BR.o⟩);unfold AX at G;cases U:aG l with
  |false=>
    rw[U] at K1;clear K2 V G z;exact abm
  |true=>
   rw[U] at K1 G;cases K:aG [a,b] with
   |false=>
     rw[K] at K2;clear V G z;exact abm
   |true=>
    rw[K] at K2 G;cases L:aG [c,d] with
    |false=>
     rw[L] at V;clear G z;exact abm
    |true=>rw[L] at G;simp at G
theorem aoB(ps:Lz)(o n:Nat):au ps=au (ps.take o)++(au ((ps.drop o).take n)++au (ps.drop (o+n))):=by
 rw[GV,GV,<-List.drop_drop,vX,vX]
theorem fO:(Tryz.prog.info? 76).map (·.size)=some 4:=aB
theorem aoT:Tryz.zeroCells214=agi (List.replicate 1600 0):=aB
theorem aoU(x:Int)(w:Wd):Cl 200 #[.int .i64 x] w fun e w'=>e=.returned (.int .i64 (sgp x))/\w'=w:=by
 by_cases h:x<0
 ·have Z:=af (show sgp x= -1 by unfold sgp;rw[if_pos h])
  go_enter Tryz.func200,Tryz.ntmps200;exact Nk
 have Z:=af (show sgp x=1 by unfold sgp;rw[if_neg h]);go_enter Tryz.func200,Tryz.ntmps200;exact Nk
theorem aoV(A:Oz)(c:Nat)(ring:Lz)(w:Wd)(z:Rs w w.heap.size A ring)(n:ring.length=40)(B:W64 ring):
 Cl 186 #[.slice A 40 c] w (fun e w'=> ∃L,e=.returned (.pointer (some ⟨w.heap.size,0,none⟩))/\IB w' w.heap.size 214 L/\Tbl L ring 40 0/\Bw w w'):=by
 have D:=af z;have t:=af (fun(W:Wd) (h:Rs W W.heap.size A ring) (a b:Nat) (J:a<40) (N:b<40)=>show Cl 199 #[.slice A 40 c,.int .i64 (a:Nat),.int .i64 (b:Nat)] W (fun e w'=>e=.returned (.tuple #[.int .i64 (en0 ring a b),.int .i64 0])/\Bw W w') from by
  refine(alI A c 40 ring a b W h n B).mono ?_;rintro e w' ⟨rfl,i⟩;have y:xg ring.length (a:Int) (b:Int)=0:=by unfold xg inH;rw[if_pos n];simp;omega
  refine⟨?_,i⟩;rw[y];unfold enV;rw[y,if_pos rfl,anj];rfl)
 have M:=aj (IB (w.alloc (.cells Tryz.zeroCells214 214)) w.heap.size 214 (List.replicate 1600 0)) (by rw[aoT];exact IB.new w _ _);have k:=af (baqq w (.cells Tryz.zeroCells214 214));have m:=af (Tbl.start ring);clear z n B;go_enter Tryz.func186,Tryz.ntmps186;go_wp2;generalize w.alloc (.cells Tryz.zeroCells214 214)=w0 at M k|-;generalize List.replicate 1600 (0:Int)=L0 at M m;go_loopw[8] (fun f wr=> ∃(a:Nat) (L:Lz),a<=40/\f=.int .i64 a/\Hy (IB wr w.heap.size 214 L)/\Hy (Tbl L ring a 0)/\Hy (Bw w wr)) (fun f _=>40-(intOf f).toNat)
 case atStart=>exact⟨0,L0,ah,rfl,M,m,k⟩
 case round=>
  clear M m k;obtain⟨a,L,J,rfl,E,d,H⟩:=hrel;obtain⟨Y,rfl⟩:=ak (wr:Wd);by_cases j:a<40
  ·have v:decide ((a:Int)<40)=true:=aC
   go_wp2;go_loopw[13] (fun f wr=> ∃(b:Nat) (L:Lz),b<=a+1/\f=.int .i64 b/\Hy (IB wr w.heap.size 214 L)/\Hy (Tbl L ring a b)/\Hy (Bw w wr)) (fun f _=>a+1-(intOf f).toNat)
   case atStart=>exact⟨0,L,ah,rfl,E,d,H⟩
   case round=>
    clear E d H;obtain⟨b,L,N,rfl,E,d,H⟩:=hrel;by_cases O:b<a+1
    ·have T:=af (t.o wr ((D.o.below H.o).more H.o.size) a b j ah)
     have P:=af (d.o.set_ j (by omega:b<=a));generalize en0 ring a b=x at*
     go_wp2_with fail;refine T.o.mono ?_;rintro e C ⟨rfl,i⟩;have g:=af (Blk.below' E.o i);have s:=af (aH H.o i);clear i E H T t;have u:=IB.cell g.o (a*40+b) (by rw[d.o.len];omega);have c2:=IB.cell g.o (b*40+a) (by rw[d.o.len];omega);have G:=Blk.frozen g.o (a*40+b);have I:=Blk.frozen g.o (b*40+a);have Q:(a:Int)<40:=ah;have R:(b:Int)<40:=ah;have S:(0:Int)<=a:=ah;have U:(0:Int)<=b:=ah;obtain⟨V,r⟩:=cell?_setCell_some (w:=C) (p:=⟨w.heap.size,a*40+b,none⟩) (x:=.int .i64 x) (q:=⟨w.heap.size,b*40+a,none⟩) c2;obtain⟨X,l⟩:=cell?_setCell_some (w:=C) (p:=⟨w.heap.size,b*40+a,none⟩) (x:=.int .i64 x) (q:=⟨w.heap.size,a*40+b,none⟩) u;have F:=af (IB.set_ (IB.set_ g.o (a*40+b) x) (b*40+a) x);have K:=af ((s.o.setCell (p:=⟨w.heap.size,a*40+b,none⟩) (ax _) (.int .i64 x)).setCell (p:=⟨w.heap.size,b*40+a,none⟩) (ax _) (.int .i64 x));clear g s;go_wp2;go_region;clear u c2 G I r l;go_wp2;go_roundw;case rel=>exact⟨b+1,_,ah,aT,af (Blk.drew F.o),P,af K.o.drew⟩
     case measure=>exact aW
    obtain rfl:b=a+1:=ah;go_wp2;go_roundw;case rel=>exact⟨a+1,L,ah,aT,E,af d.o.next,H⟩
    case measure=>exact aW
  obtain rfl:a=40:=ah;go_wp2;go_ret;exact⟨L,rfl,E.o,d.o,H.o⟩
theorem aoW(A:Oz)(c g:Nat)(d ring h L:Lz)(w:Wd)(U:Rs w w.heap.size A d)(dl:d.length=40)(dw:W64 d)(hL:IB w g 214 L)(F:Tbl L ring 40 0)(K:Ix h):
 Cl 188 #[.slice A 40 c,.pointer (some ⟨g,0,none⟩),.agg (agi h)] w (fun e w'=>e=.returned (.tuple #[.int .i64 (scC d h 4),.int .i64 (scE d ring h)])/\Bw w w'):=by
 have Y:=af (fun(k:Nat) (hk:k<4) (w:Wd)=>jW iO h K.1 k hk w);have BA:=af (baqq w (.cells (agi h) 76));have M:=af (IB.new w 76 h);have HD:=af ((U.below BA.o).more BA.o.size);have HL:=aj (IB (w.alloc (.cells (agi h) 76)) g 214 L) (Blk.alloc hL _);have HT:=af F;have DL:=af dl;have DW:=af dw;have OK:=af K.2;have P:=af K.1;have KS:=af (fun(x:Int) W=>aoU x W);clear U dl dw hL F K;go_enter Tryz.func188,Tryz.ntmps188;go_wp2_with(first
  |(refine aK 76 (.tmp 5) h 4 M.o iO fO P.o ?_))
 obtain⟨V,hV⟩:=ak (w.alloc (.cells (agi h) 76));rw[<-hV] at M HD HL BA|-;clear hV;go_loopw[8,9,17] (fun cv ev iv wr=> ∃(i:Nat) (e:Int),i<=4/\iv=.int .i64 i/\cv=.int .i64 (scC d h i)/\ev=.int .i64 e/\Hy (e=aN (scR d ring h) i)/\Hy (Bw V wr)) (fun _ _ iv _=>4-(intOf iv).toNat)
 case atStart=>exact⟨0,0,ah,rfl,rfl,rfl,af rfl,af (aP _ _)⟩
 case round=>
  obtain⟨i,e,hi,rfl,rfl,rfl,HE,H⟩:=hrel;by_cases hlt:i<4
  ·have hI:=Y.o i hlt
   have p:=qZ OK.o i;obtain⟨q,hq⟩:=gI p.1;have E:=tY OK.o hlt;have hpl:(i:Int)+4*(q:Nat)=(plc h i:Nat):=vZ;have SC:=aj (scC d h (i+1)=IntKind.i64.wrap (scC d h i+IntKind.i64.wrap (sg d h i*d.getD (plc h i) 0))) (rfl);have SE:=af (show aN (scR d ring h) (i+1)=e+scR d ring h i by rw[HE.o];rfl);have er:=aeq d ring h i ah;rw[<-HE.o] at er;have e1: -687194767360<=e:=er.1;have S:e<=687194767360:=er.2;rw[hq] at hI p;have l:=aj (sg d h i=sgp (d.getD (plc h i) 0)) (rfl);have ST:=af (fun j=>show scT d ring h i j=sg d h i*sg d h j*en0 ring (plc h i) (plc h j) from rfl);have SR:=aj (scR d ring h i=aN (scT d ring h i) 4) (rfl);have SB:=af (fun j hj=>aep d ring h i j hj);have I1:=af (Blk.below' M.o H.o);have n:=af ((HD.o.below H.o).more H.o.size);have D:=af (Blk.below' HL.o H.o);obtain⟨a,ha⟩:=ak (plc h i);rw[<-ha] at hpl E SC l ST;obtain⟨ad,rfl,hadb,Q⟩:=n.o.at_ (k:=a) uS;obtain⟨x,K⟩:=ak (d.getD a 0);rw[<-K] at Q SC l;have T:=af (fun W=>KS.o x W);obtain⟨s,Z⟩:=ak (sgp x);rw[<-Z] at T l;rw[l.o] at SC ST;have s2:s=1\/s= -1:=(by rw[Z];exact Yl x);have HA:=af ha;have HQ:=af hq;have C:=af Z;have HX:=af K;have S2:=af s2;generalize scC d h i=cc at*
   have q9:(q:Int)<=9:=p.2;have a40:(a:Int)<40:=ah;have a0:(0:Int)<=a:=ah;have I:IntKind.i64.wrap (4*(q:Int))=4*(q:Int):=aV;have hdec:decide ((i:Int)<4)=true:=aC;clear p ha hq Z K er s2 HD HL;obtain⟨R,hwo⟩:=ak (wr:Wd);rw[<-hwo] at I1 n D H Q|-;clear hwo;go_wp2;go_quiet ((go_at_call 200;(with_reducible exact oW (T.o _))));rename_i nq;have I2:=aj (IB (R.drewN nq) w.heap.size 76 h) (I1.o);have B2:=af (aH H.o (jL R nq));have D2:=aj (Rs (R.drewN nq) (R.drewN nq).heap.size (some ad) d) (n.o);have O:=aj (IB (R.drewN nq) g 214 L) (D.o);clear I1 H n D Q;generalize R.drewN nq=w2 at*
   go_wp2_with(first
    |(refine aK 76 (.tmp 5) h 4 I2.o iO fO P.o ?_))
   go_loopw[9,38] (fun ev jv wr=> ∃(j:Nat) (f:Int),j<=4/\jv=.int .i64 j/\ev=.int .i64 f/\Hy (f=e+aN (scT d ring h i) j)/\Hy (Bw V wr)/\Hy (Rs wr wr.heap.size (some ad) d)/\Hy (IB wr g 214 L)) (fun _ jv _=>4-(intOf jv).toNat)
   case atStart=>exact⟨0,e,ah,rfl,rfl,af (by simp[aN]),B2,D2,O⟩
   case round=>
    clear B2 D2 O I2;obtain⟨j,f,hj,rfl,rfl,HF,H,n,D⟩:=hrel;by_cases G:j<4
    ·have hJ:=Y.o j G
     have p:=qZ OK.o j;obtain⟨r,hr⟩:=gI p.1;have pb:=tY OK.o G;have hpj:(j:Int)+4*(r:Nat)=(plc h j:Nat):=(by unfold plc;rw[hr];push_cast;rfl);rw[hr] at hJ p;have SJ:=aj (sg d h j=sgp (d.getD (plc h j) 0)) (rfl);have er:=aeo ring a (plc h j);have TJ:=ST.o j;have CT:=IB.cell D.o (a*40+plc h j) (by rw[HT.o.len];omega);rw[HT.o.get E pb] at CT;obtain⟨b,hb⟩:=ak (plc h j);rw[<-hb] at hpj pb SJ er TJ CT;obtain⟨t,v,_,Q⟩:=n.o.at_ (k:=a) uS;obtain⟨ad3,m,_,c1⟩:=n.o.at_ (k:=b) (by rw[DL.o];exact pb);injection v with v;injection m with m;subst v;subst m;rw[<-HX.o] at Q;obtain⟨y,hy⟩:=ak (d.getD b 0);rw[<-hy] at c1 SJ;have KY:=af (fun W=>KS.o y W);obtain⟨u,hu⟩:=ak (sgp y);rw[<-hu] at KY SJ;rw[SJ.o] at TJ;have u2:u=1\/u= -1:=(by rw[hu];exact Yl y);have s2:=S2.o;generalize en0 ring a b=z at*
     have p1:s*u=1\/s*u= -1:=(by rcases s2 with rfl|rfl<;>rcases u2 with rfl|rfl<;>decide);have p2:=PD p1 er;have SB1:=SB.o j ah;have NF:=af (show f+s*u*z=e+aN (scT d ring h i) (j+1) by rw[HF.o,aN,TJ];omega);have hf:=HF.o;have hw1:IntKind.i64.wrap (s*u)=s*u:=aV;have hw2:IntKind.i64.wrap (s*u*z)=s*u*z:=aV;have hw3:IntKind.i64.wrap (f+s*u*z)=f+s*u*z:=aV;have hw4:IntKind.i64.wrap (4*(r:Int))=4*(r:Int):=aV;have r9:(r:Int)<=9:=p.2;have b40:(b:Int)<40:=ah;have b0:(0:Int)<=b:=ah;have HBB:=af hb;have HY:=af hy;have HU:=af hu;clear p hb hy hu er u2 s2 p1 p2 SB1 hf hr;obtain⟨B,J⟩:=ak (wr:Wd);rw[<-J] at n D H Q c1 CT|-;clear J;go_wp2;go_quiet ((go_at_call 200;first|(with_reducible exact oW (T.o _))|(with_reducible exact oW (KY.o _))));have B3:=af (fun N=>aH H.o (jL B N));have D3:=af (fun N=>show Rs (B.drewN N) (B.drewN N).heap.size (some ad) d from n.o);have X:=af (fun N=>show IB (B.drewN N) g 214 L from D.o);clear H n D Q c1 CT hw1 hw2 hw3;go_wp2;go_roundw;case rel=>exact⟨j+1,_,ah,aT,rfl,NF,af (B3.o _),af (D3.o _),af (X.o _)⟩
     case measure=>exact aW
    obtain rfl:j=4:=ah;have NE:=af (show f=aN (scR d ring h) (i+1) by rw[HF.o,SE.o,SR.o]);go_wp2;go_roundw;case rel=>exact⟨i+1,f,ah,aT,by rw[SC.o];first|rfl|(simp only[wrap64,mM]),rfl,NE,H⟩
    case measure=>exact aW
  obtain rfl:i=4:=ah;go_wp2;go_ret2;exact⟨by rw[HE.o];rfl,aH BA.o H.o⟩
structure Onl(g:Nat)(w w':Wd):Prop where
 b:Below g w w'
 keep:∀k,g+5<=k->k<w.heap.size->w'.heap[k]?=w.heap[k]?
section
variable {g:Nat} {w w1 w2:Wd}
theorem Onl.trans(h:Onl g w w1)(k:Onl g w1 w2):Onl g w w2:=⟨h.b.trans k.b,fun j a c=>(k.keep j a (je c h.b.size)).trans (h.keep j a c)⟩
theorem Onl.of_below(G:g<=w.heap.size)(a:Bw w w1):Onl g w w1:=⟨a.mono G,fun j _ b=>a.block j b⟩
theorem Onl.setCell(h:Onl g w w1)(a:g<=p.block)(e:p.block<g+5)(v:Value):Onl g w (w1.setCell p v):=
 ⟨h.b.setCell a v,fun j c d=>(lV w1 p v j ah).trans (h.keep j c d)⟩
theorem Onl.setRow(h:Onl g w w1){b:Nat}(c:g<=b)(f:b<g+5)(a:Array Value):Onl g w (w1.setRow b a):=
 ⟨aS h.b c a,fun j d e=>(oz w1 b j a ah).trans (h.keep j d e)⟩
theorem Onl.blk{k:Nat}{d:Array Value}(h:Onl g w w1)(c:Blk w k t d)(a:k<g\/g+5<=k):Blk w1 k t d:=by
 rcases a with a|a
 ·exact Blk.below c h.b a
 exact(h.keep k a (Blk.lt c)).trans c
end
structure Sst(g gd:Nat)(A:Oz)(c gt:Nat)(L d:Lz)(s:Bst)(w:Wd):Prop where
 D:Blk w gd 26 #[.slice A 40 c]
 R:Rs w g A d
 T:Blk w g 197 #[.pointer (some ⟨gt,0,none⟩)]
 L_:IB w gt 214 L
 X:IB w (g+1) 76 s.at_
 F:Blk w (g+2) 4 #[.bool s.first]
 C:Blk w (g+3) 3 #[.int .i64 s.c]
 E:Blk w (g+4) 3 #[.int .i64 s.e]
 lt1:gd<g
 lt2:gt<g
section
variable {g gd gt c:Nat} {A:Oz} {L d:Lz} {s:Bst} {w w':Wd}
theorem Sst.lt(S:Sst g gd A c gt L d s w):g+5<=w.heap.size:=Blk.lt S.E
theorem Sst.below(S:Sst g gd A c gt L d s w)(a:Bw w w'):Sst g gd A c gt L d s w':=
 ⟨Blk.below' S.D a,S.R.below' Vm a,Blk.below' S.T a,Blk.below' S.L_ a,Blk.below' S.X a,Blk.below' S.F a,Blk.below' S.C a,Blk.below' S.E a,S.lt1,S.lt2⟩
theorem Sst.alloc(S:Sst g gd A c gt L d s w)(o:Obj):Sst g gd A c gt L d s (w.alloc o):=S.below (baqq _ o)
theorem Sst.setFar(S:Sst g gd A c gt L d s w)(e:g+5<=p.block)(v:Value):Sst g gd A c gt L d s (w.setCell p v):=by
 have a:=S.lt1;have b:=S.lt2;exact⟨Blk.far S.D ah v,S.R.below ((aP _ _).setCell ah v),Blk.far S.T ah v,Blk.far S.L_ ah v,Blk.far S.X ah v,Blk.far S.F ah v,Blk.far S.C ah v,Blk.far S.E ah v,a,b⟩
theorem Sst.rowFar(S:Sst g gd A c gt L d s w){b:Nat}(h:g+5<=b)(a:Array Value):Sst g gd A c gt L d s (w.setRow b a):=by
 have e:=S.lt1;have f:=S.lt2;exact⟨Blk.rowFar S.D ah,S.R.below (aS (aP _ _) ah a),Blk.rowFar S.T ah,Blk.rowFar S.L_ ah,Blk.rowFar S.X ah,Blk.rowFar S.F ah,Blk.rowFar S.C ah,Blk.rowFar S.E ah,e,f⟩
theorem Sst.put(S:Sst g gd A c gt L d s w)(x:Lz)(C E:Int):
 Sst g gd A c gt L d ⟨x,false,C,E⟩ ((((w.setRow (g+1) (agi x)).setCell ⟨g+3,0,none⟩ (.int .i64 C)).setCell ⟨g+4,0,none⟩ (.int .i64 E)).setCell ⟨g+2,0,none⟩ (.bool false)):=by
 have a:=S.lt1;have e:=S.lt2;have q:∀(k b:Nat),k≠b->k≠(⟨b,0,none⟩:Addr).block:=fun k b h=>h;refine⟨?_,?_,?_,?_,?_,?_,?_,?_,a,e⟩
 ·exact((Blk.rowFar S.D ah).far (q _ _ ah) _).far (q _ _ ah) _|>.far (q _ _ ah) _
 ·exact S.R.below ((((aS (aP _ _) ah _).setCell (p:=⟨g+3,0,none⟩) (by show g<=g+3;omega) _).setCell (p:=⟨g+4,0,none⟩) (by show g<=g+4;omega) _).setCell (p:=⟨g+2,0,none⟩) (by show g<=g+2;omega) _)
 ·exact((Blk.rowFar S.T ah).far (q _ _ ah) _).far (q _ _ ah) _|>.far (q _ _ ah) _
 ·exact((Blk.rowFar S.L_ ah).far (q _ _ ah) _).far (q _ _ ah) _|>.far (q _ _ ah) _
 ·exact((IB.setRow S.X x).far (q _ _ ah) _).far (q _ _ ah) _|>.far (q _ _ ah) _
 ·have h:=Blk.set_ (((Blk.rowFar (c2:=agi x) (g:=g+1) S.F ah).far (q _ (g+3) ah) (.int .i64 C)).far (q _ (g+4) ah) (.int .i64 E)) 0 (.bool false)
  exact h
 ·have h:=(Blk.set_ (Blk.rowFar (c2:=agi x) (g:=g+1) S.C ah) 0 (.int .i64 C)).far (q _ (g+4) ah) (.int .i64 E)|>.far (q _ (g+2) ah) (.bool false)
  exact h
 ·have h:=(Blk.set_ ((Blk.rowFar (c2:=agi x) (g:=g+1) S.E ah).far (q _ (g+3) ah) (.int .i64 C)) 0 (.int .i64 E)).far (q _ (g+2) ah) (.bool false)
  exact h
theorem Onl.put(G:Onl g w w')(x:Lz)(C E:Int):
 Onl g w ((((w'.setRow (g+1) (agi x)).setCell ⟨g+3,0,none⟩ (.int .i64 C)).setCell ⟨g+4,0,none⟩ (.int .i64 E)).setCell ⟨g+2,0,none⟩ (.bool false)):=
 (((G.setRow (b:=g+1) ah ah _).setCell (p:=⟨g+3,0,none⟩) (by show g<=g+3;omega) (by show g+3<g+5;omega) _).setCell (p:=⟨g+4,0,none⟩) (by show g<=g+4;omega) (by show g+4<g+5;omega) _).setCell (p:=⟨g+2,0,none⟩) (by show g<=g+2;omega) (by show g+2<g+5;omega) _
end
theorem aoX(g gd gt c:Nat)(A:Oz)(L d ring x:Lz)(s:Bst)(w:Wd)(S:Sst g gd A c gt L d s w)(X:d.length=40)(Y:W64 d)(hT:Tbl L ring 40 0)(N:Ix x)(Z:s.at_.length=4)
 (n:(-9223372036854775808<=s.c/\s.c<=9223372036854775807)/\ -9223372036854775808<=s.e/\s.e<=9223372036854775807):
 Cl 187 #[.agg (agi x),.pointer (some ⟨gd,0,none⟩),.pointer (some ⟨g,0,none⟩),.pointer (some ⟨g+2,0,none⟩),.pointer (some ⟨g+3,0,none⟩),.pointer (some ⟨g+4,0,none⟩),.pointer (some ⟨g+1,0,none⟩)] w
  (fun e w'=>e=.returned (.tuple #[])/\Sst g gd A c gt L d (gZ d ring s x) w'/\Onl g w w'):=by
 have O:=af (fun W (h:Rs W W.heap.size A d) (hL:IB W gt 214 L)=>aoW A c gt d ring x L W h X Y hL hT N);have P:=af N.1;have m:=af Z;have er:=Yn d ring x;have M:=Yo d x 4;have r:=aj (gZ d ring s x=if s.first||jy (scC d x 4) (scE d ring x) s.c s.e then⟨x,false,scC d x 4,scE d ring x⟩ else s) (rfl);generalize scC d x 4=C at*
 generalize scE d ring x=E at*
 have B:=af (fun W=>aeb C E s.c s.e W M.1 M.2 ah ah n.1.1 n.1.2 n.2.1 n.2.2);have H:=af (IB.new w 76 x);have t:=af (S.alloc (.cells (agi x) 76));have Q:=af (Onl.of_below (g:=g) Vm (baqq w (.cells (agi x) 76)));clear S X Y hT N Z n er M;have cD:(w.alloc (.cells (agi x) 76)).cell? ⟨gd,0,none⟩=some (.slice A 40 c):=Blk.cell t.o.D 0;have cT:(w.alloc (.cells (agi x) 76)).cell? ⟨g,0,none⟩=some (.pointer (some ⟨gt,0,none⟩)):=Blk.cell t.o.T 0;have V:=af (t.o.R.more (show g<=(w.alloc (.cells (agi x) 76)).heap.size by have:=t.o.lt;omega));go_enter Tryz.func187,Tryz.ntmps187;go_wp2_with(first
  |(refine aK 76 (.tmp 7) x 4 H.o iO fO P.o ?_))
 refine(O.o _ V.o t.o.L_).mono ?_;rintro e w1 ⟨rfl,q⟩;have u:=af (t.o.below q);have y:=af (Blk.below' H.o q);have v:=af (Q.o.trans (Onl.of_below (by have:=t.o.lt;omega) q));clear q t H Q V cD cT O;have p:w1.cell? ⟨g+2,0,none⟩=some (.bool s.first):=Blk.cell u.o.F 0;by_cases z:s.first=true
 ·rw[z] at p r
  have r:=af (show gZ d ring s x=⟨x,false,C,E⟩ by rw[r.o];rfl);obtain⟨a,i⟩:=ak (w1);rw[<-i] at u y v p|-;obtain⟨f,QX,k⟩:Hy (Sst g gd A c gt L d s a)/\Hy (IB a w.heap.size 76 x)/\Hy (Onl g w a):=⟨u,y,v⟩;exact ahJ
 have z:s.first=false:=by simpa using z
 rw[z] at p r;have J:w1.cell? ⟨g+3,0,none⟩=some (.int .i64 s.c):=Blk.cell u.o.C 0;have K:w1.cell? ⟨g+4,0,none⟩=some (.int .i64 s.e):=Blk.cell u.o.E 0;obtain⟨b,hb⟩:=ak (jy C E s.c s.e);rw[<-hb] at B r;clear hb;go_wp2_with fail;refine(B.o w1).mono ?_;rintro e w2 ⟨rfl,q⟩;have I:=af (u.o.below q);have U:=af (Blk.below' y.o q);have G:=af (v.o.trans (Onl.of_below (by have:=u.o.lt;omega) q));clear q u y v p J K B;rcases ag4 b with rfl|rfl
 ·have r:=af (show gZ d ring s x=⟨x,false,C,E⟩ by rw[r.o];rfl)
  obtain⟨a,i⟩:=ak (w2);rw[<-i] at I U G|-;obtain⟨f,QX,k⟩:Hy (Sst g gd A c gt L d s a)/\Hy (IB a w.heap.size 76 x)/\Hy (Onl g w a):=⟨I,U,G⟩;exact ahJ
 ·have r:=af (show gZ d ring s x=s by rw[r.o];rfl)
  go_wp2;go_end0
  exact⟨rfl,by rw[r.o];exact I.o,G.o⟩
def QB(g a:Nat):Value:=.func (.func 187) #[] #[.pointer (some ⟨a,0,none⟩),.pointer (some ⟨g,0,none⟩),.pointer (some ⟨g+2,0,none⟩),.pointer (some ⟨g+3,0,none⟩),.pointer (some ⟨g+4,0,none⟩),.pointer (some ⟨g+1,0,none⟩)]
def JJ(s:Bst):Prop:=(-9223372036854775808<=s.c/\s.c<=9223372036854775807)/\ -9223372036854775808<=s.e/\s.e<=9223372036854775807
def QC(w:Wd)(p:Addr):Nat:=match w.cell? p with
 |some v=>(intOf v).toNat
 |none=>0
theorem afR{x:Int}(h:w.cell? p=some (.int .i64 x)):QC w p=x.toNat:=by unfold QC;rw[h];rfl
theorem QD(h:now.length=4)(t p:Nat):(lJ now t p).length=4:=by unfold lJ;rw[fP];exact h
theorem Zj(h:now.length=4){t:Nat}(F:t<4)(p:Nat):(lJ now t p).getD t 0=p:=by unfold lJ;rw[gQ _ _ _ ah]
theorem aoY(now:Lz)(t p q:Nat):(lJ now t p).set t (q:Int)=lJ now t q:=by unfold lJ;rw[Su]
theorem aoZ(g n gt Y f c t:Nat)(A:Oz)(L d ring now:Lz)(a:Bst)(w:Wd)(S:Sst g n A c gt L d a w)(dl:d.length=40)(dw:W64 d)(hT:Tbl L ring 40 0)(Z:Ix a.at_)(h:JJ a)
 (hn:IB w Y 76 now) (hq:Blk w f 3 #[.int .i64 (t:Nat)]) (ln:Y<g) (lq:f<g) (r:Ix now) (F:t<4):
 Cl 152 #[QB g n,.pointer (some ⟨Y,0,none⟩),.pointer (some ⟨f,0,none⟩)] w (fun e w'=>e=.returned (.tuple #[])/\Sst g n A c gt L d ((jH now t 10).foldl (gZ d ring) a) w'/\Onl g w w'):=by
 have KB:=af (fun W x s (S:Sst g n A c gt L d s W) (r:Ix x) (Z:Ix s.at_) (h:JJ s)=>aoX g n gt c A L d ring x s W S dl dw hT r Z.1 h);have D:=af S.lt;have C:=af Z;have O:=af h;have HX:=af r;have HN:=af hn;have HQ:=af hq;have S0:=af S;have T:=af r.1;have G:=aj (IB ((w.alloc (.cells (agi Z4) 76)).setRow w.heap.size (agi now)) w.heap.size 76 now) (IB.setRow (IB.new w _ Z4) now);have U:=af ((S.alloc (.cells (agi Z4) 76)).rowFar (b:=w.heap.size) S.lt (agi now));have E:=af (show Onl g w ((w.alloc (.cells (agi Z4) 76)).setRow w.heap.size (agi now)) from⟨aS ((aP _ _).alloc Vm _) Vm _,fun j N H=>(oz _ _ j _ ah).trans (QT w _ j H)⟩);obtain⟨u,i⟩:=ak ((w.alloc (.cells (agi Z4) 76)).setRow w.heap.size (agi now));rw[<-i] at G U E;rw[show agi Z4= #[.int .i64 0,.int .i64 0,.int .i64 0,.int .i64 0] from rfl] at i;have P:=af i;have q:=aj (Blk u f 3 #[.int .i64 (t:Nat)]) (E.o.blk hq (.inl lq));have J:u.cell? ⟨f,0,none⟩=some (.int .i64 (t:Nat)):=Blk.cell q.o 0;have m:=IB.cell G.o t (by rw[r.1];exact F);have K:=Blk.frozen G.o t;have t4:(t:Int)<4:=ah;have t0:(0:Int)<=t:=ah;have v:=af lq;clear S dl dw hT Z h r hn hq i;unfold QB;have X:=aj (IB (u.setCell ⟨w.heap.size,t,none⟩ (.int .i64 0)) w.heap.size 76 (lJ now t 0)) (IB.set_ G.o t 0);have V:=af (U.o.setFar (p:=⟨w.heap.size,t,none⟩) (by show g+5<=w.heap.size;exact D.o) (.int .i64 0));have R:=af (show Onl g w (u.setCell ⟨w.heap.size,t,none⟩ (.int .i64 0)) from⟨E.o.b.setCell (by show g<=w.heap.size;have:=D.o;omega) _,fun j N H=>(lV u _ _ j (by show j≠w.heap.size;omega)).trans (E.o.keep j N H)⟩);go_enter Tryz.func152,Tryz.ntmps152;go_wp2_with(first
  |(refine aK 76 (.tmp 1) now 4 HN.o iO fO T.o ?_)
  |(refine aQ 76 (.tmp 4) (.tmp 5) Z4 now 4 (IB.new w _ Z4) fO rfl T.o ?_;rw[<-P.o]))
 generalize u.setCell ⟨w.heap.size,t,none⟩ (.int .i64 0)=w2 at X V R|-;clear G U E q J m K S0;go_loopw[] (fun wr=> ∃p:Nat,p<=10/\Hy (IB wr w.heap.size 76 (lJ now t p))/\Hy (Sst g n A c gt L d ((jH now t p).foldl (gZ d ring) a) wr)/\Hy (Onl g w wr)) (fun wr=>10-QC wr ⟨w.heap.size,t,none⟩)
 case atStart=>exact⟨0,ah,X,V,R⟩
 case round=>
  clear X V R;obtain⟨p,hp,z,l,Q⟩:=hrel;have q:=aj (Blk wr f 3 #[.int .i64 (t:Nat)]) (Q.o.blk HQ.o (.inl v.o));have J:wr.cell? ⟨f,0,none⟩=some (.int .i64 (t:Nat)):=Blk.cell q.o 0;have m:=IB.cell z.o t (by rw[QD T.o];exact F);rw[Zj T.o F] at m;have K:=Blk.frozen z.o t;have MW:=af (afR m);by_cases hlt:p<10
  ·have B:=af (KB.o wr (lJ now t p) ((jH now t p).foldl (gZ d ring) a) l.o (aet HX.o hlt) (Jq C.o (PO HX.o t ah)) (Yr O.o))
   have NF:=af (show(jH now t (p+1)).foldl (gZ d ring) a=gZ d ring ((jH now t p).foldl (gZ d ring) a) (lJ now t p) by rw[aes,List.foldl_append];rfl);have XL:=af (QD T.o t p);have XS:=af (aoY now t p (p+1));have XA:=af (Zj T.o F p);generalize (jH now t p).foldl (gZ d ring) a=sn at*
   go_wp2_with(refine aK 76 (.tmp 4) (lJ now t p) 4 z.o iO fO XL.o ?_);refine B.o.mono ?_;rintro e k ⟨rfl,hS,M⟩;have N1:=af (show Sst g n A c gt L d ((jH now t (p+1)).foldl (gZ d ring) a) k by rw[NF.o];exact hS);have N2:=af (Q.o.trans M);have N3:=aj (IB k w.heap.size 76 (lJ now t p)) (M.blk z.o (.inr D.o));have N4:=aj (Blk k f 3 #[.int .i64 (t:Nat)]) (M.blk q.o (.inl v.o));clear hS M B l Q z J m K q;have J:k.cell? ⟨f,0,none⟩=some (.int .i64 (t:Nat)):=Blk.cell N4.o 0;have m:=IB.cell N3.o t (by rw[XL.o];exact F);rw[XA.o] at m;have K:=Blk.frozen N3.o t;have I:=aj (IB (k.setCell ⟨w.heap.size,t,none⟩ (.int .i64 ((p:Int)+1))) w.heap.size 76 (lJ now t (p+1))) (by rw[<-XS.o];exact IB.set_ N3.o t ((p+1:Nat):Int));have M2:=af (N1.o.setFar (p:=⟨w.heap.size,t,none⟩) (by show g+5<=w.heap.size;exact D.o) (.int .i64 ((p:Int)+1)));have y:=af (show Onl g w (k.setCell ⟨w.heap.size,t,none⟩ (.int .i64 ((p:Int)+1))) from⟨N2.o.b.setCell (by show g<=w.heap.size;have:=D.o;omega) _,fun j N H=>(lV k _ _ j (by show j≠w.heap.size;omega)).trans (N2.o.keep j N H)⟩);have MC:=aj (QC (k.setCell ⟨w.heap.size,t,none⟩ (.int .i64 ((p:Int)+1))) ⟨w.heap.size,t,none⟩=p+1) (by
    have h1:=IB.cell I.o t (by rw[QD T.o];exact F);rw[Zj T.o F] at h1;exact afR h1)
   go_wp2;go_roundw;case rel=>exact⟨p+1,ah,I,M2,y⟩
   case measure=>rw[MC.o,MW.o];omega
  obtain rfl:p=10:=ah;go_wp2;go_end0
  exact⟨rfl,l.o,Q.o⟩
theorem afT(x:Int)(w:Wd):Cl 204 #[.int .i64 x] w fun e w'=>e=.returned (.int .i64 (s16 x))/\w'=w:=by
 by_cases b:32767<x
 ·have Z:=aj (s16 x=32767) (aaN)
  have a:min x 32767=32767:=ah;go_enter Tryz.func204,aaA;exact Nk
 by_cases c:x< -32768
 ·have Z:=aj (s16 x= -32768) (aaN)
  have a:min x 32767=x:=ah;have J:max x (-32768)= -32768:=ah;go_enter Tryz.func204,aaA;exact Nk
 have Z:=aj (s16 x=x) (aaN);have a:min x 32767=x:=ah;have J:max x (-32768)=x:=ah;go_enter Tryz.func204,aaA;exact Nk
theorem xC:∀{l:Lz} (_:l.length=4),∃a b c d,l=[a,b,c,d]
 |[a,b,c,d],_=>⟨a,b,c,d,rfl⟩
def jl(d ring a:Lz)(t k:Nat):Lz:=(List.range 40).map (fun j=>if j<k then hrd d ring a (t+1) j else hrd d ring a t j)
theorem pW(d ring a:Lz)(t k:Nat):(jl d ring a t k).length=40:=by simp[jl]
theorem afU(d ring a:Lz)(t j:Nat):hrd d ring a (t+1) j=hrd d ring a t j+sg d a t*jc ring (plc a t) j:=rfl
theorem ao0(d ring a:Lz)(t:Nat){k:Nat}(b:k<40):(jl d ring a t k).getD k 0=hrd d ring a t k:=by
 unfold jl;rw[bJ _ b,if_neg ah]
theorem ao1(d ring a:Lz){t k:Nat}(b:k<40)(h:plc a t<=k):(jl d ring a t k).set k (hrd d ring a t k+sg d a t*s16 (ring.getD (k-plc a t) 0))=jl d ring a t (k+1):=by
 refine dM (by rw[fP,pW,pW]) fun j hj=>?_;rw[fP,pW] at hj;by_cases e:k=j
 ·subst e
  rw[gQ _ _ _ (by rw[pW];exact b)];unfold jl;rw[bJ _ hj,if_pos ah,afU];unfold jc;rw[if_pos h]
 rw[gV _ _ e];unfold jl;exact GH
theorem ao2(d ring a:Lz)(t:Nat):jl d ring a t (plc a t)=jl d ring a t 0:=by
 refine dM (by rw[pW,pW]) fun j b=>?_;rw[pW] at b;unfold jl;rw[bJ _ b,bJ _ b,if_neg (by omega: ¬j<0)];by_cases h:j<plc a t
 ·rw[if_pos h,afU]
  unfold jc;rw[if_neg ah];omega
 rw[if_neg h]
theorem ao3(d ring b:Lz)(t:Nat):jl d ring b t 40=jl d ring b (t+1) 0:=by
 refine dM (by rw[pW,pW]) fun j a=>?_;rw[pW] at a;unfold jl;rw[bJ _ a,bJ _ a,if_pos a,if_neg ah]
theorem ao4(d ring b:Lz):jl d ring b 0 0=List.replicate 40 0:=by
 refine dM (by rw[pW];simp) fun j a=>?_;rw[pW] at a;unfold jl;rw[bJ _ a,if_neg ah,DC];rfl
theorem ao5(d ring a:Lz)(t:Nat){j:Nat}(b:j<40):(jl d ring a t 0).getD j 0=hrd d ring a t j:=by
 unfold jl;rw[bJ _ b,if_neg ah]
def ScAns(d ring a:Lz)(w:Wd)(e:Ending)(w':Wd):Prop:=e=.returned (.tuple #[.int .i64 (PI d ring a),.int .i64 (PK d ring a),.int .i64 (nU d ring a)])/\Bw w w'
theorem ScAns.bad{d ring b:Lz}{w':Wd}{er:Int}(e:nU d ring b=er)(a:er≠0)(c:Bw w w'):ScAns d ring b w (.returned (.tuple #[.int .i64 0,.int .i64 0,.int .i64 er])) w':=
 ⟨by unfold PI PK;rw[e,if_neg a,if_neg a],c⟩
theorem ScAns.good{d ring:Lz}{w':Wd}(c:nU d ring a=0)(b:Bw w w'):ScAns d ring a w (.returned (.tuple #[.int .i64 (scC d a 4),.int .i64 (scE d ring a),.int .i64 0])) w':=
 ⟨by unfold PI PK;rw[c,if_pos rfl,if_pos rfl],b⟩
theorem ao6(A A2:Oz)(c c2 n1 n2:Nat)(d ring ix:Lz)(w:Wd)(U:Rs w w.heap.size A d)(hr:Rs w w.heap.size A2 ring)(l1:d.length=n1)(l2:ring.length=n2)(dw:W64 d)(rw_:W64 ring)(hx:ix.length=4):
 Cl 195 #[.slice A n1 c,.slice A2 n2 c2,.agg (agi ix)] w (ScAns d ring ix w):=by
 have BA:=af (baqq w (.cells (agi ix) 76));have FB:=af (fun(er:Int) (he:nU d ring ix=er) (h0:er≠0) w' (hB:Bw w w')=>ScAns.bad he h0 hB);by_cases hl:n1=40;rotate_left
 ·have HE:=af (show nU d ring ix=1 by unfold nU;rw[if_neg ah])
  have d0:((n1:Int) !=40)=true:=aC;have d1: ¬(n1:Int)=40:=ah;clear hl l1 l2 U hr;exact ajb
 subst hl;by_cases hl2:n2=40;rotate_left
 ·have HE:=af (show nU d ring ix=1 by unfold nU;rw[if_neg ah])
  have d0:((n2:Int) !=40)=true:=aC;have d1: ¬(n2:Int)=40:=ah;clear hl2 l1 l2 U hr;exact ajb
 subst hl2;have HE:=af (show nU d ring ix=if tX ix then 0 else 2 by unfold nU;rw[if_pos ⟨l1,l2⟩]);have HIX:=af (fun(k:Nat) (hk:k<4) (w:Wd)=>jW iO ix hx k hk w);have M:=af (IB.new w 76 ix);have HD:=af ((U.below BA.o).more BA.o.size);have HR:=af ((hr.below BA.o).more BA.o.size);have DL:=af l1;have RL:=af l2;have P:=af hx;have DW:=af dw;have RW:=af rw_;obtain⟨V,hV⟩:=ak (w.alloc (.cells (agi ix) 76));rw[<-hV] at M HD HR BA;have HV:=af hV;clear hV hx U hr l1 l2 dw rw_;go_enter Tryz.func195,Tryz.ntmps195;go_wp2_with(first|rw[<-HV.o]|(refine aK 76 (.tmp 5) ix 4 M.o iO fO P.o ?_));go_loop [30] (fun J=> ∃i:Nat,i<=4/\J=.int .i64 i/\Hy (allTo (fun p=>decide (0<=p/\p<=9)) ix i)) (fun J=>4-(intOf J).toNat)
 case atStart=>exact⟨0,ah,rfl,af allTo.zero⟩
 case round=>
  obtain⟨i,hi,rfl,HY⟩:=hrel;by_cases T:i<4
  ·have hI:=HIX.o i T
   obtain⟨x,hx⟩:=ak (ix.getD i 0);rw[<-hx] at hI;by_cases hb:x<0\/9<x
   ·have X:=af (show nU d ring ix=2 by rw[HE.o,show tX ix=false from jb (i:=i) (by rw[P.o];exact T) UB];rfl)
    clear hx;rcases hb with hb|hb
    ·have e1:decide (x<0)=true:=Nb
     go_wp2;go_ret3
     exact FB.o _ X.o aA _ BA.o
    have e1:decide (x<0)=false:=aC;have S:decide (10<=x)=true:=aC;have e3:decide (9<x)=true:=aC;go_wp2;go_ret3
    exact FB.o _ X.o aA _ BA.o
   have HN:=af (HY.o.succ UB);have e1:decide (x<0)=false:=aC;have S:decide (10<=x)=false:=aC;have e3:decide (9<x)=false:=aC;clear hb hx;go_wp2;go_round;case rel=>exact⟨i+1,ah,aT,HN⟩
   case measure=>exact aW
  obtain rfl:i=4:=ah;have OK:=aj (tX ix=true) (HY.o.all (by rw[P.o];exact ax _));have X:=af (show nU d ring ix=0 by rw[HE.o,OK.o];rfl);clear HY HE;have HG:=af (fun w' (hB:Bw w w')=>ScAns.good (w:=w) (w':=w') X.o hB);clear X FB T;have sV:=BA.o.size;go_wp2_with(first
   |(at_make;refine nK rfl _ _ rfl .i64 .i64 40 rfl rfl V.heap.size ah (ax _) ?_;intro w1 hO hG;have O1:=af (show Own w1 V.heap.size (some ⟨V.heap.size,0,none⟩) 40 (jl d ring ix 0 0) by rw[ao4];exact hO);have B1:=af ((aP V.heap.size V).grown hG (ax _) ay);clear hO hG)
   |(refine aK 76 (.tmp 5) ix 4 (Blk.below' M.o B1.o) iO fO P.o ?_))
  go_loopw[11,42] (fun cv J wr=> ∃t:Nat,t<=4/\J=.int .i64 t/\cv=.int .i64 (scC d ix t)/\Hy (Own wr V.heap.size (some ⟨V.heap.size,0,none⟩) 40 (jl d ring ix t 0))/\Hy (Bw V wr)) (fun _ J _=>4-(intOf J).toNat)
  case atStart=>exact⟨0,ah,rfl,rfl,O1,B1⟩
  case round=>
   clear O1 B1;obtain⟨t,F,rfl,rfl,Q,H⟩:=hrel;by_cases T:t<4
   ·have hI:=HIX.o t T
    have po:=qZ OK.o t;obtain⟨q,hq⟩:=gI po.1;have E:=tY OK.o T;have hpl:(t:Int)+4*(q:Nat)=(plc ix t:Nat):=vZ;have SC:=aj (scC d ix (t+1)=IntKind.i64.wrap (scC d ix t+IntKind.i64.wrap (sg d ix t*d.getD (plc ix t) 0))) (rfl);have G:=af (ao2 d ring ix t);have L:=af (ao3 d ring ix t);have N:=af (fun k hk h=>ao1 d ring ix (t:=t) (k:=k) hk h);have HAt:=af (fun k hk=>ao0 d ring ix t (k:=k) hk);have HRg:=af (fun k=>Yp d ring ix t k ah);rw[hq] at hI po;have l:=aj (sg d ix t=sgp (d.getD (plc ix t) 0)) (rfl);have D1:=af ((HD.o.below H.o).more H.o.size);have O1:=af (show Own wr V.heap.size (some ⟨V.heap.size,0,none⟩) 40 (jl d ring ix t (plc ix t)) by rw[G.o];exact Q.o);obtain⟨a,ha⟩:=ak (plc ix t);rw[<-ha] at hpl E SC l O1 N;obtain⟨ad,hAd,hadb,c0⟩:=D1.o.at_ (k:=a) uS;obtain⟨x,hx⟩:=ak (d.getD a 0);rw[<-hx] at c0 SC l;obtain⟨s,Z⟩:=ak (sgp x);rw[<-Z] at l;rw[l.o] at SC N;have HSG:=af Z;have HX:=af hx;have q9:(q:Int)<=9:=po.2;have a40:(a:Int)<40:=ah;have a0:(0:Int)<=a:=ah;have HQ:=af hq;have HA:=af ha;have hdec:decide ((t:Int)<4)=true:=aC;generalize scC d ix t=cc at*
    clear po hq ha hx Q;subst hAd;by_cases hsg:x<0
    ·have hs1:s= -1:=by rw[Z];unfold sgp;rw[if_pos hsg]
     have Y:decide (x<0)=true:=(by simpa using hsg);subst hs1;clear Z HSG;have b:=SC.o;rw[aar] at b;have b:=af b;clear SC;go_wp2;clear c0 Y;go_loopw[17] (fun J wr=> ∃k:Nat,a<=k/\k<=40/\J=.int .i64 k/\Hy (Own wr V.heap.size (some ⟨V.heap.size,0,none⟩) 40 (jl d ring ix t k))/\Hy (Bw V wr)) (fun J _=>40-(intOf J).toNat)
     case atStart=>exact⟨a,ax _,ah,rfl,O1,H⟩
     case round=>
      clear O1 H D1;obtain⟨k,C,hk,rfl,Q,H⟩:=hrel;by_cases hlk:k<40
      ·obtain⟨R,g,haeb,c1⟩:=(HR.o.below H.o).at_ (k:=k-a) (by rw[RL.o];omega)
       have co:=Q.o.cell k UK;rw[HAt.o k hlk] at co;have fo:=Q.o.frozen k;have u:=N.o k hlk C;rw[aar] at u;have u:=af u;have f:=HRg.o k;obtain⟨m,O⟩:=ak (k-a);rw[<-O] at c1 u;obtain⟨y,hy⟩:=ak (ring.getD m 0);rw[<-hy] at c1 u;have KS:=af (fun W=>afT y W);have yr:=nI y;obtain⟨z,hz⟩:=ak (s16 y);rw[<-hz] at KS yr u;obtain⟨v,hv⟩:=ak (hrd d ring ix t k);rw[<-hv] at co f u;have I:IntKind.i64.wrap ((k:Int)-(a:Nat))=(m:Nat):=aV;have hw1:IntKind.i64.wrap (-z)=(-z):=aV;have hw2:IntKind.i64.wrap (v+(-z))=v+(-z):=aV;have i1:(m:Int)<40:=ah;have i2:(0:Int)<=m:=ah;have i3:(k:Int)<40:=ah;have i4:(0:Int)<=k:=ah;have B:=aj (Own (wr.setCell ⟨V.heap.size,k,none⟩ (.int .i64 (v+(-z)))) V.heap.size (some ⟨V.heap.size,0,none⟩) 40 (jl d ring ix t (k+1))) (by rw[<-u.o];exact Q.o.set_ k UK _);have K:=af (H.o.setCell (p:=⟨V.heap.size,k,none⟩) (ax _) (.int .i64 (v+(-z))));exact ahY
      exact ah9
    have hs1:s=1:=(by rw[Z];unfold sgp;rw[if_neg hsg]);have Y:decide (x<0)=false:=(by simpa using hsg);subst hs1;clear Z HSG;have b:=SC.o;rw[vT] at b;have b:=af b;clear SC;go_wp2;clear c0 Y;go_loopw[17] (fun J wr=> ∃k:Nat,a<=k/\k<=40/\J=.int .i64 k/\Hy (Own wr V.heap.size (some ⟨V.heap.size,0,none⟩) 40 (jl d ring ix t k))/\Hy (Bw V wr)) (fun J _=>40-(intOf J).toNat)
    case atStart=>exact⟨a,ax _,ah,rfl,O1,H⟩
    case round=>
     clear O1 H D1;obtain⟨k,C,hk,rfl,Q,H⟩:=hrel;by_cases hlk:k<40
     ·obtain⟨R,g,haeb,c1⟩:=(HR.o.below H.o).at_ (k:=k-a) (by rw[RL.o];omega)
      have co:=Q.o.cell k UK;rw[HAt.o k hlk] at co;have fo:=Q.o.frozen k;have u:=N.o k hlk C;rw[vT] at u;have u:=af u;have f:=HRg.o k;obtain⟨m,O⟩:=ak (k-a);rw[<-O] at c1 u;obtain⟨y,hy⟩:=ak (ring.getD m 0);rw[<-hy] at c1 u;have KS:=af (fun W=>afT y W);have yr:=nI y;obtain⟨z,hz⟩:=ak (s16 y);rw[<-hz] at KS yr u;obtain⟨v,hv⟩:=ak (hrd d ring ix t k);rw[<-hv] at co f u;have I:IntKind.i64.wrap ((k:Int)-(a:Nat))=(m:Nat):=aV;have hw1:IntKind.i64.wrap (z)=(z):=aV;have hw2:IntKind.i64.wrap (v+(z))=v+(z):=aV;have i1:(m:Int)<40:=ah;have i2:(0:Int)<=m:=ah;have i3:(k:Int)<40:=ah;have i4:(0:Int)<=k:=ah;have B:=aj (Own (wr.setCell ⟨V.heap.size,k,none⟩ (.int .i64 (v+(z)))) V.heap.size (some ⟨V.heap.size,0,none⟩) 40 (jl d ring ix t (k+1))) (by rw[<-u.o];exact Q.o.set_ k UK _);have K:=af (H.o.setCell (p:=⟨V.heap.size,k,none⟩) (ax _) (.int .i64 (v+(z))));exact ahY
     exact ah9
   obtain rfl:t=4:=ah;have NE:=aj (∀j,j<40->(jl d ring ix 4 0).getD j 0=hrd d ring ix 4 j) (fun j hj=>ao5 d ring ix 4 hj);have SE:=af (anp d ring ix);have SQ:=af (fun n hn=>anq d ring ix n hn);have SH:=af (fun n=>Yp d ring ix 4 n (ax _));have LH:=af (pW d ring ix 4 0);go_wp2;have cells:=af (fun n (hn:n<40)=>Q.o.cell n (by rw[LH.o];exact hn));go_loop [18,86] (fun ev J=> ∃(n:Nat) (e:Int),n<=40/\J=.int .i64 n/\ev=.int .i64 e/\Hy (e=aN (hsq d ring ix) n)) (fun _ J=>40-(intOf J).toNat)
   case atStart=>exact⟨0,0,ah,rfl,rfl,af rfl⟩
   case round=>
    obtain⟨n,e,hn,rfl,rfl,HE⟩:=hrel;by_cases hln:n<40
    ·have c0:=cells.o n hln
     rw[NE.o n hln] at c0;have SS:=af (show aN (hsq d ring ix) (n+1)=e+hrd d ring ix 4 n*hrd d ring ix 4 n by rw[HE.o];rfl);have sb:=SQ.o n hn;rw[<-HE.o] at sb;have hb:=SH.o n;have hq:=Yq d ring ix n;unfold hsq at hq;generalize hrd d ring ix 4 n=x at*
     have e1:0<=e:=sb.1;have S:e<=687194767360:=sb.2;have q1:0<=x*x:=hq.1;have q2:x*x<=17179869184:=hq.2;clear sb hb hq;go_wp2;go_round;case rel=>exact⟨n+1,_,ah,aT,rfl,af SS.o.symm⟩
     case measure=>exact aW
    obtain rfl:n=40:=ah;have D:=af (HG.o _ (aH BA.o H.o));rw[<-SE.o,<-HE.o] at D;go_wp2;go_ret3
    exact D.o
