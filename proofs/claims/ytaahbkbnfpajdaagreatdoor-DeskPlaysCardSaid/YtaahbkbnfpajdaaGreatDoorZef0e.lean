/- Lemmas. -/
import Derived.Test.YtaahbkbnfpajdaaGreatDoorZef01
import Derived.Test.YtaahbkbnfpajdaaGreatDoorZef0h
import Derived.Test.YtaahbkbnfpajdaaGreatDoorZef0a
namespace Go.Proofs.YtaahbkbnfpajdaaGreatDoor
set_option linter.all false
set_option maxRecDepth 100000
set_option maxHeartbeats 8000000
open Go.RowKit
variable{p:Addr}{w:Wd}{B n g:Nat}{xs ps:Lz}{v:Value}{x:Int}
def lim(lo hi x:Int):Int:=if x<lo then lo else if hi<x then hi else x
def sK(lo hi x:Int):Bool:=if x<lo then true else if hi<x then true else false
theorem aj9{lo hi:Int}(h:lo<=hi)(x:Int):lo<=lim lo hi x/\lim lo hi x<=hi:=by
 unfold lim;repeat' split
 all_goals omega
def s16(x:Int):Int:=lim (-32768) 32767 x
def s32(x:Int):Int:=lim (-2147483648) 2147483647 x
theorem nI(x:Int): -32768<=s16 x/\s16 x<=32767:=aj9 ah x
def d16(x:Int):Bool:=sK (-32768) 32767 x
def aca(w:Wd)(n:Int)(b:Bool)(e:Ending)(w':Wd):Prop:=e=.returned (.tuple #[.int .i64 n,.bool b])/\w=w'
theorem aka(x lo hi:Int)(w:Wd):
 Cl 183 #[.int .i64 x,.int .i64 lo,.int .i64 hi] w (aca w (lim lo hi x) (sK lo hi x)):=by
 unfold lim sK;go_enter Tryz.func183,Tryz.ntmps183;go_wp2;all_goals (go_ret2;exact⟨by simp[*],rfl⟩)
theorem akb(x:Int)(w:Wd):Cl 140 #[.int .i64 x] w (aca w (s16 x) (d16 x)):=by
 go_enter Tryz.func140,Tryz.ntmps140;go_wp2_with(go_at_call 183;refine(aka _ _ _ _).mono ?_;rintro e w' ⟨rfl,rfl⟩);go_ret2;exact⟨rfl,rfl⟩
theorem jM(w:Wd)(x:Int)(a: -9223372036854775808<=x)(c:x<=9223372036854775807):
 Cl 97 #[.int .i64 x] w (ab5 w x):=by
 go_enter Tryz.func97,Tryz.ntmps97;go_wp2_with(go_at_call 98;refine(nH w x a c).mono ?_;rintro e h ⟨b,rfl,g,f,d⟩);go_ret;exact⟨b,rfl,g,f,d⟩
theorem akc(m:Nat)(h:m<=64):Sm (((2:Int)^m)).natAbs:=by
 apply bW;rw[Int.natAbs_pow];have:(2:Nat)^m<=2^64:=jK aA h;show(2:Nat)^m<_;omega
def acb(w:Wd)(lo hi z:Int)(e:Ending)(w':Wd):Prop:=e=.returned (.tuple #[.int .i64 (lim lo hi z),.bool (sK lo hi z)])/\Bw w w'
theorem akd(w:Wd)(c:Nat)(z:Int)(m:Nat)(hc:IntAt w c z)(Z:Sm z.natAbs)(O:m<=63)(lo hi:Int)(F:lo= -(2^m))(E:hi=2^m-1):
 Cl 157 #[.pointer (some ⟨c,0,none⟩),.int .u64 ((m+1:Nat):Int)] w (acb w lo hi z):=by
 have L:=af hc;have C:=af Z;have hp1:(1:Int)<=2^m:=by have h:(0:Int)<2^m:=rU aA;omega
 have hp2:(2:Int)^m<=9223372036854775808:=by
  have:(2:Nat)^m<=2^63:=jK aA O;have h2:((2^m:Nat):Int)=2^m:=ay;omega
 have j:=af (akc m ah);obtain⟨P,W⟩:=ak ((2:Int)^m);rw[<-W] at hp1 hp2 j F E;have HP:=af W;have v:=af F;have u:=af E;clear hc Z W;have S1:=af (bW (n:=(1:Int).natAbs) aA);have V:=af (bW (n:=(-P).natAbs) ah);have hlt:=L.o.lt;clear F E;go_enter Tryz.func157,Tryz.ntmps157;go_wp2_with fail;refine(nH _ 1 ah ah).mono ?_;rintro e w1 ⟨b1,rfl,Y,I,p⟩;have M:=af (IntBlk.below (IntBlk.new w (.bool false) (.slice none 0 0)) p (ax _));have d:=af ((L.o.below (baqq _ _) (ax _)).below p (ax _));have I1:=af I;have B1:=af (((aP _ w).alloc (ax _) _).trans (p.mono ay));have hs1:=B1.o.size;simp at Y;have hne1:b1≠w.heap.size:=ah;clear I p;go_wp2_with fail;refine(zU _ w.heap.size b1 1 m M.o I1.o S1.o ah).mono ?_;rintro e Q ⟨rfl,y,x⟩;rw[vT,<-HP.o] at y;have f:=af (d.o.kept M.o x ah);have R:=af y;have B2:=af (eP B1.o x (ax _));have hs2:=B2.o.size;have hs2':=R.o.lt;clear y x I1 d;go_wp2_with fail;refine(aj2 _ Q.heap.size w.heap.size P (IntBlk.new Q _ _) (R.o.below (baqq _ _) (ax _)) j.o).mono ?_;rintro e w3 ⟨rfl,J,q⟩;have X:=af J;have a:=af ((f.o.below (baqq _ _) (ax _)).kept (IntBlk.new Q (.bool false) (.slice none 0 0)) q ah);have H3:=af ((R.o.below (baqq _ _) (ax _)).kept (IntBlk.new Q (.bool false) (.slice none 0 0)) q ah);have B3:=af (eP (B2.o.alloc ah _) q ah);have hs3:=X.o.lt;clear J q R f;go_wp2_with fail;refine(nH _ 1 ah ah).mono ?_;rintro e w4 ⟨b4,rfl,hb4,K,l⟩;have C4:=af (a.o.below l (ax _));have L4:=af (X.o.below l (ax _));have H:=af (H3.o.below l (ax _));have I4:=af K;have B4:=af (aH B3.o l);have hs4:=B4.o.size;clear K l a X H3;go_wp2_with fail;refine(WE _ w.heap.size w.heap.size b4 P 1 H.o.blk H.o I4.o j.o S1.o).mono ?_;rintro e w5 ⟨rfl,N,s⟩;have H5:=af N;have T:=af (C4.o.kept H.o.blk s ah);have L5:=af (L4.o.kept H.o.blk s ah);have B5:=af (eP B4.o s (ax _));clear N s C4 L4 H I4;have SH:=af (bW (n:=(P-1).natAbs) ah);have S:=af (Nv _ c Q.heap.size z (-P) T.o L5.o C.o V.o);have D:=af (fun(n:Nat) (r:Int) (b:Bool) (hr:r=lim lo hi z) (hb:b=sK lo hi z)=>show acb w lo hi z (.returned (.tuple #[.int .i64 r,.bool b])) (w5.drewN n) from⟨by rw[hr,hb],B5.o.trans ⟨rfl,rfl,rfl,ax _,fun _ _=>rfl⟩⟩);by_cases g:z< -P
 ·have A:jq z (-P)= -1:=by unfold jq;rw[if_pos g]
  rw[A] at S;have t:=af (show(-P)=lim lo hi z/\true=sK lo hi z by rw[v.o,u.o];unfold lim sK;rw[if_pos g,if_pos g];exact⟨rfl,rfl⟩);clear A;go_wp2_with(first
   |(go_at_call 190;refine S.o.mono ?_;rintro e G ⟨rfl,k,rfl⟩)
   |(go_at_call 102;refine(qm _ _ (-P) (L5.o.drewN k) ah ah).mono ?_;rintro e G ⟨rfl,rfl⟩))
  go_ret2;exact D.o _ _ _ t.o.1 t.o.2
 ·have A:0<=jq z (-P):=by unfold jq;rw[if_neg g];split<;>omega
  have U:=af (fun n=>Nv (w5.drewN n) c w.heap.size z (P-1) (T.o.drewN n) (H5.o.drewN n) C.o SH.o);by_cases i:P-1<z
  ·have B:jq z (P-1)=1:=by unfold jq;rw[if_neg ah,if_pos i]
   rw[B] at U;have t:=af (show(P-1)=lim lo hi z/\true=sK lo hi z by rw[v.o,u.o];unfold lim sK;rw[if_neg g,if_pos i,if_neg g,if_pos i];exact⟨rfl,rfl⟩);clear B;go_wp2_with fail;refine S.o.mono ?_;rintro e G ⟨rfl,k,rfl⟩;go_wp2_with fail;refine(U.o _).mono ?_;rintro e G ⟨rfl,k2,rfl⟩;rw[Kt];go_wp2_with(go_at_call 102;refine(qm _ _ (P-1) (H5.o.drewN _) ah ah).mono ?_;rintro e G ⟨rfl,rfl⟩);go_ret2;exact D.o _ _ _ t.o.1 t.o.2
  have B: ¬0<jq z (P-1):=by
   unfold jq;repeat' split
   all_goals omega
  have t:=af (show z=lim lo hi z/\false=sK lo hi z by rw[v.o,u.o];unfold lim sK;rw[if_neg g,if_neg i,if_neg g,if_neg i];exact⟨rfl,rfl⟩);go_wp2_with fail;refine S.o.mono ?_;rintro e G ⟨rfl,k,rfl⟩;go_wp2_with fail;refine(U.o _).mono ?_;rintro e G ⟨rfl,k2,rfl⟩;rw[Kt];go_wp2_with(go_at_call 102;refine(qm _ _ z (T.o.drewN _) ah ah).mono ?_;rintro e G ⟨rfl,rfl⟩);go_ret2;exact D.o _ _ _ t.o.1 t.o.2
def pz(w:Wd)(n:Int)(e:Ending)(w':Wd):Prop:=e=.returned (.int .i64 n)/\Bw w w'
theorem sN(x:Int)(w:Wd)(d: -9223372036854775808<=x)(f:x<=9223372036854775807):
 Cl 93 #[.int .i64 x] w (pz w (s16 x)):=by
 go_enter Tryz.func93,Tryz.ntmps93;go_wp2_with(first
  |(go_at_call 97;refine(jM w x d f).mono ?_;rintro e k ⟨b,rfl,j,c,a⟩;have g:=af c;have h:=af a;clear c a)
  |(go_at_call 157;refine(akd _ b x 15 g.o (bW ah) ah (-32768) 32767 aA aA).mono ?_;rintro e l ⟨rfl,a⟩;have i:=af a;clear a))
 go_ret;exact⟨rfl,aH h.o i.o⟩
theorem Ih(w:Wd)(b c:Nat)(z:Int)(n:Nat)(a:IntBlk w b)(p:IntAt w c z)(Z:Sm z.natAbs)(q:n<=10000):
 Cl 100 #[.pointer (some ⟨b,0,none⟩),.pointer (some ⟨c,0,none⟩),.int .u64 (n:Nat)] w (jo w b (z/2^n)):=by
 obtain⟨v,l,F,r⟩:=p.cells;have H:=af a;have k:=af r;have C:=af Z;clear a r p Z;by_cases i:z<0
 ·have U:decide (z<0)=true:=by simpa using i
  rw[U] at l;clear U;go_enter Tryz.func100,Tryz.ntmps100;go_wp2_with fail;refine(WB _ v _ z.natAbs 1 (k.o.below (baqq _ _) (ax _)) (Nm.one w) C.o ah).mono ?_;rintro e y ⟨⟨D,rfl,u⟩,a⟩;have g:=af a;have j:=af u;clear a u;go_wp2_with fail;refine(ab4 y D (z.natAbs-1) n j.o (by have:=C.o;unfold Sm at*;omega) q).mono ?_;rintro e A ⟨⟨E,rfl,u⟩,a⟩;have s:=af a;have h:=af u;clear a u;go_wp2_with fail;refine(Wv _ E _ ((z.natAbs-1)/2^n) 1 (h.o.below (baqq _ _) (ax _)) (Nm.one A) (by have:=C.o;have G:=Ky (z.natAbs-1) (2^n);unfold Sm at*;omega) (bW aA)).mono ?_;rintro e K ⟨⟨I,rfl,u⟩,a⟩;have t:=af a;have B:=af u;clear a u;go_wp2_with fail;refine(ql _ b _ _ _ (((((H.o.below (baqq _ _) (ax _)).below g.o (ax _)).below s.o (ax _)).below (baqq _ _) (ax _)).below t.o (ax _)) B.o).mono ?_;rintro e L ⟨rfl,f,d⟩;have x:=af (lX f d);clear f d;go_wp2;go_ret;refine⟨rfl,?_,?_⟩
  ·rw[aj3 i n]
   exact x.o.1
  refine lG ?_ x.o.2;exact lG (lZ (baqq _ _) (ax _) _) (lG (lZ g.o (ax _) _) (lG (lZ s.o (ax _) _) (lG (lZ (baqq _ _) (ax _) _) (lZ t.o (ax _) _))))
 ·have U:decide (z<0)=false:=by simpa using i
  rw[U] at l;clear U;go_enter Tryz.func100,Tryz.ntmps100;go_wp2_with(first
   |(go_at_call 163;refine(ab4 w v z.natAbs n k.o C.o q).mono ?_;rintro e y ⟨⟨J,rfl,u⟩,a⟩;have g:=af a;have j:=af u;clear a u)
   |(go_at_call 158;refine(ql _ b _ _ (z.natAbs/2^n) (H.o.below g.o (ax _)) j.o).mono ?_;rintro e A ⟨rfl,f,d⟩;have h:=af (lX f d);clear f d))
  go_ret;refine⟨rfl,?_,lG (lZ g.o (ax _) _) h.o.2⟩;have e:z/2^n=sgn false (z.natAbs/2^n):=by
   unfold sgn;obtain⟨m,rfl⟩:=gI (show 0<=z from ah);simp
  rw[e];exact h.o.1
theorem acd(n:Nat):(0:Int)<2^n:=rU aA
theorem ake{a lo p:Int}(c:0<p)(d:lo<=0)(h:lo<=a):lo<=a/p:=by
 rw[Int.le_ediv_iff_mul_le c];have b:=Lc (show(1:Int)<=p from ah) (show 0<= -lo from ah);rw[xO,xO,RH] at b;omega
theorem akf{a hi p:Int}(c:0<p)(b:0<=hi)(h:a<=hi):a/p<=hi:=by
 have d:=ZW c h;have e:=ZY p (a:=hi) b;omega
theorem ace(a:Int)(n:Nat)(w:Wd)(h: -9223372036854775808<=a)(i:a<=9223372036854775807)(r:n<=10000):
 Cl 94 #[.int .i64 a,.int .u64 (n:Nat)] w (pz w (a/2^n)):=by
 have f:=ake (acd n) (lo:= -9223372036854775808) ah h;have g:=akf (acd n) (hi:=9223372036854775807) ah i;go_enter Tryz.func94,Tryz.ntmps94;go_wp2_with fail;refine(jM _ a h i).mono ?_;rintro e t ⟨b,rfl,s,c,d⟩;have k:=af (IntBlk.below (IntBlk.new w (.bool false) (.slice none 0 0)) d (ax _));have p:=af c;have l:=af (((aP _ w).alloc (ax _) _).trans (d.mono ay));clear c d;go_wp2_with fail;refine(Ih _ w.heap.size b a n k.o p.o (bW ah) r).mono ?_;rintro e u ⟨rfl,c,j⟩;have q:=af c;have m:=af (eP l.o j (ax _));clear c j;go_wp2_with fail;refine(qm _ w.heap.size (a/2^n) q.o f g).mono ?_;rintro e v ⟨rfl,rfl⟩;go_wp2;go_ret;exact⟨rfl,m.o⟩
theorem wZ(a:Int)(n:Nat)(p q:Int)(w:Wd)(b: -9223372036854775808<=a)(c:a<=9223372036854775807)(d:n<=10000)(e:(2:Int)^n=p)(f:a/p=q):
 Cl 94 #[.int .i64 a,.int .u64 (n:Nat)] w (pz w q):=by
 have h:=ace a n w b c d;rw[e,f] at h;exact h
theorem akE(a:Int)(w:Wd)(b: -9223372036854775808<=a)(c:a<=9223372036854775807):Cl 94 #[.int .i64 a,.int .u64 9] w (pz w (a/512)):=wZ a 9 512 (a/512) w b c ah aA rfl
theorem NC(a:Int)(w:Wd)(b: -9223372036854775808<=a)(c:a<=9223372036854775807):Cl 94 #[.int .i64 a,.int .u64 12] w (pz w (a/4096)):=wZ a 12 4096 (a/4096) w b c ah aA rfl
theorem akF(a:Int)(w:Wd)(b: -9223372036854775808<=a)(c:a<=9223372036854775807):Cl 94 #[.int .i64 a,.int .u64 13] w (pz w (a/8192)):=wZ a 13 8192 (a/8192) w b c ah aA rfl
theorem akG(a:Int)(w:Wd)(b: -9223372036854775808<=a)(c:a<=9223372036854775807):Cl 94 #[.int .i64 a,.int .u64 14] w (pz w (a/16384)):=wZ a 14 16384 (a/16384) w b c ah aA rfl
theorem Io(a:Int)(w:Wd)(b: -9223372036854775808<=a)(c:a<=9223372036854775807):Cl 94 #[.int .i64 a,.int .u64 15] w (pz w (a/32768)):=wZ a 15 32768 (a/32768) w b c ah aA rfl
theorem Rs.drew{A:Oz}(h:Rs w B A xs):Rs w.drew B A xs:=h
theorem akH(A:Oz)(c B:Nat)(xs:Lz)(i n:Nat)(w:Wd)(a:Rs w B A xs)(b:xs.length=n)(j:n<=100):
 Cl 169 #[.slice A n c,.int .i64 (i:Nat)] w fun e w'=>e=.returned (.int .i64 (xs.getD i 0))/\w=w':=by
 by_cases h:i<n
 ·obtain⟨f,rfl,_,g⟩:=a.at_ (k:=i) ah
  generalize xs.getD i 0=x at*
  clear a b;go_enter Tryz.func169,Tryz.ntmps169;go_wp2;go_ret;exact⟨rfl,rfl⟩
 ·have d:xs.getD i 0=0:=ahw
  rw[d];clear a b d;go_enter Tryz.func169,Tryz.ntmps169;go_wp2;go_ret;exact⟨rfl,rfl⟩
def ND(w:Wd)(xs:Lz)(e:Ending)(w':Wd):Prop:=∃A c,e=.returned (.slice A xs.length c)/\Own w' w.heap.size A c xs/\Bw w w'
theorem akI{wr b:Wd}(c:Below wr.drew.heap.size wr.drew b)(a:wr.cell? p=some v):b.cell? p=some v:=
 (c.cell (BG wr p a)).trans a
theorem akJ{wr a:Wd}(b:Below wr.drew.heap.size wr.drew a)(c:wr.cell? p=some v)(d:wr.frozen? p=false):a.frozen? p=false:=
 (b.frozen (BG wr p c)).trans d
def GrowMid(a b:Lz)(q:Int)(m i:Nat):Prop:=b.length=m+1/\∀j,j<=m->b.getD j 0=if j<i then(oL a q m).getD j 0 else a.getD j 0
theorem GrowMid.step{a d:Lz}{q:Int}{m i:Nat}(h:GrowMid a d q m i)(f:1<=i)(hi:i<=m):
 GrowMid a (d.set i (a.getD i 0+q*a.getD (m-i) 0/32768)) q m (i+1):=by
 refine⟨by simpa using h.1,fun j e=>?_⟩;by_cases c:i=j
 ·subst c
  rw[gQ _ _ _ (by rw[h.1];omega),if_pos ah,zW _ _ _ _ hi,if_neg ah]
 ·rw[gV _ _ c,h.2 j e]
  by_cases b:j<i
  ·rw[if_pos b,if_pos ah]
  rw[if_neg b,if_neg ah]
theorem NG{wr a:Wd}(h:Below wr.drew.heap.size wr.drew a):Bw wr a:=⟨h.os,h.tape,h.output,h.size,h.block⟩
theorem acm(A:Oz)(c:Nat)(xs:Lz)(q:Int)(m:Nat)(w:Wd)(V:Rs w w.heap.size A xs)(T:xs.length=m)(hm0:1<=m)(O:m<=20)(hq: -32768<=q/\q<=32768)(Z:Within 4294967296 xs):
 Cl 105 #[.slice A m c,.int .i64 q] w (ND w (oL xs q m)):=by
 have P:=af V;have HL:=af T;have R:=af Z;clear V Z;subst T;go_enter Tryz.func105,Tryz.ntmps105;go_wp2_with(first
  |(at_builtin;refine Nl rfl (.const (.slice none 0 0)) (.tmp 7) rfl w.heap.size none 0 [] rfl Own.nil w.heap.size A c xs rfl P.o aC (ax _) ?_;intro M c1 w1 a l B;simp only[CE] at a;have u:=af a;have b:=af ((aP w.heap.size w).grown l (ax _) ay);clear a l B)
  |(at_builtin;refine abM rfl (.tmp 8) (.tmp 9) rfl w.heap.size M c1 xs rfl (u.o.alloc _) ⟨w1.heap.size,0,none⟩ 0 rfl (oH w1 _ _) ah (dL b.o.size ay) ?_;intro A2 c2 w2 a l B;obtain⟨g,rfl,C,hg2⟩:=a.head ay;have S:=af a;have N:=af ((b.o.alloc b.o.size _).grown l (dL b.o.size ay) (by intro k F;cases M with|none=>cases F|some ad=>(simp at F;subst F;exact(u.o.lt _ rfl).1)));clear a l B))
 have f:=af (show GrowMid xs (xs++[0]) q xs.length 1 from⟨ay,fun j E=>by
  by_cases h:j<1
  ·obtain rfl:j=0:=ah
   rw[if_pos h,zW _ _ _ _ ah,if_pos rfl];simp only[bK];rw[oD ah]
  ·rw[if_neg h]
   simp only[bK];by_cases h2:j<xs.length
   ·rw[oD h2]
   ·obtain rfl:j=xs.length:=ah
    simp⟩)
 clear u b;go_loopw[6] (fun L wr=> ∃(i:Nat) (t:Lz),1<=i/\i<=xs.length+1/\L=.int .i64 i/\Hy (GrowMid xs t q xs.length i)/\Hy (Own wr w.heap.size (some ⟨g,0,none⟩) c2 t)/\Hy (Bw w wr)) (fun L _=>xs.length+1-(intOf L).toNat)
 case atStart=>exact⟨1,xs++[0],ah,ah,rfl,f,S,N⟩
 case round=>
  clear S N f;obtain⟨i,t,D,hi2,rfl,HM,Q,H⟩:=hrel;by_cases hlt:i<xs.length+1
  ·have z:=Q.o.cell i UZ
   have fo:=Q.o.frozen i;obtain⟨d,U⟩:∃d:Nat,xs.length=i+d:=⟨xs.length-i,ah⟩;have n:(xs.length:Int)-(i:Int)=(d:Nat):=ah;have G:IntKind.i64.wrap (xs.length:Int)=(xs.length:Int):=aV;have I:IntKind.i64.wrap ((xs.length:Int)-(i:Int))=(d:Nat):=aV;rw[HM.o.2 i ah,if_neg ah] at z;have KT:=af (fun W (h:Rs W w.heap.size A xs)=>akH A c w.heap.size xs d xs.length W h rfl ah);have RW:=af ((P.o.below H.o).drew);have r:=af (HM.o.step D ah);rw[show xs.length-i=d from ah] at r;have bx:=R.o i;have v:=R.o d;generalize xs.getD i 0=x at*
   generalize xs.getD d 0=y at*
   obtain⟨bx1,bx2⟩:=bx;obtain⟨by1,by2⟩:=v;have pr:=iU (x:=q) (X:=32768) (y:=y) (Y:=4294967296) ah ah hq ⟨ah,ah⟩;have p1: -140737488355328<=q*y:=ah;have p2:q*y<=140737488355328:=ah;have J:IntKind.i64.wrap (q*y)=q*y:=aV;have K:IntKind.i64.wrap (x+q*y/32768)=x+q*y/32768:=aV;have KD:=af (fun W=>Io (q*y) W ah ah);have HD:=af U;clear pr U n;go_wp2;go_region_with (first
    |(go_at_call 169;((with_reducible refine(KT.o _ RW.o).mono ?_);rintro e w' ⟨rfl,rfl⟩))
    |(go_at_call 94;(with_reducible refine(KD.o _).mono ?_);rintro e w3 ⟨rfl,s⟩;have k1:=akI s z;have k2:=akJ s z fo;have q1:=af s;clear s))
   all_goals
    clear G I J K;have OB:=af ((Q.o.below (NG q1.o)).set_ i UZ (x+q*y/32768));have BB:=af ((aH H.o (NG q1.o)).setCell (p:=⟨g,i,none⟩) C (.int .i64 (x+q*y/32768)));go_wp2;go_roundw;case rel=>exact⟨i+1,_,ah,ah,aT,r,OB,BB⟩
    case measure=>exact aW
  obtain rfl:i=xs.length+1:=ah;have HF:=aj (t=oL xs q xs.length) (dM (by rw[HM.o.1,yA]) (fun j E=>by
   rw[HM.o.2 j (by rw[HM.o.1] at E;omega),if_pos (by rw[HM.o.1] at E;omega)]))
  have HL2:=HM.o.1;go_wp2;go_ret;refine⟨_,_,?_,by rw[<-HF.o];exact Q.o,H.o⟩;rw[yA];rfl
def gY(x:Int):Bool:=decide (-32768<=x/\x<=32767)
theorem sO(a: -32768<=x)(b:x<=32767):gY x=true:=by unfold gY;simp;omega
theorem ve(h:x< -32768\/32767<x):gY x=false:=by unfold gY;simp;omega
def aG(xs:Lz):Bool:=xs.all gY
theorem gU(h:aG xs=true)(i:Nat): -32768<=xs.getD i 0/\xs.getD i 0<=32767:=by
 by_cases hi:i<xs.length
 ·have:=Nz h i hi
  unfold gY at this;simpa using this
 exact VZ
def Ip(w:Wd)(b:Bool)(e:Ending)(w':Wd):Prop:=e=.returned (.bool b)/\Bw w w'
theorem mW(a: -32768<=x)(b:x<=32767):s16 x=x:=by unfold s16 lim;rw[if_neg ah,if_neg ah]
theorem vg(h:x< -32768\/32767<x):s16 x≠x:=by have:=nI x;omega
theorem akK(A:Oz)(c:Nat)(xs:Lz)(w:Wd)(d:Rs w w.heap.size A xs)(hl:xs.length<=17592186044416):
 Cl 15 #[.slice A xs.length c] w (ND w xs):=by
 have g:=af d;clear d;go_enter Tryz.func15,Tryz.ntmps15;go_wp2_with(at_builtin;refine Nl rfl (.const (.slice none 0 0)) (.tmp 3) rfl w.heap.size none 0 [] rfl Own.nil w.heap.size A c xs rfl g.o xZ (ax _) ?_;intro e i k a b j;simp only[CE] at a;have h:=af a;have f:=af ((aP w.heap.size w).grown b (ax _) ay);clear a b j);go_ret;exact⟨e,i,ay,h.o,f.o⟩
theorem akL(A A2:Oz)(c c2 n B i:Nat)(xs:Lz)(w:Wd)(h:Rs w B A xs)(a:Rs w i A2 xs)(g:xs.length=n)(s:n<=17592186044416):
 Cl 10 #[.slice A n c,.slice A2 n c2] w (Ip w true):=by
 have e:=af (lX h a);have HN:=af g;clear h a g;go_enter Tryz.func10,Tryz.ntmps10;go_wp2;go_loopw[13] (fun b wr=> ∃(k d:Nat),k<=n/\b=.int .i64 k/\Hy (wr=w.drewN d)) (fun b _=>n-(intOf b).toNat)
 case atStart=>exact⟨0,0,ah,rfl,af rfl⟩
 case round=>
  obtain⟨k,d,r,rfl,f⟩:=hrel;obtain rfl:=f.o;by_cases hlt:k<n
  ·obtain⟨m,rfl,_,p⟩:=e.o.1.at_ (k:=k) iT
   obtain⟨t,rfl,_,j⟩:=e.o.2.at_ (k:=k) iT;generalize xs.getD k 0=x at*
   have q:(k:Int)<(n:Int):=ah;have l:(0:Int)<=(k:Int):=ah;clear f;go_wp2;go_quiet (fail);go_wp2;go_roundw;case rel=>exact⟨k+1,_,ah,aT,af (by first|rfl|simp)⟩
   case measure=>exact aW
  go_wp2;go_ret;exact⟨rfl,⟨rfl,rfl,rfl,ax _,fun _ _=>rfl⟩⟩
theorem WO(x:Int)(w:Wd):Cl 59 #[.int .i64 x] w fun e w'=>e=.returned (.int .i64 (s16 x))/\w=w':=by
 go_enter Tryz.func59,Tryz.ntmps59;exact GU
theorem acn(x:Int)(w:Wd):Cl 184 #[.int .i64 x] w fun e w'=>e=.returned (.int .i64 (s16 x))/\w=w':=by
 go_enter Tryz.func184,Tryz.ntmps184;exact GU
theorem zY(x:Int)(w:Wd):Cl 150 #[.int .i64 x] w fun e w'=>e=.returned (.int .i64 (s16 x))/\w=w':=by
 go_enter Tryz.func150,Tryz.ntmps150;exact GU
theorem zZ(x:Int)(w:Wd):Cl 57 #[.int .i64 x] w fun e w'=>e=.returned (.int .i64 (s16 x))/\w=w':=by
 go_enter Tryz.func57,Tryz.ntmps57;exact GU
theorem Ad(x:Int)(w:Wd):Cl 143 #[.int .i64 x] w fun e w'=>e=.returned (.int .i64 (s16 x))/\w=w':=by
 go_enter Tryz.func143,Tryz.ntmps143;exact GU
theorem aco(x:Int)(w:Wd):Cl 146 #[.int .i64 x] w fun e w'=>e=.returned (.int .i64 (s16 x))/\w=w':=by
 go_enter Tryz.func146,Tryz.ntmps146;exact GU
theorem Iq(A:Oz)(c n B:Nat)(xs:Lz)(w:Wd)(g:Rs w B A xs)(f:xs.length=n)(s:n<=17592186044416):
 Cl 58 #[.slice A n c] w fun e w'=>e=.returned (.bool (aG xs))/\w=w':=by
 have j:=af g;have HN:=af f;clear g f;go_enter Tryz.func58,Tryz.ntmps58;go_wp2;go_loop [7] (fun d=> ∃k:Nat,k<=n/\d=.int .i64 k/\Hy (allTo gY xs k)) (fun d=>n-(intOf d).toNat)
 case atStart=>exact⟨0,ah,rfl,af allTo.zero⟩
 case round=>
  obtain⟨k,r,rfl,HY⟩:=hrel;by_cases hlt:k<n
  ·obtain⟨m,rfl,_,l⟩:=j.o.at_ (k:=k) iT
   obtain⟨x,a⟩:=ak (xs.getD k 0);rw[<-a] at l;have HX:=af a;clear a;by_cases z:x< -32768\/32767<x
   ·have HF:=aj (aG xs=false) (jb (i:=k) iT (ve ww))
    have q:(x==s16 x)=false:=TK;have S:(x !=s16 x)=true:=TR;clear z;go_wp2_with(go_at_call 59;refine(WO _ _).mono ?_;rintro e w' ⟨rfl,rfl⟩);go_ret;exact⟨qO,rfl⟩
   have b:=af (HY.o.succ Df);have p:=mW (x:=x) ah ah;clear z;go_wp2_with(go_at_call 59;refine(WO _ _).mono ?_;rintro e w' ⟨rfl,rfl⟩);exact yg
  exact abu
theorem NH(A:Oz)(c n B:Nat)(xs:Lz)(w:Wd)(g:Rs w B A xs)(f:xs.length=n)(s:n<=17592186044416):
 Cl 147 #[.slice A n c] w fun e w'=>e=.returned (.bool (aG xs))/\w=w':=by
 have j:=af g;have HN:=af f;clear g f;go_enter Tryz.func147,Tryz.ntmps147;go_wp2;go_loop [7] (fun d=> ∃k:Nat,k<=n/\d=.int .i64 k/\Hy (allTo gY xs k)) (fun d=>n-(intOf d).toNat)
 case atStart=>exact⟨0,ah,rfl,af allTo.zero⟩
 case round=>
  obtain⟨k,r,rfl,HY⟩:=hrel;by_cases hlt:k<n
  ·obtain⟨m,rfl,_,l⟩:=j.o.at_ (k:=k) iT
   obtain⟨x,a⟩:=ak (xs.getD k 0);rw[<-a] at l;have HX:=af a;clear a;by_cases z:x< -32768\/32767<x
   ·have HF:=aj (aG xs=false) (jb (i:=k) iT (ve ww))
    have q:(x==s16 x)=false:=TK;have S:(x !=s16 x)=true:=TR;clear z;go_wp2_with(go_at_call 184;refine(acn _ _).mono ?_;rintro e w' ⟨rfl,rfl⟩);go_ret;exact⟨qO,rfl⟩
   have b:=af (HY.o.succ Df);have p:=mW (x:=x) ah ah;clear z;go_wp2_with(go_at_call 184;refine(acn _ _).mono ?_;rintro e w' ⟨rfl,rfl⟩);exact yg
  exact abu
theorem mX(A:Oz)(c n B:Nat)(xs:Lz)(w:Wd)(g:Rs w B A xs)(f:xs.length=n)(p:n<=17592186044416):
 Cl 92 #[.slice A n c] w fun e w'=>e=.returned (.bool (aG xs))/\w=w':=by
 have h:=af g;have HN:=af f;clear g f;go_enter Tryz.func92,Tryz.ntmps92;go_wp2;go_loop [7] (fun d=> ∃k:Nat,k<=n/\d=.int .i64 k/\Hy (allTo gY xs k)) (fun d=>n-(intOf d).toNat)
 case atStart=>exact⟨0,ah,rfl,af allTo.zero⟩
 case round=>
  obtain⟨k,m,rfl,HY⟩:=hrel;by_cases hlt:k<n
  ·obtain⟨l,rfl,_,j⟩:=h.o.at_ (k:=k) iT
   obtain⟨x,a⟩:=ak (xs.getD k 0);rw[<-a] at j;have HX:=af a;clear a;by_cases b1:x< -32768
   ·have HF:=aj (aG xs=false) (jb (i:=k) iT (ve MJ))
    exact abv
   by_cases b2:32767<x
   ·have HF:=aj (aG xs=false) (jb (i:=k) iT (ve MK))
    exact abv
   have b:=af (HY.o.succ Df);go_wp2;exact yg
  exact abu
structure Mm where
 r:Lz
 p:Lz
 e:Lz
 ga:Int
 pi:Int
 la:Int
 er:Int
 se:Int
 si:Bool
structure Mm.ok(m:Mm):Prop where
 r:m.r.length=8
 p:m.p.length=8
 e:m.e.length=80
def Mm.nums(m:Mm):Lz:=m.r++(m.p++(m.e++[m.ga,m.pi,m.la,m.er,m.se]))
def Mm.cs(m:Mm):List Value:=au m.r++(au m.p++(au m.e++[.int .i64 m.ga,.int .i64 m.pi,.int .i64 m.la,.int .i64 m.er,.int .i64 m.se,.bool m.si]))
def Mm.ag(m:Mm):Array Value:=m.cs.toArray
def MB(w:Wd)(g:Nat)(m:Mm):Prop:=Blk w g 55 m.ag
def Mm.tl(m:Mm):List Value:=[.int .i64 m.ga,.int .i64 m.pi,.int .i64 m.la,.int .i64 m.er,.int .i64 m.se,.bool m.si]
section
variable {w w':Wd} {g:Nat} {t:TypeId}
theorem iP{a:List Value}(h:Blk w g t a.toArray)(A xs B:List Value)(c:a=A++(xs++B)){o:Nat}(e:A.length=o):w.rangeAt g o xs:=fun j v b=>by
 subst c;subst e;rw[Blk.cell h];have d:=(List.getElem?_eq_some_iff.1 b).1;simp only[o6];rw[uH ah,aae,oD d,b]
theorem akW{A B:List Value}{x y:Value}{o:Nat}(a:A.length=o):(A++x::B).toArray.setIfInBounds o y=(A++y::B).toArray:=by
 subst a;simp
theorem qR:∀(vs xs A B:List Value) (w:Wd),Blk w g t (A++(xs++B)).toArray->vs.length=xs.length->Blk (w.setCells g A.length vs) g t (A++(vs++B)).toArray
 |[],[],A,B,w,h,_=>by simpa[World.setCells] using h
 |v::vs,x::xs,A,B,w,h,hl=>by
  have h1:=Blk.set_ h A.length v;rw[List.cons_append,akW rfl] at h1;have a:=qR vs xs (A++[v]) B (w.setCell ⟨g,A.length,none⟩ v) ja xZ;simpa[World.setCells] using a
theorem iJ{B b:Nat}{a:Wd}(c:B<=b):∀(vs:List Value) (o:Nat) (w:Wd),Below B a w->Below B a (w.setCells b o vs)
 |[],_,_,h=>h
 |v::vs,o,w,h=>iJ c vs (o+1) _ (h.setCell c v)
theorem cZ{k b:Nat}{d:TypeId}{a:Array Value}(c:k≠b):∀(vs:List Value) (o:Nat) (w:Wd),Blk w k d a->Blk (w.setCells b o vs) k d a
 |[],_,_,h=>h
 |v::vs,o,w,h=>cZ c vs (o+1) _ (Blk.far h (p:=⟨b,o,none⟩) c v)
end
section
variable {w w':Wd} {g:Nat} {m:Mm}
theorem MB.R(h:MB w g m)(_:m.ok):w.rangeAt g 0 (au m.r):=iP h [] (au m.r) _ rfl rfl
theorem MB.P(h:MB w g m)(k:m.ok):w.rangeAt g 8 (au m.p):=iP h (au m.r) (au m.p) (au m.e++m.tl) rfl (by rw[bf,k.r])
theorem MB.E(h:MB w g m)(k:m.ok):w.rangeAt g 16 (au m.e):=iP h (au m.r++au m.p) (au m.e) m.tl (by unfold Mm.cs Mm.tl;simp only[oZ]) (by simp only[dN,bf,k.r,k.p])
theorem MB.T(h:MB w g m)(k:m.ok):w.rangeAt g 96 m.tl:=iP h (au m.r++(au m.p++au m.e)) m.tl [] (by unfold Mm.cs Mm.tl;simp only[oZ,xU]) ahr
theorem MB.cga(h:MB w g m)(k:m.ok):w.cell? ⟨g,96,none⟩=some (.int .i64 m.ga):=h.T k 0 _ rfl
theorem MB.cpi(h:MB w g m)(k:m.ok):w.cell? ⟨g,97,none⟩=some (.int .i64 m.pi):=h.T k 1 _ rfl
theorem MB.cla(h:MB w g m)(k:m.ok):w.cell? ⟨g,98,none⟩=some (.int .i64 m.la):=h.T k 2 _ rfl
theorem MB.cer(h:MB w g m)(k:m.ok):w.cell? ⟨g,99,none⟩=some (.int .i64 m.er):=h.T k 3 _ rfl
theorem MB.cse(h:MB w g m)(k:m.ok):w.cell? ⟨g,100,none⟩=some (.int .i64 m.se):=h.T k 4 _ rfl
theorem MB.csi(h:MB w g m)(k:m.ok):w.cell? ⟨g,101,none⟩=some (.bool m.si):=h.T k 5 _ rfl
theorem MB.whole(h:MB w g m):w.rangeAt g 0 m.cs:=iP h [] m.cs [] ay rfl
theorem MB.frozen(h:MB w g m)(i:Nat):w.frozen? ⟨g,i,none⟩=false:=Blk.frozen h i
theorem MB.new(w:Wd)(m:Mm):MB (w.alloc (.cells m.ag 55)) w.heap.size m:=Blk.new w _ _
theorem Mm.len(m:Mm)(k:m.ok):m.cs.length=102:=by unfold Mm.cs;simp only[dN,bf,k.r,k.p,k.e,xR,aaf]
theorem Mm.size(m:Mm)(k:m.ok):m.ag.size=102:=by unfold Mm.ag;rw[zk,m.len k]
theorem Mm.one(m:Mm):m.ag.all (·.oneCell')=true:=by
 rw[JY];intro v a;have:v∈m.cs:=by simpa[Mm.ag] using a
 unfold Mm.cs at this;simp only[Ri,zt,zu,yZ] at this;rcases this with h|h|h|h|h|h|h|h|h
 ·exact o9 _ _ h
 ·exact o9 _ _ h
 ·exact o9 _ _ h
 all_goals (subst h;rfl)
theorem MB.there(h:MB w g m)(k:m.ok):w.there g 0 102:=fun j a=>by
 refine⟨?_,Blk.frozen h _⟩;rw[Blk.cell h];have:0+j<m.ag.size:=by rw[m.size k];omega
 rw[xP this];rfl
theorem MB.thereE(h:MB w g m)(k:m.ok):w.there g 16 80:=fun j b=>by
 have a:=h.there k (16+j) ah;rwa [qK] at a
theorem MB.set_e(h:MB w g m)(k:m.ok)(e:Lz)(d:e.length=80):MB (w.setCells g 16 (au e)) g {m with e:=e}:=by
 have c:Blk w g 55 ((au m.r++au m.p)++(au m.e++m.tl)).toArray:=by
  have b:m.ag=((au m.r++au m.p)++(au m.e++m.tl)).toArray:=aaI;rw[<-b];exact h
 have a:=qR (au e) (au m.e) _ _ w c (by rw[bf,bf,d,k.e]);have f:(au m.r++au m.p).length=16:=by simp only[dN,bf,k.r,k.p]
 rw[f] at a;have S:({m with e:=e}:Mm).ag=((au m.r++au m.p)++(au e++m.tl)).toArray:=aaI;unfold MB;rw[S];exact a
theorem MB.set_tl(h:MB w g m)(k:m.ok)(j:Nat)(v:Value)(a:Mm)(n:a.r=m.r)(l:a.p=m.p)(f:a.e=m.e)(F:a.tl=m.tl.set j v)(o:j<6):MB (w.setCell ⟨g,96+j,none⟩ v) g a:=by
 have c:=Blk.set_ h (96+j) v;have b:∀m:Mm,m.ag=((au m.r++(au m.p++au m.e))++m.tl).toArray:=fun m=>aaI;have i:(au m.r++(au m.p++au m.e)).length=96:=ahr;have d:m.ag.setIfInBounds (96+j) v=a.ag:=by
  rw[b m,b a,n,l,f,F];simp only[bg];rw[RV _ _ ah,i,aae]
 rw[d] at c;exact c
theorem MB.set_se(h:MB w g m)(k:m.ok)(x:Int):MB (w.setCell ⟨g,100,none⟩ (.int .i64 x)) g {m with se:=x}:=h.set_tl k 4 (.int .i64 x) _ rfl rfl rfl rfl ah
theorem MB.set_er(h:MB w g m)(k:m.ok)(x:Int):MB (w.setCell ⟨g,99,none⟩ (.int .i64 x)) g {m with er:=x}:=h.set_tl k 3 (.int .i64 x) _ rfl rfl rfl rfl ah
theorem Mm.ok.se{m:Mm}(k:m.ok)(x:Int):({m with se:=x}:Mm).ok:=⟨k.r,k.p,k.e⟩
theorem Mm.ok.ex{m:Mm}(k:m.ok){e:Lz}(a:e.length=80):({m with e:=e}:Mm).ok:=⟨k.r,k.p,a⟩
end
theorem sS:(Tryz.prog.info? 55).map (·.size)=some 102:=aB
section
variable {w:Wd} {g:Nat} {m:Mm}
theorem dW{b:Array Oper}{rest:List Oper}{o:Oper}{a:Act}{Q:Exit->Act->Wd->Prop}(c:o.guard=none)(x y:Operand)(d:o.op=.store 55 x y)
 (g:Nat) (f:Mm) (m:Mm) (e:a.eval x=.pointer (some ⟨g,0,none⟩)) (i:a.eval y=.agg m.ag) (h:MB w g f) (j:f.ok) (k:m.ok)
 (l:wpList Tryz.prog b Q rest (a.put o.dst undef) (w.setRow g m.ag)):wpList Tryz.prog b Q (o::rest) a w:=
 Rh c 55 x y d g m.ag e i 55 f.ag h U0 (by rw[m.size k,f.size j]) m.one l
theorem iK{b:Array Oper}{rest:List Oper}{o:Oper}{a:Act}{Q:Exit->Act->Wd->Prop}(e:Region.wanted o (yielded b a.tmps)=true)(x:Operand)(d:o.op=.load 55 x)
 (g:Nat) (m:Mm) (f:a.eval x=.pointer (some ⟨g,0,none⟩)) (h:MB w g m) (i:m.ok)
 (j:wpList Tryz.prog b Q rest (a.put o.dst (.agg m.ag)) w):wpList Tryz.prog b Q (o::rest) a w:=
 JZ e fun K c=>J9 55 x d g f 55 m.ag (0,0) _ h kG rfl (by rw[sS,m.size i]) (c _ _ j)
theorem MB.setRow{f:Mm}(h:MB w g f)(m:Mm):MB (w.setRow g m.ag) g m:=QZ w g _ _ _ _ h
theorem acv{fn:Func}{p:Tmp}(h:fn.results= #[.cell p 55])(a:Array Value)(w:Wd)(g:Nat)(m:Mm)
 (hp:a.getD p undef=.pointer (some ⟨g,0,none⟩)) (G:MB w g m) (k:m.ok):
 (results fn a).run Tryz.prog w=.ok (.agg m.ag) w:=by
 have b:a[p]?.getD undef=.pointer (some ⟨g,0,none⟩):=uV;have c:=vO (P:=Tryz.prog) w g 55 55 m.ag (0,0) _ G kG rfl U0;simp[results,h,b,asAddr,c]
theorem yC{fn:Func}{p q r:Tmp}(h:fn.results= #[.cell p 55,.tmp q,.tmp r])(a:Array Value)(w:Wd)(g:Nat)(m:Mm)
 (hp:a.getD p undef=.pointer (some ⟨g,0,none⟩)) (G:MB w g m) (k:m.ok):
 (results fn a).run Tryz.prog w=.ok (.tuple #[.agg m.ag,a.getD q undef,a.getD r undef]) w:=by
 have b:a[p]?.getD undef=.pointer (some ⟨g,0,none⟩):=uV;have c:=vO (P:=Tryz.prog) w g 55 55 m.ag (0,0) _ G kG rfl U0;simp[results,h,b,asAddr,c]
end
def aZ:Mm:=⟨List.replicate 8 0,List.replicate 8 0,List.replicate 80 0,0,0,0,0,0,false⟩
theorem df:aZ.ok:=⟨rfl,rfl,rfl⟩
theorem vw:Tryz.zeroCells55=aZ.ag:=aB
def pkN(i:Nat):Nat:=(pkB.getD i 0).toNat
def pkA:Nat->Nat
 |0=>0
 |n+1=>pkA n+pkN n
def pkX(ps:Lz):Nat->Nat
 |0=>0
 |n+1=>pkX ps n*2^pkN n+(ps.getD n 0).toNat
def pkV(ps:Lz):Nat->Nat
 |0=>0
 |n+1=>pkV ps n|||(ps.getD n 0).toNat<<<(112-pkA n-pkN n)
theorem yI:pkA 25=106:=aA
theorem Je(h:n<=25):pkA n<=106:=by
 have:∀m,m<=25->pkA m<=106:=aA;exact this n h
theorem DT(h:n<25):pkN n<=6/\pkB.getD n 0=(pkN n:Nat)/\pkT.getD n 0<2^pkN n:=by
 have:∀m,m<25->pkN m<=6/\pkB.getD m 0=(pkN m:Nat)/\pkT.getD m 0<2^pkN m:=aA;exact this n h
theorem OO(h:dD ps 25=true)(a:n<25):(ps.getD n 0).toNat<2^pkN n/\ps.getD n 0=((ps.getD n 0).toNat:Nat):=by
 have b:=Jc h a;have c:=(DT a).2.2;unfold qA at b;generalize ps.getD n 0=x at*
 generalize pkT.getD n 0=t at*
 have e:((2^pkN n:Nat):Int)=2^pkN n:=ay;rw[<-e] at c;omega
theorem adJ(a b n:Nat):(a|||b)<<<n=a<<<n|||b<<<n:=by
 apply Ci;intro i;simp only[Lt,Cj];cases decide (i>=n)<;>simp
theorem adK{ps:Lz}(h:dD ps 25=true):∀n,n<=25->pkV ps n=pkX ps n<<<(112-pkA n)
 |0,_=>by simp[pkV,pkX]
 |n+1,hn=>by
  have c:=adK h n ah;have b:=(OO h (n:=n) ah).1;have a:=Je (n:=n+1) hn;simp only[pkA] at a;simp only[pkV,pkX,pkA];rw[c,<-Fg,aao b,adJ,<-Nat.shiftLeft_add,show pkN n+(112-(pkA n+pkN n))=112-pkA n from ah,show 112-pkA n-pkN n=112-(pkA n+pkN n) from ah]
theorem Jf{ps:Lz}(h:dD ps 25=true):∀n,n<=25->pkX ps n<2^pkA n
 |0,_=>by simp[pkX,pkA]
 |n+1,hn=>by
  have b:=Jf h n ah;have c:=(OO h (n:=n) ah).1;simp only[pkX,pkA];rw[lD];have a:(pkX ps n+1)*2^pkN n<=2^pkA n*2^pkN n:=xJ _ b;rw[Nat.add_mul,Nat.one_mul] at a;omega
def pkQ(ps:Lz):Nat:=(iC (ps.getD 0 0)+iC (ps.getD 9 0)+iC (ps.getD 17 0))%2
theorem adL(ps:Lz):nT ps=(pkQ ps:Nat):=rfl
def pkW(ps:Lz):Nat:=pkV ps 25|||pkQ ps<<<5
theorem adM(h:dD ps 25=true):pkW ps=(pkX ps 25*2+pkQ ps)*2^5:=by
 have a:pkQ ps<2^1:=oV _ aA;have e:pkX ps 25*2+pkQ ps=pkX ps 25<<<1|||pkQ ps:=by rw[<-aao a,Fg]
 unfold pkW;rw[adK h 25 ah,yI,e,<-Fg,adJ,<-Nat.shiftLeft_add]
theorem amr(h:dD ps 25=true):pkW ps<2^112:=by
 have a:=Jf h 25 ah;rw[yI] at a;have b:pkQ ps<2:=oV _ aA;rw[adM h];omega
theorem adN(V:Nat):Byts (jd V):=fun i=>by
 rw[bK];by_cases h:i<14
 ·rw[Jd V h]
  have:=XI V (8*(13-i));simp only[aap];omega
 rw[iy MS];simp
def qY(ps:Lz):Lz:=if dD ps 25=true then jd (pkW ps)++[chk (jd (pkW ps))] else[]
def Aw(ps:Lz):Int:=if dD ps 25=true then 0 else 2
def nb(xs:Lz):Nat->Nat
 |0=>0
 |k+1=>nb xs k*256+(xs.getD k 0).toNat
theorem XT(b:Byts xs)(k:Nat):nb xs k<2^(8*k):=by
 induction k with
 |zero=>simp[nb]
 |succ k ih=>
  have h:=b k;simp only[nb];rw[show 8*(k+1)=8*k+8 from ah,lD];have c:(nb xs k+1)*256<=2^(8*k)*256:=xJ _ ih;have a:(2:Nat)^8=256:=rfl;rw[a];omega
theorem ams(b:Byts xs)(k d:Nat):nb xs (k+d)/2^(8*d)=nb xs k:=by
 induction d with
 |zero=>simp
 |succ d ih=>
  have h:=b (k+d);rw[show 8*(d+1)=8+8*d from ah,lD,<-xN,show k+(d+1)=(k+d)+1 from ah];simp only[nb];rw[show(nb xs (k+d)*256+(xs.getD (k+d) 0).toNat)/2^8=nb xs (k+d) by
   have a:(2:Nat)^8=256:=rfl;rw[a];omega,ih]
theorem amu(a:Byts xs){j:Nat}(c:j<14):jG (nb xs 14) (8*(13-j))=(xs.getD j 0).toNat:=by
 have h:=ams a (j+1) (13-j);rw[show j+1+(13-j)=14 from ah] at h;unfold jG;rw[h];have b:=a j;simp only[nb];omega
def gt(V a n:Nat):Nat:=V>>>(112-a-n)%2^n
theorem Jg(V a n:Nat):gt V a n<2^n:=oV _ (vS n)
theorem amv{V e q:Nat}(b:q<8):jG V e/2^q%2=V>>>(e+q)%2:=by
 apply Ci;intro i;rw[show(2:Nat)=2^1 from rfl,Cf,Cf,Ls,DN,SK];by_cases h:i<1
 ·have a:i=0:=ah
  subst a;simp[b]
 simp[h]
theorem amw(y m:Nat):(y/2%2^m)*2+y%2=y%2^(m+1):=by
 rw[uy,jm (2^m) 2,Nat.mod_mul];omega
def uF(V i:Nat):Nat:=gt V (pkA i) (pkN i)
def uL(V n:Nat):Lz:=(List.range 25).map (fun i=>if i<n then(uF V i:Int) else 0)
theorem iQ(V n:Nat):(uL V n).length=25:=by simp[uL]
theorem amx(V:Nat):uL V 0=List.replicate 25 0:=by
 refine y8 fun j=>?_;by_cases a:j<25
 ·rw[BO,if_pos a]
  unfold uL;simp[a]
 rw[iy (by rw[iQ];omega),iy (by rw[rW];omega)]
theorem amy(V:Nat){i:Nat}(hi:i<25):(uL V i).set i (uF V i:Nat)=uL V (i+1):=by
 refine y8 fun j=>?_;by_cases a:j<25
 ·rw[Ku,iQ]
  unfold uL;simp only[qg,vU a,uz];by_cases e:i=j
  ·subst e
   rw[if_pos rfl,if_pos hi,if_pos ah]
  rw[if_neg e];congr 1;by_cases h:j<i
  ·rw[if_pos h,if_pos ah]
  rw[if_neg h,if_neg ah]
 rw[iy (by rw[fP,iQ];omega),iy (by rw[iQ];omega)]
theorem adO(V n:Nat):W64 (uL V n):=by
 intro x b;unfold uL at b;obtain⟨i,hi,rfl⟩:=List.mem_map.1 b;have a:i<25:=Nc;have d:=Jg V (pkA i) (pkN i);have c:=(DT a).1;have e:2^pkN i<=2^6:=jK aA c;unfold uF;split<;>omega
def unV(xs:Lz):Nat:=nb xs 14
def unE(xs:Lz):Int:=
 if xs.length≠15 then 1 else if chk (xs.take 14)≠xs.getD 14 0 then 5 else if unV xs%32≠0 then 3 else if dD (uL (unV xs) 25) 25=false then 2 else if nT (uL (unV xs) 25)≠(unV xs/32%2:Nat) then 3 else 0
def unL(xs:Lz):Lz:=if unE xs=0 then uL (unV xs) 25 else List.replicate 25 0
theorem yJ(xs:Lz):(unL xs).length=25:=by
 unfold unL;split
 ·exact iQ _ _
 rfl
theorem adP(V:Nat):gt V 106 1=V/32%2:=by
 unfold gt;rw[Td]
theorem dF:(Tryz.prog.info? 81).map (·.size)=some 25:=aB
theorem aoq(n:Nat):(madeCells (Value.int .u8 0).cells (n*1)).toList=bts (List.replicate n 0):=by
 rw[ou];show(madeCells #[Value.int .u8 0] n).toList=_;rw[ZP];simp[bts]
theorem YW{e:Array Oper}{rest:List Oper}{o:Oper}{a:Act}{w:Wd}{Q:Exit->Act->Wd->Prop}(i:o.guard=none)(l c:Operand)
 (s:o.op=.makeSlice 32 l c) (p m:IntKind) (n:Nat) (r:a.eval l=.int p (n:Int)) (q:a.eval c=.int m (n:Int)) (base:Nat) (u:n<=17592186044416) (b:base<=w.heap.size)
 (h:∀g,OwnB g base (some ⟨w.heap.size,0,none⟩) n (List.replicate n 0)->w.grownBy g none->wpList Tryz.prog e Q rest (a.put o.dst (.slice (some ⟨w.heap.size,0,none⟩) n n)) g):
 wpList Tryz.prog e Q (o::rest) a w:=by
 obtain⟨t,hi,j,k,D⟩:=mJ abQ;refine xM w i l c 32 s base 5 t (.int .u8 0) 1 Bq hi j k p m (n:Int) (n:Int) n r q rfl rfl wJ jg b ?_;intro g f d;refine h g ?_ d;unfold OwnB;rw[rW];rw[<-aoq];simpa using f
theorem OwnB.blk{base:Nat}(h:OwnB w base (some ⟨g,0,none⟩) xs.length xs)(c:0<xs.length):Blk w g 5 (bts xs).toArray:=by
 rcases h.2 with⟨_,h0⟩|⟨C,cap,d,hv,_,G,h1,_,h3,h4⟩
 ·omega
 injection hv with hA _ hc;injection hA with hA;injection hA with hA _ _;subst hA;subst hc;have e:d=(bts xs).toArray:=by
  have b:d.toList.length=xs.length:=by simpa using h3
  have a:d.toList.take xs.length=bts xs:=by simpa using h4
  rw[kU ah] at a;rw[<-a]
 rw[<-e];exact G
theorem aor:pkL 0=List.replicate 15 0:=aA
theorem TwoP.cell{h:Nat}{e:Wd}(a:TwoP g h w e)(b:w.cell? p=some v)(f:p.block≠g)(i:p.block≠h):e.cell? p=some v:=by
 have d:p.block<w.heap.size:=by
  rcases yX p.block w.heap.size with c|c
  ·exact c
  unfold World.cell? at b;rw[yY c] at b;simp at b
 have:=a.keep p.block d f i;unfold World.cell? at*
 rw[this];exact b
theorem Pst.size{c b a V:Nat}{W:Wd}(s:Pst c b a V n W):a<W.heap.size:=Blk.lt s.A
theorem YX(h:w.cell? p=some v):p.block<w.heap.size:=by
 exact VO
theorem aos(h:Blk w g 5 (bts xs).toArray):Rb w w.heap.size (some ⟨g,0,none⟩) xs:=
 ⟨by rw[sH,ou],fun _=>⟨_,rfl,Blk.lt h,fun j u a=>by rw[lN,Blk.cell h j];simpa using a⟩⟩
theorem aot{V:Nat}(h:Blk w g 5 (bts (pkL V)).toArray):Rb w w.heap.size (some ⟨g,0,none⟩) (jd V):=
 ⟨by rw[sH,ou],fun _=>⟨_,rfl,Blk.lt h,fun j u b=>by
   have a:j<(bts (jd V)).length:=(List.getElem?_eq_some_iff.1 b).1;rw[lN,Blk.cell h j,<-b];unfold pkL;rw[<-abP,o6,oD a]⟩⟩
def Qi(ps:Lz)(w:Wd)(e:Ending)(w':Wd):Prop:=∃A c,e=.returned (.tuple #[.slice A (qY ps).length c,.int .i64 (Aw ps)])/\OwnB w' w.heap.size A c (qY ps)/\Bw w w'
theorem afc{base:Nat}(h:Blk w g 5 (bts xs).toArray)(a:base<=g)(b:xs.length<=1000):OwnB w base (some ⟨g,0,none⟩) xs.length xs:=
 ⟨by rw[sH,ou],.inr ⟨g,xs.length,(bts xs).toArray,rfl,a,h,ax _,jg,by simp[sH],by rw[ou];show(bts xs).take xs.length=bts xs;rw[kU (by rw[sH];exact ax _)]⟩⟩
theorem aou{base:Nat}(c:xs.length=n)(h:Blk w g 5 (bts xs).toArray)(a:base<=g)(b:n<=1000):OwnB w base (some ⟨g,0,none⟩) n xs:=by
 subst c;exact afc h a b
theorem OwnB.more{base base' c:Nat}{A:Oz}(h:OwnB w base A c xs)(a:base'<=base):OwnB w base' A c xs:=by
 exact aiM
theorem aov(ps:Lz)(w:Wd)(T:TabA w 3 dh)(hl:ps.length=25)(hw:W64 ps):
 Cl 33 #[.agg (agi ps)] w (Qi ps w):=by
 have hmf:∀(fn:Fn) (first cap:Array Value) (w:Wd),(Instr.makeFunc fn first cap).run Tryz.prog w=.ok (.func fn first cap) w:=fun _ _ _ _=>rfl;have P0:=af (IB.new w 81 ps);have N:=af (baqq w (.cells (agi ps) 81));have T0:=af (T.below N.o);have HL:=af hl;obtain⟨V,hV⟩:=ak (w.alloc (.cells (agi ps) 81));rw[<-hV] at P0 N T0;have HV:=af hV;have KG:=af (adC ps V T0.o hl);have KP:=af (fun W=>adD ps W hl hw);clear T hl hw hV;by_cases G:dD ps 25=true
 ·have HG:=af G
  have j:=aj (qY ps=jd (pkW ps)++[chk (jd (pkW ps))]) (if_pos G);have y:=aj (Aw ps=0) (if_pos G);rw[G] at KG;clear G;go_enter Tryz.func33,Tryz.ntmps33;go_wp2_with(first
   |(rw[<-HV.o];clear HV)
   |(refine aK 81 (.tmp 1) ps 25 P0.o gu dF HL.o ?_)
   |(go_at_call 82;(with_reducible refine KG.o.mono ?_);rintro e k ⟨rfl,q⟩;have P1:=af (Blk.below' P0.o q);have T1:=af (T0.o.below q);have B1:=af (aH N.o q);clear q)
   |(at_make;refine YW rfl _ _ rfl .i64 .i64 15 rfl rfl k.heap.size ah (ax _) ?_;intro m U hG;have G2:=af (OwnB.blk U ay);have O:=af ((aP k.heap.size k).grown hG (ax _) ay);have F:=af (Blk.below' P1.o O.o);have T2:=af (T1.o.below O.o);have B2:=af (aH B1.o O.o);clear U hG))
  obtain⟨W3,Z⟩:=ak (((m.alloc (.cells #[.slice (some ⟨k.heap.size,0,none⟩) 15 15] 32)).alloc (.cells #[.int .i64 0] 3)));have Q:Bw m W3:=by rw[Z];exact(baqq m _).alloc ay _
  have g:=aj (k.heap.size<m.heap.size) (Blk.lt G2.o);have S3:=af (show Pst k.heap.size m.heap.size (m.heap.size+1) 0 0 W3 from
   ⟨by rw[aor];exact Blk.below' G2.o Q,by rw[Z];exact Blk.alloc (Blk.new m _ _) _,by
     have h:=Blk.new (m.alloc (.cells #[.slice (some ⟨k.heap.size,0,none⟩) 15 15] 32)) 3 #[.int .i64 0];simp only[bT] at h;rw[Z];exact h,g.o,mP _⟩)
  have P3:=af (Blk.below' F.o Q);have T3:=af (T2.o.below Q);have B3:=af (aH B2.o Q);rw[<-Z];have P:=aj (w.heap.size<k.heap.size) (Blk.lt P1.o);clear Q Z;refine(XN w.heap.size W3 T3.o).mono ?_;rintro e w4 ⟨A,c,rfl,U,q⟩;obtain⟨b,rfl,hb1,hb2,hb3⟩:=OwnF.at_ U ah;have HB2:=af hb2;have L:=af hb3;have P4:=af (Blk.below' P3.o q);have B4:=af (aH B3.o q);have S4:=af (S3.o.below q);have LB3:=aj (m.heap.size+1<b) (by have:=S3.o.size;omega);clear U q hb1 hb2 hb3 T0 T1 T2 T3 P0 P1 F P3 N B1 B2 B3 G2 O S3;go_wp2;go_loopw[16] (fun iv wr=> ∃i:Nat,i<=25/\iv=.int .i64 i/\Hy (Pst k.heap.size m.heap.size (m.heap.size+1) (pkV ps i) (pkA i) wr)/\Hy (TwoP k.heap.size (m.heap.size+1) w4 wr)) (fun iv _=>25-(intOf iv).toNat)
  case atStart=>exact⟨0,ah,rfl,S4,af (TwoP.refl _ _ _)⟩
  case round=>
   clear S4;obtain⟨i,hi,rfl,C,E⟩:=hrel;by_cases hlt:i<25
   ·obtain⟨f0,f1,f2⟩:=L.o i hlt
    have hs12:=g.o;have hs1:=P.o;have hlb:=LB3.o;have H:b≠k.heap.size:=ah;have I:b≠m.heap.size+1:=ah;have r:w.heap.size≠k.heap.size:=ah;have s:w.heap.size≠m.heap.size+1:=ah;have c0:wr.cell? ⟨b,i*3,none⟩=some (.pointer (some ⟨w.heap.size,i,none⟩)):=(by rw[jm];exact E.o.cell f0 H I);have c1:wr.cell? ⟨b,i*3+1,none⟩=some (.int .i64 (pkB.getD i 0)):=(by rw[jm];exact E.o.cell f1 H I);have c2:wr.cell? ⟨b,i*3+2,none⟩=some (.int .i64 (pkT.getD i 0)):=(by rw[jm];exact E.o.cell f2 H I);have p0:wr.cell? ⟨w.heap.size,i,none⟩=some (.int .i64 (ps.getD i 0)):=E.o.cell (IB.cell P4.o i qN) r s;obtain⟨hv1,l⟩:=OO HG.o hlt;obtain⟨hn1,hn2,_⟩:=DT hlt;have ha:=Je (n:=i+1) ah;have f:=aj (pkV ps (i+1)=pkV ps i|||(ps.getD i 0).toNat<<<(112-pkA i-pkN i)) (rfl);have SY:=aj (pkA (i+1)=pkA i+pkN i) (rfl);rw[SY.o] at ha;rw[l] at p0;rw[hn2] at c1;generalize (ps.getD i 0).toNat=v at*
    generalize pkN i=n at*
    generalize pkT.getD i 0=t at*
    have hbl:=(YX c0);have hpl:=(YX p0);have i0:(0:Int)<=i:=ah;have i25:(i:Int)<25:=ah;obtain⟨W,Y⟩:=ak (wr.alloc (.cells #[.pointer (some ⟨w.heap.size,i,none⟩),.int .i64 (n:Nat),.int .i64 t] 133));have d:Bw wr W:=(by rw[Y];exact baqq _ _);have q0:W.cell? ⟨wr.heap.size,0,none⟩=some (.pointer (some ⟨w.heap.size,i,none⟩)):=(by rw[Y];exact Blk.cell (Blk.new wr _ _) 0);have q1:W.cell? ⟨wr.heap.size,1,none⟩=some (.int .i64 (n:Nat)):=(by rw[Y];exact Blk.cell (Blk.new wr _ _) 1);have qx:W.cell? ⟨w.heap.size,i,none⟩=some (.int .i64 (v:Nat)):=(d.cell (p:=⟨w.heap.size,i,none⟩) hpl).trans p0;have SW:=af (C.o.below d);have TW:=af (E.o.trans (TwoP.of_below d));have hgl:=C.o.size;have nr1:wr.heap.size≠k.heap.size:=ah;have nr2:wr.heap.size≠m.heap.size+1:=ah;have J:=af (adI k.heap.size m.heap.size (m.heap.size+1) (pkV ps i) (pkA i) v n W.drew SW.o.drew ah hv1 ah);clear f0 f1 f2 l hn2;go_wp2;rw[<-Y];clear Y c0 c1 c2 p0 d;go_region_held3 (fun w'=>w'.cell? ⟨wr.heap.size,0,none⟩=some (.pointer (some ⟨w.heap.size,i,none⟩))/\w'.cell? ⟨wr.heap.size,1,none⟩=some (.int .i64 (n:Nat))/\w'.cell? ⟨w.heap.size,i,none⟩=some (.int .i64 (v:Nat))) (go_keep) (first
     |(go_at_call 83;(with_reducible refine J.o.mono ?_);rintro e' w5 ⟨rfl,X,x⟩;have k0:=x.cell (p:=⟨wr.heap.size,0,none⟩) q0 nr1 nr2;have k1:=x.cell (p:=⟨wr.heap.size,1,none⟩) q1 nr1 nr2;have k2:=x.cell (p:=⟨w.heap.size,i,none⟩) qx r s;have S5:=af X;have T5:=af (TW.o.drew.trans x);clear X x))
    rename_i hHeldZ;clear hHeldZ k0 k1 k2 q0 q1 qx;try simp only[Exit.then]
    go_wp2;go_roundw;case rel=>exact⟨i+1,ah,aT,af (by rw[f.o,SY.o];exact S5.o),T5⟩
    case measure=>exact aW
   obtain rfl:i=25:=ah;try rw[show((25:Nat):Int)=25 from rfl]
   have hs12:=g.o;have hs1:=P.o;have r:w.heap.size≠k.heap.size:=ah;have s:w.heap.size≠m.heap.size+1:=ah;have PE:=af (E.o.blk P4.o r s);have BE:=af (B4.o.trans (E.o.below (B:=w.heap.size) (by have:=B4.o.size;exact this) ah ah));have KQ:=af (fun W (S:Pst k.heap.size m.heap.size (m.heap.size+1) (pkV ps 25) (pkA 25) W)=>show Cl 83 #[.int .i64 (pkQ ps:Nat),.int .i64 1,.pointer (some ⟨m.heap.size,0,none⟩),.pointer (some ⟨m.heap.size+1,0,none⟩)] W (fun e w'=>e=.returned (.tuple #[])/\Pst k.heap.size m.heap.size (m.heap.size+1) (pkV ps 25|||pkQ ps<<<(112-pkA 25-1)) (pkA 25+1) w'/\TwoP k.heap.size (m.heap.size+1) W w') from adI k.heap.size m.heap.size (m.heap.size+1) (pkV ps 25) (pkA 25) (pkQ ps) 1 W S ah (oV _ aA) (by rw[yI];omega));rw[adL] at KP;have HWW:=aj (pkV ps 25|||pkQ ps<<<(112-pkA 25-1)=pkW ps) (by rw[yI];rfl);rw[HWW.o] at KQ;clear L P4 B4;generalize pkQ ps=qq at*
   go_wp2_with(first
    |(refine aK 81 (.tmp 1) ps 25 PE.o gu dF HL.o ?_)
    |(go_at_call 85;(with_reducible refine(KP.o wr).mono ?_);rintro e w6 ⟨rfl,q⟩;have S6:=af (C.o.below q);have u:=af (aH BE.o q);clear q)
    |(go_at_call 83;(with_reducible refine(KQ.o w6 S6.o).mono ?_);rintro e' w7 ⟨rfl,X,x⟩;have M:=af X;have K:=af (u.o.trans (x.below (B:=w.heap.size) (by have:=u.o.size;exact this) ah ah));clear X x;have cB:w7.cell? ⟨m.heap.size,0,none⟩=some (.slice (some ⟨k.heap.size,0,none⟩) 15 15):=Blk.cell M.o.B 0))
   have KS:=af (adG (some ⟨k.heap.size,0,none⟩) 15 14 (jd (pkW ps)) w7.drew (aot (Blk.drew M.o.R)) (qC _) ah (adN _));have cE:w7.cell? ⟨k.heap.size,14,none⟩=some (.int .u8 0):=by
    rw[Blk.cell M.o.R 14];simp[bts,pkL,qC]
   have fE:=Blk.frozen M.o.R 14;have z:=af (fun(v:Int)=>show Blk (w7.drew.setCell ⟨k.heap.size,14,none⟩ (.int .u8 v)) k.heap.size 5 (bts (jd (pkW ps)++[v])).toArray from by
    have a:=Blk.set_ (Blk.drew M.o.R) 14 (.int .u8 v);have e:(bts (pkL (pkW ps))).toArray.setIfInBounds 14 (.int .u8 v)=(bts (jd (pkW ps)++[v])).toArray:=by
     rw[bg];unfold bts pkL;rw[<-ET,RV _ _ MS,qC];rfl
    rw[e] at a;exact a)
   have GE:=af (fun(v:Int)=>Blk.cell (Blk.far (Blk.drew M.o.B) (p:=⟨k.heap.size,14,none⟩) (show m.heap.size≠k.heap.size from ah) (.int .u8 v)) 0);have BF:=af (fun(v:Int)=>(K.o.drew).setCell (p:=⟨k.heap.size,14,none⟩) (show w.heap.size<=k.heap.size from ah) (.int .u8 v));have LN:=aj ((qY ps).length=15) (by rw[j.o,dN,qC];rfl);obtain⟨D,hck⟩:=ak (chk (jd (pkW ps)));rw[<-hck] at KS j;clear hck;have GE:=GE.o D;have hne3: ¬m.heap.size=k.heap.size:=ah;go_region_with ((go_at_call 86;(with_reducible refine KS.o.mono ?_);rintro e' w' ⟨rfl,rfl⟩))
   all_goals
    try simp only[Exit.then]
    go_wp2;go_ret2;exact⟨_,15,by rw[LN.o,y.o];rfl,by rw[j.o];exact aou (by rw[dN,qC];rfl) (z.o D) ah ah,BF.o D⟩
 ·have hgf:dD ps 25=false:=Gs
  have j:=aj (qY ps=[]) (if_neg G);have y:=aj (Aw ps=2) (if_neg G);rw[hgf] at KG;clear G hgf;go_enter Tryz.func33,Tryz.ntmps33;go_wp2_with(first
   |(rw[<-HV.o];clear HV)
   |(refine aK 81 (.tmp 1) ps 25 P0.o gu dF HL.o ?_)
   |(go_at_call 82;(with_reducible refine KG.o.mono ?_);rintro e k ⟨rfl,q⟩;have B1:=af (aH N.o q);clear q))
  exact ajf
theorem aoL:(Tryz.prog.info? 81).map (·.size)=some 25:=aB
theorem afI(ps:Lz)(w:Wd)(T:TabS w 2 dh)(m:ps.length=25):
 Cl 127 #[.agg (agi ps)] w fun e w'=>e=.returned (.bool (dD ps 25))/\Bw w w':=by
 have P0:=af (IB.new w 81 ps);have a:=af (baqq w (.cells (agi ps) 81));have f:=af (T.below a.o);have HL:=af m;clear T m;obtain⟨V,b⟩:=ak (w.alloc (.cells (agi ps) 81));rw[<-b] at P0 a f;have d:=af b;clear b;have p:=af (Zf ps V f.o HL.o);go_enter Tryz.func127,Tryz.ntmps127;go_wp2_with(first
  |(rw[<-d.o];clear d)
  |(refine aK 81 (.tmp 1) ps 25 P0.o gu aoL HL.o ?_)
  |(go_at_call 128;(with_reducible refine p.o.mono ?_);rintro e z ⟨A,D,A2,c2,B,c3,rfl,g,v,j,l⟩;have q:=af g.reads;have r:=af j.reads;have B1:=af (aH a.o l);clear g v j l))
 go_loopw[15] (fun c wr=> ∃i:Nat,i<=25/\c=.int .i64 i/\Hy (dD ps i=true)/\Hy (Bw z wr)) (fun c _=>25-(intOf c).toNat)
 case atStart=>exact⟨0,ah,rfl,af (adz ps),af (aP _ _)⟩
 case round=>
  obtain⟨i,hi,rfl,HP,H⟩:=hrel;by_cases hlt:i<25
  ·obtain⟨C,rfl,_,G⟩:=(q.o.below H.o).at_ (k:=i) qN
   obtain⟨R,rfl,_,I⟩:=(r.o.below H.o).at_ (k:=i) (by rw[XJ];exact hlt);have HN:=af (fun h=>adB (ps:=ps) hlt h);have n:=af (fun h=>adA HP.o h);have HD:=aj (qA ps i↔0<=ps.getD i 0/\ps.getD i 0<=pkT.getD i 0) (Iff.rfl);generalize ps.getD i 0=x at*
   generalize pkT.getD i 0=t at*
   have E:(0:Int)<=i:=ah;have y:(i:Int)<25:=ah;go_wp2;by_cases hx:x<0
   ·have s:decide (x<0)=true:=Gp
    exact aiy
   have s:decide (x<0)=false:=Gp;by_cases F:t<x
   ·have u:decide (t<x)=true:=by simpa using F
    exact aiy
   have u:decide (t<x)=false:=(by simpa using F);go_quiet (fail);go_wp2;go_roundw;case rel=>exact⟨i+1,ah,aT,af (n.o (HD.o.2 ah)),af (aH H.o (jL wr _))⟩
   case measure=>exact aW
  exact ai4
theorem aqv{ws:List Nat}(a:wok ws){k:Nat}(c:k<ws.length):ws.getD k 0=wv ws/2^(32*k)%2^32:=by
 have b:=ab3 ws a k ah;have d:ws.drop k=ws.getD k 0::ws.drop (k+1):=by
  rw[ZO c,bK,jU c];rfl
 have f:=nC a k;rw[d] at b;simp only[wv] at b;have e:(4294967296:Nat)^k=2^(32*k):=by rw[BK]
 rw[<-e,<-b,show(2:Nat)^32=4294967296 from rfl];omega
theorem aqw(X i:Nat):X/2^(32*(i/4))%2^32/2^(8*(i%4))%256=jG X (8*i):=by
 apply Ci;intro q;rw[DN,show 256=2^8 from rfl,Cf,Ls,Cf,Ls];by_cases a:q<8
 ·have b:q+8*(i%4)<32:=ah
  have c:q+8*(i%4)+32*(i/4)=8*i+q:=ah;rw[c];simp[a,b]
 simp[a]
def byN(X n i:Nat):Lz:=(List.range n).map (fun j=>if n-1-j<i then(jG X (8*(n-1-j)):Int) else 0)
theorem yS(X n i:Nat):(byN X n i).length=n:=by simp[byN]
theorem aqx(X n:Nat):byN X n 0=List.replicate n 0:=by
 refine y8 fun j=>?_;unfold byN;by_cases a:j<n
 ·simp[a]
 simp[a]
theorem aqy(X n:Nat){i:Nat}(hi:i<n):(byN X n i).set (n-1-i) (jG X (8*i):Nat)=byN X n (i+1):=by
 refine y8 fun j=>?_;by_cases a:j<n
 ·rw[Ku,yS]
  unfold byN;simp only[qg,vU a,uz];by_cases e:n-1-i=j
  ·rw[if_pos e,if_pos ah,if_pos ah,show n-1-j=i from ah]
  rw[if_neg e];congr 1;by_cases h:n-1-j<i
  ·rw[if_pos h,if_pos ah]
  rw[if_neg h,if_neg ah]
 rw[iy (by rw[fP,yS];omega),iy (by rw[yS];omega)]
theorem aqz{X:Nat}(d:n<=14)(a:X<2^(8*n)):List.replicate (14-n) 0++byN X n n=jd X:=by
 refine y8 fun j=>?_;by_cases b:j<14
 ·rw[Jd X b]
  by_cases h:j<14-n
  ·rw[oD (by simp;exact h),BO,if_pos h]
   have:X<2^(8*(13-j)):=je a (jK aA ah);unfold jG;rw[zf this];rfl
  rw[uH aC,rW];unfold byN;have c:j-(14-n)<n:=ah;simp only[qg,vU c,uz];rw[if_pos ah,show n-1-(j-(14-n))=13-j from ah]
 rw[iy (by simp[yS];omega),iy MS]
theorem OwnB.set_{base c:Nat}(h:OwnB w base (some ⟨g,0,none⟩) c xs)(k:Nat)(x:Int):OwnB (w.setCell ⟨g,k,none⟩ (.int .u8 x)) base (some ⟨g,0,none⟩) c (xs.set k x):=by
 have a:=World.ownsRow.stored (g:=g) (cap:=c) h k (.int .u8 x);unfold OwnB;rw[fP];have e:bts (xs.set k x)=(bts xs).set k (.int .u8 x):=by simp[bts,ET]
 rw[e];exact a.1
theorem OwnB.cell{base c:Nat}(h:OwnB w base (some ⟨g,0,none⟩) c xs)(k:Nat)(b:k<xs.length):w.cell? ⟨g,k,none⟩=some (.int .u8 (xs.getD k 0)):=by
 have a:=World.ownsRow.cellAt (g:=g) (cap:=c) h k ah;rw[a];exact Wl xs k b
theorem OwnB.frozen{base c:Nat}(h:OwnB w base (some ⟨g,0,none⟩) c xs)(k:Nat):w.frozen? ⟨g,k,none⟩=false:=World.ownsRow.frozenAt h k
def byC(X:Nat):Nat:=(gG X+7)/8
theorem aqA(X:Nat):X<2^(8*byC X):=je (Ie X) (jK aA (by unfold byC;omega))
theorem aqB{X:Nat}(h:X<2^112):byC X<=14:=by
 have:=zS h;unfold byC;omega
theorem aqC(w:Wd)(c X:Nat)(D:IntAt w c (X:Nat))(C:X<2^112):
 Cl 180 #[.pointer (some ⟨c,0,none⟩)] w fun e w'=> ∃g,e=.returned (.slice (some ⟨g,0,none⟩) (byC X) (byC X))/\w.heap.size<=g/\OwnB w' w.heap.size (some ⟨g,0,none⟩) (byC X) (byN X (byC X) (byC X))/\Bw w w':=by
 have Z:Sm (X:Int).natAbs:=bW (by show X<_;exact Nat.lt_trans C aA);obtain⟨v,_,l,m⟩:=D.cells;have m:Nm w v X:=m;have Z:Sm X:=Z;obtain⟨A,a,cap,ws,rfl,G,F,h,hl⟩:=m.len Z;have KL:=af (Wx w (.slice A a cap) X m Z);have hb1:gG X<=32*a:=by
  have z:=wY G.ok;rw[h,G.len] at z;have e:(4294967296:Nat)^a=2^(32*a):=by rw[BK]
  rw[e] at z;exact zS z
 have hb2:gG X<=112:=zS C;obtain⟨n,r⟩:=ak (byC X);rw[<-r];unfold byC at r;generalize gG X=bl at*
 have I:IntKind.i64.wrap ((bl:Int)+7)=(bl:Int)+7:=aV;have f:((bl:Int)+7)/8=(n:Nat):=ah;have L:=af D.lt;have t:=af l;have j:=af G;have x:=af h;have hn14:n<=14:=ah;have u:=af r;clear m F D Z r h C;go_enter Tryz.func180,Tryz.ntmps180;go_wp2_with(first
  |(go_at_call 161;(with_reducible refine KL.o.mono ?_);rintro e w' ⟨rfl,rfl⟩)
  |(at_make;refine YW rfl _ _ rfl .i64 .i64 n ahg ahg w.heap.size ah (ax _) ?_;intro w1 W T;have S:=af (show OwnB w1 w.heap.size (some ⟨w.heap.size,0,none⟩) n (byN X n 0) by rw[aqx];exact W);have R:=af ((aP w.heap.size w).grown T (ax _) ay);clear W T))
 try rw[f]
 clear I f l;go_loopw[5] (fun N wr=> ∃i:Nat,i<=n/\N=.int .i64 i/\Hy (OwnB wr w.heap.size (some ⟨w.heap.size,0,none⟩) n (byN X n i))/\Hy (Bw w wr)) (fun N _=>n-(intOf N).toNat)
 case atStart=>exact⟨0,ah,rfl,S,R⟩
 case round=>
  clear S R;obtain⟨i,hi,rfl,Q,H⟩:=hrel;by_cases E:i<n
  ·have hil:i/4<a:=by have:=u.o;omega
   obtain⟨g,O,rfl⟩:=j.o.addr ah;have rr:=j.o.below H.o (ax _);obtain⟨k,hk⟩:=ak (i/4);obtain⟨s,Z⟩:=ak (8*(i%4));obtain⟨J,V⟩:=ak (n-1-i);have cw:=rr.cell k ah;have Y:wr.cell? ⟨c,1,none⟩=some (.slice (some ⟨g,O,none⟩) a cap):=(H.o.cell (p:=⟨c,1,none⟩) L.o).trans t.o;have P:=aqv j.o.ok (k:=k) (by rw[j.o.len];omega);rw[x.o] at P;have wl:=nC j.o.ok k;have q:=aqw X i;rw[<-hk,<-Z] at q;rw[<-P] at q;have b:=af (aqy X n E);rw[<-V] at b;have co:=Q.o.cell J (by rw[yS];omega);have fo:=Q.o.frozen J;generalize ws.getD k 0=wk at*
   obtain⟨d,U⟩:=ak (jG X (8*i));rw[<-U] at q b;obtain⟨y,M⟩:=ak (wk/2^s);rw[<-M] at q;have hyd:(wk:Int)/2^s=(y:Nat):=(by rw[M];simp);have hd8:IntKind.u8.wrap ((y:Nat):Int)=(d:Nat):=Ux;have hw1:IntKind.i64.wrap ((n:Int)-1)=(n:Int)-1:=aV;have hw2:IntKind.i64.wrap ((n:Int)-1-i)=(J:Nat):=aV;have hk4:(i:Int)/4=(k:Nat):=ah;have hiu:IntKind.u64.wrap (i:Int)=i:=uN;have hms:IntKind.u64.wrap (8*((i:Int)%4))=(s:Nat):=uN;have s0:(0:Int)<=s:=ah;have s64:(s:Int)<64:=ah;have s32:(s:Int)<32:=ah;have J0:(0:Int)<=J:=ah;have Jn:(J:Int)<n:=ah;have k0:(0:Int)<=k:=ah;have kl:(k:Int)<a:=ah;have B:=aj (OwnB (wr.setCell ⟨w.heap.size,J,none⟩ (.int .u8 (d:Nat))) w.heap.size (some ⟨w.heap.size,0,none⟩) n (byN X n (i+1))) (by rw[<-b.o];exact Q.o.set_ J _);have K:=af (H.o.setCell (p:=⟨w.heap.size,J,none⟩) (ax _) (.int .u8 (d:Nat)));clear hk Z V U M P wl rr;go_wp2;go_roundw;case rel=>exact⟨i+1,ah,aT,B,K⟩
   case measure=>exact aW
  obtain rfl:i=n:=ah;go_wp2;go_ret;exact⟨_,rfl,ax _,Q.o,H.o⟩
theorem aqD{wr:Wd}{i:Nat}{t:TypeId}{a:Array Value}(h:Below B w wr)(f:Blk wr g t a)(hi:a[i]?=some v):Below B w (wr.setCell ⟨g,i,none⟩ v):=
 ⟨h.os,h.tape,h.output,by simpa[World.setCell] using h.size,fun k l=>by
   by_cases e:k=g
   ·subst e
    have d:=Blk.set_ f i v;have S:a.setIfInBounds i v=a:=by
     have c:i<a.size:=by
      rcases yX i a.size with b|b
      ·exact b
      ·rw[yY b] at hi;cases hi
     apply Array.ext
     ·simp
     ·intro j b m
      rw[Array.getElem_setIfInBounds];split
      ·rename_i e3
       subst e3;rw[xP c] at hi;exact(fQ hi).symm
      ·rfl
    rw[S] at d;exact d.trans (f.symm.trans (h.block k l))
   ·exact(lV wr _ v k e).trans (h.block k l)⟩
theorem agA:(Tryz.prog.info? 5).map (·.size)=some 1:=aB
theorem agB{X:Nat}(b:n<=14)(a:X<2^(8*n)):splice (bts (List.replicate 14 0)) (14-n) (bts (byN X n n))=bts (jd X):=by
 rw[<-aqz b a];unfold splice bts;rw[zq,yS,<-EU,<-JV,zi,List.take_replicate,List.drop_replicate];rw[show min (14-n) 14=14-n from ah,show 14-(14-n+n)=0 from ah];simp
theorem aqE{b:Addr}(h:Rb w B (some b) xs)(d:0<xs.length):∀j u,(bts xs)[j]?=some u->w.cell? (b.add j)=some u:=by
 obtain⟨a,e,_,c⟩:=h.2 d;injection e with e;subst e;exact c
theorem aqF(w:Wd)(c a X:Nat)(M:IntAt w c (X:Nat))(A:X<2^112)(B:Blk w a 5 (bts (List.replicate 14 0)).toArray):
 Cl 130 #[.pointer (some ⟨c,0,none⟩),.slice (some ⟨a,0,none⟩) 14 14] w fun e w'=>e=.returned (.slice (some ⟨a,0,none⟩) 14 14)/\Blk w' a 5 (bts (jd X)).toArray/\Below a w w':=by
 have L:=af M;have j:=af B;have t:=Blk.lt B;have b:=aqB A;have k:=aqA X;have z:=af (fun W (h:IntAt W c (X:Nat))=>aqC W c X h A);obtain⟨n,N⟩:=ak (byC X);rw[<-N] at b k z;have q:=af k;clear M B A N k;go_enter Tryz.func130,Tryz.ntmps130;go_wp2;go_loopw[9] (fun E wr=> ∃i:Nat,i<=14/\E=.int .i64 i/\Hy (Bw w wr)) (fun E _=>14-(intOf E).toNat)
 case atStart=>exact⟨0,ah,rfl,af (aP _ _)⟩
 case round=>
  obtain⟨i,hi,rfl,H⟩:=hrel;have p:=af (Blk.below' j.o H.o);by_cases v:i<14
  ·have D:(bts (List.replicate 14 0)).toArray[i]?=some (.int .u8 0):=by
    simp only[o6];rw[Wl _ _ (by simp;exact v),bK,BO,if_pos v];rfl
   have c0:wr.cell? ⟨a,i,none⟩=some (.int .u8 0):=(Blk.cell p.o i).trans D;have f0:=Blk.frozen p.o i;have K:=af (aqD H.o p.o D);have i0:(0:Int)<=i:=ah;have V:(i:Int)<14:=ah;clear D;go_wp2;go_roundw;case rel=>exact⟨i+1,ah,aT,K⟩
   case measure=>exact aW
  obtain rfl:i=14:=ah;try rw[show((14:Nat):Int)=14 from rfl]
  have m:=af (L.o.below H.o (ax _));rcases QW n with U|hp
  ·subst U
   have Q:=aj (bts (jd X)=bts (List.replicate 14 0)) (by
    have:=agB b q.o;rw[<-this];rfl)
   go_wp2_with(first
    |(go_at_call 180;(with_reducible refine(z.o wr m.o).mono ?_);rintro e Z ⟨g,rfl,G,s,f⟩;have F:=af s;have y:=af (Blk.below' p.o f);have x:=af (aH H.o f);have l:=af G;clear s f G)
    |(refine wpList_copy_nothing rfl (.tmp 29) (.tmp 30) 32 32 rfl 5 Bq agA (some ⟨a,0,none⟩) (some ⟨g,0,none⟩) 0 0 0 0 rfl rfl rfl ?_))
   go_ret;exact⟨rfl,by rw[Q.o];exact y.o,x.o.mono (kY t)⟩
  have T:decide ((n:Int)<=14)=true:=aC;obtain⟨lo,u⟩:=ak (14-n);have S:IntKind.i64.wrap (14-(n:Int))=(lo:Nat):=aV;have C:lo<14:=ah;have R: ¬14=lo:=ah;have l0:(0:Int)<=lo:=ah;have Y:(lo:Int)<=14:=ah;have d:=af u;clear u;go_wp2_with(first
   |(go_at_call 180;(with_reducible refine(z.o wr m.o).mono ?_);rintro e Z ⟨g,rfl,G,s,f⟩;have F:=af s;have y:=af (Blk.below' p.o f);have x:=af (aH H.o f);have l:=af G;clear s f G)
   |(refine wpList_copy_splice rfl (.tmp 29) (.tmp 30) 32 32 rfl 5 Bq agA (some ⟨a,lo,none⟩) (some ⟨g,0,none⟩) (14-lo) (14-lo) n n rfl rfl a lo (bts (List.replicate 14 0)) 5 y.o (bts (byN X n n)) (by rw[sH,yS];show n=min n (14-lo);have:=d.o;omega) (fun I=>⟨rfl,_,rfl,aqE F.o.reads (by rw[sH] at I;exact I)⟩) (by rw[sH,sH,yS,rW];have:=d.o;omega) (abO _) a w (x.o.mono (kY t)) (ax _) ?_;intro w2 J r;have P:=aj (Blk w2 a 5 (bts (jd X)).toArray) (by rw[<-agB b q.o,<-d.o];exact J);have O:=af r;clear J r))
  go_ret;exact⟨rfl,P.o,O.o⟩
