/- Lemmas. -/
import Derived.Test.YtaahbkbnfpajdaaGreatDoorZef0b
namespace Go.Proofs.YtaahbkbnfpajdaaGreatDoor
set_option linter.all false
set_option maxRecDepth 100000
set_option maxHeartbeats 8000000
open Go.RowKit
variable{s g j:Nat}{w:Wd}{t:TypeId}{b:Array Value}
structure En where
 h:Lz
 x:Lz
 m:Mm
structure En.ok(e:En):Prop where
 h:e.h.length=4
 x:e.x.length=120
 m:e.m.ok
def eu(e:En)(s:Lz):Lz×Lz×Bool:=hiA s (e.h.getD 0 0) (e.h.getD 1 0) (e.h.getD 2 0) (e.h.getD 3 0) 80
def enX(e:En)(s:Lz):Lz:=e.x.drop 80++(eu e s).2.1
def dQ(e:En)(s:Lz):Int:=
 if s.length=80 then(if aO e.m=true then(if(eu e s).2.2=true then bz (aG (enX e s)) else 2) else 2) else 1
def jJ(e:En)(s:Lz)(a:Bool):Lz:=
 enP (vI a (eu e s).2.1) (enQ (enX e s)) (rD a e.m).r (lU (enX e s)) (eu e s).2.1 (rD a e.m)
def jk(e:En)(s:Lz)(a:Bool):Lz:=if dQ e s=0 then qY (jJ e s a) else[]
def enY(e:En)(s:Lz)(a:Bool):Lz:=if dQ e s=0 then frO e.m (jJ e s a) else[]
def enE(e:En)(s:Lz)(a:Bool):En:=
 if dQ e s=0 then⟨(eu e s).1,enX e s,frM e.m (jJ e s a)⟩ else⟨List.replicate 4 0,List.replicate 120 0,aZ⟩
theorem aow(a:Bool)(o:Lz):0<=vI a o/\vI a o<=2:=by
 unfold vI;split
 ·omega
 split<;>omega
theorem Qj(e:En)(s:Lz)(a:Bool):dD (jJ e s a) 25=true:=YV (aow _ _) _
theorem Qk(e:En)(s:Lz)(a:Bool):(jJ e s a).length=25:=aol (AZ _)
def En.cs(e:En):List Value:=au e.h++(au e.x++e.m.cs)
def En.ag(e:En):Array Value:=e.cs.toArray
def EB(w:Wd)(g:Nat)(e:En):Prop:=Blk w g 57 e.ag
section
variable {w:Wd} {g:Nat} {e:En}
theorem En.len(e:En)(k:e.ok):e.cs.length=226:=by unfold En.cs;simp only[dN,bf,k.h,k.x,e.m.len k.m]
theorem En.size(e:En)(k:e.ok):e.ag.size=226:=by unfold En.ag;rw[zk,e.len k]
theorem afd{m:Mm}:∀v∈m.cs,v.oneCell'=true:=fun v a=>by
 have h:=Array.all_eq_true_iff_forall_mem.1 m.one;exact h v (by simpa[Mm.ag] using a)
theorem En.one(e:En):e.ag.all (·.oneCell')=true:=by
 rw[JY];intro v a;have:v∈e.cs:=by simpa[En.ag] using a
 unfold En.cs at this;rcases List.mem_append.1 this with h|h
 ·exact o9 _ _ h
 rcases List.mem_append.1 h with h|h
 ·exact o9 _ _ h
 exact afd _ h
theorem EB.H(h:EB w g e):w.rangeAt g 0 (au e.h):=iP h [] (au e.h) _ rfl rfl
theorem EB.X(h:EB w g e)(k:e.ok):w.rangeAt g 4 (au e.x):=iP h (au e.h) (au e.x) e.m.cs rfl (by rw[bf,k.h])
theorem EB.M(h:EB w g e)(k:e.ok):w.rangeAt g 124 e.m.cs:=iP h (au e.h++au e.x) e.m.cs [] (by unfold En.cs;simp only[oZ,xU]) (by simp only[dN,bf,k.h,k.x])
theorem EB.src(h:EB w g e)(k:e.ok)(o:Nat)(a:o<=120):w.rangeAt g (4+o) (au (e.x.drop o)):=
 iP h (au e.h++au (e.x.take o)) (au (e.x.drop o)) e.m.cs (by
  unfold En.cs au;rw[oZ,<-oZ (List.map _ (e.x.take o)),<-zi,vX])
  (by simp only[dN,bf,k.h,dR,k.x];omega)
theorem EB.whole(h:EB w g e):w.rangeAt g 0 e.cs:=iP h [] e.cs [] ay rfl
theorem EB.new(w:Wd)(e:En):EB (w.alloc (.cells e.ag 57)) w.heap.size e:=Blk.new w _ _
theorem EB.there(h:EB w g e)(k:e.ok):w.there g 0 226:=fun j a=>by
 refine⟨?_,Blk.frozen h _⟩;rw[Blk.cell h];have:0+j<e.ag.size:=by rw[e.size k];omega
 rw[xP this];rfl
theorem EB.thereH(h:EB w g e)(k:e.ok):w.there g 0 4:=fun j a=>h.there k j ah
theorem EB.thereM(h:EB w g e)(k:e.ok):w.there g 124 102:=fun j b=>by
 have a:=h.there k (124+j) ah;rwa [qK] at a
theorem EB.set_h(h:EB w g e)(k:e.ok)(x:Lz)(b:x.length=4):EB (w.setCells g 0 (au x)) g {e with h:=x}:=by
 have a:Blk w g 57 ([]++(au e.h++(au e.x++e.m.cs))).toArray:=h;exact qR (au x) (au e.h) [] _ w a (by rw[bf,bf,b,k.h])
theorem EB.set_m(h:EB w g e)(k:e.ok)(m:Mm)(O:m.ok):EB (w.setCells g 124 m.cs) g {e with m:=m}:=by
 have c:Blk w g 57 ((au e.h++au e.x)++(e.m.cs++[])).toArray:=by
  have b:e.ag=((au e.h++au e.x)++(e.m.cs++[])).toArray:=ahe;rw[<-b];exact h
 have a:=qR m.cs e.m.cs _ _ w c (by rw[m.len O,e.m.len k.m]);have d:(au e.h++au e.x).length=124:=by simp only[dN,bf,k.h,k.x]
 rw[d] at a;have S:({e with m:=m}:En).ag=((au e.h++au e.x)++(m.cs++[])).toArray:=ahe;unfold EB;rw[S];exact a
theorem EB.splice(k:e.ok)(o:Nat)(ys a:Lz)(f:o+ys.length<=120)(d:a=e.x.take o++ys++e.x.drop (o+ys.length)):
 splice e.cs (4+o) (au ys)=({e with x:=a}:En).cs:=by
 subst d;have b:e.cs.take (4+o)=au e.h++au (e.x.take o):=by
  unfold En.cs;rw[List.take_append,bf,k.h,kU (by rw[bf,k.h];omega),show 4+o-4=o from ah,ag1 (by rw[bf,k.x];omega)];unfold au;rw[EU]
 have c:e.cs.drop (4+o+(au ys).length)=au (e.x.drop (o+ys.length))++e.m.cs:=by
  unfold En.cs;rw[bf,List.drop_append,bf,k.h,BU (by rw[bf,k.h];omega),CE,show 4+o+ys.length-4=o+ys.length from ah,List.drop_append_of_le_length (by rw[bf,k.x];omega)];unfold au;rw[JV]
 unfold Go.splice;rw[b,c];unfold En.cs au;simp only[zi,oZ]
end
theorem xu:(Tryz.prog.info? 57).map (·.size)=some 226:=aB
section
variable {w:Wd} {g:Nat} {e:En}
theorem rF{b:Array Oper}{rest:List Oper}{o:Oper}{a:Act}{Q:Exit->Act->Wd->Prop}(d:o.guard=none)(x y:Operand)(f:o.op=.store 57 x y)
 (g:Nat) (c:En) (e:En) (i:a.eval x=.pointer (some ⟨g,0,none⟩)) (j:a.eval y=.agg e.ag) (h:EB w g c) (l:c.ok) (k:e.ok)
 (m:wpList Tryz.prog b Q rest (a.put o.dst undef) (w.setRow g e.ag)):wpList Tryz.prog b Q (o::rest) a w:=
 Rh d 57 x y f g e.ag i j 57 c.ag h (by rw[xu,e.size k]) (by rw[e.size k,c.size l]) e.one m
theorem YZ{b:Array Oper}{rest:List Oper}{o:Oper}{a:Act}{Q:Exit->Act->Wd->Prop}(f:Region.wanted o (yielded b a.tmps)=true)(x:Operand)(d:o.op=.load 57 x)
 (g:Nat) (e:En) (i:a.eval x=.pointer (some ⟨g,0,none⟩)) (h:EB w g e) (j:e.ok)
 (k:wpList Tryz.prog b Q rest (a.put o.dst (.agg e.ag)) w):wpList Tryz.prog b Q (o::rest) a w:=
 JZ f fun K c=>J9 57 x d g i 57 e.ag (0,0) _ h Bv rfl (by rw[xu,e.size j]) (c _ _ k)
theorem EB.setRow{a:En}(h:EB w g a)(e:En):EB (w.setRow g e.ag) g e:=QZ w g _ _ _ _ h
theorem afe{fn:Func}{p:Tmp}(h:fn.results= #[.cell p 57])(a:Array Value)(w:Wd)(g:Nat)(e:En)
 (hp:a.getD p undef=.pointer (some ⟨g,0,none⟩)) (G:EB w g e) (k:e.ok):
 (results fn a).run Tryz.prog w=.ok (.agg e.ag) w:=by
 have b:a[p]?.getD undef=.pointer (some ⟨g,0,none⟩):=uV;have c:=vO (P:=Tryz.prog) w g 57 57 e.ag (0,0) _ G Bv rfl (by rw[xu,e.size k]);simp[results,h,b,asAddr,c]
theorem aff{fn:Func}{p q r s:Tmp}(h:fn.results= #[.cell p 57,.tmp q,.tmp r,.tmp s])(a:Array Value)(w:Wd)(g:Nat)(e:En)
 (hp:a.getD p undef=.pointer (some ⟨g,0,none⟩)) (G:EB w g e) (k:e.ok):
 (results fn a).run Tryz.prog w=.ok (.tuple #[.agg e.ag,a.getD q undef,a.getD r undef,a.getD s undef]) w:=by
 have b:a[p]?.getD undef=.pointer (some ⟨g,0,none⟩):=uV;have c:=vO (P:=Tryz.prog) w g 57 57 e.ag (0,0) _ G Bv rfl (by rw[xu,e.size k]);simp[results,h,b,asAddr,c]
end
def eH:En:=⟨List.replicate 4 0,List.replicate 120 0,aZ⟩
theorem ig:eH.ok:=⟨rfl,rfl,df⟩
theorem xw:Tryz.zeroCells57=eH.ag:=aB
theorem ui(w:Wd):EB (w.alloc (.cells Tryz.zeroCells57 57)) w.heap.size eH:=by rw[xw];exact EB.new w eH
structure En.fit(e:En):Prop where
 k:e.ok
 g:aO e.m=true
 h:aG e.h=true
 x:aG e.x=true
theorem Ba{l:Lz}:aG l=true↔∀x∈l,-32768<=x/\x<=32767:=by
 unfold aG;rw[lM];refine⟨fun h x a=>?_,fun h x a=>?_⟩
 ·have:=h x a
  simpa[gY] using this
 exact sO (h x a).1 (h x a).2
theorem aox{l r:Lz}(h:aG l=true)(b:aG r=true):aG (l++r)=true:=Ba.2 fun x c=>by
 rcases List.mem_append.1 c with a|a
 ·exact Ba.1 h x a
 exact Ba.1 b x a
theorem aoy(l:Lz)(a b c d:Int)(k:Nat):aG (hiN l a b c d k).2=true:=by
 induction k with
 |zero=>rfl
 |succ k ih=>
  simp only[hiN];refine aox ih (Ba.2 fun x e=>?_);rw[List.mem_singleton.1 e];exact aeN _
theorem Y0(l:Lz)(a b c d:Int)(n:Nat)(h:(hiA l a b c d n).2.2=true):(hiA l a b c d n).2.1.length=n/\(hiA l a b c d n).1.length=4:=by
 unfold hiA at*
 split
 ·exact⟨PZ _ _ _ _ _ _,rfl⟩
 next h2=>rw[if_neg h2] at h;cases h
section
variable {e:En} {s:Lz}
end
def enB:En:=⟨List.replicate 4 0,List.replicate 120 0,eQ⟩
theorem Y7:enB.fit:=⟨⟨rfl,by simp[enB],Aj⟩,DZ,aA,aA⟩
theorem afg(r:Lz):∀(n m:Nat) (al:Lz) (e:Int) (k:Lz),(lev r n m al e k).1.length<=k.length+n
 |0,_,_,_,k=>by rw[akB];exact ax _
 |n+1,m,al,e,k=>by
  rw[Ny r n m al e k _ _ rfl rfl];split
  ·show k.length<=_;omega
  split
  ·show(k++[_]).length<=_
   rw[dN];show k.length+1<=_;omega
  refine dL (afg r n _ _ _ _) ?_;rw[dN];show k.length+1+n<=_;omega
theorem aoz(r:Lz):(jS r).1.length<=8:=by
 unfold jS;split
 ·show 0<=8;omega
 exact dL (afg _ _ _ _ _ _) (by show 0+8<=8;omega)
theorem afh(r:Lz):(dK 8 (jS r).1).length=8:=Ij (aoz r)
theorem afi{kd:Int}{q was now o:Lz}{m:Mm}(h:q.length=8):pK (enP kd q was now o m)=q:=by
 unfold pK enP;exact ai1
theorem afj(x:Lz):qE (enP 2 (enQ x) [] [] [] aZ)=lU x:=by
 unfold qE lU;rw[afi (AZ x)]
theorem Ql(x:Lz):aL lvV ed (enQ x)=lU x/\aE ed (enQ x) 8=0:=by
 have h:=YV (was:=[]) (now:=[]) (o:=[]) (m:=aZ) (kd:=2) ⟨ah,ah⟩ x;have a:=XV h;have b:=Jh h 8 (ax _);rw[afi (AZ x)] at a b;exact⟨by rw[a,afj],b⟩
theorem afk(x:Lz):dH (lU x)=true:=by
 rw[<-afj];exact Ye (YV (was:=[]) (now:=[]) (o:=[]) (m:=aZ) (kd:=2) ⟨ah,ah⟩ x)
def enF(was now o:Lz)(m:Mm):Nat->Lz
 |0=>[]
 |s+1=>enF was now o m s++enU was now o m s
def enZ(kd:Int)(q was now o:Lz)(m:Mm)(s:Nat):Lz:=kd::(q++(enF was now o m s++List.replicate (16-s*8) 0))
section
variable {was now o q:Lz} {m:Mm} {kd:Int}
theorem afl(s:Nat):(enF was now o m s).length=s*8:=by
 induction s with
 |zero=>rfl
 |succ s ih=>rw[enF,dN,ih,(Eh s).l];omega
theorem Bc(h:q.length=8)(Z:s<=2):(enZ kd q was now o m s).length=25:=by
 unfold enZ;rw[xR,dN,dN,afl,rW,h];omega
theorem afm(a:kd≠2):enZ kd q was now o m 2=enP kd q was now o m:=by
 unfold enZ enP;rw[if_neg a];have e:enF was now o m 2=enU was now o m 0++enU was now o m 1:=by
  show([]++enU was now o m 0)++enU was now o m 1=_;rw[CE]
 rw[e];simp
theorem afn:enZ 2 q was now o m 0=enP 2 q was now o m:=by
 unfold enZ enP;rw[if_pos rfl];rfl
theorem afo(h:q.length=8)(Z:s<2):enZ kd q was now o m s=(kd::(q++enF was now o m s))++(List.replicate 8 0++List.replicate (8-s*8) 0):=by
 unfold enZ;have e:List.replicate (16-s*8) (0:Int)=List.replicate 8 0++List.replicate (8-s*8) 0:=by
  rw[List.replicate_append_replicate];congr 1;omega
 rw[e];simp
theorem afp(s:Nat)(Z:s<2):enZ kd q was now o m (s+1)=(kd::(q++enF was now o m s))++(enU was now o m s++List.replicate (8-s*8) 0):=by
 unfold enZ;rw[enF,show 16-(s+1)*8=8-s*8 from ah];simp
theorem Qm(h:q.length=8):(0:Int)::(q++List.replicate 16 0)=enZ 0 q was now o m 0:=by
 unfold enZ enF;simp
theorem afq(s:Nat):enK was now o m (s+1)=frP false (frA was now s) (enK was now o m s) (enU was now o m s):=rfl
theorem afr(a:o.length=80)(Z:s<2):(og o s).length=40:=by
 unfold og;rw[dR,kJ];omega
theorem aoA(b:aG o=true):fU (og o s):=by
 refine iw (Ba.2 fun x a=>Ba.1 b x ?_);unfold og at a;exact Ko (xK a)
theorem afs(r:Bool)(k:m.ok):(rD r m).ok:=by
 unfold rD;split
 ·exact Aj
 exact k
theorem aft(r:Bool)(g:aO m=true):aO (rD r m)=true:=by
 unfold rD;split
 ·exact DZ
 exact g
end
theorem IB.over{ps A old B ys b:Lz}(h:IB w g t ps)(d:ps=A++(old++B))(f:ys.length=old.length)(j:b=A++(ys++B)){o:Nat}(i:A.length=o):IB (w.setCells g o (au ys)) g t b:=by
 subst d;subst j;subst i;have c:Blk w g t (au A++(au old++au B)).toArray:=by
  have e:agi (A++(old++B))=(au A++(au old++au B)).toArray:=by unfold agi au;simp only[zi]
  rw[<-e];exact h
 have a:=qR (au ys) (au old) _ _ w c (by rw[bf,bf,f]);rw[bf] at a;have S:agi (A++(ys++B))=(au A++(au ys++au B)).toArray:=by unfold agi au;simp only[zi]
 unfold IB;rw[S];exact a
theorem IB.thereAt{ps:Lz}(h:IB w g t ps)(o n:Nat)(b:o+n<=ps.length):w.there g o n:=fun j a=>by
 refine⟨?_,Blk.frozen h _⟩;rw[Blk.cell h];have:o+j<(agi ps).size:=by rw[dX];omega
 rw[xP this];rfl
section
variable {w w':Wd} {g:Nat} {t:TypeId} {xs:Lz} {cs:Array Value}
theorem Blk.rangeAt(h:Blk w g t cs):w.rangeAt g 0 cs.toList:=fun j v a=>by
 rw[qK,Blk.cell h j,<-a];simp
theorem IB.rangeAt(h:IB w g t xs):w.rangeAt g 0 (au xs):=by
 have:=Blk.rangeAt h;simpa[agi] using this
theorem Blk.there(h:Blk w g t cs):w.there g 0 cs.size:=fun j a=>by
 rw[qK];refine⟨?_,Blk.frozen h j⟩;rw[Blk.cell h j];simp[a]
end
def EH(P:Nat->Nat)(k j:Nat):Value:=if j<k then .pointer (some ⟨P j,0,none⟩) else .pointer none
def yQ(P:Nat->Nat)(k:Nat):Array Value:=((List.range 9).map (EH P k)).toArray
theorem apd(P:Nat->Nat):yQ P 0= #[.pointer none,.pointer none,.pointer none,.pointer none,.pointer none,.pointer none,.pointer none,.pointer none,.pointer none]:=by
 unfold yQ EH;simp[List.range,List.range.loop]
theorem afW(P:Nat->Nat)(k:Nat)(a:j<9):(yQ P k)[j]?=some (EH P k j):=by
 unfold yQ;simp[a]
def upN(P:Nat->Nat)(k b:Nat):Nat->Nat:=fun j=>if j=k then b else P j
def upX(X:Nat->Int)(k:Nat)(z:Int):Nat->Int:=fun j=>if j=k then z else X j
theorem ape(P:Nat->Nat){k:Nat}(d:k<9)(b:Nat):(yQ P k).setIfInBounds k (.pointer (some ⟨b,0,none⟩))=yQ (upN P k b) (k+1):=by
 unfold yQ;rw[bg];congr 1;refine y8 fun j=>?_;by_cases c:j<9
 ·rw[Ku]
  simp only[zq,Tf,qg,vU c,uz];unfold EH upN;by_cases e:k=j
  ·subst e
   simp[c]
  rw[if_neg e];congr 1;by_cases a:j<k
  ·rw[if_pos a,if_pos ah,if_neg ah]
  rw[if_neg a,if_neg ah]
 rw[iy aC,iy aC]
theorem Nm.keptBlk{w':Wd}{v:Value}{n:Nat}(h:Nm w v n)(hb:Blk w g 141 b)(G:w.grownBy w' (some g)):Nm w' v n:=by
 exact aik
theorem Nm.keptInts{w':Wd}{v:Value}{n:Nat}(h:Nm w v n)(hb:Blk w g 73 b)(G:w.grownBy w' (some g)):Nm w' v n:=by
 exact aik
structure Cs(w wr:Wd)(q ws:Lz)(gw gs k:Nat)(P:Nat->Nat)(X:Nat->Int):Prop where
 R:IB wr w.heap.size 73 Z9
 Q:IB wr (w.heap.size+1) 73 q
 W:Own wr (w.heap.size+2) (some ⟨gw,0,none⟩) 120 ws
 S:Blk wr gs 141 (yQ P k)
 N:∀j,j<k->IntAt wr (P j) (X j)
 lo:∀j,j<k->gs<P j
 up:∀i j,i<j->j<k->P i<P j
 hgw:w.heap.size+2<=gw
 hgs:gw<gs
 B:Bw w wr
section
variable {w wr w':Wd} {q ws:Lz} {gw gs k:Nat} {P:Nat->Nat} {X Y:Nat->Int}
theorem Cs.below(s:Cs w wr q ws gw gs k P X)(a:Bw wr w'):Cs w w' q ws gw gs k P X:=
 ⟨Blk.below' s.R a,Blk.below' s.Q a,s.W.below a,Blk.below' s.S a,fun j b=>(s.N j b).below a (ax _),s.lo,s.up,s.hgw,s.hgs,aH s.B a⟩
theorem Cs.drew(s:Cs w wr q ws gw gs k P X):Cs w wr.drew q ws gw gs k P X:=s.below (bY _)
theorem Cs.congr(s:Cs w wr q ws gw gs k P X)(h:∀j,j<k->X j=Y j):Cs w wr q ws gw gs k P Y:=
 ⟨s.R,s.Q,s.W,s.S,fun j a=>by rw[<-h j a];exact s.N j a,s.lo,s.up,s.hgw,s.hgs,s.B⟩
theorem Cs.ptr(s:Cs w wr q ws gw gs k P X)(b:j<k)(a:j<9):wr.cell? ⟨gs,j,none⟩=some (.pointer (some ⟨P j,0,none⟩)):=by
 rw[Blk.cell s.S j,afW P k a];unfold EH;rw[if_pos b]
theorem Cs.at_(s:Cs w wr q ws gw gs k P X)(a:j<ws.length):wr.cell? ⟨gw,j,none⟩=some (.int .i64 (ws.getD j 0)):=s.W.cell j a
theorem Cs.give(s:Cs w wr q ws gw gs k P X)(f:j<k){z:Int}(l:IntAt w' (P j) z)(c:wr.grownBy w' (some (P j))):Cs w w' q ws gw gs k P (upX X j z):=by
 have o:=s.lo j f;have p:=s.hgs;have r:=s.hgw;have d:IntBlk wr (P j):=(s.N j f).blk;have g:∀i,i≠j->i<k->P i≠P j:=fun i hi n=>by
  rcases yX i j with h|h
  ·have:=s.up i j h f;omega
  have:=s.up j i ah n;omega
 refine⟨Blk.grown s.R c aC,Blk.grown s.Q c aC,s.W.kept c (fun a m=>?_),Blk.grown s.S c aC,fun i hi=>?_,s.lo,s.up,s.hgw,s.hgs,s.B.grown c s.B.size (fun b d=>by cases d;omega)⟩
 ·cases m
  simp;omega
 unfold upX;by_cases e:i=j
 ·subst e
  rw[if_pos rfl];exact l
 rw[if_neg e];exact(s.N i hi).kept d c (g i e hi)
theorem Cs.push(s:Cs w wr q ws gw gs k P X)(r:k<9):Cs w ((wr.alloc (.cells #[.bool false,.slice none 0 0] 144)).setCell ⟨gs,k,none⟩ (.pointer (some ⟨wr.heap.size,0,none⟩))) q ws gw gs (k+1) (upN P k wr.heap.size) (upX X k 0):=by
 have n:=s.hgs;have u:=s.hgw;have p:=s.S.lt;have a:=s.below (baqq wr (.cells #[.bool false,.slice none 0 0] 144));have t:=Xx wr;generalize hV:wr.alloc (.cells #[.bool false,.slice none 0 0] 144)=V at*
 have d:V.grownBy (V.setCell ⟨gs,k,none⟩ (.pointer (some ⟨wr.heap.size,0,none⟩))) (some gs):=zT V gs k _;refine⟨Blk.grown a.R d aC,Blk.grown a.Q d aC,a.W.kept d (fun b f=>?_),?_,fun i hi=>?_,fun i hi=>?_,fun i j g x=>?_,s.hgw,s.hgs,a.B.grown d a.B.size (fun b f=>by cases f;omega)⟩
 ·cases f
  simp;omega
 ·rw[<-ape P r]
  exact Blk.set_ a.S k _
 ·unfold upN upX
  have o:∀{c:Nat} {z:Int},c≠gs->IntAt V c z->IntAt (V.setCell ⟨gs,k,none⟩ (.pointer (some ⟨wr.heap.size,0,none⟩))) c z:=fun l h=>by
   obtain⟨v,m,n⟩:=h;exact⟨v,by rw[d.block _ (uY m) (by simpa using l)];exact m,n.keptBlk a.S d⟩
  by_cases e:i=k
  ·subst e
   rw[if_pos rfl,if_pos rfl];exact o ah t
  rw[if_neg e,if_neg e];have:=s.lo i ah;exact o ah (a.N i ah)
 ·unfold upN
  by_cases e:i=k
  ·rw[if_pos e];exact p
  rw[if_neg e];exact s.lo i ah
 unfold upN;rw[if_neg (by omega: ¬i=k)];by_cases e:j=k
 ·rw[if_pos e]
  exact(s.N i ah).lt
 rw[if_neg e];exact s.up i j g ah
theorem Cs.setQ(s:Cs w wr q ws gw gs k P X)(i:Nat)(v:Int):Cs w (wr.setCell ⟨w.heap.size+1,i,none⟩ (.int .i64 v)) (q.set i v) ws gw gs k P X:=by
 have g:=s.hgs;have c:=s.hgw;have a:wr.grownBy (wr.setCell ⟨w.heap.size+1,i,none⟩ (.int .i64 v)) (some (w.heap.size+1)):=zT wr _ i _;refine⟨Blk.grown s.R a ay,IB.set_ s.Q i v,s.W.kept a (fun b d=>?_),Blk.grown s.S a aC,fun j e=>?_,s.lo,s.up,s.hgw,s.hgs,s.B.grown a s.B.size (fun b d=>by cases d;omega)⟩
 ·cases d
  simp;omega
 obtain⟨u,c,f⟩:=s.N j e;have:=s.lo j e;exact⟨u,by rw[a.block _ (uY c) aC];exact c,f.keptInts s.Q a⟩
end
theorem agz(w:Wd)(v:Int)(base:Nat)(a:base<=w.heap.size):Own (w.alloc (.cells #[.int .i64 v] 3)) base (some ⟨w.heap.size,0,none⟩) 1 [v]:=
 y9 (base:=base) (e:=3) (size:=1) w #[.int .i64 v] 1 a jg rfl
theorem ZF(a:Lz)(w:Wd)(S:a.length=8):Cl 54 #[.agg (agi a)] w (tN w a):=by
 have M:=af (Bx2.start 52 w a);have hR:=nz (fn:=Tryz.f54) (p:=2) (q:=3) (ty:=73) rfl;have W:=af S;have X:=af (fun(k:Nat) (hk:k<8) (w:Wd)=>jW aU a S k hk w);have l:=IB.new ((w.alloc (.cells (agi a) 52)).alloc (.cells (agi Z9) 73)) 73 Z9;have s:=af ((M.o.below (baqq _ (.cells (agi Z9) 73))));simp only[bT] at l;have l:=af l;have N:=af (fun J=>Xh a J S);rw[jR] at l s;clear S M;by_cases H:dH a=true
 ·have SD:=af H
  have SA:=af (fun i=>zX H i);rw[H] at N;clear H;go_enter Tryz.func54,Tryz.ntmps54;go_wp2_with(refine aK 52 (.tmp 1) a 8 s.o.A aU aJ W.o ?_);refine(N.o _).mono ?_;rintro e J ⟨rfl,b⟩;have y:=af (s.o.below b);have P:=af (Blk.below' l.o b);clear b l s;have G2:=af (agz J 16777216 w.heap.size (by have:=y.o.lt;omega));have K:=af (y.o.below (baqq _ (.cells #[.int .i64 16777216] 3)));have G:=af (Blk.alloc P.o (.cells #[.int .i64 16777216] 3));go_wp2_with(refine aK 52 (.tmp 1) a 8 K.o.A aU aJ W.o ?_);go_loopw[5,16] (fun av z wr=> ∃(m n:Nat) (A:Oz) (c:Nat),m<=8/\z=.int .i64 m/\av=.slice A n c/\Hy (n=m+1)/\Hy (Own wr w.heap.size A c (dS a m))/\Hy (Bx2 52 w wr a Z9)/\Hy (IB wr (w.heap.size+1+1) 73 Z9)) (fun _ z _=>8-(intOf z).toNat)
  case atStart=>exact⟨0,1,_,_,ah,rfl,rfl,af rfl,G2,K,G⟩
  case round=>
   clear G2 K G y P;obtain⟨m,n,A,c,O,rfl,rfl,HN,f,E,Q⟩:=hrel;by_cases hlt:m<8
   ·have u:=X.o m hlt
    obtain⟨q,U⟩:=ak (a.getD m 0);rw[<-U] at u;have sq:=SA.o m;rw[<-U] at sq;obtain⟨q1,q2⟩:=sq;have KG:=af (acm A c (dS a m) q n wr f.o.reads (by rw[WN,HN.o]) kK kK ⟨ah,ah⟩ (fun i=>DK SA.o O i));rw[show oL (dS a m) q n=dS a (m+1) from by rw[U,HN.o];rfl] at KG;clear U;go_wp2_with fail;refine KG.o.mono ?_;rintro e w2 ⟨A2,c2,rfl,hO,b⟩;have V:=af (hO.more (base':=w.heap.size) E.o.bel.size);have Y:=af (E.o.below b);have Z:=af (Blk.below' Q.o b);have el:(dS a (m+1)).length=m+1+1:=WN a (m+1);rw[el];clear hO b el;go_wp2;go_roundw;case rel=>exact⟨m+1,m+2,A2,c2,ah,aT,rfl,af rfl,V,Y,Z⟩
    case measure=>exact aW
   obtain rfl:m=8:=ah;obtain rfl:n=9:=HN.o;obtain⟨g,rfl,hg1,hg2⟩:=f.o.head U5;have BD:=af (fun j=>DK SA.o (show 8<=8 from ah) j);have hne:g≠w.heap.size+1+1:=by
    obtain⟨C,cap,d,L,_,_,T,_⟩:=f.o.form U5;injection L with L;injection L with L;subst L;exact Blk.ne_ (t:=3) T Q.o aA
   clear hlt;go_wp2;go_loopw[25] (fun z wr=> ∃(k:Nat) (zs:Lz),k<=9/\z=.int .i64 k/\Hy (zs.length=9/\∀j,j<k->zs.getD j 0=((dS a 8).getD j 0+2048)/4096)/\Hy (Own wr w.heap.size (some ⟨g,0,none⟩) c (dS a 8))/\Hy (Bx2 52 w wr a Z9)/\Hy (IB wr (w.heap.size+1+1) 73 zs)) (fun z _=>9-(intOf z).toNat)
   case atStart=>exact⟨0,Z9,ah,rfl,af ⟨rfl,fun j h=>ah⟩,f,E,Q⟩
   case round=>
    clear E Q f;obtain⟨k,zs,hk,rfl,HY,f,E,Q⟩:=hrel;by_cases hlt:k<9
    ·have c1:=f.o.cell k U5
     obtain⟨b1,b2⟩:=BD.o k;obtain⟨x,hx⟩:=ak ((dS a 8).getD k 0);rw[<-hx] at c1 b1 b2;have HX:=af hx;clear hx;have r:=aj (Hy ((zs.set k ((x+2048)/4096)).length=9/\∀j,j<k+1->(zs.set k ((x+2048)/4096)).getD j 0=((dS a 8).getD j 0+2048)/4096)) (by
      obtain⟨q1,q3⟩:=HY.o;refine⟨wI,fun j hj=>?_⟩;by_cases he:k=j
      ·subst he
       rw[gQ _ _ _ ah,HX.o]
      ·rw[gV _ _ he]
       exact q3 j ah)
     go_wp2_with fail;refine(NC (x+2048) _ ah ah).mono ?_;rintro e w3 ⟨rfl,b⟩;have G3:=af (f.o.below b);have K:=af (E.o.below b);have G:=af (Blk.below' Q.o b);clear b c1;have c3:=IB.cell G.o k uO;have f3:=Blk.frozen G.o k;have Y:=af (K.o.setCell (g:=w.heap.size+1+1) ah k (.int .i64 ((x+2048)/4096)));have Z:=af (IB.set_ G.o k ((x+2048)/4096));have V:=af (G3.o.kept (row:=some (w.heap.size+1+1)) (w':=w3.setCell ⟨w.heap.size+1+1,k,none⟩ (.int .i64 ((x+2048)/4096))) ⟨rfl,rfl,rfl,uQ,fun i _ hn=>lV _ _ _ i wH⟩ (fun ad h=>by injection h with h;subst h;simpa using hne));go_wp2;go_roundw;case rel=>exact⟨k+1,_,ah,aT,r.o,V,Y,Z⟩
     case measure=>exact aW
    obtain rfl:k=9:=ah;have D:=af (adp SD.o HY.o.1 HY.o.2 (aS E.o.bel (g:=w.heap.size+1) ah (agi zs)));have I:=af (E.o.R.setRow zs);clear hlt;go_wp2_with(first
     |(refine aK 73 (.tmp 4) zs 9 Q.o bP bC HY.o.1 ?_)
     |(refine aQ 73 (.tmp 2) (.tmp 36) Z9 zs 9 E.o.R bC rfl HY.o.1 ?_))
    exact aiZ
 have B:dH a=false:=by simpa using H
 have D:=af (fun J=>ado (w:=w) (w':=J) (a:=a) B);rw[B] at N;clear H B;go_enter Tryz.func54,Tryz.ntmps54;go_wp2_with(refine aK 52 (.tmp 1) a 8 s.o.A aU aJ W.o ?_);refine(N.o _).mono ?_;rintro e J ⟨rfl,b⟩;have y:=af (s.o.below b);have P:=af (Blk.below' l.o b);have I:=af (y.o.R.setRow Z9);have F:=af (D.o _ (aS y.o.bel (g:=w.heap.size+1) ah (agi Z9)));clear b l s;go_wp2_with(first
  |(refine aK 73 (.tmp 4) Z9 9 P.o bP bC rfl ?_)
  |(refine aQ 73 (.tmp 2) (.tmp 13) Z9 Z9 9 y.o.R bC rfl rfl ?_))
 refine aX (v:=_) (hR _ _ _ 73 Z9 _ 9 rfl I.o bP rfl bC rfl) rfl ?_;exact F.o
theorem agC(h x:Lz)(lag g:Int)(A:Oz)(c n:Nat)(w:Wd)(T:h.length=80)(hr:Rs w w.heap.size A x)(hn:x.length=n)(hl:n<=17592186044416)(hw:W64 h)(Z:W64 x):
 Cl 122 #[.agg (agi h),.int .i64 lag,.int .i64 g,.slice A n c] w (NewSE w (mxL h x lag g n) (mxR lag g n)):=by
 have M:=af (IB.new w 53 h);have B0:=af (baqq w (.cells (agi h) 53));have s:=af T;have HR:=af hr;have HN:=af hn;by_cases V:n=40
 ·subst V
  by_cases G:(20<=lag/\lag<=79)/\0<=g/\g<=32767
  ·obtain⟨⟨l1,l2⟩,g1,g2⟩:=G
   have hb:=sQ l1 l2;have KP:=af (fun W=>Xa h lag W T);have I:=Ae (h:=h) hb;have R:W64 (dU h lag):=fun y hy=>by
    unfold dU at hy;rw[if_pos hb] at hy;obtain⟨i,_,rfl⟩:=List.mem_map.1 hy;exact hw.at_ _
   obtain⟨u,S⟩:=yD (h:=h) (x:=x) (lag:=lag) (g:=g) aaZ;have E1:=af u;rw[S];rw[hb] at KP;have z:=af I;have HP64:=af R;have HX64:=af Z;have HE:=af (fun i=>show mxE h x lag g i=mxV ((dU h lag).getD i 0) g (x.getD i 0) from rfl);generalize dU h lag=P at*
   clear u S hb I R Z hw hr hn T;go_enter Tryz.func122,Tryz.ntmps122;go_wp2_with(refine aK 53 (.tmp 4) h 80 M.o iV mY s.o ?_);refine(KP.o _).mono ?_;rintro e w1 ⟨A1,c1,rfl,hO,hB⟩;have L1:=af (aH B0.o hB);obtain⟨v,rfl,gv1,gv2⟩:=hO.head (by rw[z.o];omega);have O1:=af (hO.more (base':=w.heap.size) ay);have hgv:w.heap.size<=v:=(by simp at gv1;omega);have O:=af gv2;have HL1:=af L1.o.size;rw[z.o];clear hO hB gv1 gv2 l1 l2;go_wp2;go_loopw[12,39] (fun ov iv wr=> ∃(k:Nat) (A2:Oz) (c2:Nat),k<=40/\iv=.int .i64 k/\ov=.slice A2 k c2/\Hy (Own wr w1.heap.size A2 c2 ((List.range k).map (mxE h x lag g)))/\Hy (Own wr w.heap.size (some ⟨v,0,none⟩) c1 P)/\Hy (Bw w wr)/\Hy (w1.heap.size<=wr.heap.size)) (fun _ iv _=>40-(intOf iv).toNat)
   case atStart=>exact⟨0,none,0,ah,rfl,rfl,af Own.nil,O1,L1,af (ax _)⟩
   case round=>
    clear O1 L1;obtain⟨k,A2,c2,hk,rfl,rfl,Q,HV1,H,C⟩:=hrel;by_cases hlt:k<40
    ·obtain⟨B,rfl,m,K⟩:=HR.o.at_ (k:=k) iT
     have cb:=(H.o.cell (p:=B.add k) (by rw[dV];exact m)).trans K;have cp:=HV1.o.cell k (by rw[z.o];exact hlt);have hk40:(k:Int)<40:=ah;have f:=HE.o k;have L:=HP64.o.at_ k;have J:=HX64.o.at_ k;have YN:=aj ((List.range k).map (mxE h x lag g)++[mxE h x lag g k]=(List.range (k+1)).map (mxE h x lag g)) (Ir _);have YL:=aj (((List.range k).map (mxE h x lag g)).length=k) (ay);generalize (List.range k).map (mxE h x lag g)=Y at*
     obtain⟨p,hp⟩:=ak (P.getD k 0);obtain⟨b,hb⟩:=ak (x.getD k 0);have HCP:=af (fun W (o:Own W w.heap.size (some ⟨v,0,none⟩) c1 P)=>show W.cell? ⟨v,k,none⟩=some (.int .i64 p) by rw[hp];exact o.cell k (by rw[z.o];exact hlt));rw[<-hp] at cp f L;rw[<-hb] at cb K f J;have CB0:=af K;unfold mxV at f;have KA:=af (fun W=>sN p W L.1 L.2);have KB:=af (fun W=>sN b W J.1 J.2);have ra:=nI p;have rb:=nI b;generalize s16 p=N at KA f ra;generalize s16 b=sb at KB f rb;have hq:=acE ra.1 ra.2 g1 g2;obtain⟨q,X⟩:∃q,N*g=q:=⟨_,rfl⟩;rw[X] at hq f;have hw1:IntKind.i64.wrap (N*g)=q:=(by rw[X,mM];omega);have hw2:IntKind.i64.wrap (q+8192)=q+8192:=aV;have KD:=af (fun W=>akG (q+8192) W ah ah);obtain⟨r,hre⟩:=ak ((q+8192)/16384);rw[<-hre] at KD f;obtain⟨t,F⟩:=ak (r+sb);have hw3:IntKind.i64.wrap (r+sb)=t:=(by rw[F,mM];omega);rw[<-F] at f;have KT:=af (fun W=>sN t W ah ah);obtain⟨y,hy⟩:=ak (s16 t);rw[<-hy] at KT f;rw[f] at YN;have d:v<wr.heap.size:=(by have:=O.o;have:=C.o;omega);have hadW:B.block<wr.heap.size:=(by have:=H.o.size;omega);have HADB:=af m;clear hp hb ra rb hq X hre F hy f L J m K;go_wp2;go_region_held3 (fun w'=>w'.cell? ⟨v,k,none⟩=some (.int .i64 p)/\w'.cell? (B.add k)=some (.int .i64 b)) (go_keep) (first
      |(go_at_call 93;(with_reducible refine(KA.o wr.drew).mono ?_);rintro e' U ⟨rfl,hBA⟩;have LA:Bw wr U:=((aP wr.heap.size wr).drew).trans (hBA.mono (ax _));have a0:World.cell? U ⟨v,k,none⟩=some (.int .i64 p):=(LA.cell d).trans cp;have a1:World.cell? U (B.add k)=some (.int .i64 b):=(LA.cell CS).trans cb;have LA:=af LA;clear hBA)
      |(go_at_call 94;(with_reducible refine(KD.o U).mono ?_);rintro e' l ⟨rfl,hBB⟩;have LB:Bw wr l:=aH LA.o hBB;have b0:World.cell? l ⟨v,k,none⟩=some (.int .i64 p):=(LB.cell d).trans cp;have b1:World.cell? l (B.add k)=some (.int .i64 b):=(LB.cell CS).trans cb;have LB:=af LB;clear hBB)
      |(go_at_call 93;(with_reducible refine(KB.o l).mono ?_);rintro e' wC ⟨rfl,hBC⟩;have LC:Bw wr wC:=aH LB.o hBC;have e0:World.cell? wC ⟨v,k,none⟩=some (.int .i64 p):=(LC.cell d).trans cp;have u:World.cell? wC (B.add k)=some (.int .i64 b):=(LC.cell CS).trans cb;have LC:=af LC;clear hBC)
      |(go_at_call 93;(with_reducible refine(KT.o wC).mono ?_);rintro e' wD ⟨rfl,hBD⟩;have j:Bw wr wD:=aH LC.o hBD;have d0:World.cell? wD ⟨v,k,none⟩=some (.int .i64 p):=(j.cell d).trans cp;have d1:World.cell? wD (B.add k)=some (.int .i64 b):=(j.cell CS).trans cb;have j:=af j;clear hBD)
      |(refine aqI rfl (.tmp 42) (.tmp 59) rfl w1.heap.size A2 c2 k Y rfl YL.o ((Q.o.below j.o).alloc _) ⟨wD.heap.size,0,none⟩ y rfl (oH wD _ _) ah (by have:=C.o;have:=j.o.size;simp;omega) ?_;intro A3 c3 w5 hO hG;have E:=(((HV1.o.below j.o).alloc (.cells #[.int .i64 y] 3)).kept hG (fun a ha=>by injection ha with ha;subst ha;cases A2 with|none=>simp|some a2=>have:=Q.o.lt a2 rfl;have:=O.o;simp;omega));have B5:Bw w w5:=(((aH H.o j.o).alloc (by have:=H.o.size;have:=j.o.size;omega) (.cells #[.int .i64 y] 3)).grown hG (by have:=H.o.size;have:=j.o.size;simp;omega) (fun i hi=>by cases A2 with|none=>simp at hi|some a2=>have:=Q.o.lt a2 rfl;have:=HL1.o;simp at hi;omega));have f0:=HCP.o w5 E;have f1:World.cell? w5 (B.add k)=some (.int .i64 b):=(B5.cell (p:=B.add k) (by rw[dV];exact HADB.o)).trans CB0.o;have E:=af E;have B5:=af B5;have O5:=af hO;have G5:=af hG.size;clear hO hG))
     rename_i hHeldZ;clear hHeldZ;clear a0 a1 b0 b1 e0 u d0 d1 f0 f1 cp cb hw1 hw2 hw3;simp only[Exit.then,Exit.inBlock];have S5:=af (show w1.heap.size<=w5.heap.size by have h1:=C.o;have h2:=H.o.size;have h3:=j.o.size;have h4:=G5.o;simp at h4;omega);go_wp2;go_roundw;case rel=>exact⟨k+1,A3,c3,ah,aT,rfl,af (by have:=O5.o;rwa [YN.o] at this),E,B5,S5⟩
     case measure=>exact aW
    obtain rfl:k=40:=ah;go_wp2;go_ret2;rw[E1.o];exact⟨A2,c2,ay,Q.o.more (by have:=HL1.o;omega),H.o⟩
  obtain⟨u,S⟩:=Xb (h:=h) (x:=x) (lag:=lag) (g:=g) (by unfold mxB pF;simp;omega);rw[u,S];have D:=af (NewSE.none_ (er:=2) B0.o);clear u S hw Z hr hn T;by_cases c1:lag<20
  ·clear G
   exact Nj
  by_cases c2:79<lag
  ·clear G
   exact Nj
  by_cases c3:g<0
  ·clear G
   exact Nj
  have c4:32767<g:=ah;clear G;exact Nj
 ·obtain⟨u,S⟩:=acD (h:=h) (x:=x) (lag:=lag) (g:=g) V
  rw[u,S];have d1:((n:Int)==40)=false:=aC;have d2:((n:Int) !=40)=true:=aC;have D:=af (NewSE.none_ (er:=1) B0.o);clear V u S;exact Nj
