/- Lemmas. -/
import Derived.Test.YtaahbkbnfpajdaaGreatDoorZef0g
import Derived.Test.YtaahbkbnfpajdaaGreatDoorZef0f
namespace Go.Proofs.YtaahbkbnfpajdaaGreatDoor
set_option linter.all false
set_option maxRecDepth 100000
set_option maxHeartbeats 8000000
open Go.RowKit
variable{p:En×Mm}{l:List (En×Mm)}{k:Nat}{w:Wd}{m:Mm}
def eCs(p:En×Mm):List Value:=p.1.cs++p.2.cs
def eL(l:List (En×Mm)):List Value:=l.flatMap eCs
def uq(p:En×Mm):Prop:=p.1.ok/\p.2.ok
theorem apU(h:uq p):(eCs p).length=328:=by unfold eCs;rw[dN,p.1.len h.1,p.2.len h.2]
theorem apV(p:En×Mm):∀v∈eCs p,v.oneCell'=true:=fun v a=>by
 unfold eCs at a;rcases List.mem_append.1 a with h|h
 ·exact Array.all_eq_true_iff_forall_mem.1 p.1.one v (by simpa[En.ag] using h)
 exact afd v h
theorem agk(p:En×Mm)(l:List (En×Mm)):eL (p::l)=eCs p++eL l:=rfl
theorem Zv(l r:List (En×Mm)):eL (l++r)=eL l++eL r:=by unfold eL;rw[aan]
theorem apW(p:En×Mm):eL [p]=eCs p:=by unfold eL;simp
theorem Bh:∀{l:List (En×Mm)} (_:∀p∈l,uq p),(eL l).length=l.length*328
 |[],_=>rfl
 |p::l,h=>by
  rw[agk,dN,apU (h p (rP ..)),Bh fun q a=>h q (vV _ a),xR];omega
theorem apX:∀v∈eL l,v.oneCell'=true:=fun v a=>by
 unfold eL at a;obtain⟨p,_,h⟩:=List.mem_flatMap.1 a;exact apV p v h
theorem QO(c:l[k]?=some p):eL l=eL (l.take k)++(eCs p++eL (l.drop (k+1))):=by
 have a:=(List.getElem?_eq_some_iff.1 c).1;have d:l=l.take k++(p::l.drop (k+1)):=by
  have b:=vX k l;rw[ZO a,(List.getElem?_eq_some_iff.1 c).2] at b;exact b.symm
 conv=>lhs;rw[d]
 rw[Zv,agk]
theorem apY(a:k<l.length):eL (l.set k p)=eL (l.take k)++(eCs p++eL (l.drop (k+1))):=by
 have h:=QO (l:=l.set k p) (k:=k) (p:=p) (by rw[aaw a]);rw[h,List.take_set_of_le (ax k),List.drop_set_of_lt (mP k)]
def OwnL(w:Wd)(base:Nat)(A:Oz)(c:Nat)(l:List (En×Mm)):Prop:=w.ownsRow base 69 328 (.slice A l.length c) l.length (eL l)/\∀p∈l,uq p
section
variable {w w':Wd} {base c g:Nat} {A:Oz} {l:List (En×Mm)} {k:Nat} {e e':En} {m m':Mm}
theorem OwnL.nil:OwnL w base none 0 []:=⟨Bz w base _ _,fun p a=>by cases a⟩
theorem OwnL.lt(h:OwnL w base A c l):∀a,A=some a->base<=a.block/\a.block<w.heap.size:=fun a b=>by
 subst b;exact EW h.1 a.block rfl
theorem OwnL.kept{row:Option Nat}(h:OwnL w base A c l)(G:w.grownBy w' row)(b:∀a,A=some a->some a.block≠row):OwnL w' base A c l:=
 ⟨BC h.1 G (by
   cases A with
   |none=>exact .inl rfl
   |some a=>exact .inr (b a rfl)),h.2⟩
theorem OwnL.below(h:OwnL w base A c l)(b:Bw w w'):OwnL w' base A c l:=
 h.kept (row:=none) ⟨b.os,b.tape,b.output,b.size,fun k d _=>b.block k d⟩ (fun a _=>ay)
theorem OwnL.blk(h:OwnL w base A c l)(b:0<l.length):∃g rest,A=some ⟨g,0,none⟩/\base<=g/\l.length<=c/\c<=maxLen/\Blk w g 69 (eL l++rest).toArray/\(eL l++rest).length=c*328:=by
 rcases h.1.2 with⟨_,h1⟩|⟨g,cap,d,hv,hb,hc,h1,h2,h3,h4⟩
 ·omega
 injection hv with hA _ hcap;subst hA hcap;have a:d.toList=eL l++d.toList.drop (l.length*328):=by rw[<-h4,vX]
 refine⟨g,d.toList.drop (l.length*328),rfl,hb,h1,h2,?_,?_⟩
 ·rw[<-a];exact hc
 rw[<-a,Array.length_toList,h3]
theorem OwnL.of_blk{rest:List Value}(a:∀p∈l,uq p)(i:base<=g)(b:l.length<=c)(d:c<=maxLen)(h:Blk w g 69 (eL l++rest).toArray)(f:(eL l++rest).length=c*328):OwnL w base (some ⟨g,0,none⟩) c l:=
 ⟨⟨Bh a,.inr ⟨g,c,_,rfl,i,h,b,d,by rw[zk,f],by rw[<-Bh a];simp⟩⟩,a⟩
theorem OwnL.E(h:OwnL w base A c l)(b:l[k]?=some (e,m)):∃g,A=some ⟨g,0,none⟩/\base<=g/\g<w.heap.size/\w.rangeAt g (k*328) e.cs/\w.rangeAt g (k*328+226) m.cs:=by
 have j:=(List.getElem?_eq_some_iff.1 b).1;obtain⟨g,rest,d,f,_,_,a,_⟩:=h.blk ah;have F:(eL (l.take k)).length=k*328:=aaF;have i:=(h.2 _ (vN b)).1;rw[QO b] at a;refine⟨g,d,f,Blk.lt a,iP a (eL (l.take k)) e.cs (m.cs++(eL (l.drop (k+1))++rest)) TZ F,iP a (eL (l.take k)++e.cs) m.cs (eL (l.drop (k+1))++rest) TZ (by rw[dN,F,e.len i])⟩
theorem OwnL.there(h:OwnL w base (some ⟨g,0,none⟩) c l)(o n:Nat)(i:o+n<=l.length*328)(d:0<l.length):w.there g o n:=fun j f=>by
 obtain⟨C,rest,a,_,_,_,b,_⟩:=h.blk d;injection a with a;injection a with a;subst a;refine⟨?_,Blk.frozen b _⟩;rw[Blk.cell b];have:o+j<(eL l++rest).toArray.size:=by rw[zk,dN,Bh h.2];omega
 rw[xP this];rfl
theorem agl{q:En×Mm}(h:∀p∈l,uq p)(b:uq p)(d:q∈l.set k p):uq q:=by
 rcases Rk d with a|a
 ·exact h q a
 rw[a];exact b
theorem OwnL.setE(h:OwnL w base (some ⟨g,0,none⟩) c l)(d:l[k]?=some (e,m))(f:e'.ok):OwnL (w.setCells g (k*328) e'.cs) base (some ⟨g,0,none⟩) c (l.set k (e',m)):=by
 have hlt:=(List.getElem?_eq_some_iff.1 d).1;obtain⟨C,rest,a,t,r,s,j,i⟩:=h.blk ah;injection a with a;injection a with a;subst a;have F:(eL (l.take k)).length=k*328:=aaF;have hp:=h.2 _ (vN d);rw[QO d] at j i;have b:Blk w g 69 (eL (l.take k)++(e.cs++(m.cs++(eL (l.drop (k+1))++rest)))).toArray:=by
  have:eL (l.take k)++(eCs (e,m)++eL (l.drop (k+1)))++rest=eL (l.take k)++(e.cs++(m.cs++(eL (l.drop (k+1))++rest))):=TZ;rwa [this] at j
 have o:=qR e'.cs e.cs _ _ w b (by rw[e'.len f,e.len hp.1]);rw[F] at o;have n:eL (l.set k (e',m))++rest=eL (l.take k)++(e'.cs++(m.cs++(eL (l.drop (k+1))++rest))):=ahk;refine OwnL.of_blk (rest:=rest) (fun q u=>agl (p:=(e',m)) h.2 ⟨f,hp.2⟩ u) t (by rw[fP];exact r) s (by rw[n];exact o) ?_;rw[n];simp only[dN,eCs,e'.len f,e.len hp.1] at i|-;omega
theorem OwnL.setM(h:OwnL w base (some ⟨g,0,none⟩) c l)(d:l[k]?=some (e,m))(f:m'.ok):OwnL (w.setCells g (k*328+226) m'.cs) base (some ⟨g,0,none⟩) c (l.set k (e,m')):=by
 have hlt:=(List.getElem?_eq_some_iff.1 d).1;obtain⟨C,rest,a,t,r,s,j,i⟩:=h.blk ah;injection a with a;injection a with a;subst a;have F:(eL (l.take k)).length=k*328:=aaF;have hp:=h.2 _ (vN d);rw[QO d] at j i;have b:Blk w g 69 ((eL (l.take k)++e.cs)++(m.cs++(eL (l.drop (k+1))++rest))).toArray:=by
  have:eL (l.take k)++(eCs (e,m)++eL (l.drop (k+1)))++rest=(eL (l.take k)++e.cs)++(m.cs++(eL (l.drop (k+1))++rest)):=TZ;rwa [this] at j
 have o:=qR m'.cs m.cs _ _ w b (by rw[m'.len f,m.len hp.2]);rw[dN,F,e.len hp.1] at o;have n:eL (l.set k (e,m'))++rest=(eL (l.take k)++e.cs)++(m'.cs++(eL (l.drop (k+1))++rest)):=ahk;refine OwnL.of_blk (rest:=rest) (fun q u=>agl (p:=(e,m')) h.2 ⟨hp.1,f⟩ u) t (by rw[fP];exact r) s (by rw[n];exact o) ?_;rw[n];simp only[dN,eCs,m'.len f,m.len hp.2] at i|-;omega
end
theorem agv:(Tryz.prog.info? 169).map (·.size)=some 3:=aB
theorem aqb(h ring t:Lz)(p:Value)(A:Oz)(c n:Nat)(w:Wd)(T:h.length=80)(hr:Rs w w.heap.size A t)(U:t.length=n)(hl:n<=17592186044416)(B:FoldFn 111 p w ring):
 Cl 113 #[.agg (agi h),.func (.func 111) #[] #[p],.slice A n c] w (PkAns ring h t w):=by
 have BA:=af (baqq w (.cells (agi h) 53));have FB:=af (fun(er:Int) (he:jh ring h t=er) (h0:er≠0) w' (k:Bw w w')=>PkAns.bad (ring:=ring) (h:=h) (t:=t) he h0 k);by_cases h40:n=40;rotate_left
 ·have HE:=af (show jh ring h t=1 by unfold jh;rw[if_neg ah])
  have d0:((n:Int) !=40)=true:=aC;have d1: ¬(n:Int)=40:=ah;clear h40 U hr B;go_enter TC,TD;exact aiG
 subst h40;have M:=af (IB.new w 53 h);have HT:=af ((hr.below BA.o).more BA.o.size);have s:=af T;have HN:=af U;have KF:=af (B.below BA.o);have hnf:=afM 111 p;clear hr B T U;obtain⟨V,hV⟩:=ak (w.alloc (.cells (agi h) 53));rw[<-hV] at M HT KF BA;have HV:=af hV;clear hV;cases gt:aG t with
 |false=>
  have HE:=af (show jh ring h t=2 by unfold jh;rw[if_pos HN.o,gt];rfl);have P:=af (mX A c 40 V.heap.size t V HT.o HN.o ah);rw[gt] at P;clear gt;go_enter TC,TD;go_wp2_with fail;rw[<-HV.o];refine P.o.mono ?_;rintro e Z ⟨rfl,rfl⟩;go_wp2
  ((try simp only[Exit.inBlock,Exit.then]);refine aX (yP rfl _ _ _) rfl ?_)
  exact FB.o _ HE.o aA _ BA.o
 |true=>
 have P:=af (mX A c 40 V.heap.size t V HT.o HN.o ah);rw[gt] at P;have y:=af (mX (some ⟨w.heap.size,0,none⟩) 80 80 V.heap.size h V (aei M.o) s.o ah);cases gh:aG h with
 |false=>
  have HE:=aj (jh ring h t=2) (TV);rw[gh] at y;clear gt gh;go_enter TC,TD;go_wp2_with fail;rw[<-HV.o];refine P.o.mono ?_;rintro e Z ⟨rfl,rfl⟩;go_wp2_with fail;refine y.o.mono ?_;rintro e Z ⟨rfl,rfl⟩;go_wp2
  ((try simp only[Exit.inBlock,Exit.then]);refine aX (yP rfl _ _ _) rfl ?_)
  exact FB.o _ HE.o aA _ BA.o
 |true=>
 rw[gh] at y;have HE:=aj (jh ring h t=if pkR ring then 0 else 1) (TV);have Q:=af (gU gt);have q:=af (gU gh);clear gt gh;go_enter TC,TD;go_wp2_with fail;rw[<-HV.o];refine P.o.mono ?_;rintro e Z ⟨rfl,rfl⟩;go_wp2_with fail;refine y.o.mono ?_;rintro e Z ⟨rfl,rfl⟩;clear P y;go_wp2_with(refine aQ 169 (.tmp 10) (.tmp 32) [0,0,0] [20,0,0] 3 (IB.new _ _ [0,0,0]) agv rfl rfl ?_);have BB:=aj (IB ((V.alloc (.cells (agi [0,0,0]) 169)).setRow V.heap.size (agi [20,0,0])) V.heap.size 169 [20,0,0]) (IB.setRow (IB.new V _ [0,0,0]) _);have BL:=aj (Bw V ((V.alloc (.cells (agi [0,0,0]) 169)).setRow V.heap.size (agi [20,0,0]))) (aS (baqq _ _) (ax _) _);go_loopw[11] (fun iv wr=> ∃(n L:Nat),n<=60/\Hy (L=20+n)/\iv=.int .i64 L/\Hy (IB wr V.heap.size 169 [(pkS ring h t n).1,(pkS ring h t n).2.1,(pkS ring h t n).2.2])/\Hy (0<n->pkR ring=true)/\Hy (Bw V wr)) (fun iv _=>80-(intOf iv).toNat)
 case atStart=>exact⟨0,20,ah,af rfl,rfl,BB,af (fun h=>ah),BL⟩
 case round=>
  clear BB BL;obtain⟨n,L,U,d,rfl,x,HG,H⟩:=hrel;have hL:=d.o;by_cases hlt:n<60
  ·have o5:(L:Int)<80:=ah
   have HP:=af (Ae (h:=h) (lag:=(20:Int)+n) (sQ ah ah));have G:=af (Yj q.o ((20:Int)+n));have KP:=af (fun W=>show Cl 115 #[.agg (agi h),.int .i64 (L:Nat)] W (fun e w'=> ∃A c,e=.returned (.tuple #[.slice A 40 c,.int .i64 0])/\Own w' W.heap.size A c (dU h ((20:Int)+n))/\Bw W w') from by
    have hLi:(L:Int)=(20:Int)+n:=ah;rw[hLi];refine(Xa h ((20:Int)+n) W s.o).mono ?_;rintro e w' ⟨A,c,h1,K,h3⟩;rw[sQ ah ah,HP.o] at h1;exact⟨A,c,h1,K,h3⟩)
   have VL:=af (Px (ring:=ring) HP.o G.o);have ST:=aj (pkS ring h t (n+1)=if decide (0<pkC ring h t n)&&jy (pkC ring h t n) (pkE ring h n) (pkS ring h t n).2.1 (pkS ring h t n).2.2 then(20+(n:Int),pkC ring h t n,pkE ring h n) else pkS ring h t n) (rfl);unfold pkC pkE piV at ST;have O:=aj (L+1=20+(n+1)) (UX);have hLI:=aj ((20:Int)+n=(L:Nat)) (UX);have P64:=af (ael (gU G.o));have l:=af (Jo ring (dU h ((20:Int)+n)));have rS:=Pz ring h Q.o n;have R:=aen ring h t n;generalize dU h ((20:Int)+n)=v at*
   have KF2:=af (fun W (k:Bw V W) A c (hr:Rs W W.heap.size A v)=>KF.o W k A c v hr HP.o P64.o);generalize foL ring v=f at*
   have KD1:=af (fun W A1 J A2 c2 (h1:Rs W W.heap.size A1 t) (K:Rs W W.heap.size A2 f) (B:f.length=40)=>Dy A1 A2 J c2 40 40 t f W h1 K HN.o B (ax _) ah Q.o (gU l.o));have KD2:=af (fun W A2 c2 (K:Rs W W.heap.size A2 f) (B:f.length=40)=>Dy A2 A2 c2 c2 40 40 f f W K K B B (ax _) ah (gU l.o) (gU l.o));have KRF:=af (fun W A2 c2 n (K:Rs W W.heap.size A2 f) (B:f.length=n) (U:n<=17592186044416)=>mX A2 c2 n W.heap.size f W K B U);have rC:=qy Q.o (gU l.o) 40;have rE:=qy (gU l.o) (gU l.o) 40;have pos:=aeh (a:=t) (b:=f) (n:=40);obtain⟨q1,S⟩:=ak ((pkS ring h t n).1);obtain⟨X,F⟩:=ak ((pkS ring h t n).2.1);obtain⟨Y,z⟩:=ak ((pkS ring h t n).2.2);rw[<-F,<-z] at ST rS;rw[<-z] at R;rw[<-S,<-F,<-z] at x;have HQ:=af (show pkS ring h t n=(q1,X,Y) by rw[S,F,z]);have IW:=af (Blk.below' M.o H.o);have TW:=af ((HT.o.below H.o).more H.o.size);clear S F z hL;generalize bQ t f 40=C at*
   generalize bQ f f 40=E at*
   have KB:=af (fun W=>aee C E X Y W ah ah ah ah ah ah ah ah);have POS:=af pos;have BNN:=af R;clear pos R rS rC rE;go_wp2_with(refine aK 53 (.tmp 3) h 80 IW.o iV afL s.o ?_);refine(KP.o wr).mono ?_;rintro e Z ⟨A1,J,rfl,hO,k⟩;have B1:=af (aH H.o k);have O1:=af hO.reads;have TW1:=af ((TW.o.below k).more k.size);have Q1:=af (Blk.below' x.o k);clear hO k KP IW;go_wp2_with fail;refine(KF2.o Z B1.o A1 J O1.o).mono ?_;rintro e w2 ⟨A2,c2,rfl,hO,k⟩;have B2:=af (aH B1.o k);have O2:=af hO.reads;have TW2:=af ((TW1.o.below k).more k.size);have Q2:=af (Blk.below' Q1.o k);clear hO k KF2 O1 TW1 B1 H TW Q1 x;cases hR:pkR ring with
   |false=>
    exact ah5
   |true=>
    have r:=VL.o;rw[hR] at r;simp only[if_true] at r;rw[r];have I:=af (KRF.o w2 A2 c2 40 O2.o r ah);have N:=af (fun(_:0<n+1)=>hR);have L40:=af r;rw[l.o] at I;clear hR r KRF;go_wp2_with fail;refine I.o.mono ?_;rintro e w3 ⟨rfl,rfl⟩;go_wp2_with fail;refine(KD1.o w2 A c A2 c2 TW2.o O2.o L40.o).mono ?_;rintro e w3 ⟨rfl,k⟩;have B3:=af (aH B2.o k);have O3:=af ((O2.o.below k).more k.size);have Q3:=af (Blk.below' Q2.o k);clear k KD1 O2 Q2 TW2 B2;go_wp2_with fail;refine(KD2.o w3 A2 c2 O3.o L40.o).mono ?_;rintro e w4 ⟨rfl,k⟩;have B4:=af (aH B3.o k);have Q4:=af (Blk.below' Q3.o k);clear k KD2 O3 Q3 B3;by_cases hC:C<=0
    ·have j:=af (show pkS ring h t (n+1)=(q1,X,Y) by rw[ST.o,kV ah];exact HQ.o)
     have hC2:decide (0<C)=false:=aC;clear ST;go_wp2;go_roundw;case rel=>exact⟨n+1,L+1,ah,O,aT,af (by rw[j.o];exact Q4.o),N,B4⟩
     case measure=>exact aW
    have hC2:decide (0<C)=true:=aC;obtain⟨b,hb⟩:=ak (jy C E X Y);rw[<-hb,hC2] at ST;rw[<-hb] at KB;clear hb;have J:=IB.cell Q4.o 1 ay;have c2:=IB.cell Q4.o 2 ay;simp only[aaD,List.getD_cons_zero] at J c2;go_wp2_with fail;refine(KB.o _).mono ?_;rintro en w5 ⟨rfl,k⟩;have B5:=af (aH B4.o k);have Q5:=af (Blk.below' Q4.o k);clear k Q4 B4 J c2;cases b
    ·have j:=af (show pkS ring h t (n+1)=(q1,X,Y) by rw[ST.o];exact HQ.o)
     go_wp2;go_roundw;case rel=>exact⟨n+1,L+1,ah,O,aT,af (by rw[j.o];exact Q5.o),N,B5⟩
     case measure=>exact aW
    have j:=af (show pkS ring h t (n+1)=(((L:Nat):Int),C,E) by rw[ST.o,<-hLI.o];rfl);have Q6:=af (IB.setRow Q5.o [((L:Nat):Int),C,E]);have u:=af (aS B5.o (g:=V.heap.size) (ax _) (agi [((L:Nat):Int),C,E]));go_wp2_with(refine aQ 169 (.tmp 10) (.tmp 74) [q1,X,Y] [((L:Nat):Int),C,E] 3 Q5.o agv rfl rfl ?_);go_roundw;case rel=>exact⟨n+1,L+1,ah,O,aT,af (by rw[j.o];exact Q6.o),N,u⟩
    case measure=>exact aW
  obtain rfl:n=60:=ah;obtain rfl:L=80:=ah;have HE0:=af (show jh ring h t=0 by rw[HE.o,HG.o ah];rfl);clear hL hlt;have c0:=IB.cell x.o 0 ay;have J:=IB.cell x.o 1 ay;have c2:=IB.cell x.o 2 ay;simp only[aaD,List.getD_cons_zero] at c0 J c2;have D:=af (fun m=>aH H.o (jL wr m));go_wp2;go_quiet (fail);go_wp2
  ((try simp only[Exit.inBlock,Exit.then]);refine aX (yP rfl _ _ _) rfl ?_)
  exact⟨by unfold piA piB pkD;rw[HE0.o];rfl,aH BA.o (D.o _)⟩
structure BxL(w wr:Wd)(r kk:Lz):Prop where
 A:IB wr w.heap.size 73 r
 R:IB wr (w.heap.size+1) 52 Z8
 K:IB wr (w.heap.size+1+1) 52 kk
 bel:Bw w wr
theorem BxL.lt{wr:Wd}{r a:Lz}(h:BxL w wr r a):w.heap.size+1+1<wr.heap.size:=Blk.lt h.K
theorem BxL.below{wr a:Wd}{r c:Lz}(h:BxL w wr r c)(b:Bw wr a):BxL w a r c:=
 ⟨Blk.below' h.A b,Blk.below' h.R b,Blk.below' h.K b,h.bel.trans (b.mono rX)⟩
theorem BxL.setK{wr:Wd}{r a:Lz}(h:BxL w wr r a)(i:Nat)(v:Int):BxL w (wr.setCell ⟨w.heap.size+1+1,i,none⟩ (.int .i64 v)) r (a.set i v):=
 ⟨Blk.far h.A Me _,Blk.far h.R ni _,IB.set_ h.K i v,h.bel.setCell (p:=⟨w.heap.size+1+1,i,none⟩) qM _⟩
theorem BxL.start(w:Wd)(r:Lz):BxL w (((w.alloc (.cells (agi r) 73)).alloc (.cells (agi Z8) 52)).alloc (.cells (agi Z8) 52)) r Z8:=by
 have h1:=IB.new w 73 r;have h2:=IB.new (w.alloc (.cells (agi r) 73)) 52 Z8;have h3:=IB.new ((w.alloc (.cells (agi r) 73)).alloc (.cells (agi Z8) 52)) 52 Z8;exact aix
theorem aqt{base g C c:Nat}{xs:Lz}{t:TypeId}{b:Array Value}(h:Own w base (some ⟨g,0,none⟩) c xs)(f:0<xs.length)(e:Blk w C t b)(F:3≠t):g≠C:=by
 obtain⟨i,cap,d,a,_,_,T,_⟩:=h.form f;injection a with a;injection a with a;subst a;exact Blk.ne_ (t:=3) T e F
theorem aqu(r:Lz)(w:Wd)(hl:r.length=9):Cl 43 #[.agg (agi r)] w (JK w r):=by
 have M:=af (BxL.start w r);have hR:=sG (fn:=Tryz.f43) (p:=2) (q:=3) (r:=4) (ty:=52) rfl;have HL:=af hl;have HIX:=af (fun(k:Nat) (hk:k<9) (w:Wd)=>jW bP r hl k hk w);have c0:=IB.cell M.o.A 0 ah;obtain⟨r0,Z⟩:=ak (r.getD 0 0);rw[<-Z,dP] at c0;have S:=af Z;rw[dP] at M;clear hl Z;go_enter Tryz.func43,Tryz.ntmps43;go_wp2_with(refine aK 73 (.tmp 1) r 9 M.o.A bP bC HL.o ?_);go_loop [16] (fun iv=> ∃k:Nat,k<=9/\iv=.int .i64 k/\Hy (allTo okS r k)) (fun iv=>9-(intOf iv).toNat)
 case atStart=>exact⟨0,ah,rfl,af allTo.zero⟩
 case round=>
  obtain⟨k,hk,rfl,HY⟩:=hrel;by_cases hlt:k<9
  ·have u:=HIX.o k hlt
   obtain⟨x,hx⟩:=ak (r.getD k 0);rw[<-hx] at u;have HX:=af hx;clear hx;by_cases z:x< -2147483647\/2147483647<x
   ·have D:=af (vM (ae3 (jb (i:=k) qN (ae2 ww))) (aS M.o.bel (g:=w.heap.size+1) ah (agi Z8)))
    rw[QG] at D;rcases z with H|H
    ·have b0: ¬2147483647<x:=ah
     exact ah2
    exact ah2
   have H: -2147483647<=x:=ah;have b2:x<=2147483647:=ah;have HN:=af (HY.o.succ (by rw[<-HX.o];exact ae1 H b2));clear z;exact VM
  obtain rfl:k=9:=ah;have sd:r.all okS=true:=HY.o.all Ui;have RW:=af (YP sd);clear hlt;by_cases N:r0<1
  ·have D:=af (vM (ae4 (r:=r) (by rw[<-S.o];omega)) (aS M.o.bel (g:=w.heap.size+1) ah (agi Z8)))
   rw[QG] at D;clear sd;have I:=af (M.o.R.setRow (Z8));go_wp2_with(first
    |(refine aK 52 (.tmp 5) (Z8) 8 M.o.K aU aJ rfl ?_)
    |(refine aQ 52 (.tmp 2) (.tmp 31) Z8 (Z8) 8 M.o.R aJ rfl rfl ?_))
   refine aX (v:=_) (hR _ _ _ 52 (Z8) _ 8 rfl I.o aU rfl aJ rfl) rfl ?_;exact D.o
  have h0:0<r0:=ah;have V:=af (LevSt.start sd (by rw[<-S.o];exact h0));rw[<-S.o] at V;have hs0:w.heap.size+1+1+1=(((w.alloc (.cells (agi r) 73)).alloc (.cells (agi Z8) 52)).alloc (.cells (agi Z8) 52)).heap.size:=ay;have G0:=agz (((w.alloc (.cells (agi r) 73)).alloc (.cells (agi Z8) 52)).alloc (.cells (agi Z8) 52)) 16777216 w.heap.size (by rw[<-hs0];omega);rw[<-hs0,dP] at G0;have G0:=af G0;have I1:=af (M.o.below (baqq _ (.cells #[.int .i64 16777216] 3)));have hlow2: ¬r0<1:=N;clear sd N hs0;go_wp2;go_loopw[8,9,10] (fun ev av mv wr=> ∃(m n g c:Nat) (e:Int) (G k:Lz),m<=8/\mv=.int .i64 m/\ev=.int .i64 e/\av=.slice (some ⟨g,0,none⟩) n c/\Hy (n=m+1)/\Hy (LevSt r (m+1) G e k)/\Hy (Own wr w.heap.size (some ⟨g,0,none⟩) c G)/\Hy (BxL w wr r (dK 8 k))) (fun _ _ mv _=>8-(intOf mv).toNat)
  case atStart=>exact⟨0,1,_,_,r0,_,[],ah,rfl,rfl,rfl,af rfl,V,G0,I1⟩
  case round=>
   clear M I1 c0 V G0;obtain⟨m,n,g,c,e,G,k,hm8,rfl,rfl,rfl,HN,ST,J,E⟩:=hrel;obtain⟨wo,rfl⟩:=ak (wr:Wd);have a:=af (Ij (n:=8) (k:=k) F5);have LA:=af (show G.length=n by rw[ST.o.la,HN.o]);by_cases hlt:m<8
   ·have AB:=af (ST.o.bnd ah)
    have he0:=ST.o.e0;have he1:=ST.o.e1;have hn9:n<=8:=kK;have dm:decide ((m:Int)<8)=true:=aC;go_wp2;go_loopw[11,39] (fun sv iv wr=> ∃(i:Nat) (s:Int),i<=n/\iv=.int .i64 i/\sv=.int .i64 s/\Hy (s=aN (nZ G r n) i)/\Hy (Own wr w.heap.size (some ⟨g,0,none⟩) c G)/\Hy (BxL w wr r (dK 8 k))) (fun _ iv _=>n-(intOf iv).toNat)
    case atStart=>exact⟨0,0,ah,rfl,rfl,af rfl,J,E⟩
    case round=>
     clear J E;obtain⟨i,s,hi,rfl,rfl,C,J,E⟩:=hrel;by_cases hil:i<n
     ·obtain⟨d,U⟩:∃d:Nat,n=i+d:=⟨n-i,ah⟩
      have Y:=J.o.cell i (by rw[LA.o];omega);have c2:=E.o.A.cell d qi;have L:=YR (m:=n) AB.o RW.o i;have sb:=Qg (m:=n) AB.o RW.o i ah;rw[<-C.o] at sb;have HT:=aj (aN (nZ G r n) (i+1)=s+nZ G r n i) (Gq);unfold nZ at L HT;rw[show n-i=d from ah] at L HT;have bx:=AB.o i;generalize G.getD i 0=x at*
      generalize r.getD d 0=y at*
      obtain⟨⟨t1,t2⟩,⟨t3,t4⟩,⟨b,t6⟩⟩:=L;obtain⟨s1,s2⟩:=sb;obtain⟨bx1,bx2⟩:=bx;have hd9:d<9:=ah;have hdI:(d:Int)<9:=ah;have hd0:(0:Int)<=(d:Int):=ah;have hin:(i:Int)<n:=ah;have hmn:=HN.o;have T:IntKind.i64.wrap ((m:Int)+1)=(m:Int)+1:=aV;have X:IntKind.i64.wrap ((m:Int)+1-(i:Int))=(d:Nat):=aV;have hwC:IntKind.i64.wrap (x/512*y)=x/512*y:=aV;have hwD:IntKind.i64.wrap (s+x/512*y/32768)=s+x/512*y/32768:=aV;have K1:=af (fun W=>akE x W ah ah);have K2:=af (fun W=>Io (x/512*y) W ah ah);have O:=Blk.lt E.o.A;have HD:=af U;have HMN:=af hmn;clear U hmn;go_wp2;go_region_held3 (fun w'=>w'.cell? ⟨w.heap.size,d,none⟩=some (.int .i64 y)) (go_keep)
       (first
       |(go_at_call 94;(with_reducible refine(K1.o _).mono ?_);rintro t w3 ⟨rfl,j⟩;have k1:=(j.cell (p:=⟨w.heap.size,d,none⟩) O).trans c2;have q1:=af j;clear j)
       |(go_at_call 94;(with_reducible refine(K2.o _).mono ?_);rintro t w4 ⟨rfl,j⟩;have k2:=(j.cell (p:=⟨w.heap.size,d,none⟩) (je O q1.o.size)).trans k1;have q2:=af j;clear j))
      all_goals
       clear T X hwC hwD;have BB:=af (show Bw wr w4 from(NG q1.o).trans (q2.o.mono q1.o.size));have G4:=af (J.o.below BB.o);have l:=af (E.o.below BB.o);go_wp2;go_roundw;case rel=>exact⟨i+1,_,ah,aT,rfl,af HT.o.symm,G4,l⟩
       case measure=>exact aW
     obtain rfl:n=i:=ah;have sb:=Qg (m:=n) AB.o RW.o n hn9;rw[<-C.o] at sb;obtain⟨s1,s2⟩:=sb;obtain⟨q,hq⟩:=ak ((-s*32768).tdiv e);have tq:=WH (x:= -s*32768) (e:=e) he0;rw[<-hq] at tq;have q1: -1000000000000000000<=q:=ah;have q2:q<=1000000000000000000:=ah;have HQ:=af (show q=(-nJ G r (m+1)*32768).tdiv e by rw[hq,C.o,ae5,HN.o]);have HQE:=af hq;have hne:=aqt J.o (by rw[LA.o];have:=HN.o;omega) E.o.K aA;clear hq tq hil;go_wp2_with fail;refine(jM _ (-s) ah ah).mono ?_;rintro t w1 ⟨bA,rfl,hbA,B,j⟩;have n1:=IntBlk.new wr (.bool false) (.slice none 0 0);have n2:=IntBlk.new (wr.alloc (.cells #[.bool false,.slice none 0 0] 144)) (.bool false) (.slice none 0 0);simp only[bT] at n2;have Z1:=af (IntBlk.below (n1.below (baqq _ (.cells #[.bool false,.slice none 0 0] 144)) (ax _)) j (ax _));have Y1:=af (IntBlk.below n2 j (ax _));have X1:=af B;have B1:=af ((((aP _ wr).alloc (ax _) (.cells #[.bool false,.slice none 0 0] 144)).alloc ay (.cells #[.bool false,.slice none 0 0] 144)).trans (j.mono aC));have hbA2:wr.heap.size+1+1<=bA:=(by simpa using hbA);clear B j n1 n2 hbA;go_wp2_with fail;refine(zU _ (wr.heap.size+1) bA (-s) 15 Y1.o X1.o (bW ah) ah).mono ?_;rintro t w2 ⟨rfl,B,hG⟩;rw[show(2:Int)^15=32768 from aA] at B;have Z2:=af (IntBlk.kept Z1.o hG ah);have Y2:=af B;have B2:=af (eP B1.o hG ah);clear B hG Z1 Y1 X1 B1;go_wp2_with fail;refine(jM _ e ah ah).mono ?_;rintro t w3 ⟨bB,rfl,hbB,B,j⟩;have Z3:=af (Z2.o.below j (ax _));have Y3:=af (Y2.o.below j (ax _));have X3:=af B;have B3:=af (aH B2.o j);clear B j Z2 Y2 B2;go_wp2_with fail;refine(acJ _ wr.heap.size (wr.heap.size+1) bB (-s*32768) e Z3.o Y3.o X3.o (.inl ah) ah (bW ah) (bW ah)).mono ?_;rintro t w4 ⟨rfl,B,hG⟩;rw[<-HQE.o] at B;have Z4:=af B;have B4:=af (eP B3.o hG (ax _));clear B hG Z3 Y3 X3 B3;have KI:=af (ak9 w4 wr.heap.size q Z4.o ah ah);have KJ:=af (qm w4 wr.heap.size q Z4.o ah ah);have G4:=af (J.o.below B4.o);have l:=af (E.o.below B4.o);have hlt4:=l.o.lt;clear Z4 B4 J E;by_cases hb:q<= -32000\/32000<=q
     ·have D:=af (vM (ST.o.stop ah ah HQ.o hb) (aS l.o.bel (g:=w.heap.size+1) ah (agi (dK 8 k))))
      rcases hb with H|H
      ·skip
       have I:=af (l.o.R.setRow (dK 8 k));go_wp2_with(first
       |(go_at_call 104;refine KI.o.mono ?_;rintro t Q ⟨rfl,rfl⟩)
       |(go_at_call 102;refine KJ.o.mono ?_;rintro t Q ⟨rfl,rfl⟩)
        |(refine aK 52 (.tmp 5) (dK 8 k) 8 l.o.K aU aJ a.o ?_)
        |(refine aQ 52 (.tmp 2) (.tmp 79) Z8 (dK 8 k) 8 l.o.R aJ rfl a.o ?_))
       exact Gz
      have b0: ¬q<= -32000:=ah;have I:=af (l.o.R.setRow (dK 8 k));go_wp2_with(first
      |(go_at_call 104;refine KI.o.mono ?_;rintro t Q ⟨rfl,rfl⟩)
      |(go_at_call 102;refine KJ.o.mono ?_;rintro t Q ⟨rfl,rfl⟩)
       |(refine aK 52 (.tmp 5) (dK 8 k) 8 l.o.K aU aJ a.o ?_)
       |(refine aQ 52 (.tmp 2) (.tmp 79) Z8 (dK 8 k) 8 l.o.R aJ rfl a.o ?_))
      exact Gz
     have H: -32000<q:=ah;have b2:q<32000:=ah;clear hb;have cK:=l.o.K.cell m (by rw[a.o];exact hlt);have fK:=Blk.frozen l.o.K m;have f:=af (Ij (n:=8) (k:=k++[q]) (by have:=ST.o.lk;simp;omega));have I5:=af (show BxL w (w4.setCell ⟨w.heap.size+1+1,m,none⟩ (.int .i64 q)) r (dK 8 (k++[q])) by
      have:=l.o.setK m q;rw[ack q F5,show k.length=m from F5];exact this)
     have cq:(w4.setCell ⟨w.heap.size+1+1,m,none⟩ (.int .i64 q)).cell? ⟨w.heap.size+1+1,m,none⟩=some (.int .i64 q):=World.cell?_setCell_same _ _ _ cK;have G5:=af (G4.o.kept (row:=some (w.heap.size+1+1)) (w':=w4.setCell ⟨w.heap.size+1+1,m,none⟩ (.int .i64 q)) ⟨rfl,rfl,rfl,uQ,fun i _ hn=>lV _ _ _ i wH⟩ (fun ad h=>by injection h with h;subst h;simpa using hne));have KG:=af (acm (some ⟨g,0,none⟩) c G q n _ G5.o.reads LA.o kK ah ⟨ah,ah⟩ AB.o);go_wp2_with(first
      |(go_at_call 104;refine KI.o.mono ?_;rintro t Q ⟨rfl,rfl⟩)
      |(go_at_call 102;refine KJ.o.mono ?_;rintro t Q ⟨rfl,rfl⟩))
     refine KG.o.mono ?_;rintro t Q ⟨F,c2,rfl,hO,j⟩;obtain⟨g2,rfl,_,_⟩:=hO.head (by rw[yA];omega);have G6:=af (hO.more (base':=w.heap.size) I5.o.bel.size);have I6:=af (I5.o.below j);have cq6:Q.cell? ⟨w.heap.size+1+1,m,none⟩=some (.int .i64 q):=(j.cell (p:=⟨w.heap.size+1+1,m,none⟩) (by have:=I5.o.lt;exact this)).trans cq;have P:=Blk.lt I6.o.K;rw[yA];clear hO j cq cK fK KG KI KJ I5 G5 G4 l;obtain⟨⟨u1,u2⟩,⟨u3,u4⟩,u5,u6⟩:=WI he0 he1 H b2;have D1:=af (fun W=>Io (e*q) W ah ah);have D2:=af (fun W=>Io (e*q/32768*q) W ah ah);obtain⟨e',he'⟩:=ak (e-e*q/32768*q/32768);have hm0:(0:Int)<=(m:Int):=ah;have hm1:(m:Int)<8:=ah;have hw1:IntKind.i64.wrap (e*q)=e*q:=aV;have hw2:IntKind.i64.wrap (e*q/32768*q)=e*q/32768*q:=aV;have hw3:IntKind.i64.wrap (e-e*q/32768*q/32768)=e':=aV;have HE:=af he';have v1:e'<=2147483647:=ah;have v2: -2147483648<=e':=ah;clear he' u5 u6;go_wp2;go_region_held3 (fun w'=>w'.cell? ⟨w.heap.size+1+1,m,none⟩=some (.int .i64 q)) (go_keep)
      (first
      |(go_at_call 94;(with_reducible refine(D1.o _).mono ?_);rintro t w6 ⟨rfl,j⟩;have k1:=(j.cell (p:=⟨w.heap.size+1+1,m,none⟩) P).trans cq6;have r1:=af j;clear j)
      |(go_at_call 94;(with_reducible refine(D2.o _).mono ?_);rintro t w7 ⟨rfl,j⟩;have k2:=(j.cell (p:=⟨w.heap.size+1+1,m,none⟩) (je P r1.o.size)).trans k1;have r2:=af j;clear j))
     all_goals
      clear hw1 hw2 hw3;have BB:=af (show Bw Q w7 from(NG r1.o).trans (r2.o.mono r1.o.size));have G7:=af (G6.o.below BB.o);have I7:=af (I6.o.below BB.o);by_cases hend:e'<1
      ·have D:=af (vM (ST.o.none_ ah ah HQ.o H b2 (by rw[<-HE.o];omega)) (aS I7.o.bel (g:=w.heap.size+1) ah (agi (dK 8 (k++[q])))))
       have I:=af (I7.o.R.setRow (dK 8 (k++[q])));go_wp2_with(first
        |(refine aK 52 (.tmp 5) (dK 8 (k++[q])) 8 I7.o.K aU aJ f.o ?_)
        |(refine aQ 52 (.tmp 2) (.tmp 105) Z8 (dK 8 (k++[q])) 8 I7.o.R aJ rfl f.o ?_))
       exact aiI
      ·have NST:=af (ST.o.next ah ah HQ.o H b2 (by rw[<-HE.o];omega))
       rw[<-HE.o] at NST;have hend2:1<=e':=ah;go_wp2;go_roundw;case rel=>exact⟨m+1,n+1,g2,c2,e',_,_,ah,aT,rfl,rfl,af (by rw[HN.o]),by rw[<-HN.o] at*;exact NST,G7,I7⟩
       case measure=>exact aW
   obtain rfl:m=8:=ah;have D:=af (vM ST.o.fin (aS E.o.bel (g:=w.heap.size+1) ah (agi (dK 8 k))));clear hlt;have I:=af (E.o.R.setRow (dK 8 k));go_wp2_with(first
    |(refine aK 52 (.tmp 5) (dK 8 k) 8 E.o.K aU aJ a.o ?_)
    |(refine aQ 52 (.tmp 2) (.tmp 106) Z8 (dK 8 k) 8 E.o.R aJ rfl a.o ?_))
   exact Gz
theorem aqG{B g:Nat}{y:Int}(h:w.cell? ⟨g,0,none⟩=some (.int .u8 y))(G:g<B):Rb w B (some ⟨g,0,none⟩) [y]:=
 ⟨by simp[bts],fun _=>⟨_,rfl,G,fun j u a=>by
   match j,a with
   |0,a=>simp[bts] at a;subst a;rw[lN];exact h⟩⟩
theorem aqH(ps:Lz)(w:Wd)(T:TabS w 2 dh)(hl:ps.length=25)(hw:W64 ps):
 Cl 51 #[.agg (agi ps)] w (Qi ps w):=by
 have P0:=af (IB.new w 81 ps);have B0:=af (baqq w (.cells (agi ps) 81));have T0:=af (T.below B0.o);have HL:=af hl;obtain⟨V,hV⟩:=ak (w.alloc (.cells (agi ps) 81));rw[<-hV] at P0 B0 T0;have HV:=af hV;have KG:=af (afI ps V T0.o hl);have KN:=af (fun W (h:TabS W 2 dh)=>Zf ps W h hl);have KP:=af (fun W=>adE ps W hl hw);clear T hl hw hV;by_cases G:dD ps 25=true
 ·have N:=af G
  have j:=aj (qY ps=jd (pkW ps)++[chk (jd (pkW ps))]) (if_pos G);have y:=aj (Aw ps=0) (if_pos G);rw[G] at KG;clear G;go_enter Tryz.func51,Tryz.ntmps51;go_wp2_with(first
   |(rw[<-HV.o];clear HV)
   |(refine aK 81 (.tmp 1) ps 25 P0.o gu dF HL.o ?_)
   |(go_at_call 127;(with_reducible refine KG.o.mono ?_);rintro e w1 ⟨rfl,m⟩;have P1:=af (Blk.below' P0.o m);have T1:=af (T0.o.below m);have B1:=af (aH B0.o m);clear m)
   |(refine aK 81 (.tmp 1) ps 25 P1.o gu dF HL.o ?_)
   |(go_at_call 128;(with_reducible refine(KN.o w1 T1.o).mono ?_);rintro e c ⟨A1,c1,A2,c2,A3,c3,rfl,t,C,h3,m⟩;have O1:=af t.reads;have O2:=af C.reads;have F:=af (Blk.below' P1.o m);have B2:=af (aH B1.o m);clear t C h3 m))
  have M:=aj (IntAt (c.alloc (.cells #[.bool false,.slice none 0 0] 144)) c.heap.size ((pkX ps 0:Nat):Int)) (Xx c);have L0:=af (baqq c (.cells #[.bool false,.slice none 0 0] 144));go_loopw[8,23] (fun nv iv wr=> ∃i:Nat,i<=25/\iv=.int .i64 i/\nv=.int .i64 (pkA i:Nat)/\Hy (IntAt wr c.heap.size ((pkX ps i:Nat):Int))/\Hy (Bw c wr)) (fun _ iv _=>25-(intOf iv).toNat)
  case atStart=>exact⟨0,ah,rfl,rfl,M,L0⟩
  case round=>
   clear M L0;obtain⟨i,hi,rfl,rfl,E,H⟩:=hrel;by_cases hlt:i<25
   ·obtain⟨ad,rfl,had,q0⟩:=O1.o.at_ (k:=i) qN
    obtain⟨R,rfl,J,q1⟩:=O2.o.at_ (k:=i) (by rw[Jb];exact hlt);obtain⟨hv1,l⟩:=OO N.o hlt;obtain⟨hn1,hn2,_⟩:=DT hlt;have ha:=Je (n:=i+1) ah;have hx:=Jf N.o i hi;have hx2:=Jf N.o (i+1) hlt;have f:=aj (pkX ps (i+1)=pkX ps i*2^pkN i+(ps.getD i 0).toNat) (rfl);have SY:=aj (pkA (i+1)=pkA i+pkN i) (rfl);rw[SY.o] at ha;rw[l] at q0;rw[hn2] at q1;have I:(pkX ps i*2^pkN i)<340282366920938463463374607431768211456:=by
     have t:pkX ps (i+1)<2^106:=je hx2 (jK aA (by rw[SY.o];omega));rw[f.o] at t;have C:(2:Nat)^106<=340282366920938463463374607431768211456:=aA;omega
    have hXt:pkX ps i<340282366920938463463374607431768211456:=by
     have t:pkX ps i<2^106:=je hx (jK aA ah);have C:(2:Nat)^106<=340282366920938463463374607431768211456:=aA;omega
    have hvb:(ps.getD i 0).toNat<64:=je hv1 (show 2^pkN i<=2^6 from jK aA hn1);generalize (ps.getD i 0).toNat=v at*
    generalize pkN i=n at*
    generalize pkX ps i=X at*
    generalize pkA i=a at*
    obtain⟨Y,hY⟩:=ak (X*2^n);rw[<-hY] at I f;have KL:=aj (Cl 101 #[.pointer (some ⟨c.heap.size,0,none⟩),.pointer (some ⟨c.heap.size,0,none⟩),.int .u64 (n:Nat)] wr (jo wr c.heap.size ((Y:Nat):Int))) (by
     have h:=zU wr c.heap.size c.heap.size ((X:Nat):Int) n E.o.blk E.o (bW hXt) ah;rw[show((X:Nat):Int)*2^n=((Y:Nat):Int) by rw[hY];simp] at h;exact h)
    have KA:=af (fun W=>jM W ((v:Nat):Int) ah ah);have KS:=af (fun W b t C=>uZ W c.heap.size c.heap.size b ((Y:Nat):Int) ((v:Nat):Int) (IntAt.blk t) t C (bW I) (bW (by show v<_;omega)));have hnu:IntKind.u64.wrap ((n:Nat):Int)=(n:Nat):=uN;have hwa:IntKind.i64.wrap ((a:Int)+(n:Nat))=(a:Int)+n:=aV;have k1:wr.cell? (R.add i)=some (.int .i64 (n:Nat)):=(H.o.cell (by rw[dV];exact J)).trans q1;have i0:(0:Int)<=i:=ah;have i25:(i:Int)<25:=ah;have Q0:=af q0;have Q1:=af q1;have HA:=af had;have HE:=af J;clear hv1 l hn2 hx hx2 I hXt hY q0 q1 had J;go_wp2_with(first
     |(go_at_call 101;(with_reducible refine KL.o.mono ?_);rintro e wL ⟨rfl,D,x⟩;have IL:=af D;have O:=af (eP H.o x (ax _));have kL:=(O.o.cell (p:=ad.add i) (by rw[dV];exact HA.o)).trans Q0.o;clear D x)
     |(go_at_call 97;(with_reducible refine(KA.o wL).mono ?_);rintro e U ⟨bA,rfl,hbA,A,s⟩;have d:=af A;have XA:=af (IL.o.below s (ax _));have BA:=af (aH O.o s);clear A s)
     |(go_at_call 96;(with_reducible refine(KS.o U bA XA.o d.o).mono ?_);rintro e wS ⟨rfl,B,z⟩;have IS:=af B;have r:=af (eP BA.o z (ax _));have kS:=(r.o.cell (p:=R.add i) (by rw[dV];exact HE.o)).trans Q1.o;clear B z))
    go_roundw;case rel=>exact⟨i+1,ah,aT,by rw[SY.o];push_cast;rfl,af (by rw[f.o];push_cast;exact IS.o),r⟩
    case measure=>exact aW
   obtain rfl:i=25:=ah;have hx:=Jf N.o 25 ah;rw[yI] at hx;rw[show((pkA 25:Nat):Int)=106 from by rw[yI];rfl];try rw[show((25:Nat):Int)=25 from rfl]
   rw[adL] at KP;have hqq:pkQ ps<2:=oV _ aA;have HW:=af (adM N.o);have hW:=amr N.o;generalize pkQ ps=q at*
   generalize pkX ps 25=X at*
   have KL1:=aj (Cl 101 #[.pointer (some ⟨c.heap.size,0,none⟩),.pointer (some ⟨c.heap.size,0,none⟩),.int .u64 1] wr (jo wr c.heap.size ((X*2:Nat):Int))) (by
    have h:=zU wr c.heap.size c.heap.size ((X:Nat):Int) 1 E.o.blk E.o (bW (by show X<_;omega)) ah;rw[show((X:Nat):Int)*2^1=((X*2:Nat):Int) from ay] at h;exact h)
   have KA:=af (fun W=>jM W ((q:Nat):Int) ah ah);have KS:=af (fun W b t C=>show Cl 96 #[.pointer (some ⟨c.heap.size,0,none⟩),.pointer (some ⟨c.heap.size,0,none⟩),.pointer (some ⟨b,0,none⟩)] W (jo W c.heap.size ((X*2+q:Nat):Int)) from by
    have h:=uZ W c.heap.size c.heap.size b ((X*2:Nat):Int) ((q:Nat):Int) (IntAt.blk t) t C (bW (by show X*2<_;omega)) (bW (by show q<_;omega));rw[show((X*2:Nat):Int)+((q:Nat):Int)=((X*2+q:Nat):Int) from ay] at h;exact h)
   have KL5:=af (fun W (t:IntAt W c.heap.size ((X*2+q:Nat):Int))=>show Cl 101 #[.pointer (some ⟨c.heap.size,0,none⟩),.pointer (some ⟨c.heap.size,0,none⟩),.int .u64 5] W (jo W c.heap.size ((pkW ps:Nat):Int)) from by
    have h:=zU W c.heap.size c.heap.size ((X*2+q:Nat):Int) 5 t.blk t (bW (by show X*2+q<_;omega)) ah;rw[show((X*2+q:Nat):Int)*2^5=((pkW ps:Nat):Int) by rw[HW.o];simp] at h;exact h)
   have P:=af B2.o;generalize pkW ps=Z at*
   clear hx hqq;go_wp2_with(first
    |(go_at_call 101;(with_reducible refine KL1.o.mono ?_);rintro e wL ⟨rfl,D,x⟩;have IL:=af D;have O:=af (eP H.o x (ax _));have PL:=af (Blk.below' F.o O.o);clear D x)
    |(refine aK 81 (.tmp 1) ps 25 PL.o gu dF HL.o ?_)
    |(go_at_call 129;(with_reducible refine(KP.o wL).mono ?_);rintro e w6 ⟨rfl,m⟩;have I6:=af (IL.o.below m (ax _));have u:=af (aH O.o m);clear m)
    |(go_at_call 97;(with_reducible refine(KA.o w6).mono ?_);rintro e U ⟨bA,rfl,hbA,A,s⟩;have d:=af A;have XA:=af (I6.o.below s (ax _));have BA:=af (aH u.o s);clear A s)
    |(go_at_call 96;(with_reducible refine(KS.o U bA XA.o d.o).mono ?_);rintro e wS ⟨rfl,B,z⟩;have IS:=af B;have r:=af (eP BA.o z (ax _));clear B z)
    |(go_at_call 101;(with_reducible refine(KL5.o wS IS.o).mono ?_);rintro e L ⟨rfl,D,x⟩;have IT:=af D;have BT:=af (eP r.o x (ax _));clear D x)
    |(at_make;refine YW rfl _ _ rfl .i64 .i64 14 rfl rfl L.heap.size ah (ax _) ?_;intro w7 Q x;have G7:=af (OwnB.blk Q ay);have L7:=af ((aP L.heap.size L).grown x (ax _) ay);have I7:=af (IT.o.below L7.o (ax _));have K:=af (aH BT.o L7.o);clear Q x)
    |(go_at_call 130;(with_reducible refine(aqF w7 c.heap.size L.heap.size Z I7.o hW G7.o).mono ?_);rintro e w8 ⟨rfl,hS,m⟩;have G8:=af hS;have g:=af (K.o.trans (m.mono BT.o.size));clear hS m)
    |(go_at_call 131;(with_reducible refine(adH (some ⟨L.heap.size,0,none⟩) 14 14 (jd Z) w8 (aos G8.o) (qC _) ah (adN _)).mono ?_);rintro e w' ⟨rfl,rfl⟩)
    |(at_builtin;refine abR rfl (.tmp 69) (.tmp 72) rfl L.heap.size (some ⟨L.heap.size,0,none⟩) 14 14 (jd Z) rfl (qC _) (afc (Blk.alloc G8.o _) (ax _) MS) _ _ 1 1 [chk (jd Z)] rfl rfl (aqG (JI rfl) (mP _)) ah (by have:=Blk.lt G8.o;rw[bT];omega) ?_;intro A9 c9 w9 Q x;have O9:=af Q;have S:=af ((g.o.alloc g.o.size _).grown x (by have:=g.o.size;rw[bT];omega) (fun k hk=>by cases hk;exact BT.o.size));clear Q x))
   go_ret2;exact⟨A9,c9,by rw[y.o,j.o,dN,qC];rfl,by rw[j.o];exact O9.o.more (dL P.o.size BT.o.size),aH P.o S.o⟩
 ·have hgf:dD ps 25=false:=Gs
  have j:=aj (qY ps=[]) (if_neg G);have y:=aj (Aw ps=2) (if_neg G);rw[hgf] at KG;clear G hgf;go_enter Tryz.func51,Tryz.ntmps51;go_wp2_with(first
   |(rw[<-HV.o];clear HV)
   |(refine aK 81 (.tmp 1) ps 25 P0.o gu dF HL.o ?_)
   |(go_at_call 127;(with_reducible refine KG.o.mono ?_);rintro e w1 ⟨rfl,m⟩;have B1:=af (aH B0.o m);clear m))
  exact ajf
theorem aqJ(g:aO m=true):W64 m.nums:=by
 obtain⟨c,d,e,h,i,j,k,b⟩:=jr g;refine Dv.2 ⟨fun x a=>?_,nN d,nN e,fun x a=>?_⟩
 ·have:=List.all_eq_true.1 c x a
  unfold okK at this;have f: -31000<=x/\x<=31000:=by simpa using this
  omega
 simp only[zt,zu,yZ] at a;rcases a with rfl|rfl|rfl|rfl|rfl<;>omega
theorem aqK(u:Lz):W64 (spC u):=by
 unfold spC blL;split
 ·intro x a
  obtain⟨i,_,rfl⟩:=List.mem_map.1 a;have:=IU (u.getD 7 0);unfold blE;split
  ·split<;>omega
  omega
 intro x a;cases a
structure Hs(w wr:Wd)(m:Mm)(u:Lz):Prop where
 A:MB wr w.heap.size m
 U:IB wr (w.heap.size+1) 78 u
 R:MB wr (w.heap.size+2) aZ
 bel:Bw w wr
theorem Hs.start(w:Wd)(m:Mm)(u:Lz):Hs w (((w.alloc (.cells m.ag 55)).alloc (.cells (agi u) 78)).alloc (.cells Tryz.zeroCells55 55)) m u:=by
 have h1:=MB.new w m;have h2:=IB.new (w.alloc (.cells m.ag 55)) 78 u;have h3:=oh ((w.alloc (.cells m.ag 55)).alloc (.cells (agi u) 78));simp only[bT] at h2 h3;exact aiF
section
variable {w wr w':Wd} {m:Mm} {u:Lz}
theorem Hs.below(s:Hs w wr m u)(a:Bw wr w'):Hs w w' m u:=⟨Blk.below' s.A a,Blk.below' s.U a,Blk.below' s.R a,aH s.bel a⟩
theorem Hs.lt(s:Hs w wr m u):w.heap.size+3<=wr.heap.size:=Blk.lt s.R
theorem Hs.setE(s:Hs w wr m u)(k:m.ok)(e:Lz)(a:e.length=80):Hs w (wr.setCells w.heap.size 16 (au e)) {m with e:=e} u:=
 ⟨s.A.set_e k e a,cZ ah _ _ _ s.U,cZ ah _ _ _ s.R,iJ (ax _) _ _ _ s.bel⟩
theorem Hs.set3(s:Hs w wr m u)(k:m.ok)(x y z:Int):Hs w (((wr.setCell ⟨w.heap.size,98,none⟩ (.int .i64 x)).setCell ⟨w.heap.size,97,none⟩ (.int .i64 y)).setCell ⟨w.heap.size,96,none⟩ (.int .i64 z)) {m with la:=x,pi:=y,ga:=z} u:=
 ⟨((s.A.set_la k x).set_pi ⟨k.r,k.p,k.e⟩ y).set_ga ⟨k.r,k.p,k.e⟩ z,Ep ah s.U _ _ _ _ _ _,Ep ah s.R _ _ _ _ _ _,afu (ax _) s.bel _ _ _ _ _ _⟩
end
theorem agD(m:Mm)(k:m.ok)(u:Lz)(w:Wd)(T1:TabS w 5 dY)(T2:TabS w 0 cO)(hu:UOk u)(hw:W64 m.e):
 Cl 49 #[.agg m.ag,.agg (agi u)] w (pV w (spM m u) (spX m u)):=by
 have hR:=JD (fn:=Tryz.f49) (p:=4) (q:=5) rfl;have r:=Hs.start w m u;obtain⟨V,hV⟩:=ak ((((w.alloc (.cells m.ag 55)).alloc (.cells (agi u) 78)).alloc (.cells Tryz.zeroCells55 55)));rw[<-hV] at r;have HV:=af hV.symm;have r:=af r;have K:=af k;have C:=af hu.l;have h59:=hu.a;have KL:=af (aeu (u.getD 7 0) V (T1.below r.o.bel));unfold Js at KL;have KG:=af (fun W (h:Bw w W)=>alv (u.getD 1 0) W (T2.below h));have KB:=af (fun W=>show Cl 118 #[.agg (au ((u.drop 2).take 4)).toArray,.int .i64 (u.getD 6 0),.int .i64 (glV (u.getD 7 0))] W (NewSE W (spC u) (bz (blB (uI u) (u.getD 6 0) (glV (u.getD 7 0))))) from ada (uI u) (u.getD 6 0) (glV (u.getD 7 0)) W (OQ hu.l));have CL:=af (OU hu);have XL:=af (tV hu m);have T:=af (fun W A c (h:Rs W W.heap.size A (spC u))=>show Cl 122 #[.agg (au m.e).toArray,.int .i64 (20+u.getD 0 0),.int .i64 (dJ (u.getD 1 0)),.slice A 40 c] W (NewSE W (spX m u) (mxR (20+u.getD 0 0) (dJ (u.getD 1 0)) 40)) from agC m.e (spC u) _ _ A c 40 W k.e h (OU hu) ah hw (aqK u));have KK:=af (fun W A c (h:Rs W W.heap.size A (spX m u))=>show Cl 123 #[.agg (au m.e).toArray,.slice A 40 c] W (fun e w'=>e=.returned (.tuple #[.agg (agi (bi m.e (spX m u))),.int .i64 0])/\Bw W w') from WY m.e _ A c 40 W k.e h (tV hu m) ah (nN (adQ m u)));have Y:=af (pG k.e (tV hu m));have FM:=aj (spM m u={m with e:=bi m.e (spX m u),la:=20+u.getD 0 0,pi:=dJ (u.getD 1 0),ga:=glV (u.getD 7 0)}) (rfl);have i:=af (DU k hu);have j:(Tryz.prog.info? 53).map (·.size)=some (au m.e).length:=FI;have n:=af j;have P:(Tryz.prog.info? 76).map (·.size)=some (au ((u.drop 2).take 4)).length:=ag9;have Z:=af P;have X:=aj ((Tryz.prog.info? 53).map (·.size)=some (agi (bi m.e (spX m u))).size) (ahi);have c7:=r.o.U.cell 7 (by rw[hu.l];omega);clear k hu j P T1 T2 hV hw;generalize spM m u=ms at*
 generalize spX m u=x at*
 generalize spC u=code at*
 generalize bz (blB (uI u) (u.getD 6 0) (glV (u.getD 7 0)))=er1 at*
 generalize mxR (20+u.getD 0 0) (dJ (u.getD 1 0)) 40=er2 at*
 generalize bz (glB (u.getD 7 0))=er3 at*
 generalize bz (vz (u.getD 1 0))=er4 at*
 generalize dJ (u.getD 1 0)=g at*
 generalize glV (u.getD 7 0)=size at*
 generalize bi m.e x=S at*
 generalize u.getD 7 0=l7 at*
 obtain⟨l0,s⟩:=ak (u.getD 0 0);obtain⟨l1,t⟩:=ak (u.getD 1 0);obtain⟨l6,z⟩:=ak (u.getD 6 0);have F:=af s;have HL1:=af t;have HL6:=af z;rw[<-s] at T FM h59;rw[<-t] at KG;rw[<-z] at KB;clear s t z;go_enter Tryz.func49,Tryz.ntmps49;go_wp2_with(first
  |(rw[HV.o];clear HV)
  |(go_at_call 120;(with_reducible refine KL.o.mono ?_);rintro e w1 ⟨rfl,d⟩;have D:=af (r.o.below d);clear d;have d1:=D.o.U.cell 1 zG;have d6:=D.o.U.cell 6 zG;rw[<-HL1.o] at d1;rw[<-HL6.o] at d6)
  |(go_at_call 121;(with_reducible refine(KG.o w1 D.o.bel).mono ?_);rintro e w' ⟨rfl,rfl⟩)
  |(refine bZ rfl 76 (.tmp 27) rfl _ _ rfl (au ((u.drop 2).take 4)) _ (D.o.U.mid 2 4 zG) iO rfl Z.o ?_)
  |(go_at_call 118;(with_reducible refine(KB.o w1).mono ?_);rintro e w2 ⟨A1,c1',rfl,N,d⟩;have I:=af (D.o.below d);have O2:=af N.reads;clear N d;rw[CL.o];have cu:=I.o.U.cell 0 zG;rw[<-F.o] at cu)
  |(refine bZ rfl 53 (.tmp 36) rfl _ _ rfl (au m.e) _ (I.o.A.E K.o) iV rfl n.o ?_)
  |(go_at_call 122;(with_reducible refine(T.o w2 A1 c1' O2.o).mono ?_);rintro e w3 ⟨A2,c2,rfl,N,d⟩;have S3:=af (I.o.below d);have O3:=af N;have y:=af I.o.lt;clear N d;rw[XL.o])
  |(refine bZ rfl 53 (.tmp 47) rfl _ _ rfl (au m.e) _ (S3.o.A.E K.o) iV rfl n.o ?_))
 with_reducible refine(KK.o w3 A2 c2 O3.o.reads).mono ?_
 rintro e w4 ⟨rfl,d⟩;have S4:=af (S3.o.below d);have O4:=af (O3.o.below d);clear d;have f:=af (S4.o.setE K.o S Y.o);have O5:=af (Own.setCs (g:=w.heap.size) wz (au S) 16 _ O4.o);have H:=aj (w4.there w.heap.size 16 (agi S).size) (by rw[dX,Y.o];exact S4.o.A.thereE K.o);obtain⟨w5,B⟩:=ak (w4.setCells w.heap.size 16 (au S));rw[<-B] at f O5;have G:=af B;have Q:=af (K.o.ex Y.o);have L:=f.o.U.cell 0 zG;rw[<-F.o] at L;have d98:=f.o.A.cla Q.o;have d97:=f.o.A.cpi Q.o;have d96:=f.o.A.cga Q.o;have f98:=MB.frozen f.o.A 98;have f97:=MB.frozen f.o.A 97;have f96:=MB.frozen f.o.A 96;have J:=aj (Hs w _ ms u) (FM.o▸f.o.set3 Q.o (20+l0) g size);have O6:=af (afv (b:=w.heap.size) wz O5.o 98 97 96 (.int .i64 (20+l0)) (.int .i64 g) (.int .i64 size));obtain⟨w6,O⟩:=ak (((w5.setCell ⟨w.heap.size,98,none⟩ (.int .i64 (20+l0))).setCell ⟨w.heap.size,97,none⟩ (.int .i64 g)).setCell ⟨w.heap.size,96,none⟩ (.int .i64 size));rw[<-O] at J O6;have M:=af O.symm;clear B O S3 I D r O2 O3 O4 T KK KL KG KB c7 d1 d6 cu;go_wp2_with(first
  |(refine iY rfl 53 (.tmp 53) (.tmp 51) rfl w.heap.size 16 (agi S) rfl rfl H.o X.o (ik _) ?_;rw[show(agi S).toList=au S from rfl,<-G.o])
  |(rw[M.o];clear M d98 d97 d96 f98 f97 f96 L G H)
  |(refine iK rfl (.tmp 2) rfl _ ms rfl J.o.A i.o ?_)
  |(refine dW rfl (.tmp 4) (.tmp 62) rfl _ aZ ms rfl rfl J.o.R df i.o ?_))
 refine aX (v:=_) (hR _ _ _ ms rfl (MB.setRow J.o.R ms) i.o) rfl ?_;exact⟨A2,c2,by rw[XL.o];rfl,(O6.o.setRow (g:=w.heap.size+2) wz ms.ag).more (base':=w.heap.size) wz,aS J.o.bel (g:=w.heap.size+2) ah ms.ag⟩
theorem ZG(was now:Lz)(s:Nat)(w:Wd)(u:was.length=8)(i:now.length=8)(Z:s<2)(N:dH was=true)(C:dH now=true):
 Cl 47 #[.agg (agi was),.agg (agi now),.int .i64 (s:Nat)] w (fun e w'=>e=.returned (.agg (agi (frA was now s)))/\Bw w w'):=by
 have I:=Af (fn:=Tryz.f47) (p:=6) (ty:=73) rfl;have A:=IB.new w 52 was;have r:=IB.new (w.alloc (.cells (agi was) 52)) 52 now;have t:=IB.new ((w.alloc (.cells (agi was) 52)).alloc (.cells (agi now) 52)) 73 Z9;simp only[bT] at r t;have k:=(((aP _ _).alloc (ax w.heap.size) (.cells (agi was) 52)).alloc ay (.cells (agi now) 52)).alloc aC (.cells (agi Z9) 73);have M:=af (Blk.alloc (Blk.alloc A (.cells (agi now) 52)) (.cells (agi Z9) 73));have l:=af (Blk.alloc r (.cells (agi Z9) 73));have z:=af t;have k:=af k;obtain⟨V,hV⟩:=ak (((w.alloc (.cells (agi was) 52)).alloc (.cells (agi now) 52)).alloc (.cells (agi Z9) 73));rw[<-hV] at M l z k;rw[jR] at hV;have n:=af hV.symm;have L:=af u;have H:=af i;obtain⟨b,c⟩:=ak (frA was now s);have G:=aj (b.length=9) (by rw[c];exact xk _ _ _);have B:s=0\/s=1:=ah;rcases B with rfl|rfl
 ·have D:=af (fun W=>show Cl 109 #[.agg (agi was),.agg (agi now),.int .i64 2] W (Ar W was now 2) from alb was now 2 W u i ah ah)
  have F:=af (Il was now 2);have f:=af (fun W=>show Cl 54 #[.agg (agi (jO was now 2))] W (tN W (jO was now 2)) from ZF (jO was now 2) W (Il _ _ _));have a:b=jZ (jO was now 2):=c;unfold Ar at D;unfold tN at f;rw[<-a] at f;rw[<-c];have f:=af f.o;generalize bz (lH was now 2)=e1 at*
  generalize bz (dH (jO was now 2))=S at*
  generalize jO was now 2=mx at*
  rename_i KDo;clear KDo a c hV A r t u i N C Z;go_enter Tryz.func47,Tryz.ntmps47;go_wp2_with(first
   |(rw[n.o];clear n)
   |(refine aK 52 (.tmp 3) was 8 M.o aU aJ L.o ?_)
   |(refine aK 52 (.tmp 4) now 8 l.o aU aJ H.o ?_))
  with_reducible refine(D.o V).mono ?_
  rintro e j ⟨rfl,g⟩;have O:=af (Blk.below' z.o g);have J:=af (aH k.o g);clear g M l;go_wp2_with(first
   |(refine aQ 52 (.tmp 7) (.tmp 19) Z8 mx 8 (IB.new j 52 Z8) aJ rfl F.o ?_
     have BB:=dI j (.cells (agi Z8) 52) (agi mx)
     obtain⟨q,hV⟩:=ak ((j.alloc (.cells (agi Z8) 52)).setRow j.heap.size (agi mx))
     have P:=aj (IB q (w.heap.size+1+1) 73 Z9) (by rw[hV];exact Blk.below' O.o BB)
     have K:=aj (Bw w q) (by rw[hV];exact aH J.o BB)
     have E:=aj (IB q j.heap.size 52 mx) (by rw[hV];exact IB.stored j 52 Z8 mx)
     rw[dP] at hV
     rw[<-hV]
     clear hV BB)
   |(refine aK 52 (.tmp 7) mx 8 E.o aU aJ F.o ?_))
  with_reducible refine(f.o q).mono ?_
  rintro e d ⟨rfl,g⟩;have R3:=af (Blk.below' P.o g);have B3:=af (aH K.o g);clear g E;go_wp2_with(first
   |(refine aQ 73 (.tmp 9) (.tmp 24) Z9 b 9 (IB.new d 73 Z9) bC rfl G.o ?_
     have BB:=dI d (.cells (agi Z9) 73) (agi b)
     obtain⟨h,hV⟩:=ak ((d.alloc (.cells (agi Z9) 73)).setRow d.heap.size (agi b))
     have m:=aj (IB h (w.heap.size+1+1) 73 Z9) (aaT)
     have x:=aj (Bw w h) (aaL)
     have y:=aj (IB h d.heap.size 73 b) (by rw[hV];exact IB.stored d 73 Z9 b)
     rw[jR] at hV
     rw[<-hV]
     clear hV BB)
   |(refine aK 73 (.tmp 9) b 9 y.o bP bC G.o ?_)
   |(refine aQ 73 (.tmp 6) (.tmp 26) Z9 b 9 m.o bC rfl G.o ?_))
  refine aX (v:=_) (I _ _ _ 73 b _ 9 rfl (IB.setRow m.o b) bP rfl bC G.o) rfl ?_;exact⟨rfl,aS x.o ah _⟩
 ·have a:b=jZ now:=by rw[c];exact amM N C i
  have f:=af (fun W=>show Cl 54 #[.agg (agi now)] W (tN W now) from ZF now W i);unfold tN at f;rw[<-a] at f;rw[<-c];have f:=af f.o;generalize bz (dH now)=S at*
  rename_i KDo;clear KDo a c hV A r t u i N C Z;go_enter Tryz.func47,Tryz.ntmps47;go_wp2_with(first
   |(rw[n.o];clear n)
   |(refine aK 52 (.tmp 4) now 8 l.o aU aJ H.o ?_))
  with_reducible refine(f.o V).mono ?_
  rintro e d ⟨rfl,g⟩;have R3:=af (Blk.below' z.o g);have B3:=af (aH k.o g);clear g M l;go_wp2_with(first
   |(refine aQ 73 (.tmp 11) (.tmp 30) Z9 b 9 (IB.new d 73 Z9) bC rfl G.o ?_
     have BB:=dI d (.cells (agi Z9) 73) (agi b)
     obtain⟨h,hV⟩:=ak ((d.alloc (.cells (agi Z9) 73)).setRow d.heap.size (agi b))
     have m:=aj (IB h (w.heap.size+1+1) 73 Z9) (aaT)
     have x:=aj (Bw w h) (aaL)
     have y:=aj (IB h d.heap.size 73 b) (by rw[hV];exact IB.stored d 73 Z9 b)
     rw[jR] at hV
     rw[<-hV]
     clear hV BB)
   |(refine aK 73 (.tmp 11) b 9 y.o bP bC G.o ?_)
   |(refine aQ 73 (.tmp 6) (.tmp 32) Z9 b 9 m.o bC rfl G.o ?_))
  refine aX (v:=_) (I _ _ _ 73 b _ 9 rfl (IB.setRow m.o b) bP rfl bC G.o) rfl ?_;exact⟨rfl,aS x.o ah _⟩
theorem agE(q:Bool){a:Lz}{m:Mm}{u:Lz}(g:aO m=true)(h:UOk u)(d:kw a):
 (if dZ a (frN q m u).p (frX q m u) then eG a (frN q m u).p (frX q m u) 40 else[])=frY q a m u/\(if dZ a (frN q m u).p (frX q m u) then fH (frN q m u).p (eG a (frN q m u).p (frX q m u) 40) else Z8)=(frP q a m u).p/\
 ({frN q m u with p:=(frP q a m u).p}:Mm)=frP q a m u:=by
 obtain⟨_,c,_⟩:=jr g;have b:dZ a (frN q m u).p (frX q m u)=true:=by rw[Pe];exact DV d c (adW q m u)
 rw[if_pos b,if_pos b,Pe];unfold frY frP;generalize fH m.p (eG a m.p (frX q m u) 40)=z;exact⟨rfl,rfl,rfl⟩
structure Fd(w wr:Wd)(m:Mm)(ps:Lz)(gN:Nat)(now:Lz):Prop where
 F:Fb w wr m ps
 N:IB wr gN 52 now
 l1:w.heap.size+3<=gN
section
variable {w wr w':Wd} {m mm:Mm} {ps now:Lz} {gN:Nat}
theorem Fd.below(s:Fd w wr m ps gN now)(a:Bw wr w'):Fd w w' m ps gN now:=⟨s.F.below a,Blk.below' s.N a,s.l1⟩
theorem Fd.glt(s:Fd w wr m ps gN now):gN<wr.heap.size:=Blk.lt s.N
theorem Fd.setA(s:Fd w wr m ps gN now):Fd w (wr.setRow w.heap.size mm.ag) mm ps gN now:=⟨s.F.setA,Blk.rowFar s.N MZ,s.l1⟩
theorem Fd.setP(s:Fd w wr m ps gN now)(k:m.ok)(p:Lz)(a:p.length=8):Fd w (wr.setCells w.heap.size 8 (au p)) {m with p:=p} ps gN now:=
 ⟨⟨s.F.A.set_p k p a,cZ ah _ _ _ s.F.P,cZ ah _ _ _ s.F.R,iJ (ax _) _ _ _ s.F.bel⟩,cZ MZ _ _ _ s.N,s.l1⟩
theorem Fd.grown{A:Oz}{c:Nat}{xs:Lz}(s:Fd w wr m ps gN now)(b:Own wr (gN+1) A c xs)(a:wr.grownBy w' (A.map (·.block))):Fd w w' m ps gN now:=by
 have d:=s.l1;have e:=s.glt;exact⟨⟨Blk.grownA s.F.A a (b.ne_ ah),Blk.grownA s.F.P a (b.ne_ ah),Blk.grownA s.F.R a (b.ne_ ah),uX s.F.bel (b.more (base':=w.heap.size) ah) a ah⟩,Blk.grownA s.N a (b.ne_ ah),s.l1⟩
end
structure FdO(w W:Wd)(m:Mm)(ps:Lz)(gN:Nat)(now:Lz)(A:Oz)(c:Nat)(zs:Lz):Prop where
 D:Fd w W m ps gN now
 O:Own W (gN+1) A c zs
structure FdX(w W:Wd)(m:Mm)(ps:Lz)(gN:Nat)(now:Lz)(A:Oz)(c:Nat)(zs:Lz)(A2:Oz)(x:Lz):Prop where
 D:Fd w W m ps gN now
 O:Own W (gN+1) A c zs
 X:Rs W W.heap.size A2 x
theorem FdX.below{W w':Wd}{ps now b x:Lz}{gN c:Nat}{A A2:Oz}(s:FdX w W m ps gN now A c b A2 x)(a:Bw W w'):FdX w w' m ps gN now A c b A2 x:=
 ⟨s.D.below a,s.O.below a,(s.X.below a).more a.size⟩
theorem agF(m:Mm)(k:m.ok)(g:aO m=true)(ps:Lz)(w:Wd)(T1:TabS w 5 dY)(T2:TabS w 0 cO)(T3:TabS w 2 dh)(hp:dD ps 25=true)(hl:ps.length=25):
 Cl 52 #[.agg m.ag,.agg (agi ps)] w (pV w (frM m ps) (frO m ps)):=by
 have hR:=JD (fn:=Tryz.f52) (p:=4) (q:=5) rfl;have S0:=Fb.start w m ps;obtain⟨V,hV⟩:=ak ((((w.alloc (.cells m.ag 55)).alloc (.cells (agi ps) 81)).alloc (.cells Tryz.zeroCells55 55)));rw[<-hV] at S0;have HV:=af hV.symm;have S0:=af S0;obtain⟨f,hm0⟩:=ak (fr0 m ps);obtain⟨q,hq⟩:=ak (frQ ps);obtain⟨rp,hrp⟩:=ak (pK ps);obtain⟨now,hnow⟩:=ak (qE ps);obtain⟨was,hwas⟩:=ak (f.r);have K0:=aj (f.ok) (by rw[hm0];exact Jj k ps);have G0:=aj (aO f=true) (by rw[hm0];exact Po g ps);have SW:=aj (dH was=true) (by rw[hwas,hm0];exact ad6 g ps);have SN:=aj (dH now=true) (by rw[hnow];exact Ye hp);have WL:=aj (was.length=8) (UC);have NL:=aj (now.length=8) (by rw[hnow];exact XU ps);have FM:=af (fun(z:Mm) (hz:z=frK q was now ps f 2)=>show frM m ps={z with r:=now,er:=0,si:=q} from by
  unfold frM frE;rw[Yd,hz,hwas,hm0,hq,hnow])
 have FO:=af (fun(Y:Lz) (hY:Y=frZ q was now ps f 2)=>show frO m ps=Y from by
  unfold frO;rw[ad1,hY,hwas,hm0,hq,hnow])
 have KV:=af (fun W (h:Bw w W)=>show Cl 45 #[.agg (au rp).toArray] W (fun e w'=>e=.returned (.tuple #[.agg (agi now),.int .i64 0])/\Bw W w') from by
  have h1:=adn (pK ps) W (OV hl) (T3.below h);unfold vF at h1;rw[XV hp,Jh hp 8 (ax _),<-hnow,<-hrp] at h1;exact h1)
 have KK:=af (fun n (hn:n<=2)=>Pm (q:=q) (was:=was) (now:=now) K0.o hp hl n hn);have KG:=af (fun n (hn:n<=2)=>Pn (q:=q) (was:=was) (now:=now) G0.o hp hl n hn);have J:=af (fun s (Z:s<2)=>OY hp hl Z);have KA:=af (fun s (Z:s<2)=>OZ SW.o SN.o Z);have HRP:=af (fun W gg (h:IB W gg 81 ps)=>show W.rangeAt gg 1 (au rp) from by rw[hrp];exact h.mid 1 8 ah);have HL:=af hl;have TT1:=af T1;have TT2:=af T2;obtain⟨p0,hp0⟩:=ak (ps.getD 0 0);have hk:p0=0\/p0=1\/p0=2:=by
  exact ai7
 have c0:=S0.o.P.cell 0 (by rw[hl];omega);rw[<-hp0] at c0;have P0:=af hp0;have KM:=af k;have M0:=af hm0;have HW:=af hwas;have HQ:=af hq;have HI8:=aj ((Tryz.prog.info? 52).map (·.size)=some (au rp).length) (by rw[bf,hrp,OV hl];exact aJ);clear hV hrp hm0 hq hnow hwas k g hp hl hp0 T1 T2 T3;have LO:=af (Jk m ps);generalize frO m ps=yf at*
 generalize frM m ps=mf at*
 rcases hk with rfl|rfl|rfl
 ·have e0:=aj (f=m) (Vs)
  have l:=aj (q=false) (FC);have e0:=e0.o;subst e0;have l:=l.o;subst l;clear M0 HQ;go_enter Tryz.func52,Tryz.ntmps52;go_wp2_with(first
   |(rw[HV.o];clear HV)
   |(refine bZ rfl 52 (.tmp 17) rfl _ _ rfl (au rp) _ (HRP.o _ _ S0.o.P) aU rfl HI8.o ?_))
  with_reducible refine(KV.o V S0.o.bel).mono ?_
  rintro e w1 ⟨rfl,hB⟩;have S1:=af (S0.o.below hB);clear hB S0 KV c0;obtain⟨pp,hpp⟩:=ak (0:Int);have P0:=aj (pp=ps.getD 0 0) (by rw[hpp];exact P0.o);have hq2:(pp==2)=false:=by rw[hpp];rfl
  clear hpp;have B:=af S1.o.lt;go_wp2_with(first
   |(refine aQ 52 (.tmp 6) (.tmp 20) Z8 now 8 (IB.new w1 52 Z8) aJ rfl NL.o ?_
     have BB:=dI w1 (.cells (agi Z8) 52) (agi now)
     obtain⟨V2,hV⟩:=ak ((w1.alloc (.cells (agi Z8) 52)).setRow w1.heap.size (agi now))
     have S2:=aj (Fd w V2 f ps w1.heap.size now) (aaH)
     rw[dP] at hV
     rw[<-hV]
     clear hV BB))
  obtain⟨gN,hgN⟩:=ak (w1.heap.size);rw[<-hgN] at S2;rw[<-hgN];clear hgN S1 B;go_loopw[8,9] (fun ov iv wr=> ∃(k:Nat) (A:Oz) (c n:Nat),k<=2/\iv=.int .i64 k/\ov=.slice A n c/\Hy (n=40*k)/\Hy (Own wr (gN+1) A c (frZ false was now ps f k))/\Hy (Fd w wr (frK false was now ps f k) ps gN now)) (fun _ iv _=>2-(intOf iv).toNat)
  case atStart=>exact⟨0,none,0,0,ah,rfl,rfl,af rfl,af Own.nil,S2⟩
  case round=>
   clear S2;obtain⟨k,A,c,n,hk,rfl,rfl,HN,Q,L⟩:=hrel;by_cases hlt:k<2
   ·exact ahB
   exact ahE
 ·have e0:=aj (f=eQ) (by rw[M0.o];unfold fr0;rw[<-P0.o,if_pos rfl])
  have l:=aj (q=false) (FC);have l:=l.o;subst l;have KFr:=af (fun W=>show Cl 17 #[] W (fun e w'=>e=.returned (.agg f.ag)/\Bw W w') from by rw[e0.o];exact Oa W);clear M0 HQ e0;go_enter Tryz.func52,Tryz.ntmps52;go_wp2_with(first
   |(rw[HV.o];clear HV)
   |(go_at_call 17;(with_reducible refine(KFr.o V).mono ?_);rintro e w1 ⟨rfl,hB⟩;have S1:=af (S0.o.below hB);clear hB;have S2:=af (S1.o.setA (mm:=f));obtain⟨V2,hV2⟩:=ak (w1.setRow w.heap.size f.ag);rw[<-hV2] at S2;have M:=af hV2;clear hV2)
   |(refine dW rfl (.tmp 2) (.tmp 15) rfl _ m f rfl rfl S1.o.A KM.o K0.o ?_;rw[<-M.o];clear M)
   |(refine bZ rfl 52 (.tmp 17) rfl _ _ rfl (au rp) _ (HRP.o _ _ S2.o.P) aU rfl HI8.o ?_))
  with_reducible refine(KV.o V2 S2.o.bel).mono ?_
  rintro e w1 ⟨rfl,hB⟩;have S1:=af (S2.o.below hB);clear hB S0 S2 KV c0 KFr;obtain⟨pp,hpp⟩:=ak (1:Int);have P0:=aj (pp=ps.getD 0 0) (by rw[hpp];exact P0.o);have hq2:(pp==2)=false:=by rw[hpp];rfl
  clear hpp;have B:=af S1.o.lt;go_wp2_with(first
   |(refine aQ 52 (.tmp 6) (.tmp 20) Z8 now 8 (IB.new w1 52 Z8) aJ rfl NL.o ?_
     have BB:=dI w1 (.cells (agi Z8) 52) (agi now)
     obtain⟨V2,hV⟩:=ak ((w1.alloc (.cells (agi Z8) 52)).setRow w1.heap.size (agi now))
     have S2:=aj (Fd w V2 f ps w1.heap.size now) (aaH)
     rw[dP] at hV
     rw[<-hV]
     clear hV BB))
  obtain⟨gN,hgN⟩:=ak (w1.heap.size);rw[<-hgN] at S2;rw[<-hgN];clear hgN S1 B;go_loopw[8,9] (fun ov iv wr=> ∃(k:Nat) (A:Oz) (c n:Nat),k<=2/\iv=.int .i64 k/\ov=.slice A n c/\Hy (n=40*k)/\Hy (Own wr (gN+1) A c (frZ false was now ps f k))/\Hy (Fd w wr (frK false was now ps f k) ps gN now)) (fun _ iv _=>2-(intOf iv).toNat)
  case atStart=>exact⟨0,none,0,0,ah,rfl,rfl,af rfl,af Own.nil,S2⟩
  case round=>
   clear S2;obtain⟨k,A,c,n,hk,rfl,rfl,HN,Q,L⟩:=hrel;by_cases hlt:k<2
   ·exact ahB
   exact ahE
 ·have e0:=aj (f=m) (Vs)
  have l:=aj (q=true) (FC);have e0:=e0.o;subst e0;have l:=l.o;subst l;clear M0 HQ;go_enter Tryz.func52,Tryz.ntmps52;go_wp2_with(first
   |(rw[HV.o];clear HV)
   |(refine bZ rfl 52 (.tmp 17) rfl _ _ rfl (au rp) _ (HRP.o _ _ S0.o.P) aU rfl HI8.o ?_))
  with_reducible refine(KV.o V S0.o.bel).mono ?_
  rintro e w1 ⟨rfl,hB⟩;have S1:=af (S0.o.below hB);clear hB S0 KV c0;obtain⟨pp,hpp⟩:=ak (2:Int);have P0:=aj (pp=ps.getD 0 0) (by rw[hpp];exact P0.o);have hq2:(pp==2)=true:=by rw[hpp];rfl
  clear hpp;have B:=af S1.o.lt;go_wp2_with(first
   |(refine aQ 52 (.tmp 6) (.tmp 20) Z8 now 8 (IB.new w1 52 Z8) aJ rfl NL.o ?_
     have BB:=dI w1 (.cells (agi Z8) 52) (agi now)
     obtain⟨V2,hV⟩:=ak ((w1.alloc (.cells (agi Z8) 52)).setRow w1.heap.size (agi now))
     have S2:=aj (Fd w V2 f ps w1.heap.size now) (aaH)
     rw[dP] at hV
     rw[<-hV]
     clear hV BB))
  obtain⟨gN,hgN⟩:=ak (w1.heap.size);rw[<-hgN] at S2;rw[<-hgN];clear hgN S1 B;go_loopw[8,9] (fun ov iv wr=> ∃(k:Nat) (A:Oz) (c n:Nat),k<=2/\iv=.int .i64 k/\ov=.slice A n c/\Hy (n=40*k)/\Hy (Own wr (gN+1) A c (frZ true was now ps f k))/\Hy (Fd w wr (frK true was now ps f k) ps gN now)) (fun _ iv _=>2-(intOf iv).toNat)
  case atStart=>exact⟨0,none,0,0,ah,rfl,rfl,af rfl,af Own.nil,S2⟩
  case round=>
   clear S2;obtain⟨k,A,c,n,hk,rfl,rfl,HN,Q,L⟩:=hrel;by_cases hlt:k<2
   ·have KO:=af (KK.o k ah)
    have GO:=af (KG.o k ah);have Kn:=af (KK.o (k+1) ah);have NM:=aj (frK true was now ps f (k+1)=frP true (frA was now k) (frK true was now ps f k) (bM ps k)) (rfl);have NZ:=aj (frZ true was now ps f (k+1)=frZ true was now ps f k++frY true (frA was now k) (frK true was now ps f k) (bM ps k)) (rfl);have YL:=af (Az true (frA was now k) (frK true was now ps f k) (bM ps k));have LZ:=aj ((frZ true was now ps f k).length=n) (U8);have T:=J.o k hlt;have GA:=KA.o k hlt;have j:=af (Ph true KO.o T);have XL:=af (Pg true (frK true was now ps f k) T);have KPd:=af (fun W=>show Cl 47 #[.agg (au (frN true (frK true was now ps f k) (bM ps k)).r).toArray,.agg (au now).toArray,.int .i64 (k:Nat)] W (fun e w'=>e=.returned (.agg (agi (frA was now k)))/\Bw W w') from by
     rw[show(frN true (frK true was now ps f k) (bM ps k)).r=was from by rw[XY,Ya];exact HW.o.symm];exact ZG was now k W WL.o NL.o hlt SW.o SN.o)
    have h3:=agE true GO.o T GA;have KMk:=af (fun W A2 c2 (h:Rs W W.heap.size A2 (frX true (frK true was now ps f k) (bM ps k))) (hc:40<=c2)=>show Cl 50 #[.agg (agi (frA was now k)),.agg (au (frN true (frK true was now ps f k) (bM ps k)).p).toArray,.slice A2 40 c2] W (fun e w'=> ∃A3 c3 er,e=.returned (.tuple #[.slice A3 40 c3,.agg (agi (frP true (frA was now k) (frK true was now ps f k) (bM ps k)).p),.int .i64 er])/\Own w' W.heap.size A3 c3 (frY true (frA was now k) (frK true was now ps f k) (bM ps k))/\Bw W w') from by
     have h1:=D8 (frA was now k) (frN true (frK true was now ps f k) (bM ps k)).p _ A2 c2 40 W (xk _ _ _) j.o.p h XL.o ah hc;rw[h3.1,h3.2.1] at h1;refine h1.mono ?_;rintro e w' ⟨A3,c3,h1,h2,h3⟩;rw[Az] at h1;exact⟨A3,c3,_,h1,h2,h3⟩)
    have PM:=af h3.2.2;clear h3;have h2:=adZ (a:=frA was now k) GO.o T GA;have KS:=af (fun W=>show Cl 132 #[.agg (frK true was now ps f k).ag] W (NewM W (frN true (frK true was now ps f k) (bM ps k)) (frX true (frK true was now ps f k) (bM ps k)) (bz (aO (frK true was now ps f k)))) from by
     have h1:=ak4 (frK true was now ps f k) KO.o (aqJ GO.o) W;rw[h2.1,h2.2.1] at h1;exact h1)
    clear h2;generalize bz (aO (frK true was now ps f k))=er at*
    rw[NM.o] at Kn;generalize frP true (frA was now k) (frK true was now ps f k) (bM ps k)=mn at*
    generalize frY true (frA was now k) (frK true was now ps f k) (bM ps k)=y at*
    generalize frN true (frK true was now ps f k) (bM ps k)=mm at*
    generalize frX true (frK true was now ps f k) (bM ps k)=x at*
    generalize frA was now k=a at*
    generalize frK true was now ps f k=mk at*
    generalize frZ true was now ps f k=zs at*
    generalize bM ps k=su at*
    have cp:=L.o.F.P.cell 0 qi;rw[<-P0.o] at cp;clear KK KG J KA T GA GO;go_wp2_with(first
     |(refine iK rfl (.tmp 2) rfl _ mk rfl L.o.F.A KO.o ?_))
    (with_reducible refine(KS.o wr).mono ?_);rintro e w8 ⟨A2,c2,rfl,hO,hB⟩;have E:=af (L.o.below hB);have O8:=af (Q.o.below hB);have X8:=af hO;have SXW:=af L.o.glt;clear hO hB KS;have C9:=af (E.o.setA (mm:=mm));have O9:=af (O8.o.setRow (g:=w.heap.size) (by have:=E.o.l1;omega) mm.ag);have CAP:=af X8.o.cap.1;have X9:=af (X8.o.setRow (g:=w.heap.size) (by have:=E.o.l1;have:=SXW.o;omega) mm.ag).reads;obtain⟨V9,hV9⟩:=ak (w8.setRow w.heap.size mm.ag);rw[<-hV9] at C9 O9 X9;have HV9:=af hV9;clear hV9;rw[XL.o] at CAP;rw[XL.o];go_wp2_with(refine dW rfl (.tmp 2) (.tmp 32) rfl _ mk mm rfl rfl E.o.F.A KO.o j.o ?_;rw[<-HV9.o];clear HV9);clear cp;refine uk [] [0,1,2,3,4,5,6,7] 8 [9,10,11,12,13,14,15] (fun W=>FdX w W mm ps gN now A c zs A2 x) aB aB rfl ⟨C9.o.below (bY _),O9.o.drew,X9.o.below (bY _)⟩ (fun _ _ d _ _ h=>uU) ?_;simp only[jC,o6,uJ,uK];refine uj ?_;refine dB (fun K hK=>?_);go_simp;apply kX;refine⟨fun W hW=>rfl,hK _ ?_⟩;refine dB (fun K hK=>?_);refine lK az 52 (.tmp 45) rfl w.heap.size 0 rfl (au mm.r) _ (fun W hW=>hW.D.F.A.R j.o) aU rfl (by rw[aJ,bf,j.o.r]) ?_;refine hK _ ?_;refine dB (fun K hK=>?_);refine lK az 52 (.tmp 6) rfl gN 0 rfl (au now) _ (fun W hW=>iP hW.D.N [] (au now) [] ay rfl) aU rfl UA ?_;refine hK _ ?_;refine dB (fun K hK=>?_);go_simp;apply kX;refine⟨fun W hW=>rfl,hK _ ?_⟩;refine dB (fun K hK=>?_);go_simp;apply kX;refine⟨fun W hW=>?_,hK _ ?_⟩
    ·with_reducible exact(KPd.o W).mono fun e w' h=>⟨h.1,hW.below h.2⟩
    refine dB (fun K hK=>?_);go_simp;apply kX;refine⟨fun W hW=>rfl,hK _ ?_⟩;refine dB (fun K hK=>?_);refine lK az 52 (.tmp 50) rfl w.heap.size 8 rfl (au mm.p) _ (fun W hW=>hW.D.F.A.P j.o) aU rfl (by rw[aJ,bf,j.o.p]) ?_;refine hK _ ?_;refine dB (fun K hK=>?_);go_simp;apply kX;refine⟨fun W hW=>rfl,hK _ ?_⟩;refine uC ?_;intro WA U;have CA:=af U.D;have OA:=af U.O;have XA:=af U.X;clear U;have SXA:=aj (gN<WA.heap.size) (CA.o.glt);go_wp2_with fail;(with_reducible refine(KMk.o WA A2 c2 XA.o CAP.o).mono ?_);rintro e w11 ⟨A3,c3,er,rfl,hO,hB⟩;have C11:=af (CA.o.below hB);have O11:=af (OA.o.below hB);have X11:=af hO;clear hO hB;have C12:=aj (Fd w (w11.setCells w.heap.size 8 (au mn.p)) mn ps gN now) (PM.o▸C11.o.setP j.o mn.p Kn.o.p);have O12:=af (Own.setCs (g:=w.heap.size) (by have:=C11.o.l1;omega) (au mn.p) 8 _ O11.o);have X12:=af (Own.setCs (g:=w.heap.size) (by have:=C11.o.l1;have:=SXA.o;omega) (au mn.p) 8 _ X11.o).reads;have SZP:=aj ((Tryz.prog.info? 52).map (·.size)=some (agi mn.p).size) (by rw[dX,Kn.o.p];exact aJ);have THP:=aj (w11.there w.heap.size 8 (agi mn.p).size) (ahl);obtain⟨V12,C⟩:=ak (w11.setCells w.heap.size 8 (au mn.p));rw[<-C] at C12 O12 X12;have HV12:=af C;clear C;go_wp2_with(first
     |(refine iY rfl 52 (.tmp 57) (.tmp 55) rfl w.heap.size 8 (agi mn.p) rfl rfl THP.o SZP.o (ik _) ?_;rw[show(agi mn.p).toList=au mn.p from rfl,<-HV12.o];clear HV12)
     |(at_builtin;refine pg rfl (.tmp 58) (.tmp 59) rfl (gN+1) A c n zs rfl LZ.o O12.o V12.heap.size A3 c3 40 y rfl YL.o X12.o kK (by have:=C12.o.glt;omega) ?_;intro A13 c13 w13 hO hG hA;have C13:=af (C12.o.grown O12.o hG);have O13:=af hO;clear hO hG hA))
    go_roundw;case rel=>exact⟨k+1,A13,c13,n+40,ah,aT,rfl,af kK,af (by rw[NZ.o];exact O13.o),af (by rw[NM.o];exact C13.o)⟩
    case measure=>exact aW
   obtain rfl:k=2:=ah;obtain rfl:n=80:=HN.o;obtain⟨mk,hmk⟩:=ak (frK true was now ps f 2);have i:=aj (mk.ok) (Uc);have FZ:=af (FM.o mk hmk);rw[<-hmk] at L;rw[<-FO.o _ rfl] at Q;clear hmk FO FM KK KG J KA;have cp:=af (fun W (h:IB W (w.heap.size+1) 81 ps)=>show W.cell? ⟨w.heap.size+1,0,none⟩=some (.int .i64 pp) from by
    have h2:=h.cell 0 qi;rw[<-P0.o] at h2;exact h2)
   go_wp2;have GL:=aj (w.heap.size+3<gN+1) (F6);have G:wr.drew.rangeAt gN 0 (au now)/\wr.drew.cell? ⟨w.heap.size+1,0,none⟩=some (.int .i64 pp):=⟨iP (Blk.drew L.o.N) [] (au now) [] ay rfl,cp.o wr.drew (Blk.drew L.o.F.P)⟩;refine xQ (S:=(fun W=>W.rangeAt gN 0 (au now)/\W.cell? ⟨w.heap.size+1,0,none⟩=some (.int .i64 pp))) aB ?_;change wpAnyH _ _ _ _ _ _ _ _ wr.drew;refine aI 1 (.pointer (some ⟨w.heap.size+1,0,none⟩)) rfl (.inl ⟨az,fun W hW=>jf⟩) G ?_;refine aI 2 (.int .i64 pp) rfl (.inl ⟨az,fun W hW=>by have hc:=hW.2;go_simp⟩) G ?_;refine aI 3 (.bool true) rfl (.inl ⟨az,fun W hW=>jf⟩) G ?_;refine aI 0 (.agg (au now).toArray) rfl (pY az 52 (.tmp 6) rfl gN 0 rfl (au now) _ (fun W hW=>hW.1) aU rfl UA) G ?_;refine aI 4 (.pointer (some ⟨w.heap.size,0,none⟩)) rfl (.inl ⟨az,fun W hW=>jf⟩) G ?_;have S8:=af (show Fb w (wr.drew.setCells w.heap.size 0 (au now)) {mk with r:=now} ps from(L.o.F.below (bY _)).setRf i.o now NL.o);have N8:=aj (IB (wr.drew.setCells w.heap.size 0 (au now)) gN 52 now) (cZ F6 _ _ _ (Blk.drew L.o.N));have H:=aj (wr.drew.there w.heap.size 0 (au now).toArray.size) (by
    have h2:=(L.o.F.below (bY _)).A.thereR i.o;have e:(au now).toArray.size=8:=(by rw[zk,bf,NL.o]);rw[e];exact h2)
   have SZN:=aj ((Tryz.prog.info? 52).map (·.size)=some (au now).toArray.size) (aht);have O8:=af (Own.setCs (g:=w.heap.size) jV (au now) 0 _ Q.o.drew);obtain⟨V8,u⟩:=ak (wr.drew.setCells w.heap.size 0 (au now));rw[<-u] at S8 O8 N8;have K8:=af (show({mk with r:=now}:Mm).ok from⟨NL.o,i.o.p,i.o.e⟩);have HS8:V8.rangeAt gN 0 (au now)/\V8.cell? ⟨w.heap.size+1,0,none⟩=some (.int .i64 pp):=⟨iP N8.o [] (au now) [] ay rfl,cp.o V8 S8.o.P⟩;have d8:=S8.o.A.cer K8.o;have f8:=MB.frozen S8.o.A 99;have S9:=af (S8.o.setEr K8.o 0);have N9:=af (Blk.far N8.o (p:=⟨w.heap.size,99,none⟩) (show gN≠w.heap.size by have:=GL.o;have:=L.o.l1;omega) (.int .i64 0));have O9:=af (Own.setC (g:=w.heap.size) O8.o jV 99 (.int .i64 0));have K9:=af (show({mk with r:=now,er:=0}:Mm).ok from⟨NL.o,i.o.p,i.o.e⟩);refine di (rs:=[5]) aB ay (bU rfl (fun K hK=>?_) dA);rw[if_pos az];simp only[Act.put,bg,bD,bF,bG,bH,bI];refine lF 52 (.tmp 65) (.tmp 61) rfl w.heap.size 0 (au now).toArray rfl rfl H.o SZN.o (ik _) ?_;rw[show(au now).toArray.toList=au now from rfl,<-u];refine hK.out _ _ HS8 (fun _=>?_);clear hK K u;refine aI 6 (.pointer (some ⟨w.heap.size,99,none⟩)) rfl (.inl ⟨az,fun W hW=>jf⟩) HS8 ?_;refine di (rs:=[7]) aB ay (bU rfl (fun K hK=>?_) dA);go_simp;obtain⟨V9,hV9⟩:=ak (V8.setCell ⟨w.heap.size,99,none⟩ (.int .i64 0));rw[<-hV9] at S9 O9 N9|-;have HS9:V9.rangeAt gN 0 (au now)/\V9.cell? ⟨w.heap.size+1,0,none⟩=some (.int .i64 pp):=⟨iP N9.o [] (au now) [] ay rfl,cp.o V9 S9.o.P⟩;have d9:=S9.o.A.csi K9.o;have f9:=MB.frozen S9.o.A 101;have I:=aj (Fb w (V9.setCell ⟨w.heap.size,101,none⟩ (.bool true)) mf ps) (by rw[FZ.o];exact S9.o.setSi K9.o true);have N10:=af (Blk.far N9.o (p:=⟨w.heap.size,101,none⟩) (show gN≠w.heap.size from F6) (.bool true));have O10:=af (Own.setC (g:=w.heap.size) O9.o jV 101 (.bool true));refine hK.out _ _ HS9 (fun _=>?_);clear hK K hV9 d8 f8;refine aI 8 (.pointer (some ⟨w.heap.size,101,none⟩)) rfl (.inl ⟨az,fun W hW=>jf⟩) HS9 ?_;refine di (rs:=[9]) aB ay (bU rfl (fun K hK=>?_) dA);go_simp;obtain⟨V10,b⟩:=ak (V9.setCell ⟨w.heap.size,101,none⟩ (.bool true));rw[<-b] at I O10 N10|-;have HS10:V10.rangeAt gN 0 (au now)/\V10.cell? ⟨w.heap.size+1,0,none⟩=some (.int .i64 pp):=⟨iP N10.o [] (au now) [] ay rfl,cp.o V10 I.o.P⟩;refine hK.out _ _ HS10 (fun _=>?_);clear hK K b d9 f9 HS8 HS9 HS10 G;refine mO aB ?_ _;have t:=aj (mf.ok) (by rw[FZ.o];exact⟨NL.o,i.o.p,i.o.e⟩);try simp only[Exit.then]
   go_wp2_with(first
    |(refine iK rfl (.tmp 2) rfl _ mf rfl I.o.A t.o ?_)
    |(refine dW rfl (.tmp 4) (.tmp 68) rfl _ aZ mf rfl rfl I.o.R df t.o ?_))
   refine aX (v:=_) (hR _ _ _ mf rfl (MB.setRow I.o.R mf) t.o) rfl ?_;exact⟨A,c,Nh,(O10.o.setRow (g:=w.heap.size+2) jV mf.ag).more (base':=w.heap.size) jV,aS I.o.bel (g:=w.heap.size+2) ah mf.ag⟩
theorem aqY(h:W64 m.nums):W64 m.e:=fun x a=>h x (by unfold Mm.nums;simp[a])
theorem aqZ(m:Mm)(k:m.ok)(R:W64 m.nums)(half:Int)(w:Wd):Cl 56 #[.agg m.ag,.int .i64 half] w (NewM w (jQ m half) (lg m half) (bz (ku m half))):=by
 have hR:=yC (fn:=Tryz.f56) (p:=4) (q:=5) (r:=6) rfl;have S0:=af (Ms.start w m);have K:=af k;have KG:=af (fun W=>Iz m k R W);have HW64:=af R;clear k R;go_enter Tryz.func56,Tryz.ntmps56;go_wp2_with(refine iK rfl (.tmp 2) rfl _ m rfl S0.o.A K.o ?_);refine(KG.o _).mono ?_;rintro e w1 ⟨rfl,hB⟩;have S1:=af (S0.o.below hB);clear hB S0 KG;cases G:aO m with
 |false=>
  have HE:=af (show ku m half=false by unfold ku;rw[G];rfl);exact abk
 |true=>
 by_cases h1:half<0
 ·have HE:=aj (ku m half=false) (UG)
  exact abk
 by_cases h2:1<half
 ·have HE:=aj (ku m half=false) (UG)
  exact abk
 have HE:=af (show ku m half=true by unfold ku;rw[G];simp;omega);have HT:=af (jr G).2.2.2;have Y:=aj (jQ m half=iq (nM m half)) (Us);have B:=aj (lg m half=jP (nM m half)) (Ut);clear G;have key:(half=0/\m.er<6)\/(half=0/\¬m.er<6)\/half=1:=ah;have a5:w1.cell? ⟨w.heap.size,99,none⟩=some (.int .i64 m.er):=S1.o.A.cer K.o;have f5:w1.frozen? ⟨w.heap.size,99,none⟩=false:=MB.frozen S1.o.A 99;have hM:∃J:Mm,J=nM m half:=⟨_,rfl⟩;obtain⟨J,d⟩:=hM;rw[<-d] at Y B;have K2:=af (show J.ok by rw[d];exact Xe K.o half);have t:=af (show 20<=J.la/\J.la<=79 by rw[d];exact HT.o.1);have S:=af (show-9223372036854775808<=J.se/\J.se<=9223372036854775807 by rw[d];have:0<=m.se/\m.se<65536:=HT.o.2.1;show-9223372036854775808<=m.se/\m.se<=9223372036854775807;omega);have HE64:=af (show W64 J.e by rw[d];show W64 m.e;exact aqY HW64.o);rcases key with⟨rfl,h6⟩|⟨rfl,h6⟩|rfl
 ·have hw1:IntKind.i64.wrap (m.er+1)=m.er+1:=by have:=HT.o.2.2.2.2;rw[mM];omega
  have n:=af (show Ms w (w1.setCell ⟨w.heap.size,99,none⟩ (.int .i64 (m.er+1))) J by
   have:=S1.o.er K.o (m.er+1);rw[d];unfold nM er1;rw[if_pos ⟨rfl,h6⟩];exact this)
  clear d h1 h2;go_wp2_with fail;obtain⟨N,E⟩:=ak (w1.setCell ⟨w.heap.size,99,none⟩ (.int .i64 (m.er+1)));rw[<-E] at n|-;clear E a5 f5 hw1 h6;exact abf
 ·have n:=af (show Ms w w1 J by
   rw[d];unfold nM er1;rw[if_neg ah];exact S1.o)
  clear d h1 h2;go_wp2_with fail;obtain⟨N,E⟩:=ak (w1);rw[<-E] at n|-;clear E a5 f5 h6;exact abf
 have n:=af (show Ms w w1 J by
  rw[d];unfold nM er1;rw[if_neg ah];exact S1.o)
 clear d h1 h2;go_wp2_with fail;obtain⟨N,E⟩:=ak (w1);rw[<-E] at n|-;clear E a5 f5;exact abf
