/- Lemmas. -/
import Derived.Test.YtaahbkbnfpajdaaGreatDoorZef0b
namespace Go.Proofs.YtaahbkbnfpajdaaGreatDoor
set_option linter.all false
set_option maxRecDepth 100000
set_option maxHeartbeats 8000000
open Go.RowKit
variable{l:List (Lz)}{i g:Nat}{w:Wd}{A:Oz}{t:TypeId}{xs:Lz}

def boS(d ring:Lz)(l:List (Lz))(i:Nat):Bst:=if i=0 then⟨l.getD 0 [],true,0,0⟩ else kD d ring (l.take i)
theorem aqf(h:i<l.length):l.take (i+1)=l.take i++[l.getD i []]:=by
 rw[List.take_add_one,bK,jU h];rfl
theorem aqg{d ring:Lz}{l:List (Lz)}{i:Nat}(h:i<l.length):
 boS d ring l (i+1)=if i=0\/jy (scC d (l.getD i []) 4) (scE d ring (l.getD i [])) (boS d ring l i).c (boS d ring l i).e=true then⟨l.getD i [],false,scC d (l.getD i []) 4,scE d ring (l.getD i [])⟩ else boS d ring l i:=by
 unfold boS;rw[if_neg ah,aqf h,anr];by_cases g:i=0
 ·subst g
  rw[if_pos (.inl rfl)];rfl
 ·rw[if_neg g]
  have k:(kD d ring (l.take i)).first=false:=by
   unfold kD;rw[aer];have:(l.take i).isEmpty=false:=by
    have j:(l.take i).length=i:=Ur;cases hq:l.take i with
    |nil=>rw[hq] at j;simp at j;omega
    |cons a b=>rfl
   rw[this,Bool.and_false]
  unfold gZ;rw[k,Bool.false_or];by_cases f:jy (scC d (l.getD i []) 4) (scE d ring (l.getD i [])) (kD d ring (l.take i)).c (kD d ring (l.take i)).e=true
  ·rw[if_pos f,if_pos (.inr f)]
  rw[if_neg f,if_neg (by rintro(h1|h1);exact g h1;exact f h1)]
theorem agw{d ring:Lz}(b:∀x∈l,Ix x)(a:0<l.length)(i:Nat):Ix (boS d ring l i).at_:=by
 unfold boS;split
 ·show Ix (l.getD 0 [])
  rw[bK,jU a];exact b _ (BI a)
 exact Jq (s:=AC) Jp fun x c=>b x (xK c)
theorem aqh{d ring:Lz}(i:Nat):JJ (boS d ring l i):=by
 unfold boS;split
 ·exact⟨⟨(by decide:(-9223372036854775808:Int)<=0),(by decide:(0:Int)<=9223372036854775807)⟩,⟨(by decide:(-9223372036854775808:Int)<=0),(by decide:(0:Int)<=9223372036854775807)⟩⟩
 exact Yr (s:=AC) ⟨⟨aA,aA⟩,⟨aA,aA⟩⟩
theorem agx(a:∀x∈l,Ix x)(h:i<l.length):Ix (l.getD i []):=by
 rw[bK,jU h];exact a _ (BI h)
theorem aqi(A A2:Oz)(c c2 c3 g n:Nat)(d ring:Lz)(l:List (Lz))(w:Wd)(U:Rs w w.heap.size A d)(hr:Rs w w.heap.size A2 ring)(l1:d.length=40)(l2:ring.length=40)(dw:W64 d)(rw_:W64 ring)(hl:∀x∈l,Ix x)(hn:l.length=n)(h0:0<n)(hn2:n<=100000)(h4:Rs4 w g l):
 Cl 177 #[.slice A 40 c,.slice A2 40 c2,.slice (some ⟨g,0,none⟩) n c3] w (fun e w'=>e=.returned (.agg (agi (kD d ring l).at_))/\Bw w w'):=by
 have hR:=Af (fn:=Tryz.f177) (p:=6) (ty:=76) rfl;have KS:=af (fun(W:Wd) (L:Rs W W.heap.size A d) (h2:Rs W W.heap.size A2 ring) (x:Lz) (hx:Ix x)=>show Cl 195 #[.slice A 40 c,.slice A2 40 c2,.agg (agi x)] W (fun e w'=>e=.returned (.tuple #[.int .i64 (scC d x 4),.int .i64 (scE d ring x),.int .i64 0])/\Bw W w') from by
  refine(ao6 A A2 c c2 40 40 d ring x W L h2 l1 l2 dw rw_ hx.1).mono ?_;rintro e w' ⟨rfl,k⟩;have he:nU d ring x=0:=by unfold nU;rw[if_pos ⟨l1,l2⟩,hx.2];rfl
  exact⟨by unfold PI PK;rw[he];rfl,k⟩)
 have HD:=af U;have HR:=af hr;have HL:=af hl;have HN:=af hn;have H0:=af h0;have B0:=(baqq w (.cells (agi Z4) 76)).alloc ay (.cells (agi Z4) 76);have M:=af (agx hl (show 0<l.length from ah));have R0:=aj (w.rangeAt g 0 (au (l.getD 0 []))) (h4.2 0 ah);have RA:=aj ((w.alloc (.cells (agi Z4) 76)).rangeAt g 0 (au (l.getD 0 []))) (World.rangeAt_alloc R0.o _);have r:(Tryz.prog.info? 76).map (·.size)=some (au (l.getD 0 [])).length:=by rw[bf,M.o.1];exact fO
 have GL:=af h4.1;have ZA:=af (IB.new w 76 Z4);have T:=IB.new (w.alloc (.cells (agi Z4) 76)) 76 Z4;simp only[bT] at T;have T:=af T;rename_i QAr;clear QAr;have Q1:=af (IB.setRow T.o (l.getD 0 []));have Z1:=aj (IB (((w.alloc (.cells (agi Z4) 76)).alloc (.cells (agi Z4) 76)).setRow (w.heap.size+1) (agi (l.getD 0 []))) w.heap.size 76 Z4) (Blk.rowFar (Blk.alloc ZA.o _) ah);have R1:=aj (Rs4 (((w.alloc (.cells (agi Z4) 76)).alloc (.cells (agi Z4) 76)).setRow (w.heap.size+1) (agi (l.getD 0 []))) g l) (Rs4.rowFar ((h4.below (baqq w _)).below (baqq _ _)) jV _);have B1:=af (aS B0 (g:=w.heap.size+1) ah (agi (l.getD 0 [])));obtain⟨W,hW⟩:=ak ((((w.alloc (.cells (agi Z4) 76)).alloc (.cells (agi Z4) 76)).setRow (w.heap.size+1) (agi (l.getD 0 []))));rw[<-hW] at Q1 Z1 R1 B1;rw[show agi Z4= #[.int .i64 0,.int .i64 0,.int .i64 0,.int .i64 0] from rfl] at hW;have HW:=af hW;have S0:=aj (boS d ring l 0=⟨l.getD 0 [],true,0,0⟩) (rfl);have q:=af r;clear U hr l1 l2 dw rw_ hl hn h4 B0 hW r;obtain⟨B,hy0⟩:=ak (l.getD 0 []);rw[<-hy0] at M R0 RA q Q1 HW S0;clear hy0;have n0:(0:Int)<n:=ah;have u4:=iO;go_enter Tryz.func177,Tryz.ntmps177;go_wp2_with(first
  |(refine bZ rfl 76 (.tmp 16) rfl g 0 rfl (au B) _ RA.o u4 rfl q.o ?_)
  |(refine aQ 76 (.tmp 7) (.tmp 17) Z4 B 4 T.o fO rfl M.o.1 ?_;rw[<-HW.o]))
 clear RA ZA T;go_loopw[8,9,20] (fun cv ev iv wr=> ∃i:Nat,i<=n/\iv=.int .i64 i/\cv=.int .i64 (boS d ring l i).c/\ev=.int .i64 (boS d ring l i).e/\Hy (IB wr w.heap.size 76 Z4)/\Hy (IB wr (w.heap.size+1) 76 (boS d ring l i).at_)/\Hy (Rs4 wr g l)/\Hy (Bw w wr)) (fun _ _ iv _=>n-(intOf iv).toNat)
 case atStart=>exact⟨0,ah,rfl,by rw[S0.o],by rw[S0.o],Z1,by rw[S0.o];exact Q1,R1,B1⟩
 case round=>
  clear Z1 Q1 R1 B1;obtain⟨i,hi,rfl,rfl,rfl,X,I,H4,H⟩:=hrel;by_cases hlt:i<n
  ·have IX:=af (agx HL.o (show i<l.length from iT))
   have z:=af (aqg (d:=d) (ring:=ring) (l:=l) (i:=i) iT);have SI:=af (agw (d:=d) (ring:=ring) HL.o (show 0<l.length by rw[HN.o];exact H0.o) i);have h:=aqh (d:=d) (ring:=ring) (l:=l) i;have RG:=aj (wr.rangeAt g (i*4) (au (l.getD i []))) (by rw[jm];exact H4.o.2 i iT);have er:=Yn d ring (l.getD i []);have cr:=Yo d (l.getD i []) 4;have J:=af (fun W L h2=>KS.o W L h2 (l.getD i []) IX.o);obtain⟨x,hx⟩:=ak (l.getD i []);rw[<-hx] at IX z RG er cr J;clear hx;generalize scC d x 4=C at*
   generalize scE d ring x=E at*
   obtain⟨N,O⟩:=ak ((boS d ring l i).at_);obtain⟨sc,Q⟩:=ak ((boS d ring l i).c);obtain⟨se,R⟩:=ak ((boS d ring l i).e);unfold JJ at h;rw[<-Q,<-R] at z h|-;rw[<-O] at SI I;have KB:=af (fun W=>aee C E sc se W cr.1 cr.2 ah ah h.1.1 h.1.2 h.2.1 h.2.2);have P:=af IX.o.1;have m:=af SI.o.1;have HSA:=af O;have HSC:=af Q;have S:=af R;have r:(Tryz.prog.info? 76).map (·.size)=some (au x).length:=(by rw[bf,P.o];exact fO);have q:=af r;have Z:=baqq wr (.cells (agi Z4) 76);have s:=af (IB.setRow (IB.new wr 76 Z4) x);have Z2:=aj (IB ((wr.alloc (.cells (agi Z4) 76)).setRow wr.heap.size (agi x)) w.heap.size 76 Z4) (Blk.rowFar (Blk.below' X.o Z) (by have:=Blk.lt X.o;omega));have Q2:=aj (IB ((wr.alloc (.cells (agi Z4) 76)).setRow wr.heap.size (agi x)) (w.heap.size+1) 76 N) (Blk.rowFar (Blk.below' I.o Z) (by have:=Blk.lt I.o;omega));have R2:=aj (Rs4 ((wr.alloc (.cells (agi Z4) 76)).setRow wr.heap.size (agi x)) g l) (Rs4.rowFar (H4.o.below Z) (by have:=H4.o.1;omega) _);have G:=af (aS (aH H.o Z) (g:=wr.heap.size) H.o.size (agi x));have Y:=aj ((wr.alloc (.cells (agi Z4) 76)).rangeAt g (i*4) (au x)) (World.rangeAt_alloc RG.o _);obtain⟨w1,u⟩:=ak ((wr.alloc (.cells (agi Z4) 76)).setRow wr.heap.size (agi x));rw[<-u] at s Z2 Q2 R2 G;rw[show agi Z4= #[.int .i64 0,.int .i64 0,.int .i64 0,.int .i64 0] from rfl] at u;have V:=af u;have in1:(i:Int)<n:=ah;have in0:(0:Int)<=i:=ah;clear O Q R r Z u er cr h X I H4 H;go_wp2_with(first
    |(refine bZ rfl 76 (.tmp 23) rfl g (i*4) rfl (au x) _ RG.o u4 rfl q.o ?_)
    |(refine bZ rfl 76 (.tmp 23) rfl g (i*4) rfl (au x) _ Y.o u4 rfl q.o ?_)
    |(refine aQ 76 (.tmp 11) (.tmp 24) Z4 x 4 (IB.new wr _ Z4) fO rfl P.o ?_;rw[<-V.o])
    |(refine aK 76 (.tmp 11) x 4 s.o iO fO P.o ?_))
   refine(J.o w1 ((HD.o.below G.o).more G.o.size) ((HR.o.below G.o).more G.o.size)).mono ?_;rintro e w2 ⟨rfl,k⟩;have f:=af (Blk.below' s.o k);have D:=af (Blk.below' Z2.o k);have QX:=af (Blk.below' Q2.o k);have RX:=af (R2.o.below k);have a:=af (aH G.o k);clear k J s Z2 Q2 R2 G RG Y V;by_cases t:i=0
   ·have j:=af (show boS d ring l (i+1)=⟨x,false,C,E⟩ by rw[z.o,if_pos (.inl t)])
    have e0:((i:Int)==0)=true:=aC;have e1:(i:Int)=0:=ah;clear z KB t;exact ahQ
   have e0:((i:Int)==0)=false:=aC;have e1: ¬(i:Int)=0:=ah;obtain⟨b,hb⟩:=ak (jy C E sc se);rw[<-hb] at KB z;clear hb;go_wp2_with fail;refine(KB.o w2).mono ?_;rintro e w3 ⟨rfl,k⟩;replace f:=af (Blk.below' f.o k);replace D:=af (Blk.below' D.o k);replace QX:=af (Blk.below' QX.o k);replace RX:=af (RX.o.below k);replace a:=af (aH a.o k);clear k KB;rcases ag4 b with rfl|rfl;rotate_left
   ·have j:=af (show boS d ring l (i+1)=boS d ring l i by rw[z.o,if_neg (by rintro(L|L);exact t L;cases L)])
    go_wp2;go_roundw;case rel=>exact⟨i+1,ah,aT,by rw[j.o,HSC.o],by rw[j.o,S.o],D,by rw[j.o,<-HSA.o];exact QX,RX,a⟩
    case measure=>exact aW
   have j:=af (show boS d ring l (i+1)=⟨x,false,C,E⟩ by rw[z.o,if_pos (.inr rfl)]);clear z t;exact ahQ
  obtain rfl:i=n:=ah;have EE:=af (show boS d ring l i=kD d ring l by
   unfold boS;rw[if_neg (by have:=H0.o;omega),<-HN.o,List.take_length])
  have K:=(agw (d:=d) (ring:=ring) HL.o (show 0<l.length by rw[HN.o];exact H0.o) i).1;rw[EE.o] at I K;obtain⟨xs,y⟩:=ak ((kD d ring l).at_);rw[<-y] at I K;have HXS:=af y;clear y;have K:=af K;have RF:=af (IB.setRow X.o xs);have BF:=af (aS H.o (ax _) (agi xs));go_wp2_with(first
   |(refine aK 76 (.tmp 7) xs 4 I.o iO fO K.o ?_)
   |(refine aQ 76 (.tmp 6) (.tmp 46) Z4 xs 4 X.o fO rfl K.o ?_))
  refine aX (v:=_) (hR _ _ _ 76 xs _ 4 rfl RF.o iO rfl fO K.o) rfl ?_;exact⟨by rw[HXS.o],BF.o⟩
theorem agy(a b c d:Int):agi [a,b,c,d]= #[.int .i64 a,.int .i64 b,.int .i64 c,.int .i64 d]:=rfl
theorem aqj{a w':Wd}{B base:Nat}{c:Nat}(d:Below B a w)(g:Own4 w base A c l)(e:w.grownBy w' (A.map (·.block)))(h:B<=w.heap.size)(f:B<=base):Below B a w':=
 d.grown e h (fun k b=>by
  cases A with
  |none=>cases b
  |some ad=>simp at b;subst b;exact dL f (g.lt ad rfl).1)
theorem aqk(A A2:Oz)(c c2 n1 n2:Nat)(d ring:Lz)(w:Wd)(U:Rs w w.heap.size A d)(hr:Rs w w.heap.size A2 ring)(l1:d.length=n1)(l2:ring.length=n2)(dw:W64 d)(rw_:W64 ring):
 Cl 117 #[.slice A n1 c,.slice A2 n2 c2] w (SeAns d ring (fV d ring 8) w):=by
 have hR:=sG (fn:=Tryz.f117) (p:=4) (q:=5) (r:=6) (ty:=76) rfl;have B0:=af (baqq w (.cells (agi Z4) 76));have Z0:=af (IB.new w 76 Z4);rw[show agi Z4= #[.int .i64 0,.int .i64 0,.int .i64 0,.int .i64 0] from rfl] at B0 Z0;obtain⟨V,hV⟩:=ak (w.alloc (.cells #[.int .i64 0,.int .i64 0,.int .i64 0,.int .i64 0] 76));rw[<-hV] at B0 Z0;have HV:=af hV;have LV:=aj (w.heap.size+1=V.heap.size) (Gt);have HD:=af U;have HR:=af hr;have KW:=af (aqc A A2 c c2 n1 n2 d ring V ((U.below B0.o).more B0.o.size) l1 l2);clear hV U hr;go_enter Tryz.func117,Tryz.ntmps117;go_wp2_with fail;rw[<-HV.o];refine KW.o.mono ?_;rintro e w1 ⟨rfl,rfl⟩;clear KW;by_cases he:jA d ring=0;rotate_left
 ·have FB:=af (fun w' (i:Bw w w')=>SeAns.bad (x:=(fV d ring 8)) (d:=d) (ring:=ring) rfl he i)
  obtain⟨er,Y⟩:=ak (jA d ring);rw[<-Y] at FB he|-;have hne:(er !=0)=true:=x8;clear Y;have RF:=af (IB.setRow Z0.o Z4);have BF:=af (aS B0.o (g:=w.heap.size) (ax _) (agi Z4));clear he l1 l2 dw rw_;go_wp2_with(refine aQ 76 (.tmp 4) (.tmp 18) Z4 Z4 4 Z0.o fO rfl rfl ?_);exact aiT
 have h40:n1=40/\n2=40:=by
  refine zl fun hc=>?_;rw[EG ah] at he;cases he
 obtain⟨rfl,rfl⟩:=h40;have DL:=af l1;have E0:=af he;have KBO:=af (fun(W:Wd) (i:Bw w W) (c3 g n:Nat) (l:List (Lz)) (hl:∀x∈l,Ix x) (hn:l.length=n) (h0:0<n) (hn2:n<=100000) (h4:Rs4 W g l)=>aqi A A2 c c2 c3 g n d ring l W ((HD.o.below i).more i.size) ((HR.o.below i).more i.size) l1 l2 dw rw_ hl hn h0 hn2 h4);rw[he];clear he l1 l2 dw rw_;go_wp2;have hL0:=baqq V (.cells (agi Z4) 76);have N1:=aj (IB (V.alloc (.cells (agi Z4) 76)) (w.heap.size+1) 76 (fV d ring 0)) (by rw[LV.o];exact IB.new V _ Z4);have Z1:=af (Blk.below' Z0.o hL0);have B1:=af (aH B0.o hL0);rw[show agi Z4= #[.int .i64 0,.int .i64 0,.int .i64 0,.int .i64 0] from rfl] at N1 Z1 B1;generalize V.alloc (.cells #[.int .i64 0,.int .i64 0,.int .i64 0,.int .i64 0] 76)=Z at N1 Z1 B1|-;clear hL0 Z0 B0;first|rw[<-LV.o]|skip
 go_loopw[9] (fun kv wr=> ∃k:Nat,k<=8/\kv=.int .i64 k/\Hy (IB wr w.heap.size 76 Z4)/\Hy (IB wr (w.heap.size+1) 76 (fV d ring k))/\Hy (Bw w wr)) (fun kv _=>8-(intOf kv).toNat)
 case atStart=>exact⟨0,ah,rfl,Z1,N1,B1⟩
 case round=>
  clear Z1 N1 B1;obtain⟨k,hk,rfl,S,O,H⟩:=hrel;obtain⟨wo,rfl⟩:=ak (wr:Wd);by_cases hlt:k<8
  ·have hdec:decide ((k:Int)<8)=true:=aC
   obtain⟨t,htk⟩:=ak (k%4);have F:t<4:=ah;have hkt:(k:Int)%4=(t:Nat):=ah;have NK:=aj (fV d ring (k+1)=(kD d ring (jH (fV d ring k) t 10)).at_) (by rw[fV,htk]);have IN:=af (yL d ring k);have INN:=af (yL d ring (k+1));obtain⟨nx,hnx⟩:=ak (fV d ring (k+1));rw[<-hnx] at NK INN;have L:=af hnx;have HTK:=af htk;generalize fV d ring k=now at*
   clear hnx htk;go_wp2;go_loopw[10,11] (fun lv pv wr=> ∃(p c3:Nat) (A3:Oz),p<=10/\pv=.int .i64 p/\lv=.slice A3 p c3/\Hy (Own4 wr (w.heap.size+2) A3 c3 (jH now t p))/\Hy (IB wr w.heap.size 76 Z4)/\Hy (IB wr (w.heap.size+1) 76 now)/\Hy (Bw w wr)) (fun _ pv _=>10-(intOf pv).toNat)
   case atStart=>exact⟨0,0,none,ah,rfl,rfl,af Own4.nil,S,O,H⟩
   case round=>
    clear S O H;obtain⟨p,c3,A3,hp,rfl,rfl,Q,S,O,H⟩:=hrel;by_cases hlp:p<10
    ·have NL:=af (aes now t p)
     have LL:=af (show(jH now t p).length=p by simp[jH]);have hL:=baqq wr (.cells (agi Z4) 76);have X:=af (Blk.lt O.o);have N1:=aj (IB ((wr.alloc (.cells (agi Z4) 76)).setRow wr.heap.size (agi now)) (w.heap.size+1) 76 now) (Blk.rowFar (Blk.below' O.o hL) (by have:=X.o;omega));have Z1:=aj (IB ((wr.alloc (.cells (agi Z4) 76)).setRow wr.heap.size (agi now)) w.heap.size 76 Z4) (Blk.rowFar (Blk.below' S.o hL) (by have:=X.o;omega));have X1:=af (IB.setRow (IB.new wr 76 Z4) now);have B1:=af (aS (aH H.o hL) (g:=wr.heap.size) H.o.size (agi now));have L1:=aS hL (g:=wr.heap.size) (ax _) (agi now);have O1:=af (Q.o.below L1);have S1:=af L1.size;obtain⟨w1,M⟩:=ak ((wr.alloc (.cells (agi Z4) 76)).setRow wr.heap.size (agi now));have G1:=af (show w1.heap.size=wr.heap.size+1 by rw[M];simp);rw[<-M] at N1 Z1 X1 B1 O1 S1;rw[show agi Z4= #[.int .i64 0,.int .i64 0,.int .i64 0,.int .i64 0] from rfl] at M;have HW1:=af M;have ct:=IB.cell X1.o t (by rw[IN.o.1];exact F);have ft:=Blk.frozen X1.o t;have t4:(t:Int)<4:=ah;have t0:(0:Int)<=t:=ah;have X2:=aj (IB (w1.setCell ⟨wr.heap.size,t,none⟩ (.int .i64 (p:Nat))) wr.heap.size 76 (lJ now t p)) (IB.set_ X1.o t p);have N2:=af (Blk.far N1.o (p:=⟨wr.heap.size,t,none⟩) (by show w.heap.size+1≠wr.heap.size;have:=X.o;omega) (.int .i64 (p:Nat)));have Z2:=af (Blk.far Z1.o (p:=⟨wr.heap.size,t,none⟩) (by show w.heap.size≠wr.heap.size;have:=X.o;omega) (.int .i64 (p:Nat)));have B2:=af (B1.o.setCell (p:=⟨wr.heap.size,t,none⟩) (by show w.heap.size<=wr.heap.size;have:=X.o;omega) (.int .i64 (p:Nat)));have O2:=aj (Own4 (w1.setCell ⟨wr.heap.size,t,none⟩ (.int .i64 (p:Nat))) (w.heap.size+2) A3 c3 (jH now t p)) (Q.o.below (L1.setCell (p:=⟨wr.heap.size,t,none⟩) (ax _) (.int .i64 (p:Nat))|>fun h=>by rw[HW1.o];exact h));have XL:=af (QD IN.o.1 t p);obtain⟨xx,hxx⟩:=ak (lJ now t p);rw[<-hxx] at X2 XL NL;clear hxx;obtain⟨B,z,y2,K,rfl⟩:=xC XL.o;obtain⟨Z,T⟩:=ak (w1.setCell ⟨wr.heap.size,t,none⟩ (.int .i64 (p:Nat)));have G2:=af (show Z.heap.size=wr.heap.size+1 by rw[T];simp[World.setCell];exact G1.o);rw[<-T] at X2 N2 Z2 B2 O2;have HW2:=af T;have G:=baqq Z (.cells (agi [B,z,y2,K]) 76);have X3:=af (IB.new Z 76 [B,z,y2,K]);have N3:=af (Blk.below' N2.o G);have Z3:=af (Blk.below' Z2.o G);have B3:=af (aH B2.o G);have O3:=af (O2.o.below G);have SB:=af (show w.heap.size+2<=(Z.alloc (.cells (agi [B,z,y2,K]) 76)).heap.size by simp;have:=X.o;have:=G2.o;omega);rw[agy] at X3 N3 Z3 B3 O3 SB;generalize jH now t p=lp at*
     clear hL G L1 M T N1 Z1 B1 O1 N2 Z2 B2 O2 Q S H;go_wp2_with(first
      |(refine aK 76 (.tmp 8) now 4 O.o iO fO IN.o.1 ?_)
      |(refine aQ 76 (.tmp 12) (.tmp 28) Z4 now 4 (IB.new wr _ Z4) fO rfl IN.o.1 ?_;rw[<-HW1.o])
      |(refine aK 76 (.tmp 12) [B,z,y2,K] 4 X2.o iO fO rfl ?_;rw[agy])
      |rw[<-HW2.o]
      |(at_builtin;refine amj rfl (.tmp 33) (.tmp 35) rfl (w.heap.size+2) A3 c3 p lp rfl LL.o O3.o Z.heap.size [B,z,y2,K] rfl X3.o rfl ah SB.o ?_;intro A4 c4 w4 hO hG;have O4:=af hO;have N4:=aj (IB w4 (w.heap.size+1) 76 now) (Blk.grownA N3.o hG (O3.o.ne_ ah));have b:=aj (IB w4 w.heap.size 76 Z4) (Blk.grownA Z3.o hG (O3.o.ne_ ah));have B4:=aj (Bw w w4) (aqj B3.o O3.o hG (by have:=SB.o;omega) ah);clear hO hG))
     go_roundw;case rel=>exact⟨p+1,c4,A4,ah,aT,rfl,by rw[NL.o];exact O4,b,N4,B4⟩
     case measure=>exact aW
    obtain rfl:p=10:=ah;have LL:=af (show(jH now t 10).length=10 by simp[jH]);obtain⟨g,rfl,hR4⟩:=Q.o.reads (by rw[LL.o];omega);have K1:=af (KBO.o wr H.o c3 g 10 (jH now t 10) (PO IN.o t (ax _)) LL.o ah ah hR4);rw[<-NK.o] at K1;clear hR4 Q hlp hp;go_wp2_with fail;refine K1.o.mono ?_;rintro e Z ⟨rfl,i⟩;have N2:=af (Blk.below' O.o i);have Z2:=aj (IB (Z.setRow (w.heap.size+1) (agi nx)) w.heap.size 76 Z4) (Blk.rowFar (Blk.below' S.o i) ah);have N3:=aj (IB (Z.setRow (w.heap.size+1) (agi nx)) (w.heap.size+1) 76 (fV d ring (k+1))) (by rw[<-L.o];exact IB.setRow N2.o nx);have B3:=af (aS (aH H.o i) (g:=w.heap.size+1) ah (agi nx));clear i K1 H S O;go_wp2_with(refine aQ 76 (.tmp 8) (.tmp 40) now nx 4 N2.o fO IN.o.1 INN.o.1 ?_);go_roundw;case rel=>exact⟨k+1,ah,aT,Z2,N3,B3⟩
    case measure=>exact aW
  obtain rfl:k=8:=ah;have IXX:=af (yL d ring 8);obtain⟨R,rfl⟩:=ak (wo:Wd);obtain⟨j,s⟩:=ak (w.heap.size+1);have JX:=O;rw[<-s] at JX|-;have D:=S;have a:=H;have LGX:=aj (w.heap.size<j) (ah);clear O S H s KBO hlt hk;obtain⟨P,hP⟩:=ak (SeAns d ring (fV d ring 8) w);have FG:=fun w' (i:Bw w w')=>show P (.returned (.tuple #[.agg (agi (fV d ring 8)),.int .i64 (oQ d (fV d ring 8) 4),.int .i64 0])) w' from by rw[hP];exact SeAns.good (x:=(fV d ring 8)) E0.o i
  have HP:=af hP;have E:=aqe A c d (fV d ring 8) R.drew (show Rs R.drew R.drew.heap.size A d from(HD.o.below a.o).more a.o.size) DL.o IXX.o;have C:=JX.o;have IXN:=IXX.o;clear hP;obtain⟨xs,y⟩:=ak ((fV d ring 8));have HXS:=af y;rw[<-y] at C IXN E FG;clear y JX IXX;obtain⟨u,N,J,f,rfl⟩:=xC IXN.1;have FG:=af FG;have J3:=af C;generalize oQ d [u,N,J,f] 4=sv at*
  have KS1:=aj (Cl 178 #[.slice A 40 c,.agg #[.int .i64 u,.int .i64 N,.int .i64 J,.int .i64 f]] R.drew (fun e w'=>e=.returned (.int .i64 sv)/\Below R.drew.heap.size R.drew w')) (E);rename_i FGr;clear FGr E IXN;have LG1:=LGX.o;have LG2: ¬w.heap.size=j:=ah;have LG3: ¬j=w.heap.size:=ah;have k0:World.cell? R ⟨j,0,none⟩=some (.int .i64 u):=IB.cell C 0 gJ;have k1:World.cell? R ⟨j,1,none⟩=some (.int .i64 N):=IB.cell C 1 gJ;have k2:World.cell? R ⟨j,2,none⟩=some (.int .i64 J):=IB.cell C 2 gJ;have I:World.cell? R ⟨j,3,none⟩=some (.int .i64 f):=IB.cell C 3 gJ;clear C;go_wp2;go_region_held3 (fun w'=>w'.cell? ⟨j,0,none⟩=some (.int .i64 u)/\w'.cell? ⟨j,1,none⟩=some (.int .i64 N)/\w'.cell? ⟨j,2,none⟩=some (.int .i64 J)/\w'.cell? ⟨j,3,none⟩=some (.int .i64 f)) (go_keep) (first
   |(go_at_call 178;(with_reducible refine KS1.o.mono ?_);rintro e w3 ⟨rfl,i⟩;have J4:IB w3 j 76 [u,N,J,f]:=Blk.below' (Blk.drew J3.o) i;have b:IB w3 w.heap.size 76 Z4:=Blk.below' (Blk.drew D.o) i;have B4:=aj (Bw w w3) (a.o.drew.trans (i.mono a.o.size));have l0:World.cell? w3 ⟨j,0,none⟩=some (.int .i64 u):=IB.cell J4 0 gJ;have l1:World.cell? w3 ⟨j,1,none⟩=some (.int .i64 N):=IB.cell J4 1 gJ;have l2:World.cell? w3 ⟨j,2,none⟩=some (.int .i64 J):=IB.cell J4 2 gJ;have l3:World.cell? w3 ⟨j,3,none⟩=some (.int .i64 f):=IB.cell J4 3 gJ;have z0:World.cell? w3 ⟨w.heap.size,0,none⟩=some (.int .i64 0):=IB.cell b 0 gJ;have z1:World.cell? w3 ⟨w.heap.size,1,none⟩=some (.int .i64 0):=IB.cell b 1 gJ;have z2:World.cell? w3 ⟨w.heap.size,2,none⟩=some (.int .i64 0):=IB.cell b 2 gJ;have z3:World.cell? w3 ⟨w.heap.size,3,none⟩=some (.int .i64 0):=IB.cell b 3 gJ;have B:World.frozen? w3 ⟨w.heap.size,0,none⟩=false:=Blk.frozen b 0;have z:World.frozen? w3 ⟨w.heap.size,1,none⟩=false:=Blk.frozen b 1;have y2:World.frozen? w3 ⟨w.heap.size,2,none⟩=false:=Blk.frozen b 2;have K:World.frozen? w3 ⟨w.heap.size,3,none⟩=false:=Blk.frozen b 3;have J4:=af J4;have m:=af b;clear i b))
  exact ahK
theorem ZB(w:Wd)(u v:Int)(base:Nat)(a:base<=w.heap.size):Own (w.alloc (.cells #[.int .i64 u,.int .i64 v] 3)) base (some ⟨w.heap.size,0,none⟩) 2 [u,v]:=
 y9 (base:=base) (e:=3) (size:=1) w #[.int .i64 u,.int .i64 v] 2 a jg rfl
theorem aqo(xs ys:Lz)(k:Nat)(h:k<xs.length):(xs++ys).getD k 0=xs.getD k 0:=by
 simp[bK,oD h]
theorem ZC(xs ys:Lz)(k j:Nat)(h:k=xs.length+j):(xs++ys).getD k 0=ys.getD j 0:=by
 subst h;simp[bK,uH]
theorem aqp(l:Lz)(a b c d:Int)(k:Nat):([b,a]++l).getD (k+1) 0=(hiN l a b c d k).1.1/\([b,a]++l).getD k 0=(hiN l a b c d k).1.2.1:=by
 induction k with
 |zero=>exact⟨rfl,rfl⟩
 |succ k ih=>exact⟨by rw[ZC _ _ _ k aC];rfl,ih.1⟩
theorem aqr(l:Lz)(a b c d:Int)(k:Nat):([d,c]++(hiN l a b c d k).2).getD (k+1) 0=(hiN l a b c d k).1.2.2.1/\([d,c]++(hiN l a b c d k).2).getD k 0=(hiN l a b c d k).1.2.2.2:=by
 induction k with
 |zero=>exact⟨rfl,rfl⟩
 |succ k ih=>
  have e:=PZ l a b c d k;constructor
  ·rw[hiN,<-oZ,ZC _ _ _ 0 (by simp[e])];rfl
  rw[hiN,<-oZ,aqo _ _ _ (by simp[e])];exact ih.1
structure Hr(w wr:Wd)(h:Lz)(gx cx:Nat)(X:Lz)(gy cy:Nat)(Y:Lz):Prop where
 B:Hx w wr h
 X:Own wr (w.heap.size+2) (some ⟨gx,0,none⟩) cx X
 Y:Own wr (gx+1) (some ⟨gy,0,none⟩) cy Y
 lx:w.heap.size+2<=gx
 ly:gx+1<=gy
 ty:gy<wr.heap.size
section
variable {w wr w':Wd} {h X Y:Lz} {gx cx gy cy:Nat}
theorem Hr.below(s:Hr w wr h gx cx X gy cy Y)(a:Bw wr w'):Hr w w' h gx cx X gy cy Y:=
 ⟨⟨Blk.below' s.B.H a,Blk.below' s.B.R a,aH s.B.bel a⟩,s.X.below a,s.Y.below a,s.lx,s.ly,je s.ty a.size⟩
theorem Hr.alloc(s:Hr w wr h gx cx X gy cy Y)(o:Obj):Hr w (wr.alloc o) h gx cx X gy cy Y:=
 ⟨s.B.alloc o,s.X.alloc o,s.Y.alloc o,s.lx,s.ly,by simp;have:=s.ty;omega⟩
theorem Hr.drew(s:Hr w wr h gx cx X gy cy Y):Hr w wr.drew h gx cx X gy cy Y:=⟨s.B.drew,s.X.drew,s.Y.drew,s.lx,s.ly,s.ty⟩
theorem Hr.grown{A2:Oz}{c2:Nat}{y:Int}(s:Hr w wr h gx cx X gy cy Y)(b:wr.grownBy w' (some gy))(c:Own w' (gx+1) A2 c2 (Y++[y])):
 ∃a,A2=some ⟨a,0,none⟩/\Hr w w' h gx cx X a c2 (Y++[y]):=by
 have g:=s.lx;have i:=s.ly;obtain⟨a,rfl,e,f⟩:=c.head ay;refine⟨a,rfl,⟨⟨Blk.grown s.B.H b aC,Blk.grown s.B.R b aC,?_⟩,s.X.kept b aC,c,g,e,f⟩⟩;exact s.B.bel.grown b (by have:=s.B.lt;omega) (fun k d=>by injection d with d;omega)
end
def QS(w:Wd)(ys q:Lz)(er:Int)(e:Ending)(w':Wd):Prop:=∃A c,e=.returned (.tuple #[.slice A ys.length c,.agg (agi q),.int .i64 er])/\Rs w' w'.heap.size A ys/\Bw w w'/\ys.length<=c
theorem aqs(a b c d:Int)(l:Lz)(M:Oz)(c0 n:Nat)(w:Wd)(hr:Rs w w.heap.size M l)(hn:l.length=n)(hl:n<=17592186044000):
 Cl 41 #[.agg (agi [a,b,c,d]),.slice M n c0] w (QS w (hiA l a b c d n).2.1 (hiA l a b c d n).1 (bz (hiA l a b c d n).2.2)):=by
 have hR:=PT (fn:=Tryz.f41) (p:=4) (q:=5) (r:=6) (ty:=50) rfl;have A:=Hx.start w [a,b,c,d];rw[Ed] at A;have A:=af A;have R0:=af (hr.below A.o.bel);have HN:=af hn;have HR:=af hr;have KL:=af (fun(W:Wd) (h:Rs W W.heap.size M l)=>mX M c0 n W.heap.size l W h hn ah);have T:=af (fun(W:Wd) (h:Rs W W.heap.size (some ⟨w.heap.size,0,none⟩) [a,b])=>mX _ 2 2 W.heap.size [a,b] W h rfl ah);have KY:=af (fun(W:Wd) (h:Rs W W.heap.size (some ⟨w.heap.size,2,none⟩) [c,d])=>mX _ 2 2 W.heap.size [c,d] W h rfl ah);have RX:=af (P7 (IB.cell A.o.H 0 ay) (IB.cell A.o.H 1 ay) (Blk.lt A.o.H));have RY:=af (P7 (IB.cell A.o.H 2 ay) (IB.cell A.o.H 3 ay) (Blk.lt A.o.H));have RL:=af (R0.o.more (show w.heap.size<=_ from A.o.bel.size));clear hn hr R0;have K1:=af (KL.o _ RL.o);have K2:=af (T.o _ RX.o);have V:=af (KY.o _ RY.o);clear KL T KY RX RY;obtain⟨W,hW⟩:=ak ((w.alloc (.cells (agi [a,b,c,d]) 50)).alloc (.cells #[.int .i64 0,.int .i64 0,.int .i64 0,.int .i64 0] 50));rw[<-hW] at K1 K2 V A RL;have HW:=af hW;clear hW;by_cases G:AX a b c d l=true
 ·obtain⟨gl,g1,g2⟩:aG l=true/\aG [a,b]=true/\aG [c,d]=true:=by simpa[AX] using G
  unfold hiA;rw[if_pos G];have GN:=af (fun k=>aeO gl g1 g2 k);have GL:=af gl;have t:=K1.o;have i:=K2.o;have K3':=V.o;rw[gl] at t;rw[g1] at i;rw[g2] at K3';have K1:=af t;have K2:=af i;have V:=af K3';clear t i K3' gl g1 g2 G;have e0:W.cell? ⟨w.heap.size,0,none⟩=some (.int .i64 a):=IB.cell A.o.H 0 ay;have e1:W.cell? ⟨w.heap.size,1,none⟩=some (.int .i64 b):=IB.cell A.o.H 1 ay;have S:W.cell? ⟨w.heap.size,2,none⟩=some (.int .i64 c):=IB.cell A.o.H 2 ay;have e3:W.cell? ⟨w.heap.size,3,none⟩=some (.int .i64 d):=IB.cell A.o.H 3 ay;have Q:=af A.o.lt;go_enter Tryz.func41,Tryz.ntmps41;go_wp2_with(first
   |(rw[<-HW.o])
   |(go_at_call 92;(with_reducible refine K1.o.mono ?_);rintro e w' ⟨rfl,rfl⟩)
   |(go_at_call 92;(with_reducible refine K2.o.mono ?_);rintro e w' ⟨rfl,rfl⟩)
   |(go_at_call 92;(with_reducible refine V.o.mono ?_);rintro e w' ⟨rfl,rfl⟩)
   |(at_builtin;refine pg rfl (.tmp 34) (.tmp 35) rfl (w.heap.size+2) (some ⟨W.heap.size,0,none⟩) 2 2 [b,a] rfl rfl (ZB W b a _ Q.o) W.heap.size M c0 n l rfl HN.o (RL.o.below (baqq _ _)) ah (by simp;have:=Q.o;omega) ?_;intro A2 c2 w5 hO hG hA;have O5:=af hO;have S5:=af ((A.o.alloc _).grown (ZB W b a _ Q.o) hG);clear hO hG hA e0 e1 S e3;have S:w5.cell? ⟨w.heap.size,2,none⟩=some (.int .i64 c):=IB.cell S5.o.H 2 ay;have e3:w5.cell? ⟨w.heap.size,3,none⟩=some (.int .i64 d):=IB.cell S5.o.H 3 ay;obtain⟨gx,rfl,hx1,hx2⟩:=O5.o.head ay;have U:=af hx1;have HX2:=af hx2;clear hx1 hx2;obtain⟨nx,hnx⟩:=ak (2+n);rw[<-hnx];have NX:=af hnx;clear hnx))
  have Z0:=af (show Hr w (w5.alloc (.cells #[.int .i64 d,.int .i64 c] 3)) [a,b,c,d] gx c2 ([b,a]++l) w5.heap.size 2 [d,c] from⟨S5.o.alloc _,O5.o.alloc _,ZB w5 d c _ HX2.o,U.o,HX2.o,ay⟩);clear S e3 K1 K2 V A RL HW Q S5 O5;have XL:=af (show([b,a]++l).length=nx by rw[dN,HN.o,NX.o];rfl);go_loopw[8,46] (fun ov iv wr=> ∃(k P gy cy:Nat) (E F I K:Int) (ys:Lz),k<=n/\iv=.int .i64 k/\ov=.slice (some ⟨gy,0,none⟩) P cy/\Hy (P=k+2)/\Hy (hiN l a b c d k=((E,F,I,K),ys))/\Hy (Hr w wr [a,b,c,d] gx c2 ([b,a]++l) gy cy ([d,c]++ys))) (fun _ iv _=>n-(intOf iv).toNat)
  case atStart=>exact⟨0,2,_,2,a,b,c,d,[],ah,rfl,rfl,af rfl,af rfl,Z0⟩
  case round=>
   clear Z0;obtain⟨k,P,gy,cy,E,F,I,K,ys,hk,rfl,rfl,NY,HY,C⟩:=hrel;have YL:=af (show([d,c]++ys).length=P by have:=PZ l a b c d k;rw[HY.o] at this;rw[NY.o,dN,this];simp;omega);have vx:=aqp l a b c d k;have vy:=aqr l a b c d k;rw[HY.o] at vx vy;dsimp only at vx vy;obtain⟨j1,L⟩:=ak (k+1:Nat);rw[<-L] at vx vy;have cx0:wr.cell? ⟨gx,k,none⟩=some (.int .i64 F):=(by rw[C.o.X.cell k (by rw[XL.o,NX.o];omega),vx.2]);have cx1:wr.cell? ⟨gx,j1,none⟩=some (.int .i64 E):=(by rw[C.o.X.cell j1 (by rw[XL.o,NX.o];omega),vx.1]);have cy0:wr.cell? ⟨gy,k,none⟩=some (.int .i64 K):=(by rw[C.o.Y.cell k (by rw[YL.o,NY.o];omega),vy.2]);have cy1:wr.cell? ⟨gy,j1,none⟩=some (.int .i64 I):=(by rw[C.o.Y.cell j1 (by rw[YL.o,NY.o];omega),vy.1]);have hwj1:IntKind.i64.wrap ((k:Int)+1)=(j1:Nat):=aV;have b1:(j1:Int)<nx:=(by have:=NX.o;omega);have b0:(k:Int)<nx:=(by have:=NX.o;omega);have d1:(j1:Int)<P:=MX;have d0:(k:Int)<P:=MX;clear vx vy;by_cases hlt:k<n
   ·obtain⟨j2,hj2⟩:=ak (k+2:Nat)
    obtain⟨x,hx⟩:=ak (l.getD k 0);have cx2:wr.cell? ⟨gx,j2,none⟩=some (.int .i64 x):=(by rw[C.o.X.cell j2 (by rw[XL.o,NX.o];omega),ZC _ _ _ k aC,hx]);have hwj2:IntKind.i64.wrap ((k:Int)+2)=(j2:Nat):=aV;have b2:(j2:Int)<nx:=(by have:=NX.o;omega);have xb:=gU GL.o k;have gn:=GN.o k;rw[HY.o] at gn;dsimp only at gn;have m:=af (show hiN l a b c d (k+1)=((l.getD k 0,E,hiY E F I K (l.getD k 0),I),ys++[hiY E F I K (l.getD k 0)]) by rw[hiN,HY.o]);rw[<-hx] at xb m;unfold hiY yN at*
    obtain⟨N,J⟩:=xb;obtain⟨⟨g1,g2⟩,⟨g3,g4⟩,⟨g5,g6⟩,g7,g8⟩:=gn;have hw1:IntKind.i64.wrap (2*E)=2*E:=aV;have hw2:IntKind.i64.wrap (x-2*E)=x-2*E:=aV;have hw3:IntKind.i64.wrap (x-2*E+F)=x-2*E+F:=aV;have hw4:IntKind.i64.wrap (3798*(x-2*E+F))=3798*(x-2*E+F):=aV;have hw5:IntKind.i64.wrap (7807*I)=7807*I:=aV;have O:IntKind.i64.wrap (3798*(x-2*E+F)+7807*I)=3798*(x-2*E+F)+7807*I:=aV;have u:IntKind.i64.wrap (3733*K)=3733*K:=aV;obtain⟨s,Z⟩:=ak (3798*(x-2*E+F)+7807*I-3733*K);have hw8:IntKind.i64.wrap (3798*(x-2*E+F)+7807*I-3733*K)=s:=(by rw[mM,Z];omega);have hw9:IntKind.i64.wrap (s+2048)=s+2048:=aV;have KD:=af (fun W=>NC (s+2048) W ah ah);obtain⟨z,hz⟩:=ak ((s+2048)/4096);rw[<-hz] at KD;have KS:=af (fun W=>sN z W ah ah);obtain⟨y,hy⟩:=ak (s16 z);rw[show(3798*x-7596*E+3798*F+7807*I-3733*K+2048)/4096=z by rw[hz,Z];congr 1;omega,<-hy] at m;rw[<-hy] at KS;have f:=af L;clear N J g1 g2 g3 g4 g5 g6 g7 g8 hR hy hz Z hx L hj2;go_wp2_with fail;go_region;try simp only[Exit.then]
    clear hw1 hw2 hw3 hw4 hw5 O u hw8 cx0 cx1 cx2 cy0 cy1 b0 b1 b2 d0 d1 hwj1 hwj2;go_wp2_with fail;refine(KD.o _).mono ?_;rintro e w9 ⟨rfl,hB⟩;have S1:=af (C.o.drew.below hB);clear hB C;go_wp2_with fail;refine(KS.o _).mono ?_;rintro e w10 ⟨rfl,hB⟩;have S2:=af (S1.o.below hB);clear hB S1;go_wp2_with(at_builtin;refine wR rfl (.tmp 80) (.tmp 85) rfl (gx+1) (some ⟨gy,0,none⟩) cy P ([d,c]++ys) rfl YL.o (S2.o.Y.alloc _) ⟨w10.heap.size,0,none⟩ y rfl (oH w10 _ _) MX (by have F:=S2.o.ly;have I:=S2.o.ty;simp;omega) ?_;intro A3 c3 w6 hO hG hA;have O6:=af hO;have G6:=af hG;clear hO hG hA;obtain⟨g3,rfl,S6⟩:=(S2.o.alloc _).grown G6.o O6.o;have S6:=af S6;clear O6 G6);go_wp2;go_roundw;case rel=>exact⟨k+1,P+1,g3,c3,_,_,_,_,_,ah,aT,rfl,af MX,m,af (by have:=S6.o;rwa [oZ] at this)⟩
    case measure=>exact aW
   obtain rfl:k=n:=ah;have r0:wr.cell? ⟨w.heap.size+1,0,none⟩=some (.int .i64 0):=IB.cell C.o.B.R 0 aA;have r1:wr.cell? ⟨w.heap.size+1,1,none⟩=some (.int .i64 0):=IB.cell C.o.B.R 1 aA;have r2:wr.cell? ⟨w.heap.size+1,2,none⟩=some (.int .i64 0):=IB.cell C.o.B.R 2 aA;have r3:wr.cell? ⟨w.heap.size+1,3,none⟩=some (.int .i64 0):=IB.cell C.o.B.R 3 aA;have f0:wr.frozen? ⟨w.heap.size+1,0,none⟩=false:=Blk.frozen C.o.B.R 0;have f1:wr.frozen? ⟨w.heap.size+1,1,none⟩=false:=Blk.frozen C.o.B.R 1;have f2:wr.frozen? ⟨w.heap.size+1,2,none⟩=false:=Blk.frozen C.o.B.R 2;have f3:wr.frozen? ⟨w.heap.size+1,3,none⟩=false:=Blk.frozen C.o.B.R 3;have hc1:2<=P:=MX;have hc2:P<=cy:=(by have:=C.o.Y.cap.1;rw[YL.o] at this;exact this);have HC2:=af hc2;have hne1:w.heap.size+1≠gx:=(by have:=U.o;omega);have hne2:w.heap.size+1≠gy:=(by have:=U.o;have:=C.o.ly;omega);have j:=af (Blk.drew (IB.set4 C.o.B.R E F I K));have OR:=af ((C.o.Y.set4 (g:=w.heap.size+1) (by have:=U.o;omega) E F I K).drew);have BR:=af (YH C.o.B.bel (g:=w.heap.size+1) ah E F I K).drew;have f:=af L;clear L hlt;have RD:=OR.o.reads.drop (k:=2) (cap:=cy) ay (by rw[YL.o];exact hc2);rw[uz,lN] at RD;have RD:=af RD;have YS:=af (show ys.length=P-2 by rw[<-YL.o];simp);go_wp2_with fail;go_region;clear cx0 cx1 cy0 cy1 r0 r1 r2 r3 f0 f1 f2 f3 hne1 hne2 hc1 hc2;have RD':=RD.o;clear RD;generalize (if cy=2 then some (⟨gy,0,none⟩:Addr) else some ⟨gy,2,none⟩)=AA at RD'|-;have RD:=af RD';clear RD';simp only[Exit.then];go_wp2;refine aX (v:=_) (hR _ _ _ 50 [E,F,I,K] _ 4 rfl j.o yT rfl AY rfl) rfl ?_;rw[HY.o];exact⟨_,_,by rw[YS.o];rfl,RD.o,BR.o,by rw[YS.o];have:=HC2.o;omega⟩
 ·have hA:hiA l a b c d n=([0,0,0,0],[],false):=by unfold hiA;rw[if_neg G]
  rw[hA];clear hA;have r0:W.cell? ⟨w.heap.size+1,0,none⟩=some (.int .i64 0):=IB.cell A.o.R 0 aA;have r1:W.cell? ⟨w.heap.size+1,1,none⟩=some (.int .i64 0):=IB.cell A.o.R 1 aA;have r2:W.cell? ⟨w.heap.size+1,2,none⟩=some (.int .i64 0):=IB.cell A.o.R 2 aA;have r3:W.cell? ⟨w.heap.size+1,3,none⟩=some (.int .i64 0):=IB.cell A.o.R 3 aA;have f0:W.frozen? ⟨w.heap.size+1,0,none⟩=false:=Blk.frozen A.o.R 0;have f1:W.frozen? ⟨w.heap.size+1,1,none⟩=false:=Blk.frozen A.o.R 1;have f2:W.frozen? ⟨w.heap.size+1,2,none⟩=false:=Blk.frozen A.o.R 2;have f3:W.frozen? ⟨w.heap.size+1,3,none⟩=false:=Blk.frozen A.o.R 3;have j:=af (IB.set4 A.o.R 0 0 0 0);have BR:=af (YH A.o.bel (g:=w.heap.size+1) ah 0 0 0 0);have D:=af (show QS w [] [0,0,0,0] (bz false) (.returned (.tuple #[.slice none 0 0,.agg (agi [0,0,0,0]),.int .i64 2])) ((((W.setCell ⟨w.heap.size+1,0,none⟩ (.int .i64 0)).setCell ⟨w.heap.size+1,1,none⟩ (.int .i64 0)).setCell ⟨w.heap.size+1,2,none⟩ (.int .i64 0)).setCell ⟨w.heap.size+1,3,none⟩ (.int .i64 0)) from⟨none,0,rfl,Rs.nil,BR.o,ax _⟩);unfold AX at G;cases gl:aG l with
  |false=>
    rw[gl] at K1;clear K2 V G A;exact abl
  |true=>
   rw[gl] at K1 G;cases g1:aG [a,b] with
   |false=>
     rw[g1] at K2;clear V G A;exact abl
   |true=>
    rw[g1] at K2 G;cases g2:aG [c,d] with
    |false=>
     rw[g2] at V;clear G A;exact abl
    |true=>rw[g2] at G;simp at G
theorem Nm.keptT{w':Wd}{v:Value}{n:Nat}(h:Nm w v n){j:Array Value}(i:Blk w g t j)(F:t≠179)(G:w.grownBy w' (some g)):Nm w' v n:=by
 obtain⟨A,e,cap,ws,rfl,b,k,m⟩:=h;refine⟨A,e,cap,ws,rfl,b.of_block fun a f=>G.block _ (b.lt a f) ?_,k,m⟩;intro l;obtain⟨_,d,c,T,_⟩:=b.cells a f;have:=fQ l;unfold Blk at i;rw[this,i] at T;simp only[Fe,Obj.cells.injEq] at T;exact F T.2.1
theorem IntAt.setInt{b:Nat}{z:Int}{e:Array Value}(h:IntAt w b z)(j:Blk w g t e)(F:t≠179)(a:b≠g)(i:Nat)(v:Value):IntAt (w.setCell ⟨g,i,none⟩ v) b z:=by
 obtain⟨u,c,f⟩:=h;have d:=zT w g i v;exact⟨u,by rw[d.block _ (uY c) (by simpa using a)];exact c,f.keptT j F d⟩
theorem TwoP.grown{h b:Nat}{e f:Wd}(a:TwoP g h w e)(c:e.grownBy f (some b))(l:w.heap.size<=b\/b=h):TwoP g h w f:=
 ⟨c.os.trans a.os,c.tape.trans a.tape,c.output.trans a.output,dL a.size c.size,fun k d i j=>(c.block k (je d a.size) aC).trans (a.keep k d i j)⟩
structure Tst(gl gx bx L X:Nat)(W:Wd):Prop where
 l:Blk W gl 3 #[.int .i64 (L:Nat)]
 x:Blk W gx 140 #[.pointer (some ⟨bx,0,none⟩)]
 I:IntAt W bx ((X:Nat):Int)
 n1:bx<gx
 n2:gx<gl
section
variable {gl gx bx L X:Nat} {W W':Wd}
theorem Tst.below(s:Tst gl gx bx L X W)(a:Bw W W'):Tst gl gx bx L X W':=⟨Blk.below' s.l a,Blk.below' s.x a,s.I.below a (ax _),s.n1,s.n2⟩
end
theorem agG(gl gx bx L X n:Nat)(w:Wd)(S:Tst gl gx bx L X w)(hn:n<=L)(hL:L<=112)(hX:X<2^112)(hy:X/2^(L-n)<64):
 Cl 134 #[.int .i64 n,.pointer (some ⟨gl,0,none⟩),.pointer (some ⟨gx,0,none⟩)] w
  (fun e w'=>e=.returned (.int .i64 (X/2^(L-n):Nat))/\Tst gl gx bx (L-n) (X%2^(L-n)) w'/\TwoP gl bx w w'):=by
 obtain⟨M,U⟩:=ak (L-n);rw[<-U] at hy|-;obtain⟨y,q⟩:=ak (X/2^M);have g:=Ru X (2^M);rw[<-q] at hy g|-;have T:y*2^M<=X:=by rw[jm];omega
 have v:X<340282366920938463463374607431768211456:=je hX aA;have n1:=S.n1;have n2:=S.n2;have hgl:=Blk.lt S.l;have c1:w.cell? ⟨gl,0,none⟩=some (.int .i64 (L:Nat)):=Blk.cell S.l 0;have f1:=Blk.frozen S.l 0;have Y:IntKind.i64.wrap ((L:Int)-(n:Nat))=(M:Nat):=aV;have hMu:IntKind.u64.wrap ((M:Nat):Int)=(M:Nat):=uN;obtain⟨t,a⟩:=ak (w.setCell ⟨gl,0,none⟩ (.int .i64 (M:Nat)));have S1:=aj (Blk t gl 3 #[.int .i64 (M:Nat)]) (by rw[a];exact Blk.set_ S.l 0 _);have X1:=aj (Blk t gx 140 #[.pointer (some ⟨bx,0,none⟩)]) (by rw[a];exact Blk.far S.x (p:=⟨gl,0,none⟩) (by show gx≠gl;omega) _);have I1:=aj (IntAt t bx ((X:Nat):Int)) (by rw[a];exact S.I.setInt S.l aA ah 0 _);have T1:=aj (TwoP gl bx w t) (by rw[a];exact(TwoP.refl _ _ _).set1 0 _);have D:=af (show t.heap.size=w.heap.size by rw[a];simp[World.setCell]);have O:=baqq t (.cells #[.bool false,.slice none 0 0] 144);have q1:(t.alloc (.cells #[.bool false,.slice none 0 0] 144)).cell? ⟨gl,0,none⟩=some (.int .i64 (M:Nat)):=Blk.cell (Blk.below' S1.o O) 0;have q2:(t.alloc (.cells #[.bool false,.slice none 0 0] 144)).cell? ⟨gx,0,none⟩=some (.pointer (some ⟨bx,0,none⟩)):=Blk.cell (Blk.below' X1.o O) 0;have I2:=af (I1.o.below O (ax _));have T2:=af (T1.o.trans (TwoP.of_below O));have KR:=aj (Cl 100 #[.pointer (some ⟨t.heap.size,0,none⟩),.pointer (some ⟨bx,0,none⟩),.int .u64 (M:Nat)] (t.alloc (.cells #[.bool false,.slice none 0 0] 144)) (jo (t.alloc (.cells #[.bool false,.slice none 0 0] 144)) t.heap.size ((y:Nat):Int))) (by
  have h:=Ih (t.alloc (.cells #[.bool false,.slice none 0 0] 144)) t.heap.size bx ((X:Nat):Int) M (IntBlk.new t _ _) I2.o (bW v) ah;rw[show((X:Nat):Int)/2^M=((y:Nat):Int) by rw[q];simp] at h;exact h)
 have S2:=af (Blk.below' S1.o O);have X2:=af (Blk.below' X1.o O);have E:=af a;have C:=af S;have HM:=af U;have d:=af q;have N:=af g;have V:M<=112:=ah;clear O a S U q g;go_enter Tryz.func134,Tryz.ntmps134;go_wp2_with(first
  |(rw[<-E.o];clear E)
  |(go_at_call 100;(with_reducible refine KR.o.mono ?_);rintro e f ⟨rfl,u,c⟩;have Y3:=af u;have I3:=af (I2.o.kept (IntBlk.new t _ _) c (by have:=D.o;omega));have S3:=af (Blk.grown S2.o c (by have:=D.o;simp;omega));have X3:=af (Blk.grown X2.o c (by have:=D.o;simp;omega));have T3:=af (T2.o.grown c (.inl (by rw[D.o];exact ax _)));have Z3:=aj (w.heap.size<f.heap.size) (by have H:=c.size;rw[bT,D.o] at H;omega);clear u c))
 clear q1 q2 c1 f1 Y;have q1:f.cell? ⟨gl,0,none⟩=some (.int .i64 (M:Nat)):=Blk.cell S3.o 0;have q2:f.cell? ⟨gx,0,none⟩=some (.pointer (some ⟨bx,0,none⟩)):=Blk.cell X3.o 0;obtain⟨Z,K⟩:=ak (y*2^M);rw[<-K] at T;obtain⟨i,z⟩:∃b,b=t.heap.size:=⟨_,rfl⟩;have j:=af (show i=w.heap.size by rw[z];exact D.o);rw[<-z] at Y3|-;clear z;obtain⟨B,k⟩:=ak ((f.alloc (.cells #[.bool false,.slice none 0 0] 144)).drew);have A:Bw f B:=by rw[k];exact(baqq _ _).drew
 have R:=aj (IntBlk B f.heap.size) (by rw[k];exact(IntBlk.new f _ _).drew);have Y4:=af (Y3.o.below A (ax _));have I4:=af (I3.o.below A (ax _));have S4:=af (Blk.below' S3.o A);have P:=af (Blk.below' X3.o A);have T4:=af (T3.o.trans (TwoP.of_below A));have F:Z<340282366920938463463374607431768211456:=ah;have KL:=aj (Cl 101 #[.pointer (some ⟨f.heap.size,0,none⟩),.pointer (some ⟨i,0,none⟩),.int .u64 (M:Nat)] B (jo B f.heap.size ((Z:Nat):Int))) (by
  have h:=zU B f.heap.size i ((y:Nat):Int) M R.o Y4.o (bW (by show y<_;omega)) ah;rw[show((y:Nat):Int)*2^M=((Z:Nat):Int) by rw[K];simp] at h;exact h)
 have KS:=af (fun W (H:IntAt W bx ((X:Nat):Int)) (h2:IntAt W f.heap.size ((Z:Nat):Int))=>show Cl 135 #[.pointer (some ⟨bx,0,none⟩),.pointer (some ⟨bx,0,none⟩),.pointer (some ⟨f.heap.size,0,none⟩)] W (jo W bx ((X%2^M:Nat):Int)) from by
  have h:=WE W bx bx f.heap.size ((X:Nat):Int) ((Z:Nat):Int) H.blk H h2 (bW v) (bW F);rw[show((X:Nat):Int)-((Z:Nat):Int)=((X%2^M:Nat):Int) by
   have h3:=N.o;rw[jm,<-K] at h3;omega] at h
  exact h)
 have hzl:=Z3.o;have G:=j.o;have r1: ¬gl=f.heap.size:=ah;have r2: ¬gx=f.heap.size:=ah;have Q:=af k;clear K F T v hX A k G;go_region_held3 (fun w'=>w'.cell? ⟨gl,0,none⟩=some (.int .i64 (M:Nat))/\w'.cell? ⟨gx,0,none⟩=some (.pointer (some ⟨bx,0,none⟩))) (go_keep) (first
  |(go_at_call 101;rw[show(f.alloc (.cells #[.bool false,.slice none 0 0] 144)).drew=B from Q.o.symm];(with_reducible refine KL.o.mono ?_);rintro e' wL ⟨rfl,u,c⟩;have ZL:=af u;have IL:=af (I4.o.kept R.o c ah);have YL:=af (Y4.o.kept R.o c (by have:=j.o;omega));have m:=af (Blk.grown S4.o c aC);have XL:=af (Blk.grown P.o c aC);have TL:=af (T4.o.grown c (.inl (kY hzl)));have m1:World.cell? wL ⟨gl,0,none⟩=some (.int .i64 (M:Nat)):=Blk.cell m.o 0;have J:World.cell? wL ⟨gx,0,none⟩=some (.pointer (some ⟨bx,0,none⟩)):=Blk.cell XL.o 0;clear u c)
  |(go_at_call 135;(with_reducible refine(KS.o wL IL.o ZL.o).mono ?_);rintro e' wS ⟨rfl,u,c⟩;have IS:=af u;have YS:=af (YL.o.kept IL.o.blk c (by have:=j.o;omega));have SS:=af (Blk.grown m.o c aC);have XS:=af (Blk.grown XL.o c aC);have TS:=af (TL.o.grown c (.inr rfl));have r:World.cell? wS ⟨gl,0,none⟩=some (.int .i64 (M:Nat)):=Blk.cell SS.o 0;have s:World.cell? wS ⟨gx,0,none⟩=some (.pointer (some ⟨bx,0,none⟩)):=Blk.cell XS.o 0;clear u c))
 all_goals
  rename_i hHeldZ;clear hHeldZ r s m1 J q1 q2;try simp only[Exit.then]
  have KI:=af (qm wS i ((y:Nat):Int) YS.o ah ah);go_wp2_with(go_at_call 102;(with_reducible refine KI.o.mono ?_);rintro e' w' ⟨rfl,rfl⟩);go_ret;exact⟨rfl,⟨SS.o,XS.o,IS.o,n1,n2⟩,TS.o⟩
theorem aqS(V L n:Nat)(h:n<=L):V%2^L/2^(L-n)=V>>>(L-n)%2^n:=by
 apply Ci;intro q;rw[Ls,Cf,Cf,SK,qI (L-n) q];by_cases b:q<n
 ·have a:q+(L-n)<L:=ah
  simp[b,a]
 have a: ¬q+(L-n)<L:=ah;simp[b,a]
theorem agL(V L n:Nat):V%2^L%2^(L-n)=V%2^(L-n):=Nat.mod_mod_of_dvd _ (Nat.pow_dvd_pow 2 ah)
theorem agM(V a n:Nat)(h:a+n<=112):V%2^(112-a)/2^(112-a-n)=gt V a n:=by
 unfold gt;exact aqS V (112-a) n ah
theorem aqT(V:Nat)(hi:i<25):(uL V 25).take i++[((uF V i:Nat):Int)]=(uL V 25).take (i+1):=by
 have h:=Qv (l:=uL V 25) (k:=i) (by rw[iQ];exact hi);rw[<-h];congr 2;unfold uL;rw[bK,qg,vU hi];simp[hi]
theorem aqU(k:Nat)(a:k<=14):nb (xs.take 14) k=nb xs k:=by
 induction k with
 |zero=>rfl
 |succ k ih=>
  simp only[nb];rw[ih ah];congr 2;rw[bK,xW,if_pos ah,<-bK]
theorem Own.two{w':Wd}{base c h:Nat}(o:Own w base A c xs)(t:TwoP g h w w')(i:g<base)(j:h<base):Own w' base A c xs:=by
 refine⟨o.1,?_⟩;rcases o.2 with e|⟨b,cap,d,f,a,G,rest⟩
 ·exact .inl e
 exact .inr ⟨b,cap,d,f,a,(t.keep b (uY G) ah ah).trans G,rest⟩
theorem Tst.app{h L X base c:Nat}{w':Wd}(s:Tst g i h L X w)(o:Own w base A c xs)(r:g<base)(e:w.grownBy w' (A.map (·.block))):Tst g i h L X w':=by
 have m:=s.n1;have n:=s.n2;cases A with
 |none=>exact s.below ⟨e.os,e.tape,e.output,e.size,fun k p=>e.block k p ay⟩
 |some a=>
  rcases o.2 with⟨hv,_⟩|⟨b,cap,d,hv,f,G,_⟩
  ·cases hv
  injection hv with hA _ _;injection hA with hA;subst hA;have e:w.grownBy w' (some b):=e;refine⟨Blk.grown s.l e aC,Blk.grown s.x e aC,?_,m,n⟩;obtain⟨v,j,q⟩:=s.I;exact⟨v,by rw[e.block _ (uY j) aC];exact j,q.keptT (show Blk w b 3 d from G) aA e⟩
theorem TwoP.app{h base c:Nat}{d w':Wd}(t:TwoP g h d w)(o:Own w base A c xs)(e:d.heap.size<=base)(b:w.grownBy w' (A.map (·.block))):TwoP g h d w':=by
 cases A with
 |none=>exact t.trans (TwoP.of_below ⟨b.os,b.tape,b.output,b.size,fun k f=>b.block k f ay⟩)
 |some a=>exact t.grown b (.inl (dL e (o.lt a rfl).1))
theorem aqV(A:Oz)(c n:Nat)(xs:Lz)(w:Wd)(T:TabS w 2 dh)(hr:Rb w w.heap.size A xs)(hn:xs.length=n)(hc:n<=c)(hx:Byts xs):
 Cl 53 #[.slice A n c] w (Qw xs w):=by
 have hmf:∀(fn:Fn) (first cap:Array Value) (w:Wd),(Instr.makeFunc fn first cap).run Tryz.prog w=.ok (.func fn first cap) w:=fun _ _ _ _=>rfl;have hR:=nz (fn:=Tryz.f53) (p:=2) (q:=3) (ty:=81) rfl;have B0:=baqq w (.cells (agi Z25) 81);have R0:=IB.new w 81 Z25;obtain⟨V,hV⟩:=ak (w.alloc (.cells (agi Z25) 81));have SV:=aj (V.heap.size=w.heap.size+1) (Gt);rw[<-hV] at B0 R0;have RX:=af R0;have a:=af B0;have HR:=af (hr.below B0);have HX:=af hx;have HT0:=af T;have HV:=af hV;have HVL:=aj (w.alloc (.cells #[.int .i64 0,.int .i64 0,.int .i64 0,.int .i64 0,.int .i64 0,.int .i64 0,.int .i64 0,.int .i64 0,.int .i64 0,.int .i64 0,.int .i64 0,.int .i64 0,.int .i64 0,.int .i64 0,.int .i64 0,.int .i64 0,.int .i64 0,.int .i64 0,.int .i64 0,.int .i64 0,.int .i64 0,.int .i64 0,.int .i64 0,.int .i64 0,.int .i64 0] 81)=V) (hV.symm);clear B0 R0 hr hx T hV HV;by_cases h15:n≠15
 ·have HE:=aj (unE xs=1) (by unfold unE;rw[if_pos (by rw[hn];exact h15)])
  have d0:((n:Int) !=15)=true:=aC;have d1: ¬(n:Int)=15:=ah;go_enter Tryz.func53,Tryz.ntmps53;go_wp2_with(first
   |(rw[HVL.o];clear HVL)
   |(refine aQ 81 (.tmp 2) (.tmp 20) Z25 Z25 25 RX.o dF rfl rfl ?_))
  have HZ:=af (vJ (xs:=xs) wG);refine aX (v:=_) (hR _ _ _ 81 Z25 _ 25 rfl (IB.setRow RX.o Z25) gu rfl dF rfl) rfl ?_;exact⟨CU,aS a.o (ax _) _⟩
 ·obtain rfl:n=15:=ah
  have HN:=af hn;obtain⟨ad,rfl,had,c14⟩:=HR.o.at_ (k:=14) (by rw[hn];omega);have c14:V.cell? ⟨ad.block,ad.off+14,none⟩=some (.int .u8 (xs.getD 14 0)):=by rw[Addr.add_succ'] at c14;exact c14
  have RB:=aj (∀W,Bw V W->Rb W W.heap.size (some ad) (xs.take 14)) (fun W hb=>((HR.o.below (hb.mono (by have:=SV.o;omega))).more (by have:=hb.size;have:=SV.o;omega)).take (by rw[hn];omega));have KS:=af (adH (some ad) c 14 (xs.take 14) V.drew (RB.o V.drew (bY _)) (by rw[dR,hn];rfl) ah (HX.o.take 14));have hci:(14:Int)<=(c:Int):=ah;have i14:(14:Int)<15:=ah;have hEE:unE xs=if chk (xs.take 14)≠xs.getD 14 0 then 5 else if unV xs%32≠0 then 3 else if dD (uL (unV xs) 25) 25=false then 2 else if nT (uL (unV xs) 25)≠(unV xs/32%2:Nat) then 3 else 0:=by
   unfold unE;rw[if_neg (by rw[hn];simp)]
  clear hn h15;go_enter Tryz.func53,Tryz.ntmps53;go_wp2_with(rw[HVL.o];clear HVL);by_cases hck:chk (xs.take 14)=xs.getD 14 0
  ·rw[if_neg (by rw[hck];simp)] at hEE
   have HE:=af hEE;have d0:(chk (xs.take 14) !=xs.getD 14 0)=false:=(by rw[hck];simp);have d1:decide (chk (xs.take 14)=xs.getD 14 0)=true:=(by simpa using hck);clear hEE;generalize chk (xs.take 14)=D at*
   generalize xs.getD 14 0=x14 at*
   clear hck;go_region_held3 (fun w'=>w'.cell? ⟨ad.block,ad.off+14,none⟩=some (.int .u8 x14)) (go_keep) (first
    |(go_at_call 131;(with_reducible refine KS.o.mono ?_);rintro e' w' ⟨rfl,rfl⟩))
   rename_i hHeldZ;clear hHeldZ;try simp only[Exit.then]
   have hZb:=aqU (xs:=xs) 14 (ax _);have hVlt:=XT HX.o 14;obtain⟨W,hW⟩:=ak (V.drew);have SW:=aj (W.heap.size=w.heap.size+1) (by rw[hW];exact SV.o);have RW:=aj (IB W w.heap.size 81 Z25) (by rw[hW];exact RX.o);have BW:=aj (Bw w W) (by rw[hW];exact a.o.drew);have LV:=aj (Bw V W) (by rw[hW];exact(aP _ _).drew);rw[<-hW];clear hW c14 KS;have LA:=baqq W (.cells #[.bool false,.slice none 0 0] 144);have KB:=aj (Cl 133 #[.pointer (some ⟨W.heap.size,0,none⟩),.slice (some ad) 14 c] (W.alloc (.cells #[.bool false,.slice none 0 0] 144)) (jo (W.alloc (.cells #[.bool false,.slice none 0 0] 144)) W.heap.size ((unV xs:Nat):Int))) (by
    have h:=aqR (W.alloc (.cells #[.bool false,.slice none 0 0] 144)) W.heap.size (some ad) c (xs.take 14) (IntBlk.new W _ _) (RB.o _ (aH LV.o LA)) (by rw[dR,HN.o];rfl) (HX.o.take 14);rw[hZb] at h;exact h)
   have HVL:=aj (unV xs<2^112) (hVlt);have LA:=af LA;clear hZb hVlt;go_wp2_with(go_at_call 133;(with_reducible refine KB.o.mono ?_);rintro e w3 ⟨rfl,hI,hG⟩;have I3:=af hI;have X:=af (eP LA.o hG (ax _));have Z3:=aj (W.heap.size<w3.heap.size) (hI.lt);clear hI hG);obtain⟨W4,hW4⟩:=ak (w3.alloc (.cells #[.pointer (some ⟨W.heap.size,0,none⟩)] 140));have L4:Bw w3 W4:=aaJ;have P:=aj (Blk W4 w3.heap.size 140 #[.pointer (some ⟨W.heap.size,0,none⟩)]) (by rw[hW4];exact Blk.new w3 _ _);have I4:=af (I3.o.below L4 (ax _));have B4:=af (BW.o.trans ((aH X.o L4).mono BW.o.size));have R4:=af (Blk.below' RW.o (aH X.o L4));have T4:=af (HT0.o.below B4.o);rw[<-hW4];have KN:=aj (Cl 128 #[.agg #[.int .i64 0,.int .i64 0,.int .i64 0,.int .i64 0,.int .i64 0,.int .i64 0,.int .i64 0,.int .i64 0,.int .i64 0,.int .i64 0,.int .i64 0,.int .i64 0,.int .i64 0,.int .i64 0,.int .i64 0,.int .i64 0,.int .i64 0,.int .i64 0,.int .i64 0,.int .i64 0,.int .i64 0,.int .i64 0,.int .i64 0,.int .i64 0,.int .i64 0]] W4 (afH W4 Z25)) (Zf Z25 W4 T4.o aoM);clear L4 hW4 I3 X LA;go_wp2_with(go_at_call 128;(with_reducible refine KN.o.mono ?_);rintro e w5 ⟨A1,c1,A2,c2,A3,c3,rfl,h1,h2,h3,hB⟩;have O2:=af h2;have X5:=af (Blk.below' P.o hB);have I5:=af (I4.o.below hB (ax _));have R5:=af (Blk.below' R4.o hB);have B5:=af (aH B4.o hB);have m:=aj (w3.heap.size<w5.heap.size) (je (Blk.lt P.o) hB.size);have Y4:=af (Blk.lt P.o);clear h1 h2 h3 hB);obtain⟨g2,r,z,rfl,hg2,hg3,hrest⟩:=O2.o.form (by rw[Jb];omega);clear hrest;obtain⟨W6,hW6⟩:=ak (w5.alloc (.cells #[.int .i64 112] 3));have L6:Bw w5 W6:=(by rw[hW6];exact baqq _ _);have f:=af (show W6.heap.size=w5.heap.size+1 by rw[hW6];simp);have S6:=af (show Tst w5.heap.size w3.heap.size W.heap.size 112 (unV xs) W6 from⟨by rw[hW6];exact Blk.new w5 _ _,Blk.below' X5.o L6,I5.o.below L6 (ax _),Z3.o,m.o⟩);have R6:=af (Blk.below' R5.o L6);have u:=af (aH B5.o L6);have O6:=af (O2.o.below L6);have HG2:=af (show w3.heap.size<g2/\g2<w5.heap.size from⟨by have:=Y4.o;omega,hg3⟩);have M:=af hW6.symm;clear L6 hW6 X5 I5 R5 B5 O2 P I4 R4 T4 hg2 hg3;go_wp2_with(rw[M.o];clear M);have S6:=aj (Tst w5.heap.size w3.heap.size W.heap.size (112-pkA 0) (unV xs%2^(112-pkA 0)) W6) (by
    have e:unV xs%2^(112-pkA 0)=unV xs:=zg HVL.o;rw[e];exact S6.o)
   go_loopw[10,42] (fun lv iv wr=> ∃(i:Nat) (A:Oz) (c:Nat),i<=25/\iv=.int .i64 i/\lv=.slice A i c/\Hy (Own wr W6.heap.size A c ((uL (unV xs) 25).take i))/\Hy (Tst w5.heap.size w3.heap.size W.heap.size (112-pkA i) (unV xs%2^(112-pkA i)) wr)/\Hy (TwoP w5.heap.size W.heap.size W6 wr)) (fun _ iv _=>25-(intOf iv).toNat)
   case atStart=>exact⟨0,none,0,ah,rfl,rfl,af Own.nil,S6,af (TwoP.refl _ _ _)⟩
   case round=>
    clear S6;obtain⟨i,Al,cl,hi,rfl,rfl,Q,C,HT⟩:=hrel;by_cases hlt:i<25
    ·have k1:=HT.o.cell (O6.o.cell i (by rw[Jb];exact hlt)) (show g2≠w5.heap.size by have:=HG2.o;omega) (show g2≠W.heap.size by have:=HG2.o;have:=Z3.o;omega)
     obtain⟨hn1,hn2,_⟩:=DT hlt;have ha:=Je (n:=i+1) ah;have SY:=aj (pkA (i+1)=pkA i+pkN i) (rfl);have SU:=af (aqT (unV xs) hlt);have SF:=aj (uF (unV xs) i=gt (unV xs) (pkA i) (pkN i)) (rfl);rw[SY.o] at ha;rw[hn2] at k1;have gl:=Jg (unV xs) (pkA i) (pkN i);have gl6:gt (unV xs) (pkA i) (pkN i)<64:=je gl (show 2^pkN i<=2^6 from jK aA hn1);have hdv:=agM (unV xs) (pkA i) (pkN i) ah;have hmm:=agL (unV xs) (112-pkA i) (pkN i);have hXl:unV xs%2^(112-pkA i)<2^112:=Kw (Nat.mod_le _ _) HVL.o;have KT:=agG w5.heap.size w3.heap.size W.heap.size (112-pkA i) (unV xs%2^(112-pkA i)) (pkN i) wr C.o ah ah hXl (by rw[hdv];exact gl6);rw[hdv,hmm,show 112-pkA i-pkN i=112-pkA (i+1) by rw[SY.o];omega] at KT;have KT:=af KT;have HLn:=af (show((uL (unV xs) 25).take i).length=i by rw[dR,iQ];omega);rw[SF.o] at SU;generalize gt (unV xs) (pkA i) (pkN i)=y at*
     generalize pkN i=n at*
     have i0:(0:Int)<=i:=ah;have i25:(i:Int)<25:=ah;clear hn2 hdv hmm hXl gl gl6;go_wp2_with(first
      |(go_at_call 134;(with_reducible refine KT.o.mono ?_);rintro e' w7 ⟨rfl,hS,hT⟩;have S7:=af hS;have T7:=af (HT.o.trans hT);have O7:=af (Q.o.two hT (by have:=f.o;omega) (by have:=f.o;have:=m.o;have:=Z3.o;omega));clear hS hT)
      |(at_builtin;refine wR rfl (.tmp 46) (.tmp 50) rfl W6.heap.size Al cl i ((uL (unV xs) 25).take i) rfl HLn.o (O7.o.alloc _) ⟨w7.heap.size,0,none⟩ (y:Nat) rfl (oH w7 _ _) ah (by have:=T7.o.size;rw[bT];omega) ?_;intro A8 c8 w8 hO hG hA;rw[SU.o] at hO;have S8:=af ((S7.o.below (baqq _ _)).app (O7.o.alloc _) (by have:=f.o;omega) hG);have T8:=af ((T7.o.trans (TwoP.of_below (baqq _ _))).app (O7.o.alloc _) (ax _) hG);have O8:=af hO;clear hO hG hA))
     go_roundw;case rel=>exact⟨i+1,A8,c8,ah,aT,rfl,O8,S8,T8⟩
     case measure=>exact aW
    obtain rfl:i=25:=ah;try rw[show((25:Nat):Int)=25 from rfl]
    rw[yI] at C;have hX6:unV xs%2^(112-106)<2^112:=Kw (Nat.mod_le _ _) HVL.o;have hdv:=agM (unV xs) 106 1 ah;have hmm:=agL (unV xs) (112-106) 1;have gl1:=Jg (unV xs) 106 1;have KT:=aj (Cl 134 #[.int .i64 1,.pointer (some ⟨w5.heap.size,0,none⟩),.pointer (some ⟨w3.heap.size,0,none⟩)] wr (fun e w'=>e=.returned (.int .i64 (unV xs/32%2:Nat))/\Tst w5.heap.size w3.heap.size W.heap.size 5 (unV xs%32) w'/\TwoP w5.heap.size W.heap.size wr w')) (by
     have h:=agG w5.heap.size w3.heap.size W.heap.size (112-106) (unV xs%2^(112-106)) 1 wr C.o ah ah hX6 (by rw[hdv];omega);rw[hdv,hmm,adP] at h;exact h)
    have hT25:(uL (unV xs) 25).take 25=uL (unV xs) 25:=kU (by rw[iQ];exact ax _);rw[hT25] at Q;clear hX6 hdv hmm gl1 hT25;generalize unV xs/32%2=pq at*
    go_wp2_with(go_at_call 134;(with_reducible refine KT.o.mono ?_);rintro e' w7 ⟨rfl,hS,hT⟩;have S7:=af hS;have T7:=af (HT.o.trans hT);have O7:=af (Q.o.two hT (by have:=f.o;omega) (by have:=f.o;have:=m.o;have:=Z3.o;omega));have c7:w7.cell? ⟨w3.heap.size,0,none⟩=some (.pointer (some ⟨W.heap.size,0,none⟩)):=Blk.cell hS.x 0;have KSG:=af (aj0 w7 W.heap.size ((unV xs%32:Nat):Int) hS.I);clear hS hT);have R7:=af (T7.o.blk R6.o (by have:=m.o;have:=Z3.o;have:=SW.o;omega) xY);have K:=af (u.o.trans (T7.o.below (B:=w.heap.size) u.o.size (by have:=m.o;have:=Z3.o;have:=SW.o;omega) xY));clear Q C HT KT O6;by_cases h0:unV xs%32=0
    ·have KSG:=aj (Cl 136 #[.pointer (some ⟨W.heap.size,0,none⟩)] w7 (fun e w'=>e=.returned (.int .i64 0)/\w7=w')) (by
      have h:=KSG.o;rw[h0] at h;exact h)
     have HE1:=HE.o;rw[if_neg (by rw[h0];simp)] at HE1;have HEE:=af HE1;clear HE1 h0;obtain⟨t0,t1,t2,t3,t4,b,t6,t7,t8,t9,H,J,N,O,R,U,Y,t17,t18,t19,t20,t21,t22,t23,t24,hL⟩:=afG (iQ (unV xs) 25);have d:=af hL;rw[hL] at O7;clear hL;obtain⟨F,cap3,cur3,rfl,hg3b,hg3l,hr3⟩:=O7.o.form ay;clear hr3;have k0:w7.cell? ⟨F,0,none⟩=some (.int .i64 t0):=O7.o.cell 0 ay;have hcl:=O7.o.cap.1;simp only[xR,aaf] at hcl;obtain⟨W8,hW8⟩:=ak ((w7.alloc (.cells (agi Z25) 81)).setRow w7.heap.size (agi [t0,0,0,0,0,0,0,0,0,0,0,0,0,0,0,0,0,0,0,0,0,0,0,0,0]));have L8:Bw w7 W8:=(by rw[hW8];exact dI w7 (.cells (agi Z25) 81) _);have P8:=aj (IB W8 w7.heap.size 81 [t0,0,0,0,0,0,0,0,0,0,0,0,0,0,0,0,0,0,0,0,0,0,0,0,0]) (by rw[hW8];exact IB.stored w7 81 Z25 [t0,0,0,0,0,0,0,0,0,0,0,0,0,0,0,0,0,0,0,0,0,0,0,0,0]);have R8:=af (Blk.below' R7.o L8);have g:=af (aH K.o L8);have O8:=af (O7.o.below L8);have G8:=aj (F<w7.heap.size) (hg3l);have HW8:=af hW8.symm;clear L8 hW8;go_wp2_with(first
      |(go_at_call 136;(with_reducible refine KSG.o.mono ?_);rintro e' w' ⟨rfl,rfl⟩)
      |(refine aQ 81 (.tmp 14) (.tmp 62) Z25 [t0,0,0,0,0,0,0,0,0,0,0,0,0,0,0,0,0,0,0,0,0,0,0,0,0] 25 (IB.new w7 81 Z25) dF rfl rfl ?_;rw[show(w7.alloc (.cells #[.int .i64 0,.int .i64 0,.int .i64 0,.int .i64 0,.int .i64 0,.int .i64 0,.int .i64 0,.int .i64 0,.int .i64 0,.int .i64 0,.int .i64 0,.int .i64 0,.int .i64 0,.int .i64 0,.int .i64 0,.int .i64 0,.int .i64 0,.int .i64 0,.int .i64 0,.int .i64 0,.int .i64 0,.int .i64 0,.int .i64 0,.int .i64 0,.int .i64 0] 81)).setRow w7.heap.size (agi [t0,0,0,0,0,0,0,0,0,0,0,0,0,0,0,0,0,0,0,0,0,0,0,0,0])=W8 from HW8.o];clear HW8))
     clear k0;obtain⟨l,hgp⟩:=ak (w7.heap.size);have t:=aj (W6.heap.size<=w7.heap.size) (T7.o.size);rw[<-hgp] at P8 G8 t|-;clear hgp;have hc1: ¬cl=1:=ah;have hc2:(9:Int)<=(cl:Int):=ah;have q8:=aj (∀j,j<8->W8.drew.cell? ((⟨F,1,none⟩:Addr).add j)=some (.int .i64 ([t1,t2,t3,t4,b,t6,t7,t8].getD j 0))) (fun j hj=>by
      rw[Addr.add_lit];have e:=O8.o.cell (1+j) aC;have:j=0\/j=1\/j=2\/j=3\/j=4\/j=5\/j=6\/j=7:=ah;rcases this with rfl|rfl|rfl|rfl|rfl|rfl|rfl|rfl<;>exact e)
     go_region_held3 (fun _=>True) (trivial) (first
      |(refine WQ rfl (.tmp 64) (.tmp 66) 26 26 rfl qH l 1 8 8 ⟨F,1,none⟩ 8 (cl-1) rfl rfl 81 [t0,0,0,0,0,0,0,0,0,0,0,0,0,0,0,0,0,0,0,0,0,0,0,0,0] [t1,t2,t3,t4,b,t6,t7,t8] [t0,t1,t2,t3,t4,b,t6,t7,t8,0,0,0,0,0,0,0,0,0,0,0,0,0,0,0,0] (Blk.drew P8.o) rfl (fun j hj=>q8.o j hj) ay rfl ?_))
     rename_i hHeldZ;clear hHeldZ q8;try simp only[Exit.then]
     rw[show goInt ((([t1,t2,t3,t4,b,t6,t7,t8]:Lz).length:Nat):Int)=Value.int .i64 8 from rfl];have nG:F≠l:=(by have:=G8.o;omega);have hgpl:w.heap.size<=l:=aaG;have nR:w.heap.size≠l:=aaG;have C9:=aj (∀j,j<25->(W8.drew.setRow l (agi [t0,t1,t2,t3,t4,b,t6,t7,t8,0,0,0,0,0,0,0,0,0,0,0,0,0,0,0,0])).cell? ⟨F,j,none⟩=some (.int .i64 ([t0,t1,t2,t3,t4,b,t6,t7,t8,t9,H,J,N,O,R,U,Y,t17,t18,t19,t20,t21,t22,t23,t24].getD j 0))) (fun j hj=>by
      have e:=O8.o.cell j (by simpa using hj);unfold World.cell? at*
      rw[oz _ _ _ _ nG];exact e)
     have P9:=af (IB.setRow (Blk.drew P8.o) [t0,t1,t2,t3,t4,b,t6,t7,t8,0,0,0,0,0,0,0,0,0,0,0,0,0,0,0,0]);have R9:=af (Blk.rowFar (c2:=agi [t0,t1,t2,t3,t4,b,t6,t7,t8,0,0,0,0,0,0,0,0,0,0,0,0,0,0,0,0]) (Blk.drew R8.o) nR);have S:=af (aS g.o.drew (show w.heap.size<=l from aaG) (agi [t0,t1,t2,t3,t4,b,t6,t7,t8,0,0,0,0,0,0,0,0,0,0,0,0,0,0,0,0]));obtain⟨W9,hW9⟩:=ak (W8.drew.setRow l (agi [t0,t1,t2,t3,t4,b,t6,t7,t8,0,0,0,0,0,0,0,0,0,0,0,0,0,0,0,0]));rw[<-hW9] at C9 P9 R9 S|-;clear hW9 P8 R8 g O8;obtain⟨pl,hpl⟩:=ak (fun s=>if s=0 then[t0,t1,t2,t3,t4,b,t6,t7,t8,0,0,0,0,0,0,0,0,0,0,0,0,0,0,0,0] else if s=1 then[t0,t1,t2,t3,t4,b,t6,t7,t8,t9,H,J,N,O,R,U,Y,0,0,0,0,0,0,0,0] else[t0,t1,t2,t3,t4,b,t6,t7,t8,t9,H,J,N,O,R,U,Y,t17,t18,t19,t20,t21,t22,t23,t24]:Nat->Lz);have HPL:=af hpl;have P9:=aj (IB W9 l 81 (pl 0)) (by rw[hpl];exact P9.o);clear hpl;go_wp2;go_loopw[15] (fun iv wr=> ∃s:Nat,s<=2/\iv=.int .i64 s/\Hy (IB wr l 81 (pl s))/\Hy (IB wr w.heap.size 81 Z25)/\Hy (∀j,j<25->wr.cell? ⟨F,j,none⟩=some (.int .i64 ([t0,t1,t2,t3,t4,b,t6,t7,t8,t9,H,J,N,O,R,U,Y,t17,t18,t19,t20,t21,t22,t23,t24].getD j 0)))/\Hy (Bw w wr)) (fun iv _=>2-(intOf iv).toNat)
     case atStart=>exact⟨0,ah,rfl,P9,R9,C9,S⟩
     case round=>
      clear P9 R9 C9 S;obtain⟨s,Z,rfl,HP,HRR,L,HBB⟩:=hrel;by_cases hlt:s<2
      ·obtain rfl|rfl:s=0\/s=1:=ah
       ·try rw[show((0:Nat):Int)=0 from rfl]
        have E:=HP.o;rw[HPL.o] at E;have E:IB wr l 81 [t0,t1,t2,t3,t4,b,t6,t7,t8,0,0,0,0,0,0,0,0,0,0,0,0,0,0,0,0]:=E;have k9:wr.cell? ⟨F,9,none⟩=some (.int .i64 t9):=L.o 9 ah;have k10:wr.cell? ⟨F,10,none⟩=some (.int .i64 H):=L.o 10 ah;have k11:wr.cell? ⟨F,11,none⟩=some (.int .i64 J):=L.o 11 ah;have k12:wr.cell? ⟨F,12,none⟩=some (.int .i64 N):=L.o 12 ah;have k13:wr.cell? ⟨F,13,none⟩=some (.int .i64 O):=L.o 13 ah;have k14:wr.cell? ⟨F,14,none⟩=some (.int .i64 R):=L.o 14 ah;have k15:wr.cell? ⟨F,15,none⟩=some (.int .i64 U):=L.o 15 ah;have k16:wr.cell? ⟨F,16,none⟩=some (.int .i64 Y):=L.o 16 ah;have z9:wr.cell? ⟨l,9,none⟩=some (.int .i64 0):=IB.cell E 9 ay;have f9:wr.frozen? ⟨l,9,none⟩=false:=Blk.frozen E 9;have z10:wr.cell? ⟨l,10,none⟩=some (.int .i64 0):=IB.cell E 10 ay;have f10:wr.frozen? ⟨l,10,none⟩=false:=Blk.frozen E 10;have z11:wr.cell? ⟨l,11,none⟩=some (.int .i64 0):=IB.cell E 11 ay;have f11:wr.frozen? ⟨l,11,none⟩=false:=Blk.frozen E 11;have z12:wr.cell? ⟨l,12,none⟩=some (.int .i64 0):=IB.cell E 12 ay;have f12:wr.frozen? ⟨l,12,none⟩=false:=Blk.frozen E 12;have z13:wr.cell? ⟨l,13,none⟩=some (.int .i64 0):=IB.cell E 13 ay;have f13:wr.frozen? ⟨l,13,none⟩=false:=Blk.frozen E 13;have z14:wr.cell? ⟨l,14,none⟩=some (.int .i64 0):=IB.cell E 14 ay;have f14:wr.frozen? ⟨l,14,none⟩=false:=Blk.frozen E 14;have z15:wr.cell? ⟨l,15,none⟩=some (.int .i64 0):=IB.cell E 15 ay;have f15:wr.frozen? ⟨l,15,none⟩=false:=Blk.frozen E 15;have z16:wr.cell? ⟨l,16,none⟩=some (.int .i64 0):=IB.cell E 16 ay;have f16:wr.frozen? ⟨l,16,none⟩=false:=Blk.frozen E 16;have hc9: ¬cl=9:=ah;have nG2: ¬l=F:=fun h=>nG h.symm;have PN:=agH E 9 10 11 12 13 14 15 16 t9 H J N O R U Y;rw[show(((((((([t0,t1,t2,t3,t4,b,t6,t7,t8,0,0,0,0,0,0,0,0,0,0,0,0,0,0,0,0].set 9 t9).set 10 H).set 11 J).set 12 N).set 13 O).set 14 R).set 15 U).set 16 Y)=[t0,t1,t2,t3,t4,b,t6,t7,t8,t9,H,J,N,O,R,U,Y,0,0,0,0,0,0,0,0] from rfl] at PN;have PN:=af PN;have RN:=af (agI HRR.o nR 9 10 11 12 13 14 15 16 t9 H J N O R U Y);have CN:=af (fun j (hj:j<25)=>(agJ wr (j:=j) nG 9 10 11 12 13 14 15 16 t9 H J N O R U Y).trans (L.o j hj));have BN:=af (agK HBB.o hgpl 9 10 11 12 13 14 15 16 t9 H J N O R U Y);have PN:=aj (IB ((((((((wr.setCell ⟨l,9,none⟩ (.int .i64 t9)).setCell ⟨l,10,none⟩ (.int .i64 H)).setCell ⟨l,11,none⟩ (.int .i64 J)).setCell ⟨l,12,none⟩ (.int .i64 N)).setCell ⟨l,13,none⟩ (.int .i64 O)).setCell ⟨l,14,none⟩ (.int .i64 R)).setCell ⟨l,15,none⟩ (.int .i64 U)).setCell ⟨l,16,none⟩ (.int .i64 Y)).drew l 81 (pl 1)) (by rw[HPL.o];exact PN.o);clear E HE KSG RB HX HN HVL O7 S7 T7 R7 K d L HBB HRR HP;go_wp2;go_region_held3 (fun w'=>w'.cell? ⟨F,9,none⟩=some (.int .i64 t9)/\w'.cell? ⟨F,10,none⟩=some (.int .i64 H)/\w'.cell? ⟨F,11,none⟩=some (.int .i64 J)/\w'.cell? ⟨F,12,none⟩=some (.int .i64 N)/\w'.cell? ⟨F,13,none⟩=some (.int .i64 O)/\w'.cell? ⟨F,14,none⟩=some (.int .i64 R)/\w'.cell? ⟨F,15,none⟩=some (.int .i64 U)/\w'.cell? ⟨F,16,none⟩=some (.int .i64 Y)) (go_keep) (first
         |fail)
        rename_i hHeldZ;clear hHeldZ k9 z9 f9 k10 z10 f10 k11 z11 f11 k12 z12 f12 k13 z13 f13 k14 z14 f14 k15 z15 f15 k16 z16 f16;try simp only[Exit.then]
        go_wp2;go_roundw;case rel=>exact⟨1,ah,rfl,PN,RN,CN,BN⟩
        case measure=>exact aW
       try rw[show((1:Nat):Int)=1 from rfl]
       have E:=HP.o;rw[HPL.o] at E;have E:IB wr l 81 [t0,t1,t2,t3,t4,b,t6,t7,t8,t9,H,J,N,O,R,U,Y,0,0,0,0,0,0,0,0]:=E;have k17:wr.cell? ⟨F,17,none⟩=some (.int .i64 t17):=L.o 17 ah;have k18:wr.cell? ⟨F,18,none⟩=some (.int .i64 t18):=L.o 18 ah;have k19:wr.cell? ⟨F,19,none⟩=some (.int .i64 t19):=L.o 19 ah;have k20:wr.cell? ⟨F,20,none⟩=some (.int .i64 t20):=L.o 20 ah;have k21:wr.cell? ⟨F,21,none⟩=some (.int .i64 t21):=L.o 21 ah;have k22:wr.cell? ⟨F,22,none⟩=some (.int .i64 t22):=L.o 22 ah;have k23:wr.cell? ⟨F,23,none⟩=some (.int .i64 t23):=L.o 23 ah;have k24:wr.cell? ⟨F,24,none⟩=some (.int .i64 t24):=L.o 24 ah;have z17:wr.cell? ⟨l,17,none⟩=some (.int .i64 0):=IB.cell E 17 ay;have f17:wr.frozen? ⟨l,17,none⟩=false:=Blk.frozen E 17;have z18:wr.cell? ⟨l,18,none⟩=some (.int .i64 0):=IB.cell E 18 ay;have f18:wr.frozen? ⟨l,18,none⟩=false:=Blk.frozen E 18;have z19:wr.cell? ⟨l,19,none⟩=some (.int .i64 0):=IB.cell E 19 ay;have f19:wr.frozen? ⟨l,19,none⟩=false:=Blk.frozen E 19;have z20:wr.cell? ⟨l,20,none⟩=some (.int .i64 0):=IB.cell E 20 ay;have f20:wr.frozen? ⟨l,20,none⟩=false:=Blk.frozen E 20;have z21:wr.cell? ⟨l,21,none⟩=some (.int .i64 0):=IB.cell E 21 ay;have f21:wr.frozen? ⟨l,21,none⟩=false:=Blk.frozen E 21;have z22:wr.cell? ⟨l,22,none⟩=some (.int .i64 0):=IB.cell E 22 ay;have f22:wr.frozen? ⟨l,22,none⟩=false:=Blk.frozen E 22;have z23:wr.cell? ⟨l,23,none⟩=some (.int .i64 0):=IB.cell E 23 ay;have f23:wr.frozen? ⟨l,23,none⟩=false:=Blk.frozen E 23;have z24:wr.cell? ⟨l,24,none⟩=some (.int .i64 0):=IB.cell E 24 ay;have f24:wr.frozen? ⟨l,24,none⟩=false:=Blk.frozen E 24;have hc9: ¬cl=17:=ah;have nG2: ¬l=F:=fun h=>nG h.symm;have PN:=agH E 17 18 19 20 21 22 23 24 t17 t18 t19 t20 t21 t22 t23 t24;rw[show(((((((([t0,t1,t2,t3,t4,b,t6,t7,t8,t9,H,J,N,O,R,U,Y,0,0,0,0,0,0,0,0].set 17 t17).set 18 t18).set 19 t19).set 20 t20).set 21 t21).set 22 t22).set 23 t23).set 24 t24)=[t0,t1,t2,t3,t4,b,t6,t7,t8,t9,H,J,N,O,R,U,Y,t17,t18,t19,t20,t21,t22,t23,t24] from rfl] at PN;have PN:=af PN;have RN:=af (agI HRR.o nR 17 18 19 20 21 22 23 24 t17 t18 t19 t20 t21 t22 t23 t24);have CN:=af (fun j (hj:j<25)=>(agJ wr (j:=j) nG 17 18 19 20 21 22 23 24 t17 t18 t19 t20 t21 t22 t23 t24).trans (L.o j hj));have BN:=af (agK HBB.o hgpl 17 18 19 20 21 22 23 24 t17 t18 t19 t20 t21 t22 t23 t24);have PN:=aj (IB ((((((((wr.setCell ⟨l,17,none⟩ (.int .i64 t17)).setCell ⟨l,18,none⟩ (.int .i64 t18)).setCell ⟨l,19,none⟩ (.int .i64 t19)).setCell ⟨l,20,none⟩ (.int .i64 t20)).setCell ⟨l,21,none⟩ (.int .i64 t21)).setCell ⟨l,22,none⟩ (.int .i64 t22)).setCell ⟨l,23,none⟩ (.int .i64 t23)).setCell ⟨l,24,none⟩ (.int .i64 t24)).drew l 81 (pl 2)) (by rw[HPL.o];exact PN.o);clear E HE KSG RB HX HN HVL O7 S7 T7 R7 K d L HBB HRR HP;go_wp2;go_region_held3 (fun w'=>w'.cell? ⟨F,17,none⟩=some (.int .i64 t17)/\w'.cell? ⟨F,18,none⟩=some (.int .i64 t18)/\w'.cell? ⟨F,19,none⟩=some (.int .i64 t19)/\w'.cell? ⟨F,20,none⟩=some (.int .i64 t20)/\w'.cell? ⟨F,21,none⟩=some (.int .i64 t21)/\w'.cell? ⟨F,22,none⟩=some (.int .i64 t22)/\w'.cell? ⟨F,23,none⟩=some (.int .i64 t23)/\w'.cell? ⟨F,24,none⟩=some (.int .i64 t24)) (go_keep) (first
        |fail)
       rename_i hHeldZ;clear hHeldZ k17 z17 f17 k18 z18 f18 k19 z19 f19 k20 z20 f20 k21 z21 f21 k22 z22 f22 k23 z23 f23 k24 z24 f24;try simp only[Exit.then]
       go_wp2;go_roundw;case rel=>exact⟨2,ah,rfl,PN,RN,CN,BN⟩
       case measure=>exact aW
      obtain rfl:s=2:=ah;have PF:=aj (IB wr l 81 (uL (unV xs) 25)) (by rw[d.o];have h:=HP.o;rw[HPL.o] at h;exact h);have TF:=HT0.o.below HBB.o;have KG:=afI (uL (unV xs) 25) wr TF (iQ _ _);have KPP:=af (fun W=>adE (uL (unV xs) 25) W (iQ _ _) (adO _ _));have HE1:=HEE.o;clear HP L HPL d KSG RB O7 S7 T7 R7 K TF;by_cases G:dD (uL (unV xs) 25) 25=true
      ·rw[G] at KG
       rw[if_neg (by rw[G];simp)] at HE1;have KG:=af KG;by_cases hp:nT (uL (unV xs) 25)=(pq:Nat)
       ·have HEA:=aj (unE xs=0) (by rw[HE1,if_neg (by rw[hp];simp)])
        have HZA:=aj (unL xs=uL (unV xs) 25) (by unfold unL;rw[if_pos HEA.o]);rw[hp] at KPP;clear HE1 HEE HE G hp;go_wp2_with(first
         |(refine aK 81 (.tmp 14) (uL (unV xs) 25) 25 PF.o gu dF (iQ _ _) ?_)
         |(go_at_call 127;(with_reducible refine KG.o.mono ?_);rintro e' w8 ⟨rfl,hB⟩;have P8:=af (Blk.below' PF.o hB);have R8:=af (Blk.below' HRR.o hB);have g:=af (aH HBB.o hB);clear hB)
         |(refine aK 81 (.tmp 14) (uL (unV xs) 25) 25 P8.o gu dF (iQ _ _) ?_)
         |(go_at_call 129;(with_reducible refine(KPP.o w8).mono ?_);rintro e' w9 ⟨rfl,hB⟩;have P9:=af (Blk.below' P8.o hB);have R9:=af (Blk.below' R8.o hB);have S:=af (aH g.o hB);clear hB)
         |(refine aK 81 (.tmp 14) (uL (unV xs) 25) 25 P9.o gu dF (iQ _ _) ?_)
         |(refine aQ 81 (.tmp 2) (.tmp 115) Z25 (uL (unV xs) 25) 25 R9.o dF rfl (iQ _ _) ?_))
        refine aX (v:=_) (hR _ _ _ 81 (uL (unV xs) 25) _ 25 rfl (IB.setRow R9.o (uL (unV xs) 25)) gu rfl dF (iQ _ _)) rfl ?_;exact⟨by rw[HEA.o,HZA.o];rfl,aS S.o (ax _) _⟩
       have HEA:=aj (unE xs=3) (by rw[HE1,if_pos hp]);have HZA:=af (vJ (xs:=xs) (by rw[HEA.o];decide));have hne:(((pq:Nat):Int) !=nT (uL (unV xs) 25))=true:=(by rw[qJ];exact fun h=>hp h.symm);have hne2: ¬((pq:Nat):Int)=nT (uL (unV xs) 25):=fun h=>hp h.symm;clear HE1 HEE HE;generalize nT (uL (unV xs) 25)=pr at*
       clear G hp;go_wp2_with(first
        |(refine aK 81 (.tmp 14) (uL (unV xs) 25) 25 PF.o gu dF (iQ _ _) ?_)
        |(go_at_call 127;(with_reducible refine KG.o.mono ?_);rintro e' w8 ⟨rfl,hB⟩;have P8:=af (Blk.below' PF.o hB);have R8:=af (Blk.below' HRR.o hB);have g:=af (aH HBB.o hB);clear hB)
        |(refine aK 81 (.tmp 14) (uL (unV xs) 25) 25 P8.o gu dF (iQ _ _) ?_)
        |(go_at_call 129;(with_reducible refine(KPP.o w8).mono ?_);rintro e' w9 ⟨rfl,hB⟩;have P9:=af (Blk.below' P8.o hB);have R9:=af (Blk.below' R8.o hB);have S:=af (aH g.o hB);clear hB)
        |(refine aQ 81 (.tmp 2) (.tmp 114) Z25 Z25 25 R9.o dF rfl rfl ?_))
       refine aX (v:=_) (hR _ _ _ 81 Z25 _ 25 rfl (IB.setRow R9.o Z25) gu rfl dF rfl) rfl ?_;exact⟨by rw[HEA.o,HZA.o];rfl,aS S.o (ax _) _⟩
      have hgf:dD (uL (unV xs) 25) 25=false:=Gs;rw[hgf] at KG;rw[if_pos hgf] at HE1;have KG:=af KG;have HEA:=af HE1;have HZA:=af (vJ (xs:=xs) (by rw[HEA.o];decide));clear HE1 HEE HE G hgf;go_wp2_with(first
       |(refine aK 81 (.tmp 14) (uL (unV xs) 25) 25 PF.o gu dF (iQ _ _) ?_)
       |(go_at_call 127;(with_reducible refine KG.o.mono ?_);rintro e' w8 ⟨rfl,hB⟩;have P8:=af (Blk.below' PF.o hB);have R8:=af (Blk.below' HRR.o hB);have g:=af (aH HBB.o hB);clear hB)
       |(refine aQ 81 (.tmp 2) (.tmp 109) Z25 Z25 25 R8.o dF rfl rfl ?_))
      refine aX (v:=_) (hR _ _ _ 81 Z25 _ 25 rfl (IB.setRow R8.o Z25) gu rfl dF rfl) rfl ?_;exact⟨by rw[HEA.o,HZA.o];rfl,aS g.o (ax _) _⟩
    have hs1:((unV xs%32:Nat):Int).sign=1:=Int.sign_eq_one_of_pos ah;rw[hs1] at KSG;have HE2:=aj (unE xs=3) (by rw[HE.o,if_pos h0]);have HZ2:=af (vJ (xs:=xs) (by rw[HE2.o];decide));clear h0 hs1;go_wp2_with(first
     |(go_at_call 136;(with_reducible refine KSG.o.mono ?_);rintro e' w' ⟨rfl,rfl⟩)
     |(refine aQ 81 (.tmp 2) (.tmp 58) Z25 Z25 25 R7.o dF rfl rfl ?_))
    refine aX (v:=_) (hR _ _ _ 81 Z25 _ 25 rfl (IB.setRow R7.o Z25) gu rfl dF rfl) rfl ?_;exact⟨by rw[HE2.o,HZ2.o];rfl,aS K.o (ax _) _⟩
  rw[if_pos hck] at hEE;have HE:=af hEE;have d0:(chk (xs.take 14) !=xs.getD 14 0)=true:=by rw[qJ];exact hck
  clear hEE;generalize chk (xs.take 14)=D at*
  generalize xs.getD 14 0=x14 at*
  go_region_held3 (fun w'=>w'.cell? ⟨ad.block,ad.off+14,none⟩=some (.int .u8 x14)) (go_keep) (first
   |(go_at_call 131;(with_reducible refine KS.o.mono ?_);rintro e' w' ⟨rfl,rfl⟩))
  rename_i hHeldZ;clear hHeldZ;try simp only[Exit.then]
  have RY:=aj (IB V.drew w.heap.size 81 Z25) (RX.o);have BY:=af a.o.drew;have HZ:=af (vJ (xs:=xs) wG);go_wp2_with(refine aQ 81 (.tmp 2) (.tmp 28) Z25 Z25 25 RY.o dF rfl rfl ?_);refine aX (v:=_) (hR _ _ _ 81 Z25 _ 25 rfl (IB.setRow RY.o Z25) gu rfl dF rfl) rfl ?_;exact⟨CU,aS BY.o (ax _) _⟩
