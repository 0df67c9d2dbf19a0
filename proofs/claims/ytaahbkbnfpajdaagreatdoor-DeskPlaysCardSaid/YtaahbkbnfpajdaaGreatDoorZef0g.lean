/- Lemmas. -/
import Derived.Test.YtaahbkbnfpajdaaGreatDoorZef0b
namespace Go.Proofs.YtaahbkbnfpajdaaGreatDoor
set_option linter.all false
set_option maxRecDepth 100000
set_option maxHeartbeats 8000000
open Go.RowKit
theorem MB.set_r{w:Wd}{g:Nat}{m:Mm}(h:MB w g m)(k:m.ok)(r:Lz)(b:r.length=8):MB (w.setCells g 0 (au r)) g {m with r:=r}:=by
 have a:Blk w g 55 ([]++(au m.r++(au m.p++(au m.e++m.tl)))).toArray:=h;exact qR (au r) (au m.r) [] _ w a (by rw[bf,bf,b,k.r])
theorem MB.thereR{w:Wd}{g:Nat}{m:Mm}(h:MB w g m)(k:m.ok):w.there g 0 8:=fun j a=>h.there k j ah
theorem afE(was now:Lz)(s:Nat)(w:Wd)(t:was.length=8)(u:now.length=8)(Z:s<2):
 Cl 30 #[.agg (agi was),.agg (agi now),.int .i64 (s:Nat)] w (fun e w'=>e=.returned (.agg (agi (frA was now s)))/\Bw w w'):=by
 have L:=Af (fn:=Tryz.f30) (p:=6) (ty:=73) rfl;have C:=IB.new w 52 was;have q:=IB.new (w.alloc (.cells (agi was) 52)) 52 now;have r:=IB.new ((w.alloc (.cells (agi was) 52)).alloc (.cells (agi now) 52)) 73 Z9;simp only[bT] at q r;have h:=(((aP _ _).alloc (ax w.heap.size) (.cells (agi was) 52)).alloc ay (.cells (agi now) 52)).alloc aC (.cells (agi Z9) 73);have M:=af (Blk.alloc (Blk.alloc C (.cells (agi now) 52)) (.cells (agi Z9) 73));have m:=af (Blk.alloc q (.cells (agi Z9) 73));have A:=af r;have h:=af h;have b:=af (fun W=>ak7 was now ((2+2*s:Nat):Int) W t u);have z:=af (Il was now ((2+2*s:Nat):Int));have j:=af (fun W=>adr (jO was now ((2+2*s:Nat):Int)) W (Il _ _ _));have a:=aj (frA was now s=jZ (jO was now ((2+2*s:Nat):Int))) (rfl);have i:=af (yB (jO was now ((2+2*s:Nat):Int)));have I:=af t;have H:=af u;have b:=b.o;unfold Ar at b;unfold tN at j;generalize bz (lH was now ((2+2*s:Nat):Int))=e1 at*
 generalize bz (dH (jO was now ((2+2*s:Nat):Int)))=S at*
 generalize frA was now s=fa at*
 generalize jO was now ((2+2*s:Nat):Int)=mx at*
 rw[show((2+2*s:Nat):Int)=2+2*(s:Int) by push_cast;rfl] at b;have b:=af b;have l:=a.o;subst l;have j:=af j.o;generalize jZ mx=d at*
 obtain⟨V,hV⟩:=ak (((w.alloc (.cells (agi was) 52)).alloc (.cells (agi now) 52)).alloc (.cells (agi Z9) 73));rw[<-hV] at M m A h;rw[jR] at hV;have x:=af hV.symm;clear hV C q r t u a;go_enter Tryz.func30,Tryz.ntmps30;go_wp2_with(first
  |(rw[x.o];clear x)
  |(refine aK 52 (.tmp 3) was 8 M.o aU aJ I.o ?_)
  |(refine aK 52 (.tmp 4) now 8 m.o aU aJ H.o ?_))
 refine(b.o V).mono ?_;rintro e f ⟨rfl,c⟩;have J:=af (Blk.below' A.o c);have D:=af (aH h.o c);clear c M m;go_wp2_with(first
  |(refine aQ 52 (.tmp 7) (.tmp 18) Z8 mx 8 (IB.new f 52 Z8) aJ rfl z.o ?_
    have BB:=dI f (.cells (agi Z8) 52) (agi mx)
    obtain⟨k,hV⟩:=ak ((f.alloc (.cells (agi Z8) 52)).setRow f.heap.size (agi mx))
    have K:=aj (IB k (w.heap.size+1+1) 73 Z9) (by rw[hV];exact Blk.below' J.o BB)
    have E:=aj (Bw w k) (by rw[hV];exact aH D.o BB)
    have y:=aj (IB k f.heap.size 52 mx) (by rw[hV];exact IB.stored f 52 Z8 mx)
    rw[dP] at hV
    rw[<-hV]
    clear hV BB)
  |(refine aK 52 (.tmp 7) mx 8 y.o aU aJ z.o ?_))
 refine(j.o k).mono ?_;rintro e g ⟨rfl,c⟩;have R3:=af (Blk.below' K.o c);have B3:=af (aH E.o c);clear c y;go_wp2_with(first
  |(refine aQ 73 (.tmp 9) (.tmp 23) Z9 d 9 (IB.new g 73 Z9) bC rfl i.o ?_
    have BB:=dI g (.cells (agi Z9) 73) (agi d)
    obtain⟨n,hV⟩:=ak ((g.alloc (.cells (agi Z9) 73)).setRow g.heap.size (agi d))
    have B:=aj (IB n (w.heap.size+1+1) 73 Z9) (aaT)
    have F:=aj (Bw w n) (aaL)
    have G:=aj (IB n g.heap.size 73 d) (by rw[hV];exact IB.stored g 73 Z9 d)
    rw[jR] at hV
    rw[<-hV]
    clear hV BB)
  |(refine aK 73 (.tmp 9) d 9 G.o bP bC i.o ?_)
  |(refine aQ 73 (.tmp 6) (.tmp 25) Z9 d 9 B.o bC rfl i.o ?_))
 refine aX (v:=_) (L _ _ _ 73 d _ 9 rfl (IB.setRow B.o d) bP rfl bC i.o) rfl ?_;exact⟨rfl,aS F.o ah _⟩
structure Fb(w wr:Wd)(m:Mm)(ps:Lz):Prop where
 A:MB wr w.heap.size m
 P:IB wr (w.heap.size+1) 81 ps
 R:MB wr (w.heap.size+2) aZ
 bel:Bw w wr
theorem Fb.start(w:Wd)(m:Mm)(ps:Lz):
 Fb w (((w.alloc (.cells m.ag 55)).alloc (.cells (agi ps) 81)).alloc (.cells Tryz.zeroCells55 55)) m ps:=by
 have c:=MB.new w m;have a:=IB.new (w.alloc (.cells m.ag 55)) 81 ps;have b:=oh ((w.alloc (.cells m.ag 55)).alloc (.cells (agi ps) 81));simp only[bT] at a b;exact⟨Blk.alloc (Blk.alloc c _) _,Blk.alloc a _,b,((((aP _ _).alloc (ax w.heap.size) (.cells m.ag 55)).alloc ay (.cells (agi ps) 81)).alloc aC (.cells Tryz.zeroCells55 55))⟩
section
variable {w wr w':Wd} {m mm:Mm} {ps:Lz}
theorem Fb.below(s:Fb w wr m ps)(a:Bw wr w'):Fb w w' m ps:=
 ⟨Blk.below' s.A a,Blk.below' s.P a,Blk.below' s.R a,aH s.bel a⟩
theorem Fb.lt(s:Fb w wr m ps):w.heap.size+3<=wr.heap.size:=Blk.lt s.R
theorem Fb.setA(s:Fb w wr m ps):Fb w (wr.setRow w.heap.size mm.ag) mm ps:=
 ⟨s.A.setRow mm,Blk.rowFar s.P ah,Blk.rowFar s.R ah,aS s.bel (ax _) _⟩
theorem Fb.setSi(s:Fb w wr m ps)(k:m.ok)(x:Bool):Fb w (wr.setCell ⟨w.heap.size,101,none⟩ (.bool x)) {m with si:=x} ps:=
 ⟨s.A.set_si k x,Blk.far s.P ay _,Blk.far s.R ay _,s.bel.setCell ay _⟩
theorem Fb.setEr(s:Fb w wr m ps)(k:m.ok)(x:Int):Fb w (wr.setCell ⟨w.heap.size,99,none⟩ (.int .i64 x)) {m with er:=x} ps:=
 ⟨s.A.set_er k x,Blk.far s.P ay _,Blk.far s.R ay _,s.bel.setCell ay _⟩
theorem Fb.setRf(s:Fb w wr m ps)(k:m.ok)(r:Lz)(a:r.length=8):Fb w (wr.setCells w.heap.size 0 (au r)) {m with r:=r} ps:=
 ⟨s.A.set_r k r a,cZ ah _ _ _ s.P,cZ ah _ _ _ s.R,iJ (ax _) _ _ _ s.bel⟩
end
structure Fc(w wr:Wd)(m:Mm)(ps:Lz)(gN gW:Nat)(now was:Lz):Prop where
 F:Fb w wr m ps
 N:IB wr gN 52 now
 W:IB wr gW 52 was
 l1:w.heap.size+3<=gN
 l2:gN<gW
section
variable {w wr w':Wd} {m mm:Mm} {ps now was:Lz} {gN gW:Nat}
theorem Fc.below(s:Fc w wr m ps gN gW now was)(a:Bw wr w'):Fc w w' m ps gN gW now was:=⟨s.F.below a,Blk.below' s.N a,Blk.below' s.W a,s.l1,s.l2⟩
theorem Fc.glt(s:Fc w wr m ps gN gW now was):gW<wr.heap.size:=Blk.lt s.W
theorem Fc.setA(s:Fc w wr m ps gN gW now was):Fc w (wr.setRow w.heap.size mm.ag) mm ps gN gW now was:=⟨s.F.setA,Blk.rowFar s.N MZ,Blk.rowFar s.W Uo,s.l1,s.l2⟩
theorem Fc.setSi(s:Fc w wr m ps gN gW now was)(k:m.ok)(x:Bool):Fc w (wr.setCell ⟨w.heap.size,101,none⟩ (.bool x)) {m with si:=x} ps gN gW now was:=
 ⟨s.F.setSi k x,Blk.far s.N (by have:=s.l1;show gN≠w.heap.size;omega) _,Blk.far s.W (by have:=s.l1;have:=s.l2;show gW≠w.heap.size;omega) _,s.l1,s.l2⟩
theorem Fc.grown{A:Oz}{c:Nat}{xs:Lz}(s:Fc w wr m ps gN gW now was)(b:Own wr (gW+1) A c xs)(a:wr.grownBy w' (A.map (·.block))):Fc w w' m ps gN gW now was:=by
 have d:=s.l1;have e:=s.l2;have f:=s.glt;exact⟨⟨Blk.grownA s.F.A a (b.ne_ ah),Blk.grownA s.F.P a (b.ne_ ah),Blk.grownA s.F.R a (b.ne_ ah),uX s.F.bel (b.more (base':=w.heap.size) ah) a ah⟩,Blk.grownA s.N a (b.ne_ ah),Blk.grownA s.W a (b.ne_ ah),s.l1,s.l2⟩
end
structure FrC(w W:Wd)(m:Mm)(ps:Lz)(gN gW:Nat)(now was:Lz)(gA:Nat)(a:Lz)(A:Oz)(c:Nat)(zs:Lz):Prop where
 C:Fc w W m ps gN gW now was
 F:IB W gA 73 a
 O:Own W (gW+1) A c zs
theorem rG:(Tryz.prog.info? 78).map (·.size)=some 8:=aB
theorem afF(m:Mm)(k:m.ok)(g:aO m=true)(ps:Lz)(w:Wd)(T1:TabA w 4 dY)(T2:TabA w 1 cO)(T3:TabA w 3 dh)(hp:dD ps 25=true)(hl:ps.length=25):
 Cl 34 #[.agg m.ag,.agg (agi ps)] w (pV w (frM m ps) (frO m ps)):=by
 have hR:=JD (fn:=Tryz.f34) (p:=4) (q:=5) rfl;have S0:=Fb.start w m ps;obtain⟨V,hV⟩:=ak ((((w.alloc (.cells m.ag 55)).alloc (.cells (agi ps) 81)).alloc (.cells Tryz.zeroCells55 55)));rw[<-hV] at S0;have HV:=af hV.symm;have S0:=af S0;obtain⟨f,hm0⟩:=ak (fr0 m ps);obtain⟨q,hq⟩:=ak (frQ ps);obtain⟨rp,hrp⟩:=ak (pK ps);obtain⟨now,hnow⟩:=ak (qE ps);obtain⟨m1,hm1⟩:=ak ({f with si:=q}:Mm);obtain⟨was,hwas⟩:=ak (f.r);have K0:=aj (f.ok) (by rw[hm0];exact Jj k ps);have G0:aO f=true:=by rw[hm0];exact Po g ps
 have K1:=aj (m1.ok) (by rw[hm1];exact⟨K0.o.r,K0.o.p,K0.o.e⟩);have G1:=aj (aO m1=true) (by rw[hm1];exact ad4 G0 q);have SW:dH was=true:=by rw[hwas,hm0];exact ad6 g ps
 have SN:dH now=true:=by rw[hnow];exact Ye hp
 have WL:=aj (was.length=8) (UC);have NL:=aj (now.length=8) (by rw[hnow];exact XU ps);have FM:=af (fun(z:Mm) (hz:z=frK q was now ps m1 2)=>show frM m ps={z with r:=now,er:=0} from by
  unfold frM frE;rw[hz,hm1,hwas,hm0,hq,hnow])
 have FO:=af (fun(Y:Lz) (hY:Y=frZ q was now ps m1 2)=>show frO m ps=Y from by
  unfold frO;rw[hY,hm1,hwas,hm0,hq,hnow])
 have KV:=af (fun W (h:Bw w W)=>show Cl 29 #[.agg (au rp).toArray] W (fun e w'=>e=.returned (.tuple #[.agg (agi now),.int .i64 0])/\Bw W w') from by
  have h1:=adm (pK ps) W (OV hl) (T3.below h);unfold vF at h1;rw[XV hp,Jh hp 8 (ax _),<-hnow,<-hrp] at h1;exact h1)
 have KF:=af (fun(s:Nat) (Z:s<2) W=>afE was now s W WL.o NL.o Z);have KK:=af (fun n (hn:n<=2)=>Pm (q:=q) (was:=was) (now:=now) K1.o hp hl n hn);have KG:=af (fun n (hn:n<=2)=>Pn (q:=q) (was:=was) (now:=now) G1.o hp hl n hn);have J:=af (fun s (Z:s<2)=>OY hp hl Z);have KA:=af (fun s (Z:s<2)=>OZ SW SN Z);have HRP:=af (fun W gg (h:IB W gg 81 ps)=>show W.rangeAt gg 1 (au rp) from by rw[hrp];exact h.mid 1 8 ah);have HL:=af hl;have TT1:=af T1;have TT2:=af T2;obtain⟨p0,hp0⟩:=ak (ps.getD 0 0);have hk:p0=0\/p0=1\/p0=2:=by
  exact ai7
 have c0:=S0.o.P.cell 0 (by rw[hl];omega);rw[<-hp0] at c0;have P0:=af hp0;have KM:=af k;have M0:=af hm0;have SI1:=aj (m1.si=q) (by rw[hm1]);have I:=af hm1;have HW:=af hwas;have HQ:=af hq;have HI8:=aj ((Tryz.prog.info? 52).map (·.size)=some (au rp).length) (by rw[bf,hrp,OV hl];exact aJ);have HI8':=aj ((Tryz.prog.info? 52).map (·.size)=some (au f.r).length) (by rw[bf,K0.o.r];exact aJ);have X:=aj ((Tryz.prog.info? 52).map (·.size)=some (agi now).size) (by rw[dX,NL.o];exact aJ);clear hV hrp hm0 hq hnow hm1 hwas k g hp hl hp0 T1 T2 T3 SW SN G0;have LO:=af (Jk m ps);generalize frO m ps=yf at*
 generalize frM m ps=mf at*
 rcases hk with rfl|rfl|rfl
 ·have e0:=aj (f=m) (Vs)
  have C:=aj (q=false) (FC);have e0:=e0.o;subst e0;have C:=C.o;subst C;clear M0 HQ;go_enter Tryz.func34,Tryz.ntmps34;go_wp2_with(first
   |(rw[HV.o];clear HV)
   |(refine bZ rfl 52 (.tmp 19) rfl _ _ rfl (au rp) _ (HRP.o _ _ S0.o.P) aU rfl HI8.o ?_))
  with_reducible refine(KV.o V S0.o.bel).mono ?_
  rintro e w1 ⟨rfl,hB⟩;have S1:=af (S0.o.below hB);clear hB S0 KV c0;have B:=af S1.o.lt;go_wp2_with(first
   |(refine aQ 52 (.tmp 7) (.tmp 22) Z8 now 8 (IB.new w1 52 Z8) aJ rfl NL.o ?_
     have BB:=dI w1 (.cells (agi Z8) 52) (agi now)
     obtain⟨l,hV⟩:=ak ((w1.alloc (.cells (agi Z8) 52)).setRow w1.heap.size (agi now))
     have S2:=aj (Fb w l f ps) (aa1)
     have N2:=aj (IB l w1.heap.size 52 now) (aaO)
     have Z2:=aj (w1.heap.size<l.heap.size) (Blk.lt N2.o)
     rw[dP] at hV
     rw[<-hV]
     clear hV BB)
   |(refine bZ rfl 52 (.tmp 24) rfl _ _ rfl (au f.r) _ (S2.o.A.R K0.o) aU rfl HI8'.o ?_;rw[show(au f.r).toArray=agi was from by rw[HW.o];rfl])
   |(refine aQ 52 (.tmp 9) (.tmp 25) Z8 was 8 (IB.new l 52 Z8) aJ rfl WL.o ?_
     have BB:=dI l (.cells (agi Z8) 52) (agi was)
     obtain⟨V3,hV⟩:=ak ((l.alloc (.cells (agi Z8) 52)).setRow l.heap.size (agi was))
     have S3:=aj (Fc w V3 f ps w1.heap.size l.heap.size now was) (by rw[hV];exact⟨S2.o.below BB,Blk.below' N2.o BB,IB.stored l 52 Z8 was,by have:=B.o;omega,by have:=Z2.o;omega⟩)
     have c3:=S3.o.F.P.cell 0 qi
     rw[<-P0.o] at c3
     have d3:=S3.o.F.A.csi K0.o
     have f3:=MB.frozen S3.o.F.A 101
     have S4:=aj (Fc w (V3.setCell ⟨w.heap.size,101,none⟩ (.bool false)) m1 ps w1.heap.size l.heap.size now was) (by rw[I.o];exact S3.o.setSi K0.o false)
     rw[dP] at hV
     rw[<-hV]
     clear hV BB))
  obtain⟨V4,O⟩:=ak (V3.setCell ⟨w.heap.size,101,none⟩ (.bool false));obtain⟨gN,hgN⟩:=ak (w1.heap.size);obtain⟨gW,U⟩:=ak (l.heap.size);rw[<-O,<-hgN,<-U] at S4;rw[<-O,<-hgN,<-U];clear O hgN U c3 d3 f3 S3 N2 Z2 S2 S1 B P0 I;go_loopw[6,30] (fun ov iv wr=> ∃(k:Nat) (A:Oz) (c n:Nat),k<=2/\iv=.int .i64 k/\ov=.slice A n c/\Hy (n=40*k)/\Hy (Own wr (gW+1) A c (frZ false was now ps m1 k))/\Hy (Fc w wr (frK false was now ps m1 k) ps gN gW now was)) (fun _ iv _=>2-(intOf iv).toNat)
  case atStart=>exact⟨0,none,0,0,ah,rfl,rfl,af rfl,af Own.nil,S4⟩
  case round=>
   exact ahC
 ·have e0:=aj (f=eQ) (by rw[M0.o];unfold fr0;rw[<-P0.o,if_pos rfl])
  have C:=aj (q=false) (FC);have C:=C.o;subst C;have KFr:=af (fun W=>show Cl 22 #[] W (fun e w'=>e=.returned (.agg f.ag)/\Bw W w') from by rw[e0.o];exact N7 W);clear M0 HQ e0;go_enter Tryz.func34,Tryz.ntmps34;go_wp2_with(first
   |(rw[HV.o];clear HV)
   |(go_at_call 22;(with_reducible refine(KFr.o V).mono ?_);rintro e w1 ⟨rfl,hB⟩;have S1:=af (S0.o.below hB);clear hB;have S2:=af (S1.o.setA (mm:=f));obtain⟨l,hV2⟩:=ak (w1.setRow w.heap.size f.ag);rw[<-hV2] at S2;have M:=af hV2;clear hV2)
   |(refine dW rfl (.tmp 2) (.tmp 17) rfl _ m f rfl rfl S1.o.A KM.o K0.o ?_;rw[<-M.o];clear M)
   |(refine bZ rfl 52 (.tmp 19) rfl _ _ rfl (au rp) _ (HRP.o _ _ S2.o.P) aU rfl HI8.o ?_))
  with_reducible refine(KV.o l S2.o.bel).mono ?_
  rintro e w1 ⟨rfl,hB⟩;have S1:=af (S2.o.below hB);clear hB S0 S2 KV c0 KFr;have B:=af S1.o.lt;go_wp2_with(first
   |(refine aQ 52 (.tmp 7) (.tmp 22) Z8 now 8 (IB.new w1 52 Z8) aJ rfl NL.o ?_
     have BB:=dI w1 (.cells (agi Z8) 52) (agi now)
     obtain⟨l,hV⟩:=ak ((w1.alloc (.cells (agi Z8) 52)).setRow w1.heap.size (agi now))
     have S2:=aj (Fb w l f ps) (aa1)
     have N2:=aj (IB l w1.heap.size 52 now) (aaO)
     have Z2:=aj (w1.heap.size<l.heap.size) (Blk.lt N2.o)
     rw[dP] at hV
     rw[<-hV]
     clear hV BB)
   |(refine bZ rfl 52 (.tmp 24) rfl _ _ rfl (au f.r) _ (S2.o.A.R K0.o) aU rfl HI8'.o ?_;rw[show(au f.r).toArray=agi was from by rw[HW.o];rfl])
   |(refine aQ 52 (.tmp 9) (.tmp 25) Z8 was 8 (IB.new l 52 Z8) aJ rfl WL.o ?_
     have BB:=dI l (.cells (agi Z8) 52) (agi was)
     obtain⟨V3,hV⟩:=ak ((l.alloc (.cells (agi Z8) 52)).setRow l.heap.size (agi was))
     have S3:=aj (Fc w V3 f ps w1.heap.size l.heap.size now was) (by rw[hV];exact⟨S2.o.below BB,Blk.below' N2.o BB,IB.stored l 52 Z8 was,by have:=B.o;omega,by have:=Z2.o;omega⟩)
     have c3:=S3.o.F.P.cell 0 qi
     rw[<-P0.o] at c3
     have d3:=S3.o.F.A.csi K0.o
     have f3:=MB.frozen S3.o.F.A 101
     have S4:=aj (Fc w (V3.setCell ⟨w.heap.size,101,none⟩ (.bool false)) m1 ps w1.heap.size l.heap.size now was) (by rw[I.o];exact S3.o.setSi K0.o false)
     rw[dP] at hV
     rw[<-hV]
     clear hV BB))
  obtain⟨V4,O⟩:=ak (V3.setCell ⟨w.heap.size,101,none⟩ (.bool false));obtain⟨gN,hgN⟩:=ak (w1.heap.size);obtain⟨gW,U⟩:=ak (l.heap.size);rw[<-O,<-hgN,<-U] at S4;rw[<-O,<-hgN,<-U];clear O hgN U c3 d3 f3 S3 N2 Z2 S2 S1 B P0 I;go_loopw[6,30] (fun ov iv wr=> ∃(k:Nat) (A:Oz) (c n:Nat),k<=2/\iv=.int .i64 k/\ov=.slice A n c/\Hy (n=40*k)/\Hy (Own wr (gW+1) A c (frZ false was now ps m1 k))/\Hy (Fc w wr (frK false was now ps m1 k) ps gN gW now was)) (fun _ iv _=>2-(intOf iv).toNat)
  case atStart=>exact⟨0,none,0,0,ah,rfl,rfl,af rfl,af Own.nil,S4⟩
  case round=>
   exact ahC
 ·have e0:=aj (f=m) (Vs)
  have C:=aj (q=true) (FC);have e0:=e0.o;subst e0;have C:=C.o;subst C;clear M0 HQ;go_enter Tryz.func34,Tryz.ntmps34;go_wp2_with(first
   |(rw[HV.o];clear HV)
   |(refine bZ rfl 52 (.tmp 19) rfl _ _ rfl (au rp) _ (HRP.o _ _ S0.o.P) aU rfl HI8.o ?_))
  with_reducible refine(KV.o V S0.o.bel).mono ?_
  rintro e w1 ⟨rfl,hB⟩;have S1:=af (S0.o.below hB);clear hB S0 KV c0;have B:=af S1.o.lt;go_wp2_with(first
   |(refine aQ 52 (.tmp 7) (.tmp 22) Z8 now 8 (IB.new w1 52 Z8) aJ rfl NL.o ?_
     have BB:=dI w1 (.cells (agi Z8) 52) (agi now)
     obtain⟨l,hV⟩:=ak ((w1.alloc (.cells (agi Z8) 52)).setRow w1.heap.size (agi now))
     have S2:=aj (Fb w l f ps) (aa1)
     have N2:=aj (IB l w1.heap.size 52 now) (aaO)
     have Z2:=aj (w1.heap.size<l.heap.size) (Blk.lt N2.o)
     rw[dP] at hV
     rw[<-hV]
     clear hV BB)
   |(refine bZ rfl 52 (.tmp 24) rfl _ _ rfl (au f.r) _ (S2.o.A.R K0.o) aU rfl HI8'.o ?_;rw[show(au f.r).toArray=agi was from by rw[HW.o];rfl])
   |(refine aQ 52 (.tmp 9) (.tmp 25) Z8 was 8 (IB.new l 52 Z8) aJ rfl WL.o ?_
     have BB:=dI l (.cells (agi Z8) 52) (agi was)
     obtain⟨V3,hV⟩:=ak ((l.alloc (.cells (agi Z8) 52)).setRow l.heap.size (agi was))
     have S3:=aj (Fc w V3 f ps w1.heap.size l.heap.size now was) (by rw[hV];exact⟨S2.o.below BB,Blk.below' N2.o BB,IB.stored l 52 Z8 was,by have:=B.o;omega,by have:=Z2.o;omega⟩)
     have c3:=S3.o.F.P.cell 0 qi
     rw[<-P0.o] at c3
     have d3:=S3.o.F.A.csi K0.o
     have f3:=MB.frozen S3.o.F.A 101
     have S4:=aj (Fc w (V3.setCell ⟨w.heap.size,101,none⟩ (.bool true)) m1 ps w1.heap.size l.heap.size now was) (by rw[I.o];exact S3.o.setSi K0.o true)
     rw[dP] at hV
     rw[<-hV]
     clear hV BB))
  obtain⟨V4,O⟩:=ak (V3.setCell ⟨w.heap.size,101,none⟩ (.bool true));obtain⟨gN,hgN⟩:=ak (w1.heap.size);obtain⟨gW,U⟩:=ak (l.heap.size);rw[<-O,<-hgN,<-U] at S4;rw[<-O,<-hgN,<-U];clear O hgN U c3 d3 f3 S3 N2 Z2 S2 S1 B P0 I;go_loopw[6,30] (fun ov iv wr=> ∃(k:Nat) (A:Oz) (c n:Nat),k<=2/\iv=.int .i64 k/\ov=.slice A n c/\Hy (n=40*k)/\Hy (Own wr (gW+1) A c (frZ true was now ps m1 k))/\Hy (Fc w wr (frK true was now ps m1 k) ps gN gW now was)) (fun _ iv _=>2-(intOf iv).toNat)
  case atStart=>exact⟨0,none,0,0,ah,rfl,rfl,af rfl,af Own.nil,S4⟩
  case round=>
   clear S4;obtain⟨k,A,c,n,hk,rfl,rfl,HN,Q,L⟩:=hrel;by_cases hlt:k<2
   ·have KO:=af (KK.o k ah)
    have GO:=af (KG.o k ah);have D:=af (KF.o k hlt);have G:=af (xk was now k);have Kn:=af (KK.o (k+1) ah);have NM:=aj (frK true was now ps m1 (k+1)=frP true (frA was now k) (frK true was now ps m1 k) (bM ps k)) (rfl);have NZ:=aj (frZ true was now ps m1 (k+1)=frZ true was now ps m1 k++frY true (frA was now k) (frK true was now ps m1 k) (bM ps k)) (rfl);have YL:=af (Az true (frA was now k) (frK true was now ps m1 k) (bM ps k));have LZ:=aj ((frZ true was now ps m1 k).length=n) (U8);have SI:=aj ((frK true was now ps m1 k).si=true) (by rw[Yb];exact SI1.o);have T:=J.o k hlt;have GA:=KA.o k hlt;have h2:=adZ (a:=frA was now k) GO.o T GA;have KS:=af (fun W=>show Cl 87 #[.agg (frK true was now ps m1 k).ag] W (NewM W (frN true (frK true was now ps m1 k) (bM ps k)) (frX true (frK true was now ps m1 k) (bM ps k)) (bz (aO (frK true was now ps m1 k)))) from by
     have h1:=akZ (frK true was now ps m1 k) KO.o W;rw[h2.1,h2.2.1] at h1;exact h1)
    have j:=af (Ph true KO.o T);have XL:=af (Pg true (frK true was now ps m1 k) T);have KP:=af (fun W A2 c2 (h:Rs W W.heap.size A2 (frX true (frK true was now ps m1 k) (bM ps k)))=>show Cl 39 #[.agg (frN true (frK true was now ps m1 k) (bM ps k)).ag,.agg (agi (frA was now k)),.slice A2 40 c2] W (pV W (frP true (frA was now k) (frK true was now ps m1 k) (bM ps k)) (frY true (frA was now k) (frK true was now ps m1 k) (bM ps k))) from by
     have h1:=YY (frN true (frK true was now ps m1 k) (bM ps k)) j.o (frA was now k) _ A2 c2 40 W (xk _ _ _) h XL.o ah;rw[h2.2.2.1,h2.2.2.2] at h1;exact h1)
    clear h2;generalize frN true (frK true was now ps m1 k) (bM ps k)=mm at*
    generalize frX true (frK true was now ps m1 k) (bM ps k)=xs at*
    generalize bz (aO (frK true was now ps m1 k))=er at*
    rw[NM.o] at Kn;generalize frP true (frA was now k) (frK true was now ps m1 k) (bM ps k)=mn at*
    generalize frY true (frA was now k) (frK true was now ps m1 k) (bM ps k)=y at*
    generalize frA was now k=a at*
    generalize frK true was now ps m1 k=mk at*
    generalize frZ true was now ps m1 k=zs at*
    generalize bM ps k=su at*
    clear KF KK KG J KA T GA GO;go_wp2_with(first
     |(refine aK 52 (.tmp 9) was 8 L.o.W aU aJ WL.o ?_)
     |(refine aK 52 (.tmp 7) now 8 L.o.N aU aJ NL.o ?_))
    (with_reducible refine(D.o _).mono ?_);rintro e w5 ⟨rfl,hB⟩;have C5:=af (L.o.below hB);have O5:=af (Q.o.below hB);have SX5:=af C5.o.glt;clear hB L Q D;go_wp2_with(first
     |(refine aQ 73 (.tmp 11) (.tmp 36) Z9 a 9 (IB.new w5 73 Z9) bC rfl G.o ?_
       have BB:=dI w5 (.cells (agi Z9) 73) (agi a)
       obtain⟨V6,hV⟩:=ak ((w5.alloc (.cells (agi Z9) 73)).setRow w5.heap.size (agi a))
       have C6:=aj (Fc w V6 mk ps gN gW now was) (by rw[hV];exact C5.o.below BB)
       have A6:=aj (IB V6 w5.heap.size 73 a) (by rw[hV];exact IB.stored w5 73 Z9 a)
       have O6:=aj (Own V6 (gW+1) A c zs) (by rw[hV];exact O5.o.below BB)
       have d6:=C6.o.F.A.csi KO.o
       rw[SI.o] at d6
       rw[jR] at hV
       rw[<-hV]
       clear hV BB)
     |(refine iK rfl (.tmp 2) rfl _ mk rfl C6.o.F.A KO.o ?_))
    (with_reducible refine(KS.o V6).mono ?_);rintro e w7 ⟨A7,c7,rfl,hO,hB⟩;have S:=af (C6.o.below hB);have F7:=af (Blk.below' A6.o hB);have O7:=af (O6.o.below hB);have X7:=af hO;have SX6:=af C6.o.glt;have SX8:=af hB.size;clear hO hB KS;have E:=af (S.o.setA (mm:=mm));have F8:=aj (IB (w7.setRow w.heap.size mm.ag) w5.heap.size 73 a) (Blk.rowFar F7.o (by have:=S.o.l1;have:=S.o.l2;have:=SX5.o;omega));have O8:=af (O7.o.setRow (g:=w.heap.size) (by have:=S.o.l1;have:=S.o.l2;omega) mm.ag);have X8:=af (X7.o.setRow (g:=w.heap.size) (by have:=S.o.l1;have:=S.o.l2;have:=SX6.o;omega) mm.ag).reads;obtain⟨V8,u⟩:=ak (w7.setRow w.heap.size mm.ag);rw[<-u] at E F8 O8 X8;have x:=af u;clear u;rw[XL.o];go_wp2_with(first
     |(refine dW rfl (.tmp 2) (.tmp 42) rfl _ mk mm rfl rfl S.o.F.A KO.o j.o ?_;rw[<-x.o];clear x)
     |(refine iK rfl (.tmp 2) rfl _ mm rfl E.o.F.A j.o ?_)
     |(refine aK 73 (.tmp 11) a 9 F8.o bP bC G.o ?_))
    (with_reducible refine(KP.o V8 A7 c7 X8.o).mono ?_);rintro e w9 ⟨A2,c2,rfl,hO,hB⟩;have C9:=af (E.o.below hB);have O9:=af (O8.o.below hB);have X9:=af hO;have SX9:=af E.o.glt;clear hO hB KP C6 S E O6 O7 O8 X7 X8 F7 F8 A6 O5 C5 d6;have C10:=af (C9.o.setA (mm:=mn));have O10:=af (O9.o.setRow (g:=w.heap.size) (by have:=C9.o.l1;have:=C9.o.l2;omega) mn.ag);have X10:=af (X9.o.setRow (g:=w.heap.size) (by have:=C9.o.l1;have:=C9.o.l2;have:=SX9.o;omega) mn.ag).reads;obtain⟨V10,b⟩:=ak (w9.setRow w.heap.size mn.ag);rw[<-b] at C10 O10 X10;have HV10:=af b;clear b;rw[YL.o];go_wp2_with(first
     |(refine dW rfl (.tmp 2) (.tmp 50) rfl _ mm mn rfl rfl C9.o.F.A j.o Kn.o ?_;rw[<-HV10.o];clear HV10)
     |(at_builtin;refine pg rfl (.tmp 62) (.tmp 63) rfl (gW+1) A c n zs rfl LZ.o O10.o V10.heap.size A2 c2 40 y rfl YL.o X10.o kK (by have:=C10.o.glt;omega) ?_;intro A11 c11 w11 hO hG hA;have C11:=af (C10.o.grown O10.o hG);have O11:=af hO;clear hO hG hA))
    go_roundw;case rel=>exact⟨k+1,A11,c11,n+40,ah,aT,rfl,af kK,af (by rw[NZ.o];exact O11.o),af (by rw[NM.o];exact C11.o)⟩
    case measure=>exact aW
   obtain rfl:k=2:=ah;obtain rfl:n=80:=HN.o;obtain⟨mk,hmk⟩:=ak (frK true was now ps m1 2);have i:=aj (mk.ok) (Uc);have FZ:=af (FM.o mk hmk);rw[<-hmk] at L;rw[<-FO.o _ rfl] at Q;clear hmk FO FM KK KG KF J KA;have t:=af (show({mk with r:=now,er:=0}:Mm).ok from⟨NL.o,i.o.p,i.o.e⟩);have S8:=af (L.o.F.setRf i.o now NL.o);have H:=aj (wr.there w.heap.size 0 (agi now).size) (ahp);have O8:=af (Own.setCs (g:=w.heap.size) Ud (au now) 0 _ Q.o);have GL:=aj (w.heap.size+3<gW+1) (Ud);obtain⟨V8,u⟩:=ak (wr.setCells w.heap.size 0 (au now));rw[<-u] at S8 O8;have x:=af u;have K8:=af (show({mk with r:=now}:Mm).ok from⟨NL.o,i.o.p,i.o.e⟩);have d8:=S8.o.A.cer K8.o;have f8:=MB.frozen S8.o.A 99;have S9:=aj (Fb w (V8.setCell ⟨w.heap.size,99,none⟩ (.int .i64 0)) mf ps) (by rw[FZ.o];exact S8.o.setEr K8.o 0);have O9:=af (Own.setC (g:=w.heap.size) O8.o jV 99 (.int .i64 0));obtain⟨V9,hV9⟩:=ak (V8.setCell ⟨w.heap.size,99,none⟩ (.int .i64 0));rw[<-hV9] at S9 O9;have HV9:=af hV9.symm;rw[<-FZ.o] at t;clear u hV9;go_wp2_with(first
    |(refine aK 52 (.tmp 7) now 8 L.o.N aU aJ NL.o ?_)
    |(refine iY rfl 52 (.tmp 67) (.tmp 66) rfl w.heap.size 0 (agi now) rfl rfl H.o X.o (ik _) ?_;rw[show(agi now).toList=au now from rfl,<-x.o])
    |(rw[HV9.o];clear HV9 d8 f8)
    |(refine iK rfl (.tmp 2) rfl _ mf rfl S9.o.A t.o ?_)
    |(refine dW rfl (.tmp 4) (.tmp 69) rfl _ aZ mf rfl rfl S9.o.R df t.o ?_))
   refine aX (v:=_) (hR _ _ _ mf rfl (MB.setRow S9.o.R mf) t.o) rfl ?_;exact⟨A,c,Nh,(O9.o.setRow (g:=w.heap.size+2) jV mf.ag).more (base':=w.heap.size) jV,aS S9.o.bel (g:=w.heap.size+2) ah mf.ag⟩
