/- Texts that the law rests on. -/
import Derived.Test.YthoiikkjjaldnaaGreatDoorZ1e04
import Derived.Test.YthoiikkjjaldnaaGreatDoorZ1e08
namespace Go.Proofs.YthoiikkjjaldnaaGreatDoor
set_option linter.unusedVariables false
set_option linter.unusedSimpArgs false
set_option maxRecDepth 100000
set_option maxHeartbeats 8000000
open Go.RowKit
theorem ajT(h x:List Int)(lag g:Int)(A:Option Addr)(c n:Nat)(w:World)(hh:h.length=80)(hr:Rs w w.heap.size A x)(hn:x.length=n)(hl:n<=17592186044416)(hw:W64 h)(hwx:W64 x):
 Calls Tryz.prog 133 #[.agg (agi h),.int .i64 lag,.int .i64 g,.slice A n c] w (NewSE w (mxL h x lag g n) (mxR lag g n)):=by
 have A0:=hid (IB.new w 23 h)
 have B0:=hid ((aA w.heap.size w).alloc (al0z _) (.cells (agi h) 23))
 have HH:=hid hh
 have HR:=hid hr
 have HN:=hid hn
 by_cases h40:n=40
 ·subst h40
  by_cases hg:(20<=lag/\lag<=79)/\0<=g/\g<=32767
  ·obtain⟨⟨l1,l2⟩,g1,g2⟩:=hg
   have hb:=rO l1 l2
   have KP:=hid (fun W=>PR h lag W hh)
   have hlen:=xZ (h:=h) hb
   have hP64:W64 (cO h lag):=fun y hy=>by
    unfold cO at hy
    rw[if_pos hb] at hy
    obtain⟨i,_,rfl⟩:=List.mem_map.1 hy
    exact hw.at_ _
   obtain⟨e1,e2⟩:=PW (h:=h) (x:=x) (lag:=lag) (g:=g) UM
   have E1:=hid e1
   rw[e2]
   rw[hb] at KP
   have HPL:=hid hlen
   have HP64:=hid hP64
   have HX64:=hid hwx
   have HE:=hid (fun i=>show mxE h x lag g i=mxV ((cO h lag).getD i 0) g (x.getD i 0) from rfl)
   generalize cO h lag=P at*
   clear e1 e2 hb hlen hP64 hwx hw hr hn hh
   go_enter Tryz.func133,Tryz.ntmps133
   go_wp2_with(refine aK rfl 23 (.tmp 4) rfl _ 23 h 80 _ rfl A0.out Tryz.underlying23 rfl kK HH.out ?_)
   refine(KP.out _).mono ?_
   rintro e w1 ⟨A1,c1,rfl,hO,hB⟩
   have L1:=hid (B0.out.trans (hB.mono B0.out.size))
   obtain⟨gv,rfl,gv1,gv2⟩:=hO.head (by rw[HPL.out];omega)
   have O1:=hid (hO.more (base':=w.heap.size) az)
   have hgv:w.heap.size<=gv:=by simp at gv1;omega
   have HGV2:=hid gv2
   have HL1:=hid L1.out.size
   rw[HPL.out]
   clear hO hB gv1 gv2 l1 l2
   go_wp2
   go_loopw[12,39] (fun ov iv wr=> ∃(k:Nat) (A2:Option Addr) (c2:Nat),k<=40/\iv=.int .i64 k/\ov=.slice A2 k c2/\Hid (Own wr w1.heap.size A2 c2 ((List.range k).map (mxE h x lag g)))/\Hid (Own wr w.heap.size (some ⟨gv,0,none⟩) c1 P)/\Hid (Below w.heap.size w wr)/\Hid (w1.heap.size<=wr.heap.size)) (fun _ iv _=>40-(intOf iv).toNat)
   case atStart=>exact⟨0,none,0,ah,rfl,rfl,hid Own.nil,O1,L1,hid (al0z _)⟩
   case round=>
    clear O1 L1
    obtain⟨k,A2,c2,hk,rfl,rfl,HO,HV1,HB,HS⟩:=hrel
    by_cases hlt:k<40
    ·obtain⟨ad,rfl,hadb,cb0⟩:=HR.out.at_ (k:=k) iE
     have cb:=(HB.out.cell (p:=ad.add k) (by rw[dM];exact hadb)).trans cb0
     have cp:=HV1.out.cell k (by rw[HPL.out];exact hlt)
     have hk40:(k:Int)<40:=ah
     have HV:=HE.out k
     have p64:=HP64.out.at_ k
     have b64:=HX64.out.at_ k
     have YN:=hid (show(List.range k).map (mxE h x lag g)++[mxE h x lag g k]=(List.range (k+1)).map (mxE h x lag g) from CP _)
     have YL:=hid (show((List.range k).map (mxE h x lag g)).length=k from az)
     generalize (List.range k).map (mxE h x lag g)=Y at*
     obtain⟨p,hp⟩:∃p,p=P.getD k 0:=⟨_,rfl⟩
     obtain⟨b,hb⟩:∃b,b=x.getD k 0:=⟨_,rfl⟩
     have HCP:=hid (fun W (o:Own W w.heap.size (some ⟨gv,0,none⟩) c1 P)=>show W.cell? ⟨gv,k,none⟩=some (.int .i64 p) by rw[hp];exact o.cell k (by rw[HPL.out];exact hlt))
     rw[<-hp] at cp HV p64
     rw[<-hb] at cb cb0 HV b64
     have CB0:=hid cb0
     unfold mxV at HV
     have KA:=hid (fun W=>qH p W p64.1 p64.2)
     have KB:=hid (fun W=>qH b W b64.1 b64.2)
     have ra:=lJ p
     have rb:=lJ b
     generalize s16 p=sa at KA HV ra
     generalize s16 b=sb at KB HV rb
     have hq:=WO ra.1 ra.2 g1 g2
     obtain⟨q,hqe⟩:∃q,sa*g=q:=⟨_,rfl⟩
     rw[hqe] at hq HV
     have hw1:IntKind.i64.wrap (sa*g)=q:=by rw[hqe,oJ];omega
     have hw2:IntKind.i64.wrap (q+8192)=q+8192:=aN
     have KD:=hid (fun W=>aed (q+8192) W ah ah)
     obtain⟨r,hre⟩:∃r,r=(q+8192)/16384:=⟨_,rfl⟩
     rw[<-hre] at KD HV
     obtain⟨t,ht⟩:∃t,t=r+sb:=⟨_,rfl⟩
     have hw3:IntKind.i64.wrap (r+sb)=t:=by rw[ht,oJ];omega
     rw[<-ht] at HV
     have KT:=hid (fun W=>qH t W ah ah)
     obtain⟨y,hy⟩:∃y,y=s16 t:=⟨_,rfl⟩
     rw[<-hy] at KT HV
     rw[HV] at YN
     have hgvW:gv<wr.heap.size:=by have:=HGV2.out;have:=HS.out;omega
     have hadW:ad.block<wr.heap.size:=by have:=HB.out.size;omega
     have HADB:=hid hadb
     clear hp hb ra rb hq hqe hre ht hy HV p64 b64 hadb cb0
     go_wp2
     go_region_held3 (fun w'=>w'.cell? ⟨gv,k,none⟩=some (.int .i64 p)/\w'.cell? (ad.add k)=some (.int .i64 b)) (go_keep) (first
      |(go_at_call 109;(with_reducible refine(KA.out wr.drew).mono ?_);rintro e' wA ⟨rfl,hBA⟩;have LA:Below wr.heap.size wr wA:=((aA wr.heap.size wr).drew).trans (hBA.mono (al0z _));have a0:World.cell? wA ⟨gv,k,none⟩=some (.int .i64 p):=(LA.cell hgvW).trans cp;have a1:World.cell? wA (ad.add k)=some (.int .i64 b):=(LA.cell zh).trans cb;have LA:=hid LA;clear hBA)
      |(go_at_call 110;(with_reducible refine(KD.out wA).mono ?_);rintro e' wB ⟨rfl,hBB⟩;have LB:Below wr.heap.size wr wB:=LA.out.trans (hBB.mono LA.out.size);have b0:World.cell? wB ⟨gv,k,none⟩=some (.int .i64 p):=(LB.cell hgvW).trans cp;have b1:World.cell? wB (ad.add k)=some (.int .i64 b):=(LB.cell zh).trans cb;have LB:=hid LB;clear hBB)
      |(go_at_call 109;(with_reducible refine(KB.out wB).mono ?_);rintro e' wC ⟨rfl,hBC⟩;have LC:Below wr.heap.size wr wC:=LB.out.trans (hBC.mono LB.out.size);have e0:World.cell? wC ⟨gv,k,none⟩=some (.int .i64 p):=(LC.cell hgvW).trans cp;have e1:World.cell? wC (ad.add k)=some (.int .i64 b):=(LC.cell zh).trans cb;have LC:=hid LC;clear hBC)
      |(go_at_call 109;(with_reducible refine(KT.out wC).mono ?_);rintro e' wD ⟨rfl,hBD⟩;have LD:Below wr.heap.size wr wD:=LC.out.trans (hBD.mono LC.out.size);have d0:World.cell? wD ⟨gv,k,none⟩=some (.int .i64 p):=(LD.cell hgvW).trans cp;have d1:World.cell? wD (ad.add k)=some (.int .i64 b):=(LD.cell zh).trans cb;have LD:=hid LD;clear hBD)
      |(refine ajS rfl (.tmp 42) (.tmp 59) rfl w1.heap.size A2 c2 k Y rfl YL.out ((HO.out.below LD.out).alloc _) ⟨wD.heap.size,0,none⟩ y rfl (mW wD _ _) ah (by have:=HS.out;have:=LD.out.size;simp;omega) ?_;intro A3 c3 w5 hO hG;have V5:=(((HV1.out.below LD.out).alloc (.cells #[.int .i64 y] 3)).kept hG (fun a ha=>by injection ha with ha;subst ha;cases A2 with|none=>simp|some a2=>have:=HO.out.lt a2 rfl;have:=HGV2.out;simp;omega));have B5:Below w.heap.size w w5:=(((HB.out.trans (LD.out.mono HB.out.size)).alloc (by have:=HB.out.size;have:=LD.out.size;omega) (.cells #[.int .i64 y] 3)).grown hG (by have:=HB.out.size;have:=LD.out.size;simp;omega) (fun i hi=>by cases A2 with|none=>simp at hi|some a2=>have:=HO.out.lt a2 rfl;have:=HL1.out;simp at hi;omega));have f0:=HCP.out w5 V5;have f1:World.cell? w5 (ad.add k)=some (.int .i64 b):=(B5.cell (p:=ad.add k) (by rw[dM];exact HADB.out)).trans CB0.out;have V5:=hid V5;have B5:=hid B5;have O5:=hid hO;have G5:=hid hG.size;clear hO hG))
     rename_i hHeldZ
     clear hHeldZ
     clear a0 a1 b0 b1 e0 e1 d0 d1 f0 f1 cp cb hw1 hw2 hw3
     simp only[Exit.then,Exit.inBlock]
     have S5:=hid (show w1.heap.size<=w5.heap.size by have h1:=HS.out;have h2:=HB.out.size;have h3:=LD.out.size;have h4:=G5.out;simp at h4;omega)
     go_wp2
     go_roundw
     case rel=>exact⟨k+1,A3,c3,ah,aO,rfl,hid (by have:=O5.out;rwa [YN.out] at this),V5,B5,S5⟩
     case measure=>simp[intOf]<;>omega
    obtain rfl:k=40:=ah
    go_wp2
    go_ret2
    rw[E1.out]
    exact⟨A2,c2,az,HO.out.more (by have:=HL1.out;omega),HB.out⟩
  obtain⟨e1,e2⟩:=PV (h:=h) (x:=x) (lag:=lag) (g:=g) (by unfold mxB mY;simp;omega)
  rw[e1,e2]
  have FIN:=hid (NewSE.none_ (er:=2) B0.out)
  clear e1 e2 hw hwx hr hn hh
  by_cases c1:lag<20
  ·clear hg
   exact l77
  by_cases c2:79<lag
  ·clear hg
   exact l77
  by_cases c3:g<0
  ·clear hg
   exact l77
  have c4:32767<g:=ah
  clear hg
  exact l77
 ·obtain⟨e1,e2⟩:=WM (h:=h) (x:=x) (lag:=lag) (g:=g) h40
  rw[e1,e2]
  have d1:((n:Int)==40)=false:=aJ
  have d2:((n:Int) !=40)=true:=aJ
  have FIN:=hid (NewSE.none_ (er:=1) B0.out)
  clear h40 e1 e2
  exact l77
end Go.Proofs.YthoiikkjjaldnaaGreatDoor
