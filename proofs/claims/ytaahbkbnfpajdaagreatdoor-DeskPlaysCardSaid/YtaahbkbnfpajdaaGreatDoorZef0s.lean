/- Lemmas. -/
import Derived.Test.YtaahbkbnfpajdaaGreatDoorZef0q
import Derived.Test.YtaahbkbnfpajdaaGreatDoorZef0l
namespace Go.Proofs.YtaahbkbnfpajdaaGreatDoor
set_option linter.all false
set_option maxRecDepth 100000
set_option maxHeartbeats 8000000
open Go.RowKit
variable{g:Nat}
structure Xj(w W:Wd)(e:En)(ad:Addr)(o:Lz)(gH:Nat)(hp:Lz)(ai:Addr)(x:Lz)(gP:Nat)(ps:Lz):Prop where
 L:Eo w W e
 O:Rs W gP (some ad) o
 H:IB W gH 50 hp
 I:Rs W gP (some ai) x
 P:IB W gP 81 ps
 l0:w.heap.size+2<=gH
 lh:gH<gP
section
variable {w W W':Wd} {e:En} {ad ai:Addr} {o hp x ps ps':Lz} {gH gP:Nat}
theorem Xj.lt(s:Xj w W e ad o gH hp ai x gP ps):gP<W.heap.size:=Blk.lt s.P
theorem Xj.below(s:Xj w W e ad o gH hp ai x gP ps)(a:Bw W W'):Xj w W' e ad o gH hp ai x gP ps:=
 ⟨s.L.below a,s.O.below (a.mono (kY s.lt)),Blk.below' s.H a,s.I.below (a.mono (kY s.lt)),Blk.below' s.P a,s.l0,s.lh⟩
theorem Xj.over(s:Xj w W e ad o gH hp ai x gP ps)(vs:List Value)(i:Nat)(h:IB (W.setCells gP i vs) gP 81 ps'):Xj w (W.setCells gP i vs) e ad o gH hp ai x gP ps':=
 ⟨s.L.far aa3 vs i,s.O.below (iJ (ax _) _ _ _ (aP _ _)),cZ (by have:=s.lh;omega) _ _ _ s.H,s.I.below (iJ (ax _) _ _ _ (aP _ _)),h,s.l0,s.lh⟩
theorem Xj.far(s:Xj w W e ad o gH hp ai x gP ps)(G:gP<g)(vs:List Value)(i:Nat):Xj w (W.setCells g i vs) e ad o gH hp ai x gP ps:=
 ⟨s.L.far aa3 vs i,s.O.below (iJ ah _ _ _ (aP _ _)),cZ (by have:=s.lh;omega) _ _ _ s.H,s.I.below (iJ ah _ _ _ (aP _ _)),cZ ah _ _ _ s.P,s.l0,s.lh⟩
theorem Xj.farR(s:Xj w W e ad o gH hp ai x gP ps)(G:gP<g)(a:Array Value):Xj w (W.setRow g a) e ad o gH hp ai x gP ps:=
 ⟨s.L.farR aa3 a,s.O.below (aS (aP gP W) ah a),Blk.rowFar s.H (by have:=s.lh;omega),s.I.below (aS (aP gP W) ah a),Blk.rowFar s.P ah,s.l0,s.lh⟩
end
structure Xm(w W:Wd)(e:En)(ad:Addr)(o:Lz)(gH:Nat)(hp:Lz)(ai:Addr)(x:Lz)(gP:Nat)(ps:Lz)(gN:Nat)(now:Lz)(gM:Nat)(m:Mm):Prop where
 J:Xj w W e ad o gH hp ai x gP ps
 N:IB W gN 52 now
 M:MB W gM m
 l1:gP<gN
 l2:gN<gM
section
variable {w W W':Wd} {e:En} {ad ai:Addr} {o hp x ps ps' now:Lz} {gH gP gN gM:Nat} {m mm:Mm}
theorem Xm.lt(s:Xm w W e ad o gH hp ai x gP ps gN now gM m):gM<W.heap.size:=Blk.lt s.M
theorem Xm.below(s:Xm w W e ad o gH hp ai x gP ps gN now gM m)(a:Bw W W'):Xm w W' e ad o gH hp ai x gP ps gN now gM m:=⟨s.J.below a,Blk.below' s.N a,Blk.below' s.M a,s.l1,s.l2⟩
theorem Xm.over(s:Xm w W e ad o gH hp ai x gP ps gN now gM m)(vs:List Value)(i:Nat)(h:IB (W.setCells gP i vs) gP 81 ps'):Xm w (W.setCells gP i vs) e ad o gH hp ai x gP ps' gN now gM m:=
 ⟨s.J.over vs i h,cZ MZ _ _ _ s.N,cZ Uo _ _ _ s.M,s.l1,s.l2⟩
theorem Xm.kind(s:Xm w W e ad o gH hp ai x gP ps gN now gM m)(z:Int):Xm w (W.setCell ⟨gP,0,none⟩ (.int .i64 z)) e ad o gH hp ai x gP (ps.set 0 z) gN now gM m:=s.over [.int .i64 z] 0 (s.J.P.set_ 0 z)
theorem Xm.rowM(s:Xm w W e ad o gH hp ai x gP ps gN now gM m):Xm w (W.setRow gM mm.ag) e ad o gH hp ai x gP ps gN now gM mm:=
 ⟨s.J.farR Uo _,Blk.rowFar s.N Vo,s.M.setRow mm,s.l1,s.l2⟩
theorem Xm.setP(s:Xm w W e ad o gH hp ai x gP ps gN now gM m)(k:m.ok)(p:Lz)(h:p.length=8):Xm w (W.setCells gM 8 (au p)) e ad o gH hp ai x gP ps gN now gM {m with p:=p}:=
 ⟨s.J.far Uo _ _,cZ Vo _ _ _ s.N,s.M.set_p k p h,s.l1,s.l2⟩
end
structure Xw(w W:Wd)(e:En)(ad:Addr)(o:Lz)(gH:Nat)(hp:Lz)(ai:Addr)(x:Lz)(gP:Nat)(ps:Lz)(gN:Nat)(now:Lz)(gM:Nat)(m:Mm)(gA:Nat)(a:Lz):Prop where
 R:Xm w W e ad o gH hp ai x gP ps gN now gM m
 F:IB W gA 73 a
theorem aqL{w:Wd}{base c:Nat}{A:Oz}{xs:Lz}(h:OwnB w base A c xs)(b:∀a,A=some a->a.block≠g)(d:Array Value):OwnB (w.setRow g d) base A c xs:=
 JL h (row:=some g) ⟨rfl,rfl,rfl,wE,fun i _ hn=>oz w g i d zB⟩ (fun a f x=>b a f (fQ x))
theorem aqM{w:Wd}{base c:Nat}{A:Oz}{xs:Lz}(h:OwnB w base A c xs)(b:∀a,A=some a->a.block≠g)(vs:List Value)(o:Nat):OwnB (w.setCells g o vs) base A c xs:=
 JL h (Zz g vs o w) (fun a d x=>b a d (fQ x))
theorem aqN(a b c d:Int):Tryz.prog.built 57 [(0,.agg (agi [a,b,c,d]))]=some (⟨[a,b,c,d],List.replicate 120 0,aZ⟩:En).ag:=aB
theorem aqO{b:Array Oper}{rest:List Oper}{h:Oper}{a:Act}{w:Wd}{Q:Exit->Act->Wd->Prop}(j:h.guard=none)(x:Operand)(q:h.op=.build 57 #[(0,x)])(c d f g:Int)(r:a.eval x=.agg (agi [c,d,f,g]))
 (e:En) (p:e=⟨[c,d,f,g],List.replicate 120 0,aZ⟩) (k:wpList Tryz.prog b Q rest (a.put h.dst (.agg e.ag)) w):wpList Tryz.prog b Q (h::rest) a w:=by
 subst p;refine JW j fun K l=>?_;have n:Tryz.prog.built 57 ((#[(0,x)]:Array (Nat×Operand)).map fun(i,x)=>(i,a.eval x)).toList=some (⟨[c,d,f,g],List.replicate 120 0,aZ⟩:En).ag:=by
  simp only[ut,uu,uw];rw[r];exact aqN c d f g
 unfold Oper.wp execOp;simp only[q,ng,run_build w 57 _ _ n,qh];exact l _ _ k
theorem aqP(e:En)(k:e.ok)(k64:W64 e.m.nums)(A:Oz)(c n:Nat)(s:Lz)(r:Bool)(w:Wd)(T1:TabS w 5 dY)(T2:TabS w 0 cO)(T3:TabS w 2 dh)
 (hr:Rs w w.heap.size A s) (hn:s.length=n) (hl:n<=17592186044000):Cl 18 #[.agg e.ag,.slice A n c,.bool r] w (EncOut w e s r):=by
 have hR:=aff (fn:=Tryz.f18) (p:=6) (q:=7) (r:=8) (s:=9) rfl;have S0:=af (Eo.start w e);have K:=af k;have KG:=af (fun W=>show Cl 40 #[.agg e.m.cs.toArray] W (Ip W (aO e.m)) from Iz e.m k.m k64 W);have HIM:=aj ((Tryz.prog.info? 55).map (·.size)=some e.m.cs.length) (by rw[sS,e.m.len k.m]);have HIH:=aj ((Tryz.prog.info? 50).map (·.size)=some (au e.h).length) (by rw[xE,bf,k.h]);have TT:=af (⟨T1,T2,T3⟩:TabS w 5 dY/\TabS w 0 cO/\TabS w 2 dh);have HRS:=af hr;have HN:=af hn;have ER:=aj (dQ e s=if s.length=80 then(if aO e.m=true then(if(eu e s).2.2=true then bz (aG (enX e s)) else 2) else 2) else 1) (rfl);clear hr T1 T2 T3 k64;by_cases h80:n=80
 ·subst h80
  have ER:=aj (dQ e s=if aO e.m=true then(if(eu e s).2.2=true then bz (aG (enX e s)) else 2) else 2) (by rw[ER.o,if_pos hn]);have KH:=af (fun W (h:Bw w W)=>show Cl 41 #[.agg (au e.h).toArray,.slice A 80 c] W (QS W (eu e s).2.1 (eu e s).1 (bz (eu e s).2.2)) from by
   obtain⟨h0,h1,h2,h3,he⟩:=xC k.h;have h4:=aqs h0 h1 h2 h3 s A c 80 W ((HRS.o.below h).more h.size) hn ah;unfold eu;rw[he];exact h4)
  have HL4:=af (fun(h:(eu e s).2.2=true)=>show(eu e s).2.1.length=80/\(eu e s).1.length=4 from Y0 _ _ _ _ _ _ h);unfold QS at KH;clear k hn hl;go_enter Tryz.func18,Tryz.ntmps18;go_wp2_with(refine bZ rfl 55 (.tmp 33) rfl w.heap.size 124 rfl e.m.cs _ (EB.M S0.o.E K.o) kG rfl HIM.o ?_);with_reducible refine(KG.o _).mono ?_
  rintro e' w1 ⟨rfl,hB⟩;have S1:=af (S0.o.below hB);clear hB S0 KG;cases G:aO e.m with
  |false=>
   have HE:=aj (dQ e s=2) (Vf);clear G;go_wp2_with(refine rF rfl (.tmp 6) (.tmp 37) rfl _ eH eH rfl (iI Value.agg xw) S1.o.Z ig ig ?_);refine aX (v:=_) (hR _ _ _ eH rfl (EB.setRow S1.o.Z eH) ig) rfl ?_;exact EncOut.bad (aS S1.o.bel ah _) HE.o aA
  |true=>
   have HG:=af G;have ER:=aj (dQ e s=if(eu e s).2.2=true then bz (aG (enX e s)) else 2) (Vf);clear G;go_wp2_with(refine bZ rfl 50 (.tmp 39) rfl w.heap.size 0 rfl (au e.h) _ (EB.H S1.o.E) yT rfl HIH.o ?_);(with_reducible refine(KH.o w1 S1.o.bel).mono ?_);rintro e' w2 ⟨A2,c2,rfl,hO,hB,hcap⟩;have S2:=af (S1.o.below hB);have O2:=af hO;have HP4:=aj ((eu e s).1.length=4) (af8 _ _ _ _ _ _);have HCAP:=af hcap;clear hO hB KH hcap;obtain⟨hp,hhp⟩:=ak ((eu e s).1);obtain⟨o,ho⟩:=ak ((eu e s).2.1);have EX:=aj (enX e s=e.x.drop 80++o) (by rw[ho];rfl);cases T:(eu e s).2.2 with
   |false=>
    have HE:=aj (dQ e s=2) (Vg);rw[show bz false=2 from rfl];rw[<-hhp] at HP4|-;rw[<-ho];clear T hhp ho O2 HL4 EX ER HCAP;go_wp2_with(first
     |(refine aQ 50 (.tmp 11) (.tmp 44) [0,0,0,0] hp 4 (IB.new w2 50 [0,0,0,0]) xE rfl HP4.o ?_
       have BB:=dI w2 (.cells (agi [0,0,0,0]) 50) (agi hp)
       obtain⟨V3,hV⟩:=ak ((w2.alloc (.cells (agi [0,0,0,0]) 50)).setRow w2.heap.size (agi hp))
       have S3:=aj (Eo w V3 e) (FN)
       rw[Ed] at hV
       rw[<-hV]
       clear hV BB)
     |(refine rF rfl (.tmp 6) (.tmp 48) rfl _ eH eH rfl (iI Value.agg xw) S3.o.Z ig ig ?_))
    refine aX (v:=_) (hR _ _ _ eH rfl (EB.setRow S3.o.Z eH) ig) rfl ?_;exact EncOut.bad (aS S3.o.bel ah _) HE.o aA
   |true=>
    have ER:=aj (dQ e s=bz (aG (enX e s))) (Vg);have OL:=af (HL4.o T).1;have C80:=aj (80<=c2) (by have h:=HCAP.o;rw[OL.o] at h;exact h);rw[show bz true=0 from rfl];rw[<-hhp] at HP4|-;rw[<-ho] at OL O2|-;rw[OL.o];have HHP:=af hhp;have Q:=af ho;clear T hhp ho HL4 HCAP;obtain⟨t,rfl,_⟩:=O2.o.ad Vp;have RX:=af (fun W (h:Eo w W e)=>show Rs W W.heap.size (some ⟨w.heap.size,84,none⟩) (e.x.drop 80) from⟨qP,fun _=>⟨_,rfl,je (mP _) (dL (Cm _) h.lt),fun j v hv=>by rw[Zp];exact h.E.src K.o 80 ah j v hv⟩⟩);have XL8:=aj ((e.x.drop 80).length=40) (by rw[kJ,K.o.x]);have E0:=af (fun(W:Wd)=>(Own.nil:Own W W.heap.size none 0 []));go_wp2_with(first
     |(refine aQ 50 (.tmp 11) (.tmp 44) [0,0,0,0] hp 4 (IB.new w2 50 [0,0,0,0]) xE rfl HP4.o ?_
       have BB:=dI w2 (.cells (agi [0,0,0,0]) 50) (agi hp)
       obtain⟨V3,hV⟩:=ak ((w2.alloc (.cells (agi [0,0,0,0]) 50)).setRow w2.heap.size (agi hp))
       have S3:=aj (Eo w V3 e) (FN)
       have H3:=aj (IB V3 w2.heap.size 50 hp) (by rw[hV];exact IB.stored w2 50 [0,0,0,0] hp)
       have O3:=aj (Rs V3 w2.heap.size (some t) o) (by rw[hV];exact O2.o.below BB)
       rw[Ed] at hV
       rw[<-hV]
       clear hV BB)
     |(at_builtin;refine pg rfl (.const (.slice none 0 0)) (.tmp 51) rfl V3.heap.size none 0 0 [] rfl rfl (E0.o V3) V3.heap.size (some ⟨w.heap.size,84,none⟩) 40 40 (e.x.drop 80) rfl XL8.o (RX.o V3 S3.o) ah (ax _) ?_
       intro A4 c4 w4 hO hG _
       simp only[CE,qK] at hO
       have hb:=(aP V3.heap.size V3).grown hG (ax _) ay
       have O4:=af ((O3.o.more (kY (Blk.lt H3.o))).below hb)
       have N4:=af hO
       have B4:=af hb
       clear hO hG hb)
     |(at_builtin;refine pg rfl (.tmp 52) (.tmp 53) rfl V3.heap.size A4 c4 40 (e.x.drop 80) rfl XL8.o N4.o V3.heap.size (some t) c2 80 o rfl OL.o O4.o ah B4.o.size ?_
       intro A5 c5 w5 hO hG _
       have hb:=uX B4.o N4.o hG B4.o.size
       have S5:=af (S3.o.below hb)
       have O5:=af ((O3.o.more (kY (Blk.lt H3.o))).below hb)
       have H5:=af (Blk.below' H3.o hb)
       have I5:=af hO
       have HS5:=af hb.size
       clear hO hG hb))
    obtain⟨x,hx⟩:=ak (enX e s);have XL:=aj (x.length=120) (ahc);rw[<-EX.o,<-hx] at I5;rw[<-hx] at ER;obtain⟨ai,rfl⟩:∃ai,A5=some ai:=by
     obtain⟨ai,e,_⟩:=I5.o.reads.ad (by rw[XL.o];omega);exact⟨ai,e⟩
    have L0:=aj (w.heap.size+2<=w2.heap.size) (S2.o.lt);have KC:=aps (some ai) c5 120 x w5 I5.o.reads XL.o;unfold Bf at KC;have CL:=afX x;have CG:=af (fun(h:aG x=true)=>show rM x=fM x (lu x) 9/\ug x=0 from⟨by unfold rM;rw[if_pos ⟨XL.o,h⟩],Ue⟩);have CB:=af (fun(h:aG x=false)=>show ug x=2 from Ue);obtain⟨q,hq⟩:=ak (rM x);obtain⟨er,Y⟩:=ak (ug x);rw[<-hq] at KC CL CG;rw[<-Y] at KC CG CB;generalize EI x=qp at KC;clear hq Y;have KC:=af KC;have CL:=af CL;have OG:=aj (fU o) (by rw[Q.o];exact iw (af4 _ _));clear S2 O2 S3 H3 O3 N4 O4 B4 RX XL8 E0;(with_reducible refine KC.o.mono ?_);rintro e' w8 ⟨rfl,hB⟩;have S8:=af (S5.o.below hB);have O8:=af (O5.o.below (hB.mono HS5.o));have H8:=af (Blk.below' H5.o hB);have I8:=af (I5.o.reads.below hB);have LE8:=af (show V3.heap.size<=w8.heap.size/\w5.heap.size<=w8.heap.size from⟨dL HS5.o hB.size,hB.size⟩);clear hB KC S5 O5 H5 I5;cases hc:aG x with
    |false=>
     have HE:=aj (dQ e s=2) (Vh);rw[CB.o hc];clear hc CG CB hx ER;go_wp2_with(first
      |(refine aQ 73 (.tmp 14) (.tmp 58) Z9 q 9 (IB.new w8 73 Z9) bC rfl CL.o ?_
        have BB:=dI w8 (.cells (agi Z9) 73) (agi q)
        obtain⟨V9,hV⟩:=ak ((w8.alloc (.cells (agi Z9) 73)).setRow w8.heap.size (agi q))
        have S9:=aj (Eo w V9 e) (Um)
        rw[jR] at hV
        rw[<-hV]
        clear hV BB)
      |(refine rF rfl (.tmp 6) (.tmp 63) rfl _ eH eH rfl (iI Value.agg xw) S9.o.Z ig ig ?_))
     refine aX (v:=_) (hR _ _ _ eH rfl (EB.setRow S9.o.Z eH) ig) rfl ?_;exact EncOut.bad (aS S9.o.bel ah _) HE.o aA
    |true=>
     rw[(CG.o hc).2];have HX:=af hx;have HQ:=af (show q=fM x (lu x) 9 from(CG.o hc).1);have HE:=aj (dQ e s=0) (Vh);clear hx hc CG CB ER;have KL:=fun W=>aqu q W CL.o;unfold JK at KL;obtain⟨rf,hrf⟩:=ak (dK 8 (jS q).1);have RX:=aj (YU x=rf) (by rw[hrf,HQ.o];rfl);have RL:=aj (rf.length=8) (by rw[hrf];exact afh _);rw[<-hrf] at KL;generalize (jS q).2.1=q1 at KL;generalize (jS q).2.2=q2 at KL;have KL:=af KL;have KA:=fun W (h:Bw w W)=>amb rf W RL.o (TT.o.2.2.below h);unfold vF at KA;obtain⟨i,hqn⟩:=ak (aL qV eU rf);have QX:=aj (enQ x=i) (by rw[hqn,<-RX.o];rfl);have QL:=aj (i.length=8) (by rw[<-QX.o];exact AZ x);rw[<-hqn] at KA;generalize aE eU rf 8=qe at KA;have KA:=af KA;have KV:=af (fun W (h:Bw w W)=>show Cl 45 #[.agg (au i).toArray] W (fun e w'=>e=.returned (.tuple #[.agg (agi (lU x)),.int .i64 0])/\Bw W w') from by
      have h1:=adn i W QL.o (TT.o.2.2.below h);unfold vF at h1;have g1:aL lvV ed i=lU x:=(by rw[<-QX.o];exact(Ql x).1);have g2:aE ed i 8=0:=(by rw[<-QX.o];exact(Ql x).2);rw[g1,g2] at h1;exact h1)
     have NL:=aj ((lU x).length=8) (by unfold lU;simp);have SN:=aj (dH (lU x)=true) (afk x);obtain⟨now,hnow⟩:=ak (lU x);rw[<-hnow] at KV NL SN;have HNOW:=af hnow;clear hrf hqn hnow;go_wp2_with(first
      |(refine aQ 73 (.tmp 14) (.tmp 58) Z9 q 9 (IB.new w8 73 Z9) bC rfl CL.o ?_
        have BB:=dI w8 (.cells (agi Z9) 73) (agi q)
        obtain⟨V9,hV⟩:=ak ((w8.alloc (.cells (agi Z9) 73)).setRow w8.heap.size (agi q))
        have S9:=aj (Eo w V9 e) (Um)
        have O9:=aj (Rs V9 V3.heap.size (some t) o) (by rw[hV];exact O8.o.below (BB.mono LE8.o.1))
        have H9:=aj (IB V9 w2.heap.size 50 hp) (by rw[hV];exact Blk.below' H8.o BB)
        have I9:=aj (Rs V9 w5.heap.size (some ai) x) (by rw[hV];exact I8.o.below (BB.mono LE8.o.2))
        have C9:=aj (IB V9 w8.heap.size 73 q) (by rw[hV];exact IB.stored w8 73 Z9 q)
        rw[jR] at hV
        rw[<-hV]
        clear hV BB)
      |(refine aK 73 (.tmp 14) q 9 C9.o bP bC CL.o ?_))
     (with_reducible refine(KL.o V9).mono ?_);rintro e' w11 ⟨rfl,hB⟩;have LV9:=af (Blk.lt C9.o);have S11:=af (S9.o.below hB);have O11:=af ((O9.o.more (dL LE8.o.1 (kY LV9.o))).below hB);have H11:=af (Blk.below' H9.o hB);have I11:=af ((I9.o.more (dL LE8.o.2 (kY LV9.o))).below hB);have HS11:=af hB.size;clear hB KL S8 O8 H8 I8 S9 O9 I9 C9;go_wp2_with(first
      |(refine aQ 52 (.tmp 16) (.tmp 68) Z8 rf 8 (IB.new w11 52 Z8) aJ rfl RL.o ?_
        have BB:=dI w11 (.cells (agi Z8) 52) (agi rf)
        obtain⟨I,hV⟩:=ak ((w11.alloc (.cells (agi Z8) 52)).setRow w11.heap.size (agi rf))
        have S12:=aj (Eo w I e) (by rw[hV];exact S11.o.below BB)
        have O12:=aj (Rs I V9.heap.size (some t) o) (by rw[hV];exact O11.o.below (BB.mono HS11.o))
        have H12:=aj (IB I w2.heap.size 50 hp) (by rw[hV];exact Blk.below' H11.o BB)
        have I12:=aj (Rs I V9.heap.size (some ai) x) (by rw[hV];exact I11.o.below (BB.mono HS11.o))
        have F12:=aj (IB I w11.heap.size 52 rf) (by rw[hV];exact IB.stored w11 52 Z8 rf)
        rw[dP] at hV
        rw[<-hV]
        clear hV BB
        have BP:=dI I (.cells (agi Z25) 81) (agi Z25)
        have LV12:=Blk.lt F12.o
        obtain⟨V13,hW⟩:=ak ((I.alloc (.cells (agi Z25) 81)).setRow I.heap.size (agi Z25))
        have J13:=aj (Xj w V13 e t o w2.heap.size hp ai x I.heap.size Z25) (by
         rw[hW]
         exact⟨S12.o.below BP,(O12.o.more (by have:=HS11.o;omega)).below BP,Blk.below' H12.o BP,(I12.o.more (by have:=HS11.o;omega)).below BP,IB.stored I 81 Z25 Z25,L0.o,Blk.lt H12.o⟩)
        have V:=aj (IB V13 w11.heap.size 52 rf) (by rw[hW];exact Blk.below' F12.o BP)
        have hW2:=hW.trans (iI (fun z=>(I.alloc (.cells z 81)).setRow I.heap.size (agi Z25)) Qx)
        have HW13:=af hW2.symm
        clear BP LV12 hW hW2)
      |(refine aQ 81 (.tmp 19) (.tmp 71) Z25 Z25 25 (IB.new I 81 Z25) dF rfl rfl ?_;rw[HW13.o];clear HW13)
      |(refine aK 52 (.tmp 16) rf 8 V.o aU aJ RL.o ?_))
     (with_reducible refine(KA.o V13 J13.o.L.bel).mono ?_);rintro e' w14 ⟨rfl,hB⟩;have J14:=af (J13.o.below hB);obtain⟨gH,hgH⟩:∃g,g=w2.heap.size:=⟨_,rfl⟩;obtain⟨gP,hgP⟩:∃g,g=I.heap.size:=⟨_,rfl⟩;rw[<-hgH,<-hgP] at J14|-;clear hB hgH hgP KA S11 O11 H11 I11 S12 O12 H12 I12 F12 J13 V H9;obtain⟨f,hm0⟩:=ak (rD r e.m);have K0:=aj (f.ok) (by rw[hm0];exact afs r K.o.m);have G0:=aj (aO f=true) (by rw[hm0];exact aft r HG.o);obtain⟨was,hwas⟩:=ak (f.r);have WL:=aj (was.length=8) (UC);have SW:=aj (dH was=true) (by rw[hwas];exact Ji (jr G0.o).1);have ZL:=aj ((enZ 0 i was now o f 0).length=25) (Bc QL.o ah);have HIQ:=aj ((Tryz.prog.info? 52).map (·.size)=some (au i).length) (by rw[bf,QL.o];exact aJ);have HQN:=af (fun W kd gP (h:IB W gP 81 (enZ kd i was now o f 0))=>show W.rangeAt gP 1 (au i) from af5 QL.o h);have HM0:=af hm0;have HWAS:=af hwas;clear hm0 hwas;have HPP:=aj (jJ e s r=enP (vI r o) i was now o f) (by
      have h1:jJ e s r=enP (vI r (eu e s).2.1) (enQ (enX e s)) (rD r e.m).r (lU (enX e s)) (eu e s).2.1 (rD r e.m):=rfl;rw[h1,<-Q.o,<-HX.o,QX.o,<-HNOW.o,<-HM0.o,<-HWAS.o])
     cases r with
     |true=>
      have M0:=aj (f=eQ) (HM0.o);have KFr:=af (fun W=>show Cl 17 #[] W (fun e w'=>e=.returned (.agg f.ag)/\Bw W w') from by rw[M0.o];exact Oa W);go_wp2_with(first
       |(refine iY rfl 52 (.tmp 77) (.tmp 75) rfl gP 1 (agi i) rfl rfl (by rw[dX,QL.o];exact IB.thereAt J14.o.P 1 8 (by simp[Z25])) wu (ik _) ?_
         have J15:=aj (Xj w (w14.setCells gP 1 (au i)) e t o gH hp ai x gP (enZ 0 i was now o f 0)) (J14.o.over _ _ (IB.over (A:=[0]) (old:=List.replicate 8 0) (B:=List.replicate 16 0) J14.o.P rfl (by rw[QL.o];rfl) (Qm QL.o).symm rfl))
         obtain⟨V15,hV15⟩:=ak (w14.setCells gP 1 (au i))
         rw[<-hV15] at J15
         rw[show(agi i).toList=au i from rfl,<-hV15]
         clear hV15)
       |(refine bZ rfl 52 (.tmp 79) rfl gP 1 rfl (au i) _ (HQN.o _ _ _ J15.o.P) aU rfl HIQ.o ?_))
      (with_reducible refine(KV.o V15 J15.o.L.bel).mono ?_);rintro e' F ⟨rfl,hB⟩;have J16:=af (J15.o.below hB);clear hB J14 J15;go_wp2_with(first
       |(refine aQ 52 (.tmp 20) (.tmp 82) Z8 now 8 (IB.new F 52 Z8) aJ rfl NL.o ?_
         have BB:=dI F (.cells (agi Z8) 52) (agi now)
         obtain⟨l,hV⟩:=ak ((F.alloc (.cells (agi Z8) 52)).setRow F.heap.size (agi now))
         have J17:=aj (Xj w l e t o gH hp ai x gP (enZ 0 i was now o f 0)) (by rw[hV];exact J16.o.below BB)
         have N17:=aj (IB l F.heap.size 52 now) (by rw[hV];exact IB.stored F 52 Z8 now)
         rw[dP] at hV
         rw[<-hV]
         clear hV BB)
       |(refine bZ rfl 55 (.tmp 84) rfl w.heap.size 124 rfl e.m.cs _ (EB.M J17.o.L.E K.o) kG rfl HIM.o ?_)
       |(refine dW rfl (.tmp 22) (.tmp 85) rfl _ aZ e.m rfl rfl (oh l) df K.o.m ?_
         have BB:=dI l (.cells Tryz.zeroCells55 55) e.m.ag
         have R:=af (show Xm w ((l.alloc (.cells Tryz.zeroCells55 55)).setRow l.heap.size e.m.ag) e t o gH hp ai x gP (enZ 0 i was now o f 0) F.heap.size now l.heap.size e.m from⟨J17.o.below BB,Blk.below' N17.o BB,MB.setRow (oh l) e.m,J16.o.lt,Blk.lt N17.o⟩)
         obtain⟨V18,hV18⟩:=ak ((l.alloc (.cells Tryz.zeroCells55 55)).setRow l.heap.size e.m.ag)
         rw[<-hV18] at R|-
         clear hV18 BB))
      obtain⟨gN,hgN⟩:∃g,g=F.heap.size:=⟨_,rfl⟩;obtain⟨gM,hgM⟩:∃g,g=l.heap.size:=⟨_,rfl⟩;rw[<-hgN,<-hgM] at R|-;clear hgN hgM J16 J17 N17;(with_reducible refine(KFr.o _).mono ?_);rintro e' X ⟨rfl,hB⟩;have M19:=af (R.o.below hB);clear hB R KFr;have c0:=M19.o.J.P.cell 0 Vq;have f0:=Blk.frozen M19.o.J.P 0;have M20a:=aj (Xm w (X.setCell ⟨gP,0,none⟩ (.int .i64 1)) e t o gH hp ai x gP (enZ 1 i was now o f 0) gN now gM e.m) (M19.o.kind 1);have N:=af (M20a.o.rowM (mm:=f));obtain⟨V21,hV21⟩:=ak ((X.setCell ⟨gP,0,none⟩ (.int .i64 1)).setRow gM f.ag);rw[<-hV21] at N;have HV21:=af hV21;clear hV21;go_wp2_with(first
       |(refine dW rfl (.tmp 22) (.tmp 87) rfl _ e.m f rfl rfl M20a.o.M K.o.m K0.o ?_;rw[<-HV21.o];clear HV21))
      clear M20a M19 c0 f0;obtain⟨kd,hkd⟩:=ak (1:Int);obtain⟨rr,hrr⟩:=ak (true:Bool);have HPF:=aj (jJ e s rr=enZ kd i was now o f 2) (ahx);have HRR:=af hrr;rw[<-hkd] at N;have hk2:(kd==2)=false:=zK;have hk3:(kd !=2)=true:=zK;clear hkd hrr;go_loopw[23] (fun iv wr=> ∃j:Nat,j<=2/\iv=.int .i64 j/\Hy (Xm w wr e t o gH hp ai x gP (enZ kd i was now o f j) gN now gM (enK was now o f j))) (fun iv _=>2-(intOf iv).toNat)
      case atStart=>exact⟨0,ah,rfl,N⟩
      case round=>
       clear N;obtain⟨j,hj,rfl,C⟩:=hrel;obtain⟨ps,D⟩:=ak (enZ kd i was now o f j);obtain⟨mk,hmk⟩:=ak (enK was now o f j);rw[<-D,<-hmk] at C;have PL:=aj (ps.length=25) (Ug);have P0:=aj (ps.getD 0 0=kd) (Gv);have KO:=aj (mk.ok) (Uk);have RK:=aj (mk.r=was) (UM);have c0:=C.o.J.P.cell 0 zH;rw[P0.o] at c0;have HPS:=af D;have HMK:=af hmk;clear D hmk;by_cases hlt:j<2
       ·exact ahz
       obtain rfl:j=2:=ah;have HPK:=aj (jJ e s rr=ps) (Uz);have J0:=af C.o.J;have b1:decide (((2:Nat):Int)<2)=false:=ay;clear C HMK RK KO c0;exact abg
     |false=>
      have M0:=aj (f=e.m) (HM0.o);have KQ:=af (fun W (h:Rs W W.heap.size (some t) o)=>show Cl 46 #[.slice (some t) 80 c2,.slice (some t) 80 c2] W (fun e w'=>e=.returned (.int .i64 (bQ o o 80))/\Bw W w') from Dy (some t) (some t) c2 c2 80 80 o o W h h OL.o OL.o (ax _) ah OG.o OG.o);have KD0:=aj (vI false o=if decide (bQ o o 80<16*80) then 2 else 0) (rfl);obtain⟨dv,hdv⟩:∃d,d=bQ o o 80:=⟨_,rfl⟩;rw[<-hdv] at KQ KD0;clear hdv;go_wp2_with(first
       |(refine iY rfl 52 (.tmp 77) (.tmp 75) rfl gP 1 (agi i) rfl rfl (by rw[dX,QL.o];exact IB.thereAt J14.o.P 1 8 (by simp[Z25])) wu (ik _) ?_
         have J15:=aj (Xj w (w14.setCells gP 1 (au i)) e t o gH hp ai x gP (enZ 0 i was now o f 0)) (J14.o.over _ _ (IB.over (A:=[0]) (old:=List.replicate 8 0) (B:=List.replicate 16 0) J14.o.P rfl (by rw[QL.o];rfl) (Qm QL.o).symm rfl))
         obtain⟨V15,hV15⟩:=ak (w14.setCells gP 1 (au i))
         rw[<-hV15] at J15
         rw[show(agi i).toList=au i from rfl,<-hV15]
         clear hV15)
       |(refine bZ rfl 52 (.tmp 79) rfl gP 1 rfl (au i) _ (HQN.o _ _ _ J15.o.P) aU rfl HIQ.o ?_))
      (with_reducible refine(KV.o V15 J15.o.L.bel).mono ?_);rintro e' F ⟨rfl,hB⟩;have J16:=af (J15.o.below hB);clear hB J14 J15;go_wp2_with(first
       |(refine aQ 52 (.tmp 20) (.tmp 82) Z8 now 8 (IB.new F 52 Z8) aJ rfl NL.o ?_
         have BB:=dI F (.cells (agi Z8) 52) (agi now)
         obtain⟨l,hV⟩:=ak ((F.alloc (.cells (agi Z8) 52)).setRow F.heap.size (agi now))
         have J17:=aj (Xj w l e t o gH hp ai x gP (enZ 0 i was now o f 0)) (by rw[hV];exact J16.o.below BB)
         have N17:=aj (IB l F.heap.size 52 now) (by rw[hV];exact IB.stored F 52 Z8 now)
         rw[dP] at hV
         rw[<-hV]
         clear hV BB)
       |(refine bZ rfl 55 (.tmp 84) rfl w.heap.size 124 rfl e.m.cs _ (EB.M J17.o.L.E K.o) kG rfl HIM.o ?_)
       |(refine dW rfl (.tmp 22) (.tmp 85) rfl _ aZ e.m rfl rfl (oh l) df K.o.m ?_
         have BB:=dI l (.cells Tryz.zeroCells55 55) e.m.ag
         have R:=af (show Xm w ((l.alloc (.cells Tryz.zeroCells55 55)).setRow l.heap.size e.m.ag) e t o gH hp ai x gP (enZ 0 i was now o f 0) F.heap.size now l.heap.size e.m from⟨J17.o.below BB,Blk.below' N17.o BB,MB.setRow (oh l) e.m,J16.o.lt,Blk.lt N17.o⟩)
         obtain⟨V18,hV18⟩:=ak ((l.alloc (.cells Tryz.zeroCells55 55)).setRow l.heap.size e.m.ag)
         rw[<-hV18] at R|-
         clear hV18 BB))
      obtain⟨gN,hgN⟩:∃g,g=F.heap.size:=⟨_,rfl⟩;obtain⟨gM,hgM⟩:∃g,g=l.heap.size:=⟨_,rfl⟩;rw[<-hgN,<-hgM] at R|-;clear hgN hgM J16 J17 N17;have M0:=M0.o;rw[<-M0] at R;clear M0;(with_reducible refine(KQ.o V18 (R.o.J.O.more (kY R.o.J.lt))).mono ?_);rintro e' X ⟨rfl,hB⟩;have M19:=af (R.o.below hB);clear hB R KQ;by_cases U:dv<1280
      ·have HPP:=aj (jJ e s false=enP 2 i was now o f) (by rw[HPP.o,KD0.o,if_pos (by simpa using U)])
       have c0:=M19.o.J.P.cell 0 Vq;have f0:=Blk.frozen M19.o.J.P 0;have N:=aj (Xm w (X.setCell ⟨gP,0,none⟩ (.int .i64 2)) e t o gH hp ai x gP (enZ 2 i was now o f 0) gN now gM f) (M19.o.kind 2);obtain⟨V20,hV20⟩:=ak (X.setCell ⟨gP,0,none⟩ (.int .i64 2));rw[<-hV20] at N;have HV20:=af hV20;have hdb:decide (dv<1280)=true:=(by simpa using U);clear hV20 KD0 M19 U;go_wp2_with(rw[<-HV20.o];clear HV20 c0 f0);obtain⟨ps,D⟩:=ak (enZ 2 i was now o f 0);rw[<-D] at N;have HPK:=aj (jJ e s false=ps) (by rw[D];exact HPP.o.trans afn.symm);have HPS:=aj (ps.getD 0 0=2) (Gv);have PL:=aj (ps.length=25) (by rw[D];exact Bc QL.o ah);clear D hdb;go_loopw[23] (fun iv wr=>iv=.int .i64 0/\Hy (Xj w wr e t o gH hp ai x gP ps)) (fun _ _=>0)
       case atStart=>exact⟨rfl,af N.o.J⟩
       case round=>
        clear N;obtain⟨rfl,J0⟩:=hrel;have c0:=J0.o.P.cell 0 zH;rw[HPS.o] at c0;obtain⟨rr,hrr⟩:=ak (false:Bool);have HPK:=aj (jJ e s rr=ps) (by rw[hrr];exact HPK.o);have HRR:=af hrr;clear hrr;exact abg
      have HPP:=aj (jJ e s false=enP 0 i was now o f) (by rw[HPP.o,KD0.o,if_neg (by simpa using U)]);have hdb:decide (dv<1280)=false:=(by simpa using U);have N:=M19;clear KD0 M19 U;go_wp2_with fail;obtain⟨kd,hkd⟩:=ak (0:Int);obtain⟨rr,hrr⟩:=ak (false:Bool);have HPF:=aj (jJ e s rr=enZ kd i was now o f 2) (ahy);have HRR:=af hrr;rw[<-hkd] at N;have hk2:(kd==2)=false:=zK;have hk3:(kd !=2)=true:=zK;clear hkd hrr;go_loopw[23] (fun iv wr=> ∃j:Nat,j<=2/\iv=.int .i64 j/\Hy (Xm w wr e t o gH hp ai x gP (enZ kd i was now o f j) gN now gM (enK was now o f j))) (fun iv _=>2-(intOf iv).toNat)
      case atStart=>exact⟨0,ah,rfl,N⟩
      case round=>
       clear N;obtain⟨j,hj,rfl,C⟩:=hrel;obtain⟨ps,D⟩:=ak (enZ kd i was now o f j);obtain⟨mk,hmk⟩:=ak (enK was now o f j);rw[<-D,<-hmk] at C;have PL:=aj (ps.length=25) (Ug);have P0:=aj (ps.getD 0 0=kd) (Gv);have KO:=aj (mk.ok) (Uk);have RK:=aj (mk.r=was) (UM);have c0:=C.o.J.P.cell 0 zH;rw[P0.o] at c0;have HPS:=af D;have HMK:=af hmk;clear D hmk;by_cases hlt:j<2
       ·exact ahz
       obtain rfl:j=2:=ah;have HPK:=aj (jJ e s rr=ps) (Uz);have J0:=af C.o.J;have b1:decide (((2:Nat):Int)<2)=false:=ay;clear C HMK RK KO c0;exact abg
 ·have ER:=aj (dQ e s=1) (by rw[ER.o,if_neg ah])
  have hne:((n:Int) !=80)=true:=aC;clear KG K k HN TT hn;go_enter Tryz.func18,Tryz.ntmps18;go_wp2_with(refine rF rfl (.tmp 6) (.tmp 32) rfl _ eH eH rfl (iI Value.agg xw) S0.o.Z ig ig ?_);exact aiA
