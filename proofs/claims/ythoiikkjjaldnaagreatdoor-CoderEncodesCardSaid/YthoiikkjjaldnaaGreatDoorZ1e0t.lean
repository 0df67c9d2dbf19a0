/- Texts that the law rests on. -/
import Derived.Test.YthoiikkjjaldnaaGreatDoorZ1e0m
import Derived.Test.YthoiikkjjaldnaaGreatDoorZ1e0o
import Derived.Test.YthoiikkjjaldnaaGreatDoorZ1e0p
import Derived.Test.YthoiikkjjaldnaaGreatDoorZ1e0q
import Derived.Test.YthoiikkjjaldnaaGreatDoorZ1e0s
namespace Go.Proofs.YthoiikkjjaldnaaGreatDoor
set_option linter.unusedVariables false
set_option linter.unusedSimpArgs false
set_option maxRecDepth 100000
set_option maxHeartbeats 8000000
open Go.RowKit
structure Xj(w W:World)(e:En)(ad:Addr)(o:List Int)(gH:Nat)(hp:List Int)(ai:Addr)(x:List Int)(gP:Nat)(ps:List Int):Prop where
 L:Eo w W e
 O:Rs W gP (some ad) o
 H:IB W gH 44 hp
 I:Rs W gP (some ai) x
 P:IB W gP 38 ps
 l0:w.heap.size+2<=gH
 lh:gH<gP
section
variable {w W W':World} {e:En} {ad ai:Addr} {o hp x ps ps':List Int} {gH gP:Nat}
theorem Xj.lt(s:Xj w W e ad o gH hp ai x gP ps):gP<W.heap.size:=Blk.lt s.P
theorem Xj.below(s:Xj w W e ad o gH hp ai x gP ps)(hb:Below W.heap.size W W'):Xj w W' e ad o gH hp ai x gP ps:=
 ⟨s.L.below hb,s.O.below (hb.mono (jy s.lt)),Blk.below' s.H hb,s.I.below (hb.mono (jy s.lt)),Blk.below' s.P hb,s.l0,s.lh⟩
theorem Xj.over(s:Xj w W e ad o gH hp ai x gP ps)(vs:List Value)(i:Nat)(h:IB (W.setCells gP i vs) gP 38 ps'):Xj w (W.setCells gP i vs) e ad o gH hp ai x gP ps':=
 ⟨s.L.far UR vs i,s.O.below (iM (al0z _) _ _ _ (aA _ _)),dh (by have:=s.lh;omega) _ _ _ s.H,s.I.below (iM (al0z _) _ _ _ (aA _ _)),h,s.l0,s.lh⟩
theorem Xj.far(s:Xj w W e ad o gH hp ai x gP ps){g:Nat}(hg:gP<g)(vs:List Value)(i:Nat):Xj w (W.setCells g i vs) e ad o gH hp ai x gP ps:=
 ⟨s.L.far UR vs i,s.O.below (iM ah _ _ _ (aA _ _)),dh (by have:=s.lh;omega) _ _ _ s.H,s.I.below (iM ah _ _ _ (aA _ _)),dh ah _ _ _ s.P,s.l0,s.lh⟩
theorem Xj.farR(s:Xj w W e ad o gH hp ai x gP ps){g:Nat}(hg:gP<g)(cs:Array Value):Xj w (W.setRow g cs) e ad o gH hp ai x gP ps:=
 ⟨s.L.farR UR cs,s.O.below (aS (aA gP W) ah cs),Blk.rowFar s.H (by have:=s.lh;omega),s.I.below (aS (aA gP W) ah cs),Blk.rowFar s.P ah,s.l0,s.lh⟩
end
structure Xm(w W:World)(e:En)(ad:Addr)(o:List Int)(gH:Nat)(hp:List Int)(ai:Addr)(x:List Int)(gP:Nat)(ps:List Int)(gN:Nat)(now:List Int)(gM:Nat)(m:Mm):Prop where
 J:Xj w W e ad o gH hp ai x gP ps
 N:IB W gN 22 now
 M:MB W gM m
 l1:gP<gN
 l2:gN<gM
section
variable {w W W':World} {e:En} {ad ai:Addr} {o hp x ps ps' now:List Int} {gH gP gN gM:Nat} {m mm:Mm}
theorem Xm.lt(s:Xm w W e ad o gH hp ai x gP ps gN now gM m):gM<W.heap.size:=Blk.lt s.M
theorem Xm.below(s:Xm w W e ad o gH hp ai x gP ps gN now gM m)(hb:Below W.heap.size W W'):Xm w W' e ad o gH hp ai x gP ps gN now gM m:=⟨s.J.below hb,Blk.below' s.N hb,Blk.below' s.M hb,s.l1,s.l2⟩
theorem Xm.over(s:Xm w W e ad o gH hp ai x gP ps gN now gM m)(vs:List Value)(i:Nat)(h:IB (W.setCells gP i vs) gP 38 ps'):Xm w (W.setCells gP i vs) e ad o gH hp ai x gP ps' gN now gM m:=
 ⟨s.J.over vs i h,dh Ff _ _ _ s.N,dh MP _ _ _ s.M,s.l1,s.l2⟩
theorem Xm.kind(s:Xm w W e ad o gH hp ai x gP ps gN now gM m)(z:Int):Xm w (W.setCell ⟨gP,0,none⟩ (.int .i64 z)) e ad o gH hp ai x gP (ps.set 0 z) gN now gM m:=s.over [.int .i64 z] 0 (s.J.P.set_ 0 z)
theorem Xm.rowM(s:Xm w W e ad o gH hp ai x gP ps gN now gM m):Xm w (W.setRow gM mm.ag) e ad o gH hp ai x gP ps gN now gM mm:=
 ⟨s.J.farR MP _,Blk.rowFar s.N Om,s.M.setRow mm,s.l1,s.l2⟩
theorem Xm.setP(s:Xm w W e ad o gH hp ai x gP ps gN now gM m)(k:m.ok)(p:List Int)(h:p.length=8):Xm w (W.setCells gM 8 (aj p)) e ad o gH hp ai x gP ps gN now gM {m with p:=p}:=
 ⟨s.J.far MP _ _,dh Om _ _ _ s.N,s.M.set_p k p h,s.l1,s.l2⟩
end
structure Xw(w W:World)(e:En)(ad:Addr)(o:List Int)(gH:Nat)(hp:List Int)(ai:Addr)(x:List Int)(gP:Nat)(ps:List Int)(gN:Nat)(now:List Int)(gM:Nat)(m:Mm)(gA:Nat)(a:List Int):Prop where
 R:Xm w W e ad o gH hp ai x gP ps gN now gM m
 F:IB W gA 90 a
theorem ajW{w:World}{base c g:Nat}{A:Option Addr}{xs:List Int}(h:OwnB w base A c xs)(hne:∀a,A=some a->a.block≠g)(cs:Array Value):OwnB (w.setRow g cs) base A c xs:=
 JS h (row:=some g) ⟨rfl,rfl,rfl,by simp[World.setRow],fun i _ hn=>setRow_other w g i cs UK⟩ (fun a ha x=>hne a ha (nP x))
theorem ajX{w:World}{base c g:Nat}{A:Option Addr}{xs:List Int}(h:OwnB w base A c xs)(hne:∀a,A=some a->a.block≠g)(vs:List Value)(o:Nat):OwnB (w.setCells g o vs) base A c xs:=
 JS h (TU g vs o w) (fun a ha x=>hne a ha (nP x))
theorem ajY(h0 h1 h2 h3:Int):Tryz.prog.built 47 [(0,.agg (agi [h0,h1,h2,h3]))]=some (⟨[h0,h1,h2,h3],List.replicate 120 0,bZ⟩:En).ag:=au
theorem ajZ{ops:Array Oper}{rest:List Oper}{op:Oper}{a:Act}{w:World}{Q:Exit->Act->World->Prop}(hgd:op.guard=none)(x:Operand)(ho:op.op=.build 47 #[(0,x)])(h0 h1 h2 h3:Int)(hx:a.eval x=.agg (agi [h0,h1,h2,h3]))
 (e:En) (he:e=⟨[h0,h1,h2,h3],List.replicate 120 0,bZ⟩) (k:wpList Tryz.prog ops Q rest (a.put op.dst (.agg e.ag)) w):wpList Tryz.prog ops Q (op::rest) a w:=by
 subst he
 refine wpList_plain hgd fun K hK=>?_
 have hc:Tryz.prog.built 47 ((#[(0,x)]:Array (Nat×Operand)).map fun(i,x)=>(i,a.eval x)).toList=some (⟨[h0,h1,h2,h3],List.replicate 120 0,bZ⟩:En).ag:=by
  simp only[List.map_toArray,List.map_cons,List.map_nil]
  rw[hx]
  exact ajY h0 h1 h2 h3
 unfold Oper.wp execOp
 simp only[ho,nR,run_build w 47 _ _ hc,nU]
 exact hK _ _ k
theorem aj0(e:En)(k:e.ok)(k64:W64 e.m.nums)(A:Option Addr)(c n:Nat)(s:List Int)(r:Bool)(w:World)(T1:TabS w 5 iy)(T2:TabS w 1 aY)(T3:TabS w 0 fD)
 (hr:Rs w w.heap.size A s) (hn:s.length=n) (hl:n<=17592186044000):Calls Tryz.prog 13 #[.agg e.ag,.slice A n c,.bool r] w (EncOut w e s r):=by
 have hR:=ZW (fn:=Tryz.f13) (p:=6) (q:=7) (r:=8) (s:=9) rfl
 have S0:=hid (Eo.start w e)
 have K:=hid k
 have KG:=hid (fun W=>show Calls Tryz.prog 25 #[.agg e.m.cs.toArray] W (zD W (aU e.m)) from WJ e.m k.m k64 W)
 have HIM:=hid (show(Tryz.prog.info? 25).map (·.size)=some e.m.cs.length from by rw[yg,e.m.len k.m])
 have HIH:=hid (show(Tryz.prog.info? 44).map (·.size)=some (aj e.h).length from by rw[uX,aQ,k.h])
 have TT:=hid (⟨T1,T2,T3⟩:TabS w 5 iy/\TabS w 1 aY/\TabS w 0 fD)
 have HRS:=hid hr
 have HN:=hid hn
 have ER:=hid (show iI e s=if s.length=80 then(if aU e.m=true then(if(dG e s).2.2=true then aZ (aG (enX e s)) else 2) else 2) else 1 from rfl)
 clear hr T1 T2 T3 k64
 by_cases h80:n=80
 ·subst h80
  have ER:=hid (show iI e s=if aU e.m=true then(if(dG e s).2.2=true then aZ (aG (enX e s)) else 2) else 2 from by rw[ER.out,if_pos hn])
  have KH:=hid (fun W (h:Below w.heap.size w W)=>show Calls Tryz.prog 48 #[.agg (aj e.h).toArray,.slice A 80 c] W (JZ W (dG e s).2.1 (dG e s).1 (aZ (dG e s).2.2)) from by
   obtain⟨h0,h1,h2,h3,he⟩:=uV k.h
   have h4:=ajD h0 h1 h2 h3 s A c 80 W ((HRS.out.below h).more h.size) hn ah
   unfold dG
   rw[he]
   exact h4)
  have HL4:=hid (fun(h:(dG e s).2.2=true)=>show(dG e s).2.1.length=80/\(dG e s).1.length=4 from Su _ _ _ _ _ _ h)
  unfold JZ at KH
  clear k hn hl
  go_enter Tryz.func13,Tryz.ntmps13
  go_wp2_with(refine bI rfl 25 (.tmp 33) rfl w.heap.size 124 rfl e.m.cs _ (EB.M S0.out.E K.out) Tryz.underlying25 rfl HIM.out ?_)
  with_reducible refine(KG.out _).mono ?_
  rintro e' w1 ⟨rfl,hB⟩
  have S1:=hid (S0.out.below hB)
  clear hB S0 KG
  cases hg:aU e.m with
  |false=>
   have HE:=hid (show iI e s=2 from N7)
   clear hg
   go_wp2_with(refine oI rfl (.tmp 6) (.tmp 37) rfl _ dH dH rfl (congrArg Value.agg uP) S1.out.Z ik ik ?_)
   refine bg (v:=_) (hR _ _ _ dH rfl (EB.setRow S1.out.Z dH) ik) rfl ?_
   exact EncOut.bad (aS S1.out.bel ah _) HE.out aB
  |true=>
   have HG:=hid hg
   have ER:=hid (show iI e s=if(dG e s).2.2=true then aZ (aG (enX e s)) else 2 from N7)
   clear hg
   go_wp2_with(refine bI rfl 44 (.tmp 39) rfl w.heap.size 0 rfl (aj e.h) _ (EB.H S1.out.E) Tryz.underlying44 rfl HIH.out ?_)
   with_reducible refine(KH.out w1 S1.out.bel).mono ?_
   rintro e' w2 ⟨A2,c2,rfl,hO,hB,hcap⟩
   have S2:=hid (S1.out.below hB)
   have O2:=hid hO
   have HP4:=hid (show(dG e s).1.length=4 from aaR _ _ _ _ _ _)
   have HCAP:=hid hcap
   clear hO hB KH hcap
   obtain⟨hp,hhp⟩:∃hp,hp=(dG e s).1:=⟨_,rfl⟩
   obtain⟨o,ho⟩:∃o,o=(dG e s).2.1:=⟨_,rfl⟩
   have EX:=hid (show enX e s=e.x.drop 80++o from by rw[ho];rfl)
   cases hh:(dG e s).2.2 with
   |false=>
    have HE:=hid (show iI e s=2 from Oa)
    rw[show aZ false=2 from rfl]
    rw[<-hhp] at HP4|-
    rw[<-ho]
    clear hh hhp ho O2 HL4 EX ER HCAP
    go_wp2_with(first
     |(refine aP rfl 44 (.tmp 11) (.tmp 44) rfl _ 44 [0,0,0,0] hp 4 rfl rfl (IB.new w2 44 [0,0,0,0]) uX rfl HP4.out ?_
       have BB:=bT w2 (.cells (agi [0,0,0,0]) 44) (agi hp)
       obtain⟨V3,hV⟩:∃V3,V3=(w2.alloc (.cells (agi [0,0,0,0]) 44)).setRow w2.heap.size (agi hp):=⟨_,rfl⟩
       have S3:=hid (show Eo w V3 e from MI)
       rw[zX] at hV
       rw[<-hV]
       clear hV BB)
     |(refine oI rfl (.tmp 6) (.tmp 48) rfl _ dH dH rfl (congrArg Value.agg uP) S3.out.Z ik ik ?_))
    refine bg (v:=_) (hR _ _ _ dH rfl (EB.setRow S3.out.Z dH) ik) rfl ?_
    exact EncOut.bad (aS S3.out.bel ah _) HE.out aB
   |true=>
    have ER:=hid (show iI e s=aZ (aG (enX e s)) from Oa)
    have OL:=hid (HL4.out hh).1
    have C80:=hid (show 80<=c2 from by have h:=HCAP.out;rw[OL.out] at h;exact h)
    rw[show aZ true=0 from rfl]
    rw[<-hhp] at HP4|-
    rw[<-ho] at OL O2|-
    rw[OL.out]
    have HHP:=hid hhp
    have HO:=hid ho
    clear hh hhp ho HL4 HCAP
    obtain⟨ad2,rfl,_⟩:=O2.out.ad Oo
    have RX:=hid (fun W (h:Eo w W e)=>show Rs W W.heap.size (some ⟨w.heap.size,84,none⟩) (e.x.drop 80) from⟨nZ,fun _=>⟨_,rfl,lF (qi _) (gJ (Nat.le_succ _) h.lt),fun j v hv=>by rw[TP];exact h.E.src K.out 80 ah j v hv⟩⟩)
    have XL8:=hid (show(e.x.drop 80).length=40 from by rw[jY,K.out.x])
    have E0:=hid (fun(W:World)=>(Own.nil:Own W W.heap.size none 0 []))
    go_wp2_with(first
     |(refine aP rfl 44 (.tmp 11) (.tmp 44) rfl _ 44 [0,0,0,0] hp 4 rfl rfl (IB.new w2 44 [0,0,0,0]) uX rfl HP4.out ?_
       have BB:=bT w2 (.cells (agi [0,0,0,0]) 44) (agi hp)
       obtain⟨V3,hV⟩:∃V3,V3=(w2.alloc (.cells (agi [0,0,0,0]) 44)).setRow w2.heap.size (agi hp):=⟨_,rfl⟩
       have S3:=hid (show Eo w V3 e from MI)
       have H3:=hid (show IB V3 w2.heap.size 44 hp from by rw[hV];exact IB.stored w2 44 [0,0,0,0] hp)
       have O3:=hid (show Rs V3 w2.heap.size (some ad2) o from by rw[hV];exact O2.out.below BB)
       rw[zX] at hV
       rw[<-hV]
       clear hV BB)
     |(at_builtin;refine oQ rfl (.const (.slice none 0 0)) (.tmp 51) rfl V3.heap.size none 0 0 [] rfl rfl (E0.out V3) V3.heap.size (some ⟨w.heap.size,84,none⟩) 40 40 (e.x.drop 80) rfl XL8.out (RX.out V3 S3.out) ah (al0z _) ?_
       intro A4 c4 w4 hO hG _
       simp only[AC,Nat.zero_add] at hO
       have hb:=(aA V3.heap.size V3).grown hG (al0z _) az
       have O4:=hid ((O3.out.more (jy (Blk.lt H3.out))).below hb)
       have N4:=hid hO
       have B4:=hid hb
       clear hO hG hb)
     |(at_builtin;refine oQ rfl (.tmp 52) (.tmp 53) rfl V3.heap.size A4 c4 40 (e.x.drop 80) rfl XL8.out N4.out V3.heap.size (some ad2) c2 80 o rfl OL.out O4.out ah B4.out.size ?_
       intro A5 c5 w5 hO hG _
       have hb:=uB B4.out N4.out hG B4.out.size
       have S5:=hid (S3.out.below hb)
       have O5:=hid ((O3.out.more (jy (Blk.lt H3.out))).below hb)
       have H5:=hid (Blk.below' H3.out hb)
       have I5:=hid hO
       have HS5:=hid hb.size
       clear hO hG hb))
    obtain⟨x,hx⟩:∃x,x=enX e s:=⟨_,rfl⟩
    have XL:=hid (show x.length=120 from abf)
    rw[<-EX.out,<-hx] at I5
    rw[<-hx] at ER
    obtain⟨ai,rfl⟩:∃ai,A5=some ai:=by
     obtain⟨ai,e,_⟩:=I5.out.reads.ad (by rw[XL.out];omega)
     exact⟨ai,e⟩
    have L0:=hid (show w.heap.size+2<=w2.heap.size from S2.out.lt)
    have KC:=aji (some ai) c5 120 x w5 I5.out.reads XL.out
    unfold y8 at KC
    have CL:=aaK x
    have CG:=hid (fun(h:aG x=true)=>show qg x=eX x (jJ x) 9/\qY x=0 from⟨by unfold qg;rw[if_pos ⟨XL.out,h⟩],Ls⟩)
    have CB:=hid (fun(h:aG x=false)=>show qY x=2 from Ls)
    obtain⟨q,hq⟩:∃q,q=qg x:=⟨_,rfl⟩
    obtain⟨er,her⟩:∃er,er=qY x:=⟨_,rfl⟩
    rw[<-hq] at KC CL CG
    rw[<-her] at KC CG CB
    generalize Aw x=qp at KC
    clear hq her
    have KC:=hid KC
    have CL:=hid CL
    have OG:=hid (show eG o from by rw[HO.out];exact fQ (aaP _ _))
    clear S2 O2 S3 H3 O3 N4 O4 B4 RX XL8 E0
    with_reducible refine KC.out.mono ?_
    rintro e' w8 ⟨rfl,hB⟩
    have S8:=hid (S5.out.below hB)
    have O8:=hid (O5.out.below (hB.mono HS5.out))
    have H8:=hid (Blk.below' H5.out hB)
    have I8:=hid (I5.out.reads.below hB)
    have LE8:=hid (show V3.heap.size<=w8.heap.size/\w5.heap.size<=w8.heap.size from⟨gJ HS5.out hB.size,hB.size⟩)
    clear hB KC S5 O5 H5 I5
    cases hc:aG x with
    |false=>
     have HE:=hid (show iI e s=2 from Ob)
     rw[CB.out hc]
     clear hc CG CB hx ER
     go_wp2_with(first
      |(refine aP rfl 90 (.tmp 14) (.tmp 58) rfl _ 90 Z9 q 9 rfl rfl (IB.new w8 90 Z9) bC rfl CL.out ?_
        have BB:=bT w8 (.cells (agi Z9) 90) (agi q)
        obtain⟨V9,hV⟩:∃V9,V9=(w8.alloc (.cells (agi Z9) 90)).setRow w8.heap.size (agi q):=⟨_,rfl⟩
        have S9:=hid (show Eo w V9 e from MJ)
        rw[jq] at hV
        rw[<-hV]
        clear hV BB)
      |(refine oI rfl (.tmp 6) (.tmp 63) rfl _ dH dH rfl (congrArg Value.agg uP) S9.out.Z ik ik ?_))
     refine bg (v:=_) (hR _ _ _ dH rfl (EB.setRow S9.out.Z dH) ik) rfl ?_
     exact EncOut.bad (aS S9.out.bel ah _) HE.out aB
    |true=>
     rw[(CG.out hc).2]
     have HX:=hid hx
     have HQ:=hid (show q=eX x (jJ x) 9 from(CG.out hc).1)
     have HE:=hid (show iI e s=0 from Ob)
     clear hx hc CG CB ER
     have KL:=fun W=>ajF q W CL.out
     unfold Ez at KL
     obtain⟨rf,hrf⟩:∃rf,rf=bQ 8 (jg q).1:=⟨_,rfl⟩
     have RX:=hid (show RV x=rf from by rw[hrf,HQ.out];rfl)
     have RL:=hid (show rf.length=8 from by rw[hrf];exact aab _)
     rw[<-hrf] at KL
     generalize (jg q).2.1=q1 at KL
     generalize (jg q).2.2=q2 at KL
     have KL:=hid KL
     have KA:=fun W (h:Below w.heap.size w W)=>afS rf W RL.out (TT.out.2.2.below h)
     unfold rX at KA
     obtain⟨qn,hqn⟩:∃qn,qn=aL qV cG rf:=⟨_,rfl⟩
     have QX:=hid (show enQ x=qn from by rw[hqn,<-RX.out];rfl)
     have QL:=hid (show qn.length=8 from by rw[<-QX.out];exact yV x)
     rw[<-hqn] at KA
     generalize aE cG rf 8=qe at KA
     have KA:=hid KA
     have KV:=hid (fun W (h:Below w.heap.size w W)=>show Calls Tryz.prog 52 #[.agg (aj qn).toArray] W (fun e w'=>e=.returned (.tuple #[.agg (agi (jU x)),.int .i64 0])/\Below W.heap.size W w') from by
      have h1:=XJ qn W QL.out (TT.out.2.2.below h)
      unfold rX at h1
      have g1:aL lvV bh qn=jU x:=by rw[<-QX.out];exact(Jy x).1
      have g2:aE bh qn 8=0:=by rw[<-QX.out];exact(Jy x).2
      rw[g1,g2] at h1
      exact h1)
     have NL:=hid (show(jU x).length=8 from by unfold jU;simp)
     have SN:=hid (show bM (jU x)=true from aae x)
     obtain⟨now,hnow⟩:∃now,now=jU x:=⟨_,rfl⟩
     rw[<-hnow] at KV NL SN
     have HNOW:=hid hnow
     clear hrf hqn hnow
     go_wp2_with(first
      |(refine aP rfl 90 (.tmp 14) (.tmp 58) rfl _ 90 Z9 q 9 rfl rfl (IB.new w8 90 Z9) bC rfl CL.out ?_
        have BB:=bT w8 (.cells (agi Z9) 90) (agi q)
        obtain⟨V9,hV⟩:∃V9,V9=(w8.alloc (.cells (agi Z9) 90)).setRow w8.heap.size (agi q):=⟨_,rfl⟩
        have S9:=hid (show Eo w V9 e from MJ)
        have O9:=hid (show Rs V9 V3.heap.size (some ad2) o from by rw[hV];exact O8.out.below (BB.mono LE8.out.1))
        have H9:=hid (show IB V9 w2.heap.size 44 hp from by rw[hV];exact Blk.below' H8.out BB)
        have I9:=hid (show Rs V9 w5.heap.size (some ai) x from by rw[hV];exact I8.out.below (BB.mono LE8.out.2))
        have C9:=hid (show IB V9 w8.heap.size 90 q from by rw[hV];exact IB.stored w8 90 Z9 q)
        rw[jq] at hV
        rw[<-hV]
        clear hV BB)
      |(refine aK rfl 90 (.tmp 14) rfl _ 90 q 9 _ rfl C9.out Tryz.underlying90 rfl bC CL.out ?_))
     with_reducible refine(KL.out V9).mono ?_
     rintro e' w11 ⟨rfl,hB⟩
     have LV9:=hid (Blk.lt C9.out)
     have S11:=hid (S9.out.below hB)
     have O11:=hid ((O9.out.more (gJ LE8.out.1 (jy LV9.out))).below hB)
     have H11:=hid (Blk.below' H9.out hB)
     have I11:=hid ((I9.out.more (gJ LE8.out.2 (jy LV9.out))).below hB)
     have HS11:=hid hB.size
     clear hB KL S8 O8 H8 I8 S9 O9 I9 C9
     go_wp2_with(first
      |(refine aP rfl 22 (.tmp 16) (.tmp 68) rfl _ 22 Z8 rf 8 rfl rfl (IB.new w11 22 Z8) aH rfl RL.out ?_
        have BB:=bT w11 (.cells (agi Z8) 22) (agi rf)
        obtain⟨V12,hV⟩:∃V12,V12=(w11.alloc (.cells (agi Z8) 22)).setRow w11.heap.size (agi rf):=⟨_,rfl⟩
        have S12:=hid (show Eo w V12 e from by rw[hV];exact S11.out.below BB)
        have O12:=hid (show Rs V12 V9.heap.size (some ad2) o from by rw[hV];exact O11.out.below (BB.mono HS11.out))
        have H12:=hid (show IB V12 w2.heap.size 44 hp from by rw[hV];exact Blk.below' H11.out BB)
        have I12:=hid (show Rs V12 V9.heap.size (some ai) x from by rw[hV];exact I11.out.below (BB.mono HS11.out))
        have F12:=hid (show IB V12 w11.heap.size 22 rf from by rw[hV];exact IB.stored w11 22 Z8 rf)
        rw[bW] at hV
        rw[<-hV]
        clear hV BB
        have BP:=bT V12 (.cells (agi Z25) 38) (agi Z25)
        have LV12:=Blk.lt F12.out
        obtain⟨V13,hW⟩:∃V13,V13=(V12.alloc (.cells (agi Z25) 38)).setRow V12.heap.size (agi Z25):=⟨_,rfl⟩
        have J13:=hid (show Xj w V13 e ad2 o w2.heap.size hp ai x V12.heap.size Z25 from by
         rw[hW]
         exact⟨S12.out.below BP,(O12.out.more (by have:=HS11.out;omega)).below BP,Blk.below' H12.out BP,(I12.out.more (by have:=HS11.out;omega)).below BP,IB.stored V12 38 Z25 Z25,L0.out,Blk.lt H12.out⟩)
        have F13:=hid (show IB V13 w11.heap.size 22 rf from by rw[hW];exact Blk.below' F12.out BP)
        have hW2:=hW.trans (congrArg (fun z=>(V12.alloc (.cells z 38)).setRow V12.heap.size (agi Z25)) aav)
        have HW13:=hid hW2.symm
        clear BP LV12 hW hW2)
      |(refine aP rfl 38 (.tmp 19) (.tmp 71) rfl _ 38 Z25 Z25 25 rfl rfl (IB.new V12 38 Z25) pK rfl rfl ?_;rw[HW13.out];clear HW13)
      |(refine aK rfl 22 (.tmp 16) rfl _ 22 rf 8 _ rfl F13.out Tryz.underlying22 rfl aH RL.out ?_))
     with_reducible refine(KA.out V13 J13.out.L.bel).mono ?_
     rintro e' w14 ⟨rfl,hB⟩
     have J14:=hid (J13.out.below hB)
     obtain⟨gH,hgH⟩:∃g,g=w2.heap.size:=⟨_,rfl⟩
     obtain⟨gP,hgP⟩:∃g,g=V12.heap.size:=⟨_,rfl⟩
     rw[<-hgH,<-hgP] at J14|-
     clear hB hgH hgP KA S11 O11 H11 I11 S12 O12 H12 I12 F12 J13 F13 H9
     obtain⟨m0,hm0⟩:∃m0,m0=pJ r e.m:=⟨_,rfl⟩
     have K0:=hid (show m0.ok from by rw[hm0];exact aai r K.out.m)
     have G0:=hid (show aU m0=true from by rw[hm0];exact aaj r HG.out)
     obtain⟨was,hwas⟩:∃was,was=m0.r:=⟨_,rfl⟩
     have WL:=hid (show was.length=8 from Nb)
     have SW:=hid (show bM was=true from by rw[hwas];exact Iu (kM G0.out).1)
     have ZL:=hid (show(enZ 0 qn was now o m0 0).length=25 from Ag QL.out ah)
     have HIQ:=hid (show(Tryz.prog.info? 22).map (·.size)=some (aj qn).length from by rw[aQ,QL.out];exact aH)
     have HQN:=hid (fun W kd gP (h:IB W gP 38 (enZ kd qn was now o m0 0))=>show W.rangeAt gP 1 (aj qn) from aaQ QL.out h)
     have HM0:=hid hm0
     have HWAS:=hid hwas
     clear hm0 hwas
     have HPP:=hid (show jV e s r=enP (sO r o) qn was now o m0 from by
      have h1:jV e s r=enP (sO r (dG e s).2.1) (enQ (enX e s)) (pJ r e.m).r (jU (enX e s)) (dG e s).2.1 (pJ r e.m):=rfl
      rw[h1,<-HO.out,<-HX.out,QX.out,<-HNOW.out,<-HM0.out,<-HWAS.out])
     cases r with
     |true=>
      have M0:=hid (show m0=lX from HM0.out)
      have KFr:=hid (fun W=>show Calls Tryz.prog 9 #[] W (fun e w'=>e=.returned (.agg m0.ag)/\Below W.heap.size W w') from by rw[M0.out];exact PO W)
      go_wp2_with(first
       |(refine jd rfl 22 (.tmp 77) (.tmp 75) rfl gP 1 (agi qn) rfl rfl (by rw[dV,QL.out];exact IB.thereAt J14.out.P 1 8 (by simp[Z25])) ui (gG _) ?_
         have J15:=hid (show Xj w (w14.setCells gP 1 (aj qn)) e ad2 o gH hp ai x gP (enZ 0 qn was now o m0 0) from J14.out.over _ _ (IB.over (A:=[0]) (old:=List.replicate 8 0) (B:=List.replicate 16 0) J14.out.P rfl (by rw[QL.out];rfl) (Jz QL.out).symm rfl))
         obtain⟨V15,hV15⟩:∃V15,V15=w14.setCells gP 1 (aj qn):=⟨_,rfl⟩
         rw[<-hV15] at J15
         rw[show(agi qn).toList=aj qn from rfl,<-hV15]
         clear hV15)
       |(refine bI rfl 22 (.tmp 79) rfl gP 1 rfl (aj qn) _ (HQN.out _ _ _ J15.out.P) Tryz.underlying22 rfl HIQ.out ?_))
      with_reducible refine(KV.out V15 J15.out.L.bel).mono ?_
      rintro e' w16 ⟨rfl,hB⟩
      have J16:=hid (J15.out.below hB)
      clear hB J14 J15
      go_wp2_with(first
       |(refine aP rfl 22 (.tmp 20) (.tmp 82) rfl _ 22 Z8 now 8 rfl rfl (IB.new w16 22 Z8) aH rfl NL.out ?_
         have BB:=bT w16 (.cells (agi Z8) 22) (agi now)
         obtain⟨V17,hV⟩:∃V17,V17=(w16.alloc (.cells (agi Z8) 22)).setRow w16.heap.size (agi now):=⟨_,rfl⟩
         have J17:=hid (show Xj w V17 e ad2 o gH hp ai x gP (enZ 0 qn was now o m0 0) from by rw[hV];exact J16.out.below BB)
         have N17:=hid (show IB V17 w16.heap.size 22 now from by rw[hV];exact IB.stored w16 22 Z8 now)
         rw[bW] at hV
         rw[<-hV]
         clear hV BB)
       |(refine bI rfl 25 (.tmp 84) rfl w.heap.size 124 rfl e.m.cs _ (EB.M J17.out.L.E K.out) Tryz.underlying25 rfl HIM.out ?_)
       |(refine iO rfl (.tmp 22) (.tmp 85) rfl _ bZ e.m rfl rfl (pO V17) jF K.out.m ?_
         have BB:=bT V17 (.cells Tryz.zeroCells25 25) e.m.ag
         have M18:=hid (show Xm w ((V17.alloc (.cells Tryz.zeroCells25 25)).setRow V17.heap.size e.m.ag) e ad2 o gH hp ai x gP (enZ 0 qn was now o m0 0) w16.heap.size now V17.heap.size e.m from⟨J17.out.below BB,Blk.below' N17.out BB,MB.setRow (pO V17) e.m,J16.out.lt,Blk.lt N17.out⟩)
         obtain⟨V18,hV18⟩:∃V18,V18=(V17.alloc (.cells Tryz.zeroCells25 25)).setRow V17.heap.size e.m.ag:=⟨_,rfl⟩
         rw[<-hV18] at M18|-
         clear hV18 BB))
      obtain⟨gN,hgN⟩:∃g,g=w16.heap.size:=⟨_,rfl⟩
      obtain⟨gM,hgM⟩:∃g,g=V17.heap.size:=⟨_,rfl⟩
      rw[<-hgN,<-hgM] at M18|-
      clear hgN hgM J16 J17 N17
      with_reducible refine(KFr.out _).mono ?_
      rintro e' w19 ⟨rfl,hB⟩
      have M19:=hid (M18.out.below hB)
      clear hB M18 KFr
      have c0:=M19.out.J.P.cell 0 Oq
      have f0:=Blk.frozen M19.out.J.P 0
      have M20a:=hid (show Xm w (w19.setCell ⟨gP,0,none⟩ (.int .i64 1)) e ad2 o gH hp ai x gP (enZ 1 qn was now o m0 0) gN now gM e.m from M19.out.kind 1)
      have M20:=hid (M20a.out.rowM (mm:=m0))
      obtain⟨V21,hV21⟩:∃V21,V21=(w19.setCell ⟨gP,0,none⟩ (.int .i64 1)).setRow gM m0.ag:=⟨_,rfl⟩
      rw[<-hV21] at M20
      have HV21:=hid hV21
      clear hV21
      go_wp2_with(first
       |(refine iO rfl (.tmp 22) (.tmp 87) rfl _ e.m m0 rfl rfl M20a.out.M K.out.m K0.out ?_;rw[<-HV21.out];clear HV21))
      clear M20a M19 c0 f0
      go_loopw[23] (fun iv wr=> ∃j:Nat,j<=2/\iv=.int .i64 j/\Hid (Xm w wr e ad2 o gH hp ai x gP (enZ 1 qn was now o m0 j) gN now gM (enK was now o m0 j))) (fun iv _=>2-(intOf iv).toNat)
      case atStart=>exact⟨0,ah,rfl,M20⟩
      case round=>
       clear M20
       obtain⟨j,hj,rfl,HS⟩:=hrel
       obtain⟨ps,hps⟩:∃ps,ps=enZ 1 qn was now o m0 j:=⟨_,rfl⟩
       obtain⟨mk,hmk⟩:∃mk,mk=enK was now o m0 j:=⟨_,rfl⟩
       rw[<-hps,<-hmk] at HS
       have PL:=hid (show ps.length=25 from LJ)
       have P0:=hid (show ps.getD 0 0=1 from BO)
       have KO:=hid (show mk.ok from Me)
       have RK:=hid (show mk.r=was from Nr)
       have c0:=HS.out.J.P.cell 0 xj
       rw[P0.out] at c0
       have HPS:=hid hps
       have HMK:=hid hmk
       clear hps hmk
       by_cases hlt:j<2
       ·have KF:=hid (fun W=>show Calls Tryz.prog 54 #[.agg (aj was).toArray,.agg (agi now),.int .i64 (j:Nat)] W (fun e w'=>e=.returned (.agg (agi (frA was now j)))/\Below W.heap.size W w') from J9 was now j W WL.out NL.out hlt SW.out SN.out)
        have GA:=zO SW.out SN.out hlt
        have AL:=hid (qQ was now j)
        obtain⟨a,ha⟩:∃a,a=frA was now j:=⟨_,rfl⟩
        rw[<-ha] at KF GA AL
        have HA:=hid ha
        have HI8:=hid (show(Tryz.prog.info? 22).map (·.size)=some (aj was).length from LX)
        have HGA:=hid GA
        have b1:decide ((j:Int)<2)=true:=aJ
        clear ha GA
        go_wp2_with(first
         |(refine bI rfl 22 (.tmp 103) rfl gM 0 rfl (aj was) _ abz Tryz.underlying22 rfl HI8.out ?_)
         |(refine aK rfl 22 (.tmp 20) rfl _ 22 now 8 _ rfl HS.out.N Tryz.underlying22 rfl aH NL.out ?_))
        with_reducible refine(KF.out wr).mono ?_
        rintro e' w5 ⟨rfl,hB⟩
        have S5:=hid (HS.out.below hB)
        clear hB HS KF b1 c0
        go_wp2_with(first
         |(refine aP rfl 90 (.tmp 24) (.tmp 107) rfl _ 90 Z9 a 9 rfl rfl (IB.new w5 90 Z9) bC rfl AL.out ?_
           have BB:=bT w5 (.cells (agi Z9) 90) (agi a)
           obtain⟨V6,hV⟩:∃V6,V6=(w5.alloc (.cells (agi Z9) 90)).setRow w5.heap.size (agi a):=⟨_,rfl⟩
           have W6:=hid (show Xw w V6 e ad2 o gH hp ai x gP ps gN now gM mk w5.heap.size a from Kw)
           rw[jq] at hV
           rw[<-hV]
           clear hV BB))
        obtain⟨gA,hgA⟩:∃gA,gA=w5.heap.size:=⟨_,rfl⟩
        have GLT:=hid (show gM<gA from Nh)
        rw[<-hgA] at W6|-
        clear hgA S5
        have GK:=Jw (was:=was) (now:=now) (o:=o) G0.out j
        rw[<-HMK.out] at GK
        obtain⟨u,hu⟩:∃u,u=chU mk a (jh o j):=⟨_,rfl⟩
        have HU:=hid (show enU was now o m0 j=u from MX)
        have UO:=hid (show UOk u from Nw)
        have KCH:=hid (fun W A1 c1 (h:Rs W W.heap.size A1 (jh o j)) (hB:Below w.heap.size w W)=>show Calls Tryz.prog 55 #[.agg mk.cs.toArray,.agg (aj a).toArray,.slice A1 40 c1] W (fun e w'=>e=.returned (.agg (agi u))/\Below W.heap.size W w') from by
         rw[hu]
         exact aaW mk KO.out GK a (jh o j) HGA.out AL.out A1 c1 W h (JA OL.out hlt) (JV OG.out) (TT.out.1.below hB) (TT.out.2.1.below hB))
        have GK:=hid GK
        clear hu
        have hw40:IntKind.i64.wrap (40*(j:Int))=40*(j:Int):=aN
        have hw80:IntKind.i64.wrap (40*(j:Int)+40)=40*(j:Int)+40:=aN
        go_upto_region 25 with fail
        refine mD [0,3,4,5,6,7,8,9,11] [1,2] 10 [12,13] (fun W=>Xw w W e ad2 o gH hp ai x gP ps gN now gM mk gA a) au au rfl ⟨W6.out.R.below ((aA _ _).drew),Blk.drew W6.out.F⟩ (fun _ _ d _ _ h=>mN) ?_
        simp only[iz,jZ,mJ,mL]
        refine bY (v:=.int .i64 (j:Nat)) aC (fun W=>rfl) ?_
        refine bY (v:=.slice (some ad2) 80 c2) aC (fun W=>rfl) ?_
        refine bY (v:=.int .i64 (j:Nat)) aC (fun W=>rfl) ?_
        refine bY (v:=.int .i64 (40*(j:Int))) aC (fun W=>?_) ?_
        ·go_simp
        refine bY (v:=.int .i64 (j:Nat)) aC (fun W=>rfl) ?_
        refine bY (v:=.int .i64 (40*(j:Int))) aC (fun W=>?_) ?_
        ·go_simp
        refine bY (v:=.int .i64 (40*(j:Int)+40)) aC (fun W=>?_) ?_
        ·go_simp
        refine bY (v:=.slice (some (ad2.add (j*40))) 40 (c2-j*40)) aC (fun W=>?_) ?_
        ·go_simp
         exact l88
        refine bY (v:=.pointer (some ⟨gP,9,none⟩)) aC (fun W=>?_) ?_
        ·go_simp
        refine mr ?_
        simp only[Act.put,iZ,jm,jA,jB,jC,jD]
        refine bu (fun K hK=>?_)
        refine iD aC 25 (.tmp 22) rfl gM 0 rfl mk.cs _ (fun W hW=>MB.whole hW.R.M) Tryz.underlying25 rfl uj ?_
        refine hK _ ?_;clear hK K
        refine bu (fun K hK=>?_)
        refine iD aC 90 (.tmp 24) rfl gA 0 rfl (aj a) _ (fun W hW=>gI hW.F [] (aj a) [] az rfl) Tryz.underlying90 rfl Bg ?_
        refine hK _ ?_;clear hK K
        refine wpQuiet_nil ?_
        intro W7 hW7
        have R7:=hid hW7.R
        have F7:=hid hW7.F
        clear hW7 W6 hw40 hw80
        obtain⟨pA,hpA⟩:∃pA,pA=1::(qn++enF was now o m0 j):=⟨_,rfl⟩
        obtain⟨pB,hpB⟩:∃pB,pB=List.replicate (8-j*8) (0:Int):=⟨_,rfl⟩
        obtain⟨ps2,hps2⟩:∃ps2,ps2=enZ 1 qn was now o m0 (j+1):=⟨_,rfl⟩
        have HPA:=hid (show ps=pA++(List.replicate 8 0++pB) from Kz)
        have HPB:=hid (show ps2=pA++(u++pB) from Ll)
        have LPA:=hid (show pA.length=9+j*8 from Kt)
        have HPS2:=hid hps2
        have PL2:=hid (show ps2.length=25 from Ox)
        clear hpA hpB hps2
        have RSH:=hid (show Rs W7 W7.heap.size (some (ad2.add (j*40))) (jh o j) from(JW R7.out.J.O OL.out hlt).more (jy R7.out.J.lt))
        obtain⟨mm,hmm⟩:∃mm,mm=spM mk u:=⟨_,rfl⟩
        obtain⟨xs,hxs⟩:∃xs,xs=spX mk u:=⟨_,rfl⟩
        obtain⟨np,hnp⟩:∃np,np=jR a mk.p (spX mk u):=⟨_,rfl⟩
        obtain⟨mn,hmn⟩:∃mn,mn=frP false a mk u:=⟨_,rfl⟩
        have HMN:=hid (show enK was now o m0 (j+1)=mn from Lm)
        have KN:=hid (show mn.ok from Ld)
        have MNE:=hid (show({mm with p:=np}:Mm)=mn from abn)
        have KMM:=hid (show mm.ok from by rw[hmm];exact yB KO.out UO.out)
        have MPP:=hid (show mm.p=mk.p from by rw[hmm];rfl)
        have NPL:=hid (show np.length=8 from by have h:=KN.out.p;rw[<-MNE.out] at h;exact h)
        have XSL:=hid (show xs.length=40 from by rw[hxs];exact o9 UO.out mk)
        have KSP:=hid (fun W (hB:Below w.heap.size w W)=>show Calls Tryz.prog 56 #[.agg mk.cs.toArray,.agg (aj u).toArray] W (fun e w'=> ∃A c,e=.returned (.tuple #[.agg mm.ag,.slice A 40 c])/\Own w' W.heap.size A c xs/\Below W.heap.size W w') from by
         have h1:=Ub mk KO.out u W (TT.out.1.below hB) (TT.out.2.1.below hB) UO.out (mZ (kM GK.out).2.2.1)
         unfold jW at h1
         rw[<-hmm,<-hxs,XSL.out] at h1
         exact h1)
        have KMk:=hid (fun W A1 c1 (h:Rs W W.heap.size A1 xs) (hc:40<=c1)=>show Calls Tryz.prog 57 #[.agg (agi a),.agg (aj mm.p).toArray,.slice A1 40 c1] W (fun e w'=> ∃A c n er,e=.returned (.tuple #[.slice A n c,.agg (agi np),.int .i64 er])/\Below W.heap.size W w') from by
         have h1:=zV a mm.p xs A1 c1 40 W AL.out KMM.out.p h XSL.out ah hc
         have e:(if di a mm.p xs then dY mm.p (dF a mm.p xs 40) else Z8)=np:=by rw[hnp,MPP.out,<-hxs];unfold jR;rw[XSL.out]
         rw[e] at h1
         exact h1.mono fun e w' ⟨A,c,h1,_,h3⟩=>⟨A,c,_,_,h1,h3⟩)
        clear hmm hxs hnp hmn
        have HIS:=hid (show(Tryz.prog.info? 35).map (·.size)=some (aj u).length from Lu)
        have HIP:=hid (show(Tryz.prog.info? 22).map (·.size)=some (aj mm.p).length from by rw[aQ,KMM.out.p];exact aH)
        have HSU:=hid (fun W (h:IB W gP 38 ps2)=>show W.rangeAt gP (9+j*8) (aj u) from JR h HPB.out LPA.out)
        go_wp2_with(first
         |(go_at_call 55;(with_reducible refine(KCH.out W7 _ _ RSH.out R7.out.J.L.bel).mono ?_);rintro e' w8_ ⟨rfl,hB⟩;have R8:=hid (R7.out.below hB);have F8:=hid (Blk.below' F7.out hB);clear hB;have R9:=hid (R8.out.over (aj u) (9+j*8) (IB.over R8.out.J.P HPA.out Oc HPB.out LPA.out));have F9:=hid (dh (b:=gP) abB (aj u) (9+j*8) _ F8.out);obtain⟨V9,hV9⟩:∃V9,V9=w8_.setCells gP (9+j*8) (aj u):=⟨_,rfl⟩;rw[<-hV9] at R9 F9;have HV9:=hid hV9;clear hV9)
         |(refine jd rfl 35 (.tmp 120) (.tmp 118) rfl gP (9+j*8) (agi u) rfl rfl abH Ly (gG _) ?_;rw[show(agi u).toList=aj u from rfl,<-HV9.out];clear HV9))
        clear R7 R8 F7 F8 RSH KCH
        refine mD [] [0,1,2,3,4] 5 [6,7,8,9,10] (fun W=>Xw w W e ad2 o gH hp ai x gP ps2 gN now gM mk gA a) au au rfl ⟨R9.out.below ((aA _ _).drew),Blk.drew F9.out⟩ (fun _ _ d _ _ h=>mN) ?_
        simp only[iz,jZ,mJ,mL]
        refine mr ?_
        refine bu (fun K hK=>?_)
        refine iD aC 25 (.tmp 22) rfl gM 0 rfl mk.cs _ (fun W hW=>MB.whole hW.R.M) Tryz.underlying25 rfl uj ?_
        refine hK _ ?_;clear hK K
        iterate 2
         refine bu (fun K hK=>?_)
         go_simp
         apply Exists.intro
         refine⟨fun W hW=>rfl,hK _ ?_⟩
         clear hK K
        have j2:(j:Int)<2:=ah
        refine bu (fun K hK=>?_)
        go_simp
        refine⟨.pointer (some ⟨gP,9+j*8,none⟩),fun W hW=>?_,hK _ ?_⟩
        ·first|rfl|go_simp
        clear hK K j2
        refine bu (fun K hK=>?_)
        refine iD aC 35 (.tmp 125) rfl gP (9+j*8) rfl (aj u) _ (fun W hW=>HSU.out _ hW.R.J.P) Tryz.underlying35 rfl HIS.out ?_
        refine hK _ ?_;clear hK K
        refine wpQuiet_nil ?_
        intro W11 hW11
        have R11:=hid hW11.R
        have F11:=hid hW11.F
        clear hW11 R9 F9
        go_wp2_with(first
         |(go_at_call 56;(with_reducible refine(KSP.out W11 R11.out.J.L.bel).mono ?_);rintro e' w12 ⟨A3,c3,rfl,hO,hB⟩;have R12:=hid (R11.out.below hB);have F12:=hid (Blk.below' F11.out hB);have O12:=hid hO;have GL12:=hid (Blk.lt R11.out.M);clear hO hB;have R13:=hid (R12.out.rowM (mm:=mm));have F13:=hid (Blk.rowFar (g:=gM) (c2:=mm.ag) F12.out (by have:=GLT.out;omega));have O13:=hid (O12.out.setRow (g:=gM) GL12.out mm.ag);obtain⟨V13_,hV13⟩:∃V13_,V13_=w12.setRow gM mm.ag:=⟨_,rfl⟩;rw[<-hV13] at R13 F13 O13;have HV13:=hid hV13;clear hV13)
         |(refine iO rfl (.tmp 22) (.tmp 128) rfl _ mk mm rfl rfl R12.out.M KO.out KMM.out ?_;rw[<-HV13.out];clear HV13)
         |(refine aK rfl 90 (.tmp 24) rfl _ 90 a 9 _ rfl F13.out Tryz.underlying90 rfl bC AL.out ?_)
         |(refine bI rfl 22 (.tmp 132) rfl gM 8 rfl (aj mm.p) _ (MB.P R13.out.M KMM.out) Tryz.underlying22 rfl HIP.out ?_))
        with_reducible refine(KMk.out V13_ A3 c3 O13.out.reads (by have h:=O13.out.cap.1;rw[XSL.out] at h;exact h)).mono ?_
        rintro e' w14_ ⟨A4,c4,n4,er4,rfl,hB⟩
        have R14:=hid (R13.out.below hB)
        clear hB R11 R12 R13 F11 F12 F13 O12 O13 KMk KSP
        have R15:=hid (show Xm w (w14_.setCells gM 8 (aj np)) e ad2 o gH hp ai x gP ps2 gN now gM mn from by
         have h:=R14.out.setP KMM.out np NPL.out
         rw[MNE.out] at h
         exact h)
        obtain⟨V15_,hV15⟩:∃V15_,V15_=w14_.setCells gM 8 (aj np):=⟨_,rfl⟩
        rw[<-hV15] at R15
        have HV15:=hid hV15
        clear hV15
        go_wp2_with(first
         |(refine jd rfl 22 (.tmp 139) (.tmp 137) rfl gM 8 (agi np) rfl rfl abv (by rw[dV,NPL.out];exact aH) (gG _) ?_;rw[show(agi np).toList=aj np from rfl,<-HV15.out];clear HV15))
        go_roundw
        case rel=>exact⟨j+1,ah,aO,hid (by rw[HMN.out,<-HPS2.out];exact R15.out)⟩
        case measure=>simp[intOf]<;>omega
       obtain rfl:j=2:=ah
       have HPK:=hid (show jV e s true=ps from abJ)
       have J0:=hid HS.out.J
       have b1:decide (((2:Nat):Int)<2)=false:=az
       clear HS HMK RK KO c0
       have PTO:cf ps 25=true:=Bd
       have PLN:ps.length=25:=Bc
       have KP:=hid (fun W (h:Below w.heap.size w W)=>Ua ps W (TT.out.2.2.below h) PLN (Az PTO PLN))
       unfold wH at KP
       rw[show qP ps=0 from if_pos PTO] at KP
       have KFM:=hid (fun W (h:Below w.heap.size w W)=>show Calls Tryz.prog 27 #[.agg e.m.cs.toArray,.agg (agi ps)] W (jW W (frM e.m ps) (frO e.m ps)) from Uc e.m K.out.m HG.out ps W (TT.out.1.below h) (TT.out.2.1.below h) (TT.out.2.2.below h) PTO PLN)
       have KMF:=hid (yE K.out.m PTO PLN)
       have PLN:=hid PLN
       have e4q:=hid (show enE e s true=⟨hp,x,frM e.m ps⟩ from by
        unfold enE
        rw[if_pos HE.out,HPK.out,<-HHP.out,<-HX.out])
       have HBS:=hid (show mi e s true=kZ ps from AZ)
       have HYS:=hid (show enY e s true=frO e.m ps from Ba)
       exact l0
     |false=>
      have M0:=hid (show m0=e.m from HM0.out)
      have KQ:=hid (fun W (h:Rs W W.heap.size (some ad2) o)=>show Calls Tryz.prog 53 #[.slice (some ad2) 80 c2,.slice (some ad2) 80 c2] W (fun e w'=>e=.returned (.int .i64 (bz o o 80))/\Below W.heap.size W w') from zH (some ad2) (some ad2) c2 c2 80 80 o o W h h OL.out OL.out (al0z _) ah OG.out OG.out)
      have KD0:=hid (show sO false o=if decide (bz o o 80<16*80) then 2 else 0 from rfl)
      obtain⟨dv,hdv⟩:∃d,d=bz o o 80:=⟨_,rfl⟩
      rw[<-hdv] at KQ KD0
      clear hdv
      go_wp2_with(first
       |(refine jd rfl 22 (.tmp 77) (.tmp 75) rfl gP 1 (agi qn) rfl rfl (by rw[dV,QL.out];exact IB.thereAt J14.out.P 1 8 (by simp[Z25])) ui (gG _) ?_
         have J15:=hid (show Xj w (w14.setCells gP 1 (aj qn)) e ad2 o gH hp ai x gP (enZ 0 qn was now o m0 0) from J14.out.over _ _ (IB.over (A:=[0]) (old:=List.replicate 8 0) (B:=List.replicate 16 0) J14.out.P rfl (by rw[QL.out];rfl) (Jz QL.out).symm rfl))
         obtain⟨V15,hV15⟩:∃V15,V15=w14.setCells gP 1 (aj qn):=⟨_,rfl⟩
         rw[<-hV15] at J15
         rw[show(agi qn).toList=aj qn from rfl,<-hV15]
         clear hV15)
       |(refine bI rfl 22 (.tmp 79) rfl gP 1 rfl (aj qn) _ (HQN.out _ _ _ J15.out.P) Tryz.underlying22 rfl HIQ.out ?_))
      with_reducible refine(KV.out V15 J15.out.L.bel).mono ?_
      rintro e' w16 ⟨rfl,hB⟩
      have J16:=hid (J15.out.below hB)
      clear hB J14 J15
      go_wp2_with(first
       |(refine aP rfl 22 (.tmp 20) (.tmp 82) rfl _ 22 Z8 now 8 rfl rfl (IB.new w16 22 Z8) aH rfl NL.out ?_
         have BB:=bT w16 (.cells (agi Z8) 22) (agi now)
         obtain⟨V17,hV⟩:∃V17,V17=(w16.alloc (.cells (agi Z8) 22)).setRow w16.heap.size (agi now):=⟨_,rfl⟩
         have J17:=hid (show Xj w V17 e ad2 o gH hp ai x gP (enZ 0 qn was now o m0 0) from by rw[hV];exact J16.out.below BB)
         have N17:=hid (show IB V17 w16.heap.size 22 now from by rw[hV];exact IB.stored w16 22 Z8 now)
         rw[bW] at hV
         rw[<-hV]
         clear hV BB)
       |(refine bI rfl 25 (.tmp 84) rfl w.heap.size 124 rfl e.m.cs _ (EB.M J17.out.L.E K.out) Tryz.underlying25 rfl HIM.out ?_)
       |(refine iO rfl (.tmp 22) (.tmp 85) rfl _ bZ e.m rfl rfl (pO V17) jF K.out.m ?_
         have BB:=bT V17 (.cells Tryz.zeroCells25 25) e.m.ag
         have M18:=hid (show Xm w ((V17.alloc (.cells Tryz.zeroCells25 25)).setRow V17.heap.size e.m.ag) e ad2 o gH hp ai x gP (enZ 0 qn was now o m0 0) w16.heap.size now V17.heap.size e.m from⟨J17.out.below BB,Blk.below' N17.out BB,MB.setRow (pO V17) e.m,J16.out.lt,Blk.lt N17.out⟩)
         obtain⟨V18,hV18⟩:∃V18,V18=(V17.alloc (.cells Tryz.zeroCells25 25)).setRow V17.heap.size e.m.ag:=⟨_,rfl⟩
         rw[<-hV18] at M18|-
         clear hV18 BB))
      obtain⟨gN,hgN⟩:∃g,g=w16.heap.size:=⟨_,rfl⟩
      obtain⟨gM,hgM⟩:∃g,g=V17.heap.size:=⟨_,rfl⟩
      rw[<-hgN,<-hgM] at M18|-
      clear hgN hgM J16 J17 N17
      have M0:=M0.out
      rw[<-M0] at M18
      clear M0
      with_reducible refine(KQ.out V18 (M18.out.J.O.more (jy M18.out.J.lt))).mono ?_
      rintro e' w19 ⟨rfl,hB⟩
      have M19:=hid (M18.out.below hB)
      clear hB M18 KQ
      by_cases hd:dv<1280
      ·have HPP:=hid (show jV e s false=enP 2 qn was now o m0 from by rw[HPP.out,KD0.out,if_pos (by simpa using hd)])
       have c0:=M19.out.J.P.cell 0 Oq
       have f0:=Blk.frozen M19.out.J.P 0
       have M20:=hid (show Xm w (w19.setCell ⟨gP,0,none⟩ (.int .i64 2)) e ad2 o gH hp ai x gP (enZ 2 qn was now o m0 0) gN now gM m0 from M19.out.kind 2)
       obtain⟨V20,hV20⟩:∃V20,V20=w19.setCell ⟨gP,0,none⟩ (.int .i64 2):=⟨_,rfl⟩
       rw[<-hV20] at M20
       have HV20:=hid hV20
       have hdb:decide (dv<1280)=true:=by simpa using hd
       clear hV20 KD0 M19 hd
       go_wp2_with(rw[<-HV20.out];clear HV20 c0 f0)
       obtain⟨ps,hps⟩:∃ps,ps=enZ 2 qn was now o m0 0:=⟨_,rfl⟩
       rw[<-hps] at M20
       have HPK:=hid (show jV e s false=ps from by rw[hps];exact HPP.out.trans aah.symm)
       have HPS:=hid (show ps.getD 0 0=2 from BO)
       have PL:=hid (show ps.length=25 from by rw[hps];exact Ag QL.out ah)
       clear hps hdb
       go_loopw[23] (fun iv wr=>iv=.int .i64 0/\Hid (Xj w wr e ad2 o gH hp ai x gP ps)) (fun _ _=>0)
       case atStart=>exact⟨rfl,hid M20.out.J⟩
       case round=>
        clear M20
        obtain⟨rfl,J0⟩:=hrel
        have c0:=J0.out.P.cell 0 xj
        rw[HPS.out] at c0
        have PTO:cf ps 25=true:=Bd
        have PLN:ps.length=25:=Bc
        have KP:=hid (fun W (h:Below w.heap.size w W)=>Ua ps W (TT.out.2.2.below h) PLN (Az PTO PLN))
        unfold wH at KP
        rw[show qP ps=0 from if_pos PTO] at KP
        have KFM:=hid (fun W (h:Below w.heap.size w W)=>show Calls Tryz.prog 27 #[.agg e.m.cs.toArray,.agg (agi ps)] W (jW W (frM e.m ps) (frO e.m ps)) from Uc e.m K.out.m HG.out ps W (TT.out.1.below h) (TT.out.2.1.below h) (TT.out.2.2.below h) PTO PLN)
        have KMF:=hid (yE K.out.m PTO PLN)
        have PLN:=hid PLN
        have e4q:=hid (show enE e s false=⟨hp,x,frM e.m ps⟩ from by
         unfold enE
         rw[if_pos HE.out,HPK.out,<-HHP.out,<-HX.out])
        have HBS:=hid (show mi e s false=kZ ps from AZ)
        have HYS:=hid (show enY e s false=frO e.m ps from Ba)
        exact l0
      have HPP:=hid (show jV e s false=enP 0 qn was now o m0 from by rw[HPP.out,KD0.out,if_neg (by simpa using hd)])
      have hdb:decide (dv<1280)=false:=by simpa using hd
      have M20:=M19
      clear KD0 M19 hd
      go_wp2_with fail
      go_loopw[23] (fun iv wr=> ∃j:Nat,j<=2/\iv=.int .i64 j/\Hid (Xm w wr e ad2 o gH hp ai x gP (enZ 0 qn was now o m0 j) gN now gM (enK was now o m0 j))) (fun iv _=>2-(intOf iv).toNat)
      case atStart=>exact⟨0,ah,rfl,M20⟩
      case round=>
       clear M20
       obtain⟨j,hj,rfl,HS⟩:=hrel
       obtain⟨ps,hps⟩:∃ps,ps=enZ 0 qn was now o m0 j:=⟨_,rfl⟩
       obtain⟨mk,hmk⟩:∃mk,mk=enK was now o m0 j:=⟨_,rfl⟩
       rw[<-hps,<-hmk] at HS
       have PL:=hid (show ps.length=25 from LJ)
       have P0:=hid (show ps.getD 0 0=0 from BO)
       have KO:=hid (show mk.ok from Me)
       have RK:=hid (show mk.r=was from Nr)
       have c0:=HS.out.J.P.cell 0 xj
       rw[P0.out] at c0
       have HPS:=hid hps
       have HMK:=hid hmk
       clear hps hmk
       by_cases hlt:j<2
       ·have KF:=hid (fun W=>show Calls Tryz.prog 54 #[.agg (aj was).toArray,.agg (agi now),.int .i64 (j:Nat)] W (fun e w'=>e=.returned (.agg (agi (frA was now j)))/\Below W.heap.size W w') from J9 was now j W WL.out NL.out hlt SW.out SN.out)
        have GA:=zO SW.out SN.out hlt
        have AL:=hid (qQ was now j)
        obtain⟨a,ha⟩:∃a,a=frA was now j:=⟨_,rfl⟩
        rw[<-ha] at KF GA AL
        have HA:=hid ha
        have HI8:=hid (show(Tryz.prog.info? 22).map (·.size)=some (aj was).length from LX)
        have HGA:=hid GA
        have b1:decide ((j:Int)<2)=true:=aJ
        clear ha GA
        go_wp2_with(first
         |(refine bI rfl 22 (.tmp 103) rfl gM 0 rfl (aj was) _ abz Tryz.underlying22 rfl HI8.out ?_)
         |(refine aK rfl 22 (.tmp 20) rfl _ 22 now 8 _ rfl HS.out.N Tryz.underlying22 rfl aH NL.out ?_))
        with_reducible refine(KF.out wr).mono ?_
        rintro e' w5 ⟨rfl,hB⟩
        have S5:=hid (HS.out.below hB)
        clear hB HS KF b1 c0
        go_wp2_with(first
         |(refine aP rfl 90 (.tmp 24) (.tmp 107) rfl _ 90 Z9 a 9 rfl rfl (IB.new w5 90 Z9) bC rfl AL.out ?_
           have BB:=bT w5 (.cells (agi Z9) 90) (agi a)
           obtain⟨V6,hV⟩:∃V6,V6=(w5.alloc (.cells (agi Z9) 90)).setRow w5.heap.size (agi a):=⟨_,rfl⟩
           have W6:=hid (show Xw w V6 e ad2 o gH hp ai x gP ps gN now gM mk w5.heap.size a from Kw)
           rw[jq] at hV
           rw[<-hV]
           clear hV BB))
        obtain⟨gA,hgA⟩:∃gA,gA=w5.heap.size:=⟨_,rfl⟩
        have GLT:=hid (show gM<gA from Nh)
        rw[<-hgA] at W6|-
        clear hgA S5
        have GK:=Jw (was:=was) (now:=now) (o:=o) G0.out j
        rw[<-HMK.out] at GK
        obtain⟨u,hu⟩:∃u,u=chU mk a (jh o j):=⟨_,rfl⟩
        have HU:=hid (show enU was now o m0 j=u from MX)
        have UO:=hid (show UOk u from Nw)
        have KCH:=hid (fun W A1 c1 (h:Rs W W.heap.size A1 (jh o j)) (hB:Below w.heap.size w W)=>show Calls Tryz.prog 55 #[.agg mk.cs.toArray,.agg (aj a).toArray,.slice A1 40 c1] W (fun e w'=>e=.returned (.agg (agi u))/\Below W.heap.size W w') from by
         rw[hu]
         exact aaW mk KO.out GK a (jh o j) HGA.out AL.out A1 c1 W h (JA OL.out hlt) (JV OG.out) (TT.out.1.below hB) (TT.out.2.1.below hB))
        have GK:=hid GK
        clear hu
        have hw40:IntKind.i64.wrap (40*(j:Int))=40*(j:Int):=aN
        have hw80:IntKind.i64.wrap (40*(j:Int)+40)=40*(j:Int)+40:=aN
        go_upto_region 25 with fail
        refine mD [0,3,4,5,6,7,8,9,11] [1,2] 10 [12,13] (fun W=>Xw w W e ad2 o gH hp ai x gP ps gN now gM mk gA a) au au rfl ⟨W6.out.R.below ((aA _ _).drew),Blk.drew W6.out.F⟩ (fun _ _ d _ _ h=>mN) ?_
        simp only[iz,jZ,mJ,mL]
        refine bY (v:=.int .i64 (j:Nat)) aC (fun W=>rfl) ?_
        refine bY (v:=.slice (some ad2) 80 c2) aC (fun W=>rfl) ?_
        refine bY (v:=.int .i64 (j:Nat)) aC (fun W=>rfl) ?_
        refine bY (v:=.int .i64 (40*(j:Int))) aC (fun W=>?_) ?_
        ·go_simp
        refine bY (v:=.int .i64 (j:Nat)) aC (fun W=>rfl) ?_
        refine bY (v:=.int .i64 (40*(j:Int))) aC (fun W=>?_) ?_
        ·go_simp
        refine bY (v:=.int .i64 (40*(j:Int)+40)) aC (fun W=>?_) ?_
        ·go_simp
        refine bY (v:=.slice (some (ad2.add (j*40))) 40 (c2-j*40)) aC (fun W=>?_) ?_
        ·go_simp
         exact l88
        refine bY (v:=.pointer (some ⟨gP,9,none⟩)) aC (fun W=>?_) ?_
        ·go_simp
        refine mr ?_
        simp only[Act.put,iZ,jm,jA,jB,jC,jD]
        refine bu (fun K hK=>?_)
        refine iD aC 25 (.tmp 22) rfl gM 0 rfl mk.cs _ (fun W hW=>MB.whole hW.R.M) Tryz.underlying25 rfl uj ?_
        refine hK _ ?_;clear hK K
        refine bu (fun K hK=>?_)
        refine iD aC 90 (.tmp 24) rfl gA 0 rfl (aj a) _ (fun W hW=>gI hW.F [] (aj a) [] az rfl) Tryz.underlying90 rfl Bg ?_
        refine hK _ ?_;clear hK K
        refine wpQuiet_nil ?_
        intro W7 hW7
        have R7:=hid hW7.R
        have F7:=hid hW7.F
        clear hW7 W6 hw40 hw80
        obtain⟨pA,hpA⟩:∃pA,pA=0::(qn++enF was now o m0 j):=⟨_,rfl⟩
        obtain⟨pB,hpB⟩:∃pB,pB=List.replicate (8-j*8) (0:Int):=⟨_,rfl⟩
        obtain⟨ps2,hps2⟩:∃ps2,ps2=enZ 0 qn was now o m0 (j+1):=⟨_,rfl⟩
        have HPA:=hid (show ps=pA++(List.replicate 8 0++pB) from Kz)
        have HPB:=hid (show ps2=pA++(u++pB) from Ll)
        have LPA:=hid (show pA.length=9+j*8 from Kt)
        have HPS2:=hid hps2
        have PL2:=hid (show ps2.length=25 from Ox)
        clear hpA hpB hps2
        have RSH:=hid (show Rs W7 W7.heap.size (some (ad2.add (j*40))) (jh o j) from(JW R7.out.J.O OL.out hlt).more (jy R7.out.J.lt))
        obtain⟨mm,hmm⟩:∃mm,mm=spM mk u:=⟨_,rfl⟩
        obtain⟨xs,hxs⟩:∃xs,xs=spX mk u:=⟨_,rfl⟩
        obtain⟨np,hnp⟩:∃np,np=jR a mk.p (spX mk u):=⟨_,rfl⟩
        obtain⟨mn,hmn⟩:∃mn,mn=frP false a mk u:=⟨_,rfl⟩
        have HMN:=hid (show enK was now o m0 (j+1)=mn from Lm)
        have KN:=hid (show mn.ok from Ld)
        have MNE:=hid (show({mm with p:=np}:Mm)=mn from abn)
        have KMM:=hid (show mm.ok from by rw[hmm];exact yB KO.out UO.out)
        have MPP:=hid (show mm.p=mk.p from by rw[hmm];rfl)
        have NPL:=hid (show np.length=8 from by have h:=KN.out.p;rw[<-MNE.out] at h;exact h)
        have XSL:=hid (show xs.length=40 from by rw[hxs];exact o9 UO.out mk)
        have KSP:=hid (fun W (hB:Below w.heap.size w W)=>show Calls Tryz.prog 56 #[.agg mk.cs.toArray,.agg (aj u).toArray] W (fun e w'=> ∃A c,e=.returned (.tuple #[.agg mm.ag,.slice A 40 c])/\Own w' W.heap.size A c xs/\Below W.heap.size W w') from by
         have h1:=Ub mk KO.out u W (TT.out.1.below hB) (TT.out.2.1.below hB) UO.out (mZ (kM GK.out).2.2.1)
         unfold jW at h1
         rw[<-hmm,<-hxs,XSL.out] at h1
         exact h1)
        have KMk:=hid (fun W A1 c1 (h:Rs W W.heap.size A1 xs) (hc:40<=c1)=>show Calls Tryz.prog 57 #[.agg (agi a),.agg (aj mm.p).toArray,.slice A1 40 c1] W (fun e w'=> ∃A c n er,e=.returned (.tuple #[.slice A n c,.agg (agi np),.int .i64 er])/\Below W.heap.size W w') from by
         have h1:=zV a mm.p xs A1 c1 40 W AL.out KMM.out.p h XSL.out ah hc
         have e:(if di a mm.p xs then dY mm.p (dF a mm.p xs 40) else Z8)=np:=by rw[hnp,MPP.out,<-hxs];unfold jR;rw[XSL.out]
         rw[e] at h1
         exact h1.mono fun e w' ⟨A,c,h1,_,h3⟩=>⟨A,c,_,_,h1,h3⟩)
        clear hmm hxs hnp hmn
        have HIS:=hid (show(Tryz.prog.info? 35).map (·.size)=some (aj u).length from Lu)
        have HIP:=hid (show(Tryz.prog.info? 22).map (·.size)=some (aj mm.p).length from by rw[aQ,KMM.out.p];exact aH)
        have HSU:=hid (fun W (h:IB W gP 38 ps2)=>show W.rangeAt gP (9+j*8) (aj u) from JR h HPB.out LPA.out)
        go_wp2_with(first
         |(go_at_call 55;(with_reducible refine(KCH.out W7 _ _ RSH.out R7.out.J.L.bel).mono ?_);rintro e' w8_ ⟨rfl,hB⟩;have R8:=hid (R7.out.below hB);have F8:=hid (Blk.below' F7.out hB);clear hB;have R9:=hid (R8.out.over (aj u) (9+j*8) (IB.over R8.out.J.P HPA.out Oc HPB.out LPA.out));have F9:=hid (dh (b:=gP) abB (aj u) (9+j*8) _ F8.out);obtain⟨V9,hV9⟩:∃V9,V9=w8_.setCells gP (9+j*8) (aj u):=⟨_,rfl⟩;rw[<-hV9] at R9 F9;have HV9:=hid hV9;clear hV9)
         |(refine jd rfl 35 (.tmp 120) (.tmp 118) rfl gP (9+j*8) (agi u) rfl rfl abH Ly (gG _) ?_;rw[show(agi u).toList=aj u from rfl,<-HV9.out];clear HV9))
        clear R7 R8 F7 F8 RSH KCH
        refine mD [] [0,1,2,3,4] 5 [6,7,8,9,10] (fun W=>Xw w W e ad2 o gH hp ai x gP ps2 gN now gM mk gA a) au au rfl ⟨R9.out.below ((aA _ _).drew),Blk.drew F9.out⟩ (fun _ _ d _ _ h=>mN) ?_
        simp only[iz,jZ,mJ,mL]
        refine mr ?_
        refine bu (fun K hK=>?_)
        refine iD aC 25 (.tmp 22) rfl gM 0 rfl mk.cs _ (fun W hW=>MB.whole hW.R.M) Tryz.underlying25 rfl uj ?_
        refine hK _ ?_;clear hK K
        iterate 2
         refine bu (fun K hK=>?_)
         go_simp
         apply Exists.intro
         refine⟨fun W hW=>rfl,hK _ ?_⟩
         clear hK K
        have j2:(j:Int)<2:=ah
        refine bu (fun K hK=>?_)
        go_simp
        refine⟨.pointer (some ⟨gP,9+j*8,none⟩),fun W hW=>?_,hK _ ?_⟩
        ·first|rfl|go_simp
        clear hK K j2
        refine bu (fun K hK=>?_)
        refine iD aC 35 (.tmp 125) rfl gP (9+j*8) rfl (aj u) _ (fun W hW=>HSU.out _ hW.R.J.P) Tryz.underlying35 rfl HIS.out ?_
        refine hK _ ?_;clear hK K
        refine wpQuiet_nil ?_
        intro W11 hW11
        have R11:=hid hW11.R
        have F11:=hid hW11.F
        clear hW11 R9 F9
        go_wp2_with(first
         |(go_at_call 56;(with_reducible refine(KSP.out W11 R11.out.J.L.bel).mono ?_);rintro e' w12 ⟨A3,c3,rfl,hO,hB⟩;have R12:=hid (R11.out.below hB);have F12:=hid (Blk.below' F11.out hB);have O12:=hid hO;have GL12:=hid (Blk.lt R11.out.M);clear hO hB;have R13:=hid (R12.out.rowM (mm:=mm));have F13:=hid (Blk.rowFar (g:=gM) (c2:=mm.ag) F12.out (by have:=GLT.out;omega));have O13:=hid (O12.out.setRow (g:=gM) GL12.out mm.ag);obtain⟨V13_,hV13⟩:∃V13_,V13_=w12.setRow gM mm.ag:=⟨_,rfl⟩;rw[<-hV13] at R13 F13 O13;have HV13:=hid hV13;clear hV13)
         |(refine iO rfl (.tmp 22) (.tmp 128) rfl _ mk mm rfl rfl R12.out.M KO.out KMM.out ?_;rw[<-HV13.out];clear HV13)
         |(refine aK rfl 90 (.tmp 24) rfl _ 90 a 9 _ rfl F13.out Tryz.underlying90 rfl bC AL.out ?_)
         |(refine bI rfl 22 (.tmp 132) rfl gM 8 rfl (aj mm.p) _ (MB.P R13.out.M KMM.out) Tryz.underlying22 rfl HIP.out ?_))
        with_reducible refine(KMk.out V13_ A3 c3 O13.out.reads (by have h:=O13.out.cap.1;rw[XSL.out] at h;exact h)).mono ?_
        rintro e' w14_ ⟨A4,c4,n4,er4,rfl,hB⟩
        have R14:=hid (R13.out.below hB)
        clear hB R11 R12 R13 F11 F12 F13 O12 O13 KMk KSP
        have R15:=hid (show Xm w (w14_.setCells gM 8 (aj np)) e ad2 o gH hp ai x gP ps2 gN now gM mn from by
         have h:=R14.out.setP KMM.out np NPL.out
         rw[MNE.out] at h
         exact h)
        obtain⟨V15_,hV15⟩:∃V15_,V15_=w14_.setCells gM 8 (aj np):=⟨_,rfl⟩
        rw[<-hV15] at R15
        have HV15:=hid hV15
        clear hV15
        go_wp2_with(first
         |(refine jd rfl 22 (.tmp 139) (.tmp 137) rfl gM 8 (agi np) rfl rfl abv (by rw[dV,NPL.out];exact aH) (gG _) ?_;rw[show(agi np).toList=aj np from rfl,<-HV15.out];clear HV15))
        go_roundw
        case rel=>exact⟨j+1,ah,aO,hid (by rw[HMN.out,<-HPS2.out];exact R15.out)⟩
        case measure=>simp[intOf]<;>omega
       obtain rfl:j=2:=ah
       have HPK:=hid (show jV e s false=ps from abK)
       have J0:=hid HS.out.J
       have b1:decide (((2:Nat):Int)<2)=false:=az
       clear HS HMK RK KO c0
       have PTO:cf ps 25=true:=Bd
       have PLN:ps.length=25:=Bc
       have KP:=hid (fun W (h:Below w.heap.size w W)=>Ua ps W (TT.out.2.2.below h) PLN (Az PTO PLN))
       unfold wH at KP
       rw[show qP ps=0 from if_pos PTO] at KP
       have KFM:=hid (fun W (h:Below w.heap.size w W)=>show Calls Tryz.prog 27 #[.agg e.m.cs.toArray,.agg (agi ps)] W (jW W (frM e.m ps) (frO e.m ps)) from Uc e.m K.out.m HG.out ps W (TT.out.1.below h) (TT.out.2.1.below h) (TT.out.2.2.below h) PTO PLN)
       have KMF:=hid (yE K.out.m PTO PLN)
       have PLN:=hid PLN
       have e4q:=hid (show enE e s false=⟨hp,x,frM e.m ps⟩ from by
        unfold enE
        rw[if_pos HE.out,HPK.out,<-HHP.out,<-HX.out])
       have HBS:=hid (show mi e s false=kZ ps from AZ)
       have HYS:=hid (show enY e s false=frO e.m ps from Ba)
       exact l0
 ·have ER:=hid (show iI e s=1 from by rw[ER.out,if_neg ah])
  have hne:((n:Int) !=80)=true:=aJ
  clear KG K k HN TT hn
  go_enter Tryz.func13,Tryz.ntmps13
  go_wp2_with(refine oI rfl (.tmp 6) (.tmp 32) rfl _ dH dH rfl (congrArg Value.agg uP) S0.out.Z ik ik ?_)
  exact abR
theorem SameAt.mem(d:Nat)(m:Mm)(k:m.ok):SameAt (d+3) 25 (.agg m.ag):=by
 have l16:(aj m.r++aj m.p).length=16:=Us
 have l96:(aj m.r++(aj m.p++aj m.e)).length=96:=Ul
 have e96:m.cs=(aj m.r++(aj m.p++aj m.e))++m.tl:=Uo
 have ic:∀(o:Nat) (A B:List Value) (x:Int),m.tl=A++(.int .i64 x::B)->96+A.length=o->∃v,PartAt 3 m.ag o v/\SameAt (d+2) 3 v:=fun o A B x hx ho=>
  ⟨.int .i64 x,PartAt.cell (fun _=>au) m.cs ((aj m.r++(aj m.p++aj m.e))++A) B (.int .i64 x) (by rw[e96,hx];simp only[mG]) (by rw[gu,l96,ho]),SameAt.num _ x⟩
 refine SameAt.struct au au _ [(22,0),(22,8),(23,16),(3,96),(3,97),(3,98),(3,99),(3,100),(4,101)] au (fun p hp=>?_)
 simp only[zf,zg,or_false] at hp
 rcases hp with rfl|rfl|rfl|rfl|rfl|rfl|rfl|rfl|rfl
 ·exact⟨.agg (agi m.r),PartAt.row (n:=8) (fun _=>au) (fun _=>au) m.cs [] (aj m.r) _ rfl rfl Oe,SameAt.arr d Tryz.underlying22 _ k.r⟩
 ·exact⟨.agg (agi m.p),PartAt.row (n:=8) (fun _=>au) (fun _=>au) m.cs (aj m.r) (aj m.p) _ rfl Oe (by rw[aQ,k.p]),SameAt.arr d Tryz.underlying22 _ k.p⟩
 ·exact⟨.agg (agi m.e),PartAt.row (n:=80) (fun _=>au) (fun _=>au) m.cs (aj m.r++aj m.p) (aj m.e) m.tl Uo l16 (by rw[aQ,k.e]),SameAt.arr d Tryz.underlying23 _ k.e⟩
 ·exact ic 96 [] _ m.ga rfl rfl
 ·exact ic 97 [_] _ m.pi rfl rfl
 ·exact ic 98 [_,_] _ m.la rfl rfl
 ·exact ic 99 [_,_,_] _ m.er rfl rfl
 ·exact ic 100 [_,_,_,_] _ m.se rfl rfl
 exact⟨.bool m.si,PartAt.cell (fun _=>au) m.cs ((aj m.r++(aj m.p++aj m.e))++[.int .i64 m.ga,.int .i64 m.pi,.int .i64 m.la,.int .i64 m.er,.int .i64 m.se]) [] (.bool m.si) (by rw[e96];unfold Mm.tl;simp only[mG];rfl) (by rw[gu,l96];rfl),SameAt.tf _ m.si⟩
theorem SameAt.high(d:Nat)(xs:List Int)(hl:xs.length=4):SameAt (d+3) 44 (.agg (agi xs)):=by
 match xs,hl with
 |[a,b,c,e],_=>
  refine SameAt.struct au au _ [(42,0),(42,2)] au (fun p hp=>?_)
  simp only[zf,zg,or_false] at hp
  rcases hp with rfl|rfl
  ·exact⟨.agg (agi [a,b]),PartAt.row (n:=2) (fun _=>au) (fun _=>au) _ [] (aj [a,b]) (aj [c,e]) rfl rfl rfl,SameAt.arr d Tryz.underlying42 [a,b] rfl⟩
  exact⟨.agg (agi [c,e]),PartAt.row (n:=2) (fun _=>au) (fun _=>au) _ (aj [a,b]) (aj [c,e]) [] rfl rfl rfl,SameAt.arr d Tryz.underlying42 [c,e] rfl⟩
theorem aa5(e:En)(k:e.ok)(w:World):(binOp .eql 47 (.agg e.ag) (.agg e.ag)).run Tryz.prog w=.ok (.bool true) w:=by
 refine SameAt.eql (SameAt.struct (d:=9999) au au _ [(44,0),(45,4),(25,124)] au (fun p hp=>?_)) w
 simp only[zf,zg,or_false] at hp
 rcases hp with rfl|rfl|rfl
 ·exact⟨.agg (agi e.h),PartAt.row (n:=4) (fun _=>au) (fun _=>au) e.cs [] (aj e.h) _ rfl rfl (by rw[aQ,k.h]),SameAt.high 9996 e.h k.h⟩
 ·exact⟨.agg (agi e.x),PartAt.row (n:=120) (fun _=>au) (fun _=>au) e.cs (aj e.h) (aj e.x) _ rfl (by rw[aQ,k.h]) (by rw[aQ,k.x]),SameAt.arr 9997 Tryz.underlying45 _ k.x⟩
 exact⟨.agg e.m.ag,PartAt.row (n:=102) (fun _=>au) (fun _=>au) e.cs (aj e.h++aj e.x) e.m.cs [] abl (by rw[gu,aQ,aQ,k.h,k.x]) (e.m.len k.m),SameAt.mem 9996 e.m k.m⟩
theorem akf{w:World}{r:Reach}{b:Nat}{v:Value}(h:Value.okWide Tryz.prog w r b 47 v):∃e:En,v=.agg e.ag/\e.ok/\W64 e.m.nums:=by
 obtain⟨xs,q,rfl,hl,hw⟩:=aev (n:=225) (ti:=3) (tb:=4) Tryz.underlying47 rfl au au Tryz.underlying3 Tryz.underlying4 h
 obtain⟨a,y,ha,hl2,rfl⟩:∃a y:List Int,a.length=4/\y.length=221/\xs=a++y:=⟨xs.take 4,xs.drop 4,vg,Bf,(qh 4 xs).symm⟩
 obtain⟨x,z,hx,hl3,rfl⟩:∃x z:List Int,x.length=120/\z.length=101/\y=x++z:=⟨y.take 120,y.drop 120,vg,Bf,(qh 120 y).symm⟩
 obtain⟨m,hk,e1,e2⟩:=aew hl3 q
 refine⟨⟨a,x,m⟩,?_,⟨ha,hx,hk⟩,by rw[e1];exact fun u hu=>hw u (List.mem_append_right _ (List.mem_append_right _ hu))⟩
 have e3:aj z++[Value.bool q]=m.cs:=congrArg Array.toList e2
 unfold En.ag En.cs
 rw[<-e3]
 simp[aj]
theorem aj2(e:En)(xs:List Int)(r:Bool):(enY e xs r).length<=1000:=by
 unfold enY
 by_cases h:iI e xs=0
 ·rw[if_pos h,yF];omega
 rw[if_neg h];exact Nat.zero_le _
theorem aj3{e:En}(k:e.ok)(s:List Int)(r:Bool):(enE e s r).ok:=by
 unfold enE
 split
 ·next h0=>
  have h1:(dG e s).2.2=true:=by
   unfold iI at h0
   split at h0
   ·split at h0
    ·split at h0
     ·assumption
     cases h0
    cases h0
   cases h0
  obtain⟨h2,h3⟩:=Su s _ _ _ _ 80 h1
  exact⟨h3,by unfold enX;rw[gu,jY,k.x];show _+(dG e s).2.1.length=120;unfold dG;rw[h2],yE k.m (ZR _ _ _) (ZT _ _ _)⟩
 exact⟨az,az,jF⟩
structure Le(w W:World)(e:En)(A:Option Addr)(s:List Int):Prop where
 E:EB W w.heap.size e
 X:Rs W w.heap.size A s
 bel:Below w.heap.size w W
section
variable {w W W':World} {e:En} {A:Option Addr} {s:List Int}
theorem Le.below(h:Le w W e A s)(hb:Below W.heap.size W W'):Le w W' e A s:=⟨Blk.below' h.E hb,h.X.below (hb.mono h.bel.size),h.bel.trans (hb.mono h.bel.size)⟩
theorem Le.lt(h:Le w W e A s):w.heap.size+1<=W.heap.size:=Blk.lt h.E
theorem Le.far(h:Le w W e A s){g:Nat}(hg:w.heap.size+1<=g)(vs:List Value)(o:Nat):Le w (W.setCells g o vs) e A s:=
 ⟨dh ah _ _ _ h.E,h.X.below (iM ah _ _ _ (aA _ _)),iM ah _ _ _ h.bel⟩
end
theorem aj6(w:World):Calls Tryz.prog 15 #[] w fun e w'=>e=.returned (.agg enB.ag)/\Below w.heap.size w w':=by
 have hR:=ZV (fn:=Tryz.f15) (p:=0) rfl
 have KF:=hid (fun W=>PO W)
 have Z0:=hid (sQ w)
 have B0:=hid ((aA w.heap.size w).alloc (al0z _) (.cells Tryz.zeroCells47 47))
 go_enter Tryz.func15,Tryz.ntmps15
 exact l52
theorem akg(w:World)(a1:TabA w 4 iy)(a2:TabA w 2 aY)(a3:TabA w 3 fD)(b1:TabS w 5 iy)(b3:TabS w 0 fD)(b2:TabS w 1 aY)
 (en:En) (k:en.ok) (k64:W64 en.m.nums) (A:Option Addr) (c:Nat) (s:List Int) (hr:Rs w w.heap.size A s) (_:W64 s) (hl:s.length<=c) (hc:c*8<=140737488351232) (r:Bool):
 Calls Tryz.prog 4 #[.agg en.ag,.slice A s.length c,.bool r] w fun e w'=>e=.returned (.bool true)/\Below w.heap.size w w':=by
 have S0:=hid (show Le w (w.alloc (.cells en.ag 47)) en A s from⟨EB.new w en,hr.below ((aA _ w).alloc (al0z _) _),(aA _ w).alloc (al0z _) _⟩)
 obtain⟨V0,hV0⟩:∃V0,V0=w.alloc (.cells en.ag 47):=⟨_,rfl⟩
 rw[<-hV0] at S0
 have HV0:=hid hV0.symm
 clear hV0
 obtain⟨n,hn⟩:∃n,n=s.length:=⟨_,rfl⟩
 rw[<-hn] at hl|-
 have hn17:n<=17592186044000:=ah
 have KFm:=hid (fun W (h:Le w W en A s)=>show Calls Tryz.prog 12 #[.slice A n c] W (fun e w'=> ∃A2 c2,e=.returned (.slice A2 n c2)/\Own w' W.heap.size A2 c2 s/\Below W.heap.size W w') from by
  have h1:=aeh A c s W (h.X.more h.bel.size) ah
  rw[hn]
  exact h1)
 have KEn:=hid (fun W A2 c2 (h:Rs W W.heap.size A2 s) (hS:Le w W en A s)=>show Calls Tryz.prog 11 #[.agg en.cs.toArray,.slice A2 n c2,.bool r] W (fun e w'=> ∃A3 c3 A4 c4,e=.returned (.tuple #[.agg (enE en s r).ag,.slice A3 (mi en s r).length c3,.slice A4 (enY en s r).length c4,.int .i64 (iI en s)])/\OwnB w' W.heap.size A3 c3 (mi en s r)/\Own w' W.heap.size A4 c4 (enY en s r)/\Below W.heap.size W w') from
  ajn en k A2 c2 n s r W (a1.below hS.bel) (a2.below hS.bel) (a3.below hS.bel) h hn.symm hn17)
 have KRe:=hid (fun W (hS:Le w W en A s)=>show Calls Tryz.prog 13 #[.agg en.ag,.slice A n c,.bool r] W (fun e w'=> ∃A3 c3 A4 c4,e=.returned (.tuple #[.agg (enE en s r).ag,.slice A3 (mi en s r).length c3,.slice A4 (enY en s r).length c4,.int .i64 (iI en s)])/\OwnB w' W.heap.size A3 c3 (mi en s r)/\Own w' W.heap.size A4 c4 (enY en s r)/\Below W.heap.size W w') from
  aj0 en k k64 A c n s r W (b1.below hS.bel) (b2.below hS.bel) (b3.below hS.bel) (hS.X.more hS.bel.size) hn.symm hn17)
 have KB:=hid (fun W=>aj1 W)
 have KRb:=hid (fun W=>aj6 W)
 have K:=hid k
 have K2:=hid (aj3 k s r)
 have YLE:=hid (aj2 en s r)
 have heq:=fun w=>aa5 (enE en s r) K2.out w
 have heqB:=fun w=>aa5 enB ZY.k w
 obtain⟨s2,hs2⟩:∃s2,s2=enE en s r:=⟨_,rfl⟩
 rw[<-hs2] at KEn KRe K2 heq
 obtain⟨bs,hbs⟩:∃bs,bs=mi en s r:=⟨_,rfl⟩
 rw[<-hbs] at KEn KRe
 obtain⟨ys,hys⟩:∃ys,ys=enY en s r:=⟨_,rfl⟩
 rw[<-hys] at KEn KRe YLE
 obtain⟨er,her⟩:∃er,er=iI en s:=⟨_,rfl⟩
 rw[<-her] at KEn KRe
 obtain⟨lb,hlb⟩:∃lb,lb=bs.length:=⟨_,rfl⟩
 obtain⟨ly,hly⟩:∃ly,ly=ys.length:=⟨_,rfl⟩
 rw[<-hlb,<-hly] at KEn KRe
 rw[<-hly] at YLE
 have HLB:=hid hlb
 have HLY:=hid hly
 clear a1 a2 a3 b1 b2 b3 hr hl hc hn hn17 k k64 hs2 hbs hys her hlb hly
 go_enter Tryz.func4,Tryz.ntmps4
 go_upto_region 1 with(rw[HV0.out];clear HV0)
 go_cut[7,8,9,10] (fun s7 s8 s9 s10 wx=> ∃(gx:Nat) (A3:Option Addr) (c3:Nat) (A4:Option Addr) (c4:Nat),s7=.pointer (some ⟨gx,0,none⟩)/\s8=.slice A3 lb c3/\s9=.slice A4 ly c4/\s10=.int .i64 er/\Hid (w.heap.size+1<=gx)/\Hid (Le w wx en A s)/\Hid (EB wx gx s2)/\Hid (Rb wx wx.heap.size A3 bs)/\Hid (Rs wx wx.heap.size A4 ys))
 case first=>
  refine wp_region_held (S:=fun W=>Le w W en A s) au ?_
  have L1:=hid (Le.below S0.out ((aA _ _).drew))
  change wpAnyH _ _ _ _ _ _ _ _ (World.drew _)
  obtain⟨W1,hW1⟩:∃W1,W1=World.drew V0:=⟨_,rfl⟩
  rw[<-hW1] at L1|-
  clear hW1
  refine aV (i:=0) (v:=.agg en.cs.toArray) rfl au au au (fun _ _ _ h=>h) (yieldsIf_load_mid aC 47 (.tmp 3) rfl w.heap.size 0 rfl en.cs _ (fun W hW=>EB.whole hW.E) Tryz.underlying47 rfl (by rw[Af,en.len K.out])) L1.out ?_
  refine aV (i:=1) (v:=.slice A n c) rfl au au au (fun _ _ _ h=>h) (.inl ⟨aC,fun W hW=>by(first|rfl|go_simp)⟩) L1.out ?_
  refine aV (i:=3) (v:=.bool r) rfl au au au (fun _ _ _ h=>h) (.inl ⟨aC,fun W hW=>by(first|rfl|go_simp)⟩) L1.out ?_
  refine fM (rs:=[2,10]) au az (dJ rfl (fun K hK=>?_) (dJ rfl (fun K hK=>?_) fN))
  ·
   go_simp
   with_reducible refine(KFm.out W1 L1.out).mono ?_
   rintro e W2 ⟨A2,c2,rfl,hO,hB⟩
   have L2:=hid (Le.below L1.out hB)
   have Q2:=hid hB
   have O2:=hid hO.reads
   clear hO hB
   go_simp
   refine hK.out _ _ L2.out (fun _=>?_)
   clear hK K
   refine fM (rs:=[4,10]) au az (dJ rfl (fun K hK=>?_) (dJ rfl (fun K hK=>?_) fN))
   ·
    go_simp
    with_reducible refine(KEn.out W2 _ _ O2.out L2.out).mono ?_
    rintro e W3 ⟨A3,c3,A4,c4,rfl,hP,hR,hB⟩
    have L3:=hid (Le.below L2.out hB)
    have Q3:=hid hB
    have O3:=hid ((O2.out.below Q3.out).more Q3.out.size)
    have P3:=hid hP
    clear hP
    have R3:=hid hR
    clear hR hB
    go_simp
    refine hK.out _ _ L3.out (fun _=>?_)
    clear hK K
    refine aV (i:=5) (v:=.tuple #[.agg s2.ag,.slice A3 lb c3,.slice A4 ly c4,.int .i64 er]) rfl au au au (fun _ _ _ h=>h) (.inl ⟨aC,fun W hW=>by(first|rfl|go_simp)⟩) L3.out ?_
    refine aV (i:=6) (v:=.agg s2.ag) rfl au au au (fun _ _ _ h=>h) (.inl ⟨aC,fun W hW=>by(first|rfl|go_simp)⟩) L3.out ?_
    refine aV (i:=7) (v:=.slice A3 lb c3) rfl au au au (fun _ _ _ h=>h) (.inl ⟨aC,fun W hW=>by(first|rfl|go_simp)⟩) L3.out ?_
    refine aV (i:=8) (v:=.slice A4 ly c4) rfl au au au (fun _ _ _ h=>h) (.inl ⟨aC,fun W hW=>by(first|rfl|go_simp)⟩) L3.out ?_
    refine aV (i:=9) (v:=.int .i64 er) rfl au au au (fun _ _ _ h=>h) (.inl ⟨aC,fun W hW=>by(first|rfl|go_simp)⟩) L3.out ?_
    refine fM (rs:=[10]) au az (dJ rfl (fun K hK=>?_) fN)
    go_simp
    have L4:=hid (Le.below L3.out ((aA _ _).alloc (al0z _) (.cells Tryz.zeroCells47 47)))
    have Z4:=hid (sQ W3)
    obtain⟨W4,hW4⟩:∃W4,W4=W3.alloc (.cells Tryz.zeroCells47 47):=⟨_,rfl⟩
    have Q4:=hid (show Below W3.heap.size W3 W4 from Uh)
    rw[<-hW4] at L4 Z4|-
    clear hW4
    obtain⟨gx,hgx⟩:∃gx,gx=W3.heap.size:=⟨_,rfl⟩
    have GX:=hid (show w.heap.size+1<=gx from by rw[hgx];exact L3.out.lt)
    have GE:=hid hgx
    rw[<-hgx] at Z4|-
    clear hgx
    have O4:=hid ((O3.out.below Q4.out).more Q4.out.size)
    have P4:=hid (P3.out.below Q4.out)
    have R4:=hid (R3.out.below Q4.out)
    refine hK.out _ _ L4.out (fun _=>?_)
    clear hK K
    refine fM (rs:=[11]) au az (dJ rfl (fun K hK=>?_) fN)
    rw[if_pos aC]
    simp only[Act.put,iZ,jm,jA,jB,jC,jD]
    refine qj 47 (.tmp 7) (.tmp 21) rfl gx 0 s2.ag rfl rfl Uk UI (En.one _) ?_
    have LF:=hid (Le.far L4.out GX.out (s2.ag.toList) 0)
    have EF:=hid (EB.setAll Z4.out ik K2.out)
    have PF:=hid (P3.out.below (iM (b:=gx) Md s2.ag.toList 0 _ Q4.out))
    have RF:=hid (R3.out.below (iM (b:=gx) Md s2.ag.toList 0 _ Q4.out))
    obtain⟨WF,hWF⟩:∃WF,WF=W4.setCells gx 0 s2.ag.toList:=⟨_,rfl⟩
    have EF:=hid (show EB (W4.setCells gx 0 s2.ag.toList) gx s2 from EF.out)
    rw[<-hWF] at LF EF PF RF|-
    clear hWF
    refine hK.out _ _ LF.out (fun _=>?_)
    clear hK K
    refine aV (i:=12) (v:=.slice A3 lb c3) rfl au au au (fun _ _ _ h=>h) (.inl ⟨aC,fun W hW=>by(first|rfl|go_simp)⟩) LF.out ?_
    refine aV (i:=13) (v:=.slice A4 ly c4) rfl au au au (fun _ _ _ h=>h) (.inl ⟨aC,fun W hW=>by(first|rfl|go_simp)⟩) LF.out ?_
    refine aV (i:=14) (v:=.int .i64 er) rfl au au au (fun _ _ _ h=>h) (.inl ⟨aC,fun W hW=>by(first|rfl|go_simp)⟩) LF.out ?_
    refine tY au ?_ _
    go_wp2_with fail
    go_meet
    exact⟨gx,A3,c3,A4,c4,rfl,rfl,rfl,rfl,GX,LF,EF,hid PF.out.reads,hid RF.out.reads⟩
   ·
    go_simp
    have L3:=hid (Le.below L2.out ((aA _ _).alloc (al0z _) (.cells Tryz.zeroCells47 47)))
    have Z3:=hid (sQ W2)
    obtain⟨W3,hW3⟩:∃W3,W3=W2.alloc (.cells Tryz.zeroCells47 47):=⟨_,rfl⟩
    have Q3:=hid (show Below W2.heap.size W2 W3 from Ui)
    rw[<-hW3] at L3 Z3|-
    clear hW3
    obtain⟨gx,hgx⟩:∃gx,gx=W2.heap.size:=⟨_,rfl⟩
    have GX:=hid (show w.heap.size+1<=gx from by rw[hgx];exact L2.out.lt)
    have GE:=hid hgx
    rw[<-hgx] at Z3|-
    clear hgx
    have O3:=hid ((O2.out.below Q3.out).more Q3.out.size)
    refine hK.out _ _ L3.out (fun _=>?_)
    clear hK K
    refine fM (rs:=[4]) au az (dJ rfl (fun K hK=>?_) fN)
    go_simp
    with_reducible refine(KEn.out W3 _ _ O3.out L3.out).mono ?_
    rintro e W4 ⟨A3,c3,A4,c4,rfl,hP,hR,hB⟩
    have GB:=hid (show gx<W3.heap.size from Blk.lt Z3.out)
    have L4:=hid (Le.below L3.out hB)
    have Q4:=hid hB
    have O4:=hid ((O3.out.below Q4.out).more Q4.out.size)
    have Z4:=hid (Blk.below' Z3.out Q4.out)
    have P4:=hid hP
    clear hP
    have R4:=hid hR
    clear hR hB
    go_simp
    refine hK.out _ _ L4.out (fun _=>?_)
    clear hK K
    refine aV (i:=5) (v:=.tuple #[.agg s2.ag,.slice A3 lb c3,.slice A4 ly c4,.int .i64 er]) rfl au au au (fun _ _ _ h=>h) (.inl ⟨aC,fun W hW=>by(first|rfl|go_simp)⟩) L4.out ?_
    refine aV (i:=6) (v:=.agg s2.ag) rfl au au au (fun _ _ _ h=>h) (.inl ⟨aC,fun W hW=>by(first|rfl|go_simp)⟩) L4.out ?_
    refine aV (i:=7) (v:=.slice A3 lb c3) rfl au au au (fun _ _ _ h=>h) (.inl ⟨aC,fun W hW=>by(first|rfl|go_simp)⟩) L4.out ?_
    refine aV (i:=8) (v:=.slice A4 ly c4) rfl au au au (fun _ _ _ h=>h) (.inl ⟨aC,fun W hW=>by(first|rfl|go_simp)⟩) L4.out ?_
    refine aV (i:=9) (v:=.int .i64 er) rfl au au au (fun _ _ _ h=>h) (.inl ⟨aC,fun W hW=>by(first|rfl|go_simp)⟩) L4.out ?_
    refine fM (rs:=[11]) au az (dJ rfl (fun K hK=>?_) fN)
    rw[if_pos aC]
    simp only[Act.put,iZ,jm,jA,jB,jC,jD]
    refine qj 47 (.tmp 7) (.tmp 21) rfl gx 0 s2.ag rfl rfl Uk UI (En.one _) ?_
    have LF:=hid (Le.far L4.out GX.out (s2.ag.toList) 0)
    have EF:=hid (EB.setAll Z4.out ik K2.out)
    have PF:=hid (JU (g:=gx) GB.out s2.ag.toList 0 _ P4.out)
    have RF:=hid (Own.setCs (g:=gx) GB.out s2.ag.toList 0 _ R4.out)
    obtain⟨WF,hWF⟩:∃WF,WF=W4.setCells gx 0 s2.ag.toList:=⟨_,rfl⟩
    have EF:=hid (show EB (W4.setCells gx 0 s2.ag.toList) gx s2 from EF.out)
    rw[<-hWF] at LF EF PF RF|-
    clear hWF
    refine hK.out _ _ LF.out (fun _=>?_)
    clear hK K
    refine aV (i:=12) (v:=.slice A3 lb c3) rfl au au au (fun _ _ _ h=>h) (.inl ⟨aC,fun W hW=>by(first|rfl|go_simp)⟩) LF.out ?_
    refine aV (i:=13) (v:=.slice A4 ly c4) rfl au au au (fun _ _ _ h=>h) (.inl ⟨aC,fun W hW=>by(first|rfl|go_simp)⟩) LF.out ?_
    refine aV (i:=14) (v:=.int .i64 er) rfl au au au (fun _ _ _ h=>h) (.inl ⟨aC,fun W hW=>by(first|rfl|go_simp)⟩) LF.out ?_
    refine tY au ?_ _
    go_wp2_with fail
    go_meet
    exact⟨gx,A3,c3,A4,c4,rfl,rfl,rfl,rfl,GX,LF,EF,hid PF.out.reads,hid RF.out.reads⟩
  
  go_simp
  have L2:=hid (Le.below L1.out ((aA _ _).alloc (al0z _) (.cells Tryz.zeroCells47 47)))
  have Z2:=hid (sQ W1)
  obtain⟨W2,hW2⟩:∃W2,W2=W1.alloc (.cells Tryz.zeroCells47 47):=⟨_,rfl⟩
  have Q2:=hid (show Below W1.heap.size W1 W2 from Uj)
  rw[<-hW2] at L2 Z2|-
  clear hW2
  obtain⟨gx,hgx⟩:∃gx,gx=W1.heap.size:=⟨_,rfl⟩
  have GX:=hid (show w.heap.size+1<=gx from by rw[hgx];exact L1.out.lt)
  have GE:=hid hgx
  rw[<-hgx] at Z2|-
  clear hgx
  refine hK.out _ _ L2.out (fun _=>?_)
  clear hK K
  refine fM (rs:=[2]) au az (dJ rfl (fun K hK=>?_) fN)
  go_simp
  with_reducible refine(KFm.out W2 L2.out).mono ?_
  rintro e W3 ⟨A2,c2,rfl,hO,hB⟩
  have L3:=hid (Le.below L2.out hB)
  have Q3:=hid hB
  have Z3:=hid (Blk.below' Z2.out Q3.out)
  have O3:=hid hO.reads
  clear hO hB
  go_simp
  refine hK.out _ _ L3.out (fun _=>?_)
  clear hK K
  refine fM (rs:=[4]) au az (dJ rfl (fun K hK=>?_) fN)
  go_simp
  with_reducible refine(KEn.out W3 _ _ O3.out L3.out).mono ?_
  rintro e W4 ⟨A3,c3,A4,c4,rfl,hP,hR,hB⟩
  have GB:=hid (show gx<W3.heap.size from Blk.lt Z3.out)
  have L4:=hid (Le.below L3.out hB)
  have Q4:=hid hB
  have O4:=hid ((O3.out.below Q4.out).more Q4.out.size)
  have Z4:=hid (Blk.below' Z3.out Q4.out)
  have P4:=hid hP
  clear hP
  have R4:=hid hR
  clear hR hB
  go_simp
  refine hK.out _ _ L4.out (fun _=>?_)
  clear hK K
  refine aV (i:=5) (v:=.tuple #[.agg s2.ag,.slice A3 lb c3,.slice A4 ly c4,.int .i64 er]) rfl au au au (fun _ _ _ h=>h) (.inl ⟨aC,fun W hW=>by(first|rfl|go_simp)⟩) L4.out ?_
  refine aV (i:=6) (v:=.agg s2.ag) rfl au au au (fun _ _ _ h=>h) (.inl ⟨aC,fun W hW=>by(first|rfl|go_simp)⟩) L4.out ?_
  refine aV (i:=7) (v:=.slice A3 lb c3) rfl au au au (fun _ _ _ h=>h) (.inl ⟨aC,fun W hW=>by(first|rfl|go_simp)⟩) L4.out ?_
  refine aV (i:=8) (v:=.slice A4 ly c4) rfl au au au (fun _ _ _ h=>h) (.inl ⟨aC,fun W hW=>by(first|rfl|go_simp)⟩) L4.out ?_
  refine aV (i:=9) (v:=.int .i64 er) rfl au au au (fun _ _ _ h=>h) (.inl ⟨aC,fun W hW=>by(first|rfl|go_simp)⟩) L4.out ?_
  refine fM (rs:=[11]) au az (dJ rfl (fun K hK=>?_) fN)
  rw[if_pos aC]
  simp only[Act.put,iZ,jm,jA,jB,jC,jD]
  refine qj 47 (.tmp 7) (.tmp 21) rfl gx 0 s2.ag rfl rfl Uk UI (En.one _) ?_
  have LF:=hid (Le.far L4.out GX.out (s2.ag.toList) 0)
  have EF:=hid (EB.setAll Z4.out ik K2.out)
  have PF:=hid (JU (g:=gx) GB.out s2.ag.toList 0 _ P4.out)
  have RF:=hid (Own.setCs (g:=gx) GB.out s2.ag.toList 0 _ R4.out)
  obtain⟨WF,hWF⟩:∃WF,WF=W4.setCells gx 0 s2.ag.toList:=⟨_,rfl⟩
  have EF:=hid (show EB (W4.setCells gx 0 s2.ag.toList) gx s2 from EF.out)
  rw[<-hWF] at LF EF PF RF|-
  clear hWF
  refine hK.out _ _ LF.out (fun _=>?_)
  clear hK K
  refine aV (i:=12) (v:=.slice A3 lb c3) rfl au au au (fun _ _ _ h=>h) (.inl ⟨aC,fun W hW=>by(first|rfl|go_simp)⟩) LF.out ?_
  refine aV (i:=13) (v:=.slice A4 ly c4) rfl au au au (fun _ _ _ h=>h) (.inl ⟨aC,fun W hW=>by(first|rfl|go_simp)⟩) LF.out ?_
  refine aV (i:=14) (v:=.int .i64 er) rfl au au au (fun _ _ _ h=>h) (.inl ⟨aC,fun W hW=>by(first|rfl|go_simp)⟩) LF.out ?_
  refine tY au ?_ _
  go_wp2_with fail
  go_meet
  exact⟨gx,A3,c3,A4,c4,rfl,rfl,rfl,rfl,GX,LF,EF,hid PF.out.reads,hid RF.out.reads⟩
 case rest=>
  obtain⟨gx,A3,c3,A4,c4,rfl,rfl,rfl,rfl,GX,L1,X1,P1,R1⟩:=hcut
  clear S0 KEn KFm
  go_wp2_with(first
   |(refine Ef rfl (.tmp 3) rfl _ en rfl L1.out.E K.out ?_))
  refine(KRe.out wc L1.out).mono ?_
  rintro e w2 ⟨A5,c5,A6,c6,rfl,hP,hR,hB⟩
  have L2:=hid (L1.out.below hB)
  have BB:=bT w2 (.cells Tryz.zeroCells47 47) s2.ag
  have L3:=hid (L2.out.below BB)
  have X3:=hid (Blk.below' (Blk.below' X1.out hB) BB)
  have P3:=((P1.out.below hB).below (BB.mono hB.size)).more (gJ hB.size BB.size)
  have R3:=hid (((R1.out.below hB).below (BB.mono hB.size)).more (gJ hB.size BB.size))
  have Q3:=(hP.reads.below BB).more BB.size
  have T3:=hid ((hR.reads.below BB).more BB.size)
  have Y3:=hid (EB.setRow (sQ w2) s2)
  obtain⟨V3,hV3⟩:∃V3,V3=(w2.alloc (.cells Tryz.zeroCells47 47)).setRow w2.heap.size s2.ag:=⟨_,rfl⟩
  rw[<-hV3] at L3 X3 P3 R3 Q3 T3 Y3
  have HV3:=hid hV3
  have e1:=aa4 (c:=c3) P3 HLB.out.symm
  have e2:=aa4 (c:=c5) Q3 HLB.out.symm
  generalize strOfNums bs=st at e1 e2
  clear hV3 BB hP hR hB P3 Q3 L1 L2 X1 P1 R1 KRe
  go_wp2_with(first
   |(refine oI rfl (.tmp 11) (.tmp 30) rfl _ dH s2 rfl rfl (sQ w2) ik K2.out ?_;rw[<-HV3.out];clear HV3)
   |(refine Ef rfl (.tmp 7) rfl _ s2 rfl X3.out K2.out ?_)
   |(refine Ef rfl (.tmp 11) rfl _ s2 rfl Y3.out K2.out ?_)
   |(go_at_call 10;(with_reducible refine(aej A4 A6 c4 c6 ly _ _ ys _ R3.out T3.out HLY.out.symm (by have:=YLE.out;omega)).mono ?_);rintro e w4 ⟨rfl,hB⟩;have B4:=hid (L3.out.bel.trans (hB.mono L3.out.bel.size));clear hB)
   |(go_at_call 14;(with_reducible refine(KB.out w4).mono ?_);rintro e w5 ⟨rfl,hB⟩;have B5:=hid (B4.out.trans (hB.mono B4.out.size));clear hB)
   |(go_at_call 15;(with_reducible refine(KRb.out w5).mono ?_);rintro e w6 ⟨rfl,hB⟩;have B6:=hid (B5.out.trans (hB.mono B5.out.size));clear hB))
  go_ret
  exact⟨az,B6.out⟩
end Go.Proofs.YthoiikkjjaldnaaGreatDoor
