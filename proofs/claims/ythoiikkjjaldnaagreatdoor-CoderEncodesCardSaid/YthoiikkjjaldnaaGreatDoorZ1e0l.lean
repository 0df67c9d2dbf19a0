/- Texts that the law rests on. -/
import Derived.Test.YthoiikkjjaldnaaGreatDoorZ1e0f
import Derived.Test.YthoiikkjjaldnaaGreatDoorZ1e0h
import Derived.Test.YthoiikkjjaldnaaGreatDoorZ1e0k
namespace Go.Proofs.YthoiikkjjaldnaaGreatDoor
set_option linter.unusedVariables false
set_option linter.unusedSimpArgs false
set_option maxRecDepth 100000
set_option maxHeartbeats 8000000
open Go.RowKit

theorem ai2(A:Option Addr)(c n g:Nat)(ring:List Int)(w:World)(hb:Blk w g 27 #[.slice A n c])(hr:Rs w w.heap.size A ring)(hn:ring.length=n)(hw:W64 ring):
 FoldFn 93 (.pointer (some ⟨g,0,none⟩)) w ring:=by
 intro W hB A' c' v hv h40 h64
 have cb:W.cell? ⟨g,0,none⟩=some (.slice A n c):=Blk.cell (Blk.below' hb hB) 0
 have KF:=hid (agV A A' c c' n 40 ring v W ((hr.below hB).more hB.size) hv hn h40 hw h64)
 clear hb hr hv hB
 go_enter Tryz.func93,Tryz.ntmps93
 go_wp2_with fail
 refine KF.out.mono ?_
 rintro e w1 ⟨A2,c2,rfl,hO,hB⟩
 have O1:=hid hO
 have B1:=hid hB
 clear hO hB
 go_wp2
 go_ret
 exact⟨A2,c2,rfl,O1.out,B1.out⟩
theorem JP{o:Oper}{a:Act}{w:World}{K:Act->World->Prop}{Q:Exit->Act->World->Prop}(l c:Operand)
 (ho:o.op=.makeSlice 27 l c) (kl kc:IntKind) (n:Nat) (hl:a.eval l=.int kl (n:Int)) (hc:a.eval c=.int kc (n:Int)) (base:Nat) (hn:n<=17592186044416) (hbase:base<=w.heap.size)
 (h:∀w1,Own w1 base (some ⟨w.heap.size,0,none⟩) n (List.replicate n 0)->w.grownBy w1 none->K (a.put o.dst (.slice (some ⟨w.heap.size,0,none⟩) n n)) w1):
 Oper.wp Tryz.prog o a w K Q:=by
 obtain⟨i0,hi,hz0,hz1,hz2⟩:=info_parts BZ
 obtain⟨w',hrun,r1,r2⟩:=run_make_full (P:=Tryz.prog) w base 27 3 i0 (.int .i64 0) 1 Tryz.underlying27 hi hz0 hz1 kl kc n uw iT hbase
 unfold Oper.wp
 simp[execOp,ho,hl,hc,hrun,Result.andThen]
 refine h w' ?_ r2
 unfold Own
 rw[nM]
 rw[<-VX]
 simpa using r1
def Zs8:List Int:=[0,0,0,0,0,0,0,0]
structure Ho(w W:World)(m:Mm)(a:List Int)(A:Option Addr)(l:List Int):Prop where
 J:MB W w.heap.size m
 F:IB W (w.heap.size+1) 90 a
 U:IB W (w.heap.size+2) 35 Zs8
 L:Rs W w.heap.size A l
 t1:TabA w 4 iy
 t2:TabA w 2 aY
 B:Below w.heap.size w W
theorem Ho.below{w W W':World}{m:Mm}{a l:List Int}{A:Option Addr}(s:Ho w W m a A l)(hb:Below W.heap.size W W'):Ho w W' m a A l:=
 ⟨Blk.below' s.J hb,Blk.below' s.F hb,Blk.below' s.U hb,s.L.below (hb.mono s.B.size),s.t1,s.t2,s.B.trans (hb.mono s.B.size)⟩
theorem Ho.setC{w W:World}{m:Mm}{a l:List Int}{A:Option Addr}(s:Ho w W m a A l){g:Nat}(hg:w.heap.size+3<=g)(vs:List Value)(o:Nat):Ho w (W.setCells g o vs) m a A l:=by
 have hb:Below (w.heap.size+3) W (W.setCells g o vs):=iM hg _ _ _ (aA _ _)
 exact⟨dh ah _ _ _ s.J,dh ah _ _ _ s.F,dh ah _ _ _ s.U,s.L.below (hb.mono ah),s.t1,s.t2,iM ah _ _ _ s.B⟩
theorem TK(g:Nat):∀(vs:List Value) (o:Nat) (W:World),(W.setCells g o vs).heap.size=W.heap.size
 |[],_,_=>rfl
 |v::vs,o,W=>by
  rw[World.setCells,TK g vs (o+1)]
  simp[World.setCell]
theorem ai3{W:World}{g:Nat}(h:IB W g 22 Z8):W.there g 0 8:=Blk.there h
theorem Ho.start(w:World)(m:Mm)(a l:List Int)(A:Option Addr)(hr:Rs w w.heap.size A l)(T1:TabA w 4 iy)(T2:TabA w 2 aY):
 Ho w (((w.alloc (.cells m.ag 25)).alloc (.cells (agi a) 90)).alloc (.cells (agi Zs8) 35)) m a A l:=by
 have h1:=MB.new w m
 have h2:=IB.new (w.alloc (.cells m.ag 25)) 90 a
 have h3:=IB.new ((w.alloc (.cells m.ag 25)).alloc (.cells (agi a) 90)) 35 Zs8
 simp only[bU] at h2 h3
 have B0:=(((aA _ _).alloc (al0z w.heap.size) (.cells m.ag 25)).alloc az (.cells (agi a) 90)).alloc aJ (.cells (agi Zs8) 35)
 exact⟨Blk.alloc (Blk.alloc h1 _) _,Blk.alloc h2 _,h3,hr.below B0,T1,T2,B0⟩
theorem TM:agi Zs8= #[.int .i64 0,.int .i64 0,.int .i64 0,.int .i64 0,.int .i64 0,.int .i64 0,.int .i64 0,.int .i64 0]:=rfl
structure Hp(w W:World)(m:Mm)(a:List Int)(A:Option Addr)(l:List Int)(gR:Nat)(A3:Option Addr)(c3:Nat)(G:List Int)(A2:Option Addr)(T:List Int):Prop where
 L:Ho w W m a A l
 C:Blk W gR 27 #[.slice A3 40 c3]
 G:Rs W W.heap.size A3 G
 R:Rs W W.heap.size A2 T
theorem Hp.below{w W W':World}{m:Mm}{a l G T:List Int}{A A2 A3:Option Addr}{gR c3:Nat}(s:Hp w W m a A l gR A3 c3 G A2 T)(hb:Below W.heap.size W W'):Hp w W' m a A l gR A3 c3 G A2 T:=
 ⟨s.L.below hb,Blk.below' s.C hb,(s.G.below hb).more hb.size,(s.R.below hb).more hb.size⟩
theorem Hp.start{w W:World}{m:Mm}{a l G T:List Int}{A A2 A3:Option Addr}{c3:Nat}(s:Ho w W m a A l)(hG:Rs W W.heap.size A3 G)(hT:Rs W W.heap.size A2 T):Hp w (W.alloc (.cells #[.slice A3 40 c3] 27)) m a A l W.heap.size A3 c3 G A2 T:=by
 have hb:Below W.heap.size W (W.alloc (.cells #[.slice A3 40 c3] 27)):=(aA _ _).alloc (al0z _) _
 exact⟨s.below hb,Blk.new _ _ _,(hG.below hb).more hb.size,(hT.below hb).more hb.size⟩
structure Hq(w W:World)(m:Mm)(a:List Int)(A:Option Addr)(l:List Int)(gR:Nat)(A3:Option Addr)(c3:Nat)(G:List Int)(A2:Option Addr)(T:List Int)(gS:Nat)(us:List Int):Prop where
 L:Ho w W m a A l
 C:Blk W gR 27 #[.slice A3 40 c3]
 l1:w.heap.size+3<=gS
 l2:gR<gS
 G:Rs W gS A3 G
 R:Rs W gS A2 T
 S:IB W gS 35 us
section
variable {w W W':World} {m:Mm} {a l G T us:List Int} {A A2 A3:Option Addr} {gR c3 gS:Nat}
theorem Hq.lt(s:Hq w W m a A l gR A3 c3 G A2 T gS us):gS<W.heap.size:=Blk.lt s.S
theorem Hq.below(s:Hq w W m a A l gR A3 c3 G A2 T gS us)(hb:Below W.heap.size W W'):Hq w W' m a A l gR A3 c3 G A2 T gS us:=
 ⟨s.L.below hb,Blk.below' s.C hb,s.l1,s.l2,s.G.below (hb.mono (jy s.lt)),s.R.below (hb.mono (jy s.lt)),Blk.below' s.S hb⟩
theorem Hq.g(s:Hq w W m a A l gR A3 c3 G A2 T gS us):Rs W W.heap.size A3 G:=s.G.more (jy s.lt)
theorem Hq.t(s:Hq w W m a A l gR A3 c3 G A2 T gS us):Rs W W.heap.size A2 T:=s.R.more (jy s.lt)
theorem Hq.start(s:Hp w W m a A l gR A3 c3 G A2 T)(us:List Int):Hq w (W.alloc (.cells (agi us) 35)) m a A l gR A3 c3 G A2 T W.heap.size us:=by
 have hb:Below W.heap.size W (W.alloc (.cells (agi us) 35)):=(aA _ _).alloc (al0z _) _
 exact⟨s.L.below hb,Blk.below' s.C hb,Blk.lt s.L.U,Blk.lt s.C,s.G.below hb,s.R.below hb,IB.new _ _ _⟩
end
theorem Hq.sets{w W:World}{m:Mm}{a l G T us us':List Int}{A A2 A3:Option Addr}{gR c3 gS:Nat}(s:Hq w W m a A l gR A3 c3 G A2 T gS us)(vs:List Value)(o:Nat)(h:IB (W.setCells gS o vs) gS 35 us'):Hq w (W.setCells gS o vs) m a A l gR A3 c3 G A2 T gS us':=by
 have hb:Below gS W (W.setCells gS o vs):=iM (al0z _) _ _ _ (aA _ _)
 have h2:=s.l2
 exact⟨s.L.setC s.l1 vs o,dh ah _ _ _ s.C,s.l1,s.l2,s.G.below hb,s.R.below hb,h⟩
theorem aaH(m:Mm)(k:m.ok)(g:aU m=true)(a l:List Int)(ha:jH a)(hal:a.length=9)(A:Option Addr)(c:Nat)(w:World)(hr:Rs w w.heap.size A l)(hl:l.length=40)(h16:eG l)(T1:TabA w 4 iy)(T2:TabA w 2 aY):
 Calls Tryz.prog 45 #[.agg m.ag,.agg (agi a),.slice A 40 c] w (fun e w'=>e=.returned (.agg (agi (chU m a l)))/\Below w.heap.size w w'):=by
 have hR:=x8 (fn:=Tryz.f45) (p:=6) (ty:=35) rfl
 have S0:=Ho.start w m a l A hr T1 T2
 obtain⟨V0,hV⟩:∃V0,V0=(((w.alloc (.cells m.ag 25)).alloc (.cells (agi a) 90)).alloc (.cells (agi Zs8) 35)):=⟨_,rfl⟩
 rw[<-hV] at S0
 rw[TM] at hV
 have S0:=hid S0
 have HV:=hid hV.symm
 have K0:=hid k
 have AL:=hid hal
 have LL:=hid hl
 have L16:=hid h16
 have GF:=zN (x:=List.replicate 40 0) ha (kM g).2.1 (Rn 40)
 have YL:=hid (Zc (m:=m) (a:=a))
 have Y16:=hid (fQ (show aG (jI m a)=true from yw _ _ _ _))
 have QL:=hid (qK (jI m a) m.p k.p)
 have KM:=hid (fun W A1 c1 (h:Rs W W.heap.size A1 (List.replicate 40 0))=>show Calls Tryz.prog 90 #[.agg (aj a).toArray,.agg (aj m.p).toArray,.slice A1 40 c1] W (qW W (jI m a) (dY m.p (jI m a)) 0) from by
  have h1:=Rk a m.p (List.replicate 40 0) A1 c1 40 W hal k.p h nM ah
  rw[GF,if_pos rfl,if_pos rfl,show aZ true=0 from rfl,show dF a m.p (List.replicate 40 0) 40=jI m a from rfl] at h1
  exact h1)
 unfold qW at KM
 have KLs:=hid (fun W A1 c1 A2 c2 (h1:Rs W W.heap.size A1 l) (h2:Rs W W.heap.size A2 (jI m a))=>show Calls Tryz.prog 91 #[.slice A1 40 c1,.slice A2 40 c2] W (fun e w'=> ∃A c,e=.returned (.slice A 40 c)/\Own w' W.heap.size A c (chT m a l)/\Below W.heap.size W w') from
  (aaz A1 A2 c1 c2 l (jI m a) W h1 h2 hl YL.out h16 Y16.out).mono fun e w' ⟨A,c,h1,h2,h3⟩=>⟨A,c,by rw[h1,D7],h2,h3⟩)
 have GL:=hid (D8 ha)
 have GI:=hid (zW ha)
 have GW:=hid (show W64 (chR a) from mZ (zW ha))
 have KRg:=hid (fun W=>show Calls Tryz.prog 92 #[.agg (agi a),.int .i64 40] W (fun e w'=> ∃A c,e=.returned (.tuple #[.slice A 40 c,.int .i64 0])/\Own w' W.heap.size A c (chR a)/\Below W.heap.size W w') from
  (ahy a 40 W hal).mono fun e w' ⟨A,c,h1,h2,h3⟩=>⟨A,c,abj,h2,h3⟩)
 have PE:=hid (show iP (chR a) m.e (chT m a l)=0 by
  unfold iP
  rw[if_pos yK,yM,(kM g).2.2.1,Jg ha];rfl)
 have KPk:=hid (fun W gR A2 c2 (hf:FoldFn 93 (.pointer (some ⟨gR,0,none⟩)) W (chR a)) (hr:Rs W W.heap.size A2 (chT m a l))=>show Calls Tryz.prog 95 #[.agg (aj m.e).toArray,.func (.func 93) #[] #[.pointer (some ⟨gR,0,none⟩)],.slice A2 40 c2] W (fun e w'=>e=.returned (.tuple #[.int .i64 (chK m a l).1,.int .i64 (chK m a l).2.1,.int .i64 (chK m a l).2.2,.int .i64 0])/\Below W.heap.size W w') from
  (aiI m.e (chR a) (chT m a l) _ A2 c2 40 W k.e hr yK ah hf).mono fun e w' ⟨h1,h2⟩=>⟨by
    unfold piA piB pkD at h1
    rw[PE.out,if_pos rfl,if_pos rfl,if_pos rfl] at h1
    exact h1,h2⟩)
 have HI80:=hid (show(Tryz.prog.info? 23).map (·.size)=some (aj m.e).length from Be)
 have KFd:=hid (fun W gR A3 c3 (h1:Blk W gR 27 #[.slice A3 40 c3]) (h2:Rs W W.heap.size A3 (chR a))=>ai2 A3 c3 40 gR (chR a) W h1 h2 GL.out GW.out)
 have KNr:=hid (fun W (h:Ho w W m a A l)=>show Calls Tryz.prog 96 #[.int .i64 (chK m a l).2.1,.int .i64 (chK m a l).2.2] W (fun e w'=>e=.returned (.int .i64 (chP m a l))/\Below W.heap.size W w') from by
  have r:=IU (chR a) m.e (fQ (yM (m:=m) (a:=a) (l:=l))) 60
  have r2:chK m a l=pkS (chR a) m.e (chT m a l) 60:=rfl
  rw[<-r2] at r
  exact ahn _ _ W (h.t2.below' h.B (al0z _)) ah ah ah ah)
 have KGn:=hid (fun W (h:Ho w W m a A l)=>show Calls Tryz.prog 97 #[.int .i64 (chP m a l)] W (fun e w'=>e=.returned (.tuple #[.int .i64 (bP (chP m a l)),.int .i64 0])/\W=w') from by
  have h1:=Xb (chP m a l) W (h.t2.below' h.B (al0z _))
  rw[zF D9.1 D9.2] at h1
  exact h1)
 have KPs:=hid (fun W=>show Calls Tryz.prog 98 #[.agg (aj m.e).toArray,.int .i64 (chK m a l).1] W (fun e w'=> ∃A c,e=.returned (.tuple #[.slice A 40 c,.int .i64 0])/\Own w' W.heap.size A c (cO m.e (chK m a l).1)/\Below W.heap.size W w') from
  (PH m.e (chK m a l).1 W k.e).mono fun e w' ⟨A,c,h1,h2,h3⟩=>⟨A,c,abA,h2,h3⟩)
 have KF1:=hid (fun W gR A3 c3 A5 c5 (h1:Blk W gR 27 #[.slice A3 40 c3]) (h2:Rs W W.heap.size A3 (chR a)) (h3:Rs W W.heap.size A5 (cO m.e (chK m a l).1))=>show Calls Tryz.prog 93 #[.slice A5 40 c5,.pointer (some ⟨gR,0,none⟩)] W (fun e w'=> ∃A c,e=.returned (.slice A 40 c)/\Own w' W.heap.size A c (chV m a l)/\Below W.heap.size W w') from
  (KFd.out W gR A3 c3 h1 h2 W (aA _ _) A5 c5 _ h3 Jh (mZ (Ru g))).mono fun e w' ⟨A,c,h1,h2,h3⟩=>⟨A,c,aa8,h2,h3⟩)
 have KSc:=hid (fun W A6 c6 (h1:Rs W W.heap.size A6 (chV m a l))=>show Calls Tryz.prog 99 #[.slice A6 40 c6,.int .i64 (bP (chP m a l))] W (fun e w'=> ∃A c,e=.returned (.slice A 40 c)/\Own w' W.heap.size A c (sH (chV m a l) (bP (chP m a l)) 40)/\Below W.heap.size W w') from
  (aiJ A6 c6 (chV m a l) (bP (chP m a l)) W h1 (Rw g ha) (fQ Ze) (by have:=Io (chP m a l);omega)).mono fun e w' ⟨A,c,h1,h2,h3⟩=>⟨A,c,by rw[h1,Rl],h2,h3⟩)
 have KL2:=hid (fun W A2 c2 A7 c7 (h1:Rs W W.heap.size A2 (chT m a l)) (h2:Rs W W.heap.size A7 (sH (chV m a l) (bP (chP m a l)) 40))=>show Calls Tryz.prog 91 #[.slice A2 40 c2,.slice A7 40 c7] W (fun e w'=> ∃A c,e=.returned (.slice A 40 c)/\Own w' W.heap.size A c (iQ m a l)/\Below W.heap.size W w') from
  (aaz A2 A7 c2 c7 (chT m a l) _ W h1 h2 yK (Rl _ _ _) (fQ yM) (fQ (ahA _ _ _))).mono fun e w' ⟨A,c,h1,h2,h3⟩=>⟨A,c,by rw[h1,D7],h2,h3⟩)
 have KTg:=hid (fun W A8 c8 A3 c3 (h1:Rs W W.heap.size A8 (iQ m a l)) (h2:Rs W W.heap.size A3 (chR a))=>show Calls Tryz.prog 100 #[.slice A8 40 c8,.slice A3 40 c3] W (fun e w'=> ∃A c,e=.returned (.tuple #[.slice A 40 c,.int .i64 0])/\Own w' W.heap.size A c (chD m a l)/\Below W.heap.size W w') from
  (afi A8 A3 c8 c3 40 40 (iQ m a l) (chR a) W h1 h2 Ea GL.out (mZ yO) GW.out).mono fun e w' ⟨A,c,h1,h2,h3⟩=>⟨A,c,abb,h2,h3⟩)
 have KFw:=hid (fun W A9 c9 A3 c3 (h1:Rs W W.heap.size A9 (chD m a l)) (h2:Rs W W.heap.size A3 (chR a))=>show Calls Tryz.prog 101 #[.slice A9 40 c9,.slice A3 40 c3] W (fun e w'=>e=.returned (.tuple #[.agg (agi (chI m a l)),.int .i64 (chS m a l),.int .i64 0])/\Below W.heap.size W w') from
  (ai1 A9 A3 c9 c3 40 40 (chD m a l) (chR a) W h1 h2 (Ji ha) GL.out (Zg ha) GW.out).mono fun e w' ⟨h1,h2⟩=>⟨by
    unfold seX seS at h1
    rw[Zh ha,if_pos rfl,if_pos rfl] at h1
    exact h1,h2⟩)
 have KBd:=hid (fun W=>show Calls Tryz.prog 102 #[.agg (agi (chI m a l)),.int .i64 (chS m a l),.int .i64 4096] W (fun e w'=> ∃A c,e=.returned (.tuple #[.slice A 40 c,.int .i64 0])/\Own w' W.heap.size A c (blL (chI m a l) (chS m a l) 4096)/\Below W.heap.size W w') from
  (Xt (chI m a l) (chS m a l) 4096 W yP ah ah).mono fun e w' ⟨A,c,h1,h2,h3⟩=>⟨A,c,by rw[h1,Jj,Eb];rfl,h2,h3⟩)
 have KF2:=hid (fun W gR A3 c3 A5 c5 (h1:Blk W gR 27 #[.slice A3 40 c3]) (h2:Rs W W.heap.size A3 (chR a)) (h3:Rs W W.heap.size A5 (blL (chI m a l) (chS m a l) 4096))=>show Calls Tryz.prog 93 #[.slice A5 40 c5,.pointer (some ⟨gR,0,none⟩)] W (fun e w'=> ∃A c,e=.returned (.slice A 40 c)/\Own w' W.heap.size A c (chF m a l)/\Below W.heap.size W w') from
  (KFd.out W gR A3 c3 h1 h2 W (aA _ _) A5 c5 _ h3 Eb (mZ Ry)).mono fun e w' ⟨A,c,h1,h2,h3⟩=>⟨A,c,aa6,h2,h3⟩)
 have KD1:=hid (fun W A8 c8 A9 c9 (h1:Rs W W.heap.size A8 (iQ m a l)) (h2:Rs W W.heap.size A9 (chF m a l))=>show Calls Tryz.prog 104 #[.slice A8 40 c8,.slice A9 40 c9] W (fun e w'=>e=.returned (.int .i64 (bz (iQ m a l) (chF m a l) 40))/\W=w') from
  aaA A8 A9 c8 c9 40 40 _ _ W h1 h2 Ea (yR ha) (al0z _) ah (fQ yO) (fQ pF))
 have KD2:=hid (fun W A9 c9 (h2:Rs W W.heap.size A9 (chF m a l))=>show Calls Tryz.prog 104 #[.slice A9 40 c9,.slice A9 40 c9] W (fun e w'=>e=.returned (.int .i64 (bz (chF m a l) (chF m a l) 40))/\W=w') from
  aaA A9 A9 c9 c9 40 40 _ _ W h2 h2 (yR ha) (yR ha) (al0z _) ah (fQ pF) (fQ pF))
 have dr1:=oq (fQ (yO (m:=m) (a:=a) (l:=l))) (fQ (pF (m:=m) (a:=a) (l:=l))) 40
 have dr2:=oq (fQ (pF (m:=m) (a:=a) (l:=l))) (fQ (pF (m:=m) (a:=a) (l:=l))) 40
 have dw:IntKind.i64.wrap (bz (iQ m a l) (chF m a l) 40*4096)=bz (iQ m a l) (chF m a l) 40*4096:=aN
 have KO:=hid (fun W (h:Ho w W m a A l)=>show Calls Tryz.prog 103 #[.int .i64 (bz (iQ m a l) (chF m a l) 40*4096),.int .i64 (bz (chF m a l) (chF m a l) 40)] W (fun e w'=>e=.returned (.int .i64 (chL m a l))/\W=w') from
  ahp _ _ W (h.t1.below' h.B (al0z _)) ah ah ah ah)
 have IL:=yP (m:=m) (a:=a) (l:=l)
 obtain⟨T,hT⟩:∃T,T=chT m a l:=⟨_,rfl⟩
 have TL:=hid (show T.length=40 by rw[hT];exact yK)
 have T16:=hid (show eG T by rw[hT];exact fQ yM)
 generalize dY m.p (jI m a)=q2 at*
 obtain⟨Y,hY⟩:∃Y,Y=jI m a:=⟨_,rfl⟩
 rw[<-hY] at YL Y16 KM KLs
 rw[<-hT] at KLs KPk PE KL2
 obtain⟨G,hG⟩:∃G,G=chR a:=⟨_,rfl⟩
 rw[<-hG] at GL GI GW KRg KPk PE KFd KF1 KTg KFw KF2
 have HGG:=hid hG
 clear hG
 obtain⟨kL,hkL⟩:∃kL,kL=(chK m a l).1:=⟨_,rfl⟩
 obtain⟨kC,hkC⟩:∃kC,kC=(chK m a l).2.1:=⟨_,rfl⟩
 obtain⟨kE,hkE⟩:∃kE,kE=(chK m a l).2.2:=⟨_,rfl⟩
 rw[<-hkL,<-hkC,<-hkE] at KPk
 rw[<-hkL] at KPs KF1
 rw[<-hkC,<-hkE] at KNr
 obtain⟨P,hP⟩:∃P,P=chP m a l:=⟨_,rfl⟩
 rw[<-hP] at KNr KGn KSc KL2
 generalize cO m.e kL=Pa at*
 obtain⟨gv,hgv⟩:∃g,g=bP P:=⟨_,rfl⟩
 rw[<-hgv] at KGn KSc KL2
 clear hgv
 obtain⟨Vv,hVv⟩:∃V,V=chV m a l:=⟨_,rfl⟩
 rw[<-hVv] at KF1 KSc KL2
 clear hVv
 generalize sH Vv gv 40=Sc at*
 obtain⟨TQ,hTQ⟩:∃V,V=iQ m a l:=⟨_,rfl⟩
 rw[<-hTQ] at KL2 KTg KD1 KO dr1 dw
 have HTQ:=hid hTQ
 clear hTQ
 obtain⟨D,hD⟩:∃V,V=chD m a l:=⟨_,rfl⟩
 rw[<-hD] at KTg KFw
 clear hD
 have HU:=hid (show chU m a l=(kL-20)::P::(chI m a l++[chS m a l,chL m a l]) from by rw[hkL,hP];rfl)
 generalize blL (chI m a l) (chS m a l) 4096=Bl at*
 generalize chF m a l=F at*
 generalize bz TQ F 40=dC at*
 generalize bz F F 40=dE at*
 generalize chL m a l=Lv at*
 generalize chS m a l=Sg at*
 generalize chI m a l=I at*
 generalize chU m a l=U at*
 obtain⟨i0,i1,i2,i3,rfl⟩:=uV IL
 clear IL dr1 dr2
 have HPP:=hid hP
 clear hP
 have klr:=yN (m:=m) (a:=a) (l:=l)
 rw[<-hkL] at klr
 have hkw:IntKind.i64.wrap (kL-20)=kL-20:=aN
 have HKL:=hid hkL
 have HKC:=hid hkC
 have HKE:=hid hkE
 clear hkL hkC hkE
 clear hV k hal hl h16 hr T1 T2 GF
 have HG:=hid g
 have HA:=hid ha
 have HY:=hid hY
 have HTT:=hid hT
 clear g ha hY hT
 go_enter Tryz.func45,Tryz.ntmps45
 go_upto_region 1 with(rw[HV.out];clear HV)
 go_cut[7,9] (fun s7 s9 wx=> ∃(A1:Option Addr) (c1:Nat),s7=.slice A1 40 c1/\s9=.int .i64 0/\Hid (Ho w wx m a A l)/\Hid (Rs wx wx.heap.size A1 Y))
 case first=>
  refine wp_region_held (S:=fun W=>Ho w W m a A l) au ?_
  have S1:=hid (Ho.below S0.out ((aA _ _).drew))
  change wpAnyH _ _ _ _ _ _ _ _ (World.drew _)
  obtain⟨V,hV⟩:∃V,V=V0.drew:=⟨_,rfl⟩
  rw[<-hV] at S1|-
  clear hV S0
  refine aV (i:=0) (v:=.agg (aj a).toArray) rfl au au au (fun _ _ _ h=>h) (yieldsIf_load_mid aC 90 (.tmp 4) rfl (w.heap.size+1) 0 rfl (aj a) _ (fun W hW=>IB.rangeAt hW.F) Tryz.underlying90 rfl (by rw[aQ,AL.out];exact bC)) S1.out ?_
  refine aV (i:=1) (v:=.pointer (some ⟨w.heap.size,8,none⟩)) rfl au au au (fun _ _ _ h=>h) (.inl ⟨aC,fun W hW=>by(first|rfl|go_simp)⟩) S1.out ?_
  refine aV (i:=2) (v:=.agg (aj m.p).toArray) rfl au au au (fun _ _ _ h=>h) (yieldsIf_load_mid aC 22 (.tmp 30) rfl w.heap.size 8 rfl (aj m.p) _ (fun W hW=>MB.P hW.J K0.out) Tryz.underlying22 rfl (by rw[aQ,K0.out.p];exact aH)) S1.out ?_
  refine fM (rs:=[3,9]) au az (dJ rfl (fun K hK=>?_) (dJ rfl (fun K hK=>?_) fN))
  ·
   rw[if_pos aC]
   simp only[Act.put,iZ,jm,jA,jB,jC,jD]
   refine JP _ _ rfl .i64 .i64 40 rfl rfl V.heap.size ah (al0z _) ?_
   intro W2 hO hG
   obtain⟨A1,hA1⟩:∃A1,A1=some (⟨V.heap.size,0,none⟩:Addr):=⟨_,rfl⟩
   rw[<-hA1] at hO|-
   have O2:=hid (show Rs W2 W2.heap.size A1 (List.replicate 40 0) from hO.reads)
   have Q2:=hid (show Below V.heap.size V W2 from(aA _ _).grown hG (al0z _) az)
   have L2:=hid (Ho.below S1.out Q2.out)
   clear hO hG hA1
   refine hK.out _ _ L2.out (fun _=>?_)
   clear hK K
   refine fM (rs:=[4,9]) au az (dJ rfl (fun K hK=>?_) (dJ rfl (fun K hK=>?_) fN))
   ·
    go_simp
    with_reducible refine(KM.out W2 A1 40 O2.out).mono ?_
    rintro e W3 ⟨A2,c2,rfl,hO,hB⟩
    have L3:=hid (Ho.below L2.out hB)
    have P3:=hid hO
    have Q3:=hid hB
    clear hO hB
    rw[YL.out]
    go_simp
    refine hK.out _ _ L3.out (fun _=>?_)
    clear hK K
    refine aV (i:=5) (v:=.tuple #[.slice A2 40 c2,.agg (agi q2),.int .i64 0]) rfl au au au (fun _ _ _ h=>h) (.inl ⟨aC,fun W hW=>by(first|rfl|go_simp)⟩) L3.out ?_
    refine aV (i:=6) (v:=.slice A2 40 c2) rfl au au au (fun _ _ _ h=>h) (.inl ⟨aC,fun W hW=>by(first|rfl|go_simp)⟩) L3.out ?_
    refine aV (i:=7) (v:=.agg (agi q2)) rfl au au au (fun _ _ _ h=>h) (.inl ⟨aC,fun W hW=>by(first|rfl|go_simp)⟩) L3.out ?_
    refine aV (i:=8) (v:=.int .i64 0) rfl au au au (fun _ _ _ h=>h) (.inl ⟨aC,fun W hW=>by(first|rfl|go_simp)⟩) L3.out ?_
    refine fM (rs:=[9]) au az (dJ rfl (fun K hK=>?_) fN)
    go_simp
    have L4:=hid (Ho.below L3.out ((aA _ _).alloc (al0z _) (.cells (agi Z8) 22)))
    have Z4:=hid (IB.new W3 22 Z8)
    obtain⟨W4,hW4⟩:∃W4,W4=W3.alloc (.cells (agi Z8) 22):=⟨_,rfl⟩
    have Q4:=hid (show Below W3.heap.size W3 W4 from Uh)
    rw[<-hW4] at L4 Z4
    rw[bW] at hW4
    rw[<-hW4]
    clear hW4
    obtain⟨gx,hgx⟩:∃gx,gx=W3.heap.size:=⟨_,rfl⟩
    have GX:=hid (show w.heap.size+3<=gx from by rw[hgx];exact Blk.lt L3.out.U)
    have GE:=hid hgx
    rw[<-hgx] at Z4|-
    clear hgx
    refine hK.out _ _ L4.out (fun _=>?_)
    clear hK K
    refine aV (i:=10) (v:=.slice A2 40 c2) rfl au au au (fun _ _ _ h=>h) (.inl ⟨aC,fun W hW=>by(first|rfl|go_simp)⟩) L4.out ?_
    refine fM (rs:=[11]) au az (dJ rfl (fun K hK=>?_) fN)
    rw[if_pos aC]
    simp only[Act.put,iZ,jm,jA,jB,jC,jD]
    refine qj 22 (.tmp 8) (.tmp 35) rfl gx 0 (agi q2) rfl rfl AO ui (gG _) ?_
    have LF:=hid (Ho.setC L4.out GX.out (agi q2).toList 0)
    have RF:=hid (show Rs (W4.setCells gx 0 (agi q2).toList) (W4.setCells gx 0 (agi q2).toList).heap.size A2 Y from Rs.more (Rs.below P3.out.reads (show Below W3.heap.size W3 (W4.setCells gx 0 (agi q2).toList) from iM Md _ _ _ Q4.out)) (gJ Q4.out.size (by rw[TK];exact al0z _)))
    obtain⟨WF,hWF⟩:∃WF,WF=W4.setCells gx 0 (agi q2).toList:=⟨_,rfl⟩
    rw[<-hWF] at LF RF|-
    clear hWF
    refine hK.out _ _ LF.out (fun _=>?_)
    clear hK K
    refine aV (i:=12) (v:=.int .i64 0) rfl au au au (fun _ _ _ h=>h) (.inl ⟨aC,fun W hW=>by(first|rfl|go_simp)⟩) LF.out ?_
    refine tY au ?_ _
    go_wp2_with fail
    go_meet
    exact⟨A2,c2,rfl,rfl,LF,RF⟩
   
   go_simp
   have L3:=hid (Ho.below L2.out ((aA _ _).alloc (al0z _) (.cells (agi Z8) 22)))
   have Z3:=hid (IB.new W2 22 Z8)
   obtain⟨W3,hW3⟩:∃W3,W3=W2.alloc (.cells (agi Z8) 22):=⟨_,rfl⟩
   have Q3:=hid (show Below W2.heap.size W2 W3 from Ui)
   rw[<-hW3] at L3 Z3
   rw[bW] at hW3
   rw[<-hW3]
   clear hW3
   obtain⟨gx,hgx⟩:∃gx,gx=W2.heap.size:=⟨_,rfl⟩
   have GX:=hid (show w.heap.size+3<=gx from by rw[hgx];exact Blk.lt L2.out.U)
   have GE:=hid hgx
   rw[<-hgx] at Z3|-
   clear hgx
   refine hK.out _ _ L3.out (fun _=>?_)
   clear hK K
   refine fM (rs:=[4]) au az (dJ rfl (fun K hK=>?_) fN)
   have O3:=hid ((O2.out.below Q3.out).more Q3.out.size)
   go_simp
   with_reducible refine(KM.out W3 A1 40 O3.out).mono ?_
   rintro e W4 ⟨A2,c2,rfl,hO,hB⟩
   have L4:=hid (Ho.below L3.out hB)
   have P4:=hid hO
   have Q4:=hid hB
   clear hO hB
   rw[YL.out]
   go_simp
   refine hK.out _ _ L4.out (fun _=>?_)
   clear hK K
   refine aV (i:=5) (v:=.tuple #[.slice A2 40 c2,.agg (agi q2),.int .i64 0]) rfl au au au (fun _ _ _ h=>h) (.inl ⟨aC,fun W hW=>by(first|rfl|go_simp)⟩) L4.out ?_
   refine aV (i:=6) (v:=.slice A2 40 c2) rfl au au au (fun _ _ _ h=>h) (.inl ⟨aC,fun W hW=>by(first|rfl|go_simp)⟩) L4.out ?_
   refine aV (i:=7) (v:=.agg (agi q2)) rfl au au au (fun _ _ _ h=>h) (.inl ⟨aC,fun W hW=>by(first|rfl|go_simp)⟩) L4.out ?_
   refine aV (i:=8) (v:=.int .i64 0) rfl au au au (fun _ _ _ h=>h) (.inl ⟨aC,fun W hW=>by(first|rfl|go_simp)⟩) L4.out ?_
   have Z4:=hid (Blk.below' Z3.out Q4.out)
   refine aV (i:=10) (v:=.slice A2 40 c2) rfl au au au (fun _ _ _ h=>h) (.inl ⟨aC,fun W hW=>by(first|rfl|go_simp)⟩) L4.out ?_
   refine fM (rs:=[11]) au az (dJ rfl (fun K hK=>?_) fN)
   rw[if_pos aC]
   simp only[Act.put,iZ,jm,jA,jB,jC,jD]
   refine qj 22 (.tmp 8) (.tmp 35) rfl gx 0 (agi q2) rfl rfl AO ui (gG _) ?_
   have LF:=hid (Ho.setC L4.out GX.out (agi q2).toList 0)
   have RF:=hid (show Rs (W4.setCells gx 0 (agi q2).toList) (W4.setCells gx 0 (agi q2).toList).heap.size A2 Y from(Own.setCs (g:=gx) (Blk.lt Z3.out) (agi q2).toList 0 _ P4.out).reads)
   obtain⟨WF,hWF⟩:∃WF,WF=W4.setCells gx 0 (agi q2).toList:=⟨_,rfl⟩
   rw[<-hWF] at LF RF|-
   clear hWF
   refine hK.out _ _ LF.out (fun _=>?_)
   clear hK K
   refine aV (i:=12) (v:=.int .i64 0) rfl au au au (fun _ _ _ h=>h) (.inl ⟨aC,fun W hW=>by(first|rfl|go_simp)⟩) LF.out ?_
   refine tY au ?_ _
   go_wp2_with fail
   go_meet
   exact⟨A2,c2,rfl,rfl,LF,RF⟩
  
  go_simp
  have L2:=hid (Ho.below S1.out ((aA _ _).alloc (al0z _) (.cells (agi Z8) 22)))
  have Z2:=hid (IB.new V 22 Z8)
  obtain⟨W2,hW2⟩:∃W2,W2=V.alloc (.cells (agi Z8) 22):=⟨_,rfl⟩
  have Q2:=hid (show Below V.heap.size V W2 from Uj)
  rw[<-hW2] at L2 Z2
  rw[bW] at hW2
  rw[<-hW2]
  clear hW2
  obtain⟨gx,hgx⟩:∃gx,gx=V.heap.size:=⟨_,rfl⟩
  have GX:=hid (show w.heap.size+3<=gx from by rw[hgx];exact Blk.lt S1.out.U)
  have GE:=hid hgx
  rw[<-hgx] at Z2|-
  clear hgx
  refine hK.out _ _ L2.out (fun _=>?_)
  clear hK K
  refine fM (rs:=[3]) au az (dJ rfl (fun K hK=>?_) fN)
  rw[if_pos aC]
  simp only[Act.put,iZ,jm,jA,jB,jC,jD]
  refine JP _ _ rfl .i64 .i64 40 rfl rfl W2.heap.size ah (al0z _) ?_
  intro W3 hO hG
  obtain⟨A1,hA1⟩:∃A1,A1=some (⟨W2.heap.size,0,none⟩:Addr):=⟨_,rfl⟩
  rw[<-hA1] at hO|-
  have O3:=hid (show Rs W3 W3.heap.size A1 (List.replicate 40 0) from hO.reads)
  have Q3:=hid (show Below W2.heap.size W2 W3 from(aA _ _).grown hG (al0z _) az)
  have L3:=hid (Ho.below L2.out Q3.out)
  clear hO hG hA1
  refine hK.out _ _ L3.out (fun _=>?_)
  clear hK K
  have Z3:=hid (Blk.below' Z2.out Q3.out)
  refine fM (rs:=[4]) au az (dJ rfl (fun K hK=>?_) fN)
  go_simp
  with_reducible refine(KM.out W3 A1 40 O3.out).mono ?_
  rintro e W4 ⟨A2,c2,rfl,hO,hB⟩
  have L4:=hid (Ho.below L3.out hB)
  have P4:=hid hO
  have Q4:=hid hB
  clear hO hB
  rw[YL.out]
  go_simp
  refine hK.out _ _ L4.out (fun _=>?_)
  clear hK K
  refine aV (i:=5) (v:=.tuple #[.slice A2 40 c2,.agg (agi q2),.int .i64 0]) rfl au au au (fun _ _ _ h=>h) (.inl ⟨aC,fun W hW=>by(first|rfl|go_simp)⟩) L4.out ?_
  refine aV (i:=6) (v:=.slice A2 40 c2) rfl au au au (fun _ _ _ h=>h) (.inl ⟨aC,fun W hW=>by(first|rfl|go_simp)⟩) L4.out ?_
  refine aV (i:=7) (v:=.agg (agi q2)) rfl au au au (fun _ _ _ h=>h) (.inl ⟨aC,fun W hW=>by(first|rfl|go_simp)⟩) L4.out ?_
  refine aV (i:=8) (v:=.int .i64 0) rfl au au au (fun _ _ _ h=>h) (.inl ⟨aC,fun W hW=>by(first|rfl|go_simp)⟩) L4.out ?_
  have Z4:=hid (Blk.below' Z3.out Q4.out)
  refine aV (i:=10) (v:=.slice A2 40 c2) rfl au au au (fun _ _ _ h=>h) (.inl ⟨aC,fun W hW=>by(first|rfl|go_simp)⟩) L4.out ?_
  refine fM (rs:=[11]) au az (dJ rfl (fun K hK=>?_) fN)
  rw[if_pos aC]
  simp only[Act.put,iZ,jm,jA,jB,jC,jD]
  refine qj 22 (.tmp 8) (.tmp 35) rfl gx 0 (agi q2) rfl rfl AO ui (gG _) ?_
  have LF:=hid (Ho.setC L4.out GX.out (agi q2).toList 0)
  have RF:=hid (show Rs (W4.setCells gx 0 (agi q2).toList) (W4.setCells gx 0 (agi q2).toList).heap.size A2 Y from(Own.setCs (g:=gx) (Blk.lt Z3.out) (agi q2).toList 0 _ P4.out).reads)
  obtain⟨WF,hWF⟩:∃WF,WF=W4.setCells gx 0 (agi q2).toList:=⟨_,rfl⟩
  rw[<-hWF] at LF RF|-
  clear hWF
  refine hK.out _ _ LF.out (fun _=>?_)
  clear hK K
  refine aV (i:=12) (v:=.int .i64 0) rfl au au au (fun _ _ _ h=>h) (.inl ⟨aC,fun W hW=>by(first|rfl|go_simp)⟩) LF.out ?_
  refine tY au ?_ _
  go_wp2_with fail
  go_meet
  exact⟨A2,c2,rfl,rfl,LF,RF⟩
 case rest=>
  obtain⟨A1,c1,rfl,rfl,L1,R1⟩:=hcut
  clear S0 KM
  go_wp2_with(first
   |(go_at_call 91;(with_reducible refine(KLs.out wc A c A1 c1 (L1.out.L.more L1.out.B.size) R1.out).mono ?_);rintro e w2 ⟨A2,c2,rfl,hO,hB⟩;have L2:=hid (L1.out.below hB);have R2:=hid hO.reads;clear hO hB)
   |(refine aK rfl 90 (.tmp 4) rfl _ 90 a 9 _ rfl L2.out.F Tryz.underlying90 rfl bC AL.out ?_))
  refine(KRg.out w2).mono ?_
  rintro e w3 ⟨A3,c3,rfl,hO,hB⟩
  have L3:=hid (L2.out.below hB)
  have R3:=hid ((R2.out.below hB).more hB.size)
  have G3:=hid hO.reads
  clear hO hB
  have P4:=hid (Hp.start (c3:=c3) L3.out G3.out R3.out)
  obtain⟨V4,hV4⟩:∃V,V=w3.alloc (.cells #[.slice A3 40 c3] 27):=⟨_,rfl⟩
  rw[<-hV4] at P4
  obtain⟨gR,hgR⟩:∃g,g=w3.heap.size:=⟨_,rfl⟩
  rw[<-hgR] at P4
  have HV4:=hid hV4.symm
  have HGR:=hid hgR.symm
  clear hV4 hgR
  go_wp2_with(first
   |(rw[HV4.out];clear HV4)
   |(refine bI rfl 23 (.tmp 47) rfl _ _ rfl (aj m.e) _ (P4.out.L.J.E K0.out) Tryz.underlying23 rfl HI80.out ?_))
  rw[HGR.out]
  refine(KPk.out V4 gR A2 c2 (KFd.out V4 _ _ _ P4.out.C P4.out.G) P4.out.R).mono ?_
  rintro e w5 ⟨rfl,hB⟩
  have P5:=hid (P4.out.below hB)
  clear hB
  go_wp2_with(go_at_call 96;(with_reducible refine(KNr.out w5 P5.out.L).mono ?_);rintro e w6 ⟨rfl,hB⟩;have P6:=hid (P5.out.below hB);clear hB)
  have Q7:=hid (Hq.start P6.out [kL-20,P,0,0,0,0,0,0])
  obtain⟨V7,hV7⟩:∃V,V=w6.alloc (.cells (agi [kL-20,P,0,0,0,0,0,0]) 35):=⟨_,rfl⟩
  rw[<-hV7] at Q7
  rw[show agi [kL-20,P,0,0,0,0,0,0]= #[.int .i64 (kL-20),.int .i64 P,.int .i64 0,.int .i64 0,.int .i64 0,.int .i64 0,.int .i64 0,.int .i64 0] from rfl] at hV7
  rw[<-hV7]
  clear hV7
  obtain⟨gS,hgS⟩:∃g,g=w6.heap.size:=⟨_,rfl⟩
  rw[<-hgS] at Q7|-
  clear hgS
  refine(KGn.out V7 Q7.out.L).mono ?_
  rintro e W ⟨rfl,rfl⟩
  go_wp2_with(refine bI rfl 23 (.tmp 69) rfl _ _ rfl (aj m.e) _ (Q7.out.L.J.E K0.out) Tryz.underlying23 rfl HI80.out ?_)
  refine(KPs.out V7).mono ?_
  rintro e w8 ⟨A5,c5,rfl,hO,hB⟩
  have Q8:=hid (Q7.out.below hB)
  have R8:=hid hO.reads
  clear hO hB
  go_wp2_with(first
   |(go_at_call 93;(with_reducible refine(KF1.out w8 gR A3 c3 A5 c5 Q8.out.C Q8.out.g R8.out).mono ?_);rintro e w9 ⟨A6,c6,rfl,hO,hB⟩;have Q9:=hid (Q8.out.below hB);have R9:=hid hO.reads;clear hO hB)
   |(go_at_call 99;(with_reducible refine(KSc.out w9 A6 c6 R9.out).mono ?_);rintro e w10 ⟨A7,c7,rfl,hO,hB⟩;have Q10:=hid (Q9.out.below hB);have R10:=hid hO.reads;clear hO hB)
   |(go_at_call 91;(with_reducible refine(KL2.out w10 A2 c2 A7 c7 Q10.out.t R10.out).mono ?_);rintro e w11 ⟨A8,c8,rfl,hO,hB⟩;have Q11:=hid (Q10.out.below hB);have O11:=hid hO;have cb:=Blk.cell Q11.out.C 0;clear hO hB))
  refine(KTg.out w11 A8 c8 A3 c3 (O11.out.reads.more (al0z _)) Q11.out.g).mono ?_
  rintro e w12 ⟨A9,c9,rfl,hO,hB⟩
  have Q12:=hid (Q11.out.below hB)
  have O12:=hid (O11.out.below hB)
  have R12:=hid hO.reads
  clear hO hB cb
  have cb:=Blk.cell Q12.out.C 0
  go_wp2_with fail
  refine(KFw.out w12 A9 c9 A3 c3 R12.out Q12.out.g).mono ?_
  rintro e w13 ⟨rfl,hB⟩
  have Q13:=hid (Q12.out.below hB)
  have O13:=hid (O12.out.below hB)
  clear hB cb
  have Q14:=hid (Q13.out.sets (us':=[kL-20,P,i0,i1,i2,i3,0,0]) (aj [i0,i1,i2,i3]) 2 (IB.set_ (IB.set_ (IB.set_ (IB.set_ Q13.out.S 2 i0) 3 i1) 4 i2) 5 i3))
  have TH:=hid (show w13.there gS 2 (agi [i0,i1,i2,i3]).size from fun j hj=>by
   have h:=Blk.there Q13.out.S (2+j) (by show 2+j<8;have:j<4:=hj;omega)
   rwa [Nat.zero_add] at h)
  obtain⟨V14,hV14⟩:∃V,V=w13.setCells gS 2 (aj [i0,i1,i2,i3]):=⟨_,rfl⟩
  have O14:=hid (Own.setCs (g:=gS) (by have:=Q9.out.lt;have:=Q10.out.lt;exact this) (aj [i0,i1,i2,i3]) 2 _ O13.out)
  rw[<-hV14] at Q14 O14
  have HV14:=hid hV14.symm
  clear hV14
  have c6:V14.cell? ⟨gS,6,none⟩=some (.int .i64 0):=Q14.out.S.cell 6 az
  have f6:V14.frozen? ⟨gS,6,none⟩=false:=Blk.frozen Q14.out.S 6
  have Q15:=hid (show Hq w (V14.setCell ⟨gS,6,none⟩ (.int .i64 Sg)) m a A l gR A3 c3 G A2 T gS [kL-20,P,i0,i1,i2,i3,Sg,0] from Q14.out.sets [.int .i64 Sg] 6 (IB.set_ Q14.out.S 6 Sg))
  have O15:=hid (show Own (V14.setCell ⟨gS,6,none⟩ (.int .i64 Sg)) w10.heap.size A8 c8 TQ from Own.setCs (g:=gS) Q10.out.lt [.int .i64 Sg] 6 _ O14.out)
  obtain⟨V15,hV15⟩:∃V,V=V14.setCell ⟨gS,6,none⟩ (.int .i64 Sg):=⟨_,rfl⟩
  rw[<-hV15] at Q15 O15
  have HV15:=hid hV15.symm
  clear hV15
  have d6:V15.cell? ⟨gS,6,none⟩=some (.int .i64 Sg):=Q15.out.S.cell 6 az
  have SZ4:Hid ((Tryz.prog.info? 33).map (·.size)=some (agi [i0,i1,i2,i3]).size):=hid Eh
  have HI4:Hid ((Tryz.prog.info? 33).map (·.size)=some (aj [i0,i1,i2,i3]).length):=hid Eh
  go_wp2_with(first
   |(rw[HV15.out];clear HV15)
   |(refine jd rfl 33 (.tmp 95) (.tmp 92) rfl gS 2 (agi [i0,i1,i2,i3]) rfl rfl TH.out SZ4.out (gG _) ?_;rw[show(agi [i0,i1,i2,i3]).toList=aj [i0,i1,i2,i3] from rfl,HV14.out])
   |(refine bI rfl 33 (.tmp 98) rfl _ _ rfl (aj [i0,i1,i2,i3]) _ (Q15.out.S.mid 2 4 az) Tryz.underlying33 rfl HI4.out ?_))
  refine(KBd.out V15).mono ?_
  rintro e w16 ⟨A10,c10,rfl,hO,hB⟩
  have Q16:=hid (Q15.out.below hB)
  have O16:=hid (O15.out.below hB)
  have R16:=hid hO.reads
  clear hO hB d6 c6 f6
  go_wp2_with fail
  refine(KF2.out w16 gR A3 c3 A10 c10 Q16.out.C Q16.out.g R16.out).mono ?_
  rintro e w17 ⟨A11,c11,rfl,hO,hB⟩
  have Q17:=hid (Q16.out.below hB)
  have O17:=hid (O16.out.below hB)
  have R17:=hid hO.reads
  clear hO hB
  have c7:w17.cell? ⟨gS,7,none⟩=some (.int .i64 0):=Q17.out.S.cell 7 az
  have f7:w17.frozen? ⟨gS,7,none⟩=false:=Blk.frozen Q17.out.S 7
  have Q18:=hid (show Hq w (w17.setCell ⟨gS,7,none⟩ (.int .i64 Lv)) m a A l gR A3 c3 G A2 T gS [kL-20,P,i0,i1,i2,i3,Sg,Lv] from Q17.out.sets [.int .i64 Lv] 7 (IB.set_ Q17.out.S 7 Lv))
  obtain⟨V18,hV18⟩:∃V,V=w17.setCell ⟨gS,7,none⟩ (.int .i64 Lv):=⟨_,rfl⟩
  rw[<-hV18] at Q18
  have HV18:=hid hV18.symm
  clear hV18
  go_wp2_with(first
   |(rw[HV18.out];clear HV18)
   |(go_at_call 104;(first|(with_reducible refine(KD1.out w17 A8 c8 A11 c11 O17.out.reads R17.out).mono ?_)|(with_reducible refine(KD2.out w17 A11 c11 R17.out).mono ?_));rintro e w' ⟨rfl,rfl⟩)
   |(go_at_call 103;(with_reducible refine(KO.out w17 Q17.out.L).mono ?_);rintro e w' ⟨rfl,rfl⟩)
   |(refine aK rfl 35 (.tmp 18) rfl _ 35 [kL-20,P,i0,i1,i2,i3,Sg,Lv] 8 _ rfl Q18.out.S Tryz.underlying35 rfl sW rfl ?_)
   |(refine aP rfl 35 (.tmp 6) (.tmp 117) rfl _ 35 Zs8 [kL-20,P,i0,i1,i2,i3,Sg,Lv] 8 rfl rfl Q18.out.L.U sW rfl rfl ?_))
  refine bg (v:=_) (hR _ _ _ 35 [kL-20,P,i0,i1,i2,i3,Sg,Lv] _ 8 rfl (IB.setRow Q18.out.L.U _) Tryz.underlying35 rfl sW rfl) rfl ?_
  exact⟨by rw[HU.out];rfl,aS Q18.out.L.B ah _⟩
end Go.Proofs.YthoiikkjjaldnaaGreatDoor
