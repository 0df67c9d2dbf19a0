/- Texts that the law rests on, laid together: PkD. -/
import Derived.Test.YthoiikkjjaldnaaDoorZ306d7b
import Derived.Test.YthoiikkjjaldnaaDoorZ5a4ff4
import Derived.Deep.RegionHeld3
set_option maxHeartbeats 4000000
namespace Go.Proofs.YthoiikkjjaldnaaDoor
set_option linter.unusedVariables false
set_option linter.unusedSimpArgs false
set_option maxRecDepth 100000
open Go.RowKit
theorem size25d:(Tryd.prog.info? 77).map (·.size)=some 25:=by kernel_rfl
theorem made_bytes (n:Nat):(madeCells (Value.int .u8 0).cells (n*1)).toList=bts (List.replicate n 0):=by
 rw[Nat.mul_one]
 show(madeCells #[Value.int .u8 0] n).toList=_
 rw[toList_madeCells_one]
 simp[bts]
theorem wpList_makeB {ops:Array Oper} {rest:List Oper} {o:Oper} {a:Act} {w:World} {Q:Exit->Act->World->Prop} (hgd:o.guard=none) (l c:Operand)
 (ho:o.op= .makeSlice 39 l c) (kl kc:IntKind) (n:Nat) (hl:a.eval l= .int kl (n:Int)) (hc:a.eval c= .int kc (n:Int)) (base:Nat) (hn:n<=17592186044416) (hbase:base<=w.heap.size)
 (h: ∀w1,OwnB w1 base (some ⟨w.heap.size,0,none⟩) n (List.replicate n 0)->w.grownBy w1 none->wpList Tryd.prog ops Q rest (a.put o.dst (.slice (some ⟨w.heap.size,0,none⟩) n n)) w1):
 wpList Tryd.prog ops Q (o::rest) a w:=by
 obtain⟨i0,hi,hz0,hz1,hz2⟩:=info_parts infoB
 refine wpList_make_full w hgd l c 39 ho base 5 i0 (.int .u8 0) 1 Tryd.underlying39 hi hz0 hz1 kl kc (n:Int) (n:Int) n hl hc rfl rfl (by rw[hz2];omega) (by unfold maxLen;omega) hbase ?_
 intro w1 hown hgrow
 refine h w1 ?_ hgrow
 unfold OwnB
 rw[List.length_replicate]
 rw[<-made_bytes]
 simpa using hown
theorem OwnB.blk {w:World} {base g:Nat} {xs:List Int} (h:OwnB w base (some ⟨g,0,none⟩) xs.length xs) (hn:0<xs.length):Blk w g 5 (bts xs).toArray:=by
 rcases h.2 with⟨_,h0⟩|⟨g',cap,cur,hv,_,hg,h1,_,h3,h4⟩
 ·omega
 ·injection hv with hA _ hc
  injection hA with hA
  injection hA with hA _ _
  subst hA
  subst hc
  have e:cur=(bts xs).toArray:=by
   have h5:cur.toList.length=xs.length:=by simpa using h3
   have h6:cur.toList.take xs.length=bts xs:=by simpa using h4
   rw[List.take_of_length_le (by omega)] at h6
   rw[<-h6]
  rw[<-e]
  exact hg
theorem pkL_zero:pkL 0=List.replicate 15 0:=by decide
theorem TwoP.cell {g h:Nat} {w w1:World} (a:TwoP g h w w1) {p:Addr} {v:Value} (hc:w.cell? p=some v) (h1:p.block≠g) (h2:p.block≠h):w1.cell? p=some v:=by
 have hlt:p.block<w.heap.size:=by
  rcases Nat.lt_or_ge p.block w.heap.size with h3|h3
  ·exact h3
  ·unfold World.cell? at hc
   rw[Array.getElem?_eq_none h3] at hc
   simp at hc
 have:=a.keep p.block hlt h1 h2
 unfold World.cell? at*
 rw[this]
 exact hc
theorem Pst.size {gb gB gA V n:Nat} {W:World} (s:Pst gb gB gA V n W):gA<W.heap.size:=Blk.lt s.A
theorem cell_lt3 {w:World} {p:Addr} {v:Value} (h:w.cell? p=some v):p.block<w.heap.size:=by
 rcases Nat.lt_or_ge p.block w.heap.size with h1|h1
 ·exact h1
 ·unfold World.cell? at h
  rw[Array.getElem?_eq_none h1] at h
  simp at h
theorem rb_head {w:World} {g V:Nat} (h:Blk w g 5 (bts (pkL V)).toArray):Rb w w.heap.size (some ⟨g,0,none⟩) (digL V):=
 ⟨by rw[bts_len,Nat.mul_one],fun _=>⟨_,rfl,Blk.lt h,fun j u hj=>by
   have hj2:j<(bts (digL V)).length:=(List.getElem?_eq_some_iff.1 hj).1
   rw[add_zero',Blk.cell h j,<-hj]
   unfold pkL
   rw[<-bts_append,List.getElem?_toArray,List.getElem?_append_left hj2]⟩⟩
def PkOut (ps:List Int) (w:World) (e:Ending) (w':World):Prop:= ∃A c,e= .returned (.tuple #[.slice A (pkBytes ps).length c,.int .i64 (pkErr ps)])/\OwnB w' w.heap.size A c (pkBytes ps)/\Below w.heap.size w w'
theorem ownB_of_blk {w:World} {base g:Nat} {xs:List Int} (h:Blk w g 5 (bts xs).toArray) (hb:base<=g) (hl:xs.length<=1000):OwnB w base (some ⟨g,0,none⟩) xs.length xs:=
 ⟨by rw[bts_len,Nat.mul_one],.inr ⟨g,xs.length,(bts xs).toArray,rfl,hb,h,Nat.le_refl _,by unfold maxLen;omega,by simp[bts_len],by rw[Nat.mul_one];show(bts xs).take xs.length=bts xs;rw[List.take_of_length_le (by rw[bts_len];exact Nat.le_refl _)]⟩⟩
theorem ownB_of_blkN {w:World} {base g n:Nat} {xs:List Int} (hn:xs.length=n) (h:Blk w g 5 (bts xs).toArray) (hb:base<=g) (hl:n<=1000):OwnB w base (some ⟨g,0,none⟩) n xs:=by
 subst hn
 exact ownB_of_blk h hb hl
theorem OwnB.more {w:World} {base base' c:Nat} {A:Option Addr} {xs:List Int} (h:OwnB w base A c xs) (hb:base'<=base):OwnB w base' A c xs:=by
 refine⟨h.1,?_⟩
 rcases h.2 with hn|⟨g,cap,cur,hv,hbb,rest⟩
 ·exact .inl hn
 ·exact .inr ⟨g,cap,cur,hv,by omega,rest⟩
theorem packPack_any (ps:List Int) (w:World) (T:TabA w 1 widthL) (hl:ps.length=25) (hw:W64 ps):
 Calls Tryd.prog 33 #[.agg (agi ps)] w (PkOut ps w):=by
 have hmf: ∀(fn:Fn) (first cap:Array Value) (w:World),(Instr.makeFunc fn first cap).run Tryd.prog w= .ok (.func fn first cap) w:=fun _ _ _ _=>rfl
 have P0:=hid (IB.new w 77 ps)
 have B0:=hid ((Below.refl w.heap.size w).alloc (Nat.le_refl _) (.cells (agi ps) 77))
 have T0:=hid (T.below B0.out)
 have HL:=hid hl
 obtain⟨V,hV⟩: ∃V,V=w.alloc (.cells (agi ps) 77):=⟨_,rfl⟩
 rw[<-hV] at P0 B0 T0
 have HV:=hid hV
 have KG:=hid (packGood_any ps V T0.out hl)
 have KP:=hid (fun W=>packParity_any ps W hl hw)
 clear T hl hw hV
 by_cases hg:pkTo ps 25=true
 ·have HG:=hid hg
  have HBY:=hid (show pkBytes ps=digL (pkW ps)++[chk (digL (pkW ps))] from if_pos hg)
  have HER:=hid (show pkErr ps=0 from if_pos hg)
  rw[hg] at KG
  clear hg
  go_enter Tryd.func33,Tryd.ntmps33
  go_wp2_with (first
   |(rw[<-HV.out];clear HV)
   |(refine wpList_loadI rfl 77 (.tmp 1) rfl _ 77 ps 25 _ rfl P0.out Tryd.underlying77 rfl size25d HL.out ?_)
   |(go_at_call 66;(with_reducible refine KG.out.mono ?_);rintro e w1 ⟨rfl,hB⟩;have P1:=hid (Blk.below' P0.out hB);have T1:=hid (T0.out.below hB);have B1:=hid (B0.out.trans (hB.mono B0.out.size));clear hB)
   |(at_make;refine wpList_makeB rfl _ _ rfl .i64 .i64 15 rfl rfl w1.heap.size (by omega) (Nat.le_refl _) ?_;intro w2 hO hG;have G2:=hid (OwnB.blk hO (by simp));have L2:=hid ((Below.refl w1.heap.size w1).grown hG (Nat.le_refl _) (by simp));have P2:=hid (Blk.below' P1.out L2.out);have T2:=hid (T1.out.below L2.out);have B2:=hid (B1.out.trans (L2.out.mono B1.out.size));clear hO hG))
  obtain⟨W3,hW3⟩: ∃W3,W3=((w2.alloc (.cells #[.slice (some ⟨w1.heap.size,0,none⟩) 15 15] 39)).alloc (.cells #[.int .i64 0] 3)):=⟨_,rfl⟩
  have LA:Below w2.heap.size w2 W3:=by rw[hW3];exact((Below.refl w2.heap.size w2).alloc (Nat.le_refl _) _).alloc (by simp) _
  have HS2:=hid (show w1.heap.size<w2.heap.size from Blk.lt G2.out)
  have S3:=hid (show Pst w1.heap.size w2.heap.size (w2.heap.size+1) 0 0 W3 from
   ⟨by rw[pkL_zero];exact Blk.below' G2.out LA,by rw[hW3];exact Blk.alloc (Blk.new w2 _ _) _,by
     have h:=Blk.new (w2.alloc (.cells #[.slice (some ⟨w1.heap.size,0,none⟩) 15 15] 39)) 3 #[.int .i64 0]
     simp only[World.size_alloc] at h
     rw[hW3];exact h,HS2.out,Nat.lt_succ_self _⟩)
  have P3:=hid (Blk.below' P2.out LA)
  have T3:=hid (T2.out.below LA)
  have B3:=hid (B2.out.trans (LA.mono B2.out.size))
  rw[<-hW3]
  have HW1:=hid (show w.heap.size<w1.heap.size from Blk.lt P1.out)
  clear LA hW3
  refine(fields_any w.heap.size W3 T3.out).mono ?_
  rintro e w4 ⟨A,c,rfl,hO,hB⟩
  obtain⟨b,rfl,hb1,hb2,hb3⟩:=OwnF.at_ hO (by omega)
  have HB2:=hid hb2
  have HC:=hid hb3
  have P4:=hid (Blk.below' P3.out hB)
  have B4:=hid (B3.out.trans (hB.mono B3.out.size))
  have S4:=hid (S3.out.below hB)
  have T4:=hid (T3.out.below hB)
  have LB3:=hid (show w2.heap.size+1<b from by have:=S3.out.size;omega)
  clear hO hB hb1 hb2 hb3 T0 T1 T2 T3 P0 P1 P2 P3 B0 B1 B2 B3 G2 L2 S3
  go_wp2
  go_loopw [16] (fun iv wr=> ∃i:Nat,i<=25/\iv= .int .i64 i/\Hid (Pst w1.heap.size w2.heap.size (w2.heap.size+1) (pkV ps i) (pkA i) wr)/\Hid (TwoP w1.heap.size (w2.heap.size+1) w4 wr)) (fun iv _=>25-(intOf iv).toNat)
  case atStart=>exact⟨0,by omega,rfl,S4,hid (TwoP.refl _ _ _)⟩
  case round=>
   clear S4
   obtain⟨i,hi,rfl,HS,HT⟩:=hrel
   by_cases hlt:i<25
   ·obtain⟨f0,f1,f2⟩:=HC.out i hlt
    have hs12:=HS2.out
    have hs1:=HW1.out
    have hlb:=LB3.out
    have nb1:b≠w1.heap.size:=by omega
    have nb2:b≠w2.heap.size+1:=by omega
    have np1:w.heap.size≠w1.heap.size:=by omega
    have np2:w.heap.size≠w2.heap.size+1:=by omega
    have c0:wr.cell? ⟨b,i*3,none⟩=some (.pointer (some ⟨w.heap.size,i,none⟩)):=by rw[Nat.mul_comm];exact HT.out.cell f0 nb1 nb2
    have c1:wr.cell? ⟨b,i*3+1,none⟩=some (.int .i64 (pkB.getD i 0)):=by rw[Nat.mul_comm];exact HT.out.cell f1 nb1 nb2
    have c2:wr.cell? ⟨b,i*3+2,none⟩=some (.int .i64 (pkT.getD i 0)):=by rw[Nat.mul_comm];exact HT.out.cell f2 nb1 nb2
    have p0:wr.cell? ⟨w.heap.size,i,none⟩=some (.int .i64 (ps.getD i 0)):=HT.out.cell (IB.cell P4.out i (by rw[HL.out];exact hlt)) np1 np2
    obtain⟨hv1,hv2⟩:=pk_lt HG.out hlt
    obtain⟨hn1,hn2,_⟩:=pkN_le hlt
    have ha:=pkA_le (n:=i+1) (by omega)
    have SX:=hid (show pkV ps (i+1)=pkV ps i|||(ps.getD i 0).toNat<<<(112-pkA i-pkN i) from rfl)
    have SY:=hid (show pkA (i+1)=pkA i+pkN i from rfl)
    rw[SY.out] at ha
    rw[hv2] at p0
    rw[hn2] at c1
    generalize (ps.getD i 0).toNat=v at*
    generalize pkN i=n at*
    generalize pkT.getD i 0=t at*
    have hbl:=(cell_lt3 c0)
    have hpl:=(cell_lt3 p0)
    have i0:(0:Int)<=i:=by omega
    have i25:(i:Int)<25:=by omega
    obtain⟨W,hW⟩: ∃W,W=wr.alloc (.cells #[.pointer (some ⟨w.heap.size,i,none⟩),.int .i64 (n:Nat),.int .i64 t] 135):=⟨_,rfl⟩
    have LW:Below wr.heap.size wr W:=by rw[hW];exact(Below.refl _ _).alloc (Nat.le_refl _) _
    have q0:W.cell? ⟨wr.heap.size,0,none⟩=some (.pointer (some ⟨w.heap.size,i,none⟩)):=by rw[hW];exact Blk.cell (Blk.new wr _ _) 0
    have q1:W.cell? ⟨wr.heap.size,1,none⟩=some (.int .i64 (n:Nat)):=by rw[hW];exact Blk.cell (Blk.new wr _ _) 1
    have qx:W.cell? ⟨w.heap.size,i,none⟩=some (.int .i64 (v:Nat)):=(LW.cell (p:=⟨w.heap.size,i,none⟩) hpl).trans p0
    have SW:=hid (HS.out.below LW)
    have TW:=hid (HT.out.trans (TwoP.of_below LW))
    have hgl:=HS.out.size
    have nr1:wr.heap.size≠w1.heap.size:=by omega
    have nr2:wr.heap.size≠w2.heap.size+1:=by omega
    have KU:=hid (put_any w1.heap.size w2.heap.size (w2.heap.size+1) (pkV ps i) (pkA i) v n W.drew SW.out.drew (by omega) hv1 (by omega))
    clear f0 f1 f2 hv2 hn2
    go_wp2
    rw[<-hW]
    clear hW c0 c1 c2 p0 LW
    go_region_held3 (fun w'=>w'.cell? ⟨wr.heap.size,0,none⟩=some (.pointer (some ⟨w.heap.size,i,none⟩))/\w'.cell? ⟨wr.heap.size,1,none⟩=some (.int .i64 (n:Nat))/\w'.cell? ⟨w.heap.size,i,none⟩=some (.int .i64 (v:Nat))) (go_keep) (first
     |(go_at_call 67;(with_reducible refine KU.out.mono ?_);rintro e' w5 ⟨rfl,hS,hT⟩;have k0:=hT.cell (p:=⟨wr.heap.size,0,none⟩) q0 nr1 nr2;have k1:=hT.cell (p:=⟨wr.heap.size,1,none⟩) q1 nr1 nr2;have k2:=hT.cell (p:=⟨w.heap.size,i,none⟩) qx np1 np2;have S5:=hid hS;have T5:=hid (TW.out.drew.trans hT);clear hS hT))
    rename_i hHeldZ
    clear hHeldZ k0 k1 k2 q0 q1 qx
    try simp only[Exit.then]
    go_wp2
    go_roundw
    case rel=>exact⟨i+1,by omega,by go_num,hid (by rw[SX.out,SY.out];exact S5.out),T5⟩
    case measure=>simp[intOf]<;>omega
   ·obtain rfl:i=25:=by omega
    try rw[show((25:Nat):Int)=25 from rfl]
    have hs12:=HS2.out
    have hs1:=HW1.out
    have np1:w.heap.size≠w1.heap.size:=by omega
    have np2:w.heap.size≠w2.heap.size+1:=by omega
    have PE:=hid (HT.out.blk P4.out np1 np2)
    have BE:=hid (B4.out.trans (HT.out.below (B:=w.heap.size) (by have:=B4.out.size;exact this) (by omega) (by omega)))
    have KQ:=hid (fun W (S:Pst w1.heap.size w2.heap.size (w2.heap.size+1) (pkV ps 25) (pkA 25) W)=>show Calls Tryd.prog 67 #[.int .i64 (pkQ ps:Nat),.int .i64 1,.pointer (some ⟨w2.heap.size,0,none⟩),.pointer (some ⟨w2.heap.size+1,0,none⟩)] W (fun e w'=>e= .returned (.tuple #[])/\Pst w1.heap.size w2.heap.size (w2.heap.size+1) (pkV ps 25|||pkQ ps<<<(112-pkA 25-1)) (pkA 25+1) w'/\TwoP w1.heap.size (w2.heap.size+1) W w') from put_any w1.heap.size w2.heap.size (w2.heap.size+1) (pkV ps 25) (pkA 25) (pkQ ps) 1 W S (by omega) (Nat.mod_lt _ (by decide)) (by rw[pkA_end];omega))
    rw[pkQ_eq] at KP
    have HWW:=hid (show pkV ps 25|||pkQ ps<<<(112-pkA 25-1)=pkW ps from by rw[pkA_end];rfl)
    rw[HWW.out] at KQ
    clear HC P4 B4 T4
    generalize pkQ ps=qq at*
    go_wp2_with (first
     |(refine wpList_loadI rfl 77 (.tmp 1) rfl _ 77 ps 25 _ rfl PE.out Tryd.underlying77 rfl size25d HL.out ?_)
     |(go_at_call 69;(with_reducible refine(KP.out wr).mono ?_);rintro e w6 ⟨rfl,hB⟩;have S6:=hid (HS.out.below hB);have B6:=hid (BE.out.trans (hB.mono BE.out.size));clear hB)
     |(go_at_call 67;(with_reducible refine(KQ.out w6 S6.out).mono ?_);rintro e' w7 ⟨rfl,hS,hT⟩;have S7:=hid hS;have B7:=hid (B6.out.trans (hT.below (B:=w.heap.size) (by have:=B6.out.size;exact this) (by omega) (by omega)));clear hS hT;have cB:w7.cell? ⟨w2.heap.size,0,none⟩=some (.slice (some ⟨w1.heap.size,0,none⟩) 15 15):=Blk.cell S7.out.B 0))
    have KS:=hid (packSum_any (some ⟨w1.heap.size,0,none⟩) 15 14 (digL (pkW ps)) w7.drew (rb_head (Blk.drew S7.out.R)) (digL_len _) (by omega) (digL_byts _))
    have cE:w7.cell? ⟨w1.heap.size,14,none⟩=some (.int .u8 0):=by
     rw[Blk.cell S7.out.R 14]
     simp[bts,pkL,digL_len]
    have fE:=Blk.frozen S7.out.R 14
    have FE:=hid (fun(v:Int)=>show Blk (w7.drew.setCell ⟨w1.heap.size,14,none⟩ (.int .u8 v)) w1.heap.size 5 (bts (digL (pkW ps)++[v])).toArray from by
     have a:=Blk.set_ (Blk.drew S7.out.R) 14 (.int .u8 v)
     have e:(bts (pkL (pkW ps))).toArray.setIfInBounds 14 (.int .u8 v)=(bts (digL (pkW ps)++[v])).toArray:=by
      rw[List.setIfInBounds_toArray]
      unfold bts pkL
      rw[<-List.map_set,List.set_append_right _ _ (by rw[digL_len];omega),digL_len]
      rfl
     rw[e] at a
     exact a)
    have GE:=hid (fun(v:Int)=>Blk.cell (Blk.far (Blk.drew S7.out.B) (p:=⟨w1.heap.size,14,none⟩) (show w2.heap.size≠w1.heap.size by omega) (.int .u8 v)) 0)
    have BF:=hid (fun(v:Int)=>(B7.out.drew).setCell (p:=⟨w1.heap.size,14,none⟩) (show w.heap.size<=w1.heap.size by omega) (.int .u8 v))
    have LN:=hid (show(pkBytes ps).length=15 from by rw[HBY.out,List.length_append,digL_len];rfl)
    obtain⟨ck,hck⟩: ∃ck,ck=chk (digL (pkW ps)):=⟨_,rfl⟩
    rw[<-hck] at KS HBY
    clear hck
    have GE:=GE.out ck
    have hne3: ¬w2.heap.size=w1.heap.size:=by omega
    go_region_with ((go_at_call 70;(with_reducible refine KS.out.mono ?_);rintro e' w' ⟨rfl,rfl⟩))
    all_goals
     try simp only[Exit.then]
     go_wp2
     go_ret2
     exact⟨_,15,by rw[LN.out,HER.out];rfl,by rw[HBY.out];exact ownB_of_blkN (by rw[List.length_append,digL_len];rfl) (FE.out ck) (by omega) (by omega),BF.out ck⟩
 ·have hgf:pkTo ps 25=false:=by simpa using hg
  have HBY:=hid (show pkBytes ps=[] from if_neg hg)
  have HER:=hid (show pkErr ps=2 from if_neg hg)
  rw[hgf] at KG
  clear hg hgf
  go_enter Tryd.func33,Tryd.ntmps33
  go_wp2_with (first
   |(rw[<-HV.out];clear HV)
   |(refine wpList_loadI rfl 77 (.tmp 1) rfl _ 77 ps 25 _ rfl P0.out Tryd.underlying77 rfl size25d HL.out ?_)
   |(go_at_call 66;(with_reducible refine KG.out.mono ?_);rintro e w1 ⟨rfl,hB⟩;have B1:=hid (B0.out.trans (hB.mono B0.out.size));clear hB))
  go_ret2
  exact⟨none,0,by rw[HBY.out,HER.out];rfl,by rw[HBY.out];exact OwnB.nil,B1.out⟩
end Go.Proofs.YthoiikkjjaldnaaDoor
