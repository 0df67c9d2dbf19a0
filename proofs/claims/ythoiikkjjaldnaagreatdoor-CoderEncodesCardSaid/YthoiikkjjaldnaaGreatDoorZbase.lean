/- Steps that several texts of the claim take, each said once. -/
import Derived.Test.YthoiikkjjaldnaaGreatDoorRows
import Derived.WalkKit
import Derived.WalkLawsBesides
import Derived.Below
import Derived.Carry
import Derived.ChangeSlices
import Derived.SizedLaws
import Derived.Laws.OwnMore
import Derived.Laws.Rows
import Derived.Deep.AppendLies
import Derived.Deep.Draws
import Derived.Maps.AppendAt
import Derived.RegionTactic
import Derived.OwnWalk
import Derived.Laws.Tables
import Derived.Deep.WholeRow
import Derived.BigFrame
import Derived.Lib.LaidTab
import Derived.LaidMore
import Derived.MakeChecks
import Derived.Laws.AppendOwnNone
import Derived.Deep.QuietTactic
import Derived.BigQuiet
import Derived.Deep.RegionWith
import Derived.Deep.RegionHeld3
import Derived.IntWalk
import Derived.Laws.CopyOwn
import Derived.Deep.RegionLaw
import Derived.Deep.MidRow
import Derived.Laws.StructEq
import Derived.BigRegion
import Derived.Shelf.Bits.Mul64
import Derived.Laws.Externs
import Derived.LoopN
import Derived.StillTail
import Derived.OneCell
import Derived.Deep.DeepCutAuto
import Derived.Deep.RegionHeld
import Derived.Laws.BytesArg
namespace Go.Proofs.YthoiikkjjaldnaaGreatDoor
set_option linter.unusedVariables false
set_option linter.unusedSimpArgs false
set_option maxRecDepth 100000
set_option maxHeartbeats 8000000
open Go.RowKit
abbrev al0z:=@Nat.le_refl
abbrev aA:=@Below.refl
abbrev oJ:=@IntKind.wrap_i64
abbrev bi:=@List.getD_eq_getElem?_getD
abbrev bU:=@World.size_alloc
abbrev dP:=@Int.eq_ofNat_of_zero_le
abbrev jy:=@Nat.le_of_lt
abbrev gJ:=@Nat.le_trans
abbrev lF:=@Nat.lt_of_lt_of_le
abbrev gu:=@List.length_append
abbrev jY:=@List.length_drop
abbrev fL:=@List.length_take
abbrev tX:=@List.length_map
abbrev nM:=@List.length_replicate
abbrev y9:=@List.length_cons
abbrev bg:=@bodyPost_ret
abbrev bI:=@wpList_load_mid
abbrev jd:=@wpList_store_mid
abbrev aV:=@wpAnyH_take
abbrev fM:=@wpAnyH_ready
abbrev dJ:=@AllReadyH.cons
abbrev fN:=@AllReadyH.nil
abbrev bu:=@wpQuiet_step
abbrev tY:=@wpAnyH_done
abbrev qh:=@List.take_append_drop
abbrev mF:=@List.getElem?_append_left
abbrev uY:=@List.getElem?_append_right
abbrev jO:=@List.getElem?_eq_getElem
abbrev mG:=@List.append_assoc
abbrev wQ:=@List.append_nil
abbrev AC:=@List.nil_append
abbrev nP:=@Option.some.inj
abbrev wR:=@List.getElem?_take
abbrev rq:=@List.getElem?_map
abbrev jZ:=@List.getElem?_toArray
abbrev mJ:=@List.getElem?_cons_zero
abbrev mL:=@List.getElem?_cons_succ
abbrev qi:=@Nat.lt_succ_self
abbrev iZ:=@List.setIfInBounds_toArray
abbrev jm:=@List.set_cons_zero
abbrev jA:=@List.set_cons_succ
abbrev jB:=@List.getElem_toArray
abbrev jC:=@List.getElem_cons_succ
abbrev jD:=@List.getElem_cons_zero
abbrev nR:=@Sem.run_bind
abbrev rD:=@Sem.run_pure
abbrev nU:=@Result.andThen_ok
abbrev qj:=@wp_store_mid
abbrev zf:=@List.mem_cons
abbrev zg:=@List.not_mem_nil
abbrev kF:=@List.all_eq_true
abbrev Ud:=@List.getD_cons_succ
theorem ah{p:Prop}(h:p:=by omega):p:=h
theorem dX{p:Prop}(h:p:=by first|with_reducible exact T.out|with_reducible exact T.out.alloc _|with_reducible exact T.out.drew|with_reducible exact(T.out.alloc _).drew|with_reducible exact(T.out.alloc _).alloc _|with_reducible exact((T.out.alloc _).alloc _).drew|with_reducible exact((T.out.alloc _).alloc _).alloc _|with_reducible exact(((T.out.alloc _).alloc _).alloc _).drew):p:=h
theorem wU{p:Prop}(h:p:=by repeat (first|(with_reducible refine uU ?_ ?_;all_goals (first|rfl|(simp;done)))|with_reducible refine pY _ ?_|with_reducible refine JF ?_|(with_reducible refine Hop.cell L2.out ?_ ?_;(next=>(first|(intro a h;have h7:=U1.out a h;first|omega|(dsimp only;omega)|(simp;omega))|(refine vS M1.out ?_ ?_;(next=>(intro a h;have h7:=HA.out a h;first|omega|(dsimp only;omega)|(simp;omega)));(next=>first|omega|(dsimp only;omega)|(simp;done)|(simp;omega))))))|(with_reducible refine Hop.cell L1.out ?_ ?_;(next=>(intro a h;have h7:=HA.out a h;first|omega|(dsimp only;omega)|(simp;omega)))))):p:=h
theorem au{p:Prop}(h:p:=by kernel_rfl):p:=h
theorem lG{p:Prop}(h:p:=by first|with_reducible exact B8.out|with_reducible exact B8.out.alloc _|with_reducible exact B8.out.drew|with_reducible exact(B8.out.alloc _).drew|with_reducible exact(B8.out.alloc _).alloc _|with_reducible exact((B8.out.alloc _).alloc _).drew):p:=h
theorem aN{p:Prop}(h:p:=by rw[oJ];omega):p:=h
theorem aJ{p:Prop}(h:p:=by simp;omega):p:=h
theorem az{p:Prop}(h:p:=by simp):p:=h
theorem aB{p:Prop}(h:p:=by decide):p:=h
theorem aO{p:Prop}(h:p:=by go_num):p:=h
theorem Ko{p:Prop}(h:p:=by rw[hV];have h:=Blk.new (w2.alloc (.cells #[.int .u64 x0,.int .u64 x1,.int .u64 x2] 199)) 199 #[.int .u64 y0,.int .u64 y1,.int .u64 y2];simp only[bU] at h;exact h):p:=h
theorem fO{p:Prop}(h:p:=by first|decide|simp):p:=h
theorem wV{p:Prop}(h:p:=by have:=HB.out.size;show _<=(wr.alloc _).heap.size;rw[bU];omega):p:=h
theorem iE{p:Prop}(h:p:=by rw[HN.out];exact hlt):p:=h
theorem aC{p:Prop}(h:p:=by rfl):p:=h
theorem iT{p:Prop}(h:p:=by unfold maxLen;omega):p:=h
theorem iC{p:Prop}(h:p:=by simpa using heq):p:=h
theorem jP{p:Prop}(h:p:=by unfold lvM;rw[hw];rfl):p:=h
theorem jo{p:Prop}(h:p:=by have:=HN.out;omega):p:=h
theorem ug{p:Prop}(h:p:=by show w.heap.size<=w.heap.size+1;omega):p:=h
theorem uZ{p:Prop}(h:p:=by first|omega|(simp;done)|(simp;omega)):p:=h
theorem uh{p:Prop}(h:p:=by unfold plc;rw[hq];push_cast;rfl):p:=h
theorem ui{p:Prop}(h:p:=by rw[dV,QL.out];exact aH):p:=h
theorem wY{p:Prop}(h:p:=by unfold lvV;rw[if_pos hE,hM,if_pos hs]):p:=h
theorem wZ{p:Prop}(h:p:=by rw[hE];unfold qV;rw[if_pos hE,hM];rfl):p:=h
theorem Ue{p:Prop}(h:p:=by rw[hn0];unfold gY;have:=Qv a;have:=Qv b;have:=Qv c;split<;>split<;>split<;>omega):p:=h
theorem mM{p:Prop}(h:p:=by have:=GL.out;omega):p:=h
theorem Kq{p:Prop}(h:p:=by unfold aL;rw[if_pos HE.out];exact(afQ HY.out.1 HY.out.2).symm):p:=h
theorem oK{p:Prop}(h:p:=by rw[HL.out];exact hlt):p:=h
theorem Kt{p:Prop}(h:p:=by rw[hpA,y9,gu,aaf,QL.out];omega):p:=h
theorem mN{p:Prop}(h:p:=by cases d<;>exact h):p:=h
theorem AK{p:Prop}(h:p:=by rw[HQ.out];unfold frQ;rw[<-P0.out];decide):p:=h
theorem rG{p:Prop}(h:p:=by rw[HY.out.1];exact hlt):p:=h
theorem vg{p:Prop}(h:p:=by rw[fL];omega):p:=h
theorem AO{p:Prop}(h:p:=by rw[dV,QL.out];exact ai3 Z4.out):p:=h
theorem uj{p:Prop}(h:p:=by rw[yg,mk.len KO.out]):p:=h
theorem AP{p:Prop}(h:p:=by show w.heap.size≠w.heap.size+1;omega):p:=h
theorem AQ{p:Prop}(h:p:=by rw[hmk];exact KK.out 2 (al0z _)):p:=h
theorem nV{p:Prop}(h:p:=by rw[HL.out];omega):p:=h
theorem AZ{p:Prop}(h:p:=by unfold mi;rw[if_pos HE.out,HPK.out]):p:=h
theorem Ku{p:Prop}(h:p:=by rw[beq_eq_false_iff_ne];exact fun h=>rN hbad h.symm):p:=h
theorem Kw{p:Prop}(h:p:=by rw[hV];exact⟨S5.out.below BB,IB.stored w5 90 Z9 a⟩):p:=h
theorem Ba{p:Prop}(h:p:=by unfold enY;rw[if_pos HE.out,HPK.out]):p:=h
theorem rH{p:Prop}(h:p:=by rw[DL.out];exact pa):p:=h
theorem xe{p:Prop}(h:p:=by rw[IntKind.wrap_u64];omega):p:=h
theorem vh{p:Prop}(h:p:=by rw[<-HX.out];exact hbad):p:=h
theorem Bc{p:Prop}(h:p:=by rw[<-HPK.out];exact ZT _ _ _):p:=h
theorem uk{p:Prop}(h:p:=by rw[HA.out];exact hlt):p:=h
theorem Bd{p:Prop}(h:p:=by rw[<-HPK.out];exact ZR _ _ _):p:=h
theorem nY{p:Prop}(h:p:=by rw[HF.out];rfl):p:=h
theorem Uf{p:Prop}(h:p:=by rw[hV];exact⟨S1.out.below BB,IB.stored w1 22 Z8 now,SX1.out⟩):p:=h
theorem vk{p:Prop}(h:p:=by have:=HC.out.l1;omega):p:=h
theorem Ky{p:Prop}(h:p:=by rw[bne_iff_ne];exact fun h=>rN hbad h.symm):p:=h
theorem Kz{p:Prop}(h:p:=by rw[HPS.out,hpA,hpB];exact ais QL.out hlt):p:=h
theorem uq{p:Prop}(h:p:=by have:=HX.out;omega):p:=h
theorem Be{p:Prop}(h:p:=by rw[aQ,k.e];exact kK):p:=h
theorem rI{p:Prop}(h:p:=by have:=h.lt;omega):p:=h
theorem La{p:Prop}(h:p:=by have:=HB.out.size;rw[bU];omega):p:=h
theorem aa6{p:Prop}(h:p:=by rw[h1,show(foL (chR a) (blL (chI m a l) (chS m a l) 4096)).length=40 from yR ha]):p:=h
theorem ql{p:Prop}(h:p:=by simpa using h0):p:=h
theorem qm{p:Prop}(h:p:=by simpa using hy):p:=h
theorem aa7{p:Prop}(h:p:=by rw[bi,jO hi];exact List.getElem_mem hi):p:=h
theorem qo{p:Prop}(h:p:=by simpa using h1):p:=h
theorem Ld{p:Prop}(h:p:=by rw[hmn];exact QE false a KO.out UO.out):p:=h
theorem Lh{p:Prop}(h:p:=by rw[hV];exact Blk.alloc (Blk.new w2 _ _) _):p:=h
theorem EC{p:Prop}(h:p:=by have:=HZ.out;have:=HZS.out;omega):p:=h
theorem Lj{p:Prop}(h:p:=by unfold iP;rw[if_pos HN.out,gt,gh];rfl):p:=h
theorem xg{p:Prop}(h:p:=by rw[SG.out,if_pos hy]):p:=h
theorem xh{p:Prop}(h:p:=by rw[SG.out,if_neg hy]):p:=h
theorem xj{p:Prop}(h:p:=by rw[PL.out];omega):p:=h
theorem Ug{p:Prop}(h:p:=by unfold Mm.ag Mm.cs Mm.tl;simp only[mG]):p:=h
theorem Uh{p:Prop}(h:p:=by rw[hW4];exact(aA _ _).alloc (al0z _) _):p:=h
theorem Ui{p:Prop}(h:p:=by rw[hW3];exact(aA _ _).alloc (al0z _) _):p:=h
theorem Uj{p:Prop}(h:p:=by rw[hW2];exact(aA _ _).alloc (al0z _) _):p:=h
theorem Bf{p:Prop}(h:p:=by rw[jY];omega):p:=h
theorem aa8{p:Prop}(h:p:=by rw[h1,show(foL (chR a) (cO m.e (chK m a l).1)).length=40 from Rw g ha]):p:=h
theorem Uk{p:Prop}(h:p:=by rw[En.size _ K2.out];exact EB.there Z4.out ik):p:=h
theorem zh{p:Prop}(h:p:=by rw[dM];omega):p:=h
theorem Ll{p:Prop}(h:p:=by rw[hps2,aiu j hlt,HU.out,hpA,hpB]):p:=h
theorem Lm{p:Prop}(h:p:=by rw[hmn,aiv,HU.out,HMK.out,HA.out]):p:=h
theorem Ul{p:Prop}(h:p:=by simp only[gu,aQ,k.r,k.p,k.e]):p:=h
theorem EG{p:Prop}(h:p:=by rw[HA.out];exact al0z _):p:=h
theorem Um{p:Prop}(h:p:=by rw[HN.out,HS.out];unfold gX;rw[Ih _ hz hj]):p:=h
theorem aa9{p:Prop}(h:p:=by rw[aQ,show((u.drop 2).take 4).length=4 from Il hu.l];exact Eh):p:=h
theorem Bg{p:Prop}(h:p:=by rw[bC,aQ,AL.out]):p:=h
theorem Lp{p:Prop}(h:p:=by unfold lvV;rw[if_pos hE,hM,if_neg hs]):p:=h
theorem Lr{p:Prop}(h:p:=by unfold lvV;rw[if_pos hE,hM,if_neg l5]):p:=h
theorem abb{p:Prop}(h:p:=by rw[h1,Rx ha,show(tgL (iQ m a l) (chR a)).length=40 from Ji ha]):p:=h
theorem Ls{p:Prop}(h:p:=by unfold qY;rw[if_pos XL.out,h];rfl):p:=h
theorem Un{p:Prop}(h:p:=by rw[List.size_toArray,aQ,NL.out];exact aH):p:=h
theorem EH{p:Prop}(h:p:=by rw[beq_eq_false_iff_ne];omega):p:=h
theorem abd{p:Prop}(h:p:=by rw[gu,nM,List.length_singleton];omega):p:=h
theorem xk{p:Prop}(h:p:=by have:=LT.out;omega):p:=h
theorem Uo{p:Prop}(h:p:=by unfold Mm.cs Mm.tl;simp only[mG]):p:=h
theorem Ur{p:Prop}(h:p:=by rw[hV];exact B3.out.trans (BB.mono B3.out.size)):p:=h
theorem nZ{p:Prop}(h:p:=by simp[aj]):p:=h
theorem uu{p:Prop}(h:p:=by simpa using hp):p:=h
theorem Lu{p:Prop}(h:p:=by rw[aQ,UO.out.l];exact sW):p:=h
theorem Ly{p:Prop}(h:p:=by rw[dV,UO.out.l];exact sW):p:=h
theorem Us{p:Prop}(h:p:=by simp only[gu,aQ,k.r,k.p]):p:=h
theorem abe{p:Prop}(h:p:=by rw[hV];exact⟨K19.out.below BB,IB.stored w19 22 Z8 now,K19.out.lt⟩):p:=h
theorem zi{p:Prop}(h:p:=by simp[World.setCell]):p:=h
theorem uw{p:Prop}(h:p:=by rw[hz2];omega):p:=h
theorem EI{p:Prop}(h:p:=by rw[<-HX.out];exact .inl b1):p:=h
theorem EJ{p:Prop}(h:p:=by rw[<-HX.out];exact .inr b2):p:=h
theorem EK{p:Prop}(h:p:=by unfold rQ;intro h;omega):p:=h
theorem uy{p:Prop}(h:p:=by decide+kernel):p:=h
theorem xm{p:Prop}(h:p:=by rw[UL.out];omega):p:=h
theorem abf{p:Prop}(h:p:=by rw[hx,EX.out,gu,jY,K.out.x,OL.out]):p:=h
theorem xn{p:Prop}(h:p:=by rw[NS.out]<;>rfl):p:=h
theorem zk{p:Prop}(h:p:=by cases A<;>exact h3):p:=h
theorem vp{p:Prop}(h:p:=by simpa using hn):p:=h
theorem Bh{p:Prop}(h:p:=by simpa using hlen.symm):p:=h
theorem vu{p:Prop}(h:p:=by simpa using hl):p:=h
theorem Bi{p:Prop}(h:p:=by have:=XW.out.lt;omega):p:=h
theorem Ut{p:Prop}(h:p:=by show w.heap.size+1≠w.heap.size+1+1;omega):p:=h
theorem Uu{p:Prop}(h:p:=by show w.heap.size+1+1≠w.heap.size+1;omega):p:=h
theorem abg{p:Prop}(h:p:=by unfold En.ag En.cs;simp only[mG,wQ]):p:=h
theorem Bj{p:Prop}(h:p:=by have:=ST.out.lk;omega):p:=h
theorem EP{p:Prop}(h:p:=by rw[aH,aQ,NL.out]):p:=h
theorem LJ{p:Prop}(h:p:=by rw[hps];exact Ag QL.out hj):p:=h
theorem LX{p:Prop}(h:p:=by rw[aQ,WL.out];exact aH):p:=h
theorem Bo{p:Prop}(h:p:=by rw[HA.out.len];omega):p:=h
theorem L8{p:Prop}(h:p:=by first|exact al0z _|simp):p:=h
theorem L9{p:Prop}(h:p:=by rw[HL.out];exact al0z _):p:=h
theorem Mc{p:Prop}(h:p:=by unfold aL;rw[HF.out,if_neg h0]):p:=h
theorem xq{p:Prop}(h:p:=by simpa using hgt):p:=h
theorem abh{p:Prop}(h:p:=by rw[hcomm];omega):p:=h
theorem Uw{p:Prop}(h:p:=by show w.heap.size≠w.heap.size+1+1;omega):p:=h
theorem qy{p:Prop}(h:p:=by rw[NS.out]):p:=h
theorem abj{p:Prop}(h:p:=by rw[h1,(Rt ha).2,show(lm a 40).length=40 from GL.out]):p:=h
theorem Md{p:Prop}(h:p:=by rw[GE.out];exact al0z _):p:=h
theorem Ux{p:Prop}(h:p:=by show w.heap.size<=w.heap.size+1+1;omega):p:=h
theorem Me{p:Prop}(h:p:=by rw[hmk];exact ah7 K0.out j):p:=h
theorem abk{p:Prop}(h:p:=by first|rfl|(show Value.int .i64 (((bl:Int)+7)/8)=_;rw[hq0])):p:=h
theorem abl{p:Prop}(h:p:=by unfold En.cs;simp only[mG,wQ]):p:=h
theorem Bq{p:Prop}(h:p:=by have:=LT1.out;omega):p:=h
theorem Uy{p:Prop}(h:p:=by unfold s16 lim;(repeat' split)<;>omega):p:=h
theorem xu{p:Prop}(h:p:=by simpa using q1):p:=h
theorem MF{p:Prop}(h:p:=by unfold Gx;simpa using hb):p:=h
theorem MH{p:Prop}(h:p:=by have:=B2.out.size;simp;omega):p:=h
theorem MI{p:Prop}(h:p:=by rw[hV];exact S2.out.below BB):p:=h
theorem MJ{p:Prop}(h:p:=by rw[hV];exact S8.out.below BB):p:=h
theorem abm{p:Prop}(h:p:=by have h:=EB.M J14.out.L.E K3.out;rw[HM3.out] at h;exact h):p:=h
theorem abn{p:Prop}(h:p:=by rw[hmm,hnp,hmn];exact(zQ GK.out UO.out HGA.out).1):p:=h
theorem Uz{p:Prop}(h:p:=by rw[List.size_toArray,aQ,NL.out]):p:=h
theorem abo{p:Prop}(h:p:=by rw[dV,rP k.e (o9 hu m)];exact kK):p:=h
theorem EQ{p:Prop}(h:p:=by rw[HF.out.l];exact hlt):p:=h
theorem Bv{p:Prop}(h:p:=by rw[hi,dV,hl]):p:=h
theorem abp{p:Prop}(h:p:=by intro z;simp[IntKind.wrap,IntKind.signed,IntKind.bits]):p:=h
theorem MO{p:Prop}(h:p:=by first|exact sA|(simp;omega)):p:=h
theorem MP{p:Prop}(h:p:=by have:=s.l1;have:=s.l2;omega):p:=h
theorem BC{p:Prop}(h:p:=by have:=LZ.out;omega):p:=h
theorem abq{p:Prop}(h:p:=by have h:=MB.R HS.out.K.M KO.out;rw[RK.out] at h;exact h):p:=h
theorem abr{p:Prop}(h:p:=by have h:=MB.R R9.out.K.M KO.out;rw[RK.out] at h;exact h):p:=h
theorem abt{p:Prop}(h:p:=by rw[dV,WL.out];exact MB.thereR R13.out.K.M KN.out):p:=h
theorem abu{p:Prop}(h:p:=by rw[dV,Kn.out.p];exact C11.out.F.A.thereP OKM.out):p:=h
theorem abv{p:Prop}(h:p:=by rw[dV,NPL.out];exact MB.thereP R14.out.M KMM.out):p:=h
theorem abw{p:Prop}(h:p:=by rw[beq_eq_false_iff_ne];exact fun h=>rN hx h.symm):p:=h
theorem abx{p:Prop}(h:p:=by rw[beq_eq_false_iff_ne];exact fun h=>rN hy h.symm):p:=h
theorem aby{p:Prop}(h:p:=by have:=R8.out.l2;have:=R8.out.K.l1;have:=GLT.out;omega):p:=h
theorem UA{p:Prop}(h:p:=by rw[hV];exact IB.stored w1 22 Z8 now):p:=h
theorem zl{p:Prop}(h:p:=by rw[HPS.out];rfl):p:=h
theorem mO{p:Prop}(h:p:=by go_simp):p:=h
theorem abz{p:Prop}(h:p:=by have h:=MB.R HS.out.M KO.out;rw[RK.out] at h;exact h):p:=h
theorem UB{p:Prop}(h:p:=by rw[fL,LPS.out];omega):p:=h
theorem abA{p:Prop}(h:p:=by rw[h1,rO yN.1 yN.2,Jh];rfl):p:=h
theorem UC{p:Prop}(h:p:=by have:=GL.out;have:=HC.out.l1;omega):p:=h
theorem abB{p:Prop}(h:p:=by have:=R8.out.l1;have:=R8.out.l2;have:=GLT.out;omega):p:=h
theorem MQ{p:Prop}(h:p:=by unfold oW;simpa using h):p:=h
theorem MR{p:Prop}(h:p:=by unfold atB okI;simp;omega):p:=h
theorem MV{p:Prop}(h:p:=by rw[IntKind.wrap_u8];omega):p:=h
theorem MX{p:Prop}(h:p:=by rw[hu,HMK.out,HA.out];rfl):p:=h
theorem abC{p:Prop}(h:p:=by have:=R12.out.l2;have:=GLT.out;have:=GWT.out;omega):p:=h
theorem EU{p:Prop}(h:p:=by have:=LT20.out;omega):p:=h
theorem UD{p:Prop}(h:p:=by rw[Gm];exact MB.new w bZ):p:=h
theorem vw{p:Prop}(h:p:=by simp[bD]):p:=h
theorem UF{p:Prop}(h:p:=by rw[hV];exact Blk.below' R3.out BB):p:=h
theorem vz{p:Prop}(h:p:=by rw[HS2.out]):p:=h
theorem zn{p:Prop}(h:p:=by simpa using h2):p:=h
theorem UH{p:Prop}(h:p:=by injection hv with h;exact h.symm):p:=h
theorem BG{p:Prop}(h:p:=by rw[HN.out];omega):p:=h
theorem xw{p:Prop}(h:p:=by rw[hE,hV,hP]):p:=h
theorem BI{p:Prop}(h:p:=by simpa using hpos):p:=h
theorem UI{p:Prop}(h:p:=by rw[En.size _ K2.out];exact Af):p:=h
theorem MZ{p:Prop}(h:p:=by rw[<-hx];simp;omega):p:=h
theorem Na{p:Prop}(h:p:=by simp[Region.wanted,hgd]):p:=h
theorem Nb{p:Prop}(h:p:=by rw[hwas];exact K0.out.r):p:=h
theorem Nc{p:Prop}(h:p:=by rw[HY2.out.1];exact hlt):p:=h
theorem Nh{p:Prop}(h:p:=by rw[hgA];exact S5.out.lt):p:=h
theorem zo{p:Prop}(h:p:=by rw[hE,hb];rfl):p:=h
theorem UJ{p:Prop}(h:p:=by cases A<;>simp[Value.ownBlock]):p:=h
theorem EW{p:Prop}(h:p:=by rw[HY.out.1];omega):p:=h
theorem EY{p:Prop}(h:p:=by rw[oC];omega):p:=h
theorem Fa{p:Prop}(h:p:=by rw[qZ];omega):p:=h
theorem Fe{p:Prop}(h:p:=by have:=NY.out;omega):p:=h
theorem Nj{p:Prop}(h:p:=by simp[Act.eval,Act.put]):p:=h
theorem Nk{p:Prop}(h:p:=by rw[rV];exact hj40):p:=h
theorem Nl{p:Prop}(h:p:=by unfold frN;split<;>rfl):p:=h
theorem Np{p:Prop}(h:p:=by rw[pG];exact hlk):p:=h
theorem Nq{p:Prop}(h:p:=by rw[nJ];exact hlk):p:=h
theorem Nr{p:Prop}(h:p:=by rw[hmk,ah6,HWAS.out]):p:=h
theorem UK{p:Prop}(h:p:=by intro e;subst e;exact hn rfl):p:=h
theorem qA{p:Prop}(h:p:=by cases h):p:=h
theorem BJ{p:Prop}(h:p:=by simpa using hx):p:=h
theorem UM{p:Prop}(h:p:=by unfold mxB;rw[hb];simp;omega):p:=h
theorem UN{p:Prop}(h:p:=by show w.heap.size+1≠g;omega):p:=h
theorem BK{p:Prop}(h:p:=by rw[HS.out];rfl):p:=h
theorem Ns{p:Prop}(h:p:=by unfold atV;rw[hb];rfl):p:=h
theorem UQ{p:Prop}(h:p:=by rw[hV];exact S1.out.below BB):p:=h
theorem vC{p:Prop}(h:p:=by rw[hE,hV]):p:=h
theorem UR{p:Prop}(h:p:=by have:=s.l0;have:=s.lh;omega):p:=h
theorem Nu{p:Prop}(h:p:=by rw[aE,if_pos HE.out]):p:=h
theorem aj7{p:Prop}(h:p:=by rw[HE1.out];exact h0):p:=h
theorem Ff{p:Prop}(h:p:=by have:=s.l1;omega):p:=h
theorem UV{p:Prop}(h:p:=by rw[DL.out];exact hlt):p:=h
theorem UW{p:Prop}(h:p:=by show w.heap.size≠g;omega):p:=h
theorem Nv{p:Prop}(h:p:=by have:=HLL.out;omega):p:=h
theorem Nw{p:Prop}(h:p:=by rw[hu];exact Jk):p:=h
theorem UX{p:Prop}(h:p:=by rw[HA.out.len,HB.out.len]):p:=h
theorem UZ{p:Prop}(h:p:=by show w.heap.size<=g;omega):p:=h
theorem Fg{p:Prop}(h:p:=by rw[FIN.out];rfl):p:=h
theorem Ny{p:Prop}(h:p:=by rw[HM.out.1];omega):p:=h
theorem Nz{p:Prop}(h:p:=by rw[yg,m.size k]):p:=h
theorem NH{p:Prop}(h:p:=by unfold bF;omega):p:=h
theorem NJ{p:Prop}(h:p:=by rw[Px];omega):p:=h
theorem NP{p:Prop}(h:p:=by have:=HQ.out;omega):p:=h
theorem BN{p:Prop}(h:p:=by simp<;>omega):p:=h
theorem NU{p:Prop}(h:p:=by rw[QI,HN.out]):p:=h
theorem Fh{p:Prop}(h:p:=by simpa using hb):p:=h
theorem Fj{p:Prop}(h:p:=by simpa using hi):p:=h
theorem NV{p:Prop}(h:p:=by simpa using h.len):p:=h
theorem N7{p:Prop}(h:p:=by rw[ER.out,hg];rfl):p:=h
theorem Oa{p:Prop}(h:p:=by rw[ER.out,hh];rfl):p:=h
theorem Ob{p:Prop}(h:p:=by rw[ER.out,hc];rfl):p:=h
theorem Oc{p:Prop}(h:p:=by rw[UO.out.l];simp):p:=h
theorem BO{p:Prop}(h:p:=by rw[hps];rfl):p:=h
theorem Oe{p:Prop}(h:p:=by rw[aQ,k.r]):p:=h
theorem Og{p:Prop}(h:p:=by rw[hE,hb];decide):p:=h
theorem Oh{p:Prop}(h:p:=by show k-1<8;omega):p:=h
theorem Oi{p:Prop}(h:p:=by rw[Int.add_comm]):p:=h
theorem Oj{p:Prop}(h:p:=by rw[HA.out];omega):p:=h
theorem Ol{p:Prop}(h:p:=by have:=S.lt;omega):p:=h
theorem Om{p:Prop}(h:p:=by have:=s.l2;omega):p:=h
theorem Oo{p:Prop}(h:p:=by rw[OL.out];omega):p:=h
theorem Oq{p:Prop}(h:p:=by rw[ZL.out];omega):p:=h
theorem Ot{p:Prop}(h:p:=by rw[X4.out];omega):p:=h
theorem BQ{p:Prop}(h:p:=by simp[gY]):p:=h
theorem lH{p:Prop}(h:p:=by unfold bh;rw[if_neg ah,if_neg ah]):p:=h
theorem xy{p:Prop}(h:p:=by unfold bh;rw[if_neg ah,if_pos ah]):p:=h
theorem xA{p:Prop}(h:p:=by unfold cG;rw[if_neg ah,if_neg ah]):p:=h
theorem zq{p:Prop}(h:p:=by rw[<-HX.out];exact qI ah ah):p:=h
theorem xC{p:Prop}(h:p:=by unfold lvV;rw[if_neg ah]):p:=h
theorem Ou{p:Prop}(h:p:=by rw[M0.out];unfold fr0;rw[<-P0.out,if_neg aB]):p:=h
theorem Ov{p:Prop}(h:p:=by rw[<-HE1.out];exact afO aj7 8 ah):p:=h
theorem Ox{p:Prop}(h:p:=by rw[hps2];exact Ag QL.out ah):p:=h
theorem abD{p:Prop}(h:p:=by rw[dV,UO.out.l];exact IB.thereAt R8.out.K.J.P (9+j*8) 8 xj):p:=h
theorem abE{p:Prop}(h:p:=by rw[HE.out,show okD d=false from iL (i:=i) UV MZ];rfl):p:=h
theorem abG{p:Prop}(h:p:=by rw[YH ah];decide):p:=h
theorem abH{p:Prop}(h:p:=by rw[dV,UO.out.l];exact IB.thereAt R8.out.J.P (9+j*8) 8 xj):p:=h
theorem Oy{p:Prop}(h:p:=by rw[HX.out];exact aeZ f ah):p:=h
theorem Oz{p:Prop}(h:p:=by rw[zU ah];congr 1;omega):p:=h
theorem abI{p:Prop}(h:p:=by rw[bi,List.getElem?_eq_none ah];rfl):p:=h
theorem abJ{p:Prop}(h:p:=by rw[HPS.out];exact(HPP.out.trans (aag (kd:=1) aB).symm)):p:=h
theorem abK{p:Prop}(h:p:=by rw[HPS.out];exact(HPP.out.trans (aag (kd:=0) aB).symm)):p:=h
theorem aj8{p:Prop}(h:p:=by rw[Xq ah];decide):p:=h
theorem OC{p:Prop}(h:p:=by rw[ST.out,if_pos abh]):p:=h
theorem OE{p:Prop}(h:p:=by rw[ST.out,if_neg abh]):p:=h
theorem U0{p:Prop}(h:p:=by unfold bJ;rw[if_pos ah];rfl):p:=h
theorem OH{p:Prop}(h:p:=by rw[ST.out,if_pos ah]):p:=h
theorem OI{p:Prop}(h:p:=by rw[ST.out,if_neg ah]):p:=h
theorem OJ{p:Prop}(h:p:=by rw[Gz aj8,Xq ah];exact NewSE.none_ hB):p:=h
theorem OO{p:Prop}(h:p:=by rw[DI abG,YH ah];exact NewSE.none_ hB):p:=h
theorem l0{p:Prop}(h:p:=by
 clear PTO HPK HPS
 generalize frM e.m ps=mf at*
 generalize frO e.m ps=yf at*
 generalize kZ ps=bs at*
 obtain⟨h0,h1,h2,h3,rfl⟩:=uV HP4.out
 obtain⟨e1,he1⟩:∃e1:En,e1=⟨[h0,h1,h2,h3],List.replicate 120 0,bZ⟩:=⟨_,rfl⟩
 obtain⟨e2,he2⟩:∃e2:En,e2=⟨[h0,h1,h2,h3],x,bZ⟩:=⟨_,rfl⟩
 obtain⟨e4,he4⟩:∃e4:En,e4=⟨[h0,h1,h2,h3],x,mf⟩:=⟨_,rfl⟩
 rw[<-he4] at e4q
 have K1:=hid (show e1.ok from by rw[he1];exact⟨rfl,az,jF⟩)
 have K2:=hid (show e2.ok from by rw[he2];exact⟨rfl,XL.out,jF⟩)
 have K4:=hid (show e4.ok from by rw[he4];exact⟨rfl,XL.out,KMF.out⟩)
 go_upto_region 29 with fail
 go_wp2_with(first
  |(refine aK rfl 38 (.tmp 19) rfl _ 38 ps 25 _ rfl J0.out.P Tryz.underlying38 rfl pK PLN.out ?_))
 with_reducible refine(KP.out wr J0.out.L.bel).mono ?_
 rintro e' w20 ⟨A4,c4,rfl,hO,hB⟩
 have J1:=hid (J0.out.below hB)
 have B20:=hid hO
 have LT20:=hid J0.out.L.lt
 clear hO hB J0 KP
 have HE1:=hid he1
 have HE2:=hid he2
 have HE4:=hid he4
 clear he1 he2 he4
 have BB:=bT w20 (.cells Tryz.zeroCells47 47) e1.ag
 have J22:=hid (J1.out.below BB)
 have X22:=hid (EB.setRow (sQ w20) e1)
 have B22:=hid (B20.out.below BB)
 have GO:=hid (show gP<w20.heap.size from J1.out.lt)
 have GW:=hid (show w.heap.size+2<=w20.heap.size from J1.out.L.lt)
 have NE:=hid (fun a (ha:A4=some a)=>show a.block≠w20.heap.size from by have:=(B20.out.lt a ha).2;omega)
 have R2:=hid (show(e1.ag.toList.take 4++(aj x++e1.ag.toList.drop (4+(aj x).length))).toArray=e2.ag from by
  have h1:=EB.splice K1.out 0 x x (by rw[XL.out];omega) (by rw[List.take_zero,AC,Nat.zero_add,List.drop_of_length_le (by rw[K1.out.x,XL.out];omega),wQ])
  have h2:({e1 with x:=x}:En)=e2:=by rw[HE1.out,HE2.out]
  rw[h2] at h1
  exact congrArg List.toArray h1)
 obtain⟨V22,hV22⟩:∃V22,V22=(w20.alloc (.cells Tryz.zeroCells47 47)).setRow w20.heap.size e1.ag:=⟨_,rfl⟩
 rw[<-hV22] at J22 X22 B22
 have HV22:=hid hV22
 clear hV22 BB
 have SRC:=hid (show∀j v,(aj x)[j]?=some v->V22.cell? (ai.add j)=some v from fun j v hv=>by
  obtain⟨a2,ea,_,h2⟩:=J22.out.I.2 (by rw[XL.out];omega)
  injection ea with ea
  subst ea
  exact h2 j v hv)
 go_wp2_with(first
  |(refine aK rfl 44 (.tmp 11) rfl _ 44 [h0,h1,h2,h3] 4 _ rfl J1.out.H Tryz.underlying44 rfl uX rfl ?_)
  |(refine ajZ rfl (.tmp 149) rfl h0 h1 h2 h3 rfl e1 HE1.out ?_)
  |(refine oI rfl (.tmp 27) (.tmp 150) rfl _ dH e1 rfl rfl (sQ w20) ik K1.out ?_;rw[<-HV22.out];clear HV22)
  |((with_reducible refine TR (.tmp 152) (.tmp 153) 27 27 rfl ?_);refine wpList_copy_own rfl (.tmp 152) (.tmp 153) 27 27 rfl 3 Tryz.underlying27 Gj w20.heap.size 4 120 120 ai 120 c5 rfl rfl e1.ag _ X22.out (aj x) (by rw[aQ,XL.out];rfl) SRC.out (by rw[aQ,XL.out,e1.size K1.out];omega) (mQ _) ?_;rw[R2.out]
    have X23:=hid (show EB (V22.setRow w20.heap.size e2.ag) w20.heap.size e2 from EB.setRow X22.out e2)
    have J23:=hid (J22.out.farR (g:=w20.heap.size) GO.out e2.ag)
    have B23:=hid (ajW B22.out NE.out e2.ag)
    obtain⟨V23,hV23⟩:∃V23,V23=V22.setRow w20.heap.size e2.ag:=⟨_,rfl⟩
    rw[<-hV23] at X23 J23 B23|-
    clear hV23)
  |(refine bI rfl 25 (.tmp 156) rfl w.heap.size 124 rfl e.m.cs _ (EB.M J23.out.L.E K.out) Tryz.underlying25 rfl HIM.out ?_)
  |(refine aK rfl 38 (.tmp 19) rfl _ 38 ps 25 _ rfl J23.out.P Tryz.underlying38 rfl pK PLN.out ?_))
 with_reducible refine(KFM.out V23 J23.out.L.bel).mono ?_
 rintro e' w24 ⟨A5,c5',rfl,hO,hB⟩
 have J24:=hid (J23.out.L.below hB)
 have X24:=hid (Blk.below' X23.out hB)
 have B24:=hid (B23.out.below hB)
 have O24:=hid hO
 have GO2:=hid (show w20.heap.size<V23.heap.size from Blk.lt X23.out)
 clear hO hB J1 J22 X22 B22 J23 X23 B23 B20 KFM
 have L25:=hid (J24.out.far (g:=w20.heap.size) GW.out mf.cs 124)
 have X25:=hid (show EB (w24.setCells w20.heap.size 124 mf.cs) w20.heap.size e4 from by
  have h:=EB.set_m X24.out K2.out mf KMF.out
  rw[HE2.out] at h
  rw[HE4.out]
  exact h)
 have B25:=hid (ajX B24.out NE.out mf.cs 124)
 have O25:=hid (Own.setCs (g:=w20.heap.size) GO2.out mf.cs 124 _ O24.out)
 obtain⟨V25,hV25⟩:∃V25,V25=w24.setCells w20.heap.size 124 mf.cs:=⟨_,rfl⟩
 rw[<-hV25] at L25 X25 B25 O25
 have HV25:=hid hV25
 clear hV25
 go_wp2_with(first
  |(refine jd rfl 25 (.tmp 162) (.tmp 160) rfl w20.heap.size 124 mf.ag rfl rfl (by rw[mf.size KMF.out];exact EB.thereM X24.out K2.out) (by rw[mf.size KMF.out];exact yg) mf.one ?_;rw[show mf.ag.toList=mf.cs from rfl,<-HV25.out];clear HV25)
  |(refine Ef rfl (.tmp 27) rfl _ e4 rfl X25.out K4.out ?_)
  |(refine oI rfl (.tmp 6) (.tmp 163) rfl _ dH e4 rfl rfl L25.out.Z ik K4.out ?_))
 refine bg (v:=_) (hR _ _ _ e4 rfl (EB.setRow L25.out.Z e4) K4.out) rfl ?_
 unfold EncOut
 rw[e4q.out,HBS.out,HYS.out,HE.out]
 exact⟨A4,c4,A5,c5',rfl,(aaO B25.out (g:=w.heap.size+1) EU e4.ag).more (base':=w.heap.size) EU,(O25.out.setRow (g:=w.heap.size+1) (by have:=GW.out;have:=GO2.out;omega) e4.ag).more (base':=w.heap.size) (by have:=GW.out;have:=GO2.out;omega),aS L25.out.bel (g:=w.heap.size+1) ah e4.ag⟩):p:=h
theorem l1{p:Prop}(h:p:=by
 have KO:=hid (KK.out k ah)
 have GO:=hid (KG.out k ah)
 have Kn:=hid (KK.out (k+1) ah)
 have NM:=hid (show frK false was now ps m0 (k+1)=frP false (frA was now k) (frK false was now ps m0 k) (aX ps k) from rfl)
 have NZ:=hid (show frZ false was now ps m0 (k+1)=frZ false was now ps m0 k++frY false (frA was now k) (frK false was now ps m0 k) (aX ps k) from rfl)
 have YL:=hid (yC false (frA was now k) (frK false was now ps m0 k) (aX ps k))
 have LZ:=hid (show(frZ false was now ps m0 k).length=n from NU)
 have UU:=KU.out k hlt
 have GA:=KA.out k hlt
 have OKM:=hid (Iz false KO.out UU)
 have XL:=hid (Iy false (frK false was now ps m0 k) UU)
 have KPd:=hid (fun W=>show Calls Tryz.prog 54 #[.agg (aj (frN false (frK false was now ps m0 k) (aX ps k)).r).toArray,.agg (aj now).toArray,.int .i64 (k:Nat)] W (fun e w'=>e=.returned (.agg (agi (frA was now k)))/\Below W.heap.size W w') from by
  rw[show(frN false (frK false was now ps m0 k) (aX ps k)).r=was from by rw[QD,QG];exact HW.out.symm]
  exact J9 was now k W WL.out NL.out hlt SW.out SN.out)
 have h3:=aa3 false GO.out UU GA
 have KMk:=hid (fun W A2 c2 (h:Rs W W.heap.size A2 (frX false (frK false was now ps m0 k) (aX ps k))) (hc:40<=c2)=>show Calls Tryz.prog 57 #[.agg (agi (frA was now k)),.agg (aj (frN false (frK false was now ps m0 k) (aX ps k)).p).toArray,.slice A2 40 c2] W (fun e w'=> ∃A3 c3 er,e=.returned (.tuple #[.slice A3 40 c3,.agg (agi (frP false (frA was now k) (frK false was now ps m0 k) (aX ps k)).p),.int .i64 er])/\Own w' W.heap.size A3 c3 (frY false (frA was now k) (frK false was now ps m0 k) (aX ps k))/\Below W.heap.size W w') from by
  have h1:=zV (frA was now k) (frN false (frK false was now ps m0 k) (aX ps k)).p _ A2 c2 40 W (qQ _ _ _) OKM.out.p h XL.out ah hc
  rw[h3.1,h3.2.1] at h1
  refine h1.mono ?_
  rintro e w' ⟨A3,c3,h1,h2,h3⟩
  rw[yC] at h1
  exact⟨A3,c3,_,h1,h2,h3⟩)
 have PM:=hid h3.2.2
 clear h3
 have KH:=hid (fun W (h:Below w.heap.size w W)=>show Calls Tryz.prog 56 #[.agg (frK false was now ps m0 k).cs.toArray,.agg (aj (aX ps k)).toArray] W (jW W (frN false (frK false was now ps m0 k) (aX ps k)) (frX false (frK false was now ps m0 k) (aX ps k))) from
  Ub (frK false was now ps m0 k) KO.out (aX ps k) W (TT1.out.below h) (TT2.out.below h) UU (mZ (kM GO.out).2.2.1))
 have HSU:=hid (fun W gg (h:IB W gg 38 ps)=>show W.rangeAt gg (9+k*8) (aj (aX ps k)) from by
  have h2:=h.mid (9+8*k) 8 nV
  rw[show 9+8*k=9+k*8 from ah] at h2
  unfold aX
  rw[show 9+8*k=9+k*8 from ah]
  exact h2)
 have HI35:=hid (show(Tryz.prog.info? 35).map (·.size)=some (aj (aX ps k)).length from by rw[aQ,UU.l];exact sW)
 rw[NM.out] at Kn
 generalize frP false (frA was now k) (frK false was now ps m0 k) (aX ps k)=mn at*
 generalize frY false (frA was now k) (frK false was now ps m0 k) (aX ps k)=y at*
 generalize frN false (frK false was now ps m0 k) (aX ps k)=mm at*
 generalize frX false (frK false was now ps m0 k) (aX ps k)=x at*
 generalize frA was now k=a at*
 generalize frK false was now ps m0 k=mk at*
 generalize frZ false was now ps m0 k=zs at*
 generalize aX ps k=su at*
 have cp:=HC.out.F.P.cell 0 nV
 rw[<-P0.out] at cp
 clear KK KG KU KA UU GA GO
 go_wp2
 refine mD [] [0,1,2,3,4] 5 [6,7,8,9,10] (fun W=>FdO w W mk ps gN now A c zs) au au rfl ⟨HC.out.below ((aA _ _).drew),HO.out.drew⟩ (fun _ _ d _ _ h=>mN) ?_
 simp only[iz,jZ,mJ,mL]
 refine mr ?_
 refine bu (fun K hK=>?_)
 refine iD aC 25 (.tmp 2) rfl w.heap.size 0 rfl mk.cs _ (fun W hW=>MB.whole hW.D.F.A) Tryz.underlying25 rfl uj ?_
 refine hK _ ?_;clear hK K
 iterate 3
  refine bu (fun K hK=>?_)
  go_simp
  apply Exists.intro
  refine⟨fun W hW=>rfl,hK _ ?_⟩
  clear hK K
 refine bu (fun K hK=>?_)
 refine iD aC 35 (.tmp 39) rfl (w.heap.size+1) (9+k*8) rfl (aj su) _ (fun W hW=>HSU.out _ _ hW.D.F.P) Tryz.underlying35 rfl HI35.out ?_
 refine hK _ ?_;clear hK K
 refine wpQuiet_nil ?_
 intro W7 hW7
 have CW:=hid hW7.D
 have OW:=hid hW7.O
 clear hW7
 have SXW:=hid (show gN<W7.heap.size from CW.out.glt)
 go_wp2_with(first
  |(go_at_call 56;(with_reducible refine(KH.out W7 CW.out.F.bel).mono ?_);rintro e w8 ⟨A2,c2,rfl,hO,hB⟩;have C8:=hid (CW.out.below hB);have O8:=hid (OW.out.below hB);have X8:=hid hO;clear hO hB;have C9:=hid (C8.out.setA (mm:=mm));have O9:=hid (O8.out.setRow (g:=w.heap.size) (by have:=C8.out.l1;omega) mm.ag);have CAP:=hid X8.out.cap.1;have X9:=hid (X8.out.setRow (g:=w.heap.size) (by have:=C8.out.l1;have:=SXW.out;omega) mm.ag).reads;obtain⟨V9,hV9⟩:∃V9,V9=w8.setRow w.heap.size mm.ag:=⟨_,rfl⟩;rw[<-hV9] at C9 O9 X9;have HV9:=hid hV9;clear hV9;rw[XL.out] at CAP;rw[XL.out])
  |(refine iO rfl (.tmp 2) (.tmp 42) rfl _ mk mm rfl rfl C8.out.F.A KO.out OKM.out ?_;rw[<-HV9.out];clear HV9))
 clear cp
 refine mD [] [0,1,2,3,4,5,6,7] 8 [9,10,11,12,13,14,15] (fun W=>FdX w W mm ps gN now A c zs A2 x) au au rfl ⟨C9.out.below ((aA _ _).drew),O9.out.drew,X9.out.below ((aA _ _).drew)⟩ (fun _ _ d _ _ h=>mN) ?_
 simp only[iz,jZ,mJ,mL]
 refine mr ?_
 refine bu (fun K hK=>?_)
 go_simp
 apply Exists.intro
 refine⟨fun W hW=>rfl,hK _ ?_⟩
 clear hK K
 refine bu (fun K hK=>?_)
 refine iD aC 22 (.tmp 45) rfl w.heap.size 0 rfl (aj mm.r) _ (fun W hW=>hW.D.F.A.R OKM.out) Tryz.underlying22 rfl (by rw[aH,aQ,OKM.out.r]) ?_
 refine hK _ ?_;clear hK K
 refine bu (fun K hK=>?_)
 refine iD aC 22 (.tmp 6) rfl gN 0 rfl (aj now) _ (fun W hW=>gI hW.D.N [] (aj now) [] az rfl) Tryz.underlying22 rfl EP ?_
 refine hK _ ?_;clear hK K
 refine bu (fun K hK=>?_)
 go_simp
 apply Exists.intro
 refine⟨fun W hW=>rfl,hK _ ?_⟩
 clear hK K
 refine bu (fun K hK=>?_)
 go_simp
 apply Exists.intro
 refine⟨fun W hW=>?_,hK _ ?_⟩
 ·with_reducible exact(KPd.out W).mono fun e w' h=>⟨h.1,hW.below h.2⟩
 clear hK K
 refine bu (fun K hK=>?_)
 go_simp
 apply Exists.intro
 refine⟨fun W hW=>rfl,hK _ ?_⟩
 clear hK K
 refine bu (fun K hK=>?_)
 refine iD aC 22 (.tmp 50) rfl w.heap.size 8 rfl (aj mm.p) _ (fun W hW=>hW.D.F.A.P OKM.out) Tryz.underlying22 rfl (by rw[aH,aQ,OKM.out.p]) ?_
 refine hK _ ?_;clear hK K
 refine bu (fun K hK=>?_)
 go_simp
 apply Exists.intro
 refine⟨fun W hW=>rfl,hK _ ?_⟩
 clear hK K
 refine wpQuiet_nil ?_
 intro WA hWA
 have CA:=hid hWA.D
 have OA:=hid hWA.O
 have XA:=hid hWA.X
 clear hWA
 have SXA:=hid (show gN<WA.heap.size from CA.out.glt)
 go_wp2_with fail
 with_reducible refine(KMk.out WA A2 c2 XA.out CAP.out).mono ?_
 rintro e w11 ⟨A3,c3,er,rfl,hO,hB⟩
 have C11:=hid (CA.out.below hB)
 have O11:=hid (OA.out.below hB)
 have X11:=hid hO
 clear hO hB
 have C12:=hid (show Fd w (w11.setCells w.heap.size 8 (aj mn.p)) mn ps gN now from PM.out▸C11.out.setP OKM.out mn.p Kn.out.p)
 have O12:=hid (Own.setCs (g:=w.heap.size) (by have:=C11.out.l1;omega) (aj mn.p) 8 _ O11.out)
 have X12:=hid (Own.setCs (g:=w.heap.size) (by have:=C11.out.l1;have:=SXA.out;omega) (aj mn.p) 8 _ X11.out).reads
 have SZP:=hid (show(Tryz.prog.info? 22).map (·.size)=some (agi mn.p).size from by rw[dV,Kn.out.p];exact aH)
 have THP:=hid (show w11.there w.heap.size 8 (agi mn.p).size from abu)
 obtain⟨V12,hV12⟩:∃V12,V12=w11.setCells w.heap.size 8 (aj mn.p):=⟨_,rfl⟩
 rw[<-hV12] at C12 O12 X12
 have HV12:=hid hV12
 clear hV12
 go_wp2_with(first
  |(refine jd rfl 22 (.tmp 57) (.tmp 55) rfl w.heap.size 8 (agi mn.p) rfl rfl THP.out SZP.out (gG _) ?_;rw[show(agi mn.p).toList=aj mn.p from rfl,<-HV12.out];clear HV12)
  |(at_builtin;refine oQ rfl (.tmp 58) (.tmp 59) rfl (gN+1) A c n zs rfl LZ.out O12.out V12.heap.size A3 c3 40 y rfl YL.out X12.out jo (by have:=C12.out.glt;omega) ?_;intro A13 c13 w13 hO hG hA;have C13:=hid (C12.out.grown O12.out hG);have O13:=hid hO;clear hO hG hA))
 go_roundw
 case rel=>exact⟨k+1,A13,c13,n+40,ah,aO,rfl,hid jo,hid (by rw[NZ.out];exact O13.out),hid (by rw[NM.out];exact C13.out)⟩
 case measure=>simp[intOf]<;>omega):p:=h
theorem l2{p:Prop}(h:p:=by
 have HNM:=hid hnm
 obtain⟨ra1,ra2⟩:=rgA
 obtain⟨rn1,rn2⟩:=rgN
 clear KA KN hb hdist hnm
 go_wp2_with(first
  |(go_at_call 173;(with_reducible refine KWr.out.mono ?_);rintro e w' ⟨rfl,rfl⟩)
  |(go_at_call 117;(with_reducible refine KA'.out.mono ?_);rintro e w' ⟨rfl,rfl⟩)
  |(go_at_call 117;(with_reducible refine KN'.out.mono ?_);rintro e w' ⟨rfl,rfl⟩))
 refine(fJ _ (vn-k) ah ah).mono ?_
 rintro e w2 ⟨b2,rfl,hb2',hI2,hB2⟩
 have I2:=hid hI2
 have B2:=hid (HB.out.trans (hB2.mono HB.out.size))
 clear hI2 hB2
 go_wp2_with fail
 refine(fJ _ (va-k) ah ah).mono ?_
 rintro e w3 ⟨b3,rfl,hb3',hI3,hB3⟩
 have I3:=hid hI3
 have J3:=hid (I2.out.below hB3 (al0z _))
 have B3:=hid (B2.out.trans (hB3.mono B2.out.size))
 clear hI3 hB3
 have KC:=hid (afC w3 b2 b3 (vn-k) (va-k) J3.out I3.out (aW ah) (aW ah))
 by_cases hc:(vn-k).natAbs<(va-k).natAbs
 ·have hz:fU (vn-k).natAbs (va-k).natAbs<0:=by rw[Ce hc];decide
  have HS2:=hid (show(qB i k (n+1)).1=n by rw[HS.out,if_pos (by split<;>split<;>omega)])
  generalize fU (vn-k).natAbs (va-k).natAbs=z at*
  clear HS hc
  go_wp2_with(go_at_call 174;(with_reducible refine KC.out.mono ?_);rintro e w7 ⟨rfl,n7,rfl⟩)
  go_roundw
  case rel=>exact⟨n,ah,aO,vz,hid (B3.out.trans ((iJ _ _).mono B3.out.size))⟩
  case measure=>simp[intOf]<;>omega
 have hz: ¬fU (vn-k).natAbs (va-k).natAbs<0:=by
  unfold fU
  rw[if_neg hc]
  split<;>decide
 have HS2:=hid (show(qB i k (n+1)).1=b by rw[HS.out,if_neg (by split<;>split<;>omega),HB0.out])
 generalize fU (vn-k).natAbs (va-k).natAbs=z at*
 clear HS hc
 go_wp2_with(go_at_call 174;(with_reducible refine KC.out.mono ?_);rintro e w7 ⟨rfl,n7,rfl⟩)
 go_roundw
 case rel=>exact⟨n,ah,aO,vz,hid (B3.out.trans ((iJ _ _).mono B3.out.size))⟩
 case measure=>simp[intOf]<;>omega):p:=h
theorem l3{p:Prop}(h:p:=by
 have KO:=hid (KK.out k ah)
 have GO:=hid (KG.out k ah)
 have KFk:=hid (KF.out k hlt)
 have FL:=hid (qQ was now k)
 have Kn:=hid (KK.out (k+1) ah)
 have NM:=hid (show frK false was now ps m1 (k+1)=frP false (frA was now k) (frK false was now ps m1 k) (aX ps k) from rfl)
 have NZ:=hid (show frZ false was now ps m1 (k+1)=frZ false was now ps m1 k++frY false (frA was now k) (frK false was now ps m1 k) (aX ps k) from rfl)
 have YL:=hid (yC false (frA was now k) (frK false was now ps m1 k) (aX ps k))
 have LZ:=hid (show(frZ false was now ps m1 k).length=n from NU)
 have SI:=hid (show(frK false was now ps m1 k).si=false from by rw[QH];exact SI1.out)
 have UU:=KU.out k hlt
 have GA:=KA.out k hlt
 have KH:=hid (fun W (h:Below w.heap.size w W)=>show Calls Tryz.prog 46 #[.agg (frK false was now ps m1 k).cs.toArray,.agg (aj (frA was now k)).toArray,.agg (aj (aX ps k)).toArray] W (jW W (frP false (frA was now k) (frK false was now ps m1 k) (aX ps k)) (frY false (frA was now k) (frK false was now ps m1 k) (aX ps k))) from by
  have h1:=Tc (frK false was now ps m1 k) KO.out (frA was now k) (aX ps k) W (TT1.out.below h) (TT2.out.below h) (qQ _ _ _) UU
  have h2:=zQ GO.out UU GA
  rw[h2.1,h2.2] at h1
  exact h1)
 have HSU:=hid (fun W gg (h:IB W gg 38 ps)=>show W.rangeAt gg (9+k*8) (aj (aX ps k)) from by
  have h2:=h.mid (9+8*k) 8 nV
  rw[show 9+8*k=9+k*8 from ah] at h2
  unfold aX
  rw[show 9+8*k=9+k*8 from ah]
  exact h2)
 have HI35:=hid (show(Tryz.prog.info? 35).map (·.size)=some (aj (aX ps k)).length from by rw[aQ,UU.l];exact sW)
 rw[NM.out] at Kn
 generalize frP false (frA was now k) (frK false was now ps m1 k) (aX ps k)=mn at*
 generalize frY false (frA was now k) (frK false was now ps m1 k) (aX ps k)=y at*
 generalize frA was now k=a at*
 generalize frK false was now ps m1 k=mk at*
 generalize frZ false was now ps m1 k=zs at*
 generalize aX ps k=su at*
 clear KF KK KG KU KA UU GA GO
 go_wp2_with(first
  |(refine aK rfl 22 (.tmp 9) rfl _ 22 was 8 _ rfl HC.out.W Tryz.underlying22 rfl aH WL.out ?_)
  |(refine aK rfl 22 (.tmp 7) rfl _ 22 now 8 _ rfl HC.out.N Tryz.underlying22 rfl aH NL.out ?_))
 with_reducible refine(KFk.out _).mono ?_
 rintro e w5 ⟨rfl,hB⟩
 have C5:=hid (HC.out.below hB)
 have O5:=hid (HO.out.below hB)
 have SX5:=hid C5.out.glt
 clear hB HC HO KFk
 go_wp2_with(first
  |(refine aP rfl 90 (.tmp 11) (.tmp 36) rfl _ 90 Z9 a 9 rfl rfl (IB.new w5 90 Z9) bC rfl FL.out ?_
    have BB:=bT w5 (.cells (agi Z9) 90) (agi a)
    obtain⟨V6,hV⟩:∃V6,V6=(w5.alloc (.cells (agi Z9) 90)).setRow w5.heap.size (agi a):=⟨_,rfl⟩
    have C6:=hid (show Fc w V6 mk ps gN gW now was from by rw[hV];exact C5.out.below BB)
    have A6:=hid (show IB V6 w5.heap.size 90 a from by rw[hV];exact IB.stored w5 90 Z9 a)
    have O6:=hid (show Own V6 (gW+1) A c zs from by rw[hV];exact O5.out.below BB)
    have d6:=C6.out.F.A.csi KO.out
    rw[SI.out] at d6
    rw[jq] at hV
    rw[<-hV]
    clear hV BB))
 obtain⟨gA,hgA⟩:∃gA,gA=w5.heap.size:=⟨_,rfl⟩
 have GLT:=hid (show gW<gA from by rw[hgA];exact SX5.out)
 rw[<-hgA] at A6
 rw[<-hgA]
 clear hgA
 refine mD [] [0,1,2,3,4,5] 6 [7,8,9,10,11] (fun W=>FrC w W mk ps gN gW now was gA a A c zs) au au rfl ⟨C6.out.below ((aA _ _).drew),Blk.drew A6.out,O6.out.drew⟩ (fun _ _ d _ _ h=>mN) ?_
 simp only[iz,jZ,mJ,mL]
 refine mr ?_
 refine bu (fun K hK=>?_)
 refine iD aC 25 (.tmp 2) rfl w.heap.size 0 rfl mk.cs _ (fun W hW=>MB.whole hW.C.F.A) Tryz.underlying25 rfl uj ?_
 refine hK _ ?_;clear hK K
 refine bu (fun K hK=>?_)
 refine iD aC 90 (.tmp 11) rfl gA 0 rfl (aj a) _ (fun W hW=>gI hW.F [] (aj a) [] az rfl) Tryz.underlying90 rfl (by rw[bC,aQ,FL.out]) ?_
 refine hK _ ?_;clear hK K
 iterate 3
  refine bu (fun K hK=>?_)
  go_simp
  apply Exists.intro
  refine⟨fun W hW=>rfl,hK _ ?_⟩
  clear hK K
 refine bu (fun K hK=>?_)
 refine iD aC 35 (.tmp 57) rfl (w.heap.size+1) (9+k*8) rfl (aj su) _ (fun W hW=>HSU.out _ _ hW.C.F.P) Tryz.underlying35 rfl HI35.out ?_
 refine hK _ ?_;clear hK K
 refine wpQuiet_nil ?_
 intro W7 hW7
 have CW:=hid hW7.C
 have OW:=hid hW7.O
 clear hW7
 have SXW:=hid (show gW<W7.heap.size from CW.out.glt)
 go_wp2_with(first
  |(go_at_call 46;(with_reducible refine(KH.out W7 CW.out.F.bel).mono ?_);rintro e w8 ⟨A2,c2,rfl,hO,hB⟩;have C8:=hid (CW.out.below hB);have O8:=hid (OW.out.below hB);have X8:=hid hO;clear hO hB;have C9:=hid (C8.out.setA (mm:=mn));have O9:=hid (O8.out.setRow (g:=w.heap.size) (by have:=C8.out.l1;have:=C8.out.l2;omega) mn.ag);have X9:=hid (X8.out.setRow (g:=w.heap.size) (by have:=C8.out.l1;have:=C8.out.l2;have:=SXW.out;omega) mn.ag).reads;obtain⟨V9,hV9⟩:∃V9,V9=w8.setRow w.heap.size mn.ag:=⟨_,rfl⟩;rw[<-hV9] at C9 O9 X9;have HV9:=hid hV9;clear hV9;rw[YL.out])
  |(refine iO rfl (.tmp 2) (.tmp 60) rfl _ mk mn rfl rfl C8.out.F.A KO.out Kn.out ?_;rw[<-HV9.out];clear HV9)
  |(at_builtin;refine oQ rfl (.tmp 62) (.tmp 63) rfl (gW+1) A c n zs rfl LZ.out O9.out V9.heap.size A2 c2 40 y rfl YL.out X9.out jo (by have:=C9.out.glt;omega) ?_;intro A10 c10 w10 hO hG hA;have C10:=hid (C9.out.grown O9.out hG);have O10:=hid hO;clear hO hG hA))
 go_roundw
 case rel=>exact⟨k+1,A10,c10,n+40,ah,aO,rfl,hid jo,hid (by rw[NZ.out];exact O10.out),hid (by rw[NM.out];exact C10.out)⟩
 case measure=>simp[intOf]<;>omega):p:=h
theorem l4{p:Prop}(h:p:=by
 clear PTO HPK HPS
 generalize frM e.m ps=mf at*
 generalize frO e.m ps=yf at*
 generalize kZ ps=bs at*
 obtain⟨e4,he4⟩:∃e4:En,e4={e3 with m:=mf}:=⟨_,rfl⟩
 rw[<-he4] at e4q
 have K4:=hid (show e4.ok from by rw[he4];exact⟨K3.out.h,K3.out.x,KMF.out⟩)
 go_wp2_with(first
  |(refine aK rfl 38 (.tmp 15) rfl _ 38 ps 25 _ rfl J0.out.P Tryz.underlying38 rfl pK PLN.out ?_))
 with_reducible refine(KP.out wr J0.out.L.bel).mono ?_
 rintro e' w20 ⟨A4,c4,rfl,hO,hB⟩
 have J1:=hid (J0.out.below hB)
 have B20:=hid hO
 have LT20:=hid J0.out.L.lt
 clear hO hB J0 KP
 go_wp2_with(first
  |(refine bI rfl 25 (.tmp 145) rfl w.heap.size 124 rfl e.m.cs _ (by have h:=EB.M J1.out.L.E K3.out;rw[HM3.out] at h;exact h) Tryz.underlying25 rfl HIM.out ?_)
  |(refine aK rfl 38 (.tmp 15) rfl _ 38 ps 25 _ rfl J1.out.P Tryz.underlying38 rfl pK PLN.out ?_))
 with_reducible refine(KFM.out w20 J1.out.L.bel).mono ?_
 rintro e' w21 ⟨A5,c5,rfl,hO,hB⟩
 have S21:=hid (J1.out.L.below hB)
 have B21:=hid (B20.out.below hB)
 have O21:=hid hO
 have LT21:=hid J1.out.L.lt
 clear hO hB J1 KFM B20
 have S22:=hid (S21.out.sets (e':=e4) mf.cs 124 (by rw[he4];exact S21.out.E.set_m K3.out mf KMF.out))
 have B22:=hid (JU (g:=w.heap.size) EU mf.cs 124 _ B21.out)
 have O22:=hid (Own.setCs (g:=w.heap.size) (by have:=LT21.out;omega) mf.cs 124 _ O21.out)
 obtain⟨V22,hV22⟩:∃V22,V22=w21.setCells w.heap.size 124 mf.cs:=⟨_,rfl⟩
 rw[<-hV22] at S22 B22 O22
 have HV22:=hid hV22
 clear hV22 he4
 go_wp2_with(first
  |(refine jd rfl 25 (.tmp 151) (.tmp 149) rfl w.heap.size 124 mf.ag rfl rfl (by rw[mf.size KMF.out];exact EB.thereM S21.out.E K3.out) (by rw[mf.size KMF.out];exact yg) mf.one ?_;rw[show mf.ag.toList=mf.cs from rfl,<-HV22.out];clear HV22)
  |(refine Ef rfl (.tmp 3) rfl _ e4 rfl S22.out.E K4.out ?_)
  |(refine oI rfl (.tmp 6) (.tmp 152) rfl _ dH e4 rfl rfl S22.out.Z ik K4.out ?_))
 refine bg (v:=_) (hR _ _ _ e4 rfl (EB.setRow S22.out.Z e4) K4.out) rfl ?_
 unfold EncOut
 rw[e4q.out,HBS.out,HYS.out,HE.out]
 exact⟨A4,c4,A5,c5,rfl,(aaO B22.out (g:=w.heap.size+1) EU e4.ag).more (base':=w.heap.size) EU,(O22.out.setRow (g:=w.heap.size+1) (by have:=LT21.out;omega) e4.ag).more (base':=w.heap.size) (by have:=LT21.out;omega),aS S22.out.bel (g:=w.heap.size+1) ah e4.ag⟩):p:=h
theorem l5{p:Prop}(h:p:=by
 clear KK
 obtain⟨⟨r1,r2⟩,r3,r4⟩:=qr
 obtain⟨v1,v2⟩:=rg
 by_cases hd:v-k<0
 ·by_cases hc: -(v-k)<d
  ·have HS2:=hid (show qB i k (n+1)=((n:Int),-(v-k)) by rw[HS.out,if_pos hd,if_pos hc])
   clear HS
   go_wp2_with(go_at_call 87;(with_reducible refine KK'.out.mono ?_);rintro e w' ⟨rfl,rfl⟩)
   go_round
   case rel=>exact⟨n+1,ah,aO,vz,vz⟩
   case measure=>simp[intOf]<;>omega
  have HS2:=hid (show qB i k (n+1)=qB i k n by rw[HS.out,if_pos hd,if_neg hc])
  clear HS
  go_wp2_with(go_at_call 87;(with_reducible refine KK'.out.mono ?_);rintro e w' ⟨rfl,rfl⟩)
  go_round
  case rel=>exact⟨n+1,ah,aO,by rw[HS2.out];exact congrArg _ HB1.out,by rw[HS2.out];exact congrArg _ HB2.out⟩
  case measure=>simp[intOf]<;>omega
 by_cases hc:v-k<d
 ·have HS2:=hid (show qB i k (n+1)=((n:Int),v-k) by rw[HS.out,if_neg hd,if_pos hc])
  clear HS
  go_wp2_with(go_at_call 87;(with_reducible refine KK'.out.mono ?_);rintro e w' ⟨rfl,rfl⟩)
  go_round
  case rel=>exact⟨n+1,ah,aO,vz,vz⟩
  case measure=>simp[intOf]<;>omega
 have HS2:=hid (show qB i k (n+1)=qB i k n by rw[HS.out,if_neg hd,if_neg hc])
 clear HS
 go_wp2_with(go_at_call 87;(with_reducible refine KK'.out.mono ?_);rintro e w' ⟨rfl,rfl⟩)
 go_round
 case rel=>exact⟨n+1,ah,aO,by rw[HS2.out];exact congrArg _ HB1.out,by rw[HS2.out];exact congrArg _ HB2.out⟩
 case measure=>simp[intOf]<;>omega):p:=h
theorem l6{p:Prop}(h:p:=by
 have OKF:=hid (show({mk with r:=now,er:=0}:Mm).ok from⟨NL.out,OKS.out.p,OKS.out.e⟩)
 have S8:=hid (HC.out.F.setRf OKS.out now NL.out)
 have TH:=hid (show wr.there w.heap.size 0 (agi now).size from by rw[dV,NL.out];exact HC.out.F.A.thereR OKS.out)
 have O8:=hid (Own.setCs (g:=w.heap.size) (by have:=HC.out.l1;have:=HC.out.l2;omega) (aj now) 0 _ HO.out)
 have GL:=hid (show w.heap.size+3<gW+1 from by have:=HC.out.l1;have:=HC.out.l2;omega)
 obtain⟨V8,hV8⟩:∃V8,V8=wr.setCells w.heap.size 0 (aj now):=⟨_,rfl⟩
 rw[<-hV8] at S8 O8
 have HV8:=hid hV8
 have K8:=hid (show({mk with r:=now}:Mm).ok from⟨NL.out,OKS.out.p,OKS.out.e⟩)
 have d8:=S8.out.A.cer K8.out
 have f8:=MB.frozen S8.out.A 99
 have S9:=hid (show Fb w (V8.setCell ⟨w.heap.size,99,none⟩ (.int .i64 0)) mf ps from by rw[FZ.out];exact S8.out.setEr K8.out 0)
 have O9:=hid (Own.setC (g:=w.heap.size) O8.out mM 99 (.int .i64 0))
 obtain⟨V9,hV9⟩:∃V9,V9=V8.setCell ⟨w.heap.size,99,none⟩ (.int .i64 0):=⟨_,rfl⟩
 rw[<-hV9] at S9 O9
 have HV9:=hid hV9.symm
 rw[<-FZ.out] at OKF
 clear hV8 hV9
 go_wp2_with(first
  |(refine aK rfl 22 (.tmp 7) rfl _ 22 now 8 _ rfl HC.out.N Tryz.underlying22 rfl aH NL.out ?_)
  |(refine jd rfl 22 (.tmp 67) (.tmp 66) rfl w.heap.size 0 (agi now) rfl rfl TH.out SZ.out (gG _) ?_;rw[show(agi now).toList=aj now from rfl,<-HV8.out])
  |(rw[HV9.out];clear HV9 d8 f8)
  |(refine oU rfl (.tmp 2) rfl _ mf rfl S9.out.A OKF.out ?_)
  |(refine iO rfl (.tmp 4) (.tmp 69) rfl _ bZ mf rfl rfl S9.out.R jF OKF.out ?_))
 refine bg (v:=_) (hR _ _ _ mf rfl (MB.setRow S9.out.R mf) OKF.out) rfl ?_
 exact⟨A,c,by rw[LO.out];rfl,(O9.out.setRow (g:=w.heap.size+2) mM mf.ag).more (base':=w.heap.size) mM,aS S9.out.bel (g:=w.heap.size+2) ah mf.ag⟩):p:=h
theorem l7{p:Prop}(h:p:=by
 go_wp2_with(first
  |(go_at_call 70;(first|(with_reducible refine C1.out.mono ?_)|(with_reducible refine C2.out.mono ?_));rintro e w' ⟨rfl,rfl⟩)
  |(go_at_call 69;(first|(with_reducible refine C3.out.mono ?_)|(with_reducible refine C4.out.mono ?_)|(with_reducible refine C5.out.mono ?_)|(with_reducible refine C6.out.mono ?_)|(with_reducible refine C7.out.mono ?_));rintro e w' ⟨rfl,rfl⟩))
 go_ret
 exact⟨nY,HB.out⟩):p:=h
theorem l8{p:Prop}(h:p:=by
 have IA:=hid IA
 have IY:=hid IY2
 have IL:=hid IL
 clear IY2 c0 k0 c1 k1 c2 k2 c3 k3 c4 k4 c5 k5 c6 k6 c7 k7
 go_wp2
 go_loopw[10,11] (fun sv iv wr=> ∃(k:Nat) (s:Int),k<=8/\iv=.int .i64 ((k+1:Nat):Int)/\sv=.int .i64 s/\Hid (s=2048+aI (lY a [y0,y1,y2,y3,y4,y5,y6,y7]) k)/\Hid (Blk wr w.heap.size 90 (agi a))/\Hid (IB wr g9 22 [y0,y1,y2,y3,y4,y5,y6,y7])/\Hid (Below w.heap.size w wr)) (fun _ iv _=>9-(intOf iv).toNat)
 case atStart=>exact⟨0,2048,ah,rfl,rfl,hid rfl,IA,IY,IL⟩
 case round=>
  clear IA IY IL
  obtain⟨k,s,hk,rfl,rfl,HSM,IA,IY,IL⟩:=hrel
  by_cases hlt:k<8
  ·have ca:=IB.cell IA.out (k+1) Oj
   have cy:=IB.cell IY.out k (by simpa using hlt)
   have tb:=Qd OA.out H16.out k
   have sb:=Gs OA.out H16.out k
   have HT:=hid (show 2048+aI (lY a [y0,y1,y2,y3,y4,y5,y6,y7]) (k+1)=s+lY a [y0,y1,y2,y3,y4,y5,y6,y7] k by rw[HSM.out];simp only[aI];omega)
   have hs:=HSM.out
   have s1: -300000000000<=s:=ah
   have s2:s<=300000000000:=ah
   clear hs sb HSM
   obtain⟨t,ht⟩:∃t,t=lY a [y0,y1,y2,y3,y4,y5,y6,y7] k:=⟨_,rfl⟩
   rw[<-ht] at HT tb
   unfold lY at ht
   generalize a.getD (k+1) 0=x at*
   generalize [y0,y1,y2,y3,y4,y5,y6,y7].getD k 0=y at*
   subst ht
   obtain⟨t1,t2⟩:=tb
   have i1:((k+1:Nat):Int)<=8:=ah
   have i2:((k+1:Nat):Int)<9:=ah
   have i3:(k:Int)<8:=ah
   have hwA:IntKind.i64.wrap (((k+1:Nat):Int)-1)=(k:Nat):=aN
   have hwB:IntKind.i64.wrap (x*y)=x*y:=aN
   have hwC:IntKind.i64.wrap (s+x*y)=s+x*y:=aN
   go_wp2
   go_region
   all_goals
    clear hwA hwB hwC
    go_wp2
    go_roundw
    case rel=>exact⟨k+1,_,ah,aO,rfl,hid HT.out.symm,IA,IY,hid IL.out.drew⟩
    case measure=>simp[intOf]<;>omega
  obtain rfl:k=8:=ah
  have sb:=Gs OA.out H16.out 8
  have hs:=HSM.out
  have s1: -300000000000<=s:=ah
  have s2:s<=300000000000:=ah
  have HF:=hid (show s/4096=ni a [y0,y1,y2,y3,y4,y5,y6,y7] by unfold ni;rw[HSM.out])
  have KD:=hid (fun W=>F5 s W ah ah)
  clear hs sb
  go_wp2_with(go_at_call 110;(with_reducible refine(KD.out _).mono ?_);rintro e w9 ⟨rfl,hB⟩;have HB9:=hid hB;clear hB)
  go_ret
  exact⟨by rw[<-HF.out];rfl,IL.out.trans (HB9.out.mono IL.out.size)⟩):p:=h
theorem l9{p:Prop}(h:p:=by
 case round=>
  obtain⟨k,s,hk0,hk,rfl,rfl,HS,HB⟩:=hrel
  by_cases hlt:k<40
  ·have sb:=Xl ring p q k
   have ST:=hid (show aI (enT ring p q) (k+1)=s+s16 (ring.getD (k-p) 0)*s16 (ring.getD (k-q) 0) by
    rw[HS.out];simp only[aI];unfold enT iF;rw[if_pos ah,if_pos ah])
   have hs:=HS.out
   rw[<-hs] at sb
   have s1: -1073741824000<=s:=ah
   have s2:s<=1073741824000:=ah
   clear hs sb
   obtain⟨ad,rfl,hadb,c0⟩:=(HR.out.below HB.out).at_ (k:=k-p) (by rw[HRN.out];omega)
   obtain⟨ad2,had2,_,c1⟩:=(HR.out.below HB.out).at_ (k:=k-q) (by rw[HRN.out];omega)
   injection had2 with had2
   subst had2
   generalize ring.getD (k-p) 0=x at*
   generalize ring.getD (k-q) 0=y at*
   obtain⟨m,hm⟩:∃m,m=k-p:=⟨_,rfl⟩
   obtain⟨m2,hm2⟩:∃m2,m2=k-q:=⟨_,rfl⟩
   rw[<-hm] at c0
   rw[<-hm2] at c1
   have hw0:IntKind.i64.wrap ((k:Int)-(p:Nat))=(m:Nat):=aN
   have hw1:IntKind.i64.wrap ((k:Int)-(q:Nat))=(m2:Nat):=aN
   have xr:=lJ x
   have yr:=lJ y
   have KX:Hid (∀W,Calls Tryz.prog 163 #[.int .i64 x] W fun e w'=>e=.returned (.int .i64 (s16 x))/\w'=W):=hid (fun W=>(xU x W).mono fun _ _ h=>⟨h.1,h.2.symm⟩)
   have KY:Hid (∀W,Calls Tryz.prog 163 #[.int .i64 y] W fun e w'=>e=.returned (.int .i64 (s16 y))/\w'=W):=hid (fun W=>(xU y W).mono fun _ _ h=>⟨h.1,h.2.symm⟩)
   generalize s16 x=x' at*
   generalize s16 y=y' at*
   obtain⟨p1,p2⟩:=kU xr.1 xr.2 yr.1 yr.2
   have hw2:IntKind.i64.wrap (x'*y')=x'*y':=aN
   have hw3:IntKind.i64.wrap (s+x'*y')=s+x'*y':=aN
   have i1:(m:Int)<40:=ah
   have i2:(0:Int)<=m:=ah
   have i3:(m2:Int)<40:=ah
   have i4:(0:Int)<=m2:=ah
   have HM:=hid hm
   have HM2:=hid hm2
   clear hm hm2 xr yr
   go_wp2
   go_quiet ((go_at_call 163;first|(with_reducible exact Calls.quiet_of_same (KX.out _))|(with_reducible exact Calls.quiet_of_same (KY.out _))))
   clear hw0 hw1 hw2 hw3
   go_wp2
   go_roundw
   case rel=>exact⟨k+1,_,ah,ah,aO,rfl,hid ST.out.symm,hid (HB.out.trans ((iJ _ _).mono HB.out.size))⟩
   case measure=>simp[intOf]<;>omega
  obtain rfl:k=40:=ah
  go_wp2
  go_ret2
  exact⟨by rw[HV.out,HV2.out,Xk,<-HS.out];rfl,HB.out⟩):p:=h
theorem l10{p:Prop}(h:p:=by
 clear ST hcomm
 go_wp2_with(first
  |(go_at_call 105;(with_reducible refine K1'.out.mono ?_);rintro e1 w' ⟨rfl,rfl⟩)
  |(go_at_call 105;(with_reducible refine K2'.out.mono ?_);rintro e1 w' ⟨rfl,rfl⟩))
 all_goals
  go_round
  case rel=>exact⟨k+1,ah,ah,aO,vz⟩
  case measure=>simp[intOf]<;>omega):p:=h
theorem l11{p:Prop}(h:p:=by
 go_enter Tryz.func87,Tryz.ntmps87
 go_wp2_with(go_at_call 143;(with_reducible refine K.out.mono ?_);rintro e w' ⟨rfl,rfl⟩)
 go_ret2
 exact FIN.out):p:=h
theorem l12{p:Prop}(h:p:=by
 clear heq
 go_wp2
 go_quiet (fail)
 go_wp2
 go_quiet (fail)
 go_wp2
 go_ret
 exact⟨nY,BV.out.trans ((agS V _ _ _).mono BV.out.size)⟩):p:=h
theorem l13{p:Prop}(h:p:=by
 clear ST
 go_wp2
 go_quiet (fail)
 clear hw0 hw1 hw2 hw3
 go_wp2
 go_roundw
 case rel=>exact⟨k+1,ah,ah,aO,vz,hid (HB.out.trans ((iJ _ _).mono HB.out.size))⟩
 case measure=>simp[intOf]<;>omega):p:=h
theorem l14{p:Prop}(h:p:=by
 refine hK.out _ _ HS10 (fun _=>?_)
 clear hK K hV10 d9 f9 HS8 HS9 HS10 HS0
 refine tY au ?_ _
 have OKF:=hid (show mf.ok from by rw[FZ.out];exact⟨NL.out,OKS.out.p,OKS.out.e⟩)
 try simp only[Exit.then]
 go_wp2_with(first
  |(refine oU rfl (.tmp 2) rfl _ mf rfl S10.out.A OKF.out ?_)
  |(refine iO rfl (.tmp 4) (.tmp 68) rfl _ bZ mf rfl rfl S10.out.R jF OKF.out ?_))
 refine bg (v:=_) (hR _ _ _ mf rfl (MB.setRow S10.out.R mf) OKF.out) rfl ?_
 exact⟨A,c,by rw[LO.out];rfl,(O10.out.setRow (g:=w.heap.size+2) mM mf.ag).more (base':=w.heap.size) mM,aS S10.out.bel (g:=w.heap.size+2) ah mf.ag⟩):p:=h
theorem l15{p:Prop}(h:p:=by
 have FIN:bG i n w (.returned (.tuple #[.int .i64 (-v),.int .i64 0])) w:=⟨vC,rfl⟩
 have FIN:=hid FIN
 clear hw hM hE hV hE2 hV2 h1 q1 q2 q3 q4 q5 q6
 go_enter Tryz.func117,Tryz.ntmps117
 go_wp2_with(first
  |(go_at_call 173;(with_reducible refine K.out.mono ?_);rintro e w' ⟨rfl,rfl⟩)
  |(go_at_call 117;(with_reducible refine K2.out.mono ?_);rintro e w' ⟨rfl,rfl⟩))
 go_ret2
 exact FIN.out):p:=h
theorem l16{p:Prop}(h:p:=by
 clear hwX
 have cC:(wX.setRow (g+1) (agi x)).cell? ⟨g+3,0,none⟩=some (.int .i64 s.c):=Blk.cell (Blk.rowFar (c2:=agi x) (g:=g+1) SX.out.C ah) 0
 have cE:(wX.setRow (g+1) (agi x)).cell? ⟨g+4,0,none⟩=some (.int .i64 s.e):=Blk.cell (Blk.rowFar (c2:=agi x) (g:=g+1) SX.out.E ah) 0
 have cF:(wX.setRow (g+1) (agi x)).cell? ⟨g+2,0,none⟩=some (.bool s.first):=Blk.cell (Blk.rowFar (c2:=agi x) (g:=g+1) SX.out.F ah) 0
 have fC:=Blk.frozen (Blk.rowFar (c2:=agi x) (g:=g+1) SX.out.C ah) 0
 have fE:=Blk.frozen (Blk.rowFar (c2:=agi x) (g:=g+1) SX.out.E ah) 0
 have fF:=Blk.frozen (Blk.rowFar (c2:=agi x) (g:=g+1) SX.out.F ah) 0
 have SP:=hid (SX.out.put x C E)
 have OP:=hid (OX.out.put x C E)
 have XS:=hid SX.out.X
 have n34: ¬g+3=g+4:=ah
 have n32: ¬g+3=g+2:=ah
 have n42: ¬g+4=g+2:=ah
 go_wp2_with(first
  |(refine aK rfl 33 (.tmp 7) rfl _ 33 x 4 _ rfl QX.out Tryz.underlying33 rfl eY X4.out ?_)
  |(refine aP rfl 33 (.tmp 6) (.tmp 25) rfl _ 33 s.at_ x 4 rfl rfl XS.out eY SL.out X4.out ?_))
 go_end0
 exact⟨rfl,by rw[BS.out];exact SP.out,OP.out⟩):p:=h
theorem l17{p:Prop}(h:p:=by
 have e1:(x0==y0)=true:=iC
 have e2:(x0 !=y0)=false:=iC
 have HE2:=hid (show∀j,j<0+1->dg X j=dg Y j from fun j hj=>by
  by_cases e:j=0
  ·subst e;have h1:=hx0.out;have h2:=hy0.out;omega
  ·exact HE.out j ah)
 clear heq
 go_wp2
 go_quiet (fail)
 go_wp2
 go_roundw
 case rel=>exact⟨0+1,_,ah,rfl,rfl,HE2⟩
 case measure=>simp[intOf]):p:=h
theorem l18{p:Prop}(h:p:=by
 have e1:(x1==y1)=true:=iC
 have e2:(x1 !=y1)=false:=iC
 have HE2:=hid (show∀j,j<1+1->dg X j=dg Y j from fun j hj=>by
  by_cases e:j=1
  ·subst e;have h1:=hx1.out;have h2:=hy1.out;omega
  ·exact HE.out j ah)
 clear heq
 go_wp2
 go_quiet (fail)
 go_wp2
 go_roundw
 case rel=>exact⟨1+1,_,ah,rfl,rfl,HE2⟩
 case measure=>simp[intOf]):p:=h
theorem l19{p:Prop}(h:p:=by
 have e1:(x2==y2)=true:=iC
 have e2:(x2 !=y2)=false:=iC
 have HE2:=hid (show∀j,j<2+1->dg X j=dg Y j from fun j hj=>by
  by_cases e:j=2
  ·subst e;have h1:=hx2.out;have h2:=hy2.out;omega
  ·exact HE.out j ah)
 clear heq
 go_wp2
 go_quiet (fail)
 go_wp2
 go_roundw
 case rel=>exact⟨2+1,_,ah,rfl,rfl,HE2⟩
 case measure=>simp[intOf]):p:=h
theorem l20{p:Prop}(h:p:=by
 rename_i hHeldZ
 clear hHeldZ
 clear k0 k1 k2 k3 l0 l1 l2 l3 z0 z1 z2 z3 y0 y1 y2 y3
 simp only[Exit.then]
 have RF:=hid (show IB ((((w3.setCell ⟨w.heap.size,0,none⟩ (.int .i64 x0)).setCell ⟨w.heap.size,1,none⟩ (.int .i64 x1)).setCell ⟨w.heap.size,2,none⟩ (.int .i64 x2)).setCell ⟨w.heap.size,3,none⟩ (.int .i64 x3)) w.heap.size 33 [x0,x1,x2,x3] from IB.set_ (IB.set_ (IB.set_ (IB.set_ Z5.out 0 x0) 1 x1) 2 x2) 3 x3)
 have BF:=hid (show Below w.heap.size w ((((w3.setCell ⟨w.heap.size,0,none⟩ (.int .i64 x0)).setCell ⟨w.heap.size,1,none⟩ (.int .i64 x1)).setCell ⟨w.heap.size,2,none⟩ (.int .i64 x2)).setCell ⟨w.heap.size,3,none⟩ (.int .i64 x3)) from(((B4.out.setCell (p:=⟨w.heap.size,0,none⟩) (al0z _) _).setCell (p:=⟨w.heap.size,1,none⟩) (al0z _) _).setCell (p:=⟨w.heap.size,2,none⟩) (al0z _) _).setCell (p:=⟨w.heap.size,3,none⟩) (al0z _) _)
 go_wp2
 refine bg (v:=_) (hR _ _ _ 33 [x0,x1,x2,x3] _ 4 rfl RF.out Tryz.underlying33 rfl eY rfl) rfl ?_
 have:=FG.out _ BF.out
 rw[HP.out] at this
 exact this):p:=h
theorem l21{p:Prop}(h:p:=by
 go_enter Tryz.func117,Tryz.ntmps117
 go_wp2_with(go_at_call 173;(with_reducible refine K.out.mono ?_);rintro e w' ⟨rfl,rfl⟩)
 go_ret2
 exact FIN.out):p:=h
theorem l22{p:Prop}(h:p:=by
 have HF:=hid (show aU m=false from yh (by unfold rQ;omega))
 go_wp2
 go_ret
 exact⟨nY,HB.out⟩):p:=h
theorem l23{p:Prop}(h:p:=by
 have co:=IB.cell HS2.out.O n rG
 have fo:=Blk.frozen HS2.out.O n
 have HY2:=hid (afP HY.out.1 HY.out.2 hlt)
 rw[HV.out] at HY2
 have HS3:=hid (HS2.out.set_ n v)
 clear ca hix
 go_wp2
 go_roundw
 case rel=>exact⟨n+1,_,ah,aO,HE1,HY2,HS3⟩
 case measure=>simp[intOf]<;>omega):p:=h
theorem l24{p:Prop}(h:p:=by
 all_goals
  rename_i hHeldZ
  clear hHeldZ cp
  try simp only[Exit.then]
  have SY:=hid (show Cs w wS (jX l k) (iH l 120) gw gs 9 P (tu l (k+1)) from SS.out.congr fun j hj=>HY.out j)
  have YK:=hid (show IntAt wS (P k) y from by have:=SS.out.N k hlk;rwa [aaJ] at this)
  clear SS
  go_wp2_with(first
   |(go_at_call 75;(with_reducible refine(KI.out wS (P k) YK.out).mono ?_);rintro e' w' ⟨rfl,rfl⟩)
   |(go_at_call 110;(with_reducible refine(KD.out wS).mono ?_);rintro e' wD ⟨rfl,hD⟩;have SD:=hid (SY.out.below hD);have qc:=IB.cell SD.out.Q k (by rw[tj];exact hlk);have qf:=Blk.frozen SD.out.Q k;clear hD))
  have SE:=hid (show Cs w (wD.setCell ⟨w.heap.size+1,k,none⟩ (.int .i64 (y-y*k*k/8192))) (jX l (k+1)) (iH l 120) gw gs 9 P (tu l (k+1)) from by rw[<-HE.out];exact SD.out.setQ k (y-y*k*k/8192))
  go_roundw
  case rel=>exact⟨k+1,ah,aO,SE⟩
  case measure=>simp[intOf]<;>omega):p:=h
theorem l25{p:Prop}(h:p:=by
 go_enter Tryz.func48,Tryz.ntmps48
 go_wp2_with(first
  |(rw[<-HW.out])
  |(go_at_call 70;(with_reducible refine K1.out.mono ?_);rintro e w' ⟨rfl,rfl⟩)
  |(go_at_call 70;(with_reducible refine K2.out.mono ?_);rintro e w' ⟨rfl,rfl⟩)
  |(go_at_call 70;(with_reducible refine K3.out.mono ?_);rintro e w' ⟨rfl,rfl⟩))
 refine bg (v:=_) (hR _ _ _ 44 [0,0,0,0] _ 4 rfl IR.out Tryz.underlying44 rfl yU rfl) rfl ?_
 exact FIN.out):p:=h
theorem l26{p:Prop}(h:p:=by
 go_enter Tryz.func37,Tryz.ntmps37
 go_wp2_with(first
  |(rw[<-hW])
  |(go_at_call 83;(with_reducible refine K1.out.mono ?_);rintro e w' ⟨rfl,rfl⟩)
  |(go_at_call 83;(with_reducible refine K2.out.mono ?_);rintro e w' ⟨rfl,rfl⟩)
  |(go_at_call 83;(with_reducible refine K3.out.mono ?_);rintro e w' ⟨rfl,rfl⟩))
 refine bg (v:=_) (hR _ _ _ 44 [0,0,0,0] _ 4 rfl IR.out Tryz.underlying44 rfl yU rfl) rfl ?_
 exact FIN.out):p:=h
theorem l27{p:Prop}(h:p:=by
 rw[q1,q2] at K FIN
 clear q1 q2
 go_wp2_with fail
 all_goals refine(K.out wr A cp HO.out.reads).mono ?_
 all_goals rintro e' w' ⟨rfl,hB⟩
 all_goals have B1:=hid (HB.out.trans (hB.mono HB.out.size))
 all_goals clear hB
 all_goals go_wp2
 all_goals
  go_ret
  exact⟨Fg,B1.out⟩):p:=h
theorem l28{p:Prop}(h:p:=by
 have t0:(0:Int)<=t:=ah
 have t4:(t:Int)<4:=ah
 have HM:=hid hm
 have HF:=hid (show pkB.getD m 0=4/\pkT.getD m 0=9 from by
  have:t=0\/t=1\/t=2\/t=3:=ah
  rcases this with rfl|rfl|rfl|rfl<;>subst hm<;>exact⟨rfl,rfl⟩)
 clear hm
 go_wp2_with(at_builtin;refine XZ rfl (.tmp 56) (.tmp 63) rfl w.heap.size A c g m 1 (m+1) rfl rfl (HO.out.alloc _) wr.heap.size _ rfl (Blk.new wr _ _) (XU g m (XT g (by have:=HM.out;omega) HF.out.1 HF.out.2)) (by have:=HM.out;omega) La ?_;intro A6 c6 w6 hO hG;have O6:=hid hO;have B6:=hid ((HB.out.alloc HB.out.size _).grown hG La (zL HO.out));clear hO hG)
 go_roundw
 case rel=>exact⟨t+1,m+1,A6,c6,ah,by have:=HM.out;omega,aO,rfl,O6,B6⟩
 case measure=>simp[intOf]<;>omega):p:=h
theorem l29{p:Prop}(h:p:=by
 rw[e1,e2] at K FIN
 clear e1 e2
 go_enter Tryz.func125,Tryz.ntmps125
 go_wp2_with fail
 all_goals refine K.out.mono ?_
 all_goals rintro e' w' ⟨rfl,hB⟩
 all_goals have B1:=hid hB
 all_goals clear hB
 all_goals go_wp2
 all_goals
  go_ret
  exact⟨Fg,B1.out⟩):p:=h
theorem l30{p:Prop}(h:p:=by
 obtain⟨k,s,hk,rfl,rfl,HS⟩:=hrel
 by_cases hlt:k<n
 ·have dr:=oq H1.out H2.out k
  rw[<-HS.out] at dr
  have s1: -1073741824000<=s:=ah
  have s2:s<=1073741824000:=ah
  have ST:=hid (show bz xs ys (k+1)=s+xs.getD k 0*ys.getD k 0 from BK)
  obtain⟨ad,rfl,_,k0⟩:=HX.out.at_ (k:=k) iE
  obtain⟨ae,rfl,_,k1⟩:=HY.out.at_ (k:=k) (by rw[HM.out];omega)
  have x16:=H1.out k
  have y16:=H2.out k
  generalize xs.getD k 0=x at*
  generalize ys.getD k 0=y at*
  obtain⟨p1,p2⟩:=kU x16.1 x16.2 y16.1 y16.2
  have i2:(k:Int)<m:=ah
  clear dr
  go_wp2
  go_round
  case rel=>exact⟨k+1,_,ah,aO,rfl,hid ST.out.symm⟩
  case measure=>simp[intOf]<;>omega
 obtain rfl:k=n:=ah
 go_wp2
 go_ret
 exact⟨by rw[<-HS.out];rfl,rfl⟩):p:=h
theorem l31{p:Prop}(h:p:=by
 have HQ:=hid HX.out.symm
 go_wp2_with fail
 refine(zA _ 15 32768 (nzX s z) _ (by first|exact Int.le_trans aB m1|omega) (by first|exact Int.le_trans m2 aB|omega) ah aB (by first|exact HQ.out|(have:=HQ.out;omega))).mono ?_
 rintro e w9 ⟨rfl,hB⟩
 have B9:=hid (B7.out.trans (hB.mono B7.out.size))
 clear hB
 go_wp2
 go_ret2
 exact FIN.out _ _ rfl B9.out):p:=h
theorem l32{p:Prop}(h:p:=by
 go_round
 case rel=>exact⟨k+1,ah,aO,HN2⟩
 case measure=>simp[intOf]<;>omega):p:=h
theorem l33{p:Prop}(h:p:=by
 have hix:=HI8.out m.r K.out.r k hlt
 obtain⟨x,hx⟩:∃x,x=m.r.getD k 0:=⟨_,rfl⟩
 rw[<-hx] at hix
 have HX:=hid hx
 clear hx
 by_cases b1:x< -31000
 ·have HF:=hid (show aU m=false from Wx (iL (i:=k) (by rw[K.out.r];exact hlt) (Wv EI)))
  go_wp2
  go_ret
  exact⟨nY,HB.out⟩
 by_cases b2:31000<x
 ·have HF:=hid (show aU m=false from Wx (iL (i:=k) (by rw[K.out.r];exact hlt) (Wv EJ)))
  go_wp2
  go_ret
  exact⟨nY,HB.out⟩
 have HN:=hid (HY.out.succ (by rw[<-HX.out];exact Wu ah ah))
 go_wp2
 go_round
 case rel=>exact⟨k+1,ah,aO,HN⟩
 case measure=>simp[intOf]<;>omega):p:=h
theorem l34{p:Prop}(h:p:=by
 ·rw[if_pos h2,if_pos ah]
 rw[if_neg h2,if_neg ah]):p:=h
theorem l35{p:Prop}(h:p:=by
 go_wp2_with(refine aP rfl 22 (.tmp 6) (.tmp 42) rfl _ 22 Z8 Z8 8 rfl rfl HI.out.R aH rfl rfl ?_)
 refine bg (v:=_) (hR _ _ _ 22 Z8 _ 8 rfl hRow.out Tryz.underlying22 rfl aH rfl) rfl ?_
 exact FIN.out _ hB.out):p:=h
theorem l36{p:Prop}(h:p:=by
 go_wp2
 go_ret2
 exact FIN.out _ (aA _ _)):p:=h
theorem l37{p:Prop}(h:p:=by
 have P1:=hid (IB.setRow QX.out x)
 have P2:=hid (Blk.rowFar (c2:=agi x) (g:=w.heap.size+1) ZX.out ah)
 have P3:=hid (RX.out.rowFar (b:=w.heap.size+1) (by have:=RX.out.1;have:=GL.out;omega) (agi x))
 have P4:=hid (aS BX.out (g:=w.heap.size+1) ah (agi x))
 go_wp2_with(first
  |(refine aK rfl 33 (.tmp 11) rfl _ 33 x 4 _ rfl XX.out Tryz.underlying33 rfl eY X4.out ?_)
  |(refine aP rfl 33 (.tmp 7) (.tmp 42) rfl _ 33 sa x 4 rfl rfl QX.out eY SL.out X4.out ?_))
 go_roundw
 case rel=>exact⟨i+1,ah,aO,qy,qy,P2,by rw[NS.out];exact P1,P3,P4⟩
 case measure=>simp[intOf]<;>omega):p:=h
theorem l38{p:Prop}(h:p:=by
 have KWr:=hid (KW'.out wr HB.out)
 have FF:=hid (FIN.out wr HB.out)
 rw[hb] at FF
 clear hb hdist hnm hlt
 go_wp2_with(go_at_call 173;(with_reducible refine KWr.out.mono ?_);rintro e w' ⟨rfl,rfl⟩)
 go_ret2
 exact FF.out):p:=h
theorem l39{p:Prop}(h:p:=by
 go_enter Tryz.func106,Tryz.ntmps106
 go_wp2_with(refine aK rfl 23 (.tmp 4) rfl _ 23 h 80 _ rfl A0.out Tryz.underlying23 rfl kK HH.out ?_)
 refine(KP.out _).mono ?_
 rintro e w1 ⟨A1,c1,rfl,hO,hB⟩
 have FIN:=hid (NewSE.none_ (er:=2) (B0.out.trans (hB.mono B0.out.size)))
 clear hO hB
 go_wp2
 go_ret2
 exact FIN.out):p:=h
theorem l40{p:Prop}(h:p:=by
 refine bg (v:=_) (hR _ _ _ 22 (bQ 8 k) _ 8 rfl hRow.out Tryz.underlying22 rfl aH LK.out) rfl ?_
 exact FIN.out):p:=h
theorem l41{p:Prop}(h:p:=by
 refine bg (v:=_) (hR _ _ _ 22 ys _ 8 rfl (IB.setRow HS.out.R ys) Tryz.underlying22 rfl aH HYL.out) rfl ?_
 exact⟨by rw[HE.out,HF2.out];rfl,aS HS.out.B ah _⟩):p:=h
theorem l42{p:Prop}(h:p:=by
 refine bg (v:=_) (hR _ _ _ 22 Z8 _ 8 rfl (IB.setRow HS2.out.R Z8) Tryz.underlying22 rfl aH rfl) rfl ?_
 exact⟨by rw[HF.out,HF2.out];rfl,aS HS2.out.B ah _⟩):p:=h
theorem l43{p:Prop}(h:p:=by
 simp only[bU] at h2 h3
 exact⟨Blk.alloc (Blk.alloc h1 _) _,Blk.alloc h2 _,h3,((((aA _ _).alloc (al0z _) _).alloc az _).alloc aJ _)⟩):p:=h
theorem l44{p:Prop}(h:p:=by
 go_wp2_with(go_at_call 142;refine(adC _ _).mono ?_;rintro e w' ⟨rfl,rfl⟩)
 go_ret
 exact⟨rfl,rfl⟩):p:=h
theorem l45{p:Prop}(h:p:=by
 rintro e w' ⟨A3,c3,h1,h2,h3⟩
 refine⟨A3,c3,(if di a Z8 (iW N) then dY Z8 (dF a Z8 (iW N) N) else Z8),?_,?_,?_,h3⟩
 ·split
  ·exact qK _ _ rfl
  rfl
 ·rw[h1,hys,her,show lm a (N:Nat)=(if di a Z8 (iW N) then dF a Z8 (iW N) N else[]) from by unfold lm;rw[hb];rfl,show pz a (N:Nat)=aZ (di a Z8 (iW N)) from by unfold pz;rw[hb];rfl]
 rw[hys,show lm a (N:Nat)=(if di a Z8 (iW N) then dF a Z8 (iW N) N else[]) from by unfold lm;rw[hb];rfl];exact h2):p:=h
theorem l46{p:Prop}(h:p:=by
 go_enter Tryz.func102,Tryz.ntmps102
 go_wp2_with(go_at_call 163;(with_reducible refine(KS.out _).mono ?_);rintro e w' ⟨rfl,rfl⟩)
 go_ret2
 exact FB.out _ BA.out):p:=h
theorem l47{p:Prop}(h:p:=by
 go_wp2
 go_round
 case rel=>exact⟨k+1,ah,aO,HN⟩
 case measure=>simp[intOf]<;>omega):p:=h
theorem l48{p:Prop}(h:p:=by
 go_wp2_with fail
 refine KC.out.mono ?_
 rintro en1 w9 ⟨rfl,n9,rfl⟩
 go_wp2
 go_ret
 exact⟨by rw[HZ.out];rfl,B8.out.trans ((iJ _ _).mono B8.out.size)⟩):p:=h
theorem l49{p:Prop}(h:p:=by
 have I5:=hid (Blk.far I3.out (p:=⟨w.heap.size+1,k,none⟩) AP (.int .i64 (y-y*k*k/8192)))
 have B5:=hid (B3.out.setCell (p:=⟨w.heap.size+1,k,none⟩) ug (.int .i64 (y-y*k*k/8192)))
 clear q1 q2 yb xr zr ck fk
 go_region
 clear hw1 hw2 hw3 c3 f3
 go_wp2
 go_roundw
 case rel=>exact⟨k+1,ah,aO,hid (Blk.drew I5.out),hid (Blk.drew R5.out),hid B5.out.drew⟩
 case measure=>simp[intOf]<;>omega):p:=h
theorem l50{p:Prop}(h:p:=by
 obtain⟨ad,rfl,_,c0⟩:=HR.out.at_ (k:=k) iE
 have hb:=hx k
 have ST:=hid (show lZ xs (k+1)=lZ xs k+xs.getD k 0 from rfl)
 generalize xs.getD k 0=x at*
 generalize lZ xs k=s at*
 have k0:(0:Int)<=k:=ah
 have kn:(k:Int)<n:=ah
 have hw1:IntKind.i64.wrap x=x:=aN
 have hw2:IntKind.i64.wrap (s+x)=s+x:=aN
 go_wp2
 refine⟨⟨k+1,ah,aO,by rw[ST.out]⟩,?_⟩
 simp[intOf]<;>omega):p:=h
theorem l51{p:Prop}(h:p:=by
 have X0:=HB0.out
 have X1:=RB.out
 have X2:=BB.out
 rw[HV.out] at X0 X1 X2
 have X0:=hid X0
 have X1:=hid X1
 have X2:=hid X2
 rename_i X0r X1r X2r
 clear X0r X1r X2r
 go_enter Tryz.func164,Tryz.ntmps164
 go_wp2_with(refine aP rfl 33 (.tmp 6) (.tmp 24) rfl _ 33 Z4 Z4 4 rfl rfl X0.out eY rfl rfl ?_)
 refine bg (v:=_) (hR _ _ _ 33 Z4 _ 4 rfl X1.out Tryz.underlying33 rfl eY rfl) rfl ?_
 exact FB.out _ HE.out aB _ X2.out):p:=h
theorem l52{p:Prop}(h:p:=by
 go_wp2_with fail
 refine(KF.out _).mono ?_
 rintro e w1 ⟨rfl,hB⟩
 have Z1:=hid (Blk.below' Z0.out hB)
 have B1:=hid (B0.out.trans (hB.mono B0.out.size))
 clear hB Z0 B0
 have EO:=hid ZY.k
 go_wp2_with(refine oI rfl (.tmp 0) (.tmp 2) rfl _ dH enB rfl au Z1.out ik EO.out ?_)
 refine bg (v:=_) (hR _ _ _ enB rfl (EB.setRow Z1.out enB) EO.out) rfl ?_
 exact⟨rfl,aS B1.out ah _⟩):p:=h
theorem l53{p:Prop}(h:p:=by
 have HM:=hid hm
 have HY:=hid hy
 have HZ:=hid hz
 have HVV:=hid hv
 have hdk:decide ((k:Int)<40)=true:=aJ
 clear hm hy hz hv yr hrg HO HB
 subst hAe
 go_wp2
 go_region_with ((go_at_call 207;(with_reducible refine(KS.out _).mono ?_);rintro e' w' ⟨rfl,rfl⟩))
 all_goals
  clear hw0 hw1 hw2
  go_wp2
  go_roundw
  case rel=>exact⟨k+1,ah,ah,aO,hid NO.out.drew,hid NB.out.drew⟩
  case measure=>simp[intOf]<;>omega):p:=h
theorem l54{p:Prop}(h:p:=by
 rintro e w2 ⟨A3,c3,q,hq,rfl,hO,hB⟩
 have HQ:=hid hq
 have O2:=hid hO
 have B2:=hid (B1.out.trans (hB.mono B1.out.size))
 clear hB hO hq
 go_wp2_with(refine aP rfl 22 (.tmp 8) (.tmp 28) rfl _ 22 Z8 q 8 rfl rfl (IB.new w2 22 Z8) aH rfl HQ.out ?_)
 go_ret2
 exact⟨A3,c3,rfl,(O2.out.below (bT w2 (.cells (agi Z8) 22) _)).more B1.out.size,B2.out.trans ((bT w2 (.cells (agi Z8) 22) _).mono B2.out.size)⟩):p:=h
theorem l55{p:Prop}(h:p:=by
 go_wp2
 go_ret
 exact⟨Fg,aA _ _⟩):p:=h
theorem l56{p:Prop}(h:p:=by
 rcases Nat.lt_or_ge p.block w.heap.size with h1|h1
 ·exact h1
 unfold World.cell? at h
 rw[Array.getElem?_eq_none h1] at h
 simp at h):p:=h
theorem l57{p:Prop}(h:p:=by
 have hRow:=hid (I0.out.R.setRow (Z8))
 go_wp2_with(first
  |(refine aK rfl 22 (.tmp 5) rfl _ 22 (Z8) 8 _ rfl I0.out.K Tryz.underlying22 rfl aH rfl ?_)
  |(refine aP rfl 22 (.tmp 2) (.tmp 25) rfl _ 22 Z8 (Z8) 8 rfl rfl I0.out.R aH rfl rfl ?_))
 refine bg (v:=_) (hR _ _ _ 22 (Z8) _ 8 rfl hRow.out Tryz.underlying22 rfl aH rfl) rfl ?_
 exact FIN.out):p:=h
theorem l58{p:Prop}(h:p:=by
 have hRow:=hid (I0.out.R.setRow Z8)
 go_wp2_with(first
  |(refine aK rfl 22 (.tmp 5) rfl _ 22 Z8 8 _ rfl I0.out.K Tryz.underlying22 rfl aH rfl ?_)
  |(refine aP rfl 22 (.tmp 2) (.tmp 29) rfl _ 22 Z8 Z8 8 rfl rfl I0.out.R aH rfl rfl ?_))
 refine bg (v:=_) (hR _ _ _ 22 Z8 _ 8 rfl hRow.out Tryz.underlying22 rfl aH rfl) rfl ?_
 exact FIN.out):p:=h
theorem l59{p:Prop}(h:p:=by
 refine bg (v:=_) (hR _ _ _ 90 Z9 _ 9 rfl RE.out Tryz.underlying90 rfl kD rfl) rfl ?_
 exact⟨rfl,BE.out⟩):p:=h
theorem l60{p:Prop}(h:p:=by
 subst hA
 rcases h4 with h4|h4
 ·left
  cases A with
  |none=>simp[Value.ownBlock] at h4
  |some ad=>
   simp[Value.ownBlock] at h4
   rcases hown.2 with⟨hv2,_⟩|⟨g2,cap2,cur2,hv2,_⟩
   ·cases hv2
   injection hv2 with hA2 _ _
   injection hA2 with hA2
   subst hA2
   simp at h4
   subst h4
   rfl
 right
 simp[Value.ownBlock] at h4
 exact⟨g,rfl,ah⟩):p:=h
theorem l61{p:Prop}(h:p:=by
 refine bg (v:=_) (hR _ _ _ 22 Z8 _ 8 rfl hRow2.out Tryz.underlying22 rfl aH rfl) rfl ?_
 exact FIN.out):p:=h
theorem l62{p:Prop}(h:p:=by
 have HE1:=hid (show iP ring h t=1 by rw[HE.out,hR];rfl)
 have F0:=VL.out
 rw[hR] at F0
 simp only[if_false,Bool.false_eq_true] at F0
 rw[F0]
 clear F0 hR ST
 go_wp2
 ((try simp only[Exit.inBlock,Exit.then]);refine bg (wI rfl _ _ _) rfl ?_)
 exact FB.out _ HE1.out aB _ (BA.out.trans (B2.out.mono BA.out.size))):p:=h
theorem l63{p:Prop}(h:p:=by
 clear hq hle
 go_wp2
 refine⟨⟨j+1,N+q%2,ah,aO,by push_cast;rfl,hid ?_,hid (fun _=>hpos)⟩,?_⟩
 ·rw[HE.out,HN.out,Nat.add_assoc]
 simp[intOf]<;>omega):p:=h
theorem l64{p:Prop}(h:p:=by
 generalize gU (2*one*c) ((y+x)*e)=z at*
 clear hgt hw0 hw1
 go_wp2_with(go_at_call 195;(with_reducible refine KC.out.mono ?_);rintro e' w7 ⟨rfl,n7,rfl⟩)
 go_roundw
 case rel=>exact⟨k+1,ah,ah,aO,vz,hid (BM.out.trans ((iJ _ _).mono BM.out.size))⟩
 case measure=>simp[intOf]<;>omega):p:=h
theorem l65{p:Prop}(h:p:=by
 go_wp2_with(refine iO rfl (.tmp 0) (.tmp 1) rfl _ bZ lX rfl (congrArg Value.agg aey) HZ.out jF CU ?_)
 refine bg (v:=_) (hR _ _ _ lX rfl (MB.setRow HZ.out lX) CU) rfl ?_
 exact⟨rfl,aS ((aA _ w).alloc (al0z _) _) (al0z _) _⟩):p:=h
theorem l66{p:Prop}(h:p:=by
 obtain rfl:k=40:=ah
 have NO:=hid (show Own wr V.heap.size (some ⟨V.heap.size,0,none⟩) 40 (iR d ring ix (t+1) 0) by rw[<-HNX.out];exact HO.out)
 go_wp2
 go_roundw
 case rel=>exact⟨t+1,ah,aO,by rw[SC2.out];first|rfl|(simp only[wrap64,oJ]),NO,HB⟩
 case measure=>simp[intOf]<;>omega):p:=h
theorem l67{p:Prop}(h:p:=by
 have e1:(x==s16 x)=false:=Ku
 have e2:(x !=s16 x)=true:=Ky
 clear hbad
 go_wp2_with(go_at_call 156;refine(xY _ _).mono ?_;rintro e w' ⟨rfl,rfl⟩)
 go_ret
 exact⟨by unfold di;rw[HF.out];simp,HB.out⟩):p:=h
theorem l68{p:Prop}(h:p:=by
 have HXB:=hid hxb
 clear hxb
 go_wp2
 go_roundw
 case rel=>
  have e1:((c:Int)+xa+xb)%4294967296=(((c+xa+xb)%4294967296:Nat):Int):=ah
  rw[e1]
  exact⟨k+1,(c+xa+xb)/4294967296,_,ah,az,az,ah,INV.out.step hka ah HXA.out HXB.out ah⟩
 case measure=>simp[intOf]<;>omega):p:=h
theorem l69{p:Prop}(h:p:=by
 have e1:(x==s16 x)=false:=Ku
 have e2:(x !=s16 x)=true:=Ky
 clear hbad
 go_wp2_with(go_at_call 61;refine(xX _ _).mono ?_;rintro e w' ⟨rfl,rfl⟩)
 go_ret
 exact⟨nY,HB.out⟩):p:=h
theorem l70{p:Prop}(h:p:=by
 go_enter Tryz.func116,Tryz.ntmps116
 go_wp2_with(go_at_call 173;(with_reducible refine KW'.out.mono ?_);rintro e w' ⟨rfl,rfl⟩)
 go_ret2
 exact FIN.out):p:=h
theorem l71{p:Prop}(h:p:=by
 go_enter Tryz.func86,Tryz.ntmps86
 go_wp2_with(go_at_call 143;(with_reducible refine KW'.out.mono ?_);rintro e w' ⟨rfl,rfl⟩)
 go_ret2
 exact FIN.out):p:=h
theorem l72{p:Prop}(h:p:=by
 have HXB:=hid hxb
 clear hxb
 go_wp2
 go_roundw
 case rel=>
  have e1:((c:Int)+xa)%4294967296=(((c+xa)%4294967296:Nat):Int):=ah
  rw[e1]
  exact⟨k+1,(c+xa)/4294967296,_,ah,az,az,ah,INV.out.step hka ah HXA.out HXB.out ah⟩
 case measure=>simp[intOf]<;>omega):p:=h
theorem l73{p:Prop}(h:p:=by
 rw[inv.own.cellAt k ah]
 exact⟨_,jO (by simp[W32,inv.len];omega)⟩):p:=h
theorem l74{p:Prop}(h:p:=by
 have HN:=hid (HY.out.succ MZ)
 have e1:decide (x< -1099511627776)=false:=aJ
 have e3:decide (1099511627776<x)=false:=aJ
 clear hb hx
 go_wp2
 go_round
 case rel=>exact⟨i+1,ah,aO,HN⟩
 case measure=>simp[intOf]<;>omega):p:=h
theorem l75{p:Prop}(h:p:=by
 refine bg (v:=_) (hR _ _ _ 22 Z8 _ 8 rfl (IB.setRow S1.out.R Z8) Tryz.underlying22 rfl aH rfl) rfl ?_
 have y1:=HYY.out
 have z1:=HZZ.out
 rw[if_neg hg] at y1 z1
 subst y1
 subst z1
 exact⟨none,0,by rw[hb];rfl,Own.nil,aS S1.out.bel ah _⟩):p:=h
theorem l76{p:Prop}(h:p:=by
 ·congr 1;have h1:=HM.out;have h2:=HE.out;have h3:=HN.out;have h4:=HY.out;omega
 ·rw[<-HH.out,<-HY.out];omega
 simp[intOf]<;>omega):p:=h
theorem l77{p:Prop}(h:p:=by
 go_enter Tryz.func133,Tryz.ntmps133
 go_wp2
 go_ret2
 exact FIN.out):p:=h
theorem l78{p:Prop}(h:p:=by
 go_wp2_with(refine aP rfl 33 (.tmp 6) (.tmp 37) rfl _ 33 Z4 Z4 4 rfl rfl HB0.out eY rfl rfl ?_)
 refine bg (v:=_) (hR _ _ _ 33 Z4 _ 4 rfl RB.out Tryz.underlying33 rfl eY rfl) rfl ?_
 exact FB.out _ HE2.out aB _ BB.out):p:=h
theorem l79{p:Prop}(h:p:=by
 have e1:(c:Int)%4294967296=(c:Int):=ah
 go_wp2_with(go_at_call 151;refine(vI _ w.heap.size _ (k+1) (rs.set k c) F.1 F.2.1).mono ?_;rintro e w' ⟨⟨v',rfl,hnm⟩,rfl⟩)
 go_ret
 exact⟨⟨v',rfl,by rw[<-F.2.2.1];exact hnm⟩,F.2.2.2⟩):p:=h
theorem l80{p:Prop}(h:p:=by
 go_wp2
 go_quiet ((go_at_call 156;first|(with_reducible exact Calls.quiet_of_same (KX.out _))|(with_reducible exact Calls.quiet_of_same (KY.out _))))
 clear hw0
 go_wp2
 go_ret2
 exact FBAD.out _ FB.out (HB.out.trans ((iJ _ _).mono HB.out.size))):p:=h
theorem l81{p:Prop}(h:p:=by
 obtain⟨ao,len,cap,ws,rfl,hr,ht,hn⟩:=h
 refine⟨ao,len,cap,ws,rfl,hr.of_block fun a ha=>hg.block _ (hr.lt a ha) ?_,ht,hn⟩
 intro he
 obtain⟨_,cur,fz,hh,_⟩:=hr.cells a ha
 have:=nP he
 unfold Blk at hb
 rw[this,hb] at hh
 simp at hh):p:=h
theorem l82{p:Prop}(h:p:=by
 clear h
 go_enter Tryz.func129,Tryz.ntmps129
 go_wp2
 go_ret2
 exact FB.out _ BA.out):p:=h
theorem l83{p:Prop}(h:p:=by
 have HF:=hid (show aG xs=true from HY.out.all BG)
 go_wp2
 go_ret
 exact⟨nY,rfl⟩):p:=h
theorem l84{p:Prop}(h:p:=by
 go_wp2
 go_ret
 exact⟨Fg,rfl⟩):p:=h
theorem l85{p:Prop}(h:p:=by
 clear h
 go_enter Tryz.func168,Tryz.ntmps168
 go_wp2
 go_ret2
 exact⟨rfl,rfl⟩):p:=h
theorem l86{p:Prop}(h:p:=by
 go_wp2
 go_quiet ((go_at_call 163;first|(with_reducible exact Calls.quiet_of_same (KX.out _))|(with_reducible exact Calls.quiet_of_same (KY.out _))))
 go_wp2
 go_ret2
 exact NewSE.none_ (HB.out.trans ((iJ _ _).mono HB.out.size))):p:=h
theorem l87{p:Prop}(h:p:=by
 have HV:=hid hv
 clear hv
 have hne:((xa:Int) !=(xb:Int))=true:=by rw[bne_iff_ne];omega
 go_wp2
 go_quiet (fail)
 go_wp2
 go_quiet (fail)
 go_wp2
 go_ret
 refine⟨by rw[HV.out];rfl,?_⟩;(try simp only[World.drewN_drewN]);exact⟨_,rfl⟩):p:=h
theorem l88{p:Prop}(h:p:=by
 have c80:=C80.out
 have mx:=Int.le_max_left (40*(j:Int)+40) 0
 rw[if_pos ah,if_pos ah,show(40*(j:Int)).toNat=j*40 from ah,show(40*(j:Int)+40).toNat=j*40+40 from ah,if_neg ah,show j*40+40-j*40=40 from ah]):p:=h
theorem l89{p:Prop}(h:p:=by
 obtain rfl:k=8:=ah
 go_wp2
 go_ret
 exact⟨Fg,HB.out⟩):p:=h
theorem l90{p:Prop}(h:p:=by
 go_wp2_with(refine aP rfl 90 (.tmp 2) (.tmp 23) rfl _ 90 Z9 Z9 9 rfl rfl I2.out.R bC rfl rfl ?_)
 refine bg (v:=_) (hR _ _ _ 90 Z9 _ 9 rfl hRow.out Tryz.underlying90 rfl bC rfl) rfl ?_
 exact FIN.out):p:=h
theorem l91{p:Prop}(h:p:=by
 clear h
 go_enter Tryz.func167,Tryz.ntmps167
 go_wp2
 go_ret2
 exact FIN.out):p:=h
theorem l92{p:Prop}(h:p:=by
 clear h
 go_enter Tryz.func183,Tryz.ntmps183
 go_wp2
 go_ret2
 exact FIN.out):p:=h
theorem l93{p:Prop}(h:p:=by
 rw[bi,wR,if_pos h,List.getElem?_drop,<-bi]):p:=h
theorem l94{p:Prop}(h:p:=by
 rw[hv]
 have hne:((an:Int)==(bn:Int))=false:=EH
 have hne':((an:Int) !=(bn:Int))=true:=by rw[bne_iff_ne];omega
 go_enter Tryz.func152,Tryz.ntmps152
 go_wp2
 go_ret
 exact⟨rfl,0,rfl⟩):p:=h
theorem l95{p:Prop}(h:p:=by
 clear ha hbit
 go_wp2_with(go_at_call 167;(with_reducible refine KA'.out.mono ?_);rintro e w' ⟨rfl,rfl⟩)
 go_roundw
 case rel=>exact⟨n+1,ah,aO,HA2,NO,NB⟩
 case measure=>simp[intOf]<;>omega):p:=h
theorem l96{p:Prop}(h:p:=by
 rw[bi,List.getElem?_eq_none ah];simp):p:=h
theorem l97{p:Prop}(h:p:=by
 refine bg (v:=_) (hR _ _ _ (ji m) rfl hRow.out OKS.out) rfl ?_
 rw[FR.out,FY.out,HG.out]
 exact⟨A2,c2,by rw[if_pos rfl,if_pos rfl,NL.out];rfl,by rw[if_pos rfl];exact OF.out,FIN.out⟩):p:=h
theorem l98{p:Prop}(h:p:=by
 clear h0 h1 h2
 go_wp2
 go_ret
 exact⟨nY,BW.out⟩):p:=h
theorem l99{p:Prop}(h:p:=by
 go_wp2
 go_ret
 exact⟨by unfold di;rw[HF.out];rfl,HB.out⟩):p:=h
theorem Fp{p:Prop}(h:p:=by
 go_wp2
 go_ret
 exact⟨by rw[hs.out];rfl,rfl⟩):p:=h
theorem abL{p:Prop}(h:p:=by
 go_wp2_with(go_at_call 75;(with_reducible refine K.out.mono ?_);rintro e w' ⟨rfl,rfl⟩)
 all_goals
  go_ret2
  exact⟨by rw[HV2.out];first|rfl|exact Xf (a:=y) ah,B2.out⟩):p:=h
theorem abM{p:Prop}(h:p:=by
 rw[show((b:Int)*4294967296)=((b*4294967296:Nat):Int) from ah,u64_or_nat _ _ ah ah,Nat.or_comm,
  nat_join 32 _ _ ah ah,Nat.add_comm,Nat.mul_comm]):p:=h
theorem abN{p:Prop}(h:p:=by
 clear dy hx hy
 go_enter Tryz.func195,Tryz.ntmps195
 go_wp2
 go_quiet (fail)
 go_wp2
 go_quiet ((go_at_call 152;exact adv (K0.out _)))
 go_wp2
 go_ret
 rw[HV.out]
 exact⟨rfl,_,rfl⟩):p:=h
theorem U5{p:Prop}(h:p:=by
 exact⟨Blk.alloc h1 _,h2,((aA _ _).alloc (al0z _) _).alloc az _⟩):p:=h
theorem abO{p:Prop}(h:p:=by
 simp only[bU] at h2 h3
 exact⟨(Blk.alloc h1 _).alloc _,Blk.alloc h2 _,h3,(((aA _ _).alloc (al0z _) _).alloc az _).alloc aJ _⟩):p:=h
theorem U7{p:Prop}(h:p:=by
 go_enter Tryz.func187,Tryz.ntmps187
 go_wp2
 go_ret2
 exact⟨by rw[HX.out];simp[hw],rfl⟩):p:=h
theorem abP{p:Prop}(h:p:=by
 go_quiet (fail)
 go_wp2
 go_ret
 exact⟨by rw[HN.out (fun h=>by have:=HD.out.1 h;omega)];rfl,B1.out.trans ((HB.out.trans ((iJ wr _).mono HB.out.size)).mono B1.out.size)⟩):p:=h
theorem abQ{p:Prop}(h:p:=by
 go_quiet (fail)
 go_wp2
 go_ret
 exact⟨by rw[HN.out (fun h=>by have:=HD.out.1 h;omega)];rfl,B1.out.trans ((BW.out.trans ((iJ W _).mono BW.out.size)).mono B1.out.size)⟩):p:=h
theorem OQ{p:Prop}(h:p:=by
 obtain⟨b,e1,e2,_⟩:=Dq (i:=i) k1 k2 0
 rw[e1];omega):p:=h
theorem abR{p:Prop}(h:p:=by
 refine bg (v:=_) (hR _ _ _ dH rfl (EB.setRow S0.out.Z dH) ik) rfl ?_
 exact EncOut.bad (aS S0.out.bel ah _) ER.out aB):p:=h
theorem U9{p:Prop}(h:p:=by
 go_wp2
 go_ret
 exact⟨nY,(aA _ _).alloc (al0z _) _⟩):p:=h
theorem abS{p:Prop}(h:p:=by
 go_wp2
 go_roundw
 case rel=>exact⟨k+1,_,ah,aO,NEXT.out _ HV.out,NO.out _,hid (NA.out _),hid (NB.out _)⟩
 case measure=>simp[intOf]<;>omega):p:=h
theorem Va{p:Prop}(h:p:=by
 refine Classical.byContradiction fun hc=>?_
 exact hpos (HJ.out ah)):p:=h
theorem abT{p:Prop}(h:p:=by
 refine bg (v:=_) (hR _ _ _ 23 Z80 _ 80 rfl hRow.out Tryz.underlying23 rfl kK rfl) rfl ?_
 exact⟨by rw[FA.out,FE.out];rfl,FIN.out⟩):p:=h
theorem abU{p:Prop}(h:p:=by
 exact⟨Blk.alloc (Blk.alloc h1 _) _,Blk.alloc h2 _,h3,(((aA _ _).alloc (al0z _) _).alloc az _).alloc aJ _⟩):p:=h
theorem abV{p:Prop}(h:p:=by
 go_wp2
 ((try simp only[Exit.inBlock,Exit.then]);refine bg (wI rfl _ _ _) rfl ?_)
 exact FB.out _ HE.out aB _ BA.out):p:=h
theorem Vb{p:Prop}(h:p:=by
 go_enter Tryz.func132,Tryz.ntmps132
 go_wp2
 go_ret2
 exact⟨rfl,rfl⟩):p:=h
theorem Vd{p:Prop}(h:p:=by
 go_enter Tryz.func143,Tryz.ntmps143
 go_wp2
 go_ret
 exact⟨rfl,rfl⟩):p:=h
theorem Ve{p:Prop}(h:p:=by
 go_enter Tryz.func173,Tryz.ntmps173
 go_wp2
 go_ret
 exact⟨rfl,rfl⟩):p:=h
theorem abW{p:Prop}(h:p:=by
 refine bg (v:=_) (hR _ _ _ bZ rfl hRow.out jF) rfl ?_
 rw[FR.out,FY.out,HG.out]
 exact⟨none,0,rfl,Own.nil,FIN.out⟩):p:=h
theorem Vf{p:Prop}(h:p:=by
 go_enter Tryz.func97,Tryz.ntmps97
 go_wp2
 go_ret2
 exact⟨rfl,rfl⟩):p:=h
theorem abX{p:Prop}(h:p:=by
 refine bg (v:=_) (hR _ _ _ 22 (bQ 8 (k++[q])) _ 8 rfl hRow.out Tryz.underlying22 rfl aH LK2.out) rfl ?_
 exact FIN.out):p:=h
theorem abY{p:Prop}(h:p:=by
 have HD:=hid hd
 clear hd NEXT
 go_wp2
 go_roundw
 case rel=>exact⟨k+1,_,ah,aO,HX,SX⟩
 case measure=>simp[intOf]<;>omega):p:=h
theorem abZ{p:Prop}(h:p:=by
 clear HA hb HR
 go_wp2
 go_round
 case rel=>exact⟨k+1,_,ah,aO,rfl,hid HR2.out.symm⟩
 case measure=>simp[intOf]<;>omega):p:=h
theorem ab1{p:Prop}(h:p:=by
 subst hA
 left
 cases A with
 |none=>rfl
 |some ad=>
  rcases h4 with h4|h4
  ·simp[Value.ownBlock] at h4
  simp[Value.ownBlock] at h4):p:=h
theorem ab2{p:Prop}(h:p:=by
 refine⟨h.1,?_⟩
 rcases h.2 with hn|⟨g,cap,cur,hv,hbb,rest⟩
 ·exact .inl hn
 exact .inr ⟨g,cap,cur,hv,ah,rest⟩):p:=h
theorem ab4{p:Prop}(h:p:=by
 clear hy
 go_wp2
 go_round
 case rel=>exact⟨0+1,ah,aO,xn⟩
 case measure=>simp[intOf]<;>omega):p:=h
theorem ab5{p:Prop}(h:p:=by
 clear hy
 go_wp2
 go_round
 case rel=>exact⟨1+1,ah,aO,xn⟩
 case measure=>simp[intOf]<;>omega):p:=h
theorem ab6{p:Prop}(h:p:=by
 clear hy
 go_wp2
 go_round
 case rel=>exact⟨2+1,ah,aO,xn⟩
 case measure=>simp[intOf]<;>omega):p:=h
theorem ab7{p:Prop}(h:p:=by
 clear hy
 go_wp2
 go_round
 case rel=>exact⟨3+1,ah,aO,xn⟩
 case measure=>simp[intOf]<;>omega):p:=h
theorem ab8{p:Prop}(h:p:=by
 clear hp HV hc
 go_wp2
 all_goals
  go_ret2
  exact⟨by rw[HV2.out];first|rfl|exact Xf (a:=x/2^(30-m)) ah,rfl⟩):p:=h
theorem ab9{p:Prop}(h:p:=by
 refine bg (v:=_) (hR _ _ _ 33 Z4 _ 4 rfl RF.out Tryz.underlying33 rfl eY rfl) rfl ?_
 exact FB.out _ BF.out):p:=h
theorem aca{p:Prop}(h:p:=by
 clear dy hx hy
 go_enter Tryz.func195,Tryz.ntmps195
 go_wp2
 go_quiet (fail)
 go_wp2
 go_ret
 rw[HV.out]
 exact⟨rfl,_,rfl⟩):p:=h
theorem acb{p:Prop}(h:p:=by
 clear hy
 go_wp2
 go_round
 case rel=>exact⟨0+1,ah,aC,xn⟩
 case measure=>simp[intOf]<;>omega):p:=h
theorem acd{p:Prop}(h:p:=by
 clear hy
 go_wp2
 go_round
 case rel=>exact⟨1+1,ah,aC,xn⟩
 case measure=>simp[intOf]<;>omega):p:=h
theorem acf{p:Prop}(h:p:=by
 clear hy
 go_wp2
 go_round
 case rel=>exact⟨2+1,ah,aC,xn⟩
 case measure=>simp[intOf]<;>omega):p:=h
theorem acg{p:Prop}(h:p:=by
 clear hy
 go_wp2
 go_round
 case rel=>exact⟨3+1,ah,aC,xn⟩
 case measure=>simp[intOf]<;>omega):p:=h
theorem aci{p:Prop}(h:p:=by
 refine bg (v:=_) (hR _ _ _ 90 zs _ 9 rfl hRow.out Tryz.underlying90 rfl bC HY.out.1) rfl ?_
 exact FIN.out):p:=h
theorem acj{p:Prop}(h:p:=by
 refine⟨rfl,rfl,rfl,rfl,fun j h1 h2=>?_⟩
 have:j=2\/j=3\/j=4\/j=5:=ah
 rcases this with rfl|rfl|rfl|rfl<;>rfl):p:=h
theorem acl{p:Prop}(h:p:=by
 rw[List.drop_succ_cons,List.drop_zero,List.take_append_of_le_length ah,List.take_of_length_le ah]):p:=h
theorem acm{p:Prop}(h:p:=by
 refine bg (v:=_) (hR _ _ _ 22 Z8 _ 8 rfl hRow.out Tryz.underlying22 rfl aH rfl) rfl ?_
 exact F2.out):p:=h
theorem acn{p:Prop}(h:p:=by
 rcases h2.2 with⟨hv,_⟩|⟨g',cap,cur,hv,_⟩
 ·rename_i h0
  exact⟨none,0,by rw[hv,h0]⟩
 exact⟨_,_,hv⟩):p:=h
theorem aco{p:Prop}(h:p:=by
 obtain rfl:i=25:=ah
 go_wp2
 go_ret
 exact⟨by rw[HP.out];rfl,B1.out.trans (HB.out.mono B1.out.size)⟩):p:=h
theorem acp{p:Prop}(h:p:=by
 rw[aT _ hj,if_neg ah,bi,List.getElem?_replicate,if_pos hj]
 rfl):p:=h
theorem acr{p:Prop}(h:p:=by
 unfold Cell.okWide at h
 simp only[ht] at h
 unfold Cell.ok at h
 simp only[ht] at h
 cases v<;>simp_all):p:=h
theorem acs{p:Prop}(h:p:=by
 have h:=Dw hp (show 0<25 from ah)
 have e:pkT.getD 0 0=2:=rfl
 unfold oz at h
 rw[e] at h
 omega):p:=h
theorem acu{p:Prop}(h:p:=by
 go_enter Tryz.func175,Tryz.ntmps175
 go_wp2
 go_ret
 exact⟨⟨_,rfl,Nm.nil w⟩,aA _ _⟩):p:=h
theorem acv{p:Prop}(h:p:=by
 go_enter Tryz.func162,Tryz.ntmps162
 go_wp2
 go_ret
 exact⟨by rw[FIN.out];simp,aA _ _⟩):p:=h
theorem acw{p:Prop}(h:p:=by
 have c80:=C80.out
 rw[if_pos ah,show((j:Int)*40).toNat=j*40 from ah,if_neg ah]):p:=h
theorem Vg{p:Prop}(h:p:=by
 go_wp2
 go_ret
 exact⟨by rw[HE2.out];rfl,rfl⟩):p:=h
theorem acx{p:Prop}(h:p:=by
 go_enter Tryz.func198,Tryz.ntmps198
 go_wp2
 go_ret3
 exact FB.out _ HE.out aB _ BA.out):p:=h
theorem acy{p:Prop}(h:p:=by
 rw[e1,e2]
 exact⟨k+1,c',_,ah,az,rfl,h1,INV.out.step hka h2 HXA.out HXB.out h3⟩):p:=h
theorem acz{p:Prop}(h:p:=by
 cases A with
 |none=>cases hk
 |some a=>
  injection hk with hk
  rw[<-hk]
  exact(h.lt a rfl).1):p:=h
theorem acA{p:Prop}(h:p:=by
 ·subst e;exact gQ _ _ _ ah
 rw[iw _ _ e];exact h j ah):p:=h
theorem acB{p:Prop}(h:p:=by
 have h1:=congrArg List.length hcs
 rw[gu,Dv,Dv] at h1
 omega):p:=h
theorem acC{p:Prop}(h:p:=by
 go_ret2
 exact⟨none,0,by rw[HBY.out,HER.out];rfl,by rw[HBY.out];exact OwnB.nil,B1.out⟩):p:=h
theorem acD{p:Prop}(h:p:=by
 congr 2
 simp only[bi,wR]
 rw[if_pos ah]):p:=h
theorem acE{p:Prop}(h:p:=by
 rw[bi,List.getElem?_eq_none (by have:=HB.out.len;omega)];rfl):p:=h
theorem acF{p:Prop}(h:p:=by
 go_enter Tryz.func180,Tryz.ntmps180
 go_wp2
 go_ret
 exact⟨by rw[HE.out];rfl,rfl⟩):p:=h
theorem acG{p:Prop}(h:p:=by
 rw[bi,List.getElem?_eq_none (by simp[iy];omega)];simp):p:=h
theorem acH{p:Prop}(h:p:=by
 by_cases hj:j<i
 ·rw[if_pos hj,if_pos ah]
 rw[if_neg hj,if_neg ah]):p:=h
end Go.Proofs.YthoiikkjjaldnaaGreatDoor
