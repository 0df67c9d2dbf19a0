/- Steps that several texts of the claim take, each said once. -/
import Derived.Test.YtaahbkbnfpajdaaGreatDoorRows
import Derived.WalkLawsBesides
import Derived.Deep.AppendLies
import Derived.Deep.WholeRow
import Derived.LaidMore
import Derived.Laws.AppendOwnNone
import Derived.BigQuiet
import Derived.Deep.RegionHeld3
import Derived.Laws.CopyOwn
import Derived.Shelf.Bits.Mul64
import Derived.Deep.DeepCutAuto
import Derived.StillTail
import Derived.Great.BuildSlice
import Derived.Lib.SmallJoins
namespace Go.Proofs.YtaahbkbnfpajdaaGreatDoor
set_option linter.all false
set_option maxRecDepth 100000
set_option maxHeartbeats 8000000
open Go.RowKit
variable{p:Prop}
theorem baqq(w:World)(o:Obj):Below w.heap.size w (w.alloc o):=(Below.refl _ _).alloc (Nat.le_refl _) o
theorem bY(w:World):Below w.heap.size w w.drew:=(Below.refl _ _).drew
theorem aH{u v x:World}(h:Below u.heap.size u v)(k:Below v.heap.size v x):Below u.heap.size u x:=h.trans (k.mono h.size)
theorem aI{P:Program}{md:Region.Mode}{ops:Array Oper}{Q:Exit->Act->World->Prop}{S:World->Prop}{oi:Oper}{fuel:Nat}{listed:Array Bool}{a:Act}{w:World}(i:Nat)(v:Value)(hi:ops[i]?=some oi)(hy:YieldsIf P ops S oi v a)(hS:S w)(h:wpAnyH P md ops Q S fuel (listed.setIfInBounds i true) (a.put oi.dst v) w)(Z:Region.noSelect ops=true:=by kernel_rfl)(hf:Region.free md ops listed i=true:=by kernel_rfl)(hr:(Region.ready md ops listed).contains i=true:=by kernel_rfl)(hQ:∀c a w,Q (.panic c) (a.put oi.dst v) w->Q (.panic c) a w:=by exact fun _ _ _ h=>h):wpAnyH P md ops Q S (fuel+1) listed a w:=wpAnyH_take hi Z hf hr hQ hy hS h
abbrev xH:=@Tryz.underlying142
abbrev qH:=@Tryz.underlying26
abbrev Bo:=@Tryz.underlying3
abbrev Bq:=@Tryz.underlying32
abbrev eX:=@Tryz.underlying34
abbrev ES:=@Tryz.underlying37
abbrev JU:=@Tryz.underlying41
abbrev yT:=@Tryz.underlying50
abbrev aU:=@Tryz.underlying52
abbrev iV:=@Tryz.underlying53
abbrev kG:=@Tryz.underlying55
abbrev Bv:=@Tryz.underlying57
abbrev bP:=@Tryz.underlying73
abbrev iO:=@Tryz.underlying76
abbrev yU:=@Tryz.underlying78
abbrev gu:=@Tryz.underlying81
abbrev Lz:=List Int
abbrev Oz:=Option Addr
abbrev Wd:=World
abbrev Cl:=Calls Tryz.prog
abbrev Bw(w:World):=Below w.heap.size w
abbrev ET:=@List.map_set
abbrev vN:=@List.mem_of_getElem?
abbrev xI:=@Nat.add_assoc
abbrev yV:=@List.getElem?_drop
abbrev jT:=@Nat.min_eq_left
abbrev xJ:=@Nat.mul_le_mul_right
abbrev ou:=@Nat.mul_one
abbrev JV:=@List.map_drop
abbrev EU:=@List.map_take
abbrev Bz:=@World.ownsRow_nil
abbrev EW:=@World.ownsRow.lt
abbrev BC:=@World.ownsRow.kept
abbrev fP:=@List.length_set
abbrev yX:=@Nat.lt_or_ge
abbrev yY:=@Array.getElem?_eq_none
abbrev ZI:=@heap_alloc_new
abbrev QT:=@Below.heap_alloc
abbrev lV:=@Below.heap_setCell
abbrev ZJ:=@List.getElem?_of_mem
abbrev EY:=@List.cons.injEq
abbrev QU:=@Value.slice.injEq
abbrev E8:=@and_true
abbrev Fa:=@Prod.mk.injEq
abbrev BG:=@World.block_lt_of_cell?
abbrev xK:=@List.mem_of_mem_take
abbrev iW:=@Or.inl
abbrev ZK:=@List.mem_append_right
abbrev QV:=@run_underlying
abbrev QW:=@Nat.eq_zero_or_pos
abbrev QY:=@List.eq_nil_of_length_eq_zero
abbrev mJ:=@info_parts
abbrev JW:=@wpList_plain
abbrev ut:=@List.map_toArray
abbrev uu:=@List.map_cons
abbrev uw:=@List.map_nil
abbrev JY:=@Array.all_eq_true_iff_forall_mem
abbrev vO:=@run_loadVar_row
abbrev QZ:=@setRow_heap
abbrev oz:=@setRow_other
abbrev Rh:=@wpList_store_row
abbrev JZ:=@Go.BigFrame.wpList_want
abbrev J9:=@wp_load_row
abbrev rP:=@List.mem_cons_self
abbrev yZ:=@or_false
abbrev Ri:=@List.mem_append
abbrev BI:=@List.getElem_mem
abbrev iy:=@List.getElem?_eq_none
abbrev Ko:=@List.mem_of_mem_drop
abbrev agZ:=@List.eq_of_mem_replicate
abbrev uy:=@Nat.pow_succ
abbrev lW:=@Nat.mul_add
abbrev jm:=@Nat.mul_comm
abbrev oU:=@Nat.mul_assoc
abbrev ZM:=@List.replicate_succ
abbrev kU:=@List.take_of_length_le
abbrev ZN:=@List.set_eq_take_append_cons_drop
abbrev Rk:=@List.mem_or_eq_of_mem_set
abbrev ZO:=@List.drop_eq_getElem_cons
abbrev BJ:=@Nat.mul_le_mul_left
abbrev jK:=@Nat.pow_le_pow_right
abbrev y8:=@List.ext_getElem?
abbrev uz:=@Option.map_some
abbrev Fe:=@Option.some.injEq
abbrev ZP:=@toList_madeCells_one
abbrev xM:=@wpList_make_full
abbrev qI:=@Nat.add_comm
abbrev Kq:=@beq_eq_false_iff_ne
abbrev qJ:=@bne_iff_ne
abbrev Kt:=@World.drewN_drewN
abbrev y9:=@World.ownsRow_lit
abbrev lX:=@And.intro
abbrev ZQ:=@Tryz.ntmps202
abbrev Rl:=@Nat.or_comm
abbrev vS:=@Nat.two_pow_pos
abbrev BK:=@Nat.pow_mul
abbrev Rn:=@Nat.add_sub_cancel
abbrev lD:=@Nat.pow_add
abbrev Ku:=@List.getElem?_set
abbrev BO:=@List.getElem?_replicate
abbrev Rt:=@Nat.div_lt_iff_lt_mul
abbrev oV:=@Nat.mod_lt
abbrev Ru:=@Nat.div_add_mod
abbrev zf:=@Nat.div_eq_of_lt
abbrev qK:=@Nat.zero_add
abbrev xN:=@Nat.div_div_eq_div_mul
abbrev BU:=@List.drop_of_length_le
abbrev Kv:=@Nat.add_zero
abbrev zg:=@Nat.mod_eq_of_lt
abbrev Kw:=@Nat.lt_of_le_of_lt
abbrev Ky:=@Nat.div_le_self
abbrev zh:=@Nat.mul_le_mul
abbrev xO:=@Int.neg_mul
abbrev Rw:=@Tryz.func158
abbrev Ry:=@Tryz.ntmps158
abbrev Kz:=@Below.cell
abbrev rQ:=@Below.drew
abbrev ZR:=@Tryz.ntmps166
abbrev rU:=@Int.pow_pos
abbrev ZT:=@Int.ediv_eq_iff_of_pos
abbrev ZU:=@Int.mul_ediv_add_emod
abbrev oC:=@Int.mul_comm
abbrev La:=@Below.trans
abbrev ZV:=@Tryz.ntmps159
abbrev vT:=@Int.one_mul
abbrev Lc:=@Int.mul_le_mul_of_nonneg_left
abbrev RH:=@Int.mul_one
abbrev ZW:=@Int.ediv_le_ediv
abbrev ZY:=@Int.ediv_le_self
abbrev ZZ:=@Tryz.ntmps193
abbrev BZ:=@Int.ediv_nonneg
abbrev uA:=@Int.toNat_natCast
abbrev RI:=@Int.tmod_eq_emod_of_nonneg
abbrev Ld:=@Int.tdiv_eq_ediv_of_nonneg
abbrev RJ:=@Int.natAbs_eq
abbrev Le:=@Int.neg_neg
abbrev RP:=@Int.mul_tdiv_add_tmod
abbrev Lh:=@Int.add_mul
abbrev aab:=@BitVec.toNat_and
abbrev Cb:=@BitVec.toNat_ofInt
abbrev aac:=@Nat.and_two_pow_sub_one_eq_mod
abbrev uB:=@Int.mul_le_mul_of_nonneg_right
abbrev aad:=@Tryz.ntmps182
abbrev RQ:=@Int.le_trans
abbrev Lj:=@Int.mul_add
abbrev vU:=@List.getElem?_range
abbrev RS:=@Int.le_total
abbrev qL:=@Int.mul_nonneg
abbrev RU:=@List.length_singleton
abbrev RV:=@List.set_append_right
abbrev Si:=@List.range_succ
abbrev zi:=@List.map_append
abbrev aae:=@Nat.add_sub_cancel_left
abbrev iI:=@congrArg
abbrev Sj:=@Nat.sub_self
abbrev aaf:=@List.length_nil
abbrev zk:=@List.size_toArray
abbrev xP:=@Array.getElem?_eq_getElem
abbrev kV:=@decide_eq_false
abbrev kH:=@decide_eq_true
abbrev aag:=@Tryz.ntmps115
abbrev Ff:=@Int.lt_or_le
abbrev aah:=@Tryz.ntmps139
abbrev aai:=@wp_region_noPanic
abbrev aaj:=@wp_region_held_drew
abbrev Ll:=@Tryz.func109
abbrev Lm:=@Tryz.ntmps109
abbrev Cc:=@Tryz.func199
abbrev Ce:=@Tryz.ntmps199
abbrev aak:=@decide_eq_true_eq
abbrev oW:=@Calls.quiet_of_same
abbrev Sl:=@Tryz.func74
abbrev Sr:=@Tryz.ntmps74
abbrev Lp:=@Tryz.func116
abbrev Lr:=@Tryz.ntmps116
abbrev Su:=@List.set_set
abbrev Sv:=@Tryz.func107
abbrev Sz:=@Tryz.ntmps107
abbrev Cf:=@Nat.testBit_mod_two_pow
abbrev Ls:=@Nat.testBit_div_two_pow
abbrev Ci:=@Nat.eq_of_testBit_eq
abbrev Lt:=@Nat.testBit_or
abbrev Cj:=@Nat.testBit_shiftLeft
abbrev SK:=@Nat.testBit_shiftRight
abbrev Lu:=@Bool.true_and
abbrev aal:=@Bool.false_and
abbrev aam:=@BitVec.toNat_or
abbrev Tc:=@IntKind.wrap_u8
abbrev vV:=@List.mem_cons_of_mem
abbrev aan:=@List.flatMap_append
abbrev zl:=@Classical.byContradiction
abbrev Td:=@Nat.shiftRight_eq_div_pow
abbrev Fg:=@Nat.shiftLeft_eq
abbrev aao:=@Nat.shiftLeft_add_eq_or_of_lt
abbrev aap:=@Option.getD_some
abbrev rV:=@Bool.and_eq_true
abbrev aaq:=@Tryz.ntmps173
abbrev LJ:=@Tryz.func112
abbrev LQ:=@Tryz.ntmps112
abbrev Tf:=@List.length_range
abbrev aar:=@Int.neg_one_mul
abbrev Fh:=@Int.mul_assoc
abbrev ag0:=@Int.mul_nonneg_of_nonpos_of_nonpos
abbrev aas:=@Tryz.ntmps120
abbrev aat:=@Tryz.ntmps114
abbrev aau:=@Tryz.ntmps119
abbrev Ti:=@Tryz.func66
abbrev Tj:=@Tryz.ntmps66
abbrev aav:=@Tryz.ntmps110
abbrev Tm:=@Tryz.func60
abbrev Tn:=@Tryz.ntmps60
abbrev Tt:=@Tryz.func95
abbrev Tv:=@Tryz.ntmps95
abbrev Tz:=@Int.le_of_lt
abbrev aaw:=@List.getElem?_set_self
abbrev ag1:=@List.take_append_of_le_length
abbrev LX:=@getD_set_ne
abbrev aax:=@Bool.or_eq_true
abbrev Fj:=@ready_mono
abbrev ag2:=@Array.setIfInBounds_comm
abbrev aay:=@Region.noSelect_spec
abbrev aaz:=@Region.free_spec
abbrev kX:=@Exists.intro
abbrev uC:=@wpQuiet_nil
abbrev Cm:=@Nat.le_succ
abbrev TA:=@Tryz.func69
abbrev TB:=@Tryz.ntmps69
abbrev ag3:=@World.cell?_setCell_far
abbrev ag4:=@Bool.eq_false_or_eq_true
abbrev zn:=@Int.zero_add
abbrev aaA:=@Tryz.ntmps204
abbrev xQ:=@wp_region_held
abbrev pY:=@yieldsIf_load_mid
abbrev aaB:=@List.getElem_of_mem
abbrev aaC:=@wpList_copy_own
abbrev uD:=@Tryz.func6
abbrev uG:=@Tryz.ntmps6
abbrev Fp:=@Tryz.func8
abbrev Fq:=@Tryz.ntmps8
abbrev L9:=@Nat.add_right_cancel
abbrev TC:=@Tryz.func113
abbrev TD:=@Tryz.ntmps113
abbrev zo:=@Below.setCell
abbrev Fv:=@Nat.zero_le
def Hy(p:Prop):Prop:=p
theorem af(h:p):Hy p:=h
theorem Hy.o(h:Hy p):p:=h
theorem aj(p:Prop)(h:p):Hy p:=h
theorem ak{α:Sort _}(a:α):∃b,b=a:=⟨a,rfl⟩
abbrev ax:=@Nat.le_refl
abbrev aP:=@Below.refl
abbrev mM:=@IntKind.wrap_i64
abbrev bK:=@List.getD_eq_getElem?_getD
abbrev bT:=@World.size_alloc
abbrev gI:=@Int.eq_ofNat_of_zero_le
abbrev kY:=@Nat.le_of_lt
abbrev dL:=@Nat.le_trans
abbrev je:=@Nat.lt_of_lt_of_le
abbrev dN:=@List.length_append
abbrev kJ:=@List.length_drop
abbrev dR:=@List.length_take
abbrev zq:=@List.length_map
abbrev rW:=@List.length_replicate
abbrev xR:=@List.length_cons
abbrev aX:=@bodyPost_ret
abbrev bZ:=@wpList_load_mid
abbrev iY:=@wpList_store_mid
abbrev aru:=@wpAnyH_take
abbrev di:=@wpAnyH_ready
abbrev bU:=@AllReadyH.cons
abbrev dA:=@AllReadyH.nil
abbrev dB:=@wpQuiet_step
abbrev mO:=@wpAnyH_done
abbrev vX:=@List.take_append_drop
abbrev oD:=@List.getElem?_append_left
abbrev uH:=@List.getElem?_append_right
abbrev jU:=@List.getElem?_eq_getElem
abbrev oZ:=@List.append_assoc
abbrev xU:=@List.append_nil
abbrev CE:=@List.nil_append
abbrev fQ:=@Option.some.inj
abbrev xW:=@List.getElem?_take
abbrev qg:=@List.getElem?_map
abbrev o6:=@List.getElem?_toArray
abbrev uJ:=@List.getElem?_cons_zero
abbrev uK:=@List.getElem?_cons_succ
abbrev mP:=@Nat.lt_succ_self
abbrev bg:=@List.setIfInBounds_toArray
abbrev bD:=@List.set_cons_zero
abbrev bF:=@List.set_cons_succ
abbrev bG:=@List.getElem_toArray
abbrev bH:=@List.getElem_cons_succ
abbrev bI:=@List.getElem_cons_zero
abbrev ng:=@Sem.run_bind
abbrev uM:=@Sem.run_pure
abbrev qh:=@Result.andThen_ok
abbrev lF:=@wp_store_mid
abbrev zt:=@List.mem_cons
abbrev zu:=@List.not_mem_nil
abbrev lM:=@List.all_eq_true
abbrev aaD:=@List.getD_cons_succ
theorem ah(h:p:=by omega):p:=h
theorem eY(h:p:=by first|with_reducible exact T.o|with_reducible exact T.o.alloc _|with_reducible exact T.o.drew|with_reducible exact(T.o.alloc _).drew|with_reducible exact(T.o.alloc _).alloc _|with_reducible exact((T.o.alloc _).alloc _).drew|with_reducible exact((T.o.alloc _).alloc _).alloc _|with_reducible exact(((T.o.alloc _).alloc _).alloc _).drew):p:=h
theorem aB(h:p:=by kernel_rfl):p:=h
theorem zx(h:p:=by repeat (first|(with_reducible refine xB ?_ ?_;all_goals (first|rfl|(simp;done)))|with_reducible refine rH _ ?_|with_reducible refine Qq ?_|(with_reducible refine Hop.cell O.o ?_ ?_;(next=>(first|(intro a h;have h7:=c.o a h;first|omega|(dsimp only;omega)|(simp;omega))|(refine yj I.o ?_ ?_;(next=>(intro a h;have h7:=HA.o a h;first|omega|(dsimp only;omega)|(simp;omega)));(next=>first|omega|(dsimp only;omega)|(simp;done)|(simp;omega))))))|(with_reducible refine Hop.cell L1.o ?_ ?_;(next=>(intro a h;have h7:=HA.o a h;first|omega|(dsimp only;omega)|(simp;omega)))))):p:=h
theorem oG(h:p:=by first|with_reducible exact g.o|with_reducible exact g.o.alloc _|with_reducible exact g.o.drew|with_reducible exact(g.o.alloc _).drew|with_reducible exact(g.o.alloc _).alloc _|with_reducible exact((g.o.alloc _).alloc _).drew):p:=h
theorem aV(h:p:=by rw[mM];omega):p:=h
theorem aC(h:p:=by simp;omega):p:=h
theorem ay(h:p:=by simp):p:=h
theorem aA(h:p:=by decide):p:=h
theorem az(h:p:=by rfl):p:=h
theorem aT(h:p:=by go_num):p:=h
theorem jf(h:p:=by go_simp):p:=h
theorem ni(h:p:=by show w.heap.size+1≠w.heap.size+1+1;omega):p:=h
theorem gJ(h:p:=by first|decide|simp):p:=h
theorem iT(h:p:=by rw[HN.o];exact hlt):p:=h
theorem zy(h:p:=by have:=H.o.size;show _<=(wr.alloc _).heap.size;rw[bT];omega):p:=h
theorem iZ(h:p:=by have:=j.o;omega):p:=h
theorem jg(h:p:=by unfold maxLen;omega):p:=h
theorem qM(h:p:=by show w.heap.size<=w.heap.size+1+1;omega):p:=h
theorem jV(h:p:=by have:=GL.o;omega):p:=h
theorem kK(h:p:=by have:=HN.o;omega):p:=h
theorem ja(h:p:=by simpa using h1):p:=h
theorem vY(h:p:=by show w.heap.size<=w.heap.size+1;omega):p:=h
theorem xX(h:p:=by first|omega|(simp;done)|(simp;omega)):p:=h
theorem Fz(h:p:=by rw[En.size _ K2.o];exact EB.there Z3.o ig):p:=h
theorem vZ(h:p:=by unfold plc;rw[hq];push_cast;rfl):p:=h
theorem wu(h:p:=by rw[dX,QL.o];exact aJ):p:=h
theorem aaE(h:p:=by rw[d];unfold iD;have:=XQ a;have:=XQ b;have:=XQ c;split<;>split<;>split<;>omega):p:=h
theorem uN(h:p:=by rw[IntKind.wrap_u64];omega):p:=h
theorem Mc(h:p:=by rw[Z];exact baqq _ _):p:=h
theorem Md(h:p:=by rw[hW2];exact baqq _ _):p:=h
theorem TI(h:p:=by unfold aL;rw[if_pos HE.o];exact(al9 HY.o.1 HY.o.2).symm):p:=h
theorem qN(h:p:=by rw[HL.o];exact hlt):p:=h
theorem zA(h:p:=by rw[En.size _ K2.o];exact xu):p:=h
theorem aaF(h:p:=by rw[Bh fun p hp=>h.2 p (xK hp),dR];congr 1;omega):p:=h
theorem FC(h:p:=by rw[HQ.o];unfold frQ;rw[<-P0.o];decide):p:=h
theorem uO(h:p:=by rw[HY.o.1];exact hlt):p:=h
theorem FD(h:p:=by rw[dX,QL.o];exact apb Z4.o):p:=h
theorem ww(h:p:=by rw[<-HX.o];exact z):p:=h
theorem FH(h:p:=by show w.heap.size≠w.heap.size+1;omega):p:=h
theorem zB(h:p:=by intro e;subst e;exact hn rfl):p:=h
theorem qi(h:p:=by rw[HL.o];omega):p:=h
theorem CJ(h:p:=by rw[Mm.size _ K2.o];exact sS):p:=h
theorem TK(h:p:=by rw[Kq];exact fun h=>vg z h.symm):p:=h
theorem uP(h:p:=by rw[HA.o];exact hlt):p:=h
theorem CO(h:p:=by rw[GE.o];exact ax _):p:=h
theorem aaG(h:p:=by have:=t.o;have:=SW.o;have:=Z3.o;have:=m.o;have:=f.o;omega):p:=h
theorem uQ(h:p:=by simp[World.setCell]):p:=h
theorem uS(h:p:=by rw[DL.o];exact E):p:=h
theorem TM(h:p:=by rw[Mm.size _ K2.o];exact MB.there Z3.o df):p:=h
theorem Me(h:p:=by show w.heap.size≠w.heap.size+1+1;omega):p:=h
theorem uT(h:p:=by have:=P.o;omega):p:=h
theorem TP(h:p:=by unfold fB;exact Ld fb.1):p:=h
theorem rX(h:p:=by have:=h.lt;omega):p:=h
theorem aaH(h:p:=by rw[hV];exact⟨S1.o.below BB,IB.stored w1 52 Z8 now,B.o⟩):p:=h
theorem wz(h:p:=by have:=y.o;omega):p:=h
theorem CP(h:p:=by have:=HL.o.2.1 a ha;omega):p:=h
theorem CQ(h:p:=by have:=HL.o.2.2 a ha;omega):p:=h
theorem uU(h:p:=by cases d<;>exact h):p:=h
theorem TR(h:p:=by rw[qJ];exact fun h=>vg z h.symm):p:=h
theorem qO(h:p:=by rw[HF.o];rfl):p:=h
theorem wE(h:p:=by simp[World.setRow]):p:=h
theorem wF(h:p:=by have:=HX.o;omega):p:=h
theorem FI(h:p:=by rw[bf,k.e];exact mY):p:=h
theorem rY(h:p:=by simpa using heq):p:=h
theorem mQ(h:p:=by assumption):p:=h
theorem TU(h:p:=by have:=H.o.size;rw[bT];omega):p:=h
theorem FK(h:p:=by rw[Kq];omega):p:=h
theorem wG(h:p:=by rw[HE.o];decide):p:=h
theorem ag5(h:p:=by rw[h1,show(foL (chR a) (blL (chI m a l) (chS m a l) 4096)).length=40 from AU ha]):p:=h
theorem rZ(h:p:=by simpa using h0):p:=h
theorem sD(h:p:=by simpa using hy):p:=h
theorem ag6(h:p:=by rw[bK,jU hi];exact BI hi):p:=h
theorem FN(h:p:=by rw[hV];exact S2.o.below BB):p:=h
theorem MF(h:p:=by rw[dX,KL.o];exact mY):p:=h
theorem xY(h:p:=by have:=SW.o;omega):p:=h
theorem MG(h:p:=by have:=HZ.o;have:=b.o;omega):p:=h
theorem TV(h:p:=by unfold jh;rw[if_pos HN.o,gt,gh];rfl):p:=h
theorem zC(h:p:=by rw[l.o,if_pos hy]):p:=h
theorem zD(h:p:=by rw[l.o,if_neg hy]):p:=h
theorem aaI(h:p:=by unfold Mm.ag Mm.cs Mm.tl;simp only[oZ]):p:=h
theorem aaJ(h:p:=by rw[hW4];exact baqq _ _):p:=h
theorem FP(h:p:=by unfold iM;split<;>omega):p:=h
theorem ag7(h:p:=by rw[h1,show(foL (chR a) (dU m.e (chK m a l).1)).length=40 from YD g ha]):p:=h
theorem TZ(h:p:=by unfold eCs;simp only[oZ]):p:=h
theorem FT(h:p:=by rw[dV];exact M):p:=h
theorem uV(h:p:=by simpa using hp):p:=h
theorem CS(h:p:=by rw[dV];omega):p:=h
theorem Ua(h:p:=by unfold fB;rw[mM];omega):p:=h
theorem Ub(h:p:=by show w.heap.size+1≠w.heap.size;omega):p:=h
theorem Uc(h:p:=by rw[hmk];exact KK.o 2 (ax _)):p:=h
theorem ag8(h:p:=by have:=HN.o;have:=e.o;have:=l.o;have:=y.o;have:=f.o.2;omega):p:=h
theorem MH(h:p:=by rw[HA.o];exact ax _):p:=h
theorem aaK(h:p:=by rw[HN.o,C.o];unfold iC;rw[OJ _ hz hj]):p:=h
theorem ag9(h:p:=by rw[bf,show((u.drop 2).take 4).length=4 from OQ hu.l];exact JE):p:=h
theorem Ud(h:p:=by have:=L.o.l1;have:=L.o.l2;omega):p:=h
theorem aha(h:p:=by rw[h1,YF ha,show(tgL (ji m a l) (chR a)).length=40 from PX ha]):p:=h
theorem Ue(h:p:=by unfold ug;rw[if_pos XL.o,h];rfl):p:=h
theorem Uf(h:p:=by have:=y.o;have:=R2.o.F.hl;omega):p:=h
theorem CU(h:p:=by rw[HE.o,HZ.o];rfl):p:=h
theorem MI(h:p:=by have:=fQ x;omega):p:=h
theorem zF(h:p:=by cases A<;>exact h3):p:=h
theorem aaL(h:p:=by rw[hV];exact aH B3.o BB):p:=h
theorem wH(h:p:=by simpa using hn):p:=h
theorem wI(h:p:=by simpa using q1):p:=h
theorem CY(h:p:=by have:=HL.o.1;omega):p:=h
theorem ahb(h:p:=by rw[hV];exact⟨K19.o.below BB,IB.stored X 52 Z8 now,K19.o.lt⟩):p:=h
theorem FU(h:p:=by rw[sS,mk.len KO.o]):p:=h
theorem qP(h:p:=by simp[au]):p:=h
theorem wJ(h:p:=by rw[D];omega):p:=h
theorem MJ(h:p:=by rw[<-HX.o];exact .inl b1):p:=h
theorem MK(h:p:=by rw[<-HX.o];exact .inr b2):p:=h
theorem MN(h:p:=by unfold sU;intro h;omega):p:=h
theorem wK(h:p:=by decide+kernel):p:=h
theorem zG(h:p:=by rw[C.o];omega):p:=h
theorem ahc(h:p:=by rw[hx,EX.o,dN,kJ,K.o.x,OL.o]):p:=h
theorem zH(h:p:=by rw[PL.o];omega):p:=h
theorem ahd(h:p:=by rw[hpA,xR,dN,afl,QL.o];omega):p:=h
theorem zI(h:p:=by rw[j.o]<;>rfl):p:=h
theorem FV(h:p:=by simpa using I.symm):p:=h
theorem xZ(h:p:=by simpa using hl):p:=h
theorem x8(h:p:=by simpa using he):p:=h
theorem FW(h:p:=by have:=a.o.lt;omega):p:=h
theorem aaM(h:p:=by show w.heap.size+1+1≠w.heap.size+1;omega):p:=h
theorem ahe(h:p:=by unfold En.ag En.cs;simp only[oZ,xU]):p:=h
theorem F5(h:p:=by have:=ST.o.lk;omega):p:=h
theorem F6(h:p:=by have:=L.o.l1;omega):p:=h
theorem Ug(h:p:=by rw[D];exact Bc QL.o hj):p:=h
theorem Gf(h:p:=by rw[HA.o.len];omega):p:=h
theorem Uh(h:p:=by first|exact ax _|simp):p:=h
theorem Ui(h:p:=by rw[HL.o];exact ax _):p:=h
theorem Uj(h:p:=by unfold aL;rw[HF.o,if_neg h0]):p:=h
theorem sF(h:p:=by rw[j.o]):p:=h
theorem ahf(h:p:=by rw[h1,(YA ha).2,show(nV a 40).length=40 from GL.o]):p:=h
theorem Uk(h:p:=by rw[hmk];exact aok K0.o j):p:=h
theorem ahg(h:p:=by first|rfl|(show Value.int .i64 (((bl:Int)+7)/8)=_;rw[f])):p:=h
theorem MO(h:p:=by simp[Region.wanted,hgd]):p:=h
theorem aaN(h:p:=by unfold s16 lim;(repeat' split)<;>omega):p:=h
theorem Gg(h:p:=by have:=z.o;omega):p:=h
theorem Gh(h:p:=by have:=P.o;omega):p:=h
theorem Ul(h:p:=by unfold Oi;simpa using hb):p:=h
theorem zJ(h:p:=by simpa using h2):p:=h
theorem Um(h:p:=by rw[hV];exact S8.o.below BB):p:=h
theorem ahh(h:p:=by have h:=EB.M J14.o.L.E V.o;rw[HM3.o] at h;exact h):p:=h
theorem ahi(h:p:=by rw[dX,pG k.e (tV hu m)];exact mY):p:=h
theorem MP(h:p:=by rw[HF.o.l];exact hlt):p:=h
theorem Gi(h:p:=by rw[hi,dX,hl]):p:=h
theorem ahj(h:p:=by intro z;simp[IntKind.wrap,IntKind.signed,IntKind.bits]):p:=h
theorem Un(h:p:=by first|exact h|(simp;omega)):p:=h
theorem Uo(h:p:=by have:=s.l1;have:=s.l2;omega):p:=h
theorem Gj(h:p:=by have:=LZ.o;omega):p:=h
theorem ahk(h:p:=by rw[apY hlt];unfold eCs;simp only[oZ]):p:=h
theorem ahl(h:p:=by rw[dX,Kn.o.p];exact C11.o.F.A.thereP j.o):p:=h
theorem ahm(h:p:=by rw[hV];exact⟨S5.o.below BB,IB.stored w5 73 Z9 a⟩):p:=h
theorem ahn(h:p:=by rw[Kq];exact fun h=>vg hx h.symm):p:=h
theorem aho(h:p:=by rw[Kq];exact fun h=>vg hy h.symm):p:=h
theorem aaO(h:p:=by rw[hV];exact IB.stored w1 52 Z8 now):p:=h
theorem CZ(h:p:=by rw[HPS.o];rfl):p:=h
theorem aaP(h:p:=by rw[bf,K2.o.e];exact mY):p:=h
theorem Ur(h:p:=by rw[dR];omega):p:=h
theorem Us(h:p:=by unfold jQ;rw[HE.o];rfl):p:=h
theorem Ut(h:p:=by unfold lg;rw[HE.o];rfl):p:=h
theorem ahp(h:p:=by rw[dX,NL.o];exact L.o.F.A.thereR i.o):p:=h
theorem aaQ(h:p:=by rw[dR,b.o];omega):p:=h
theorem ahq(h:p:=by rw[h1,sQ AO.1 AO.2,PW];rfl):p:=h
theorem aaR(h:p:=by rw[EN.o];exact(V.o.ex KL.o)):p:=h
theorem ahr(h:p:=by simp only[dN,bf,k.r,k.p,k.e]):p:=h
theorem Uu(h:p:=by unfold qU;simpa using h):p:=h
theorem Uw(h:p:=by unfold atB okI;simp;omega):p:=h
theorem Ux(h:p:=by rw[Tc];omega):p:=h
theorem Uy(h:p:=by have:=Blk.lt Z2.o;omega):p:=h
theorem Uz(h:p:=by rw[HPS.o];exact HPF.o):p:=h
theorem ahs(h:p:=by unfold dsC;rw[if_neg h0,if_pos h1];exact if_neg h2):p:=h
theorem UA(h:p:=by rw[aJ,bf,NL.o]):p:=h
theorem MQ(h:p:=by have:=LT20.o;omega):p:=h
theorem aaS(h:p:=by rw[vw];exact MB.new w aZ):p:=h
theorem x9(h:p:=by rw[g.o]):p:=h
theorem aaT(h:p:=by rw[hV];exact Blk.below' R3.o BB):p:=h
theorem qj(h:p:=by cases h):p:=h
theorem aht(h:p:=by rw[zk,bf,NL.o];exact aJ):p:=h
theorem aaU(h:p:=by injection hv with h;exact h.symm):p:=h
theorem Gl(h:p:=by rw[HN.o];omega):p:=h
theorem aaV(h:p:=by unfold dO;rw[if_pos (.inl h1)]):p:=h
theorem Gm(h:p:=by simpa using hpos):p:=h
theorem aaW(h:p:=by unfold Addr.add;split<;>simp_all):p:=h
theorem Gn(h:p:=by have:=h.gl;omega):p:=h
theorem UB(h:p:=by rw[<-hx];simp;omega):p:=h
theorem UC(h:p:=by rw[hwas];exact K0.o.r):p:=h
theorem UD(h:p:=by rw[m.o.1];exact hlt):p:=h
theorem Dc(h:p:=by rw[J,hb];rfl):p:=h
theorem aaX(h:p:=by cases A<;>simp[Value.ownBlock]):p:=h
theorem MR(h:p:=by rw[HY.o.1];omega):p:=h
theorem MS(h:p:=by rw[qC];omega):p:=h
theorem MV(h:p:=by rw[uh];omega):p:=h
theorem aaY(h:p:=by have:=fQ hx;omega):p:=h
theorem MX(h:p:=by have:=NY.o;omega):p:=h
theorem UF(h:p:=by simp[Act.eval,Act.put]):p:=h
theorem UG(h:p:=by unfold ku;simp;omega):p:=h
theorem UH(h:p:=by rw[vC];exact a):p:=h
theorem UI(h:p:=by unfold frN;split<;>rfl):p:=h
theorem UJ(h:p:=by rw[ry];exact hlk):p:=h
theorem UK(h:p:=by rw[pW];exact hlk):p:=h
theorem zK(h:p:=by rw[hkd];rfl):p:=h
theorem UM(h:p:=by rw[hmk,aoj,HWAS.o]):p:=h
theorem UN(h:p:=by rw[sS,m.len KM.o]):p:=h
theorem Gp(h:p:=by simpa using hx):p:=h
theorem aaZ(h:p:=by unfold mxB;rw[hb];simp;omega):p:=h
theorem aa0(h:p:=by show w.heap.size+1≠g;omega):p:=h
theorem Gq(h:p:=by rw[C.o];rfl):p:=h
theorem UQ(h:p:=by unfold atV;rw[hb];rfl):p:=h
theorem Gs(h:p:=by simpa using G):p:=h
theorem UR(h:p:=by have:=L.o.lt;omega):p:=h
theorem aa1(h:p:=by rw[hV];exact S1.o.below BB):p:=h
theorem UT(h:p:=by have h:=hW.f1;go_simp):p:=h
theorem aa2(h:p:=by rw[xU];exact h):p:=h
theorem aa3(h:p:=by have:=s.l0;have:=s.lh;omega):p:=h
theorem UV(h:p:=by rw[aE,if_pos HE.o]):p:=h
theorem ark(h:p:=by rw[HE1.o];exact h0):p:=h
theorem UW(h:p:=by rw[h] at hr;cases hr):p:=h
theorem MZ(h:p:=by have:=s.l1;omega):p:=h
theorem aa4(h:p:=by rw[DL.o];exact hlt):p:=h
theorem aa5(h:p:=by show w.heap.size≠g;omega):p:=h
theorem aa6(h:p:=by unfold pO;split<;>omega):p:=h
theorem aa7(h:p:=by unfold mF;split<;>omega):p:=h
theorem Gt(h:p:=by rw[hV];simp):p:=h
theorem UX(h:p:=by have:=d.o;omega):p:=h
theorem aa8(h:p:=by rw[HA.o.len,H.o.len]):p:=h
theorem aa9(h:p:=by show w.heap.size<=g;omega):p:=h
theorem Na(h:p:=by rw[D.o];rfl):p:=h
theorem aba(h:p:=by rw[bC,bf,AL.o]):p:=h
theorem UZ(h:p:=by rw[HM.o.1];omega):p:=h
theorem U0(h:p:=by rw[sS,m.size k]):p:=h
theorem U5(h:p:=by rw[WN];omega):p:=h
theorem U7(h:p:=by have:=HQ.o;omega):p:=h
theorem Gu(h:p:=by simp<;>omega):p:=h
theorem U8(h:p:=by rw[Yc,HN.o]):p:=h
theorem U9(h:p:=by have:=l.o;omega):p:=h
theorem Va(h:p:=by have h:=hW;go_simp):p:=h
theorem Vb(h:p:=by have:=d.o;omega):p:=h
theorem Nb(h:p:=by simpa using hb):p:=h
theorem Nc(h:p:=by simpa using hi):p:=h
theorem Nh(h:p:=by rw[LO.o];rfl):p:=h
theorem Vd(h:p:=by simpa using h.len):p:=h
theorem Ve(h:p:=by rw[z.o,G];rfl):p:=h
theorem Vf(h:p:=by rw[ER.o,G];rfl):p:=h
theorem Vg(h:p:=by rw[ER.o,T];rfl):p:=h
theorem Vh(h:p:=by rw[ER.o,hc];rfl):p:=h
theorem Gv(h:p:=by rw[D];rfl):p:=h
theorem Vj(h:p:=by rw[J,hb];decide):p:=h
theorem Vk(h:p:=by rw[HA.o];omega):p:=h
theorem Vl(h:p:=by have:=s.lt;omega):p:=h
theorem Vm(h:p:=by have:=S.lt;omega):p:=h
theorem Vo(h:p:=by have:=s.l2;omega):p:=h
theorem Vp(h:p:=by rw[OL.o];omega):p:=h
theorem Vq(h:p:=by rw[ZL.o];omega):p:=h
theorem Vr(h:p:=by rw[P.o];omega):p:=h
theorem Gw(h:p:=by simp[iD]):p:=h
theorem Df(h:p:=by rw[<-HX.o];exact sO ah ah):p:=h
theorem Vs(h:p:=by rw[M0.o];unfold fr0;rw[<-P0.o,if_neg aA]):p:=h
theorem Vt(h:p:=by rw[<-HE1.o];exact al7 ark 8 ah):p:=h
theorem Vu(h:p:=by unfold ed;rw[if_neg I,if_neg ah]):p:=h
theorem ahu(h:p:=by rw[HE.o,show okD d=false from jb (i:=i) aa4 UB];rfl):p:=h
theorem ahv(h:p:=by rw[aej ah];decide):p:=h
theorem Vw(h:p:=by rw[HX.o];exact alz f ah):p:=h
theorem ahw(h:p:=by rw[bK,iy ah];rfl):p:=h
theorem ahx(h:p:=by rw[hkd,hrr];exact HPP.o.trans (afm (kd:=1) aA).symm):p:=h
theorem ahy(h:p:=by rw[hkd,hrr];exact HPP.o.trans (afm (kd:=0) aA).symm):p:=h
theorem arl(h:p:=by rw[ac7 ah];decide):p:=h
theorem abb(h:p:=by unfold fD;rw[if_pos ah];rfl):p:=h
theorem Vx(h:p:=by rw[Ol arl,ac7 ah];exact NewSE.none_ hB):p:=h
theorem Vy(h:p:=by rw[Jl ahv,aej ah];exact NewSE.none_ hB):p:=h
theorem abd{p:Prop}(h:p:=by
 clear hHeld
 go_simp
 refine hK.out _ _ ⟨C,b⟩ (fun hHeld=>?_)
 clear hK K
 try simp only[bG,bI,bH,Act.put,bg,bD,bF]
 refine di (rs:=[6]) aB ay ?_
 refine bU rfl (fun K hK=>?_) dA
 clear hHeld
 go_simp
 go_at_call 90
 (with_reducible refine(KF.o _).mono ?_)
 rintro e' w' ⟨rfl,rfl⟩
 refine hK.out _ _ ⟨C,b⟩ (fun hHeld=>?_)
 clear hK K
 try simp only[bG,bI,bH,Act.put,bg,bD,bF]
 refine aI 7 ?_ rfl (iW ⟨az,?_⟩) hHeld ?_
 rotate_left
 ·intro w a;obtain⟨M,O⟩:=a;go_simp
  try with_reducible rfl
 try simp only[bG,bI,bH,Act.put,bg,bD,bF]
 refine di (rs:=[8]) aB ay ?_
 refine bU rfl (fun K hK=>?_) dA
 clear hHeld
 go_simp
 go_at_call 89
 (with_reducible refine(KN.o N.drew).mono ?_)
 rintro e' w3 ⟨A3,c3,rfl,hO,hB⟩;have y:Ms w w3 J:=n.o.drew.below hB;have d96:w3.cell? ⟨w.heap.size,96,none⟩=some (.int .i64 J.ga):=y.A.cga K2.o;have F:w3.cell? ⟨w.heap.size,99,none⟩=some (.int .i64 J.er):=y.A.cer K2.o;have d100:w3.cell? ⟨w.heap.size,100,none⟩=some (.int .i64 J.se):=y.A.cse K2.o;have U:w3.frozen? ⟨w.heap.size,100,none⟩=false:=MB.frozen y.A 100;have l:Ms w (w3.setCell ⟨w.heap.size,100,none⟩ (.int .i64 (nzE J.se 40))) {J with se:=nzE J.se 40}:=y.se K2.o (nzE J.se 40);have h96:(w3.setCell ⟨w.heap.size,100,none⟩ (.int .i64 (nzE J.se 40))).cell? ⟨w.heap.size,96,none⟩=some (.int .i64 J.ga):=l.A.cga (K2.o.se _);have h99:(w3.setCell ⟨w.heap.size,100,none⟩ (.int .i64 (nzE J.se 40))).cell? ⟨w.heap.size,99,none⟩=some (.int .i64 J.er):=l.A.cer (K2.o.se _);have l:=af l;have LT3:=af y.lt;have O3:=af hO;clear hO hB
 refine hK.out _ _ ⟨d96,F⟩ (fun hHeld=>?_)
 clear hK K
 try simp only[bG,bI,bH,Act.put,bg,bD,bF]
 refine aI 9 ?_ rfl (iW ⟨az,?_⟩) hHeld ?_
 rotate_left
 ·intro w a;obtain⟨M,O⟩:=a;go_simp
  try with_reducible rfl
 try simp only[bG,bI,bH,Act.put,bg,bD,bF]
 refine aI 10 ?_ rfl (iW ⟨az,?_⟩) hHeld ?_
 rotate_left
 ·intro w a;obtain⟨M,O⟩:=a;go_simp
  try with_reducible rfl
 try simp only[bG,bI,bH,Act.put,bg,bD,bF]
 refine aI 11 ?_ rfl (iW ⟨az,?_⟩) hHeld ?_
 rotate_left
 ·intro w a;obtain⟨M,O⟩:=a;go_simp
  try with_reducible rfl
 try simp only[bG,bI,bH,Act.put,bg,bD,bF]
 refine aI 12 ?_ rfl (iW ⟨az,?_⟩) hHeld ?_
 rotate_left
 ·intro w a;obtain⟨M,O⟩:=a;go_simp
  try with_reducible rfl
 try simp only[bG,bI,bH,Act.put,bg,bD,bF]
 refine di (rs:=[13]) aB ay ?_
 refine bU rfl (fun K hK=>?_) dA
 clear hHeld
 go_simp
 refine hK.out _ _ ⟨h96,h99⟩ (fun hHeld=>?_)
 clear hK K
 try simp only[bG,bI,bH,Act.put,bg,bD,bF]
 refine aI 14 ?_ rfl (iW ⟨az,?_⟩) hHeld ?_
 rotate_left
 ·intro w a;obtain⟨M,O⟩:=a;go_simp
  try with_reducible rfl
 try simp only[bG,bI,bH,Act.put,bg,bD,bF]
 refine mO aB ?_ _
 clear hHeld
 refine NoPanic.normal ?_
 have O4:=aj (Own (w3.setCell ⟨w.heap.size,100,none⟩ (.int .i64 (nzE J.se 40))) (w.heap.size+2) A3 c3 (nzL J.se z 40)) (Own.setC (O3.o.more (base':=w.heap.size+2) (by have:=n.o.lt;exact this)) ah 100 _)
 obtain⟨W4,hW4⟩:=ak (w3.setCell ⟨w.heap.size,100,none⟩ (.int .i64 (nzE J.se 40)))
 clear C b L d96 F d100 h96 h99 U hq hwz n KN KF
 rw[<-hW4] at l O4|-
 clear hW4 y O3
 have V:=af (K2.o.se (nzE J.se 40))
 have rg4:W4.rangeAt w.heap.size 16 (au J.e):=l.o.A.E V.o
 have c98:W4.cell? ⟨w.heap.size,98,none⟩=some (.int .i64 J.la):=l.o.A.cla V.o
 have c97:W4.cell? ⟨w.heap.size,97,none⟩=some (.int .i64 J.pi):=l.o.A.cpi V.o
 have b:W4.cell? ⟨w.heap.size,99,none⟩=some (.int .i64 J.er):=l.o.A.cer V.o
 have hu80:=iV
 have j:(Tryz.prog.info? 53).map (·.size)=some (au J.e).length:=aaP
 have R4:=aj (Rs W4.drew W4.drew.heap.size A3 (nzL J.se z 40)) (O4.o.reads)
 simp only[Exit.then]
 go_wp2_with fail
 go_region_held3 (fun w'=>w'.rangeAt w.heap.size 16 (au J.e)/\w'.cell? ⟨w.heap.size,98,none⟩=some (.int .i64 J.la)/\w'.cell? ⟨w.heap.size,97,none⟩=some (.int .i64 J.pi)/\w'.cell? ⟨w.heap.size,99,none⟩=some (.int .i64 J.er)) (first|exact⟨mQ,mQ,mQ,mQ⟩|go_keep) (first
  |(go_at_call 90;(with_reducible refine(KG.o _).mono ?_);rintro e' w' ⟨rfl,rfl⟩)
  |(go_at_call 80;(with_reducible refine(KM.o W4.drew A3 c3 R4.o).mono ?_);rintro e' w5 ⟨A5,c5,rfl,hO,hB⟩;have s:Ms w w5 {J with se:=nzE J.se 40}:=l.o.drew.below hB;have rg5:w5.rangeAt w.heap.size 16 (au J.e):=s.A.E V.o;have d98:w5.cell? ⟨w.heap.size,98,none⟩=some (.int .i64 J.la):=s.A.cla V.o;have d97:w5.cell? ⟨w.heap.size,97,none⟩=some (.int .i64 J.pi):=s.A.cpi V.o;have F:w5.cell? ⟨w.heap.size,99,none⟩=some (.int .i64 J.er):=s.A.cer V.o;have s:=af s;have O5:=af (hO.more (base':=w.heap.size+2) (by have:=l.o.lt;exact this));clear hO hB))
 rename_i hHeldZ
 clear hHeldZ
 clear rg4 c98 c97 b rg5 d98 d97 F hu80 l O4 R4 KM KG
 have KL:=af (pG K2.o.e XL.o)
 have KK:=af (fun W A c (h:Rs W W.heap.size A x)=>show Cl 81 #[.agg (au J.e).toArray,.slice A 40 c] W (Ag W J.e x 40) from NU J.e _ A c 40 W K2.o.e h XL.o ah)
 have HI80:=af j
 clear j
 simp only[Exit.then]
 go_wp2_with(refine bZ rfl 53 (.tmp 61) rfl _ _ rfl (au J.e) _ (s.o.A.E V.o) iV rfl HI80.o ?_)
 refine(KK.o w5 A5 c5 O5.o.reads).mono ?_
 rintro e w6 ⟨rfl,hB⟩
 have M6:=af (s.o.below hB)
 have O6:=af (O5.o.below hB)
 clear hB s O5 KK
 have T:=aj (vk J.e x 40=bi J.e x) (rfl)
 rw[T.o]
 have M7:=af (M6.o.ex V.o _ KL.o)
 have O7:=af (Own.setCs (g:=w.heap.size) ah (au (bi J.e x)) 16 _ O6.o)
 have X:=aj ((Tryz.prog.info? 53).map (·.size)=some (agi (bi J.e x)).size) (MF)
 have H:=aj (w6.there w.heap.size 16 (agi (bi J.e x)).size) (by rw[dX,KL.o];exact M6.o.A.thereE V.o)
 have i:=aj ((iq J).ok) (aaR)
 obtain⟨w7,u⟩:=ak (w6.setCells w.heap.size 16 (au (bi J.e x)))
 rw[<-u] at M7 O7
 have Z:=af u
 have T7:=af (show Ms w w7 (iq J) by rw[EN.o];exact M7.o)
 clear u M7 EN
 have I:=af (MB.setRow T7.o.R (iq J))
 have D:=af (aS T7.o.bel (g:=w.heap.size+1) ah (iq J).ag)
 have OF:=af ((O7.o.setRow (g:=w.heap.size+1) ah (iq J).ag).more (base':=w.heap.size) ah)
 go_wp2_with(first
  |(refine iY rfl 53 (.tmp 67) (.tmp 65) rfl w.heap.size 16 (agi (bi J.e x)) rfl rfl H.o X.o (ik _) ?_;rw[show(agi (bi J.e x)).toList=au (bi J.e x) from rfl,<-Z.o])
  |(refine iK rfl (.tmp 2) rfl _ (iq J) rfl T7.o.A i.o ?_)
  |(refine dW rfl (.tmp 4) (.tmp 68) rfl _ aZ (iq J) rfl rfl T7.o.R df i.o ?_))
 refine aX (v:=_) (hR _ _ _ (iq J) rfl I.o i.o) rfl ?_
 rw[Y.o,B.o,HE.o]
 exact⟨A5,c5,by rw[XL.o];rfl,OF.o,D.o⟩):p:=h
theorem abe{p:Prop}(h:p:=by
 clear hHeld
 go_simp
 go_at_call 90
 (with_reducible refine(KF.o _).mono ?_)
 rintro e' w' ⟨rfl,rfl⟩
 refine hK.out _ _ ⟨C,b⟩ (fun hHeld=>?_)
 clear hK K
 try simp only[bG,bI,bH,Act.put,bg,bD,bF]
 refine aI 7 ?_ rfl (iW ⟨az,?_⟩) hHeld ?_
 rotate_left
 ·intro w a;obtain⟨M,O⟩:=a;go_simp
  try with_reducible rfl
 try simp only[bG,bI,bH,Act.put,bg,bD,bF]
 refine di (rs:=[1]) aB ay ?_
 refine bU rfl (fun K hK=>?_) dA
 clear hHeld
 go_simp
 refine hK.out _ _ ⟨C,b⟩ (fun hHeld=>?_)
 clear hK K
 try simp only[bG,bI,bH,Act.put,bg,bD,bF]
 refine di (rs:=[8]) aB ay ?_
 refine bU rfl (fun K hK=>?_) dA
 clear hHeld
 go_simp
 go_at_call 89
 (with_reducible refine(KN.o N.drew).mono ?_)
 rintro e' w3 ⟨A3,c3,rfl,hO,hB⟩;have y:Ms w w3 J:=n.o.drew.below hB;have d96:w3.cell? ⟨w.heap.size,96,none⟩=some (.int .i64 J.ga):=y.A.cga K2.o;have F:w3.cell? ⟨w.heap.size,99,none⟩=some (.int .i64 J.er):=y.A.cer K2.o;have d100:w3.cell? ⟨w.heap.size,100,none⟩=some (.int .i64 J.se):=y.A.cse K2.o;have U:w3.frozen? ⟨w.heap.size,100,none⟩=false:=MB.frozen y.A 100;have l:Ms w (w3.setCell ⟨w.heap.size,100,none⟩ (.int .i64 (nzE J.se 40))) {J with se:=nzE J.se 40}:=y.se K2.o (nzE J.se 40);have h96:(w3.setCell ⟨w.heap.size,100,none⟩ (.int .i64 (nzE J.se 40))).cell? ⟨w.heap.size,96,none⟩=some (.int .i64 J.ga):=l.A.cga (K2.o.se _);have h99:(w3.setCell ⟨w.heap.size,100,none⟩ (.int .i64 (nzE J.se 40))).cell? ⟨w.heap.size,99,none⟩=some (.int .i64 J.er):=l.A.cer (K2.o.se _);have l:=af l;have LT3:=af y.lt;have O3:=af hO;clear hO hB
 refine hK.out _ _ ⟨d96,F⟩ (fun hHeld=>?_)
 clear hK K
 try simp only[bG,bI,bH,Act.put,bg,bD,bF]
 refine aI 9 ?_ rfl (iW ⟨az,?_⟩) hHeld ?_
 rotate_left
 ·intro w a;obtain⟨M,O⟩:=a;go_simp
  try with_reducible rfl
 try simp only[bG,bI,bH,Act.put,bg,bD,bF]
 refine aI 10 ?_ rfl (iW ⟨az,?_⟩) hHeld ?_
 rotate_left
 ·intro w a;obtain⟨M,O⟩:=a;go_simp
  try with_reducible rfl
 try simp only[bG,bI,bH,Act.put,bg,bD,bF]
 refine aI 11 ?_ rfl (iW ⟨az,?_⟩) hHeld ?_
 rotate_left
 ·intro w a;obtain⟨M,O⟩:=a;go_simp
  try with_reducible rfl
 try simp only[bG,bI,bH,Act.put,bg,bD,bF]
 refine aI 12 ?_ rfl (iW ⟨az,?_⟩) hHeld ?_
 rotate_left
 ·intro w a;obtain⟨M,O⟩:=a;go_simp
  try with_reducible rfl
 try simp only[bG,bI,bH,Act.put,bg,bD,bF]
 refine di (rs:=[13]) aB ay ?_
 refine bU rfl (fun K hK=>?_) dA
 clear hHeld
 go_simp
 refine hK.out _ _ ⟨h96,h99⟩ (fun hHeld=>?_)
 clear hK K
 try simp only[bG,bI,bH,Act.put,bg,bD,bF]
 refine aI 14 ?_ rfl (iW ⟨az,?_⟩) hHeld ?_
 rotate_left
 ·intro w a;obtain⟨M,O⟩:=a;go_simp
  try with_reducible rfl
 try simp only[bG,bI,bH,Act.put,bg,bD,bF]
 refine mO aB ?_ _
 clear hHeld
 refine NoPanic.normal ?_
 have O4:=aj (Own (w3.setCell ⟨w.heap.size,100,none⟩ (.int .i64 (nzE J.se 40))) (w.heap.size+2) A3 c3 (nzL J.se z 40)) (Own.setC (O3.o.more (base':=w.heap.size+2) (by have:=n.o.lt;exact this)) ah 100 _)
 obtain⟨W4,hW4⟩:=ak (w3.setCell ⟨w.heap.size,100,none⟩ (.int .i64 (nzE J.se 40)))
 clear C b L d96 F d100 h96 h99 U hq hwz n KN KF
 rw[<-hW4] at l O4|-
 clear hW4 y O3
 have V:=af (K2.o.se (nzE J.se 40))
 have rg4:W4.rangeAt w.heap.size 16 (au J.e):=l.o.A.E V.o
 have c98:W4.cell? ⟨w.heap.size,98,none⟩=some (.int .i64 J.la):=l.o.A.cla V.o
 have c97:W4.cell? ⟨w.heap.size,97,none⟩=some (.int .i64 J.pi):=l.o.A.cpi V.o
 have b:W4.cell? ⟨w.heap.size,99,none⟩=some (.int .i64 J.er):=l.o.A.cer V.o
 have hu80:=iV
 have j:(Tryz.prog.info? 53).map (·.size)=some (au J.e).length:=aaP
 have R4:=aj (Rs W4.drew W4.drew.heap.size A3 (nzL J.se z 40)) (O4.o.reads)
 simp only[Exit.then]
 go_wp2_with fail
 go_region_held3 (fun w'=>w'.rangeAt w.heap.size 16 (au J.e)/\w'.cell? ⟨w.heap.size,98,none⟩=some (.int .i64 J.la)/\w'.cell? ⟨w.heap.size,97,none⟩=some (.int .i64 J.pi)/\w'.cell? ⟨w.heap.size,99,none⟩=some (.int .i64 J.er)) (first|exact⟨mQ,mQ,mQ,mQ⟩|go_keep) (first
  |(go_at_call 90;(with_reducible refine(KG.o _).mono ?_);rintro e' w' ⟨rfl,rfl⟩)
  |(go_at_call 80;(with_reducible refine(KM.o W4.drew A3 c3 R4.o).mono ?_);rintro e' w5 ⟨A5,c5,rfl,hO,hB⟩;have s:Ms w w5 {J with se:=nzE J.se 40}:=l.o.drew.below hB;have rg5:w5.rangeAt w.heap.size 16 (au J.e):=s.A.E V.o;have d98:w5.cell? ⟨w.heap.size,98,none⟩=some (.int .i64 J.la):=s.A.cla V.o;have d97:w5.cell? ⟨w.heap.size,97,none⟩=some (.int .i64 J.pi):=s.A.cpi V.o;have F:w5.cell? ⟨w.heap.size,99,none⟩=some (.int .i64 J.er):=s.A.cer V.o;have s:=af s;have O5:=af (hO.more (base':=w.heap.size+2) (by have:=l.o.lt;exact this));clear hO hB))
 rename_i hHeldZ
 clear hHeldZ
 clear rg4 c98 c97 b rg5 d98 d97 F hu80 l O4 R4 KM KG
 have KL:=af (pG K2.o.e XL.o)
 have KK:=af (fun W A c (h:Rs W W.heap.size A x)=>show Cl 81 #[.agg (au J.e).toArray,.slice A 40 c] W (Ag W J.e x 40) from NU J.e _ A c 40 W K2.o.e h XL.o ah)
 have HI80:=af j
 clear j
 simp only[Exit.then]
 go_wp2_with(refine bZ rfl 53 (.tmp 61) rfl _ _ rfl (au J.e) _ (s.o.A.E V.o) iV rfl HI80.o ?_)
 refine(KK.o w5 A5 c5 O5.o.reads).mono ?_
 rintro e w6 ⟨rfl,hB⟩
 have M6:=af (s.o.below hB)
 have O6:=af (O5.o.below hB)
 clear hB s O5 KK
 have T:=aj (vk J.e x 40=bi J.e x) (rfl)
 rw[T.o]
 have M7:=af (M6.o.ex V.o _ KL.o)
 have O7:=af (Own.setCs (g:=w.heap.size) ah (au (bi J.e x)) 16 _ O6.o)
 have X:=aj ((Tryz.prog.info? 53).map (·.size)=some (agi (bi J.e x)).size) (MF)
 have H:=aj (w6.there w.heap.size 16 (agi (bi J.e x)).size) (by rw[dX,KL.o];exact M6.o.A.thereE V.o)
 have i:=aj ((iq J).ok) (aaR)
 obtain⟨w7,u⟩:=ak (w6.setCells w.heap.size 16 (au (bi J.e x)))
 rw[<-u] at M7 O7
 have Z:=af u
 have T7:=af (show Ms w w7 (iq J) by rw[EN.o];exact M7.o)
 clear u M7 EN
 have I:=af (MB.setRow T7.o.R (iq J))
 have D:=af (aS T7.o.bel (g:=w.heap.size+1) ah (iq J).ag)
 have OF:=af ((O7.o.setRow (g:=w.heap.size+1) ah (iq J).ag).more (base':=w.heap.size) ah)
 go_wp2_with(first
  |(refine iY rfl 53 (.tmp 67) (.tmp 65) rfl w.heap.size 16 (agi (bi J.e x)) rfl rfl H.o X.o (ik _) ?_;rw[show(agi (bi J.e x)).toList=au (bi J.e x) from rfl,<-Z.o])
  |(refine iK rfl (.tmp 2) rfl _ (iq J) rfl T7.o.A i.o ?_)
  |(refine dW rfl (.tmp 4) (.tmp 68) rfl _ aZ (iq J) rfl rfl T7.o.R df i.o ?_))
 refine aX (v:=_) (hR _ _ _ (iq J) rfl I.o i.o) rfl ?_
 rw[Y.o,B.o,HE.o]
 exact⟨A5,c5,by rw[XL.o];rfl,OF.o,D.o⟩):p:=h
theorem abf{p:Prop}(h:p:=by
 have C:N.cell? ⟨w.heap.size,96,none⟩=some (.int .i64 J.ga):=n.o.A.cga K2.o
 have b:N.cell? ⟨w.heap.size,99,none⟩=some (.int .i64 J.er):=n.o.A.cer K2.o
 have L:N.cell? ⟨w.heap.size,100,none⟩=some (.int .i64 J.se):=n.o.A.cse K2.o
 have KN:=af (fun W=>show Cl 138 #[.int .i64 J.se,.int .i64 (fB J),.int .i64 40] W (NzA W J.se (fB J) 40) from WW (fB J) 40 J.se W ah S.o.1 S.o.2)
 have KM:=af (fun W A c (hr:Rs W W.heap.size A (nzL J.se (fB J) 40))=>show Cl 122 #[.agg (au J.e).toArray,.int .i64 J.la,.int .i64 (dO J.pi J.er),.slice A 40 c] W (fun e w'=> ∃A c,e=.returned (.tuple #[.slice A 40 c,.int .i64 0])/\Own w' W.heap.size A c (jP J)/\Bw W w') from by
  refine(agC J.e _ J.la (dO J.pi J.er) A c 40 W K2.o.e hr (oM _ _ _) ah HE64.o (nN (WV _ _ _))).mono ?_
  rintro e w' ⟨A',c',h1,h2,h3⟩
  rw[(yD (h:=J.e) (x:=nzL J.se (fB J) 40) (IC t.o)).2] at h1
  have hl:=sZ t.o
  unfold jP at hl
  rw[hl] at h1
  exact⟨A',c',h1,h2,h3⟩)
 have XL:=af (sZ t.o)
 have X64:=aj (W64 (jP J)) (nN (Xd _ _ _ _ _))
 have EN:=aj (iq J={J with se:=nzE J.se 40,e:=bi J.e (jP J)}) (rfl)
 have P:=fun W=>acG J.ga J.er W
 have Q:=fun W=>acG J.pi J.er W
 have fb:=Dp J.ga J.er
 have hwz:IntKind.i64.wrap (fB J)=fB J:=Ua
 have hq:(dO J.ga J.er).tdiv 4=fB J:=TP
 generalize jP J=x at*
 generalize fB J=z at*
 generalize dO J.ga J.er=f at*
 generalize dO J.pi J.er=f2 at*
 have KF:=af P
 have KG:=af Q
 clear P Q fb
 go_region_held3 (fun w'=>w'.cell? ⟨w.heap.size,96,none⟩=some (.int .i64 J.ga)/\w'.cell? ⟨w.heap.size,99,none⟩=some (.int .i64 J.er)/\w'.cell? ⟨w.heap.size,100,none⟩=some (.int .i64 J.se)) (first|exact⟨mQ,mQ,mQ⟩|go_keep) (first
  |(go_at_call 139;(with_reducible refine(KF.o N.drew).mono ?_);rintro e' U ⟨rfl,hB⟩;have MA:Ms w U J:=n.o.drew.below hB;have a96:U.cell? ⟨w.heap.size,96,none⟩=some (.int .i64 J.ga):=MA.A.cga K2.o;have a99:U.cell? ⟨w.heap.size,99,none⟩=some (.int .i64 J.er):=MA.A.cer K2.o;have a100:U.cell? ⟨w.heap.size,100,none⟩=some (.int .i64 J.se):=MA.A.cse K2.o;have MA:=af MA;clear hB)
  |(go_at_call 138;(with_reducible refine(KN.o U).mono ?_);rintro e' w3 ⟨A3,c3,rfl,hO,hB⟩;have y:Ms w w3 J:=MA.o.below hB;have d96:w3.cell? ⟨w.heap.size,96,none⟩=some (.int .i64 J.ga):=y.A.cga K2.o;have F:w3.cell? ⟨w.heap.size,99,none⟩=some (.int .i64 J.er):=y.A.cer K2.o;have d100:w3.cell? ⟨w.heap.size,100,none⟩=some (.int .i64 J.se):=y.A.cse K2.o;have y:=af y;have O3:=af (hO.more (base':=w.heap.size+2) MA.o.lt);clear hO hB))
 rename_i hHeldZ
 clear hHeldZ
 clear C b L a96 a99 a100 d96 F d100 hq hwz n KN KF MA
 have rg4:w3.rangeAt w.heap.size 16 (au J.e):=y.o.A.E K2.o
 have c98:w3.cell? ⟨w.heap.size,98,none⟩=some (.int .i64 J.la):=y.o.A.cla K2.o
 have c97:w3.cell? ⟨w.heap.size,97,none⟩=some (.int .i64 J.pi):=y.o.A.cpi K2.o
 have b:w3.cell? ⟨w.heap.size,99,none⟩=some (.int .i64 J.er):=y.o.A.cer K2.o
 have hu80:=iV
 have j:(Tryz.prog.info? 53).map (·.size)=some (au J.e).length:=aaP
 simp only[Exit.then]
 go_wp2_with fail
 go_region_held3 (fun w'=>w'.rangeAt w.heap.size 16 (au J.e)/\w'.cell? ⟨w.heap.size,98,none⟩=some (.int .i64 J.la)/\w'.cell? ⟨w.heap.size,97,none⟩=some (.int .i64 J.pi)/\w'.cell? ⟨w.heap.size,99,none⟩=some (.int .i64 J.er)) (first|exact⟨mQ,mQ,mQ,mQ⟩|go_keep) (first
  |(go_at_call 139;(with_reducible refine(KG.o w3.drew).mono ?_);rintro e' l ⟨rfl,hB⟩;have a:Ms w l J:=y.o.drew.below hB;have rgB:l.rangeAt w.heap.size 16 (au J.e):=a.A.E K2.o;have b98:l.cell? ⟨w.heap.size,98,none⟩=some (.int .i64 J.la):=a.A.cla K2.o;have b97:l.cell? ⟨w.heap.size,97,none⟩=some (.int .i64 J.pi):=a.A.cpi K2.o;have b99:l.cell? ⟨w.heap.size,99,none⟩=some (.int .i64 J.er):=a.A.cer K2.o;have a:=af a;have RB:=af ((O3.o.drew.below hB).reads);clear hB)
  |(go_at_call 122;(with_reducible refine(KM.o l A3 c3 RB.o).mono ?_);rintro e' w5 ⟨A5,c5,rfl,hO,hB⟩;have s:Ms w w5 J:=a.o.below hB;have rg5:w5.rangeAt w.heap.size 16 (au J.e):=s.A.E K2.o;have d98:w5.cell? ⟨w.heap.size,98,none⟩=some (.int .i64 J.la):=s.A.cla K2.o;have d97:w5.cell? ⟨w.heap.size,97,none⟩=some (.int .i64 J.pi):=s.A.cpi K2.o;have F:w5.cell? ⟨w.heap.size,99,none⟩=some (.int .i64 J.er):=s.A.cer K2.o;have s:=af s;have O5:=af (hO.more (base':=w.heap.size+2) a.o.lt);clear hO hB))
 rename_i hHeldZ
 clear hHeldZ
 clear rg4 c98 c97 b rgB b98 b97 b99 rg5 d98 d97 F hu80 KM KG y O3 a RB
 have L:w5.cell? ⟨w.heap.size,100,none⟩=some (.int .i64 J.se):=s.o.A.cse K2.o
 have f100:w5.frozen? ⟨w.heap.size,100,none⟩=false:=MB.frozen s.o.A 100
 have V:=af (K2.o.se (nzE J.se 40))
 have M6:=af (s.o.se K2.o (nzE J.se 40))
 have O6:=af (Own.setC (g:=w.heap.size) O5.o ah 100 (.int .i64 (nzE J.se 40)))
 have KL:=af (pG K2.o.e XL.o)
 have KK:=af (fun W A c (h:Rs W W.heap.size A x)=>show Cl 123 #[.agg (au J.e).toArray,.slice A 40 c] W (Ag W J.e x 40) from WY J.e _ A c 40 W K2.o.e h XL.o ah X64.o)
 have HI80:=af j
 clear j
 obtain⟨w6,O⟩:=ak (w5.setCell ⟨w.heap.size,100,none⟩ (.int .i64 (nzE J.se 40)))
 rw[<-O] at M6 O6
 have M:=af O
 clear O
 simp only[Exit.then]
 go_wp2_with(first
  |(rw[<-M.o])
  |(refine bZ rfl 53 (.tmp 63) rfl _ _ rfl (au J.e) _ (M6.o.A.E V.o) iV rfl HI80.o ?_))
 refine(KK.o w6 A5 c5 O6.o.reads).mono ?_
 rintro e w8 ⟨rfl,hB⟩
 have M8:=af (M6.o.below hB)
 have O8:=af (O6.o.below hB)
 clear hB s M6 O5 O6 KK L f100 M
 have T:=aj (vk J.e x 40=bi J.e x) (rfl)
 rw[T.o]
 have M7:=af (M8.o.ex V.o _ KL.o)
 have O7:=af (Own.setCs (g:=w.heap.size) ah (au (bi J.e x)) 16 _ O8.o)
 have X:=aj ((Tryz.prog.info? 53).map (·.size)=some (agi (bi J.e x)).size) (MF)
 have H:=aj (w8.there w.heap.size 16 (agi (bi J.e x)).size) (by rw[dX,KL.o];exact M8.o.A.thereE V.o)
 have i:=aj ((iq J).ok) (aaR)
 obtain⟨w7,u⟩:=ak (w8.setCells w.heap.size 16 (au (bi J.e x)))
 rw[<-u] at M7 O7
 have Z:=af u
 have T7:=af (show Ms w w7 (iq J) by rw[EN.o];exact M7.o)
 clear u M7 EN
 have I:=af (MB.setRow T7.o.R (iq J))
 have D:=af (aS T7.o.bel (g:=w.heap.size+1) ah (iq J).ag)
 have OF:=af ((O7.o.setRow (g:=w.heap.size+1) ah (iq J).ag).more (base':=w.heap.size) ah)
 go_wp2_with(first
  |(refine iY rfl 53 (.tmp 69) (.tmp 67) rfl w.heap.size 16 (agi (bi J.e x)) rfl rfl H.o X.o (ik _) ?_;rw[show(agi (bi J.e x)).toList=au (bi J.e x) from rfl,<-Z.o])
  |(refine iK rfl (.tmp 2) rfl _ (iq J) rfl T7.o.A i.o ?_)
  |(refine dW rfl (.tmp 4) (.tmp 70) rfl _ aZ (iq J) rfl rfl T7.o.R df i.o ?_))
 refine aX (v:=_) (hR _ _ _ (iq J) rfl I.o i.o) rfl ?_
 rw[Y.o,B.o,HE.o]
 exact⟨A5,c5,by rw[XL.o];rfl,OF.o,D.o⟩):p:=h
theorem abg{p:Prop}(h:p:=by
 have PTO:dD ps 25=true:=by rw[<-HPK.o];exact Qj _ _ _
 have PLN:ps.length=25:=by rw[<-HPK.o];exact Qk _ _ _
 have KP:=af (fun W (h:Bw w W)=>aqH ps W (TT.o.2.2.below h) PLN (af2 PTO PLN))
 unfold Qi at KP
 rw[show Aw ps=0 from if_pos PTO] at KP
 have KFM:=af (fun W (h:Bw w W)=>show Cl 52 #[.agg e.m.cs.toArray,.agg (agi ps)] W (pV W (frM e.m ps) (frO e.m ps)) from agF e.m K.o.m HG.o ps W (TT.o.1.below h) (TT.o.2.1.below h) (TT.o.2.2.below h) PTO PLN)
 have KMF:=af (D7 K.o.m PTO PLN)
 have PLN:=af PLN
 have e4q:=aj (enE e s rr=⟨hp,x,frM e.m ps⟩) (by
  unfold enE
  rw[if_pos HE.o,HPK.o,<-HHP.o,<-HX.o])
 have HBS:=aj (jk e s rr=qY ps) (by unfold jk;rw[if_pos HE.o,HPK.o])
 have HYS:=aj (enY e s rr=frO e.m ps) (by unfold enY;rw[if_pos HE.o,HPK.o])
 clear PTO HPK HPS
 generalize frM e.m ps=mf at*
 generalize frO e.m ps=yf at*
 generalize qY ps=bs at*
 obtain⟨h0,h1,h2,h3,rfl⟩:=xC HP4.o
 obtain⟨e1,he1⟩:=ak (⟨[h0,h1,h2,h3],List.replicate 120 0,aZ⟩:En)
 obtain⟨S,he2⟩:=ak (⟨[h0,h1,h2,h3],x,aZ⟩:En)
 obtain⟨e4,he4⟩:=ak (⟨[h0,h1,h2,h3],x,mf⟩:En)
 rw[<-he4] at e4q
 have K1:=aj (e1.ok) (by rw[he1];exact⟨rfl,ay,df⟩)
 have K2:=aj (S.ok) (by rw[he2];exact⟨rfl,XL.o,df⟩)
 have K4:=aj (e4.ok) (by rw[he4];exact⟨rfl,XL.o,KMF.o⟩)
 go_upto_region 29 with fail
 go_wp2_with(first
  |(refine aK 81 (.tmp 19) ps 25 J0.o.P gu dF PLN.o ?_))
 with_reducible refine(KP.o wr J0.o.L.bel).mono ?_
 rintro e' w20 ⟨A4,c4,rfl,hO,hB⟩
 have J1:=af (J0.o.below hB)
 have B20:=af hO
 have LT20:=af J0.o.L.lt
 clear hO hB J0 KP
 have HE1:=af he1
 have HE2:=af he2
 have HE4:=af he4
 clear he1 he2 he4
 have BB:=dI w20 (.cells Tryz.zeroCells57 57) e1.ag
 have J22:=af (J1.o.below BB)
 have X22:=af (EB.setRow (ui w20) e1)
 have B22:=af (B20.o.below BB)
 have GO:=aj (gP<w20.heap.size) (J1.o.lt)
 have GW:=aj (w.heap.size+2<=w20.heap.size) (J1.o.L.lt)
 have NE:=af (fun a (ha:A4=some a)=>show a.block≠w20.heap.size from by have:=(B20.o.lt a ha).2;omega)
 have R2:=aj ((e1.ag.toList.take 4++(au x++e1.ag.toList.drop (4+(au x).length))).toArray=S.ag) (by
  have h1:=EB.splice K1.o 0 x x (by rw[XL.o];omega) (by rw[List.take_zero,CE,qK,BU (by rw[K1.o.x,XL.o];omega),xU])
  have h2:({e1 with x:=x}:En)=S:=by rw[HE1.o,HE2.o]
  rw[h2] at h1
  exact iI List.toArray h1)
 obtain⟨V22,hV22⟩:=ak ((w20.alloc (.cells Tryz.zeroCells57 57)).setRow w20.heap.size e1.ag)
 rw[<-hV22] at J22 X22 B22
 have HV22:=af hV22
 clear hV22 BB
 have SRC:=aj (∀j v,(au x)[j]?=some v->V22.cell? (ai.add j)=some v) (fun j v hv=>by
  obtain⟨a2,ea,_,h2⟩:=J22.o.I.2 (by rw[XL.o];omega)
  injection ea with ea
  subst ea
  exact h2 j v hv)
 go_wp2_with(first
  |(refine aK 50 (.tmp 11) [h0,h1,h2,h3] 4 J1.o.H yT xE rfl ?_)
  |(refine aqO rfl (.tmp 149) rfl h0 h1 h2 h3 rfl e1 HE1.o ?_)
  |(refine rF rfl (.tmp 27) (.tmp 150) rfl _ eH e1 rfl rfl (ui w20) ig K1.o ?_;rw[<-HV22.o];clear HV22)
  |((with_reducible refine Zq (.tmp 152) (.tmp 153) 26 26 rfl ?_);refine aaC rfl (.tmp 152) (.tmp 153) 26 26 rfl 3 qH NT w20.heap.size 4 120 120 ai 120 c5 rfl rfl e1.ag _ X22.o (au x) (by rw[bf,XL.o];rfl) SRC.o (by rw[bf,XL.o,e1.size K1.o];omega) (o9 _) ?_;rw[R2.o]
    have X23:=aj (EB (V22.setRow w20.heap.size S.ag) w20.heap.size S) (EB.setRow X22.o S)
    have J23:=af (J22.o.farR (g:=w20.heap.size) GO.o S.ag)
    have B23:=af (aqL B22.o NE.o S.ag)
    obtain⟨V23,hV23⟩:=ak (V22.setRow w20.heap.size S.ag)
    rw[<-hV23] at X23 J23 B23|-
    clear hV23)
  |(refine bZ rfl 55 (.tmp 156) rfl w.heap.size 124 rfl e.m.cs _ (EB.M J23.o.L.E K.o) kG rfl HIM.o ?_)
  |(refine aK 81 (.tmp 19) ps 25 J23.o.P gu dF PLN.o ?_))
 with_reducible refine(KFM.o V23 J23.o.L.bel).mono ?_
 rintro e' w24 ⟨A5,c5',rfl,hO,hB⟩
 have J24:=af (J23.o.L.below hB)
 have X24:=af (Blk.below' X23.o hB)
 have B24:=af (B23.o.below hB)
 have O24:=af hO
 have GO2:=aj (w20.heap.size<V23.heap.size) (Blk.lt X23.o)
 clear hO hB J1 J22 X22 B22 J23 X23 B23 B20 KFM
 have L25:=af (J24.o.far (g:=w20.heap.size) GW.o mf.cs 124)
 have X25:=aj (EB (w24.setCells w20.heap.size 124 mf.cs) w20.heap.size e4) (by
  have h:=EB.set_m X24.o K2.o mf KMF.o
  rw[HE2.o] at h
  rw[HE4.o]
  exact h)
 have B25:=af (aqM B24.o NE.o mf.cs 124)
 have O25:=af (Own.setCs (g:=w20.heap.size) GO2.o mf.cs 124 _ O24.o)
 obtain⟨V25,hV25⟩:=ak (w24.setCells w20.heap.size 124 mf.cs)
 rw[<-hV25] at L25 X25 B25 O25
 have HV25:=af hV25
 clear hV25
 go_wp2_with(first
  |(refine iY rfl 55 (.tmp 162) (.tmp 160) rfl w20.heap.size 124 mf.ag rfl rfl (by rw[mf.size KMF.o];exact EB.thereM X24.o K2.o) (by rw[mf.size KMF.o];exact sS) mf.one ?_;rw[show mf.ag.toList=mf.cs from rfl,<-HV25.o];clear HV25)
  |(refine YZ rfl (.tmp 27) rfl _ e4 rfl X25.o K4.o ?_)
  |(refine rF rfl (.tmp 6) (.tmp 163) rfl _ eH e4 rfl rfl L25.o.Z ig K4.o ?_))
 refine aX (v:=_) (hR _ _ _ e4 rfl (EB.setRow L25.o.Z e4) K4.o) rfl ?_
 unfold EncOut
 rw[<-HRR.o,e4q.o,HBS.o,HYS.o,HE.o]
 exact⟨A4,c4,A5,c5',rfl,(Zo B25.o (g:=w.heap.size+1) MQ e4.ag).more (base':=w.heap.size) MQ,(O25.o.setRow (g:=w.heap.size+1) (by have:=GW.o;have:=GO2.o;omega) e4.ag).more (base':=w.heap.size) (by have:=GW.o;have:=GO2.o;omega),aS L25.o.bel (g:=w.heap.size+1) ah e4.ag⟩):p:=h
theorem ahz{p:Prop}(h:p:=by
 have KF:=af (fun W=>show Cl 47 #[.agg (au was).toArray,.agg (agi now),.int .i64 (j:Nat)] W (fun e w'=>e=.returned (.agg (agi (frA was now j)))/\Bw W w') from ZG was now j W WL.o NL.o hlt SW.o SN.o)
 have GA:=OZ SW.o SN.o hlt
 have AL:=af (xk was now j)
 obtain⟨a,ha⟩:=ak (frA was now j)
 rw[<-ha] at KF GA AL
 have HA:=af ha
 have HI8:=aj ((Tryz.prog.info? 52).map (·.size)=some (au was).length) (by rw[bf,WL.o];exact aJ)
 have HGA:=af GA
 have b1:decide ((j:Int)<2)=true:=aC
 clear ha GA
 go_wp2_with(first
  |(refine bZ rfl 52 (.tmp 103) rfl gM 0 rfl (au was) _ (by have h:=MB.R C.o.M KO.o;rw[RK.o] at h;exact h) aU rfl HI8.o ?_)
  |(refine aK 52 (.tmp 20) now 8 C.o.N aU aJ NL.o ?_))
 with_reducible refine(KF.o wr).mono ?_
 rintro e' w5 ⟨rfl,hB⟩
 have S5:=af (C.o.below hB)
 clear hB C KF b1 c0
 go_wp2_with(first
  |(refine aQ 73 (.tmp 24) (.tmp 107) Z9 a 9 (IB.new w5 73 Z9) bC rfl AL.o ?_
    have BB:=dI w5 (.cells (agi Z9) 73) (agi a)
    obtain⟨V6,hV⟩:=ak ((w5.alloc (.cells (agi Z9) 73)).setRow w5.heap.size (agi a))
    have W6:=aj (Xw w V6 e t o gH hp ai x gP ps gN now gM mk w5.heap.size a) (ahm)
    rw[jR] at hV
    rw[<-hV]
    clear hV BB))
 obtain⟨gA,hgA⟩:=ak (w5.heap.size)
 have GLT:=aj (gM<gA) (by rw[hgA];exact S5.o.lt)
 rw[<-hgA] at W6|-
 clear hgA S5
 have GK:=ae6 (was:=was) (now:=now) (o:=o) G0.o j
 rw[<-HMK.o] at GK
 obtain⟨u,hu⟩:=ak (chU mk a (og o j))
 have HU:=aj (enU was now o f j=u) (by rw[hu,HMK.o,HA.o];rfl)
 have UO:=aj (UOk u) (by rw[hu];exact JA)
 have KCH:=af (fun W A1 c1 (h:Rs W W.heap.size A1 (og o j)) (hB:Bw w W)=>show Cl 48 #[.agg mk.cs.toArray,.agg (au a).toArray,.slice A1 40 c1] W (fun e w'=>e=.returned (.agg (agi u))/\Bw W w') from by
  rw[hu]
  exact aqn mk KO.o GK a (og o j) HGA.o AL.o A1 c1 W h (afr OL.o hlt) (af6 OG.o) (TT.o.1.below hB) (TT.o.2.1.below hB))
 have GK:=af GK
 clear hu
 have hw40:IntKind.i64.wrap (40*(j:Int))=40*(j:Int):=aV
 have hw80:IntKind.i64.wrap (40*(j:Int)+40)=40*(j:Int)+40:=aV
 go_upto_region 25 with fail
 refine uk [0,3,4,5,6,7,8,9,11] [1,2] 10 [12,13] (fun W=>Xw w W e t o gH hp ai x gP ps gN now gM mk gA a) aB aB rfl ⟨W6.o.R.below (bY _),Blk.drew W6.o.F⟩ (fun _ _ d _ _ h=>uU) ?_
 simp only[jC,o6,uJ,uK]
 refine iG (v:=.int .i64 (j:Nat)) az (fun W=>rfl) ?_
 refine iG (v:=.slice (some t) 80 c2) az (fun W=>rfl) ?_
 refine iG (v:=.int .i64 (j:Nat)) az (fun W=>rfl) ?_
 refine iG (v:=.int .i64 (40*(j:Int))) az (fun W=>?_) ?_
 ·go_simp
 refine iG (v:=.int .i64 (j:Nat)) az (fun W=>rfl) ?_
 refine iG (v:=.int .i64 (40*(j:Int))) az (fun W=>?_) ?_
 ·go_simp
 refine iG (v:=.int .i64 (40*(j:Int)+40)) az (fun W=>?_) ?_
 ·go_simp
 refine iG (v:=.slice (some (t.add (j*40))) 40 (c2-j*40)) az (fun W=>?_) ?_
 ·go_simp
  have c80:=C80.o
  have mx:=Int.le_max_left (40*(j:Int)+40) 0
  rw[if_pos ah,if_pos ah,show(40*(j:Int)).toNat=j*40 from ah,show(40*(j:Int)+40).toNat=j*40+40 from ah,if_neg ah,show j*40+40-j*40=40 from ah]
 refine iG (v:=.pointer (some ⟨gP,9,none⟩)) az (fun W=>?_) ?_
 ·go_simp
 refine uj ?_
 simp only[Act.put,bg,bD,bF,bG,bH,bI]
 refine dB (fun K hK=>?_)
 refine lK az 55 (.tmp 22) rfl gM 0 rfl mk.cs _ (fun W hW=>MB.whole hW.R.M) kG rfl FU ?_
 refine hK _ ?_;clear hK K
 refine dB (fun K hK=>?_)
 refine lK az 73 (.tmp 24) rfl gA 0 rfl (au a) _ (fun W hW=>iP hW.F [] (au a) [] ay rfl) bP rfl aba ?_
 refine hK _ ?_;clear hK K
 refine uC ?_
 intro W7 hW7
 have R7:=af hW7.R
 have F7:=af hW7.F
 clear hW7 W6 hw40 hw80
 obtain⟨pA,hpA⟩:=ak (kd::(i++enF was now o f j))
 obtain⟨pB,hpB⟩:=ak (List.replicate (8-j*8) (0:Int))
 obtain⟨ps2,hps2⟩:=ak (enZ kd i was now o f (j+1))
 have HPA:=aj (ps=pA++(List.replicate 8 0++pB)) (by rw[HPS.o,hpA,hpB];exact afo QL.o hlt)
 have HPB:=aj (ps2=pA++(u++pB)) (by rw[hps2,afp j hlt,HU.o,hpA,hpB])
 have LPA:=aj (pA.length=9+j*8) (ahd)
 have HPS2:=af hps2
 have PL2:=aj (ps2.length=25) (by rw[hps2];exact Bc QL.o ah)
 clear hpA hpB hps2
 have RSH:=af (show Rs W7 W7.heap.size (some (t.add (j*40))) (og o j) from(af7 R7.o.J.O OL.o hlt).more (kY R7.o.J.lt))
 obtain⟨mm,hmm⟩:=ak (spM mk u)
 obtain⟨xs,y⟩:=ak (spX mk u)
 obtain⟨np,hnp⟩:=ak (lI a mk.p (spX mk u))
 obtain⟨mn,hmn⟩:=ak (frP false a mk u)
 have HMN:=aj (enK was now o f (j+1)=mn) (by rw[hmn,afq,HU.o,HMK.o,HA.o])
 have KN:=aj (mn.ok) (by rw[hmn];exact Pi false a KO.o UO.o)
 have MNE:=aj (({mm with p:=np}:Mm)=mn) (by rw[hmm,hnp,hmn];exact(Pj GK.o UO.o HGA.o).1)
 have KMM:=aj (mm.ok) (by rw[hmm];exact DU KO.o UO.o)
 have MPP:=aj (mm.p=mk.p) (by rw[hmm];rfl)
 have NPL:=aj (np.length=8) (by have h:=KN.o.p;rw[<-MNE.o] at h;exact h)
 have XSL:=aj (xs.length=40) (by rw[y];exact tV UO.o mk)
 have KSP:=af (fun W (hB:Bw w W)=>show Cl 49 #[.agg mk.cs.toArray,.agg (au u).toArray] W (fun e w'=> ∃A c,e=.returned (.tuple #[.agg mm.ag,.slice A 40 c])/\Own w' W.heap.size A c xs/\Bw W w') from by
  have h1:=agD mk KO.o u W (TT.o.1.below hB) (TT.o.2.1.below hB) UO.o (nN (jr GK.o).2.2.1)
  unfold pV at h1
  rw[<-hmm,<-y,XSL.o] at h1
  exact h1)
 have KMk:=af (fun W A1 c1 (h:Rs W W.heap.size A1 xs) (hc:40<=c1)=>show Cl 50 #[.agg (agi a),.agg (au mm.p).toArray,.slice A1 40 c1] W (fun e w'=> ∃A c n er,e=.returned (.tuple #[.slice A n c,.agg (agi np),.int .i64 er])/\Bw W w') from by
  have h1:=D8 a mm.p xs A1 c1 40 W AL.o KMM.o.p h XSL.o ah hc
  have e:(if dZ a mm.p xs then fH mm.p (eG a mm.p xs 40) else Z8)=np:=by rw[hnp,MPP.o,<-y];unfold lI;rw[XSL.o]
  rw[e] at h1
  exact h1.mono fun e w' ⟨A,c,h1,_,h3⟩=>⟨A,c,_,_,h1,h3⟩)
 clear hmm y hnp hmn
 have HIS:=aj ((Tryz.prog.info? 78).map (·.size)=some (au u).length) (by rw[bf,UO.o.l];exact rG)
 have HIP:=aj ((Tryz.prog.info? 52).map (·.size)=some (au mm.p).length) (by rw[bf,KMM.o.p];exact aJ)
 have HSU:=af (fun W (h:IB W gP 81 ps2)=>show W.rangeAt gP (9+j*8) (au u) from af1 h HPB.o LPA.o)
 go_wp2_with(first
  |(go_at_call 48;(with_reducible refine(KCH.o W7 _ _ RSH.o R7.o.J.L.bel).mono ?_);rintro e' w8_ ⟨rfl,hB⟩;have R8:=af (R7.o.below hB);have F8:=af (Blk.below' F7.o hB);clear hB;have R9:=af (R8.o.over (au u) (9+j*8) (IB.over R8.o.J.P HPA.o (by rw[UO.o.l];simp) HPB.o LPA.o));have F9:=af (cZ (b:=gP) (by have:=R8.o.l1;have:=R8.o.l2;have:=GLT.o;omega) (au u) (9+j*8) _ F8.o);obtain⟨V9,hV9⟩:=ak (w8_.setCells gP (9+j*8) (au u));rw[<-hV9] at R9 F9;have HV9:=af hV9;clear hV9)
  |(refine iY rfl 78 (.tmp 120) (.tmp 118) rfl gP (9+j*8) (agi u) rfl rfl (by rw[dX,UO.o.l];exact IB.thereAt R8.o.J.P (9+j*8) 8 zH) (by rw[dX,UO.o.l];exact rG) (ik _) ?_;rw[show(agi u).toList=au u from rfl,<-HV9.o];clear HV9))
 clear R7 R8 F7 F8 RSH KCH
 refine uk [] [0,1,2,3,4] 5 [6,7,8,9,10] (fun W=>Xw w W e t o gH hp ai x gP ps2 gN now gM mk gA a) aB aB rfl ⟨R9.o.below (bY _),Blk.drew F9.o⟩ (fun _ _ d _ _ h=>uU) ?_
 simp only[jC,o6,uJ,uK]
 refine uj ?_
 refine dB (fun K hK=>?_)
 refine lK az 55 (.tmp 22) rfl gM 0 rfl mk.cs _ (fun W hW=>MB.whole hW.R.M) kG rfl FU ?_
 refine hK _ ?_;clear hK K
 iterate 2
  refine dB (fun K hK=>?_)
  go_simp
  apply kX
  refine⟨fun W hW=>rfl,hK _ ?_⟩
  clear hK K
 have j2:(j:Int)<2:=ah
 refine dB (fun K hK=>?_)
 go_simp
 refine⟨.pointer (some ⟨gP,9+j*8,none⟩),fun W hW=>?_,hK _ ?_⟩
 ·first|rfl|go_simp
 clear hK K j2
 refine dB (fun K hK=>?_)
 refine lK az 78 (.tmp 125) rfl gP (9+j*8) rfl (au u) _ (fun W hW=>HSU.o _ hW.R.J.P) yU rfl HIS.o ?_
 refine hK _ ?_;clear hK K
 refine uC ?_
 intro W11 hW11
 have R11:=af hW11.R
 have F11:=af hW11.F
 clear hW11 R9 F9
 go_wp2_with(first
  |(go_at_call 49;(with_reducible refine(KSP.o W11 R11.o.J.L.bel).mono ?_);rintro e' w12 ⟨A3,c3,rfl,hO,hB⟩;have R12:=af (R11.o.below hB);have F12:=af (Blk.below' F11.o hB);have O12:=af hO;have GL12:=af (Blk.lt R11.o.M);clear hO hB;have R13:=af (R12.o.rowM (mm:=mm));have V:=af (Blk.rowFar (g:=gM) (c2:=mm.ag) F12.o (by have:=GLT.o;omega));have O13:=af (O12.o.setRow (g:=gM) GL12.o mm.ag);obtain⟨V13_,hV13⟩:=ak (w12.setRow gM mm.ag);rw[<-hV13] at R13 V O13;have HV13:=af hV13;clear hV13)
  |(refine dW rfl (.tmp 22) (.tmp 128) rfl _ mk mm rfl rfl R12.o.M KO.o KMM.o ?_;rw[<-HV13.o];clear HV13)
  |(refine aK 73 (.tmp 24) a 9 V.o bP bC AL.o ?_)
  |(refine bZ rfl 52 (.tmp 132) rfl gM 8 rfl (au mm.p) _ (MB.P R13.o.M KMM.o) aU rfl HIP.o ?_))
 with_reducible refine(KMk.o V13_ A3 c3 O13.o.reads (by have h:=O13.o.cap.1;rw[XSL.o] at h;exact h)).mono ?_
 rintro e' w14_ ⟨A4,c4,n4,er4,rfl,hB⟩
 have R14:=af (R13.o.below hB)
 clear hB R11 R12 R13 F11 F12 V O12 O13 KMk KSP
 have R15:=aj (Xm w (w14_.setCells gM 8 (au np)) e t o gH hp ai x gP ps2 gN now gM mn) (by
  have h:=R14.o.setP KMM.o np NPL.o
  rw[MNE.o] at h
  exact h)
 obtain⟨V15_,hV15⟩:=ak (w14_.setCells gM 8 (au np))
 rw[<-hV15] at R15
 have HV15:=af hV15
 clear hV15
 go_wp2_with(first
  |(refine iY rfl 52 (.tmp 139) (.tmp 137) rfl gM 8 (agi np) rfl rfl (by rw[dX,NPL.o];exact MB.thereP R14.o.M KMM.o) (by rw[dX,NPL.o];exact aJ) (ik _) ?_;rw[show(agi np).toList=au np from rfl,<-HV15.o];clear HV15))
 go_roundw
 case rel=>exact⟨j+1,ah,aT,af (by rw[HMN.o,<-HPS2.o];exact R15.o)⟩
 case measure=>simp[intOf]<;>omega):p:=h
theorem ahA{p:Prop}(h:p:=by
 have KF:=af (fun W=>show Cl 30 #[.agg (au was).toArray,.agg (agi now),.int .i64 (j:Nat)] W (fun e w'=>e=.returned (.agg (agi (frA was now j)))/\Bw W w') from afE was now j W WL.o NL.o hlt)
 have GA:=OZ SW.o SN.o hlt
 have AL:=af (xk was now j)
 obtain⟨a,ha⟩:=ak (frA was now j)
 rw[<-ha] at KF GA AL
 have HA:=af ha
 have HI8:=aj ((Tryz.prog.info? 52).map (·.size)=some (au was).length) (by rw[bf,WL.o];exact aJ)
 have HGA:=af GA
 clear ha GA
 go_wp2_with(first
  |(refine bZ rfl 52 (.tmp 104) rfl gM 0 rfl (au was) _ (by have h:=MB.R C.o.K.M KO.o;rw[RK.o] at h;exact h) aU rfl HI8.o ?_)
  |(refine aK 52 (.tmp 20) now 8 C.o.N aU aJ NL.o ?_))
 with_reducible refine(KF.o wr).mono ?_
 rintro e' w5 ⟨rfl,hB⟩
 have S5:=af (C.o.below hB)
 clear hB C KF
 go_wp2_with(first
  |(refine aQ 73 (.tmp 23) (.tmp 108) Z9 a 9 (IB.new w5 73 Z9) bC rfl AL.o ?_
    have BB:=dI w5 (.cells (agi Z9) 73) (agi a)
    obtain⟨V6,hV⟩:=ak ((w5.alloc (.cells (agi Z9) 73)).setRow w5.heap.size (agi a))
    have W6:=aj (Ew w V6 e3 t o gP gM gN ps mk now w5.heap.size a) (ahm)
    rw[jR] at hV
    rw[<-hV]
    clear hV BB))
 obtain⟨gA,hgA⟩:=ak (w5.heap.size)
 have GLT:=aj (gN<gA) (by rw[hgA];exact S5.o.lt)
 rw[<-hgA] at W6|-
 clear hgA S5
 have GK:=ae6 (was:=was) (now:=now) (o:=o) G0.o j
 rw[<-HMK.o] at GK
 obtain⟨u,hu⟩:=ak (chU mk a (og o j))
 have HU:=aj (enU was now o f j=u) (by rw[hu,HMK.o,HA.o];rfl)
 have UO:=aj (UOk u) (by rw[hu];exact JA)
 have KCH:=af (fun W A1 c1 (h:Rs W W.heap.size A1 (og o j)) (hB:Bw w W)=>show Cl 31 #[.agg mk.cs.toArray,.agg (au a).toArray,.slice A1 40 c1] W (fun e w'=>e=.returned (.agg (agi u))/\Bw W w') from by
  rw[hu]
  exact apc mk KO.o GK a (og o j) HGA.o AL.o A1 c1 W h (afr OL.o hlt) (af6 OG.o) (TT.o.1.below hB) (TT.o.2.1.below hB))
 have GK:=af GK
 clear hu
 have hw40:IntKind.i64.wrap ((j:Int)*40)=(j:Int)*40:=aV
 refine uk [0,3,4,5,6,7,9] [1,2] 8 [10,11] (fun W=>Ew w W e3 t o gP gM gN ps mk now gA a) aB aB rfl ⟨W6.o.R.below (bY _),Blk.drew W6.o.F⟩ (fun _ _ d _ _ h=>uU) ?_
 simp only[jC,o6,uJ,uK]
 refine iG (v:=.int .i64 (j:Nat)) az (fun W=>rfl) ?_
 refine iG (v:=.slice (some t) 80 c2) az (fun W=>rfl) ?_
 refine iG (v:=.int .i64 (j:Nat)) az (fun W=>rfl) ?_
 refine iG (v:=.int .i64 ((j:Int)*40)) az (fun W=>?_) ?_
 ·go_simp
 refine iG (v:=.slice (some (t.add (j*40))) (80-j*40) (c2-j*40)) az (fun W=>?_) ?_
 ·go_simp
  have c80:=C80.o
  rw[if_pos ah,show((j:Int)*40).toNat=j*40 from ah,if_neg ah]
 refine iG (v:=.slice (some (t.add (j*40))) 40 (c2-j*40)) az (fun W=>?_) ?_
 ·go_simp
  have c80:=C80.o
  intro z
  omega
 refine iG (v:=.pointer (some ⟨gP,9,none⟩)) az (fun W=>?_) ?_
 ·go_simp
 refine uj ?_
 simp only[Act.put,bg,bD,bF,bG,bH,bI]
 refine dB (fun K hK=>?_)
 refine lK az 55 (.tmp 19) rfl gM 0 rfl mk.cs _ (fun W hW=>MB.whole hW.R.K.M) kG rfl FU ?_
 refine hK _ ?_;clear hK K
 refine dB (fun K hK=>?_)
 refine lK az 73 (.tmp 23) rfl gA 0 rfl (au a) _ (fun W hW=>iP hW.F [] (au a) [] ay rfl) bP rfl aba ?_
 refine hK _ ?_;clear hK K
 refine uC ?_
 intro W7 hW7
 have R7:=af hW7.R
 have F7:=af hW7.F
 clear hW7 W6 hw40
 obtain⟨pA,hpA⟩:=ak (kd::(i++enF was now o f j))
 obtain⟨pB,hpB⟩:=ak (List.replicate (8-j*8) (0:Int))
 obtain⟨ps2,hps2⟩:=ak (enZ kd i was now o f (j+1))
 have HPA:=aj (ps=pA++(List.replicate 8 0++pB)) (by rw[HPS.o,hpA,hpB];exact afo QL.o hlt)
 have HPB:=aj (ps2=pA++(u++pB)) (by rw[hps2,afp j hlt,HU.o,hpA,hpB])
 have LPA:=aj (pA.length=9+j*8) (ahd)
 have HPS2:=af hps2
 have PL2:=aj (ps2.length=25) (by rw[hps2];exact Bc QL.o ah)
 clear hpA hpB hps2
 have RSH:=af (show Rs W7 W7.heap.size (some (t.add (j*40))) (og o j) from(af7 R7.o.K.J.O OL.o hlt).more (kY R7.o.K.J.lt))
 obtain⟨mn,hmn⟩:=ak (frP false a mk u)
 have HMN:=aj (enK was now o f (j+1)=mn) (by rw[hmn,afq,HU.o,HMK.o,HA.o])
 have KN:=aj (mn.ok) (by rw[hmn];exact Pi false a KO.o UO.o)
 have RN:=aj (mn.r=was) (by rw[hmn,XZ];exact RK.o)
 have RNE:=aj (({mn with r:=was}:Mm)=mn) (by have h:=RN.o;cases mn;simp only at h;rw[h])
 have KHF:=fun W (hB:Bw w W)=>afw mk KO.o a u W (TT.o.1.below hB) (TT.o.2.1.below hB) AL.o UO.o
 rw[(Pj GK.o UO.o HGA.o).1,(Pj GK.o UO.o HGA.o).2,<-hmn] at KHF
 unfold pV at KHF
 generalize frY false a mk u=y at KHF
 have KHF:=af (fun W (hB:Bw w W)=>show Cl 32 #[.agg mk.cs.toArray,.agg (au a).toArray,.agg (au u).toArray] W (fun e w'=> ∃A c,e=.returned (.tuple #[.agg mn.ag,.slice A y.length c])/\Own w' W.heap.size A c y/\Bw W w') from KHF W hB)
 clear hmn
 have HIS:=aj ((Tryz.prog.info? 78).map (·.size)=some (au u).length) (by rw[bf,UO.o.l];exact rG)
 go_wp2_with(first
  |(go_at_call 31;(with_reducible refine(KCH.o W7 _ _ RSH.o R7.o.K.J.L.bel).mono ?_);rintro e' w8 ⟨rfl,hB⟩;have R8:=af (R7.o.below hB);have F8:=af (Blk.below' F7.o hB);clear hB;have R9:=af (R8.o.over (au u) (9+j*8) (IB.over R8.o.K.J.P HPA.o (by rw[UO.o.l];simp) HPB.o LPA.o));have F9:=af (cZ (b:=gP) (by have:=R8.o.l2;have:=R8.o.K.l1;have:=GLT.o;omega) (au u) (9+j*8) _ F8.o);obtain⟨V9,hV9⟩:=ak (w8.setCells gP (9+j*8) (au u));rw[<-hV9] at R9 F9;have HV9:=af hV9;clear hV9)
  |(refine iY rfl 78 (.tmp 119) (.tmp 117) rfl gP (9+j*8) (agi u) rfl rfl (by rw[dX,UO.o.l];exact IB.thereAt R8.o.K.J.P (9+j*8) 8 zH) (by rw[dX,UO.o.l];exact rG) (ik _) ?_;rw[show(agi u).toList=au u from rfl,<-HV9.o];clear HV9)
  |(refine bZ rfl 52 (.tmp 120) rfl gM 0 rfl (au was) _ (by have h:=MB.R R9.o.K.M KO.o;rw[RK.o] at h;exact h) aU rfl HI8.o ?_)
  |(refine aQ 52 (.tmp 24) (.tmp 121) Z8 was 8 (IB.new V9 52 Z8) aJ rfl WL.o ?_
    have BB:=dI V9 (.cells (agi Z8) 52) (agi was)
    obtain⟨V10,hV⟩:=ak ((V9.alloc (.cells (agi Z8) 52)).setRow V9.heap.size (agi was))
    have R10:=aj (Em w V10 e3 t o gP gM gN ps2 mk now) (by rw[hV];exact R9.o.below BB)
    have F10:=aj (IB V10 gA 73 a) (by rw[hV];exact Blk.below' F9.o BB)
    have W10:=aj (IB V10 V9.heap.size 52 was) (by rw[hV];exact IB.stored V9 52 Z8 was)
    rw[dP] at hV
    rw[<-hV]
    clear hV BB))
 obtain⟨gW,U⟩:=ak (V9.heap.size)
 have GWT:=aj (gA<gW) (by rw[U];exact Blk.lt F9.o)
 have HSU:=af (fun W (h:IB W gP 81 ps2)=>show W.rangeAt gP (9+j*8) (au u) from af1 h HPB.o LPA.o)
 rw[<-U] at W10|-
 clear U R7 R8 R9 F7 F8 F9 RSH
 refine uk [] [0,1,2,3,4,5] 6 [7,8,9,10] (fun W=>Ey w W e3 t o gP gM gN ps2 mk now gA a gW was) aB aB rfl ⟨R10.o.below (bY _),Blk.drew F10.o,Blk.drew W10.o⟩ (fun _ _ d _ _ h=>uU) ?_
 simp only[jC,o6,uJ,uK]
 refine uj ?_
 refine dB (fun K hK=>?_)
 refine lK az 55 (.tmp 19) rfl gM 0 rfl mk.cs _ (fun W hW=>MB.whole hW.R.K.M) kG rfl FU ?_
 refine hK _ ?_;clear hK K
 refine dB (fun K hK=>?_)
 refine lK az 73 (.tmp 23) rfl gA 0 rfl (au a) _ (fun W hW=>iP hW.F [] (au a) [] ay rfl) bP rfl aba ?_
 refine hK _ ?_;clear hK K
 iterate 3
  refine dB (fun K hK=>?_)
  go_simp
  apply kX
  refine⟨fun W hW=>rfl,hK _ ?_⟩
  clear hK K
 refine dB (fun K hK=>?_)
 refine lK az 78 (.tmp 127) rfl gP (9+j*8) rfl (au u) _ (fun W hW=>HSU.o _ hW.R.K.J.P) yU rfl HIS.o ?_
 refine hK _ ?_;clear hK K
 refine uC ?_
 intro W11 hW11
 have R11:=af hW11.R
 have G11:=af hW11.B
 clear hW11 R10 F10 W10
 go_wp2_with(first
  |(go_at_call 32;(with_reducible refine(KHF.o W11 R11.o.K.J.L.bel).mono ?_);rintro e' w12 ⟨A3,c3,rfl,hO,hB⟩;have R12:=af (R11.o.below hB);have G12:=af (Blk.below' G11.o hB);clear hO hB;have R13:=af (R12.o.rowM (mm:=mn));have G13:=af (Blk.rowFar (g:=gM) (c2:=mn.ag) G12.o (by have:=R12.o.l2;have:=GLT.o;have:=GWT.o;omega));obtain⟨V13,hV13⟩:=ak (w12.setRow gM mn.ag);rw[<-hV13] at R13 G13;have HV13:=af hV13;clear hV13;have R14:=af (R13.o.setR KN.o was WL.o);rw[RNE.o] at R14;obtain⟨V14b,hV14⟩:=ak (V13.setCells gM 0 (au was));rw[<-hV14] at R14;have HV14:=af hV14;clear hV14)
  |(refine dW rfl (.tmp 19) (.tmp 130) rfl _ mk mn rfl rfl R12.o.K.M KO.o KN.o ?_;rw[<-HV13.o];clear HV13)
  |(refine aK 52 (.tmp 24) was 8 G13.o aU aJ WL.o ?_)
  |(refine iY rfl 52 (.tmp 133) (.tmp 132) rfl gM 0 (agi was) rfl rfl (by rw[dX,WL.o];exact MB.thereR R13.o.K.M KN.o) (by rw[dX,WL.o];exact aJ) (ik _) ?_;rw[show(agi was).toList=au was from rfl,<-HV14.o];clear HV14))
 go_roundw
 case rel=>exact⟨j+1,ah,aT,af (by rw[HMN.o,<-HPS2.o];exact R14.o)⟩
 case measure=>simp[intOf]<;>omega):p:=h
theorem ahB{p:Prop}(h:p:=by
 have KO:=af (KK.o k ah)
 have GO:=af (KG.o k ah)
 have Kn:=af (KK.o (k+1) ah)
 have NM:=aj (frK false was now ps f (k+1)=frP false (frA was now k) (frK false was now ps f k) (bM ps k)) (rfl)
 have NZ:=aj (frZ false was now ps f (k+1)=frZ false was now ps f k++frY false (frA was now k) (frK false was now ps f k) (bM ps k)) (rfl)
 have YL:=af (Az false (frA was now k) (frK false was now ps f k) (bM ps k))
 have LZ:=aj ((frZ false was now ps f k).length=n) (U8)
 have T:=J.o k hlt
 have GA:=KA.o k hlt
 have j:=af (Ph false KO.o T)
 have XL:=af (Pg false (frK false was now ps f k) T)
 have KPd:=af (fun W=>show Cl 47 #[.agg (au (frN false (frK false was now ps f k) (bM ps k)).r).toArray,.agg (au now).toArray,.int .i64 (k:Nat)] W (fun e w'=>e=.returned (.agg (agi (frA was now k)))/\Bw W w') from by
  rw[show(frN false (frK false was now ps f k) (bM ps k)).r=was from by rw[XY,Ya];exact HW.o.symm]
  exact ZG was now k W WL.o NL.o hlt SW.o SN.o)
 have h3:=agE false GO.o T GA
 have KMk:=af (fun W A2 c2 (h:Rs W W.heap.size A2 (frX false (frK false was now ps f k) (bM ps k))) (hc:40<=c2)=>show Cl 50 #[.agg (agi (frA was now k)),.agg (au (frN false (frK false was now ps f k) (bM ps k)).p).toArray,.slice A2 40 c2] W (fun e w'=> ∃A3 c3 er,e=.returned (.tuple #[.slice A3 40 c3,.agg (agi (frP false (frA was now k) (frK false was now ps f k) (bM ps k)).p),.int .i64 er])/\Own w' W.heap.size A3 c3 (frY false (frA was now k) (frK false was now ps f k) (bM ps k))/\Bw W w') from by
  have h1:=D8 (frA was now k) (frN false (frK false was now ps f k) (bM ps k)).p _ A2 c2 40 W (xk _ _ _) j.o.p h XL.o ah hc
  rw[h3.1,h3.2.1] at h1
  refine h1.mono ?_
  rintro e w' ⟨A3,c3,h1,h2,h3⟩
  rw[Az] at h1
  exact⟨A3,c3,_,h1,h2,h3⟩)
 have PM:=af h3.2.2
 clear h3
 have KH:=af (fun W (h:Bw w W)=>show Cl 49 #[.agg (frK false was now ps f k).cs.toArray,.agg (au (bM ps k)).toArray] W (pV W (frN false (frK false was now ps f k) (bM ps k)) (frX false (frK false was now ps f k) (bM ps k))) from
  agD (frK false was now ps f k) KO.o (bM ps k) W (TT1.o.below h) (TT2.o.below h) T (nN (jr GO.o).2.2.1))
 have HSU:=af (fun W gg (h:IB W gg 81 ps)=>show W.rangeAt gg (9+k*8) (au (bM ps k)) from by
  have h2:=h.mid (9+8*k) 8 qi
  rw[show 9+8*k=9+k*8 from ah] at h2
  unfold bM
  rw[show 9+8*k=9+k*8 from ah]
  exact h2)
 have HI35:=aj ((Tryz.prog.info? 78).map (·.size)=some (au (bM ps k)).length) (by rw[bf,T.l];exact rG)
 rw[NM.o] at Kn
 generalize frP false (frA was now k) (frK false was now ps f k) (bM ps k)=mn at*
 generalize frY false (frA was now k) (frK false was now ps f k) (bM ps k)=y at*
 generalize frN false (frK false was now ps f k) (bM ps k)=mm at*
 generalize frX false (frK false was now ps f k) (bM ps k)=x at*
 generalize frA was now k=a at*
 generalize frK false was now ps f k=mk at*
 generalize frZ false was now ps f k=zs at*
 generalize bM ps k=su at*
 have cp:=L.o.F.P.cell 0 qi
 rw[<-P0.o] at cp
 clear KK KG J KA T GA GO
 go_wp2
 refine uk [] [0,1,2,3,4] 5 [6,7,8,9,10] (fun W=>FdO w W mk ps gN now A c zs) aB aB rfl ⟨L.o.below (bY _),Q.o.drew⟩ (fun _ _ d _ _ h=>uU) ?_
 simp only[jC,o6,uJ,uK]
 refine uj ?_
 refine dB (fun K hK=>?_)
 refine lK az 55 (.tmp 2) rfl w.heap.size 0 rfl mk.cs _ (fun W hW=>MB.whole hW.D.F.A) kG rfl FU ?_
 refine hK _ ?_;clear hK K
 iterate 3
  refine dB (fun K hK=>?_)
  go_simp
  apply kX
  refine⟨fun W hW=>rfl,hK _ ?_⟩
  clear hK K
 refine dB (fun K hK=>?_)
 refine lK az 78 (.tmp 39) rfl (w.heap.size+1) (9+k*8) rfl (au su) _ (fun W hW=>HSU.o _ _ hW.D.F.P) yU rfl HI35.o ?_
 refine hK _ ?_;clear hK K
 refine uC ?_
 intro W7 hW7
 have CW:=af hW7.D
 have OW:=af hW7.O
 clear hW7
 have SXW:=aj (gN<W7.heap.size) (CW.o.glt)
 go_wp2_with(first
  |(go_at_call 49;(with_reducible refine(KH.o W7 CW.o.F.bel).mono ?_);rintro e w8 ⟨A2,c2,rfl,hO,hB⟩;have E:=af (CW.o.below hB);have O8:=af (OW.o.below hB);have X8:=af hO;clear hO hB;have C9:=af (E.o.setA (mm:=mm));have O9:=af (O8.o.setRow (g:=w.heap.size) (by have:=E.o.l1;omega) mm.ag);have CAP:=af X8.o.cap.1;have X9:=af (X8.o.setRow (g:=w.heap.size) (by have:=E.o.l1;have:=SXW.o;omega) mm.ag).reads;obtain⟨V9,hV9⟩:=ak (w8.setRow w.heap.size mm.ag);rw[<-hV9] at C9 O9 X9;have HV9:=af hV9;clear hV9;rw[XL.o] at CAP;rw[XL.o])
  |(refine dW rfl (.tmp 2) (.tmp 42) rfl _ mk mm rfl rfl E.o.F.A KO.o j.o ?_;rw[<-HV9.o];clear HV9))
 clear cp
 refine uk [] [0,1,2,3,4,5,6,7] 8 [9,10,11,12,13,14,15] (fun W=>FdX w W mm ps gN now A c zs A2 x) aB aB rfl ⟨C9.o.below (bY _),O9.o.drew,X9.o.below (bY _)⟩ (fun _ _ d _ _ h=>uU) ?_
 simp only[jC,o6,uJ,uK]
 refine uj ?_
 refine dB (fun K hK=>?_)
 go_simp
 apply kX
 refine⟨fun W hW=>rfl,hK _ ?_⟩
 clear hK K
 refine dB (fun K hK=>?_)
 refine lK az 52 (.tmp 45) rfl w.heap.size 0 rfl (au mm.r) _ (fun W hW=>hW.D.F.A.R j.o) aU rfl (by rw[aJ,bf,j.o.r]) ?_
 refine hK _ ?_;clear hK K
 refine dB (fun K hK=>?_)
 refine lK az 52 (.tmp 6) rfl gN 0 rfl (au now) _ (fun W hW=>iP hW.D.N [] (au now) [] ay rfl) aU rfl UA ?_
 refine hK _ ?_;clear hK K
 refine dB (fun K hK=>?_)
 go_simp
 apply kX
 refine⟨fun W hW=>rfl,hK _ ?_⟩
 clear hK K
 refine dB (fun K hK=>?_)
 go_simp
 apply kX
 refine⟨fun W hW=>?_,hK _ ?_⟩
 ·with_reducible exact(KPd.o W).mono fun e w' h=>⟨h.1,hW.below h.2⟩
 clear hK K
 refine dB (fun K hK=>?_)
 go_simp
 apply kX
 refine⟨fun W hW=>rfl,hK _ ?_⟩
 clear hK K
 refine dB (fun K hK=>?_)
 refine lK az 52 (.tmp 50) rfl w.heap.size 8 rfl (au mm.p) _ (fun W hW=>hW.D.F.A.P j.o) aU rfl (by rw[aJ,bf,j.o.p]) ?_
 refine hK _ ?_;clear hK K
 refine dB (fun K hK=>?_)
 go_simp
 apply kX
 refine⟨fun W hW=>rfl,hK _ ?_⟩
 clear hK K
 refine uC ?_
 intro WA U
 have CA:=af U.D
 have OA:=af U.O
 have XA:=af U.X
 clear U
 have SXA:=aj (gN<WA.heap.size) (CA.o.glt)
 go_wp2_with fail
 with_reducible refine(KMk.o WA A2 c2 XA.o CAP.o).mono ?_
 rintro e w11 ⟨A3,c3,er,rfl,hO,hB⟩
 have C11:=af (CA.o.below hB)
 have O11:=af (OA.o.below hB)
 have X11:=af hO
 clear hO hB
 have C12:=aj (Fd w (w11.setCells w.heap.size 8 (au mn.p)) mn ps gN now) (PM.o▸C11.o.setP j.o mn.p Kn.o.p)
 have O12:=af (Own.setCs (g:=w.heap.size) (by have:=C11.o.l1;omega) (au mn.p) 8 _ O11.o)
 have X12:=af (Own.setCs (g:=w.heap.size) (by have:=C11.o.l1;have:=SXA.o;omega) (au mn.p) 8 _ X11.o).reads
 have SZP:=aj ((Tryz.prog.info? 52).map (·.size)=some (agi mn.p).size) (by rw[dX,Kn.o.p];exact aJ)
 have THP:=aj (w11.there w.heap.size 8 (agi mn.p).size) (ahl)
 obtain⟨V12,C⟩:=ak (w11.setCells w.heap.size 8 (au mn.p))
 rw[<-C] at C12 O12 X12
 have HV12:=af C
 clear C
 go_wp2_with(first
  |(refine iY rfl 52 (.tmp 57) (.tmp 55) rfl w.heap.size 8 (agi mn.p) rfl rfl THP.o SZP.o (ik _) ?_;rw[show(agi mn.p).toList=au mn.p from rfl,<-HV12.o];clear HV12)
  |(at_builtin;refine pg rfl (.tmp 58) (.tmp 59) rfl (gN+1) A c n zs rfl LZ.o O12.o V12.heap.size A3 c3 40 y rfl YL.o X12.o kK (by have:=C12.o.glt;omega) ?_;intro A13 c13 w13 hO hG hA;have C13:=af (C12.o.grown O12.o hG);have O13:=af hO;clear hO hG hA))
 go_roundw
 case rel=>exact⟨k+1,A13,c13,n+40,ah,aT,rfl,af kK,af (by rw[NZ.o];exact O13.o),af (by rw[NM.o];exact C13.o)⟩
 case measure=>simp[intOf]<;>omega):p:=h
theorem ahC{p:Prop}(h:p:=by
 clear S4
 obtain⟨k,A,c,n,hk,rfl,rfl,HN,Q,L⟩:=hrel
 by_cases hlt:k<2
 ·have KO:=af (KK.o k ah)
  have GO:=af (KG.o k ah)
  have D:=af (KF.o k hlt)
  have G:=af (xk was now k)
  have Kn:=af (KK.o (k+1) ah)
  have NM:=aj (frK false was now ps m1 (k+1)=frP false (frA was now k) (frK false was now ps m1 k) (bM ps k)) (rfl)
  have NZ:=aj (frZ false was now ps m1 (k+1)=frZ false was now ps m1 k++frY false (frA was now k) (frK false was now ps m1 k) (bM ps k)) (rfl)
  have YL:=af (Az false (frA was now k) (frK false was now ps m1 k) (bM ps k))
  have LZ:=aj ((frZ false was now ps m1 k).length=n) (U8)
  have SI:=aj ((frK false was now ps m1 k).si=false) (by rw[Yb];exact SI1.o)
  have T:=J.o k hlt
  have GA:=KA.o k hlt
  have KH:=af (fun W (h:Bw w W)=>show Cl 32 #[.agg (frK false was now ps m1 k).cs.toArray,.agg (au (frA was now k)).toArray,.agg (au (bM ps k)).toArray] W (pV W (frP false (frA was now k) (frK false was now ps m1 k) (bM ps k)) (frY false (frA was now k) (frK false was now ps m1 k) (bM ps k))) from by
   have h1:=afw (frK false was now ps m1 k) KO.o (frA was now k) (bM ps k) W (TT1.o.below h) (TT2.o.below h) (xk _ _ _) T
   have h2:=Pj GO.o T GA
   rw[h2.1,h2.2] at h1
   exact h1)
  have HSU:=af (fun W gg (h:IB W gg 81 ps)=>show W.rangeAt gg (9+k*8) (au (bM ps k)) from by
   have h2:=h.mid (9+8*k) 8 qi
   rw[show 9+8*k=9+k*8 from ah] at h2
   unfold bM
   rw[show 9+8*k=9+k*8 from ah]
   exact h2)
  have HI35:=aj ((Tryz.prog.info? 78).map (·.size)=some (au (bM ps k)).length) (by rw[bf,T.l];exact rG)
  rw[NM.o] at Kn
  generalize frP false (frA was now k) (frK false was now ps m1 k) (bM ps k)=mn at*
  generalize frY false (frA was now k) (frK false was now ps m1 k) (bM ps k)=y at*
  generalize frA was now k=a at*
  generalize frK false was now ps m1 k=mk at*
  generalize frZ false was now ps m1 k=zs at*
  generalize bM ps k=su at*
  clear KF KK KG J KA T GA GO
  go_wp2_with(first
   |(refine aK 52 (.tmp 9) was 8 L.o.W aU aJ WL.o ?_)
   |(refine aK 52 (.tmp 7) now 8 L.o.N aU aJ NL.o ?_))
  with_reducible refine(D.o _).mono ?_
  rintro e w5 ⟨rfl,hB⟩
  have C5:=af (L.o.below hB)
  have O5:=af (Q.o.below hB)
  have SX5:=af C5.o.glt
  clear hB L Q D
  go_wp2_with(first
   |(refine aQ 73 (.tmp 11) (.tmp 36) Z9 a 9 (IB.new w5 73 Z9) bC rfl G.o ?_
     have BB:=dI w5 (.cells (agi Z9) 73) (agi a)
     obtain⟨V6,hV⟩:=ak ((w5.alloc (.cells (agi Z9) 73)).setRow w5.heap.size (agi a))
     have C6:=aj (Fc w V6 mk ps gN gW now was) (by rw[hV];exact C5.o.below BB)
     have A6:=aj (IB V6 w5.heap.size 73 a) (by rw[hV];exact IB.stored w5 73 Z9 a)
     have O6:=aj (Own V6 (gW+1) A c zs) (by rw[hV];exact O5.o.below BB)
     have d6:=C6.o.F.A.csi KO.o
     rw[SI.o] at d6
     rw[jR] at hV
     rw[<-hV]
     clear hV BB))
  obtain⟨gA,hgA⟩:=ak (w5.heap.size)
  have GLT:=aj (gW<gA) (by rw[hgA];exact SX5.o)
  rw[<-hgA] at A6
  rw[<-hgA]
  clear hgA
  refine uk [] [0,1,2,3,4,5] 6 [7,8,9,10,11] (fun W=>FrC w W mk ps gN gW now was gA a A c zs) aB aB rfl ⟨C6.o.below (bY _),Blk.drew A6.o,O6.o.drew⟩ (fun _ _ d _ _ h=>uU) ?_
  simp only[jC,o6,uJ,uK]
  refine uj ?_
  refine dB (fun K hK=>?_)
  refine lK az 55 (.tmp 2) rfl w.heap.size 0 rfl mk.cs _ (fun W hW=>MB.whole hW.C.F.A) kG rfl FU ?_
  refine hK _ ?_;clear hK K
  refine dB (fun K hK=>?_)
  refine lK az 73 (.tmp 11) rfl gA 0 rfl (au a) _ (fun W hW=>iP hW.F [] (au a) [] ay rfl) bP rfl (by rw[bC,bf,G.o]) ?_
  refine hK _ ?_;clear hK K
  iterate 3
   refine dB (fun K hK=>?_)
   go_simp
   apply kX
   refine⟨fun W hW=>rfl,hK _ ?_⟩
   clear hK K
  refine dB (fun K hK=>?_)
  refine lK az 78 (.tmp 57) rfl (w.heap.size+1) (9+k*8) rfl (au su) _ (fun W hW=>HSU.o _ _ hW.C.F.P) yU rfl HI35.o ?_
  refine hK _ ?_;clear hK K
  refine uC ?_
  intro W7 hW7
  have CW:=af hW7.C
  have OW:=af hW7.O
  clear hW7
  have SXW:=aj (gW<W7.heap.size) (CW.o.glt)
  go_wp2_with(first
   |(go_at_call 32;(with_reducible refine(KH.o W7 CW.o.F.bel).mono ?_);rintro e w8 ⟨A2,c2,rfl,hO,hB⟩;have E:=af (CW.o.below hB);have O8:=af (OW.o.below hB);have X8:=af hO;clear hO hB;have C9:=af (E.o.setA (mm:=mn));have O9:=af (O8.o.setRow (g:=w.heap.size) (by have:=E.o.l1;have:=E.o.l2;omega) mn.ag);have X9:=af (X8.o.setRow (g:=w.heap.size) (by have:=E.o.l1;have:=E.o.l2;have:=SXW.o;omega) mn.ag).reads;obtain⟨V9,hV9⟩:=ak (w8.setRow w.heap.size mn.ag);rw[<-hV9] at C9 O9 X9;have HV9:=af hV9;clear hV9;rw[YL.o])
   |(refine dW rfl (.tmp 2) (.tmp 60) rfl _ mk mn rfl rfl E.o.F.A KO.o Kn.o ?_;rw[<-HV9.o];clear HV9)
   |(at_builtin;refine pg rfl (.tmp 62) (.tmp 63) rfl (gW+1) A c n zs rfl LZ.o O9.o V9.heap.size A2 c2 40 y rfl YL.o X9.o kK (by have:=C9.o.glt;omega) ?_;intro A10 c10 w10 hO hG hA;have C10:=af (C9.o.grown O9.o hG);have O10:=af hO;clear hO hG hA))
  go_roundw
  case rel=>exact⟨k+1,A10,c10,n+40,ah,aT,rfl,af kK,af (by rw[NZ.o];exact O10.o),af (by rw[NM.o];exact C10.o)⟩
  case measure=>simp[intOf]<;>omega
 obtain rfl:k=2:=ah
 obtain rfl:n=80:=HN.o
 obtain⟨mk,hmk⟩:=ak (frK false was now ps m1 2)
 have i:=aj (mk.ok) (Uc)
 have FZ:=af (FM.o mk hmk)
 rw[<-hmk] at L
 rw[<-FO.o _ rfl] at Q
 clear hmk FO FM KK KG KF J KA
 have t:=af (show({mk with r:=now,er:=0}:Mm).ok from⟨NL.o,i.o.p,i.o.e⟩)
 have S8:=af (L.o.F.setRf i.o now NL.o)
 have H:=aj (wr.there w.heap.size 0 (agi now).size) (ahp)
 have O8:=af (Own.setCs (g:=w.heap.size) Ud (au now) 0 _ Q.o)
 have GL:=aj (w.heap.size+3<gW+1) (Ud)
 obtain⟨V8,u⟩:=ak (wr.setCells w.heap.size 0 (au now))
 rw[<-u] at S8 O8
 have x:=af u
 have K8:=af (show({mk with r:=now}:Mm).ok from⟨NL.o,i.o.p,i.o.e⟩)
 have d8:=S8.o.A.cer K8.o
 have f8:=MB.frozen S8.o.A 99
 have S9:=aj (Fb w (V8.setCell ⟨w.heap.size,99,none⟩ (.int .i64 0)) mf ps) (by rw[FZ.o];exact S8.o.setEr K8.o 0)
 have O9:=af (Own.setC (g:=w.heap.size) O8.o jV 99 (.int .i64 0))
 obtain⟨V9,hV9⟩:=ak (V8.setCell ⟨w.heap.size,99,none⟩ (.int .i64 0))
 rw[<-hV9] at S9 O9
 have HV9:=af hV9.symm
 rw[<-FZ.o] at t
 clear u hV9
 go_wp2_with(first
  |(refine aK 52 (.tmp 7) now 8 L.o.N aU aJ NL.o ?_)
  |(refine iY rfl 52 (.tmp 67) (.tmp 66) rfl w.heap.size 0 (agi now) rfl rfl H.o X.o (ik _) ?_;rw[show(agi now).toList=au now from rfl,<-x.o])
  |(rw[HV9.o];clear HV9 d8 f8)
  |(refine iK rfl (.tmp 2) rfl _ mf rfl S9.o.A t.o ?_)
  |(refine dW rfl (.tmp 4) (.tmp 69) rfl _ aZ mf rfl rfl S9.o.R df t.o ?_))
 refine aX (v:=_) (hR _ _ _ mf rfl (MB.setRow S9.o.R mf) t.o) rfl ?_
 exact⟨A,c,Nh,(O9.o.setRow (g:=w.heap.size+2) jV mf.ag).more (base':=w.heap.size) jV,aS S9.o.bel (g:=w.heap.size+2) ah mf.ag⟩):p:=h
theorem ahD{p:Prop}(h:p:=by
 have S0:=S1
 refine xQ (S:=fun W=>Dj w W gK gM n D g e m q) aB ?_
 have L1:=af (Dj.below S0.o (bY _))
 change wpAnyH _ _ _ _ _ _ _ _ (World.drew _)
 obtain⟨t,a⟩:=ak (World.drew B)
 rw[<-a] at L1|-
 clear a
 refine aI 0 (.pointer (some ⟨g,0,none⟩)) rfl (.inl ⟨az,fun W hW=>jf⟩) L1.o ?_
 refine aI 1 (.pointer (some ⟨g,0,none⟩)) rfl (.inl ⟨az,fun W hW=>jf⟩) L1.o ?_
 refine aI 2 (.pointer (some ⟨g,226,none⟩)) rfl (.inl ⟨az,fun W hW=>jf⟩) L1.o ?_
 refine aI 3 (.agg m.cs.toArray) rfl (pY az 55 (.tmp 91) rfl g 226 rfl m.cs _ (fun W hW=>LB.M hW.L KE.o) kG rfl UN) L1.o ?_
 refine aI 4 (.pointer (some ⟨w.heap.size,4,none⟩)) rfl (.inl ⟨az,fun W hW=>jf⟩) L1.o ?_
 refine aI 5 (.slice q.A2 q.n2 q.c2) rfl (.inl ⟨az,fun W hW=>by have h:=hW.c4;go_simp⟩) L1.o ?_
 refine di (rs:=[6,11]) aB ay (bU rfl (fun K hK=>?_) (bU rfl (fun K hK=>?_) dA))
 ·
  go_simp
  with_reducible refine(l.o t L1.o).mono ?_
  rintro e N ⟨A4,c4,rfl,hR,hB⟩
  have H:=aj (w.heap.size+3<=t.heap.size) (L1.o.lt)
  have O:=af (Dj.below L1.o hB)
  have Q2:=af hB
  have R2:=af hR
  clear hR hB
  go_simp
  refine hK.out _ _ O.o (fun _=>?_)
  clear hK K
  refine aI 7 (.tuple #[.agg J.ag,.slice A4 ly c4,.int .i64 er]) rfl (.inl ⟨az,fun W hW=>by(first|rfl|go_simp)⟩) O.o ?_
  refine aI 8 (.agg J.ag) rfl (.inl ⟨az,fun W hW=>by(first|rfl|go_simp)⟩) O.o ?_
  refine aI 9 (.slice A4 ly c4) rfl (.inl ⟨az,fun W hW=>by(first|rfl|go_simp)⟩) O.o ?_
  refine aI 10 (.int .i64 er) rfl (.inl ⟨az,fun W hW=>by(first|rfl|go_simp)⟩) O.o ?_
  refine di (rs:=[11]) aB ay (bU rfl (fun K hK=>?_) dA)
  go_simp
  have X:=af (Dj.below O.o (baqq _ (.cells Tryz.zeroCells55 55)))
  have Z3:=af (oh N)
  obtain⟨W3,Z⟩:=ak (N.alloc (.cells Tryz.zeroCells55 55))
  have Q3:=aj (Bw N W3) (Mc)
  rw[<-Z] at X Z3|-
  clear Z
  obtain⟨gx,s⟩:=ak (N.heap.size)
  have GX:=aj (w.heap.size+3<=gx) (by rw[s];exact O.o.lt)
  have GE:=af s
  rw[<-s] at Z3|-
  clear s
  have R3:=af (R2.o.below Q3.o)
  refine hK.out _ _ X.o (fun _=>?_)
  clear hK K
  refine di (rs:=[12]) aB ay (bU rfl (fun K hK=>?_) dA)
  rw[if_pos az]
  simp only[Act.put,bg,bD,bF,bG,bH,bI]
  refine lF 55 (.tmp 12) (.tmp 96) rfl gx 0 J.ag rfl rfl TM CJ (Mm.one _) ?_
  have u:=af (Dj.far X.o P.o j.o GX.o (J.ag.toList) 0)
  have i:=af (QK Z3.o df K2.o)
  have RF:=af (R2.o.below (iJ (b:=gx) CO J.ag.toList 0 _ Q3.o))
  obtain⟨WF,hWF⟩:=ak (W3.setCells gx 0 J.ag.toList)
  have i:=aj (MB (W3.setCells gx 0 J.ag.toList) gx J) (i.o)
  rw[<-hWF] at u i RF|-
  clear hWF
  refine hK.out _ _ u.o (fun _=>?_)
  clear hK K
  refine aI 13 (.slice A4 ly c4) rfl (.inl ⟨az,fun W hW=>by(first|rfl|go_simp)⟩) u.o ?_
  refine aI 14 (.int .i64 er) rfl (.inl ⟨az,fun W hW=>by(first|rfl|go_simp)⟩) u.o ?_
  refine mO aB ?_ _
  go_wp2_with fail
  go_meet
  exact⟨gx,A4,c4,rfl,rfl,rfl,GX,u,i,af (RF.o.more H.o)⟩
 
 go_simp
 have O:=af (Dj.below L1.o (baqq _ (.cells Tryz.zeroCells55 55)))
 have Z2:=af (oh t)
 obtain⟨N,hW2⟩:=ak (t.alloc (.cells Tryz.zeroCells55 55))
 have Q2:=aj (Bw t N) (Md)
 rw[<-hW2] at O Z2|-
 clear hW2
 obtain⟨gx,s⟩:=ak (t.heap.size)
 have GX:=aj (w.heap.size+3<=gx) (by rw[s];exact L1.o.lt)
 have GE:=af s
 rw[<-s] at Z2|-
 clear s
 refine hK.out _ _ O.o (fun _=>?_)
 clear hK K
 refine di (rs:=[6]) aB ay (bU rfl (fun K hK=>?_) dA)
 go_simp
 with_reducible refine(l.o N O.o).mono ?_
 rintro e W3 ⟨A4,c4,rfl,hR,hB⟩
 have H:=aj (w.heap.size+3<=N.heap.size) (O.o.lt)
 have Q:=aj (gx<N.heap.size) (Blk.lt Z2.o)
 have X:=af (Dj.below O.o hB)
 have Q3:=af hB
 have Z3:=af (Blk.below' Z2.o Q3.o)
 have R3:=af hR
 clear hR hB
 go_simp
 refine hK.out _ _ X.o (fun _=>?_)
 clear hK K
 refine aI 7 (.tuple #[.agg J.ag,.slice A4 ly c4,.int .i64 er]) rfl (.inl ⟨az,fun W hW=>by(first|rfl|go_simp)⟩) X.o ?_
 refine aI 8 (.agg J.ag) rfl (.inl ⟨az,fun W hW=>by(first|rfl|go_simp)⟩) X.o ?_
 refine aI 9 (.slice A4 ly c4) rfl (.inl ⟨az,fun W hW=>by(first|rfl|go_simp)⟩) X.o ?_
 refine aI 10 (.int .i64 er) rfl (.inl ⟨az,fun W hW=>by(first|rfl|go_simp)⟩) X.o ?_
 refine di (rs:=[12]) aB ay (bU rfl (fun K hK=>?_) dA)
 rw[if_pos az]
 simp only[Act.put,bg,bD,bF,bG,bH,bI]
 refine lF 55 (.tmp 12) (.tmp 96) rfl gx 0 J.ag rfl rfl TM CJ (Mm.one _) ?_
 have u:=af (Dj.far X.o P.o j.o GX.o (J.ag.toList) 0)
 have i:=af (QK Z3.o df K2.o)
 have RF:=af (Own.setCs (g:=gx) Q.o J.ag.toList 0 _ R3.o)
 obtain⟨WF,hWF⟩:=ak (W3.setCells gx 0 J.ag.toList)
 have i:=aj (MB (W3.setCells gx 0 J.ag.toList) gx J) (i.o)
 rw[<-hWF] at u i RF|-
 clear hWF
 refine hK.out _ _ u.o (fun _=>?_)
 clear hK K
 refine aI 13 (.slice A4 ly c4) rfl (.inl ⟨az,fun W hW=>by(first|rfl|go_simp)⟩) u.o ?_
 refine aI 14 (.int .i64 er) rfl (.inl ⟨az,fun W hW=>by(first|rfl|go_simp)⟩) u.o ?_
 refine mO aB ?_ _
 go_wp2_with fail
 go_meet
 exact⟨gx,A4,c4,rfl,rfl,rfl,GX,u,i,af (RF.o.more H.o)⟩):p:=h
theorem abh{p:Prop}(h:p:=by
 have PTO:dD ps 25=true:=by rw[<-HPK.o];exact Qj _ _ _
 have PLN:ps.length=25:=by rw[<-HPK.o];exact Qk _ _ _
 have KP:=af (fun W (h:Bw w W)=>aov ps W (TT.o.2.2.below h) PLN (af2 PTO PLN))
 unfold Qi at KP
 rw[show Aw ps=0 from if_pos PTO] at KP
 have KFM:=af (fun W (h:Bw w W)=>show Cl 34 #[.agg e.m.cs.toArray,.agg (agi ps)] W (pV W (frM e.m ps) (frO e.m ps)) from afF e.m K.o.m HG.o ps W (TT.o.1.below h) (TT.o.2.1.below h) (TT.o.2.2.below h) PTO PLN)
 have KMF:=af (D7 K.o.m PTO PLN)
 have PLN:=af PLN
 have e4q:=aj (enE e s rr={e3 with m:=frM e.m ps}) (by
  unfold enE
  rw[if_pos HE.o,HPK.o,<-HHP.o]
  exact(HE3.o _).symm)
 have HBS:=aj (jk e s rr=qY ps) (by unfold jk;rw[if_pos HE.o,HPK.o])
 have HYS:=aj (enY e s rr=frO e.m ps) (by unfold enY;rw[if_pos HE.o,HPK.o])
 clear PTO HPK HPS
 generalize frM e.m ps=mf at*
 generalize frO e.m ps=yf at*
 generalize qY ps=bs at*
 obtain⟨e4,he4⟩:=ak ({e3 with m:=mf}:En)
 rw[<-he4] at e4q
 have K4:=aj (e4.ok) (by rw[he4];exact⟨V.o.h,V.o.x,KMF.o⟩)
 go_wp2_with(first
  |(refine aK 81 (.tmp 15) ps 25 J0.o.P gu dF PLN.o ?_))
 with_reducible refine(KP.o wr J0.o.L.bel).mono ?_
 rintro e' w20 ⟨A4,c4,rfl,hO,hB⟩
 have J1:=af (J0.o.below hB)
 have B20:=af hO
 have LT20:=af J0.o.L.lt
 clear hO hB J0 KP
 go_wp2_with(first
  |(refine bZ rfl 55 (.tmp 145) rfl w.heap.size 124 rfl e.m.cs _ (by have h:=EB.M J1.o.L.E V.o;rw[HM3.o] at h;exact h) kG rfl HIM.o ?_)
  |(refine aK 81 (.tmp 15) ps 25 J1.o.P gu dF PLN.o ?_))
 with_reducible refine(KFM.o w20 J1.o.L.bel).mono ?_
 rintro e' w21 ⟨A5,c5,rfl,hO,hB⟩
 have S21:=af (J1.o.L.below hB)
 have B21:=af (B20.o.below hB)
 have O21:=af hO
 have LT21:=af J1.o.L.lt
 clear hO hB J1 KFM B20
 have S22:=af (S21.o.sets (e':=e4) mf.cs 124 (by rw[he4];exact S21.o.E.set_m V.o mf KMF.o))
 have B22:=af (JM (g:=w.heap.size) MQ mf.cs 124 _ B21.o)
 have O22:=af (Own.setCs (g:=w.heap.size) (by have:=LT21.o;omega) mf.cs 124 _ O21.o)
 obtain⟨V22,hV22⟩:=ak (w21.setCells w.heap.size 124 mf.cs)
 rw[<-hV22] at S22 B22 O22
 have HV22:=af hV22
 clear hV22 he4
 go_wp2_with(first
  |(refine iY rfl 55 (.tmp 151) (.tmp 149) rfl w.heap.size 124 mf.ag rfl rfl (by rw[mf.size KMF.o];exact EB.thereM S21.o.E V.o) (by rw[mf.size KMF.o];exact sS) mf.one ?_;rw[show mf.ag.toList=mf.cs from rfl,<-HV22.o];clear HV22)
  |(refine YZ rfl (.tmp 3) rfl _ e4 rfl S22.o.E K4.o ?_)
  |(refine rF rfl (.tmp 6) (.tmp 152) rfl _ eH e4 rfl rfl S22.o.Z ig K4.o ?_))
 refine aX (v:=_) (hR _ _ _ e4 rfl (EB.setRow S22.o.Z e4) K4.o) rfl ?_
 unfold EncOut
 rw[<-HRR.o,e4q.o,HBS.o,HYS.o,HE.o]
 exact⟨A4,c4,A5,c5,rfl,(Zo B22.o (g:=w.heap.size+1) MQ e4.ag).more (base':=w.heap.size) MQ,(O22.o.setRow (g:=w.heap.size+1) (by have:=LT21.o;omega) e4.ag).more (base':=w.heap.size) (by have:=LT21.o;omega),aS S22.o.bel (g:=w.heap.size+1) ah e4.ag⟩):p:=h
theorem ahE{p:Prop}(h:p:=by
 obtain rfl:k=2:=ah
 obtain rfl:n=80:=HN.o
 obtain⟨mk,hmk⟩:=ak (frK false was now ps f 2)
 have i:=aj (mk.ok) (Uc)
 have FZ:=af (FM.o mk hmk)
 rw[<-hmk] at L
 rw[<-FO.o _ rfl] at Q
 clear hmk FO FM KK KG J KA
 have cp:=af (fun W (h:IB W (w.heap.size+1) 81 ps)=>show W.cell? ⟨w.heap.size+1,0,none⟩=some (.int .i64 pp) from by
  have h2:=h.cell 0 qi
  rw[<-P0.o] at h2
  exact h2)
 go_wp2
 have GL:=aj (w.heap.size+3<gN+1) (F6)
 have G:wr.drew.rangeAt gN 0 (au now)/\wr.drew.cell? ⟨w.heap.size+1,0,none⟩=some (.int .i64 pp):=⟨iP (Blk.drew L.o.N) [] (au now) [] ay rfl,cp.o wr.drew (Blk.drew L.o.F.P)⟩
 refine xQ (S:=(fun W=>W.rangeAt gN 0 (au now)/\W.cell? ⟨w.heap.size+1,0,none⟩=some (.int .i64 pp))) aB ?_
 change wpAnyH _ _ _ _ _ _ _ _ wr.drew
 refine aI 1 (.pointer (some ⟨w.heap.size+1,0,none⟩)) rfl (.inl ⟨az,fun W hW=>jf⟩) G ?_
 refine aI 2 (.int .i64 pp) rfl (.inl ⟨az,fun W hW=>by have hc:=hW.2;go_simp⟩) G ?_
 refine aI 3 (.bool false) rfl (.inl ⟨az,fun W hW=>jf⟩) G ?_
 refine aI 0 (.agg (au now).toArray) rfl (pY az 52 (.tmp 6) rfl gN 0 rfl (au now) _ (fun W hW=>hW.1) aU rfl UA) G ?_
 refine aI 4 (.pointer (some ⟨w.heap.size,0,none⟩)) rfl (.inl ⟨az,fun W hW=>jf⟩) G ?_
 have S8:=af (show Fb w (wr.drew.setCells w.heap.size 0 (au now)) {mk with r:=now} ps from(L.o.F.below (bY _)).setRf i.o now NL.o)
 have N8:=aj (IB (wr.drew.setCells w.heap.size 0 (au now)) gN 52 now) (cZ F6 _ _ _ (Blk.drew L.o.N))
 have H:=aj (wr.drew.there w.heap.size 0 (au now).toArray.size) (by
  have h2:=(L.o.F.below (bY _)).A.thereR i.o
  have e:(au now).toArray.size=8:=by rw[zk,bf,NL.o]
  rw[e]
  exact h2)
 have SZN:=aj ((Tryz.prog.info? 52).map (·.size)=some (au now).toArray.size) (aht)
 have O8:=af (Own.setCs (g:=w.heap.size) jV (au now) 0 _ Q.o.drew)
 obtain⟨V8,u⟩:=ak (wr.drew.setCells w.heap.size 0 (au now))
 rw[<-u] at S8 O8 N8
 have K8:=af (show({mk with r:=now}:Mm).ok from⟨NL.o,i.o.p,i.o.e⟩)
 have HS8:V8.rangeAt gN 0 (au now)/\V8.cell? ⟨w.heap.size+1,0,none⟩=some (.int .i64 pp):=⟨iP N8.o [] (au now) [] ay rfl,cp.o V8 S8.o.P⟩
 have d8:=S8.o.A.cer K8.o
 have f8:=MB.frozen S8.o.A 99
 have S9:=af (S8.o.setEr K8.o 0)
 have N9:=af (Blk.far N8.o (p:=⟨w.heap.size,99,none⟩) (show gN≠w.heap.size by have:=GL.o;have:=L.o.l1;omega) (.int .i64 0))
 have O9:=af (Own.setC (g:=w.heap.size) O8.o jV 99 (.int .i64 0))
 have K9:=af (show({mk with r:=now,er:=0}:Mm).ok from⟨NL.o,i.o.p,i.o.e⟩)
 refine di (rs:=[5]) aB ay (bU rfl (fun K hK=>?_) dA)
 rw[if_pos az]
 simp only[Act.put,bg,bD,bF,bG,bH,bI]
 refine lF 52 (.tmp 65) (.tmp 61) rfl w.heap.size 0 (au now).toArray rfl rfl H.o SZN.o (ik _) ?_
 rw[show(au now).toArray.toList=au now from rfl,<-u]
 refine hK.out _ _ HS8 (fun _=>?_)
 clear hK K u
 refine aI 6 (.pointer (some ⟨w.heap.size,99,none⟩)) rfl (.inl ⟨az,fun W hW=>jf⟩) HS8 ?_
 refine di (rs:=[7]) aB ay (bU rfl (fun K hK=>?_) dA)
 go_simp
 obtain⟨V9,hV9⟩:=ak (V8.setCell ⟨w.heap.size,99,none⟩ (.int .i64 0))
 rw[<-hV9] at S9 O9 N9|-
 have HS9:V9.rangeAt gN 0 (au now)/\V9.cell? ⟨w.heap.size+1,0,none⟩=some (.int .i64 pp):=⟨iP N9.o [] (au now) [] ay rfl,cp.o V9 S9.o.P⟩
 have d9:=S9.o.A.csi K9.o
 have f9:=MB.frozen S9.o.A 101
 have I:=aj (Fb w (V9.setCell ⟨w.heap.size,101,none⟩ (.bool false)) mf ps) (by rw[FZ.o];exact S9.o.setSi K9.o false)
 have N10:=af (Blk.far N9.o (p:=⟨w.heap.size,101,none⟩) (show gN≠w.heap.size from F6) (.bool false))
 have O10:=af (Own.setC (g:=w.heap.size) O9.o jV 101 (.bool false))
 refine hK.out _ _ HS9 (fun _=>?_)
 clear hK K hV9 d8 f8
 refine aI 8 (.pointer (some ⟨w.heap.size,101,none⟩)) rfl (.inl ⟨az,fun W hW=>jf⟩) HS9 ?_
 refine di (rs:=[9]) aB ay (bU rfl (fun K hK=>?_) dA)
 go_simp
 obtain⟨V10,b⟩:=ak (V9.setCell ⟨w.heap.size,101,none⟩ (.bool false))
 rw[<-b] at I O10 N10|-
 have HS10:V10.rangeAt gN 0 (au now)/\V10.cell? ⟨w.heap.size+1,0,none⟩=some (.int .i64 pp):=⟨iP N10.o [] (au now) [] ay rfl,cp.o V10 I.o.P⟩
 refine hK.out _ _ HS10 (fun _=>?_)
 clear hK K b d9 f9 HS8 HS9 HS10 G
 refine mO aB ?_ _
 have t:=aj (mf.ok) (by rw[FZ.o];exact⟨NL.o,i.o.p,i.o.e⟩)
 try simp only[Exit.then]
 go_wp2_with(first
  |(refine iK rfl (.tmp 2) rfl _ mf rfl I.o.A t.o ?_)
  |(refine dW rfl (.tmp 4) (.tmp 68) rfl _ aZ mf rfl rfl I.o.R df t.o ?_))
 refine aX (v:=_) (hR _ _ _ mf rfl (MB.setRow I.o.R mf) t.o) rfl ?_
 exact⟨A,c,Nh,(O10.o.setRow (g:=w.heap.size+2) jV mf.ag).more (base':=w.heap.size) jV,aS I.o.bel (g:=w.heap.size+2) ah mf.ag⟩):p:=h
theorem Gx{p:Prop}(h:p:=by
 obtain⟨ad,rfl,hadb,k0⟩:=S0.o.F.V.reads.at_ (k:=i) (by rw[S0.o.F.hv];exact hlt)
 have k1:=S0.o.q1
 have ER:=aj (rIx vs q.v (i+1)=if vs.getD i 0=q.v then(i:Int) else rIx vs q.v i) (rfl)
 generalize vs.getD i 0=x at k0 ER
 by_cases hq:x=q.v
 ·have b1:(x==q.v)=true:=by simpa using hq
  have ER:=af (ER.o.trans (if_pos hq))
  clear hq
  go_wp2
  go_roundw
  case rel=>exact⟨i+1,ah,by rw[ER.o],aT,af trivial⟩
  case measure=>simp[intOf]<;>omega
 have b1:(x==q.v)=false:=by simpa using hq
 have ER:=af (ER.o.trans (if_neg hq))
 clear hq
 go_wp2
 go_roundw
 case rel=>exact⟨i+1,ah,by rw[ER.o],aT,af trivial⟩
 case measure=>simp[intOf]<;>omega):p:=h
theorem zL{p:Prop}(h:p:=by
 go_wp2_with(first
  |(go_at_call 92;(first|(with_reducible refine d.o.mono ?_)|(with_reducible refine f.o.mono ?_));rintro e w' ⟨rfl,rfl⟩)
  |(go_at_call 91;(first|(with_reducible refine a.o.mono ?_)|(with_reducible refine C4.o.mono ?_)|(with_reducible refine C5.o.mono ?_)|(with_reducible refine C6.o.mono ?_)|(with_reducible refine S.o.mono ?_));rintro e w' ⟨rfl,rfl⟩))
 go_ret
 exact⟨qO,H.o⟩):p:=h
theorem ahF{p:Prop}(h:p:=by
 have d:=af d
 have Q:=af R
 have IL:=af IL
 clear R c0 k0 c1 k1 c2 k2 c3 I c4 P c5 b c6 u c7 r
 go_wp2
 go_loopw[10,11] (fun sv iv wr=> ∃(k:Nat) (s:Int),k<=8/\iv=.int .i64 ((k+1:Nat):Int)/\sv=.int .i64 s/\Hy (s=2048+aN (oN a [B,z,y2,K,f,j,G,J]) k)/\Hy (Blk wr w.heap.size 73 (agi a))/\Hy (IB wr g9 52 [B,z,y2,K,f,j,G,J])/\Hy (Bw w wr)) (fun _ iv _=>9-(intOf iv).toNat)
 case atStart=>exact⟨0,2048,ah,rfl,rfl,af rfl,d,Q,IL⟩
 case round=>
  clear d Q IL
  obtain⟨k,s,hk,rfl,rfl,M,d,Q,IL⟩:=hrel
  by_cases hlt:k<8
  ·have Y:=IB.cell d.o (k+1) Vk
   have cy:=IB.cell Q.o k (by simpa using hlt)
   have L:=Xo OA.o q.o k
   have sb:=Og OA.o q.o k
   have HT:=af (show 2048+aN (oN a [B,z,y2,K,f,j,G,J]) (k+1)=s+oN a [B,z,y2,K,f,j,G,J] k by rw[M.o];simp only[aN];omega)
   have Z:=M.o
   have s1: -300000000000<=s:=ah
   have s2:s<=300000000000:=ah
   clear Z sb M
   obtain⟨t,F⟩:=ak (oN a [B,z,y2,K,f,j,G,J] k)
   rw[<-F] at HT L
   unfold oN at F
   generalize a.getD (k+1) 0=x at*
   generalize [B,z,y2,K,f,j,G,J].getD k 0=y at*
   subst F
   obtain⟨t1,t2⟩:=L
   have i1:((k+1:Nat):Int)<=8:=ah
   have i2:((k+1:Nat):Int)<9:=ah
   have i3:(k:Int)<8:=ah
   have T:IntKind.i64.wrap (((k+1:Nat):Int)-1)=(k:Nat):=aV
   have X:IntKind.i64.wrap (x*y)=x*y:=aV
   have hwC:IntKind.i64.wrap (s+x*y)=s+x*y:=aV
   go_wp2
   go_region
   all_goals
    clear T X hwC
    go_wp2
    go_roundw
    case rel=>exact⟨k+1,_,ah,aT,rfl,af HT.o.symm,d,Q,af IL.o.drew⟩
    case measure=>simp[intOf]<;>omega
  obtain rfl:k=8:=ah
  have sb:=Og OA.o q.o 8
  have Z:=M.o
  have s1: -300000000000<=s:=ah
  have s2:s<=300000000000:=ah
  have HF:=af (show s/4096=pI a [B,z,y2,K,f,j,G,J] by unfold pI;rw[M.o])
  have KD:=af (fun W=>NC s W ah ah)
  clear Z sb
  go_wp2_with(go_at_call 94;(with_reducible refine(KD.o _).mono ?_);rintro e w9 ⟨rfl,hB⟩;have U:=af hB;clear hB)
  go_ret
  exact⟨by rw[<-HF.o];rfl,aH IL.o U.o⟩):p:=h
theorem ahG{p:Prop}(h:p:=by
 obtain⟨k,s,hk0,hk,rfl,rfl,C,H⟩:=hrel
 by_cases hlt:k<40
 ·have sb:=ac3 ring p q k
  have ST:=af (show aN (enT ring p q) (k+1)=s+s16 (ring.getD (k-p) 0)*s16 (ring.getD (k-q) 0) by
   rw[C.o];simp only[aN];unfold enT jc;rw[if_pos ah,if_pos ah])
  have Z:=C.o
  rw[<-Z] at sb
  have s1: -1073741824000<=s:=ah
  have s2:s<=1073741824000:=ah
  clear Z sb
  obtain⟨ad,rfl,hadb,c0⟩:=(HR.o.below H.o).at_ (k:=k-p) (by rw[f.o];omega)
  obtain⟨t,v,_,c1⟩:=(HR.o.below H.o).at_ (k:=k-q) (by rw[f.o];omega)
  injection v with v
  subst v
  generalize ring.getD (k-p) 0=x at*
  generalize ring.getD (k-q) 0=y at*
  obtain⟨m,O⟩:=ak (k-p)
  obtain⟨J,d⟩:=ak (k-q)
  rw[<-O] at c0
  rw[<-d] at c1
  have I:IntKind.i64.wrap ((k:Int)-(p:Nat))=(m:Nat):=aV
  have hw1:IntKind.i64.wrap ((k:Int)-(q:Nat))=(J:Nat):=aV
  have xr:=nI x
  have yr:=nI y
  have T:Hy (∀W,Cl 150 #[.int .i64 x] W fun e w'=>e=.returned (.int .i64 (s16 x))/\w'=W):=af (fun W=>(zY x W).mono fun _ _ h=>⟨h.1,h.2.symm⟩)
  have KY:Hy (∀W,Cl 150 #[.int .i64 y] W fun e w'=>e=.returned (.int .i64 (s16 y))/\w'=W):=af (fun W=>(zY y W).mono fun _ _ h=>⟨h.1,h.2.symm⟩)
  generalize s16 x=x' at*
  generalize s16 y=y' at*
  obtain⟨p1,p2⟩:=nO xr.1 xr.2 yr.1 yr.2
  have hw2:IntKind.i64.wrap (x'*y')=x'*y':=aV
  have hw3:IntKind.i64.wrap (s+x'*y')=s+x'*y':=aV
  have i1:(m:Int)<40:=ah
  have i2:(0:Int)<=m:=ah
  have i3:(J:Int)<40:=ah
  have i4:(0:Int)<=J:=ah
  have HM:=af O
  have F:=af d
  clear O d xr yr
  go_wp2
  go_quiet ((go_at_call 150;first|(with_reducible exact oW (T.o _))|(with_reducible exact oW (KY.o _))))
  clear I hw1 hw2 hw3
  go_wp2
  go_roundw
  case rel=>exact⟨k+1,_,ah,ah,aT,rfl,af ST.o.symm,af (aH H.o (jL _ _))⟩
  case measure=>simp[intOf]<;>omega
 obtain rfl:k=40:=ah
 go_wp2
 go_ret2
 exact⟨by rw[HV.o,M.o,ac2,<-C.o];rfl,H.o⟩):p:=h
theorem ahH{p:Prop}(h:p:=by
 have KF2:=af (fun W h=>f.o W h HG.o he)
 have l:=af (t.o he)
 have s:=af (b.o HE.o)
 have u:=af (d.o HE.o)
 have LO:=af (Jk m (unL xs))
 rw[he]
 clear he x b d FM B f t z
 generalize unL xs=ps at*
 generalize frM m ps=mf at*
 generalize frO m ps=yf at*
 go_wp2_with(first
  |(refine aQ 81 (.tmp 7) (.tmp 17) Z25 ps 25 (IB.new w2 81 Z25) dF rfl C.o ?_
    have BB:=dI w2 (.cells (agi Z25) 81) (agi ps)
    obtain⟨V3,hV⟩:=ak ((w2.alloc (.cells (agi Z25) 81)).setRow w2.heap.size (agi ps))
    have S3:=aj (Ms w V3 m) (FN)
    have P3:=aj (IB V3 w2.heap.size 81 ps) (by rw[hV];exact aoP w2 ps)
    rw[Qx] at hV
    rw[<-hV]
    clear hV BB)
  |(refine iK rfl (.tmp 2) rfl _ m rfl S3.o.A K.o ?_)
  |(refine aK 81 (.tmp 7) ps 25 P3.o gu dF C.o ?_))
 with_reducible refine(KF2.o V3 S3.o.bel).mono ?_
 rintro e w4 ⟨A4,c4,rfl,hO,hB⟩
 have S4:=af (S3.o.below hB)
 have O4:=af hO
 have P:=af S3.o.lt
 clear hO hB
 have S5:=af (S4.o.setA (mm:=mf))
 have O5:=af (O4.o.setRow (g:=w.heap.size) uT mf.ag)
 obtain⟨E,i⟩:=ak (w4.setRow w.heap.size mf.ag)
 rw[<-i] at S5 O5
 have j:=af i
 clear i
 rw[LO.o]
 go_wp2_with(first
  |(refine dW rfl (.tmp 2) (.tmp 27) rfl _ m mf rfl rfl S4.o.A K.o l.o ?_;rw[<-j.o];clear j)
  |(refine iK rfl (.tmp 2) rfl _ mf rfl S5.o.A l.o ?_)
  |(refine dW rfl (.tmp 4) (.tmp 29) rfl _ aZ mf rfl rfl S5.o.R df l.o ?_))
 refine aX (v:=_) (hR _ _ _ mf rfl (MB.setRow S5.o.R mf) l.o) rfl ?_
 rw[s.o,u.o,HE.o]
 exact⟨A4,c4,Nh,(O5.o.setRow (g:=w.heap.size+1) uT mf.ag).more (base':=w.heap.size) uT,aS S5.o.bel (g:=w.heap.size+1) ah mf.ag⟩):p:=h
theorem Gy{p:Prop}(h:p:=by
 refine aX (v:=_) (hR _ _ _ _ _ rfl (Blk.setRow_ R1.o _) eX rfl bV) rfl ?_
 rw[f.o,e.o]
 exact⟨rfl,d.o.row (b:=w.heap.size+1) CY (fun a ha=>CP) (fun a ha=>CQ) _,aS B1.o (g:=w.heap.size+1) ah _⟩):p:=h
theorem ahI{p:Prop}(h:p:=by
 have Z0:=af (u.o.z P.o j.o)
 have Z1:=af (Z0.o.ans 0 (.int .i64 er))
 have B1:=af (u.o.bel.setCell (p:=⟨w.heap.size+1+1,0,none⟩) qM (.int .i64 er))
 obtain⟨VA,C⟩:=ak (wc.setCell ⟨w.heap.size+1+1,0,none⟩ (.int .i64 er))
 rw[<-C] at Z1 B1
 have U:=af C.symm
 have T4:=aj (Blk VA (w.heap.size+1+1) 34 (aY er q.v none 0 0 none 0 0)) (Z1.o.T)
 have t0:=Blk.cell Z0.o.T 0
 have f0:=Blk.frozen Z0.o.T 0
 have ne0:(er==0)=false:=by have:=y.o;simpa using this
 have ne1: ¬er=0:=y.o
 clear C k1 l S1
 go_wp2_with(first
  |(rw[U.o];clear U t0 f0)
  |(refine jY rfl 34 (.tmp 5) rfl _ 34 _ _ rfl T4.o eX rfl bV ?_)
  |(refine jX rfl 34 (.tmp 4) (.tmp 133) rfl _ 34 _ (aY er q.v none 0 0 none 0 0) rfl rfl Z1.o.R bV rfl (kM _ _ _ _ _ _ _ _) ?_))
 refine aX (v:=_) (hR _ _ _ _ _ rfl (Blk.setRow_ Z1.o.R _) eX rfl bV) rfl ?_
 exact⟨rfl,Z1.o.D.row iZ iZ _,Blk.rowFar Z1.o.L Gh,aS B1.o ah _⟩):p:=h
theorem ahJ{p:Prop}(h:p:=by
 clear i
 have cC:(a.setRow (g+1) (agi x)).cell? ⟨g+3,0,none⟩=some (.int .i64 s.c):=Blk.cell (Blk.rowFar (c2:=agi x) (g:=g+1) f.o.C ah) 0
 have cE:(a.setRow (g+1) (agi x)).cell? ⟨g+4,0,none⟩=some (.int .i64 s.e):=Blk.cell (Blk.rowFar (c2:=agi x) (g:=g+1) f.o.E ah) 0
 have cF:(a.setRow (g+1) (agi x)).cell? ⟨g+2,0,none⟩=some (.bool s.first):=Blk.cell (Blk.rowFar (c2:=agi x) (g:=g+1) f.o.F ah) 0
 have fC:=Blk.frozen (Blk.rowFar (c2:=agi x) (g:=g+1) f.o.C ah) 0
 have fE:=Blk.frozen (Blk.rowFar (c2:=agi x) (g:=g+1) f.o.E ah) 0
 have fF:=Blk.frozen (Blk.rowFar (c2:=agi x) (g:=g+1) f.o.F ah) 0
 have j:=af (f.o.put x C E)
 have l:=af (k.o.put x C E)
 have XS:=af f.o.X
 have n34: ¬g+3=g+4:=ah
 have n32: ¬g+3=g+2:=ah
 have n42: ¬g+4=g+2:=ah
 go_wp2_with(first
  |(refine aK 76 (.tmp 7) x 4 QX.o iO fO P.o ?_)
  |(refine aQ 76 (.tmp 6) (.tmp 25) s.at_ x 4 XS.o fO m.o P.o ?_))
 go_end0
 exact⟨rfl,by rw[r.o];exact j.o,l.o⟩):p:=h
theorem ahK{p:Prop}(h:p:=by
 rename_i hHeldZ
 clear hHeldZ
 clear k0 k1 k2 I l0 l1 l2 l3 z0 z1 z2 z3 B z y2 K
 simp only[Exit.then]
 have RF:=aj (IB ((((w3.setCell ⟨w.heap.size,0,none⟩ (.int .i64 u)).setCell ⟨w.heap.size,1,none⟩ (.int .i64 N)).setCell ⟨w.heap.size,2,none⟩ (.int .i64 J)).setCell ⟨w.heap.size,3,none⟩ (.int .i64 f)) w.heap.size 76 [u,N,J,f]) (IB.set_ (IB.set_ (IB.set_ (IB.set_ m.o 0 u) 1 N) 2 J) 3 f)
 have BF:=af (show Bw w ((((w3.setCell ⟨w.heap.size,0,none⟩ (.int .i64 u)).setCell ⟨w.heap.size,1,none⟩ (.int .i64 N)).setCell ⟨w.heap.size,2,none⟩ (.int .i64 J)).setCell ⟨w.heap.size,3,none⟩ (.int .i64 f)) from(((B4.o.setCell (p:=⟨w.heap.size,0,none⟩) (ax _) _).setCell (p:=⟨w.heap.size,1,none⟩) (ax _) _).setCell (p:=⟨w.heap.size,2,none⟩) (ax _) _).setCell (p:=⟨w.heap.size,3,none⟩) (ax _) _)
 go_wp2
 refine aX (v:=_) (hR _ _ _ 76 [u,N,J,f] _ 4 rfl RF.o iO rfl fO rfl) rfl ?_
 have:=FG.o _ BF.o
 rw[HP.o] at this
 exact this):p:=h
theorem abj{p:Prop}(h:p:=by
 clear G
 have Y:=aj (jQ m half=aZ) (Us)
 have B:=aj (lg m half=[]) (Ut)
 have I:=af (MB.setRow S1.o.R aZ)
 have D:=af (aS S1.o.bel (g:=w.heap.size+1) ah aZ.ag)
 go_wp2_with(refine dW rfl (.tmp 4) (.tmp 21) rfl _ aZ aZ rfl (iI Value.agg vw) S1.o.R df df ?_)
 refine aX (v:=_) (hR _ _ _ aZ rfl I.o df) rfl ?_
 rw[Y.o,B.o,HE.o]
 exact⟨none,0,rfl,Own.nil,D.o⟩):p:=h
theorem abk{p:Prop}(h:p:=by
 clear G
 have Y:=aj (jQ m half=aZ) (Us)
 have B:=aj (lg m half=[]) (Ut)
 have I:=af (MB.setRow S1.o.R aZ)
 have D:=af (aS S1.o.bel (g:=w.heap.size+1) ah aZ.ag)
 go_wp2_with(refine dW rfl (.tmp 4) (.tmp 22) rfl _ aZ aZ rfl (iI Value.agg vw) S1.o.R df df ?_)
 refine aX (v:=_) (hR _ _ _ aZ rfl I.o df) rfl ?_
 rw[Y.o,B.o,HE.o]
 exact⟨none,0,rfl,Own.nil,D.o⟩):p:=h
theorem ahL{p:Prop}(h:p:=by
 have HE2:=af z.o
 have he2:(unE xs !=0)=true:=x8
 have s:=af (FM.o HE.o)
 have u:=af (B.o HE.o)
 clear z FM B b d x t f HE HG
 generalize unE xs=a at*
 generalize unL xs=ps at*
 go_wp2_with(first
  |(refine aQ 81 (.tmp 7) (.tmp 17) Z25 ps 25 (IB.new w2 81 Z25) dF rfl C.o ?_
    have BB:=dI w2 (.cells (agi Z25) 81) (agi ps)
    obtain⟨V3,hV⟩:=ak ((w2.alloc (.cells (agi Z25) 81)).setRow w2.heap.size (agi ps))
    have S3:=aj (Ms w V3 m) (FN)
    rw[Qx] at hV
    rw[<-hV]
    clear hV BB)
  |(refine dW rfl (.tmp 4) (.tmp 21) rfl _ aZ aZ rfl (iI Value.agg vw) S3.o.R df df ?_))
 refine aX (v:=_) (hR _ _ _ aZ rfl (MB.setRow S3.o.R aZ) df) rfl ?_
 rw[s.o,u.o,HE2.o]
 exact NewM.bad (aS S3.o.bel (g:=w.heap.size+1) ah aZ.ag)):p:=h
theorem yc{p:Prop}(h:p:=by
 have HF:=aj (aO m=false) (Ah (by unfold sU;omega))
 go_wp2
 go_ret
 exact⟨qO,H.o⟩):p:=h
theorem o7{p:Prop}(h:p:=by
 intro w a;obtain⟨M,O⟩:=a;go_simp
 try with_reducible rfl):p:=h
theorem Vz{p:Prop}(h:p:=by
 have co:=IB.cell g.o.O n uO
 have fo:=Blk.frozen g.o.O n
 have m:=af (al8 HY.o.1 HY.o.2 hlt)
 rw[HV.o] at m
 have c:=af (g.o.set_ n v)
 clear Y u
 go_wp2
 go_roundw
 case rel=>exact⟨n+1,_,ah,aT,HE1,m,c⟩
 case measure=>simp[intOf]<;>omega):p:=h
theorem abl{p:Prop}(h:p:=by
 go_enter Tryz.func41,Tryz.ntmps41
 go_wp2_with(first
  |(rw[<-HW.o])
  |(go_at_call 92;(with_reducible refine K1.o.mono ?_);rintro e w' ⟨rfl,rfl⟩)
  |(go_at_call 92;(with_reducible refine K2.o.mono ?_);rintro e w' ⟨rfl,rfl⟩)
  |(go_at_call 92;(with_reducible refine V.o.mono ?_);rintro e w' ⟨rfl,rfl⟩))
 refine aX (v:=_) (hR _ _ _ 50 [0,0,0,0] _ 4 rfl j.o yT rfl AY rfl) rfl ?_
 exact D.o):p:=h
theorem abm{p:Prop}(h:p:=by
 go_enter Tryz.func24,Tryz.ntmps24
 go_wp2_with(first
  |(rw[<-hW])
  |(go_at_call 58;(with_reducible refine K1.o.mono ?_);rintro e w' ⟨rfl,rfl⟩)
  |(go_at_call 58;(with_reducible refine K2.o.mono ?_);rintro e w' ⟨rfl,rfl⟩)
  |(go_at_call 58;(with_reducible refine V.o.mono ?_);rintro e w' ⟨rfl,rfl⟩))
 refine aX (v:=_) (hR _ _ _ 50 [0,0,0,0] _ 4 rfl j.o yT rfl AY rfl) rfl ?_
 exact D.o):p:=h
theorem VD{p:Prop}(h:p:=by
 rw[q1,q2] at K D
 clear q1 q2
 go_wp2_with fail
 all_goals refine(K.o wr A cp Q.o.reads).mono ?_
 all_goals rintro e' w' ⟨rfl,hB⟩
 all_goals have B1:=af (aH H.o hB)
 all_goals clear hB
 all_goals go_wp2
 all_goals
  go_ret
  exact⟨Na,B1.o⟩):p:=h
theorem ahM{p:Prop}(h:p:=by
 have t0:(0:Int)<=t:=ah
 have t4:(t:Int)<4:=ah
 have HM:=af O
 have HF:=aj (pkB.getD m 0=4/\pkT.getD m 0=9) (by
  have:t=0\/t=1\/t=2\/t=3:=ah
  rcases this with rfl|rfl|rfl|rfl<;>subst O<;>exact⟨rfl,rfl⟩)
 clear O
 go_wp2_with(at_builtin;refine ady rfl (.tmp 56) (.tmp 63) rfl w.heap.size A c g m 1 (m+1) rfl rfl (Q.o.alloc _) wr.heap.size _ rfl (Blk.new wr _ _) (adu g m (adt g (by have:=HM.o;omega) HF.o.1 HF.o.2)) (by have:=HM.o;omega) TU ?_;intro A6 c6 w6 hO hG;have O6:=af hO;have u:=af ((H.o.alloc H.o.size _).grown hG TU (DR Q.o));clear hO hG)
 go_roundw
 case rel=>exact⟨t+1,m+1,A6,c6,ah,by have:=HM.o;omega,aT,rfl,O6,u⟩
 case measure=>simp[intOf]<;>omega):p:=h
theorem VE{p:Prop}(h:p:=by
 rw[e1,S] at K D
 clear e1 S
 go_enter Tryz.func114,aat
 go_wp2_with fail
 all_goals refine K.o.mono ?_
 all_goals rintro e' w' ⟨rfl,hB⟩
 all_goals have B1:=af hB
 all_goals clear hB
 all_goals go_wp2
 all_goals
  go_ret
  exact⟨Na,B1.o⟩):p:=h
theorem ahN{p:Prop}(h:p:=by
 obtain⟨k,s,hk,rfl,rfl,C⟩:=hrel
 by_cases hlt:k<n
 ·have b:=qy t.o g.o k
  rw[<-C.o] at b
  have s1: -1073741824000<=s:=ah
  have s2:s<=1073741824000:=ah
  have ST:=aj (bQ xs ys (k+1)=s+xs.getD k 0*ys.getD k 0) (Gq)
  obtain⟨ad,rfl,_,k0⟩:=HX.o.at_ (k:=k) iT
  obtain⟨R,rfl,_,k1⟩:=HY.o.at_ (k:=k) (by rw[HM.o];omega)
  have x16:=t.o k
  have q:=g.o k
  generalize xs.getD k 0=x at*
  generalize ys.getD k 0=y at*
  obtain⟨p1,p2⟩:=nO x16.1 x16.2 q.1 q.2
  have i2:(k:Int)<m:=ah
  clear b
  go_wp2
  go_round
  case rel=>exact⟨k+1,_,ah,aT,rfl,af ST.o.symm⟩
  case measure=>simp[intOf]<;>omega
 obtain rfl:k=n:=ah
 go_wp2
 go_ret
 exact⟨by rw[<-C.o];rfl,rfl⟩):p:=h
theorem VG{p:Prop}(h:p:=by
 clear r s c f
 rcases H with⟨rfl,rfl,rfl⟩|⟨rfl,rfl,rfl⟩|⟨rfl,rfl,rfl⟩|⟨rfl,rfl,rfl⟩<;>(
  go_enter Tryz.func62,Tryz.ntmps62
  go_wp2_with(go_at_call 141;(with_reducible refine K.o.mono ?_);rintro e w' ⟨rfl,rfl⟩)
  go_ret2
  exact D.o)):p:=h
theorem abn{p:Prop}(h:p:=by
 have HQ:=af HX.o.symm
 go_wp2_with fail
 refine(wZ _ 15 32768 (nzX s z) _ (by first|exact RQ aA m1|omega) (by first|exact RQ J aA|omega) ah aA (by first|exact HQ.o|(have:=HQ.o;omega))).mono ?_
 rintro e w9 ⟨rfl,hB⟩
 have S:=af (aH K.o hB)
 clear hB
 go_wp2
 go_ret2
 exact D.o _ _ rfl S.o):p:=h
theorem ahO{p:Prop}(h:p:=by
 have D:=af (Xi (a:=a) (g:=g) (ald (k:=k) uP ww) (aS E.o.bel (g:=w.heap.size+1) ah (agi Z9)))
 have I:=af (E.o.R.setRow Z9)
 rcases z with b1|b1
 ·go_wp2_with(refine aQ 73 (.tmp 4) (.tmp 28) Z9 Z9 9 E.o.R bC rfl rfl ?_)
  refine aX (v:=_) (hR _ _ _ 73 Z9 _ 9 rfl I.o bP rfl bC rfl) rfl ?_
  exact D.o
 have b0: ¬x< -1073741824:=ah
 go_wp2_with(refine aQ 73 (.tmp 4) (.tmp 28) Z9 Z9 9 E.o.R bC rfl rfl ?_)
 refine aX (v:=_) (hR _ _ _ 73 Z9 _ 9 rfl I.o bP rfl bC rfl) rfl ?_
 exact D.o):p:=h
theorem yg{p:Prop}(h:p:=by
 go_round
 case rel=>exact⟨k+1,ah,aT,b⟩
 case measure=>simp[intOf]<;>omega):p:=h
theorem ahP{p:Prop}(h:p:=by
 have u:=HI8.o m.r K.o.r k hlt
 obtain⟨x,hx⟩:=ak (m.r.getD k 0)
 rw[<-hx] at u
 have HX:=af hx
 clear hx
 by_cases b1:x< -31000
 ·have HF:=aj (aO m=false) (acy (jb (i:=k) (by rw[K.o.r];exact hlt) (acx MJ)))
  go_wp2
  go_ret
  exact⟨qO,H.o⟩
 by_cases b2:31000<x
 ·have HF:=aj (aO m=false) (acy (jb (i:=k) (by rw[K.o.r];exact hlt) (acx MK)))
  go_wp2
  go_ret
  exact⟨qO,H.o⟩
 have HN:=af (HY.o.succ (by rw[<-HX.o];exact acw ah ah))
 go_wp2
 go_round
 case rel=>exact⟨k+1,ah,aT,HN⟩
 case measure=>simp[intOf]<;>omega):p:=h
theorem VH{p:Prop}(h:p:=by
 go_wp2_with(refine aQ 52 (.tmp 6) (.tmp 42) Z8 Z8 8 E.o.R aJ rfl rfl ?_)
 refine aX (v:=_) (hR _ _ _ 52 Z8 _ 8 rfl I.o aU rfl aJ rfl) rfl ?_
 exact D.o _ hB.o):p:=h
theorem o8{p:Prop}(h:p:=by
 go_wp2
 go_ret2
 exact D.o _ (aP _ _)):p:=h
theorem ahQ{p:Prop}(h:p:=by
 have P1:=af (IB.setRow QX.o x)
 have F:=af (Blk.rowFar (c2:=agi x) (g:=w.heap.size+1) D.o ah)
 have P3:=af (RX.o.rowFar (b:=w.heap.size+1) (by have:=RX.o.1;have:=GL.o;omega) (agi x))
 have P4:=af (aS a.o (g:=w.heap.size+1) ah (agi x))
 go_wp2_with(first
  |(refine aK 76 (.tmp 11) x 4 f.o iO fO P.o ?_)
  |(refine aQ 76 (.tmp 7) (.tmp 42) N x 4 QX.o fO m.o P.o ?_))
 go_roundw
 case rel=>exact⟨i+1,ah,aT,sF,sF,F,by rw[j.o];exact P1,P3,P4⟩
 case measure=>simp[intOf]<;>omega):p:=h
theorem abo{p:Prop}(h:p:=by
 go_enter Tryz.func80,Tryz.ntmps80
 go_wp2_with(refine aK 53 (.tmp 4) h 80 M.o iV mY s.o ?_)
 refine(KP.o _).mono ?_
 rintro e w1 ⟨A1,c1,rfl,hO,hB⟩
 have D:=af (NewSE.none_ (er:=2) (aH B0.o hB))
 clear hO hB
 go_wp2
 go_ret2
 exact D.o):p:=h
theorem Gz{p:Prop}(h:p:=by
 refine aX (v:=_) (hR _ _ _ 52 (dK 8 k) _ 8 rfl I.o aU rfl aJ a.o) rfl ?_
 exact D.o):p:=h
theorem GH{p:Prop}(h:p:=by
 rw[bJ _ hj,bJ _ hj]
 by_cases h2:j<k
 ·rw[if_pos h2,if_pos ah]
 rw[if_neg h2,if_neg ah]):p:=h
theorem VI{p:Prop}(h:p:=by
 refine aX (v:=_) (hR _ _ _ 52 ys _ 8 rfl (IB.setRow C.o.R ys) aU rfl aJ a.o) rfl ?_
 exact⟨by rw[HE.o,b.o];rfl,aS C.o.B ah _⟩):p:=h
theorem ahR{p:Prop}(h:p:=by
 by_cases h2:j<k
 ·rw[if_pos h2,if_pos ah]
 rw[if_neg h2,if_neg ah]):p:=h
theorem ahS{p:Prop}(h:p:=by
 refine aX (v:=_) (hR _ _ _ 73 Z9 _ 9 rfl I.o bP rfl bC rfl) rfl ?_
 exact D.o):p:=h
theorem VJ{p:Prop}(h:p:=by
 refine aX (v:=_) (hR _ _ _ 52 Z8 _ 8 rfl (IB.setRow g.o.R Z8) aU rfl aJ rfl) rfl ?_
 exact⟨by rw[HF.o,b.o];rfl,aS g.o.B ah _⟩):p:=h
theorem VK{p:Prop}(h:p:=by
 simp only[bT] at h2 h3
 exact⟨Blk.alloc (Blk.alloc h1 _) _,Blk.alloc h2 _,h3,(((baqq _ _).alloc ay _).alloc aC _)⟩):p:=h
theorem GU{p:Prop}(h:p:=by
 go_wp2_with(go_at_call 140;refine(akb _ _).mono ?_;rintro e w' ⟨rfl,rfl⟩)
 go_ret
 exact⟨rfl,rfl⟩):p:=h
theorem ahT{p:Prop}(h:p:=by
 rintro e w' ⟨A3,c3,h1,h2,h3⟩
 refine⟨A3,c3,(if dZ a Z8 (jI N) then fH Z8 (eG a Z8 (jI N) N) else Z8),?_,?_,?_,h3⟩
 ·split
  ·exact tC _ _ rfl
  rfl
 ·rw[h1,f,Y,show nV a (N:Nat)=(if dZ a Z8 (jI N) then eG a Z8 (jI N) N else[]) from by unfold nV;rw[hb];rfl,show rq a (N:Nat)=bz (dZ a Z8 (jI N)) from by unfold rq;rw[hb];rfl]
 rw[f,show nV a (N:Nat)=(if dZ a Z8 (jI N) then eG a Z8 (jI N) N else[]) from by unfold nV;rw[hb];rfl];exact h2):p:=h
theorem VM{p:Prop}(h:p:=by
 go_wp2
 go_round
 case rel=>exact⟨k+1,ah,aT,HN⟩
 case measure=>simp[intOf]<;>omega):p:=h
theorem ahU{p:Prop}(h:p:=by
 have I5:=af (Blk.far I3.o (p:=⟨w.heap.size+1,k,none⟩) FH (.int .i64 (y-y*k*k/8192)))
 have B5:=af (B3.o.setCell (p:=⟨w.heap.size+1,k,none⟩) vY (.int .i64 (y-y*k*k/8192)))
 clear q1 q2 N xr zr D B
 go_region
 clear hw1 hw2 hw3 c3 f3
 go_wp2
 go_roundw
 case rel=>exact⟨k+1,ah,aT,af (Blk.drew I5.o),af (Blk.drew R5.o),af B5.o.drew⟩
 case measure=>simp[intOf]<;>omega):p:=h
theorem VN{p:Prop}(h:p:=by
 go_enter Tryz.func76,Tryz.ntmps76
 go_wp2_with(go_at_call 150;(with_reducible refine(KS.o _).mono ?_);rintro e w' ⟨rfl,rfl⟩)
 go_ret2
 exact FB.o _ BA.o):p:=h
theorem ahV{p:Prop}(h:p:=by
 obtain⟨ad,rfl,_,c0⟩:=HR.o.at_ (k:=k) iT
 have hb:=hx k
 have ST:=aj (oP xs (k+1)=oP xs k+xs.getD k 0) (rfl)
 generalize xs.getD k 0=x at*
 generalize oP xs k=s at*
 have k0:(0:Int)<=k:=ah
 have kn:(k:Int)<n:=ah
 have hw1:IntKind.i64.wrap x=x:=aV
 have hw2:IntKind.i64.wrap (s+x)=s+x:=aV
 go_wp2
 refine⟨⟨k+1,ah,aT,by rw[ST.o]⟩,?_⟩
 simp[intOf]<;>omega):p:=h
theorem ahW{p:Prop}(h:p:=by
 have X0:=j.o
 have X1:=RB.o
 have X2:=BB.o
 rw[HV.o] at X0 X1 X2
 have X0:=af X0
 have X1:=af X1
 have X2:=af X2
 rename_i X0r X1r X2r
 clear X0r X1r X2r
 go_enter Tryz.func151,Tryz.ntmps151
 go_wp2_with(refine aQ 76 (.tmp 6) (.tmp 24) Z4 Z4 4 X0.o fO rfl rfl ?_)
 refine aX (v:=_) (hR _ _ _ 76 Z4 _ 4 rfl X1.o iO rfl fO rfl) rfl ?_
 exact FB.o _ HE.o aA _ X2.o):p:=h
theorem ahX{p:Prop}(h:p:=by
 go_wp2_with fail
 refine(KF.o _).mono ?_
 rintro e w1 ⟨rfl,hB⟩
 have Z1:=af (Blk.below' Z0.o hB)
 have B1:=af (aH B0.o hB)
 clear hB Z0 B0
 have a:=af Y7.k
 go_wp2_with(refine rF rfl (.tmp 0) (.tmp 2) rfl _ eH enB rfl aB Z1.o ig a.o ?_)
 refine aX (v:=_) (hR _ _ _ enB rfl (EB.setRow Z1.o enB) a.o) rfl ?_
 exact⟨rfl,aS B1.o ah _⟩):p:=h
theorem arn{p:Prop}(h:p:=by
 have KK:=af (agf gK gM nD D ⟨0,0,false,none,0,0,none,0,0⟩ wr HT.o.a.d (.inl (by show(0:Int)<1;omega)))
 have b:∀(w:Wd),(Instr.field 34 (.agg (aY 4 0 none 0 0 none 0 0)) 0).run Tryz.prog w=.ok (.int .i64 4) w:=fun _=>aB
 go_wp2_with fail
 refine KK.o.mono ?_
 rintro x w5 ⟨rfl,_,hb⟩
 have BF:=af (aH HT.o.bel hb)
 clear hb KK HT
 go_wp2_with fail
 go_ret
 exact⟨rfl,BF.o⟩):p:=h
theorem ahY{p:Prop}(h:p:=by
 have HM:=af O
 have HY:=af hy
 have HZ:=af hz
 have r:=af hv
 have hdk:decide ((k:Int)<40)=true:=aC
 clear O hy hz hv yr f Q H
 subst g
 go_wp2
 go_region_with ((go_at_call 204;(with_reducible refine(KS.o _).mono ?_);rintro e' w' ⟨rfl,rfl⟩))
 all_goals
  clear I hw1 hw2
  go_wp2
  go_roundw
  case rel=>exact⟨k+1,ah,ah,aT,af B.o.drew,af K.o.drew⟩
  case measure=>simp[intOf]<;>omega):p:=h
theorem ahZ{p:Prop}(h:p:=by
 rintro e w2 ⟨A3,c3,q,hq,rfl,hO,hB⟩
 have HQ:=af hq
 have O2:=af hO
 have B2:=af (aH B1.o hB)
 clear hB hO hq
 go_wp2_with(refine aQ 52 (.tmp 8) (.tmp 28) Z8 q 8 (IB.new w2 52 Z8) aJ rfl HQ.o ?_)
 go_ret2
 exact⟨A3,c3,rfl,(O2.o.below (dI w2 (.cells (agi Z8) 52) _)).more B1.o.size,B2.o.trans ((dI w2 (.cells (agi Z8) 52) _).mono B2.o.size)⟩):p:=h
theorem ah0{p:Prop}(h:p:=by
 have HG:=af G
 clear G
 have I:=af (MB.setRow S1.o.R aZ)
 have D:=af (aS S1.o.bel (g:=w.heap.size+1) ah aZ.ag)
 go_wp2_with(refine dW rfl (.tmp 2) (.tmp 14) rfl _ aZ aZ rfl (iI Value.agg vw) S1.o.R df df ?_)
 refine aX (v:=_) (hR _ _ _ aZ rfl I.o df) rfl ?_
 rw[Y.o,B.o,HG.o]
 exact⟨none,0,rfl,Own.nil,D.o⟩):p:=h
theorem zM{p:Prop}(h:p:=by
 go_wp2
 go_ret
 exact⟨Na,aP _ _⟩):p:=h
theorem ah1{p:Prop}(h:p:=by
 refine aX (v:=_) (hR _ _ _ aZ rfl I.o df) rfl ?_
 rw[Y.o,B.o,HG.o]
 exact⟨none,0,rfl,Own.nil,D.o⟩):p:=h
theorem VO{p:Prop}(h:p:=by
 rcases yX p.block w.heap.size with h1|h1
 ·exact h1
 unfold World.cell? at h
 rw[yY h1] at h
 simp at h):p:=h
theorem ah2{p:Prop}(h:p:=by
 have I:=af (M.o.R.setRow (Z8))
 go_wp2_with(first
  |(refine aK 52 (.tmp 5) (Z8) 8 M.o.K aU aJ rfl ?_)
  |(refine aQ 52 (.tmp 2) (.tmp 25) Z8 (Z8) 8 M.o.R aJ rfl rfl ?_))
 refine aX (v:=_) (hR _ _ _ 52 (Z8) _ 8 rfl I.o aU rfl aJ rfl) rfl ?_
 exact D.o):p:=h
theorem ah3{p:Prop}(h:p:=by
 have I:=af (M.o.R.setRow Z8)
 go_wp2_with(first
  |(refine aK 52 (.tmp 5) Z8 8 M.o.K aU aJ rfl ?_)
  |(refine aQ 52 (.tmp 2) (.tmp 29) Z8 Z8 8 M.o.R aJ rfl rfl ?_))
 refine aX (v:=_) (hR _ _ _ 52 Z8 _ 8 rfl I.o aU rfl aJ rfl) rfl ?_
 exact D.o):p:=h
theorem VQ{p:Prop}(h:p:=by
 refine aX (v:=_) (hR _ _ _ 73 Z9 _ 9 rfl a.o bP rfl mG rfl) rfl ?_
 exact⟨rfl,BE.o⟩):p:=h
theorem ah4{p:Prop}(h:p:=by
 subst hA
 rcases h4 with h4|h4
 ·left
  cases A with
  |none=>simp[Value.ownBlock] at h4
  |some ad=>
   simp[Value.ownBlock] at h4
   rcases f.2 with⟨l,_⟩|⟨g2,r,z,l,_⟩
   ·cases l
   injection l with b _ _
   injection b with b
   subst b
   simp at h4
   subst h4
   rfl
 right
 simp[Value.ownBlock] at h4
 exact⟨g,rfl,ah⟩):p:=h
theorem VR{p:Prop}(h:p:=by
 refine aX (v:=_) (hR _ _ _ 52 Z8 _ 8 rfl c.o aU rfl aJ rfl) rfl ?_
 exact D.o):p:=h
theorem VS{p:Prop}(h:p:=by
 refine aX (v:=_) (hR _ _ _ 73 Z9 _ 9 rfl c.o bP rfl bC rfl) rfl ?_
 exact D.o):p:=h
theorem ah5{p:Prop}(h:p:=by
 have HE1:=af (show jh ring h t=1 by rw[HE.o,hR];rfl)
 have i:=VL.o
 rw[hR] at i
 simp only[if_false,Bool.false_eq_true] at i
 rw[i]
 clear i hR ST
 go_wp2
 ((try simp only[Exit.inBlock,Exit.then]);refine aX (yP rfl _ _ _) rfl ?_)
 exact FB.o _ HE1.o aA _ (aH BA.o B2.o)):p:=h
theorem abp{p:Prop}(h:p:=by
 clear hq T
 go_wp2
 refine⟨⟨j+1,N+q%2,ah,aT,by push_cast;rfl,af ?_,af (fun _=>hpos)⟩,?_⟩
 ·rw[HE.o,HN.o,xI]
 simp[intOf]<;>omega):p:=h
theorem ah6{p:Prop}(h:p:=by
 clear ST b
 go_wp2_with(first
  |(go_at_call 79;(with_reducible refine t.o.mono ?_);rintro e1 w' ⟨rfl,rfl⟩)
  |(go_at_call 79;(with_reducible refine i.o.mono ?_);rintro e1 w' ⟨rfl,rfl⟩))
 all_goals
  go_round
  case rel=>exact⟨k+1,ah,ah,aT,x9⟩
  case measure=>simp[intOf]<;>omega):p:=h
theorem ah7{p:Prop}(h:p:=by
 generalize jq (2*one*c) ((y+x)*e)=z at*
 clear hgt I hw1
 go_wp2_with(go_at_call 190;(with_reducible refine KC.o.mono ?_);rintro e' w7 ⟨rfl,p,rfl⟩)
 go_roundw
 case rel=>exact⟨k+1,ah,ah,aT,x9,af (aH BM.o (jL _ _))⟩
 case measure=>simp[intOf]<;>omega):p:=h
theorem ah8{p:Prop}(h:p:=by
 go_wp2_with(refine dW rfl (.tmp 0) (.tmp 1) rfl _ aZ eQ rfl (iI Value.agg akY) HZ.o df Aj ?_)
 refine aX (v:=_) (hR _ _ _ eQ rfl (MB.setRow HZ.o eQ) Aj) rfl ?_
 exact⟨rfl,aS ((aP _ w).alloc (ax _) _) (ax _) _⟩):p:=h
theorem ah9{p:Prop}(h:p:=by
 obtain rfl:k=40:=ah
 have B:=af (show Own wr V.heap.size (some ⟨V.heap.size,0,none⟩) 40 (jl d ring ix (t+1) 0) by rw[<-L.o];exact Q.o)
 go_wp2
 go_roundw
 case rel=>exact⟨t+1,ah,aT,by rw[b.o];first|rfl|(simp only[wrap64,mM]),B,H⟩
 case measure=>simp[intOf]<;>omega):p:=h
theorem aia{p:Prop}(h:p:=by
 have e1:(x==s16 x)=false:=TK
 have S:(x !=s16 x)=true:=TR
 clear z
 go_wp2_with(go_at_call 143;refine(Ad _ _).mono ?_;rintro e w' ⟨rfl,rfl⟩)
 go_ret
 exact⟨by unfold dZ;rw[HF.o];simp,H.o⟩):p:=h
theorem aib{p:Prop}(h:p:=by
 have m:=af d
 clear d
 go_wp2
 go_roundw
 case rel=>
  have e1:((c:Int)+xa+xb)%4294967296=(((c+xa+xb)%4294967296:Nat):Int):=ah
  rw[e1]
  exact⟨k+1,(c+xa+xb)/4294967296,_,ah,ay,ay,ah,t.o.step C ah y.o m.o ah⟩
 case measure=>simp[intOf]<;>omega):p:=h
theorem abq{p:Prop}(h:p:=by
 clear heq
 go_wp2
 go_quiet (fail)
 go_wp2
 go_quiet (fail)
 go_wp2
 go_ret
 exact⟨qO,aH a.o (am1 wc _ _ _)⟩):p:=h
theorem aic{p:Prop}(h:p:=by
 have e1:(x==s16 x)=false:=TK
 have S:(x !=s16 x)=true:=TR
 clear z
 go_wp2_with(go_at_call 57;refine(zZ _ _).mono ?_;rintro e w' ⟨rfl,rfl⟩)
 go_ret
 exact⟨qO,H.o⟩):p:=h
theorem abr{p:Prop}(h:p:=by
 go_enter Tryz.func106,Tryz.ntmps106
 go_wp2_with(go_at_call 170;(with_reducible refine a.o.mono ?_);rintro e w' ⟨rfl,rfl⟩)
 go_ret2
 exact D.o):p:=h
theorem abt{p:Prop}(h:p:=by
 go_enter Tryz.func61,Tryz.ntmps61
 go_wp2_with(go_at_call 141;(with_reducible refine a.o.mono ?_);rintro e w' ⟨rfl,rfl⟩)
 go_ret2
 exact D.o):p:=h
theorem aid{p:Prop}(h:p:=by
 have m:=af d
 clear d
 go_wp2
 go_roundw
 case rel=>
  have e1:((c:Int)+xa)%4294967296=(((c+xa)%4294967296:Nat):Int):=ah
  rw[e1]
  exact⟨k+1,(c+xa)/4294967296,_,ah,ay,ay,ah,t.o.step C ah y.o m.o ah⟩
 case measure=>simp[intOf]<;>omega):p:=h
theorem VT{p:Prop}(h:p:=by
 rw[p.own.cellAt k ah]
 exact⟨_,jU (by simp[W32,p.len];omega)⟩):p:=h
theorem aie{p:Prop}(h:p:=by
 have HN:=af (HY.o.succ UB)
 have e1:decide (x< -1099511627776)=false:=aC
 have e3:decide (1099511627776<x)=false:=aC
 clear hb hx
 go_wp2
 go_round
 case rel=>exact⟨i+1,ah,aT,HN⟩
 case measure=>simp[intOf]<;>omega):p:=h
theorem aif{p:Prop}(h:p:=by
 refine aX (v:=_) (hR _ _ _ 52 Z8 _ 8 rfl (IB.setRow S1.o.R Z8) aU rfl aJ rfl) rfl ?_
 have z:=d.o
 have z1:=b.o
 rw[if_neg G] at z z1
 subst z
 subst z1
 exact⟨none,0,by rw[hb];rfl,Own.nil,aS S1.o.bel ah _⟩):p:=h
theorem aig{p:Prop}(h:p:=by
 clear r s c f
 rcases H with⟨rfl,rfl,rfl⟩|⟨rfl,rfl,rfl⟩|⟨rfl,rfl,rfl⟩|⟨rfl,rfl,rfl⟩<;>(
  go_enter Sv,Sz
  go_wp2_with(go_at_call 170;(with_reducible refine K.o.mono ?_);rintro e w' ⟨rfl,rfl⟩)
  go_ret2
  exact D.o)):p:=h
theorem Nj{p:Prop}(h:p:=by
 go_enter Tryz.func122,Tryz.ntmps122
 go_wp2
 go_ret2
 exact D.o):p:=h
theorem aih{p:Prop}(h:p:=by
 go_wp2_with(refine aQ 76 (.tmp 6) (.tmp 37) Z4 Z4 4 j.o fO rfl rfl ?_)
 refine aX (v:=_) (hR _ _ _ 76 Z4 _ 4 rfl RB.o iO rfl fO rfl) rfl ?_
 exact FB.o _ HE2.o aA _ BB.o):p:=h
theorem aii{p:Prop}(h:p:=by
 have e1:(c:Int)%4294967296=(c:Int):=ah
 go_wp2_with(go_at_call 192;refine(yw _ w.heap.size _ (k+1) (rs.set k c) F.1 F.2.1).mono ?_;rintro e w' ⟨⟨J,rfl,u⟩,rfl⟩)
 go_ret
 exact⟨⟨J,rfl,by rw[<-F.2.2.1];exact u⟩,F.2.2.2⟩):p:=h
theorem aij{p:Prop}(h:p:=by
 go_wp2
 go_quiet ((go_at_call 143;first|(with_reducible exact oW (T.o _))|(with_reducible exact oW (KY.o _))))
 clear I
 go_wp2
 go_ret2
 exact b.o _ FB.o (aH H.o (jL _ _))):p:=h
theorem aik{p:Prop}(h:p:=by
 obtain⟨A,len,cap,ws,rfl,hr,F,hn⟩:=h
 refine⟨A,len,cap,ws,rfl,hr.of_block fun a ha=>G.block _ (hr.lt a ha) ?_,F,hn⟩
 intro he
 obtain⟨_,d,c,T,_⟩:=hr.cells a ha
 have:=fQ he
 unfold Blk at hb
 rw[this,hb] at T
 simp at T):p:=h
theorem VU{p:Prop}(h:p:=by
 clear h
 go_enter Tryz.func118,Tryz.ntmps118
 go_wp2
 go_ret2
 exact FB.o _ BA.o):p:=h
theorem VV{p:Prop}(h:p:=by
 go_enter Tryz.func139,aah
 go_wp2
 go_ret
 exact⟨rfl,aP _ _⟩):p:=h
theorem abu{p:Prop}(h:p:=by
 have HF:=aj (aG xs=true) (HY.o.all Gl)
 go_wp2
 go_ret
 exact⟨qO,rfl⟩):p:=h
theorem VW{p:Prop}(h:p:=by
 clear h
 go_enter Tryz.func155,Tryz.ntmps155
 go_wp2
 go_ret2
 exact⟨rfl,rfl⟩):p:=h
theorem ail{p:Prop}(h:p:=by
 go_wp2
 go_quiet ((go_at_call 150;first|(with_reducible exact oW (T.o _))|(with_reducible exact oW (KY.o _))))
 go_wp2
 go_ret2
 exact NewSE.none_ (aH H.o (jL _ _))):p:=h
theorem aim{p:Prop}(h:p:=by
 have HV:=af hv
 clear hv
 have hne:((xa:Int) !=(xb:Int))=true:=by rw[qJ];omega
 go_wp2
 go_quiet (fail)
 go_wp2
 go_quiet (fail)
 go_wp2
 go_ret
 refine⟨by rw[HV.o];rfl,?_⟩;(try simp only[Kt]);exact⟨_,rfl⟩):p:=h
theorem abv{p:Prop}(h:p:=by
 go_wp2
 go_ret
 exact⟨qO,rfl⟩):p:=h
theorem ain{p:Prop}(h:p:=by
 clear ST
 go_wp2
 go_quiet (fail)
 clear I hw1 hw2 hw3
 go_wp2
 go_roundw
 case rel=>exact⟨k+1,ah,ah,aT,x9,af (aH H.o (jL _ _))⟩
 case measure=>simp[intOf]<;>omega):p:=h
theorem aio{p:Prop}(h:p:=by
 go_roundw
 case rel=>exact⟨k+1,A10,c10,n+y.length,ah,aT,rfl,af (by rw[NY.o,dN,HN.o]),af (by rw[NY.o];exact O10.o),af (by rw[NM.o];exact C10.o)⟩
 case measure=>simp[intOf]<;>omega):p:=h
theorem aip{p:Prop}(h:p:=by
 obtain⟨h1,h2,h3,t1,t2,t3,t4,b⟩:=jr g
 refine Ai h1 h2 (acU h3) ⟨t1,?_,t3,t4,b⟩
 show 0<=nzE m.se 40/\nzE m.se 40<65536
 have:=zV (nzE m.se 39)
 rw[show(40:Nat)=39+1 from rfl,acu]
 omega):p:=h
theorem VX{p:Prop}(h:p:=by
 clear h
 go_enter Tryz.func154,Tryz.ntmps154
 go_wp2
 go_ret2
 exact D.o):p:=h
theorem VY{p:Prop}(h:p:=by
 clear h
 go_enter Tryz.func179,Tryz.ntmps179
 go_wp2
 go_ret2
 exact D.o):p:=h
theorem abw{p:Prop}(h:p:=by
 rw[bK,xW,if_pos h,yV,<-bK]):p:=h
theorem aiq{p:Prop}(h:p:=by
 rw[hv]
 have hne:((an:Int)==(bn:Int))=false:=FK
 have a:((an:Int) !=(bn:Int))=true:=by rw[qJ];omega
 go_enter Tryz.func191,Tryz.ntmps191
 go_wp2
 go_ret
 exact⟨rfl,0,rfl⟩):p:=h
theorem air{p:Prop}(h:p:=by
 clear ha d
 go_wp2_with(go_at_call 154;(with_reducible refine l.o.mono ?_);rintro e w' ⟨rfl,rfl⟩)
 go_roundw
 case rel=>exact⟨n+1,ah,aT,f,B,K⟩
 case measure=>simp[intOf]<;>omega):p:=h
theorem VZ{p:Prop}(h:p:=by
 rw[bK,iy ah];simp):p:=h
theorem ais{p:Prop}(h:p:=by
 refine aX (v:=_) (hR _ _ _ (kZ m) rfl I.o i.o) rfl ?_
 rw[Y.o,B.o,HG.o]
 exact⟨A2,c2,by rw[if_pos rfl,if_pos rfl,NL.o];rfl,by rw[if_pos rfl];exact OF.o,D.o⟩):p:=h
theorem ait{p:Prop}(h:p:=by
 refine aX (v:=_) (hR _ _ _ mf rfl I.o i.o) rfl ?_
 rw[Y.o,B.o,HG.o]
 exact⟨A,c,by rw[if_pos rfl,if_pos rfl,HN.o];rfl,by rw[if_pos rfl];exact OF.o,D.o⟩):p:=h
theorem We{p:Prop}(h:p:=by
 go_wp2
 go_ret
 exact⟨by unfold dZ;rw[HF.o];rfl,H.o⟩):p:=h
theorem aiu{p:Prop}(h:p:=by
 go_wp2_with(go_at_call 102;(with_reducible refine K.o.mono ?_);rintro e w' ⟨rfl,rfl⟩)
 all_goals
  go_ret2
  exact⟨by rw[M.o];first|rfl|exact acY (a:=y) ah,B2.o⟩):p:=h
theorem Nk{p:Prop}(h:p:=by
 go_wp2
 go_ret
 exact⟨by rw[Z.o];rfl,rfl⟩):p:=h
theorem aiv{p:Prop}(h:p:=by
 rw[show((b:Int)*4294967296)=((b*4294967296:Nat):Int) from ah,u64_or_nat _ _ ah ah,Rl,
  nat_join 32 _ _ ah ah,qI,jm]):p:=h
theorem aiw{p:Prop}(h:p:=by
 clear a hx hy
 go_enter Tryz.func190,Tryz.ntmps190
 go_wp2
 go_quiet (fail)
 go_wp2
 go_quiet ((go_at_call 191;exact aj6 (K0.o _)))
 go_wp2
 go_ret
 rw[HV.o]
 exact⟨rfl,_,rfl⟩):p:=h
theorem abx{p:Prop}(h:p:=by
 exact⟨Blk.alloc h1 _,h2,(baqq _ _).alloc ay _⟩):p:=h
theorem aix{p:Prop}(h:p:=by
 simp only[bT] at h2 h3
 exact⟨(Blk.alloc h1 _).alloc _,Blk.alloc h2 _,h3,((baqq _ _).alloc ay _).alloc aC _⟩):p:=h
theorem aby{p:Prop}(h:p:=by
 go_enter Tryz.func156,Tryz.ntmps156
 go_wp2
 go_ret2
 exact⟨by rw[HX.o];simp[hw],rfl⟩):p:=h
theorem aiy{p:Prop}(h:p:=by
 go_quiet (fail)
 go_wp2
 go_ret
 exact⟨by rw[HN.o (fun h=>by have:=HD.o.1 h;omega)];rfl,B1.o.trans ((aH H.o (jL wr _)).mono B1.o.size)⟩):p:=h
theorem aiz{p:Prop}(h:p:=by
 go_quiet (fail)
 go_wp2
 go_ret
 exact⟨by rw[HN.o (fun h=>by have:=HD.o.1 h;omega)];rfl,B1.o.trans ((aH BW.o (jL W _)).mono B1.o.size)⟩):p:=h
theorem aiA{p:Prop}(h:p:=by
 refine aX (v:=_) (hR _ _ _ eH rfl (EB.setRow S0.o.Z eH) ig) rfl ?_
 exact EncOut.bad (aS S0.o.bel ah _) ER.o aA):p:=h
theorem aiB{p:Prop}(h:p:=by
 go_enter uD,uG
 go_wp2_with fail
 refine aX (v:=_) (hR _ _ _ _ _ rfl RF.o eX rfl bV) rfl ?_
 exact⟨rfl,DF.o,BF.o⟩):p:=h
theorem abz{p:Prop}(h:p:=by
 go_wp2
 go_ret
 exact⟨qO,baqq _ _⟩):p:=h
theorem abA{p:Prop}(h:p:=by
 congr 1;have h1:=HM.o;have h2:=HE.o;have h3:=HN.o;have h4:=HY.o;omega):p:=h
theorem aiC{p:Prop}(h:p:=by
 go_wp2
 go_roundw
 case rel=>exact⟨k+1,_,ah,aT,r.o _ HV.o,B.o _,af (NA.o _),af (K.o _)⟩
 case measure=>simp[intOf]<;>omega):p:=h
theorem abB{p:Prop}(h:p:=by
 go_enter Tryz.func11,Tryz.ntmps11
 go_wp2_with fail
 go_ret
 exact⟨rfl,rfl⟩):p:=h
theorem Wh{p:Prop}(h:p:=by
 exact⟨none,0,none,0,n,D,β,hx,h.same hD hb Z⟩):p:=h
theorem abC{p:Prop}(h:p:=by
 refine zl fun hc=>?_
 exact hpos (HJ.o ah)):p:=h
theorem aiD{p:Prop}(h:p:=by
 refine aX (v:=_) (hR _ _ _ 53 Z80 _ 80 rfl I.o iV rfl mY rfl) rfl ?_
 exact⟨by rw[a.o,z.o];rfl,D.o⟩):p:=h
theorem aiE{p:Prop}(h:p:=by
 rcases h.2 with⟨hv,hn⟩|⟨g,cap,d,hv,hb,G,h1,h2,_⟩
 ·injection hv with _ _ hc
  omega
 injection hv with _ _ hc
 unfold maxLen at h2
 omega):p:=h
theorem aiF{p:Prop}(h:p:=by
 exact⟨Blk.alloc (Blk.alloc h1 _) _,Blk.alloc h2 _,h3,((baqq _ _).alloc ay _).alloc aC _⟩):p:=h
theorem aiG{p:Prop}(h:p:=by
 go_wp2
 ((try simp only[Exit.inBlock,Exit.then]);refine aX (yP rfl _ _ _) rfl ?_)
 exact FB.o _ HE.o aA _ BA.o):p:=h
theorem abD{p:Prop}(h:p:=by
 go_enter Tryz.func121,Tryz.ntmps121
 go_wp2
 go_ret2
 exact⟨rfl,rfl⟩):p:=h
theorem abE{p:Prop}(h:p:=by
 go_enter Tryz.func136,Tryz.ntmps136
 go_wp2
 go_ret
 exact⟨rfl,rfl⟩):p:=h
theorem abG{p:Prop}(h:p:=by
 go_enter Tryz.func141,Tryz.ntmps141
 go_wp2
 go_ret
 exact⟨rfl,rfl⟩):p:=h
theorem abH{p:Prop}(h:p:=by
 go_enter Tryz.func170,Tryz.ntmps170
 go_wp2
 go_ret
 exact⟨rfl,rfl⟩):p:=h
theorem aiH{p:Prop}(h:p:=by
 unfold kz
 rw[bJ _ hj,bJ _ hj]
 by_cases h2:i<=j/\j<i+k
 ·rw[if_pos h2,if_pos ah]
 rw[if_neg h2,if_neg ah]):p:=h
theorem abI{p:Prop}(h:p:=by
 go_enter Tryz.func71,Tryz.ntmps71
 go_wp2
 go_ret2
 exact⟨rfl,rfl⟩):p:=h
theorem aiI{p:Prop}(h:p:=by
 refine aX (v:=_) (hR _ _ _ 52 (dK 8 (k++[q])) _ 8 rfl I.o aU rfl aJ f.o) rfl ?_
 exact D.o):p:=h
theorem aiJ{p:Prop}(h:p:=by
 have HD:=af U
 clear U r
 go_wp2
 go_roundw
 case rel=>exact⟨k+1,_,ah,aT,HX,f⟩
 case measure=>simp[intOf]<;>omega):p:=h
theorem aiK{p:Prop}(h:p:=by
 clear HA hb HR
 go_wp2
 go_round
 case rel=>exact⟨k+1,_,ah,aT,rfl,af g.o.symm⟩
 case measure=>simp[intOf]<;>omega):p:=h
theorem aiL{p:Prop}(h:p:=by
 subst hA
 left
 cases A with
 |none=>rfl
 |some ad=>
  rcases h4 with h4|h4
  ·simp[Value.ownBlock] at h4
  simp[Value.ownBlock] at h4):p:=h
theorem aiM{p:Prop}(h:p:=by
 refine⟨h.1,?_⟩
 rcases h.2 with hn|⟨g,cap,d,hv,f,rest⟩
 ·exact .inl hn
 exact .inr ⟨g,cap,d,hv,ah,rest⟩):p:=h
theorem aiN{p:Prop}(h:p:=by
 clear hy
 go_wp2
 go_round
 case rel=>exact⟨0+1,ah,aT,zI⟩
 case measure=>simp[intOf]<;>omega):p:=h
theorem aiO{p:Prop}(h:p:=by
 clear hy
 go_wp2
 go_round
 case rel=>exact⟨1+1,ah,aT,zI⟩
 case measure=>simp[intOf]<;>omega):p:=h
theorem aiP{p:Prop}(h:p:=by
 clear hy
 go_wp2
 go_round
 case rel=>exact⟨2+1,ah,aT,zI⟩
 case measure=>simp[intOf]<;>omega):p:=h
theorem aiQ{p:Prop}(h:p:=by
 clear hy
 go_wp2
 go_round
 case rel=>exact⟨3+1,ah,aT,zI⟩
 case measure=>simp[intOf]<;>omega):p:=h
theorem aiR{p:Prop}(h:p:=by
 refine aX (v:=_) (hR _ _ _ 73 ys _ 9 rfl I.o bP rfl bC HY.o.2.1) rfl ?_
 exact D.o):p:=h
theorem aiS{p:Prop}(h:p:=by
 clear hp HV hc
 go_wp2
 all_goals
  go_ret2
  exact⟨by rw[M.o];first|rfl|exact acY (a:=x/2^(30-m)) ah,rfl⟩):p:=h
theorem aiT{p:Prop}(h:p:=by
 refine aX (v:=_) (hR _ _ _ 76 Z4 _ 4 rfl RF.o iO rfl fO rfl) rfl ?_
 exact FB.o _ BF.o):p:=h
theorem aiU{p:Prop}(h:p:=by
 clear a hx hy
 go_enter Tryz.func190,Tryz.ntmps190
 go_wp2
 go_quiet (fail)
 go_wp2
 go_ret
 rw[HV.o]
 exact⟨rfl,_,rfl⟩):p:=h
theorem aiV{p:Prop}(h:p:=by
 clear hy
 go_wp2
 go_round
 case rel=>exact⟨0+1,ah,az,zI⟩
 case measure=>simp[intOf]<;>omega):p:=h
theorem aiW{p:Prop}(h:p:=by
 clear hy
 go_wp2
 go_round
 case rel=>exact⟨1+1,ah,az,zI⟩
 case measure=>simp[intOf]<;>omega):p:=h
theorem aiX{p:Prop}(h:p:=by
 clear hy
 go_wp2
 go_round
 case rel=>exact⟨2+1,ah,az,zI⟩
 case measure=>simp[intOf]<;>omega):p:=h
theorem aiY{p:Prop}(h:p:=by
 clear hy
 go_wp2
 go_round
 case rel=>exact⟨3+1,ah,az,zI⟩
 case measure=>simp[intOf]<;>omega):p:=h
theorem aiZ{p:Prop}(h:p:=by
 refine aX (v:=_) (hR _ _ _ 73 zs _ 9 rfl I.o bP rfl bC HY.o.1) rfl ?_
 exact D.o):p:=h
theorem ai0{p:Prop}(h:p:=by
 refine⟨rfl,rfl,rfl,rfl,fun j h1 h2=>?_⟩
 have:j=2\/j=3\/j=4\/j=5:=ah
 rcases this with rfl|rfl|rfl|rfl<;>rfl):p:=h
theorem ai1{p:Prop}(h:p:=by
 rw[List.drop_succ_cons,List.drop_zero,ag1 ah,kU ah]):p:=h
theorem ai2{p:Prop}(h:p:=by
 refine aX (v:=_) (hR _ _ _ 52 Z8 _ 8 rfl I.o aU rfl aJ rfl) rfl ?_
 exact F.o):p:=h
theorem ai3{p:Prop}(h:p:=by
 rcases h2.2 with⟨hv,_⟩|⟨C,cap,d,hv,_⟩
 ·rename_i h0
  exact⟨none,0,by rw[hv,h0]⟩
 exact⟨_,_,hv⟩):p:=h
theorem ai4{p:Prop}(h:p:=by
 obtain rfl:i=25:=ah
 go_wp2
 go_ret
 exact⟨by rw[HP.o];rfl,aH B1.o H.o⟩):p:=h
theorem ai5{p:Prop}(h:p:=by
 have h1:=qR e.cs e0.cs [] [] W h0 (by rw[e.len k,e0.len k0])
 rw[xU] at h1
 exact h1):p:=h
theorem ai6{p:Prop}(h:p:=by
 rw[bJ _ hj,if_neg ah,bK,BO,if_pos hj]
 rfl):p:=h
theorem ai7{p:Prop}(h:p:=by
 have h:=Jc hp (show 0<25 from ah)
 have e:pkT.getD 0 0=2:=rfl
 unfold qA at h
 rw[e] at h
 omega):p:=h
theorem ai8{p:Prop}(h:p:=by
 show Lk D' (lC σ u (some (e,m))) vs ls
 rw[<-Z,Zr]
 exact h.same (L9 hc)):p:=h
theorem ai9{p:Prop}(h:p:=by
 go_enter Tryz.func172,Tryz.ntmps172
 go_wp2
 go_ret
 exact⟨⟨_,rfl,Nm.nil w⟩,aP _ _⟩):p:=h
theorem aja{p:Prop}(h:p:=by
 go_enter Tryz.func149,Tryz.ntmps149
 go_wp2
 go_ret
 exact⟨by rw[D.o];simp,aP _ _⟩):p:=h
theorem abJ{p:Prop}(h:p:=by
 go_wp2
 go_ret
 exact⟨Na,rfl⟩):p:=h
theorem abK{p:Prop}(h:p:=by
 go_wp2
 go_ret
 exact⟨by rw[HE2.o];rfl,rfl⟩):p:=h
theorem ajb{p:Prop}(h:p:=by
 go_enter Tryz.func195,Tryz.ntmps195
 go_wp2
 go_ret3
 exact FB.o _ HE.o aA _ BA.o):p:=h
theorem ajc{p:Prop}(h:p:=by
 rw[e1,S]
 exact⟨k+1,c',_,ah,ay,rfl,h1,t.o.step C h2 y.o m.o h3⟩):p:=h
theorem ajd{p:Prop}(h:p:=by
 cases A with
 |none=>cases hk
 |some a=>
  injection hk with hk
  rw[<-hk]
  exact(h.lt a rfl).1):p:=h
theorem aje{p:Prop}(h:p:=by
 have h1:=iI List.length b
 rw[dN,Ja,Ja] at h1
 omega):p:=h
theorem ajf{p:Prop}(h:p:=by
 go_ret2
 exact⟨none,0,by rw[j.o,y.o];rfl,by rw[j.o];exact OwnB.nil,B1.o⟩):p:=h
theorem ajg{p:Prop}(h:p:=by
 obtain rfl:=d.o
 obtain rfl:=u.o
 exact⟨A5,c5,A6,c6,i,A,c,_,c2,rfl,h3,h4,h1,h2⟩):p:=h
theorem ajh{p:Prop}(h:p:=by
 rw[bK,iy (by have:=H.o.len;omega)];rfl):p:=h
theorem aji{p:Prop}(h:p:=by
 go_enter Tryz.func176,Tryz.ntmps176
 go_wp2
 go_ret
 exact⟨by rw[HE.o];rfl,rfl⟩):p:=h
theorem ajj{p:Prop}(h:p:=by
 rw[bK,iy (by simp[dY];omega)];simp):p:=h
theorem ajk{p:Prop}(h:p:=by
 by_cases hj:j<i
 ·rw[if_pos hj,if_pos ah]
 rw[if_neg hj,if_neg ah]):p:=h
theorem ajl{p:Prop}(h:p:=by
 rw[if_pos h,oD aC,List.getElem?_take_of_lt h]):p:=h
theorem aW(h:p:=by simp[intOf]<;>omega):p:=h
