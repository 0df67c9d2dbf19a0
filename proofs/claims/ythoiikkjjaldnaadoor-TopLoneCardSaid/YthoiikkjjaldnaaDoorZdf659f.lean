/- Texts that the law rests on, laid together: NoiseW, NoiseR, PastM, PastW, CopyI, KeepW, NzW, KeepR, PastR, MxW. -/
import Derived.Test.YthoiikkjjaldnaaDoorZbe9dc0
import Derived.Test.YthoiikkjjaldnaaDoorZcd86f7
import Derived.Test.YthoiikkjjaldnaaDoorZe4c9da
import Derived.Test.YthoiikkjjaldnaaDoorZ7e0d48
import Derived.Laws.CopyOwn
import Derived.Deep.RegionLaw
set_option maxHeartbeats 4000000
namespace Go.Proofs.YthoiikkjjaldnaaDoor
set_option linter.unusedVariables false
set_option linter.unusedSimpArgs false
set_option maxRecDepth 100000
open Go.RowKit
theorem and16 (x:Int):bits BinOp.and IntKind.i64 x 65535=x%65536:=by
 have h:(BitVec.ofInt 64 x&&&BitVec.ofInt 64 65535).toNat=(x%65536).toNat:=by
  rw[BitVec.toNat_and,BitVec.toNat_ofInt,show(BitVec.ofInt 64 65535).toNat=2^16-1 from by decide,Nat.and_two_pow_sub_one_eq_mod]
  omega
 show IntKind.i64.wrap ((BitVec.ofInt 64 x&&&BitVec.ofInt 64 65535).toNat:Int)=_
 rw[h]
 simp only[IntKind.wrap,IntKind.signed,IntKind.bits]
 simp
 omega
def nzS (s:Int):Int:=(s*31821+13849)%65536
def nzZ (z:Int):Int:=min (max z 0) 32767
def nzX (s z:Int):Int:=(nzS s-32768)*nzZ z/32768
theorem nzS_range (s:Int):0<=nzS s/\nzS s<=65535:=by unfold nzS;omega
theorem nzZ_range (z:Int):0<=nzZ z/\nzZ z<=32767:=by unfold nzZ;omega
theorem nz_prod {a b:Int} (h1:0<=a) (h2:a<=65535) (h3:0<=b) (h4:b<=32767): -2147483648<=(a-32768)*b/\(a-32768)*b<=2147483648:=by
 have h5:(a-32768)*b<=32767*b:=Int.mul_le_mul_of_nonneg_right (by omega) h3
 have h6: -32768*b<=(a-32768)*b:=Int.mul_le_mul_of_nonneg_right (by omega) h3
 omega
theorem nz_wrap (s:Int):bits BinOp.and IntKind.i64 (wrap64 (wrap64 (s*31821)+13849)) 65535=nzS s:=by
 rw[and16]
 unfold nzS wrap64
 omega
theorem noise_any (s z:Int) (w:World):Calls Tryd.prog 91 #[.int .i64 s,.int .i64 z] w fun e w'=>e= .returned (.tuple #[.int .i64 (nzS s),.int .i64 (nzX s z)])/\w=w':=by
 have hw:=nz_wrap s
 have hr:=nzS_range s
 have HX:=hid (show nzX s z=(nzS s-32768)*nzZ z/32768 from rfl)
 generalize nzS s=y at*
 obtain⟨h1,h2⟩:=hr
 rcases(show(z<0/\nzZ z=0)\/(0<=z/\z<=32767/\nzZ z=z)\/(32767<z/\nzZ z=32767) by unfold nzZ;omega) with⟨hz,e0⟩|⟨hz0,hz1,e0⟩|⟨hz,e0⟩
 all_goals
  rw[e0] at HX
  clear e0
 ·go_enter Tryd.func91,Tryd.ntmps91
  go_wp2
  go_ret2
  exact⟨by rw[HX.out];simp[hw],rfl⟩
 ·obtain⟨m1,m2⟩:=nz_prod h1 h2 hz0 hz1
  go_enter Tryd.func91,Tryd.ntmps91
  go_wp2
  go_ret2
  exact⟨by rw[HX.out];simp[hw],rfl⟩
 ·go_enter Tryd.func91,Tryd.ntmps91
  go_wp2
  go_ret2
  exact⟨by rw[HX.out];simp[hw],rfl⟩
end Go.Proofs.YthoiikkjjaldnaaDoor
namespace Go.Proofs.YthoiikkjjaldnaaDoor
set_option linter.unusedVariables false
set_option linter.unusedSimpArgs false
set_option maxRecDepth 100000
open Go.RowKit
end Go.Proofs.YthoiikkjjaldnaaDoor
namespace Go.Proofs.YthoiikkjjaldnaaDoor
set_option linter.unusedVariables false
set_option linter.unusedSimpArgs false
set_option maxRecDepth 100000
def pastE (h:List Int) (lag:Nat) (i:Nat):Int:=h.getD (80-lag+i%lag) 0
def pastB (lag:Int):Bool:=decide (20<=lag/\lag<=79)
def pastL (h:List Int) (lag:Int):List Int:=if pastB lag then(List.range 40).map (pastE h lag.toNat) else[]
theorem pastB_yes {lag:Int} (h1:20<=lag) (h2:lag<=79):pastB lag=true:=by unfold pastB;simp;omega
theorem pastB_no {lag:Int} (h:lag<20\/79<lag):pastB lag=false:=by unfold pastB;simp;omega
theorem pastL_len {h:List Int} {lag:Int} (hb:pastB lag=true):(pastL h lag).length=40:=by unfold pastL;rw[hb];simp
theorem range_get {n j:Nat} (f:Nat->Int) (h:j<n):((List.range n).map f).getD j 0=f j:=by
 rw[List.getD_eq_getElem?_getD,List.getElem?_map,List.getElem?_range h]
 rfl
theorem pastL_get {h:List Int} {lag:Int} (hb:pastB lag=true) (j:Nat) (hj:j<40):(pastL h lag).getD j 0=pastE h lag.toNat j:=by
 unfold pastL;rw[if_pos hb,range_get _ hj]
theorem pastE_low {h:List Int} {lag i:Nat} (hi:i<lag):pastE h lag i=h.getD (80-lag+i) 0:=by
 unfold pastE;rw[Nat.mod_eq_of_lt hi]
theorem pastE_high {h:List Int} {lag i:Nat} (hi:lag<=i):pastE h lag i=pastE h lag (i-lag):=by
 unfold pastE;rw[Nat.mod_eq_sub_mod hi]
theorem snoc_range {n:Nat} (f:Nat->Int):(List.range n).map f++[f n]=(List.range (n+1)).map f:=by
 rw[List.range_succ,List.map_append];rfl
end Go.Proofs.YthoiikkjjaldnaaDoor
namespace Go.Proofs.YthoiikkjjaldnaaDoor
set_option linter.unusedVariables false
set_option linter.unusedSimpArgs false
set_option maxRecDepth 100000
open Go.RowKit
def NewSE (w:World) (xs:List Int) (er:Int) (e:Ending) (w':World):Prop:= ∃A c,e= .returned (.tuple #[.slice A xs.length c,.int .i64 er])/\Own w' w.heap.size A c xs/\Below w.heap.size w w'
theorem NewSE.none_ {w w':World} {er:Int} (hB:Below w.heap.size w w'):NewSE w [] er (.returned (.tuple #[.slice none 0 0,.int .i64 er])) w':=⟨none,0,rfl,Own.nil,hB⟩
theorem past_any (h:List Int) (lag:Int) (w:World) (hl:h.length=80):Calls Tryd.prog 56 #[.agg (agi h),.int .i64 lag] w (NewSE w (pastL h lag) (errOf (pastB lag))):=by
 by_cases h1:lag<20\/79<lag
 ·rw[show pastL h lag=[] from by unfold pastL;rw[pastB_no h1];rfl,pastB_no h1]
  have FIN:=hid (NewSE.none_ (er:=2) ((Below.refl _ w).alloc (Nat.le_refl _) (.cells (agi h) 28)))
  rcases h1 with h1|h1
  ·have d1:decide (lag<20)=true:=by simpa using h1
   go_enter Tryd.func56,Tryd.ntmps56
   go_wp2
   go_ret2
   exact FIN.out
  ·have d1:decide (lag<20)=false:=by simp;omega
   have d2:decide (79<lag)=true:=by simpa using h1
   go_enter Tryd.func56,Tryd.ntmps56
   go_wp2
   go_ret2
   exact FIN.out
 ·have hb:pastB lag=true:=pastB_yes (by omega) (by omega)
  have hlen:=pastL_len (h:=h) hb
  obtain⟨L,rfl⟩:=Int.eq_ofNat_of_zero_le (show 0<=lag by omega)
  have hP:=hid (fun j hj=>pastL_get (h:=h) hb j hj)
  rw[hb]
  have hL1:20<=L:=by omega
  have hL2:L<=79:=by omega
  obtain⟨E,hE⟩: ∃E,E=80-L:=⟨_,rfl⟩
  have hEi:(80:Int)-(L:Nat)=(E:Nat):=by omega
  have hE2:E+L=80:=by omega
  have A0:=hid (IB.new w 28 h)
  have d1:decide ((L:Int)<20)=false:=by simp;omega
  have d2:decide (79<(L:Int))=false:=by simp;omega
  have HL:=hid hl
  have HN:=hid hlen
  have HE:=hid hE
  clear h1 hb hl hlen hE
  go_enter Tryd.func56,Tryd.ntmps56
  go_wp2_with (at_make;refine wpList_makeI rfl _ _ rfl .i64 .i64 40 rfl rfl w.heap.size (by omega) (by simp) ?_;intro w1 hO hG;have O1:=hid hO;have A1:=hid (Blk.grown A0.out hG (by simp));have B1:=hid (((Below.refl w.heap.size w).alloc (Nat.le_refl _) (.cells (agi h) 28)).grown hG (by simp) (by simp));clear hO hG)
  simp only[World.size_alloc] at O1
  go_loopw [17] (fun iv wr=> ∃(k:Nat) (ys:List Int),k<=40/\iv= .int .i64 k/\Hid (ys.length=40/\∀j,j<k->ys.getD j 0=pastE h L j)/\Hid (Own wr w.heap.size (some ⟨w.heap.size+1,0,none⟩) 40 ys)/\Hid (IB wr w.heap.size 28 h)/\Hid (Below w.heap.size w wr)) (fun iv _=>40-(intOf iv).toNat)
  case atStart=>exact⟨0,_,by omega,rfl,hid ⟨by simp,fun j h=>by omega⟩,O1,A1,B1⟩
  case round=>
   clear O1 A1 B1
   obtain⟨k,ys,hk,rfl,HY,HO,HA,HB⟩:=hrel
   by_cases hlt:k<40
   ·have co:=HO.out.cell k (by rw[HY.out.1];exact hlt)
    have fo:=HO.out.frozen k
    have NO:=hid (fun v=>HO.out.set_ k (by rw[HY.out.1];exact hlt) v)
    have NA:=hid (fun v=>Blk.far HA.out (p:=⟨w.heap.size+1,k,none⟩) (by show w.heap.size≠w.heap.size+1;omega) v)
    have NB:=hid (fun v=>HB.out.setCell (p:=⟨w.heap.size+1,k,none⟩) (by show w.heap.size<=w.heap.size+1;omega) v)
    have NEXT:=hid (fun(v:Int) (hv:v=pastE h L k)=>show Hid ((ys.set k v).length=40/\∀j,j<k+1->(ys.set k v).getD j 0=pastE h L j) from by
     obtain⟨q1,q3⟩:=HY.out
     refine⟨by simpa using q1,fun j hj=>?_⟩
     by_cases he:k=j
     ·subst he
      rw[get_set_same _ _ _ (by omega),hv]
     ·rw[get_set_other _ _ he]
      exact q3 j (by omega))
    by_cases hlow:k<L
    ·have ci:=HA.out.cell (E+k) (by rw[HL.out];omega)
     have hEk:E+k<80:=by omega
     have HV:=hid (show h.getD (E+k) 0=pastE h L k by rw[pastE_low hlow,<-HE.out])
     generalize h.getD (E+k) 0=x at*
     go_wp2
     go_roundw
     case rel=>exact⟨k+1,_,by omega,by go_num,NEXT.out _ HV.out,NO.out _,hid (NA.out _),hid (NB.out _)⟩
     case measure=>simp[intOf]<;>omega
    ·obtain⟨d,hd⟩: ∃d,k=L+d:=⟨k-L,by omega⟩
     have hsub:(k:Int)-(L:Nat)=(d:Nat):=by omega
     have cd:=HO.out.cell d (by rw[HY.out.1];omega)
     have hd40:d<40:=by omega
     have HV:=hid (show ys.getD d 0=pastE h L k by rw[HY.out.2 d (by omega),pastE_high (h:=h) (lag:=L) (i:=k) (by omega),show k-L=d from by omega])
     have HD:=hid hd
     clear hd
     generalize ys.getD d 0=x at*
     go_wp2
     go_roundw
     case rel=>exact⟨k+1,_,by omega,by go_num,NEXT.out _ HV.out,NO.out _,hid (NA.out _),hid (NB.out _)⟩
     case measure=>simp[intOf]<;>omega
   ·obtain rfl:k=40:=by omega
    have HF:=hid (show ys=pastL h (L:Nat) from list_ext (by rw[HY.out.1,HN.out]) (fun j hj=>by rw[HY.out.2 j (by rw[HY.out.1] at hj;exact hj),hP.out j (by rw[HY.out.1] at hj;exact hj)];rfl))
    go_wp2
    go_ret2
    exact⟨_,_,by rw[HN.out];rfl,by rw[<-HF.out];exact HO.out,HB.out⟩
end Go.Proofs.YthoiikkjjaldnaaDoor
namespace Go.Proofs.YthoiikkjjaldnaaDoor
set_option linter.unusedVariables false
set_option linter.unusedSimpArgs false
set_option maxRecDepth 100000
open Go.RowKit
theorem infoSz:(Tryd.prog.info? 3).map (·.size)=some 1:=by kernel_rfl
theorem step_copyI {ops:Array Oper} {o:Oper} {a:Act} {w:World} {K:Act->World->Prop} {Q:Exit->Act->World->Prop} {E:Prop} (hgd:o.guard=none) (d s:Operand) (dT sT:TypeId)
 (ho:o.op= .call {callee:= .builtin .copy,args:= #[d,s],argTypes:= #[dT,sT]}) (hu:Tryd.prog.underlying dT=some (.slice 3))
 (g off dLen dCap:Nat) (ad:Addr) (sLen sCap:Nat) (hd:a.eval d= .slice (some ⟨g,off,none⟩) dLen dCap) (hs:a.eval s= .slice (some ad) sLen sCap)
 (t:TypeId) (xs ys zs:List Int) (hg:IB w g t xs) (hn:ys.length=Nat.min sLen dLen) (hsrc: ∀j,j<ys.length->w.cell? (ad.add j)=some (.int .i64 (ys.getD j 0)))
 (hfit:off+ys.length<=xs.length) (hz:zs=xs.take off++ys++xs.drop (off+ys.length))
 (h:K (a.put o.dst (goInt ys.length)) (w.setRow g (agi zs))):
 if Region.wanted o (yielded ops a.tmps)=true then Oper.wp Tryd.prog o a w K Q else E:=by
 have hw:Region.wanted o (yielded ops a.tmps)=true:=by simp[Region.wanted,hgd]
 rw[if_pos hw]
 have hrun:=run_copy_row (P:=Tryd.prog) w dT sT o.type 3 g off dLen dCap ad sLen sCap (agi xs) t (ints ys) hu infoSz hg (by rw[ints_len];exact hn)
  (fun j v hv=>by
    have hj:j<ys.length:=by
     have:=(List.getElem?_eq_some_iff.mp hv).1
     rwa [ints_len] at this
    rw[ints_get ys j hj] at hv
    rw[<-hv]
    exact hsrc j hj) (by rw[ints_len,agi_size];exact hfit) (ints_one ys)
 have e:((agi xs).toList.take off++ints ys++(agi xs).toList.drop (off+(ints ys).length)).toArray=agi zs:=by
  subst hz
  simp[agi,ints,List.map_take,List.map_drop]
 rw[e,ints_len] at hrun
 unfold Oper.wp
 simp[execOp,ho,resolve,invoke,builtin,hd,hs,hrun,Result.andThen]
 exact h
theorem results_row1 {fn:Func} {p:Tmp} {ty:TypeId} (h:fn.results= #[.cell p ty]) (tmps:Array Value) (w:World) (g:Nat) (t:TypeId) (xs:List Int) (d:TypeDesc) (n:Nat)
 (hp:tmps.getD p undef= .pointer (some ⟨g,0,none⟩)) (hg:IB w g t xs) (hu:Tryd.prog.underlying ty=some d) (hd:isAggD d=true) (hi:(Tryd.prog.info? ty).map (·.size)=some n) (hl:xs.length=n):
 (results fn tmps).run Tryd.prog w= .ok (.agg (agi xs)) w:=by
 have hp':tmps[p]?.getD undef= .pointer (some ⟨g,0,none⟩):=by simpa using hp
 have hr:=run_loadVar_row (P:=Tryd.prog) w g t ty (agi xs) (0,0) d hg hu (by cases d<;>first|rfl|(simp[isAggD] at hd)) (by rw[hi,agi_size,hl])
 simp[results,h,hp',asAddr,hr]
end Go.Proofs.YthoiikkjjaldnaaDoor
namespace Go.Proofs.YthoiikkjjaldnaaDoor
set_option linter.unusedVariables false
set_option linter.unusedSimpArgs false
set_option maxRecDepth 100000
open Go.RowKit
def keepL (h x:List Int):List Int:=h.drop 40++x.map s16
def keepA (h x:List Int) (n:Nat):List Int:=if n=40 then keepL h x else List.replicate 80 0
def keepE (n:Nat):Int:=if n=40 then 0 else 1
theorem keepL_len {h x:List Int} (hh:h.length=80) (hx:x.length=40):(keepL h x).length=80:=by unfold keepL;simp[hh,hx]
theorem keepL_lo {h x:List Int} (hh:h.length=80) (j:Nat) (hj:j<40):(keepL h x).getD j 0=h.getD (40+j) 0:=by
 unfold keepL
 simp[List.getD_eq_getElem?_getD,List.getElem?_append_left (show j<(h.drop 40).length by simp;omega)]
theorem keepL_hi {h x:List Int} (hh:h.length=80) (hx:x.length=40) (j:Nat) (hj:j<40):(keepL h x).getD (40+j) 0=s16 (x.getD j 0):=by
 unfold keepL
 have hl:(h.drop 40).length=40:=by simp[hh]
 rw[List.getD_eq_getElem?_getD,List.getElem?_append_right (by omega),hl,Nat.add_sub_cancel_left]
 simp[List.getD_eq_getElem?_getD,List.getElem?_eq_getElem (show j<x.length by omega)]
theorem keep_end {h x ys:List Int} (hh:h.length=80) (hx:x.length=40) (h1:ys.length=80) (h2: ∀j,j<40->ys.getD j 0=h.getD (40+j) 0) (h3: ∀j,j<40->ys.getD (40+j) 0=s16 (x.getD j 0)):ys=keepL h x:=by
 refine list_ext (by rw[h1,keepL_len hh hx]) (fun k hk=>?_)
 by_cases hlt:k<40
 ·rw[h2 k hlt,keepL_lo hh k hlt]
 ·obtain⟨j,rfl⟩: ∃j,k=40+j:=⟨k-40,by omega⟩
  rw[h3 j (by omega),keepL_hi hh hx j (by omega)]
def Keeps (w:World) (h x:List Int) (n:Nat) (e:Ending) (w':World):Prop:=e= .returned (.tuple #[.agg (agi (keepA h x n)),.int .i64 (keepE n)])/\Below w.heap.size w w'
def Z80:List Int:=List.replicate 80 0
theorem z80_ag:Tryd.zeroCells28=agi Z80:=by kernel_rfl
theorem size80k:(Tryd.prog.info? 28).map (·.size)=some 80:=by kernel_rfl
structure Kx (w wr:World) (ys:List Int):Prop where
 A:IB wr w.heap.size 28 ys
 R:IB wr (w.heap.size+1) 28 Z80
 bel:Below w.heap.size w wr
theorem Kx.start (w:World) (h:List Int):Kx w ((w.alloc (.cells (agi h) 28)).alloc (.cells Tryd.zeroCells28 28)) h:=by
 have h1:=IB.new w 28 h
 have h2:=IB.new (w.alloc (.cells (agi h) 28)) 28 Z80
 simp only[World.size_alloc] at h2
 rw[z80_ag]
 exact⟨Blk.alloc h1 _,h2,((Below.refl _ _).alloc (Nat.le_refl _) _).alloc (by simp) _⟩
theorem Kx.set_ {w wr:World} {ys:List Int} (s:Kx w wr ys) (k:Nat) (x:Int):Kx w (wr.setCell ⟨w.heap.size,k,none⟩ (.int .i64 x)) (ys.set k x):=
 ⟨IB.set_ s.A k x,Blk.far s.R (by simp) _,s.bel.setCell (by simp) _⟩
theorem Kx.drew {w wr:World} {ys:List Int} (s:Kx w wr ys):Kx w wr.drew ys:=⟨s.A,s.R,s.bel.drew⟩
theorem keep_any (h x:List Int) (A:Option Addr) (c n:Nat) (w:World) (hh:h.length=80) (hr:Rs w w.heap.size A x) (hn:x.length=n) (hl:n<=17592186044416):
 Calls Tryd.prog 65 #[.agg (agi h),.slice A n c] w (Keeps w h x n):=by
 have hR:=results_row2 (fn:=Tryd.f65) (p:=4) (q:=5) (ty:=28) rfl
 have S0:=hid (Kx.start w h)
 have HR:=hid hr
 have HN:=hid hn
 have HH:=hid hh
 by_cases h40:n=40
 ·subst h40
  have FA:keepA h x 40=keepL h x:=if_pos rfl
  have KL:=hid (keepL_len hh hn)
  have FA:=hid FA
  have D40:=hid (show(h.drop 40).length=40 by simp[hh])
  have HZ:=hid (show h.drop 40++h.drop 40=h.take 0++h.drop 40++h.drop (0+(h.drop 40).length) by simp[hh])
  have HZ1:=hid (show(h.drop 40++h.drop 40).length=80 by simp[hh])
  have HZ2:=hid (fun(j:Nat) (hj:j<40)=>show(h.drop 40++h.drop 40).getD j 0=h.getD (40+j) 0 by
   simp[List.getD_eq_getElem?_getD,List.getElem?_append_left (show j<(h.drop 40).length by simp;omega)])
  have HD:=hid (fun(j:Nat) (hj:j<40)=>show(h.drop 40).getD j 0=h.getD (40+j) 0 by simp[List.getD_eq_getElem?_getD])
  clear hr hn hh
  go_enter Tryd.func65,Tryd.ntmps65
  go_wp2
  go_region_law (refine step_copyI rfl (.tmp 12) (.tmp 13) 36 36 rfl Tryd.underlying36 w.heap.size 0 80 80 ⟨w.heap.size,40,none⟩ 40 40 (by simp[Act.eval,Act.put]) (by simp[Act.eval,Act.put]) 28 h (h.drop 40) (h.drop 40++h.drop 40) S0.out.A (by rw[D40.out];rfl) (fun j hj=>by rw[D40.out] at hj;rw[HD.out j hj,Addr.add_mid];exact IB.cell S0.out.A (40+j) (by rw[HH.out];omega)) (by rw[D40.out,HH.out];omega) HZ.out ?_)
  generalize hw4:World.setRow _ _ _=w4
  have S4:Kx w w4 (h.drop 40++h.drop 40):=by
   rw[<-hw4]
   exact⟨IB.setRow (Blk.drew S0.out.A) _,Blk.rowFar (Blk.drew S0.out.R) (by omega),below_setRow (Below.drew S0.out.bel) (Nat.le_refl _) _⟩
  have S4:=hid S4
  clear hw4 S0
  obtain⟨ys0,hys0⟩: ∃ys0,ys0=h.drop 40++h.drop 40:=⟨_,rfl⟩
  rw[<-hys0] at S4 HZ1 HZ2
  clear hys0
  generalize ((h.length-40:Nat):Int)=u14
  simp only[Exit.then]
  go_wp2
  go_loopw [17] (fun iv wr=> ∃(k:Nat) (ys:List Int),k<=40/\iv= .int .i64 k/\Hid (ys.length=80/\(∀j,j<40->ys.getD j 0=h.getD (40+j) 0)/\∀j,j<k->ys.getD (40+j) 0=s16 (x.getD j 0))/\Hid (Kx w wr ys)) (fun iv _=>40-(intOf iv).toNat)
  case atStart=>exact⟨0,_,by omega,rfl,hid ⟨HZ1.out,HZ2.out,fun j h=>by omega⟩,S4⟩
  case round=>
   clear S4
   obtain⟨k,ys,hk,rfl,HY,HS⟩:=hrel
   by_cases hlt:k<40
   ·obtain⟨ad,rfl,_,c1⟩:=(HR.out.below HS.out.bel).at_ (k:=k) (by rw[HN.out];exact hlt)
    obtain⟨J,hJ⟩: ∃J:Nat,J=40+k:=⟨_,rfl⟩
    obtain⟨v,hv⟩: ∃v,v=x.getD k 0:=⟨_,rfl⟩
    rw[<-hv] at c1
    have co:=IB.cell HS.out.A J (by rw[HY.out.1];omega)
    have fo:=Blk.frozen HS.out.A J
    have hwJ:IntKind.i64.wrap (40+(k:Int))=(J:Nat):=by rw[IntKind.wrap_i64];omega
    have hJ80:(J:Int)<80:=by omega
    have SX:=hid (HS.out.set_ J (s16 v))
    have NEXT:=hid (show(ys.set J (s16 v)).length=80/\(∀j,j<40->(ys.set J (s16 v)).getD j 0=h.getD (40+j) 0)/\∀j,j<k+1->(ys.set J (s16 v)).getD (40+j) 0=s16 (x.getD j 0) from by
     obtain⟨q1,q2,q3⟩:=HY.out
     refine⟨by simpa using q1,fun j hj=>?_,fun j hj=>?_⟩
     ·rw[get_set_other _ _ (by omega)];exact q2 j hj
     ·by_cases he:j=k
      ·subst he
       rw[<-hJ,get_set_same _ _ _ (by omega),hv]
      ·rw[get_set_other _ _ (by omega)]
       exact q3 j (by omega))
    clear hJ hv
    go_wp2_with (go_at_call 41;refine(concealsat_any _ _).mono ?_;rintro e w' ⟨rfl,rfl⟩)
    go_roundw
    case rel=>exact⟨k+1,_,by omega,by go_num,NEXT,SX⟩
    case measure=>simp[intOf]<;>omega
   ·obtain rfl:k=40:=by omega
    have HF:=keep_end HH.out HN.out HY.out.1 HY.out.2.1 HY.out.2.2
    subst HF
    have FIN:=hid (below_setRow HS.out.bel (g:=w.heap.size+1) (by omega) (agi (keepL h x)))
    have hRow:=hid (IB.setRow HS.out.R (keepL h x))
    go_wp2_with (first
     |(refine wpList_loadI rfl 28 (.tmp 2) rfl _ 28 (keepL h x) 80 _ rfl HS.out.A Tryd.underlying28 rfl size80k KL.out ?_)
     |(refine wpList_storeI rfl 28 (.tmp 4) (.tmp 28) rfl _ 28 Z80 (keepL h x) 80 rfl rfl HS.out.R size80k rfl KL.out ?_))
    refine bodyPost_ret (v:=_) (hR _ _ _ 28 (keepL h x) _ 80 rfl hRow.out Tryd.underlying28 rfl size80k KL.out) rfl ?_
    exact⟨by rw[FA.out];rfl,FIN.out⟩
 ·have FA:=hid (show keepA h x n=Z80 from if_neg h40)
  have FE:=hid (show keepE n=1 from if_neg h40)
  have d1:((n:Int)==40)=false:=by simp;omega
  have d2:((n:Int) !=40)=true:=by simp;omega
  clear h40
  have FIN:=hid (below_setRow S0.out.bel (g:=w.heap.size+1) (by omega) (agi Z80))
  have hRow:=hid (IB.setRow S0.out.R Z80)
  go_enter Tryd.func65,Tryd.ntmps65
  go_wp2_with (refine wpList_storeI rfl 28 (.tmp 4) (.tmp 11) rfl _ 28 Z80 Z80 80 rfl (congrArg Value.agg z80_ag) S0.out.R size80k rfl rfl ?_)
  refine bodyPost_ret (v:=_) (hR _ _ _ 28 Z80 _ 80 rfl hRow.out Tryd.underlying28 rfl size80k rfl) rfl ?_
  exact⟨by rw[FA.out,FE.out];rfl,FIN.out⟩
end Go.Proofs.YthoiikkjjaldnaaDoor
namespace Go.Proofs.YthoiikkjjaldnaaDoor
set_option linter.unusedVariables false
set_option linter.unusedSimpArgs false
set_option maxRecDepth 100000
open Go.RowKit
def nzE (s:Int):Nat->Int
 |0=>s
 |k+1=>nzE (nzS s) k
def nzL (s z:Int):Nat->List Int
 |0=>[]
 |k+1=>nzX s z::nzL (nzS s) z k
theorem nzE_succ (s:Int) (k:Nat):nzE s (k+1)=nzS (nzE s k):=by
 induction k generalizing s with
 |zero=>rfl
 |succ k ih=>rw[nzE,ih,nzE]
theorem nzL_succ (s z:Int) (k:Nat):nzL s z (k+1)=nzL s z k++[nzX (nzE s k) z]:=by
 induction k generalizing s with
 |zero=>rfl
 |succ k ih=>rw[nzL,ih,nzL];rfl
theorem nzL_len (s z:Int) (k:Nat):(nzL s z k).length=k:=by
 induction k generalizing s with
 |zero=>rfl
 |succ k ih=>simp[nzL,ih]
theorem nzX_range (s z:Int): -32768<=nzX s z/\nzX s z<=32767:=by
 have h1:=nzS_range s
 have h2:=nzZ_range z
 have h3: -1073709056<=(nzS s-32768)*nzZ z/\(nzS s-32768)*nzZ z<=1073709056:=by
  have e1:(nzS s-32768)*nzZ z<=32767*nzZ z:=Int.mul_le_mul_of_nonneg_right (by omega) h2.1
  have e2:(-32768)*nzZ z<=(nzS s-32768)*nzZ z:=Int.mul_le_mul_of_nonneg_right (by omega) h2.1
  omega
 unfold nzX
 omega
theorem nzL_in (s z:Int) (k:Nat):all16 (nzL s z k)=true:=by
 unfold all16
 rw[List.all_eq_true]
 intro x hx
 induction k generalizing s with
 |zero=>cases hx
 |succ k ih=>
  rcases List.mem_cons.1 hx with rfl|h
  ·have:=nzX_range s z
   exact ok16_yes this.1 this.2
  ·exact ih _ h
theorem fill_next (s z:Int) (n k:Nat) (h:k<n):(nzL s z k++List.replicate (n-k) 0).set k (nzX (nzE s k) z)=nzL s z (k+1)++List.replicate (n-(k+1)) 0:=by
 have hl:=nzL_len s z k
 obtain⟨d,rfl⟩: ∃d,n=k+1+d:=⟨n-(k+1),by omega⟩
 have e:k+1+d-k=d+1:=by omega
 have e2:k+1+d-(k+1)=d:=by omega
 rw[e,e2,List.replicate_succ,List.set_append_right _ _ (by omega),hl,Nat.sub_self,List.set_cons_zero,nzL_succ,List.append_assoc]
 rfl
theorem fill_len (s z:Int) (n k:Nat) (h:k<=n):(nzL s z k++List.replicate (n-k) 0).length=n:=by rw[List.length_append,nzL_len,List.length_replicate];omega
def NzA (w:World) (s z:Int) (n:Nat) (e:Ending) (w':World):Prop:= ∃A c,e= .returned (.tuple #[.int .i64 (nzE s n),.slice A n c])/\Own w' w.heap.size A c (nzL s z n)/\Below w.heap.size w w'
theorem cnoise_any (s z:Int) (n:Nat) (w:World) (hn:n<=1000):Calls Tryd.prog 73 #[.int .i64 s,.int .i64 z,.int .i64 n] w (NzA w s z n):=by
 have hn2:(n:Int)<=1000:=by omega
 go_enter Tryd.func73,Tryd.ntmps73
 go_wp2_with (at_make;refine wpList_makeI rfl _ _ rfl .i64 .i64 n rfl rfl w.heap.size (by omega) (Nat.le_refl _) ?_;intro w1 hO hG;have O1:=hid hO;have B1:=hid ((Below.refl w.heap.size w).grown hG (Nat.le_refl _) (by simp));clear hO hG)
 go_loopw [0,14] (fun sv iv wr=> ∃(k:Nat),k<=n/\iv= .int .i64 k/\sv= .int .i64 (nzE s k)/\Hid (Own wr w.heap.size (some ⟨w.heap.size,0,none⟩) n (nzL s z k++List.replicate (n-k) 0))/\Hid (Below w.heap.size w wr)) (fun _ iv _=>n-(intOf iv).toNat)
 case atStart=>exact⟨0,by omega,rfl,rfl,O1,B1⟩
 case round=>
  clear O1 B1
  obtain⟨k,hk,rfl,rfl,HO,HB⟩:=hrel
  by_cases hlt:k<n
  ·have HL:=hid (fill_len s z n k hk)
   have co:=HO.out.cell k (by rw[HL.out];exact hlt)
   have fo:=HO.out.frozen k
   have NO:=hid (show Own _ _ _ _ _ from by have:=HO.out.set_ k (by rw[HL.out];exact hlt) (nzX (nzE s k) z);rwa [fill_next s z n k hlt] at this)
   have NB:=hid (HB.out.setCell (p:=⟨w.heap.size,k,none⟩) (Nat.le_refl _) (.int .i64 (nzX (nzE s k) z)))
   have hkn:(k:Int)<n:=by omega
   have NE:=hid (nzE_succ s k)
   have KN:=hid (fun W=>noise_any (nzE s k) z W)
   generalize nzX (nzE s k) z=x at*
   generalize (nzL s z k++List.replicate (n-k) 0).getD k 0=x0 at*
   generalize hE:nzE s k=E at*
   clear hE
   go_wp2_with (go_at_call 91;refine(KN.out _).mono ?_;rintro e w' ⟨rfl,rfl⟩)
   go_roundw
   case rel=>exact⟨k+1,by omega,by go_num,by rw[NE.out],NO,NB⟩
   case measure=>simp[intOf]<;>omega
  ·obtain rfl:k=n:=by omega
   have OF:=hid (show Own wr w.heap.size (some ⟨w.heap.size,0,none⟩) k (nzL s z k) from by have:=HO.out;rwa [Nat.sub_self,List.replicate_zero,List.append_nil] at this)
   clear HO
   go_wp2
   go_ret2
   exact⟨_,_,rfl,OF.out,HB.out⟩
end Go.Proofs.YthoiikkjjaldnaaDoor
namespace Go.Proofs.YthoiikkjjaldnaaDoor
set_option linter.unusedVariables false
set_option linter.unusedSimpArgs false
set_option maxRecDepth 100000
open Go.RowKit
structure Kr (w wr:World) (h ys:List Int):Prop where
 A:IB wr w.heap.size 28 h
 R:IB wr (w.heap.size+1) 28 Z80
 O:IB wr (w.heap.size+2) 28 ys
 bel:Below w.heap.size w wr
theorem Kr.start (w:World) (h:List Int):Kr w (((w.alloc (.cells (agi h) 28)).alloc (.cells Tryd.zeroCells28 28)).alloc (.cells Tryd.zeroCells28 28)) h Z80:=by
 have h1:=IB.new w 28 h
 have h2:=IB.new (w.alloc (.cells (agi h) 28)) 28 Z80
 have h3:=IB.new ((w.alloc (.cells (agi h) 28)).alloc (.cells (agi Z80) 28)) 28 Z80
 simp only[World.size_alloc] at h2 h3
 rw[z80_ag]
 exact⟨Blk.alloc (Blk.alloc h1 _) _,Blk.alloc h2 _,h3,(((Below.refl _ _).alloc (Nat.le_refl _) _).alloc (by simp) _).alloc (by simp;omega) _⟩
theorem Kr.set_ {w wr:World} {h ys:List Int} (s:Kr w wr h ys) (k:Nat) (x:Int):Kr w (wr.setCell ⟨w.heap.size+2,k,none⟩ (.int .i64 x)) h (ys.set k x):=
 ⟨Blk.far s.A (by simp) _,Blk.far s.R (by simp) _,IB.set_ s.O k x,s.bel.setCell (p:=⟨w.heap.size+2,k,none⟩) (by show w.heap.size<=w.heap.size+2;omega) _⟩
theorem Kr.below {w wr w':World} {h ys:List Int} (s:Kr w wr h ys) (hb:Below wr.heap.size wr w'):Kr w w' h ys:=
 ⟨Blk.below' s.A hb,Blk.below' s.R hb,Blk.below' s.O hb,s.bel.trans (hb.mono s.bel.size)⟩
theorem Kr.lt {w wr:World} {h ys:List Int} (s:Kr w wr h ys):w.heap.size+3<=wr.heap.size:=Blk.lt s.O
end Go.Proofs.YthoiikkjjaldnaaDoor
namespace Go.Proofs.YthoiikkjjaldnaaDoor
set_option linter.unusedVariables false
set_option linter.unusedSimpArgs false
set_option maxRecDepth 100000
open Go.RowKit
end Go.Proofs.YthoiikkjjaldnaaDoor
namespace Go.Proofs.YthoiikkjjaldnaaDoor
set_option linter.unusedVariables false
set_option linter.unusedSimpArgs false
set_option maxRecDepth 100000
open Go.RowKit
def mxV (p g b:Int):Int:=s16 ((s16 p*g+8192)/16384+s16 b)
def mxB (lag g:Int):Bool:=pastB lag&&decide (0<=g/\g<=32767)
def mxE (h x:List Int) (lag g:Int) (i:Nat):Int:=mxV ((pastL h lag).getD i 0) g (x.getD i 0)
def mxL (h x:List Int) (lag g:Int) (n:Nat):List Int:=if n=40/\mxB lag g=true then(List.range 40).map (mxE h x lag g) else[]
def mxR (lag g:Int) (n:Nat):Int:=if n=40 then errOf (mxB lag g) else 1
theorem mx_size {h x:List Int} {lag g:Int} {n:Nat} (hn:n≠40):mxL h x lag g n=[]/\mxR lag g n=1:=⟨if_neg (fun h=>hn h.1),if_neg hn⟩
theorem mx_bad {h x:List Int} {lag g:Int} (hb:mxB lag g=false):mxL h x lag g 40=[]/\mxR lag g 40=2:=⟨if_neg (fun h=>by rw[hb] at h;exact absurd h.2 (by simp)),by unfold mxR;rw[if_pos rfl,hb];rfl⟩
theorem mx_good {h x:List Int} {lag g:Int} (hb:mxB lag g=true):mxL h x lag g 40=(List.range 40).map (mxE h x lag g)/\mxR lag g 40=0:=⟨if_pos ⟨rfl,hb⟩,by unfold mxR;rw[if_pos rfl,hb];rfl⟩
theorem mxL_in (h x:List Int) (lag g:Int) (n:Nat):all16 (mxL h x lag g n)=true:=by
 unfold mxL
 split
 ·unfold all16
  rw[List.all_eq_true]
  intro y hy
  obtain⟨i,_,rfl⟩:=List.mem_map.1 hy
  have:=s16_range ((s16 ((pastL h lag).getD i 0)*g+8192)/16384+s16 (x.getD i 0))
  exact ok16_yes this.1 this.2
 ·rfl
theorem mx_mul {a g:Int} (h1: -32768<=a) (h2:a<=32767) (h3:0<=g) (h4:g<=32767): -1073741824<=a*g/\a*g<=1073741824:=by
 have:=mul_bound (x:=a) (X:=32768) (y:=g) (Y:=32768) (by omega) (by omega) ⟨by omega,by omega⟩ ⟨by omega,by omega⟩
 omega
theorem mix_any (h x:List Int) (lag g:Int) (A:Option Addr) (c n:Nat) (w:World) (hh:h.length=80) (hr:Rs w w.heap.size A x) (hn:x.length=n) (hl:n<=17592186044416):
 Calls Tryd.prog 64 #[.agg (agi h),.int .i64 lag,.int .i64 g,.slice A n c] w (NewSE w (mxL h x lag g n) (mxR lag g n)):=by
 have A0:=hid (IB.new w 28 h)
 have B0:=hid ((Below.refl w.heap.size w).alloc (Nat.le_refl _) (.cells (agi h) 28))
 have HH:=hid hh
 have HR:=hid hr
 have HN:=hid hn
 by_cases h40:n=40
 ·subst h40
  have KP:=hid (fun W=>past_any h lag W hh)
  clear hr hn hh
  cases hb:pastB lag with
  |false=>
   obtain⟨e1,e2⟩:=mx_bad (h:=h) (x:=x) (lag:=lag) (g:=g) (by unfold mxB;rw[hb];rfl)
   rw[e1,e2]
   have hp:pastL h lag=[]:=by unfold pastL;rw[hb];rfl
   rw[hp,hb] at KP
   clear e1 e2 hp hb
   go_enter Tryd.func64,Tryd.ntmps64
   go_wp2_with (refine wpList_loadI rfl 28 (.tmp 4) rfl _ 28 h 80 _ rfl A0.out Tryd.underlying28 rfl size80k HH.out ?_)
   refine(KP.out _).mono ?_
   rintro e w1 ⟨A1,c1,rfl,hO,hB⟩
   have FIN:=hid (NewSE.none_ (er:=2) (B0.out.trans (hB.mono B0.out.size)))
   clear hO hB
   go_wp2
   go_ret2
   exact FIN.out
  |true=>
   have hlen:=pastL_len (h:=h) hb
   by_cases hg:0<=g/\g<=32767
   ·obtain⟨g1,g2⟩:=hg
    obtain⟨e1,e2⟩:=mx_good (h:=h) (x:=x) (lag:=lag) (g:=g) (by unfold mxB;rw[hb];simp;omega)
    have E1:=hid e1
    rw[e2]
    rw[hb] at KP
    have HPL:=hid hlen
    have HE:=hid (fun i=>show mxE h x lag g i=mxV ((pastL h lag).getD i 0) g (x.getD i 0) from rfl)
    generalize pastL h lag=P at*
    clear e1 e2 hb hlen
    go_enter Tryd.func64,Tryd.ntmps64
    go_wp2_with (refine wpList_loadI rfl 28 (.tmp 4) rfl _ 28 h 80 _ rfl A0.out Tryd.underlying28 rfl size80k HH.out ?_)
    refine(KP.out _).mono ?_
    rintro e w1 ⟨A1,c1,rfl,hO,hB⟩
    have L1:=hid (B0.out.trans (hB.mono B0.out.size))
    obtain⟨gv,rfl,gv1,gv2⟩:=hO.head (by rw[HPL.out];omega)
    have O1:=hid (hO.more (base':=w.heap.size) (by simp))
    have hgv:w.heap.size<=gv:=by simp at gv1;omega
    rw[HPL.out]
    clear hO hB gv1 gv2
    go_wp2
    go_loopw [34] (fun iv wr=> ∃(k:Nat) (ys:List Int),k<=40/\iv= .int .i64 k/\Hid (ys.length=40/\(∀j,j<k->ys.getD j 0=mxE h x lag g j)/\∀j,k<=j->ys.getD j 0=P.getD j 0)/\Hid (Own wr w.heap.size (some ⟨gv,0,none⟩) c1 ys)/\Hid (Below w.heap.size w wr)) (fun iv _=>40-(intOf iv).toNat)
    case atStart=>exact⟨0,P,by omega,rfl,hid ⟨HPL.out,fun j h=>by omega,fun j h=>rfl⟩,O1,L1⟩
    case round=>
     clear O1 L1
     obtain⟨k,ys,hk,rfl,HY,HO,HB⟩:=hrel
     by_cases hlt:k<40
     ·obtain⟨ad,rfl,_,cb⟩:=(HR.out.below HB.out).at_ (k:=k) (by rw[HN.out];exact hlt)
      have cp:=HO.out.cell k (by rw[HY.out.1];exact hlt)
      rw[HY.out.2.2 k (Nat.le_refl _)] at cp
      have fp:=HO.out.frozen k
      have NO:=hid (fun v=>HO.out.set_ k (by rw[HY.out.1];exact hlt) v)
      have NB:=hid (fun v=>HB.out.setCell (p:=⟨gv,k,none⟩) hgv v)
      have NEXT:=hid (fun(v:Int) (hv:v=mxE h x lag g k)=>show Hid ((ys.set k v).length=40/\(∀j,j<k+1->(ys.set k v).getD j 0=mxE h x lag g j)/\∀j,k+1<=j->(ys.set k v).getD j 0=P.getD j 0) from by
       obtain⟨q1,q2,q3⟩:=HY.out
       refine⟨by simpa using q1,fun j hj=>?_,fun j hj=>?_⟩
       ·by_cases he:k=j
        ·subst he
         rw[get_set_same _ _ _ (by omega),hv]
        ·rw[get_set_other _ _ he]
         exact q2 j (by omega)
       ·rw[get_set_other _ _ (by omega)]
        exact q3 j (by omega))
      have hk40:(k:Int)<40:=by omega
      have HV:=HE.out k
      obtain⟨p,hp⟩: ∃p,p=P.getD k 0:=⟨_,rfl⟩
      obtain⟨b,hb⟩: ∃b,b=x.getD k 0:=⟨_,rfl⟩
      rw[<-hp] at cp HV
      rw[<-hb] at cb HV
      unfold mxV at HV
      have KA:=hid (fun W=>concealsat_any p W)
      have KB:=hid (fun W=>concealsat_any b W)
      have ra:=s16_range p
      have rb:=s16_range b
      generalize s16 p=sa at KA HV ra
      generalize s16 b=sb at KB HV rb
      have hq:=mx_mul ra.1 ra.2 g1 g2
      obtain⟨q,hqe⟩: ∃q,sa*g=q:=⟨_,rfl⟩
      rw[hqe] at hq HV
      have hw1:IntKind.i64.wrap (sa*g)=q:=by rw[hqe,IntKind.wrap_i64];omega
      have hw2:IntKind.i64.wrap (q+8192)=q+8192:=by rw[IntKind.wrap_i64];omega
      obtain⟨t,ht⟩: ∃t,t=(q+8192)/16384+sb:=⟨_,rfl⟩
      have hw3:IntKind.i64.wrap ((q+8192)/16384+sb)=t:=by rw[ht,IntKind.wrap_i64];omega
      rw[<-ht] at HV
      have KT:=hid (fun W=>concealsat_any t W)
      obtain⟨y,hy⟩: ∃y,y=s16 t:=⟨_,rfl⟩
      rw[<-hy] at KT HV
      have NX:=NEXT.out y HV.symm
      have NO2:=hid (NO.out y)
      have NB2:=hid (NB.out (.int .i64 y))
      clear hp hb ra rb hq hqe ht hy HV NEXT NO NB
      go_wp2_with (first
       |(go_at_call 41;(with_reducible refine(KA.out _).mono ?_);rintro e w' ⟨rfl,rfl⟩)
       |(go_at_call 41;(with_reducible refine(KB.out _).mono ?_);rintro e w' ⟨rfl,rfl⟩)
       |(go_at_call 41;(with_reducible refine(KT.out _).mono ?_);rintro e w' ⟨rfl,rfl⟩))
      go_roundw
      case rel=>exact⟨k+1,_,by omega,by go_num,NX,NO2,NB2⟩
      case measure=>simp[intOf]<;>omega
     ·obtain rfl:k=40:=by omega
      have HF:ys=(List.range 40).map (mxE h x lag g):=list_ext (by rw[HY.out.1];simp) (fun k hk=>by rw[HY.out.1] at hk;rw[HY.out.2.1 k hk,range_get _ hk])
      have HF:=hid HF
      go_wp2
      go_ret2
      rw[E1.out,<-HF.out]
      exact⟨_,_,by rw[HY.out.1];rfl,HO.out,HB.out⟩
   ·obtain⟨e1,e2⟩:=mx_bad (h:=h) (x:=x) (lag:=lag) (g:=g) (by unfold mxB;rw[hb];simp;omega)
    rw[e1,e2]
    rw[hb] at KP
    have HPL:=hid hlen
    generalize pastL h lag=P at*
    clear e1 e2 hb hlen
    rcases Int.lt_or_le g 0 with hg1|hg1
    ·go_enter Tryd.func64,Tryd.ntmps64
     go_wp2_with (refine wpList_loadI rfl 28 (.tmp 4) rfl _ 28 h 80 _ rfl A0.out Tryd.underlying28 rfl size80k HH.out ?_)
     refine(KP.out _).mono ?_
     rintro e w1 ⟨A1,c1,rfl,hO,hB⟩
     have FIN:=hid (NewSE.none_ (er:=2) (B0.out.trans (hB.mono B0.out.size)))
     clear hO hB
     go_wp2
     go_ret2
     exact FIN.out
    ·have hg2:32767<g:=by omega
     have hg3: ¬g<0:=by omega
     go_enter Tryd.func64,Tryd.ntmps64
     go_wp2_with (refine wpList_loadI rfl 28 (.tmp 4) rfl _ 28 h 80 _ rfl A0.out Tryd.underlying28 rfl size80k HH.out ?_)
     refine(KP.out _).mono ?_
     rintro e w1 ⟨A1,c1,rfl,hO,hB⟩
     have FIN:=hid (NewSE.none_ (er:=2) (B0.out.trans (hB.mono B0.out.size)))
     clear hO hB
     go_wp2
     go_ret2
     exact FIN.out
 ·obtain⟨e1,e2⟩:=mx_size (h:=h) (x:=x) (lag:=lag) (g:=g) h40
  rw[e1,e2]
  have d1:((n:Int)==40)=false:=by simp;omega
  have d2:((n:Int) !=40)=true:=by simp;omega
  have FIN:=hid (NewSE.none_ (er:=1) B0.out)
  clear h40 e1 e2
  go_enter Tryd.func64,Tryd.ntmps64
  go_wp2
  go_ret2
  exact FIN.out
end Go.Proofs.YthoiikkjjaldnaaDoor
