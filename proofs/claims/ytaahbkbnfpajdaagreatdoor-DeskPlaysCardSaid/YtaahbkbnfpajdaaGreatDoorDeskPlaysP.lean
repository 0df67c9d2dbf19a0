/- For every list of calls (at most 40), each answer of the desk is exactly what chapter 13 says, and the desk counts its sessions so too. Conditions: none but the card's own: the package-level tables that the code reads hold what the program's text lays in them (the card ties that). -/
import Derived.Test.YtaahbkbnfpajdaaGreatDoorZef0x
import Derived.Test.YtaahbkbnfpajdaaGreatDoorCards
import Derived.Test.YtaahbkbnfpajdaaGreatDoorTie
import Derived.Stop.Joined
namespace Go.Proofs.YtaahbkbnfpajdaaGreatDoor.deskPlays
open Go.ChangeShapes Go.WideShapes Go.ChangeAt Go.RowKit
theorem own:ownKnob Tryz.prog.godebug=none:=by kernel_rfl
theorem laid:laidOutB Tryz.prog=true:=by kernel_rfl
theorem cellsI:Tryz.prog.cellsOf 3=1:=by kernel_rfl
theorem door_met (os:Os) (args:Array Value):laidMetH Tryz.prog Rows.deskPlaysRow.laid ((World.doorLaid Tryz.prog 400 os).forCall (fun _ _=>0) ⟨#[],args,[]⟩).memory:=
 laidMetH_of_parts3 (fuel:=8) (laidMet_of_run' 8 (by kernel_rfl) (by kernel_rfl)) (by kernel_rfl) (by kernel_rfl)
theorem of_laid {W:World} (h:laidMetH Tryz.prog Rows.deskPlaysRow.laid W):TabA W 4 dY/\TabA W 1 cO/\TabA W 3 dh/\TabS W 5 dY/\TabS W 2 dh/\TabS W 0 cO:=by
 rw[MakeChecks.laidMetH_plain _ _ _ (by kernel_rfl)] at h
 obtain⟨ps,h0,_,_⟩:=h
 obtain⟨t0,q0,h1⟩:=arp (g:=4) (t:=200) (n:=15) (zs:=dY) (by kernel_rfl) (by kernel_rfl) Tryz.underlying200 cellsI (by kernel_rfl) h0
 obtain⟨t1,q1,h2⟩:=arp (g:=1) (t:=52) (n:=8) (zs:=cO) (by kernel_rfl) (by kernel_rfl) Tryz.underlying52 cellsI (by kernel_rfl) h1
 obtain⟨t2,q2,h3⟩:=arp (g:=3) (t:=52) (n:=8) (zs:=dh) (by kernel_rfl) (by kernel_rfl) Tryz.underlying52 cellsI (by kernel_rfl) h2
 obtain⟨t3,q3,h4⟩:=arq (g:=5) (t:=26) (zs:=dY) (by kernel_rfl) (by kernel_rfl) Tryz.underlying26 cellsI h3
 obtain⟨t4,q4,h5⟩:=arq (g:=2) (t:=26) (zs:=dh) (by kernel_rfl) (by kernel_rfl) Tryz.underlying26 cellsI h4
 obtain⟨t5,q5,h6⟩:=arq (g:=0) (t:=26) (zs:=cO) (by kernel_rfl) (by kernel_rfl) Tryz.underlying26 cellsI h5
 exact⟨t0,t1,t2,t3,t4,t5⟩
set_option maxRecDepth 100000 in
theorem lifted (os:Os) (started:os.Started) (H:Type) (enc:TypeId×Value->H):
 ReturnsInHanded {} Tryz.checked os 3 .any (fun w args=>(Rows.deskPlaysSpec.pre enc Tryz.prog Tryz.f3 [] false w args/\laidMetH Tryz.prog Rows.deskPlaysRow.laid w)/\sizedMet enc Tryz.prog Tryz.f3 (OpenSpec.ofChange Rows.deskPlaysSpec) false w args)
  (Rows.deskPlaysSpec.post enc Tryz.prog Tryz.f3 false true false false):=by
 refine returnsInHanded_of_change_and (C:=Tryz.checked) (X:=fun w _=>laidMetH Tryz.prog Rows.deskPlaysRow.laid w) (fun _ _ _ hh h=>h.of_heap hh) own started (by kernel_rfl) Tryz.func3
  (ChangeSpec.witness_shaped (enc:=enc) (C:=Tryz.checked) (os:=os) (X:=fun w _=>laidMetH Tryz.prog Rows.deskPlaysRow.laid w) false (World.doorLaid Tryz.prog 400 os) #[.slice none 0 0] 8 rfl (World.shaped_of_RefB (by kernel_rfl) (by kernel_rfl)) (by kernel_rfl) (by kernel_rfl) (by kernel_rfl) (door_met os _)) ?_
 intro W base args ds gs before hval0 hW hcnd hsz0 hL _
 have hval:∀(j:Nat) t v,Tryz.f3.params[j]?=some t->args[j]?=some v->Value.okWide Tryz.prog W .any base t v:=hval0
 have hsz:(DataW.weightsEach Tryz.prog (Tryz.f3.params.toList++Rows.deskPlaysSpec.plain.varTypes Tryz.prog) (ds++gs)).all (· <=reachBytes)=true:=hsz0
 have hW':=hW
 have hlt:∀p∈before,p.block<W.heap.size:=fun p hp=>hW.lt p hp
 obtain⟨p,q,hA0,hV,rfl,hfz,hnd⟩:=hW
 have hA:DataW.TrodAll enc Tryz.prog W 0 (fun _=>true) true Tryz.f3.params.toList args.toList ds p:=hA0
 rw[Tryz.params3] at hA hval hsz
 obtain⟨v0,vs0,d0,ds0,p0,q0,hargs,rfl,rfl,h0,r0⟩:=trodAll_cons hA
 obtain⟨rfl,rfl,rfl⟩:=trodAll_nil r0
 obtain rfl:args= #[v0]:=by cases args;simp_all
 obtain⟨rfl,rfl⟩:=trodVars_none hV
 obtain⟨A0,n0,c0,rfl,hl0,hc0,hr0⟩:=ars h0 (aro Tryz.underlying22 (hval 0 22 v0 rfl rfl)) (fun x hx=>by have:=List.all_eq_true.1 hsz x (DataW.weights_mem_each (j:=0) rfl rfl x hx);simpa using this)
 clear hval0
 obtain⟨T0,T1,T2,T3,T4,T5⟩:=of_laid hL
 refine(art W T0 T1 T2 T3 T4 T5 A0 n0 c0 hl0 hc0 hr0).mono fun e W' ⟨he,hg⟩=>?_
 subst he
 have hst:=ajo (ts:=[22]) laid hg (fun t ht=>by obtain rfl:=List.mem_singleton.1 ht;exact⟨by kernel_rfl,of_decide_eq_true (by kernel_rfl)⟩) hA (fun x hx=>hlt x (by simpa using hx))
 exact⟨_,rfl,_,_,_,[],_,[],hW',(trodAll_cons_mk (shut_bool Tryz.underlying4 _) trodAll_mk0),hst,rfl,hg.frame _,fun h=>by cases h⟩
theorem said:Rows.DeskPlaysSaid:=
 OpenClaim.holds_of_wide 3 Tryz.f3 rfl rfl rfl rfl rfl rfl rfl ⟨rfl,rfl,rfl,rfl,rfl⟩ rfl rfl rfl rfl rfl (by kernel_rfl) Tryz.func3 (by kernel_rfl)
  (of_decide_eq_true (by kernel_rfl)) (by unfold Func.isWrapper;first|(rw[if_pos (by decide+kernel)];kernel_rfl)|(rw[if_neg (by decide+kernel)];exact⟨rfl,rfl⟩))
  (fun os started H enc _=>lifted os started H enc)
theorem plain (f:FuncId) (fn:Func) (hf:Tryz.pinned.checked.prog.funcNamed "voxsat/voxsatlaw.DeskPlays" =some f) (hfn:Tryz.pinned.checked.prog.funcs[f]?=some fn):
 false=Tryz.pinned.checked.prog.looks []/\∀(j:Nat) t,fn.params[j]?=some t->Tryz.pinned.checked.prog.wantsStandIn t=false:=by
 obtain rfl:f=3:=Option.some.inj ((show Tryz.prog.funcNamed "voxsat/voxsatlaw.DeskPlays" =some 3 by kernel_rfl).symm.trans hf)|>.symm
 obtain rfl:fn=Tryz.f3:=(Option.some.inj (Tryz.func3.symm.trans hfn)).symm
 refine⟨by kernel_rfl,fun j t ht=>?_⟩
 rw[Tryz.params3] at ht
 have hm:t∈([22]:List Nat):=by simpa using Array.mem_of_getElem? ht
 have hall:(([22]:List Nat).all fun u=>!Tryz.prog.wantsStandIn u)=true:=by kernel_rfl
 exact(show Tryz.prog.wantsStandIn t=false by simpa using List.all_eq_true.1 hall t hm)
theorem proved:Rows.DeskPlaysCardSaid:=
 Claim7.holds_tied_plain_at .later [] _ _ _ _ said (fun _ h=>by cases h) (by kernel_rfl) (fun _ h=>by cases h) deskPlays_row_tie rfl ⟨rfl,rfl⟩ (by kernel_rfl) rfl plain (by kernel_rfl)
end Go.Proofs.YtaahbkbnfpajdaaGreatDoor.deskPlays
