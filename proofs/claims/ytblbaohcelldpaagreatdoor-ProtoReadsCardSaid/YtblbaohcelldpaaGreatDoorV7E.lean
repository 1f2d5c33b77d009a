/- The Go function ProtoReads returns true, whatever the bytes, from any memory in which the package variable turnout/proto.has holds what the program's own text lays there, and on every schedule; its arguments read as before. -/
import Derived.Test.YtblbaohcelldpaaGreatDoorRows
import Derived.Test.YtblbaohcelldpaaGreatDoorTie
import Derived.Test.YtblbaohcelldpaaGreatDoorCards
import Derived.Test.YtblbaohcelldpaaGreatDoorR7
import Derived.WalkKit
import Derived.ProofKit
import Derived.LaidMore
import Derived.OpenShut
import Derived.SevenTiedAt
set_option linter.all false
namespace Go.Proofs.YtblbaohcelldpaaGreatDoor.protoReads
open Go Go.Abs Go.Tlv Go.ChangeShapes Go.WideShapes Go.ChangeAt Go.WideMaps Go.WideElems Go.RowKit Go.Proofs.Ob
theorem own:ownKnob Tryz.prog.godebug=none:=by kernel_rfl
theorem door_met(os : Os)(args : Array Value) : laidMetH Tryz.prog [("turnout/proto.has", Rows.laid_turnout_proto_has)] ((World.doorLaid Tryz.prog 14 os).forCall (fun _ _ => 0) ⟨#[], args, []⟩).memory :=
 laidMetH_of_parts3 (fuel:=8) (laidMet_of_run' 8 (by kernel_rfl) (by kernel_rfl)) (by kernel_rfl) (by kernel_rfl)
theorem tab_of {W : World} (h : laidMetH Tryz.prog [("turnout/proto.has", Rows.laid_turnout_proto_has)] W) : AAl W := by
 rw[MakeChecks.laidMetH_plain _ _ _ (by kernel_rfl)]at h
 intro g vs hg
 have h2:=hg
 unfold QL at h2
 rw[if_pos (UA hg)]at h2
 unfold AJ8 zB at h2
 by_cases e:(0:Nat)=g
 ·subst e
  rw[if_pos rfl]at h2
  simp only[Option.some.injEq]at h2;subst h2
  obtain ⟨t, fz, h3⟩ := ACF (name := "turnout/proto.has") (t := 119) (e := 27) (n := 47) (k := .u32) (VT.map fun n : Nat => (n : Int)) (by kernel_rfl) (by kernel_rfl) (by kernel_rfl) (by kernel_rfl) (by kernel_rfl) (by kernel_rfl) (by kernel_rfl) h
  exact⟨t,fz,by rw[h3,List.map_map];rfl⟩
 ·rw[if_neg e]at h2
  unfold zB at h2;cases h2
theorem walk{W:World}(ht:AAl W)  (s1:ByteArray):
  Calls Tryz.prog 4 #[.string s1] W fun e w'=>e = .returned (.bool true)/\Below W.heap.size W w':=by
 exact AAF (AJr s1 (ABY W ht) _) (AF5 AIc AIb)
set_option maxRecDepth 100000 in
theorem lifted(os:Os)(started:os.Started)(H:Type)(enc:TypeId×Value->H):
  ReturnsInHanded {} Tryz.checked os 4 .any (fun w args => (Rows.protoReadsSpec.pre enc Tryz.prog Tryz.f4 [] false w args ∧ laidMetH Tryz.prog [("turnout/proto.has", Rows.laid_turnout_proto_has)] w) ∧ sizedMet enc Tryz.prog Tryz.f4 (OpenSpec.ofChange Rows.protoReadsSpec) false w args)
   (Rows.protoReadsSpec.post enc Tryz.prog Tryz.f4 false true false false):=by
 refine returnsInHanded_of_change_and (C := Tryz.checked) (X := fun w _ => laidMetH Tryz.prog [("turnout/proto.has", Rows.laid_turnout_proto_has)] w) (fun _ _ _ hh h => h.of_heap hh) own started (by kernel_rfl) Tryz.func4
  (ChangeSpec.witness_shaped (enc := enc) (C := Tryz.checked) (os := os) (X := fun w _ => laidMetH Tryz.prog [("turnout/proto.has", Rows.laid_turnout_proto_has)] w) false (World.doorLaid Tryz.prog 14 os) #[.string ⟨#[]⟩] 8 rfl (World.shaped_of_RefB (by kernel_rfl) (by kernel_rfl)) (by kernel_rfl) (by kernel_rfl) (by kernel_rfl) (door_met os _)) ?_
 intro W base args ds gs before hval0 hW _ hsz hL _
 have hval:∀(j:Nat) t v,Tryz.f4.params[j]?=some t->args[j]?=some v->Value.okWide Tryz.prog W .any base t v:=hval0
 have hW':=hW
 obtain⟨p,q,hA0,hV,rfl,hfz,hnd⟩:=hW
 have hA:DataW.TrodAll enc Tryz.prog W 0 (fun _=>true) true Tryz.f4.params.toList args.toList ds p:=hA0
 rw[Tryz.params4]at hA hval
 have hsz':(DataW.weightsEach Tryz.prog (Tryz.f4.params.toList++Rows.protoReadsSpec.plain.varTypes Tryz.prog) (ds++gs)).all (·<=reachBytes)=true:=hsz
 rw[Tryz.params4]at hsz'
 obtain⟨v1,d1,rfl,rfl,h1⟩:=trodAll_one hA
 obtain⟨rfl,rfl⟩:=trodVars_none hV
 obtain⟨s1,rfl⟩:=okWide_string Tryz.underlying9 (hval 0 9 v1 rfl rfl)
 have hw:∀(j:Nat) t d,([9]:List TypeId)[j]?=some t->([d1]:List (DataW H))[j]?=some d->∀n∈d.weights Tryz.prog t,n<=reachBytes:=by
  intro j t d ht hd n hn
  have hj:j<1:=(List.getElem?_eq_some_iff.1 ht).1
  have:=List.all_eq_true.1 hsz' n (DataW.weights_mem_each (j:=j) (by rw[List.getElem?_append_left (by simpa using hj)];exact ht) (by rw[List.getElem?_append_left (by simpa using hj)];exact hd) n hn)
  simpa using this
 obtain⟨f1,hf1⟩:=h1
 have h1:DataW.Trod enc Tryz.prog W 0 (fun _=>true) true 9 (.string s1) d1 p:=⟨f1,hf1⟩
 clear hA0 hval0
 refine(walk (tab_of hL) s1).mono fun e W' ⟨he,hb⟩=>?_
 subst he
 have hlt:=fun y hy=>hW'.lt y hy
 have hk:∀may,W.keptBut W' may:=fun may=>hb.frame may
 refine⟨_,rfl,⟨[d1],[],_,[],_,[],hW',trodAll_cons_mk (shut_bool Tryz.underlying4 _) trodAll_mk0,
  trodAll_cons_mk (hb.trod (by kernel_rfl) (by kernel_rfl) (Nat.le_of_ble_eq_true (by kernel_rfl)) h1 fun y hy=>hlt y (by simp[hy])) (trodAll_mk0),rfl,hk _,fun h=>by cases h⟩⟩
theorem over:Rows.protoReadsRow.holds Tryz.pinned (OpenSpec.ofChange Rows.protoReadsSpec):=
 OpenClaim.holds_of_wide 4 Tryz.f4 rfl rfl rfl rfl rfl rfl rfl ⟨rfl,rfl,rfl,rfl,rfl⟩ rfl rfl rfl rfl rfl (by kernel_rfl) Tryz.func4 (by kernel_rfl)
  (of_decide_eq_true (by kernel_rfl)) (by unfold Func.isWrapper;first|(rw[if_pos (by decide +kernel)];kernel_rfl)|(rw[if_neg (by decide +kernel)];exact⟨rfl,rfl⟩))
  (fun os started H enc _=>lifted os started H enc)
theorem proved:Rows.ProtoReadsCardSaid:=
 Claim7.holds_tied_plain_at .later [] [.data] true (true, "63031e9e2f8e1559d0a925d4ca1cc52d889f78a691705bf1a67832fc13277117") true
  over (fun _ h=>by cases h) (by kernel_rfl) (fun _ h=>by cases h) protoReads_row_tie rfl ⟨rfl,rfl⟩ (by kernel_rfl) rfl
  (fun f fn hf hfn=>by
   obtain rfl : f = 4 := Option.some.inj ((show Tryz.prog.funcNamed "turnout/turnoutlaw09.ProtoReads" = some 4 by kernel_rfl).symm.trans hf) |>.symm
   obtain rfl:fn=Tryz.f4:=(Option.some.inj (Tryz.func4.symm.trans hfn)).symm
   exact⟨by kernel_rfl,fun j t ht=>by
    rw[Tryz.params4]at ht
    rcases j with _|j
    ·simp at ht;subst ht;kernel_rfl
    ·simp at ht⟩)
  (by kernel_rfl)
#print axioms proved
end Go.Proofs.YtblbaohcelldpaaGreatDoor.protoReads
