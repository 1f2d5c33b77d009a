/- The Go function ProtoWrites returns true, whatever the messages and the number, from any memory in which the package variable turnout/proto.has holds what the program's own text lays there, and on every schedule; its arguments read as before. -/
import Derived.Test.YtblbaohcelldpaaGreatDoorRows
import Derived.Test.YtblbaohcelldpaaGreatDoorTie
import Derived.Test.YtblbaohcelldpaaGreatDoorCards
import Derived.Test.YtblbaohcelldpaaGreatDoorQV
import Derived.WalkKit
import Derived.ProofKit
import Derived.LaidMore
import Derived.OpenShut
import Derived.SevenTiedAt
set_option linter.all false
namespace Go.Proofs.YtblbaohcelldpaaGreatDoor.protoWrites
open Go Go.Abs Go.Tlv Go.ChangeShapes Go.WideShapes Go.ChangeAt Go.WideMaps Go.WideElems Go.RowKit Go.Proofs.Ob
theorem own:ownKnob Tryz.prog.godebug=none:=by kernel_rfl
theorem door_met(os : Os)(args : Array Value) : laidMetH Tryz.prog [("turnout/proto.has", Rows.laid_turnout_proto_has)] ((World.doorLaid Tryz.prog 14 os).forCall (fun _ _ => 0) ⟨#[], args, []⟩).memory :=
 laidMetH_of_parts3 (fuel:=8) (laidMet_of_run' 8 (by kernel_rfl) (by kernel_rfl)) (by kernel_rfl) (by kernel_rfl)
theorem tab_of {W : World} (h : laidMetH Tryz.prog [("turnout/proto.has", Rows.laid_turnout_proto_has)] W) : AD6 W := by
 rw[MakeChecks.laidMetH_plain _ _ _ (by kernel_rfl)]at h
 intro g vs hg
 have h2:=hg
 unfold TT at h2
 rw[if_pos (XK hg)]at h2
 unfold AQh ADo at h2
 by_cases e:(0:Nat)=g
 ·subst e
  rw[if_pos rfl]at h2
  simp only[Option.some.injEq]at h2;subst h2
  obtain ⟨t, fz, h3⟩ := AHr (name := "turnout/proto.has") (t := 119) (e := 27) (n := 47) (k := .u32) (aW.map fun n : Nat => (n : Int)) (by kernel_rfl) (by kernel_rfl) (by kernel_rfl) (by kernel_rfl) (by kernel_rfl) (by kernel_rfl) (by kernel_rfl) h
  exact⟨t,fz,by rw[h3,List.map_map];rfl⟩
 ·rw[if_neg e]at h2
  unfold ADo at h2;cases h2
theorem walk{H:Type}{enc:TypeId×Value->H}{W:World}(ht:AD6 W){cs1 cs2:List Value}(h1:GA enc Tryz.prog W 0 (fun _=>true) true AHN cs1)(h2:GA enc Tryz.prog W 0 (fun _=>true) true AHN cs2)(n3:Nat)(b3:n3<256):
  Calls Tryz.prog 8 #[.agg ⟨cs1⟩,.agg ⟨cs2⟩,.int .u8 (n3:Int)] W fun e w'=>e = .returned (.bool true)/\Below W.heap.size W w':=by
 obtain⟨x1,v1,l1,r1⟩:=AMF h1
 obtain⟨x2,v2,l2,r2⟩:=AMF h2
 exact AEq (AXS l1 l2 r1 r2 b3 (AGu W ht) _) (CP v1 (CP v2 (CP EO AI5)))
set_option maxRecDepth 100000 in
theorem lifted(os:Os)(started:os.Started)(H:Type)(enc:TypeId×Value->H):
  ReturnsInHanded {} Tryz.checked os 8 .any (fun w args => (Rows.protoWritesSpec.pre enc Tryz.prog Tryz.f8 [] false w args ∧ laidMetH Tryz.prog [("turnout/proto.has", Rows.laid_turnout_proto_has)] w) ∧ sizedMet enc Tryz.prog Tryz.f8 (OpenSpec.ofChange Rows.protoWritesSpec) false w args)
   (Rows.protoWritesSpec.post enc Tryz.prog Tryz.f8 false true false false):=by
 refine returnsInHanded_of_change_and (C := Tryz.checked) (X := fun w _ => laidMetH Tryz.prog [("turnout/proto.has", Rows.laid_turnout_proto_has)] w) (fun _ _ _ hh h => h.of_heap hh) own started (by kernel_rfl) Tryz.func8
  (ChangeSpec.witness_shaped (enc := enc) (C := Tryz.checked) (os := os) (X := fun w _ => laidMetH Tryz.prog [("turnout/proto.has", Rows.laid_turnout_proto_has)] w) false (World.doorLaid Tryz.prog 14 os) #[.agg #[.int .u8 0, .int .u32 0, .int .i64 0, .int .i64 0, .int .i64 0, .int .i64 0, .int .i64 0, .int .u64 0, .int .u64 0, .string ⟨#[]⟩, .slice none 0 0, .int .i64 0, .int .i64 0, .int .i64 0, .int .i64 0, .int .i64 0, .int .i64 0, .int .i64 0, .slice none 0 0, .int .i64 0, .int .i64 0, .int .u8 0, .int .i64 0, .int .i64 0, .int .i64 0, .int .i64 0, .int .u8 0, .slice none 0 0, .int .i64 0, .int .i64 0, .int .i64 0, .string ⟨#[]⟩, .string ⟨#[]⟩, .int .i64 0, .int .i64 0, .int .i64 0, .slice none 0 0, .int .i64 0, .int .i64 0, .int .u64 0, .bool false, .int .i64 0, .slice none 0 0, .int .i64 0, .int .u8 0, .int .i64 0, .slice none 0 0, .int .i64 0, .int .i64 0, .int .i64 0, .int .i64 0, .int .i64 0], .agg #[.int .u8 0, .int .u32 0, .int .i64 0, .int .i64 0, .int .i64 0, .int .i64 0, .int .i64 0, .int .u64 0, .int .u64 0, .string ⟨#[]⟩, .slice none 0 0, .int .i64 0, .int .i64 0, .int .i64 0, .int .i64 0, .int .i64 0, .int .i64 0, .int .i64 0, .slice none 0 0, .int .i64 0, .int .i64 0, .int .u8 0, .int .i64 0, .int .i64 0, .int .i64 0, .int .i64 0, .int .u8 0, .slice none 0 0, .int .i64 0, .int .i64 0, .int .i64 0, .string ⟨#[]⟩, .string ⟨#[]⟩, .int .i64 0, .int .i64 0, .int .i64 0, .slice none 0 0, .int .i64 0, .int .i64 0, .int .u64 0, .bool false, .int .i64 0, .slice none 0 0, .int .i64 0, .int .u8 0, .int .i64 0, .slice none 0 0, .int .i64 0, .int .i64 0, .int .i64 0, .int .i64 0, .int .i64 0], .int .u8 0] 8 rfl (World.shaped_of_RefB (by kernel_rfl) (by kernel_rfl)) (by kernel_rfl) (by kernel_rfl) (by kernel_rfl) (door_met os _)) ?_
 intro W base args ds gs before hval0 hW _ hsz hL _
 have hval:∀(j:Nat) t v,Tryz.f8.params[j]?=some t->args[j]?=some v->Value.okWide Tryz.prog W .any base t v:=hval0
 have hW':=hW
 obtain⟨p,q,hA0,hV,rfl,hfz,hnd⟩:=hW
 have hA:DataW.TrodAll enc Tryz.prog W 0 (fun _=>true) true Tryz.f8.params.toList args.toList ds p:=hA0
 rw[Tryz.params8]at hA hval
 have hsz':(DataW.weightsEach Tryz.prog (Tryz.f8.params.toList++Rows.protoWritesSpec.plain.varTypes Tryz.prog) (ds++gs)).all (·<=reachBytes)=true:=hsz
 rw[Tryz.params8]at hsz'
 obtain⟨v1,v2,v3,d1,d2,d3,p1,p2,p3,rfl,rfl,rfl,h1,h2,h3⟩:=trodAll_three hA
 obtain⟨rfl,rfl⟩:=trodVars_none hV
 obtain⟨⟨cs1⟩,rfl,_⟩:=okWide_struct Tryz.underlying51 (hval 0 51 v1 rfl rfl)
 obtain⟨⟨cs2⟩,rfl,_⟩:=okWide_struct Tryz.underlying51 (hval 1 51 v2 rfl rfl)
 obtain⟨z3,rfl⟩:=okWide_int Tryz.underlying5 (hval 2 5 v3 rfl rfl)
 have hw:∀(j:Nat) t d,([51,51,5]:List TypeId)[j]?=some t->([d1,d2,d3]:List (DataW H))[j]?=some d->∀n∈d.weights Tryz.prog t,n<=reachBytes:=by
  intro j t d ht hd n hn
  have hj:j<3:=(List.getElem?_eq_some_iff.1 ht).1
  have:=List.all_eq_true.1 hsz' n (DataW.weights_mem_each (j:=j) (by rw[List.getElem?_append_left (by simpa using hj)];exact ht) (by rw[List.getElem?_append_left (by simpa using hj)];exact hd) n hn)
  simpa using this
 obtain⟨f1,hf1⟩:=h1
 have k1:=iG 3 51 AHN AKo f1 cs1 (d1,p1) hf1 (hw 0 51 d1 rfl rfl)
 obtain⟨f2,hf2⟩:=h2
 have k2:=iG 3 51 AHN AKo f2 cs2 (d2,p2) hf2 (hw 1 51 d2 rfl rfl)
 obtain⟨f3,hf3⟩:=h3
 have k3:=iG 3 5 [.int .u8] (by kernel_rfl) f3 [.int .u8 z3] (d3,p3) hf3 (hw 2 5 d3 rfl rfl)
 have h1:DataW.Trod enc Tryz.prog W 0 (fun _=>true) true 51 (.agg ⟨cs1⟩) d1 p1:=⟨f1,hf1⟩
 have h2:DataW.Trod enc Tryz.prog W 0 (fun _=>true) true 51 (.agg ⟨cs2⟩) d2 p2:=⟨f2,hf2⟩
 have h3:DataW.Trod enc Tryz.prog W 0 (fun _=>true) true 5 (.int .u8 z3) d3 p3:=⟨f3,hf3⟩
 obtain⟨n3,hn3,b3⟩:=ATb k3
 simp only[List.cons.injEq,and_true,Value.int.injEq,true_and]at hn3
 subst hn3
 clear hA0 hval0
 refine(walk (tab_of hL) k1 k2 n3 b3).mono fun e W' ⟨he,hb⟩=>?_
 subst he
 have hlt:=fun y hy=>hW'.lt y hy
 have hk:∀may,W.keptBut W' may:=fun may=>hb.frame may
 refine⟨_,rfl,⟨[d1,d2,d3],[],_,[],_,[],hW',trodAll_cons_mk (shut_bool Tryz.underlying4 _) trodAll_mk0,
  trodAll_cons_mk (hb.trod (by kernel_rfl) (by kernel_rfl) (Nat.le_of_ble_eq_true (by kernel_rfl)) h1 fun y hy=>hlt y (by simp[hy])) (trodAll_cons_mk (hb.trod (by kernel_rfl) (by kernel_rfl) (Nat.le_of_ble_eq_true (by kernel_rfl)) h2 fun y hy=>hlt y (by simp[hy])) (trodAll_cons_mk (hb.trod (by kernel_rfl) (by kernel_rfl) (Nat.le_of_ble_eq_true (by kernel_rfl)) h3 fun y hy=>hlt y (by simp[hy])) (trodAll_mk0))),rfl,hk _,fun h=>by cases h⟩⟩
theorem over:Rows.protoWritesRow.holds Tryz.pinned (OpenSpec.ofChange Rows.protoWritesSpec):=
 OpenClaim.holds_of_wide 8 Tryz.f8 rfl rfl rfl rfl rfl rfl rfl ⟨rfl,rfl,rfl,rfl,rfl⟩ rfl rfl rfl rfl rfl (by kernel_rfl) Tryz.func8 (by kernel_rfl)
  (of_decide_eq_true (by kernel_rfl)) (by unfold Func.isWrapper;first|(rw[if_pos (by decide +kernel)];kernel_rfl)|(rw[if_neg (by decide +kernel)];exact⟨rfl,rfl⟩))
  (fun os started H enc _=>lifted os started H enc)
theorem proved:Rows.ProtoWritesCardSaid:=
 Claim7.holds_tied_plain_at .later [] [.data] true (true, "63031e9e2f8e1559d0a925d4ca1cc52d889f78a691705bf1a67832fc13277117") true
  over (fun _ h=>by cases h) (by kernel_rfl) (fun _ h=>by cases h) protoWrites_row_tie rfl ⟨rfl,rfl⟩ (by kernel_rfl) rfl
  (fun f fn hf hfn=>by
   obtain rfl : f = 8 := Option.some.inj ((show Tryz.prog.funcNamed "turnout/turnoutlaw09.ProtoWrites" = some 8 by kernel_rfl).symm.trans hf) |>.symm
   obtain rfl:fn=Tryz.f8:=(Option.some.inj (Tryz.func8.symm.trans hfn)).symm
   exact⟨by kernel_rfl,fun j t ht=>by
    rw[Tryz.params8]at ht
    rcases j with _|_|_|j
    ·simp at ht;subst ht;kernel_rfl
    ·simp at ht;subst ht;kernel_rfl
    ·simp at ht;subst ht;kernel_rfl
    ·simp at ht⟩)
  (by kernel_rfl)
#print axioms proved
end Go.Proofs.YtblbaohcelldpaaGreatDoor.protoWrites
