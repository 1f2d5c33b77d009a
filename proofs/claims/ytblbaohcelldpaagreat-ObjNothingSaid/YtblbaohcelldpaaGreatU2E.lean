/- The Go function ObjNothing returns true, whatever the message, from any memory and on every schedule; its argument reads as before. -/
import Derived.Test.YtblbaohcelldpaaGreatRows
import Derived.Test.YtblbaohcelldpaaGreatU15
import Derived.Test.YtblbaohcelldpaaGreatU13
set_option linter.all false
namespace Go.Proofs.YtblbaohcelldpaaGreat.objNothing
open Go Go.Abs Go.Tlv Go.ChangeShapes Go.WideShapes Go.ChangeAt Go.RowKit Go.Proofs.YtblbaohcelldpaaGreat.Ob
theorem own:ownKnob Tryz.prog.godebug=none:=by kernel_rfl
theorem walk{H:Type}{enc:TypeId×Value->H}{W:World}{cs1:List Value}(h1:CksOk enc Tryz.prog W 0 (fun _=>true) true msgK cs1):
  Calls Tryz.prog 6 #[.agg ⟨cs1⟩] W fun e w'=>e = .returned (.bool true)/\Below W.heap.size W w':=by
 obtain⟨x1,v1,l1,r1⟩:=msg_of h1
 exact deep_walk (law2H x1 l1 r1 (allOf W) _) (vr_cons v1 vr_nil)
set_option maxRecDepth 100000 in
theorem lifted(os:Os)(started:os.Started)(H:Type)(enc:TypeId×Value->H):
  ReturnsInHanded {} Tryz.checked os 6 .any (Rows.objNothingSpec.pre6 enc Tryz.prog Tryz.f6 Rows.objNothingRow.domain false) (Rows.objNothingSpec.post enc Tryz.prog Tryz.f6 false true false false):=by
 refine returnsInHanded_of_change_sized (C:=Tryz.checked) own started (by kernel_rfl) Tryz.func6
  (ChangeSpec.witness6 (enc:=enc) (C:=Tryz.checked) false ⟨#[],#[.agg #[.int .u8 0,.int .u32 0,.int .i64 0,.int .i64 0,.int .i64 0,.int .i64 0,.int .i64 0,.int .u64 0,.int .u64 0,.string ⟨#[]⟩,.slice none 0 0,.int .i64 0,.int .i64 0,.int .i64 0,.int .i64 0,.int .i64 0,.int .i64 0,.int .i64 0,.slice none 0 0,.int .i64 0,.int .i64 0,.int .u8 0,.int .i64 0,.int .i64 0,.int .i64 0,.int .i64 0,.int .u8 0,.slice none 0 0,.int .i64 0,.int .i64 0,.int .i64 0,.string ⟨#[]⟩,.string ⟨#[]⟩,.int .i64 0,.int .i64 0,.int .i64 0,.slice none 0 0,.int .i64 0,.int .i64 0,.int .u64 0,.bool false,.int .i64 0,.slice none 0 0,.int .i64 0,.int .u8 0,.int .i64 0,.slice none 0 0,.int .i64 0,.int .i64 0,.int .i64 0,.int .i64 0,.int .i64 0]],[]⟩ 8 (by kernel_rfl) (by kernel_rfl) (by kernel_rfl) (by kernel_rfl)) ?_
 intro W base args ds gs before hval0 hW hcnd hsz _
 have hval:∀(j:Nat) t v,Tryz.f6.params[j]?=some t->args[j]?=some v->Value.okWide Tryz.prog W .any base t v:=hval0
 have hW':=hW
 obtain⟨p,q,hA0,hV,rfl,hfz,hnd⟩:=hW
 have hA:DataW.TrodAll enc Tryz.prog W 0 (fun _=>true) true Tryz.f6.params.toList args.toList ds p:=hA0
 rw[Tryz.params6]at hA hval
 have hsz':(DataW.weightsEach Tryz.prog (Tryz.f6.params.toList++Rows.objNothingSpec.plain.varTypes Tryz.prog) (ds++gs)).all (·<=reachBytes)=true:=hsz
 rw[Tryz.params6]at hsz'
 obtain⟨v1,d1,rfl,rfl,h1⟩:=trodAll_one hA
 obtain⟨rfl,rfl⟩:=trodVars_none hV
 obtain⟨⟨cs1⟩,rfl,_⟩:=okWide_struct Tryz.underlying46 (hval 0 46 v1 rfl rfl)
 have hw:∀(j:Nat) t d,([46]:List TypeId)[j]?=some t->([d1]:List (DataW H))[j]?=some d->∀n∈d.weights Tryz.prog t,n<=reachBytes:=by
  intro j t d ht hd n hn
  have hj:j<1:=(List.getElem?_eq_some_iff.1 ht).1
  have:=List.all_eq_true.1 hsz' n (DataW.weights_mem_each (j:=j) (by rw[List.getElem?_append_left (by simpa using hj)];exact ht) (by rw[List.getElem?_append_left (by simpa using hj)];exact hd) n hn)
  simpa using this
 obtain⟨f1,hf1⟩:=h1
 have k1:=flat_ok 3 46 msgK msgK_eq f1 cs1 (d1,p) hf1 (hw 0 46 d1 rfl rfl)
 have h1:DataW.Trod enc Tryz.prog W 0 (fun _=>true) true 46 (.agg ⟨cs1⟩) d1 p:=⟨f1,hf1⟩
 clear hA0 hval0
 refine(walk k1).mono fun e W' ⟨he,hb⟩=>?_
 subst he
 have hlt:=fun y hy=>hW'.lt y hy
 have hk:∀may,W.keptBut W' may:=fun may=>hb.frame may
 refine⟨_,rfl,⟨[d1],[],_,[],_,[],hW',trodAll_cons_mk (shut_bool Tryz.underlying4 _) trodAll_mk0,
  trodAll_cons_mk (hb.trod (by kernel_rfl) (by kernel_rfl) (Nat.le_of_ble_eq_true (by kernel_rfl)) h1 fun y hy=>hlt y (by simp[hy])) (trodAll_mk0),rfl,hk _,fun h=>by cases h⟩⟩
theorem over:Rows.objNothingRow.holds Tryz.pinned (OpenSpec.ofChange Rows.objNothingSpec):=
 OpenClaim.holds_of_wide 6 Tryz.f6 rfl rfl rfl rfl rfl rfl rfl ⟨rfl,rfl,rfl,rfl,rfl⟩ rfl rfl rfl rfl rfl (by kernel_rfl) Tryz.func6 (by kernel_rfl)
  (of_decide_eq_true (by kernel_rfl)) (by unfold Func.isWrapper;first|(rw[if_pos (by decide +kernel)];kernel_rfl)|(rw[if_neg (by decide +kernel)];exact⟨rfl,rfl⟩))
  (fun os started H enc _=>lifted os started H enc)
theorem proved:Rows.ObjNothingSaid:=over
#print axioms proved
end Go.Proofs.YtblbaohcelldpaaGreat.objNothing
