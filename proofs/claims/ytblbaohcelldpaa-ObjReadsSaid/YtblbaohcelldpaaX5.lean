/- The Go function ObjReads returns true, whatever the bytes, from any memory and on every schedule; its argument reads as before. -/
import Derived.Test.YtblbaohcelldpaaRows
import Derived.Test.YtblbaohcelldpaaX2
import Derived.Test.YtblbaohcelldpaaWD
set_option linter.all false
namespace Go.Proofs.Ytblbaohcelldpaa.objReads
open Go Go.Abs Go.Tlv Go.ChangeShapes Go.WideShapes Go.ChangeAt Go.RowKit Go.Proofs.Ytblbaohcelldpaa.Ob
theorem own:ownKnob Try.prog.godebug=none:=by kernel_rfl
theorem walk{W:World}(s1:ByteArray):Calls Try.prog 4 #[.string s1] W fun e w'=>e = .returned (.bool true)/\Below W.heap.size W w':=deep_walk (lawOr s1 (allOf W (tabW_nil rfl W)) _) (vr_cons vr_str vr_nil)
set_option maxRecDepth 100000 in
theorem lifted(os:Os)(started:os.Started)(H:Type)(enc:TypeId×Value->H):
  ReturnsInHanded {} Try.checked os 4 .any (Rows.objReadsSpec.pre6 enc Try.prog Try.f4 Rows.objReadsRow.domain false) (Rows.objReadsSpec.post enc Try.prog Try.f4 false true false false):=by
 refine returnsInHanded_of_change_sized (C:=Try.checked) own started (by kernel_rfl) Try.func4
  (ChangeSpec.witness6 (enc:=enc) (C:=Try.checked) false ⟨#[],#[.string ⟨#[]⟩],[]⟩ 8 (by kernel_rfl) (by kernel_rfl) (by kernel_rfl) (by kernel_rfl)) ?_
 intro W base args ds gs before hval0 hW hcnd hsz _
 have hval:∀(j:Nat) t v,Try.f4.params[j]?=some t->args[j]?=some v->Value.okWide Try.prog W .any base t v:=hval0
 have hW':=hW
 obtain⟨p,q,hA0,hV,rfl,hfz,hnd⟩:=hW
 have hA:DataW.TrodAll enc Try.prog W 0 (fun _=>true) true Try.f4.params.toList args.toList ds p:=hA0
 rw[Try.params4]at hA hval
 obtain⟨v1,d1,rfl,rfl,h1⟩:=trodAll_one hA
 obtain⟨rfl,rfl⟩:=trodVars_none hV
 obtain⟨s1,rfl⟩:=okWide_string Try.underlying9 (hval 0 9 v1 rfl rfl)
 clear hA0 hval0
 refine(walk s1).mono fun e W' ⟨he,hb⟩=>?_
 subst he
 have hlt:=fun y hy=>hW'.lt y hy
 have hk:∀may,W.keptBut W' may:=fun may=>hb.frame may
 refine⟨_,rfl,⟨[d1],[],_,[],_,[],hW',trodAll_cons_mk (shut_bool Try.underlying4 _) trodAll_mk0,
  trodAll_cons_mk (hb.trod (by kernel_rfl) (by kernel_rfl) (Nat.le_of_ble_eq_true (by kernel_rfl)) h1 fun y hy=>hlt y (by simp[hy])) (trodAll_mk0),rfl,hk _,fun h=>by cases h⟩⟩
theorem over:Rows.objReadsRow.holds Try.pinned (OpenSpec.ofChange Rows.objReadsSpec):=
 OpenClaim.holds_of_wide 4 Try.f4 rfl rfl rfl rfl rfl rfl rfl ⟨rfl,rfl,rfl,rfl,rfl⟩ rfl rfl rfl rfl rfl (by kernel_rfl) Try.func4 (by kernel_rfl)
  (of_decide_eq_true (by kernel_rfl)) (by unfold Func.isWrapper;first|(rw[if_pos (by decide +kernel)];kernel_rfl)|(rw[if_neg (by decide +kernel)];exact⟨rfl,rfl⟩))
  (fun os started H enc _=>lifted os started H enc)
theorem proved:Rows.ObjReadsSaid:=over
#print axioms proved
end Go.Proofs.Ytblbaohcelldpaa.objReads
