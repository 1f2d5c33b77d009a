/- The Go function ObjUnlike returns true, whatever the messages, the type and the value, from any memory and on every schedule; its arguments read as before. -/
import Derived.Test.YtblbaohcelldpaaGreatRows
import Derived.Test.YtblbaohcelldpaaGreatU16
import Derived.Test.YtblbaohcelldpaaGreatU13
set_option linter.all false
namespace Go.Proofs.YtblbaohcelldpaaGreat.objUnlike
open Go Go.Abs Go.Tlv Go.ChangeShapes Go.WideShapes Go.ChangeAt Go.RowKit Go.Proofs.YtblbaohcelldpaaGreat.Ob
theorem own:ownKnob Tryz.prog.godebug=none:=by kernel_rfl
theorem walk{H:Type}{enc:TypeId×Value->H}{W:World}{cs1 cs2:List Value}(h1:CksOk enc Tryz.prog W 0 (fun _=>true) true msgK cs1)(h2:CksOk enc Tryz.prog W 0 (fun _=>true) true msgK cs2)(n3:Nat)(b3:n3<256)(s4:ByteArray):
  Calls Tryz.prog 7 #[.agg ⟨cs1⟩,.agg ⟨cs2⟩,.int .u8 (n3:Int),.string s4] W fun e w'=>e = .returned (.bool true)/\Below W.heap.size W w':=by
 obtain⟨x1,v1,l1,r1⟩:=msg_of h1
 obtain⟨x2,v2,l2,r2⟩:=msg_of h2
 exact deep_walk (law3H x1 x2 n3 s4 l1 r1 l2 r2 b3 (allOf W) _) (vr_cons v1 (vr_cons v2 (vr_cons vr_int (vr_cons vr_str vr_nil))))
set_option maxRecDepth 100000 in
theorem lifted(os:Os)(started:os.Started)(H:Type)(enc:TypeId×Value->H):
  ReturnsInHanded {} Tryz.checked os 7 .any (Rows.objUnlikeSpec.pre6 enc Tryz.prog Tryz.f7 Rows.objUnlikeRow.domain false) (Rows.objUnlikeSpec.post enc Tryz.prog Tryz.f7 false true false false):=by
 refine returnsInHanded_of_change_sized (C:=Tryz.checked) own started (by kernel_rfl) Tryz.func7
  (ChangeSpec.witness6 (enc:=enc) (C:=Tryz.checked) false ⟨#[],#[.agg #[.int .u8 0,.int .u32 0,.int .i64 0,.int .i64 0,.int .i64 0,.int .i64 0,.int .i64 0,.int .u64 0,.int .u64 0,.string ⟨#[]⟩,.slice none 0 0,.int .i64 0,.int .i64 0,.int .i64 0,.int .i64 0,.int .i64 0,.int .i64 0,.int .i64 0,.slice none 0 0,.int .i64 0,.int .i64 0,.int .u8 0,.int .i64 0,.int .i64 0,.int .i64 0,.int .i64 0,.int .u8 0,.slice none 0 0,.int .i64 0,.int .i64 0,.int .i64 0,.string ⟨#[]⟩,.string ⟨#[]⟩,.int .i64 0,.int .i64 0,.int .i64 0,.slice none 0 0,.int .i64 0,.int .i64 0,.int .u64 0,.bool false,.int .i64 0,.slice none 0 0,.int .i64 0,.int .u8 0,.int .i64 0,.slice none 0 0,.int .i64 0,.int .i64 0,.int .i64 0,.int .i64 0,.int .i64 0],.agg #[.int .u8 0,.int .u32 0,.int .i64 0,.int .i64 0,.int .i64 0,.int .i64 0,.int .i64 0,.int .u64 0,.int .u64 0,.string ⟨#[]⟩,.slice none 0 0,.int .i64 0,.int .i64 0,.int .i64 0,.int .i64 0,.int .i64 0,.int .i64 0,.int .i64 0,.slice none 0 0,.int .i64 0,.int .i64 0,.int .u8 0,.int .i64 0,.int .i64 0,.int .i64 0,.int .i64 0,.int .u8 0,.slice none 0 0,.int .i64 0,.int .i64 0,.int .i64 0,.string ⟨#[]⟩,.string ⟨#[]⟩,.int .i64 0,.int .i64 0,.int .i64 0,.slice none 0 0,.int .i64 0,.int .i64 0,.int .u64 0,.bool false,.int .i64 0,.slice none 0 0,.int .i64 0,.int .u8 0,.int .i64 0,.slice none 0 0,.int .i64 0,.int .i64 0,.int .i64 0,.int .i64 0,.int .i64 0],.int .u8 0,.string ⟨#[]⟩],[]⟩ 8 (by kernel_rfl) (by kernel_rfl) (by kernel_rfl) (by kernel_rfl)) ?_
 intro W base args ds gs before hval0 hW hcnd hsz _
 have hval:∀(j:Nat) t v,Tryz.f7.params[j]?=some t->args[j]?=some v->Value.okWide Tryz.prog W .any base t v:=hval0
 have hW':=hW
 obtain⟨p,q,hA0,hV,rfl,hfz,hnd⟩:=hW
 have hA:DataW.TrodAll enc Tryz.prog W 0 (fun _=>true) true Tryz.f7.params.toList args.toList ds p:=hA0
 rw[Tryz.params7]at hA hval
 have hsz':(DataW.weightsEach Tryz.prog (Tryz.f7.params.toList++Rows.objUnlikeSpec.plain.varTypes Tryz.prog) (ds++gs)).all (·<=reachBytes)=true:=hsz
 rw[Tryz.params7]at hsz'
 obtain⟨v1,v2,v3,v4,d1,d2,d3,d4,p1,p2,p3,p4,rfl,rfl,rfl,h1,h2,h3,h4⟩:=trodAll_four hA
 obtain⟨rfl,rfl⟩:=trodVars_none hV
 obtain⟨⟨cs1⟩,rfl,_⟩:=okWide_struct Tryz.underlying46 (hval 0 46 v1 rfl rfl)
 obtain⟨⟨cs2⟩,rfl,_⟩:=okWide_struct Tryz.underlying46 (hval 1 46 v2 rfl rfl)
 obtain⟨z3,rfl⟩:=okWide_int Tryz.underlying5 (hval 2 5 v3 rfl rfl)
 obtain⟨s4,rfl⟩:=okWide_string Tryz.underlying9 (hval 3 9 v4 rfl rfl)
 have hw:∀(j:Nat) t d,([46,46,5,9]:List TypeId)[j]?=some t->([d1,d2,d3,d4]:List (DataW H))[j]?=some d->∀n∈d.weights Tryz.prog t,n<=reachBytes:=by
  intro j t d ht hd n hn
  have hj:j<4:=(List.getElem?_eq_some_iff.1 ht).1
  have:=List.all_eq_true.1 hsz' n (DataW.weights_mem_each (j:=j) (by rw[List.getElem?_append_left (by simpa using hj)];exact ht) (by rw[List.getElem?_append_left (by simpa using hj)];exact hd) n hn)
  simpa using this
 obtain⟨f1,hf1⟩:=h1
 have k1:=flat_ok 3 46 msgK msgK_eq f1 cs1 (d1,p1) hf1 (hw 0 46 d1 rfl rfl)
 obtain⟨f2,hf2⟩:=h2
 have k2:=flat_ok 3 46 msgK msgK_eq f2 cs2 (d2,p2) hf2 (hw 1 46 d2 rfl rfl)
 obtain⟨f3,hf3⟩:=h3
 have k3:=flat_ok 3 5 [.int .u8] (by kernel_rfl) f3 [.int .u8 z3] (d3,p3) hf3 (hw 2 5 d3 rfl rfl)
 obtain⟨f4,hf4⟩:=h4
 have h1:DataW.Trod enc Tryz.prog W 0 (fun _=>true) true 46 (.agg ⟨cs1⟩) d1 p1:=⟨f1,hf1⟩
 have h2:DataW.Trod enc Tryz.prog W 0 (fun _=>true) true 46 (.agg ⟨cs2⟩) d2 p2:=⟨f2,hf2⟩
 have h3:DataW.Trod enc Tryz.prog W 0 (fun _=>true) true 5 (.int .u8 z3) d3 p3:=⟨f3,hf3⟩
 obtain⟨n3,hn3,b3⟩:=u8_of k3
 simp only[List.cons.injEq,and_true,Value.int.injEq,true_and]at hn3
 subst hn3
 have h4:DataW.Trod enc Tryz.prog W 0 (fun _=>true) true 9 (.string s4) d4 p4:=⟨f4,hf4⟩
 clear hA0 hval0
 refine(walk k1 k2 n3 b3 s4).mono fun e W' ⟨he,hb⟩=>?_
 subst he
 have hlt:=fun y hy=>hW'.lt y hy
 have hk:∀may,W.keptBut W' may:=fun may=>hb.frame may
 refine⟨_,rfl,⟨[d1,d2,d3,d4],[],_,[],_,[],hW',trodAll_cons_mk (shut_bool Tryz.underlying4 _) trodAll_mk0,
  trodAll_cons_mk (hb.trod (by kernel_rfl) (by kernel_rfl) (Nat.le_of_ble_eq_true (by kernel_rfl)) h1 fun y hy=>hlt y (by simp[hy])) (trodAll_cons_mk (hb.trod (by kernel_rfl) (by kernel_rfl) (Nat.le_of_ble_eq_true (by kernel_rfl)) h2 fun y hy=>hlt y (by simp[hy])) (trodAll_cons_mk (hb.trod (by kernel_rfl) (by kernel_rfl) (Nat.le_of_ble_eq_true (by kernel_rfl)) h3 fun y hy=>hlt y (by simp[hy])) (trodAll_cons_mk (hb.trod (by kernel_rfl) (by kernel_rfl) (Nat.le_of_ble_eq_true (by kernel_rfl)) h4 fun y hy=>hlt y (by simp[hy])) (trodAll_mk0)))),rfl,hk _,fun h=>by cases h⟩⟩
theorem over:Rows.objUnlikeRow.holds Tryz.pinned (OpenSpec.ofChange Rows.objUnlikeSpec):=
 OpenClaim.holds_of_wide 7 Tryz.f7 rfl rfl rfl rfl rfl rfl rfl ⟨rfl,rfl,rfl,rfl,rfl⟩ rfl rfl rfl rfl rfl (by kernel_rfl) Tryz.func7 (by kernel_rfl)
  (of_decide_eq_true (by kernel_rfl)) (by unfold Func.isWrapper;first|(rw[if_pos (by decide +kernel)];kernel_rfl)|(rw[if_neg (by decide +kernel)];exact⟨rfl,rfl⟩))
  (fun os started H enc _=>lifted os started H enc)
theorem proved:Rows.ObjUnlikeSaid:=over
#print axioms proved
end Go.Proofs.YtblbaohcelldpaaGreat.objUnlike
