/- errors.As at a target whose type is a struct of one integer: what it does, as a contract. -/
import Derived.Test.YtfhkbepjppcjmaaGreatDoorC4
import Derived.Test.YtfhkbepjppcjmaaGreatDoorN1
import Derived.WalkKit
import Derived.LaidEql
import Derived.Stop.Asserts
import Derived.RowKitTokens
namespace Go.Proofs.YtfhkbepjppcjmaaGreatDoor.asHit
open Go Go.Abs Go.RowKit Go.Extern.Stop Go.Stop Go.Extern
set_option linter.unusedVariables false
noncomputable section
def eT : Value := .iface 210 (.agg #[.pointer (some ⟨2, 87, none⟩)])
theorem valueOfP (t : Addr) (w : World) : (ReflectliteValue.unpack (.iface 96 (.pointer (some t)))).run Tryz.prog w
    = .ok (.agg #[.pointer (some ⟨2, 96, none⟩), .pointer (some ⟨w.heap.size, 0, none⟩), .int .u64 150]) (w.alloc (.cells #[.pointer (some t)] 96)) := by kernel_rfl
theorem typeP (a : Addr) (w : World) : (ReflectliteValue.methodAny (ReflectliteValue.valueError "reflectlite.Value.Type" 0) (fun t _ _ _ => ReflectliteType.toType t) #[.agg #[.pointer (some ⟨2, 96, none⟩), .pointer (some a), .int .u64 150]]).run Tryz.prog w
    = .ok (.iface 210 (.agg #[.pointer (some ⟨2, 96, none⟩)])) w := by kernel_rfl
theorem methodKind (h : Value) (w : World) : (Go.method 599 210 (.agg #[h]) "Kind").run Tryz.prog w = .ok (364, h) w := by kernel_rfl
theorem kindP (w : World) : ((ReflectliteType.abiMethod fun t => (fun a : Nat => Value.int IntKind.u8 (a : Int)) <$> Rtype.kind t) #[.pointer (some ⟨2, 96, none⟩)]).run Tryz.prog w = .ok (.int .u8 22) w := by kernel_rfl
theorem kindT (w : World) : ((ReflectliteType.abiMethod fun t => (fun a : Nat => Value.int IntKind.u8 (a : Int)) <$> Rtype.kind t) #[.pointer (some ⟨2, 94, none⟩)]).run Tryz.prog w = .ok (.int .u8 25) w := by kernel_rfl
theorem rlm (z : Sem Value) (f : TypeId → Addr → Nat → Nat → Sem Value) (v : Value) :
    ReflectliteValue.method z f #[v] = (do match ← ReflectliteValue.parts v with | none => z | some (t, a, fl) => f t a fl (fl % 32)) := rfl
theorem partsP (a : Addr) (w : World) : (ReflectliteValue.parts (.agg #[.pointer (some ⟨2, 96, none⟩), .pointer (some a), .int .u64 150])).run Tryz.prog w = .ok (some (96, a, 150)) w := by kernel_rfl
theorem isNilP (a p : Addr) (W : World) (ha : W.cell? a = some (.pointer (some p))) :
    (ReflectliteValue.method (ReflectliteValue.valueError "reflectlite.Value.IsNil" 0) ReflectliteValue.isNil #[.agg #[.pointer (some ⟨2, 96, none⟩), .pointer (some a), .int .u64 150]]).run Tryz.prog W = .ok (.bool false) W := by
  rw [rlm]
  simp only [Sem.run_bind, partsP, Result.andThen]
  simp [ReflectliteValue.isNil, loadVar, isAgg, Go.underlying, Tryz.underlying96, ha, Result.andThen]
theorem methodElem (h : Value) (w : World) : (Go.method 599 210 (.agg #[h]) "Elem").run Tryz.prog w = .ok (374, .agg #[h]) w := by kernel_rfl
theorem methodImplements (h : Value) (w : World) : (Go.method 599 210 (.agg #[h]) "Implements").run Tryz.prog w = .ok (375, .agg #[h]) w := by kernel_rfl
theorem methodAssignableTo (h : Value) (w : World) : (Go.method 599 210 (.agg #[h]) "AssignableTo").run Tryz.prog w = .ok (372, .agg #[h]) w := by kernel_rfl
theorem elemP (w : World) : (ReflectliteType.method ReflectliteType.elem #[.agg #[.pointer (some ⟨2, 96, none⟩)]]).run Tryz.prog w = .ok (.iface 210 (.agg #[.pointer (some ⟨2, 94, none⟩)])) w := by kernel_rfl
theorem implementsT (w : World) : (ReflectliteType.relation "Implements" ReflectliteType.implements_ #[.agg #[.pointer (some ⟨2, 94, none⟩)], .iface 210 (.agg #[.pointer (some ⟨2, 87, none⟩)])]).run Tryz.prog w = .ok (.bool true) w := by kernel_rfl
theorem typeOfT (v : Value) (w : World) : (ReflectliteType.typeOf #[.iface 94 v]).run Tryz.prog w = .ok (.iface 210 (.agg #[.pointer (some ⟨2, 94, none⟩)])) w := by kernel_rfl
theorem assignableT (w : World) : (ReflectliteType.relation "AssignableTo" ReflectliteType.assignableTo #[.agg #[.pointer (some ⟨2, 94, none⟩)], .iface 210 (.agg #[.pointer (some ⟨2, 94, none⟩)])]).run Tryz.prog w = .ok (.bool true) w := by kernel_rfl
theorem valueOfT (n : Int) (w : World) : (ReflectliteValue.unpack (.iface 94 (.agg #[.int .i64 n]))).run Tryz.prog w
    = .ok (.agg #[.pointer (some ⟨2, 94, none⟩), .pointer (some ⟨w.heap.size, 0, none⟩), .int .u64 153]) (w.alloc (.cells #[.int .i64 n] 94)) := by kernel_rfl
theorem elemOfP (w : World) : (Rtype.elem? 96).run Tryz.prog w = .ok (some 94) w := by kernel_rfl
theorem mkT (p : Addr) (w : World) : (ReflectliteValue.mk 94 p ReflectliteValue.flagAddr).run Tryz.prog w = .ok (.agg #[.pointer (some ⟨2, 94, none⟩), .pointer (some p), .int .u64 409]) w := by kernel_rfl
theorem elemVP (a p : Addr) (W : World) (ha : W.cell? a = some (.pointer (some p))) :
    (ReflectliteValue.method (ReflectliteValue.valueError "reflectlite.Value.Elem" 0) ReflectliteValue.elem #[.agg #[.pointer (some ⟨2, 96, none⟩), .pointer (some a), .int .u64 150]]).run Tryz.prog W
      = .ok (.agg #[.pointer (some ⟨2, 94, none⟩), .pointer (some p), .int .u64 409]) W := by
  rw [rlm]
  simp only [Sem.run_bind, partsP, Result.andThen]
  simp [ReflectliteValue.elem, loadVar, isAgg, Go.underlying, Tryz.underlying96, ha, Result.andThen, elemOfP, mkT]
theorem rls (v x : Value) : ReflectliteValue.set #[v, x] = (do
    let (some (dst, a, fl), some (src, b, _)) := (← ReflectliteValue.parts v, ← ReflectliteValue.parts x)
      | unsupported (.noEntry "extern/(internal/reflectlite.Value).Set.zeroValue")
    if fl / ReflectliteValue.flagAddr % 2 == 0 then unsupported (.noEntry "extern/(internal/reflectlite.Value).Set.unaddressable")
    let val ← loadVar src b
    if ← Rtype.directlyAssignable dst src then storeVar dst a val
    else if ← Rtype.implements dst src then
      if (← Rtype.kind src) == 20 then
        match val with
        | .nilIface => unsupported (.noEntry "extern/reflectlite: a nil value of one interface type handed on as a value of another")
        | _ => storeVar dst a val
      else storeVar dst a (.iface src val)
    else panicString ("reflectlite.Set: value of type " ++ (← Rtype.spelt src) ++ " is not assignable to type " ++ (← Rtype.spelt dst))
    pure (.tuple #[])) := rfl
theorem partsTa (a : Addr) (w : World) : (ReflectliteValue.parts (.agg #[.pointer (some ⟨2, 94, none⟩), .pointer (some a), .int .u64 409])).run Tryz.prog w = .ok (some (94, a, 409)) w := by kernel_rfl
theorem partsT (a : Addr) (w : World) : (ReflectliteValue.parts (.agg #[.pointer (some ⟨2, 94, none⟩), .pointer (some a), .int .u64 153])).run Tryz.prog w = .ok (some (94, a, 153)) w := by kernel_rfl
theorem directT (w : World) : (Rtype.directlyAssignable 94 94).run Tryz.prog w = .ok true w := by kernel_rfl
theorem sizeT (w : World) : (sizeOf 94).run Tryz.prog w = .ok 1 w := by kernel_rfl
theorem aggT (w : World) : (isAgg 94).run Tryz.prog w = .ok true w := by kernel_rfl
theorem setT (ta b : Addr) (n : Int) (old : Value) (W : World) (hb : W.cell? b = some (.int .i64 n)) (ht : W.cell? ta = some old) (hf : W.frozen? ta = false) :
    (ReflectliteValue.set #[.agg #[.pointer (some ⟨2, 94, none⟩), .pointer (some ta), .int .u64 409], .agg #[.pointer (some ⟨2, 94, none⟩), .pointer (some b), .int .u64 153]]).run Tryz.prog W
      = .ok (.tuple #[]) (W.setCell ta (.int .i64 n)) := by
  rw [rls]
  simp only [Sem.run_bind, partsTa, partsT, Result.andThen]
  simp [ReflectliteValue.flagAddr, loadVar, loadCells, loadCellsFrom, hb, Result.andThen, directT, storeVar, Value.cells, storeCells, Addr.add]
  rw [run_store Tryz.prog W ta _ _ (by rfl)]
  simp [ht, hf]

set_option maxHeartbeats 4000000 in
theorem as_hit (n : Int) (t : Addr) (old : Value) (w : World) (hg : w.cell? ⟨0, 0, none⟩ = some (.iface 210 (.agg #[.pointer (some ⟨2, 87, none⟩)]))) (ht0 : w.cell? t = some old) (hf0 : w.frozen? t = false) :
    Calls Tryz.prog 28 #[.iface 94 (.agg #[.int .i64 n]), .iface 96 (.pointer (some t))] w fun ev w' => ev = .returned (.bool true) ∧ w' = ((((w.alloc (.cells #[.pointer (some t)] 96)).alloc (.cells #[.pointer (some ⟨2, 96, none⟩), .pointer (some ⟨w.heap.size, 0, none⟩), .int .u64 150] 146)).alloc (.cells #[.pointer (some ⟨2, 96, none⟩), .pointer (some ⟨w.heap.size, 0, none⟩), .int .u64 150] 146)).alloc (.cells #[.int .i64 n] 94)).setCell t (.int .i64 n) := by
  have h6 := @run_callFunc_extern Tryz.prog 74 _ (fun args => ReflectliteValue.unpack (args.getD 0 (.tuple #[]))) Tryz.func74 (by kernel_rfl) (by kernel_rfl) (by kernel_rfl) (by kernel_rfl)
  have h7 := @run_callFunc_extern Tryz.prog 75 _ (ReflectliteValue.methodAny (ReflectliteValue.valueError "reflectlite.Value.Type" 0) (fun t _ _ _ => ReflectliteType.toType t)) Tryz.func75 (by kernel_rfl) (by kernel_rfl) (by kernel_rfl) (by kernel_rfl)
  have h8 := @run_callFunc_extern Tryz.prog 76 _ (ReflectliteValue.method (ReflectliteValue.valueError "reflectlite.Value.IsNil" 0) ReflectliteValue.isNil) Tryz.func76 (by kernel_rfl) (by kernel_rfl) (by kernel_rfl) (by kernel_rfl)
  have h27 := @run_callFunc_extern Tryz.prog 364 _ (ReflectliteType.abiMethod fun t => do pure (.int .u8 (← Rtype.kind t))) Tryz.func364 (by kernel_rfl) (by kernel_rfl) (by kernel_rfl) (by kernel_rfl)
  have h37 := @run_callFunc_extern Tryz.prog 374 _ (ReflectliteType.method ReflectliteType.elem) Tryz.func374 (by kernel_rfl) (by kernel_rfl) (by kernel_rfl) (by kernel_rfl)
  have h38 := @run_callFunc_extern Tryz.prog 375 _ (ReflectliteType.relation "Implements" ReflectliteType.implements_) Tryz.func375 (by kernel_rfl) (by kernel_rfl) (by kernel_rfl) (by kernel_rfl)
  have h10 := @run_callFunc_extern Tryz.prog 135 _ ReflectliteType.typeOf Tryz.func135 (by kernel_rfl) (by kernel_rfl) (by kernel_rfl) (by kernel_rfl)
  have h35 := @run_callFunc_extern Tryz.prog 372 _ (ReflectliteType.relation "AssignableTo" ReflectliteType.assignableTo) Tryz.func372 (by kernel_rfl) (by kernel_rfl) (by kernel_rfl) (by kernel_rfl)
  have h11 := @run_callFunc_extern Tryz.prog 136 _ (ReflectliteValue.method (ReflectliteValue.valueError "reflectlite.Value.Elem" 0) ReflectliteValue.elem) Tryz.func136 (by kernel_rfl) (by kernel_rfl) (by kernel_rfl) (by kernel_rfl)
  have h12 := @run_callFunc_extern Tryz.prog 137 _ ReflectliteValue.set Tryz.func137 (by kernel_rfl) (by kernel_rfl) (by kernel_rfl) (by kernel_rfl)
  have tO := typeOfT
  have mA := methodAssignableTo
  have a25 := assignableT
  have v25 := valueOfT
  have f6 := valueOfP
  have f7 := typeP
  have mK := methodKind
  have mE := methodElem
  have mI := methodImplements
  have k27 := kindP
  have k25 := kindT
  have e27 := elemP
  have i25 := implementsT
  have n8 := isNilP ⟨w.heap.size, 0, none⟩ t ((w.alloc (.cells #[.pointer (some t)] 96)).alloc (.cells #[.pointer (some ⟨2, 96, none⟩), .pointer (some ⟨w.heap.size, 0, none⟩), .int .u64 150] 146)) (by simp)
  have hlt : 0 < w.heap.size := by
    rcases Nat.lt_or_ge 0 w.heap.size with h | h
    · exact h
    · simp [World.cell?, Array.getElem?_eq_none h] at hg
  have hg2 : ((w.alloc (.cells #[.pointer (some t)] 96)).alloc (.cells #[.pointer (some ⟨2, 96, none⟩), .pointer (some ⟨w.heap.size, 0, none⟩), .int .u64 150] 146)).cell? ⟨0, 0, none⟩ = some (.iface 210 (.agg #[.pointer (some ⟨2, 87, none⟩)])) := by
    rw [World.cell?_alloc_lt _ _ ⟨0, 0, none⟩ (by first | (simp; done) | (simp; omega)), World.cell?_alloc_lt _ _ ⟨0, 0, none⟩ hlt]; exact hg
  have htl : t.block < w.heap.size := by
    rcases Nat.lt_or_ge t.block w.heap.size with h | h
    · exact h
    · simp [World.cell?, Array.getElem?_eq_none h] at ht0
  have el := elemVP ⟨w.heap.size, 0, none⟩ t (((w.alloc (.cells #[.pointer (some t)] 96)).alloc (.cells #[.pointer (some ⟨2, 96, none⟩), .pointer (some ⟨w.heap.size, 0, none⟩), .int .u64 150] 146)).alloc (.cells #[.pointer (some ⟨2, 96, none⟩), .pointer (some ⟨w.heap.size, 0, none⟩), .int .u64 150] 146)) (by rw [World.cell?_alloc_lt _ _ ⟨w.heap.size, 0, none⟩ (by simp; omega)]; simp)
  have st := setT t ⟨w.heap.size + 1 + 1 + 1, 0, none⟩ n old ((((w.alloc (.cells #[.pointer (some t)] 96)).alloc (.cells #[.pointer (some ⟨2, 96, none⟩), .pointer (some ⟨w.heap.size, 0, none⟩), .int .u64 150] 146)).alloc (.cells #[.pointer (some ⟨2, 96, none⟩), .pointer (some ⟨w.heap.size, 0, none⟩), .int .u64 150] 146)).alloc (.cells #[.int .i64 n] 94))
    (by rw [World.cell?_alloc_at _ _ _ _ (by simp)]; rfl)
    (by rw [World.cell?_alloc_lt _ _ t (by simp; omega), World.cell?_alloc_lt _ _ t (by simp; omega), World.cell?_alloc_lt _ _ t (by simp; omega), World.cell?_alloc_lt _ _ t htl]; exact ht0)
    (by rw [World.frozen?_alloc_old _ _ t (by simp; omega), World.frozen?_alloc_old _ _ t (by simp; omega), World.frozen?_alloc_old _ _ t (by simp; omega), World.frozen?_alloc_old _ _ t (Nat.ne_of_lt htl)]; exact hf0)
  go_enter Tryz.func28, Tryz.ntmps28
  go_wp2
  refine wp_loop_rounds 1 ?_
  rw [rounds_succ]
  go_wp2
  go_ret
  exact ⟨rfl, rfl⟩
theorem sub_get {H : Heap} {x : AObj} {m : Nat} {o : AObj} (h : (hOf 100 [] ([some x] ++ ([] : List AObj).map some)).get m = some o) : (H.put 100 (some x)).get m = some o := by
  rw [hOf_get] at h
  split at h
  · rename_i hr
    have e : m = 100 := by simp at hr; omega
    subst e
    rw [Heap.get_put, if_pos rfl]
    simpa using h
  · simp only [glTr, Tr.get_lf] at h; cases h
theorem as_valid (n : Int) : Valid Tryz.prog 100 ⟨28, [.iface 94 (.agg ⟨[.int .i64 n]⟩), .iface 96 (.pointer (some ⟨100, 0, none⟩))], [(0, .cells [eT] 0 1 true false)], [.cells [.int .i64 0] 94 1 false true],
    .returned (.bool true), [some (.cells [.int .i64 n] 94 1 false true)], []⟩ := by
  refine ⟨rfl, rfl, fun B => ?_⟩
  intro F w args' R ha
  have hg1 : (hOf 100 [(0, .cells [eT] 0 1 true false)] ([AObj.cells [.int .i64 0] 94 1 false true].map some)).get 0 = some (.cells [eT] 0 1 true false) := rfl
  have hg2 : (hOf 100 [(0, .cells [eT] 0 1 true false)] ([AObj.cells [.int .i64 0] 94 1 false true].map some)).get 100 = some (.cells [.int .i64 0] 94 1 false true) := rfl
  obtain ⟨b, d, o, c, fz, hF, ⟨ty, hw, _⟩, hl, _⟩ := R.obj _ _ hg1
  rw [R.glob 0 (by decide)] at hF
  simp only [Option.some.injEq, Prod.mk.injEq] at hF
  obtain ⟨e1, e2, e3⟩ := hF
  subst e1; subst e2; subst e3
  have hcell : w.cell? ⟨0, 0, none⟩ = some (.iface 210 (.agg #[.pointer (some ⟨2, 87, none⟩)])) := by
    have h1 : [eT][0]? = some eT := rfl
    obtain ⟨v', h2, h3⟩ := hl.get h1
    have h4 : v' = .iface 210 (.agg #[.pointer (some ⟨2, 87, none⟩)]) := by
      simp only [eT, VR, VRA, VRL] at h3
      obtain ⟨x, ⟨cs, ⟨y, r, ⟨a', ⟨d, o, hF, h5, h6⟩, e⟩, e2, e3⟩, e4⟩, e5⟩ := h3
      obtain ⟨ab, ao, asp⟩ := a'
      simp only at h5 h6 hF
      rw [R.glob 2 (by decide)] at hF
      simp only [Option.some.injEq, Prod.mk.injEq] at hF
      obtain ⟨g1, g2, g3⟩ := hF
      subst g1; subst g2; subst g3
      subst h5; subst h6; subst e; subst e2
      obtain ⟨l⟩ := cs
      simp only at e3; subst e3; subst e4; subst e5
      rfl
    unfold World.cell?
    rw [hw]
    simp only [Option.isSome_none, Bool.false_eq_true, if_false]
    rw [List.drop_zero, List.getElem?_take, if_pos (by simp)] at h2
    rw [← h4, ← h2]; simp
  simp only [VRL] at ha
  obtain ⟨x1, r1, h1, ⟨x2, r2, h2, e2, e3⟩, e4⟩ := ha
  subst e2
  simp only [VR, VRA, VRL] at h1 h2
  obtain ⟨y1, ⟨cs, ⟨z1, q1, hz, hq, hcs⟩, hy1⟩, hx1⟩ := h1
  subst hz; subst hq
  obtain ⟨l⟩ := cs
  simp only at hcs; subst hcs; subst hy1; subst hx1
  obtain ⟨y2, ⟨t, ht, hy2⟩, hx2⟩ := h2
  subst hy2; subst hx2; subst e3
  have eargs : args' = #[.iface 94 (.agg #[.int .i64 n]), .iface 96 (.pointer (some t))] := by
    apply Array.ext'; exact e4
  subst eargs
  obtain ⟨v0, hc0, hv0⟩ := R.cell ht rfl hg2 (v := .int .i64 0) rfl
  obtain ⟨hfz, _⟩ := R.setCell ht rfl hg2 (v := .int .i64 n) (v' := .int .i64 n) (by decide) (by simp only [VR])
  refine (as_hit n t v0 w hcell hc0 hfz).mono fun e' w' ⟨he, hw'⟩ => ?_
  subst he; subst hw'
  have R4 := (((Abs.Rel.grow R (.cells #[.pointer (some t)] 96)).grow (.cells #[.pointer (some ⟨2, 96, none⟩), .pointer (some ⟨w.heap.size, 0, none⟩), .int .u64 150] 146)).grow (.cells #[.pointer (some ⟨2, 96, none⟩), .pointer (some ⟨w.heap.size, 0, none⟩), .int .u64 150] 146)).grow (.cells #[.int .i64 n] 94)
  obtain ⟨_, R5⟩ := R4.setCell ht rfl hg2 (v := .int .i64 n) (v' := .int .i64 n) (by decide) (by simp only [VR])
  refine ⟨F, Nm.le_refl F, by simp only [EnR, VR]; exact ⟨_, rfl, rfl⟩, ?_⟩
  refine { obj := fun m o hm => R5.obj m o ?_, inj := fun m m' o o' hm hm' => R5.inj m m' o o' ?_ ?_, fresh := R5.fresh, glob := R5.glob, base := R5.base, frame := R5.frame, os := R5.os, out := R5.out, tape := R5.tape }
  all_goals
    first
    | exact sub_get hm
    | exact sub_get hm'
end
end Go.Proofs.YtfhkbepjppcjmaaGreatDoor.asHit
