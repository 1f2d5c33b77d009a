/- Are two structs of integers the same? -/
import Derived.Test.YtblbaohcelldpaaD9
namespace Go.Abs
open Go
set_option linter.unusedVariables false
section
variable {P : Program}
/-- The pairs of integers that are held against each other. -/
def eqPairsF (P : Program) (rec : TypeId → List Value → List Value → Option (List (Int × Int))) (xs ys : List Value) : List Field → Option (List (Int × Int))
  | [] => some []
  | f :: fs => match f.name == "_" with
    | true => none
    | false => match P.underlying f.type with
      | some (.int _) => match xs[f.offset]?, ys[f.offset]? with
        | some (.int k a), some (.int k' b) => match decide (k = k') with
          | true => match eqPairsF P rec xs ys fs with
            | some l => some ((a, b) :: l)
            | none => none
          | false => none
        | _, _ => none
      | some (.struct _) => match aSize P f.type with
        | some n => match rec f.type ((xs.drop f.offset).take n) ((ys.drop f.offset).take n), eqPairsF P rec xs ys fs with
          | some l, some l' => some (l ++ l')
          | _, _ => none
        | none => none
      | _ => none
def eqPairs (P : Program) : Nat → TypeId → List Value → List Value → Option (List (Int × Int))
  | 0, _, _, _ => none
  | d + 1, t, xs, ys => match P.underlying t with
    | some (.struct fs) => match P.stoodInHeld t with
      | true => none
      | false => eqPairsF P (eqPairs P d) xs ys fs.toList
    | _ => none
def allEq (l : List (Int × Int)) : Bool := l.all fun (a, b) => a == b
theorem pure_underlying {t : TypeId} {d : TypeDesc} (h : P.underlying t = some d) : pureSem P (underlying t) = some d := pureSem_underlying h
theorem pure_isAgg {t : TypeId} {d : TypeDesc} (h : P.underlying t = some d) : pureSem P (isAgg t) = some (isAggD d) := by
  unfold isAgg; rw [pureSem_bind, pure_underlying h, Option.bind_some]
  cases d <;> rfl
theorem pure_sizeOf {t : TypeId} {n : Nat} (h : aSize P t = some n) : pureSem P (sizeOf t) = some n := by
  unfold aSize at h
  cases e : P.info? t with
  | none => rw [e] at h; cases h
  | some i =>
    rw [e] at h; simp only [Option.map_some, Option.some.injEq] at h; subst h
    simp [sizeOf, typeInfo, program, pureSem_bind, pureSem, e]
    rfl
theorem pure_part_int {t : TypeId} {d : IntKind} (hu : P.underlying t = some (.int d)) {cs : List Value} {off : Nat} {v : Value} (h : cs[off]? = some v) : pureSem P (part t ⟨cs⟩ off) = some v := by
  unfold part
  rw [pureSem_bind, pure_isAgg hu, Option.bind_some]
  simp [isAggD, h]
  rfl
theorem pure_part_struct {t : TypeId} {fs : Array Field} (hu : P.underlying t = some (.struct fs)) {cs : List Value} {off n : Nat} (hn : aSize P t = some n) : pureSem P (part t ⟨cs⟩ off) = some (.agg ⟨(cs.drop off).take n⟩) := by
  unfold part
  rw [pureSem_bind, pure_isAgg hu, Option.bind_some]
  simp only [isAggD, if_true]
  rw [pureSem_bind, pure_sizeOf hn, Option.bind_some]
  simp
  rfl
theorem pure_equal_int {t : TypeId} {q k : IntKind} {a b : Int} (hu : P.underlying t = some (.int q)) (n : Nat) : pureSem P (Op.equalIn (n + 1) t (.int k a) (.int k b)) = some (a == b) := by
  simp only [Op.equalIn, pureSem_bind, pure_underlying hu, Option.bind_some, if_true]
  rfl
theorem pure_struct {t : TypeId} {fs : Array Field} (hu : P.underlying t = some (.struct fs)) (hp : P.stoodInHeld t = false) (d : Nat) (xs ys : Array Value) :
    pureSem P (Op.equalIn (d + 1) t (.agg xs) (.agg ys)) = pureSem P (Op.eqFields d xs ys fs.toList) := by
  have e0 : pureSem P (program) = some P := rfl
  simp only [Op.equalIn, pureSem_bind, pure_underlying hu, Option.bind_some, e0, hp, Bool.false_eq_true, if_false]
  rw [← Array.forIn_toList]
  have e1 : pureSem P (pure PUnit.unit : Sem PUnit) = some PUnit.unit := rfl
  generalize fs.toList = l
  clear hu
  induction l with
  | nil => rfl
  | cons f fs ih =>
    simp only [List.forIn_cons, Op.eqFields]
    by_cases hn : f.name = "_"
    · simp only [hn, ne_eq, not_true_eq_false, if_false, pureSem_bind]
      exact ih
    · simp only [hn, ne_eq, not_false_eq_true, if_true, pureSem_bind]
      cases h1 : pureSem P (part f.type xs f.offset) with
      | none => simp
      | some a =>
        simp only [Option.bind_some]
        cases h2 : pureSem P (part f.type ys f.offset) with
        | none => simp
        | some b =>
          simp only [Option.bind_some]
          cases h3 : pureSem P (Op.equalIn d f.type a b) with
          | none => simp
          | some r =>
            simp only [Option.bind_some]
            cases r
            · rfl
            · exact ih
theorem pairsF_ok {rec : TypeId → List Value → List Value → Option (List (Int × Int))} {d : Nat} (hrec : ∀ t l l' ps, rec t l l' = some ps → pureSem P (Op.equalIn (d + 1) t (.agg ⟨l⟩) (.agg ⟨l'⟩)) = some (allEq ps)) {xs ys : List Value} :
    ∀ (fs : List Field) (ps : List (Int × Int)), eqPairsF P rec xs ys fs = some ps → pureSem P (Op.eqFields (d + 1) ⟨xs⟩ ⟨ys⟩ fs) = some (allEq ps)
  | [], ps, h => by simp only [eqPairsF, Option.some.injEq] at h; subst h; rfl
  | f :: fs, ps, h => by
    have ih := fun ps h => pairsF_ok hrec (xs := xs) (ys := ys) fs ps h
    unfold eqPairsF at h
    split at h
    · cases h
    · rename_i hn
      have hn : f.name ≠ "_" := by simpa using hn
      split at h
      · rename_i q hu
        split at h
        · rename_i k a k' b h1 h2
          split at h
          · rename_i hk
            simp only [decide_eq_true_eq] at hk; subst hk
            split at h
            · rename_i l hl
              simp only [Option.some.injEq] at h; subst h
              simp only [Op.eqFields, hn, ne_eq, not_false_eq_true, if_true, pureSem_bind, pure_part_int hu h1, pure_part_int hu h2, Option.bind_some, pure_equal_int hu]
              cases hab : a == b
              · simp [allEq, hab]; rfl
              · simp only [Bool.not_true, Bool.false_eq_true, if_false, ih _ hl]
                simp [allEq, hab]
            · cases h
          · cases h
        · cases h
      · rename_i gs hu
        split at h
        · rename_i n hsz
          split at h
          · rename_i l l' hl hl'
            simp only [Option.some.injEq] at h; subst h
            simp only [Op.eqFields, hn, ne_eq, not_false_eq_true, if_true, pureSem_bind, pure_part_struct hu hsz, Option.bind_some, hrec _ _ _ _ hl]
            cases hab : allEq l
            · simp only [Bool.not_false, if_true]
              simp only [allEq] at hab ⊢
              rw [List.all_append, hab]; rfl
            · simp only [Bool.not_true, Bool.false_eq_true, if_false, ih _ hl']
              simp only [allEq] at hab ⊢
              rw [List.all_append, hab]; rfl
          · cases h
        · cases h
      · cases h
theorem pairs_ok : ∀ (d : Nat) (t : TypeId) (l l' : List Value) (ps : List (Int × Int)) (n : Nat), d ≤ n → eqPairs P d t l l' = some ps → pureSem P (Op.equalIn (n + 1) t (.agg ⟨l⟩) (.agg ⟨l'⟩)) = some (allEq ps)
  | 0, t, l, l', ps, n, hn, h => by cases h
  | d + 1, t, l, l', ps, n, hn, h => by
    unfold eqPairs at h
    split at h
    · rename_i fs hu
      split at h
      · cases h
      · rename_i hp
        rw [pure_struct hu hp]
        obtain ⟨m, rfl⟩ : ∃ m, n = m + 1 := ⟨n - 1, by omega⟩
        exact pairsF_ok (fun t l l' ps h => pairs_ok d t l l' ps m (by omega) h) _ _ h
    · cases h
theorem pure_eqGuard {op : BinOp} {t : TypeId} {x y : Operand} {xs ys : Array Value} (hm : P.eqGuardType P.depth t = false) : pureSem P (eqGuard op t x y (.agg xs) (.agg ys)) = some () := by
  have e0 : pureSem P (program) = some P := rfl
  cases op <;> simp [eqGuard, pureSem_bind, e0, hm] <;> rfl
theorem ag_eql {t : TypeId} {l l' : List Value} {ps : List (Int × Int)} (h : eqPairs P 5 t l l' = some ps) (hm : P.eqGuardType P.depth t = false) (hl : plainL l = true) (hl' : plainL l' = true) (H : Heap) (x y : Operand) :
    aBin P H .eql t x y (.agg ⟨l⟩) (.agg ⟨l'⟩) = some (.bool (allEq ps)) := by
  have e : pureSem P (do eqGuard .eql t x y (.agg ⟨l⟩) (.agg ⟨l'⟩); binOp .eql t (.agg ⟨l⟩) (.agg ⟨l'⟩)) = some (.bool (allEq ps)) := by
    rw [pureSem_bind, pure_eqGuard hm, Option.bind_some, show binOp .eql t (.agg ⟨l⟩) (.agg ⟨l'⟩) = (do pure (.bool ((← Op.equalIn (9999 + 1) t (.agg ⟨l⟩) (.agg ⟨l'⟩))))) from rfl, pureSem_bind, pairs_ok 5 t l l' ps 9999 (by omega) h]
    rfl
  simp only [aBin, plain, plainA, hl, hl', Bool.and_self, pureVal, e]
theorem ag_neq {t : TypeId} {l l' : List Value} {ps : List (Int × Int)} (h : eqPairs P 5 t l l' = some ps) (hm : P.eqGuardType P.depth t = false) (hl : plainL l = true) (hl' : plainL l' = true) (H : Heap) (x y : Operand) :
    aBin P H .neq t x y (.agg ⟨l⟩) (.agg ⟨l'⟩) = some (.bool (!allEq ps)) := by
  have e : pureSem P (do eqGuard .neq t x y (.agg ⟨l⟩) (.agg ⟨l'⟩); binOp .neq t (.agg ⟨l⟩) (.agg ⟨l'⟩)) = some (.bool (!allEq ps)) := by
    rw [pureSem_bind, pure_eqGuard hm, Option.bind_some, show binOp .neq t (.agg ⟨l⟩) (.agg ⟨l'⟩) = (do pure (.bool (!(← Op.equalIn (9999 + 1) t (.agg ⟨l⟩) (.agg ⟨l'⟩))))) from rfl, pureSem_bind, pairs_ok 5 t l l' ps 9999 (by omega) h]
    rfl
  simp only [aBin, plain, plainA, hl, hl', Bool.and_self, pureVal, e]
theorem n_agEql {t : TypeId} {l l' : List Value} {ps : List (Int × Int)} {X Y : Prop} (h : eqPairs P 5 t l l' = some ps) (hm : P.eqGuardType P.depth t = false) (hl : plainL l = true) (hl' : plainL l' = true)
    (h1 : allEq ps = true → X) (h2 : allEq ps = false → Y) : (real P).agEq .eql t l l' X Y := ⟨_, fun H x y => ag_eql h hm hl hl' H x y, h1, h2⟩
theorem n_agNeq {t : TypeId} {l l' : List Value} {ps : List (Int × Int)} {X Y : Prop} (h : eqPairs P 5 t l l' = some ps) (hm : P.eqGuardType P.depth t = false) (hl : plainL l = true) (hl' : plainL l' = true)
    (h1 : allEq ps = false → X) (h2 : allEq ps = true → Y) : (real P).agEq .neq t l l' X Y := ⟨_, fun H x y => ag_neq h hm hl hl' H x y, fun e => h1 (by simpa using e), fun e => h2 (by simpa using e)⟩
end
end Go.Abs
