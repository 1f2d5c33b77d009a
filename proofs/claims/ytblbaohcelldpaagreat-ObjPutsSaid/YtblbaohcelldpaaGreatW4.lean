/- Which operations do not look at memory, and which look at one block of it alone. -/
import Derived.Test.YtblbaohcelldpaaGreatW2
namespace Go.Abs
open Go
noncomputable section
set_option linter.unusedVariables false
section
variable {P : Program}
def isPtr : Value → Bool
  | .pointer (some _) => true
  | _ => false
def quietOf (op : Op) (ρ : Operand → Value) : Option (Option Nat) := match op with
  | .move _ | .assign _ | .pick .. | .build .. | .nilCheck _ | .unOp .. | .makeInterface .. | .makeFunc .. | .fieldAddr .. | .field .. | .indexAddr .. | .index .. | .typeAssert .. | .extract .. => some none
  | .binOp _ _ x y _ => match isPtr (ρ x) && isPtr (ρ y) with
    | true => none
    | false => some none
  | .load _ a => match ρ a with
    | .pointer (some ad) => some (some ad.block)
    | _ => some none
  | .convert _ _ x => match ρ x with
    | .int _ _ => some none
    | _ => none
  | .slice _ x _ _ _ => match ρ x with
    | .string _ => some none
    | .iface _ _ => some none
    | _ => none
  | .call { callee := .builtin .len, args, .. } => match args.toList.map ρ with
    | [.string _] => some none
    | [.slice _ _ _] => some none
    | [.iface _ _] => some none
    | _ => none
  | .call { callee := .builtin .min, .. } => some none
  | .call { callee := .builtin .max, .. } => some none
  | _ => none
theorem quietOf_kind {op : Op} {ρ : Operand → Value} {q : Option Nat} (h : quietOf op ρ = some q) : quietKind op = true := by
  unfold quietOf at h
  split at h <;> first | rfl | (cases h; done)
def Flat (f : Heap → Option (Value × Heap)) : Prop := ∃ v : Option Value, ∀ H, f H = v.map (·, H)
theorem Flat.none : Flat fun _ => none := ⟨.none, fun _ => rfl⟩
theorem Flat.mk (v : Option Value) : Flat fun H => v.map (·, H) := ⟨v, fun _ => rfl⟩
theorem Flat.some (v : Value) : Flat fun H => some (v, H) := ⟨.some v, fun _ => rfl⟩
theorem Flat.orElse {f g : Heap → Option (Value × Heap)} (hf : Flat f) (hg : Flat g) : Flat fun H => match f H with
    | .some r => .some r
    | .none => g H := by
  obtain ⟨v, hv⟩ := hf
  obtain ⟨u, hu⟩ := hg
  cases v with
  | none => exact ⟨u, fun H => by simp only [hv, Option.map_none]; exact hu H⟩
  | some v => exact ⟨.some v, fun H => by simp only [hv, Option.map_some]⟩
theorem aBin_flat {op : BinOp} {t : TypeId} {x y : Operand} {a b : Value} (h : (isPtr a && isPtr b) = false) (H H' : Heap) : aBin P H op t x y a b = aBin P H' op t x y a b := by
  unfold aBin
  split
  · rfl
  · rfl
  · simp [isPtr] at h
  · rfl
theorem aLenM_flat {H H' : Heap} {t : TypeId} {x : Value} (h : ∀ r, x ≠ .map (some r)) : aLenM P H t x = aLenM P H' t x := by
  unfold aLenM
  split
  · rename_i r _; exact absurd rfl (h _)
  · rfl
def noHeap : Heap := ⟨.lf, 0⟩
theorem aConvert_int {src dst : TypeId} {k : IntKind} {n : Int} : Flat fun H => aConvert P H src dst (.int k n) := by
  refine ⟨(aConvert P noHeap src dst (.int k n)).map (·.1), fun H => ?_⟩
  unfold aConvert
  generalize pureVal P (convert src dst (.int k n)) = r
  generalize P.underlying src = a
  generalize P.underlying dst = b
  cases a with
  | none => cases r <;> rfl
  | some a =>
    cases b with
    | none => cases a <;> cases r <;> rfl
    | some b => cases a <;> cases b <;> cases r <;> rfl
theorem aSlice_str {t : TypeId} {s : ByteArray} {lo hi mx : Option Value} : Flat fun H => aSlice P H t (.string s) lo hi mx := by
  by_cases hu : P.underlying t = some .string ∧ mx = none
  · obtain ⟨hu, hm⟩ := hu
    subst hm
    have key : ∀ H, aSlice P H t (.string s) lo hi none = (match bnds s.size s.size lo hi none with
        | some (l, h, _) => some (.string (bytesOf ((s.data.toList.drop l).take (h - l))), H)
        | none => none) := by
      intro H; unfold aSlice; simp only [hu]
      cases bnds s.size s.size lo hi none <;> rfl
    simp only [key]
    cases bnds s.size s.size lo hi none with
    | none => exact .none
    | some r => exact .some _
  · refine ⟨none, fun H => ?_⟩
    show aSlice P H t (.string s) lo hi mx = none
    unfold aSlice
    cases ha : P.underlying t with
    | none => rfl
    | some a =>
      cases a <;> first | rfl | skip
      cases mx with
      | none => exact absurd ⟨ha, rfl⟩ hu
      | some m => rfl
theorem free_ok {o : Oper} {ρ : Operand → Value} (h : quietOf o.op ρ = some none) : Flat (aOp P o ρ) := by
  obtain ⟨dst, op, type, pos, after, guard⟩ := o
  simp only at h
  have main : Flat (fun H => aOpK op P type ρ H) ∧ Flat (fun H => aDeep op P ρ H) → Flat (aOp P ⟨dst, op, type, pos, after, guard⟩ ρ) := fun ⟨h1, h2⟩ => h1.orElse h2
  refine main ?_
  cases op <;> (try (cases h; done))
  case move x => exact ⟨.some _, .none⟩
  case assign x => exact ⟨.some _, .none⟩
  case pick c a b =>
    refine ⟨?_, .none⟩
    show Flat fun H => match ρ c with | .bool true => some (ρ a, H) | .bool false => some (ρ b, H) | _ => none
    split <;> first | exact .some _ | exact .none
  case build t parts => exact ⟨.mk _, .none⟩
  case nilCheck x =>
    refine ⟨?_, .none⟩
    show Flat fun H => match ρ x with | .pointer (some a) => some (.pointer (some a), H) | .iface t v => (match isMk t with | true => none | false => some (.iface t v, H)) | .func (.func f) first captured => some (.func (.func f) first captured, H) | _ => none
    split <;> (try split) <;> first | exact .some _ | exact .none
  case unOp op t x =>
    refine ⟨?_, .none⟩
    show Flat fun H => match plain (ρ x) with | true => (pureVal P (Op.unary op (ρ x))).map (·, H) | false => none
    split <;> first | exact .mk _ | exact .none
  case makeInterface t x =>
    refine ⟨?_, .none⟩
    show Flat fun H => match P.underlying t with | some (.interface _) => none | some _ => (match isMk t with | true => none | false => some (.iface t (ρ x), H)) | none => none
    split <;> (try split) <;> first | exact .some _ | exact .none
  case makeFunc fn first captured => exact ⟨.some _, .none⟩
  case fieldAddr s x f =>
    refine ⟨.mk _, ?_⟩
    show Flat fun H => match ρ x with | .iface m (.agg ⟨cs⟩) => (match Nat.beq m mkP with | true => (dField P s cs f).map (·, H) | false => none) | _ => none
    split <;> (try split) <;> first | exact .mk _ | exact .none
  case field t x f => exact ⟨.mk _, .none⟩
  case indexAddr t x ix =>
    constructor
    · show Flat fun H => match plain (ρ ix) with | true => (aIndexAddr P t (ρ x) (ρ ix)).map (·, H) | false => none
      split <;> first | exact .mk _ | exact .none
    · show Flat fun H => match ρ x, ρ ix with | .iface m (.agg ⟨rows⟩), .int _ i => (match Nat.beq m mkD with | true => (dIndex P t rows i).map (·, H) | false => none) | .iface m (.slice (some a) n c), .int k i => (match Nat.beq m mkM with | true => (aIndexAddr P t (.slice (some a) n c) (.int k i)).map (·, H) | false => none) | _, _ => none
      split <;> (try split) <;> first | exact .mk _ | exact .none
  case index t x ix =>
    refine ⟨?_, .none⟩
    show Flat fun H => match plain (ρ ix) with | true => (aIndex P t (ρ x) (ρ ix)).map (·, H) | false => none
    split <;> first | exact .mk _ | exact .none
  case typeAssert x xt asserted ok => exact ⟨.mk _, .none⟩
  case extract t ix =>
    refine ⟨?_, .none⟩
    show Flat fun H => match ρ t with | .tuple vs => vs[ix]?.map (·, H) | _ => none
    split <;> first | exact .mk _ | exact .none
  case binOp op t x y yt =>
    refine ⟨?_, .none⟩
    have hp : (isPtr (ρ x) && isPtr (ρ y)) = false := by
      replace h : (match isPtr (ρ x) && isPtr (ρ y) with | true => none | false => some none) = some none := h
      split at h
      · cases h
      · assumption
    exact ⟨aBin P noHeap op t x y (ρ x) (ρ y), fun H => by
      show (aBin P H op t x y (ρ x) (ρ y)).map (·, H) = _
      rw [aBin_flat hp H noHeap]⟩
  case load t a =>
    replace h : (match ρ a with | .pointer (some ad) => some (some ad.block) | _ => some none) = some none := h
    constructor
    · show Flat fun H => match ρ a with | .pointer (some ad) => (aLoad P H t ad).map (·, H) | _ => none
      split
      · rename_i e; rw [e] at h; cases h
      · exact .none
    · show Flat fun H => match ρ a with | .iface m (.agg ⟨cs⟩) => (match Nat.beq m mkP with | true => (dLoad P t cs).map (·, H) | false => none) | _ => none
      split <;> (try split) <;> first | exact .mk _ | exact .none
  case convert src d x =>
    replace h : (match ρ x with | .int _ _ => some none | _ => none) = some none := h
    split at h
    · rename_i k n e
      constructor
      · show Flat fun H => aConvert P H src d (ρ x)
        rw [e]; exact aConvert_int
      · show Flat fun H => (dConv P H src d (ρ x)).map (·, H)
        rw [e]
        refine ⟨none, fun H => ?_⟩
        have : dConv P H src d (.int k n) = none := by
          unfold dConv
          split
          · split
            · rename_i e2; simp [aCellsOf] at e2
            · rfl
          · rfl
        simp only [this]
    · cases h
  case slice t x lo hi mx =>
    replace h : (match ρ x with | .string _ => some none | .iface _ _ => some none | _ => none) = some none := h
    have hd : Flat fun H => aDeep (.slice t x lo hi mx) P ρ H := by
      show Flat fun H => match pOpd ρ lo, pOpd ρ hi, pOpd ρ mx, ρ x with | some lo, some hi, some mx, .iface m (.agg ⟨rows⟩) => (match Nat.beq m mkD with | true => (dSlice P t rows lo hi mx).map (·, H) | false => none) | _, _, _, _ => none
      split <;> (try split) <;> first | exact .mk _ | exact .none
    refine ⟨?_, hd⟩
    show Flat fun H => match pOpd ρ lo, pOpd ρ hi, pOpd ρ mx with | some lo, some hi, some mx => aSlice P H t (ρ x) lo hi mx | _, _, _ => none
    split
    · split at h
      · rename_i e; rw [e]; exact aSlice_str
      · rename_i e; rw [e]; exact ⟨none, fun H => aSlice_iface⟩
      · cases h
    · exact .none
  case call c =>
    obtain ⟨callee, args, argTypes⟩ := c
    cases callee
    case builtin b =>
      cases b <;> (try (cases h; done))
      case len =>
        replace h : (match args.toList.map ρ with | [.string _] => some none | [.slice _ _ _] => some none | [.iface _ _] => some none | _ => none) = some none := h
        constructor
        · show Flat fun H => match argTypes[0]?, args.toList.map ρ with | some t, x :: _ => (match aLen P t x with | some v => some (v, H) | none => (aLenM P H t x).map (·, H)) | _, _ => none
          have hm : ∀ (t : TypeId) (x : Value), (∀ r, x ≠ .map (some r)) → Flat fun H => (match aLen P t x with | some v => some (v, H) | none => (aLenM P H t x).map (·, H)) := by
            intro t x hx
            split
            · exact .some _
            · exact ⟨aLenM P noHeap t x, fun H => by rw [aLenM_flat hx]⟩
          split at h
          · rename_i e; rw [e]; split
            · rename_i e2; simp only [List.cons.injEq] at e2; rw [← e2.1]; exact hm _ _ (fun r e => by cases e)
            · exact .none
          · rename_i e; rw [e]; split
            · rename_i e2; simp only [List.cons.injEq] at e2; rw [← e2.1]; exact hm _ _ (fun r e => by cases e)
            · exact .none
          · rename_i e; rw [e]; split
            · rename_i e2; simp only [List.cons.injEq] at e2; rw [← e2.1]; exact hm _ _ (fun r e => by cases e)
            · exact .none
          · cases h
        · show Flat fun H => match argTypes[0]?, args.toList.map ρ with | some t, x :: _ => (match P.underlying t with | some (.slice _) => (dLen x).map (Value.int .i64 ·, H) | _ => none) | _, _ => none
          split
          · rename_i x _ _ _
            split
            · exact ⟨(dLen x).map (Value.int .i64 ·), fun H => by cases dLen x <;> rfl⟩
            · exact .none
          · exact .none
      case min =>
        refine ⟨?_, .none⟩
        show Flat fun H => match plainL (args.toList.map ρ) with | true => (pureVal P (Builtin.min_ argTypes type (args.toList.map ρ).toArray)).map (·, H) | false => none
        split <;> first | exact .mk _ | exact .none
      case max =>
        refine ⟨?_, .none⟩
        show Flat fun H => match plainL (args.toList.map ρ) with | true => (pureVal P (Builtin.max_ argTypes type (args.toList.map ρ).toArray)).map (·, H) | false => none
        split <;> first | exact .mk _ | exact .none
    case value f => cases h
    case invoke f m => cases h
theorem aLoad_get {H H' : Heap} {t : TypeId} {a : Addr} (h : H'.get a.block = H.get a.block) : aLoad P H' t a = aLoad P H t a := by
  have h1 : ∀ n, aCells H' a n = aCells H a n := fun n => by unfold aCells; rw [h]
  have h2 : aCell1 H' a = aCell1 H a := by unfold aCell1; rw [h]
  unfold aLoad
  simp only [h1, h2]
theorem load_ok {o : Oper} {ρ : Operand → Value} {b : Nat} (h : quietOf o.op ρ = some (some b)) {H : Heap} {v : Value} {H1 : Heap} (ho : aOp P o ρ H = some (v, H1)) :
    H1 = H ∧ ∀ H', H'.get b = H.get b → aOp P o ρ H' = some (v, H') := by
  obtain ⟨dst, op, type, pos, after, guard⟩ := o
  simp only at h
  have hl : ∃ t a ad, op = .load t a ∧ ρ a = .pointer (some ad) ∧ ad.block = b := by
    unfold quietOf at h
    split at h <;> (try (cases h; done))
    · split at h <;> cases h
    · split at h
      · rename_i e; simp only [Option.some.injEq] at h; exact ⟨_, _, _, rfl, e, h⟩
      · cases h
    · split at h <;> cases h
    · split at h <;> cases h
    · split at h <;> cases h
  obtain ⟨t, a, ad, e1, e2, e3⟩ := hl
  subst e1
  have key : ∀ H, aOp P ⟨dst, .load t a, type, pos, after, guard⟩ ρ H = (aLoad P H t ad).map (·, H) := by
    intro H
    have h1 : aOpK (.load t a) P type ρ H = (aLoad P H t ad).map (·, H) := by simp only [aOpK, e2]
    have h2 : aDeep (.load t a) P ρ H = none := by simp only [aDeep, e2]
    unfold aOp
    simp only [h1, h2]
    cases aLoad P H t ad <;> rfl
  rw [key] at ho
  simp only [Option.map_eq_some_iff, Prod.mk.injEq] at ho
  obtain ⟨x, hx, e4, e5⟩ := ho
  subst e4
  refine ⟨e5.symm, fun H' hH' => ?_⟩
  rw [key, aLoad_get (H := H) (by rw [e3]; exact hH'), hx]; rfl
end
end
end Go.Abs
