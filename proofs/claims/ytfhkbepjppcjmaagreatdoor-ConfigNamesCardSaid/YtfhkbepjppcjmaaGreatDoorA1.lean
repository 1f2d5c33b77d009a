/- Abstract memory: names in place of blocks; how an abstract value and an abstract heap stand to a value and a world. -/
import Derived.Calls
import Derived.Laws.Sem
import Derived.Laws.World
namespace Go.Abs
open Go

/-- A name's block, how many elements of room lie behind what is known of it, and at which cell what is known begins. -/
abbrev Nm := Nat → Option (Nat × Nat × Nat)
def Nm.le (F F' : Nm) : Prop := ∀ n x, F n = some x → F' n = some x
theorem Nm.le_refl (F : Nm) : Nm.le F F := fun _ _ h => h
theorem Nm.le_trans {F G K : Nm} (h : Nm.le F G) (h' : Nm.le G K) : Nm.le F K := fun n x e => h' n x (h n x e)

def AR (F : Nm) (a a' : Addr) : Prop := ∃ d o, F a.block = some (a'.block, d, o) ∧ a'.off = a.off + o ∧ a'.spot = a.spot
theorem AR.mono {F F' : Nm} (h : Nm.le F F') {a a' : Addr} (r : AR F a a') : AR F' a a' :=
  let ⟨d, o, e, x⟩ := r; ⟨d, o, h _ _ e, x⟩
theorem AR.add {F : Nm} {a a' : Addr} (r : AR F a a') (n : Nat) : AR F (a.add n) (a'.add n) := by
  obtain ⟨d, o, e, h1, h2⟩ := r
  unfold Addr.add
  by_cases hn : n = 0
  · simp [hn]; exact ⟨d, o, e, h1, h2⟩
  · simp [hn]; exact ⟨d, o, e, by simp [h1]; omega, rfl⟩

def asB : Value → Option Bool
  | .bool b => some b
  | _ => none
/-- What is no longer known. -/
def isTop : Value → Bool
  | .chan (some _) => true
  | _ => false

mutual
def VR (F : Nm) : Value → Value → Prop
  | .bool b, v' => v' = .bool b
  | .int k n, v' => v' = .int k n
  | .float k n, v' => v' = .float k n
  | .complex k n m, v' => v' = .complex k n m
  | .string s, v' => v' = .string s
  | .pointer none, v' => v' = .pointer none
  | .pointer (some a), v' => ∃ a', AR F a a' ∧ v' = .pointer (some a')
  | .slice none l c, v' => v' = .slice none l c
  | .slice (some a) l c, v' => ∃ a' d o, F a.block = some (a'.block, d, o) ∧ a'.off = a.off + o ∧ a'.spot = a.spot ∧ v' = .slice (some a') l (c + d)
  | .map none, v' => v' = .map none
  | .map (some r), v' => ∃ r' d o, F r = some (r', d, o) ∧ v' = .map (some r')
  | .chan none, v' => v' = .chan none
  | .chan (some _), _ => True
  | .func fn first captured, v' => ∃ f' c', VRA F first f' ∧ VRA F captured c' ∧ v' = .func fn f' c'
  | .nilFunc, v' => v' = .nilFunc
  | .iface t v, v' => ∃ x', VR F v x' ∧ v' = .iface t x'
  | .nilIface, v' => v' = .nilIface
  | .agg cs, v' => ∃ cs', VRA F cs cs' ∧ v' = .agg cs'
  | .tuple cs, v' => ∃ cs', VRA F cs cs' ∧ v' = .tuple cs'
def VRA (F : Nm) : Array Value → Array Value → Prop
  | ⟨l⟩, c' => VRL F l c'.toList
def VRL (F : Nm) : List Value → List Value → Prop
  | [], l' => l' = []
  | v :: l, l' => ∃ v' r', VR F v v' ∧ VRL F l r' ∧ l' = v' :: r'
end

mutual
def plain : Value → Bool
  | .pointer (some _) | .slice (some _) _ _ | .map (some _) | .chan (some _) => false
  | .func _ first captured => plainA first && plainA captured
  | .iface _ v => plain v
  | .agg cs => plainA cs
  | .tuple cs => plainA cs
  | _ => true
def plainA : Array Value → Bool
  | ⟨l⟩ => plainL l
def plainL : List Value → Bool
  | [] => true
  | v :: l => plain v && plainL l
end

mutual
theorem VR.mono {F F' : Nm} (h : Nm.le F F') : ∀ (v v' : Value), VR F v v' → VR F' v v'
  | .bool b, v', hv => by simpa [VR] using hv
  | .int k n, v', hv => by simpa [VR] using hv
  | .float k n, v', hv => by simpa [VR] using hv
  | .complex k n m, v', hv => by simpa [VR] using hv
  | .string s, v', hv => by simpa [VR] using hv
  | .pointer none, v', hv => by simpa [VR] using hv
  | .pointer (some a), v', hv => by
    simp only [VR] at hv ⊢; obtain ⟨a', r, e⟩ := hv; exact ⟨a', r.mono h, e⟩
  | .slice none l c, v', hv => by simpa [VR] using hv
  | .slice (some a) l c, v', hv => by
    simp only [VR] at hv ⊢; obtain ⟨a', d, o, r, e⟩ := hv; exact ⟨a', d, o, h _ _ r, e⟩
  | .map none, v', hv => by simpa [VR] using hv
  | .map (some r), v', hv => by
    simp only [VR] at hv ⊢; obtain ⟨a', d, o, r, e⟩ := hv; exact ⟨a', d, o, h _ _ r, e⟩
  | .chan none, v', hv => by simpa [VR] using hv
  | .chan (some r), v', hv => by simp [VR]
  | .func fn first captured, v', hv => by
    simp only [VR] at hv ⊢; obtain ⟨f', c', h1, h2, e⟩ := hv
    exact ⟨f', c', VRA.mono h _ _ h1, VRA.mono h _ _ h2, e⟩
  | .nilFunc, v', hv => by simpa [VR] using hv
  | .iface t v, v', hv => by
    simp only [VR] at hv ⊢; obtain ⟨x', h1, e⟩ := hv; exact ⟨x', VR.mono h _ _ h1, e⟩
  | .nilIface, v', hv => by simpa [VR] using hv
  | .agg cs, v', hv => by
    simp only [VR] at hv ⊢; obtain ⟨x', h1, e⟩ := hv; exact ⟨x', VRA.mono h _ _ h1, e⟩
  | .tuple cs, v', hv => by
    simp only [VR] at hv ⊢; obtain ⟨x', h1, e⟩ := hv; exact ⟨x', VRA.mono h _ _ h1, e⟩
theorem VRA.mono {F F' : Nm} (h : Nm.le F F') : ∀ (c c' : Array Value), VRA F c c' → VRA F' c c'
  | ⟨l⟩, c', hv => by simp only [VRA] at hv ⊢; exact VRL.mono h _ _ hv
theorem VRL.mono {F F' : Nm} (h : Nm.le F F') : ∀ (l l' : List Value), VRL F l l' → VRL F' l l'
  | [], l', hv => by simpa [VRL] using hv
  | v :: l, l', hv => by
    simp only [VRL] at hv ⊢; obtain ⟨v', r', h1, h2, e⟩ := hv
    exact ⟨v', r', VR.mono h _ _ h1, VRL.mono h _ _ h2, e⟩
end

mutual
theorem VR.plain_eq {F : Nm} : ∀ (v v' : Value), plain v = true → (VR F v v' ↔ v' = v)
  | .bool b, v', _ => by simp [VR]
  | .int k n, v', _ => by simp [VR]
  | .float k n, v', _ => by simp [VR]
  | .complex k n m, v', _ => by simp [VR]
  | .string s, v', _ => by simp [VR]
  | .pointer none, v', _ => by simp [VR]
  | .pointer (some a), v', h => by simp [plain] at h
  | .slice none l c, v', _ => by simp [VR]
  | .slice (some a) l c, v', h => by simp [plain] at h
  | .map none, v', _ => by simp [VR]
  | .map (some r), v', h => by simp [plain] at h
  | .chan none, v', _ => by simp [VR]
  | .chan (some r), v', h => by simp [plain] at h
  | .func fn first captured, v', h => by
    simp only [plain, Bool.and_eq_true] at h
    simp only [VR]
    constructor
    · rintro ⟨f', c', h1, h2, e⟩
      rw [VRA.plain_eq _ _ h.1] at h1; rw [VRA.plain_eq _ _ h.2] at h2; rw [e, h1, h2]
    · intro e; exact ⟨first, captured, (VRA.plain_eq _ _ h.1).2 rfl, (VRA.plain_eq _ _ h.2).2 rfl, e⟩
  | .nilFunc, v', _ => by simp [VR]
  | .iface t v, v', h => by
    simp only [plain] at h
    simp only [VR]
    constructor
    · rintro ⟨x', h1, e⟩; rw [VR.plain_eq _ _ h] at h1; rw [e, h1]
    · intro e; exact ⟨v, (VR.plain_eq _ _ h).2 rfl, e⟩
  | .nilIface, v', _ => by simp [VR]
  | .agg cs, v', h => by
    simp only [plain] at h
    simp only [VR]
    constructor
    · rintro ⟨x', h1, e⟩; rw [VRA.plain_eq _ _ h] at h1; rw [e, h1]
    · intro e; exact ⟨cs, (VRA.plain_eq _ _ h).2 rfl, e⟩
  | .tuple cs, v', h => by
    simp only [plain] at h
    simp only [VR]
    constructor
    · rintro ⟨x', h1, e⟩; rw [VRA.plain_eq _ _ h] at h1; rw [e, h1]
    · intro e; exact ⟨cs, (VRA.plain_eq _ _ h).2 rfl, e⟩
theorem VRA.plain_eq {F : Nm} : ∀ (c c' : Array Value), plainA c = true → (VRA F c c' ↔ c' = c)
  | ⟨l⟩, ⟨l'⟩, h => by
    simp only [plainA] at h
    simp only [VRA]
    rw [VRL.plain_eq _ _ h]
    simp
theorem VRL.plain_eq {F : Nm} : ∀ (l l' : List Value), plainL l = true → (VRL F l l' ↔ l' = l)
  | [], l', _ => by simp [VRL]
  | v :: l, l', h => by
    simp only [plainL, Bool.and_eq_true] at h
    simp only [VRL]
    constructor
    · rintro ⟨v', r', h1, h2, e⟩
      rw [VR.plain_eq _ _ h.1] at h1; rw [VRL.plain_eq _ _ h.2] at h2; rw [e, h1, h2]
    · intro e; exact ⟨v, l, (VR.plain_eq _ _ h.1).2 rfl, (VRL.plain_eq _ _ h.2).2 rfl, e⟩
end

theorem plain_top {v : Value} (h : plain v = true) : isTop v = false := by
  cases v <;> first | rfl | skip
  rename_i a; cases a <;> first | rfl | (simp [plain] at h)

/-! ### Lists of values -/
theorem VRL.length {F : Nm} : ∀ {l l' : List Value}, VRL F l l' → l'.length = l.length
  | [], l', h => by simp only [VRL] at h; subst h; rfl
  | v :: l, l', h => by
    simp only [VRL] at h; obtain ⟨v', r', _, h2, e⟩ := h; subst e; simp [VRL.length h2]
theorem VRL.get {F : Nm} : ∀ {l l' : List Value} {i : Nat} {v : Value}, VRL F l l' → l[i]? = some v → ∃ v', l'[i]? = some v' ∧ VR F v v'
  | [], l', i, v, _, hv => by simp at hv
  | x :: l, l', 0, v, h, hv => by
    simp only [VRL] at h; obtain ⟨v', r', h1, _, e⟩ := h; subst e; simp at hv; subst hv; exact ⟨v', rfl, h1⟩
  | x :: l, l', i + 1, v, h, hv => by
    simp only [VRL] at h; obtain ⟨v', r', _, h2, e⟩ := h; subst e
    simp at hv; obtain ⟨y, hy, r⟩ := VRL.get h2 hv; exact ⟨y, by simpa using hy, r⟩
theorem VRL.set {F : Nm} : ∀ {l l' : List Value} (i : Nat) {v v' : Value}, VRL F l l' → VR F v v' → VRL F (l.set i v) (l'.set i v')
  | [], l', i, v, v', h, _ => by simp only [VRL] at h; subst h; simp [VRL]
  | x :: l, l', 0, v, v', h, hv => by
    simp only [VRL] at h; obtain ⟨y, r', _, h2, e⟩ := h; subst e; simp only [List.set, VRL]; exact ⟨v', r', hv, h2, rfl⟩
  | x :: l, l', i + 1, v, v', h, hv => by
    simp only [VRL] at h; obtain ⟨y, r', h1, h2, e⟩ := h; subst e; simp only [List.set, VRL]; exact ⟨y, _, h1, VRL.set i h2 hv, rfl⟩
theorem VRL.append {F : Nm} : ∀ {l l' m m' : List Value}, VRL F l l' → VRL F m m' → VRL F (l ++ m) (l' ++ m')
  | [], l', m, m', h, hm => by simp only [VRL] at h; subst h; simpa using hm
  | x :: l, l', m, m', h, hm => by
    simp only [VRL] at h; obtain ⟨y, r', h1, h2, e⟩ := h; subst e; simp only [List.cons_append, VRL]; exact ⟨y, _, h1, VRL.append h2 hm, rfl⟩
theorem VRL.take {F : Nm} : ∀ (n : Nat) {l l' : List Value}, VRL F l l' → VRL F (l.take n) (l'.take n)
  | 0, l, l', _ => by simp [VRL]
  | n + 1, [], l', h => by simp only [VRL] at h; subst h; simp [VRL]
  | n + 1, x :: l, l', h => by
    simp only [VRL] at h; obtain ⟨y, r', h1, h2, e⟩ := h; subst e; simp only [List.take_succ_cons, VRL]; exact ⟨y, _, h1, VRL.take n h2, rfl⟩
theorem VRL.drop {F : Nm} : ∀ (n : Nat) {l l' : List Value}, VRL F l l' → VRL F (l.drop n) (l'.drop n)
  | 0, l, l', h => by simpa using h
  | n + 1, [], l', h => by simp only [VRL] at h; subst h; simp [VRL]
  | n + 1, x :: l, l', h => by
    simp only [VRL] at h; obtain ⟨y, r', h1, h2, e⟩ := h; subst e; simpa using VRL.drop n h2
theorem VRL.split {F : Nm} : ∀ {l m l' : List Value}, VRL F (l ++ m) l' → ∃ a b, l' = a ++ b ∧ VRL F l a ∧ VRL F m b
  | [], m, l', h => ⟨[], l', rfl, by simp [VRL], h⟩
  | x :: l, m, l', h => by
    simp only [List.cons_append, VRL] at h; obtain ⟨y, r', h1, h2, e⟩ := h
    obtain ⟨a, b, e2, ha, hb⟩ := VRL.split h2
    exact ⟨y :: a, b, by rw [e, e2]; rfl, by simp only [VRL]; exact ⟨y, a, h1, ha, rfl⟩, hb⟩
theorem VRL.one {F : Nm} {v v' : Value} (h : VR F v v') : VRL F [v] [v'] := by
  simp only [VRL]; exact ⟨v', [], h, rfl, rfl⟩
theorem VRA.toL {F : Nm} {c c' : Array Value} (h : VRA F c c') : VRL F c.toList c'.toList := by
  cases c; simpa only [VRA] using h
theorem VRA.ofL {F : Nm} {c c' : Array Value} (h : VRL F c.toList c'.toList) : VRA F c c' := by
  cases c; simpa only [VRA] using h
theorem VRA.size {F : Nm} {c c' : Array Value} (h : VRA F c c') : c'.size = c.size := by
  have := h.toL.length; simpa using this
theorem VR.cells {F : Nm} {v v' : Value} (h : VR F v v') (ht : isTop v = false) : VRL F v.cells.toList v'.cells.toList := by
  cases v with
  | agg cs => simp only [VR] at h; obtain ⟨cs', h1, e⟩ := h; subst e; exact h1.toL
  | pointer a => cases a <;> (have h0 := h; simp only [VR] at h) <;> first
      | (subst h; exact VRL.one h0)
      | (obtain ⟨_, _, e⟩ := h; subst e; exact VRL.one h0)
  | slice a l c => cases a <;> (have h0 := h; simp only [VR] at h) <;> first
      | (subst h; exact VRL.one h0)
      | (obtain ⟨_, _, _, _, _, _, e⟩ := h; subst e; exact VRL.one h0)
  | map a => cases a <;> (have h0 := h; simp only [VR] at h) <;> first
      | (subst h; exact VRL.one h0)
      | (obtain ⟨_, _, _, _, e⟩ := h; subst e; exact VRL.one h0)
  | chan a => cases a <;> (have h0 := h; simp only [VR] at h) <;> first
      | (subst h; exact VRL.one h0)
      | (cases ht)
  | func f x y => have h0 := h; simp only [VR] at h; obtain ⟨_, _, _, _, e⟩ := h; subst e; exact VRL.one h0
  | iface t x => have h0 := h; simp only [VR] at h; obtain ⟨_, _, e⟩ := h; subst e; exact VRL.one h0
  | tuple x => have h0 := h; simp only [VR] at h; obtain ⟨_, _, e⟩ := h; subst e; exact VRL.one h0
  | _ => have h0 := h; simp only [VR] at h; subst h; exact VRL.one h0
end Go.Abs
