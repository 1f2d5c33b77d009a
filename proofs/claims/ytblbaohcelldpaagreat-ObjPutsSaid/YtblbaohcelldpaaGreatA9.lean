/- All operations that run no code, in one function. -/
import Derived.Test.YtblbaohcelldpaaGreatA8
namespace Go.Abs
open Go
set_option linter.unusedVariables false
noncomputable section
section
variable {P : Program} {G : Nat} {F : Nm} {H : Heap} {w0 : Base} {w : World}
def strBin (op : BinOp) (s s' : ByteArray) : Option Value :=
  let a := s.data.toList
  let b := s'.data.toList
  match op with
  | .add => match Nat.ble (a.length + b.length) 1099511627776 with
    | true => some (.string (bytesOf (a ++ b)))
    | false => none
  | .eql => some (.bool (a == b))
  | .neq => some (.bool (!(a == b)))
  | .lss => some (.bool (Op.bytesLess a b))
  | .leq => some (.bool (Op.bytesLess a b || a == b))
  | .gtr => some (.bool (!(Op.bytesLess a b || a == b)))
  | .geq => some (.bool (!(Op.bytesLess a b)))
  | _ => none
theorem strBin_ok {op : BinOp} {s s' : ByteArray} {v : Value} (h : strBin op s s' = some v) (t : TypeId) (w : World) :
    (binOp op t (.string s) (.string s')).run P w = .ok v w ∧ VR F v v := by
  have e1 : ∀ s : ByteArray, s.size = s.data.toList.length := fun s => by cases s; simp [ByteArray.size]
  unfold strBin at h
  cases op <;> simp only at h <;> (try (cases h; done)) <;>
    first
    | (simp only [Option.some.injEq] at h; subst h
       exact ⟨by simp only [binOp, Op.stringOp, ByteArray.toList_eq, Sem.run_pure], by simp [VR]⟩)
    | (split at h
       · rename_i hc
         have hc := Nat.le_of_ble_eq_true hc
         simp only [Option.some.injEq] at h; subst h
         refine ⟨?_, by simp [VR]⟩
         have hm : ¬ (((s.size + s'.size : Nat) : Int) > IntKind.i64.max) := by
           have : IntKind.i64.max = 9223372036854775807 := by decide
           rw [this, e1, e1]; omega
         simp only [binOp, Op.stringOp]
         rw [if_neg hm]
         have : s ++ s' = bytesOf (s.data.toList ++ s'.data.toList) := by apply ByteArray.ext; simp [bytesOf]
         rw [this]; rfl
       · cases h)
def exactOwn? (H : Heap) (n : Nat) : Bool := match H.get n with
  | some (.cells _ _ _ false true) => true
  | _ => false
def ptrEq (P : Program) (H : Heap) (t : TypeId) (p q : Addr) : Option Bool :=
  match P.underlying t with
  | some (.pointer e) => match aSize P e with
    | some (_ + 1) => match Nat.beq p.block q.block with
      | true => some (Nat.beq p.off q.off && (match p.spot, q.spot with | none, none => true | some a, some b => Nat.beq a b | _, _ => false))
      | false => match exactOwn? H p.block && exactOwn? H q.block with
        | true => some false
        | false => none
    | _ => none
  | _ => none
theorem exactOwn_facts (R : Rel G F H w0 w) {a a' : Addr} (ha : AR F a a') (h : exactOwn? H a.block = true) :
    (∃ o, H.get a.block = some o ∧ o.own = true) ∧ (∃ e n, w.shape? a'.block = some (e, n)) ∧ (∀ x : Addr, x.block = a'.block → w.frozen? x = false) := by
  unfold exactOwn? at h
  split at h
  · rename_i vs elem sz hg
    obtain ⟨b, d, o, c, fz, hF, ⟨t, hw, ht⟩, _, _, hex, _⟩ := R.obj _ _ hg
    have ht := ht rfl
    rw [ht] at hw
    obtain ⟨d2, o2, e, _, _⟩ := ha
    rw [hF] at e; simp only [Option.some.injEq, Prod.mk.injEq] at e
    obtain ⟨e1, _, _⟩ := e
    obtain ⟨_, _, _, hfz⟩ := hex rfl
    subst hfz
    refine ⟨⟨_, hg, rfl⟩, ⟨elem, c.size, ?_⟩, ?_⟩
    · simp only [World.shape?, ← e1, hw]
    · intro x hx
      simp only [World.frozen?, hx, ← e1, hw]
      simp
  · cases h
theorem sameAddr_same (a b : Addr) (h : a.block = b.block) (w : World) : (sameAddr a b).run P w = .ok (a == b) w := by
  unfold sameAddr; rw [if_pos (by simp [h])]; rfl
theorem sameAddr_other {a b : Addr} (hne : a.block ≠ b.block) {w : World} (sa : ∃ e n, w.shape? a.block = some (e, n)) (sb : ∃ e n, w.shape? b.block = some (e, n))
    (fa : ∀ x : Addr, x.block = a.block → w.frozen? x = false) (fb : ∀ x : Addr, x.block = b.block → w.frozen? x = false) : (sameAddr a b).run P w = .ok false w := by
  obtain ⟨ea, na, sa⟩ := sa
  obtain ⟨eb, nb, sb⟩ := sb
  have f1 := fa a rfl
  have f2 := fb b rfl
  have f3 := fa { block := a.block, off := na } rfl
  have f4 := fb { block := b.block, off := nb } rfl
  unfold sameAddr
  rw [if_neg (by simpa using hne)]
  simp [f1, f2, noView, viewAt, sa, sb, mayBeOne, stringish, f3, f4]
theorem ptrEq_ok (R : Rel G F H w0 w) {t : TypeId} {p q p' q' : Addr} (hp : AR F p p') (hq : AR F q q') {r : Bool} (h : ptrEq P H t p q = some r) (n : Nat) :
    (Op.equalIn (n + 1) t (.pointer (some p')) (.pointer (some q'))).run P w = .ok r w := by
  unfold ptrEq at h
  split at h
  · rename_i e hu
    split at h
    · rename_i m hm
      have hne : ¬ (m + 1 = 0) := by omega
      have hgo : (Op.equalIn (n + 1) t (.pointer (some p')) (.pointer (some q'))).run P w = (sameAddr p' q').run P w := by
        simp [Op.equalIn, run_underlying hu, run_sizeOf' hm]
      rw [hgo]
      split at h
      · rename_i hb
        have hb := Nat.eq_of_beq_eq_true hb
        simp only [Option.some.injEq] at h; subst h
        obtain ⟨d, o, h1, h2, h3⟩ := hp
        obtain ⟨d', o', h1', h2', h3'⟩ := hq
        rw [hb, h1'] at h1; simp only [Option.some.injEq, Prod.mk.injEq] at h1
        obtain ⟨k1, k2, k3⟩ := h1
        rw [sameAddr_same _ _ k1.symm]
        congr 1
        rw [Bool.eq_iff_iff, beq_iff_eq, Bool.and_eq_true]
        obtain ⟨pb, po, ps⟩ := p'
        obtain ⟨qb, qo, qs⟩ := q'
        simp only at h2 h3 h2' h3' k1
        simp only [Addr.mk.injEq]
        have e1 : Nat.beq p.off q.off = true ↔ po = qo := by
          constructor
          · intro e; have := Nat.eq_of_beq_eq_true e; omega
          · intro e; have : p.off = q.off := by omega
            rw [this]; exact Nat.beq_refl _
        rw [e1, ← h3, ← h3']
        cases ps <;> cases qs <;> simp [k1] <;> omega
      · rename_i hb
        have hb : p.block ≠ q.block := fun e => by rw [e] at hb; simp at hb
        split at h
        · rename_i hx
          simp only [Option.some.injEq] at h; subst h
          simp only [Bool.and_eq_true] at hx
          obtain ⟨⟨o1, g1, w1⟩, s1, f1⟩ := exactOwn_facts R hp hx.1
          obtain ⟨⟨o2, g2, w2⟩, s2, f2⟩ := exactOwn_facts R hq hx.2
          have := R.inj _ _ _ _ g1 g2 hb w1
          obtain ⟨d, o, h1, h2, h3⟩ := hp
          obtain ⟨d', o', h1', h2', h3'⟩ := hq
          refine sameAddr_other (fun e => this ?_) s1 s2 f1 f2
          simp [blk, h1, h1', e]
        · cases h
    · cases h
  · cases h
def wrapA (k : IntKind) (n : Int) : Int := match k with
  | .i64 => match decide (-9223372036854775808 ≤ n) && decide (n ≤ 9223372036854775807) with
    | true => n
    | false => IntKind.i64.wrap n
  | k => k.wrap n
theorem wrapA_eq (k : IntKind) (n : Int) : wrapA k n = k.wrap n := by
  unfold wrapA
  split
  · split
    · rename_i h
      simp only [Bool.and_eq_true, decide_eq_true_eq] at h
      simp [IntKind.wrap, IntKind.bits, IntKind.signed]; omega
    · rfl
  · rfl
def intBin (op : BinOp) (k : IntKind) (a : Int) (k' : IntKind) (b : Int) : Option Value :=
  match op with
  | .shl => match decide (0 ≤ b) with
    | true => some (.int k (k.wrap (a * 2 ^ (min b.toNat k.bits))))
    | false => none
  | .shr => match decide (0 ≤ b) with
    | true => some (.int k (a.fdiv (2 ^ (min b.toNat k.bits))))
    | false => none
  | op => match decide (k = k') with
    | false => none
    | true => match op with
      | .add => some (.int k (wrapA k (a + b)))
      | .sub => some (.int k (wrapA k (a - b)))
      | .mul => some (.int k (wrapA k (a * b)))
      | .quo => match decide (b = 0) with
        | true => none
        | false => some (.int k (k.wrap (a.tdiv b)))
      | .rem => match decide (b = 0) with
        | true => none
        | false => some (.int k (a.tmod b))
      | .and => some (.int k (k.wrap ((BitVec.ofInt k.bits a) &&& (BitVec.ofInt k.bits b)).toNat))
      | .or => some (.int k (k.wrap ((BitVec.ofInt k.bits a) ||| (BitVec.ofInt k.bits b)).toNat))
      | .xor => some (.int k (k.wrap ((BitVec.ofInt k.bits a) ^^^ (BitVec.ofInt k.bits b)).toNat))
      | .andNot => some (.int k (k.wrap ((BitVec.ofInt k.bits a) &&& ~~~(BitVec.ofInt k.bits b)).toNat))
      | .eql => some (.bool (decide (a = b)))
      | .neq => some (.bool (!decide (a = b)))
      | .lss => some (.bool (decide (a < b)))
      | .leq => some (.bool (decide (a ≤ b)))
      | .gtr => some (.bool (decide (a > b)))
      | .geq => some (.bool (decide (a ≥ b)))
      | _ => none
theorem intBin_ok {op : BinOp} {k k' : IntKind} {a b : Int} {v : Value} (h : intBin op k a k' b = some v) (t : TypeId) (w : World) :
    (binOp op t (.int k a) (.int k' b)).run P w = .ok v w ∧ VR F v v := by
  unfold intBin at h
  cases op <;> simp only at h <;>
    first
    | (cases h; done)
    | (split at h <;> (try (cases h; done))
       rename_i hb
       simp only [decide_eq_true_eq] at hb
       simp only [Option.some.injEq] at h; subst h
       refine ⟨?_, by simp [VR]⟩
       simp only [binOp, Op.shift]
       rw [if_neg (by omega)]; rfl)
    | (split at h <;> (try (cases h; done))
       rename_i hk
       simp only [decide_eq_true_eq] at hk; subst hk
       split at h <;> (try (cases h; done))
       rename_i hb
       simp only [decide_eq_false_iff_not] at hb
       simp only [Option.some.injEq] at h; subst h
       refine ⟨?_, by simp [VR]⟩
       simp only [binOp, Op.intDiv]
       rw [if_neg (by simp), if_neg hb]; rfl)
    | (split at h <;> (try (cases h; done))
       rename_i hk
       simp only [decide_eq_true_eq] at hk; subst hk
       simp only [Option.some.injEq] at h; subst h
       refine ⟨?_, by simp [VR]⟩
       simp [binOp, Op.intArith, Op.intBits, Op.intCmp, wrapA_eq]
       try rfl)
def isEq : BinOp → Option Bool
  | .eql => some true
  | .neq => some false
  | _ => none
def aBin (P : Program) (H : Heap) (op : BinOp) (t : TypeId) (x y : Operand) (a b : Value) : Option Value :=
  match a, b with
  | .int k m, .int k' n => intBin op k m k' n
  | .string s, .string s' => strBin op s s'
  | .pointer (some p), .pointer (some q) => match isEq op, ptrEq P H t p q with
    | some want, some r => some (.bool (r == want))
    | _, _ => none
  | _, _ => match plain a && plain b with
    | true => pureVal P (do eqGuard op t x y a b; binOp op t a b)
    | false => match isEq op, P.underlying t with
      | some want, some d => match headEq d a b with
        | some r => some (.bool (r == want))
        | none => none
      | _, _ => none
theorem eqGuard_pure (op : BinOp) (t : TypeId) (x y : Operand) (a b : Value) (h1 : ∀ xs ys, a = .agg xs → b = .agg ys → False) (h2 : a = .nilIface → b = .nilIface → False) (w : World) :
    (eqGuard op t x y a b).run P w = .ok () w := by
  unfold eqGuard
  split <;> first
    | (rw [if_pos (by rfl)]; rfl)
    | (rw [if_neg (by decide)]
       split
       · exact (h2 rfl rfl).elim
       · exact (h1 _ _ rfl rfl).elim
       · rfl)
theorem aBin_ok (R : Rel G F H w0 w) {op : BinOp} {t : TypeId} (x y : Operand) {a a' b b' : Value} (ha : VR F a a') (hb : VR F b b') {v : Value} (h : aBin P H op t x y a b = some v) :
    ∃ v', (do eqGuard op t x y a' b'; binOp op t a' b' : Sem Value).run P w = .ok v' w ∧ VR F v v' := by
  unfold aBin at h
  split at h
  · simp only [VR] at ha hb; subst ha; subst hb
    obtain ⟨g1, g2⟩ := intBin_ok (P := P) (F := F) h t w
    refine ⟨v, ?_, g2⟩
    rw [Sem.run_bind, eqGuard_pure _ _ _ _ _ _ (by intro _ _ h; cases h) (by intro h; cases h)]
    exact g1
  · simp only [VR] at ha hb; subst ha; subst hb
    obtain ⟨g1, g2⟩ := strBin_ok (P := P) (F := F) h t w
    refine ⟨v, ?_, g2⟩
    rw [Sem.run_bind, eqGuard_pure _ _ _ _ _ _ (by intro _ _ h; cases h) (by intro h; cases h)]
    exact g1
  · rename_i p q
    split at h
    · rename_i want r hop hr
      simp only [Option.some.injEq] at h; subst h
      simp only [VR] at ha hb
      obtain ⟨p', hp, e⟩ := ha; subst e
      obtain ⟨q', hq, e⟩ := hb; subst e
      refine ⟨.bool (r == want), ?_, by simp [VR]⟩
      rw [Sem.run_bind, eqGuard_pure _ _ _ _ _ _ (by intro _ _ h; cases h) (by intro h; cases h)]
      have := ptrEq_ok (P := P) R hp hq hr 9999
      unfold isEq at hop
      split at hop <;> (try (cases hop; done)) <;> (simp only [Option.some.injEq] at hop; subst hop) <;>
        (simp only [Result.andThen_ok, binOp, Sem.run_bind, Op.equal, Op.maxDepth]; rw [this]; cases r <;> rfl)
    · cases h
  · split at h
    · rename_i hpl
      simp only [Bool.and_eq_true] at hpl
      rw [VR.plain_eq _ _ hpl.1] at ha; rw [VR.plain_eq _ _ hpl.2] at hb
      subst ha; subst hb
      obtain ⟨g1, g2⟩ := pureVal_ok (F := F) h w
      exact ⟨v, g1, g2⟩
    · split at h
      · rename_i want d hop hu
        split at h
        · rename_i r hr
          simp only [Option.some.injEq] at h; subst h
          obtain ⟨g1, g2, g3, g4, g5⟩ := headEq_ok (P := P) hu ha hb hr 9999 w
          refine ⟨.bool (r == want), ?_, by simp [VR]⟩
          rw [Sem.run_bind, eqGuard_pure _ _ _ _ _ _ g2 g3]
          unfold isEq at hop
          split at hop <;> (try (cases hop; done)) <;> (simp only [Option.some.injEq] at hop; subst hop)
          · simp only [Result.andThen_ok, g4, Sem.run_bind, Op.equal, Op.maxDepth]; rw [g1]; cases r <;> rfl
          · simp only [Result.andThen_ok, g5, Sem.run_bind, Op.equal, Op.maxDepth]; rw [g1]; cases r <;> rfl
        · cases h
      · cases h
def aLen (P : Program) (t : TypeId) (x : Value) : Option Value :=
  match P.underlying t, x with
  | some .string, .string s => some (.int .i64 s.data.toList.length)
  | some (.array n _), _ => some (.int .i64 n)
  | some (.pointer arr), _ => match P.underlying arr with
    | some (.array n _) => some (.int .i64 n)
    | _ => none
  | some (.slice _), .slice _ n _ => some (.int .i64 n)
  | some (.map _ _), .map none => some (.int .i64 0)
  | _, _ => none
theorem aLen_ok {t : TypeId} {x x' : Value} (hx : VR F x x') {v : Value} (h : aLen P t x = some v) (argTypes : Array TypeId) (ht : argTypes[0]? = some t) (ty : TypeId) (rest : List Value) (w : World) :
    (Builtin.len_ argTypes ty (x' :: rest).toArray).run P w = .ok v w ∧ VR F v v := by
  unfold aLen at h
  split at h <;> (try (cases h; done))
  · rename_i s hu
    simp only [Option.some.injEq] at h; subst h
    simp only [VR] at hx; subst hx
    exact ⟨by simp [Builtin.len_, ht, run_underlying hu, goInt], by simp [VR]⟩
  · rename_i n e hu
    simp only [Option.some.injEq] at h; subst h
    exact ⟨by simp [Builtin.len_, ht, run_underlying hu, goInt], by simp [VR]⟩
  · rename_i arr hu
    split at h <;> (try (cases h; done))
    rename_i n e hu2
    simp only [Option.some.injEq] at h; subst h
    exact ⟨by simp [Builtin.len_, ht, run_underlying hu, run_underlying hu2, goInt], by simp [VR]⟩
  · rename_i e a n c hu
    simp only [Option.some.injEq] at h; subst h
    cases a with
    | none => simp only [VR] at hx; subst hx; exact ⟨by simp [Builtin.len_, ht, run_underlying hu, goInt], by simp [VR]⟩
    | some a => simp only [VR] at hx; obtain ⟨_, _, _, _, _, _, e⟩ := hx; subst e; exact ⟨by simp [Builtin.len_, ht, run_underlying hu, goInt], by simp [VR]⟩
  · rename_i k e hu
    simp only [Option.some.injEq] at h; subst h
    simp only [VR] at hx; subst hx
    exact ⟨by simp [Builtin.len_, ht, run_underlying hu, goInt], by simp [VR]⟩
def aCap (P : Program) (H : Heap) (t : TypeId) (x : Value) : Option Value :=
  match P.underlying t, x with
  | some (.array n _), _ => some (.int .i64 n)
  | some (.slice _), .slice none _ n => some (.int .i64 n)
  | some (.slice _), .slice (some a) _ n => match exact? H a.block with
    | true => some (.int .i64 n)
    | false => none
  | _, _ => none
theorem aCap_ok (R : Rel G F H w0 w) {t : TypeId} {x x' : Value} (hx : VR F x x') {v : Value} (h : aCap P H t x = some v) (argTypes : Array TypeId) (ht : argTypes[0]? = some t) (ty : TypeId) (rest : List Value) :
    (Builtin.cap_ argTypes ty (x' :: rest).toArray).run P w = .ok v w ∧ VR F v v := by
  unfold aCap at h
  split at h <;> (try (cases h; done))
  · rename_i n e hu
    simp only [Option.some.injEq] at h; subst h
    exact ⟨by simp [Builtin.cap_, ht, run_underlying hu, goInt], by simp [VR]⟩
  · rename_i e n c hu
    simp only [Option.some.injEq] at h; subst h
    simp only [VR] at hx; subst hx
    exact ⟨by simp [Builtin.cap_, ht, run_underlying hu, goInt], by simp [VR]⟩
  · rename_i e a n c hu
    split at h <;> (try (cases h; done))
    rename_i hex
    simp only [Option.some.injEq] at h; subst h
    simp only [VR] at hx; obtain ⟨a', d, o, hF, _, _, e⟩ := hx; subst e
    have := (exact_room R hex hF).1; subst this
    exact ⟨by simp [Builtin.cap_, ht, run_underlying hu, goInt], by simp [VR]⟩
def aCopy (P : Program) (H : Heap) (t : TypeId) (dst src : Value) : Option (Value × Heap) :=
  match P.underlying t, dst with
  | some (.slice elem), .slice base dLen _ => match aSize P elem with
    | none => none
    | some size =>
      match (match src with
        | .slice none sl _ => some (Nat.min sl dLen, ([] : List Value), Nat.beq (Nat.min sl dLen) 0)
        | .slice (some b) sl _ => (aCells H b (Nat.min sl dLen * size)).map fun l => (Nat.min sl dLen, l, true)
        | .string s => some (Nat.min s.data.toList.length dLen, (s.data.toList.take (Nat.min s.data.toList.length dLen)).map (fun b : UInt8 => Value.int .u8 b.toNat), true)
        | _ => none) with
      | some (n, xs, true) => match base with
        | none => match xs with
          | [] => some (.int .i64 n, H)
          | _ => none
        | some a => match xs with
          | [] => some (.int .i64 n, H)
          | _ => match a.spot, H.get a.block with
            | none, some (.cells vs e2 sz lo true) => match Nat.ble (a.off + xs.length) vs.length && xs.all isCell with
              | true => some (.int .i64 n, H.put a.block (some (.cells (splice vs a.off xs) e2 sz lo true)))
              | false => none
            | _, _ => none
      | _ => none
  | _, _ => none
theorem aCopy_ok (R : Rel G F H w0 w) {t : TypeId} {dst dst' src src' : Value} (hd : VR F dst dst') (hs : VR F src src') {r : Value × Heap} (h : aCopy P H t dst src = some r)
    (argTypes : Array TypeId) (ht : argTypes[0]? = some t) (ty : TypeId) : OpOK P G F w0 w (Builtin.copy_ argTypes ty #[dst', src']) r.1 r.2 := by
  unfold aCopy at h; simp only [splice_eq] at h
  split at h <;> (try (cases h; done))
  rename_i elem base dLen cap hu
  split at h <;> (try (cases h; done))
  rename_i size hsz
  split at h <;> (try (cases h; done))
  rename_i n xs hsrc
  have hkey : ∃ sl, (Builtin.lenOf src').run P w = .ok sl w ∧ n = Nat.min sl dLen ∧ ∃ xs', (Builtin.firstCells size n src').run P w = .ok xs'.toArray w ∧ VRL F xs xs' := by
    split at hsrc
    · rename_i sl c
      simp only [Option.some.injEq, Prod.mk.injEq] at hsrc
      obtain ⟨e1, e2, e3⟩ := hsrc
      simp only [VR] at hs; subst hs; subst e2
      exact ⟨sl, by simp [Builtin.lenOf], e1.symm, [], by simp [Builtin.firstCells], by simp [VRL]⟩
    · rename_i b sl c
      simp only [Option.map_eq_some_iff] at hsrc
      obtain ⟨l, hl, e⟩ := hsrc
      simp only [Prod.mk.injEq] at e
      obtain ⟨e1, e2, _⟩ := e
      simp only [VR] at hs; obtain ⟨b', d, o, hF, h1, h2, e'⟩ := hs; subst e'; subst e2
      obtain ⟨l', hr, hv⟩ := R.loadCells P ⟨d, o, hF, h1, h2⟩ hl
      exact ⟨sl, by simp [Builtin.lenOf], e1.symm, l', by simp [Builtin.firstCells, ← e1, hr], hv⟩
    · rename_i s
      simp only [Option.some.injEq, Prod.mk.injEq] at hsrc
      obtain ⟨e1, e2, _⟩ := hsrc
      simp only [VR] at hs; subst hs; subst e2
      have e0 : s.size = s.data.toList.length := by cases s; simp [ByteArray.size]
      refine ⟨s.size, by simp [Builtin.lenOf], by rw [e0]; exact e1.symm, (s.data.toList.take n).map (fun b : UInt8 => Value.int .u8 b.toNat), ?_, ?_⟩
      · simp only [Builtin.firstCells, extract_bytes, Sem.run_pure, Result.ok.injEq, and_true]
        apply Array.ext'; simp [bytesOf]
      · rw [e1]; exact (VRL.plain_eq _ _ (plainL_map _ (fun _ => rfl) _)).2 rfl
    · cases hsrc
  obtain ⟨sl, hlen, hn, xs', hrun, hv⟩ := hkey
  have hl2 := hv.length
  have hbase : ∃ base' cap', dst' = .slice base' dLen cap' ∧ (match base, base' with | none, none => True | some a, some a' => AR F a a' | _, _ => False) := by
    cases base with
    | none => simp only [VR] at hd; exact ⟨none, cap, hd, trivial⟩
    | some a => simp only [VR] at hd; obtain ⟨a', d, o, hF, h1, h2, e⟩ := hd; exact ⟨some a', _, e, ⟨d, o, hF, h1, h2⟩⟩
  obtain ⟨base', cap', e, hb⟩ := hbase
  subst e
  have hgo : (Builtin.copy_ argTypes ty #[.slice base' dLen cap', src']).run P w = ((match base' with | some a => storeCells a xs' | none => pure ()).run P w).andThen fun _ w' => .ok (goInt n) w' := by
    simp only [Builtin.copy_, ht, List.getElem?_toArray, List.getElem?_cons_zero, List.getElem?_cons_succ, Sem.run_bind, run_underlying hu, Result.andThen_ok, hlen, run_sizeOf' hsz, ← hn, hrun]
    cases base' <;> simp
  cases base with
  | none =>
    cases base' with
    | some _ => exact hb.elim
    | none =>
      simp only at h
      split at h <;> (try (cases h; done))
      simp only [Option.some.injEq] at h; subst h
      refine OpOK.same R (v' := .int .i64 n) ?_ (by simp [VR])
      rw [hgo]; rfl
  | some a =>
    cases base' with
    | none => exact hb.elim
    | some a' =>
      simp only at h hb
      split at h
      · simp only [Option.some.injEq] at h; subst h
        simp only [VRL] at hv; subst hv
        refine OpOK.same R (v' := .int .i64 n) ?_ (by simp [VR])
        rw [hgo]; simp [storeCells, goInt]
      · split at h <;> (try (cases h; done))
        rename_i vs e2 sz lo hsp hg
        split at h <;> (try (cases h; done))
        rename_i hc
        simp only [Bool.and_eq_true] at hc
        have hc1 := Nat.le_of_ble_eq_true hc.1
        simp only [Option.some.injEq] at h; subst h
        obtain ⟨w', hr, R'⟩ := storeCells_ok (P := P) xs xs' 0 R hb hsp hg hc.2 (by omega) hv
        refine ⟨F, .int .i64 n, w', Nm.le_refl F, ?_, by simp [VR], by simpa using R'⟩
        rw [hgo]; simp only [hr, Result.andThen_ok]; rfl
end
end
end Go.Abs
