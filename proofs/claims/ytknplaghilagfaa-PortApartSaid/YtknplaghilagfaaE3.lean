/- What the functions of the ports do in any heap. -/
import Derived.Test.YtknplaghilagfaaE2
import Derived.Test.YtknplaghilagfaaD7
namespace Go.Proofs.Ytknplaghilagfaa.Po
open Go Go.Abs
set_option linter.unusedVariables false
noncomputable section
theorem PR.cell {ps : Ps} {vs : List Value} (h : PR ps vs) (v : Value) (hv : v ∈ vs) : (∃ b, v = .bool b) ∨ (∃ n, v = .int .i64 n) ∨ ∃ s, v = .string s := by
  obtain ⟨i, hi⟩ := List.getElem?_of_mem hv
  have hlt : i < 560 := by
    rcases Nat.lt_or_ge i 560 with c | c
    · exact c
    · rw [List.getElem?_eq_none (by rw [h.1]; exact c)] at hi; cases hi
  obtain ⟨f, g1, g2, g3, c0, c33, c34, cs, cl⟩ := h.2 (i / 35) (by omega)
  have e : i = i / 35 * 35 + i % 35 := by omega
  have key : ∀ j, i % 35 = j → vs[i / 35 * 35 + j]? = some v := fun j hj => by rw [← hj, ← e]; exact hi
  by_cases e0 : i % 35 = 0
  · have := c0.symm.trans (key 0 e0); simp only [Option.some.injEq] at this; exact .inl ⟨_, this.symm⟩
  · by_cases e1 : i % 35 = 33
    · have := c33.symm.trans (key 33 e1); simp only [Option.some.injEq] at this; exact .inr (.inl ⟨_, this.symm⟩)
    · by_cases e2 : i % 35 = 34
      · have := c34.symm.trans (key 34 e2); simp only [Option.some.injEq] at this; exact .inr (.inl ⟨_, this.symm⟩)
      · obtain ⟨s, hs⟩ := cs (i % 35 - 1) (by omega)
        have := hs.symm.trans (key (1 + (i % 35 - 1)) (by omega)); simp only [Option.some.injEq] at this; exact .inr (.inr ⟨_, this.symm⟩)
theorem PR.plain {ps : Ps} {vs : List Value} (h : PR ps vs) : plainL vs = true := by
  rw [plainL_iff]
  intro v hv
  rcases h.cell v hv with ⟨b, rfl⟩ | ⟨n, rfl⟩ | ⟨s, rfl⟩ <;> rfl
theorem PR.isCell {ps : Ps} {vs : List Value} (h : PR ps vs) : vs.all isCell = true := by
  rw [List.all_eq_true]
  intro v hv
  rcases h.cell v hv with ⟨b, rfl⟩ | ⟨n, rfl⟩ | ⟨s, rfl⟩ <;> rfl
def pobAt (H : Heap) (a : Addr) : Option (List Value) := match a.off, a.spot, H.get a.block, Nat.ble 100 a.block with
  | 0, none, some (.cells vs t z lo ow), true => match Nat.beq t 56 && Nat.beq z 560 && !lo && ow with
    | true => some vs
    | false => none
  | _, _, _, _ => none
theorem pobAt_ok {H : Heap} {a : Addr} {vs : List Value} (h : pobAt H a = some vs) : 100 ≤ a.block ∧ a = ⟨a.block, 0, none⟩ ∧ H.get a.block = some (pob vs) := by
  unfold pobAt at h
  split at h
  · rename_i t z lo ow ho hs hg hb
    split at h
    · rename_i hc
      simp only [Option.some.injEq] at h; subst h
      simp only [Bool.and_eq_true, Bool.not_eq_true'] at hc
      obtain ⟨⟨⟨c1, c2⟩, c3⟩, c4⟩ := hc
      have c1 := Nat.eq_of_beq_eq_true c1; have c2 := Nat.eq_of_beq_eq_true c2
      subst c1; subst c2; subst c3; subst c4
      refine ⟨Nat.le_of_ble_eq_true hb, ?_, hg⟩
      obtain ⟨b, o, s⟩ := a
      simp only at ho hs; subst ho; subst hs; rfl
    · cases h
  · cases h
theorem port_call {f : FuncId} {args : List Value} {vs vs' : List Value} {v : Value} (h : ∀ B, CallH Try.prog 100 B f (.pointer (some ⟨100, 0, none⟩) :: args) (hp vs) (.returned v) (hOf 100 [] [some (pob vs')]))
    (h1 : plainL vs = true) (h2 : plainL vs' = true) (hv : plain v = true) (ha : plainL args = true) {H : Heap} {a : Addr} (hat : pobAt H a = some vs) (B : Base) :
    CallH Try.prog 100 B f (.pointer (some a) :: args) H (.returned v) (H.put a.block (some (pob vs'))) := by
  obtain ⟨g1, g2, g3⟩ := pobAt_ok hat
  have := lift (ins := [pob vs]) (upd := [some (pob vs')]) (new := []) rfl rfl h (H := H) (ns := [a.block]) rfl (by simp) (by simpa [plainO, pob] using h1) (by simpa [plainO, pob] using h2) (by simp)
    (fun i o hi => by
      cases i with
      | zero => simp only [List.getElem?_cons_zero, Option.some.injEq] at hi; subst hi; exact ⟨_, rfl, g1, g3⟩
      | succ i => simp at hi) B
  rw [vren_plain v hv] at this
  simp only [vrenL, vren, vrenL_plain args ha] at this
  rw [tau_in (n := 100) (m := a.block) (by omega) rfl] at this
  rw [g2]
  exact this

/-- What is known of each function. -/
structure PN where
  send : List Value → Int → ByteArray → (Int → List Value → Prop) → Prop
  take : List Value → Int → (ByteArray → List Value → Prop) → (List Value → Prop) → Prop
  up : List Value → Int → (Int → List Value → Prop) → Prop
  down : List Value → Int → (Int → Int → List Value → Prop) → Prop
  isUp : List Value → Int → Prop → Prop → Prop
  waits : List Value → Int → (Int → Prop) → Prop
  step : List Value → Int → Int → Int → ByteArray → (List Value → Prop) → Prop
  times : Int → Int → Int → ByteArray → (Int → Prop) → Prop
  all : List Value → Int → Prop → (List Value → Nat → Prop) → Prop
  same : List Value → Nat → List Value → Nat → Prop → Prop → Prop
  new : (List Value → Prop) → Prop
  copy : List Value → (List Value → Prop) → Prop
  long : List Value → Nat → Prop → Prop → Prop
  eqp : List Value → List Value → Prop → Prop → Prop
structure Ac where
  k : Int
  p : Int
  t : Int
  s : ByteArray
def stepP (ps : Ps) (k p : Int) (s : ByteArray) : Ps := if k = 0 then (sendP ps p s).2 else if k = 1 then (takeP ps p).2 else if k = 2 then (upP ps p).2 else (downP ps p).2
def timesP (k t : Int) : Int := if 1 < k then 1 else 1 + t % 40
def costP (l : List Ac) : Int := (l.map fun a => 60 + (if (a.s.data.toList.length : Int) < 60000 then (a.s.data.toList.length : Int) else 60000)).sum
def acV (a : Ac) : List Value := [.int .u8 a.k, .int .i64 a.p, .int .u8 a.t, .string a.s]
def acsV (l : List Ac) : List Value := l.flatMap acV
def strV (l : List ByteArray) : List Value := l.map .string
def realP : PN where
  send := fun vs n s K => ∃ ps, PR ps vs ∧ ∀ vs', PR (sendP ps n s).2 vs' → K (sendP ps n s).1 vs'
  take := fun vs n T F => ∃ ps, PR ps vs ∧ ∀ vs', PR (takeP ps n).2 vs' → ((takeP ps n).1.2 = true → T (takeP ps n).1.1 vs') ∧ ((takeP ps n).1 = (bytesOf [], false) → F vs')
  up := fun vs n K => ∃ ps, PR ps vs ∧ ∀ vs', PR (upP ps n).2 vs' → K (upP ps n).1 vs'
  down := fun vs n K => ∃ ps, PR ps vs ∧ ∀ vs', PR (downP ps n).2 vs' → K (downP ps n).1.1 (downP ps n).1.2 vs'
  isUp := fun vs n T F => ∃ ps, PR ps vs ∧ (isUpP ps n = true → T) ∧ (isUpP ps n = false → F)
  waits := fun vs n K => ∃ ps, PR ps vs ∧ K (listP ps n).length
  step := fun vs k p t s K => ∃ ps, PR ps vs ∧ ∀ vs', PR (stepP ps k p s) vs' → K vs'
  times := fun k p t s K => (0 ≤ k ∧ 0 ≤ t ∧ t < 256) ∧ K (timesP k t)
  all := fun vs n Z K => ∃ ps, PR ps vs ∧ (listP ps n = [] → Z) ∧ (listP ps n ≠ [] → K (strV (listP ps n)) (listP ps n).length)
  same := fun x n y m T F => ∃ a b, x = strV a ∧ n = a.length ∧ y = strV b ∧ m = b.length ∧ a.length < 2 ^ 40 ∧ b.length < 2 ^ 40 ∧ (a = b → T) ∧ (a ≠ b → F)
  new := fun K => ∀ vs, PR (fun _ => ⟨false, []⟩) vs → K vs
  copy := fun vs K => ∃ ps, PR ps vs ∧ K vs
  long := fun vs n T F => (∃ l, vs = acsV l ∧ n = l.length ∧ n ≤ 9223372036854775807) ∧ T ∧ F
  eqp := fun x y T F => ∃ a b, PR a x ∧ PR b y ∧ ((∀ n, 1 ≤ n ∧ n ≤ 16 → isUpP a n = isUpP b n ∧ listP a n = listP b n) → T) ∧ (¬ (∀ n, 1 ≤ n ∧ n ≤ 16 → isUpP a n = isUpP b n ∧ listP a n = listP b n) → F)
section
variable (M : PN)
def sSend : List Value → Heap → VK → Prop
  | [.pointer (some a), .int .i64 n, .string s], H, K => opt (pobAt H a) fun vs => M.send vs n s fun r vs' => K (.int .i64 r) (H.put a.block (some (pob vs')))
  | _, _, _ => False
def sTake : List Value → Heap → VK → Prop
  | [.pointer (some a), .int .i64 n], H, K => opt (pobAt H a) fun vs => M.take vs n (fun s vs' => K (.tuple #[.string s, .bool true]) (H.put a.block (some (pob vs')))) (fun vs' => K (.tuple #[.string (bytesOf []), .bool false]) (H.put a.block (some (pob vs'))))
  | _, _, _ => False
def sUp : List Value → Heap → VK → Prop
  | [.pointer (some a), .int .i64 n], H, K => opt (pobAt H a) fun vs => M.up vs n fun r vs' => K (.int .i64 r) (H.put a.block (some (pob vs')))
  | _, _, _ => False
def sDown : List Value → Heap → VK → Prop
  | [.pointer (some a), .int .i64 n], H, K => opt (pobAt H a) fun vs => M.down vs n fun r e vs' => K (.tuple #[.int .i64 r, .int .i64 e]) (H.put a.block (some (pob vs')))
  | _, _, _ => False
def sIsUp : List Value → Heap → VK → Prop
  | [.pointer (some a), .int .i64 n], H, K => opt (pobAt H a) fun vs => M.isUp vs n (K (.bool true) (H.put a.block (some (pob vs)))) (K (.bool false) (H.put a.block (some (pob vs))))
  | _, _, _ => False
def sWaits : List Value → Heap → VK → Prop
  | [.pointer (some a), .int .i64 n], H, K => opt (pobAt H a) fun vs => M.waits vs n fun z => K (.int .i64 z) (H.put a.block (some (pob vs)))
  | _, _, _ => False
end
theorem call0 {f : FuncId} {args : List Value} {vs : List Value} {K : RK} (h : Is (wpe Try.prog (real Try.prog) W0 300 (.call f args (hp vs)) (retQ 100 K))) :
    ∃ v objs, K v objs ∧ ∀ B, CallH Try.prog 100 B f args (hp vs) (.returned v) (hOf 100 [] objs) := call_ok okp kn_none lp_none h.out
theorem send_call {ps : Ps} {vs : List Value} {n : Int} {s : ByteArray} (h : PR ps vs) : ∃ vs', PR (sendP ps n s).2 vs' ∧ ∀ B, CallH Try.prog 100 B 12 (.pointer (some ⟨100, 0, none⟩) :: [.int .i64 n, .string s]) (hp vs) (.returned (.int .i64 (sendP ps n s).1)) (hOf 100 [] [some (pob vs')]) := by
  have h0 : Is (gSend (real Try.prog) vs n s (fun v objs => ∃ vs', PR (sendP ps n s).2 vs' ∧ v = .int .i64 (sendP ps n s).1 ∧ objs = [some (pob vs')])) := send_ok (ps := ps) (vs := vs) (n := n) (s := s) (K := fun v objs => ∃ vs', PR (sendP ps n s).2 vs' ∧ v = .int .i64 (sendP ps n s).1 ∧ objs = [some (pob vs')]) h (fun vs' h => ⟨vs', h, rfl, rfl⟩)
  obtain ⟨v, objs, ⟨vs', h1, h2, h3⟩, h4⟩ := call0 (f := 12) (args := .pointer (some ⟨100, 0, none⟩) :: [.int .i64 n, .string s]) h0
  subst h2; subst h3
  exact ⟨vs', h1, h4⟩
theorem take_call {ps : Ps} {vs : List Value} {n : Int} (h : PR ps vs) : ∃ vs', PR (takeP ps n).2 vs' ∧ ∀ B, CallH Try.prog 100 B 13 (.pointer (some ⟨100, 0, none⟩) :: [.int .i64 n]) (hp vs) (.returned (.tuple #[.string (takeP ps n).1.1, .bool (takeP ps n).1.2])) (hOf 100 [] [some (pob vs')]) := by
  have h0 : Is (gTake (real Try.prog) vs n (fun v objs => ∃ vs', PR (takeP ps n).2 vs' ∧ v = .tuple #[.string (takeP ps n).1.1, .bool (takeP ps n).1.2] ∧ objs = [some (pob vs')])) := take_ok (ps := ps) (vs := vs) (n := n) (K := fun v objs => ∃ vs', PR (takeP ps n).2 vs' ∧ v = .tuple #[.string (takeP ps n).1.1, .bool (takeP ps n).1.2] ∧ objs = [some (pob vs')]) h (fun vs' h => ⟨vs', h, rfl, rfl⟩)
  obtain ⟨v, objs, ⟨vs', h1, h2, h3⟩, h4⟩ := call0 (f := 13) (args := .pointer (some ⟨100, 0, none⟩) :: [.int .i64 n]) h0
  subst h2; subst h3
  exact ⟨vs', h1, h4⟩
theorem up_call {ps : Ps} {vs : List Value} {n : Int} (h : PR ps vs) : ∃ vs', PR (upP ps n).2 vs' ∧ ∀ B, CallH Try.prog 100 B 14 (.pointer (some ⟨100, 0, none⟩) :: [.int .i64 n]) (hp vs) (.returned (.int .i64 (upP ps n).1)) (hOf 100 [] [some (pob vs')]) := by
  have h0 : Is (gUp (real Try.prog) vs n (fun v objs => ∃ vs', PR (upP ps n).2 vs' ∧ v = .int .i64 (upP ps n).1 ∧ objs = [some (pob vs')])) := up_ok (ps := ps) (vs := vs) (n := n) (K := fun v objs => ∃ vs', PR (upP ps n).2 vs' ∧ v = .int .i64 (upP ps n).1 ∧ objs = [some (pob vs')]) h (fun vs' h => ⟨vs', h, rfl, rfl⟩)
  obtain ⟨v, objs, ⟨vs', h1, h2, h3⟩, h4⟩ := call0 (f := 14) (args := .pointer (some ⟨100, 0, none⟩) :: [.int .i64 n]) h0
  subst h2; subst h3
  exact ⟨vs', h1, h4⟩
theorem down_call {ps : Ps} {vs : List Value} {n : Int} (h : PR ps vs) : ∃ vs', PR (downP ps n).2 vs' ∧ ∀ B, CallH Try.prog 100 B 15 (.pointer (some ⟨100, 0, none⟩) :: [.int .i64 n]) (hp vs) (.returned (.tuple #[.int .i64 (downP ps n).1.1, .int .i64 (downP ps n).1.2])) (hOf 100 [] [some (pob vs')]) := by
  have h0 : Is (gDown (real Try.prog) vs n (fun v objs => ∃ vs', PR (downP ps n).2 vs' ∧ v = .tuple #[.int .i64 (downP ps n).1.1, .int .i64 (downP ps n).1.2] ∧ objs = [some (pob vs')])) := down_ok (ps := ps) (vs := vs) (n := n) (K := fun v objs => ∃ vs', PR (downP ps n).2 vs' ∧ v = .tuple #[.int .i64 (downP ps n).1.1, .int .i64 (downP ps n).1.2] ∧ objs = [some (pob vs')]) h (fun vs' h => ⟨vs', h, rfl, rfl⟩)
  obtain ⟨v, objs, ⟨vs', h1, h2, h3⟩, h4⟩ := call0 (f := 15) (args := .pointer (some ⟨100, 0, none⟩) :: [.int .i64 n]) h0
  subst h2; subst h3
  exact ⟨vs', h1, h4⟩
theorem isUp_call {ps : Ps} {vs : List Value} {n : Int} (h : PR ps vs) : ∀ B, CallH Try.prog 100 B 20 [.pointer (some ⟨100, 0, none⟩), .int .i64 n] (hp vs) (.returned (.bool (isUpP ps n))) (hOf 100 [] [some (pob vs)]) := by
  have h0 : Is (gIsUp (real Try.prog) vs n (fun v objs => v = .bool (isUpP ps n) ∧ objs = [some (pob vs)])) := isUp_ok (K := fun v objs => v = .bool (isUpP ps n) ∧ objs = [some (pob vs)]) h ⟨rfl, rfl⟩
  obtain ⟨v, objs, ⟨h2, h3⟩, h4⟩ := call0 (f := 20) (args := [.pointer (some ⟨100, 0, none⟩), .int .i64 n]) h0
  subst h2; subst h3
  exact h4
theorem waits_call {ps : Ps} {vs : List Value} {n : Int} (h : PR ps vs) : ∀ B, CallH Try.prog 100 B 18 [.pointer (some ⟨100, 0, none⟩), .int .i64 n] (hp vs) (.returned (.int .i64 (listP ps n).length)) (hOf 100 [] [some (pob vs)]) := by
  have h0 : Is (gWaits (real Try.prog) vs n (fun v objs => v = .int .i64 (listP ps n).length ∧ objs = [some (pob vs)])) := waits_ok (K := fun v objs => v = .int .i64 (listP ps n).length ∧ objs = [some (pob vs)]) h ⟨rfl, rfl⟩
  obtain ⟨v, objs, ⟨h2, h3⟩, h4⟩ := call0 (f := 18) (args := [.pointer (some ⟨100, 0, none⟩), .int .i64 n]) h0
  subst h2; subst h3
  exact h4
theorem sum_send : SumOk Try.prog 100 12 (sSend realP) := by
  intro args H K h
  unfold sSend at h
  split at h
  · obtain ⟨vs, hat, ps, hps, hk⟩ := opt_elim h
    obtain ⟨vs', h1, h4⟩ := send_call hps
    exact ⟨_, _, fun B => port_call h4 hps.plain h1.plain rfl rfl hat B, hk vs' h1⟩
  · exact h.elim
theorem sum_up : SumOk Try.prog 100 14 (sUp realP) := by
  intro args H K h
  unfold sUp at h
  split at h
  · obtain ⟨vs, hat, ps, hps, hk⟩ := opt_elim h
    obtain ⟨vs', h1, h4⟩ := up_call hps
    exact ⟨_, _, fun B => port_call h4 hps.plain h1.plain rfl rfl hat B, hk vs' h1⟩
  · exact h.elim
theorem sum_down : SumOk Try.prog 100 15 (sDown realP) := by
  intro args H K h
  unfold sDown at h
  split at h
  · obtain ⟨vs, hat, ps, hps, hk⟩ := opt_elim h
    obtain ⟨vs', h1, h4⟩ := down_call hps
    exact ⟨_, _, fun B => port_call h4 hps.plain h1.plain rfl rfl hat B, hk vs' h1⟩
  · exact h.elim
theorem take_cases (ps : Ps) (n : Int) : (takeP ps n).1.2 = true ∨ (takeP ps n).1 = (bytesOf [], false) := by
  unfold takeP atPort takeF
  split
  · split
    · exact .inr rfl
    · exact .inl rfl
  · exact .inr rfl
theorem sum_take : SumOk Try.prog 100 13 (sTake realP) := by
  intro args H K h
  unfold sTake at h
  split at h
  · rename_i a n
    obtain ⟨vs, hat, ps, hps, hk⟩ := opt_elim h
    obtain ⟨vs', h1, h4⟩ := take_call (n := n) hps
    obtain ⟨k1, k2⟩ := hk vs' h1
    refine ⟨_, _, fun B => port_call h4 hps.plain h1.plain rfl rfl hat B, ?_⟩
    rcases take_cases ps n with hb | hb
    · rw [hb]; exact k1 hb
    · rw [hb]; exact k2 hb
  · exact h.elim
theorem sum_isUp : SumOk Try.prog 100 20 (sIsUp realP) := by
  intro args H K h
  unfold sIsUp at h
  split at h
  · rename_i a n
    obtain ⟨vs, hat, ps, hps, hk1, hk2⟩ := opt_elim h
    refine ⟨_, _, fun B => port_call (isUp_call (n := n) hps) hps.plain hps.plain rfl rfl hat B, ?_⟩
    cases hu : isUpP ps n
    · exact hk2 hu
    · exact hk1 hu
  · exact h.elim
theorem sum_waits : SumOk Try.prog 100 18 (sWaits realP) := by
  intro args H K h
  unfold sWaits at h
  split at h
  · obtain ⟨vs, hat, ps, hps, hk⟩ := opt_elim h
    exact ⟨_, _, fun B => port_call (waits_call hps) hps.plain hps.plain rfl rfl hat B, hk⟩
  · exact h.elim
end
end Go.Proofs.Ytknplaghilagfaa.Po
