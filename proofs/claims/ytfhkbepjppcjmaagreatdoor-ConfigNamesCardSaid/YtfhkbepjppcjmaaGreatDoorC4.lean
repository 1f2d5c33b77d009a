/- Short words for values. -/
import Derived.Test.YtfhkbepjppcjmaaGreatDoorC3
namespace Go.Abs
open Go
noncomputable section
def vb (b : Bool) : Value := .bool b
def vu (n : Nat) : Value := .int .u8 n
def vi (n : Nat) : Value := .int .i64 n
def vm (n : Nat) : Value := .int .i64 (-n)
def vk (k : IntKind) (n : Int) : Value := .int k n
def vw (n : Nat) : Value := .int .u16 n
def vd (n : Nat) : Value := .int .u32 n
def vq (n : Nat) : Value := .int .u64 n
def vs (l : List Nat) : Value := .string ⟨(l.map UInt8.ofNat).toArray⟩
def vr (l : List (Nat × Nat)) : Value := .string ⟨(l.flatMap fun x => List.replicate x.1 (UInt8.ofNat x.2)).toArray⟩
def vp (b o : Nat) : Value := .pointer (some ⟨b, o, none⟩)
def vl (b o n c : Nat) : Value := .slice (some ⟨b, o, none⟩) n c
def vP : Value := .pointer none
def vL : Value := .slice none 0 0
def vM : Value := .map none
def vI (t : TypeId) (v : Value) : Value := .iface t v
def va (l : List Value) : Value := .agg l.toArray
def vt (l : List Value) : Value := .tuple l.toArray
def vf (f : FuncId) (x y : List Value) : Value := .func (.func f) x.toArray y.toArray
def us (l : List Nat) : List Value := l.map vu
def rp (n : Nat) (v : Value) : List Value := List.replicate n v
def ao (t sz : Nat) (l : List Value) : AObj := .cells l t sz false true
def re (v : Value) : Ending := .returned v
def pe (v : Value) : PanicEntry := { v := v, recovered := false }
end
end Go.Abs
namespace Go.Abs
open Go
noncomputable section
section
variable {P : Program} {G : Nat}
/-- A call that takes nothing, from any world in which these package variables hold what they are said to. -/
theorem closed_callG (hP : okProg P G = true) {orc : Orc} (horc : ∀ B, OrcOk P G B orc) {gl : List (Nat × AObj)} {f : FuncId} {n : Nat}
    (h : retTrue (ev P orc n (.call f [] (hOf G gl []))) = true) (w : World) (hgl : ∀ x ∈ gl, x.1 < G ∧ x.2.own = false ∧ objR (startN G) (allOf w) w x.1 x.2) :
    Calls P f #[] w fun e w' => e = .returned (.bool true) ∧ ∃ F H, Rel G F H (allOf w) w' := by
  have hget : ∀ m o, (hOf G gl []).get m = some o → m < G ∧ o.own = false ∧ objR (startN G) (allOf w) w m o := by
    intro m o hm
    rw [hOf_get, if_neg (by simp only [List.length_nil]; omega)] at hm
    exact hgl _ (glTr_mem _ _ _ hm)
  have hR : Rel G (startN G) (hOf G gl []) (allOf w) w := by
    constructor
    · intro n o hn; exact (hget n o hn).2.2
    · intro n m o o' hn hm hne ho; rw [(hget n o hn).2.1] at ho; cases ho
    · intro n hn
      have hn : G ≤ n := hn
      unfold startN; rw [if_neg (by omega)]
    · intro g hg; unfold startN; rw [if_pos hg]
    · exact Nat.le_refl _
    · intro i _; rfl
    · rfl
    · rfl
    · rfl
  unfold retTrue at h
  split at h
  · rename_i u H h2
    have := ev_ok_all hP horc n (allOf w) _ _ h2 (startN G) w #[] hR (by simp [VRL])
    refine this.mono fun e w' ⟨F, _, he, R⟩ => ?_
    simp only [EnR] at he
    obtain ⟨v', h1, h2⟩ := he
    simp only [VR] at h1
    subst h1
    exact ⟨h2, F, H, R⟩
  · cases h
/-- A package variable of plain data. -/
theorem objR_var {w : World} {g : Nat} (hg : g < G) {c : Array Value} {t : TypeId} {fz : Nat × Nat} (h : w.heap[g]? = some (.cells c t fz)) {vs : List Value} {elem sz : Nat}
    (hv : VRL (startN G) vs (c.toList.take vs.length)) (hl : vs.length ≤ c.size) : objR (startN G) (allOf w) w g (.cells vs elem sz true false) :=
  ⟨g, 0, 0, c, fz, by unfold startN; rw [if_pos hg], ⟨t, h, fun h => by cases h⟩, by simpa using hv, by omega, fun h => (by cases h), fun h => (by cases h)⟩
end
end
end Go.Abs
