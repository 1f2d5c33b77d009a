/- What the evaluator with nodes says is so. -/
import Derived.Test.YtblbaohcelldpaaD2
namespace Go.Abs
open Go
noncomputable section
set_option linter.unusedVariables false
section
variable {P : Program}

theorem objsOf_go_get (h : Heap) : ∀ (n k i : Nat), (objsOf.go h n k)[i]? = if i < n then some (h.get (k + i)) else none
  | 0, k, i => by simp [objsOf.go]
  | n + 1, k, 0 => by simp [objsOf.go]
  | n + 1, k, i + 1 => by
    simp only [objsOf.go, List.getElem?_cons_succ, objsOf_go_get h n (k + 1) i]
    by_cases c : i < n
    · rw [if_pos c, if_pos (by omega)]; congr 2; omega
    · rw [if_neg c, if_neg (by omega)]
theorem objsOf_get (G : Nat) (h : Heap) (i : Nat) : (objsOf G h)[i]? = if G + i < h.next then some (h.get (G + i)) else none := by
  unfold objsOf
  rw [objsOf_go_get]
  by_cases c : i < h.next - G
  · rw [if_pos c, if_pos (by omega)]
  · rw [if_neg c, if_neg (by omega)]
theorem pureSem_bind {α β : Type} (P : Program) : ∀ (s : Sem α) (f : α → Sem β), pureSem P (s >>= f) = (pureSem P s).bind fun a => pureSem P (f a)
  | .pure a, f => rfl
  | .program k, f => pureSem_bind P (k P) f
  | .mark m k, f => pureSem_bind P k f
  | .load .., f => rfl
  | .store .., f => rfl
  | .new .., f => rfl
  | .shape .., f => rfl
  | .freeze .., f => rfl
  | .frozen .., f => rfl
  | .getObj .., f => rfl
  | .setObj .., f => rfl
  | .choose .., f => rfl
  | .sys .., f => rfl
  | .halt .., f => rfl
theorem pureSem_underlying {t : TypeId} {d : TypeDesc} (hu : P.underlying t = some d) : pureSem P (underlying t) = some d := by
  simp [underlying, program, pureSem_bind, pureSem, hu]
  rfl
theorem pureSem_guard {op : BinOp} {t : TypeId} {x y : Operand} {a b : Bool} : pureSem P (eqGuard op t x y (.bool a) (.bool b)) = some () := by
  unfold eqGuard
  split <;> rfl
theorem pureSem_equal {t : TypeId} {a b : Bool} (hu : P.underlying t = some .bool) (n : Nat) : pureSem P (Op.equalIn (n + 1) t (.bool a) (.bool b)) = some (a == b) := by
  simp only [Op.equalIn, pureSem_bind, pureSem_underlying hu]
  rfl
theorem opt_elim {α : Type} {o : Option α} {K : α → Prop} (h : opt o K) : ∃ a, o = some a ∧ K a := by
  cases o with
  | none => exact h.elim
  | some a => exact ⟨a, rfl, h⟩
theorem wInt_ok {op : BinOp} {k k' : IntKind} {a b : Int} {K : Value → Prop} (h : wInt (real P) op k a k' b K) : ∃ v, intBin op k a k' b = some v ∧ K v := by
  unfold wInt at h
  split at h <;> first
    | (obtain ⟨t, h1, h2, h3⟩ := h
       cases t
       · exact ⟨_, h1, h3 rfl⟩
       · exact ⟨_, h1, h2 rfl⟩)
    | (obtain ⟨z, h1, h2⟩ := h; exact ⟨_, h1, h2⟩)
theorem wStr_ok {op : BinOp} {a b : ByteArray} {K : Value → Prop} (h : wStr (real P) op a b K) : ∃ v, strBin op a b = some v ∧ K v := by
  unfold wStr at h
  split at h <;> first
    | (obtain ⟨t, h1, h2, h3⟩ := h
       cases t
       · exact ⟨_, h1, h3 rfl⟩
       · exact ⟨_, h1, h2 rfl⟩)
    | (obtain ⟨z, h1, h2⟩ := h; exact ⟨_, h1, h2⟩)
theorem wBin_ok {W : Bool} {op : BinOp} {t : TypeId} {x y : Operand} {a b : Value} {H : Heap} {K : VK} (h : wBin P (real P) W op t x y a b H K) : ∃ v, aBin P H op t x y a b = some v ∧ K v H := by
  unfold wBin at h
  split at h
  · exact wInt_ok h
  · exact wStr_ok h
  · rename_i a b
    split at h
    · split at h
      · rename_i hu
        rcases h with ⟨e, h1, h2⟩ | ⟨e, h1, h2⟩ <;> subst e
        · refine ⟨.bool (a == b), ?_, ?_⟩
          · have e : pureSem P (do eqGuard .eql t x y (.bool a) (.bool b); binOp .eql t (.bool a) (.bool b)) = some (.bool (a == b)) := by
              rw [pureSem_bind, pureSem_guard, Option.bind_some, show binOp .eql t (.bool a) (.bool b) = (do pure (.bool ((← Op.equalIn (9999 + 1) t (.bool a) (.bool b))))) from rfl, pureSem_bind, pureSem_equal hu]
              rfl
            simp only [aBin, plain, Bool.and_self, pureVal, e]
          · cases hc : (a == b)
            · exact h2 hc
            · exact h1 hc
        · refine ⟨.bool (!(a == b)), ?_, ?_⟩
          · have e : pureSem P (do eqGuard .neq t x y (.bool a) (.bool b); binOp .neq t (.bool a) (.bool b)) = some (.bool (!(a == b))) := by
              rw [pureSem_bind, pureSem_guard, Option.bind_some, show binOp .neq t (.bool a) (.bool b) = (do pure (.bool (!(← Op.equalIn (9999 + 1) t (.bool a) (.bool b))))) from rfl, pureSem_bind, pureSem_equal hu]
              rfl
            simp only [aBin, plain, Bool.and_self, pureVal, e]
          · cases hc : (a == b)
            · exact h1 hc
            · exact h2 hc
      · exact h.elim
    · exact opt_elim h
  · obtain ⟨b, h1, h2, h3⟩ := h
    cases b
    · exact ⟨_, h1 H x y, h3 rfl⟩
    · exact ⟨_, h1 H x y, h2 rfl⟩
  · exact opt_elim h
theorem wRdCells_ok {vs : List Value} : ∀ (zs : List Value) (off : Nat) (acc : List Value) (K : List Value → Prop), wRdCells (real P) vs zs off acc K →
    ∃ l, l.length = zs.length ∧ (∀ i, i < zs.length → vs[off + i]? = l[i]?) ∧ K (acc.reverse ++ l)
  | [], off, acc, K, h => ⟨[], rfl, fun i hi => by simp at hi, by simpa [wRdCells] using h⟩
  | z :: zs, off, acc, K, h => by
    have next : ∀ v, vs[off]? = some v → wRdCells (real P) vs zs (off + 1) (v :: acc) K → ∃ l, l.length = (z :: zs).length ∧ (∀ i, i < (z :: zs).length → vs[off + i]? = l[i]?) ∧ K (acc.reverse ++ l) := by
      intro v hv hr
      obtain ⟨l, h1, h2, h3⟩ := wRdCells_ok zs _ _ _ hr
      refine ⟨v :: l, by simp [h1], fun i hi => ?_, by simpa using h3⟩
      cases i with
      | zero => simpa using hv
      | succ i =>
        have := h2 i (by simpa using hi)
        rw [List.getElem?_cons_succ, ← this]; congr 1; omega
    unfold wRdCells at h
    split at h
    · obtain ⟨z, h1, h2⟩ := h; exact next _ h1 h2
    · obtain ⟨t, h1, h2, h3⟩ := h
      cases t
      · exact next _ h1 (h3 rfl)
      · exact next _ h1 (h2 rfl)
    · obtain ⟨z, h1, h2⟩ := h; exact next _ h1 h2
    · exact h.elim
theorem wRd_ok {t : TypeId} {vs : List Value} {off : Nat} {K : Value → Prop} (h : wRd P (real P) t vs off K) :
    ∃ d v, P.underlying t = some d ∧ K v ∧ ((isAggD d = false ∧ vs[off]? = some v) ∨ (isAggD d = true ∧ ∃ n, aSize P t = some n ∧ off + n ≤ vs.length ∧ n ≠ 0 ∧ v = .agg ((vs.drop off).take n).toArray)) := by
  unfold wRd at h
  split at h
  · rename_i k hu; obtain ⟨z, h1, h2⟩ := h; exact ⟨_, _, hu, h2, .inl ⟨rfl, h1⟩⟩
  · rename_i hu; obtain ⟨t, h1, h2, h3⟩ := h
    cases t
    · exact ⟨_, _, hu, h3 rfl, .inl ⟨rfl, h1⟩⟩
    · exact ⟨_, _, hu, h2 rfl, .inl ⟨rfl, h1⟩⟩
  · rename_i hu; obtain ⟨z, h1, h2⟩ := h; exact ⟨_, _, hu, h2, .inl ⟨rfl, h1⟩⟩
  · rename_i hu
    obtain ⟨n, hn, h⟩ := opt_elim h
    split at h
    · split at h
      · rename_i m z hz _
        split at h
        · rename_i hzl
          have hzl := Nat.eq_of_beq_eq_true hzl
          obtain ⟨l, h1, h2, h3⟩ := wRdCells_ok _ _ _ _ h
          simp only [List.reverse_nil, List.nil_append] at h3
          have hlast := h2 m (by omega)
          have hlen : off + m < vs.length := by
            rcases Nat.lt_or_ge (off + m) vs.length with c | c
            · exact c
            · rw [List.getElem?_eq_none c] at hlast
              have : m < l.length := by omega
              rw [List.getElem?_eq_getElem this] at hlast; cases hlast
          have hl : l = (vs.drop off).take (m + 1) := by
            apply List.ext_getElem?
            intro i
            rw [List.getElem?_take]
            split
            · rw [List.getElem?_drop, h2 i (by omega)]
            · rw [List.getElem?_eq_none (by omega)]
          exact ⟨_, _, hu, h3, .inr ⟨rfl, m + 1, hn, by omega, by omega, by rw [← hl]⟩⟩
        · exact h.elim
      · exact h.elim
    · obtain ⟨l, h1, h0, h2, h3⟩ := h; subst h2; exact ⟨_, _, hu, h3, .inr ⟨rfl, n, hn, h1, h0, rfl⟩⟩
  · rename_i hu; obtain ⟨n, hn, l, h1, h0, h2, h3⟩ := opt_elim h; subst h2; exact ⟨_, _, hu, h3, .inr ⟨rfl, n, hn, h1, h0, rfl⟩⟩
  · exact h.elim
theorem wLoad_ok {sy : Nat → Bool} {t : TypeId} {ad : Addr} {H : Heap} {K : VK} (h : wLoad P (real P) sy t ad H K) : ∃ v, aLoad P H t ad = some v ∧ K v H := by
  unfold wLoad at h
  split at h
  · split at h
    · rename_i vs e z lo ow hs hg
      obtain ⟨d, v, hu, hk, hv⟩ := wRd_ok h
      refine ⟨v, ?_, hk⟩
      unfold aLoad
      rw [hu]
      rcases hv with ⟨h1, h2⟩ | ⟨h1, n, h2, h3, h0, h4⟩
      · simp only [h1, aCell1, hs, hg, h2]
      · simp only [h1, h2]
        have : aCells H ad n = some ((vs.drop ad.off).take n) := by
          cases n with
          | zero => exact absurd rfl h0
          | succ n => simp only [aCells, hs, hg, show Nat.ble (ad.off + (n + 1)) vs.length = true from Nat.ble_eq_true_of_le h3]
        rw [this, h4]
    · exact h.elim
  · exact opt_elim h
theorem wStore_ok {sy : Nat → Bool} {t : TypeId} {ad : Addr} {x : Value} {H : Heap} {K : VK} (h : wStore P (real P) sy t ad x H K) : ∃ H', aStore P H t ad x = some H' ∧ K undef H' := by
  unfold wStore at h
  split at h
  · split at h
    · rename_i vs e z lo n hs hg hn
      obtain ⟨vs', h1, h2, h3, h4, h5⟩ := h
      subst h4
      refine ⟨_, ?_, h5⟩
      simp only [aStore, hs, hg, hn]
      have e1 : Nat.beq x.cells.toList.length n = true := by rw [h1]; simp
      rw [e1, h2, show Nat.ble (ad.off + n) vs.length = true from Nat.ble_eq_true_of_le h3]
      rfl
    · exact h.elim
  · exact opt_elim h
theorem Addr.add_none (b o n : Nat) : Addr.add ⟨b, o, none⟩ n = ⟨b, o + n, none⟩ := by
  unfold Addr.add; split
  · rename_i h; subst h; rfl
  · rfl
theorem wIdx_ok {W : Bool} {sy : Nat → Bool} {t : TypeId} {x ix : Value} {H : Heap} {K : VK} (h : wIdx P (real P) W sy t x ix H K) : plain ix = true ∧ ∃ v, aIndexAddr P t x ix = some v ∧ K v H := by
  unfold wIdx at h
  split at h
  · exact h.elim
  · rename_i k i _ _
    refine ⟨rfl, ?_⟩
    split at h
    · rename_i len elem ad hu
      split at h
      · rename_i n hy hs hn
        obtain ⟨j, h1, h2, h3⟩ := h
        obtain ⟨b, o, sp⟩ := ad
        simp only at hs; subst hs; subst h1
        refine ⟨_, ?_, h3⟩
        simp only [aIndexAddr, hu, hn]
        rw [show (decide (0 ≤ (j : Int)) && Nat.blt (j : Int).toNat len) = true by simp; exact h2]
        simp only [Int.toNat_natCast, Addr.add_none]
      · exact opt_elim h
    · rename_i elem ad len cap hu
      split at h
      · rename_i n hy hs hn
        obtain ⟨j, h1, h2, h3⟩ := h
        obtain ⟨b, o, sp⟩ := ad
        simp only at hs; subst hs; subst h1
        refine ⟨_, ?_, h3⟩
        simp only [aIndexAddr, hu, hn]
        rw [show (decide (0 ≤ (j : Int)) && Nat.blt (j : Int).toNat len) = true by simp; exact h2]
        simp only [Int.toNat_natCast, Addr.add_none]
      · exact opt_elim h
    · exact h.elim
  · exact h.elim
theorem wFld_ok {sy : Nat → Bool} {s : TypeId} {x : Value} {f : Nat} {H : Heap} {K : VK} (h : wFld P sy s x f H K) : ∃ v, aFieldAddr P s x f = some v ∧ K v H := by
  unfold wFld at h
  split at h
  · rename_i ad
    split at h
    · split at h
      · rename_i fields hs hu
        split at h
        · rename_i fd hf
          split at h
          · rename_i n hn
            obtain ⟨b, o, sp⟩ := ad
            simp only at hs; subst hs
            refine ⟨_, ?_, h⟩
            simp only [aFieldAddr, hu, hf, hn, Addr.add_none]
          · exact h.elim
        · exact h.elim
      · exact h.elim
    · exact opt_elim h
  · exact h.elim
theorem wPart_ok {t : TypeId} {x : Value} {f : Nat} {H : Heap} {K : VK} (h : wPart P t x f H K) : ∃ v, aField P t x f = some v ∧ K v H := opt_elim h
theorem wAt_ok {t : TypeId} {x ix : Value} {H : Heap} {K : VK} (hp : plain ix = true) (h : wAt P (real P) t x ix H K) : ∃ v, aIndex P t x ix = some v ∧ K v H := by
  unfold wAt at h
  split at h
  · rename_i s k i hu
    obtain ⟨j, b, h1, h2, h3⟩ := h
    subst h1
    refine ⟨_, ?_, h3⟩
    simp only [aIndex, hu]
    rw [show decide (0 ≤ (j : Int)) = true by simp]
    simp only [Int.toNat_natCast, h2]
  · exact opt_elim h
theorem wConv_ok {src dst : TypeId} {x : Value} {H : Heap} {K : VK} (h : wConv P (real P) src dst x H K) : ∃ v H', aConvert P H src dst x = some (v, H') ∧ K v H' := by
  unfold wConv at h
  split at h
  · obtain ⟨z, h1, h2⟩ := h; exact ⟨_, _, h1 H, h2⟩
  · obtain ⟨⟨v, h'⟩, h1, h2⟩ := opt_elim h; exact ⟨_, _, h1, h2⟩
theorem wApp_ok {W : Bool} {sy : Nat → Bool} {argTypes : Array TypeId} {args : List Value} {H : Heap} {K : VK} (h : wApp P (real P) W sy argTypes args H K) : ∃ v H', aAppend P H argTypes args = some (v, H') ∧ K v H' := by
  have hopt : (opt (aAppend P H argTypes args) fun (v, h) => K v h) → ∃ v H', aAppend P H argTypes args = some (v, H') ∧ K v H' := fun h => by
    obtain ⟨⟨v, h'⟩, h1, h2⟩ := opt_elim h; exact ⟨_, _, h1, h2⟩
  unfold wApp at h
  split at h
  · rename_i a len cap x
    split at h
    · exact h.elim
    split at h
    · split at h
      · rename_i sType xType hats
        split at h
        · rename_i elem dx hu1 hu2
          split at h
          · rename_i i hni hi
            split at h
            · rename_i n xs z vs e2 sz hx hz hsp hg
              split at h
              · rename_i hc
                simp only [Bool.and_eq_true] at hc
                obtain ⟨⟨⟨c1, c2⟩, c3⟩, c4⟩ := hc
                have c3' := Nat.eq_of_beq_eq_true c3
                obtain ⟨vs', len', h0, h1, h2, h3, h4, h5, h6, h7, h8, h8', h9, h10, h11⟩ := h
                subst h9; subst h10
                refine ⟨_, _, ?_, h11⟩
                simp only [aAppend, hats, hu1, hu2, hni, hi, hx, hz]
                have e1 : Nat.beq xs.length (n * i.size) = true := by rw [h1]; simp
                rw [c1, c2, e1, h2]
                simp only [Bool.and_self]
                have e2' : Nat.ble (len + n) cap = false := by
                  cases hb : Nat.ble (len + n) cap
                  · rfl
                  · have := Nat.le_of_ble_eq_true hb; omega
                simp only [e2']
                rw [show (Nat.ble ((2 * (len + n) + 192) * i.bytes) tops && Nat.ble (len + n) 1099511627776 && Nat.ble len cap) = true by
                  rw [Nat.ble_eq_true_of_le h4, Nat.ble_eq_true_of_le h5, Nat.ble_eq_true_of_le h6]; rfl]
                have hcells : aCells H a (len * i.size) = some ((vs.drop a.off).take (len * i.size)) := by
                  have hle : a.off + len * i.size ≤ vs.length := by
                    have := Nat.mul_le_mul_right i.size h6; omega
                  obtain ⟨m, hm⟩ : ∃ m, len * i.size = m + 1 := ⟨len * i.size - 1, by have := Nat.mul_pos (Nat.pos_of_ne_zero h8) (Nat.pos_of_ne_zero h8'); omega⟩
                  rw [hm] at hle ⊢
                  simp only [aCells, hsp, hg, Nat.ble_eq_true_of_le hle]
                simp only [hsp, hg, hcells]
                rw [show (true && Nat.beq sz i.size && Nat.beq (a.off + cap * i.size) vs.length && Nat.beq e2 elem) = true by
                  rw [c3, c4, h7]; simp]
                rfl
              · exact h.elim
            · exact h.elim
          · exact h.elim
        · exact h.elim
      · exact h.elim
    · exact hopt h
  · exact hopt h
theorem wAppU_ok {argTypes : Array TypeId} {args : List Value} {H : Heap} {K : VK} (h : wAppU P (real P) argTypes args H K) : ∃ v H' n o', aAppend P H argTypes args = some (v, H') ∧ K (.slice (some ⟨H.next, 0, none⟩) n n) (H.pushO o') ∧
    ((v = .slice (some ⟨H.next, 0, none⟩) n n ∧ H' = H.pushO o') ∨ (o' = none ∧ n = 0 ∧ H' = H ∧ ∃ b, v = .slice (some ⟨b, 0, none⟩) 0 0)) := by
  unfold wAppU at h
  split at h
  · rename_i a len cap x
    split at h
    · rename_i sType xType e0 sz0 ow0 hats hsp hoff hg
      split at h
      · rename_i elem e' hu1 hu2
        split at h
        · rename_i i hi
          split at h
          · rename_i z hz
            split at h
            · rename_i hc
              have hni : notInt (.slice e') = true := rfl
              rcases h with ⟨oa, c, hx, hZ⟩ | ⟨b, o, n, c, vs, e, sz, lo, ow, hx, hn0, hs0, hb, hobj, hlen, hcell, hbd1, hbd2, hK⟩
              · subst hx
                refine ⟨.slice (some a) 0 0, H, 0, none, ?_, hZ, .inr ⟨rfl, rfl, rfl, a.block, ?_⟩⟩
                · have hxs : aCellsOf H i.size (.slice oa 0 c) = some (0, []) := by
                    cases oa with
                    | none => rfl
                    | some a1 =>
                      have e1 : aCells H a1 (0 * i.size) = some [] := by rw [Nat.zero_mul]; rfl
                      simp only [aCellsOf, e1]
                  simp only [aAppend, hats, hu1, hu2, hni, hi, hxs, hz]
                  simp only [Bool.and_eq_true] at hc
                  rw [hc.1, hc.2]
                  simp only [List.length_nil, Nat.zero_mul, List.all_nil, Nat.add_zero]
                  rfl
                · obtain ⟨ab, ao, as⟩ := a
                  simp only at hsp hoff; subst hsp; subst hoff; rfl
              · subst hx
                refine ⟨_, _, n, _, ?_, hK, .inl ⟨rfl, rfl⟩⟩
                have hgb : H.get b = some (.cells vs e sz lo ow) := by
                  rw [objsOf_get] at hobj
                  split at hobj
                  · simp only [Option.some.injEq] at hobj
                    rw [← hobj]; congr 1; omega
                  · cases hobj
                obtain ⟨m, hm⟩ : ∃ m, n * i.size = m + 1 := ⟨n * i.size - 1, by have := Nat.mul_pos (Nat.pos_of_ne_zero hn0) (Nat.pos_of_ne_zero hs0); omega⟩
                have hcl : aCells H ⟨b, o, none⟩ (n * i.size) = some ((vs.drop o).take (n * i.size)) := by
                  rw [hm] at hlen ⊢
                  simp only [aCells, hgb, Nat.ble_eq_true_of_le hlen]
                have hxs : aCellsOf H i.size (.slice (some ⟨b, o, none⟩) n c) = some (n, (vs.drop o).take (n * i.size)) := by
                  simp only [aCellsOf, hcl]
                simp only [aAppend, hats, hu1, hu2, hni, hi, hxs, hz]
                simp only [Bool.and_eq_true] at hc
                have hl : Nat.beq ((vs.drop o).take (n * i.size)).length (n * i.size) = true := by
                  rw [List.length_take, List.length_drop, Nat.min_eq_left (by omega)]; simp
                rw [hc.1, hc.2, hl, hcell]
                simp only [Bool.and_self]
                have e2 : Nat.ble (0 + n) 0 = false := by
                  cases hb : Nat.ble (0 + n) 0
                  · rfl
                  · have := Nat.le_of_ble_eq_true hb; omega
                simp only [e2]
                rw [show (Nat.ble ((2 * (0 + n) + 192) * i.bytes) tops && Nat.ble (0 + n) 1099511627776 && Nat.ble 0 0) = true by
                  rw [Nat.zero_add, Nat.ble_eq_true_of_le hbd1, Nat.ble_eq_true_of_le hbd2]; rfl]
                have e3 : aCells H a (0 * i.size) = some [] := by rw [Nat.zero_mul]; rfl
                simp only [hsp, hg, e3, aGrown, List.nil_append, Nat.zero_add]
                rfl
            · exact h.elim
          · exact h.elim
        · exact h.elim
      · exact h.elim
    · exact h.elim
  · exact h.elim
theorem wBuiltin_ok {W : Bool} {sy : Nat → Bool} {b : Builtin} {argTypes : Array TypeId} {T : TypeId} {args : List Value} {H : Heap} {K : VK} (h : wBuiltin P (real P) W sy b argTypes T args H K) :
    ∃ v H', aBuiltin P H b argTypes T args = some (v, H') ∧ K v H' := by
  have hopt : ∀ b, (opt (aBuiltin P H b argTypes T args) fun (v, h) => K v h) → ∃ v H', aBuiltin P H b argTypes T args = some (v, H') ∧ K v H' := fun b h => by
    obtain ⟨⟨v, h'⟩, h1, h2⟩ := opt_elim h; exact ⟨_, _, h1, h2⟩
  unfold wBuiltin at h
  split at h
  · exact wApp_ok h
  · split at h
    · rename_i s rest hu
      cases ht : argTypes[0]? with
      | none => rw [ht] at hu; simp at hu
      | some t =>
        rw [ht] at hu
        simp only [Option.bind_some] at hu
        refine ⟨_, _, ?_, h⟩
        simp only [aBuiltin, ht, aLen, hu, Option.map_some]
    · rename_i e x rest hu
      split at h
      · cases ht : argTypes[0]? with
        | none => rw [ht] at hu; simp at hu
        | some t =>
          rw [ht] at hu
          simp only [Option.bind_some] at hu
          obtain ⟨a, n, c, hx, hk⟩ := h
          subst hx
          refine ⟨_, _, ?_, hk⟩
          simp only [aBuiltin, ht, aLen, hu, Option.map_some]
      · exact hopt _ h
    · exact hopt _ h
  · split at h
    · rename_i k a k' b
      split at h
      · rename_i hk
        simp only [decide_eq_true_eq] at hk; subst hk
        obtain ⟨z, h1, h2⟩ := h; exact ⟨_, _, h1 H, h2⟩
      · exact h.elim
    · exact hopt _ h
  · split at h
    · rename_i k a k' b
      split at h
      · rename_i hk
        simp only [decide_eq_true_eq] at hk; subst hk
        obtain ⟨z, h1, h2⟩ := h; exact ⟨_, _, h1 H, h2⟩
      · exact h.elim
    · exact hopt _ h
  · exact hopt _ h
theorem wOp_ok {W : How} {o : Oper} {ρ : Operand → Value} {H : Heap} {K : VK} (h : wOp P (real P) W o ρ H K o.op) : ∃ v H', aOp P o ρ H = some (v, H') ∧ K v H' := by
  obtain ⟨dst, op, type, pos, after, guard⟩ := o
  simp only at h
  have hopt : ∀ o : Oper, (opt (aOp P o ρ H) fun (v, h) => K v h) → ∃ v H', aOp P o ρ H = some (v, H') ∧ K v H' := fun o h => by
    obtain ⟨⟨v, h'⟩, h1, h2⟩ := opt_elim h; exact ⟨_, _, h1, h2⟩
  unfold wOp at h
  split at h
  · rename_i op t x y yt
    obtain ⟨v, h1, h2⟩ := wBin_ok h
    exact ⟨v, H, by simp only [aOp, aOpK, h1, Option.map_some], h2⟩
  · rename_i t a
    split at h
    · rename_i ad e
      obtain ⟨v, h1, h2⟩ := wLoad_ok h
      exact ⟨v, H, by simp only [aOp, aOpK, e, h1, Option.map_some], h2⟩
    · exact h.elim
  · rename_i t a x
    split at h
    · rename_i ad e
      obtain ⟨H', h1, h2⟩ := wStore_ok h
      exact ⟨undef, H', by simp only [aOp, aOpK, e, h1, Option.map_some], h2⟩
    · exact h.elim
  · rename_i c a b
    split at h
    · rename_i t e
      cases t
      · exact ⟨_, H, by simp only [aOp, aOpK, e], h⟩
      · exact ⟨_, H, by simp only [aOp, aOpK, e], h⟩
    · exact h.elim
  · rename_i t x ix
    obtain ⟨hp, v, h1, h2⟩ := wIdx_ok h
    exact ⟨v, H, by simp only [aOp, aOpK, hp, h1, Option.map_some], h2⟩
  · rename_i s x f
    obtain ⟨v, h1, h2⟩ := wFld_ok h
    exact ⟨v, H, by simp only [aOp, aOpK, h1, Option.map_some], h2⟩
  · rename_i s x f
    obtain ⟨v, h1, h2⟩ := wPart_ok h
    exact ⟨v, H, by simp only [aOp, aOpK, h1, Option.map_some], h2⟩
  · rename_i t x ix
    have hp : plain (ρ ix) = true := by
      unfold wAt at h
      split at h
      · rename_i e; rw [e]; rfl
      · obtain ⟨v, h1, _⟩ := opt_elim h
        unfold aIndex at h1
        split at h1
        · rename_i e; rw [e]; rfl
        · cases h1
    obtain ⟨v, h1, h2⟩ := wAt_ok hp h
    exact ⟨v, H, by simp only [aOp, aOpK, hp, h1, Option.map_some], h2⟩
  · rename_i src d x
    obtain ⟨v, H', h1, h2⟩ := wConv_ok h
    exact ⟨v, H', by simp only [aOp, aOpK, h1], h2⟩
  · rename_i b args ats
    obtain ⟨v, H', h1, h2⟩ := wBuiltin_ok h
    exact ⟨v, H', by simp only [aOp, aOpK, h1], h2⟩
  · exact hopt _ h
end
end
end Go.Abs
