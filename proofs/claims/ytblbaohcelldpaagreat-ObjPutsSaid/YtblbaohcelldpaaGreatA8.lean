/- Converting, copying, comparing; all operations that run no code in one function. -/
import Derived.Test.YtblbaohcelldpaaGreatA7
namespace Go.Abs
open Go
set_option linter.unusedVariables false
noncomputable section
section
variable {P : Program} {G : Nat} {F : Nm} {H : Heap} {w0 : Base} {w : World}
def allU8 : List Value → Bool
  | [] => true
  | .int .u8 _ :: r => allU8 r
  | _ :: _ => false
def byteV : Value → UInt8
  | .int _ n => UInt8.ofNat n.toNat
  | _ => 0
def toBytes (l : List Value) : Option (List UInt8) := match allU8 l with
  | true => some (l.map byteV)
  | false => none
theorem toBytes_ok : ∀ (l l' : List Value) (bs : List UInt8), VRL F l l' → toBytes l = some bs → ∃ ns : List Int, l' = ns.map (Value.int .u8) ∧ bs = ns.map fun n => UInt8.ofNat n.toNat := by
  intro l l' bs h hb
  unfold toBytes at hb
  split at hb
  · rename_i hall
    simp only [Option.some.injEq] at hb; subst hb
    induction l generalizing l' with
    | nil => simp only [VRL] at h; subst h; exact ⟨[], rfl, rfl⟩
    | cons v l ih =>
      simp only [VRL] at h; obtain ⟨v', r', h1, h2, e⟩ := h; subst e
      unfold allU8 at hall
      split at hall
      · rename_i e; cases e
      · rename_i n r e
        simp only [List.cons.injEq] at e; obtain ⟨e1, e2⟩ := e; subst e1; subst e2
        obtain ⟨ns, g1, g2⟩ := ih _ h2 hall
        simp only [VR] at h1; subst h1; subst g1
        exact ⟨n :: ns, rfl, by rw [List.map_cons, g2]; rfl⟩
      · cases hall
  · cases hb
theorem foldl_push (ns : List Int) (b : ByteArray) : (ns.foldl (fun r n => r.push (UInt8.ofNat n.toNat)) b) = bytesOf (b.data.toList ++ ns.map fun n => UInt8.ofNat n.toNat) := by
  induction ns generalizing b with
  | nil => apply ByteArray.ext; simp [bytesOf]
  | cons n ns ih =>
    simp only [List.foldl_cons, ih]
    apply ByteArray.ext
    simp [bytesOf, ByteArray.push]
def pureVal (P : Program) (s : Sem Value) : Option Value :=
  match pureSem P s with
  | some v => match plain v with
    | true => some v
    | false => none
  | none => none
theorem pureVal_ok {s : Sem Value} {v : Value} (h : pureVal P s = some v) (w : World) : s.run P w = .ok v w ∧ VR F v v := by
  unfold pureVal at h
  split at h
  · rename_i v2 h2
    split at h
    · rename_i hp
      simp only [Option.some.injEq] at h; subst h
      exact ⟨pureSem_run P s _ h2 w, (VR.plain_eq _ _ hp).2 rfl⟩
    · cases h
  · cases h
theorem push_modify (h : Array Obj) (o : Obj) (f : Obj → Obj) : (h.push o).modify h.size f = h.push (f o) := by
  apply Array.ext_getElem?
  intro i
  simp only [Array.getElem?_modify, Array.getElem?_push]
  by_cases hi : i = h.size
  · subst hi; simp
  · rw [if_neg (by omega), if_neg hi, if_neg hi]
theorem stringToBytes_run (e : TypeId) (s : ByteArray) (w : World) : ∃ cap, s.size ≤ cap ∧ (Conv.stringToBytes e s).run P w = .ok (.slice (some ⟨w.heap.size, 0, none⟩) s.size cap)
    { w with drawn := w.drawn + 1, heap := w.heap.push (.cells (s.data.map (fun b : UInt8 => Value.int .u8 b.toNat) ++ Array.replicate (cap - s.size) (.int .u8 0)) e (cap, cap + 1)) } := by
  obtain ⟨cap, hcap, hrunc⟩ : ∃ cap, s.size ≤ cap ∧ (choose (.appendCap s.size 0 e)).run P w = .ok cap { w with drawn := w.drawn + 1 } := by
    refine ⟨(Question.appendCap s.size 0 e).cut (w.tape w.drawn (.appendCap s.size 0 e)), by simp only [Question.cut]; omega, ?_⟩
    rw [run_choose]; simp [Question.forced]
  refine ⟨cap, hcap, ?_⟩
  obtain ⟨C, hC⟩ : ∃ C, C = (s.data.map (fun b : UInt8 => Value.int .u8 b.toNat) ++ Array.replicate (cap - s.size) (Value.int .u8 0)) := ⟨_, rfl⟩
  have hsz : C.size = cap := by
    have : s.data.size = s.size := rfl
    rw [hC]; simp only [Array.size_append, Array.size_map, Array.size_replicate]; omega
  rw [← hC]
  simp only [Conv.stringToBytes, Sem.run_bind, hrunc, Result.andThen_ok]
  rw [← hC]
  simp only [newRow, Sem.run_bind, run_newObj, Sem.run_pure, Result.andThen_ok, markStringish, run_shape, World.shape?, Array.getElem?_push_size, run_freeze, World.freeze]
  simp [push_modify, hsz]
def isU8 : Option TypeDesc → Bool
  | some (.int .u8) => true
  | _ => false
def aConvert (P : Program) (H : Heap) (src dst : TypeId) (x : Value) : Option (Value × Heap) :=
  match P.underlying src, P.underlying dst, x with
  | some _, some (.slice e), .string s => match isU8 (P.underlying e) with
    | true => some (.slice (some ⟨H.next, 0, none⟩) s.data.toList.length s.data.toList.length, H.push (.cells (s.data.toList.map fun b => .int .u8 b.toNat) e 1 true true))
    | false => none
  | some (.slice e), some .string, .slice (some a) n _ => match isU8 (P.underlying e), aCells H a n with
    | true, some l => match toBytes l with
      | some bs => some (.string (bytesOf bs), H)
      | none => none
    | _, _ => none
  | some (.slice _), some (.slice _), _ => none
  | _, _, _ => match plain x with
    | true => match pureVal P (convert src dst x) with
      | some v => some (v, H)
      | none => none
    | false => none
theorem aConvert_ok (R : Rel G F H w0 w) {src dst : TypeId} {x x' : Value} (hx : VR F x x') {r : Value × Heap} (h : aConvert P H src dst x = some r) :
    OpOK P G F w0 w (convert src dst x') r.1 r.2 := by
  unfold aConvert at h
  split at h
  · rename_i ds e s hs hd
    split at h
    · rename_i he
      simp only [Option.some.injEq] at h; subst h
      simp only [VR] at hx; subst hx
      have he' : P.underlying e = some (.int .u8) := by
        unfold isU8 at he; split at he
        · assumption
        · cases he
      have hlen : s.data.toList.length = s.size := by cases s; simp [ByteArray.size]
      obtain ⟨cap, hcap, hrunc⟩ := stringToBytes_run (P := P) e s w
      obtain ⟨hle, R'⟩ := (R.draws (w.drawn + 1)).push (vs := s.data.toList.map fun b : UInt8 => Value.int .u8 b.toNat) (c := s.data.map (fun b : UInt8 => Value.int .u8 b.toNat) ++ Array.replicate (cap - s.size) (.int .u8 0)) (elem := e) (sz := 1) (d := cap - s.size) (lo := true) (cap, cap + 1)
        (by
          have hd2 : s.data.toList.length = s.data.size := by simp
          simp only [Array.toList_append, Array.toList_map, List.length_map]
          rw [List.take_append_of_le_length (by simp), List.take_of_length_le (by simp)]
          exact (VRL.plain_eq _ _ (plainL_map _ (fun _ => rfl) _)).2 rfl)
        (by simp only [List.length_map, hlen, Array.size_append, Array.size_map, Array.size_replicate]; have : s.data.size = s.size := rfl; omega) (fun h => by cases h)
        (by
          intro i hi
          simp only [Array.size_append, Array.size_map, Array.size_replicate] at hi
          have : s.data.size = s.size := rfl
          omega)
      refine ⟨_, .slice (some ⟨w.heap.size, 0, none⟩) s.size cap, _, hle, ?_, ?_, R'⟩
      · have e1 : (convert src dst (.string s)).run P w = (Conv.stringToBytes e s).run P w := by
          cases ds <;> simp [convert, run_underlying hs, run_underlying hd, run_underlying he']
        rw [e1, hrunc]
      · simp only [VR]
        refine ⟨⟨w.heap.size, 0, none⟩, cap - s.size, 0, Nm.with_self _ _ _, rfl, rfl, ?_⟩
        rw [hlen]; congr 1; omega
    · cases h
  · rename_i e a n c hs hd
    split at h
    · rename_i l he hl
      split at h
      · rename_i bs hbs
        simp only [Option.some.injEq] at h; subst h
        simp only [VR] at hx; obtain ⟨a', d, o, hF, h1, h2, e'⟩ := hx; subst e'
        have he' : P.underlying e = some (.int .u8) := by
          unfold isU8 at he; split at he
          · assumption
          · cases he
        obtain ⟨l', hr, hv⟩ := R.loadCells P ⟨d, o, hF, h1, h2⟩ hl
        obtain ⟨ns, g1, g2⟩ := toBytes_ok _ _ _ hv hbs
        subst g1; subst g2
        refine OpOK.same R (v' := .string (bytesOf (ns.map fun n => UInt8.ofNat n.toNat))) ?_ (by simp [VR])
        rw [run_convert_bytes_string w src dst e _ _ _ hs he' hd, run_bytesToString w a' n (c + d) ns (by simpa using hr), foldl_push]
        rfl
      · cases h
    · cases h
  · cases h
  · split at h
    · rename_i hp
      split at h
      · rename_i v hv
        simp only [Option.some.injEq] at h; subst h
        rw [VR.plain_eq _ _ hp] at hx; subst hx
        obtain ⟨g1, g2⟩ := pureVal_ok (F := F) hv w
        exact OpOK.same R g1 g2
      · cases h
    · cases h
def headEq (d : TypeDesc) (a b : Value) : Option Bool :=
  match d, a, b with
  | .pointer _, .pointer none, .pointer y => some y.isNone
  | .pointer _, .pointer (some _), .pointer none => some false
  | .slice _, .slice none _ _, .slice y _ _ => some y.isNone
  | .slice _, .slice (some _) _ _, .slice none _ _ => some false
  | .map _ _, .map none, .map y => some y.isNone
  | .map _ _, .map (some _), .map none => some false
  | .func _ _ _, .nilFunc, .nilFunc => some true
  | .func _ _ _, .nilFunc, .func _ _ _ => some false
  | .func _ _ _, .func _ _ _, .nilFunc => some false
  | .interface _, .nilIface, .iface t _ => match isMk t with
    | true => none
    | false => some false
  | .interface _, .iface t _, .nilIface => match isMk t with
    | true => none
    | false => some false
  | _, _, _ => none
theorem headEq_ok {t : TypeId} {d : TypeDesc} (hu : P.underlying t = some d) {a a' b b' : Value} (ha : VR F a a') (hb : VR F b b') {r : Bool} (h : headEq d a b = some r) (n : Nat) (w : World) :
    (Op.equalIn (n + 1) t a' b').run P w = .ok r w ∧ (∀ xs ys, a' = .agg xs → b' = .agg ys → False) ∧ (a' = .nilIface → b' = .nilIface → False) ∧
      (binOp .eql t a' b' = (do pure (.bool (← Op.equal t a' b')))) ∧ (binOp .neq t a' b' = (do pure (.bool (!(← Op.equal t a' b'))))) := by
  unfold headEq at h
  split at h
  case h_10 =>
    split at h
    · cases h
    · rename_i hm
      simp only [Option.some.injEq] at h; subst h
      obtain ⟨_, _, e⟩ := hb.iface_real hm
      simp only [VR] at ha
      subst ha; subst e; exact ⟨by simp [Op.equalIn, run_underlying hu], (by intro _ _ h; cases h), (by intro _ h; cases h), rfl, rfl⟩
  case h_11 =>
    split at h
    · cases h
    · rename_i hm
      simp only [Option.some.injEq] at h; subst h
      obtain ⟨_, _, e⟩ := ha.iface_real hm
      simp only [VR] at hb
      subst hb; subst e; exact ⟨by simp [Op.equalIn, run_underlying hu], (by intro _ _ h; cases h), (by intro h; cases h), rfl, rfl⟩
  all_goals (try (cases h; done))
  all_goals (simp only [Option.some.injEq] at h; subst h)
  · rename_i x y
    cases y <;> simp only [VR] at ha hb
    · subst ha; subst hb; exact ⟨by simp [Op.equalIn, run_underlying hu], (by intro _ _ h; cases h), (by intro h; cases h), rfl, rfl⟩
    · obtain ⟨_, _, e⟩ := hb; subst ha; subst e; exact ⟨by simp [Op.equalIn, run_underlying hu], (by intro _ _ h; cases h), (by intro h; cases h), rfl, rfl⟩
  · simp only [VR] at ha hb
    obtain ⟨_, _, e⟩ := ha; subst hb; subst e; exact ⟨by simp [Op.equalIn, run_underlying hu], (by intro _ _ h; cases h), (by intro h; cases h), rfl, rfl⟩
  · rename_i y _ _
    cases y <;> simp only [VR] at ha hb
    · subst ha; subst hb; exact ⟨by simp [Op.equalIn, run_underlying hu], (by intro _ _ h; cases h), (by intro h; cases h), rfl, rfl⟩
    · obtain ⟨_, _, _, _, _, _, e⟩ := hb; subst ha; subst e; exact ⟨by simp [Op.equalIn, run_underlying hu], (by intro _ _ h; cases h), (by intro h; cases h), rfl, rfl⟩
  · simp only [VR] at ha hb
    obtain ⟨_, _, _, _, _, _, e⟩ := ha; subst hb; subst e; exact ⟨by simp [Op.equalIn, run_underlying hu], (by intro _ _ h; cases h), (by intro h; cases h), rfl, rfl⟩
  · rename_i y
    cases y <;> simp only [VR] at ha hb
    · subst ha; subst hb; exact ⟨by simp [Op.equalIn, run_underlying hu], (by intro _ _ h; cases h), (by intro h; cases h), rfl, rfl⟩
    · obtain ⟨_, _, _, _, e⟩ := hb; subst ha; subst e; exact ⟨by simp [Op.equalIn, run_underlying hu], (by intro _ _ h; cases h), (by intro h; cases h), rfl, rfl⟩
  · simp only [VR] at ha hb
    obtain ⟨_, _, _, _, e⟩ := ha; subst hb; subst e; exact ⟨by simp [Op.equalIn, run_underlying hu], (by intro _ _ h; cases h), (by intro h; cases h), rfl, rfl⟩
  · simp only [VR] at ha hb
    subst ha; subst hb; exact ⟨by simp [Op.equalIn, run_underlying hu], (by intro _ _ h; cases h), (by intro h; cases h), rfl, rfl⟩
  · simp only [VR] at ha hb
    obtain ⟨_, _, _, _, e⟩ := hb; subst ha; subst e; exact ⟨by simp [Op.equalIn, run_underlying hu], (by intro _ _ h; cases h), (by intro h; cases h), rfl, rfl⟩
  · simp only [VR] at ha hb
    obtain ⟨_, _, _, _, e⟩ := ha; subst hb; subst e; exact ⟨by simp [Op.equalIn, run_underlying hu], (by intro _ _ h; cases h), (by intro h; cases h), rfl, rfl⟩
end
end
end Go.Abs
