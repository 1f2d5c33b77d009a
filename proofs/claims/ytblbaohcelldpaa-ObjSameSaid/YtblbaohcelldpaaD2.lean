/- The evaluator on values that are not all known: where something is not known it leaves a node that says what is asked. -/
import Derived.Test.YtblbaohcelldpaaD1
namespace Go.Abs
open Go
noncomputable section
set_option linter.unusedVariables false

def objsOf (G : Nat) (h : Heap) : List (Option AObj) := go (h.next - G) G
where go : Nat → Nat → List (Option AObj)
  | 0, _ => []
  | n + 1, k => h.get k :: go n (k + 1)
/-- What is left open. -/
structure Nd where
  ari : BinOp → IntKind → Int → IntKind → Int → (Int → Prop) → Prop
  cmp : BinOp → IntKind → Int → IntKind → Int → Prop → Prop → Prop
  cat : ByteArray → ByteArray → (ByteArray → Prop) → Prop
  scmp : BinOp → ByteArray → ByteArray → Prop → Prop → Prop
  slen : ByteArray → (Int → Prop) → Prop
  sat : ByteArray → Int → (Int → Prop) → Prop
  conv : TypeId → TypeId → IntKind → Int → IntKind → (Int → Prop) → Prop
  minI : Builtin → Array TypeId → TypeId → IntKind → Int → Int → (Int → Prop) → Prop
  idx : Nat → Nat → Nat → Int → (Nat → Prop) → Prop
  rdI : IntKind → List Value → Nat → (Int → Prop) → Prop
  rdB : List Value → Nat → Prop → Prop → Prop
  rdS : List Value → Nat → (ByteArray → Prop) → Prop
  rdA : List Value → Nat → Nat → (List Value → Prop) → Prop
  wr : List Value → Nat → Nat → List Value → (List Value → Prop) → Prop
  lenV : Value → (Nat → Prop) → Prop
  bcmp : BinOp → Bool → Bool → Prop → Prop → Prop
  agEq : BinOp → TypeId → List Value → List Value → Prop → Prop → Prop
  appU : Nat → Nat → TypeId → Value → List (Option AObj) → (Nat → Option AObj → Prop) → Prop
  app : Nat → Nat → List Value → Nat → Nat → Nat → Nat → List Value → (List Value → Nat → Prop) → Prop

def real (P : Program) : Nd where
  ari := fun op k a k' b K => ∃ z, intBin op k a k' b = some (.int k z) ∧ K z
  cmp := fun op k a k' b X Y => ∃ t, intBin op k a k' b = some (.bool t) ∧ (t = true → X) ∧ (t = false → Y)
  cat := fun a b K => ∃ s, strBin .add a b = some (.string s) ∧ K s
  scmp := fun op a b X Y => ∃ t, strBin op a b = some (.bool t) ∧ (t = true → X) ∧ (t = false → Y)
  slen := fun s K => K s.data.toList.length
  sat := fun s i K => ∃ (j : Nat) (b : UInt8), i = j ∧ s.data.toList[j]? = some b ∧ K b.toNat
  conv := fun src dst k a kd K => ∃ z, (∀ H, aConvert P H src dst (.int k a) = some (.int kd z, H)) ∧ K z
  minI := fun bi ats T k a b K => ∃ z, (∀ H, aBuiltin P H bi ats T [.int k a, .int k b] = some (.int k z, H)) ∧ K z
  idx := fun len off n i K => ∃ j : Nat, i = j ∧ j < len ∧ K (off + j * n)
  rdI := fun k vs off K => ∃ z, vs[off]? = some (.int k z) ∧ K z
  rdB := fun vs off X Y => ∃ t, vs[off]? = some (.bool t) ∧ (t = true → X) ∧ (t = false → Y)
  rdS := fun vs off K => ∃ s, vs[off]? = some (.string s) ∧ K s
  rdA := fun vs off n K => ∃ l, off + n ≤ vs.length ∧ n ≠ 0 ∧ l = (vs.drop off).take n ∧ K l
  wr := fun vs off n l K => ∃ vs', l.length = n ∧ l.all isCell = true ∧ off + n ≤ vs.length ∧ vs' = splice vs off l ∧ K vs'
  lenV := fun x K => ∃ a n c, x = .slice a n c ∧ K n
  bcmp := fun op a b X Y => (op = .eql ∧ ((a == b) = true → X) ∧ ((a == b) = false → Y)) ∨ (op = .neq ∧ ((a == b) = false → X) ∧ ((a == b) = true → Y))
  agEq := fun op t l l' X Y => ∃ b, (∀ H x y, aBin P H op t x y (.agg ⟨l⟩) (.agg ⟨l'⟩) = some (.bool b)) ∧ (b = true → X) ∧ (b = false → Y)
  appU := fun size bytes elem x objs K => (∃ a c, x = .slice a 0 c ∧ K 0 none) ∨ (∃ b o n c vs e sz lo ow, x = .slice (some ⟨b, o, none⟩) n c ∧ n ≠ 0 ∧ size ≠ 0 ∧ 100 ≤ b ∧ objs[b - 100]? = some (some (.cells vs e sz lo ow)) ∧ o + n * size ≤ vs.length ∧
    ((vs.drop o).take (n * size)).all isCell = true ∧ (2 * n + 192) * bytes ≤ tops ∧ n ≤ 1099511627776 ∧ K n (some (.cells ((vs.drop o).take (n * size)) elem size true true)))
  app := fun len cap xs n size bytes off vs K => ∃ vs' len', n ≠ 0 ∧ xs.length = n * size ∧ xs.all isCell = true ∧ cap < len + n ∧ (2 * (len + n) + 192) * bytes ≤ tops ∧ len + n ≤ 1099511627776 ∧ len ≤ cap ∧ off + cap * size = vs.length ∧
    len ≠ 0 ∧ size ≠ 0 ∧ vs' = (vs.drop off).take (len * size) ++ xs ∧ len' = len + n ∧ K vs' len'

def branch (b : Bool) (A B : Prop) : Prop := Bool.rec (motive := fun _ => Prop) B A b
def opt {α : Type} (o : Option α) (K : α → Prop) : Prop := match o with
  | some a => K a
  | none => False
abbrev VK := Value → Heap → Prop

def wInt (N : Nd) (op : BinOp) (k : IntKind) (a : Int) (k' : IntKind) (b : Int) (K : Value → Prop) : Prop := match op with
  | .eql | .neq | .lss | .leq | .gtr | .geq => N.cmp op k a k' b (K (.bool true)) (K (.bool false))
  | _ => N.ari op k a k' b fun z => K (.int k z)
def wStr (N : Nd) (op : BinOp) (a b : ByteArray) (K : Value → Prop) : Prop := match op with
  | .add => N.cat a b fun s => K (.string s)
  | _ => N.scmp op a b (K (.bool true)) (K (.bool false))
def wBin (P : Program) (N : Nd) (W : Bool) (op : BinOp) (t : TypeId) (x y : Operand) (a b : Value) (H : Heap) (K : VK) : Prop :=
  match a, b with
  | .int k m, .int k' n => wInt N op k m k' n (K · H)
  | .string s, .string s' => wStr N op s s' (K · H)
  | .bool s, .bool s' => match W with
    | true => match P.underlying t with
      | some .bool => N.bcmp op s s' (K (.bool true) H) (K (.bool false) H)
      | _ => False
    | false => opt (aBin P H op t x y (.bool s) (.bool s')) (K · H)
  | .agg ⟨l⟩, .agg ⟨l'⟩ => N.agEq op t l l' (K (.bool true) H) (K (.bool false) H)
  | a, b => opt (aBin P H op t x y a b) (K · H)
def wRdCells (N : Nd) (vs : List Value) : List Value → Nat → List Value → (List Value → Prop) → Prop
  | [], _, acc, K => K acc.reverse
  | z :: zs, off, acc, K => match z with
    | .int k _ => N.rdI k vs off fun z => wRdCells N vs zs (off + 1) (.int k z :: acc) K
    | .bool _ => N.rdB vs off (wRdCells N vs zs (off + 1) (.bool true :: acc) K) (wRdCells N vs zs (off + 1) (.bool false :: acc) K)
    | .string _ => N.rdS vs off fun z => wRdCells N vs zs (off + 1) (.string z :: acc) K
    | _ => False
def wRd (P : Program) (N : Nd) (t : TypeId) (vs : List Value) (off : Nat) (K : Value → Prop) : Prop :=
  match P.underlying t with
  | some (.int k) => N.rdI k vs off fun z => K (.int k z)
  | some .bool => N.rdB vs off (K (.bool true)) (K (.bool false))
  | some .string => N.rdS vs off fun z => K (.string z)
  | some (.struct _) => opt (aSize P t) fun n => match Nat.ble n 8 with
    | true => match n, aZero P t with
      | _ + 1, some (.agg ⟨z⟩) => match Nat.beq z.length n with
        | true => wRdCells N vs z off [] fun l => K (.agg ⟨l⟩)
        | false => False
      | _, _ => False
    | false => N.rdA vs off n fun l => K (.agg ⟨l⟩)
  | some (.array _ _) => opt (aSize P t) fun n => N.rdA vs off n fun l => K (.agg ⟨l⟩)
  | _ => False
def wLoad (P : Program) (N : Nd) (sy : Nat → Bool) (t : TypeId) (ad : Addr) (H : Heap) (K : VK) : Prop :=
  match sy ad.block with
  | true => match ad.spot, H.get ad.block with
    | none, some (.cells vs _ _ _ _) => wRd P N t vs ad.off (K · H)
    | _, _ => False
  | false => opt (aLoad P H t ad) (K · H)
def wStore (P : Program) (N : Nd) (sy : Nat → Bool) (t : TypeId) (ad : Addr) (v : Value) (H : Heap) (K : VK) : Prop :=
  match sy ad.block with
  | true => match ad.spot, H.get ad.block, aSize P t with
    | none, some (.cells vs e z lo true), some n => N.wr vs ad.off n v.cells.toList fun vs' => K undef (H.put ad.block (some (.cells vs' e z lo true)))
    | _, _, _ => False
  | false => opt (aStore P H t ad v) (K undef ·)
def wIdx (P : Program) (N : Nd) (W : Bool) (sy : Nat → Bool) (t : TypeId) (x ix : Value) (H : Heap) (K : VK) : Prop :=
  match ix, W, P.underlying t with
  | .int _ _, true, some (.slice _) => False
  | .int _ i, _, u => match u, x with
    | some (.array len elem), .pointer (some ad) => match sy ad.block, ad.spot, aSize P elem with
      | true, none, some n => N.idx len ad.off n i fun o => K (.pointer (some ⟨ad.block, o, none⟩)) H
      | _, _, _ => opt (aIndexAddr P t x ix) (K · H)
    | some (.slice elem), .slice (some ad) len _ => match sy ad.block, ad.spot, aSize P elem with
      | true, none, some n => N.idx len ad.off n i fun o => K (.pointer (some ⟨ad.block, o, none⟩)) H
      | _, _, _ => opt (aIndexAddr P t x ix) (K · H)
    | _, _ => False
  | _, _, _ => False
def wFld (P : Program) (sy : Nat → Bool) (s : TypeId) (x : Value) (f : Nat) (H : Heap) (K : VK) : Prop :=
  match x with
  | .pointer (some ad) => match sy ad.block with
    | true => match ad.spot, P.underlying s with
      | none, some (.struct fields) => match fields[f]? with
        | some fd => match aSize P fd.type with
          | some (_ + 1) => K (.pointer (some ⟨ad.block, ad.off + fd.offset, none⟩)) H
          | _ => False
        | none => False
      | _, _ => False
    | false => opt (aFieldAddr P s x f) (K · H)
  | _ => False
def wPart (P : Program) (t : TypeId) (x : Value) (f : Nat) (H : Heap) (K : VK) : Prop := opt (aField P t x f) (K · H)
def wAt (P : Program) (N : Nd) (t : TypeId) (x ix : Value) (H : Heap) (K : VK) : Prop :=
  match P.underlying t, x, ix with
  | some .string, .string s, .int _ i => N.sat s i fun z => K (.int .u8 z) H
  | _, _, _ => opt (aIndex P t x ix) (K · H)
def wConv (P : Program) (N : Nd) (src dst : TypeId) (x : Value) (H : Heap) (K : VK) : Prop :=
  match x, P.underlying dst with
  | .int k a, some (.int kd) => N.conv src dst k a kd fun z => K (.int kd z) H
  | _, _ => opt (aConvert P H src dst x) fun (v, h) => K v h
def wApp (P : Program) (N : Nd) (W : Bool) (sy : Nat → Bool) (argTypes : Array TypeId) (args : List Value) (H : Heap) (K : VK) : Prop :=
  match args with
  | [.slice (some a) len cap, x] => match W with
   | true => False
   | false => match sy a.block with
    | true => match argTypes.toList with
      | [sType, xType] => match P.underlying sType, P.underlying xType with
        | some (.slice elem), some dx => match notInt dx, P.info? elem with
          | true, some i => match aCellsOf H i.size x, i.zero, a.spot, H.get a.block with
            | some (n, xs), some z, none, some (.cells vs e2 sz true true) => match Nat.beq z.cells.toList.length i.size && plain z && Nat.beq sz i.size && Nat.beq e2 elem with
              | true => N.app len cap xs n i.size i.bytes a.off vs fun vs' len' => K (.slice (some ⟨H.next, 0, none⟩) len' len') ((H.put a.block none).push (.cells vs' elem i.size true true))
              | false => False
            | _, _, _, _ => False
          | _, _ => False
        | _, _ => False
      | _ => False
    | false => opt (aAppend P H argTypes args) fun (v, h) => K v h
  | _ => opt (aAppend P H argTypes args) fun (v, h) => K v h
/-- An object, or none, of the next name. -/
def Heap.pushO (H : Heap) (o : Option AObj) : Heap := { mem := H.mem.set H.next o, next := H.next + 1 }
/-- A slice of which little is known, behind an empty one: what comes of it has the next name, be it empty or not. -/
def wAppU (P : Program) (N : Nd) (argTypes : Array TypeId) (args : List Value) (H : Heap) (K : VK) : Prop :=
  match args with
  | [.slice (some a) len cap, x] => match argTypes.toList, len, cap, a.spot, a.off, H.get a.block with
    | [sType, xType], 0, 0, none, 0, some (.cells [] _ _ false _) => match P.underlying sType, P.underlying xType with
      | some (.slice elem), some (.slice _) => match P.info? elem with
        | some i => match i.zero with
          | some z => match Nat.beq z.cells.toList.length i.size && plain z with
            | true => N.appU i.size i.bytes elem x (objsOf 100 H) fun n o => K (.slice (some ⟨H.next, 0, none⟩) n n) (H.pushO o)
            | false => False
          | none => False
        | none => False
      | _, _ => False
    | _, _, _, _, _, _ => False
  | _ => False
def appOf (W : Bool) (op : Op) : Option (Array TypeId × List Operand) := match W, op with
  | true, .call { callee := .builtin .append, args, argTypes } => some (argTypes, args.toList)
  | _, _ => none
def wBuiltin (P : Program) (N : Nd) (W : Bool) (sy : Nat → Bool) (b : Builtin) (argTypes : Array TypeId) (T : TypeId) (args : List Value) (H : Heap) (K : VK) : Prop :=
  match b with
  | .append => wApp P N W sy argTypes args H K
  | .len => match (argTypes[0]?).bind P.underlying, args with
    | some .string, .string s :: _ => N.slen s fun z => K (.int .i64 z) H
    | some (.slice _), x :: _ => match W with
      | true => N.lenV x fun n => K (.int .i64 n) H
      | false => opt (aBuiltin P H .len argTypes T (x :: args.drop 1)) fun (v, h) => K v h
    | _, _ => opt (aBuiltin P H .len argTypes T args) fun (v, h) => K v h
  | .min => match args with
    | [.int k a, .int k' b] => match decide (k = k') with
      | true => N.minI .min argTypes T k a b fun z => K (.int k z) H
      | false => False
    | _ => opt (aBuiltin P H .min argTypes T args) fun (v, h) => K v h
  | .max => match args with
    | [.int k a, .int k' b] => match decide (k = k') with
      | true => N.minI .max argTypes T k a b fun z => K (.int k z) H
      | false => False
    | _ => opt (aBuiltin P H .max argTypes T args) fun (v, h) => K v h
  | b => opt (aBuiltin P H b argTypes T args) fun (v, h) => K v h
/-- How a piece of code is to be looked at: which objects are not known cell by cell; are struct values not known; what is known of functions, of loops. -/
structure How where
  sy : Nat → Bool
  ag : Bool
  kn : FuncId → Option (List Value → Heap → VK → Prop)
  lp : Nat → Option (List Nat × (Code → Nat → List Value → Heap → (Res → Prop) → Prop))
  pu : FuncId → Option (List Value → Heap → (Value → Prop) → Prop)
def wOp (P : Program) (N : Nd) (W : How) (o : Oper) (ρ : Operand → Value) (H : Heap) (K : VK) : Op → Prop
  | .binOp op t x y _ => wBin P N W.ag op t x y (ρ x) (ρ y) H K
  | .load t a => match ρ a with
    | .pointer (some ad) => wLoad P N W.sy t ad H K
    | _ => False
  | .store t a x => match ρ a with
    | .pointer (some ad) => wStore P N W.sy t ad (ρ x) H K
    | _ => False
  | .pick c a b => match ρ c with
    | .bool t => branch t (K (ρ a) H) (K (ρ b) H)
    | _ => False
  | .indexAddr t x ix => wIdx P N W.ag W.sy t (ρ x) (ρ ix) H K
  | .fieldAddr s x f => wFld P W.sy s (ρ x) f H K
  | .field t x f => wPart P t (ρ x) f H K
  | .index t x ix => wAt P N t (ρ x) (ρ ix) H K
  | .convert src dst x => wConv P N src dst (ρ x) H K
  | .call { callee := .builtin b, args, argTypes } => wBuiltin P N W.ag W.sy b argTypes o.type (args.toList.map ρ) H K
  | _ => opt (aOp P o ρ H) fun (v, h) => K v h
end
end Go.Abs
