/-
  What single operations yield, over frames that are functions from slots to values. Nothing is assumed.
-/
import Derived.Test.YteninjhmmjkckaaGreatDoorVcB
namespace Go.Vc
open Go.RowKit
set_option linter.unusedSimpArgs false
set_option linter.unusedVariables false

/-- A string of bytes. -/
abbrev Str := List UInt8
@[reducible] def S (l : Str) : Value := .string ⟨⟨l⟩⟩
@[reducible] def I (n : Int) : Value := .int .i64 n
@[reducible] def B (b : Bool) : Value := .bool b
@[reducible] def ptr (b o : Nat) : Value := .pointer (some ⟨b, o, none⟩)

theorem size_S (l : Str) : (⟨⟨l⟩⟩ : ByteArray).size = l.length := rfl
theorem toList_S (l : Str) : (⟨⟨l⟩⟩ : ByteArray).toList = l := ByteArray.toList_mk l

/-! ### What a program's types say -/

def isOne (P : Program) (T : TypeId) : Bool := match P.underlying T with
  | some (.struct _) | some (.array _ _) | none => false
  | some _ => true

def aggN (P : Program) (T : TypeId) : Option Nat := match P.underlying T with
  | some (.struct _) | some (.array _ _) => (P.info? T).map (·.size)
  | _ => none

def fOff (P : Program) (T f : Nat) : Option Nat := match P.underlying T with
  | some (.struct fs) => match fs[f]? with
    | some x => (P.info? x.type).bind fun i => if i.size = 0 then none else some x.offset
    | none => none
  | _ => none

def slElem (P : Program) (T : TypeId) : Option (TypeId × Nat) := match P.underlying T with
  | some (.slice e) => (P.info? e).map fun i => (e, i.size)
  | _ => none

def arrElem (P : Program) (T : TypeId) : Option (Nat × TypeId × Nat) := match P.underlying T with
  | some (.array n e) => (P.info? e).map fun i => (n, e, i.size)
  | _ => none

def isStr (P : Program) (T : TypeId) : Bool := match P.underlying T with | some .string => true | _ => false
def isBool (P : Program) (T : TypeId) : Bool := match P.underlying T with | some .bool => true | _ => false
def isPtr (P : Program) (T : TypeId) : Bool := match P.underlying T with | some (.pointer _) => true | _ => false
def intK (P : Program) (T : TypeId) : Option IntKind := match P.underlying T with | some (.int k) => some k | _ => none

section
variable {P : Program} {E : Env} {d : Option Tmp} {ty : TypeId} {pos : String} {af : Array Edge} {g : Option (Nat × Bool)} {w : World}

theorem PV.lv {o : Oper} {v : Value} (h : PV P o E v) : LV P o E w v := h w

theorem pv_move {x : Operand} {v : Value} (h : ev E x = v) : PV P ⟨d, .move x, ty, pos, af, g⟩ E v := fun w => by simp [execOp, h]
theorem pv_assign {x : Operand} {v : Value} (h : ev E x = v) : PV P ⟨d, .assign x, ty, pos, af, g⟩ E v := fun w => by simp [execOp, h]

theorem pv_pick {c a b : Operand} {t : Bool} {x y : Value} (hc : ev E c = .bool t) (ha : ev E a = x) (hb : ev E b = y) : PV P ⟨d, .pick c a b, ty, pos, af, g⟩ E (if t then x else y) := fun w => by
  simp [execOp, hc, asBool, ha, hb]

/-! integers -/

theorem pv_int {x y : Operand} {op : BinOp} {T U : TypeId} {k : IntKind} {a b c : Int} (hop : op = .add ∧ c = a + b ∨ op = .sub ∧ c = a - b ∨ op = .mul ∧ c = a * b) (hx : ev E x = .int k a) (hy : ev E y = .int k b) :
    PV P ⟨d, .binOp op T x y U, ty, pos, af, g⟩ E (.int k (k.wrap c)) := fun w => by
  rcases hop with ⟨rfl, rfl⟩ | ⟨rfl, rfl⟩ | ⟨rfl, rfl⟩ <;> simp [execOp, hx, hy, eqGuard, binOp, Op.intArith]

def inI64 (n : Int) : Prop := -9223372036854775808 ≤ n ∧ n ≤ 9223372036854775807

theorem wrap_i64 {n : Int} (h : inI64 n) : IntKind.i64.wrap n = n := IntWalk.i64_in n h
theorem wrap_u8 {n : Int} (h : 0 ≤ n ∧ n ≤ 255) : IntKind.u8.wrap n = n := IntWalk.u8_in n h
theorem wrap_u32 {n : Int} (h : 0 ≤ n ∧ n ≤ 4294967295) : IntKind.u32.wrap n = n := IntWalk.u32_in n h
theorem wrap_u64 {n : Int} (h : 0 ≤ n ∧ n ≤ 18446744073709551615) : IntKind.u64.wrap n = n := IntWalk.u64_in n h

theorem pv_add {x y : Operand} {T U : TypeId} {a b : Int} (hx : ev E x = I a) (hy : ev E y = I b) (h : inI64 (a + b)) : PV P ⟨d, .binOp .add T x y U, ty, pos, af, g⟩ E (I (a + b)) := by
  have := pv_int (P := P) (d := d) (ty := ty) (pos := pos) (af := af) (g := g) (T := T) (U := U) (.inl ⟨rfl, rfl⟩) hx hy
  rwa [wrap_i64 h] at this
theorem pv_sub {x y : Operand} {T U : TypeId} {a b : Int} (hx : ev E x = I a) (hy : ev E y = I b) (h : inI64 (a - b)) : PV P ⟨d, .binOp .sub T x y U, ty, pos, af, g⟩ E (I (a - b)) := by
  have := pv_int (P := P) (d := d) (ty := ty) (pos := pos) (af := af) (g := g) (T := T) (U := U) (.inr (.inl ⟨rfl, rfl⟩)) hx hy
  rwa [wrap_i64 h] at this
theorem pv_mul {x y : Operand} {T U : TypeId} {a b : Int} (hx : ev E x = I a) (hy : ev E y = I b) (h : inI64 (a * b)) : PV P ⟨d, .binOp .mul T x y U, ty, pos, af, g⟩ E (I (a * b)) := by
  have := pv_int (P := P) (d := d) (ty := ty) (pos := pos) (af := af) (g := g) (T := T) (U := U) (.inr (.inr ⟨rfl, rfl⟩)) hx hy
  rwa [wrap_i64 h] at this
/-- Sums that wrap. -/
theorem pv_addw {x y : Operand} {T U : TypeId} {k : IntKind} {a b : Int} (hx : ev E x = .int k a) (hy : ev E y = .int k b) : PV P ⟨d, .binOp .add T x y U, ty, pos, af, g⟩ E (.int k (k.wrap (a + b))) := pv_int (.inl ⟨rfl, rfl⟩) hx hy
theorem pv_subw {x y : Operand} {T U : TypeId} {k : IntKind} {a b : Int} (hx : ev E x = .int k a) (hy : ev E y = .int k b) : PV P ⟨d, .binOp .sub T x y U, ty, pos, af, g⟩ E (.int k (k.wrap (a - b))) := pv_int (.inr (.inl ⟨rfl, rfl⟩)) hx hy
theorem pv_mulw {x y : Operand} {T U : TypeId} {k : IntKind} {a b : Int} (hx : ev E x = .int k a) (hy : ev E y = .int k b) : PV P ⟨d, .binOp .mul T x y U, ty, pos, af, g⟩ E (.int k (k.wrap (a * b))) := pv_int (.inr (.inr ⟨rfl, rfl⟩)) hx hy

theorem pv_lss {x y : Operand} {T U : TypeId} {k : IntKind} {a b : Int} (hx : ev E x = .int k a) (hy : ev E y = .int k b) : PV P ⟨d, .binOp .lss T x y U, ty, pos, af, g⟩ E (.bool (decide (a < b))) := fun w => by
  simp [execOp, hx, hy, eqGuard, binOp, Op.intCmp]
theorem pv_leq {x y : Operand} {T U : TypeId} {k : IntKind} {a b : Int} (hx : ev E x = .int k a) (hy : ev E y = .int k b) : PV P ⟨d, .binOp .leq T x y U, ty, pos, af, g⟩ E (.bool (decide (a ≤ b))) := fun w => by
  simp [execOp, hx, hy, eqGuard, binOp, Op.intCmp]
theorem pv_gtr {x y : Operand} {T U : TypeId} {k : IntKind} {a b : Int} (hx : ev E x = .int k a) (hy : ev E y = .int k b) : PV P ⟨d, .binOp .gtr T x y U, ty, pos, af, g⟩ E (.bool (decide (b < a))) := fun w => by
  simp [execOp, hx, hy, eqGuard, binOp, Op.intCmp]
theorem pv_geq {x y : Operand} {T U : TypeId} {k : IntKind} {a b : Int} (hx : ev E x = .int k a) (hy : ev E y = .int k b) : PV P ⟨d, .binOp .geq T x y U, ty, pos, af, g⟩ E (.bool (decide (b ≤ a))) := fun w => by
  simp [execOp, hx, hy, eqGuard, binOp, Op.intCmp]
theorem pv_eql {x y : Operand} {T U : TypeId} {k : IntKind} {a b : Int} (hx : ev E x = .int k a) (hy : ev E y = .int k b) : PV P ⟨d, .binOp .eql T x y U, ty, pos, af, g⟩ E (.bool (decide (a = b))) := fun w => by
  simp [execOp, hx, hy, eqGuard, binOp, Op.intCmp]
  exact (Bool.beq_eq_decide_eq a b)
theorem pv_neq {x y : Operand} {T U : TypeId} {k : IntKind} {a b : Int} (hx : ev E x = .int k a) (hy : ev E y = .int k b) : PV P ⟨d, .binOp .neq T x y U, ty, pos, af, g⟩ E (.bool (decide (a ≠ b))) := fun w => by
  simp [execOp, hx, hy, eqGuard, binOp, Op.intCmp]
  by_cases h : a = b <;> simp [h]

theorem pv_conv {x : Operand} {T U : TypeId} {k k' : IntKind} {a : Int} (hx : ev E x = .int k' a) (hT : (P.underlying T).isSome = true) (hU : intK P U = some k) : PV P ⟨d, .convert T U x, ty, pos, af, g⟩ E (.int k (k.wrap a)) := fun w => by
  obtain ⟨dT, hdT⟩ := Option.isSome_iff_exists.1 hT
  have hU' : P.underlying U = some (.int k) := by
    unfold intK at hU
    split at hU
    · rename_i h; cases hU; exact h
    · cases hU
  simp [execOp, hx, convert, underlying, hdT, hU', Conv.intToInt]

/-! strings -/

theorem pv_seq {x y : Operand} {T U : TypeId} {a b : Str} (hx : ev E x = S a) (hy : ev E y = S b) : PV P ⟨d, .binOp .eql T x y U, ty, pos, af, g⟩ E (.bool (decide (a = b))) := fun w => by
  simp [execOp, hx, hy, eqGuard, binOp, Op.stringOp]
  by_cases h : a = b <;> simp [h]
theorem pv_sne {x y : Operand} {T U : TypeId} {a b : Str} (hx : ev E x = S a) (hy : ev E y = S b) : PV P ⟨d, .binOp .neq T x y U, ty, pos, af, g⟩ E (.bool (decide (a ≠ b))) := fun w => by
  simp [execOp, hx, hy, eqGuard, binOp, Op.stringOp]
  by_cases h : a = b <;> simp [h]
theorem pv_slt {x y : Operand} {T U : TypeId} {a b : Str} (hx : ev E x = S a) (hy : ev E y = S b) : PV P ⟨d, .binOp .lss T x y U, ty, pos, af, g⟩ E (.bool (Op.bytesLess a b)) := fun w => by
  simp [execOp, hx, hy, eqGuard, binOp, Op.stringOp]
theorem pv_sge {x y : Operand} {T U : TypeId} {a b : Str} (hx : ev E x = S a) (hy : ev E y = S b) : PV P ⟨d, .binOp .geq T x y U, ty, pos, af, g⟩ E (.bool (!Op.bytesLess a b)) := fun w => by
  simp [execOp, hx, hy, eqGuard, binOp, Op.stringOp]
theorem pv_scat {x y : Operand} {T U : TypeId} {a b : Str} (hx : ev E x = S a) (hy : ev E y = S b) (h : a.length + b.length ≤ 9223372036854775807) : PV P ⟨d, .binOp .add T x y U, ty, pos, af, g⟩ E (S (a ++ b)) := fun w => by
  have h' : ¬ ((((⟨⟨a⟩⟩ : ByteArray).size + (⟨⟨b⟩⟩ : ByteArray).size : Nat) : Int) > IntKind.i64.max) := by
    have e : IntKind.i64.max = 9223372036854775807 := rfl
    rw [e, size_S, size_S]
    omega
  have e : (⟨⟨a⟩⟩ : ByteArray) ++ ⟨⟨b⟩⟩ = ⟨⟨a ++ b⟩⟩ := by
    show ByteArray.append _ _ = _
    simp [ByteArray.append]
  have e2 : (Op.stringOp .add ⟨⟨a⟩⟩ ⟨⟨b⟩⟩ : Sem Value) = pure (S (a ++ b)) := by
    unfold Op.stringOp
    simp only []
    rw [if_neg h', e]
  simp only [execOp, hx, hy, eqGuard, binOp, e2]
  rfl

theorem pv_lenS {x : Operand} {T : TypeId} {a : Str} (hT : isStr P T = true) (hx : ev E x = S a) : PV P ⟨d, .call { callee := .builtin .len, args := #[x], argTypes := #[T] }, ty, pos, af, g⟩ E (I a.length) := fun w => by
  have hT' : P.underlying T = some .string := by
    unfold isStr at hT; split at hT <;> first | assumption | cases hT
  simp [execOp, resolve, invoke, builtin, Builtin.len_, underlying, hT', hx, goInt, size_S]

theorem pv_idxS {x y : Operand} {T : TypeId} {a : Str} {i : Nat} {c : UInt8} (hT : isStr P T = true) (hx : ev E x = S a) (hy : ev E y = I i) (hi : a[i]? = some c) : PV P ⟨d, .index T x y, ty, pos, af, g⟩ E (.int .u8 c.toNat) := fun w => by
  have hT' : P.underlying T = some .string := by
    unfold isStr at hT; split at hT <;> first | assumption | cases hT
  have e : (⟨⟨a⟩⟩ : ByteArray)[(i : Int).toNat]? = some c := by
    rw [Int.toNat_natCast]
    have hlt : i < a.length := (List.getElem?_eq_some_iff.1 hi).1
    rw [getElem?_pos _ i hlt]
    exact hi ▸ (by rw [List.getElem?_eq_getElem hlt]; rfl)
  have e2 : (⟨⟨a⟩⟩ : ByteArray)[i]? = some c := by simpa using e
  simp [execOp, Instr.index, asIntOf, hx, hy, underlying, hT', e2]

/-! places -/

theorem isOne_agg {T : TypeId} (h : isOne P T = true) : (isAgg T).run P w = .ok false w := by
  unfold isOne at h
  unfold isAgg underlying
  cases hu : P.underlying T with
  | none => rw [hu] at h; simp at h
  | some u => rw [hu] at h; cases u <;> simp [hu] at h ⊢

theorem aggN_agg {T k : Nat} (h : aggN P T = some k) : (isAgg T).run P w = .ok true w ∧ (sizeOf T).run P w = .ok k w := by
  unfold aggN at h
  have key : ∀ u, P.underlying T = some u → (P.info? T).map (·.size) = some k → (u matches .struct _ | .array _ _) = true → (isAgg T).run P w = .ok true w ∧ (sizeOf T).run P w = .ok k w := by
    intro u hu hk hm
    obtain ⟨i, hi, hs⟩ := Option.map_eq_some_iff.1 hk
    constructor
    · unfold isAgg underlying
      cases u <;> simp [hu] at hm ⊢
    · simp [sizeOf, typeInfo, hi, hs]
  cases hu : P.underlying T with
  | none => rw [hu] at h; simp at h
  | some u => rw [hu] at h; cases u <;> simp at h <;> exact key _ hu (by simpa using h) rfl

theorem pv_fieldA {x : Operand} {T f o b k : Nat} (hT : fOff P T f = some k) (hx : ev E x = .pointer (some ⟨b, o, none⟩)) : PV P ⟨d, .fieldAddr T x f, ty, pos, af, g⟩ E (.pointer (some ⟨b, o + k, none⟩)) := fun w => by
  unfold fOff at hT
  cases hu : P.underlying T with
  | none => rw [hu] at hT; simp at hT
  | some u =>
    rw [hu] at hT
    cases u <;> simp at hT
    rename_i fs
    cases hf : fs[f]? with
    | none => rw [hf] at hT; simp at hT
    | some fl =>
      rw [hf] at hT
      simp only [Option.bind_eq_some_iff] at hT
      obtain ⟨i, hi, hs⟩ := hT
      have hne : i.size ≠ 0 := fun e => by rw [if_pos e] at hs; cases hs
      rw [if_neg hne] at hs
      cases hs
      have ha : (⟨b, o, none⟩ : Addr).add fl.offset = ⟨b, o + fl.offset, none⟩ := by
        unfold Addr.add
        split
        · rename_i e; simp [e]
        · rfl
      simp [execOp, Instr.fieldAt, underlying, hu, hf, hx, Instr.sureAddr, fieldPlace, sizeOf, typeInfo, hi, hne, ha]

/-- The base of a slice. -/
def base (v : Value) : Nat × Nat := match v with
  | .slice (some a) _ _ => (a.block, a.off)
  | _ => (0, 0)

/-- A slice of length n. -/
def isSl (v : Value) (n : Nat) : Prop := (v = .slice none 0 0 ∧ n = 0) ∨ (∃ b o c, v = .slice (some ⟨b, o, none⟩) n c ∧ n ≤ c) ∨ (n = 0 ∧ ∃ a c, v = .slice (some a) 0 c)

theorem slElem_under {T e k : Nat} (h : slElem P T = some (e, k)) : P.underlying T = some (.slice e) ∧ ∃ i, P.info? e = some i ∧ i.size = k := by
  unfold slElem at h
  cases hu : P.underlying T with
  | none => rw [hu] at h; simp at h
  | some u =>
    rw [hu] at h
    cases u <;> simp at h
    rename_i e'
    obtain ⟨i, hi, rfl, rfl⟩ := h
    exact ⟨rfl, i, hi, rfl⟩

theorem arrElem_under {T m e k : Nat} (h : arrElem P T = some (m, e, k)) : P.underlying T = some (.array m e) ∧ ∃ i, P.info? e = some i ∧ i.size = k := by
  unfold arrElem at h
  cases hu : P.underlying T with
  | none => rw [hu] at h; simp at h
  | some u =>
    rw [hu] at h
    cases u <;> simp at h
    rename_i e'
    obtain ⟨i, hi, rfl, rfl, rfl⟩ := h
    exact ⟨rfl, i, hi, rfl⟩

theorem pv_lenV {x : Operand} {T e k n : Nat} {v : Value} (hT : slElem P T = some (e, k)) (hv : isSl v n) (hx : ev E x = v) : PV P ⟨d, .call { callee := .builtin .len, args := #[x], argTypes := #[T] }, ty, pos, af, g⟩ E (I n) := fun w => by
  obtain ⟨hu, _⟩ := slElem_under hT
  rcases hv with ⟨rfl, rfl⟩ | ⟨b, o, c, rfl, _⟩ | ⟨rfl, a, c, rfl⟩ <;> simp [execOp, resolve, invoke, builtin, Builtin.len_, underlying, hu, hx, goInt]

theorem pv_idxA {x y : Operand} {T e k n i : Nat} {v : Value} (hT : slElem P T = some (e, k)) (hv : isSl v n) (hx : ev E x = v) (hy : ev E y = I i) (hi : i < n) :
    PV P ⟨d, .indexAddr T x y, ty, pos, af, g⟩ E (ptr (base v).1 ((base v).2 + i * k)) := fun w => by
  obtain ⟨hu, f, hf, hk⟩ := slElem_under hT
  rcases hv with ⟨rfl, rfl⟩ | ⟨b, o, c, rfl, _⟩ | ⟨rfl, a, c, rfl⟩
  · omega
  rotate_left
  · omega
  · have ha : (⟨b, o, none⟩ : Addr).add (i * k) = ⟨b, o + i * k, none⟩ := by
      unfold Addr.add
      split
      · rename_i e; simp [e]
      · rfl
    have hi' : (0 : Int) ≤ (i : Int) ∧ (i : Int) < (n : Int) := by omega
    simp [execOp, Instr.indexAt, asIntOf, underlying, hu, hx, hy, sizeOf, typeInfo, hf, hk, base, hi', ha]
    omega

theorem pv_idxR {x y : Operand} {T e k m i b o : Nat} (hT : arrElem P T = some (m, e, k)) (hx : ev E x = ptr b o) (hy : ev E y = I i) (hi : i < m) :
    PV P ⟨d, .indexAddr T x y, ty, pos, af, g⟩ E (ptr b (o + i * k)) := fun w => by
  obtain ⟨hu, f, hf, hk⟩ := arrElem_under hT
  have ha : (⟨b, o, none⟩ : Addr).add (i * k) = ⟨b, o + i * k, none⟩ := by
    unfold Addr.add
    split
    · rename_i e; simp [e]
    · rfl
  have hi' : (0 : Int) ≤ (i : Int) ∧ (i : Int) < (m : Int) := by omega
  simp [execOp, Instr.indexAt, asIntOf, underlying, hu, hx, hy, sizeOf, typeInfo, hf, hk, hi', ha, Instr.sureAddr]
  omega

theorem pv_nilP {x : Operand} {a : Addr} (hx : ev E x = .pointer (some a)) : PV P ⟨d, .nilCheck x, ty, pos, af, g⟩ E (.pointer (some a)) := fun w => by
  simp [execOp, hx]

theorem pv_not {x : Operand} {T : TypeId} {b : Bool} (hx : ev E x = .bool b) : PV P ⟨d, .unOp .not T x, ty, pos, af, g⟩ E (.bool (!b)) := fun w => by
  simp [execOp, hx, Op.unary]

theorem pv_ext {x : Operand} {i : Nat} {vs : List Value} {v : Value} (hx : ev E x = .tuple ⟨vs⟩) (hv : vs[i]? = some v) : PV P ⟨d, .extract x i, ty, pos, af, g⟩ E v := fun w => by
  simp [execOp, hx, Instr.extract, hv]

theorem run_bin (op : BinOp) (T U : TypeId) (x y : Operand) (w : World) (v : Value) (hg : ∀ w, (eqGuard op T x y (ev E x) (ev E y)).run P w = .ok () w) (h : (binOp op T (ev E x) (ev E y)).run P w = .ok v w) :
    (execOp (ev E) ⟨d, .binOp op T x y U, ty, pos, af, g⟩).run P w = .ok (.value v) w := by
  simp [execOp, hg, h]

theorem pv_eqB {x y : Operand} {T U : TypeId} {a b : Bool} (hT : isBool P T = true) (hx : ev E x = .bool a) (hy : ev E y = .bool b) : PV P ⟨d, .binOp .eql T x y U, ty, pos, af, g⟩ E (.bool (decide (a = b))) := fun w => by
  have hT' : P.underlying T = some .bool := by
    unfold isBool at hT; split at hT <;> first | assumption | cases hT
  refine run_bin _ _ _ _ _ _ _ (fun w => by simp [hx, hy, eqGuard]) ?_
  rw [hx, hy, run_eql_bool _ _ _ _ hT']
  cases a <;> cases b <;> rfl
theorem pv_neB {x y : Operand} {T U : TypeId} {a b : Bool} (hT : isBool P T = true) (hx : ev E x = .bool a) (hy : ev E y = .bool b) : PV P ⟨d, .binOp .neq T x y U, ty, pos, af, g⟩ E (.bool (decide (a ≠ b))) := fun w => by
  have hT' : P.underlying T = some .bool := by
    unfold isBool at hT; split at hT <;> first | assumption | cases hT
  refine run_bin _ _ _ _ _ _ _ (fun w => by simp [hx, hy, eqGuard]) ?_
  rw [hx, hy, run_neq_bool _ _ _ _ hT']
  cases a <;> cases b <;> rfl

theorem isPtr_under {T : TypeId} (h : isPtr P T = true) : P.underlying T = some (.pointer (P.pointee T)) := by
  unfold isPtr at h
  split at h
  · rename_i e he; simp [Program.pointee, he]
  · cases h

/-- A pointer against nil. -/
theorem pv_eqP {x y : Operand} {T U : TypeId} {a : Option Addr} (hT : isPtr P T = true) (hx : ev E x = .pointer a) (hy : ev E y = .pointer none) : PV P ⟨d, .binOp .eql T x y U, ty, pos, af, g⟩ E (.bool (decide (a = none))) := fun w => by
  refine run_bin _ _ _ _ _ _ _ (fun w => by simp [hx, hy, eqGuard]) ?_
  rw [hx, hy, run_eql_pointer_nil _ _ _ (isPtr_under hT)]
  cases a <;> rfl
theorem pv_neP {x y : Operand} {T U : TypeId} {a : Option Addr} (hT : isPtr P T = true) (hx : ev E x = .pointer a) (hy : ev E y = .pointer none) : PV P ⟨d, .binOp .neq T x y U, ty, pos, af, g⟩ E (.bool (decide (a ≠ none))) := fun w => by
  refine run_bin _ _ _ _ _ _ _ (fun w => by simp [hx, hy, eqGuard]) ?_
  rw [hx, hy, run_neq_pointer_nil _ _ _ (isPtr_under hT)]
  cases a <;> rfl

/-- A slice against nil. -/
theorem run_eqSN (w : World) (t e : TypeId) (a : Option Addr) (l c : Nat) (h : P.underlying t = some (.slice e)) : (binOp .eql t (.slice a l c) (.slice none 0 0)).run P w = .ok (.bool a.isNone) w := by
  have e1 : (Op.equalIn (9999 + 1) t (.slice a l c) (.slice none 0 0)).run P w = .ok a.isNone w := by
    rw [Op.equalIn]
    cases a <;> simp [underlying, h]
  simp only [binOp, Op.equal, Op.maxDepth, Sem.run_bind, e1]
  rfl
theorem run_neSN (w : World) (t e : TypeId) (a : Option Addr) (l c : Nat) (h : P.underlying t = some (.slice e)) : (binOp .neq t (.slice a l c) (.slice none 0 0)).run P w = .ok (.bool (!a.isNone)) w := by
  have e1 : (Op.equalIn (9999 + 1) t (.slice a l c) (.slice none 0 0)).run P w = .ok a.isNone w := by
    rw [Op.equalIn]
    cases a <;> simp [underlying, h]
  simp only [binOp, Op.equal, Op.maxDepth, Sem.run_bind, e1]
  rfl
theorem pv_eqN {x y : Operand} {T U e k : Nat} {a : Option Addr} {n c : Nat} (hT : slElem P T = some (e, k)) (hx : ev E x = .slice a n c) (hy : ev E y = .slice none 0 0) : PV P ⟨d, .binOp .eql T x y U, ty, pos, af, g⟩ E (.bool (decide (a = none))) := fun w => by
  obtain ⟨he, _⟩ := slElem_under hT
  refine run_bin _ _ _ _ _ _ _ (fun w => by simp [hx, hy, eqGuard]) ?_
  rw [hx, hy, run_eqSN _ _ _ _ _ _ he]
  cases a <;> rfl
theorem pv_neN {x y : Operand} {T U e k : Nat} {a : Option Addr} {n c : Nat} (hT : slElem P T = some (e, k)) (hx : ev E x = .slice a n c) (hy : ev E y = .slice none 0 0) : PV P ⟨d, .binOp .neq T x y U, ty, pos, af, g⟩ E (.bool (decide (a ≠ none))) := fun w => by
  obtain ⟨he, _⟩ := slElem_under hT
  refine run_bin _ _ _ _ _ _ _ (fun w => by simp [hx, hy, eqGuard]) ?_
  rw [hx, hy, run_neSN _ _ _ _ _ _ he]
  cases a <;> rfl

/-! slices of strings -/

theorem run_bound {k : IntKind} {i : Int} {y : Nat} {c : BoundsCode} (h : 0 ≤ i ∧ i ≤ y) (w : World) : (Instr.sliceBound (.int k i) y c).run P w = .ok i.toNat w := by
  simp [Instr.sliceBound, asIntOf, h]

theorem extract_S (s : Str) (a b : Nat) : (⟨⟨s⟩⟩ : ByteArray).extract a b = ⟨⟨(s.take b).drop a⟩⟩ := by
  have h1 : ((⟨⟨s⟩⟩ : ByteArray).extract a b).data = (#[].extract 0 0 ++ (⟨s⟩ : Array UInt8).extract a (a + (b - a))) ++ #[].extract (0 + min (b - a) ((⟨s⟩ : Array UInt8).size - a)) 0 := rfl
  apply ByteArray.ext
  rw [h1]
  apply Array.ext'
  simp [List.drop_take]

/-- A bound that may be left out. -/
def bnd (E : Env) (d : Nat) (x : Option Operand) (a : Nat) : Prop := match x with
  | some l => ev E l = I a
  | none => a = d

theorem pv_slS {x : Operand} {lo hi : Option Operand} {T a b : Nat} {s : Str} (hT : isStr P T = true) (hx : ev E x = S s)
    (hlo : bnd E 0 lo a) (hhi : bnd E s.length hi b) (h1 : a ≤ b) (h2 : b ≤ s.length) :
    PV P ⟨d, .slice T x lo hi none, ty, pos, af, g⟩ E (S ((s.take b).drop a)) := fun w => by
  have hT' : P.underlying T = some .string := by
    unfold isStr at hT; split at hT <;> first | assumption | cases hT
  have hb1 : (0 : Int) ≤ (b : Int) ∧ (b : Int) ≤ (s.length : Int) := by omega
  have hb2 : (0 : Int) ≤ (a : Int) ∧ (a : Int) ≤ (b : Int) := by omega
  have key : (Instr.sliceBounds false s.length s.length (lo.map (ev E)) (hi.map (ev E)) none).run P w = .ok (a, b, s.length) w := by
    unfold bnd at hlo hhi
    cases lo <;> cases hi <;> simp only [] at hlo hhi <;> subst_vars <;> simp only [Option.map, Instr.sliceBounds, Sem.run_bind, Sem.run_pure, Result.andThen_ok, *] <;>
      simp only [run_bound hb1, run_bound hb2, Result.andThen_ok, Int.toNat_natCast] <;> rfl
  have e1 : (Instr.sliceAt T (.string ⟨⟨s⟩⟩) (lo.map (ev E)) (hi.map (ev E)) none).run P w = .ok (S ((s.take b).drop a)) w := by
    simp [Instr.sliceAt, Instr.slice, underlying, hT', size_S, key, extract_S]
  simp only [execOp, hx, Option.map_none, Sem.run_bind, e1]
  rfl

end
end Go.Vc
