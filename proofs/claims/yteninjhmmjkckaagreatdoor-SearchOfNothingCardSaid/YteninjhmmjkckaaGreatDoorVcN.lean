/-
  Bytes in the walk. Nothing is assumed.
-/
import Derived.Test.YteninjhmmjkckaaGreatDoorVcM
namespace Go.Vc
open Go.RowKit
set_option linter.unusedSimpArgs false
set_option linter.unusedVariables false

@[reducible] def b8 (c : UInt8) : Value := .int .u8 c.toNat

theorem wrap8 (n : Int) : IntKind.u8.wrap n = n % 256 := by simp [IntKind.wrap, IntKind.bits, IntKind.signed]
theorem u8_int_eq {a b : UInt8} : ((a.toNat : Int) = b.toNat) ↔ a = b := ⟨fun h => UInt8.toNat_inj.1 (by omega), fun h => by rw [h]⟩
theorem u8_int_lt {a b : UInt8} : ((a.toNat : Int) < b.toNat) ↔ a < b := by rw [UInt8.lt_iff_toNat_lt]; omega
theorem u8_int_le {a b : UInt8} : ((a.toNat : Int) ≤ b.toNat) ↔ a ≤ b := by rw [UInt8.le_iff_toNat_le]; omega

section
variable {P : Program} {E : Env} {d : Option Tmp} {ty : TypeId} {pos : String} {af : Array Edge} {g : Option (Nat × Bool)} {w : World} {T U : TypeId} {x y : Operand}

theorem pv_eqlB {a b : UInt8} (hx : ev E x = b8 a) (hy : ev E y = b8 b) : PV P ⟨d, .binOp .eql T x y U, ty, pos, af, g⟩ E (.bool (decide (a = b))) := by
  have := pv_eql (P := P) (d := d) (ty := ty) (pos := pos) (af := af) (g := g) (T := T) (U := U) hx hy
  rwa [show decide ((a.toNat : Int) = b.toNat) = decide (a = b) from decide_eq_decide.2 u8_int_eq] at this
theorem pv_neqB {a b : UInt8} (hx : ev E x = b8 a) (hy : ev E y = b8 b) : PV P ⟨d, .binOp .neq T x y U, ty, pos, af, g⟩ E (.bool (decide (a ≠ b))) := by
  have := pv_neq (P := P) (d := d) (ty := ty) (pos := pos) (af := af) (g := g) (T := T) (U := U) hx hy
  rwa [show decide ((a.toNat : Int) ≠ b.toNat) = decide (a ≠ b) from decide_eq_decide.2 (not_congr u8_int_eq)] at this
theorem pv_lssB {a b : UInt8} (hx : ev E x = b8 a) (hy : ev E y = b8 b) : PV P ⟨d, .binOp .lss T x y U, ty, pos, af, g⟩ E (.bool (decide (a < b))) := by
  have := pv_lss (P := P) (d := d) (ty := ty) (pos := pos) (af := af) (g := g) (T := T) (U := U) hx hy
  rwa [show decide ((a.toNat : Int) < b.toNat) = decide (a < b) from decide_eq_decide.2 u8_int_lt] at this
theorem pv_leqB {a b : UInt8} (hx : ev E x = b8 a) (hy : ev E y = b8 b) : PV P ⟨d, .binOp .leq T x y U, ty, pos, af, g⟩ E (.bool (decide (a ≤ b))) := by
  have := pv_leq (P := P) (d := d) (ty := ty) (pos := pos) (af := af) (g := g) (T := T) (U := U) hx hy
  rwa [show decide ((a.toNat : Int) ≤ b.toNat) = decide (a ≤ b) from decide_eq_decide.2 u8_int_le] at this
theorem pv_gtrB {a b : UInt8} (hx : ev E x = b8 a) (hy : ev E y = b8 b) : PV P ⟨d, .binOp .gtr T x y U, ty, pos, af, g⟩ E (.bool (decide (b < a))) := by
  have := pv_gtr (P := P) (d := d) (ty := ty) (pos := pos) (af := af) (g := g) (T := T) (U := U) hx hy
  rwa [show decide ((b.toNat : Int) < a.toNat) = decide (b < a) from decide_eq_decide.2 u8_int_lt] at this
theorem pv_geqB {a b : UInt8} (hx : ev E x = b8 a) (hy : ev E y = b8 b) : PV P ⟨d, .binOp .geq T x y U, ty, pos, af, g⟩ E (.bool (decide (b ≤ a))) := by
  have := pv_geq (P := P) (d := d) (ty := ty) (pos := pos) (af := af) (g := g) (T := T) (U := U) hx hy
  rwa [show decide ((b.toNat : Int) ≤ a.toNat) = decide (b ≤ a) from decide_eq_decide.2 u8_int_le] at this
theorem pv_addB {a b : UInt8} (hx : ev E x = b8 a) (hy : ev E y = b8 b) : PV P ⟨d, .binOp .add T x y U, ty, pos, af, g⟩ E (b8 (a + b)) := by
  have := pv_addw (P := P) (d := d) (ty := ty) (pos := pos) (af := af) (g := g) (T := T) (U := U) hx hy
  rwa [show IntKind.u8.wrap ((a.toNat : Int) + b.toNat) = ((a + b).toNat : Int) by rw [wrap8, UInt8.toNat_add]; omega] at this
theorem pv_subB {a b : UInt8} (hx : ev E x = b8 a) (hy : ev E y = b8 b) : PV P ⟨d, .binOp .sub T x y U, ty, pos, af, g⟩ E (b8 (a - b)) := by
  have := pv_subw (P := P) (d := d) (ty := ty) (pos := pos) (af := af) (g := g) (T := T) (U := U) hx hy
  rwa [show IntKind.u8.wrap ((a.toNat : Int) - b.toNat) = ((a - b).toNat : Int) by rw [wrap8, UInt8.toNat_sub]; have := b.toNat_lt; have := a.toNat_lt; omega] at this

theorem ofInt8 (a : UInt8) : BitVec.ofInt 8 (a.toNat : Int) = a.toBitVec := by
  apply BitVec.eq_of_toNat_eq
  rw [BitVec.toNat_ofInt]
  have := a.toNat_lt
  show ((a.toNat : Int) % ((2 ^ 8 : Nat) : Int)).toNat = a.toNat
  omega
theorem pv_andB {a b : UInt8} (hx : ev E x = b8 a) (hy : ev E y = b8 b) : PV P ⟨d, .binOp .and T x y U, ty, pos, af, g⟩ E (b8 (a &&& b)) := by
  have := pv_bits (P := P) (dd := d) (ty := ty) (pos := pos) (af := af) (g := g) (T := T) (U := U) (op := .and) (.inl rfl) hx hy
  rwa [show bitsI .and .u8 (a.toNat : Int) b.toNat = ((a &&& b).toNat : Int) by
    show IntKind.u8.wrap ((BitVec.ofInt 8 (a.toNat : Int) &&& BitVec.ofInt 8 (b.toNat : Int)).toNat : Int) = _
    rw [ofInt8, ofInt8, wrap8]
    have := (a &&& b).toNat_lt
    show (((a &&& b).toNat : Int)) % 256 = _
    omega] at this
theorem pv_orB {a b : UInt8} (hx : ev E x = b8 a) (hy : ev E y = b8 b) : PV P ⟨d, .binOp .or T x y U, ty, pos, af, g⟩ E (b8 (a ||| b)) := by
  have := pv_bits (P := P) (dd := d) (ty := ty) (pos := pos) (af := af) (g := g) (T := T) (U := U) (op := .or) (.inr (.inl rfl)) hx hy
  rwa [show bitsI .or .u8 (a.toNat : Int) b.toNat = ((a ||| b).toNat : Int) by
    show IntKind.u8.wrap ((BitVec.ofInt 8 (a.toNat : Int) ||| BitVec.ofInt 8 (b.toNat : Int)).toNat : Int) = _
    rw [ofInt8, ofInt8, wrap8]
    have := (a ||| b).toNat_lt
    show (((a ||| b).toNat : Int)) % 256 = _
    omega] at this
/-- Four places to the right, to the left. -/
theorem pv_shrB4 {a : UInt8} {ky : IntKind} (hx : ev E x = b8 a) (hy : ev E y = .int ky 4) : PV P ⟨d, .binOp .shr T x y U, ty, pos, af, g⟩ E (b8 (a >>> 4)) := by
  have := pv_shr (P := P) (dd := d) (ty := ty) (pos := pos) (af := af) (g := g) (T := T) (U := U) hx hy (by decide)
  rwa [show (a.toNat : Int).fdiv (2 ^ (min (4 : Int).toNat IntKind.u8.bits)) = ((a >>> 4).toNat : Int) by
    rw [Int.fdiv_eq_ediv_of_nonneg _ (by decide), UInt8.toNat_shiftRight, Nat.shiftRight_eq_div_pow]
    show (a.toNat : Int) / 16 = ((a.toNat / 16 : Nat) : Int)
    omega] at this
theorem pv_shlB4 {a : UInt8} {ky : IntKind} (hx : ev E x = b8 a) (hy : ev E y = .int ky 4) : PV P ⟨d, .binOp .shl T x y U, ty, pos, af, g⟩ E (b8 (a <<< 4)) := by
  have := pv_shl (P := P) (dd := d) (ty := ty) (pos := pos) (af := af) (g := g) (T := T) (U := U) hx hy (by decide)
  rwa [show IntKind.u8.wrap ((a.toNat : Int) * 2 ^ (min (4 : Int).toNat IntKind.u8.bits)) = ((a <<< 4).toNat : Int) by
    rw [wrap8, UInt8.toNat_shiftLeft, Nat.shiftLeft_eq]
    show (a.toNat : Int) * 16 % 256 = ((a.toNat * 16 % 256 : Nat) : Int)
    omega] at this
/-- A byte as a number; a number as a byte. -/
theorem pv_convB {a : UInt8} (hx : ev E x = b8 a) (hT : (P.underlying T).isSome = true) (hU : intK P U = some .i64) : PV P ⟨d, .convert T U x, ty, pos, af, g⟩ E (I a.toNat) := by
  have := pv_conv (P := P) (d := d) (ty := ty) (pos := pos) (af := af) (g := g) hx hT hU
  rwa [wrap_i64 (by have := a.toNat_lt; unfold inI64; omega)] at this
theorem pv_toB {n : Nat} {k : IntKind} (hx : ev E x = .int k n) (hT : (P.underlying T).isSome = true) (hU : intK P U = some .u8) : PV P ⟨d, .convert T U x, ty, pos, af, g⟩ E (b8 (UInt8.ofNat n)) := by
  have := pv_conv (P := P) (d := d) (ty := ty) (pos := pos) (af := af) (g := g) hx hT hU
  rwa [show IntKind.u8.wrap (n : Int) = ((UInt8.ofNat n).toNat : Int) by rw [wrap8]; simp] at this
theorem pv_idxSB {x y : Operand} {a : Str} {i : Nat} {c : UInt8} (hT : isStr P T = true) (hx : ev E x = S a) (hy : ev E y = I i) (hi : a[i]? = some c) : PV P ⟨d, .index T x y, ty, pos, af, g⟩ E (b8 c) := pv_idxS hT hx hy hi
end

/-- A struct's cells out of its place, taken apart. -/
theorem S_ne_nil {s : Str} (h : ¬ s = []) : ∃ c r, s = c :: r := by
  cases s with
  | nil => exact absurd rfl h
  | cons c r => exact ⟨c, r, rfl⟩

theorem last_at {b : Str} (h : b ≠ []) : ∃ d, b.getLast? = some d ∧ b[b.length - 1]? = some d := by
  refine ⟨b.getLast h, List.getLast?_eq_some_getLast h, ?_⟩
  rw [List.getLast_eq_getElem h]
  exact List.getElem?_eq_getElem _

end Go.Vc
