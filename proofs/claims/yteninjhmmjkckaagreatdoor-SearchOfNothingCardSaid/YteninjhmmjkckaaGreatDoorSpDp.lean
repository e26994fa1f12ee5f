/-
  Names as they are printed; as they are compared. Plain definitions and laws.
-/
import Derived.Test.YteninjhmmjkckaaGreatDoorSpDn
namespace Go.Sp
open Go.Vc
set_option linter.unusedVariables false

/-- Is a byte told behind a stroke? -/
def markB (c : UInt8) (j n : Nat) : Bool := inS c specials || (decide (j = 0) && (decide (c = 35) || decide (c = 32))) || (decide (j + 1 = n) && decide (c = 32))
def escC (c : UInt8) (j n : Nat) : Str := if c < 32 ∨ 126 < c then [92, hexB (c >>> 4), hexB (c &&& 15)] else if markB c j n = true then [92, c] else [c]
def toldN (s : Str) : Nat → Str
  | 0 => []
  | k + 1 => toldN s k ++ (match s[k]? with
    | some c => escC c k s.length
    | none => [])
/-- A value as it is printed. -/
def toldS (s : Str) : Str := toldN s s.length
def headA (k : Nat) (a : Ava) : Str := (if k = 0 then [] else [44]) ++ (a.typ ++ [61])
def printN (l : List Ava) : Nat → Str
  | 0 => []
  | k + 1 => printN l k ++ (match l[k]? with
    | some a => headA k a ++ toldS a.val
    | none => [])
/-- A name as a text. -/
def printS (l : List Ava) : Str := printN l l.length

theorem escC_len (c : UInt8) (j n : Nat) : (escC c j n).length ≤ 3 := by unfold escC; split <;> (try split) <;> simp
theorem told_next {s : Str} {k : Nat} {c : UInt8} (h : s[k]? = some c) : toldN s (k + 1) = toldN s k ++ escC c k s.length := by simp [toldN, h]
theorem told_len (s : Str) : ∀ k, (toldN s k).length ≤ 3 * k
  | 0 => Nat.le_refl _
  | k + 1 => by
    have h := told_len s k
    rw [toldN, List.length_append]
    cases hk : s[k]? with
    | none => simp only [List.length_nil]; omega
    | some c => have := escC_len c k s.length; simp only []; omega
theorem print_next {l : List Ava} {k : Nat} {a : Ava} (h : l[k]? = some a) : printN l (k + 1) = printN l k ++ (headA k a ++ toldS a.val) := by simp [printN, h]
theorem headA_len (k : Nat) (a : Ava) : (headA k a).length ≤ a.typ.length + 2 := by unfold headA; split <;> simp <;> omega
def smallN (l : List Ava) : Prop := l.length ≤ 10000 ∧ ∀ a ∈ l, a.typ.length ≤ 10000 ∧ a.val.length ≤ 10000
theorem smallN.at {l : List Ava} (h : smallN l) {k : Nat} {a : Ava} (hk : l[k]? = some a) : a.typ.length ≤ 10000 ∧ a.val.length ≤ 10000 := h.2 a (List.mem_of_getElem? hk)
theorem print_len {l : List Ava} (h : smallN l) : ∀ k, (printN l k).length ≤ 40002 * k
  | 0 => Nat.le_refl _
  | k + 1 => by
    have ih := print_len h k
    rw [printN, List.length_append]
    cases hk : l[k]? with
    | none => simp only [List.length_nil]; omega
    | some a =>
      have h1 := h.at hk
      have h2 := headA_len k a
      have h3 := told_len a.val a.val.length
      simp only [List.length_append]
      unfold toldS
      omega
/-- A name of which case and rows of blanks do not count. -/
def normA (a : Ava) : Ava := ⟨foldS a.typ, valS a.val⟩
theorem small_norm {l : List Ava} (h : smallN l) : smallN (l.map normA) := by
  refine ⟨by rw [List.length_map]; exact h.1, fun a ha => ?_⟩
  obtain ⟨b, hb, rfl⟩ := List.mem_map.1 ha
  have h1 := h.2 b hb
  have h2 := foldS_len b.typ
  have h3 := valS_len b.val
  exact ⟨by show (foldS b.typ).length ≤ _; omega, by show (valS b.val).length ≤ _; omega⟩
theorem typeS_len {s : Str} (h : typeS s = true) : s.length ≤ 32 := by
  cases s with
  | nil => simp
  | cons c r => unfold typeS at h; simp only [Bool.and_eq_true, decide_eq_true_eq] at h; exact h.1.1
theorem isN_small {l : List Ava} (h : isN l = true) : smallN l := by
  unfold isN at h
  simp only [Bool.and_eq_true, decide_eq_true_eq] at h
  refine ⟨by omega, fun a ha => ?_⟩
  have h1 := List.all_eq_true.1 h.2 a ha
  unfold okAva at h1
  simp only [Bool.and_eq_true, Bool.not_eq_true', Bool.or_eq_false_iff, decide_eq_false_iff_not] at h1
  have h2 := typeS_len h1.1
  omega
theorem parse_small (s : Str) : smallN (parseS s).1 := by
  have h0 : smallN [] := ⟨Nat.zero_le _, by intro a h; cases h⟩
  unfold parseS
  split
  · exact h0
  · split
    · exact h0
    · split
      · rename_i h; exact isN_small h
      · exact h0

end Go.Sp
