/-
  Bytes put in the place of a byte; how keys begin. Plain laws.
-/
import Derived.Test.YteninjhmmjkckaaGreatDoorSpDiff
import Derived.Lib.Replace
namespace Go.Sp
open Go.Vc
set_option linter.unusedVariables false

/-- Each byte c, and what stands in its place. -/
def repl (c : UInt8) (new : Str) (s : Str) : Str := s.flatMap fun b => if b = c then new else [b]

theorem replaceK_one (c : UInt8) (new : Str) : ∀ s : Str, Lib.replaceK [c] new (Lib.count s [c]) s = repl c new s
  | [] => by rw [Lib.count_miss (by simp [Lib.index])]; rfl
  | b :: l => by
    have ih := replaceK_one c new l
    by_cases h : b = c
    · subst h
      have hi : Lib.index (b :: l) [b] = ((0 : Nat) : Int) := by rw [Lib.index]; simp [List.isPrefixOf]
      rw [Lib.count_cons_eq, Nat.add_comm, Lib.replaceK_hit _ _ _ _ _ hi]
      simp [repl] at ih ⊢
      exact ih
    · rw [Lib.count_cons_ne b c l h]
      have e : repl c new (b :: l) = b :: repl c new l := by simp [repl, h]
      rw [e, ← ih]
      cases hk : Lib.count l [c] with
      | zero => rfl
      | succ k =>
        obtain ⟨i, hi⟩ := Lib.index_of_count (s := l) (old := [c]) (by omega)
        have hp : ([c] : List UInt8).isPrefixOf (b :: l) = false := by simp [List.isPrefixOf, Ne.symm h]
        have hi2 : Lib.index (b :: l) [c] = ((i + 1 : Nat) : Int) := by
          rw [Lib.index, hp, hi]
          have : ¬ ((i : Int) == -1) = true := by simp
          simp only [Bool.false_eq_true, if_false, this]
          omega
        rw [Lib.replaceK_hit _ _ _ _ _ hi, Lib.replaceK_hit _ _ _ _ _ hi2]
        simp

theorem replaceAll_eq (c : UInt8) (new : Str) (hne : new ≠ [c]) (s : Str) : Lib.replaceAll s [c] new = repl c new s := by
  unfold Lib.replaceAll Lib.replace
  have h : ¬ ([c] == new) = true := by simp; exact fun e => hne e.symm
  rw [if_neg h]
  unfold Lib.replaceNum
  rw [if_pos (.inl (by decide))]
  exact replaceK_one c new s

/-- A nought is marked. -/
def escS (s : Str) : Str := repl 0 [0, 255] s
theorem esc_len (s : Str) : (escS s).length ≤ 2 * s.length := by
  induction s with
  | nil => simp [escS, repl]
  | cons c r ih =>
    unfold escS repl at *
    rw [List.flatMap_cons, List.length_append, List.length_cons]
    split <;> simp only [List.length_cons, List.length_nil] <;> omega
theorem esc_take {s : Str} {k : Nat} {c : UInt8} (h : s[k]? = some c) : escS (s.take (k + 1)) = if c = 0 then escS (s.take k) ++ [0, 255] else escS (s.take k) ++ [c] := by
  obtain ⟨hk, rfl⟩ := List.getElem?_eq_some_iff.1 h
  rw [List.take_succ_eq_append_getElem hk]
  unfold escS repl
  rw [List.flatMap_append]
  split <;> simp [*]
theorem u8_zero {c : UInt8} (h : (c.toNat : Int) = 0) : c = 0 := UInt8.toNat_inj.1 (by show c.toNat = 0; omega)
def begS (k : UInt8) (t s : Str) : Str := k :: (t ++ 0 :: (escS s ++ [0, 1]))
theorem lay_len : ∀ (ws l : List Str), (ws.foldl layS l).length ≤ l.length + ws.length
  | [], l => by simp
  | s :: ws, l => by
    have h1 := lay_len ws (layS l s)
    have h2 : (layS l s).length ≤ l.length + 1 := by
      unfold layS
      split
      · omega
      · have h := congrArg List.length (List.takeWhile_append_dropWhile (p := (sLt · s)) (l := l))
        simp only [List.length_append, List.length_cons] at *
        omega
    simp only [List.foldl_cons, List.length_cons]
    omega

end Go.Sp
