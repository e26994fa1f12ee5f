/-
  How values are compared: plain definitions and laws.
-/
import Derived.Test.YteninjhmmjkckaaGreatDoorSpDp
import Derived.Test.YteninjhmmjkckaaGreatDoorSpRep
import Derived.Lib.SlTrimSet
import Derived.Lib.Strings
import Derived.Lib.IndexMore
namespace Go.Sp
open Go.Vc
set_option linter.unusedVariables false

/-- Without blanks and dashes. -/
def bareS (s : Str) : Str := s.filter fun c => decide (c ≠ 32) && decide (c ≠ 45)
theorem repl_nil (c : UInt8) (s : Str) : repl c [] s = s.filter fun b => decide (b ≠ c) := by
  induction s with
  | nil => rfl
  | cons b s ih =>
    unfold repl at *
    rw [List.flatMap_cons, ih, List.filter_cons]
    by_cases h : b = c <;> simp [h]
theorem bare_repl (s : Str) : repl 45 [] (repl 32 [] s) = bareS s := by
  rw [repl_nil, repl_nil, List.filter_filter]
  unfold bareS
  congr 1; funext c
  rw [Bool.and_comm]
theorem repl_len0 (c : UInt8) (s : Str) : (repl c [] s).length ≤ s.length := by rw [repl_nil]; exact List.length_filter_le ..
theorem bare_len (s : Str) : (bareS s).length ≤ s.length := List.length_filter_le ..
theorem bare_bare (s : Str) : bareS (bareS s) = bareS s := by unfold bareS; rw [List.filter_filter]; congr 1; funext c; simp
theorem bare_next {s : Str} {k : Nat} {c : UInt8} (h : s[k]? = some c) : bareS (s.take (k + 1)) = bareS (s.take k) ++ (if c ≠ 32 ∧ c ≠ 45 then [c] else []) := by
  rw [take_snocS h]
  unfold bareS
  rw [List.filter_append]
  congr 1
  by_cases h1 : c = 32 <;> by_cases h2 : c = 45 <;> simp [h1, h2]

/-- What stands behind a dash. -/
def restS (s : Str) : Str := if s.head? = some 45 then s.drop 1 else s
theorem rest_prefix (s : Str) : Lib.trimPrefix s [45] = restS s := by
  unfold Lib.trimPrefix Lib.hasPrefix restS
  cases s with
  | nil => rfl
  | cons c r =>
    by_cases h : c = 45
    · simp [List.isPrefixOf, h]
    · simp [List.isPrefixOf, h, Ne.symm h]
theorem rest_len (s : Str) : (restS s).length ≤ s.length := by unfold restS; split <;> simp
def digs : Str := [48, 49, 50, 51, 52, 53, 54, 55, 56, 57]
theorem digs_in (c : UInt8) : digs.contains c = isDig c := by
  have e : ∀ c : Fin 256, digs.contains (UInt8.ofNat c) = isDig (UInt8.ofNat c) := by decide +kernel
  have := e ⟨c.toNat, c.toNat_lt⟩
  simpa using this
theorem dropWhile_nil {p : UInt8 → Bool} : ∀ {l : Str}, l.dropWhile p = [] ↔ l.all p = true
  | [] => by simp
  | c :: l => by
    rw [List.dropWhile_cons, List.all_cons]
    cases h : p c with
    | true => simpa using dropWhile_nil (l := l)
    | false => simp
theorem trim_digs (d : Str) : Lib.trimS d digs = [] ↔ d.all isDig = true := by
  have e : (fun c => digs.contains c) = isDig := funext digs_in
  unfold Lib.trimS Lib.trimLeftS Lib.trimRightS
  rw [e, dropWhile_nil]
  constructor
  · intro h
    rw [List.all_reverse] at h
    cases hr : d.reverse.dropWhile isDig with
    | nil => rw [dropWhile_nil, List.all_reverse] at hr; exact hr
    | cons c r =>
      have h1 : isDig c = false := by
        have := List.head?_dropWhile_not isDig d.reverse
        rw [hr] at this
        simpa using this
      rw [hr, List.all_cons, h1] at h
      cases h
  · intro h
    have : d.reverse.dropWhile isDig = [] := by rw [dropWhile_nil, List.all_reverse]; exact h
    rw [this]; rfl
/-- Is a text a number? -/
def numB (s : Str) : Bool := decide (restS s ≠ []) && decide ((restS s).length ≤ 18) && (restS s).all isDig && !(decide ((restS s).head? = some 48) && decide (s ≠ [48]))
theorem num_len (s : Str) : 1 < s.length ∨ ¬ (restS s).head? = some 48 ∨ s = [48] := by
  unfold restS
  match s with
  | [] => simp
  | [c] =>
    by_cases h : c = 45
    · simp [h]
    · by_cases h2 : c = 48 <;> simp [h, h2]
  | a :: b :: r => simp

/-- What counts of a value. -/
def normM (syn : Int) (s : Str) : Option Str :=
  if 256 < s.length then none
  else if syn = 1 then (if s = [] then none else some (valS s))
  else if syn = 2 then (if numB s = true then some s else none)
  else if syn = 3 then (if (parseS s).2 = 0 then some (printS ((parseS s).1.map normA)) else none)
  else if syn = 4 then some s
  else if syn = 5 then (if bareS s = [] then none else some (bareS s))
  else none
def equalM (syn : Int) (a b : Str) : Bool := match normM syn a, normM syn b with
  | some x, some y => decide (x = y)
  | _, _ => false

/-- What counts of a piece. -/
def pieceM (syn : Int) (s : Str) : Str :=
  if syn = 5 then bareS s else if syn = 4 then s else if s = [] then [] else if foldS s = [] then [32]
  else (if s.head? = some 32 then [32] else []) ++ foldS s ++ (if s.getLast? = some 32 then [32] else [])
theorem pieceM_len (syn : Int) (s : Str) : (pieceM syn s).length ≤ s.length + 2 := by
  have h1 := bare_len s
  have h2 := foldS_len s
  unfold pieceM
  repeat' split
  all_goals simp
  all_goals omega
/-- One piece is taken off. -/
def stepM (i n : Nat) (s p : Str) : Option Str :=
  if i = 0 then (if p.isPrefixOf s = true then some (s.drop p.length) else none)
  else if i + 1 = n then (if p.isSuffixOf s = true then some s else none)
  else (if 0 ≤ Lib.index s p then some (s.drop ((Lib.index s p).toNat + p.length)) else none)
def subL (syn : Int) (n : Nat) : Nat → List Str → Str → Bool
  | _, [], _ => true
  | i, p :: r, s => match stepM i n s (pieceM syn p) with
    | none => false
    | some t => subL syn n (i + 1) r t
def subM (syn : Int) (val : Str) (l : List Str) : Bool × Bool := match normM syn val with
  | none => (false, false)
  | some s => if syn = 2 ∨ syn = 3 ∨ l.length < 2 ∨ 16 < l.length then (false, false) else (subL syn l.length 0 l s, true)
theorem stepM_len {i n : Nat} {s p t : Str} (h : stepM i n s p = some t) : t.length ≤ s.length := by
  unfold stepM at h
  split at h
  · split at h <;> cases h; simp
  · split at h
    · split at h <;> cases h; exact Nat.le_refl _
    · split at h <;> cases h; simp

def heavyS : Nat → List Str → Bool
  | _, [] => false
  | n, s :: r => if 1500 < n + 1 + s.length then true else heavyS (n + 1 + s.length) r
theorem heavy_not : ∀ {l : List Str} {n : Nat}, heavyS n l = false → ∀ s ∈ l, s.length < 1500
  | [], _, _, s, hs => by cases hs
  | a :: l, n, h, s, hs => by
    unfold heavyS at h
    split at h
    · cases h
    · rcases List.mem_cons.1 hs with rfl | hs
      · omega
      · exact heavy_not h s hs
theorem heavy_len : ∀ {l : List Str} {n : Nat}, heavyS n l = false → n ≤ 1500 → n + l.length ≤ 1500
  | [], n, _, hn => hn
  | a :: l, n, h, _ => by
    unfold heavyS at h
    split at h
    · cases h
    · have := heavy_len h (by omega)
      simp only [List.length_cons]; omega
theorem norm_len {syn : Int} {s a : Str} (h : normM syn s = some a) : a.length ≤ 1000000 := by
  unfold normM at h
  split at h
  · cases h
  · rename_i hl
    split at h
    · split at h
      · cases h
      · cases h; have := valS_len s; omega
    · split at h
      · split at h
        · cases h; omega
        · cases h
      · split at h
        · split at h
          · cases h
            have h1 := parse_small s
            have h2 := small_norm h1
            have h3 := print_len h2 (List.map normA (parseS s).1).length
            have h4 : isN (parseS s).1 = true ∨ (parseS s).1 = [] := by
              unfold parseS
              split
              · exact .inr rfl
              · split
                · exact .inr rfl
                · split
                  · rename_i h5; exact .inl h5
                  · exact .inr rfl
            have h5 : (List.map normA (parseS s).1).length ≤ 12 := by
              rw [List.length_map]
              rcases h4 with h4 | h4
              · unfold isN at h4; simp only [Bool.and_eq_true, decide_eq_true_eq] at h4; exact h4.1
              · rw [h4]; decide
            unfold printS
            have : 40002 * (List.map normA (parseS s).1).length ≤ 40002 * 12 := Nat.mul_le_mul_left _ h5
            omega
          · cases h
        · split at h
          · cases h; omega
          · split at h
            · split at h
              · cases h
              · cases h; have := bare_len s; omega
            · cases h
end Go.Sp
