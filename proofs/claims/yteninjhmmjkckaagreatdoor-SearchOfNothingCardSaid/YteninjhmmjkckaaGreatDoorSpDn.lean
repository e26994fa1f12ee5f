/-
  Names (chapter 13): types, folds, names as texts. Plain definitions and laws.
-/
import Derived.Test.YteninjhmmjkckaaGreatDoorSpMem
namespace Go.Sp
open Go.Vc
set_option linter.unusedVariables false

def isLet (c : UInt8) : Bool := (decide (97 ≤ c) && decide (c ≤ 122)) || (decide (65 ≤ c) && decide (c ≤ 90))
def isDig (c : UInt8) : Bool := decide (48 ≤ c) && decide (c ≤ 57)
def typC (c : UInt8) : Bool := isLet c || isDig c || decide (c = 45)
/-- Is a text a type? -/
def typeS (s : Str) : Bool := match s with
  | [] => false
  | c :: r => decide ((c :: r).length ≤ 32) && isLet c && (c :: r).all typC

/-- A digit of sixteen. -/
def halfB (c : UInt8) : Option UInt8 := if isDig c then some (c - 48) else if 97 ≤ c ∧ c ≤ 102 then some (c - 97 + 10) else if 65 ≤ c ∧ c ≤ 70 then some (c - 65 + 10) else none
def halfI (c : UInt8) : Int := match halfB c with
  | some b => b.toNat
  | none => -1
def hexB (c : UInt8) : UInt8 := if c < 10 then 48 + c else 97 + c - 10

def inS (c : UInt8) (s : Str) : Bool := s.any fun x => decide (x = c)

/-- Letters' case. -/
def lowB (c : UInt8) : UInt8 := if 65 ≤ c ∧ c ≤ 90 then c + 32 else c
def foldStep (b : Str) (c : UInt8) : Str := if c = 32 ∧ (b = [] ∨ b.getLast? = some 32) then b else b ++ [lowB c]
def stripB (b : Str) : Str := if b.getLast? = some 32 then b.dropLast else b
/-- Letters' case and rows of blanks do not count. -/
def foldS (s : Str) : Str := stripB (s.foldl foldStep [])

theorem take_snocS {α : Type} {l : List α} {k : Nat} {c : α} (h : l[k]? = some c) : l.take (k + 1) = l.take k ++ [c] := by
  obtain ⟨hk, rfl⟩ := List.getElem?_eq_some_iff.1 h
  exact List.take_succ_eq_append_getElem hk
theorem drop_consS {α : Type} {l : List α} {k : Nat} {c : α} (h : l[k]? = some c) : l.drop k = c :: l.drop (k + 1) := by
  obtain ⟨hk, rfl⟩ := List.getElem?_eq_some_iff.1 h
  exact List.drop_eq_getElem_cons hk
theorem all_take {s : Str} {p : UInt8 → Bool} {k : Nat} {c : UInt8} (h : s[k]? = some c) (ha : (s.take k).all p = true) (hp : p c = true) : (s.take (k + 1)).all p = true := by
  rw [take_snocS h, List.all_append, ha]; simp [hp]
theorem not_all {s : Str} {p : UInt8 → Bool} {k : Nat} {c : UInt8} (h : s[k]? = some c) (hp : p c = false) : s.all p = false := by
  cases hh : s.all p with
  | false => rfl
  | true => rw [List.all_eq_true.1 hh c (List.mem_of_getElem? h)] at hp; cases hp
theorem any_take {s : Str} {p : UInt8 → Bool} {k : Nat} {c : UInt8} (h : s[k]? = some c) (ha : (s.take k).any p = false) (hp : p c = false) : (s.take (k + 1)).any p = false := by
  rw [take_snocS h, List.any_append, ha]; simp [hp]
theorem any_at {s : Str} {p : UInt8 → Bool} {k : Nat} {c : UInt8} (h : s[k]? = some c) (hp : p c = true) : s.any p = true := List.any_eq_true.2 ⟨c, List.mem_of_getElem? h, hp⟩

theorem fold_take {s : Str} {k : Nat} {c : UInt8} (h : s[k]? = some c) : (s.take (k + 1)).foldl foldStep [] = foldStep ((s.take k).foldl foldStep []) c := by
  rw [take_snocS h, List.foldl_append]; rfl
theorem foldStep_len (b : Str) (c : UInt8) : (foldStep b c).length ≤ b.length + 1 := by
  unfold foldStep; split <;> simp
theorem foldl_lenB : ∀ (s b : Str), (s.foldl foldStep b).length ≤ b.length + s.length
  | [], b => by simp
  | c :: s, b => by
    have h1 := foldl_lenB s (foldStep b c)
    have h2 := foldStep_len b c
    simp only [List.foldl_cons, List.length_cons]
    omega
theorem foldS_len (s : Str) : (foldS s).length ≤ s.length := by
  have h := foldl_lenB s []
  unfold foldS stripB
  simp only [List.length_nil] at h
  split
  · rw [List.length_dropLast]; omega
  · omega
theorem fold_skip {b : Str} {c : UInt8} (hc : c = 32) (hb : b = [] ∨ b.getLast? = some 32) : foldStep b c = b := if_pos ⟨hc, hb⟩
theorem fold_put {b : Str} {c : UInt8} (h : ¬ (c = 32 ∧ (b = [] ∨ b.getLast? = some 32))) : foldStep b c = b ++ [lowB c] := if_neg h
theorem low_blank {c : UInt8} : lowB c = 32 ↔ c = 32 := by
  unfold lowB
  split
  · rename_i h
    constructor
    · intro e
      have h0 : c = 0 := by have := congrArg (· - 32) e; simpa using this
      subst h0
      exact absurd h.1 (by decide)
    · intro e
      subst e
      exact absurd h.1 (by decide)
  · exact Iff.rfl
theorem low_up {c : UInt8} (h1 : 65 ≤ c) (h2 : c ≤ 90) : lowB c = c + 32 := if_pos ⟨h1, h2⟩
theorem low_same {c : UInt8} (h : ¬ (65 ≤ c ∧ c ≤ 90)) : lowB c = c := if_neg h

/-- A value, folded. -/
def valS (s : Str) : Str := if foldS s = [] ∧ s ≠ [] then [32] else foldS s
theorem valS_len (s : Str) : (valS s).length ≤ s.length := by
  unfold valS
  split
  · rename_i h
    cases s with
    | nil => exact absurd rfl h.2
    | cons c r => simp
  · exact foldS_len s

/-! ### names as texts -/

structure Ava where
  typ : Str
  val : Str
deriving DecidableEq
@[reducible] def Ava.cs (a : Ava) : List Value := [S a.typ, S a.val]

def blankS (r : Str) : Str := r.dropWhile fun c => decide (c = 32)
/-- What stands behind a stroke. -/
def strokes : Str := [44, 43, 34, 92, 60, 62, 59, 35, 61, 32]
def specials : Str := [44, 43, 34, 92, 60, 62, 59]
def strokeS : Str → Option (UInt8 × Str)
  | [] => none
  | c :: r => if inS c strokes = true then some (c, r) else match halfB c, r with
    | some h, d :: r' => (halfB d).map fun l => (h <<< 4 ||| l, r')
    | _, _ => none
theorem strokeS_in {c : UInt8} {r : Str} (h : inS c strokes = true) : strokeS (c :: r) = some (c, r) := by simp [strokeS, h]
theorem strokeS_nohex {c : UInt8} {r : Str} (h : ¬ inS c strokes = true) (hc : halfB c = none) : strokeS (c :: r) = none := by simp [strokeS, h, hc]
theorem strokeS_short {c : UInt8} (h : ¬ inS c strokes = true) : strokeS [c] = none := by
  simp only [strokeS, h]
  split
  · rename_i e; cases e
  · split
    · rename_i h2; cases h2
    · rfl
theorem strokeS_hex {c d k : UInt8} {r : Str} (h : ¬ inS c strokes = true) (hc : halfB c = some k) : strokeS (c :: d :: r) = (halfB d).map fun l => (k <<< 4 ||| l, r) := by simp [strokeS, h, hc]
theorem strokeS_lt {r r' : Str} {x : UInt8} (h : strokeS r = some (x, r')) : r'.length < r.length := by
  unfold strokeS at h
  split at h
  · cases h
  · split at h
    · cases h; simp
    · split at h
      · simp only [Option.map_eq_some_iff, Prod.mk.injEq] at h
        obtain ⟨l, _, _, rfl⟩ := h
        simp; omega
      · cases h
/-- A value up to a comma, or the end: its bytes, how many count, what is left. -/
def valL (r : Str) (b : Str) (k : Nat) : Option (Str × Nat × Str) := match r with
  | [] => some (b, k, [])
  | c :: r => if c = 44 then some (b, k, c :: r) else if c = 92 then (match h : strokeS r with
      | none => none
      | some (x, r') => valL r' (b ++ [x]) (b.length + 1)) else if inS c [43, 34, 60, 62, 59] = true then none else valL r (b ++ [c]) (if c = 32 then k else b.length + 1)
termination_by r.length
decreasing_by
  · have := strokeS_lt h; simp; omega
  · simp

theorem valL_nil (b : Str) (k : Nat) : valL [] b k = some (b, k, []) := by rw [valL]
theorem valL_comma (r b : Str) (k : Nat) : valL (44 :: r) b k = some (b, k, 44 :: r) := by rw [valL]; rfl
theorem valL_no {r b : Str} {k : Nat} (h : strokeS r = none) : valL (92 :: r) b k = none := by
  rw [valL, if_neg (by decide), if_pos rfl]
  split
  · rfl
  · rename_i h2; rw [h] at h2; cases h2
theorem valL_stroke {r r' b : Str} {k : Nat} {x : UInt8} (h : strokeS r = some (x, r')) : valL (92 :: r) b k = valL r' (b ++ [x]) (b.length + 1) := by
  rw [valL, if_neg (by decide), if_pos rfl]
  split
  · rename_i h2; rw [h] at h2; cases h2
  · rename_i h2; rw [h] at h2; cases h2; rfl
theorem valL_bad {c : UInt8} {r b : Str} {k : Nat} (h1 : c ≠ 44) (h2 : c ≠ 92) (h3 : inS c [43, 34, 60, 62, 59] = true) : valL (c :: r) b k = none := by rw [valL, if_neg h1, if_neg h2, if_pos h3]
theorem valL_byte {c : UInt8} {r b : Str} {k : Nat} (h1 : c ≠ 44) (h2 : c ≠ 92) (h3 : inS c [43, 34, 60, 62, 59] = false) : valL (c :: r) b k = valL r (b ++ [c]) (if c = 32 then k else b.length + 1) := by rw [valL, if_neg h1, if_neg h2, if_neg (by rw [h3]; decide)]

theorem in_special {c : UInt8} (h1 : c ≠ 44) (h2 : c ≠ 92) : inS c specials = inS c [43, 34, 60, 62, 59] := by
  simp [inS, specials, Ne.symm h1, Ne.symm h2]

/-- A value; what is left. -/
def valueS (r : Str) : Option (Str × Str) := match valL r [] 0 with
  | none => none
  | some (b, k, rest) => if 0 < k then some (b.take k, rest) else none
/-- A part of a name; what is left. -/
def partS (r : Str) : Option (Ava × Str) :=
  if typeS ((blankS r).takeWhile typC) = true then match blankS ((blankS r).dropWhile typC) with
    | 61 :: r3 => (valueS (blankS r3)).map fun x => (⟨(blankS r).takeWhile typC, x.1⟩, x.2)
    | _ => none
  else none

theorem partS_no {r : Str} (h : typeS ((blankS r).takeWhile typC) = false) : partS r = none := by unfold partS; rw [if_neg (by rw [h]; decide)]
theorem partS_ne {r : Str} (h : ∀ t, blankS ((blankS r).dropWhile typC) ≠ 61 :: t) : partS r = none := by
  unfold partS
  split
  · split
    · rename_i r3 h3; exact absurd h3 (h r3)
    · rfl
  · rfl
theorem partS_go {r r3 : Str} (ht : typeS ((blankS r).takeWhile typC) = true) (h : blankS ((blankS r).dropWhile typC) = 61 :: r3) : partS r = (valueS (blankS r3)).map fun x => (⟨(blankS r).takeWhile typC, x.1⟩, x.2) := by
  unfold partS
  rw [if_pos ht]
  split
  · rename_i r4 h4; rw [h4] at h; cases h; rfl
  · rename_i h4; exact absurd h (h4 r3)
theorem blankS_lt (r : Str) : (blankS r).length ≤ r.length := (List.dropWhile_sublist _).length_le

theorem valL_left : ∀ {n : Nat} {r b b' rest : Str} {k k' : Nat}, r.length ≤ n → valL r b k = some (b', k', rest) → rest.length ≤ r.length ∧ (rest = [] ∨ ∃ t, rest = 44 :: t)
  | n, [], b, b', rest, k, k', _, h => by
    rw [valL_nil] at h; cases h; exact ⟨Nat.le_refl _, .inl rfl⟩
  | 0, c :: r, _, _, _, _, _, hn, _ => by simp at hn
  | n + 1, c :: r, b, b', rest, k, k', hn, h => by
    by_cases h1 : c = 44
    · subst h1; rw [valL_comma] at h; cases h; exact ⟨Nat.le_refl _, .inr ⟨_, rfl⟩⟩
    · by_cases h2 : c = 92
      · subst h2
        cases hs : strokeS r with
        | none => rw [valL_no hs] at h; cases h
        | some x =>
          obtain ⟨x, r'⟩ := x
          rw [valL_stroke hs] at h
          have hlt := strokeS_lt hs
          have ih := valL_left (n := n) (by simp at hn; omega) h
          exact ⟨by simp; omega, ih.2⟩
      · cases h3 : inS c [43, 34, 60, 62, 59] with
        | true => rw [valL_bad h1 h2 h3] at h; cases h
        | false =>
          rw [valL_byte h1 h2 h3] at h
          have ih := valL_left (n := n) (by simp at hn; omega) h
          exact ⟨by simp; omega, ih.2⟩
theorem valueS_left {r v rest : Str} (h : valueS r = some (v, rest)) : rest.length ≤ r.length ∧ (rest = [] ∨ ∃ t, rest = 44 :: t) := by
  unfold valueS at h
  split at h
  · cases h
  · rename_i b k rs hv
    split at h
    · cases h; exact valL_left (Nat.le_refl _) hv
    · cases h
theorem partS_left {r rest : Str} {a : Ava} (h : partS r = some (a, rest)) : rest.length < r.length ∧ (rest = [] ∨ ∃ t, rest = 44 :: t) := by
  unfold partS at h
  split at h
  · split at h
    · rename_i r3 h3
      simp only [Option.map_eq_some_iff, Prod.mk.injEq] at h
      obtain ⟨⟨v, rs⟩, hv, _, rfl⟩ := h
      have h1 := valueS_left hv
      have h2 := blankS_lt r3
      have h4 := blankS_lt ((blankS r).dropWhile typC)
      have h5 : ((blankS r).dropWhile typC).length ≤ (blankS r).length := (List.dropWhile_sublist _).length_le
      have h6 := blankS_lt r
      rw [h3, List.length_cons] at h4
      exact ⟨by simp only []; omega, h1.2⟩
    · cases h
  · cases h

/-- All parts. -/
def partsL (r : Str) (acc : List Ava) : Option (List Ava) := match h : partS r with
  | none => none
  | some (a, []) => some (acc ++ [a])
  | some (a, _ :: r') => partsL r' (acc ++ [a])
termination_by r.length
decreasing_by
  have := (partS_left h).1; simp at this; omega
theorem partsL_none {r : Str} {acc : List Ava} (h : partS r = none) : partsL r acc = none := by
  rw [partsL]; split <;> first | rfl | (rename_i h2; rw [h] at h2; cases h2)
theorem partsL_end {r : Str} {acc : List Ava} {a : Ava} (h : partS r = some (a, [])) : partsL r acc = some (acc ++ [a]) := by
  rw [partsL]; split <;> first | (rename_i h2; rw [h] at h2; cases h2; done) | (rename_i h2; rw [h] at h2; cases h2; rfl)
theorem partsL_more {r r' : Str} {acc : List Ava} {a : Ava} {c : UInt8} (h : partS r = some (a, c :: r')) : partsL r acc = partsL r' (acc ++ [a]) := by
  rw [partsL]; split <;> first | (rename_i h2; rw [h] at h2; cases h2; done) | (rename_i h2; rw [h] at h2; cases h2; rfl)

def okAva (a : Ava) : Bool := typeS a.typ && !(decide (a.val = []) || decide (64 < a.val.length))
def isN (n : List Ava) : Bool := decide (n.length ≤ 12) && n.all okAva
/-- A text as a name; why it is none. -/
def parseS (s : Str) : List Ava × Int := if s = [] then ([], 0) else match partsL s [] with
  | none => ([], 3)
  | some n => if isN n = true then (n, 0) else ([], 5)

end Go.Sp
