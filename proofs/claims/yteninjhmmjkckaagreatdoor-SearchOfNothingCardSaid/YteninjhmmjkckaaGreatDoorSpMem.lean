/-
  Cells and rows of cells: plain definitions and laws. No program in sight.
-/
import Derived.Test.YteninjhmmjkckaaGreatDoorVcE
namespace Go.Sp
open Go.Vc

abbrev sLt (a b : Str) : Bool := Op.bytesLess a b

theorem sLt_irrefl : ∀ a : Str, sLt a a = false
  | [] => rfl
  | c :: r => by
    have := sLt_irrefl r
    simp only [sLt] at this
    simp [sLt, Op.bytesLess, this]

theorem sLt_trans : ∀ a b c : Str, sLt a b = true → sLt b c = true → sLt a c = true
  | _, [], _, h, _ => by simp [sLt, Op.bytesLess] at h
  | _, _ :: _, [], _, h => by simp [sLt, Op.bytesLess] at h
  | [], _ :: _, _ :: _, _, _ => rfl
  | x :: a, y :: b, z :: c, h1, h2 => by
    have ih := sLt_trans a b c
    simp only [sLt, Op.bytesLess, Bool.or_eq_true, Bool.and_eq_true, decide_eq_true_eq, beq_iff_eq] at *
    rcases h1 with h1 | ⟨rfl, h1⟩
    · rcases h2 with h2 | ⟨rfl, h2⟩
      · exact .inl (UInt8.lt_trans h1 h2)
      · exact .inl h1
    · rcases h2 with h2 | ⟨rfl, h2⟩
      · exact .inl h2
      · exact .inr ⟨rfl, ih h1 h2⟩

theorem sLt_total : ∀ a b : Str, a = b ∨ sLt a b = true ∨ sLt b a = true
  | [], [] => .inl rfl
  | [], _ :: _ => .inr (.inl rfl)
  | _ :: _, [] => .inr (.inr rfl)
  | x :: a, y :: b => by
    have ih := sLt_total a b
    simp only [sLt, Op.bytesLess, Bool.or_eq_true, Bool.and_eq_true, decide_eq_true_eq, beq_iff_eq] at *
    by_cases h1 : x < y
    · exact .inr (.inl (.inl h1))
    · by_cases h2 : y < x
      · exact .inr (.inr (.inl h2))
      · have e : x = y := UInt8.le_antisymm (UInt8.not_lt.1 h2) (UInt8.not_lt.1 h1)
        subst e
        rcases ih with rfl | h | h
        · exact .inl rfl
        · exact .inr (.inl (.inr ⟨rfl, h⟩))
        · exact .inr (.inr (.inr ⟨rfl, h⟩))

theorem sLt_asymm {a b : Str} (h : sLt a b = true) : sLt b a = false := by
  cases hb : sLt b a with
  | false => rfl
  | true => have := sLt_trans a b a h hb; rw [sLt_irrefl] at this; cases this

theorem sLt_ne {a b : Str} (h : sLt a b = true) : a ≠ b := fun e => by rw [e, sLt_irrefl] at h; cases h

structure Cell where
  key : Str
  val : Str
  del : Bool
  seq : Int
deriving DecidableEq

@[reducible] def Cell.cs (c : Cell) : List Value := [S c.key, S c.val, B c.del, I c.seq]
@[reducible] def Cell.v (c : Cell) : Value := .agg ⟨c.cs⟩
def Cell.zero : Cell := ⟨[], [], false, 0⟩

/-- Which of two cells stands ahead. -/
def less (a b : Cell) : Bool := if a.key ≠ b.key then sLt a.key b.key else decide (b.seq < a.seq)

theorem less_irrefl (a : Cell) : less a a = false := by simp [less]
theorem less_iff (a b : Cell) : less a b = true ↔ (sLt a.key b.key = true ∨ (a.key = b.key ∧ b.seq < a.seq)) := by
  unfold less
  by_cases e : a.key = b.key
  · simp [e, sLt_irrefl]
  · rw [if_pos e]; simp [e]
theorem less_trans {a b c : Cell} (h1 : less a b = true) (h2 : less b c = true) : less a c = true := by
  rw [less_iff] at *
  rcases h1 with h1 | ⟨e1, h1⟩
  · rcases h2 with h2 | ⟨e2, h2⟩
    · exact .inl (sLt_trans _ _ _ h1 h2)
    · exact .inl (e2 ▸ h1)
  · rcases h2 with h2 | ⟨e2, h2⟩
    · exact .inl (e1 ▸ h2)
    · exact .inr ⟨e1.trans e2, by omega⟩
theorem less_asymm {a b : Cell} (h : less a b = true) : less b a = false := by
  cases hb : less b a with
  | false => rfl
  | true => have := less_trans h hb; rw [less_irrefl] at this; cases this
/-- Neither is ahead of the other: one key, one number. -/
theorem less_tie {a b : Cell} (h1 : less a b = false) (h2 : less b a = false) : a.key = b.key ∧ a.seq = b.seq := by
  have n1 : ¬ less a b = true := by rw [h1]; decide
  have n2 : ¬ less b a = true := by rw [h2]; decide
  rw [less_iff, not_or] at n1 n2
  rcases sLt_total a.key b.key with h | h | h
  · refine ⟨h, ?_⟩
    have m1 : ¬ b.seq < a.seq := fun x => n1.2 ⟨h, x⟩
    have m2 : ¬ a.seq < b.seq := fun x => n2.2 ⟨h.symm, x⟩
    omega
  · exact absurd h n1.1
  · exact absurd h n2.1
theorem less_of_tie {a b : Cell} (h1 : a.key = b.key) (h2 : a.seq = b.seq) : less a b = false := by simp [less, h1, h2]

/-- A cell that may be laid. -/
def isC (c : Cell) : Bool := decide (1 ≤ c.key.length) && decide (c.key.length ≤ 4096) && decide (c.val.length ≤ 16384) && (!c.del || decide (c.val = [])) && decide (1 ≤ c.seq) && decide (c.seq ≤ 1099511627776)

def sizeC (c : Cell) : Nat := c.key.length + c.val.length + 16
def sizeL (l : List Cell) : Nat := (l.map sizeC).sum

/-- The newest cell of a key that is not above a number. -/
def first (l : List Cell) (key : Str) (seq : Int) : Option Cell := l.find? fun c => decide (c.key = key) && decide (c.seq ≤ seq)

def inScan (frm to : Str) (c : Cell) : Bool := !sLt c.key frm && (decide (to = []) || sLt c.key to)
def scan (l : List Cell) (frm to : Str) : List Cell := l.filter (inScan frm to)

/-- What stands ahead of a cell; what does not. -/
def pre (l : List Cell) (c : Cell) : List Cell := l.takeWhile (less · c)
def suf (l : List Cell) (c : Cell) : List Cell := l.dropWhile (less · c)
theorem pre_suf (l : List Cell) (c : Cell) : pre l c ++ suf l c = l := List.takeWhile_append_dropWhile ..

def has (l : List Cell) (c : Cell) : Bool := match suf l c with
  | s :: _ => decide (s.key = c.key) && decide (s.seq = c.seq)
  | [] => false

/-- A cell laid: whether it was; all cells then. -/
def put (l : List Cell) (c : Cell) : Bool × List Cell := if !isC c || has l c then (false, l) else (true, pre l c ++ c :: suf l c)

def Sorted : List Cell → Prop := List.Pairwise fun a b => less a b = true

theorem Sorted.put {l : List Cell} (h : Sorted l) (c : Cell) : Sorted (put l c).2 := by
  unfold Sp.put
  split
  · exact h
  · rename_i hc
    simp only [Bool.or_eq_true, not_or, Bool.not_eq_true] at hc
    have hps := pre_suf l c
    have h' : Sorted (pre l c ++ suf l c) := by rw [hps]; exact h
    have hp : ∀ x ∈ pre l c, less x c = true := fun x hx => (List.all_eq_true.1 (List.all_takeWhile (p := fun x => less x c) (l := l)) x hx)
    have hsorted := List.pairwise_append.1 h'
    have hs : ∀ x ∈ suf l c, less c x = true := by
      cases hsu : suf l c with
      | nil => intro x hx; cases hx
      | cons s r =>
        have hns : less s c = false := by
          have := List.head?_dropWhile_not (fun x => less x c) l
          rw [show List.dropWhile (fun x => less x c) l = suf l c from rfl, hsu] at this
          simpa using this
        have hcs : less c s = true := by
          cases hcs : less c s with
          | true => rfl
          | false =>
            have ht := less_tie hns hcs
            have hh : has l c = true := by unfold has; rw [hsu]; simp [ht]
            rw [hh] at hc; cases hc.2
        intro x hx
        rcases List.mem_cons.1 hx with rfl | hx
        · exact hcs
        · have := hsorted.2.1
          rw [hsu] at this
          exact less_trans hcs (List.rel_of_pairwise_cons this hx)
    refine List.pairwise_append.2 ⟨hsorted.1, List.pairwise_cons.2 ⟨hs, hsorted.2.1⟩, fun a ha b hb => ?_⟩
    rcases List.mem_cons.1 hb with rfl | hb
    · exact hp a ha
    · exact hsorted.2.2 a ha b hb

end Go.Sp
