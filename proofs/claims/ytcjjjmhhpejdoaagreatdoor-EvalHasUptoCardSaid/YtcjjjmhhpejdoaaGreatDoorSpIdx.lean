/-
  Rows of three of a text; rows that rise. Plain laws.
-/
import Derived.Test.YtcjjjmhhpejdoaaGreatDoorSpDiff
import Derived.Test.YtcjjjmhhpejdoaaGreatDoorVcS
namespace Go.Sp
open Go.Vc
set_option linter.unusedVariables false

theorem sLt_iff : ∀ a b : Str, sLt a b = true ↔ a < b
  | _, [] => by simp [sLt, Op.bytesLess]
  | [], _ :: _ => by simp [sLt, Op.bytesLess]
  | x :: a, y :: b => by
    have ih := sLt_iff a b
    simp only [sLt, Op.bytesLess, Bool.or_eq_true, Bool.and_eq_true, decide_eq_true_eq, beq_iff_eq] at *
    rw [List.cons_lt_cons_iff, ih]

theorem mem_dropTake {l : List Str} {p : Str → Bool} {x : Str} : x ∈ l ↔ x ∈ l.takeWhile p ∨ x ∈ l.dropWhile p := by
  have h := congrArg (x ∈ ·) (List.takeWhile_append_dropWhile (p := p) (l := l))
  simp only [List.mem_append, eq_iff_iff] at h
  exact h.symm

theorem mem_layS {l : List Str} {s x : Str} : x ∈ layS l s ↔ x ∈ l ∨ x = s := by
  unfold layS
  split
  · rename_i h
    refine ⟨.inl, fun h1 => h1.elim id fun e => ?_⟩
    subst e
    exact (mem_dropTake (p := (sLt · x))).2 (.inr (List.mem_of_head? h))
  · rw [List.mem_append, List.mem_cons, mem_dropTake (l := l) (p := (sLt · s))]
    constructor
    · rintro (h | h | h)
      · exact .inl (.inl h)
      · exact .inr h
      · exact .inl (.inr h)
    · rintro ((h | h) | h)
      · exact .inl h
      · exact .inr (.inr h)
      · exact .inr (.inl h)

theorem takeWhile_all {l : List Str} {p : Str → Bool} : ∀ x ∈ l.takeWhile p, p x = true := fun x hx => by
  induction l with
  | nil => cases hx
  | cons a l ih =>
    rw [List.takeWhile_cons] at hx
    split at hx
    · rcases List.mem_cons.1 hx with rfl | hx
      · assumption
      · exact ih hx
    · cases hx
theorem dropWhile_head {l : List Str} {p : Str → Bool} {y : Str} {r : List Str} (h : l.dropWhile p = y :: r) : p y = false := by
  induction l with
  | nil => cases h
  | cons a l ih =>
    rw [List.dropWhile_cons] at h
    split at h
    · exact ih h
    · rename_i hp; cases h; exact Bool.eq_false_iff.2 hp

theorem rise_layS {l : List Str} {s : Str} (h : Rise l) : Rise (layS l s) := by
  unfold layS
  split
  · exact h
  · rename_i hh
    have h0 : Rise (l.takeWhile (sLt · s) ++ l.dropWhile (sLt · s)) := by rw [List.takeWhile_append_dropWhile]; exact h
    have h1 := rise_append h0
    have hd : ∀ y ∈ l.dropWhile (sLt · s), sLt s y = true := by
      cases hd : l.dropWhile (sLt · s) with
      | nil => intro y hy; cases hy
      | cons z r =>
        have hz := dropWhile_head hd
        rw [hd] at h1 hh
        have hzs : sLt s z = true := by
          rcases sLt_total s z with e | e | e
          · exact absurd (by rw [e]; rfl) hh
          · exact e
          · rw [e] at hz; cases hz
        intro y hy
        rcases List.mem_cons.1 hy with rfl | hy
        · exact hzs
        · exact sLt_trans _ _ _ hzs ((List.pairwise_cons.1 h1.2.1).1 y hy)
    refine List.pairwise_append.2 ⟨h1.1, List.pairwise_cons.2 ⟨hd, h1.2.1⟩, fun a ha b hb => ?_⟩
    rcases List.mem_cons.1 hb with rfl | hb
    · exact takeWhile_all (p := (sLt · b)) a ha
    · exact h1.2.2 a ha b hb

theorem rise_ext : ∀ {a b : List Str}, Rise a → Rise b → (∀ x, x ∈ a ↔ x ∈ b) → a = b
  | [], [], _, _, _ => rfl
  | [], y :: b, _, _, h => by have := (h y).2 List.mem_cons_self; cases this
  | x :: a, [], _, _, h => by have := (h x).1 List.mem_cons_self; cases this
  | x :: a, y :: b, ha, hb, h => by
    have ha' := List.pairwise_cons.1 ha
    have hb' := List.pairwise_cons.1 hb
    have e : x = y := by
      rcases List.mem_cons.1 ((h x).1 List.mem_cons_self) with e | h1
      · exact e
      · rcases List.mem_cons.1 ((h y).2 List.mem_cons_self) with e | h2
        · exact e.symm
        · have := sLt_asymm (ha'.1 y h2)
          rw [hb'.1 x h1] at this; cases this
    subst e
    congr 1
    refine rise_ext ha'.2 hb'.2 fun z => ?_
    constructor
    · intro hz
      rcases List.mem_cons.1 ((h z).1 (List.mem_cons_of_mem _ hz)) with e | h1
      · exact absurd (ha'.1 z hz) (by rw [e, sLt_irrefl]; decide)
      · exact h1
    · intro hz
      rcases List.mem_cons.1 ((h z).2 (List.mem_cons_of_mem _ hz)) with e | h1
      · exact absurd (hb'.1 z hz) (by rw [e, sLt_irrefl]; decide)
      · exact h1

theorem mem_sortS {l : List Str} {x : Str} : x ∈ sortS l ↔ x ∈ l := by unfold sortS; exact List.mem_mergeSort

theorem rise_sortS {l : List Str} (h : l.Nodup) : Rise (sortS l) := by
  have h1 : (sortS l).Pairwise fun x y => decide (x ≤ y) = true := by
    unfold sortS
    refine List.pairwise_mergeSort (fun a b c hab hbc => ?_) (fun a b => ?_) l
    · exact decide_eq_true (List.le_trans (of_decide_eq_true hab) (of_decide_eq_true hbc))
    · rcases List.le_total a b with h | h
      · simp [h]
      · simp [h]
  have h2 : (sortS l).Nodup := by unfold sortS; exact (List.mergeSort_perm l _).nodup_iff.2 h
  refine (h1.and h2).imp fun {a b} hab => ?_
  obtain ⟨hle, hne⟩ := hab
  rw [sLt_iff]
  have hle' : a ≤ b := of_decide_eq_true hle
  rcases sLt_total a b with e | e | e
  · exact absurd e hne
  · exact (sLt_iff _ _).1 e
  · exact absurd ((sLt_iff _ _).1 e) (List.not_lt.2 hle')

/-- All rows of three bytes. -/
def wins (s : Str) : List Str := (List.range (s.length - 2)).map fun i => (s.drop i).take 3
def grams (s : Str) : List Str := (wins s).foldl layS []

theorem foldl_lay {ws : List Str} : ∀ {l : List Str}, Rise l → Rise (ws.foldl layS l) ∧ ∀ x, x ∈ ws.foldl layS l ↔ x ∈ l ∨ x ∈ ws := by
  induction ws with
  | nil => intro l h; exact ⟨h, fun x => by simp⟩
  | cons s ws ih =>
    intro l h
    obtain ⟨h1, h2⟩ := ih (rise_layS (s := s) h)
    refine ⟨h1, fun x => ?_⟩
    rw [List.foldl_cons, h2, mem_layS, List.mem_cons, or_assoc]
theorem rise_grams (s : Str) : Rise (grams s) := (foldl_lay List.Pairwise.nil).1
theorem mem_grams {s x : Str} : x ∈ grams s ↔ x ∈ wins s := by
  have := (foldl_lay (ws := wins s) (l := []) List.Pairwise.nil).2 x
  unfold grams
  rw [this]; simp
theorem wins_len {s x : Str} (h : x ∈ wins s) : x.length = 3 := by
  unfold wins at h
  obtain ⟨i, hi, rfl⟩ := List.mem_map.1 h
  have : i < s.length - 2 := by simpa using hi
  simp; omega
theorem wins_take {s : Str} {k : Nat} (h : k + 3 ≤ s.length) : (wins s).take (k + 1) = (wins s).take k ++ [(s.drop k).take 3] := by
  have hk : k < (wins s).length := by unfold wins; simp; omega
  have e : (wins s)[k]? = some ((s.drop k).take 3) := by unfold wins; rw [List.getElem?_map, List.getElem?_range (by omega)]; rfl
  rw [List.take_add_one, e]; rfl
theorem wins_all {s : Str} {k : Nat} (h : s.length < k + 3) : (wins s).take k = wins s := List.take_of_length_le (by unfold wins; simp; omega)
theorem wins_length (s : Str) : (wins s).length = s.length - 2 := by unfold wins; simp
theorem sort_grams {s : Str} {l : List Str} (hn : l.Nodup) (hm : ∀ x, x ∈ l ↔ x ∈ wins s) : sortS l = grams s :=
  rise_ext (rise_sortS hn) (rise_grams s) fun x => by rw [mem_sortS, hm, mem_grams]

end Go.Sp
