/-
  Cells laid one by one: the order of unlike ones does not matter. Plain laws.
-/
import Derived.Test.YtodmkkcediofgaaSpMem
namespace Go.Sp
open Go.Vc
set_option linter.unusedVariables false

def putAll (l : List Cell) (cs : List Cell) : List Cell := cs.foldl (fun l c => (put l c).2) l
theorem putAll_snoc (l cs : List Cell) (c : Cell) : putAll l (cs ++ [c]) = (put (putAll l cs) c).2 := by simp [putAll, List.foldl_append]

def unlike (a b : Cell) : Prop := ¬ (a.key = b.key ∧ a.seq = b.seq)

theorem put_members {l : List Cell} {c x : Cell} (hu : ∀ y ∈ l, unlike y c) : x ∈ (put l c).2 ↔ x ∈ l ∨ (x = c ∧ isC c = true) := by
  have hh : has l c = false := by
    unfold has
    cases hs : suf l c with
    | nil => rfl
    | cons s r =>
      have hm : s ∈ l := by
        have := pre_suf l c
        rw [hs] at this
        rw [← this]; simp
      have := hu s hm
      unfold unlike at this
      simp only [Bool.and_eq_false_iff, decide_eq_false_iff_not]
      by_cases e : s.key = c.key
      · exact .inr (fun e2 => this ⟨e, e2⟩)
      · exact .inl e
  cases hc : isC c with
  | false => simp [put, hc]
  | true =>
    have e : put l c = (true, pre l c ++ c :: suf l c) := by simp [put, hc, hh]
    have e2 : x ∈ l ↔ x ∈ pre l c ∨ x ∈ suf l c := by
      rw [← List.mem_append, pre_suf]
    rw [e, e2]
    simp only [List.mem_append, List.mem_cons]
    constructor
    · rintro (h | h | h)
      · exact .inl (.inl h)
      · exact .inr ⟨h, trivial⟩
      · exact .inl (.inr h)
    · rintro ((h | h) | ⟨h, _⟩)
      · exact .inl h
      · exact .inr (.inr h)
      · exact .inr (.inl h)

theorem putAll_members : ∀ (cs l : List Cell), (l ++ cs).Pairwise unlike → ∀ x, x ∈ putAll l cs ↔ x ∈ l ∨ (x ∈ cs ∧ isC x = true)
  | [], l, _, x => by simp [putAll]
  | c :: cs, l, hp, x => by
    have hu : ∀ y ∈ l, unlike y c := fun y hy => (List.pairwise_append.1 hp).2.2 y hy c List.mem_cons_self
    have hp2 : ((put l c).2 ++ cs).Pairwise unlike := by
      have h1 := List.pairwise_append.1 hp
      have h2 := List.pairwise_cons.1 h1.2.1
      refine List.pairwise_append.2 ⟨?_, h2.2, fun a ha b hb => ?_⟩
      · unfold put
        split
        · exact h1.1
        · have h3 : (pre l c ++ suf l c).Pairwise unlike := by rw [pre_suf]; exact h1.1
          have h4 := List.pairwise_append.1 h3
          have hm : ∀ y, y ∈ pre l c ∨ y ∈ suf l c → unlike y c := fun y hy => hu y (by
            have e := pre_suf l c
            rw [← e]; exact List.mem_append.2 hy)
          refine List.pairwise_append.2 ⟨h4.1, List.pairwise_cons.2 ⟨fun b hb e => hm b (.inr hb) ⟨e.1.symm, e.2.symm⟩, h4.2.1⟩, fun a ha b hb => ?_⟩
          rcases List.mem_cons.1 hb with rfl | hb
          · exact hm a (.inl ha)
          · exact h4.2.2 a ha b hb
      · rcases (put_members hu).1 ha with ha | ⟨rfl, _⟩
        · exact h1.2.2 a ha b (List.mem_cons_of_mem _ hb)
        · exact h2.1 b hb
    have ih := putAll_members cs (put l c).2 hp2 x
    show x ∈ putAll (put l c).2 cs ↔ _
    rw [ih, put_members hu, List.mem_cons]
    constructor
    · rintro ((h | ⟨rfl, h⟩) | ⟨h, h2⟩)
      · exact .inl h
      · exact .inr ⟨.inl rfl, h⟩
      · exact .inr ⟨.inr h, h2⟩
    · rintro (h | ⟨rfl | h, h2⟩)
      · exact .inl (.inl h)
      · exact .inl (.inr ⟨rfl, h2⟩)
      · exact .inr ⟨h, h2⟩

theorem putAll_sorted : ∀ (cs l : List Cell), Sorted l → Sorted (putAll l cs)
  | [], _, h => h
  | c :: cs, l, h => putAll_sorted cs _ (h.put c)

/-- Two rows in order with one set of cells are one. -/
theorem sorted_ext : ∀ {l m : List Cell}, Sorted l → Sorted m → (∀ x, x ∈ l ↔ x ∈ m) → l = m
  | [], [], _, _, _ => rfl
  | [], y :: m, _, _, h => by have := (h y).2 List.mem_cons_self; cases this
  | x :: l, [], _, _, h => by have := (h x).1 List.mem_cons_self; cases this
  | x :: l, y :: m, hl, hm, h => by
    have h1 := List.pairwise_cons.1 hl
    have h2 := List.pairwise_cons.1 hm
    have e : x = y := by
      rcases List.mem_cons.1 ((h x).1 List.mem_cons_self) with e | hx
      · exact e
      · rcases List.mem_cons.1 ((h y).2 List.mem_cons_self) with e | hy
        · exact e.symm
        · have := less_asymm (h1.1 y hy)
          rw [h2.1 x hx] at this; cases this
    subst e
    rw [sorted_ext h1.2 h2.2 (fun z => ?_)]
    constructor
    · intro hz
      rcases List.mem_cons.1 ((h z).1 (List.mem_cons_of_mem _ hz)) with rfl | hz2
      · have := h1.1 z hz; rw [less_irrefl] at this; cases this
      · exact hz2
    · intro hz
      rcases List.mem_cons.1 ((h z).2 (List.mem_cons_of_mem _ hz)) with rfl | hz2
      · have := h2.1 z hz; rw [less_irrefl] at this; cases this
      · exact hz2

/-- In whichever order unlike cells come. -/
theorem putAll_reverse {cs : List Cell} (h : cs.Pairwise unlike) : putAll [] cs.reverse = putAll [] cs := by
  have hr : cs.reverse.Pairwise unlike := by
    rw [List.pairwise_reverse]
    exact h.imp (fun {a b} hab e => hab ⟨e.1.symm, e.2.symm⟩)
  refine sorted_ext (putAll_sorted _ _ List.Pairwise.nil) (putAll_sorted _ _ List.Pairwise.nil) (fun x => ?_)
  rw [putAll_members _ _ (by simpa using hr), putAll_members _ _ (by simpa using h), List.mem_reverse]

end Go.Sp
