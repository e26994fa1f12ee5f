/-
  The library's sort of a row of texts, in the walk. Nothing is assumed.
-/
import Derived.Test.YtcjjjmhhpejdoaaGreatDoorVcF
import Derived.Shelf.Sort.Plain
import Derived.Shelf.Slices.In.SortNone
import Derived.Sort.OwnSorted
namespace Go.Vc
open Go.RowKit Go.Proofs Go.Shelf
set_option linter.unusedSimpArgs false
set_option linter.unusedVariables false

def sortS (l : List Str) : List Str := l.mergeSort fun x y => decide (x ≤ y)

theorem flat_encStr (l : List Str) : l.flatMap sEnc = l.map encStr := by
  induction l with
  | nil => rfl
  | cons x r ih => rw [List.flatMap_cons, ih]; rfl

theorem sortS_w {P : Program} {ρ : Ren} (Ly : Lays.n190 P ρ) {T B : Nat} {w : World} {v : Value} {l : List Str} (ho : Own sEnc 1 T B w v l) (hl : l.length < 4611686018427387904) :
    Calls P (ρ.f 190) [v].toArray w (Does (fun k => v.ownBlock = some k) w fun u w' => u = .tuple #[] ∧ Own sEnc 1 T B w' v (sortS l)) := by
  rcases ho.row.2 with ⟨rfl, hn⟩ | ⟨g, cap, cur, rfl, hB, hg, hnc, hcm, hcs, ht⟩
  · have := List.eq_nil_of_length_eq_zero hn
    subst this
    refine (Any.slices_Sort_string_none Ly none 0 w).mono ?_
    rintro e w' ⟨rfl, rfl⟩
    exact ⟨_, rfl, Mod.refl _ _, rfl, by rw [show sortS [] = [] by simp [sortS]]; exact ho⟩
  · rw [flat_encStr] at ht
    have hH := holds_of_block hg (by simpa using ht)
    refine (Any.slices_Sort_string Ly g 0 cap l w hH (Array.getElem?_eq_some_iff.1 hg).1 hl).mono ?_
    rintro e w' ⟨rfl, n, os, rfl⟩
    refine ⟨_, rfl, Mod.of_grown (grownBy_sorted _), rfl, ⟨?_⟩⟩
    have hlen : (sortS l).length = l.length := by unfold sortS; simp
    rw [hlen, flat_encStr]
    exact ownsRow_sorted hlen hB hg hnc hcm (by simpa using hcs)

end Go.Vc
