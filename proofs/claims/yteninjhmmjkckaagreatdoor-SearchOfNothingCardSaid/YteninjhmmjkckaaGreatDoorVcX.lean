/-
  How arguments lie: rows of texts, and how long each is.
-/
import Derived.Test.YteninjhmmjkckaaGreatDoorVcY
import Derived.SizedLaws
namespace Go.Vc
open Go.ChangeShapes Go.WideShapes Go.ChangeAt Go.RowKit
set_option linter.unusedSimpArgs false
set_option linter.unusedVariables false

section
variable {H : Type} {enc : TypeId × Value → H} {P : Program} {W W' : World} {base : Nat}

/-- A slice, its elements read by one rule; how each is told. -/
theorem opens_sliceR {α : Type} {Q : DataW H → α → Prop} {cenc : α → List Value} {good : α → Prop} {r : Reach} {b0 : Nat} {t e sz : Nat} {v : Value} {d : DataW H} {ps : List MemPlace} {sp : Nat → Bool} {hd : Bool} (ht : P.underlying t = some (.slice e)) (hc : P.cellsOf e = sz)
    (hdec : ∀ (n : Nat) (cs : List Value) (y : DataW H × List MemPlace), DataW.trod enc P W base sp hd n e cs = some y → cs.length = sz → ∃ x, cs = cenc x ∧ good x ∧ Q y.1 x)
    (hval : Value.okWide P W r b0 t v) (h : DataW.Trod enc P W base sp hd t v d ps) : ∃ l : List α, Arr cenc sz W v l ∧ (∀ x ∈ l, good x) ∧ l.length ≤ maxLen ∧ (l.length = 0 ∨ ∃ el sp', d = .slice el sp' ∧ el.length = l.length ∧ ∀ (i : Nat) (x : α), l[i]? = some x → ∃ y, el[i]? = some y ∧ Q y x) := by
  obtain ⟨oa, len, cap, rfl⟩ := okWide_slice ht hval
  obtain ⟨fuel, h⟩ := h
  rcases Deep.open_slice ht h with ⟨h1, _⟩ | ⟨a, len', cap', m, n, D, Pl, h1, _, hlc, hcm, hm, hdx, hel⟩
  · have h1' : [Value.slice oa len cap] = [.slice none 0 0] := by simpa [Value.cells] using h1
    simp only [List.cons.injEq, and_true] at h1'
    rw [h1']
    exact ⟨[], Arr.nil, fun x hx => (by cases hx), Nat.zero_le _, .inl rfl⟩
  · have h1' : [Value.slice oa len cap] = [.slice (some a) len' cap'] := by simpa [Value.cells] using h1
    simp only [List.cons.injEq, Value.slice.injEq, and_true] at h1'
    obtain ⟨rfl, rfl, rfl⟩ := h1'
    have hspot : a.spot = none := by
      simp only [Value.okWide, ht, Cell.okWide, Cell.ok] at hval
      exact hval.2.2.2.1
    obtain ⟨b, o, spot⟩ := a
    simp only at hspot
    subst hspot
    have hlm : len ≤ m := by rw [hm]; split <;> omega
    obtain ⟨X, hX⟩ := Deep.choose_lt (α := Option α) (n := len) (p := fun i ox => ∃ x, ox = some x ∧ W.cells? base ((⟨b, o, none⟩ : Addr).add (i * P.cellsOf e)) (P.cellsOf e) = some (cenc x) ∧ good x ∧ Q (D i) x) (fun i hi => by
      obtain ⟨cs', h2, h3⟩ := hel i (by omega)
      obtain ⟨_, hlen, _⟩ := World.cells?_some h2
      obtain ⟨x, rfl, hg⟩ := hdec n cs' _ h3 (by rw [hlen, hc])
      exact ⟨some x, x, rfl, h2, hg⟩)
    have hx : ∀ i, i < len → ∃ x, X i = some x ∧ W.cells? base ((⟨b, o, none⟩ : Addr).add (i * P.cellsOf e)) (P.cellsOf e) = some (cenc x) ∧ good x ∧ Q (D i) x := hX
    have hlist : ∀ k, k ≤ len → ∃ l : List α, l.length = k ∧ ∀ i, i < k → ∃ x, l[i]? = some x ∧ X i = some x := by
      intro k
      induction k with
      | zero => intro _; exact ⟨[], rfl, fun i hi => absurd hi (Nat.not_lt_zero _)⟩
      | succ k ih =>
        intro hk
        obtain ⟨l, hl, hl2⟩ := ih (by omega)
        obtain ⟨x, hx1, _⟩ := hx k (by omega)
        refine ⟨l ++ [x], by simp [hl], fun i hi => ?_⟩
        by_cases hik : i < k
        · obtain ⟨y, h2, h3⟩ := hl2 i hik
          exact ⟨y, by rw [List.getElem?_append_left (by omega)]; exact h2, h3⟩
        · have : i = k := by omega
          subst this
          exact ⟨x, by rw [← hl]; simp, hx1⟩
    obtain ⟨l, hl, hl2⟩ := hlist len (Nat.le_refl _)
    refine ⟨l, ⟨.inr (.inl ⟨b, o, cap, by rw [List.length_map, hl], by rw [List.length_map, hl]; exact hlc⟩), fun i cs hi => ?_⟩, fun x hx' => ?_, by omega, .inr ⟨_, _, (Prod.mk.inj hdx).1, by simp [hl], fun i x hi => ?_⟩⟩
    · rw [List.getElem?_map] at hi
      obtain ⟨x, hx1, rfl⟩ := Option.map_eq_some_iff.1 hi
      have hlt := (List.getElem?_eq_some_iff.1 hx1).1
      obtain ⟨y, h2, h3⟩ := hl2 i (by omega)
      obtain ⟨z, h4, h5, _⟩ := hx i (by omega)
      rw [h2] at hx1
      rw [h3] at h4
      cases hx1; cases h4
      obtain ⟨_, hlen, hat⟩ := World.cells?_some h5
      refine ⟨by rw [hlen, hc], fun j u hj => ?_⟩
      have hjl := (List.getElem?_eq_some_iff.1 hj).1
      have := hat j (by omega)
      rw [hj, Deep.add_add] at this
      have ha : (⟨b, o, none⟩ : Addr).add (i * P.cellsOf e + j) = ⟨b, o + i * sz + j, none⟩ := by
        unfold Addr.add
        split
        · rename_i e0
          have h0 : i * sz = 0 ∧ j = 0 := by rw [hc] at e0; omega
          rw [h0.1, h0.2]; rfl
        · rw [hc]; simp [Nat.add_assoc]
      rw [ha] at this
      exact this
    · obtain ⟨i, hi⟩ := List.mem_iff_getElem?.1 hx'
      have hlt := (List.getElem?_eq_some_iff.1 hi).1
      obtain ⟨y, h2, h3⟩ := hl2 i (by omega)
      obtain ⟨z, h4, _, h5⟩ := hx i (by omega)
      rw [h2] at hi
      rw [h3] at h4
      cases hi; cases h4
      exact h5.1
    · have hlt := (List.getElem?_eq_some_iff.1 hi).1
      obtain ⟨y, h2, h3⟩ := hl2 i (by omega)
      obtain ⟨z, h4, _, _, h5⟩ := hx i (by omega)
      rw [h2] at hi
      rw [h3] at h4
      cases hi; cases h4
      exact ⟨D i, by rw [List.getElem?_map, List.getElem?_range (by omega)]; rfl, h5⟩

/-- Elements that are texts; how each is told. -/
theorem dec_text {e : TypeId} {sp : Nat → Bool} {hd : Bool} (he : P.underlying e = some .string) : ∀ (n : Nat) (cs : List Value) (y : DataW H × List MemPlace), DataW.trod enc P W base sp hd n e cs = some y → cs.length = 1 → ∃ x : Str, cs = [S x] ∧ True ∧ y.1 = .lit (.string x) := fun n cs y h _ => by
  obtain ⟨x, rfl, hy, hw⟩ := DataW.trod_string he h
  exact ⟨x.data.toList, rfl, trivial, by rw [hy]⟩
theorem weightsAll_mem {e : TypeId} : ∀ {l : List (DataW H)} {d : DataW H}, d ∈ l → ∀ n ∈ d.weights P e, n ∈ DataW.weightsAll P e l
  | [], _, h, _, _ => by cases h
  | a :: l, d, h, n, hn => by
    rw [DataW.weightsAll, List.mem_append]
    rcases List.mem_cons.1 h with rfl | h
    · exact .inl hn
    · exact .inr (weightsAll_mem h n hn)
/-- A row of texts, opened; what it weighs. -/
theorem opens_texts {r : Reach} {b0 : Nat} {t e : Nat} {v : Value} {d : DataW H} {ps : List MemPlace} {sp : Nat → Bool} {hd : Bool} {ts : List TypeId} {ds : List (DataW H)} {j : Nat} (ht : P.underlying t = some (.slice e)) (he : P.underlying e = some .string) (hc : P.cellsOf e = 1) (hb : P.bytesOf e = 16)
    (hval : Value.okWide P W r b0 t v) (h : DataW.Trod enc P W base sp hd t v d ps) (hz : (DataW.weightsEach P ts ds).all (· ≤ reachBytes) = true) (hj : ts[j]? = some t) (hdj : ds[j]? = some d) :
    ∃ l : List Str, Arr sEnc 1 W v l ∧ l.length * 16 ≤ 140737488351232 ∧ ∀ s ∈ l, s.length ≤ 140737488355328 := by
  obtain ⟨l, hv, _, _, hl⟩ := opens_sliceR (Q := fun (y : DataW H) (x : Str) => y = .lit (.string x)) (good := fun _ => True) (cenc := sEnc) ht hc (dec_text he) hval h
  rcases hl with hl | ⟨el, sp', rfl, hlen, hel⟩
  · have : l = [] := List.eq_nil_of_length_eq_zero hl
    subst this
    exact ⟨[], hv, by simp, by intro s hs; cases hs⟩
  · refine ⟨l, hv, ?_, fun s hs => ?_⟩
    · have h1 := sized_slice hz hj hdj ht
      rw [hb] at h1
      have : reachBytes = 140737488351232 := rfl
      have h2 : el.length * 16 ≤ (el.length + sp'.length) * 16 := Nat.mul_le_mul_right _ (by omega)
      rw [hlen] at h2
      rw [hlen] at h1
      omega
    · obtain ⟨i, hi⟩ := List.mem_iff_getElem?.1 hs
      obtain ⟨y, hy, rfl⟩ := hel i s hi
      have h1 : s.length ∈ DataW.weights P t (.slice el sp') := by
        rw [DataW.weights, ht]
        simp only []
        refine List.mem_cons_of_mem _ (List.mem_append_left _ (weightsAll_mem (List.mem_of_getElem? hy) _ ?_))
        rw [DataW.weights]
        simp
      have h2 := List.all_eq_true.1 hz _ (DataW.weights_mem_each hj hdj _ h1)
      have : reachBytes = 140737488351232 := rfl
      have h3 : s.length ≤ reachBytes := by simpa using h2
      omega
end
end Go.Vc
