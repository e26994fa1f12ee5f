/-
  How an entry that is handed in lies; how much it weighs, where its bulk is bounded.
-/
import Derived.Test.YteninjhmmjkckaaGreatDoorVcX
import Derived.Test.YteninjhmmjkckaaGreatDoorIkA
import Derived.Test.YteninjhmmjkckaaGreatDoorBulk
import Derived.Lib.SmallJoins
namespace Go.Proofs.YteninjhmmjkckaaGreatDoor
open Go.Vc Go.Sp Go.ChangeShapes Go.WideShapes Go.ChangeAt Go.RowKit
open Go.Deep (oneCellFields hone_of)
set_option linter.unusedSimpArgs false
set_option linter.unusedVariables false

section
variable {H : Type} {enc : TypeId × Value → H} {P : Program} {W : World} {base : Nat}

theorem cell_spot {a : Addr} {v : Value} (h : W.cell? a = some v) : a.spot = none := by
  unfold World.cell? at h
  split at h
  · split at h
    · cases h
    · rename_i hs; simpa using hs
  · cases h

/-- A slice among other cells, its elements read by one rule; how each is told. -/
theorem opens_sliceN {α : Type} {Q : DataW H → α → Prop} {cenc : α → List Value} {t e sz : Nat} {v : Value} {y : DataW H × List MemPlace} {sp : Nat → Bool} {hd : Bool} {n0 : Nat} (ht : P.underlying t = some (.slice e)) (hc : P.cellsOf e = sz) (hsz : 0 < sz)
    (hdec : ∀ (n : Nat) (cs : List Value) (y : DataW H × List MemPlace), DataW.trod enc P W base sp hd n e cs = some y → cs.length = sz → ∃ x, cs = cenc x ∧ Q y.1 x)
    (h : DataW.trod enc P W base sp hd n0 t [v] = some y) : ∃ l : List α, Arr cenc sz W v l ∧ (l = [] ∨ ∃ el sp', y.1 = .slice el sp' ∧ el.length = l.length ∧ ∀ (i : Nat) (x : α), l[i]? = some x → ∃ d, el[i]? = some d ∧ Q d x) := by
  rcases Deep.open_slice ht h with ⟨h1, _⟩ | ⟨a, len, cap, m, n, D, Pl, h1, _, hlc, hcm, hm, hdx, hel⟩
  · simp only [List.cons.injEq, and_true] at h1
    rw [h1]
    exact ⟨[], Arr.nil, .inl rfl⟩
  · simp only [List.cons.injEq, and_true] at h1
    subst h1
    have hlm : len ≤ m := by rw [hm]; split <;> omega
    by_cases hl0 : len = 0
    · subst hl0
      exact ⟨[], ⟨.inr (.inr ⟨rfl, _, _, rfl⟩), fun i cs hi => by simp at hi⟩, .inl rfl⟩
    have hspot : a.spot = none := by
      obtain ⟨cs', h2, h3⟩ := hel 0 (by omega)
      obtain ⟨_, hlen, hat⟩ := World.cells?_some h2
      have h4 := hat 0 (by omega)
      have h5 : cs'[0]? = some cs'[0] := List.getElem?_eq_getElem (by omega)
      rw [h5] at h4
      have h6 : (a.add (0 * P.cellsOf e)).add 0 = a := by simp [Addr.add]
      rw [h6] at h4
      exact cell_spot h4
    obtain ⟨b, o, spot⟩ := a
    simp only at hspot
    subst hspot
    obtain ⟨X, hX⟩ := Deep.choose_lt (α := Option α) (n := len) (p := fun i ox => ∃ x, ox = some x ∧ W.cells? base ((⟨b, o, none⟩ : Addr).add (i * P.cellsOf e)) (P.cellsOf e) = some (cenc x) ∧ Q (D i) x) (fun i hi => by
      obtain ⟨cs', h2, h3⟩ := hel i (by omega)
      obtain ⟨_, hlen, _⟩ := World.cells?_some h2
      obtain ⟨x, rfl, hg⟩ := hdec n cs' _ h3 (by rw [hlen, hc])
      exact ⟨some x, x, rfl, h2, hg⟩)
    have hx : ∀ i, i < len → ∃ x, X i = some x ∧ W.cells? base ((⟨b, o, none⟩ : Addr).add (i * P.cellsOf e)) (P.cellsOf e) = some (cenc x) ∧ Q (D i) x := hX
    have hlist : ∀ k, k ≤ len → ∃ l : List α, l.length = k ∧ ∀ i, i < k → ∃ x, l[i]? = some x ∧ X i = some x := by
      intro k
      induction k with
      | zero => intro _; exact ⟨[], rfl, fun i hi => absurd hi (Nat.not_lt_zero _)⟩
      | succ k ih =>
        intro hk
        obtain ⟨l, hl, hl2⟩ := ih (by omega)
        obtain ⟨x, hx1, _⟩ := hx k (by omega)
        refine ⟨l ++ [x], by simp [hl], fun i hi => ?_⟩
        by_cases hik : i < k
        · obtain ⟨y, h2, h3⟩ := hl2 i hik
          exact ⟨y, by rw [List.getElem?_append_left (by omega)]; exact h2, h3⟩
        · have : i = k := by omega
          subst this
          exact ⟨x, by rw [← hl]; simp, hx1⟩
    obtain ⟨l, hl, hl2⟩ := hlist len (Nat.le_refl _)
    refine ⟨l, ⟨.inr (.inl ⟨b, o, cap, by rw [List.length_map, hl], by rw [List.length_map, hl]; exact hlc⟩), fun i cs hi => ?_⟩, .inr ⟨_, _, congrArg Prod.fst hdx, by simp [hl], fun i x hi => ?_⟩⟩
    · rw [List.getElem?_map] at hi
      obtain ⟨x, hx1, rfl⟩ := Option.map_eq_some_iff.1 hi
      have hlt := (List.getElem?_eq_some_iff.1 hx1).1
      obtain ⟨y, h2, h3⟩ := hl2 i (by omega)
      obtain ⟨z, h4, h5, _⟩ := hx i (by omega)
      rw [h2] at hx1
      rw [h3] at h4
      cases hx1; cases h4
      obtain ⟨_, hlen, hat⟩ := World.cells?_some h5
      refine ⟨by rw [hlen, hc], fun j u hj => ?_⟩
      have hjl := (List.getElem?_eq_some_iff.1 hj).1
      have := hat j (by omega)
      rw [hj, Deep.add_add] at this
      have ha : (⟨b, o, none⟩ : Addr).add (i * P.cellsOf e + j) = ⟨b, o + i * sz + j, none⟩ := by
        unfold Addr.add
        split
        · rename_i e0
          have h0 : i * sz = 0 ∧ j = 0 := by rw [hc] at e0; omega
          rw [h0.1, h0.2]; rfl
        · rw [hc]; simp [Nat.add_assoc]
      rw [ha] at this
      exact this
    · have hlt := (List.getElem?_eq_some_iff.1 hi).1
      obtain ⟨y, h2, h3⟩ := hl2 i (by omega)
      obtain ⟨z, h4, _, h5⟩ := hx i (by omega)
      rw [h2] at hi
      rw [h3] at h4
      cases hi; cases h4
      exact ⟨D i, by rw [List.getElem?_map, List.getElem?_range (by omega)]; rfl, h5⟩

/-! ### bulk -/
theorem bulk_sum {α : Type} {f : α → Nat} : ∀ {l : List α} {el : List (DataW H)}, el.length = l.length → (∀ (i : Nat) (x : α), l[i]? = some x → ∃ d, el[i]? = some d ∧ f x ≤ Rows.uptoBulk d) → (l.map f).sum ≤ Rows.uptoBulkAll el
  | [], [], _, _ => by simp [Rows.uptoBulkAll]
  | x :: l, d :: el, h, hx => by
    obtain ⟨d', h1, h2⟩ := hx 0 x rfl
    have : d = d' := by simpa using h1
    subst this
    have ih := bulk_sum (f := f) (l := l) (el := el) (by simpa using h) (fun i y hi => by simpa using hx (i + 1) y (by simpa using hi))
    rw [List.map_cons, List.sum_cons, Rows.uptoBulkAll]
    omega
  | [], _ :: _, h, _ => by simp at h
  | _ :: _, [], h, _ => by simp at h
theorem sum_bulk {α : Type} {f : α → Nat} {l : List α} {d : DataW H} (h : l = [] ∨ ∃ el sp', d = .slice el sp' ∧ el.length = l.length ∧ ∀ (i : Nat) (x : α), l[i]? = some x → ∃ d, el[i]? = some d ∧ f x ≤ Rows.uptoBulk d) : (l.map f).sum ≤ Rows.uptoBulk d := by
  rcases h with rfl | ⟨el, sp', rfl, h1, h2⟩
  · simp
  · have := bulk_sum h1 h2
    rw [Rows.uptoBulk]; omega

/-- Elements that are texts. -/
theorem decT {e : TypeId} {sp : Nat → Bool} {hd : Bool} (he : P.underlying e = some .string) : ∀ (n : Nat) (cs : List Value) (y : DataW H × List MemPlace), DataW.trod enc P W base sp hd n e cs = some y → cs.length = 1 → ∃ x : Str, cs = sEnc x ∧ 1 + x.length ≤ Rows.uptoBulk y.1 := fun n cs y h _ => by
  obtain ⟨x, rfl, hy, hw⟩ := DataW.trod_string he h
  refine ⟨x.data.toList, rfl, ?_⟩
  rw [hy, bulks.string_eq]
  show 1 + x.data.toList.length ≤ _
  simp; omega
theorem decAva {e : TypeId} {f0 f1 : Field} {sp : Nat → Bool} {hd : Bool} (he : P.underlying e = some (.struct #[f0, f1])) (hone : oneCellFields P #[f0, f1] = true) (h0 : P.underlying f0.type = some .string) (h1 : P.underlying f1.type = some .string) :
    ∀ (n : Nat) (cs : List Value) (y : DataW H × List MemPlace), DataW.trod enc P W base sp hd n e cs = some y → cs.length = 2 → ∃ x : Ava, cs = x.cs ∧ 1 + x.typ.length + x.val.length ≤ Rows.uptoBulk y.1 := fun n cs y h hl => by
  obtain ⟨y0, y1, m, rfl, _, t0, t1⟩ := trod_struct2 he h
  obtain ⟨o0, k0⟩ := hone_of hone 0 f0 rfl
  obtain ⟨o1, k1⟩ := hone_of hone 1 f1 rfl
  match cs, hl with
  | [c0, c1], _ =>
    rw [o0, k0] at t0
    rw [o1, k1] at t1
    obtain ⟨s0, e0, hy0, _⟩ := DataW.trod_string h0 t0
    obtain ⟨s1, e1, hy1, _⟩ := DataW.trod_string h1 t1
    simp at e0 e1
    subst e0; subst e1
    refine ⟨⟨s0.data.toList, s1.data.toList⟩, rfl, ?_⟩
    simp only [hy0, hy1, Rows.uptoBulk, Rows.uptoBulkAll]
    show 1 + s0.data.toList.length + s1.data.toList.length ≤ _
    simp; omega
theorem decAttr {e u s : TypeId} {f0 f1 : Field} {sp : Nat → Bool} {hd : Bool} (he : P.underlying e = some (.struct #[f0, f1])) (hone : oneCellFields P #[f0, f1] = true) (h0 : P.underlying f0.type = some .string) (h1 : P.underlying f1.type = some (.slice s)) (hs : P.underlying s = some .string) (hc : P.cellsOf s = 1) :
    ∀ (n : Nat) (cs : List Value) (y : DataW H × List MemPlace), DataW.trod enc P W base sp hd n e cs = some y → cs.length = 2 → ∃ x : AttrV, cs = x.cs ∧ Arr sEnc 1 W x.v x.vals ∧ wAttr x.toA ≤ Rows.uptoBulk y.1 := fun n cs y h hl => by
  obtain ⟨y0, y1, m, rfl, _, t0, t1⟩ := trod_struct2 he h
  obtain ⟨o0, k0⟩ := hone_of hone 0 f0 rfl
  obtain ⟨o1, k1⟩ := hone_of hone 1 f1 rfl
  match cs, hl with
  | [c0, c1], _ =>
    rw [o0, k0] at t0
    rw [o1, k1] at t1
    obtain ⟨s0, e0, hy0, _⟩ := DataW.trod_string h0 t0
    simp at e0
    subst e0
    obtain ⟨l, hl, hb⟩ := opens_sliceN (Q := fun d (x : Str) => 1 + x.length ≤ Rows.uptoBulk d) (cenc := sEnc) h1 hc (by decide) (decT hs) t1
    have hw := sum_bulk (f := fun x : Str => 1 + x.length) hb
    refine ⟨⟨s0.data.toList, l, c1⟩, rfl, hl, ?_⟩
    simp only [hy0, Rows.uptoBulk, Rows.uptoBulkAll]
    show 1 + s0.data.toList.length + wVals l ≤ _
    unfold wVals
    simp at hw ⊢; omega

/-- An entry that is handed in. -/
theorem opens_entry {r : Reach} {b0 : Nat} {t e1 e2 s : TypeId} {f0 f1 a0 a1 c0 c1 : Field} {v : Value} {d : DataW H} {ps : List MemPlace} {sp : Nat → Bool} {hd : Bool} (ht : P.underlying t = some (.struct #[f0, f1])) (hone : oneCellFields P #[f0, f1] = true) (hC : P.cellsOf t = 2)
    (h0 : P.underlying f0.type = some (.slice e1)) (h1 : P.underlying f1.type = some (.slice e2)) (hc1 : P.cellsOf e1 = 2) (hc2 : P.cellsOf e2 = 2)
    (he1 : P.underlying e1 = some (.struct #[a0, a1])) (ho1 : oneCellFields P #[a0, a1] = true) (ha0 : P.underlying a0.type = some .string) (ha1 : P.underlying a1.type = some .string)
    (he2 : P.underlying e2 = some (.struct #[c0, c1])) (ho2 : oneCellFields P #[c0, c1] = true) (hb0 : P.underlying c0.type = some .string) (hb1 : P.underlying c1.type = some (.slice s)) (hs : P.underlying s = some .string) (hcs : P.cellsOf s = 1)
    (hval : Value.okWide P W r b0 t v) (h : DataW.Trod enc P W base sp hd t v d ps) :
    ∃ (nl : List Ava) (l : List AttrV) (vd va : Value), v = .agg ⟨[vd, va]⟩ ∧ Arr Ava.cs 2 W vd nl ∧ Arr AttrV.cs 2 W va l ∧ ValsAt W l ∧ wE ⟨nl, l.map AttrV.toA⟩ ≤ Rows.uptoBulk d := by
  obtain ⟨vd, va, y0, y1, n, rfl, rfl, _, t0, t1⟩ := Go.Joins.open_agg2 ht hone hC hval h
  obtain ⟨nl, hn, hbn⟩ := opens_sliceN (Q := fun d (x : Ava) => 1 + x.typ.length + x.val.length ≤ Rows.uptoBulk d) (cenc := Ava.cs) h0 hc1 (by decide) (decAva he1 ho1 ha0 ha1) t0
  obtain ⟨l, hl, hbl⟩ := opens_sliceN (Q := fun d (x : AttrV) => Arr sEnc 1 W x.v x.vals ∧ wAttr x.toA ≤ Rows.uptoBulk d) (cenc := AttrV.cs) h1 hc2 (by decide) (decAttr (u := s) he2 ho2 hb0 hb1 hs hcs) t1
  have hw1 := sum_bulk (f := fun x : Ava => 1 + x.typ.length + x.val.length) hbn
  have hw2 := sum_bulk (f := fun x : AttrV => wAttr x.toA) (hbl.imp id fun ⟨el, sp', h1, h2, h3⟩ => ⟨el, sp', h1, h2, fun i x hi => by obtain ⟨d, h4, _, h5⟩ := h3 i x hi; exact ⟨d, h4, h5⟩⟩)
  refine ⟨nl, l, vd, va, rfl, hn, hl, fun a ha => ?_, ?_⟩
  · rcases hbl with rfl | ⟨el, sp', _, _, h3⟩
    · cases ha
    · obtain ⟨i, hi⟩ := List.mem_iff_getElem?.1 ha
      obtain ⟨_, _, h4, _⟩ := h3 i a hi
      exact h4
  · unfold wE wDn wAttrs
    rw [List.map_map]
    simp only [Rows.uptoBulk, Rows.uptoBulkAll]
    have e : (wAttr ∘ AttrV.toA) = fun x : AttrV => wAttr x.toA := rfl
    rw [e]
    omega
end
end Go.Proofs.YteninjhmmjkckaaGreatDoor
