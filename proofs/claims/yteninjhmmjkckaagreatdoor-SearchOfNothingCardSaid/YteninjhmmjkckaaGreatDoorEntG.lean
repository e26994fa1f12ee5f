/-
  How a filter that is handed in lies, at every size.
-/
import Derived.Test.YteninjhmmjkckaaGreatDoorEntO
import Derived.Test.YteninjhmmjkckaaGreatDoorFlA
namespace Go.Proofs.YteninjhmmjkckaaGreatDoor
open Go.Vc Go.Sp Go.ChangeShapes Go.WideShapes Go.ChangeAt Go.RowKit
open Go.Deep (oneCellFields hone_of)
set_option linter.unusedSimpArgs false
set_option linter.unusedVariables false

section
variable {H : Type} {enc : TypeId × Value → H} {P : Program} {W : World} {base : Nat}

theorem trod_struct5 {t : TypeId} {f0 f1 f2 f3 f4 : Field} {fuel : Nat} {sp : Nat → Bool} {hd : Bool} {cs : List Value} {x : DataW H × List MemPlace} (ht : P.underlying t = some (.struct #[f0, f1, f2, f3, f4])) (h : DataW.trod enc P W base sp hd fuel t cs = some x) :
    ∃ y0 y1 y2 y3 y4 n, x.1 = .agg [y0.1, y1.1, y2.1, y3.1, y4.1] ∧ cs.length = P.cellsOf t ∧ DataW.trod enc P W base sp hd n f0.type ((cs.drop f0.offset).take (P.cellsOf f0.type)) = some y0 ∧
      DataW.trod enc P W base sp hd n f1.type ((cs.drop f1.offset).take (P.cellsOf f1.type)) = some y1 ∧ DataW.trod enc P W base sp hd n f2.type ((cs.drop f2.offset).take (P.cellsOf f2.type)) = some y2 ∧
      DataW.trod enc P W base sp hd n f3.type ((cs.drop f3.offset).take (P.cellsOf f3.type)) = some y3 ∧ DataW.trod enc P W base sp hd n f4.type ((cs.drop f4.offset).take (P.cellsOf f4.type)) = some y4 := by
  obtain ⟨xs, n, _, rfl, hl, hlen, hf⟩ := DataW.trod_struct ht h
  match xs, hlen with
  | [y0, y1, y2, y3, y4], _ => exact ⟨y0, y1, y2, y3, y4, n, by simp, hl, by simpa using hf 0 f0 rfl, by simpa using hf 1 f1 rfl, by simpa using hf 2 f2 rfl, by simpa using hf 3 f3 rfl, by simpa using hf 4 f4 rfl⟩

theorem decTx {e : TypeId} {sp : Nat → Bool} {hd : Bool} (he : P.underlying e = some .string) : ∀ (n : Nat) (cs : List Value) (y : DataW H × List MemPlace), DataW.trod enc P W base sp hd n e cs = some y → cs.length = 1 → ∃ x : Str, cs = sEnc x ∧ y.1 = .lit (.string x) := fun n cs y h hl => by
  obtain ⟨x, h1, _, h2⟩ := dec_text he n cs y h hl
  exact ⟨x, h1, h2⟩

/-- A slice within weighs at least what its elements weigh; they are as many as its weight says. -/
theorem slice_weighs {t e : TypeId} {el sp' : List (DataW H)} (ht : P.underlying t = some (.slice e)) (hb : 1 ≤ P.bytesOf e) (h : ∀ x ∈ DataW.weights P t (.slice el sp'), x ≤ reachBytes) : el.length ≤ reachBytes ∧ ∀ d ∈ el, ∀ x ∈ DataW.weights P e d, x ≤ reachBytes := by
  rw [DataW.weights, ht] at h
  simp only [List.mem_cons, List.mem_append] at h
  have h1 := h _ (.inl rfl)
  have h2 : el.length * 1 ≤ (el.length + sp'.length) * P.bytesOf e := Nat.mul_le_mul (by omega) hb
  exact ⟨by omega, fun d hd x hx => h x (.inr (.inl (weightsAll_mem hd x hx)))⟩

section
variable {t s : TypeId} {f0 f1 f2 f3 f4 : Field} {sp : Nat → Bool} {hd : Bool} (ht : P.underlying t = some (.struct #[f0, f1, f2, f3, f4])) (hone : oneCellFields P #[f0, f1, f2, f3, f4] = true) (hC : P.cellsOf t = 5) (h0 : P.underlying f0.type = some (.int .i64)) (h1 : P.underlying f1.type = some .string) (h2 : P.underlying f2.type = some .string)
  (h3 : P.underlying f3.type = some (.slice s)) (hs : P.underlying s = some .string) (hcs : P.cellsOf s = 1) (h4 : P.underlying f4.type = some (.slice t)) (hbs : 1 ≤ P.bytesOf s) (hbt : 1 ≤ P.bytesOf t)
include ht hone hC h0 h1 h2 h3 hs hcs h4 hbs hbt

theorem filter_at : ∀ (z n : Nat) (cs : List Value) (y : DataW H × List MemPlace), DataW.trod enc P W base sp hd n t cs = some y → cs.length = 5 → Rows.uptoBulk y.1 ≤ z → (∀ x ∈ y.1.weights P t, x ≤ reachBytes) → ∃ c : FilV, cs = c.cs ∧ FAt 140737488355328 W z c
  | 0, n, cs, y, _, _, hb, _ => by have := bulks.one_le y.1; omega
  | z + 1, n, cs, y, h, hl, hb, hw => by
    obtain ⟨y0, y1, y2, y3, y4, m, hy, _, t0, t1, t2, t3, t4⟩ := trod_struct5 ht h
    obtain ⟨o0, k0⟩ := hone_of hone 0 f0 rfl
    obtain ⟨o1, k1⟩ := hone_of hone 1 f1 rfl
    obtain ⟨o2, k2⟩ := hone_of hone 2 f2 rfl
    obtain ⟨o3, k3⟩ := hone_of hone 3 f3 rfl
    obtain ⟨o4, k4⟩ := hone_of hone 4 f4 rfl
    have hrb : reachBytes = 140737488351232 := rfl
    have hwE : ∀ (j : Nat) (u : TypeId) (d : DataW H), [f0.type, f1.type, f2.type, f3.type, f4.type][j]? = some u → [y0.1, y1.1, y2.1, y3.1, y4.1][j]? = some d → ∀ x ∈ d.weights P u, x ≤ reachBytes := fun j u d hj hdj x hx => by
      refine hw x ?_
      rw [hy, DataW.weights, ht]
      exact DataW.weights_mem_each hj hdj x hx
    match cs, hl with
    | [c0, c1, c2, c3, c4], _ =>
      rw [o0, k0] at t0
      rw [o1, k1] at t1
      rw [o2, k2] at t2
      rw [o3, k3] at t3
      rw [o4, k4] at t4
      simp only [List.drop, List.take] at t0 t1 t2 t3 t4
      obtain ⟨k, e0, _⟩ := DataW.trod_int h0 t0
      obtain ⟨s1, e1, hy1, _⟩ := DataW.trod_string h1 t1
      obtain ⟨s2, e2, hy2, _⟩ := DataW.trod_string h2 t2
      simp only [List.cons.injEq, and_true] at e0 e1 e2
      subst e0; subst e1; subst e2
      obtain ⟨ls, hls, hbs'⟩ := opens_sliceN (Q := fun d (x : Str) => d = .lit (.string x)) (cenc := sEnc) h3 hcs (by decide) (decTx hs) t3
      obtain ⟨lk, hlk, hbk⟩ := opens_sliceN (Q := fun d (x : FilV) => ∃ n pl, DataW.trod enc P W base sp hd n t x.cs = some (d, pl)) (cenc := FilV.cs) h4 hC (by decide) (fun n cs y h hl => by
        match cs, hl with
        | [a0, a1, a2, a3, a4], _ => exact ⟨⟨a0, a1, a2, a3, a4⟩, rfl, n, y.2, h⟩) t4
      rw [hy] at hb
      simp only [Rows.uptoBulk, Rows.uptoBulkAll] at hb
      have b1 : s1.data.toList.length ≤ 140737488355328 := by
        have := hwE 1 _ _ rfl rfl s1.data.toList.length (by rw [hy1, DataW.weights]; simp)
        omega
      have b2 : s2.data.toList.length ≤ 140737488355328 := by
        have := hwE 2 _ _ rfl rfl s2.data.toList.length (by rw [hy2, DataW.weights]; simp)
        omega
      have b3 : ls.length ≤ 140737488355328 ∧ ∀ p ∈ ls, p.length ≤ 140737488355328 := by
        rcases hbs' with rfl | ⟨el, sp', e3, hel, hq⟩
        · exact ⟨by simp, fun p hp => by cases hp⟩
        · obtain ⟨g1, g2⟩ := slice_weighs h3 hbs (fun x hx => hwE 3 _ _ rfl rfl x (by rw [e3]; exact hx))
          refine ⟨by omega, fun p hp => ?_⟩
          obtain ⟨i, hi⟩ := List.mem_iff_getElem?.1 hp
          obtain ⟨d, hd1, hd2⟩ := hq i p hi
          have := g2 d (List.mem_of_getElem? hd1) p.length (by rw [hd2, DataW.weights]; simp)
          omega
      have b4 : lk.length ≤ 140737488355328 ∧ ∀ x ∈ lk, FAt 140737488355328 W z x := by
        rcases hbk with rfl | ⟨el, sp', e4, hel, hq⟩
        · exact ⟨by simp, fun x hx => by cases hx⟩
        · obtain ⟨g1, g2⟩ := slice_weighs h4 hbt (fun x hx => hwE 4 _ _ rfl rfl x (by rw [e4]; exact hx))
          have he := bulks.slice_elems el sp'
          rw [← e4] at he
          refine ⟨by omega, fun x hx => ?_⟩
          obtain ⟨i, hi⟩ := List.mem_iff_getElem?.1 hx
          obtain ⟨d, hd1, n', pl, hd2⟩ := hq i x hi
          have hp := bulks.part_le (List.mem_of_getElem? hd1)
          obtain ⟨c, hc1, hc2⟩ := filter_at z n' x.cs (d, pl) hd2 rfl (by show Rows.uptoBulk d ≤ z; omega) (g2 d (List.mem_of_getElem? hd1))
          obtain ⟨x0, x1, x2, x3, x4⟩ := x
          obtain ⟨c0, c1, c2, c3, c4⟩ := c
          simp only [FilV.cs, List.cons.injEq, and_true] at hc1
          obtain ⟨rfl, rfl, rfl, rfl, rfl⟩ := hc1
          exact hc2
      exact ⟨⟨_, _, _, c3, c4⟩, rfl, k, s1.data.toList, s2.data.toList, ls, lk, rfl, rfl, rfl, hls, hlk, b1, b2, b3.2, b3.1, b4.1, b4.2⟩

theorem opens_filter {r : Reach} {b0 : Nat} {v : Value} {d : DataW H} {ps : List MemPlace} {ts : List TypeId} {ds : List (DataW H)} {j : Nat} (hval : Value.okWide P W r b0 t v) (h : DataW.Trod enc P W base sp hd t v d ps) (hz : (DataW.weightsEach P ts ds).all (· ≤ reachBytes) = true) (hj : ts[j]? = some t) (hdj : ds[j]? = some d) :
    ∃ (n : Nat) (k : Int) (a b : Str) (subs : List Str) (kids : List Flt) (vs vk : Value), v = .agg ⟨[I k, S a, S b, vs, vk]⟩ ∧ FRep W n ⟨I k, S a, S b, vs, vk⟩ (.mk k a b subs kids) ∧ okF 140737488355328 n (.mk k a b subs kids) := by
  obtain ⟨cs, rfl, hsz⟩ := okWide_struct ht hval
  obtain ⟨fuel, hf⟩ := h
  obtain ⟨cs⟩ := cs
  obtain ⟨c, e, hc⟩ := filter_at ht hone hC h0 h1 h2 h3 hs hcs h4 hbs hbt (Rows.uptoBulk d) fuel cs (d, ps) (by simpa [Value.cells] using hf) (by simpa using hsz.trans hC) (Nat.le_refl _) (fun x hx => by have := List.all_eq_true.1 hz _ (DataW.weights_mem_each hj hdj x hx); simpa using this)
  subst e
  obtain ⟨f, hr, ho⟩ := rep_of_at _ c hc (Nat.le_refl _)
  cases hz : Rows.uptoBulk d with
  | zero => rw [hz] at hc; exact hc.elim
  | succ z =>
    rw [hz] at hr ho
    obtain ⟨k, a, b, subs, kids⟩ := f
    have hr' := hr
    obtain ⟨e1, e2, e3, _⟩ := hr
    obtain ⟨x0, x1, x2, x3, x4⟩ := c
    simp only at e1 e2 e3
    subst e1; subst e2; subst e3
    exact ⟨_, k, a, b, subs, kids, x3, x4, rfl, hr', ho⟩
end
end
end Go.Proofs.YteninjhmmjkckaaGreatDoor
