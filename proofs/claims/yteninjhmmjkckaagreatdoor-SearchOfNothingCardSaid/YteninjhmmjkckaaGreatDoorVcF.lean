/-
  More of the walk: parts of rows, arrays as values, whole blocks overwritten. Nothing is assumed.
-/
import Derived.Test.YteninjhmmjkckaaGreatDoorVcE
namespace Go.Vc
open Go.RowKit
set_option linter.unusedSimpArgs false
set_option linter.unusedVariables false

theorem Row.sub {w : World} {b o : Nat} {cs : List Value} (k n : Nat) (h : Row w b o cs) : Row w b (o + k) ((cs.drop k).take n) := fun i v hi => by
  rw [List.getElem?_take] at hi
  split at hi
  · rw [List.getElem?_drop] at hi
    have := h (k + i) v hi
    rw [show o + k + i = o + (k + i) by omega]
    exact this
  · cases hi

theorem Row.at0 {w : World} {b o : Nat} {cs : List Value} {v : Value} (h : Row w b o cs) (hk : cs[0]? = some v) : w.cell? ⟨b, o, none⟩ = some v := h 0 v hk

theorem setAt_aux : ∀ (vs done cs : List Value), vs.length = cs.length → setAt (done ++ cs) done.length vs = done ++ vs
  | [], done, [], _ => rfl
  | v :: vs, done, c :: cs, h => by
    have h' : vs.length = cs.length := by simpa using h
    have e : (done ++ c :: cs).set done.length v = (done ++ [v]) ++ cs := by simp
    rw [setAt, e]
    have := setAt_aux vs (done ++ [v]) cs h'
    rw [List.length_append] at this
    rw [show done.length + 1 = done.length + [v].length from rfl, this]
    simp
theorem setAt_all {vs cs : List Value} (h : vs.length = cs.length) : setAt cs 0 vs = vs := setAt_aux vs [] cs h

theorem set_mapJ {α : Type} (f : α → Value) (q : List α) (r : Nat) (x : α) : (q.map f).set (0 + r * 1) (f x) = (q.set r x).map f := by
  rw [Nat.zero_add, Nat.mul_one, List.map_set]

/-! ### Blocks of unlike types are not one -/

theorem Blk.ne {w : World} {b b' : Nat} {cs cs' : List Value} {T T' : TypeId} (h : Blk w b cs T) (h' : Blk w b' cs' T') (hT : Nat.beq T T' = false) : b ≠ b' := by
  rintro rfl
  unfold Blk at h h'
  rw [h] at h'
  simp only [Option.some.injEq, Obj.cells.injEq] at h'
  rw [h'.2.1] at hT
  simp at hT
section
variable {α β : Type} {enc : α → List Value} {enc' : β → List Value} {sz sz' B B' : Nat} {T T' : TypeId} {w : World} {v v' : Value} {l : List α} {l' : List β}
theorem Own.heap (h : Own enc sz T B w v l) {k : Nat} (hk : v.ownBlock = some k) : ∃ cs, w.heap[k]? = some (.cells cs T (0, 0)) := by
  obtain ⟨_, h2⟩ := h.row
  rcases h2 with ⟨rfl, _⟩ | ⟨g, cap, cur, rfl, _, hg, _⟩
  · cases hk
  · have : g = k := Option.some.inj hk
    subst this
    exact ⟨cur, hg⟩
theorem Own.ne_blk (h : Own enc sz T B w v l) {b : Nat} {cs : List Value} (hb : Blk w b cs T') (hT : Nat.beq T T' = false) : v.ownBlock ≠ some b := fun e => by
  obtain ⟨cs', hc⟩ := h.heap e
  unfold Blk at hb
  rw [hb] at hc
  simp only [Option.some.injEq, Obj.cells.injEq] at hc
  rw [hc.2.1] at hT
  simp at hT
theorem Own.base_block (h : Own enc sz T B w v l) (hl : l ≠ []) : v.ownBlock = some (base v).1 := by
  rcases h.sl with ⟨_, hn⟩ | ⟨b, o, c, rfl, _⟩ | ⟨hn, _⟩
  · exact absurd (List.eq_nil_of_length_eq_zero hn) hl
  · rfl
  · exact absurd (List.eq_nil_of_length_eq_zero hn) hl
theorem Own.ne (h : Own enc sz T B w v l) (h' : Own enc' sz' T' B' w v' l') (hT : Nat.beq T T' = false) {k : Nat} (hk : v.ownBlock = some k) : v'.ownBlock ≠ some k := fun e => by
  obtain ⟨cs, hc⟩ := h.heap hk
  obtain ⟨cs', hc'⟩ := h'.heap e
  rw [hc'] at hc
  simp only [Option.some.injEq, Obj.cells.injEq] at hc
  rw [hc.2.1] at hT
  simp at hT
end
theorem RX.mod {S : Nat → Prop} {anc : Bool} : RX (Mod S) anc := .inr fun _ _ h => h.mono (fun _ h _ => h.elim)
theorem modRefl {S : Nat → Prop} (w : World) : Mod S w w := Mod.refl S w
theorem modTrans {S : Nat → Prop} (a b c : World) (h : Mod S a b) (k : Mod S b c) : Mod S a c := Mod.trans h k (fun _ h => h) (fun _ h _ => h)

theorem flat_rep0 (h : Nat) : (List.replicate h [I 0]).flatten = (List.replicate h 0).map fun j : Nat => I (j : Int) := by
  induction h with
  | zero => rfl
  | succ h ih => rw [List.replicate_succ, List.flatten_cons, ih, List.replicate_succ]; rfl

@[reducible] def encJ (j : Nat) : List Value := [I (j : Int)]
@[reducible] def encU (j : Nat) : List Value := [.int .u32 j]
@[reducible] def mapJ (q : List Nat) : List Value := q.map fun j : Nat => I (j : Int)
theorem flat_mapJ (q : List Nat) : q.flatMap encJ = mapJ q := by
  induction q with
  | nil => simp [mapJ]
  | cons x r ih => rw [List.flatMap_cons, ih]; simp [mapJ]

theorem mapJ_at {q : List Nat} {i x : Nat} (h : q[i]? = some x) : (mapJ q)[0 + i * 1]? = some (I (x : Int)) := by
  rw [Nat.zero_add, Nat.mul_one, List.getElem?_map, h]; rfl

section
variable {P : Program} {n : Nat} {ds : List (Option Tmp)} {R : World → World → Prop} {r : List (Oper × Fl × Bool)} {K : Env → World → Prop} {E : Env} {w : World}
variable {d : Nat} {op : Op} {ty : TypeId} {pos : String} {af : Array Edge} {g : Option (Nat × Bool)} {anc : Bool} {v : Value}

theorem D_storeA {a x : Operand} {T T' b m : Nat} {cs vs : List Value} (hg : guardB ds E g = true) (ha : ev E a = ptr b 0) (hx : ev E x = .agg ⟨vs⟩) (hs : sizeT P T = some m) (hm : vs.length = m) (hl : cs.length = m) (hb : Blk w b cs T')
    (h1 : ∀ v ∈ vs, v.oneCell' = true) (hR : anc = true ∨ ∀ w', Mod (oneB b) w w' → R w w')
    (h : ∀ w1, Mod (oneB b) w w1 → w1.heap.size = w.heap.size → Blk w1 b vs T' → Dw P n ds R r K E w1) : Dw P n ds R ((⟨none, .store T a x, ty, pos, af, g⟩, .x, anc) :: r) K E w :=
  D_store (v := .agg ⟨vs⟩) hg ha hx rfl (by rw [hs, hm]) hb (by omega) h1 hR (fun w1 h2 h3 h4 => h w1 h2 h3 (by rwa [setAt_all (by omega)] at h4))

theorem pv_idxG {x y : Operand} {T e m i : Nat} {cs : List Value} {v : Value} {dd : Option Tmp} (hT : arrElem P T = some (m, e, 1)) (he : isOne P e = true) (hx : ev E x = .agg ⟨cs⟩) (hy : ev E y = I i) (hi : i < m) (hv : cs[i]? = some v) :
    PV P ⟨dd, .index T x y, ty, pos, af, g⟩ E v := fun w => by
  obtain ⟨hu, f, hf, hk⟩ := arrElem_under hT
  have h0 : (0 : Int) ≤ (i : Int) ∧ (i : Int) < (m : Int) := by omega
  have hm : (i : Int) < (m : Int) := h0.2
  simp [execOp, Instr.index, asIntOf, hx, hy, underlying, hu, hm, sizeOf, typeInfo, hf, hk, part, isOne_agg he, hv]
  omega

/-- Returns something of which this is known; the blocks of S may have changed. -/
def Does (S : Nat → Prop) (w : World) (F : Value → World → Prop) : Ending → World → Prop := fun e w' => ∃ v, e = .returned v ∧ Mod S w w' ∧ F v w'

theorem D_callD {S : Nat → Prop} {f : Nat} {as : List Operand} {ats : Array TypeId} {vs : List Value} {F : Value → World → Prop} (hg : guardB ds E g = true) (hf : callB P f = true) (hc : Calls P f vs.toArray w (Does S w F)) (ha : as.map (ev E) = vs)
    (hR : anc = true ∨ ∀ w', Mod S w w' → R w w') (h : ∀ v w1, Mod S w w1 → F v w1 → Dw P n ds R r K (upd E d v) w1) :
    Dw P n ds R ((⟨some d, .call { callee := .value (.func f), args := as.toArray, argTypes := ats }, ty, pos, af, g⟩, .x, anc) :: r) K E w :=
  D_call hg hf ha hc fun e w1 ⟨v, he, hx, hF⟩ => ⟨v, he, fun e => hR.elim (fun h => by rw [h] at e; cases e) (fun h => h _ hx), h v w1 hx hF⟩

/-- Where what is appended lies: where it lay, or in a new block. -/
theorem append_where {t ty e B : Nat} {i : TypeInfo} {z v' : Value} {w' : World} (ht : P.underlying t = some (.slice e)) (hi : P.info? e = some i) (hz : i.zero = some z) (hzs : z.cells.size = i.size)
    {m0 : Nat} {xs : List Value} (hown : w.ownsRow B e i.size v m0 xs) (a : Addr) (m c : Nat) (news : List Value) (hl : news.length = m * i.size) (hnews : ∀ j u, news[j]? = some u → w.cell? (a.add j) = some u) (h1 : ∀ u ∈ news, u.oneCell' = true)
    (h63 : m0 + m ≤ maxLen) (hbytes : (m0 + m) * i.bytes ≤ 140737488355328) (hr : (Builtin.append_ #[t, t] ty #[v, .slice (some a) m c]).run P w = .ok v' w') :
    v'.ownBlock = v.ownBlock ∨ v'.ownBlock = some w.heap.size := by
  have hsmall : m0 + m ≤ 9223372036854775807 := by simp only [maxLen] at h63; omega
  rcases hown.2 with ⟨rfl, rfl⟩ | ⟨g, cap, cur, rfl, hbg, hg, hnc, hcm, hcs, htake⟩
  · by_cases hm : m = 0
    · subst hm
      have hn : news = [] := List.eq_nil_of_length_eq_zero (by simpa using hl)
      subst hn
      have e : (Builtin.append_ #[t, t] ty #[.slice none 0 0, .slice (some a) 0 c]).run P w = .ok (.slice none 0 0) w := by
        simp [Builtin.append_, run_underlying ht, sizeOf, typeInfo, hi, Builtin.lenOf, Builtin.firstCells, loadCells, loadCellsFrom]
      rw [e] at hr; cases hr; exact .inl rfl
    · have hr2 := run_append_nil (P := P) w t ty e i z ht hi hz a m c news hl hnews (by omega) (by omega) (by have hb := hbytes; simp only [Nat.zero_add] at hb; omega)
      rw [hr2] at hr; cases hr; exact .inr rfl
  · by_cases hroom : m0 + m ≤ cap
    · have hfit : m0 * i.size + news.length ≤ cur.size := by rw [hl, hcs, ← Nat.add_mul]; exact Nat.mul_le_mul_right _ hroom
      have hr2 := run_append_room (P := P) w t ty e i ht hi g m0 cap cur hg a m c news hl hnews h1 hroom hfit
      rw [hr2] at hr; cases hr; exact .inl rfl
    · have holds : ∀ j u, xs[j]? = some u → w.cell? ((⟨g, 0, none⟩ : Addr).add j) = some u := hown.cells (g := g) rfl
      have hr2 := run_append_grow (P := P) w t ty e i z ht hi hz ⟨g, 0, none⟩ m0 cap xs hown.1 holds a m c news hl hnews (by omega) (by omega) (growslice_fits (by omega) hbytes)
      rw [hr2] at hr; cases hr; exact .inr rfl

/-- 'append' to a slice of the call's own; where it lies then. -/
theorem D_append2 {α : Type} {enc : α → List Value} {s x : Operand} {t e sz by' B : Nat} {vx : Value} {l lx : List α} (hg : guardB ds E g = true) (ht : slElem P t = some (e, sz)) (hE : elemB P e sz by' = true)
    (henc : ∀ x, (enc x).length = sz) (hown : Own enc sz e B w v l) (hax : Arr enc sz w vx lx) (hs : ev E s = v) (hx : ev E x = vx) (h1 : ∀ x ∈ lx, ∀ u ∈ enc x, u.oneCell' = true)
    (hbytes : (l.length + lx.length) * by' ≤ 140737488355328) (hby : 1 ≤ by') (hB : B ≤ w.heap.size) (hR : anc = true ∨ ∀ w', Mod (fun k => v.ownBlock = some k) w w' → R w w')
    (h : ∀ v' w', Own enc sz e B w' v' (l ++ lx) → Mod (fun k => v.ownBlock = some k) w w' → (v'.ownBlock = v.ownBlock ∨ v'.ownBlock = some w.heap.size) → Dw P n ds R r K (upd E d v') w') :
    Dw P n ds R ((⟨some d, .call { callee := .builtin .append, args := #[s, x], argTypes := #[t, t] }, ty, pos, af, g⟩, .x, anc) :: r) K E w := by
  obtain ⟨hu, _⟩ := slElem_under ht
  obtain ⟨i, z, hi, hz, hsize, hby', hzs, hsz⟩ := elemB_spec hE
  have h63 : l.length + lx.length ≤ maxLen := by
    unfold maxLen
    have : (l.length + lx.length) * 1 ≤ (l.length + lx.length) * by' := Nat.mul_le_mul_left _ hby
    omega
  have hRR : ∀ w', Mod (fun k => v.ownBlock = some k) w w' → anc = false → R w w' := fun w' hm e => hR.elim (fun h => by rw [h] at e; cases e) (fun h => h _ hm)
  rcases hax.sl with ⟨rfl, hl0⟩ | ⟨b, o, c, rfl, hc⟩ | ⟨hl0, ⟨b, o, s0⟩, c, rfl⟩
  · -- nothing is appended
    have hlx := List.eq_nil_of_length_eq_zero hl0
    subst hlx
    have hrun : (Builtin.append_ #[t, t] ty #[v, .slice none 0 0]).run P w = .ok v w := by
      rcases hown.sl with ⟨rfl, hn⟩ | ⟨b, o, c, rfl, hn⟩ | ⟨hn, a, c, rfl⟩
      · simp [Builtin.append_, run_underlying hu, sizeOf, typeInfo, hi, Builtin.lenOf, Builtin.firstCells]
      · simp [Builtin.append_, run_underlying hu, sizeOf, typeInfo, hi, Builtin.lenOf, Builtin.firstCells, hn, storeCells]
      · simp [Builtin.append_, run_underlying hu, sizeOf, typeInfo, hi, Builtin.lenOf, Builtin.firstCells, hn, storeCells]
    refine D_xv (w' := w) (v := v) hg ?_ (hRR _ (Mod.refl _ _)) (h v w (by simpa using hown) (Mod.refl _ _) (.inl rfl))
    simp only [execOp, resolve, invoke, builtin, Sem.run_bind, Sem.run_pure, Result.andThen_ok, List.map_toArray, List.map_cons, List.map_nil, hs, hx, hrun]
  · have hnews : ∀ j u, (lx.flatMap enc)[j]? = some u → w.cell? ((⟨b, o, none⟩ : Addr).add j) = some u := (fun j u hj => by
        have := Arr.flat henc hax j u hj
        have ha : (⟨b, o, none⟩ : Addr).add j = ⟨b, o + j, none⟩ := by
          unfold Addr.add
          split
          · rename_i e; simp [e]
          · rfl
        rw [ha]; exact this)
    obtain ⟨v', w', hr, h2, h3, h4⟩ := run_append_own (P := P) w B t ty e i z sz by' hu hi hz hsize hby' hzs hsz v l.length (l.flatMap enc) hown.row ⟨b, o, none⟩ lx.length c (lx.flatMap enc) (flat_len henc lx)
      hnews (flat_one h1) h63 hbytes hB
    have hw := append_where (P := P) hu hi hz (by rw [hzs, hsize]) (by rw [hsize]; exact hown.row) ⟨b, o, none⟩ lx.length c (lx.flatMap enc) (by rw [hsize]; exact flat_len henc lx) hnews (flat_one h1) h63 (by rw [hby']; exact hbytes) hr
    refine D_xv (w' := w') (v := v') hg ?_ (hRR _ ?_) (h v' w' ⟨by rw [List.length_append, List.flatMap_append]; exact h2⟩ ?_ hw)
    · simp only [execOp, resolve, invoke, builtin, Sem.run_bind, Sem.run_pure, Result.andThen_ok, List.map_toArray, List.map_cons, List.map_nil, hs, hx, hr]
    · exact Mod.of_grown h3
    · exact Mod.of_grown h3
  · have hlx := List.eq_nil_of_length_eq_zero hl0
    subst hlx
    obtain ⟨v', w', hr, h2, h3, h4⟩ := run_append_own (P := P) w B t ty e i z sz by' hu hi hz hsize hby' hzs hsz v l.length (l.flatMap enc) hown.row ⟨b, o, s0⟩ 0 c [] (by simp) (fun j u hj => by simp at hj) (fun u hu => by cases hu) h63 hbytes hB
    have hw := append_where (P := P) hu hi hz (by rw [hzs, hsize]) (by rw [hsize]; exact hown.row) ⟨b, o, s0⟩ 0 c [] (by simp) (fun j u hj => by simp at hj) (fun u hu => by cases hu) h63 (by rw [hby']; exact hbytes) hr
    refine D_xv (w' := w') (v := v') hg ?_ (hRR _ (Mod.of_grown h3)) (h v' w' ⟨by rw [List.length_append, List.flatMap_append]; exact h2⟩ (Mod.of_grown h3) hw)
    simp only [execOp, resolve, invoke, builtin, Sem.run_bind, Sem.run_pure, Result.andThen_ok, List.map_toArray, List.map_cons, List.map_nil, hs, hx, hr]

end
end Go.Vc
