/-
  More operations of the walk: append, make, literals of slices, slices of slices, bytes and strings, structs compared, arithmetic of other widths. Nothing is assumed.
-/
import Derived.Test.YteninjhmmjkckaaGreatDoorVcD
namespace Go.Vc
open Go.RowKit
set_option linter.unusedSimpArgs false
set_option linter.unusedVariables false

/-! ### A slice of the call's own -/

/-- From block B on; nothing behind it is shared. -/
structure Own {α : Type} (enc : α → List Value) (sz T : Nat) (B : Nat) (w : World) (v : Value) (l : List α) : Prop where
  row : w.ownsRow B T sz v l.length (l.flatMap enc)

section
variable {α : Type} {enc : α → List Value} {sz T B : Nat} {w w' : World} {v : Value} {l : List α}

theorem Own.nil : Own enc sz T B w (.slice none 0 0) [] := ⟨World.ownsRow_nil w B T sz⟩

theorem Own.lt (h : Own enc sz T B w v l) : ∀ k, v.ownBlock = some k → B ≤ k ∧ k < w.heap.size := h.row.lt

theorem Own.mod {S : Nat → Prop} (h : Own enc sz T B w v l) (m : Mod S w w') (hS : ∀ k, v.ownBlock = some k → ¬ S k) : Own enc sz T B w' v l := by
  obtain ⟨h1, h2⟩ := h.row
  refine ⟨h1, ?_⟩
  rcases h2 with h2 | ⟨g, cap, cur, hv, hg, hh, r⟩
  · exact Or.inl h2
  · have hb : g < w.heap.size := (h.lt g (by rw [hv]; rfl)).2
    exact Or.inr ⟨g, cap, cur, hv, hg, by rw [m.block g hb (hS g (by rw [hv]; rfl))]; exact hh, r⟩
theorem Own.ext (h : Own enc sz T B w v l) (m : Ext w w') : Own enc sz T B w' v l := h.mod m (fun _ _ h => h)
theorem Own.mono {B' : Nat} (h : Own enc sz T B w v l) (hB : B' ≤ B) : Own enc sz T B' w v l := by
  obtain ⟨h1, h2⟩ := h.row
  refine ⟨h1, ?_⟩
  rcases h2 with h2 | ⟨g, cap, cur, hv, hg, r⟩
  · exact Or.inl h2
  · exact Or.inr ⟨g, cap, cur, hv, Nat.le_trans hB hg, r⟩

theorem Own.sl (h : Own enc sz T B w v l) : isSl v l.length := by
  obtain ⟨_, h2⟩ := h.row
  rcases h2 with ⟨h2, h3⟩ | ⟨g, cap, cur, hv, hg, hh, hn, _⟩
  · exact .inl ⟨h2, h3⟩
  · exact .inr (.inl ⟨g, 0, cap, hv, hn⟩)

theorem flatMap_at (henc : ∀ x, (enc x).length = sz) : ∀ (l : List α) (i : Nat) (x : α), l[i]? = some x → ∀ j u, (enc x)[j]? = some u → (l.flatMap enc)[i * sz + j]? = some u := by
  intro l
  induction l with
  | nil => intro i x h; simp at h
  | cons y r ih =>
    intro i x h j u hj
    rw [List.flatMap_cons]
    cases i with
    | zero =>
      simp at h; subst h
      rw [Nat.zero_mul, Nat.zero_add, List.getElem?_append_left]
      · exact hj
      · exact (List.getElem?_eq_some_iff.1 hj).1
    | succ i =>
      have h' : r[i]? = some x := by simpa using h
      rw [List.getElem?_append_right (by rw [henc, Nat.succ_mul]; omega), henc]
      rw [show (i + 1) * sz + j - sz = i * sz + j by rw [Nat.succ_mul]; omega]
      exact ih i x h' j u hj

theorem Own.arr (henc : ∀ x, (enc x).length = sz) (h : Own enc sz T B w v l) : Arr enc sz w v l := by
  refine ⟨by rw [List.length_map]; exact h.sl, fun i cs hi => ?_⟩
  rw [List.getElem?_map] at hi
  cases hx : l[i]? with
  | none => rw [hx] at hi; cases hi
  | some x =>
    rw [hx] at hi
    simp only [Option.map_some, Option.some.injEq] at hi
    subst hi
    refine ⟨henc x, fun j u hj => ?_⟩
    obtain ⟨_, h2⟩ := h.row
    rcases h2 with ⟨rfl, h3⟩ | ⟨g, cap, cur, rfl, hg, hh, hn, _⟩
    · have := List.eq_nil_of_length_eq_zero h3; subst this; simp at hx
    · have hc := h.row.cells (g := g) rfl (i * sz + j) u (flatMap_at henc l i x hx j u hj)
      have ha : (⟨g, 0, none⟩ : Addr).add (i * sz + j) = ⟨g, 0 + i * sz + j, none⟩ := by
        unfold Addr.add
        split
        · rename_i e
          have h0 : i * sz = 0 ∧ j = 0 := by omega
          rw [h0.1, h0.2]
        · simp [Nat.add_assoc]
      rw [ha] at hc
      simpa [base] using hc
end

theorem isSl.one {v : Value} {n : Nat} (h : isSl v n) : v.oneCell' = true := by
  rcases h with ⟨rfl, _⟩ | ⟨b, o, c, rfl, _⟩ | ⟨_, a, c, rfl⟩ <;> rfl
theorem isSl.cells {v : Value} {n : Nat} (h : isSl v n) : v.cells = ⟨[v]⟩ := by
  rcases h with ⟨rfl, _⟩ | ⟨b, o, c, rfl, _⟩ | ⟨_, a, c, rfl⟩ <;> rfl
theorem cells_one {v : Value} (h : v.oneCell' = true) : v.cells = ⟨[v]⟩ := by
  cases v <;> first | rfl | cases h

theorem Own.base_ge {α : Type} {enc : α → List Value} {sz T B : Nat} {w : World} {v : Value} {l : List α} (h : Own enc sz T B w v l) (hl : l ≠ []) : B ≤ (base v).1 ∧ (base v).1 < w.heap.size := by
  rcases h.sl with ⟨_, hn⟩ | ⟨b, o, c, rfl, _⟩ | ⟨hn, _⟩
  · exact absurd (List.eq_nil_of_length_eq_zero hn) hl
  · exact h.lt b rfl
  · exact absurd (List.eq_nil_of_length_eq_zero hn) hl

/-! ### All that was there when a region began stays -/

def geB (D : Nat) : Nat → Prop := fun k => D ≤ k
theorem Far.refl (D : Nat) (w : World) : Mod (geB D) w w := Mod.refl _ _
theorem Far.trans {D : Nat} (a b c : World) (h : Mod (geB D) a b) (k : Mod (geB D) b c) : Mod (geB D) a c := Mod.trans h k (fun _ h => h) (fun _ h _ => h)
theorem Far.of_ext {D : Nat} {a b : World} (h : Ext a b) : Mod (geB D) a b := h.mono (fun _ h _ => h.elim)
theorem RX.far {D : Nat} {anc : Bool} : RX (Mod (geB D)) anc := .inr fun _ _ h => Far.of_ext h
theorem Blk.far {w w' : World} {b T : Nat} {cs : List Value} (h : Blk w b cs T) (m : Mod (geB w.heap.size) w w') : Blk w' b cs T := h.mod m (fun g => by have := h.lt; unfold geB at g; omega)
theorem Arr.far {α : Type} {enc : α → List Value} {sz : Nat} {w w' : World} {v : Value} {l : List α} (h : Arr enc sz w v l) (hsz : 0 < sz) (m : Mod (geB w.heap.size) w w') : Arr enc sz w' v l := h.mod m (fun hl g => by
  cases l with
  | nil => exact hl rfl
  | cons x r => have := h.blk hsz (x := x) rfl; unfold geB at g; omega)
theorem Own.far {α : Type} {enc : α → List Value} {sz T B : Nat} {w w' : World} {v : Value} {l : List α} (h : Own enc sz T B w v l) (m : Mod (geB w.heap.size) w w') : Own enc sz T B w' v l := h.mod m (fun k hk g => by have := (h.lt k hk).2; unfold geB at g; omega)
/-- What an append to a slice made since then writes. -/
theorem Far.own {α : Type} {enc : α → List Value} {sz T B D : Nat} {w : World} {v : Value} {l : List α} (h : Own enc sz T B w v l) (hD : D ≤ B) : ∀ w', Mod (fun k => v.ownBlock = some k) w w' → Mod (geB D) w w' := fun w' m => m.mono (fun i hi _ => by have := (h.lt i hi).1; unfold geB; omega)

/-! ### What a type's elements are like -/

/-- Elements of so many cells and bytes. -/
def elemB (P : Program) (e sz by' : Nat) : Bool := match P.info? e with
  | some i => i.size == sz && i.bytes == by' && Nat.blt 0 sz && (match i.zero with | some z => z.cells.size == sz | none => false)
  | none => false

theorem elemB_spec {P : Program} {e sz by' : Nat} (h : elemB P e sz by' = true) : ∃ i z, P.info? e = some i ∧ i.zero = some z ∧ i.size = sz ∧ i.bytes = by' ∧ z.cells.size = sz ∧ 0 < sz := by
  unfold elemB at h
  cases hi : P.info? e with
  | none => rw [hi] at h; cases h
  | some i =>
    rw [hi] at h
    simp only [Bool.and_eq_true, beq_iff_eq] at h
    obtain ⟨⟨⟨h1, h2⟩, h3⟩, h4⟩ := h
    cases hz : i.zero with
    | none => rw [hz] at h4; cases h4
    | some z => rw [hz] at h4; exact ⟨i, z, rfl, hz, h1, h2, by simpa using h4, by simpa [Nat.blt_eq] using h3⟩

section
variable {P : Program} {n : Nat} {ds : List (Option Tmp)} {R : World → World → Prop} {r : List (Oper × Fl × Bool)} {K : Env → World → Prop} {E : Env} {w : World}
variable {d : Nat} {op : Op} {ty : TypeId} {pos : String} {af : Array Edge} {g : Option (Nat × Bool)} {anc : Bool} {v : Value}

theorem flat_one {α : Type} {enc : α → List Value} {l : List α} (h : ∀ x ∈ l, ∀ u ∈ enc x, u.oneCell' = true) : ∀ u ∈ l.flatMap enc, u.oneCell' = true := by
  intro u hu
  obtain ⟨x, hx, hu'⟩ := List.mem_flatMap.1 hu
  exact h x hx u hu'

theorem flat_len {α : Type} {enc : α → List Value} {sz : Nat} (henc : ∀ x, (enc x).length = sz) : ∀ l : List α, (l.flatMap enc).length = l.length * sz := by
  intro l
  induction l with
  | nil => simp
  | cons x r ih => simp [List.flatMap_cons, ih, henc, Nat.succ_mul]; omega

theorem Arr.flat {α : Type} {enc : α → List Value} {sz : Nat} {l : List α} (henc : ∀ x, (enc x).length = sz) (h : Arr enc sz w v l) : ∀ j u, (l.flatMap enc)[j]? = some u → w.cell? ⟨(base v).1, (base v).2 + j, none⟩ = some u := by
  intro j u hj
  by_cases hsz : sz = 0
  · have hl := flat_len henc l
    rw [hsz, Nat.mul_zero] at hl
    rw [List.eq_nil_of_length_eq_zero hl] at hj
    simp at hj
  have hlt := (List.getElem?_eq_some_iff.1 hj).1
  rw [flat_len henc] at hlt
  have hq : j / sz < l.length := Nat.div_lt_of_lt_mul (by rw [Nat.mul_comm]; exact hlt)
  have hx : l[j / sz]? = some l[j / sz] := List.getElem?_eq_getElem hq
  have hr : j % sz < (enc l[j / sz]).length := by rw [henc]; exact Nat.mod_lt _ (by omega)
  have e : j / sz * sz + j % sz = j := by rw [Nat.mul_comm]; exact Nat.div_add_mod j sz
  have h1 := flatMap_at henc l _ _ hx (j % sz) (enc l[j / sz])[j % sz] (List.getElem?_eq_getElem hr)
  rw [e, hj] at h1
  have h2 := h.row hx (j % sz) _ (List.getElem?_eq_getElem hr)
  rw [show (base v).2 + j / sz * sz + j % sz = (base v).2 + j by omega] at h2
  rw [h2, h1]

/-- 'append' to a slice of the call's own. -/
theorem D_append {α : Type} {enc : α → List Value} {s x : Operand} {t e sz by' B : Nat} {vx : Value} {l lx : List α} (hg : guardB ds E g = true) (ht : slElem P t = some (e, sz)) (hE : elemB P e sz by' = true)
    (henc : ∀ x, (enc x).length = sz) (hown : Own enc sz e B w v l) (hax : Arr enc sz w vx lx) (hs : ev E s = v) (hx : ev E x = vx) (h1 : ∀ x ∈ lx, ∀ u ∈ enc x, u.oneCell' = true)
    (hbytes : (l.length + lx.length) * by' ≤ 140737488355328) (hby : 1 ≤ by') (hB : B ≤ w.heap.size) (hR : anc = true ∨ ∀ w', Mod (fun k => v.ownBlock = some k) w w' → R w w')
    (h : ∀ v' w', Own enc sz e B w' v' (l ++ lx) → Mod (fun k => v.ownBlock = some k) w w' → Dw P n ds R r K (upd E d v') w') :
    Dw P n ds R ((⟨some d, .call { callee := .builtin .append, args := #[s, x], argTypes := #[t, t] }, ty, pos, af, g⟩, .x, anc) :: r) K E w := by
  obtain ⟨hu, _⟩ := slElem_under ht
  obtain ⟨i, z, hi, hz, hsize, hby', hzs, hsz⟩ := elemB_spec hE
  have h63 : l.length + lx.length ≤ maxLen := by
    unfold maxLen
    have : (l.length + lx.length) * 1 ≤ (l.length + lx.length) * by' := Nat.mul_le_mul_left _ hby
    omega
  have hRR : ∀ w', Mod (fun k => v.ownBlock = some k) w w' → anc = false → R w w' := fun w' hm e => hR.elim (fun h => by rw [h] at e; cases e) (fun h => h _ hm)
  rcases hax.sl with ⟨rfl, hl0⟩ | ⟨b, o, c, rfl, hc⟩ | ⟨hl0, ⟨b, o, s0⟩, c, rfl⟩
  · -- nothing is appended
    have hlx := List.eq_nil_of_length_eq_zero hl0
    subst hlx
    have hrun : (Builtin.append_ #[t, t] ty #[v, .slice none 0 0]).run P w = .ok v w := by
      rcases hown.sl with ⟨rfl, hn⟩ | ⟨b, o, c, rfl, hn⟩ | ⟨hn, a, c, rfl⟩
      · simp [Builtin.append_, run_underlying hu, sizeOf, typeInfo, hi, Builtin.lenOf, Builtin.firstCells]
      · simp [Builtin.append_, run_underlying hu, sizeOf, typeInfo, hi, Builtin.lenOf, Builtin.firstCells, hn, storeCells]
      · simp [Builtin.append_, run_underlying hu, sizeOf, typeInfo, hi, Builtin.lenOf, Builtin.firstCells, hn, storeCells]
    refine D_xv (w' := w) (v := v) hg ?_ (hRR _ (Mod.refl _ _)) (h v w (by simpa using hown) (Mod.refl _ _))
    simp only [execOp, resolve, invoke, builtin, Sem.run_bind, Sem.run_pure, Result.andThen_ok, List.map_toArray, List.map_cons, List.map_nil, hs, hx, hrun]
  · obtain ⟨v', w', hr, h2, h3, h4⟩ := run_append_own (P := P) w B t ty e i z sz by' hu hi hz hsize hby' hzs hsz v l.length (l.flatMap enc) hown.row ⟨b, o, none⟩ lx.length c (lx.flatMap enc) (flat_len henc lx)
      (fun j u hj => by
        have := Arr.flat henc hax j u hj
        have ha : (⟨b, o, none⟩ : Addr).add j = ⟨b, o + j, none⟩ := by
          unfold Addr.add
          split
          · rename_i e; simp [e]
          · rfl
        rw [ha]; exact this) (flat_one h1) h63 hbytes hB
    refine D_xv (w' := w') (v := v') hg ?_ (hRR _ ?_) (h v' w' ⟨by rw [List.length_append, List.flatMap_append]; exact h2⟩ ?_)
    · simp only [execOp, resolve, invoke, builtin, Sem.run_bind, Sem.run_pure, Result.andThen_ok, List.map_toArray, List.map_cons, List.map_nil, hs, hx, hr]
    · exact Mod.of_grown h3
    · exact Mod.of_grown h3
  · have hlx := List.eq_nil_of_length_eq_zero hl0
    subst hlx
    obtain ⟨v', w', hr, h2, h3, h4⟩ := run_append_own (P := P) w B t ty e i z sz by' hu hi hz hsize hby' hzs hsz v l.length (l.flatMap enc) hown.row ⟨b, o, s0⟩ 0 c [] (by simp) (fun j u hj => by simp at hj) (fun u hu => by cases hu) h63 hbytes hB
    refine D_xv (w' := w') (v := v') hg ?_ (hRR _ (Mod.of_grown h3)) (h v' w' ⟨by rw [List.length_append, List.flatMap_append]; exact h2⟩ (Mod.of_grown h3))
    simp only [execOp, resolve, invoke, builtin, Sem.run_bind, Sem.run_pure, Result.andThen_ok, List.map_toArray, List.map_cons, List.map_nil, hs, hx, hr]

theorem flat_rep (zs : List Value) (sz : Nat) (hz : zs.length = sz) (hp : 0 < sz) : ∀ (m j : Nat), j < m * sz → ((List.replicate m zs).flatten)[j]? = zs[j % sz]? := by
  intro m
  induction m with
  | zero => intro j h; omega
  | succ m ih =>
    intro j h
    rw [List.replicate_succ, List.flatten_cons]
    by_cases hj : j < sz
    · rw [List.getElem?_append_left (by omega), Nat.mod_eq_of_lt hj]
    · rw [List.getElem?_append_right (by omega), hz, ih (j - sz) (by rw [Nat.succ_mul] at h; omega)]
      rw [show j % sz = (j - sz) % sz from (Nat.mod_eq_sub_mod (by omega))]

theorem made_flat (zs : List Value) (sz m : Nat) (hz : zs.length = sz) (hp : 0 < sz) : (Array.range (m * sz)).map (fun x => (⟨zs⟩ : Array Value)[x % (⟨zs⟩ : Array Value).size]!) = ⟨(List.replicate m zs).flatten⟩ := by
  apply Array.ext'
  apply List.ext_getElem?
  intro j
  by_cases hj : j < m * sz
  · rw [flat_rep zs sz hz hp m j hj]
    have hlt : j % sz < zs.length := by rw [hz]; exact Nat.mod_lt _ hp
    have hs : (⟨zs⟩ : Array Value).size = sz := hz
    simp [hj, hs]
    rw [List.getElem?_eq_getElem hlt]
    rfl
  · have h2 : ((List.replicate m zs).flatten).length = m * sz := by simp [hz]
    rw [List.getElem?_eq_none (by simp; omega), List.getElem?_eq_none (by rw [h2]; omega)]

/-- A literal of a slice. -/
theorem D_lit {t e sz m : Nat} {ps : List (Nat × Operand)} {zs cs : List Value} {pv : List (Nat × Value)} (hg : guardB ds E g = true) (ht : slElem P t = some (e, sz)) (hm : Nat.blt 0 (m * sz) = true ∧ Nat.ble (m * sz) 16777216 = true) (hz : zeroC P e = some zs) (hzs : Nat.beq zs.length sz = true)
    (hv : EvL E ps pv) (hf : fillL (fun i => some (i * sz, sz)) ((List.replicate m zs).flatten) pv = some cs) (hR : RX R anc)
    (h : ∀ b w1, b = w.heap.size → Ext w w1 → Blk w1 b cs e → Dw P n ds R r K (upd E d (.slice (some ⟨b, 0, none⟩) m m)) w1) :
    Dw P n ds R ((⟨some d, .buildSlice t m ps.toArray, ty, pos, af, g⟩, .x, anc) :: r) K E w := by
  obtain ⟨hu, i, hi, hs⟩ := slElem_under ht
  have hmap := EvL.map hv
  have h0 : 0 < m * sz := by simpa [Nat.blt_eq] using hm.1
  have hm' : m * sz ≤ 16777216 := by simpa [Nat.ble_eq] using hm.2
  have hzs' : zs.length = sz := Nat.eq_of_beq_eq_true hzs
  have hsz : 0 < sz := Nat.pos_of_ne_zero (fun e => by rw [e] at h0; omega)
  obtain ⟨z, hz1, hz2⟩ := zeroC_run (P := P) (w := w) hz
  refine D_xv (v := .slice (some ⟨w.heap.size, 0, none⟩) m m) (w' := w.alloc (.cells ⟨cs⟩ e)) hg ?_ (hR.use (Ext.alloc _ _)) (h _ _ rfl (Ext.alloc _ _) ?_)
  · have h2 := fill_eq _ pv _ cs hf
    have hb : ¬ (m * sz > 2 ^ 24) := by omega
    have hne : ¬ (m * sz = 0) := by omega
    have e1 : (Instr.buildSlice t m ⟨pv⟩).run P w = .ok (.slice (some ⟨w.heap.size, 0, none⟩) m m) (w.alloc (.cells ⟨cs⟩ e)) := by
      unfold Instr.buildSlice
      simp only [underlying, Sem.run_bind, run_program, Result.andThen_ok, hu, Sem.run_pure, sizeOf, typeInfo, hi, hs]
      rw [if_neg hb, if_neg hne]
      simp only [Sem.run_bind, Sem.run_pure, Result.andThen_ok, hz1, hz2]
      rw [made_flat zs sz m hzs' hsz, h2]
      simp [newRow]
    have e2 : (ps.toArray.map fun (i, x) => (i, ev E x)) = ⟨pv⟩ := by
      rw [← hmap]; simp
    simp only [execOp]
    rw [e2]
    simp only [Sem.run_bind, e1, Result.andThen_ok, Sem.run_pure]
  · show (w.heap.push _)[w.heap.size]? = _; simp

/-- An empty literal. -/
theorem D_lit0 {t e sz : Nat} (hg : guardB ds E g = true) (ht : slElem P t = some (e, sz)) (hR : RX R anc)
    (h : ∀ b w1, b = w.heap.size → Ext w w1 → Blk w1 b [] e → Dw P n ds R r K (upd E d (.slice (some ⟨b, 0, none⟩) 0 0)) w1) :
    Dw P n ds R ((⟨some d, .buildSlice t 0 #[], ty, pos, af, g⟩, .x, anc) :: r) K E w := by
  obtain ⟨hu, i, hi, hs⟩ := slElem_under ht
  refine D_xv (v := .slice (some ⟨w.heap.size, 0, none⟩) 0 0) (w' := w.alloc (.cells ⟨[]⟩ e)) hg ?_ (hR.use (Ext.alloc _ _)) (h _ _ rfl (Ext.alloc _ _) ?_)
  · have e0 : (Array.map (fun x => (default : Value)) (Array.range 0)) = ⟨[]⟩ := by simp
    simp [execOp, Instr.buildSlice, underlying, hu, sizeOf, typeInfo, hi, Instr.fill, newRow, e0]
  · show (w.heap.push _)[w.heap.size]? = _; simp

/-- 'make([]T, n)'. -/
theorem D_make {t e sz by' m : Nat} {zs : List Value} {x y : Operand} (hg : guardB ds E g = true) (ht : slElem P t = some (e, sz)) (hE : elemB P e sz by' = true) (hz : zeroC P e = some zs) (hx : ev E x = I m) (hy : ev E y = I m)
    (hb : by' * m ≤ 281474976710656) (hb1 : m ≤ 4611686018427387904) (hR : RX R anc)
    (h : ∀ b w1, b = w.heap.size → Ext w w1 → Blk w1 b ((List.replicate m zs).flatten) e → Dw P n ds R r K (upd E d (.slice (some ⟨b, 0, none⟩) m m)) w1) :
    Dw P n ds R ((⟨some d, .makeSlice t x y, ty, pos, af, g⟩, .x, anc) :: r) K E w := by
  obtain ⟨hu, _⟩ := slElem_under ht
  obtain ⟨i, z, hi, hz0, hsize, hby, hzs, hsz⟩ := elemB_spec hE
  have hzz : z.cells = ⟨zs⟩ := by
    unfold zeroC at hz
    simp only [hi, Option.bind_some, hz0, Option.map_some, Option.some.injEq] at hz
    rw [← hz]
  have hzl : zs.length = sz := by rw [hzz] at hzs; exact hzs
  have hb' : (i.bytes : Int) * (m : Int) ≤ 281474976710656 := by
    rw [hby]
    have h : ((by' * m : Nat) : Int) ≤ 281474976710656 := by omega
    rwa [Int.natCast_mul] at h
  have hr := run_make (P := P) w t e i z hu hi hz0 .i64 .i64 m m (by omega) (Int.le_refl _) hb' (by omega)
  simp only [Int.toNat_natCast] at hr
  have e0 : madeCells z.cells (m * i.size) = ⟨(List.replicate m zs).flatten⟩ := by
    rw [hzz, hsize, ← made_flat zs sz m hzl hsz]; rfl
  rw [e0] at hr
  refine D_xv (v := .slice (some ⟨w.heap.size, 0, none⟩) m m) (w' := w.alloc (.cells ⟨(List.replicate m zs).flatten⟩ e)) hg ?_ (hR.use (Ext.alloc _ _)) (h _ _ rfl (Ext.alloc _ _) ?_)
  · simp [execOp, hx, hy, hr]
  · show (w.heap.push _)[w.heap.size]? = _; simp

/-- A block that was made whole is the call's own. -/
theorem Blk.own {α : Type} {enc : α → List Value} {sz T b B m : Nat} {l : List α} {cs : List Value} (h : Blk w b cs T) (hB : B ≤ b) (hcs : cs = l.flatMap enc) (henc : ∀ x, (enc x).length = sz) (hm : m = l.length) (hl : l.length ≤ 4611686018427387904) : Own enc sz T B w (.slice (some ⟨b, 0, none⟩) m m) l := by
  subst hcs; subst hm
  refine ⟨flat_len henc l, .inr ⟨b, l.length, ⟨l.flatMap enc⟩, rfl, hB, h, Nat.le_refl _, by unfold maxLen; omega, flat_len henc l, ?_⟩⟩
  show (l.flatMap enc).take (l.length * sz) = _
  rw [← flat_len henc l, List.take_length]

theorem Blk.arr {α : Type} {enc : α → List Value} {sz T b m : Nat} {l : List α} {cs : List Value} (h : Blk w b cs T) (hcs : cs = l.flatMap enc) (henc : ∀ x, (enc x).length = sz) (hm : m = l.length) (hl : l.length ≤ 4611686018427387904) : Arr enc sz w (.slice (some ⟨b, 0, none⟩) m m) l :=
  (h.own (Nat.zero_le _) hcs henc hm hl).arr henc

/-- A store of one cell. -/
theorem D_store1 {a x : Operand} {T T' b o : Nat} {cs : List Value} (hg : guardB ds E g = true) (ha : ev E a = ptr b o) (hx : ev E x = v) (hv : v.oneCell' = true) (hs : sizeT P T = some 1) (hb : Blk w b cs T')
    (ho : o < cs.length) (hR : anc = true ∨ ∀ w', Mod (oneB b) w w' → R w w')
    (h : ∀ w1, Mod (oneB b) w w1 → w1.heap.size = w.heap.size → Blk w1 b (cs.set o v) T' → Dw P n ds R r K E w1) : Dw P n ds R ((⟨none, .store T a x, ty, pos, af, g⟩, .x, anc) :: r) K E w :=
  D_store (vs := [v]) hg ha hx (cells_one hv) hs hb (by simp; omega) (by intro u hu; simp at hu; rw [hu]; exact hv) hR h

/-! slices of slices -/

def slV (k : Nat) (v : Value) (lo hi : Nat) : Value := match v with
  | .slice (some a) _ c => .slice (some (if c = lo then a else a.add (lo * k))) (hi - lo) (c - lo)
  | _ => .slice none 0 0

theorem pv_slV {x : Operand} {lo hi : Option Operand} {T a b e k m : Nat} {dd : Option Tmp} (hT : slElem P T = some (e, k)) (hv : isSl v m) (hx : ev E x = v)
    (hlo : bnd E 0 lo a) (hhi : bnd E m hi b) (h1 : a ≤ b) (h2 : b ≤ m) : PV P ⟨dd, .slice T x lo hi none, ty, pos, af, g⟩ E (slV k v a b) := fun w => by
  obtain ⟨hu, i, hi', hs⟩ := slElem_under hT
  rcases hv with ⟨rfl, rfl⟩ | ⟨bb, o, c, rfl, hc⟩ | ⟨rfl, ad, c, rfl⟩
  · have hb0 : b = 0 := by omega
    have ha0 : a = 0 := by omega
    subst hb0; subst ha0
    have hb1 : (0 : Int) ≤ ((0 : Nat) : Int) ∧ ((0 : Nat) : Int) ≤ ((0 : Nat) : Int) := by omega
    have key : (Instr.sliceBounds true 0 0 (lo.map (ev E)) (hi.map (ev E)) none).run P w = .ok (0, 0, 0) w := by
      unfold bnd at hlo hhi
      cases lo <;> cases hi <;> simp only [] at hlo hhi <;> simp only [Option.map, Instr.sliceBounds, Sem.run_bind, Sem.run_pure, Result.andThen_ok, *] <;>
        simp only [run_bound hb1, Result.andThen_ok, Int.toNat_natCast] <;> rfl
    have e1 : (Instr.sliceAt T (.slice none 0 0) (lo.map (ev E)) (hi.map (ev E)) none).run P w = .ok (slV k (.slice none 0 0) 0 0) w := by
      simp [Instr.sliceAt, Instr.slice, underlying, hu, key, sizeOf, typeInfo, hi', slV]
    simp only [execOp, hx, Option.map_none, Sem.run_bind, e1]
    rfl
  · have hb1 : (0 : Int) ≤ (b : Int) ∧ (b : Int) ≤ (c : Int) := by omega
    have hb2 : (0 : Int) ≤ (a : Int) ∧ (a : Int) ≤ (b : Int) := by omega
    have key : (Instr.sliceBounds true m c (lo.map (ev E)) (hi.map (ev E)) none).run P w = .ok (a, b, c) w := by
      unfold bnd at hlo hhi
      cases lo <;> cases hi <;> simp only [] at hlo hhi <;> subst_vars <;> simp only [Option.map, Instr.sliceBounds, Sem.run_bind, Sem.run_pure, Result.andThen_ok, *] <;>
        simp only [run_bound hb1, run_bound hb2, Result.andThen_ok, Int.toNat_natCast] <;> rfl
    have ha : ∀ q, (⟨bb, o, none⟩ : Addr).add q = ⟨bb, o + q, none⟩ := fun q => by
      unfold Addr.add
      split
      · rename_i e; simp [e]
      · rfl
    have e1 : (Instr.sliceAt T (.slice (some ⟨bb, o, none⟩) m c) (lo.map (ev E)) (hi.map (ev E)) none).run P w = .ok (slV k (.slice (some ⟨bb, o, none⟩) m c) a b) w := by
      simp [Instr.sliceAt, Instr.slice, underlying, hu, key, sizeOf, typeInfo, hi', hs, slV, ha]
      split <;> rfl
    simp only [execOp, hx, Option.map_none, Sem.run_bind, e1]
    rfl
  · have hb0 : b = 0 := by omega
    have ha0 : a = 0 := by omega
    subst hb0; subst ha0
    have hb1 : (0 : Int) ≤ ((0 : Nat) : Int) ∧ ((0 : Nat) : Int) ≤ (c : Int) := by omega
    have hb2 : (0 : Int) ≤ ((0 : Nat) : Int) ∧ ((0 : Nat) : Int) ≤ ((0 : Nat) : Int) := by omega
    have key : (Instr.sliceBounds true 0 c (lo.map (ev E)) (hi.map (ev E)) none).run P w = .ok (0, 0, c) w := by
      unfold bnd at hlo hhi
      cases lo <;> cases hi <;> simp only [] at hlo hhi <;> simp only [Option.map, Instr.sliceBounds, Sem.run_bind, Sem.run_pure, Result.andThen_ok, *] <;>
        simp only [run_bound hb1, run_bound hb2, Result.andThen_ok, Int.toNat_natCast] <;> rfl
    have e1 : (Instr.sliceAt T (.slice (some ad) 0 c) (lo.map (ev E)) (hi.map (ev E)) none).run P w = .ok (slV k (.slice (some ad) 0 c) 0 0) w := by
      simp [Instr.sliceAt, Instr.slice, underlying, hu, key, sizeOf, typeInfo, hi', hs, slV]
      split <;> rfl
    simp only [execOp, hx, Option.map_none, Sem.run_bind, e1]
    rfl

theorem Arr.slice {α : Type} {enc : α → List Value} {k lo hi : Nat} {l : List α} (h : Arr enc k w v l) (h1 : lo ≤ hi) (h2 : hi ≤ l.length) : Arr enc k w (slV k v lo hi) ((l.take hi).drop lo) := by
  have hadd : ∀ b o q, (⟨b, o, none⟩ : Addr).add q = ⟨b, o + q, none⟩ := fun b o q => by
    unfold Addr.add
    split
    · rename_i e; simp [e]
    · rfl
  rcases h.sl with ⟨rfl, hl⟩ | ⟨b, o, c, rfl, hc⟩ | ⟨hl, a, c, rfl⟩
  · have := List.eq_nil_of_length_eq_zero hl
    subst this
    simp [slV]; exact Arr.nil
  rotate_left
  · have := List.eq_nil_of_length_eq_zero hl
    subst this
    have h3 : hi = 0 := by simpa using h2
    have h4 : lo = 0 := by omega
    subst h3; subst h4
    exact ⟨.inr (.inr ⟨rfl, _, _, rfl⟩), fun i cs hi' => by simp at hi'⟩
  · refine ⟨.inr (.inl ⟨b, (if c = lo then o else o + lo * k), c - lo, ?_, ?_⟩), fun i cs hi' => ?_⟩
    · simp only [slV, List.length_map, List.length_drop, List.length_take, hadd]
      rw [show min hi l.length = hi by omega]
      congr 2
      split <;> rfl
    · simp; omega
    · rw [List.getElem?_map, List.getElem?_drop, List.getElem?_take] at hi'
      split at hi'
      · rename_i hlt
        have h3 := h.at' (lo + i) cs (by rw [List.getElem?_map]; exact hi')
        refine ⟨h3.1, ?_⟩
        have hne : ¬ c = lo := by omega
        have hb : base (slV k (.slice (some ⟨b, o, none⟩) l.length c) lo hi) = (b, o + lo * k) := by simp [slV, hne, base, hadd]
        rw [hb]
        have h4 := h3.2
        simp only [base] at h4 ⊢
        rw [show o + lo * k + i * k = o + (lo + i) * k by rw [Nat.add_mul]; omega]
        exact h4
      · cases hi'

/-! bytes and strings -/

@[reducible] def encB (c : UInt8) : List Value := [.int .u8 c.toNat]
@[reducible] def sEnc (s : Str) : List Value := [S s]
@[reducible] def encI (n : Int) : List Value := [I n]

def slU8 (P : Program) (T : TypeId) : Bool := match P.underlying T with
  | some (.slice e) => (match P.underlying e with | some (.int .u8) => true | _ => false)
  | _ => false

theorem run_forIn_push (f : Value → ByteArray → Sem (ForInStep ByteArray)) (hf : ∀ (c : UInt8) (s : ByteArray), (f (.int .u8 c.toNat) s).run P w = .ok (.yield (s.push c)) w) :
    ∀ (l : Str) (s : ByteArray), (forIn (l.map fun c => Value.int .u8 c.toNat) s f).run P w = .ok ⟨⟨s.data.toList ++ l⟩⟩ w := by
  intro l
  induction l with
  | nil => intro s; simp
  | cons c r ih =>
    intro s
    simp only [List.map_cons, List.forIn_cons, Sem.run_bind, hf, Result.andThen_ok]
    rw [ih]
    congr 1
    simp [ByteArray.push]

theorem lv_b2s {x : Operand} {T U : Nat} {dd : Option Tmp} {l : Str} (hT : slU8 P T = true) (hU : isStr P U = true) (ha : Arr encB 1 w v l) (hx : ev E x = v) : LV P ⟨dd, .convert T U x, ty, pos, af, g⟩ E w (S l) := by
  have hU' : P.underlying U = some .string := by
    unfold isStr at hU; split at hU <;> first | assumption | cases hU
  obtain ⟨e, hTe, hee⟩ : ∃ e, P.underlying T = some (.slice e) ∧ P.underlying e = some (.int .u8) := by
    unfold slU8 at hT
    split at hT
    · rename_i e he
      split at hT
      · rename_i h; exact ⟨e, he, h⟩
      · cases hT
    · cases hT
  have key : (Conv.bytesToString v).run P w = .ok (S l) w := by
    rcases ha.sl with ⟨rfl, hl⟩ | ⟨b, o, c, rfl, hc⟩ | ⟨hl, a, c, rfl⟩
    · have := List.eq_nil_of_length_eq_zero hl
      subst this
      simp [Conv.bytesToString]; rfl
    rotate_left
    · have := List.eq_nil_of_length_eq_zero hl
      subst this
      simp [Conv.bytesToString, loadCells, loadCellsFrom]; rfl
    · have hcells := run_loadCells (P := P) (w := w) (b := b) (o := o) (l.map fun c => Value.int .u8 c.toNat) 0 #[] (fun j u hj => by
        rw [List.getElem?_map] at hj
        cases hx : l[j]? with
        | none => rw [hx] at hj; cases hj
        | some y =>
          rw [hx] at hj
          have := ha.row hx 0 _ rfl
          simp only [base, Nat.mul_one, Nat.add_zero] at this ⊢
          simp only [Option.map_some, Option.some.injEq] at hj
          rw [this, hj])
      rw [List.length_map] at hcells
      unfold Conv.bytesToString
      simp only [loadCells, Sem.run_bind, hcells, Result.andThen_ok]
      rw [← Array.forIn_toList]
      simp only [Array.toList_append, List.nil_append]
      have e0 : (#[] : Array Value).toList ++ (List.map (fun c : UInt8 => Value.int .u8 c.toNat) l).toArray.toList = l.map fun c => Value.int .u8 c.toNat := by simp
      rw [run_forIn_push _ (fun c s => by simp)]
      rfl
  unfold LV
  have hc : (convert T U v).run P w = .ok (S l) w := by
    rcases ha.sl with ⟨rfl, _⟩ | ⟨b, o, c, rfl, _⟩ | ⟨_, a, c, rfl⟩ <;> simp [convert, underlying, hTe, hU', hee, key]
  simp only [execOp, hx, Sem.run_bind, hc, Result.andThen_ok, Sem.run_pure]

/-! structs compared -/

def plainK (P : Program) (T : TypeId) : Bool := match P.underlying T with | some .string | some .bool | some (.int _) => true | _ => false

/-- A struct of plain fields, one cell each. -/
def flatT (P : Program) (T : TypeId) : Option (List TypeId) := match P.underlying T with
  | some (.struct fs) => if P.stoodInHeld T || P.eqGuardType P.depth T then none else
      if (fs.toList.zipIdx.all fun (f, i) => f.name != "_" && f.offset == i && plainK P f.type) then some (fs.toList.map (·.type)) else none
  | _ => none

def eqL : List Value → List Value → Bool
  | .string a :: r, .string b :: s => a.toList == b.toList && eqL r s
  | .bool a :: r, .bool b :: s => a == b && eqL r s
  | .int _ a :: r, .int _ b :: s => a == b && eqL r s
  | _, _ => true

/-- The cells are of the types' kinds. -/
def likeT (P : Program) : List TypeId → List Value → Prop
  | [], [] => True
  | t :: r, .string _ :: s => P.underlying t = some .string ∧ likeT P r s
  | t :: r, .bool _ :: s => P.underlying t = some .bool ∧ likeT P r s
  | t :: r, .int k _ :: s => P.underlying t = some (.int k) ∧ likeT P r s
  | _, _ => False

theorem run_eqFlat (d : Nat) (cs ds : List Value) : ∀ (fs : List Field) (k : Nat), (∀ j f, fs[j]? = some f → (f.name ≠ "_" ∧ f.offset = k + j)) → likeT P (fs.map (·.type)) (cs.drop k) → likeT P (fs.map (·.type)) (ds.drop k) →
    (Op.eqFields (d + 1) ⟨cs⟩ ⟨ds⟩ fs).run P w = .ok (eqL (cs.drop k) (ds.drop k)) w := by
  intro fs
  induction fs with
  | nil =>
    intro k _ h1 h2
    cases hc : cs.drop k with
    | nil => cases hd : ds.drop k with
      | nil => simp [Op.eqFields, eqL]
      | cons y s => rw [hd] at h2; cases y <;> exact h2.elim
    | cons x r => rw [hc] at h1; cases x <;> exact h1.elim
  | cons f fs ih =>
    intro k hf h1 h2
    obtain ⟨hn, ho⟩ := hf 0 f rfl
    rw [Nat.add_zero] at ho
    have hf' : ∀ j f, fs[j]? = some f → (f.name ≠ "_" ∧ f.offset = k + 1 + j) := fun j f hj => by
      have := hf (j + 1) f (by simpa using hj)
      exact ⟨this.1, by omega⟩
    cases hc : cs.drop k with
    | nil => rw [hc] at h1; exact h1.elim
    | cons x rx =>
      cases hd : ds.drop k with
      | nil => rw [hd] at h2; exact h2.elim
      | cons y ry =>
        rw [hc] at h1; rw [hd] at h2
        have hcx : cs[k]? = some x := by
          have := congrArg (fun l => l[0]?) hc
          simpa using this
        have hdy : ds[k]? = some y := by
          have := congrArg (fun l => l[0]?) hd
          simpa using this
        have hc1 : cs.drop (k + 1) = rx := by rw [← List.drop_drop, hc]; rfl
        have hd1 : ds.drop (k + 1) = ry := by rw [← List.drop_drop, hd]; rfl
        have part_of : ∀ (l : List Value) (z : Value), l[k]? = some z → isOne P f.type = true → (part f.type ⟨l⟩ f.offset).run P w = .ok z w := fun l z hz h1 => by
          simp [part, isOne_agg h1, ho, hz]
        unfold Op.eqFields
        rw [if_pos hn]
        cases x <;> first | exact h1.elim | skip
        all_goals
          cases y <;> first | exact h2.elim | (exfalso; obtain ⟨hk, _⟩ := h1; obtain ⟨hk2, _⟩ := h2; rw [hk] at hk2; cases hk2; done) | skip
        all_goals
          obtain ⟨hk, h1'⟩ := h1
          obtain ⟨hk2, h2'⟩ := h2
          have h1o : isOne P f.type = true := by unfold isOne; rw [hk]
          have ih' := ih (k + 1) hf' (by rw [hc1]; exact h1') (by rw [hd1]; exact h2')
          rw [hc1, hd1] at ih'
          simp only [Sem.run_bind, part_of cs _ hcx h1o, part_of ds _ hdy h1o, Result.andThen_ok]
        · rw [run_equalIn_bool _ _ _ _ _ hk]
          simp only [Result.andThen_ok, eqL]
          rename_i a b
          by_cases e : a = b
          · subst e; simp [ih']
          · simp [e]
        · rename_i k1 a k2 b
          rw [hk] at hk2
          have : k1 = k2 := by simpa using hk2
          subst this
          rw [run_equalIn_int _ _ _ _ _ _ _ hk]
          simp only [Result.andThen_ok, eqL]
          by_cases e : a = b
          · subst e; simp [ih']
          · simp [e]
        · rw [run_equalIn_string _ _ _ _ _ hk]
          simp only [Result.andThen_ok, eqL]
          rename_i a b
          by_cases e : a.toList = b.toList
          · simp [e, ih']
          · simp [e]

theorem flatT_spec {T : TypeId} {ts : List TypeId} (h : flatT P T = some ts) : ∃ fs : Array Field, P.underlying T = some (.struct fs) ∧ P.fieldsOf T = fs ∧ P.stoodInHeld T = false ∧ P.eqGuardType P.depth T = false ∧
    (∀ (j : Nat) (f : Field), fs.toList[j]? = some f → f.name ≠ "_" ∧ f.offset = j) ∧ fs.toList.map (·.type) = ts := by
  unfold flatT at h
  split at h
  · rename_i fs hu
    split at h
    · cases h
    · rename_i hn
      simp only [Bool.or_eq_true, not_or, Bool.not_eq_true] at hn
      split at h
      · rename_i ha
        refine ⟨fs, hu, by simp [Program.fieldsOf, hu], hn.1, hn.2, fun j f hj => ?_, by simpa using h⟩
        have := List.all_eq_true.1 ha (f, j) (by
          rw [List.mem_iff_getElem?]
          exact ⟨j, by simp [List.getElem?_zipIdx, hj]⟩)
        simp only [Bool.and_eq_true, bne_iff_ne, beq_iff_eq] at this
        exact ⟨this.1.1, this.1.2⟩
      · cases h
  · cases h

theorem run_eqA {T : TypeId} {ts : List TypeId} {cs ds : List Value} (h : flatT P T = some ts) (hc : likeT P ts cs) (hd : likeT P ts ds) : (Op.equalIn 10000 T (.agg ⟨cs⟩) (.agg ⟨ds⟩)).run P w = .ok (eqL cs ds) w := by
  obtain ⟨fs, hu, hfo, hp, _, hj, hts⟩ := flatT_spec h
  rw [run_equalIn_struct _ 9999 T ⟨cs⟩ ⟨ds⟩ (by rw [hfo]; exact hu) hp, hfo]
  have := run_eqFlat (P := P) (w := w) 9998 cs ds fs.toList 0 (fun j f h => by have := hj j f h; exact ⟨this.1, by omega⟩) (by rw [hts]; simpa using hc) (by rw [hts]; simpa using hd)
  simpa using this

theorem pv_eqA {x y : Operand} {T U : TypeId} {ts : List TypeId} {cs dss : List Value} {dd : Option Tmp} (h : flatT P T = some ts) (hx : ev E x = .agg ⟨cs⟩) (hy : ev E y = .agg ⟨dss⟩) (hc : likeT P ts cs) (hd : likeT P ts dss) : PV P ⟨dd, .binOp .eql T x y U, ty, pos, af, g⟩ E (.bool (eqL cs dss)) := fun w => by
  obtain ⟨_, _, _, _, hgd, _⟩ := flatT_spec h
  refine run_bin _ _ _ _ _ _ _ (fun w => by rw [hx, hy]; exact run_eqGuard_agg _ _ _ _ _ _ _ hgd) ?_
  rw [hx, hy, run_eql_struct, run_eqA h hc hd]; rfl
theorem pv_neA {x y : Operand} {T U : TypeId} {ts : List TypeId} {cs dss : List Value} {dd : Option Tmp} (h : flatT P T = some ts) (hx : ev E x = .agg ⟨cs⟩) (hy : ev E y = .agg ⟨dss⟩) (hc : likeT P ts cs) (hd : likeT P ts dss) : PV P ⟨dd, .binOp .neq T x y U, ty, pos, af, g⟩ E (.bool (!eqL cs dss)) := fun w => by
  obtain ⟨_, _, _, _, hgd, _⟩ := flatT_spec h
  refine run_bin _ _ _ _ _ _ _ (fun w => by rw [hx, hy]; exact run_eqGuard_agg _ _ _ _ _ _ _ hgd) ?_
  rw [hx, hy, run_neq_struct, run_eqA h hc hd]; rfl

/-! arithmetic of other widths -/

theorem pv_rem {x y : Operand} {T U : TypeId} {k : IntKind} {a b : Int} {dd : Option Tmp} (hx : ev E x = .int k a) (hy : ev E y = .int k b) (ha : 0 ≤ a) (hb : 0 < b) : PV P ⟨dd, .binOp .rem T x y U, ty, pos, af, g⟩ E (.int k (a % b)) := fun w => by
  have h0 : ¬ b = 0 := by omega
  simp [execOp, hx, hy, eqGuard, binOp, Op.intDiv, h0, Int.tmod_eq_emod_of_nonneg ha]
theorem pv_quo {x y : Operand} {T U : TypeId} {k : IntKind} {a b : Int} {dd : Option Tmp} (hx : ev E x = .int k a) (hy : ev E y = .int k b) (ha : 0 ≤ a) (hb : 0 < b) : PV P ⟨dd, .binOp .quo T x y U, ty, pos, af, g⟩ E (.int k (k.wrap (a / b))) := fun w => by
  have h0 : ¬ b = 0 := by omega
  simp [execOp, hx, hy, eqGuard, binOp, Op.intDiv, h0, Int.tdiv_eq_ediv_of_nonneg ha]

def bitsI (op : BinOp) (k : IntKind) (a b : Int) : Int := match op with
  | .and => k.wrap (BitVec.ofInt k.bits a &&& BitVec.ofInt k.bits b).toNat
  | .or => k.wrap (BitVec.ofInt k.bits a ||| BitVec.ofInt k.bits b).toNat
  | .xor => k.wrap (BitVec.ofInt k.bits a ^^^ BitVec.ofInt k.bits b).toNat
  | .andNot => k.wrap (BitVec.ofInt k.bits a &&& ~~~ BitVec.ofInt k.bits b).toNat
  | _ => 0

theorem pv_bits {x y : Operand} {T U : TypeId} {op : BinOp} {k : IntKind} {a b : Int} {dd : Option Tmp} (hop : op = .and ∨ op = .or ∨ op = .xor ∨ op = .andNot) (hx : ev E x = .int k a) (hy : ev E y = .int k b) :
    PV P ⟨dd, .binOp op T x y U, ty, pos, af, g⟩ E (.int k (bitsI op k a b)) := fun w => by
  rcases hop with rfl | rfl | rfl | rfl <;> simp [execOp, hx, hy, eqGuard, binOp, Op.intBits, bitsI]

theorem pv_shr {x y : Operand} {T U : TypeId} {k ky : IntKind} {a b : Int} {dd : Option Tmp} (hx : ev E x = .int k a) (hy : ev E y = .int ky b) (hb : 0 ≤ b) : PV P ⟨dd, .binOp .shr T x y U, ty, pos, af, g⟩ E (.int k (a.fdiv (2 ^ (min b.toNat k.bits)))) := fun w => by
  have h0 : ¬ b < 0 := by omega
  simp [execOp, hx, hy, eqGuard, binOp, Op.shift, h0]
theorem pv_shl {x y : Operand} {T U : TypeId} {k ky : IntKind} {a b : Int} {dd : Option Tmp} (hx : ev E x = .int k a) (hy : ev E y = .int ky b) (hb : 0 ≤ b) : PV P ⟨dd, .binOp .shl T x y U, ty, pos, af, g⟩ E (.int k (k.wrap (a * 2 ^ (min b.toNat k.bits)))) := fun w => by
  have h0 : ¬ b < 0 := by omega
  simp [execOp, hx, hy, eqGuard, binOp, Op.shift, h0]

/-- 'max' and 'min' of two. -/
theorem pv_max2 {x y : Operand} {ts : Array TypeId} {a b : Int} {dd : Option Tmp} (hx : ev E x = I a) (hy : ev E y = I b) : PV P ⟨dd, .call { callee := .builtin .max, args := #[x, y], argTypes := ts }, ty, pos, af, g⟩ E (I (max a b)) := fun w => by
  have e : (if b > a then b else a) = max a b := by split <;> omega
  simp [execOp, resolve, invoke, builtin, Builtin.max_, Builtin.max2, hx, hy, List.foldlM, e]
theorem pv_min2 {x y : Operand} {ts : Array TypeId} {a b : Int} {dd : Option Tmp} (hx : ev E x = I a) (hy : ev E y = I b) : PV P ⟨dd, .call { callee := .builtin .min, args := #[x, y], argTypes := ts }, ty, pos, af, g⟩ E (I (min a b)) := fun w => by
  have e : (if b < a then b else a) = min a b := by split <;> omega
  simp [execOp, resolve, invoke, builtin, Builtin.min_, Builtin.min2, hx, hy, List.foldlM, e]

/-! a slice against nil -/

def isNilV : Value → Bool
  | .slice none _ _ => true
  | _ => false

theorem isNilV_spec {v : Value} {m : Nat} (hv : isSl v m) (h : isNilV v = true) : v = .slice none 0 0 ∧ m = 0 := by
  rcases hv with ⟨rfl, rfl⟩ | ⟨b, o, c, rfl, _⟩ | ⟨rfl, a, c, rfl⟩
  · exact ⟨rfl, rfl⟩
  · cases h
  · cases h

theorem pv_eqNv {x y : Operand} {T U e k m : Nat} {dd : Option Tmp} (hT : slElem P T = some (e, k)) (hv : isSl v m) (hx : ev E x = v) (hy : ev E y = .slice none 0 0) : PV P ⟨dd, .binOp .eql T x y U, ty, pos, af, g⟩ E (.bool (isNilV v)) := by
  rcases hv with ⟨rfl, rfl⟩ | ⟨b, o, c, rfl, _⟩ | ⟨rfl, a, c, rfl⟩
  · exact pv_eqN hT hx hy
  · have := pv_eqN (P := P) (d := dd) (ty := ty) (pos := pos) (af := af) (g := g) (U := U) hT hx hy
    simpa [isNilV] using this
  · have := pv_eqN (P := P) (d := dd) (ty := ty) (pos := pos) (af := af) (g := g) (U := U) hT hx hy
    simpa [isNilV] using this
theorem pv_neNv {x y : Operand} {T U e k m : Nat} {dd : Option Tmp} (hT : slElem P T = some (e, k)) (hv : isSl v m) (hx : ev E x = v) (hy : ev E y = .slice none 0 0) : PV P ⟨dd, .binOp .neq T x y U, ty, pos, af, g⟩ E (.bool (!isNilV v)) := by
  rcases hv with ⟨rfl, rfl⟩ | ⟨b, o, c, rfl, _⟩ | ⟨rfl, a, c, rfl⟩
  all_goals
    have := pv_neN (P := P) (d := dd) (ty := ty) (pos := pos) (af := af) (g := g) (U := U) hT hx hy
    simpa [isNilV] using this

/-- Returns something of which this is known; memory as it was, and more. -/
def Gives (w : World) (F : Value → World → Prop) : Ending → World → Prop := fun e w' => ∃ v, e = .returned v ∧ Ext w w' ∧ F v w'

theorem D_callG {f : Nat} {as : List Operand} {ats : Array TypeId} {vs : List Value} {F : Value → World → Prop} (hg : guardB ds E g = true) (hf : callB P f = true) (hc : Calls P f vs.toArray w (Gives w F)) (ha : as.map (ev E) = vs) (hR : RX R anc)
    (h : ∀ v w1, Ext w w1 → F v w1 → Dw P n ds R r K (upd E d v) w1) :
    Dw P n ds R ((⟨some d, .call { callee := .value (.func f), args := as.toArray, argTypes := ats }, ty, pos, af, g⟩, .x, anc) :: r) K E w :=
  D_call hg hf ha hc fun e w1 ⟨v, he, hx, hF⟩ => ⟨v, he, hR.use hx, h v w1 hx hF⟩

end
end Go.Vc
