/-
  Maps in the walk: a block that holds a map as a function from keys to values; made, written, looked into, ranged over. Nothing is assumed.
-/
import Derived.Test.YteninjhmmjkckaaGreatDoorVcF
import Derived.Maps.OwnSet
import Derived.Maps.RangeWalk
import Derived.Maps.Views
import Derived.Lib.ConvBytes
import Derived.DeepKeys4
namespace Go.Vc
open Go.RowKit Go.Maps
set_option linter.unusedSimpArgs false
set_option linter.unusedVariables false

open Classical in
/-- How a value reads: as the thing that it is the value of. -/
noncomputable def rdBy {α : Type} (av : α → Value) (v : Value) : Option (DataW α × List MemPlace) :=
  if h : ∃ a, v = av a then some (.held h.choose, []) else none

theorem rdBy_mk {α : Type} {av : α → Value} (inj : ∀ a b, av a = av b → a = b) (a : α) : rdBy av (av a) = some (.held a, []) := by
  have h : ∃ b, av a = av b := ⟨a, rfl⟩
  unfold rdBy
  rw [dif_pos h, ← inj _ _ h.choose_spec]
theorem rdBy_inv {α : Type} {av : α → Value} {v : Value} {y : DataW α × List MemPlace} (h : rdBy av v = some y) : ∃ a, v = av a ∧ y = (.held a, []) := by
  unfold rdBy at h
  split at h
  · rename_i h1
    cases h
    exact ⟨_, h1.choose_spec, rfl⟩
  · cases h

/-- A map's type: its keys, its values. -/
structure MapK (P : Program) {κ α : Type} (t k e : TypeId) (kv : κ → Value) (av : α → Value) (ok : κ → Prop) : Prop where
  und : P.underlying t = some (.map k e)
  keyed : Keyed P k
  key : ∀ x, ok x → ∃ l, keyOf P k (kv x) = some l
  inv : ∀ v l, keyOf P k v = some l → ∃ x, v = kv x ∧ ok x
  kinj : ∀ x y, kv x = kv y → x = y
  ainj : ∀ a b, av a = av b → a = b

open Classical in
noncomputable def putF {κ α : Type} (f : κ → Option α) (x : κ) (a : α) : κ → Option α := fun y => if y = x then some a else f y
theorem putF_same {κ α : Type} (f : κ → Option α) (x : κ) (a : α) : putF f x a x = some a := by simp [putF]
theorem putF_ne {κ α : Type} (f : κ → Option α) (x : κ) (a : α) {y : κ} (h : y ≠ x) : putF f x a y = f y := by simp [putF, h]

def heldO {α : Type} (o : Option α) (z : DataW α) : DataW α := match o with
  | some a => .held a
  | none => z

/-- Block b is a map of at most n entries that has f's values at f's keys. -/
def MapAt {κ α : Type} (P : Program) (k : TypeId) (kv : κ → Value) (av : α → Value) (w : World) (b n : Nat) (f : κ → Option α) : Prop :=
  ∃ D : DataW α, w.ownsMap P k (rdBy av) b n D ∧ ∀ x l, keyOf P k (kv x) = some l → ∀ z, D.atKey l z = heldO (f x) z

/-- A range over it is under way: which keys are still to come, how many. -/
def RangeAt {κ α : Type} (P : Program) (k : TypeId) (kv : κ → Value) (av : α → Value) (w : World) (b r n : Nat) (f : κ → Option α) (left : κ → Prop) (cnt : Nat) : Prop :=
  ∃ (D : DataW α) (lf : Lit → Bool), w.ranges P k (rdBy av) b r n D lf cnt ∧ (∀ x l, keyOf P k (kv x) = some l → ∀ z, D.atKey l z = heldO (f x) z) ∧ ∀ x l, keyOf P k (kv x) = some l → (lf l = true ↔ left x)

theorem Mod.grown {S : Nat → Prop} {w w' : World} (h : Mod S w w') (row : Option Nat) (hS : ∀ k, S k → k < w.heap.size → row = some k) : w.grownBy w' row :=
  ⟨h.os, h.tape, h.output, h.size, fun i hi hne => h.block i hi (fun s => hne (hS i s hi).symm)⟩

section
variable {P : Program} {κ α : Type} {t k e : TypeId} {kv : κ → Value} {av : α → Value} {ok : κ → Prop} {w w' : World} {b n r cnt : Nat} {f : κ → Option α} {left : κ → Prop}

theorem World.ownsMap.mod {H : Type} {S : Nat → Prop} {R : Value → Option (DataW H × List MemPlace)} {D : DataW H} (h : w.ownsMap P k R b n D) (m : Mod S w w') (hb : ¬ S b) : w'.ownsMap P k R b n D := by
  have hlt := h.lt
  obtain ⟨es, clock, h1, F, hs, hD⟩ := h
  exact ⟨es, clock, (m.block b hlt hb).trans h1, F, hs, hD⟩

theorem MapAt.mod {S : Nat → Prop} (h : MapAt P k kv av w b n f) (m : Mod S w w') (hb : ¬ S b) : MapAt P k kv av w' b n f := by
  obtain ⟨D, h1, h2⟩ := h
  exact ⟨D, World.ownsMap.mod h1 m hb, h2⟩
theorem MapAt.ext (h : MapAt P k kv av w b n f) (m : Ext w w') : MapAt P k kv av w' b n f := h.mod m (fun h => h)
theorem MapAt.lt (h : MapAt P k kv av w b n f) : b < w.heap.size := by
  obtain ⟨D, h1, _⟩ := h
  exact h1.lt
theorem MapAt.mono (h : MapAt P k kv av w b n f) {m : Nat} (hm : n ≤ m) : MapAt P k kv av w b m f := by
  obtain ⟨D, h1, h2⟩ := h
  exact ⟨D, h1.mono hm, h2⟩
theorem MapAt.heap (h : MapAt P k kv av w b n f) : ∃ es c, w.heap[b]? = some (.map es c) := by
  obtain ⟨D, ⟨es, c, h1, _⟩, _⟩ := h
  exact ⟨es, c, h1⟩
/-- A map's block is no block of cells. -/
theorem MapAt.ne_blk (h : MapAt P k kv av w b n f) {b' : Nat} {cs : List Value} {T : TypeId} (hb : Blk w b' cs T) : b' ≠ b := by
  rintro rfl
  obtain ⟨es, c, h1⟩ := h.heap
  unfold Blk at hb
  rw [hb] at h1
  cases h1
theorem MapAt.ne_own (h : MapAt P k kv av w b n f) {β : Type} {enc : β → List Value} {sz T B : Nat} {v : Value} {l : List β} (ho : Own enc sz T B w v l) : v.ownBlock ≠ some b := fun e => by
  obtain ⟨cs, h1⟩ := ho.heap e
  obtain ⟨es, c, h2⟩ := h.heap
  rw [h1] at h2
  cases h2

theorem RangeAt.congr {left' : κ → Prop} (h : RangeAt P k kv av w b r n f left cnt) (hl : ∀ x, left x ↔ left' x) : RangeAt P k kv av w b r n f left' cnt := by
  obtain ⟨D, lf, h0, h2, h3⟩ := h
  exact ⟨D, lf, h0, h2, fun x l hx => (h3 x l hx).trans (hl x)⟩
theorem RangeAt.mod {S : Nat → Prop} (h : RangeAt P k kv av w b r n f left cnt) (m : Mod S w w') (hb : ¬ S b) (hr : ¬ S r) : RangeAt P k kv av w' b r n f left cnt := by
  obtain ⟨D, lf, h0, h2, h3⟩ := h
  have hlt := h0.owns.lt
  have hlr := h0.lt
  obtain ⟨es, clock, since, seen, c0, h1, F, hs, hD, hr', rest⟩ := h0
  exact ⟨D, lf, ⟨es, clock, since, seen, c0, (m.block b hlt hb).trans h1, F, hs, hD, (m.block r hlr hr).trans hr', rest⟩, h2, h3⟩
theorem RangeAt.ext (h : RangeAt P k kv av w b r n f left cnt) (m : Ext w w') : RangeAt P k kv av w' b r n f left cnt := h.mod m (fun h => h) (fun h => h)
theorem RangeAt.map (h : RangeAt P k kv av w b r n f left cnt) : MapAt P k kv av w b n f := by
  obtain ⟨D, lf, h0, h2, h3⟩ := h
  exact ⟨D, h0.owns, h2⟩
theorem RangeAt.lt (h : RangeAt P k kv av w b r n f left cnt) : r < w.heap.size := by
  obtain ⟨D, lf, h0, h2, h3⟩ := h
  exact h0.lt
theorem RangeAt.heap (h : RangeAt P k kv av w b r n f left cnt) : ∃ m s c c0, w.heap[r]? = some (.mapIter m s c c0) := by
  obtain ⟨D, lf, ⟨es, clock, since, seen, c0, h1, F, hs, hD, hr', rest⟩, _⟩ := h
  exact ⟨_, _, _, _, hr'⟩
theorem RangeAt.ne_blk (h : RangeAt P k kv av w b r n f left cnt) {b' : Nat} {cs : List Value} {T : TypeId} (hb : Blk w b' cs T) : b' ≠ r := by
  rintro rfl
  obtain ⟨m, s, c, c0, h1⟩ := h.heap
  unfold Blk at hb
  rw [hb] at h1
  cases h1
theorem RangeAt.ne_own (h : RangeAt P k kv av w b r n f left cnt) {β : Type} {enc : β → List Value} {sz T B : Nat} {v : Value} {l : List β} (ho : Own enc sz T B w v l) : v.ownBlock ≠ some r := fun e => by
  obtain ⟨cs, h1⟩ := ho.heap e
  obtain ⟨m, s, c, c0, h2⟩ := h.heap
  rw [h1] at h2
  cases h2
theorem RangeAt.ne_map (h : RangeAt P k kv av w b r n f left cnt) {κ' α' : Type} {k' : TypeId} {kv' : κ' → Value} {av' : α' → Value} {b' n' : Nat} {f' : κ' → Option α'} (hm : MapAt P k' kv' av' w b' n' f') : b' ≠ r := by
  rintro rfl
  obtain ⟨m, s, c, c0, h1⟩ := h.heap
  obtain ⟨es, cl, h2⟩ := hm.heap
  rw [h1] at h2
  cases h2

/-! what the operations do -/

theorem MapAt.made (M : MapK P t k e kv av ok) : MapAt P k kv av (w.alloc (.map #[] 0)) w.heap.size 0 (fun _ => none) :=
  ⟨.map [], World.ownsMap_made w P k _, fun x l hl z => rfl⟩

theorem heldO_none {o : Option α} {z : DataW α} (h : o = none) : heldO o z = z := by rw [h]; rfl

theorem lit_ne (M : MapK P t k e kv av ok) {x y : κ} {lx ly : Lit} (hx : keyOf P k (kv x) = some lx) (hy : keyOf P k (kv y) = some ly) (h : y ≠ x) : ly ≠ lx := fun e => by
  subst e
  exact h (M.kinj _ _ (M.keyed.inj hy hx))

theorem MapAt.update (M : MapK P t k e kv av ok) (h : MapAt P k kv av w b n f) (hn : n < maxLen) {x : κ} (hx : ok x) (a : α) :
    ∃ w', (Instr.mapUpdate t (.map (some b)) (kv x) (av a)).run P w = .ok () w' ∧ MapAt P k kv av w' b (n + 1) (putF f x a) ∧ Mod (oneB b) w w' ∧ w'.heap.size = w.heap.size := by
  obtain ⟨D, h1, h2⟩ := h
  obtain ⟨l, hl⟩ := M.key x hx
  obtain ⟨w', hr, ho, ht⟩ := h1.store M.keyed M.und hn hl (rdBy_mk M.ainj a)
  refine ⟨w', hr, ⟨_, ho, fun y ly hy z => ?_⟩, ?_, ?_⟩
  · by_cases e : y = x
    · subst e
      rw [hl] at hy
      cases hy
      rw [putF_same, Maps.atKey_put_same h1.isMap (M.keyed.key hl)]
      rfl
    · rw [putF_ne _ _ _ e, Maps.atKey_put_other (lit_ne M hl hy e), h2 y ly hy]
  · have hg := ht.grown
    exact (Mod.of_grown hg).mono (fun i hi _ => (Option.some.inj hi).symm)
  · obtain ⟨es, c, es', c', _, e⟩ := ht
    rw [e]; simp [ChangeMaps.setBlock]

theorem MapAt.look (M : MapK P t k e kv av ok) (h : MapAt P k kv av w b n f) {z0 : α} (hz : (zeroValue e).run P w = .ok (av z0) w) {x : κ} (hx : ok x) :
    (Instr.lookup t (.map (some b)) (kv x) false).run P w = .ok (av ((f x).getD z0)) w := by
  obtain ⟨D, h1, h2⟩ := h
  obtain ⟨l, hl⟩ := M.key x hx
  obtain ⟨v, ps, hr, hv⟩ := h1.lookup M.keyed M.und hz (rdBy_mk M.ainj z0) hl
  rw [h2 x l hl] at hv
  obtain ⟨a, rfl, e⟩ := rdBy_inv hv
  rw [hr]
  cases hf : f x with
  | none => rw [hf] at e; simp only [heldO, Prod.mk.injEq, DataW.held.injEq] at e; rw [e.1]; rfl
  | some c => rw [hf] at e; simp only [heldO, Prod.mk.injEq, DataW.held.injEq] at e; rw [e.1]; rfl

theorem MapAt.lookOk (M : MapK P t k e kv av ok) (h : MapAt P k kv av w b n f) {z0 : α} (hz : (zeroValue e).run P w = .ok (av z0) w) {x : κ} (hx : ok x) :
    (Instr.lookup t (.map (some b)) (kv x) true).run P w = .ok (.tuple #[av ((f x).getD z0), .bool (f x).isSome]) w := by
  obtain ⟨D, h1, h2⟩ := h
  obtain ⟨l, hl⟩ := M.key x hx
  obtain ⟨v, ps, hr, hv⟩ := h1.look_ok M.keyed M.und hz (rdBy_mk M.ainj z0) hl
  rw [h2 x l hl] at hv
  obtain ⟨a, rfl, e⟩ := rdBy_inv hv
  rw [hr]
  cases hf : f x with
  | none =>
    have hh : Maps.has D l = false := Maps.has_false_of_atKey (fun z => by rw [h2 x l hl, hf]; rfl)
    rw [hf] at e; simp only [heldO, Prod.mk.injEq, DataW.held.injEq] at e; rw [e.1, hh]; rfl
  | some c =>
    have hh : Maps.has D l = true := Maps.has_true_of_atKey (y := .held c) (fun z => by rw [h2 x l hl, hf]; rfl)
    rw [hf] at e; simp only [heldO, Prod.mk.injEq, DataW.held.injEq] at e; rw [e.1, hh]; rfl

theorem MapAt.range (M : MapK P t k e kv av ok) (h : MapAt P k kv av w b n f) :
    ∃ w' cnt, (Instr.range t (.map (some b))).run P w = .ok (ptr w.heap.size 0) w' ∧ RangeAt P k kv av w' b w.heap.size n f (fun x => (f x).isSome = true) cnt ∧ cnt ≤ n ∧ Ext w w' ∧ w'.heap.size = w.heap.size + 1 := by
  obtain ⟨D, h1, h2⟩ := h
  obtain ⟨w', hr, hrg, hg, hs⟩ := h1.range M.keyed M.und
  refine ⟨w', _, hr, ⟨D, _, hrg, h2, fun x l hl => ?_⟩, h1.size_le, Ext.of_grown hg, hs⟩
  cases hf : f x with
  | none =>
    have hh : Maps.has D l = false := Maps.has_false_of_atKey (fun z => by rw [h2 x l hl, hf]; rfl)
    rw [hh]; simp [hf]
  | some c =>
    have hh : Maps.has D l = true := Maps.has_true_of_atKey (y := .held c) (fun z => by rw [h2 x l hl, hf]; rfl)
    rw [hh]; simp [hf]

theorem RangeAt.next (M : MapK P t k e kv av ok) (h : RangeAt P k kv av w b r n f left cnt) (ty : TypeId) :
    ((∀ x, ok x → ¬ left x) ∧ (Instr.next (ptr r 0) false ty).run P w = .ok (.tuple #[.bool false]) w) ∨
    ∃ x a w' cnt', ok x ∧ left x ∧ f x = some a ∧ (Instr.next (ptr r 0) false ty).run P w = .ok (.tuple #[.bool true, kv x, av a]) w' ∧
      RangeAt P k kv av w' b r n f (fun y => left y ∧ y ≠ x) cnt' ∧ cnt' < cnt ∧ Mod (oneB r) w w' ∧ w'.heap.size = w.heap.size ∧ (Instr.entry (ptr r 0)).run P w' = .ok (.tuple #[kv x, av a]) w' := by
  obtain ⟨D, lf, h1, h2, h3⟩ := h
  rcases h1.next M.keyed ty with ⟨_, hl, hr⟩ | ⟨key, v, kl, y, w', cnt', hk, hlk, hv, hat, hr, hrg, hlt, hg, hs, hen⟩
  · refine .inl ⟨fun x hx hlx => ?_, hr⟩
    obtain ⟨l, hl'⟩ := M.key x hx
    have := (h3 x l hl').2 hlx
    rw [hl l] at this
    cases this
  · obtain ⟨x, rfl, hx⟩ := M.inv key kl hk
    obtain ⟨a, rfl, e⟩ := rdBy_inv hv
    refine .inr ⟨x, a, w', cnt', hx, (h3 x kl hk).1 hlk, ?_, hr, ⟨D, _, hrg, h2, fun y' ly hy => ?_⟩, hlt, (Mod.of_grown hg).mono (fun i hi _ => (Option.some.inj hi).symm), hs, hen⟩
    · have h4 := hat .nil
      rw [h2 x kl hk, e] at h4
      cases hf : f x with
      | none => rw [hf] at h4; simp [heldO] at h4
      | some c => rw [hf] at h4; simp only [heldO, DataW.held.injEq] at h4; rw [h4]
    · rw [Bool.and_eq_true, h3 y' ly hy, Bool.not_eq_true']
      refine and_congr_right fun _ => ?_
      by_cases e' : y' = x
      · subst e'
        rw [hk] at hy
        cases hy
        rw [WideAt.sameKey_self (M.keyed.key hk)]
        simp
      · have := lit_ne M hk hy e'
        have h5 : ly.sameKey kl = false := by
          cases hh : ly.sameKey kl
          · rfl
          · exact absurd (WideAt.sameKey_eq hh) this
        simp [h5, e']

end

/-! steps -/

section
variable {P : Program} {N : Nat} {ds : List (Option Tmp)} {R : World → World → Prop} {rs : List (Oper × Fl × Bool)} {K : Env → World → Prop} {E : Env} {w : World}
variable {d : Nat} {op : Op} {ty : TypeId} {pos : String} {af : Array Edge} {g : Option (Nat × Bool)} {anc : Bool} {v : Value}
variable {κ α : Type} {t k e : TypeId} {kv : κ → Value} {av : α → Value} {ok : κ → Prop} {b n r cnt : Nat} {f : κ → Option α} {left : κ → Prop}

theorem D_makeMap (M : MapK P t k e kv av ok) (hg : guardB ds E g = true) (hR : RX R anc)
    (h : ∀ b w1, b = w.heap.size → Ext w w1 → MapAt P k kv av w1 b 0 (fun _ => none) → Dw P N ds R rs K (upd E d (.map (some b))) w1) : Dw P N ds R ((⟨some d, .makeMap t none, ty, pos, af, g⟩, .x, anc) :: rs) K E w := by
  refine D_xv (v := .map (some w.heap.size)) (w' := w.alloc (.map #[] 0)) hg ?_ (hR.use (Ext.alloc _ _)) (h _ _ rfl (Ext.alloc _ _) (MapAt.made M))
  have e1 : (Instr.makeMap t none).run P w = .ok (.map (some w.heap.size)) (w.alloc (.map #[] 0)) := run_makeMap t w
  simp [execOp, e1]

theorem D_mapUpdate {m x y : Operand} (M : MapK P t k e kv av ok) {kx : κ} {a : α} (hg : guardB ds E g = true) (hm : ev E m = .map (some b)) (hx : ev E x = kv kx) (hy : ev E y = av a) (hmap : MapAt P k kv av w b n f) (hok : ok kx) (hn : n < maxLen)
    (hR : anc = true ∨ ∀ w', Mod (oneB b) w w' → R w w') (h : ∀ w1, Mod (oneB b) w w1 → w1.heap.size = w.heap.size → MapAt P k kv av w1 b (n + 1) (putF f kx a) → Dw P N ds R rs K E w1) :
    Dw P N ds R ((⟨none, .mapUpdate t m x y, ty, pos, af, g⟩, .x, anc) :: rs) K E w := by
  obtain ⟨w', hr, h1, h2, h3⟩ := hmap.update M hn hok a
  refine D_xs (w' := w') hg ?_ (fun e => hR.elim (fun h => by rw [h] at e; cases e) (fun h => h _ h2)) (h _ h2 h3 h1)
  simp [execOp, hm, hx, hy, hr]

theorem lv_look {m x : Operand} (M : MapK P t k e kv av ok) {kx : κ} {z0 : α} {dd : Option Tmp} (hm : ev E m = .map (some b)) (hx : ev E x = kv kx) (hz : (zeroValue e).run P w = .ok (av z0) w) (hmap : MapAt P k kv av w b n f) (hok : ok kx) :
    LV P ⟨dd, .lookup t m x false, ty, pos, af, g⟩ E w (av ((f kx).getD z0)) := by
  unfold LV
  have := hmap.look M hz hok
  simp [execOp, hm, hx, this]
theorem lv_lookOk {m x : Operand} (M : MapK P t k e kv av ok) {kx : κ} {z0 : α} {dd : Option Tmp} (hm : ev E m = .map (some b)) (hx : ev E x = kv kx) (hz : (zeroValue e).run P w = .ok (av z0) w) (hmap : MapAt P k kv av w b n f) (hok : ok kx) :
    LV P ⟨dd, .lookup t m x true, ty, pos, af, g⟩ E w (.tuple #[av ((f kx).getD z0), .bool (f kx).isSome]) := by
  unfold LV
  have := hmap.lookOk M hz hok
  simp [execOp, hm, hx, this]

theorem D_range {m : Operand} (M : MapK P t k e kv av ok) (hg : guardB ds E g = true) (hm : ev E m = .map (some b)) (hmap : MapAt P k kv av w b n f) (hR : RX R anc)
    (h : ∀ r w1 cnt, r = w.heap.size → Ext w w1 → cnt ≤ n → RangeAt P k kv av w1 b r n f (fun x => (f x).isSome = true) cnt → Dw P N ds R rs K (upd E d (ptr r 0)) w1) :
    Dw P N ds R ((⟨some d, .range t m, ty, pos, af, g⟩, .x, anc) :: rs) K E w := by
  obtain ⟨w', cnt, hr, h1, h2, h3, h4⟩ := hmap.range M
  refine D_xv (w' := w') (v := ptr w.heap.size 0) hg ?_ (hR.use h3) (h _ _ _ rfl h3 h2 h1)
  simp [execOp, hm, hr]

theorem D_next {it : Operand} (M : MapK P t k e kv av ok) (hg : guardB ds E g = true) (hit : ev E it = ptr r 0) (hrg : RangeAt P k kv av w b r n f left cnt) (hR : anc = true ∨ ∀ w', Mod (oneB r) w w' → R w w')
    (h0 : (∀ x, ok x → ¬ left x) → Dw P N ds R rs K (upd E d (.tuple #[.bool false])) w)
    (h : ∀ x a w1 cnt', ok x → left x → f x = some a → Mod (oneB r) w w1 → w1.heap.size = w.heap.size → cnt' < cnt → RangeAt P k kv av w1 b r n f (fun y => left y ∧ y ≠ x) cnt' → (Instr.entry (ptr r 0)).run P w1 = .ok (.tuple #[kv x, av a]) w1 →
      Dw P N ds R rs K (upd E d (.tuple #[.bool true, kv x, av a])) w1) :
    Dw P N ds R ((⟨some d, .next it false, ty, pos, af, g⟩, .x, anc) :: rs) K E w := by
  rcases hrg.next M ty with ⟨hl, hr⟩ | ⟨x, a, w', cnt', hx, hlx, hfx, hr, h1, hlt, h2, hs, hen⟩
  · refine D_xv (w' := w) (v := .tuple #[.bool false]) hg ?_ (fun e => hR.elim (fun h => by rw [h] at e; cases e) (fun h => h _ (Mod.refl _ _))) (h0 hl)
    simp [execOp, hit, hr]
  · refine D_xv (w' := w') (v := .tuple #[.bool true, kv x, av a]) hg ?_ (fun e => hR.elim (fun h => by rw [h] at e; cases e) (fun h => h _ h2)) (h x a w' cnt' hx hlx hfx h2 hs hlt h1 hen)
    simp [execOp, hit, hr]

theorem lv_entry {it : Operand} {dd : Option Tmp} {u1 u2 : Value} (hit : ev E it = v) (hen : (Instr.entry v).run P w = .ok (.tuple #[u1, u2]) w) : LV P ⟨dd, .entry it, ty, pos, af, g⟩ E w (.tuple #[u1, u2]) := by
  unfold LV
  simp [execOp, hit, hen]

end

theorem Arr.base_lt {α : Type} {enc : α → List Value} {sz : Nat} {w : World} {v : Value} {l : List α} (h : Arr enc sz w v l) (hsz : 0 < sz) (hl : l ≠ []) : (base v).1 < w.heap.size := by
  cases l with
  | nil => exact absurd rfl hl
  | cons x r => exact h.blk hsz (x := x) rfl

/-! texts as keys -/

theorem S_inj (x y : Str) (h : S x = S y) : x = y := by
  simpa [S] using h

theorem mapS {P : Program} {α : Type} {t k e : TypeId} {av : α → Value} (hu : P.underlying t = some (.map k e)) (hk : P.underlying k = some .string) (ha : ∀ a b, av a = av b → a = b) : MapK P t k e S av (fun s => s.length ≤ maxLen) :=
  ⟨hu, string_keyed hk, fun x hx => ⟨_, WideMaps.keyOf_string_mk hk (s := ⟨⟨x⟩⟩) hx⟩, fun v l hl => by
    simp only [keyOf, hk] at hl
    cases v <;> simp [mapKey, hk] at hl
    rename_i s
    obtain ⟨h1, rfl⟩ := hl
    exact ⟨s.data.toList, rfl, h1⟩, S_inj, ha⟩

/-! bytes of a text; arrays out of slices -/

section
variable {P : Program} {N : Nat} {ds : List (Option Tmp)} {R : World → World → Prop} {rs : List (Oper × Fl × Bool)} {K : Env → World → Prop} {E : Env} {w : World}
variable {d : Nat} {op : Op} {ty : TypeId} {pos : String} {af : Array Edge} {g : Option (Nat × Bool)} {anc : Bool} {v : Value}

theorem bytes_at (w : World) (e : TypeId) (s : Str) (c : Nat) : Arr encB 1 (Lib.bytesWorld w e ⟨⟨s⟩⟩) (.slice (some ⟨w.heap.size, 0, none⟩) s.length (max c s.length)) s := by
  refine ⟨.inr (.inl ⟨_, 0, _, by rw [List.length_map], by rw [List.length_map]; omega⟩), fun i cs hi => ?_⟩
  rw [List.getElem?_map] at hi
  obtain ⟨x, hx, rfl⟩ := Option.map_eq_some_iff.1 hi
  refine ⟨rfl, fun j u hj => ?_⟩
  have hlt := (List.getElem?_eq_some_iff.1 hx).1
  cases j with
  | succ j => simp at hj
  | zero =>
    have e2 : u = .int .u8 (x.toNat : Int) := by simpa using hj.symm
    rw [e2]
    have hc := Lib.bytesWorld_cell w e ⟨⟨s⟩⟩ i hlt
    have e3 : (⟨⟨s⟩⟩ : ByteArray).data.toList.getD i 0 = x := by simp [List.getD, hx]
    rw [e3] at hc
    simpa [base] using hc

/-- '[]byte(s)': a new row of the bytes. -/
theorem D_s2b {x : Operand} {T U e : Nat} {s : Str} (hg : guardB ds E g = true) (hT : isStr P T = true) (hU : P.underlying U = some (.slice e)) (he : P.underlying e = some (.int .u8)) (hx : ev E x = S s) (hR : RX R anc)
    (h : ∀ b c w1, b = w.heap.size → Ext w w1 → Arr encB 1 w1 (.slice (some ⟨b, 0, none⟩) s.length c) s → Dw P N ds R rs K (upd E d (.slice (some ⟨b, 0, none⟩) s.length c)) w1) : Dw P N ds R ((⟨some d, .convert T U x, ty, pos, af, g⟩, .x, anc) :: rs) K E w := by
  have hT' : P.underlying T = some .string := by
    unfold isStr at hT; split at hT <;> first | assumption | cases hT
  have hr := Lib.run_convert_string_bytes w T U e ⟨⟨s⟩⟩ hT' hU he
  have hx' : Ext w (Lib.bytesWorld w e ⟨⟨s⟩⟩) := ⟨rfl, rfl, rfl, by rw [Lib.bytesWorld_size]; omega, fun k hk _ => Lib.bytesWorld_at_old w e _ k hk⟩
  have hcap : s.length ≤ grownCap w s.length 0 e := by
    exact Nat.le_add_right _ _
  have ha := bytes_at w e s (grownCap w s.length 0 e)
  rw [Nat.max_eq_left hcap] at ha
  refine D_xv (v := .slice (some ⟨w.heap.size, 0, none⟩) s.length (grownCap w s.length 0 e)) (w' := Lib.bytesWorld w e ⟨⟨s⟩⟩) hg ?_ (hR.use hx') (h _ _ _ rfl hx' ha)
  have hr' : (convert T U (S s)).run P w = .ok (.slice (some ⟨w.heap.size, 0, none⟩) s.length (grownCap w s.length 0 e)) (Lib.bytesWorld w e ⟨⟨s⟩⟩) := hr
  simp only [execOp, hx, Sem.run_bind, hr', Result.andThen_ok, Sem.run_pure, updO]

/-- '[n]T(s)': the place. -/
theorem pv_s2a {x : Operand} {T m b o n c : Nat} {dd : Option Tmp} (hT : (arrElem P T).map (·.1) = some m) (hx : ev E x = .slice (some ⟨b, o, none⟩) n c) (hm : m ≤ n) : PV P ⟨dd, .sliceToArrayPointer T x, ty, pos, af, g⟩ E (ptr b o) := fun w => by
  obtain ⟨⟨m', e, k⟩, h1, h2⟩ := Option.map_eq_some_iff.1 hT
  simp only at h2
  subst h2
  obtain ⟨hu, _⟩ := arrElem_under h1
  have hn : ¬ n < m' := by omega
  simp [execOp, Instr.arrayAt, underlying, hu, hx, hn]

/-- 'a[:]' of an array's place. -/
theorem pv_slR {x : Operand} {T m b o : Nat} {dd : Option Tmp} (hT : (arrElem P T).map (·.1) = some m) (hx : ev E x = ptr b o) : PV P ⟨dd, .slice T x none none none, ty, pos, af, g⟩ E (.slice (some ⟨b, o, none⟩) m m) := fun w => by
  obtain ⟨⟨m', e, k⟩, h1, h2⟩ := Option.map_eq_some_iff.1 hT
  simp only at h2
  subst h2
  obtain ⟨hu, f, hf, hk⟩ := arrElem_under h1
  have ha : (⟨b, o, none⟩ : Addr).add (0 * k) = ⟨b, o, none⟩ := by simp [Addr.add]
  have h3 : (if m' = 0 then (⟨b, o, none⟩ : Addr) else (⟨b, o, none⟩ : Addr).add (0 * k)) = ⟨b, o, none⟩ := by rw [ha]; split <;> rfl
  simp [execOp, hx, Instr.sliceAt, underlying, hu, Instr.sureAddr, Instr.sliceBounds, sizeOf, typeInfo, hf, hk, Addr.add]

theorem flat8 (l : Str) : l.flatMap encB = l.map fun c => Value.int .u8 c.toNat := by
  induction l with
  | nil => rfl
  | cons x r ih => rw [List.flatMap_cons, ih]; rfl
theorem Arr.row8 {v : Value} {l : Str} (h : Arr encB 1 w v l) : Row w (base v).1 (base v).2 (l.map fun c => Value.int .u8 c.toNat) := fun i u hi => by
  rw [← flat8] at hi
  exact Arr.flat (enc := encB) (sz := 1) (fun _ => rfl) h i u hi
theorem arr8 {b T m c : Nat} {cs : List Value} {l : Str} (h : Blk w b cs T) (he : cs = l.map fun c => Value.int .u8 c.toNat) (hm : m = l.length) (hc : m ≤ c := by omega) : Arr encB 1 w (.slice (some ⟨b, 0, none⟩) m c) l := by
  subst he; subst hm
  refine ⟨.inr (.inl ⟨b, 0, c, by rw [List.length_map], by rw [List.length_map]; exact hc⟩), fun i cs hi => ?_⟩
  rw [List.getElem?_map] at hi
  obtain ⟨x, hx, rfl⟩ := Option.map_eq_some_iff.1 hi
  refine ⟨rfl, fun j u hj => ?_⟩
  cases j with
  | succ j => simp at hj
  | zero =>
    have e2 : u = .int .u8 (x.toNat : Int) := by simpa using hj.symm
    rw [e2]
    have := h.at (k := i) (v := .int .u8 (x.toNat : Int)) (by rw [List.getElem?_map, hx]; rfl)
    simpa [base] using this

end

/-! rows of bytes as keys -/

@[reducible] def A8 (l : Str) : Value := .agg ⟨l.map fun c => Value.int .u8 c.toNat⟩

theorem A8_inj (x y : Str) (h : A8 x = A8 y) : x = y := by
  have h1 : x.map (fun c => Value.int .u8 c.toNat) = y.map fun c => Value.int .u8 c.toNat := by simpa [A8] using h
  refine List.map_inj_right (f := fun c : UInt8 => Value.int .u8 c.toNat) (fun a b hab => ?_) |>.1 h1
  have : (a.toNat : Int) = b.toNat := by simpa using hab
  exact UInt8.toNat_inj.1 (by omega)

theorem keyLits_byte {P : Program} {e d : Nat} (he : P.underlying e = some (.int .u8)) (c : UInt8) : P.keyLits (d + 1) e [.int .u8 c.toNat] = some [.int .u8 c.toNat] := by
  have hw : (Lit.int .u8 (c.toNat : Int)).wf = true := by
    have := c.toNat_lt
    simp [Lit.wf, IntKind.min, IntKind.max, IntKind.signed, IntKind.bits]
    omega
  simp [Program.keyLits, he, hw]
theorem keyLits_byte_inv {P : Program} {e d : Nat} (he : P.underlying e = some (.int .u8)) {cs : List Value} {l : List Lit} (h : P.keyLits (d + 1) e cs = some l) : ∃ c : UInt8, cs = [.int .u8 c.toNat] := by
  unfold Program.keyLits at h
  rw [he] at h
  match cs, h with
  | [.int q' n], h =>
    simp only [] at h
    split at h
    · rename_i hc
      obtain ⟨rfl, hw⟩ := hc
      have hw' : 0 ≤ n ∧ n ≤ 255 := by simpa [Lit.wf, IntKind.min, IntKind.max, IntKind.signed, IntKind.bits] using hw
      refine ⟨UInt8.ofNat n.toNat, ?_⟩
      have e1 : (UInt8.ofNat n.toNat).toNat = n.toNat := by simp; omega
      rw [e1]
      congr 2
      omega
    · cases h

theorem mapM_some {α β : Type} {f : α → Option β} : ∀ {l : List α} {r : List β}, l.mapM f = some r → ∀ x ∈ l, ∃ y, f x = some y
  | [], _, _, x, hx => by cases hx
  | a :: l, r, h, x, hx => by
    simp only [List.mapM_cons, Option.bind_eq_bind, Option.bind_eq_some_iff, Option.pure_def, Option.some.injEq] at h
    obtain ⟨y, hy, ys, hys, _⟩ := h
    rcases List.mem_cons.1 hx with rfl | hx
    · exact ⟨y, hy⟩
    · exact mapM_some hys x hx
theorem mapM_all {α β : Type} {f : α → Option β} : ∀ (l : List α), (∀ x ∈ l, ∃ y, f x = some y) → ∃ r, l.mapM f = some r
  | [], _ => ⟨[], rfl⟩
  | a :: l, h => by
    obtain ⟨y, hy⟩ := h a List.mem_cons_self
    obtain ⟨r, hr⟩ := mapM_all l (fun x hx => h x (List.mem_cons_of_mem _ hx))
    exact ⟨y :: r, by simp [List.mapM_cons, hy, hr]⟩

theorem mapA8 {P : Program} {α : Type} {t k e b n : Nat} {av : α → Value} (hl : laidOutB P = true) (hu : P.underlying t = some (.map k e)) (hk : P.underlying k = some (.array n b)) (hb : P.underlying b = some (.int .u8)) (hc : P.cellsOf k = n) (hcb : P.cellsOf b = 1)
    (hkt : P.keyType k = true) (hka : P.keyTypeAt 2 k = true) (hrow : Nat.blt k P.types.size = true) (ha : ∀ a b, av a = av b → a = b) : MapK P t k e A8 av (fun s => s.length = n) := by
  have hrow' : k < P.types.size := by simpa [Nat.blt_eq] using hrow
  have hd : ∃ d, P.types.size = d + 1 := ⟨P.types.size - 1, by omega⟩
  obtain ⟨d, hd⟩ := hd
  refine ⟨hu, Keyed.of_law (deep_law_laid hl (m := 2) (by omega) hrow' hka (by rw [hk])), fun x hx => ?_, fun v l hv => ?_, A8_inj, ha⟩
  · subst hx
    have hf : (A8 x).formed P k = true := by simp [Value.formed, hk, hc]
    obtain ⟨r, hr⟩ := mapM_all (f := fun i => P.keyLits (d + 1) b (((x.map fun c => Value.int .u8 c.toNat).drop (i * 1)).take 1)) (List.range x.length) (fun i hi => by
      have hi' : i < x.length := by simpa using hi
      refine ⟨[.int .u8 x[i].toNat], ?_⟩
      rw [Nat.mul_one, List.drop_eq_getElem_cons (by simpa using hi'), List.take_succ_cons, List.take_zero, List.getElem_map]
      exact keyLits_byte hb _)
    refine ⟨.string (keyBytes r.flatten), ?_⟩
    simp only [keyOf, hk, hkt, hf, Bool.and_self, if_true, hd, Value.cells]
    unfold Program.keyLits
    simp only [hk, List.length_map, hc, if_true, hcb, hr, Option.map_some]
  · simp only [keyOf, hk, hkt, Bool.true_and] at hv
    split at hv
    · rename_i hf
      cases v <;> simp [Value.formed, hk] at hf
      rename_i cs
      rw [hc] at hf
      simp only [hd, Value.cells, Option.map_eq_some_iff] at hv
      obtain ⟨ls, hls, _⟩ := hv
      unfold Program.keyLits at hls
      simp only [hk, hc, hcb] at hls
      have hlen : cs.toList.length = n := by simpa using hf
      rw [if_pos hlen] at hls
      simp only [Option.map_eq_some_iff] at hls
      obtain ⟨r, hr, _⟩ := hls
      have hall := mapM_some hr
      have key : ∀ j, j ≤ n → ∃ x : Str, x.length = j ∧ cs.toList.take j = x.map fun c => Value.int .u8 c.toNat := by
        intro j
        induction j with
        | zero => intro _; exact ⟨[], rfl, by simp⟩
        | succ j ih =>
          intro hj
          obtain ⟨x, hx, hxe⟩ := ih (by omega)
          obtain ⟨y, hy⟩ := hall j (List.mem_range.2 (by omega))
          obtain ⟨c, hcc⟩ := keyLits_byte_inv hb hy
          have hjl : j < cs.toList.length := by omega
          rw [Nat.mul_one, List.drop_eq_getElem_cons hjl, List.take_succ_cons, List.take_zero] at hcc
          refine ⟨x ++ [c], by simp [hx], ?_⟩
          rw [List.take_succ_eq_append_getElem hjl, hxe, List.map_append]
          rw [List.cons.injEq] at hcc
          rw [hcc.1]; rfl
      obtain ⟨x, hx, hxe⟩ := key n (Nat.le_refl _)
      refine ⟨x, ?_, hx⟩
      rw [List.take_of_length_le (by omega)] at hxe
      show Value.agg cs = .agg ⟨_⟩
      rw [← hxe]
    · cases hv

end Go.Vc
