/-
  Memory in the walk: what has changed between two worlds, what a block holds, loads, stores, boxes, calls; the steps of a region; a function's end. Nothing is assumed.
-/
import Derived.Test.YteninjhmmjkckaaGreatDoorVcC
namespace Go.Vc
open Go.RowKit
set_option linter.unusedSimpArgs false
set_option linter.unusedVariables false

/-! ### Worlds -/

/-- What was there is as it was, but for the blocks of S. -/
structure Mod (S : Nat → Prop) (w w' : World) : Prop where
  os : w'.os = w.os
  tape : w'.tape = w.tape
  output : w'.output = w.output
  size : w.heap.size ≤ w'.heap.size
  block : ∀ k, k < w.heap.size → ¬ S k → w'.heap[k]? = w.heap[k]?

def noB : Nat → Prop := fun _ => False
abbrev Ext (w w' : World) : Prop := Mod noB w w'
def oneB (b : Nat) : Nat → Prop := fun k => k = b

theorem Mod.refl (S : Nat → Prop) (w : World) : Mod S w w := ⟨rfl, rfl, rfl, Nat.le_refl _, fun _ _ _ => rfl⟩
theorem Ext.refl (w : World) : Ext w w := Mod.refl _ w

/-- Two steps; the second one may write what the first world did not have. -/
theorem Mod.trans {S T U : Nat → Prop} {a b c : World} (h : Mod S a b) (k : Mod T b c) (hS : ∀ i, S i → U i) (hT : ∀ i, T i → i < a.heap.size → U i) : Mod U a c :=
  ⟨k.os.trans h.os, k.tape.trans h.tape, k.output.trans h.output, Nat.le_trans h.size k.size, fun i hi hU =>
    (k.block i (Nat.lt_of_lt_of_le hi h.size) (fun hT' => hU (hT i hT' hi))).trans (h.block i hi (fun hS' => hU (hS i hS')))⟩

theorem Mod.ext {S : Nat → Prop} {a b c : World} (h : Mod S a b) (k : Ext b c) : Mod S a c := h.trans k (fun _ h => h) (fun _ h _ => h.elim)
theorem Ext.trans {a b c : World} (h : Ext a b) (k : Ext b c) : Ext a c := Mod.ext h k
theorem Ext.mod {S : Nat → Prop} {a b c : World} (h : Ext a b) (k : Mod S b c) : Mod S a c := Mod.trans h k (fun _ h => h.elim) (fun _ h _ => h)
theorem Mod.mono {S U : Nat → Prop} {a b : World} (h : Mod S a b) (hS : ∀ i, S i → i < a.heap.size → U i) : Mod U a b :=
  ⟨h.os, h.tape, h.output, h.size, fun i hi hU => h.block i hi (fun s => hU (hS i s hi))⟩
/-- What was written is not of the first world. -/
theorem Ext.own {S : Nat → Prop} {a b c : World} (h : Ext a b) (k : Mod S b c) (hS : ∀ i, S i → a.heap.size ≤ i) : Ext a c :=
  Mod.trans h k (fun _ h => h) (fun i h hi => by have := hS i h; omega)
theorem Mod.own {S T : Nat → Prop} {a b c : World} (h : Mod T a b) (k : Mod S b c) (hS : ∀ i, S i → i < a.heap.size → T i) : Mod T a c :=
  Mod.trans h k (fun _ h => h) hS

theorem Ext.drew (w : World) : Ext w w.drew := ⟨rfl, rfl, rfl, Nat.le_refl _, fun _ _ _ => rfl⟩
theorem Ext.alloc (w : World) (o : Obj) : Ext w (w.alloc o) := ⟨rfl, rfl, rfl, by simp, fun k hk _ => Below.heap_alloc _ _ _ hk⟩
theorem Ext.below {w w' : World} (h : Ext w w') : Below w.heap.size w w' := ⟨h.os, h.tape, h.output, h.size, fun k hk => h.block k hk (fun h => h)⟩
theorem Ext.of_below {w w' : World} (h : Below w.heap.size w w') : Ext w w' := ⟨h.os, h.tape, h.output, h.size, fun k hk _ => h.block k hk⟩
theorem Ext.of_grown {w w' : World} (h : w.grownBy w' none) : Ext w w' := ⟨h.os, h.tape, h.output, h.size, fun k hk _ => h.block k hk (by simp)⟩
theorem Mod.of_grown {w w' : World} {r : Option Nat} (h : w.grownBy w' r) : Mod (fun k => r = some k) w w' := ⟨h.os, h.tape, h.output, h.size, fun k hk hn => h.block k hk (fun e => hn e.symm)⟩

theorem Mod.cell {S : Nat → Prop} {w w' : World} (h : Mod S w w') {b o : Nat} {v : Value} (hc : w.cell? ⟨b, o, none⟩ = some v) (hS : ¬ S b) : w'.cell? ⟨b, o, none⟩ = some v := by
  have hb := World.block_lt_of_cell? (w := w) (a := ⟨b, o, none⟩) hc
  rw [World.cell?_of_block (w := w) (h.block b hb hS)]; exact hc

/-! ### What a block holds -/

/-- A block of cells, none of them frozen. -/
def Blk (w : World) (b : Nat) (cs : List Value) (T : TypeId) : Prop := w.heap[b]? = some (.cells ⟨cs⟩ T (0, 0))

theorem Blk.lt {w : World} {b : Nat} {cs : List Value} {T : TypeId} (h : Blk w b cs T) : b < w.heap.size := (Array.getElem?_eq_some_iff.1 h).1
theorem Blk.mod {S : Nat → Prop} {w w' : World} {b : Nat} {cs : List Value} {T : TypeId} (h : Blk w b cs T) (m : Mod S w w') (hS : ¬ S b) : Blk w' b cs T := by
  have hl := h.lt
  unfold Blk at *; rw [m.block b hl hS]; exact h
theorem Blk.ext {w w' : World} {b : Nat} {cs : List Value} {T : TypeId} (h : Blk w b cs T) (m : Ext w w') : Blk w' b cs T := h.mod m (fun h => h)
theorem Blk.at {w : World} {b k : Nat} {cs : List Value} {T : TypeId} {v : Value} (h : Blk w b cs T) (hk : cs[k]? = some v) : w.cell? ⟨b, k, none⟩ = some v := by
  unfold Blk at h; simp [World.cell?, h]; simpa using hk
theorem Blk.free {w : World} {b k : Nat} {cs : List Value} {T : TypeId} (h : Blk w b cs T) : w.frozen? ⟨b, k, none⟩ = false := by
  unfold Blk at h; simp [World.frozen?, h]

/-- Cells in a row. -/
def Row (w : World) (b o : Nat) (cs : List Value) : Prop := ∀ i v, cs[i]? = some v → w.cell? ⟨b, o + i, none⟩ = some v

theorem Row.mod {S : Nat → Prop} {w w' : World} {b o : Nat} {cs : List Value} (h : Row w b o cs) (m : Mod S w w') (hS : ¬ S b) : Row w' b o cs := fun i v hi => m.cell (h i v hi) hS
theorem Row.ext {w w' : World} {b o : Nat} {cs : List Value} (h : Row w b o cs) (m : Ext w w') : Row w' b o cs := h.mod m (fun h => h)
theorem Row.at {w : World} {b o k : Nat} {cs : List Value} {v : Value} (h : Row w b o cs) (hk : cs[k]? = some v) : w.cell? ⟨b, o + k, none⟩ = some v := h k v hk
theorem Blk.row {w : World} {b : Nat} {cs : List Value} {T : TypeId} (h : Blk w b cs T) : Row w b 0 cs := fun i v hi => by rw [Nat.zero_add]; exact h.at hi
theorem Blk.part {w : World} {b : Nat} {cs : List Value} {T : TypeId} (o n : Nat) (h : Blk w b cs T) : Row w b o ((cs.drop o).take n) := fun i v hi => h.at (by
  rw [List.getElem?_take] at hi
  split at hi
  · rw [List.getElem?_drop] at hi; exact hi
  · cases hi)

/-- A slice whose elements have so many cells each reads so. -/
structure Slc (sz : Nat) (w : World) (v : Value) (xs : List (List Value)) : Prop where
  sl : isSl v xs.length
  at' : ∀ i cs, xs[i]? = some cs → cs.length = sz ∧ Row w (base v).1 ((base v).2 + i * sz) cs

theorem Slc.mod {S : Nat → Prop} {sz : Nat} {w w' : World} {v : Value} {xs : List (List Value)} (h : Slc sz w v xs) (m : Mod S w w') (hS : xs ≠ [] → ¬ S (base v).1) : Slc sz w' v xs :=
  ⟨h.sl, fun i cs hi => ⟨(h.at' i cs hi).1, (h.at' i cs hi).2.mod m (hS (fun e => by rw [e] at hi; simp at hi))⟩⟩
theorem Slc.ext {sz : Nat} {w w' : World} {v : Value} {xs : List (List Value)} (h : Slc sz w v xs) (m : Ext w w') : Slc sz w' v xs := h.mod m (fun _ h => h)
theorem Slc.row {sz : Nat} {w : World} {v : Value} {xs : List (List Value)} {i : Nat} {cs : List Value} (h : Slc sz w v xs) (hi : xs[i]? = some cs) : Row w (base v).1 ((base v).2 + i * sz) cs := (h.at' i cs hi).2
theorem Slc.nil (sz : Nat) (w : World) : Slc sz w (.slice none 0 0) [] := ⟨.inl ⟨rfl, rfl⟩, fun i cs hi => by simp at hi⟩

/-- A slice that reads as a list of things, each with its cells. -/
def Arr {α : Type} (enc : α → List Value) (sz : Nat) (w : World) (v : Value) (l : List α) : Prop := Slc sz w v (l.map enc)

section
variable {α : Type} {enc : α → List Value} {sz : Nat} {w w' : World} {v : Value} {l : List α}
theorem Arr.sl (h : Arr enc sz w v l) : isSl v l.length := by have := Slc.sl h; rwa [List.length_map] at this
theorem Arr.row {i : Nat} {x : α} (h : Arr enc sz w v l) (hi : l[i]? = some x) : Row w (base v).1 ((base v).2 + i * sz) (enc x) := Slc.row h (by rw [List.getElem?_map, hi]; rfl)
theorem Arr.ext (h : Arr enc sz w v l) (m : Ext w w') : Arr enc sz w' v l := Slc.ext h m
theorem Arr.mod {S : Nat → Prop} (h : Arr enc sz w v l) (m : Mod S w w') (hS : l ≠ [] → ¬ S (base v).1) : Arr enc sz w' v l := Slc.mod h m (fun e => hS (fun e2 => e (by rw [e2]; rfl)))
theorem Arr.lt {i : Nat} {x : α} (h : Arr enc sz w v l) (hi : l[i]? = some x) : i < l.length := (List.getElem?_eq_some_iff.1 hi).1
theorem Arr.nil : Arr enc sz w (.slice none 0 0) [] := Slc.nil sz w
theorem Arr.blk {x : α} (h : Arr enc sz w v l) (hsz : 0 < sz) (hi : l[0]? = some x) : (base v).1 < w.heap.size := by
  obtain ⟨h1, h2⟩ := Slc.at' h 0 (enc x) (by rw [List.getElem?_map, hi]; rfl)
  cases he : enc x with
  | nil => rw [he] at h1; simp at h1; omega
  | cons c r => exact World.block_lt_of_cell? (w := w) (a := ⟨_, _, none⟩) (h2 0 c (by rw [he]; rfl))
end

/-! ### A region's steps -/

section
variable {P : Program} {n : Nat} {ds : List (Option Tmp)} {R : World → World → Prop} {r : List (Oper × Fl × Bool)} {K : Env → World → Prop} {E : Env} {w : World}
variable {d : Nat} {op : Op} {ty : TypeId} {pos : String} {af : Array Edge} {g : Option (Nat × Bool)} {anc : Bool} {v : Value}

theorem D_end (h : K E w) : Dw P n ds R [] K E w := h

theorem D_p (hg : guardB ds E g = true) (hv : PV P ⟨some d, op, ty, pos, af, g⟩ E v) (h : Dw P n ds R r K (upd E d v) w) : Dw P n ds R ((⟨some d, op, ty, pos, af, g⟩, .p, anc) :: r) K E w := by
  unfold Dw; rw [if_pos hg]; exact ⟨v, hv, h⟩
/-- The value written anew. -/
theorem D_pe {v' : Value} (hg : guardB ds E g = true) (hv : PV P ⟨some d, op, ty, pos, af, g⟩ E v') (hn : v' = v) (h : Dw P n ds R r K (upd E d v) w) : Dw P n ds R ((⟨some d, op, ty, pos, af, g⟩, .p, anc) :: r) K E w :=
  D_p hg (hn ▸ hv) h
theorem D_mv {x : Operand} (hg : guardB ds E g = true) (hx : ev E x = v) (h : Dw P n ds R r K (upd E d v) w) : Dw P n ds R ((⟨some d, .move x, ty, pos, af, g⟩, .p, anc) :: r) K E w := D_p hg (pv_move hx) h
theorem D_as {x : Operand} (hg : guardB ds E g = true) (hx : ev E x = v) (h : Dw P n ds R r K (upd E d v) w) : Dw P n ds R ((⟨some d, .assign x, ty, pos, af, g⟩, .p, anc) :: r) K E w := D_p hg (pv_assign hx) h

theorem D_l (hg : guardB ds E g = true) (hv : ∀ w', R w w' → LV P ⟨some d, op, ty, pos, af, g⟩ E w' v) (h : Dw P n ds R r K (upd E d v) w) : Dw P n ds R ((⟨some d, op, ty, pos, af, g⟩, .l, anc) :: r) K E w := by
  unfold Dw; rw [if_pos hg]; exact ⟨v, hv, h⟩

theorem D_skip {f : Fl} (hg : guardB ds E g = false) (h : Dw P n ds R r K (upd E d undef) w) : Dw P n ds R ((⟨some d, op, ty, pos, af, g⟩, f, anc) :: r) K E w := by
  cases f <;> (unfold Dw; rw [if_neg (by rw [hg]; decide)]; exact h)
theorem D_skip0 {f : Fl} (hg : guardB ds E g = false) (h : Dw P n ds R r K E w) : Dw P n ds R ((⟨none, op, ty, pos, af, g⟩, f, anc) :: r) K E w := by
  cases f <;> (unfold Dw; rw [if_neg (by rw [hg]; decide)]; exact h)

theorem D_x {o : Oper} (hg : guardB ds E o.guard = true) (h : XW P n o E w (fun E' w' => (anc = false → R w w') ∧ Dw P n ds R r K E' w')) : Dw P n ds R ((o, .x, anc) :: r) K E w := by
  unfold Dw; rw [if_pos hg]; exact h

/-- A slot that is a Bool: both ways. -/
theorem D_split {l : List (Oper × Fl × Bool)} (s : Nat) {b : Bool} (hb : E s = .bool b) (ht : b = true → Dw P n ds R l K (upd E s (.bool true)) w) (hf : b = false → Dw P n ds R l K (upd E s (.bool false)) w) : Dw P n ds R l K E w := by
  cases b with
  | true => have := ht rfl; rwa [upd_self E s _ hb] at this
  | false => have := hf rfl; rwa [upd_self E s _ hb] at this
theorem D_splitP {l : List (Oper × Fl × Bool)} (s : Nat) {p : Prop} [Decidable p] (hb : E s = .bool (decide p)) (ht : p → Dw P n ds R l K (upd E s (.bool true)) w) (hf : ¬ p → Dw P n ds R l K (upd E s (.bool false)) w) : Dw P n ds R l K E w :=
  D_split s hb (fun h => ht (of_decide_eq_true h)) (fun h => hf (of_decide_eq_false h))

/-- How an operation that leaves old memory as it was meets what is asked of the order. -/
def RX (R : World → World → Prop) (anc : Bool) : Prop := anc = true ∨ ∀ w w', Ext w w' → R w w'
theorem RX.ext {anc : Bool} : RX Ext anc := .inr fun _ _ h => h
theorem RX.all : RX R true := .inl rfl
theorem RX.use {anc : Bool} (h : RX R anc) {w w' : World} (he : Ext w w') : anc = false → R w w' := fun e => h.elim (fun h => by rw [h] at e; cases e) (fun h => h _ _ he)

/-- An operation that runs to a value. -/
theorem D_xv {o : Oper} {w' : World} {v : Value} (hg : guardB ds E o.guard = true) (hr : (execOp (ev E) o).run P w = .ok (.value v) w') (hR : anc = false → R w w') (h : Dw P n ds R r K (updO E o.dst v) w') : Dw P n ds R ((o, .x, anc) :: r) K E w := by
  refine D_x hg fun ok => ?_
  unfold Oper.wp
  rw [exec_eq ok, hr]
  exact ⟨_, act_put _ _ _ _, hR, h⟩
/-- An operation that runs to nothing. -/
theorem D_xs {o : Oper} {w' : World} (hg : guardB ds E o.guard = true) (hr : (execOp (ev E) o).run P w = .ok .skip w') (hR : anc = false → R w w') (h : Dw P n ds R r K (updO E o.dst undef) w') : Dw P n ds R ((o, .x, anc) :: r) K E w := by
  refine D_x hg fun ok => ?_
  unfold Oper.wp
  rw [exec_eq ok, hr]
  exact ⟨_, act_put _ _ _ _, hR, h⟩

/-! loads -/

theorem lv_load {x : Operand} {T b o : Nat} {v : Value} {dd : Option Tmp} (hT : isOne P T = true) (hx : ev E x = ptr b o) (hc : w.cell? ⟨b, o, none⟩ = some v) : LV P ⟨dd, .load T x, ty, pos, af, g⟩ E w v := by
  unfold LV
  simp [execOp, hx, Instr.loadAt, Instr.sureAddr, loadVar, isOne_agg hT, hc]

theorem run_loadCells {b o : Nat} : ∀ (cs : List Value) (i : Nat) (acc : Array Value), (∀ j v, cs[j]? = some v → w.cell? ⟨b, o + i + j, none⟩ = some v) →
    (loadCellsFrom ⟨b, o, none⟩ i cs.length acc).run P w = .ok (acc ++ cs.toArray) w := by
  intro cs
  induction cs with
  | nil => intro i acc _; simp [loadCellsFrom]
  | cons v r ih =>
    intro i acc h
    have h0 : w.cell? ⟨b, o + i, none⟩ = some v := by simpa using h 0 v rfl
    have ha : (⟨b, o, none⟩ : Addr).add i = ⟨b, o + i, none⟩ := by
      unfold Addr.add
      split
      · rename_i e; simp [e]
      · rfl
    have hr := ih (i + 1) (acc.push v) (fun j u hj => by have := h (j + 1) u (by simpa using hj); simpa [Nat.add_assoc, Nat.add_comm 1 j] using this)
    simp [loadCellsFrom, ha, h0, hr]

theorem lv_loadA {x : Operand} {T b o k : Nat} {cs : List Value} {dd : Option Tmp} (hT : aggN P T = some k) (hx : ev E x = ptr b o) (hl : cs.length = k) (hc : Row w b o cs) : LV P ⟨dd, .load T x, ty, pos, af, g⟩ E w (.agg ⟨cs⟩) := by
  unfold LV
  have h1 := run_loadCells (P := P) (w := w) (b := b) (o := o) cs 0 #[] (fun j v hj => by rw [Nat.add_zero]; exact hc j v hj)
  rw [hl] at h1
  simp [execOp, hx, Instr.loadAt, Instr.sureAddr, loadVar, (aggN_agg hT).1, (aggN_agg hT).2, loadCells, h1]

/-! boxes and stores -/

theorem D_box {x : Operand} {T : Nat} {cs : List Value} (hg : guardB ds E g = true) (hx : ev E x = v) (hv : v.cells = ⟨cs⟩) (hR : RX R anc)
    (h : ∀ b w1, b = w.heap.size → Ext w w1 → Blk w1 b cs T → Dw P n ds R r K (upd E d (ptr b 0)) w1) : Dw P n ds R ((⟨some d, .box T x, ty, pos, af, g⟩, .x, anc) :: r) K E w := by
  refine D_xv (v := ptr w.heap.size 0) (w' := w.alloc (.cells ⟨cs⟩ T)) hg ?_ (hR.use (Ext.alloc _ _)) (h _ _ rfl (Ext.alloc _ _) ?_)
  · simp [execOp, hx, Instr.box, newVar, newRow, hv, newObj, Sem.run]
  · show (w.heap.push _)[w.heap.size]? = _; simp

def zeroC (P : Program) (T : TypeId) : Option (List Value) := (P.info? T).bind fun i => i.zero.map fun z => z.cells.toList

theorem zeroC_run {T : TypeId} {cs : List Value} (h : zeroC P T = some cs) : ∃ z, (zeroValue T).run P w = .ok z w ∧ z.cells = ⟨cs⟩ := by
  unfold zeroC at h
  cases hi : P.info? T with
  | none => rw [hi] at h; simp at h
  | some i =>
    rw [hi] at h
    simp only [Option.bind_some, Option.map_eq_some_iff] at h
    obtain ⟨z, hz, hc⟩ := h
    exact ⟨z, by simp [zeroValue, typeInfo, hi, hz], by rw [← hc]⟩

theorem D_alloc {T : Nat} {cs : List Value} (hg : guardB ds E g = true) (hz : zeroC P T = some cs) (hR : RX R anc)
    (h : ∀ b w1, b = w.heap.size → Ext w w1 → Blk w1 b cs T → Dw P n ds R r K (upd E d (ptr b 0)) w1) : Dw P n ds R ((⟨some d, .alloc T, ty, pos, af, g⟩, .x, anc) :: r) K E w := by
  obtain ⟨z, hz1, hz2⟩ := zeroC_run (P := P) (w := w) hz
  refine D_xv (v := ptr w.heap.size 0) (w' := w.alloc (.cells ⟨cs⟩ T)) hg ?_ (hR.use (Ext.alloc _ _)) (h _ _ rfl (Ext.alloc _ _) ?_)
  · simp [execOp, Instr.alloc, hz1, newVar, newRow, hz2, newObj, Sem.run]
  · show (w.heap.push _)[w.heap.size]? = _; simp

/-- Values laid over a list from a place on. -/
def setAt : List Value → Nat → List Value → List Value
  | cs, _, [] => cs
  | cs, o, v :: vs => setAt (cs.set o v) (o + 1) vs

theorem Blk.set {b o : Nat} {cs : List Value} {T : TypeId} (h : Blk w b cs T) (v : Value) : Blk (w.setCell ⟨b, o, none⟩ v) b (cs.set o v) T := by
  unfold Blk at *
  simp only [World.setCell, Array.getElem?_modify, if_true, h, Option.map_some, Option.isSome_none]
  simp

theorem Mod.setCell (b o : Nat) (v : Value) : Mod (oneB b) w (w.setCell ⟨b, o, none⟩ v) :=
  ⟨rfl, rfl, rfl, by simp, fun k hk hn => Below.heap_setCell _ _ _ _ hn⟩

theorem run_storeCells {b o : Nat} {T : TypeId} : ∀ (vs : List Value) (i : Nat) (cs : List Value) (w : World), Blk w b cs T → o + i + vs.length ≤ cs.length → (∀ v ∈ vs, v.oneCell' = true) →
    ∃ w', (storeCells ⟨b, o, none⟩ vs i).run P w = .ok () w' ∧ Blk w' b (setAt cs (o + i) vs) T ∧ Mod (oneB b) w w' ∧ w'.heap.size = w.heap.size := by
  intro vs
  induction vs with
  | nil => intro i cs w h _ _; exact ⟨w, by simp [storeCells], h, Mod.refl _ _, rfl⟩
  | cons v r ih =>
    intro i cs w h hl h1
    have hlt : o + i < cs.length := by simp at hl; omega
    have ha : (⟨b, o, none⟩ : Addr).add i = ⟨b, o + i, none⟩ := by
      unfold Addr.add
      split
      · rename_i e; simp [e]
      · rfl
    have hc : w.cell? ⟨b, o + i, none⟩ = some cs[o + i] := h.at (by simp [hlt])
    have hf : w.frozen? ⟨b, o + i, none⟩ = false := h.free
    obtain ⟨w', e1, e2, e3, e4⟩ := ih (i + 1) (cs.set (o + i) v) (w.setCell ⟨b, o + i, none⟩ v) (h.set v) (by simp at hl ⊢; omega) (fun u hu => h1 u (List.mem_cons_of_mem _ hu))
    refine ⟨w', ?_, by simpa [setAt, Nat.add_assoc] using e2, Mod.trans (Mod.setCell b (o + i) v) e3 (fun _ h => h) (fun _ h _ => h), by simpa using e4⟩
    have h1v := h1 v List.mem_cons_self
    rw [storeCells, Sem.run_bind, ha]
    have hs : (store ⟨b, o + i, none⟩ v).run P w = .ok () (w.setCell ⟨b, o + i, none⟩ v) := by
      cases v <;> simp [Value.oneCell'] at h1v <;> simp [store, Sem.run, hc, hf]
    rw [hs]
    exact e1

def sizeT (P : Program) (T : TypeId) : Option Nat := (P.info? T).map (·.size)

theorem D_store {a x : Operand} {T T' b o : Nat} {cs vs : List Value} (hg : guardB ds E g = true) (ha : ev E a = ptr b o) (hx : ev E x = v) (hv : v.cells = ⟨vs⟩) (hs : sizeT P T = some vs.length) (hb : Blk w b cs T')
    (ho : o + vs.length ≤ cs.length) (h1 : ∀ v ∈ vs, v.oneCell' = true) (hR : anc = true ∨ ∀ w', Mod (oneB b) w w' → R w w')
    (h : ∀ w1, Mod (oneB b) w w1 → w1.heap.size = w.heap.size → Blk w1 b (setAt cs o vs) T' → Dw P n ds R r K E w1) : Dw P n ds R ((⟨none, .store T a x, ty, pos, af, g⟩, .x, anc) :: r) K E w := by
  obtain ⟨w', e1, e2, e3, e4⟩ := run_storeCells (P := P) (b := b) (o := o) (T := T') vs 0 cs w hb (by simpa using ho) h1
  rw [Nat.add_zero] at e2
  refine D_xs (w' := w') hg ?_ (fun e => hR.elim (fun h => by rw [h] at e; cases e) (fun h => h _ e3)) (h _ e3 e4 e2)
  unfold sizeT at hs
  obtain ⟨i, hi, hsz⟩ := Option.map_eq_some_iff.1 hs
  have e1' : (storeCells ⟨b, o, none⟩ vs).run P w = .ok () w' := e1
  simp [execOp, ha, hx, Instr.storeAt, Instr.sureAddr, storeVar, sizeOf, typeInfo, hi, hsz, hv, e1']

/-! structs put together -/

def placesT (P : Program) (T : TypeId) : Option (List (Nat × Nat)) := match P.underlying T with
  | some (.struct fs) => fs.toList.mapM fun f => (P.info? f.type).map fun i => (f.offset, i.size)
  | _ => none

def fillL (pl : Nat → Option (Nat × Nat)) (cs : List Value) : List (Nat × Value) → Option (List Value)
  | [] => some cs
  | (i, v) :: r => match pl i with
    | none => none
    | some (off, size) => if v.cells.size = size ∧ off + v.cells.size ≤ cs.length then fillL pl (setAt cs off v.cells.toList) r else none

theorem foldl_setAt (off : Nat) : ∀ (vs : List Value) (k : Nat) (cs : List Value), ((vs.zipIdx k).foldl (fun (cs : Array Value) x => cs.setIfInBounds (off + x.2) x.1) ⟨cs⟩) = ⟨setAt cs (off + k) vs⟩ := by
  intro vs
  induction vs with
  | nil => intro k cs; rfl
  | cons v r ih =>
    intro k cs
    simp only [List.zipIdx_cons, List.foldl_cons, setAt]
    have e : (⟨cs⟩ : Array Value).setIfInBounds (off + k) v = ⟨cs.set (off + k) v⟩ := by simp
    rw [e, ih (k + 1)]
    rfl

theorem setAt_length : ∀ (vs : List Value) (o : Nat) (cs : List Value), (setAt cs o vs).length = cs.length := by
  intro vs
  induction vs with
  | nil => intro o cs; rfl
  | cons v r ih => intro o cs; simp [setAt, ih]

theorem fill_eq (pl : Nat → Option (Nat × Nat)) : ∀ (ps : List (Nat × Value)) (zs cs : List Value), fillL pl zs ps = some cs → Instr.fill pl ⟨zs⟩ ps = some ⟨cs⟩ := by
  intro ps
  induction ps with
  | nil => intro zs cs h; simp [fillL] at h; simp [Instr.fill, h]
  | cons p r ih =>
    intro zs cs h
    obtain ⟨i, v⟩ := p
    simp only [fillL] at h
    cases hp : pl i with
    | none => rw [hp] at h; cases h
    | some os =>
      obtain ⟨off, size⟩ := os
      rw [hp] at h
      simp only [] at h
      split at h
      · rename_i hc
        have hne : ¬ ((decide (v.cells.size ≠ size) || decide (off + v.cells.size > (⟨zs⟩ : Array Value).size)) = true) := by
          have : (⟨zs⟩ : Array Value).size = zs.length := rfl
          rw [this]; simp; omega
        have e : (v.cells.zipIdx.foldl (fun (cs : Array Value) (x : Value × Nat) => cs.setIfInBounds (off + x.2) x.1) ⟨zs⟩) = ⟨setAt zs off v.cells.toList⟩ := by
          rw [← Array.foldl_toList]
          have := foldl_setAt off v.cells.toList 0 zs
          simpa using this
        simp only [Instr.fill, hp]
        rw [if_neg hne]
        have ih' := ih _ _ h
        rw [← e] at ih'
        exact ih'
      · cases h

def EvL (E : Env) : List (Nat × Operand) → List (Nat × Value) → Prop
  | [], [] => True
  | (i, x) :: r, (j, v) :: s => i = j ∧ ev E x = v ∧ EvL E r s
  | _, _ => False

theorem EvL.map {E : Env} : ∀ {ps : List (Nat × Operand)} {pv : List (Nat × Value)}, EvL E ps pv → ps.map (fun p => (p.1, ev E p.2)) = pv
  | [], [], _ => rfl
  | [], _ :: _, h => h.elim
  | _ :: _, [], h => h.elim
  | (i, x) :: r, (j, v) :: s, h => by
    obtain ⟨h1, h2, h3⟩ := h
    simp [h1, h2, EvL.map h3]

theorem pv_build {T : Nat} {ps : List (Nat × Operand)} {zs cs : List Value} {pl : List (Nat × Nat)} {pv : List (Nat × Value)} {dd : Option Tmp} (hz : zeroC P T = some zs) (hp : placesT P T = some pl) (hv : EvL E ps pv) (hf : fillL (fun i => pl[i]?) zs pv = some cs) :
    PV P ⟨dd, .build T ps.toArray, ty, pos, af, g⟩ E (.agg ⟨cs⟩) := fun w => by
  obtain ⟨z, hz1, hz2⟩ := zeroC_run (P := P) (w := w) hz
  have hm := EvL.map hv
  unfold placesT at hp
  cases hu : P.underlying T with
  | none => rw [hu] at hp; cases hp
  | some u =>
    rw [hu] at hp
    cases u <;> simp only [] at hp <;> try cases hp
    rename_i fs
    have hfs : ∀ (l : List Field) (pl : List (Nat × Nat)), (l.mapM fun f => (P.info? f.type).map fun i => (f.offset, i.size)) = some pl → (l.mapM (fun f => (Prod.mk f.offset <$> sizeOf f.type : Sem (Nat × Nat)))).run P w = .ok pl w := by
      intro l
      induction l with
      | nil => intro pl h; simp at h; subst h; simp
      | cons f r ih =>
        intro pl h
        simp only [List.mapM_cons, Option.bind_eq_bind, Option.bind_eq_some_iff, Option.pure_def, Option.some.injEq] at h
        obtain ⟨x, hx, pl', hpl, rfl⟩ := h
        obtain ⟨i, hi, rfl⟩ := Option.map_eq_some_iff.1 hx
        have ih' := ih pl' hpl
        rw [List.mapM_cons, Sem.run_bind]
        have e1 : (Prod.mk f.offset <$> sizeOf f.type : Sem (Nat × Nat)).run P w = .ok (f.offset, i.size) w := by simp [sizeOf, typeInfo, hi]
        rw [e1, Result.andThen_ok, Sem.run_bind, ih']
        rfl
    have h1 : (fs.mapM (fun f => (Prod.mk f.offset <$> sizeOf f.type : Sem (Nat × Nat)))).run P w = .ok pl.toArray w := by
      rw [Array.mapM_eq_mapM_toList]
      simp [hfs _ _ hp]
    have h2 := fill_eq (fun i => pl[i]?) pv zs cs hf
    have e : (Array.map (fun (p : Nat × Operand) => (p.1, ev E p.2)) ps.toArray).toList = pv := by simpa using hm
    simp [execOp, Instr.build, hz1, hz2, underlying, hu, h1, hm, h2]

/-! calls -/

def callB (P : Program) (f : FuncId) : Bool := match P.funcs[f]? with
  | some fn => !(fn.name == "runtime.NumGoroutine") && fn.body.isSome
  | none => false

theorem D_call {f : Nat} {as : List Operand} {ats : Array TypeId} {vs : List Value} {R1 : Ending → World → Prop} (hg : guardB ds E g = true) (hf : callB P f = true) (ha : as.map (ev E) = vs) (hc : Calls P f vs.toArray w R1)
    (h : ∀ e w1, R1 e w1 → ∃ v, e = .returned v ∧ (anc = false → R w w1) ∧ Dw P n ds R r K (upd E d v) w1) :
    Dw P n ds R ((⟨some d, .call { callee := .value (.func f), args := as.toArray, argTypes := ats }, ty, pos, af, g⟩, .x, anc) :: r) K E w := by
  refine D_x hg fun ok => ?_
  unfold callB at hf
  cases hp : P.funcs[f]? with
  | none => rw [hp] at hf; simp at hf
  | some fn =>
    rw [hp] at hf
    simp only [Bool.and_eq_true, Bool.not_eq_true'] at hf
    obtain ⟨h1, h2⟩ := hf
    have h3 : fn.body ≠ none := by cases hb : fn.body <;> simp [hb] at h2 ⊢
    have h1' : fn.name ≠ "runtime.NumGoroutine" := by simpa using h1
    have hr : (execOp (ev E) ⟨some d, .call { callee := .value (.func f), args := as.toArray, argTypes := ats }, ty, pos, af, g⟩).run P w = .ok (.enter f vs.toArray) w := by
      simp [execOp, resolve, ev, Deferred.ofValue, invoke, callFunc, program, Sem.run, hp, h1', h3, ha]
    unfold Oper.wp
    rw [exec_eq ok, hr]
    simp only [Oper.upon]
    refine Calls.mono hc fun e w1 h1 => ?_
    obtain ⟨v, rfl, hR, hd⟩ := h e w1 h1
    exact ⟨_, act_put _ _ _ _, hR, hd⟩

/-- Returns this; memory as it was, and more. -/
def Pure (w : World) (v : Value) : Ending → World → Prop := fun e w' => e = .returned v ∧ Ext w w'

theorem D_callP {f : Nat} {as : List Operand} {ats : Array TypeId} {vs : List Value} (hg : guardB ds E g = true) (hf : callB P f = true) (hc : Calls P f vs.toArray w (Pure w v)) (ha : as.map (ev E) = vs) (hR : RX R anc)
    (h : ∀ w1, Ext w w1 → Dw P n ds R r K (upd E d v) w1) :
    Dw P n ds R ((⟨some d, .call { callee := .value (.func f), args := as.toArray, argTypes := ats }, ty, pos, af, g⟩, .x, anc) :: r) K E w :=
  D_call hg hf ha hc fun e w1 ⟨he, hx⟩ => ⟨v, he, hR.use hx, h w1 hx⟩

/-- A load where the order is the text's. -/
theorem D_lq (hg : guardB ds E g = true) (hv : LV P ⟨some d, op, ty, pos, af, g⟩ E w v) (h : Dw P n ds (fun a b => a = b) r K (upd E d v) w) : Dw P n ds (fun a b => a = b) ((⟨some d, op, ty, pos, af, g⟩, .l, anc) :: r) K E w :=
  D_l hg (fun w' e => e ▸ hv) h

/-! a function's end -/

theorem ret_one {fn : Func} {t : Nat} {R : Ending → World → Prop} (hr : fn.results = #[.tmp t]) (ht : Nat.blt t n = true) (hv : E t = v) (h : R (.returned v) w) : retPost P fn n R .ret E w := by
  have ht' : t < n := by simpa [Nat.blt_eq] using ht
  refine ⟨v, ?_, h⟩
  simp [results, hr, act, ht', hv]

theorem ret_two {fn : Func} {t s : Nat} {u : Value} {R : Ending → World → Prop} (hr : fn.results = #[.tmp t, .tmp s]) (ht : Nat.blt t n = true) (hs : Nat.blt s n = true) (hv : E t = v) (hu : E s = u) (h : R (.returned (.tuple #[v, u])) w) : retPost P fn n R .ret E w := by
  have ht' : t < n := by simpa [Nat.blt_eq] using ht
  have hs' : s < n := by simpa [Nat.blt_eq] using hs
  refine ⟨.tuple #[v, u], ?_, h⟩
  simp [results, hr, act, ht', hv, hs', hu]

theorem ret_none {fn : Func} {R : Ending → World → Prop} (hr : fn.results = #[]) (h : R (.returned (.tuple #[])) w) : retPost P fn n R .ret E w := by
  refine ⟨.tuple #[], ?_, h⟩
  simp [results, hr]

/-- A struct out of a slot's block, and a second result. -/
theorem ret_cell {fn : Func} {t T b k : Nat} {cs : List Value} {R : Ending → World → Prop} (hr : fn.results = #[.cell t T]) (ht : Nat.blt t n = true) (hv : E t = ptr b 0) (hT : aggN P T = some k) (hl : cs.length = k) (hc : Row w b 0 cs)
    (h : R (.returned (.agg ⟨cs⟩)) w) : retPost P fn n R .ret E w := by
  have ht' : t < n := by simpa [Nat.blt_eq] using ht
  have h1 := run_loadCells (P := P) (w := w) (b := b) (o := 0) cs 0 #[] (fun j v hj => by rw [Nat.add_zero]; exact hc j v hj)
  rw [hl] at h1
  refine ⟨.agg ⟨cs⟩, ?_, h⟩
  simp [results, hr, act, ht', hv, asAddr, loadVar, (aggN_agg hT).1, (aggN_agg hT).2, loadCells, h1]

theorem ret_cell_tmp {fn : Func} {t T b k s : Nat} {u : Value} {cs : List Value} {R : Ending → World → Prop} (hr : fn.results = #[.cell t T, .tmp s]) (ht : Nat.blt t n = true) (hs : Nat.blt s n = true) (hv : E t = ptr b 0) (hT : aggN P T = some k) (hl : cs.length = k) (hc : Row w b 0 cs)
    (hu : E s = u) (h : R (.returned (.tuple #[.agg ⟨cs⟩, u])) w) : retPost P fn n R .ret E w := by
  have ht' : t < n := by simpa [Nat.blt_eq] using ht
  have hs' : s < n := by simpa [Nat.blt_eq] using hs
  have h1 := run_loadCells (P := P) (w := w) (b := b) (o := 0) cs 0 #[] (fun j v hj => by rw [Nat.add_zero]; exact hc j v hj)
  rw [hl] at h1
  refine ⟨.tuple #[.agg ⟨cs⟩, u], ?_, h⟩
  simp [results, hr, act, ht', hs', hv, hu, asAddr, loadVar, (aggN_agg hT).1, (aggN_agg hT).2, loadCells, h1]

theorem norm_ret {fn : Func} {R : Ending → World → Prop} (h : retPost P fn n R .ret E w) : retPost P fn n R .normal E w := h

/-! slots anew; where ways meet -/

/-- Only these slots are known from here on. -/
theorem W_forget {c : Code} {Q : Exit → Env → World → Prop} (l : List (Nat × Value)) (hl : holds l E) (h : ∀ X, W P n c Q (env l X) w) : W P n c Q E w := by
  have := h E
  rwa [env_of_holds hl] at this

/-- What follows is walked once, out of what is said of the frame and the world there. -/
theorem W_cut {x y : Code} {Q : Exit → Env → World → Prop} {G : Type} (sl : G → List (Nat × Value)) (F : G → World → Prop)
    (hx : W P n x (then' (fun E w => ∃ g, holds (sl g) E ∧ F g w) Q) E w) (hy : ∀ (X : Env) (g : G) (w : World), F g w → W P n y Q (env (sl g) X) w) : W P n (.seq x y) Q E w := by
  refine W_seq fun K hK => W_mono hx ?_
  intro e E w h
  cases e <;> first | exact h | skip
  obtain ⟨g, hh, hF⟩ := h
  refine hK _ _ ?_
  have := hy E g w hF
  rwa [env_of_holds hh] at this

theorem W_t {c : Operand} {x y : Code} {Q : Exit → Env → World → Prop} (hc : ev E c = .bool true) (h : W P n x Q E w) : W P n (.cond c x y) Q E w := W_cond hc (fun _ => h) (fun h => by cases h)
theorem W_f {c : Operand} {x y : Code} {Q : Exit → Env → World → Prop} (hc : ev E c = .bool false) (h : W P n y Q E w) : W P n (.cond c x y) Q E w := W_cond hc (fun h => by cases h) (fun _ => h)

end
end Go.Vc
