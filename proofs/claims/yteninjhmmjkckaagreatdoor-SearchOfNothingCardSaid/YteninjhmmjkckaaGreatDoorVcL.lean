/-
  Maps with keys of whatever kind; values that are pointers; values of functions that are bound, called.
-/
import Derived.Test.YteninjhmmjkckaaGreatDoorVcQ
namespace Go.Vc
open Go.RowKit Go.Maps
set_option linter.unusedSimpArgs false
set_option linter.unusedVariables false

/-- A pointer that may be nil. -/
def pO : Option Nat → Value
  | none => .pointer none
  | some b => ptr b 0
theorem pO_inj : ∀ a b, pO a = pO b → a = b
  | none, none, _ => rfl
  | none, some _, h => by simp [pO] at h
  | some _, none, h => by simp [pO] at h
  | some a, some b, h => by
    have : a = b := by simpa [pO] using h
    rw [this]

/-- A key of whatever kind. -/
def AnyK (P : Program) (k : TypeId) : Type := {v : Value // ∃ l, keyOf P k v = some l}
theorem mapAny {P : Program} {α : Type} {t k e : TypeId} {av : α → Value} (hu : P.underlying t = some (.map k e)) (hk : Keyed P k) (ha : ∀ a b, av a = av b → a = b) : MapK P t k e (fun x : AnyK P k => x.1) av (fun _ => True) :=
  ⟨hu, hk, fun x _ => x.2, fun v l h => ⟨⟨v, l, h⟩, rfl, trivial⟩, fun x y h => Subtype.ext h, ha⟩
/-- Keys of a type that may be a key, however deep. -/
theorem deepK {P : Program} {k : TypeId} (hl : laidOutB P = true) (hrow : Nat.blt k P.types.size = true) (hka : P.keyTypeAt 2 k = true) (hwide : (match P.underlying k with | some (.array _ _) | some (.struct _) => true | _ => false) = true) : Keyed P k :=
  Keyed.of_law (deep_law_laid hl (m := 2) (by omega) (by simpa [Nat.blt_eq] using hrow) hka hwide)

/-- Block b is a map of nothing. -/
def EmpM (w : World) (b : Nat) : Prop := w.heap[b]? = some (.map #[] 0)
theorem EmpM.lt {w : World} {b : Nat} (h : EmpM w b) : b < w.heap.size := (Array.getElem?_eq_some_iff.1 h).1
theorem EmpM.mod {S : Nat → Prop} {w w' : World} {b : Nat} (h : EmpM w b) (x : Mod S w w') (hS : ¬ S b) : EmpM w' b := (x.block b h.lt hS).trans h
theorem EmpM.ext {w w' : World} {b : Nat} (h : EmpM w b) (x : Ext w w') : EmpM w' b := h.mod x (fun h => h)
theorem EmpM.at {P : Program} {κ α : Type} {k : TypeId} {kv : κ → Value} {av : α → Value} {w : World} {b : Nat} (h : EmpM w b) : MapAt P k kv av w b 0 (fun _ => none) :=
  ⟨.map [], ⟨#[], 0, h, ⟨by simp, MapKept.stamped_empty 0, by simp⟩, Nat.le_refl _, rfl⟩, fun x l hl z => rfl⟩
/-- A map of nothing, or none. -/
def EmpV (w : World) (v : Value) : Prop := v = .map none ∨ ∃ b, v = .map (some b) ∧ EmpM w b
theorem EmpV.ext {w w' : World} {v : Value} (h : EmpV w v) (x : Ext w w') : EmpV w' v := h.imp id fun ⟨b, e, hb⟩ => ⟨b, e, hb.ext x⟩
theorem EmpM.val {w : World} {b : Nat} (h : EmpM w b) : EmpV w (.map (some b)) := .inr ⟨b, rfl, h⟩
theorem EmpV.lt {w : World} {v : Value} (h : EmpV w v) {b : Nat} (e : v = .map (some b)) : b < w.heap.size := by
  rcases h with rfl | ⟨b2, rfl, h⟩
  · cases e
  · cases e; exact h.lt
theorem emp_cells {w : World} {v : Value} (h : EmpV w v) : v.cells = ⟨[v]⟩ := by
  rcases h with rfl | ⟨b, rfl, _⟩ <;> rfl
/-- A range over nothing is under way. -/
def IterE (w : World) (r : Nat) : Prop := ∃ m c a, w.heap[r]? = some (.mapIter m c #[] a) ∧ (m = none ∨ ∃ b, m = some b ∧ EmpM w b)
theorem IterE.ext {w w' : World} {r : Nat} (h : IterE w r) (x : Ext w w') : IterE w' r := by
  obtain ⟨m, c, a, h1, h2⟩ := h
  exact ⟨m, c, a, (x.block r (Array.getElem?_eq_some_iff.1 h1).1 (fun h => h)).trans h1, h2.imp id fun ⟨b, e, hb⟩ => ⟨b, e, hb.ext x⟩⟩
theorem IterE.lt {w : World} {r : Nat} (h : IterE w r) : r < w.heap.size := by
  obtain ⟨_, _, _, h1, _⟩ := h
  exact (Array.getElem?_eq_some_iff.1 h1).1

/-- The value of a function that is bound to values. -/
@[reducible] def fnB (f : Nat) (bs : List Value) : Value := .func (.func f) bs.toArray #[]
section
variable {P : Program} {n : Nat} {ds : List (Option Tmp)} {R : World → World → Prop} {r : List (Oper × Fl × Bool)} {K : Env → World → Prop} {E : Env} {w : World}
variable {d : Nat} {op : Op} {ty : TypeId} {pos : String} {af : Array Edge} {g : Option (Nat × Bool)} {anc : Bool} {v : Value}

theorem pv_makeFuncB {dd : Option Tmp} {f : Nat} {bs : List Operand} {vs : List Value} (hc : bs.map (ev E) = vs) : PV P ⟨dd, .makeFunc (.func f) bs.toArray #[], ty, pos, af, g⟩ E (.func (.func f) vs.toArray #[]) := fun w => by
  simp [execOp, hc]
  rfl
theorem pv_idx80 {dd : Option Tmp} {x y : Operand} {T : TypeId} {a : Str} {c : UInt8} (hT : isStr P T = true) (hx : ev E x = S a) (hy : ev E y = .int .u8 0) (hi : a[0]? = some c) : PV P ⟨dd, .index T x y, ty, pos, af, g⟩ E (.int .u8 c.toNat) := fun w => by
  have hT' : P.underlying T = some .string := by
    unfold isStr at hT; split at hT <;> first | assumption | cases hT
  have e : (⟨⟨a⟩⟩ : ByteArray)[(0 : Int).toNat]? = some c := by
    have hlt : 0 < a.length := (List.getElem?_eq_some_iff.1 hi).1
    show (⟨⟨a⟩⟩ : ByteArray)[0]? = some c
    rw [getElem?_pos _ 0 hlt]
    exact hi ▸ (by rw [List.getElem?_eq_getElem hlt]; rfl)
  have e2 : (⟨⟨a⟩⟩ : ByteArray)[0]? = some c := by simpa using e
  simp [execOp, Instr.index, asIntOf, hx, hy, underlying, hT', e2]
theorem pv_capN {dd : Option Tmp} {x : Operand} {T e k : Nat} (hT : slElem P T = some (e, k)) (hx : ev E x = .slice none 0 0) : PV P ⟨dd, .call { callee := .builtin .cap, args := #[x], argTypes := #[T] }, ty, pos, af, g⟩ E (I 0) := fun w => by
  obtain ⟨hu, _⟩ := slElem_under hT
  simp [execOp, resolve, invoke, builtin, Builtin.cap_, underlying, hu, hx, goInt]

theorem D_callB {f t : Nat} {as : List Operand} {ats : Array TypeId} {vs bs : List Value} {R1 : Ending → World → Prop} (hg : guardB ds E g = true) (hv : E t = fnB f bs) (hf : callB P f = true) (ha : as.map (ev E) = vs) (hc : Calls P f (bs ++ vs).toArray w R1)
    (h : ∀ e w1, R1 e w1 → ∃ v, e = .returned v ∧ (anc = false → R w w1) ∧ Dw P n ds R r K (upd E d v) w1) :
    Dw P n ds R ((⟨some d, .call { callee := .value (.tmp t), args := as.toArray, argTypes := ats }, ty, pos, af, g⟩, .x, anc) :: r) K E w := by
  refine D_x hg fun ok => ?_
  unfold callB at hf
  cases hp : P.funcs[f]? with
  | none => rw [hp] at hf; simp at hf
  | some fn =>
    rw [hp] at hf
    simp only [Bool.and_eq_true, Bool.not_eq_true'] at hf
    obtain ⟨h1, h2⟩ := hf
    have h3 : fn.body ≠ none := by cases hb : fn.body <;> simp [hb] at h2 ⊢
    have h1' : fn.name ≠ "runtime.NumGoroutine" := by simpa using h1
    have hr : (execOp (ev E) ⟨some d, .call { callee := .value (.tmp t), args := as.toArray, argTypes := ats }, ty, pos, af, g⟩).run P w = .ok (.enter f (bs ++ vs).toArray) w := by
      simp [execOp, resolve, ev, hv, Deferred.ofValue, invoke, callFunc, program, Sem.run, hp, h1', h3, ha]
    unfold Oper.wp
    rw [exec_eq ok, hr]
    simp only [Oper.upon]
    refine Calls.mono hc fun e w1 h1 => ?_
    obtain ⟨v, rfl, hR, hd⟩ := h e w1 h1
    exact ⟨_, act_put _ _ _ _, hR, hd⟩
theorem D_callBP {f t : Nat} {as : List Operand} {ats : Array TypeId} {vs bs : List Value} (hg : guardB ds E g = true) (hv : E t = fnB f bs) (hf : callB P f = true) (hc : Calls P f (bs ++ vs).toArray w (Pure w v)) (ha : as.map (ev E) = vs) (hR : RX R anc)
    (h : ∀ w1, Ext w w1 → Dw P n ds R r K (upd E d v) w1) :
    Dw P n ds R ((⟨some d, .call { callee := .value (.tmp t), args := as.toArray, argTypes := ats }, ty, pos, af, g⟩, .x, anc) :: r) K E w :=
  D_callB hg hv hf ha hc fun e w1 ⟨he, hx⟩ => ⟨v, he, hR.use hx, h w1 hx⟩

theorem D_makeMapE {t : TypeId} (hg : guardB ds E g = true) (hR : RX R anc)
    (h : ∀ b w1, b = w.heap.size → Ext w w1 → EmpM w1 b → Dw P n ds R r K (upd E d (.map (some b))) w1) : Dw P n ds R ((⟨some d, .makeMap t none, ty, pos, af, g⟩, .x, anc) :: r) K E w := by
  refine D_xv (v := .map (some w.heap.size)) (w' := w.alloc (.map #[] 0)) hg ?_ (hR.use (Ext.alloc _ _)) (h _ _ rfl (Ext.alloc _ _) (World.alloc_heap_new w _))
  have e1 : (Instr.makeMap t none).run P w = .ok (.map (some w.heap.size)) (w.alloc (.map #[] 0)) := run_makeMap t w
  simp [execOp, e1]
def isMapB (P : Program) (t : TypeId) : Bool := match P.underlying t with
  | some (.map _ _) => true
  | _ => false
theorem D_rangeE {t : TypeId} {m : Operand} {mv : Value} (hb : isMapB P t = true) (hg : guardB ds E g = true) (hm : ev E m = mv) (hv : EmpV w mv) (hR : RX R anc)
    (h : ∀ q w1, q = w.heap.size → Ext w w1 → IterE w1 q → Dw P n ds R r K (upd E d (ptr q 0)) w1) :
    Dw P n ds R ((⟨some d, .range t m, ty, pos, af, g⟩, .x, anc) :: r) K E w := by
  obtain ⟨k, e, hu⟩ : ∃ k e, P.underlying t = some (.map k e) := by
    unfold isMapB at hb
    split at hb
    · exact ⟨_, _, by assumption⟩
    · cases hb
  rcases hv with rfl | ⟨b, rfl, hb⟩
  · refine D_xv (w' := w.alloc (.mapIter none 0 #[] 0)) (v := ptr w.heap.size 0) hg ?_ (hR.use (Ext.alloc _ _)) (h _ _ rfl (Ext.alloc _ _) ⟨none, 0, 0, World.alloc_heap_new w _, .inl rfl⟩)
    simp [execOp, hm, run_range_nilMap w t k e hu]
  · refine D_xv (w' := w.alloc (.mapIter (some b) 0 #[] 0)) (v := ptr w.heap.size 0) hg ?_ (hR.use (Ext.alloc _ _)) (h _ _ rfl (Ext.alloc _ _) ⟨some b, 0, 0, World.alloc_heap_new w _, .inr ⟨b, rfl, hb.ext (Ext.alloc _ _)⟩⟩)
    simp [execOp, hm, run_range_map w t k e b #[] 0 hu hb]
theorem run_nextE {q : Nat} (hi : IterE w q) : (Instr.next (ptr q 0) false ty).run P w = .ok (.tuple #[.bool false]) w := by
  obtain ⟨m, c, a, h1, h2⟩ := hi
  rcases h2 with rfl | ⟨b, rfl, hb⟩
  · simp only [Instr.next, getObj, Sem.run_bind, Sem.run, h1, Result.andThen]
    rfl
  · unfold EmpM at hb
    simp [Instr.next, getObj, Sem.run_bind, Sem.run, h1, hb, Result.andThen, choose, Question.forced]
theorem D_nextE {it : Operand} {q : Nat} (hg : guardB ds E g = true) (hit : ev E it = ptr q 0) (hi : IterE w q) (hR : RX R anc) (h : Dw P n ds R r K (upd E d (.tuple #[.bool false])) w) :
    Dw P n ds R ((⟨some d, .next it false, ty, pos, af, g⟩, .x, anc) :: r) K E w := by
  refine D_xv (w' := w) (v := .tuple #[.bool false]) hg ?_ (hR.use (Ext.refl _)) h
  simp [execOp, hit, run_nextE hi]
end
end Go.Vc
