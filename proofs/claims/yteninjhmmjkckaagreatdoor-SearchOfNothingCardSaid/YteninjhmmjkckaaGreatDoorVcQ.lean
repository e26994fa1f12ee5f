/-
  A function's value that is called, with captured values.
-/
import Derived.Test.YteninjhmmjkckaaGreatDoorVcV
import Derived.Test.YteninjhmmjkckaaGreatDoorVcI
namespace Go.Vc
open Go.RowKit
set_option linter.unusedSimpArgs false
set_option linter.unusedVariables false

/-- The value of a function that captures values. -/
@[reducible] def fnC (f : Nat) (cs : List Value) : Value := .func (.func f) #[] cs.toArray
section
variable {P : Program} {n : Nat} {ds : List (Option Tmp)} {R : World → World → Prop} {r : List (Oper × Fl × Bool)} {K : Env → World → Prop} {E : Env} {w : World}
variable {d : Nat} {op : Op} {ty : TypeId} {pos : String} {af : Array Edge} {g : Option (Nat × Bool)} {anc : Bool} {v : Value}

theorem D_callC {f t : Nat} {as : List Operand} {ats : Array TypeId} {vs cs : List Value} {R1 : Ending → World → Prop} (hg : guardB ds E g = true) (hv : E t = fnC f cs) (hf : callB P f = true) (ha : as.map (ev E) = vs) (hc : Calls P f (vs ++ cs).toArray w R1)
    (h : ∀ e w1, R1 e w1 → ∃ v, e = .returned v ∧ (anc = false → R w w1) ∧ Dw P n ds R r K (upd E d v) w1) :
    Dw P n ds R ((⟨some d, .call { callee := .value (.tmp t), args := as.toArray, argTypes := ats }, ty, pos, af, g⟩, .x, anc) :: r) K E w := by
  refine D_x hg fun ok => ?_
  unfold callB at hf
  cases hp : P.funcs[f]? with
  | none => rw [hp] at hf; simp at hf
  | some fn =>
    rw [hp] at hf
    simp only [Bool.and_eq_true, Bool.not_eq_true'] at hf
    obtain ⟨h1, h2⟩ := hf
    have h3 : fn.body ≠ none := by cases hb : fn.body <;> simp [hb] at h2 ⊢
    have h1' : fn.name ≠ "runtime.NumGoroutine" := by simpa using h1
    have hr : (execOp (ev E) ⟨some d, .call { callee := .value (.tmp t), args := as.toArray, argTypes := ats }, ty, pos, af, g⟩).run P w = .ok (.enter f (vs ++ cs).toArray) w := by
      simp [execOp, resolve, ev, hv, Deferred.ofValue, invoke, callFunc, program, Sem.run, hp, h1', h3, ha]
    unfold Oper.wp
    rw [exec_eq ok, hr]
    simp only [Oper.upon]
    refine Calls.mono hc fun e w1 h1 => ?_
    obtain ⟨v, rfl, hR, hd⟩ := h e w1 h1
    exact ⟨_, act_put _ _ _ _, hR, hd⟩
theorem D_callCD {S : Nat → Prop} {f t : Nat} {as : List Operand} {ats : Array TypeId} {vs cs : List Value} {F : Value → World → Prop} (hg : guardB ds E g = true) (hv : E t = fnC f cs) (hf : callB P f = true) (hc : Calls P f (vs ++ cs).toArray w (Does S w F)) (ha : as.map (ev E) = vs)
    (hR : anc = true ∨ ∀ w', Mod S w w' → R w w') (h : ∀ v w1, Mod S w w1 → F v w1 → Dw P n ds R r K (upd E d v) w1) :
    Dw P n ds R ((⟨some d, .call { callee := .value (.tmp t), args := as.toArray, argTypes := ats }, ty, pos, af, g⟩, .x, anc) :: r) K E w :=
  D_callC hg hv hf ha hc fun e w1 ⟨v, he, hx, hF⟩ => ⟨v, he, fun e => hR.elim (fun h => by rw [h] at e; cases e) (fun h => h _ hx), h v w1 hx hF⟩
theorem D_callCP {f t : Nat} {as : List Operand} {ats : Array TypeId} {vs cs : List Value} (hg : guardB ds E g = true) (hv : E t = fnC f cs) (hf : callB P f = true) (hc : Calls P f (vs ++ cs).toArray w (Pure w v)) (ha : as.map (ev E) = vs) (hR : RX R anc)
    (h : ∀ w1, Ext w w1 → Dw P n ds R r K (upd E d v) w1) :
    Dw P n ds R ((⟨some d, .call { callee := .value (.tmp t), args := as.toArray, argTypes := ats }, ty, pos, af, g⟩, .x, anc) :: r) K E w :=
  D_callC hg hv hf ha hc fun e w1 ⟨he, hx⟩ => ⟨v, he, hR.use hx, h w1 hx⟩
end
end Go.Vc
