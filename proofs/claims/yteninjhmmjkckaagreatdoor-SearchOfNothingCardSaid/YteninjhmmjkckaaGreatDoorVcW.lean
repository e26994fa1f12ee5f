/-
  The walk's steps in few words: what is by reckoning alone is found by reckoning. Nothing is assumed.
-/
import Derived.Test.YteninjhmmjkckaaGreatDoorVcN
namespace Go.Vc
open Go.RowKit
set_option linter.unusedSimpArgs false
set_option linter.unusedVariables false

section
variable {P : Program} {n : Nat} {ds : List (Option Tmp)} {R : World → World → Prop} {r : List (Oper × Fl × Bool)} {K : Env → World → Prop} {E : Env} {w : World}
variable {d : Nat} {op : Op} {ty : TypeId} {pos : String} {af : Array Edge} {g : Option (Nat × Bool)} {anc : Bool} {v v' : Value}

theorem dm {x : Operand} (h : Dw P n ds R r K (upd E d v) w) (hg : guardB ds E g = true := by rfl) (hx : ev E x = v := by conv => lhs; whnf) : Dw P n ds R ((⟨some d, .move x, ty, pos, af, g⟩, .p, anc) :: r) K E w := D_mv hg hx h
theorem da {x : Operand} (h : Dw P n ds R r K (upd E d v) w) (hg : guardB ds E g = true := by rfl) (hx : ev E x = v := by conv => lhs; whnf) : Dw P n ds R ((⟨some d, .assign x, ty, pos, af, g⟩, .p, anc) :: r) K E w := D_as hg hx h
theorem dk {f : Fl} (h : Dw P n ds R r K (upd E d undef) w) (hg : guardB ds E g = false := by rfl) : Dw P n ds R ((⟨some d, op, ty, pos, af, g⟩, f, anc) :: r) K E w := D_skip hg h
theorem dp (hv : PV P ⟨some d, op, ty, pos, af, g⟩ E v) (h : Dw P n ds R r K (upd E d v) w) (hg : guardB ds E g = true := by rfl) : Dw P n ds R ((⟨some d, op, ty, pos, af, g⟩, .p, anc) :: r) K E w := D_p hg hv h
theorem dpw (hv : PV P ⟨some d, op, ty, pos, af, g⟩ E v') (h : Dw P n ds R r K (upd E d v) w) (hg : guardB ds E g = true := by rfl) (hn : v' = v := by conv => lhs; whnf) : Dw P n ds R ((⟨some d, op, ty, pos, af, g⟩, .p, anc) :: r) K E w := D_pe hg hv hn h
theorem dq (hv : LV P ⟨some d, op, ty, pos, af, g⟩ E w v) (h : Dw P n ds (fun a b => a = b) r K (upd E d v) w) (hg : guardB ds E g = true := by rfl) : Dw P n ds (fun a b => a = b) ((⟨some d, op, ty, pos, af, g⟩, .l, anc) :: r) K E w := D_lq hg hv h
theorem dn {x : Operand} {T : TypeId} {b : Bool} (h : Dw P n ds R r K (upd E d v) w) (hg : guardB ds E g = true := by rfl) (hx : ev E x = .bool b := by rfl) (hn : Value.bool (!b) = v := by conv => lhs; whnf) : Dw P n ds R ((⟨some d, .unOp .not T x, ty, pos, af, g⟩, .p, anc) :: r) K E w := D_pe hg (pv_not hx) hn h
theorem dk' {c a b : Operand} {t : Bool} {x y : Value} (h : Dw P n ds R r K (upd E d v) w) (hg : guardB ds E g = true := by rfl) (hc : ev E c = .bool t := by rfl) (ha : ev E a = x := by rfl) (hb : ev E b = y := by rfl) (hn : (if t then x else y) = v := by conv => lhs; whnf) : Dw P n ds R ((⟨some d, .pick c a b, ty, pos, af, g⟩, .p, anc) :: r) K E w := D_pe hg (pv_pick hc ha hb) hn h

/-- What an operation is to a walk, by its kind alone. -/
def flOf : Op → Fl
  | .load .. | .lookup .. | .entry .. => .l
  | .move .. | .assign .. | .pick .. | .nilCheck .. | .binOp .. | .unOp .. | .convert .. | .slice .. | .fieldAddr .. | .field .. | .indexAddr .. | .index .. | .extract .. | .build .. | .makeInterface .. | .makeFunc .. | .sliceToArrayPointer .. => .p
  | .call c => (match c.callee with | .builtin .len | .builtin .cap | .builtin .min | .builtin .max => .p | _ => .x)
  | _ => .x
def flsOf : List Oper → List Fl
  | [] => []
  | o :: r => flOf o.op :: flsOf r
theorem flsOf_len : ∀ l : List Oper, (flsOf l).length = l.length
  | [] => rfl
  | o :: r => by simp [flsOf, flsOf_len r]
theorem wr {id : Nat} {l : List Oper} {Q : Exit → Env → World → Prop} (h : Dw P n (l.map (·.dst)) (fun a b => a = b) (mkp l (flsOf l)) (fun E w => Q .normal E w) E w) : W P n (.region id l.toArray false) Q E w :=
  W_reg (flsOf l) (by rw [flsOf_len]; simp) h

theorem ro {fn : Func} {t : Nat} {R : Ending → World → Prop} (h : R (.returned v) w) (hr : fn.results = #[.tmp t] := by rfl) (ht : Nat.blt t n = true := by rfl) (hv : E t = v := by conv => lhs; whnf) : retPost P fn n R .ret E w := ret_one hr ht hv h
theorem rt {fn : Func} {t s : Nat} {u : Value} {R : Ending → World → Prop} (h : R (.returned (.tuple #[v, u])) w) (hr : fn.results = #[.tmp t, .tmp s] := by rfl) (ht : Nat.blt t n = true := by rfl) (hs : Nat.blt s n = true := by rfl) (hv : E t = v := by conv => lhs; whnf) (hu : E s = u := by conv => lhs; whnf) : retPost P fn n R .ret E w := ret_two hr ht hs hv hu h
end
end Go.Vc
