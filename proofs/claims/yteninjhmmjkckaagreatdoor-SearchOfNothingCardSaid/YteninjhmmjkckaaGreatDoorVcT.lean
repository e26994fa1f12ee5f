/-
  Three results.
-/
import Derived.Test.YteninjhmmjkckaaGreatDoorVcV
namespace Go.Vc
open Go.RowKit
set_option linter.unusedVariables false
section
variable {P : Program} {n : Nat} {E : Env} {w : World} {v : Value}
theorem ret_three {fn : Func} {t s q : Nat} {u x : Value} {R : Ending → World → Prop} (hr : fn.results = #[.tmp t, .tmp s, .tmp q]) (ht : Nat.blt t n = true) (hs : Nat.blt s n = true) (hq : Nat.blt q n = true) (hv : E t = v) (hu : E s = u) (hx : E q = x) (h : R (.returned (.tuple #[v, u, x])) w) : retPost P fn n R .ret E w := by
  have ht' : t < n := by simpa [Nat.blt_eq] using ht
  have hs' : s < n := by simpa [Nat.blt_eq] using hs
  have hq' : q < n := by simpa [Nat.blt_eq] using hq
  refine ⟨.tuple #[v, u, x], ?_, h⟩
  simp [results, hr, act, ht', hv, hs', hu, hq', hx]
theorem rt3 {fn : Func} {t s q : Nat} {u x : Value} {R : Ending → World → Prop} (h : R (.returned (.tuple #[v, u, x])) w) (hr : fn.results = #[.tmp t, .tmp s, .tmp q] := by rfl) (ht : Nat.blt t n = true := by rfl) (hs : Nat.blt s n = true := by rfl) (hq : Nat.blt q n = true := by rfl)
    (hv : E t = v := by conv => lhs; whnf) (hu : E s = u := by conv => lhs; whnf) (hx : E q = x := by conv => lhs; whnf) : retPost P fn n R .ret E w := ret_three hr ht hs hq hv hu hx h
end
end Go.Vc
