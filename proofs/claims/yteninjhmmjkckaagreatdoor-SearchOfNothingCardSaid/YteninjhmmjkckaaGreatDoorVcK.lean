/-
  A map's literal; four results.
-/
import Derived.Test.YteninjhmmjkckaaGreatDoorVcT
import Derived.Test.YteninjhmmjkckaaGreatDoorVcM
namespace Go.Vc
open Go.RowKit
set_option linter.unusedVariables false
section
variable {P : Program} {n : Nat} {E : Env} {w : World} {v : Value}
theorem rt4 {fn : Func} {t s q z : Nat} {u x y : Value} {R : Ending → World → Prop} (h : R (.returned (.tuple #[v, u, x, y])) w) (hr : fn.results = #[.tmp t, .tmp s, .tmp q, .tmp z] := by rfl) (ht : Nat.blt t n = true := by rfl) (hs : Nat.blt s n = true := by rfl) (hq : Nat.blt q n = true := by rfl) (hz : Nat.blt z n = true := by rfl)
    (hv : E t = v := by conv => lhs; whnf) (hu : E s = u := by conv => lhs; whnf) (hx : E q = x := by conv => lhs; whnf) (hy : E z = y := by conv => lhs; whnf) : retPost P fn n R .ret E w := by
  have ht' : t < n := by simpa [Nat.blt_eq] using ht
  have hs' : s < n := by simpa [Nat.blt_eq] using hs
  have hq' : q < n := by simpa [Nat.blt_eq] using hq
  have hz' : z < n := by simpa [Nat.blt_eq] using hz
  refine ⟨.tuple #[v, u, x, y], ?_, h⟩
  simp [results, hr, act, ht', hv, hs', hu, hq', hx, hz', hy]
end
section
variable {κ α : Type} {P : Program} {N : Nat} {ds : List (Option Tmp)} {R : World → World → Prop} {rs : List (Oper × Fl × Bool)} {K : Env → World → Prop} {E : Env} {w : World} {t k e : TypeId} {kv : κ → Value} {av : α → Value} {ok : κ → Prop} {b n : Nat} {f : κ → Option α}
variable {d : Nat} {op : Op} {ty : TypeId} {pos : String} {af : Array Edge} {g : Option (Nat × Bool)} {anc : Bool} {v : Value}
theorem D_insert {m x y : Operand} (M : MapK P t k e kv av ok) {kx : κ} {a : α} (hg : guardB ds E g = true) (hm : ev E m = .map (some b)) (hx : ev E x = kv kx) (hy : ev E y = av a) (hmap : MapAt P k kv av w b n f) (hok : ok kx) (hn : n < maxLen)
    (hR : anc = true ∨ ∀ w', Mod (oneB b) w w' → R w w') (h : ∀ w1, Mod (oneB b) w w1 → w1.heap.size = w.heap.size → MapAt P k kv av w1 b (n + 1) (putF f kx a) → Dw P N ds R rs K E w1) :
    Dw P N ds R ((⟨none, .insert t m x y, ty, pos, af, g⟩, .x, anc) :: rs) K E w := by
  obtain ⟨w', hr, h1, h2, h3⟩ := hmap.update M hn hok a
  refine D_xs (w' := w') hg ?_ (fun e => hR.elim (fun h => by rw [h] at e; cases e) (fun h => h _ h2)) (h _ h2 h3 h1)
  simp [execOp, hm, hx, hy, hr]
end
end Go.Vc
