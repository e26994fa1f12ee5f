/-
  Walks.
-/
import Derived.Test.YtdagdhjheibgnaaGreatDoorChecked
import Derived.Test.YtdagdhjheibgnaaGreatDoorSpMem
import Derived.KernelRfl
import Derived.Test.YtdagdhjheibgnaaGreatDoorSpRep
import Derived.Test.YtdagdhjheibgnaaGreatDoorVcY
import Derived.Test.YtdagdhjheibgnaaGreatDoorVcN
import Derived.Test.YtdagdhjheibgnaaGreatDoorShelf
namespace Go.Proofs.YtdagdhjheibgnaaGreatDoor
open Go.Vc Go.Sp
attribute [local irreducible] W XW Dw DwT
set_option linter.unusedVariables false
set_option linter.unusedSimpArgs false

/-- The library's own variables that are looked into. -/
structure GV (w : World) : Prop where
  ml : ∃ m, w.cell? ⟨Tryz.lays155_ren.g 1, 0, none⟩ = some (.int .i64 m)
theorem GV.mod {S : Nat → Prop} {w w' : World} (h : GV w) (x : Vc.Mod S w w') (hS : ∀ k, k < 40 → ¬ S k) : GV w' := by
  obtain ⟨m, hm⟩ := h.ml
  exact ⟨m, x.cell hm (hS _ (by decide))⟩
theorem GV.of_row {L : List (String × DataW Unit)} {w : World} (hsh : w.ShapedOpen Tryz.prog) (_ : laidMet Tryz.prog L w) : GV w :=
  ⟨cell_of_shapedOpen_int (t := 3) (zero := #[.int .i64 0]) hsh (Nat.le_of_ble_eq_true rfl) (by kernel_rfl) (by kernel_rfl) (by kernel_rfl) (by kernel_rfl) (by kernel_rfl)⟩
theorem GV.ext {w w' : World} (h : GV w) (x : Ext w w') : GV w' := h.mod x (fun _ _ h => h)
theorem replaceAll_w (s : Str) (c : UInt8) (new : Str) (w : World) (hg : GV w) (hne : new ≠ [c]) (hs : s.length ≤ 1000000) (hn : new.length ≤ 2) :
    Calls Tryz.prog 78 [S s, S [c], S new].toArray w (Pure w (S (repl c new s))) := by
  obtain ⟨m, hm⟩ := hg.ml
  have h1 : Lib.countB ⟨⟨s⟩⟩ ⟨⟨[c]⟩⟩ ≤ s.length := Lib.countB_le ⟨⟨[c]⟩⟩ (Nat.le_refl _) _ ⟨⟨s⟩⟩ (Nat.le_refl _)
  refine (Tryz.strings_ReplaceAll ⟨⟨s⟩⟩ ⟨⟨[c]⟩⟩ ⟨⟨new⟩⟩ m w ?_ hm (Nat.le_refl _) ?_).mono ?_
  · show s.length < _; omega
  · show s.length + _ * new.length ≤ _
    have h2 : Lib.countB ⟨⟨s⟩⟩ ⟨⟨[c]⟩⟩ * new.length ≤ 1000000 * 2 := Nat.mul_le_mul (by omega) hn
    omega
  · rintro e w' ⟨rfl, hb⟩
    refine ⟨?_, Ext.of_below hb⟩
    rw [show (⟨⟨s⟩⟩ : ByteArray).data.toList = s from rfl, show (⟨⟨[c]⟩⟩ : ByteArray).data.toList = [c] from rfl, show (⟨⟨new⟩⟩ : ByteArray).data.toList = new from rfl, replaceAll_eq c new hne]


end Go.Proofs.YtdagdhjheibgnaaGreatDoor
