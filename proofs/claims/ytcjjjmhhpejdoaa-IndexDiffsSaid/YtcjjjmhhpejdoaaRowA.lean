/-
  What rows of this seat share: how cells and numbers are read. Nothing is assumed.
-/
import Derived.Test.YtcjjjmhhpejdoaaRows
import Derived.Test.YtcjjjmhhpejdoaaVcZ
import Derived.Test.YtcjjjmhhpejdoaaSpMem
namespace Go.Proofs.Ytcjjjmhhpejdoaa
open Go.Vc Go.Sp Go.ChangeShapes Go.WideShapes Go.ChangeAt Go.RowKit

theorem own : ownKnob Try.prog.godebug = none := by kernel_rfl
theorem laidOut : laidOutB Try.prog = true := by kernel_rfl

theorem cell_of' {cs : List Value} (h : likeK [.s, .s, .b, .i .i64] cs) : ∃ c : Cell, cs = c.cs ∧ c.key.length ≤ maxLen ∧ c.val.length ≤ maxLen := by
  rcases cs with _ | ⟨a, _ | ⟨b, _ | ⟨c, _ | ⟨d, _ | ⟨e, r⟩⟩⟩⟩⟩
  · exact h.elim
  · exact h.2.elim
  · exact h.2.2.elim
  · exact h.2.2.2.elim
  · obtain ⟨⟨k, rfl, hk⟩, ⟨v, rfl, hv⟩, ⟨d, rfl⟩, ⟨s, rfl, _⟩, _⟩ := h
    exact ⟨⟨k, v, d, s⟩, rfl, hk, hv⟩
  · exact h.2.2.2.2.elim
theorem cell_of {cs : List Value} (h : likeK [.s, .s, .b, .i .i64] cs) : ∃ c : Cell, cs = c.cs := by
  obtain ⟨c, h, _⟩ := cell_of' h
  exact ⟨c, h⟩

section
variable {H : Type} {enc : TypeId × Value → H} {P : Program} {W : World} {base : Nat} {sp : Nat → Bool} {hd : Bool} {e : TypeId}
theorem dec_u32 (he : P.underlying e = some (.int .u32)) : ∀ (n : Nat) (cs : List Value) (y : DataW H × List MemPlace), DataW.trod enc P W base sp hd n e cs = some y → cs.length = 1 → ∃ x : Nat, cs = encU x ∧ x ≤ 4294967295 := fun n cs y h hl => by
  obtain ⟨x, rfl, hw⟩ := dec_int he n cs y h hl
  have h2 := wf_u32 hw
  refine ⟨x.toNat, ?_, by omega⟩
  show [Value.int .u32 x] = [.int .u32 (x.toNat : Int)]
  rw [Int.toNat_of_nonneg h2.1]
theorem dec_cell (he : plainT P e = some [.s, .s, .b, .i .i64]) (hn : P.cellsOf e = 4) : ∀ (n : Nat) (cs : List Value) (y : DataW H × List MemPlace), DataW.trod enc P W base sp hd n e cs = some y → cs.length = 4 → ∃ x : Cell, cs = x.cs ∧ (x.key.length ≤ maxLen ∧ x.val.length ≤ maxLen) := fun n cs y h hl => by
  obtain ⟨c, h, h2⟩ := cell_of' (dec_plain he hn n cs y h hl)
  exact ⟨c, h, h2⟩
end
end Go.Proofs.Ytcjjjmhhpejdoaa
