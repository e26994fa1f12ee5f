/-
  MemTurns holds: for every input of bulk at most 1048576 the law returns true, and all that was there reads as it did.
-/
import Derived.Test.YtodmkkcediofgaaRows
import Derived.Test.YtodmkkcediofgaaMemI
import Derived.Test.YtodmkkcediofgaaRowA
import Derived.Test.YtodmkkcediofgaaBulk
namespace Go.Proofs.Ytodmkkcediofgaa.lawMemTurns
open Go.Vc Go.Sp Go.ChangeShapes Go.WideShapes Go.ChangeAt Go.RowKit
set_option linter.unusedVariables false

theorem contract (H : Type) (enc : TypeId × Value → H) (W : World) (base : Nat) (args : Array Value) (ds gs : List (DataW H)) (before : List MemPlace)
    (hval : ∀ (j : Nat) t v, Try.f5.params[j]? = some t → args[j]? = some v → Value.okWide Try.prog W .any base t v)
    (hW : DataW.Whole enc Try.prog Try.f5.params.toList Rows.memTurnsSpec.vars false W args.toList ds gs before)
    (hk : Rows.uptoSmall H (ds ++ gs) = true) :
    Calls Try.prog 5 args W fun e W' => ∃ v, e = .returned v ∧ Rows.memTurnsSpec.post enc Try.prog Try.f5 false true false false W args v W' := by
  have hW' := hW
  obtain ⟨p, q, hA0, hV, rfl, hfz, hnd⟩ := hW
  have hA : DataW.TrodAll enc Try.prog W 0 (fun _ => true) true Try.f5.params.toList args.toList ds p := hA0
  rw [Try.params5] at hA hval
  obtain ⟨v0, vs0, d0, ds0, p0, q0, hargs, rfl, rfl, h0, r0⟩ := trodAll_cons hA
  obtain ⟨v1, vs1, d1, ds1, p1, q1, rfl, rfl, rfl, h1, r1⟩ := trodAll_cons r0
  obtain ⟨v2, vs2, d2, ds2, p2, q2, rfl, rfl, rfl, h2, r2⟩ := trodAll_cons r1
  obtain ⟨rfl, rfl, rfl⟩ := trodAll_nil r2
  obtain rfl : args = #[v0, v1, v2] := by cases args; simp_all
  obtain ⟨l0, hv0, g0, hl0, hb0⟩ := opens_slice (cenc := encU) (good := fun n => n ≤ 4294967295) (e := 50) (sz := 1) (by kernel_rfl) (by kernel_rfl) (dec_u32 (by kernel_rfl)) (hval 0 32 v0 rfl rfl) h0
  have hl0' : l0.length ≤ 9223372036854775807 := hl0
  obtain ⟨l1, hv1, g1, hl1, hb1⟩ := opens_slice (cenc := encU) (good := fun n => n ≤ 4294967295) (e := 50) (sz := 1) (by kernel_rfl) (by kernel_rfl) (dec_u32 (by kernel_rfl)) (hval 1 32 v1 rfl rfl) h1
  have hl1' : l1.length ≤ 9223372036854775807 := hl1
  obtain ⟨l2, hv2, g2, hl2, hb2⟩ := opens_slice (cenc := Cell.cs) (good := fun c => c.key.length ≤ maxLen ∧ c.val.length ≤ maxLen) (e := 28) (sz := 4) (by kernel_rfl) (by kernel_rfl) (dec_cell (by kernel_rfl) (by kernel_rfl)) (hval 2 33 v2 rfl rfl) h2
  have hl2' : l2.length ≤ 9223372036854775807 := hl2
  have hbk := bulks.bound hk
  simp only [List.cons_append, List.nil_append, Rows.uptoBulkAll] at hbk
  have hl0' : l0.length ≤ 1048576 := by
    rcases hb0 with h | ⟨el, sp', e, h⟩
    · omega
    · rw [e] at hbk; have := bulks.slice_le el sp'; omega
  have hl1' : l1.length ≤ 1048576 := by
    rcases hb1 with h | ⟨el, sp', e, h⟩
    · omega
    · rw [e] at hbk; have := bulks.slice_le el sp'; omega
  have hl2' : l2.length ≤ 1048576 := by
    rcases hb2 with h | ⟨el, sp', e, h⟩
    · omega
    · rw [e] at hbk; have := bulks.slice_le el sp'; omega
  refine (law_turns l0 _ l1 _ l2 _ W hv0 hv1 hv2 hl0' hl1' hl2').mono fun e W' ⟨he, hx⟩ => ?_
  subst he
  exact ⟨_, rfl, post_true laidOut (by kernel_rfl) rfl (by kernel_rfl) rfl rfl hW' hx⟩

set_option maxRecDepth 100000 in
theorem lifted (os : Os) (started : os.Started) (H : Type) (enc : TypeId × Value → H) (F : Stop.Interp) :
    ReturnsInHanded {} Try.checked os 5 .any ((Rows.OpenSpec.upto Rows.memTurnsSpec).pre6 enc Try.prog Try.f5 Rows.memTurnsUptoRow.domain false) (((Rows.OpenSpec.upto Rows.memTurnsSpec).at F).post enc Try.prog Try.f5 false true false false) := by
  refine returnsInHanded_of_cond (C := Try.checked) (s := Rows.OpenSpec.upto Rows.memTurnsSpec) (k := Rows.uptoSmall) rfl own started (by kernel_rfl) Try.func5
    (OpenSpec.witness (enc := enc) (C := Try.checked) (s := Rows.OpenSpec.upto Rows.memTurnsSpec) (k := Rows.uptoSmall) rfl false ⟨#[], #[.slice none 0 0, .slice none 0 0, .slice none 0 0], []⟩ 8 (by kernel_rfl) (by kernel_rfl) (by kernel_rfl)
      (x := ([.nil, .nil, .nil], [], [])) (by kernel_rfl) rfl (by kernel_rfl)) ?_
  intro W base args ds gs before hval hW _ hk _
  exact contract H enc W base args ds gs before hval hW hk

theorem holds : Rows.MemTurnsUptoSaid :=
  OpenClaim.holds_of_cond 5 Try.f5 rfl rfl rfl rfl rfl rfl rfl ⟨rfl, rfl, rfl, rfl, rfl⟩ rfl rfl rfl rfl rfl (by kernel_rfl) Try.func5 (by kernel_rfl)
    (of_decide_eq_true (by kernel_rfl)) (by unfold Func.isWrapper; first | (rw [if_pos (by decide +kernel)]; kernel_rfl) | (rw [if_neg (by decide +kernel)]; exact ⟨rfl, rfl⟩))
    (fun os started H enc _ F => lifted os started H enc F)

end Go.Proofs.Ytodmkkcediofgaa.lawMemTurns
