/-
  IndexDiffs holds: for every input the law returns true, and all that was there reads as it did.
-/
import Derived.Test.YtcjjjmhhpejdoaaRows
import Derived.Test.YtcjjjmhhpejdoaaIdxD
import Derived.Test.YtcjjjmhhpejdoaaRowA
namespace Go.Proofs.Ytcjjjmhhpejdoaa.lawIndexDiffs
open Go.Vc Go.Sp Go.ChangeShapes Go.WideShapes Go.ChangeAt Go.RowKit
set_option linter.unusedVariables false

theorem contract (H : Type) (enc : TypeId × Value → H) (W : World) (base : Nat) (args : Array Value) (ds gs : List (DataW H)) (before : List MemPlace)
    (hval : ∀ (j : Nat) t v, Try.f3.params[j]? = some t → args[j]? = some v → Value.okWide Try.prog W .any base t v)
    (hW : DataW.Whole enc Try.prog Try.f3.params.toList Rows.indexDiffsSpec.vars false W args.toList ds gs before) :
    Calls Try.prog 3 args W fun e W' => ∃ v, e = .returned v ∧ Rows.indexDiffsSpec.post enc Try.prog Try.f3 false true false false W args v W' := by
  have hW' := hW
  obtain ⟨p, q, hA0, hV, rfl, hfz, hnd⟩ := hW
  have hA : DataW.TrodAll enc Try.prog W 0 (fun _ => true) true Try.f3.params.toList args.toList ds p := hA0
  rw [Try.params3] at hA hval
  obtain ⟨v0, vs0, d0, ds0, p0, q0, hargs, rfl, rfl, h0, r0⟩ := trodAll_cons hA
  obtain ⟨v1, vs1, d1, ds1, p1, q1, rfl, rfl, rfl, h1, r1⟩ := trodAll_cons r0
  obtain ⟨rfl, rfl, rfl⟩ := trodAll_nil r1
  obtain rfl : args = #[v0, v1] := by cases args; simp_all
  obtain ⟨l0, hv0, g0, hl0, hb0⟩ := opens_slice (cenc := fun s : Str => [S s]) (good := fun s => s.length ≤ maxLen) (e := 9) (sz := 1) (by kernel_rfl) (by kernel_rfl) (dec_string (by kernel_rfl)) (hval 0 22 v0 rfl rfl) h0
  have hl0' : l0.length ≤ 9223372036854775807 := hl0
  obtain ⟨l1, hv1, g1, hl1, hb1⟩ := opens_slice (cenc := fun s : Str => [S s]) (good := fun s => s.length ≤ maxLen) (e := 9) (sz := 1) (by kernel_rfl) (by kernel_rfl) (dec_string (by kernel_rfl)) (hval 1 22 v1 rfl rfl) h1
  have hl1' : l1.length ≤ 9223372036854775807 := hl1
  refine (law_diffs l0 l1 _ _ W hv0 hv1).mono fun e W' ⟨he, hx⟩ => ?_
  subst he
  exact ⟨_, rfl, post_true laidOut (by kernel_rfl) rfl (by kernel_rfl) rfl rfl hW' hx⟩

set_option maxRecDepth 100000 in
theorem lifted (os : Os) (started : os.Started) (H : Type) (enc : TypeId × Value → H) :
    ReturnsInHanded {} Try.checked os 3 .any (Rows.indexDiffsSpec.pre6 enc Try.prog Try.f3 Rows.indexDiffsRow.domain false) (Rows.indexDiffsSpec.post enc Try.prog Try.f3 false true false false) := by
  refine returnsInHanded_of_change (C := Try.checked) own started (by kernel_rfl) Try.func3
    (ChangeSpec.witness6 (enc := enc) (C := Try.checked) false ⟨#[], #[.slice none 0 0, .slice none 0 0], []⟩ 8 (by kernel_rfl) (by kernel_rfl) (by kernel_rfl) (by kernel_rfl)) ?_
  intro W base args ds gs before hval hW hcnd _
  exact contract H enc W base args ds gs before hval hW

theorem holds : Rows.IndexDiffsSaid :=
  OpenClaim.holds_of_wide 3 Try.f3 rfl rfl rfl rfl rfl rfl rfl ⟨rfl, rfl, rfl, rfl, rfl⟩ rfl rfl rfl rfl rfl (by kernel_rfl) Try.func3 (by kernel_rfl)
    (of_decide_eq_true (by kernel_rfl)) (by unfold Func.isWrapper; first | (rw [if_pos (by decide +kernel)]; kernel_rfl) | (rw [if_neg (by decide +kernel)]; exact ⟨rfl, rfl⟩))
    (fun os started H enc _ => lifted os started H enc)

end Go.Proofs.Ytcjjjmhhpejdoaa.lawIndexDiffs
