/-
  MemPlays holds: for every input the law returns true, and all that was there reads as it did. No condition.
-/
import Derived.Test.YtodmkkcediofgaaRows
import Derived.Test.YtodmkkcediofgaaMemH
import Derived.Test.YtodmkkcediofgaaRowA
namespace Go.Proofs.Ytodmkkcediofgaa.lawMemPlays
open Go.Vc Go.Sp Go.ChangeShapes Go.WideShapes Go.ChangeAt Go.RowKit
set_option linter.unusedVariables false

theorem contract (H : Type) (enc : TypeId × Value → H) (W : World) (base : Nat) (args : Array Value) (ds gs : List (DataW H)) (before : List MemPlace)
    (hval : ∀ (j : Nat) t v, Try.f4.params[j]? = some t → args[j]? = some v → Value.okWide Try.prog W .any base t v)
    (hW : DataW.Whole enc Try.prog Try.f4.params.toList Rows.memPlaysSpec.vars false W args.toList ds gs before) :
    Calls Try.prog 4 args W fun e W' => ∃ v, e = .returned v ∧ Rows.memPlaysSpec.post enc Try.prog Try.f4 false true false false W args v W' := by
  have hW' := hW
  obtain ⟨p, q, hA0, hV, rfl, hfz, hnd⟩ := hW
  have hA : DataW.TrodAll enc Try.prog W 0 (fun _ => true) true Try.f4.params.toList args.toList ds p := hA0
  rw [Try.params4] at hA hval
  obtain ⟨v0, vs0, d0, ds0, p0, q0, hargs, rfl, rfl, h0, r0⟩ := trodAll_cons hA
  obtain ⟨v1, vs1, d1, ds1, p1, q1, rfl, rfl, rfl, h1, r1⟩ := trodAll_cons r0
  obtain ⟨v2, vs2, d2, ds2, p2, q2, rfl, rfl, rfl, h2, r2⟩ := trodAll_cons r1
  obtain ⟨v3, vs3, d3, ds3, p3, q3, rfl, rfl, rfl, h3, r3⟩ := trodAll_cons r2
  obtain ⟨v4, vs4, d4, ds4, p4, q4, rfl, rfl, rfl, h4, r4⟩ := trodAll_cons r3
  obtain ⟨rfl, rfl, rfl⟩ := trodAll_nil r4
  obtain rfl : args = #[v0, v1, v2, v3, v4] := by cases args; simp_all
  obtain ⟨l0, hv0, g0, hl0⟩ := opens_slice (cenc := encU) (good := fun n => n ≤ 4294967295) (e := 50) (sz := 1) (by kernel_rfl) (by kernel_rfl) (dec_u32 (by kernel_rfl)) (hval 0 32 v0 rfl rfl) h0
  have hl0' : l0.length ≤ 9223372036854775807 := hl0
  obtain ⟨l1, hv1, g1, hl1⟩ := opens_slice (cenc := Cell.cs) (good := fun c => c.key.length ≤ maxLen ∧ c.val.length ≤ maxLen) (e := 28) (sz := 4) (by kernel_rfl) (by kernel_rfl) (dec_cell (by kernel_rfl) (by kernel_rfl)) (hval 1 33 v1 rfl rfl) h1
  have hl1' : l1.length ≤ 9223372036854775807 := hl1
  obtain ⟨x2, rfl, g2⟩ := opens_string (by kernel_rfl) (hval 2 9 v2 rfl rfl) h2
  obtain ⟨x3, rfl, g3⟩ := opens_int (k := .i64) (by kernel_rfl) (hval 3 3 v3 rfl rfl) h3
  obtain ⟨x4, rfl, g4⟩ := opens_string (by kernel_rfl) (hval 4 9 v4 rfl rfl) h4
  refine (law_plays l0 _ l1 _ x2 x3 x4 W hv0 hv1 hl0' hl1').mono fun e W' ⟨he, hx⟩ => ?_
  subst he
  exact ⟨_, rfl, post_true laidOut (by kernel_rfl) rfl (by kernel_rfl) rfl rfl hW' hx⟩

set_option maxRecDepth 100000 in
theorem lifted (os : Os) (started : os.Started) (H : Type) (enc : TypeId × Value → H) :
    ReturnsInHanded {} Try.checked os 4 .any (Rows.memPlaysSpec.pre6 enc Try.prog Try.f4 Rows.memPlaysRow.domain false) (Rows.memPlaysSpec.post enc Try.prog Try.f4 false true false false) := by
  refine returnsInHanded_of_change (C := Try.checked) own started (by kernel_rfl) Try.func4
    (ChangeSpec.witness6 (enc := enc) (C := Try.checked) false ⟨#[], #[.slice none 0 0, .slice none 0 0, .string ⟨#[]⟩, .int .i64 0, .string ⟨#[]⟩], []⟩ 8 (by kernel_rfl) (by kernel_rfl) (by kernel_rfl) (by kernel_rfl)) ?_
  intro W base args ds gs before hval hW hcnd _
  exact contract H enc W base args ds gs before hval hW

theorem holds : Rows.MemPlaysSaid :=
  OpenClaim.holds_of_wide 4 Try.f4 rfl rfl rfl rfl rfl rfl rfl ⟨rfl, rfl, rfl, rfl, rfl⟩ rfl rfl rfl rfl rfl (by kernel_rfl) Try.func4 (by kernel_rfl)
    (of_decide_eq_true (by kernel_rfl)) (by unfold Func.isWrapper; first | (rw [if_pos (by decide +kernel)]; kernel_rfl) | (rw [if_neg (by decide +kernel)]; exact ⟨rfl, rfl⟩))
    (fun os started H enc _ => lifted os started H enc)

end Go.Proofs.Ytodmkkcediofgaa.lawMemPlays
