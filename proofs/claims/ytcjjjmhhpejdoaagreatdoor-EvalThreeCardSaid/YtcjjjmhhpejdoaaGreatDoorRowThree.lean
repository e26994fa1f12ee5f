/-
  EvalThree holds: for every input the law returns true, and all that was there reads as it did. The variables that the row lists hold what it lists.
-/
import Derived.Test.YtcjjjmhhpejdoaaGreatDoorRows
import Derived.Test.YtcjjjmhhpejdoaaGreatDoorCards
import Derived.Test.YtcjjjmhhpejdoaaGreatDoorTie
import Derived.Test.YtcjjjmhhpejdoaaGreatDoorEvC
import Derived.Test.YtcjjjmhhpejdoaaGreatDoorVcX
import Derived.Lay
import Derived.SevenTiedAt
namespace Go.Proofs.YtcjjjmhhpejdoaaGreatDoor.lawEvalThree
open Go.Vc Go.Sp Go.ChangeShapes Go.WideShapes Go.ChangeAt Go.RowKit
set_option linter.unusedVariables false

theorem own : ownKnob Tryz.prog.godebug = none := by kernel_rfl
theorem laidOut : laidOutB Tryz.prog = true := by kernel_rfl

set_option maxRecDepth 100000 in
theorem contract (H : Type) (enc : TypeId × Value → H) (W : World) (base : Nat) (args : Array Value) (ds gs : List (DataW H)) (before : List MemPlace)
    (hval : ∀ (j : Nat) t v, Tryz.f13.params[j]? = some t → args[j]? = some v → Value.okWide Tryz.prog W .any base t v)
    (hW : DataW.Whole enc Tryz.prog Tryz.f13.params.toList Rows.evalThreeSpec.vars false W args.toList ds gs before)
    (hsz : (DataW.weightsEach Tryz.prog (Tryz.f13.params.toList ++ Rows.evalThreeSpec.plain.varTypes Tryz.prog) (ds ++ gs)).all (· ≤ reachBytes) = true) (hgv : GV W) :
    Calls Tryz.prog 13 args W fun e W' => ∃ v, e = .returned v ∧ Rows.evalThreeSpec.post enc Tryz.prog Tryz.f13 false true false false W args v W' := by
  have hW' := hW
  obtain ⟨p, q, hA0, hV, rfl, hfz, hnd⟩ := hW
  have hA : DataW.TrodAll enc Tryz.prog W 0 (fun _ => true) true Tryz.f13.params.toList args.toList ds p := hA0
  rw [Tryz.params13] at hA hval hsz
  obtain ⟨v0, vs0, d0, ds0, p0, q0, hargs, rfl, rfl, h0, r0⟩ := trodAll_cons hA
  obtain ⟨v1, vs1, d1, ds1, p1, q1, rfl, rfl, rfl, h1, r1⟩ := trodAll_cons r0
  obtain ⟨rfl, rfl, rfl⟩ := trodAll_nil r1
  obtain rfl : args = #[v0, v1] := by cases args; simp_all
  obtain ⟨l0, hv0, g0, hl0, hb0⟩ := opens_slice (cenc := fun n : Int => [I n]) (good := fun n => (Lit.int .i64 n).wf = true) (e := 3) (sz := 1) (by kernel_rfl) (by kernel_rfl) (dec_int (by kernel_rfl)) (hval 0 63 v0 rfl rfl) h0
  have hl0' : l0.length ≤ 9223372036854775807 := hl0
  obtain ⟨x1, rfl, g1⟩ := opens_int (k := .i64) (by kernel_rfl) (hval 1 3 v1 rfl rfl) h1
  have g1' := wf_i64 g1
  refine (law_three l0 _ x1 W hv0 hl0).mono fun e W' ⟨he, hx⟩ => ?_
  subst he
  exact ⟨_, rfl, post_true laidOut (by kernel_rfl) rfl (by kernel_rfl) rfl rfl hW' hx⟩

set_option maxRecDepth 100000 in
theorem lifted (os : Os) (started : os.Started) (H : Type) (enc : TypeId × Value → H) :
    ReturnsInHanded {} Tryz.checked os 13 .any (fun w args => (Rows.evalThreeSpec.pre enc Tryz.prog Tryz.f13 Rows.evalThreeRow.domain false w args ∧ laidMetH Tryz.prog Rows.evalThreeRow.laid w) ∧ sizedMet enc Tryz.prog Tryz.f13 (OpenSpec.ofChange Rows.evalThreeSpec) false w args)
      (Rows.evalThreeSpec.post enc Tryz.prog Tryz.f13 false true false false) := by
  refine handed_and_shaped (C := Tryz.checked) (X := fun w _ => laidMetH Tryz.prog Rows.evalThreeRow.laid w) (fun _ _ _ hh h => h.of_heap hh) own started (by kernel_rfl) Tryz.func13
    (ChangeSpec.witness_shaped (enc := enc) (C := Tryz.checked) (os := os) (X := fun w _ => laidMetH Tryz.prog Rows.evalThreeRow.laid w) false (World.laidAll Tryz.prog os Rows.evalThreeRow.laid) #[.slice none 0 0, .int .i64 0] 8 (World.laidAll_os _ _ _)
      (World.shaped_of_ZipB (by kernel_rfl) (by kernel_rfl)) (by kernel_rfl) (by kernel_rfl) (by kernel_rfl)
      (by rw [MakeChecks.laidMetH_plain _ _ _ (by kernel_rfl)]; exact laidMet_laidAll _ (by kernel_rfl) (by kernel_rfl))) ?_
  intro W base args ds gs before hval hW hsz hL hsh
  rw [MakeChecks.laidMetH_plain _ _ _ (by kernel_rfl)] at hL
  exact contract H enc W base args ds gs before hval hW hsz (GV.of_row hsh hL)

theorem named : Tryz.checked.prog.funcNamed Rows.evalThreeRow.func = some 13 := by kernel_rfl
theorem joined : joinedFacts Tryz.checked.prog 13 Tryz.f13 Rows.evalThreeSpec Rows.evalThreeRow = true := by kernel_rfl
theorem inst : Tryz.f13.isInstance Tryz.checked.prog Rows.evalThreeRow.origin Rows.evalThreeRow.targs := of_decide_eq_true (by kernel_rfl)
theorem wrap : Tryz.f13.isWrapper Tryz.checked.prog Rows.evalThreeRow.wrapper Rows.evalThreeRow.mainSum := by unfold Func.isWrapper; first | (rw [if_pos (by decide +kernel)]; kernel_rfl) | (rw [if_neg (by decide +kernel)]; exact ⟨rfl, rfl⟩)
theorem mainF : Tryz.checked.prog.mainIs = some ((true, "45eb52538c1fbc57331eaf83fa546ae7ac80c7a99ae8692fefd3e4238a135d4d").1, (true, "45eb52538c1fbc57331eaf83fa546ae7ac80c7a99ae8692fefd3e4238a135d4d").2.toList) := by kernel_rfl
theorem goesF : false = Rows.evalThreeRow.goesBy Tryz.checked.prog := by kernel_rfl
theorem wfF : Rows.evalThreeRow.wfByText (OpenSpec.ofChange Rows.evalThreeSpec) = true := by kernel_rfl
theorem looksF : true = Tryz.checked.prog.looks [] := by kernel_rfl
theorem plainF : ([63, 3].all fun u => !Tryz.prog.wantsStandIn u) = true := by kernel_rfl

theorem said : Rows.EvalThreeSaid :=
  OpenClaim.holds_of_wide 13 Tryz.f13 rfl rfl rfl rfl rfl rfl rfl ⟨rfl, rfl, rfl, rfl, rfl⟩ rfl rfl rfl rfl rfl named Tryz.func13 joined inst wrap
    (fun os started H enc _ => lifted os started H enc)

theorem holds : Rows.EvalThreeCardSaid :=
  Claim7.holds_tied_plain_at .later [] [.data, .data, .data, .data, .sentinel, .sentinel, .pinned] true (true, "45eb52538c1fbc57331eaf83fa546ae7ac80c7a99ae8692fefd3e4238a135d4d") true said (fun _ h => by cases h) wfF (fun _ h => by cases h) evalThree_row_tie rfl ⟨rfl, rfl⟩ mainF rfl
    (fun f fn hf hfn => by
      obtain rfl : f = 13 := Option.some.inj (Eq.trans named.symm hf) |>.symm
      obtain rfl : fn = Tryz.f13 := (Option.some.inj (Tryz.func13.symm.trans hfn)).symm
      exact ⟨looksF, fun j t ht => by
        rw [Tryz.params13] at ht
        have hm : t ∈ [63, 3] := by simpa using Array.mem_of_getElem? ht
        exact (show Tryz.prog.wantsStandIn t = false by simpa using List.all_eq_true.1 plainF t hm)⟩)
    goesF

end Go.Proofs.YtcjjjmhhpejdoaaGreatDoor.lawEvalThree
