/-
  SearchOfNothing holds: for every input the law returns true, and all that was there reads as it did. The variables that the row lists hold what it lists.
-/
import Derived.Test.YteninjhmmjkckaaGreatDoorRows
import Derived.Test.YteninjhmmjkckaaGreatDoorRowNothingI
import Derived.Test.YteninjhmmjkckaaGreatDoorRowNothingJ
import Derived.Test.YteninjhmmjkckaaGreatDoorCards
import Derived.Test.YteninjhmmjkckaaGreatDoorTie
import Derived.Test.YteninjhmmjkckaaGreatDoorSoB
import Derived.Test.YteninjhmmjkckaaGreatDoorVcX
import Derived.Lay
import Derived.SevenTiedAt
import Derived.Test.YteninjhmmjkckaaGreatDoorEntG
namespace Go.Proofs.YteninjhmmjkckaaGreatDoor.lawSearchOfNothing
open Go.Vc Go.Sp Go.ChangeShapes Go.WideShapes Go.ChangeAt Go.RowKit
set_option linter.unusedVariables false

theorem own : ownKnob Tryz.prog.godebug = none := by kernel_rfl
theorem laidOut : laidOutB Tryz.prog = true := by kernel_rfl

set_option maxRecDepth 100000 in
theorem contract (H : Type) (enc : TypeId × Value → H) (W : World) (base : Nat) (args : Array Value) (ds gs : List (DataW H)) (before : List MemPlace)
    (hval : ∀ (j : Nat) t v, Tryz.f3.params[j]? = some t → args[j]? = some v → Value.okWide Tryz.prog W .any base t v)
    (hW : DataW.Whole enc Tryz.prog Tryz.f3.params.toList Rows.searchOfNothingSpec.vars false W args.toList ds gs before)
    (hsz : (DataW.weightsEach Tryz.prog (Tryz.f3.params.toList ++ Rows.searchOfNothingSpec.plain.varTypes Tryz.prog) (ds ++ gs)).all (· ≤ reachBytes) = true) (hgv : GV W) :
    Calls Tryz.prog 3 args W fun e W' => ∃ v, e = .returned v ∧ Rows.searchOfNothingSpec.post enc Tryz.prog Tryz.f3 false true false false W args v W' := by
  have hW' := hW
  obtain ⟨p, q, hA0, hV, rfl, hfz, hnd⟩ := hW
  have hA : DataW.TrodAll enc Tryz.prog W 0 (fun _ => true) true Tryz.f3.params.toList args.toList ds p := hA0
  rw [Tryz.params3] at hA hval hsz
  obtain ⟨v0, vs0, d0, ds0, p0, q0, hargs, rfl, rfl, h0, r0⟩ := trodAll_cons hA
  obtain ⟨v1, vs1, d1, ds1, p1, q1, rfl, rfl, rfl, h1, r1⟩ := trodAll_cons r0
  obtain ⟨rfl, rfl, rfl⟩ := trodAll_nil r1
  obtain rfl : args = #[v0, v1] := by cases args; simp_all
  obtain ⟨x0, rfl, g0⟩ := opens_int (k := .i64) (by kernel_rfl) (hval 0 3 v0 rfl rfl) h0
  have g0' := wf_i64 g0
  obtain ⟨fn1, fk1, ft1, fv1, fsu1, fki1, fs1, fc1, rfl, hf1, hk1⟩ := opens_filter Tryz.underlying25 (by kernel_rfl) (by kernel_rfl) Tryz.underlying3 Tryz.underlying9 Tryz.underlying9 Tryz.underlying22 Tryz.underlying9 (by kernel_rfl) Tryz.underlying23 (Nat.le_of_ble_eq_true (by kernel_rfl)) (Nat.le_of_ble_eq_true (by kernel_rfl)) (hval 1 25 v1 rfl rfl) h1 hsz (j := 1) rfl rfl
  refine (law_nothing x0 fn1 _ _ W hf1 hk1 (FRep.one hf1)).mono fun e W' ⟨he, hx⟩ => ?_
  subst he
  exact ⟨_, rfl, post_true laidOut (by kernel_rfl) rfl (by kernel_rfl) rfl rfl hW' hx⟩

set_option maxRecDepth 100000 in
theorem lifted (os : Os) (started : os.Started) (H : Type) (enc : TypeId × Value → H) :
    ReturnsInHanded {} Tryz.checked os 3 .any (fun w args => (Rows.searchOfNothingSpec.pre enc Tryz.prog Tryz.f3 Rows.searchOfNothingRow.domain false w args ∧ laidMetH Tryz.prog Rows.searchOfNothingRow.laid w) ∧ sizedMet enc Tryz.prog Tryz.f3 (OpenSpec.ofChange Rows.searchOfNothingSpec) false w args)
      (Rows.searchOfNothingSpec.post enc Tryz.prog Tryz.f3 false true false false) := by
  refine handed_and_shaped (C := Tryz.checked) (X := fun w _ => laidMetH Tryz.prog Rows.searchOfNothingRow.laid w) (fun _ _ _ hh h => h.of_heap hh) own started (by kernel_rfl) Tryz.func3
    (ChangeSpec.witness_shaped (enc := enc) (C := Tryz.checked) (os := os) (X := fun w _ => laidMetH Tryz.prog Rows.searchOfNothingRow.laid w) false (World.laidAll Tryz.prog os Rows.searchOfNothingRow.laid) #[.int .i64 0, .agg #[.int .i64 0, .string ⟨#[]⟩, .string ⟨#[]⟩, .slice none 0 0, .slice none 0 0]] 8 (World.laidAll_os _ _ _)
      (World.shaped_of_ZipB (by kernel_rfl) (by kernel_rfl)) (by kernel_rfl) (by kernel_rfl) (by kernel_rfl)
      (by rw [MakeChecks.laidMetH_plain _ _ _ (by kernel_rfl)]; exact laidMet_laidAll _ (by kernel_rfl) (by kernel_rfl))) ?_
  intro W base args ds gs before hval hW hsz hL hsh
  rw [MakeChecks.laidMetH_plain _ _ _ (by kernel_rfl)] at hL
  exact contract H enc W base args ds gs before hval hW hsz (GV.of_row hsh hL)

theorem named : Tryz.checked.prog.funcNamed Rows.searchOfNothingRow.func = some 3 := by kernel_rfl
set_option maxRecDepth 100000 in
theorem joined : joinedFacts Tryz.checked.prog 3 Tryz.f3 Rows.searchOfNothingSpec Rows.searchOfNothingRow = true := by
  unfold joinedFacts
  exact (andI (andI (andI (andI (andI (andI (andI (andI (andI (andI (andI (andI (andI (andI (andI (andI (andI (andI (andI (andI (andI (andI (andI (andI (andI (andI (andI (andI (andI (andI (andI j0 j1) j2) j3) j4) j5) j6) j7) j8) j9) j10) j11) j12) j13) j14) j15) j16) j17) j18) j19) j20) j21) j22) j23) j24) j25) j26) j27) j28) j29) j30) j31)
theorem inst : Tryz.f3.isInstance Tryz.checked.prog Rows.searchOfNothingRow.origin Rows.searchOfNothingRow.targs := of_decide_eq_true (by kernel_rfl)
theorem wrap : Tryz.f3.isWrapper Tryz.checked.prog Rows.searchOfNothingRow.wrapper Rows.searchOfNothingRow.mainSum := by unfold Func.isWrapper; first | (rw [if_pos (by decide +kernel)]; kernel_rfl) | (rw [if_neg (by decide +kernel)]; exact ⟨rfl, rfl⟩)
theorem mainF : Tryz.checked.prog.mainIs = some ((true, "fbcb4a8dfbaec867d981a12962024af5ae09298dfd1674fd2c6da77ebf4f9e4b").1, (true, "fbcb4a8dfbaec867d981a12962024af5ae09298dfd1674fd2c6da77ebf4f9e4b").2.toList) := by kernel_rfl
theorem goesF : false = Rows.searchOfNothingRow.goesBy Tryz.checked.prog := by kernel_rfl
theorem wfF : Rows.searchOfNothingRow.wfByText (OpenSpec.ofChange Rows.searchOfNothingSpec) = true := by kernel_rfl
theorem looksF : true = Tryz.checked.prog.looks [] := by kernel_rfl
theorem plainF : ([3, 25].all fun u => !Tryz.prog.wantsStandIn u) = true := by kernel_rfl

theorem said : Rows.SearchOfNothingSaid :=
  OpenClaim.holds_of_wide 3 Tryz.f3 rfl rfl rfl rfl rfl rfl rfl ⟨rfl, rfl, rfl, rfl, rfl⟩ rfl rfl rfl rfl rfl named Tryz.func3 joined inst wrap
    (fun os started H enc _ => lifted os started H enc)

theorem holds : Rows.SearchOfNothingCardSaid :=
  Claim7.holds_tied_plain_at .later [] [.data, .data, .data, .data, .sentinel, .sentinel, .pinned] true (true, "fbcb4a8dfbaec867d981a12962024af5ae09298dfd1674fd2c6da77ebf4f9e4b") true said (fun _ h => by cases h) wfF (fun _ h => by cases h) searchOfNothing_row_tie rfl ⟨rfl, rfl⟩ mainF rfl
    (fun f fn hf hfn => by
      obtain rfl : f = 3 := Option.some.inj (Eq.trans named.symm hf) |>.symm
      obtain rfl : fn = Tryz.f3 := (Option.some.inj (Tryz.func3.symm.trans hfn)).symm
      exact ⟨looksF, fun j t ht => by
        rw [Tryz.params3] at ht
        have hm : t ∈ [3, 25] := by simpa using Array.mem_of_getElem? ht
        exact (show Tryz.prog.wantsStandIn t = false by simpa using List.all_eq_true.1 plainF t hm)⟩)
    goesF

end Go.Proofs.YteninjhmmjkckaaGreatDoor.lawSearchOfNothing
