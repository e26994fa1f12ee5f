/-
  LsmGone holds: for every input the law returns true, and all that was there reads as it did. The variables that the row lists hold what it lists.
-/
import Derived.Test.YtiooodckiddpmaaGreatDoorRows
import Derived.Test.YtiooodckiddpmaaGreatDoorRowGoneI
import Derived.Test.YtiooodckiddpmaaGreatDoorRowGoneJ
import Derived.Test.YtiooodckiddpmaaGreatDoorCards
import Derived.Test.YtiooodckiddpmaaGreatDoorTie
import Derived.Test.YtiooodckiddpmaaGreatDoorQkF
import Derived.Test.YtiooodckiddpmaaGreatDoorQkE
import Derived.Lay
import Derived.SevenTiedAt
namespace Go.Proofs.YtiooodckiddpmaaGreatDoor.lawLsmGone
open Go.Vc Go.Sp Go.ChangeShapes Go.WideShapes Go.ChangeAt Go.RowKit
set_option linter.unusedVariables false

theorem own : ownKnob Tryz.prog.godebug = none := by kernel_rfl
theorem laidOut : laidOutB Tryz.prog = true := by kernel_rfl

set_option maxRecDepth 100000 in
theorem contract (H : Type) (enc : TypeId × Value → H) (W : World) (base : Nat) (args : Array Value) (ds gs : List (DataW H)) (before : List MemPlace)
    (hval : ∀ (j : Nat) t v, Tryz.f9.params[j]? = some t → args[j]? = some v → Value.okWide Tryz.prog W .any base t v)
    (hW : DataW.Whole enc Tryz.prog Tryz.f9.params.toList Rows.lsmGoneSpec.vars false W args.toList ds gs before)
    (hsz : (DataW.weightsEach Tryz.prog (Tryz.f9.params.toList ++ Rows.lsmGoneSpec.plain.varTypes Tryz.prog) (ds ++ gs)).all (· ≤ reachBytes) = true) (hgv : GV W) :
    Calls Tryz.prog 9 args W fun e W' => ∃ v, e = .returned v ∧ Rows.lsmGoneSpec.post enc Tryz.prog Tryz.f9 false true false false W args v W' := by
  have hW' := hW
  obtain ⟨p, q, hA0, hV, rfl, hfz, hnd⟩ := hW
  have hA : DataW.TrodAll enc Tryz.prog W 0 (fun _ => true) true Tryz.f9.params.toList args.toList ds p := hA0
  rw [Tryz.params9] at hA hval hsz
  obtain ⟨v0, vs0, d0, ds0, p0, q0, hargs, rfl, rfl, h0, r0⟩ := trodAll_cons hA
  obtain ⟨rfl, rfl, rfl⟩ := trodAll_nil r0
  obtain rfl : args = #[v0] := by cases args; simp_all
  obtain ⟨l0, hv0, hl0, hok0⟩ := Xu0 Tryz.underlying34 (by kernel_rfl) Tryz.underlying3 Tryz.underlying3 Tryz.underlying9 Tryz.underlying9 Tryz.underlying32 Tryz.underlying48 (by kernel_rfl) (by kernel_rfl) (Nat.le_of_ble_eq_true (by kernel_rfl)) Tryz.underlying9 Tryz.underlying9 Tryz.underlying4 Tryz.underlying22 (by kernel_rfl) (Nat.le_of_ble_eq_true (by kernel_rfl)) (hval 0 22 v0 rfl rfl) h0 hsz (j := 0) rfl rfl
  refine (X39 l0 _ W hv0 hl0 hok0 hgv).mono fun e W' ⟨he, hx⟩ => ?_
  subst he
  exact ⟨_, rfl, Xz9 laidOut (by kernel_rfl) rfl (by kernel_rfl) rfl rfl hW' hx⟩

set_option maxRecDepth 100000 in
theorem lifted (os : Os) (started : os.Started) (H : Type) (enc : TypeId × Value → H) :
    ReturnsInHanded {} Tryz.checked os 9 .any (fun w args => (Rows.lsmGoneSpec.pre enc Tryz.prog Tryz.f9 Rows.lsmGoneRow.domain false w args ∧ laidMetH Tryz.prog Rows.lsmGoneRow.laid w) ∧ sizedMet enc Tryz.prog Tryz.f9 (OpenSpec.ofChange Rows.lsmGoneSpec) false w args)
      (Rows.lsmGoneSpec.post enc Tryz.prog Tryz.f9 false true false false) := by
  refine Xid (C := Tryz.checked) (X := fun w _ => laidMetH Tryz.prog Rows.lsmGoneRow.laid w) (fun _ _ _ hh h => h.of_heap hh) own started (by kernel_rfl) Tryz.func9
    (ChangeSpec.witness_shaped (enc := enc) (C := Tryz.checked) (os := os) (X := fun w _ => laidMetH Tryz.prog Rows.lsmGoneRow.laid w) false (World.laidAll Tryz.prog os Rows.lsmGoneRow.laid) #[.slice none 0 0] 8 (World.laidAll_os _ _ _)
      (World.shaped_of_ZipB (by kernel_rfl) (by kernel_rfl)) (by kernel_rfl) (by kernel_rfl) (by kernel_rfl)
      (by rw [MakeChecks.laidMetH_plain _ _ _ (by kernel_rfl)]; exact laidMet_laidAll _ (by kernel_rfl) (by kernel_rfl))) ?_
  intro W base args ds gs before hval hW hsz hL hsh
  rw [MakeChecks.laidMetH_plain _ _ _ (by kernel_rfl)] at hL
  exact contract H enc W base args ds gs before hval hW hsz (GV.of_row hsh hL)

theorem named : Tryz.checked.prog.funcNamed Rows.lsmGoneRow.func = some 9 := by kernel_rfl
set_option maxRecDepth 100000 in
theorem joined : joinedFacts Tryz.checked.prog 9 Tryz.f9 Rows.lsmGoneSpec Rows.lsmGoneRow = true := by
  unfold joinedFacts
  exact (andI (andI (andI (andI (andI (andI (andI (andI (andI (andI (andI (andI (andI (andI (andI (andI (andI (andI (andI (andI (andI (andI (andI (andI (andI (andI (andI (andI (andI (andI (andI j0 j1) j2) j3) j4) j5) j6) j7) j8) j9) j10) j11) j12) j13) j14) j15) j16) j17) j18) j19) j20) j21) j22) j23) j24) j25) j26) j27) j28) j29) j30) j31)
theorem inst : Tryz.f9.isInstance Tryz.checked.prog Rows.lsmGoneRow.origin Rows.lsmGoneRow.targs := of_decide_eq_true (by kernel_rfl)
theorem wrap : Tryz.f9.isWrapper Tryz.checked.prog Rows.lsmGoneRow.wrapper Rows.lsmGoneRow.mainSum := by unfold Func.isWrapper; first | (rw [if_pos (by decide +kernel)]; kernel_rfl) | (rw [if_neg (by decide +kernel)]; exact ⟨rfl, rfl⟩)
theorem mainF : Tryz.checked.prog.mainIs = some ((true, "326d4026c6203b54e8c3abe972220f866378c63d570ee7be93e9d5a87a6a43c2").1, (true, "326d4026c6203b54e8c3abe972220f866378c63d570ee7be93e9d5a87a6a43c2").2.toList) := by kernel_rfl
theorem goesF : false = Rows.lsmGoneRow.goesBy Tryz.checked.prog := by kernel_rfl
theorem wfF : Rows.lsmGoneRow.wfByText (OpenSpec.ofChange Rows.lsmGoneSpec) = true := by kernel_rfl
theorem looksF : false = Tryz.checked.prog.looks [] := by kernel_rfl
theorem plainF : ([22].all fun u => !Tryz.prog.wantsStandIn u) = true := by kernel_rfl

theorem said : Rows.LsmGoneSaid :=
  OpenClaim.holds_of_wide 9 Tryz.f9 rfl rfl rfl rfl rfl rfl rfl ⟨rfl, rfl, rfl, rfl, rfl⟩ rfl rfl rfl rfl rfl named Tryz.func9 joined inst wrap
    (fun os started H enc _ => lifted os started H enc)

theorem holds : Rows.LsmGoneCardSaid :=
  Claim7.holds_tied_plain_at .later [] [.data, .data, .data] true (true, "326d4026c6203b54e8c3abe972220f866378c63d570ee7be93e9d5a87a6a43c2") false said (fun _ h => by cases h) wfF (fun _ h => by cases h) lsmGone_row_tie rfl ⟨rfl, rfl⟩ mainF rfl
    (fun f fn hf hfn => by
      obtain rfl : f = 9 := Option.some.inj (Eq.trans named.symm hf) |>.symm
      obtain rfl : fn = Tryz.f9 := (Option.some.inj (Tryz.func9.symm.trans hfn)).symm
      exact ⟨looksF, fun j t ht => by
        rw [Tryz.params9] at ht
        have hm : t ∈ [22] := by simpa using Array.mem_of_getElem? ht
        exact (show Tryz.prog.wantsStandIn t = false by simpa using List.all_eq_true.1 plainF t hm)⟩)
    goesF

end Go.Proofs.YtiooodckiddpmaaGreatDoor.lawLsmGone
