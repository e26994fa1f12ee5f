/-
  MatchOrder holds: for every input the law returns true, and all that was there reads as it did. The variables that the row lists hold what it lists.
-/
import Derived.Test.YtcjjjmhhpejdoaaGreatDoorRows
import Derived.Test.YtcjjjmhhpejdoaaGreatDoorCards
import Derived.Test.YtcjjjmhhpejdoaaGreatDoorTie
import Derived.Test.YtcjjjmhhpejdoaaGreatDoorMaE
import Derived.Test.YtcjjjmhhpejdoaaGreatDoorVcX
import Derived.Lay
import Derived.SevenTiedAt
namespace Go.Proofs.YtcjjjmhhpejdoaaGreatDoor.lawMatchOrder
open Go.Vc Go.Sp Go.ChangeShapes Go.WideShapes Go.ChangeAt Go.RowKit
set_option linter.unusedVariables false

theorem own : ownKnob Tryz.prog.godebug = none := by kernel_rfl
theorem laidOut : laidOutB Tryz.prog = true := by kernel_rfl

set_option maxRecDepth 100000 in
theorem contract (H : Type) (enc : TypeId × Value → H) (W : World) (base : Nat) (args : Array Value) (ds gs : List (DataW H)) (before : List MemPlace)
    (hval : ∀ (j : Nat) t v, Tryz.f9.params[j]? = some t → args[j]? = some v → Value.okWide Tryz.prog W .any base t v)
    (hW : DataW.Whole enc Tryz.prog Tryz.f9.params.toList Rows.matchOrderSpec.vars false W args.toList ds gs before)
    (hsz : (DataW.weightsEach Tryz.prog (Tryz.f9.params.toList ++ Rows.matchOrderSpec.plain.varTypes Tryz.prog) (ds ++ gs)).all (· ≤ reachBytes) = true) (hgv : GV W) :
    Calls Tryz.prog 9 args W fun e W' => ∃ v, e = .returned v ∧ Rows.matchOrderSpec.post enc Tryz.prog Tryz.f9 false true false false W args v W' := by
  have hW' := hW
  obtain ⟨p, q, hA0, hV, rfl, hfz, hnd⟩ := hW
  have hA : DataW.TrodAll enc Tryz.prog W 0 (fun _ => true) true Tryz.f9.params.toList args.toList ds p := hA0
  rw [Tryz.params9] at hA hval hsz
  obtain ⟨v0, vs0, d0, ds0, p0, q0, hargs, rfl, rfl, h0, r0⟩ := trodAll_cons hA
  obtain ⟨v1, vs1, d1, ds1, p1, q1, rfl, rfl, rfl, h1, r1⟩ := trodAll_cons r0
  obtain ⟨v2, vs2, d2, ds2, p2, q2, rfl, rfl, rfl, h2, r2⟩ := trodAll_cons r1
  obtain ⟨v3, vs3, d3, ds3, p3, q3, rfl, rfl, rfl, h3, r3⟩ := trodAll_cons r2
  obtain ⟨rfl, rfl, rfl⟩ := trodAll_nil r3
  obtain rfl : args = #[v0, v1, v2, v3] := by cases args; simp_all
  obtain ⟨x0, rfl, g0⟩ := opens_int (k := .i64) (by kernel_rfl) (hval 0 3 v0 rfl rfl) h0
  have g0' := wf_i64 g0
  obtain ⟨x1, rfl, rfl⟩ := opens_text (by kernel_rfl) (hval 1 9 v1 rfl rfl) h1
  have b1 := sized_text hsz (j := 1) rfl rfl
  obtain ⟨x2, rfl, rfl⟩ := opens_text (by kernel_rfl) (hval 2 9 v2 rfl rfl) h2
  have b2 := sized_text hsz (j := 2) rfl rfl
  obtain ⟨x3, rfl, rfl⟩ := opens_text (by kernel_rfl) (hval 3 9 v3 rfl rfl) h3
  have b3 := sized_text hsz (j := 3) rfl rfl
  refine (law_order x0 x1 x2 x3 W b1 b2 b3 hgv).mono fun e W' ⟨he, hx⟩ => ?_
  subst he
  exact ⟨_, rfl, post_true laidOut (by kernel_rfl) rfl (by kernel_rfl) rfl rfl hW' hx⟩

set_option maxRecDepth 100000 in
theorem lifted (os : Os) (started : os.Started) (H : Type) (enc : TypeId × Value → H) :
    ReturnsInHanded {} Tryz.checked os 9 .any (fun w args => (Rows.matchOrderSpec.pre enc Tryz.prog Tryz.f9 Rows.matchOrderRow.domain false w args ∧ laidMetH Tryz.prog Rows.matchOrderRow.laid w) ∧ sizedMet enc Tryz.prog Tryz.f9 (OpenSpec.ofChange Rows.matchOrderSpec) false w args)
      (Rows.matchOrderSpec.post enc Tryz.prog Tryz.f9 false true false false) := by
  refine handed_and_shaped (C := Tryz.checked) (X := fun w _ => laidMetH Tryz.prog Rows.matchOrderRow.laid w) (fun _ _ _ hh h => h.of_heap hh) own started (by kernel_rfl) Tryz.func9
    (ChangeSpec.witness_shaped (enc := enc) (C := Tryz.checked) (os := os) (X := fun w _ => laidMetH Tryz.prog Rows.matchOrderRow.laid w) false (World.laidAll Tryz.prog os Rows.matchOrderRow.laid) #[.int .i64 0, .string ⟨#[]⟩, .string ⟨#[]⟩, .string ⟨#[]⟩] 8 (World.laidAll_os _ _ _)
      (World.shaped_of_ZipB (by kernel_rfl) (by kernel_rfl)) (by kernel_rfl) (by kernel_rfl) (by kernel_rfl)
      (by rw [MakeChecks.laidMetH_plain _ _ _ (by kernel_rfl)]; exact laidMet_laidAll _ (by kernel_rfl) (by kernel_rfl))) ?_
  intro W base args ds gs before hval hW hsz hL hsh
  rw [MakeChecks.laidMetH_plain _ _ _ (by kernel_rfl)] at hL
  exact contract H enc W base args ds gs before hval hW hsz (GV.of_row hsh hL)

theorem named : Tryz.checked.prog.funcNamed Rows.matchOrderRow.func = some 9 := by kernel_rfl
theorem joined : joinedFacts Tryz.checked.prog 9 Tryz.f9 Rows.matchOrderSpec Rows.matchOrderRow = true := by kernel_rfl
theorem inst : Tryz.f9.isInstance Tryz.checked.prog Rows.matchOrderRow.origin Rows.matchOrderRow.targs := of_decide_eq_true (by kernel_rfl)
theorem wrap : Tryz.f9.isWrapper Tryz.checked.prog Rows.matchOrderRow.wrapper Rows.matchOrderRow.mainSum := by unfold Func.isWrapper; first | (rw [if_pos (by decide +kernel)]; kernel_rfl) | (rw [if_neg (by decide +kernel)]; exact ⟨rfl, rfl⟩)
theorem mainF : Tryz.checked.prog.mainIs = some ((true, "45eb52538c1fbc57331eaf83fa546ae7ac80c7a99ae8692fefd3e4238a135d4d").1, (true, "45eb52538c1fbc57331eaf83fa546ae7ac80c7a99ae8692fefd3e4238a135d4d").2.toList) := by kernel_rfl
theorem goesF : false = Rows.matchOrderRow.goesBy Tryz.checked.prog := by kernel_rfl
theorem wfF : Rows.matchOrderRow.wfByText (OpenSpec.ofChange Rows.matchOrderSpec) = true := by kernel_rfl
theorem looksF : true = Tryz.checked.prog.looks [] := by kernel_rfl
theorem plainF : ([3, 9, 9, 9].all fun u => !Tryz.prog.wantsStandIn u) = true := by kernel_rfl

theorem said : Rows.MatchOrderSaid :=
  OpenClaim.holds_of_wide 9 Tryz.f9 rfl rfl rfl rfl rfl rfl rfl ⟨rfl, rfl, rfl, rfl, rfl⟩ rfl rfl rfl rfl rfl named Tryz.func9 joined inst wrap
    (fun os started H enc _ => lifted os started H enc)

theorem holds : Rows.MatchOrderCardSaid :=
  Claim7.holds_tied_plain_at .later [] [.data, .data, .data, .data, .sentinel, .sentinel, .pinned] true (true, "45eb52538c1fbc57331eaf83fa546ae7ac80c7a99ae8692fefd3e4238a135d4d") true said (fun _ h => by cases h) wfF (fun _ h => by cases h) matchOrder_row_tie rfl ⟨rfl, rfl⟩ mainF rfl
    (fun f fn hf hfn => by
      obtain rfl : f = 9 := Option.some.inj (Eq.trans named.symm hf) |>.symm
      obtain rfl : fn = Tryz.f9 := (Option.some.inj (Tryz.func9.symm.trans hfn)).symm
      exact ⟨looksF, fun j t ht => by
        rw [Tryz.params9] at ht
        have hm : t ∈ [3, 9, 9, 9] := by simpa using Array.mem_of_getElem? ht
        exact (show Tryz.prog.wantsStandIn t = false by simpa using List.all_eq_true.1 plainF t hm)⟩)
    goesF

end Go.Proofs.YtcjjjmhhpejdoaaGreatDoor.lawMatchOrder
