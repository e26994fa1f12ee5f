/-
  EvalHas holds: for every input of bulk at most 1048576 the law returns true, and all that was there reads as it did. The variables that the row lists hold what it lists.
-/
import Derived.Test.YtcjjjmhhpejdoaaGreatDoorRows
import Derived.Test.YtcjjjmhhpejdoaaGreatDoorRowHasJ
import Derived.Test.YtcjjjmhhpejdoaaGreatDoorCards
import Derived.Test.YtcjjjmhhpejdoaaGreatDoorTie
import Derived.Test.YtcjjjmhhpejdoaaGreatDoorEvH
import Derived.Test.YtcjjjmhhpejdoaaGreatDoorVcX
import Derived.Lay
import Derived.SevenTiedAt
import Derived.Test.YtcjjjmhhpejdoaaGreatDoorEntO
import Derived.Deep.DeepHandedRow
namespace Go.Proofs.YtcjjjmhhpejdoaaGreatDoor.lawEvalHas
open Go.Vc Go.Sp Go.ChangeShapes Go.WideShapes Go.ChangeAt Go.RowKit
set_option linter.unusedVariables false

theorem own : ownKnob Tryz.prog.godebug = none := by kernel_rfl
theorem laidOut : laidOutB Tryz.prog = true := by kernel_rfl

set_option maxRecDepth 100000 in
theorem contract (H : Type) (enc : TypeId × Value → H) (W : World) (base : Nat) (args : Array Value) (ds gs : List (DataW H)) (before : List MemPlace)
    (hval : ∀ (j : Nat) t v, Tryz.f17.params[j]? = some t → args[j]? = some v → Value.okWide Tryz.prog W .any base t v)
    (hW : DataW.Whole enc Tryz.prog Tryz.f17.params.toList Rows.evalHasSpec.vars false W args.toList ds gs before)
    (hsz : (DataW.weightsEach Tryz.prog (Tryz.f17.params.toList ++ Rows.evalHasSpec.plain.varTypes Tryz.prog) (ds ++ gs)).all (· ≤ reachBytes) = true) (hk : Rows.uptoSmall H (ds ++ gs) = true) (hgv : GV W) :
    Calls Tryz.prog 17 args W fun e W' => ∃ v, e = .returned v ∧ Rows.evalHasSpec.post enc Tryz.prog Tryz.f17 false true false false W args v W' := by
  have hW' := hW
  obtain ⟨p, q, hA0, hV, rfl, hfz, hnd⟩ := hW
  have hA : DataW.TrodAll enc Tryz.prog W 0 (fun _ => true) true Tryz.f17.params.toList args.toList ds p := hA0
  rw [Tryz.params17] at hA hval hsz
  obtain ⟨v0, vs0, d0, ds0, p0, q0, hargs, rfl, rfl, h0, r0⟩ := trodAll_cons hA
  obtain ⟨rfl, rfl, rfl⟩ := trodAll_nil r0
  obtain rfl : args = #[v0] := by cases args; simp_all
  obtain ⟨nl0, l0, vd0, va0, rfl, hd0, ha0, hvs0, hw0⟩ := opens_entry Tryz.underlying31 (by kernel_rfl) (by kernel_rfl) Tryz.underlying28 Tryz.underlying29 (by kernel_rfl) (by kernel_rfl) Tryz.underlying50 (by kernel_rfl) Tryz.underlying9 Tryz.underlying9 Tryz.underlying41 (by kernel_rfl) Tryz.underlying9 Tryz.underlying22 Tryz.underlying9 (by kernel_rfl) (hval 0 31 v0 rfl rfl) h0
  have hbk := bulks.bound hk
  simp only [List.cons_append, List.nil_append, Rows.uptoBulkAll] at hbk
  refine (law_evhas l0 vd0 va0 W hgv ha0 hvs0 (by first | (unfold wE at hw0; dsimp only at hw0; omega) | (unfold wE at hw0; omega))).mono fun e W' ⟨he, hx⟩ => ?_
  subst he
  exact ⟨_, rfl, post_true laidOut (by kernel_rfl) rfl (by kernel_rfl) rfl rfl hW' hx⟩

theorem reads (os : Os) {H : Type} (enc : TypeId × Value → H) : ∃ places, DataW.whole enc Tryz.prog ((World.laidAll Tryz.prog os Rows.evalHasUptoRow.laid).forCall (fun _ _ => 0) ⟨#[], #[.agg #[.slice none 0 0, .slice none 0 0]], []⟩).memory Tryz.f17.params.toList Rows.evalHasSpec.vars false (#[.agg #[.slice none 0 0, .slice none 0 0]] : Array Value).toList 8 = some ([.agg [.nil, .nil]], [], places) :=
  ⟨[], by kernel_rfl⟩

set_option maxRecDepth 100000 in
theorem lifted (os : Os) (started : os.Started) (H : Type) (enc : TypeId × Value → H) (F : Stop.Interp) :
    ReturnsInHanded {} Tryz.checked os 17 .any ((Rows.OpenSpec.upto Rows.evalHasSpec).preRow enc Tryz.prog Tryz.f17 Rows.evalHasUptoRow.domain false Rows.evalHasUptoRow.laid) (((Rows.OpenSpec.upto Rows.evalHasSpec).at F).post enc Tryz.prog Tryz.f17 false true false false) := by
  obtain ⟨places, hx⟩ := reads os enc
  refine returnsInHanded_of_row (C := Tryz.checked) (s := Rows.OpenSpec.upto Rows.evalHasSpec) own started (by kernel_rfl) Tryz.func17
    (witness_row_at (enc := enc) (C := Tryz.checked) false (World.laidAll Tryz.prog os Rows.evalHasUptoRow.laid) #[.agg #[.slice none 0 0, .slice none 0 0]] (World.laidAll_os _ _ _) (by kernel_rfl) (by kernel_rfl) (by kernel_rfl)
      (OpenSpec.preRow_of_cond 8 hx (by kernel_rfl) (fun k hk => by cases hk; kernel_rfl) (by kernel_rfl) (laidMet_laidAll _ (by kernel_rfl) (by kernel_rfl)))) ?_
  intro W base args ds gs before hval hW _ hk hsz hL hsh _
  rw [MakeChecks.laidMetH_plain _ _ _ (by kernel_rfl)] at hL
  exact contract H enc W base args ds gs before hval hW hsz (hk _ rfl) (GV.of_row hsh hL)

theorem named : Tryz.checked.prog.funcNamed Rows.evalHasUptoRow.func = some 17 := by kernel_rfl
theorem inst : Tryz.f17.isInstance Tryz.checked.prog Rows.evalHasUptoRow.origin Rows.evalHasUptoRow.targs := of_decide_eq_true (by kernel_rfl)
theorem wrap : Tryz.f17.isWrapper Tryz.checked.prog Rows.evalHasUptoRow.wrapper Rows.evalHasUptoRow.mainSum := by unfold Func.isWrapper; first | (rw [if_pos (by decide +kernel)]; kernel_rfl) | (rw [if_neg (by decide +kernel)]; exact ⟨rfl, rfl⟩)
theorem mainF : Tryz.checked.prog.mainIs = some ((true, "45eb52538c1fbc57331eaf83fa546ae7ac80c7a99ae8692fefd3e4238a135d4d").1, (true, "45eb52538c1fbc57331eaf83fa546ae7ac80c7a99ae8692fefd3e4238a135d4d").2.toList) := by kernel_rfl
theorem goesF : false = Rows.evalHasUptoRow.goesBy Tryz.checked.prog := by kernel_rfl
theorem wfF : Rows.evalHasUptoRow.wfByText (Rows.OpenSpec.upto Rows.evalHasSpec) = true := by kernel_rfl
theorem looksF : true = Tryz.checked.prog.looks [] := by kernel_rfl
theorem plainF : ([31].all fun u => !Tryz.prog.wantsStandIn u) = true := by kernel_rfl

set_option maxRecDepth 100000 in
theorem said : Rows.EvalHasUptoSaid :=
  OpenClaim.holds_of_cond 17 Tryz.f17 rfl rfl rfl rfl rfl rfl rfl ⟨rfl, rfl, rfl, rfl, rfl⟩ rfl rfl rfl rfl rfl named Tryz.func17 joined inst wrap
    (fun os started H enc _ F => by rw [OpenClaim.pre_eq_preRow]; exact lifted os started H enc F)

theorem holds : Rows.EvalHasUptoCardSaid :=
  Claim7.holds_tied_plain_at .later [] [.data, .data, .data, .data, .sentinel, .sentinel, .pinned] true (true, "45eb52538c1fbc57331eaf83fa546ae7ac80c7a99ae8692fefd3e4238a135d4d") true said (fun _ h => by cases h) wfF (fun _ h => by cases h) evalHasUpto_row_tie rfl ⟨rfl, rfl⟩ mainF rfl
    (fun f fn hf hfn => by
      obtain rfl : f = 17 := Option.some.inj (Eq.trans named.symm hf) |>.symm
      obtain rfl : fn = Tryz.f17 := (Option.some.inj (Tryz.func17.symm.trans hfn)).symm
      exact ⟨looksF, fun j t ht => by
        rw [Tryz.params17] at ht
        have hm : t ∈ [31] := by simpa using Array.mem_of_getElem? ht
        exact (show Tryz.prog.wantsStandIn t = false by simpa using List.all_eq_true.1 plainF t hm)⟩)
    goesF

end Go.Proofs.YtcjjjmhhpejdoaaGreatDoor.lawEvalHas
