/-
  IndexCase holds: for every input of bulk at most 1048576 the law returns true, and all that was there reads as it did. The variables that the row lists hold what it lists.
-/
import Derived.Test.YtcjjjmhhpejdoaaGreatDoorRows
import Derived.Test.YtcjjjmhhpejdoaaGreatDoorCards
import Derived.Test.YtcjjjmhhpejdoaaGreatDoorTie
import Derived.Test.YtcjjjmhhpejdoaaGreatDoorCsB
import Derived.Test.YtcjjjmhhpejdoaaGreatDoorVcX
import Derived.Lay
import Derived.SevenTiedAt
import Derived.Test.YtcjjjmhhpejdoaaGreatDoorEntO
import Derived.Deep.DeepHandedRow
namespace Go.Proofs.YtcjjjmhhpejdoaaGreatDoor.lawIndexCase
open Go.Vc Go.Sp Go.ChangeShapes Go.WideShapes Go.ChangeAt Go.RowKit
set_option linter.unusedVariables false

theorem own : ownKnob Tryz.prog.godebug = none := by kernel_rfl
theorem laidOut : laidOutB Tryz.prog = true := by kernel_rfl

set_option maxRecDepth 100000 in
theorem contract (H : Type) (enc : TypeId × Value → H) (W : World) (base : Nat) (args : Array Value) (ds gs : List (DataW H)) (before : List MemPlace)
    (hval : ∀ (j : Nat) t v, Tryz.f7.params[j]? = some t → args[j]? = some v → Value.okWide Tryz.prog W .any base t v)
    (hW : DataW.Whole enc Tryz.prog Tryz.f7.params.toList Rows.indexCaseSpec.vars false W args.toList ds gs before)
    (hsz : (DataW.weightsEach Tryz.prog (Tryz.f7.params.toList ++ Rows.indexCaseSpec.plain.varTypes Tryz.prog) (ds ++ gs)).all (· ≤ reachBytes) = true) (hk : Rows.uptoSmall H (ds ++ gs) = true) (hgv : GV W) :
    Calls Tryz.prog 7 args W fun e W' => ∃ v, e = .returned v ∧ Rows.indexCaseSpec.post enc Tryz.prog Tryz.f7 false true false false W args v W' := by
  have hW' := hW
  obtain ⟨p, q, hA0, hV, rfl, hfz, hnd⟩ := hW
  have hA : DataW.TrodAll enc Tryz.prog W 0 (fun _ => true) true Tryz.f7.params.toList args.toList ds p := hA0
  rw [Tryz.params7] at hA hval hsz
  obtain ⟨v0, vs0, d0, ds0, p0, q0, hargs, rfl, rfl, h0, r0⟩ := trodAll_cons hA
  obtain ⟨rfl, rfl, rfl⟩ := trodAll_nil r0
  obtain rfl : args = #[v0] := by cases args; simp_all
  obtain ⟨nl0, l0, vd0, va0, rfl, hd0, ha0, hvs0, hw0⟩ := opens_entry Tryz.underlying31 (by kernel_rfl) (by kernel_rfl) Tryz.underlying28 Tryz.underlying29 (by kernel_rfl) (by kernel_rfl) Tryz.underlying50 (by kernel_rfl) Tryz.underlying9 Tryz.underlying9 Tryz.underlying41 (by kernel_rfl) Tryz.underlying9 Tryz.underlying22 Tryz.underlying9 (by kernel_rfl) (hval 0 31 v0 rfl rfl) h0
  have hbk := bulks.bound hk
  simp only [List.cons_append, List.nil_append, Rows.uptoBulkAll] at hbk
  refine (law_case nl0 l0 vd0 va0 W hd0 ha0 hvs0 hgv (by omega)).mono fun e W' ⟨he, hx⟩ => ?_
  subst he
  exact ⟨_, rfl, post_true laidOut (by kernel_rfl) rfl (by kernel_rfl) rfl rfl hW' hx⟩

theorem reads (os : Os) {H : Type} (enc : TypeId × Value → H) : ∃ places, DataW.whole enc Tryz.prog ((World.laidAll Tryz.prog os Rows.indexCaseUptoRow.laid).forCall (fun _ _ => 0) ⟨#[], #[.agg #[.slice none 0 0, .slice none 0 0]], []⟩).memory Tryz.f7.params.toList Rows.indexCaseSpec.vars false (#[.agg #[.slice none 0 0, .slice none 0 0]] : Array Value).toList 8 = some ([.agg [.nil, .nil]], [], places) :=
  ⟨[], by kernel_rfl⟩

set_option maxRecDepth 100000 in
theorem lifted (os : Os) (started : os.Started) (H : Type) (enc : TypeId × Value → H) (F : Stop.Interp) :
    ReturnsInHanded {} Tryz.checked os 7 .any ((Rows.OpenSpec.upto Rows.indexCaseSpec).preRow enc Tryz.prog Tryz.f7 Rows.indexCaseUptoRow.domain false Rows.indexCaseUptoRow.laid) (((Rows.OpenSpec.upto Rows.indexCaseSpec).at F).post enc Tryz.prog Tryz.f7 false true false false) := by
  obtain ⟨places, hx⟩ := reads os enc
  refine returnsInHanded_of_row (C := Tryz.checked) (s := Rows.OpenSpec.upto Rows.indexCaseSpec) own started (by kernel_rfl) Tryz.func7
    (witness_row_at (enc := enc) (C := Tryz.checked) false (World.laidAll Tryz.prog os Rows.indexCaseUptoRow.laid) #[.agg #[.slice none 0 0, .slice none 0 0]] (World.laidAll_os _ _ _) (by kernel_rfl) (by kernel_rfl) (by kernel_rfl)
      (OpenSpec.preRow_of_cond 8 hx (by kernel_rfl) (fun k hk => by cases hk; kernel_rfl) (by kernel_rfl) (laidMet_laidAll _ (by kernel_rfl) (by kernel_rfl)))) ?_
  intro W base args ds gs before hval hW _ hk hsz hL hsh _
  rw [MakeChecks.laidMetH_plain _ _ _ (by kernel_rfl)] at hL
  exact contract H enc W base args ds gs before hval hW hsz (hk _ rfl) (GV.of_row hsh hL)

theorem named : Tryz.checked.prog.funcNamed Rows.indexCaseUptoRow.func = some 7 := by kernel_rfl
theorem joined : joinedFacts Tryz.checked.prog 7 Tryz.f7 Rows.indexCaseSpec Rows.indexCaseUptoRow = true := by kernel_rfl
theorem inst : Tryz.f7.isInstance Tryz.checked.prog Rows.indexCaseUptoRow.origin Rows.indexCaseUptoRow.targs := of_decide_eq_true (by kernel_rfl)
theorem wrap : Tryz.f7.isWrapper Tryz.checked.prog Rows.indexCaseUptoRow.wrapper Rows.indexCaseUptoRow.mainSum := by unfold Func.isWrapper; first | (rw [if_pos (by decide +kernel)]; kernel_rfl) | (rw [if_neg (by decide +kernel)]; exact ⟨rfl, rfl⟩)
theorem mainF : Tryz.checked.prog.mainIs = some ((true, "45eb52538c1fbc57331eaf83fa546ae7ac80c7a99ae8692fefd3e4238a135d4d").1, (true, "45eb52538c1fbc57331eaf83fa546ae7ac80c7a99ae8692fefd3e4238a135d4d").2.toList) := by kernel_rfl
theorem goesF : false = Rows.indexCaseUptoRow.goesBy Tryz.checked.prog := by kernel_rfl
theorem wfF : Rows.indexCaseUptoRow.wfByText (Rows.OpenSpec.upto Rows.indexCaseSpec) = true := by kernel_rfl
theorem looksF : true = Tryz.checked.prog.looks [] := by kernel_rfl
theorem plainF : ([31].all fun u => !Tryz.prog.wantsStandIn u) = true := by kernel_rfl

set_option maxRecDepth 100000 in
theorem said : Rows.IndexCaseUptoSaid :=
  OpenClaim.holds_of_cond 7 Tryz.f7 rfl rfl rfl rfl rfl rfl rfl ⟨rfl, rfl, rfl, rfl, rfl⟩ rfl rfl rfl rfl rfl named Tryz.func7 joined inst wrap
    (fun os started H enc _ F => by rw [OpenClaim.pre_eq_preRow]; exact lifted os started H enc F)

theorem holds : Rows.IndexCaseUptoCardSaid :=
  Claim7.holds_tied_plain_at .later [] [.data, .pinned] true (true, "45eb52538c1fbc57331eaf83fa546ae7ac80c7a99ae8692fefd3e4238a135d4d") true said (fun _ h => by cases h) wfF (fun _ h => by cases h) indexCaseUpto_row_tie rfl ⟨rfl, rfl⟩ mainF rfl
    (fun f fn hf hfn => by
      obtain rfl : f = 7 := Option.some.inj (Eq.trans named.symm hf) |>.symm
      obtain rfl : fn = Tryz.f7 := (Option.some.inj (Tryz.func7.symm.trans hfn)).symm
      exact ⟨looksF, fun j t ht => by
        rw [Tryz.params7] at ht
        have hm : t ∈ [31] := by simpa using Array.mem_of_getElem? ht
        exact (show Tryz.prog.wantsStandIn t = false by simpa using List.all_eq_true.1 plainF t hm)⟩)
    goesF

end Go.Proofs.YtcjjjmhhpejdoaaGreatDoor.lawIndexCase
