/-
  EvalKids holds: for every input of bulk at most 1048576 the law returns true, and all that was there reads as it did. The variables that the row lists hold what it lists.
-/
import Derived.Test.YtdagdhjheibgnaaGreatDoorRows
import Derived.Test.YtdagdhjheibgnaaGreatDoorCards
import Derived.Test.YtdagdhjheibgnaaGreatDoorTie
import Derived.Test.YtdagdhjheibgnaaGreatDoorFlD
import Derived.Test.YtdagdhjheibgnaaGreatDoorVcX
import Derived.Lay
import Derived.SevenTiedAt
import Derived.Test.YtdagdhjheibgnaaGreatDoorEntO
import Derived.Deep.DeepHandedRow
import Derived.Test.YtdagdhjheibgnaaGreatDoorEntG
namespace Go.Proofs.YtdagdhjheibgnaaGreatDoor.lawEvalKids
open Go.Vc Go.Sp Go.ChangeShapes Go.WideShapes Go.ChangeAt Go.RowKit
set_option linter.unusedVariables false

theorem own : ownKnob Tryz.prog.godebug = none := by kernel_rfl
theorem laidOut : laidOutB Tryz.prog = true := by kernel_rfl

set_option maxRecDepth 100000 in
theorem contract (H : Type) (enc : TypeId × Value → H) (W : World) (base : Nat) (args : Array Value) (ds gs : List (DataW H)) (before : List MemPlace)
    (hval : ∀ (j : Nat) t v, Tryz.f6.params[j]? = some t → args[j]? = some v → Value.okWide Tryz.prog W .any base t v)
    (hW : DataW.Whole enc Tryz.prog Tryz.f6.params.toList Rows.evalKidsSpec.vars false W args.toList ds gs before)
    (hsz : (DataW.weightsEach Tryz.prog (Tryz.f6.params.toList ++ Rows.evalKidsSpec.plain.varTypes Tryz.prog) (ds ++ gs)).all (· ≤ reachBytes) = true) (hk : Rows.uptoSmall H (ds ++ gs) = true) (hgv : GV W) :
    Calls Tryz.prog 6 args W fun e W' => ∃ v, e = .returned v ∧ Rows.evalKidsSpec.post enc Tryz.prog Tryz.f6 false true false false W args v W' := by
  have hW' := hW
  obtain ⟨p, q, hA0, hV, rfl, hfz, hnd⟩ := hW
  have hA : DataW.TrodAll enc Tryz.prog W 0 (fun _ => true) true Tryz.f6.params.toList args.toList ds p := hA0
  rw [Tryz.params6] at hA hval hsz
  obtain ⟨v0, vs0, d0, ds0, p0, q0, hargs, rfl, rfl, h0, r0⟩ := trodAll_cons hA
  obtain ⟨v1, vs1, d1, ds1, p1, q1, rfl, rfl, rfl, h1, r1⟩ := trodAll_cons r0
  obtain ⟨v2, vs2, d2, ds2, p2, q2, rfl, rfl, rfl, h2, r2⟩ := trodAll_cons r1
  obtain ⟨v3, vs3, d3, ds3, p3, q3, rfl, rfl, rfl, h3, r3⟩ := trodAll_cons r2
  obtain ⟨rfl, rfl, rfl⟩ := trodAll_nil r3
  obtain rfl : args = #[v0, v1, v2, v3] := by cases args; simp_all
  obtain ⟨fn0, fk0, ft0, fv0, fsu0, fki0, fs0, fc0, rfl, hf0, hk0⟩ := opens_filter Tryz.underlying25 (by kernel_rfl) (by kernel_rfl) Tryz.underlying3 Tryz.underlying9 Tryz.underlying9 Tryz.underlying22 Tryz.underlying9 (by kernel_rfl) Tryz.underlying23 (Nat.le_of_ble_eq_true (by kernel_rfl)) (Nat.le_of_ble_eq_true (by kernel_rfl)) (hval 0 25 v0 rfl rfl) h0 hsz (j := 0) rfl rfl
  obtain ⟨fn1, fk1, ft1, fv1, fsu1, fki1, fs1, fc1, rfl, hf1, hk1⟩ := opens_filter Tryz.underlying25 (by kernel_rfl) (by kernel_rfl) Tryz.underlying3 Tryz.underlying9 Tryz.underlying9 Tryz.underlying22 Tryz.underlying9 (by kernel_rfl) Tryz.underlying23 (Nat.le_of_ble_eq_true (by kernel_rfl)) (Nat.le_of_ble_eq_true (by kernel_rfl)) (hval 1 25 v1 rfl rfl) h1 hsz (j := 1) rfl rfl
  obtain ⟨fn2, fk2, ft2, fv2, fsu2, fki2, fs2, fc2, rfl, hf2, hk2⟩ := opens_filter Tryz.underlying25 (by kernel_rfl) (by kernel_rfl) Tryz.underlying3 Tryz.underlying9 Tryz.underlying9 Tryz.underlying22 Tryz.underlying9 (by kernel_rfl) Tryz.underlying23 (Nat.le_of_ble_eq_true (by kernel_rfl)) (Nat.le_of_ble_eq_true (by kernel_rfl)) (hval 2 25 v2 rfl rfl) h2 hsz (j := 2) rfl rfl
  obtain ⟨nl3, l3, vd3, va3, rfl, hd3, ha3, hvs3, hw3⟩ := opens_entry Tryz.underlying29 (by kernel_rfl) (by kernel_rfl) Tryz.underlying26 Tryz.underlying27 (by kernel_rfl) (by kernel_rfl) Tryz.underlying93 (by kernel_rfl) Tryz.underlying9 Tryz.underlying9 Tryz.underlying36 (by kernel_rfl) Tryz.underlying9 Tryz.underlying22 Tryz.underlying9 (by kernel_rfl) (hval 3 29 v3 rfl rfl) h3
  have hbk := bulks.bound hk
  simp only [List.cons_append, List.nil_append, Rows.uptoBulkAll] at hbk
  refine (law_kids (fn0 + fn1 + fn2) _ _ _ _ _ _ l3 vd3 va3 W (hf0.up _ (by omega)) (hf1.up _ (by omega)) (hf2.up _ (by omega)) (hk0.up _ (by omega)) (hk1.up _ (by omega)) (hk2.up _ (by omega)) hgv ha3 hvs3 (by first | (unfold wE at hw3; dsimp only at hw3; omega) | (unfold wE at hw3; omega))).mono fun e W' ⟨he, hx⟩ => ?_
  subst he
  exact ⟨_, rfl, post_true laidOut (by kernel_rfl) rfl (by kernel_rfl) rfl rfl hW' hx⟩

theorem reads (os : Os) {H : Type} (enc : TypeId × Value → H) : ∃ places, DataW.whole enc Tryz.prog ((World.laidAll Tryz.prog os Rows.evalKidsUptoRow.laid).forCall (fun _ _ => 0) ⟨#[], #[.agg #[.int .i64 0, .string ⟨#[]⟩, .string ⟨#[]⟩, .slice none 0 0, .slice none 0 0], .agg #[.int .i64 0, .string ⟨#[]⟩, .string ⟨#[]⟩, .slice none 0 0, .slice none 0 0], .agg #[.int .i64 0, .string ⟨#[]⟩, .string ⟨#[]⟩, .slice none 0 0, .slice none 0 0], .agg #[.slice none 0 0, .slice none 0 0]], []⟩).memory Tryz.f6.params.toList Rows.evalKidsSpec.vars false (#[.agg #[.int .i64 0, .string ⟨#[]⟩, .string ⟨#[]⟩, .slice none 0 0, .slice none 0 0], .agg #[.int .i64 0, .string ⟨#[]⟩, .string ⟨#[]⟩, .slice none 0 0, .slice none 0 0], .agg #[.int .i64 0, .string ⟨#[]⟩, .string ⟨#[]⟩, .slice none 0 0, .slice none 0 0], .agg #[.slice none 0 0, .slice none 0 0]] : Array Value).toList 8 = some ([.agg [.lit (.int .i64 0), .lit (.string []), .lit (.string []), .nil, .nil], .agg [.lit (.int .i64 0), .lit (.string []), .lit (.string []), .nil, .nil], .agg [.lit (.int .i64 0), .lit (.string []), .lit (.string []), .nil, .nil], .agg [.nil, .nil]], [], places) :=
  ⟨[], by kernel_rfl⟩

set_option maxRecDepth 100000 in
theorem lifted (os : Os) (started : os.Started) (H : Type) (enc : TypeId × Value → H) (F : Stop.Interp) :
    ReturnsInHanded {} Tryz.checked os 6 .any ((Rows.OpenSpec.upto Rows.evalKidsSpec).preRow enc Tryz.prog Tryz.f6 Rows.evalKidsUptoRow.domain false Rows.evalKidsUptoRow.laid) (((Rows.OpenSpec.upto Rows.evalKidsSpec).at F).post enc Tryz.prog Tryz.f6 false true false false) := by
  obtain ⟨places, hx⟩ := reads os enc
  refine returnsInHanded_of_row (C := Tryz.checked) (s := Rows.OpenSpec.upto Rows.evalKidsSpec) own started (by kernel_rfl) Tryz.func6
    (witness_row_at (enc := enc) (C := Tryz.checked) false (World.laidAll Tryz.prog os Rows.evalKidsUptoRow.laid) #[.agg #[.int .i64 0, .string ⟨#[]⟩, .string ⟨#[]⟩, .slice none 0 0, .slice none 0 0], .agg #[.int .i64 0, .string ⟨#[]⟩, .string ⟨#[]⟩, .slice none 0 0, .slice none 0 0], .agg #[.int .i64 0, .string ⟨#[]⟩, .string ⟨#[]⟩, .slice none 0 0, .slice none 0 0], .agg #[.slice none 0 0, .slice none 0 0]] (World.laidAll_os _ _ _) (by kernel_rfl) (by kernel_rfl) (by kernel_rfl)
      (OpenSpec.preRow_of_cond 8 hx (by kernel_rfl) (fun k hk => by cases hk; kernel_rfl) (by kernel_rfl) (laidMet_laidAll _ (by kernel_rfl) (by kernel_rfl)))) ?_
  intro W base args ds gs before hval hW _ hk hsz hL hsh _
  rw [MakeChecks.laidMetH_plain _ _ _ (by kernel_rfl)] at hL
  exact contract H enc W base args ds gs before hval hW hsz (hk _ rfl) (GV.of_row hsh hL)

theorem named : Tryz.checked.prog.funcNamed Rows.evalKidsUptoRow.func = some 6 := by kernel_rfl
theorem joined : joinedFacts Tryz.checked.prog 6 Tryz.f6 Rows.evalKidsSpec Rows.evalKidsUptoRow = true := by kernel_rfl
theorem inst : Tryz.f6.isInstance Tryz.checked.prog Rows.evalKidsUptoRow.origin Rows.evalKidsUptoRow.targs := of_decide_eq_true (by kernel_rfl)
theorem wrap : Tryz.f6.isWrapper Tryz.checked.prog Rows.evalKidsUptoRow.wrapper Rows.evalKidsUptoRow.mainSum := by unfold Func.isWrapper; first | (rw [if_pos (by decide +kernel)]; kernel_rfl) | (rw [if_neg (by decide +kernel)]; exact ⟨rfl, rfl⟩)
theorem mainF : Tryz.checked.prog.mainIs = some ((true, "4e7508fc8fde7c229a6002a5cd41bedc8e49f1a79b1e1762be4ab45d9891a9a4").1, (true, "4e7508fc8fde7c229a6002a5cd41bedc8e49f1a79b1e1762be4ab45d9891a9a4").2.toList) := by kernel_rfl
theorem goesF : false = Rows.evalKidsUptoRow.goesBy Tryz.checked.prog := by kernel_rfl
theorem wfF : Rows.evalKidsUptoRow.wfByText (Rows.OpenSpec.upto Rows.evalKidsSpec) = true := by kernel_rfl
theorem looksF : true = Tryz.checked.prog.looks [] := by kernel_rfl
theorem plainF : ([25, 25, 25, 29].all fun u => !Tryz.prog.wantsStandIn u) = true := by kernel_rfl

set_option maxRecDepth 100000 in
theorem said : Rows.EvalKidsUptoSaid :=
  OpenClaim.holds_of_cond 6 Tryz.f6 rfl rfl rfl rfl rfl rfl rfl ⟨rfl, rfl, rfl, rfl, rfl⟩ rfl rfl rfl rfl rfl named Tryz.func6 joined inst wrap
    (fun os started H enc _ F => by rw [OpenClaim.pre_eq_preRow]; exact lifted os started H enc F)

theorem holds : Rows.EvalKidsUptoCardSaid :=
  Claim7.holds_tied_plain_at .later [] [.data, .data, .data, .data, .sentinel, .sentinel, .pinned] true (true, "4e7508fc8fde7c229a6002a5cd41bedc8e49f1a79b1e1762be4ab45d9891a9a4") true said (fun _ h => by cases h) wfF (fun _ h => by cases h) evalKidsUpto_row_tie rfl ⟨rfl, rfl⟩ mainF rfl
    (fun f fn hf hfn => by
      obtain rfl : f = 6 := Option.some.inj (Eq.trans named.symm hf) |>.symm
      obtain rfl : fn = Tryz.f6 := (Option.some.inj (Tryz.func6.symm.trans hfn)).symm
      exact ⟨looksF, fun j t ht => by
        rw [Tryz.params6] at ht
        have hm : t ∈ [25, 25, 25, 29] := by simpa using Array.mem_of_getElem? ht
        exact (show Tryz.prog.wantsStandIn t = false by simpa using List.all_eq_true.1 plainF t hm)⟩)
    goesF

end Go.Proofs.YtdagdhjheibgnaaGreatDoor.lawEvalKids
