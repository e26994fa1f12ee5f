/-
  Walks.
-/
import Derived.Test.YtdagdhjheibgnaaGreatDoorChecked
import Derived.Test.YtdagdhjheibgnaaGreatDoorSpMem
import Derived.KernelRfl
import Derived.Test.YtdagdhjheibgnaaGreatDoorDnF
import Derived.Test.YtdagdhjheibgnaaGreatDoorGvA
import Derived.Test.YtdagdhjheibgnaaGreatDoorSpMa
import Derived.Test.YtdagdhjheibgnaaGreatDoorVcT
import Derived.Shelf.Strings.SlTrimAscii
namespace Go.Proofs.YtdagdhjheibgnaaGreatDoor
open Go.Vc Go.Sp
attribute [local irreducible] W XW Dw DwT
set_option linter.unusedVariables false
set_option linter.unusedSimpArgs false

theorem trim_w (s : Str) (w : World) (hs : s.length ≤ 1000000) : Calls Tryz.prog 70 [S s, S digs].toArray w (Pure w (S (Lib.trimS s digs))) := by
  refine (Any.strings_Trim_laid Tryz.lays160 (by kernel_rfl) ⟨⟨s⟩⟩ ⟨⟨digs⟩⟩ w ?_ (by decide) (ascii_of_all (by decide))).mono ?_
  · show s.length ≤ _; omega
  · rintro e w' ⟨rfl, hb⟩
    exact ⟨rfl, Ext.of_below hb⟩
theorem trimPrefix_w (s : Str) (w : World) : Calls Tryz.prog 69 [S s, S [45]].toArray w (Pure w (S (restS s))) := by
  refine (Tryz.strings_TrimPrefix ⟨⟨s⟩⟩ ⟨⟨[45]⟩⟩ w).mono ?_
  rintro e w' ⟨rfl, rfl⟩
  refine ⟨?_, Ext.refl _⟩
  rw [show (⟨⟨s⟩⟩ : ByteArray).data.toList = s from rfl, show (⟨⟨[45]⟩⟩ : ByteArray).data.toList = [45] from rfl, rest_prefix]
theorem num_no1 {s : Str} (h : restS s = []) : numB s = false := by simp [numB, h]
theorem num_no2 {s : Str} (h : 18 < (restS s).length) : numB s = false := by
  unfold numB
  rw [decide_eq_false (show ¬ (restS s).length ≤ 18 by omega)]; simp
theorem num_no3 {s : Str} (h : ¬ (restS s).all isDig = true) : numB s = false := by
  unfold numB
  rw [Bool.eq_false_iff.2 h]; simp
theorem num_no4 {s : Str} (h : (restS s)[0]? = some 48) (h2 : s ≠ [48]) : numB s = false := by
  unfold numB
  rw [List.head?_eq_getElem?, h]; simp [h2]
theorem num_yes {s : Str} {c : UInt8} (h1 : restS s ≠ []) (h2 : (restS s).length ≤ 18) (h3 : (restS s).all isDig = true) (h4 : (restS s)[0]? = some c) (h5 : c ≠ 48 ∨ s = [48]) : numB s = true := by
  unfold numB
  rw [List.head?_eq_getElem?, h4, h3, decide_eq_true h1, decide_eq_true h2]
  rcases h5 with h5 | h5 <;> simp [h5]
theorem num_one {s : Str} (h : ¬ 1 < (s.length : Int)) (h4 : (restS s)[0]? = some 48) : s = [48] := by
  rcases num_len s with h1 | h1 | h1
  · omega
  · rw [List.head?_eq_getElem?] at h1; exact absurd h4 h1
  · exact h1
theorem valS_fold {s : Str} (h : foldS s ≠ []) : s ≠ [] ∧ valS s = foldS s := by
  constructor
  · rintro rfl; exact h rfl
  · unfold valS; rw [if_neg (fun e => h e.1)]
theorem valS_blank {s : Str} (h : foldS s = []) (h2 : s ≠ []) : valS s = [32] := by unfold valS; rw [if_pos ⟨h, h2⟩]

set_option maxRecDepth 100000 in
set_option maxHeartbeats 1000000 in
theorem number_w (s : Str) (w : World) (hs : s.length ≤ 1000000) :
  Calls Tryz.prog 42 [S s].toArray w (Pure w (.tuple #[S (if numB s = true then s else []), B (numB s)])) := by
 refine calls_W Tryz.func42 rfl rfl rfl (by kernel_rfl) ?_
 have hx := Ext.refl w
 have hrl := rest_len s
 refine W_seq fun K1 hK1 => ?_
 refine wr ?_
 iterate 2 refine da ?_
 refine D_end (hK1 _ _ ?_)
 refine W_seq fun K2 hK2 => ?_
 refine wr ?_
 refine dm ?_
 refine D_callP rfl (by kernel_rfl) (trimPrefix_w s _) rfl RX.all (fun w1 x1 => ?_)
 replace hx := hx.trans x1
 refine da ?_
 refine D_end (hK2 _ _ ?_)
 refine W_seq fun K3 hK3 => ?_
 refine W_seq fun K4 hK4 => ?_
 refine wr ?_
 refine dm ?_
 refine dp (pv_seq rfl rfl) ?_
 refine dm ?_
 refine D_splitP 9 rfl (fun c1 => ?_) (fun c1 => ?_)
 ·
  iterate 3 refine dk ?_
  refine dk' ?_
  refine dm ?_
  iterate 3 refine dk ?_
  refine dk' ?_
  refine dm ?_
  iterate 7 refine dk ?_
  refine dk' ?_
  refine D_end (hK4 _ _ ?_)
  refine W_t rfl ?_
  refine W_seq fun K5 hK5 => ?_
  refine wr ?_
  iterate 2 refine da ?_
  refine D_end (hK5 _ _ ?_)
  refine W_ret ?_
  try dsimp only [then', inBlk, noGo]
  refine rt ?_
  refine ⟨?_, hx⟩
  first
  | rw [num_no1 c1]; rfl
  | rw [num_no2 (show 18 < (restS s).length by omega)]; rfl
  | rw [num_no3 (fun h => c3 ((trim_digs _).2 h))]; rfl
  | rw [num_no4 (by rw [hk0, c4]) c5]; rfl
  | rw [num_yes c1 (show (restS s).length ≤ 18 by omega) ((trim_digs _).1 (Decidable.not_not.1 c3)) hk0 (.inl c4)]; rfl
  | rw [num_yes c1 (show (restS s).length ≤ 18 by omega) ((trim_digs _).1 (Decidable.not_not.1 c3)) hk0 (.inr (Decidable.not_not.1 c5))]; rfl
 ·
  obtain ⟨c0, hk0⟩ : ∃ c0, (restS s)[0]? = some c0 := ⟨_, List.getElem?_eq_getElem (List.length_pos_iff.2 c1)⟩
  refine dm ?_
  refine dp (pv_lenS (by kernel_rfl) rfl) ?_
  refine dp (pv_gtr rfl rfl) ?_
  refine dk' ?_
  refine dm ?_
  refine D_splitP 14 rfl (fun c2 => ?_) (fun c2 => ?_)
  ·
   iterate 3 refine dk ?_
   refine dk' ?_
   refine dm ?_
   iterate 7 refine dk ?_
   refine dk' ?_
   refine D_end (hK4 _ _ ?_)
   refine W_t rfl ?_
   refine W_seq fun K6 hK6 => ?_
   refine wr ?_
   iterate 2 refine da ?_
   refine D_end (hK6 _ _ ?_)
   refine W_ret ?_
   try dsimp only [then', inBlk, noGo]
   refine rt ?_
   refine ⟨?_, hx⟩
   first
   | rw [num_no1 c1]; rfl
   | rw [num_no2 (show 18 < (restS s).length by omega)]; rfl
   | rw [num_no3 (fun h => c3 ((trim_digs _).2 h))]; rfl
   | rw [num_no4 (by rw [hk0, c4]) c5]; rfl
   | rw [num_yes c1 (show (restS s).length ≤ 18 by omega) ((trim_digs _).1 (Decidable.not_not.1 c3)) hk0 (.inl c4)]; rfl
   | rw [num_yes c1 (show (restS s).length ≤ 18 by omega) ((trim_digs _).1 (Decidable.not_not.1 c3)) hk0 (.inr (Decidable.not_not.1 c5))]; rfl
  ·
   refine dm ?_
   refine D_callP rfl (by kernel_rfl) (trim_w (restS s) _ (by omega)) rfl RX.all (fun w2 x2 => ?_)
   replace hx := hx.trans x2
   refine dp (pv_sne rfl rfl) ?_
   refine dk' ?_
   refine dm ?_
   refine D_splitP 19 rfl (fun c3 => ?_) (fun c3 => ?_)
   ·
    iterate 7 refine dk ?_
    refine dk' ?_
    refine D_end (hK4 _ _ ?_)
    refine W_t rfl ?_
    refine W_seq fun K7 hK7 => ?_
    refine wr ?_
    iterate 2 refine da ?_
    refine D_end (hK7 _ _ ?_)
    refine W_ret ?_
    try dsimp only [then', inBlk, noGo]
    refine rt ?_
    refine ⟨?_, hx⟩
    first
    | rw [num_no1 c1]; rfl
    | rw [num_no2 (show 18 < (restS s).length by omega)]; rfl
    | rw [num_no3 (fun h => c3 ((trim_digs _).2 h))]; rfl
    | rw [num_no4 (by rw [hk0, c4]) c5]; rfl
    | rw [num_yes c1 (show (restS s).length ≤ 18 by omega) ((trim_digs _).1 (Decidable.not_not.1 c3)) hk0 (.inl c4)]; rfl
    | rw [num_yes c1 (show (restS s).length ≤ 18 by omega) ((trim_digs _).1 (Decidable.not_not.1 c3)) hk0 (.inr (Decidable.not_not.1 c5))]; rfl
   ·
    refine dm ?_
    refine dp (pv_idxS (by kernel_rfl) rfl rfl (i := 0) hk0) ?_
    refine dp (pv_eqlB (b := 48) rfl rfl) ?_
    refine dm ?_
    refine D_splitP 23 rfl (fun c4 => ?_) (fun c4 => ?_)
    ·
     refine dm ?_
     refine dp (pv_sne rfl rfl) ?_
     refine dk' ?_
     refine dk' ?_
     refine D_end (hK4 _ _ ?_)
     refine W_if rfl (fun c5 => ?_) (fun c5 => ?_)
     ·
      refine W_seq fun K8 hK8 => ?_
      refine wr ?_
      iterate 2 refine da ?_
      refine D_end (hK8 _ _ ?_)
      refine W_ret ?_
      try dsimp only [then', inBlk, noGo]
      refine rt ?_
      refine ⟨?_, hx⟩
      first
      | rw [num_no1 c1]; rfl
      | rw [num_no2 (show 18 < (restS s).length by omega)]; rfl
      | rw [num_no3 (fun h => c3 ((trim_digs _).2 h))]; rfl
      | rw [num_no4 (by rw [hk0, c4]) c5]; rfl
      | rw [num_yes c1 (show (restS s).length ≤ 18 by omega) ((trim_digs _).1 (Decidable.not_not.1 c3)) hk0 (.inl c4)]; rfl
      | rw [num_yes c1 (show (restS s).length ≤ 18 by omega) ((trim_digs _).1 (Decidable.not_not.1 c3)) hk0 (.inr (Decidable.not_not.1 c5))]; rfl
     ·
      refine W_skip ?_
      refine hK3 _ _ ?_
      refine W_seq fun K9 hK9 => ?_
      refine wr ?_
      refine dm ?_
      iterate 2 refine da ?_
      refine D_end (hK9 _ _ ?_)
      refine W_ret ?_
      try dsimp only [then', inBlk, noGo]
      refine rt ?_
      refine ⟨?_, hx⟩
      first
      | rw [num_no1 c1]; rfl
      | rw [num_no2 (show 18 < (restS s).length by omega)]; rfl
      | rw [num_no3 (fun h => c3 ((trim_digs _).2 h))]; rfl
      | rw [num_no4 (by rw [hk0, c4]) c5]; rfl
      | rw [num_yes c1 (show (restS s).length ≤ 18 by omega) ((trim_digs _).1 (Decidable.not_not.1 c3)) hk0 (.inl c4)]; rfl
      | rw [num_yes c1 (show (restS s).length ≤ 18 by omega) ((trim_digs _).1 (Decidable.not_not.1 c3)) hk0 (.inr (Decidable.not_not.1 c5))]; rfl
    ·
     iterate 2 refine dk ?_
     refine dk' ?_
     refine dk' ?_
     refine D_end (hK4 _ _ ?_)
     refine W_f rfl ?_
     refine W_skip ?_
     refine hK3 _ _ ?_
     refine W_seq fun K10 hK10 => ?_
     refine wr ?_
     refine dm ?_
     iterate 2 refine da ?_
     refine D_end (hK10 _ _ ?_)
     refine W_ret ?_
     try dsimp only [then', inBlk, noGo]
     refine rt ?_
     refine ⟨?_, hx⟩
     first
     | rw [num_no1 c1]; rfl
     | rw [num_no2 (show 18 < (restS s).length by omega)]; rfl
     | rw [num_no3 (fun h => c3 ((trim_digs _).2 h))]; rfl
     | rw [num_no4 (by rw [hk0, c4]) c5]; rfl
     | rw [num_yes c1 (show (restS s).length ≤ 18 by omega) ((trim_digs _).1 (Decidable.not_not.1 c3)) hk0 (.inl c4)]; rfl
     | rw [num_yes c1 (show (restS s).length ≤ 18 by omega) ((trim_digs _).1 (Decidable.not_not.1 c3)) hk0 (.inr (Decidable.not_not.1 c5))]; rfl

set_option maxRecDepth 100000 in
set_option maxHeartbeats 1000000 in
theorem rnumber_w (s : Str) (w : World) (hs : s.length ≤ 1000000) :
  Calls Tryz.prog 84 [S s].toArray w (Pure w (.tuple #[S (if numB s = true then s else []), B (numB s)])) := by
 refine calls_W Tryz.func84 rfl rfl rfl (by kernel_rfl) ?_
 have hx := Ext.refl w
 have hrl := rest_len s
 refine W_seq fun K1 hK1 => ?_
 refine wr ?_
 iterate 2 refine da ?_
 refine D_end (hK1 _ _ ?_)
 refine W_seq fun K2 hK2 => ?_
 refine wr ?_
 refine dm ?_
 refine da ?_
 refine D_end (hK2 _ _ ?_)
 refine W_cut (G := Str) (fun d => [(0, S s), (2, S []), (3, .bool false), (4, S d)]) (fun d w' => Ext w w' ∧ d = restS s) ?_ ?_
 ·
  refine W_seq fun K3 hK3 => ?_
  refine wr ?_
  refine dm ?_
  refine dp (pv_sne rfl rfl) ?_
  refine dm ?_
  refine D_splitP 9 rfl (fun c1 => ?_) (fun c1 => ?_)
  ·
   obtain ⟨e0, hk0⟩ : ∃ e0, s[0]? = some e0 := ⟨_, List.getElem?_eq_getElem (List.length_pos_iff.2 c1)⟩
   have hsl := (List.getElem?_eq_some_iff.1 hk0).1
   refine dm ?_
   refine dp (pv_idxS (by kernel_rfl) rfl rfl (i := 0) hk0) ?_
   refine dp (pv_eqlB (b := 45) rfl rfl) ?_
   refine dk' ?_
   refine D_end (hK3 _ _ ?_)
   refine W_if rfl (fun c2 => ?_) (fun c2 => ?_)
   ·
    refine wr ?_
    refine dm ?_
    refine dpw (pv_slS (a := 1) (by kernel_rfl) rfl rfl rfl (by omega) (by omega)) ?_
    refine da ?_
    refine D_end (?_)
    refine ⟨_, ⟨rfl, rfl, rfl, rfl, trivial⟩, hx, ?_⟩
    unfold restS
    rw [List.head?_eq_getElem?]
    first
    | (rw [hk0, if_pos (by rw [c2]), List.take_of_length_le (Nat.le_refl _)])
    | (rw [hk0, if_neg (fun h => c2 (Option.some.inj h))])
    | (rw [Decidable.not_not.1 c1]; rfl)
   ·
    refine W_skip ?_
    refine ⟨_, ⟨rfl, rfl, rfl, rfl, trivial⟩, hx, ?_⟩
    unfold restS
    rw [List.head?_eq_getElem?]
    first
    | (rw [hk0, if_pos (by rw [c2]), List.take_of_length_le (Nat.le_refl _)])
    | (rw [hk0, if_neg (fun h => c2 (Option.some.inj h))])
    | (rw [Decidable.not_not.1 c1]; rfl)
  ·
   iterate 3 refine dk ?_
   refine dk' ?_
   refine D_end (hK3 _ _ ?_)
   refine W_f rfl ?_
   refine W_skip ?_
   refine ⟨_, ⟨rfl, rfl, rfl, rfl, trivial⟩, hx, ?_⟩
   unfold restS
   rw [List.head?_eq_getElem?]
   first
   | (rw [hk0, if_pos (by rw [c2]), List.take_of_length_le (Nat.le_refl _)])
   | (rw [hk0, if_neg (fun h => c2 (Option.some.inj h))])
   | (rw [Decidable.not_not.1 c1]; rfl)
 ·
  intro X1 g1 w1 hF1
  revert hF1; revert g1; intro d hF1
  clear hx
  obtain ⟨hx, hdr⟩ := hF1
  subst hdr
  refine W_cut (G := Unit) (fun uu => [(0, S s), (4, S (restS s))]) (fun uu w' => Ext w w' ∧ restS s ≠ [] ∧ (restS s).length ≤ 18 ∧ ∃ c, (restS s)[0]? = some c ∧ (c ≠ 48 ∨ s = [48])) ?_ ?_
  ·
   refine W_seq fun K4 hK4 => ?_
   refine wr ?_
   refine dm ?_
   refine dp (pv_lenS (by kernel_rfl) rfl) ?_
   refine dp (pv_lss rfl rfl) ?_
   refine dm ?_
   refine D_splitP 19 rfl (fun c3 => ?_) (fun c3 => ?_)
   ·
    iterate 3 refine dk ?_
    refine dk' ?_
    refine dm ?_
    iterate 8 refine dk ?_
    refine dk' ?_
    refine D_end (hK4 _ _ ?_)
    refine W_t rfl ?_
    refine W_seq fun K5 hK5 => ?_
    refine wr ?_
    iterate 2 refine da ?_
    refine D_end (hK5 _ _ ?_)
    refine W_ret ?_
    try dsimp only [then', inBlk, noGo]
    refine rt ?_
    refine ⟨?_, hx⟩
    first
    | rw [num_yes hne hle (by rw [List.take_of_length_le (by omega)] at ha; exact ha) hd0 h48]; rfl
    | rw [num_no3 (by rw [not_all hk (by rw [Bool.eq_false_iff]; intro h; unfold isDig at h; simp only [Bool.and_eq_true, decide_eq_true_eq] at h; first | exact absurd h.1 (UInt8.not_le.2 (by assumption)) | exact absurd h.2 (UInt8.not_le.2 (by assumption)))]; decide)]; rfl
    | rw [num_no1 (List.eq_nil_of_length_eq_zero (by omega))]; rfl
    | rw [num_no2 (show 18 < (restS s).length by omega)]; rfl
    | rw [num_no4 (by rw [hd0]; congr 1) (by rintro rfl; simp at *)]; rfl
   ·
    refine dm ?_
    refine dp (pv_lenS (by kernel_rfl) rfl) ?_
    refine dp (pv_gtr rfl rfl) ?_
    refine dk' ?_
    refine dm ?_
    refine D_splitP 24 rfl (fun c4 => ?_) (fun c4 => ?_)
    ·
     iterate 8 refine dk ?_
     refine dk' ?_
     refine D_end (hK4 _ _ ?_)
     refine W_t rfl ?_
     refine W_seq fun K6 hK6 => ?_
     refine wr ?_
     iterate 2 refine da ?_
     refine D_end (hK6 _ _ ?_)
     refine W_ret ?_
     try dsimp only [then', inBlk, noGo]
     refine rt ?_
     refine ⟨?_, hx⟩
     first
     | rw [num_yes hne hle (by rw [List.take_of_length_le (by omega)] at ha; exact ha) hd0 h48]; rfl
     | rw [num_no3 (by rw [not_all hk (by rw [Bool.eq_false_iff]; intro h; unfold isDig at h; simp only [Bool.and_eq_true, decide_eq_true_eq] at h; first | exact absurd h.1 (UInt8.not_le.2 (by assumption)) | exact absurd h.2 (UInt8.not_le.2 (by assumption)))]; decide)]; rfl
     | rw [num_no1 (List.eq_nil_of_length_eq_zero (by omega))]; rfl
     | rw [num_no2 (show 18 < (restS s).length by omega)]; rfl
     | rw [num_no4 (by rw [hd0]; congr 1) (by rintro rfl; simp at *)]; rfl
    ·
     obtain ⟨d0, hd0⟩ : ∃ d0, (restS s)[0]? = some d0 := ⟨_, List.getElem?_eq_getElem (by omega)⟩
     have hne : restS s ≠ [] := fun h => by rw [h] at hd0; cases hd0
     refine dm ?_
     refine dp (pv_idxS (by kernel_rfl) rfl rfl (i := 0) hd0) ?_
     refine dp (pv_eqlB (b := 48) rfl rfl) ?_
     refine dm ?_
     refine D_splitP 28 rfl (fun c5 => ?_) (fun c5 => ?_)
     ·
      refine dm ?_
      refine dp (pv_lenS (by kernel_rfl) rfl) ?_
      refine dp (pv_gtr rfl rfl) ?_
      refine dk' ?_
      refine dk' ?_
      refine D_end (hK4 _ _ ?_)
      refine W_if rfl (fun c6 => ?_) (fun c6 => ?_)
      ·
       refine W_seq fun K7 hK7 => ?_
       refine wr ?_
       iterate 2 refine da ?_
       refine D_end (hK7 _ _ ?_)
       refine W_ret ?_
       try dsimp only [then', inBlk, noGo]
       refine rt ?_
       refine ⟨?_, hx⟩
       first
       | rw [num_yes hne hle (by rw [List.take_of_length_le (by omega)] at ha; exact ha) hd0 h48]; rfl
       | rw [num_no3 (by rw [not_all hk (by rw [Bool.eq_false_iff]; intro h; unfold isDig at h; simp only [Bool.and_eq_true, decide_eq_true_eq] at h; first | exact absurd h.1 (UInt8.not_le.2 (by assumption)) | exact absurd h.2 (UInt8.not_le.2 (by assumption)))]; decide)]; rfl
       | rw [num_no1 (List.eq_nil_of_length_eq_zero (by omega))]; rfl
       | rw [num_no2 (show 18 < (restS s).length by omega)]; rfl
       | rw [num_no4 (by rw [hd0]; congr 1) (by rintro rfl; simp at *)]; rfl
      ·
       refine W_skip ?_
       refine ⟨(), ⟨rfl, rfl, trivial⟩, hx, hne, by omega, d0, hd0, ?_⟩
       first | exact .inr (num_one (by assumption) (by rw [hd0]; congr 1)) | exact .inl (by assumption)
     ·
      iterate 3 refine dk ?_
      refine dk' ?_
      refine dk' ?_
      refine D_end (hK4 _ _ ?_)
      refine W_f rfl ?_
      refine W_skip ?_
      refine ⟨(), ⟨rfl, rfl, trivial⟩, hx, hne, by omega, d0, hd0, ?_⟩
      first | exact .inr (num_one (by assumption) (by rw [hd0]; congr 1)) | exact .inl (by assumption)
  ·
   intro X2 g2 w2 hF2
   revert hF2; revert g2; intro uu hF2
   clear hx
   obtain ⟨hx, hne, hle, d0, hd0, h48⟩ := hF2
   refine W_seq fun K8 hK8 => ?_
   refine W_seq fun K9 hK9 => ?_
   refine wr ?_
   refine da ?_
   refine D_end (hK9 _ _ ?_)
   refine W_block ?_
   refine W_loop (G := Nat) (fun k => [(0, S s), (4, S (restS s)), (5, I ↑k)]) (fun k w' => Ext w w' ∧ k ≤ (restS s).length ∧ ((restS s).take k).all isDig = true) (fun k => (restS s).length - k) 0 ?_ ?_ ?_
   ·
    exact ⟨rfl, rfl, rfl, trivial⟩
   ·
    exact ⟨hx, Nat.zero_le _, rfl⟩
   ·
    intro X3 g3 w3 hF3
    revert hF3; revert g3; intro k hF3
    clear hx
    obtain ⟨hx, hk1, ha⟩ := hF3
    refine W_seq fun K10 hK10 => ?_
    refine W_seq fun K11 hK11 => ?_
    refine wr ?_
    iterate 2 refine dm ?_
    refine dp (pv_lenS (by kernel_rfl) rfl) ?_
    refine dp (pv_lss rfl rfl) ?_
    refine D_end (hK11 _ _ ?_)
    refine W_if rfl (fun c7 => ?_) (fun c7 => ?_)
    ·
     obtain ⟨c, hk⟩ : ∃ c, (restS s)[k]? = some c := ⟨_, List.getElem?_eq_getElem (by omega)⟩
     refine W_skip ?_
     refine hK10 _ _ ?_
     refine W_seq fun K12 hK12 => ?_
     refine W_block ?_
     refine W_seq fun K13 hK13 => ?_
     refine wr ?_
     iterate 2 refine dm ?_
     refine dp (pv_idxS (by kernel_rfl) rfl rfl hk) ?_
     refine dp (pv_lssB (b := 48) rfl rfl) ?_
     refine dm ?_
     refine D_splitP 44 rfl (fun c8 => ?_) (fun c8 => ?_)
     ·
      iterate 4 refine dk ?_
      refine dk' ?_
      refine D_end (hK13 _ _ ?_)
      refine W_t rfl ?_
      refine W_seq fun K14 hK14 => ?_
      refine wr ?_
      iterate 2 refine da ?_
      refine D_end (hK14 _ _ ?_)
      refine W_ret ?_
      try dsimp only [then', inBlk, noGo]
      refine rt ?_
      refine ⟨?_, hx⟩
      first
      | rw [num_yes hne hle (by rw [List.take_of_length_le (by omega)] at ha; exact ha) hd0 h48]; rfl
      | rw [num_no3 (by rw [not_all hk (by rw [Bool.eq_false_iff]; intro h; unfold isDig at h; simp only [Bool.and_eq_true, decide_eq_true_eq] at h; first | exact absurd h.1 (UInt8.not_le.2 (by assumption)) | exact absurd h.2 (UInt8.not_le.2 (by assumption)))]; decide)]; rfl
      | rw [num_no1 (List.eq_nil_of_length_eq_zero (by omega))]; rfl
      | rw [num_no2 (show 18 < (restS s).length by omega)]; rfl
      | rw [num_no4 (by rw [hd0]; congr 1) (by rintro rfl; simp at *)]; rfl
     ·
      iterate 2 refine dm ?_
      refine dp (pv_idxS (by kernel_rfl) rfl rfl hk) ?_
      refine dp (pv_gtrB (b := 57) rfl rfl) ?_
      refine dk' ?_
      refine D_end (hK13 _ _ ?_)
      refine W_if rfl (fun c9 => ?_) (fun c9 => ?_)
      ·
       refine W_seq fun K15 hK15 => ?_
       refine wr ?_
       iterate 2 refine da ?_
       refine D_end (hK15 _ _ ?_)
       refine W_ret ?_
       try dsimp only [then', inBlk, noGo]
       refine rt ?_
       refine ⟨?_, hx⟩
       first
       | rw [num_yes hne hle (by rw [List.take_of_length_le (by omega)] at ha; exact ha) hd0 h48]; rfl
       | rw [num_no3 (by rw [not_all hk (by rw [Bool.eq_false_iff]; intro h; unfold isDig at h; simp only [Bool.and_eq_true, decide_eq_true_eq] at h; first | exact absurd h.1 (UInt8.not_le.2 (by assumption)) | exact absurd h.2 (UInt8.not_le.2 (by assumption)))]; decide)]; rfl
       | rw [num_no1 (List.eq_nil_of_length_eq_zero (by omega))]; rfl
       | rw [num_no2 (show 18 < (restS s).length by omega)]; rfl
       | rw [num_no4 (by rw [hd0]; congr 1) (by rintro rfl; simp at *)]; rfl
      ·
       refine W_skip ?_
       refine hK12 _ _ ?_
       refine wr ?_
       refine dm ?_
       refine dp (pv_add rfl rfl (by unfold inI64; omega)) ?_
       refine da ?_
       refine D_end (?_)
       refine ⟨k + 1, ⟨rfl, rfl, rfl, trivial⟩, ⟨hx, by omega, all_take hk ha (by simp only [isDig, decide_eq_true (UInt8.not_lt.1 (by assumption : ¬ c < 48)), decide_eq_true (UInt8.not_lt.1 (by assumption : ¬ 57 < c))]; rfl)⟩, by omega⟩
    ·
     refine W_exit ?_
     refine hK8 _ _ ?_
     refine W_seq fun K16 hK16 => ?_
     refine wr ?_
     refine dm ?_
     iterate 2 refine da ?_
     refine D_end (hK16 _ _ ?_)
     refine W_ret ?_
     try dsimp only [then', inBlk, noGo]
     refine rt ?_
     refine ⟨?_, hx⟩
     first
     | rw [num_yes hne hle (by rw [List.take_of_length_le (by omega)] at ha; exact ha) hd0 h48]; rfl
     | rw [num_no3 (by rw [not_all hk (by rw [Bool.eq_false_iff]; intro h; unfold isDig at h; simp only [Bool.and_eq_true, decide_eq_true_eq] at h; first | exact absurd h.1 (UInt8.not_le.2 (by assumption)) | exact absurd h.2 (UInt8.not_le.2 (by assumption)))]; decide)]; rfl
     | rw [num_no1 (List.eq_nil_of_length_eq_zero (by omega))]; rfl
     | rw [num_no2 (show 18 < (restS s).length by omega)]; rfl
     | rw [num_no4 (by rw [hd0]; congr 1) (by rintro rfl; simp at *)]; rfl

set_option maxRecDepth 100000 in
set_option maxHeartbeats 1000000 in
theorem phone_w (s : Str) (w : World) (hg : GV w) (hs : s.length ≤ 1000000) :
  Calls Tryz.prog 46 [S s].toArray w (Pure w (S (bareS s))) := by
 refine calls_W Tryz.func46 rfl rfl rfl (by kernel_rfl) ?_
 have hx := Ext.refl w
 have hrl := repl_len0 32 s
 refine W_seq fun K1 hK1 => ?_
 refine wr ?_
 refine da ?_
 refine D_end (hK1 _ _ ?_)
 refine W_seq fun K2 hK2 => ?_
 refine wr ?_
 refine dm ?_
 refine D_callP rfl (by kernel_rfl) (replaceAll_w s 32 [] _ (hg.ext hx) (by decide) hs (by decide)) rfl RX.all (fun w1 x1 => ?_)
 replace hx := hx.trans x1
 refine D_callP rfl (by kernel_rfl) (replaceAll_w (repl 32 [] s) 45 [] _ (hg.ext hx) (by decide) (by omega) (by decide)) rfl RX.all (fun w2 x2 => ?_)
 replace hx := hx.trans x2
 refine da ?_
 refine D_end (hK2 _ _ ?_)
 refine W_ret ?_
 try dsimp only [then', inBlk, noGo]
 refine ro ?_
 refine ⟨?_, hx⟩
 rw [bare_repl]

set_option maxRecDepth 100000 in
set_option maxHeartbeats 1000000 in
theorem bare_w (s : Str) (w : World) (hs : s.length ≤ 1000000) :
  Calls Tryz.prog 88 [S s].toArray w (Pure w (S (bareS s))) := by
 refine calls_W Tryz.func88 rfl rfl rfl (by kernel_rfl) ?_
 have hx := Ext.refl w
 refine W_seq fun K1 hK1 => ?_
 refine wr ?_
 refine da ?_
 refine D_end (hK1 _ _ ?_)
 refine W_seq fun K2 hK2 => ?_
 refine wr ?_
 refine da ?_
 refine D_end (hK2 _ _ ?_)
 refine W_seq fun K3 hK3 => ?_
 refine W_seq fun K4 hK4 => ?_
 refine wr ?_
 refine da ?_
 refine D_end (hK4 _ _ ?_)
 refine W_block ?_
 refine W_loop (G := Nat × Value) (fun (k, vb) => [(0, S s), (2, S []), (3, vb), (4, I ↑k)]) (fun (k, vb) w' => Ext w w' ∧ k ≤ s.length ∧ Own encB 1 5 w.heap.size w' vb (bareS (s.take k))) (fun (k, vb) => s.length - k) (0, .slice none 0 0) ?_ ?_ ?_
 ·
  exact ⟨rfl, rfl, rfl, rfl, trivial⟩
 ·
  exact ⟨hx, Nat.zero_le _, Own.nil⟩
 ·
  intro X1 g1 w1 hF1
  obtain ⟨k, vb⟩ := g1
  clear hx
  obtain ⟨hx, hk1, ho⟩ := hF1
  have hbl := bare_len (s.take k)
  have htl : (s.take k).length ≤ k := List.length_take_le ..
  refine W_seq fun K5 hK5 => ?_
  refine W_seq fun K6 hK6 => ?_
  refine wr ?_
  iterate 2 refine dm ?_
  refine dp (pv_lenS (by kernel_rfl) rfl) ?_
  refine dp (pv_lss rfl rfl) ?_
  refine D_end (hK6 _ _ ?_)
  refine W_if rfl (fun c1 => ?_) (fun c1 => ?_)
  ·
   obtain ⟨c, hk⟩ : ∃ c, s[k]? = some c := ⟨_, List.getElem?_eq_getElem (by omega)⟩
   refine W_skip ?_
   refine hK5 _ _ ?_
   refine W_seq fun K7 hK7 => ?_
   refine W_block ?_
   refine W_seq fun K8 hK8 => ?_
   refine wr ?_
   iterate 2 refine dm ?_
   refine dp (pv_idxS (by kernel_rfl) rfl rfl hk) ?_
   refine dp (pv_neqB (b := 32) rfl rfl) ?_
   refine dm ?_
   refine D_splitP 15 rfl (fun c2 => ?_) (fun c2 => ?_)
   ·
    iterate 2 refine dm ?_
    refine dp (pv_idxS (by kernel_rfl) rfl rfl hk) ?_
    refine dp (pv_neqB (b := 45) rfl rfl) ?_
    refine dk' ?_
    refine D_end (hK8 _ _ ?_)
    refine W_if rfl (fun c3 => ?_) (fun c3 => ?_)
    ·
     refine wr ?_
     iterate 3 refine dm ?_
     refine dp (pv_idxS (by kernel_rfl) rfl rfl hk) ?_
     refine D_lit (e := 5) (sz := 1) (zs := [.int .u8 0]) (pv := [(0, ?a15_0)]) (cs := [?a15_0]) rfl (by kernel_rfl) ⟨rfl, rfl⟩ (by kernel_rfl) rfl ?h15 ?f15 RX.all (fun b1 w2 e1 x2 m1 => ?k15)
     case h15 => refine ⟨rfl, ?_, trivial⟩ <;> (conv => lhs; whnf)
     case f15 => rfl
     have g1 : w.heap.size ≤ b1 := by have := hx.size; omega
     have o1_ho : ∀ k, Value.ownBlock _ = some k → k < b1 := fun k hk => by have := (ho.lt k hk).2; omega
     replace ho := ho.ext x2
     replace hx := hx.trans x2
     refine D_append (lx := [c]) (e := 5) (sz := 1) (by' := 1) rfl (by kernel_rfl) (by kernel_rfl) (by intro x; rfl) ho (m1.arr (enc := encB) (sz := 1) (l := [c]) rfl (by intro x; rfl) rfl (Nat.le_of_ble_eq_true rfl)) rfl rfl (by intro x _ u hu; simp at hu; rcases hu with rfl <;> rfl) (by simp; omega) (by decide) hx.size (.inl rfl) (fun vb2 w3 ho_n x3 => ?_)
     replace hx := hx.own x3 (fun i hi => (ho.lt i hi).1)
     replace ho := ho_n
     clear m1
     refine da ?_
     refine D_end (hK7 _ _ ?_)
     refine wr ?_
     refine dm ?_
     refine dp (pv_add rfl rfl (by unfold inI64; omega)) ?_
     refine da ?_
     refine D_end (?_)
     first
     | (refine ⟨(k + 1, vb2), ⟨rfl, rfl, rfl, rfl, trivial⟩, ⟨hx, by omega, ?_⟩, by simp only []; omega⟩; rw [bare_next hk, if_pos ⟨c2, c3⟩]; exact ho)
     | (refine ⟨(k + 1, vb), ⟨rfl, rfl, rfl, rfl, trivial⟩, ⟨hx, by omega, ?_⟩, by simp only []; omega⟩; rw [bare_next hk, if_neg (by first | exact fun h => c2 h.1 | exact fun h => c3 h.2), List.append_nil]; exact ho)
    ·
     refine W_skip ?_
     refine hK7 _ _ ?_
     refine wr ?_
     refine dm ?_
     refine dp (pv_add rfl rfl (by unfold inI64; omega)) ?_
     refine da ?_
     refine D_end (?_)
     first
     | (refine ⟨(k + 1, vb2), ⟨rfl, rfl, rfl, rfl, trivial⟩, ⟨hx, by omega, ?_⟩, by simp only []; omega⟩; rw [bare_next hk, if_pos ⟨c2, c3⟩]; exact ho)
     | (refine ⟨(k + 1, vb), ⟨rfl, rfl, rfl, rfl, trivial⟩, ⟨hx, by omega, ?_⟩, by simp only []; omega⟩; rw [bare_next hk, if_neg (by first | exact fun h => c2 h.1 | exact fun h => c3 h.2), List.append_nil]; exact ho)
   ·
    iterate 4 refine dk ?_
    refine dk' ?_
    refine D_end (hK8 _ _ ?_)
    refine W_f rfl ?_
    refine W_skip ?_
    refine hK7 _ _ ?_
    refine wr ?_
    refine dm ?_
    refine dp (pv_add rfl rfl (by unfold inI64; omega)) ?_
    refine da ?_
    refine D_end (?_)
    first
    | (refine ⟨(k + 1, vb2), ⟨rfl, rfl, rfl, rfl, trivial⟩, ⟨hx, by omega, ?_⟩, by simp only []; omega⟩; rw [bare_next hk, if_pos ⟨c2, c3⟩]; exact ho)
    | (refine ⟨(k + 1, vb), ⟨rfl, rfl, rfl, rfl, trivial⟩, ⟨hx, by omega, ?_⟩, by simp only []; omega⟩; rw [bare_next hk, if_neg (by first | exact fun h => c2 h.1 | exact fun h => c3 h.2), List.append_nil]; exact ho)
  ·
   refine W_exit ?_
   refine hK3 _ _ ?_
   refine W_seq fun K9 hK9 => ?_
   refine W_reg [.p, .l, .p] rfl ?_
   refine dm ?_
   refine dq (lv_b2s (by kernel_rfl) (by kernel_rfl) (ho.arr (by intro x; rfl)) rfl) ?_
   refine da ?_
   refine D_end (hK9 _ _ ?_)
   refine W_ret ?_
   try dsimp only [then', inBlk, noGo]
   refine ro ?_
   rw [List.take_of_length_le (by omega)]
   exact ⟨rfl, hx⟩

set_option maxRecDepth 100000 in
set_option maxHeartbeats 1000000 in
theorem normM_w (syn : Int) (s : Str) (w : World) (hg : GV w) (hs : s.length ≤ 140737488355328) :
  Calls Tryz.prog 19 [I syn, S s].toArray w (Pure w (.tuple #[S ((normM syn s).getD []), B (normM syn s).isSome])) := by
 refine calls_W Tryz.func19 rfl rfl rfl (by kernel_rfl) ?_
 have hx := Ext.refl w
 refine W_seq fun K1 hK1 => ?_
 refine wr ?_
 iterate 2 refine da ?_
 refine D_end (hK1 _ _ ?_)
 refine W_seq fun K2 hK2 => ?_
 refine W_seq fun K3 hK3 => ?_
 refine wr ?_
 refine dm ?_
 refine dp (pv_lenS (by kernel_rfl) rfl) ?_
 refine dp (pv_gtr rfl rfl) ?_
 refine D_end (hK3 _ _ ?_)
 refine W_if rfl (fun c1 => ?_) (fun c1 => ?_)
 ·
  refine W_seq fun K4 hK4 => ?_
  refine wr ?_
  iterate 2 refine da ?_
  refine D_end (hK4 _ _ ?_)
  refine W_ret ?_
  try dsimp only [then', inBlk, noGo]
  refine rt ?_
  refine ⟨?_, hx⟩
  unfold normM
  try simp only [ne_eq, Decidable.not_not] at *
  have hf0 : foldS [] = [] := rfl
  first
  | (rw [if_pos (show 256 < s.length by omega)]; rfl)
  | (rw [if_neg (show ¬ 256 < s.length by omega)]; simp [*]; done)
  | (rw [if_neg (show ¬ 256 < s.length by omega)]; first | (have hv := valS_fold c3; simp [*]; done) | (have hv := valS_blank (s := s) (by assumption) (by assumption); simp [*]; done) | (have hs0 : s = [] := by assumption; simp [*]; done) | (by_cases hn : numB s = true <;> simp [*]; done) | (by_cases hb : bareS s = [] <;> simp [*]; done))
 ·
  refine W_skip ?_
  refine hK2 _ _ ?_
  refine W_seq fun K5 hK5 => ?_
  refine W_seq fun K6 hK6 => ?_
  refine wr ?_
  refine dm ?_
  refine D_end (hK6 _ _ ?_)
  refine W_block ?_
  refine W_seq fun K7 hK7 => ?_
  refine wr ?_
  refine dp (pv_eql rfl rfl) ?_
  refine da ?_
  refine D_end (hK7 _ _ ?_)
  refine W_if rfl (fun c2 => ?_) (fun c2 => ?_)
  ·
   refine W_seq fun K8 hK8 => ?_
   refine W_seq fun K9 hK9 => ?_
   refine wr ?_
   refine dm ?_
   refine D_callP rfl (by kernel_rfl) (fold_w s _ (by omega)) rfl RX.all (fun w1 x1 => ?_)
   replace hx := hx.trans x1
   refine da ?_
   refine D_end (hK9 _ _ ?_)
   refine W_seq fun K10 hK10 => ?_
   refine wr ?_
   refine dm ?_
   refine dp (pv_sne rfl rfl) ?_
   refine D_end (hK10 _ _ ?_)
   refine W_if rfl (fun c3 => ?_) (fun c3 => ?_)
   ·
    refine W_seq fun K11 hK11 => ?_
    refine wr ?_
    refine dm ?_
    iterate 2 refine da ?_
    refine D_end (hK11 _ _ ?_)
    refine W_ret ?_
    try dsimp only [then', inBlk, noGo]
    refine rt ?_
    refine ⟨?_, hx⟩
    unfold normM
    try simp only [ne_eq, Decidable.not_not] at *
    have hf0 : foldS [] = [] := rfl
    first
    | (rw [if_pos (show 256 < s.length by omega)]; rfl)
    | (rw [if_neg (show ¬ 256 < s.length by omega)]; simp [*]; done)
    | (rw [if_neg (show ¬ 256 < s.length by omega)]; first | (have hv := valS_fold c3; simp [*]; done) | (have hv := valS_blank (s := s) (by assumption) (by assumption); simp [*]; done) | (have hs0 : s = [] := by assumption; simp [*]; done) | (by_cases hn : numB s = true <;> simp [*]; done) | (by_cases hb : bareS s = [] <;> simp [*]; done))
   ·
    refine W_skip ?_
    refine hK8 _ _ ?_
    refine W_seq fun K12 hK12 => ?_
    refine wr ?_
    refine dm ?_
    refine dp (pv_sne rfl rfl) ?_
    refine D_end (hK12 _ _ ?_)
    refine W_if rfl (fun c4 => ?_) (fun c4 => ?_)
    ·
     refine W_seq fun K13 hK13 => ?_
     refine wr ?_
     iterate 2 refine da ?_
     refine D_end (hK13 _ _ ?_)
     refine W_ret ?_
     try dsimp only [then', inBlk, noGo]
     refine rt ?_
     refine ⟨?_, hx⟩
     unfold normM
     try simp only [ne_eq, Decidable.not_not] at *
     have hf0 : foldS [] = [] := rfl
     first
     | (rw [if_pos (show 256 < s.length by omega)]; rfl)
     | (rw [if_neg (show ¬ 256 < s.length by omega)]; simp [*]; done)
     | (rw [if_neg (show ¬ 256 < s.length by omega)]; first | (have hv := valS_fold c3; simp [*]; done) | (have hv := valS_blank (s := s) (by assumption) (by assumption); simp [*]; done) | (have hs0 : s = [] := by assumption; simp [*]; done) | (by_cases hn : numB s = true <;> simp [*]; done) | (by_cases hb : bareS s = [] <;> simp [*]; done))
    ·
     refine W_skip ?_
     refine hK5 _ _ ?_
     refine W_seq fun K14 hK14 => ?_
     refine wr ?_
     iterate 2 refine da ?_
     refine D_end (hK14 _ _ ?_)
     refine W_ret ?_
     try dsimp only [then', inBlk, noGo]
     refine rt ?_
     refine ⟨?_, hx⟩
     unfold normM
     try simp only [ne_eq, Decidable.not_not] at *
     have hf0 : foldS [] = [] := rfl
     first
     | (rw [if_pos (show 256 < s.length by omega)]; rfl)
     | (rw [if_neg (show ¬ 256 < s.length by omega)]; simp [*]; done)
     | (rw [if_neg (show ¬ 256 < s.length by omega)]; first | (have hv := valS_fold c3; simp [*]; done) | (have hv := valS_blank (s := s) (by assumption) (by assumption); simp [*]; done) | (have hs0 : s = [] := by assumption; simp [*]; done) | (by_cases hn : numB s = true <;> simp [*]; done) | (by_cases hb : bareS s = [] <;> simp [*]; done))
  ·
   refine W_seq fun K15 hK15 => ?_
   refine wr ?_
   refine dp (pv_eql rfl rfl) ?_
   refine da ?_
   refine D_end (hK15 _ _ ?_)
   refine W_if rfl (fun c5 => ?_) (fun c5 => ?_)
   ·
    refine W_seq fun K16 hK16 => ?_
    refine wr ?_
    refine dm ?_
    refine D_callP rfl (by kernel_rfl) (number_w s _ (by omega)) rfl RX.all (fun w2 x2 => ?_)
    replace hx := hx.trans x2
    refine dp (pv_ext rfl rfl) ?_
    refine dp (pv_ext rfl rfl) ?_
    iterate 2 refine da ?_
    refine D_end (hK16 _ _ ?_)
    refine W_ret ?_
    try dsimp only [then', inBlk, noGo]
    refine rt ?_
    refine ⟨?_, hx⟩
    unfold normM
    try simp only [ne_eq, Decidable.not_not] at *
    have hf0 : foldS [] = [] := rfl
    first
    | (rw [if_pos (show 256 < s.length by omega)]; rfl)
    | (rw [if_neg (show ¬ 256 < s.length by omega)]; simp [*]; done)
    | (rw [if_neg (show ¬ 256 < s.length by omega)]; first | (have hv := valS_fold c3; simp [*]; done) | (have hv := valS_blank (s := s) (by assumption) (by assumption); simp [*]; done) | (have hs0 : s = [] := by assumption; simp [*]; done) | (by_cases hn : numB s = true <;> simp [*]; done) | (by_cases hb : bareS s = [] <;> simp [*]; done))
   ·
    refine W_seq fun K17 hK17 => ?_
    refine wr ?_
    refine dp (pv_eql rfl rfl) ?_
    refine da ?_
    refine D_end (hK17 _ _ ?_)
    refine W_if rfl (fun c6 => ?_) (fun c6 => ?_)
    ·
     refine W_seq fun K18 hK18 => ?_
     refine wr ?_
     refine dm ?_
     refine D_callG rfl (by kernel_rfl) (parse_w s _ (by omega)) rfl RX.all (fun u3 w3 x3 hf3 => ?_)
     have hsz3 := hx.size
     replace hx := hx.trans x3
     obtain ⟨vp, rfl, hpa⟩ := hf3
     refine dm ?_
     refine dp (pv_ext rfl rfl) ?_
     refine dp (pv_ext rfl rfl) ?_
     iterate 2 refine da ?_
     refine D_end (hK18 _ _ ?_)
     refine W_seq fun K19 hK19 => ?_
     refine wr ?_
     refine dm ?_
     refine dp (pv_eql rfl rfl) ?_
     refine D_end (hK19 _ _ ?_)
     refine W_if rfl (fun c7 => ?_) (fun c7 => ?_)
     ·
      refine W_seq fun K20 hK20 => ?_
      refine wr ?_
      refine dm ?_
      refine D_callG rfl (by kernel_rfl) (norm_w (parseS s).1 vp _ hpa (parse_small s)) rfl RX.all (fun vq w4 x4 hqa => ?_)
      have hsz4 := hx.size
      replace hpa := hpa.ext x4
      replace hx := hx.trans x4
      refine D_callP rfl (by kernel_rfl) (print_w ((parseS s).1.map normA) vq _ hqa (small_norm (parse_small s))) rfl RX.all (fun w5 x5 => ?_)
      replace hpa := hpa.ext x5
      replace hqa := hqa.ext x5
      replace hx := hx.trans x5
      iterate 2 refine da ?_
      refine D_end (hK20 _ _ ?_)
      refine W_ret ?_
      try dsimp only [then', inBlk, noGo]
      refine rt ?_
      refine ⟨?_, hx⟩
      unfold normM
      try simp only [ne_eq, Decidable.not_not] at *
      have hf0 : foldS [] = [] := rfl
      first
      | (rw [if_pos (show 256 < s.length by omega)]; rfl)
      | (rw [if_neg (show ¬ 256 < s.length by omega)]; simp [*]; done)
      | (rw [if_neg (show ¬ 256 < s.length by omega)]; first | (have hv := valS_fold c3; simp [*]; done) | (have hv := valS_blank (s := s) (by assumption) (by assumption); simp [*]; done) | (have hs0 : s = [] := by assumption; simp [*]; done) | (by_cases hn : numB s = true <;> simp [*]; done) | (by_cases hb : bareS s = [] <;> simp [*]; done))
     ·
      refine W_skip ?_
      refine hK5 _ _ ?_
      refine W_seq fun K21 hK21 => ?_
      refine wr ?_
      iterate 2 refine da ?_
      refine D_end (hK21 _ _ ?_)
      refine W_ret ?_
      try dsimp only [then', inBlk, noGo]
      refine rt ?_
      refine ⟨?_, hx⟩
      unfold normM
      try simp only [ne_eq, Decidable.not_not] at *
      have hf0 : foldS [] = [] := rfl
      first
      | (rw [if_pos (show 256 < s.length by omega)]; rfl)
      | (rw [if_neg (show ¬ 256 < s.length by omega)]; simp [*]; done)
      | (rw [if_neg (show ¬ 256 < s.length by omega)]; first | (have hv := valS_fold c3; simp [*]; done) | (have hv := valS_blank (s := s) (by assumption) (by assumption); simp [*]; done) | (have hs0 : s = [] := by assumption; simp [*]; done) | (by_cases hn : numB s = true <;> simp [*]; done) | (by_cases hb : bareS s = [] <;> simp [*]; done))
    ·
     refine W_seq fun K22 hK22 => ?_
     refine wr ?_
     refine dp (pv_eql rfl rfl) ?_
     refine da ?_
     refine D_end (hK22 _ _ ?_)
     refine W_if rfl (fun c8 => ?_) (fun c8 => ?_)
     ·
      refine W_seq fun K23 hK23 => ?_
      refine wr ?_
      refine dm ?_
      iterate 2 refine da ?_
      refine D_end (hK23 _ _ ?_)
      refine W_ret ?_
      try dsimp only [then', inBlk, noGo]
      refine rt ?_
      refine ⟨?_, hx⟩
      unfold normM
      try simp only [ne_eq, Decidable.not_not] at *
      have hf0 : foldS [] = [] := rfl
      first
      | (rw [if_pos (show 256 < s.length by omega)]; rfl)
      | (rw [if_neg (show ¬ 256 < s.length by omega)]; simp [*]; done)
      | (rw [if_neg (show ¬ 256 < s.length by omega)]; first | (have hv := valS_fold c3; simp [*]; done) | (have hv := valS_blank (s := s) (by assumption) (by assumption); simp [*]; done) | (have hs0 : s = [] := by assumption; simp [*]; done) | (by_cases hn : numB s = true <;> simp [*]; done) | (by_cases hb : bareS s = [] <;> simp [*]; done))
     ·
      refine W_seq fun K24 hK24 => ?_
      refine wr ?_
      refine dp (pv_eql rfl rfl) ?_
      refine da ?_
      refine D_end (hK24 _ _ ?_)
      refine W_if rfl (fun c9 => ?_) (fun c9 => ?_)
      ·
       refine W_seq fun K25 hK25 => ?_
       refine wr ?_
       refine dm ?_
       refine D_callP rfl (by kernel_rfl) (phone_w s _ (hg.ext hx) (by omega)) rfl RX.all (fun w6 x6 => ?_)
       replace hx := hx.trans x6
       refine da ?_
       refine D_end (hK25 _ _ ?_)
       refine W_seq fun K26 hK26 => ?_
       refine wr ?_
       iterate 2 refine dm ?_
       refine dp (pv_sne rfl rfl) ?_
       iterate 2 refine da ?_
       refine D_end (hK26 _ _ ?_)
       refine W_ret ?_
       try dsimp only [then', inBlk, noGo]
       refine rt ?_
       refine ⟨?_, hx⟩
       unfold normM
       try simp only [ne_eq, Decidable.not_not] at *
       have hf0 : foldS [] = [] := rfl
       first
       | (rw [if_pos (show 256 < s.length by omega)]; rfl)
       | (rw [if_neg (show ¬ 256 < s.length by omega)]; simp [*]; done)
       | (rw [if_neg (show ¬ 256 < s.length by omega)]; first | (have hv := valS_fold c3; simp [*]; done) | (have hv := valS_blank (s := s) (by assumption) (by assumption); simp [*]; done) | (have hs0 : s = [] := by assumption; simp [*]; done) | (by_cases hn : numB s = true <;> simp [*]; done) | (by_cases hb : bareS s = [] <;> simp [*]; done))
      ·
       refine W_skip ?_
       refine hK5 _ _ ?_
       refine W_seq fun K27 hK27 => ?_
       refine wr ?_
       iterate 2 refine da ?_
       refine D_end (hK27 _ _ ?_)
       refine W_ret ?_
       try dsimp only [then', inBlk, noGo]
       refine rt ?_
       refine ⟨?_, hx⟩
       unfold normM
       try simp only [ne_eq, Decidable.not_not] at *
       have hf0 : foldS [] = [] := rfl
       first
       | (rw [if_pos (show 256 < s.length by omega)]; rfl)
       | (rw [if_neg (show ¬ 256 < s.length by omega)]; simp [*]; done)
       | (rw [if_neg (show ¬ 256 < s.length by omega)]; first | (have hv := valS_fold c3; simp [*]; done) | (have hv := valS_blank (s := s) (by assumption) (by assumption); simp [*]; done) | (have hs0 : s = [] := by assumption; simp [*]; done) | (by_cases hn : numB s = true <;> simp [*]; done) | (by_cases hb : bareS s = [] <;> simp [*]; done))

set_option maxRecDepth 100000 in
set_option maxHeartbeats 1000000 in
theorem rnormM_w (syn : Int) (s : Str) (w : World) (hs : s.length ≤ 140737488355328) :
  Calls Tryz.prog 58 [I syn, S s].toArray w (Pure w (.tuple #[S ((normM syn s).getD []), B (normM syn s).isSome])) := by
 refine calls_W Tryz.func58 rfl rfl rfl (by kernel_rfl) ?_
 have hx := Ext.refl w
 refine W_seq fun K1 hK1 => ?_
 refine wr ?_
 iterate 2 refine da ?_
 refine D_end (hK1 _ _ ?_)
 refine W_seq fun K2 hK2 => ?_
 refine W_seq fun K3 hK3 => ?_
 refine wr ?_
 refine dm ?_
 refine dp (pv_lenS (by kernel_rfl) rfl) ?_
 refine dp (pv_gtr rfl rfl) ?_
 refine D_end (hK3 _ _ ?_)
 refine W_if rfl (fun c1 => ?_) (fun c1 => ?_)
 ·
  refine W_seq fun K4 hK4 => ?_
  refine wr ?_
  iterate 2 refine da ?_
  refine D_end (hK4 _ _ ?_)
  refine W_ret ?_
  try dsimp only [then', inBlk, noGo]
  refine rt ?_
  refine ⟨?_, hx⟩
  unfold normM
  try simp only [ne_eq, Decidable.not_not] at *
  have hf0 : foldS [] = [] := rfl
  first
  | (rw [if_pos (show 256 < s.length by omega)]; rfl)
  | (rw [if_neg (show ¬ 256 < s.length by omega)]; simp [*]; done)
  | (rw [if_neg (show ¬ 256 < s.length by omega)]; first | (have hv := valS_fold (by assumption); simp [*]; done) | (have hv := valS_blank (s := s) (by assumption) (by assumption); simp [*]; done) | (have hv := valS_fold (s := s) (by assumption); simp [*]; done) | (have hs0 : s = [] := by assumption; simp [*]; done) | (by_cases hn : numB s = true <;> simp [*]; done) | (by_cases hb : bareS s = [] <;> simp [*]; done))
 ·
  refine W_skip ?_
  refine hK2 _ _ ?_
  refine W_seq fun K5 hK5 => ?_
  refine W_seq fun K6 hK6 => ?_
  refine wr ?_
  refine dm ?_
  refine D_end (hK6 _ _ ?_)
  refine W_block ?_
  refine W_seq fun K7 hK7 => ?_
  refine wr ?_
  refine dp (pv_eql rfl rfl) ?_
  refine da ?_
  refine D_end (hK7 _ _ ?_)
  refine W_if rfl (fun c2 => ?_) (fun c2 => ?_)
  ·
   refine W_seq fun K8 hK8 => ?_
   refine wr ?_
   refine dm ?_
   refine D_callP rfl (by kernel_rfl) (rfold_w s _ (by omega)) rfl RX.all (fun w1 x1 => ?_)
   replace hx := hx.trans x1
   refine da ?_
   refine D_end (hK8 _ _ ?_)
   refine W_seq fun K9 hK9 => ?_
   refine W_seq fun K10 hK10 => ?_
   refine wr ?_
   refine dm ?_
   refine dp (pv_seq rfl rfl) ?_
   refine dm ?_
   refine D_splitP 19 rfl (fun c3 => ?_) (fun c3 => ?_)
   ·
    refine dm ?_
    refine dp (pv_sne rfl rfl) ?_
    refine dk' ?_
    refine D_end (hK10 _ _ ?_)
    refine W_if rfl (fun c4 => ?_) (fun c4 => ?_)
    ·
     refine wr ?_
     refine da ?_
     refine D_end (hK9 _ _ ?_)
     refine W_seq fun K11 hK11 => ?_
     refine wr ?_
     iterate 2 refine dm ?_
     refine dp (pv_sne rfl rfl) ?_
     iterate 2 refine da ?_
     refine D_end (hK11 _ _ ?_)
     refine W_ret ?_
     try dsimp only [then', inBlk, noGo]
     refine rt ?_
     refine ⟨?_, hx⟩
     unfold normM
     try simp only [ne_eq, Decidable.not_not] at *
     have hf0 : foldS [] = [] := rfl
     first
     | (rw [if_pos (show 256 < s.length by omega)]; rfl)
     | (rw [if_neg (show ¬ 256 < s.length by omega)]; simp [*]; done)
     | (rw [if_neg (show ¬ 256 < s.length by omega)]; first | (have hv := valS_fold (by assumption); simp [*]; done) | (have hv := valS_blank (s := s) (by assumption) (by assumption); simp [*]; done) | (have hv := valS_fold (s := s) (by assumption); simp [*]; done) | (have hs0 : s = [] := by assumption; simp [*]; done) | (by_cases hn : numB s = true <;> simp [*]; done) | (by_cases hb : bareS s = [] <;> simp [*]; done))
    ·
     refine W_skip ?_
     refine hK9 _ _ ?_
     refine W_seq fun K12 hK12 => ?_
     refine wr ?_
     iterate 2 refine dm ?_
     refine dp (pv_sne rfl rfl) ?_
     iterate 2 refine da ?_
     refine D_end (hK12 _ _ ?_)
     refine W_ret ?_
     try dsimp only [then', inBlk, noGo]
     refine rt ?_
     refine ⟨?_, hx⟩
     unfold normM
     try simp only [ne_eq, Decidable.not_not] at *
     have hf0 : foldS [] = [] := rfl
     first
     | (rw [if_pos (show 256 < s.length by omega)]; rfl)
     | (rw [if_neg (show ¬ 256 < s.length by omega)]; simp [*]; done)
     | (rw [if_neg (show ¬ 256 < s.length by omega)]; first | (have hv := valS_fold (by assumption); simp [*]; done) | (have hv := valS_blank (s := s) (by assumption) (by assumption); simp [*]; done) | (have hv := valS_fold (s := s) (by assumption); simp [*]; done) | (have hs0 : s = [] := by assumption; simp [*]; done) | (by_cases hn : numB s = true <;> simp [*]; done) | (by_cases hb : bareS s = [] <;> simp [*]; done))
   ·
    iterate 2 refine dk ?_
    refine dk' ?_
    refine D_end (hK10 _ _ ?_)
    refine W_f rfl ?_
    refine W_skip ?_
    refine hK9 _ _ ?_
    refine W_seq fun K13 hK13 => ?_
    refine wr ?_
    iterate 2 refine dm ?_
    refine dp (pv_sne rfl rfl) ?_
    iterate 2 refine da ?_
    refine D_end (hK13 _ _ ?_)
    refine W_ret ?_
    try dsimp only [then', inBlk, noGo]
    refine rt ?_
    refine ⟨?_, hx⟩
    unfold normM
    try simp only [ne_eq, Decidable.not_not] at *
    have hf0 : foldS [] = [] := rfl
    first
    | (rw [if_pos (show 256 < s.length by omega)]; rfl)
    | (rw [if_neg (show ¬ 256 < s.length by omega)]; simp [*]; done)
    | (rw [if_neg (show ¬ 256 < s.length by omega)]; first | (have hv := valS_fold (by assumption); simp [*]; done) | (have hv := valS_blank (s := s) (by assumption) (by assumption); simp [*]; done) | (have hv := valS_fold (s := s) (by assumption); simp [*]; done) | (have hs0 : s = [] := by assumption; simp [*]; done) | (by_cases hn : numB s = true <;> simp [*]; done) | (by_cases hb : bareS s = [] <;> simp [*]; done))
  ·
   refine W_seq fun K14 hK14 => ?_
   refine wr ?_
   refine dp (pv_eql rfl rfl) ?_
   refine da ?_
   refine D_end (hK14 _ _ ?_)
   refine W_if rfl (fun c5 => ?_) (fun c5 => ?_)
   ·
    refine W_seq fun K15 hK15 => ?_
    refine wr ?_
    refine dm ?_
    refine D_callP rfl (by kernel_rfl) (rnumber_w s _ (by omega)) rfl RX.all (fun w2 x2 => ?_)
    replace hx := hx.trans x2
    refine dp (pv_ext rfl rfl) ?_
    refine dp (pv_ext rfl rfl) ?_
    iterate 2 refine da ?_
    refine D_end (hK15 _ _ ?_)
    refine W_ret ?_
    try dsimp only [then', inBlk, noGo]
    refine rt ?_
    refine ⟨?_, hx⟩
    unfold normM
    try simp only [ne_eq, Decidable.not_not] at *
    have hf0 : foldS [] = [] := rfl
    first
    | (rw [if_pos (show 256 < s.length by omega)]; rfl)
    | (rw [if_neg (show ¬ 256 < s.length by omega)]; simp [*]; done)
    | (rw [if_neg (show ¬ 256 < s.length by omega)]; first | (have hv := valS_fold (by assumption); simp [*]; done) | (have hv := valS_blank (s := s) (by assumption) (by assumption); simp [*]; done) | (have hv := valS_fold (s := s) (by assumption); simp [*]; done) | (have hs0 : s = [] := by assumption; simp [*]; done) | (by_cases hn : numB s = true <;> simp [*]; done) | (by_cases hb : bareS s = [] <;> simp [*]; done))
   ·
    refine W_seq fun K16 hK16 => ?_
    refine wr ?_
    refine dp (pv_eql rfl rfl) ?_
    refine da ?_
    refine D_end (hK16 _ _ ?_)
    refine W_if rfl (fun c6 => ?_) (fun c6 => ?_)
    ·
     refine W_seq fun K17 hK17 => ?_
     refine wr ?_
     refine dm ?_
     refine D_callG rfl (by kernel_rfl) (rparse_w s _ (by omega)) rfl RX.all (fun u3 w3 x3 hf3 => ?_)
     have hsz3 := hx.size
     replace hx := hx.trans x3
     obtain ⟨vp, rfl, hpa⟩ := hf3
     refine dm ?_
     refine dp (pv_ext rfl rfl) ?_
     refine dp (pv_ext rfl rfl) ?_
     iterate 2 refine da ?_
     refine D_end (hK17 _ _ ?_)
     refine W_seq fun K18 hK18 => ?_
     refine W_seq fun K19 hK19 => ?_
     refine wr ?_
     refine dm ?_
     refine dp (pv_neq rfl rfl) ?_
     refine D_end (hK19 _ _ ?_)
     refine W_if rfl (fun c7 => ?_) (fun c7 => ?_)
     ·
      refine W_seq fun K20 hK20 => ?_
      refine wr ?_
      iterate 2 refine da ?_
      refine D_end (hK20 _ _ ?_)
      refine W_ret ?_
      try dsimp only [then', inBlk, noGo]
      refine rt ?_
      refine ⟨?_, hx⟩
      unfold normM
      try simp only [ne_eq, Decidable.not_not] at *
      have hf0 : foldS [] = [] := rfl
      first
      | (rw [if_pos (show 256 < s.length by omega)]; rfl)
      | (rw [if_neg (show ¬ 256 < s.length by omega)]; simp [*]; done)
      | (rw [if_neg (show ¬ 256 < s.length by omega)]; first | (have hv := valS_fold (by assumption); simp [*]; done) | (have hv := valS_blank (s := s) (by assumption) (by assumption); simp [*]; done) | (have hv := valS_fold (s := s) (by assumption); simp [*]; done) | (have hs0 : s = [] := by assumption; simp [*]; done) | (by_cases hn : numB s = true <;> simp [*]; done) | (by_cases hb : bareS s = [] <;> simp [*]; done))
     ·
      refine W_skip ?_
      refine hK18 _ _ ?_
      refine W_seq fun K21 hK21 => ?_
      refine wr ?_
      refine dm ?_
      refine D_callG rfl (by kernel_rfl) (rnorm_w (parseS s).1 vp _ hpa (parse_small s)) rfl RX.all (fun vq w4 x4 hqa => ?_)
      have hsz4 := hx.size
      replace hpa := hpa.ext x4
      replace hx := hx.trans x4
      refine D_callP rfl (by kernel_rfl) (rprint_w ((parseS s).1.map normA) vq _ hqa (small_norm (parse_small s))) rfl RX.all (fun w5 x5 => ?_)
      replace hpa := hpa.ext x5
      replace hqa := hqa.ext x5
      replace hx := hx.trans x5
      iterate 2 refine da ?_
      refine D_end (hK21 _ _ ?_)
      refine W_ret ?_
      try dsimp only [then', inBlk, noGo]
      refine rt ?_
      refine ⟨?_, hx⟩
      unfold normM
      try simp only [ne_eq, Decidable.not_not] at *
      have hf0 : foldS [] = [] := rfl
      first
      | (rw [if_pos (show 256 < s.length by omega)]; rfl)
      | (rw [if_neg (show ¬ 256 < s.length by omega)]; simp [*]; done)
      | (rw [if_neg (show ¬ 256 < s.length by omega)]; first | (have hv := valS_fold (by assumption); simp [*]; done) | (have hv := valS_blank (s := s) (by assumption) (by assumption); simp [*]; done) | (have hv := valS_fold (s := s) (by assumption); simp [*]; done) | (have hs0 : s = [] := by assumption; simp [*]; done) | (by_cases hn : numB s = true <;> simp [*]; done) | (by_cases hb : bareS s = [] <;> simp [*]; done))
    ·
     refine W_seq fun K22 hK22 => ?_
     refine wr ?_
     refine dp (pv_eql rfl rfl) ?_
     refine da ?_
     refine D_end (hK22 _ _ ?_)
     refine W_if rfl (fun c8 => ?_) (fun c8 => ?_)
     ·
      refine W_seq fun K23 hK23 => ?_
      refine wr ?_
      refine dm ?_
      iterate 2 refine da ?_
      refine D_end (hK23 _ _ ?_)
      refine W_ret ?_
      try dsimp only [then', inBlk, noGo]
      refine rt ?_
      refine ⟨?_, hx⟩
      unfold normM
      try simp only [ne_eq, Decidable.not_not] at *
      have hf0 : foldS [] = [] := rfl
      first
      | (rw [if_pos (show 256 < s.length by omega)]; rfl)
      | (rw [if_neg (show ¬ 256 < s.length by omega)]; simp [*]; done)
      | (rw [if_neg (show ¬ 256 < s.length by omega)]; first | (have hv := valS_fold (by assumption); simp [*]; done) | (have hv := valS_blank (s := s) (by assumption) (by assumption); simp [*]; done) | (have hv := valS_fold (s := s) (by assumption); simp [*]; done) | (have hs0 : s = [] := by assumption; simp [*]; done) | (by_cases hn : numB s = true <;> simp [*]; done) | (by_cases hb : bareS s = [] <;> simp [*]; done))
     ·
      refine W_seq fun K24 hK24 => ?_
      refine wr ?_
      refine dp (pv_eql rfl rfl) ?_
      refine da ?_
      refine D_end (hK24 _ _ ?_)
      refine W_if rfl (fun c9 => ?_) (fun c9 => ?_)
      ·
       refine W_seq fun K25 hK25 => ?_
       refine wr ?_
       refine dm ?_
       refine D_callP rfl (by kernel_rfl) (bare_w s _ (by omega)) rfl RX.all (fun w6 x6 => ?_)
       replace hx := hx.trans x6
       refine dm ?_
       refine D_callP rfl (by kernel_rfl) (bare_w s _ (by omega)) rfl RX.all (fun w7 x7 => ?_)
       replace hx := hx.trans x7
       refine dp (pv_sne rfl rfl) ?_
       iterate 2 refine da ?_
       refine D_end (hK25 _ _ ?_)
       refine W_ret ?_
       try dsimp only [then', inBlk, noGo]
       refine rt ?_
       refine ⟨?_, hx⟩
       unfold normM
       try simp only [ne_eq, Decidable.not_not] at *
       have hf0 : foldS [] = [] := rfl
       first
       | (rw [if_pos (show 256 < s.length by omega)]; rfl)
       | (rw [if_neg (show ¬ 256 < s.length by omega)]; simp [*]; done)
       | (rw [if_neg (show ¬ 256 < s.length by omega)]; first | (have hv := valS_fold (by assumption); simp [*]; done) | (have hv := valS_blank (s := s) (by assumption) (by assumption); simp [*]; done) | (have hv := valS_fold (s := s) (by assumption); simp [*]; done) | (have hs0 : s = [] := by assumption; simp [*]; done) | (by_cases hn : numB s = true <;> simp [*]; done) | (by_cases hb : bareS s = [] <;> simp [*]; done))
      ·
       refine W_skip ?_
       refine hK5 _ _ ?_
       refine W_seq fun K26 hK26 => ?_
       refine wr ?_
       iterate 2 refine da ?_
       refine D_end (hK26 _ _ ?_)
       refine W_ret ?_
       try dsimp only [then', inBlk, noGo]
       refine rt ?_
       refine ⟨?_, hx⟩
       unfold normM
       try simp only [ne_eq, Decidable.not_not] at *
       have hf0 : foldS [] = [] := rfl
       first
       | (rw [if_pos (show 256 < s.length by omega)]; rfl)
       | (rw [if_neg (show ¬ 256 < s.length by omega)]; simp [*]; done)
       | (rw [if_neg (show ¬ 256 < s.length by omega)]; first | (have hv := valS_fold (by assumption); simp [*]; done) | (have hv := valS_blank (s := s) (by assumption) (by assumption); simp [*]; done) | (have hv := valS_fold (s := s) (by assumption); simp [*]; done) | (have hs0 : s = [] := by assumption; simp [*]; done) | (by_cases hn : numB s = true <;> simp [*]; done) | (by_cases hb : bareS s = [] <;> simp [*]; done))

set_option maxRecDepth 100000 in
set_option maxHeartbeats 1000000 in
theorem norms_w (syn : Int) (a b : Str) (w : World) (hg : GV w) (ha : a.length ≤ 140737488355328) (hb : b.length ≤ 140737488355328) :
  Calls Tryz.prog 52 [I syn, S a, S b].toArray w (Pure w (.tuple #[S ((normM syn a).getD []), S ((normM syn b).getD []), B ((normM syn a).isSome && (normM syn b).isSome)])) := by
 refine calls_W Tryz.func52 rfl rfl rfl (by kernel_rfl) ?_
 have hx := Ext.refl w
 refine W_seq fun K1 hK1 => ?_
 refine wr ?_
 iterate 3 refine da ?_
 refine D_end (hK1 _ _ ?_)
 refine W_seq fun K2 hK2 => ?_
 refine wr ?_
 iterate 2 refine dm ?_
 refine D_callP rfl (by kernel_rfl) (normM_w syn a _ (hg.ext hx) ha) rfl RX.all (fun w1 x1 => ?_)
 replace hx := hx.trans x1
 refine dm ?_
 refine dp (pv_ext rfl rfl) ?_
 refine dp (pv_ext rfl rfl) ?_
 iterate 2 refine da ?_
 refine D_end (hK2 _ _ ?_)
 refine W_seq fun K3 hK3 => ?_
 refine wr ?_
 iterate 2 refine dm ?_
 refine D_callP rfl (by kernel_rfl) (normM_w syn b _ (hg.ext hx) hb) rfl RX.all (fun w2 x2 => ?_)
 replace hx := hx.trans x2
 refine dm ?_
 refine dp (pv_ext rfl rfl) ?_
 refine dp (pv_ext rfl rfl) ?_
 iterate 2 refine da ?_
 refine D_end (hK3 _ _ ?_)
 refine W_seq fun K4 hK4 => ?_
 refine wr ?_
 iterate 4 refine dm ?_
 refine D_split 28 rfl (fun c1 => ?_) (fun c1 => ?_)
 ·
  refine dm ?_
  refine dk' ?_
  iterate 3 refine da ?_
  refine D_end (hK4 _ _ ?_)
  refine W_ret ?_
  try dsimp only [then', inBlk, noGo]
  refine rt3 ?_
  refine ⟨?_, hx⟩
  simp [*]
 ·
  refine dk ?_
  refine dk' ?_
  iterate 3 refine da ?_
  refine D_end (hK4 _ _ ?_)
  refine W_ret ?_
  try dsimp only [then', inBlk, noGo]
  refine rt3 ?_
  refine ⟨?_, hx⟩
  simp [*]

set_option maxRecDepth 100000 in
set_option maxHeartbeats 1000000 in
theorem equalM_w (syn : Int) (a b : Str) (w : World) (hg : GV w) (ha : a.length ≤ 140737488355328) (hb : b.length ≤ 140737488355328) :
  Calls Tryz.prog 25 [I syn, S a, S b].toArray w (Pure w (B (equalM syn a b))) := by
 refine calls_W Tryz.func25 rfl rfl rfl (by kernel_rfl) ?_
 have hx := Ext.refl w
 refine W_seq fun K1 hK1 => ?_
 refine wr ?_
 refine da ?_
 refine D_end (hK1 _ _ ?_)
 refine W_seq fun K2 hK2 => ?_
 refine wr ?_
 iterate 3 refine dm ?_
 refine D_callP rfl (by kernel_rfl) (norms_w syn a b _ (hg.ext hx) ha hb) rfl RX.all (fun w1 x1 => ?_)
 replace hx := hx.trans x1
 refine dm ?_
 refine dp (pv_ext rfl rfl) ?_
 refine dp (pv_ext rfl rfl) ?_
 refine dp (pv_ext rfl rfl) ?_
 iterate 3 refine da ?_
 refine D_end (hK2 _ _ ?_)
 refine W_seq fun K3 hK3 => ?_
 refine wr ?_
 iterate 2 refine dm ?_
 refine D_split 19 rfl (fun c1 => ?_) (fun c1 => ?_)
 ·
  iterate 2 refine dm ?_
  refine dp (pv_seq rfl rfl) ?_
  refine dk' ?_
  refine da ?_
  refine D_end (hK3 _ _ ?_)
  refine W_ret ?_
  try dsimp only [then', inBlk, noGo]
  refine ro ?_
  refine ⟨?_, hx⟩
  unfold equalM
  cases h1 : normM syn a <;> cases h2 : normM syn b <;> simp [h1, h2] at * <;> simp [*]
 ·
  iterate 3 refine dk ?_
  refine dk' ?_
  refine da ?_
  refine D_end (hK3 _ _ ?_)
  refine W_ret ?_
  try dsimp only [then', inBlk, noGo]
  refine ro ?_
  refine ⟨?_, hx⟩
  unfold equalM
  cases h1 : normM syn a <;> cases h2 : normM syn b <;> simp [h1, h2] at * <;> simp [*]

end Go.Proofs.YtdagdhjheibgnaaGreatDoor
