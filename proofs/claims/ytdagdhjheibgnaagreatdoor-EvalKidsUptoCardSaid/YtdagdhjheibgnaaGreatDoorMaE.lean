/-
  Walks.
-/
import Derived.Test.YtdagdhjheibgnaaGreatDoorChecked
import Derived.Test.YtdagdhjheibgnaaGreatDoorSpMem
import Derived.KernelRfl
import Derived.Test.YtdagdhjheibgnaaGreatDoorMaB
import Derived.Test.YtdagdhjheibgnaaGreatDoorSpMn
import Derived.Lib.SmallJoins
namespace Go.Proofs.YtdagdhjheibgnaaGreatDoor
open Go.Vc Go.Sp
attribute [local irreducible] W XW Dw DwT
set_option linter.unusedVariables false
set_option linter.unusedSimpArgs false

theorem atoi_w (s : Str) (w : World) (hn : numB s = true) (hs : s.length ≤ 1000000) : Calls Tryz.prog 83 [S s].toArray w (Pure w (.tuple #[I (numV s), .nilIface])) := by
  refine (Tryz.strconv_Atoi_ok ⟨⟨s⟩⟩ (by show s.length ≤ _; omega) (numV s) (atoi_num hn) w).mono ?_
  rintro e w' ⟨rfl, rfl | ⟨t, rfl⟩⟩
  · exact ⟨rfl, Ext.refl _⟩
  · exact ⟨rfl, Ext.of_below (Joins.below_bytesWorld _ _ _ _ (Nat.le_refl _))⟩
theorem less_none {syn : Int} {a b : Str} (h : ((normM syn a).isSome && (normM syn b).isSome) = false ∨ syn = 3) : lessM syn a b = (false, false) := by
  unfold lessM
  cases h1 : normM syn a <;> cases h2 : normM syn b <;> simp [h1, h2] at h ⊢
  intro h3; exact absurd h h3
theorem less_two {a b x y : Str} (ha : normM 2 a = some x) (hb : normM 2 b = some y) : lessM 2 a b = (decide (numV x < numV y), true) := by
  unfold lessM; rw [ha, hb]; rfl
theorem less_text {syn : Int} {a b x y : Str} (ha : normM syn a = some x) (hb : normM syn b = some y) (h3 : syn ≠ 3) (h2 : syn ≠ 2) : lessM syn a b = (sLt x y, true) := by
  unfold lessM; rw [ha, hb]; simp [h3, h2]
theorem num_text {s : Str} (h : numB s = true) : ∃ c, s[0]? = some c := by
  cases s with
  | nil => cases h
  | cons c r => exact ⟨c, rfl⟩
theorem less_some {syn : Int} {a b : Str} (h : (lessM syn a b).2 = true) : ∃ x y, normM syn a = some x ∧ normM syn b = some y ∧ syn ≠ 3 := by
  unfold lessM at h
  cases h1 : normM syn a with
  | none => rw [h1] at h; cases h
  | some x =>
    cases h2 : normM syn b with
    | none => rw [h1, h2] at h; cases h
    | some y =>
      refine ⟨x, y, rfl, rfl, ?_⟩
      rintro rfl
      rw [h1, h2] at h
      cases h
theorem less_ok (syn : Int) (a b : Str) : (lessM syn a b).2 = ((normM syn a).isSome && (normM syn b).isSome && decide (syn ≠ 3)) := by
  unfold lessM
  cases h1 : normM syn a <;> cases h2 : normM syn b <;> simp
  by_cases h3 : syn = 3
  · simp [h3]
  · by_cases h4 : syn = 2 <;> simp [h3, h4]
theorem order_eq (syn : Int) (a b : Str) : (lessM syn a b).2 = (lessM syn b a).2 := by
  rw [less_ok, less_ok, Bool.and_comm (normM syn a).isSome]
theorem less_val {syn : Int} {a b x y : Str} (ha : normM syn a = some x) (hb : normM syn b = some y) (h3 : syn ≠ 3) : (lessM syn a b).1 = if syn = 2 then decide (numV x < numV y) else sLt x y := by
  unfold lessM
  rw [ha, hb]
  simp only [if_neg h3]
  split <;> rfl
theorem order_one {syn : Int} {a b : Str} (h : (lessM syn a b).2 = true) : equalM syn a b = !((lessM syn a b).1 || (lessM syn b a).1) ∧ ((lessM syn a b).1 && (lessM syn b a).1) = false := by
  obtain ⟨x, y, ha, hb, h3⟩ := less_some h
  rw [less_val ha hb h3, less_val hb ha h3]
  have he : equalM syn a b = decide (x = y) := by unfold equalM; rw [ha, hb]
  rw [he]
  by_cases h2 : syn = 2
  · subst h2
    rw [if_pos rfl, if_pos rfl]
    have hi := num_inj (norm_num ha) (norm_num hb)
    rcases Int.lt_trichotomy (numV x) (numV y) with hl | hl | hl
    · have hn : x ≠ y := by rintro rfl; omega
      rw [decide_eq_true hl, decide_eq_false (show ¬ numV y < numV x by omega), decide_eq_false hn]; exact ⟨rfl, rfl⟩
    · rw [decide_eq_false (show ¬ numV x < numV y by omega), decide_eq_false (show ¬ numV y < numV x by omega), decide_eq_true (hi hl)]; exact ⟨rfl, rfl⟩
    · have hn : x ≠ y := by rintro rfl; omega
      rw [decide_eq_false (show ¬ numV x < numV y by omega), decide_eq_true hl, decide_eq_false hn]; exact ⟨rfl, rfl⟩
  · rw [if_neg h2, if_neg h2]
    rcases sLt_total x y with rfl | hl | hl
    · rw [sLt_irrefl]; simp
    · rw [hl, sLt_asymm hl, decide_eq_false (sLt_ne hl)]; exact ⟨rfl, rfl⟩
    · rw [hl, sLt_asymm hl, decide_eq_false (sLt_ne hl).symm]; exact ⟨rfl, rfl⟩
theorem order_trans {syn : Int} {a b c : Str} (h1 : (lessM syn a b).2 = true) (h2 : (lessM syn b c).2 = true) (h3 : (lessM syn a b).1 = true) (h4 : (lessM syn b c).1 = true) : (lessM syn a c).1 = true := by
  obtain ⟨x, y, ha, hb, hs⟩ := less_some h1
  obtain ⟨y', z, hb', hc, _⟩ := less_some h2
  rw [hb] at hb'
  cases hb'
  rw [less_val ha hb hs] at h3
  rw [less_val hb hc hs] at h4
  rw [less_val ha hc hs]
  by_cases h2 : syn = 2
  · rw [if_pos h2] at *
    simp only [decide_eq_true_eq] at *
    omega
  · rw [if_neg h2] at *
    exact sLt_trans _ _ _ h3 h4

set_option maxRecDepth 100000 in
set_option maxHeartbeats 1000000 in
theorem less_w (syn : Int) (a b : Str) (w : World) (hg : GV w) (ha : a.length ≤ 140737488355328) (hb : b.length ≤ 140737488355328) :
  Calls Tryz.prog 54 [I syn, S a, S b].toArray w (Pure w (.tuple #[B (lessM syn a b).1, B (lessM syn a b).2])) := by
 refine calls_W Tryz.func54 rfl rfl rfl (by kernel_rfl) ?_
 have hx := Ext.refl w
 refine W_seq fun K1 hK1 => ?_
 refine wr ?_
 iterate 2 refine da ?_
 refine D_end (hK1 _ _ ?_)
 refine W_seq fun K2 hK2 => ?_
 refine wr ?_
 iterate 3 refine dm ?_
 refine D_callP rfl (by kernel_rfl) (norms_w syn a b _ (hg.ext hx) ha hb) rfl RX.all (fun w1 x1 => ?_)
 replace hx := hx.trans x1
 refine dm ?_
 refine dp (pv_ext rfl rfl) ?_
 refine dp (pv_ext rfl rfl) ?_
 refine dp (pv_ext rfl rfl) ?_
 iterate 3 refine da ?_
 refine D_end (hK2 _ _ ?_)
 refine W_seq fun K3 hK3 => ?_
 refine W_block ?_
 refine W_seq fun K4 hK4 => ?_
 refine wr ?_
 refine dm ?_
 refine dn ?_
 refine dm ?_
 refine D_split 26 rfl (fun c1 => ?_) (fun c1 => ?_)
 ·
  iterate 2 refine dk ?_
  refine dk' ?_
  refine da ?_
  refine D_end (hK4 _ _ ?_)
  refine W_t rfl ?_
  refine W_seq fun K5 hK5 => ?_
  refine wr ?_
  iterate 2 refine da ?_
  refine D_end (hK5 _ _ ?_)
  refine W_ret ?_
  try dsimp only [then', inBlk, noGo]
  refine rt ?_
  refine ⟨?_, hx⟩
  first
  | (rw [less_none (.inl (by simp only [Bool.not_eq_true'] at c1; exact c1))]; done)
  | (rw [less_none (.inr c2)]; done)
  | (rw [less_two hxa hyb, hxa, hyb]; rfl)
  | (rw [less_text hxa hyb c2 c3, hxa, hyb]; rfl)
 ·
  simp only [Bool.not_eq_false', Bool.and_eq_true] at c1
  obtain ⟨x, hxa⟩ := Option.isSome_iff_exists.1 c1.1
  obtain ⟨y, hyb⟩ := Option.isSome_iff_exists.1 c1.2
  refine dm ?_
  refine dp (pv_eql rfl rfl) ?_
  refine dk' ?_
  refine da ?_
  refine D_end (hK4 _ _ ?_)
  refine W_if rfl (fun c2 => ?_) (fun c2 => ?_)
  ·
   refine W_seq fun K6 hK6 => ?_
   refine wr ?_
   iterate 2 refine da ?_
   refine D_end (hK6 _ _ ?_)
   refine W_ret ?_
   try dsimp only [then', inBlk, noGo]
   refine rt ?_
   refine ⟨?_, hx⟩
   first
   | (rw [less_none (.inl (by simp only [Bool.not_eq_true'] at c1; exact c1))]; done)
   | (rw [less_none (.inr c2)]; done)
   | (rw [less_two hxa hyb, hxa, hyb]; rfl)
   | (rw [less_text hxa hyb c2 c3, hxa, hyb]; rfl)
  ·
   refine W_seq fun K7 hK7 => ?_
   refine wr ?_
   refine dm ?_
   refine dp (pv_eql rfl rfl) ?_
   refine da ?_
   refine D_end (hK7 _ _ ?_)
   refine W_if rfl (fun c3 => ?_) (fun c3 => ?_)
   ·
    subst c3
    have hna : numB ((normM 2 a).getD []) = true := by rw [hxa]; exact norm_num hxa
    have hnb : numB ((normM 2 b).getD []) = true := by rw [hyb]; exact norm_num hyb
    have hla : ((normM 2 a).getD []).length ≤ 1000000 := by rw [hxa]; exact norm_len hxa
    have hlb : ((normM 2 b).getD []).length ≤ 1000000 := by rw [hyb]; exact norm_len hyb
    refine W_seq fun K8 hK8 => ?_
    refine wr ?_
    refine dm ?_
    refine D_callP rfl (by kernel_rfl) (atoi_w ((normM 2 a).getD []) _ hna hla) rfl RX.all (fun w2 x2 => ?_)
    replace hx := hx.trans x2
    refine dm ?_
    refine dp (pv_ext rfl rfl) ?_
    refine dp (pv_ext rfl rfl) ?_
    iterate 2 refine da ?_
    refine D_end (hK8 _ _ ?_)
    refine W_seq fun K9 hK9 => ?_
    refine wr ?_
    refine dm ?_
    refine D_callP rfl (by kernel_rfl) (atoi_w ((normM 2 b).getD []) _ hnb hlb) rfl RX.all (fun w3 x3 => ?_)
    replace hx := hx.trans x3
    refine dm ?_
    refine dp (pv_ext rfl rfl) ?_
    refine dp (pv_ext rfl rfl) ?_
    iterate 2 refine da ?_
    refine D_end (hK9 _ _ ?_)
    refine W_seq fun K10 hK10 => ?_
    refine wr ?_
    iterate 2 refine dm ?_
    refine dp (pv_lss rfl rfl) ?_
    iterate 2 refine da ?_
    refine D_end (hK10 _ _ ?_)
    refine W_ret ?_
    try dsimp only [then', inBlk, noGo]
    refine rt ?_
    refine ⟨?_, hx⟩
    first
    | (rw [less_none (.inl (by simp only [Bool.not_eq_true'] at c1; exact c1))]; done)
    | (rw [less_none (.inr c2)]; done)
    | (rw [less_two hxa hyb, hxa, hyb]; rfl)
    | (rw [less_text hxa hyb c2 c3, hxa, hyb]; rfl)
   ·
    refine W_skip ?_
    refine hK3 _ _ ?_
    refine W_seq fun K11 hK11 => ?_
    refine wr ?_
    iterate 2 refine dm ?_
    refine dp (pv_slt rfl rfl) ?_
    iterate 2 refine da ?_
    refine D_end (hK11 _ _ ?_)
    refine W_ret ?_
    try dsimp only [then', inBlk, noGo]
    refine rt ?_
    refine ⟨?_, hx⟩
    first
    | (rw [less_none (.inl (by simp only [Bool.not_eq_true'] at c1; exact c1))]; done)
    | (rw [less_none (.inr c2)]; done)
    | (rw [less_two hxa hyb, hxa, hyb]; rfl)
    | (rw [less_text hxa hyb c2 c3, hxa, hyb]; rfl)

set_option maxRecDepth 100000 in
set_option maxHeartbeats 1000000 in
theorem below_w (a b : Str) (w : World) (hna : numB a = true) (hnb : numB b = true) :
  Calls Tryz.prog 89 [S a, S b].toArray w (Pure w (B (decide (numV a < numV b)))) := by
 refine calls_W Tryz.func89 rfl rfl rfl (by kernel_rfl) ?_
 have hx := Ext.refl w
 obtain ⟨c, hc⟩ := num_text hna
 obtain ⟨d, hd⟩ := num_text hnb
 have hca : (c = 45) ↔ a.head? = some 45 := by rw [List.head?_eq_getElem?, hc, Option.some.injEq]
 have hdb : (d = 45) ↔ b.head? = some 45 := by rw [List.head?_eq_getElem?, hd, Option.some.injEq]
 have hbe := below_eq hna hnb
 unfold belowM at hbe
 simp only [← hca, ← hdb] at hbe
 refine W_seq fun K1 hK1 => ?_
 refine wr ?_
 refine da ?_
 refine D_end (hK1 _ _ ?_)
 refine W_seq fun K2 hK2 => ?_
 refine W_draw (R := Ext) Ext.refl (fun _ _ _ => Ext.trans) (by kernel_rfl) [] [(0, .p, false), (1, .p, false), (2, .p, false), (3, .p, false), (4, .p, false), (5, .p, false), (6, .p, false), (7, .p, false)] rfl (by kernel_rfl) (by kernel_rfl) (fun w1 ew1 => ?_)
 have x1 : Ext w w1 := by rw [ew1]; exact Ext.drew _
 clear ew1
 replace hx := hx.trans x1
 refine dm ?_
 refine dp (pv_idxS (by kernel_rfl) rfl rfl (i := 0) hc) ?_
 refine dp (pv_eqlB (b := 45) rfl rfl) ?_
 refine dm ?_
 refine dp (pv_idxS (by kernel_rfl) rfl rfl (i := 0) hd) ?_
 refine dp (pv_eqlB (b := 45) rfl rfl) ?_
 iterate 2 refine da ?_
 refine D_end (hK2 _ _ ?_)
 refine W_seq fun K3 hK3 => ?_
 refine W_block ?_
 refine W_seq fun K4 hK4 => ?_
 refine wr ?_
 iterate 2 refine dm ?_
 refine dp (pv_neB (by kernel_rfl) rfl rfl) ?_
 refine da ?_
 refine D_end (hK4 _ _ ?_)
 refine W_if rfl (fun c1 => ?_) (fun c1 => ?_)
 ·
  refine W_seq fun K5 hK5 => ?_
  refine wr ?_
  refine dm ?_
  refine da ?_
  refine D_end (hK5 _ _ ?_)
  refine W_ret ?_
  try dsimp only [then', inBlk, noGo]
  refine ro ?_
  refine ⟨?_, hx⟩
  rw [← hbe]
  first
  | (rw [if_pos c1]; done)
  | (rw [if_neg c1, if_pos (by omega)]; simp; done)
  | (rw [if_neg c1, if_neg (by omega)]; simp [*]; done)
 ·
  refine W_seq fun K6 hK6 => ?_
  refine wr ?_
  refine dm ?_
  refine dp (pv_lenS (by kernel_rfl) rfl) ?_
  refine dm ?_
  refine dp (pv_lenS (by kernel_rfl) rfl) ?_
  refine dp (pv_neq rfl rfl) ?_
  refine da ?_
  refine D_end (hK6 _ _ ?_)
  refine W_if rfl (fun c2 => ?_) (fun c2 => ?_)
  ·
   refine W_seq fun K7 hK7 => ?_
   refine wr ?_
   refine dm ?_
   refine dp (pv_lenS (by kernel_rfl) rfl) ?_
   refine dm ?_
   refine dp (pv_lenS (by kernel_rfl) rfl) ?_
   refine dp (pv_lss rfl rfl) ?_
   refine dm ?_
   refine dp (pv_neB (by kernel_rfl) rfl rfl) ?_
   refine da ?_
   refine D_end (hK7 _ _ ?_)
   refine W_ret ?_
   try dsimp only [then', inBlk, noGo]
   refine ro ?_
   refine ⟨?_, hx⟩
   rw [← hbe]
   first
   | (rw [if_pos c1]; done)
   | (rw [if_neg c1, if_pos (by omega)]; simp; done)
   | (rw [if_neg c1, if_neg (by omega)]; simp [*]; done)
  ·
   refine W_skip ?_
   refine hK3 _ _ ?_
   refine W_seq fun K8 hK8 => ?_
   refine wr ?_
   iterate 2 refine dm ?_
   refine dp (pv_sne rfl rfl) ?_
   refine dm ?_
   refine D_splitP 34 rfl (fun c3 => ?_) (fun c3 => ?_)
   ·
    iterate 2 refine dm ?_
    refine dp (pv_slt rfl rfl) ?_
    refine dm ?_
    refine dp (pv_neB (by kernel_rfl) rfl rfl) ?_
    refine dk' ?_
    refine da ?_
    refine D_end (hK8 _ _ ?_)
    refine W_ret ?_
    try dsimp only [then', inBlk, noGo]
    refine ro ?_
    refine ⟨?_, hx⟩
    rw [← hbe]
    first
    | (rw [if_pos c1]; done)
    | (rw [if_neg c1, if_pos (by omega)]; simp; done)
    | (rw [if_neg c1, if_neg (by omega)]; simp [*]; done)
   ·
    iterate 5 refine dk ?_
    refine dk' ?_
    refine da ?_
    refine D_end (hK8 _ _ ?_)
    refine W_ret ?_
    try dsimp only [then', inBlk, noGo]
    refine ro ?_
    refine ⟨?_, hx⟩
    rw [← hbe]
    first
    | (rw [if_pos c1]; done)
    | (rw [if_neg c1, if_pos (by omega)]; simp; done)
    | (rw [if_neg c1, if_neg (by omega)]; simp [*]; done)

set_option maxRecDepth 100000 in
set_option maxHeartbeats 1000000 in
theorem rless_w (syn : Int) (a b : Str) (w : World) (ha : a.length ≤ 140737488355328) (hb : b.length ≤ 140737488355328) :
  Calls Tryz.prog 60 [I syn, S a, S b].toArray w (Pure w (.tuple #[B (lessM syn a b).1, B (lessM syn a b).2])) := by
 refine calls_W Tryz.func60 rfl rfl rfl (by kernel_rfl) ?_
 have hx := Ext.refl w
 refine W_seq fun K1 hK1 => ?_
 refine wr ?_
 iterate 2 refine da ?_
 refine D_end (hK1 _ _ ?_)
 refine W_seq fun K2 hK2 => ?_
 refine wr ?_
 iterate 2 refine dm ?_
 refine D_callP rfl (by kernel_rfl) (rnormM_w syn a _ ha) rfl RX.all (fun w1 x1 => ?_)
 replace hx := hx.trans x1
 refine dm ?_
 refine dp (pv_ext rfl rfl) ?_
 refine dp (pv_ext rfl rfl) ?_
 iterate 2 refine da ?_
 refine D_end (hK2 _ _ ?_)
 refine W_seq fun K3 hK3 => ?_
 refine wr ?_
 iterate 2 refine dm ?_
 refine D_callP rfl (by kernel_rfl) (rnormM_w syn b _ hb) rfl RX.all (fun w2 x2 => ?_)
 replace hx := hx.trans x2
 refine dm ?_
 refine dp (pv_ext rfl rfl) ?_
 refine dp (pv_ext rfl rfl) ?_
 iterate 2 refine da ?_
 refine D_end (hK3 _ _ ?_)
 refine W_seq fun K4 hK4 => ?_
 refine W_seq fun K5 hK5 => ?_
 refine wr ?_
 refine dm ?_
 refine dn ?_
 refine dm ?_
 refine D_split 26 rfl (fun c1 => ?_) (fun c1 => ?_)
 ·
  iterate 2 refine dk ?_
  refine dk' ?_
  refine dm ?_
  iterate 2 refine dk ?_
  refine dk' ?_
  refine D_end (hK5 _ _ ?_)
  refine W_t rfl ?_
  refine W_seq fun K6 hK6 => ?_
  refine wr ?_
  iterate 2 refine da ?_
  refine D_end (hK6 _ _ ?_)
  refine W_ret ?_
  try dsimp only [then', inBlk, noGo]
  refine rt ?_
  refine ⟨?_, hx⟩
  first
  | (rw [less_none (.inl (by simp only [Bool.not_eq_true'] at c1; rw [c1]; rfl))]; done)
  | (rw [less_none (.inl (by simp only [Bool.not_eq_true'] at c2; rw [c2, Bool.and_false]))]; done)
  | (rw [less_none (.inr c3)]; done)
  | (rw [less_two hxa hyb, hxa, hyb]; rfl)
  | (rw [less_text hxa hyb c3 c4, hxa, hyb]; rfl)
 ·
  refine dm ?_
  refine dn ?_
  refine dk' ?_
  refine dm ?_
  refine D_split 30 rfl (fun c2 => ?_) (fun c2 => ?_)
  ·
   iterate 2 refine dk ?_
   refine dk' ?_
   refine D_end (hK5 _ _ ?_)
   refine W_t rfl ?_
   refine W_seq fun K7 hK7 => ?_
   refine wr ?_
   iterate 2 refine da ?_
   refine D_end (hK7 _ _ ?_)
   refine W_ret ?_
   try dsimp only [then', inBlk, noGo]
   refine rt ?_
   refine ⟨?_, hx⟩
   first
   | (rw [less_none (.inl (by simp only [Bool.not_eq_true'] at c1; rw [c1]; rfl))]; done)
   | (rw [less_none (.inl (by simp only [Bool.not_eq_true'] at c2; rw [c2, Bool.and_false]))]; done)
   | (rw [less_none (.inr c3)]; done)
   | (rw [less_two hxa hyb, hxa, hyb]; rfl)
   | (rw [less_text hxa hyb c3 c4, hxa, hyb]; rfl)
  ·
   simp only [Bool.not_eq_false'] at c1 c2
   obtain ⟨x, hxa⟩ := Option.isSome_iff_exists.1 c1
   obtain ⟨y, hyb⟩ := Option.isSome_iff_exists.1 c2
   refine dm ?_
   refine dp (pv_eql rfl rfl) ?_
   refine dk' ?_
   refine D_end (hK5 _ _ ?_)
   refine W_if rfl (fun c3 => ?_) (fun c3 => ?_)
   ·
    refine W_seq fun K8 hK8 => ?_
    refine wr ?_
    iterate 2 refine da ?_
    refine D_end (hK8 _ _ ?_)
    refine W_ret ?_
    try dsimp only [then', inBlk, noGo]
    refine rt ?_
    refine ⟨?_, hx⟩
    first
    | (rw [less_none (.inl (by simp only [Bool.not_eq_true'] at c1; rw [c1]; rfl))]; done)
    | (rw [less_none (.inl (by simp only [Bool.not_eq_true'] at c2; rw [c2, Bool.and_false]))]; done)
    | (rw [less_none (.inr c3)]; done)
    | (rw [less_two hxa hyb, hxa, hyb]; rfl)
    | (rw [less_text hxa hyb c3 c4, hxa, hyb]; rfl)
   ·
    refine W_skip ?_
    refine hK4 _ _ ?_
    refine W_seq fun K9 hK9 => ?_
    refine W_seq fun K10 hK10 => ?_
    refine wr ?_
    refine dm ?_
    refine dp (pv_eql rfl rfl) ?_
    refine D_end (hK10 _ _ ?_)
    refine W_if rfl (fun c4 => ?_) (fun c4 => ?_)
    ·
     subst c4
     have hna : numB ((normM 2 a).getD []) = true := by rw [hxa]; exact norm_num hxa
     have hnb : numB ((normM 2 b).getD []) = true := by rw [hyb]; exact norm_num hyb
     refine W_seq fun K11 hK11 => ?_
     refine wr ?_
     iterate 2 refine dm ?_
     refine D_callP rfl (by kernel_rfl) (below_w ((normM 2 a).getD []) ((normM 2 b).getD []) _ hna hnb) rfl RX.all (fun w3 x3 => ?_)
     replace hx := hx.trans x3
     iterate 2 refine da ?_
     refine D_end (hK11 _ _ ?_)
     refine W_ret ?_
     try dsimp only [then', inBlk, noGo]
     refine rt ?_
     refine ⟨?_, hx⟩
     first
     | (rw [less_none (.inl (by simp only [Bool.not_eq_true'] at c1; rw [c1]; rfl))]; done)
     | (rw [less_none (.inl (by simp only [Bool.not_eq_true'] at c2; rw [c2, Bool.and_false]))]; done)
     | (rw [less_none (.inr c3)]; done)
     | (rw [less_two hxa hyb, hxa, hyb]; rfl)
     | (rw [less_text hxa hyb c3 c4, hxa, hyb]; rfl)
    ·
     refine W_skip ?_
     refine hK9 _ _ ?_
     refine W_seq fun K12 hK12 => ?_
     refine wr ?_
     iterate 2 refine dm ?_
     refine dp (pv_slt rfl rfl) ?_
     iterate 2 refine da ?_
     refine D_end (hK12 _ _ ?_)
     refine W_ret ?_
     try dsimp only [then', inBlk, noGo]
     refine rt ?_
     refine ⟨?_, hx⟩
     first
     | (rw [less_none (.inl (by simp only [Bool.not_eq_true'] at c1; rw [c1]; rfl))]; done)
     | (rw [less_none (.inl (by simp only [Bool.not_eq_true'] at c2; rw [c2, Bool.and_false]))]; done)
     | (rw [less_none (.inr c3)]; done)
     | (rw [less_two hxa hyb, hxa, hyb]; rfl)
     | (rw [less_text hxa hyb c3 c4, hxa, hyb]; rfl)

set_option maxRecDepth 100000 in
set_option maxHeartbeats 1000000 in
theorem requalM_w (syn : Int) (a b : Str) (w : World) (ha : a.length ≤ 140737488355328) (hb : b.length ≤ 140737488355328) :
  Calls Tryz.prog 59 [I syn, S a, S b].toArray w (Pure w (B (equalM syn a b))) := by
 refine calls_W Tryz.func59 rfl rfl rfl (by kernel_rfl) ?_
 have hx := Ext.refl w
 refine W_seq fun K1 hK1 => ?_
 refine wr ?_
 refine da ?_
 refine D_end (hK1 _ _ ?_)
 refine W_seq fun K2 hK2 => ?_
 refine wr ?_
 iterate 2 refine dm ?_
 refine D_callP rfl (by kernel_rfl) (rnormM_w syn a _ ha) rfl RX.all (fun w1 x1 => ?_)
 replace hx := hx.trans x1
 refine dm ?_
 refine dp (pv_ext rfl rfl) ?_
 refine dp (pv_ext rfl rfl) ?_
 iterate 2 refine da ?_
 refine D_end (hK2 _ _ ?_)
 refine W_seq fun K3 hK3 => ?_
 refine wr ?_
 iterate 2 refine dm ?_
 refine D_callP rfl (by kernel_rfl) (rnormM_w syn b _ hb) rfl RX.all (fun w2 x2 => ?_)
 replace hx := hx.trans x2
 refine dm ?_
 refine dp (pv_ext rfl rfl) ?_
 refine dp (pv_ext rfl rfl) ?_
 iterate 2 refine da ?_
 refine D_end (hK3 _ _ ?_)
 refine W_seq fun K4 hK4 => ?_
 refine wr ?_
 iterate 2 refine dm ?_
 refine D_split 24 rfl (fun c1 => ?_) (fun c1 => ?_)
 ·
  refine dm ?_
  refine dk' ?_
  refine dm ?_
  refine D_split 27 rfl (fun c2 => ?_) (fun c2 => ?_)
  ·
   iterate 2 refine dm ?_
   refine dp (pv_seq rfl rfl) ?_
   refine dk' ?_
   refine da ?_
   refine D_end (hK4 _ _ ?_)
   refine W_ret ?_
   try dsimp only [then', inBlk, noGo]
   refine ro ?_
   refine ⟨?_, hx⟩
   unfold equalM
   cases h1 : normM syn a <;> cases h2 : normM syn b <;> simp [h1, h2] at * <;> simp [*]
  ·
   iterate 3 refine dk ?_
   refine dk' ?_
   refine da ?_
   refine D_end (hK4 _ _ ?_)
   refine W_ret ?_
   try dsimp only [then', inBlk, noGo]
   refine ro ?_
   refine ⟨?_, hx⟩
   unfold equalM
   cases h1 : normM syn a <;> cases h2 : normM syn b <;> simp [h1, h2] at * <;> simp [*]
 ·
  refine dk ?_
  refine dk' ?_
  refine dm ?_
  iterate 3 refine dk ?_
  refine dk' ?_
  refine da ?_
  refine D_end (hK4 _ _ ?_)
  refine W_ret ?_
  try dsimp only [then', inBlk, noGo]
  refine ro ?_
  refine ⟨?_, hx⟩
  unfold equalM
  cases h1 : normM syn a <;> cases h2 : normM syn b <;> simp [h1, h2] at * <;> simp [*]

end Go.Proofs.YtdagdhjheibgnaaGreatDoor
