/-
  Walks.
-/
import Derived.Test.YtdagdhjheibgnaaGreatDoorChecked
import Derived.Test.YtdagdhjheibgnaaGreatDoorSpMem
import Derived.KernelRfl
import Derived.Test.YtdagdhjheibgnaaGreatDoorDnB
import Derived.Test.YtdagdhjheibgnaaGreatDoorSpDp
namespace Go.Proofs.YtdagdhjheibgnaaGreatDoor
open Go.Vc Go.Sp
attribute [local irreducible] W XW Dw DwT
set_option linter.unusedVariables false
set_option linter.unusedSimpArgs false

def nseB (c : UInt8) : Bool := decide (c ≠ 32) && decide (c ≠ 61)
theorem halfB_lt {c h : UInt8} (hc : halfB c = some h) : h.toNat < 16 := by
  have e : ∀ c : Fin 256, ∀ h, halfB (UInt8.ofNat c) = some h → h.toNat < 16 := by
    intro c h hh
    have := (by decide +kernel : ∀ c : Fin 256, ((halfB (UInt8.ofNat c)).getD 0).toNat < 16) c
    rw [hh] at this; exact this
  exact e ⟨c.toNat, c.toNat_lt⟩ h (by simpa using hc)
theorem hex_two {c d h l : UInt8} (hc : halfB c = some h) (hd : halfB d = some l) : UInt8.ofNat (16 * h.toNat + l.toNat) = h <<< 4 ||| l := by
  have e : ∀ h l : Fin 16, UInt8.ofNat (16 * h.val + l.val) = UInt8.ofNat h <<< 4 ||| UInt8.ofNat l := by decide +kernel
  have := e ⟨h.toNat, halfB_lt hc⟩ ⟨l.toNat, halfB_lt hd⟩
  simpa using this
theorem halfI_some {c h : UInt8} (hc : halfB c = some h) : halfI c = h.toNat := by unfold halfI; rw [hc]
theorem halfI_ge {c : UInt8} : 0 ≤ halfI c ↔ ∃ h, halfB c = some h := by
  unfold halfI
  cases halfB c with
  | none => simp
  | some h => simp
theorem halfS_w (c h : UInt8) (w : World) (hc : halfB c = some h) : Calls Tryz.prog 167 [b8 c].toArray w (Pure w (I ↑h.toNat)) := by
  rw [← halfI_some hc]; exact half_w c w

set_option maxRecDepth 100000 in
set_option maxHeartbeats 1000000 in
theorem rblanks_w (bt p : Nat) (s : Str) (w : World) (hm : Blk w bt [S s, I ↑p] 128) (hs : s.length ≤ 1000000) (hp : p ≤ s.length) :
  Calls Tryz.prog 144 [ptr bt 0].toArray w (Does (oneB bt) w (fun v w' => v = .tuple #[] ∧ ∃ q, p ≤ q ∧ q ≤ s.length ∧ s.drop q = blankS (s.drop p) ∧ Blk w' bt [S s, I ↑q] 128)) := by
 refine calls_W Tryz.func144 rfl rfl rfl (by kernel_rfl) ?_
 have hx := Ext.refl w
 refine W_block ?_
 refine W_loop (G := Nat) (fun q => [(0, ptr bt 0)]) (fun q w' => Mod (oneB bt) w w' ∧ Blk w' bt [S s, I ↑q] 128 ∧ p ≤ q ∧ q ≤ s.length ∧ blankS (s.drop q) = blankS (s.drop p)) (fun q => s.length - q) p ?_ ?_ ?_
 ·
  exact ⟨rfl, trivial⟩
 ·
  exact ⟨hx.mono (fun _ h _ => h.elim), hm, Nat.le_refl _, hp, rfl⟩
 ·
  intro X1 g1 w1 hF1
  revert hF1; revert g1; intro q hF1
  clear hx hm
  obtain ⟨hx, hm, hq1, hq2, hb⟩ := hF1
  refine W_seq fun K1 hK1 => ?_
  refine W_seq fun K2 hK2 => ?_
  refine W_draw (R := Ext) Ext.refl (fun _ _ _ => Ext.trans) (by kernel_rfl) [3, 7, 14, 18] [(0, .p, false), (1, .p, false), (2, .p, false), (3, .l, false), (4, .p, false), (5, .p, false), (6, .p, false), (7, .l, false), (8, .p, false), (9, .p, false), (10, .p, false), (11, .p, false), (12, .p, false), (13, .p, false), (14, .l, false), (15, .p, false), (16, .p, false), (17, .p, false), (18, .l, false), (19, .p, false), (20, .p, false), (21, .p, false)] rfl (by kernel_rfl) (by kernel_rfl) (fun w2 ew2 => ?_)
  have x2 : Ext w1 w2 := by rw [ew2]; exact Ext.drew _
  clear ew2
  replace hm := hm.ext x2
  replace hx := hx.ext x2
  refine dm ?_
  refine dp (pv_nilP rfl) ?_
  refine dp (pv_fieldA (k := 1) (by kernel_rfl) rfl) ?_
  refine D_l rfl (fun w' hR => lv_load (by kernel_rfl) rfl ((hm.ext hR).at rfl)) ?_
  refine dm ?_
  refine dp (pv_nilP rfl) ?_
  refine dp (pv_fieldA (k := 0) (by kernel_rfl) rfl) ?_
  refine D_l rfl (fun w' hR => lv_load (by kernel_rfl) rfl ((hm.ext hR).at rfl)) ?_
  refine dp (pv_lenS (by kernel_rfl) rfl) ?_
  refine dp (pv_lss rfl rfl) ?_
  refine dm ?_
  refine D_splitP 12 rfl (fun c1 => ?_) (fun c1 => ?_)
  ·
   obtain ⟨c, hk⟩ : ∃ c, s[q]? = some c := ⟨_, List.getElem?_eq_getElem (by omega)⟩
   refine dm ?_
   refine dp (pv_nilP rfl) ?_
   refine dp (pv_fieldA (k := 0) (by kernel_rfl) rfl) ?_
   refine D_l rfl (fun w' hR => lv_load (by kernel_rfl) rfl ((hm.ext hR).at rfl)) ?_
   refine dm ?_
   refine dp (pv_nilP rfl) ?_
   refine dp (pv_fieldA (k := 1) (by kernel_rfl) rfl) ?_
   refine D_l rfl (fun w' hR => lv_load (by kernel_rfl) rfl ((hm.ext hR).at rfl)) ?_
   refine dp (pv_idxS (by kernel_rfl) rfl rfl hk) ?_
   refine dp (pv_eqlB (b := 32) rfl rfl) ?_
   refine dk' ?_
   refine D_end (hK2 _ _ ?_)
   refine W_if rfl (fun c2 => ?_) (fun c2 => ?_)
   ·
    refine W_skip ?_
    refine hK1 _ _ ?_
    refine W_block ?_
    refine wr ?_
    refine dm ?_
    refine dp (pv_nilP rfl) ?_
    refine dp (pv_fieldA (k := 1) (by kernel_rfl) rfl) ?_
    refine dq (lv_load (by kernel_rfl) rfl (hm.at rfl)) ?_
    refine dp (pv_add rfl rfl (by unfold inI64; omega)) ?_
    refine dp (pv_nilP rfl) ?_
    refine dp (pv_fieldA (k := 1) (by kernel_rfl) rfl) ?_
    refine D_store1 (v := ?v8) rfl rfl ?h8 ?n8 (by kernel_rfl) hm ?o8 (.inl rfl) (fun w3 x3 xs3 hm => ?k8)
    case h8 => conv => lhs; whnf
    case n8 => first | rfl
    case o8 => exact Nat.le_of_ble_eq_true rfl
    try dsimp only [setAt, List.set, List.take, List.drop] at hm
    replace hx := hx.own x3 (fun i hi _ => hi)
    refine D_end (?_)
    refine ⟨q + 1, ⟨rfl, trivial⟩, ⟨hx, hm, by omega, by omega, ?_⟩, by omega⟩
    rw [← hb]; exact (tw_go (q := fun c => decide (c = 32)) hk (decide_eq_true c2)).2.symm
   ·
    refine W_exit ?_
    refine norm_ret ?_
    try dsimp only [then', inBlk, noGo]
    refine ret_none rfl ?_
    refine ⟨_, rfl, hx, rfl, q, hq1, hq2, ?_, hm⟩
    rw [← hb]
    exact (tw_stay (q := fun c => decide (c = 32)) (fun c' hc' => by first | (rw [hk] at hc'; cases hc'; exact decide_eq_false c2) | (have := (List.getElem?_eq_some_iff.1 hc').1; omega))).2.symm
  ·
   iterate 10 refine dk ?_
   refine dk' ?_
   refine D_end (hK2 _ _ ?_)
   refine W_f rfl ?_
   refine W_exit ?_
   refine norm_ret ?_
   try dsimp only [then', inBlk, noGo]
   refine ret_none rfl ?_
   refine ⟨_, rfl, hx, rfl, q, hq1, hq2, ?_, hm⟩
   rw [← hb]
   exact (tw_stay (q := fun c => decide (c = 32)) (fun c' hc' => by first | (rw [hk] at hc'; cases hc'; exact decide_eq_false c2) | (have := (List.getElem?_eq_some_iff.1 hc').1; omega))).2.symm

set_option maxRecDepth 100000 in
set_option maxHeartbeats 1000000 in
theorem typ_w (bt p : Nat) (s : Str) (w : World) (hm : Blk w bt [S s, I ↑p] 128) (hs : s.length ≤ 1000000) (hp : p ≤ s.length) :
  Calls Tryz.prog 145 [ptr bt 0].toArray w (Does (oneB bt) w (fun v w' => v = S ((s.drop p).takeWhile nseB) ∧ ∃ q, p ≤ q ∧ q ≤ s.length ∧ s.drop q = (s.drop p).dropWhile nseB ∧ Blk w' bt [S s, I ↑q] 128)) := by
 refine calls_W Tryz.func145 rfl rfl rfl (by kernel_rfl) ?_
 have hx := Ext.refl w
 refine W_seq fun K1 hK1 => ?_
 refine wr ?_
 refine da ?_
 refine D_end (hK1 _ _ ?_)
 refine W_seq fun K2 hK2 => ?_
 refine wr ?_
 refine dm ?_
 refine dp (pv_nilP rfl) ?_
 refine dp (pv_fieldA (k := 1) (by kernel_rfl) rfl) ?_
 refine dq (lv_load (by kernel_rfl) rfl (hm.at rfl)) ?_
 refine da ?_
 refine D_end (hK2 _ _ ?_)
 refine W_seq fun K3 hK3 => ?_
 refine W_block ?_
 refine W_loop (G := Nat) (fun q => [(0, ptr bt 0), (2, S []), (3, I ↑p)]) (fun q w' => Mod (oneB bt) w w' ∧ Blk w' bt [S s, I ↑q] 128 ∧ p ≤ q ∧ q ≤ s.length ∧ (s.drop p).takeWhile nseB = (s.take q).drop p ++ (s.drop q).takeWhile nseB ∧ (s.drop p).dropWhile nseB = (s.drop q).dropWhile nseB) (fun q => s.length - q) p ?_ ?_ ?_
 ·
  exact ⟨rfl, rfl, rfl, trivial⟩
 ·
  exact ⟨hx.mono (fun _ h _ => h.elim), hm, Nat.le_refl _, hp, by rw [show (s.take p).drop p = [] from List.drop_eq_nil_of_le (List.length_take_le ..)]; rfl, rfl⟩
 ·
  intro X1 g1 w1 hF1
  revert hF1; revert g1; intro q hF1
  clear hx hm
  obtain ⟨hx, hm, hq1, hq2, ht, hd⟩ := hF1
  refine W_seq fun K4 hK4 => ?_
  refine W_seq fun K5 hK5 => ?_
  refine W_draw (R := Ext) Ext.refl (fun _ _ _ => Ext.trans) (by kernel_rfl) [3, 7, 14, 18, 26, 30] [(0, .p, false), (1, .p, false), (2, .p, false), (3, .l, false), (4, .p, false), (5, .p, false), (6, .p, false), (7, .l, false), (8, .p, false), (9, .p, false), (10, .p, false), (11, .p, false), (12, .p, false), (13, .p, false), (14, .l, false), (15, .p, false), (16, .p, false), (17, .p, false), (18, .l, false), (19, .p, false), (20, .p, false), (21, .p, false), (22, .p, false), (23, .p, false), (24, .p, false), (25, .p, false), (26, .l, false), (27, .p, false), (28, .p, false), (29, .p, false), (30, .l, false), (31, .p, false), (32, .p, false), (33, .p, false)] rfl (by kernel_rfl) (by kernel_rfl) (fun w2 ew2 => ?_)
  have x2 : Ext w1 w2 := by rw [ew2]; exact Ext.drew _
  clear ew2
  replace hm := hm.ext x2
  replace hx := hx.ext x2
  refine dm ?_
  refine dp (pv_nilP rfl) ?_
  refine dp (pv_fieldA (k := 1) (by kernel_rfl) rfl) ?_
  refine D_l rfl (fun w' hR => lv_load (by kernel_rfl) rfl ((hm.ext hR).at rfl)) ?_
  refine dm ?_
  refine dp (pv_nilP rfl) ?_
  refine dp (pv_fieldA (k := 0) (by kernel_rfl) rfl) ?_
  refine D_l rfl (fun w' hR => lv_load (by kernel_rfl) rfl ((hm.ext hR).at rfl)) ?_
  refine dp (pv_lenS (by kernel_rfl) rfl) ?_
  refine dp (pv_lss rfl rfl) ?_
  refine dm ?_
  refine D_splitP 18 rfl (fun c1 => ?_) (fun c1 => ?_)
  ·
   obtain ⟨c, hk⟩ : ∃ c, s[q]? = some c := ⟨_, List.getElem?_eq_getElem (by omega)⟩
   refine dm ?_
   refine dp (pv_nilP rfl) ?_
   refine dp (pv_fieldA (k := 0) (by kernel_rfl) rfl) ?_
   refine D_l rfl (fun w' hR => lv_load (by kernel_rfl) rfl ((hm.ext hR).at rfl)) ?_
   refine dm ?_
   refine dp (pv_nilP rfl) ?_
   refine dp (pv_fieldA (k := 1) (by kernel_rfl) rfl) ?_
   refine D_l rfl (fun w' hR => lv_load (by kernel_rfl) rfl ((hm.ext hR).at rfl)) ?_
   refine dp (pv_idxS (by kernel_rfl) rfl rfl hk) ?_
   refine dp (pv_neqB (b := 32) rfl rfl) ?_
   refine dk' ?_
   refine dm ?_
   refine D_splitP 30 rfl (fun c2 => ?_) (fun c2 => ?_)
   ·
    refine dm ?_
    refine dp (pv_nilP rfl) ?_
    refine dp (pv_fieldA (k := 0) (by kernel_rfl) rfl) ?_
    refine D_l rfl (fun w' hR => lv_load (by kernel_rfl) rfl ((hm.ext hR).at rfl)) ?_
    refine dm ?_
    refine dp (pv_nilP rfl) ?_
    refine dp (pv_fieldA (k := 1) (by kernel_rfl) rfl) ?_
    refine D_l rfl (fun w' hR => lv_load (by kernel_rfl) rfl ((hm.ext hR).at rfl)) ?_
    refine dp (pv_idxS (by kernel_rfl) rfl rfl hk) ?_
    refine dp (pv_neqB (b := 61) rfl rfl) ?_
    refine dk' ?_
    refine D_end (hK5 _ _ ?_)
    refine W_if rfl (fun c3 => ?_) (fun c3 => ?_)
    ·
     refine W_skip ?_
     refine hK4 _ _ ?_
     refine W_block ?_
     refine wr ?_
     refine dm ?_
     refine dp (pv_nilP rfl) ?_
     refine dp (pv_fieldA (k := 1) (by kernel_rfl) rfl) ?_
     refine dq (lv_load (by kernel_rfl) rfl (hm.at rfl)) ?_
     refine dp (pv_add rfl rfl (by unfold inI64; omega)) ?_
     refine dp (pv_nilP rfl) ?_
     refine dp (pv_fieldA (k := 1) (by kernel_rfl) rfl) ?_
     refine D_store1 (v := ?v15) rfl rfl ?h15 ?n15 (by kernel_rfl) hm ?o15 (.inl rfl) (fun w3 x3 xs3 hm => ?k15)
     case h15 => conv => lhs; whnf
     case n15 => first | rfl
     case o15 => exact Nat.le_of_ble_eq_true rfl
     try dsimp only [setAt, List.set, List.take, List.drop] at hm
     replace hx := hx.own x3 (fun i hi _ => hi)
     refine D_end (?_)
     have hc : nseB c = true := by simp [nseB, c2, c3]
     have hg := tw_go hk hc
     refine ⟨q + 1, ⟨rfl, rfl, rfl, trivial⟩, ⟨hx, hm, by omega, by omega, ?_, ?_⟩, by omega⟩
     ·
      rw [ht, hg.1, take_drop_snoc hk hq1]; simp
     ·
      rw [hd, hg.2]
    ·
     refine W_exit ?_
     refine hK3 _ _ ?_
     refine W_seq fun K6 hK6 => ?_
     refine W_draw (R := Ext) Ext.refl (fun _ _ _ => Ext.trans) (by kernel_rfl) [3, 8] [(0, .p, false), (1, .p, false), (2, .p, false), (3, .l, false), (4, .p, false), (5, .p, false), (6, .p, false), (7, .p, false), (8, .l, false), (9, .p, false), (10, .p, false)] rfl (by kernel_rfl) (by kernel_rfl) (fun w4 ew4 => ?_)
     have x4 : Ext w2 w4 := by rw [ew4]; exact Ext.drew _
     clear ew4
     replace hm := hm.ext x4
     replace hx := hx.ext x4
     refine dm ?_
     refine dp (pv_nilP rfl) ?_
     refine dp (pv_fieldA (k := 0) (by kernel_rfl) rfl) ?_
     refine D_l rfl (fun w' hR => lv_load (by kernel_rfl) rfl ((hm.ext hR).at rfl)) ?_
     iterate 2 refine dm ?_
     refine dp (pv_nilP rfl) ?_
     refine dp (pv_fieldA (k := 1) (by kernel_rfl) rfl) ?_
     refine D_l rfl (fun w' hR => lv_load (by kernel_rfl) rfl ((hm.ext hR).at rfl)) ?_
     refine dpw (pv_slS (by kernel_rfl) rfl rfl rfl (by omega) (by omega)) ?_
     refine da ?_
     refine D_end (hK6 _ _ ?_)
     refine W_ret ?_
     try dsimp only [then', inBlk, noGo]
     refine ro ?_
     have hst : (s.drop q).takeWhile nseB = [] ∧ (s.drop q).dropWhile nseB = s.drop q := tw_stay (fun c' hc' => by first | (rw [hk] at hc'; cases hc'; simp at c2; simp [nseB, c2]; done) | (rw [hk] at hc'; cases hc'; simp at c3; simp [nseB, c3]; done) | (have := (List.getElem?_eq_some_iff.1 hc').1; omega))
     rw [hst.1, List.append_nil] at ht
     rw [ht]
     exact ⟨_, rfl, hx, rfl, q, hq1, hq2, by rw [hd, hst.2], hm⟩
   ·
    iterate 10 refine dk ?_
    refine dk' ?_
    refine D_end (hK5 _ _ ?_)
    refine W_f rfl ?_
    refine W_exit ?_
    refine hK3 _ _ ?_
    refine W_seq fun K7 hK7 => ?_
    refine W_draw (R := Ext) Ext.refl (fun _ _ _ => Ext.trans) (by kernel_rfl) [3, 8] [(0, .p, false), (1, .p, false), (2, .p, false), (3, .l, false), (4, .p, false), (5, .p, false), (6, .p, false), (7, .p, false), (8, .l, false), (9, .p, false), (10, .p, false)] rfl (by kernel_rfl) (by kernel_rfl) (fun w5 ew5 => ?_)
    have x5 : Ext w2 w5 := by rw [ew5]; exact Ext.drew _
    clear ew5
    replace hm := hm.ext x5
    replace hx := hx.ext x5
    refine dm ?_
    refine dp (pv_nilP rfl) ?_
    refine dp (pv_fieldA (k := 0) (by kernel_rfl) rfl) ?_
    refine D_l rfl (fun w' hR => lv_load (by kernel_rfl) rfl ((hm.ext hR).at rfl)) ?_
    iterate 2 refine dm ?_
    refine dp (pv_nilP rfl) ?_
    refine dp (pv_fieldA (k := 1) (by kernel_rfl) rfl) ?_
    refine D_l rfl (fun w' hR => lv_load (by kernel_rfl) rfl ((hm.ext hR).at rfl)) ?_
    refine dpw (pv_slS (by kernel_rfl) rfl rfl rfl (by omega) (by omega)) ?_
    refine da ?_
    refine D_end (hK7 _ _ ?_)
    refine W_ret ?_
    try dsimp only [then', inBlk, noGo]
    refine ro ?_
    have hst : (s.drop q).takeWhile nseB = [] ∧ (s.drop q).dropWhile nseB = s.drop q := tw_stay (fun c' hc' => by first | (rw [hk] at hc'; cases hc'; simp at c2; simp [nseB, c2]; done) | (rw [hk] at hc'; cases hc'; simp at c3; simp [nseB, c3]; done) | (have := (List.getElem?_eq_some_iff.1 hc').1; omega))
    rw [hst.1, List.append_nil] at ht
    rw [ht]
    exact ⟨_, rfl, hx, rfl, q, hq1, hq2, by rw [hd, hst.2], hm⟩
  ·
   iterate 10 refine dk ?_
   refine dk' ?_
   refine dm ?_
   iterate 10 refine dk ?_
   refine dk' ?_
   refine D_end (hK5 _ _ ?_)
   refine W_f rfl ?_
   refine W_exit ?_
   refine hK3 _ _ ?_
   refine W_seq fun K8 hK8 => ?_
   refine W_draw (R := Ext) Ext.refl (fun _ _ _ => Ext.trans) (by kernel_rfl) [3, 8] [(0, .p, false), (1, .p, false), (2, .p, false), (3, .l, false), (4, .p, false), (5, .p, false), (6, .p, false), (7, .p, false), (8, .l, false), (9, .p, false), (10, .p, false)] rfl (by kernel_rfl) (by kernel_rfl) (fun w6 ew6 => ?_)
   have x6 : Ext w2 w6 := by rw [ew6]; exact Ext.drew _
   clear ew6
   replace hm := hm.ext x6
   replace hx := hx.ext x6
   refine dm ?_
   refine dp (pv_nilP rfl) ?_
   refine dp (pv_fieldA (k := 0) (by kernel_rfl) rfl) ?_
   refine D_l rfl (fun w' hR => lv_load (by kernel_rfl) rfl ((hm.ext hR).at rfl)) ?_
   iterate 2 refine dm ?_
   refine dp (pv_nilP rfl) ?_
   refine dp (pv_fieldA (k := 1) (by kernel_rfl) rfl) ?_
   refine D_l rfl (fun w' hR => lv_load (by kernel_rfl) rfl ((hm.ext hR).at rfl)) ?_
   refine dpw (pv_slS (by kernel_rfl) rfl rfl rfl (by omega) (by omega)) ?_
   refine da ?_
   refine D_end (hK8 _ _ ?_)
   refine W_ret ?_
   try dsimp only [then', inBlk, noGo]
   refine ro ?_
   have hst : (s.drop q).takeWhile nseB = [] ∧ (s.drop q).dropWhile nseB = s.drop q := tw_stay (fun c' hc' => by first | (rw [hk] at hc'; cases hc'; simp at c2; simp [nseB, c2]; done) | (rw [hk] at hc'; cases hc'; simp at c3; simp [nseB, c3]; done) | (have := (List.getElem?_eq_some_iff.1 hc').1; omega))
   rw [hst.1, List.append_nil] at ht
   rw [ht]
   exact ⟨_, rfl, hx, rfl, q, hq1, hq2, by rw [hd, hst.2], hm⟩

set_option maxRecDepth 100000 in
set_option maxHeartbeats 1000000 in
theorem rstroke_w (bt p : Nat) (s : Str) (w : World) (hm : Blk w bt [S s, I ↑p] 128) (hs : s.length ≤ 1000000) (hp : p ≤ s.length) :
  Calls Tryz.prog 161 [ptr bt 0].toArray w (Does (oneB bt) w (fun v w' => ∃ (u : UInt8) (q : Nat), v = .tuple #[b8 u, B (strokeS (s.drop (p + 1))).isSome] ∧ p ≤ q ∧ q ≤ s.length ∧ Blk w' bt [S s, I ↑q] 128 ∧ ∀ x r, strokeS (s.drop (p + 1)) = some (x, r) → u = x ∧ s.drop q = r)) := by
 refine calls_W Tryz.func161 rfl rfl rfl (by kernel_rfl) ?_
 have hx := Ext.refl w
 refine W_seq fun K1 hK1 => ?_
 refine wr ?_
 iterate 2 refine da ?_
 refine D_end (hK1 _ _ ?_)
 refine W_seq fun K2 hK2 => ?_
 refine W_seq fun K3 hK3 => ?_
 refine W_draw (R := Ext) Ext.refl (fun _ _ _ => Ext.trans) (by kernel_rfl) [3, 8] [(0, .p, false), (1, .p, false), (2, .p, false), (3, .l, false), (4, .p, false), (5, .p, false), (6, .p, false), (7, .p, false), (8, .l, false), (9, .p, false), (10, .p, false)] rfl (by kernel_rfl) (by kernel_rfl) (fun w1 ew1 => ?_)
 have x1 : Ext w w1 := by rw [ew1]; exact Ext.drew _
 clear ew1
 replace hm := hm.ext x1
 replace hx := hx.trans x1
 refine dm ?_
 refine dp (pv_nilP rfl) ?_
 refine dp (pv_fieldA (k := 1) (by kernel_rfl) rfl) ?_
 refine D_l rfl (fun w' hR => lv_load (by kernel_rfl) rfl ((hm.ext hR).at rfl)) ?_
 refine dp (pv_add rfl rfl (by unfold inI64; omega)) ?_
 refine dm ?_
 refine dp (pv_nilP rfl) ?_
 refine dp (pv_fieldA (k := 0) (by kernel_rfl) rfl) ?_
 refine D_l rfl (fun w' hR => lv_load (by kernel_rfl) rfl ((hm.ext hR).at rfl)) ?_
 refine dp (pv_lenS (by kernel_rfl) rfl) ?_
 refine dp (pv_geq rfl rfl) ?_
 refine D_end (hK3 _ _ ?_)
 refine W_if rfl (fun c1 => ?_) (fun c1 => ?_)
 ·
  refine W_seq fun K4 hK4 => ?_
  refine wr ?_
  iterate 2 refine da ?_
  refine D_end (hK4 _ _ ?_)
  refine W_ret ?_
  try dsimp only [then', inBlk, noGo]
  refine rt ?_
  have e : strokeS (s.drop (p + 1)) = none := by rw [List.drop_eq_nil_of_le (by omega)]; rfl
  exact ⟨_, rfl, hx.mono (fun _ h _ => h.elim), (0 : UInt8), p, by rw [e]; rfl, Nat.le_refl _, hp, hm, by rw [e]; intro x r h; cases h⟩
 ·
  obtain ⟨c, hk⟩ : ∃ c, s[p + 1]? = some c := ⟨_, List.getElem?_eq_getElem (by omega)⟩
  have hdr := drop_consS hk
  refine W_skip ?_
  refine hK2 _ _ ?_
  refine W_seq fun K5 hK5 => ?_
  refine W_draw (R := Ext) Ext.refl (fun _ _ _ => Ext.trans) (by kernel_rfl) [3, 7] [(0, .p, false), (1, .p, false), (2, .p, false), (3, .l, false), (4, .p, false), (5, .p, false), (6, .p, false), (7, .l, false), (8, .p, false), (9, .p, false), (10, .p, false)] rfl (by kernel_rfl) (by kernel_rfl) (fun w2 ew2 => ?_)
  have x2 : Ext w1 w2 := by rw [ew2]; exact Ext.drew _
  clear ew2
  replace hm := hm.ext x2
  replace hx := hx.trans x2
  refine dm ?_
  refine dp (pv_nilP rfl) ?_
  refine dp (pv_fieldA (k := 0) (by kernel_rfl) rfl) ?_
  refine D_l rfl (fun w' hR => lv_load (by kernel_rfl) rfl ((hm.ext hR).at rfl)) ?_
  refine dm ?_
  refine dp (pv_nilP rfl) ?_
  refine dp (pv_fieldA (k := 1) (by kernel_rfl) rfl) ?_
  refine D_l rfl (fun w' hR => lv_load (by kernel_rfl) rfl ((hm.ext hR).at rfl)) ?_
  refine dp (pv_add rfl rfl (by unfold inI64; omega)) ?_
  refine dp (pv_idxS (by kernel_rfl) rfl rfl (i := p + 1) hk) ?_
  refine da ?_
  refine D_end (hK5 _ _ ?_)
  refine W_seq fun K6 hK6 => ?_
  refine W_seq fun K7 hK7 => ?_
  refine wr ?_
  refine dm ?_
  refine D_callP rfl (by kernel_rfl) (in_w c strokes _ (by decide)) rfl RX.all (fun w3 x3 => ?_)
  replace hm := hm.ext x3
  replace hx := hx.trans x3
  refine D_end (hK7 _ _ ?_)
  refine W_cond rfl (fun c2 => ?_) (fun c2 => ?_)
  ·
   refine W_seq fun K8 hK8 => ?_
   refine wr ?_
   iterate 2 refine dm ?_
   refine dp (pv_nilP rfl) ?_
   refine dp (pv_fieldA (k := 1) (by kernel_rfl) rfl) ?_
   refine dq (lv_load (by kernel_rfl) rfl (hm.at rfl)) ?_
   refine dp (pv_add rfl rfl (by unfold inI64; omega)) ?_
   refine dp (pv_nilP rfl) ?_
   refine dp (pv_fieldA (k := 1) (by kernel_rfl) rfl) ?_
   refine D_store1 (v := ?v14) rfl rfl ?h14 ?n14 (by kernel_rfl) hm ?o14 (.inl rfl) (fun w4 x4 xs4 hm => ?k14)
   case h14 => conv => lhs; whnf
   case n14 => first | rfl
   case o14 => exact Nat.le_of_ble_eq_true rfl
   try dsimp only [setAt, List.set, List.take, List.drop] at hm
   replace hx := (hx.mod x4).mono (fun i hi _ => (hi : (oneB bt) i))
   refine D_end (hK8 _ _ ?_)
   refine W_seq fun K9 hK9 => ?_
   refine wr ?_
   refine dm ?_
   iterate 2 refine da ?_
   refine D_end (hK9 _ _ ?_)
   refine W_ret ?_
   try dsimp only [then', inBlk, noGo]
   refine rt ?_
   have e : strokeS (s.drop (p + 1)) = some (c, s.drop (p + 2)) := by rw [hdr, strokeS_in c2]
   exact ⟨_, rfl, hx, _, p + 2, by rw [e]; rfl, by omega, by omega, hm, by rw [e]; intro x r h; cases h; exact ⟨rfl, rfl⟩⟩
  ·
   refine W_skip ?_
   refine hK6 _ _ ?_
   refine W_seq fun K10 hK10 => ?_
   refine W_seq fun K11 hK11 => ?_
   refine W_draw (R := Ext) Ext.refl (fun _ _ _ => Ext.trans) (by kernel_rfl) [3, 8, 20, 24] [(0, .p, false), (1, .p, false), (2, .p, false), (3, .l, false), (4, .p, false), (5, .p, false), (6, .p, false), (7, .p, false), (8, .l, false), (9, .p, false), (10, .p, false), (11, .p, false), (12, .p, false), (13, .x, false), (14, .p, false), (15, .p, false), (16, .p, false), (17, .p, false), (18, .p, false), (19, .p, false), (20, .l, false), (21, .p, false), (22, .p, false), (23, .p, false), (24, .l, false), (25, .p, false), (26, .p, false), (27, .x, false), (28, .p, false), (29, .p, false)] rfl (by kernel_rfl) (by kernel_rfl) (fun w5 ew5 => ?_)
   have x5 : Ext w3 w5 := by rw [ew5]; exact Ext.drew _
   clear ew5
   replace hm := hm.ext x5
   replace hx := hx.trans x5
   refine dm ?_
   refine dp (pv_nilP rfl) ?_
   refine dp (pv_fieldA (k := 1) (by kernel_rfl) rfl) ?_
   refine D_l rfl (fun w' hR => lv_load (by kernel_rfl) rfl ((hm.ext hR).at rfl)) ?_
   refine dp (pv_add rfl rfl (by unfold inI64; omega)) ?_
   refine dm ?_
   refine dp (pv_nilP rfl) ?_
   refine dp (pv_fieldA (k := 0) (by kernel_rfl) rfl) ?_
   refine D_l rfl (fun w' hR => lv_load (by kernel_rfl) rfl ((hm.ext hR).at rfl)) ?_
   refine dp (pv_lenS (by kernel_rfl) rfl) ?_
   refine dp (pv_lss rfl rfl) ?_
   refine dm ?_
   refine D_splitP 49 rfl (fun c3 => ?_) (fun c3 => ?_)
   ·
    obtain ⟨d, hd⟩ : ∃ d, s[p + 2]? = some d := ⟨_, List.getElem?_eq_getElem (by omega)⟩
    have hdr2 := drop_consS hd
    refine dm ?_
    refine D_callP rfl (by kernel_rfl) (half_w c _) rfl RX.ext (fun w6 x6 => ?_)
    replace hm := hm.ext x6
    replace hx := hx.trans x6
    refine dp (pv_geq rfl rfl) ?_
    refine dk' ?_
    refine dm ?_
    refine D_splitP 54 rfl (fun c4 => ?_) (fun c4 => ?_)
    ·
     refine dm ?_
     refine dp (pv_nilP rfl) ?_
     refine dp (pv_fieldA (k := 0) (by kernel_rfl) rfl) ?_
     refine D_l rfl (fun w' hR => lv_load (by kernel_rfl) rfl ((hm.ext hR).at rfl)) ?_
     refine dm ?_
     refine dp (pv_nilP rfl) ?_
     refine dp (pv_fieldA (k := 1) (by kernel_rfl) rfl) ?_
     refine D_l rfl (fun w' hR => lv_load (by kernel_rfl) rfl ((hm.ext hR).at rfl)) ?_
     refine dp (pv_add rfl rfl (by unfold inI64; omega)) ?_
     refine dp (pv_idxS (by kernel_rfl) rfl rfl (i := p + 2) hd) ?_
     refine D_callP rfl (by kernel_rfl) (half_w d _) rfl RX.ext (fun w7 x7 => ?_)
     replace hm := hm.ext x7
     replace hx := hx.trans x7
     refine dp (pv_geq rfl rfl) ?_
     refine dk' ?_
     refine D_end (hK11 _ _ ?_)
     refine W_if rfl (fun c5 => ?_) (fun c5 => ?_)
     ·
      obtain ⟨h, hh⟩ := halfI_ge.1 c4
      obtain ⟨l, hl⟩ := halfI_ge.1 c5
      have hlt1 := halfB_lt hh
      have hlt2 := halfB_lt hl
      refine W_seq fun K12 hK12 => ?_
      refine W_draw (R := Ext) Ext.refl (fun _ _ _ => Ext.trans) (by kernel_rfl) [6, 10] [(0, .p, false), (3, .p, false), (4, .p, false), (5, .p, false), (6, .l, false), (7, .p, false), (8, .p, false), (9, .p, false), (10, .l, false), (11, .p, false), (12, .p, false), (1, .x, false), (2, .p, false), (13, .x, false), (14, .p, false), (15, .p, false), (16, .p, false)] rfl (by kernel_rfl) (by kernel_rfl) (fun w8 ew8 => ?_)
      have x8 : Ext w7 w8 := by rw [ew8]; exact Ext.drew _
      clear ew8
      replace hm := hm.ext x8
      replace hx := hx.trans x8
      iterate 2 refine dm ?_
      refine dp (pv_nilP rfl) ?_
      refine dp (pv_fieldA (k := 0) (by kernel_rfl) rfl) ?_
      refine D_l rfl (fun w' hR => lv_load (by kernel_rfl) rfl ((hm.ext hR).at rfl)) ?_
      refine dm ?_
      refine dp (pv_nilP rfl) ?_
      refine dp (pv_fieldA (k := 1) (by kernel_rfl) rfl) ?_
      refine D_l rfl (fun w' hR => lv_load (by kernel_rfl) rfl ((hm.ext hR).at rfl)) ?_
      refine dp (pv_add rfl rfl (by unfold inI64; omega)) ?_
      refine dp (pv_idxS (by kernel_rfl) rfl rfl (i := p + 2) hd) ?_
      refine D_callP rfl (by kernel_rfl) (halfS_w c h _ hh) rfl RX.ext (fun w9 x9 => ?_)
      replace hm := hm.ext x9
      replace hx := hx.trans x9
      refine dp (pv_mul rfl rfl (by unfold inI64; omega)) ?_
      refine D_callP rfl (by kernel_rfl) (halfS_w d l _ hl) rfl RX.ext (fun w10 x10 => ?_)
      replace hm := hm.ext x10
      replace hx := hx.trans x10
      refine D_pe (v := I ↑(16 * h.toNat + l.toNat)) rfl (pv_add rfl rfl (by unfold inI64; omega)) (by show I _ = I _; congr 1) ?_
      refine dp (pv_toB rfl (by kernel_rfl) (by kernel_rfl)) ?_
      refine da ?_
      refine D_end (hK12 _ _ ?_)
      refine W_seq fun K13 hK13 => ?_
      refine wr ?_
      iterate 2 refine dm ?_
      refine dp (pv_nilP rfl) ?_
      refine dp (pv_fieldA (k := 1) (by kernel_rfl) rfl) ?_
      refine dq (lv_load (by kernel_rfl) rfl (hm.at rfl)) ?_
      refine dp (pv_add rfl rfl (by unfold inI64; omega)) ?_
      refine dp (pv_nilP rfl) ?_
      refine dp (pv_fieldA (k := 1) (by kernel_rfl) rfl) ?_
      refine D_store1 (v := ?v34) rfl rfl ?h34 ?n34 (by kernel_rfl) hm ?o34 (.inl rfl) (fun w11 x11 xs11 hm => ?k34)
      case h34 => conv => lhs; whnf
      case n34 => first | rfl
      case o34 => exact Nat.le_of_ble_eq_true rfl
      try dsimp only [setAt, List.set, List.take, List.drop] at hm
      replace hx := (hx.mod x11).mono (fun i hi _ => (hi : (oneB bt) i))
      refine D_end (hK13 _ _ ?_)
      refine W_seq fun K14 hK14 => ?_
      refine wr ?_
      refine dm ?_
      iterate 2 refine da ?_
      refine D_end (hK14 _ _ ?_)
      refine W_ret ?_
      try dsimp only [then', inBlk, noGo]
      refine rt ?_
      have e : strokeS (s.drop (p + 1)) = some (h <<< 4 ||| l, s.drop (p + 3)) := by rw [hdr, hdr2, strokeS_hex (by rw [c2]; decide) hh, hl]; rfl
      exact ⟨_, rfl, hx, _, p + 3, by rw [e]; rfl, by omega, by omega, hm, by rw [e, hex_two hh hl]; intro x r h; cases h; exact ⟨rfl, rfl⟩⟩
     ·
      refine W_skip ?_
      refine hK10 _ _ ?_
      refine W_seq fun K15 hK15 => ?_
      refine wr ?_
      iterate 2 refine da ?_
      refine D_end (hK15 _ _ ?_)
      refine W_ret ?_
      try dsimp only [then', inBlk, noGo]
      refine rt ?_
      have hin : ¬ inS c strokes = true := by rw [c2]; decide
      have e : strokeS (s.drop (p + 1)) = none := by
       rw [hdr]
       cases hh : halfB c with
       | none => exact strokeS_nohex hin hh
       | some h =>
        first
        | exact absurd (halfI_ge.2 ⟨h, hh⟩) c4
        | (rw [hdr2, strokeS_hex hin hh]; cases hl : halfB d with | none => rfl | some l => exact absurd (halfI_ge.2 ⟨l, hl⟩) c5)
        | (rw [List.drop_eq_nil_of_le (by omega), strokeS_short hin])
      exact ⟨_, rfl, hx.mono (fun _ h _ => h.elim), (0 : UInt8), p, by rw [e]; rfl, Nat.le_refl _, hp, hm, by rw [e]; intro x r h; cases h⟩
    ·
     iterate 12 refine dk ?_
     refine dk' ?_
     refine D_end (hK11 _ _ ?_)
     refine W_f rfl ?_
     refine W_skip ?_
     refine hK10 _ _ ?_
     refine W_seq fun K16 hK16 => ?_
     refine wr ?_
     iterate 2 refine da ?_
     refine D_end (hK16 _ _ ?_)
     refine W_ret ?_
     try dsimp only [then', inBlk, noGo]
     refine rt ?_
     have hin : ¬ inS c strokes = true := by rw [c2]; decide
     have e : strokeS (s.drop (p + 1)) = none := by
      rw [hdr]
      cases hh : halfB c with
      | none => exact strokeS_nohex hin hh
      | some h =>
       first
       | exact absurd (halfI_ge.2 ⟨h, hh⟩) c4
       | (rw [hdr2, strokeS_hex hin hh]; cases hl : halfB d with | none => rfl | some l => exact absurd (halfI_ge.2 ⟨l, hl⟩) c5)
       | (rw [List.drop_eq_nil_of_le (by omega), strokeS_short hin])
     exact ⟨_, rfl, hx.mono (fun _ h _ => h.elim), (0 : UInt8), p, by rw [e]; rfl, Nat.le_refl _, hp, hm, by rw [e]; intro x r h; cases h⟩
   ·
    iterate 3 refine dk ?_
    refine dk' ?_
    refine dm ?_
    iterate 12 refine dk ?_
    refine dk' ?_
    refine D_end (hK11 _ _ ?_)
    refine W_f rfl ?_
    refine W_skip ?_
    refine hK10 _ _ ?_
    refine W_seq fun K17 hK17 => ?_
    refine wr ?_
    iterate 2 refine da ?_
    refine D_end (hK17 _ _ ?_)
    refine W_ret ?_
    try dsimp only [then', inBlk, noGo]
    refine rt ?_
    have hin : ¬ inS c strokes = true := by rw [c2]; decide
    have e : strokeS (s.drop (p + 1)) = none := by
     rw [hdr]
     cases hh : halfB c with
     | none => exact strokeS_nohex hin hh
     | some h =>
      first
      | exact absurd (halfI_ge.2 ⟨h, hh⟩) c4
      | (rw [hdr2, strokeS_hex hin hh]; cases hl : halfB d with | none => rfl | some l => exact absurd (halfI_ge.2 ⟨l, hl⟩) c5)
      | (rw [List.drop_eq_nil_of_le (by omega), strokeS_short hin])
    exact ⟨_, rfl, hx.mono (fun _ h _ => h.elim), (0 : UInt8), p, by rw [e]; rfl, Nat.le_refl _, hp, hm, by rw [e]; intro x r h; cases h⟩

set_option maxRecDepth 100000 in
set_option maxHeartbeats 1000000 in
theorem rval_w (bt p : Nat) (s : Str) (w : World) (hm : Blk w bt [S s, I ↑p] 128) (hs : s.length ≤ 1000000) (hp : p ≤ s.length) :
  Calls Tryz.prog 146 [ptr bt 0].toArray w (Does (oneB bt) w (fun v w' => ∃ (u : Str) (q : Nat), v = .tuple #[S u, B (valueS (s.drop p)).isSome] ∧ p ≤ q ∧ q ≤ s.length ∧ Blk w' bt [S s, I ↑q] 128 ∧ ∀ x r, valueS (s.drop p) = some (x, r) → u = x ∧ s.drop q = r)) := by
 refine calls_W Tryz.func146 rfl rfl rfl (by kernel_rfl) ?_
 have hx := Ext.refl w
 have hbt := hm.lt
 have ho : Own encB 1 5 w.heap.size w (.slice none 0 0) [] := Own.nil
 refine W_seq fun K1 hK1 => ?_
 refine wr ?_
 iterate 2 refine da ?_
 refine D_end (hK1 _ _ ?_)
 refine W_seq fun K2 hK2 => ?_
 refine wr ?_
 refine da ?_
 refine D_end (hK2 _ _ ?_)
 refine W_seq fun K3 hK3 => ?_
 refine wr ?_
 refine da ?_
 refine D_end (hK3 _ _ ?_)
 refine W_seq fun K4 hK4 => ?_
 refine W_block ?_
 refine W_loop (G := Nat × Value × Str × Nat) (fun (q, vb, b, k) => [(0, ptr bt 0), (4, vb), (5, I ↑k)]) (fun (q, vb, b, k) w' => Mod (oneB bt) w w' ∧ Blk w' bt [S s, I ↑q] 128 ∧ Own encB 1 5 w.heap.size w' vb b ∧ p ≤ q ∧ q ≤ s.length ∧ k ≤ b.length ∧ b.length ≤ q ∧ valL (s.drop q) b k = valL (s.drop p) [] 0) (fun (q, vb, b, k) => s.length - q) (p, .slice none 0 0, [], 0) ?_ ?_ ?_
 ·
  exact ⟨rfl, rfl, rfl, trivial⟩
 ·
  exact ⟨hx.mono (fun _ h _ => h.elim), hm, ho, Nat.le_refl _, hp, Nat.zero_le _, Nat.zero_le _, rfl⟩
 ·
  intro X1 g1 w1 hF1
  obtain ⟨q, vb, b, k⟩ := g1
  clear hx hm ho
  obtain ⟨hx, hm, ho, hq1, hq2, hk1, hk2, hv⟩ := hF1
  refine W_seq fun K5 hK5 => ?_
  refine W_seq fun K6 hK6 => ?_
  refine W_draw (R := Ext) Ext.refl (fun _ _ _ => Ext.trans) (by kernel_rfl) [3, 7, 14, 18] [(0, .p, false), (1, .p, false), (2, .p, false), (3, .l, false), (4, .p, false), (5, .p, false), (6, .p, false), (7, .l, false), (8, .p, false), (9, .p, false), (10, .p, false), (11, .p, false), (12, .p, false), (13, .p, false), (14, .l, false), (15, .p, false), (16, .p, false), (17, .p, false), (18, .l, false), (19, .p, false), (20, .p, false), (21, .p, false)] rfl (by kernel_rfl) (by kernel_rfl) (fun w2 ew2 => ?_)
  have x2 : Ext w1 w2 := by rw [ew2]; exact Ext.drew _
  clear ew2
  replace hm := hm.ext x2
  replace ho := ho.ext x2
  replace hx := hx.ext x2
  refine dm ?_
  refine dp (pv_nilP rfl) ?_
  refine dp (pv_fieldA (k := 1) (by kernel_rfl) rfl) ?_
  refine D_l rfl (fun w' hR => lv_load (by kernel_rfl) rfl ((hm.ext hR).at rfl)) ?_
  refine dm ?_
  refine dp (pv_nilP rfl) ?_
  refine dp (pv_fieldA (k := 0) (by kernel_rfl) rfl) ?_
  refine D_l rfl (fun w' hR => lv_load (by kernel_rfl) rfl ((hm.ext hR).at rfl)) ?_
  refine dp (pv_lenS (by kernel_rfl) rfl) ?_
  refine dp (pv_lss rfl rfl) ?_
  refine dm ?_
  refine D_splitP 19 rfl (fun c1 => ?_) (fun c1 => ?_)
  ·
   obtain ⟨c, hk⟩ : ∃ c, s[q]? = some c := ⟨_, List.getElem?_eq_getElem (by omega)⟩
   have hdr := drop_consS hk
   refine dm ?_
   refine dp (pv_nilP rfl) ?_
   refine dp (pv_fieldA (k := 0) (by kernel_rfl) rfl) ?_
   refine D_l rfl (fun w' hR => lv_load (by kernel_rfl) rfl ((hm.ext hR).at rfl)) ?_
   refine dm ?_
   refine dp (pv_nilP rfl) ?_
   refine dp (pv_fieldA (k := 1) (by kernel_rfl) rfl) ?_
   refine D_l rfl (fun w' hR => lv_load (by kernel_rfl) rfl ((hm.ext hR).at rfl)) ?_
   refine dp (pv_idxS (by kernel_rfl) rfl rfl hk) ?_
   refine dp (pv_neqB (b := 44) rfl rfl) ?_
   refine dk' ?_
   refine D_end (hK6 _ _ ?_)
   refine W_if rfl (fun c2 => ?_) (fun c2 => ?_)
   ·
    refine W_skip ?_
    refine hK5 _ _ ?_
    refine W_block ?_
    refine W_seq fun K7 hK7 => ?_
    refine W_draw (R := Ext) Ext.refl (fun _ _ _ => Ext.trans) (by kernel_rfl) [3, 7] [(0, .p, false), (1, .p, false), (2, .p, false), (3, .l, false), (4, .p, false), (5, .p, false), (6, .p, false), (7, .l, false), (8, .p, false), (9, .p, false)] rfl (by kernel_rfl) (by kernel_rfl) (fun w3 ew3 => ?_)
    have x3 : Ext w2 w3 := by rw [ew3]; exact Ext.drew _
    clear ew3
    replace hm := hm.ext x3
    replace ho := ho.ext x3
    replace hx := hx.ext x3
    refine dm ?_
    refine dp (pv_nilP rfl) ?_
    refine dp (pv_fieldA (k := 0) (by kernel_rfl) rfl) ?_
    refine D_l rfl (fun w' hR => lv_load (by kernel_rfl) rfl ((hm.ext hR).at rfl)) ?_
    refine dm ?_
    refine dp (pv_nilP rfl) ?_
    refine dp (pv_fieldA (k := 1) (by kernel_rfl) rfl) ?_
    refine D_l rfl (fun w' hR => lv_load (by kernel_rfl) rfl ((hm.ext hR).at rfl)) ?_
    refine dp (pv_idxS (by kernel_rfl) rfl rfl hk) ?_
    refine da ?_
    refine D_end (hK7 _ _ ?_)
    refine W_block ?_
    refine W_seq fun K8 hK8 => ?_
    refine wr ?_
    refine dm ?_
    refine dp (pv_eqlB (b := 92) rfl rfl) ?_
    refine da ?_
    refine D_end (hK8 _ _ ?_)
    refine W_if rfl (fun c3 => ?_) (fun c3 => ?_)
    ·
     refine W_seq fun K9 hK9 => ?_
     refine wr ?_
     refine dm ?_
     refine D_callD rfl (by kernel_rfl) (rstroke_w bt q s _ hm hs (by omega)) rfl (.inl rfl) (fun u4 w4 x4 hf4 => ?_)
     have hsz4 := hx.size
     replace ho := ho.mod x4 (fun k hk e => by have h1 := (ho.lt k hk).1; have h2 : k = bt := e; omega)
     replace hx := hx.own x4 (fun i hi _ => hi)
     obtain ⟨u, q2, rfl, hqq1, hqq2, hm, hu⟩ := hf4
     refine dm ?_
     refine dp (pv_ext rfl rfl) ?_
     refine dp (pv_ext rfl rfl) ?_
     iterate 2 refine da ?_
     refine D_end (hK9 _ _ ?_)
     refine W_seq fun K10 hK10 => ?_
     refine W_seq fun K11 hK11 => ?_
     refine wr ?_
     refine dm ?_
     refine dn ?_
     refine D_end (hK11 _ _ ?_)
     refine W_cond rfl (fun c4 => ?_) (fun c4 => ?_)
     ·
      refine W_seq fun K12 hK12 => ?_
      refine wr ?_
      iterate 2 refine da ?_
      refine D_end (hK12 _ _ ?_)
      refine W_ret ?_
      try dsimp only [then', inBlk, noGo]
      refine rt ?_
      have e : valueS (s.drop p) = none := by unfold valueS; rw [← hv, hdr, c3, valL_no (by simpa using c4)]
      exact ⟨_, rfl, hx, _, q2, by rw [e]; rfl, by omega, hqq2, hm, by rw [e]; intro x r h; cases h⟩
     ·
      simp only [Bool.not_eq_false', Option.isSome_iff_exists] at c4
      obtain ⟨⟨x, r2⟩, hsx⟩ := c4
      obtain ⟨rfl, hr⟩ := hu x r2 hsx
      have hsl := strokeS_lt hsx
      rw [← hr, List.length_drop, List.length_drop] at hsl
      refine W_skip ?_
      refine hK10 _ _ ?_
      refine W_seq fun K13 hK13 => ?_
      refine wr ?_
      iterate 2 refine dm ?_
      refine D_lit (e := 5) (sz := 1) (zs := [.int .u8 0]) (pv := [(0, ?a27_0)]) (cs := [?a27_0]) rfl (by kernel_rfl) ⟨rfl, rfl⟩ (by kernel_rfl) rfl ?h27 ?f27 RX.all (fun b1 w5 e1 x5 m1 => ?k27)
      case h27 => refine ⟨rfl, ?_, trivial⟩ <;> (conv => lhs; whnf)
      case f27 => rfl
      have g1 : w.heap.size ≤ b1 := by have := hx.size; omega
      have o1_ho : ∀ k, Value.ownBlock _ = some k → k < b1 := fun k hk => by have := (ho.lt k hk).2; omega
      have a1_hm := hm.lt
      replace ho := ho.ext x5
      replace hm := hm.ext x5
      replace hx := hx.ext x5
      refine D_append (lx := [u]) (e := 5) (sz := 1) (by' := 1) rfl (by kernel_rfl) (by kernel_rfl) (by intro x; rfl) ho (m1.arr (enc := encB) (sz := 1) (l := [u]) rfl (by intro x; rfl) rfl (Nat.le_of_ble_eq_true rfl)) rfl rfl (by intro x _ u hu; simp at hu; rcases hu with rfl <;> rfl) (by simp; omega) (by decide) hx.size (.inl rfl) (fun vb2 w6 ho_n x6 => ?_)
      try replace hm := hm.mod x6 (by first | assumption | (intro h; have h1 := (ho.lt _ h).1; omega))
      replace hx := hx.own x6 (fun i hi hlt => (by have := (ho.lt i hi).1; omega))
      replace ho := ho_n
      clear m1
      refine da ?_
      refine D_end (hK13 _ _ ?_)
      refine wr ?_
      refine dm ?_
      refine dp (pv_lenV (e := 5) (k := 1) (by kernel_rfl) ho.sl rfl) ?_
      refine da ?_
      refine D_end (?_)
      refine ⟨(q2, vb2, b ++ [u], (b ++ [u]).length), ⟨rfl, rfl, rfl, trivial⟩, ⟨hx, hm, ho, by omega, hqq2, Nat.le_refl _, by simp; omega, ?_⟩, by simp only []; omega⟩
      rw [← hv, hdr, c3, valL_stroke hsx, hr, List.length_append]; rfl
    ·
     refine W_seq fun K14 hK14 => ?_
     refine wr ?_
     refine dm ?_
     refine D_callP rfl (by kernel_rfl) (in_w c [43, 34, 60, 62, 59] _ (by decide)) rfl RX.all (fun w7 x7 => ?_)
     replace hm := hm.ext x7
     replace ho := ho.ext x7
     replace hx := hx.ext x7
     refine da ?_
     refine D_end (hK14 _ _ ?_)
     refine W_cond rfl (fun c5 => ?_) (fun c5 => ?_)
     ·
      refine W_seq fun K15 hK15 => ?_
      refine wr ?_
      iterate 2 refine da ?_
      refine D_end (hK15 _ _ ?_)
      refine W_ret ?_
      try dsimp only [then', inBlk, noGo]
      refine rt ?_
      have e : valueS (s.drop p) = none := by unfold valueS; rw [← hv, hdr, valL_bad c2 c3 c5]
      exact ⟨_, rfl, hx, _, q, by rw [e]; rfl, by omega, by omega, hm, by rw [e]; intro x r h; cases h⟩
     ·
      refine W_seq fun K16 hK16 => ?_
      refine wr ?_
      iterate 2 refine dm ?_
      refine D_lit (e := 5) (sz := 1) (zs := [.int .u8 0]) (pv := [(0, ?a38_0)]) (cs := [?a38_0]) rfl (by kernel_rfl) ⟨rfl, rfl⟩ (by kernel_rfl) rfl ?h38 ?f38 RX.all (fun b2 w8 e2 x8 m2 => ?k38)
      case h38 => refine ⟨rfl, ?_, trivial⟩ <;> (conv => lhs; whnf)
      case f38 => rfl
      have g2 : w.heap.size ≤ b2 := by have := hx.size; omega
      have a2_hm := hm.lt
      have o2_ho : ∀ k, Value.ownBlock _ = some k → k < b2 := fun k hk => by have := (ho.lt k hk).2; omega
      replace hm := hm.ext x8
      replace ho := ho.ext x8
      replace hx := hx.ext x8
      refine D_append (lx := [c]) (e := 5) (sz := 1) (by' := 1) rfl (by kernel_rfl) (by kernel_rfl) (by intro x; rfl) ho (m2.arr (enc := encB) (sz := 1) (l := [c]) rfl (by intro x; rfl) rfl (Nat.le_of_ble_eq_true rfl)) rfl rfl (by intro x _ u hu; simp at hu; rcases hu with rfl <;> rfl) (by simp; omega) (by decide) hx.size (.inl rfl) (fun vb2 w9 ho_n x9 => ?_)
      try replace hm := hm.mod x9 (by first | assumption | (intro h; have h1 := (ho.lt _ h).1; omega))
      replace hx := hx.own x9 (fun i hi hlt => (by have := (ho.lt i hi).1; omega))
      replace ho := ho_n
      clear m2
      refine da ?_
      refine D_end (hK16 _ _ ?_)
      refine W_seq fun K17 hK17 => ?_
      refine W_seq fun K18 hK18 => ?_
      refine wr ?_
      refine dm ?_
      refine dp (pv_neqB (b := 32) rfl rfl) ?_
      refine D_end (hK18 _ _ ?_)
      refine W_if rfl (fun c6 => ?_) (fun c6 => ?_)
      ·
       refine wr ?_
       refine dm ?_
       refine dp (pv_lenV (e := 5) (k := 1) (by kernel_rfl) ho.sl rfl) ?_
       refine da ?_
       refine D_end (hK17 _ _ ?_)
       refine wr ?_
       refine dm ?_
       refine dp (pv_nilP rfl) ?_
       refine dp (pv_fieldA (k := 1) (by kernel_rfl) rfl) ?_
       refine dq (lv_load (by kernel_rfl) rfl (hm.at rfl)) ?_
       refine dp (pv_add rfl rfl (by unfold inI64; omega)) ?_
       refine dp (pv_nilP rfl) ?_
       refine dp (pv_fieldA (k := 1) (by kernel_rfl) rfl) ?_
       refine D_store1 (v := ?v44) rfl rfl ?h44 ?n44 (by kernel_rfl) hm ?o44 (.inl rfl) (fun w10 x10 xs10 hm => ?k44)
       case h44 => conv => lhs; whnf
       case n44 => first | rfl | exact isSl.one ho.sl
       case o44 => exact Nat.le_of_ble_eq_true rfl
       try dsimp only [setAt, List.set, List.take, List.drop] at hm
       try replace ho := ho.mod x10 (by first | assumption | (intro k hk h; have h1 := (ho.lt k hk).1; have h2 : k = bt := h; omega) | (intro k hk h; have h1 := ot_ho k hk; have h2 : k = bt := h; omega) | (intro h; have h2 : _ = bt := h; omega) | (intro hl h; have h1 := at_ho hl; have h2 : _ = bt := h; omega))
       replace hx := hx.own x10 (fun i hi _ => hi)
       refine D_end (?_)
       refine ⟨(q + 1, vb2, b ++ [c], (b ++ [c]).length), ⟨rfl, rfl, rfl, trivial⟩, ⟨hx, hm, ho, by omega, by omega, Nat.le_refl _, by simp; omega, ?_⟩, by simp only []; omega⟩
       rw [← hv, hdr, valL_byte c2 c3 c5, if_neg c6, List.length_append]; rfl
      ·
       refine W_skip ?_
       refine hK17 _ _ ?_
       refine wr ?_
       refine dm ?_
       refine dp (pv_nilP rfl) ?_
       refine dp (pv_fieldA (k := 1) (by kernel_rfl) rfl) ?_
       refine dq (lv_load (by kernel_rfl) rfl (hm.at rfl)) ?_
       refine dp (pv_add rfl rfl (by unfold inI64; omega)) ?_
       refine dp (pv_nilP rfl) ?_
       refine dp (pv_fieldA (k := 1) (by kernel_rfl) rfl) ?_
       refine D_store1 (v := ?v46) rfl rfl ?h46 ?n46 (by kernel_rfl) hm ?o46 (.inl rfl) (fun w11 x11 xs11 hm => ?k46)
       case h46 => conv => lhs; whnf
       case n46 => first | rfl | exact isSl.one ho.sl
       case o46 => exact Nat.le_of_ble_eq_true rfl
       try dsimp only [setAt, List.set, List.take, List.drop] at hm
       try replace ho := ho.mod x11 (by first | assumption | (intro k hk h; have h1 := (ho.lt k hk).1; have h2 : k = bt := h; omega) | (intro k hk h; have h1 := ot_ho k hk; have h2 : k = bt := h; omega) | (intro h; have h2 : _ = bt := h; omega) | (intro hl h; have h1 := at_ho hl; have h2 : _ = bt := h; omega))
       replace hx := hx.own x11 (fun i hi _ => hi)
       refine D_end (?_)
       refine ⟨(q + 1, vb2, b ++ [c], k), ⟨rfl, rfl, rfl, trivial⟩, ⟨hx, hm, ho, by omega, by omega, by simp; omega, by simp; omega, ?_⟩, by simp only []; omega⟩
       rw [← hv, hdr, valL_byte c2 c3 c5, if_pos (Decidable.not_not.1 c6)]
   ·
    refine W_exit ?_
    refine hK4 _ _ ?_
    refine W_seq fun K19 hK19 => ?_
    refine W_reg [.p, .p, .p, .l, .p, .p, .p, .p] rfl ?_
    iterate 2 refine dm ?_
    refine dp (pv_slV (e := 5) (k := 1) (by kernel_rfl) ho.sl rfl rfl rfl (Nat.zero_le _) hk1) ?_
    refine dq (lv_b2s (by kernel_rfl) (by kernel_rfl) ((ho.arr (by intro x; rfl)).slice (Nat.zero_le _) hk1) rfl) ?_
    refine dm ?_
    refine dp (pv_gtr rfl rfl) ?_
    iterate 2 refine da ?_
    refine D_end (hK19 _ _ ?_)
    refine W_ret ?_
    try dsimp only [then', inBlk, noGo]
    refine rt ?_
    have hvl : valL (s.drop q) b k = some (b, k, s.drop q) := by first | (rw [drop_consS hk, Decidable.not_not.1 c2]; exact valL_comma ..) | (rw [List.drop_eq_nil_of_le (by omega)]; exact valL_nil ..)
    have e : valueS (s.drop p) = if 0 < k then some (b.take k, s.drop q) else none := by unfold valueS; rw [← hv, hvl]
    refine ⟨_, rfl, hx, b.take k, q, by rw [e]; by_cases h : 0 < k <;> simp [h], hq1, hq2, hm, ?_⟩
    rw [e]
    intro x r h
    split at h
    ·
     cases h; exact ⟨rfl, rfl⟩
    ·
     cases h
  ·
   iterate 10 refine dk ?_
   refine dk' ?_
   refine D_end (hK6 _ _ ?_)
   refine W_f rfl ?_
   refine W_exit ?_
   refine hK4 _ _ ?_
   refine W_seq fun K20 hK20 => ?_
   refine W_reg [.p, .p, .p, .l, .p, .p, .p, .p] rfl ?_
   iterate 2 refine dm ?_
   refine dp (pv_slV (e := 5) (k := 1) (by kernel_rfl) ho.sl rfl rfl rfl (Nat.zero_le _) hk1) ?_
   refine dq (lv_b2s (by kernel_rfl) (by kernel_rfl) ((ho.arr (by intro x; rfl)).slice (Nat.zero_le _) hk1) rfl) ?_
   refine dm ?_
   refine dp (pv_gtr rfl rfl) ?_
   iterate 2 refine da ?_
   refine D_end (hK20 _ _ ?_)
   refine W_ret ?_
   try dsimp only [then', inBlk, noGo]
   refine rt ?_
   have hvl : valL (s.drop q) b k = some (b, k, s.drop q) := by first | (rw [drop_consS hk, Decidable.not_not.1 c2]; exact valL_comma ..) | (rw [List.drop_eq_nil_of_le (by omega)]; exact valL_nil ..)
   have e : valueS (s.drop p) = if 0 < k then some (b.take k, s.drop q) else none := by unfold valueS; rw [← hv, hvl]
   refine ⟨_, rfl, hx, b.take k, q, by rw [e]; by_cases h : 0 < k <;> simp [h], hq1, hq2, hm, ?_⟩
   rw [e]
   intro x r h
   split at h
   ·
    cases h; exact ⟨rfl, rfl⟩
   ·
    cases h

end Go.Proofs.YtdagdhjheibgnaaGreatDoor
