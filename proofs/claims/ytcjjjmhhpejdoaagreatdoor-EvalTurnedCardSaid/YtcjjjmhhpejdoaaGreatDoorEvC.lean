/-
  Walks.
-/
import Derived.Test.YtcjjjmhhpejdoaaGreatDoorChecked
import Derived.Test.YtcjjjmhhpejdoaaGreatDoorSpMem
import Derived.KernelRfl
import Derived.Test.YtcjjjmhhpejdoaaGreatDoorEvB
namespace Go.Proofs.YtcjjjmhhpejdoaaGreatDoor
open Go.Vc Go.Sp
attribute [local irreducible] W XW Dw DwT
set_option linter.unusedVariables false
set_option linter.unusedSimpArgs false


set_option maxRecDepth 100000 in
set_option maxHeartbeats 1000000 in
theorem law_three (l : List Int) (v : Value) (x : Int) (w : World) (hv : Arr Vc.encI 1 w v l) (hl0 : l.length ≤ maxLen) :
  Calls Tryz.prog 13 [v, I x].toArray w (Pure w (B true)) := by
 refine calls_W Tryz.func13 rfl rfl rfl (by kernel_rfl) ?_
 have hx := Ext.refl w
 unfold maxLen at hl0
 refine W_seq fun K1 hK1 => ?_
 refine wr ?_
 refine da ?_
 refine D_end (hK1 _ _ ?_)
 refine W_seq fun K2 hK2 => ?_
 refine W_seq fun K3 hK3 => ?_
 refine wr ?_
 refine dm ?_
 refine dp (pv_lenV (e := 3) (k := 1) (by kernel_rfl) hv.sl rfl) ?_
 refine dp (pv_gtr rfl rfl) ?_
 refine D_end (hK3 _ _ ?_)
 refine W_if rfl (fun c1 => ?_) (fun c1 => ?_)
 ·
  refine W_seq fun K4 hK4 => ?_
  refine wr ?_
  refine da ?_
  refine D_end (hK4 _ _ ?_)
  refine W_ret ?_
  try dsimp only [then', inBlk, noGo]
  refine ro ?_
  exact ⟨rfl, hx⟩
 ·
  refine W_skip ?_
  refine hK2 _ _ ?_
  refine W_seq fun K5 hK5 => ?_
  refine wr ?_
  refine da ?_
  refine D_end (hK5 _ _ ?_)
  refine W_seq fun K6 hK6 => ?_
  refine W_seq fun K7 hK7 => ?_
  refine wr ?_
  refine da ?_
  refine D_end (hK7 _ _ ?_)
  refine W_block ?_
  refine W_loop (G := Nat × Value) (fun (k, vm) => [(0, v), (1, I x), (4, .bool false), (5, vm), (6, I ↑k)]) (fun (k, vm) w' => Ext w w' ∧ k ≤ l.length ∧ Vc.Own Vc.encI 1 3 w.heap.size w' vm ((l.take k).map threeV)) (fun (k, vm) => l.length - k) (0, .slice none 0 0) ?_ ?_ ?_
  ·
   exact ⟨rfl, rfl, rfl, rfl, rfl, trivial⟩
  ·
   exact ⟨hx, Nat.zero_le _, Vc.Own.nil⟩
  ·
   intro X1 g1 w1 hF1
   obtain ⟨k, vm⟩ := g1
   clear hx
   obtain ⟨hx, hk1, ho⟩ := hF1
   refine W_seq fun K8 hK8 => ?_
   refine W_seq fun K9 hK9 => ?_
   refine wr ?_
   iterate 2 refine dm ?_
   refine dp (pv_lenV (e := 3) (k := 1) (by kernel_rfl) hv.sl rfl) ?_
   refine dp (pv_lss rfl rfl) ?_
   refine D_end (hK9 _ _ ?_)
   refine W_if rfl (fun c2 => ?_) (fun c2 => ?_)
   ·
    obtain ⟨y, hk⟩ : ∃ y, l[k]? = some y := ⟨_, List.getElem?_eq_getElem (by omega)⟩
    refine W_skip ?_
    refine hK8 _ _ ?_
    refine W_seq fun K10 hK10 => ?_
    refine W_block ?_
    refine wr ?_
    iterate 3 refine dm ?_
    refine dp (pv_idxA (e := 3) (k := 1) (by kernel_rfl) hv.sl rfl rfl (hv.lt hk)) ?_
    refine dq (lv_load (by kernel_rfl) rfl (((hv.ext hx).row hk).at0 rfl)) ?_
    refine D_callP rfl (by kernel_rfl) (three_w y _) rfl RX.all (fun w2 x2 => ?_)
    replace ho := ho.ext x2
    replace hx := hx.trans x2
    refine D_lit (e := 3) (sz := 1) (zs := [.int .i64 0]) (pv := [(0, ?a12_0)]) (cs := [?a12_0]) rfl (by kernel_rfl) ⟨rfl, rfl⟩ (by kernel_rfl) rfl ?h12 ?f12 RX.all (fun b1 w3 e1 x3 m1 => ?k12)
    case h12 => refine ⟨rfl, ?_, trivial⟩ <;> (conv => lhs; whnf)
    case f12 => rfl
    have g1 : w.heap.size ≤ b1 := by have := hx.size; omega
    replace ho := ho.ext x3
    replace hx := hx.trans x3
    refine D_append (lx := [threeV y]) (e := 3) (sz := 1) (by' := 8) rfl (by kernel_rfl) (by kernel_rfl) (by intro x; rfl) ho (m1.arr (enc := Vc.encI) (sz := 1) (l := [threeV y]) rfl (by intro x; rfl) rfl (Nat.le_of_ble_eq_true rfl)) rfl rfl (by intro x _ u hu; simp at hu; rcases hu with rfl <;> rfl) (by simp; omega) (by decide) hx.size (.inl rfl) (fun vm2 w4 ho_n x4 => ?_)
    replace hx := hx.own x4 (fun i hi => (ho.lt i hi).1)
    replace ho := ho_n
    clear m1
    refine da ?_
    refine D_end (hK10 _ _ ?_)
    refine wr ?_
    refine dm ?_
    refine dp (pv_add rfl rfl (by unfold inI64; omega)) ?_
    refine da ?_
    refine D_end (?_)
    refine ⟨(k + 1, vm2), ⟨rfl, rfl, rfl, rfl, rfl, trivial⟩, ⟨hx, by omega, ?_⟩, by simp only []; omega⟩
    rw [take_snocS hk, List.map_append]; exact ho
   ·
    rw [List.take_of_length_le (by omega)] at ho
    have hlt : l.length ≤ 100 := by omega
    refine W_exit ?_
    refine hK6 _ _ ?_
    refine W_seq fun K11 hK11 => ?_
    refine wr ?_
    refine dm ?_
    refine D_callP rfl (by kernel_rfl) (and3_w (l.map threeV) vm _ (ho.arr (by intro x; rfl)) (threes_in l) (by simp; omega)) rfl RX.all (fun w5 x5 => ?_)
    replace ho := ho.ext x5
    replace hx := hx.trans x5
    refine dm ?_
    refine D_callP rfl (by kernel_rfl) (rand3_w (l.map threeV) vm _ (ho.arr (by intro x; rfl)) (threes_in l) (by simp; omega)) rfl RX.all (fun w6 x6 => ?_)
    replace ho := ho.ext x6
    replace hx := hx.trans x6
    refine dp (pv_eql rfl rfl) ?_
    refine dm ?_
    refine D_splitP 29 rfl (fun c3 => ?_) (fun c3 => ?_)
    ·
     refine dm ?_
     refine D_callP rfl (by kernel_rfl) (or3_w (l.map threeV) vm _ (ho.arr (by intro x; rfl)) (threes_in l) (by simp; omega)) rfl RX.all (fun w7 x7 => ?_)
     replace ho := ho.ext x7
     replace hx := hx.trans x7
     refine dm ?_
     refine D_callP rfl (by kernel_rfl) (ror3_w (l.map threeV) vm _ (ho.arr (by intro x; rfl)) (threes_in l) (by simp; omega)) rfl RX.all (fun w8 x8 => ?_)
     replace ho := ho.ext x8
     replace hx := hx.trans x8
     refine dp (pv_eql rfl rfl) ?_
     refine dk' ?_
     refine dm ?_
     refine D_splitP 36 rfl (fun c4 => ?_) (fun c4 => ?_)
     ·
      refine dm ?_
      refine D_callP rfl (by kernel_rfl) (not3_w x _) rfl RX.all (fun w9 x9 => ?_)
      replace ho := ho.ext x9
      replace hx := hx.trans x9
      refine dm ?_
      refine D_callP rfl (by kernel_rfl) (rnot3_w x _) rfl RX.all (fun w10 x10 => ?_)
      replace ho := ho.ext x10
      replace hx := hx.trans x10
      refine dp (pv_eql rfl rfl) ?_
      refine dk' ?_
      refine dm ?_
      refine D_splitP 43 rfl (fun c5 => ?_) (fun c5 => ?_)
      ·
       refine D_callP rfl (by kernel_rfl) (known17_w _) rfl RX.all (fun w11 x11 => ?_)
       replace ho := ho.ext x11
       replace hx := hx.trans x11
       refine dk' ?_
       refine da ?_
       refine D_end (hK11 _ _ ?_)
       refine W_ret ?_
       try dsimp only [then', inBlk, noGo]
       refine ro ?_
       exact ⟨rfl, hx⟩
      ·
       exact absurd rfl c5
     ·
      exact absurd rfl c4
    ·
     exact absurd rfl c3

set_option maxRecDepth 100000 in
set_option maxHeartbeats 1000000 in
theorem law_turned (l : List Int) (v : Value) (w : World) (hv : Arr Vc.encI 1 w v l) (hl0 : l.length ≤ maxLen) :
  Calls Tryz.prog 14 [v].toArray w (Pure w (B true)) := by
 refine calls_W Tryz.func14 rfl rfl rfl (by kernel_rfl) ?_
 have hx := Ext.refl w
 unfold maxLen at hl0
 refine W_seq fun K1 hK1 => ?_
 refine wr ?_
 refine da ?_
 refine D_end (hK1 _ _ ?_)
 refine W_seq fun K2 hK2 => ?_
 refine W_seq fun K3 hK3 => ?_
 refine wr ?_
 refine dm ?_
 refine dp (pv_lenV (e := 3) (k := 1) (by kernel_rfl) hv.sl rfl) ?_
 refine dp (pv_gtr rfl rfl) ?_
 refine D_end (hK3 _ _ ?_)
 refine W_if rfl (fun c1 => ?_) (fun c1 => ?_)
 ·
  refine W_seq fun K4 hK4 => ?_
  refine wr ?_
  refine da ?_
  refine D_end (hK4 _ _ ?_)
  refine W_ret ?_
  try dsimp only [then', inBlk, noGo]
  refine ro ?_
  exact ⟨rfl, hx⟩
 ·
  refine W_skip ?_
  refine hK2 _ _ ?_
  refine W_seq fun K5 hK5 => ?_
  refine wr ?_
  iterate 2 refine da ?_
  refine D_end (hK5 _ _ ?_)
  refine W_seq fun K6 hK6 => ?_
  refine W_seq fun K7 hK7 => ?_
  refine wr ?_
  refine da ?_
  refine D_end (hK7 _ _ ?_)
  refine W_block ?_
  refine W_loop (G := Nat × Value × Value) (fun (k, vm, vn) => [(0, v), (2, .bool false), (3, vm), (4, vn), (5, I ↑k)]) (fun (k, vm, vn) w' => Ext w w' ∧ k ≤ l.length ∧ Vc.Own Vc.encI 1 3 w.heap.size w' vm ((l.take k).map threeV) ∧ Vc.Own Vc.encI 1 3 w.heap.size w' vn (List.map notV ((l.take k).map threeV)) ∧ ∀ b, vm.ownBlock = some b → vn.ownBlock ≠ some b) (fun (k, vm, vn) => l.length - k) (0, .slice none 0 0, .slice none 0 0) ?_ ?_ ?_
  ·
   exact ⟨rfl, rfl, rfl, rfl, rfl, trivial⟩
  ·
   exact ⟨hx, Nat.zero_le _, Vc.Own.nil, Vc.Own.nil, fun b hb => by cases hb⟩
  ·
   intro X1 g1 w1 hF1
   obtain ⟨k, vm, vn⟩ := g1
   clear hx
   obtain ⟨hx, hk1, ho, ho2, hsep⟩ := hF1
   refine W_seq fun K8 hK8 => ?_
   refine W_seq fun K9 hK9 => ?_
   refine wr ?_
   iterate 2 refine dm ?_
   refine dp (pv_lenV (e := 3) (k := 1) (by kernel_rfl) hv.sl rfl) ?_
   refine dp (pv_lss rfl rfl) ?_
   refine D_end (hK9 _ _ ?_)
   refine W_if rfl (fun c2 => ?_) (fun c2 => ?_)
   ·
    obtain ⟨y, hk⟩ : ∃ y, l[k]? = some y := ⟨_, List.getElem?_eq_getElem (by omega)⟩
    refine W_skip ?_
    refine hK8 _ _ ?_
    refine W_seq fun K10 hK10 => ?_
    refine W_block ?_
    refine W_seq fun K11 hK11 => ?_
    refine wr ?_
    iterate 3 refine dm ?_
    refine dp (pv_idxA (e := 3) (k := 1) (by kernel_rfl) hv.sl rfl rfl (hv.lt hk)) ?_
    refine dq (lv_load (by kernel_rfl) rfl (((hv.ext hx).row hk).at0 rfl)) ?_
    refine D_callP rfl (by kernel_rfl) (three_w y _) rfl RX.all (fun w2 x2 => ?_)
    replace ho := ho.ext x2
    replace ho2 := ho2.ext x2
    replace hx := hx.trans x2
    refine D_lit (e := 3) (sz := 1) (zs := [.int .i64 0]) (pv := [(0, ?a13_0)]) (cs := [?a13_0]) rfl (by kernel_rfl) ⟨rfl, rfl⟩ (by kernel_rfl) rfl ?h13 ?f13 RX.all (fun b1 w3 e1 x3 m1 => ?k13)
    case h13 => refine ⟨rfl, ?_, trivial⟩ <;> (conv => lhs; whnf)
    case f13 => rfl
    have g1 : w.heap.size ≤ b1 := by have := hx.size; omega
    replace ho := ho.ext x3
    replace ho2 := ho2.ext x3
    replace hx := hx.trans x3
    refine D_append2 (lx := [threeV y]) (e := 3) (sz := 1) (by' := 8) rfl (by kernel_rfl) (by kernel_rfl) (by intro x; rfl) ho (m1.arr (enc := Vc.encI) (sz := 1) (l := [threeV y]) rfl (by intro x; rfl) rfl (Nat.le_of_ble_eq_true rfl)) rfl rfl (by intro x _ u hu; simp at hu; rcases hu with rfl <;> rfl) (by simp; omega) (by decide) hx.size (.inl rfl) (fun vm2 w4 ho_n x4 hwh4 => ?_)
    have hsep4 : ∀ b, vm2.ownBlock = some b → vn.ownBlock ≠ some b := fun b hb e => hwh4.elim (fun h => hsep b (h.symm.trans hb) e) (fun h => by have h1 := Option.some.inj (h.symm.trans hb); have h2 := (ho2.lt b e).2; omega)
    try replace ho2 := ho2.mod x4 (fun k hk h => hsep k h hk)
    replace hx := hx.own x4 (fun i hi => (ho.lt i hi).1)
    replace ho := ho_n
    clear hsep
    have hsep := hsep4
    clear m1
    refine da ?_
    refine D_end (hK11 _ _ ?_)
    refine wr ?_
    iterate 3 refine dm ?_
    refine dp (pv_idxA (e := 3) (k := 1) (by kernel_rfl) hv.sl rfl rfl (hv.lt hk)) ?_
    refine dq (lv_load (by kernel_rfl) rfl (((hv.ext hx).row hk).at0 rfl)) ?_
    refine D_callP rfl (by kernel_rfl) (three_w y _) rfl RX.all (fun w5 x5 => ?_)
    replace ho := ho.ext x5
    replace ho2 := ho2.ext x5
    replace hx := hx.trans x5
    refine D_callP rfl (by kernel_rfl) (not3_w (threeV y) _) rfl RX.all (fun w6 x6 => ?_)
    replace ho := ho.ext x6
    replace ho2 := ho2.ext x6
    replace hx := hx.trans x6
    refine D_lit (e := 3) (sz := 1) (zs := [.int .i64 0]) (pv := [(0, ?a18_0)]) (cs := [?a18_0]) rfl (by kernel_rfl) ⟨rfl, rfl⟩ (by kernel_rfl) rfl ?h18 ?f18 RX.all (fun b2 w7 e2 x7 m2 => ?k18)
    case h18 => refine ⟨rfl, ?_, trivial⟩ <;> (conv => lhs; whnf)
    case f18 => rfl
    have g2 : w.heap.size ≤ b2 := by have := hx.size; omega
    replace ho := ho.ext x7
    replace ho2 := ho2.ext x7
    replace hx := hx.trans x7
    refine D_append2 (lx := [notV (threeV y)]) (e := 3) (sz := 1) (by' := 8) rfl (by kernel_rfl) (by kernel_rfl) (by intro x; rfl) ho2 (m2.arr (enc := Vc.encI) (sz := 1) (l := [notV (threeV y)]) rfl (by intro x; rfl) rfl (Nat.le_of_ble_eq_true rfl)) rfl rfl (by intro x _ u hu; simp at hu; rcases hu with rfl <;> rfl) (by simp; omega) (by decide) hx.size (.inl rfl) (fun vn2 w8 ho2_n x8 hwh8 => ?_)
    have hsep8 : ∀ b, vm2.ownBlock = some b → vn2.ownBlock ≠ some b := fun b hb e => hwh8.elim (fun h => hsep b hb (h.symm.trans e)) (fun h => by have h1 := Option.some.inj (h.symm.trans e); have h2 := (ho.lt b hb).2; omega)
    try replace ho := ho.mod x8 (fun k hk h => hsep k hk h)
    replace hx := hx.own x8 (fun i hi => (ho2.lt i hi).1)
    replace ho2 := ho2_n
    clear hsep
    have hsep := hsep8
    clear m2
    refine da ?_
    refine D_end (hK10 _ _ ?_)
    refine wr ?_
    refine dm ?_
    refine dp (pv_add rfl rfl (by unfold inI64; omega)) ?_
    refine da ?_
    refine D_end (?_)
    refine ⟨(k + 1, vm2, vn2), ⟨rfl, rfl, rfl, rfl, rfl, trivial⟩, ⟨hx, by omega, ?_, ?_, hsep⟩, by simp only []; omega⟩
    ·
     rw [take_snocS hk, List.map_append]; exact ho
    ·
     rw [take_snocS hk, List.map_append, List.map_append]; exact ho2
   ·
    rw [List.take_of_length_le (by omega)] at ho ho2
    have hlt : l.length ≤ 100 := by omega
    refine W_exit ?_
    refine hK6 _ _ ?_
    refine W_seq fun K12 hK12 => ?_
    refine wr ?_
    refine dm ?_
    refine D_callP rfl (by kernel_rfl) (and3_w (l.map threeV) vm _ (ho.arr (by intro x; rfl)) (threes_in l) (by simp; omega)) rfl RX.all (fun w9 x9 => ?_)
    replace ho := ho.ext x9
    replace ho2 := ho2.ext x9
    replace hx := hx.trans x9
    refine D_callP rfl (by kernel_rfl) (not3_w _ _) rfl RX.all (fun w10 x10 => ?_)
    replace ho := ho.ext x10
    replace ho2 := ho2.ext x10
    replace hx := hx.trans x10
    refine dm ?_
    refine D_callP rfl (by kernel_rfl) (or3_w (List.map notV (l.map threeV)) vn _ (ho2.arr (by intro x; rfl)) (nots_in _) (by simp; omega)) rfl RX.all (fun w11 x11 => ?_)
    replace ho := ho.ext x11
    replace ho2 := ho2.ext x11
    replace hx := hx.trans x11
    refine dp (pv_eql rfl rfl) ?_
    refine dm ?_
    refine D_splitP 38 rfl (fun c3 => ?_) (fun c3 => ?_)
    ·
     refine dm ?_
     refine D_callP rfl (by kernel_rfl) (or3_w (l.map threeV) vm _ (ho.arr (by intro x; rfl)) (threes_in l) (by simp; omega)) rfl RX.all (fun w12 x12 => ?_)
     replace ho := ho.ext x12
     replace ho2 := ho2.ext x12
     replace hx := hx.trans x12
     refine D_callP rfl (by kernel_rfl) (not3_w _ _) rfl RX.all (fun w13 x13 => ?_)
     replace ho := ho.ext x13
     replace ho2 := ho2.ext x13
     replace hx := hx.trans x13
     refine dm ?_
     refine D_callP rfl (by kernel_rfl) (and3_w (List.map notV (l.map threeV)) vn _ (ho2.arr (by intro x; rfl)) (nots_in _) (by simp; omega)) rfl RX.all (fun w14 x14 => ?_)
     replace ho := ho.ext x14
     replace ho2 := ho2.ext x14
     replace hx := hx.trans x14
     refine dp (pv_eql rfl rfl) ?_
     refine dk' ?_
     refine dm ?_
     refine D_splitP 46 rfl (fun c4 => ?_) (fun c4 => ?_)
     ·
      refine D_callP rfl (by kernel_rfl) (known17_w _) rfl RX.all (fun w15 x15 => ?_)
      replace ho := ho.ext x15
      replace ho2 := ho2.ext x15
      replace hx := hx.trans x15
      refine dk' ?_
      refine da ?_
      refine D_end (hK12 _ _ ?_)
      refine W_ret ?_
      try dsimp only [then', inBlk, noGo]
      refine ro ?_
      exact ⟨rfl, hx⟩
     ·
      exact absurd (turned_or _) c4
    ·
     exact absurd (turned_and _) c3

end Go.Proofs.YtcjjjmhhpejdoaaGreatDoor
