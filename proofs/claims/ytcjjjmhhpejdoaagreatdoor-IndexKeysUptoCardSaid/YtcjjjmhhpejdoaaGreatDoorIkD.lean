/-
  Walks.
-/
import Derived.Test.YtcjjjmhhpejdoaaGreatDoorChecked
import Derived.Test.YtcjjjmhhpejdoaaGreatDoorSpMem
import Derived.KernelRfl
import Derived.Test.YtcjjjmhhpejdoaaGreatDoorIkC
import Derived.Test.YtcjjjmhhpejdoaaGreatDoorIdxB
namespace Go.Proofs.YtcjjjmhhpejdoaaGreatDoor
open Go.Vc Go.Sp
attribute [local irreducible] W XW Dw DwT
set_option linter.unusedVariables false
set_option linter.unusedSimpArgs false

theorem riseB_of : ∀ {l : List Str}, Rise l → riseB l = true
  | [], _ => rfl
  | [_], _ => rfl
  | a :: b :: r, h => by
    have h1 := List.pairwise_cons.1 h
    have h2 := riseB_of (l := b :: r) h1.2
    have h3 := h1.1 b List.mem_cons_self
    show (sLt a b && riseB (b :: r)) = true
    rw [h3, h2]; rfl
theorem riseB_keys (e : Entry) : riseB (keysM e) = true := riseB_of (rise_keys e)
theorem riseB_grams (s : Str) : riseB (grams s) = true := riseB_of (rise_grams s)
theorem grams_pos {s : Str} (h : 3 ≤ s.length) : 0 < (grams s).length := by
  have h1 : (s.drop 0).take 3 ∈ grams s := mem_grams.2 (List.mem_map.2 ⟨0, List.mem_range.2 (by omega), rfl⟩)
  exact List.length_pos_of_mem h1

set_option maxRecDepth 100000 in
set_option maxHeartbeats 1000000 in
theorem law_keys (nl : List Ava) (l : List AttrV) (vd va : Value) (w : World) (hd : Arr Ava.cs 2 w vd nl) (ha : Arr AttrV.cs 2 w va l) (hvs : ValsAt w l) (hg : GV w) (hW : wE ⟨nl, l.map AttrV.toA⟩ ≤ 1048576) :
  Calls Tryz.prog 4 [.agg ⟨[vd, va]⟩].toArray w (Pure w (B true)) := by
 refine calls_W Tryz.func4 rfl rfl rfl (by kernel_rfl) ?_
 have hx := Ext.refl w
 refine W_seq fun K1 hK1 => ?_
 refine wr ?_
 refine D_box rfl rfl rfl RX.all (fun b1 w1 e1 x1 m1 => ?_)
 have g1 : w.heap.size ≤ b1 := by have := hx.size; omega
 replace hx := hx.trans x1
 refine da ?_
 refine D_end (hK1 _ _ ?_)
 refine W_seq fun K2 hK2 => ?_
 refine W_seq fun K3 hK3 => ?_
 refine wr ?_
 refine dq (lv_loadA (k := 2) (by kernel_rfl) rfl rfl m1.row) ?_
 refine D_lit (e := 31) (sz := 2) (zs := [.slice none 0 0, .slice none 0 0]) (pv := [(0, .agg ⟨[?a2_0, ?a2_1]⟩)]) (cs := [?a2_0, ?a2_1]) rfl (by kernel_rfl) ⟨rfl, rfl⟩ (by kernel_rfl) rfl ?h2 ?f2 RX.all (fun b2 w2 e2 x2 m2 => ?k2)
 case h2 => refine ⟨rfl, ?_, trivial⟩ <;> (conv => lhs; whnf)
 case f2 => rfl
 have g2 : w.heap.size ≤ b2 := by have := hx.size; omega
 have n2_1 : b1 < b2 := by have := m1.lt; omega
 replace m1 := m1.ext x2
 replace hx := hx.trans x2
 refine D_callP rfl (by kernel_rfl) (great_w nl l vd va _ _ (m2.arr (enc := encP) (sz := 2) (l := [(vd, va)]) rfl (by intro x; rfl) rfl (by simp)) (hd.ext hx) (ha.ext hx) (hvs.ext hx) (by omega)) rfl RX.all (fun w3 x3 => ?_)
 replace m1 := m1.ext x3
 replace m2 := m2.ext x3
 replace hx := hx.trans x3
 refine D_end (hK3 _ _ ?_)
 refine W_if rfl (fun c1 => ?_) (fun c1 => ?_)
 ·
  refine W_seq fun K4 hK4 => ?_
  refine wr ?_
  refine da ?_
  refine D_end (hK4 _ _ ?_)
  refine W_ret ?_
  try dsimp only [then', inBlk, noGo]
  refine ro ?_
  exact ⟨rfl, hx⟩
 ·
  have hs : SmallE ⟨nl, (l.map AttrV.toA)⟩ := smallE (by omega)
  have hkl := keys_len hs
  refine W_skip ?_
  refine hK2 _ _ ?_
  refine W_seq fun K5 hK5 => ?_
  refine W_draw (R := Ext) Ext.refl (fun _ _ _ => Ext.trans) (by kernel_rfl) [0, 2] [(0, .l, false), (2, .l, false), (1, .x, false), (3, .x, false), (4, .x, false), (5, .p, false), (6, .x, false), (7, .p, false), (8, .p, false)] rfl (by kernel_rfl) (by kernel_rfl) (fun w4 ew4 => ?_)
  have x4 : Ext w3 w4 := by rw [ew4]; exact Ext.drew _
  clear ew4
  replace m1 := m1.ext x4
  replace m2 := m2.ext x4
  replace hx := hx.trans x4
  refine D_l rfl (fun w' hR => lv_loadA (k := 2) (by kernel_rfl) rfl rfl (m1.ext hR).row) ?_
  refine D_l rfl (fun w' hR => lv_loadA (k := 2) (by kernel_rfl) rfl rfl (m1.ext hR).row) ?_
  refine D_callG rfl (by kernel_rfl) (keys_w nl l vd va _ (hd.ext hx) (ha.ext hx) (hvs.ext hx) (hg.ext hx) hs) rfl RX.ext (fun vk w5 x5 hk1 => ?_)
  have hsz5 := hx.size
  replace m1 := m1.ext x5
  replace m2 := m2.ext x5
  replace hx := hx.trans x5
  replace hk1 := hk1.arr (by intro x; rfl)
  refine D_callG rfl (by kernel_rfl) (rkeys_w nl l vd va _ (hd.ext hx) (ha.ext hx) (hvs.ext hx) hs) rfl RX.ext (fun vr w6 x6 hk2 => ?_)
  have hsz6 := hx.size
  replace m1 := m1.ext x6
  replace m2 := m2.ext x6
  replace hk1 := hk1.ext x6
  replace hx := hx.trans x6
  refine D_callP rfl (by kernel_rfl) (texts_w (keysM ⟨nl, (l.map AttrV.toA)⟩) (keysM ⟨nl, (l.map AttrV.toA)⟩) vk vr _ hk1 hk2 (by omega) (by omega)) rfl RX.ext (fun w7 x7 => ?_)
  replace m1 := m1.ext x7
  replace m2 := m2.ext x7
  replace hk1 := hk1.ext x7
  replace hk2 := hk2.ext x7
  replace hx := hx.trans x7
  refine dm ?_
  refine D_split 11 rfl (fun c2 => ?_) (fun c2 => ?_)
  ·
   refine D_callP rfl (by kernel_rfl) (knownI_w _) rfl RX.ext (fun w8 x8 => ?_)
   replace m1 := m1.ext x8
   replace m2 := m2.ext x8
   replace hk1 := hk1.ext x8
   replace hk2 := hk2.ext x8
   replace hx := hx.trans x8
   refine dk' ?_
   refine da ?_
   refine D_end (hK5 _ _ ?_)
   refine W_ret ?_
   try dsimp only [then', inBlk, noGo]
   refine ro ?_
   exact ⟨rfl, hx⟩
  ·
   simp at c2

set_option maxRecDepth 100000 in
set_option maxHeartbeats 1000000 in
theorem law_rise (nl : List Ava) (l : List AttrV) (vd va : Value) (s : Str) (w : World) (hd : Arr Ava.cs 2 w vd nl) (ha : Arr AttrV.cs 2 w va l) (hvs : ValsAt w l) (hg : GV w) (hW : wE ⟨nl, l.map AttrV.toA⟩ ≤ 1048576) (hs0 : s.length ≤ 1048576) :
  Calls Tryz.prog 6 [.agg ⟨[vd, va]⟩, S s].toArray w (Pure w (B true)) := by
 refine calls_W Tryz.func6 rfl rfl rfl (by kernel_rfl) ?_
 have hx := Ext.refl w
 refine W_seq fun K1 hK1 => ?_
 refine wr ?_
 refine D_box rfl rfl rfl RX.all (fun b1 w1 e1 x1 m1 => ?_)
 have g1 : w.heap.size ≤ b1 := by have := hx.size; omega
 replace hx := hx.trans x1
 refine da ?_
 refine D_end (hK1 _ _ ?_)
 refine W_seq fun K2 hK2 => ?_
 refine W_seq fun K3 hK3 => ?_
 refine wr ?_
 refine dq (lv_loadA (k := 2) (by kernel_rfl) rfl rfl m1.row) ?_
 refine D_lit (e := 31) (sz := 2) (zs := [.slice none 0 0, .slice none 0 0]) (pv := [(0, .agg ⟨[?a2_0, ?a2_1]⟩)]) (cs := [?a2_0, ?a2_1]) rfl (by kernel_rfl) ⟨rfl, rfl⟩ (by kernel_rfl) rfl ?h2 ?f2 RX.all (fun b2 w2 e2 x2 m2 => ?k2)
 case h2 => refine ⟨rfl, ?_, trivial⟩ <;> (conv => lhs; whnf)
 case f2 => rfl
 have g2 : w.heap.size ≤ b2 := by have := hx.size; omega
 have n2_1 : b1 < b2 := by have := m1.lt; omega
 replace m1 := m1.ext x2
 replace hx := hx.trans x2
 refine D_callP rfl (by kernel_rfl) (great_w nl l vd va _ _ (m2.arr (enc := encP) (sz := 2) (l := [(vd, va)]) rfl (by intro x; rfl) rfl (by simp)) (hd.ext hx) (ha.ext hx) (hvs.ext hx) (by omega)) rfl RX.all (fun w3 x3 => ?_)
 replace m1 := m1.ext x3
 replace m2 := m2.ext x3
 replace hx := hx.trans x3
 refine dm ?_
 refine D_splitP 10 rfl (fun c1 => ?_) (fun c1 => ?_)
 ·
  iterate 3 refine dk ?_
  refine dk' ?_
  refine D_end (hK3 _ _ ?_)
  refine W_t rfl ?_
  refine W_seq fun K4 hK4 => ?_
  refine wr ?_
  refine da ?_
  refine D_end (hK4 _ _ ?_)
  refine W_ret ?_
  try dsimp only [then', inBlk, noGo]
  refine ro ?_
  exact ⟨rfl, hx⟩
 ·
  have hs : SmallE ⟨nl, (l.map AttrV.toA)⟩ := smallE (by omega)
  have hkl := keys_len hs
  have hgl := grams_len s
  refine dm ?_
  refine dp (pv_lenS (by kernel_rfl) rfl) ?_
  refine dp (pv_gtr rfl rfl) ?_
  refine dk' ?_
  refine D_end (hK3 _ _ ?_)
  refine W_if rfl (fun c2 => ?_) (fun c2 => ?_)
  ·
   refine W_seq fun K5 hK5 => ?_
   refine wr ?_
   refine da ?_
   refine D_end (hK5 _ _ ?_)
   refine W_ret ?_
   try dsimp only [then', inBlk, noGo]
   refine ro ?_
   exact ⟨rfl, hx⟩
  ·
   refine W_skip ?_
   refine hK2 _ _ ?_
   refine W_seq fun K6 hK6 => ?_
   refine wr ?_
   refine dm ?_
   refine D_callG rfl (by kernel_rfl) (grams_w s _ (by omega)) rfl RX.all (fun vg w4 x4 hgr => ?_)
   have hsz4 := hx.size
   replace m1 := m1.ext x4
   replace m2 := m2.ext x4
   replace hx := hx.trans x4
   replace hgr := hgr.mono hsz4
   refine da ?_
   refine D_end (hK6 _ _ ?_)
   refine W_seq fun K7 hK7 => ?_
   refine W_seq fun K8 hK8 => ?_
   refine wr ?_
   refine da ?_
   refine D_end (hK8 _ _ ?_)
   refine W_block ?_
   refine W_loop (G := Nat) (fun k => [(1, S s), (2, ptr b1 0), (5, vg), (6, I ↑k)]) (fun k w' => Ext w w' ∧ Blk w' b1 [vd, va] 31 ∧ Blk w' b2 [vd, va] 31 ∧ Vc.Own sEnc 1 9 w.heap.size w' vg (grams s) ∧ k ≤ (grams s).length) (fun k => (grams s).length - k) 0 ?_ ?_ ?_
   ·
    exact ⟨rfl, rfl, rfl, rfl, trivial⟩
   ·
    exact ⟨hx, m1, m2, hgr, Nat.zero_le _⟩
   ·
    intro X5 g5 w5 hF5
    revert hF5; revert g5; intro k hF5
    clear hx m1 m2 hgr
    obtain ⟨hx, m1, m2, hgr, hk1⟩ := hF5
    refine W_seq fun K9 hK9 => ?_
    refine W_seq fun K10 hK10 => ?_
    refine wr ?_
    iterate 2 refine dm ?_
    refine dp (pv_lenV (e := 9) (k := 1) (by kernel_rfl) (hgr.arr (by intro x; rfl)).sl rfl) ?_
    refine dp (pv_lss rfl rfl) ?_
    refine D_end (hK10 _ _ ?_)
    refine W_if rfl (fun c3 => ?_) (fun c3 => ?_)
    ·
     obtain ⟨x, hk⟩ : ∃ x, (grams s)[k]? = some x := ⟨_, List.getElem?_eq_getElem (by omega)⟩
     have hx3 := grams_short (List.mem_of_getElem? hk)
     refine W_skip ?_
     refine hK9 _ _ ?_
     refine W_seq fun K11 hK11 => ?_
     refine W_block ?_
     refine W_seq fun K12 hK12 => ?_
     refine wr ?_
     iterate 2 refine dm ?_
     refine dp (pv_idxA (e := 9) (k := 1) (by kernel_rfl) (hgr.arr (by intro x; rfl)).sl rfl rfl ((hgr.arr (by intro x; rfl)).lt hk)) ?_
     refine dq (lv_load (by kernel_rfl) rfl (((hgr.arr (by intro x; rfl)).row hk).at0 rfl)) ?_
     refine dp (pv_lenS (by kernel_rfl) rfl) ?_
     refine dp (pv_neq rfl rfl) ?_
     refine D_end (hK12 _ _ ?_)
     refine W_if rfl (fun c4 => ?_) (fun c4 => ?_)
     ·
      omega
     ·
      refine W_skip ?_
      refine hK11 _ _ ?_
      refine wr ?_
      refine dm ?_
      refine dp (pv_add rfl rfl (by unfold inI64; omega)) ?_
      refine da ?_
      refine D_end (?_)
      refine ⟨k + 1, ⟨rfl, rfl, rfl, rfl, trivial⟩, ⟨hx, m1, m2, hgr, by omega⟩, by omega⟩
    ·
     refine W_exit ?_
     refine hK7 _ _ ?_
     refine W_seq fun K13 hK13 => ?_
     refine wr ?_
     refine dq (lv_loadA (k := 2) (by kernel_rfl) rfl rfl m1.row) ?_
     refine D_callG rfl (by kernel_rfl) (keys_w nl l vd va _ (hd.ext hx) (ha.ext hx) (hvs.ext hx) (hg.ext hx) hs) rfl RX.all (fun vk w6 x6 hk1 => ?_)
     have hsz6 := hx.size
     replace m1 := m1.ext x6
     replace m2 := m2.ext x6
     replace hgr := hgr.ext x6
     replace hx := hx.trans x6
     replace hk1 := hk1.arr (by intro x; rfl)
     refine D_callP rfl (by kernel_rfl) ((riseB_keys _ ▸ rise_w (keysM ⟨nl, (l.map AttrV.toA)⟩) vk _ hk1 (by omega))) rfl RX.all (fun w7 x7 => ?_)
     replace m1 := m1.ext x7
     replace m2 := m2.ext x7
     replace hgr := hgr.ext x7
     replace hk1 := hk1.ext x7
     replace hx := hx.trans x7
     iterate 2 refine dm ?_
     refine D_callP rfl (by kernel_rfl) ((riseB_grams _ ▸ rise_w (grams s) vg _ (hgr.arr (by intro x; rfl)) (by omega))) rfl RX.all (fun w8 x8 => ?_)
     replace m1 := m1.ext x8
     replace m2 := m2.ext x8
     replace hgr := hgr.ext x8
     replace hk1 := hk1.ext x8
     replace hx := hx.trans x8
     refine dk' ?_
     iterate 2 refine dm ?_
     refine dp (pv_lenV (e := 9) (k := 1) (by kernel_rfl) (hgr.arr (by intro x; rfl)).sl rfl) ?_
     refine dm ?_
     refine dp (pv_lenS (by kernel_rfl) rfl) ?_
     refine dp (pv_sub rfl rfl (by unfold inI64; omega)) ?_
     refine dp (pv_max2 rfl rfl) ?_
     refine dp (pv_leq rfl rfl) ?_
     refine dk' ?_
     refine dm ?_
     refine D_splitP 45 rfl (fun c5 => ?_) (fun c5 => ?_)
     ·
      refine dm ?_
      refine dp (pv_lenS (by kernel_rfl) rfl) ?_
      refine dp (pv_lss rfl rfl) ?_
      refine dm ?_
      refine D_splitP 49 rfl (fun c6 => ?_) (fun c6 => ?_)
      ·
       iterate 3 refine dk ?_
       refine dk' ?_
       refine dk' ?_
       refine dm ?_
       refine D_callP rfl (by kernel_rfl) (knownI_w _) rfl RX.all (fun w9 x9 => ?_)
       replace m1 := m1.ext x9
       replace m2 := m2.ext x9
       replace hgr := hgr.ext x9
       replace hk1 := hk1.ext x9
       replace hx := hx.trans x9
       refine dk' ?_
       refine da ?_
       refine D_end (hK13 _ _ ?_)
       refine W_ret ?_
       try dsimp only [then', inBlk, noGo]
       refine ro ?_
       exact ⟨rfl, hx⟩
      ·
       have hgp := grams_pos (s := s) (by omega)
       refine dm ?_
       refine dp (pv_lenV (e := 9) (k := 1) (by kernel_rfl) (hgr.arr (by intro x; rfl)).sl rfl) ?_
       refine dp (pv_gtr rfl rfl) ?_
       refine dk' ?_
       refine dk' ?_
       refine dm ?_
       refine D_splitP 55 rfl (fun c7 => ?_) (fun c7 => ?_)
       ·
        refine D_callP rfl (by kernel_rfl) (knownI_w _) rfl RX.all (fun w10 x10 => ?_)
        replace m1 := m1.ext x10
        replace m2 := m2.ext x10
        replace hgr := hgr.ext x10
        replace hk1 := hk1.ext x10
        replace hx := hx.trans x10
        refine dk' ?_
        refine da ?_
        refine D_end (hK13 _ _ ?_)
        refine W_ret ?_
        try dsimp only [then', inBlk, noGo]
        refine ro ?_
        exact ⟨rfl, hx⟩
       ·
        have := grams_pos (s := s) (by omega); omega
     ·
      omega

end Go.Proofs.YtcjjjmhhpejdoaaGreatDoor
