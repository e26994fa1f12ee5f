/-
  Walks.
-/
import Derived.Test.YtcjjjmhhpejdoaaGreatDoorChecked
import Derived.Test.YtcjjjmhhpejdoaaGreatDoorSpMem
import Derived.KernelRfl
import Derived.Test.YtcjjjmhhpejdoaaGreatDoorIkC
import Derived.Test.YtcjjjmhhpejdoaaGreatDoorIdxB
import Derived.Test.YtcjjjmhhpejdoaaGreatDoorMaE
namespace Go.Proofs.YtcjjjmhhpejdoaaGreatDoor
open Go.Vc Go.Sp
attribute [local irreducible] W XW Dw DwT
set_option linter.unusedVariables false
set_option linter.unusedSimpArgs false

theorem riseB_of : ∀ {l : List Str}, Rise l → riseB l = true
  | [], _ => rfl
  | [_], _ => rfl
  | a :: b :: r, h => by
    have h1 := List.pairwise_cons.1 h
    have h2 := riseB_of (l := b :: r) h1.2
    have h3 := h1.1 b List.mem_cons_self
    show (sLt a b && riseB (b :: r)) = true
    rw [h3, h2]; rfl
theorem riseB_keys (e : Entry) : riseB (keysM e) = true := riseB_of (rise_keys e)
theorem riseB_grams (s : Str) : riseB (grams s) = true := riseB_of (rise_grams s)
theorem grams_pos {s : Str} (h : 3 ≤ s.length) : 0 < (grams s).length := by
  have h1 : (s.drop 0).take 3 ∈ grams s := mem_grams.2 (List.mem_map.2 ⟨0, List.mem_range.2 (by omega), rfl⟩)
  exact List.length_pos_of_mem h1
def wAt (s : Str) (a : Sp.Attr) : Bool := decide (foldS a.typ = [99, 110]) && a.vals.any fun v => equalM 1 v s
theorem want_eq (e : Entry) (s : Str) : wantM e s = e.attrs.any (wAt s) := rfl
theorem tC_eq {s : Str} (h : tOk s = true) : tC s = foldS s := by unfold tC; rw [if_pos h]
theorem tOk_cn {s : Str} (h : foldS s = [99, 110]) : tOk s = true := by unfold tOk; rw [h]; rfl
theorem want_next {s : Str} {l : List Sp.Attr} {k : Nat} {a : Sp.Attr} (h : l[k]? = some a) : (l.take (k + 1)).any (wAt s) = ((l.take k).any (wAt s) || wAt s a) := by
  rw [take_snocS h, List.any_append]; simp
theorem any_next {α : Type} {f : α → Bool} {l : List α} {k : Nat} {a : α} (h : l[k]? = some a) : (l.take (k + 1)).any f = ((l.take k).any f || f a) := by
  rw [take_snocS h, List.any_append]; simp
theorem is_want {nl : List Ava} {l : List Sp.Attr} {s : Str} (h : normM 1 s = some ((normM 1 s).getD [])) : (keysM ⟨nl, l⟩).any (fun x => decide (x = (begS 101 [99, 110] ((normM 1 s).getD []) ++ keyS nl))) = l.any (wAt s) := by
  have h1 := finds (e := ⟨nl, l⟩) h
  rw [want_eq] at h1
  rw [Bool.eq_iff_iff, ← h1]
  simp only [List.any_eq_true, decide_eq_true_eq]
  exact ⟨fun ⟨x, hx, e⟩ => e ▸ hx, fun h => ⟨_, h, rfl⟩⟩

set_option maxRecDepth 100000 in
set_option maxHeartbeats 1000000 in
theorem law_keys (nl : List Ava) (l : List AttrV) (vd va : Value) (w : World) (hd : Arr Ava.cs 2 w vd nl) (ha : Arr AttrV.cs 2 w va l) (hvs : ValsAt w l) (hg : GV w) (hW : wE ⟨nl, l.map AttrV.toA⟩ ≤ 1048576) :
  Calls Tryz.prog 4 [.agg ⟨[vd, va]⟩].toArray w (Pure w (B true)) := by
 refine calls_W Tryz.func4 rfl rfl rfl (by kernel_rfl) ?_
 have hx := Ext.refl w
 refine W_seq fun K1 hK1 => ?_
 refine wr ?_
 refine D_box rfl rfl rfl RX.all (fun b1 w1 e1 x1 m1 => ?_)
 have g1 : w.heap.size ≤ b1 := by have := hx.size; omega
 replace hx := hx.trans x1
 refine da ?_
 refine D_end (hK1 _ _ ?_)
 refine W_seq fun K2 hK2 => ?_
 refine W_seq fun K3 hK3 => ?_
 refine wr ?_
 refine dq (lv_loadA (k := 2) (by kernel_rfl) rfl rfl m1.row) ?_
 refine D_lit (e := 31) (sz := 2) (zs := [.slice none 0 0, .slice none 0 0]) (pv := [(0, .agg ⟨[?a2_0, ?a2_1]⟩)]) (cs := [?a2_0, ?a2_1]) rfl (by kernel_rfl) ⟨rfl, rfl⟩ (by kernel_rfl) rfl ?h2 ?f2 RX.all (fun b2 w2 e2 x2 m2 => ?k2)
 case h2 => refine ⟨rfl, ?_, trivial⟩ <;> (conv => lhs; whnf)
 case f2 => rfl
 have g2 : w.heap.size ≤ b2 := by have := hx.size; omega
 have n2_1 : b1 < b2 := by have := m1.lt; omega
 replace m1 := m1.ext x2
 replace hx := hx.trans x2
 refine D_callP rfl (by kernel_rfl) (great_w nl l vd va _ _ (m2.arr (enc := encP) (sz := 2) (l := [(vd, va)]) rfl (by intro x; rfl) rfl (by simp)) (hd.ext hx) (ha.ext hx) (hvs.ext hx) (by omega)) rfl RX.all (fun w3 x3 => ?_)
 replace m1 := m1.ext x3
 replace m2 := m2.ext x3
 replace hx := hx.trans x3
 refine D_end (hK3 _ _ ?_)
 refine W_if rfl (fun c1 => ?_) (fun c1 => ?_)
 ·
  refine W_seq fun K4 hK4 => ?_
  refine wr ?_
  refine da ?_
  refine D_end (hK4 _ _ ?_)
  refine W_ret ?_
  try dsimp only [then', inBlk, noGo]
  refine ro ?_
  exact ⟨rfl, hx⟩
 ·
  have hs : SmallE ⟨nl, (l.map AttrV.toA)⟩ := smallE (by omega)
  have hkl := keys_len hs
  refine W_skip ?_
  refine hK2 _ _ ?_
  refine W_seq fun K5 hK5 => ?_
  refine W_draw (R := Ext) Ext.refl (fun _ _ _ => Ext.trans) (by kernel_rfl) [0, 2] [(0, .l, false), (2, .l, false), (1, .x, false), (3, .x, false), (4, .x, false), (5, .p, false), (6, .x, false), (7, .p, false), (8, .p, false)] rfl (by kernel_rfl) (by kernel_rfl) (fun w4 ew4 => ?_)
  have x4 : Ext w3 w4 := by rw [ew4]; exact Ext.drew _
  clear ew4
  replace m1 := m1.ext x4
  replace m2 := m2.ext x4
  replace hx := hx.trans x4
  refine D_l rfl (fun w' hR => lv_loadA (k := 2) (by kernel_rfl) rfl rfl (m1.ext hR).row) ?_
  refine D_l rfl (fun w' hR => lv_loadA (k := 2) (by kernel_rfl) rfl rfl (m1.ext hR).row) ?_
  refine D_callG rfl (by kernel_rfl) (keys_w nl l vd va _ (hd.ext hx) (ha.ext hx) (hvs.ext hx) (hg.ext hx) hs) rfl RX.ext (fun vk w5 x5 hk1 => ?_)
  have hsz5 := hx.size
  replace m1 := m1.ext x5
  replace m2 := m2.ext x5
  replace hx := hx.trans x5
  replace hk1 := hk1.arr (by intro x; rfl)
  refine D_callG rfl (by kernel_rfl) (rkeys_w nl l vd va _ (hd.ext hx) (ha.ext hx) (hvs.ext hx) hs) rfl RX.ext (fun vr w6 x6 hk2 => ?_)
  have hsz6 := hx.size
  replace m1 := m1.ext x6
  replace m2 := m2.ext x6
  replace hk1 := hk1.ext x6
  replace hx := hx.trans x6
  refine D_callP rfl (by kernel_rfl) (texts_w (keysM ⟨nl, (l.map AttrV.toA)⟩) (keysM ⟨nl, (l.map AttrV.toA)⟩) vk vr _ hk1 hk2 (by omega) (by omega)) rfl RX.ext (fun w7 x7 => ?_)
  replace m1 := m1.ext x7
  replace m2 := m2.ext x7
  replace hk1 := hk1.ext x7
  replace hk2 := hk2.ext x7
  replace hx := hx.trans x7
  refine dm ?_
  refine D_split 11 rfl (fun c2 => ?_) (fun c2 => ?_)
  ·
   refine D_callP rfl (by kernel_rfl) (knownI_w _) rfl RX.ext (fun w8 x8 => ?_)
   replace m1 := m1.ext x8
   replace m2 := m2.ext x8
   replace hk1 := hk1.ext x8
   replace hk2 := hk2.ext x8
   replace hx := hx.trans x8
   refine dk' ?_
   refine da ?_
   refine D_end (hK5 _ _ ?_)
   refine W_ret ?_
   try dsimp only [then', inBlk, noGo]
   refine ro ?_
   exact ⟨rfl, hx⟩
  ·
   simp at c2

set_option maxRecDepth 100000 in
set_option maxHeartbeats 1000000 in
theorem law_rise (nl : List Ava) (l : List AttrV) (vd va : Value) (s : Str) (w : World) (hd : Arr Ava.cs 2 w vd nl) (ha : Arr AttrV.cs 2 w va l) (hvs : ValsAt w l) (hg : GV w) (hW : wE ⟨nl, l.map AttrV.toA⟩ ≤ 1048576) (hs0 : s.length ≤ 1048576) :
  Calls Tryz.prog 6 [.agg ⟨[vd, va]⟩, S s].toArray w (Pure w (B true)) := by
 refine calls_W Tryz.func6 rfl rfl rfl (by kernel_rfl) ?_
 have hx := Ext.refl w
 refine W_seq fun K1 hK1 => ?_
 refine wr ?_
 refine D_box rfl rfl rfl RX.all (fun b1 w1 e1 x1 m1 => ?_)
 have g1 : w.heap.size ≤ b1 := by have := hx.size; omega
 replace hx := hx.trans x1
 refine da ?_
 refine D_end (hK1 _ _ ?_)
 refine W_seq fun K2 hK2 => ?_
 refine W_seq fun K3 hK3 => ?_
 refine wr ?_
 refine dq (lv_loadA (k := 2) (by kernel_rfl) rfl rfl m1.row) ?_
 refine D_lit (e := 31) (sz := 2) (zs := [.slice none 0 0, .slice none 0 0]) (pv := [(0, .agg ⟨[?a2_0, ?a2_1]⟩)]) (cs := [?a2_0, ?a2_1]) rfl (by kernel_rfl) ⟨rfl, rfl⟩ (by kernel_rfl) rfl ?h2 ?f2 RX.all (fun b2 w2 e2 x2 m2 => ?k2)
 case h2 => refine ⟨rfl, ?_, trivial⟩ <;> (conv => lhs; whnf)
 case f2 => rfl
 have g2 : w.heap.size ≤ b2 := by have := hx.size; omega
 have n2_1 : b1 < b2 := by have := m1.lt; omega
 replace m1 := m1.ext x2
 replace hx := hx.trans x2
 refine D_callP rfl (by kernel_rfl) (great_w nl l vd va _ _ (m2.arr (enc := encP) (sz := 2) (l := [(vd, va)]) rfl (by intro x; rfl) rfl (by simp)) (hd.ext hx) (ha.ext hx) (hvs.ext hx) (by omega)) rfl RX.all (fun w3 x3 => ?_)
 replace m1 := m1.ext x3
 replace m2 := m2.ext x3
 replace hx := hx.trans x3
 refine dm ?_
 refine D_splitP 10 rfl (fun c1 => ?_) (fun c1 => ?_)
 ·
  iterate 3 refine dk ?_
  refine dk' ?_
  refine D_end (hK3 _ _ ?_)
  refine W_t rfl ?_
  refine W_seq fun K4 hK4 => ?_
  refine wr ?_
  refine da ?_
  refine D_end (hK4 _ _ ?_)
  refine W_ret ?_
  try dsimp only [then', inBlk, noGo]
  refine ro ?_
  exact ⟨rfl, hx⟩
 ·
  have hs : SmallE ⟨nl, (l.map AttrV.toA)⟩ := smallE (by omega)
  have hkl := keys_len hs
  have hgl := grams_len s
  refine dm ?_
  refine dp (pv_lenS (by kernel_rfl) rfl) ?_
  refine dp (pv_gtr rfl rfl) ?_
  refine dk' ?_
  refine D_end (hK3 _ _ ?_)
  refine W_if rfl (fun c2 => ?_) (fun c2 => ?_)
  ·
   refine W_seq fun K5 hK5 => ?_
   refine wr ?_
   refine da ?_
   refine D_end (hK5 _ _ ?_)
   refine W_ret ?_
   try dsimp only [then', inBlk, noGo]
   refine ro ?_
   exact ⟨rfl, hx⟩
  ·
   refine W_skip ?_
   refine hK2 _ _ ?_
   refine W_seq fun K6 hK6 => ?_
   refine wr ?_
   refine dm ?_
   refine D_callG rfl (by kernel_rfl) (grams_w s _ (by omega)) rfl RX.all (fun vg w4 x4 hgr => ?_)
   have hsz4 := hx.size
   replace m1 := m1.ext x4
   replace m2 := m2.ext x4
   replace hx := hx.trans x4
   replace hgr := hgr.mono hsz4
   refine da ?_
   refine D_end (hK6 _ _ ?_)
   refine W_seq fun K7 hK7 => ?_
   refine W_seq fun K8 hK8 => ?_
   refine wr ?_
   refine da ?_
   refine D_end (hK8 _ _ ?_)
   refine W_block ?_
   refine W_loop (G := Nat) (fun k => [(1, S s), (2, ptr b1 0), (5, vg), (6, I ↑k)]) (fun k w' => Ext w w' ∧ Blk w' b1 [vd, va] 31 ∧ Blk w' b2 [vd, va] 31 ∧ Vc.Own sEnc 1 9 w.heap.size w' vg (grams s) ∧ k ≤ (grams s).length) (fun k => (grams s).length - k) 0 ?_ ?_ ?_
   ·
    exact ⟨rfl, rfl, rfl, rfl, trivial⟩
   ·
    exact ⟨hx, m1, m2, hgr, Nat.zero_le _⟩
   ·
    intro X5 g5 w5 hF5
    revert hF5; revert g5; intro k hF5
    clear hx m1 m2 hgr
    obtain ⟨hx, m1, m2, hgr, hk1⟩ := hF5
    refine W_seq fun K9 hK9 => ?_
    refine W_seq fun K10 hK10 => ?_
    refine wr ?_
    iterate 2 refine dm ?_
    refine dp (pv_lenV (e := 9) (k := 1) (by kernel_rfl) (hgr.arr (by intro x; rfl)).sl rfl) ?_
    refine dp (pv_lss rfl rfl) ?_
    refine D_end (hK10 _ _ ?_)
    refine W_if rfl (fun c3 => ?_) (fun c3 => ?_)
    ·
     obtain ⟨x, hk⟩ : ∃ x, (grams s)[k]? = some x := ⟨_, List.getElem?_eq_getElem (by omega)⟩
     have hx3 := grams_short (List.mem_of_getElem? hk)
     refine W_skip ?_
     refine hK9 _ _ ?_
     refine W_seq fun K11 hK11 => ?_
     refine W_block ?_
     refine W_seq fun K12 hK12 => ?_
     refine wr ?_
     iterate 2 refine dm ?_
     refine dp (pv_idxA (e := 9) (k := 1) (by kernel_rfl) (hgr.arr (by intro x; rfl)).sl rfl rfl ((hgr.arr (by intro x; rfl)).lt hk)) ?_
     refine dq (lv_load (by kernel_rfl) rfl (((hgr.arr (by intro x; rfl)).row hk).at0 rfl)) ?_
     refine dp (pv_lenS (by kernel_rfl) rfl) ?_
     refine dp (pv_neq rfl rfl) ?_
     refine D_end (hK12 _ _ ?_)
     refine W_if rfl (fun c4 => ?_) (fun c4 => ?_)
     ·
      omega
     ·
      refine W_skip ?_
      refine hK11 _ _ ?_
      refine wr ?_
      refine dm ?_
      refine dp (pv_add rfl rfl (by unfold inI64; omega)) ?_
      refine da ?_
      refine D_end (?_)
      refine ⟨k + 1, ⟨rfl, rfl, rfl, rfl, trivial⟩, ⟨hx, m1, m2, hgr, by omega⟩, by omega⟩
    ·
     refine W_exit ?_
     refine hK7 _ _ ?_
     refine W_seq fun K13 hK13 => ?_
     refine wr ?_
     refine dq (lv_loadA (k := 2) (by kernel_rfl) rfl rfl m1.row) ?_
     refine D_callG rfl (by kernel_rfl) (keys_w nl l vd va _ (hd.ext hx) (ha.ext hx) (hvs.ext hx) (hg.ext hx) hs) rfl RX.all (fun vk w6 x6 hk1 => ?_)
     have hsz6 := hx.size
     replace m1 := m1.ext x6
     replace m2 := m2.ext x6
     replace hgr := hgr.ext x6
     replace hx := hx.trans x6
     replace hk1 := hk1.arr (by intro x; rfl)
     refine D_callP rfl (by kernel_rfl) ((riseB_keys _ ▸ rise_w (keysM ⟨nl, (l.map AttrV.toA)⟩) vk _ hk1 (by omega))) rfl RX.all (fun w7 x7 => ?_)
     replace m1 := m1.ext x7
     replace m2 := m2.ext x7
     replace hgr := hgr.ext x7
     replace hk1 := hk1.ext x7
     replace hx := hx.trans x7
     iterate 2 refine dm ?_
     refine D_callP rfl (by kernel_rfl) ((riseB_grams _ ▸ rise_w (grams s) vg _ (hgr.arr (by intro x; rfl)) (by omega))) rfl RX.all (fun w8 x8 => ?_)
     replace m1 := m1.ext x8
     replace m2 := m2.ext x8
     replace hgr := hgr.ext x8
     replace hk1 := hk1.ext x8
     replace hx := hx.trans x8
     refine dk' ?_
     iterate 2 refine dm ?_
     refine dp (pv_lenV (e := 9) (k := 1) (by kernel_rfl) (hgr.arr (by intro x; rfl)).sl rfl) ?_
     refine dm ?_
     refine dp (pv_lenS (by kernel_rfl) rfl) ?_
     refine dp (pv_sub rfl rfl (by unfold inI64; omega)) ?_
     refine dp (pv_max2 rfl rfl) ?_
     refine dp (pv_leq rfl rfl) ?_
     refine dk' ?_
     refine dm ?_
     refine D_splitP 45 rfl (fun c5 => ?_) (fun c5 => ?_)
     ·
      refine dm ?_
      refine dp (pv_lenS (by kernel_rfl) rfl) ?_
      refine dp (pv_lss rfl rfl) ?_
      refine dm ?_
      refine D_splitP 49 rfl (fun c6 => ?_) (fun c6 => ?_)
      ·
       iterate 3 refine dk ?_
       refine dk' ?_
       refine dk' ?_
       refine dm ?_
       refine D_callP rfl (by kernel_rfl) (knownI_w _) rfl RX.all (fun w9 x9 => ?_)
       replace m1 := m1.ext x9
       replace m2 := m2.ext x9
       replace hgr := hgr.ext x9
       replace hk1 := hk1.ext x9
       replace hx := hx.trans x9
       refine dk' ?_
       refine da ?_
       refine D_end (hK13 _ _ ?_)
       refine W_ret ?_
       try dsimp only [then', inBlk, noGo]
       refine ro ?_
       exact ⟨rfl, hx⟩
      ·
       have hgp := grams_pos (s := s) (by omega)
       refine dm ?_
       refine dp (pv_lenV (e := 9) (k := 1) (by kernel_rfl) (hgr.arr (by intro x; rfl)).sl rfl) ?_
       refine dp (pv_gtr rfl rfl) ?_
       refine dk' ?_
       refine dk' ?_
       refine dm ?_
       refine D_splitP 55 rfl (fun c7 => ?_) (fun c7 => ?_)
       ·
        refine D_callP rfl (by kernel_rfl) (knownI_w _) rfl RX.all (fun w10 x10 => ?_)
        replace m1 := m1.ext x10
        replace m2 := m2.ext x10
        replace hgr := hgr.ext x10
        replace hk1 := hk1.ext x10
        replace hx := hx.trans x10
        refine dk' ?_
        refine da ?_
        refine D_end (hK13 _ _ ?_)
        refine W_ret ?_
        try dsimp only [then', inBlk, noGo]
        refine ro ?_
        exact ⟨rfl, hx⟩
       ·
        have := grams_pos (s := s) (by omega); omega
     ·
      omega

set_option maxRecDepth 100000 in
set_option maxHeartbeats 1000000 in
theorem law_finds (nl : List Ava) (l : List AttrV) (vd va : Value) (s : Str) (w : World) (hd : Arr Ava.cs 2 w vd nl) (ha : Arr AttrV.cs 2 w va l) (hvs : ValsAt w l) (hg : GV w) (hW : wE ⟨nl, l.map AttrV.toA⟩ ≤ 1048576) (hs0 : s.length ≤ 1048576) :
  Calls Tryz.prog 5 [.agg ⟨[vd, va]⟩, S s].toArray w (Pure w (B true)) := by
 refine calls_W Tryz.func5 rfl rfl rfl (by kernel_rfl) ?_
 have hx := Ext.refl w
 refine W_seq fun K1 hK1 => ?_
 refine wr ?_
 refine D_box rfl rfl rfl RX.all (fun b1 w1 e1 x1 m1 => ?_)
 have g1 : w.heap.size ≤ b1 := by have := hx.size; omega
 replace hx := hx.trans x1
 refine da ?_
 refine D_end (hK1 _ _ ?_)
 refine W_seq fun K2 hK2 => ?_
 refine W_seq fun K3 hK3 => ?_
 refine wr ?_
 refine dq (lv_loadA (k := 2) (by kernel_rfl) rfl rfl m1.row) ?_
 refine D_lit (e := 31) (sz := 2) (zs := [.slice none 0 0, .slice none 0 0]) (pv := [(0, .agg ⟨[?a2_0, ?a2_1]⟩)]) (cs := [?a2_0, ?a2_1]) rfl (by kernel_rfl) ⟨rfl, rfl⟩ (by kernel_rfl) rfl ?h2 ?f2 RX.all (fun b2 w2 e2 x2 m2 => ?k2)
 case h2 => refine ⟨rfl, ?_, trivial⟩ <;> (conv => lhs; whnf)
 case f2 => rfl
 have g2 : w.heap.size ≤ b2 := by have := hx.size; omega
 have n2_1 : b1 < b2 := by have := m1.lt; omega
 replace m1 := m1.ext x2
 replace hx := hx.trans x2
 refine D_callP rfl (by kernel_rfl) (great_w nl l vd va _ _ (m2.arr (enc := encP) (sz := 2) (l := [(vd, va)]) rfl (by intro x; rfl) rfl (by simp)) (hd.ext hx) (ha.ext hx) (hvs.ext hx) (by omega)) rfl RX.all (fun w3 x3 => ?_)
 replace m1 := m1.ext x3
 replace m2 := m2.ext x3
 replace hx := hx.trans x3
 refine dm ?_
 refine D_splitP 20 rfl (fun c1 => ?_) (fun c1 => ?_)
 ·
  iterate 3 refine dk ?_
  refine dk' ?_
  refine D_end (hK3 _ _ ?_)
  refine W_t rfl ?_
  refine W_seq fun K4 hK4 => ?_
  refine wr ?_
  refine da ?_
  refine D_end (hK4 _ _ ?_)
  refine W_ret ?_
  try dsimp only [then', inBlk, noGo]
  refine ro ?_
  exact ⟨rfl, hx⟩
 ·
  have hs : SmallE ⟨nl, (l.map AttrV.toA)⟩ := smallE (by omega)
  have hkl := keys_len hs
  have hnml : (keyS nl).length ≤ 300100000 := keyS_len hs.dn
  have hll : l.length ≤ 4000 := by have := hs.attrs; simpa using this
  have hsw : wAttrs (l.map AttrV.toA) ≤ 4000 := hs.w
  refine dm ?_
  refine dp (pv_lenS (by kernel_rfl) rfl) ?_
  refine dp (pv_gtr rfl rfl) ?_
  refine dk' ?_
  refine D_end (hK3 _ _ ?_)
  refine W_if rfl (fun c2 => ?_) (fun c2 => ?_)
  ·
   refine W_seq fun K5 hK5 => ?_
   refine wr ?_
   refine da ?_
   refine D_end (hK5 _ _ ?_)
   refine W_ret ?_
   try dsimp only [then', inBlk, noGo]
   refine ro ?_
   exact ⟨rfl, hx⟩
  ·
   refine W_skip ?_
   refine hK2 _ _ ?_
   refine W_seq fun K6 hK6 => ?_
   refine wr ?_
   refine dq (lv_loadA (k := 2) (by kernel_rfl) rfl rfl m1.row) ?_
   refine D_callG rfl (by kernel_rfl) (keys_w nl l vd va _ (hd.ext hx) (ha.ext hx) (hvs.ext hx) (hg.ext hx) hs) rfl RX.all (fun vk w4 x4 hks => ?_)
   have hsz4 := hx.size
   replace m1 := m1.ext x4
   replace m2 := m2.ext x4
   replace hx := hx.trans x4
   replace hks := hks.arr (by intro x; rfl)
   refine da ?_
   refine D_end (hK6 _ _ ?_)
   refine W_seq fun K7 hK7 => ?_
   refine wr ?_
   refine dm ?_
   refine D_callP rfl (by kernel_rfl) (rnormM_w 1 s _ (by omega)) rfl RX.all (fun w5 x5 => ?_)
   replace m1 := m1.ext x5
   replace m2 := m2.ext x5
   replace hks := hks.ext x5
   replace hx := hx.trans x5
   refine dm ?_
   refine dp (pv_ext rfl rfl) ?_
   refine dp (pv_ext rfl rfl) ?_
   iterate 2 refine da ?_
   refine D_end (hK7 _ _ ?_)
   refine W_seq fun K8 hK8 => ?_
   refine W_seq fun K9 hK9 => ?_
   refine wr ?_
   refine dm ?_
   refine dn ?_
   refine D_end (hK9 _ _ ?_)
   refine W_cond rfl (fun c3 => ?_) (fun c3 => ?_)
   ·
    refine W_seq fun K10 hK10 => ?_
    refine wr ?_
    refine D_callP rfl (by kernel_rfl) (knownI_w _) rfl RX.all (fun w6 x6 => ?_)
    replace m1 := m1.ext x6
    replace m2 := m2.ext x6
    replace hks := hks.ext x6
    replace hx := hx.trans x6
    refine da ?_
    refine D_end (hK10 _ _ ?_)
    refine W_ret ?_
    try dsimp only [then', inBlk, noGo]
    refine ro ?_
    exact ⟨rfl, hx⟩
   ·
    have hsm : (normM 1 s).isSome = true := by simpa using c3
    have hnv : normM 1 s = some ((normM 1 s).getD []) := by
     cases h : normM 1 s with
     | none => rw [h] at hsm; cases hsm
     | some a => rfl
    refine W_skip ?_
    refine hK8 _ _ ?_
    refine W_seq fun K11 hK11 => ?_
    refine wr ?_
    refine da ?_
    refine D_end (hK11 _ _ ?_)
    refine W_seq fun K12 hK12 => ?_
    refine W_seq fun K13 hK13 => ?_
    refine wr ?_
    refine da ?_
    refine D_end (hK13 _ _ ?_)
    refine W_block ?_
    refine W_loop (G := Nat × Bool) (fun (k, b) => [(1, S s), (2, ptr b1 0), (4, .bool false), (5, vk), (6, S ((normM 1 s).getD [])), (8, B b), (9, I ↑k)]) (fun (k, b) w' => Ext w w' ∧ Blk w' b1 [vd, va] 31 ∧ Blk w' b2 [vd, va] 31 ∧ Arr sEnc 1 w' vk (keysM ⟨nl, (l.map AttrV.toA)⟩) ∧ k ≤ l.length ∧ b = ((l.map AttrV.toA).take k).any (wAt s)) (fun (k, b) => l.length - k) (0, false) ?_ ?_ ?_
    ·
     exact ⟨rfl, rfl, rfl, rfl, rfl, rfl, rfl, trivial⟩
    ·
     exact ⟨hx, m1, m2, hks, Nat.zero_le _, rfl⟩
    ·
     intro X7 g7 w7 hF7
     obtain ⟨k, b⟩ := g7
     clear hx m1 m2 hks
     obtain ⟨hx, m1, m2, hks, hk1, hb⟩ := hF7
     refine W_seq fun K14 hK14 => ?_
     refine W_seq fun K15 hK15 => ?_
     refine wr ?_
     refine dm ?_
     refine dp (pv_fieldA (k := 1) (by kernel_rfl) rfl) ?_
     refine dq (lv_load (by kernel_rfl) rfl (m1.at rfl)) ?_
     refine dp (pv_lenV (e := 41) (k := 2) (by kernel_rfl) ha.sl rfl) ?_
     refine dp (pv_lss rfl rfl) ?_
     refine D_end (hK15 _ _ ?_)
     refine W_if rfl (fun c4 => ?_) (fun c4 => ?_)
     ·
      obtain ⟨a, hk⟩ : ∃ a, l[k]? = some a := ⟨_, List.getElem?_eq_getElem (by omega)⟩
      have hav := hvs.at hk
      have hsa := SmallE.at hs hk
      have hrl := rk_len (name := (keyS nl)) hsw k
      have htc := tC_len a.typ
      have htc4 : (tC a.typ).length ≤ 4000 := by omega
      refine W_skip ?_
      refine hK14 _ _ ?_
      refine W_seq fun K16 hK16 => ?_
      refine W_block ?_
      refine W_seq fun K17 hK17 => ?_
      refine wr ?_
      refine dp (pv_fieldA (k := 1) (by kernel_rfl) rfl) ?_
      refine dq (lv_load (by kernel_rfl) rfl (m1.at rfl)) ?_
      refine dm ?_
      refine dp (pv_idxA (e := 41) (k := 2) (by kernel_rfl) ha.sl rfl rfl (ha.lt hk)) ?_
      refine dp (pv_fieldA (k := 0) (by kernel_rfl) rfl) ?_
      refine dq (lv_load (by kernel_rfl) rfl (((ha.ext hx).row hk).at rfl)) ?_
      refine D_callP rfl (by kernel_rfl) (rtypeT_w a.typ _ (by omega)) rfl RX.all (fun w8 x8 => ?_)
      replace m1 := m1.ext x8
      replace m2 := m2.ext x8
      replace hks := hks.ext x8
      replace hx := hx.trans x8
      refine dm ?_
      refine dp (pv_ext rfl rfl) ?_
      refine dp (pv_ext rfl rfl) ?_
      refine dp (pv_ext rfl rfl) ?_
      refine dp (pv_ext rfl rfl) ?_
      iterate 4 refine da ?_
      refine D_end (hK17 _ _ ?_)
      refine W_seq fun K18 hK18 => ?_
      refine wr ?_
      refine da ?_
      refine D_end (hK18 _ _ ?_)
      refine W_block ?_
      refine W_loop (G := Nat × Bool) (fun (j, c) => [(1, S s), (2, ptr b1 0), (4, .bool false), (5, vk), (6, S ((normM 1 s).getD [])), (8, B c), (9, I ↑k), (10, S (tC a.typ)), (13, B (tOk a.typ)), (14, I ↑j)]) (fun (j, c) w' => Ext w w' ∧ Blk w' b1 [vd, va] 31 ∧ Blk w' b2 [vd, va] 31 ∧ Arr sEnc 1 w' vk (keysM ⟨nl, (l.map AttrV.toA)⟩) ∧ j ≤ a.vals.length ∧ c = (((l.map AttrV.toA).take k).any (wAt s) || (decide (foldS a.typ = [99, 110]) && (a.vals.take j).any fun v => equalM 1 v s))) (fun (j, c) => a.vals.length - j) (0, b) ?_ ?_ ?_
      ·
       exact ⟨rfl, rfl, rfl, rfl, rfl, rfl, rfl, rfl, rfl, rfl, trivial⟩
      ·
       exact ⟨hx, m1, m2, hks, Nat.zero_le _, by rw [hb]; simp⟩
      ·
       intro X9 g9 w9 hF9
       obtain ⟨j, c⟩ := g9
       clear hx m1 m2 hks
       obtain ⟨hx, m1, m2, hks, hj1, hc⟩ := hF9
       refine W_seq fun K19 hK19 => ?_
       refine W_seq fun K20 hK20 => ?_
       refine wr ?_
       refine dm ?_
       refine dp (pv_fieldA (k := 1) (by kernel_rfl) rfl) ?_
       refine dq (lv_load (by kernel_rfl) rfl (m1.at rfl)) ?_
       refine dm ?_
       refine dp (pv_idxA (e := 41) (k := 2) (by kernel_rfl) ha.sl rfl rfl (ha.lt hk)) ?_
       refine dp (pv_fieldA (k := 1) (by kernel_rfl) rfl) ?_
       refine dq (lv_load (by kernel_rfl) rfl (((ha.ext hx).row hk).at rfl)) ?_
       refine dp (pv_lenV (e := 9) (k := 1) (by kernel_rfl) hav.sl rfl) ?_
       refine dp (pv_lss rfl rfl) ?_
       refine D_end (hK20 _ _ ?_)
       refine W_if rfl (fun c5 => ?_) (fun c5 => ?_)
       ·
        obtain ⟨v, hj⟩ : ∃ v, a.vals[j]? = some v := ⟨_, List.getElem?_eq_getElem (by omega)⟩
        have hv4 := hsa.2.2 v (List.mem_of_getElem? hj)
        refine W_skip ?_
        refine hK19 _ _ ?_
        refine W_seq fun K21 hK21 => ?_
        refine W_block ?_
        refine wr ?_
        iterate 2 refine dm ?_
        refine D_split 66 rfl (fun c6 => ?_) (fun c6 => ?_)
        ·
         iterate 18 refine dk ?_
         refine dk' ?_
         refine da ?_
         refine D_end (hK21 _ _ ?_)
         refine wr ?_
         refine dm ?_
         refine dp (pv_add rfl rfl (by unfold inI64; omega)) ?_
         refine da ?_
         refine D_end (?_)
         first | (refine ⟨(j + 1, true), ⟨rfl, rfl, rfl, rfl, rfl, rfl, rfl, rfl, rfl, rfl, trivial⟩, ⟨hx, m1, m2, hks, by omega, ?_⟩, by simp only []; omega⟩; rw [any_next hj]; rw [c6] at hc; revert hc; generalize (((l.map AttrV.toA).take k).any (wAt s)) = X; generalize decide (foldS a.typ = [99, 110]) = t; generalize (a.vals.take j).any _ = T; generalize equalM 1 v s = f; revert X t T f; decide) | (refine ⟨(j + 1, equalM 1 v s), ⟨rfl, rfl, rfl, rfl, rfl, rfl, rfl, rfl, rfl, rfl, trivial⟩, ⟨hx, m1, m2, hks, by omega, ?_⟩, by simp only []; omega⟩; rw [any_next hj]; rw [c6] at hc; have ht : decide (foldS a.typ = [99, 110]) = true := decide_eq_true (by rw [← tC_eq c7]; exact c8); rw [ht] at hc ⊢; revert hc; generalize (((l.map AttrV.toA).take k).any (wAt s)) = X; generalize (a.vals.take j).any _ = T; generalize equalM 1 v s = f; revert X T f; decide) | (refine ⟨(j + 1, false), ⟨rfl, rfl, rfl, rfl, rfl, rfl, rfl, rfl, rfl, rfl, trivial⟩, ⟨hx, m1, m2, hks, by omega, ?_⟩, by simp only []; omega⟩; rw [any_next hj]; rw [c6] at hc; have ht : decide (foldS a.typ = [99, 110]) = false := decide_eq_false (fun e => by first | (rw [← tC_eq c7] at e; exact c8 e) | (rw [tOk_cn e] at c7; cases c7)); rw [ht] at hc ⊢; simpa using hc)
        ·
         iterate 2 refine dm ?_
         refine D_split 68 rfl (fun c7 => ?_) (fun c7 => ?_)
         ·
          refine dm ?_
          refine dp (pv_seq rfl rfl) ?_
          refine dk' ?_
          refine dm ?_
          refine D_splitP 72 rfl (fun c8 => ?_) (fun c8 => ?_)
          ·
           refine dp (pv_fieldA (k := 1) (by kernel_rfl) rfl) ?_
           refine dq (lv_load (by kernel_rfl) rfl (m1.at rfl)) ?_
           refine dm ?_
           refine dp (pv_idxA (e := 41) (k := 2) (by kernel_rfl) ha.sl rfl rfl (ha.lt hk)) ?_
           refine dp (pv_fieldA (k := 1) (by kernel_rfl) rfl) ?_
           refine dq (lv_load (by kernel_rfl) rfl (((ha.ext hx).row hk).at rfl)) ?_
           refine dm ?_
           refine dp (pv_idxA (e := 9) (k := 1) (by kernel_rfl) hav.sl rfl rfl (hav.lt hj)) ?_
           refine dq (lv_load (by kernel_rfl) rfl (((hav.ext hx).row hj).at0 rfl)) ?_
           refine dm ?_
           refine D_callP rfl (by kernel_rfl) (requalM_w 1 v s _ (by omega) (by omega)) rfl RX.all (fun w10 x10 => ?_)
           replace m1 := m1.ext x10
           replace m2 := m2.ext x10
           replace hks := hks.ext x10
           replace hx := hx.trans x10
           refine dk' ?_
           refine dk' ?_
           refine da ?_
           refine D_end (hK21 _ _ ?_)
           refine wr ?_
           refine dm ?_
           refine dp (pv_add rfl rfl (by unfold inI64; omega)) ?_
           refine da ?_
           refine D_end (?_)
           first | (refine ⟨(j + 1, true), ⟨rfl, rfl, rfl, rfl, rfl, rfl, rfl, rfl, rfl, rfl, trivial⟩, ⟨hx, m1, m2, hks, by omega, ?_⟩, by simp only []; omega⟩; rw [any_next hj]; rw [c6] at hc; revert hc; generalize (((l.map AttrV.toA).take k).any (wAt s)) = X; generalize decide (foldS a.typ = [99, 110]) = t; generalize (a.vals.take j).any _ = T; generalize equalM 1 v s = f; revert X t T f; decide) | (refine ⟨(j + 1, equalM 1 v s), ⟨rfl, rfl, rfl, rfl, rfl, rfl, rfl, rfl, rfl, rfl, trivial⟩, ⟨hx, m1, m2, hks, by omega, ?_⟩, by simp only []; omega⟩; rw [any_next hj]; rw [c6] at hc; have ht : decide (foldS a.typ = [99, 110]) = true := decide_eq_true (by rw [← tC_eq c7]; exact c8); rw [ht] at hc ⊢; revert hc; generalize (((l.map AttrV.toA).take k).any (wAt s)) = X; generalize (a.vals.take j).any _ = T; generalize equalM 1 v s = f; revert X T f; decide) | (refine ⟨(j + 1, false), ⟨rfl, rfl, rfl, rfl, rfl, rfl, rfl, rfl, rfl, rfl, trivial⟩, ⟨hx, m1, m2, hks, by omega, ?_⟩, by simp only []; omega⟩; rw [any_next hj]; rw [c6] at hc; have ht : decide (foldS a.typ = [99, 110]) = false := decide_eq_false (fun e => by first | (rw [← tC_eq c7] at e; exact c8 e) | (rw [tOk_cn e] at c7; cases c7)); rw [ht] at hc ⊢; simpa using hc)
          ·
           iterate 11 refine dk ?_
           refine dk' ?_
           refine dk' ?_
           refine da ?_
           refine D_end (hK21 _ _ ?_)
           refine wr ?_
           refine dm ?_
           refine dp (pv_add rfl rfl (by unfold inI64; omega)) ?_
           refine da ?_
           refine D_end (?_)
           first | (refine ⟨(j + 1, true), ⟨rfl, rfl, rfl, rfl, rfl, rfl, rfl, rfl, rfl, rfl, trivial⟩, ⟨hx, m1, m2, hks, by omega, ?_⟩, by simp only []; omega⟩; rw [any_next hj]; rw [c6] at hc; revert hc; generalize (((l.map AttrV.toA).take k).any (wAt s)) = X; generalize decide (foldS a.typ = [99, 110]) = t; generalize (a.vals.take j).any _ = T; generalize equalM 1 v s = f; revert X t T f; decide) | (refine ⟨(j + 1, equalM 1 v s), ⟨rfl, rfl, rfl, rfl, rfl, rfl, rfl, rfl, rfl, rfl, trivial⟩, ⟨hx, m1, m2, hks, by omega, ?_⟩, by simp only []; omega⟩; rw [any_next hj]; rw [c6] at hc; have ht : decide (foldS a.typ = [99, 110]) = true := decide_eq_true (by rw [← tC_eq c7]; exact c8); rw [ht] at hc ⊢; revert hc; generalize (((l.map AttrV.toA).take k).any (wAt s)) = X; generalize (a.vals.take j).any _ = T; generalize equalM 1 v s = f; revert X T f; decide) | (refine ⟨(j + 1, false), ⟨rfl, rfl, rfl, rfl, rfl, rfl, rfl, rfl, rfl, rfl, trivial⟩, ⟨hx, m1, m2, hks, by omega, ?_⟩, by simp only []; omega⟩; rw [any_next hj]; rw [c6] at hc; have ht : decide (foldS a.typ = [99, 110]) = false := decide_eq_false (fun e => by first | (rw [← tC_eq c7] at e; exact c8 e) | (rw [tOk_cn e] at c7; cases c7)); rw [ht] at hc ⊢; simpa using hc)
         ·
          iterate 2 refine dk ?_
          refine dk' ?_
          refine dm ?_
          iterate 11 refine dk ?_
          refine dk' ?_
          refine dk' ?_
          refine da ?_
          refine D_end (hK21 _ _ ?_)
          refine wr ?_
          refine dm ?_
          refine dp (pv_add rfl rfl (by unfold inI64; omega)) ?_
          refine da ?_
          refine D_end (?_)
          first | (refine ⟨(j + 1, true), ⟨rfl, rfl, rfl, rfl, rfl, rfl, rfl, rfl, rfl, rfl, trivial⟩, ⟨hx, m1, m2, hks, by omega, ?_⟩, by simp only []; omega⟩; rw [any_next hj]; rw [c6] at hc; revert hc; generalize (((l.map AttrV.toA).take k).any (wAt s)) = X; generalize decide (foldS a.typ = [99, 110]) = t; generalize (a.vals.take j).any _ = T; generalize equalM 1 v s = f; revert X t T f; decide) | (refine ⟨(j + 1, equalM 1 v s), ⟨rfl, rfl, rfl, rfl, rfl, rfl, rfl, rfl, rfl, rfl, trivial⟩, ⟨hx, m1, m2, hks, by omega, ?_⟩, by simp only []; omega⟩; rw [any_next hj]; rw [c6] at hc; have ht : decide (foldS a.typ = [99, 110]) = true := decide_eq_true (by rw [← tC_eq c7]; exact c8); rw [ht] at hc ⊢; revert hc; generalize (((l.map AttrV.toA).take k).any (wAt s)) = X; generalize (a.vals.take j).any _ = T; generalize equalM 1 v s = f; revert X T f; decide) | (refine ⟨(j + 1, false), ⟨rfl, rfl, rfl, rfl, rfl, rfl, rfl, rfl, rfl, rfl, trivial⟩, ⟨hx, m1, m2, hks, by omega, ?_⟩, by simp only []; omega⟩; rw [any_next hj]; rw [c6] at hc; have ht : decide (foldS a.typ = [99, 110]) = false := decide_eq_false (fun e => by first | (rw [← tC_eq c7] at e; exact c8 e) | (rw [tOk_cn e] at c7; cases c7)); rw [ht] at hc ⊢; simpa using hc)
       ·
        refine W_exit ?_
        refine hK16 _ _ ?_
        refine wr ?_
        refine dm ?_
        refine dp (pv_add rfl rfl (by unfold inI64; omega)) ?_
        refine da ?_
        refine D_end (?_)
        refine ⟨(k + 1, c), ⟨rfl, rfl, rfl, rfl, rfl, rfl, rfl, trivial⟩, ⟨hx, m1, m2, hks, by omega, ?_⟩, by simp only []; omega⟩
        rw [want_next (toA_at hk), hc, List.take_of_length_le (show a.vals.length ≤ j by omega)]; rfl
     ·
      refine W_exit ?_
      refine hK12 _ _ ?_
      refine W_seq fun K22 hK22 => ?_
      refine wr ?_
      refine da ?_
      refine D_end (hK22 _ _ ?_)
      refine W_seq fun K23 hK23 => ?_
      refine W_seq fun K24 hK24 => ?_
      refine wr ?_
      refine da ?_
      refine D_end (hK24 _ _ ?_)
      refine W_block ?_
      refine W_loop (G := Nat × Bool) (fun (q, d) => [(2, ptr b1 0), (4, .bool false), (5, vk), (6, S ((normM 1 s).getD [])), (8, B b), (15, B d), (16, I ↑q)]) (fun (q, d) w' => Ext w w' ∧ Blk w' b1 [vd, va] 31 ∧ Blk w' b2 [vd, va] 31 ∧ Arr sEnc 1 w' vk (keysM ⟨nl, (l.map AttrV.toA)⟩) ∧ q ≤ (keysM ⟨nl, (l.map AttrV.toA)⟩).length ∧ d = ((keysM ⟨nl, (l.map AttrV.toA)⟩).take q).any fun x => decide (x = (begS 101 [99, 110] ((normM 1 s).getD []) ++ keyS nl))) (fun (q, d) => (keysM ⟨nl, (l.map AttrV.toA)⟩).length - q) (0, false) ?_ ?_ ?_
      ·
       exact ⟨rfl, rfl, rfl, rfl, rfl, rfl, rfl, trivial⟩
      ·
       exact ⟨hx, m1, m2, hks, Nat.zero_le _, rfl⟩
      ·
       intro X11 g11 w11 hF11
       obtain ⟨q, d⟩ := g11
       clear hx m1 m2 hks
       obtain ⟨hx, m1, m2, hks, hq1, hdd⟩ := hF11
       refine W_seq fun K25 hK25 => ?_
       refine W_seq fun K26 hK26 => ?_
       refine wr ?_
       iterate 2 refine dm ?_
       refine dp (pv_lenV (e := 9) (k := 1) (by kernel_rfl) hks.sl rfl) ?_
       refine dp (pv_lss rfl rfl) ?_
       refine D_end (hK26 _ _ ?_)
       refine W_if rfl (fun c9 => ?_) (fun c9 => ?_)
       ·
        obtain ⟨x, hq⟩ : ∃ x, (keysM ⟨nl, (l.map AttrV.toA)⟩)[q]? = some x := ⟨_, List.getElem?_eq_getElem (by omega)⟩
        have hb1 : (begS 101 [99, 110] ((normM 1 s).getD [])).length ≤ 2 + 2 * ((normM 1 s).getD []).length + 4 := begS_len 101 [99, 110] ((normM 1 s).getD [])
        have hnl2 : ((normM 1 s).getD []).length ≤ 1000000 := norm_len2
        refine W_skip ?_
        refine hK25 _ _ ?_
        refine W_seq fun K27 hK27 => ?_
        refine W_block ?_
        refine W_draw (R := Ext) Ext.refl (fun _ _ _ => Ext.trans) (by kernel_rfl) [5, 9] [(0, .p, false), (1, .p, false), (2, .p, false), (3, .p, false), (4, .p, false), (5, .l, false), (6, .p, false), (8, .p, false), (9, .l, false), (7, .x, false), (10, .x, false), (11, .p, false), (12, .p, false), (13, .p, false), (14, .p, false)] rfl (by kernel_rfl) (by kernel_rfl) (fun w12 ew12 => ?_)
        have x12 : Ext w11 w12 := by rw [ew12]; exact Ext.drew _
        clear ew12
        replace m1 := m1.ext x12
        replace m2 := m2.ext x12
        replace hks := hks.ext x12
        replace hx := hx.trans x12
        iterate 2 refine dm ?_
        refine D_split 93 rfl (fun c10 => ?_) (fun c10 => ?_)
        ·
         iterate 11 refine dk ?_
         refine dk' ?_
         refine da ?_
         refine D_end (hK27 _ _ ?_)
         refine wr ?_
         refine dm ?_
         refine dp (pv_add rfl rfl (by unfold inI64; omega)) ?_
         refine da ?_
         refine D_end (?_)
         first | (refine ⟨(q + 1, true), ⟨rfl, rfl, rfl, rfl, rfl, rfl, rfl, trivial⟩, ⟨hx, m1, m2, hks, by omega, ?_⟩, by simp only []; omega⟩; rw [any_next hq, ← hdd, c10]; rfl) | (refine ⟨(q + 1, decide (x = (begS 101 [99, 110] ((normM 1 s).getD []) ++ keyS nl))), ⟨rfl, rfl, rfl, rfl, rfl, rfl, rfl, trivial⟩, ⟨hx, m1, m2, hks, by omega, ?_⟩, by simp only []; omega⟩; rw [any_next hq, ← hdd, c10]; rfl)
        ·
         iterate 2 refine dm ?_
         refine dp (pv_idxA (e := 9) (k := 1) (by kernel_rfl) hks.sl rfl rfl (hks.lt hq)) ?_
         refine D_l rfl (fun w' hR => lv_load (by kernel_rfl) rfl (((hks.ext hR).row hq).at0 rfl)) ?_
         refine dm ?_
         refine dp (pv_fieldA (k := 0) (by kernel_rfl) rfl) ?_
         refine D_l rfl (fun w' hR => lv_load (by kernel_rfl) rfl ((m1.ext hR).at rfl)) ?_
         refine D_callP rfl (by kernel_rfl) (equal_w [99, 110] ((normM 1 s).getD []) _ (by decide) norm_len2 (hg.ext hx)) rfl RX.ext (fun w13 x13 => ?_)
         replace m1 := m1.ext x13
         replace m2 := m2.ext x13
         replace hks := hks.ext x13
         replace hx := hx.trans x13
         refine D_callP rfl (by kernel_rfl) (rkey_w nl vd _ (hd.ext hx) hs.dn) rfl RX.ext (fun w14 x14 => ?_)
         replace m1 := m1.ext x14
         replace m2 := m2.ext x14
         replace hks := hks.ext x14
         replace hx := hx.trans x14
         refine dp (pv_scat rfl rfl (by first | (simp; done) | (simp; omega) | omega)) ?_
         refine dp (pv_seq rfl rfl) ?_
         refine dk' ?_
         refine da ?_
         refine D_end (hK27 _ _ ?_)
         refine wr ?_
         refine dm ?_
         refine dp (pv_add rfl rfl (by unfold inI64; omega)) ?_
         refine da ?_
         refine D_end (?_)
         first | (refine ⟨(q + 1, true), ⟨rfl, rfl, rfl, rfl, rfl, rfl, rfl, trivial⟩, ⟨hx, m1, m2, hks, by omega, ?_⟩, by simp only []; omega⟩; rw [any_next hq, ← hdd, c10]; rfl) | (refine ⟨(q + 1, decide (x = (begS 101 [99, 110] ((normM 1 s).getD []) ++ keyS nl))), ⟨rfl, rfl, rfl, rfl, rfl, rfl, rfl, trivial⟩, ⟨hx, m1, m2, hks, by omega, ?_⟩, by simp only []; omega⟩; rw [any_next hq, ← hdd, c10]; rfl)
       ·
        refine W_exit ?_
        refine hK23 _ _ ?_
        refine W_seq fun K28 hK28 => ?_
        refine wr ?_
        iterate 2 refine dm ?_
        refine dp (pv_eqB (by kernel_rfl) rfl rfl) ?_
        refine dm ?_
        refine D_splitP 109 rfl (fun c11 => ?_) (fun c11 => ?_)
        ·
         refine D_callP rfl (by kernel_rfl) (knownI_w _) rfl RX.all (fun w15 x15 => ?_)
         replace m1 := m1.ext x15
         replace m2 := m2.ext x15
         replace hks := hks.ext x15
         replace hx := hx.trans x15
         refine dk' ?_
         refine da ?_
         refine D_end (hK28 _ _ ?_)
         refine W_ret ?_
         try dsimp only [then', inBlk, noGo]
         refine ro ?_
         exact ⟨rfl, hx⟩
        ·
         exact absurd (by rw [hdd, hb, List.take_of_length_le (show (keysM ⟨nl, (l.map AttrV.toA)⟩).length ≤ q by omega), List.take_of_length_le (show (l.map AttrV.toA).length ≤ k by simp; omega)]; exact is_want hnv) c11

end Go.Proofs.YtcjjjmhhpejdoaaGreatDoor
