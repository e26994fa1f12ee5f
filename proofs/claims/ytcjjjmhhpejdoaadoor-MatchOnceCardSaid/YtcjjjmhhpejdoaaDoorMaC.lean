/-
  Walks.
-/
import Derived.Test.YtcjjjmhhpejdoaaDoorChecked
import Derived.Test.YtcjjjmhhpejdoaaDoorSpMem
import Derived.KernelRfl
import Derived.Test.YtcjjjmhhpejdoaaDoorMaB
import Derived.Test.YtcjjjmhhpejdoaaDoorSpMb
namespace Go.Proofs.YtcjjjmhhpejdoaaDoor
open Go.Vc Go.Sp
attribute [local irreducible] W XW Dw DwT
set_option linter.unusedVariables false
set_option linter.unusedSimpArgs false


set_option maxRecDepth 100000 in
set_option maxHeartbeats 1000000 in
theorem law_norms (syn : Int) (s : Str) (w : World) (hs : s.length ≤ 140737488355328) (hg : GV w) :
  Calls Tryd.prog 4 [I syn, S s].toArray w (Pure w (B true)) := by
 refine calls_W Tryd.func4 rfl rfl rfl (by kernel_rfl) ?_
 have hx := Ext.refl w
 refine W_seq fun K1 hK1 => ?_
 refine wr ?_
 refine da ?_
 refine D_end (hK1 _ _ ?_)
 refine W_seq fun K2 hK2 => ?_
 refine W_seq fun K3 hK3 => ?_
 refine wr ?_
 refine dm ?_
 refine D_lit (e := 9) (sz := 1) (zs := [S []]) (pv := [(0, ?a3_0)]) (cs := [?a3_0]) rfl (by kernel_rfl) ⟨rfl, rfl⟩ (by kernel_rfl) rfl ?h3 ?f3 RX.all (fun b1 w1 e1 x1 m1 => ?k3)
 case h3 => refine ⟨rfl, ?_, trivial⟩ <;> (conv => lhs; whnf)
 case f3 => rfl
 have g1 : w.heap.size ≤ b1 := by have := hx.size; omega
 replace hx := hx.trans x1
 refine D_callP rfl (by kernel_rfl) (heavy_w [s] _ _ (m1.arr (enc := sEnc) (sz := 1) (l := [s]) rfl (by intro x; rfl) rfl (by simp)) (by intro p hp; simp at hp; subst hp; exact hs)) rfl RX.all (fun w2 x2 => ?_)
 replace m1 := m1.ext x2
 replace hx := hx.trans x2
 refine D_end (hK3 _ _ ?_)
 refine W_cond rfl (fun c1 => ?_) (fun c1 => ?_)
 ·
  refine W_seq fun K4 hK4 => ?_
  refine wr ?_
  refine da ?_
  refine D_end (hK4 _ _ ?_)
  refine W_ret ?_
  try dsimp only [then', inBlk, noGo]
  refine ro ?_
  exact ⟨rfl, hx⟩
 ·
  have hlt := heavy_not c1 s (by simp)
  refine W_skip ?_
  refine hK2 _ _ ?_
  refine W_seq fun K5 hK5 => ?_
  refine wr ?_
  iterate 2 refine dm ?_
  refine D_callP rfl (by kernel_rfl) (normM_w syn s _ (hg.ext hx) (by omega)) rfl RX.all (fun w3 x3 => ?_)
  replace m1 := m1.ext x3
  replace hx := hx.trans x3
  refine dm ?_
  refine dp (pv_ext rfl rfl) ?_
  refine dp (pv_ext rfl rfl) ?_
  iterate 2 refine da ?_
  refine D_end (hK5 _ _ ?_)
  refine W_seq fun K6 hK6 => ?_
  refine wr ?_
  iterate 2 refine dm ?_
  refine D_callP rfl (by kernel_rfl) (rnormM_w syn s _ (by omega)) rfl RX.all (fun w4 x4 => ?_)
  replace m1 := m1.ext x4
  replace hx := hx.trans x4
  refine dm ?_
  refine dp (pv_ext rfl rfl) ?_
  refine dp (pv_ext rfl rfl) ?_
  iterate 2 refine da ?_
  refine D_end (hK6 _ _ ?_)
  refine W_seq fun K7 hK7 => ?_
  refine wr ?_
  refine dm ?_
  refine D_callP rfl (by kernel_rfl) (number_w s _ (by omega)) rfl RX.all (fun w5 x5 => ?_)
  replace m1 := m1.ext x5
  replace hx := hx.trans x5
  refine dm ?_
  refine dp (pv_ext rfl rfl) ?_
  refine dp (pv_ext rfl rfl) ?_
  iterate 2 refine da ?_
  refine D_end (hK7 _ _ ?_)
  refine W_seq fun K8 hK8 => ?_
  refine wr ?_
  refine dm ?_
  refine D_callP rfl (by kernel_rfl) (rnumber_w s _ (by omega)) rfl RX.all (fun w6 x6 => ?_)
  replace m1 := m1.ext x6
  replace hx := hx.trans x6
  refine dm ?_
  refine dp (pv_ext rfl rfl) ?_
  refine dp (pv_ext rfl rfl) ?_
  iterate 2 refine da ?_
  refine D_end (hK8 _ _ ?_)
  refine W_seq fun K9 hK9 => ?_
  refine wr ?_
  iterate 2 refine dm ?_
  refine dp (pv_seq rfl rfl) ?_
  refine dm ?_
  refine D_splitP 41 rfl (fun c2 => ?_) (fun c2 => ?_)
  ·
   iterate 2 refine dm ?_
   refine dp (pv_eqB (by kernel_rfl) rfl rfl) ?_
   refine dk' ?_
   refine dm ?_
   refine D_splitP 46 rfl (fun c3 => ?_) (fun c3 => ?_)
   ·
    iterate 2 refine dm ?_
    refine dp (pv_seq rfl rfl) ?_
    refine dk' ?_
    refine dm ?_
    refine D_splitP 51 rfl (fun c4 => ?_) (fun c4 => ?_)
    ·
     iterate 2 refine dm ?_
     refine dp (pv_eqB (by kernel_rfl) rfl rfl) ?_
     refine dk' ?_
     refine dm ?_
     refine D_splitP 56 rfl (fun c5 => ?_) (fun c5 => ?_)
     ·
      refine D_callP rfl (by kernel_rfl) (known_w _ (hg.ext hx)) rfl RX.all (fun w7 x7 => ?_)
      replace m1 := m1.ext x7
      replace hx := hx.trans x7
      refine dk' ?_
      refine da ?_
      refine D_end (hK9 _ _ ?_)
      refine W_ret ?_
      try dsimp only [then', inBlk, noGo]
      refine ro ?_
      exact ⟨rfl, hx⟩
     ·
      exact absurd rfl c5
    ·
     exact absurd rfl c4
   ·
    exact absurd rfl c3
  ·
   exact absurd rfl c2

set_option maxRecDepth 100000 in
set_option maxHeartbeats 1000000 in
theorem law_once (syn : Int) (s : Str) (w : World) (hs : s.length ≤ 140737488355328) (hg : GV w) :
  Calls Tryd.prog 5 [I syn, S s].toArray w (Pure w (B true)) := by
 refine calls_W Tryd.func5 rfl rfl rfl (by kernel_rfl) ?_
 have hx := Ext.refl w
 refine W_seq fun K1 hK1 => ?_
 refine wr ?_
 refine da ?_
 refine D_end (hK1 _ _ ?_)
 refine W_seq fun K2 hK2 => ?_
 refine W_seq fun K3 hK3 => ?_
 refine wr ?_
 refine dm ?_
 refine D_lit (e := 9) (sz := 1) (zs := [S []]) (pv := [(0, ?a3_0)]) (cs := [?a3_0]) rfl (by kernel_rfl) ⟨rfl, rfl⟩ (by kernel_rfl) rfl ?h3 ?f3 RX.all (fun b1 w1 e1 x1 m1 => ?k3)
 case h3 => refine ⟨rfl, ?_, trivial⟩ <;> (conv => lhs; whnf)
 case f3 => rfl
 have g1 : w.heap.size ≤ b1 := by have := hx.size; omega
 replace hx := hx.trans x1
 refine D_callP rfl (by kernel_rfl) (heavy_w [s] _ _ (m1.arr (enc := sEnc) (sz := 1) (l := [s]) rfl (by intro x; rfl) rfl (by simp)) (by intro p hp; simp at hp; subst hp; exact hs)) rfl RX.all (fun w2 x2 => ?_)
 replace m1 := m1.ext x2
 replace hx := hx.trans x2
 refine D_end (hK3 _ _ ?_)
 refine W_cond rfl (fun c1 => ?_) (fun c1 => ?_)
 ·
  refine W_seq fun K4 hK4 => ?_
  refine wr ?_
  refine da ?_
  refine D_end (hK4 _ _ ?_)
  refine W_ret ?_
  try dsimp only [then', inBlk, noGo]
  refine ro ?_
  exact ⟨rfl, hx⟩
 ·
  have hlt := heavy_not c1 s (by simp)
  refine W_skip ?_
  refine hK2 _ _ ?_
  refine W_seq fun K5 hK5 => ?_
  refine wr ?_
  iterate 2 refine dm ?_
  refine D_callP rfl (by kernel_rfl) (normM_w syn s _ (hg.ext hx) (by omega)) rfl RX.all (fun w3 x3 => ?_)
  replace m1 := m1.ext x3
  replace hx := hx.trans x3
  refine dm ?_
  refine dp (pv_ext rfl rfl) ?_
  refine dp (pv_ext rfl rfl) ?_
  iterate 2 refine da ?_
  refine D_end (hK5 _ _ ?_)
  refine W_seq fun K6 hK6 => ?_
  refine W_seq fun K7 hK7 => ?_
  refine wr ?_
  refine dm ?_
  refine dn ?_
  refine dm ?_
  refine D_split 20 rfl (fun c2 => ?_) (fun c2 => ?_)
  ·
   iterate 3 refine dk ?_
   refine dk' ?_
   refine D_end (hK7 _ _ ?_)
   refine W_t rfl ?_
   refine W_seq fun K8 hK8 => ?_
   refine wr ?_
   refine D_callP rfl (by kernel_rfl) (known_w _ (hg.ext hx)) rfl RX.all (fun w4 x4 => ?_)
   replace m1 := m1.ext x4
   replace hx := hx.trans x4
   refine da ?_
   refine D_end (hK8 _ _ ?_)
   refine W_ret ?_
   try dsimp only [then', inBlk, noGo]
   refine ro ?_
   exact ⟨rfl, hx⟩
  ·
   simp only [Bool.not_eq_false'] at c2
   refine dm ?_
   refine dp (pv_lenS (by kernel_rfl) rfl) ?_
   refine dp (pv_gtr rfl rfl) ?_
   refine dk' ?_
   refine D_end (hK7 _ _ ?_)
   refine W_if rfl (fun c3 => ?_) (fun c3 => ?_)
   ·
    refine W_seq fun K9 hK9 => ?_
    refine wr ?_
    refine D_callP rfl (by kernel_rfl) (known_w _ (hg.ext hx)) rfl RX.all (fun w5 x5 => ?_)
    replace m1 := m1.ext x5
    replace hx := hx.trans x5
    refine da ?_
    refine D_end (hK9 _ _ ?_)
    refine W_ret ?_
    try dsimp only [then', inBlk, noGo]
    refine ro ?_
    exact ⟨rfl, hx⟩
   ·
    have h1 := once_all c2 (by omega)
    refine W_skip ?_
    refine hK6 _ _ ?_
    refine W_seq fun K10 hK10 => ?_
    refine wr ?_
    iterate 2 refine dm ?_
    refine D_callP rfl (by kernel_rfl) (normM_w syn ((normM syn s).getD []) _ (hg.ext hx) (by omega)) rfl RX.all (fun w6 x6 => ?_)
    replace m1 := m1.ext x6
    replace hx := hx.trans x6
    refine dm ?_
    refine dp (pv_ext rfl rfl) ?_
    refine dp (pv_ext rfl rfl) ?_
    iterate 2 refine da ?_
    refine D_end (hK10 _ _ ?_)
    refine W_seq fun K11 hK11 => ?_
    refine wr ?_
    iterate 2 refine dm ?_
    refine D_split 33 rfl (fun c4 => ?_) (fun c4 => ?_)
    ·
     iterate 2 refine dm ?_
     refine dp (pv_seq rfl rfl) ?_
     refine dk' ?_
     refine dm ?_
     refine D_splitP 38 rfl (fun c5 => ?_) (fun c5 => ?_)
     ·
      iterate 3 refine dm ?_
      refine D_callP rfl (by kernel_rfl) (equalM_w syn s ((normM syn s).getD []) _ (hg.ext hx) (by omega) (by omega)) rfl RX.all (fun w7 x7 => ?_)
      replace m1 := m1.ext x7
      replace hx := hx.trans x7
      refine dk' ?_
      refine dm ?_
      refine D_split 44 rfl (fun c6 => ?_) (fun c6 => ?_)
      ·
       refine D_callP rfl (by kernel_rfl) (known_w _ (hg.ext hx)) rfl RX.all (fun w8 x8 => ?_)
       replace m1 := m1.ext x8
       replace hx := hx.trans x8
       refine dk' ?_
       refine da ?_
       refine D_end (hK11 _ _ ?_)
       refine W_ret ?_
       try dsimp only [then', inBlk, noGo]
       refine ro ?_
       exact ⟨rfl, hx⟩
      ·
       rw [equal_once c2 h1] at c6; cases c6
     ·
      exact (c5 (by rw [h1]; rfl)).elim
    ·
     rw [h1] at c4; cases c4

set_option maxRecDepth 100000 in
set_option maxHeartbeats 1000000 in
theorem law_whole (s : Str) (a b : Int) (w : World) (hs : s.length ≤ 140737488355328) (hg : GV w) :
  Calls Tryd.prog 6 [S s, I a, I b].toArray w (Pure w (B true)) := by
 refine calls_W Tryd.func6 rfl rfl rfl (by kernel_rfl) ?_
 have hx := Ext.refl w
 refine W_seq fun K1 hK1 => ?_
 refine wr ?_
 refine da ?_
 refine D_end (hK1 _ _ ?_)
 refine W_seq fun K2 hK2 => ?_
 refine W_seq fun K3 hK3 => ?_
 refine wr ?_
 refine dm ?_
 refine dp (pv_lenS (by kernel_rfl) rfl) ?_
 refine dp (pv_lss rfl rfl) ?_
 refine dm ?_
 refine D_splitP 18 rfl (fun c1 => ?_) (fun c1 => ?_)
 ·
  iterate 3 refine dk ?_
  refine dk' ?_
  refine dm ?_
  iterate 2 refine dk ?_
  refine dk' ?_
  refine dm ?_
  iterate 3 refine dk ?_
  refine dk' ?_
  refine dm ?_
  iterate 4 refine dk ?_
  refine dk' ?_
  refine D_end (hK3 _ _ ?_)
  refine W_t rfl ?_
  refine W_seq fun K4 hK4 => ?_
  refine wr ?_
  refine da ?_
  refine D_end (hK4 _ _ ?_)
  refine W_ret ?_
  try dsimp only [then', inBlk, noGo]
  refine ro ?_
  exact ⟨rfl, hx⟩
 ·
  refine dm ?_
  refine dp (pv_lenS (by kernel_rfl) rfl) ?_
  refine dp (pv_gtr rfl rfl) ?_
  refine dk' ?_
  refine dm ?_
  refine D_splitP 23 rfl (fun c2 => ?_) (fun c2 => ?_)
  ·
   iterate 2 refine dk ?_
   refine dk' ?_
   refine dm ?_
   iterate 3 refine dk ?_
   refine dk' ?_
   refine dm ?_
   iterate 4 refine dk ?_
   refine dk' ?_
   refine D_end (hK3 _ _ ?_)
   refine W_t rfl ?_
   refine W_seq fun K5 hK5 => ?_
   refine wr ?_
   refine da ?_
   refine D_end (hK5 _ _ ?_)
   refine W_ret ?_
   try dsimp only [then', inBlk, noGo]
   refine ro ?_
   exact ⟨rfl, hx⟩
  ·
   refine dm ?_
   refine dp (pv_lss rfl rfl) ?_
   refine dk' ?_
   refine dm ?_
   refine D_splitP 27 rfl (fun c3 => ?_) (fun c3 => ?_)
   ·
    iterate 3 refine dk ?_
    refine dk' ?_
    refine dm ?_
    iterate 4 refine dk ?_
    refine dk' ?_
    refine D_end (hK3 _ _ ?_)
    refine W_t rfl ?_
    refine W_seq fun K6 hK6 => ?_
    refine wr ?_
    refine da ?_
    refine D_end (hK6 _ _ ?_)
    refine W_ret ?_
    try dsimp only [then', inBlk, noGo]
    refine ro ?_
    exact ⟨rfl, hx⟩
   ·
    iterate 2 refine dm ?_
    refine dp (pv_leq rfl rfl) ?_
    refine dk' ?_
    refine dm ?_
    refine D_splitP 32 rfl (fun c4 => ?_) (fun c4 => ?_)
    ·
     iterate 4 refine dk ?_
     refine dk' ?_
     refine D_end (hK3 _ _ ?_)
     refine W_t rfl ?_
     refine W_seq fun K7 hK7 => ?_
     refine wr ?_
     refine da ?_
     refine D_end (hK7 _ _ ?_)
     refine W_ret ?_
     try dsimp only [then', inBlk, noGo]
     refine ro ?_
     exact ⟨rfl, hx⟩
    ·
     iterate 2 refine dm ?_
     refine dp (pv_lenS (by kernel_rfl) rfl) ?_
     refine dp (pv_gtr rfl rfl) ?_
     refine dk' ?_
     refine D_end (hK3 _ _ ?_)
     refine W_if rfl (fun c5 => ?_) (fun c5 => ?_)
     ·
      refine W_seq fun K8 hK8 => ?_
      refine wr ?_
      refine da ?_
      refine D_end (hK8 _ _ ?_)
      refine W_ret ?_
      try dsimp only [then', inBlk, noGo]
      refine ro ?_
      exact ⟨rfl, hx⟩
     ·
      obtain ⟨i, rfl⟩ := Int.eq_ofNat_of_zero_le (show 0 ≤ a by omega)
      obtain ⟨j, rfl⟩ := Int.eq_ofNat_of_zero_le (show 0 ≤ b by omega)
      have hl : s.length ≤ 256 := by omega
      have q1 := whole_1 hl
      have q2 := whole_2 hl
      have q3 := whole_3 (i := i) (j := j) hl (by omega)
      have q4 := whole_4 hl (by omega)
      refine W_skip ?_
      refine hK2 _ _ ?_
      refine W_seq fun K9 hK9 => ?_
      refine wr ?_
      iterate 2 refine dm ?_
      refine D_lit (e := 9) (sz := 1) (zs := [S []]) (pv := [(0, ?a45_0), (1, ?a45_1)]) (cs := [?a45_0, ?a45_1]) rfl (by kernel_rfl) ⟨rfl, rfl⟩ (by kernel_rfl) rfl ?h45 ?f45 RX.all (fun b1 w1 e1 x1 m1 => ?k45)
      case h45 => refine ⟨rfl, ?_, rfl, ?_, trivial⟩ <;> (conv => lhs; whnf)
      case f45 => rfl
      have g1 : w.heap.size ≤ b1 := by have := hx.size; omega
      replace hx := hx.trans x1
      refine D_callP rfl (by kernel_rfl) (sub_w 4 s [s, []] _ _ (hg.ext hx) (m1.arr (enc := sEnc) (sz := 1) (l := [s, []]) rfl (by intro x; rfl) rfl (by simp)) (by omega) (by intro p hp; simp only [List.mem_cons, List.not_mem_nil, or_false] at hp; rcases hp with rfl | rfl <;> first | omega | (simp; done) | (simp; omega))) rfl RX.all (fun w2 x2 => ?_)
      replace m1 := m1.ext x2
      replace hx := hx.trans x2
      refine dm ?_
      refine dp (pv_ext rfl rfl) ?_
      refine dp (pv_ext rfl rfl) ?_
      iterate 2 refine da ?_
      refine D_end (hK9 _ _ ?_)
      refine W_seq fun K10 hK10 => ?_
      refine wr ?_
      iterate 2 refine dm ?_
      refine D_lit (e := 9) (sz := 1) (zs := [S []]) (pv := [(0, ?a51_0), (1, ?a51_1)]) (cs := [?a51_0, ?a51_1]) rfl (by kernel_rfl) ⟨rfl, rfl⟩ (by kernel_rfl) rfl ?h51 ?f51 RX.all (fun b2 w3 e2 x3 m2 => ?k51)
      case h51 => refine ⟨rfl, ?_, rfl, ?_, trivial⟩ <;> (conv => lhs; whnf)
      case f51 => rfl
      have g2 : w.heap.size ≤ b2 := by have := hx.size; omega
      have n2_1 : b1 < b2 := by have := m1.lt; omega
      replace m1 := m1.ext x3
      replace hx := hx.trans x3
      refine D_callP rfl (by kernel_rfl) (sub_w 4 s [[], s] _ _ (hg.ext hx) (m2.arr (enc := sEnc) (sz := 1) (l := [[], s]) rfl (by intro x; rfl) rfl (by simp)) (by omega) (by intro p hp; simp only [List.mem_cons, List.not_mem_nil, or_false] at hp; rcases hp with rfl | rfl <;> first | omega | (simp; done) | (simp; omega))) rfl RX.all (fun w4 x4 => ?_)
      replace m1 := m1.ext x4
      replace m2 := m2.ext x4
      replace hx := hx.trans x4
      refine dm ?_
      refine dp (pv_ext rfl rfl) ?_
      refine dp (pv_ext rfl rfl) ?_
      iterate 2 refine da ?_
      refine D_end (hK10 _ _ ?_)
      refine W_seq fun K11 hK11 => ?_
      refine wr ?_
      iterate 4 refine dm ?_
      refine dpw (pv_slS (by kernel_rfl) rfl rfl rfl (by omega) (by omega)) ?_
      refine D_lit (e := 9) (sz := 1) (zs := [S []]) (pv := [(0, ?a60_0), (1, ?a60_1), (2, ?a60_2)]) (cs := [?a60_0, ?a60_1, ?a60_2]) rfl (by kernel_rfl) ⟨rfl, rfl⟩ (by kernel_rfl) rfl ?h60 ?f60 RX.all (fun b3 w5 e3 x5 m3 => ?k60)
      case h60 => refine ⟨rfl, ?_, rfl, ?_, rfl, ?_, trivial⟩ <;> (conv => lhs; whnf)
      case f60 => rfl
      have g3 : w.heap.size ≤ b3 := by have := hx.size; omega
      have n3_1 : b1 < b3 := by have := m1.lt; omega
      have n3_2 : b2 < b3 := by have := m2.lt; omega
      replace m1 := m1.ext x5
      replace m2 := m2.ext x5
      replace hx := hx.trans x5
      refine D_callP rfl (by kernel_rfl) (sub_w 4 s [[], (s.take j).drop i, []] _ _ (hg.ext hx) (m3.arr (enc := sEnc) (sz := 1) (l := [[], (s.take j).drop i, []]) rfl (by intro x; rfl) rfl (by simp)) (by omega) (by intro p hp; simp only [List.mem_cons, List.not_mem_nil, or_false] at hp; rcases hp with rfl | rfl | rfl <;> first | omega | (simp; done) | (simp; omega))) rfl RX.all (fun w6 x6 => ?_)
      replace m1 := m1.ext x6
      replace m2 := m2.ext x6
      replace m3 := m3.ext x6
      replace hx := hx.trans x6
      refine dm ?_
      refine dp (pv_ext rfl rfl) ?_
      refine dp (pv_ext rfl rfl) ?_
      iterate 2 refine da ?_
      refine D_end (hK11 _ _ ?_)
      refine W_seq fun K12 hK12 => ?_
      refine wr ?_
      iterate 2 refine dm ?_
      refine D_lit (e := 9) (sz := 1) (zs := [S []]) (pv := [(0, ?a66_0), (1, ?a66_1)]) (cs := [?a66_0, ?a66_1]) rfl (by kernel_rfl) ⟨rfl, rfl⟩ (by kernel_rfl) rfl ?h66 ?f66 RX.all (fun b4 w7 e4 x7 m4 => ?k66)
      case h66 => refine ⟨rfl, ?_, rfl, ?_, trivial⟩ <;> (conv => lhs; whnf)
      case f66 => rfl
      have g4 : w.heap.size ≤ b4 := by have := hx.size; omega
      have n4_1 : b1 < b4 := by have := m1.lt; omega
      have n4_2 : b2 < b4 := by have := m2.lt; omega
      have n4_3 : b3 < b4 := by have := m3.lt; omega
      replace m1 := m1.ext x7
      replace m2 := m2.ext x7
      replace m3 := m3.ext x7
      replace hx := hx.trans x7
      refine D_callP rfl (by kernel_rfl) (sub_w 4 s [s, [120]] _ _ (hg.ext hx) (m4.arr (enc := sEnc) (sz := 1) (l := [s, [120]]) rfl (by intro x; rfl) rfl (by simp)) (by omega) (by intro p hp; simp only [List.mem_cons, List.not_mem_nil, or_false] at hp; rcases hp with rfl | rfl <;> first | omega | (simp; done) | (simp; omega))) rfl RX.all (fun w8 x8 => ?_)
      replace m1 := m1.ext x8
      replace m2 := m2.ext x8
      replace m3 := m3.ext x8
      replace m4 := m4.ext x8
      replace hx := hx.trans x8
      refine dm ?_
      refine dp (pv_ext rfl rfl) ?_
      refine dp (pv_ext rfl rfl) ?_
      iterate 2 refine da ?_
      refine D_end (hK12 _ _ ?_)
      refine W_seq fun K13 hK13 => ?_
      refine wr ?_
      iterate 2 refine dm ?_
      refine D_split 70 rfl (fun c6 => ?_) (fun c6 => ?_)
      ·
       refine dm ?_
       refine dk' ?_
       refine dm ?_
       refine D_split 73 rfl (fun c7 => ?_) (fun c7 => ?_)
       ·
        refine dm ?_
        refine dk' ?_
        refine dm ?_
        refine D_split 76 rfl (fun c8 => ?_) (fun c8 => ?_)
        ·
         refine dm ?_
         refine dk' ?_
         refine dm ?_
         refine D_split 79 rfl (fun c9 => ?_) (fun c9 => ?_)
         ·
          refine dm ?_
          refine dk' ?_
          refine dm ?_
          refine D_split 82 rfl (fun c10 => ?_) (fun c10 => ?_)
          ·
           refine dm ?_
           refine dk' ?_
           refine dm ?_
           refine D_split 85 rfl (fun c11 => ?_) (fun c11 => ?_)
           ·
            refine dm ?_
            refine dn ?_
            refine dk' ?_
            refine dm ?_
            refine D_split 89 rfl (fun c12 => ?_) (fun c12 => ?_)
            ·
             refine dm ?_
             refine dk' ?_
             refine dm ?_
             refine D_split 92 rfl (fun c13 => ?_) (fun c13 => ?_)
             ·
              refine D_callP rfl (by kernel_rfl) (known_w _ (hg.ext hx)) rfl RX.all (fun w9 x9 => ?_)
              replace m1 := m1.ext x9
              replace m2 := m2.ext x9
              replace m3 := m3.ext x9
              replace m4 := m4.ext x9
              replace hx := hx.trans x9
              refine dk' ?_
              refine da ?_
              refine D_end (hK13 _ _ ?_)
              refine W_ret ?_
              try dsimp only [then', inBlk, noGo]
              refine ro ?_
              exact ⟨rfl, hx⟩
             ·
              rw [q4] at c13; cases c13
            ·
             rw [q4] at c12; cases c12
           ·
            rw [q3] at c11; cases c11
          ·
           rw [q3] at c10; cases c10
         ·
          rw [q2] at c9; cases c9
        ·
         rw [q2] at c8; cases c8
       ·
        rw [q1] at c7; cases c7
      ·
       rw [q1] at c6; cases c6

end Go.Proofs.YtcjjjmhhpejdoaaDoor
