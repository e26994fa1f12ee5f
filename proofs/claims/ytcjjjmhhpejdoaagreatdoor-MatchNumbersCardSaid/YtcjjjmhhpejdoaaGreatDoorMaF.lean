/-
  Walks.
-/
import Derived.Test.YtcjjjmhhpejdoaaGreatDoorChecked
import Derived.Test.YtcjjjmhhpejdoaaGreatDoorSpMem
import Derived.KernelRfl
import Derived.Test.YtcjjjmhhpejdoaaGreatDoorMaE
import Derived.Test.YtcjjjmhhpejdoaaGreatDoorSpMo
namespace Go.Proofs.YtcjjjmhhpejdoaaGreatDoor
open Go.Vc Go.Sp
attribute [local irreducible] W XW Dw DwT
set_option linter.unusedVariables false
set_option linter.unusedSimpArgs false

theorem dec_first {v : Nat} {s t : Str} (h : decT v ++ s = t) (hv : v < 10) : [digT v] ++ s = t := by rw [← h, decT_small hv]
theorem dec_next {v : Nat} {s t : Str} (h : decT v ++ s = t) (hv : ¬ v < 10) : decT (v / 10) ++ ([digT v] ++ s) = t := by rw [← h, decT_more hv, List.append_assoc]
theorem lessT_w (a b : Str) (w : World) (hg : GV w) (ha : numB a = true) (hb : numB b = true) (hla : a.length ≤ 256) (hlb : b.length ≤ 256) : Calls Tryz.prog 35 [I 2, S a, S b].toArray w (Pure w (.tuple #[B (decide (numV a < numV b)), B true])) := by
  have h := less_w 2 a b w hg (by omega) (by omega)
  rwa [less_nums ha hb hla hlb] at h
theorem equalT_w (a b : Str) (w : World) (hg : GV w) (ha : numB a = true) (hb : numB b = true) (hla : a.length ≤ 256) (hlb : b.length ≤ 256) : Calls Tryz.prog 37 [I 2, S a, S b].toArray w (Pure w (B (decide (numV a = numV b)))) := by
  have h := equalM_w 2 a b w hg (by omega) (by omega)
  rwa [equal_nums ha hb hla hlb] at h

set_option maxRecDepth 100000 in
set_option maxHeartbeats 1000000 in
theorem dec_w (n : Nat) (w : World) (hn : n ≤ 1125899906842624) :
  Calls Tryz.prog 38 [I ↑n].toArray w (Pure w (S (decT n))) := by
 refine calls_W Tryz.func38 rfl rfl rfl (by kernel_rfl) ?_
 have hx := Ext.refl w
 have hnl := (decT_num hn).2.2.1
 refine W_seq fun K1 hK1 => ?_
 refine wr ?_
 refine da ?_
 refine D_end (hK1 _ _ ?_)
 refine W_seq fun K2 hK2 => ?_
 refine wr ?_
 refine da ?_
 refine D_end (hK2 _ _ ?_)
 refine W_block ?_
 refine W_loop (G := Nat × Str) (fun (v, s) => [(0, I ↑v), (3, S s)]) (fun (v, s) w' => Ext w w' ∧ v ≤ n ∧ s.length ≤ 17 ∧ decT v ++ s = decT n) (fun (v, s) => v) (n, []) ?_ ?_ ?_
 ·
  exact ⟨rfl, rfl, trivial⟩
 ·
  exact ⟨hx, Nat.le_refl _, Nat.zero_le _, List.append_nil _⟩
 ·
  intro X1 g1 w1 hF1
  obtain ⟨v, s⟩ := g1
  clear hx
  obtain ⟨hx, hv, hs, hd⟩ := hF1
  refine W_block ?_
  refine W_seq fun K3 hK3 => ?_
  refine W_reg [.p, .p, .p, .p, .x, .l, .p, .p, .p] rfl ?_
  refine dm ?_
  refine D_pe (v := I ↑(v % 10)) rfl (pv_rem rfl rfl (by omega) (by omega)) (by show I _ = I _; congr 1) ?_
  refine D_pe (v := I ↑(48 + v % 10)) rfl (pv_add rfl rfl (by unfold inI64; omega)) (by show I _ = I _; congr 1) ?_
  refine dp (pv_toB rfl (by kernel_rfl) (by kernel_rfl)) ?_
  refine D_lit (e := 5) (sz := 1) (zs := [.int .u8 0]) (pv := [(0, ?a4_0)]) (cs := [?a4_0]) rfl (by kernel_rfl) ⟨rfl, rfl⟩ (by kernel_rfl) rfl ?h4 ?f4 RX.all (fun b1 w2 e1 x2 m1 => ?k4)
  case h4 => refine ⟨rfl, ?_, trivial⟩ <;> (conv => lhs; whnf)
  case f4 => rfl
  have g1 : w.heap.size ≤ b1 := by have := hx.size; omega
  replace hx := hx.trans x2
  refine dq (lv_b2s (by kernel_rfl) (by kernel_rfl) (m1.arr (enc := encB) (sz := 1) (l := [digT v]) rfl (by intro x; rfl) rfl (by simp)) rfl) ?_
  refine dm ?_
  refine dp (pv_scat rfl rfl (by simp; omega)) ?_
  refine da ?_
  refine D_end (hK3 _ _ ?_)
  refine W_seq fun K4 hK4 => ?_
  refine wr ?_
  refine dm ?_
  refine D_pe (v := I ↑(v / 10)) rfl (pv_quo rfl rfl (by omega) (by omega)) (by rw [wrap_i64 (by unfold inI64; omega)]; show I _ = I _; congr 1) ?_
  refine da ?_
  refine D_end (hK4 _ _ ?_)
  refine W_seq fun K5 hK5 => ?_
  refine wr ?_
  refine dm ?_
  refine dp (pv_eql rfl rfl) ?_
  refine D_end (hK5 _ _ ?_)
  refine W_if rfl (fun c1 => ?_) (fun c1 => ?_)
  ·
   refine W_seq fun K6 hK6 => ?_
   refine wr ?_
   refine dm ?_
   refine da ?_
   refine D_end (hK6 _ _ ?_)
   refine W_ret ?_
   try dsimp only [then', inBlk, noGo]
   refine ro ?_
   refine ⟨?_, hx⟩
   rw [← dec_first hd (by omega)]
  ·
   refine W_skip ?_
   have hv0 : ¬ v < 10 := by omega
   have hnx := dec_next hd hv0
   have hlx := congrArg List.length hnx
   simp only [List.length_append] at hlx
   refine ⟨(v / 10, [digT v] ++ s), ⟨rfl, rfl, trivial⟩, ⟨hx, by omega, by simp only [List.length_append]; omega, hnx⟩, by simp only []; omega⟩

set_option maxRecDepth 100000 in
set_option maxHeartbeats 1000000 in
theorem law_numbers (a b : Int) (w : World) (hg : GV w) :
  Calls Tryz.prog 10 [I a, I b].toArray w (Pure w (B true)) := by
 refine calls_W Tryz.func10 rfl rfl rfl (by kernel_rfl) ?_
 have hx := Ext.refl w
 refine W_seq fun K1 hK1 => ?_
 refine wr ?_
 refine da ?_
 refine D_end (hK1 _ _ ?_)
 refine W_seq fun K2 hK2 => ?_
 refine W_seq fun K3 hK3 => ?_
 refine wr ?_
 refine dm ?_
 refine dp (pv_lss rfl rfl) ?_
 refine dm ?_
 refine D_splitP 15 rfl (fun c1 => ?_) (fun c1 => ?_)
 ·
  iterate 2 refine dk ?_
  refine dk' ?_
  refine dm ?_
  iterate 2 refine dk ?_
  refine dk' ?_
  refine dm ?_
  iterate 2 refine dk ?_
  refine dk' ?_
  refine D_end (hK3 _ _ ?_)
  refine W_t rfl ?_
  refine W_seq fun K4 hK4 => ?_
  refine wr ?_
  refine D_callP rfl (by kernel_rfl) (known_w _ (hg.ext hx)) rfl RX.all (fun w1 x1 => ?_)
  replace hx := hx.trans x1
  refine da ?_
  refine D_end (hK4 _ _ ?_)
  refine W_ret ?_
  try dsimp only [then', inBlk, noGo]
  refine ro ?_
  first | exact ⟨rfl, hx⟩ | (exfalso; clear hx hg; simp only [hn2, hm2, hn6, hm6] at *; simp_all <;> omega) | (exfalso; clear hx hg; simp only [hn2, hm2] at *; simp_all <;> omega)
 ·
  refine dm ?_
  refine dp (pv_gtr rfl rfl) ?_
  refine dk' ?_
  refine dm ?_
  refine D_splitP 19 rfl (fun c2 => ?_) (fun c2 => ?_)
  ·
   iterate 2 refine dk ?_
   refine dk' ?_
   refine dm ?_
   iterate 2 refine dk ?_
   refine dk' ?_
   refine D_end (hK3 _ _ ?_)
   refine W_t rfl ?_
   refine W_seq fun K5 hK5 => ?_
   refine wr ?_
   refine D_callP rfl (by kernel_rfl) (known_w _ (hg.ext hx)) rfl RX.all (fun w2 x2 => ?_)
   replace hx := hx.trans x2
   refine da ?_
   refine D_end (hK5 _ _ ?_)
   refine W_ret ?_
   try dsimp only [then', inBlk, noGo]
   refine ro ?_
   first | exact ⟨rfl, hx⟩ | (exfalso; clear hx hg; simp only [hn2, hm2, hn6, hm6] at *; simp_all <;> omega) | (exfalso; clear hx hg; simp only [hn2, hm2] at *; simp_all <;> omega)
  ·
   refine dm ?_
   refine dp (pv_lss rfl rfl) ?_
   refine dk' ?_
   refine dm ?_
   refine D_splitP 23 rfl (fun c3 => ?_) (fun c3 => ?_)
   ·
    iterate 2 refine dk ?_
    refine dk' ?_
    refine D_end (hK3 _ _ ?_)
    refine W_t rfl ?_
    refine W_seq fun K6 hK6 => ?_
    refine wr ?_
    refine D_callP rfl (by kernel_rfl) (known_w _ (hg.ext hx)) rfl RX.all (fun w3 x3 => ?_)
    replace hx := hx.trans x3
    refine da ?_
    refine D_end (hK6 _ _ ?_)
    refine W_ret ?_
    try dsimp only [then', inBlk, noGo]
    refine ro ?_
    first | exact ⟨rfl, hx⟩ | (exfalso; clear hx hg; simp only [hn2, hm2, hn6, hm6] at *; simp_all <;> omega) | (exfalso; clear hx hg; simp only [hn2, hm2] at *; simp_all <;> omega)
   ·
    refine dm ?_
    refine dp (pv_gtr rfl rfl) ?_
    refine dk' ?_
    refine D_end (hK3 _ _ ?_)
    refine W_if rfl (fun c4 => ?_) (fun c4 => ?_)
    ·
     refine W_seq fun K7 hK7 => ?_
     refine wr ?_
     refine D_callP rfl (by kernel_rfl) (known_w _ (hg.ext hx)) rfl RX.all (fun w4 x4 => ?_)
     replace hx := hx.trans x4
     refine da ?_
     refine D_end (hK7 _ _ ?_)
     refine W_ret ?_
     try dsimp only [then', inBlk, noGo]
     refine ro ?_
     first | exact ⟨rfl, hx⟩ | (exfalso; clear hx hg; simp only [hn2, hm2, hn6, hm6] at *; simp_all <;> omega) | (exfalso; clear hx hg; simp only [hn2, hm2] at *; simp_all <;> omega)
    ·
     obtain ⟨n, rfl⟩ := Int.eq_ofNat_of_zero_le (show 0 ≤ a by omega)
     obtain ⟨m, rfl⟩ := Int.eq_ofNat_of_zero_le (show 0 ≤ b by omega)
     obtain ⟨hn1, hn2, hn3, hn4⟩ := decT_num (n := n) (by omega)
     obtain ⟨hm1, hm2, hm3, hm4⟩ := decT_num (n := m) (by omega)
     refine W_skip ?_
     refine hK2 _ _ ?_
     refine W_seq fun K8 hK8 => ?_
     refine wr ?_
     refine dm ?_
     refine D_callP rfl (by kernel_rfl) (dec_w n _ (by omega)) rfl RX.all (fun w5 x5 => ?_)
     replace hx := hx.trans x5
     refine dm ?_
     refine D_callP rfl (by kernel_rfl) (dec_w m _ (by omega)) rfl RX.all (fun w6 x6 => ?_)
     replace hx := hx.trans x6
     iterate 2 refine da ?_
     refine D_end (hK8 _ _ ?_)
     refine W_seq fun K9 hK9 => ?_
     refine wr ?_
     iterate 2 refine dm ?_
     refine D_callP rfl (by kernel_rfl) (lessT_w (decT n) (decT m) _ (hg.ext hx) hn1 hm1 (by first | omega | (simp only [List.length_cons]; omega)) (by first | omega | (simp only [List.length_cons]; omega))) rfl RX.all (fun w7 x7 => ?_)
     replace hx := hx.trans x7
     refine dm ?_
     refine dp (pv_ext rfl rfl) ?_
     refine dp (pv_ext rfl rfl) ?_
     iterate 2 refine da ?_
     refine D_end (hK9 _ _ ?_)
     refine W_seq fun K10 hK10 => ?_
     refine W_seq fun K11 hK11 => ?_
     refine wr ?_
     refine dm ?_
     refine dp (pv_gtr rfl rfl) ?_
     refine dm ?_
     refine D_splitP 40 rfl (fun c5 => ?_) (fun c5 => ?_)
     ·
      refine dm ?_
      refine dp (pv_gtr rfl rfl) ?_
      refine dk' ?_
      refine D_end (hK11 _ _ ?_)
      refine W_if rfl (fun c6 => ?_) (fun c6 => ?_)
      ·
       obtain ⟨hn5, hn6⟩ := hn4 (by omega)
       obtain ⟨hm5, hm6⟩ := hm4 (by omega)
       refine W_seq fun K12 hK12 => ?_
       refine wr ?_
       refine dm ?_
       refine dp (pv_scat rfl rfl (by simp; omega)) ?_
       refine dm ?_
       refine dp (pv_scat rfl rfl (by simp; omega)) ?_
       refine D_callP rfl (by kernel_rfl) (lessT_w (45 :: decT n) (45 :: decT m) _ (hg.ext hx) hn5 hm5 (by first | omega | (simp only [List.length_cons]; omega)) (by first | omega | (simp only [List.length_cons]; omega))) rfl RX.all (fun w8 x8 => ?_)
       replace hx := hx.trans x8
       refine dm ?_
       refine dp (pv_ext rfl rfl) ?_
       refine dp (pv_ext rfl rfl) ?_
       iterate 2 refine da ?_
       refine D_end (hK12 _ _ ?_)
       refine W_seq fun K13 hK13 => ?_
       refine wr ?_
       refine dm ?_
       refine dp (pv_scat rfl rfl (by simp; omega)) ?_
       refine dm ?_
       refine D_callP rfl (by kernel_rfl) (lessT_w (45 :: decT n) (decT m) _ (hg.ext hx) hn5 hm1 (by first | omega | (simp only [List.length_cons]; omega)) (by first | omega | (simp only [List.length_cons]; omega))) rfl RX.all (fun w9 x9 => ?_)
       replace hx := hx.trans x9
       refine dm ?_
       refine dp (pv_ext rfl rfl) ?_
       refine dp (pv_ext rfl rfl) ?_
       iterate 2 refine da ?_
       refine D_end (hK13 _ _ ?_)
       refine W_seq fun K14 hK14 => ?_
       refine wr ?_
       refine dm ?_
       refine dn ?_
       iterate 4 refine dm ?_
       refine dp (pv_gtr rfl rfl) ?_
       refine dp (pv_neB (by kernel_rfl) rfl rfl) ?_
       refine dk' ?_
       refine dm ?_
       refine D_splitP 68 rfl (fun c7 => ?_) (fun c7 => ?_)
       ·
        iterate 2 refine dk ?_
        refine dk' ?_
        refine dm ?_
        iterate 2 refine dk ?_
        refine dk' ?_
        refine D_end (hK14 _ _ ?_)
        refine W_t rfl ?_
        refine W_seq fun K15 hK15 => ?_
        refine wr ?_
        refine da ?_
        refine D_end (hK15 _ _ ?_)
        refine W_ret ?_
        try dsimp only [then', inBlk, noGo]
        refine ro ?_
        first | exact ⟨rfl, hx⟩ | (exfalso; clear hx hg; simp only [hn2, hm2, hn6, hm6] at *; simp_all <;> omega) | (exfalso; clear hx hg; simp only [hn2, hm2] at *; simp_all <;> omega)
       ·
        refine dm ?_
        refine dn ?_
        refine dk' ?_
        iterate 2 refine dm ?_
        refine dn ?_
        refine dk' ?_
        refine D_end (hK14 _ _ ?_)
        refine W_cond rfl (fun c8 => ?_) (fun c8 => ?_)
        ·
         refine W_seq fun K16 hK16 => ?_
         refine wr ?_
         refine da ?_
         refine D_end (hK16 _ _ ?_)
         refine W_ret ?_
         try dsimp only [then', inBlk, noGo]
         refine ro ?_
         first | exact ⟨rfl, hx⟩ | (exfalso; clear hx hg; simp only [hn2, hm2, hn6, hm6] at *; simp_all <;> omega) | (exfalso; clear hx hg; simp only [hn2, hm2] at *; simp_all <;> omega)
        ·
         refine W_skip ?_
         refine hK10 _ _ ?_
         refine W_seq fun K17 hK17 => ?_
         refine wr ?_
         iterate 5 refine dm ?_
         refine dp (pv_lss rfl rfl) ?_
         refine dp (pv_eqB (by kernel_rfl) rfl rfl) ?_
         refine dk' ?_
         refine dm ?_
         refine D_splitP 84 rfl (fun c9 => ?_) (fun c9 => ?_)
         ·
          iterate 2 refine dm ?_
          refine D_callP rfl (by kernel_rfl) (equalT_w (decT n) (decT m) _ (hg.ext hx) hn1 hm1 (by omega) (by omega)) rfl RX.all (fun w10 x10 => ?_)
          replace hx := hx.trans x10
          iterate 2 refine dm ?_
          refine dp (pv_eql rfl rfl) ?_
          refine dp (pv_eqB (by kernel_rfl) rfl rfl) ?_
          refine dk' ?_
          refine dm ?_
          refine D_splitP 93 rfl (fun c10 => ?_) (fun c10 => ?_)
          ·
           refine D_callP rfl (by kernel_rfl) (known_w _ (hg.ext hx)) rfl RX.all (fun w11 x11 => ?_)
           replace hx := hx.trans x11
           refine dk' ?_
           refine da ?_
           refine D_end (hK17 _ _ ?_)
           refine W_ret ?_
           try dsimp only [then', inBlk, noGo]
           refine ro ?_
           first | exact ⟨rfl, hx⟩ | (exfalso; clear hx hg; simp only [hn2, hm2, hn6, hm6] at *; simp_all <;> omega) | (exfalso; clear hx hg; simp only [hn2, hm2] at *; simp_all <;> omega)
          ·
           refine dk ?_
           refine dk' ?_
           refine da ?_
           refine D_end (hK17 _ _ ?_)
           refine W_ret ?_
           try dsimp only [then', inBlk, noGo]
           refine ro ?_
           first | exact ⟨rfl, hx⟩ | (exfalso; clear hx hg; simp only [hn2, hm2, hn6, hm6] at *; simp_all <;> omega) | (exfalso; clear hx hg; simp only [hn2, hm2] at *; simp_all <;> omega)
         ·
          iterate 7 refine dk ?_
          refine dk' ?_
          refine dm ?_
          refine dk ?_
          refine dk' ?_
          refine da ?_
          refine D_end (hK17 _ _ ?_)
          refine W_ret ?_
          try dsimp only [then', inBlk, noGo]
          refine ro ?_
          first | exact ⟨rfl, hx⟩ | (exfalso; clear hx hg; simp only [hn2, hm2, hn6, hm6] at *; simp_all <;> omega) | (exfalso; clear hx hg; simp only [hn2, hm2] at *; simp_all <;> omega)
      ·
       refine W_skip ?_
       refine hK10 _ _ ?_
       refine W_seq fun K18 hK18 => ?_
       refine wr ?_
       iterate 5 refine dm ?_
       refine dp (pv_lss rfl rfl) ?_
       refine dp (pv_eqB (by kernel_rfl) rfl rfl) ?_
       refine dk' ?_
       refine dm ?_
       refine D_splitP 84 rfl (fun c11 => ?_) (fun c11 => ?_)
       ·
        iterate 2 refine dm ?_
        refine D_callP rfl (by kernel_rfl) (equalT_w (decT n) (decT m) _ (hg.ext hx) hn1 hm1 (by omega) (by omega)) rfl RX.all (fun w12 x12 => ?_)
        replace hx := hx.trans x12
        iterate 2 refine dm ?_
        refine dp (pv_eql rfl rfl) ?_
        refine dp (pv_eqB (by kernel_rfl) rfl rfl) ?_
        refine dk' ?_
        refine dm ?_
        refine D_splitP 93 rfl (fun c12 => ?_) (fun c12 => ?_)
        ·
         refine D_callP rfl (by kernel_rfl) (known_w _ (hg.ext hx)) rfl RX.all (fun w13 x13 => ?_)
         replace hx := hx.trans x13
         refine dk' ?_
         refine da ?_
         refine D_end (hK18 _ _ ?_)
         refine W_ret ?_
         try dsimp only [then', inBlk, noGo]
         refine ro ?_
         first | exact ⟨rfl, hx⟩ | (exfalso; clear hx hg; simp only [hn2, hm2, hn6, hm6] at *; simp_all <;> omega) | (exfalso; clear hx hg; simp only [hn2, hm2] at *; simp_all <;> omega)
        ·
         refine dk ?_
         refine dk' ?_
         refine da ?_
         refine D_end (hK18 _ _ ?_)
         refine W_ret ?_
         try dsimp only [then', inBlk, noGo]
         refine ro ?_
         first | exact ⟨rfl, hx⟩ | (exfalso; clear hx hg; simp only [hn2, hm2, hn6, hm6] at *; simp_all <;> omega) | (exfalso; clear hx hg; simp only [hn2, hm2] at *; simp_all <;> omega)
       ·
        iterate 7 refine dk ?_
        refine dk' ?_
        refine dm ?_
        refine dk ?_
        refine dk' ?_
        refine da ?_
        refine D_end (hK18 _ _ ?_)
        refine W_ret ?_
        try dsimp only [then', inBlk, noGo]
        refine ro ?_
        first | exact ⟨rfl, hx⟩ | (exfalso; clear hx hg; simp only [hn2, hm2, hn6, hm6] at *; simp_all <;> omega) | (exfalso; clear hx hg; simp only [hn2, hm2] at *; simp_all <;> omega)
     ·
      iterate 2 refine dk ?_
      refine dk' ?_
      refine D_end (hK11 _ _ ?_)
      refine W_f rfl ?_
      refine W_skip ?_
      refine hK10 _ _ ?_
      refine W_seq fun K19 hK19 => ?_
      refine wr ?_
      iterate 5 refine dm ?_
      refine dp (pv_lss rfl rfl) ?_
      refine dp (pv_eqB (by kernel_rfl) rfl rfl) ?_
      refine dk' ?_
      refine dm ?_
      refine D_splitP 84 rfl (fun c13 => ?_) (fun c13 => ?_)
      ·
       iterate 2 refine dm ?_
       refine D_callP rfl (by kernel_rfl) (equalT_w (decT n) (decT m) _ (hg.ext hx) hn1 hm1 (by omega) (by omega)) rfl RX.all (fun w14 x14 => ?_)
       replace hx := hx.trans x14
       iterate 2 refine dm ?_
       refine dp (pv_eql rfl rfl) ?_
       refine dp (pv_eqB (by kernel_rfl) rfl rfl) ?_
       refine dk' ?_
       refine dm ?_
       refine D_splitP 93 rfl (fun c14 => ?_) (fun c14 => ?_)
       ·
        refine D_callP rfl (by kernel_rfl) (known_w _ (hg.ext hx)) rfl RX.all (fun w15 x15 => ?_)
        replace hx := hx.trans x15
        refine dk' ?_
        refine da ?_
        refine D_end (hK19 _ _ ?_)
        refine W_ret ?_
        try dsimp only [then', inBlk, noGo]
        refine ro ?_
        first | exact ⟨rfl, hx⟩ | (exfalso; clear hx hg; simp only [hn2, hm2, hn6, hm6] at *; simp_all <;> omega) | (exfalso; clear hx hg; simp only [hn2, hm2] at *; simp_all <;> omega)
       ·
        refine dk ?_
        refine dk' ?_
        refine da ?_
        refine D_end (hK19 _ _ ?_)
        refine W_ret ?_
        try dsimp only [then', inBlk, noGo]
        refine ro ?_
        first | exact ⟨rfl, hx⟩ | (exfalso; clear hx hg; simp only [hn2, hm2, hn6, hm6] at *; simp_all <;> omega) | (exfalso; clear hx hg; simp only [hn2, hm2] at *; simp_all <;> omega)
      ·
       iterate 7 refine dk ?_
       refine dk' ?_
       refine dm ?_
       refine dk ?_
       refine dk' ?_
       refine da ?_
       refine D_end (hK19 _ _ ?_)
       refine W_ret ?_
       try dsimp only [then', inBlk, noGo]
       refine ro ?_
       first | exact ⟨rfl, hx⟩ | (exfalso; clear hx hg; simp only [hn2, hm2, hn6, hm6] at *; simp_all <;> omega) | (exfalso; clear hx hg; simp only [hn2, hm2] at *; simp_all <;> omega)

end Go.Proofs.YtcjjjmhhpejdoaaGreatDoor
