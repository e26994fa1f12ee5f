/-
  Walks.
-/
import Derived.Test.YteninjhmmjkckaaGreatDoorChecked
import Derived.Test.YteninjhmmjkckaaGreatDoorSpMem
import Derived.KernelRfl
import Derived.Test.YteninjhmmjkckaaGreatDoorLoB
namespace Go.Proofs.YteninjhmmjkckaaGreatDoor
open Go.Vc Go.Sp
attribute [local irreducible] W XW Dw DwT
set_option linter.unusedVariables false
set_option linter.unusedSimpArgs false

/-- A tree of nothing. -/
structure TrE (w : World) (bt bs bd bl mo bm ba bn mf : Nat) (room : Int) (vs : Value) : Prop where
  t : Blk w bt [ptr bs 0, vs] 62
  s : StE w bs bd bl mo bm ba bn mf room
theorem TrE.ext {w w' : World} {bt bs bd bl mo bm ba bn mf : Nat} {room : Int} {vs : Value} (h : TrE w bt bs bd bl mo bm ba bn mf room vs) (x : Ext w w') : TrE w' bt bs bd bl mo bm ba bn mf room vs := ⟨h.t.ext x, h.s.ext x⟩

set_option maxRecDepth 100000 in
set_option maxHeartbeats 1000000 in
theorem insC_w (v g : Value) (w : World) :
  Calls Tryz.prog 274 [v, I 0, I 0, g].toArray w (Pure w (.tuple #[])) := by
 refine calls_W Tryz.func274 rfl rfl rfl (by kernel_rfl) ?_
 have hx := Ext.refl w
 refine W_seq fun K1 hK1 => ?_
 refine wr ?_
 refine dm ?_
 refine dp (pv_add rfl rfl (by unfold inI64; omega)) ?_
 refine da ?_
 refine D_end (hK1 _ _ ?_)
 refine W_block ?_
 refine W_loop (G := Unit) (fun uu => [(0, v), (1, I 0), (2, I 0), (3, g), (8, I 1)]) (fun uu w' => Ext w w' ∧ True) (fun uu => 0) () ?_ ?_ ?_
 ·
  exact ⟨rfl, rfl, rfl, rfl, rfl, trivial⟩
 ·
  exact ⟨hx, trivial⟩
 ·
  intro X1 g1 w1 hF1
  revert hF1; revert g1; intro uu hF1
  clear hx
  obtain ⟨hx, htr⟩ := hF1
  refine W_seq fun K2 hK2 => ?_
  refine W_seq fun K3 hK3 => ?_
  refine wr ?_
  iterate 2 refine dm ?_
  refine dp (pv_lss rfl rfl) ?_
  refine D_end (hK3 _ _ ?_)
  refine W_if rfl (fun c1 => ?_) (fun c1 => ?_)
  ·
   exact absurd c1 (by decide)
  ·
   refine W_exit ?_
   refine norm_ret ?_
   try dsimp only [then', inBlk, noGo]
   refine ret_none rfl ?_
   exact ⟨rfl, hx⟩

set_option maxRecDepth 100000 in
set_option maxHeartbeats 1000000 in
theorem stableC_w (v g : Value) (w : World) :
  Calls Tryz.prog 196 [v, I 0, g].toArray w (Pure w (.tuple #[])) := by
 refine calls_W Tryz.func196 rfl rfl rfl (by kernel_rfl) ?_
 have hx := Ext.refl w
 refine W_seq fun K1 hK1 => ?_
 refine wr ?_
 refine da ?_
 refine D_end (hK1 _ _ ?_)
 refine W_seq fun K2 hK2 => ?_
 refine wr ?_
 refine dm ?_
 iterate 2 refine da ?_
 refine D_end (hK2 _ _ ?_)
 refine W_seq fun K3 hK3 => ?_
 refine W_block ?_
 refine W_loop (G := Unit) (fun uu => [(0, v), (1, I 0), (2, g), (6, I 20), (7, I 0), (8, I 20)]) (fun uu w' => Ext w w' ∧ True) (fun uu => 0) () ?_ ?_ ?_
 ·
  exact ⟨rfl, rfl, rfl, rfl, rfl, rfl, trivial⟩
 ·
  exact ⟨hx, trivial⟩
 ·
  intro X1 g1 w1 hF1
  revert hF1; revert g1; intro uu hF1
  clear hx
  obtain ⟨hx, htr⟩ := hF1
  refine W_seq fun K4 hK4 => ?_
  refine W_seq fun K5 hK5 => ?_
  refine wr ?_
  iterate 2 refine dm ?_
  refine dp (pv_leq rfl rfl) ?_
  refine D_end (hK5 _ _ ?_)
  refine W_if rfl (fun c1 => ?_) (fun c1 => ?_)
  ·
   exact absurd c1 (by decide)
  ·
   refine W_exit ?_
   refine hK3 _ _ ?_
   refine W_seq fun K6 hK6 => ?_
   refine wr ?_
   iterate 4 refine dm ?_
   refine D_callP rfl (by kernel_rfl) (insC_w v g _) rfl RX.all (fun w2 x2 => ?_)
   replace hx := hx.trans x2
   refine D_end (hK6 _ _ ?_)
   refine W_block ?_
   refine W_loop (G := Unit) (fun uu => [(0, v), (1, I 0), (2, g), (6, I 20)]) (fun uu w' => Ext w w' ∧ True) (fun uu => 0) () ?_ ?_ ?_
   ·
    exact ⟨rfl, rfl, rfl, rfl, trivial⟩
   ·
    exact ⟨hx, trivial⟩
   ·
    intro X3 g3 w3 hF3
    revert hF3; revert g3; intro uu hF3
    clear hx
    obtain ⟨hx, htr⟩ := hF3
    refine W_seq fun K7 hK7 => ?_
    refine W_seq fun K8 hK8 => ?_
    refine wr ?_
    iterate 2 refine dm ?_
    refine dp (pv_lss rfl rfl) ?_
    refine D_end (hK8 _ _ ?_)
    refine W_if rfl (fun c2 => ?_) (fun c2 => ?_)
    ·
     exact absurd c2 (by decide)
    ·
     refine W_exit ?_
     refine norm_ret ?_
     try dsimp only [then', inBlk, noGo]
     refine ret_none rfl ?_
     exact ⟨rfl, hx⟩

set_option maxRecDepth 100000 in
set_option maxHeartbeats 1000000 in
theorem sortC_w (v g : Value) (w : World) (hv : Arr Cell.cs 4 w v []) :
  Calls Tryz.prog 115 [v, g].toArray w (Pure w (.tuple #[])) := by
 refine calls_W Tryz.func115 rfl rfl rfl (by kernel_rfl) ?_
 have hx := Ext.refl w
 refine wr ?_
 iterate 2 refine dm ?_
 refine dp (pv_lenV (e := 104) (k := 4) (by kernel_rfl) hv.sl rfl) ?_
 refine dm ?_
 refine D_callP rfl (by kernel_rfl) (stableC_w v g _) rfl RX.all (fun w1 x1 => ?_)
 replace hx := hx.trans x1
 refine D_end (?_)
 refine norm_ret ?_
 try dsimp only [then', inBlk, noGo]
 refine ret_none rfl ?_
 exact ⟨rfl, hx⟩

set_option maxRecDepth 100000 in
set_option maxHeartbeats 1000000 in
theorem compC_w (v g : Value) (w : World) (hv : Arr Cell.cs 4 w v []) :
  Calls Tryz.prog 118 [v, g].toArray w (Pure w v) := by
 refine calls_W Tryz.func118 rfl rfl rfl (by kernel_rfl) ?_
 have hx := Ext.refl w
 refine W_seq fun K1 hK1 => ?_
 refine wr ?_
 refine da ?_
 refine D_end (hK1 _ _ ?_)
 refine W_seq fun K2 hK2 => ?_
 refine W_seq fun K3 hK3 => ?_
 refine wr ?_
 refine dm ?_
 refine dp (pv_lenV (e := 104) (k := 4) (by kernel_rfl) hv.sl rfl) ?_
 refine dp (pv_lss rfl rfl) ?_
 refine D_end (hK3 _ _ ?_)
 refine W_if rfl (fun c1 => ?_) (fun c1 => ?_)
 ·
  refine W_seq fun K4 hK4 => ?_
  refine wr ?_
  refine dm ?_
  refine da ?_
  refine D_end (hK4 _ _ ?_)
  refine W_ret ?_
  try dsimp only [then', inBlk, noGo]
  refine ro ?_
  exact ⟨rfl, hx⟩
 ·
  exact absurd (by simp) c1

set_option maxRecDepth 100000 in
set_option maxHeartbeats 1000000 in
theorem growC_w (w : World) :
  Calls Tryz.prog 195 [.slice none 0 0, I 0].toArray w (Pure w (.slice none 0 0)) := by
 refine calls_W Tryz.func195 rfl rfl rfl (by kernel_rfl) ?_
 have hx := Ext.refl w
 refine W_seq fun K1 hK1 => ?_
 refine wr ?_
 refine da ?_
 refine D_end (hK1 _ _ ?_)
 refine W_seq fun K2 hK2 => ?_
 refine W_seq fun K3 hK3 => ?_
 refine wr ?_
 refine dm ?_
 refine dp (pv_lss rfl rfl) ?_
 refine D_end (hK3 _ _ ?_)
 refine W_if rfl (fun c1 => ?_) (fun c1 => ?_)
 ·
  exact absurd c1 (by decide)
 ·
  refine W_skip ?_
  refine hK2 _ _ ?_
  refine W_seq fun K4 hK4 => ?_
  refine W_seq fun K5 hK5 => ?_
  refine wr ?_
  iterate 2 refine dm ?_
  refine dp (pv_capN (e := 104) (k := 4) (by kernel_rfl) rfl) ?_
  refine dm ?_
  refine dp (pv_lenV (e := 104) (k := 4) (by kernel_rfl) (Arr.nil (enc := Cell.cs) (sz := 4) (w := w)).sl rfl) ?_
  refine dp (pv_sub (a := 0) (b := 0) rfl rfl (by simp [inI64])) ?_
  refine dp (pv_sub rfl rfl (by unfold inI64; omega)) ?_
  refine da ?_
  refine D_end (hK5 _ _ ?_)
  refine W_seq fun K6 hK6 => ?_
  refine wr ?_
  refine dm ?_
  refine dp (pv_gtr rfl rfl) ?_
  refine D_end (hK6 _ _ ?_)
  refine W_if rfl (fun c2 => ?_) (fun c2 => ?_)
  ·
   exact absurd c2 (by decide)
  ·
   refine W_skip ?_
   refine hK4 _ _ ?_
   refine W_seq fun K7 hK7 => ?_
   refine wr ?_
   refine dm ?_
   refine da ?_
   refine D_end (hK7 _ _ ?_)
   refine W_ret ?_
   try dsimp only [then', inBlk, noGo]
   refine ro ?_
   exact ⟨rfl, hx⟩

set_option maxRecDepth 100000 in
set_option maxHeartbeats 1000000 in
theorem concatC_w (b : Nat) (w : World) (hv : Arr (fun x : Value => [x]) 1 w (.slice (some ⟨b, 0, none⟩) 1 1) [.slice none 0 0]) :
  Calls Tryz.prog 114 [.slice (some ⟨b, 0, none⟩) 1 1].toArray w (Gives w (fun u w' => Arr Cell.cs 4 w' u [])) := by
 refine calls_W Tryz.func114 rfl rfl rfl (by kernel_rfl) ?_
 have hx := Ext.refl w
 refine W_seq fun K1 hK1 => ?_
 refine wr ?_
 refine da ?_
 refine D_end (hK1 _ _ ?_)
 refine W_seq fun K2 hK2 => ?_
 refine wr ?_
 refine da ?_
 refine D_end (hK2 _ _ ?_)
 refine W_seq fun K3 hK3 => ?_
 refine W_seq fun K4 hK4 => ?_
 refine wr ?_
 refine dm ?_
 refine dp (pv_lenV (e := 132) (k := 1) (by kernel_rfl) hv.sl rfl) ?_
 refine dm ?_
 refine D_end (hK4 _ _ ?_)
 refine W_block ?_
 refine W_loop (G := Nat) (fun k => [(0, .slice (some ⟨b, 0, none⟩) 1 1), (2, .slice none 0 0), (3, I 0), (9, .slice (some ⟨b, 0, none⟩) 1 1), (10, I 1), (11, I ↑k)]) (fun k w' => Ext w w' ∧ k ≤ 1) (fun k => 1 - k) 0 ?_ ?_ ?_
 ·
  exact ⟨rfl, rfl, rfl, rfl, rfl, rfl, trivial⟩
 ·
  exact ⟨hx, Nat.zero_le _⟩
 ·
  intro X1 g1 w1 hF1
  revert hF1; revert g1; intro k hF1
  clear hx
  obtain ⟨hx, hk1⟩ := hF1
  refine W_seq fun K5 hK5 => ?_
  refine wr ?_
  refine dp (pv_lss rfl rfl) ?_
  refine D_end (hK5 _ _ ?_)
  refine W_seq fun K6 hK6 => ?_
  refine W_if rfl (fun c1 => ?_) (fun c1 => ?_)
  ·
   have hk : [(.slice none 0 0 : Value)][k]? = some (.slice none 0 0) := by
    have e : k = 0 := by omega
    subst e; rfl
   refine W_skip ?_
   refine hK6 _ _ ?_
   refine W_seq fun K7 hK7 => ?_
   refine W_block ?_
   refine W_seq fun K8 hK8 => ?_
   refine wr ?_
   refine dp (pv_idxA (e := 132) (k := 1) (by kernel_rfl) hv.sl rfl rfl (hv.lt hk)) ?_
   refine dq (lv_load (by kernel_rfl) rfl (((hv.ext hx).row hk).at0 rfl)) ?_
   refine da ?_
   refine D_end (hK8 _ _ ?_)
   refine W_seq fun K9 hK9 => ?_
   refine wr ?_
   iterate 2 refine dm ?_
   refine dp (pv_lenV (e := 104) (k := 4) (by kernel_rfl) (Arr.nil (enc := Cell.cs) (sz := 4) (w := w)).sl rfl) ?_
   refine dp (pv_add (a := 0) (b := 0) rfl rfl (by simp [inI64])) ?_
   refine da ?_
   refine D_end (hK9 _ _ ?_)
   refine W_seq fun K10 hK10 => ?_
   refine wr ?_
   refine dm ?_
   refine dp (pv_lss rfl rfl) ?_
   refine D_end (hK10 _ _ ?_)
   refine W_if rfl (fun c2 => ?_) (fun c2 => ?_)
   ·
    exact absurd c2 (by decide)
   ·
    refine W_skip ?_
    refine hK7 _ _ ?_
    refine wr ?_
    refine dp (pv_add rfl rfl (by unfold inI64; omega)) ?_
    refine dm ?_
    refine D_end (?_)
    refine ⟨k + 1, ⟨rfl, rfl, rfl, rfl, rfl, rfl, trivial⟩, ⟨hx, by omega⟩, by omega⟩
  ·
   refine W_exit ?_
   refine hK3 _ _ ?_
   refine W_seq fun K11 hK11 => ?_
   refine wr ?_
   refine dm ?_
   refine D_callP rfl (by kernel_rfl) (growC_w _) rfl RX.all (fun w2 x2 => ?_)
   replace hx := hx.trans x2
   refine da ?_
   refine D_end (hK11 _ _ ?_)
   refine W_seq fun K12 hK12 => ?_
   refine W_seq fun K13 hK13 => ?_
   refine wr ?_
   refine dm ?_
   refine dp (pv_lenV (e := 132) (k := 1) (by kernel_rfl) hv.sl rfl) ?_
   refine dm ?_
   refine D_end (hK13 _ _ ?_)
   refine W_block ?_
   refine W_loop (G := Nat × Value) (fun (k, vo) => [(2, .slice none 0 0), (6, vo), (25, .slice (some ⟨b, 0, none⟩) 1 1), (26, I 1), (27, I ↑k)]) (fun (k, vo) w' => Ext w w' ∧ k ≤ 1 ∧ Vc.Own Cell.cs 4 104 w.heap.size w' vo []) (fun (k, vo) => 1 - k) (0, .slice none 0 0) ?_ ?_ ?_
   ·
    exact ⟨rfl, rfl, rfl, rfl, rfl, trivial⟩
   ·
    exact ⟨hx, Nat.zero_le _, Vc.Own.nil⟩
   ·
    intro X3 g3 w3 hF3
    obtain ⟨k, vo⟩ := g3
    clear hx
    obtain ⟨hx, hk1, ho⟩ := hF3
    refine W_seq fun K14 hK14 => ?_
    refine wr ?_
    refine dp (pv_lss rfl rfl) ?_
    refine D_end (hK14 _ _ ?_)
    refine W_seq fun K15 hK15 => ?_
    refine W_if rfl (fun c3 => ?_) (fun c3 => ?_)
    ·
     have hk : [(.slice none 0 0 : Value)][k]? = some (.slice none 0 0) := by
      have e : k = 0 := by omega
      subst e; rfl
     refine W_skip ?_
     refine hK15 _ _ ?_
     refine W_seq fun K16 hK16 => ?_
     refine W_block ?_
     refine W_seq fun K17 hK17 => ?_
     refine wr ?_
     refine dp (pv_idxA (e := 132) (k := 1) (by kernel_rfl) hv.sl rfl rfl (hv.lt hk)) ?_
     refine dq (lv_load (by kernel_rfl) rfl (((hv.ext hx).row hk).at0 rfl)) ?_
     refine da ?_
     refine D_end (hK17 _ _ ?_)
     refine wr ?_
     iterate 2 refine dm ?_
     refine D_append (lx := []) (e := 104) (sz := 4) (by' := 48) rfl (by kernel_rfl) (by kernel_rfl) (by intro x; rfl) ho ((Arr.nil (enc := Cell.cs) (sz := 4) )) rfl rfl (by intro x hx; cases hx) (by simp) (by decide) hx.size (.inl rfl) (fun vo2 w4 ho_n x4 => ?_)
     replace hx := hx.own x4 (fun i hi => (ho.lt i hi).1)
     replace ho := ho_n
     refine da ?_
     refine D_end (hK16 _ _ ?_)
     refine wr ?_
     refine dp (pv_add rfl rfl (by unfold inI64; omega)) ?_
     refine dm ?_
     refine D_end (?_)
     refine ⟨(k + 1, vo2), ⟨rfl, rfl, rfl, rfl, rfl, trivial⟩, ⟨hx, by omega, ho⟩, by simp only []; omega⟩
    ·
     refine W_exit ?_
     refine hK12 _ _ ?_
     refine W_seq fun K18 hK18 => ?_
     refine wr ?_
     refine dm ?_
     refine da ?_
     refine D_end (hK18 _ _ ?_)
     refine W_ret ?_
     try dsimp only [then', inBlk, noGo]
     refine ro ?_
     exact ⟨_, rfl, hx, ho.arr (by intro x; rfl)⟩

set_option maxRecDepth 100000 in
set_option maxHeartbeats 1000000 in
theorem mergedE_w (b : Nat) (w : World) (hv : Arr (fun x : Value => [x]) 1 w (.slice (some ⟨b, 0, none⟩) 1 1) [.slice none 0 0]) :
  Calls Tryz.prog 58 [.slice (some ⟨b, 0, none⟩) 1 1].toArray w (Gives w (fun u w' => Arr Cell.cs 4 w' u [])) := by
 refine calls_W Tryz.func58 rfl rfl rfl (by kernel_rfl) ?_
 have hx := Ext.refl w
 refine W_seq fun K1 hK1 => ?_
 refine wr ?_
 refine da ?_
 refine D_end (hK1 _ _ ?_)
 refine W_seq fun K2 hK2 => ?_
 refine wr ?_
 refine dm ?_
 refine D_callG rfl (by kernel_rfl) (concatC_w b _ (hv.ext hx)) rfl RX.all (fun vo w1 x1 ho => ?_)
 have hsz1 := hx.size
 replace hx := hx.trans x1
 refine da ?_
 refine D_end (hK2 _ _ ?_)
 refine W_seq fun K3 hK3 => ?_
 refine wr ?_
 refine dm ?_
 refine D_callP rfl (by kernel_rfl) (sortC_w vo _ _ ho) rfl RX.all (fun w2 x2 => ?_)
 replace ho := ho.ext x2
 replace hx := hx.trans x2
 refine D_end (hK3 _ _ ?_)
 refine W_seq fun K4 hK4 => ?_
 refine wr ?_
 refine dm ?_
 refine D_callP rfl (by kernel_rfl) (compC_w vo _ _ ho) rfl RX.all (fun w3 x3 => ?_)
 replace ho := ho.ext x3
 replace hx := hx.trans x3
 refine da ?_
 refine D_end (hK4 _ _ ?_)
 refine W_ret ?_
 try dsimp only [then', inBlk, noGo]
 refine ro ?_
 exact ⟨_, rfl, hx, ho⟩

set_option maxRecDepth 100000 in
set_option maxHeartbeats 1000000 in
theorem scanE_w (bs bd bl mo bm ba bn mf : Nat) (room : Int) (s : Str) (w : World) (hs : StE w bs bd bl mo bm ba bn mf room) :
  Calls Tryz.prog 26 [ptr bs 0, S s, S [], I 0].toArray w (Pure w (.slice none 0 0)) := by
 refine calls_W Tryz.func26 rfl rfl rfl (by kernel_rfl) ?_
 have hx := Ext.refl w
 have hb := hs.s
 have hv := hs.o.val
 refine W_seq fun K1 hK1 => ?_
 refine wr ?_
 refine da ?_
 refine D_end (hK1 _ _ ?_)
 refine W_seq fun K2 hK2 => ?_
 refine W_seq fun K3 hK3 => ?_
 refine wr ?_
 refine dm ?_
 refine dp (pv_eqP (by kernel_rfl) rfl rfl) ?_
 refine D_end (hK3 _ _ ?_)
 refine W_if rfl (fun c1 => ?_) (fun c1 => ?_)
 ·
  exact absurd c1 (by simp)
 ·
  refine W_skip ?_
  refine hK2 _ _ ?_
  refine W_seq fun K4 hK4 => ?_
  refine wr ?_
  refine dm ?_
  refine dp (pv_nilP rfl) ?_
  refine dp (pv_fieldA (k := 5) (by kernel_rfl) rfl) ?_
  refine dq (lv_load (by kernel_rfl) rfl ((hb.ext hx).at rfl)) ?_
  iterate 2 refine dm ?_
  refine D_callP rfl (by kernel_rfl) (mscanE_w bm ba bn s [] _ (hs.ext hx).m) rfl RX.all (fun w1 x1 => ?_)
  replace hx := hx.trans x1
  refine D_lit (e := 132) (sz := 1) (zs := [.slice none 0 0]) (pv := [(0, ?a6_0)]) (cs := [?a6_0]) rfl (by kernel_rfl) ⟨rfl, rfl⟩ (by kernel_rfl) rfl ?h6 ?f6 RX.all (fun b1 w2 e1 x2 m1 => ?k6)
  case h6 => refine ⟨rfl, ?_, trivial⟩ <;> (conv => lhs; whnf)
  case f6 => rfl
  have g1 : w.heap.size ≤ b1 := by have := hx.size; omega
  replace hx := hx.trans x2
  refine da ?_
  refine D_end (hK4 _ _ ?_)
  refine W_seq fun K5 hK5 => ?_
  refine W_seq fun K6 hK6 => ?_
  refine wr ?_
  refine dm ?_
  refine dp (pv_nilP rfl) ?_
  refine dp (pv_fieldA (k := 4) (by kernel_rfl) rfl) ?_
  refine dq (lv_load (by kernel_rfl) rfl ((hb.ext hx).at rfl)) ?_
  refine D_rangeE (by kernel_rfl) rfl rfl (hv.ext hx) RX.all (fun b2 w3 e2 x3 it2 => ?_)
  have g2 : w.heap.size ≤ b2 := by have := hx.size; omega
  have n2_1 : b1 < b2 := by have := m1.lt; omega
  replace m1 := m1.ext x3
  replace hx := hx.trans x3
  refine D_end (hK6 _ _ ?_)
  refine W_block ?_
  refine W_loop (G := Unit) (fun uu => [(1, S s), (2, S []), (3, I 0), (8, .slice none 0 0), (9, .slice (some ⟨b1, 0, none⟩) 1 1), (29, ptr b2 0)]) (fun uu w' => Ext w w' ∧ Blk w' b1 [.slice none 0 0] 132 ∧ IterE w' b2 ∧ True) (fun uu => 0) () ?_ ?_ ?_
  ·
   exact ⟨rfl, rfl, rfl, rfl, rfl, rfl, trivial⟩
  ·
   exact ⟨hx, m1, it2, trivial⟩
  ·
   intro X4 g4 w4 hF4
   revert hF4; revert g4; intro uu hF4
   clear hx m1 it2
   obtain ⟨hx, m1, it2, htr⟩ := hF4
   refine W_seq fun K7 hK7 => ?_
   refine wr ?_
   refine D_nextE rfl rfl it2 RX.all ?_
   refine dp (pv_ext rfl rfl) ?_
   refine D_end (hK7 _ _ ?_)
   refine W_seq fun K8 hK8 => ?_
   refine W_f rfl ?_
   refine W_exit ?_
   refine hK5 _ _ ?_
   refine W_seq fun K9 hK9 => ?_
   refine wr ?_
   refine da ?_
   refine D_end (hK9 _ _ ?_)
   refine W_seq fun K10 hK10 => ?_
   refine W_seq fun K11 hK11 => ?_
   refine wr ?_
   refine dm ?_
   refine D_callG rfl (by kernel_rfl) (mergedE_w b1 _ (m1.arr (enc := fun x : Value => [x]) (sz := 1) (l := [.slice none 0 0]) rfl (by intro x; rfl) rfl (by simp))) rfl RX.all (fun vo w5 x5 ho => ?_)
   have hsz5 := hx.size
   replace m1 := m1.ext x5
   replace it2 := it2.ext x5
   replace hx := hx.trans x5
   refine dp (pv_lenV (e := 104) (k := 4) (by kernel_rfl) ho.sl rfl) ?_
   refine dm ?_
   refine D_end (hK11 _ _ ?_)
   refine W_block ?_
   refine W_loop (G := Unit) (fun uu => [(3, I 0), (8, .slice none 0 0), (12, .slice none 0 0), (42, vo), (43, I 0), (44, I 0)]) (fun uu w' => Ext w w' ∧ Blk w' b1 [.slice none 0 0] 132 ∧ IterE w' b2 ∧ Arr Cell.cs 4 w' vo [] ∧ True) (fun uu => 0) () ?_ ?_ ?_
   ·
    exact ⟨rfl, rfl, rfl, rfl, rfl, rfl, trivial⟩
   ·
    exact ⟨hx, m1, it2, ho, trivial⟩
   ·
    intro X6 g6 w6 hF6
    revert hF6; revert g6; intro uu hF6
    clear hx m1 it2 ho
    obtain ⟨hx, m1, it2, ho, htr⟩ := hF6
    refine W_seq fun K12 hK12 => ?_
    refine wr ?_
    refine dp (pv_lss rfl rfl) ?_
    refine D_end (hK12 _ _ ?_)
    refine W_seq fun K13 hK13 => ?_
    refine W_if rfl (fun c2 => ?_) (fun c2 => ?_)
    ·
     exact absurd c2 (by simp)
    ·
     refine W_exit ?_
     refine hK10 _ _ ?_
     refine W_seq fun K14 hK14 => ?_
     refine wr ?_
     refine dm ?_
     refine da ?_
     refine D_end (hK14 _ _ ?_)
     refine W_ret ?_
     try dsimp only [then', inBlk, noGo]
     refine ro ?_
     exact ⟨rfl, hx⟩

set_option maxRecDepth 100000 in
set_option maxHeartbeats 1000000 in
theorem tscanE_w (bt bs bd bl mo bm ba bn mf : Nat) (room : Int) (vs : Value) (s : Str) (w : World) (hT : TrE w bt bs bd bl mo bm ba bn mf room vs) :
  Calls Tryz.prog 249 [ptr bt 0, S s].toArray w (Pure w (.slice none 0 0)) := by
 refine calls_W Tryz.func249 rfl rfl rfl (by kernel_rfl) ?_
 have hx := Ext.refl w
 have hb := hT.t
 refine W_seq fun K1 hK1 => ?_
 refine wr ?_
 refine da ?_
 refine D_end (hK1 _ _ ?_)
 refine W_seq fun K2 hK2 => ?_
 refine wr ?_
 refine da ?_
 refine D_end (hK2 _ _ ?_)
 refine W_seq fun K3 hK3 => ?_
 refine W_seq fun K4 hK4 => ?_
 refine wr ?_
 refine dm ?_
 refine dp (pv_nilP rfl) ?_
 refine dp (pv_fieldA (k := 0) (by kernel_rfl) rfl) ?_
 refine dq (lv_load (by kernel_rfl) rfl ((hb.ext hx).at rfl)) ?_
 refine dm ?_
 refine D_callP rfl (by kernel_rfl) (scanE_w bs bd bl mo bm ba bn mf room s _ (hT.ext hx).s) rfl RX.all (fun w1 x1 => ?_)
 replace hx := hx.trans x1
 refine dp (pv_lenV (e := 76) (k := 3) (by kernel_rfl) (Arr.nil (enc := fun x : List Value => x) (sz := 3) (w := w)).sl rfl) ?_
 refine dm ?_
 refine D_end (hK4 _ _ ?_)
 refine W_block ?_
 refine W_loop (G := Unit) (fun uu => [(1, S s), (4, .slice none 0 0), (5, .slice none 0 0), (13, .slice none 0 0), (14, I 0), (15, I 0)]) (fun uu w' => Ext w w' ∧ True) (fun uu => 0) () ?_ ?_ ?_
 ·
  exact ⟨rfl, rfl, rfl, rfl, rfl, rfl, trivial⟩
 ·
  exact ⟨hx, trivial⟩
 ·
  intro X2 g2 w2 hF2
  revert hF2; revert g2; intro uu hF2
  clear hx
  obtain ⟨hx, htr⟩ := hF2
  refine W_seq fun K5 hK5 => ?_
  refine wr ?_
  refine dp (pv_lss rfl rfl) ?_
  refine D_end (hK5 _ _ ?_)
  refine W_seq fun K6 hK6 => ?_
  refine W_if rfl (fun c1 => ?_) (fun c1 => ?_)
  ·
   exact absurd c1 (by decide)
  ·
   refine W_exit ?_
   refine hK3 _ _ ?_
   refine W_seq fun K7 hK7 => ?_
   refine wr ?_
   refine dm ?_
   refine da ?_
   refine D_end (hK7 _ _ ?_)
   refine W_ret ?_
   try dsimp only [then', inBlk, noGo]
   refine ro ?_
   exact ⟨rfl, hx⟩

set_option maxRecDepth 100000 in
set_option maxHeartbeats 1000000 in
theorem foundE_w (bt bs bd bl mo bm ba bn mf : Nat) (room : Int) (vs : Value) (s : Str) (w : World) (hT : TrE w bt bs bd bl mo bm ba bn mf room vs) :
  Calls Tryz.prog 169 [ptr bt 0, S s].toArray w (Pure w (.slice none 0 0)) := by
 refine calls_W Tryz.func169 rfl rfl rfl (by kernel_rfl) ?_
 have hx := Ext.refl w
 have hb := hT.t
 refine W_seq fun K1 hK1 => ?_
 refine wr ?_
 refine da ?_
 refine D_end (hK1 _ _ ?_)
 refine W_seq fun K2 hK2 => ?_
 refine W_seq fun K3 hK3 => ?_
 refine wr ?_
 refine dm ?_
 refine dp (pv_eqP (by kernel_rfl) rfl rfl) ?_
 refine D_end (hK3 _ _ ?_)
 refine W_if rfl (fun c1 => ?_) (fun c1 => ?_)
 ·
  exact absurd c1 (by simp)
 ·
  refine W_skip ?_
  refine hK2 _ _ ?_
  refine W_seq fun K4 hK4 => ?_
  refine wr ?_
  refine da ?_
  refine D_end (hK4 _ _ ?_)
  refine W_seq fun K5 hK5 => ?_
  refine W_seq fun K6 hK6 => ?_
  refine wr ?_
  iterate 2 refine dm ?_
  refine D_callP rfl (by kernel_rfl) (tscanE_w bt bs bd bl mo bm ba bn mf room vs s _ (hT.ext hx)) rfl RX.all (fun w1 x1 => ?_)
  replace hx := hx.trans x1
  refine dp (pv_lenV (e := 76) (k := 3) (by kernel_rfl) (Arr.nil (enc := fun x : List Value => x) (sz := 3) (w := w)).sl rfl) ?_
  refine dm ?_
  refine D_end (hK6 _ _ ?_)
  refine W_block ?_
  refine W_loop (G := Unit) (fun uu => [(1, S s), (4, .slice none 0 0), (5, .slice none 0 0), (12, .slice none 0 0), (13, I 0), (14, I 0)]) (fun uu w' => Ext w w' ∧ True) (fun uu => 0) () ?_ ?_ ?_
  ·
   exact ⟨rfl, rfl, rfl, rfl, rfl, rfl, trivial⟩
  ·
   exact ⟨hx, trivial⟩
  ·
   intro X2 g2 w2 hF2
   revert hF2; revert g2; intro uu hF2
   clear hx
   obtain ⟨hx, htr⟩ := hF2
   refine W_seq fun K7 hK7 => ?_
   refine wr ?_
   refine dp (pv_lss rfl rfl) ?_
   refine D_end (hK7 _ _ ?_)
   refine W_seq fun K8 hK8 => ?_
   refine W_if rfl (fun c2 => ?_) (fun c2 => ?_)
   ·
    exact absurd c2 (by decide)
   ·
    refine W_exit ?_
    refine hK5 _ _ ?_
    refine W_seq fun K9 hK9 => ?_
    refine wr ?_
    refine dm ?_
    refine da ?_
    refine D_end (hK9 _ _ ?_)
    refine W_ret ?_
    try dsimp only [then', inBlk, noGo]
    refine ro ?_
    exact ⟨rfl, hx⟩

set_option maxRecDepth 100000 in
set_option maxHeartbeats 1000000 in
theorem sfoundE_w (bt bs bd bl mo bm ba bn mf : Nat) (room : Int) (vs : Value) (s : Str) (w : World) (hT : TrE w bt bs bd bl mo bm ba bn mf room vs) :
  Calls Tryz.prog 86 [ptr bt 0, S s].toArray w (Gives w (fun u w' => ∃ b, u = .map (some b) ∧ EmpM w' b)) := by
 refine calls_W Tryz.func86 rfl rfl rfl (by kernel_rfl) ?_
 have hx := Ext.refl w
 refine W_seq fun K1 hK1 => ?_
 refine wr ?_
 refine da ?_
 refine D_end (hK1 _ _ ?_)
 refine W_seq fun K2 hK2 => ?_
 refine wr ?_
 refine D_makeMapE rfl RX.all (fun b1 w1 e1 x1 mp1 => ?_)
 have g1 : w.heap.size ≤ b1 := by have := hx.size; omega
 replace hx := hx.trans x1
 refine da ?_
 refine D_end (hK2 _ _ ?_)
 refine W_seq fun K3 hK3 => ?_
 refine W_seq fun K4 hK4 => ?_
 refine wr ?_
 iterate 2 refine dm ?_
 refine D_callP rfl (by kernel_rfl) (foundE_w bt bs bd bl mo bm ba bn mf room vs s _ (hT.ext hx)) rfl RX.all (fun w2 x2 => ?_)
 replace mp1 := mp1.ext x2
 replace hx := hx.trans x2
 refine dp (pv_lenV (e := 9) (k := 1) (by kernel_rfl) (Arr.nil (enc := sEnc) (sz := 1) (w := w)).sl rfl) ?_
 refine dm ?_
 refine D_end (hK4 _ _ ?_)
 refine W_block ?_
 refine W_loop (G := Unit) (fun uu => [(4, .map none), (5, .map (some b1)), (11, .slice none 0 0), (12, I 0), (13, I 0)]) (fun uu w' => Ext w w' ∧ EmpM w' b1 ∧ True) (fun uu => 0) () ?_ ?_ ?_
 ·
  exact ⟨rfl, rfl, rfl, rfl, rfl, trivial⟩
 ·
  exact ⟨hx, mp1, trivial⟩
 ·
  intro X3 g3 w3 hF3
  revert hF3; revert g3; intro uu hF3
  clear hx mp1
  obtain ⟨hx, mp1, htr⟩ := hF3
  refine W_seq fun K5 hK5 => ?_
  refine wr ?_
  refine dp (pv_lss rfl rfl) ?_
  refine D_end (hK5 _ _ ?_)
  refine W_seq fun K6 hK6 => ?_
  refine W_if rfl (fun c1 => ?_) (fun c1 => ?_)
  ·
   exact absurd c1 (by decide)
  ·
   refine W_exit ?_
   refine hK3 _ _ ?_
   refine W_seq fun K7 hK7 => ?_
   refine wr ?_
   refine dm ?_
   refine da ?_
   refine D_end (hK7 _ _ ?_)
   refine W_ret ?_
   try dsimp only [then', inBlk, noGo]
   refine ro ?_
   exact ⟨_, rfl, hx, _, rfl, mp1⟩

set_option maxRecDepth 100000 in
set_option maxHeartbeats 1000000 in
theorem keysIS_w (b ly : Nat) (mv : Value) (J : Nat → World → Prop) (w : World) (hJ : ∀ k W, J k W → Blk W b [mv] 94 ∧ EmpV W mv) (hE : ∀ k W W', J k W → Ext W W' → J k W') (hj : J 0 w) :
  Calls Tryz.prog 95 [.func (.yield ly) #[] #[], ptr b 0].toArray w (fun e W' => (∃ v, e = .returned v) ∧ J 0 W') := by
 refine calls_WX Tryz.func95 rfl rfl rfl (by kernel_rfl) ?_
 have hx := Ext.refl w
 obtain ⟨hb, hv⟩ := hJ _ _ hj
 refine WX_seq fun K1 hK1 => ?_
 refine WX_reg [.l, .x] rfl ?_
 refine dq (lv_load (by kernel_rfl) rfl ((hb.ext hx).at rfl)) ?_
 refine D_rangeE (by kernel_rfl) rfl rfl (hv.ext hx) RX.all (fun b1 w1 e1 x1 it1 => ?_)
 have g1 : w.heap.size ≤ b1 := by have := hx.size; omega
 replace hx := hx.trans x1
 refine D_end (hK1 _ _ _ ?_)
 refine WX_block ?_
 refine WX_loop (G := Unit) (fun uu => [(0, .func (.yield ly) #[] #[]), (5, ptr b1 0)]) (fun uu w' => Ext w w' ∧ IterE w' b1 ∧ True) (fun uu => 0) () ?_ ?_ ?_
 ·
  exact ⟨rfl, rfl, trivial⟩
 ·
  exact ⟨hx, it1, trivial⟩
 ·
  intro X2 g2 w2 hF2
  revert hF2; revert g2; intro uu hF2
  clear hx it1
  obtain ⟨hx, it1, htr⟩ := hF2
  refine WX_seq fun K2 hK2 => ?_
  refine WX_reg [.x, .p] rfl ?_
  refine D_nextE rfl rfl it1 RX.all ?_
  refine dp (pv_ext rfl rfl) ?_
  refine D_end (hK2 _ _ _ ?_)
  refine WX_seq fun K3 hK3 => ?_
  refine WX_f rfl ?_
  refine WX_exit ?_
  try dsimp only [thenX, inBlkX]
  refine retX_nilN ?_
  refine ret_none rfl ?_
  exact ⟨⟨_, rfl⟩, hE _ _ _ hj hx⟩

set_option maxRecDepth 100000 in
set_option maxHeartbeats 1000000 in
theorem keysS_w (mv : Value) (w : World) (hv : EmpV w mv) :
  Calls Tryz.prog 37 [mv].toArray w (Gives w (fun u w' => ∃ b, u = fnC 95 [ptr b 0] ∧ Blk w' b [mv] 94)) := by
 refine calls_W Tryz.func37 rfl rfl rfl (by kernel_rfl) ?_
 have hx := Ext.refl w
 refine W_seq fun K1 hK1 => ?_
 refine wr ?_
 refine D_box rfl rfl (emp_cells hv) RX.all (fun b1 w1 e1 x1 m1 => ?_)
 have g1 : w.heap.size ≤ b1 := by have := hx.size; omega
 replace hx := hx.trans x1
 refine da ?_
 refine D_end (hK1 _ _ ?_)
 refine W_seq fun K2 hK2 => ?_
 refine wr ?_
 refine dp (pv_makeFunc rfl) ?_
 refine da ?_
 refine D_end (hK2 _ _ ?_)
 refine W_ret ?_
 try dsimp only [then', inBlk, noGo]
 refine ro ?_
 exact ⟨_, rfl, hx, b1, rfl, m1⟩

set_option maxRecDepth 100000 in
set_option maxHeartbeats 1000000 in
theorem appendSeqS_w (bk : Nat) (mv : Value) (w : World) (hk : Blk w bk [mv] 94) (hv : EmpV w mv) :
  Calls Tryz.prog 179 [.slice none 0 0, fnC 95 [ptr bk 0]].toArray w (Pure w (.slice none 0 0)) := by
 refine calls_WX Tryz.func179 rfl rfl rfl (by kernel_rfl) ?_
 have hx := Ext.refl w
 refine WX_seq fun K1 hK1 => ?_
 refine WX_reg [.x, .p] rfl ?_
 refine D_box rfl rfl rfl RX.all (fun b1 w1 e1 x1 m1 => ?_)
 have g1 : w.heap.size ≤ b1 := by have := hx.size; omega
 replace hx := hx.trans x1
 refine da ?_
 refine D_end (hK1 _ _ _ ?_)
 refine WX_seq fun K2 hK2 => ?_
 refine WX_seq fun K3 hK3 => ?_
 refine WX_reg [.p] rfl ?_
 refine dm ?_
 refine D_end (hK3 _ _ _ ?_)
 refine WX_block ?_
 have hI0 : (Ext w w1 ∧ Blk w1 b1 [.slice none 0 0] 22 ∧ Blk w1 bk [mv] 94 ∧ EmpV w1 mv) := ⟨hx, m1, hk.ext hx, hv.ext hx⟩
 have hx3 := hx.size
 have hbk := hk.lt
 have hb1 := m1.lt
 refine WX_range (gf := 95) (N := 0) (lb := #[ptr bk 0]) (args := fun k => [S []]) rfl (by kernel_rfl) (fun _ => rfl) (fun k W => (Ext w W ∧ Blk W b1 [.slice none 0 0] 22 ∧ Blk W bk [mv] 94 ∧ EmpV W mv)) (fun k E1 W => False) hI0 ?hX ?hL ?hAL ?hit ?assign ?body ?h
 case hX =>
  rintro k W W' ⟨h1, h2, h3, h4⟩ x
  exact ⟨h1.trans x, h2.ext x, h3.ext x, h4.ext x⟩
 case hL =>
  rintro k W l' o o' ⟨h1, h2, h3, h4⟩ hle hl ho
  have := hx.size
  exact ⟨h1.own (Mod.putObj W l' o') (fun i hi => by have hi2 : i = l' := hi; omega), h2.put o' hl ho, h3.put o' hl ho, h4.imp id fun ⟨b, e, hb⟩ => ⟨b, e, hb.mod (Mod.putObj W l' o') (fun e2 => by have e3 : b = l' := e2; have h9 := hv.lt e; omega)⟩⟩
 case hAL => exact fun k E1 W l' o o' h => h.elim
 case hit =>
  intro ly J hJI hJE hY W hj
  exact keysIS_w bk ly mv J W (fun k W h => ⟨(hJI k W h).2.2.1, (hJI k W h).2.2.2⟩) hJE hj
 case assign => exact fun k l W hk => absurd hk (Nat.not_lt_zero k)
 case body => exact fun k l E1 W keep hk => absurd hk (Nat.not_lt_zero k)
 case h =>
  intro D w8 hD hI hdl
  clear hx m1 hI0
  obtain ⟨hx, m1, -, -⟩ := hI
  refine hK2 _ _ _ ?_
  refine WX_seq fun K4 hK4 => ?_
  refine WX_reg [.l, .p] rfl ?_
  refine dq (lv_load (by kernel_rfl) rfl (m1.at rfl)) ?_
  refine da ?_
  refine D_end (hK4 _ _ _ ?_)
  refine WX_ret ?_
  try dsimp only [thenX, inBlkX]
  refine retX_mark hdl ?_
  refine ro ?_
  have hxs := hx.size
  exact ⟨rfl, hx.own (Mod.putObj _ D _) (fun i hi => by have hi2 : i = D := hi; omega)⟩

set_option maxRecDepth 100000 in
set_option maxHeartbeats 1000000 in
theorem collectS_w (bk : Nat) (mv : Value) (w : World) (hk : Blk w bk [mv] 94) (hv : EmpV w mv) :
  Calls Tryz.prog 93 [fnC 95 [ptr bk 0]].toArray w (Pure w (.slice none 0 0)) := by
 refine calls_W Tryz.func93 rfl rfl rfl (by kernel_rfl) ?_
 have hx := Ext.refl w
 refine W_seq fun K1 hK1 => ?_
 refine wr ?_
 refine da ?_
 refine D_end (hK1 _ _ ?_)
 refine W_seq fun K2 hK2 => ?_
 refine wr ?_
 refine dm ?_
 refine D_callP rfl (by kernel_rfl) (appendSeqS_w bk mv _ (hk.ext hx) (hv.ext hx)) rfl RX.all (fun w1 x1 => ?_)
 replace hx := hx.trans x1
 refine da ?_
 refine D_end (hK2 _ _ ?_)
 refine W_ret ?_
 try dsimp only [then', inBlk, noGo]
 refine ro ?_
 exact ⟨rfl, hx⟩

set_option maxRecDepth 100000 in
set_option maxHeartbeats 1000000 in
theorem sortedS_w (bk : Nat) (mv : Value) (w : World) (hk : Blk w bk [mv] 94) (hv : EmpV w mv) :
  Calls Tryz.prog 36 [fnC 95 [ptr bk 0]].toArray w (Pure w (.slice none 0 0)) := by
 refine calls_W Tryz.func36 rfl rfl rfl (by kernel_rfl) ?_
 have hx := Ext.refl w
 refine W_seq fun K1 hK1 => ?_
 refine wr ?_
 refine da ?_
 refine D_end (hK1 _ _ ?_)
 refine W_seq fun K2 hK2 => ?_
 refine wr ?_
 refine dm ?_
 refine D_callP rfl (by kernel_rfl) (collectS_w bk mv _ (hk.ext hx) (hv.ext hx)) rfl RX.all (fun w1 x1 => ?_)
 replace hx := hx.trans x1
 refine da ?_
 refine D_end (hK2 _ _ ?_)
 refine W_seq fun K3 hK3 => ?_
 refine wr ?_
 refine dm ?_
 refine D_callP rfl (by kernel_rfl) (sortE_w _) rfl RX.all (fun w2 x2 => ?_)
 replace hx := hx.trans x2
 refine D_end (hK3 _ _ ?_)
 refine W_seq fun K4 hK4 => ?_
 refine wr ?_
 refine dm ?_
 refine da ?_
 refine D_end (hK4 _ _ ?_)
 refine W_ret ?_
 try dsimp only [then', inBlk, noGo]
 refine ro ?_
 exact ⟨rfl, hx⟩

end Go.Proofs.YteninjhmmjkckaaGreatDoor
