/-
  Walks.
-/
import Derived.Test.YteninjhmmjkckaaGreatDoorChecked
import Derived.Test.YteninjhmmjkckaaGreatDoorSpMem
import Derived.KernelRfl
import Derived.Test.YteninjhmmjkckaaGreatDoorLoB
namespace Go.Proofs.YteninjhmmjkckaaGreatDoor
open Go.Vc Go.Sp
attribute [local irreducible] W XW Dw DwT
set_option linter.unusedVariables false
set_option linter.unusedSimpArgs false

/-- The document's store of nothing. -/
structure RStE (w : World) (bs bd bl bm : Nat) (room : Int) : Prop where
  s : Blk w bs [ptr bd 0, ptr bl 0, I 1, .slice none 0 0, .slice none 0 0, ptr bm 0, B false] 179
  l : Blk w bl [ptr bd 0, S [115], I 0, .slice none 0 0, .slice none 0 0, B false] 182
  d : Blk w bd [I room, .slice none 0 0, I (-1)] 157
theorem RStE.ext {w w' : World} {bs bd bl bm : Nat} {room : Int} (h : RStE w bs bd bl bm room) (x : Ext w w') : RStE w' bs bd bl bm room := ⟨h.s.ext x, h.l.ext x, h.d.ext x⟩

set_option maxRecDepth 100000 in
set_option maxHeartbeats 1000000 in
theorem rdiskNew_w (room : Int) (w : World) (h0 : 0 ≤ room) (h1 : room ≤ 1073741824) :
  Calls Tryz.prog 30 [I room].toArray w (Gives w (fun u w' => ∃ bd, u = .tuple #[ptr bd 0, I 0] ∧ Blk w' bd [I room, .slice none 0 0, I (-1)] 157)) := by
 refine calls_W Tryz.func30 rfl rfl rfl (by kernel_rfl) ?_
 have hx := Ext.refl w
 refine W_seq fun K1 hK1 => ?_
 refine wr ?_
 iterate 2 refine da ?_
 refine D_end (hK1 _ _ ?_)
 refine W_seq fun K2 hK2 => ?_
 refine W_seq fun K3 hK3 => ?_
 refine wr ?_
 refine dm ?_
 refine dp (pv_lss rfl rfl) ?_
 refine dm ?_
 refine D_splitP 6 rfl (fun c1 => ?_) (fun c1 => ?_)
 ·
  omega
 ·
  refine dm ?_
  refine dp (pv_gtr rfl rfl) ?_
  refine dk' ?_
  refine D_end (hK3 _ _ ?_)
  refine W_if rfl (fun c2 => ?_) (fun c2 => ?_)
  ·
   omega
  ·
   refine W_skip ?_
   refine hK2 _ _ ?_
   refine W_seq fun K4 hK4 => ?_
   refine wr ?_
   refine dm ?_
   refine dp (pv_build (zs := [.int .i64 0, .slice none 0 0, .int .i64 0]) (pl := [(0, 1), (1, 1), (2, 1)]) (pv := [(0, ?a8_0), (2, ?a8_1)]) (cs := [?a8_0, .slice none 0 0, ?a8_1]) (by kernel_rfl) (by kernel_rfl) ?h8 ?f8) ?k8
   case h8 => refine ⟨rfl, ?_, rfl, ?_, trivial⟩ <;> (conv => lhs; whnf)
   case f8 => rfl
   refine D_box rfl rfl rfl RX.all (fun b1 w1 e1 x1 m1 => ?_)
   have g1 : w.heap.size ≤ b1 := by have := hx.size; omega
   replace hx := hx.trans x1
   iterate 2 refine da ?_
   refine D_end (hK4 _ _ ?_)
   refine W_ret ?_
   try dsimp only [then', inBlk, noGo]
   refine rt ?_
   exact ⟨_, rfl, hx, b1, rfl, m1⟩

set_option maxRecDepth 100000 in
set_option maxHeartbeats 1000000 in
theorem rspot_w (bd : Nat) (room : Int) (s : Str) (w : World) (hd : Blk w bd [I room, .slice none 0 0, I (-1)] 157) :
  Calls Tryz.prog 231 [ptr bd 0, S s].toArray w (Pure w (.tuple #[I 0, B false])) := by
 refine calls_W Tryz.func231 rfl rfl rfl (by kernel_rfl) ?_
 have hx := Ext.refl w
 refine W_seq fun K1 hK1 => ?_
 refine wr ?_
 iterate 2 refine da ?_
 refine D_end (hK1 _ _ ?_)
 refine W_seq fun K2 hK2 => ?_
 refine wr ?_
 refine da ?_
 refine D_end (hK2 _ _ ?_)
 refine W_seq fun K3 hK3 => ?_
 refine W_block ?_
 refine W_loop (G := Unit) (fun uu => [(0, ptr bd 0), (1, S s), (4, I 0), (5, .bool false), (6, I 0)]) (fun uu w' => Ext w w' ∧ True) (fun uu => 0) () ?_ ?_ ?_
 ·
  exact ⟨rfl, rfl, rfl, rfl, rfl, trivial⟩
 ·
  exact ⟨hx, trivial⟩
 ·
  intro X1 g1 w1 hF1
  revert hF1; revert g1; intro uu hF1
  clear hx
  obtain ⟨hx, htr⟩ := hF1
  refine W_seq fun K4 hK4 => ?_
  refine W_seq fun K5 hK5 => ?_
  refine wr ?_
  iterate 2 refine dm ?_
  refine dp (pv_nilP rfl) ?_
  refine dp (pv_fieldA (k := 1) (by kernel_rfl) rfl) ?_
  refine dq (lv_load (by kernel_rfl) rfl ((hd.ext hx).at rfl)) ?_
  refine dp (pv_lenV (e := 339) (k := 3) (by kernel_rfl) (Arr.nil (enc := fun x : List Value => x) (sz := 3) (w := w)).sl rfl) ?_
  refine dp (pv_lss rfl rfl) ?_
  refine dm ?_
  refine D_splitP 14 rfl (fun c1 => ?_) (fun c1 => ?_)
  ·
   exact absurd c1 (by decide)
  ·
   iterate 10 refine dk ?_
   refine dk' ?_
   refine D_end (hK5 _ _ ?_)
   refine W_f rfl ?_
   refine W_exit ?_
   refine hK3 _ _ ?_
   refine W_seq fun K6 hK6 => ?_
   refine W_draw (R := Ext) Ext.refl (fun _ _ _ => Ext.trans) (by kernel_rfl) [5, 12, 16] [(0, .p, false), (1, .p, false), (2, .p, false), (3, .p, false), (4, .p, false), (5, .l, false), (6, .p, false), (7, .p, false), (8, .p, false), (9, .p, false), (10, .p, false), (11, .p, false), (12, .l, false), (13, .p, false), (14, .p, false), (15, .p, false), (16, .l, false), (17, .p, false), (18, .p, false), (19, .p, false), (20, .p, false), (21, .p, false)] rfl (by kernel_rfl) (by kernel_rfl) (fun w2 ew2 => ?_)
   have x2 : Ext w1 w2 := by rw [ew2]; exact Ext.drew _
   clear ew2
   replace hx := hx.trans x2
   iterate 3 refine dm ?_
   refine dp (pv_nilP rfl) ?_
   refine dp (pv_fieldA (k := 1) (by kernel_rfl) rfl) ?_
   refine D_l rfl (fun w' hR => lv_load (by kernel_rfl) rfl ((hd.ext (hx.trans hR)).at rfl)) ?_
   refine dp (pv_lenV (e := 339) (k := 3) (by kernel_rfl) (Arr.nil (enc := fun x : List Value => x) (sz := 3) (w := w)).sl rfl) ?_
   refine dp (pv_lss rfl rfl) ?_
   refine dm ?_
   refine D_splitP 36 rfl (fun c2 => ?_) (fun c2 => ?_)
   ·
    exact absurd c2 (by decide)
   ·
    iterate 10 refine dk ?_
    refine dk' ?_
    iterate 2 refine da ?_
    refine D_end (hK6 _ _ ?_)
    refine W_ret ?_
    try dsimp only [then', inBlk, noGo]
    refine rt ?_
    exact ⟨rfl, hx⟩

set_option maxRecDepth 100000 in
set_option maxHeartbeats 1000000 in
theorem rread_w (bd : Nat) (room : Int) (s : Str) (w : World) (hd : Blk w bd [I room, .slice none 0 0, I (-1)] 157) :
  Calls Tryz.prog 153 [ptr bd 0, S s].toArray w (Pure w (.tuple #[.slice none 0 0, I 7])) := by
 refine calls_W Tryz.func153 rfl rfl rfl (by kernel_rfl) ?_
 have hx := Ext.refl w
 refine W_seq fun K1 hK1 => ?_
 refine wr ?_
 iterate 2 refine da ?_
 refine D_end (hK1 _ _ ?_)
 refine W_seq fun K2 hK2 => ?_
 refine wr ?_
 iterate 2 refine dm ?_
 refine D_callP rfl (by kernel_rfl) (rspot_w bd room s _ (hd.ext hx)) rfl RX.all (fun w1 x1 => ?_)
 replace hx := hx.trans x1
 refine dm ?_
 refine dp (pv_ext rfl rfl) ?_
 refine dp (pv_ext rfl rfl) ?_
 iterate 2 refine da ?_
 refine D_end (hK2 _ _ ?_)
 refine W_seq fun K3 hK3 => ?_
 refine W_seq fun K4 hK4 => ?_
 refine wr ?_
 refine dm ?_
 refine dn ?_
 refine D_end (hK4 _ _ ?_)
 refine W_t rfl ?_
 refine W_seq fun K5 hK5 => ?_
 refine wr ?_
 iterate 2 refine da ?_
 refine D_end (hK5 _ _ ?_)
 refine W_ret ?_
 try dsimp only [then', inBlk, noGo]
 refine rt ?_
 exact ⟨rfl, hx⟩

set_option maxRecDepth 100000 in
set_option maxHeartbeats 1000000 in
theorem rhas_w (bl bd : Nat) (room : Int) (s : Str) (w : World) (hl : Blk w bl [ptr bd 0, S [115], I 0, .slice none 0 0, .slice none 0 0, B false] 182) (hd : Blk w bd [I room, .slice none 0 0, I (-1)] 157) :
  Calls Tryz.prog 150 [ptr bl 0, S s].toArray w (Pure w (B false)) := by
 refine calls_W Tryz.func150 rfl rfl rfl (by kernel_rfl) ?_
 have hx := Ext.refl w
 refine W_seq fun K1 hK1 => ?_
 refine wr ?_
 refine da ?_
 refine D_end (hK1 _ _ ?_)
 refine W_seq fun K2 hK2 => ?_
 refine wr ?_
 refine dm ?_
 refine dp (pv_nilP rfl) ?_
 refine dp (pv_fieldA (k := 0) (by kernel_rfl) rfl) ?_
 refine dq (lv_load (by kernel_rfl) rfl ((hl.ext hx).at rfl)) ?_
 refine dm ?_
 refine D_callP rfl (by kernel_rfl) (rread_w bd room s _ (hd.ext hx)) rfl RX.all (fun w1 x1 => ?_)
 replace hx := hx.trans x1
 refine dm ?_
 refine dp (pv_ext rfl rfl) ?_
 refine dp (pv_ext rfl rfl) ?_
 iterate 2 refine da ?_
 refine D_end (hK2 _ _ ?_)
 refine W_seq fun K3 hK3 => ?_
 refine wr ?_
 refine dm ?_
 refine dp (pv_eql rfl rfl) ?_
 refine da ?_
 refine D_end (hK3 _ _ ?_)
 refine W_ret ?_
 try dsimp only [then', inBlk, noGo]
 refine ro ?_
 exact ⟨rfl, hx⟩

set_option maxRecDepth 100000 in
set_option maxHeartbeats 1000000 in
theorem rimage_w (bl bd : Nat) (room : Int) (w : World) (hl : Blk w bl [ptr bd 0, S [115], I 0, .slice none 0 0, .slice none 0 0, B false] 182) (hd : Blk w bd [I room, .slice none 0 0, I (-1)] 157) :
  Calls Tryz.prog 152 [ptr bl 0].toArray w (Pure w (I 0)) := by
 refine calls_W Tryz.func152 rfl rfl rfl (by kernel_rfl) ?_
 have hx := Ext.refl w
 refine W_seq fun K1 hK1 => ?_
 refine wr ?_
 refine da ?_
 refine D_end (hK1 _ _ ?_)
 refine W_seq fun K2 hK2 => ?_
 refine W_seq fun K3 hK3 => ?_
 refine wr ?_
 iterate 2 refine dm ?_
 refine dp (pv_nilP rfl) ?_
 refine dp (pv_fieldA (k := 1) (by kernel_rfl) rfl) ?_
 refine dq (lv_load (by kernel_rfl) rfl ((hl.ext hx).at rfl)) ?_
 refine dp (pv_scat rfl rfl (by first | (simp; done) | (simp; omega) | omega)) ?_
 refine D_callP rfl (by kernel_rfl) (rhas_w bl bd room _ _ (hl.ext hx) (hd.ext hx)) rfl RX.all (fun w1 x1 => ?_)
 replace hx := hx.trans x1
 refine dn ?_
 refine D_end (hK3 _ _ ?_)
 refine W_t rfl ?_
 refine W_seq fun K4 hK4 => ?_
 refine wr ?_
 refine da ?_
 refine D_end (hK4 _ _ ?_)
 refine W_ret ?_
 try dsimp only [then', inBlk, noGo]
 refine ro ?_
 exact ⟨rfl, hx⟩

set_option maxRecDepth 100000 in
set_option maxHeartbeats 1000000 in
theorem rlast_w (bl bd : Nat) (w : World) (hl : Blk w bl [ptr bd 0, S [115], I 0, .slice none 0 0, .slice none 0 0, B false] 182) :
  Calls Tryz.prog 76 [ptr bl 0].toArray w (Pure w (I 0)) := by
 refine calls_W Tryz.func76 rfl rfl rfl (by kernel_rfl) ?_
 have hx := Ext.refl w
 refine W_seq fun K1 hK1 => ?_
 refine wr ?_
 refine da ?_
 refine D_end (hK1 _ _ ?_)
 refine W_seq fun K2 hK2 => ?_
 refine W_draw (R := Ext) Ext.refl (fun _ _ _ => Ext.trans) (by kernel_rfl) [3, 7] [(0, .p, false), (1, .p, false), (2, .p, false), (3, .l, false), (4, .p, false), (5, .p, false), (6, .p, false), (7, .l, false), (8, .p, false), (9, .p, false), (10, .p, false)] rfl (by kernel_rfl) (by kernel_rfl) (fun w1 ew1 => ?_)
 have x1 : Ext w w1 := by rw [ew1]; exact Ext.drew _
 clear ew1
 replace hx := hx.trans x1
 refine dm ?_
 refine dp (pv_nilP rfl) ?_
 refine dp (pv_fieldA (k := 2) (by kernel_rfl) rfl) ?_
 refine D_l rfl (fun w' hR => lv_load (by kernel_rfl) rfl ((hl.ext (hx.trans hR)).at rfl)) ?_
 refine dm ?_
 refine dp (pv_nilP rfl) ?_
 refine dp (pv_fieldA (k := 4) (by kernel_rfl) rfl) ?_
 refine D_l rfl (fun w' hR => lv_load (by kernel_rfl) rfl ((hl.ext (hx.trans hR)).at rfl)) ?_
 refine dp (pv_lenV (e := 108) (k := 1) (by kernel_rfl) (Arr.nil (enc := fun x : List Value => x) (sz := 3) (w := w)).sl rfl) ?_
 refine dp (pv_add (a := 0) (b := 0) rfl rfl (by simp [inI64])) ?_
 refine da ?_
 refine D_end (hK2 _ _ ?_)
 refine W_ret ?_
 try dsimp only [then', inBlk, noGo]
 refine ro ?_
 exact ⟨rfl, hx⟩

set_option maxRecDepth 100000 in
set_option maxHeartbeats 1000000 in
theorem rledgerOpen_w (bd : Nat) (room : Int) (w : World) (hd : Blk w bd [I room, .slice none 0 0, I (-1)] 157) :
  Calls Tryz.prog 73 [ptr bd 0, S [115]].toArray w (Gives w (fun u w' => ∃ bl, u = .tuple #[ptr bl 0, I 0] ∧ Blk w' bl [ptr bd 0, S [115], I 0, .slice none 0 0, .slice none 0 0, B false] 182)) := by
 refine calls_W Tryz.func73 rfl rfl rfl (by kernel_rfl) ?_
 have hx := Ext.refl w
 refine W_seq fun K1 hK1 => ?_
 refine wr ?_
 iterate 2 refine da ?_
 refine D_end (hK1 _ _ ?_)
 refine W_seq fun K2 hK2 => ?_
 refine W_seq fun K3 hK3 => ?_
 refine wr ?_
 refine dm ?_
 refine dp (pv_eqP (by kernel_rfl) rfl rfl) ?_
 refine dm ?_
 refine D_splitP 13 rfl (fun c1 => ?_) (fun c1 => ?_)
 ·
  exact absurd c1 (by simp)
 ·
  refine dm ?_
  refine dp (pv_lenS (by kernel_rfl) rfl) ?_
  refine dp (pv_lss rfl rfl) ?_
  refine dk' ?_
  refine dm ?_
  refine D_splitP 18 rfl (fun c2 => ?_) (fun c2 => ?_)
  ·
   exact absurd c2 (by decide)
  ·
   refine dm ?_
   refine dp (pv_lenS (by kernel_rfl) rfl) ?_
   refine dp (pv_gtr rfl rfl) ?_
   refine dk' ?_
   refine D_end (hK3 _ _ ?_)
   refine W_if rfl (fun c3 => ?_) (fun c3 => ?_)
   ·
    exact absurd c3 (by decide)
   ·
    refine W_skip ?_
    refine hK2 _ _ ?_
    refine W_seq fun K4 hK4 => ?_
    refine wr ?_
    iterate 2 refine dm ?_
    refine dp (pv_build (zs := [.pointer none, S [], .int .i64 0, .slice none 0 0, .slice none 0 0, B false]) (pl := [(0, 1), (1, 1), (2, 1), (3, 1), (4, 1), (5, 1)]) (pv := [(0, ?a12_0), (1, ?a12_1)]) (cs := [?a12_0, ?a12_1, .int .i64 0, .slice none 0 0, .slice none 0 0, B false]) (by kernel_rfl) (by kernel_rfl) ?h12 ?f12) ?k12
    case h12 => refine ⟨rfl, ?_, rfl, ?_, trivial⟩ <;> (conv => lhs; whnf)
    case f12 => rfl
    refine D_box rfl rfl rfl RX.all (fun b1 w1 e1 x1 m1 => ?_)
    have g1 : w.heap.size ≤ b1 := by have := hx.size; omega
    replace hx := hx.trans x1
    refine da ?_
    refine D_end (hK4 _ _ ?_)
    refine W_seq fun K5 hK5 => ?_
    refine wr ?_
    refine da ?_
    refine D_end (hK5 _ _ ?_)
    refine W_seq fun K6 hK6 => ?_
    refine W_seq fun K7 hK7 => ?_
    refine wr ?_
    iterate 2 refine dm ?_
    refine dp (pv_scat rfl rfl (by first | (simp; done) | (simp; omega) | omega)) ?_
    refine D_callP rfl (by kernel_rfl) (rhas_w b1 bd room _ _ m1 (hd.ext hx)) rfl RX.all (fun w2 x2 => ?_)
    replace m1 := m1.ext x2
    replace hx := hx.trans x2
    refine D_end (hK7 _ _ ?_)
    refine W_f rfl ?_
    refine W_skip ?_
    refine hK6 _ _ ?_
    refine W_seq fun K8 hK8 => ?_
    refine W_seq fun K9 hK9 => ?_
    refine wr ?_
    refine dm ?_
    refine dp (pv_eql rfl rfl) ?_
    refine D_end (hK9 _ _ ?_)
    refine W_if rfl (fun c4 => ?_) (fun c4 => ?_)
    ·
     refine wr ?_
     refine dm ?_
     refine D_callP rfl (by kernel_rfl) (rimage_w b1 bd room _ m1 (hd.ext hx)) rfl RX.all (fun w3 x3 => ?_)
     replace m1 := m1.ext x3
     replace hx := hx.trans x3
     refine da ?_
     refine D_end (hK8 _ _ ?_)
     refine W_seq fun K10 hK10 => ?_
     refine W_seq fun K11 hK11 => ?_
     refine wr ?_
     refine dm ?_
     refine dp (pv_neq rfl rfl) ?_
     refine D_end (hK11 _ _ ?_)
     refine W_if rfl (fun c5 => ?_) (fun c5 => ?_)
     ·
      exact absurd rfl c5
     ·
      refine W_skip ?_
      refine hK10 _ _ ?_
      refine W_seq fun K12 hK12 => ?_
      refine wr ?_
      iterate 2 refine dm ?_
      refine dp (pv_scat rfl rfl (by first | (simp; done) | (simp; omega) | omega)) ?_
      refine D_callP rfl (by kernel_rfl) (rread_w bd room _ _ (hd.ext hx)) rfl RX.all (fun w4 x4 => ?_)
      replace m1 := m1.ext x4
      replace hx := hx.trans x4
      refine dm ?_
      refine dp (pv_ext rfl rfl) ?_
      refine dp (pv_ext rfl rfl) ?_
      iterate 2 refine da ?_
      refine D_end (hK12 _ _ ?_)
      refine W_seq fun K13 hK13 => ?_
      refine W_seq fun K14 hK14 => ?_
      refine wr ?_
      refine dm ?_
      refine dp (pv_neq rfl rfl) ?_
      refine D_end (hK14 _ _ ?_)
      refine W_if rfl (fun c6 => ?_) (fun c6 => ?_)
      ·
       refine W_seq fun K15 hK15 => ?_
       refine wr ?_
       refine dm ?_
       iterate 2 refine da ?_
       refine D_end (hK15 _ _ ?_)
       refine W_ret ?_
       try dsimp only [then', inBlk, noGo]
       refine rt ?_
       exact ⟨_, rfl, hx, b1, rfl, m1⟩
      ·
       exact absurd (by decide) c6
    ·
     exact absurd rfl c4

set_option maxRecDepth 100000 in
set_option maxHeartbeats 1000000 in
theorem rload_w (bs bd bl bm : Nat) (w : World) (hs : Blk w bs [ptr bd 0, ptr bl 0, I 1, .slice none 0 0, .slice none 0 0, ptr bm 0, B false] 179) :
  Calls Tryz.prog 75 [ptr bs 0].toArray w (Pure w (I 0)) := by
 refine calls_W Tryz.func75 rfl rfl rfl (by kernel_rfl) ?_
 have hx := Ext.refl w
 refine W_seq fun K1 hK1 => ?_
 refine wr ?_
 refine da ?_
 refine D_end (hK1 _ _ ?_)
 refine W_seq fun K2 hK2 => ?_
 refine W_seq fun K3 hK3 => ?_
 refine wr ?_
 refine da ?_
 refine D_end (hK3 _ _ ?_)
 refine W_block ?_
 refine W_loop (G := Unit) (fun uu => [(0, ptr bs 0), (3, I 0)]) (fun uu w' => Ext w w' ∧ True) (fun uu => 0) () ?_ ?_ ?_
 ·
  exact ⟨rfl, rfl, trivial⟩
 ·
  exact ⟨hx, trivial⟩
 ·
  intro X1 g1 w1 hF1
  revert hF1; revert g1; intro uu hF1
  clear hx
  obtain ⟨hx, htr⟩ := hF1
  refine W_seq fun K4 hK4 => ?_
  refine W_seq fun K5 hK5 => ?_
  refine wr ?_
  iterate 2 refine dm ?_
  refine dp (pv_nilP rfl) ?_
  refine dp (pv_fieldA (k := 2) (by kernel_rfl) rfl) ?_
  refine dp (pv_fieldA (k := 1) (by kernel_rfl) rfl) ?_
  refine dq (lv_load (by kernel_rfl) rfl ((hs.ext hx).at rfl)) ?_
  refine dp (pv_lenV (e := 166) (k := 5) (by kernel_rfl) (Arr.nil (enc := fun v : Value => [v]) (sz := 5) (w := w)).sl rfl) ?_
  refine dp (pv_lss rfl rfl) ?_
  refine D_end (hK5 _ _ ?_)
  refine W_if rfl (fun c1 => ?_) (fun c1 => ?_)
  ·
   exact absurd c1 (by decide)
  ·
   refine W_exit ?_
   refine hK2 _ _ ?_
   refine W_seq fun K6 hK6 => ?_
   refine wr ?_
   refine da ?_
   refine D_end (hK6 _ _ ?_)
   refine W_ret ?_
   try dsimp only [then', inBlk, noGo]
   refine ro ?_
   exact ⟨rfl, hx⟩

set_option maxRecDepth 100000 in
set_option maxHeartbeats 1000000 in
theorem rlist_w (bd : Nat) (room : Int) (w : World) (hd : Blk w bd [I room, .slice none 0 0, I (-1)] 157) :
  Calls Tryz.prog 166 [ptr bd 0].toArray w (Pure w (.slice none 0 0)) := by
 refine calls_W Tryz.func166 rfl rfl rfl (by kernel_rfl) ?_
 have hx := Ext.refl w
 refine W_seq fun K1 hK1 => ?_
 refine wr ?_
 refine da ?_
 refine D_end (hK1 _ _ ?_)
 refine W_seq fun K2 hK2 => ?_
 refine wr ?_
 refine da ?_
 refine D_end (hK2 _ _ ?_)
 refine W_seq fun K3 hK3 => ?_
 refine W_seq fun K4 hK4 => ?_
 refine wr ?_
 refine da ?_
 refine D_end (hK4 _ _ ?_)
 refine W_block ?_
 refine W_loop (G := Unit) (fun uu => [(0, ptr bd 0), (2, .slice none 0 0), (3, .slice none 0 0), (4, I 0)]) (fun uu w' => Ext w w' ∧ True) (fun uu => 0) () ?_ ?_ ?_
 ·
  exact ⟨rfl, rfl, rfl, rfl, trivial⟩
 ·
  exact ⟨hx, trivial⟩
 ·
  intro X1 g1 w1 hF1
  revert hF1; revert g1; intro uu hF1
  clear hx
  obtain ⟨hx, htr⟩ := hF1
  refine W_seq fun K5 hK5 => ?_
  refine W_seq fun K6 hK6 => ?_
  refine wr ?_
  iterate 2 refine dm ?_
  refine dp (pv_nilP rfl) ?_
  refine dp (pv_fieldA (k := 1) (by kernel_rfl) rfl) ?_
  refine dq (lv_load (by kernel_rfl) rfl ((hd.ext hx).at rfl)) ?_
  refine dp (pv_lenV (e := 339) (k := 3) (by kernel_rfl) (Arr.nil (enc := fun x : List Value => x) (sz := 3) (w := w)).sl rfl) ?_
  refine dp (pv_lss rfl rfl) ?_
  refine D_end (hK6 _ _ ?_)
  refine W_if rfl (fun c1 => ?_) (fun c1 => ?_)
  ·
   exact absurd c1 (by decide)
  ·
   refine W_exit ?_
   refine hK3 _ _ ?_
   refine W_seq fun K7 hK7 => ?_
   refine wr ?_
   refine dm ?_
   refine da ?_
   refine D_end (hK7 _ _ ?_)
   refine W_ret ?_
   try dsimp only [then', inBlk, noGo]
   refine ro ?_
   exact ⟨rfl, hx⟩

set_option maxRecDepth 100000 in
set_option maxHeartbeats 1000000 in
theorem rclear_w (bd : Nat) (room : Int) (s : Str) (w : World) (hd : Blk w bd [I room, .slice none 0 0, I (-1)] 157) :
  Calls Tryz.prog 81 [ptr bd 0, S s, .slice none 0 0].toArray w (Pure w (I 0)) := by
 refine calls_W Tryz.func81 rfl rfl rfl (by kernel_rfl) ?_
 have hx := Ext.refl w
 refine W_seq fun K1 hK1 => ?_
 refine wr ?_
 refine da ?_
 refine D_end (hK1 _ _ ?_)
 refine W_seq fun K2 hK2 => ?_
 refine W_seq fun K3 hK3 => ?_
 refine wr ?_
 refine dm ?_
 refine dp (pv_eqP (by kernel_rfl) rfl rfl) ?_
 refine D_end (hK3 _ _ ?_)
 refine W_if rfl (fun c1 => ?_) (fun c1 => ?_)
 ·
  exact absurd c1 (by simp)
 ·
  refine W_skip ?_
  refine hK2 _ _ ?_
  refine W_seq fun K4 hK4 => ?_
  refine wr ?_
  refine dm ?_
  refine D_callP rfl (by kernel_rfl) (rlist_w bd room _ (hd.ext hx)) rfl RX.all (fun w1 x1 => ?_)
  replace hx := hx.trans x1
  refine da ?_
  refine D_end (hK4 _ _ ?_)
  refine W_seq fun K5 hK5 => ?_
  refine W_seq fun K6 hK6 => ?_
  refine wr ?_
  refine da ?_
  refine D_end (hK6 _ _ ?_)
  refine W_block ?_
  refine W_loop (G := Unit) (fun uu => [(0, ptr bd 0), (1, S s), (2, .slice none 0 0), (7, .slice none 0 0), (8, I 0)]) (fun uu w' => Ext w w' ∧ True) (fun uu => 0) () ?_ ?_ ?_
  ·
   exact ⟨rfl, rfl, rfl, rfl, rfl, trivial⟩
  ·
   exact ⟨hx, trivial⟩
  ·
   intro X2 g2 w2 hF2
   revert hF2; revert g2; intro uu hF2
   clear hx
   obtain ⟨hx, htr⟩ := hF2
   refine W_seq fun K7 hK7 => ?_
   refine W_seq fun K8 hK8 => ?_
   refine wr ?_
   iterate 2 refine dm ?_
   refine dp (pv_lenV (e := 9) (k := 1) (by kernel_rfl) (Arr.nil (enc := sEnc) (sz := 1) (w := w)).sl rfl) ?_
   refine dp (pv_lss rfl rfl) ?_
   refine D_end (hK8 _ _ ?_)
   refine W_if rfl (fun c2 => ?_) (fun c2 => ?_)
   ·
    exact absurd c2 (by decide)
   ·
    refine W_exit ?_
    refine hK5 _ _ ?_
    refine W_seq fun K9 hK9 => ?_
    refine wr ?_
    refine da ?_
    refine D_end (hK9 _ _ ?_)
    refine W_ret ?_
    try dsimp only [then', inBlk, noGo]
    refine ro ?_
    exact ⟨rfl, hx⟩

set_option maxRecDepth 100000 in
set_option maxHeartbeats 1000000 in
theorem rlsmOpen_w (bd : Nat) (room : Int) (w : World) (hd : Blk w bd [I room, .slice none 0 0, I (-1)] 157) :
  Calls Tryz.prog 32 [ptr bd 0].toArray w (Gives w (fun u w' => ∃ bs bl bm, u = .tuple #[ptr bs 0, I 0] ∧ RStE w' bs bd bl bm room)) := by
 refine calls_W Tryz.func32 rfl rfl rfl (by kernel_rfl) ?_
 have hx := Ext.refl w
 refine W_seq fun K1 hK1 => ?_
 refine wr ?_
 iterate 2 refine da ?_
 refine D_end (hK1 _ _ ?_)
 refine W_seq fun K2 hK2 => ?_
 refine W_seq fun K3 hK3 => ?_
 refine wr ?_
 refine dm ?_
 refine dp (pv_eqP (by kernel_rfl) rfl rfl) ?_
 refine D_end (hK3 _ _ ?_)
 refine W_if rfl (fun c1 => ?_) (fun c1 => ?_)
 ·
  exact absurd c1 (by simp)
 ·
  refine W_skip ?_
  refine hK2 _ _ ?_
  refine W_seq fun K4 hK4 => ?_
  refine wr ?_
  refine dm ?_
  refine D_callG rfl (by kernel_rfl) (rledgerOpen_w bd room _ (hd.ext hx)) rfl RX.all (fun u1 w1 x1 hf1 => ?_)
  have hsz1 := hx.size
  replace hx := hx.trans x1
  obtain ⟨bl, rfl, hl⟩ := hf1
  refine dm ?_
  refine dp (pv_ext rfl rfl) ?_
  refine dp (pv_ext rfl rfl) ?_
  iterate 2 refine da ?_
  refine D_end (hK4 _ _ ?_)
  refine W_seq fun K5 hK5 => ?_
  refine W_seq fun K6 hK6 => ?_
  refine wr ?_
  refine dm ?_
  refine dp (pv_neq rfl rfl) ?_
  refine D_end (hK6 _ _ ?_)
  refine W_if rfl (fun c2 => ?_) (fun c2 => ?_)
  ·
   exact absurd rfl c2
  ·
   refine W_skip ?_
   refine hK5 _ _ ?_
   refine W_seq fun K7 hK7 => ?_
   refine wr ?_
   iterate 2 refine dm ?_
   refine dp (pv_build (zs := [.int .i64 0, .slice none 0 0]) (pl := [(0, 1), (1, 1)]) (pv := [(0, ?a11_0)]) (cs := [?a11_0, .slice none 0 0]) (by kernel_rfl) (by kernel_rfl) ?h11 ?f11) ?k11
   case h11 => refine ⟨rfl, ?_, trivial⟩ <;> (conv => lhs; whnf)
   case f11 => rfl
   refine dp (pv_build (zs := [.slice none 0 0]) (pl := [(0, 1)]) (pv := []) (cs := [.slice none 0 0]) (by kernel_rfl) (by kernel_rfl) ?h12 ?f12) ?k12
   case h12 => exact trivial
   case f12 => rfl
   refine D_box rfl rfl rfl RX.all (fun b1 w2 e1 x2 m1 => ?_)
   have g1 : w.heap.size ≤ b1 := by have := hx.size; omega
   have a1_hl := hl.lt
   replace hl := hl.ext x2
   replace hx := hx.trans x2
   refine dp (pv_build (zs := [.pointer none, .pointer none, .int .i64 0, .slice none 0 0, .slice none 0 0, .pointer none, B false]) (pl := [(0, 1), (1, 1), (2, 2), (4, 1), (5, 1), (6, 1)]) (pv := [(0, ?a13_0), (1, ?a13_1), (2, .agg ⟨[?a13_2, ?a13_3]⟩), (4, ?a13_4)]) (cs := [?a13_0, ?a13_1, ?a13_2, ?a13_3, .slice none 0 0, ?a13_4, B false]) (by kernel_rfl) (by kernel_rfl) ?h13 ?f13) ?k13
   case h13 => refine ⟨rfl, ?_, rfl, ?_, rfl, ?_, rfl, ?_, trivial⟩ <;> (conv => lhs; whnf)
   case f13 => rfl
   refine D_box rfl rfl rfl RX.all (fun b2 w3 e2 x3 m2 => ?_)
   have g2 : w.heap.size ≤ b2 := by have := hx.size; omega
   have n2_1 : b1 < b2 := by have := m1.lt; omega
   have a2_hl := hl.lt
   replace hl := hl.ext x3
   replace m1 := m1.ext x3
   replace hx := hx.trans x3
   refine da ?_
   refine D_end (hK7 _ _ ?_)
   refine W_seq fun K8 hK8 => ?_
   refine W_seq fun K9 hK9 => ?_
   refine wr ?_
   refine dm ?_
   refine dp (pv_nilP rfl) ?_
   refine dp (pv_fieldA (k := 3) (by kernel_rfl) rfl) ?_
   refine dq (lv_load (by kernel_rfl) rfl (hl.at rfl)) ?_
   refine dp (pv_lenV (e := 5) (k := 1) (by kernel_rfl) (Arr.nil (enc := encB) (sz := 1) (w := w)).sl rfl) ?_
   refine dp (pv_gtr rfl rfl) ?_
   refine dm ?_
   refine D_splitP 37 rfl (fun c3 => ?_) (fun c3 => ?_)
   ·
    exact absurd c3 (by decide)
   ·
    refine dm ?_
    refine dp (pv_nilP rfl) ?_
    refine dp (pv_fieldA (k := 2) (by kernel_rfl) rfl) ?_
    refine dq (lv_load (by kernel_rfl) rfl (hl.at rfl)) ?_
    refine dp (pv_gtr rfl rfl) ?_
    refine dk' ?_
    refine D_end (hK9 _ _ ?_)
    refine W_if rfl (fun c4 => ?_) (fun c4 => ?_)
    ·
     exact absurd c4 (by decide)
    ·
     refine W_skip ?_
     refine hK8 _ _ ?_
     refine W_seq fun K10 hK10 => ?_
     refine wr ?_
     refine dm ?_
     refine D_callP rfl (by kernel_rfl) (rload_w b2 bd bl b1 _ m2) rfl RX.all (fun w4 x4 => ?_)
     replace hl := hl.ext x4
     replace m1 := m1.ext x4
     replace m2 := m2.ext x4
     replace hx := hx.trans x4
     refine da ?_
     refine D_end (hK10 _ _ ?_)
     refine W_seq fun K11 hK11 => ?_
     refine W_seq fun K12 hK12 => ?_
     refine wr ?_
     refine dm ?_
     refine dp (pv_neq rfl rfl) ?_
     refine D_end (hK12 _ _ ?_)
     refine W_if rfl (fun c5 => ?_) (fun c5 => ?_)
     ·
      exact absurd rfl c5
     ·
      refine W_skip ?_
      refine hK11 _ _ ?_
      refine W_seq fun K13 hK13 => ?_
      refine W_seq fun K14 hK14 => ?_
      refine wr ?_
      refine dm ?_
      refine dp (pv_nilP rfl) ?_
      refine dp (pv_fieldA (k := 2) (by kernel_rfl) rfl) ?_
      refine dq (lv_load (by kernel_rfl) rfl (hl.at rfl)) ?_
      refine dp (pv_add rfl rfl (by unfold inI64; omega)) ?_
      refine da ?_
      refine D_end (hK14 _ _ ?_)
      refine W_block ?_
      refine W_loop (G := Unit) (fun uu => [(0, ptr bd 0), (4, ptr bl 0), (5, I 0), (6, ptr b2 0), (7, I 1)]) (fun uu w' => Ext w w' ∧ Blk w' bl [ptr bd 0, S [115], I 0, .slice none 0 0, .slice none 0 0, B false] 182 ∧ Blk w' b1 [.slice none 0 0] 176 ∧ Blk w' b2 [ptr bd 0, ptr bl 0, I 1, .slice none 0 0, .slice none 0 0, ptr b1 0, B false] 179 ∧ True) (fun uu => 0) () ?_ ?_ ?_
      ·
       exact ⟨rfl, rfl, rfl, rfl, rfl, trivial⟩
      ·
       exact ⟨hx, hl, m1, m2, trivial⟩
      ·
       intro X5 g5 w5 hF5
       revert hF5; revert g5; intro uu hF5
       clear hx hl m1 m2
       obtain ⟨hx, hl, m1, m2, htr⟩ := hF5
       refine W_seq fun K15 hK15 => ?_
       refine W_seq fun K16 hK16 => ?_
       refine wr ?_
       iterate 2 refine dm ?_
       refine D_callP rfl (by kernel_rfl) (rlast_w bl bd _ hl) rfl RX.all (fun w6 x6 => ?_)
       replace hl := hl.ext x6
       replace m1 := m1.ext x6
       replace m2 := m2.ext x6
       replace hx := hx.trans x6
       refine dp (pv_leq rfl rfl) ?_
       refine D_end (hK16 _ _ ?_)
       refine W_if rfl (fun c6 => ?_) (fun c6 => ?_)
       ·
        exact absurd c6 (by decide)
       ·
        refine W_exit ?_
        refine hK13 _ _ ?_
        refine W_seq fun K17 hK17 => ?_
        refine wr ?_
        refine da ?_
        refine D_end (hK17 _ _ ?_)
        refine W_seq fun K18 hK18 => ?_
        refine W_seq fun K19 hK19 => ?_
        refine wr ?_
        refine da ?_
        refine D_end (hK19 _ _ ?_)
        refine W_block ?_
        refine W_loop (G := Unit) (fun uu => [(0, ptr bd 0), (5, I 0), (6, ptr b2 0), (12, .slice none 0 0), (13, I 0)]) (fun uu w' => Ext w w' ∧ Blk w' bl [ptr bd 0, S [115], I 0, .slice none 0 0, .slice none 0 0, B false] 182 ∧ Blk w' b1 [.slice none 0 0] 176 ∧ Blk w' b2 [ptr bd 0, ptr bl 0, I 1, .slice none 0 0, .slice none 0 0, ptr b1 0, B false] 179 ∧ True) (fun uu => 0) () ?_ ?_ ?_
        ·
         exact ⟨rfl, rfl, rfl, rfl, rfl, trivial⟩
        ·
         exact ⟨hx, hl, m1, m2, trivial⟩
        ·
         intro X7 g7 w7 hF7
         revert hF7; revert g7; intro uu hF7
         clear hx hl m1 m2
         obtain ⟨hx, hl, m1, m2, htr⟩ := hF7
         refine W_seq fun K20 hK20 => ?_
         refine W_seq fun K21 hK21 => ?_
         refine wr ?_
         iterate 2 refine dm ?_
         refine dp (pv_nilP rfl) ?_
         refine dp (pv_fieldA (k := 2) (by kernel_rfl) rfl) ?_
         refine dp (pv_fieldA (k := 1) (by kernel_rfl) rfl) ?_
         refine dq (lv_load (by kernel_rfl) rfl (m2.at rfl)) ?_
         refine dp (pv_lenV (e := 166) (k := 5) (by kernel_rfl) (Arr.nil (enc := fun v : Value => [v]) (sz := 5) (w := w)).sl rfl) ?_
         refine dp (pv_lss rfl rfl) ?_
         refine D_end (hK21 _ _ ?_)
         refine W_if rfl (fun c7 => ?_) (fun c7 => ?_)
         ·
          exact absurd c7 (by decide)
         ·
          refine W_exit ?_
          refine hK18 _ _ ?_
          refine W_seq fun K22 hK22 => ?_
          refine wr ?_
          iterate 2 refine dm ?_
          refine D_callP rfl (by kernel_rfl) (rclear_w bd room [116] _ (hd.ext hx)) rfl RX.all (fun w8 x8 => ?_)
          replace hl := hl.ext x8
          replace m1 := m1.ext x8
          replace m2 := m2.ext x8
          replace hx := hx.trans x8
          refine da ?_
          refine D_end (hK22 _ _ ?_)
          refine W_seq fun K23 hK23 => ?_
          refine W_seq fun K24 hK24 => ?_
          refine wr ?_
          refine dm ?_
          refine dp (pv_neq rfl rfl) ?_
          refine D_end (hK24 _ _ ?_)
          refine W_if rfl (fun c8 => ?_) (fun c8 => ?_)
          ·
           exact absurd rfl c8
          ·
           refine W_skip ?_
           refine hK23 _ _ ?_
           refine W_seq fun K25 hK25 => ?_
           refine wr ?_
           refine dm ?_
           iterate 2 refine da ?_
           refine D_end (hK25 _ _ ?_)
           refine W_ret ?_
           try dsimp only [then', inBlk, noGo]
           refine rt ?_
           exact ⟨_, rfl, hx, b2, bl, b1, rfl, ⟨m2, hl, hd.ext hx⟩⟩

end Go.Proofs.YteninjhmmjkckaaGreatDoor
