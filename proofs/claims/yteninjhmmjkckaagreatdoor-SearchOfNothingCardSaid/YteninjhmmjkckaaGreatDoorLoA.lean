/-
  Walks.
-/
import Derived.Test.YteninjhmmjkckaaGreatDoorChecked
import Derived.Test.YteninjhmmjkckaaGreatDoorSpMem
import Derived.KernelRfl
import Derived.Test.YteninjhmmjkckaaGreatDoorVcL
import Derived.Test.YteninjhmmjkckaaGreatDoorSpMem
namespace Go.Proofs.YteninjhmmjkckaaGreatDoor
open Go.Vc Go.Sp
attribute [local irreducible] W XW Dw DwT
set_option linter.unusedVariables false
set_option linter.unusedSimpArgs false

theorem diskM : MapK Tryz.prog 152 9 331 S pO (fun s => s.length ≤ maxLen) := mapS (by kernel_rfl) (by kernel_rfl) pO_inj

set_option maxRecDepth 100000 in
set_option maxHeartbeats 1000000 in
theorem insE_w (w : World) :
  Calls Tryz.prog 256 [.slice none 0 0, I 0, I 0].toArray w (Pure w (.tuple #[])) := by
 refine calls_W Tryz.func256 rfl rfl rfl (by kernel_rfl) ?_
 have hx := Ext.refl w
 refine W_seq fun K1 hK1 => ?_
 refine wr ?_
 refine dm ?_
 refine dp (pv_add rfl rfl (by unfold inI64; omega)) ?_
 refine da ?_
 refine D_end (hK1 _ _ ?_)
 refine W_block ?_
 refine W_loop (G := Unit) (fun uu => [(0, .slice none 0 0), (1, I 0), (2, I 0), (6, I (0 + 1))]) (fun uu w' => Ext w w' ∧ True) (fun uu => 0) () ?_ ?_ ?_
 ·
  exact ⟨rfl, rfl, rfl, rfl, trivial⟩
 ·
  exact ⟨hx, trivial⟩
 ·
  intro X1 g1 w1 hF1
  revert hF1; revert g1; intro uu hF1
  clear hx
  obtain ⟨hx, htr⟩ := hF1
  refine W_seq fun K2 hK2 => ?_
  refine W_seq fun K3 hK3 => ?_
  refine wr ?_
  iterate 2 refine dm ?_
  refine dp (pv_lss rfl rfl) ?_
  refine D_end (hK3 _ _ ?_)
  refine W_if rfl (fun c1 => ?_) (fun c1 => ?_)
  ·
   exact absurd c1 (by decide)
  ·
   refine W_exit ?_
   refine norm_ret ?_
   try dsimp only [then', inBlk, noGo]
   refine ret_none rfl ?_
   exact ⟨rfl, hx⟩

set_option maxRecDepth 100000 in
set_option maxHeartbeats 1000000 in
theorem len64_w (w : World) :
  Calls Tryz.prog 266 [.int .u64 0].toArray w (Pure w (I 0)) := by
 refine calls_W Tryz.func266 rfl rfl rfl (by kernel_rfl) ?_
 have hx := Ext.refl w
 refine W_seq fun K1 hK1 => ?_
 refine wr ?_
 refine da ?_
 refine D_end (hK1 _ _ ?_)
 refine W_seq fun K2 hK2 => ?_
 refine W_seq fun K3 hK3 => ?_
 refine wr ?_
 refine dm ?_
 refine dp (pv_geq rfl rfl) ?_
 refine D_end (hK3 _ _ ?_)
 refine W_if rfl (fun c1 => ?_) (fun c1 => ?_)
 ·
  exact absurd c1 (by decide)
 ·
  refine W_skip ?_
  refine hK2 _ _ ?_
  refine W_seq fun K4 hK4 => ?_
  refine W_seq fun K5 hK5 => ?_
  refine wr ?_
  refine dm ?_
  refine dp (pv_geq rfl rfl) ?_
  refine D_end (hK5 _ _ ?_)
  refine W_if rfl (fun c2 => ?_) (fun c2 => ?_)
  ·
   exact absurd c2 (by decide)
  ·
   refine W_skip ?_
   refine hK4 _ _ ?_
   refine W_seq fun K6 hK6 => ?_
   refine W_seq fun K7 hK7 => ?_
   refine wr ?_
   refine dm ?_
   refine dp (pv_geq rfl rfl) ?_
   refine D_end (hK7 _ _ ?_)
   refine W_if rfl (fun c3 => ?_) (fun c3 => ?_)
   ·
    exact absurd c3 (by decide)
   ·
    refine W_skip ?_
    refine hK6 _ _ ?_
    refine W_seq fun K8 hK8 => ?_
    refine wr ?_
    iterate 2 refine dm ?_
    refine dp (pv_toB rfl (by kernel_rfl) (by kernel_rfl)) ?_
    refine dp (pv_idx80 (c := 0) (by kernel_rfl) rfl rfl rfl) ?_
    refine dp (pv_convB rfl (by kernel_rfl) (by kernel_rfl)) ?_
    refine dp (pv_add (a := 0) (b := 0) rfl rfl (by simp [inI64])) ?_
    refine da ?_
    refine D_end (hK8 _ _ ?_)
    refine W_ret ?_
    try dsimp only [then', inBlk, noGo]
    refine ro ?_
    exact ⟨rfl, hx⟩

set_option maxRecDepth 100000 in
set_option maxHeartbeats 1000000 in
theorem blen_w (w : World) :
  Calls Tryz.prog 181 [.int .u64 0].toArray w (Pure w (I 0)) := by
 refine calls_W Tryz.func181 rfl rfl rfl (by kernel_rfl) ?_
 have hx := Ext.refl w
 refine W_seq fun K1 hK1 => ?_
 refine wr ?_
 refine da ?_
 refine D_end (hK1 _ _ ?_)
 refine W_seq fun K2 hK2 => ?_
 refine W_f rfl ?_
 refine W_skip ?_
 refine hK2 _ _ ?_
 refine W_seq fun K3 hK3 => ?_
 refine wr ?_
 refine dm ?_
 refine D_callP rfl (by kernel_rfl) (len64_w _) rfl RX.all (fun w1 x1 => ?_)
 replace hx := hx.trans x1
 refine da ?_
 refine D_end (hK3 _ _ ?_)
 refine W_ret ?_
 try dsimp only [then', inBlk, noGo]
 refine ro ?_
 exact ⟨rfl, hx⟩

set_option maxRecDepth 100000 in
set_option maxHeartbeats 1000000 in
theorem pdqE_w (w : World) :
  Calls Tryz.prog 180 [.slice none 0 0, I 0, I 0, I 0].toArray w (Pure w (.tuple #[])) := by
 refine calls_W Tryz.func180 rfl rfl rfl (by kernel_rfl) ?_
 have hx := Ext.refl w
 refine W_seq fun K1 hK1 => ?_
 refine wr ?_
 refine da ?_
 refine D_end (hK1 _ _ ?_)
 refine W_seq fun K2 hK2 => ?_
 refine wr ?_
 refine da ?_
 refine D_end (hK2 _ _ ?_)
 refine W_block ?_
 refine W_loop (G := Unit) (fun uu => [(0, .slice none 0 0), (1, I 0), (2, I 0)]) (fun uu w' => Ext w w' ∧ True) (fun uu => 0) () ?_ ?_ ?_
 ·
  exact ⟨rfl, rfl, rfl, trivial⟩
 ·
  exact ⟨hx, trivial⟩
 ·
  intro X1 g1 w1 hF1
  revert hF1; revert g1; intro uu hF1
  clear hx
  obtain ⟨hx, htr⟩ := hF1
  refine W_block ?_
  refine W_seq fun K3 hK3 => ?_
  refine wr ?_
  iterate 2 refine dm ?_
  refine dp (pv_sub rfl rfl (by unfold inI64; omega)) ?_
  refine da ?_
  refine D_end (hK3 _ _ ?_)
  refine W_seq fun K4 hK4 => ?_
  refine W_seq fun K5 hK5 => ?_
  refine wr ?_
  refine dm ?_
  refine dp (pv_leq rfl rfl) ?_
  refine D_end (hK5 _ _ ?_)
  refine W_if rfl (fun c1 => ?_) (fun c1 => ?_)
  ·
   refine W_seq fun K6 hK6 => ?_
   refine wr ?_
   iterate 3 refine dm ?_
   refine D_callP rfl (by kernel_rfl) (insE_w _) rfl RX.all (fun w2 x2 => ?_)
   replace hx := hx.trans x2
   refine D_end (hK6 _ _ ?_)
   refine W_ret ?_
   try dsimp only [then', inBlk, noGo]
   refine ret_none rfl ?_
   exact ⟨rfl, hx⟩
  ·
   exact absurd c1 (by decide)

set_option maxRecDepth 100000 in
set_option maxHeartbeats 1000000 in
theorem sortE_w (w : World) :
  Calls Tryz.prog 94 [.slice none 0 0].toArray w (Pure w (.tuple #[])) := by
 refine calls_W Tryz.func94 rfl rfl rfl (by kernel_rfl) ?_
 have hx := Ext.refl w
 refine W_seq fun K1 hK1 => ?_
 refine wr ?_
 refine dm ?_
 refine dp (pv_lenV (e := 9) (k := 1) (by kernel_rfl) (Arr.nil (enc := sEnc) (sz := 1) (w := w)).sl rfl) ?_
 refine da ?_
 refine D_end (hK1 _ _ ?_)
 refine wr ?_
 iterate 3 refine dm ?_
 refine dp (pv_conv (k := .u64) rfl (by kernel_rfl) (by kernel_rfl)) ?_
 refine D_callP rfl (by kernel_rfl) (blen_w _) rfl RX.all (fun w1 x1 => ?_)
 replace hx := hx.trans x1
 refine D_callP rfl (by kernel_rfl) (pdqE_w _) rfl RX.all (fun w2 x2 => ?_)
 replace hx := hx.trans x2
 refine D_end (?_)
 refine norm_ret ?_
 try dsimp only [then', inBlk, noGo]
 refine ret_none rfl ?_
 exact ⟨rfl, hx⟩

set_option maxRecDepth 100000 in
set_option maxHeartbeats 1000000 in
theorem keysID_w (b ly : Nat) (mv : Value) (J : Nat → World → Prop) (w : World) (hJ : ∀ k W, J k W → Blk W b [mv] 152 ∧ EmpV W mv) (hE : ∀ k W W', J k W → Ext W W' → J k W') (hj : J 0 w) :
  Calls Tryz.prog 303 [.func (.yield ly) #[] #[], ptr b 0].toArray w (fun e W' => (∃ v, e = .returned v) ∧ J 0 W') := by
 refine calls_WX Tryz.func303 rfl rfl rfl (by kernel_rfl) ?_
 have hx := Ext.refl w
 obtain ⟨hb, hv⟩ := hJ _ _ hj
 refine WX_seq fun K1 hK1 => ?_
 refine WX_reg [.l, .x] rfl ?_
 refine dq (lv_load (by kernel_rfl) rfl ((hb.ext hx).at rfl)) ?_
 refine D_rangeE (by kernel_rfl) rfl rfl (hv.ext hx) RX.all (fun b1 w1 e1 x1 it1 => ?_)
 have g1 : w.heap.size ≤ b1 := by have := hx.size; omega
 replace hx := hx.trans x1
 refine D_end (hK1 _ _ _ ?_)
 refine WX_block ?_
 refine WX_loop (G := Unit) (fun uu => [(0, .func (.yield ly) #[] #[]), (5, ptr b1 0)]) (fun uu w' => Ext w w' ∧ IterE w' b1 ∧ True) (fun uu => 0) () ?_ ?_ ?_
 ·
  exact ⟨rfl, rfl, trivial⟩
 ·
  exact ⟨hx, it1, trivial⟩
 ·
  intro X2 g2 w2 hF2
  revert hF2; revert g2; intro uu hF2
  clear hx it1
  obtain ⟨hx, it1, htr⟩ := hF2
  refine WX_seq fun K2 hK2 => ?_
  refine WX_reg [.x, .p] rfl ?_
  refine D_nextE rfl rfl it1 RX.all ?_
  refine dp (pv_ext rfl rfl) ?_
  refine D_end (hK2 _ _ _ ?_)
  refine WX_seq fun K3 hK3 => ?_
  refine WX_f rfl ?_
  refine WX_exit ?_
  try dsimp only [thenX, inBlkX]
  refine retX_nilN ?_
  refine ret_none rfl ?_
  exact ⟨⟨_, rfl⟩, hE _ _ _ hj hx⟩

set_option maxRecDepth 100000 in
set_option maxHeartbeats 1000000 in
theorem keysD_w (mv : Value) (w : World) (hv : EmpV w mv) :
  Calls Tryz.prog 226 [mv].toArray w (Gives w (fun u w' => ∃ b, u = fnC 303 [ptr b 0] ∧ Blk w' b [mv] 152)) := by
 refine calls_W Tryz.func226 rfl rfl rfl (by kernel_rfl) ?_
 have hx := Ext.refl w
 refine W_seq fun K1 hK1 => ?_
 refine wr ?_
 refine D_box rfl rfl (emp_cells hv) RX.all (fun b1 w1 e1 x1 m1 => ?_)
 have g1 : w.heap.size ≤ b1 := by have := hx.size; omega
 replace hx := hx.trans x1
 refine da ?_
 refine D_end (hK1 _ _ ?_)
 refine W_seq fun K2 hK2 => ?_
 refine wr ?_
 refine dp (pv_makeFunc rfl) ?_
 refine da ?_
 refine D_end (hK2 _ _ ?_)
 refine W_ret ?_
 try dsimp only [then', inBlk, noGo]
 refine ro ?_
 exact ⟨_, rfl, hx, b1, rfl, m1⟩

set_option maxRecDepth 100000 in
set_option maxHeartbeats 1000000 in
theorem appendSeqD_w (bk : Nat) (mv : Value) (w : World) (hk : Blk w bk [mv] 152) (hv : EmpV w mv) :
  Calls Tryz.prog 179 [.slice none 0 0, fnC 303 [ptr bk 0]].toArray w (Pure w (.slice none 0 0)) := by
 refine calls_WX Tryz.func179 rfl rfl rfl (by kernel_rfl) ?_
 have hx := Ext.refl w
 refine WX_seq fun K1 hK1 => ?_
 refine WX_reg [.x, .p] rfl ?_
 refine D_box rfl rfl rfl RX.all (fun b1 w1 e1 x1 m1 => ?_)
 have g1 : w.heap.size ≤ b1 := by have := hx.size; omega
 replace hx := hx.trans x1
 refine da ?_
 refine D_end (hK1 _ _ _ ?_)
 refine WX_seq fun K2 hK2 => ?_
 refine WX_seq fun K3 hK3 => ?_
 refine WX_reg [.p] rfl ?_
 refine dm ?_
 refine D_end (hK3 _ _ _ ?_)
 refine WX_block ?_
 have hI0 : (Ext w w1 ∧ Blk w1 b1 [.slice none 0 0] 22 ∧ Blk w1 bk [mv] 152 ∧ EmpV w1 mv) := ⟨hx, m1, hk.ext hx, hv.ext hx⟩
 have hx3 := hx.size
 have hbk := hk.lt
 have hb1 := m1.lt
 refine WX_range (gf := 303) (N := 0) (lb := #[ptr bk 0]) (args := fun k => [S []]) rfl (by kernel_rfl) (fun _ => rfl) (fun k W => (Ext w W ∧ Blk W b1 [.slice none 0 0] 22 ∧ Blk W bk [mv] 152 ∧ EmpV W mv)) (fun k E1 W => False) hI0 ?hX ?hL ?hAL ?hit ?assign ?body ?h
 case hX =>
  rintro k W W' ⟨h1, h2, h3, h4⟩ x
  exact ⟨h1.trans x, h2.ext x, h3.ext x, h4.ext x⟩
 case hL =>
  rintro k W l' o o' ⟨h1, h2, h3, h4⟩ hle hl ho
  have := hx.size
  exact ⟨h1.own (Mod.putObj W l' o') (fun i hi => by have hi2 : i = l' := hi; omega), h2.put o' hl ho, h3.put o' hl ho, h4.imp id fun ⟨b, e, hb⟩ => ⟨b, e, hb.mod (Mod.putObj W l' o') (fun e2 => by have e3 : b = l' := e2; have h9 := hv.lt e; omega)⟩⟩
 case hAL => exact fun k E1 W l' o o' h => h.elim
 case hit =>
  intro ly J hJI hJE hY W hj
  exact keysID_w bk ly mv J W (fun k W h => ⟨(hJI k W h).2.2.1, (hJI k W h).2.2.2⟩) hJE hj
 case assign => exact fun k l W hk => absurd hk (Nat.not_lt_zero k)
 case body => exact fun k l E1 W keep hk => absurd hk (Nat.not_lt_zero k)
 case h =>
  intro D w8 hD hI hdl
  clear hx m1 hI0
  obtain ⟨hx, m1, -, -⟩ := hI
  refine hK2 _ _ _ ?_
  refine WX_seq fun K4 hK4 => ?_
  refine WX_reg [.l, .p] rfl ?_
  refine dq (lv_load (by kernel_rfl) rfl (m1.at rfl)) ?_
  refine da ?_
  refine D_end (hK4 _ _ _ ?_)
  refine WX_ret ?_
  try dsimp only [thenX, inBlkX]
  refine retX_mark hdl ?_
  refine ro ?_
  have hxs := hx.size
  exact ⟨rfl, hx.own (Mod.putObj _ D _) (fun i hi => by have hi2 : i = D := hi; omega)⟩

set_option maxRecDepth 100000 in
set_option maxHeartbeats 1000000 in
theorem collectD_w (bk : Nat) (mv : Value) (w : World) (hk : Blk w bk [mv] 152) (hv : EmpV w mv) :
  Calls Tryz.prog 93 [fnC 303 [ptr bk 0]].toArray w (Pure w (.slice none 0 0)) := by
 refine calls_W Tryz.func93 rfl rfl rfl (by kernel_rfl) ?_
 have hx := Ext.refl w
 refine W_seq fun K1 hK1 => ?_
 refine wr ?_
 refine da ?_
 refine D_end (hK1 _ _ ?_)
 refine W_seq fun K2 hK2 => ?_
 refine wr ?_
 refine dm ?_
 refine D_callP rfl (by kernel_rfl) (appendSeqD_w bk mv _ (hk.ext hx) (hv.ext hx)) rfl RX.all (fun w1 x1 => ?_)
 replace hx := hx.trans x1
 refine da ?_
 refine D_end (hK2 _ _ ?_)
 refine W_ret ?_
 try dsimp only [then', inBlk, noGo]
 refine ro ?_
 exact ⟨rfl, hx⟩

set_option maxRecDepth 100000 in
set_option maxHeartbeats 1000000 in
theorem sortedD_w (bk : Nat) (mv : Value) (w : World) (hk : Blk w bk [mv] 152) (hv : EmpV w mv) :
  Calls Tryz.prog 36 [fnC 303 [ptr bk 0]].toArray w (Pure w (.slice none 0 0)) := by
 refine calls_W Tryz.func36 rfl rfl rfl (by kernel_rfl) ?_
 have hx := Ext.refl w
 refine W_seq fun K1 hK1 => ?_
 refine wr ?_
 refine da ?_
 refine D_end (hK1 _ _ ?_)
 refine W_seq fun K2 hK2 => ?_
 refine wr ?_
 refine dm ?_
 refine D_callP rfl (by kernel_rfl) (collectD_w bk mv _ (hk.ext hx) (hv.ext hx)) rfl RX.all (fun w1 x1 => ?_)
 replace hx := hx.trans x1
 refine da ?_
 refine D_end (hK2 _ _ ?_)
 refine W_seq fun K3 hK3 => ?_
 refine wr ?_
 refine dm ?_
 refine D_callP rfl (by kernel_rfl) (sortE_w _) rfl RX.all (fun w2 x2 => ?_)
 replace hx := hx.trans x2
 refine D_end (hK3 _ _ ?_)
 refine W_seq fun K4 hK4 => ?_
 refine wr ?_
 refine dm ?_
 refine da ?_
 refine D_end (hK4 _ _ ?_)
 refine W_ret ?_
 try dsimp only [then', inBlk, noGo]
 refine ro ?_
 exact ⟨rfl, hx⟩

set_option maxRecDepth 100000 in
set_option maxHeartbeats 1000000 in
theorem list_w (bd mf : Nat) (room : Int) (w : World) (hd : Blk w bd [I room, .map (some mf), B false, I 0] 154) (hm : EmpM w mf) :
  Calls Tryz.prog 147 [ptr bd 0].toArray w (Pure w (.slice none 0 0)) := by
 refine calls_W Tryz.func147 rfl rfl rfl (by kernel_rfl) ?_
 have hx := Ext.refl w
 refine W_seq fun K1 hK1 => ?_
 refine wr ?_
 refine da ?_
 refine D_end (hK1 _ _ ?_)
 refine W_seq fun K2 hK2 => ?_
 refine W_seq fun K3 hK3 => ?_
 refine wr ?_
 refine dm ?_
 refine dp (pv_eqP (by kernel_rfl) rfl rfl) ?_
 refine D_end (hK3 _ _ ?_)
 refine W_if rfl (fun c1 => ?_) (fun c1 => ?_)
 ·
  exact absurd c1 (by simp)
 ·
  refine W_skip ?_
  refine hK2 _ _ ?_
  refine W_seq fun K4 hK4 => ?_
  refine wr ?_
  refine dm ?_
  refine dp (pv_nilP rfl) ?_
  refine dp (pv_fieldA (k := 1) (by kernel_rfl) rfl) ?_
  refine dq (lv_load (by kernel_rfl) rfl ((hd.ext hx).at rfl)) ?_
  refine D_callG rfl (by kernel_rfl) (keysD_w (.map (some mf)) _ (hm.ext hx).val) rfl RX.all (fun u1 w1 x1 hf1 => ?_)
  have hsz1 := hx.size
  replace hx := hx.trans x1
  obtain ⟨bk, rfl, hk⟩ := hf1
  refine D_callP rfl (by kernel_rfl) (sortedD_w bk _ _ hk (hm.ext hx).val) rfl RX.all (fun w2 x2 => ?_)
  replace hk := hk.ext x2
  replace hx := hx.trans x2
  refine da ?_
  refine D_end (hK4 _ _ ?_)
  refine W_ret ?_
  try dsimp only [then', inBlk, noGo]
  refine ro ?_
  exact ⟨rfl, hx⟩

set_option maxRecDepth 100000 in
set_option maxHeartbeats 1000000 in
theorem indexE_w (s : Str) (w : World) :
  Calls Tryz.prog 193 [.slice none 0 0, S s].toArray w (Pure w (I (-1))) := by
 refine calls_W Tryz.func193 rfl rfl rfl (by kernel_rfl) ?_
 have hx := Ext.refl w
 refine W_seq fun K1 hK1 => ?_
 refine wr ?_
 refine da ?_
 refine D_end (hK1 _ _ ?_)
 refine W_seq fun K2 hK2 => ?_
 refine W_seq fun K3 hK3 => ?_
 refine wr ?_
 refine dm ?_
 refine dp (pv_lenV (e := 9) (k := 1) (by kernel_rfl) (Arr.nil (enc := sEnc) (sz := 1) (w := w)).sl rfl) ?_
 refine dm ?_
 refine D_end (hK3 _ _ ?_)
 refine W_block ?_
 refine W_loop (G := Unit) (fun uu => [(0, .slice none 0 0), (1, S s), (7, I 0), (8, I 0)]) (fun uu w' => Ext w w' ∧ True) (fun uu => 0) () ?_ ?_ ?_
 ·
  exact ⟨rfl, rfl, rfl, rfl, trivial⟩
 ·
  exact ⟨hx, trivial⟩
 ·
  intro X1 g1 w1 hF1
  revert hF1; revert g1; intro uu hF1
  clear hx
  obtain ⟨hx, htr⟩ := hF1
  refine W_seq fun K4 hK4 => ?_
  refine wr ?_
  refine dp (pv_lss rfl rfl) ?_
  refine D_end (hK4 _ _ ?_)
  refine W_seq fun K5 hK5 => ?_
  refine W_if rfl (fun c1 => ?_) (fun c1 => ?_)
  ·
   exact absurd c1 (by decide)
  ·
   refine W_exit ?_
   refine hK2 _ _ ?_
   refine W_seq fun K6 hK6 => ?_
   refine wr ?_
   refine da ?_
   refine D_end (hK6 _ _ ?_)
   refine W_ret ?_
   try dsimp only [then', inBlk, noGo]
   refine ro ?_
   exact ⟨rfl, hx⟩

set_option maxRecDepth 100000 in
set_option maxHeartbeats 1000000 in
theorem containsE_w (s : Str) (w : World) :
  Calls Tryz.prog 111 [.slice none 0 0, S s].toArray w (Pure w (B false)) := by
 refine calls_W Tryz.func111 rfl rfl rfl (by kernel_rfl) ?_
 have hx := Ext.refl w
 refine W_seq fun K1 hK1 => ?_
 refine wr ?_
 refine da ?_
 refine D_end (hK1 _ _ ?_)
 refine W_seq fun K2 hK2 => ?_
 refine wr ?_
 iterate 2 refine dm ?_
 refine D_callP rfl (by kernel_rfl) (indexE_w s _) rfl RX.all (fun w1 x1 => ?_)
 replace hx := hx.trans x1
 refine dp (pv_geq rfl rfl) ?_
 refine da ?_
 refine D_end (hK2 _ _ ?_)
 refine W_ret ?_
 try dsimp only [then', inBlk, noGo]
 refine ro ?_
 exact ⟨rfl, hx⟩

set_option maxRecDepth 100000 in
set_option maxHeartbeats 1000000 in
theorem has_w (bd mf : Nat) (room : Int) (s : Str) (w : World) (hd : Blk w bd [I room, .map (some mf), B false, I 0] 154) (hm : EmpM w mf) :
  Calls Tryz.prog 208 [ptr bd 0, S s].toArray w (Pure w (B false)) := by
 refine calls_W Tryz.func208 rfl rfl rfl (by kernel_rfl) ?_
 have hx := Ext.refl w
 refine W_seq fun K1 hK1 => ?_
 refine wr ?_
 refine da ?_
 refine D_end (hK1 _ _ ?_)
 refine W_seq fun K2 hK2 => ?_
 refine wr ?_
 refine dm ?_
 refine D_callP rfl (by kernel_rfl) (list_w bd mf room _ (hd.ext hx) (hm.ext hx)) rfl RX.all (fun w1 x1 => ?_)
 replace hx := hx.trans x1
 refine dm ?_
 refine D_callP rfl (by kernel_rfl) (containsE_w s _) rfl RX.all (fun w2 x2 => ?_)
 replace hx := hx.trans x2
 refine da ?_
 refine D_end (hK2 _ _ ?_)
 refine W_ret ?_
 try dsimp only [then', inBlk, noGo]
 refine ro ?_
 exact ⟨rfl, hx⟩

set_option maxRecDepth 100000 in
set_option maxHeartbeats 1000000 in
theorem removes_w (bd mf : Nat) (room : Int) (l : List Str) (v : Value) (w : World) (hd : Blk w bd [I room, .map (some mf), B false, I 0] 154) (hm : EmpM w mf) (hv : Arr sEnc 1 w v l) (hl : l.length ≤ 1000) :
  Calls Tryz.prog 205 [ptr bd 0, v].toArray w (Pure w (I 0)) := by
 refine calls_W Tryz.func205 rfl rfl rfl (by kernel_rfl) ?_
 have hx := Ext.refl w
 refine W_seq fun K1 hK1 => ?_
 refine wr ?_
 refine da ?_
 refine D_end (hK1 _ _ ?_)
 refine W_seq fun K2 hK2 => ?_
 refine W_seq fun K3 hK3 => ?_
 refine wr ?_
 refine dm ?_
 refine dp (pv_lenV (e := 9) (k := 1) (by kernel_rfl) hv.sl rfl) ?_
 refine dm ?_
 refine D_end (hK3 _ _ ?_)
 refine W_block ?_
 refine W_loop (G := Nat) (fun k => [(0, ptr bd 0), (8, v), (9, I ↑l.length), (10, I ↑k)]) (fun k w' => Ext w w' ∧ k ≤ l.length) (fun k => l.length - k) 0 ?_ ?_ ?_
 ·
  exact ⟨rfl, rfl, rfl, rfl, trivial⟩
 ·
  exact ⟨hx, Nat.zero_le _⟩
 ·
  intro X1 g1 w1 hF1
  revert hF1; revert g1; intro k hF1
  clear hx
  obtain ⟨hx, hk1⟩ := hF1
  refine W_seq fun K4 hK4 => ?_
  refine wr ?_
  refine dp (pv_lss rfl rfl) ?_
  refine D_end (hK4 _ _ ?_)
  refine W_seq fun K5 hK5 => ?_
  refine W_if rfl (fun c1 => ?_) (fun c1 => ?_)
  ·
   obtain ⟨s, hk⟩ : ∃ s, l[k]? = some s := ⟨_, List.getElem?_eq_getElem (by omega)⟩
   refine W_skip ?_
   refine hK5 _ _ ?_
   refine W_seq fun K6 hK6 => ?_
   refine W_block ?_
   refine W_seq fun K7 hK7 => ?_
   refine wr ?_
   refine dp (pv_idxA (e := 9) (k := 1) (by kernel_rfl) hv.sl rfl rfl (hv.lt hk)) ?_
   refine dq (lv_load (by kernel_rfl) rfl (((hv.ext hx).row hk).at0 rfl)) ?_
   refine da ?_
   refine D_end (hK7 _ _ ?_)
   refine W_seq fun K8 hK8 => ?_
   refine W_seq fun K9 hK9 => ?_
   refine wr ?_
   iterate 2 refine dm ?_
   refine D_callP rfl (by kernel_rfl) (has_w bd mf room s _ (hd.ext hx) (hm.ext hx)) rfl RX.all (fun w2 x2 => ?_)
   replace hx := hx.trans x2
   refine dn ?_
   refine D_end (hK9 _ _ ?_)
   refine W_t rfl ?_
   refine W_exit ?_
   refine hK6 _ _ ?_
   refine wr ?_
   refine dp (pv_add rfl rfl (by unfold inI64; omega)) ?_
   refine dm ?_
   refine D_end (?_)
   refine ⟨k + 1, ⟨rfl, rfl, rfl, rfl, trivial⟩, ⟨hx, by omega⟩, by omega⟩
  ·
   refine W_exit ?_
   refine hK2 _ _ ?_
   refine W_seq fun K10 hK10 => ?_
   refine wr ?_
   refine da ?_
   refine D_end (hK10 _ _ ?_)
   refine W_ret ?_
   try dsimp only [then', inBlk, noGo]
   refine ro ?_
   exact ⟨rfl, hx⟩

set_option maxRecDepth 100000 in
set_option maxHeartbeats 1000000 in
theorem read_w (bd mf : Nat) (room : Int) (s : Str) (w : World) (hd : Blk w bd [I room, .map (some mf), B false, I 0] 154) (hm : EmpM w mf) (hs : s.length ≤ maxLen) :
  Calls Tryz.prog 210 [ptr bd 0, S s].toArray w (Pure w (.tuple #[.slice none 0 0, I 7])) := by
 refine calls_W Tryz.func210 rfl rfl rfl (by kernel_rfl) ?_
 have hx := Ext.refl w
 have hma : Vc.MapAt Tryz.prog 9 S pO w mf 0 (fun _ => none) := hm.at
 refine W_seq fun K1 hK1 => ?_
 refine wr ?_
 iterate 2 refine da ?_
 refine D_end (hK1 _ _ ?_)
 refine W_seq fun K2 hK2 => ?_
 refine W_seq fun K3 hK3 => ?_
 refine wr ?_
 refine dm ?_
 refine dp (pv_eqP (by kernel_rfl) rfl rfl) ?_
 refine dm ?_
 refine D_splitP 8 rfl (fun c1 => ?_) (fun c1 => ?_)
 ·
  exact absurd c1 (by simp)
 ·
  refine dm ?_
  refine dp (pv_nilP rfl) ?_
  refine dp (pv_fieldA (k := 1) (by kernel_rfl) rfl) ?_
  refine dq (lv_load (by kernel_rfl) rfl ((hd.ext hx).at rfl)) ?_
  refine dm ?_
  refine dq (lv_look diskM (kx := s) (z0 := none) rfl rfl (by kernel_rfl) (hma.ext hx) hs) ?_
  refine dp (pv_eqP (by kernel_rfl) rfl rfl) ?_
  refine dk' ?_
  refine D_end (hK3 _ _ ?_)
  refine W_if rfl (fun c2 => ?_) (fun c2 => ?_)
  ·
   refine W_seq fun K4 hK4 => ?_
   refine wr ?_
   iterate 2 refine da ?_
   refine D_end (hK4 _ _ ?_)
   refine W_ret ?_
   try dsimp only [then', inBlk, noGo]
   refine rt ?_
   exact ⟨rfl, hx⟩
  ·
   exact absurd rfl c2

set_option maxRecDepth 100000 in
set_option maxHeartbeats 1000000 in
theorem load_w (bd mf : Nat) (room : Int) (s : Str) (w : World) (hd : Blk w bd [I room, .map (some mf), B false, I 0] 154) (hm : EmpM w mf) (hs : s.length ≤ maxLen) :
  Calls Tryz.prog 138 [ptr bd 0, S s].toArray w (Pure w (.tuple #[.slice none 0 0, I 7])) := by
 refine calls_W Tryz.func138 rfl rfl rfl (by kernel_rfl) ?_
 have hx := Ext.refl w
 refine W_seq fun K1 hK1 => ?_
 refine wr ?_
 iterate 2 refine da ?_
 refine D_end (hK1 _ _ ?_)
 refine W_seq fun K2 hK2 => ?_
 refine W_seq fun K3 hK3 => ?_
 refine wr ?_
 refine dm ?_
 refine dp (pv_eqP (by kernel_rfl) rfl rfl) ?_
 refine D_end (hK3 _ _ ?_)
 refine W_if rfl (fun c1 => ?_) (fun c1 => ?_)
 ·
  exact absurd c1 (by simp)
 ·
  refine W_skip ?_
  refine hK2 _ _ ?_
  refine W_seq fun K4 hK4 => ?_
  refine wr ?_
  iterate 2 refine dm ?_
  refine D_callP rfl (by kernel_rfl) (read_w bd mf room s _ (hd.ext hx) (hm.ext hx) hs) rfl RX.all (fun w1 x1 => ?_)
  replace hx := hx.trans x1
  refine dm ?_
  refine dp (pv_ext rfl rfl) ?_
  refine dp (pv_ext rfl rfl) ?_
  iterate 2 refine da ?_
  refine D_end (hK4 _ _ ?_)
  refine W_seq fun K5 hK5 => ?_
  refine W_seq fun K6 hK6 => ?_
  refine wr ?_
  refine dm ?_
  refine dp (pv_neq rfl rfl) ?_
  refine D_end (hK6 _ _ ?_)
  refine W_if rfl (fun c2 => ?_) (fun c2 => ?_)
  ·
   refine W_seq fun K7 hK7 => ?_
   refine wr ?_
   refine dm ?_
   iterate 2 refine da ?_
   refine D_end (hK7 _ _ ?_)
   refine W_ret ?_
   try dsimp only [then', inBlk, noGo]
   refine rt ?_
   exact ⟨rfl, hx⟩
  ·
   exact absurd c2 (by decide)

set_option maxRecDepth 100000 in
set_option maxHeartbeats 1000000 in
theorem imgName_w (bl bd : Nat) (w : World) (hl : Blk w bl [ptr bd 0, S [115], I 0, .slice none 0 0, .slice none 0 0, B false] 240) :
  Calls Tryz.prog 206 [ptr bl 0].toArray w (Pure w (S [115, 45, 105, 109, 103])) := by
 refine calls_W Tryz.func206 rfl rfl rfl (by kernel_rfl) ?_
 have hx := Ext.refl w
 refine W_seq fun K1 hK1 => ?_
 refine wr ?_
 refine da ?_
 refine D_end (hK1 _ _ ?_)
 refine W_seq fun K2 hK2 => ?_
 refine wr ?_
 refine dm ?_
 refine dp (pv_nilP rfl) ?_
 refine dp (pv_fieldA (k := 1) (by kernel_rfl) rfl) ?_
 refine dq (lv_load (by kernel_rfl) rfl ((hl.ext hx).at rfl)) ?_
 refine dp (pv_scat rfl rfl (by first | (simp; done) | (simp; omega) | omega)) ?_
 refine da ?_
 refine D_end (hK2 _ _ ?_)
 refine W_ret ?_
 try dsimp only [then', inBlk, noGo]
 refine ro ?_
 exact ⟨rfl, hx⟩

set_option maxRecDepth 100000 in
set_option maxHeartbeats 1000000 in
theorem logName_w (bl bd : Nat) (w : World) (hl : Blk w bl [ptr bd 0, S [115], I 0, .slice none 0 0, .slice none 0 0, B false] 240) :
  Calls Tryz.prog 209 [ptr bl 0].toArray w (Pure w (S [115, 45, 108, 111, 103])) := by
 refine calls_W Tryz.func209 rfl rfl rfl (by kernel_rfl) ?_
 have hx := Ext.refl w
 refine W_seq fun K1 hK1 => ?_
 refine wr ?_
 refine da ?_
 refine D_end (hK1 _ _ ?_)
 refine W_seq fun K2 hK2 => ?_
 refine wr ?_
 refine dm ?_
 refine dp (pv_nilP rfl) ?_
 refine dp (pv_fieldA (k := 1) (by kernel_rfl) rfl) ?_
 refine dq (lv_load (by kernel_rfl) rfl ((hl.ext hx).at rfl)) ?_
 refine dp (pv_scat rfl rfl (by first | (simp; done) | (simp; omega) | omega)) ?_
 refine da ?_
 refine D_end (hK2 _ _ ?_)
 refine W_ret ?_
 try dsimp only [then', inBlk, noGo]
 refine ro ?_
 exact ⟨rfl, hx⟩

set_option maxRecDepth 100000 in
set_option maxHeartbeats 1000000 in
theorem clears_w (bl bd mf : Nat) (room : Int) (w : World) (hl : Blk w bl [ptr bd 0, S [115], I 0, .slice none 0 0, .slice none 0 0, B false] 240) (hd : Blk w bd [I room, .map (some mf), B false, I 0] 154) (hm : EmpM w mf) :
  Calls Tryz.prog 131 [ptr bl 0].toArray w (Pure w (I 0)) := by
 refine calls_W Tryz.func131 rfl rfl rfl (by kernel_rfl) ?_
 have hx := Ext.refl w
 refine W_seq fun K1 hK1 => ?_
 refine wr ?_
 refine da ?_
 refine D_end (hK1 _ _ ?_)
 refine W_seq fun K2 hK2 => ?_
 refine W_draw (R := Ext) Ext.refl (fun _ _ _ => Ext.trans) (by kernel_rfl) [3] [(0, .p, false), (1, .p, false), (2, .p, false), (3, .l, false), (4, .p, false), (5, .x, false), (6, .p, false), (7, .x, false), (8, .x, true), (9, .p, false)] rfl (by kernel_rfl) (by kernel_rfl) (fun w1 ew1 => ?_)
 have x1 : Ext w w1 := by rw [ew1]; exact Ext.drew _
 clear ew1
 replace hx := hx.trans x1
 refine dm ?_
 refine dp (pv_nilP rfl) ?_
 refine dp (pv_fieldA (k := 0) (by kernel_rfl) rfl) ?_
 refine D_l rfl (fun w' hR => lv_load (by kernel_rfl) rfl ((hl.ext (hx.trans hR)).at rfl)) ?_
 refine dm ?_
 refine D_callP rfl (by kernel_rfl) (imgName_w bl bd _ (hl.ext hx)) rfl RX.ext (fun w2 x2 => ?_)
 replace hx := hx.trans x2
 refine dp (pv_scat rfl rfl (by first | (simp; done) | (simp; omega) | omega)) ?_
 refine D_lit (e := 9) (sz := 1) (zs := [S []]) (pv := [(0, ?a4_0)]) (cs := [?a4_0]) rfl (by kernel_rfl) ⟨rfl, rfl⟩ (by kernel_rfl) rfl ?h4 ?f4 RX.ext (fun b1 w3 e1 x3 m1 => ?k4)
 case h4 => refine ⟨rfl, ?_, trivial⟩ <;> (conv => lhs; whnf)
 case f4 => rfl
 have g1 : w.heap.size ≤ b1 := by have := hx.size; omega
 replace hx := hx.trans x3
 refine D_callP rfl (by kernel_rfl) (removes_w bd mf room [[115, 45, 105, 109, 103] ++ [126]] _ _ (hd.ext hx) (hm.ext hx) (m1.arr (enc := sEnc) (sz := 1) rfl (by intro x; rfl) rfl (by simp)) (by simp)) rfl RX.all (fun w4 x4 => ?_)
 replace m1 := m1.ext x4
 replace hx := hx.trans x4
 refine da ?_
 refine D_end (hK2 _ _ ?_)
 refine W_ret ?_
 try dsimp only [then', inBlk, noGo]
 refine ro ?_
 exact ⟨rfl, hx⟩

set_option maxRecDepth 100000 in
set_option maxHeartbeats 1000000 in
theorem image_w (bl bd mf : Nat) (room : Int) (w : World) (hl : Blk w bl [ptr bd 0, S [115], I 0, .slice none 0 0, .slice none 0 0, B false] 240) (hd : Blk w bd [I room, .map (some mf), B false, I 0] 154) (hm : EmpM w mf) :
  Calls Tryz.prog 132 [ptr bl 0].toArray w (Pure w (I 0)) := by
 refine calls_W Tryz.func132 rfl rfl rfl (by kernel_rfl) ?_
 have hx := Ext.refl w
 refine W_seq fun K1 hK1 => ?_
 refine wr ?_
 refine da ?_
 refine D_end (hK1 _ _ ?_)
 refine W_seq fun K2 hK2 => ?_
 refine W_draw (R := Ext) Ext.refl (fun _ _ _ => Ext.trans) (by kernel_rfl) [3] [(0, .p, false), (1, .p, false), (2, .p, false), (3, .l, false), (4, .p, false), (5, .x, false), (6, .x, true), (7, .p, false), (8, .p, false), (9, .p, false), (10, .p, false), (11, .p, false)] rfl (by kernel_rfl) (by kernel_rfl) (fun w1 ew1 => ?_)
 have x1 : Ext w w1 := by rw [ew1]; exact Ext.drew _
 clear ew1
 replace hx := hx.trans x1
 refine dm ?_
 refine dp (pv_nilP rfl) ?_
 refine dp (pv_fieldA (k := 0) (by kernel_rfl) rfl) ?_
 refine D_l rfl (fun w' hR => lv_load (by kernel_rfl) rfl ((hl.ext (hx.trans hR)).at rfl)) ?_
 refine dm ?_
 refine D_callP rfl (by kernel_rfl) (imgName_w bl bd _ (hl.ext hx)) rfl RX.ext (fun w2 x2 => ?_)
 replace hx := hx.trans x2
 refine D_callP rfl (by kernel_rfl) (load_w bd mf room [115, 45, 105, 109, 103] _ (hd.ext hx) (hm.ext hx) (by decide)) rfl RX.all (fun w3 x3 => ?_)
 replace hx := hx.trans x3
 refine dm ?_
 refine dp (pv_ext rfl rfl) ?_
 refine dp (pv_ext rfl rfl) ?_
 iterate 2 refine da ?_
 refine D_end (hK2 _ _ ?_)
 refine W_seq fun K3 hK3 => ?_
 refine W_seq fun K4 hK4 => ?_
 refine wr ?_
 refine dm ?_
 refine dp (pv_eql rfl rfl) ?_
 refine D_end (hK4 _ _ ?_)
 refine W_if rfl (fun c1 => ?_) (fun c1 => ?_)
 ·
  refine W_seq fun K5 hK5 => ?_
  refine wr ?_
  refine da ?_
  refine D_end (hK5 _ _ ?_)
  refine W_ret ?_
  try dsimp only [then', inBlk, noGo]
  refine ro ?_
  exact ⟨rfl, hx⟩
 ·
  exact absurd rfl c1

set_option maxRecDepth 100000 in
set_option maxHeartbeats 1000000 in
theorem log_w (bl bd mf : Nat) (room : Int) (w : World) (hl : Blk w bl [ptr bd 0, S [115], I 0, .slice none 0 0, .slice none 0 0, B false] 240) (hd : Blk w bd [I room, .map (some mf), B false, I 0] 154) (hm : EmpM w mf) :
  Calls Tryz.prog 133 [ptr bl 0].toArray w (Pure w (I 0)) := by
 refine calls_W Tryz.func133 rfl rfl rfl (by kernel_rfl) ?_
 have hx := Ext.refl w
 refine W_seq fun K1 hK1 => ?_
 refine wr ?_
 refine da ?_
 refine D_end (hK1 _ _ ?_)
 refine W_seq fun K2 hK2 => ?_
 refine W_seq fun K3 hK3 => ?_
 refine W_draw (R := Ext) Ext.refl (fun _ _ _ => Ext.trans) (by kernel_rfl) [3] [(0, .p, false), (1, .p, false), (2, .p, false), (3, .l, false), (4, .p, false), (5, .x, false), (6, .x, true), (7, .p, false)] rfl (by kernel_rfl) (by kernel_rfl) (fun w1 ew1 => ?_)
 have x1 : Ext w w1 := by rw [ew1]; exact Ext.drew _
 clear ew1
 replace hx := hx.trans x1
 refine dm ?_
 refine dp (pv_nilP rfl) ?_
 refine dp (pv_fieldA (k := 0) (by kernel_rfl) rfl) ?_
 refine D_l rfl (fun w' hR => lv_load (by kernel_rfl) rfl ((hl.ext (hx.trans hR)).at rfl)) ?_
 refine dm ?_
 refine D_callP rfl (by kernel_rfl) (logName_w bl bd _ (hl.ext hx)) rfl RX.ext (fun w2 x2 => ?_)
 replace hx := hx.trans x2
 refine D_callP rfl (by kernel_rfl) (has_w bd mf room [115, 45, 108, 111, 103] _ (hd.ext hx) (hm.ext hx)) rfl RX.all (fun w3 x3 => ?_)
 replace hx := hx.trans x3
 refine dn ?_
 refine D_end (hK3 _ _ ?_)
 refine W_t rfl ?_
 refine W_seq fun K4 hK4 => ?_
 refine wr ?_
 refine da ?_
 refine D_end (hK4 _ _ ?_)
 refine W_ret ?_
 try dsimp only [then', inBlk, noGo]
 refine ro ?_
 exact ⟨rfl, hx⟩

set_option maxRecDepth 100000 in
set_option maxHeartbeats 1000000 in
theorem cloneE_w (w : World) :
  Calls Tryz.prog 102 [.slice none 0 0].toArray w (Pure w (.slice none 0 0)) := by
 refine calls_W Tryz.func102 rfl rfl rfl (by kernel_rfl) ?_
 have hx := Ext.refl w
 refine W_seq fun K1 hK1 => ?_
 refine wr ?_
 refine da ?_
 refine D_end (hK1 _ _ ?_)
 refine W_seq fun K2 hK2 => ?_
 refine W_seq fun K3 hK3 => ?_
 refine wr ?_
 refine dm ?_
 refine dp (pv_eqNv (e := 5) (k := 1) (by kernel_rfl) (Arr.nil (enc := encB) (sz := 1) (w := w)).sl rfl rfl) ?_
 refine D_end (hK3 _ _ ?_)
 refine W_cond rfl (fun c1 => ?_) (fun c1 => ?_)
 ·
  refine W_seq fun K4 hK4 => ?_
  refine wr ?_
  refine da ?_
  refine D_end (hK4 _ _ ?_)
  refine W_ret ?_
  try dsimp only [then', inBlk, noGo]
  refine ro ?_
  exact ⟨rfl, hx⟩
 ·
  exact absurd c1 (by decide)

set_option maxRecDepth 100000 in
set_option maxHeartbeats 1000000 in
theorem base_w (bl bd : Nat) (w : World) (hl : Blk w bl [ptr bd 0, S [115], I 0, .slice none 0 0, .slice none 0 0, B false] 240) :
  Calls Tryz.prog 67 [ptr bl 0].toArray w (Pure w (.tuple #[I 0, .slice none 0 0])) := by
 refine calls_W Tryz.func67 rfl rfl rfl (by kernel_rfl) ?_
 have hx := Ext.refl w
 refine W_seq fun K1 hK1 => ?_
 refine wr ?_
 iterate 2 refine da ?_
 refine D_end (hK1 _ _ ?_)
 refine W_seq fun K2 hK2 => ?_
 refine W_seq fun K3 hK3 => ?_
 refine wr ?_
 refine dm ?_
 refine dp (pv_eqP (by kernel_rfl) rfl rfl) ?_
 refine D_end (hK3 _ _ ?_)
 refine W_if rfl (fun c1 => ?_) (fun c1 => ?_)
 ·
  exact absurd c1 (by simp)
 ·
  refine W_skip ?_
  refine hK2 _ _ ?_
  refine W_seq fun K4 hK4 => ?_
  refine W_draw (R := Ext) Ext.refl (fun _ _ _ => Ext.trans) (by kernel_rfl) [3, 7] [(0, .p, false), (1, .p, false), (2, .p, false), (3, .l, false), (4, .p, false), (5, .p, false), (6, .p, false), (7, .l, false), (8, .x, false), (9, .p, false), (10, .p, false)] rfl (by kernel_rfl) (by kernel_rfl) (fun w1 ew1 => ?_)
  have x1 : Ext w w1 := by rw [ew1]; exact Ext.drew _
  clear ew1
  replace hx := hx.trans x1
  refine dm ?_
  refine dp (pv_nilP rfl) ?_
  refine dp (pv_fieldA (k := 2) (by kernel_rfl) rfl) ?_
  refine D_l rfl (fun w' hR => lv_load (by kernel_rfl) rfl ((hl.ext (hx.trans hR)).at rfl)) ?_
  refine dm ?_
  refine dp (pv_nilP rfl) ?_
  refine dp (pv_fieldA (k := 3) (by kernel_rfl) rfl) ?_
  refine D_l rfl (fun w' hR => lv_load (by kernel_rfl) rfl ((hl.ext (hx.trans hR)).at rfl)) ?_
  refine D_callP rfl (by kernel_rfl) (cloneE_w _) rfl RX.ext (fun w2 x2 => ?_)
  replace hx := hx.trans x2
  iterate 2 refine da ?_
  refine D_end (hK4 _ _ ?_)
  refine W_ret ?_
  try dsimp only [then', inBlk, noGo]
  refine rt ?_
  exact ⟨rfl, hx⟩

set_option maxRecDepth 100000 in
set_option maxHeartbeats 1000000 in
theorem last_w (bl bd : Nat) (w : World) (hl : Blk w bl [ptr bd 0, S [115], I 0, .slice none 0 0, .slice none 0 0, B false] 240) :
  Calls Tryz.prog 143 [ptr bl 0].toArray w (Pure w (I 0)) := by
 refine calls_W Tryz.func143 rfl rfl rfl (by kernel_rfl) ?_
 have hx := Ext.refl w
 refine W_seq fun K1 hK1 => ?_
 refine wr ?_
 refine da ?_
 refine D_end (hK1 _ _ ?_)
 refine W_seq fun K2 hK2 => ?_
 refine W_seq fun K3 hK3 => ?_
 refine wr ?_
 refine dm ?_
 refine dp (pv_eqP (by kernel_rfl) rfl rfl) ?_
 refine D_end (hK3 _ _ ?_)
 refine W_if rfl (fun c1 => ?_) (fun c1 => ?_)
 ·
  exact absurd c1 (by simp)
 ·
  refine W_skip ?_
  refine hK2 _ _ ?_
  refine W_seq fun K4 hK4 => ?_
  refine W_draw (R := Ext) Ext.refl (fun _ _ _ => Ext.trans) (by kernel_rfl) [3, 7] [(0, .p, false), (1, .p, false), (2, .p, false), (3, .l, false), (4, .p, false), (5, .p, false), (6, .p, false), (7, .l, false), (8, .p, false), (9, .p, false), (10, .p, false)] rfl (by kernel_rfl) (by kernel_rfl) (fun w1 ew1 => ?_)
  have x1 : Ext w w1 := by rw [ew1]; exact Ext.drew _
  clear ew1
  replace hx := hx.trans x1
  refine dm ?_
  refine dp (pv_nilP rfl) ?_
  refine dp (pv_fieldA (k := 2) (by kernel_rfl) rfl) ?_
  refine D_l rfl (fun w' hR => lv_load (by kernel_rfl) rfl ((hl.ext (hx.trans hR)).at rfl)) ?_
  refine dm ?_
  refine dp (pv_nilP rfl) ?_
  refine dp (pv_fieldA (k := 4) (by kernel_rfl) rfl) ?_
  refine D_l rfl (fun w' hR => lv_load (by kernel_rfl) rfl ((hl.ext (hx.trans hR)).at rfl)) ?_
  refine dp (pv_lenV (e := 108) (k := 1) (by kernel_rfl) (Arr.nil (enc := sEnc) (sz := 3) (w := w)).sl rfl) ?_
  refine dp (pv_add rfl rfl (by simp [inI64])) ?_
  refine da ?_
  refine D_end (hK4 _ _ ?_)
  refine W_ret ?_
  try dsimp only [then', inBlk, noGo]
  refine ro ?_
  exact ⟨rfl, hx⟩

set_option maxRecDepth 100000 in
set_option maxHeartbeats 1000000 in
theorem diskNew_w (room : Int) (w : World) (h0 : 0 ≤ room) (h1 : room ≤ 1073741824) :
  Calls Tryz.prog 29 [I room].toArray w (Gives w (fun u w' => ∃ bd mf, u = .tuple #[ptr bd 0, I 0] ∧ Blk w' bd [I room, .map (some mf), B false, I 0] 154 ∧ EmpM w' mf)) := by
 refine calls_W Tryz.func29 rfl rfl rfl (by kernel_rfl) ?_
 have hx := Ext.refl w
 refine W_seq fun K1 hK1 => ?_
 refine wr ?_
 iterate 2 refine da ?_
 refine D_end (hK1 _ _ ?_)
 refine W_seq fun K2 hK2 => ?_
 refine W_seq fun K3 hK3 => ?_
 refine wr ?_
 refine dm ?_
 refine dp (pv_lss rfl rfl) ?_
 refine dm ?_
 refine D_splitP 6 rfl (fun c1 => ?_) (fun c1 => ?_)
 ·
  omega
 ·
  refine dm ?_
  refine dp (pv_gtr rfl rfl) ?_
  refine dk' ?_
  refine D_end (hK3 _ _ ?_)
  refine W_if rfl (fun c2 => ?_) (fun c2 => ?_)
  ·
   omega
  ·
   refine W_skip ?_
   refine hK2 _ _ ?_
   refine W_seq fun K4 hK4 => ?_
   refine wr ?_
   refine dm ?_
   refine D_makeMapE rfl RX.all (fun b1 w1 e1 x1 mp1 => ?_)
   have g1 : w.heap.size ≤ b1 := by have := hx.size; omega
   replace hx := hx.trans x1
   refine dp (pv_build (zs := [.int .i64 0, .map none, B false, .int .i64 0]) (pl := [(0, 1), (1, 1), (2, 1), (3, 1)]) (pv := [(0, ?a8_0), (1, ?a8_1)]) (cs := [?a8_0, ?a8_1, B false, .int .i64 0]) (by kernel_rfl) (by kernel_rfl) ?h8 ?f8) ?k8
   case h8 => refine ⟨rfl, ?_, rfl, ?_, trivial⟩ <;> (conv => lhs; whnf)
   case f8 => rfl
   refine D_box rfl rfl rfl RX.all (fun b2 w2 e2 x2 m2 => ?_)
   have g2 : w.heap.size ≤ b2 := by have := hx.size; omega
   have n2_mp1 := mp1.lt
   replace mp1 := mp1.ext x2
   replace hx := hx.trans x2
   iterate 2 refine da ?_
   refine D_end (hK4 _ _ ?_)
   refine W_ret ?_
   try dsimp only [then', inBlk, noGo]
   refine rt ?_
   exact ⟨_, rfl, hx, b2, b1, rfl, m2, mp1⟩

set_option maxRecDepth 100000 in
set_option maxHeartbeats 1000000 in
theorem ledgerOpen_w (bd mf : Nat) (room : Int) (w : World) (hd : Blk w bd [I room, .map (some mf), B false, I 0] 154) (hm : EmpM w mf) :
  Calls Tryz.prog 65 [ptr bd 0, S [115]].toArray w (Gives w (fun u w' => ∃ bl, u = .tuple #[ptr bl 0, I 0] ∧ Blk w' bl [ptr bd 0, S [115], I 0, .slice none 0 0, .slice none 0 0, B false] 240)) := by
 refine calls_W Tryz.func65 rfl rfl rfl (by kernel_rfl) ?_
 have hx := Ext.refl w
 refine W_seq fun K1 hK1 => ?_
 refine wr ?_
 iterate 2 refine da ?_
 refine D_end (hK1 _ _ ?_)
 refine W_seq fun K2 hK2 => ?_
 refine W_seq fun K3 hK3 => ?_
 refine wr ?_
 refine dm ?_
 refine dp (pv_eqP (by kernel_rfl) rfl rfl) ?_
 refine dm ?_
 refine D_splitP 12 rfl (fun c1 => ?_) (fun c1 => ?_)
 ·
  exact absurd c1 (by simp)
 ·
  refine dm ?_
  refine dp (pv_lenS (by kernel_rfl) rfl) ?_
  refine dp (pv_lss rfl rfl) ?_
  refine dk' ?_
  refine dm ?_
  refine D_splitP 17 rfl (fun c2 => ?_) (fun c2 => ?_)
  ·
   exact absurd c2 (by decide)
  ·
   refine dm ?_
   refine dp (pv_lenS (by kernel_rfl) rfl) ?_
   refine dp (pv_gtr rfl rfl) ?_
   refine dk' ?_
   refine D_end (hK3 _ _ ?_)
   refine W_if rfl (fun c3 => ?_) (fun c3 => ?_)
   ·
    exact absurd c3 (by decide)
   ·
    refine W_skip ?_
    refine hK2 _ _ ?_
    refine W_seq fun K4 hK4 => ?_
    refine wr ?_
    iterate 2 refine dm ?_
    refine dp (pv_build (zs := [.pointer none, S [], .int .i64 0, .slice none 0 0, .slice none 0 0, B false]) (pl := [(0, 1), (1, 1), (2, 1), (3, 1), (4, 1), (5, 1)]) (pv := [(0, ?a12_0), (1, ?a12_1)]) (cs := [?a12_0, ?a12_1, .int .i64 0, .slice none 0 0, .slice none 0 0, B false]) (by kernel_rfl) (by kernel_rfl) ?h12 ?f12) ?k12
    case h12 => refine ⟨rfl, ?_, rfl, ?_, trivial⟩ <;> (conv => lhs; whnf)
    case f12 => rfl
    refine D_box rfl rfl rfl RX.all (fun b1 w1 e1 x1 m1 => ?_)
    have g1 : w.heap.size ≤ b1 := by have := hx.size; omega
    replace hx := hx.trans x1
    refine da ?_
    refine D_end (hK4 _ _ ?_)
    refine W_seq fun K5 hK5 => ?_
    refine W_seq fun K6 hK6 => ?_
    refine wr ?_
    refine dm ?_
    refine dp (pv_makeFuncB rfl) ?_
    refine dm ?_
    refine dp (pv_makeFuncB rfl) ?_
    refine dm ?_
    refine dp (pv_makeFuncB rfl) ?_
    refine D_lit (e := 169) (sz := 1) (zs := [.nilFunc]) (pv := [(0, ?a17_0), (1, ?a17_1), (2, ?a17_2)]) (cs := [?a17_0, ?a17_1, ?a17_2]) rfl (by kernel_rfl) ⟨rfl, rfl⟩ (by kernel_rfl) rfl ?h17 ?f17 RX.all (fun b2 w2 e2 x2 m2 => ?k17)
    case h17 => refine ⟨rfl, ?_, rfl, ?_, rfl, ?_, trivial⟩ <;> (conv => lhs; whnf)
    case f17 => rfl
    have g2 : w.heap.size ≤ b2 := by have := hx.size; omega
    have n2_1 : b1 < b2 := by have := m1.lt; omega
    replace m1 := m1.ext x2
    replace hx := hx.trans x2
    refine dp (pv_lenV (e := 169) (k := 1) (by kernel_rfl) (m2.arr (enc := fun g : Value => [g]) (sz := 1) (l := [fnB 131 [ptr b1 0], fnB 132 [ptr b1 0], fnB 133 [ptr b1 0]]) rfl (by intro x; rfl) rfl (by simp)).sl rfl) ?_
    refine dm ?_
    refine D_end (hK6 _ _ ?_)
    refine W_block ?_
    refine W_loop (G := Nat) (fun k => [(6, ptr b1 0), (32, .slice (some ⟨b2, 0, none⟩) 3 3), (33, I 3), (34, I ↑k)]) (fun k w' => Ext w w' ∧ Blk w' b1 [ptr bd 0, S [115], I 0, .slice none 0 0, .slice none 0 0, B false] 240 ∧ Blk w' b2 [fnB 131 [ptr b1 0], fnB 132 [ptr b1 0], fnB 133 [ptr b1 0]] 169 ∧ k ≤ 3) (fun k => 3 - k) 0 ?_ ?_ ?_
    ·
     exact ⟨rfl, rfl, rfl, rfl, trivial⟩
    ·
     exact ⟨hx, m1, m2, Nat.zero_le _⟩
    ·
     intro X3 g3 w3 hF3
     revert hF3; revert g3; intro k hF3
     clear hx m1 m2
     obtain ⟨hx, m1, m2, hk1⟩ := hF3
     refine W_seq fun K7 hK7 => ?_
     refine wr ?_
     refine dp (pv_lss rfl rfl) ?_
     refine D_end (hK7 _ _ ?_)
     refine W_seq fun K8 hK8 => ?_
     refine W_if rfl (fun c4 => ?_) (fun c4 => ?_)
     ·
      obtain ⟨g, hk⟩ : ∃ g, [fnB 131 [ptr b1 0], fnB 132 [ptr b1 0], fnB 133 [ptr b1 0]][k]? = some g := ⟨_, List.getElem?_eq_getElem (by simp; omega)⟩
      obtain ⟨f, rfl, hcb, hcall⟩ : ∃ f, g = fnB f [ptr b1 0] ∧ callB Tryz.prog f = true ∧ ∀ w1, Blk w1 b1 [ptr bd 0, S [115], I 0, .slice none 0 0, .slice none 0 0, B false] 240 → Blk w1 bd [I room, .map (some mf), B false, I 0] 154 → EmpM w1 mf → Calls Tryz.prog f ([ptr b1 0] ++ []).toArray w1 (Pure w1 (I 0)) := by
       match k, hk with
       | 0, hk => simp only [List.getElem?_cons_zero, List.getElem?_cons_succ, Option.some.injEq] at hk; exact ⟨_, hk.symm, by kernel_rfl, fun w1 h1 h2 h3 => clears_w b1 bd mf room w1 h1 h2 h3⟩
       | 1, hk => simp only [List.getElem?_cons_zero, List.getElem?_cons_succ, Option.some.injEq] at hk; exact ⟨_, hk.symm, by kernel_rfl, fun w1 h1 h2 h3 => image_w b1 bd mf room w1 h1 h2 h3⟩
       | 2, hk => simp only [List.getElem?_cons_zero, List.getElem?_cons_succ, Option.some.injEq] at hk; exact ⟨_, hk.symm, by kernel_rfl, fun w1 h1 h2 h3 => log_w b1 bd mf room w1 h1 h2 h3⟩
       | k + 3, hk => simp at hk
      refine W_skip ?_
      refine hK8 _ _ ?_
      refine W_seq fun K9 hK9 => ?_
      refine W_block ?_
      refine W_seq fun K10 hK10 => ?_
      refine wr ?_
      refine dp (pv_idxA (e := 169) (k := 1) (by kernel_rfl) (m2.arr (enc := fun g : Value => [g]) (sz := 1) (l := [fnB 131 [ptr b1 0], fnB 132 [ptr b1 0], fnB 133 [ptr b1 0]]) rfl (by intro x; rfl) rfl (by simp)).sl rfl rfl ((m2.arr (enc := fun g : Value => [g]) (sz := 1) (l := [fnB 131 [ptr b1 0], fnB 132 [ptr b1 0], fnB 133 [ptr b1 0]]) rfl (by intro x; rfl) rfl (by simp)).lt hk)) ?_
      refine dq (lv_load (by kernel_rfl) rfl (((m2.arr (enc := fun g : Value => [g]) (sz := 1) (l := [fnB 131 [ptr b1 0], fnB 132 [ptr b1 0], fnB 133 [ptr b1 0]]) rfl (by intro x; rfl) rfl (by simp)).row hk).at0 rfl)) ?_
      refine da ?_
      refine D_end (hK10 _ _ ?_)
      refine W_seq fun K11 hK11 => ?_
      refine wr ?_
      refine dm ?_
      refine D_callBP (vs := []) rfl rfl hcb (hcall _ m1 (hd.ext hx) (hm.ext hx)) rfl RX.all (fun w4 x4 => ?_)
      replace m1 := m1.ext x4
      replace m2 := m2.ext x4
      replace hx := hx.trans x4
      refine da ?_
      refine D_end (hK11 _ _ ?_)
      refine W_seq fun K12 hK12 => ?_
      refine wr ?_
      refine dm ?_
      refine dp (pv_neq rfl rfl) ?_
      refine D_end (hK12 _ _ ?_)
      refine W_if rfl (fun c5 => ?_) (fun c5 => ?_)
      ·
       exact absurd rfl c5
      ·
       refine W_skip ?_
       refine hK9 _ _ ?_
       refine wr ?_
       refine dp (pv_add rfl rfl (by unfold inI64; omega)) ?_
       refine dm ?_
       refine D_end (?_)
       refine ⟨k + 1, ⟨rfl, rfl, rfl, rfl, trivial⟩, ⟨hx, m1, m2, by omega⟩, by omega⟩
     ·
      refine W_exit ?_
      refine hK5 _ _ ?_
      refine W_seq fun K13 hK13 => ?_
      refine wr ?_
      refine dm ?_
      iterate 2 refine da ?_
      refine D_end (hK13 _ _ ?_)
      refine W_ret ?_
      try dsimp only [then', inBlk, noGo]
      refine rt ?_
      exact ⟨_, rfl, hx, b1, rfl, m1⟩

end Go.Proofs.YteninjhmmjkckaaGreatDoor
