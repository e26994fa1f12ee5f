/-
  Walks.
-/
import Derived.Test.YteninjhmmjkckaaGreatDoorChecked
import Derived.Test.YteninjhmmjkckaaGreatDoorSpMem
import Derived.KernelRfl
import Derived.Test.YteninjhmmjkckaaGreatDoorLoA
namespace Go.Proofs.YteninjhmmjkckaaGreatDoor
open Go.Vc Go.Sp
attribute [local irreducible] W XW Dw DwT
set_option linter.unusedVariables false
set_option linter.unusedSimpArgs false

/-- A skip list of nothing: its towers, the first one's rows. -/
structure MemE (w : World) (bm ba bn : Nat) : Prop where
  m : Blk w bm [.slice (some ⟨ba, 0, none⟩) 1 1, .slice none 0 0, I 0, I 0] 223
  a : Blk w ba [S [], S [], B false, I 0, .slice (some ⟨bn, 0, none⟩) 12 12] 219
  n : Blk w bn (List.replicate 12 (I 0)) 3
theorem MemE.ext {w w' : World} {bm ba bn : Nat} (h : MemE w bm ba bn) (x : Ext w w') : MemE w' bm ba bn := ⟨h.m.ext x, h.a.ext x, h.n.ext x⟩
/-- A store of nothing. -/
structure StE (w : World) (bs bd bl mo bm ba bn mf : Nat) (room : Int) : Prop where
  s : Blk w bs [ptr bd 0, ptr bl 0, I 1, .slice none 0 0, .map (some mo), ptr bm 0, B false] 140
  l : Blk w bl [ptr bd 0, S [115], I 0, .slice none 0 0, .slice none 0 0, B false] 240
  d : Blk w bd [I room, .map (some mf), B false, I 0] 154
  f : EmpM w mf
  o : EmpM w mo
  m : MemE w bm ba bn
theorem StE.ext {w w' : World} {bs bd bl mo bm ba bn mf : Nat} {room : Int} (h : StE w bs bd bl mo bm ba bn mf room) (x : Ext w w') : StE w' bs bd bl mo bm ba bn mf room := ⟨h.s.ext x, h.l.ext x, h.d.ext x, h.f.ext x, h.o.ext x, h.m.ext x⟩
theorem rep12 {k : Nat} (h : k < 12) : (List.replicate 12 (0 : Int))[k]? = some 0 := by rw [List.getElem?_replicate]; simp [h]

set_option maxRecDepth 100000 in
set_option maxHeartbeats 1000000 in
theorem clone32_w (w : World) :
  Calls Tryz.prog 134 [.slice none 0 0].toArray w (Pure w (.slice none 0 0)) := by
 refine calls_W Tryz.func134 rfl rfl rfl (by kernel_rfl) ?_
 have hx := Ext.refl w
 refine W_seq fun K1 hK1 => ?_
 refine wr ?_
 refine da ?_
 refine D_end (hK1 _ _ ?_)
 refine W_seq fun K2 hK2 => ?_
 refine W_seq fun K3 hK3 => ?_
 refine wr ?_
 refine dm ?_
 refine dp (pv_eqNv (e := 243) (k := 1) (by kernel_rfl) (Arr.nil (enc := encB) (sz := 1) (w := w)).sl rfl rfl) ?_
 refine D_end (hK3 _ _ ?_)
 refine W_cond rfl (fun c1 => ?_) (fun c1 => ?_)
 ·
  refine W_seq fun K4 hK4 => ?_
  refine wr ?_
  refine da ?_
  refine D_end (hK4 _ _ ?_)
  refine W_ret ?_
  try dsimp only [then', inBlk, noGo]
  refine ro ?_
  exact ⟨rfl, hx⟩
 ·
  exact absurd c1 (by decide)

set_option maxRecDepth 100000 in
set_option maxHeartbeats 1000000 in
theorem memNew_w (w : World) :
  Calls Tryz.prog 66 [.slice none 0 0].toArray w (Gives w (fun u w' => ∃ bm ba bn, u = ptr bm 0 ∧ MemE w' bm ba bn)) := by
 refine calls_W Tryz.func66 rfl rfl rfl (by kernel_rfl) ?_
 have hx := Ext.refl w
 refine W_seq fun K1 hK1 => ?_
 refine wr ?_
 refine da ?_
 refine D_end (hK1 _ _ ?_)
 refine W_seq fun K2 hK2 => ?_
 refine W_drawT (R := Ext) Ext.refl (fun _ _ _ => Ext.trans) (by kernel_rfl) [] (.one 3 .p false (.fork (.alt 0 true (.one 1 .p false (.fork (.alt 2 true (.one 4 .x true (.one 5 .p false (.one 6 .x true (.one 7 .p false .nil)))) (.alt 4 true (.one 2 .x true (.one 5 .p false (.one 6 .x true (.one 7 .p false .nil)))) .stop)))) (.alt 4 true (.one 0 .x true (.one 1 .p false (.one 2 .x true (.one 5 .p false (.one 6 .x true (.one 7 .p false .nil)))))) .stop)))) (by kernel_rfl) (by kernel_rfl) (fun w1 ew1 => ?_)
 have x1 : Ext w w1 := by rw [ew1]; exact Ext.drew _
 clear ew1
 replace hx := hx.trans x1
 refine T_one ?_
 refine dm ?_
 refine D_end ?_
 refine T_fork ?_
 refine T_alt ?_ ?_
 ·
  refine D_make (e := 3) (sz := 1) (by' := 8) (zs := [.int .i64 0]) rfl (by kernel_rfl) (by kernel_rfl) (by kernel_rfl) rfl rfl (by decide) (by decide) RX.all (fun b1 w2 e1 x2 m1 => ?_)
  have g1 : w.heap.size ≤ b1 := by have := hx.size; omega
  replace hx := hx.trans x2
  refine D_end ?_
  refine T_one ?_
  refine dp (pv_build (zs := [S [], S [], B false, .int .i64 0, .slice none 0 0]) (pl := [(0, 4), (4, 1)]) (pv := [(1, ?a3_0)]) (cs := [S [], S [], B false, .int .i64 0, ?a3_0]) (by kernel_rfl) (by kernel_rfl) ?h3 ?f3) ?k3
  case h3 => refine ⟨rfl, ?_, trivial⟩ <;> (conv => lhs; whnf)
  case f3 => rfl
  refine D_end ?_
  refine T_fork ?_
  refine T_alt ?_ ?_
  ·
   refine D_lit (e := 219) (sz := 5) (zs := [S [], S [], B false, .int .i64 0, .slice none 0 0]) (pv := [(0, .agg ⟨[?a4_0, ?a4_1, ?a4_2, ?a4_3, ?a4_4]⟩)]) (cs := [?a4_0, ?a4_1, ?a4_2, ?a4_3, ?a4_4]) rfl (by kernel_rfl) ⟨rfl, rfl⟩ (by kernel_rfl) rfl ?h4 ?f4 RX.all (fun b2 w3 e2 x3 m2 => ?k4)
   case h4 => refine ⟨rfl, ?_, trivial⟩ <;> (conv => lhs; whnf)
   case f4 => rfl
   have g2 : w.heap.size ≤ b2 := by have := hx.size; omega
   have n2_1 : b1 < b2 := by have := m1.lt; omega
   replace m1 := m1.ext x3
   replace hx := hx.trans x3
   refine D_end ?_
   refine T_one ?_
   refine D_callP rfl (by kernel_rfl) (clone32_w _) rfl RX.all (fun w4 x4 => ?_)
   replace m1 := m1.ext x4
   replace m2 := m2.ext x4
   replace hx := hx.trans x4
   refine D_end ?_
   refine T_one ?_
   refine dp (pv_build (zs := [.slice none 0 0, .slice none 0 0, .int .i64 0, .int .i64 0]) (pl := [(0, 1), (1, 1), (2, 1), (3, 1)]) (pv := [(0, ?a5_0), (1, ?a5_1)]) (cs := [?a5_0, ?a5_1, .int .i64 0, .int .i64 0]) (by kernel_rfl) (by kernel_rfl) ?h5 ?f5) ?k5
   case h5 => refine ⟨rfl, ?_, rfl, ?_, trivial⟩ <;> (conv => lhs; whnf)
   case f5 => rfl
   refine D_end ?_
   refine T_one ?_
   refine D_box rfl rfl rfl RX.all (fun b3 w5 e3 x5 m3 => ?_)
   have g3 : w.heap.size ≤ b3 := by have := hx.size; omega
   have n3_1 : b1 < b3 := by have := m1.lt; omega
   have n3_2 : b2 < b3 := by have := m2.lt; omega
   replace m1 := m1.ext x5
   replace m2 := m2.ext x5
   replace hx := hx.trans x5
   refine D_end ?_
   refine T_one ?_
   refine da ?_
   refine D_end ?_
   refine T_nil ?_
   refine hK2 _ _ ?_
   refine W_ret ?_
   try dsimp only [then', inBlk, noGo]
   refine ro ?_
   exact ⟨_, rfl, hx, b3, b2, b1, rfl, ⟨m3, m2, m1⟩⟩
  refine T_alt ?_ ?_
  ·
   refine D_callP rfl (by kernel_rfl) (clone32_w _) rfl RX.all (fun w6 x6 => ?_)
   replace m1 := m1.ext x6
   replace hx := hx.trans x6
   refine D_end ?_
   refine T_one ?_
   refine D_lit (e := 219) (sz := 5) (zs := [S [], S [], B false, .int .i64 0, .slice none 0 0]) (pv := [(0, .agg ⟨[?a8_0, ?a8_1, ?a8_2, ?a8_3, ?a8_4]⟩)]) (cs := [?a8_0, ?a8_1, ?a8_2, ?a8_3, ?a8_4]) rfl (by kernel_rfl) ⟨rfl, rfl⟩ (by kernel_rfl) rfl ?h8 ?f8 RX.all (fun b4 w7 e4 x7 m4 => ?k8)
   case h8 => refine ⟨rfl, ?_, trivial⟩ <;> (conv => lhs; whnf)
   case f8 => rfl
   have g4 : w.heap.size ≤ b4 := by have := hx.size; omega
   have n4_1 : b1 < b4 := by have := m1.lt; omega
   replace m1 := m1.ext x7
   replace hx := hx.trans x7
   refine D_end ?_
   refine T_one ?_
   refine dp (pv_build (zs := [.slice none 0 0, .slice none 0 0, .int .i64 0, .int .i64 0]) (pl := [(0, 1), (1, 1), (2, 1), (3, 1)]) (pv := [(0, ?a9_0), (1, ?a9_1)]) (cs := [?a9_0, ?a9_1, .int .i64 0, .int .i64 0]) (by kernel_rfl) (by kernel_rfl) ?h9 ?f9) ?k9
   case h9 => refine ⟨rfl, ?_, rfl, ?_, trivial⟩ <;> (conv => lhs; whnf)
   case f9 => rfl
   refine D_end ?_
   refine T_one ?_
   refine D_box rfl rfl rfl RX.all (fun b5 w8 e5 x8 m5 => ?_)
   have g5 : w.heap.size ≤ b5 := by have := hx.size; omega
   have n5_1 : b1 < b5 := by have := m1.lt; omega
   have n5_4 : b4 < b5 := by have := m4.lt; omega
   replace m1 := m1.ext x8
   replace m4 := m4.ext x8
   replace hx := hx.trans x8
   refine D_end ?_
   refine T_one ?_
   refine da ?_
   refine D_end ?_
   refine T_nil ?_
   refine hK2 _ _ ?_
   refine W_ret ?_
   try dsimp only [then', inBlk, noGo]
   refine ro ?_
   exact ⟨_, rfl, hx, b5, b4, b1, rfl, ⟨m5, m4, m1⟩⟩
  exact T_stop
 refine T_alt ?_ ?_
 ·
  refine D_callP rfl (by kernel_rfl) (clone32_w _) rfl RX.all (fun w9 x9 => ?_)
  replace hx := hx.trans x9
  refine D_end ?_
  refine T_one ?_
  refine D_make (e := 3) (sz := 1) (by' := 8) (zs := [.int .i64 0]) rfl (by kernel_rfl) (by kernel_rfl) (by kernel_rfl) rfl rfl (by decide) (by decide) RX.all (fun b6 w10 e6 x10 m6 => ?_)
  have g6 : w.heap.size ≤ b6 := by have := hx.size; omega
  replace hx := hx.trans x10
  refine D_end ?_
  refine T_one ?_
  refine dp (pv_build (zs := [S [], S [], B false, .int .i64 0, .slice none 0 0]) (pl := [(0, 4), (4, 1)]) (pv := [(1, ?a12_0)]) (cs := [S [], S [], B false, .int .i64 0, ?a12_0]) (by kernel_rfl) (by kernel_rfl) ?h12 ?f12) ?k12
  case h12 => refine ⟨rfl, ?_, trivial⟩ <;> (conv => lhs; whnf)
  case f12 => rfl
  refine D_end ?_
  refine T_one ?_
  refine D_lit (e := 219) (sz := 5) (zs := [S [], S [], B false, .int .i64 0, .slice none 0 0]) (pv := [(0, .agg ⟨[?a13_0, ?a13_1, ?a13_2, ?a13_3, ?a13_4]⟩)]) (cs := [?a13_0, ?a13_1, ?a13_2, ?a13_3, ?a13_4]) rfl (by kernel_rfl) ⟨rfl, rfl⟩ (by kernel_rfl) rfl ?h13 ?f13 RX.all (fun b7 w11 e7 x11 m7 => ?k13)
  case h13 => refine ⟨rfl, ?_, trivial⟩ <;> (conv => lhs; whnf)
  case f13 => rfl
  have g7 : w.heap.size ≤ b7 := by have := hx.size; omega
  have n7_6 : b6 < b7 := by have := m6.lt; omega
  replace m6 := m6.ext x11
  replace hx := hx.trans x11
  refine D_end ?_
  refine T_one ?_
  refine dp (pv_build (zs := [.slice none 0 0, .slice none 0 0, .int .i64 0, .int .i64 0]) (pl := [(0, 1), (1, 1), (2, 1), (3, 1)]) (pv := [(0, ?a14_0), (1, ?a14_1)]) (cs := [?a14_0, ?a14_1, .int .i64 0, .int .i64 0]) (by kernel_rfl) (by kernel_rfl) ?h14 ?f14) ?k14
  case h14 => refine ⟨rfl, ?_, rfl, ?_, trivial⟩ <;> (conv => lhs; whnf)
  case f14 => rfl
  refine D_end ?_
  refine T_one ?_
  refine D_box rfl rfl rfl RX.all (fun b8 w12 e8 x12 m8 => ?_)
  have g8 : w.heap.size ≤ b8 := by have := hx.size; omega
  have n8_6 : b6 < b8 := by have := m6.lt; omega
  have n8_7 : b7 < b8 := by have := m7.lt; omega
  replace m6 := m6.ext x12
  replace m7 := m7.ext x12
  replace hx := hx.trans x12
  refine D_end ?_
  refine T_one ?_
  refine da ?_
  refine D_end ?_
  refine T_nil ?_
  refine hK2 _ _ ?_
  refine W_ret ?_
  try dsimp only [then', inBlk, noGo]
  refine ro ?_
  exact ⟨_, rfl, hx, b8, b7, b6, rfl, ⟨m8, m7, m6⟩⟩
 exact T_stop

set_option maxRecDepth 100000 in
set_option maxHeartbeats 1000000 in
theorem replays_w (bs bd bl mo bm : Nat) (w : World) (hb : Blk w bs [ptr bd 0, ptr bl 0, I 1, .slice none 0 0, .map (some mo), ptr bm 0, B false] 140) (hl : Blk w bl [ptr bd 0, S [115], I 0, .slice none 0 0, .slice none 0 0, B false] 240) :
  Calls Tryz.prog 71 [ptr bs 0].toArray w (Pure w (I 0)) := by
 refine calls_W Tryz.func71 rfl rfl rfl (by kernel_rfl) ?_
 have hx := Ext.refl w
 refine W_seq fun K1 hK1 => ?_
 refine wr ?_
 refine da ?_
 refine D_end (hK1 _ _ ?_)
 refine W_seq fun K2 hK2 => ?_
 refine wr ?_
 refine dm ?_
 refine dp (pv_nilP rfl) ?_
 refine dp (pv_fieldA (k := 1) (by kernel_rfl) rfl) ?_
 refine dq (lv_load (by kernel_rfl) rfl ((hb.ext hx).at rfl)) ?_
 refine D_callP rfl (by kernel_rfl) (base_w bl bd _ (hl.ext hx)) rfl RX.all (fun w1 x1 => ?_)
 replace hx := hx.trans x1
 refine dm ?_
 refine dp (pv_ext rfl rfl) ?_
 refine dp (pv_ext rfl rfl) ?_
 iterate 2 refine da ?_
 refine D_end (hK2 _ _ ?_)
 refine W_seq fun K3 hK3 => ?_
 refine W_seq fun K4 hK4 => ?_
 refine wr ?_
 refine dm ?_
 refine dp (pv_add rfl rfl (by unfold inI64; omega)) ?_
 refine da ?_
 refine D_end (hK4 _ _ ?_)
 refine W_block ?_
 refine W_loop (G := Unit) (fun uu => [(0, ptr bs 0), (5, I 1)]) (fun uu w' => Ext w w' ∧ True) (fun uu => 0) () ?_ ?_ ?_
 ·
  exact ⟨rfl, rfl, trivial⟩
 ·
  exact ⟨hx, trivial⟩
 ·
  intro X2 g2 w2 hF2
  revert hF2; revert g2; intro uu hF2
  clear hx
  obtain ⟨hx, htr⟩ := hF2
  refine W_seq fun K5 hK5 => ?_
  refine W_seq fun K6 hK6 => ?_
  refine wr ?_
  iterate 2 refine dm ?_
  refine dp (pv_nilP rfl) ?_
  refine dp (pv_fieldA (k := 1) (by kernel_rfl) rfl) ?_
  refine dq (lv_load (by kernel_rfl) rfl ((hb.ext hx).at rfl)) ?_
  refine D_callP rfl (by kernel_rfl) (last_w bl bd _ (hl.ext hx)) rfl RX.all (fun w3 x3 => ?_)
  replace hx := hx.trans x3
  refine dp (pv_leq rfl rfl) ?_
  refine D_end (hK6 _ _ ?_)
  refine W_if rfl (fun c1 => ?_) (fun c1 => ?_)
  ·
   exact absurd c1 (by decide)
  ·
   refine W_exit ?_
   refine hK3 _ _ ?_
   refine W_seq fun K7 hK7 => ?_
   refine wr ?_
   refine da ?_
   refine D_end (hK7 _ _ ?_)
   refine W_ret ?_
   try dsimp only [then', inBlk, noGo]
   refine ro ?_
   exact ⟨rfl, hx⟩

set_option maxRecDepth 100000 in
set_option maxHeartbeats 1000000 in
theorem clear_w (bd mf : Nat) (room : Int) (s : Str) (w : World) (hd : Blk w bd [I room, .map (some mf), B false, I 0] 154) (hm : EmpM w mf) :
  Calls Tryz.prog 72 [ptr bd 0, S s, .slice none 0 0].toArray w (Pure w (I 0)) := by
 refine calls_W Tryz.func72 rfl rfl rfl (by kernel_rfl) ?_
 have hx := Ext.refl w
 refine W_seq fun K1 hK1 => ?_
 refine wr ?_
 refine da ?_
 refine D_end (hK1 _ _ ?_)
 refine W_seq fun K2 hK2 => ?_
 refine W_seq fun K3 hK3 => ?_
 refine wr ?_
 refine dm ?_
 refine dp (pv_eqP (by kernel_rfl) rfl rfl) ?_
 refine D_end (hK3 _ _ ?_)
 refine W_if rfl (fun c1 => ?_) (fun c1 => ?_)
 ·
  exact absurd c1 (by simp)
 ·
  refine W_skip ?_
  refine hK2 _ _ ?_
  refine W_seq fun K4 hK4 => ?_
  refine W_seq fun K5 hK5 => ?_
  refine wr ?_
  refine dm ?_
  refine D_callP rfl (by kernel_rfl) (list_w bd mf room _ (hd.ext hx) (hm.ext hx)) rfl RX.all (fun w1 x1 => ?_)
  replace hx := hx.trans x1
  refine dp (pv_lenV (e := 9) (k := 1) (by kernel_rfl) (Arr.nil (enc := sEnc) (sz := 1) (w := w)).sl rfl) ?_
  refine dm ?_
  refine D_end (hK5 _ _ ?_)
  refine W_block ?_
  refine W_loop (G := Unit) (fun uu => [(0, ptr bd 0), (1, S s), (2, .slice none 0 0), (13, .slice none 0 0), (14, I 0), (15, I 0)]) (fun uu w' => Ext w w' ∧ True) (fun uu => 0) () ?_ ?_ ?_
  ·
   exact ⟨rfl, rfl, rfl, rfl, rfl, rfl, trivial⟩
  ·
   exact ⟨hx, trivial⟩
  ·
   intro X2 g2 w2 hF2
   revert hF2; revert g2; intro uu hF2
   clear hx
   obtain ⟨hx, htr⟩ := hF2
   refine W_seq fun K6 hK6 => ?_
   refine wr ?_
   refine dp (pv_lss rfl rfl) ?_
   refine D_end (hK6 _ _ ?_)
   refine W_seq fun K7 hK7 => ?_
   refine W_if rfl (fun c2 => ?_) (fun c2 => ?_)
   ·
    exact absurd c2 (by decide)
   ·
    refine W_exit ?_
    refine hK4 _ _ ?_
    refine W_seq fun K8 hK8 => ?_
    refine wr ?_
    refine da ?_
    refine D_end (hK8 _ _ ?_)
    refine W_ret ?_
    try dsimp only [then', inBlk, noGo]
    refine ro ?_
    exact ⟨rfl, hx⟩

set_option maxRecDepth 100000 in
set_option maxHeartbeats 1000000 in
theorem lsmOpen_w (bd mf : Nat) (room : Int) (w : World) (hd : Blk w bd [I room, .map (some mf), B false, I 0] 154) (hm : EmpM w mf) :
  Calls Tryz.prog 31 [ptr bd 0].toArray w (Gives w (fun u w' => ∃ bs bl mo bm ba bn, u = .tuple #[ptr bs 0, I 0] ∧ StE w' bs bd bl mo bm ba bn mf room)) := by
 refine calls_W Tryz.func31 rfl rfl rfl (by kernel_rfl) ?_
 have hx := Ext.refl w
 refine W_seq fun K1 hK1 => ?_
 refine wr ?_
 iterate 2 refine da ?_
 refine D_end (hK1 _ _ ?_)
 refine W_seq fun K2 hK2 => ?_
 refine W_seq fun K3 hK3 => ?_
 refine wr ?_
 refine dm ?_
 refine dp (pv_eqP (by kernel_rfl) rfl rfl) ?_
 refine D_end (hK3 _ _ ?_)
 refine W_if rfl (fun c1 => ?_) (fun c1 => ?_)
 ·
  exact absurd c1 (by simp)
 ·
  refine W_skip ?_
  refine hK2 _ _ ?_
  refine W_seq fun K4 hK4 => ?_
  refine wr ?_
  refine dm ?_
  refine D_callG rfl (by kernel_rfl) (ledgerOpen_w bd mf room _ (hd.ext hx) (hm.ext hx)) rfl RX.all (fun u1 w1 x1 hf1 => ?_)
  have hsz1 := hx.size
  replace hx := hx.trans x1
  obtain ⟨bl, rfl, hl⟩ := hf1
  refine dm ?_
  refine dp (pv_ext rfl rfl) ?_
  refine dp (pv_ext rfl rfl) ?_
  iterate 2 refine da ?_
  refine D_end (hK4 _ _ ?_)
  refine W_seq fun K5 hK5 => ?_
  refine W_seq fun K6 hK6 => ?_
  refine wr ?_
  refine dm ?_
  refine dp (pv_neq rfl rfl) ?_
  refine D_end (hK6 _ _ ?_)
  refine W_if rfl (fun c2 => ?_) (fun c2 => ?_)
  ·
   exact absurd rfl c2
  ·
   refine W_skip ?_
   refine hK5 _ _ ?_
   refine W_seq fun K7 hK7 => ?_
   refine wr ?_
   iterate 2 refine dm ?_
   refine dp (pv_build (zs := [.int .i64 0, .slice none 0 0]) (pl := [(0, 1), (1, 1)]) (pv := [(0, ?a11_0)]) (cs := [?a11_0, .slice none 0 0]) (by kernel_rfl) (by kernel_rfl) ?h11 ?f11) ?k11
   case h11 => refine ⟨rfl, ?_, trivial⟩ <;> (conv => lhs; whnf)
   case f11 => rfl
   refine D_makeMapE rfl RX.all (fun b1 w2 e1 x2 mp1 => ?_)
   have g1 : w.heap.size ≤ b1 := by have := hx.size; omega
   have a1_hl := hl.lt
   replace hl := hl.ext x2
   replace hx := hx.trans x2
   refine D_callG rfl (by kernel_rfl) (memNew_w _) rfl RX.all (fun u3 w3 x3 hf3 => ?_)
   have hsz3 := hx.size
   replace hl := hl.ext x3
   replace mp1 := mp1.ext x3
   replace hx := hx.trans x3
   obtain ⟨bm, ba, bn, rfl, hM⟩ := hf3
   refine dp (pv_build (zs := [.pointer none, .pointer none, .int .i64 0, .slice none 0 0, .map none, .pointer none, B false]) (pl := [(0, 1), (1, 1), (2, 2), (4, 1), (5, 1), (6, 1)]) (pv := [(0, ?a12_0), (1, ?a12_1), (2, .agg ⟨[?a12_2, ?a12_3]⟩), (3, ?a12_4), (4, ?a12_5)]) (cs := [?a12_0, ?a12_1, ?a12_2, ?a12_3, ?a12_4, ?a12_5, B false]) (by kernel_rfl) (by kernel_rfl) ?h12 ?f12) ?k12
   case h12 => refine ⟨rfl, ?_, rfl, ?_, rfl, ?_, rfl, ?_, rfl, ?_, trivial⟩ <;> (conv => lhs; whnf)
   case f12 => rfl
   refine D_box rfl rfl rfl RX.all (fun b2 w4 e2 x4 m2 => ?_)
   have g2 : w.heap.size ≤ b2 := by have := hx.size; omega
   have n2_mp1 := mp1.lt
   have a2_hl := hl.lt
   replace hl := hl.ext x4
   replace mp1 := mp1.ext x4
   replace hM := hM.ext x4
   replace hx := hx.trans x4
   refine da ?_
   refine D_end (hK7 _ _ ?_)
   refine W_seq fun K8 hK8 => ?_
   refine W_seq fun K9 hK9 => ?_
   refine wr ?_
   refine dm ?_
   refine D_callP rfl (by kernel_rfl) (base_w bl bd _ hl) rfl RX.all (fun w5 x5 => ?_)
   replace hl := hl.ext x5
   replace mp1 := mp1.ext x5
   replace hM := hM.ext x5
   replace m2 := m2.ext x5
   replace hx := hx.trans x5
   refine dm ?_
   refine dp (pv_ext rfl rfl) ?_
   refine dp (pv_ext rfl rfl) ?_
   iterate 2 refine da ?_
   refine D_end (hK9 _ _ ?_)
   refine W_seq fun K10 hK10 => ?_
   refine wr ?_
   refine dm ?_
   refine dp (pv_gtr rfl rfl) ?_
   refine dm ?_
   refine D_splitP 39 rfl (fun c3 => ?_) (fun c3 => ?_)
   ·
    exact absurd c3 (by decide)
   ·
    refine dm ?_
    refine dp (pv_lenV (e := 5) (k := 1) (by kernel_rfl) (Arr.nil (enc := encB) (sz := 1) (w := w)).sl rfl) ?_
    refine dp (pv_gtr rfl rfl) ?_
    refine dk' ?_
    refine D_end (hK10 _ _ ?_)
    refine W_if rfl (fun c4 => ?_) (fun c4 => ?_)
    ·
     exact absurd c4 (by decide)
    ·
     refine W_skip ?_
     refine hK8 _ _ ?_
     refine W_seq fun K11 hK11 => ?_
     refine wr ?_
     refine da ?_
     refine D_end (hK11 _ _ ?_)
     refine W_seq fun K12 hK12 => ?_
     refine W_seq fun K13 hK13 => ?_
     refine wr ?_
     refine dm ?_
     refine dp (pv_nilP rfl) ?_
     refine dp (pv_fieldA (k := 2) (by kernel_rfl) rfl) ?_
     refine dp (pv_fieldA (k := 1) (by kernel_rfl) rfl) ?_
     refine dq (lv_load (by kernel_rfl) rfl (m2.at rfl)) ?_
     refine dp (pv_lenV (e := 166) (k := 5) (by kernel_rfl) (Arr.nil (enc := fun v : Value => [v]) (sz := 5) (w := w)).sl rfl) ?_
     refine dm ?_
     refine D_end (hK13 _ _ ?_)
     refine W_block ?_
     refine W_loop (G := Unit) (fun uu => [(0, ptr bd 0), (6, ptr b2 0), (9, .slice none 0 0), (59, .slice none 0 0), (60, I 0), (61, I 0)]) (fun uu w' => Ext w w' ∧ Blk w' bl [ptr bd 0, S [115], I 0, .slice none 0 0, .slice none 0 0, B false] 240 ∧ EmpM w' b1 ∧ MemE w' bm ba bn ∧ Blk w' b2 [ptr bd 0, ptr bl 0, I 1, .slice none 0 0, .map (some b1), ptr bm 0, B false] 140 ∧ True) (fun uu => 0) () ?_ ?_ ?_
     ·
      exact ⟨rfl, rfl, rfl, rfl, rfl, rfl, trivial⟩
     ·
      exact ⟨hx, hl, mp1, hM, m2, trivial⟩
     ·
      intro X6 g6 w6 hF6
      revert hF6; revert g6; intro uu hF6
      clear hx hl mp1 hM m2
      obtain ⟨hx, hl, mp1, hM, m2, htr⟩ := hF6
      refine W_seq fun K14 hK14 => ?_
      refine wr ?_
      refine dp (pv_lss rfl rfl) ?_
      refine D_end (hK14 _ _ ?_)
      refine W_seq fun K15 hK15 => ?_
      refine W_if rfl (fun c5 => ?_) (fun c5 => ?_)
      ·
       exact absurd c5 (by decide)
      ·
       refine W_exit ?_
       refine hK12 _ _ ?_
       refine W_seq fun K16 hK16 => ?_
       refine W_seq fun K17 hK17 => ?_
       refine wr ?_
       refine dm ?_
       refine D_callP rfl (by kernel_rfl) (replays_w b2 bd bl b1 bm _ m2 hl) rfl RX.all (fun w7 x7 => ?_)
       replace hl := hl.ext x7
       replace mp1 := mp1.ext x7
       replace hM := hM.ext x7
       replace m2 := m2.ext x7
       replace hx := hx.trans x7
       refine da ?_
       refine D_end (hK17 _ _ ?_)
       refine W_seq fun K18 hK18 => ?_
       refine wr ?_
       refine dm ?_
       refine dp (pv_neq rfl rfl) ?_
       refine D_end (hK18 _ _ ?_)
       refine W_if rfl (fun c6 => ?_) (fun c6 => ?_)
       ·
        exact absurd rfl c6
       ·
        refine W_skip ?_
        refine hK16 _ _ ?_
        refine W_seq fun K19 hK19 => ?_
        refine W_seq fun K20 hK20 => ?_
        refine wr ?_
        iterate 2 refine dm ?_
        refine D_callP rfl (by kernel_rfl) (clear_w bd mf room [116] _ (hd.ext hx) (hm.ext hx)) rfl RX.all (fun w8 x8 => ?_)
        replace hl := hl.ext x8
        replace mp1 := mp1.ext x8
        replace hM := hM.ext x8
        replace m2 := m2.ext x8
        replace hx := hx.trans x8
        refine da ?_
        refine D_end (hK20 _ _ ?_)
        refine W_seq fun K21 hK21 => ?_
        refine wr ?_
        refine dm ?_
        refine dp (pv_neq rfl rfl) ?_
        refine D_end (hK21 _ _ ?_)
        refine W_if rfl (fun c7 => ?_) (fun c7 => ?_)
        ·
         exact absurd rfl c7
        ·
         refine W_skip ?_
         refine hK19 _ _ ?_
         refine W_seq fun K22 hK22 => ?_
         refine wr ?_
         refine dm ?_
         iterate 2 refine da ?_
         refine D_end (hK22 _ _ ?_)
         refine W_ret ?_
         try dsimp only [then', inBlk, noGo]
         refine rt ?_
         exact ⟨_, rfl, hx, b2, bl, b1, bm, ba, bn, rfl, ⟨m2, hl, hd.ext hx, hm.ext hx, mp1, hM⟩⟩

set_option maxRecDepth 100000 in
set_option maxHeartbeats 1000000 in
theorem aheadE_w (bm ba bn : Nat) (cs : List Value) (hc : cs.length = 4) (w : World) (h : MemE w bm ba bn) :
  Calls Tryz.prog 194 [ptr bm 0, .agg ⟨cs⟩].toArray w (Pure w (.agg ⟨List.replicate 12 (I 0)⟩)) := by
 refine calls_W Tryz.func194 rfl rfl rfl (by kernel_rfl) ?_
 have hx := Ext.refl w
 have hM := h.m
 have hA : Arr (fun x : List Value => x) 5 w (.slice (some ⟨ba, 0, none⟩) 1 1) [[S [], S [], B false, I 0, .slice (some ⟨bn, 0, none⟩) 12 12]] := ⟨.inr (.inl ⟨ba, 0, 1, rfl, by simp⟩), fun i cs hi => by
  cases i with
  | zero => simp only [List.map_cons, List.getElem?_cons_zero, Option.some.injEq] at hi; subst hi; exact ⟨rfl, h.a.row⟩
  | succ i => simp at hi⟩
 have hN : Arr Vc.encI 1 w (.slice (some ⟨bn, 0, none⟩) 12 12) (List.replicate 12 0) := h.n.arr (enc := Vc.encI) (sz := 1) (l := List.replicate 12 0) rfl (by intro x; rfl) rfl (by simp)
 have hz : [[S [], S [], B false, I 0, .slice (some ⟨bn, 0, none⟩) 12 12]][0]? = some [S [], S [], B false, I 0, .slice (some ⟨bn, 0, none⟩) 12 12] := rfl
 refine W_seq fun K1 hK1 => ?_
 refine wr ?_
 refine D_box rfl rfl rfl RX.all (fun b1 w1 e1 x1 m1 => ?_)
 have g1 : w.heap.size ≤ b1 := by have := hx.size; omega
 replace hx := hx.trans x1
 refine D_alloc (cs := [.int .i64 0, .int .i64 0, .int .i64 0, .int .i64 0, .int .i64 0, .int .i64 0, .int .i64 0, .int .i64 0, .int .i64 0, .int .i64 0, .int .i64 0, .int .i64 0]) rfl (by kernel_rfl) RX.all (fun b2 w2 e2 x2 m2 => ?_)
 have g2 : w.heap.size ≤ b2 := by have := hx.size; omega
 have n2_1 : b1 < b2 := by have := m1.lt; omega
 replace m1 := m1.ext x2
 replace hx := hx.trans x2
 refine D_end (hK1 _ _ ?_)
 refine W_seq fun K2 hK2 => ?_
 refine wr ?_
 refine D_alloc (cs := [.int .i64 0, .int .i64 0, .int .i64 0, .int .i64 0, .int .i64 0, .int .i64 0, .int .i64 0, .int .i64 0, .int .i64 0, .int .i64 0, .int .i64 0, .int .i64 0]) rfl (by kernel_rfl) RX.all (fun b3 w3 e3 x3 m3 => ?_)
 have g3 : w.heap.size ≤ b3 := by have := hx.size; omega
 have n3_1 : b1 < b3 := by have := m1.lt; omega
 have n3_2 : b2 < b3 := by have := m2.lt; omega
 replace m1 := m1.ext x3
 replace m2 := m2.ext x3
 replace hx := hx.trans x3
 refine D_end (hK2 _ _ ?_)
 refine W_seq fun K3 hK3 => ?_
 refine wr ?_
 refine da ?_
 refine D_end (hK3 _ _ ?_)
 refine W_seq fun K4 hK4 => ?_
 refine W_seq fun K5 hK5 => ?_
 refine wr ?_
 refine da ?_
 refine D_end (hK5 _ _ ?_)
 refine W_block ?_
 refine W_loop (G := Int) (fun j => [(0, ptr bm 0), (3, ptr b1 0), (4, ptr b2 0), (5, ptr b3 0), (6, I 0), (7, I j)]) (fun j w' => Ext w w' ∧ Blk w' b1 cs 104 ∧ Blk w' b2 (List.replicate 12 (I 0)) 298 ∧ Blk w' b3 (List.replicate 12 (I 0)) 298 ∧ -1 ≤ j ∧ j ≤ 11) (fun j => (j + 1).toNat) 11 ?_ ?_ ?_
 ·
  exact ⟨rfl, rfl, rfl, rfl, rfl, rfl, trivial⟩
 ·
  exact ⟨hx, m1, m2, m3, by omega, by omega⟩
 ·
  intro X4 g4 w4 hF4
  revert hF4; revert g4; intro j hF4
  clear hx m1 m2 m3
  obtain ⟨hx, m1, m2, m3, hj1, hj2⟩ := hF4
  refine W_seq fun K6 hK6 => ?_
  refine W_seq fun K7 hK7 => ?_
  refine wr ?_
  refine dm ?_
  refine dp (pv_geq rfl rfl) ?_
  refine D_end (hK7 _ _ ?_)
  refine W_if rfl (fun c1 => ?_) (fun c1 => ?_)
  ·
   obtain ⟨k, rfl⟩ : ∃ k : Nat, j = k := ⟨j.toNat, by omega⟩
   have hk : k < 12 := by omega
   refine W_skip ?_
   refine hK6 _ _ ?_
   refine W_seq fun K8 hK8 => ?_
   refine W_block ?_
   refine W_seq fun K9 hK9 => ?_
   refine W_seq fun K10 hK10 => ?_
   refine wr ?_
   refine dm ?_
   refine dp (pv_nilP rfl) ?_
   refine dp (pv_fieldA (k := 0) (by kernel_rfl) rfl) ?_
   refine dq (lv_load (by kernel_rfl) rfl ((hM.ext hx).at rfl)) ?_
   refine dm ?_
   refine dp (pv_idxA (i := 0) (e := 219) (k := 5) (by kernel_rfl) hA.sl rfl rfl (hA.lt hz)) ?_
   refine dp (pv_fieldA (k := 4) (by kernel_rfl) rfl) ?_
   refine dq (lv_load (by kernel_rfl) rfl (((hA.ext hx).row hz).at rfl)) ?_
   refine dm ?_
   refine dp (pv_idxA (e := 3) (k := 1) (by kernel_rfl) hN.sl rfl rfl (hN.lt (rep12 hk))) ?_
   refine dq (lv_load (by kernel_rfl) rfl (((hN.ext hx).row (rep12 hk)).at0 rfl)) ?_
   refine da ?_
   refine D_end (hK10 _ _ ?_)
   refine W_block ?_
   refine W_loop (G := Unit) (fun uu => [(0, ptr bm 0), (3, ptr b1 0), (4, ptr b2 0), (5, ptr b3 0), (6, I 0), (7, I ↑k), (8, I 0)]) (fun uu w' => Ext w w' ∧ Blk w' b1 cs 104 ∧ Blk w' b2 (List.replicate 12 (I 0)) 298 ∧ Blk w' b3 (List.replicate 12 (I 0)) 298 ∧ True) (fun uu => 0) () ?_ ?_ ?_
   ·
    exact ⟨rfl, rfl, rfl, rfl, rfl, rfl, rfl, trivial⟩
   ·
    exact ⟨hx, m1, m2, m3, trivial⟩
   ·
    intro X5 g5 w5 hF5
    revert hF5; revert g5; intro uu hF5
    clear hx m1 m2 m3
    obtain ⟨hx, m1, m2, m3, htr⟩ := hF5
    refine W_seq fun K11 hK11 => ?_
    refine W_seq fun K12 hK12 => ?_
    refine W_draw (R := Ext) Ext.refl (fun _ _ _ => Ext.trans) (by kernel_rfl) [6, 10, 11] [(0, .p, false), (1, .p, false), (2, .p, false), (3, .p, false), (4, .p, false), (5, .p, false), (6, .l, false), (7, .p, false), (8, .p, false), (9, .p, false), (10, .l, false), (11, .l, false), (12, .x, false), (13, .p, false)] rfl (by kernel_rfl) (by kernel_rfl) (fun w6 ew6 => ?_)
    have x6 : Ext w5 w6 := by rw [ew6]; exact Ext.drew _
    clear ew6
    replace m1 := m1.ext x6
    replace m2 := m2.ext x6
    replace m3 := m3.ext x6
    replace hx := hx.trans x6
    refine dm ?_
    refine dp (pv_neq rfl rfl) ?_
    refine dm ?_
    refine D_splitP 26 rfl (fun c2 => ?_) (fun c2 => ?_)
    ·
     exact absurd rfl c2
    ·
     iterate 10 refine dk ?_
     refine dk' ?_
     refine D_end (hK12 _ _ ?_)
     refine W_f rfl ?_
     refine W_exit ?_
     refine hK9 _ _ ?_
     refine wr ?_
     iterate 2 refine dm ?_
     refine dp (pv_idxR (m := 12) (e := 3) (k := 1) (by kernel_rfl) rfl rfl (by omega)) ?_
     refine D_store1 (v := ?v13) rfl rfl ?h13 ?n13 (by kernel_rfl) m3 ?o13 (.inl rfl) (fun w7 x7 xs7 m3 => ?k13)
     case h13 => conv => lhs; whnf
     case n13 => first | rfl | exact isSl.one m1.sl | exact isSl.one m2.sl | exact isSl.one h.sl | exact isSl.one hA.sl | exact isSl.one hM.sl | exact isSl.one hN.sl
     case o13 => simp; omega
     rw [List.set_replicate_self] at m3
     try replace m1 := m1.mod x7 (by first | assumption | (intro k hk h; have h1 := (m1.lt k hk).1; have h2 : k = b3 := h; omega) | (intro k hk h; have h1 := o3_m1 k hk; have h2 : k = b3 := h; omega) | (intro h; have h2 : _ = b3 := h; omega) | (intro hl h; have h1 := a3_m1 hl; have h2 : _ = b3 := h; omega))
     try replace m2 := m2.mod x7 (by first | assumption | (intro k hk h; have h1 := (m2.lt k hk).1; have h2 : k = b3 := h; omega) | (intro k hk h; have h1 := o3_m2 k hk; have h2 : k = b3 := h; omega) | (intro h; have h2 : _ = b3 := h; omega) | (intro hl h; have h1 := a3_m2 hl; have h2 : _ = b3 := h; omega))
     replace hx := hx.own x7 (by intro i hi; have hi2 : i = b3 := hi; subst hi2; omega)
     refine D_end (hK8 _ _ ?_)
     refine wr ?_
     refine dm ?_
     refine dp (pv_sub rfl rfl (by unfold inI64; omega)) ?_
     refine da ?_
     refine D_end (?_)
     refine ⟨(k : Int) - 1, ⟨rfl, rfl, rfl, rfl, rfl, rfl, trivial⟩, ⟨hx, m1, m2, m3, by omega, by omega⟩, by omega⟩
  ·
   refine W_exit ?_
   refine hK4 _ _ ?_
   refine W_seq fun K13 hK13 => ?_
   refine wr ?_
   refine dq (lv_loadA (k := 12) (by kernel_rfl) rfl rfl m3.row) ?_
   refine D_storeA (m := 12) (vs := ?u16) rfl rfl ?h16 (by kernel_rfl) ?c16 ?d16 m2 ?n16 (.inl rfl) (fun w8 x8 xs8 m2 => ?k16)
   case h16 => conv => lhs; whnf
   case c16 => rfl
   case d16 => rfl
   case n16 => simp [Value.oneCell']
   try dsimp only [setAt, List.set, List.take, List.drop] at m2
   try replace m1 := m1.mod x8 (by first | assumption | (intro k hk h; have h1 := (m1.lt k hk).1; have h2 : k = b2 := h; omega) | (intro k hk h; have h1 := o2_m1 k hk; have h2 : k = b2 := h; omega) | (intro h; have h2 : _ = b2 := h; omega) | (intro hl h; have h1 := a2_m1 hl; have h2 : _ = b2 := h; omega))
   try replace m3 := m3.mod x8 (by first | assumption | (intro k hk h; have h1 := (m3.lt k hk).1; have h2 : k = b2 := h; omega) | (intro k hk h; have h1 := o2_m3 k hk; have h2 : k = b2 := h; omega) | (intro h; have h2 : _ = b2 := h; omega) | (intro hl h; have h1 := a2_m3 hl; have h2 : _ = b2 := h; omega))
   replace hx := hx.own x8 (by intro i hi; have hi2 : i = b2 := hi; subst hi2; omega)
   refine D_end (hK13 _ _ ?_)
   refine W_ret ?_
   try dsimp only [then', inBlk, noGo]
   refine ret_cell (k := 12) rfl rfl rfl (by kernel_rfl) rfl m2.row ?_
   exact ⟨rfl, hx⟩

set_option maxRecDepth 100000 in
set_option maxHeartbeats 1000000 in
theorem firstE_w (bm ba bn : Nat) (cs : List Value) (hc : cs.length = 4) (w : World) (h : MemE w bm ba bn) :
  Calls Tryz.prog 113 [ptr bm 0, .agg ⟨cs⟩].toArray w (Pure w (I 0)) := by
 refine calls_W Tryz.func113 rfl rfl rfl (by kernel_rfl) ?_
 have hx := Ext.refl w
 have hM := h.m
 have hA : Arr (fun x : List Value => x) 5 w (.slice (some ⟨ba, 0, none⟩) 1 1) [[S [], S [], B false, I 0, .slice (some ⟨bn, 0, none⟩) 12 12]] := ⟨.inr (.inl ⟨ba, 0, 1, rfl, by simp⟩), fun i cs hi => by
  cases i with
  | zero => simp only [List.map_cons, List.getElem?_cons_zero, Option.some.injEq] at hi; subst hi; exact ⟨rfl, h.a.row⟩
  | succ i => simp at hi⟩
 have hN : Arr Vc.encI 1 w (.slice (some ⟨bn, 0, none⟩) 12 12) (List.replicate 12 0) := h.n.arr (enc := Vc.encI) (sz := 1) (l := List.replicate 12 0) rfl (by intro x; rfl) rfl (by simp)
 have hz : [[S [], S [], B false, I 0, .slice (some ⟨bn, 0, none⟩) 12 12]][0]? = some [S [], S [], B false, I 0, .slice (some ⟨bn, 0, none⟩) 12 12] := rfl
 refine W_seq fun K1 hK1 => ?_
 refine wr ?_
 refine D_box rfl rfl rfl RX.all (fun b1 w1 e1 x1 m1 => ?_)
 have g1 : w.heap.size ≤ b1 := by have := hx.size; omega
 replace hx := hx.trans x1
 refine da ?_
 refine D_end (hK1 _ _ ?_)
 refine W_seq fun K2 hK2 => ?_
 refine W_draw (R := Ext) Ext.refl (fun _ _ _ => Ext.trans) (by kernel_rfl) [3, 5, 10, 12] [(0, .p, false), (1, .p, false), (2, .p, false), (3, .l, false), (4, .p, false), (5, .l, false), (6, .x, false), (7, .p, false), (8, .p, false), (9, .p, false), (10, .l, false), (11, .p, false), (12, .l, false), (13, .p, false)] rfl (by kernel_rfl) (by kernel_rfl) (fun w2 ew2 => ?_)
 have x2 : Ext w1 w2 := by rw [ew2]; exact Ext.drew _
 clear ew2
 replace m1 := m1.ext x2
 replace hx := hx.trans x2
 refine dm ?_
 refine dp (pv_nilP rfl) ?_
 refine dp (pv_fieldA (k := 0) (by kernel_rfl) rfl) ?_
 refine D_l rfl (fun w' hR => lv_load (by kernel_rfl) rfl ((hM.ext (hx.trans hR)).at rfl)) ?_
 refine dm ?_
 refine D_l rfl (fun w' hR => lv_loadA (k := 4) (by kernel_rfl) rfl hc (m1.ext hR).row) ?_
 refine D_callP rfl (by kernel_rfl) (aheadE_w bm ba bn cs hc _ (h.ext hx)) rfl RX.ext (fun w3 x3 => ?_)
 replace m1 := m1.ext x3
 replace hx := hx.trans x3
 refine dp (pv_idxG (m := 12) (e := 3) (by kernel_rfl) (by kernel_rfl) rfl rfl (i := 0) (by decide) rfl) ?_
 refine dp (pv_idxA (i := 0) (e := 219) (k := 5) (by kernel_rfl) hA.sl rfl rfl (hA.lt hz)) ?_
 refine dp (pv_fieldA (k := 4) (by kernel_rfl) rfl) ?_
 refine D_l rfl (fun w' hR => lv_load (by kernel_rfl) rfl (((hA.ext (hx.trans hR)).row hz).at rfl)) ?_
 refine dp (pv_idxA (i := 0) (e := 3) (k := 1) (by kernel_rfl) hN.sl rfl rfl (hN.lt (rep12 (by decide)))) ?_
 refine D_l rfl (fun w' hR => lv_load (by kernel_rfl) rfl (((hN.ext (hx.trans hR)).row (rep12 (by decide))).at0 rfl)) ?_
 refine da ?_
 refine D_end (hK2 _ _ ?_)
 refine W_ret ?_
 try dsimp only [then', inBlk, noGo]
 refine ro ?_
 exact ⟨rfl, hx⟩

set_option maxRecDepth 100000 in
set_option maxHeartbeats 1000000 in
theorem mscanE_w (bm ba bn : Nat) (s t : Str) (w : World) (h : MemE w bm ba bn) :
  Calls Tryz.prog 56 [ptr bm 0, S s, S t].toArray w (Pure w (.slice none 0 0)) := by
 refine calls_W Tryz.func56 rfl rfl rfl (by kernel_rfl) ?_
 have hx := Ext.refl w
 refine W_seq fun K1 hK1 => ?_
 refine wr ?_
 refine da ?_
 refine D_end (hK1 _ _ ?_)
 refine W_seq fun K2 hK2 => ?_
 refine W_seq fun K3 hK3 => ?_
 refine wr ?_
 refine dm ?_
 refine dp (pv_eqP (by kernel_rfl) rfl rfl) ?_
 refine D_end (hK3 _ _ ?_)
 refine W_if rfl (fun c1 => ?_) (fun c1 => ?_)
 ·
  exact absurd c1 (by simp)
 ·
  refine W_skip ?_
  refine hK2 _ _ ?_
  refine W_seq fun K4 hK4 => ?_
  refine wr ?_
  refine da ?_
  refine D_end (hK4 _ _ ?_)
  refine W_seq fun K5 hK5 => ?_
  refine W_seq fun K6 hK6 => ?_
  refine wr ?_
  iterate 2 refine dm ?_
  refine dp (pv_build (zs := [S [], S [], B false, .int .i64 0]) (pl := [(0, 1), (1, 1), (2, 1), (3, 1)]) (pv := [(0, ?a6_0), (3, ?a6_1)]) (cs := [?a6_0, S [], B false, ?a6_1]) (by kernel_rfl) (by kernel_rfl) ?h6 ?f6) ?k6
  case h6 => refine ⟨rfl, ?_, rfl, ?_, trivial⟩ <;> (conv => lhs; whnf)
  case f6 => rfl
  refine D_callP rfl (by kernel_rfl) (firstE_w bm ba bn _ rfl _ (h.ext hx)) rfl RX.all (fun w1 x1 => ?_)
  replace hx := hx.trans x1
  refine da ?_
  refine D_end (hK6 _ _ ?_)
  refine W_block ?_
  refine W_loop (G := Unit) (fun uu => [(0, ptr bm 0), (2, S t), (6, .slice none 0 0), (7, .slice none 0 0), (8, I 0)]) (fun uu w' => Ext w w' ∧ True) (fun uu => 0) () ?_ ?_ ?_
  ·
   exact ⟨rfl, rfl, rfl, rfl, rfl, trivial⟩
  ·
   exact ⟨hx, trivial⟩
  ·
   intro X2 g2 w2 hF2
   revert hF2; revert g2; intro uu hF2
   clear hx
   obtain ⟨hx, htr⟩ := hF2
   refine W_seq fun K7 hK7 => ?_
   refine W_seq fun K8 hK8 => ?_
   refine wr ?_
   refine dm ?_
   refine dp (pv_neq rfl rfl) ?_
   refine D_end (hK8 _ _ ?_)
   refine W_if rfl (fun c2 => ?_) (fun c2 => ?_)
   ·
    exact absurd rfl c2
   ·
    refine W_exit ?_
    refine hK5 _ _ ?_
    refine W_seq fun K9 hK9 => ?_
    refine wr ?_
    refine dm ?_
    refine da ?_
    refine D_end (hK9 _ _ ?_)
    refine W_ret ?_
    try dsimp only [then', inBlk, noGo]
    refine ro ?_
    exact ⟨rfl, hx⟩

end Go.Proofs.YteninjhmmjkckaaGreatDoor
