/-
  Walks.
-/
import Derived.Test.YtcjjjmhhpejdoaaGreatDoorChecked
import Derived.Test.YtcjjjmhhpejdoaaGreatDoorSpMem
import Derived.KernelRfl
import Derived.Test.YtcjjjmhhpejdoaaGreatDoorIdxB
import Derived.Test.YtcjjjmhhpejdoaaGreatDoorGvA
namespace Go.Proofs.YtcjjjmhhpejdoaaGreatDoor
open Go.Vc Go.Sp
attribute [local irreducible] W XW Dw DwT
set_option linter.unusedVariables false
set_option linter.unusedSimpArgs false

theorem nil_base {w : World} {v : Value} {l : List Str} (hv : v = .slice none 0 0) (h : Arr sEnc 1 w v l) : l = [] := by
  rcases h.sl with ⟨_, h⟩ | ⟨b, o, c, h, _⟩ | ⟨h, _⟩
  · exact List.eq_nil_of_length_eq_zero h
  · rw [hv] at h; cases h
  · exact List.eq_nil_of_length_eq_zero h
theorem lay_ne (l : List Str) (s : Str) : layS l s ≠ [] := fun h => by
  have h1 : s ∈ layS l s := mem_layS.2 (.inr rfl)
  rw [h] at h1; cases h1
theorem lay_base {w' : World} {v v' : Value} {l : List Str} {s : Str} {B B' : Nat} (hv : v = .slice none 0 0 ∨ B ≤ (base v).1) (h : Arr sEnc 1 w' v' (layS l s)) (h2 : v' = v ∨ B' ≤ (base v').1) (hB : B ≤ B') : B ≤ (base v').1 := by
  rcases h2 with rfl | h2
  · rcases hv with hv | hv
    · exact absurd (nil_base hv h) (lay_ne l s)
    · exact hv
  · omega

set_option maxRecDepth 100000 in
set_option maxHeartbeats 1000000 in
theorem present_w (s : Str) (w : World) (hs : s.length ≤ 1000000) :
    Calls Tryz.prog 63 [S s].toArray w (Pure w (S (112 :: (s ++ [0])))) := by
  refine calls_W Tryz.func63 rfl rfl rfl (by kernel_rfl) ?_
  have hx := Ext.refl w
  refine W_seq fun K1 hK1 => ?_
  refine W_reg [.p] rfl ?_
  refine D_as (v := ?v1) rfl ?h1 ?k1
  case h1 => conv => lhs; whnf
  refine D_end (hK1 _ _ ?_)
  refine W_seq fun K2 hK2 => ?_
  refine W_reg [.p, .p, .p, .p] rfl ?_
  refine D_mv (v := ?v2) rfl ?h2 ?k2
  case h2 => conv => lhs; whnf
  refine D_p rfl (pv_scat rfl rfl (by simp; omega)) ?_
  refine D_p rfl (pv_scat rfl rfl (by simp; omega)) ?_
  refine D_as (v := ?v3) rfl ?h3 ?k3
  case h3 => conv => lhs; whnf
  refine D_end (hK2 _ _ ?_)
  refine W_ret ?_
  try dsimp only [then', inBlk, noGo]
  refine ret_one (v := ?v4) rfl rfl ?h4 ?k4
  case h4 => conv => lhs; whnf
  exact ⟨rfl, hx⟩

set_option maxRecDepth 100000 in
set_option maxHeartbeats 1000000 in
theorem rpresent_w (s : Str) (w : World) (hs : s.length ≤ 1000000) :
    Calls Tryz.prog 67 [S s].toArray w (Pure w (S (112 :: (s ++ [0])))) := by
  refine calls_W Tryz.func67 rfl rfl rfl (by kernel_rfl) ?_
  have hx := Ext.refl w
  refine W_seq fun K1 hK1 => ?_
  refine W_reg [.p] rfl ?_
  refine D_as (v := ?v1) rfl ?h1 ?k1
  case h1 => conv => lhs; whnf
  refine D_end (hK1 _ _ ?_)
  refine W_seq fun K2 hK2 => ?_
  refine W_reg [.p, .p, .p, .p] rfl ?_
  refine D_mv (v := ?v2) rfl ?h2 ?k2
  case h2 => conv => lhs; whnf
  refine D_p rfl (pv_scat rfl rfl (by simp; omega)) ?_
  refine D_p rfl (pv_scat rfl rfl (by simp; omega)) ?_
  refine D_as (v := ?v3) rfl ?h3 ?k3
  case h3 => conv => lhs; whnf
  refine D_end (hK2 _ _ ?_)
  refine W_ret ?_
  try dsimp only [then', inBlk, noGo]
  refine ret_one (v := ?v4) rfl rfl ?h4 ?k4
  case h4 => conv => lhs; whnf
  exact ⟨rfl, hx⟩

set_option maxRecDepth 100000 in
set_option maxHeartbeats 1000000 in
theorem escape_w (s : Str) (w : World) (hs : s.length ≤ 1000000) (hg : GV w) :
    Calls Tryz.prog 77 [S s].toArray w (Pure w (S (escS s))) := by
  refine calls_W Tryz.func77 rfl rfl rfl (by kernel_rfl) ?_
  have hx := Ext.refl w
  refine W_seq fun K1 hK1 => ?_
  refine W_reg [.p] rfl ?_
  refine D_as (v := ?v1) rfl ?h1 ?k1
  case h1 => conv => lhs; whnf
  refine D_end (hK1 _ _ ?_)
  refine W_seq fun K2 hK2 => ?_
  refine W_reg [.p, .x, .p] rfl ?_
  refine D_mv (v := ?v2) rfl ?h2 ?k2
  case h2 => conv => lhs; whnf
  refine D_callP rfl (by kernel_rfl) (replaceAll_w s 0 [0, 255] _ (hg.ext hx) (by decide) hs (by decide)) rfl RX.all (fun w1 x1 => ?_)
  replace hx := hx.trans x1
  refine D_as (v := ?v3) rfl ?h3 ?k3
  case h3 => conv => lhs; whnf
  refine D_end (hK2 _ _ ?_)
  refine W_ret ?_
  try dsimp only [then', inBlk, noGo]
  refine ret_one (v := ?v4) rfl rfl ?h4 ?k4
  case h4 => conv => lhs; whnf
  exact ⟨rfl, hx⟩

set_option maxRecDepth 100000 in
set_option maxHeartbeats 1000000 in
theorem rescape_w (s : Str) (w : World) (hs : s.length ≤ 1000000) :
    Calls Tryz.prog 78 [S s].toArray w (Pure w (S (escS s))) := by
  refine calls_W Tryz.func78 rfl rfl rfl (by kernel_rfl) ?_
  have hx := Ext.refl w
  refine W_seq fun K1 hK1 => ?_
  refine W_reg [.p] rfl ?_
  refine D_as (v := ?v1) rfl ?h1 ?k1
  case h1 => conv => lhs; whnf
  refine D_end (hK1 _ _ ?_)
  refine W_seq fun K2 hK2 => ?_
  refine W_reg [.p] rfl ?_
  refine D_as (v := ?v2) rfl ?h2 ?k2
  case h2 => conv => lhs; whnf
  refine D_end (hK2 _ _ ?_)
  refine W_seq fun K3 hK3 => ?_
  refine W_seq fun K4 hK4 => ?_
  refine W_reg [.p] rfl ?_
  refine D_as (v := ?v3) rfl ?h3 ?k3
  case h3 => conv => lhs; whnf
  refine D_end (hK4 _ _ ?_)
  refine W_block ?_
  refine W_loop (G := Nat × Value) (fun (k, vm) => [(0, S s), (2, S []), (3, vm), (4, I ↑k)]) (fun (k, vm) w' => Ext w w' ∧ k ≤ s.length ∧ Own encB 1 5 w.heap.size w' vm (escS (s.take k))) (fun (k, vm) => s.length - k) (0, .slice none 0 0) ?_ ?_ ?_
  · exact ⟨rfl, rfl, rfl, rfl, trivial⟩
  · exact ⟨hx, Nat.zero_le _, Own.nil⟩
  · intro X1 g1 w1 hF1
    obtain ⟨k, vm⟩ := g1
    clear hx 
    obtain ⟨hx, hk1, ho⟩ := hF1
    have hel := esc_len (s.take k)
    have htl : (s.take k).length ≤ k := List.length_take_le ..
    refine W_seq fun K5 hK5 => ?_
    refine W_seq fun K6 hK6 => ?_
    refine W_reg [.p, .p, .p, .p] rfl ?_
    refine D_mv (v := ?v4) rfl ?h4 ?k4
    case h4 => conv => lhs; whnf
    refine D_mv (v := ?v5) rfl ?h5 ?k5
    case h5 => conv => lhs; whnf
    refine D_p rfl (pv_lenS (by kernel_rfl) rfl) ?_
    refine D_p rfl (pv_lss rfl rfl) ?_
    refine D_end (hK6 _ _ ?_)
    refine W_if rfl (fun c1 => ?_) (fun c1 => ?_)
    ·
      obtain ⟨c, hk⟩ : ∃ c, s[k]? = some c := ⟨_, List.getElem?_eq_getElem (by omega)⟩
      refine W_skip ?_
      refine hK5 _ _ ?_
      refine W_seq fun K7 hK7 => ?_
      refine W_block ?_
      refine W_seq fun K8 hK8 => ?_
      refine W_reg [.p, .p, .p, .p, .x, .x, .p] rfl ?_
      refine D_mv (v := ?v6) rfl ?h6 ?k6
      case h6 => conv => lhs; whnf
      refine D_mv (v := ?v7) rfl ?h7 ?k7
      case h7 => conv => lhs; whnf
      refine D_mv (v := ?v8) rfl ?h8 ?k8
      case h8 => conv => lhs; whnf
      refine D_p rfl (pv_idxS (by kernel_rfl) rfl rfl hk) ?_
      refine D_lit (e := 5) (sz := 1) (zs := [.int .u8 0]) (pv := [(0, ?a9_0)]) (cs := [?a9_0]) rfl (by kernel_rfl) ⟨rfl, rfl⟩ (by kernel_rfl) rfl ?h9 ?f9 RX.all (fun b1 w2 e1 x2 m1 => ?k9)
      case h9 => refine ⟨rfl, ?_, trivial⟩ <;> (conv => lhs; whnf)
      case f9 => rfl
      have g1 : w.heap.size ≤ b1 := by have := hx.size; omega
      have o1_ho : ∀ k, Value.ownBlock _ = some k → k < b1 := fun k hk => by have := (ho.lt k hk).2; omega
      replace ho := ho.ext x2
      replace hx := hx.trans x2
      refine D_append (lx := [c]) (e := 5) (sz := 1) (by' := 1) rfl (by kernel_rfl) (by kernel_rfl) (by intro x; rfl) ho (m1.arr (enc := encB) (sz := 1) (l := [c]) rfl (by intro x; rfl) rfl (Nat.le_of_ble_eq_true rfl)) rfl rfl (by intro x _ u hu; simp at hu; rcases hu with rfl <;> rfl) (by simp; omega) (by decide) hx.size (.inl rfl) (fun vm2 w3 ho_n x3 => ?_)
      replace hx := hx.own x3 (fun i hi => (ho.lt i hi).1)
      replace ho := ho_n
      clear m1
      refine D_as (v := ?v10) rfl ?h10 ?k10
      case h10 => conv => lhs; whnf
      refine D_end (hK8 _ _ ?_)
      refine W_seq fun K9 hK9 => ?_
      refine W_reg [.p, .p, .p, .p] rfl ?_
      refine D_mv (v := ?v11) rfl ?h11 ?k11
      case h11 => conv => lhs; whnf
      refine D_mv (v := ?v12) rfl ?h12 ?k12
      case h12 => conv => lhs; whnf
      refine D_p rfl (pv_idxS (by kernel_rfl) rfl rfl hk) ?_
      refine D_p rfl (pv_eqlB (b := 0) rfl rfl) ?_
      refine D_end (hK9 _ _ ?_)
      refine W_if rfl (fun c2 => ?_) (fun c2 => ?_)
      ·
        refine W_reg [.p, .x, .x, .p] rfl ?_
        refine D_mv (v := ?v13) rfl ?h13 ?k13
        case h13 => conv => lhs; whnf
        refine D_lit (e := 5) (sz := 1) (zs := [.int .u8 0]) (pv := [(0, ?a14_0)]) (cs := [?a14_0]) rfl (by kernel_rfl) ⟨rfl, rfl⟩ (by kernel_rfl) rfl ?h14 ?f14 RX.all (fun b2 w4 e2 x4 m2 => ?k14)
        case h14 => refine ⟨rfl, ?_, trivial⟩ <;> (conv => lhs; whnf)
        case f14 => rfl
        have g2 : w.heap.size ≤ b2 := by have := hx.size; omega
        have o2_ho : ∀ k, Value.ownBlock _ = some k → k < b2 := fun k hk => by have := (ho.lt k hk).2; omega
        replace ho := ho.ext x4
        replace hx := hx.trans x4
        refine D_append (lx := [255]) (e := 5) (sz := 1) (by' := 1) rfl (by kernel_rfl) (by kernel_rfl) (by intro x; rfl) ho (m2.arr (enc := encB) (sz := 1) (l := [255]) rfl (by intro x; rfl) rfl (Nat.le_of_ble_eq_true rfl)) rfl rfl (by intro x _ u hu; simp at hu; rcases hu with rfl <;> rfl) (by simp; omega) (by decide) hx.size (.inl rfl) (fun vm3 w5 ho_n x5 => ?_)
        replace hx := hx.own x5 (fun i hi => (ho.lt i hi).1)
        replace ho := ho_n
        clear m2
        refine D_as (v := ?v15) rfl ?h15 ?k15
        case h15 => conv => lhs; whnf
        refine D_end (hK7 _ _ ?_)
        refine W_reg [.p, .p, .p] rfl ?_
        refine D_mv (v := ?v16) rfl ?h16 ?k16
        case h16 => conv => lhs; whnf
        refine D_p rfl (pv_add rfl rfl (by unfold inI64; omega)) ?_
        refine D_as (v := ?v17) rfl ?h17 ?k17
        case h17 => conv => lhs; whnf
        refine D_end (?_)
        refine ⟨(k + 1, vm3), ⟨rfl, rfl, rfl, rfl, trivial⟩, ⟨hx, by omega, ?_⟩, by simp only []; omega⟩
        rw [esc_take hk, if_pos c2]; simpa [c2] using ho
      ·
        refine W_skip ?_
        refine hK7 _ _ ?_
        refine W_reg [.p, .p, .p] rfl ?_
        refine D_mv (v := ?v18) rfl ?h18 ?k18
        case h18 => conv => lhs; whnf
        refine D_p rfl (pv_add rfl rfl (by unfold inI64; omega)) ?_
        refine D_as (v := ?v19) rfl ?h19 ?k19
        case h19 => conv => lhs; whnf
        refine D_end (?_)
        refine ⟨(k + 1, vm2), ⟨rfl, rfl, rfl, rfl, trivial⟩, ⟨hx, by omega, ?_⟩, by simp only []; omega⟩
        rw [esc_take hk, if_neg c2]; exact ho
    ·
      refine W_exit ?_
      refine hK3 _ _ ?_
      refine W_seq fun K10 hK10 => ?_
      refine W_reg [.p, .l, .p] rfl ?_
      refine D_mv (v := ?v20) rfl ?h20 ?k20
      case h20 => conv => lhs; whnf
      refine D_lq rfl (lv_b2s (by kernel_rfl) (by kernel_rfl) (ho.arr (by intro x; rfl)) rfl) ?_
      refine D_as (v := ?v21) rfl ?h21 ?k21
      case h21 => conv => lhs; whnf
      refine D_end (hK10 _ _ ?_)
      refine W_ret ?_
      try dsimp only [then', inBlk, noGo]
      refine ret_one (v := ?v22) rfl rfl ?h22 ?k22
      case h22 => conv => lhs; whnf
      rw [List.take_of_length_le (by omega)]
      exact ⟨rfl, hx⟩

set_option maxRecDepth 100000 in
set_option maxHeartbeats 1000000 in
theorem equal_w (t s : Str) (w : World) (ht : t.length ≤ 1000000) (hs : s.length ≤ 1000000) (hg : GV w) :
    Calls Tryz.prog 30 [S t, S s].toArray w (Pure w (S (begS 101 t s))) := by
  refine calls_W Tryz.func30 rfl rfl rfl (by kernel_rfl) ?_
  have hx := Ext.refl w
  have hel := esc_len s
  refine W_seq fun K1 hK1 => ?_
  refine W_reg [.p] rfl ?_
  refine D_as (v := ?v1) rfl ?h1 ?k1
  case h1 => conv => lhs; whnf
  refine D_end (hK1 _ _ ?_)
  refine W_seq fun K2 hK2 => ?_
  refine W_reg [.p, .p, .p, .p, .x, .p, .p, .p] rfl ?_
  refine D_mv (v := ?v2) rfl ?h2 ?k2
  case h2 => conv => lhs; whnf
  refine D_p rfl (pv_scat rfl rfl (by simp; omega)) ?_
  refine D_p rfl (pv_scat rfl rfl (by simp; omega)) ?_
  refine D_mv (v := ?v3) rfl ?h3 ?k3
  case h3 => conv => lhs; whnf
  refine D_callP rfl (by kernel_rfl) (escape_w s _ hs (hg.ext hx)) rfl RX.all (fun w1 x1 => ?_)
  replace hx := hx.trans x1
  refine D_p rfl (pv_scat rfl rfl (by simp; omega)) ?_
  refine D_p rfl (pv_scat rfl rfl (by simp; omega)) ?_
  refine D_as (v := ?v4) rfl ?h4 ?k4
  case h4 => conv => lhs; whnf
  refine D_end (hK2 _ _ ?_)
  refine W_ret ?_
  try dsimp only [then', inBlk, noGo]
  refine ret_one (v := ?v5) rfl rfl ?h5 ?k5
  case h5 => conv => lhs; whnf
  refine ⟨?_, hx⟩
  simp [begS]

set_option maxRecDepth 100000 in
set_option maxHeartbeats 1000000 in
theorem gram_w (t s : Str) (w : World) (ht : t.length ≤ 1000000) (hs : s.length ≤ 1000000) (hg : GV w) :
    Calls Tryz.prog 110 [S t, S s].toArray w (Pure w (S (begS 103 t s))) := by
  refine calls_W Tryz.func110 rfl rfl rfl (by kernel_rfl) ?_
  have hx := Ext.refl w
  have hel := esc_len s
  refine W_seq fun K1 hK1 => ?_
  refine W_reg [.p] rfl ?_
  refine D_as (v := ?v1) rfl ?h1 ?k1
  case h1 => conv => lhs; whnf
  refine D_end (hK1 _ _ ?_)
  refine W_seq fun K2 hK2 => ?_
  refine W_reg [.p, .p, .p, .p, .x, .p, .p, .p] rfl ?_
  refine D_mv (v := ?v2) rfl ?h2 ?k2
  case h2 => conv => lhs; whnf
  refine D_p rfl (pv_scat rfl rfl (by simp; omega)) ?_
  refine D_p rfl (pv_scat rfl rfl (by simp; omega)) ?_
  refine D_mv (v := ?v3) rfl ?h3 ?k3
  case h3 => conv => lhs; whnf
  refine D_callP rfl (by kernel_rfl) (escape_w s _ hs (hg.ext hx)) rfl RX.all (fun w1 x1 => ?_)
  replace hx := hx.trans x1
  refine D_p rfl (pv_scat rfl rfl (by simp; omega)) ?_
  refine D_p rfl (pv_scat rfl rfl (by simp; omega)) ?_
  refine D_as (v := ?v4) rfl ?h4 ?k4
  case h4 => conv => lhs; whnf
  refine D_end (hK2 _ _ ?_)
  refine W_ret ?_
  try dsimp only [then', inBlk, noGo]
  refine ret_one (v := ?v5) rfl rfl ?h5 ?k5
  case h5 => conv => lhs; whnf
  refine ⟨?_, hx⟩
  simp [begS]

set_option maxRecDepth 100000 in
set_option maxHeartbeats 1000000 in
theorem requal_w (t s : Str) (w : World) (ht : t.length ≤ 1000000) (hs : s.length ≤ 1000000) :
    Calls Tryz.prog 111 [S t, S s].toArray w (Pure w (S (begS 101 t s))) := by
  refine calls_W Tryz.func111 rfl rfl rfl (by kernel_rfl) ?_
  have hx := Ext.refl w
  have hel := esc_len s
  refine W_seq fun K1 hK1 => ?_
  refine W_reg [.p] rfl ?_
  refine D_as (v := ?v1) rfl ?h1 ?k1
  case h1 => conv => lhs; whnf
  refine D_end (hK1 _ _ ?_)
  refine W_seq fun K2 hK2 => ?_
  refine W_reg [.p, .p, .p, .p, .x, .p, .p, .p] rfl ?_
  refine D_mv (v := ?v2) rfl ?h2 ?k2
  case h2 => conv => lhs; whnf
  refine D_p rfl (pv_scat rfl rfl (by simp; omega)) ?_
  refine D_p rfl (pv_scat rfl rfl (by simp; omega)) ?_
  refine D_mv (v := ?v3) rfl ?h3 ?k3
  case h3 => conv => lhs; whnf
  refine D_callP rfl (by kernel_rfl) (rescape_w s _ hs) rfl RX.all (fun w1 x1 => ?_)
  replace hx := hx.trans x1
  refine D_p rfl (pv_scat rfl rfl (by simp; omega)) ?_
  refine D_p rfl (pv_scat rfl rfl (by simp; omega)) ?_
  refine D_as (v := ?v4) rfl ?h4 ?k4
  case h4 => conv => lhs; whnf
  refine D_end (hK2 _ _ ?_)
  refine W_ret ?_
  try dsimp only [then', inBlk, noGo]
  refine ret_one (v := ?v5) rfl rfl ?h5 ?k5
  case h5 => conv => lhs; whnf
  refine ⟨?_, hx⟩
  simp [begS]

set_option maxRecDepth 100000 in
set_option maxHeartbeats 1000000 in
theorem rgram_w (t s : Str) (w : World) (ht : t.length ≤ 1000000) (hs : s.length ≤ 1000000) :
    Calls Tryz.prog 113 [S t, S s].toArray w (Pure w (S (begS 103 t s))) := by
  refine calls_W Tryz.func113 rfl rfl rfl (by kernel_rfl) ?_
  have hx := Ext.refl w
  have hel := esc_len s
  refine W_seq fun K1 hK1 => ?_
  refine W_reg [.p] rfl ?_
  refine D_as (v := ?v1) rfl ?h1 ?k1
  case h1 => conv => lhs; whnf
  refine D_end (hK1 _ _ ?_)
  refine W_seq fun K2 hK2 => ?_
  refine W_reg [.p, .p, .p, .p, .x, .p, .p, .p] rfl ?_
  refine D_mv (v := ?v2) rfl ?h2 ?k2
  case h2 => conv => lhs; whnf
  refine D_p rfl (pv_scat rfl rfl (by simp; omega)) ?_
  refine D_p rfl (pv_scat rfl rfl (by simp; omega)) ?_
  refine D_mv (v := ?v3) rfl ?h3 ?k3
  case h3 => conv => lhs; whnf
  refine D_callP rfl (by kernel_rfl) (rescape_w s _ hs) rfl RX.all (fun w1 x1 => ?_)
  replace hx := hx.trans x1
  refine D_p rfl (pv_scat rfl rfl (by simp; omega)) ?_
  refine D_p rfl (pv_scat rfl rfl (by simp; omega)) ?_
  refine D_as (v := ?v4) rfl ?h4 ?k4
  case h4 => conv => lhs; whnf
  refine D_end (hK2 _ _ ?_)
  refine W_ret ?_
  try dsimp only [then', inBlk, noGo]
  refine ret_one (v := ?v5) rfl rfl ?h5 ?k5
  case h5 => conv => lhs; whnf
  refine ⟨?_, hx⟩
  simp [begS]

set_option maxRecDepth 100000 in
set_option maxHeartbeats 1000000 in
theorem rgrams2_w (s : Str) (w : World) (hs : s.length ≤ 1000000) :
    Calls Tryz.prog 112 [S s].toArray w (Gives w (fun v' w' => Arr sEnc 1 w' v' (grams s) ∧ (grams s ≠ [] → w.heap.size ≤ (base v').1))) := by
  refine calls_W Tryz.func112 rfl rfl rfl (by kernel_rfl) ?_
  have hx := Ext.refl w
  refine W_seq fun K1 hK1 => ?_
  refine W_reg [.p] rfl ?_
  refine D_as (v := ?v1) rfl ?h1 ?k1
  case h1 => conv => lhs; whnf
  refine D_end (hK1 _ _ ?_)
  refine W_seq fun K2 hK2 => ?_
  refine W_reg [.p] rfl ?_
  refine D_as (v := ?v2) rfl ?h2 ?k2
  case h2 => conv => lhs; whnf
  refine D_end (hK2 _ _ ?_)
  refine W_seq fun K3 hK3 => ?_
  refine W_seq fun K4 hK4 => ?_
  refine W_reg [.p] rfl ?_
  refine D_as (v := ?v3) rfl ?h3 ?k3
  case h3 => conv => lhs; whnf
  refine D_end (hK4 _ _ ?_)
  refine W_block ?_
  refine W_loop (G := Nat × Value) (fun (k, vn) => [(0, S s), (2, .slice none 0 0), (3, vn), (4, I ↑k)]) (fun (k, vn) w' => Ext w w' ∧ Arr sEnc 1 w' vn (((wins s).take k).foldl layS []) ∧ k ≤ (wins s).length ∧ (vn = .slice none 0 0 ∧ k = 0 ∨ w.heap.size ≤ (base vn).1)) (fun (k, vn) => s.length - k) (0, .slice none 0 0) ?_ ?_ ?_
  · exact ⟨rfl, rfl, rfl, rfl, trivial⟩
  · exact ⟨hx, Arr.nil, Nat.zero_le _, .inl ⟨rfl, rfl⟩⟩
  · intro X1 g1 w1 hF1
    obtain ⟨k, vn⟩ := g1
    clear hx 
    obtain ⟨hx, hn, hk, hb⟩ := hF1
    have hwl := wins_length s
    have hfl := lay_len ((wins s).take k) []
    have htl : ((wins s).take k).length ≤ k := List.length_take_le ..
    simp only [List.length_nil] at hfl
    refine W_seq fun K5 hK5 => ?_
    refine W_seq fun K6 hK6 => ?_
    refine W_reg [.p, .p, .p, .p, .p] rfl ?_
    refine D_mv (v := ?v4) rfl ?h4 ?k4
    case h4 => conv => lhs; whnf
    refine D_p rfl (pv_add rfl rfl (by unfold inI64; omega)) ?_
    refine D_mv (v := ?v5) rfl ?h5 ?k5
    case h5 => conv => lhs; whnf
    refine D_p rfl (pv_lenS (by kernel_rfl) rfl) ?_
    refine D_p rfl (pv_leq rfl rfl) ?_
    refine D_end (hK6 _ _ ?_)
    refine W_if rfl (fun c1 => ?_) (fun c1 => ?_)
    ·
      refine W_skip ?_
      refine hK5 _ _ ?_
      refine W_seq fun K7 hK7 => ?_
      refine W_block ?_
      refine W_reg [.p, .p, .p, .p, .p, .p, .x, .p] rfl ?_
      refine D_mv (v := ?v6) rfl ?h6 ?k6
      case h6 => conv => lhs; whnf
      refine D_mv (v := ?v7) rfl ?h7 ?k7
      case h7 => conv => lhs; whnf
      refine D_mv (v := ?v8) rfl ?h8 ?k8
      case h8 => conv => lhs; whnf
      refine D_mv (v := ?v9) rfl ?h9 ?k9
      case h9 => conv => lhs; whnf
      refine D_p rfl (pv_add rfl rfl (by unfold inI64; omega)) ?_
      refine D_pe (v := S ((s.drop k).take 3)) rfl (pv_slS (b := k + 3) (by kernel_rfl) rfl rfl rfl (by omega) (by omega)) (by rw [slice_win]) ?_
      refine D_callG rfl (by kernel_rfl) (lay2_w _ vn ((s.drop k).take 3) _ hn (by omega)) rfl RX.all (fun vq w2 x2 hq => ?_)
      have hsz2 := hx.size
      replace hn := hn.ext x2
      replace hx := hx.trans x2
      obtain ⟨hq, hq2⟩ := hq
      have hb2 := lay_base (hb.imp (fun h => h.1) id) hq hq2 hsz2
      refine D_as (v := ?v10) rfl ?h10 ?k10
      case h10 => conv => lhs; whnf
      refine D_end (hK7 _ _ ?_)
      refine W_reg [.p, .p, .p] rfl ?_
      refine D_mv (v := ?v11) rfl ?h11 ?k11
      case h11 => conv => lhs; whnf
      refine D_p rfl (pv_add rfl rfl (by unfold inI64; omega)) ?_
      refine D_as (v := ?v12) rfl ?h12 ?k12
      case h12 => conv => lhs; whnf
      refine D_end (?_)
      refine ⟨(k + 1, vq), ⟨rfl, rfl, rfl, rfl, trivial⟩, ⟨hx, ?_, by omega, .inr hb2⟩, by simp only []; omega⟩
      rw [wins_take (by omega), List.foldl_append]; exact hq
    ·
      refine W_exit ?_
      refine hK3 _ _ ?_
      refine W_seq fun K8 hK8 => ?_
      refine W_reg [.p, .p] rfl ?_
      refine D_mv (v := ?v13) rfl ?h13 ?k13
      case h13 => conv => lhs; whnf
      refine D_as (v := ?v14) rfl ?h14 ?k14
      case h14 => conv => lhs; whnf
      refine D_end (hK8 _ _ ?_)
      refine W_ret ?_
      try dsimp only [then', inBlk, noGo]
      refine ret_one (v := ?v15) rfl rfl ?h15 ?k15
      case h15 => conv => lhs; whnf
      rw [wins_all (by omega)] at hn
      exact ⟨_, rfl, hx, hn, fun hne => hb.elim (fun h => absurd (nil_base h.1 hn) hne) id⟩

theorem rgrams_w (s : Str) (w : World) (hs : s.length ≤ 1000000) : Calls Tryz.prog 112 [S s].toArray w (Gives w (fun v' w' => Arr sEnc 1 w' v' (grams s))) :=
  (rgrams2_w s w hs).mono fun e w' ⟨u, h1, h2, h3⟩ => ⟨u, h1, h2, h3.1⟩

end Go.Proofs.YtcjjjmhhpejdoaaGreatDoor
