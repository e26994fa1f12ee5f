/-
  Walks.
-/
import Derived.Test.YtcjjjmhhpejdoaaDoorChecked
import Derived.Test.YtcjjjmhhpejdoaaDoorSpMem
import Derived.KernelRfl
import Derived.Test.YtcjjjmhhpejdoaaDoorIdxB
import Derived.Test.YtcjjjmhhpejdoaaDoorSpRep
import Derived.Test.YtcjjjmhhpejdoaaDoorVcY
namespace Go.Proofs.YtcjjjmhhpejdoaaDoor
open Go.Vc Go.Sp
attribute [local irreducible] W XW Dw DwT
set_option linter.unusedVariables false
set_option linter.unusedSimpArgs false

/-- The library's own variables that are looked into. -/
structure GV (w : World) : Prop where
  ml : ∃ m, w.cell? ⟨Tryd.lays155_ren.g 1, 0, none⟩ = some (.int .i64 m)
theorem GV.mod {S : Nat → Prop} {w w' : World} (h : GV w) (x : Vc.Mod S w w') (hS : ∀ k, k < 40 → ¬ S k) : GV w' := by
  obtain ⟨m, hm⟩ := h.ml
  exact ⟨m, x.cell hm (hS _ (by decide))⟩
theorem GV.of_row {L : List (String × DataW Unit)} {w : World} (hsh : w.ShapedOpen Tryd.prog) (_ : laidMet Tryd.prog L w) : GV w :=
  ⟨cell_of_shapedOpen_int (t := 3) (zero := #[.int .i64 0]) hsh (Nat.le_of_ble_eq_true rfl) (by kernel_rfl) (by kernel_rfl) (by kernel_rfl) (by kernel_rfl) (by kernel_rfl)⟩
theorem GV.ext {w w' : World} (h : GV w) (x : Ext w w') : GV w' := h.mod x (fun _ _ h => h)
theorem replaceAll_w (s : Str) (c : UInt8) (new : Str) (w : World) (hg : GV w) (hne : new ≠ [c]) (hs : s.length ≤ 1000000) (hn : new.length ≤ 2) :
    Calls Tryd.prog 46 [S s, S [c], S new].toArray w (Pure w (S (repl c new s))) := by
  obtain ⟨m, hm⟩ := hg.ml
  have h1 : Lib.countB ⟨⟨s⟩⟩ ⟨⟨[c]⟩⟩ ≤ s.length := Lib.countB_le ⟨⟨[c]⟩⟩ (Nat.le_refl _) _ ⟨⟨s⟩⟩ (Nat.le_refl _)
  refine (Tryd.strings_ReplaceAll ⟨⟨s⟩⟩ ⟨⟨[c]⟩⟩ ⟨⟨new⟩⟩ m w ?_ hm (Nat.le_refl _) ?_).mono ?_
  · show s.length < _; omega
  · show s.length + _ * new.length ≤ _
    have h2 : Lib.countB ⟨⟨s⟩⟩ ⟨⟨[c]⟩⟩ * new.length ≤ 1000000 * 2 := Nat.mul_le_mul (by omega) hn
    omega
  · rintro e w' ⟨rfl, hb⟩
    refine ⟨?_, Ext.of_below hb⟩
    rw [show (⟨⟨s⟩⟩ : ByteArray).data.toList = s from rfl, show (⟨⟨[c]⟩⟩ : ByteArray).data.toList = [c] from rfl, show (⟨⟨new⟩⟩ : ByteArray).data.toList = new from rfl, replaceAll_eq c new hne]

set_option maxRecDepth 100000 in
set_option maxHeartbeats 1000000 in
theorem present_w (s : Str) (w : World) (hs : s.length ≤ 1000000) :
    Calls Tryd.prog 7 [S s].toArray w (Pure w (S (112 :: (s ++ [0])))) := by
  refine calls_W Tryd.func7 rfl rfl rfl (by kernel_rfl) ?_
  have hx := Ext.refl w
  refine W_seq fun K1 hK1 => ?_
  refine W_reg [.p] rfl ?_
  refine D_as (v := ?v1) rfl ?h1 ?k1
  case h1 => conv => lhs; whnf
  refine D_end (hK1 _ _ ?_)
  refine W_seq fun K2 hK2 => ?_
  refine W_reg [.p, .p, .p, .p] rfl ?_
  refine D_mv (v := ?v2) rfl ?h2 ?k2
  case h2 => conv => lhs; whnf
  refine D_p rfl (pv_scat rfl rfl (by simp; omega)) ?_
  refine D_p rfl (pv_scat rfl rfl (by simp; omega)) ?_
  refine D_as (v := ?v3) rfl ?h3 ?k3
  case h3 => conv => lhs; whnf
  refine D_end (hK2 _ _ ?_)
  refine W_ret ?_
  try dsimp only [then', inBlk, noGo]
  refine ret_one (v := ?v4) rfl rfl ?h4 ?k4
  case h4 => conv => lhs; whnf
  exact ⟨rfl, hx⟩

set_option maxRecDepth 100000 in
set_option maxHeartbeats 1000000 in
theorem rpresent_w (s : Str) (w : World) (hs : s.length ≤ 1000000) :
    Calls Tryd.prog 8 [S s].toArray w (Pure w (S (112 :: (s ++ [0])))) := by
  refine calls_W Tryd.func8 rfl rfl rfl (by kernel_rfl) ?_
  have hx := Ext.refl w
  refine W_seq fun K1 hK1 => ?_
  refine W_reg [.p] rfl ?_
  refine D_as (v := ?v1) rfl ?h1 ?k1
  case h1 => conv => lhs; whnf
  refine D_end (hK1 _ _ ?_)
  refine W_seq fun K2 hK2 => ?_
  refine W_reg [.p, .p, .p, .p] rfl ?_
  refine D_mv (v := ?v2) rfl ?h2 ?k2
  case h2 => conv => lhs; whnf
  refine D_p rfl (pv_scat rfl rfl (by simp; omega)) ?_
  refine D_p rfl (pv_scat rfl rfl (by simp; omega)) ?_
  refine D_as (v := ?v3) rfl ?h3 ?k3
  case h3 => conv => lhs; whnf
  refine D_end (hK2 _ _ ?_)
  refine W_ret ?_
  try dsimp only [then', inBlk, noGo]
  refine ret_one (v := ?v4) rfl rfl ?h4 ?k4
  case h4 => conv => lhs; whnf
  exact ⟨rfl, hx⟩

set_option maxRecDepth 100000 in
set_option maxHeartbeats 1000000 in
theorem escape_w (s : Str) (w : World) (hs : s.length ≤ 1000000) (hg : GV w) :
    Calls Tryd.prog 25 [S s].toArray w (Pure w (S (escS s))) := by
  refine calls_W Tryd.func25 rfl rfl rfl (by kernel_rfl) ?_
  have hx := Ext.refl w
  refine W_seq fun K1 hK1 => ?_
  refine W_reg [.p] rfl ?_
  refine D_as (v := ?v1) rfl ?h1 ?k1
  case h1 => conv => lhs; whnf
  refine D_end (hK1 _ _ ?_)
  refine W_seq fun K2 hK2 => ?_
  refine W_reg [.p, .x, .p] rfl ?_
  refine D_mv (v := ?v2) rfl ?h2 ?k2
  case h2 => conv => lhs; whnf
  refine D_callP rfl (by kernel_rfl) (replaceAll_w s 0 [0, 255] _ (hg.ext hx) (by decide) hs (by decide)) rfl RX.all (fun w1 x1 => ?_)
  replace hx := hx.trans x1
  refine D_as (v := ?v3) rfl ?h3 ?k3
  case h3 => conv => lhs; whnf
  refine D_end (hK2 _ _ ?_)
  refine W_ret ?_
  try dsimp only [then', inBlk, noGo]
  refine ret_one (v := ?v4) rfl rfl ?h4 ?k4
  case h4 => conv => lhs; whnf
  exact ⟨rfl, hx⟩

set_option maxRecDepth 100000 in
set_option maxHeartbeats 1000000 in
theorem rescape_w (s : Str) (w : World) (hs : s.length ≤ 1000000) :
    Calls Tryd.prog 26 [S s].toArray w (Pure w (S (escS s))) := by
  refine calls_W Tryd.func26 rfl rfl rfl (by kernel_rfl) ?_
  have hx := Ext.refl w
  refine W_seq fun K1 hK1 => ?_
  refine W_reg [.p] rfl ?_
  refine D_as (v := ?v1) rfl ?h1 ?k1
  case h1 => conv => lhs; whnf
  refine D_end (hK1 _ _ ?_)
  refine W_seq fun K2 hK2 => ?_
  refine W_reg [.p] rfl ?_
  refine D_as (v := ?v2) rfl ?h2 ?k2
  case h2 => conv => lhs; whnf
  refine D_end (hK2 _ _ ?_)
  refine W_seq fun K3 hK3 => ?_
  refine W_seq fun K4 hK4 => ?_
  refine W_reg [.p] rfl ?_
  refine D_as (v := ?v3) rfl ?h3 ?k3
  case h3 => conv => lhs; whnf
  refine D_end (hK4 _ _ ?_)
  refine W_block ?_
  refine W_loop (G := Nat × Value) (fun (k, vm) => [(0, S s), (2, S []), (3, vm), (4, I ↑k)]) (fun (k, vm) w' => Ext w w' ∧ k ≤ s.length ∧ Own encB 1 5 w.heap.size w' vm (escS (s.take k))) (fun (k, vm) => s.length - k) (0, .slice none 0 0) ?_ ?_ ?_
  · exact ⟨rfl, rfl, rfl, rfl, trivial⟩
  · exact ⟨hx, Nat.zero_le _, Own.nil⟩
  · intro X1 g1 w1 hF1
    obtain ⟨k, vm⟩ := g1
    clear hx 
    obtain ⟨hx, hk1, ho⟩ := hF1
    have hel := esc_len (s.take k)
    have htl : (s.take k).length ≤ k := List.length_take_le ..
    refine W_seq fun K5 hK5 => ?_
    refine W_seq fun K6 hK6 => ?_
    refine W_reg [.p, .p, .p, .p] rfl ?_
    refine D_mv (v := ?v4) rfl ?h4 ?k4
    case h4 => conv => lhs; whnf
    refine D_mv (v := ?v5) rfl ?h5 ?k5
    case h5 => conv => lhs; whnf
    refine D_p rfl (pv_lenS (by kernel_rfl) rfl) ?_
    refine D_p rfl (pv_lss rfl rfl) ?_
    refine D_end (hK6 _ _ ?_)
    refine W_if rfl (fun c1 => ?_) (fun c1 => ?_)
    ·
      obtain ⟨c, hk⟩ : ∃ c, s[k]? = some c := ⟨_, List.getElem?_eq_getElem (by omega)⟩
      refine W_skip ?_
      refine hK5 _ _ ?_
      refine W_seq fun K7 hK7 => ?_
      refine W_block ?_
      refine W_seq fun K8 hK8 => ?_
      refine W_reg [.p, .p, .p, .p, .x, .x, .p] rfl ?_
      refine D_mv (v := ?v6) rfl ?h6 ?k6
      case h6 => conv => lhs; whnf
      refine D_mv (v := ?v7) rfl ?h7 ?k7
      case h7 => conv => lhs; whnf
      refine D_mv (v := ?v8) rfl ?h8 ?k8
      case h8 => conv => lhs; whnf
      refine D_p rfl (pv_idxS (by kernel_rfl) rfl rfl hk) ?_
      refine D_lit (e := 5) (sz := 1) (zs := [.int .u8 0]) (pv := [(0, ?a9_0)]) (cs := [?a9_0]) rfl (by kernel_rfl) ⟨rfl, rfl⟩ (by kernel_rfl) rfl ?h9 ?f9 RX.all (fun b1 w2 e1 x2 m1 => ?k9)
      case h9 => refine ⟨rfl, ?_, trivial⟩ <;> (conv => lhs; whnf)
      case f9 => rfl
      have g1 : w.heap.size ≤ b1 := by have := hx.size; omega
      have o1_ho : ∀ k, Value.ownBlock _ = some k → k < b1 := fun k hk => by have := (ho.lt k hk).2; omega
      replace ho := ho.ext x2
      replace hx := hx.trans x2
      refine D_append (lx := [c]) (e := 5) (sz := 1) (by' := 1) rfl (by kernel_rfl) (by kernel_rfl) (by intro x; rfl) ho (m1.arr (enc := encB) (sz := 1) (l := [c]) rfl (by intro x; rfl) rfl (Nat.le_of_ble_eq_true rfl)) rfl rfl (by intro x _ u hu; simp at hu; rcases hu with rfl <;> rfl) (by simp; omega) (by decide) hx.size (.inl rfl) (fun vm2 w3 ho_n x3 => ?_)
      replace hx := hx.own x3 (fun i hi => (ho.lt i hi).1)
      replace ho := ho_n
      clear m1
      refine D_as (v := ?v10) rfl ?h10 ?k10
      case h10 => conv => lhs; whnf
      refine D_end (hK8 _ _ ?_)
      refine W_seq fun K9 hK9 => ?_
      refine W_reg [.p, .p, .p, .p] rfl ?_
      refine D_mv (v := ?v11) rfl ?h11 ?k11
      case h11 => conv => lhs; whnf
      refine D_mv (v := ?v12) rfl ?h12 ?k12
      case h12 => conv => lhs; whnf
      refine D_p rfl (pv_idxS (by kernel_rfl) rfl rfl hk) ?_
      refine D_p rfl (pv_eql rfl rfl) ?_
      refine D_end (hK9 _ _ ?_)
      refine W_if rfl (fun c2 => ?_) (fun c2 => ?_)
      ·
        refine W_reg [.p, .x, .x, .p] rfl ?_
        refine D_mv (v := ?v13) rfl ?h13 ?k13
        case h13 => conv => lhs; whnf
        refine D_lit (e := 5) (sz := 1) (zs := [.int .u8 0]) (pv := [(0, ?a14_0)]) (cs := [?a14_0]) rfl (by kernel_rfl) ⟨rfl, rfl⟩ (by kernel_rfl) rfl ?h14 ?f14 RX.all (fun b2 w4 e2 x4 m2 => ?k14)
        case h14 => refine ⟨rfl, ?_, trivial⟩ <;> (conv => lhs; whnf)
        case f14 => rfl
        have g2 : w.heap.size ≤ b2 := by have := hx.size; omega
        have o2_ho : ∀ k, Value.ownBlock _ = some k → k < b2 := fun k hk => by have := (ho.lt k hk).2; omega
        replace ho := ho.ext x4
        replace hx := hx.trans x4
        refine D_append (lx := [255]) (e := 5) (sz := 1) (by' := 1) rfl (by kernel_rfl) (by kernel_rfl) (by intro x; rfl) ho (m2.arr (enc := encB) (sz := 1) (l := [255]) rfl (by intro x; rfl) rfl (Nat.le_of_ble_eq_true rfl)) rfl rfl (by intro x _ u hu; simp at hu; rcases hu with rfl <;> rfl) (by simp; omega) (by decide) hx.size (.inl rfl) (fun vm3 w5 ho_n x5 => ?_)
        replace hx := hx.own x5 (fun i hi => (ho.lt i hi).1)
        replace ho := ho_n
        clear m2
        refine D_as (v := ?v15) rfl ?h15 ?k15
        case h15 => conv => lhs; whnf
        refine D_end (hK7 _ _ ?_)
        refine W_reg [.p, .p, .p] rfl ?_
        refine D_mv (v := ?v16) rfl ?h16 ?k16
        case h16 => conv => lhs; whnf
        refine D_p rfl (pv_add rfl rfl (by unfold inI64; omega)) ?_
        refine D_as (v := ?v17) rfl ?h17 ?k17
        case h17 => conv => lhs; whnf
        refine D_end (?_)
        refine ⟨(k + 1, vm3), ⟨rfl, rfl, rfl, rfl, trivial⟩, ⟨hx, by omega, ?_⟩, by simp only []; omega⟩
        rw [esc_take hk, if_pos (u8_zero c2)]; simpa [u8_zero c2] using ho
      ·
        refine W_skip ?_
        refine hK7 _ _ ?_
        refine W_reg [.p, .p, .p] rfl ?_
        refine D_mv (v := ?v18) rfl ?h18 ?k18
        case h18 => conv => lhs; whnf
        refine D_p rfl (pv_add rfl rfl (by unfold inI64; omega)) ?_
        refine D_as (v := ?v19) rfl ?h19 ?k19
        case h19 => conv => lhs; whnf
        refine D_end (?_)
        refine ⟨(k + 1, vm2), ⟨rfl, rfl, rfl, rfl, trivial⟩, ⟨hx, by omega, ?_⟩, by simp only []; omega⟩
        rw [esc_take hk, if_neg (fun e => c2 (by rw [e]; rfl))]; exact ho
    ·
      refine W_exit ?_
      refine hK3 _ _ ?_
      refine W_seq fun K10 hK10 => ?_
      refine W_reg [.p, .l, .p] rfl ?_
      refine D_mv (v := ?v20) rfl ?h20 ?k20
      case h20 => conv => lhs; whnf
      refine D_lq rfl (lv_b2s (by kernel_rfl) (by kernel_rfl) (ho.arr (by intro x; rfl)) rfl) ?_
      refine D_as (v := ?v21) rfl ?h21 ?k21
      case h21 => conv => lhs; whnf
      refine D_end (hK10 _ _ ?_)
      refine W_ret ?_
      try dsimp only [then', inBlk, noGo]
      refine ret_one (v := ?v22) rfl rfl ?h22 ?k22
      case h22 => conv => lhs; whnf
      rw [List.take_of_length_le (by omega)]
      exact ⟨rfl, hx⟩

set_option maxRecDepth 100000 in
set_option maxHeartbeats 1000000 in
theorem equal_w (t s : Str) (w : World) (ht : t.length ≤ 1000000) (hs : s.length ≤ 1000000) (hg : GV w) :
    Calls Tryd.prog 9 [S t, S s].toArray w (Pure w (S (begS 101 t s))) := by
  refine calls_W Tryd.func9 rfl rfl rfl (by kernel_rfl) ?_
  have hx := Ext.refl w
  have hel := esc_len s
  refine W_seq fun K1 hK1 => ?_
  refine W_reg [.p] rfl ?_
  refine D_as (v := ?v1) rfl ?h1 ?k1
  case h1 => conv => lhs; whnf
  refine D_end (hK1 _ _ ?_)
  refine W_seq fun K2 hK2 => ?_
  refine W_reg [.p, .p, .p, .p, .x, .p, .p, .p] rfl ?_
  refine D_mv (v := ?v2) rfl ?h2 ?k2
  case h2 => conv => lhs; whnf
  refine D_p rfl (pv_scat rfl rfl (by simp; omega)) ?_
  refine D_p rfl (pv_scat rfl rfl (by simp; omega)) ?_
  refine D_mv (v := ?v3) rfl ?h3 ?k3
  case h3 => conv => lhs; whnf
  refine D_callP rfl (by kernel_rfl) (escape_w s _ hs (hg.ext hx)) rfl RX.all (fun w1 x1 => ?_)
  replace hx := hx.trans x1
  refine D_p rfl (pv_scat rfl rfl (by simp; omega)) ?_
  refine D_p rfl (pv_scat rfl rfl (by simp; omega)) ?_
  refine D_as (v := ?v4) rfl ?h4 ?k4
  case h4 => conv => lhs; whnf
  refine D_end (hK2 _ _ ?_)
  refine W_ret ?_
  try dsimp only [then', inBlk, noGo]
  refine ret_one (v := ?v5) rfl rfl ?h5 ?k5
  case h5 => conv => lhs; whnf
  refine ⟨?_, hx⟩
  simp [begS]

set_option maxRecDepth 100000 in
set_option maxHeartbeats 1000000 in
theorem gram_w (t s : Str) (w : World) (ht : t.length ≤ 1000000) (hs : s.length ≤ 1000000) (hg : GV w) :
    Calls Tryd.prog 11 [S t, S s].toArray w (Pure w (S (begS 103 t s))) := by
  refine calls_W Tryd.func11 rfl rfl rfl (by kernel_rfl) ?_
  have hx := Ext.refl w
  have hel := esc_len s
  refine W_seq fun K1 hK1 => ?_
  refine W_reg [.p] rfl ?_
  refine D_as (v := ?v1) rfl ?h1 ?k1
  case h1 => conv => lhs; whnf
  refine D_end (hK1 _ _ ?_)
  refine W_seq fun K2 hK2 => ?_
  refine W_reg [.p, .p, .p, .p, .x, .p, .p, .p] rfl ?_
  refine D_mv (v := ?v2) rfl ?h2 ?k2
  case h2 => conv => lhs; whnf
  refine D_p rfl (pv_scat rfl rfl (by simp; omega)) ?_
  refine D_p rfl (pv_scat rfl rfl (by simp; omega)) ?_
  refine D_mv (v := ?v3) rfl ?h3 ?k3
  case h3 => conv => lhs; whnf
  refine D_callP rfl (by kernel_rfl) (escape_w s _ hs (hg.ext hx)) rfl RX.all (fun w1 x1 => ?_)
  replace hx := hx.trans x1
  refine D_p rfl (pv_scat rfl rfl (by simp; omega)) ?_
  refine D_p rfl (pv_scat rfl rfl (by simp; omega)) ?_
  refine D_as (v := ?v4) rfl ?h4 ?k4
  case h4 => conv => lhs; whnf
  refine D_end (hK2 _ _ ?_)
  refine W_ret ?_
  try dsimp only [then', inBlk, noGo]
  refine ret_one (v := ?v5) rfl rfl ?h5 ?k5
  case h5 => conv => lhs; whnf
  refine ⟨?_, hx⟩
  simp [begS]

set_option maxRecDepth 100000 in
set_option maxHeartbeats 1000000 in
theorem requal_w (t s : Str) (w : World) (ht : t.length ≤ 1000000) (hs : s.length ≤ 1000000) :
    Calls Tryd.prog 10 [S t, S s].toArray w (Pure w (S (begS 101 t s))) := by
  refine calls_W Tryd.func10 rfl rfl rfl (by kernel_rfl) ?_
  have hx := Ext.refl w
  have hel := esc_len s
  refine W_seq fun K1 hK1 => ?_
  refine W_reg [.p] rfl ?_
  refine D_as (v := ?v1) rfl ?h1 ?k1
  case h1 => conv => lhs; whnf
  refine D_end (hK1 _ _ ?_)
  refine W_seq fun K2 hK2 => ?_
  refine W_reg [.p, .p, .p, .p, .x, .p, .p, .p] rfl ?_
  refine D_mv (v := ?v2) rfl ?h2 ?k2
  case h2 => conv => lhs; whnf
  refine D_p rfl (pv_scat rfl rfl (by simp; omega)) ?_
  refine D_p rfl (pv_scat rfl rfl (by simp; omega)) ?_
  refine D_mv (v := ?v3) rfl ?h3 ?k3
  case h3 => conv => lhs; whnf
  refine D_callP rfl (by kernel_rfl) (rescape_w s _ hs) rfl RX.all (fun w1 x1 => ?_)
  replace hx := hx.trans x1
  refine D_p rfl (pv_scat rfl rfl (by simp; omega)) ?_
  refine D_p rfl (pv_scat rfl rfl (by simp; omega)) ?_
  refine D_as (v := ?v4) rfl ?h4 ?k4
  case h4 => conv => lhs; whnf
  refine D_end (hK2 _ _ ?_)
  refine W_ret ?_
  try dsimp only [then', inBlk, noGo]
  refine ret_one (v := ?v5) rfl rfl ?h5 ?k5
  case h5 => conv => lhs; whnf
  refine ⟨?_, hx⟩
  simp [begS]

set_option maxRecDepth 100000 in
set_option maxHeartbeats 1000000 in
theorem rgram_w (t s : Str) (w : World) (ht : t.length ≤ 1000000) (hs : s.length ≤ 1000000) :
    Calls Tryd.prog 12 [S t, S s].toArray w (Pure w (S (begS 103 t s))) := by
  refine calls_W Tryd.func12 rfl rfl rfl (by kernel_rfl) ?_
  have hx := Ext.refl w
  have hel := esc_len s
  refine W_seq fun K1 hK1 => ?_
  refine W_reg [.p] rfl ?_
  refine D_as (v := ?v1) rfl ?h1 ?k1
  case h1 => conv => lhs; whnf
  refine D_end (hK1 _ _ ?_)
  refine W_seq fun K2 hK2 => ?_
  refine W_reg [.p, .p, .p, .p, .x, .p, .p, .p] rfl ?_
  refine D_mv (v := ?v2) rfl ?h2 ?k2
  case h2 => conv => lhs; whnf
  refine D_p rfl (pv_scat rfl rfl (by simp; omega)) ?_
  refine D_p rfl (pv_scat rfl rfl (by simp; omega)) ?_
  refine D_mv (v := ?v3) rfl ?h3 ?k3
  case h3 => conv => lhs; whnf
  refine D_callP rfl (by kernel_rfl) (rescape_w s _ hs) rfl RX.all (fun w1 x1 => ?_)
  replace hx := hx.trans x1
  refine D_p rfl (pv_scat rfl rfl (by simp; omega)) ?_
  refine D_p rfl (pv_scat rfl rfl (by simp; omega)) ?_
  refine D_as (v := ?v4) rfl ?h4 ?k4
  case h4 => conv => lhs; whnf
  refine D_end (hK2 _ _ ?_)
  refine W_ret ?_
  try dsimp only [then', inBlk, noGo]
  refine ret_one (v := ?v5) rfl rfl ?h5 ?k5
  case h5 => conv => lhs; whnf
  refine ⟨?_, hx⟩
  simp [begS]

set_option maxRecDepth 100000 in
set_option maxHeartbeats 1000000 in
theorem rgrams_w (s : Str) (w : World) (hs : s.length ≤ 1000000) :
    Calls Tryd.prog 15 [S s].toArray w (Gives w (fun v' w' => Arr sEnc 1 w' v' (grams s))) := by
  refine calls_W Tryd.func15 rfl rfl rfl (by kernel_rfl) ?_
  have hx := Ext.refl w
  refine W_seq fun K1 hK1 => ?_
  refine W_reg [.p] rfl ?_
  refine D_as (v := ?v1) rfl ?h1 ?k1
  case h1 => conv => lhs; whnf
  refine D_end (hK1 _ _ ?_)
  refine W_seq fun K2 hK2 => ?_
  refine W_reg [.p] rfl ?_
  refine D_as (v := ?v2) rfl ?h2 ?k2
  case h2 => conv => lhs; whnf
  refine D_end (hK2 _ _ ?_)
  refine W_seq fun K3 hK3 => ?_
  refine W_seq fun K4 hK4 => ?_
  refine W_reg [.p] rfl ?_
  refine D_as (v := ?v3) rfl ?h3 ?k3
  case h3 => conv => lhs; whnf
  refine D_end (hK4 _ _ ?_)
  refine W_block ?_
  refine W_loop (G := Nat × Value) (fun (k, vn) => [(0, S s), (2, .slice none 0 0), (3, vn), (4, I ↑k)]) (fun (k, vn) w' => Ext w w' ∧ Arr sEnc 1 w' vn (((wins s).take k).foldl layS []) ∧ k ≤ (wins s).length) (fun (k, vn) => s.length - k) (0, .slice none 0 0) ?_ ?_ ?_
  · exact ⟨rfl, rfl, rfl, rfl, trivial⟩
  · exact ⟨hx, Arr.nil, Nat.zero_le _⟩
  · intro X1 g1 w1 hF1
    obtain ⟨k, vn⟩ := g1
    clear hx 
    obtain ⟨hx, hn, hk⟩ := hF1
    have hwl := wins_length s
    have hfl := lay_len ((wins s).take k) []
    have htl : ((wins s).take k).length ≤ k := List.length_take_le ..
    simp only [List.length_nil] at hfl
    refine W_seq fun K5 hK5 => ?_
    refine W_seq fun K6 hK6 => ?_
    refine W_reg [.p, .p, .p, .p, .p] rfl ?_
    refine D_mv (v := ?v4) rfl ?h4 ?k4
    case h4 => conv => lhs; whnf
    refine D_p rfl (pv_add rfl rfl (by unfold inI64; omega)) ?_
    refine D_mv (v := ?v5) rfl ?h5 ?k5
    case h5 => conv => lhs; whnf
    refine D_p rfl (pv_lenS (by kernel_rfl) rfl) ?_
    refine D_p rfl (pv_leq rfl rfl) ?_
    refine D_end (hK6 _ _ ?_)
    refine W_if rfl (fun c1 => ?_) (fun c1 => ?_)
    ·
      refine W_skip ?_
      refine hK5 _ _ ?_
      refine W_seq fun K7 hK7 => ?_
      refine W_block ?_
      refine W_reg [.p, .p, .p, .p, .p, .p, .x, .p] rfl ?_
      refine D_mv (v := ?v6) rfl ?h6 ?k6
      case h6 => conv => lhs; whnf
      refine D_mv (v := ?v7) rfl ?h7 ?k7
      case h7 => conv => lhs; whnf
      refine D_mv (v := ?v8) rfl ?h8 ?k8
      case h8 => conv => lhs; whnf
      refine D_mv (v := ?v9) rfl ?h9 ?k9
      case h9 => conv => lhs; whnf
      refine D_p rfl (pv_add rfl rfl (by unfold inI64; omega)) ?_
      refine D_pe (v := S ((s.drop k).take 3)) rfl (pv_slS (b := k + 3) (by kernel_rfl) rfl rfl rfl (by omega) (by omega)) (by rw [slice_win]) ?_
      refine D_callG rfl (by kernel_rfl) (lay_w _ vn ((s.drop k).take 3) _ hn (by omega)) rfl RX.all (fun vq w2 x2 hq => ?_)
      have hsz2 := hx.size
      replace hn := hn.ext x2
      replace hx := hx.trans x2
      refine D_as (v := ?v10) rfl ?h10 ?k10
      case h10 => conv => lhs; whnf
      refine D_end (hK7 _ _ ?_)
      refine W_reg [.p, .p, .p] rfl ?_
      refine D_mv (v := ?v11) rfl ?h11 ?k11
      case h11 => conv => lhs; whnf
      refine D_p rfl (pv_add rfl rfl (by unfold inI64; omega)) ?_
      refine D_as (v := ?v12) rfl ?h12 ?k12
      case h12 => conv => lhs; whnf
      refine D_end (?_)
      refine ⟨(k + 1, vq), ⟨rfl, rfl, rfl, rfl, trivial⟩, ⟨hx, ?_, by omega⟩, by simp only []; omega⟩
      rw [wins_take (by omega), List.foldl_append]; exact hq
    ·
      refine W_exit ?_
      refine hK3 _ _ ?_
      refine W_seq fun K8 hK8 => ?_
      refine W_reg [.p, .p] rfl ?_
      refine D_mv (v := ?v13) rfl ?h13 ?k13
      case h13 => conv => lhs; whnf
      refine D_as (v := ?v14) rfl ?h14 ?k14
      case h14 => conv => lhs; whnf
      refine D_end (hK8 _ _ ?_)
      refine W_ret ?_
      try dsimp only [then', inBlk, noGo]
      refine ret_one (v := ?v15) rfl rfl ?h15 ?k15
      case h15 => conv => lhs; whnf
      exact ⟨_, rfl, hx, by rw [wins_all (by omega)] at hn; exact hn⟩

set_option maxRecDepth 100000 in
set_option maxHeartbeats 1000000 in
theorem law_begins (t s : Str) (w : World) (ht : t.length ≤ 140737488355328) (hs : s.length ≤ 140737488355328) (hg : GV w) :
    Calls Tryd.prog 3 [S t, S s].toArray w (Pure w (B true)) := by
  refine calls_W Tryd.func3 rfl rfl rfl (by kernel_rfl) ?_
  have hx := Ext.refl w
  have hgl : (grams s).length ≤ s.length - 2 := by have := lay_len (wins s) []; rw [wins_length] at this; unfold grams; simpa using this
  refine W_seq fun K1 hK1 => ?_
  refine W_reg [.p] rfl ?_
  refine D_as (v := ?v1) rfl ?h1 ?k1
  case h1 => conv => lhs; whnf
  refine D_end (hK1 _ _ ?_)
  refine W_seq fun K2 hK2 => ?_
  refine W_seq fun K3 hK3 => ?_
  refine W_reg [.p, .p, .p, .p, .p, .p] rfl ?_
  refine D_mv (v := ?v2) rfl ?h2 ?k2
  case h2 => conv => lhs; whnf
  refine D_p rfl (pv_lenS (by kernel_rfl) rfl) ?_
  refine D_mv (v := ?v3) rfl ?h3 ?k3
  case h3 => conv => lhs; whnf
  refine D_p rfl (pv_lenS (by kernel_rfl) rfl) ?_
  refine D_p rfl (pv_add rfl rfl (by unfold inI64; omega)) ?_
  refine D_p rfl (pv_gtr rfl rfl) ?_
  refine D_end (hK3 _ _ ?_)
  refine W_if rfl (fun c1 => ?_) (fun c1 => ?_)
  ·
    refine W_seq fun K4 hK4 => ?_
    refine W_reg [.p] rfl ?_
    refine D_as (v := ?v4) rfl ?h4 ?k4
    case h4 => conv => lhs; whnf
    refine D_end (hK4 _ _ ?_)
    refine W_ret ?_
    try dsimp only [then', inBlk, noGo]
    refine ret_one (v := ?v5) rfl rfl ?h5 ?k5
    case h5 => conv => lhs; whnf
    exact ⟨rfl, hx⟩
  ·
    refine W_skip ?_
    refine hK2 _ _ ?_
    refine W_seq fun K5 hK5 => ?_
    refine W_reg [.p, .x, .p, .x, .p, .p, .p, .p, .x, .p, .p, .x, .p, .p, .p, .p, .p, .x, .p, .p, .x, .p, .p, .p, .p, .x, .p, .x, .x, .p, .p, .x, .p, .p] rfl ?_
    refine D_mv (v := ?v6) rfl ?h6 ?k6
    case h6 => conv => lhs; whnf
    refine D_callP rfl (by kernel_rfl) (present_w t _ (by omega)) rfl RX.all (fun w1 x1 => ?_)
    replace hx := hx.trans x1
    refine D_mv (v := ?v7) rfl ?h7 ?k7
    case h7 => conv => lhs; whnf
    refine D_callP rfl (by kernel_rfl) (rpresent_w t _ (by omega)) rfl RX.all (fun w2 x2 => ?_)
    replace hx := hx.trans x2
    refine D_p rfl (pv_seq rfl rfl) ?_
    refine D_mv (v := ?v8) rfl ?h8 ?k8
    case h8 => conv => lhs; whnf
    refine D_splitP 16 rfl (fun c2 => ?_) (fun c2 => ?_)
    ·
      refine D_mv (v := ?v9) rfl ?h9 ?k9
      case h9 => conv => lhs; whnf
      refine D_mv (v := ?v10) rfl ?h10 ?k10
      case h10 => conv => lhs; whnf
      refine D_callP rfl (by kernel_rfl) (equal_w t s _ (by omega) (by omega) (hg.ext hx)) rfl RX.all (fun w3 x3 => ?_)
      replace hx := hx.trans x3
      refine D_mv (v := ?v11) rfl ?h11 ?k11
      case h11 => conv => lhs; whnf
      refine D_mv (v := ?v12) rfl ?h12 ?k12
      case h12 => conv => lhs; whnf
      refine D_callP rfl (by kernel_rfl) (requal_w t s _ (by omega) (by omega)) rfl RX.all (fun w4 x4 => ?_)
      replace hx := hx.trans x4
      refine D_p rfl (pv_seq rfl rfl) ?_
      refine D_pe (v := ?v13) rfl (pv_pick rfl rfl rfl) ?h13 ?k13
      case h13 => conv => lhs; whnf
      refine D_mv (v := ?v14) rfl ?h14 ?k14
      case h14 => conv => lhs; whnf
      refine D_splitP 25 rfl (fun c3 => ?_) (fun c3 => ?_)
      ·
        refine D_mv (v := ?v15) rfl ?h15 ?k15
        case h15 => conv => lhs; whnf
        refine D_mv (v := ?v16) rfl ?h16 ?k16
        case h16 => conv => lhs; whnf
        refine D_callP rfl (by kernel_rfl) (gram_w t s _ (by omega) (by omega) (hg.ext hx)) rfl RX.all (fun w5 x5 => ?_)
        replace hx := hx.trans x5
        refine D_mv (v := ?v17) rfl ?h17 ?k17
        case h17 => conv => lhs; whnf
        refine D_mv (v := ?v18) rfl ?h18 ?k18
        case h18 => conv => lhs; whnf
        refine D_callP rfl (by kernel_rfl) (rgram_w t s _ (by omega) (by omega)) rfl RX.all (fun w6 x6 => ?_)
        replace hx := hx.trans x6
        refine D_p rfl (pv_seq rfl rfl) ?_
        refine D_pe (v := ?v19) rfl (pv_pick rfl rfl rfl) ?h19 ?k19
        case h19 => conv => lhs; whnf
        refine D_mv (v := ?v20) rfl ?h20 ?k20
        case h20 => conv => lhs; whnf
        refine D_splitP 34 rfl (fun c4 => ?_) (fun c4 => ?_)
        ·
          refine D_mv (v := ?v21) rfl ?h21 ?k21
          case h21 => conv => lhs; whnf
          refine D_callG rfl (by kernel_rfl) (grams_w s _ (by omega)) rfl RX.all (fun va w7 x7 hgr => ?_)
          have hsz7 := hx.size
          replace hx := hx.trans x7
          replace hgr := hgr.arr (by intro x; rfl)
          refine D_mv (v := ?v22) rfl ?h22 ?k22
          case h22 => conv => lhs; whnf
          refine D_callG rfl (by kernel_rfl) (rgrams_w s _ (by omega)) rfl RX.all (fun vb w8 x8 hgs => ?_)
          have hsz8 := hx.size
          replace hgr := hgr.ext x8
          replace hx := hx.trans x8
          refine D_callP rfl (by kernel_rfl) (texts_w (grams s) (grams s) va vb _ hgr hgs (by omega) (by omega)) rfl RX.all (fun w9 x9 => ?_)
          replace hgr := hgr.ext x9
          replace hgs := hgs.ext x9
          replace hx := hx.trans x9
          refine D_pe (v := ?v23) rfl (pv_pick rfl rfl rfl) ?h23 ?k23
          case h23 => conv => lhs; whnf
          refine D_mv (v := ?v24) rfl ?h24 ?k24
          case h24 => conv => lhs; whnf
          refine D_split 41 rfl (fun c5 => ?_) (fun c5 => ?_)
          ·
            refine D_callP rfl (by kernel_rfl) (known_w _) rfl RX.all (fun w10 x10 => ?_)
            replace hgr := hgr.ext x10
            replace hgs := hgs.ext x10
            replace hx := hx.trans x10
            refine D_pe (v := ?v25) rfl (pv_pick rfl rfl rfl) ?h25 ?k25
            case h25 => conv => lhs; whnf
            refine D_as (v := ?v26) rfl ?h26 ?k26
            case h26 => conv => lhs; whnf
            refine D_end (hK5 _ _ ?_)
            refine W_ret ?_
            try dsimp only [then', inBlk, noGo]
            refine ret_one (v := ?v27) rfl rfl ?h27 ?k27
            case h27 => conv => lhs; whnf
            exact ⟨rfl, hx⟩
          ·
            simp at c5
        ·
          exact absurd rfl c4
      ·
        exact absurd rfl c3
    ·
      exact absurd rfl c2

end Go.Proofs.YtcjjjmhhpejdoaaDoor
