/-
  Walks.
-/
import Derived.Test.YtcjjjmhhpejdoaaGreatDoorChecked
import Derived.Test.YtcjjjmhhpejdoaaGreatDoorSpMem
import Derived.KernelRfl
import Derived.Test.YtcjjjmhhpejdoaaGreatDoorIdxA
import Derived.Test.YtcjjjmhhpejdoaaGreatDoorVcM
import Derived.Test.YtcjjjmhhpejdoaaGreatDoorSpIdx
import Derived.Test.YtcjjjmhhpejdoaaGreatDoorShelf
namespace Go.Proofs.YtcjjjmhhpejdoaaGreatDoor
open Go.Vc Go.Sp
attribute [local irreducible] W XW Dw DwT
set_option linter.unusedVariables false
set_option linter.unusedSimpArgs false

open Classical in
noncomputable def inF (ws : List Str) : Str → Option Bool := fun x => if x ∈ ws then some true else none
theorem inF_put (ws : List Str) (x : Str) : putF (inF ws) x true = inF (ws ++ [x]) := by
  funext y
  unfold putF inF
  by_cases h : y = x
  · simp [h]
  · simp [h]
theorem inF_some {ws : List Str} {x : Str} : (inF ws x).isSome = true ↔ x ∈ ws := by
  unfold inF; split <;> simp [*]
theorem inF_nil : (fun _ => none : Str → Option Bool) = inF [] := by funext x; simp [inF]
theorem B_inj (a b : Bool) (h : B a = B b) : a = b := by simpa using h
theorem gramK : MapK Tryz.prog 89 90 4 A8 B (fun s => s.length = 3) := mapA8 (b := 5) (by kernel_rfl) (by kernel_rfl) (by kernel_rfl) (by kernel_rfl) (by kernel_rfl) (by kernel_rfl) (by kernel_rfl) (by kernel_rfl) (by kernel_rfl) B_inj
theorem slice_win (s : Str) (k : Nat) : (s.take (k + 3)).drop k = (s.drop k).take 3 := by rw [List.drop_take]; congr 1; omega
theorem sort_w {B : Nat} {w : World} {v : Value} {l : List Str} (ho : Own sEnc 1 9 B w v l) (hl : l.length < 4611686018427387904) :
    Calls Tryz.prog 79 [v].toArray w (Does (fun k => v.ownBlock = some k) w fun u w' => u = .tuple #[] ∧ Own sEnc 1 9 B w' v (sortS l)) := sortS_w Tryz.lays190 ho hl
theorem grams_abc : grams [97, 98, 99, 97, 98] = [[97, 98, 99], [98, 99, 97], [99, 97, 98]] := by decide

set_option maxRecDepth 100000 in
set_option maxHeartbeats 1000000 in
theorem grams_w (s : Str) (w : World) (hs : s.length ≤ 1000000) :
    Calls Tryz.prog 32 [S s].toArray w (Gives w (fun v' w' => Own sEnc 1 9 w.heap.size w' v' (grams s))) := by
  refine calls_W Tryz.func32 rfl rfl rfl (by kernel_rfl) ?_
  have hx := Ext.refl w
  refine W_seq fun K1 hK1 => ?_
  refine W_reg [.p] rfl ?_
  refine D_as (v := ?v1) rfl ?h1 ?k1
  case h1 => conv => lhs; whnf
  refine D_end (hK1 _ _ ?_)
  refine W_seq fun K2 hK2 => ?_
  refine W_reg [.x, .p] rfl ?_
  refine D_makeMap gramK rfl RX.all (fun b1 w1 e1 x1 mp1 => ?_)
  have g1 : w.heap.size ≤ b1 := by have := hx.size; omega
  replace hx := hx.trans x1
  refine D_as (v := ?v2) rfl ?h2 ?k2
  case h2 => conv => lhs; whnf
  refine D_end (hK2 _ _ ?_)
  refine W_seq fun K3 hK3 => ?_
  refine W_seq fun K4 hK4 => ?_
  refine W_reg [.p] rfl ?_
  refine D_as (v := ?v3) rfl ?h3 ?k3
  case h3 => conv => lhs; whnf
  refine D_end (hK4 _ _ ?_)
  refine W_block ?_
  refine W_loop (G := Nat) (fun k => [(0, S s), (2, .slice none 0 0), (3, .map (some b1)), (4, I ↑k)]) (fun k w' => Ext w w' ∧ Vc.MapAt Tryz.prog 90 A8 B w' b1 k (inF ((wins s).take k)) ∧ k ≤ (wins s).length) (fun k => s.length - k) 0 ?_ ?_ ?_
  · exact ⟨rfl, rfl, rfl, rfl, trivial⟩
  · exact ⟨hx, by rw [List.take_zero, ← inF_nil]; exact mp1, Nat.zero_le _⟩
  · intro X2 g2 w2 hF2
    revert hF2; revert g2; intro k hF2
    clear hx mp1
    obtain ⟨hx, mp1, hk⟩ := hF2
    have hwl := wins_length s
    refine W_seq fun K5 hK5 => ?_
    refine W_seq fun K6 hK6 => ?_
    refine W_reg [.p, .p, .p, .p, .p] rfl ?_
    refine D_mv (v := ?v4) rfl ?h4 ?k4
    case h4 => conv => lhs; whnf
    refine D_p rfl (pv_add rfl rfl (by unfold inI64; omega)) ?_
    refine D_mv (v := ?v5) rfl ?h5 ?k5
    case h5 => conv => lhs; whnf
    refine D_p rfl (pv_lenS (by kernel_rfl) rfl) ?_
    refine D_p rfl (pv_leq rfl rfl) ?_
    refine D_end (hK6 _ _ ?_)
    refine W_if rfl (fun c1 => ?_) (fun c1 => ?_)
    ·
      refine W_skip ?_
      refine hK5 _ _ ?_
      refine W_seq fun K7 hK7 => ?_
      refine W_block ?_
      refine W_reg [.p, .p, .p, .p, .p, .p, .x, .p, .l, .x] rfl ?_
      refine D_mv (v := ?v6) rfl ?h6 ?k6
      case h6 => conv => lhs; whnf
      refine D_mv (v := ?v7) rfl ?h7 ?k7
      case h7 => conv => lhs; whnf
      refine D_mv (v := ?v8) rfl ?h8 ?k8
      case h8 => conv => lhs; whnf
      refine D_mv (v := ?v9) rfl ?h9 ?k9
      case h9 => conv => lhs; whnf
      refine D_p rfl (pv_add rfl rfl (by unfold inI64; omega)) ?_
      refine D_pe (v := S ((s.drop k).take 3)) rfl (pv_slS (b := k + 3) (by kernel_rfl) rfl rfl rfl (by omega) (by omega)) (by rw [slice_win]) ?_
      refine D_s2b (e := 5) rfl (by kernel_rfl) (by kernel_rfl) (by kernel_rfl) rfl RX.all (fun b2 cap2 w3 e2 x3 by2 => ?_)
      have g2 : w.heap.size ≤ b2 := by have := hx.size; omega
      have n2_mp1 := mp1.lt
      replace mp1 := mp1.ext x3
      replace hx := hx.trans x3
      refine D_p rfl (pv_s2a (m := 3) (by kernel_rfl) rfl (by simp; omega)) ?_
      refine D_lq rfl (lv_loadA (k := 3) (by kernel_rfl) rfl (by simp; omega) by2.row8) ?_
      refine D_mapUpdate gramK (kx := ((s.drop k).take 3)) (a := true) rfl rfl rfl rfl mp1 (by simp; omega) (by unfold maxLen; omega) (.inl rfl) (fun w4 x4 xs4 mp1_n => ?_)
      replace hx := hx.own x4 (fun i hi => by have hi2 : i = b1 := hi; subst hi2; omega)
      replace mp1 := mp1_n
      refine D_end (hK7 _ _ ?_)
      refine W_reg [.p, .p, .p] rfl ?_
      refine D_mv (v := ?v10) rfl ?h10 ?k10
      case h10 => conv => lhs; whnf
      refine D_p rfl (pv_add rfl rfl (by unfold inI64; omega)) ?_
      refine D_as (v := ?v11) rfl ?h11 ?k11
      case h11 => conv => lhs; whnf
      refine D_end (?_)
      have hw := wins_take (s := s) (k := k) (by omega)
      have hl := wins_length s
      refine ⟨k + 1, ⟨rfl, rfl, rfl, rfl, trivial⟩, ⟨hx, by rw [hw, ← inF_put]; exact mp1, by omega⟩, by omega⟩
    ·
      rw [wins_all (by omega)] at mp1
      have hwl := wins_length s
      refine W_exit ?_
      refine hK3 _ _ ?_
      refine W_seq fun K8 hK8 => ?_
      refine W_reg [.p] rfl ?_
      refine D_as (v := ?v12) rfl ?h12 ?k12
      case h12 => conv => lhs; whnf
      refine D_end (hK8 _ _ ?_)
      refine W_seq fun K9 hK9 => ?_
      refine W_seq fun K10 hK10 => ?_
      refine W_reg [.p, .x] rfl ?_
      refine D_mv (v := ?v13) rfl ?h13 ?k13
      case h13 => conv => lhs; whnf
      refine D_range gramK rfl rfl mp1 RX.all (fun b3 w5 cnt3 e3 x5 hcn3 rg3 => ?_)
      have g3 : w.heap.size ≤ b3 := by have := hx.size; omega
      have n3_mp1 := mp1.lt
      replace mp1 := mp1.ext x5
      replace hx := hx.trans x5
      refine D_end (hK10 _ _ ?_)
      refine W_block ?_
      refine W_loop (G := List Str × Value × Nat) (fun (D, vm, cnt) => [(2, .slice none 0 0), (5, vm), (25, ptr b3 0)]) (fun (D, vm, cnt) w' => Ext w w' ∧ Vc.RangeAt Tryz.prog 90 A8 B w' b1 b3 k (inF (wins s)) (fun x => x ∈ wins s ∧ x ∉ D) cnt ∧ D.Nodup ∧ (∀ x ∈ D, x ∈ wins s) ∧ D.length + cnt ≤ k ∧ Own sEnc 1 9 w.heap.size w' vm D) (fun (D, vm, cnt) => cnt) ([], .slice none 0 0, cnt3) ?_ ?_ ?_
      · exact ⟨rfl, rfl, rfl, trivial⟩
      · exact ⟨hx, rg3.congr (fun x => by rw [inF_some]; simp), List.nodup_nil, fun x hx => (by cases hx), by simpa using hcn3, Own.nil⟩
      · intro X6 g6 w6 hF6
        obtain ⟨D, vm, cnt⟩ := g6
        clear hx mp1 rg3
        obtain ⟨hx, rg3, hnd, hD, hlen, ho⟩ := hF6
        refine W_seq fun K11 hK11 => ?_
        refine W_reg [.x, .p] rfl ?_
        refine D_next gramK rfl rfl rg3 (.inl rfl) (fun hno => ?_) (fun x a w7 cnt1 hok hlx hfx xm7 xs7 hlt rg3_n hen7 => ?_)
        ·
          refine D_p rfl (pv_ext rfl rfl) ?_
          refine D_end (hK11 _ _ ?_)
          refine W_seq fun K12 hK12 => ?_
          refine W_f rfl ?_
          refine W_exit ?_
          refine hK9 _ _ ?_
          refine W_seq fun K13 hK13 => ?_
          refine W_reg [.p, .x] rfl ?_
          refine D_mv (v := ?v14) rfl ?h14 ?k14
          case h14 => conv => lhs; whnf
          refine D_callD rfl (by kernel_rfl) (sort_w ho (by omega)) rfl (.inl rfl) (fun u8 w8 x8 hf8 => ?_)
          have hsz8 := hx.size
          replace hx := hx.own x8 (fun i hi => (ho.lt i hi).1)
          obtain ⟨_, hso⟩ := hf8
          refine D_end (hK13 _ _ ?_)
          refine W_seq fun K14 hK14 => ?_
          refine W_reg [.p, .p] rfl ?_
          refine D_mv (v := ?v15) rfl ?h15 ?k15
          case h15 => conv => lhs; whnf
          refine D_as (v := ?v16) rfl ?h16 ?k16
          case h16 => conv => lhs; whnf
          refine D_end (hK14 _ _ ?_)
          refine W_ret ?_
          try dsimp only [then', inBlk, noGo]
          refine ret_one (v := ?v17) rfl rfl ?h17 ?k17
          case h17 => conv => lhs; whnf
          exact ⟨_, rfl, hx, by rw [sort_grams hnd (fun x => ⟨hD x, fun h => Decidable.byContradiction fun h2 => hno x (wins_len h) ⟨h, h2⟩⟩)] at hso; exact hso⟩
        ·
          replace ho := ho.mod xm7 (by first | exact (fun k hk e => rg3.ne_own ho (hk.trans (congrArg some e))) | exact fun e => rg3.ne_map ho e | exact fun e => rg3.ne_blk ho e | omega)
          replace hx := hx.own xm7 (fun i hi => by have hi2 : i = b3 := hi; subst hi2; omega)
          replace rg3 := rg3_n
          have hok3 : x.length = 3 := hok
          refine D_p rfl (pv_ext rfl rfl) ?_
          refine D_end (hK11 _ _ ?_)
          refine W_seq fun K15 hK15 => ?_
          refine W_t rfl ?_
          refine W_skip ?_
          refine hK15 _ _ ?_
          refine W_block ?_
          refine W_seq fun K16 hK16 => ?_
          refine W_reg [.l, .p, .x, .x] rfl ?_
          refine D_lq rfl (lv_entry rfl hen7) ?_
          refine D_p rfl (pv_ext rfl rfl) ?_
          refine D_alloc (cs := [.int .u8 0, .int .u8 0, .int .u8 0]) rfl (by kernel_rfl) RX.all (fun b4 w9 e4 x9 m4 => ?_)
          have g4 : w.heap.size ≤ b4 := by have := hx.size; omega
          have n4_rg3 := rg3.lt
          have n4_rg3m := rg3.map.lt
          have o4_ho : ∀ k, Value.ownBlock _ = some k → k < b4 := fun k hk => by have := (ho.lt k hk).2; omega
          replace rg3 := rg3.ext x9
          replace ho := ho.ext x9
          replace hx := hx.trans x9
          refine D_storeA (m := 3) (vs := ?u18) rfl rfl ?h18 (by kernel_rfl) ?c18 ?d18 m4 ?n18 (.inl rfl) (fun w10 x10 xs10 m4 => ?k18)
          case h18 => conv => lhs; whnf
          case c18 => simp [hok3]
          case d18 => rfl
          case n18 => simp [Value.oneCell']
          try dsimp only [setAt, List.set, List.take, List.drop] at m4
          replace rg3 := rg3.mod x10 (by intro h; have h2 : _ = b4 := h; omega) (by intro h; have h2 : _ = b4 := h; omega)
          try replace ho := ho.mod x10 (by first | assumption | (intro k hk h; have h1 := (ho.lt k hk).1; have h2 : k = b4 := h; omega) | (intro k hk h; have h1 := o4_ho k hk; have h2 : k = b4 := h; omega) | (intro h; have h2 : _ = b4 := h; omega) | (intro hl h; have h1 := a4_ho hl; have h2 : _ = b4 := h; omega))
          replace hx := hx.own x10 (by intro i hi; have hi2 : i = b4 := hi; subst hi2; omega)
          refine D_end (hK16 _ _ ?_)
          refine W_reg [.p, .p, .l, .x, .x, .p] rfl ?_
          refine D_mv (v := ?v19) rfl ?h19 ?k19
          case h19 => conv => lhs; whnf
          refine D_p rfl (pv_slR (m := 3) (by kernel_rfl) rfl) ?_
          refine D_lq rfl (lv_b2s (by kernel_rfl) (by kernel_rfl) (arr8 m4 rfl hok3.symm (Nat.le_refl _)) rfl) ?_
          refine D_lit (e := 9) (sz := 1) (zs := [S []]) (pv := [(0, ?a20_0)]) (cs := [?a20_0]) rfl (by kernel_rfl) ⟨rfl, rfl⟩ (by kernel_rfl) rfl ?h20 ?f20 RX.all (fun b5 w11 e5 x11 m5 => ?k20)
          case h20 => refine ⟨rfl, ?_, trivial⟩ <;> (conv => lhs; whnf)
          case f20 => rfl
          have g5 : w.heap.size ≤ b5 := by have := hx.size; omega
          have n5_4 : b4 < b5 := by have := m4.lt; omega
          have n5_rg3 := rg3.lt
          have n5_rg3m := rg3.map.lt
          have o5_ho : ∀ k, Value.ownBlock _ = some k → k < b5 := fun k hk => by have := (ho.lt k hk).2; omega
          replace rg3 := rg3.ext x11
          replace ho := ho.ext x11
          replace m4 := m4.ext x11
          replace hx := hx.trans x11
          refine D_append (lx := [x]) (e := 9) (sz := 1) (by' := 16) rfl (by kernel_rfl) (by kernel_rfl) (by intro x; rfl) ho (m5.arr (enc := sEnc) (sz := 1) (l := [x]) rfl (by intro x; rfl) rfl (Nat.le_of_ble_eq_true rfl)) rfl rfl (by intro x _ u hu; simp at hu; rcases hu with rfl <;> rfl) (by simp; omega) (by decide) hx.size (.inl rfl) (fun vm2 w12 ho_n x12 => ?_)
          replace rg3 := rg3.mod x12 (rg3.map.ne_own ho) (rg3.ne_own ho)
          try replace m4 := m4.mod x12 (by first | (intro h; have h2 : b4 = b4 := Option.some.inj h; omega) | (intro h; have h1 := (ho.lt _ h).1; omega) | (intro h; have h1 := o4_ho _ h; omega))
          replace hx := hx.own x12 (fun i hi => (ho.lt i hi).1)
          replace ho := ho_n
          clear m5
          refine D_as (v := ?v21) rfl ?h21 ?k21
          case h21 => conv => lhs; whnf
          refine D_end (?_)
          refine ⟨(D ++ [x], vm2, cnt1), ⟨rfl, rfl, rfl, trivial⟩, ⟨hx, rg3.congr (fun y => ?_), List.nodup_append.2 ⟨hnd, List.pairwise_singleton .., fun a ha b hb => ?_⟩, fun y hy => ?_, by simp; omega, ho⟩, hlt⟩
          · simp only [List.mem_append, List.mem_singleton, not_or, and_assoc]
          · rw [List.mem_singleton.1 hb]; exact fun e => hlx.2 (e ▸ ha)
          · rcases List.mem_append.1 hy with hy | hy
            · exact hD y hy
            · rw [List.mem_singleton.1 hy]; exact hlx.1

set_option maxRecDepth 100000 in
set_option maxHeartbeats 1000000 in
theorem knownI_w (w : World) :
    Calls Tryz.prog 26 [].toArray w (Pure w (B true)) := by
  refine calls_W Tryz.func26 rfl rfl rfl (by kernel_rfl) ?_
  have hx := Ext.refl w
  refine W_seq fun K1 hK1 => ?_
  refine W_reg [.p] rfl ?_
  refine D_as (v := ?v1) rfl ?h1 ?k1
  case h1 => conv => lhs; whnf
  refine D_end (hK1 _ _ ?_)
  refine W_seq fun K2 hK2 => ?_
  refine W_reg [.x, .x, .x, .p] rfl ?_
  refine D_callG rfl (by kernel_rfl) (grams_w [97, 98, 99, 97, 98] _ (by decide)) rfl RX.all (fun v1 w1 x1 hg => ?_)
  have hsz1 := hx.size
  replace hx := hx.trans x1
  refine D_lit (e := 9) (sz := 1) (zs := [S []]) (pv := [(0, ?a2_0), (1, ?a2_1), (2, ?a2_2)]) (cs := [?a2_0, ?a2_1, ?a2_2]) rfl (by kernel_rfl) ⟨rfl, rfl⟩ (by kernel_rfl) rfl ?h2 ?f2 RX.all (fun b1 w2 e1 x2 m1 => ?k2)
  case h2 => refine ⟨rfl, ?_, rfl, ?_, rfl, ?_, trivial⟩ <;> (conv => lhs; whnf)
  case f2 => rfl
  have g1 : w.heap.size ≤ b1 := by have := hx.size; omega
  replace hg := hg.ext x2
  replace hx := hx.trans x2
  refine D_callP rfl (by kernel_rfl) (texts_w (grams [97, 98, 99, 97, 98]) [[97, 98, 99], [98, 99, 97], [99, 97, 98]] _ _ _ (hg.arr (by intro x; rfl)) (m1.arr (enc := sEnc) (sz := 1) (l := [[97, 98, 99], [98, 99, 97], [99, 97, 98]]) rfl (by intro x; rfl) rfl (by decide)) (by rw [grams_abc]; decide) (by decide)) rfl RX.all (fun w3 x3 => ?_)
  replace hg := hg.ext x3
  replace m1 := m1.ext x3
  replace hx := hx.trans x3
  refine D_as (v := ?v3) rfl ?h3 ?k3
  case h3 => conv => lhs; whnf
  refine D_end (hK2 _ _ ?_)
  refine W_ret ?_
  try dsimp only [then', inBlk, noGo]
  refine ret_one (v := ?v4) rfl rfl ?h4 ?k4
  case h4 => conv => lhs; whnf
  refine ⟨?_, hx⟩
  rw [grams_abc]; rfl

end Go.Proofs.YtcjjjmhhpejdoaaGreatDoor
