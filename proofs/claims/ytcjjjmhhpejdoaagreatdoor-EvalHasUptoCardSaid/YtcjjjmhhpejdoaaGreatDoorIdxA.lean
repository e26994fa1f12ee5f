/-
  Walks.
-/
import Derived.Test.YtcjjjmhhpejdoaaGreatDoorChecked
import Derived.Test.YtcjjjmhhpejdoaaGreatDoorSpMem
import Derived.KernelRfl
import Derived.Test.YtcjjjmhhpejdoaaGreatDoorSpDiff
import Derived.Test.YtcjjjmhhpejdoaaGreatDoorVcF
namespace Go.Proofs.YtcjjjmhhpejdoaaGreatDoor
open Go.Vc Go.Sp
attribute [local irreducible] W XW Dw DwT
set_option linter.unusedVariables false
set_option linter.unusedSimpArgs false

theorem riseB_step {l : List Str} {k : Nat} {x y : Str} (hk : 1 ≤ k) (h1 : l[k - 1]? = some x) (h2 : l[k]? = some y) : riseB (l.drop (k - 1)) = (sLt x y && riseB (l.drop k)) := by
  obtain ⟨hk1, rfl⟩ := List.getElem?_eq_some_iff.1 h1
  obtain ⟨hk2, rfl⟩ := List.getElem?_eq_some_iff.1 h2
  have e : l.drop k = l[k] :: l.drop (k + 1) := List.drop_eq_getElem_cons hk2
  have e1 : l.drop (k - 1) = l[k - 1] :: l.drop k := by
    rw [List.drop_eq_getElem_cons hk1, show k - 1 + 1 = k by omega]
  rw [e1, e]
  rfl
theorem riseB_end {l : List Str} {k : Nat} (h : l.length ≤ k) : riseB (l.drop (k - 1)) = true := by
  have hlen : (l.drop (k - 1)).length ≤ 1 := by rw [List.length_drop]; omega
  match hd : l.drop (k - 1), hlen with
  | [], _ => rfl
  | [a], _ => rfl
theorem take_snoc' {α : Type} {l : List α} {k : Nat} {c : α} (h : l[k]? = some c) : l.take (k + 1) = l.take k ++ [c] := by
  obtain ⟨hk, rfl⟩ := List.getElem?_eq_some_iff.1 h
  exact List.take_succ_eq_append_getElem hk
theorem drop_cons' {α : Type} {l : List α} {k : Nat} {c : α} (h : l[k]? = some c) : l.drop k = c :: l.drop (k + 1) := by
  obtain ⟨hk, rfl⟩ := List.getElem?_eq_some_iff.1 h
  exact List.drop_eq_getElem_cons hk
theorem tw_step {p : Str → Bool} {l : List Str} {k : Nat} {c : Str} (h : l[k]? = some c) (hp : p c = true) : (l.drop k).takeWhile p = c :: (l.drop (k + 1)).takeWhile p ∧ (l.drop k).dropWhile p = (l.drop (k + 1)).dropWhile p := by
  rw [drop_cons' h, List.takeWhile_cons, List.dropWhile_cons, if_pos hp, if_pos hp]; exact ⟨rfl, rfl⟩
theorem tw_stop {p : Str → Bool} {l : List Str} {k : Nat} {c : Str} (h : l[k]? = some c) (hp : p c = false) : (l.drop k).takeWhile p = [] ∧ (l.drop k).dropWhile p = l.drop k := by
  have hp' : ¬ p c = true := by rw [hp]; decide
  rw [drop_cons' h, List.takeWhile_cons, List.dropWhile_cons, if_neg hp', if_neg hp']; exact ⟨rfl, rfl⟩
theorem tw_end {p : Str → Bool} {l : List Str} {k : Nat} (h : l.length ≤ k) : (l.drop k).takeWhile p = [] ∧ (l.drop k).dropWhile p = l.drop k := by
  rw [List.drop_eq_nil_of_le h]; exact ⟨rfl, rfl⟩

set_option maxRecDepth 100000 in
set_option maxHeartbeats 1000000 in
theorem rise_w (l : List Str) (v : Value) (w : World) (hv : Arr sEnc 1 w v l) (hl : l.length ≤ 1000000) :
    Calls Tryz.prog 33 [v].toArray w (Pure w (B (riseB l))) := by
  refine calls_W Tryz.func33 rfl rfl rfl (by kernel_rfl) ?_
  have hx := Ext.refl w
  refine W_seq fun K1 hK1 => ?_
  refine W_reg [.p] rfl ?_
  refine D_as (v := ?v1) rfl ?h1 ?k1
  case h1 => conv => lhs; whnf
  refine D_end (hK1 _ _ ?_)
  refine W_seq fun K2 hK2 => ?_
  refine W_seq fun K3 hK3 => ?_
  refine W_reg [.p] rfl ?_
  refine D_as (v := ?v2) rfl ?h2 ?k2
  case h2 => conv => lhs; whnf
  refine D_end (hK3 _ _ ?_)
  refine W_block ?_
  refine W_loop (G := Nat) (fun k => [(0, v), (3, I ↑k)]) (fun k w' => Ext w w' ∧ 1 ≤ k ∧ riseB l = riseB (l.drop (k - 1))) (fun k => l.length - k) 1 ?_ ?_ ?_
  · exact ⟨rfl, rfl, trivial⟩
  · exact ⟨hx, Nat.le_refl _, rfl⟩
  · intro X1 g1 w1 hF1
    revert hF1; revert g1; intro k hF1
    clear hx 
    obtain ⟨hx, hk0, hr⟩ := hF1
    refine W_seq fun K4 hK4 => ?_
    refine W_seq fun K5 hK5 => ?_
    refine W_reg [.p, .p, .p, .p] rfl ?_
    refine D_mv (v := ?v3) rfl ?h3 ?k3
    case h3 => conv => lhs; whnf
    refine D_mv (v := ?v4) rfl ?h4 ?k4
    case h4 => conv => lhs; whnf
    refine D_p rfl (pv_lenV (e := 9) (k := 1) (by kernel_rfl) hv.sl rfl) ?_
    refine D_p rfl (pv_lss rfl rfl) ?_
    refine D_end (hK5 _ _ ?_)
    refine W_if rfl (fun c1 => ?_) (fun c1 => ?_)
    ·
      obtain ⟨y, hk⟩ : ∃ y, l[k]? = some y := ⟨_, List.getElem?_eq_getElem (by omega)⟩
      obtain ⟨x, hk1⟩ : ∃ x, l[k - 1]? = some x := ⟨_, List.getElem?_eq_getElem (by omega)⟩
      have hst := riseB_step hk0 hk1 hk
      refine W_skip ?_
      refine hK4 _ _ ?_
      refine W_seq fun K6 hK6 => ?_
      refine W_block ?_
      refine W_seq fun K7 hK7 => ?_
      refine W_draw (R := Ext) Ext.refl (fun _ _ _ => Ext.trans) (by kernel_rfl) [4, 8] [(0, .p, false), (1, .p, false), (2, .p, false), (3, .p, false), (4, .l, false), (5, .p, false), (6, .p, false), (7, .p, false), (8, .l, false), (9, .p, false)] rfl (by kernel_rfl) (by kernel_rfl) (fun w2 ew2 => ?_)
      have x2 : Ext w1 w2 := by rw [ew2]; exact Ext.drew _
      clear ew2
      replace hx := hx.trans x2
      refine D_mv (v := ?v5) rfl ?h5 ?k5
      case h5 => conv => lhs; whnf
      refine D_mv (v := ?v6) rfl ?h6 ?k6
      case h6 => conv => lhs; whnf
      refine D_pe (v := I ↑(k - 1)) rfl (pv_sub rfl rfl (by unfold inI64; omega)) (by show I _ = I _; congr 1; omega) ?_
      refine D_p rfl (pv_idxA (e := 9) (k := 1) (by kernel_rfl) hv.sl rfl rfl (hv.lt hk1)) ?_
      refine D_l rfl (fun w' hR => lv_load (by kernel_rfl) rfl (((hv.ext (hx.trans hR)).row hk1).at0 rfl)) ?_
      refine D_mv (v := ?v7) rfl ?h7 ?k7
      case h7 => conv => lhs; whnf
      refine D_mv (v := ?v8) rfl ?h8 ?k8
      case h8 => conv => lhs; whnf
      refine D_p rfl (pv_idxA (e := 9) (k := 1) (by kernel_rfl) hv.sl rfl rfl (hv.lt hk)) ?_
      refine D_l rfl (fun w' hR => lv_load (by kernel_rfl) rfl (((hv.ext (hx.trans hR)).row hk).at0 rfl)) ?_
      refine D_p rfl (pv_sge rfl rfl) ?_
      refine D_end (hK7 _ _ ?_)
      refine W_cond rfl (fun c2 => ?_) (fun c2 => ?_)
      ·
        refine W_seq fun K8 hK8 => ?_
        refine W_reg [.p] rfl ?_
        refine D_as (v := ?v9) rfl ?h9 ?k9
        case h9 => conv => lhs; whnf
        refine D_end (hK8 _ _ ?_)
        refine W_ret ?_
        try dsimp only [then', inBlk, noGo]
        refine ret_one (v := ?v10) rfl rfl ?h10 ?k10
        case h10 => conv => lhs; whnf
        refine ⟨?_, hx⟩
        simp only [Bool.not_eq_true'] at c2
        rw [hr, hst, sLt, c2]; rfl
      ·
        refine W_skip ?_
        refine hK6 _ _ ?_
        refine W_reg [.p, .p, .p] rfl ?_
        refine D_mv (v := ?v11) rfl ?h11 ?k11
        case h11 => conv => lhs; whnf
        refine D_p rfl (pv_add rfl rfl (by unfold inI64; omega)) ?_
        refine D_as (v := ?v12) rfl ?h12 ?k12
        case h12 => conv => lhs; whnf
        refine D_end (?_)
        refine ⟨k + 1, ⟨rfl, rfl, trivial⟩, ⟨hx, by omega, ?_⟩, by omega⟩
        simp only [Bool.not_eq_false'] at c2
        rw [hr, hst, sLt, c2]; rfl
    ·
      refine W_exit ?_
      refine hK2 _ _ ?_
      refine W_seq fun K9 hK9 => ?_
      refine W_reg [.p] rfl ?_
      refine D_as (v := ?v13) rfl ?h13 ?k13
      case h13 => conv => lhs; whnf
      refine D_end (hK9 _ _ ?_)
      refine W_ret ?_
      try dsimp only [then', inBlk, noGo]
      refine ret_one (v := ?v14) rfl rfl ?h14 ?k14
      case h14 => conv => lhs; whnf
      refine ⟨?_, hx⟩
      rw [hr, riseB_end (by omega)]

set_option maxRecDepth 100000 in
set_option maxHeartbeats 1000000 in
theorem texts_w (l m : List Str) (v u : Value) (w : World) (hv : Arr sEnc 1 w v l) (hu : Arr sEnc 1 w u m) (hl : l.length ≤ 1000000) (hm : m.length ≤ 1000000) :
    Calls Tryz.prog 23 [v, u].toArray w (Pure w (B (decide (l = m)))) := by
  refine calls_W Tryz.func23 rfl rfl rfl (by kernel_rfl) ?_
  have hx := Ext.refl w
  refine W_seq fun K1 hK1 => ?_
  refine W_reg [.p] rfl ?_
  refine D_as (v := ?v1) rfl ?h1 ?k1
  case h1 => conv => lhs; whnf
  refine D_end (hK1 _ _ ?_)
  refine W_seq fun K2 hK2 => ?_
  refine W_seq fun K3 hK3 => ?_
  refine W_reg [.p, .p, .p, .p, .p] rfl ?_
  refine D_mv (v := ?v2) rfl ?h2 ?k2
  case h2 => conv => lhs; whnf
  refine D_p rfl (pv_lenV (e := 9) (k := 1) (by kernel_rfl) hv.sl rfl) ?_
  refine D_mv (v := ?v3) rfl ?h3 ?k3
  case h3 => conv => lhs; whnf
  refine D_p rfl (pv_lenV (e := 9) (k := 1) (by kernel_rfl) hu.sl rfl) ?_
  refine D_p rfl (pv_neq rfl rfl) ?_
  refine D_end (hK3 _ _ ?_)
  refine W_if rfl (fun c1 => ?_) (fun c1 => ?_)
  ·
    refine W_seq fun K4 hK4 => ?_
    refine W_reg [.p] rfl ?_
    refine D_as (v := ?v4) rfl ?h4 ?k4
    case h4 => conv => lhs; whnf
    refine D_end (hK4 _ _ ?_)
    refine W_ret ?_
    try dsimp only [then', inBlk, noGo]
    refine ret_one (v := ?v5) rfl rfl ?h5 ?k5
    case h5 => conv => lhs; whnf
    refine ⟨?_, hx⟩
    rw [decide_eq_false (fun e => by rw [e] at c1; exact absurd rfl c1)]
  ·
    refine W_skip ?_
    refine hK2 _ _ ?_
    refine W_seq fun K5 hK5 => ?_
    refine W_seq fun K6 hK6 => ?_
    refine W_reg [.p] rfl ?_
    refine D_as (v := ?v6) rfl ?h6 ?k6
    case h6 => conv => lhs; whnf
    refine D_end (hK6 _ _ ?_)
    refine W_block ?_
    refine W_loop (G := Nat) (fun k => [(0, v), (1, u), (5, I ↑k)]) (fun k w' => Ext w w' ∧ k ≤ l.length ∧ l.length = m.length ∧ l.take k = m.take k) (fun k => l.length - k) 0 ?_ ?_ ?_
    · exact ⟨rfl, rfl, rfl, trivial⟩
    · exact ⟨hx, Nat.zero_le _, by omega, rfl⟩
    · intro X1 g1 w1 hF1
      revert hF1; revert g1; intro k hF1
      clear hx 
      obtain ⟨hx, hk1, hle, he⟩ := hF1
      refine W_seq fun K7 hK7 => ?_
      refine W_seq fun K8 hK8 => ?_
      refine W_reg [.p, .p, .p, .p] rfl ?_
      refine D_mv (v := ?v7) rfl ?h7 ?k7
      case h7 => conv => lhs; whnf
      refine D_mv (v := ?v8) rfl ?h8 ?k8
      case h8 => conv => lhs; whnf
      refine D_p rfl (pv_lenV (e := 9) (k := 1) (by kernel_rfl) hv.sl rfl) ?_
      refine D_p rfl (pv_lss rfl rfl) ?_
      refine D_end (hK8 _ _ ?_)
      refine W_if rfl (fun c2 => ?_) (fun c2 => ?_)
      ·
        obtain ⟨c, hk⟩ : ∃ c, l[k]? = some c := ⟨_, List.getElem?_eq_getElem (by omega)⟩
        obtain ⟨d, hk2⟩ : ∃ d, m[k]? = some d := ⟨_, List.getElem?_eq_getElem (by omega)⟩
        refine W_skip ?_
        refine hK7 _ _ ?_
        refine W_seq fun K9 hK9 => ?_
        refine W_block ?_
        refine W_seq fun K10 hK10 => ?_
        refine W_draw (R := Ext) Ext.refl (fun _ _ _ => Ext.trans) (by kernel_rfl) [3, 7] [(0, .p, false), (1, .p, false), (2, .p, false), (3, .l, false), (4, .p, false), (5, .p, false), (6, .p, false), (7, .l, false), (8, .p, false)] rfl (by kernel_rfl) (by kernel_rfl) (fun w2 ew2 => ?_)
        have x2 : Ext w1 w2 := by rw [ew2]; exact Ext.drew _
        clear ew2
        replace hx := hx.trans x2
        refine D_mv (v := ?v9) rfl ?h9 ?k9
        case h9 => conv => lhs; whnf
        refine D_mv (v := ?v10) rfl ?h10 ?k10
        case h10 => conv => lhs; whnf
        refine D_p rfl (pv_idxA (e := 9) (k := 1) (by kernel_rfl) hv.sl rfl rfl (hv.lt hk)) ?_
        refine D_l rfl (fun w' hR => lv_load (by kernel_rfl) rfl (((hv.ext (hx.trans hR)).row hk).at0 rfl)) ?_
        refine D_mv (v := ?v11) rfl ?h11 ?k11
        case h11 => conv => lhs; whnf
        refine D_mv (v := ?v12) rfl ?h12 ?k12
        case h12 => conv => lhs; whnf
        refine D_p rfl (pv_idxA (e := 9) (k := 1) (by kernel_rfl) hu.sl rfl rfl (hu.lt hk2)) ?_
        refine D_l rfl (fun w' hR => lv_load (by kernel_rfl) rfl (((hu.ext (hx.trans hR)).row hk2).at0 rfl)) ?_
        refine D_p rfl (pv_sne rfl rfl) ?_
        refine D_end (hK10 _ _ ?_)
        refine W_if rfl (fun c3 => ?_) (fun c3 => ?_)
        ·
          refine W_seq fun K11 hK11 => ?_
          refine W_reg [.p] rfl ?_
          refine D_as (v := ?v13) rfl ?h13 ?k13
          case h13 => conv => lhs; whnf
          refine D_end (hK11 _ _ ?_)
          refine W_ret ?_
          try dsimp only [then', inBlk, noGo]
          refine ret_one (v := ?v14) rfl rfl ?h14 ?k14
          case h14 => conv => lhs; whnf
          refine ⟨?_, hx⟩
          rw [decide_eq_false (fun e => by rw [e, hk2] at hk; cases hk; exact c3 rfl)]
        ·
          refine W_skip ?_
          refine hK9 _ _ ?_
          refine W_reg [.p, .p, .p] rfl ?_
          refine D_mv (v := ?v15) rfl ?h15 ?k15
          case h15 => conv => lhs; whnf
          refine D_p rfl (pv_add rfl rfl (by unfold inI64; omega)) ?_
          refine D_as (v := ?v16) rfl ?h16 ?k16
          case h16 => conv => lhs; whnf
          refine D_end (?_)
          refine ⟨k + 1, ⟨rfl, rfl, rfl, trivial⟩, ⟨hx, by omega, hle, ?_⟩, by omega⟩
          rw [take_snoc' hk, take_snoc' hk2, he, Decidable.of_not_not c3]
      ·
        refine W_exit ?_
        refine hK5 _ _ ?_
        refine W_seq fun K12 hK12 => ?_
        refine W_reg [.p] rfl ?_
        refine D_as (v := ?v17) rfl ?h17 ?k17
        case h17 => conv => lhs; whnf
        refine D_end (hK12 _ _ ?_)
        refine W_ret ?_
        try dsimp only [then', inBlk, noGo]
        refine ret_one (v := ?v18) rfl rfl ?h18 ?k18
        case h18 => conv => lhs; whnf
        refine ⟨?_, hx⟩
        rw [List.take_of_length_le (by omega), List.take_of_length_le (by omega)] at he
        rw [decide_eq_true he]

set_option maxRecDepth 100000 in
set_option maxHeartbeats 1000000 in
theorem lay2_w (l : List Str) (v : Value) (s : Str) (w : World) (hv : Arr sEnc 1 w v l) (hl : l.length ≤ 1000000) :
    Calls Tryz.prog 66 [v, S s].toArray w (Gives w (fun v' w' => Arr sEnc 1 w' v' (layS l s) ∧ (v' = v ∨ w.heap.size ≤ (base v').1))) := by
  refine calls_W Tryz.func66 rfl rfl rfl (by kernel_rfl) ?_
  have hx := Ext.refl w
  refine W_seq fun K1 hK1 => ?_
  refine W_reg [.p] rfl ?_
  refine D_as (v := ?v1) rfl ?h1 ?k1
  case h1 => conv => lhs; whnf
  refine D_end (hK1 _ _ ?_)
  refine W_seq fun K2 hK2 => ?_
  refine W_reg [.p] rfl ?_
  refine D_as (v := ?v2) rfl ?h2 ?k2
  case h2 => conv => lhs; whnf
  refine D_end (hK2 _ _ ?_)
  refine W_cut (G := Nat) (fun k => [(0, v), (1, S s), (4, .slice none 0 0), (5, I ↑k)]) (fun k w' => Ext w w' ∧ k ≤ l.length ∧ l.takeWhile (sLt · s) = l.take k ∧ l.dropWhile (sLt · s) = l.drop k) ?_ ?_
  ·
    refine W_block ?_
    refine W_loop (G := Nat) (fun k => [(0, v), (1, S s), (4, .slice none 0 0), (5, I ↑k)]) (fun k w' => Ext w w' ∧ k ≤ l.length ∧ l.takeWhile (sLt · s) = l.take k ++ (l.drop k).takeWhile (sLt · s) ∧ l.dropWhile (sLt · s) = (l.drop k).dropWhile (sLt · s)) (fun k => l.length - k) 0 ?_ ?_ ?_
    · exact ⟨rfl, rfl, rfl, rfl, trivial⟩
    · exact ⟨hx, Nat.zero_le _, rfl, rfl⟩
    · intro X1 g1 w1 hF1
      revert hF1; revert g1; intro k hF1
      clear hx 
      obtain ⟨hx, hk1, hp, hsu⟩ := hF1
      refine W_seq fun K3 hK3 => ?_
      refine W_seq fun K4 hK4 => ?_
      refine W_reg [.p, .p, .p, .p, .p, .p, .p, .p, .l, .p, .p, .p] rfl ?_
      refine D_mv (v := ?v3) rfl ?h3 ?k3
      case h3 => conv => lhs; whnf
      refine D_mv (v := ?v4) rfl ?h4 ?k4
      case h4 => conv => lhs; whnf
      refine D_p rfl (pv_lenV (e := 9) (k := 1) (by kernel_rfl) hv.sl rfl) ?_
      refine D_p rfl (pv_lss rfl rfl) ?_
      refine D_mv (v := ?v5) rfl ?h5 ?k5
      case h5 => conv => lhs; whnf
      refine D_splitP 11 rfl (fun c1 => ?_) (fun c1 => ?_)
      ·
        obtain ⟨c, hk⟩ : ∃ c, l[k]? = some c := ⟨_, List.getElem?_eq_getElem (by omega)⟩
        refine D_mv (v := ?v6) rfl ?h6 ?k6
        case h6 => conv => lhs; whnf
        refine D_mv (v := ?v7) rfl ?h7 ?k7
        case h7 => conv => lhs; whnf
        refine D_p rfl (pv_idxA (e := 9) (k := 1) (by kernel_rfl) hv.sl rfl rfl (hv.lt hk)) ?_
        refine D_lq rfl (lv_load (by kernel_rfl) rfl (((hv.ext hx).row hk).at0 rfl)) ?_
        refine D_mv (v := ?v8) rfl ?h8 ?k8
        case h8 => conv => lhs; whnf
        refine D_p rfl (pv_slt rfl rfl) ?_
        refine D_pe (v := ?v9) rfl (pv_pick rfl rfl rfl) ?h9 ?k9
        case h9 => conv => lhs; whnf
        refine D_end (hK4 _ _ ?_)
        refine W_cond rfl (fun c2 => ?_) (fun c2 => ?_)
        ·
          refine W_skip ?_
          refine hK3 _ _ ?_
          refine W_block ?_
          refine W_reg [.p, .p, .p] rfl ?_
          refine D_mv (v := ?v10) rfl ?h10 ?k10
          case h10 => conv => lhs; whnf
          refine D_p rfl (pv_add rfl rfl (by unfold inI64; omega)) ?_
          refine D_as (v := ?v11) rfl ?h11 ?k11
          case h11 => conv => lhs; whnf
          refine D_end (?_)
          have hst := tw_step (p := (sLt · s)) hk c2
          refine ⟨k + 1, ⟨rfl, rfl, rfl, rfl, trivial⟩, ⟨hx, by omega, ?_, ?_⟩, by omega⟩
          · rw [hp, hst.1, take_snoc' hk]; simp
          · rw [hsu, hst.2]
        ·
          refine W_exit ?_
          refine ⟨k, ⟨rfl, rfl, rfl, rfl, trivial⟩, hx, hk1, ?_⟩
          first | (have hst := tw_stop (p := (sLt · s)) hk c2; rw [hp, hsu, hst.1, hst.2]; simp; done) | (have hst := tw_end (p := (sLt · s)) (l := l) (k := k) (by omega); rw [hp, hsu, hst.1, hst.2]; simp)
      ·
        refine D_skip rfl ?_
        refine D_skip rfl ?_
        refine D_skip rfl ?_
        refine D_skip rfl ?_
        refine D_skip rfl ?_
        refine D_skip rfl ?_
        refine D_pe (v := ?v12) rfl (pv_pick rfl rfl rfl) ?h12 ?k12
        case h12 => conv => lhs; whnf
        refine D_end (hK4 _ _ ?_)
        refine W_f rfl ?_
        refine W_exit ?_
        refine ⟨k, ⟨rfl, rfl, rfl, rfl, trivial⟩, hx, hk1, ?_⟩
        first | (have hst := tw_stop (p := (sLt · s)) hk c2; rw [hp, hsu, hst.1, hst.2]; simp; done) | (have hst := tw_end (p := (sLt · s)) (l := l) (k := k) (by omega); rw [hp, hsu, hst.1, hst.2]; simp)
  · intro X2 g2 w2 hF2
    revert hF2; revert g2; intro k hF2
    clear hx 
    obtain ⟨hx, hk1, hp, hsu⟩ := hF2
    refine W_seq fun K5 hK5 => ?_
    refine W_seq fun K6 hK6 => ?_
    refine W_reg [.p, .p, .p, .p, .p, .p, .p, .p, .l, .p, .p, .p] rfl ?_
    refine D_mv (v := ?v13) rfl ?h13 ?k13
    case h13 => conv => lhs; whnf
    refine D_mv (v := ?v14) rfl ?h14 ?k14
    case h14 => conv => lhs; whnf
    refine D_p rfl (pv_lenV (e := 9) (k := 1) (by kernel_rfl) hv.sl rfl) ?_
    refine D_p rfl (pv_lss rfl rfl) ?_
    refine D_mv (v := ?v15) rfl ?h15 ?k15
    case h15 => conv => lhs; whnf
    refine D_splitP 25 rfl (fun c3 => ?_) (fun c3 => ?_)
    ·
      obtain ⟨c, hk⟩ : ∃ c, l[k]? = some c := ⟨_, List.getElem?_eq_getElem (by omega)⟩
      refine D_mv (v := ?v16) rfl ?h16 ?k16
      case h16 => conv => lhs; whnf
      refine D_mv (v := ?v17) rfl ?h17 ?k17
      case h17 => conv => lhs; whnf
      refine D_p rfl (pv_idxA (e := 9) (k := 1) (by kernel_rfl) hv.sl rfl rfl (hv.lt hk)) ?_
      refine D_lq rfl (lv_load (by kernel_rfl) rfl (((hv.ext hx).row hk).at0 rfl)) ?_
      refine D_mv (v := ?v18) rfl ?h18 ?k18
      case h18 => conv => lhs; whnf
      refine D_p rfl (pv_seq rfl rfl) ?_
      refine D_pe (v := ?v19) rfl (pv_pick rfl rfl rfl) ?h19 ?k19
      case h19 => conv => lhs; whnf
      refine D_end (hK6 _ _ ?_)
      refine W_if rfl (fun c4 => ?_) (fun c4 => ?_)
      ·
        refine W_seq fun K7 hK7 => ?_
        refine W_reg [.p, .p] rfl ?_
        refine D_mv (v := ?v20) rfl ?h20 ?k20
        case h20 => conv => lhs; whnf
        refine D_as (v := ?v21) rfl ?h21 ?k21
        case h21 => conv => lhs; whnf
        refine D_end (hK7 _ _ ?_)
        refine W_ret ?_
        try dsimp only [then', inBlk, noGo]
        refine ret_one (v := ?v22) rfl rfl ?h22 ?k22
        case h22 => conv => lhs; whnf
        refine ⟨_, rfl, hx, ?_⟩
        have e : layS l s = l := by unfold layS; rw [if_pos]; rw [hsu, drop_cons' hk, List.head?_cons, c4]
        rw [e]; exact ⟨hv.ext hx, .inl rfl⟩
      ·
        refine W_skip ?_
        refine hK5 _ _ ?_
        refine W_seq fun K8 hK8 => ?_
        refine W_reg [.x, .p, .p, .p, .x, .p, .x, .x, .p] rfl ?_
        refine D_lit0 (e := 9) (sz := 1) rfl (by kernel_rfl) RX.all (fun b1 w3 e1 x3 m1 => ?_)
        have g1 : w.heap.size ≤ b1 := by have := hx.size; omega
        replace hx := hx.trans x3
        refine D_mv (v := ?v23) rfl ?h23 ?k23
        case h23 => conv => lhs; whnf
        refine D_mv (v := ?v24) rfl ?h24 ?k24
        case h24 => conv => lhs; whnf
        refine D_p rfl (pv_slV (e := 9) (k := 1) (by kernel_rfl) hv.sl rfl rfl rfl (by omega) (by omega)) ?_
        have ho := m1.own (enc := sEnc) (B := w.heap.size) (l := ([] : List Str)) (sz := 1) (m := 0) g1 rfl (by intro x; rfl) rfl (by simp)
        refine D_append (e := 9) (sz := 1) (by' := 16) rfl (by kernel_rfl) (by kernel_rfl) (by intro x; rfl) ho (((hv.ext hx)).slice (Nat.zero_le _) hk1) rfl rfl (by intro x _ u hu; simp at hu; rcases hu with rfl <;> rfl) (by simp; omega) (by decide) hx.size (.inl rfl) (fun vp w4 ho_n x4 => ?_)
        replace hx := hx.own x4 (fun i hi => (ho.lt i hi).1)
        replace ho := ho_n
        refine D_mv (v := ?v25) rfl ?h25 ?k25
        case h25 => conv => lhs; whnf
        refine D_lit (e := 9) (sz := 1) (zs := [S []]) (pv := [(0, ?a26_0)]) (cs := [?a26_0]) rfl (by kernel_rfl) ⟨rfl, rfl⟩ (by kernel_rfl) rfl ?h26 ?f26 RX.all (fun b2 w5 e2 x5 m2 => ?k26)
        case h26 => refine ⟨rfl, ?_, trivial⟩ <;> (conv => lhs; whnf)
        case f26 => rfl
        have g2 : w.heap.size ≤ b2 := by have := hx.size; omega
        replace ho := ho.ext x5
        replace hx := hx.trans x5
        refine D_append (lx := [s]) (e := 9) (sz := 1) (by' := 16) rfl (by kernel_rfl) (by kernel_rfl) (by intro x; rfl) ho (m2.arr (enc := sEnc) (sz := 1) (l := [s]) rfl (by intro x; rfl) rfl (Nat.le_of_ble_eq_true rfl)) rfl rfl (by intro x _ u hu; simp at hu; rcases hu with rfl <;> rfl) (by simp; omega) (by decide) hx.size (.inl rfl) (fun vq w6 ho_n x6 => ?_)
        replace hx := hx.own x6 (fun i hi => (ho.lt i hi).1)
        replace ho := ho_n
        clear m2
        refine D_as (v := ?v27) rfl ?h27 ?k27
        case h27 => conv => lhs; whnf
        refine D_end (hK8 _ _ ?_)
        refine W_seq fun K9 hK9 => ?_
        refine W_reg [.p, .p, .p, .p, .x, .p] rfl ?_
        refine D_mv (v := ?v28) rfl ?h28 ?k28
        case h28 => conv => lhs; whnf
        refine D_mv (v := ?v29) rfl ?h29 ?k29
        case h29 => conv => lhs; whnf
        refine D_mv (v := ?v30) rfl ?h30 ?k30
        case h30 => conv => lhs; whnf
        refine D_p rfl (pv_slV (e := 9) (k := 1) (by kernel_rfl) hv.sl rfl rfl rfl (by omega) (by omega)) ?_
        refine D_append (e := 9) (sz := 1) (by' := 16) rfl (by kernel_rfl) (by kernel_rfl) (by intro x; rfl) ho (((hv.ext hx)).slice hk1 (Nat.le_refl _)) rfl rfl (by intro x _ u hu; simp at hu; rcases hu with rfl <;> rfl) (by simp; omega) (by decide) hx.size (.inl rfl) (fun vr w7 ho_n x7 => ?_)
        replace hx := hx.own x7 (fun i hi => (ho.lt i hi).1)
        replace ho := ho_n
        refine D_as (v := ?v31) rfl ?h31 ?k31
        case h31 => conv => lhs; whnf
        refine D_end (hK9 _ _ ?_)
        refine W_ret ?_
        try dsimp only [then', inBlk, noGo]
        refine ret_one (v := ?v32) rfl rfl ?h32 ?k32
        case h32 => conv => lhs; whnf
        have e : layS l s = l.take k ++ s :: l.drop k := by
          unfold layS
          rw [hp, hsu, if_neg]
          intro hh
          first
          | (rw [drop_cons' hk, List.head?_cons] at hh; exact c4 (Option.some.inj hh))
          | (rw [List.drop_eq_nil_of_le (by omega)] at hh; cases hh)
        rw [e]
        refine ⟨_, rfl, hx, ?_⟩
        have e2 : [] ++ List.drop 0 (List.take k l) ++ [s] ++ List.drop k (List.take l.length l) = l.take k ++ s :: l.drop k := by rw [List.take_length]; simp
        rw [e2] at ho
        exact ⟨ho.arr (by intro x; rfl), .inr (ho.base_ge (by simp)).1⟩
    ·
      refine D_skip rfl ?_
      refine D_skip rfl ?_
      refine D_skip rfl ?_
      refine D_skip rfl ?_
      refine D_skip rfl ?_
      refine D_skip rfl ?_
      refine D_pe (v := ?v33) rfl (pv_pick rfl rfl rfl) ?h33 ?k33
      case h33 => conv => lhs; whnf
      refine D_end (hK6 _ _ ?_)
      refine W_f rfl ?_
      refine W_skip ?_
      refine hK5 _ _ ?_
      refine W_seq fun K10 hK10 => ?_
      refine W_reg [.x, .p, .p, .p, .x, .p, .x, .x, .p] rfl ?_
      refine D_lit0 (e := 9) (sz := 1) rfl (by kernel_rfl) RX.all (fun b3 w8 e3 x8 m3 => ?_)
      have g3 : w.heap.size ≤ b3 := by have := hx.size; omega
      replace hx := hx.trans x8
      refine D_mv (v := ?v34) rfl ?h34 ?k34
      case h34 => conv => lhs; whnf
      refine D_mv (v := ?v35) rfl ?h35 ?k35
      case h35 => conv => lhs; whnf
      refine D_p rfl (pv_slV (e := 9) (k := 1) (by kernel_rfl) hv.sl rfl rfl rfl (by omega) (by omega)) ?_
      have ho := m3.own (enc := sEnc) (B := w.heap.size) (l := ([] : List Str)) (sz := 1) (m := 0) g3 rfl (by intro x; rfl) rfl (by simp)
      refine D_append (e := 9) (sz := 1) (by' := 16) rfl (by kernel_rfl) (by kernel_rfl) (by intro x; rfl) ho (((hv.ext hx)).slice (Nat.zero_le _) hk1) rfl rfl (by intro x _ u hu; simp at hu; rcases hu with rfl <;> rfl) (by simp; omega) (by decide) hx.size (.inl rfl) (fun vp w9 ho_n x9 => ?_)
      replace hx := hx.own x9 (fun i hi => (ho.lt i hi).1)
      replace ho := ho_n
      refine D_mv (v := ?v36) rfl ?h36 ?k36
      case h36 => conv => lhs; whnf
      refine D_lit (e := 9) (sz := 1) (zs := [S []]) (pv := [(0, ?a37_0)]) (cs := [?a37_0]) rfl (by kernel_rfl) ⟨rfl, rfl⟩ (by kernel_rfl) rfl ?h37 ?f37 RX.all (fun b4 w10 e4 x10 m4 => ?k37)
      case h37 => refine ⟨rfl, ?_, trivial⟩ <;> (conv => lhs; whnf)
      case f37 => rfl
      have g4 : w.heap.size ≤ b4 := by have := hx.size; omega
      replace ho := ho.ext x10
      replace hx := hx.trans x10
      refine D_append (lx := [s]) (e := 9) (sz := 1) (by' := 16) rfl (by kernel_rfl) (by kernel_rfl) (by intro x; rfl) ho (m4.arr (enc := sEnc) (sz := 1) (l := [s]) rfl (by intro x; rfl) rfl (Nat.le_of_ble_eq_true rfl)) rfl rfl (by intro x _ u hu; simp at hu; rcases hu with rfl <;> rfl) (by simp; omega) (by decide) hx.size (.inl rfl) (fun vq w11 ho_n x11 => ?_)
      replace hx := hx.own x11 (fun i hi => (ho.lt i hi).1)
      replace ho := ho_n
      clear m4
      refine D_as (v := ?v38) rfl ?h38 ?k38
      case h38 => conv => lhs; whnf
      refine D_end (hK10 _ _ ?_)
      refine W_seq fun K11 hK11 => ?_
      refine W_reg [.p, .p, .p, .p, .x, .p] rfl ?_
      refine D_mv (v := ?v39) rfl ?h39 ?k39
      case h39 => conv => lhs; whnf
      refine D_mv (v := ?v40) rfl ?h40 ?k40
      case h40 => conv => lhs; whnf
      refine D_mv (v := ?v41) rfl ?h41 ?k41
      case h41 => conv => lhs; whnf
      refine D_p rfl (pv_slV (e := 9) (k := 1) (by kernel_rfl) hv.sl rfl rfl rfl (by omega) (by omega)) ?_
      refine D_append (e := 9) (sz := 1) (by' := 16) rfl (by kernel_rfl) (by kernel_rfl) (by intro x; rfl) ho (((hv.ext hx)).slice hk1 (Nat.le_refl _)) rfl rfl (by intro x _ u hu; simp at hu; rcases hu with rfl <;> rfl) (by simp; omega) (by decide) hx.size (.inl rfl) (fun vr w12 ho_n x12 => ?_)
      replace hx := hx.own x12 (fun i hi => (ho.lt i hi).1)
      replace ho := ho_n
      refine D_as (v := ?v42) rfl ?h42 ?k42
      case h42 => conv => lhs; whnf
      refine D_end (hK11 _ _ ?_)
      refine W_ret ?_
      try dsimp only [then', inBlk, noGo]
      refine ret_one (v := ?v43) rfl rfl ?h43 ?k43
      case h43 => conv => lhs; whnf
      have e : layS l s = l.take k ++ s :: l.drop k := by
        unfold layS
        rw [hp, hsu, if_neg]
        intro hh
        first
        | (rw [drop_cons' hk, List.head?_cons] at hh; exact c4 (Option.some.inj hh))
        | (rw [List.drop_eq_nil_of_le (by omega)] at hh; cases hh)
      rw [e]
      refine ⟨_, rfl, hx, ?_⟩
      have e2 : [] ++ List.drop 0 (List.take k l) ++ [s] ++ List.drop k (List.take l.length l) = l.take k ++ s :: l.drop k := by rw [List.take_length]; simp
      rw [e2] at ho
      exact ⟨ho.arr (by intro x; rfl), .inr (ho.base_ge (by simp)).1⟩

theorem lay_w (l : List Str) (v : Value) (s : Str) (w : World) (hv : Arr sEnc 1 w v l) (hl : l.length ≤ 1000000) : Calls Tryz.prog 66 [v, S s].toArray w (Gives w (fun v' w' => Arr sEnc 1 w' v' (layS l s))) :=
  (lay2_w l v s w hv hl).mono fun e w' ⟨u, h1, h2, h3⟩ => ⟨u, h1, h2, h3.1⟩

end Go.Proofs.YtcjjjmhhpejdoaaGreatDoor
