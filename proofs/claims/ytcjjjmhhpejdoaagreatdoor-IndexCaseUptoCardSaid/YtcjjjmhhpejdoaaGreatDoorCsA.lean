/-
  Walks.
-/
import Derived.Test.YtcjjjmhhpejdoaaGreatDoorChecked
import Derived.Test.YtcjjjmhhpejdoaaGreatDoorSpMem
import Derived.KernelRfl
import Derived.Test.YtcjjjmhhpejdoaaGreatDoorVcG
import Derived.Test.YtcjjjmhhpejdoaaGreatDoorSpKey
import Derived.Test.YtcjjjmhhpejdoaaGreatDoorDnA
namespace Go.Proofs.YtcjjjmhhpejdoaaGreatDoor
open Go.Vc Go.Sp
attribute [local irreducible] W XW Dw DwT
set_option linter.unusedVariables false
set_option linter.unusedSimpArgs false

def upTo (s : Str) (k : Nat) : Str := (s.take k).map upC ++ s.drop k
theorem upTo_len (s : Str) (k : Nat) : (upTo s k).length = s.length := by unfold upTo; simp; omega
theorem upTo_zero (s : Str) : upTo s 0 = s := by simp [upTo]
theorem upTo_all {s : Str} {k : Nat} (h : s.length ≤ k) : upTo s k = upS s := by unfold upTo upS; rw [List.take_of_length_le h, List.drop_eq_nil_of_le h, List.append_nil]
theorem upTo_at {s : Str} {k : Nat} {x : UInt8} (h : s[k]? = some x) : (upTo s k)[k]? = some x := by
  have hk := (List.getElem?_eq_some_iff.1 h).1
  unfold upTo
  rw [List.getElem?_append_right (by simp; omega)]
  simp [List.getElem?_drop, Nat.min_eq_left (Nat.le_of_lt hk), h]
theorem upTo_set {s : Str} {k : Nat} {x : UInt8} (h : s[k]? = some x) : (upTo s k).set k (upC x) = upTo s (k + 1) := by
  have hk := (List.getElem?_eq_some_iff.1 h).1
  have hx := (List.getElem?_eq_some_iff.1 h).2
  unfold upTo
  rw [List.set_append_right _ _ (by simp; omega), take_snocS h, List.drop_eq_getElem_cons hk, hx]
  simp [Nat.min_eq_left (Nat.le_of_lt hk)]
theorem upTo_skip {s : Str} {k : Nat} {x : UInt8} (h : s[k]? = some x) (hc : upC x = x) : upTo s k = upTo s (k + 1) := by
  have hk := (List.getElem?_eq_some_iff.1 h).1
  have hx := (List.getElem?_eq_some_iff.1 h).2
  unfold upTo
  rw [take_snocS h, List.drop_eq_getElem_cons hk, hx]
  simp [hc]
theorem byts_arr {w : World} {b e cap : Nat} {s : Str} {k : Nat} (h : Vc.Byts w b e cap (upTo s k)) : Arr encB 1 w (.slice (some ⟨b, 0, none⟩) s.length cap) (upTo s k) := by
  have := h.arr; rwa [upTo_len] at this

set_option maxRecDepth 100000 in
set_option maxHeartbeats 1000000 in
theorem upper_w (s : Str) (w : World) (hs : s.length ≤ 1000000) :
  Calls Tryz.prog 34 [S s].toArray w (Pure w (S (upS s))) := by
 refine calls_W Tryz.func34 rfl rfl rfl (by kernel_rfl) ?_
 have hx := Ext.refl w
 refine W_seq fun K1 hK1 => ?_
 refine wr ?_
 refine da ?_
 refine D_end (hK1 _ _ ?_)
 refine W_seq fun K2 hK2 => ?_
 refine W_reg [.p, .x, .p] rfl ?_
 refine dm ?_
 refine D_s2bB (s := s) (e := 5) rfl (by kernel_rfl) (by kernel_rfl) (by kernel_rfl) rfl RX.all (fun bb cap w1 eb x1 hby => ?_)
 have gb : w.heap.size ≤ bb := by rw [eb]; exact hx.size
 replace hx := hx.trans x1
 refine da ?_
 refine D_end (hK2 _ _ ?_)
 refine W_seq fun K3 hK3 => ?_
 refine W_seq fun K4 hK4 => ?_
 refine wr ?_
 refine da ?_
 refine D_end (hK4 _ _ ?_)
 refine W_block ?_
 refine W_loop (G := Nat) (fun k => [(2, S []), (3, .slice (some ⟨bb, 0, none⟩) s.length cap), (4, I ↑k)]) (fun k w' => Ext w w' ∧ k ≤ s.length ∧ Vc.Byts w' bb 5 cap (upTo s k)) (fun k => s.length - k) 0 ?_ ?_ ?_
 ·
  exact ⟨rfl, rfl, rfl, trivial⟩
 ·
  exact ⟨hx, Nat.zero_le _, by rw [upTo_zero]; exact hby⟩
 ·
  intro X2 g2 w2 hF2
  revert hF2; revert g2; intro k hF2
  clear hx hby
  obtain ⟨hx, hk1, hby⟩ := hF2
  refine W_seq fun K5 hK5 => ?_
  refine W_seq fun K6 hK6 => ?_
  refine wr ?_
  iterate 2 refine dm ?_
  refine dp (pv_lenV (e := 5) (k := 1) (by kernel_rfl) (byts_arr hby).sl rfl) ?_
  refine dp (pv_lss rfl rfl) ?_
  refine D_end (hK6 _ _ ?_)
  refine W_if rfl (fun c1 => ?_) (fun c1 => ?_)
  ·
   have hul := upTo_len s k
   obtain ⟨x, hk⟩ : ∃ x, s[k]? = some x := ⟨_, List.getElem?_eq_getElem (by omega)⟩
   have hku := upTo_at hk
   refine W_skip ?_
   refine hK5 _ _ ?_
   refine W_seq fun K7 hK7 => ?_
   refine W_block ?_
   refine W_seq fun K8 hK8 => ?_
   refine wr ?_
   iterate 2 refine dm ?_
   refine dp (pv_idxA (e := 5) (k := 1) (by kernel_rfl) (byts_arr hby).sl rfl rfl ((byts_arr hby).lt hku)) ?_
   refine dq (lv_load (by kernel_rfl) rfl (((byts_arr hby).row hku).at0 rfl)) ?_
   refine dp (pv_geqB (b := 97) rfl rfl) ?_
   refine dm ?_
   refine D_splitP 18 rfl (fun c2 => ?_) (fun c2 => ?_)
   ·
    iterate 2 refine dm ?_
    refine dp (pv_idxA (e := 5) (k := 1) (by kernel_rfl) (byts_arr hby).sl rfl rfl ((byts_arr hby).lt hku)) ?_
    refine dq (lv_load (by kernel_rfl) rfl (((byts_arr hby).row hku).at0 rfl)) ?_
    refine dp (pv_leqB (b := 122) rfl rfl) ?_
    refine dk' ?_
    refine D_end (hK8 _ _ ?_)
    refine W_if rfl (fun c3 => ?_) (fun c3 => ?_)
    ·
     refine wr ?_
     iterate 4 refine dm ?_
     refine dp (pv_idxA (e := 5) (k := 1) (by kernel_rfl) (byts_arr hby).sl rfl rfl ((byts_arr hby).lt hku)) ?_
     refine dq (lv_load (by kernel_rfl) rfl (((byts_arr hby).row hku).at0 rfl)) ?_
     refine dp (pv_subB (b := 32) rfl rfl) ?_
     refine dp (pv_idxA (e := 5) (k := 1) (by kernel_rfl) (byts_arr hby).sl rfl rfl ((byts_arr hby).lt hku)) ?_
     refine D_storeB (b := bb) (e := 5) (cap := cap) (i := k) (l := upTo s k) (c := x - 32) rfl (by show ptr bb (0 + k * 1) = ptr bb k; rw [Nat.mul_one, Nat.zero_add]) rfl (by kernel_rfl) hby (by rw [upTo_len]; omega) (.inl rfl) (fun w3 x3 xs3 hby_n => ?_)
     replace hx := hx.own x3 (fun i hi => by have hi2 : i = bb := hi; subst hi2; omega)
     replace hby := hby_n
     refine D_end (hK7 _ _ ?_)
     refine wr ?_
     refine dm ?_
     refine dp (pv_add rfl rfl (by unfold inI64; omega)) ?_
     refine da ?_
     refine D_end (?_)
     refine ⟨k + 1, ⟨rfl, rfl, rfl, trivial⟩, ⟨hx, by omega, ?_⟩, by omega⟩
     rw [← upTo_set hk, show upC x = x - 32 from if_pos ⟨c2, c3⟩]; exact hby
    ·
     refine W_skip ?_
     refine hK7 _ _ ?_
     refine wr ?_
     refine dm ?_
     refine dp (pv_add rfl rfl (by unfold inI64; omega)) ?_
     refine da ?_
     refine D_end (?_)
     refine ⟨k + 1, ⟨rfl, rfl, rfl, trivial⟩, ⟨hx, by omega, ?_⟩, by omega⟩
     rw [← upTo_skip hk (if_neg (fun e => c3 e.2))]; exact hby
   ·
    iterate 5 refine dk ?_
    refine dk' ?_
    refine D_end (hK8 _ _ ?_)
    refine W_f rfl ?_
    refine W_skip ?_
    refine hK7 _ _ ?_
    refine wr ?_
    refine dm ?_
    refine dp (pv_add rfl rfl (by unfold inI64; omega)) ?_
    refine da ?_
    refine D_end (?_)
    refine ⟨k + 1, ⟨rfl, rfl, rfl, trivial⟩, ⟨hx, by omega, ?_⟩, by omega⟩
    rw [← upTo_skip hk (if_neg (fun e => c2 e.1))]; exact hby
  ·
   have hul := upTo_len s k
   refine W_exit ?_
   refine hK3 _ _ ?_
   refine W_seq fun K9 hK9 => ?_
   refine W_reg [.p, .l, .p] rfl ?_
   refine dm ?_
   refine dq (lv_b2s (by kernel_rfl) (by kernel_rfl) ((byts_arr hby)) rfl) ?_
   refine da ?_
   refine D_end (hK9 _ _ ?_)
   refine W_ret ?_
   try dsimp only [then', inBlk, noGo]
   refine ro ?_
   exact ⟨by rw [← upTo_all (s := s) (k := k) (by omega)], hx⟩

end Go.Proofs.YtcjjjmhhpejdoaaGreatDoor
