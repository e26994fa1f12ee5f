/-
  Walks.
-/
import Derived.Test.YteninjhmmjkckaaGreatDoorChecked
import Derived.Test.YteninjhmmjkckaaGreatDoorSpMem
import Derived.KernelRfl
import Derived.Test.YteninjhmmjkckaaGreatDoorSoA
namespace Go.Proofs.YteninjhmmjkckaaGreatDoor
open Go.Vc Go.Sp
attribute [local irreducible] W XW Dw DwT
set_option linter.unusedVariables false
set_option linter.unusedSimpArgs false


set_option maxRecDepth 100000 in
set_option maxHeartbeats 1000000 in
theorem indexF0_w (f : Value) (w : World) :
  Calls Tryz.prog 112 [.slice none 0 0, f].toArray w (Pure w (I (-1))) := by
 refine calls_W Tryz.func112 rfl rfl rfl (by kernel_rfl) ?_
 have hx := Ext.refl w
 refine W_seq fun K1 hK1 => ?_
 refine wr ?_
 refine da ?_
 refine D_end (hK1 _ _ ?_)
 refine W_seq fun K2 hK2 => ?_
 refine W_seq fun K3 hK3 => ?_
 refine wr ?_
 refine dm ?_
 refine dp (pv_lenV (e := 25) (k := 5) (by kernel_rfl) (Arr.nil (enc := FilV.cs) (sz := 5) (w := w)).sl rfl) ?_
 refine dm ?_
 refine D_end (hK3 _ _ ?_)
 refine W_block ?_
 refine W_loop (G := Unit) (fun uu => [(0, .slice none 0 0), (1, f), (7, I 0), (8, I 0)]) (fun uu w' => Ext w w' ∧ True) (fun uu => 0) () ?_ ?_ ?_
 ·
  exact ⟨rfl, rfl, rfl, rfl, trivial⟩
 ·
  exact ⟨hx, trivial⟩
 ·
  intro X1 g1 w1 hF1
  revert hF1; revert g1; intro uu hF1
  clear hx
  obtain ⟨hx, htr⟩ := hF1
  refine W_seq fun K4 hK4 => ?_
  refine wr ?_
  refine dp (pv_lss rfl rfl) ?_
  refine D_end (hK4 _ _ ?_)
  refine W_seq fun K5 hK5 => ?_
  refine W_if rfl (fun c1 => ?_) (fun c1 => ?_)
  ·
   exact absurd c1 (by decide)
  ·
   refine W_exit ?_
   refine hK2 _ _ ?_
   refine W_seq fun K6 hK6 => ?_
   refine wr ?_
   refine da ?_
   refine D_end (hK6 _ _ ?_)
   refine W_ret ?_
   try dsimp only [then', inBlk, noGo]
   refine ro ?_
   exact ⟨rfl, hx⟩

set_option maxRecDepth 100000 in
set_option maxHeartbeats 1000000 in
theorem contF0_w (f : Value) (w : World) :
  Calls Tryz.prog 54 [.slice none 0 0, f].toArray w (Pure w (B false)) := by
 refine calls_W Tryz.func54 rfl rfl rfl (by kernel_rfl) ?_
 have hx := Ext.refl w
 refine W_seq fun K1 hK1 => ?_
 refine wr ?_
 refine da ?_
 refine D_end (hK1 _ _ ?_)
 refine W_seq fun K2 hK2 => ?_
 refine wr ?_
 iterate 2 refine dm ?_
 refine D_callP rfl (by kernel_rfl) (indexF0_w f _) rfl RX.all (fun w1 x1 => ?_)
 replace hx := hx.trans x1
 refine dp (pv_geq rfl rfl) ?_
 refine da ?_
 refine D_end (hK2 _ _ ?_)
 refine W_ret ?_
 try dsimp only [then', inBlk, noGo]
 refine ro ?_
 exact ⟨rfl, hx⟩

set_option maxRecDepth 100000 in
set_option maxHeartbeats 1000000 in
theorem mayP_w (typ : Str) (n m : Int) (bl : Nat) (w : World) (hL : Blk w bl [I m] 3) (htt : typeS typ = true) (hn : n < 16) (hm : 1 ≤ m) (hm2 : m ≤ 1000) :
  Calls Tryz.prog 23 [.agg ⟨[I 7, S typ, S [], .slice none 0 0, .slice none 0 0]⟩, I n, ptr bl 0].toArray w (Does (oneB bl) w (fun u w' => u = B true ∧ Blk w' bl [I (m - 1)] 3)) := by
 refine calls_W Tryz.func23 rfl rfl rfl (by kernel_rfl) ?_
 have hx := Ext.refl w
 have hbl := hL.lt
 refine W_seq fun K1 hK1 => ?_
 refine wr ?_
 refine D_box rfl rfl rfl RX.all (fun b1 w1 e1 x1 m1 => ?_)
 have g1 : w.heap.size ≤ b1 := by have := hx.size; omega
 replace hx := hx.trans x1
 refine D_box rfl rfl rfl RX.all (fun b2 w2 e2 x2 m2 => ?_)
 have g2 : w.heap.size ≤ b2 := by have := hx.size; omega
 have n2_1 : b1 < b2 := by have := m1.lt; omega
 replace m1 := m1.ext x2
 replace hx := hx.trans x2
 refine D_box rfl rfl rfl RX.all (fun b3 w3 e3 x3 m3 => ?_)
 have g3 : w.heap.size ≤ b3 := by have := hx.size; omega
 have n3_1 : b1 < b3 := by have := m1.lt; omega
 have n3_2 : b2 < b3 := by have := m2.lt; omega
 replace m1 := m1.ext x3
 replace m2 := m2.ext x3
 replace hx := hx.trans x3
 refine da ?_
 refine D_end (hK1 _ _ ?_)
 refine W_seq fun K2 hK2 => ?_
 refine W_seq fun K3 hK3 => ?_
 refine wr ?_
 refine dq (lv_load (by kernel_rfl) rfl (m3.at rfl)) ?_
 refine dp (pv_nilP rfl) ?_
 refine dq (lv_load (by kernel_rfl) rfl ((hL.ext hx).at rfl)) ?_
 refine dp (pv_sub rfl rfl (by unfold inI64; omega)) ?_
 refine dp (pv_nilP rfl) ?_
 refine D_store1 (v := ?v2) rfl rfl ?h2 ?n2 (by kernel_rfl) (hL.ext hx) ?o2 (.inl rfl) (fun w4 x4 xs4 hL => ?k2)
 case h2 => conv => lhs; whnf
 case n2 => first | rfl | exact isSl.one m1.sl | exact isSl.one m2.sl | exact isSl.one m3.sl | exact isSl.one (Arr.nil (enc := sEnc) (sz := 1) (w := w)).sl | exact isSl.one (Arr.nil (enc := FilV.cs) (sz := 5) (w := w)).sl
 case o2 => exact Nat.le_of_ble_eq_true rfl
 try dsimp only [setAt, List.set, List.take, List.drop] at hL
 try replace m1 := m1.mod x4 (by first | assumption | (intro k hk h; have h1 := (m1.lt k hk).1; have h2 : k = bl := h; omega) | (intro k hk h; have h1 := ol_m1 k hk; have h2 : k = bl := h; omega) | (intro h; have h2 : _ = bl := h; omega) | (intro hl h; have h1 := al_m1 hl; have h2 : _ = bl := h; omega))
 try replace m2 := m2.mod x4 (by first | assumption | (intro k hk h; have h1 := (m2.lt k hk).1; have h2 : k = bl := h; omega) | (intro k hk h; have h1 := ol_m2 k hk; have h2 : k = bl := h; omega) | (intro h; have h2 : _ = bl := h; omega) | (intro hl h; have h1 := al_m2 hl; have h2 : _ = bl := h; omega))
 try replace m3 := m3.mod x4 (by first | assumption | (intro k hk h; have h1 := (m3.lt k hk).1; have h2 : k = bl := h; omega) | (intro k hk h; have h1 := ol_m3 k hk; have h2 : k = bl := h; omega) | (intro h; have h2 : _ = bl := h; omega) | (intro hl h; have h1 := al_m3 hl; have h2 : _ = bl := h; omega))
 replace hx := (hx.mod x4).mono (fun i hi _ => (hi : (oneB bl) i))
 refine D_end (hK3 _ _ ?_)
 refine W_seq fun K4 hK4 => ?_
 refine wr ?_
 refine dq (lv_load (by kernel_rfl) rfl (m3.at rfl)) ?_
 refine dp (pv_nilP rfl) ?_
 refine dq (lv_load (by kernel_rfl) rfl (hL.at rfl)) ?_
 refine dp (pv_lss rfl rfl) ?_
 refine dm ?_
 refine D_splitP 20 rfl (fun c1 => ?_) (fun c1 => ?_)
 ·
  omega
 ·
  refine dq (lv_load (by kernel_rfl) rfl (m2.at rfl)) ?_
  refine dp (pv_geq rfl rfl) ?_
  refine dk' ?_
  refine D_end (hK4 _ _ ?_)
  refine W_if rfl (fun c2 => ?_) (fun c2 => ?_)
  ·
   omega
  ·
   refine W_skip ?_
   refine hK2 _ _ ?_
   refine W_seq fun K5 hK5 => ?_
   refine W_draw (R := Ext) Ext.refl (fun _ _ _ => Ext.trans) (by kernel_rfl) [1, 4, 7, 11] [(0, .p, false), (1, .l, false), (3, .p, false), (4, .l, false), (5, .p, false), (6, .p, false), (7, .l, false), (8, .p, false), (9, .p, false), (10, .p, false), (11, .l, false), (12, .p, false), (13, .p, false), (2, .x, false), (14, .p, false), (15, .p, false), (16, .p, false), (17, .p, false)] rfl (by kernel_rfl) (by kernel_rfl) (fun w5 ew5 => ?_)
   have x5 : Ext w4 w5 := by rw [ew5]; exact Ext.drew _
   clear ew5
   replace m1 := m1.ext x5
   replace m2 := m2.ext x5
   replace m3 := m3.ext x5
   replace hL := hL.ext x5
   replace hx := hx.ext x5
   refine dp (pv_fieldA (k := 1) (by kernel_rfl) rfl) ?_
   refine D_l rfl (fun w' hR => lv_load (by kernel_rfl) rfl ((m1.ext hR).at rfl)) ?_
   refine dp (pv_fieldA (k := 2) (by kernel_rfl) rfl) ?_
   refine D_l rfl (fun w' hR => lv_load (by kernel_rfl) rfl ((m1.ext hR).at rfl)) ?_
   refine dp (pv_seq rfl rfl) ?_
   refine dp (pv_fieldA (k := 3) (by kernel_rfl) rfl) ?_
   refine D_l rfl (fun w' hR => lv_load (by kernel_rfl) rfl ((m1.ext hR).at rfl)) ?_
   refine dp (pv_lenV (e := 9) (k := 1) (by kernel_rfl) (Arr.nil (enc := sEnc) (sz := 1) (w := w)).sl rfl) ?_
   refine dp (pv_eql rfl rfl) ?_
   refine dp (pv_fieldA (k := 4) (by kernel_rfl) rfl) ?_
   refine D_l rfl (fun w' hR => lv_load (by kernel_rfl) rfl ((m1.ext hR).at rfl)) ?_
   refine dp (pv_lenV (e := 25) (k := 5) (by kernel_rfl) (Arr.nil (enc := FilV.cs) (sz := 5) (w := w)).sl rfl) ?_
   refine dp (pv_eql rfl rfl) ?_
   refine D_callP rfl (by kernel_rfl) (type_w typ _) rfl RX.ext (fun w6 x6 => ?_)
   replace m1 := m1.ext x6
   replace m2 := m2.ext x6
   replace m3 := m3.ext x6
   replace hL := hL.ext x6
   replace hx := hx.ext x6
   iterate 4 refine da ?_
   refine D_end (hK5 _ _ ?_)
   refine W_seq fun K6 hK6 => ?_
   refine W_seq fun K7 hK7 => ?_
   refine wr ?_
   refine dp (pv_fieldA (k := 0) (by kernel_rfl) rfl) ?_
   refine dq (lv_load (by kernel_rfl) rfl (m1.at rfl)) ?_
   refine D_end (hK7 _ _ ?_)
   refine W_block ?_
   refine W_seq fun K8 hK8 => ?_
   refine W_seq fun K9 hK9 => ?_
   refine wr ?_
   refine dp (pv_eql rfl rfl) ?_
   refine da ?_
   refine D_end (hK9 _ _ ?_)
   refine W_if rfl (fun c3 => ?_) (fun c3 => ?_)
   ·
    exact absurd c3 (by decide)
   ·
    refine W_seq fun K10 hK10 => ?_
    refine wr ?_
    refine dp (pv_eql rfl rfl) ?_
    refine da ?_
    refine D_end (hK10 _ _ ?_)
    refine W_if rfl (fun c4 => ?_) (fun c4 => ?_)
    ·
     exact absurd c4 (by decide)
    ·
     refine wr ?_
     refine dp (pv_eql rfl rfl) ?_
     refine da ?_
     refine D_end (hK8 _ _ ?_)
     refine W_if rfl (fun c5 => ?_) (fun c5 => ?_)
     ·
      exact absurd c5 (by decide)
     ·
      refine W_seq fun K11 hK11 => ?_
      refine W_seq fun K12 hK12 => ?_
      refine wr ?_
      refine dp (pv_eql rfl rfl) ?_
      refine da ?_
      refine D_end (hK12 _ _ ?_)
      refine W_if rfl (fun c6 => ?_) (fun c6 => ?_)
      ·
       exact absurd c6 (by decide)
      ·
       refine W_seq fun K13 hK13 => ?_
       refine wr ?_
       refine dp (pv_eql rfl rfl) ?_
       refine da ?_
       refine D_end (hK13 _ _ ?_)
       refine W_if rfl (fun c7 => ?_) (fun c7 => ?_)
       ·
        exact absurd c7 (by decide)
       ·
        refine wr ?_
        refine dp (pv_eql rfl rfl) ?_
        refine da ?_
        refine D_end (hK11 _ _ ?_)
        refine W_if rfl (fun c8 => ?_) (fun c8 => ?_)
        ·
         exact absurd c8 (by decide)
        ·
         refine W_seq fun K14 hK14 => ?_
         refine wr ?_
         refine dp (pv_eql rfl rfl) ?_
         refine da ?_
         refine D_end (hK14 _ _ ?_)
         refine W_if rfl (fun c9 => ?_) (fun c9 => ?_)
         ·
          exact absurd c9 (by decide)
         ·
          refine W_seq fun K15 hK15 => ?_
          refine wr ?_
          refine dp (pv_eql rfl rfl) ?_
          refine da ?_
          refine D_end (hK15 _ _ ?_)
          refine W_if rfl (fun c10 => ?_) (fun c10 => ?_)
          ·
           refine W_skip ?_
           refine hK6 _ _ ?_
           refine W_seq fun K16 hK16 => ?_
           refine wr ?_
           iterate 2 refine dm ?_
           refine D_split 76 rfl (fun c11 => ?_) (fun c11 => ?_)
           ·
            refine dm ?_
            refine dk' ?_
            refine dm ?_
            refine D_splitP 79 rfl (fun c12 => ?_) (fun c12 => ?_)
            ·
             refine dm ?_
             refine dk' ?_
             refine dm ?_
             refine D_splitP 82 rfl (fun c13 => ?_) (fun c13 => ?_)
             ·
              refine dm ?_
              refine dk' ?_
              refine dm ?_
              refine D_splitP 85 rfl (fun c14 => ?_) (fun c14 => ?_)
              ·
               refine dp (pv_fieldA (k := 4) (by kernel_rfl) rfl) ?_
               refine dq (lv_load (by kernel_rfl) rfl (m1.at rfl)) ?_
               refine dp (pv_makeFunc rfl) ?_
               refine D_callP rfl (by kernel_rfl) (contF0_w _ _) rfl RX.all (fun w7 x7 => ?_)
               replace m1 := m1.ext x7
               replace m2 := m2.ext x7
               replace m3 := m3.ext x7
               replace hL := hL.ext x7
               replace hx := hx.ext x7
               refine dn ?_
               refine dk' ?_
               refine da ?_
               refine D_end (hK16 _ _ ?_)
               refine W_ret ?_
               try dsimp only [then', inBlk, noGo]
               refine ro ?_
               exact ⟨_, rfl, hx, rfl, hL⟩
              ·
               exact absurd rfl c14
             ·
              exact absurd rfl c13
            ·
             exact absurd rfl c12
           ·
            rw [htt] at c11; cases c11
          ·
           exact absurd rfl c10

set_option maxRecDepth 100000 in
set_option maxHeartbeats 1000000 in
theorem may1_w (typ : Str) (n m : Int) (bl bn bp : Nat) (w : World) (hL : Blk w bl [I m] 3) (hN : Blk w bn [I n] 3) (hP : Blk w bp [ptr bl 0] 69) (ht : typ.length ≤ 1000000) (htt : typeS typ = true) (hn : n < 15) (hn2 : 0 ≤ n) (hm : 1 ≤ m) (hm2 : m ≤ 1000) :
  Calls Tryz.prog 55 [.agg ⟨[I 7, S typ, S [], .slice none 0 0, .slice none 0 0]⟩, ptr bn 0, ptr bp 0].toArray w (Does (oneB bl) w (fun u w' => u = B false ∧ Blk w' bl [I (m - 1)] 3)) := by
 refine calls_W Tryz.func55 rfl rfl rfl (by kernel_rfl) ?_
 have hx := Ext.refl w
 have hbl := hL.lt
 refine W_seq fun K1 hK1 => ?_
 refine wr ?_
 refine D_box rfl rfl rfl RX.all (fun b1 w1 e1 x1 m1 => ?_)
 have g1 : w.heap.size ≤ b1 := by have := hx.size; omega
 replace hx := hx.trans x1
 refine da ?_
 refine D_end (hK1 _ _ ?_)
 refine W_seq fun K2 hK2 => ?_
 refine wr ?_
 refine dq (lv_loadA (k := 5) (by kernel_rfl) rfl rfl m1.row) ?_
 refine dq (lv_load (by kernel_rfl) rfl ((hN.ext hx).at rfl)) ?_
 refine dp (pv_add rfl rfl (by unfold inI64; omega)) ?_
 refine dq (lv_load (by kernel_rfl) rfl ((hP.ext hx).at rfl)) ?_
 refine D_callD rfl (by kernel_rfl) (mayP_w typ (n + 1) m bl _ (hL.ext hx) htt (by omega) hm hm2) rfl (.inl rfl) (fun u2 w2 x2 hf2 => ?_)
 have hsz2 := hx.size
 replace m1 := m1.mod x2 (by intro h; have h2 : _ = bl := h; omega)
 replace hx := (hx.mod x2).mono (fun i hi _ => (hi : (oneB bl) i))
 obtain ⟨rfl, hL2⟩ := hf2
 refine dn ?_
 refine da ?_
 refine D_end (hK2 _ _ ?_)
 refine W_ret ?_
 try dsimp only [then', inBlk, noGo]
 refine ro ?_
 exact ⟨_, rfl, hx, rfl, hL2⟩

set_option maxRecDepth 100000 in
set_option maxHeartbeats 1000000 in
theorem indexF1_w (typ : Str) (n m : Int) (bl bn bp : Nat) (vk : Value) (w : World) (hk0 : Arr FilV.cs 5 w vk [(⟨I 7, S typ, S [], .slice none 0 0, .slice none 0 0⟩ : FilV)]) (hL : Blk w bl [I m] 3) (hN : Blk w bn [I n] 3) (hP : Blk w bp [ptr bl 0] 69) (hkb : (base vk).1 ≠ bl) (hnb : bn ≠ bl) (hpb : bp ≠ bl) (ht : typ.length ≤ 1000000) (htt : typeS typ = true) (hn : n < 15) (hn2 : 0 ≤ n) (hm : 1 ≤ m) (hm2 : m ≤ 1000) :
  Calls Tryz.prog 112 [vk, fnC 55 [ptr bn 0, ptr bp 0]].toArray w (Does (oneB bl) w (fun u _ => u = I (-1))) := by
 refine calls_W Tryz.func112 rfl rfl rfl (by kernel_rfl) ?_
 have hx := Ext.refl w
 refine W_seq fun K1 hK1 => ?_
 refine wr ?_
 refine da ?_
 refine D_end (hK1 _ _ ?_)
 refine W_seq fun K2 hK2 => ?_
 refine W_seq fun K3 hK3 => ?_
 refine wr ?_
 refine dm ?_
 refine dp (pv_lenV (e := 25) (k := 5) (by kernel_rfl) hk0.sl rfl) ?_
 refine dm ?_
 refine D_end (hK3 _ _ ?_)
 refine W_block ?_
 refine W_loop (G := Nat) (fun k => [(0, vk), (1, fnC 55 [ptr bn 0, ptr bp 0]), (7, I ↑1), (8, I ↑k)]) (fun k w' => Mod (oneB bl) w w' ∧ k ≤ 1 ∧ ∃ c : Int, Blk w' bl [I c] 3 ∧ c = m - k) (fun k => 1 - k) 0 ?_ ?_ ?_
 ·
  exact ⟨rfl, rfl, rfl, rfl, trivial⟩
 ·
  exact ⟨hx.mono (fun _ h _ => h.elim), Nat.zero_le _, m, hL, by omega⟩
 ·
  intro X1 g1 w1 hF1
  revert hF1; revert g1; intro k hF1
  clear hx hL
  obtain ⟨hx, hk1, c, hL, hc⟩ := hF1
  refine W_seq fun K4 hK4 => ?_
  refine wr ?_
  refine dp (pv_lss rfl rfl) ?_
  refine D_end (hK4 _ _ ?_)
  refine W_seq fun K5 hK5 => ?_
  refine W_if rfl (fun c1 => ?_) (fun c1 => ?_)
  ·
   have hk0e : k = 0 := by omega
   have hk : [(⟨I 7, S typ, S [], .slice none 0 0, .slice none 0 0⟩ : FilV)][k]? = some (⟨I 7, S typ, S [], .slice none 0 0, .slice none 0 0⟩ : FilV) := by subst hk0e; rfl
   refine W_skip ?_
   refine hK5 _ _ ?_
   refine W_seq fun K6 hK6 => ?_
   refine W_block ?_
   refine W_seq fun K7 hK7 => ?_
   refine wr ?_
   refine dm ?_
   refine da ?_
   refine D_end (hK7 _ _ ?_)
   refine W_seq fun K8 hK8 => ?_
   refine wr ?_
   iterate 3 refine dm ?_
   refine dp (pv_idxA (e := 25) (k := 5) (by kernel_rfl) hk0.sl rfl rfl (hk0.lt hk)) ?_
   refine dq (lv_loadA (by kernel_rfl) rfl rfl ((hk0.mod hx (fun _ h => hkb h)).row hk)) ?_
   refine D_callCD (vs := [.agg ⟨[I 7, S typ, S [], .slice none 0 0, .slice none 0 0]⟩]) (cs := [ptr bn 0, ptr bp 0]) rfl rfl (by kernel_rfl) (may1_w typ n c bl bn bp _ hL (hN.mod hx (fun h => hnb h)) (hP.mod hx (fun h => hpb h)) ht htt hn hn2 (by omega) (by omega)) rfl (.inl rfl) (fun u2 w2 x2 hf2 => ?_)
   have hsz2 := hx.size
   replace hx := hx.own x2 (fun i hi _ => hi)
   obtain ⟨rfl, hL⟩ := hf2
   refine D_end (hK8 _ _ ?_)
   refine W_f rfl ?_
   refine W_skip ?_
   refine hK6 _ _ ?_
   refine wr ?_
   refine dp (pv_add rfl rfl (by unfold inI64; omega)) ?_
   refine dm ?_
   refine D_end (?_)
   refine ⟨k + 1, ⟨rfl, rfl, rfl, rfl, trivial⟩, ⟨hx, by omega, c - 1, hL, by omega⟩, by omega⟩
  ·
   refine W_exit ?_
   refine hK2 _ _ ?_
   refine W_seq fun K9 hK9 => ?_
   refine wr ?_
   refine da ?_
   refine D_end (hK9 _ _ ?_)
   refine W_ret ?_
   try dsimp only [then', inBlk, noGo]
   refine ro ?_
   exact ⟨_, rfl, hx, rfl⟩

set_option maxRecDepth 100000 in
set_option maxHeartbeats 1000000 in
theorem contF1_w (typ : Str) (n m : Int) (bl bn bp : Nat) (vk : Value) (w : World) (hk0 : Arr FilV.cs 5 w vk [(⟨I 7, S typ, S [], .slice none 0 0, .slice none 0 0⟩ : FilV)]) (hL : Blk w bl [I m] 3) (hN : Blk w bn [I n] 3) (hP : Blk w bp [ptr bl 0] 69) (hkb : (base vk).1 ≠ bl) (hnb : bn ≠ bl) (hpb : bp ≠ bl) (ht : typ.length ≤ 1000000) (htt : typeS typ = true) (hn : n < 15) (hn2 : 0 ≤ n) (hm : 1 ≤ m) (hm2 : m ≤ 1000) :
  Calls Tryz.prog 54 [vk, fnC 55 [ptr bn 0, ptr bp 0]].toArray w (Does (oneB bl) w (fun u _ => u = B false)) := by
 refine calls_W Tryz.func54 rfl rfl rfl (by kernel_rfl) ?_
 have hx := Ext.refl w
 refine W_seq fun K1 hK1 => ?_
 refine wr ?_
 refine da ?_
 refine D_end (hK1 _ _ ?_)
 refine W_seq fun K2 hK2 => ?_
 refine wr ?_
 iterate 2 refine dm ?_
 refine D_callD rfl (by kernel_rfl) (indexF1_w typ n m bl bn bp vk _ (hk0.ext hx) (hL.ext hx) (hN.ext hx) (hP.ext hx) hkb hnb hpb ht htt hn hn2 hm hm2) rfl (.inl rfl) (fun u1 w1 x1 hf1 => ?_)
 have hsz1 := hx.size
 replace hx := (hx.mod x1).mono (fun i hi _ => (hi : (oneB bl) i))
 obtain rfl := hf1
 refine dp (pv_geq rfl rfl) ?_
 refine da ?_
 refine D_end (hK2 _ _ ?_)
 refine W_ret ?_
 try dsimp only [then', inBlk, noGo]
 refine ro ?_
 exact ⟨_, rfl, hx, rfl⟩

set_option maxRecDepth 100000 in
set_option maxHeartbeats 1000000 in
theorem mayN_w (typ : Str) (n m : Int) (bl : Nat) (vk : Value) (w : World) (hk0 : Arr FilV.cs 5 w vk [(⟨I 7, S typ, S [], .slice none 0 0, .slice none 0 0⟩ : FilV)]) (hL : Blk w bl [I m] 3) (hkb : (base vk).1 ≠ bl) (ht : typ.length ≤ 1000000) (htt : typeS typ = true) (hn : n < 15) (hn2 : 0 ≤ n) (hm : 2 ≤ m) (hm2 : m ≤ 1000) :
  Calls Tryz.prog 23 [.agg ⟨[I 2, S [], S [], .slice none 0 0, vk]⟩, I n, ptr bl 0].toArray w (Does (oneB bl) w (fun u _ => u = B true)) := by
 refine calls_W Tryz.func23 rfl rfl rfl (by kernel_rfl) ?_
 have hx := Ext.refl w
 have hbl := hL.lt
 refine W_seq fun K1 hK1 => ?_
 refine wr ?_
 refine D_box rfl rfl rfl RX.all (fun b1 w1 e1 x1 m1 => ?_)
 have g1 : w.heap.size ≤ b1 := by have := hx.size; omega
 replace hx := hx.trans x1
 refine D_box rfl rfl rfl RX.all (fun b2 w2 e2 x2 m2 => ?_)
 have g2 : w.heap.size ≤ b2 := by have := hx.size; omega
 have n2_1 : b1 < b2 := by have := m1.lt; omega
 replace m1 := m1.ext x2
 replace hx := hx.trans x2
 refine D_box rfl rfl rfl RX.all (fun b3 w3 e3 x3 m3 => ?_)
 have g3 : w.heap.size ≤ b3 := by have := hx.size; omega
 have n3_1 : b1 < b3 := by have := m1.lt; omega
 have n3_2 : b2 < b3 := by have := m2.lt; omega
 replace m1 := m1.ext x3
 replace m2 := m2.ext x3
 replace hx := hx.trans x3
 refine da ?_
 refine D_end (hK1 _ _ ?_)
 refine W_seq fun K2 hK2 => ?_
 refine W_seq fun K3 hK3 => ?_
 refine wr ?_
 refine dq (lv_load (by kernel_rfl) rfl (m3.at rfl)) ?_
 refine dp (pv_nilP rfl) ?_
 refine dq (lv_load (by kernel_rfl) rfl ((hL.ext hx).at rfl)) ?_
 refine dp (pv_sub rfl rfl (by unfold inI64; omega)) ?_
 refine dp (pv_nilP rfl) ?_
 refine D_store1 (v := ?v2) rfl rfl ?h2 ?n2 (by kernel_rfl) (hL.ext hx) ?o2 (.inl rfl) (fun w4 x4 xs4 hL => ?k2)
 case h2 => conv => lhs; whnf
 case n2 => first | rfl | exact isSl.one m1.sl | exact isSl.one m2.sl | exact isSl.one m3.sl | exact isSl.one hk0.sl | exact isSl.one (Arr.nil (enc := sEnc) (sz := 1) (w := w)).sl
 case o2 => exact Nat.le_of_ble_eq_true rfl
 try dsimp only [setAt, List.set, List.take, List.drop] at hL
 try replace m1 := m1.mod x4 (by first | assumption | (intro k hk h; have h1 := (m1.lt k hk).1; have h2 : k = bl := h; omega) | (intro k hk h; have h1 := ol_m1 k hk; have h2 : k = bl := h; omega) | (intro h; have h2 : _ = bl := h; omega) | (intro hl h; have h1 := al_m1 hl; have h2 : _ = bl := h; omega))
 try replace m2 := m2.mod x4 (by first | assumption | (intro k hk h; have h1 := (m2.lt k hk).1; have h2 : k = bl := h; omega) | (intro k hk h; have h1 := ol_m2 k hk; have h2 : k = bl := h; omega) | (intro h; have h2 : _ = bl := h; omega) | (intro hl h; have h1 := al_m2 hl; have h2 : _ = bl := h; omega))
 try replace m3 := m3.mod x4 (by first | assumption | (intro k hk h; have h1 := (m3.lt k hk).1; have h2 : k = bl := h; omega) | (intro k hk h; have h1 := ol_m3 k hk; have h2 : k = bl := h; omega) | (intro h; have h2 : _ = bl := h; omega) | (intro hl h; have h1 := al_m3 hl; have h2 : _ = bl := h; omega))
 replace hx := (hx.mod x4).mono (fun i hi _ => (hi : (oneB bl) i))
 refine D_end (hK3 _ _ ?_)
 refine W_seq fun K4 hK4 => ?_
 refine wr ?_
 refine dq (lv_load (by kernel_rfl) rfl (m3.at rfl)) ?_
 refine dp (pv_nilP rfl) ?_
 refine dq (lv_load (by kernel_rfl) rfl (hL.at rfl)) ?_
 refine dp (pv_lss rfl rfl) ?_
 refine dm ?_
 refine D_splitP 20 rfl (fun c1 => ?_) (fun c1 => ?_)
 ·
  omega
 ·
  refine dq (lv_load (by kernel_rfl) rfl (m2.at rfl)) ?_
  refine dp (pv_geq rfl rfl) ?_
  refine dk' ?_
  refine D_end (hK4 _ _ ?_)
  refine W_if rfl (fun c2 => ?_) (fun c2 => ?_)
  ·
   omega
  ·
   refine W_skip ?_
   refine hK2 _ _ ?_
   refine W_seq fun K5 hK5 => ?_
   refine W_draw (R := Ext) Ext.refl (fun _ _ _ => Ext.trans) (by kernel_rfl) [1, 4, 7, 11] [(0, .p, false), (1, .l, false), (3, .p, false), (4, .l, false), (5, .p, false), (6, .p, false), (7, .l, false), (8, .p, false), (9, .p, false), (10, .p, false), (11, .l, false), (12, .p, false), (13, .p, false), (2, .x, false), (14, .p, false), (15, .p, false), (16, .p, false), (17, .p, false)] rfl (by kernel_rfl) (by kernel_rfl) (fun w5 ew5 => ?_)
   have x5 : Ext w4 w5 := by rw [ew5]; exact Ext.drew _
   clear ew5
   replace m1 := m1.ext x5
   replace m2 := m2.ext x5
   replace m3 := m3.ext x5
   replace hL := hL.ext x5
   replace hx := hx.ext x5
   refine dp (pv_fieldA (k := 1) (by kernel_rfl) rfl) ?_
   refine D_l rfl (fun w' hR => lv_load (by kernel_rfl) rfl ((m1.ext hR).at rfl)) ?_
   refine dp (pv_fieldA (k := 2) (by kernel_rfl) rfl) ?_
   refine D_l rfl (fun w' hR => lv_load (by kernel_rfl) rfl ((m1.ext hR).at rfl)) ?_
   refine dp (pv_seq rfl rfl) ?_
   refine dp (pv_fieldA (k := 3) (by kernel_rfl) rfl) ?_
   refine D_l rfl (fun w' hR => lv_load (by kernel_rfl) rfl ((m1.ext hR).at rfl)) ?_
   refine dp (pv_lenV (e := 9) (k := 1) (by kernel_rfl) (Arr.nil (enc := sEnc) (sz := 1) (w := w)).sl rfl) ?_
   refine dp (pv_eql rfl rfl) ?_
   refine dp (pv_fieldA (k := 4) (by kernel_rfl) rfl) ?_
   refine D_l rfl (fun w' hR => lv_load (by kernel_rfl) rfl ((m1.ext hR).at rfl)) ?_
   refine dp (pv_lenV (e := 25) (k := 5) (by kernel_rfl) hk0.sl rfl) ?_
   refine dp (pv_eql rfl rfl) ?_
   refine D_callP rfl (by kernel_rfl) (type_w [] _) rfl RX.ext (fun w6 x6 => ?_)
   replace m1 := m1.ext x6
   replace m2 := m2.ext x6
   replace m3 := m3.ext x6
   replace hL := hL.ext x6
   replace hx := hx.ext x6
   iterate 4 refine da ?_
   refine D_end (hK5 _ _ ?_)
   refine W_seq fun K6 hK6 => ?_
   refine W_seq fun K7 hK7 => ?_
   refine wr ?_
   refine dp (pv_fieldA (k := 0) (by kernel_rfl) rfl) ?_
   refine dq (lv_load (by kernel_rfl) rfl (m1.at rfl)) ?_
   refine D_end (hK7 _ _ ?_)
   refine W_block ?_
   refine W_seq fun K8 hK8 => ?_
   refine W_seq fun K9 hK9 => ?_
   refine wr ?_
   refine dp (pv_eql rfl rfl) ?_
   refine da ?_
   refine D_end (hK9 _ _ ?_)
   refine W_if rfl (fun c3 => ?_) (fun c3 => ?_)
   ·
    exact absurd c3 (by decide)
   ·
    refine W_seq fun K10 hK10 => ?_
    refine wr ?_
    refine dp (pv_eql rfl rfl) ?_
    refine da ?_
    refine D_end (hK10 _ _ ?_)
    refine W_if rfl (fun c4 => ?_) (fun c4 => ?_)
    ·
     exact absurd c4 (by decide)
    ·
     refine wr ?_
     refine dp (pv_eql rfl rfl) ?_
     refine da ?_
     refine D_end (hK8 _ _ ?_)
     refine W_if rfl (fun c5 => ?_) (fun c5 => ?_)
     ·
      refine W_draw (R := Ext) Ext.refl (fun _ _ _ => Ext.trans) (by kernel_rfl) [1, 7, 11] [(0, .p, false), (1, .l, false), (2, .p, false), (3, .p, false), (4, .p, false), (5, .p, false), (6, .p, false), (7, .l, false), (8, .p, false), (9, .p, false), (10, .p, false), (11, .l, false), (12, .p, false), (13, .p, false), (14, .p, false), (15, .p, false), (16, .p, false), (17, .p, false)] rfl (by kernel_rfl) (by kernel_rfl) (fun w7 ew7 => ?_)
      have x7 : Ext w6 w7 := by rw [ew7]; exact Ext.drew _
      clear ew7
      replace m1 := m1.ext x7
      replace m2 := m2.ext x7
      replace m3 := m3.ext x7
      replace hL := hL.ext x7
      replace hx := hx.ext x7
      refine dp (pv_fieldA (k := 1) (by kernel_rfl) rfl) ?_
      refine D_l rfl (fun w' hR => lv_load (by kernel_rfl) rfl ((m1.ext hR).at rfl)) ?_
      refine dp (pv_seq rfl rfl) ?_
      refine dm ?_
      refine dn ?_
      refine dm ?_
      refine D_split 49 rfl (fun c6 => ?_) (fun c6 => ?_)
      ·
       refine dp (pv_fieldA (k := 0) (by kernel_rfl) rfl) ?_
       refine D_l rfl (fun w' hR => lv_load (by kernel_rfl) rfl ((m1.ext hR).at rfl)) ?_
       refine dp (pv_neq rfl rfl) ?_
       refine dm ?_
       refine D_splitP 53 rfl (fun c7 => ?_) (fun c7 => ?_)
       ·
        exact absurd rfl c7
       ·
        refine dp (pv_fieldA (k := 4) (by kernel_rfl) rfl) ?_
        refine D_l rfl (fun w' hR => lv_load (by kernel_rfl) rfl ((m1.ext hR).at rfl)) ?_
        refine dp (pv_lenV (e := 25) (k := 5) (by kernel_rfl) hk0.sl rfl) ?_
        refine dp (pv_eql rfl rfl) ?_
        refine dk' ?_
        refine dk' ?_
        iterate 2 refine da ?_
        refine D_end (hK6 _ _ ?_)
        refine W_seq fun K11 hK11 => ?_
        refine wr ?_
        iterate 2 refine dm ?_
        refine D_splitP 76 rfl (fun c8 => ?_) (fun c8 => ?_)
        ·
         refine dm ?_
         refine dk' ?_
         refine dm ?_
         refine D_splitP 79 rfl (fun c9 => ?_) (fun c9 => ?_)
         ·
          refine dm ?_
          refine dk' ?_
          refine dm ?_
          refine D_splitP 82 rfl (fun c10 => ?_) (fun c10 => ?_)
          ·
           refine dm ?_
           refine dk' ?_
           refine dm ?_
           refine D_splitP 85 rfl (fun c11 => ?_) (fun c11 => ?_)
           ·
            refine dp (pv_fieldA (k := 4) (by kernel_rfl) rfl) ?_
            refine dq (lv_load (by kernel_rfl) rfl (m1.at rfl)) ?_
            refine dp (pv_makeFunc rfl) ?_
            refine D_callD rfl (by kernel_rfl) (contF1_w typ n (m - 1) bl b2 b3 vk _ (hk0.mod hx (fun _ h => hkb h)) hL m2 m3 hkb (by omega) (by omega) ht htt hn hn2 (by omega) (by omega)) rfl (.inl rfl) (fun u8 w8 x8 hf8 => ?_)
            have hsz8 := hx.size
            replace m1 := m1.mod x8 (by intro h; have h2 : _ = bl := h; omega)
            replace m2 := m2.mod x8 (by intro h; have h2 : _ = bl := h; omega)
            replace m3 := m3.mod x8 (by intro h; have h2 : _ = bl := h; omega)
            replace hx := hx.own x8 (fun i hi _ => hi)
            obtain rfl := hf8
            refine dn ?_
            refine dk' ?_
            refine da ?_
            refine D_end (hK11 _ _ ?_)
            refine W_ret ?_
            try dsimp only [then', inBlk, noGo]
            refine ro ?_
            exact ⟨_, rfl, hx, rfl⟩
           ·
            exact absurd rfl c11
          ·
           exact absurd rfl c10
         ·
          exact absurd rfl c9
        ·
         exact absurd rfl c8
      ·
       simp at c6
     ·
      exact absurd rfl c5

set_option maxRecDepth 100000 in
set_option maxHeartbeats 1000000 in
theorem fIs_w (typ : Str) (vk : Value) (w : World) (hk0 : Arr FilV.cs 5 w vk [(⟨I 7, S typ, S [], .slice none 0 0, .slice none 0 0⟩ : FilV)]) (ht : typ.length ≤ 1000000) (htt : typeS typ = true) :
  Calls Tryz.prog 10 [.agg ⟨[I 2, S [], S [], .slice none 0 0, vk]⟩].toArray w (Pure w (B true)) := by
 refine calls_W Tryz.func10 rfl rfl rfl (by kernel_rfl) ?_
 have hx := Ext.refl w
 have hkl := Arr.base_lt hk0 (by decide) (by simp)
 refine W_seq fun K1 hK1 => ?_
 refine wr ?_
 refine D_box rfl rfl rfl RX.all (fun b1 w1 e1 x1 m1 => ?_)
 have g1 : w.heap.size ≤ b1 := by have := hx.size; omega
 replace hx := hx.trans x1
 refine da ?_
 refine D_end (hK1 _ _ ?_)
 refine W_seq fun K2 hK2 => ?_
 refine wr ?_
 refine D_alloc (cs := [.int .i64 0]) rfl (by kernel_rfl) RX.all (fun b2 w2 e2 x2 m2 => ?_)
 have g2 : w.heap.size ≤ b2 := by have := hx.size; omega
 have n2_1 : b1 < b2 := by have := m1.lt; omega
 replace m1 := m1.ext x2
 replace hx := hx.trans x2
 refine D_store1 (v := ?v2) rfl rfl ?h2 ?n2 (by kernel_rfl) m2 ?o2 (.inl rfl) (fun w3 x3 xs3 m2 => ?k2)
 case h2 => conv => lhs; whnf
 case n2 => first | rfl | exact isSl.one m1.sl | exact isSl.one hk0.sl
 case o2 => exact Nat.le_of_ble_eq_true rfl
 try dsimp only [setAt, List.set, List.take, List.drop] at m2
 try replace m1 := m1.mod x3 (by first | assumption | (intro k hk h; have h1 := (m1.lt k hk).1; have h2 : k = b2 := h; omega) | (intro k hk h; have h1 := o2_m1 k hk; have h2 : k = b2 := h; omega) | (intro h; have h2 : _ = b2 := h; omega) | (intro hl h; have h1 := a2_m1 hl; have h2 : _ = b2 := h; omega))
 replace hx := hx.own x3 (by intro i hi; have hi2 : i = b2 := hi; subst hi2; omega)
 refine D_end (hK2 _ _ ?_)
 refine W_seq fun K3 hK3 => ?_
 refine wr ?_
 refine dq (lv_loadA (k := 5) (by kernel_rfl) rfl rfl m1.row) ?_
 refine D_callD rfl (by kernel_rfl) (mayN_w typ 0 64 b2 vk _ (hk0.ext hx) m2 (by omega) ht htt (by omega) (by omega) (by omega) (by omega)) rfl (.inl rfl) (fun u4 w4 x4 hf4 => ?_)
 have hsz4 := hx.size
 replace m1 := m1.mod x4 (by intro h; have h2 : _ = b2 := h; omega)
 replace hx := hx.own x4 (fun i hi => (by have hi2 : i = b2 := hi; subst hi2; omega))
 obtain rfl := hf4
 refine da ?_
 refine D_end (hK3 _ _ ?_)
 refine W_ret ?_
 try dsimp only [then', inBlk, noGo]
 refine ro ?_
 exact ⟨rfl, hx⟩

set_option maxRecDepth 100000 in
set_option maxHeartbeats 1000000 in
theorem fIs7_w (typ : Str) (w : World) (ht : typ.length ≤ 4000) (htt : typeS typ = true) :
  Calls Tryz.prog 10 [.agg ⟨[I 7, S typ, S [], .slice none 0 0, .slice none 0 0]⟩].toArray w (Pure w (B true)) := by
 refine calls_W Tryz.func10 rfl rfl rfl (by kernel_rfl) ?_
 have hx := Ext.refl w
 refine W_seq fun K1 hK1 => ?_
 refine wr ?_
 refine D_box rfl rfl rfl RX.all (fun b1 w1 e1 x1 m1 => ?_)
 have g1 : w.heap.size ≤ b1 := by have := hx.size; omega
 replace hx := hx.trans x1
 refine da ?_
 refine D_end (hK1 _ _ ?_)
 refine W_seq fun K2 hK2 => ?_
 refine wr ?_
 refine D_alloc (cs := [.int .i64 0]) rfl (by kernel_rfl) RX.all (fun b2 w2 e2 x2 m2 => ?_)
 have g2 : w.heap.size ≤ b2 := by have := hx.size; omega
 have n2_1 : b1 < b2 := by have := m1.lt; omega
 replace m1 := m1.ext x2
 replace hx := hx.trans x2
 refine D_store1 (v := ?v2) rfl rfl ?h2 ?n2 (by kernel_rfl) m2 ?o2 (.inl rfl) (fun w3 x3 xs3 m2 => ?k2)
 case h2 => conv => lhs; whnf
 case n2 => first | rfl | exact isSl.one m1.sl
 case o2 => exact Nat.le_of_ble_eq_true rfl
 try dsimp only [setAt, List.set, List.take, List.drop] at m2
 try replace m1 := m1.mod x3 (by first | assumption | (intro k hk h; have h1 := (m1.lt k hk).1; have h2 : k = b2 := h; omega) | (intro k hk h; have h1 := o2_m1 k hk; have h2 : k = b2 := h; omega) | (intro h; have h2 : _ = b2 := h; omega) | (intro hl h; have h1 := a2_m1 hl; have h2 : _ = b2 := h; omega))
 replace hx := hx.own x3 (by intro i hi; have hi2 : i = b2 := hi; subst hi2; omega)
 refine D_end (hK2 _ _ ?_)
 refine W_seq fun K3 hK3 => ?_
 refine wr ?_
 refine dq (lv_loadA (k := 5) (by kernel_rfl) rfl rfl m1.row) ?_
 refine D_callD rfl (by kernel_rfl) (mayP_w typ 0 64 b2 _ m2 htt (by omega) (by omega) (by omega)) rfl (.inl rfl) (fun u4 w4 x4 hf4 => ?_)
 have hsz4 := hx.size
 replace m1 := m1.mod x4 (by intro h; have h2 : _ = b2 := h; omega)
 replace hx := hx.own x4 (fun i hi => (by have hi2 : i = b2 := hi; subst hi2; omega))
 obtain ⟨rfl, _⟩ := hf4
 refine da ?_
 refine D_end (hK3 _ _ ?_)
 refine W_ret ?_
 try dsimp only [then', inBlk, noGo]
 refine ro ?_
 exact ⟨rfl, hx⟩

set_option maxRecDepth 100000 in
set_option maxHeartbeats 1000000 in
theorem ipresent_w (w : World) :
  Calls Tryz.prog 87 [S [99, 110]].toArray w (Pure w (S [112, 99, 110, 0])) := by
 refine calls_W Tryz.func87 rfl rfl rfl (by kernel_rfl) ?_
 have hx := Ext.refl w
 refine W_seq fun K1 hK1 => ?_
 refine wr ?_
 refine da ?_
 refine D_end (hK1 _ _ ?_)
 refine W_seq fun K2 hK2 => ?_
 refine wr ?_
 refine dm ?_
 refine dp (pv_scat rfl rfl (by first | (simp; done) | (simp; omega) | omega)) ?_
 refine dp (pv_scat rfl rfl (by first | (simp; done) | (simp; omega) | omega)) ?_
 refine da ?_
 refine D_end (hK2 _ _ ?_)
 refine W_ret ?_
 try dsimp only [then', inBlk, noGo]
 refine ro ?_
 exact ⟨rfl, hx⟩

set_option maxRecDepth 100000 in
set_option maxHeartbeats 1000000 in
theorem planP_w (bt bs bd bl mo bm ba bn mf : Nat) (room : Int) (vs : Value) (w : World) (hT : TrE w bt bs bd bl mo bm ba bn mf room vs) :
  Calls Tryz.prog 35 [ptr bt 0, .agg ⟨[I 7, S [99, 110], S [], .slice none 0 0, .slice none 0 0]⟩].toArray w (Gives w (fun u w' => ∃ b, u = .tuple #[.map (some b), B true] ∧ EmpM w' b)) := by
 refine calls_W Tryz.func35 rfl rfl rfl (by kernel_rfl) ?_
 have hx := Ext.refl w
 refine W_seq fun K1 hK1 => ?_
 refine wr ?_
 refine D_box rfl rfl rfl RX.all (fun b1 w1 e1 x1 m1 => ?_)
 have g1 : w.heap.size ≤ b1 := by have := hx.size; omega
 replace hx := hx.trans x1
 iterate 2 refine da ?_
 refine D_end (hK1 _ _ ?_)
 refine W_seq fun K2 hK2 => ?_
 refine wr ?_
 refine dp (pv_fieldA (k := 1) (by kernel_rfl) rfl) ?_
 refine dq (lv_load (by kernel_rfl) rfl (m1.at rfl)) ?_
 refine D_callP rfl (by kernel_rfl) (typeCn_w _) rfl RX.all (fun w2 x2 => ?_)
 replace m1 := m1.ext x2
 replace hx := hx.trans x2
 refine dm ?_
 refine dp (pv_ext rfl rfl) ?_
 refine dp (pv_ext rfl rfl) ?_
 refine dp (pv_ext rfl rfl) ?_
 refine dp (pv_ext rfl rfl) ?_
 iterate 4 refine da ?_
 refine D_end (hK2 _ _ ?_)
 refine W_seq fun K3 hK3 => ?_
 refine W_seq fun K4 hK4 => ?_
 refine wr ?_
 refine dp (pv_fieldA (k := 0) (by kernel_rfl) rfl) ?_
 refine dq (lv_load (by kernel_rfl) rfl (m1.at rfl)) ?_
 refine D_end (hK4 _ _ ?_)
 refine W_block ?_
 refine W_seq fun K5 hK5 => ?_
 refine wr ?_
 refine dp (pv_eql rfl rfl) ?_
 refine da ?_
 refine D_end (hK5 _ _ ?_)
 refine W_if rfl (fun c1 => ?_) (fun c1 => ?_)
 ·
  refine W_seq fun K6 hK6 => ?_
  refine W_seq fun K7 hK7 => ?_
  refine wr ?_
  refine dm ?_
  refine dn ?_
  refine D_end (hK7 _ _ ?_)
  refine W_f rfl ?_
  refine W_skip ?_
  refine hK6 _ _ ?_
  refine W_seq fun K8 hK8 => ?_
  refine wr ?_
  iterate 2 refine dm ?_
  refine D_callP rfl (by kernel_rfl) (ipresent_w _) rfl RX.all (fun w3 x3 => ?_)
  replace m1 := m1.ext x3
  replace hx := hx.trans x3
  refine D_callG rfl (by kernel_rfl) (sfoundE_w bt bs bd bl mo bm ba bn mf room vs _ _ (hT.ext hx)) rfl RX.all (fun u4 w4 x4 hf4 => ?_)
  have hsz4 := hx.size
  replace m1 := m1.ext x4
  replace hx := hx.trans x4
  obtain ⟨bq, rfl, hq⟩ := hf4
  iterate 2 refine da ?_
  refine D_end (hK8 _ _ ?_)
  refine W_ret ?_
  try dsimp only [then', inBlk, noGo]
  refine rt ?_
  exact ⟨_, rfl, hx, _, rfl, hq⟩
 ·
  exact absurd rfl c1

set_option maxRecDepth 100000 in
set_option maxHeartbeats 1000000 in
theorem planN_w (t : Value) (vk : Value) (w : World) (hk0 : Arr FilV.cs 5 w vk [(⟨I 7, S [99, 110], S [], .slice none 0 0, .slice none 0 0⟩ : FilV)]) :
  Calls Tryz.prog 35 [t, .agg ⟨[I 2, S [], S [], .slice none 0 0, vk]⟩].toArray w (Pure w (.tuple #[.map none, B false])) := by
 refine calls_W Tryz.func35 rfl rfl rfl (by kernel_rfl) ?_
 have hx := Ext.refl w
 refine W_seq fun K1 hK1 => ?_
 refine wr ?_
 refine D_box rfl rfl rfl RX.all (fun b1 w1 e1 x1 m1 => ?_)
 have g1 : w.heap.size ≤ b1 := by have := hx.size; omega
 replace hx := hx.trans x1
 iterate 2 refine da ?_
 refine D_end (hK1 _ _ ?_)
 refine W_seq fun K2 hK2 => ?_
 refine wr ?_
 refine dp (pv_fieldA (k := 1) (by kernel_rfl) rfl) ?_
 refine dq (lv_load (by kernel_rfl) rfl (m1.at rfl)) ?_
 refine D_callP rfl (by kernel_rfl) (typeNo_w _) rfl RX.all (fun w2 x2 => ?_)
 replace m1 := m1.ext x2
 replace hx := hx.trans x2
 refine dm ?_
 refine dp (pv_ext rfl rfl) ?_
 refine dp (pv_ext rfl rfl) ?_
 refine dp (pv_ext rfl rfl) ?_
 refine dp (pv_ext rfl rfl) ?_
 iterate 4 refine da ?_
 refine D_end (hK2 _ _ ?_)
 refine W_seq fun K3 hK3 => ?_
 refine W_seq fun K4 hK4 => ?_
 refine wr ?_
 refine dp (pv_fieldA (k := 0) (by kernel_rfl) rfl) ?_
 refine dq (lv_load (by kernel_rfl) rfl (m1.at rfl)) ?_
 refine D_end (hK4 _ _ ?_)
 refine W_block ?_
 refine W_seq fun K5 hK5 => ?_
 refine wr ?_
 refine dp (pv_eql rfl rfl) ?_
 refine da ?_
 refine D_end (hK5 _ _ ?_)
 refine W_if rfl (fun c1 => ?_) (fun c1 => ?_)
 ·
  exact absurd c1 (by decide)
 ·
  refine W_seq fun K6 hK6 => ?_
  refine wr ?_
  refine dp (pv_eql rfl rfl) ?_
  refine da ?_
  refine D_end (hK6 _ _ ?_)
  refine W_if rfl (fun c2 => ?_) (fun c2 => ?_)
  ·
   exact absurd c2 (by decide)
  ·
   refine W_seq fun K7 hK7 => ?_
   refine wr ?_
   refine dp (pv_eql rfl rfl) ?_
   refine da ?_
   refine D_end (hK7 _ _ ?_)
   refine W_if rfl (fun c3 => ?_) (fun c3 => ?_)
   ·
    exact absurd c3 (by decide)
   ·
    refine W_seq fun K8 hK8 => ?_
    refine wr ?_
    refine dp (pv_eql rfl rfl) ?_
    refine da ?_
    refine D_end (hK8 _ _ ?_)
    refine W_if rfl (fun c4 => ?_) (fun c4 => ?_)
    ·
     exact absurd c4 (by decide)
    ·
     refine W_seq fun K9 hK9 => ?_
     refine wr ?_
     refine dp (pv_eql rfl rfl) ?_
     refine da ?_
     refine D_end (hK9 _ _ ?_)
     refine W_if rfl (fun c5 => ?_) (fun c5 => ?_)
     ·
      exact absurd c5 (by decide)
     ·
      refine W_skip ?_
      refine hK3 _ _ ?_
      refine W_seq fun K10 hK10 => ?_
      refine wr ?_
      iterate 2 refine da ?_
      refine D_end (hK10 _ _ ?_)
      refine W_ret ?_
      try dsimp only [then', inBlk, noGo]
      refine rt ?_
      exact ⟨rfl, hx⟩

set_option maxRecDepth 100000 in
set_option maxHeartbeats 1000000 in
theorem PlanP_w (bt bs bd bl mo bm ba bn mf : Nat) (room : Int) (vs : Value) (w : World) (hT : TrE w bt bs bd bl mo bm ba bn mf room vs) :
  Calls Tryz.prog 16 [ptr bt 0, .agg ⟨[I 7, S [99, 110], S [], .slice none 0 0, .slice none 0 0]⟩].toArray w (Pure w (.tuple #[.slice none 0 0, B true])) := by
 refine calls_W Tryz.func16 rfl rfl rfl (by kernel_rfl) ?_
 have hx := Ext.refl w
 refine W_seq fun K1 hK1 => ?_
 refine wr ?_
 refine D_box rfl rfl rfl RX.all (fun b1 w1 e1 x1 m1 => ?_)
 have g1 : w.heap.size ≤ b1 := by have := hx.size; omega
 replace hx := hx.trans x1
 iterate 2 refine da ?_
 refine D_end (hK1 _ _ ?_)
 refine W_seq fun K2 hK2 => ?_
 refine W_seq fun K3 hK3 => ?_
 refine wr ?_
 refine dq (lv_loadA (k := 5) (by kernel_rfl) rfl rfl m1.row) ?_
 refine D_callP rfl (by kernel_rfl) (fIs7_w [99, 110] _ (by decide) (by kernel_rfl)) rfl RX.all (fun w2 x2 => ?_)
 replace m1 := m1.ext x2
 replace hx := hx.trans x2
 refine dn ?_
 refine D_end (hK3 _ _ ?_)
 refine W_f rfl ?_
 refine W_skip ?_
 refine hK2 _ _ ?_
 refine W_seq fun K4 hK4 => ?_
 refine wr ?_
 refine dm ?_
 refine dq (lv_loadA (k := 5) (by kernel_rfl) rfl rfl m1.row) ?_
 refine D_callG rfl (by kernel_rfl) (planP_w bt bs bd bl mo bm ba bn mf room vs _ (hT.ext hx)) rfl RX.all (fun u3 w3 x3 hf3 => ?_)
 have hsz3 := hx.size
 replace m1 := m1.ext x3
 replace hx := hx.trans x3
 obtain ⟨bq, rfl, hq⟩ := hf3
 refine dm ?_
 refine dp (pv_ext rfl rfl) ?_
 refine dp (pv_ext rfl rfl) ?_
 iterate 2 refine da ?_
 refine D_end (hK4 _ _ ?_)
 refine W_seq fun K5 hK5 => ?_
 refine wr ?_
 refine dm ?_
 refine D_callG rfl (by kernel_rfl) (keysS_w (.map (some bq)) _ hq.val) rfl RX.all (fun u4 w4 x4 hf4 => ?_)
 have hsz4 := hx.size
 replace m1 := m1.ext x4
 replace hq := hq.ext x4
 replace hx := hx.trans x4
 obtain ⟨bk, rfl, hk⟩ := hf4
 refine D_callP rfl (by kernel_rfl) (sortedS_w bk _ _ hk hq.val) rfl RX.all (fun w5 x5 => ?_)
 replace m1 := m1.ext x5
 replace hq := hq.ext x5
 replace hk := hk.ext x5
 replace hx := hx.trans x5
 refine dm ?_
 iterate 2 refine da ?_
 refine D_end (hK5 _ _ ?_)
 refine W_ret ?_
 try dsimp only [then', inBlk, noGo]
 refine rt ?_
 exact ⟨rfl, hx⟩

set_option maxRecDepth 100000 in
set_option maxHeartbeats 1000000 in
theorem PlanN_w (t : Value) (vk : Value) (w : World) (hk0 : Arr FilV.cs 5 w vk [(⟨I 7, S [99, 110], S [], .slice none 0 0, .slice none 0 0⟩ : FilV)]) :
  Calls Tryz.prog 16 [t, .agg ⟨[I 2, S [], S [], .slice none 0 0, vk]⟩].toArray w (Pure w (.tuple #[.slice none 0 0, B false])) := by
 refine calls_W Tryz.func16 rfl rfl rfl (by kernel_rfl) ?_
 have hx := Ext.refl w
 refine W_seq fun K1 hK1 => ?_
 refine wr ?_
 refine D_box rfl rfl rfl RX.all (fun b1 w1 e1 x1 m1 => ?_)
 have g1 : w.heap.size ≤ b1 := by have := hx.size; omega
 replace hx := hx.trans x1
 iterate 2 refine da ?_
 refine D_end (hK1 _ _ ?_)
 refine W_seq fun K2 hK2 => ?_
 refine W_seq fun K3 hK3 => ?_
 refine wr ?_
 refine dq (lv_loadA (k := 5) (by kernel_rfl) rfl rfl m1.row) ?_
 refine D_callP rfl (by kernel_rfl) (fIs_w [99, 110] vk _ (hk0.ext hx) (by decide) (by kernel_rfl)) rfl RX.all (fun w2 x2 => ?_)
 replace m1 := m1.ext x2
 replace hx := hx.trans x2
 refine dn ?_
 refine D_end (hK3 _ _ ?_)
 refine W_f rfl ?_
 refine W_skip ?_
 refine hK2 _ _ ?_
 refine W_seq fun K4 hK4 => ?_
 refine wr ?_
 refine dm ?_
 refine dq (lv_loadA (k := 5) (by kernel_rfl) rfl rfl m1.row) ?_
 refine D_callP rfl (by kernel_rfl) (planN_w t vk _ (hk0.ext hx)) rfl RX.all (fun w3 x3 => ?_)
 replace m1 := m1.ext x3
 replace hx := hx.trans x3
 refine dm ?_
 refine dp (pv_ext rfl rfl) ?_
 refine dp (pv_ext rfl rfl) ?_
 iterate 2 refine da ?_
 refine D_end (hK4 _ _ ?_)
 refine W_seq fun K5 hK5 => ?_
 refine wr ?_
 refine dm ?_
 refine D_callG rfl (by kernel_rfl) (keysS_w (.map none) _ (.inl rfl)) rfl RX.all (fun u4 w4 x4 hf4 => ?_)
 have hsz4 := hx.size
 replace m1 := m1.ext x4
 replace hx := hx.trans x4
 obtain ⟨bk, rfl, hk⟩ := hf4
 refine D_callP rfl (by kernel_rfl) (sortedS_w bk _ _ hk (.inl rfl)) rfl RX.all (fun w5 x5 => ?_)
 replace m1 := m1.ext x5
 replace hk := hk.ext x5
 replace hx := hx.trans x5
 refine dm ?_
 iterate 2 refine da ?_
 refine D_end (hK5 _ _ ?_)
 refine W_ret ?_
 try dsimp only [then', inBlk, noGo]
 refine rt ?_
 exact ⟨rfl, hx⟩

set_option maxRecDepth 100000 in
set_option maxHeartbeats 1000000 in
theorem getNil_w (v : Value) (w : World) :
  Calls Tryz.prog 9 [.pointer none, v].toArray w (Pure w (.tuple #[.agg ⟨[.slice none 0 0, .slice none 0 0]⟩, B false])) := by
 refine calls_W Tryz.func9 rfl rfl rfl (by kernel_rfl) ?_
 have hx := Ext.refl w
 refine W_seq fun K1 hK1 => ?_
 refine wr ?_
 refine D_alloc (cs := [.slice none 0 0, .slice none 0 0]) rfl (by kernel_rfl) RX.all (fun b1 w1 e1 x1 m1 => ?_)
 have g1 : w.heap.size ≤ b1 := by have := hx.size; omega
 replace hx := hx.trans x1
 refine da ?_
 refine D_end (hK1 _ _ ?_)
 refine W_seq fun K2 hK2 => ?_
 refine W_seq fun K3 hK3 => ?_
 refine wr ?_
 refine dm ?_
 refine dp (pv_eqP (by kernel_rfl) rfl rfl) ?_
 refine D_end (hK3 _ _ ?_)
 refine W_if rfl (fun c1 => ?_) (fun c1 => ?_)
 ·
  refine W_seq fun K4 hK4 => ?_
  refine wr ?_
  refine dp (pv_build (zs := [.slice none 0 0, .slice none 0 0]) (pl := [(0, 1), (1, 1)]) (pv := []) (cs := [.slice none 0 0, .slice none 0 0]) (by kernel_rfl) (by kernel_rfl) ?h3 ?f3) ?k3
  case h3 => exact trivial
  case f3 => rfl
  refine D_store (v := ?v4) (vs := ?u4) rfl rfl ?h4 ?c4 ?s4 m1 ?o4 ?n4 (.inl rfl) (fun w2 x2 xs2 m1 => ?k4)
  case h4 => conv => lhs; whnf
  case c4 => exact rfl
  case s4 => kernel_rfl
  case o4 => exact Nat.le_of_ble_eq_true rfl
  case n4 => simp [Value.oneCell']
  try dsimp only [setAt, List.set, List.take, List.drop] at m1
  replace hx := hx.own x2 (by intro i hi; have hi2 : i = b1 := hi; subst hi2; omega)
  refine da ?_
  refine D_end (hK4 _ _ ?_)
  refine W_ret ?_
  try dsimp only [then', inBlk, noGo]
  refine ret_cell_tmp (u := ?v6) rfl rfl rfl rfl (by kernel_rfl) rfl m1.row ?h6 ?k6
  case h6 => conv => lhs; whnf
  exact ⟨rfl, hx⟩
 ·
  exact absurd rfl c1

set_option maxRecDepth 100000 in
set_option maxHeartbeats 1000000 in
theorem findNil_w (b : Nat) (sc : Int) (c : FilV) (w : World) (hv : Arr Ava.cs 2 w (.slice (some ⟨b, 0, none⟩) 1 1) sufL) (hc : ∀ v ∈ c.cs, v.oneCell' = true) :
  Calls Tryz.prog 5 [.pointer none, .slice (some ⟨b, 0, none⟩) 1 1, I sc, .agg ⟨c.cs⟩].toArray w (Pure w (.tuple #[.slice none 0 0, I 32])) := by
 refine calls_W Tryz.func5 rfl rfl rfl (by kernel_rfl) ?_
 have hx := Ext.refl w
 refine W_seq fun K1 hK1 => ?_
 refine wr ?_
 refine D_box rfl rfl rfl RX.all (fun b1 w1 e1 x1 m1 => ?_)
 have g1 : w.heap.size ≤ b1 := by have := hx.size; omega
 replace hx := hx.trans x1
 iterate 2 refine da ?_
 refine D_end (hK1 _ _ ?_)
 refine W_seq fun K2 hK2 => ?_
 refine W_seq fun K3 hK3 => ?_
 refine wr ?_
 refine dm ?_
 refine D_callP rfl (by kernel_rfl) (sufIs_w _ _ (hv.ext hx)) rfl RX.all (fun w2 x2 => ?_)
 replace m1 := m1.ext x2
 replace hx := hx.trans x2
 refine dn ?_
 refine D_end (hK3 _ _ ?_)
 refine W_f rfl ?_
 refine W_skip ?_
 refine hK2 _ _ ?_
 refine W_seq fun K4 hK4 => ?_
 refine W_seq fun K5 hK5 => ?_
 refine wr ?_
 iterate 2 refine dm ?_
 refine D_callP rfl (by kernel_rfl) (getNil_w _ _) rfl RX.all (fun w3 x3 => ?_)
 replace m1 := m1.ext x3
 replace hx := hx.trans x3
 refine dm ?_
 refine dp (pv_ext rfl rfl) ?_
 refine dp (pv_ext rfl rfl) ?_
 refine D_alloc (cs := [.slice none 0 0, .slice none 0 0]) rfl (by kernel_rfl) RX.all (fun b2 w4 e2 x4 m2 => ?_)
 have g2 : w.heap.size ≤ b2 := by have := hx.size; omega
 have n2_1 : b1 < b2 := by have := m1.lt; omega
 replace m1 := m1.ext x4
 replace hx := hx.trans x4
 refine D_store (v := ?v8) (vs := ?u8) rfl rfl ?h8 ?c8 ?s8 m2 ?o8 ?n8 (.inl rfl) (fun w5 x5 xs5 m2 => ?k8)
 case h8 => conv => lhs; whnf
 case c8 => exact rfl
 case s8 => kernel_rfl
 case o8 => exact Nat.le_of_ble_eq_true rfl
 case n8 => simp [Value.oneCell']
 try dsimp only [setAt, List.set, List.take, List.drop] at m2
 try replace m1 := m1.mod x5 (by first | assumption | (intro k hk h; have h1 := (m1.lt k hk).1; have h2 : k = b2 := h; omega) | (intro k hk h; have h1 := o2_m1 k hk; have h2 : k = b2 := h; omega) | (intro h; have h2 : _ = b2 := h; omega) | (intro hl h; have h1 := a2_m1 hl; have h2 : _ = b2 := h; omega))
 replace hx := hx.own x5 (by intro i hi; have hi2 : i = b2 := hi; subst hi2; omega)
 refine da ?_
 refine D_end (hK5 _ _ ?_)
 refine W_seq fun K6 hK6 => ?_
 refine wr ?_
 refine dm ?_
 refine dn ?_
 refine D_end (hK6 _ _ ?_)
 refine W_t rfl ?_
 refine W_seq fun K7 hK7 => ?_
 refine wr ?_
 iterate 2 refine da ?_
 refine D_end (hK7 _ _ ?_)
 refine W_ret ?_
 try dsimp only [then', inBlk, noGo]
 refine rt ?_
 exact ⟨rfl, hx⟩

set_option maxRecDepth 100000 in
set_option maxHeartbeats 1000000 in
theorem known23_w (w : World) :
  Calls Tryz.prog 7 [].toArray w (Pure w (B true)) := by
 refine calls_W Tryz.func7 rfl rfl rfl (by kernel_rfl) ?_
 have hx := Ext.refl w
 refine W_seq fun K1 hK1 => ?_
 refine wr ?_
 refine da ?_
 refine D_end (hK1 _ _ ?_)
 refine W_seq fun K2 hK2 => ?_
 refine wr ?_
 refine D_callG rfl (by kernel_rfl) (begin_w _) rfl RX.all (fun u1 w1 x1 hf1 => ?_)
 have hsz1 := hx.size
 replace hx := hx.trans x1
 obtain ⟨bp, bt, bx, bs, bd, bl, mo, bm, ba, bn, mf, room, vs, rfl, hp, hT⟩ := hf1
 refine da ?_
 refine D_end (hK2 _ _ ?_)
 refine W_seq fun K3 hK3 => ?_
 refine W_seq fun K4 hK4 => ?_
 refine wr ?_
 refine dm ?_
 refine dp (pv_eqP (by kernel_rfl) rfl rfl) ?_
 refine D_end (hK4 _ _ ?_)
 refine W_if rfl (fun c1 => ?_) (fun c1 => ?_)
 ·
  exact absurd c1 (by simp)
 ·
  refine W_skip ?_
  refine hK3 _ _ ?_
  refine W_seq fun K5 hK5 => ?_
  refine wr ?_
  refine dm ?_
  refine dp (pv_nilP rfl) ?_
  refine dp (pv_fieldA (k := 0) (by kernel_rfl) rfl) ?_
  refine dq (lv_load (by kernel_rfl) rfl (hp.at rfl)) ?_
  refine dp (pv_build (zs := [.int .i64 0, S [], S [], .slice none 0 0, .slice none 0 0]) (pl := [(0, 1), (1, 1), (2, 1), (3, 1), (4, 1)]) (pv := [(0, ?a5_0), (1, ?a5_1)]) (cs := [?a5_0, ?a5_1, S [], .slice none 0 0, .slice none 0 0]) (by kernel_rfl) (by kernel_rfl) ?h5 ?f5) ?k5
  case h5 => refine ⟨rfl, ?_, rfl, ?_, trivial⟩ <;> (conv => lhs; whnf)
  case f5 => rfl
  refine D_lit (e := 25) (sz := 5) (zs := [.int .i64 0, S [], S [], .slice none 0 0, .slice none 0 0]) (pv := [(0, .agg ⟨[?a6_0, ?a6_1, ?a6_2, ?a6_3, ?a6_4]⟩)]) (cs := [?a6_0, ?a6_1, ?a6_2, ?a6_3, ?a6_4]) rfl (by kernel_rfl) ⟨rfl, rfl⟩ (by kernel_rfl) rfl ?h6 ?f6 RX.all (fun b1 w2 e1 x2 m1 => ?k6)
  case h6 => refine ⟨rfl, ?_, trivial⟩ <;> (conv => lhs; whnf)
  case f6 => rfl
  have g1 : w.heap.size ≤ b1 := by have := hx.size; omega
  replace hp := hp.ext x2
  replace hT := hT.ext x2
  replace hx := hx.trans x2
  refine dp (pv_build (zs := [.int .i64 0, S [], S [], .slice none 0 0, .slice none 0 0]) (pl := [(0, 1), (1, 1), (2, 1), (3, 1), (4, 1)]) (pv := [(0, ?a7_0), (4, ?a7_1)]) (cs := [?a7_0, S [], S [], .slice none 0 0, ?a7_1]) (by kernel_rfl) (by kernel_rfl) ?h7 ?f7) ?k7
  case h7 => refine ⟨rfl, ?_, rfl, ?_, trivial⟩ <;> (conv => lhs; whnf)
  case f7 => rfl
  refine D_callP rfl (by kernel_rfl) (PlanN_w _ (.slice (some ⟨b1, 0, none⟩) 1 1) _ (m1.arr (enc := FilV.cs) (sz := 5) (l := [(⟨I 7, S [99, 110], S [], .slice none 0 0, .slice none 0 0⟩ : FilV)]) rfl (by intro x; rfl) rfl (by simp))) rfl RX.all (fun w3 x3 => ?_)
  replace hp := hp.ext x3
  replace hT := hT.ext x3
  replace m1 := m1.ext x3
  replace hx := hx.trans x3
  refine dm ?_
  refine dp (pv_ext rfl rfl) ?_
  refine dp (pv_ext rfl rfl) ?_
  iterate 2 refine da ?_
  refine D_end (hK5 _ _ ?_)
  refine W_seq fun K6 hK6 => ?_
  refine wr ?_
  refine dm ?_
  refine dp (pv_nilP rfl) ?_
  refine dp (pv_fieldA (k := 0) (by kernel_rfl) rfl) ?_
  refine dq (lv_load (by kernel_rfl) rfl (hp.at rfl)) ?_
  refine dp (pv_build (zs := [.int .i64 0, S [], S [], .slice none 0 0, .slice none 0 0]) (pl := [(0, 1), (1, 1), (2, 1), (3, 1), (4, 1)]) (pv := [(0, ?a12_0), (1, ?a12_1)]) (cs := [?a12_0, ?a12_1, S [], .slice none 0 0, .slice none 0 0]) (by kernel_rfl) (by kernel_rfl) ?h12 ?f12) ?k12
  case h12 => refine ⟨rfl, ?_, rfl, ?_, trivial⟩ <;> (conv => lhs; whnf)
  case f12 => rfl
  refine D_callP rfl (by kernel_rfl) (PlanP_w bt bs bd bl mo bm ba bn mf room vs _ hT) rfl RX.all (fun w4 x4 => ?_)
  replace hp := hp.ext x4
  replace hT := hT.ext x4
  replace m1 := m1.ext x4
  replace hx := hx.trans x4
  refine dm ?_
  refine dp (pv_ext rfl rfl) ?_
  refine dp (pv_ext rfl rfl) ?_
  iterate 2 refine da ?_
  refine D_end (hK6 _ _ ?_)
  refine W_seq fun K7 hK7 => ?_
  refine wr ?_
  refine dm ?_
  refine dp (pv_lenV (e := 9) (k := 1) (by kernel_rfl) (Arr.nil (enc := sEnc) (sz := 1) (w := w)).sl rfl) ?_
  refine dp (pv_eql rfl rfl) ?_
  refine dm ?_
  refine D_splitP 32 rfl (fun c2 => ?_) (fun c2 => ?_)
  ·
   refine dm ?_
   refine dn ?_
   refine dk' ?_
   iterate 2 refine dm ?_
   refine dp (pv_lenV (e := 9) (k := 1) (by kernel_rfl) (Arr.nil (enc := sEnc) (sz := 1) (w := w)).sl rfl) ?_
   refine dp (pv_eql rfl rfl) ?_
   refine dk' ?_
   refine dm ?_
   refine D_splitP 41 rfl (fun c3 => ?_) (fun c3 => ?_)
   ·
    refine dm ?_
    refine dk' ?_
    refine da ?_
    refine D_end (hK7 _ _ ?_)
    refine W_ret ?_
    try dsimp only [then', inBlk, noGo]
    refine ro ?_
    exact ⟨rfl, hx⟩
   ·
    exact absurd (by decide) c3
  ·
   exact absurd (by decide) c2

set_option maxRecDepth 100000 in
set_option maxHeartbeats 1000000 in
theorem law_nothing (sc : Int) (m : Nat) (c : FilV) (f : Flt) (w : World) (hf : FRep w m c f) (hok : okF 140737488355328 m f) (hone : ∀ v ∈ c.cs, v.oneCell' = true) :
  Calls Tryz.prog 3 [I sc, .agg ⟨c.cs⟩].toArray w (Pure w (B true)) := by
 refine calls_W Tryz.func3 rfl rfl rfl (by kernel_rfl) ?_
 have hx := Ext.refl w
 refine W_seq fun K1 hK1 => ?_
 refine wr ?_
 refine D_box rfl rfl rfl RX.all (fun b1 w1 e1 x1 m1 => ?_)
 have g1 : w.heap.size ≤ b1 := by have := hx.size; omega
 replace hx := hx.trans x1
 refine da ?_
 refine D_end (hK1 _ _ ?_)
 refine W_seq fun K2 hK2 => ?_
 refine W_seq fun K3 hK3 => ?_
 refine wr ?_
 refine dq (lv_loadA (k := 5) (by kernel_rfl) rfl rfl m1.row) ?_
 refine D_callG rfl (by kernel_rfl) (heavy_all m c f w hf hok _ 400 hx (by omega) (by omega)) rfl RX.all (fun u2 w2 x2 hh2 => ?_)
 have hsz2 := hx.size
 replace m1 := m1.ext x2
 replace hx := hx.trans x2
 obtain ⟨r, rfl, hr1, hr2, -⟩ := hh2
 refine dp (pv_lss rfl rfl) ?_
 refine D_end (hK3 _ _ ?_)
 refine W_if rfl (fun c1 => ?_) (fun c1 => ?_)
 ·
  refine W_seq fun K4 hK4 => ?_
  refine wr ?_
  refine da ?_
  refine D_end (hK4 _ _ ?_)
  refine W_ret ?_
  try dsimp only [then', inBlk, noGo]
  refine ro ?_
  exact ⟨rfl, hx⟩
 ·
  refine W_skip ?_
  refine hK2 _ _ ?_
  refine W_seq fun K5 hK5 => ?_
  refine W_draw (R := Ext) Ext.refl (fun _ _ _ => Ext.trans) (by kernel_rfl) [2] [(1, .p, false), (2, .l, false), (0, .x, false), (3, .x, true), (4, .p, false), (5, .p, false), (6, .p, false), (7, .p, false), (8, .p, false)] rfl (by kernel_rfl) (by kernel_rfl) (fun w3 ew3 => ?_)
  have x3 : Ext w2 w3 := by rw [ew3]; exact Ext.drew _
  clear ew3
  replace m1 := m1.ext x3
  replace hx := hx.trans x3
  refine dm ?_
  refine D_l rfl (fun w' hR => lv_loadA (k := 5) (by kernel_rfl) rfl rfl (m1.ext hR).row) ?_
  refine D_callG rfl (by kernel_rfl) (suffix_w _) rfl RX.ext (fun u4 w4 x4 hs4 => ?_)
  have hsz4 := hx.size
  replace m1 := m1.ext x4
  replace hx := hx.trans x4
  obtain ⟨b4, rfl, hv⟩ := hs4
  refine D_callP rfl (by kernel_rfl) (findNil_w b4 sc c _ hv hone) rfl RX.all (fun w5 x5 => ?_)
  replace m1 := m1.ext x5
  replace hv := hv.ext x5
  replace hx := hx.trans x5
  refine dm ?_
  refine dp (pv_ext rfl rfl) ?_
  refine dp (pv_ext rfl rfl) ?_
  iterate 2 refine da ?_
  refine D_end (hK5 _ _ ?_)
  refine W_seq fun K6 hK6 => ?_
  refine wr ?_
  refine dm ?_
  refine dp (pv_lenV (e := 39) (k := 2) (by kernel_rfl) (Arr.nil (enc := fun x : List Value => x) (sz := 2) (w := w)).sl rfl) ?_
  refine dp (pv_eql rfl rfl) ?_
  refine dm ?_
  refine D_splitP 20 rfl (fun c2 => ?_) (fun c2 => ?_)
  ·
   refine dm ?_
   refine dp (pv_eql rfl rfl) ?_
   refine dk' ?_
   refine dm ?_
   refine D_splitP 24 rfl (fun c3 => ?_) (fun c3 => ?_)
   ·
    refine D_callP rfl (by kernel_rfl) (known23_w _) rfl RX.all (fun w6 x6 => ?_)
    replace m1 := m1.ext x6
    replace hv := hv.ext x6
    replace hx := hx.trans x6
    refine dk' ?_
    refine da ?_
    refine D_end (hK6 _ _ ?_)
    refine W_ret ?_
    try dsimp only [then', inBlk, noGo]
    refine ro ?_
    exact ⟨rfl, hx⟩
   ·
    exact absurd rfl c3
  ·
   exact absurd (by decide) c2

theorem FRep.one {w : World} {n : Nat} {c : FilV} {f : Flt} (h : FRep w n c f) : ∀ v ∈ c.cs, v.oneCell' = true := by
  cases n with
  | zero => exact h.elim
  | succ n =>
    obtain ⟨k, t, v, subs, kids⟩ := f
    obtain ⟨e1, e2, e3, hs, _, l, hk, _⟩ := h
    intro x hx
    simp only [FilV.cs, List.mem_cons, List.not_mem_nil, or_false] at hx
    rcases hx with rfl | rfl | rfl | rfl | rfl
    · rw [e1]; rfl
    · rw [e2]; rfl
    · rw [e3]; rfl
    · exact hs.sl.one
    · exact hk.sl.one

/-- Nothing is asked of the library's variables here. -/
def GV (_ : World) : Prop := True
theorem GV.of_row {L : List (String × DataW Unit)} {w : World} (_ : w.ShapedOpen Tryz.prog) (_ : laidMet Tryz.prog L w) : GV w := trivial

end Go.Proofs.YteninjhmmjkckaaGreatDoor
