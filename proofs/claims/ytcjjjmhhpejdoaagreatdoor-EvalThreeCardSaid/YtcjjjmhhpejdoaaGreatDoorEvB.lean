/-
  Walks.
-/
import Derived.Test.YtcjjjmhhpejdoaaGreatDoorChecked
import Derived.Test.YtcjjjmhhpejdoaaGreatDoorSpMem
import Derived.KernelRfl
import Derived.Test.YtcjjjmhhpejdoaaGreatDoorEvA
import Derived.Test.YtcjjjmhhpejdoaaGreatDoorScB
import Derived.Test.YtcjjjmhhpejdoaaGreatDoorIkA
namespace Go.Proofs.YtcjjjmhhpejdoaaGreatDoor
open Go.Vc Go.Sp
attribute [local irreducible] W XW Dw DwT
set_option linter.unusedVariables false
set_option linter.unusedSimpArgs false

/-- A filter where it lies. -/
structure FilV where
  k : Value
  t : Value
  v : Value
  s : Value
  c : Value
@[reducible] def FilV.cs (f : FilV) : List Value := [f.k, f.t, f.v, f.s, f.c]

set_option maxRecDepth 100000 in
set_option maxHeartbeats 1000000 in
theorem itemU_w (kd : Int) (typ val : Str) (v3 v4 vv : Value) (w : World) (ht : typ.length ≤ 1000000) (hok : tOk typ = false) :
  Calls Tryz.prog 44 [.agg ⟨[I kd, S typ, S val, v3, v4]⟩, vv].toArray w (Pure w (I 2)) := by
 refine calls_W Tryz.func44 rfl rfl rfl (by kernel_rfl) ?_
 have hx := Ext.refl w
 refine W_seq fun K1 hK1 => ?_
 refine wr ?_
 refine D_box rfl rfl rfl RX.all (fun b1 w1 e1 x1 m1 => ?_)
 have g1 : w.heap.size ≤ b1 := by have := hx.size; omega
 replace hx := hx.trans x1
 refine da ?_
 refine D_end (hK1 _ _ ?_)
 refine W_seq fun K2 hK2 => ?_
 refine wr ?_
 refine dp (pv_fieldA (k := 1) (by kernel_rfl) rfl) ?_
 refine dq (lv_load (by kernel_rfl) rfl (m1.at rfl)) ?_
 refine D_callP rfl (by kernel_rfl) (typeT_w typ _ ht) rfl RX.all (fun w2 x2 => ?_)
 replace m1 := m1.ext x2
 replace hx := hx.trans x2
 refine dm ?_
 refine dp (pv_ext rfl rfl) ?_
 refine dp (pv_ext rfl rfl) ?_
 refine dp (pv_ext rfl rfl) ?_
 refine dp (pv_ext rfl rfl) ?_
 refine D_alloc (cs := [.int .i64 0]) rfl (by kernel_rfl) RX.all (fun b2 w3 e2 x3 m2 => ?_)
 have g2 : w.heap.size ≤ b2 := by have := hx.size; omega
 have n2_1 : b1 < b2 := by have := m1.lt; omega
 replace m1 := m1.ext x3
 replace hx := hx.trans x3
 refine da ?_
 refine D_store1 (v := ?v4) rfl rfl ?h4 ?n4 (by kernel_rfl) m2 ?o4 (.inl rfl) (fun w4 x4 xs4 m2 => ?k4)
 case h4 => conv => lhs; whnf
 case n4 => first | rfl | exact isSl.one m1.sl
 case o4 => exact Nat.le_of_ble_eq_true rfl
 try dsimp only [setAt, List.set, List.take, List.drop] at m2
 try replace m1 := m1.mod x4 (by first | assumption | (intro k hk h; have h1 := (m1.lt k hk).1; have h2 : k = b2 := h; omega) | (intro k hk h; have h1 := o2_m1 k hk; have h2 : k = b2 := h; omega) | (intro h; have h2 : _ = b2 := h; omega) | (intro hl h; have h1 := a2_m1 hl; have h2 : _ = b2 := h; omega))
 replace hx := hx.own x4 (by intro i hi; have hi2 : i = b2 := hi; subst hi2; omega)
 iterate 2 refine da ?_
 refine D_end (hK2 _ _ ?_)
 refine W_seq fun K3 hK3 => ?_
 refine W_seq fun K4 hK4 => ?_
 refine wr ?_
 refine dm ?_
 refine dn ?_
 refine D_end (hK4 _ _ ?_)
 refine W_cond rfl (fun c1 => ?_) (fun c1 => ?_)
 ·
  refine W_seq fun K5 hK5 => ?_
  refine wr ?_
  refine da ?_
  refine D_end (hK5 _ _ ?_)
  refine W_ret ?_
  try dsimp only [then', inBlk, noGo]
  refine ro ?_
  exact ⟨rfl, hx⟩
 ·
  simp [hok] at c1

set_option maxRecDepth 100000 in
set_option maxHeartbeats 1000000 in
theorem evalU_w (typ val : Str) (w : World) (ht : typ.length ≤ 1000000) (hok : tOk typ = false) :
  Calls Tryz.prog 84 [.agg ⟨[I 3, S typ, S val, .slice none 0 0, .slice none 0 0]⟩, .agg ⟨[.slice none 0 0, .slice none 0 0]⟩].toArray w (Pure w (I 2)) := by
 refine calls_W Tryz.func84 rfl rfl rfl (by kernel_rfl) ?_
 have hx := Ext.refl w
 refine W_seq fun K1 hK1 => ?_
 refine wr ?_
 refine D_box rfl rfl rfl RX.all (fun b1 w1 e1 x1 m1 => ?_)
 have g1 : w.heap.size ≤ b1 := by have := hx.size; omega
 replace hx := hx.trans x1
 refine D_box rfl rfl rfl RX.all (fun b2 w2 e2 x2 m2 => ?_)
 have g2 : w.heap.size ≤ b2 := by have := hx.size; omega
 have n2_1 : b1 < b2 := by have := m1.lt; omega
 replace m1 := m1.ext x2
 replace hx := hx.trans x2
 refine da ?_
 refine D_end (hK1 _ _ ?_)
 refine W_seq fun K2 hK2 => ?_
 refine wr ?_
 refine da ?_
 refine D_end (hK2 _ _ ?_)
 refine W_seq fun K3 hK3 => ?_
 refine W_seq fun K4 hK4 => ?_
 refine wr ?_
 refine dp (pv_fieldA (k := 4) (by kernel_rfl) rfl) ?_
 refine dq (lv_load (by kernel_rfl) rfl (m1.at rfl)) ?_
 refine dp (pv_lenV (e := 57) (k := 5) (by kernel_rfl) (Arr.nil (enc := FilV.cs) (sz := 5) (w := w)).sl rfl) ?_
 refine dm ?_
 refine D_end (hK4 _ _ ?_)
 refine W_block ?_
 refine W_loop (G := Unit) (fun uu => [(2, ptr b1 0), (3, ptr b2 0), (4, I 0), (12, .slice none 0 0), (13, I 0), (14, I 0)]) (fun uu w' => Ext w w' ∧ Blk w' b1 [I 3, S typ, S val, .slice none 0 0, .slice none 0 0] 57 ∧ Blk w' b2 [.slice none 0 0, .slice none 0 0] 31 ∧ True) (fun uu => 0) () ?_ ?_ ?_
 ·
  exact ⟨rfl, rfl, rfl, rfl, rfl, rfl, trivial⟩
 ·
  exact ⟨hx, m1, m2, trivial⟩
 ·
  intro X3 g3 w3 hF3
  revert hF3; revert g3; intro uu hF3
  clear hx m1 m2
  obtain ⟨hx, m1, m2, htr⟩ := hF3
  refine W_seq fun K5 hK5 => ?_
  refine wr ?_
  refine dp (pv_lss rfl rfl) ?_
  refine D_end (hK5 _ _ ?_)
  refine W_seq fun K6 hK6 => ?_
  refine W_if rfl (fun c1 => ?_) (fun c1 => ?_)
  ·
   exact absurd c1 (by decide)
  ·
   refine W_exit ?_
   refine hK3 _ _ ?_
   refine W_seq fun K7 hK7 => ?_
   refine W_seq fun K8 hK8 => ?_
   refine wr ?_
   refine dp (pv_fieldA (k := 0) (by kernel_rfl) rfl) ?_
   refine dq (lv_load (by kernel_rfl) rfl (m1.at rfl)) ?_
   refine D_end (hK8 _ _ ?_)
   refine W_block ?_
   refine W_seq fun K9 hK9 => ?_
   refine wr ?_
   refine dp (pv_eql rfl rfl) ?_
   refine da ?_
   refine D_end (hK9 _ _ ?_)
   refine W_if rfl (fun c2 => ?_) (fun c2 => ?_)
   ·
    exact absurd c2 (by decide)
   ·
    refine W_seq fun K10 hK10 => ?_
    refine wr ?_
    refine dp (pv_eql rfl rfl) ?_
    refine da ?_
    refine D_end (hK10 _ _ ?_)
    refine W_if rfl (fun c3 => ?_) (fun c3 => ?_)
    ·
     exact absurd c3 (by decide)
    ·
     refine W_seq fun K11 hK11 => ?_
     refine wr ?_
     refine dp (pv_eql rfl rfl) ?_
     refine da ?_
     refine D_end (hK11 _ _ ?_)
     refine W_if rfl (fun c4 => ?_) (fun c4 => ?_)
     ·
      exact absurd c4 (by decide)
     ·
      refine W_skip ?_
      refine hK7 _ _ ?_
      refine W_seq fun K12 hK12 => ?_
      refine wr ?_
      refine da ?_
      refine D_end (hK12 _ _ ?_)
      refine W_seq fun K13 hK13 => ?_
      refine W_seq fun K14 hK14 => ?_
      refine wr ?_
      refine dp (pv_fieldA (k := 1) (by kernel_rfl) rfl) ?_
      refine dq (lv_load (by kernel_rfl) rfl (m2.at rfl)) ?_
      refine dp (pv_lenV (e := 41) (k := 2) (by kernel_rfl) (Arr.nil (enc := AttrV.cs) (sz := 2) (w := w)).sl rfl) ?_
      refine dm ?_
      refine D_end (hK14 _ _ ?_)
      refine W_block ?_
      refine W_loop (G := Unit) (fun uu => [(2, ptr b1 0), (4, I 0), (42, .slice none 0 0), (43, I 0), (44, I 0)]) (fun uu w' => Ext w w' ∧ Blk w' b1 [I 3, S typ, S val, .slice none 0 0, .slice none 0 0] 57 ∧ Blk w' b2 [.slice none 0 0, .slice none 0 0] 31 ∧ True) (fun uu => 0) () ?_ ?_ ?_
      ·
       exact ⟨rfl, rfl, rfl, rfl, rfl, trivial⟩
      ·
       exact ⟨hx, m1, m2, trivial⟩
      ·
       intro X4 g4 w4 hF4
       revert hF4; revert g4; intro uu hF4
       clear hx m1 m2
       obtain ⟨hx, m1, m2, htr⟩ := hF4
       refine W_seq fun K15 hK15 => ?_
       refine wr ?_
       refine dp (pv_lss rfl rfl) ?_
       refine D_end (hK15 _ _ ?_)
       refine W_seq fun K16 hK16 => ?_
       refine W_if rfl (fun c5 => ?_) (fun c5 => ?_)
       ·
        exact absurd c5 (by decide)
       ·
        refine W_exit ?_
        refine hK13 _ _ ?_
        refine W_seq fun K17 hK17 => ?_
        refine wr ?_
        refine dq (lv_loadA (k := 5) (by kernel_rfl) rfl rfl m1.row) ?_
        refine dm ?_
        refine D_callP rfl (by kernel_rfl) (itemU_w 3 typ val _ _ _ _ ht hok) rfl RX.all (fun w5 x5 => ?_)
        replace m1 := m1.ext x5
        replace m2 := m2.ext x5
        replace hx := hx.trans x5
        refine da ?_
        refine D_end (hK17 _ _ ?_)
        refine W_ret ?_
        try dsimp only [then', inBlk, noGo]
        refine ro ?_
        exact ⟨rfl, hx⟩

set_option maxRecDepth 100000 in
set_option maxHeartbeats 1000000 in
theorem evalN_w (typ val : Str) (vk : Value) (w : World) (hk0 : Arr FilV.cs 5 w vk [(⟨I 3, S typ, S val, .slice none 0 0, .slice none 0 0⟩ : FilV)]) (ht : typ.length ≤ 1000000) (hok : tOk typ = false) :
  Calls Tryz.prog 84 [.agg ⟨[I 2, S [], S [], .slice none 0 0, vk]⟩, .agg ⟨[.slice none 0 0, .slice none 0 0]⟩].toArray w (Pure w (I 2)) := by
 refine calls_W Tryz.func84 rfl rfl rfl (by kernel_rfl) ?_
 have hx := Ext.refl w
 refine W_seq fun K1 hK1 => ?_
 refine wr ?_
 refine D_box rfl rfl rfl RX.all (fun b1 w1 e1 x1 m1 => ?_)
 have g1 : w.heap.size ≤ b1 := by have := hx.size; omega
 replace hx := hx.trans x1
 refine D_box rfl rfl rfl RX.all (fun b2 w2 e2 x2 m2 => ?_)
 have g2 : w.heap.size ≤ b2 := by have := hx.size; omega
 have n2_1 : b1 < b2 := by have := m1.lt; omega
 replace m1 := m1.ext x2
 replace hx := hx.trans x2
 refine da ?_
 refine D_end (hK1 _ _ ?_)
 refine W_seq fun K2 hK2 => ?_
 refine wr ?_
 refine da ?_
 refine D_end (hK2 _ _ ?_)
 refine W_seq fun K3 hK3 => ?_
 refine W_seq fun K4 hK4 => ?_
 refine wr ?_
 refine dp (pv_fieldA (k := 4) (by kernel_rfl) rfl) ?_
 refine dq (lv_load (by kernel_rfl) rfl (m1.at rfl)) ?_
 refine dp (pv_lenV (e := 57) (k := 5) (by kernel_rfl) hk0.sl rfl) ?_
 refine dm ?_
 refine D_end (hK4 _ _ ?_)
 refine W_block ?_
 refine W_loop (G := Nat × Value) (fun (k, vl) => [(2, ptr b1 0), (3, ptr b2 0), (4, I 0), (5, vl), (12, vk), (13, I ↑1), (14, I ↑k)]) (fun (k, vl) w' => Ext w w' ∧ Blk w' b1 [I 2, S [], S [], .slice none 0 0, vk] 57 ∧ Blk w' b2 [.slice none 0 0, .slice none 0 0] 31 ∧ k ≤ 1 ∧ Vc.Own Vc.encI 1 3 w.heap.size w' vl (List.replicate k 2)) (fun (k, vl) => 1 - k) (0, .slice none 0 0) ?_ ?_ ?_
 ·
  exact ⟨rfl, rfl, rfl, rfl, rfl, rfl, rfl, trivial⟩
 ·
  exact ⟨hx, m1, m2, Nat.zero_le _, Vc.Own.nil⟩
 ·
  intro X3 g3 w3 hF3
  obtain ⟨k, vl⟩ := g3
  clear hx m1 m2
  obtain ⟨hx, m1, m2, hk1, ho⟩ := hF3
  refine W_seq fun K5 hK5 => ?_
  refine wr ?_
  refine dp (pv_lss rfl rfl) ?_
  refine D_end (hK5 _ _ ?_)
  refine W_seq fun K6 hK6 => ?_
  refine W_if rfl (fun c1 => ?_) (fun c1 => ?_)
  ·
   have hk : [(⟨I 3, S typ, S val, .slice none 0 0, .slice none 0 0⟩ : FilV)][k]? = some (⟨I 3, S typ, S val, .slice none 0 0, .slice none 0 0⟩ : FilV) := by
    have e : k = 0 := by omega
    subst e; rfl
   refine W_skip ?_
   refine hK6 _ _ ?_
   refine W_seq fun K7 hK7 => ?_
   refine W_block ?_
   refine W_seq fun K8 hK8 => ?_
   refine wr ?_
   refine dp (pv_idxA (e := 57) (k := 5) (by kernel_rfl) hk0.sl rfl rfl (hk0.lt hk)) ?_
   refine dq (lv_loadA (by kernel_rfl) rfl rfl ((hk0.ext hx).row hk)) ?_
   refine D_alloc (cs := [.int .i64 0, S [], S [], .slice none 0 0, .slice none 0 0]) rfl (by kernel_rfl) RX.all (fun b3 w4 e3 x4 m3 => ?_)
   have g3 : w.heap.size ≤ b3 := by have := hx.size; omega
   have n3_1 : b1 < b3 := by have := m1.lt; omega
   have n3_2 : b2 < b3 := by have := m2.lt; omega
   have o3_ho : ∀ k, Value.ownBlock _ = some k → k < b3 := fun k hk => by have := (ho.lt k hk).2; omega
   replace m1 := m1.ext x4
   replace m2 := m2.ext x4
   replace ho := ho.ext x4
   replace hx := hx.trans x4
   refine D_store (v := ?v4) (vs := ?u4) rfl rfl ?h4 ?c4 ?s4 m3 ?o4 ?n4 (.inl rfl) (fun w5 x5 xs5 m3 => ?k4)
   case h4 => conv => lhs; whnf
   case c4 => exact rfl
   case s4 => kernel_rfl
   case o4 => exact Nat.le_of_ble_eq_true rfl
   case n4 => simp [Value.oneCell']
   try dsimp only [setAt, List.set, List.take, List.drop] at m3
   try replace m1 := m1.mod x5 (by first | assumption | (intro k hk h; have h1 := (m1.lt k hk).1; have h2 : k = b3 := h; omega) | (intro k hk h; have h1 := o3_m1 k hk; have h2 : k = b3 := h; omega) | (intro h; have h2 : _ = b3 := h; omega) | (intro hl h; have h1 := a3_m1 hl; have h2 : _ = b3 := h; omega))
   try replace m2 := m2.mod x5 (by first | assumption | (intro k hk h; have h1 := (m2.lt k hk).1; have h2 : k = b3 := h; omega) | (intro k hk h; have h1 := o3_m2 k hk; have h2 : k = b3 := h; omega) | (intro h; have h2 : _ = b3 := h; omega) | (intro hl h; have h1 := a3_m2 hl; have h2 : _ = b3 := h; omega))
   try replace ho := ho.mod x5 (by first | assumption | (intro k hk h; have h1 := (ho.lt k hk).1; have h2 : k = b3 := h; omega) | (intro k hk h; have h1 := o3_ho k hk; have h2 : k = b3 := h; omega) | (intro h; have h2 : _ = b3 := h; omega) | (intro hl h; have h1 := a3_ho hl; have h2 : _ = b3 := h; omega))
   replace hx := hx.own x5 (by intro i hi; have hi2 : i = b3 := hi; subst hi2; omega)
   refine D_end (hK8 _ _ ?_)
   refine wr ?_
   refine dm ?_
   refine dq (lv_loadA (k := 5) (by kernel_rfl) rfl rfl m3.row) ?_
   refine dq (lv_loadA (k := 2) (by kernel_rfl) rfl rfl m2.row) ?_
   refine D_callP rfl (by kernel_rfl) (evalU_w typ val _ ht hok) rfl RX.all (fun w6 x6 => ?_)
   replace m1 := m1.ext x6
   replace m2 := m2.ext x6
   replace ho := ho.ext x6
   replace m3 := m3.ext x6
   replace hx := hx.trans x6
   refine D_lit (e := 3) (sz := 1) (zs := [.int .i64 0]) (pv := [(0, ?a6_0)]) (cs := [?a6_0]) rfl (by kernel_rfl) ⟨rfl, rfl⟩ (by kernel_rfl) rfl ?h6 ?f6 RX.all (fun b4 w7 e4 x7 m4 => ?k6)
   case h6 => refine ⟨rfl, ?_, trivial⟩ <;> (conv => lhs; whnf)
   case f6 => rfl
   have g4 : w.heap.size ≤ b4 := by have := hx.size; omega
   have n4_1 : b1 < b4 := by have := m1.lt; omega
   have n4_2 : b2 < b4 := by have := m2.lt; omega
   have n4_3 : b3 < b4 := by have := m3.lt; omega
   have o4_ho : ∀ k, Value.ownBlock _ = some k → k < b4 := fun k hk => by have := (ho.lt k hk).2; omega
   replace m1 := m1.ext x7
   replace m2 := m2.ext x7
   replace ho := ho.ext x7
   replace m3 := m3.ext x7
   replace hx := hx.trans x7
   refine D_append (lx := [2]) (e := 3) (sz := 1) (by' := 8) rfl (by kernel_rfl) (by kernel_rfl) (by intro x; rfl) ho (m4.arr (enc := Vc.encI) (sz := 1) (l := [2]) rfl (by intro x; rfl) rfl (Nat.le_of_ble_eq_true rfl)) rfl rfl (by intro x _ u hu; simp at hu; rcases hu with rfl <;> rfl) (by simp; omega) (by decide) hx.size (.inl rfl) (fun vl2 w8 ho_n x8 => ?_)
   try replace m1 := m1.mod x8 (by first | (intro h; have h2 : b1 = b1 := Option.some.inj h; omega) | (intro h; have h1 := (ho.lt _ h).1; omega) | (intro h; have h1 := o1_ho _ h; omega) | (intro h; exact ho.ne_blk m1 rfl h))
   try replace m2 := m2.mod x8 (by first | (intro h; have h2 : b2 = b2 := Option.some.inj h; omega) | (intro h; have h1 := (ho.lt _ h).1; omega) | (intro h; have h1 := o2_ho _ h; omega) | (intro h; exact ho.ne_blk m2 rfl h))
   try replace m3 := m3.mod x8 (by first | (intro h; have h2 : b3 = b3 := Option.some.inj h; omega) | (intro h; have h1 := (ho.lt _ h).1; omega) | (intro h; have h1 := o3_ho _ h; omega) | (intro h; exact ho.ne_blk m3 rfl h))
   replace hx := hx.own x8 (fun i hi => (ho.lt i hi).1)
   replace ho := ho_n
   clear m4
   refine da ?_
   refine D_end (hK7 _ _ ?_)
   refine wr ?_
   refine dp (pv_add rfl rfl (by unfold inI64; omega)) ?_
   refine dm ?_
   refine D_end (?_)
   refine ⟨(k + 1, vl2), ⟨rfl, rfl, rfl, rfl, rfl, rfl, rfl, trivial⟩, ⟨hx, m1, m2, by omega, ?_⟩, by simp only []; omega⟩
   rw [List.replicate_succ']; exact ho
  ·
   have e1 : k = 1 := by omega
   subst e1
   refine W_exit ?_
   refine hK3 _ _ ?_
   refine W_seq fun K9 hK9 => ?_
   refine W_seq fun K10 hK10 => ?_
   refine wr ?_
   refine dp (pv_fieldA (k := 0) (by kernel_rfl) rfl) ?_
   refine dq (lv_load (by kernel_rfl) rfl (m1.at rfl)) ?_
   refine D_end (hK10 _ _ ?_)
   refine W_block ?_
   refine W_seq fun K11 hK11 => ?_
   refine wr ?_
   refine dp (pv_eql rfl rfl) ?_
   refine da ?_
   refine D_end (hK11 _ _ ?_)
   refine W_if rfl (fun c2 => ?_) (fun c2 => ?_)
   ·
    exact absurd c2 (by decide)
   ·
    refine W_seq fun K12 hK12 => ?_
    refine wr ?_
    refine dp (pv_eql rfl rfl) ?_
    refine da ?_
    refine D_end (hK12 _ _ ?_)
    refine W_if rfl (fun c3 => ?_) (fun c3 => ?_)
    ·
     exact absurd c3 (by decide)
    ·
     refine W_seq fun K13 hK13 => ?_
     refine wr ?_
     refine dp (pv_eql rfl rfl) ?_
     refine da ?_
     refine D_end (hK13 _ _ ?_)
     refine W_if rfl (fun c4 => ?_) (fun c4 => ?_)
     ·
      refine W_seq fun K14 hK14 => ?_
      refine wr ?_
      refine dm ?_
      refine dp (pv_idxA (i := 0) (e := 3) (k := 1) (by kernel_rfl) (ho.arr (by intro x; rfl)).sl rfl rfl (by simp)) ?_
      refine dq (lv_load (by kernel_rfl) rfl (((ho.arr (by intro x; rfl)).row (show (List.replicate 1 (2 : Int))[0]? = some 2 from rfl)).at0 rfl)) ?_
      refine D_callP rfl (by kernel_rfl) (not3_w 2 _) rfl RX.all (fun w9 x9 => ?_)
      replace m1 := m1.ext x9
      replace m2 := m2.ext x9
      replace ho := ho.ext x9
      replace hx := hx.trans x9
      refine da ?_
      refine D_end (hK14 _ _ ?_)
      refine W_ret ?_
      try dsimp only [then', inBlk, noGo]
      refine ro ?_
      exact ⟨rfl, hx⟩
     ·
      exact absurd rfl c4

set_option maxRecDepth 100000 in
set_option maxHeartbeats 1000000 in
theorem indexF0_w (f : Value) (w : World) :
  Calls Tryz.prog 206 [.slice none 0 0, f].toArray w (Pure w (I (-1))) := by
 refine calls_W Tryz.func206 rfl rfl rfl (by kernel_rfl) ?_
 have hx := Ext.refl w
 refine W_seq fun K1 hK1 => ?_
 refine wr ?_
 refine da ?_
 refine D_end (hK1 _ _ ?_)
 refine W_seq fun K2 hK2 => ?_
 refine W_seq fun K3 hK3 => ?_
 refine wr ?_
 refine dm ?_
 refine dp (pv_lenV (e := 57) (k := 5) (by kernel_rfl) (Arr.nil (enc := FilV.cs) (sz := 5) (w := w)).sl rfl) ?_
 refine dm ?_
 refine D_end (hK3 _ _ ?_)
 refine W_block ?_
 refine W_loop (G := Unit) (fun uu => [(0, .slice none 0 0), (1, f), (7, I 0), (8, I 0)]) (fun uu w' => Ext w w' ∧ True) (fun uu => 0) () ?_ ?_ ?_
 ·
  exact ⟨rfl, rfl, rfl, rfl, trivial⟩
 ·
  exact ⟨hx, trivial⟩
 ·
  intro X1 g1 w1 hF1
  revert hF1; revert g1; intro uu hF1
  clear hx
  obtain ⟨hx, htr⟩ := hF1
  refine W_seq fun K4 hK4 => ?_
  refine wr ?_
  refine dp (pv_lss rfl rfl) ?_
  refine D_end (hK4 _ _ ?_)
  refine W_seq fun K5 hK5 => ?_
  refine W_if rfl (fun c1 => ?_) (fun c1 => ?_)
  ·
   exact absurd c1 (by decide)
  ·
   refine W_exit ?_
   refine hK2 _ _ ?_
   refine W_seq fun K6 hK6 => ?_
   refine wr ?_
   refine da ?_
   refine D_end (hK6 _ _ ?_)
   refine W_ret ?_
   try dsimp only [then', inBlk, noGo]
   refine ro ?_
   exact ⟨rfl, hx⟩

set_option maxRecDepth 100000 in
set_option maxHeartbeats 1000000 in
theorem contF0_w (f : Value) (w : World) :
  Calls Tryz.prog 164 [.slice none 0 0, f].toArray w (Pure w (B false)) := by
 refine calls_W Tryz.func164 rfl rfl rfl (by kernel_rfl) ?_
 have hx := Ext.refl w
 refine W_seq fun K1 hK1 => ?_
 refine wr ?_
 refine da ?_
 refine D_end (hK1 _ _ ?_)
 refine W_seq fun K2 hK2 => ?_
 refine wr ?_
 iterate 2 refine dm ?_
 refine D_callP rfl (by kernel_rfl) (indexF0_w f _) rfl RX.all (fun w1 x1 => ?_)
 replace hx := hx.trans x1
 refine dp (pv_geq rfl rfl) ?_
 refine da ?_
 refine D_end (hK2 _ _ ?_)
 refine W_ret ?_
 try dsimp only [then', inBlk, noGo]
 refine ro ?_
 exact ⟨rfl, hx⟩

set_option maxRecDepth 100000 in
set_option maxHeartbeats 1000000 in
theorem mayU_w (typ val : Str) (n m : Int) (bl : Nat) (w : World) (hL : Blk w bl [I m] 3) (ht : typ.length ≤ 1000000) (htt : typeS typ = true) (hvl : val.length ≤ 256) (hn : n < 16) (hm : 1 ≤ m) (hm2 : m ≤ 1000) :
  Calls Tryz.prog 123 [.agg ⟨[I 3, S typ, S val, .slice none 0 0, .slice none 0 0]⟩, I n, ptr bl 0].toArray w (Does (oneB bl) w (fun u w' => u = B true ∧ Blk w' bl [I (m - 1)] 3)) := by
 refine calls_W Tryz.func123 rfl rfl rfl (by kernel_rfl) ?_
 have hx := Ext.refl w
 have hbl := hL.lt
 refine W_seq fun K1 hK1 => ?_
 refine wr ?_
 refine D_box rfl rfl rfl RX.all (fun b1 w1 e1 x1 m1 => ?_)
 have g1 : w.heap.size ≤ b1 := by have := hx.size; omega
 replace hx := hx.trans x1
 refine D_box rfl rfl rfl RX.all (fun b2 w2 e2 x2 m2 => ?_)
 have g2 : w.heap.size ≤ b2 := by have := hx.size; omega
 have n2_1 : b1 < b2 := by have := m1.lt; omega
 replace m1 := m1.ext x2
 replace hx := hx.trans x2
 refine D_box rfl rfl rfl RX.all (fun b3 w3 e3 x3 m3 => ?_)
 have g3 : w.heap.size ≤ b3 := by have := hx.size; omega
 have n3_1 : b1 < b3 := by have := m1.lt; omega
 have n3_2 : b2 < b3 := by have := m2.lt; omega
 replace m1 := m1.ext x3
 replace m2 := m2.ext x3
 replace hx := hx.trans x3
 refine da ?_
 refine D_end (hK1 _ _ ?_)
 refine W_seq fun K2 hK2 => ?_
 refine W_seq fun K3 hK3 => ?_
 refine wr ?_
 refine dq (lv_load (by kernel_rfl) rfl (m3.at rfl)) ?_
 refine dp (pv_nilP rfl) ?_
 refine dq (lv_load (by kernel_rfl) rfl ((hL.ext hx).at rfl)) ?_
 refine dp (pv_sub rfl rfl (by unfold inI64; omega)) ?_
 refine dp (pv_nilP rfl) ?_
 refine D_store1 (v := ?v2) rfl rfl ?h2 ?n2 (by kernel_rfl) (hL.ext hx) ?o2 (.inl rfl) (fun w4 x4 xs4 hL => ?k2)
 case h2 => conv => lhs; whnf
 case n2 => first | rfl | exact isSl.one m1.sl | exact isSl.one m2.sl | exact isSl.one m3.sl | exact isSl.one (Arr.nil (enc := sEnc) (sz := 1) (w := w)).sl | exact isSl.one (Arr.nil (enc := FilV.cs) (sz := 5) (w := w)).sl
 case o2 => exact Nat.le_of_ble_eq_true rfl
 try dsimp only [setAt, List.set, List.take, List.drop] at hL
 try replace m1 := m1.mod x4 (by first | assumption | (intro k hk h; have h1 := (m1.lt k hk).1; have h2 : k = bl := h; omega) | (intro k hk h; have h1 := ol_m1 k hk; have h2 : k = bl := h; omega) | (intro h; have h2 : _ = bl := h; omega) | (intro hl h; have h1 := al_m1 hl; have h2 : _ = bl := h; omega))
 try replace m2 := m2.mod x4 (by first | assumption | (intro k hk h; have h1 := (m2.lt k hk).1; have h2 : k = bl := h; omega) | (intro k hk h; have h1 := ol_m2 k hk; have h2 : k = bl := h; omega) | (intro h; have h2 : _ = bl := h; omega) | (intro hl h; have h1 := al_m2 hl; have h2 : _ = bl := h; omega))
 try replace m3 := m3.mod x4 (by first | assumption | (intro k hk h; have h1 := (m3.lt k hk).1; have h2 : k = bl := h; omega) | (intro k hk h; have h1 := ol_m3 k hk; have h2 : k = bl := h; omega) | (intro h; have h2 : _ = bl := h; omega) | (intro hl h; have h1 := al_m3 hl; have h2 : _ = bl := h; omega))
 replace hx := (hx.mod x4).mono (fun i hi _ => (hi : (oneB bl) i))
 refine D_end (hK3 _ _ ?_)
 refine W_seq fun K4 hK4 => ?_
 refine wr ?_
 refine dq (lv_load (by kernel_rfl) rfl (m3.at rfl)) ?_
 refine dp (pv_nilP rfl) ?_
 refine dq (lv_load (by kernel_rfl) rfl (hL.at rfl)) ?_
 refine dp (pv_lss rfl rfl) ?_
 refine dm ?_
 refine D_splitP 20 rfl (fun c1 => ?_) (fun c1 => ?_)
 ·
  omega
 ·
  refine dq (lv_load (by kernel_rfl) rfl (m2.at rfl)) ?_
  refine dp (pv_geq rfl rfl) ?_
  refine dk' ?_
  refine D_end (hK4 _ _ ?_)
  refine W_if rfl (fun c2 => ?_) (fun c2 => ?_)
  ·
   omega
  ·
   refine W_skip ?_
   refine hK2 _ _ ?_
   refine W_seq fun K5 hK5 => ?_
   refine W_draw (R := Ext) Ext.refl (fun _ _ _ => Ext.trans) (by kernel_rfl) [1, 4, 7, 11] [(0, .p, false), (1, .l, false), (3, .p, false), (4, .l, false), (5, .p, false), (6, .p, false), (7, .l, false), (8, .p, false), (9, .p, false), (10, .p, false), (11, .l, false), (12, .p, false), (13, .p, false), (2, .x, false), (14, .p, false), (15, .p, false), (16, .p, false), (17, .p, false)] rfl (by kernel_rfl) (by kernel_rfl) (fun w5 ew5 => ?_)
   have x5 : Ext w4 w5 := by rw [ew5]; exact Ext.drew _
   clear ew5
   replace m1 := m1.ext x5
   replace m2 := m2.ext x5
   replace m3 := m3.ext x5
   replace hL := hL.ext x5
   replace hx := hx.ext x5
   refine dp (pv_fieldA (k := 1) (by kernel_rfl) rfl) ?_
   refine D_l rfl (fun w' hR => lv_load (by kernel_rfl) rfl ((m1.ext hR).at rfl)) ?_
   refine dp (pv_fieldA (k := 2) (by kernel_rfl) rfl) ?_
   refine D_l rfl (fun w' hR => lv_load (by kernel_rfl) rfl ((m1.ext hR).at rfl)) ?_
   refine dp (pv_seq rfl rfl) ?_
   refine dp (pv_fieldA (k := 3) (by kernel_rfl) rfl) ?_
   refine D_l rfl (fun w' hR => lv_load (by kernel_rfl) rfl ((m1.ext hR).at rfl)) ?_
   refine dp (pv_lenV (e := 9) (k := 1) (by kernel_rfl) (Arr.nil (enc := sEnc) (sz := 1) (w := w)).sl rfl) ?_
   refine dp (pv_eql rfl rfl) ?_
   refine dp (pv_fieldA (k := 4) (by kernel_rfl) rfl) ?_
   refine D_l rfl (fun w' hR => lv_load (by kernel_rfl) rfl ((m1.ext hR).at rfl)) ?_
   refine dp (pv_lenV (e := 57) (k := 5) (by kernel_rfl) (Arr.nil (enc := FilV.cs) (sz := 5) (w := w)).sl rfl) ?_
   refine dp (pv_eql rfl rfl) ?_
   refine D_callP rfl (by kernel_rfl) (type_w typ _) rfl RX.ext (fun w6 x6 => ?_)
   replace m1 := m1.ext x6
   replace m2 := m2.ext x6
   replace m3 := m3.ext x6
   replace hL := hL.ext x6
   replace hx := hx.ext x6
   iterate 4 refine da ?_
   refine D_end (hK5 _ _ ?_)
   refine W_seq fun K6 hK6 => ?_
   refine W_seq fun K7 hK7 => ?_
   refine wr ?_
   refine dp (pv_fieldA (k := 0) (by kernel_rfl) rfl) ?_
   refine dq (lv_load (by kernel_rfl) rfl (m1.at rfl)) ?_
   refine D_end (hK7 _ _ ?_)
   refine W_block ?_
   refine W_seq fun K8 hK8 => ?_
   refine W_seq fun K9 hK9 => ?_
   refine wr ?_
   refine dp (pv_eql rfl rfl) ?_
   refine da ?_
   refine D_end (hK9 _ _ ?_)
   refine W_if rfl (fun c3 => ?_) (fun c3 => ?_)
   ·
    exact absurd c3 (by decide)
   ·
    refine W_seq fun K10 hK10 => ?_
    refine wr ?_
    refine dp (pv_eql rfl rfl) ?_
    refine da ?_
    refine D_end (hK10 _ _ ?_)
    refine W_if rfl (fun c4 => ?_) (fun c4 => ?_)
    ·
     exact absurd c4 (by decide)
    ·
     refine wr ?_
     refine dp (pv_eql rfl rfl) ?_
     refine da ?_
     refine D_end (hK8 _ _ ?_)
     refine W_if rfl (fun c5 => ?_) (fun c5 => ?_)
     ·
      exact absurd c5 (by decide)
     ·
      refine W_seq fun K11 hK11 => ?_
      refine W_seq fun K12 hK12 => ?_
      refine wr ?_
      refine dp (pv_eql rfl rfl) ?_
      refine da ?_
      refine D_end (hK12 _ _ ?_)
      refine W_if rfl (fun c6 => ?_) (fun c6 => ?_)
      ·
       refine W_skip ?_
       refine hK11 _ _ ?_
       refine W_if rfl (fun c7 => ?_) (fun c7 => ?_)
       ·
        refine wr ?_
        refine dp (pv_fieldA (k := 2) (by kernel_rfl) rfl) ?_
        refine dq (lv_load (by kernel_rfl) rfl (m1.at rfl)) ?_
        refine dp (pv_lenS (by kernel_rfl) rfl) ?_
        refine dp (pv_leq rfl rfl) ?_
        refine da ?_
        refine D_end (hK6 _ _ ?_)
        refine W_seq fun K13 hK13 => ?_
        refine wr ?_
        iterate 2 refine dm ?_
        refine D_split 76 rfl (fun c8 => ?_) (fun c8 => ?_)
        ·
         refine dm ?_
         refine dk' ?_
         refine dm ?_
         refine D_splitP 79 rfl (fun c9 => ?_) (fun c9 => ?_)
         ·
          refine dm ?_
          refine dk' ?_
          refine dm ?_
          refine D_splitP 82 rfl (fun c10 => ?_) (fun c10 => ?_)
          ·
           refine dm ?_
           refine dk' ?_
           refine dm ?_
           refine D_splitP 85 rfl (fun c11 => ?_) (fun c11 => ?_)
           ·
            refine dp (pv_fieldA (k := 4) (by kernel_rfl) rfl) ?_
            refine dq (lv_load (by kernel_rfl) rfl (m1.at rfl)) ?_
            refine dp (pv_makeFunc rfl) ?_
            refine D_callP rfl (by kernel_rfl) (contF0_w _ _) rfl RX.all (fun w7 x7 => ?_)
            replace m1 := m1.ext x7
            replace m2 := m2.ext x7
            replace m3 := m3.ext x7
            replace hL := hL.ext x7
            replace hx := hx.ext x7
            refine dn ?_
            refine dk' ?_
            refine da ?_
            refine D_end (hK13 _ _ ?_)
            refine W_ret ?_
            try dsimp only [then', inBlk, noGo]
            refine ro ?_
            exact ⟨_, rfl, hx, rfl, hL⟩
           ·
            exact absurd rfl c11
          ·
           exact absurd rfl c10
         ·
          omega
        ·
         rw [htt] at c8; cases c8
       ·
        exact absurd rfl c7
      ·
       exact absurd rfl c6

set_option maxRecDepth 100000 in
set_option maxHeartbeats 1000000 in
theorem may1_w (typ val : Str) (n m : Int) (bl bn bp : Nat) (w : World) (hL : Blk w bl [I m] 3) (hN : Blk w bn [I n] 3) (hP : Blk w bp [ptr bl 0] 132) (ht : typ.length ≤ 1000000) (htt : typeS typ = true) (hvl : val.length ≤ 256) (hn : n < 15) (hn2 : 0 ≤ n) (hm : 1 ≤ m) (hm2 : m ≤ 1000) :
  Calls Tryz.prog 165 [.agg ⟨[I 3, S typ, S val, .slice none 0 0, .slice none 0 0]⟩, ptr bn 0, ptr bp 0].toArray w (Does (oneB bl) w (fun u w' => u = B false ∧ Blk w' bl [I (m - 1)] 3)) := by
 refine calls_W Tryz.func165 rfl rfl rfl (by kernel_rfl) ?_
 have hx := Ext.refl w
 have hbl := hL.lt
 refine W_seq fun K1 hK1 => ?_
 refine wr ?_
 refine D_box rfl rfl rfl RX.all (fun b1 w1 e1 x1 m1 => ?_)
 have g1 : w.heap.size ≤ b1 := by have := hx.size; omega
 replace hx := hx.trans x1
 refine da ?_
 refine D_end (hK1 _ _ ?_)
 refine W_seq fun K2 hK2 => ?_
 refine wr ?_
 refine dq (lv_loadA (k := 5) (by kernel_rfl) rfl rfl m1.row) ?_
 refine dq (lv_load (by kernel_rfl) rfl ((hN.ext hx).at rfl)) ?_
 refine dp (pv_add rfl rfl (by unfold inI64; omega)) ?_
 refine dq (lv_load (by kernel_rfl) rfl ((hP.ext hx).at rfl)) ?_
 refine D_callD rfl (by kernel_rfl) (mayU_w typ val (n + 1) m bl _ (hL.ext hx) ht htt hvl (by omega) hm hm2) rfl (.inl rfl) (fun u2 w2 x2 hf2 => ?_)
 have hsz2 := hx.size
 replace m1 := m1.mod x2 (by intro h; have h2 : _ = bl := h; omega)
 replace hx := (hx.mod x2).mono (fun i hi _ => (hi : (oneB bl) i))
 obtain ⟨rfl, hL2⟩ := hf2
 refine dn ?_
 refine da ?_
 refine D_end (hK2 _ _ ?_)
 refine W_ret ?_
 try dsimp only [then', inBlk, noGo]
 refine ro ?_
 exact ⟨_, rfl, hx, rfl, hL2⟩

set_option maxRecDepth 100000 in
set_option maxHeartbeats 1000000 in
theorem indexF1_w (typ val : Str) (n m : Int) (bl bn bp : Nat) (vk : Value) (w : World) (hk0 : Arr FilV.cs 5 w vk [(⟨I 3, S typ, S val, .slice none 0 0, .slice none 0 0⟩ : FilV)]) (hL : Blk w bl [I m] 3) (hN : Blk w bn [I n] 3) (hP : Blk w bp [ptr bl 0] 132) (hkb : (base vk).1 ≠ bl) (hnb : bn ≠ bl) (hpb : bp ≠ bl) (ht : typ.length ≤ 1000000) (htt : typeS typ = true) (hvl : val.length ≤ 256) (hn : n < 15) (hn2 : 0 ≤ n) (hm : 1 ≤ m) (hm2 : m ≤ 1000) :
  Calls Tryz.prog 206 [vk, fnC 165 [ptr bn 0, ptr bp 0]].toArray w (Does (oneB bl) w (fun u _ => u = I (-1))) := by
 refine calls_W Tryz.func206 rfl rfl rfl (by kernel_rfl) ?_
 have hx := Ext.refl w
 refine W_seq fun K1 hK1 => ?_
 refine wr ?_
 refine da ?_
 refine D_end (hK1 _ _ ?_)
 refine W_seq fun K2 hK2 => ?_
 refine W_seq fun K3 hK3 => ?_
 refine wr ?_
 refine dm ?_
 refine dp (pv_lenV (e := 57) (k := 5) (by kernel_rfl) hk0.sl rfl) ?_
 refine dm ?_
 refine D_end (hK3 _ _ ?_)
 refine W_block ?_
 refine W_loop (G := Nat) (fun k => [(0, vk), (1, fnC 165 [ptr bn 0, ptr bp 0]), (7, I ↑1), (8, I ↑k)]) (fun k w' => Mod (oneB bl) w w' ∧ k ≤ 1 ∧ ∃ c : Int, Blk w' bl [I c] 3 ∧ c = m - k) (fun k => 1 - k) 0 ?_ ?_ ?_
 ·
  exact ⟨rfl, rfl, rfl, rfl, trivial⟩
 ·
  exact ⟨hx.mono (fun _ h _ => h.elim), Nat.zero_le _, m, hL, by omega⟩
 ·
  intro X1 g1 w1 hF1
  revert hF1; revert g1; intro k hF1
  clear hx hL
  obtain ⟨hx, hk1, c, hL, hc⟩ := hF1
  refine W_seq fun K4 hK4 => ?_
  refine wr ?_
  refine dp (pv_lss rfl rfl) ?_
  refine D_end (hK4 _ _ ?_)
  refine W_seq fun K5 hK5 => ?_
  refine W_if rfl (fun c1 => ?_) (fun c1 => ?_)
  ·
   have hk0e : k = 0 := by omega
   have hk : [(⟨I 3, S typ, S val, .slice none 0 0, .slice none 0 0⟩ : FilV)][k]? = some (⟨I 3, S typ, S val, .slice none 0 0, .slice none 0 0⟩ : FilV) := by subst hk0e; rfl
   refine W_skip ?_
   refine hK5 _ _ ?_
   refine W_seq fun K6 hK6 => ?_
   refine W_block ?_
   refine W_seq fun K7 hK7 => ?_
   refine wr ?_
   refine dm ?_
   refine da ?_
   refine D_end (hK7 _ _ ?_)
   refine W_seq fun K8 hK8 => ?_
   refine wr ?_
   iterate 3 refine dm ?_
   refine dp (pv_idxA (e := 57) (k := 5) (by kernel_rfl) hk0.sl rfl rfl (hk0.lt hk)) ?_
   refine dq (lv_loadA (by kernel_rfl) rfl rfl ((hk0.mod hx (fun _ h => hkb h)).row hk)) ?_
   refine D_callCD (vs := [.agg ⟨[I 3, S typ, S val, .slice none 0 0, .slice none 0 0]⟩]) (cs := [ptr bn 0, ptr bp 0]) rfl rfl (by kernel_rfl) (may1_w typ val n c bl bn bp _ hL (hN.mod hx (fun h => hnb h)) (hP.mod hx (fun h => hpb h)) ht htt hvl hn hn2 (by omega) (by omega)) rfl (.inl rfl) (fun u2 w2 x2 hf2 => ?_)
   have hsz2 := hx.size
   replace hx := hx.own x2 (fun i hi _ => hi)
   obtain ⟨rfl, hL⟩ := hf2
   refine D_end (hK8 _ _ ?_)
   refine W_f rfl ?_
   refine W_skip ?_
   refine hK6 _ _ ?_
   refine wr ?_
   refine dp (pv_add rfl rfl (by unfold inI64; omega)) ?_
   refine dm ?_
   refine D_end (?_)
   refine ⟨k + 1, ⟨rfl, rfl, rfl, rfl, trivial⟩, ⟨hx, by omega, c - 1, hL, by omega⟩, by omega⟩
  ·
   refine W_exit ?_
   refine hK2 _ _ ?_
   refine W_seq fun K9 hK9 => ?_
   refine wr ?_
   refine da ?_
   refine D_end (hK9 _ _ ?_)
   refine W_ret ?_
   try dsimp only [then', inBlk, noGo]
   refine ro ?_
   exact ⟨_, rfl, hx, rfl⟩

set_option maxRecDepth 100000 in
set_option maxHeartbeats 1000000 in
theorem contF1_w (typ val : Str) (n m : Int) (bl bn bp : Nat) (vk : Value) (w : World) (hk0 : Arr FilV.cs 5 w vk [(⟨I 3, S typ, S val, .slice none 0 0, .slice none 0 0⟩ : FilV)]) (hL : Blk w bl [I m] 3) (hN : Blk w bn [I n] 3) (hP : Blk w bp [ptr bl 0] 132) (hkb : (base vk).1 ≠ bl) (hnb : bn ≠ bl) (hpb : bp ≠ bl) (ht : typ.length ≤ 1000000) (htt : typeS typ = true) (hvl : val.length ≤ 256) (hn : n < 15) (hn2 : 0 ≤ n) (hm : 1 ≤ m) (hm2 : m ≤ 1000) :
  Calls Tryz.prog 164 [vk, fnC 165 [ptr bn 0, ptr bp 0]].toArray w (Does (oneB bl) w (fun u _ => u = B false)) := by
 refine calls_W Tryz.func164 rfl rfl rfl (by kernel_rfl) ?_
 have hx := Ext.refl w
 refine W_seq fun K1 hK1 => ?_
 refine wr ?_
 refine da ?_
 refine D_end (hK1 _ _ ?_)
 refine W_seq fun K2 hK2 => ?_
 refine wr ?_
 iterate 2 refine dm ?_
 refine D_callD rfl (by kernel_rfl) (indexF1_w typ val n m bl bn bp vk _ (hk0.ext hx) (hL.ext hx) (hN.ext hx) (hP.ext hx) hkb hnb hpb ht htt hvl hn hn2 hm hm2) rfl (.inl rfl) (fun u1 w1 x1 hf1 => ?_)
 have hsz1 := hx.size
 replace hx := (hx.mod x1).mono (fun i hi _ => (hi : (oneB bl) i))
 obtain rfl := hf1
 refine dp (pv_geq rfl rfl) ?_
 refine da ?_
 refine D_end (hK2 _ _ ?_)
 refine W_ret ?_
 try dsimp only [then', inBlk, noGo]
 refine ro ?_
 exact ⟨_, rfl, hx, rfl⟩

set_option maxRecDepth 100000 in
set_option maxHeartbeats 1000000 in
theorem mayN_w (typ val : Str) (n m : Int) (bl : Nat) (vk : Value) (w : World) (hk0 : Arr FilV.cs 5 w vk [(⟨I 3, S typ, S val, .slice none 0 0, .slice none 0 0⟩ : FilV)]) (hL : Blk w bl [I m] 3) (hkb : (base vk).1 ≠ bl) (ht : typ.length ≤ 1000000) (htt : typeS typ = true) (hvl : val.length ≤ 256) (hn : n < 15) (hn2 : 0 ≤ n) (hm : 2 ≤ m) (hm2 : m ≤ 1000) :
  Calls Tryz.prog 123 [.agg ⟨[I 2, S [], S [], .slice none 0 0, vk]⟩, I n, ptr bl 0].toArray w (Does (oneB bl) w (fun u _ => u = B true)) := by
 refine calls_W Tryz.func123 rfl rfl rfl (by kernel_rfl) ?_
 have hx := Ext.refl w
 have hbl := hL.lt
 refine W_seq fun K1 hK1 => ?_
 refine wr ?_
 refine D_box rfl rfl rfl RX.all (fun b1 w1 e1 x1 m1 => ?_)
 have g1 : w.heap.size ≤ b1 := by have := hx.size; omega
 replace hx := hx.trans x1
 refine D_box rfl rfl rfl RX.all (fun b2 w2 e2 x2 m2 => ?_)
 have g2 : w.heap.size ≤ b2 := by have := hx.size; omega
 have n2_1 : b1 < b2 := by have := m1.lt; omega
 replace m1 := m1.ext x2
 replace hx := hx.trans x2
 refine D_box rfl rfl rfl RX.all (fun b3 w3 e3 x3 m3 => ?_)
 have g3 : w.heap.size ≤ b3 := by have := hx.size; omega
 have n3_1 : b1 < b3 := by have := m1.lt; omega
 have n3_2 : b2 < b3 := by have := m2.lt; omega
 replace m1 := m1.ext x3
 replace m2 := m2.ext x3
 replace hx := hx.trans x3
 refine da ?_
 refine D_end (hK1 _ _ ?_)
 refine W_seq fun K2 hK2 => ?_
 refine W_seq fun K3 hK3 => ?_
 refine wr ?_
 refine dq (lv_load (by kernel_rfl) rfl (m3.at rfl)) ?_
 refine dp (pv_nilP rfl) ?_
 refine dq (lv_load (by kernel_rfl) rfl ((hL.ext hx).at rfl)) ?_
 refine dp (pv_sub rfl rfl (by unfold inI64; omega)) ?_
 refine dp (pv_nilP rfl) ?_
 refine D_store1 (v := ?v2) rfl rfl ?h2 ?n2 (by kernel_rfl) (hL.ext hx) ?o2 (.inl rfl) (fun w4 x4 xs4 hL => ?k2)
 case h2 => conv => lhs; whnf
 case n2 => first | rfl | exact isSl.one m1.sl | exact isSl.one m2.sl | exact isSl.one m3.sl | exact isSl.one hk0.sl | exact isSl.one (Arr.nil (enc := sEnc) (sz := 1) (w := w)).sl
 case o2 => exact Nat.le_of_ble_eq_true rfl
 try dsimp only [setAt, List.set, List.take, List.drop] at hL
 try replace m1 := m1.mod x4 (by first | assumption | (intro k hk h; have h1 := (m1.lt k hk).1; have h2 : k = bl := h; omega) | (intro k hk h; have h1 := ol_m1 k hk; have h2 : k = bl := h; omega) | (intro h; have h2 : _ = bl := h; omega) | (intro hl h; have h1 := al_m1 hl; have h2 : _ = bl := h; omega))
 try replace m2 := m2.mod x4 (by first | assumption | (intro k hk h; have h1 := (m2.lt k hk).1; have h2 : k = bl := h; omega) | (intro k hk h; have h1 := ol_m2 k hk; have h2 : k = bl := h; omega) | (intro h; have h2 : _ = bl := h; omega) | (intro hl h; have h1 := al_m2 hl; have h2 : _ = bl := h; omega))
 try replace m3 := m3.mod x4 (by first | assumption | (intro k hk h; have h1 := (m3.lt k hk).1; have h2 : k = bl := h; omega) | (intro k hk h; have h1 := ol_m3 k hk; have h2 : k = bl := h; omega) | (intro h; have h2 : _ = bl := h; omega) | (intro hl h; have h1 := al_m3 hl; have h2 : _ = bl := h; omega))
 replace hx := (hx.mod x4).mono (fun i hi _ => (hi : (oneB bl) i))
 refine D_end (hK3 _ _ ?_)
 refine W_seq fun K4 hK4 => ?_
 refine wr ?_
 refine dq (lv_load (by kernel_rfl) rfl (m3.at rfl)) ?_
 refine dp (pv_nilP rfl) ?_
 refine dq (lv_load (by kernel_rfl) rfl (hL.at rfl)) ?_
 refine dp (pv_lss rfl rfl) ?_
 refine dm ?_
 refine D_splitP 20 rfl (fun c1 => ?_) (fun c1 => ?_)
 ·
  omega
 ·
  refine dq (lv_load (by kernel_rfl) rfl (m2.at rfl)) ?_
  refine dp (pv_geq rfl rfl) ?_
  refine dk' ?_
  refine D_end (hK4 _ _ ?_)
  refine W_if rfl (fun c2 => ?_) (fun c2 => ?_)
  ·
   omega
  ·
   refine W_skip ?_
   refine hK2 _ _ ?_
   refine W_seq fun K5 hK5 => ?_
   refine W_draw (R := Ext) Ext.refl (fun _ _ _ => Ext.trans) (by kernel_rfl) [1, 4, 7, 11] [(0, .p, false), (1, .l, false), (3, .p, false), (4, .l, false), (5, .p, false), (6, .p, false), (7, .l, false), (8, .p, false), (9, .p, false), (10, .p, false), (11, .l, false), (12, .p, false), (13, .p, false), (2, .x, false), (14, .p, false), (15, .p, false), (16, .p, false), (17, .p, false)] rfl (by kernel_rfl) (by kernel_rfl) (fun w5 ew5 => ?_)
   have x5 : Ext w4 w5 := by rw [ew5]; exact Ext.drew _
   clear ew5
   replace m1 := m1.ext x5
   replace m2 := m2.ext x5
   replace m3 := m3.ext x5
   replace hL := hL.ext x5
   replace hx := hx.ext x5
   refine dp (pv_fieldA (k := 1) (by kernel_rfl) rfl) ?_
   refine D_l rfl (fun w' hR => lv_load (by kernel_rfl) rfl ((m1.ext hR).at rfl)) ?_
   refine dp (pv_fieldA (k := 2) (by kernel_rfl) rfl) ?_
   refine D_l rfl (fun w' hR => lv_load (by kernel_rfl) rfl ((m1.ext hR).at rfl)) ?_
   refine dp (pv_seq rfl rfl) ?_
   refine dp (pv_fieldA (k := 3) (by kernel_rfl) rfl) ?_
   refine D_l rfl (fun w' hR => lv_load (by kernel_rfl) rfl ((m1.ext hR).at rfl)) ?_
   refine dp (pv_lenV (e := 9) (k := 1) (by kernel_rfl) (Arr.nil (enc := sEnc) (sz := 1) (w := w)).sl rfl) ?_
   refine dp (pv_eql rfl rfl) ?_
   refine dp (pv_fieldA (k := 4) (by kernel_rfl) rfl) ?_
   refine D_l rfl (fun w' hR => lv_load (by kernel_rfl) rfl ((m1.ext hR).at rfl)) ?_
   refine dp (pv_lenV (e := 57) (k := 5) (by kernel_rfl) hk0.sl rfl) ?_
   refine dp (pv_eql rfl rfl) ?_
   refine D_callP rfl (by kernel_rfl) (type_w [] _) rfl RX.ext (fun w6 x6 => ?_)
   replace m1 := m1.ext x6
   replace m2 := m2.ext x6
   replace m3 := m3.ext x6
   replace hL := hL.ext x6
   replace hx := hx.ext x6
   iterate 4 refine da ?_
   refine D_end (hK5 _ _ ?_)
   refine W_seq fun K6 hK6 => ?_
   refine W_seq fun K7 hK7 => ?_
   refine wr ?_
   refine dp (pv_fieldA (k := 0) (by kernel_rfl) rfl) ?_
   refine dq (lv_load (by kernel_rfl) rfl (m1.at rfl)) ?_
   refine D_end (hK7 _ _ ?_)
   refine W_block ?_
   refine W_seq fun K8 hK8 => ?_
   refine W_seq fun K9 hK9 => ?_
   refine wr ?_
   refine dp (pv_eql rfl rfl) ?_
   refine da ?_
   refine D_end (hK9 _ _ ?_)
   refine W_if rfl (fun c3 => ?_) (fun c3 => ?_)
   ·
    exact absurd c3 (by decide)
   ·
    refine W_seq fun K10 hK10 => ?_
    refine wr ?_
    refine dp (pv_eql rfl rfl) ?_
    refine da ?_
    refine D_end (hK10 _ _ ?_)
    refine W_if rfl (fun c4 => ?_) (fun c4 => ?_)
    ·
     exact absurd c4 (by decide)
    ·
     refine wr ?_
     refine dp (pv_eql rfl rfl) ?_
     refine da ?_
     refine D_end (hK8 _ _ ?_)
     refine W_if rfl (fun c5 => ?_) (fun c5 => ?_)
     ·
      refine W_draw (R := Ext) Ext.refl (fun _ _ _ => Ext.trans) (by kernel_rfl) [1, 7, 11] [(0, .p, false), (1, .l, false), (2, .p, false), (3, .p, false), (4, .p, false), (5, .p, false), (6, .p, false), (7, .l, false), (8, .p, false), (9, .p, false), (10, .p, false), (11, .l, false), (12, .p, false), (13, .p, false), (14, .p, false), (15, .p, false), (16, .p, false), (17, .p, false)] rfl (by kernel_rfl) (by kernel_rfl) (fun w7 ew7 => ?_)
      have x7 : Ext w6 w7 := by rw [ew7]; exact Ext.drew _
      clear ew7
      replace m1 := m1.ext x7
      replace m2 := m2.ext x7
      replace m3 := m3.ext x7
      replace hL := hL.ext x7
      replace hx := hx.ext x7
      refine dp (pv_fieldA (k := 1) (by kernel_rfl) rfl) ?_
      refine D_l rfl (fun w' hR => lv_load (by kernel_rfl) rfl ((m1.ext hR).at rfl)) ?_
      refine dp (pv_seq rfl rfl) ?_
      refine dm ?_
      refine dn ?_
      refine dm ?_
      refine D_split 49 rfl (fun c6 => ?_) (fun c6 => ?_)
      ·
       refine dp (pv_fieldA (k := 0) (by kernel_rfl) rfl) ?_
       refine D_l rfl (fun w' hR => lv_load (by kernel_rfl) rfl ((m1.ext hR).at rfl)) ?_
       refine dp (pv_neq rfl rfl) ?_
       refine dm ?_
       refine D_splitP 53 rfl (fun c7 => ?_) (fun c7 => ?_)
       ·
        exact absurd rfl c7
       ·
        refine dp (pv_fieldA (k := 4) (by kernel_rfl) rfl) ?_
        refine D_l rfl (fun w' hR => lv_load (by kernel_rfl) rfl ((m1.ext hR).at rfl)) ?_
        refine dp (pv_lenV (e := 57) (k := 5) (by kernel_rfl) hk0.sl rfl) ?_
        refine dp (pv_eql rfl rfl) ?_
        refine dk' ?_
        refine dk' ?_
        iterate 2 refine da ?_
        refine D_end (hK6 _ _ ?_)
        refine W_seq fun K11 hK11 => ?_
        refine wr ?_
        iterate 2 refine dm ?_
        refine D_splitP 76 rfl (fun c8 => ?_) (fun c8 => ?_)
        ·
         refine dm ?_
         refine dk' ?_
         refine dm ?_
         refine D_splitP 79 rfl (fun c9 => ?_) (fun c9 => ?_)
         ·
          refine dm ?_
          refine dk' ?_
          refine dm ?_
          refine D_splitP 82 rfl (fun c10 => ?_) (fun c10 => ?_)
          ·
           refine dm ?_
           refine dk' ?_
           refine dm ?_
           refine D_splitP 85 rfl (fun c11 => ?_) (fun c11 => ?_)
           ·
            refine dp (pv_fieldA (k := 4) (by kernel_rfl) rfl) ?_
            refine dq (lv_load (by kernel_rfl) rfl (m1.at rfl)) ?_
            refine dp (pv_makeFunc rfl) ?_
            refine D_callD rfl (by kernel_rfl) (contF1_w typ val n (m - 1) bl b2 b3 vk _ (hk0.mod hx (fun _ h => hkb h)) hL m2 m3 hkb (by omega) (by omega) ht htt hvl hn hn2 (by omega) (by omega)) rfl (.inl rfl) (fun u8 w8 x8 hf8 => ?_)
            have hsz8 := hx.size
            replace m1 := m1.mod x8 (by intro h; have h2 : _ = bl := h; omega)
            replace m2 := m2.mod x8 (by intro h; have h2 : _ = bl := h; omega)
            replace m3 := m3.mod x8 (by intro h; have h2 : _ = bl := h; omega)
            replace hx := hx.own x8 (fun i hi _ => hi)
            obtain rfl := hf8
            refine dn ?_
            refine dk' ?_
            refine da ?_
            refine D_end (hK11 _ _ ?_)
            refine W_ret ?_
            try dsimp only [then', inBlk, noGo]
            refine ro ?_
            exact ⟨_, rfl, hx, rfl⟩
           ·
            exact absurd rfl c11
          ·
           exact absurd rfl c10
         ·
          exact absurd rfl c9
        ·
         exact absurd rfl c8
      ·
       simp at c6
     ·
      exact absurd rfl c5

set_option maxRecDepth 100000 in
set_option maxHeartbeats 1000000 in
theorem fIs_w (typ val : Str) (vk : Value) (w : World) (hk0 : Arr FilV.cs 5 w vk [(⟨I 3, S typ, S val, .slice none 0 0, .slice none 0 0⟩ : FilV)]) (ht : typ.length ≤ 1000000) (htt : typeS typ = true) (hvl : val.length ≤ 256) :
  Calls Tryz.prog 83 [.agg ⟨[I 2, S [], S [], .slice none 0 0, vk]⟩].toArray w (Pure w (B true)) := by
 refine calls_W Tryz.func83 rfl rfl rfl (by kernel_rfl) ?_
 have hx := Ext.refl w
 have hkl := Arr.base_lt hk0 (by decide) (by simp)
 refine W_seq fun K1 hK1 => ?_
 refine wr ?_
 refine D_box rfl rfl rfl RX.all (fun b1 w1 e1 x1 m1 => ?_)
 have g1 : w.heap.size ≤ b1 := by have := hx.size; omega
 replace hx := hx.trans x1
 refine da ?_
 refine D_end (hK1 _ _ ?_)
 refine W_seq fun K2 hK2 => ?_
 refine wr ?_
 refine D_alloc (cs := [.int .i64 0]) rfl (by kernel_rfl) RX.all (fun b2 w2 e2 x2 m2 => ?_)
 have g2 : w.heap.size ≤ b2 := by have := hx.size; omega
 have n2_1 : b1 < b2 := by have := m1.lt; omega
 replace m1 := m1.ext x2
 replace hx := hx.trans x2
 refine D_store1 (v := ?v2) rfl rfl ?h2 ?n2 (by kernel_rfl) m2 ?o2 (.inl rfl) (fun w3 x3 xs3 m2 => ?k2)
 case h2 => conv => lhs; whnf
 case n2 => first | rfl | exact isSl.one m1.sl | exact isSl.one hk0.sl
 case o2 => exact Nat.le_of_ble_eq_true rfl
 try dsimp only [setAt, List.set, List.take, List.drop] at m2
 try replace m1 := m1.mod x3 (by first | assumption | (intro k hk h; have h1 := (m1.lt k hk).1; have h2 : k = b2 := h; omega) | (intro k hk h; have h1 := o2_m1 k hk; have h2 : k = b2 := h; omega) | (intro h; have h2 : _ = b2 := h; omega) | (intro hl h; have h1 := a2_m1 hl; have h2 : _ = b2 := h; omega))
 replace hx := hx.own x3 (by intro i hi; have hi2 : i = b2 := hi; subst hi2; omega)
 refine D_end (hK2 _ _ ?_)
 refine W_seq fun K3 hK3 => ?_
 refine wr ?_
 refine dq (lv_loadA (k := 5) (by kernel_rfl) rfl rfl m1.row) ?_
 refine D_callD rfl (by kernel_rfl) (mayN_w typ val 0 64 b2 vk _ (hk0.ext hx) m2 (by omega) ht htt hvl (by omega) (by omega) (by omega) (by omega)) rfl (.inl rfl) (fun u4 w4 x4 hf4 => ?_)
 have hsz4 := hx.size
 replace m1 := m1.mod x4 (by intro h; have h2 : _ = b2 := h; omega)
 replace hx := hx.own x4 (fun i hi => (by have hi2 : i = b2 := hi; subst hi2; omega))
 obtain rfl := hf4
 refine da ?_
 refine D_end (hK3 _ _ ?_)
 refine W_ret ?_
 try dsimp only [then', inBlk, noGo]
 refine ro ?_
 exact ⟨rfl, hx⟩

set_option maxRecDepth 100000 in
set_option maxHeartbeats 1000000 in
theorem evalE_w (typ val : Str) (vk : Value) (w : World) (hk0 : Arr FilV.cs 5 w vk [(⟨I 3, S typ, S val, .slice none 0 0, .slice none 0 0⟩ : FilV)]) (ht : typ.length ≤ 1000000) (htt : typeS typ = true) (hvl : val.length ≤ 256) (hok : tOk typ = false) :
  Calls Tryz.prog 41 [.agg ⟨[I 2, S [], S [], .slice none 0 0, vk]⟩, .agg ⟨[.slice none 0 0, .slice none 0 0]⟩].toArray w (Pure w (I 2)) := by
 refine calls_W Tryz.func41 rfl rfl rfl (by kernel_rfl) ?_
 have hx := Ext.refl w
 refine W_seq fun K1 hK1 => ?_
 refine wr ?_
 refine D_box rfl rfl rfl RX.all (fun b1 w1 e1 x1 m1 => ?_)
 have g1 : w.heap.size ≤ b1 := by have := hx.size; omega
 replace hx := hx.trans x1
 refine D_box rfl rfl rfl RX.all (fun b2 w2 e2 x2 m2 => ?_)
 have g2 : w.heap.size ≤ b2 := by have := hx.size; omega
 have n2_1 : b1 < b2 := by have := m1.lt; omega
 replace m1 := m1.ext x2
 replace hx := hx.trans x2
 refine da ?_
 refine D_end (hK1 _ _ ?_)
 refine W_seq fun K2 hK2 => ?_
 refine W_seq fun K3 hK3 => ?_
 refine wr ?_
 refine dq (lv_loadA (k := 5) (by kernel_rfl) rfl rfl m1.row) ?_
 refine D_callP rfl (by kernel_rfl) (fIs_w typ val vk _ (hk0.ext hx) ht htt hvl) rfl RX.all (fun w3 x3 => ?_)
 replace m1 := m1.ext x3
 replace m2 := m2.ext x3
 replace hx := hx.trans x3
 refine dn ?_
 refine D_end (hK3 _ _ ?_)
 refine W_f rfl ?_
 refine W_skip ?_
 refine hK2 _ _ ?_
 refine W_seq fun K4 hK4 => ?_
 refine wr ?_
 refine dq (lv_loadA (k := 5) (by kernel_rfl) rfl rfl m1.row) ?_
 refine dq (lv_loadA (k := 2) (by kernel_rfl) rfl rfl m2.row) ?_
 refine D_callP rfl (by kernel_rfl) (evalN_w typ val vk _ (hk0.ext hx) ht hok) rfl RX.all (fun w4 x4 => ?_)
 replace m1 := m1.ext x4
 replace m2 := m2.ext x4
 replace hx := hx.trans x4
 refine da ?_
 refine D_end (hK4 _ _ ?_)
 refine W_ret ?_
 try dsimp only [then', inBlk, noGo]
 refine ro ?_
 exact ⟨rfl, hx⟩

set_option maxRecDepth 100000 in
set_option maxHeartbeats 1000000 in
theorem known17_w (w : World) :
  Calls Tryz.prog 43 [].toArray w (Pure w (B true)) := by
 refine calls_W Tryz.func43 rfl rfl rfl (by kernel_rfl) ?_
 have hx := Ext.refl w
 refine W_seq fun K1 hK1 => ?_
 refine wr ?_
 refine da ?_
 refine D_end (hK1 _ _ ?_)
 refine W_seq fun K2 hK2 => ?_
 refine wr ?_
 refine dp (pv_build (zs := [.int .i64 0, S [], S [], .slice none 0 0, .slice none 0 0]) (pl := [(0, 1), (1, 1), (2, 1), (3, 1), (4, 1)]) (pv := [(0, ?a2_0), (1, ?a2_1), (2, ?a2_2)]) (cs := [?a2_0, ?a2_1, ?a2_2, .slice none 0 0, .slice none 0 0]) (by kernel_rfl) (by kernel_rfl) ?h2 ?f2) ?k2
 case h2 => refine ⟨rfl, ?_, rfl, ?_, rfl, ?_, trivial⟩ <;> (conv => lhs; whnf)
 case f2 => rfl
 refine D_lit (e := 57) (sz := 5) (zs := [.int .i64 0, S [], S [], .slice none 0 0, .slice none 0 0]) (pv := [(0, .agg ⟨[?a3_0, ?a3_1, ?a3_2, ?a3_3, ?a3_4]⟩)]) (cs := [?a3_0, ?a3_1, ?a3_2, ?a3_3, ?a3_4]) rfl (by kernel_rfl) ⟨rfl, rfl⟩ (by kernel_rfl) rfl ?h3 ?f3 RX.all (fun b1 w1 e1 x1 m1 => ?k3)
 case h3 => refine ⟨rfl, ?_, trivial⟩ <;> (conv => lhs; whnf)
 case f3 => rfl
 have g1 : w.heap.size ≤ b1 := by have := hx.size; omega
 replace hx := hx.trans x1
 refine dp (pv_build (zs := [.int .i64 0, S [], S [], .slice none 0 0, .slice none 0 0]) (pl := [(0, 1), (1, 1), (2, 1), (3, 1), (4, 1)]) (pv := [(0, ?a4_0), (4, ?a4_1)]) (cs := [?a4_0, S [], S [], .slice none 0 0, ?a4_1]) (by kernel_rfl) (by kernel_rfl) ?h4 ?f4) ?k4
 case h4 => refine ⟨rfl, ?_, rfl, ?_, trivial⟩ <;> (conv => lhs; whnf)
 case f4 => rfl
 refine D_alloc (cs := [.int .i64 0, S [], S [], .slice none 0 0, .slice none 0 0]) rfl (by kernel_rfl) RX.all (fun b2 w2 e2 x2 m2 => ?_)
 have g2 : w.heap.size ≤ b2 := by have := hx.size; omega
 have n2_1 : b1 < b2 := by have := m1.lt; omega
 replace m1 := m1.ext x2
 replace hx := hx.trans x2
 refine D_store (v := ?v5) (vs := ?u5) rfl rfl ?h5 ?c5 ?s5 m2 ?o5 ?n5 (.inl rfl) (fun w3 x3 xs3 m2 => ?k5)
 case h5 => conv => lhs; whnf
 case c5 => exact rfl
 case s5 => kernel_rfl
 case o5 => exact Nat.le_of_ble_eq_true rfl
 case n5 => simp [Value.oneCell']
 try dsimp only [setAt, List.set, List.take, List.drop] at m2
 try replace m1 := m1.mod x3 (by first | assumption | (intro k hk h; have h1 := (m1.lt k hk).1; have h2 : k = b2 := h; omega) | (intro k hk h; have h1 := o2_m1 k hk; have h2 : k = b2 := h; omega) | (intro h; have h2 : _ = b2 := h; omega) | (intro hl h; have h1 := a2_m1 hl; have h2 : _ = b2 := h; omega))
 replace hx := hx.own x3 (by intro i hi; have hi2 : i = b2 := hi; subst hi2; omega)
 refine D_end (hK2 _ _ ?_)
 refine W_seq fun K3 hK3 => ?_
 refine wr ?_
 refine dq (lv_loadA (k := 5) (by kernel_rfl) rfl rfl m2.row) ?_
 refine dp (pv_build (zs := [.slice none 0 0, .slice none 0 0]) (pl := [(0, 1), (1, 1)]) (pv := []) (cs := [.slice none 0 0, .slice none 0 0]) (by kernel_rfl) (by kernel_rfl) ?h6 ?f6) ?k6
 case h6 => exact trivial
 case f6 => rfl
 refine D_callP rfl (by kernel_rfl) (evalE_w [110, 111, 116, 104, 105, 110, 103] [120] (.slice (some ⟨b1, 0, none⟩) 1 1) _ (m1.arr (enc := FilV.cs) (sz := 5) (l := [⟨I 3, S [110, 111, 116, 104, 105, 110, 103], S [120], .slice none 0 0, .slice none 0 0⟩]) rfl (by intro x; rfl) rfl (by simp)) (by decide) (by kernel_rfl) (by decide) (by kernel_rfl)) rfl RX.all (fun w4 x4 => ?_)
 replace m1 := m1.ext x4
 replace m2 := m2.ext x4
 replace hx := hx.trans x4
 refine dp (pv_eql rfl rfl) ?_
 refine da ?_
 refine D_end (hK3 _ _ ?_)
 refine W_ret ?_
 try dsimp only [then', inBlk, noGo]
 refine ro ?_
 exact ⟨rfl, hx⟩

end Go.Proofs.YtcjjjmhhpejdoaaGreatDoor
