/-
  Walks.
-/
import Derived.Test.YtdagdhjheibgnaaGreatDoorChecked
import Derived.Test.YtdagdhjheibgnaaGreatDoorSpMem
import Derived.KernelRfl
import Derived.Test.YtdagdhjheibgnaaGreatDoorDnB
import Derived.Test.YtdagdhjheibgnaaGreatDoorVcV
namespace Go.Proofs.YtdagdhjheibgnaaGreatDoor
open Go.Vc Go.Sp
attribute [local irreducible] W XW Dw DwT
set_option linter.unusedVariables false
set_option linter.unusedSimpArgs false

theorem any_takeA {s : List Ava} {p : Ava → Bool} {k : Nat} {c : Ava} (h : s[k]? = some c) (ha : (s.take k).any p = false) (hp : p c = false) : (s.take (k + 1)).any p = false := by
  rw [take_snocS h, List.any_append, ha]; simp [hp]
theorem any_atA {s : List Ava} {p : Ava → Bool} {k : Nat} {c : Ava} (h : s[k]? = some c) (hp : p c = true) : s.any p = true := List.any_eq_true.2 ⟨c, List.mem_of_getElem? h, hp⟩
theorem parts_len {s : Str} {q q' : Nat} {a : Ava} {r : Str} (h : partS (s.drop q) = some (a, r)) (hq : q ≤ s.length) (hq' : q' ≤ s.length) (hr : s.drop q' = r) : q < q' ∧ (q' = s.length ∨ s[q']? = some 44) := by
  obtain ⟨h1, h2⟩ := partS_left h
  rw [← hr, List.length_drop, List.length_drop] at h1
  refine ⟨by omega, ?_⟩
  rcases h2 with h2 | ⟨t, h2⟩
  · left; rw [← hr, List.drop_eq_nil_iff] at h2; omega
  · right; exact get_drop.2 ⟨t, hr.trans h2⟩

set_option maxRecDepth 100000 in
set_option maxHeartbeats 1000000 in
theorem part_w (bt p : Nat) (s : Str) (w : World) (hm : Blk w bt [S s, I ↑p] 90) (hs : s.length ≤ 1000000) (hp : p ≤ s.length) :
  Calls Tryz.prog 72 [ptr bt 0].toArray w (Does (oneB bt) w (fun v w' => ∃ (a : Ava) (q : Nat), v = .tuple #[.agg ⟨a.cs⟩, B (partS (s.drop p)).isSome] ∧ p ≤ q ∧ q ≤ s.length ∧ Blk w' bt [S s, I ↑q] 90 ∧ ∀ a' r, partS (s.drop p) = some (a', r) → a = a' ∧ s.drop q = r)) := by
 refine calls_W Tryz.func72 rfl rfl rfl (by kernel_rfl) ?_
 have hx := Ext.refl w
 have hbt := hm.lt
 refine W_seq fun K1 hK1 => ?_
 refine wr ?_
 refine D_alloc (cs := [S [], S []]) rfl (by kernel_rfl) RX.all (fun b1 w1 e1 x1 m1 => ?_)
 have g1 : w.heap.size ≤ b1 := by have := hx.size; omega
 have a1_hm := hm.lt
 replace hm := hm.ext x1
 replace hx := hx.trans x1
 refine da ?_
 refine D_end (hK1 _ _ ?_)
 refine W_seq fun K2 hK2 => ?_
 refine wr ?_
 refine dm ?_
 refine D_callD rfl (by kernel_rfl) (blanks_w bt p s _ hm hs (by omega)) rfl (.inl rfl) (fun u2 w2 x2 hf2 => ?_)
 have hsz2 := hx.size
 replace m1 := m1.mod x2 (by first | assumption | (intro h; have h2 : _ = bt := h; omega))
 replace hx := (hx.mod x2).mono (fun i hi _ => (hi : (oneB bt) i))
 obtain ⟨rfl, q1, hq1a, hq1b, hd1, hm⟩ := hf2
 refine D_end (hK2 _ _ ?_)
 refine W_seq fun K3 hK3 => ?_
 refine W_seq fun K4 hK4 => ?_
 refine wr ?_
 refine dm ?_
 refine D_callD rfl (by kernel_rfl) (kind_w bt q1 s _ hm hs (by omega)) rfl (.inl rfl) (fun u3 w3 x3 hf3 => ?_)
 have hsz3 := hx.size
 replace m1 := m1.mod x3 (by first | assumption | (intro h; have h2 : _ = bt := h; omega))
 replace hx := hx.own x3 (fun i hi _ => hi)
 obtain ⟨rfl, q2, hq2a, hq2b, hd2, hm⟩ := hf3
 refine dm ?_
 refine dp (pv_ext rfl rfl) ?_
 refine dp (pv_ext rfl rfl) ?_
 refine dp (pv_fieldA (k := 0) (by kernel_rfl) rfl) ?_
 refine D_store1 (v := ?v5) rfl rfl ?h5 ?n5 (by kernel_rfl) m1 ?o5 (.inl rfl) (fun w4 x4 xs4 m1 => ?k5)
 case h5 => conv => lhs; whnf
 case n5 => first | rfl | exact isSl.one hm.sl
 case o5 => exact Nat.le_of_ble_eq_true rfl
 try dsimp only [setAt, List.set, List.take, List.drop] at m1
 try replace hm := hm.mod x4 (by first | assumption | (intro k hk h; have h1 := (hm.lt k hk).1; have h2 : k = b1 := h; omega) | (intro k hk h; have h1 := o1_hm k hk; have h2 : k = b1 := h; omega) | (intro h; have h2 : _ = b1 := h; omega) | (intro hl h; have h1 := a1_hm hl; have h2 : _ = b1 := h; omega))
 replace hx := hx.own x4 (fun i hi hlt => by have hi2 : i = b1 := hi; subst hi2; omega)
 refine da ?_
 refine D_end (hK4 _ _ ?_)
 refine W_seq fun K5 hK5 => ?_
 refine wr ?_
 refine dm ?_
 refine dn ?_
 refine D_end (hK5 _ _ ?_)
 refine W_cond rfl (fun c1 => ?_) (fun c1 => ?_)
 ·
  have ht : typeS ((s.drop q1).takeWhile typC) = false := by simpa using c1
  refine W_seq fun K6 hK6 => ?_
  refine wr ?_
  refine dq (lv_loadA (k := 2) (by kernel_rfl) rfl rfl m1.row) ?_
  refine D_store (v := ?v9) (vs := ?u9) rfl rfl ?h9 ?c9 ?s9 m1 ?o9 ?n9 (.inl rfl) (fun w5 x5 xs5 m1 => ?k9)
  case h9 => conv => lhs; whnf
  case c9 => exact rfl
  case s9 => kernel_rfl
  case o9 => exact Nat.le_of_ble_eq_true rfl
  case n9 => simp [Value.oneCell']
  try dsimp only [setAt, List.set, List.take, List.drop] at m1
  try replace hm := hm.mod x5 (by first | assumption | (intro k hk h; have h1 := (hm.lt k hk).1; have h2 : k = b1 := h; omega) | (intro k hk h; have h1 := o1_hm k hk; have h2 : k = b1 := h; omega) | (intro h; have h2 : _ = b1 := h; omega) | (intro hl h; have h1 := a1_hm hl; have h2 : _ = b1 := h; omega))
  replace hx := hx.own x5 (fun i hi hlt => by have hi2 : i = b1 := hi; subst hi2; omega)
  refine da ?_
  refine D_end (hK6 _ _ ?_)
  refine W_ret ?_
  try dsimp only [then', inBlk, noGo]
  refine ret_cell_tmp (u := ?v11) rfl rfl rfl rfl (by kernel_rfl) rfl m1.row ?h11 ?k11
  case h11 => conv => lhs; whnf
  have e : partS (s.drop p) = none := partS_no (by rw [← hd1]; exact ht)
  exact ⟨_, rfl, hx, ⟨_, _⟩, q2, by rw [e]; rfl, by omega, by omega, hm, by rw [e]; intro x r h; cases h⟩
 ·
  have ht : typeS ((s.drop q1).takeWhile typC) = true := by simpa using c1
  refine W_skip ?_
  refine hK3 _ _ ?_
  refine W_seq fun K7 hK7 => ?_
  refine wr ?_
  refine dm ?_
  refine D_callD rfl (by kernel_rfl) (blanks_w bt q2 s _ hm hs (by omega)) rfl (.inl rfl) (fun u6 w6 x6 hf6 => ?_)
  have hsz6 := hx.size
  replace m1 := m1.mod x6 (by first | assumption | (intro h; have h2 : _ = bt := h; omega))
  replace hx := hx.own x6 (fun i hi _ => hi)
  obtain ⟨rfl, q3, hq3a, hq3b, hd3, hm⟩ := hf6
  refine D_end (hK7 _ _ ?_)
  refine W_seq fun K8 hK8 => ?_
  refine W_seq fun K9 hK9 => ?_
  refine wr ?_
  refine dm ?_
  refine D_callD rfl (by kernel_rfl) (takes_w bt q3 s 61 _ hm hs (by omega)) rfl (.inl rfl) (fun u7 w7 x7 hf7 => ?_)
  have hsz7 := hx.size
  replace m1 := m1.mod x7 (by first | assumption | (intro h; have h2 : _ = bt := h; omega))
  replace hx := hx.own x7 (fun i hi _ => hi)
  obtain ⟨rfl, hm⟩ := hf7
  refine dn ?_
  refine D_end (hK9 _ _ ?_)
  refine W_cond rfl (fun c2 => ?_) (fun c2 => ?_)
  ·
   have h61 : ¬ s[q3]? = some 61 := by simpa using c2
   replace hm := stay_hm hm h61
   refine W_seq fun K10 hK10 => ?_
   refine wr ?_
   refine dq (lv_loadA (k := 2) (by kernel_rfl) rfl rfl m1.row) ?_
   refine D_store (v := ?v15) (vs := ?u15) rfl rfl ?h15 ?c15 ?s15 m1 ?o15 ?n15 (.inl rfl) (fun w8 x8 xs8 m1 => ?k15)
   case h15 => conv => lhs; whnf
   case c15 => exact rfl
   case s15 => kernel_rfl
   case o15 => exact Nat.le_of_ble_eq_true rfl
   case n15 => simp [Value.oneCell']
   try dsimp only [setAt, List.set, List.take, List.drop] at m1
   try replace hm := hm.mod x8 (by first | assumption | (intro k hk h; have h1 := (hm.lt k hk).1; have h2 : k = b1 := h; omega) | (intro k hk h; have h1 := o1_hm k hk; have h2 : k = b1 := h; omega) | (intro h; have h2 : _ = b1 := h; omega) | (intro hl h; have h1 := a1_hm hl; have h2 : _ = b1 := h; omega))
   replace hx := hx.own x8 (fun i hi hlt => by have hi2 : i = b1 := hi; subst hi2; omega)
   refine da ?_
   refine D_end (hK10 _ _ ?_)
   refine W_ret ?_
   try dsimp only [then', inBlk, noGo]
   refine ret_cell_tmp (u := ?v17) rfl rfl rfl rfl (by kernel_rfl) rfl m1.row ?h17 ?k17
   case h17 => conv => lhs; whnf
   have e : partS (s.drop p) = none := partS_ne (by rw [← hd1, ← hd2, ← hd3]; intro t h; exact h61 (get_drop.2 ⟨t, h⟩))
   exact ⟨_, rfl, hx, ⟨_, _⟩, q3, by rw [e]; rfl, by omega, by omega, hm, by rw [e]; intro x r h; cases h⟩
  ·
   have h61 : s[q3]? = some 61 := by simpa using c2
   replace hm := step_hm hm h61
   have hql := (List.getElem?_eq_some_iff.1 h61).1
   have hdr := drop_consS h61
   refine W_skip ?_
   refine hK8 _ _ ?_
   refine W_seq fun K11 hK11 => ?_
   refine wr ?_
   refine dm ?_
   refine D_callD rfl (by kernel_rfl) (blanks_w bt (q3 + 1) s _ hm hs (by omega)) rfl (.inl rfl) (fun u9 w9 x9 hf9 => ?_)
   have hsz9 := hx.size
   replace m1 := m1.mod x9 (by first | assumption | (intro h; have h2 : _ = bt := h; omega))
   replace hx := hx.own x9 (fun i hi _ => hi)
   obtain ⟨rfl, q5, hq5a, hq5b, hd5, hm⟩ := hf9
   refine D_end (hK11 _ _ ?_)
   refine W_seq fun K12 hK12 => ?_
   refine wr ?_
   refine dm ?_
   refine D_callD rfl (by kernel_rfl) (value_w bt q5 s _ hm hs (by omega)) rfl (.inl rfl) (fun u10 w10 x10 hf10 => ?_)
   have hsz10 := hx.size
   replace m1 := m1.mod x10 (by first | assumption | (intro h; have h2 : _ = bt := h; omega))
   replace hx := hx.own x10 (fun i hi _ => hi)
   obtain ⟨u, q6, rfl, hq6a, hq6b, hm, hu⟩ := hf10
   refine dm ?_
   refine dp (pv_ext rfl rfl) ?_
   refine dp (pv_ext rfl rfl) ?_
   refine dp (pv_fieldA (k := 1) (by kernel_rfl) rfl) ?_
   refine D_store1 (v := ?v21) rfl rfl ?h21 ?n21 (by kernel_rfl) m1 ?o21 (.inl rfl) (fun w11 x11 xs11 m1 => ?k21)
   case h21 => conv => lhs; whnf
   case n21 => first | rfl | exact isSl.one hm.sl
   case o21 => exact Nat.le_of_ble_eq_true rfl
   try dsimp only [setAt, List.set, List.take, List.drop] at m1
   try replace hm := hm.mod x11 (by first | assumption | (intro k hk h; have h1 := (hm.lt k hk).1; have h2 : k = b1 := h; omega) | (intro k hk h; have h1 := o1_hm k hk; have h2 : k = b1 := h; omega) | (intro h; have h2 : _ = b1 := h; omega) | (intro hl h; have h1 := a1_hm hl; have h2 : _ = b1 := h; omega))
   replace hx := hx.own x11 (fun i hi hlt => by have hi2 : i = b1 := hi; subst hi2; omega)
   refine da ?_
   refine D_end (hK12 _ _ ?_)
   refine W_seq fun K13 hK13 => ?_
   refine wr ?_
   refine dq (lv_loadA (k := 2) (by kernel_rfl) rfl rfl m1.row) ?_
   refine dm ?_
   refine D_store (v := ?v24) (vs := ?u24) rfl rfl ?h24 ?c24 ?s24 m1 ?o24 ?n24 (.inl rfl) (fun w12 x12 xs12 m1 => ?k24)
   case h24 => conv => lhs; whnf
   case c24 => exact rfl
   case s24 => kernel_rfl
   case o24 => exact Nat.le_of_ble_eq_true rfl
   case n24 => simp [Value.oneCell']
   try dsimp only [setAt, List.set, List.take, List.drop] at m1
   try replace hm := hm.mod x12 (by first | assumption | (intro k hk h; have h1 := (hm.lt k hk).1; have h2 : k = b1 := h; omega) | (intro k hk h; have h1 := o1_hm k hk; have h2 : k = b1 := h; omega) | (intro h; have h2 : _ = b1 := h; omega) | (intro hl h; have h1 := a1_hm hl; have h2 : _ = b1 := h; omega))
   replace hx := hx.own x12 (fun i hi hlt => by have hi2 : i = b1 := hi; subst hi2; omega)
   refine da ?_
   refine D_end (hK13 _ _ ?_)
   refine W_ret ?_
   try dsimp only [then', inBlk, noGo]
   refine ret_cell_tmp (u := ?v26) rfl rfl rfl rfl (by kernel_rfl) rfl m1.row ?h26 ?k26
   case h26 => conv => lhs; whnf
   have e := partS_go (r := s.drop p) (by rw [← hd1]; exact ht) (by rw [← hd1, ← hd2, ← hd3]; exact hdr)
   rw [← hd5, ← hd1] at e
   exact ⟨_, rfl, hx, ⟨_, u⟩, q6, by rw [e, Option.isSome_map], by omega, by omega, hm, by
    rw [e]; intro a r h
    obtain ⟨y, hy, h3⟩ := Option.map_eq_some_iff.1 h
    obtain ⟨rfl, h5⟩ := hu y.1 y.2 hy
    cases h3; exact ⟨rfl, h5⟩⟩

set_option maxRecDepth 100000 in
set_option maxHeartbeats 1000000 in
theorem is1_w (a : Ava) (w : World) :
  Calls Tryz.prog 111 [.agg ⟨a.cs⟩].toArray w (Pure w (B (!okAva a))) := by
 refine calls_W Tryz.func111 rfl rfl rfl (by kernel_rfl) ?_
 have hx := Ext.refl w
 refine W_seq fun K1 hK1 => ?_
 refine wr ?_
 refine D_box rfl rfl rfl RX.all (fun b1 w1 e1 x1 m1 => ?_)
 have g1 : w.heap.size ≤ b1 := by have := hx.size; omega
 replace hx := hx.trans x1
 refine da ?_
 refine D_end (hK1 _ _ ?_)
 refine W_seq fun K2 hK2 => ?_
 refine wr ?_
 refine dp (pv_fieldA (k := 0) (by kernel_rfl) rfl) ?_
 refine dq (lv_load (by kernel_rfl) rfl (m1.at rfl)) ?_
 refine D_callP rfl (by kernel_rfl) (type_w a.typ _) rfl RX.all (fun w2 x2 => ?_)
 replace m1 := m1.ext x2
 replace hx := hx.trans x2
 refine dn ?_
 refine dm ?_
 refine D_split 7 rfl (fun c1 => ?_) (fun c1 => ?_)
 ·
  iterate 3 refine dk ?_
  refine dk' ?_
  refine dm ?_
  iterate 4 refine dk ?_
  refine dk' ?_
  refine da ?_
  refine D_end (hK2 _ _ ?_)
  refine W_ret ?_
  try dsimp only [then', inBlk, noGo]
  refine ro ?_
  refine ⟨?_, hx⟩
  simp [okAva, *] <;> omega
 ·
  refine dp (pv_fieldA (k := 1) (by kernel_rfl) rfl) ?_
  refine dq (lv_load (by kernel_rfl) rfl (m1.at rfl)) ?_
  refine dp (pv_seq rfl rfl) ?_
  refine dk' ?_
  refine dm ?_
  refine D_splitP 12 rfl (fun c2 => ?_) (fun c2 => ?_)
  ·
   iterate 4 refine dk ?_
   refine dk' ?_
   refine da ?_
   refine D_end (hK2 _ _ ?_)
   refine W_ret ?_
   try dsimp only [then', inBlk, noGo]
   refine ro ?_
   refine ⟨?_, hx⟩
   simp [okAva, *] <;> omega
  ·
   refine dp (pv_fieldA (k := 1) (by kernel_rfl) rfl) ?_
   refine dq (lv_load (by kernel_rfl) rfl (m1.at rfl)) ?_
   refine dp (pv_lenS (by kernel_rfl) rfl) ?_
   refine dp (pv_gtr rfl rfl) ?_
   refine dk' ?_
   refine da ?_
   refine D_end (hK2 _ _ ?_)
   refine W_ret ?_
   try dsimp only [then', inBlk, noGo]
   refine ro ?_
   refine ⟨?_, hx⟩
   simp [okAva, *] <;> omega

set_option maxRecDepth 100000 in
set_option maxHeartbeats 1000000 in
theorem indexf_w (l : List Ava) (v : Value) (w : World) (hv : Arr Ava.cs 2 w v l) (hl : l.length ≤ 1000000) :
  Calls Tryz.prog 130 [v, fnV 111].toArray w (Gives w (fun u _ => ∃ i : Int, u = I i ∧ (0 ≤ i ↔ l.any (fun a => !okAva a) = true))) := by
 refine calls_W Tryz.func130 rfl rfl rfl (by kernel_rfl) ?_
 have hx := Ext.refl w
 refine W_seq fun K1 hK1 => ?_
 refine wr ?_
 refine da ?_
 refine D_end (hK1 _ _ ?_)
 refine W_seq fun K2 hK2 => ?_
 refine W_seq fun K3 hK3 => ?_
 refine wr ?_
 refine dm ?_
 refine dp (pv_lenV (e := 93) (k := 2) (by kernel_rfl) hv.sl rfl) ?_
 refine dm ?_
 refine D_end (hK3 _ _ ?_)
 refine W_block ?_
 refine W_loop (G := Nat) (fun k => [(0, v), (1, fnV 111), (7, I ↑l.length), (8, I ↑k)]) (fun k w' => Ext w w' ∧ k ≤ l.length ∧ (l.take k).any (fun a => !okAva a) = false) (fun k => l.length - k) 0 ?_ ?_ ?_
 ·
  exact ⟨rfl, rfl, rfl, rfl, trivial⟩
 ·
  exact ⟨hx, Nat.zero_le _, rfl⟩
 ·
  intro X1 g1 w1 hF1
  revert hF1; revert g1; intro k hF1
  clear hx
  obtain ⟨hx, hk1, ha⟩ := hF1
  refine W_seq fun K4 hK4 => ?_
  refine wr ?_
  refine dp (pv_lss rfl rfl) ?_
  refine D_end (hK4 _ _ ?_)
  refine W_seq fun K5 hK5 => ?_
  refine W_if rfl (fun c1 => ?_) (fun c1 => ?_)
  ·
   obtain ⟨a, hk⟩ : ∃ a, l[k]? = some a := ⟨_, List.getElem?_eq_getElem (by omega)⟩
   refine W_skip ?_
   refine hK5 _ _ ?_
   refine W_seq fun K6 hK6 => ?_
   refine W_block ?_
   refine W_seq fun K7 hK7 => ?_
   refine wr ?_
   refine dm ?_
   refine da ?_
   refine D_end (hK7 _ _ ?_)
   refine W_seq fun K8 hK8 => ?_
   refine wr ?_
   iterate 3 refine dm ?_
   refine dp (pv_idxA (e := 93) (k := 2) (by kernel_rfl) hv.sl rfl rfl (hv.lt hk)) ?_
   refine dq (lv_loadA (by kernel_rfl) rfl rfl ((hv.ext hx).row hk)) ?_
   refine D_callVP rfl rfl (by kernel_rfl) (is1_w a _) rfl RX.all (fun w2 x2 => ?_)
   replace hx := hx.trans x2
   refine D_end (hK8 _ _ ?_)
   refine W_cond rfl (fun c2 => ?_) (fun c2 => ?_)
   ·
    refine W_seq fun K9 hK9 => ?_
    refine wr ?_
    refine dm ?_
    refine da ?_
    refine D_end (hK9 _ _ ?_)
    refine W_ret ?_
    try dsimp only [then', inBlk, noGo]
    refine ro ?_
    refine ⟨_, rfl, hx, _, rfl, ?_⟩
    rw [any_atA hk c2]; simp
   ·
    refine W_skip ?_
    refine hK6 _ _ ?_
    refine wr ?_
    refine dp (pv_add rfl rfl (by unfold inI64; omega)) ?_
    refine dm ?_
    refine D_end (?_)
    refine ⟨k + 1, ⟨rfl, rfl, rfl, rfl, trivial⟩, ⟨hx, by omega, any_takeA hk ha (by simpa using c2)⟩, by omega⟩
  ·
   refine W_exit ?_
   refine hK2 _ _ ?_
   refine W_seq fun K10 hK10 => ?_
   refine wr ?_
   refine da ?_
   refine D_end (hK10 _ _ ?_)
   refine W_ret ?_
   try dsimp only [then', inBlk, noGo]
   refine ro ?_
   refine ⟨_, rfl, hx, -1, rfl, ?_⟩
   rw [List.take_of_length_le (by omega)] at ha
   rw [ha]; simp

set_option maxRecDepth 100000 in
set_option maxHeartbeats 1000000 in
theorem contf_w (l : List Ava) (v : Value) (w : World) (hv : Arr Ava.cs 2 w v l) (hl : l.length ≤ 1000000) :
  Calls Tryz.prog 110 [v, fnV 111].toArray w (Pure w (B (l.any fun a => !okAva a))) := by
 refine calls_W Tryz.func110 rfl rfl rfl (by kernel_rfl) ?_
 have hx := Ext.refl w
 refine W_seq fun K1 hK1 => ?_
 refine wr ?_
 refine da ?_
 refine D_end (hK1 _ _ ?_)
 refine W_seq fun K2 hK2 => ?_
 refine wr ?_
 iterate 2 refine dm ?_
 refine D_callG rfl (by kernel_rfl) (indexf_w l v _ (hv.ext hx) hl) rfl RX.all (fun u1 w1 x1 hf1 => ?_)
 have hsz1 := hx.size
 replace hx := hx.trans x1
 obtain ⟨i, rfl, hi⟩ := hf1
 refine dp (pv_geq rfl rfl) ?_
 refine da ?_
 refine D_end (hK2 _ _ ?_)
 refine W_ret ?_
 try dsimp only [then', inBlk, noGo]
 refine ro ?_
 refine ⟨?_, hx⟩
 congr 2
 rw [Bool.eq_iff_iff, decide_eq_true_iff]; exact hi

set_option maxRecDepth 100000 in
set_option maxHeartbeats 1000000 in
theorem isN_w (l : List Ava) (v : Value) (w : World) (hv : Arr Ava.cs 2 w v l) (hl : l.length ≤ 1000000) :
  Calls Tryz.prog 73 [v].toArray w (Pure w (B (isN l))) := by
 refine calls_W Tryz.func73 rfl rfl rfl (by kernel_rfl) ?_
 have hx := Ext.refl w
 refine W_seq fun K1 hK1 => ?_
 refine wr ?_
 refine da ?_
 refine D_end (hK1 _ _ ?_)
 refine W_seq fun K2 hK2 => ?_
 refine wr ?_
 refine dm ?_
 refine dp (pv_lenV (e := 93) (k := 2) (by kernel_rfl) hv.sl rfl) ?_
 refine dp (pv_leq rfl rfl) ?_
 refine dm ?_
 refine D_splitP 6 rfl (fun c1 => ?_) (fun c1 => ?_)
 ·
  refine dm ?_
  refine D_callP rfl (by kernel_rfl) (contf_w l v _ (hv.ext hx) hl) rfl RX.all (fun w1 x1 => ?_)
  replace hx := hx.trans x1
  refine dn ?_
  refine dk' ?_
  refine da ?_
  refine D_end (hK2 _ _ ?_)
  refine W_ret ?_
  try dsimp only [then', inBlk, noGo]
  refine ro ?_
  refine ⟨?_, hx⟩
  have e : (!l.any fun a => !okAva a) = l.all okAva := by rw [List.not_any_eq_all_not]; congr 1; funext a; simp
  unfold isN
  rw [← e]
  first | (rw [decide_eq_true (show l.length ≤ 12 by omega)]; rfl) | (rw [decide_eq_false (show ¬ l.length ≤ 12 by omega)]; rfl)
 ·
  iterate 3 refine dk ?_
  refine dk' ?_
  refine da ?_
  refine D_end (hK2 _ _ ?_)
  refine W_ret ?_
  try dsimp only [then', inBlk, noGo]
  refine ro ?_
  refine ⟨?_, hx⟩
  have e : (!l.any fun a => !okAva a) = l.all okAva := by rw [List.not_any_eq_all_not]; congr 1; funext a; simp
  unfold isN
  rw [← e]
  first | (rw [decide_eq_true (show l.length ≤ 12 by omega)]; rfl) | (rw [decide_eq_false (show ¬ l.length ≤ 12 by omega)]; rfl)

set_option maxRecDepth 100000 in
set_option maxHeartbeats 1000000 in
theorem parse_w (s : Str) (w : World) (hs : s.length ≤ 1000000) :
  Calls Tryz.prog 43 [S s].toArray w (Gives w (fun v w' => ∃ u, v = .tuple #[u, I (parseS s).2] ∧ Arr Ava.cs 2 w' u (parseS s).1)) := by
 refine calls_W Tryz.func43 rfl rfl rfl (by kernel_rfl) ?_
 have hx := Ext.refl w
 refine W_seq fun K1 hK1 => ?_
 refine wr ?_
 iterate 2 refine da ?_
 refine D_end (hK1 _ _ ?_)
 refine W_seq fun K2 hK2 => ?_
 refine W_seq fun K3 hK3 => ?_
 refine wr ?_
 refine dm ?_
 refine dp (pv_seq rfl rfl) ?_
 refine D_end (hK3 _ _ ?_)
 refine W_if rfl (fun c1 => ?_) (fun c1 => ?_)
 ·
  refine W_seq fun K4 hK4 => ?_
  refine wr ?_
  iterate 2 refine da ?_
  refine D_end (hK4 _ _ ?_)
  refine W_ret ?_
  try dsimp only [then', inBlk, noGo]
  refine rt ?_
  have e : parseS s = ([], 0) := if_pos c1
  rw [e]; exact ⟨_, rfl, hx, _, rfl, Arr.nil⟩
 ·
  refine W_skip ?_
  refine hK2 _ _ ?_
  refine W_seq fun K5 hK5 => ?_
  refine wr ?_
  refine da ?_
  refine D_end (hK5 _ _ ?_)
  refine W_seq fun K6 hK6 => ?_
  refine wr ?_
  refine dm ?_
  refine dp (pv_build (zs := [S [], .int .i64 0]) (pl := [(0, 1), (1, 1)]) (pv := [(0, ?a9_0)]) (cs := [?a9_0, .int .i64 0]) (by kernel_rfl) (by kernel_rfl) ?h9 ?f9) ?k9
  case h9 => refine ⟨rfl, ?_, trivial⟩ <;> (conv => lhs; whnf)
  case f9 => rfl
  refine D_box rfl rfl rfl RX.all (fun b1 w1 e1 x1 m1 => ?_)
  have g1 : w.heap.size ≤ b1 := by have := hx.size; omega
  replace hx := hx.trans x1
  refine da ?_
  refine D_end (hK6 _ _ ?_)
  refine W_seq fun K7 hK7 => ?_
  refine W_seq fun K8 hK8 => ?_
  refine wr ?_
  refine da ?_
  refine D_end (hK8 _ _ ?_)
  refine W_block ?_
  refine W_loop (G := Nat × Value × List Ava × Bool) (fun (q, vn, acc, more) => [(4, vn), (5, ptr b1 0), (6, B more)]) (fun (q, vn, acc, more) w' => Ext w w' ∧ Blk w' b1 [S s, I ↑q] 90 ∧ Own Ava.cs 2 93 (b1 + 1) w' vn acc ∧ q ≤ s.length ∧ acc.length ≤ q ∧ (if more = true then partsL (s.drop q) acc else some acc) = partsL s []) (fun (q, vn, acc, more) => if more = true then s.length - q + 1 else 0) (0, .slice none 0 0, [], true) ?_ ?_ ?_
  ·
   exact ⟨rfl, rfl, rfl, trivial⟩
  ·
   exact ⟨hx, m1, Own.nil, Nat.zero_le _, Nat.le_refl _, rfl⟩
  ·
   intro X2 g2 w2 hF2
   obtain ⟨q, vn, acc, more⟩ := g2
   clear hx m1
   obtain ⟨hx, m1, ho, hq, hac, hp⟩ := hF2
   refine W_seq fun K9 hK9 => ?_
   refine W_seq fun K10 hK10 => ?_
   refine wr ?_
   refine dm ?_
   refine D_end (hK10 _ _ ?_)
   refine W_cond rfl (fun c2 => ?_) (fun c2 => ?_)
   ·
    subst c2
    rw [if_pos rfl] at hp
    refine W_skip ?_
    refine hK9 _ _ ?_
    refine W_seq fun K11 hK11 => ?_
    refine W_block ?_
    refine W_seq fun K12 hK12 => ?_
    refine wr ?_
    refine dm ?_
    refine D_callD rfl (by kernel_rfl) (part_w b1 q s _ m1 hs hq) rfl (.inl rfl) (fun u3 w3 x3 hf3 => ?_)
    have hsz3 := hx.size
    replace ho := ho.mod x3 (by first | (intro h; have h2 : _ = b1 := h; omega) | (intro k hk h; have h1 := (ho.lt k hk).1; have h2 : k = b1 := h; omega))
    replace hx := hx.own x3 (fun i hi => (by have h2 : i = b1 := hi; omega))
    obtain ⟨a, q2, rfl, hqq1, hqq2, m1, hu⟩ := hf3
    refine dm ?_
    refine dp (pv_ext rfl rfl) ?_
    refine dp (pv_ext rfl rfl) ?_
    refine D_alloc (cs := [S [], S []]) rfl (by kernel_rfl) RX.all (fun b2 w4 e2 x4 m2 => ?_)
    have g2 : w.heap.size ≤ b2 := by have := hx.size; omega
    have n2_1 : b1 < b2 := by have := m1.lt; omega
    have o2_ho : ∀ k, Value.ownBlock _ = some k → k < b2 := fun k hk => by have := (ho.lt k hk).2; omega
    replace ho := ho.ext x4
    replace m1 := m1.ext x4
    replace hx := hx.trans x4
    refine D_store (v := ?v15) (vs := ?u15) rfl rfl ?h15 ?c15 ?s15 m2 ?o15 ?n15 (.inl rfl) (fun w5 x5 xs5 m2 => ?k15)
    case h15 => conv => lhs; whnf
    case c15 => exact rfl
    case s15 => kernel_rfl
    case o15 => exact Nat.le_of_ble_eq_true rfl
    case n15 => simp [Value.oneCell']
    try dsimp only [setAt, List.set, List.take, List.drop] at m2
    try replace ho := ho.mod x5 (by first | assumption | (intro k hk h; have h1 := (ho.lt k hk).1; have h2 : k = b2 := h; omega) | (intro k hk h; have h1 := o2_ho k hk; have h2 : k = b2 := h; omega) | (intro h; have h2 : _ = b2 := h; omega) | (intro hl h; have h1 := a2_ho hl; have h2 : _ = b2 := h; omega))
    try replace m1 := m1.mod x5 (by first | assumption | (intro k hk h; have h1 := (m1.lt k hk).1; have h2 : k = b2 := h; omega) | (intro k hk h; have h1 := o2_m1 k hk; have h2 : k = b2 := h; omega) | (intro h; have h2 : _ = b2 := h; omega) | (intro hl h; have h1 := a2_m1 hl; have h2 : _ = b2 := h; omega))
    replace hx := hx.own x5 (by intro i hi; have hi2 : i = b2 := hi; subst hi2; omega)
    refine da ?_
    refine D_end (hK12 _ _ ?_)
    refine W_seq fun K13 hK13 => ?_
    refine W_seq fun K14 hK14 => ?_
    refine wr ?_
    refine dm ?_
    refine dn ?_
    refine D_end (hK14 _ _ ?_)
    refine W_cond rfl (fun c3 => ?_) (fun c3 => ?_)
    ·
     refine W_seq fun K15 hK15 => ?_
     refine wr ?_
     iterate 2 refine da ?_
     refine D_end (hK15 _ _ ?_)
     refine W_ret ?_
     try dsimp only [then', inBlk, noGo]
     refine rt ?_
     have e : parseS s = ([], 3) := by
      unfold parseS; rw [if_neg c1, ← hp, partsL_none (by simpa using c3)]
     rw [e]; exact ⟨_, rfl, hx, _, rfl, Arr.nil⟩
    ·
     simp only [Bool.not_eq_false', Option.isSome_iff_exists] at c3
     obtain ⟨⟨a2, r2⟩, hpa⟩ := c3
     obtain ⟨rfl, hr⟩ := hu a2 r2 hpa
     have hpl := parts_len hpa hq hqq2 hr
     refine W_skip ?_
     refine hK13 _ _ ?_
     refine wr ?_
     refine dm ?_
     refine dq (lv_loadA (k := 2) (by kernel_rfl) rfl rfl m2.row) ?_
     refine D_lit (e := 93) (sz := 2) (zs := [S [], S []]) (pv := [(0, .agg ⟨[?a23_0, ?a23_1]⟩)]) (cs := [?a23_0, ?a23_1]) rfl (by kernel_rfl) ⟨rfl, rfl⟩ (by kernel_rfl) rfl ?h23 ?f23 RX.all (fun b3 w6 e3 x6 m3 => ?k23)
     case h23 => refine ⟨rfl, ?_, trivial⟩ <;> (conv => lhs; whnf)
     case f23 => rfl
     have g3 : w.heap.size ≤ b3 := by have := hx.size; omega
     have n3_1 : b1 < b3 := by have := m1.lt; omega
     have n3_2 : b2 < b3 := by have := m2.lt; omega
     have o3_ho : ∀ k, Value.ownBlock _ = some k → k < b3 := fun k hk => by have := (ho.lt k hk).2; omega
     replace ho := ho.ext x6
     replace m1 := m1.ext x6
     replace m2 := m2.ext x6
     replace hx := hx.trans x6
     refine D_append (lx := [a]) (e := 93) (sz := 2) (by' := 32) rfl (by kernel_rfl) (by kernel_rfl) (by intro x; rfl) ho (m3.arr (enc := Ava.cs) (sz := 2) (l := [a]) rfl (by intro x; rfl) rfl (Nat.le_of_ble_eq_true rfl)) rfl rfl (by intro x _ u hu; simp at hu; rcases hu with rfl | rfl <;> rfl) (by simp; omega) (by decide) m1.lt (.inl rfl) (fun vn2 w7 ho_n x7 => ?_)
     try replace m1 := m1.mod x7 (by first | (intro h; have h2 : b1 = b1 := Option.some.inj h; omega) | (intro h; have h1 := (ho.lt _ h).1; omega) | (intro h; have h1 := o1_ho _ h; omega))
     try replace m2 := m2.mod x7 (by first | (intro h; have h2 : b2 = b2 := Option.some.inj h; omega) | (intro h; have h1 := (ho.lt _ h).1; omega) | (intro h; have h1 := o2_ho _ h; omega))
     replace hx := hx.own x7 (fun i hi => (by have := (ho.lt i hi).1; omega))
     replace ho := ho_n
     clear m3
     refine da ?_
     refine D_end (hK11 _ _ ?_)
     refine wr ?_
     refine dm ?_
     refine D_callD rfl (by kernel_rfl) (takes_w b1 q2 s 44 _ m1 hs (by omega)) rfl (.inl rfl) (fun u8 w8 x8 hf8 => ?_)
     have hsz8 := hx.size
     replace ho := ho.mod x8 (by first | (intro h; have h2 : _ = b1 := h; omega) | (intro k hk h; have h1 := (ho.lt k hk).1; have h2 : k = b1 := h; omega))
     replace m2 := m2.mod x8 (by first | (intro h; have h2 : _ = b1 := h; omega) | (intro k hk h; have h1 := (ho.lt k hk).1; have h2 : k = b1 := h; omega))
     replace hx := hx.own x8 (fun i hi => (by have h2 : i = b1 := hi; omega))
     obtain ⟨rfl, m1⟩ := hf8
     refine da ?_
     refine D_end (?_)
     refine ⟨(if s[q2]? = some 44 then q2 + 1 else q2, vn2, acc ++ [a], decide (s[q2]? = some 44)), ⟨rfl, rfl, rfl, trivial⟩, ⟨hx, m1, ho, ?_, ?_, ?_⟩, ?_⟩
     ·
      split
      ·
       rename_i h; have := (List.getElem?_eq_some_iff.1 h).1; omega
      ·
       omega
     ·
      rw [List.length_append, List.length_singleton]; split <;> omega
     ·
      rw [← hp]
      by_cases h : s[q2]? = some 44
      ·
       rw [if_pos h, if_pos (decide_eq_true h)]
       rw [drop_consS h] at hr
       rw [← hr] at hpa
       rw [partsL_more hpa]
      ·
       rw [if_neg h, if_neg (by rw [decide_eq_false h]; decide)]
       have he : q2 = s.length := hpl.2.resolve_right h
       rw [he, List.drop_eq_nil_of_le (Nat.le_refl _)] at hr
       rw [← hr] at hpa
       rw [partsL_end hpa]
     ·
      by_cases h : s[q2]? = some 44
      ·
       have := (List.getElem?_eq_some_iff.1 h).1
       simp [h]; omega
      ·
       simp [h]
   ·
    subst c2
    rw [if_neg (by decide)] at hp
    have hoA := ho.arr (enc := Ava.cs) (by intro x; rfl)
    refine W_exit ?_
    refine hK7 _ _ ?_
    refine W_seq fun K16 hK16 => ?_
    refine W_seq fun K17 hK17 => ?_
    refine wr ?_
    refine dm ?_
    refine D_callP rfl (by kernel_rfl) (isN_w acc vn _ hoA (by omega)) rfl RX.all (fun w9 x9 => ?_)
    replace m1 := m1.ext x9
    replace ho := ho.ext x9
    replace hx := hx.trans x9
    refine dn ?_
    refine D_end (hK17 _ _ ?_)
    refine W_cond rfl (fun c4 => ?_) (fun c4 => ?_)
    ·
     refine W_seq fun K18 hK18 => ?_
     refine wr ?_
     iterate 2 refine da ?_
     refine D_end (hK18 _ _ ?_)
     refine W_ret ?_
     try dsimp only [then', inBlk, noGo]
     refine rt ?_
     have e : parseS s = ([], 5) := by
      unfold parseS; rw [if_neg c1, ← hp]; exact if_neg (by simpa using c4)
     rw [e]; exact ⟨_, rfl, hx, _, rfl, Arr.nil⟩
    ·
     refine W_skip ?_
     refine hK16 _ _ ?_
     refine W_seq fun K19 hK19 => ?_
     refine wr ?_
     refine dm ?_
     iterate 2 refine da ?_
     refine D_end (hK19 _ _ ?_)
     refine W_ret ?_
     try dsimp only [then', inBlk, noGo]
     refine rt ?_
     have e : parseS s = (acc, 0) := by
      unfold parseS; rw [if_neg c1, ← hp]; exact if_pos (by simpa using c4)
     rw [e]; exact ⟨_, rfl, hx, _, rfl, ho.arr (by intro x; rfl)⟩

end Go.Proofs.YtdagdhjheibgnaaGreatDoor
