/-
  Walks.
-/
import Derived.Test.YtcjjjmhhpejdoaaGreatDoorChecked
import Derived.Test.YtcjjjmhhpejdoaaGreatDoorSpMem
import Derived.KernelRfl
import Derived.Test.YtcjjjmhhpejdoaaGreatDoorCsA
import Derived.Test.YtcjjjmhhpejdoaaGreatDoorIkD
namespace Go.Proofs.YtcjjjmhhpejdoaaGreatDoor
open Go.Vc Go.Sp
attribute [local irreducible] W XW Dw DwT
set_option linter.unusedVariables false
set_option linter.unusedSimpArgs false

theorem upS_len (s : Str) : (upS s).length = s.length := by simp [upS]
theorem wVals_up (l : List Str) : wVals (l.map upS) = wVals l := by
  unfold wVals; rw [List.map_map]; congr 1; exact List.map_congr_left fun v _ => by simp [upS_len]
theorem wAttr_up (a : Sp.Attr) : wAttr (upAttr a) = wAttr a := by
  unfold wAttr upAttr; simp only [upS_len]; split <;> simp [wVals_up]
theorem wE_up (e : Entry) : wE (upE e) = wE e := by
  unfold wE wDn wAttrs upE
  simp only [List.map_map]
  congr 2
  · refine List.map_congr_left fun a _ => ?_; simp [upA, upS_len]
  · exact List.map_congr_left fun a _ => wAttr_up a
def upV (a : AttrV) (v : Str) : Str := if a.typ.length ≤ 5 then upS v else v
theorem upV_yes {a : AttrV} {v : Str} (h : a.typ.length ≤ 5) : upV a v = upS v := if_pos h
theorem upV_no {a : AttrV} {v : Str} (h : ¬ a.typ.length ≤ 5) : upV a v = v := if_neg h
theorem upAttr_eq {a : AttrV} {j : Nat} (h : a.vals.length ≤ j) : upAttr a.toA = ⟨upS a.typ, (a.vals.take j).map (upV a)⟩ := by
  rw [List.take_of_length_le h]
  show (⟨upS a.typ, if a.typ.length ≤ 5 then a.vals.map upS else a.vals⟩ : Sp.Attr) = _
  congr 1
  split
  · rename_i h; exact List.map_congr_left fun v _ => (upV_yes h).symm
  · rename_i h; exact (List.map_id' a.vals).symm.trans (List.map_congr_left fun v _ => (upV_no h).symm)
/-- Values of the call's own. -/
def ValsO (B : Nat) (w : World) (l : List AttrV) : Prop := ∀ a ∈ l, Vc.Own sEnc 1 9 B w a.v a.vals
def ValsN (B : Nat) (w : World) (N : Nat) (l : List AttrV) : Prop := N ≤ w.heap.size ∧ B ≤ N ∧ ∀ a ∈ l, Vc.Own sEnc 1 9 B w a.v a.vals ∧ ∀ k, a.v.ownBlock = some k → k < N
section
variable {w w' : World} {B N : Nat} {l : List AttrV}
theorem ValsO.mod {S : Nat → Prop} (h : ValsO B w l) (m : Vc.Mod S w w') (hS : ∀ a ∈ l, ∀ k, a.v.ownBlock = some k → ¬ S k) : ValsO B w' l := fun a ha => (h a ha).mod m (hS a ha)
theorem ValsO.ext (h : ValsO B w l) (x : Ext w w') : ValsO B w' l := fun a ha => (h a ha).ext x
theorem ValsO.at (h : ValsO B w l) : ValsAt w l := fun a ha => (h a ha).arr (by intro x; rfl)
theorem ValsO.nil : ValsO B w [] := fun _ h => by cases h
theorem ValsO.add {a : AttrV} (h : ValsO B w l) (ha : Vc.Own sEnc 1 9 B w a.v a.vals) : ValsO B w (l ++ [a]) := fun x hx => by
  rcases List.mem_append.1 hx with hx | hx
  · exact h x hx
  · rw [List.mem_singleton.1 hx]; exact ha
theorem ValsN.mod {S : Nat → Prop} (h : ValsN B w N l) (m : Vc.Mod S w w') (hS : ∀ a ∈ l, ∀ k, a.v.ownBlock = some k → ¬ S k) : ValsN B w' N l := ⟨Nat.le_trans h.1 m.size, h.2.1, fun a ha => ⟨(h.2.2 a ha).1.mod m (hS a ha), (h.2.2 a ha).2⟩⟩
theorem ValsN.ext (h : ValsN B w N l) (x : Ext w w') : ValsN B w' N l := h.mod x (fun _ _ _ _ h => h)
theorem ValsN.o (h : ValsN B w N l) : ValsO B w l := fun a ha => (h.2.2 a ha).1
theorem ValsO.n (h : ValsO B w l) (hB : B ≤ w.heap.size) : ValsN B w w.heap.size l := ⟨Nat.le_refl _, hB, fun a ha => ⟨h a ha, fun k hk => ((h a ha).lt k hk).2⟩⟩
end

set_option maxRecDepth 100000 in
set_option maxHeartbeats 1000000 in
theorem law_case (nl : List Ava) (l : List AttrV) (vd va : Value) (w : World) (hd : Arr Ava.cs 2 w vd nl) (ha : Arr AttrV.cs 2 w va l) (hvs : ValsAt w l) (hg : GV w) (hW : wE ⟨nl, l.map AttrV.toA⟩ ≤ 1048576) :
  Calls Tryz.prog 7 [.agg ⟨[vd, va]⟩].toArray w (Pure w (B true)) := by
 refine calls_W Tryz.func7 rfl rfl rfl (by kernel_rfl) ?_
 have hx := Ext.refl w
 refine W_seq fun K1 hK1 => ?_
 refine wr ?_
 refine D_box rfl rfl rfl RX.all (fun b1 w1 e1 x1 m1 => ?_)
 have g1 : w.heap.size ≤ b1 := by have := hx.size; omega
 replace hx := hx.trans x1
 refine da ?_
 refine D_end (hK1 _ _ ?_)
 refine W_seq fun K2 hK2 => ?_
 refine W_seq fun K3 hK3 => ?_
 refine wr ?_
 refine dq (lv_loadA (k := 2) (by kernel_rfl) rfl rfl m1.row) ?_
 refine D_lit (e := 31) (sz := 2) (zs := [.slice none 0 0, .slice none 0 0]) (pv := [(0, .agg ⟨[?a2_0, ?a2_1]⟩)]) (cs := [?a2_0, ?a2_1]) rfl (by kernel_rfl) ⟨rfl, rfl⟩ (by kernel_rfl) rfl ?h2 ?f2 RX.all (fun b2 w2 e2 x2 m2 => ?k2)
 case h2 => refine ⟨rfl, ?_, trivial⟩ <;> (conv => lhs; whnf)
 case f2 => rfl
 have g2 : w.heap.size ≤ b2 := by have := hx.size; omega
 have n2_1 : b1 < b2 := by have := m1.lt; omega
 replace m1 := m1.ext x2
 replace hx := hx.trans x2
 refine D_callP rfl (by kernel_rfl) (great_w nl l vd va _ _ (m2.arr (enc := encP) (sz := 2) (l := [(vd, va)]) rfl (by intro x; rfl) rfl (by simp)) (hd.ext hx) (ha.ext hx) (hvs.ext hx) (by omega)) rfl RX.all (fun w3 x3 => ?_)
 replace m1 := m1.ext x3
 replace m2 := m2.ext x3
 replace hx := hx.trans x3
 refine D_end (hK3 _ _ ?_)
 refine W_if rfl (fun c1 => ?_) (fun c1 => ?_)
 ·
  refine W_seq fun K4 hK4 => ?_
  refine wr ?_
  refine da ?_
  refine D_end (hK4 _ _ ?_)
  refine W_ret ?_
  try dsimp only [then', inBlk, noGo]
  refine ro ?_
  exact ⟨rfl, hx⟩
 ·
  have hs : SmallE ⟨nl, (l.map AttrV.toA)⟩ := smallE (by omega)
  have hkl := keys_len hs
  have hsdn : smallN nl := hs.dn
  have hnll := hsdn.1
  have hll : l.length ≤ 4000 := by have := hs.attrs; simpa using this
  refine W_skip ?_
  refine hK2 _ _ ?_
  refine W_seq fun K5 hK5 => ?_
  refine wr ?_
  refine dp (pv_build (zs := [.slice none 0 0, .slice none 0 0]) (pl := [(0, 1), (1, 1)]) (pv := []) (cs := [.slice none 0 0, .slice none 0 0]) (by kernel_rfl) (by kernel_rfl) ?h5 ?f5) ?k5
  case h5 => exact trivial
  case f5 => rfl
  refine D_alloc (cs := [.slice none 0 0, .slice none 0 0]) rfl (by kernel_rfl) RX.all (fun b3 w4 e3 x4 m3 => ?_)
  have g3 : w.heap.size ≤ b3 := by have := hx.size; omega
  have n3_1 : b1 < b3 := by have := m1.lt; omega
  have n3_2 : b2 < b3 := by have := m2.lt; omega
  replace m1 := m1.ext x4
  replace m2 := m2.ext x4
  replace hx := hx.trans x4
  refine D_store (v := ?v6) (vs := ?u6) rfl rfl ?h6 ?c6 ?s6 m3 ?o6 ?n6 (.inl rfl) (fun w5 x5 xs5 m3 => ?k6)
  case h6 => conv => lhs; whnf
  case c6 => exact rfl
  case s6 => kernel_rfl
  case o6 => exact Nat.le_of_ble_eq_true rfl
  case n6 => simp [Value.oneCell']
  try dsimp only [setAt, List.set, List.take, List.drop] at m3
  try replace m1 := m1.mod x5 (by first | assumption | (intro k hk h; have h1 := (m1.lt k hk).1; have h2 : k = b3 := h; omega) | (intro k hk h; have h1 := o3_m1 k hk; have h2 : k = b3 := h; omega) | (intro h; have h2 : _ = b3 := h; omega) | (intro hl h; have h1 := a3_m1 hl; have h2 : _ = b3 := h; omega))
  try replace m2 := m2.mod x5 (by first | assumption | (intro k hk h; have h1 := (m2.lt k hk).1; have h2 : k = b3 := h; omega) | (intro k hk h; have h1 := o3_m2 k hk; have h2 : k = b3 := h; omega) | (intro h; have h2 : _ = b3 := h; omega) | (intro hl h; have h1 := a3_m2 hl; have h2 : _ = b3 := h; omega))
  replace hx := hx.own x5 (by intro i hi; have hi2 : i = b3 := hi; subst hi2; omega)
  refine D_end (hK5 _ _ ?_)
  refine W_seq fun K6 hK6 => ?_
  refine W_seq fun K7 hK7 => ?_
  refine wr ?_
  refine da ?_
  refine D_end (hK7 _ _ ?_)
  refine W_block ?_
  refine W_loop (G := Nat × Value) (fun (q, vx) => [(1, ptr b1 0), (2, .bool false), (3, ptr b3 0), (4, I ↑q)]) (fun (q, vx) w' => Ext w w' ∧ Blk w' b1 [vd, va] 31 ∧ Blk w' b2 [vd, va] 31 ∧ q ≤ nl.length ∧ Blk w' b3 [vx, .slice none 0 0] 31 ∧ Vc.Own Ava.cs 2 50 w.heap.size w' vx ((nl.take q).map upA)) (fun (q, vx) => nl.length - q) (0, .slice none 0 0) ?_ ?_ ?_
  ·
   exact ⟨rfl, rfl, rfl, rfl, trivial⟩
  ·
   exact ⟨hx, m1, m2, Nat.zero_le _, m3, Vc.Own.nil⟩
  ·
   intro X6 g6 w6 hF6
   obtain ⟨q, vx⟩ := g6
   clear hx m1 m2 m3
   obtain ⟨hx, m1, m2, hq1, m3, ho⟩ := hF6
   refine W_seq fun K8 hK8 => ?_
   refine W_seq fun K9 hK9 => ?_
   refine wr ?_
   refine dm ?_
   refine dp (pv_fieldA (k := 0) (by kernel_rfl) rfl) ?_
   refine dq (lv_load (by kernel_rfl) rfl (m1.at rfl)) ?_
   refine dp (pv_lenV (e := 50) (k := 2) (by kernel_rfl) hd.sl rfl) ?_
   refine dp (pv_lss rfl rfl) ?_
   refine D_end (hK9 _ _ ?_)
   refine W_if rfl (fun c2 => ?_) (fun c2 => ?_)
   ·
    obtain ⟨x0, hq⟩ : ∃ x0, nl[q]? = some x0 := ⟨_, List.getElem?_eq_getElem (by omega)⟩
    have hsx := hsdn.at hq
    refine W_skip ?_
    refine hK8 _ _ ?_
    refine W_seq fun K10 hK10 => ?_
    refine W_block ?_
    refine W_draw (R := Mod (fun k => vx.ownBlock = some k)) modRefl modTrans (by kernel_rfl) [1, 3, 7, 10, 14] [(0, .p, false), (1, .l, false), (2, .p, false), (3, .l, false), (4, .p, false), (5, .p, false), (6, .p, false), (7, .l, false), (9, .p, false), (10, .l, false), (11, .p, false), (12, .p, false), (13, .p, false), (14, .l, false), (8, .x, false), (15, .x, false), (16, .p, false), (17, .x, false), (18, .x, false), (19, .p, false), (20, .x, true)] rfl (by kernel_rfl) (by kernel_rfl) (fun w7 ew7 => ?_)
    have x7 : Ext w6 w7 := by rw [ew7]; exact Ext.drew _
    clear ew7
    replace m1 := m1.ext x7
    replace m2 := m2.ext x7
    replace m3 := m3.ext x7
    replace ho := ho.ext x7
    replace hx := hx.trans x7
    refine dp (pv_fieldA (k := 0) (by kernel_rfl) rfl) ?_
    refine D_l rfl (fun w' hR => lv_load (by kernel_rfl) rfl ((m3.mod hR (fun e => ho.ne_blk m3 rfl e)).at rfl)) ?_
    refine dp (pv_fieldA (k := 0) (by kernel_rfl) rfl) ?_
    refine D_l rfl (fun w' hR => lv_load (by kernel_rfl) rfl ((m1.mod hR (fun e => ho.ne_blk m1 rfl e)).at rfl)) ?_
    refine dm ?_
    refine dp (pv_idxA (e := 50) (k := 2) (by kernel_rfl) hd.sl rfl rfl (hd.lt hq)) ?_
    refine dp (pv_fieldA (k := 0) (by kernel_rfl) rfl) ?_
    refine D_l rfl (fun w' hR => lv_load (by kernel_rfl) rfl ((((hd.ext hx).mod hR (fun hne h => by have h1 := (ho.lt _ h).1; have h2 := Arr.base_lt hd (by decide) hne; omega)).row hq).at rfl)) ?_
    refine dp (pv_fieldA (k := 0) (by kernel_rfl) rfl) ?_
    refine D_l rfl (fun w' hR => lv_load (by kernel_rfl) rfl ((m1.mod hR (fun e => ho.ne_blk m1 rfl e)).at rfl)) ?_
    refine dm ?_
    refine dp (pv_idxA (e := 50) (k := 2) (by kernel_rfl) hd.sl rfl rfl (hd.lt hq)) ?_
    refine dp (pv_fieldA (k := 1) (by kernel_rfl) rfl) ?_
    refine D_l rfl (fun w' hR => lv_load (by kernel_rfl) rfl ((((hd.ext hx).mod hR (fun hne h => by have h1 := (ho.lt _ h).1; have h2 := Arr.base_lt hd (by decide) hne; omega)).row hq).at rfl)) ?_
    refine D_callP rfl (by kernel_rfl) (upper_w x0.typ _ (by omega)) rfl RX.mod (fun w8 x8 => ?_)
    replace m1 := m1.ext x8
    replace m2 := m2.ext x8
    replace m3 := m3.ext x8
    replace ho := ho.ext x8
    replace hx := hx.trans x8
    refine D_callP rfl (by kernel_rfl) (upper_w x0.val _ (by omega)) rfl RX.mod (fun w9 x9 => ?_)
    replace m1 := m1.ext x9
    replace m2 := m2.ext x9
    replace m3 := m3.ext x9
    replace ho := ho.ext x9
    replace hx := hx.trans x9
    refine dp (pv_build (zs := [S [], S []]) (pl := [(0, 1), (1, 1)]) (pv := [(0, ?a11_0), (1, ?a11_1)]) (cs := [?a11_0, ?a11_1]) (by kernel_rfl) (by kernel_rfl) ?h11 ?f11) ?k11
    case h11 => refine ⟨rfl, ?_, rfl, ?_, trivial⟩ <;> (conv => lhs; whnf)
    case f11 => rfl
    refine D_lit (e := 50) (sz := 2) (zs := [S [], S []]) (pv := [(0, .agg ⟨[?a12_0, ?a12_1]⟩)]) (cs := [?a12_0, ?a12_1]) rfl (by kernel_rfl) ⟨rfl, rfl⟩ (by kernel_rfl) rfl ?h12 ?f12 RX.mod (fun b4 w10 e4 x10 m4 => ?k12)
    case h12 => refine ⟨rfl, ?_, trivial⟩ <;> (conv => lhs; whnf)
    case f12 => rfl
    have g4 : w.heap.size ≤ b4 := by have := hx.size; omega
    have n4_1 : b1 < b4 := by have := m1.lt; omega
    have n4_2 : b2 < b4 := by have := m2.lt; omega
    have n4_3 : b3 < b4 := by have := m3.lt; omega
    have o4_ho : ∀ k, Value.ownBlock _ = some k → k < b4 := fun k hk => by have := (ho.lt k hk).2; omega
    replace m1 := m1.ext x10
    replace m2 := m2.ext x10
    replace m3 := m3.ext x10
    replace ho := ho.ext x10
    replace hx := hx.trans x10
    refine D_append (lx := [⟨upS x0.typ, upS x0.val⟩]) (e := 50) (sz := 2) (by' := 32) rfl (by kernel_rfl) (by kernel_rfl) (by intro x; rfl) ho (m4.arr (enc := Ava.cs) (sz := 2) (l := [⟨upS x0.typ, upS x0.val⟩]) rfl (by intro x; rfl) rfl (Nat.le_of_ble_eq_true rfl)) rfl rfl (by intro x _ u hu; simp at hu; rcases hu with rfl | rfl <;> rfl) (by simp; omega) (by decide) hx.size (.inr fun _ h => h) (fun vx2 w11 ho_n x11 => ?_)
    try replace m1 := m1.mod x11 (by first | (intro h; have h2 : b1 = b1 := Option.some.inj h; omega) | (intro h; have h1 := (ho.lt _ h).1; omega) | (intro h; have h1 := o1_ho _ h; omega) | (intro h; exact ho.ne_blk m1 rfl h))
    try replace m2 := m2.mod x11 (by first | (intro h; have h2 : b2 = b2 := Option.some.inj h; omega) | (intro h; have h1 := (ho.lt _ h).1; omega) | (intro h; have h1 := o2_ho _ h; omega) | (intro h; exact ho.ne_blk m2 rfl h))
    try replace m3 := m3.mod x11 (by first | (intro h; have h2 : b3 = b3 := Option.some.inj h; omega) | (intro h; have h1 := (ho.lt _ h).1; omega) | (intro h; have h1 := o3_ho _ h; omega) | (intro h; exact ho.ne_blk m3 rfl h))
    replace hx := hx.own x11 (fun i hi => (ho.lt i hi).1)
    replace ho := ho_n
    clear m4
    refine dp (pv_fieldA (k := 0) (by kernel_rfl) rfl) ?_
    refine D_store1 (v := ?v13) rfl rfl ?h13 ?n13 (by kernel_rfl) m3 ?o13 (.inl rfl) (fun w12 x12 xs12 m3 => ?k13)
    case h13 => conv => lhs; whnf
    case n13 => first | rfl | exact isSl.one m1.sl | exact isSl.one m2.sl | exact isSl.one ho.sl | exact isSl.one ha.sl | exact isSl.one hav.sl | exact isSl.one hd.sl | exact isSl.one hg.sl | exact isSl.one hvs.sl
    case o13 => exact Nat.le_of_ble_eq_true rfl
    try dsimp only [setAt, List.set, List.take, List.drop] at m3
    try replace m1 := m1.mod x12 (by first | assumption | (intro k hk h; have h1 := (m1.lt k hk).1; have h2 : k = b3 := h; omega) | (intro k hk h; have h1 := o3_m1 k hk; have h2 : k = b3 := h; omega) | (intro h; have h2 : _ = b3 := h; omega) | (intro hl h; have h1 := a3_m1 hl; have h2 : _ = b3 := h; omega))
    try replace m2 := m2.mod x12 (by first | assumption | (intro k hk h; have h1 := (m2.lt k hk).1; have h2 : k = b3 := h; omega) | (intro k hk h; have h1 := o3_m2 k hk; have h2 : k = b3 := h; omega) | (intro h; have h2 : _ = b3 := h; omega) | (intro hl h; have h1 := a3_m2 hl; have h2 : _ = b3 := h; omega))
    replace ho := ho.mod x12 (fun k hk h => ho.ne_blk (b := b3) (by assumption) (by rfl) (hk.trans (congrArg some h)))
    replace hx := hx.own x12 (by intro i hi; have hi2 : i = b3 := hi; subst hi2; omega)
    refine D_end (hK10 _ _ ?_)
    refine wr ?_
    refine dm ?_
    refine dp (pv_add rfl rfl (by unfold inI64; omega)) ?_
    refine da ?_
    refine D_end (?_)
    refine ⟨(q + 1, vx2), ⟨rfl, rfl, rfl, rfl, trivial⟩, ⟨hx, m1, m2, by omega, m3, ?_⟩, by simp only []; omega⟩
    rw [take_snocS hq, List.map_append]; exact ho
   ·
    rw [List.take_of_length_le (by omega)] at ho
    refine W_exit ?_
    refine hK6 _ _ ?_
    refine W_seq fun K11 hK11 => ?_
    refine W_seq fun K12 hK12 => ?_
    refine wr ?_
    refine da ?_
    refine D_end (hK12 _ _ ?_)
    refine W_block ?_
    refine W_loop (G := Nat × Value × List AttrV) (fun (k, vt, lx) => [(1, ptr b1 0), (2, .bool false), (3, ptr b3 0), (5, I ↑k)]) (fun (k, vt, lx) w' => Ext w w' ∧ Blk w' b1 [vd, va] 31 ∧ Blk w' b2 [vd, va] 31 ∧ Vc.Own Ava.cs 2 50 w.heap.size w' vx (nl.map upA) ∧ k ≤ l.length ∧ Blk w' b3 [vx, vt] 31 ∧ Vc.Own AttrV.cs 2 41 w.heap.size w' vt lx ∧ ValsO w.heap.size w' lx ∧ lx.map AttrV.toA = ((l.map AttrV.toA).take k).map upAttr) (fun (k, vt, lx) => l.length - k) (0, .slice none 0 0, []) ?_ ?_ ?_
    ·
     exact ⟨rfl, rfl, rfl, rfl, trivial⟩
    ·
     exact ⟨hx, m1, m2, ho, Nat.zero_le _, m3, Vc.Own.nil, ValsO.nil, rfl⟩
    ·
     intro X13 g13 w13 hF13
     obtain ⟨k, vt, lx⟩ := g13
     clear hx m1 m2 m3 ho
     obtain ⟨hx, m1, m2, ho, hk1, m3, ho2, hvo, hlx⟩ := hF13
     refine W_seq fun K13 hK13 => ?_
     refine W_seq fun K14 hK14 => ?_
     refine wr ?_
     refine dm ?_
     refine dp (pv_fieldA (k := 1) (by kernel_rfl) rfl) ?_
     refine dq (lv_load (by kernel_rfl) rfl (m1.at rfl)) ?_
     refine dp (pv_lenV (e := 41) (k := 2) (by kernel_rfl) ha.sl rfl) ?_
     refine dp (pv_lss rfl rfl) ?_
     refine D_end (hK14 _ _ ?_)
     refine W_if rfl (fun c3 => ?_) (fun c3 => ?_)
     ·
      obtain ⟨a, hk⟩ : ∃ a, l[k]? = some a := ⟨_, List.getElem?_eq_getElem (by omega)⟩
      have hav := hvs.at hk
      have hsa := SmallE.at hs hk
      refine W_skip ?_
      refine hK13 _ _ ?_
      refine W_seq fun K15 hK15 => ?_
      refine W_block ?_
      refine W_seq fun K16 hK16 => ?_
      refine wr ?_
      refine dp (pv_fieldA (k := 1) (by kernel_rfl) rfl) ?_
      refine dq (lv_load (by kernel_rfl) rfl (m1.at rfl)) ?_
      refine dm ?_
      refine dp (pv_idxA (e := 41) (k := 2) (by kernel_rfl) ha.sl rfl rfl (ha.lt hk)) ?_
      refine dp (pv_fieldA (k := 0) (by kernel_rfl) rfl) ?_
      refine dq (lv_load (by kernel_rfl) rfl (((ha.ext hx).row hk).at rfl)) ?_
      refine D_callP rfl (by kernel_rfl) (upper_w a.typ _ (by omega)) rfl RX.all (fun w14 x14 => ?_)
      replace m1 := m1.ext x14
      replace m2 := m2.ext x14
      replace ho := ho.ext x14
      replace m3 := m3.ext x14
      replace ho2 := ho2.ext x14
      replace hvo := hvo.ext x14
      replace hx := hx.trans x14
      refine dp (pv_build (zs := [S [], .slice none 0 0]) (pl := [(0, 1), (1, 1)]) (pv := [(0, ?a19_0)]) (cs := [?a19_0, .slice none 0 0]) (by kernel_rfl) (by kernel_rfl) ?h19 ?f19) ?k19
      case h19 => refine ⟨rfl, ?_, trivial⟩ <;> (conv => lhs; whnf)
      case f19 => rfl
      refine D_alloc (cs := [S [], .slice none 0 0]) rfl (by kernel_rfl) RX.all (fun b5 w15 e5 x15 m5 => ?_)
      have g5 : w.heap.size ≤ b5 := by have := hx.size; omega
      have n5_1 : b1 < b5 := by have := m1.lt; omega
      have n5_2 : b2 < b5 := by have := m2.lt; omega
      have n5_3 : b3 < b5 := by have := m3.lt; omega
      have o5_ho : ∀ k, Value.ownBlock _ = some k → k < b5 := fun k hk => by have := (ho.lt k hk).2; omega
      have o5_ho2 : ∀ k, Value.ownBlock _ = some k → k < b5 := fun k hk => by have := (ho2.lt k hk).2; omega
      replace m1 := m1.ext x15
      replace m2 := m2.ext x15
      replace ho := ho.ext x15
      replace m3 := m3.ext x15
      replace ho2 := ho2.ext x15
      replace hvo := hvo.ext x15
      replace hx := hx.trans x15
      refine D_store (v := ?v20) (vs := ?u20) rfl rfl ?h20 ?c20 ?s20 m5 ?o20 ?n20 (.inl rfl) (fun w16 x16 xs16 m5 => ?k20)
      case h20 => conv => lhs; whnf
      case c20 => exact rfl
      case s20 => kernel_rfl
      case o20 => exact Nat.le_of_ble_eq_true rfl
      case n20 => simp [Value.oneCell']
      try dsimp only [setAt, List.set, List.take, List.drop] at m5
      try replace m1 := m1.mod x16 (by first | assumption | (intro k hk h; have h1 := (m1.lt k hk).1; have h2 : k = b5 := h; omega) | (intro k hk h; have h1 := o5_m1 k hk; have h2 : k = b5 := h; omega) | (intro h; have h2 : _ = b5 := h; omega) | (intro hl h; have h1 := a5_m1 hl; have h2 : _ = b5 := h; omega))
      try replace m2 := m2.mod x16 (by first | assumption | (intro k hk h; have h1 := (m2.lt k hk).1; have h2 : k = b5 := h; omega) | (intro k hk h; have h1 := o5_m2 k hk; have h2 : k = b5 := h; omega) | (intro h; have h2 : _ = b5 := h; omega) | (intro hl h; have h1 := a5_m2 hl; have h2 : _ = b5 := h; omega))
      replace ho := ho.mod x16 (fun k hk h => ho.ne_blk (b := b5) (by assumption) (by rfl) (hk.trans (congrArg some h)))
      try replace m3 := m3.mod x16 (by first | assumption | (intro k hk h; have h1 := (m3.lt k hk).1; have h2 : k = b5 := h; omega) | (intro k hk h; have h1 := o5_m3 k hk; have h2 : k = b5 := h; omega) | (intro h; have h2 : _ = b5 := h; omega) | (intro hl h; have h1 := a5_m3 hl; have h2 : _ = b5 := h; omega))
      replace ho2 := ho2.mod x16 (by first | exact (fun k hk h => ho2.ne_blk (b := b5) (by assumption) (by rfl) (hk.trans (congrArg some h))) | (intro k hk h; have h1 := o5_ho2 k hk; have h2 : k = b5 := h; omega))
      replace hvo := hvo.mod x16 (fun a ha k hk h => (hvo a ha).ne_blk (b := b5) (by assumption) (by rfl) (hk.trans (congrArg some h)))
      replace hx := hx.own x16 (by intro i hi; have hi2 : i = b5 := hi; subst hi2; omega)
      refine D_end (hK16 _ _ ?_)
      refine W_seq fun K17 hK17 => ?_
      refine W_seq fun K18 hK18 => ?_
      refine wr ?_
      refine da ?_
      refine D_end (hK18 _ _ ?_)
      refine W_block ?_
      refine W_loop (G := Nat × Value) (fun (j, vv) => [(1, ptr b1 0), (2, .bool false), (3, ptr b3 0), (5, I ↑k), (6, ptr b5 0), (7, I ↑j)]) (fun (j, vv) w' => Ext w w' ∧ Blk w' b1 [vd, va] 31 ∧ Blk w' b2 [vd, va] 31 ∧ Vc.Own Ava.cs 2 50 w.heap.size w' vx (nl.map upA) ∧ Blk w' b3 [vx, vt] 31 ∧ Vc.Own AttrV.cs 2 41 w.heap.size w' vt lx ∧ j ≤ a.vals.length ∧ Blk w' b5 [S (upS a.typ), vv] 41 ∧ ∃ N, Vc.Own sEnc 1 9 N w' vv ((a.vals.take j).map (upV a)) ∧ ValsN w.heap.size w' N lx) (fun (j, vv) => a.vals.length - j) (0, .slice none 0 0) ?_ ?_ ?_
      ·
       exact ⟨rfl, rfl, rfl, rfl, rfl, rfl, trivial⟩
      ·
       exact ⟨hx, m1, m2, ho, m3, ho2, Nat.zero_le _, m5, _, Vc.Own.nil, hvo.n hx.size⟩
      ·
       intro X17 g17 w17 hF17
       obtain ⟨j, vv⟩ := g17
       clear hx m1 m2 ho m3 ho2 hvo m5
       obtain ⟨hx, m1, m2, ho, m3, ho2, hj1, m5, N, hov, hvn⟩ := hF17
       refine W_seq fun K19 hK19 => ?_
       refine W_seq fun K20 hK20 => ?_
       refine wr ?_
       refine dm ?_
       refine dp (pv_fieldA (k := 1) (by kernel_rfl) rfl) ?_
       refine dq (lv_load (by kernel_rfl) rfl (m1.at rfl)) ?_
       refine dm ?_
       refine dp (pv_idxA (e := 41) (k := 2) (by kernel_rfl) ha.sl rfl rfl (ha.lt hk)) ?_
       refine dp (pv_fieldA (k := 1) (by kernel_rfl) rfl) ?_
       refine dq (lv_load (by kernel_rfl) rfl (((ha.ext hx).row hk).at rfl)) ?_
       refine dp (pv_lenV (e := 9) (k := 1) (by kernel_rfl) hav.sl rfl) ?_
       refine dp (pv_lss rfl rfl) ?_
       refine D_end (hK20 _ _ ?_)
       refine W_if rfl (fun c4 => ?_) (fun c4 => ?_)
       ·
        obtain ⟨v, hj⟩ : ∃ v, a.vals[j]? = some v := ⟨_, List.getElem?_eq_getElem (by omega)⟩
        have hv4 := hsa.2.2 v (List.mem_of_getElem? hj)
        refine W_skip ?_
        refine hK19 _ _ ?_
        refine W_seq fun K21 hK21 => ?_
        refine W_block ?_
        refine W_seq fun K22 hK22 => ?_
        refine wr ?_
        refine dp (pv_fieldA (k := 1) (by kernel_rfl) rfl) ?_
        refine dq (lv_load (by kernel_rfl) rfl (m1.at rfl)) ?_
        refine dm ?_
        refine dp (pv_idxA (e := 41) (k := 2) (by kernel_rfl) ha.sl rfl rfl (ha.lt hk)) ?_
        refine dp (pv_fieldA (k := 1) (by kernel_rfl) rfl) ?_
        refine dq (lv_load (by kernel_rfl) rfl (((ha.ext hx).row hk).at rfl)) ?_
        refine dm ?_
        refine dp (pv_idxA (e := 9) (k := 1) (by kernel_rfl) hav.sl rfl rfl (hav.lt hj)) ?_
        refine dq (lv_load (by kernel_rfl) rfl (((hav.ext hx).row hj).at0 rfl)) ?_
        refine da ?_
        refine D_end (hK22 _ _ ?_)
        refine W_seq fun K23 hK23 => ?_
        refine W_seq fun K24 hK24 => ?_
        refine wr ?_
        refine dp (pv_fieldA (k := 1) (by kernel_rfl) rfl) ?_
        refine dq (lv_load (by kernel_rfl) rfl (m1.at rfl)) ?_
        refine dm ?_
        refine dp (pv_idxA (e := 41) (k := 2) (by kernel_rfl) ha.sl rfl rfl (ha.lt hk)) ?_
        refine dp (pv_fieldA (k := 0) (by kernel_rfl) rfl) ?_
        refine dq (lv_load (by kernel_rfl) rfl (((ha.ext hx).row hk).at rfl)) ?_
        refine dp (pv_lenS (by kernel_rfl) rfl) ?_
        refine dp (pv_leq rfl rfl) ?_
        refine D_end (hK24 _ _ ?_)
        refine W_if rfl (fun c5 => ?_) (fun c5 => ?_)
        ·
         refine wr ?_
         refine dm ?_
         refine D_callP rfl (by kernel_rfl) (upper_w v _ (by omega)) rfl RX.all (fun w18 x18 => ?_)
         replace m1 := m1.ext x18
         replace m2 := m2.ext x18
         replace ho := ho.ext x18
         replace m3 := m3.ext x18
         replace ho2 := ho2.ext x18
         replace m5 := m5.ext x18
         replace hov := hov.ext x18
         replace hvn := hvn.ext x18
         replace hx := hx.trans x18
         refine da ?_
         refine D_end (hK23 _ _ ?_)
         refine wr ?_
         refine dp (pv_fieldA (k := 1) (by kernel_rfl) rfl) ?_
         refine dq (lv_load (by kernel_rfl) rfl (m5.at rfl)) ?_
         refine dm ?_
         refine D_lit (e := 9) (sz := 1) (zs := [S []]) (pv := [(0, ?a31_0)]) (cs := [?a31_0]) rfl (by kernel_rfl) ⟨rfl, rfl⟩ (by kernel_rfl) rfl ?h31 ?f31 RX.all (fun b6 w19 e6 x19 m6 => ?k31)
         case h31 => refine ⟨rfl, ?_, trivial⟩ <;> (conv => lhs; whnf)
         case f31 => rfl
         have g6 : w.heap.size ≤ b6 := by have := hx.size; omega
         have n6_1 : b1 < b6 := by have := m1.lt; omega
         have n6_2 : b2 < b6 := by have := m2.lt; omega
         have n6_3 : b3 < b6 := by have := m3.lt; omega
         have n6_5 : b5 < b6 := by have := m5.lt; omega
         have o6_ho : ∀ k, Value.ownBlock _ = some k → k < b6 := fun k hk => by have := (ho.lt k hk).2; omega
         have o6_ho2 : ∀ k, Value.ownBlock _ = some k → k < b6 := fun k hk => by have := (ho2.lt k hk).2; omega
         replace m1 := m1.ext x19
         replace m2 := m2.ext x19
         replace ho := ho.ext x19
         replace m3 := m3.ext x19
         replace ho2 := ho2.ext x19
         replace m5 := m5.ext x19
         replace hov := hov.ext x19
         replace hvn := hvn.ext x19
         replace hx := hx.trans x19
         refine D_append (lx := [(upS v)]) (e := 9) (sz := 1) (by' := 16) rfl (by kernel_rfl) (by kernel_rfl) (by intro x; rfl) hov (m6.arr (enc := sEnc) (sz := 1) (l := [(upS v)]) rfl (by intro x; rfl) rfl (Nat.le_of_ble_eq_true rfl)) rfl rfl (by intro x _ u hu; simp at hu; rcases hu with rfl <;> rfl) (by simp; omega) (by decide) hvn.1 (.inl rfl) (fun vv2 w20 hov_n x20 => ?_)
         try replace m1 := m1.mod x20 (by first | (intro h; have h2 : b1 = b1 := Option.some.inj h; omega) | (intro h; have h1 := (hov.lt _ h).1; omega) | (intro h; have h1 := o1_hov _ h; omega) | (intro h; exact hov.ne_blk m1 rfl h))
         try replace m2 := m2.mod x20 (by first | (intro h; have h2 : b2 = b2 := Option.some.inj h; omega) | (intro h; have h1 := (hov.lt _ h).1; omega) | (intro h; have h1 := o2_hov _ h; omega) | (intro h; exact hov.ne_blk m2 rfl h))
         try replace ho := ho.mod x20 (by first | assumption | exact (fun k hk e => hov.ne ho rfl e hk) | exact (fun k hk e => hov.ne ho2 rfl e hk) | exact (fun k hk e => hov.ne hov rfl e hk) | exact (fun a ha k hk e => hov.ne (hvo a ha) rfl e hk) | exact (fun a ha k hk e => by have h1 := (hov.lt k e).1; have h2 := (hvn.2.2 a ha).2 k hk; omega))
         try replace m3 := m3.mod x20 (by first | (intro h; have h2 : b3 = b3 := Option.some.inj h; omega) | (intro h; have h1 := (hov.lt _ h).1; omega) | (intro h; have h1 := o3_hov _ h; omega) | (intro h; exact hov.ne_blk m3 rfl h))
         try replace ho2 := ho2.mod x20 (by first | assumption | exact (fun k hk e => hov.ne ho rfl e hk) | exact (fun k hk e => hov.ne ho2 rfl e hk) | exact (fun k hk e => hov.ne hov rfl e hk) | exact (fun a ha k hk e => hov.ne (hvo a ha) rfl e hk) | exact (fun a ha k hk e => by have h1 := (hov.lt k e).1; have h2 := (hvn.2.2 a ha).2 k hk; omega))
         try replace m5 := m5.mod x20 (by first | (intro h; have h2 : b5 = b5 := Option.some.inj h; omega) | (intro h; have h1 := (hov.lt _ h).1; omega) | (intro h; have h1 := o5_hov _ h; omega) | (intro h; exact hov.ne_blk m5 rfl h))
         try replace hvn := hvn.mod x20 (by first | assumption | exact (fun k hk e => hov.ne ho rfl e hk) | exact (fun k hk e => hov.ne ho2 rfl e hk) | exact (fun k hk e => hov.ne hov rfl e hk) | exact (fun a ha k hk e => hov.ne (hvo a ha) rfl e hk) | exact (fun a ha k hk e => by have h1 := (hov.lt k e).1; have h2 := (hvn.2.2 a ha).2 k hk; omega))
         replace hx := hx.own x20 (fun i hi => (Nat.le_trans hvn.2.1 (hov.lt i hi).1))
         replace hov := hov_n
         clear m6
         refine dp (pv_fieldA (k := 1) (by kernel_rfl) rfl) ?_
         refine D_store1 (v := ?v32) rfl rfl ?h32 ?n32 (by kernel_rfl) m5 ?o32 (.inl rfl) (fun w21 x21 xs21 m5 => ?k32)
         case h32 => conv => lhs; whnf
         case n32 => first | rfl | exact isSl.one m1.sl | exact isSl.one m2.sl | exact isSl.one ho.sl | exact isSl.one m3.sl | exact isSl.one ho2.sl | exact isSl.one hov.sl | exact isSl.one hvn.sl | exact isSl.one ha.sl | exact isSl.one hav.sl | exact isSl.one hd.sl | exact isSl.one hg.sl | exact isSl.one hvs.sl
         case o32 => exact Nat.le_of_ble_eq_true rfl
         try dsimp only [setAt, List.set, List.take, List.drop] at m5
         try replace m1 := m1.mod x21 (by first | assumption | (intro k hk h; have h1 := (m1.lt k hk).1; have h2 : k = b5 := h; omega) | (intro k hk h; have h1 := o5_m1 k hk; have h2 : k = b5 := h; omega) | (intro h; have h2 : _ = b5 := h; omega) | (intro hl h; have h1 := a5_m1 hl; have h2 : _ = b5 := h; omega))
         try replace m2 := m2.mod x21 (by first | assumption | (intro k hk h; have h1 := (m2.lt k hk).1; have h2 : k = b5 := h; omega) | (intro k hk h; have h1 := o5_m2 k hk; have h2 : k = b5 := h; omega) | (intro h; have h2 : _ = b5 := h; omega) | (intro hl h; have h1 := a5_m2 hl; have h2 : _ = b5 := h; omega))
         replace ho := ho.mod x21 (fun k hk h => ho.ne_blk (b := b5) (by assumption) (by rfl) (hk.trans (congrArg some h)))
         try replace m3 := m3.mod x21 (by first | assumption | (intro k hk h; have h1 := (m3.lt k hk).1; have h2 : k = b5 := h; omega) | (intro k hk h; have h1 := o5_m3 k hk; have h2 : k = b5 := h; omega) | (intro h; have h2 : _ = b5 := h; omega) | (intro hl h; have h1 := a5_m3 hl; have h2 : _ = b5 := h; omega))
         replace ho2 := ho2.mod x21 (by first | exact (fun k hk h => ho2.ne_blk (b := b5) (by assumption) (by rfl) (hk.trans (congrArg some h))) | (intro k hk h; have h1 := o5_ho2 k hk; have h2 : k = b5 := h; omega))
         replace hov := hov.mod x21 (fun k hk h => hov.ne_blk (b := b5) (by assumption) (by rfl) (hk.trans (congrArg some h)))
         replace hvn := hvn.mod x21 (fun a ha k hk h => (hvn.2.2 a ha).1.ne_blk (b := b5) (by assumption) (by rfl) (hk.trans (congrArg some h)))
         replace hx := hx.own x21 (by intro i hi; have hi2 : i = b5 := hi; subst hi2; omega)
         refine D_end (hK21 _ _ ?_)
         refine wr ?_
         refine dm ?_
         refine dp (pv_add rfl rfl (by unfold inI64; omega)) ?_
         refine da ?_
         refine D_end (?_)
         refine ⟨(j + 1, vv2), ⟨rfl, rfl, rfl, rfl, rfl, rfl, trivial⟩, ⟨hx, m1, m2, ho, m3, ho2, by omega, m5, N, ?_, hvn⟩, by simp only []; omega⟩
         rw [take_snocS hj, List.map_append, List.map_cons, List.map_nil]; first | (rw [upV_yes (by omega)]; exact hov) | (rw [upV_no (by omega)]; exact hov)
        ·
         refine W_skip ?_
         refine hK23 _ _ ?_
         refine wr ?_
         refine dp (pv_fieldA (k := 1) (by kernel_rfl) rfl) ?_
         refine dq (lv_load (by kernel_rfl) rfl (m5.at rfl)) ?_
         refine dm ?_
         refine D_lit (e := 9) (sz := 1) (zs := [S []]) (pv := [(0, ?a36_0)]) (cs := [?a36_0]) rfl (by kernel_rfl) ⟨rfl, rfl⟩ (by kernel_rfl) rfl ?h36 ?f36 RX.all (fun b7 w22 e7 x22 m7 => ?k36)
         case h36 => refine ⟨rfl, ?_, trivial⟩ <;> (conv => lhs; whnf)
         case f36 => rfl
         have g7 : w.heap.size ≤ b7 := by have := hx.size; omega
         have n7_1 : b1 < b7 := by have := m1.lt; omega
         have n7_2 : b2 < b7 := by have := m2.lt; omega
         have n7_3 : b3 < b7 := by have := m3.lt; omega
         have n7_5 : b5 < b7 := by have := m5.lt; omega
         have o7_ho : ∀ k, Value.ownBlock _ = some k → k < b7 := fun k hk => by have := (ho.lt k hk).2; omega
         have o7_ho2 : ∀ k, Value.ownBlock _ = some k → k < b7 := fun k hk => by have := (ho2.lt k hk).2; omega
         replace m1 := m1.ext x22
         replace m2 := m2.ext x22
         replace ho := ho.ext x22
         replace m3 := m3.ext x22
         replace ho2 := ho2.ext x22
         replace m5 := m5.ext x22
         replace hov := hov.ext x22
         replace hvn := hvn.ext x22
         replace hx := hx.trans x22
         refine D_append (lx := [v]) (e := 9) (sz := 1) (by' := 16) rfl (by kernel_rfl) (by kernel_rfl) (by intro x; rfl) hov (m7.arr (enc := sEnc) (sz := 1) (l := [v]) rfl (by intro x; rfl) rfl (Nat.le_of_ble_eq_true rfl)) rfl rfl (by intro x _ u hu; simp at hu; rcases hu with rfl <;> rfl) (by simp; omega) (by decide) hvn.1 (.inl rfl) (fun vv2 w23 hov_n x23 => ?_)
         try replace m1 := m1.mod x23 (by first | (intro h; have h2 : b1 = b1 := Option.some.inj h; omega) | (intro h; have h1 := (hov.lt _ h).1; omega) | (intro h; have h1 := o1_hov _ h; omega) | (intro h; exact hov.ne_blk m1 rfl h))
         try replace m2 := m2.mod x23 (by first | (intro h; have h2 : b2 = b2 := Option.some.inj h; omega) | (intro h; have h1 := (hov.lt _ h).1; omega) | (intro h; have h1 := o2_hov _ h; omega) | (intro h; exact hov.ne_blk m2 rfl h))
         try replace ho := ho.mod x23 (by first | assumption | exact (fun k hk e => hov.ne ho rfl e hk) | exact (fun k hk e => hov.ne ho2 rfl e hk) | exact (fun k hk e => hov.ne hov rfl e hk) | exact (fun a ha k hk e => hov.ne (hvo a ha) rfl e hk) | exact (fun a ha k hk e => by have h1 := (hov.lt k e).1; have h2 := (hvn.2.2 a ha).2 k hk; omega))
         try replace m3 := m3.mod x23 (by first | (intro h; have h2 : b3 = b3 := Option.some.inj h; omega) | (intro h; have h1 := (hov.lt _ h).1; omega) | (intro h; have h1 := o3_hov _ h; omega) | (intro h; exact hov.ne_blk m3 rfl h))
         try replace ho2 := ho2.mod x23 (by first | assumption | exact (fun k hk e => hov.ne ho rfl e hk) | exact (fun k hk e => hov.ne ho2 rfl e hk) | exact (fun k hk e => hov.ne hov rfl e hk) | exact (fun a ha k hk e => hov.ne (hvo a ha) rfl e hk) | exact (fun a ha k hk e => by have h1 := (hov.lt k e).1; have h2 := (hvn.2.2 a ha).2 k hk; omega))
         try replace m5 := m5.mod x23 (by first | (intro h; have h2 : b5 = b5 := Option.some.inj h; omega) | (intro h; have h1 := (hov.lt _ h).1; omega) | (intro h; have h1 := o5_hov _ h; omega) | (intro h; exact hov.ne_blk m5 rfl h))
         try replace hvn := hvn.mod x23 (by first | assumption | exact (fun k hk e => hov.ne ho rfl e hk) | exact (fun k hk e => hov.ne ho2 rfl e hk) | exact (fun k hk e => hov.ne hov rfl e hk) | exact (fun a ha k hk e => hov.ne (hvo a ha) rfl e hk) | exact (fun a ha k hk e => by have h1 := (hov.lt k e).1; have h2 := (hvn.2.2 a ha).2 k hk; omega))
         replace hx := hx.own x23 (fun i hi => (Nat.le_trans hvn.2.1 (hov.lt i hi).1))
         replace hov := hov_n
         clear m7
         refine dp (pv_fieldA (k := 1) (by kernel_rfl) rfl) ?_
         refine D_store1 (v := ?v37) rfl rfl ?h37 ?n37 (by kernel_rfl) m5 ?o37 (.inl rfl) (fun w24 x24 xs24 m5 => ?k37)
         case h37 => conv => lhs; whnf
         case n37 => first | rfl | exact isSl.one m1.sl | exact isSl.one m2.sl | exact isSl.one ho.sl | exact isSl.one m3.sl | exact isSl.one ho2.sl | exact isSl.one hov.sl | exact isSl.one hvn.sl | exact isSl.one ha.sl | exact isSl.one hav.sl | exact isSl.one hd.sl | exact isSl.one hg.sl | exact isSl.one hvs.sl
         case o37 => exact Nat.le_of_ble_eq_true rfl
         try dsimp only [setAt, List.set, List.take, List.drop] at m5
         try replace m1 := m1.mod x24 (by first | assumption | (intro k hk h; have h1 := (m1.lt k hk).1; have h2 : k = b5 := h; omega) | (intro k hk h; have h1 := o5_m1 k hk; have h2 : k = b5 := h; omega) | (intro h; have h2 : _ = b5 := h; omega) | (intro hl h; have h1 := a5_m1 hl; have h2 : _ = b5 := h; omega))
         try replace m2 := m2.mod x24 (by first | assumption | (intro k hk h; have h1 := (m2.lt k hk).1; have h2 : k = b5 := h; omega) | (intro k hk h; have h1 := o5_m2 k hk; have h2 : k = b5 := h; omega) | (intro h; have h2 : _ = b5 := h; omega) | (intro hl h; have h1 := a5_m2 hl; have h2 : _ = b5 := h; omega))
         replace ho := ho.mod x24 (fun k hk h => ho.ne_blk (b := b5) (by assumption) (by rfl) (hk.trans (congrArg some h)))
         try replace m3 := m3.mod x24 (by first | assumption | (intro k hk h; have h1 := (m3.lt k hk).1; have h2 : k = b5 := h; omega) | (intro k hk h; have h1 := o5_m3 k hk; have h2 : k = b5 := h; omega) | (intro h; have h2 : _ = b5 := h; omega) | (intro hl h; have h1 := a5_m3 hl; have h2 : _ = b5 := h; omega))
         replace ho2 := ho2.mod x24 (by first | exact (fun k hk h => ho2.ne_blk (b := b5) (by assumption) (by rfl) (hk.trans (congrArg some h))) | (intro k hk h; have h1 := o5_ho2 k hk; have h2 : k = b5 := h; omega))
         replace hov := hov.mod x24 (fun k hk h => hov.ne_blk (b := b5) (by assumption) (by rfl) (hk.trans (congrArg some h)))
         replace hvn := hvn.mod x24 (fun a ha k hk h => (hvn.2.2 a ha).1.ne_blk (b := b5) (by assumption) (by rfl) (hk.trans (congrArg some h)))
         replace hx := hx.own x24 (by intro i hi; have hi2 : i = b5 := hi; subst hi2; omega)
         refine D_end (hK21 _ _ ?_)
         refine wr ?_
         refine dm ?_
         refine dp (pv_add rfl rfl (by unfold inI64; omega)) ?_
         refine da ?_
         refine D_end (?_)
         refine ⟨(j + 1, vv2), ⟨rfl, rfl, rfl, rfl, rfl, rfl, trivial⟩, ⟨hx, m1, m2, ho, m3, ho2, by omega, m5, N, ?_, hvn⟩, by simp only []; omega⟩
         rw [take_snocS hj, List.map_append, List.map_cons, List.map_nil]; first | (rw [upV_yes (by omega)]; exact hov) | (rw [upV_no (by omega)]; exact hov)
       ·
        have hvo := hvn.o
        replace hov := hov.mono hvn.2.1
        refine W_exit ?_
        refine hK17 _ _ ?_
        refine wr ?_
        refine dp (pv_fieldA (k := 1) (by kernel_rfl) rfl) ?_
        refine dq (lv_load (by kernel_rfl) rfl (m3.at rfl)) ?_
        refine dq (lv_loadA (k := 2) (by kernel_rfl) rfl rfl m5.row) ?_
        refine D_lit (e := 41) (sz := 2) (zs := [S [], .slice none 0 0]) (pv := [(0, .agg ⟨[?a40_0, ?a40_1]⟩)]) (cs := [?a40_0, ?a40_1]) rfl (by kernel_rfl) ⟨rfl, rfl⟩ (by kernel_rfl) rfl ?h40 ?f40 RX.all (fun b8 w25 e8 x25 m8 => ?k40)
        case h40 => refine ⟨rfl, ?_, trivial⟩ <;> (conv => lhs; whnf)
        case f40 => rfl
        have g8 : w.heap.size ≤ b8 := by have := hx.size; omega
        have n8_1 : b1 < b8 := by have := m1.lt; omega
        have n8_2 : b2 < b8 := by have := m2.lt; omega
        have n8_3 : b3 < b8 := by have := m3.lt; omega
        have n8_5 : b5 < b8 := by have := m5.lt; omega
        have o8_ho : ∀ k, Value.ownBlock _ = some k → k < b8 := fun k hk => by have := (ho.lt k hk).2; omega
        have o8_ho2 : ∀ k, Value.ownBlock _ = some k → k < b8 := fun k hk => by have := (ho2.lt k hk).2; omega
        replace m1 := m1.ext x25
        replace m2 := m2.ext x25
        replace ho := ho.ext x25
        replace m3 := m3.ext x25
        replace ho2 := ho2.ext x25
        replace m5 := m5.ext x25
        replace hov := hov.ext x25
        replace hvo := hvo.ext x25
        replace hx := hx.trans x25
        refine D_append (lx := [⟨upS a.typ, ((a.vals.take j).map (upV a)), vv⟩]) (e := 41) (sz := 2) (by' := 40) rfl (by kernel_rfl) (by kernel_rfl) (by intro x; rfl) ho2 (m8.arr (enc := AttrV.cs) (sz := 2) (l := [⟨upS a.typ, ((a.vals.take j).map (upV a)), vv⟩]) rfl (by intro x; rfl) rfl (Nat.le_of_ble_eq_true rfl)) rfl rfl (by intro x hx2 u hu; rw [List.mem_singleton.1 hx2] at hu; rcases List.mem_cons.1 hu with rfl | hu; (exact rfl); rw [List.mem_singleton.1 hu]; exact isSl.one hov.sl) (by have := congrArg List.length hlx; simp at this ⊢; omega) (by decide) hx.size (.inl rfl) (fun vt2 w26 ho2_n x26 => ?_)
        try replace m1 := m1.mod x26 (by first | (intro h; have h2 : b1 = b1 := Option.some.inj h; omega) | (intro h; have h1 := (ho2.lt _ h).1; omega) | (intro h; have h1 := o1_ho2 _ h; omega) | (intro h; exact ho2.ne_blk m1 rfl h))
        try replace m2 := m2.mod x26 (by first | (intro h; have h2 : b2 = b2 := Option.some.inj h; omega) | (intro h; have h1 := (ho2.lt _ h).1; omega) | (intro h; have h1 := o2_ho2 _ h; omega) | (intro h; exact ho2.ne_blk m2 rfl h))
        try replace ho := ho.mod x26 (by first | assumption | exact (fun k hk e => ho2.ne ho rfl e hk) | exact (fun k hk e => ho2.ne ho2 rfl e hk) | exact (fun k hk e => ho2.ne hov rfl e hk) | exact (fun a ha k hk e => ho2.ne (hvo a ha) rfl e hk) | exact (fun a ha k hk e => by have h1 := (ho2.lt k e).1; have h2 := (hvn.2.2 a ha).2 k hk; omega))
        try replace m3 := m3.mod x26 (by first | (intro h; have h2 : b3 = b3 := Option.some.inj h; omega) | (intro h; have h1 := (ho2.lt _ h).1; omega) | (intro h; have h1 := o3_ho2 _ h; omega) | (intro h; exact ho2.ne_blk m3 rfl h))
        try replace m5 := m5.mod x26 (by first | (intro h; have h2 : b5 = b5 := Option.some.inj h; omega) | (intro h; have h1 := (ho2.lt _ h).1; omega) | (intro h; have h1 := o5_ho2 _ h; omega) | (intro h; exact ho2.ne_blk m5 rfl h))
        try replace hov := hov.mod x26 (by first | assumption | exact (fun k hk e => ho2.ne ho rfl e hk) | exact (fun k hk e => ho2.ne ho2 rfl e hk) | exact (fun k hk e => ho2.ne hov rfl e hk) | exact (fun a ha k hk e => ho2.ne (hvo a ha) rfl e hk) | exact (fun a ha k hk e => by have h1 := (ho2.lt k e).1; have h2 := (hvn.2.2 a ha).2 k hk; omega))
        try replace hvo := hvo.mod x26 (by first | assumption | exact (fun k hk e => ho2.ne ho rfl e hk) | exact (fun k hk e => ho2.ne ho2 rfl e hk) | exact (fun k hk e => ho2.ne hov rfl e hk) | exact (fun a ha k hk e => ho2.ne (hvo a ha) rfl e hk) | exact (fun a ha k hk e => by have h1 := (ho2.lt k e).1; have h2 := (hvn.2.2 a ha).2 k hk; omega))
        replace hx := hx.own x26 (fun i hi => (ho2.lt i hi).1)
        replace ho2 := ho2_n
        clear m8
        refine dp (pv_fieldA (k := 1) (by kernel_rfl) rfl) ?_
        refine D_store1 (v := ?v41) rfl rfl ?h41 ?n41 (by kernel_rfl) m3 ?o41 (.inl rfl) (fun w27 x27 xs27 m3 => ?k41)
        case h41 => conv => lhs; whnf
        case n41 => first | rfl | exact isSl.one m1.sl | exact isSl.one m2.sl | exact isSl.one ho.sl | exact isSl.one ho2.sl | exact isSl.one m5.sl | exact isSl.one hov.sl | exact isSl.one hvo.sl | exact isSl.one ha.sl | exact isSl.one hav.sl | exact isSl.one hd.sl | exact isSl.one hg.sl | exact isSl.one hvs.sl
        case o41 => exact Nat.le_of_ble_eq_true rfl
        try dsimp only [setAt, List.set, List.take, List.drop] at m3
        try replace m1 := m1.mod x27 (by first | assumption | (intro k hk h; have h1 := (m1.lt k hk).1; have h2 : k = b3 := h; omega) | (intro k hk h; have h1 := o3_m1 k hk; have h2 : k = b3 := h; omega) | (intro h; have h2 : _ = b3 := h; omega) | (intro hl h; have h1 := a3_m1 hl; have h2 : _ = b3 := h; omega))
        try replace m2 := m2.mod x27 (by first | assumption | (intro k hk h; have h1 := (m2.lt k hk).1; have h2 : k = b3 := h; omega) | (intro k hk h; have h1 := o3_m2 k hk; have h2 : k = b3 := h; omega) | (intro h; have h2 : _ = b3 := h; omega) | (intro hl h; have h1 := a3_m2 hl; have h2 : _ = b3 := h; omega))
        replace ho := ho.mod x27 (fun k hk h => ho.ne_blk (b := b3) (by assumption) (by rfl) (hk.trans (congrArg some h)))
        replace ho2 := ho2.mod x27 (by first | exact (fun k hk h => ho2.ne_blk (b := b3) (by assumption) (by rfl) (hk.trans (congrArg some h))) | (intro k hk h; have h1 := o5_ho2 k hk; have h2 : k = b3 := h; omega))
        try replace m5 := m5.mod x27 (by first | assumption | (intro k hk h; have h1 := (m5.lt k hk).1; have h2 : k = b3 := h; omega) | (intro k hk h; have h1 := o3_m5 k hk; have h2 : k = b3 := h; omega) | (intro h; have h2 : _ = b3 := h; omega) | (intro hl h; have h1 := a3_m5 hl; have h2 : _ = b3 := h; omega))
        replace hov := hov.mod x27 (fun k hk h => hov.ne_blk (b := b3) (by assumption) (by rfl) (hk.trans (congrArg some h)))
        replace hvo := hvo.mod x27 (fun a ha k hk h => (hvo a ha).ne_blk (b := b3) (by assumption) (by rfl) (hk.trans (congrArg some h)))
        replace hx := hx.own x27 (by intro i hi; have hi2 : i = b3 := hi; subst hi2; omega)
        refine D_end (hK15 _ _ ?_)
        refine wr ?_
        refine dm ?_
        refine dp (pv_add rfl rfl (by unfold inI64; omega)) ?_
        refine da ?_
        refine D_end (?_)
        refine ⟨(k + 1, vt2, lx ++ [⟨upS a.typ, ((a.vals.take j).map (upV a)), vv⟩]), ⟨rfl, rfl, rfl, rfl, trivial⟩, ⟨hx, m1, m2, ho, by omega, m3, ho2, hvo.add hov, ?_⟩, by simp only []; omega⟩
        rw [List.map_append, take_snocS (toA_at hk), List.map_append, hlx, List.map_cons, List.map_nil, List.map_cons, List.map_nil, upAttr_eq (j := j) (by omega)]; rfl
     ·
      rw [List.take_of_length_le (by simp; omega)] at hlx
      have hs2 : SmallE ⟨(nl.map upA), lx.map AttrV.toA⟩ := by
       rw [hlx]; exact smallE (e := upE ⟨nl, (l.map AttrV.toA)⟩) (by rw [wE_up]; omega)
      refine W_exit ?_
      refine hK11 _ _ ?_
      refine W_seq fun K25 hK25 => ?_
      refine W_draw (R := Ext) Ext.refl (fun _ _ _ => Ext.trans) (by kernel_rfl) [0, 2] [(0, .l, false), (2, .l, false), (1, .x, false), (3, .x, false), (4, .x, false), (5, .p, false), (6, .x, false), (7, .p, false), (8, .p, false)] rfl (by kernel_rfl) (by kernel_rfl) (fun w28 ew28 => ?_)
      have x28 : Ext w13 w28 := by rw [ew28]; exact Ext.drew _
      clear ew28
      replace m1 := m1.ext x28
      replace m2 := m2.ext x28
      replace ho := ho.ext x28
      replace m3 := m3.ext x28
      replace ho2 := ho2.ext x28
      replace hvo := hvo.ext x28
      replace hx := hx.trans x28
      refine D_l rfl (fun w' hR => lv_loadA (k := 2) (by kernel_rfl) rfl rfl (m3.ext hR).row) ?_
      refine D_l rfl (fun w' hR => lv_loadA (k := 2) (by kernel_rfl) rfl rfl (m1.ext hR).row) ?_
      refine D_callG rfl (by kernel_rfl) (keys_w (nl.map upA) lx vx vt _ (ho.arr (by intro x; rfl)) (ho2.arr (by intro x; rfl)) hvo.at (hg.ext hx) hs2) rfl RX.ext (fun vk w29 x29 hk1 => ?_)
      have hsz29 := hx.size
      replace m1 := m1.ext x29
      replace m2 := m2.ext x29
      replace ho := ho.ext x29
      replace m3 := m3.ext x29
      replace ho2 := ho2.ext x29
      replace hvo := hvo.ext x29
      replace hx := hx.trans x29
      replace hk1 := hk1.arr (by intro x; rfl)
      rw [hlx, show keysM ⟨(nl.map upA), (l.map AttrV.toA).map upAttr⟩ = (keysM ⟨nl, (l.map AttrV.toA)⟩) from up_keys ⟨nl, (l.map AttrV.toA)⟩] at hk1
      refine D_callG rfl (by kernel_rfl) (keys_w nl l vd va _ (hd.ext hx) (ha.ext hx) (hvs.ext hx) (hg.ext hx) hs) rfl RX.ext (fun vr w30 x30 hk2 => ?_)
      have hsz30 := hx.size
      replace m1 := m1.ext x30
      replace m2 := m2.ext x30
      replace ho := ho.ext x30
      replace m3 := m3.ext x30
      replace ho2 := ho2.ext x30
      replace hvo := hvo.ext x30
      replace hk1 := hk1.ext x30
      replace hx := hx.trans x30
      replace hk2 := hk2.arr (by intro x; rfl)
      refine D_callP rfl (by kernel_rfl) (texts_w (keysM ⟨nl, (l.map AttrV.toA)⟩) (keysM ⟨nl, (l.map AttrV.toA)⟩) vk vr _ hk1 hk2 (by omega) (by omega)) rfl RX.ext (fun w31 x31 => ?_)
      replace m1 := m1.ext x31
      replace m2 := m2.ext x31
      replace ho := ho.ext x31
      replace m3 := m3.ext x31
      replace ho2 := ho2.ext x31
      replace hvo := hvo.ext x31
      replace hk1 := hk1.ext x31
      replace hk2 := hk2.ext x31
      replace hx := hx.trans x31
      refine dm ?_
      refine D_split 102 rfl (fun c6 => ?_) (fun c6 => ?_)
      ·
       refine D_callP rfl (by kernel_rfl) (knownI_w _) rfl RX.ext (fun w32 x32 => ?_)
       replace m1 := m1.ext x32
       replace m2 := m2.ext x32
       replace ho := ho.ext x32
       replace m3 := m3.ext x32
       replace ho2 := ho2.ext x32
       replace hvo := hvo.ext x32
       replace hk1 := hk1.ext x32
       replace hk2 := hk2.ext x32
       replace hx := hx.trans x32
       refine dk' ?_
       refine da ?_
       refine D_end (hK25 _ _ ?_)
       refine W_ret ?_
       try dsimp only [then', inBlk, noGo]
       refine ro ?_
       exact ⟨rfl, hx⟩
      ·
       simp at c6

end Go.Proofs.YtcjjjmhhpejdoaaGreatDoor
