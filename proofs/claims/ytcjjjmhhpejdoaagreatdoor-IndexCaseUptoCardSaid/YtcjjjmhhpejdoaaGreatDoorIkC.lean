/-
  Walks.
-/
import Derived.Test.YtcjjjmhhpejdoaaGreatDoorChecked
import Derived.Test.YtcjjjmhhpejdoaaGreatDoorSpMem
import Derived.KernelRfl
import Derived.Test.YtcjjjmhhpejdoaaGreatDoorIkB
namespace Go.Proofs.YtcjjjmhhpejdoaaGreatDoor
open Go.Vc Go.Sp
attribute [local irreducible] W XW Dw DwT
set_option linter.unusedVariables false
set_option linter.unusedSimpArgs false

@[reducible] def encP (p : Value × Value) : List Value := [p.1, p.2]
def wA1 (a : Ava) : Nat := 1 + a.typ.length + a.val.length
theorem wDn_eq (l : List Ava) : wDn l = (l.map wA1).sum := rfl

set_option maxRecDepth 100000 in
set_option maxHeartbeats 1000000 in
theorem great_w (nl : List Ava) (l : List AttrV) (vd va vs : Value) (w : World) (hv : Arr encP 2 w vs [(vd, va)]) (hd : Arr Ava.cs 2 w vd nl) (ha : Arr AttrV.cs 2 w va l) (hvs : ValsAt w l) (hW : wE ⟨nl, (l.map AttrV.toA)⟩ ≤ 1152921504606846976) :
  Calls Tryz.prog 22 [vs].toArray w (Pure w (B (decide (4000 < wE ⟨nl, (l.map AttrV.toA)⟩)))) := by
 refine calls_W Tryz.func22 rfl rfl rfl (by kernel_rfl) ?_
 have hx := Ext.refl w
 have hone : [(vd, va)].length = 1 := rfl
 have hWd : wE ⟨nl, (l.map AttrV.toA)⟩ = wDn nl + wAttrs (l.map AttrV.toA) := rfl
 have hnll : nl.length ≤ wDn nl := sum_len (f := wA1) (fun _ => by unfold wA1; omega) nl
 have hll : l.length ≤ wAttrs (l.map AttrV.toA) := by have := sum_len (f := wAttr) (fun _ => by unfold wAttr; omega) (l.map AttrV.toA); simpa [wAttrs] using this
 refine W_seq fun K1 hK1 => ?_
 refine wr ?_
 refine da ?_
 refine D_end (hK1 _ _ ?_)
 refine W_seq fun K2 hK2 => ?_
 refine wr ?_
 refine da ?_
 refine D_end (hK2 _ _ ?_)
 refine W_seq fun K3 hK3 => ?_
 refine W_seq fun K4 hK4 => ?_
 refine wr ?_
 refine da ?_
 refine D_end (hK4 _ _ ?_)
 refine W_block ?_
 refine W_loop (G := Nat × Int) (fun (j, s) => [(0, vs), (3, I s), (4, I ↑j)]) (fun (j, s) w' => Ext w w' ∧ j ≤ 1 ∧ (j = 0 ∧ s = 0 ∨ j = 1 ∧ s = (wE ⟨nl, (l.map AttrV.toA)⟩ : Nat))) (fun (j, s) => 1 - j) (0, 0) ?_ ?_ ?_
 ·
  exact ⟨rfl, rfl, rfl, trivial⟩
 ·
  exact ⟨hx, by omega, .inl ⟨rfl, rfl⟩⟩
 ·
  intro X1 g1 w1 hF1
  obtain ⟨j, s⟩ := g1
  clear hx
  obtain ⟨hx, hj1, hjs⟩ := hF1
  refine W_seq fun K5 hK5 => ?_
  refine W_seq fun K6 hK6 => ?_
  refine wr ?_
  iterate 2 refine dm ?_
  refine dp (pv_lenV (e := 31) (k := 2) (by kernel_rfl) hv.sl rfl) ?_
  refine dp (pv_lss rfl rfl) ?_
  refine D_end (hK6 _ _ ?_)
  refine W_if rfl (fun c1 => ?_) (fun c1 => ?_)
  ·
   have hj0 : j = 0 := by omega
   have hk0 : [(vd, va)][j]? = some (vd, va) := by rw [hj0]; rfl
   refine W_skip ?_
   refine hK5 _ _ ?_
   refine W_seq fun K7 hK7 => ?_
   refine W_block ?_
   refine W_seq fun K8 hK8 => ?_
   refine wr ?_
   iterate 2 refine dm ?_
   refine dp (pv_idxA (e := 31) (k := 2) (by kernel_rfl) hv.sl rfl rfl (hv.lt hk0)) ?_
   refine dq (lv_loadA (by kernel_rfl) rfl rfl ((hv.ext hx).row hk0)) ?_
   refine D_alloc (cs := [.slice none 0 0, .slice none 0 0]) rfl (by kernel_rfl) RX.all (fun b1 w2 e1 x2 m1 => ?_)
   have g1 : w.heap.size ≤ b1 := by have := hx.size; omega
   replace hx := hx.trans x2
   refine D_store (v := ?v8) (vs := ?u8) rfl rfl ?h8 ?c8 ?s8 m1 ?o8 ?n8 (.inl rfl) (fun w3 x3 xs3 m1 => ?k8)
   case h8 => conv => lhs; whnf
   case c8 => exact rfl
   case s8 => kernel_rfl
   case o8 => exact Nat.le_of_ble_eq_true rfl
   case n8 => exact List.forall_mem_cons.2 ⟨hd.sl.one, List.forall_mem_cons.2 ⟨ha.sl.one, fun _ h => by cases h⟩⟩
   try dsimp only [setAt, List.set, List.take, List.drop] at m1
   replace hx := hx.own x3 (by intro i hi; have hi2 : i = b1 := hi; subst hi2; omega)
   refine D_end (hK8 _ _ ?_)
   refine W_seq fun K9 hK9 => ?_
   refine W_seq fun K10 hK10 => ?_
   refine wr ?_
   refine da ?_
   refine D_end (hK10 _ _ ?_)
   refine W_block ?_
   refine W_loop (G := Nat × Int) (fun (k, s) => [(0, vs), (3, I s), (4, I ↑j), (5, ptr b1 0), (6, I ↑k)]) (fun (k, s) w' => Ext w w' ∧ Blk w' b1 [vd, va] 31 ∧ k ≤ nl.length ∧ s = (((nl.take k).map wA1).sum : Nat)) (fun (k, s) => nl.length - k) (0, s) ?_ ?_ ?_
   ·
    exact ⟨rfl, rfl, rfl, rfl, rfl, trivial⟩
   ·
    exact ⟨hx, m1, Nat.zero_le _, by simp; omega⟩
   ·
    intro X4 g4 w4 hF4
    obtain ⟨k, s⟩ := g4
    clear hx m1
    obtain ⟨hx, m1, hk1, hs2⟩ := hF4
    refine W_seq fun K11 hK11 => ?_
    refine W_seq fun K12 hK12 => ?_
    refine wr ?_
    refine dm ?_
    refine dp (pv_fieldA (k := 0) (by kernel_rfl) rfl) ?_
    refine dq (lv_load (by kernel_rfl) rfl (m1.at rfl)) ?_
    refine dp (pv_lenV (e := 50) (k := 2) (by kernel_rfl) hd.sl rfl) ?_
    refine dp (pv_lss rfl rfl) ?_
    refine D_end (hK12 _ _ ?_)
    refine W_if rfl (fun c2 => ?_) (fun c2 => ?_)
    ·
     obtain ⟨x, hkn⟩ : ∃ x, nl[k]? = some x := ⟨_, List.getElem?_eq_getElem (by omega)⟩
     have hst : ((nl.take k).map wA1).sum + wA1 x ≤ wDn nl := sum_take (f := wA1) hkn
     have hx1 : wA1 x = 1 + x.typ.length + x.val.length := rfl
     refine W_skip ?_
     refine hK11 _ _ ?_
     refine W_seq fun K13 hK13 => ?_
     refine W_block ?_
     refine W_draw (R := Ext) Ext.refl (fun _ _ _ => Ext.trans) (by kernel_rfl) [3, 7, 11, 15] [(0, .p, false), (1, .p, false), (2, .p, false), (3, .l, false), (4, .p, false), (5, .p, false), (6, .p, false), (7, .l, false), (8, .p, false), (9, .p, false), (10, .p, false), (11, .l, false), (12, .p, false), (13, .p, false), (14, .p, false), (15, .l, false), (16, .p, false), (17, .p, false), (18, .p, false)] rfl (by kernel_rfl) (by kernel_rfl) (fun w5 ew5 => ?_)
     have x5 : Ext w4 w5 := by rw [ew5]; exact Ext.drew _
     clear ew5
     replace m1 := m1.ext x5
     replace hx := hx.trans x5
     refine dm ?_
     refine dp (pv_add rfl rfl (by unfold inI64; omega)) ?_
     refine dp (pv_fieldA (k := 0) (by kernel_rfl) rfl) ?_
     refine D_l rfl (fun w' hR => lv_load (by kernel_rfl) rfl ((m1.ext hR).at rfl)) ?_
     refine dm ?_
     refine dp (pv_idxA (e := 50) (k := 2) (by kernel_rfl) hd.sl rfl rfl (hd.lt hkn)) ?_
     refine dp (pv_fieldA (k := 0) (by kernel_rfl) rfl) ?_
     refine D_l rfl (fun w' hR => lv_load (by kernel_rfl) rfl (((hd.ext (hx.trans hR)).row hkn).at rfl)) ?_
     refine dp (pv_lenS (by kernel_rfl) rfl) ?_
     refine dp (pv_add rfl rfl (by unfold inI64; omega)) ?_
     refine dp (pv_fieldA (k := 0) (by kernel_rfl) rfl) ?_
     refine D_l rfl (fun w' hR => lv_load (by kernel_rfl) rfl ((m1.ext hR).at rfl)) ?_
     refine dm ?_
     refine dp (pv_idxA (e := 50) (k := 2) (by kernel_rfl) hd.sl rfl rfl (hd.lt hkn)) ?_
     refine dp (pv_fieldA (k := 1) (by kernel_rfl) rfl) ?_
     refine D_l rfl (fun w' hR => lv_load (by kernel_rfl) rfl (((hd.ext (hx.trans hR)).row hkn).at rfl)) ?_
     refine dp (pv_lenS (by kernel_rfl) rfl) ?_
     refine dp (pv_add rfl rfl (by unfold inI64; omega)) ?_
     refine da ?_
     refine D_end (hK13 _ _ ?_)
     refine wr ?_
     refine dm ?_
     refine dp (pv_add rfl rfl (by unfold inI64; omega)) ?_
     refine da ?_
     refine D_end (?_)
     refine ⟨(k + 1, s + 1 + x.typ.length + x.val.length), ⟨rfl, rfl, rfl, rfl, rfl, trivial⟩, ⟨hx, m1, by omega, ?_⟩, by simp only []; omega⟩
     rw [take_snocS hkn, List.map_append, List.sum_append, List.map_cons, List.map_nil, List.sum_cons, List.sum_nil]; omega
    ·
     refine W_exit ?_
     refine hK9 _ _ ?_
     refine W_seq fun K14 hK14 => ?_
     refine wr ?_
     refine da ?_
     refine D_end (hK14 _ _ ?_)
     refine W_block ?_
     refine W_loop (G := Nat × Int) (fun (i, s) => [(0, vs), (3, I s), (4, I ↑j), (5, ptr b1 0), (7, I ↑i)]) (fun (i, s) w' => Ext w w' ∧ Blk w' b1 [vd, va] 31 ∧ i ≤ l.length ∧ s = (wDn nl + wAttrs ((l.map AttrV.toA).take i) : Nat)) (fun (i, s) => l.length - i) (0, s) ?_ ?_ ?_
     ·
      exact ⟨rfl, rfl, rfl, rfl, rfl, trivial⟩
     ·
      exact ⟨hx, m1, Nat.zero_le _, by rw [List.take_of_length_le (by omega), ← wDn_eq] at hs2; rw [hs2]; simp [wAttrs]⟩
     ·
      intro X6 g6 w6 hF6
      obtain ⟨i, s⟩ := g6
      clear hx m1
      obtain ⟨hx, m1, hi1, hs3⟩ := hF6
      refine W_seq fun K15 hK15 => ?_
      refine W_seq fun K16 hK16 => ?_
      refine wr ?_
      refine dm ?_
      refine dp (pv_fieldA (k := 1) (by kernel_rfl) rfl) ?_
      refine dq (lv_load (by kernel_rfl) rfl (m1.at rfl)) ?_
      refine dp (pv_lenV (e := 41) (k := 2) (by kernel_rfl) ha.sl rfl) ?_
      refine dp (pv_lss rfl rfl) ?_
      refine D_end (hK16 _ _ ?_)
      refine W_if rfl (fun c3 => ?_) (fun c3 => ?_)
      ·
       obtain ⟨a, hk⟩ : ∃ a, l[i]? = some a := ⟨_, List.getElem?_eq_getElem (by omega)⟩
       have hav := hvs.at hk
       have hst := sum_take (f := wAttr) (toA_at hk)
       have hwa : wAttr a.toA = 1 + a.typ.length + wVals a.vals := rfl
       have hst2 : wAttrs ((l.map AttrV.toA).take i) + wAttr a.toA ≤ wAttrs (l.map AttrV.toA) := hst
       have hvl : a.vals.length ≤ wVals a.vals := sum_len (fun _ => by omega) a.vals
       refine W_skip ?_
       refine hK15 _ _ ?_
       refine W_seq fun K17 hK17 => ?_
       refine W_block ?_
       refine W_seq fun K18 hK18 => ?_
       refine wr ?_
       refine dm ?_
       refine dp (pv_add rfl rfl (by unfold inI64; omega)) ?_
       refine dp (pv_fieldA (k := 1) (by kernel_rfl) rfl) ?_
       refine dq (lv_load (by kernel_rfl) rfl (m1.at rfl)) ?_
       refine dm ?_
       refine dp (pv_idxA (e := 41) (k := 2) (by kernel_rfl) ha.sl rfl rfl (ha.lt hk)) ?_
       refine dp (pv_fieldA (k := 0) (by kernel_rfl) rfl) ?_
       refine dq (lv_load (by kernel_rfl) rfl (((ha.ext hx).row hk).at rfl)) ?_
       refine dp (pv_lenS (by kernel_rfl) rfl) ?_
       refine dp (pv_add rfl rfl (by unfold inI64; omega)) ?_
       refine da ?_
       refine D_end (hK18 _ _ ?_)
       refine W_seq fun K19 hK19 => ?_
       refine W_seq fun K20 hK20 => ?_
       refine wr ?_
       refine da ?_
       refine D_end (hK20 _ _ ?_)
       refine W_block ?_
       refine W_loop (G := Nat × Int) (fun (q, s) => [(0, vs), (3, I s), (4, I ↑j), (5, ptr b1 0), (7, I ↑i), (8, I ↑q)]) (fun (q, s) w' => Ext w w' ∧ Blk w' b1 [vd, va] 31 ∧ q ≤ a.vals.length ∧ s = (wDn nl + wAttrs ((l.map AttrV.toA).take i) + 1 + a.typ.length + wVals (a.vals.take q) : Nat)) (fun (q, s) => a.vals.length - q) (0, s + 1 + a.typ.length) ?_ ?_ ?_
       ·
        exact ⟨rfl, rfl, rfl, rfl, rfl, rfl, trivial⟩
       ·
        exact ⟨hx, m1, Nat.zero_le _, by simp [wVals]; omega⟩
       ·
        intro X7 g7 w7 hF7
        obtain ⟨q, s⟩ := g7
        clear hx m1
        obtain ⟨hx, m1, hq1, hs4⟩ := hF7
        refine W_seq fun K21 hK21 => ?_
        refine W_seq fun K22 hK22 => ?_
        refine wr ?_
        refine dm ?_
        refine dp (pv_fieldA (k := 1) (by kernel_rfl) rfl) ?_
        refine dq (lv_load (by kernel_rfl) rfl (m1.at rfl)) ?_
        refine dm ?_
        refine dp (pv_idxA (e := 41) (k := 2) (by kernel_rfl) ha.sl rfl rfl (ha.lt hk)) ?_
        refine dp (pv_fieldA (k := 1) (by kernel_rfl) rfl) ?_
        refine dq (lv_load (by kernel_rfl) rfl (((ha.ext hx).row hk).at rfl)) ?_
        refine dp (pv_lenV (e := 9) (k := 1) (by kernel_rfl) hav.sl rfl) ?_
        refine dp (pv_lss rfl rfl) ?_
        refine D_end (hK22 _ _ ?_)
        refine W_if rfl (fun c4 => ?_) (fun c4 => ?_)
        ·
         obtain ⟨v, hq⟩ : ∃ v, a.vals[q]? = some v := ⟨_, List.getElem?_eq_getElem (by omega)⟩
         have hst3 := sum_take (f := fun v : Str => 1 + v.length) hq
         have hst4 : wVals (a.vals.take q) + (1 + v.length) ≤ wVals a.vals := hst3
         refine W_skip ?_
         refine hK21 _ _ ?_
         refine W_seq fun K23 hK23 => ?_
         refine W_block ?_
         refine wr ?_
         refine dm ?_
         refine dp (pv_add rfl rfl (by unfold inI64; omega)) ?_
         refine dp (pv_fieldA (k := 1) (by kernel_rfl) rfl) ?_
         refine dq (lv_load (by kernel_rfl) rfl (m1.at rfl)) ?_
         refine dm ?_
         refine dp (pv_idxA (e := 41) (k := 2) (by kernel_rfl) ha.sl rfl rfl (ha.lt hk)) ?_
         refine dp (pv_fieldA (k := 1) (by kernel_rfl) rfl) ?_
         refine dq (lv_load (by kernel_rfl) rfl (((ha.ext hx).row hk).at rfl)) ?_
         refine dm ?_
         refine dp (pv_idxA (e := 9) (k := 1) (by kernel_rfl) hav.sl rfl rfl (hav.lt hq)) ?_
         refine dq (lv_load (by kernel_rfl) rfl (((hav.ext hx).row hq).at0 rfl)) ?_
         refine dp (pv_lenS (by kernel_rfl) rfl) ?_
         refine dp (pv_add rfl rfl (by unfold inI64; omega)) ?_
         refine da ?_
         refine D_end (hK23 _ _ ?_)
         refine wr ?_
         refine dm ?_
         refine dp (pv_add rfl rfl (by unfold inI64; omega)) ?_
         refine da ?_
         refine D_end (?_)
         refine ⟨(q + 1, s + 1 + v.length), ⟨rfl, rfl, rfl, rfl, rfl, rfl, trivial⟩, ⟨hx, m1, by omega, ?_⟩, by simp only []; omega⟩
         have e : wVals (a.vals.take (q + 1)) = wVals (a.vals.take q) + (1 + v.length) := by unfold wVals; rw [take_snocS hq, List.map_append, List.sum_append]; simp
         rw [e]; omega
        ·
         refine W_exit ?_
         refine hK19 _ _ ?_
         refine W_seq fun K24 hK24 => ?_
         refine wr ?_
         refine dm ?_
         refine dp (pv_gtr rfl rfl) ?_
         refine D_end (hK24 _ _ ?_)
         refine W_if rfl (fun c5 => ?_) (fun c5 => ?_)
         ·
          refine W_seq fun K25 hK25 => ?_
          refine wr ?_
          refine da ?_
          refine D_end (hK25 _ _ ?_)
          refine W_ret ?_
          try dsimp only [then', inBlk, noGo]
          refine ro ?_
          refine ⟨?_, hx⟩
          rw [List.take_of_length_le (show a.vals.length ≤ q by omega)] at hs4
          rw [decide_eq_true (by omega)]
         ·
          refine W_skip ?_
          refine hK17 _ _ ?_
          refine wr ?_
          refine dm ?_
          refine dp (pv_add rfl rfl (by unfold inI64; omega)) ?_
          refine da ?_
          refine D_end (?_)
          refine ⟨(i + 1, s), ⟨rfl, rfl, rfl, rfl, rfl, trivial⟩, ⟨hx, m1, by omega, ?_⟩, by simp only []; omega⟩
          rw [List.take_of_length_le (show a.vals.length ≤ q by omega)] at hs4
          have e : wAttrs ((l.map AttrV.toA).take (i + 1)) = wAttrs ((l.map AttrV.toA).take i) + wAttr a.toA := by unfold wAttrs; rw [take_snocS (toA_at hk), List.map_append, List.sum_append]; simp
          rw [e]; omega
      ·
       refine W_exit ?_
       refine hK7 _ _ ?_
       refine wr ?_
       refine dm ?_
       refine dp (pv_add rfl rfl (by unfold inI64; omega)) ?_
       refine da ?_
       refine D_end (?_)
       refine ⟨(j + 1, s), ⟨rfl, rfl, rfl, trivial⟩, ⟨hx, by omega, .inr ⟨by omega, ?_⟩⟩, by simp only []; omega⟩
       rw [List.take_of_length_le (by simp; omega)] at hs3; omega
  ·
   refine W_exit ?_
   refine hK3 _ _ ?_
   refine W_seq fun K26 hK26 => ?_
   refine wr ?_
   refine dm ?_
   refine dp (pv_gtr rfl rfl) ?_
   refine da ?_
   refine D_end (hK26 _ _ ?_)
   refine W_ret ?_
   try dsimp only [then', inBlk, noGo]
   refine ro ?_
   refine ⟨?_, hx⟩
   have : s = (wE ⟨nl, (l.map AttrV.toA)⟩ : Nat) := by omega
   rw [this, show decide ((4000 : Int) < (wE ⟨nl, (l.map AttrV.toA)⟩ : Nat)) = decide (4000 < wE ⟨nl, (l.map AttrV.toA)⟩) from decide_eq_decide.2 (by omega)]

end Go.Proofs.YtcjjjmhhpejdoaaGreatDoor
