/-
  Walks.
-/
import Derived.Test.YtcjjjmhhpejdoaaGreatDoorChecked
import Derived.Test.YtcjjjmhhpejdoaaGreatDoorSpMem
import Derived.KernelRfl
import Derived.Test.YtcjjjmhhpejdoaaGreatDoorIkA
namespace Go.Proofs.YtcjjjmhhpejdoaaGreatDoor
open Go.Vc Go.Sp
attribute [local irreducible] W XW Dw DwT
set_option linter.unusedVariables false
set_option linter.unusedSimpArgs false

theorem valB_some {c : Str} {y : Int} {v n : Str} (h : normM y v = some n) (hy : y = 1 ∨ y = 5) : valB c y v = begS 101 c n :: (grams n).map (begS 103 c) := by
  unfold valB; rw [h]; simp only [if_pos hy]
theorem valB_one {c : Str} {y : Int} {v n : Str} (h : normM y v = some n) (hy : ¬ (y = 1 ∨ y = 5)) : valB c y v = [begS 101 c n] := by
  unfold valB; rw [h]; simp only [if_neg hy]
theorem valB_none {c : Str} {y : Int} {v : Str} (h : normM y v = none) : valB c y v = [] := by
  unfold valB; rw [h]
theorem valB_short {c : Str} {y : Int} {v : Str} (hc : c.length ≤ 4000) : ∀ x ∈ valB c y v, x.length ≤ 3000000 := by
  intro x hx
  unfold valB at hx
  split at hx
  · cases hx
  rename_i n hn
  have hnl := norm_len hn
  rcases List.mem_cons.1 hx with rfl | hx
  · have := begS_len 101 c n; omega
  split at hx
  · obtain ⟨g, hg, rfl⟩ := List.mem_map.1 hx
    have := begS_len 103 c g
    have := grams_short hg
    omega
  · cases hx
def presK (a : AttrV) (name : Str) : List Str := if tOk a.typ = true ∧ a.vals ≠ [] then [112 :: (tC a.typ ++ [0]) ++ name] else []
def attrN (a : AttrV) (name : Str) (j : Nat) : List Str := if tOk a.typ = true then vk name (tC a.typ) (tY a.typ) a.vals j else []
theorem attrN_all {a : AttrV} {name : Str} {j : Nat} (h : tOk a.typ = true → a.vals.length ≤ j) : presK a name ++ attrN a name j = attrK name a.toA := by
  unfold presK attrN
  by_cases hok : tOk a.typ = true
  · rw [if_pos hok, vk_all (h hok)]
    by_cases hv : a.vals = []
    · rw [if_neg (fun e => e.2 hv), attrK_off (.inr hv), hv]; rfl
    · rw [if_pos ⟨hok, hv⟩, attrK_ok hok hv]; rfl
  · rw [if_neg (fun e => hok e.1), if_neg hok, attrK_off (.inl (by simpa using hok))]; rfl
theorem presK_len (a : AttrV) (name : Str) : (presK a name).length ≤ 1 := by unfold presK; split <;> simp

set_option maxRecDepth 100000 in
set_option maxHeartbeats 1000000 in
theorem of_w (c : Str) (y : Int) (val : Str) (w : World) (hc : c.length ≤ 1000000) (hv : val.length ≤ 1000000) :
  Calls Tryz.prog 68 [S c, I y, S val].toArray w (Gives w (fun v' w' => Vc.Own sEnc 1 9 w.heap.size w' v' (valB c y val))) := by
 refine calls_W Tryz.func68 rfl rfl rfl (by kernel_rfl) ?_
 have hx := Ext.refl w
 refine W_seq fun K1 hK1 => ?_
 refine wr ?_
 refine da ?_
 refine D_end (hK1 _ _ ?_)
 refine W_seq fun K2 hK2 => ?_
 refine wr ?_
 iterate 2 refine dm ?_
 refine D_callP rfl (by kernel_rfl) (rnormM_w y val _ hv) rfl RX.all (fun w1 x1 => ?_)
 replace hx := hx.trans x1
 refine dm ?_
 refine dp (pv_ext rfl rfl) ?_
 refine dp (pv_ext rfl rfl) ?_
 iterate 2 refine da ?_
 refine D_end (hK2 _ _ ?_)
 refine W_seq fun K3 hK3 => ?_
 refine W_seq fun K4 hK4 => ?_
 refine wr ?_
 refine dm ?_
 refine dn ?_
 refine D_end (hK4 _ _ ?_)
 refine W_cond rfl (fun c1 => ?_) (fun c1 => ?_)
 ·
  refine W_seq fun K5 hK5 => ?_
  refine wr ?_
  refine da ?_
  refine D_end (hK5 _ _ ?_)
  refine W_ret ?_
  try dsimp only [then', inBlk, noGo]
  refine ro ?_
  have hno : normM y val = none := by simpa using c1
  exact ⟨_, rfl, hx, by rw [valB_none hno]; exact Vc.Own.nil⟩
 ·
  have hsm : (normM y val).isSome = true := by simpa using c1
  have hnv : normM y val = some ((normM y val).getD []) := by
   cases h : normM y val with
   | none => rw [h] at hsm; cases hsm
   | some a => rfl
  have hnl : ((normM y val).getD []).length ≤ 1000000 := norm_len2
  have hb1 := begS_len 101 c ((normM y val).getD [])
  have hgl := grams_len ((normM y val).getD [])
  refine W_skip ?_
  refine hK3 _ _ ?_
  refine W_seq fun K6 hK6 => ?_
  refine wr ?_
  iterate 2 refine dm ?_
  refine D_callP rfl (by kernel_rfl) (requal_w c ((normM y val).getD []) _ (by omega) (by omega)) rfl RX.all (fun w2 x2 => ?_)
  replace hx := hx.trans x2
  refine D_lit (e := 9) (sz := 1) (zs := [S []]) (pv := [(0, ?a13_0)]) (cs := [?a13_0]) rfl (by kernel_rfl) ⟨rfl, rfl⟩ (by kernel_rfl) rfl ?h13 ?f13 RX.all (fun b1 w3 e1 x3 m1 => ?k13)
  case h13 => refine ⟨rfl, ?_, trivial⟩ <;> (conv => lhs; whnf)
  case f13 => rfl
  have g1 : w.heap.size ≤ b1 := by have := hx.size; omega
  replace hx := hx.trans x3
  refine da ?_
  refine D_end (hK6 _ _ ?_)
  refine W_seq fun K7 hK7 => ?_
  refine W_seq fun K8 hK8 => ?_
  refine wr ?_
  refine dm ?_
  refine dp (pv_eql rfl rfl) ?_
  refine dm ?_
  refine D_splitP 26 rfl (fun c2 => ?_) (fun c2 => ?_)
  ·
   have hy15 : y = 1 ∨ y = 5 := .inl c2
   have hlb1 := m1.lt
   iterate 2 refine dk ?_
   refine dk' ?_
   refine D_end (hK8 _ _ ?_)
   refine W_t rfl ?_
   refine W_seq fun K9 hK9 => ?_
   refine wr ?_
   refine dm ?_
   refine D_callG rfl (by kernel_rfl) (rgrams2_w ((normM y val).getD []) _ (by omega)) rfl RX.all (fun vg w4 x4 hgr => ?_)
   have hsz4 := hx.size
   replace m1 := m1.ext x4
   replace hx := hx.trans x4
   obtain ⟨hgr, hgb⟩ := hgr
   have hsp0 : grams ((normM y val).getD []) ≠ [] → b1 ≠ (base vg).1 := fun hne e => by have := hgb hne; have := hlb1; omega
   refine da ?_
   refine D_end (hK9 _ _ ?_)
   refine W_seq fun K10 hK10 => ?_
   refine wr ?_
   refine da ?_
   refine D_end (hK10 _ _ ?_)
   refine W_block ?_
   refine W_loop (G := Nat × Value) (fun (k, vm) => [(0, S c), (6, .slice none 0 0), (9, vm), (10, vg), (11, I ↑k)]) (fun (k, vm) w' => Ext w w' ∧ Arr sEnc 1 w' vg (grams ((normM y val).getD [])) ∧ k ≤ (grams ((normM y val).getD [])).length ∧ Vc.Own sEnc 1 9 w.heap.size w' vm (begS 101 c ((normM y val).getD []) :: ((grams ((normM y val).getD [])).take k).map (begS 103 c)) ∧ (grams ((normM y val).getD []) ≠ [] → vm.ownBlock ≠ some (base vg).1)) (fun (k, vm) => (grams ((normM y val).getD [])).length - k) (0, .slice (some ⟨b1, 0, none⟩) 1 1) ?_ ?_ ?_
   ·
    exact ⟨rfl, rfl, rfl, rfl, rfl, trivial⟩
   ·
    exact ⟨hx, hgr, Nat.zero_le _, m1.own (enc := sEnc) (B := w.heap.size) (l := [begS 101 c ((normM y val).getD [])]) (sz := 1) (m := 1) g1 rfl (by intro x; rfl) rfl (by simp), fun hne e => hsp0 hne (Option.some.inj e)⟩
   ·
    intro X5 g5 w5 hF5
    obtain ⟨k, vm⟩ := g5
    clear hx m1 hgr
    obtain ⟨hx, hgr, hk1, ho, hsep⟩ := hF5
    refine W_seq fun K11 hK11 => ?_
    refine W_seq fun K12 hK12 => ?_
    refine wr ?_
    iterate 2 refine dm ?_
    refine dp (pv_lenV (e := 9) (k := 1) (by kernel_rfl) hgr.sl rfl) ?_
    refine dp (pv_lss rfl rfl) ?_
    refine D_end (hK12 _ _ ?_)
    refine W_if rfl (fun c3 => ?_) (fun c3 => ?_)
    ·
     obtain ⟨x, hk⟩ : ∃ x, (grams ((normM y val).getD []))[k]? = some x := ⟨_, List.getElem?_eq_getElem (by omega)⟩
     have hx3 := grams_short (List.mem_of_getElem? hk)
     have hb3 := begS_len 103 c x
     refine W_skip ?_
     refine hK11 _ _ ?_
     refine W_seq fun K13 hK13 => ?_
     refine W_block ?_
     refine wr ?_
     iterate 4 refine dm ?_
     refine dp (pv_idxA (e := 9) (k := 1) (by kernel_rfl) hgr.sl rfl rfl (hgr.lt hk)) ?_
     refine dq (lv_load (by kernel_rfl) rfl ((hgr.row hk).at0 rfl)) ?_
     refine D_callP rfl (by kernel_rfl) (rgram_w c x _ (by omega) (by omega)) rfl RX.all (fun w6 x6 => ?_)
     replace hgr := hgr.ext x6
     replace ho := ho.ext x6
     replace hx := hx.trans x6
     refine D_lit (e := 9) (sz := 1) (zs := [S []]) (pv := [(0, ?a27_0)]) (cs := [?a27_0]) rfl (by kernel_rfl) ⟨rfl, rfl⟩ (by kernel_rfl) rfl ?h27 ?f27 RX.all (fun b2 w7 e2 x7 m2 => ?k27)
     case h27 => refine ⟨rfl, ?_, trivial⟩ <;> (conv => lhs; whnf)
     case f27 => rfl
     have g2 : w.heap.size ≤ b2 := by have := hx.size; omega
     have a2_hgr := Arr.base_lt hgr (by decide)
     replace hgr := hgr.ext x7
     replace ho := ho.ext x7
     replace hx := hx.trans x7
     refine D_append2 (lx := [begS 103 c x]) (e := 9) (sz := 1) (by' := 16) rfl (by kernel_rfl) (by kernel_rfl) (by intro x; rfl) ho (m2.arr (enc := sEnc) (sz := 1) (l := [begS 103 c x]) rfl (by intro x; rfl) rfl (Nat.le_of_ble_eq_true rfl)) rfl rfl (by intro x _ u hu; simp at hu; rcases hu with rfl <;> rfl) (by simp; omega) (by decide) hx.size (.inl rfl) (fun vm2 w8 ho_n x8 hwh8 => ?_)
     have hsep8 : grams ((normM y val).getD []) ≠ [] → vm2.ownBlock ≠ some (base vg).1 := fun hne e => hwh8.elim (fun h => hsep hne (h.symm.trans e)) (fun h => by have h1 := Option.some.inj (h.symm.trans e); have h2 := hgr.base_lt (by decide) hne; omega)
     try replace hgr := hgr.mod x8 (fun hne h => hsep hne h)
     replace hx := hx.own x8 (fun i hi => (ho.lt i hi).1)
     replace ho := ho_n
     clear hsep
     have hsep := hsep8
     clear m2
     refine da ?_
     refine D_end (hK13 _ _ ?_)
     refine wr ?_
     refine dm ?_
     refine dp (pv_add rfl rfl (by unfold inI64; omega)) ?_
     refine da ?_
     refine D_end (?_)
     refine ⟨(k + 1, vm2), ⟨rfl, rfl, rfl, rfl, rfl, trivial⟩, ⟨hx, hgr, by omega, ?_, hsep⟩, by simp only []; omega⟩
     rw [take_snocS hk, List.map_append, ← List.cons_append]; exact ho
    ·
     refine W_exit ?_
     refine hK7 _ _ ?_
     refine W_seq fun K14 hK14 => ?_
     refine wr ?_
     refine dm ?_
     refine da ?_
     refine D_end (hK14 _ _ ?_)
     refine W_ret ?_
     try dsimp only [then', inBlk, noGo]
     refine ro ?_
     rw [List.take_of_length_le (by omega)] at ho
     exact ⟨_, rfl, hx, by rw [valB_some hnv hy15]; exact ho⟩
  ·
   refine dm ?_
   refine dp (pv_eql rfl rfl) ?_
   refine dk' ?_
   refine D_end (hK8 _ _ ?_)
   refine W_if rfl (fun c4 => ?_) (fun c4 => ?_)
   ·
    have hy15 : y = 1 ∨ y = 5 := .inr c4
    have hlb1 := m1.lt
    refine W_seq fun K15 hK15 => ?_
    refine wr ?_
    refine dm ?_
    refine D_callG rfl (by kernel_rfl) (rgrams2_w ((normM y val).getD []) _ (by omega)) rfl RX.all (fun vg w9 x9 hgr => ?_)
    have hsz9 := hx.size
    replace m1 := m1.ext x9
    replace hx := hx.trans x9
    obtain ⟨hgr, hgb⟩ := hgr
    have hsp0 : grams ((normM y val).getD []) ≠ [] → b1 ≠ (base vg).1 := fun hne e => by have := hgb hne; have := hlb1; omega
    refine da ?_
    refine D_end (hK15 _ _ ?_)
    refine W_seq fun K16 hK16 => ?_
    refine wr ?_
    refine da ?_
    refine D_end (hK16 _ _ ?_)
    refine W_block ?_
    refine W_loop (G := Nat × Value) (fun (k, vm) => [(0, S c), (6, .slice none 0 0), (9, vm), (10, vg), (11, I ↑k)]) (fun (k, vm) w' => Ext w w' ∧ Arr sEnc 1 w' vg (grams ((normM y val).getD [])) ∧ k ≤ (grams ((normM y val).getD [])).length ∧ Vc.Own sEnc 1 9 w.heap.size w' vm (begS 101 c ((normM y val).getD []) :: ((grams ((normM y val).getD [])).take k).map (begS 103 c)) ∧ (grams ((normM y val).getD []) ≠ [] → vm.ownBlock ≠ some (base vg).1)) (fun (k, vm) => (grams ((normM y val).getD [])).length - k) (0, .slice (some ⟨b1, 0, none⟩) 1 1) ?_ ?_ ?_
    ·
     exact ⟨rfl, rfl, rfl, rfl, rfl, trivial⟩
    ·
     exact ⟨hx, hgr, Nat.zero_le _, m1.own (enc := sEnc) (B := w.heap.size) (l := [begS 101 c ((normM y val).getD [])]) (sz := 1) (m := 1) g1 rfl (by intro x; rfl) rfl (by simp), fun hne e => hsp0 hne (Option.some.inj e)⟩
    ·
     intro X10 g10 w10 hF10
     obtain ⟨k, vm⟩ := g10
     clear hx m1 hgr
     obtain ⟨hx, hgr, hk1, ho, hsep⟩ := hF10
     refine W_seq fun K17 hK17 => ?_
     refine W_seq fun K18 hK18 => ?_
     refine wr ?_
     iterate 2 refine dm ?_
     refine dp (pv_lenV (e := 9) (k := 1) (by kernel_rfl) hgr.sl rfl) ?_
     refine dp (pv_lss rfl rfl) ?_
     refine D_end (hK18 _ _ ?_)
     refine W_if rfl (fun c5 => ?_) (fun c5 => ?_)
     ·
      obtain ⟨x, hk⟩ : ∃ x, (grams ((normM y val).getD []))[k]? = some x := ⟨_, List.getElem?_eq_getElem (by omega)⟩
      have hx3 := grams_short (List.mem_of_getElem? hk)
      have hb3 := begS_len 103 c x
      refine W_skip ?_
      refine hK17 _ _ ?_
      refine W_seq fun K19 hK19 => ?_
      refine W_block ?_
      refine wr ?_
      iterate 4 refine dm ?_
      refine dp (pv_idxA (e := 9) (k := 1) (by kernel_rfl) hgr.sl rfl rfl (hgr.lt hk)) ?_
      refine dq (lv_load (by kernel_rfl) rfl ((hgr.row hk).at0 rfl)) ?_
      refine D_callP rfl (by kernel_rfl) (rgram_w c x _ (by omega) (by omega)) rfl RX.all (fun w11 x11 => ?_)
      replace hgr := hgr.ext x11
      replace ho := ho.ext x11
      replace hx := hx.trans x11
      refine D_lit (e := 9) (sz := 1) (zs := [S []]) (pv := [(0, ?a45_0)]) (cs := [?a45_0]) rfl (by kernel_rfl) ⟨rfl, rfl⟩ (by kernel_rfl) rfl ?h45 ?f45 RX.all (fun b3 w12 e3 x12 m3 => ?k45)
      case h45 => refine ⟨rfl, ?_, trivial⟩ <;> (conv => lhs; whnf)
      case f45 => rfl
      have g3 : w.heap.size ≤ b3 := by have := hx.size; omega
      have a3_hgr := Arr.base_lt hgr (by decide)
      replace hgr := hgr.ext x12
      replace ho := ho.ext x12
      replace hx := hx.trans x12
      refine D_append2 (lx := [begS 103 c x]) (e := 9) (sz := 1) (by' := 16) rfl (by kernel_rfl) (by kernel_rfl) (by intro x; rfl) ho (m3.arr (enc := sEnc) (sz := 1) (l := [begS 103 c x]) rfl (by intro x; rfl) rfl (Nat.le_of_ble_eq_true rfl)) rfl rfl (by intro x _ u hu; simp at hu; rcases hu with rfl <;> rfl) (by simp; omega) (by decide) hx.size (.inl rfl) (fun vm2 w13 ho_n x13 hwh13 => ?_)
      have hsep13 : grams ((normM y val).getD []) ≠ [] → vm2.ownBlock ≠ some (base vg).1 := fun hne e => hwh13.elim (fun h => hsep hne (h.symm.trans e)) (fun h => by have h1 := Option.some.inj (h.symm.trans e); have h2 := hgr.base_lt (by decide) hne; omega)
      try replace hgr := hgr.mod x13 (fun hne h => hsep hne h)
      replace hx := hx.own x13 (fun i hi => (ho.lt i hi).1)
      replace ho := ho_n
      clear hsep
      have hsep := hsep13
      clear m3
      refine da ?_
      refine D_end (hK19 _ _ ?_)
      refine wr ?_
      refine dm ?_
      refine dp (pv_add rfl rfl (by unfold inI64; omega)) ?_
      refine da ?_
      refine D_end (?_)
      refine ⟨(k + 1, vm2), ⟨rfl, rfl, rfl, rfl, rfl, trivial⟩, ⟨hx, hgr, by omega, ?_, hsep⟩, by simp only []; omega⟩
      rw [take_snocS hk, List.map_append, ← List.cons_append]; exact ho
     ·
      refine W_exit ?_
      refine hK7 _ _ ?_
      refine W_seq fun K20 hK20 => ?_
      refine wr ?_
      refine dm ?_
      refine da ?_
      refine D_end (hK20 _ _ ?_)
      refine W_ret ?_
      try dsimp only [then', inBlk, noGo]
      refine ro ?_
      rw [List.take_of_length_le (by omega)] at ho
      exact ⟨_, rfl, hx, by rw [valB_some hnv hy15]; exact ho⟩
   ·
    refine W_skip ?_
    refine hK7 _ _ ?_
    refine W_seq fun K21 hK21 => ?_
    refine wr ?_
    refine dm ?_
    refine da ?_
    refine D_end (hK21 _ _ ?_)
    refine W_ret ?_
    try dsimp only [then', inBlk, noGo]
    refine ro ?_
    have hy15 : ¬ (y = 1 ∨ y = 5) := fun h => h.elim c2 c4
    exact ⟨_, rfl, hx, by rw [valB_one hnv hy15]; exact m1.own (enc := sEnc) (B := w.heap.size) (l := [begS 101 c ((normM y val).getD [])]) (sz := 1) (m := 1) g1 rfl (by intro x; rfl) rfl (by simp)⟩

set_option maxRecDepth 100000 in
set_option maxHeartbeats 1000000 in
theorem rkeys_w (nl : List Ava) (l : List AttrV) (vd va : Value) (w : World) (hd : Arr Ava.cs 2 w vd nl) (ha : Arr AttrV.cs 2 w va l) (hvs : ValsAt w l) (hs : SmallE ⟨nl, l.map AttrV.toA⟩) :
  Calls Tryz.prog 25 [.agg ⟨[vd, va]⟩].toArray w (Gives w (fun v' w' => Arr sEnc 1 w' v' (keysM ⟨nl, (l.map AttrV.toA)⟩))) := by
 refine calls_W Tryz.func25 rfl rfl rfl (by kernel_rfl) ?_
 have hx := Ext.refl w
 have hdn : smallN nl := hs.dn
 have hsw : wAttrs (l.map AttrV.toA) ≤ 4000 := hs.w
 have hll : l.length ≤ 4000 := by have := hs.attrs; simpa using this
 have hnml : (keyS nl).length ≤ 300100000 := keyS_len hdn
 refine W_seq fun K1 hK1 => ?_
 refine wr ?_
 refine D_box rfl rfl rfl RX.all (fun b1 w1 e1 x1 m1 => ?_)
 have g1 : w.heap.size ≤ b1 := by have := hx.size; omega
 replace hx := hx.trans x1
 refine da ?_
 refine D_end (hK1 _ _ ?_)
 refine W_seq fun K2 hK2 => ?_
 refine wr ?_
 refine dp (pv_fieldA (k := 0) (by kernel_rfl) rfl) ?_
 refine dq (lv_load (by kernel_rfl) rfl (m1.at rfl)) ?_
 refine D_callP rfl (by kernel_rfl) (rkey_w nl vd _ (hd.ext hx) hdn) rfl RX.all (fun w2 x2 => ?_)
 replace m1 := m1.ext x2
 replace hx := hx.trans x2
 refine da ?_
 refine D_end (hK2 _ _ ?_)
 refine W_seq fun K3 hK3 => ?_
 refine wr ?_
 refine da ?_
 refine D_end (hK3 _ _ ?_)
 refine W_seq fun K4 hK4 => ?_
 refine W_seq fun K5 hK5 => ?_
 refine wr ?_
 refine da ?_
 refine D_end (hK5 _ _ ?_)
 refine W_block ?_
 refine W_loop (G := Nat × Value) (fun (k, vn) => [(1, ptr b1 0), (2, .slice none 0 0), (3, S (keyS nl)), (4, vn), (5, I ↑k)]) (fun (k, vn) w' => Ext w w' ∧ Blk w' b1 [vd, va] 31 ∧ k ≤ l.length ∧ Arr sEnc 1 w' vn ((rk (keyS nl) (l.map AttrV.toA) k).foldl layS [])) (fun (k, vn) => l.length - k) (0, .slice none 0 0) ?_ ?_ ?_
 ·
  exact ⟨rfl, rfl, rfl, rfl, rfl, trivial⟩
 ·
  exact ⟨hx, m1, Nat.zero_le _, Arr.nil⟩
 ·
  intro X3 g3 w3 hF3
  obtain ⟨k, vn⟩ := g3
  clear hx m1
  obtain ⟨hx, m1, hk1, hn⟩ := hF3
  refine W_seq fun K6 hK6 => ?_
  refine W_seq fun K7 hK7 => ?_
  refine wr ?_
  refine dm ?_
  refine dp (pv_fieldA (k := 1) (by kernel_rfl) rfl) ?_
  refine dq (lv_load (by kernel_rfl) rfl (m1.at rfl)) ?_
  refine dp (pv_lenV (e := 41) (k := 2) (by kernel_rfl) ha.sl rfl) ?_
  refine dp (pv_lss rfl rfl) ?_
  refine D_end (hK7 _ _ ?_)
  refine W_if rfl (fun c1 => ?_) (fun c1 => ?_)
  ·
   obtain ⟨a, hk⟩ : ∃ a, l[k]? = some a := ⟨_, List.getElem?_eq_getElem (by omega)⟩
   have hav := hvs.at hk
   have hsa := SmallE.at hs hk
   have hrl := rk_len (name := (keyS nl)) hsw k
   have htc := tC_len a.typ
   have htc4 : (tC a.typ).length ≤ 4000 := by omega
   refine W_skip ?_
   refine hK6 _ _ ?_
   refine W_seq fun K8 hK8 => ?_
   refine W_block ?_
   refine W_seq fun K9 hK9 => ?_
   refine wr ?_
   refine dp (pv_fieldA (k := 1) (by kernel_rfl) rfl) ?_
   refine dq (lv_load (by kernel_rfl) rfl (m1.at rfl)) ?_
   refine dm ?_
   refine dp (pv_idxA (e := 41) (k := 2) (by kernel_rfl) ha.sl rfl rfl (ha.lt hk)) ?_
   refine dp (pv_fieldA (k := 0) (by kernel_rfl) rfl) ?_
   refine dq (lv_load (by kernel_rfl) rfl (((ha.ext hx).row hk).at rfl)) ?_
   refine D_callP rfl (by kernel_rfl) (rtypeT_w a.typ _ (by omega)) rfl RX.all (fun w4 x4 => ?_)
   replace m1 := m1.ext x4
   replace hn := hn.ext x4
   replace hx := hx.trans x4
   refine dm ?_
   refine dp (pv_ext rfl rfl) ?_
   refine dp (pv_ext rfl rfl) ?_
   refine dp (pv_ext rfl rfl) ?_
   refine dp (pv_ext rfl rfl) ?_
   iterate 4 refine da ?_
   refine D_end (hK9 _ _ ?_)
   refine W_seq fun K10 hK10 => ?_
   refine wr ?_
   refine dp (pv_fieldA (k := 1) (by kernel_rfl) rfl) ?_
   refine dq (lv_load (by kernel_rfl) rfl (m1.at rfl)) ?_
   refine dm ?_
   refine dp (pv_idxA (e := 41) (k := 2) (by kernel_rfl) ha.sl rfl rfl (ha.lt hk)) ?_
   refine dp (pv_fieldA (k := 1) (by kernel_rfl) rfl) ?_
   refine dq (lv_load (by kernel_rfl) rfl (((ha.ext hx).row hk).at rfl)) ?_
   refine da ?_
   refine D_end (hK10 _ _ ?_)
   refine W_cut (G := Value) (fun vp => [(1, ptr b1 0), (2, .slice none 0 0), (3, S (keyS nl)), (4, vp), (5, I ↑k), (6, S (tC a.typ)), (7, I (tY a.typ)), (9, B (tOk a.typ)), (10, a.v)]) (fun vp w' => Ext w w' ∧ Blk w' b1 [vd, va] 31 ∧ Arr sEnc 1 w' vp ((rk (keyS nl) (l.map AttrV.toA) k ++ presK a (keyS nl)).foldl layS [])) ?_ ?_
   ·
    refine W_seq fun K11 hK11 => ?_
    refine wr ?_
    iterate 2 refine dm ?_
    refine D_split 43 rfl (fun c2 => ?_) (fun c2 => ?_)
    ·
     refine dm ?_
     refine dp (pv_lenV (e := 9) (k := 1) (by kernel_rfl) hav.sl rfl) ?_
     refine dp (pv_gtr rfl rfl) ?_
     refine dk' ?_
     refine D_end (hK11 _ _ ?_)
     refine W_if rfl (fun c3 => ?_) (fun c3 => ?_)
     ·
      refine wr ?_
      iterate 2 refine dm ?_
      refine D_callP rfl (by kernel_rfl) (rpresent_w (tC a.typ) _ (by omega)) rfl RX.all (fun w5 x5 => ?_)
      replace m1 := m1.ext x5
      replace hn := hn.ext x5
      replace hx := hx.trans x5
      refine dm ?_
      refine dp (pv_scat rfl rfl (by first | (simp; done) | (simp; omega) | omega)) ?_
      refine D_callG rfl (by kernel_rfl) (lay_w _ vn (112 :: (tC a.typ ++ [0]) ++ (keyS nl)) _ hn (by have hll1 := lay_len (rk (keyS nl) (l.map AttrV.toA) k) []; simp only [List.length_nil] at hll1; omega)) rfl RX.all (fun vq w6 x6 hq => ?_)
      have hsz6 := hx.size
      replace m1 := m1.ext x6
      replace hn := hn.ext x6
      replace hx := hx.trans x6
      refine da ?_
      refine D_end (?_)
      refine ⟨vq, ⟨rfl, rfl, rfl, rfl, rfl, rfl, rfl, rfl, rfl, trivial⟩, hx, m1, ?_⟩
      rw [presK, if_pos ⟨c2, fun e => by rw [e] at c3; exact absurd c3 (by decide)⟩, List.foldl_append]; exact hq
     ·
      refine W_skip ?_
      refine ⟨vn, ⟨rfl, rfl, rfl, rfl, rfl, rfl, rfl, rfl, rfl, trivial⟩, hx, m1, ?_⟩
      rw [presK, if_neg (fun e => e.2 (List.eq_nil_of_length_eq_zero (by omega))), List.append_nil]; exact hn
    ·
     iterate 3 refine dk ?_
     refine dk' ?_
     refine D_end (hK11 _ _ ?_)
     refine W_f rfl ?_
     refine W_skip ?_
     refine ⟨vn, ⟨rfl, rfl, rfl, rfl, rfl, rfl, rfl, rfl, rfl, trivial⟩, hx, m1, ?_⟩
     rw [presK, if_neg (fun e => by rw [e.1] at c2; cases c2), List.append_nil]; exact hn
   ·
    intro X7 g7 w7 hF7
    revert hF7; revert g7; intro vp hF7
    clear hx m1 hn
    obtain ⟨hx, m1, hn⟩ := hF7
    refine W_seq fun K12 hK12 => ?_
    refine wr ?_
    refine da ?_
    refine D_end (hK12 _ _ ?_)
    refine W_block ?_
    refine W_loop (G := Nat × Value) (fun (j, vn) => [(1, ptr b1 0), (2, .slice none 0 0), (3, S (keyS nl)), (4, vn), (5, I ↑k), (6, S (tC a.typ)), (7, I (tY a.typ)), (9, B (tOk a.typ)), (10, a.v), (11, I ↑j)]) (fun (j, vn) w' => Ext w w' ∧ Blk w' b1 [vd, va] 31 ∧ j ≤ a.vals.length ∧ Arr sEnc 1 w' vn ((rk (keyS nl) (l.map AttrV.toA) k ++ presK a (keyS nl) ++ attrN a (keyS nl) j).foldl layS [])) (fun (j, vn) => a.vals.length - j) (0, vp) ?_ ?_ ?_
    ·
     exact ⟨rfl, rfl, rfl, rfl, rfl, rfl, rfl, rfl, rfl, rfl, trivial⟩
    ·
     exact ⟨hx, m1, Nat.zero_le _, by rw [show attrN a (keyS nl) 0 = [] from by unfold attrN; split <;> rfl, List.append_nil]; exact hn⟩
    ·
     intro X8 g8 w8 hF8
     obtain ⟨j, vn⟩ := g8
     clear hx m1 hn
     obtain ⟨hx, m1, hj1, hn⟩ := hF8
     refine W_seq fun K13 hK13 => ?_
     refine W_seq fun K14 hK14 => ?_
     refine wr ?_
     iterate 2 refine dm ?_
     refine dp (pv_lenV (e := 9) (k := 1) (by kernel_rfl) hav.sl rfl) ?_
     refine dp (pv_lss rfl rfl) ?_
     refine dm ?_
     refine D_splitP 58 rfl (fun c4 => ?_) (fun c4 => ?_)
     ·
      obtain ⟨v, hj⟩ : ∃ v, a.vals[j]? = some v := ⟨_, List.getElem?_eq_getElem (by omega)⟩
      refine dm ?_
      refine dk' ?_
      refine D_end (hK14 _ _ ?_)
      refine W_cond rfl (fun c5 => ?_) (fun c5 => ?_)
      ·
       have hok : tOk a.typ = true := c5
       refine W_skip ?_
       refine hK13 _ _ ?_
       refine W_seq fun K15 hK15 => ?_
       refine W_block ?_
       refine W_seq fun K16 hK16 => ?_
       refine wr ?_
       iterate 4 refine dm ?_
       refine dp (pv_idxA (e := 9) (k := 1) (by kernel_rfl) hav.sl rfl rfl (hav.lt hj)) ?_
       refine dq (lv_load (by kernel_rfl) rfl (((hav.ext hx).row hj).at0 rfl)) ?_
       refine D_callG rfl (by kernel_rfl) (of_w (tC a.typ) (tY a.typ) v _ (by omega) (by have := hsa.2.2 v (List.mem_of_getElem? hj); omega)) rfl RX.all (fun vb w9 x9 hbv => ?_)
       have hsz9 := hx.size
       replace m1 := m1.ext x9
       replace hn := hn.ext x9
       replace hx := hx.trans x9
       replace hbv := hbv.arr (by intro x; rfl)
       refine da ?_
       refine D_end (hK16 _ _ ?_)
       refine W_seq fun K17 hK17 => ?_
       refine wr ?_
       refine da ?_
       refine D_end (hK17 _ _ ?_)
       refine W_block ?_
       refine W_loop (G := Nat × Value) (fun (i, vn) => [(1, ptr b1 0), (2, .slice none 0 0), (3, S (keyS nl)), (4, vn), (5, I ↑k), (6, S (tC a.typ)), (7, I (tY a.typ)), (9, B (tOk a.typ)), (10, a.v), (11, I ↑j), (12, vb), (13, I ↑i)]) (fun (i, vn) w' => Ext w w' ∧ Blk w' b1 [vd, va] 31 ∧ Arr sEnc 1 w' vb (valB (tC a.typ) (tY a.typ) v) ∧ i ≤ (valB (tC a.typ) (tY a.typ) v).length ∧ Arr sEnc 1 w' vn ((rk (keyS nl) (l.map AttrV.toA) k ++ presK a (keyS nl) ++ attrN a (keyS nl) j ++ ((valB (tC a.typ) (tY a.typ) v).take i).map (· ++ (keyS nl))).foldl layS [])) (fun (i, vn) => (valB (tC a.typ) (tY a.typ) v).length - i) (0, vn) ?_ ?_ ?_
       ·
        exact ⟨rfl, rfl, rfl, rfl, rfl, rfl, rfl, rfl, rfl, rfl, rfl, rfl, trivial⟩
       ·
        exact ⟨hx, m1, hbv, Nat.zero_le _, by rw [List.take_zero, List.map_nil, List.append_nil]; exact hn⟩
       ·
        intro X10 g10 w10 hF10
        obtain ⟨i, vn⟩ := g10
        clear hx m1 hn hbv
        obtain ⟨hx, m1, hbv, hi1, hn⟩ := hF10
        refine W_seq fun K18 hK18 => ?_
        refine W_seq fun K19 hK19 => ?_
        refine wr ?_
        iterate 2 refine dm ?_
        refine dp (pv_lenV (e := 9) (k := 1) (by kernel_rfl) hbv.sl rfl) ?_
        refine dp (pv_lss rfl rfl) ?_
        refine D_end (hK19 _ _ ?_)
        refine W_if rfl (fun c6 => ?_) (fun c6 => ?_)
        ·
         obtain ⟨x, hi⟩ : ∃ x, (valB (tC a.typ) (tY a.typ) v)[i]? = some x := ⟨_, List.getElem?_eq_getElem (by omega)⟩
         have hpk := presK_len a (keyS nl)
         have hpl : (rk (keyS nl) (l.map AttrV.toA) k).length + 1 + (vk (keyS nl) (tC a.typ) (tY a.typ) a.vals j).length + (valK (tC a.typ) (tY a.typ) (keyS nl) v).length ≤ 4000 := part_len (name := (keyS nl)) hsw (toA_at hk) (tC a.typ) (tY a.typ) hj
         have han : (attrN a (keyS nl) j).length = (vk (keyS nl) (tC a.typ) (tY a.typ) a.vals j).length := by unfold attrN; rw [if_pos hok]
         have hbl : (((valB (tC a.typ) (tY a.typ) v).take i).map (· ++ (keyS nl))).length ≤ (valK (tC a.typ) (tY a.typ) (keyS nl) v).length := by rw [valK_eq, List.length_map, List.length_map]; exact List.length_take_le' ..
         have hxl := valB_short htc4 x (List.mem_of_getElem? hi)
         have hvl := valB_len (tC a.typ) (tY a.typ) v
         have hv4 := hsa.2.2 v (List.mem_of_getElem? hj)
         refine W_skip ?_
         refine hK18 _ _ ?_
         refine W_seq fun K20 hK20 => ?_
         refine W_block ?_
         refine wr ?_
         iterate 3 refine dm ?_
         refine dp (pv_idxA (e := 9) (k := 1) (by kernel_rfl) hbv.sl rfl rfl (hbv.lt hi)) ?_
         refine dq (lv_load (by kernel_rfl) rfl ((hbv.row hi).at0 rfl)) ?_
         refine dm ?_
         refine dp (pv_scat rfl rfl (by first | (simp; done) | (simp; omega) | omega)) ?_
         refine D_callG rfl (by kernel_rfl) (lay_w _ vn (x ++ (keyS nl)) _ hn (by have hll1 := lay_len (rk (keyS nl) (l.map AttrV.toA) k ++ presK a (keyS nl) ++ attrN a (keyS nl) j ++ ((valB (tC a.typ) (tY a.typ) v).take i).map (· ++ (keyS nl))) []; simp only [List.length_append, List.length_nil] at hll1; omega)) rfl RX.all (fun vq w11 x11 hq => ?_)
         have hsz11 := hx.size
         replace m1 := m1.ext x11
         replace hbv := hbv.ext x11
         replace hn := hn.ext x11
         replace hx := hx.trans x11
         refine da ?_
         refine D_end (hK20 _ _ ?_)
         refine wr ?_
         refine dm ?_
         refine dp (pv_add rfl rfl (by unfold inI64; omega)) ?_
         refine da ?_
         refine D_end (?_)
         refine ⟨(i + 1, vq), ⟨rfl, rfl, rfl, rfl, rfl, rfl, rfl, rfl, rfl, rfl, rfl, rfl, trivial⟩, ⟨hx, m1, hbv, by omega, ?_⟩, by simp only []; omega⟩
         rw [take_snocS hi, List.map_append, List.map_cons, List.map_nil, ← List.append_assoc, List.foldl_append]; exact hq
        ·
         refine W_exit ?_
         refine hK15 _ _ ?_
         refine wr ?_
         refine dm ?_
         refine dp (pv_add rfl rfl (by unfold inI64; omega)) ?_
         refine da ?_
         refine D_end (?_)
         refine ⟨(j + 1, vn), ⟨rfl, rfl, rfl, rfl, rfl, rfl, rfl, rfl, rfl, rfl, trivial⟩, ⟨hx, m1, by omega, ?_⟩, by simp only []; omega⟩
         rw [show attrN a (keyS nl) (j + 1) = attrN a (keyS nl) j ++ (valB (tC a.typ) (tY a.typ) v).map (· ++ (keyS nl)) from by unfold attrN; rw [if_pos hok, if_pos hok, vk_next hj, valK_eq], ← List.append_assoc]
         rw [List.take_of_length_le (by omega)] at hn
         exact hn
      ·
       refine W_exit ?_
       refine hK8 _ _ ?_
       refine wr ?_
       refine dm ?_
       refine dp (pv_add rfl rfl (by unfold inI64; omega)) ?_
       refine da ?_
       refine D_end (?_)
       refine ⟨(k + 1, vn), ⟨rfl, rfl, rfl, rfl, rfl, trivial⟩, ⟨hx, m1, by omega, ?_⟩, by simp only []; omega⟩
       rw [rk_next (toA_at hk), ← attrN_all (j := j) (fun h => by first | omega | (exfalso; simp_all)), ← List.append_assoc]; exact hn
     ·
      refine dk ?_
      refine dk' ?_
      refine D_end (hK14 _ _ ?_)
      refine W_f rfl ?_
      refine W_exit ?_
      refine hK8 _ _ ?_
      refine wr ?_
      refine dm ?_
      refine dp (pv_add rfl rfl (by unfold inI64; omega)) ?_
      refine da ?_
      refine D_end (?_)
      refine ⟨(k + 1, vn), ⟨rfl, rfl, rfl, rfl, rfl, trivial⟩, ⟨hx, m1, by omega, ?_⟩, by simp only []; omega⟩
      rw [rk_next (toA_at hk), ← attrN_all (j := j) (fun h => by first | omega | (exfalso; simp_all)), ← List.append_assoc]; exact hn
  ·
   refine W_exit ?_
   refine hK4 _ _ ?_
   refine W_seq fun K21 hK21 => ?_
   refine wr ?_
   refine dm ?_
   refine da ?_
   refine D_end (hK21 _ _ ?_)
   refine W_ret ?_
   try dsimp only [then', inBlk, noGo]
   refine ro ?_
   rw [rk_all (by simp; omega)] at hn
   exact ⟨_, rfl, hx, hn⟩

end Go.Proofs.YtcjjjmhhpejdoaaGreatDoor
