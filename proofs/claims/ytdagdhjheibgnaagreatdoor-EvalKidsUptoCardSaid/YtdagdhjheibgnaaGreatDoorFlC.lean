/-
  Walks.
-/
import Derived.Test.YtdagdhjheibgnaaGreatDoorChecked
import Derived.Test.YtdagdhjheibgnaaGreatDoorSpMem
import Derived.KernelRfl
import Derived.Test.YtdagdhjheibgnaaGreatDoorFlB
namespace Go.Proofs.YtdagdhjheibgnaaGreatDoor
open Go.Vc Go.Sp
attribute [local irreducible] W XW Dw DwT
set_option linter.unusedVariables false
set_option linter.unusedSimpArgs false

theorem eval_leaf {at' : List AttrV} {m : Nat} {k : Int} {t v : Str} {subs : List Str} {kids : List Flt} (h : kids.length = 0) : evalF at' (m + 1) (.mk k t v subs kids) = itemM k t v subs (valsE at' t) := by
  unfold evalF; rw [if_pos h]
theorem eval_kids {at' : List AttrV} {m : Nat} {k : Int} {t v : Str} {subs : List Str} {kids : List Flt} (h : ¬ kids.length = 0) : evalF at' (m + 1) (.mk k t v subs kids) = sayM k (kids.map (evalF at' m)) := by
  unfold evalF; rw [if_neg h]
theorem headD_at {l : List Int} {x : Int} (h : l[0]? = some x) : l.headD 2 = x := by
  cases l with
  | nil => simp at h
  | cons a l => simpa using h
theorem kids_nodes {m : Nat} {d : Int} : ∀ {kids : List Flt}, kids.all (oneF m d) = true → kids.length ≤ (kids.map (nodesF m)).sum
  | [], _ => by simp
  | f :: kids, h => by
    rw [List.all_cons, Bool.and_eq_true] at h
    have h1 := nodesF_pos h.1
    have h2 := kids_nodes h.2
    rw [List.map_cons, List.sum_cons, List.length_cons]; omega
theorem FRep.one {w : World} {n : Nat} {c : FilV} {f : Flt} (h : FRep w n c f) : ∀ v ∈ c.cs, v.oneCell' = true := by
  cases n with
  | zero => exact h.elim
  | succ n =>
    obtain ⟨k, t, v, subs, kids⟩ := f
    obtain ⟨e1, e2, e3, hs, _, l, hk, _⟩ := h
    intro x hx
    simp only [FilV.cs, List.mem_cons, List.not_mem_nil, or_false] at hx
    rcases hx with rfl | rfl | rfl | rfl | rfl
    · rw [e1]; rfl
    · rw [e2]; rfl
    · rw [e3]; rfl
    · exact hs.sl.one
    · exact hk.sl.one
/-- What a filter that may be gives of its parts. -/
theorem one_parts {m : Nat} {d : Int} {k : Int} {t v : Str} {subs : List Str} {kids : List Flt} (h : oneF (m + 1) d (.mk k t v subs kids) = true) : kids.all (oneF m (d + 1)) = true ∧ ((k = 0 ∨ k = 1 ∨ k = 2) → 1 ≤ kids.length) ∧ (¬ (k = 0 ∨ k = 1 ∨ k = 2) → kids.length = 0) := by
  unfold oneF at h
  rw [Bool.and_eq_true, Bool.and_eq_true] at h
  refine ⟨h.2.2, fun hk => ?_, fun hk => ?_⟩
  · have h1 := h.2.1
    rw [head_top hk, top_is] at h1
    simp only [Bool.and_eq_true, decide_eq_true_eq] at h1
    exact h1.1.2
  · have h1 := h.2.1
    unfold headM at h1
    rw [if_neg hk] at h1
    simp only [Bool.and_eq_true, decide_eq_true_eq] at h1
    exact h1.1

set_option maxRecDepth 100000 in
set_option maxHeartbeats 1000000 in
theorem eval_w (m : Nat) (k : Int) (t v : Str) (subs : List Str) (kids : List Flt) (l : List FilV) (vs vk : Value) (w : World) (hs : Arr sEnc 1 w vs subs) (hk0 : Arr FilV.cs 5 w vk l) (hlk : l.length = kids.length) (hsl : subs.length ≤ 140737488355328) (hll : l.length ≤ 140737488355328) (at' : List AttrV) (vd va : Value) (d : Int) (ha : Arr AttrV.cs 2 w va at') (hvs : ValsAt w at') (hg : GV w) (hW : wAttrs (at'.map AttrV.toA) ≤ 2000) (hone : oneF (m + 1) d (.mk k t v subs kids) = true) (hsm : okF 1000 (m + 1) (.mk k t v subs kids)) (hN : nodesF (m + 1) (.mk k t v subs kids) ≤ 1000) (hkc : ∀ c ∈ l, ∀ v ∈ c.cs, v.oneCell' = true) (ih : ∀ (i : Nat) (c : FilV) (f : Flt), l[i]? = some c → kids[i]? = some f → ∀ (w1 : World), Ext w w1 → Calls Tryz.prog 16 [.agg ⟨c.cs⟩, .agg ⟨[vd, va]⟩].toArray w1 (Pure w1 (I (evalF at' m f)))) :
  Calls Tryz.prog 16 [.agg ⟨[I k, S t, S v, vs, vk]⟩, .agg ⟨[vd, va]⟩].toArray w (Pure w (I (evalF at' (m + 1) (.mk k t v subs kids)))) := by
 refine calls_W Tryz.func16 rfl rfl rfl (by kernel_rfl) ?_
 have hx := Ext.refl w
 obtain ⟨hall, hkn, hkz⟩ := one_parts hone
 have hks := kids_nodes hall
 have hN2 : 1 + (kids.map (nodesF m)).sum ≤ 1000 := hN
 have hll2 : at'.length ≤ wAttrs (at'.map AttrV.toA) := by have := sum_len (f := wAttr) (fun _ => by unfold wAttr; omega) (at'.map AttrV.toA); simpa [wAttrs] using this
 have hvel := valsE_len t at'
 obtain ⟨ht1, hv1, hsb1⟩ := hsm.here
 refine W_seq fun K1 hK1 => ?_
 refine wr ?_
 refine D_box rfl rfl rfl RX.all (fun b1 w1 e1 x1 m1 => ?_)
 have g1 : w.heap.size ≤ b1 := by have := hx.size; omega
 replace hx := hx.trans x1
 refine D_box rfl rfl rfl RX.all (fun b2 w2 e2 x2 m2 => ?_)
 have g2 : w.heap.size ≤ b2 := by have := hx.size; omega
 have n2_1 : b1 < b2 := by have := m1.lt; omega
 replace m1 := m1.ext x2
 replace hx := hx.trans x2
 refine da ?_
 refine D_end (hK1 _ _ ?_)
 refine W_seq fun K2 hK2 => ?_
 refine wr ?_
 refine da ?_
 refine D_end (hK2 _ _ ?_)
 refine W_seq fun K3 hK3 => ?_
 refine W_seq fun K4 hK4 => ?_
 refine wr ?_
 refine dp (pv_fieldA (k := 4) (by kernel_rfl) rfl) ?_
 refine dq (lv_load (by kernel_rfl) rfl (m1.at rfl)) ?_
 refine dp (pv_lenV (e := 25) (k := 5) (by kernel_rfl) hk0.sl rfl) ?_
 refine dm ?_
 refine D_end (hK4 _ _ ?_)
 refine W_block ?_
 refine W_loop (G := Nat × Value) (fun (i, vm) => [(2, ptr b1 0), (3, ptr b2 0), (4, I 0), (5, vm), (12, vk), (13, I ↑l.length), (14, I ↑i)]) (fun (i, vm) w' => Ext w w' ∧ Blk w' b1 [I k, S t, S v, vs, vk] 25 ∧ Blk w' b2 [vd, va] 29 ∧ i ≤ l.length ∧ Vc.Own Vc.encI 1 3 w.heap.size w' vm ((kids.take i).map (evalF at' m))) (fun (i, vm) => l.length - i) (0, .slice none 0 0) ?_ ?_ ?_
 ·
  exact ⟨rfl, rfl, rfl, rfl, rfl, rfl, rfl, trivial⟩
 ·
  exact ⟨hx, m1, m2, Nat.zero_le _, Vc.Own.nil⟩
 ·
  intro X3 g3 w3 hF3
  obtain ⟨i, vm⟩ := g3
  clear hx m1 m2
  obtain ⟨hx, m1, m2, hi1, ho⟩ := hF3
  refine W_seq fun K5 hK5 => ?_
  refine wr ?_
  refine dp (pv_lss rfl rfl) ?_
  refine D_end (hK5 _ _ ?_)
  refine W_seq fun K6 hK6 => ?_
  refine W_if rfl (fun c1 => ?_) (fun c1 => ?_)
  ·
   obtain ⟨c, hi⟩ : ∃ c, l[i]? = some c := ⟨_, List.getElem?_eq_getElem (by omega)⟩
   obtain ⟨f, hif⟩ := pair_at hlk hi
   
   refine W_skip ?_
   refine hK6 _ _ ?_
   refine W_seq fun K7 hK7 => ?_
   refine W_block ?_
   refine W_seq fun K8 hK8 => ?_
   refine wr ?_
   refine dp (pv_idxA (e := 25) (k := 5) (by kernel_rfl) hk0.sl rfl rfl (hk0.lt hi)) ?_
   refine dq (lv_loadA (by kernel_rfl) rfl rfl ((hk0.ext hx).row hi)) ?_
   refine D_alloc (cs := [.int .i64 0, S [], S [], .slice none 0 0, .slice none 0 0]) rfl (by kernel_rfl) RX.all (fun b3 w4 e3 x4 m3 => ?_)
   have g3 : w.heap.size ≤ b3 := by have := hx.size; omega
   have n3_1 : b1 < b3 := by have := m1.lt; omega
   have n3_2 : b2 < b3 := by have := m2.lt; omega
   have o3_ho : ∀ k, Value.ownBlock _ = some k → k < b3 := fun k hk => by have := (ho.lt k hk).2; omega
   replace m1 := m1.ext x4
   replace m2 := m2.ext x4
   replace ho := ho.ext x4
   replace hx := hx.trans x4
   refine D_store (v := ?v4) (vs := ?u4) rfl rfl ?h4 ?c4 ?s4 m3 ?o4 ?n4 (.inl rfl) (fun w5 x5 xs5 m3 => ?k4)
   case h4 => conv => lhs; whnf
   case c4 => exact rfl
   case s4 => kernel_rfl
   case o4 => exact Nat.le_of_ble_eq_true rfl
   case n4 => exact hkc c (List.mem_of_getElem? hi)
   try dsimp only [setAt, List.set, List.take, List.drop, FilV.cs] at m3
   try replace m1 := m1.mod x5 (by first | assumption | (intro k hk h; have h1 := (m1.lt k hk).1; have h2 : k = b3 := h; omega) | (intro k hk h; have h1 := o3_m1 k hk; have h2 : k = b3 := h; omega) | (intro h; have h2 : _ = b3 := h; omega) | (intro hl h; have h1 := a3_m1 hl; have h2 : _ = b3 := h; omega))
   try replace m2 := m2.mod x5 (by first | assumption | (intro k hk h; have h1 := (m2.lt k hk).1; have h2 : k = b3 := h; omega) | (intro k hk h; have h1 := o3_m2 k hk; have h2 : k = b3 := h; omega) | (intro h; have h2 : _ = b3 := h; omega) | (intro hl h; have h1 := a3_m2 hl; have h2 : _ = b3 := h; omega))
   try replace ho := ho.mod x5 (by first | assumption | (intro k hk h; have h1 := (ho.lt k hk).1; have h2 : k = b3 := h; omega) | (intro k hk h; have h1 := o3_ho k hk; have h2 : k = b3 := h; omega) | (intro h; have h2 : _ = b3 := h; omega) | (intro hl h; have h1 := a3_ho hl; have h2 : _ = b3 := h; omega))
   replace hx := hx.own x5 (by intro i hi; have hi2 : i = b3 := hi; subst hi2; omega)
   refine D_end (hK8 _ _ ?_)
   refine wr ?_
   refine dm ?_
   refine dq (lv_loadA (k := 5) (by kernel_rfl) rfl rfl m3.row) ?_
   refine dq (lv_loadA (k := 2) (by kernel_rfl) rfl rfl m2.row) ?_
   refine D_callP rfl (by kernel_rfl) (ih i c f hi hif _ hx) rfl RX.all (fun w6 x6 => ?_)
   replace m1 := m1.ext x6
   replace m2 := m2.ext x6
   replace ho := ho.ext x6
   replace m3 := m3.ext x6
   replace hx := hx.trans x6
   refine D_lit (e := 3) (sz := 1) (zs := [.int .i64 0]) (pv := [(0, ?a6_0)]) (cs := [?a6_0]) rfl (by kernel_rfl) ⟨rfl, rfl⟩ (by kernel_rfl) rfl ?h6 ?f6 RX.all (fun b4 w7 e4 x7 m4 => ?k6)
   case h6 => refine ⟨rfl, ?_, trivial⟩ <;> (conv => lhs; whnf)
   case f6 => rfl
   have g4 : w.heap.size ≤ b4 := by have := hx.size; omega
   have n4_1 : b1 < b4 := by have := m1.lt; omega
   have n4_2 : b2 < b4 := by have := m2.lt; omega
   have n4_3 : b3 < b4 := by have := m3.lt; omega
   have o4_ho : ∀ k, Value.ownBlock _ = some k → k < b4 := fun k hk => by have := (ho.lt k hk).2; omega
   replace m1 := m1.ext x7
   replace m2 := m2.ext x7
   replace ho := ho.ext x7
   replace m3 := m3.ext x7
   replace hx := hx.trans x7
   refine D_append (lx := [evalF at' m f]) (e := 3) (sz := 1) (by' := 8) rfl (by kernel_rfl) (by kernel_rfl) (by intro x; rfl) ho (m4.arr (enc := Vc.encI) (sz := 1) (l := [evalF at' m f]) rfl (by intro x; rfl) rfl (Nat.le_of_ble_eq_true rfl)) rfl rfl (by intro x _ u hu; simp at hu; rcases hu with rfl <;> rfl) (by simp; omega) (by decide) hx.size (.inl rfl) (fun vm2 w8 ho_n x8 => ?_)
   try replace m1 := m1.mod x8 (by first | (intro h; have h2 : b1 = b1 := Option.some.inj h; omega) | (intro h; have h1 := (ho.lt _ h).1; omega) | (intro h; have h1 := o1_ho _ h; omega) | (intro h; exact ho.ne_blk m1 rfl h))
   try replace m2 := m2.mod x8 (by first | (intro h; have h2 : b2 = b2 := Option.some.inj h; omega) | (intro h; have h1 := (ho.lt _ h).1; omega) | (intro h; have h1 := o2_ho _ h; omega) | (intro h; exact ho.ne_blk m2 rfl h))
   try replace m3 := m3.mod x8 (by first | (intro h; have h2 : b3 = b3 := Option.some.inj h; omega) | (intro h; have h1 := (ho.lt _ h).1; omega) | (intro h; have h1 := o3_ho _ h; omega) | (intro h; exact ho.ne_blk m3 rfl h))
   replace hx := hx.own x8 (fun i hi => (ho.lt i hi).1)
   replace ho := ho_n
   clear m4
   refine da ?_
   refine D_end (hK7 _ _ ?_)
   refine wr ?_
   refine dp (pv_add rfl rfl (by unfold inI64; omega)) ?_
   refine dm ?_
   refine D_end (?_)
   refine ⟨(i + 1, vm2), ⟨rfl, rfl, rfl, rfl, rfl, rfl, rfl, trivial⟩, ⟨hx, m1, m2, by omega, ?_⟩, by simp only []; omega⟩
   rw [take_snocS hif, List.map_append]; exact ho
  ·
   rw [List.take_of_length_le (show kids.length ≤ i by omega)] at ho
   refine W_exit ?_
   refine hK3 _ _ ?_
   refine W_seq fun K9 hK9 => ?_
   refine W_seq fun K10 hK10 => ?_
   refine wr ?_
   refine dp (pv_fieldA (k := 0) (by kernel_rfl) rfl) ?_
   refine dq (lv_load (by kernel_rfl) rfl (m1.at rfl)) ?_
   refine D_end (hK10 _ _ ?_)
   refine W_block ?_
   refine W_seq fun K11 hK11 => ?_
   refine wr ?_
   refine dp (pv_eql rfl rfl) ?_
   refine da ?_
   refine D_end (hK11 _ _ ?_)
   refine W_if rfl (fun c2 => ?_) (fun c2 => ?_)
   ·
    refine W_seq fun K12 hK12 => ?_
    refine wr ?_
    refine dm ?_
    refine D_callP rfl (by kernel_rfl) (and3_w (kids.map (evalF at' m)) vm _ (ho.arr (by intro x; rfl)) (evalsF_in at' m kids) (by rw [List.length_map]; omega)) rfl RX.all (fun w9 x9 => ?_)
    replace m1 := m1.ext x9
    replace m2 := m2.ext x9
    replace ho := ho.ext x9
    replace hx := hx.trans x9
    refine da ?_
    refine D_end (hK12 _ _ ?_)
    refine W_ret ?_
    try dsimp only [then', inBlk, noGo]
    refine ro ?_
    exact ⟨by rw [eval_kids (show ¬ kids.length = 0 by have := hkn (by omega); omega)]; unfold sayM; rw [if_pos c2], hx⟩
   ·
    refine W_seq fun K13 hK13 => ?_
    refine wr ?_
    refine dp (pv_eql rfl rfl) ?_
    refine da ?_
    refine D_end (hK13 _ _ ?_)
    refine W_if rfl (fun c3 => ?_) (fun c3 => ?_)
    ·
     refine W_seq fun K14 hK14 => ?_
     refine wr ?_
     refine dm ?_
     refine D_callP rfl (by kernel_rfl) (or3_w (kids.map (evalF at' m)) vm _ (ho.arr (by intro x; rfl)) (evalsF_in at' m kids) (by rw [List.length_map]; omega)) rfl RX.all (fun w10 x10 => ?_)
     replace m1 := m1.ext x10
     replace m2 := m2.ext x10
     replace ho := ho.ext x10
     replace hx := hx.trans x10
     refine da ?_
     refine D_end (hK14 _ _ ?_)
     refine W_ret ?_
     try dsimp only [then', inBlk, noGo]
     refine ro ?_
     exact ⟨by rw [eval_kids (show ¬ kids.length = 0 by have := hkn (by omega); omega)]; unfold sayM; rw [if_neg c2, if_pos c3], hx⟩
    ·
     refine W_seq fun K15 hK15 => ?_
     refine wr ?_
     refine dp (pv_eql rfl rfl) ?_
     refine da ?_
     refine D_end (hK15 _ _ ?_)
     refine W_if rfl (fun c4 => ?_) (fun c4 => ?_)
     ·
      obtain ⟨x0, hx0⟩ : ∃ x, (kids.map (evalF at' m))[0]? = some x := ⟨_, List.getElem?_eq_getElem (by rw [List.length_map]; omega)⟩
      refine W_seq fun K16 hK16 => ?_
      refine wr ?_
      refine dm ?_
      refine dp (pv_idxA (i := 0) (e := 3) (k := 1) (by kernel_rfl) (ho.arr (by intro x; rfl)).sl rfl rfl ((ho.arr (by intro x; rfl)).lt hx0)) ?_
      refine dq (lv_load (by kernel_rfl) rfl (((ho.arr (by intro x; rfl)).row hx0).at0 rfl)) ?_
      refine D_callP rfl (by kernel_rfl) (not3_w x0 _) rfl RX.all (fun w11 x11 => ?_)
      replace m1 := m1.ext x11
      replace m2 := m2.ext x11
      replace ho := ho.ext x11
      replace hx := hx.trans x11
      refine da ?_
      refine D_end (hK16 _ _ ?_)
      refine W_ret ?_
      try dsimp only [then', inBlk, noGo]
      refine ro ?_
      exact ⟨by rw [eval_kids (show ¬ kids.length = 0 by have := hkn (by omega); omega)]; unfold sayM; rw [if_neg c2, if_neg c3, headD_at hx0], hx⟩
     ·
      have hz0 := hkz (by omega)
      clear ho
      refine W_skip ?_
      refine hK9 _ _ ?_
      refine W_seq fun K17 hK17 => ?_
      refine wr ?_
      refine da ?_
      refine D_end (hK17 _ _ ?_)
      refine W_seq fun K18 hK18 => ?_
      refine W_seq fun K19 hK19 => ?_
      refine wr ?_
      refine dp (pv_fieldA (k := 1) (by kernel_rfl) rfl) ?_
      refine dq (lv_load (by kernel_rfl) rfl (m2.at rfl)) ?_
      refine dp (pv_lenV (e := 36) (k := 2) (by kernel_rfl) ha.sl rfl) ?_
      refine dm ?_
      refine D_end (hK19 _ _ ?_)
      refine W_block ?_
      refine W_loop (G := Nat × Value) (fun (j, vn) => [(2, ptr b1 0), (4, I 0), (8, vn), (42, va), (43, I ↑at'.length), (44, I ↑j)]) (fun (j, vn) w' => Ext w w' ∧ Blk w' b1 [I k, S t, S v, vs, vk] 25 ∧ Blk w' b2 [vd, va] 29 ∧ j ≤ at'.length ∧ Vc.Own sEnc 1 9 w.heap.size w' vn (valsE (at'.take j) t)) (fun (j, vn) => at'.length - j) (0, .slice none 0 0) ?_ ?_ ?_
      ·
       exact ⟨rfl, rfl, rfl, rfl, rfl, rfl, trivial⟩
      ·
       exact ⟨hx, m1, m2, Nat.zero_le _, Vc.Own.nil⟩
      ·
       intro X12 g12 w12 hF12
       obtain ⟨j, vn⟩ := g12
       clear hx m1 m2
       obtain ⟨hx, m1, m2, hj1, hq⟩ := hF12
       refine W_seq fun K20 hK20 => ?_
       refine wr ?_
       refine dp (pv_lss rfl rfl) ?_
       refine D_end (hK20 _ _ ?_)
       refine W_seq fun K21 hK21 => ?_
       refine W_if rfl (fun c5 => ?_) (fun c5 => ?_)
       ·
        obtain ⟨a, hj⟩ : ∃ a, at'[j]? = some a := ⟨_, List.getElem?_eq_getElem (by omega)⟩
        have hav := hvs.at hj
        have hst : wAttrs ((at'.map AttrV.toA).take j) + wAttr a.toA ≤ wAttrs (at'.map AttrV.toA) := sum_take (f := wAttr) (toA_at hj)
        have hwa : wAttr a.toA = 1 + a.typ.length + wVals a.vals := rfl
        have hvl : a.vals.length ≤ wVals a.vals := sum_len (fun _ => by omega) a.vals
        have hel := valsE_len t (at'.take j)
        rw [List.map_take] at hel
        refine W_skip ?_
        refine hK21 _ _ ?_
        refine W_seq fun K22 hK22 => ?_
        refine W_block ?_
        refine W_seq fun K23 hK23 => ?_
        refine wr ?_
        refine dp (pv_idxA (e := 36) (k := 2) (by kernel_rfl) ha.sl rfl rfl (ha.lt hj)) ?_
        refine dq (lv_loadA (by kernel_rfl) rfl rfl ((ha.ext hx).row hj)) ?_
        refine D_alloc (cs := [S [], .slice none 0 0]) rfl (by kernel_rfl) RX.all (fun b5 w13 e5 x13 m5 => ?_)
        have g5 : w.heap.size ≤ b5 := by have := hx.size; omega
        have n5_1 : b1 < b5 := by have := m1.lt; omega
        have n5_2 : b2 < b5 := by have := m2.lt; omega
        have o5_hq : ∀ k, Value.ownBlock _ = some k → k < b5 := fun k hk => by have := (hq.lt k hk).2; omega
        replace m1 := m1.ext x13
        replace m2 := m2.ext x13
        replace hq := hq.ext x13
        replace hx := hx.trans x13
        refine D_store (v := ?v23) (vs := ?u23) rfl rfl ?h23 ?c23 ?s23 m5 ?o23 ?n23 (.inl rfl) (fun w14 x14 xs14 m5 => ?k23)
        case h23 => conv => lhs; whnf
        case c23 => exact rfl
        case s23 => kernel_rfl
        case o23 => exact Nat.le_of_ble_eq_true rfl
        case n23 => exact List.forall_mem_cons.2 ⟨rfl, List.forall_mem_cons.2 ⟨(hvs.at hj).sl.one, fun _ h => by cases h⟩⟩
        try dsimp only [setAt, List.set, List.take, List.drop, FilV.cs] at m5
        try replace m1 := m1.mod x14 (by first | assumption | (intro k hk h; have h1 := (m1.lt k hk).1; have h2 : k = b5 := h; omega) | (intro k hk h; have h1 := o5_m1 k hk; have h2 : k = b5 := h; omega) | (intro h; have h2 : _ = b5 := h; omega) | (intro hl h; have h1 := a5_m1 hl; have h2 : _ = b5 := h; omega))
        try replace m2 := m2.mod x14 (by first | assumption | (intro k hk h; have h1 := (m2.lt k hk).1; have h2 : k = b5 := h; omega) | (intro k hk h; have h1 := o5_m2 k hk; have h2 : k = b5 := h; omega) | (intro h; have h2 : _ = b5 := h; omega) | (intro hl h; have h1 := a5_m2 hl; have h2 : _ = b5 := h; omega))
        try replace hq := hq.mod x14 (by first | assumption | (intro k hk h; have h1 := (hq.lt k hk).1; have h2 : k = b5 := h; omega) | (intro k hk h; have h1 := o5_hq k hk; have h2 : k = b5 := h; omega) | (intro h; have h2 : _ = b5 := h; omega) | (intro hl h; have h1 := a5_hq hl; have h2 : _ = b5 := h; omega))
        replace hx := hx.own x14 (by intro i hi; have hi2 : i = b5 := hi; subst hi2; omega)
        refine D_end (hK23 _ _ ?_)
        refine W_seq fun K24 hK24 => ?_
        refine W_draw (R := Ext) Ext.refl (fun _ _ _ => Ext.trans) (by kernel_rfl) [1, 4] [(0, .p, false), (1, .l, false), (3, .p, false), (4, .l, false), (2, .x, false), (5, .x, false), (6, .p, false)] rfl (by kernel_rfl) (by kernel_rfl) (fun w15 ew15 => ?_)
        have x15 : Ext w14 w15 := by rw [ew15]; exact Ext.drew _
        clear ew15
        replace m1 := m1.ext x15
        replace m2 := m2.ext x15
        replace hq := hq.ext x15
        replace m5 := m5.ext x15
        replace hx := hx.trans x15
        refine dp (pv_fieldA (k := 0) (by kernel_rfl) rfl) ?_
        refine D_l rfl (fun w' hR => lv_load (by kernel_rfl) rfl ((m5.ext hR).at rfl)) ?_
        refine dp (pv_fieldA (k := 1) (by kernel_rfl) rfl) ?_
        refine D_l rfl (fun w' hR => lv_load (by kernel_rfl) rfl ((m1.ext hR).at rfl)) ?_
        refine D_callP rfl (by kernel_rfl) (fold_w a.typ _ (by omega)) rfl RX.ext (fun w16 x16 => ?_)
        replace m1 := m1.ext x16
        replace m2 := m2.ext x16
        replace hq := hq.ext x16
        replace m5 := m5.ext x16
        replace hx := hx.trans x16
        refine D_callP rfl (by kernel_rfl) (fold_w t _ (by omega)) rfl RX.ext (fun w17 x17 => ?_)
        replace m1 := m1.ext x17
        replace m2 := m2.ext x17
        replace hq := hq.ext x17
        replace m5 := m5.ext x17
        replace hx := hx.trans x17
        refine dp (pv_seq rfl rfl) ?_
        refine D_end (hK24 _ _ ?_)
        refine W_if rfl (fun c6 => ?_) (fun c6 => ?_)
        ·
         refine wr ?_
         refine dm ?_
         refine dp (pv_fieldA (k := 1) (by kernel_rfl) rfl) ?_
         refine dq (lv_load (by kernel_rfl) rfl (m5.at rfl)) ?_
         refine D_append (lx := a.vals) (e := 9) (sz := 1) (by' := 16) rfl (by kernel_rfl) (by kernel_rfl) (by intro x; rfl) hq ((hav.ext hx)) rfl rfl (by intro x _ u hu; simp at hu; rcases hu with rfl <;> rfl) (by first | omega | (unfold maxLen; omega)) (by decide) hx.size (.inl rfl) (fun vn2 w18 hq_n x18 => ?_)
         try replace m1 := m1.mod x18 (by first | (intro h; have h2 : b1 = b1 := Option.some.inj h; omega) | (intro h; have h1 := (hq.lt _ h).1; omega) | (intro h; have h1 := o1_hq _ h; omega) | (intro h; exact hq.ne_blk m1 rfl h))
         try replace m2 := m2.mod x18 (by first | (intro h; have h2 : b2 = b2 := Option.some.inj h; omega) | (intro h; have h1 := (hq.lt _ h).1; omega) | (intro h; have h1 := o2_hq _ h; omega) | (intro h; exact hq.ne_blk m2 rfl h))
         try replace m5 := m5.mod x18 (by first | (intro h; have h2 : b5 = b5 := Option.some.inj h; omega) | (intro h; have h1 := (hq.lt _ h).1; omega) | (intro h; have h1 := o5_hq _ h; omega) | (intro h; exact hq.ne_blk m5 rfl h))
         replace hx := hx.own x18 (fun i hi => (hq.lt i hi).1)
         replace hq := hq_n
         refine da ?_
         refine D_end (hK22 _ _ ?_)
         refine wr ?_
         refine dp (pv_add rfl rfl (by unfold inI64; omega)) ?_
         refine dm ?_
         refine D_end (?_)
         refine ⟨(j + 1, vn2), ⟨rfl, rfl, rfl, rfl, rfl, rfl, trivial⟩, ⟨hx, m1, m2, by omega, ?_⟩, by simp only []; omega⟩
         rw [valsE_yes hj c6]; exact hq
        ·
         refine W_skip ?_
         refine hK22 _ _ ?_
         refine wr ?_
         refine dp (pv_add rfl rfl (by unfold inI64; omega)) ?_
         refine dm ?_
         refine D_end (?_)
         refine ⟨(j + 1, vn), ⟨rfl, rfl, rfl, rfl, rfl, rfl, trivial⟩, ⟨hx, m1, m2, by omega, ?_⟩, by simp only []; omega⟩
         rw [valsE_no hj c6]; exact hq
       ·
        rw [List.take_of_length_le (by omega)] at hq
        refine W_exit ?_
        refine hK18 _ _ ?_
        refine W_seq fun K25 hK25 => ?_
        refine wr ?_
        refine dq (lv_loadA (k := 5) (by kernel_rfl) rfl rfl m1.row) ?_
        refine dm ?_
        refine D_callP rfl (by kernel_rfl) (item_w k t v vs vk vn subs (valsE at' t) _ (hg.ext hx) (hs.ext hx) (fun p hp => by have := hsb1 p hp; omega) (hq.arr (by intro x; rfl)) (by omega) (fun x hx => by have := valsE_small hx; omega) (by omega) (by omega)) rfl RX.all (fun w19 x19 => ?_)
        replace m1 := m1.ext x19
        replace m2 := m2.ext x19
        replace hq := hq.ext x19
        replace hx := hx.trans x19
        refine da ?_
        refine D_end (hK25 _ _ ?_)
        refine W_ret ?_
        try dsimp only [then', inBlk, noGo]
        refine ro ?_
        exact ⟨by rw [eval_leaf hz0], hx⟩

theorem eval_all : ∀ (m : Nat) (d : Int) (c : FilV) (f : Flt) (w : World) (at' : List AttrV) (vd va : Value), FRep w m c f → okF 1000 m f → oneF m d f = true → nodesF m f ≤ 1000 → Arr AttrV.cs 2 w va at' → ValsAt w at' → GV w → wAttrs (at'.map AttrV.toA) ≤ 2000 → ∀ (w1 : World), Ext w w1 → Calls Tryz.prog 16 [.agg ⟨c.cs⟩, .agg ⟨[vd, va]⟩].toArray w1 (Pure w1 (I (evalF at' m f)))
  | 0, _, _, _, _, _, _, _, h, _, _, _, _, _, _, _, _, _ => h.elim
  | m + 1, d, c, .mk k t v subs kids, w, at', vd, va, h, ho, h1, hN, ha, hvs, hg, hW, w1, hx => by
    obtain ⟨e1, e2, e3, hs, hsl, l, hk, hl, hll, hkids⟩ := h.ext hx
    obtain ⟨ck, ct, cv, cs, cc⟩ := c
    subst e1 e2 e3
    have hN2 : 1 + (kids.map (nodesF m)).sum ≤ 1000 := hN
    exact eval_w m k t v subs kids l cs cc w1 hs hk hl hsl hll at' vd va d (ha.ext hx) (hvs.ext hx) (hg.ext hx) hW h1 ho hN (fun c hc => by obtain ⟨i, hi⟩ := List.mem_iff_getElem?.1 hc; obtain ⟨f, hf⟩ := pair_at hl hi; exact (hkids i c f hi hf).one)
      (fun i c f hi hf w2 hx2 => eval_all m (d + 1) c f w1 at' vd va (hkids i c f hi hf) (ho.2.2.2 f (List.mem_of_getElem? hf)) (List.all_eq_true.1 (one_parts h1).1 f (List.mem_of_getElem? hf)) (by have := sum_mem (f := nodesF m) (List.mem_of_getElem? hf); omega) (ha.ext hx) (hvs.ext hx) (hg.ext hx) hW w2 hx2)

set_option maxRecDepth 100000 in
set_option maxHeartbeats 1000000 in
theorem rvals_w (at' : List AttrV) (vd va : Value) (t : Str) (w : World) (ha : Arr AttrV.cs 2 w va at') (hvs : ValsAt w at') (hW : wAttrs (at'.map AttrV.toA) ≤ 2000) (ht1 : t.length ≤ 1000) :
  Calls Tryz.prog 37 [.agg ⟨[vd, va]⟩, S t].toArray w (Gives w (fun u w' => Arr sEnc 1 w' u (valsE at' t))) := by
 refine calls_W Tryz.func37 rfl rfl rfl (by kernel_rfl) ?_
 have hx := Ext.refl w
 have hll2 : at'.length ≤ wAttrs (at'.map AttrV.toA) := by have := sum_len (f := wAttr) (fun _ => by unfold wAttr; omega) (at'.map AttrV.toA); simpa [wAttrs] using this
 refine W_seq fun K1 hK1 => ?_
 refine wr ?_
 refine D_box rfl rfl rfl RX.all (fun b1 w1 e1 x1 m1 => ?_)
 have g1 : w.heap.size ≤ b1 := by have := hx.size; omega
 replace hx := hx.trans x1
 refine da ?_
 refine D_end (hK1 _ _ ?_)
 refine W_seq fun K2 hK2 => ?_
 refine wr ?_
 refine da ?_
 refine D_end (hK2 _ _ ?_)
 refine W_seq fun K3 hK3 => ?_
 refine W_seq fun K4 hK4 => ?_
 refine wr ?_
 refine da ?_
 refine D_end (hK4 _ _ ?_)
 refine W_block ?_
 refine W_loop (G := Nat × Value) (fun (j, vn) => [(1, S t), (2, ptr b1 0), (4, .slice none 0 0), (5, vn), (6, I ↑j)]) (fun (j, vn) w' => Ext w w' ∧ Blk w' b1 [vd, va] 29 ∧ j ≤ at'.length ∧ Vc.Own sEnc 1 9 w.heap.size w' vn (valsE (at'.take j) t)) (fun (j, vn) => at'.length - j) (0, .slice none 0 0) ?_ ?_ ?_
 ·
  exact ⟨rfl, rfl, rfl, rfl, rfl, trivial⟩
 ·
  exact ⟨hx, m1, Nat.zero_le _, Vc.Own.nil⟩
 ·
  intro X2 g2 w2 hF2
  obtain ⟨j, vn⟩ := g2
  clear hx m1
  obtain ⟨hx, m1, hj1, hq⟩ := hF2
  refine W_seq fun K5 hK5 => ?_
  refine W_seq fun K6 hK6 => ?_
  refine wr ?_
  refine dm ?_
  refine dp (pv_fieldA (k := 1) (by kernel_rfl) rfl) ?_
  refine dq (lv_load (by kernel_rfl) rfl (m1.at rfl)) ?_
  refine dp (pv_lenV (e := 36) (k := 2) (by kernel_rfl) ha.sl rfl) ?_
  refine dp (pv_lss rfl rfl) ?_
  refine D_end (hK6 _ _ ?_)
  refine W_if rfl (fun c1 => ?_) (fun c1 => ?_)
  ·
   obtain ⟨a, hj⟩ : ∃ a, at'[j]? = some a := ⟨_, List.getElem?_eq_getElem (by omega)⟩
   have hav := hvs.at hj
   have hst : wAttrs ((at'.map AttrV.toA).take j) + wAttr a.toA ≤ wAttrs (at'.map AttrV.toA) := sum_take (f := wAttr) (toA_at hj)
   have hwa : wAttr a.toA = 1 + a.typ.length + wVals a.vals := rfl
   have hvl : a.vals.length ≤ wVals a.vals := sum_len (fun _ => by omega) a.vals
   have hel := valsE_len t (at'.take j)
   rw [List.map_take] at hel
   refine W_skip ?_
   refine hK5 _ _ ?_
   refine W_seq fun K7 hK7 => ?_
   refine W_block ?_
   refine W_seq fun K8 hK8 => ?_
   refine wr ?_
   refine dp (pv_fieldA (k := 1) (by kernel_rfl) rfl) ?_
   refine dq (lv_load (by kernel_rfl) rfl (m1.at rfl)) ?_
   refine dm ?_
   refine dp (pv_idxA (e := 36) (k := 2) (by kernel_rfl) ha.sl rfl rfl (ha.lt hj)) ?_
   refine dp (pv_fieldA (k := 0) (by kernel_rfl) rfl) ?_
   refine dq (lv_load (by kernel_rfl) rfl (((ha.ext hx).row hj).at rfl)) ?_
   refine D_callP rfl (by kernel_rfl) (rfold_w a.typ _ (by omega)) rfl RX.all (fun w3 x3 => ?_)
   replace m1 := m1.ext x3
   replace hq := hq.ext x3
   replace hx := hx.trans x3
   refine dm ?_
   refine D_callP rfl (by kernel_rfl) (rfold_w t _ (by omega)) rfl RX.all (fun w4 x4 => ?_)
   replace m1 := m1.ext x4
   replace hq := hq.ext x4
   replace hx := hx.trans x4
   refine dp (pv_seq rfl rfl) ?_
   refine D_end (hK8 _ _ ?_)
   refine W_if rfl (fun c2 => ?_) (fun c2 => ?_)
   ·
    refine wr ?_
    refine dm ?_
    refine dp (pv_fieldA (k := 1) (by kernel_rfl) rfl) ?_
    refine dq (lv_load (by kernel_rfl) rfl (m1.at rfl)) ?_
    refine dm ?_
    refine dp (pv_idxA (e := 36) (k := 2) (by kernel_rfl) ha.sl rfl rfl (ha.lt hj)) ?_
    refine dp (pv_fieldA (k := 1) (by kernel_rfl) rfl) ?_
    refine dq (lv_load (by kernel_rfl) rfl (((ha.ext hx).row hj).at rfl)) ?_
    refine D_append (lx := a.vals) (e := 9) (sz := 1) (by' := 16) rfl (by kernel_rfl) (by kernel_rfl) (by intro x; rfl) hq ((hav.ext hx)) rfl rfl (by intro x _ u hu; simp at hu; rcases hu with rfl <;> rfl) (by first | omega | (unfold maxLen; omega)) (by decide) hx.size (.inl rfl) (fun vn2 w5 hq_n x5 => ?_)
    try replace m1 := m1.mod x5 (by first | (intro h; have h2 : b1 = b1 := Option.some.inj h; omega) | (intro h; have h1 := (hq.lt _ h).1; omega) | (intro h; have h1 := o1_hq _ h; omega) | (intro h; exact hq.ne_blk m1 rfl h))
    replace hx := hx.own x5 (fun i hi => (hq.lt i hi).1)
    replace hq := hq_n
    refine da ?_
    refine D_end (hK7 _ _ ?_)
    refine wr ?_
    refine dm ?_
    refine dp (pv_add rfl rfl (by unfold inI64; omega)) ?_
    refine da ?_
    refine D_end (?_)
    refine ⟨(j + 1, vn2), ⟨rfl, rfl, rfl, rfl, rfl, trivial⟩, ⟨hx, m1, by omega, ?_⟩, by simp only []; omega⟩
    rw [valsE_yes hj c2]; exact hq
   ·
    refine W_skip ?_
    refine hK7 _ _ ?_
    refine wr ?_
    refine dm ?_
    refine dp (pv_add rfl rfl (by unfold inI64; omega)) ?_
    refine da ?_
    refine D_end (?_)
    refine ⟨(j + 1, vn), ⟨rfl, rfl, rfl, rfl, rfl, trivial⟩, ⟨hx, m1, by omega, ?_⟩, by simp only []; omega⟩
    rw [valsE_no hj c2]; exact hq
  ·
   rw [List.take_of_length_le (by omega)] at hq
   refine W_exit ?_
   refine hK3 _ _ ?_
   refine W_seq fun K9 hK9 => ?_
   refine wr ?_
   refine dm ?_
   refine da ?_
   refine D_end (hK9 _ _ ?_)
   refine W_ret ?_
   try dsimp only [then', inBlk, noGo]
   refine ro ?_
   exact ⟨_, rfl, hx, hq.arr (by intro x; rfl)⟩

set_option maxRecDepth 100000 in
set_option maxHeartbeats 1000000 in
theorem reval_w (m : Nat) (k : Int) (t v : Str) (subs : List Str) (kids : List Flt) (l : List FilV) (vs vk : Value) (w : World) (hs : Arr sEnc 1 w vs subs) (hk0 : Arr FilV.cs 5 w vk l) (hlk : l.length = kids.length) (hsl : subs.length ≤ 140737488355328) (hll : l.length ≤ 140737488355328) (at' : List AttrV) (vd va : Value) (d : Int) (ha : Arr AttrV.cs 2 w va at') (hvs : ValsAt w at') (hg : GV w) (hW : wAttrs (at'.map AttrV.toA) ≤ 2000) (hone : oneF (m + 1) d (.mk k t v subs kids) = true) (hsm : okF 1000 (m + 1) (.mk k t v subs kids)) (hN : nodesF (m + 1) (.mk k t v subs kids) ≤ 1000) (hkc : ∀ c ∈ l, ∀ v ∈ c.cs, v.oneCell' = true) (ih : ∀ (i : Nat) (c : FilV) (f : Flt), l[i]? = some c → kids[i]? = some f → ∀ (w1 : World), Ext w w1 → Calls Tryz.prog 17 [.agg ⟨c.cs⟩, .agg ⟨[vd, va]⟩].toArray w1 (Pure w1 (I (evalF at' m f)))) :
  Calls Tryz.prog 17 [.agg ⟨[I k, S t, S v, vs, vk]⟩, .agg ⟨[vd, va]⟩].toArray w (Pure w (I (evalF at' (m + 1) (.mk k t v subs kids)))) := by
 refine calls_W Tryz.func17 rfl rfl rfl (by kernel_rfl) ?_
 have hx := Ext.refl w
 obtain ⟨hall, hkn, hkz⟩ := one_parts hone
 have hks := kids_nodes hall
 have hN2 : 1 + (kids.map (nodesF m)).sum ≤ 1000 := hN
 have hll2 : at'.length ≤ wAttrs (at'.map AttrV.toA) := by have := sum_len (f := wAttr) (fun _ => by unfold wAttr; omega) (at'.map AttrV.toA); simpa [wAttrs] using this
 have hvel := valsE_len t at'
 obtain ⟨ht1, hv1, hsb1⟩ := hsm.here
 refine W_seq fun K1 hK1 => ?_
 refine wr ?_
 refine D_box rfl rfl rfl RX.all (fun b1 w1 e1 x1 m1 => ?_)
 have g1 : w.heap.size ≤ b1 := by have := hx.size; omega
 replace hx := hx.trans x1
 refine D_box rfl rfl rfl RX.all (fun b2 w2 e2 x2 m2 => ?_)
 have g2 : w.heap.size ≤ b2 := by have := hx.size; omega
 have n2_1 : b1 < b2 := by have := m1.lt; omega
 replace m1 := m1.ext x2
 replace hx := hx.trans x2
 refine da ?_
 refine D_end (hK1 _ _ ?_)
 refine W_seq fun K2 hK2 => ?_
 refine W_seq fun K3 hK3 => ?_
 refine wr ?_
 refine dp (pv_fieldA (k := 4) (by kernel_rfl) rfl) ?_
 refine dq (lv_load (by kernel_rfl) rfl (m1.at rfl)) ?_
 refine dp (pv_lenV (e := 25) (k := 5) (by kernel_rfl) hk0.sl rfl) ?_
 refine dp (pv_eql rfl rfl) ?_
 refine D_end (hK3 _ _ ?_)
 refine W_if rfl (fun c1 => ?_) (fun c1 => ?_)
 ·
  refine W_seq fun K4 hK4 => ?_
  refine W_draw (R := Ext) Ext.refl (fun _ _ _ => Ext.trans) (by kernel_rfl) [0, 1, 3] [(0, .l, false), (1, .l, false), (2, .p, false), (3, .l, false), (4, .x, false), (5, .x, false), (6, .p, false)] rfl (by kernel_rfl) (by kernel_rfl) (fun w3 ew3 => ?_)
  have x3 : Ext w2 w3 := by rw [ew3]; exact Ext.drew _
  clear ew3
  replace m1 := m1.ext x3
  replace m2 := m2.ext x3
  replace hx := hx.trans x3
  refine D_l rfl (fun w' hR => lv_loadA (k := 5) (by kernel_rfl) rfl rfl (m1.ext hR).row) ?_
  refine D_l rfl (fun w' hR => lv_loadA (k := 2) (by kernel_rfl) rfl rfl (m2.ext hR).row) ?_
  refine dp (pv_fieldA (k := 1) (by kernel_rfl) rfl) ?_
  refine D_l rfl (fun w' hR => lv_load (by kernel_rfl) rfl ((m1.ext hR).at rfl)) ?_
  refine D_callG rfl (by kernel_rfl) (rvals_w at' vd va t _ (ha.ext hx) (hvs.ext hx) hW ht1) rfl RX.ext (fun vn w4 x4 hq => ?_)
  have hsz4 := hx.size
  replace m1 := m1.ext x4
  replace m2 := m2.ext x4
  replace hx := hx.trans x4
  refine D_callP rfl (by kernel_rfl) (ritem_w k t v vs vk vn subs (valsE at' t) _ (hs.ext hx) (fun p hp => by have := hsb1 p hp; omega) hq (by omega) (fun x hx => by have := valsE_small hx; omega) (by omega) (by omega)) rfl RX.ext (fun w5 x5 => ?_)
  replace m1 := m1.ext x5
  replace m2 := m2.ext x5
  replace hq := hq.ext x5
  replace hx := hx.trans x5
  refine da ?_
  refine D_end (hK4 _ _ ?_)
  refine W_ret ?_
  try dsimp only [then', inBlk, noGo]
  refine ro ?_
  exact ⟨by rw [eval_leaf (by omega)], hx⟩
 ·
  refine W_skip ?_
  refine hK2 _ _ ?_
  refine W_seq fun K5 hK5 => ?_
  refine wr ?_
  refine da ?_
  refine D_end (hK5 _ _ ?_)
  refine W_seq fun K6 hK6 => ?_
  refine W_seq fun K7 hK7 => ?_
  refine wr ?_
  refine da ?_
  refine D_end (hK7 _ _ ?_)
  refine W_block ?_
  refine W_loop (G := Nat × Value) (fun (i, vm) => [(2, ptr b1 0), (3, ptr b2 0), (4, I 0), (5, vm), (6, I ↑i)]) (fun (i, vm) w' => Ext w w' ∧ Blk w' b1 [I k, S t, S v, vs, vk] 25 ∧ Blk w' b2 [vd, va] 29 ∧ i ≤ l.length ∧ Vc.Own Vc.encI 1 3 w.heap.size w' vm ((kids.take i).map (evalF at' m))) (fun (i, vm) => l.length - i) (0, .slice none 0 0) ?_ ?_ ?_
  ·
   exact ⟨rfl, rfl, rfl, rfl, rfl, trivial⟩
  ·
   exact ⟨hx, m1, m2, Nat.zero_le _, Vc.Own.nil⟩
  ·
   intro X6 g6 w6 hF6
   obtain ⟨i, vm⟩ := g6
   clear hx m1 m2
   obtain ⟨hx, m1, m2, hi1, ho⟩ := hF6
   refine W_seq fun K8 hK8 => ?_
   refine W_seq fun K9 hK9 => ?_
   refine wr ?_
   refine dm ?_
   refine dp (pv_fieldA (k := 4) (by kernel_rfl) rfl) ?_
   refine dq (lv_load (by kernel_rfl) rfl (m1.at rfl)) ?_
   refine dp (pv_lenV (e := 25) (k := 5) (by kernel_rfl) hk0.sl rfl) ?_
   refine dp (pv_lss rfl rfl) ?_
   refine D_end (hK9 _ _ ?_)
   refine W_if rfl (fun c2 => ?_) (fun c2 => ?_)
   ·
    obtain ⟨c, hi⟩ : ∃ c, l[i]? = some c := ⟨_, List.getElem?_eq_getElem (by omega)⟩
    obtain ⟨f, hif⟩ := pair_at hlk hi
    
    refine W_skip ?_
    refine hK8 _ _ ?_
    refine W_seq fun K10 hK10 => ?_
    refine W_block ?_
    refine W_draw (R := Mod (fun k => vm.ownBlock = some k)) modRefl modTrans (by kernel_rfl) [2, 5, 6] [(0, .p, false), (1, .p, false), (2, .l, false), (3, .p, false), (4, .p, false), (5, .l, false), (6, .l, false), (7, .x, false), (8, .x, false), (9, .x, false), (10, .p, false)] rfl (by kernel_rfl) (by kernel_rfl) (fun w7 ew7 => ?_)
    have x7 : Ext w6 w7 := by rw [ew7]; exact Ext.drew _
    clear ew7
    replace m1 := m1.ext x7
    replace m2 := m2.ext x7
    replace ho := ho.ext x7
    replace hx := hx.trans x7
    refine dm ?_
    refine dp (pv_fieldA (k := 4) (by kernel_rfl) rfl) ?_
    refine D_l rfl (fun w' hR => lv_load (by kernel_rfl) rfl ((m1.mod hR (fun e => ho.ne_blk m1 rfl e)).at rfl)) ?_
    refine dm ?_
    refine dp (pv_idxA (e := 25) (k := 5) (by kernel_rfl) hk0.sl rfl rfl (hk0.lt hi)) ?_
    refine D_l rfl (fun w' hR => lv_loadA (by kernel_rfl) rfl rfl (((hk0.ext hx).mod hR (fun hne h => by have h1 := (ho.lt _ h).1; have h2 := Arr.base_lt hk0 (by decide) hne; omega)).row hi)) ?_
    refine D_l rfl (fun w' hR => lv_loadA (k := 2) (by kernel_rfl) rfl rfl (m2.mod hR (fun e => ho.ne_blk m2 rfl e)).row) ?_
    refine D_callP rfl (by kernel_rfl) (ih i c f hi hif _ hx) rfl RX.mod (fun w8 x8 => ?_)
    replace m1 := m1.ext x8
    replace m2 := m2.ext x8
    replace ho := ho.ext x8
    replace hx := hx.trans x8
    refine D_lit (e := 3) (sz := 1) (zs := [.int .i64 0]) (pv := [(0, ?a9_0)]) (cs := [?a9_0]) rfl (by kernel_rfl) ⟨rfl, rfl⟩ (by kernel_rfl) rfl ?h9 ?f9 RX.mod (fun b3 w9 e3 x9 m3 => ?k9)
    case h9 => refine ⟨rfl, ?_, trivial⟩ <;> (conv => lhs; whnf)
    case f9 => rfl
    have g3 : w.heap.size ≤ b3 := by have := hx.size; omega
    have n3_1 : b1 < b3 := by have := m1.lt; omega
    have n3_2 : b2 < b3 := by have := m2.lt; omega
    replace m1 := m1.ext x9
    replace m2 := m2.ext x9
    replace ho := ho.ext x9
    replace hx := hx.trans x9
    refine D_append (lx := [evalF at' m f]) (e := 3) (sz := 1) (by' := 8) rfl (by kernel_rfl) (by kernel_rfl) (by intro x; rfl) ho (m3.arr (enc := Vc.encI) (sz := 1) (l := [evalF at' m f]) rfl (by intro x; rfl) rfl (Nat.le_of_ble_eq_true rfl)) rfl rfl (by intro x _ u hu; simp at hu; rcases hu with rfl <;> rfl) (by simp; omega) (by decide) hx.size (.inr fun _ h => h) (fun vm2 w10 ho_n x10 => ?_)
    try replace m1 := m1.mod x10 (by first | (intro h; have h2 : b1 = b1 := Option.some.inj h; omega) | (intro h; have h1 := (ho.lt _ h).1; omega) | (intro h; have h1 := o1_ho _ h; omega) | (intro h; exact ho.ne_blk m1 rfl h))
    try replace m2 := m2.mod x10 (by first | (intro h; have h2 : b2 = b2 := Option.some.inj h; omega) | (intro h; have h1 := (ho.lt _ h).1; omega) | (intro h; have h1 := o2_ho _ h; omega) | (intro h; exact ho.ne_blk m2 rfl h))
    replace hx := hx.own x10 (fun i hi => (ho.lt i hi).1)
    replace ho := ho_n
    clear m3
    refine da ?_
    refine D_end (hK10 _ _ ?_)
    refine wr ?_
    refine dm ?_
    refine dp (pv_add rfl rfl (by unfold inI64; omega)) ?_
    refine da ?_
    refine D_end (?_)
    refine ⟨(i + 1, vm2), ⟨rfl, rfl, rfl, rfl, rfl, trivial⟩, ⟨hx, m1, m2, by omega, ?_⟩, by simp only []; omega⟩
    rw [take_snocS hif, List.map_append]; exact ho
   ·
    rw [List.take_of_length_le (show kids.length ≤ i by omega)] at ho
    refine W_exit ?_
    refine hK6 _ _ ?_
    refine W_seq fun K11 hK11 => ?_
    refine W_seq fun K12 hK12 => ?_
    refine wr ?_
    refine dp (pv_fieldA (k := 0) (by kernel_rfl) rfl) ?_
    refine dq (lv_load (by kernel_rfl) rfl (m1.at rfl)) ?_
    refine D_end (hK12 _ _ ?_)
    refine W_block ?_
    refine W_seq fun K13 hK13 => ?_
    refine wr ?_
    refine dp (pv_eql rfl rfl) ?_
    refine da ?_
    refine D_end (hK13 _ _ ?_)
    refine W_if rfl (fun c3 => ?_) (fun c3 => ?_)
    ·
     refine W_seq fun K14 hK14 => ?_
     refine wr ?_
     refine dm ?_
     refine D_callP rfl (by kernel_rfl) (rand3_w (kids.map (evalF at' m)) vm _ (ho.arr (by intro x; rfl)) (evalsF_in at' m kids) (by rw [List.length_map]; omega)) rfl RX.all (fun w11 x11 => ?_)
     replace m1 := m1.ext x11
     replace m2 := m2.ext x11
     replace ho := ho.ext x11
     replace hx := hx.trans x11
     refine da ?_
     refine D_end (hK14 _ _ ?_)
     refine W_ret ?_
     try dsimp only [then', inBlk, noGo]
     refine ro ?_
     exact ⟨by rw [eval_kids (show ¬ kids.length = 0 by have := hkn (by omega); omega)]; unfold sayM; rw [if_pos c3], hx⟩
    ·
     refine W_seq fun K15 hK15 => ?_
     refine wr ?_
     refine dp (pv_eql rfl rfl) ?_
     refine da ?_
     refine D_end (hK15 _ _ ?_)
     refine W_if rfl (fun c4 => ?_) (fun c4 => ?_)
     ·
      refine W_seq fun K16 hK16 => ?_
      refine wr ?_
      refine dm ?_
      refine D_callP rfl (by kernel_rfl) (ror3_w (kids.map (evalF at' m)) vm _ (ho.arr (by intro x; rfl)) (evalsF_in at' m kids) (by rw [List.length_map]; omega)) rfl RX.all (fun w12 x12 => ?_)
      replace m1 := m1.ext x12
      replace m2 := m2.ext x12
      replace ho := ho.ext x12
      replace hx := hx.trans x12
      refine da ?_
      refine D_end (hK16 _ _ ?_)
      refine W_ret ?_
      try dsimp only [then', inBlk, noGo]
      refine ro ?_
      exact ⟨by rw [eval_kids (show ¬ kids.length = 0 by have := hkn (by omega); omega)]; unfold sayM; rw [if_neg c3, if_pos c4], hx⟩
     ·
      obtain ⟨x0, hx0⟩ : ∃ x, (kids.map (evalF at' m))[0]? = some x := ⟨_, List.getElem?_eq_getElem (by rw [List.length_map]; omega)⟩
      refine W_skip ?_
      refine hK11 _ _ ?_
      refine W_seq fun K17 hK17 => ?_
      refine wr ?_
      refine dm ?_
      refine dp (pv_idxA (i := 0) (e := 3) (k := 1) (by kernel_rfl) (ho.arr (by intro x; rfl)).sl rfl rfl ((ho.arr (by intro x; rfl)).lt hx0)) ?_
      refine dq (lv_load (by kernel_rfl) rfl (((ho.arr (by intro x; rfl)).row hx0).at0 rfl)) ?_
      refine D_callP rfl (by kernel_rfl) (rnot3_w x0 _) rfl RX.all (fun w13 x13 => ?_)
      replace m1 := m1.ext x13
      replace m2 := m2.ext x13
      replace ho := ho.ext x13
      replace hx := hx.trans x13
      refine da ?_
      refine D_end (hK17 _ _ ?_)
      refine W_ret ?_
      try dsimp only [then', inBlk, noGo]
      refine ro ?_
      exact ⟨by rw [eval_kids (show ¬ kids.length = 0 by have := hkn (by omega); omega)]; unfold sayM; rw [if_neg c3, if_neg c4, headD_at hx0], hx⟩

theorem reval_all : ∀ (m : Nat) (d : Int) (c : FilV) (f : Flt) (w : World) (at' : List AttrV) (vd va : Value), FRep w m c f → okF 1000 m f → oneF m d f = true → nodesF m f ≤ 1000 → Arr AttrV.cs 2 w va at' → ValsAt w at' → GV w → wAttrs (at'.map AttrV.toA) ≤ 2000 → ∀ (w1 : World), Ext w w1 → Calls Tryz.prog 17 [.agg ⟨c.cs⟩, .agg ⟨[vd, va]⟩].toArray w1 (Pure w1 (I (evalF at' m f)))
  | 0, _, _, _, _, _, _, _, h, _, _, _, _, _, _, _, _, _ => h.elim
  | m + 1, d, c, .mk k t v subs kids, w, at', vd, va, h, ho, h1, hN, ha, hvs, hg, hW, w1, hx => by
    obtain ⟨e1, e2, e3, hs, hsl, l, hk, hl, hll, hkids⟩ := h.ext hx
    obtain ⟨ck, ct, cv, cs, cc⟩ := c
    subst e1 e2 e3
    have hN2 : 1 + (kids.map (nodesF m)).sum ≤ 1000 := hN
    exact reval_w m k t v subs kids l cs cc w1 hs hk hl hsl hll at' vd va d (ha.ext hx) (hvs.ext hx) (hg.ext hx) hW h1 ho hN (fun c hc => by obtain ⟨i, hi⟩ := List.mem_iff_getElem?.1 hc; obtain ⟨f, hf⟩ := pair_at hl hi; exact (hkids i c f hi hf).one)
      (fun i c f hi hf w2 hx2 => reval_all m (d + 1) c f w1 at' vd va (hkids i c f hi hf) (ho.2.2.2 f (List.mem_of_getElem? hf)) (List.all_eq_true.1 (one_parts h1).1 f (List.mem_of_getElem? hf)) (by have := sum_mem (f := nodesF m) (List.mem_of_getElem? hf); omega) (ha.ext hx) (hvs.ext hx) (hg.ext hx) hW w2 hx2)

set_option maxRecDepth 100000 in
set_option maxHeartbeats 1000000 in
theorem peval_w (m : Nat) (c : FilV) (f : Flt) (at' : List AttrV) (vd va : Value) (w : World) (hf : FRep w m c f) (hsm : okF 1000 m f) (hN : nodesF m f ≤ 1000) (ha : Arr AttrV.cs 2 w va at') (hvs : ValsAt w at') (hg : GV w) (hW : wAttrs (at'.map AttrV.toA) ≤ 2000) :
  Calls Tryz.prog 9 [.agg ⟨c.cs⟩, .agg ⟨[vd, va]⟩].toArray w (Pure w (I (evF at' m f))) := by
 refine calls_W Tryz.func9 rfl rfl rfl (by kernel_rfl) ?_
 have hx := Ext.refl w
 refine W_seq fun K1 hK1 => ?_
 refine wr ?_
 refine D_box rfl rfl rfl RX.all (fun b1 w1 e1 x1 m1 => ?_)
 have g1 : w.heap.size ≤ b1 := by have := hx.size; omega
 replace hx := hx.trans x1
 refine D_box rfl rfl rfl RX.all (fun b2 w2 e2 x2 m2 => ?_)
 have g2 : w.heap.size ≤ b2 := by have := hx.size; omega
 have n2_1 : b1 < b2 := by have := m1.lt; omega
 replace m1 := m1.ext x2
 replace hx := hx.trans x2
 refine da ?_
 refine D_end (hK1 _ _ ?_)
 refine W_seq fun K2 hK2 => ?_
 refine W_seq fun K3 hK3 => ?_
 refine wr ?_
 refine dq (lv_loadA (k := 5) (by kernel_rfl) rfl rfl m1.row) ?_
 refine D_callP rfl (by kernel_rfl) (fis_w m c f _ (hf.ext hx)) rfl RX.all (fun w3 x3 => ?_)
 replace m1 := m1.ext x3
 replace m2 := m2.ext x3
 replace hx := hx.trans x3
 refine dn ?_
 refine D_end (hK3 _ _ ?_)
 refine W_cond rfl (fun c1 => ?_) (fun c1 => ?_)
 ·
  refine W_seq fun K4 hK4 => ?_
  refine wr ?_
  refine da ?_
  refine D_end (hK4 _ _ ?_)
  refine W_ret ?_
  try dsimp only [then', inBlk, noGo]
  refine ro ?_
  exact ⟨by unfold evF; rw [if_neg (by simpa using c1)], hx⟩
 ·
  have his : isF m f = true := by simpa using c1
  have hone : oneF m 1 f = true := by unfold isF at his; exact (Bool.and_eq_true_iff.1 his).1
  refine W_skip ?_
  refine hK2 _ _ ?_
  refine W_seq fun K5 hK5 => ?_
  refine wr ?_
  refine dq (lv_loadA (k := 5) (by kernel_rfl) rfl rfl m1.row) ?_
  refine dq (lv_loadA (k := 2) (by kernel_rfl) rfl rfl m2.row) ?_
  refine D_callP rfl (by kernel_rfl) (eval_all m 1 c f w at' vd va hf hsm hone hN ha hvs hg hW _ hx) rfl RX.all (fun w4 x4 => ?_)
  replace m1 := m1.ext x4
  replace m2 := m2.ext x4
  replace hx := hx.trans x4
  refine da ?_
  refine D_end (hK5 _ _ ?_)
  refine W_ret ?_
  try dsimp only [then', inBlk, noGo]
  refine ro ?_
  exact ⟨by unfold evF; rw [if_pos his], hx⟩

set_option maxRecDepth 100000 in
set_option maxHeartbeats 1000000 in
theorem reval2_w (m : Nat) (c : FilV) (f : Flt) (at' : List AttrV) (vd va : Value) (w : World) (hf : FRep w m c f) (hsm : okF 1000 m f) (hN : nodesF m f ≤ 1000) (ha : Arr AttrV.cs 2 w va at') (hvs : ValsAt w at') (hg : GV w) (hW : wAttrs (at'.map AttrV.toA) ≤ 2000) :
  Calls Tryz.prog 10 [.agg ⟨c.cs⟩, .agg ⟨[vd, va]⟩].toArray w (Pure w (I (evF at' m f))) := by
 refine calls_W Tryz.func10 rfl rfl rfl (by kernel_rfl) ?_
 have hx := Ext.refl w
 refine W_seq fun K1 hK1 => ?_
 refine wr ?_
 refine D_box rfl rfl rfl RX.all (fun b1 w1 e1 x1 m1 => ?_)
 have g1 : w.heap.size ≤ b1 := by have := hx.size; omega
 replace hx := hx.trans x1
 refine D_box rfl rfl rfl RX.all (fun b2 w2 e2 x2 m2 => ?_)
 have g2 : w.heap.size ≤ b2 := by have := hx.size; omega
 have n2_1 : b1 < b2 := by have := m1.lt; omega
 replace m1 := m1.ext x2
 replace hx := hx.trans x2
 refine da ?_
 refine D_end (hK1 _ _ ?_)
 refine W_seq fun K2 hK2 => ?_
 refine W_seq fun K3 hK3 => ?_
 refine wr ?_
 refine dq (lv_loadA (k := 5) (by kernel_rfl) rfl rfl m1.row) ?_
 refine D_callP rfl (by kernel_rfl) (ris_w m c f _ (hf.ext hx) hN) rfl RX.all (fun w3 x3 => ?_)
 replace m1 := m1.ext x3
 replace m2 := m2.ext x3
 replace hx := hx.trans x3
 refine dn ?_
 refine D_end (hK3 _ _ ?_)
 refine W_cond rfl (fun c1 => ?_) (fun c1 => ?_)
 ·
  refine W_seq fun K4 hK4 => ?_
  refine wr ?_
  refine da ?_
  refine D_end (hK4 _ _ ?_)
  refine W_ret ?_
  try dsimp only [then', inBlk, noGo]
  refine ro ?_
  exact ⟨by unfold evF; rw [if_neg (by simpa using c1)], hx⟩
 ·
  have his : isF m f = true := by simpa using c1
  have hone : oneF m 1 f = true := by unfold isF at his; exact (Bool.and_eq_true_iff.1 his).1
  refine W_skip ?_
  refine hK2 _ _ ?_
  refine W_seq fun K5 hK5 => ?_
  refine wr ?_
  refine dq (lv_loadA (k := 5) (by kernel_rfl) rfl rfl m1.row) ?_
  refine dq (lv_loadA (k := 2) (by kernel_rfl) rfl rfl m2.row) ?_
  refine D_callP rfl (by kernel_rfl) (reval_all m 1 c f w at' vd va hf hsm hone hN ha hvs hg hW _ hx) rfl RX.all (fun w4 x4 => ?_)
  replace m1 := m1.ext x4
  replace m2 := m2.ext x4
  replace hx := hx.trans x4
  refine da ?_
  refine D_end (hK5 _ _ ?_)
  refine W_ret ?_
  try dsimp only [then', inBlk, noGo]
  refine ro ?_
  exact ⟨by unfold evF; rw [if_pos his], hx⟩

end Go.Proofs.YtdagdhjheibgnaaGreatDoor
