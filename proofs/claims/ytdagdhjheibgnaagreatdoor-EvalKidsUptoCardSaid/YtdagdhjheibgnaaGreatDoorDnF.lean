/-
  Walks.
-/
import Derived.Test.YtdagdhjheibgnaaGreatDoorChecked
import Derived.Test.YtdagdhjheibgnaaGreatDoorSpMem
import Derived.KernelRfl
import Derived.Test.YtdagdhjheibgnaaGreatDoorDnE
import Derived.Test.YtdagdhjheibgnaaGreatDoorDnD
namespace Go.Proofs.YtdagdhjheibgnaaGreatDoor
open Go.Vc Go.Sp
attribute [local irreducible] W XW Dw DwT
set_option linter.unusedVariables false
set_option linter.unusedSimpArgs false

theorem typ_nse {c : UInt8} (h : typC c = true) : nseB c = true := by
  have e : ∀ c : Fin 256, typC (UInt8.ofNat c) = true → nseB (UInt8.ofNat c) = true := by decide +kernel
  have := e ⟨c.toNat, c.toNat_lt⟩
  simpa using this (by simpa using h)
theorem tw_nse : ∀ b : Str, (b.takeWhile nseB = b.takeWhile typC ∧ b.dropWhile nseB = b.dropWhile typC) ∨ ∃ c, nseB c = true ∧ typC c = false ∧ (∃ t, b.takeWhile nseB = b.takeWhile typC ++ c :: t) ∧ ∃ t', b.dropWhile typC = c :: t'
  | [] => .inl ⟨rfl, rfl⟩
  | x :: b => by
    cases hx : typC x with
    | true =>
      have hn := typ_nse hx
      simp only [List.takeWhile_cons, List.dropWhile_cons, hx, hn, if_true]
      rcases tw_nse b with ⟨h1, h2⟩ | ⟨c, h1, h2, ⟨t, h3⟩, h4⟩
      · exact .inl ⟨by rw [h1], h2⟩
      · exact .inr ⟨c, h1, h2, ⟨t, by rw [h3]; rfl⟩, h4⟩
    | false =>
      cases hn : nseB x with
      | true => exact .inr ⟨x, hn, hx, ⟨b.takeWhile nseB, by simp [List.takeWhile_cons, hx, hn]⟩, ⟨b, by simp [List.dropWhile_cons, hx]⟩⟩
      | false => exact .inl (by simp [List.takeWhile_cons, List.dropWhile_cons, hx, hn])
theorem typeS_not {s : Str} {c : UInt8} (hc : c ∈ s) (h : typC c = false) : typeS s = false := by
  obtain ⟨k, hk⟩ := List.getElem?_of_mem hc
  exact typeS_bad hk h
theorem blank_nse {c : UInt8} {t : Str} (h : nseB c = true) : blankS (c :: t) = c :: t ∧ c ≠ 61 := by
  unfold nseB at h
  simp only [Bool.and_eq_true, decide_eq_true_eq] at h
  exact ⟨by unfold blankS; rw [List.dropWhile_cons, if_neg (by simpa using h.1)], h.2⟩
theorem partR_no {r : Str} (h : typeS ((blankS r).takeWhile nseB) = false) : partS r = none := by
  rcases tw_nse (blankS r) with ⟨h1, h2⟩ | ⟨c, h1, h2, ⟨t, h3⟩, ⟨t', h4⟩⟩
  · exact partS_no (by rw [← h1]; exact h)
  · exact partS_ne (by rw [h4, (blank_nse h1).1]; intro t e; exact (blank_nse (t := t') h1).2 (List.cons.inj e).1)
theorem partR_ne {r : Str} (h : ∀ t, blankS ((blankS r).dropWhile nseB) ≠ 61 :: t) : partS r = none := by
  rcases tw_nse (blankS r) with ⟨h1, h2⟩ | ⟨c, h1, h2, ⟨t, h3⟩, ⟨t', h4⟩⟩
  · exact partS_ne (by rw [← h2]; exact h)
  · exact partS_ne (by rw [h4, (blank_nse h1).1]; intro t e; exact (blank_nse (t := t') h1).2 (List.cons.inj e).1)
theorem partR_go {r r3 : Str} (ht : typeS ((blankS r).takeWhile nseB) = true) (h : blankS ((blankS r).dropWhile nseB) = 61 :: r3) : partS r = (valueS (blankS r3)).map fun x => (⟨(blankS r).takeWhile nseB, x.1⟩, x.2) := by
  rcases tw_nse (blankS r) with ⟨h1, h2⟩ | ⟨c, h1, h2, ⟨t, h3⟩, _⟩
  · rw [h1] at ht ⊢
    exact partS_go ht (by rw [← h2]; exact h)
  · rw [typeS_not (c := c) (by rw [h3]; simp) h2] at ht
    cases ht
theorem all_takeA {s : List Ava} {p : Ava → Bool} {k : Nat} {c : Ava} (h : s[k]? = some c) (ha : (s.take k).all p = true) (hp : p c = true) : (s.take (k + 1)).all p = true := by
  rw [take_snocS h, List.all_append, ha]; simp [hp]
theorem isN_no {l : List Ava} {k : Nat} {a : Ava} (hk : l[k]? = some a) (h : okAva a = false) : isN l = false := by
  unfold isN
  rw [Bool.eq_false_iff]
  intro hh
  rw [Bool.and_eq_true] at hh
  have := List.all_eq_true.1 hh.2 a (List.mem_of_getElem? hk)
  rw [h] at this; cases this
theorem val_nil {s : Str} (h : (s.length : Int) < 1) : s = [] := List.eq_nil_of_length_eq_zero (by omega)
theorem val_ne {s : Str} (h : ¬ (s.length : Int) < 1) : s ≠ [] := by rintro rfl; simp at h

set_option maxRecDepth 100000 in
set_option maxHeartbeats 1000000 in
theorem rpart_w (bt p : Nat) (s : Str) (w : World) (hm : Blk w bt [S s, I ↑p] 128) (hs : s.length ≤ 1000000) (hp : p ≤ s.length) :
  Calls Tryz.prog 119 [ptr bt 0].toArray w (Does (oneB bt) w (fun v w' => ∃ (a : Ava) (q : Nat), v = .tuple #[.agg ⟨a.cs⟩, B (partS (s.drop p)).isSome] ∧ p ≤ q ∧ q ≤ s.length ∧ Blk w' bt [S s, I ↑q] 128 ∧ ∀ a' r, partS (s.drop p) = some (a', r) → a = a' ∧ s.drop q = r)) := by
 refine calls_W Tryz.func119 rfl rfl rfl (by kernel_rfl) ?_
 have hx := Ext.refl w
 have hbt := hm.lt
 refine W_seq fun K1 hK1 => ?_
 refine wr ?_
 refine D_alloc (cs := [S [], S []]) rfl (by kernel_rfl) RX.all (fun b1 w1 e1 x1 m1 => ?_)
 have g1 : w.heap.size ≤ b1 := by have := hx.size; omega
 have a1_hm := hm.lt
 replace hm := hm.ext x1
 replace hx := hx.trans x1
 refine da ?_
 refine D_end (hK1 _ _ ?_)
 refine W_seq fun K2 hK2 => ?_
 refine wr ?_
 refine dm ?_
 refine D_callD rfl (by kernel_rfl) (rblanks_w bt p s _ hm hs (by omega)) rfl (.inl rfl) (fun u2 w2 x2 hf2 => ?_)
 have hsz2 := hx.size
 replace m1 := m1.mod x2 (by first | assumption | (intro h; have h2 : _ = bt := h; omega))
 replace hx := (hx.mod x2).mono (fun i hi _ => (hi : (oneB bt) i))
 obtain ⟨rfl, q1, hq1a, hq1b, hd1, hm⟩ := hf2
 refine D_end (hK2 _ _ ?_)
 refine W_seq fun K3 hK3 => ?_
 refine wr ?_
 refine dm ?_
 refine D_callD rfl (by kernel_rfl) (typ_w bt q1 s _ hm hs (by omega)) rfl (.inl rfl) (fun u3 w3 x3 hf3 => ?_)
 have hsz3 := hx.size
 replace m1 := m1.mod x3 (by first | assumption | (intro h; have h2 : _ = bt := h; omega))
 replace hx := hx.own x3 (fun i hi _ => hi)
 obtain ⟨rfl, q2, hq2a, hq2b, hd2, hm⟩ := hf3
 refine da ?_
 refine D_end (hK3 _ _ ?_)
 refine W_seq fun K4 hK4 => ?_
 refine wr ?_
 refine dm ?_
 refine D_callD rfl (by kernel_rfl) (rblanks_w bt q2 s _ hm hs (by omega)) rfl (.inl rfl) (fun u4 w4 x4 hf4 => ?_)
 have hsz4 := hx.size
 replace m1 := m1.mod x4 (by first | assumption | (intro h; have h2 : _ = bt := h; omega))
 replace hx := hx.own x4 (fun i hi _ => hi)
 obtain ⟨rfl, q3, hq3a, hq3b, hd3, hm⟩ := hf4
 refine D_end (hK4 _ _ ?_)
 refine W_seq fun K5 hK5 => ?_
 refine W_seq fun K6 hK6 => ?_
 refine W_draw (R := Ext) Ext.refl (fun _ _ _ => Ext.trans) (by kernel_rfl) [7, 11, 19, 23] [(0, .p, false), (1, .x, true), (2, .p, false), (3, .p, false), (4, .p, false), (5, .p, false), (6, .p, false), (7, .l, false), (8, .p, false), (9, .p, false), (10, .p, false), (11, .l, false), (12, .p, false), (13, .p, false), (14, .p, false), (15, .p, false), (16, .p, false), (17, .p, false), (18, .p, false), (19, .l, false), (20, .p, false), (21, .p, false), (22, .p, false), (23, .l, false), (24, .p, false), (25, .p, false), (26, .p, false)] rfl (by kernel_rfl) (by kernel_rfl) (fun w5 ew5 => ?_)
 have x5 : Ext w4 w5 := by rw [ew5]; exact Ext.drew _
 clear ew5
 replace m1 := m1.ext x5
 replace hm := hm.ext x5
 replace hx := hx.ext x5
 refine dm ?_
 refine D_callP rfl (by kernel_rfl) (rtype_w ((s.drop q1).takeWhile nseB) _) rfl RX.all (fun w6 x6 => ?_)
 replace m1 := m1.ext x6
 replace hm := hm.ext x6
 replace hx := hx.ext x6
 refine dn ?_
 refine dm ?_
 refine D_split 16 rfl (fun c1 => ?_) (fun c1 => ?_)
 ·
  have ht : typeS ((s.drop q1).takeWhile nseB) = false := by simpa using c1
  iterate 10 refine dk ?_
  refine dk' ?_
  refine dm ?_
  iterate 10 refine dk ?_
  refine dk' ?_
  refine D_end (hK6 _ _ ?_)
  refine W_t rfl ?_
  refine W_seq fun K7 hK7 => ?_
  refine wr ?_
  refine dp (pv_build (zs := [S [], S []]) (pl := [(0, 1), (1, 1)]) (pv := []) (cs := [S [], S []]) (by kernel_rfl) (by kernel_rfl) ?h12 ?f12) ?k12
  case h12 => exact trivial
  case f12 => rfl
  refine D_store (v := ?v13) (vs := ?u13) rfl rfl ?h13 ?c13 ?s13 m1 ?o13 ?n13 (.inl rfl) (fun w7 x7 xs7 m1 => ?k13)
  case h13 => conv => lhs; whnf
  case c13 => exact rfl
  case s13 => kernel_rfl
  case o13 => exact Nat.le_of_ble_eq_true rfl
  case n13 => simp [Value.oneCell']
  try dsimp only [setAt, List.set, List.take, List.drop] at m1
  try replace hm := hm.mod x7 (by first | assumption | (intro k hk h; have h1 := (hm.lt k hk).1; have h2 : k = b1 := h; omega) | (intro k hk h; have h1 := o1_hm k hk; have h2 : k = b1 := h; omega) | (intro h; have h2 : _ = b1 := h; omega) | (intro hl h; have h1 := a1_hm hl; have h2 : _ = b1 := h; omega))
  replace hx := hx.own x7 (fun i hi hlt => by have hi2 : i = b1 := hi; subst hi2; omega)
  refine da ?_
  refine D_end (hK7 _ _ ?_)
  refine W_ret ?_
  try dsimp only [then', inBlk, noGo]
  refine ret_cell_tmp (u := ?v15) rfl rfl rfl rfl (by kernel_rfl) rfl m1.row ?h15 ?k15
  case h15 => conv => lhs; whnf
  have e : partS (s.drop p) = none := partR_no (by rw [← hd1]; exact ht)
  exact ⟨_, rfl, hx, ⟨[], []⟩, q3, by rw [e]; rfl, by omega, by omega, hm, by rw [e]; intro x r h; cases h⟩
 ·
  have ht : typeS ((s.drop q1).takeWhile nseB) = true := by simpa using c1
  refine dm ?_
  refine dp (pv_nilP rfl) ?_
  refine dp (pv_fieldA (k := 1) (by kernel_rfl) rfl) ?_
  refine D_l rfl (fun w' hR => lv_load (by kernel_rfl) rfl ((hm.ext hR).at rfl)) ?_
  refine dm ?_
  refine dp (pv_nilP rfl) ?_
  refine dp (pv_fieldA (k := 0) (by kernel_rfl) rfl) ?_
  refine D_l rfl (fun w' hR => lv_load (by kernel_rfl) rfl ((hm.ext hR).at rfl)) ?_
  refine dp (pv_lenS (by kernel_rfl) rfl) ?_
  refine dp (pv_geq rfl rfl) ?_
  refine dk' ?_
  refine dm ?_
  refine D_splitP 28 rfl (fun c2 => ?_) (fun c2 => ?_)
  ·
   iterate 10 refine dk ?_
   refine dk' ?_
   refine D_end (hK6 _ _ ?_)
   refine W_t rfl ?_
   refine W_seq fun K8 hK8 => ?_
   refine wr ?_
   refine dp (pv_build (zs := [S [], S []]) (pl := [(0, 1), (1, 1)]) (pv := []) (cs := [S [], S []]) (by kernel_rfl) (by kernel_rfl) ?h21 ?f21) ?k21
   case h21 => exact trivial
   case f21 => rfl
   refine D_store (v := ?v22) (vs := ?u22) rfl rfl ?h22 ?c22 ?s22 m1 ?o22 ?n22 (.inl rfl) (fun w8 x8 xs8 m1 => ?k22)
   case h22 => conv => lhs; whnf
   case c22 => exact rfl
   case s22 => kernel_rfl
   case o22 => exact Nat.le_of_ble_eq_true rfl
   case n22 => simp [Value.oneCell']
   try dsimp only [setAt, List.set, List.take, List.drop] at m1
   try replace hm := hm.mod x8 (by first | assumption | (intro k hk h; have h1 := (hm.lt k hk).1; have h2 : k = b1 := h; omega) | (intro k hk h; have h1 := o1_hm k hk; have h2 : k = b1 := h; omega) | (intro h; have h2 : _ = b1 := h; omega) | (intro hl h; have h1 := a1_hm hl; have h2 : _ = b1 := h; omega))
   replace hx := hx.own x8 (fun i hi hlt => by have hi2 : i = b1 := hi; subst hi2; omega)
   refine da ?_
   refine D_end (hK8 _ _ ?_)
   refine W_ret ?_
   try dsimp only [then', inBlk, noGo]
   refine ret_cell_tmp (u := ?v24) rfl rfl rfl rfl (by kernel_rfl) rfl m1.row ?h24 ?k24
   case h24 => conv => lhs; whnf
   have e : partS (s.drop p) = none := partR_ne (by rw [← hd1, ← hd2, ← hd3, List.drop_eq_nil_of_le (by omega)]; intro t h; cases h)
   exact ⟨_, rfl, hx, ⟨[], []⟩, q3, by rw [e]; rfl, by omega, by omega, hm, by rw [e]; intro x r h; cases h⟩
  ·
   obtain ⟨c, hk⟩ : ∃ c, s[q3]? = some c := ⟨_, List.getElem?_eq_getElem (by omega)⟩
   have hdr := drop_consS hk
   refine dm ?_
   refine dp (pv_nilP rfl) ?_
   refine dp (pv_fieldA (k := 0) (by kernel_rfl) rfl) ?_
   refine D_l rfl (fun w' hR => lv_load (by kernel_rfl) rfl ((hm.ext hR).at rfl)) ?_
   refine dm ?_
   refine dp (pv_nilP rfl) ?_
   refine dp (pv_fieldA (k := 1) (by kernel_rfl) rfl) ?_
   refine D_l rfl (fun w' hR => lv_load (by kernel_rfl) rfl ((hm.ext hR).at rfl)) ?_
   refine dp (pv_idxS (by kernel_rfl) rfl rfl hk) ?_
   refine dp (pv_neqB (b := 61) rfl rfl) ?_
   refine dk' ?_
   refine D_end (hK6 _ _ ?_)
   refine W_if rfl (fun c3 => ?_) (fun c3 => ?_)
   ·
    refine W_seq fun K9 hK9 => ?_
    refine wr ?_
    refine dp (pv_build (zs := [S [], S []]) (pl := [(0, 1), (1, 1)]) (pv := []) (cs := [S [], S []]) (by kernel_rfl) (by kernel_rfl) ?h28 ?f28) ?k28
    case h28 => exact trivial
    case f28 => rfl
    refine D_store (v := ?v29) (vs := ?u29) rfl rfl ?h29 ?c29 ?s29 m1 ?o29 ?n29 (.inl rfl) (fun w9 x9 xs9 m1 => ?k29)
    case h29 => conv => lhs; whnf
    case c29 => exact rfl
    case s29 => kernel_rfl
    case o29 => exact Nat.le_of_ble_eq_true rfl
    case n29 => simp [Value.oneCell']
    try dsimp only [setAt, List.set, List.take, List.drop] at m1
    try replace hm := hm.mod x9 (by first | assumption | (intro k hk h; have h1 := (hm.lt k hk).1; have h2 : k = b1 := h; omega) | (intro k hk h; have h1 := o1_hm k hk; have h2 : k = b1 := h; omega) | (intro h; have h2 : _ = b1 := h; omega) | (intro hl h; have h1 := a1_hm hl; have h2 : _ = b1 := h; omega))
    replace hx := hx.own x9 (fun i hi hlt => by have hi2 : i = b1 := hi; subst hi2; omega)
    refine da ?_
    refine D_end (hK9 _ _ ?_)
    refine W_ret ?_
    try dsimp only [then', inBlk, noGo]
    refine ret_cell_tmp (u := ?v31) rfl rfl rfl rfl (by kernel_rfl) rfl m1.row ?h31 ?k31
    case h31 => conv => lhs; whnf
    have e : partS (s.drop p) = none := partR_ne (by rw [← hd1, ← hd2, ← hd3, hdr]; intro t h; exact c3 (List.cons.inj h).1)
    exact ⟨_, rfl, hx, ⟨[], []⟩, q3, by rw [e]; rfl, by omega, by omega, hm, by rw [e]; intro x r h; cases h⟩
   ·
    refine W_skip ?_
    refine hK5 _ _ ?_
    refine W_seq fun K10 hK10 => ?_
    refine wr ?_
    refine dm ?_
    refine dp (pv_nilP rfl) ?_
    refine dp (pv_fieldA (k := 1) (by kernel_rfl) rfl) ?_
    refine dq (lv_load (by kernel_rfl) rfl (hm.at rfl)) ?_
    refine dp (pv_add rfl rfl (by unfold inI64; omega)) ?_
    refine dp (pv_nilP rfl) ?_
    refine dp (pv_fieldA (k := 1) (by kernel_rfl) rfl) ?_
    refine D_store1 (v := ?v33) rfl rfl ?h33 ?n33 (by kernel_rfl) hm ?o33 (.inl rfl) (fun w10 x10 xs10 hm => ?k33)
    case h33 => conv => lhs; whnf
    case n33 => first | rfl | exact isSl.one m1.sl
    case o33 => exact Nat.le_of_ble_eq_true rfl
    try dsimp only [setAt, List.set, List.take, List.drop] at hm
    try replace m1 := m1.mod x10 (by first | assumption | (intro k hk h; have h1 := (m1.lt k hk).1; have h2 : k = bt := h; omega) | (intro k hk h; have h1 := ot_m1 k hk; have h2 : k = bt := h; omega) | (intro h; have h2 : _ = bt := h; omega) | (intro hl h; have h1 := at_m1 hl; have h2 : _ = bt := h; omega))
    replace hx := hx.own x10 (fun i hi _ => hi)
    refine D_end (hK10 _ _ ?_)
    refine W_seq fun K11 hK11 => ?_
    refine wr ?_
    refine dm ?_
    refine D_callD rfl (by kernel_rfl) (rblanks_w bt (q3 + 1) s _ hm hs (by omega)) rfl (.inl rfl) (fun u11 w11 x11 hf11 => ?_)
    have hsz11 := hx.size
    replace m1 := m1.mod x11 (by first | assumption | (intro h; have h2 : _ = bt := h; omega))
    replace hx := hx.own x11 (fun i hi _ => hi)
    obtain ⟨rfl, q5, hq5a, hq5b, hd5, hm⟩ := hf11
    refine D_end (hK11 _ _ ?_)
    refine W_seq fun K12 hK12 => ?_
    refine wr ?_
    refine dm ?_
    refine D_callD rfl (by kernel_rfl) (rval_w bt q5 s _ hm hs (by omega)) rfl (.inl rfl) (fun u12 w12 x12 hf12 => ?_)
    have hsz12 := hx.size
    replace m1 := m1.mod x12 (by first | assumption | (intro h; have h2 : _ = bt := h; omega))
    replace hx := hx.own x12 (fun i hi _ => hi)
    obtain ⟨u, q6, rfl, hq6a, hq6b, hm, hu⟩ := hf12
    refine dm ?_
    refine dp (pv_ext rfl rfl) ?_
    refine dp (pv_ext rfl rfl) ?_
    iterate 2 refine da ?_
    refine D_end (hK12 _ _ ?_)
    refine W_seq fun K13 hK13 => ?_
    refine wr ?_
    iterate 2 refine dm ?_
    refine dp (pv_build (zs := [S [], S []]) (pl := [(0, 1), (1, 1)]) (pv := [(0, ?a41_0), (1, ?a41_1)]) (cs := [?a41_0, ?a41_1]) (by kernel_rfl) (by kernel_rfl) ?h41 ?f41) ?k41
    case h41 => refine ⟨rfl, ?_, rfl, ?_, trivial⟩ <;> (conv => lhs; whnf)
    case f41 => rfl
    refine dm ?_
    refine D_store (v := ?v43) (vs := ?u43) rfl rfl ?h43 ?c43 ?s43 m1 ?o43 ?n43 (.inl rfl) (fun w13 x13 xs13 m1 => ?k43)
    case h43 => conv => lhs; whnf
    case c43 => exact rfl
    case s43 => kernel_rfl
    case o43 => exact Nat.le_of_ble_eq_true rfl
    case n43 => simp [Value.oneCell']
    try dsimp only [setAt, List.set, List.take, List.drop] at m1
    try replace hm := hm.mod x13 (by first | assumption | (intro k hk h; have h1 := (hm.lt k hk).1; have h2 : k = b1 := h; omega) | (intro k hk h; have h1 := o1_hm k hk; have h2 : k = b1 := h; omega) | (intro h; have h2 : _ = b1 := h; omega) | (intro hl h; have h1 := a1_hm hl; have h2 : _ = b1 := h; omega))
    replace hx := hx.own x13 (fun i hi hlt => by have hi2 : i = b1 := hi; subst hi2; omega)
    refine da ?_
    refine D_end (hK13 _ _ ?_)
    refine W_ret ?_
    try dsimp only [then', inBlk, noGo]
    refine ret_cell_tmp (u := ?v45) rfl rfl rfl rfl (by kernel_rfl) rfl m1.row ?h45 ?k45
    case h45 => conv => lhs; whnf
    rw [Decidable.not_not.1 c3] at hdr
    have e := partR_go (r := s.drop p) (by rw [← hd1]; exact ht) (by rw [← hd1, ← hd2, ← hd3]; exact hdr)
    rw [← hd5, ← hd1] at e
    exact ⟨_, rfl, hx, ⟨_, u⟩, q6, by rw [e, Option.isSome_map], by omega, by omega, hm, by
     rw [e]; intro a r h
     obtain ⟨y, hy, h3⟩ := Option.map_eq_some_iff.1 h
     obtain ⟨rfl, h5⟩ := hu y.1 y.2 hy
     cases h3; exact ⟨rfl, h5⟩⟩

set_option maxRecDepth 100000 in
set_option maxHeartbeats 1000000 in
theorem rIsN_w (l : List Ava) (v : Value) (w : World) (hv : Arr Ava.cs 2 w v l) (hl : l.length ≤ 1000000) :
  Calls Tryz.prog 120 [v].toArray w (Pure w (B (isN l))) := by
 refine calls_W Tryz.func120 rfl rfl rfl (by kernel_rfl) ?_
 have hx := Ext.refl w
 refine W_seq fun K1 hK1 => ?_
 refine wr ?_
 refine da ?_
 refine D_end (hK1 _ _ ?_)
 refine W_seq fun K2 hK2 => ?_
 refine W_seq fun K3 hK3 => ?_
 refine wr ?_
 refine dm ?_
 refine dp (pv_lenV (e := 93) (k := 2) (by kernel_rfl) hv.sl rfl) ?_
 refine dp (pv_gtr rfl rfl) ?_
 refine D_end (hK3 _ _ ?_)
 refine W_if rfl (fun c1 => ?_) (fun c1 => ?_)
 ·
  refine W_seq fun K4 hK4 => ?_
  refine wr ?_
  refine da ?_
  refine D_end (hK4 _ _ ?_)
  refine W_ret ?_
  try dsimp only [then', inBlk, noGo]
  refine ro ?_
  refine ⟨?_, hx⟩
  unfold isN
  rw [decide_eq_false (show ¬ l.length ≤ 12 by omega)]; rfl
 ·
  refine W_skip ?_
  refine hK2 _ _ ?_
  refine W_seq fun K5 hK5 => ?_
  refine W_seq fun K6 hK6 => ?_
  refine wr ?_
  refine da ?_
  refine D_end (hK6 _ _ ?_)
  refine W_block ?_
  refine W_loop (G := Nat) (fun k => [(0, v), (3, I ↑k)]) (fun k w' => Ext w w' ∧ k ≤ l.length ∧ (l.take k).all okAva = true) (fun k => l.length - k) 0 ?_ ?_ ?_
  ·
   exact ⟨rfl, rfl, trivial⟩
  ·
   exact ⟨hx, Nat.zero_le _, rfl⟩
  ·
   intro X1 g1 w1 hF1
   revert hF1; revert g1; intro k hF1
   clear hx
   obtain ⟨hx, hk1, ha⟩ := hF1
   refine W_seq fun K7 hK7 => ?_
   refine W_seq fun K8 hK8 => ?_
   refine wr ?_
   iterate 2 refine dm ?_
   refine dp (pv_lenV (e := 93) (k := 2) (by kernel_rfl) hv.sl rfl) ?_
   refine dp (pv_lss rfl rfl) ?_
   refine D_end (hK8 _ _ ?_)
   refine W_if rfl (fun c2 => ?_) (fun c2 => ?_)
   ·
    obtain ⟨a, hk⟩ : ∃ a, l[k]? = some a := ⟨_, List.getElem?_eq_getElem (by omega)⟩
    refine W_skip ?_
    refine hK7 _ _ ?_
    refine W_seq fun K9 hK9 => ?_
    refine W_block ?_
    refine W_seq fun K10 hK10 => ?_
    refine wr ?_
    iterate 2 refine dm ?_
    refine dp (pv_idxA (e := 93) (k := 2) (by kernel_rfl) hv.sl rfl rfl (hv.lt hk)) ?_
    refine dp (pv_fieldA (k := 0) (by kernel_rfl) rfl) ?_
    refine dq (lv_load (by kernel_rfl) rfl (((hv.ext hx).row hk).at rfl)) ?_
    refine D_callP rfl (by kernel_rfl) (rtype_w a.typ _) rfl RX.all (fun w2 x2 => ?_)
    replace hx := hx.trans x2
    refine dn ?_
    refine dm ?_
    refine D_split 20 rfl (fun c3 => ?_) (fun c3 => ?_)
    ·
     iterate 7 refine dk ?_
     refine dk' ?_
     refine dm ?_
     iterate 7 refine dk ?_
     refine dk' ?_
     refine D_end (hK10 _ _ ?_)
     refine W_t rfl ?_
     refine W_seq fun K11 hK11 => ?_
     refine wr ?_
     refine da ?_
     refine D_end (hK11 _ _ ?_)
     refine W_ret ?_
     try dsimp only [then', inBlk, noGo]
     refine ro ?_
     refine ⟨?_, hx⟩
     rw [isN_no hk (by unfold okAva; simp only [Bool.not_eq_true'] at c3; rw [c3]; rfl)]
    ·
     iterate 2 refine dm ?_
     refine dp (pv_idxA (e := 93) (k := 2) (by kernel_rfl) hv.sl rfl rfl (hv.lt hk)) ?_
     refine dp (pv_fieldA (k := 1) (by kernel_rfl) rfl) ?_
     refine dq (lv_load (by kernel_rfl) rfl (((hv.ext hx).row hk).at rfl)) ?_
     refine dp (pv_lenS (by kernel_rfl) rfl) ?_
     refine dp (pv_lss rfl rfl) ?_
     refine dk' ?_
     refine dm ?_
     refine D_splitP 29 rfl (fun c4 => ?_) (fun c4 => ?_)
     ·
      iterate 7 refine dk ?_
      refine dk' ?_
      refine D_end (hK10 _ _ ?_)
      refine W_t rfl ?_
      refine W_seq fun K12 hK12 => ?_
      refine wr ?_
      refine da ?_
      refine D_end (hK12 _ _ ?_)
      refine W_ret ?_
      try dsimp only [then', inBlk, noGo]
      refine ro ?_
      refine ⟨?_, hx⟩
      rw [isN_no hk (by unfold okAva; rw [decide_eq_true (val_nil c4)]; simp)]
     ·
      iterate 2 refine dm ?_
      refine dp (pv_idxA (e := 93) (k := 2) (by kernel_rfl) hv.sl rfl rfl (hv.lt hk)) ?_
      refine dp (pv_fieldA (k := 1) (by kernel_rfl) rfl) ?_
      refine dq (lv_load (by kernel_rfl) rfl (((hv.ext hx).row hk).at rfl)) ?_
      refine dp (pv_lenS (by kernel_rfl) rfl) ?_
      refine dp (pv_gtr rfl rfl) ?_
      refine dk' ?_
      refine D_end (hK10 _ _ ?_)
      refine W_if rfl (fun c5 => ?_) (fun c5 => ?_)
      ·
       refine W_seq fun K13 hK13 => ?_
       refine wr ?_
       refine da ?_
       refine D_end (hK13 _ _ ?_)
       refine W_ret ?_
       try dsimp only [then', inBlk, noGo]
       refine ro ?_
       refine ⟨?_, hx⟩
       rw [isN_no hk (by unfold okAva; rw [decide_eq_true (show 64 < a.val.length by omega)]; simp)]
      ·
       refine W_skip ?_
       refine hK9 _ _ ?_
       refine wr ?_
       refine dm ?_
       refine dp (pv_add rfl rfl (by unfold inI64; omega)) ?_
       refine da ?_
       refine D_end (?_)
       have hok : okAva a = true := by
        unfold okAva
        simp only [Bool.not_eq_false'] at c3
        rw [c3, decide_eq_false (val_ne c4), decide_eq_false (show ¬ 64 < a.val.length by omega)]; rfl
       refine ⟨k + 1, ⟨rfl, rfl, trivial⟩, ⟨hx, by omega, all_takeA hk ha hok⟩, by omega⟩
   ·
    refine W_exit ?_
    refine hK5 _ _ ?_
    refine W_seq fun K14 hK14 => ?_
    refine wr ?_
    refine da ?_
    refine D_end (hK14 _ _ ?_)
    refine W_ret ?_
    try dsimp only [then', inBlk, noGo]
    refine ro ?_
    refine ⟨?_, hx⟩
    rw [List.take_of_length_le (by omega)] at ha
    unfold isN
    rw [decide_eq_true (show l.length ≤ 12 by omega), ha]; rfl

set_option maxRecDepth 100000 in
set_option maxHeartbeats 1000000 in
theorem told_w (s : Str) (w : World) (hs : s.length ≤ 1000000) :
  Calls Tryz.prog 121 [S s].toArray w (Pure w (S (toldS s))) := by
 refine calls_W Tryz.func121 rfl rfl rfl (by kernel_rfl) ?_
 have hx := Ext.refl w
 refine W_seq fun K1 hK1 => ?_
 refine wr ?_
 refine da ?_
 refine D_end (hK1 _ _ ?_)
 refine W_seq fun K2 hK2 => ?_
 refine wr ?_
 refine da ?_
 refine D_end (hK2 _ _ ?_)
 refine W_seq fun K3 hK3 => ?_
 refine W_seq fun K4 hK4 => ?_
 refine wr ?_
 refine da ?_
 refine D_end (hK4 _ _ ?_)
 refine W_block ?_
 refine W_loop (G := Nat × Value) (fun (j, vb) => [(0, S s), (2, S []), (3, vb), (4, I ↑j)]) (fun (j, vb) w' => Ext w w' ∧ j ≤ s.length ∧ Own encB 1 5 w.heap.size w' vb (toldN s j)) (fun (j, vb) => s.length - j) (0, .slice none 0 0) ?_ ?_ ?_
 ·
  exact ⟨rfl, rfl, rfl, rfl, trivial⟩
 ·
  exact ⟨hx, Nat.zero_le _, Own.nil⟩
 ·
  intro X1 g1 w1 hF1
  obtain ⟨j, vb⟩ := g1
  clear hx
  obtain ⟨hx, hj1, ho⟩ := hF1
  have htl := told_len s j
  refine W_seq fun K5 hK5 => ?_
  refine W_seq fun K6 hK6 => ?_
  refine wr ?_
  iterate 2 refine dm ?_
  refine dp (pv_lenS (by kernel_rfl) rfl) ?_
  refine dp (pv_lss rfl rfl) ?_
  refine D_end (hK6 _ _ ?_)
  refine W_if rfl (fun c1 => ?_) (fun c1 => ?_)
  ·
   obtain ⟨c, hj⟩ : ∃ c, s[j]? = some c := ⟨_, List.getElem?_eq_getElem (by omega)⟩
   refine W_skip ?_
   refine hK5 _ _ ?_
   refine W_seq fun K7 hK7 => ?_
   refine W_block ?_
   refine W_seq fun K8 hK8 => ?_
   refine wr ?_
   iterate 2 refine dm ?_
   refine dp (pv_idxS (by kernel_rfl) rfl rfl hj) ?_
   refine da ?_
   refine D_end (hK8 _ _ ?_)
   refine W_block ?_
   refine W_seq fun K9 hK9 => ?_
   refine wr ?_
   refine dm ?_
   refine dp (pv_lssB (b := 32) rfl rfl) ?_
   refine dm ?_
   refine D_splitP 22 rfl (fun c2 => ?_) (fun c2 => ?_)
   ·
    iterate 2 refine dk ?_
    refine dk' ?_
    refine da ?_
    refine D_end (hK9 _ _ ?_)
    refine W_t rfl ?_
    refine wr ?_
    iterate 2 refine dm ?_
    refine dp (pv_shrB4 rfl rfl) ?_
    refine D_callP rfl (by kernel_rfl) (hex_w (c >>> 4) _) rfl RX.all (fun w2 x2 => ?_)
    replace ho := ho.ext x2
    replace hx := hx.trans x2
    refine dm ?_
    refine dp (pv_andB (b := 15) rfl rfl) ?_
    refine D_callP rfl (by kernel_rfl) (hex_w (c &&& 15) _) rfl RX.all (fun w3 x3 => ?_)
    replace ho := ho.ext x3
    replace hx := hx.trans x3
    refine D_lit (e := 5) (sz := 1) (zs := [.int .u8 0]) (pv := [(0, ?a16_0), (1, ?a16_1), (2, ?a16_2)]) (cs := [?a16_0, ?a16_1, ?a16_2]) rfl (by kernel_rfl) ⟨rfl, rfl⟩ (by kernel_rfl) rfl ?h16 ?f16 RX.all (fun b1 w4 e1 x4 m1 => ?k16)
    case h16 => refine ⟨rfl, ?_, rfl, ?_, rfl, ?_, trivial⟩ <;> (conv => lhs; whnf)
    case f16 => rfl
    have g1 : w.heap.size ≤ b1 := by have := hx.size; omega
    have o1_ho : ∀ k, Value.ownBlock _ = some k → k < b1 := fun k hk => by have := (ho.lt k hk).2; omega
    replace ho := ho.ext x4
    replace hx := hx.trans x4
    refine D_append (lx := [92, hexB (c >>> 4), hexB (c &&& 15)]) (e := 5) (sz := 1) (by' := 1) rfl (by kernel_rfl) (by kernel_rfl) (by intro x; rfl) ho (m1.arr (enc := encB) (sz := 1) (l := [92, hexB (c >>> 4), hexB (c &&& 15)]) rfl (by intro x; rfl) rfl (Nat.le_of_ble_eq_true rfl)) rfl rfl (by intro x _ u hu; simp at hu; rcases hu with rfl <;> rfl) (by simp; omega) (by decide) hx.size (.inl rfl) (fun vb2 w5 ho_n x5 => ?_)
    replace hx := hx.own x5 (fun i hi => (ho.lt i hi).1)
    replace ho := ho_n
    clear m1
    refine da ?_
    refine D_end (hK7 _ _ ?_)
    refine wr ?_
    refine dm ?_
    refine dp (pv_add rfl rfl (by unfold inI64; omega)) ?_
    refine da ?_
    refine D_end (?_)
    refine ⟨(j + 1, vb2), ⟨rfl, rfl, rfl, rfl, trivial⟩, ⟨hx, by omega, ?_⟩, by simp only []; omega⟩
    rw [told_next hj, escC]
    first
    | (rw [if_pos (by first | exact .inl c2 | exact .inr c3)]; exact ho)
    | (rw [if_neg (by rintro (h | h); exact c2 h; exact c3 h)]; first | (rw [if_pos (by rw [hme]; assumption)]; exact ho) | (rw [if_neg (by rw [hme]; simp [*])]; exact ho))
   ·
    refine dm ?_
    refine dp (pv_gtrB (b := 126) rfl rfl) ?_
    refine dk' ?_
    refine da ?_
    refine D_end (hK9 _ _ ?_)
    refine W_if rfl (fun c3 => ?_) (fun c3 => ?_)
    ·
     refine wr ?_
     iterate 2 refine dm ?_
     refine dp (pv_shrB4 rfl rfl) ?_
     refine D_callP rfl (by kernel_rfl) (hex_w (c >>> 4) _) rfl RX.all (fun w6 x6 => ?_)
     replace ho := ho.ext x6
     replace hx := hx.trans x6
     refine dm ?_
     refine dp (pv_andB (b := 15) rfl rfl) ?_
     refine D_callP rfl (by kernel_rfl) (hex_w (c &&& 15) _) rfl RX.all (fun w7 x7 => ?_)
     replace ho := ho.ext x7
     replace hx := hx.trans x7
     refine D_lit (e := 5) (sz := 1) (zs := [.int .u8 0]) (pv := [(0, ?a26_0), (1, ?a26_1), (2, ?a26_2)]) (cs := [?a26_0, ?a26_1, ?a26_2]) rfl (by kernel_rfl) ⟨rfl, rfl⟩ (by kernel_rfl) rfl ?h26 ?f26 RX.all (fun b2 w8 e2 x8 m2 => ?k26)
     case h26 => refine ⟨rfl, ?_, rfl, ?_, rfl, ?_, trivial⟩ <;> (conv => lhs; whnf)
     case f26 => rfl
     have g2 : w.heap.size ≤ b2 := by have := hx.size; omega
     have o2_ho : ∀ k, Value.ownBlock _ = some k → k < b2 := fun k hk => by have := (ho.lt k hk).2; omega
     replace ho := ho.ext x8
     replace hx := hx.trans x8
     refine D_append (lx := [92, hexB (c >>> 4), hexB (c &&& 15)]) (e := 5) (sz := 1) (by' := 1) rfl (by kernel_rfl) (by kernel_rfl) (by intro x; rfl) ho (m2.arr (enc := encB) (sz := 1) (l := [92, hexB (c >>> 4), hexB (c &&& 15)]) rfl (by intro x; rfl) rfl (Nat.le_of_ble_eq_true rfl)) rfl rfl (by intro x _ u hu; simp at hu; rcases hu with rfl <;> rfl) (by simp; omega) (by decide) hx.size (.inl rfl) (fun vb2 w9 ho_n x9 => ?_)
     replace hx := hx.own x9 (fun i hi => (ho.lt i hi).1)
     replace ho := ho_n
     clear m2
     refine da ?_
     refine D_end (hK7 _ _ ?_)
     refine wr ?_
     refine dm ?_
     refine dp (pv_add rfl rfl (by unfold inI64; omega)) ?_
     refine da ?_
     refine D_end (?_)
     refine ⟨(j + 1, vb2), ⟨rfl, rfl, rfl, rfl, trivial⟩, ⟨hx, by omega, ?_⟩, by simp only []; omega⟩
     rw [told_next hj, escC]
     first
     | (rw [if_pos (by first | exact .inl c2 | exact .inr c3)]; exact ho)
     | (rw [if_neg (by rintro (h | h); exact c2 h; exact c3 h)]; first | (rw [if_pos (by rw [hme]; assumption)]; exact ho) | (rw [if_neg (by rw [hme]; simp [*])]; exact ho))
    ·
     refine W_cut (G := Bool) (fun e => [(0, S s), (2, S []), (3, vb), (4, I ↑j), (5, b8 c), (35, B e)]) (fun e w' => Ext w w' ∧ Own encB 1 5 w.heap.size w' vb (toldN s j) ∧ markB c j s.length = e) ?_ ?_
     ·
      refine wr ?_
      refine dm ?_
      refine D_callP rfl (by kernel_rfl) (in_w c specials _ (by decide)) rfl RX.all (fun w10 x10 => ?_)
      replace ho := ho.ext x10
      replace hx := hx.trans x10
      refine dm ?_
      refine D_split 38 rfl (fun c4 => ?_) (fun c4 => ?_)
      ·
       iterate 6 refine dk ?_
       refine dk' ?_
       refine dm ?_
       iterate 9 refine dk ?_
       refine dk' ?_
       refine da ?_
       refine D_end (?_)
       refine ⟨_, ⟨rfl, rfl, rfl, rfl, rfl, rfl, trivial⟩, hx, ho, ?_⟩
       have q1 : ((j : Int) = 0) ↔ j = 0 := by omega
       have q2 : ((j : Int) = ↑s.length - 1) ↔ j + 1 = s.length := by omega
       have q3 : inS c [35, 32] = (decide (c = 35) || decide (c = 32)) := by simp only [inS, List.any_cons, List.any_nil, Bool.or_false]; congr 1 <;> (congr 1; exact propext eq_comm)
       try simp only [q1, q2, q3] at *
       unfold markB
       rw [c4]
       first | (simp [*]; done) | (clear ho hx hj1 htl; by_cases p1 : j = 0 <;> by_cases p2 : j + 1 = s.length <;> by_cases p3 : c = 32 <;> simp_all)
      ·
       refine dm ?_
       refine dp (pv_eql rfl rfl) ?_
       refine dm ?_
       refine D_splitP 41 rfl (fun c5 => ?_) (fun c5 => ?_)
       ·
        refine dm ?_
        refine D_callP rfl (by kernel_rfl) (in_w c [35, 32] _ (by decide)) rfl RX.all (fun w11 x11 => ?_)
        replace ho := ho.ext x11
        replace hx := hx.trans x11
        refine dk' ?_
        refine dk' ?_
        refine dm ?_
        refine D_split 46 rfl (fun c6 => ?_) (fun c6 => ?_)
        ·
         iterate 9 refine dk ?_
         refine dk' ?_
         refine da ?_
         refine D_end (?_)
         refine ⟨_, ⟨rfl, rfl, rfl, rfl, rfl, rfl, trivial⟩, hx, ho, ?_⟩
         have q1 : ((j : Int) = 0) ↔ j = 0 := by omega
         have q2 : ((j : Int) = ↑s.length - 1) ↔ j + 1 = s.length := by omega
         have q3 : inS c [35, 32] = (decide (c = 35) || decide (c = 32)) := by simp only [inS, List.any_cons, List.any_nil, Bool.or_false]; congr 1 <;> (congr 1; exact propext eq_comm)
         try simp only [q1, q2, q3] at *
         unfold markB
         rw [c4]
         first | (simp [*]; done) | (clear ho hx hj1 htl; by_cases p1 : j = 0 <;> by_cases p2 : j + 1 = s.length <;> by_cases p3 : c = 32 <;> simp_all)
        ·
         iterate 2 refine dm ?_
         refine dp (pv_lenS (by kernel_rfl) rfl) ?_
         refine dp (pv_sub rfl rfl (by unfold inI64; omega)) ?_
         refine dp (pv_eql rfl rfl) ?_
         refine dm ?_
         refine D_splitP 52 rfl (fun c7 => ?_) (fun c7 => ?_)
         ·
          refine dm ?_
          refine dp (pv_eqlB (b := 32) rfl rfl) ?_
          refine dk' ?_
          refine dk' ?_
          refine da ?_
          refine D_end (?_)
          refine ⟨_, ⟨rfl, rfl, rfl, rfl, rfl, rfl, trivial⟩, hx, ho, ?_⟩
          have q1 : ((j : Int) = 0) ↔ j = 0 := by omega
          have q2 : ((j : Int) = ↑s.length - 1) ↔ j + 1 = s.length := by omega
          have q3 : inS c [35, 32] = (decide (c = 35) || decide (c = 32)) := by simp only [inS, List.any_cons, List.any_nil, Bool.or_false]; congr 1 <;> (congr 1; exact propext eq_comm)
          try simp only [q1, q2, q3] at *
          unfold markB
          rw [c4]
          first | (simp [*]; done) | (clear ho hx hj1 htl; by_cases p1 : j = 0 <;> by_cases p2 : j + 1 = s.length <;> by_cases p3 : c = 32 <;> simp_all)
         ·
          iterate 2 refine dk ?_
          refine dk' ?_
          refine dk' ?_
          refine da ?_
          refine D_end (?_)
          refine ⟨_, ⟨rfl, rfl, rfl, rfl, rfl, rfl, trivial⟩, hx, ho, ?_⟩
          have q1 : ((j : Int) = 0) ↔ j = 0 := by omega
          have q2 : ((j : Int) = ↑s.length - 1) ↔ j + 1 = s.length := by omega
          have q3 : inS c [35, 32] = (decide (c = 35) || decide (c = 32)) := by simp only [inS, List.any_cons, List.any_nil, Bool.or_false]; congr 1 <;> (congr 1; exact propext eq_comm)
          try simp only [q1, q2, q3] at *
          unfold markB
          rw [c4]
          first | (simp [*]; done) | (clear ho hx hj1 htl; by_cases p1 : j = 0 <;> by_cases p2 : j + 1 = s.length <;> by_cases p3 : c = 32 <;> simp_all)
       ·
        iterate 2 refine dk ?_
        refine dk' ?_
        refine dk' ?_
        iterate 3 refine dm ?_
        refine dp (pv_lenS (by kernel_rfl) rfl) ?_
        refine dp (pv_sub rfl rfl (by unfold inI64; omega)) ?_
        refine dp (pv_eql rfl rfl) ?_
        refine dm ?_
        refine D_splitP 52 rfl (fun c8 => ?_) (fun c8 => ?_)
        ·
         refine dm ?_
         refine dp (pv_eqlB (b := 32) rfl rfl) ?_
         refine dk' ?_
         refine dk' ?_
         refine da ?_
         refine D_end (?_)
         refine ⟨_, ⟨rfl, rfl, rfl, rfl, rfl, rfl, trivial⟩, hx, ho, ?_⟩
         have q1 : ((j : Int) = 0) ↔ j = 0 := by omega
         have q2 : ((j : Int) = ↑s.length - 1) ↔ j + 1 = s.length := by omega
         have q3 : inS c [35, 32] = (decide (c = 35) || decide (c = 32)) := by simp only [inS, List.any_cons, List.any_nil, Bool.or_false]; congr 1 <;> (congr 1; exact propext eq_comm)
         try simp only [q1, q2, q3] at *
         unfold markB
         rw [c4]
         first | (simp [*]; done) | (clear ho hx hj1 htl; by_cases p1 : j = 0 <;> by_cases p2 : j + 1 = s.length <;> by_cases p3 : c = 32 <;> simp_all)
        ·
         iterate 2 refine dk ?_
         refine dk' ?_
         refine dk' ?_
         refine da ?_
         refine D_end (?_)
         refine ⟨_, ⟨rfl, rfl, rfl, rfl, rfl, rfl, trivial⟩, hx, ho, ?_⟩
         have q1 : ((j : Int) = 0) ↔ j = 0 := by omega
         have q2 : ((j : Int) = ↑s.length - 1) ↔ j + 1 = s.length := by omega
         have q3 : inS c [35, 32] = (decide (c = 35) || decide (c = 32)) := by simp only [inS, List.any_cons, List.any_nil, Bool.or_false]; congr 1 <;> (congr 1; exact propext eq_comm)
         try simp only [q1, q2, q3] at *
         unfold markB
         rw [c4]
         first | (simp [*]; done) | (clear ho hx hj1 htl; by_cases p1 : j = 0 <;> by_cases p2 : j + 1 = s.length <;> by_cases p3 : c = 32 <;> simp_all)
     ·
      intro X12 g12 w12 hF12
      revert hF12; revert g12; intro e hF12
      clear hx ho
      obtain ⟨hx, ho, hme⟩ := hF12
      refine W_cond rfl (fun c9 => ?_) (fun c9 => ?_)
      ·
       refine wr ?_
       iterate 2 refine dm ?_
       refine D_lit (e := 5) (sz := 1) (zs := [.int .u8 0]) (pv := [(0, ?a69_0), (1, ?a69_1)]) (cs := [?a69_0, ?a69_1]) rfl (by kernel_rfl) ⟨rfl, rfl⟩ (by kernel_rfl) rfl ?h69 ?f69 RX.all (fun b3 w13 e3 x13 m3 => ?k69)
       case h69 => refine ⟨rfl, ?_, rfl, ?_, trivial⟩ <;> (conv => lhs; whnf)
       case f69 => rfl
       have g3 : w.heap.size ≤ b3 := by have := hx.size; omega
       have o3_ho : ∀ k, Value.ownBlock _ = some k → k < b3 := fun k hk => by have := (ho.lt k hk).2; omega
       replace ho := ho.ext x13
       replace hx := hx.trans x13
       refine D_append (lx := [92, c]) (e := 5) (sz := 1) (by' := 1) rfl (by kernel_rfl) (by kernel_rfl) (by intro x; rfl) ho (m3.arr (enc := encB) (sz := 1) (l := [92, c]) rfl (by intro x; rfl) rfl (Nat.le_of_ble_eq_true rfl)) rfl rfl (by intro x _ u hu; simp at hu; rcases hu with rfl <;> rfl) (by simp; omega) (by decide) hx.size (.inl rfl) (fun vb2 w14 ho_n x14 => ?_)
       replace hx := hx.own x14 (fun i hi => (ho.lt i hi).1)
       replace ho := ho_n
       clear m3
       refine da ?_
       refine D_end (hK7 _ _ ?_)
       refine wr ?_
       refine dm ?_
       refine dp (pv_add rfl rfl (by unfold inI64; omega)) ?_
       refine da ?_
       refine D_end (?_)
       refine ⟨(j + 1, vb2), ⟨rfl, rfl, rfl, rfl, trivial⟩, ⟨hx, by omega, ?_⟩, by simp only []; omega⟩
       rw [told_next hj, escC]
       first
       | (rw [if_pos (by first | exact .inl c2 | exact .inr c3)]; exact ho)
       | (rw [if_neg (by rintro (h | h); exact c2 h; exact c3 h)]; first | (rw [if_pos (by rw [hme]; assumption)]; exact ho) | (rw [if_neg (by rw [hme]; simp [*])]; exact ho))
      ·
       refine wr ?_
       iterate 2 refine dm ?_
       refine D_lit (e := 5) (sz := 1) (zs := [.int .u8 0]) (pv := [(0, ?a75_0)]) (cs := [?a75_0]) rfl (by kernel_rfl) ⟨rfl, rfl⟩ (by kernel_rfl) rfl ?h75 ?f75 RX.all (fun b4 w15 e4 x15 m4 => ?k75)
       case h75 => refine ⟨rfl, ?_, trivial⟩ <;> (conv => lhs; whnf)
       case f75 => rfl
       have g4 : w.heap.size ≤ b4 := by have := hx.size; omega
       have o4_ho : ∀ k, Value.ownBlock _ = some k → k < b4 := fun k hk => by have := (ho.lt k hk).2; omega
       replace ho := ho.ext x15
       replace hx := hx.trans x15
       refine D_append (lx := [c]) (e := 5) (sz := 1) (by' := 1) rfl (by kernel_rfl) (by kernel_rfl) (by intro x; rfl) ho (m4.arr (enc := encB) (sz := 1) (l := [c]) rfl (by intro x; rfl) rfl (Nat.le_of_ble_eq_true rfl)) rfl rfl (by intro x _ u hu; simp at hu; rcases hu with rfl <;> rfl) (by simp; omega) (by decide) hx.size (.inl rfl) (fun vb2 w16 ho_n x16 => ?_)
       replace hx := hx.own x16 (fun i hi => (ho.lt i hi).1)
       replace ho := ho_n
       clear m4
       refine da ?_
       refine D_end (hK7 _ _ ?_)
       refine wr ?_
       refine dm ?_
       refine dp (pv_add rfl rfl (by unfold inI64; omega)) ?_
       refine da ?_
       refine D_end (?_)
       refine ⟨(j + 1, vb2), ⟨rfl, rfl, rfl, rfl, trivial⟩, ⟨hx, by omega, ?_⟩, by simp only []; omega⟩
       rw [told_next hj, escC]
       first
       | (rw [if_pos (by first | exact .inl c2 | exact .inr c3)]; exact ho)
       | (rw [if_neg (by rintro (h | h); exact c2 h; exact c3 h)]; first | (rw [if_pos (by rw [hme]; assumption)]; exact ho) | (rw [if_neg (by rw [hme]; simp [*])]; exact ho))
  ·
   refine W_exit ?_
   refine hK3 _ _ ?_
   refine W_seq fun K10 hK10 => ?_
   refine W_reg [.p, .l, .p] rfl ?_
   refine dm ?_
   refine dq (lv_b2s (by kernel_rfl) (by kernel_rfl) (ho.arr (by intro x; rfl)) rfl) ?_
   refine da ?_
   refine D_end (hK10 _ _ ?_)
   refine W_ret ?_
   try dsimp only [then', inBlk, noGo]
   refine ro ?_
   have e : j = s.length := by omega
   subst e
   exact ⟨rfl, hx⟩

set_option maxRecDepth 100000 in
set_option maxHeartbeats 1000000 in
theorem rparse_w (s : Str) (w : World) (hs : s.length ≤ 1000000) :
  Calls Tryz.prog 85 [S s].toArray w (Gives w (fun v w' => ∃ u, v = .tuple #[u, I (parseS s).2] ∧ Arr Ava.cs 2 w' u (parseS s).1)) := by
 refine calls_W Tryz.func85 rfl rfl rfl (by kernel_rfl) ?_
 have hx := Ext.refl w
 refine W_seq fun K1 hK1 => ?_
 refine wr ?_
 iterate 2 refine da ?_
 refine D_end (hK1 _ _ ?_)
 refine W_seq fun K2 hK2 => ?_
 refine W_seq fun K3 hK3 => ?_
 refine wr ?_
 refine dm ?_
 refine dp (pv_seq rfl rfl) ?_
 refine D_end (hK3 _ _ ?_)
 refine W_if rfl (fun c1 => ?_) (fun c1 => ?_)
 ·
  refine W_seq fun K4 hK4 => ?_
  refine wr ?_
  iterate 2 refine da ?_
  refine D_end (hK4 _ _ ?_)
  refine W_ret ?_
  try dsimp only [then', inBlk, noGo]
  refine rt ?_
  have e : parseS s = ([], 0) := if_pos c1
  rw [e]; exact ⟨_, rfl, hx, _, rfl, Arr.nil⟩
 ·
  refine W_skip ?_
  refine hK2 _ _ ?_
  refine W_seq fun K5 hK5 => ?_
  refine wr ?_
  refine dm ?_
  refine dp (pv_build (zs := [S [], .int .i64 0]) (pl := [(0, 1), (1, 1)]) (pv := [(0, ?a8_0)]) (cs := [?a8_0, .int .i64 0]) (by kernel_rfl) (by kernel_rfl) ?h8 ?f8) ?k8
  case h8 => refine ⟨rfl, ?_, trivial⟩ <;> (conv => lhs; whnf)
  case f8 => rfl
  refine D_box rfl rfl rfl RX.all (fun b1 w1 e1 x1 m1 => ?_)
  have g1 : w.heap.size ≤ b1 := by have := hx.size; omega
  replace hx := hx.trans x1
  refine da ?_
  refine D_end (hK5 _ _ ?_)
  refine W_seq fun K6 hK6 => ?_
  refine wr ?_
  refine da ?_
  refine D_end (hK6 _ _ ?_)
  refine W_seq fun K7 hK7 => ?_
  refine W_block ?_
  refine W_loop (G := Nat × Value × List Ava) (fun (q, vn, acc) => [(0, S s), (4, ptr b1 0), (5, vn)]) (fun (q, vn, acc) w' => Ext w w' ∧ Blk w' b1 [S s, I ↑q] 128 ∧ Own Ava.cs 2 93 (b1 + 1) w' vn acc ∧ q ≤ s.length ∧ acc.length ≤ q ∧ partsL (s.drop q) acc = partsL s []) (fun (q, vn, acc) => s.length - q) (0, .slice none 0 0, []) ?_ ?_ ?_
  ·
   exact ⟨rfl, rfl, rfl, trivial⟩
  ·
   exact ⟨hx, m1, Own.nil, Nat.zero_le _, Nat.le_refl _, rfl⟩
  ·
   intro X2 g2 w2 hF2
   obtain ⟨q, vn, acc⟩ := g2
   clear hx m1
   obtain ⟨hx, m1, ho, hq, hac, hp⟩ := hF2
   refine W_block ?_
   refine W_seq fun K8 hK8 => ?_
   refine wr ?_
   refine dm ?_
   refine D_callD rfl (by kernel_rfl) (rpart_w b1 q s _ m1 hs hq) rfl (.inl rfl) (fun u3 w3 x3 hf3 => ?_)
   have hsz3 := hx.size
   replace ho := ho.mod x3 (by first | (intro h; have h2 : _ = b1 := h; omega) | (intro k hk h; have h1 := (ho.lt k hk).1; have h2 : k = b1 := h; omega))
   replace hx := hx.own x3 (fun i hi => (by have h2 : i = b1 := hi; omega))
   obtain ⟨a, q2, rfl, hqq1, hqq2, m1, hu⟩ := hf3
   refine dm ?_
   refine dp (pv_ext rfl rfl) ?_
   refine dp (pv_ext rfl rfl) ?_
   refine D_alloc (cs := [S [], S []]) rfl (by kernel_rfl) RX.all (fun b2 w4 e2 x4 m2 => ?_)
   have g2 : w.heap.size ≤ b2 := by have := hx.size; omega
   have n2_1 : b1 < b2 := by have := m1.lt; omega
   have o2_ho : ∀ k, Value.ownBlock _ = some k → k < b2 := fun k hk => by have := (ho.lt k hk).2; omega
   replace ho := ho.ext x4
   replace m1 := m1.ext x4
   replace hx := hx.trans x4
   refine D_store (v := ?v13) (vs := ?u13) rfl rfl ?h13 ?c13 ?s13 m2 ?o13 ?n13 (.inl rfl) (fun w5 x5 xs5 m2 => ?k13)
   case h13 => conv => lhs; whnf
   case c13 => exact rfl
   case s13 => kernel_rfl
   case o13 => exact Nat.le_of_ble_eq_true rfl
   case n13 => simp [Value.oneCell']
   try dsimp only [setAt, List.set, List.take, List.drop] at m2
   try replace ho := ho.mod x5 (by first | assumption | (intro k hk h; have h1 := (ho.lt k hk).1; have h2 : k = b2 := h; omega) | (intro k hk h; have h1 := o2_ho k hk; have h2 : k = b2 := h; omega) | (intro h; have h2 : _ = b2 := h; omega) | (intro hl h; have h1 := a2_ho hl; have h2 : _ = b2 := h; omega))
   try replace m1 := m1.mod x5 (by first | assumption | (intro k hk h; have h1 := (m1.lt k hk).1; have h2 : k = b2 := h; omega) | (intro k hk h; have h1 := o2_m1 k hk; have h2 : k = b2 := h; omega) | (intro h; have h2 : _ = b2 := h; omega) | (intro hl h; have h1 := a2_m1 hl; have h2 : _ = b2 := h; omega))
   replace hx := hx.own x5 (by intro i hi; have hi2 : i = b2 := hi; subst hi2; omega)
   refine da ?_
   refine D_end (hK8 _ _ ?_)
   refine W_seq fun K9 hK9 => ?_
   refine W_seq fun K10 hK10 => ?_
   refine wr ?_
   refine dm ?_
   refine dn ?_
   refine D_end (hK10 _ _ ?_)
   refine W_cond rfl (fun c2 => ?_) (fun c2 => ?_)
   ·
    refine W_seq fun K11 hK11 => ?_
    refine wr ?_
    iterate 2 refine da ?_
    refine D_end (hK11 _ _ ?_)
    refine W_ret ?_
    try dsimp only [then', inBlk, noGo]
    refine rt ?_
    have e : parseS s = ([], 3) := by
     unfold parseS; rw [if_neg c1, ← hp, partsL_none (by simpa using c2)]
    rw [e]; exact ⟨_, rfl, hx, _, rfl, Arr.nil⟩
   ·
    simp only [Bool.not_eq_false', Option.isSome_iff_exists] at c2
    obtain ⟨⟨a2, r2⟩, hpa⟩ := c2
    obtain ⟨rfl, hr⟩ := hu a2 r2 hpa
    have hpl := parts_len hpa hq hqq2 hr
    refine W_skip ?_
    refine hK9 _ _ ?_
    refine W_seq fun K12 hK12 => ?_
    refine wr ?_
    refine dm ?_
    refine dq (lv_loadA (k := 2) (by kernel_rfl) rfl rfl m2.row) ?_
    refine D_lit (e := 93) (sz := 2) (zs := [S [], S []]) (pv := [(0, .agg ⟨[?a21_0, ?a21_1]⟩)]) (cs := [?a21_0, ?a21_1]) rfl (by kernel_rfl) ⟨rfl, rfl⟩ (by kernel_rfl) rfl ?h21 ?f21 RX.all (fun b3 w6 e3 x6 m3 => ?k21)
    case h21 => refine ⟨rfl, ?_, trivial⟩ <;> (conv => lhs; whnf)
    case f21 => rfl
    have g3 : w.heap.size ≤ b3 := by have := hx.size; omega
    have n3_1 : b1 < b3 := by have := m1.lt; omega
    have n3_2 : b2 < b3 := by have := m2.lt; omega
    have o3_ho : ∀ k, Value.ownBlock _ = some k → k < b3 := fun k hk => by have := (ho.lt k hk).2; omega
    replace ho := ho.ext x6
    replace m1 := m1.ext x6
    replace m2 := m2.ext x6
    replace hx := hx.trans x6
    refine D_append (lx := [a]) (e := 93) (sz := 2) (by' := 32) rfl (by kernel_rfl) (by kernel_rfl) (by intro x; rfl) ho (m3.arr (enc := Ava.cs) (sz := 2) (l := [a]) rfl (by intro x; rfl) rfl (Nat.le_of_ble_eq_true rfl)) rfl rfl (by intro x _ u hu; simp at hu; rcases hu with rfl | rfl <;> rfl) (by simp; omega) (by decide) m1.lt (.inl rfl) (fun vn2 w7 ho_n x7 => ?_)
    try replace m1 := m1.mod x7 (by first | (intro h; have h2 : b1 = b1 := Option.some.inj h; omega) | (intro h; have h1 := (ho.lt _ h).1; omega) | (intro h; have h1 := o1_ho _ h; omega))
    try replace m2 := m2.mod x7 (by first | (intro h; have h2 : b2 = b2 := Option.some.inj h; omega) | (intro h; have h1 := (ho.lt _ h).1; omega) | (intro h; have h1 := o2_ho _ h; omega))
    replace hx := hx.own x7 (fun i hi => (by have := (ho.lt i hi).1; omega))
    replace ho := ho_n
    clear m3
    refine da ?_
    refine D_end (hK12 _ _ ?_)
    refine W_seq fun K13 hK13 => ?_
    refine W_seq fun K14 hK14 => ?_
    refine wr ?_
    refine dm ?_
    refine dp (pv_nilP rfl) ?_
    refine dp (pv_fieldA (k := 1) (by kernel_rfl) rfl) ?_
    refine dq (lv_load (by kernel_rfl) rfl (m1.at rfl)) ?_
    refine dm ?_
    refine dp (pv_lenS (by kernel_rfl) rfl) ?_
    refine dp (pv_eql rfl rfl) ?_
    refine D_end (hK14 _ _ ?_)
    refine W_if rfl (fun c3 => ?_) (fun c3 => ?_)
    ·
     have he : q2 = s.length := by omega
     rw [he, List.drop_eq_nil_of_le (Nat.le_refl _)] at hr
     rw [← hr] at hpa
     rw [partsL_end hpa] at hp
     have hoA := ho.arr (enc := Ava.cs) (by intro x; rfl)
     refine W_exit ?_
     refine hK7 _ _ ?_
     refine W_seq fun K15 hK15 => ?_
     refine W_seq fun K16 hK16 => ?_
     refine wr ?_
     refine dm ?_
     refine D_callP rfl (by kernel_rfl) (rIsN_w (acc ++ [a]) vn2 _ hoA (by simp; omega)) rfl RX.all (fun w8 x8 => ?_)
     replace ho := ho.ext x8
     replace m1 := m1.ext x8
     replace m2 := m2.ext x8
     replace hx := hx.trans x8
     refine dn ?_
     refine D_end (hK16 _ _ ?_)
     refine W_cond rfl (fun c4 => ?_) (fun c4 => ?_)
     ·
      refine W_seq fun K17 hK17 => ?_
      refine wr ?_
      iterate 2 refine da ?_
      refine D_end (hK17 _ _ ?_)
      refine W_ret ?_
      try dsimp only [then', inBlk, noGo]
      refine rt ?_
      have e : parseS s = ([], 5) := by
       unfold parseS; rw [if_neg c1, ← hp]; exact if_neg (by simpa using c4)
      rw [e]; exact ⟨_, rfl, hx, _, rfl, Arr.nil⟩
     ·
      refine W_skip ?_
      refine hK15 _ _ ?_
      refine W_seq fun K18 hK18 => ?_
      refine wr ?_
      refine dm ?_
      iterate 2 refine da ?_
      refine D_end (hK18 _ _ ?_)
      refine W_ret ?_
      try dsimp only [then', inBlk, noGo]
      refine rt ?_
      have e : parseS s = (acc ++ [a], 0) := by
       unfold parseS; rw [if_neg c1, ← hp]; exact if_pos (by simpa using c4)
      rw [e]; exact ⟨_, rfl, hx, _, rfl, ho.arr (by intro x; rfl)⟩
    ·
     have h44 : s[q2]? = some 44 := hpl.2.resolve_left (by omega)
     refine W_skip ?_
     refine hK13 _ _ ?_
     refine wr ?_
     refine dm ?_
     refine dp (pv_nilP rfl) ?_
     refine dp (pv_fieldA (k := 1) (by kernel_rfl) rfl) ?_
     refine dq (lv_load (by kernel_rfl) rfl (m1.at rfl)) ?_
     refine dp (pv_add rfl rfl (by unfold inI64; omega)) ?_
     refine dp (pv_nilP rfl) ?_
     refine dp (pv_fieldA (k := 1) (by kernel_rfl) rfl) ?_
     refine D_store1 (v := ?v35) rfl rfl ?h35 ?n35 (by kernel_rfl) m1 ?o35 (.inl rfl) (fun w9 x9 xs9 m1 => ?k35)
     case h35 => conv => lhs; whnf
     case n35 => first | rfl | exact isSl.one ho.sl | exact isSl.one m2.sl
     case o35 => exact Nat.le_of_ble_eq_true rfl
     try dsimp only [setAt, List.set, List.take, List.drop] at m1
     try replace ho := ho.mod x9 (by first | assumption | (intro k hk h; have h1 := (ho.lt k hk).1; have h2 : k = b1 := h; omega) | (intro k hk h; have h1 := o1_ho k hk; have h2 : k = b1 := h; omega) | (intro h; have h2 : _ = b1 := h; omega) | (intro hl h; have h1 := a1_ho hl; have h2 : _ = b1 := h; omega))
     try replace m2 := m2.mod x9 (by first | assumption | (intro k hk h; have h1 := (m2.lt k hk).1; have h2 : k = b1 := h; omega) | (intro k hk h; have h1 := o1_m2 k hk; have h2 : k = b1 := h; omega) | (intro h; have h2 : _ = b1 := h; omega) | (intro hl h; have h1 := a1_m2 hl; have h2 : _ = b1 := h; omega))
     replace hx := hx.own x9 (by intro i hi; have hi2 : i = b1 := hi; subst hi2; omega)
     refine D_end (?_)
     have hql := (List.getElem?_eq_some_iff.1 h44).1
     refine ⟨(q2 + 1, vn2, acc ++ [a]), ⟨rfl, rfl, rfl, trivial⟩, ⟨hx, m1, ho, by omega, by rw [List.length_append, List.length_singleton]; omega, ?_⟩, by simp only []; omega⟩
     rw [← hp]
     rw [drop_consS h44] at hr
     rw [← hr] at hpa
     rw [partsL_more hpa]

set_option maxRecDepth 100000 in
set_option maxHeartbeats 1000000 in
theorem rprint_w (l : List Ava) (v : Value) (w : World) (hv : Arr Ava.cs 2 w v l) (hl : smallN l) :
  Calls Tryz.prog 86 [v].toArray w (Pure w (S (printS l))) := by
 refine calls_W Tryz.func86 rfl rfl rfl (by kernel_rfl) ?_
 have hx := Ext.refl w
 have hl1 := hl.1
 refine W_seq fun K1 hK1 => ?_
 refine wr ?_
 refine da ?_
 refine D_end (hK1 _ _ ?_)
 refine W_seq fun K2 hK2 => ?_
 refine wr ?_
 refine da ?_
 refine D_end (hK2 _ _ ?_)
 refine W_seq fun K3 hK3 => ?_
 refine W_seq fun K4 hK4 => ?_
 refine wr ?_
 refine da ?_
 refine D_end (hK4 _ _ ?_)
 refine W_block ?_
 refine W_loop (G := Nat) (fun k => [(0, v), (2, S []), (3, S (printN l k)), (4, I ↑k)]) (fun k w' => Ext w w' ∧ k ≤ l.length) (fun k => l.length - k) 0 ?_ ?_ ?_
 ·
  exact ⟨rfl, rfl, rfl, rfl, trivial⟩
 ·
  exact ⟨hx, Nat.zero_le _⟩
 ·
  intro X1 g1 w1 hF1
  revert hF1; revert g1; intro k hF1
  clear hx
  obtain ⟨hx, hk1⟩ := hF1
  refine W_seq fun K5 hK5 => ?_
  refine W_seq fun K6 hK6 => ?_
  refine wr ?_
  iterate 2 refine dm ?_
  refine dp (pv_lenV (e := 93) (k := 2) (by kernel_rfl) hv.sl rfl) ?_
  refine dp (pv_lss rfl rfl) ?_
  refine D_end (hK6 _ _ ?_)
  refine W_if rfl (fun c1 => ?_) (fun c1 => ?_)
  ·
   obtain ⟨a, hk⟩ : ∃ a, l[k]? = some a := ⟨_, List.getElem?_eq_getElem (by omega)⟩
   have hsa := hl.at hk
   have hpl := print_len hl k
   have hif : (if k = 0 then ([] : Str) else [44]).length ≤ 1 := by split <;> simp
   have htl : (toldS a.val).length ≤ 3 * a.val.length := told_len ..
   refine W_skip ?_
   refine hK5 _ _ ?_
   refine W_seq fun K7 hK7 => ?_
   refine W_block ?_
   refine W_cut (G := Unit) (fun uu => [(0, v), (2, S []), (3, S (printN l k ++ (if k = 0 then [] else [44]))), (4, I ↑k)]) (fun uu w' => Ext w w' ∧ True) ?_ ?_
   ·
    refine W_seq fun K8 hK8 => ?_
    refine wr ?_
    refine dm ?_
    refine dp (pv_gtr rfl rfl) ?_
    refine D_end (hK8 _ _ ?_)
    refine W_if rfl (fun c2 => ?_) (fun c2 => ?_)
    ·
     refine wr ?_
     refine dm ?_
     refine dp (pv_scat rfl rfl (by simp only [List.length_append, List.length_cons, List.length_nil]; omega)) ?_
     refine da ?_
     refine D_end (?_)
     first | (refine ⟨(), ?_, hx, trivial⟩; rw [if_neg (by omega)]; exact ⟨rfl, rfl, rfl, rfl, trivial⟩) | (refine ⟨(), ?_, hx, trivial⟩; rw [if_pos (by omega), List.append_nil]; exact ⟨rfl, rfl, rfl, rfl, trivial⟩)
    ·
     refine W_skip ?_
     first | (refine ⟨(), ?_, hx, trivial⟩; rw [if_neg (by omega)]; exact ⟨rfl, rfl, rfl, rfl, trivial⟩) | (refine ⟨(), ?_, hx, trivial⟩; rw [if_pos (by omega), List.append_nil]; exact ⟨rfl, rfl, rfl, rfl, trivial⟩)
   ·
    intro X2 g2 w2 hF2
    revert hF2; revert g2; intro uu hF2
    clear hx
    obtain ⟨hx, htr⟩ := hF2
    refine W_draw (R := Ext) Ext.refl (fun _ _ _ => Ext.trans) (by kernel_rfl) [5, 12] [(0, .p, false), (1, .p, false), (2, .p, false), (3, .p, false), (4, .p, false), (5, .l, false), (6, .p, false), (7, .p, false), (8, .p, false), (9, .p, false), (10, .p, false), (11, .p, false), (12, .l, false), (13, .x, false), (14, .p, false), (15, .p, false)] rfl (by kernel_rfl) (by kernel_rfl) (fun w3 ew3 => ?_)
    have x3 : Ext w2 w3 := by rw [ew3]; exact Ext.drew _
    clear ew3
    replace hx := hx.trans x3
    iterate 3 refine dm ?_
    refine dp (pv_idxA (e := 93) (k := 2) (by kernel_rfl) hv.sl rfl rfl (hv.lt hk)) ?_
    refine dp (pv_fieldA (k := 0) (by kernel_rfl) rfl) ?_
    refine D_l rfl (fun w' hR => lv_load (by kernel_rfl) rfl (((hv.ext (hx.trans hR)).row hk).at rfl)) ?_
    refine dp (pv_scat rfl rfl (by simp only [List.length_append, List.length_cons, List.length_nil]; omega)) ?_
    refine dp (pv_scat rfl rfl (by simp only [List.length_append, List.length_cons, List.length_nil]; omega)) ?_
    iterate 2 refine dm ?_
    refine dp (pv_idxA (e := 93) (k := 2) (by kernel_rfl) hv.sl rfl rfl (hv.lt hk)) ?_
    refine dp (pv_fieldA (k := 1) (by kernel_rfl) rfl) ?_
    refine D_l rfl (fun w' hR => lv_load (by kernel_rfl) rfl (((hv.ext (hx.trans hR)).row hk).at rfl)) ?_
    refine D_callP rfl (by kernel_rfl) (told_w a.val _ (by omega)) rfl RX.ext (fun w4 x4 => ?_)
    replace hx := hx.trans x4
    refine D_pe (v := S (printN l (k + 1))) rfl (pv_scat rfl rfl (by simp only [List.length_append, List.length_cons, List.length_nil]; omega)) (by rw [print_next hk]; show S _ = S _; congr 1; simp [headA, List.append_assoc]) ?_
    refine da ?_
    refine D_end (hK7 _ _ ?_)
    refine wr ?_
    refine dm ?_
    refine dp (pv_add rfl rfl (by unfold inI64; omega)) ?_
    refine da ?_
    refine D_end (?_)
    refine ⟨k + 1, ⟨rfl, rfl, rfl, rfl, trivial⟩, ⟨hx, by omega⟩, by omega⟩
  ·
   refine W_exit ?_
   refine hK3 _ _ ?_
   refine W_seq fun K9 hK9 => ?_
   refine wr ?_
   refine dm ?_
   refine da ?_
   refine D_end (hK9 _ _ ?_)
   refine W_ret ?_
   try dsimp only [then', inBlk, noGo]
   refine ro ?_
   have e : k = l.length := by omega
   subst e
   exact ⟨rfl, hx⟩

set_option maxRecDepth 100000 in
set_option maxHeartbeats 1000000 in
theorem rnorm_w (l : List Ava) (v : Value) (w : World) (hv : Arr Ava.cs 2 w v l) (hl : smallN l) :
  Calls Tryz.prog 87 [v].toArray w (Gives w (fun u w' => Arr Ava.cs 2 w' u (l.map normA))) := by
 refine calls_W Tryz.func87 rfl rfl rfl (by kernel_rfl) ?_
 have hx := Ext.refl w
 have hl1 := hl.1
 refine W_seq fun K1 hK1 => ?_
 refine wr ?_
 refine da ?_
 refine D_end (hK1 _ _ ?_)
 refine W_seq fun K2 hK2 => ?_
 refine wr ?_
 refine da ?_
 refine D_end (hK2 _ _ ?_)
 refine W_seq fun K3 hK3 => ?_
 refine W_seq fun K4 hK4 => ?_
 refine wr ?_
 refine da ?_
 refine D_end (hK4 _ _ ?_)
 refine W_block ?_
 refine W_loop (G := Nat × Value) (fun (k, vm) => [(0, v), (2, .slice none 0 0), (3, vm), (4, I ↑k)]) (fun (k, vm) w' => Ext w w' ∧ k ≤ l.length ∧ Own Ava.cs 2 93 w.heap.size w' vm ((l.take k).map normA)) (fun (k, vm) => l.length - k) (0, .slice none 0 0) ?_ ?_ ?_
 ·
  exact ⟨rfl, rfl, rfl, rfl, trivial⟩
 ·
  exact ⟨hx, Nat.zero_le _, Own.nil⟩
 ·
  intro X1 g1 w1 hF1
  obtain ⟨k, vm⟩ := g1
  clear hx
  obtain ⟨hx, hk1, ho⟩ := hF1
  refine W_seq fun K5 hK5 => ?_
  refine W_seq fun K6 hK6 => ?_
  refine wr ?_
  iterate 2 refine dm ?_
  refine dp (pv_lenV (e := 93) (k := 2) (by kernel_rfl) hv.sl rfl) ?_
  refine dp (pv_lss rfl rfl) ?_
  refine D_end (hK6 _ _ ?_)
  refine W_if rfl (fun c1 => ?_) (fun c1 => ?_)
  ·
   obtain ⟨a, hk⟩ : ∃ a, l[k]? = some a := ⟨_, List.getElem?_eq_getElem (by omega)⟩
   have hsa := hl.at hk
   refine W_skip ?_
   refine hK5 _ _ ?_
   refine W_seq fun K7 hK7 => ?_
   refine W_block ?_
   refine W_draw (R := Mod (fun k => vm.ownBlock = some k)) modRefl modTrans (by kernel_rfl) [5, 11] [(0, .p, false), (1, .p, false), (2, .p, false), (3, .p, false), (4, .p, false), (5, .l, false), (7, .p, false), (8, .p, false), (9, .p, false), (10, .p, false), (11, .l, false), (6, .x, false), (12, .x, false), (13, .p, false), (14, .x, false), (15, .x, false), (16, .p, false)] rfl (by kernel_rfl) (by kernel_rfl) (fun w2 ew2 => ?_)
   have x2 : Ext w1 w2 := by rw [ew2]; exact Ext.drew _
   clear ew2
   replace ho := ho.ext x2
   replace hx := hx.trans x2
   iterate 3 refine dm ?_
   refine dp (pv_idxA (e := 93) (k := 2) (by kernel_rfl) hv.sl rfl rfl (hv.lt hk)) ?_
   refine dp (pv_fieldA (k := 0) (by kernel_rfl) rfl) ?_
   refine D_l rfl (fun w' hR => lv_load (by kernel_rfl) rfl ((((hv.ext hx).mod hR (fun hne h => by have h1 := (ho.lt _ h).1; have h2 := Arr.base_lt hv (by decide) hne; omega)).row hk).at rfl)) ?_
   iterate 2 refine dm ?_
   refine dp (pv_idxA (e := 93) (k := 2) (by kernel_rfl) hv.sl rfl rfl (hv.lt hk)) ?_
   refine dp (pv_fieldA (k := 1) (by kernel_rfl) rfl) ?_
   refine D_l rfl (fun w' hR => lv_load (by kernel_rfl) rfl ((((hv.ext hx).mod hR (fun hne h => by have h1 := (ho.lt _ h).1; have h2 := Arr.base_lt hv (by decide) hne; omega)).row hk).at rfl)) ?_
   refine D_callP rfl (by kernel_rfl) (rfold_w a.typ _ (by omega)) rfl RX.mod (fun w3 x3 => ?_)
   replace ho := ho.ext x3
   replace hx := hx.trans x3
   refine D_callP rfl (by kernel_rfl) (rvalue_w a.val _ (by omega)) rfl RX.mod (fun w4 x4 => ?_)
   replace ho := ho.ext x4
   replace hx := hx.trans x4
   refine dp (pv_build (zs := [S [], S []]) (pl := [(0, 1), (1, 1)]) (pv := [(0, ?a11_0), (1, ?a11_1)]) (cs := [?a11_0, ?a11_1]) (by kernel_rfl) (by kernel_rfl) ?h11 ?f11) ?k11
   case h11 => refine ⟨rfl, ?_, rfl, ?_, trivial⟩ <;> (conv => lhs; whnf)
   case f11 => rfl
   refine D_lit (e := 93) (sz := 2) (zs := [S [], S []]) (pv := [(0, .agg ⟨[?a12_0, ?a12_1]⟩)]) (cs := [?a12_0, ?a12_1]) rfl (by kernel_rfl) ⟨rfl, rfl⟩ (by kernel_rfl) rfl ?h12 ?f12 RX.mod (fun b1 w5 e1 x5 m1 => ?k12)
   case h12 => refine ⟨rfl, ?_, trivial⟩ <;> (conv => lhs; whnf)
   case f12 => rfl
   have g1 : w.heap.size ≤ b1 := by have := hx.size; omega
   have o1_ho : ∀ k, Value.ownBlock _ = some k → k < b1 := fun k hk => by have := (ho.lt k hk).2; omega
   replace ho := ho.ext x5
   replace hx := hx.trans x5
   refine D_append (lx := [⟨foldS a.typ, valS a.val⟩]) (e := 93) (sz := 2) (by' := 32) rfl (by kernel_rfl) (by kernel_rfl) (by intro x; rfl) ho (m1.arr (enc := Ava.cs) (sz := 2) (l := [⟨foldS a.typ, valS a.val⟩]) rfl (by intro x; rfl) rfl (Nat.le_of_ble_eq_true rfl)) rfl rfl (by intro x _ u hu; simp at hu; rcases hu with rfl | rfl <;> rfl) (by simp; omega) (by decide) hx.size (.inr fun _ h => h) (fun vm2 w6 ho_n x6 => ?_)
   replace hx := hx.own x6 (fun i hi => (ho.lt i hi).1)
   replace ho := ho_n
   clear m1
   refine da ?_
   refine D_end (hK7 _ _ ?_)
   refine wr ?_
   refine dm ?_
   refine dp (pv_add rfl rfl (by unfold inI64; omega)) ?_
   refine da ?_
   refine D_end (?_)
   refine ⟨(k + 1, vm2), ⟨rfl, rfl, rfl, rfl, trivial⟩, ⟨hx, by omega, ?_⟩, by simp only []; omega⟩
   rw [map_take hk]; exact ho
  ·
   refine W_exit ?_
   refine hK3 _ _ ?_
   refine W_seq fun K8 hK8 => ?_
   refine wr ?_
   refine dm ?_
   refine da ?_
   refine D_end (hK8 _ _ ?_)
   refine W_ret ?_
   try dsimp only [then', inBlk, noGo]
   refine ro ?_
   rw [List.take_of_length_le (by omega)] at ho
   exact ⟨_, rfl, hx, ho.arr (by intro x; rfl)⟩

end Go.Proofs.YtdagdhjheibgnaaGreatDoor
