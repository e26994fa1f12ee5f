/-
  Walks.
-/
import Derived.Test.YtdagdhjheibgnaaGreatDoorChecked
import Derived.Test.YtdagdhjheibgnaaGreatDoorSpMem
import Derived.KernelRfl
import Derived.Test.YtdagdhjheibgnaaGreatDoorDnA
import Derived.Test.YtdagdhjheibgnaaGreatDoorShelf
namespace Go.Proofs.YtdagdhjheibgnaaGreatDoor
open Go.Vc Go.Sp
attribute [local irreducible] W XW Dw DwT
set_option linter.unusedVariables false
set_option linter.unusedSimpArgs false

theorem get_drop {s : Str} {p : Nat} {c : UInt8} : s[p]? = some c ↔ ∃ r, s.drop p = c :: r := by
  constructor
  · intro h; exact ⟨_, drop_consS h⟩
  · rintro ⟨r, h⟩
    have := congrArg List.head? h
    rwa [List.head?_drop] at this
theorem step_hm {P : Prop} [Decidable P] {w : World} {b p T : Nat} {v : Value} (h : Blk w b [v, I ↑(if P then p + 1 else p)] T) (hp : P) : Blk w b [v, I ↑(p + 1)] T := by rwa [if_pos hp] at h
theorem stay_hm {P : Prop} [Decidable P] {w : World} {b p T : Nat} {v : Value} (h : Blk w b [v, I ↑(if P then p + 1 else p)] T) (hp : ¬ P) : Blk w b [v, I ↑p] T := by rwa [if_neg hp] at h
theorem tw_go {q : UInt8 → Bool} {s : Str} {k : Nat} {c : UInt8} (h : s[k]? = some c) (hq : q c = true) : (s.drop k).takeWhile q = c :: (s.drop (k + 1)).takeWhile q ∧ (s.drop k).dropWhile q = (s.drop (k + 1)).dropWhile q := by
  rw [drop_consS h, List.takeWhile_cons, List.dropWhile_cons, if_pos hq, if_pos hq]; exact ⟨rfl, rfl⟩
theorem tw_stay {q : UInt8 → Bool} {s : Str} {k : Nat} (h : ∀ c, s[k]? = some c → q c = false) : (s.drop k).takeWhile q = [] ∧ (s.drop k).dropWhile q = s.drop k := by
  cases hd : s.drop k with
  | nil => exact ⟨rfl, rfl⟩
  | cons c r =>
    have hc := h c (get_drop.2 ⟨r, hd⟩)
    have hc' : ¬ q c = true := by rw [hc]; decide
    rw [List.takeWhile_cons, List.dropWhile_cons, if_neg hc', if_neg hc']; exact ⟨rfl, rfl⟩
theorem take_drop_snoc {s : Str} {p q : Nat} {c : UInt8} (h : s[q]? = some c) (hp : p ≤ q) : (s.take (q + 1)).drop p = (s.take q).drop p ++ [c] := by
  rw [take_snocS h, List.drop_append_of_le_length]
  have := (List.getElem?_eq_some_iff.1 h).1
  rw [List.length_take]; omega
theorem idx_in (c : UInt8) : ∀ s : Str, (0 ≤ Lib.indexByte s c) ↔ inS c s = true
  | [] => by simp [Lib.indexByte, inS]
  | b :: l => by
    have ih := idx_in c l
    have hge := Lib.indexByte_ge l c
    unfold Lib.indexByte
    by_cases h : b = c
    · subst h; simp [inS]
    · have hb : (b == c) = false := by simp [h]
      have e : inS c (b :: l) = inS c l := by simp [inS, h]
      rw [e, ← ih, hb]
      simp only [Bool.false_eq_true, if_false]
      split
      · rename_i h2
        have : Lib.indexByte l c = -1 := by simpa using h2
        omega
      · rename_i h2
        have : Lib.indexByte l c ≠ -1 := by simpa using h2
        omega
theorem indexByte_w (s : Str) (c : UInt8) (w : World) : Calls Tryz.prog 76 [S s, b8 c].toArray w (Pure w (I (Lib.indexByte s c))) := by
  refine (Tryz.strings_IndexByte ⟨⟨s⟩⟩ c.toNat w).mono ?_
  rintro e w' ⟨rfl, rfl⟩
  refine ⟨?_, Ext.refl _⟩
  rw [show (⟨⟨s⟩⟩ : ByteArray).data.toList = s from rfl, show (c.toNat : Int).toNat.toUInt8 = c by simp]

set_option maxRecDepth 100000 in
set_option maxHeartbeats 1000000 in
theorem is_w (bt p : Nat) (s : Str) (c : UInt8) (w : World) (hm : Blk w bt [S s, I ↑p] 90) (hs : s.length ≤ 1000000) :
  Calls Tryz.prog 106 [ptr bt 0, b8 c].toArray w (Pure w (B (decide (s[p]? = some c)))) := by
 refine calls_W Tryz.func106 rfl rfl rfl (by kernel_rfl) ?_
 have hx := Ext.refl w
 refine W_seq fun K1 hK1 => ?_
 refine wr ?_
 refine da ?_
 refine D_end (hK1 _ _ ?_)
 refine W_seq fun K2 hK2 => ?_
 refine W_draw (R := Ext) Ext.refl (fun _ _ _ => Ext.trans) (by kernel_rfl) [3, 7, 14, 18] [(0, .p, false), (1, .p, false), (2, .p, false), (3, .l, false), (4, .p, false), (5, .p, false), (6, .p, false), (7, .l, false), (8, .p, false), (9, .p, false), (10, .p, false), (11, .p, false), (12, .p, false), (13, .p, false), (14, .l, false), (15, .p, false), (16, .p, false), (17, .p, false), (18, .l, false), (19, .p, false), (20, .p, false), (21, .p, false), (22, .p, false), (23, .p, false)] rfl (by kernel_rfl) (by kernel_rfl) (fun w1 ew1 => ?_)
 have x1 : Ext w w1 := by rw [ew1]; exact Ext.drew _
 clear ew1
 replace hx := hx.trans x1
 refine dm ?_
 refine dp (pv_nilP rfl) ?_
 refine dp (pv_fieldA (k := 1) (by kernel_rfl) rfl) ?_
 refine D_l rfl (fun w' hR => lv_load (by kernel_rfl) rfl ((hm.ext (hx.trans hR)).at rfl)) ?_
 refine dm ?_
 refine dp (pv_nilP rfl) ?_
 refine dp (pv_fieldA (k := 0) (by kernel_rfl) rfl) ?_
 refine D_l rfl (fun w' hR => lv_load (by kernel_rfl) rfl ((hm.ext (hx.trans hR)).at rfl)) ?_
 refine dp (pv_lenS (by kernel_rfl) rfl) ?_
 refine dp (pv_lss rfl rfl) ?_
 refine dm ?_
 refine D_splitP 15 rfl (fun c1 => ?_) (fun c1 => ?_)
 ·
  obtain ⟨x, hk⟩ : ∃ x, s[p]? = some x := ⟨_, List.getElem?_eq_getElem (by omega)⟩
  refine dm ?_
  refine dp (pv_nilP rfl) ?_
  refine dp (pv_fieldA (k := 0) (by kernel_rfl) rfl) ?_
  refine D_l rfl (fun w' hR => lv_load (by kernel_rfl) rfl ((hm.ext (hx.trans hR)).at rfl)) ?_
  refine dm ?_
  refine dp (pv_nilP rfl) ?_
  refine dp (pv_fieldA (k := 1) (by kernel_rfl) rfl) ?_
  refine D_l rfl (fun w' hR => lv_load (by kernel_rfl) rfl ((hm.ext (hx.trans hR)).at rfl)) ?_
  refine dp (pv_idxS (by kernel_rfl) rfl rfl hk) ?_
  refine dm ?_
  refine dp (pv_eqlB rfl rfl) ?_
  refine dk' ?_
  refine da ?_
  refine D_end (hK2 _ _ ?_)
  refine W_ret ?_
  try dsimp only [then', inBlk, noGo]
  refine ro ?_
  refine ⟨?_, hx⟩
  first | (rw [hk]; simp; done) | (rw [List.getElem?_eq_none (by omega)]; rfl)
 ·
  iterate 11 refine dk ?_
  refine dk' ?_
  refine da ?_
  refine D_end (hK2 _ _ ?_)
  refine W_ret ?_
  try dsimp only [then', inBlk, noGo]
  refine ro ?_
  refine ⟨?_, hx⟩
  first | (rw [hk]; simp; done) | (rw [List.getElem?_eq_none (by omega)]; rfl)

set_option maxRecDepth 100000 in
set_option maxHeartbeats 1000000 in
theorem takes_w (bt p : Nat) (s : Str) (c : UInt8) (w : World) (hm : Blk w bt [S s, I ↑p] 90) (hs : s.length ≤ 1000000) (hp : p ≤ 1000000) :
  Calls Tryz.prog 71 [ptr bt 0, b8 c].toArray w (Does (oneB bt) w (fun v w' => v = B (decide (s[p]? = some c)) ∧ Blk w' bt [S s, I ↑(if s[p]? = some c then p + 1 else p)] 90)) := by
 refine calls_W Tryz.func71 rfl rfl rfl (by kernel_rfl) ?_
 have hx := Ext.refl w
 refine W_seq fun K1 hK1 => ?_
 refine wr ?_
 refine da ?_
 refine D_end (hK1 _ _ ?_)
 refine W_seq fun K2 hK2 => ?_
 refine W_seq fun K3 hK3 => ?_
 refine wr ?_
 iterate 2 refine dm ?_
 refine D_callP rfl (by kernel_rfl) (is_w bt p s c _ (hm.ext hx) hs) rfl RX.all (fun w1 x1 => ?_)
 replace hx := hx.trans x1
 refine dn ?_
 refine D_end (hK3 _ _ ?_)
 refine W_cond rfl (fun c1 => ?_) (fun c1 => ?_)
 ·
  refine W_seq fun K4 hK4 => ?_
  refine wr ?_
  refine da ?_
  refine D_end (hK4 _ _ ?_)
  refine W_ret ?_
  try dsimp only [then', inBlk, noGo]
  refine ro ?_
  have e : ¬ s[p]? = some c := by simpa using c1
  exact ⟨_, rfl, hx.mono (fun _ h _ => h.elim), by rw [decide_eq_false e], by rw [if_neg e]; exact hm.ext hx⟩
 ·
  refine W_skip ?_
  refine hK2 _ _ ?_
  refine W_seq fun K5 hK5 => ?_
  refine wr ?_
  refine dm ?_
  refine dp (pv_nilP rfl) ?_
  refine dp (pv_fieldA (k := 1) (by kernel_rfl) rfl) ?_
  refine dq (lv_load (by kernel_rfl) rfl ((hm.ext hx).at rfl)) ?_
  refine dp (pv_add rfl rfl (by unfold inI64; omega)) ?_
  refine dp (pv_nilP rfl) ?_
  refine dp (pv_fieldA (k := 1) (by kernel_rfl) rfl) ?_
  refine D_store1 (v := ?v8) rfl rfl ?h8 ?n8 (by kernel_rfl) (hm.ext hx) ?o8 (.inl rfl) (fun w2 x2 xs2 hm => ?k8)
  case h8 => conv => lhs; whnf
  case n8 => first | rfl
  case o8 => exact Nat.le_of_ble_eq_true rfl
  try dsimp only [setAt, List.set, List.take, List.drop] at hm
  replace hx := (hx.mod x2).mono (fun i hi _ => (hi : (oneB bt) i))
  refine D_end (hK5 _ _ ?_)
  refine W_seq fun K6 hK6 => ?_
  refine wr ?_
  refine da ?_
  refine D_end (hK6 _ _ ?_)
  refine W_ret ?_
  try dsimp only [then', inBlk, noGo]
  refine ro ?_
  have e : s[p]? = some c := by simpa using c1
  exact ⟨_, rfl, hx, by rw [decide_eq_true e], by rw [if_pos e]; exact hm⟩

set_option maxRecDepth 100000 in
set_option maxHeartbeats 1000000 in
theorem blanks_w (bt p : Nat) (s : Str) (w : World) (hm : Blk w bt [S s, I ↑p] 90) (hs : s.length ≤ 1000000) (hp : p ≤ s.length) :
  Calls Tryz.prog 107 [ptr bt 0].toArray w (Does (oneB bt) w (fun v w' => v = .tuple #[] ∧ ∃ q, p ≤ q ∧ q ≤ s.length ∧ s.drop q = blankS (s.drop p) ∧ Blk w' bt [S s, I ↑q] 90)) := by
 refine calls_W Tryz.func107 rfl rfl rfl (by kernel_rfl) ?_
 have hx := Ext.refl w
 refine W_block ?_
 refine W_loop (G := Nat) (fun q => [(0, ptr bt 0)]) (fun q w' => Mod (oneB bt) w w' ∧ Blk w' bt [S s, I ↑q] 90 ∧ p ≤ q ∧ q ≤ s.length ∧ blankS (s.drop q) = blankS (s.drop p)) (fun q => s.length - q) p ?_ ?_ ?_
 ·
  exact ⟨rfl, trivial⟩
 ·
  exact ⟨hx.mono (fun _ h _ => h.elim), hm, Nat.le_refl _, hp, rfl⟩
 ·
  intro X1 g1 w1 hF1
  revert hF1; revert g1; intro q hF1
  clear hx hm
  obtain ⟨hx, hm, hq1, hq2, hb⟩ := hF1
  refine W_seq fun K1 hK1 => ?_
  refine W_seq fun K2 hK2 => ?_
  refine wr ?_
  refine dm ?_
  refine D_callD rfl (by kernel_rfl) (takes_w bt q s 32 _ hm hs (by omega)) rfl (.inl rfl) (fun u2 w2 x2 hf2 => ?_)
  have hsz2 := hx.size
  replace hx := hx.own x2 (fun i hi _ => hi)
  obtain ⟨rfl, hm⟩ := hf2
  refine D_end (hK2 _ _ ?_)
  refine W_cond rfl (fun c1 => ?_) (fun c1 => ?_)
  ·
   have e := of_decide_eq_true c1
   have hql := (List.getElem?_eq_some_iff.1 e).1
   refine W_skip ?_
   refine hK1 _ _ ?_
   refine W_block ?_
   refine W_skip ?_
   refine ⟨q + 1, ⟨rfl, trivial⟩, ⟨hx, step_hm hm e, by omega, by omega, ?_⟩, by omega⟩
   rw [← hb]; exact (tw_go (q := fun c => decide (c = 32)) e rfl).2.symm
  ·
   have e := of_decide_eq_false c1
   refine W_exit ?_
   refine norm_ret ?_
   try dsimp only [then', inBlk, noGo]
   refine ret_none rfl ?_
   refine ⟨_, rfl, hx, rfl, q, hq1, hq2, ?_, stay_hm hm e⟩
   rw [← hb]; exact ((tw_stay (q := fun c => decide (c = 32)) (fun c hc => decide_eq_false (fun h => e (by rw [hc, h])))).2).symm

set_option maxRecDepth 100000 in
set_option maxHeartbeats 1000000 in
theorem kind_w (bt p : Nat) (s : Str) (w : World) (hm : Blk w bt [S s, I ↑p] 90) (hs : s.length ≤ 1000000) (hp : p ≤ s.length) :
  Calls Tryz.prog 108 [ptr bt 0].toArray w (Does (oneB bt) w (fun v w' => v = .tuple #[S ((s.drop p).takeWhile typC), B (typeS ((s.drop p).takeWhile typC))] ∧ ∃ q, p ≤ q ∧ q ≤ s.length ∧ s.drop q = (s.drop p).dropWhile typC ∧ Blk w' bt [S s, I ↑q] 90)) := by
 refine calls_W Tryz.func108 rfl rfl rfl (by kernel_rfl) ?_
 have hx := Ext.refl w
 refine W_seq fun K1 hK1 => ?_
 refine wr ?_
 iterate 2 refine da ?_
 refine D_end (hK1 _ _ ?_)
 refine W_seq fun K2 hK2 => ?_
 refine wr ?_
 refine dm ?_
 refine dp (pv_nilP rfl) ?_
 refine dp (pv_fieldA (k := 1) (by kernel_rfl) rfl) ?_
 refine dq (lv_load (by kernel_rfl) rfl (hm.at rfl)) ?_
 refine da ?_
 refine D_end (hK2 _ _ ?_)
 refine W_seq fun K3 hK3 => ?_
 refine W_block ?_
 refine W_loop (G := Nat) (fun q => [(0, ptr bt 0), (2, S []), (3, .bool false), (4, I ↑p)]) (fun q w' => Mod (oneB bt) w w' ∧ Blk w' bt [S s, I ↑q] 90 ∧ p ≤ q ∧ q ≤ s.length ∧ (s.drop p).takeWhile typC = (s.take q).drop p ++ (s.drop q).takeWhile typC ∧ (s.drop p).dropWhile typC = (s.drop q).dropWhile typC) (fun q => s.length - q) p ?_ ?_ ?_
 ·
  exact ⟨rfl, rfl, rfl, rfl, trivial⟩
 ·
  exact ⟨hx.mono (fun _ h _ => h.elim), hm, Nat.le_refl _, hp, by rw [show (s.take p).drop p = [] from List.drop_eq_nil_of_le (List.length_take_le ..)]; rfl, rfl⟩
 ·
  intro X1 g1 w1 hF1
  revert hF1; revert g1; intro q hF1
  clear hx hm
  obtain ⟨hx, hm, hq1, hq2, ht, hd⟩ := hF1
  refine W_seq fun K4 hK4 => ?_
  refine W_seq fun K5 hK5 => ?_
  refine W_draw (R := Ext) Ext.refl (fun _ _ _ => Ext.trans) (by kernel_rfl) [3, 7, 14, 18, 25, 29, 37, 41] [(0, .p, false), (1, .p, false), (2, .p, false), (3, .l, false), (4, .p, false), (5, .p, false), (6, .p, false), (7, .l, false), (8, .p, false), (9, .p, false), (10, .p, false), (11, .p, false), (12, .p, false), (13, .p, false), (14, .l, false), (15, .p, false), (16, .p, false), (17, .p, false), (18, .l, false), (19, .p, false), (20, .x, false), (21, .p, false), (22, .p, false), (23, .p, false), (24, .p, false), (25, .l, false), (26, .p, false), (27, .p, false), (28, .p, false), (29, .l, false), (30, .p, false), (31, .x, false), (32, .p, false), (33, .p, false), (34, .p, false), (35, .p, false), (36, .p, false), (37, .l, false), (38, .p, false), (39, .p, false), (40, .p, false), (41, .l, false), (42, .p, false), (43, .p, false), (44, .p, false), (45, .p, false)] rfl (by kernel_rfl) (by kernel_rfl) (fun w2 ew2 => ?_)
  have x2 : Ext w1 w2 := by rw [ew2]; exact Ext.drew _
  clear ew2
  replace hm := hm.ext x2
  replace hx := hx.ext x2
  refine dm ?_
  refine dp (pv_nilP rfl) ?_
  refine dp (pv_fieldA (k := 1) (by kernel_rfl) rfl) ?_
  refine D_l rfl (fun w' hR => lv_load (by kernel_rfl) rfl ((hm.ext hR).at rfl)) ?_
  refine dm ?_
  refine dp (pv_nilP rfl) ?_
  refine dp (pv_fieldA (k := 0) (by kernel_rfl) rfl) ?_
  refine D_l rfl (fun w' hR => lv_load (by kernel_rfl) rfl ((hm.ext hR).at rfl)) ?_
  refine dp (pv_lenS (by kernel_rfl) rfl) ?_
  refine dp (pv_lss rfl rfl) ?_
  refine dm ?_
  refine D_splitP 19 rfl (fun c1 => ?_) (fun c1 => ?_)
  ·
   obtain ⟨c, hk⟩ : ∃ c, s[q]? = some c := ⟨_, List.getElem?_eq_getElem (by omega)⟩
   refine dm ?_
   refine dp (pv_nilP rfl) ?_
   refine dp (pv_fieldA (k := 0) (by kernel_rfl) rfl) ?_
   refine D_l rfl (fun w' hR => lv_load (by kernel_rfl) rfl ((hm.ext hR).at rfl)) ?_
   refine dm ?_
   refine dp (pv_nilP rfl) ?_
   refine dp (pv_fieldA (k := 1) (by kernel_rfl) rfl) ?_
   refine D_l rfl (fun w' hR => lv_load (by kernel_rfl) rfl ((hm.ext hR).at rfl)) ?_
   refine dp (pv_idxS (by kernel_rfl) rfl rfl hk) ?_
   refine D_callP rfl (by kernel_rfl) (isLetter_w c _) rfl RX.ext (fun w3 x3 => ?_)
   replace hm := hm.ext x3
   replace hx := hx.ext x3
   refine dm ?_
   refine D_split 30 rfl (fun c2 => ?_) (fun c2 => ?_)
   ·
    iterate 10 refine dk ?_
    refine dk' ?_
    refine dm ?_
    iterate 10 refine dk ?_
    refine dk' ?_
    refine dk' ?_
    refine D_end (hK5 _ _ ?_)
    refine W_t rfl ?_
    refine W_skip ?_
    refine hK4 _ _ ?_
    refine W_block ?_
    refine wr ?_
    refine dm ?_
    refine dp (pv_nilP rfl) ?_
    refine dp (pv_fieldA (k := 1) (by kernel_rfl) rfl) ?_
    refine dq (lv_load (by kernel_rfl) rfl (hm.at rfl)) ?_
    refine dp (pv_add rfl rfl (by unfold inI64; omega)) ?_
    refine dp (pv_nilP rfl) ?_
    refine dp (pv_fieldA (k := 1) (by kernel_rfl) rfl) ?_
    refine D_store1 (v := ?v16) rfl rfl ?h16 ?n16 (by kernel_rfl) hm ?o16 (.inl rfl) (fun w4 x4 xs4 hm => ?k16)
    case h16 => conv => lhs; whnf
    case n16 => first | rfl
    case o16 => exact Nat.le_of_ble_eq_true rfl
    try dsimp only [setAt, List.set, List.take, List.drop] at hm
    replace hx := hx.own x4 (fun i hi _ => hi)
    refine D_end (?_)
    have hc : typC c = true := by first | exact typC_let c2 | (simp [typC, c3]; done) | exact typC_dash c4
    have hg := tw_go hk hc
    refine ⟨q + 1, ⟨rfl, rfl, rfl, rfl, trivial⟩, ⟨hx, hm, by omega, by omega, ?_, ?_⟩, by omega⟩
    ·
     rw [ht, hg.1, take_drop_snoc hk hq1]; simp
    ·
     rw [hd, hg.2]
   ·
    refine dm ?_
    refine dp (pv_nilP rfl) ?_
    refine dp (pv_fieldA (k := 0) (by kernel_rfl) rfl) ?_
    refine D_l rfl (fun w' hR => lv_load (by kernel_rfl) rfl ((hm.ext hR).at rfl)) ?_
    refine dm ?_
    refine dp (pv_nilP rfl) ?_
    refine dp (pv_fieldA (k := 1) (by kernel_rfl) rfl) ?_
    refine D_l rfl (fun w' hR => lv_load (by kernel_rfl) rfl ((hm.ext hR).at rfl)) ?_
    refine dp (pv_idxS (by kernel_rfl) rfl rfl hk) ?_
    refine D_callP rfl (by kernel_rfl) (isDigit_w c _) rfl RX.ext (fun w5 x5 => ?_)
    replace hm := hm.ext x5
    replace hx := hx.ext x5
    refine dk' ?_
    refine dm ?_
    refine D_split 42 rfl (fun c3 => ?_) (fun c3 => ?_)
    ·
     iterate 10 refine dk ?_
     refine dk' ?_
     refine dk' ?_
     refine D_end (hK5 _ _ ?_)
     refine W_t rfl ?_
     refine W_skip ?_
     refine hK4 _ _ ?_
     refine W_block ?_
     refine wr ?_
     refine dm ?_
     refine dp (pv_nilP rfl) ?_
     refine dp (pv_fieldA (k := 1) (by kernel_rfl) rfl) ?_
     refine dq (lv_load (by kernel_rfl) rfl (hm.at rfl)) ?_
     refine dp (pv_add rfl rfl (by unfold inI64; omega)) ?_
     refine dp (pv_nilP rfl) ?_
     refine dp (pv_fieldA (k := 1) (by kernel_rfl) rfl) ?_
     refine D_store1 (v := ?v24) rfl rfl ?h24 ?n24 (by kernel_rfl) hm ?o24 (.inl rfl) (fun w6 x6 xs6 hm => ?k24)
     case h24 => conv => lhs; whnf
     case n24 => first | rfl
     case o24 => exact Nat.le_of_ble_eq_true rfl
     try dsimp only [setAt, List.set, List.take, List.drop] at hm
     replace hx := hx.own x6 (fun i hi _ => hi)
     refine D_end (?_)
     have hc : typC c = true := by first | exact typC_let c2 | (simp [typC, c3]; done) | exact typC_dash c4
     have hg := tw_go hk hc
     refine ⟨q + 1, ⟨rfl, rfl, rfl, rfl, trivial⟩, ⟨hx, hm, by omega, by omega, ?_, ?_⟩, by omega⟩
     ·
      rw [ht, hg.1, take_drop_snoc hk hq1]; simp
     ·
      rw [hd, hg.2]
    ·
     refine dm ?_
     refine dp (pv_nilP rfl) ?_
     refine dp (pv_fieldA (k := 0) (by kernel_rfl) rfl) ?_
     refine D_l rfl (fun w' hR => lv_load (by kernel_rfl) rfl ((hm.ext hR).at rfl)) ?_
     refine dm ?_
     refine dp (pv_nilP rfl) ?_
     refine dp (pv_fieldA (k := 1) (by kernel_rfl) rfl) ?_
     refine D_l rfl (fun w' hR => lv_load (by kernel_rfl) rfl ((hm.ext hR).at rfl)) ?_
     refine dp (pv_idxS (by kernel_rfl) rfl rfl hk) ?_
     refine dp (pv_eqlB (b := 45) rfl rfl) ?_
     refine dk' ?_
     refine dk' ?_
     refine D_end (hK5 _ _ ?_)
     refine W_if rfl (fun c4 => ?_) (fun c4 => ?_)
     ·
      refine W_skip ?_
      refine hK4 _ _ ?_
      refine W_block ?_
      refine wr ?_
      refine dm ?_
      refine dp (pv_nilP rfl) ?_
      refine dp (pv_fieldA (k := 1) (by kernel_rfl) rfl) ?_
      refine dq (lv_load (by kernel_rfl) rfl (hm.at rfl)) ?_
      refine dp (pv_add rfl rfl (by unfold inI64; omega)) ?_
      refine dp (pv_nilP rfl) ?_
      refine dp (pv_fieldA (k := 1) (by kernel_rfl) rfl) ?_
      refine D_store1 (v := ?v30) rfl rfl ?h30 ?n30 (by kernel_rfl) hm ?o30 (.inl rfl) (fun w7 x7 xs7 hm => ?k30)
      case h30 => conv => lhs; whnf
      case n30 => first | rfl
      case o30 => exact Nat.le_of_ble_eq_true rfl
      try dsimp only [setAt, List.set, List.take, List.drop] at hm
      replace hx := hx.own x7 (fun i hi _ => hi)
      refine D_end (?_)
      have hc : typC c = true := by first | exact typC_let c2 | (simp [typC, c3]; done) | exact typC_dash c4
      have hg := tw_go hk hc
      refine ⟨q + 1, ⟨rfl, rfl, rfl, rfl, trivial⟩, ⟨hx, hm, by omega, by omega, ?_, ?_⟩, by omega⟩
      ·
       rw [ht, hg.1, take_drop_snoc hk hq1]; simp
      ·
       rw [hd, hg.2]
     ·
      refine W_exit ?_
      refine hK3 _ _ ?_
      refine W_seq fun K6 hK6 => ?_
      refine W_draw (R := Ext) Ext.refl (fun _ _ _ => Ext.trans) (by kernel_rfl) [3, 8, 13, 18] [(0, .p, false), (1, .p, false), (2, .p, false), (3, .l, false), (4, .p, false), (5, .p, false), (6, .p, false), (7, .p, false), (8, .l, false), (9, .p, false), (10, .p, false), (11, .p, false), (12, .p, false), (13, .l, false), (14, .p, false), (15, .p, false), (16, .p, false), (17, .p, false), (18, .l, false), (19, .p, false), (20, .x, false), (21, .p, false), (22, .p, false)] rfl (by kernel_rfl) (by kernel_rfl) (fun w8 ew8 => ?_)
      have x8 : Ext w5 w8 := by rw [ew8]; exact Ext.drew _
      clear ew8
      replace hm := hm.ext x8
      replace hx := hx.ext x8
      refine dm ?_
      refine dp (pv_nilP rfl) ?_
      refine dp (pv_fieldA (k := 0) (by kernel_rfl) rfl) ?_
      refine D_l rfl (fun w' hR => lv_load (by kernel_rfl) rfl ((hm.ext hR).at rfl)) ?_
      iterate 2 refine dm ?_
      refine dp (pv_nilP rfl) ?_
      refine dp (pv_fieldA (k := 1) (by kernel_rfl) rfl) ?_
      refine D_l rfl (fun w' hR => lv_load (by kernel_rfl) rfl ((hm.ext hR).at rfl)) ?_
      refine dpw (pv_slS (by kernel_rfl) rfl rfl rfl (by omega) (by omega)) ?_
      refine dm ?_
      refine dp (pv_nilP rfl) ?_
      refine dp (pv_fieldA (k := 0) (by kernel_rfl) rfl) ?_
      refine D_l rfl (fun w' hR => lv_load (by kernel_rfl) rfl ((hm.ext hR).at rfl)) ?_
      iterate 2 refine dm ?_
      refine dp (pv_nilP rfl) ?_
      refine dp (pv_fieldA (k := 1) (by kernel_rfl) rfl) ?_
      refine D_l rfl (fun w' hR => lv_load (by kernel_rfl) rfl ((hm.ext hR).at rfl)) ?_
      refine dpw (pv_slS (by kernel_rfl) rfl rfl rfl (by omega) (by omega)) ?_
      refine D_callP rfl (by kernel_rfl) (type_w ((s.take q).drop p) _) rfl RX.ext (fun w9 x9 => ?_)
      replace hm := hm.ext x9
      replace hx := hx.ext x9
      iterate 2 refine da ?_
      refine D_end (hK6 _ _ ?_)
      refine W_ret ?_
      try dsimp only [then', inBlk, noGo]
      refine rt ?_
      have hst : (s.drop q).takeWhile typC = [] ∧ (s.drop q).dropWhile typC = s.drop q := tw_stay (fun c' hc' => by first | (rw [hk] at hc'; cases hc'; simp [typC, c2, c3, c4]; done) | (have := (List.getElem?_eq_some_iff.1 hc').1; omega))
      rw [hst.1, List.append_nil] at ht
      rw [ht]
      exact ⟨_, rfl, hx, rfl, q, hq1, hq2, by rw [hd, hst.2], hm⟩
  ·
   iterate 34 refine dk ?_
   refine dk' ?_
   refine D_end (hK5 _ _ ?_)
   refine W_f rfl ?_
   refine W_exit ?_
   refine hK3 _ _ ?_
   refine W_seq fun K7 hK7 => ?_
   refine W_draw (R := Ext) Ext.refl (fun _ _ _ => Ext.trans) (by kernel_rfl) [3, 8, 13, 18] [(0, .p, false), (1, .p, false), (2, .p, false), (3, .l, false), (4, .p, false), (5, .p, false), (6, .p, false), (7, .p, false), (8, .l, false), (9, .p, false), (10, .p, false), (11, .p, false), (12, .p, false), (13, .l, false), (14, .p, false), (15, .p, false), (16, .p, false), (17, .p, false), (18, .l, false), (19, .p, false), (20, .x, false), (21, .p, false), (22, .p, false)] rfl (by kernel_rfl) (by kernel_rfl) (fun w10 ew10 => ?_)
   have x10 : Ext w2 w10 := by rw [ew10]; exact Ext.drew _
   clear ew10
   replace hm := hm.ext x10
   replace hx := hx.ext x10
   refine dm ?_
   refine dp (pv_nilP rfl) ?_
   refine dp (pv_fieldA (k := 0) (by kernel_rfl) rfl) ?_
   refine D_l rfl (fun w' hR => lv_load (by kernel_rfl) rfl ((hm.ext hR).at rfl)) ?_
   iterate 2 refine dm ?_
   refine dp (pv_nilP rfl) ?_
   refine dp (pv_fieldA (k := 1) (by kernel_rfl) rfl) ?_
   refine D_l rfl (fun w' hR => lv_load (by kernel_rfl) rfl ((hm.ext hR).at rfl)) ?_
   refine dpw (pv_slS (by kernel_rfl) rfl rfl rfl (by omega) (by omega)) ?_
   refine dm ?_
   refine dp (pv_nilP rfl) ?_
   refine dp (pv_fieldA (k := 0) (by kernel_rfl) rfl) ?_
   refine D_l rfl (fun w' hR => lv_load (by kernel_rfl) rfl ((hm.ext hR).at rfl)) ?_
   iterate 2 refine dm ?_
   refine dp (pv_nilP rfl) ?_
   refine dp (pv_fieldA (k := 1) (by kernel_rfl) rfl) ?_
   refine D_l rfl (fun w' hR => lv_load (by kernel_rfl) rfl ((hm.ext hR).at rfl)) ?_
   refine dpw (pv_slS (by kernel_rfl) rfl rfl rfl (by omega) (by omega)) ?_
   refine D_callP rfl (by kernel_rfl) (type_w ((s.take q).drop p) _) rfl RX.ext (fun w11 x11 => ?_)
   replace hm := hm.ext x11
   replace hx := hx.ext x11
   iterate 2 refine da ?_
   refine D_end (hK7 _ _ ?_)
   refine W_ret ?_
   try dsimp only [then', inBlk, noGo]
   refine rt ?_
   have hst : (s.drop q).takeWhile typC = [] ∧ (s.drop q).dropWhile typC = s.drop q := tw_stay (fun c' hc' => by first | (rw [hk] at hc'; cases hc'; simp [typC, c2, c3, c4]; done) | (have := (List.getElem?_eq_some_iff.1 hc').1; omega))
   rw [hst.1, List.append_nil] at ht
   rw [ht]
   exact ⟨_, rfl, hx, rfl, q, hq1, hq2, by rw [hd, hst.2], hm⟩

set_option maxRecDepth 100000 in
set_option maxHeartbeats 1000000 in
theorem stroke_w (bt p : Nat) (s : Str) (w : World) (hm : Blk w bt [S s, I ↑p] 90) (hs : s.length ≤ 1000000) (hp : p ≤ s.length) :
  Calls Tryz.prog 129 [ptr bt 0].toArray w (Does (oneB bt) w (fun v w' => ∃ u q, v = .tuple #[u, B (strokeS (s.drop p)).isSome] ∧ p ≤ q ∧ q ≤ s.length ∧ Blk w' bt [S s, I ↑q] 90 ∧ ∀ x r, strokeS (s.drop p) = some (x, r) → u = b8 x ∧ s.drop q = r)) := by
 refine calls_W Tryz.func129 rfl rfl rfl (by kernel_rfl) ?_
 have hx := Ext.refl w
 refine W_seq fun K1 hK1 => ?_
 refine wr ?_
 iterate 2 refine da ?_
 refine D_end (hK1 _ _ ?_)
 refine W_seq fun K2 hK2 => ?_
 refine W_seq fun K3 hK3 => ?_
 refine W_draw (R := Ext) Ext.refl (fun _ _ _ => Ext.trans) (by kernel_rfl) [3, 7] [(0, .p, false), (1, .p, false), (2, .p, false), (3, .l, false), (4, .p, false), (5, .p, false), (6, .p, false), (7, .l, false), (8, .p, false), (9, .p, false)] rfl (by kernel_rfl) (by kernel_rfl) (fun w1 ew1 => ?_)
 have x1 : Ext w w1 := by rw [ew1]; exact Ext.drew _
 clear ew1
 replace hm := hm.ext x1
 replace hx := hx.trans x1
 refine dm ?_
 refine dp (pv_nilP rfl) ?_
 refine dp (pv_fieldA (k := 1) (by kernel_rfl) rfl) ?_
 refine D_l rfl (fun w' hR => lv_load (by kernel_rfl) rfl ((hm.ext hR).at rfl)) ?_
 refine dm ?_
 refine dp (pv_nilP rfl) ?_
 refine dp (pv_fieldA (k := 0) (by kernel_rfl) rfl) ?_
 refine D_l rfl (fun w' hR => lv_load (by kernel_rfl) rfl ((hm.ext hR).at rfl)) ?_
 refine dp (pv_lenS (by kernel_rfl) rfl) ?_
 refine dp (pv_eql rfl rfl) ?_
 refine D_end (hK3 _ _ ?_)
 refine W_if rfl (fun c1 => ?_) (fun c1 => ?_)
 ·
  refine W_seq fun K4 hK4 => ?_
  refine wr ?_
  iterate 2 refine da ?_
  refine D_end (hK4 _ _ ?_)
  refine W_ret ?_
  try dsimp only [then', inBlk, noGo]
  refine rt ?_
  have e : strokeS (s.drop p) = none := by rw [List.drop_eq_nil_of_le (by omega)]; rfl
  exact ⟨_, rfl, hx.mono (fun _ h _ => h.elim), _, p, by rw [e]; rfl, Nat.le_refl _, hp, hm, by rw [e]; intro x r h; cases h⟩
 ·
  obtain ⟨c, hk⟩ : ∃ c, s[p]? = some c := ⟨_, List.getElem?_eq_getElem (by omega)⟩
  have hdr := drop_consS hk
  refine W_skip ?_
  refine hK2 _ _ ?_
  refine W_seq fun K5 hK5 => ?_
  refine W_draw (R := Ext) Ext.refl (fun _ _ _ => Ext.trans) (by kernel_rfl) [3, 7] [(0, .p, false), (1, .p, false), (2, .p, false), (3, .l, false), (4, .p, false), (5, .p, false), (6, .p, false), (7, .l, false), (8, .p, false), (9, .p, false)] rfl (by kernel_rfl) (by kernel_rfl) (fun w2 ew2 => ?_)
  have x2 : Ext w1 w2 := by rw [ew2]; exact Ext.drew _
  clear ew2
  replace hm := hm.ext x2
  replace hx := hx.trans x2
  refine dm ?_
  refine dp (pv_nilP rfl) ?_
  refine dp (pv_fieldA (k := 0) (by kernel_rfl) rfl) ?_
  refine D_l rfl (fun w' hR => lv_load (by kernel_rfl) rfl ((hm.ext hR).at rfl)) ?_
  refine dm ?_
  refine dp (pv_nilP rfl) ?_
  refine dp (pv_fieldA (k := 1) (by kernel_rfl) rfl) ?_
  refine D_l rfl (fun w' hR => lv_load (by kernel_rfl) rfl ((hm.ext hR).at rfl)) ?_
  refine dp (pv_idxS (by kernel_rfl) rfl rfl hk) ?_
  refine da ?_
  refine D_end (hK5 _ _ ?_)
  refine W_seq fun K6 hK6 => ?_
  refine wr ?_
  refine dm ?_
  refine dp (pv_nilP rfl) ?_
  refine dp (pv_fieldA (k := 1) (by kernel_rfl) rfl) ?_
  refine dq (lv_load (by kernel_rfl) rfl (hm.at rfl)) ?_
  refine dp (pv_add rfl rfl (by unfold inI64; omega)) ?_
  refine dp (pv_nilP rfl) ?_
  refine dp (pv_fieldA (k := 1) (by kernel_rfl) rfl) ?_
  refine D_store1 (v := ?v12) rfl rfl ?h12 ?n12 (by kernel_rfl) hm ?o12 (.inl rfl) (fun w3 x3 xs3 hm => ?k12)
  case h12 => conv => lhs; whnf
  case n12 => first | rfl
  case o12 => exact Nat.le_of_ble_eq_true rfl
  try dsimp only [setAt, List.set, List.take, List.drop] at hm
  replace hx := (hx.mod x3).mono (fun i hi _ => (hi : (oneB bt) i))
  refine D_end (hK6 _ _ ?_)
  refine W_seq fun K7 hK7 => ?_
  refine W_seq fun K8 hK8 => ?_
  refine wr ?_
  refine dm ?_
  refine D_callP rfl (by kernel_rfl) (indexByte_w strokes c _) rfl RX.all (fun w4 x4 => ?_)
  replace hm := hm.ext x4
  replace hx := hx.ext x4
  refine dp (pv_geq rfl rfl) ?_
  refine D_end (hK8 _ _ ?_)
  refine W_if rfl (fun c2 => ?_) (fun c2 => ?_)
  ·
   refine W_seq fun K9 hK9 => ?_
   refine wr ?_
   refine dm ?_
   iterate 2 refine da ?_
   refine D_end (hK9 _ _ ?_)
   refine W_ret ?_
   try dsimp only [then', inBlk, noGo]
   refine rt ?_
   have e : strokeS (s.drop p) = some (c, s.drop (p + 1)) := by rw [hdr, strokeS_in ((idx_in c _).1 c2)]
   exact ⟨_, rfl, hx, _, p + 1, by rw [e]; rfl, by omega, by omega, hm, by rw [e]; intro x r h; cases h; exact ⟨rfl, rfl⟩⟩
  ·
   refine W_skip ?_
   refine hK7 _ _ ?_
   refine W_seq fun K10 hK10 => ?_
   refine wr ?_
   refine dm ?_
   refine D_callP rfl (by kernel_rfl) (digit_w c _) rfl RX.all (fun w5 x5 => ?_)
   replace hm := hm.ext x5
   replace hx := hx.ext x5
   refine dm ?_
   refine dp (pv_ext rfl rfl) ?_
   refine dp (pv_ext rfl rfl) ?_
   iterate 2 refine da ?_
   refine D_end (hK10 _ _ ?_)
   refine W_seq fun K11 hK11 => ?_
   refine W_seq fun K12 hK12 => ?_
   refine W_draw (R := Ext) Ext.refl (fun _ _ _ => Ext.trans) (by kernel_rfl) [6, 10] [(0, .p, false), (1, .p, false), (2, .p, false), (3, .p, false), (4, .p, false), (5, .p, false), (6, .l, false), (7, .p, false), (8, .p, false), (9, .p, false), (10, .l, false), (11, .p, false), (12, .p, false), (13, .p, false)] rfl (by kernel_rfl) (by kernel_rfl) (fun w6 ew6 => ?_)
   have x6 : Ext w5 w6 := by rw [ew6]; exact Ext.drew _
   clear ew6
   replace hm := hm.ext x6
   replace hx := hx.ext x6
   refine dm ?_
   refine dn ?_
   refine dm ?_
   refine D_split 45 rfl (fun c3 => ?_) (fun c3 => ?_)
   ·
    iterate 10 refine dk ?_
    refine dk' ?_
    refine D_end (hK12 _ _ ?_)
    refine W_t rfl ?_
    refine W_seq fun K13 hK13 => ?_
    refine wr ?_
    iterate 2 refine da ?_
    refine D_end (hK13 _ _ ?_)
    refine W_ret ?_
    try dsimp only [then', inBlk, noGo]
    refine rt ?_
    have e : strokeS (s.drop p) = none := by simp only [Bool.not_eq_true', Option.isSome_eq_false_iff, Option.isNone_iff_eq_none] at c3; rw [hdr, strokeS_nohex (fun h => c2 ((idx_in c _).2 h)) c3]
    exact ⟨_, rfl, hx, _, p + 1, by rw [e]; rfl, by omega, by omega, hm, by rw [e]; intro x r h; cases h⟩
   ·
    refine dm ?_
    refine dp (pv_nilP rfl) ?_
    refine dp (pv_fieldA (k := 1) (by kernel_rfl) rfl) ?_
    refine D_l rfl (fun w' hR => lv_load (by kernel_rfl) rfl ((hm.ext hR).at rfl)) ?_
    refine dm ?_
    refine dp (pv_nilP rfl) ?_
    refine dp (pv_fieldA (k := 0) (by kernel_rfl) rfl) ?_
    refine D_l rfl (fun w' hR => lv_load (by kernel_rfl) rfl ((hm.ext hR).at rfl)) ?_
    refine dp (pv_lenS (by kernel_rfl) rfl) ?_
    refine dp (pv_eql rfl rfl) ?_
    refine dk' ?_
    refine D_end (hK12 _ _ ?_)
    refine W_if rfl (fun c4 => ?_) (fun c4 => ?_)
    ·
     refine W_seq fun K14 hK14 => ?_
     refine wr ?_
     iterate 2 refine da ?_
     refine D_end (hK14 _ _ ?_)
     refine W_ret ?_
     try dsimp only [then', inBlk, noGo]
     refine rt ?_
     have e : strokeS (s.drop p) = none := by rw [hdr, List.drop_eq_nil_of_le (by omega), strokeS_short (fun h => c2 ((idx_in c _).2 h))]
     exact ⟨_, rfl, hx, _, p + 1, by rw [e]; rfl, by omega, by omega, hm, by rw [e]; intro x r h; cases h⟩
    ·
     obtain ⟨d, hd⟩ : ∃ d, s[p + 1]? = some d := ⟨_, List.getElem?_eq_getElem (by omega)⟩
     have hdr2 := drop_consS hd
     refine W_skip ?_
     refine hK11 _ _ ?_
     refine W_seq fun K15 hK15 => ?_
     refine W_draw (R := Ext) Ext.refl (fun _ _ _ => Ext.trans) (by kernel_rfl) [3, 7] [(0, .p, false), (1, .p, false), (2, .p, false), (3, .l, false), (4, .p, false), (5, .p, false), (6, .p, false), (7, .l, false), (8, .p, false), (9, .x, false), (10, .p, false), (11, .p, false), (12, .p, false), (13, .p, false), (14, .p, false)] rfl (by kernel_rfl) (by kernel_rfl) (fun w7 ew7 => ?_)
     have x7 : Ext w6 w7 := by rw [ew7]; exact Ext.drew _
     clear ew7
     replace hm := hm.ext x7
     replace hx := hx.ext x7
     refine dm ?_
     refine dp (pv_nilP rfl) ?_
     refine dp (pv_fieldA (k := 0) (by kernel_rfl) rfl) ?_
     refine D_l rfl (fun w' hR => lv_load (by kernel_rfl) rfl ((hm.ext hR).at rfl)) ?_
     refine dm ?_
     refine dp (pv_nilP rfl) ?_
     refine dp (pv_fieldA (k := 1) (by kernel_rfl) rfl) ?_
     refine D_l rfl (fun w' hR => lv_load (by kernel_rfl) rfl ((hm.ext hR).at rfl)) ?_
     refine dp (pv_idxS (by kernel_rfl) rfl rfl (i := p + 1) hd) ?_
     refine D_callP rfl (by kernel_rfl) (digit_w d _) rfl RX.ext (fun w8 x8 => ?_)
     replace hm := hm.ext x8
     replace hx := hx.ext x8
     refine dm ?_
     refine dp (pv_ext rfl rfl) ?_
     refine dp (pv_ext rfl rfl) ?_
     iterate 2 refine da ?_
     refine D_end (hK15 _ _ ?_)
     refine W_seq fun K16 hK16 => ?_
     refine wr ?_
     refine dm ?_
     refine dp (pv_nilP rfl) ?_
     refine dp (pv_fieldA (k := 1) (by kernel_rfl) rfl) ?_
     refine dq (lv_load (by kernel_rfl) rfl (hm.at rfl)) ?_
     refine dp (pv_add rfl rfl (by unfold inI64; omega)) ?_
     refine dp (pv_nilP rfl) ?_
     refine dp (pv_fieldA (k := 1) (by kernel_rfl) rfl) ?_
     refine D_store1 (v := ?v41) rfl rfl ?h41 ?n41 (by kernel_rfl) hm ?o41 (.inl rfl) (fun w9 x9 xs9 hm => ?k41)
     case h41 => conv => lhs; whnf
     case n41 => first | rfl
     case o41 => exact Nat.le_of_ble_eq_true rfl
     try dsimp only [setAt, List.set, List.take, List.drop] at hm
     replace hx := hx.own x9 (fun i hi _ => hi)
     refine D_end (hK16 _ _ ?_)
     refine W_seq fun K17 hK17 => ?_
     refine wr ?_
     refine dm ?_
     refine dp (pv_shlB4 rfl rfl) ?_
     refine dm ?_
     refine dp (pv_orB rfl rfl) ?_
     refine dm ?_
     iterate 2 refine da ?_
     refine D_end (hK17 _ _ ?_)
     refine W_ret ?_
     try dsimp only [then', inBlk, noGo]
     refine rt ?_
     simp only [Bool.not_eq_false', Option.isSome_iff_exists] at c3
     obtain ⟨h, hh⟩ := c3
     have e : strokeS (s.drop p) = (halfB d).map fun l => (h <<< 4 ||| l, s.drop (p + 2)) := by rw [hdr, hdr2, strokeS_hex (fun h => c2 ((idx_in c _).2 h)) hh]
     refine ⟨_, rfl, hx, _, p + 2, by rw [e, Option.isSome_map], by omega, by omega, hm, ?_⟩
     rw [e, hh]
     intro x r hr
     obtain ⟨l, hl, h3⟩ := Option.map_eq_some_iff.1 hr
     cases h3
     rw [hl]; exact ⟨rfl, rfl⟩

set_option maxRecDepth 100000 in
set_option maxHeartbeats 1000000 in
theorem value_w (bt p : Nat) (s : Str) (w : World) (hm : Blk w bt [S s, I ↑p] 90) (hs : s.length ≤ 1000000) (hp : p ≤ s.length) :
  Calls Tryz.prog 109 [ptr bt 0].toArray w (Does (oneB bt) w (fun v w' => ∃ (u : Str) (q : Nat), v = .tuple #[S u, B (valueS (s.drop p)).isSome] ∧ p ≤ q ∧ q ≤ s.length ∧ Blk w' bt [S s, I ↑q] 90 ∧ ∀ x r, valueS (s.drop p) = some (x, r) → u = x ∧ s.drop q = r)) := by
 refine calls_W Tryz.func109 rfl rfl rfl (by kernel_rfl) ?_
 have hx := Ext.refl w
 have hbt := hm.lt
 have ho : Own encB 1 5 w.heap.size w (.slice none 0 0) [] := Own.nil
 refine W_seq fun K1 hK1 => ?_
 refine wr ?_
 iterate 2 refine da ?_
 refine D_end (hK1 _ _ ?_)
 refine W_seq fun K2 hK2 => ?_
 refine wr ?_
 refine da ?_
 refine D_end (hK2 _ _ ?_)
 refine W_seq fun K3 hK3 => ?_
 refine wr ?_
 refine da ?_
 refine D_end (hK3 _ _ ?_)
 refine W_seq fun K4 hK4 => ?_
 refine W_block ?_
 refine W_loop (G := Nat × Value × Str × Nat) (fun (q, vb, b, k) => [(0, ptr bt 0), (4, vb), (5, I ↑k)]) (fun (q, vb, b, k) w' => Mod (oneB bt) w w' ∧ Blk w' bt [S s, I ↑q] 90 ∧ Own encB 1 5 w.heap.size w' vb b ∧ p ≤ q ∧ q ≤ s.length ∧ k ≤ b.length ∧ b.length ≤ q ∧ valL (s.drop q) b k = valL (s.drop p) [] 0) (fun (q, vb, b, k) => s.length - q) (p, .slice none 0 0, [], 0) ?_ ?_ ?_
 ·
  exact ⟨rfl, rfl, rfl, trivial⟩
 ·
  exact ⟨hx.mono (fun _ h _ => h.elim), hm, ho, Nat.le_refl _, hp, Nat.zero_le _, Nat.zero_le _, rfl⟩
 ·
  intro X1 g1 w1 hF1
  obtain ⟨q, vb, b, k⟩ := g1
  clear hx hm ho
  obtain ⟨hx, hm, ho, hq1, hq2, hk1, hk2, hv⟩ := hF1
  refine W_seq fun K5 hK5 => ?_
  refine W_seq fun K6 hK6 => ?_
  refine W_draw (R := Ext) Ext.refl (fun _ _ _ => Ext.trans) (by kernel_rfl) [3, 7] [(0, .p, false), (1, .p, false), (2, .p, false), (3, .l, false), (4, .p, false), (5, .p, false), (6, .p, false), (7, .l, false), (8, .p, false), (9, .p, false), (10, .p, false), (11, .p, false), (12, .x, false), (13, .p, false), (14, .p, false)] rfl (by kernel_rfl) (by kernel_rfl) (fun w2 ew2 => ?_)
  have x2 : Ext w1 w2 := by rw [ew2]; exact Ext.drew _
  clear ew2
  replace hm := hm.ext x2
  replace ho := ho.ext x2
  replace hx := hx.ext x2
  refine dm ?_
  refine dp (pv_nilP rfl) ?_
  refine dp (pv_fieldA (k := 1) (by kernel_rfl) rfl) ?_
  refine D_l rfl (fun w' hR => lv_load (by kernel_rfl) rfl ((hm.ext hR).at rfl)) ?_
  refine dm ?_
  refine dp (pv_nilP rfl) ?_
  refine dp (pv_fieldA (k := 0) (by kernel_rfl) rfl) ?_
  refine D_l rfl (fun w' hR => lv_load (by kernel_rfl) rfl ((hm.ext hR).at rfl)) ?_
  refine dp (pv_lenS (by kernel_rfl) rfl) ?_
  refine dp (pv_lss rfl rfl) ?_
  refine dm ?_
  refine D_splitP 19 rfl (fun c1 => ?_) (fun c1 => ?_)
  ·
   obtain ⟨c, hk⟩ : ∃ c, s[q]? = some c := ⟨_, List.getElem?_eq_getElem (by omega)⟩
   have hdr := drop_consS hk
   refine dm ?_
   refine D_callP rfl (by kernel_rfl) (is_w bt q s 44 _ hm hs) rfl RX.ext (fun w3 x3 => ?_)
   replace hm := hm.ext x3
   replace ho := ho.ext x3
   replace hx := hx.ext x3
   refine dn ?_
   refine dk' ?_
   refine D_end (hK6 _ _ ?_)
   refine W_cond rfl (fun c2 => ?_) (fun c2 => ?_)
   ·
    have h44 : c ≠ 44 := by rw [hk] at c2; simpa using c2
    refine W_skip ?_
    refine hK5 _ _ ?_
    refine W_block ?_
    refine W_seq fun K7 hK7 => ?_
    refine W_draw (R := Ext) Ext.refl (fun _ _ _ => Ext.trans) (by kernel_rfl) [3, 7] [(0, .p, false), (1, .p, false), (2, .p, false), (3, .l, false), (4, .p, false), (5, .p, false), (6, .p, false), (7, .l, false), (8, .p, false), (9, .p, false)] rfl (by kernel_rfl) (by kernel_rfl) (fun w4 ew4 => ?_)
    have x4 : Ext w3 w4 := by rw [ew4]; exact Ext.drew _
    clear ew4
    replace hm := hm.ext x4
    replace ho := ho.ext x4
    replace hx := hx.ext x4
    refine dm ?_
    refine dp (pv_nilP rfl) ?_
    refine dp (pv_fieldA (k := 0) (by kernel_rfl) rfl) ?_
    refine D_l rfl (fun w' hR => lv_load (by kernel_rfl) rfl ((hm.ext hR).at rfl)) ?_
    refine dm ?_
    refine dp (pv_nilP rfl) ?_
    refine dp (pv_fieldA (k := 1) (by kernel_rfl) rfl) ?_
    refine D_l rfl (fun w' hR => lv_load (by kernel_rfl) rfl ((hm.ext hR).at rfl)) ?_
    refine dp (pv_idxS (by kernel_rfl) rfl rfl hk) ?_
    refine da ?_
    refine D_end (hK7 _ _ ?_)
    refine W_seq fun K8 hK8 => ?_
    refine wr ?_
    refine dm ?_
    refine dp (pv_nilP rfl) ?_
    refine dp (pv_fieldA (k := 1) (by kernel_rfl) rfl) ?_
    refine dq (lv_load (by kernel_rfl) rfl (hm.at rfl)) ?_
    refine dp (pv_add rfl rfl (by unfold inI64; omega)) ?_
    refine dp (pv_nilP rfl) ?_
    refine dp (pv_fieldA (k := 1) (by kernel_rfl) rfl) ?_
    refine D_store1 (v := ?v15) rfl rfl ?h15 ?n15 (by kernel_rfl) hm ?o15 (.inl rfl) (fun w5 x5 xs5 hm => ?k15)
    case h15 => conv => lhs; whnf
    case n15 => first | rfl | exact isSl.one ho.sl
    case o15 => exact Nat.le_of_ble_eq_true rfl
    try dsimp only [setAt, List.set, List.take, List.drop] at hm
    try replace ho := ho.mod x5 (by first | assumption | (intro k hk h; have h1 := (ho.lt k hk).1; have h2 : k = bt := h; omega) | (intro k hk h; have h1 := ot_ho k hk; have h2 : k = bt := h; omega) | (intro h; have h2 : _ = bt := h; omega) | (intro hl h; have h1 := at_ho hl; have h2 : _ = bt := h; omega))
    replace hx := hx.own x5 (fun i hi _ => hi)
    refine D_end (hK8 _ _ ?_)
    refine W_block ?_
    refine W_seq fun K9 hK9 => ?_
    refine wr ?_
    refine dm ?_
    refine dp (pv_eqlB (b := 92) rfl rfl) ?_
    refine da ?_
    refine D_end (hK9 _ _ ?_)
    refine W_if rfl (fun c3 => ?_) (fun c3 => ?_)
    ·
     refine W_seq fun K10 hK10 => ?_
     refine wr ?_
     refine dm ?_
     refine D_callD rfl (by kernel_rfl) (stroke_w bt (q + 1) s _ hm hs (by omega)) rfl (.inl rfl) (fun u6 w6 x6 hf6 => ?_)
     have hsz6 := hx.size
     replace ho := ho.mod x6 (fun k hk e => by have h1 := (ho.lt k hk).1; have h2 : k = bt := e; omega)
     replace hx := hx.own x6 (fun i hi _ => hi)
     obtain ⟨u, q2, rfl, hqq1, hqq2, hm, hu⟩ := hf6
     refine dm ?_
     refine dp (pv_ext rfl rfl) ?_
     refine dp (pv_ext rfl rfl) ?_
     iterate 2 refine da ?_
     refine D_end (hK10 _ _ ?_)
     refine W_seq fun K11 hK11 => ?_
     refine W_seq fun K12 hK12 => ?_
     refine wr ?_
     refine dm ?_
     refine dn ?_
     refine D_end (hK12 _ _ ?_)
     refine W_cond rfl (fun c4 => ?_) (fun c4 => ?_)
     ·
      refine W_seq fun K13 hK13 => ?_
      refine wr ?_
      iterate 2 refine da ?_
      refine D_end (hK13 _ _ ?_)
      refine W_ret ?_
      try dsimp only [then', inBlk, noGo]
      refine rt ?_
      have e : valueS (s.drop p) = none := by unfold valueS; rw [← hv, hdr, c3, valL_no (by simpa using c4)]
      exact ⟨_, rfl, hx, _, q2, by rw [e]; rfl, by omega, hqq2, hm, by rw [e]; intro x r h; cases h⟩
     ·
      simp only [Bool.not_eq_false', Option.isSome_iff_exists] at c4
      obtain ⟨⟨x, r2⟩, hsx⟩ := c4
      obtain ⟨rfl, hr⟩ := hu x r2 hsx
      refine W_skip ?_
      refine hK11 _ _ ?_
      refine W_seq fun K14 hK14 => ?_
      refine wr ?_
      iterate 2 refine dm ?_
      refine D_lit (e := 5) (sz := 1) (zs := [.int .u8 0]) (pv := [(0, ?a29_0)]) (cs := [?a29_0]) rfl (by kernel_rfl) ⟨rfl, rfl⟩ (by kernel_rfl) rfl ?h29 ?f29 RX.all (fun b1 w7 e1 x7 m1 => ?k29)
      case h29 => refine ⟨rfl, ?_, trivial⟩ <;> (conv => lhs; whnf)
      case f29 => rfl
      have g1 : w.heap.size ≤ b1 := by have := hx.size; omega
      have o1_ho : ∀ k, Value.ownBlock _ = some k → k < b1 := fun k hk => by have := (ho.lt k hk).2; omega
      have a1_hm := hm.lt
      replace ho := ho.ext x7
      replace hm := hm.ext x7
      replace hx := hx.ext x7
      refine D_append (lx := [x]) (e := 5) (sz := 1) (by' := 1) rfl (by kernel_rfl) (by kernel_rfl) (by intro x; rfl) ho (m1.arr (enc := encB) (sz := 1) (l := [x]) rfl (by intro x; rfl) rfl (Nat.le_of_ble_eq_true rfl)) rfl rfl (by intro x _ u hu; simp at hu; rcases hu with rfl <;> rfl) (by simp; omega) (by decide) hx.size (.inl rfl) (fun vb2 w8 ho_n x8 => ?_)
      try replace hm := hm.mod x8 (by first | assumption | (intro h; have h1 := (ho.lt _ h).1; omega))
      replace hx := hx.own x8 (fun i hi hlt => (by have := (ho.lt i hi).1; omega))
      replace ho := ho_n
      clear m1
      refine da ?_
      refine D_end (hK14 _ _ ?_)
      refine wr ?_
      refine dm ?_
      refine dp (pv_lenV (e := 5) (k := 1) (by kernel_rfl) ho.sl rfl) ?_
      refine da ?_
      refine D_end (?_)
      refine ⟨(q2, vb2, b ++ [x], (b ++ [x]).length), ⟨rfl, rfl, rfl, trivial⟩, ⟨hx, hm, ho, by omega, hqq2, Nat.le_refl _, by simp; omega, ?_⟩, by simp only []; omega⟩
      rw [← hv, hdr, c3, valL_stroke hsx, hr, List.length_append]; rfl
    ·
     refine W_seq fun K15 hK15 => ?_
     refine wr ?_
     refine dm ?_
     refine D_callP rfl (by kernel_rfl) (indexByte_w specials c _) rfl RX.all (fun w9 x9 => ?_)
     replace hm := hm.ext x9
     replace ho := ho.ext x9
     replace hx := hx.ext x9
     refine dp (pv_geq rfl rfl) ?_
     refine da ?_
     refine D_end (hK15 _ _ ?_)
     refine W_if rfl (fun c5 => ?_) (fun c5 => ?_)
     ·
      refine W_seq fun K16 hK16 => ?_
      refine wr ?_
      iterate 2 refine da ?_
      refine D_end (hK16 _ _ ?_)
      refine W_ret ?_
      try dsimp only [then', inBlk, noGo]
      refine rt ?_
      have e : valueS (s.drop p) = none := by unfold valueS; rw [← hv, hdr, valL_bad h44 c3 (by rw [← in_special h44 c3]; exact (idx_in c _).1 c5)]
      exact ⟨_, rfl, hx, _, q + 1, by rw [e]; rfl, by omega, by omega, hm, by rw [e]; intro x r h; cases h⟩
     ·
      refine W_seq fun K17 hK17 => ?_
      refine wr ?_
      refine dm ?_
      refine dp (pv_eqlB (b := 32) rfl rfl) ?_
      refine da ?_
      refine D_end (hK17 _ _ ?_)
      refine W_if rfl (fun c6 => ?_) (fun c6 => ?_)
      ·
       refine wr ?_
       iterate 2 refine dm ?_
       refine D_lit (e := 5) (sz := 1) (zs := [.int .u8 0]) (pv := [(0, ?a42_0)]) (cs := [?a42_0]) rfl (by kernel_rfl) ⟨rfl, rfl⟩ (by kernel_rfl) rfl ?h42 ?f42 RX.all (fun b2 w10 e2 x10 m2 => ?k42)
       case h42 => refine ⟨rfl, ?_, trivial⟩ <;> (conv => lhs; whnf)
       case f42 => rfl
       have g2 : w.heap.size ≤ b2 := by have := hx.size; omega
       have a2_hm := hm.lt
       have o2_ho : ∀ k, Value.ownBlock _ = some k → k < b2 := fun k hk => by have := (ho.lt k hk).2; omega
       replace hm := hm.ext x10
       replace ho := ho.ext x10
       replace hx := hx.ext x10
       refine D_append (lx := [c]) (e := 5) (sz := 1) (by' := 1) rfl (by kernel_rfl) (by kernel_rfl) (by intro x; rfl) ho (m2.arr (enc := encB) (sz := 1) (l := [c]) rfl (by intro x; rfl) rfl (Nat.le_of_ble_eq_true rfl)) rfl rfl (by intro x _ u hu; simp at hu; rcases hu with rfl <;> rfl) (by simp; omega) (by decide) hx.size (.inl rfl) (fun vb2 w11 ho_n x11 => ?_)
       try replace hm := hm.mod x11 (by first | assumption | (intro h; have h1 := (ho.lt _ h).1; omega))
       replace hx := hx.own x11 (fun i hi hlt => (by have := (ho.lt i hi).1; omega))
       replace ho := ho_n
       clear m2
       refine da ?_
       refine D_end (?_)
       have hsp : inS c [43, 34, 60, 62, 59] = false := by rw [← in_special h44 c3]; exact Bool.eq_false_iff.2 (fun h => c5 ((idx_in c _).2 h))
       refine ⟨(q + 1, vb2, b ++ [c], k), ⟨rfl, rfl, rfl, trivial⟩, ⟨hx, hm, ho, by omega, by omega, by simp; omega, by simp; omega, ?_⟩, by simp only []; omega⟩
       rw [← hv, hdr, valL_byte h44 c3 hsp, if_pos c6]
      ·
       refine W_seq fun K18 hK18 => ?_
       refine wr ?_
       iterate 2 refine dm ?_
       refine D_lit (e := 5) (sz := 1) (zs := [.int .u8 0]) (pv := [(0, ?a46_0)]) (cs := [?a46_0]) rfl (by kernel_rfl) ⟨rfl, rfl⟩ (by kernel_rfl) rfl ?h46 ?f46 RX.all (fun b3 w12 e3 x12 m3 => ?k46)
       case h46 => refine ⟨rfl, ?_, trivial⟩ <;> (conv => lhs; whnf)
       case f46 => rfl
       have g3 : w.heap.size ≤ b3 := by have := hx.size; omega
       have a3_hm := hm.lt
       have o3_ho : ∀ k, Value.ownBlock _ = some k → k < b3 := fun k hk => by have := (ho.lt k hk).2; omega
       replace hm := hm.ext x12
       replace ho := ho.ext x12
       replace hx := hx.ext x12
       refine D_append (lx := [c]) (e := 5) (sz := 1) (by' := 1) rfl (by kernel_rfl) (by kernel_rfl) (by intro x; rfl) ho (m3.arr (enc := encB) (sz := 1) (l := [c]) rfl (by intro x; rfl) rfl (Nat.le_of_ble_eq_true rfl)) rfl rfl (by intro x _ u hu; simp at hu; rcases hu with rfl <;> rfl) (by simp; omega) (by decide) hx.size (.inl rfl) (fun vb2 w13 ho_n x13 => ?_)
       try replace hm := hm.mod x13 (by first | assumption | (intro h; have h1 := (ho.lt _ h).1; omega))
       replace hx := hx.own x13 (fun i hi hlt => (by have := (ho.lt i hi).1; omega))
       replace ho := ho_n
       clear m3
       refine da ?_
       refine D_end (hK18 _ _ ?_)
       refine wr ?_
       refine dm ?_
       refine dp (pv_lenV (e := 5) (k := 1) (by kernel_rfl) ho.sl rfl) ?_
       refine da ?_
       refine D_end (?_)
       have hsp : inS c [43, 34, 60, 62, 59] = false := by rw [← in_special h44 c3]; exact Bool.eq_false_iff.2 (fun h => c5 ((idx_in c _).2 h))
       refine ⟨(q + 1, vb2, b ++ [c], (b ++ [c]).length), ⟨rfl, rfl, rfl, trivial⟩, ⟨hx, hm, ho, by omega, by omega, Nat.le_refl _, by simp; omega, ?_⟩, by simp only []; omega⟩
       rw [← hv, hdr, valL_byte h44 c3 hsp, if_neg c6, List.length_append]; rfl
   ·
    have h44 : c = 44 := by rw [hk] at c2; simpa using c2
    refine W_exit ?_
    refine hK4 _ _ ?_
    refine W_seq fun K19 hK19 => ?_
    refine W_reg [.p, .p, .p, .l, .p, .p, .p, .p] rfl ?_
    iterate 2 refine dm ?_
    refine dp (pv_slV (e := 5) (k := 1) (by kernel_rfl) ho.sl rfl rfl rfl (Nat.zero_le _) hk1) ?_
    refine dq (lv_b2s (by kernel_rfl) (by kernel_rfl) ((ho.arr (by intro x; rfl)).slice (Nat.zero_le _) hk1) rfl) ?_
    refine dm ?_
    refine dp (pv_gtr rfl rfl) ?_
    iterate 2 refine da ?_
    refine D_end (hK19 _ _ ?_)
    refine W_ret ?_
    try dsimp only [then', inBlk, noGo]
    refine rt ?_
    have hvl : valL (s.drop q) b k = some (b, k, s.drop q) := by first | (rw [hdr, h44]; exact valL_comma ..) | (rw [List.drop_eq_nil_of_le (by omega)]; exact valL_nil ..)
    have e : valueS (s.drop p) = if 0 < k then some (b.take k, s.drop q) else none := by unfold valueS; rw [← hv, hvl]
    refine ⟨_, rfl, hx, b.take k, q, by rw [e]; by_cases h : 0 < k <;> simp [h], hq1, hq2, hm, ?_⟩
    rw [e]
    intro x r h
    split at h
    ·
     cases h; exact ⟨rfl, rfl⟩
    ·
     cases h
  ·
   iterate 3 refine dk ?_
   refine dk' ?_
   refine D_end (hK6 _ _ ?_)
   refine W_f rfl ?_
   refine W_exit ?_
   refine hK4 _ _ ?_
   refine W_seq fun K20 hK20 => ?_
   refine W_reg [.p, .p, .p, .l, .p, .p, .p, .p] rfl ?_
   iterate 2 refine dm ?_
   refine dp (pv_slV (e := 5) (k := 1) (by kernel_rfl) ho.sl rfl rfl rfl (Nat.zero_le _) hk1) ?_
   refine dq (lv_b2s (by kernel_rfl) (by kernel_rfl) ((ho.arr (by intro x; rfl)).slice (Nat.zero_le _) hk1) rfl) ?_
   refine dm ?_
   refine dp (pv_gtr rfl rfl) ?_
   iterate 2 refine da ?_
   refine D_end (hK20 _ _ ?_)
   refine W_ret ?_
   try dsimp only [then', inBlk, noGo]
   refine rt ?_
   have hvl : valL (s.drop q) b k = some (b, k, s.drop q) := by first | (rw [hdr, h44]; exact valL_comma ..) | (rw [List.drop_eq_nil_of_le (by omega)]; exact valL_nil ..)
   have e : valueS (s.drop p) = if 0 < k then some (b.take k, s.drop q) else none := by unfold valueS; rw [← hv, hvl]
   refine ⟨_, rfl, hx, b.take k, q, by rw [e]; by_cases h : 0 < k <;> simp [h], hq1, hq2, hm, ?_⟩
   rw [e]
   intro x r h
   split at h
   ·
    cases h; exact ⟨rfl, rfl⟩
   ·
    cases h

end Go.Proofs.YtdagdhjheibgnaaGreatDoor
