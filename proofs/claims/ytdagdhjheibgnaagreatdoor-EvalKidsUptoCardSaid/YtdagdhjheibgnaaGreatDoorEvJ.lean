/-
  Walks.
-/
import Derived.Test.YtdagdhjheibgnaaGreatDoorChecked
import Derived.Test.YtdagdhjheibgnaaGreatDoorSpMem
import Derived.KernelRfl
import Derived.Test.YtdagdhjheibgnaaGreatDoorVcQ
import Derived.Test.YtdagdhjheibgnaaGreatDoorDnA
import Derived.Test.YtdagdhjheibgnaaGreatDoorVcK
import Derived.Test.YtdagdhjheibgnaaGreatDoorScB
import Derived.Test.YtdagdhjheibgnaaGreatDoorIkA
import Derived.Test.YtdagdhjheibgnaaGreatDoorMaE
import Derived.Test.YtdagdhjheibgnaaGreatDoorMaD
namespace Go.Proofs.YtdagdhjheibgnaaGreatDoor
open Go.Vc Go.Sp
attribute [local irreducible] W XW Dw DwT
set_option linter.unusedVariables false
set_option linter.unusedSimpArgs false


def hasStep (m x : Int) : Int := bitsI .or .i64 m (IntKind.i64.wrap (1 * 2 ^ (min (bitsI .and .i64 x 3).toNat IntKind.i64.bits)))
def hasV (l : List Int) : Int := l.foldl hasStep 0
def mk3 (a b c : Bool) : Int := (if a = true then 1 else 0) + (if b = true then 2 else 0) + (if c = true then 4 else 0)
theorem step3 (a b c : Bool) {x : Int} (h : x = 0 ∨ x = 1 ∨ x = 2) : hasStep (mk3 a b c) x = mk3 (a || decide (x = 0)) (b || decide (x = 1)) (c || decide (x = 2)) := by
  rcases h with rfl | rfl | rfl <;> cases a <;> cases b <;> cases c <;> decide
theorem has_from : ∀ (l : List Int) (a b c : Bool), (∀ x ∈ l, x = 0 ∨ x = 1 ∨ x = 2) → l.foldl hasStep (mk3 a b c) = mk3 (a || l.any (fun x => decide (x = 0))) (b || l.any (fun x => decide (x = 1))) (c || l.any (fun x => decide (x = 2)))
  | [], a, b, c, _ => by simp
  | x :: l, a, b, c, h => by rw [List.foldl_cons, step3 a b c (h x List.mem_cons_self), has_from l _ _ _ (fun y hy => h y (List.mem_cons_of_mem _ hy))]; simp [List.any_cons, Bool.or_assoc]
theorem has_eq {l : List Int} (h : ∀ x ∈ l, x = 0 ∨ x = 1 ∨ x = 2) : hasV l = mk3 (l.any (fun x => decide (x = 0))) (l.any (fun x => decide (x = 1))) (l.any (fun x => decide (x = 2))) := by
  have := has_from l false false false h
  rw [show mk3 false false false = 0 from rfl] at this
  unfold hasV; rw [this]; simp
theorem has_next {l : List Int} {k : Nat} {x : Int} (h : l[k]? = some x) : hasV (l.take (k + 1)) = hasStep (hasV (l.take k)) x := by
  unfold hasV; rw [take_snocS h, List.foldl_append]; rfl
def andV (l : List Int) : Int := if l.any (fun x => decide (x = 0)) = true then 0 else if l.any (fun x => !decide (x = 1)) = true then 2 else 1
def orV (l : List Int) : Int := if l.any (fun x => decide (x = 1)) = true then 1 else if l.any (fun x => !decide (x = 0)) = true then 2 else 0
def notV (x : Int) : Int := if x = 1 then 0 else if x = 0 then 1 else 2
theorem ne1 : ∀ {l : List Int}, (∀ x ∈ l, x = 0 ∨ x = 1 ∨ x = 2) → l.any (fun x => !decide (x = 1)) = (l.any (fun x => decide (x = 0)) || l.any (fun x => decide (x = 2)))
  | [], _ => rfl
  | x :: l, h => by
    rw [List.any_cons, List.any_cons, List.any_cons, ne1 (fun y hy => h y (List.mem_cons_of_mem _ hy))]
    rcases h x List.mem_cons_self with rfl | rfl | rfl <;> simp
theorem ne0 : ∀ {l : List Int}, (∀ x ∈ l, x = 0 ∨ x = 1 ∨ x = 2) → l.any (fun x => !decide (x = 0)) = (l.any (fun x => decide (x = 1)) || l.any (fun x => decide (x = 2)))
  | [], _ => rfl
  | x :: l, h => by
    rw [List.any_cons, List.any_cons, List.any_cons, ne0 (fun y hy => h y (List.mem_cons_of_mem _ hy))]
    rcases h x List.mem_cons_self with rfl | rfl | rfl <;> simp
theorem m_bits : ∀ a b c : Bool, (bitsI .and .i64 ((mk3 a b c).fdiv (2 ^ (min (Int.toNat 0) IntKind.i64.bits))) 1 = if a = true then 1 else 0) ∧ (bitsI .and .i64 ((mk3 a b c).fdiv (2 ^ (min (Int.toNat 1) IntKind.i64.bits))) 1 = if b = true then 1 else 0)
    ∧ (bitsI .andNot .i64 (mk3 a b c) 2 = 0 ↔ (a || c) = false) ∧ (bitsI .andNot .i64 (mk3 a b c) 1 = 0 ↔ (b || c) = false) := by decide
section
variable {l : List Int} (h : ∀ x ∈ l, x = 0 ∨ x = 1 ∨ x = 2)
include h
theorem and_a (c : bitsI .and .i64 ((hasV l).fdiv (2 ^ (min (Int.toNat 0) IntKind.i64.bits))) 1 = 1) : andV l = 0 := by
  rw [has_eq h, (m_bits _ _ _).1] at c
  unfold andV; split at c
  · rw [if_pos (by assumption)]
  · cases c
theorem and_n (c : ¬ bitsI .and .i64 ((hasV l).fdiv (2 ^ (min (Int.toNat 0) IntKind.i64.bits))) 1 = 1) : ¬ l.any (fun x => decide (x = 0)) = true := fun e => by
  rw [has_eq h, (m_bits _ _ _).1, if_pos e] at c; exact c rfl
theorem and_b (c : ¬ bitsI .and .i64 ((hasV l).fdiv (2 ^ (min (Int.toNat 0) IntKind.i64.bits))) 1 = 1) (c2 : ¬ bitsI .andNot .i64 (hasV l) 2 = 0) : andV l = 2 := by
  rw [has_eq h, (m_bits _ _ _).2.2.1, ← ne1 h] at c2
  unfold andV; rw [if_neg (and_n h c), if_pos (by simpa using c2)]
theorem and_c (c : ¬ bitsI .and .i64 ((hasV l).fdiv (2 ^ (min (Int.toNat 0) IntKind.i64.bits))) 1 = 1) (c2 : bitsI .andNot .i64 (hasV l) 2 = 0) : andV l = 1 := by
  rw [has_eq h, (m_bits _ _ _).2.2.1, ← ne1 h] at c2
  unfold andV; rw [if_neg (and_n h c), if_neg (by rw [c2]; decide)]
theorem or_a (c : bitsI .and .i64 ((hasV l).fdiv (2 ^ (min (Int.toNat 1) IntKind.i64.bits))) 1 = 1) : orV l = 1 := by
  rw [has_eq h, (m_bits _ _ _).2.1] at c
  unfold orV; split at c
  · rw [if_pos (by assumption)]
  · cases c
theorem or_n (c : ¬ bitsI .and .i64 ((hasV l).fdiv (2 ^ (min (Int.toNat 1) IntKind.i64.bits))) 1 = 1) : ¬ l.any (fun x => decide (x = 1)) = true := fun e => by
  rw [has_eq h, (m_bits _ _ _).2.1, if_pos e] at c; exact c rfl
theorem or_b (c : ¬ bitsI .and .i64 ((hasV l).fdiv (2 ^ (min (Int.toNat 1) IntKind.i64.bits))) 1 = 1) (c2 : ¬ bitsI .andNot .i64 (hasV l) 1 = 0) : orV l = 2 := by
  rw [has_eq h, (m_bits _ _ _).2.2.2, ← ne0 h] at c2
  unfold orV; rw [if_neg (or_n h c), if_pos (by simpa using c2)]
theorem or_c (c : ¬ bitsI .and .i64 ((hasV l).fdiv (2 ^ (min (Int.toNat 1) IntKind.i64.bits))) 1 = 1) (c2 : bitsI .andNot .i64 (hasV l) 1 = 0) : orV l = 0 := by
  rw [has_eq h, (m_bits _ _ _).2.2.2, ← ne0 h] at c2
  unfold orV; rw [if_neg (or_n h c), if_neg (by rw [c2]; decide)]
end
theorem not_at1 (x : Int) : decide (notV x = 1) = decide (x = 0) := by
  unfold notV; split
  · rename_i h; subst h; rfl
  · split <;> simp [*]
theorem not_at0 (x : Int) : decide (notV x = 0) = decide (x = 1) := by
  unfold notV; split
  · simp [*]
  · split <;> simp [*]
theorem turned_and (l : List Int) : notV (andV l) = orV (l.map notV) := by
  unfold andV orV
  simp only [List.any_map, Function.comp_def, not_at1, not_at0]
  split
  · rfl
  · split <;> rfl
theorem turned_or (l : List Int) : notV (orV l) = andV (l.map notV) := by
  unfold andV orV
  simp only [List.any_map, Function.comp_def, not_at1, not_at0]
  split
  · rfl
  · split <;> rfl
theorem and10 (x : Int) : 0 ≤ bitsI .and .i64 x 1023 ∧ bitsI .and .i64 x 1023 ≤ 1023 := by
  have h : (BitVec.ofInt IntKind.i64.bits x &&& BitVec.ofInt IntKind.i64.bits 1023).toNat ≤ 1023 := by
    rw [BitVec.toNat_and]; exact Nat.and_le_right
  have e : bitsI .and .i64 x 1023 = ((BitVec.ofInt IntKind.i64.bits x &&& BitVec.ofInt IntKind.i64.bits 1023).toNat : Int) := wrap_i64 (by unfold inI64; omega)
  rw [e]; omega
def threeV (x : Int) : Int := bitsI .and .i64 x 1023 % 3
theorem three_in (x : Int) : threeV x = 0 ∨ threeV x = 1 ∨ threeV x = 2 := by
  have := and10 x
  unfold threeV; omega
theorem threes_in (l : List Int) : ∀ x ∈ l.map threeV, x = 0 ∨ x = 1 ∨ x = 2 := fun x hx => by
  obtain ⟨y, _, rfl⟩ := List.mem_map.1 hx
  exact three_in y
theorem not_in (x : Int) : notV x = 0 ∨ notV x = 1 ∨ notV x = 2 := by unfold notV; split <;> (try split) <;> simp
theorem nots_in (l : List Int) : ∀ x ∈ l.map notV, x = 0 ∨ x = 1 ∨ x = 2 := fun x hx => by
  obtain ⟨y, _, rfl⟩ := List.mem_map.1 hx
  exact not_in y
theorem any_nextI {l : List Int} {f : Int → Bool} {k : Nat} {x : Int} (h : l[k]? = some x) : (l.take (k + 1)).any f = ((l.take k).any f || f x) := by
  rw [take_snocS h, List.any_append]; simp
theorem any_atI {l : List Int} {f : Int → Bool} {k : Nat} {x : Int} (h : l[k]? = some x) (hf : f x = true) : l.any f = true := List.any_eq_true.2 ⟨x, List.mem_of_getElem? h, hf⟩
theorem bit_ok {x : Int} (h : x = 0 ∨ x = 1 ∨ x = 2) : 0 ≤ bitsI .and .i64 x 3 := by rcases h with rfl | rfl | rfl <;> decide

set_option maxRecDepth 100000 in
set_option maxHeartbeats 1000000 in
theorem has3_w (l : List Int) (v : Value) (w : World) (hv : Arr Vc.encI 1 w v l) (h3 : ∀ x ∈ l, x = 0 ∨ x = 1 ∨ x = 2) (hl : l.length ≤ 1000) :
  Calls Tryz.prog 68 [v].toArray w (Pure w (I (hasV l))) := by
 refine calls_W Tryz.func68 rfl rfl rfl (by kernel_rfl) ?_
 have hx := Ext.refl w
 refine W_seq fun K1 hK1 => ?_
 refine wr ?_
 refine da ?_
 refine D_end (hK1 _ _ ?_)
 refine W_seq fun K2 hK2 => ?_
 refine wr ?_
 refine da ?_
 refine D_end (hK2 _ _ ?_)
 refine W_seq fun K3 hK3 => ?_
 refine W_seq fun K4 hK4 => ?_
 refine wr ?_
 refine dm ?_
 refine dp (pv_lenV (e := 3) (k := 1) (by kernel_rfl) hv.sl rfl) ?_
 refine dm ?_
 refine D_end (hK4 _ _ ?_)
 refine W_block ?_
 refine W_loop (G := Nat) (fun k => [(2, I 0), (3, I (hasV (l.take k))), (6, v), (7, I ↑l.length), (8, I ↑k)]) (fun k w' => Ext w w' ∧ k ≤ l.length) (fun k => l.length - k) 0 ?_ ?_ ?_
 ·
  exact ⟨rfl, rfl, rfl, rfl, rfl, trivial⟩
 ·
  exact ⟨hx, Nat.zero_le _⟩
 ·
  intro X1 g1 w1 hF1
  revert hF1; revert g1; intro k hF1
  clear hx
  obtain ⟨hx, hk1⟩ := hF1
  refine W_seq fun K5 hK5 => ?_
  refine wr ?_
  refine dp (pv_lss rfl rfl) ?_
  refine D_end (hK5 _ _ ?_)
  refine W_seq fun K6 hK6 => ?_
  refine W_if rfl (fun c1 => ?_) (fun c1 => ?_)
  ·
   obtain ⟨x, hk⟩ : ∃ x, l[k]? = some x := ⟨_, List.getElem?_eq_getElem (by omega)⟩
   have hx3 := h3 x (List.mem_of_getElem? hk)
   refine W_skip ?_
   refine hK6 _ _ ?_
   refine W_seq fun K7 hK7 => ?_
   refine W_block ?_
   refine W_seq fun K8 hK8 => ?_
   refine wr ?_
   refine dp (pv_idxA (e := 3) (k := 1) (by kernel_rfl) hv.sl rfl rfl (hv.lt hk)) ?_
   refine dq (lv_load (by kernel_rfl) rfl (((hv.ext hx).row hk).at0 rfl)) ?_
   refine da ?_
   refine D_end (hK8 _ _ ?_)
   refine wr ?_
   iterate 2 refine dm ?_
   refine dp (pv_bits (by decide) rfl rfl) ?_
   refine dp (pv_shl rfl rfl (bit_ok hx3)) ?_
   refine dp (pv_bits (by decide) rfl rfl) ?_
   refine da ?_
   refine D_end (hK7 _ _ ?_)
   refine wr ?_
   refine dp (pv_add rfl rfl (by unfold inI64; omega)) ?_
   refine dm ?_
   refine D_end (?_)
   refine ⟨k + 1, ?_, ⟨hx, by omega⟩, by omega⟩
   rw [has_next hk]; exact ⟨rfl, rfl, rfl, rfl, rfl, trivial⟩
  ·
   refine W_exit ?_
   refine hK3 _ _ ?_
   refine W_seq fun K9 hK9 => ?_
   refine wr ?_
   refine dm ?_
   refine da ?_
   refine D_end (hK9 _ _ ?_)
   refine W_ret ?_
   try dsimp only [then', inBlk, noGo]
   refine ro ?_
   rw [show l.take k = l from List.take_of_length_le (by omega)]
   exact ⟨rfl, hx⟩

set_option maxRecDepth 100000 in
set_option maxHeartbeats 1000000 in
theorem and3_w (l : List Int) (v : Value) (w : World) (hv : Arr Vc.encI 1 w v l) (h3 : ∀ x ∈ l, x = 0 ∨ x = 1 ∨ x = 2) (hl : l.length ≤ 1000) :
  Calls Tryz.prog 33 [v].toArray w (Pure w (I (andV l))) := by
 refine calls_W Tryz.func33 rfl rfl rfl (by kernel_rfl) ?_
 have hx := Ext.refl w
 refine W_seq fun K1 hK1 => ?_
 refine wr ?_
 refine da ?_
 refine D_end (hK1 _ _ ?_)
 refine W_seq fun K2 hK2 => ?_
 refine W_seq fun K3 hK3 => ?_
 refine wr ?_
 refine dm ?_
 refine D_callP rfl (by kernel_rfl) (has3_w l v _ (hv.ext hx) h3 hl) rfl RX.all (fun w1 x1 => ?_)
 replace hx := hx.trans x1
 refine da ?_
 refine D_end (hK3 _ _ ?_)
 refine W_block ?_
 refine W_seq fun K4 hK4 => ?_
 refine wr ?_
 refine dm ?_
 refine dp (pv_shr rfl rfl (by decide)) ?_
 refine dp (pv_bits (by decide) rfl rfl) ?_
 refine dp (pv_eql rfl rfl) ?_
 refine da ?_
 refine D_end (hK4 _ _ ?_)
 refine W_if rfl (fun c1 => ?_) (fun c1 => ?_)
 ·
  refine W_seq fun K5 hK5 => ?_
  refine wr ?_
  refine da ?_
  refine D_end (hK5 _ _ ?_)
  refine W_ret ?_
  try dsimp only [then', inBlk, noGo]
  refine ro ?_
  exact ⟨by rw [and_a h3 c1], hx⟩
 ·
  refine W_seq fun K6 hK6 => ?_
  refine wr ?_
  refine dm ?_
  refine dp (pv_bits (by decide) rfl rfl) ?_
  refine dp (pv_neq rfl rfl) ?_
  refine da ?_
  refine D_end (hK6 _ _ ?_)
  refine W_if rfl (fun c2 => ?_) (fun c2 => ?_)
  ·
   refine W_seq fun K7 hK7 => ?_
   refine wr ?_
   refine da ?_
   refine D_end (hK7 _ _ ?_)
   refine W_ret ?_
   try dsimp only [then', inBlk, noGo]
   refine ro ?_
   exact ⟨by rw [and_b h3 c1 c2], hx⟩
  ·
   refine W_skip ?_
   refine hK2 _ _ ?_
   refine W_seq fun K8 hK8 => ?_
   refine wr ?_
   refine da ?_
   refine D_end (hK8 _ _ ?_)
   refine W_ret ?_
   try dsimp only [then', inBlk, noGo]
   refine ro ?_
   exact ⟨by rw [and_c h3 c1 (Decidable.not_not.1 c2)], hx⟩

set_option maxRecDepth 100000 in
set_option maxHeartbeats 1000000 in
theorem rand3_w (l : List Int) (v : Value) (w : World) (hv : Arr Vc.encI 1 w v l) (h3 : ∀ x ∈ l, x = 0 ∨ x = 1 ∨ x = 2) (hl : l.length ≤ 1000) :
  Calls Tryz.prog 38 [v].toArray w (Pure w (I (andV l))) := by
 refine calls_W Tryz.func38 rfl rfl rfl (by kernel_rfl) ?_
 have hx := Ext.refl w
 refine W_seq fun K1 hK1 => ?_
 refine wr ?_
 refine da ?_
 refine D_end (hK1 _ _ ?_)
 refine W_seq fun K2 hK2 => ?_
 refine wr ?_
 refine da ?_
 refine D_end (hK2 _ _ ?_)
 refine W_seq fun K3 hK3 => ?_
 refine W_seq fun K4 hK4 => ?_
 refine wr ?_
 refine da ?_
 refine D_end (hK4 _ _ ?_)
 refine W_block ?_
 refine W_loop (G := Nat × Int) (fun (k, o) => [(0, v), (3, I o), (4, I ↑k)]) (fun (k, o) w' => Ext w w' ∧ k ≤ l.length ∧ o = (if (l.take k).any (fun x => !decide (x = 1)) = true then 2 else 1) ∧ (l.take k).any (fun x => decide (x = 0)) = false) (fun (k, o) => l.length - k) (0, 1) ?_ ?_ ?_
 ·
  exact ⟨rfl, rfl, rfl, trivial⟩
 ·
  exact ⟨hx, Nat.zero_le _, rfl, rfl⟩
 ·
  intro X1 g1 w1 hF1
  obtain ⟨k, o⟩ := g1
  clear hx
  obtain ⟨hx, hk1, ho, hz⟩ := hF1
  refine W_seq fun K5 hK5 => ?_
  refine W_seq fun K6 hK6 => ?_
  refine wr ?_
  iterate 2 refine dm ?_
  refine dp (pv_lenV (e := 3) (k := 1) (by kernel_rfl) hv.sl rfl) ?_
  refine dp (pv_lss rfl rfl) ?_
  refine D_end (hK6 _ _ ?_)
  refine W_if rfl (fun c1 => ?_) (fun c1 => ?_)
  ·
   obtain ⟨x, hk⟩ : ∃ x, l[k]? = some x := ⟨_, List.getElem?_eq_getElem (by omega)⟩
   have hx3 := h3 x (List.mem_of_getElem? hk)
   refine W_skip ?_
   refine hK5 _ _ ?_
   refine W_seq fun K7 hK7 => ?_
   refine W_block ?_
   refine W_seq fun K8 hK8 => ?_
   refine W_seq fun K9 hK9 => ?_
   refine wr ?_
   iterate 2 refine dm ?_
   refine dp (pv_idxA (e := 3) (k := 1) (by kernel_rfl) hv.sl rfl rfl (hv.lt hk)) ?_
   refine dq (lv_load (by kernel_rfl) rfl (((hv.ext hx).row hk).at0 rfl)) ?_
   refine dp (pv_eql rfl rfl) ?_
   refine D_end (hK9 _ _ ?_)
   refine W_if rfl (fun c2 => ?_) (fun c2 => ?_)
   ·
    refine W_seq fun K10 hK10 => ?_
    refine wr ?_
    refine da ?_
    refine D_end (hK10 _ _ ?_)
    refine W_ret ?_
    try dsimp only [then', inBlk, noGo]
    refine ro ?_
    refine ⟨?_, hx⟩
    unfold andV; rw [if_pos (any_atI hk (decide_eq_true c2))]
   ·
    refine W_skip ?_
    refine hK8 _ _ ?_
    refine W_seq fun K11 hK11 => ?_
    refine wr ?_
    iterate 2 refine dm ?_
    refine dp (pv_idxA (e := 3) (k := 1) (by kernel_rfl) hv.sl rfl rfl (hv.lt hk)) ?_
    refine dq (lv_load (by kernel_rfl) rfl (((hv.ext hx).row hk).at0 rfl)) ?_
    refine dp (pv_neq rfl rfl) ?_
    refine D_end (hK11 _ _ ?_)
    refine W_if rfl (fun c3 => ?_) (fun c3 => ?_)
    ·
     refine wr ?_
     refine da ?_
     refine D_end (hK7 _ _ ?_)
     refine wr ?_
     refine dm ?_
     refine dp (pv_add rfl rfl (by unfold inI64; omega)) ?_
     refine da ?_
     refine D_end (?_)
     refine ⟨(k + 1, 2), ⟨rfl, rfl, rfl, trivial⟩, ⟨hx, by omega, ?_, ?_⟩, by simp only []; omega⟩
     ·
      rw [any_nextI hk, decide_eq_false c3]; simp
     ·
      rw [any_nextI hk, hz, decide_eq_false c2]; rfl
    ·
     refine W_skip ?_
     refine hK7 _ _ ?_
     refine wr ?_
     refine dm ?_
     refine dp (pv_add rfl rfl (by unfold inI64; omega)) ?_
     refine da ?_
     refine D_end (?_)
     refine ⟨(k + 1, o), ⟨rfl, rfl, rfl, trivial⟩, ⟨hx, by omega, ?_, ?_⟩, by simp only []; omega⟩
     ·
      rw [any_nextI hk, decide_eq_true (Decidable.not_not.1 c3), ho]; simp
     ·
      rw [any_nextI hk, hz, decide_eq_false c2]; rfl
  ·
   refine W_exit ?_
   refine hK3 _ _ ?_
   refine W_seq fun K12 hK12 => ?_
   refine wr ?_
   refine dm ?_
   refine da ?_
   refine D_end (hK12 _ _ ?_)
   refine W_ret ?_
   try dsimp only [then', inBlk, noGo]
   refine ro ?_
   rw [List.take_of_length_le (by omega)] at ho hz
   refine ⟨?_, hx⟩
   unfold andV; rw [if_neg (by rw [hz]; decide), ho]

set_option maxRecDepth 100000 in
set_option maxHeartbeats 1000000 in
theorem or3_w (l : List Int) (v : Value) (w : World) (hv : Arr Vc.encI 1 w v l) (h3 : ∀ x ∈ l, x = 0 ∨ x = 1 ∨ x = 2) (hl : l.length ≤ 1000) :
  Calls Tryz.prog 34 [v].toArray w (Pure w (I (orV l))) := by
 refine calls_W Tryz.func34 rfl rfl rfl (by kernel_rfl) ?_
 have hx := Ext.refl w
 refine W_seq fun K1 hK1 => ?_
 refine wr ?_
 refine da ?_
 refine D_end (hK1 _ _ ?_)
 refine W_seq fun K2 hK2 => ?_
 refine W_seq fun K3 hK3 => ?_
 refine wr ?_
 refine dm ?_
 refine D_callP rfl (by kernel_rfl) (has3_w l v _ (hv.ext hx) h3 hl) rfl RX.all (fun w1 x1 => ?_)
 replace hx := hx.trans x1
 refine da ?_
 refine D_end (hK3 _ _ ?_)
 refine W_block ?_
 refine W_seq fun K4 hK4 => ?_
 refine wr ?_
 refine dm ?_
 refine dp (pv_shr rfl rfl (by decide)) ?_
 refine dp (pv_bits (by decide) rfl rfl) ?_
 refine dp (pv_eql rfl rfl) ?_
 refine da ?_
 refine D_end (hK4 _ _ ?_)
 refine W_if rfl (fun c1 => ?_) (fun c1 => ?_)
 ·
  refine W_seq fun K5 hK5 => ?_
  refine wr ?_
  refine da ?_
  refine D_end (hK5 _ _ ?_)
  refine W_ret ?_
  try dsimp only [then', inBlk, noGo]
  refine ro ?_
  exact ⟨by rw [or_a h3 c1], hx⟩
 ·
  refine W_seq fun K6 hK6 => ?_
  refine wr ?_
  refine dm ?_
  refine dp (pv_bits (by decide) rfl rfl) ?_
  refine dp (pv_neq rfl rfl) ?_
  refine da ?_
  refine D_end (hK6 _ _ ?_)
  refine W_if rfl (fun c2 => ?_) (fun c2 => ?_)
  ·
   refine W_seq fun K7 hK7 => ?_
   refine wr ?_
   refine da ?_
   refine D_end (hK7 _ _ ?_)
   refine W_ret ?_
   try dsimp only [then', inBlk, noGo]
   refine ro ?_
   exact ⟨by rw [or_b h3 c1 c2], hx⟩
  ·
   refine W_skip ?_
   refine hK2 _ _ ?_
   refine W_seq fun K8 hK8 => ?_
   refine wr ?_
   refine da ?_
   refine D_end (hK8 _ _ ?_)
   refine W_ret ?_
   try dsimp only [then', inBlk, noGo]
   refine ro ?_
   exact ⟨by rw [or_c h3 c1 (Decidable.not_not.1 c2)], hx⟩

set_option maxRecDepth 100000 in
set_option maxHeartbeats 1000000 in
theorem ror3_w (l : List Int) (v : Value) (w : World) (hv : Arr Vc.encI 1 w v l) (h3 : ∀ x ∈ l, x = 0 ∨ x = 1 ∨ x = 2) (hl : l.length ≤ 1000) :
  Calls Tryz.prog 39 [v].toArray w (Pure w (I (orV l))) := by
 refine calls_W Tryz.func39 rfl rfl rfl (by kernel_rfl) ?_
 have hx := Ext.refl w
 refine W_seq fun K1 hK1 => ?_
 refine wr ?_
 refine da ?_
 refine D_end (hK1 _ _ ?_)
 refine W_seq fun K2 hK2 => ?_
 refine wr ?_
 refine da ?_
 refine D_end (hK2 _ _ ?_)
 refine W_seq fun K3 hK3 => ?_
 refine W_seq fun K4 hK4 => ?_
 refine wr ?_
 refine da ?_
 refine D_end (hK4 _ _ ?_)
 refine W_block ?_
 refine W_loop (G := Nat × Int) (fun (k, o) => [(0, v), (3, I o), (4, I ↑k)]) (fun (k, o) w' => Ext w w' ∧ k ≤ l.length ∧ o = (if (l.take k).any (fun x => !decide (x = 0)) = true then 2 else 0) ∧ (l.take k).any (fun x => decide (x = 1)) = false) (fun (k, o) => l.length - k) (0, 0) ?_ ?_ ?_
 ·
  exact ⟨rfl, rfl, rfl, trivial⟩
 ·
  exact ⟨hx, Nat.zero_le _, rfl, rfl⟩
 ·
  intro X1 g1 w1 hF1
  obtain ⟨k, o⟩ := g1
  clear hx
  obtain ⟨hx, hk1, ho, hz⟩ := hF1
  refine W_seq fun K5 hK5 => ?_
  refine W_seq fun K6 hK6 => ?_
  refine wr ?_
  iterate 2 refine dm ?_
  refine dp (pv_lenV (e := 3) (k := 1) (by kernel_rfl) hv.sl rfl) ?_
  refine dp (pv_lss rfl rfl) ?_
  refine D_end (hK6 _ _ ?_)
  refine W_if rfl (fun c1 => ?_) (fun c1 => ?_)
  ·
   obtain ⟨x, hk⟩ : ∃ x, l[k]? = some x := ⟨_, List.getElem?_eq_getElem (by omega)⟩
   have hx3 := h3 x (List.mem_of_getElem? hk)
   refine W_skip ?_
   refine hK5 _ _ ?_
   refine W_seq fun K7 hK7 => ?_
   refine W_block ?_
   refine W_seq fun K8 hK8 => ?_
   refine W_seq fun K9 hK9 => ?_
   refine wr ?_
   iterate 2 refine dm ?_
   refine dp (pv_idxA (e := 3) (k := 1) (by kernel_rfl) hv.sl rfl rfl (hv.lt hk)) ?_
   refine dq (lv_load (by kernel_rfl) rfl (((hv.ext hx).row hk).at0 rfl)) ?_
   refine dp (pv_eql rfl rfl) ?_
   refine D_end (hK9 _ _ ?_)
   refine W_if rfl (fun c2 => ?_) (fun c2 => ?_)
   ·
    refine W_seq fun K10 hK10 => ?_
    refine wr ?_
    refine da ?_
    refine D_end (hK10 _ _ ?_)
    refine W_ret ?_
    try dsimp only [then', inBlk, noGo]
    refine ro ?_
    refine ⟨?_, hx⟩
    unfold orV; rw [if_pos (any_atI hk (decide_eq_true c2))]
   ·
    refine W_skip ?_
    refine hK8 _ _ ?_
    refine W_seq fun K11 hK11 => ?_
    refine wr ?_
    iterate 2 refine dm ?_
    refine dp (pv_idxA (e := 3) (k := 1) (by kernel_rfl) hv.sl rfl rfl (hv.lt hk)) ?_
    refine dq (lv_load (by kernel_rfl) rfl (((hv.ext hx).row hk).at0 rfl)) ?_
    refine dp (pv_neq rfl rfl) ?_
    refine D_end (hK11 _ _ ?_)
    refine W_if rfl (fun c3 => ?_) (fun c3 => ?_)
    ·
     refine wr ?_
     refine da ?_
     refine D_end (hK7 _ _ ?_)
     refine wr ?_
     refine dm ?_
     refine dp (pv_add rfl rfl (by unfold inI64; omega)) ?_
     refine da ?_
     refine D_end (?_)
     refine ⟨(k + 1, 2), ⟨rfl, rfl, rfl, trivial⟩, ⟨hx, by omega, ?_, ?_⟩, by simp only []; omega⟩
     ·
      rw [any_nextI hk, decide_eq_false c3]; simp
     ·
      rw [any_nextI hk, hz, decide_eq_false c2]; rfl
    ·
     refine W_skip ?_
     refine hK7 _ _ ?_
     refine wr ?_
     refine dm ?_
     refine dp (pv_add rfl rfl (by unfold inI64; omega)) ?_
     refine da ?_
     refine D_end (?_)
     refine ⟨(k + 1, o), ⟨rfl, rfl, rfl, trivial⟩, ⟨hx, by omega, ?_, ?_⟩, by simp only []; omega⟩
     ·
      rw [any_nextI hk, decide_eq_true (Decidable.not_not.1 c3), ho]; simp
     ·
      rw [any_nextI hk, hz, decide_eq_false c2]; rfl
  ·
   refine W_exit ?_
   refine hK3 _ _ ?_
   refine W_seq fun K12 hK12 => ?_
   refine wr ?_
   refine dm ?_
   refine da ?_
   refine D_end (hK12 _ _ ?_)
   refine W_ret ?_
   try dsimp only [then', inBlk, noGo]
   refine ro ?_
   rw [List.take_of_length_le (by omega)] at ho hz
   refine ⟨?_, hx⟩
   unfold orV; rw [if_neg (by rw [hz]; decide), ho]

set_option maxRecDepth 100000 in
set_option maxHeartbeats 1000000 in
theorem not3_w (x : Int) (w : World) :
  Calls Tryz.prog 35 [I x].toArray w (Pure w (I (notV x))) := by
 refine calls_W Tryz.func35 rfl rfl rfl (by kernel_rfl) ?_
 have hx := Ext.refl w
 refine W_seq fun K1 hK1 => ?_
 refine wr ?_
 refine da ?_
 refine D_end (hK1 _ _ ?_)
 refine W_seq fun K2 hK2 => ?_
 refine W_seq fun K3 hK3 => ?_
 refine wr ?_
 refine dm ?_
 refine D_end (hK3 _ _ ?_)
 refine W_block ?_
 refine W_seq fun K4 hK4 => ?_
 refine wr ?_
 refine dp (pv_eql rfl rfl) ?_
 refine da ?_
 refine D_end (hK4 _ _ ?_)
 refine W_if rfl (fun c1 => ?_) (fun c1 => ?_)
 ·
  refine W_seq fun K5 hK5 => ?_
  refine wr ?_
  refine da ?_
  refine D_end (hK5 _ _ ?_)
  refine W_ret ?_
  try dsimp only [then', inBlk, noGo]
  refine ro ?_
  exact ⟨by unfold notV; rw [if_pos c1], hx⟩
 ·
  refine W_seq fun K6 hK6 => ?_
  refine wr ?_
  refine dp (pv_eql rfl rfl) ?_
  refine da ?_
  refine D_end (hK6 _ _ ?_)
  refine W_if rfl (fun c2 => ?_) (fun c2 => ?_)
  ·
   refine W_seq fun K7 hK7 => ?_
   refine wr ?_
   refine da ?_
   refine D_end (hK7 _ _ ?_)
   refine W_ret ?_
   try dsimp only [then', inBlk, noGo]
   refine ro ?_
   exact ⟨by unfold notV; rw [if_neg c1, if_pos c2], hx⟩
  ·
   refine W_skip ?_
   refine hK2 _ _ ?_
   refine W_seq fun K8 hK8 => ?_
   refine wr ?_
   refine da ?_
   refine D_end (hK8 _ _ ?_)
   refine W_ret ?_
   try dsimp only [then', inBlk, noGo]
   refine ro ?_
   exact ⟨by unfold notV; rw [if_neg c1, if_neg c2], hx⟩

set_option maxRecDepth 100000 in
set_option maxHeartbeats 1000000 in
theorem rnot3_w (x : Int) (w : World) :
  Calls Tryz.prog 40 [I x].toArray w (Pure w (I (notV x))) := by
 refine calls_W Tryz.func40 rfl rfl rfl (by kernel_rfl) ?_
 have hx := Ext.refl w
 refine W_seq fun K1 hK1 => ?_
 refine wr ?_
 refine da ?_
 refine D_end (hK1 _ _ ?_)
 refine W_seq fun K2 hK2 => ?_
 refine W_seq fun K3 hK3 => ?_
 refine wr ?_
 refine dm ?_
 refine D_end (hK3 _ _ ?_)
 refine W_block ?_
 refine W_seq fun K4 hK4 => ?_
 refine wr ?_
 refine dp (pv_eql rfl rfl) ?_
 refine da ?_
 refine D_end (hK4 _ _ ?_)
 refine W_if rfl (fun c1 => ?_) (fun c1 => ?_)
 ·
  refine W_seq fun K5 hK5 => ?_
  refine wr ?_
  refine da ?_
  refine D_end (hK5 _ _ ?_)
  refine W_ret ?_
  try dsimp only [then', inBlk, noGo]
  refine ro ?_
  exact ⟨by unfold notV; rw [if_pos c1], hx⟩
 ·
  refine W_seq fun K6 hK6 => ?_
  refine wr ?_
  refine dp (pv_eql rfl rfl) ?_
  refine da ?_
  refine D_end (hK6 _ _ ?_)
  refine W_if rfl (fun c2 => ?_) (fun c2 => ?_)
  ·
   refine W_seq fun K7 hK7 => ?_
   refine wr ?_
   refine da ?_
   refine D_end (hK7 _ _ ?_)
   refine W_ret ?_
   try dsimp only [then', inBlk, noGo]
   refine ro ?_
   exact ⟨by unfold notV; rw [if_neg c1, if_pos c2], hx⟩
  ·
   refine W_skip ?_
   refine hK2 _ _ ?_
   refine W_seq fun K8 hK8 => ?_
   refine wr ?_
   refine da ?_
   refine D_end (hK8 _ _ ?_)
   refine W_ret ?_
   try dsimp only [then', inBlk, noGo]
   refine ro ?_
   exact ⟨by unfold notV; rw [if_neg c1, if_neg c2], hx⟩

/-- A filter where it lies. -/
structure FilV where
  k : Value
  t : Value
  v : Value
  s : Value
  c : Value
@[reducible] def FilV.cs (f : FilV) : List Value := [f.k, f.t, f.v, f.s, f.c]

set_option maxRecDepth 100000 in
set_option maxHeartbeats 1000000 in
theorem itemU_w (kd : Int) (typ val : Str) (v3 v4 vv : Value) (w : World) (ht : typ.length ≤ 1000000) (hok : tOk typ = false) :
  Calls Tryz.prog 12 [.agg ⟨[I kd, S typ, S val, v3, v4]⟩, vv].toArray w (Pure w (I 2)) := by
 refine calls_W Tryz.func12 rfl rfl rfl (by kernel_rfl) ?_
 have hx := Ext.refl w
 refine W_seq fun K1 hK1 => ?_
 refine wr ?_
 refine D_box rfl rfl rfl RX.all (fun b1 w1 e1 x1 m1 => ?_)
 have g1 : w.heap.size ≤ b1 := by have := hx.size; omega
 replace hx := hx.trans x1
 refine da ?_
 refine D_end (hK1 _ _ ?_)
 refine W_seq fun K2 hK2 => ?_
 refine wr ?_
 refine dp (pv_fieldA (k := 1) (by kernel_rfl) rfl) ?_
 refine dq (lv_load (by kernel_rfl) rfl (m1.at rfl)) ?_
 refine D_callP rfl (by kernel_rfl) (typeT_w typ _ ht) rfl RX.all (fun w2 x2 => ?_)
 replace m1 := m1.ext x2
 replace hx := hx.trans x2
 refine dm ?_
 refine dp (pv_ext rfl rfl) ?_
 refine dp (pv_ext rfl rfl) ?_
 refine dp (pv_ext rfl rfl) ?_
 refine dp (pv_ext rfl rfl) ?_
 refine D_alloc (cs := [.int .i64 0]) rfl (by kernel_rfl) RX.all (fun b2 w3 e2 x3 m2 => ?_)
 have g2 : w.heap.size ≤ b2 := by have := hx.size; omega
 have n2_1 : b1 < b2 := by have := m1.lt; omega
 replace m1 := m1.ext x3
 replace hx := hx.trans x3
 refine da ?_
 refine D_store1 (v := ?v4) rfl rfl ?h4 ?n4 (by kernel_rfl) m2 ?o4 (.inl rfl) (fun w4 x4 xs4 m2 => ?k4)
 case h4 => conv => lhs; whnf
 case n4 => first | rfl | exact isSl.one m1.sl
 case o4 => exact Nat.le_of_ble_eq_true rfl
 try dsimp only [setAt, List.set, List.take, List.drop] at m2
 try replace m1 := m1.mod x4 (by first | assumption | (intro k hk h; have h1 := (m1.lt k hk).1; have h2 : k = b2 := h; omega) | (intro k hk h; have h1 := o2_m1 k hk; have h2 : k = b2 := h; omega) | (intro h; have h2 : _ = b2 := h; omega) | (intro hl h; have h1 := a2_m1 hl; have h2 : _ = b2 := h; omega))
 replace hx := hx.own x4 (by intro i hi; have hi2 : i = b2 := hi; subst hi2; omega)
 iterate 2 refine da ?_
 refine D_end (hK2 _ _ ?_)
 refine W_seq fun K3 hK3 => ?_
 refine W_seq fun K4 hK4 => ?_
 refine wr ?_
 refine dm ?_
 refine dn ?_
 refine D_end (hK4 _ _ ?_)
 refine W_cond rfl (fun c1 => ?_) (fun c1 => ?_)
 ·
  refine W_seq fun K5 hK5 => ?_
  refine wr ?_
  refine da ?_
  refine D_end (hK5 _ _ ?_)
  refine W_ret ?_
  try dsimp only [then', inBlk, noGo]
  refine ro ?_
  exact ⟨rfl, hx⟩
 ·
  simp [hok] at c1

set_option maxRecDepth 100000 in
set_option maxHeartbeats 1000000 in
theorem evalU_w (typ val : Str) (w : World) (ht : typ.length ≤ 1000000) (hok : tOk typ = false) :
  Calls Tryz.prog 16 [.agg ⟨[I 3, S typ, S val, .slice none 0 0, .slice none 0 0]⟩, .agg ⟨[.slice none 0 0, .slice none 0 0]⟩].toArray w (Pure w (I 2)) := by
 refine calls_W Tryz.func16 rfl rfl rfl (by kernel_rfl) ?_
 have hx := Ext.refl w
 refine W_seq fun K1 hK1 => ?_
 refine wr ?_
 refine D_box rfl rfl rfl RX.all (fun b1 w1 e1 x1 m1 => ?_)
 have g1 : w.heap.size ≤ b1 := by have := hx.size; omega
 replace hx := hx.trans x1
 refine D_box rfl rfl rfl RX.all (fun b2 w2 e2 x2 m2 => ?_)
 have g2 : w.heap.size ≤ b2 := by have := hx.size; omega
 have n2_1 : b1 < b2 := by have := m1.lt; omega
 replace m1 := m1.ext x2
 replace hx := hx.trans x2
 refine da ?_
 refine D_end (hK1 _ _ ?_)
 refine W_seq fun K2 hK2 => ?_
 refine wr ?_
 refine da ?_
 refine D_end (hK2 _ _ ?_)
 refine W_seq fun K3 hK3 => ?_
 refine W_seq fun K4 hK4 => ?_
 refine wr ?_
 refine dp (pv_fieldA (k := 4) (by kernel_rfl) rfl) ?_
 refine dq (lv_load (by kernel_rfl) rfl (m1.at rfl)) ?_
 refine dp (pv_lenV (e := 25) (k := 5) (by kernel_rfl) (Arr.nil (enc := FilV.cs) (sz := 5) (w := w)).sl rfl) ?_
 refine dm ?_
 refine D_end (hK4 _ _ ?_)
 refine W_block ?_
 refine W_loop (G := Unit) (fun uu => [(2, ptr b1 0), (3, ptr b2 0), (4, I 0), (12, .slice none 0 0), (13, I 0), (14, I 0)]) (fun uu w' => Ext w w' ∧ Blk w' b1 [I 3, S typ, S val, .slice none 0 0, .slice none 0 0] 25 ∧ Blk w' b2 [.slice none 0 0, .slice none 0 0] 29 ∧ True) (fun uu => 0) () ?_ ?_ ?_
 ·
  exact ⟨rfl, rfl, rfl, rfl, rfl, rfl, trivial⟩
 ·
  exact ⟨hx, m1, m2, trivial⟩
 ·
  intro X3 g3 w3 hF3
  revert hF3; revert g3; intro uu hF3
  clear hx m1 m2
  obtain ⟨hx, m1, m2, htr⟩ := hF3
  refine W_seq fun K5 hK5 => ?_
  refine wr ?_
  refine dp (pv_lss rfl rfl) ?_
  refine D_end (hK5 _ _ ?_)
  refine W_seq fun K6 hK6 => ?_
  refine W_if rfl (fun c1 => ?_) (fun c1 => ?_)
  ·
   exact absurd c1 (by decide)
  ·
   refine W_exit ?_
   refine hK3 _ _ ?_
   refine W_seq fun K7 hK7 => ?_
   refine W_seq fun K8 hK8 => ?_
   refine wr ?_
   refine dp (pv_fieldA (k := 0) (by kernel_rfl) rfl) ?_
   refine dq (lv_load (by kernel_rfl) rfl (m1.at rfl)) ?_
   refine D_end (hK8 _ _ ?_)
   refine W_block ?_
   refine W_seq fun K9 hK9 => ?_
   refine wr ?_
   refine dp (pv_eql rfl rfl) ?_
   refine da ?_
   refine D_end (hK9 _ _ ?_)
   refine W_if rfl (fun c2 => ?_) (fun c2 => ?_)
   ·
    exact absurd c2 (by decide)
   ·
    refine W_seq fun K10 hK10 => ?_
    refine wr ?_
    refine dp (pv_eql rfl rfl) ?_
    refine da ?_
    refine D_end (hK10 _ _ ?_)
    refine W_if rfl (fun c3 => ?_) (fun c3 => ?_)
    ·
     exact absurd c3 (by decide)
    ·
     refine W_seq fun K11 hK11 => ?_
     refine wr ?_
     refine dp (pv_eql rfl rfl) ?_
     refine da ?_
     refine D_end (hK11 _ _ ?_)
     refine W_if rfl (fun c4 => ?_) (fun c4 => ?_)
     ·
      exact absurd c4 (by decide)
     ·
      refine W_skip ?_
      refine hK7 _ _ ?_
      refine W_seq fun K12 hK12 => ?_
      refine wr ?_
      refine da ?_
      refine D_end (hK12 _ _ ?_)
      refine W_seq fun K13 hK13 => ?_
      refine W_seq fun K14 hK14 => ?_
      refine wr ?_
      refine dp (pv_fieldA (k := 1) (by kernel_rfl) rfl) ?_
      refine dq (lv_load (by kernel_rfl) rfl (m2.at rfl)) ?_
      refine dp (pv_lenV (e := 36) (k := 2) (by kernel_rfl) (Arr.nil (enc := AttrV.cs) (sz := 2) (w := w)).sl rfl) ?_
      refine dm ?_
      refine D_end (hK14 _ _ ?_)
      refine W_block ?_
      refine W_loop (G := Unit) (fun uu => [(2, ptr b1 0), (4, I 0), (42, .slice none 0 0), (43, I 0), (44, I 0)]) (fun uu w' => Ext w w' ∧ Blk w' b1 [I 3, S typ, S val, .slice none 0 0, .slice none 0 0] 25 ∧ Blk w' b2 [.slice none 0 0, .slice none 0 0] 29 ∧ True) (fun uu => 0) () ?_ ?_ ?_
      ·
       exact ⟨rfl, rfl, rfl, rfl, rfl, trivial⟩
      ·
       exact ⟨hx, m1, m2, trivial⟩
      ·
       intro X4 g4 w4 hF4
       revert hF4; revert g4; intro uu hF4
       clear hx m1 m2
       obtain ⟨hx, m1, m2, htr⟩ := hF4
       refine W_seq fun K15 hK15 => ?_
       refine wr ?_
       refine dp (pv_lss rfl rfl) ?_
       refine D_end (hK15 _ _ ?_)
       refine W_seq fun K16 hK16 => ?_
       refine W_if rfl (fun c5 => ?_) (fun c5 => ?_)
       ·
        exact absurd c5 (by decide)
       ·
        refine W_exit ?_
        refine hK13 _ _ ?_
        refine W_seq fun K17 hK17 => ?_
        refine wr ?_
        refine dq (lv_loadA (k := 5) (by kernel_rfl) rfl rfl m1.row) ?_
        refine dm ?_
        refine D_callP rfl (by kernel_rfl) (itemU_w 3 typ val _ _ _ _ ht hok) rfl RX.all (fun w5 x5 => ?_)
        replace m1 := m1.ext x5
        replace m2 := m2.ext x5
        replace hx := hx.trans x5
        refine da ?_
        refine D_end (hK17 _ _ ?_)
        refine W_ret ?_
        try dsimp only [then', inBlk, noGo]
        refine ro ?_
        exact ⟨rfl, hx⟩

set_option maxRecDepth 100000 in
set_option maxHeartbeats 1000000 in
theorem evalN_w (typ val : Str) (vk : Value) (w : World) (hk0 : Arr FilV.cs 5 w vk [(⟨I 3, S typ, S val, .slice none 0 0, .slice none 0 0⟩ : FilV)]) (ht : typ.length ≤ 1000000) (hok : tOk typ = false) :
  Calls Tryz.prog 16 [.agg ⟨[I 2, S [], S [], .slice none 0 0, vk]⟩, .agg ⟨[.slice none 0 0, .slice none 0 0]⟩].toArray w (Pure w (I 2)) := by
 refine calls_W Tryz.func16 rfl rfl rfl (by kernel_rfl) ?_
 have hx := Ext.refl w
 refine W_seq fun K1 hK1 => ?_
 refine wr ?_
 refine D_box rfl rfl rfl RX.all (fun b1 w1 e1 x1 m1 => ?_)
 have g1 : w.heap.size ≤ b1 := by have := hx.size; omega
 replace hx := hx.trans x1
 refine D_box rfl rfl rfl RX.all (fun b2 w2 e2 x2 m2 => ?_)
 have g2 : w.heap.size ≤ b2 := by have := hx.size; omega
 have n2_1 : b1 < b2 := by have := m1.lt; omega
 replace m1 := m1.ext x2
 replace hx := hx.trans x2
 refine da ?_
 refine D_end (hK1 _ _ ?_)
 refine W_seq fun K2 hK2 => ?_
 refine wr ?_
 refine da ?_
 refine D_end (hK2 _ _ ?_)
 refine W_seq fun K3 hK3 => ?_
 refine W_seq fun K4 hK4 => ?_
 refine wr ?_
 refine dp (pv_fieldA (k := 4) (by kernel_rfl) rfl) ?_
 refine dq (lv_load (by kernel_rfl) rfl (m1.at rfl)) ?_
 refine dp (pv_lenV (e := 25) (k := 5) (by kernel_rfl) hk0.sl rfl) ?_
 refine dm ?_
 refine D_end (hK4 _ _ ?_)
 refine W_block ?_
 refine W_loop (G := Nat × Value) (fun (k, vl) => [(2, ptr b1 0), (3, ptr b2 0), (4, I 0), (5, vl), (12, vk), (13, I ↑1), (14, I ↑k)]) (fun (k, vl) w' => Ext w w' ∧ Blk w' b1 [I 2, S [], S [], .slice none 0 0, vk] 25 ∧ Blk w' b2 [.slice none 0 0, .slice none 0 0] 29 ∧ k ≤ 1 ∧ Vc.Own Vc.encI 1 3 w.heap.size w' vl (List.replicate k 2)) (fun (k, vl) => 1 - k) (0, .slice none 0 0) ?_ ?_ ?_
 ·
  exact ⟨rfl, rfl, rfl, rfl, rfl, rfl, rfl, trivial⟩
 ·
  exact ⟨hx, m1, m2, Nat.zero_le _, Vc.Own.nil⟩
 ·
  intro X3 g3 w3 hF3
  obtain ⟨k, vl⟩ := g3
  clear hx m1 m2
  obtain ⟨hx, m1, m2, hk1, ho⟩ := hF3
  refine W_seq fun K5 hK5 => ?_
  refine wr ?_
  refine dp (pv_lss rfl rfl) ?_
  refine D_end (hK5 _ _ ?_)
  refine W_seq fun K6 hK6 => ?_
  refine W_if rfl (fun c1 => ?_) (fun c1 => ?_)
  ·
   have hk : [(⟨I 3, S typ, S val, .slice none 0 0, .slice none 0 0⟩ : FilV)][k]? = some (⟨I 3, S typ, S val, .slice none 0 0, .slice none 0 0⟩ : FilV) := by
    have e : k = 0 := by omega
    subst e; rfl
   refine W_skip ?_
   refine hK6 _ _ ?_
   refine W_seq fun K7 hK7 => ?_
   refine W_block ?_
   refine W_seq fun K8 hK8 => ?_
   refine wr ?_
   refine dp (pv_idxA (e := 25) (k := 5) (by kernel_rfl) hk0.sl rfl rfl (hk0.lt hk)) ?_
   refine dq (lv_loadA (by kernel_rfl) rfl rfl ((hk0.ext hx).row hk)) ?_
   refine D_alloc (cs := [.int .i64 0, S [], S [], .slice none 0 0, .slice none 0 0]) rfl (by kernel_rfl) RX.all (fun b3 w4 e3 x4 m3 => ?_)
   have g3 : w.heap.size ≤ b3 := by have := hx.size; omega
   have n3_1 : b1 < b3 := by have := m1.lt; omega
   have n3_2 : b2 < b3 := by have := m2.lt; omega
   have o3_ho : ∀ k, Value.ownBlock _ = some k → k < b3 := fun k hk => by have := (ho.lt k hk).2; omega
   replace m1 := m1.ext x4
   replace m2 := m2.ext x4
   replace ho := ho.ext x4
   replace hx := hx.trans x4
   refine D_store (v := ?v4) (vs := ?u4) rfl rfl ?h4 ?c4 ?s4 m3 ?o4 ?n4 (.inl rfl) (fun w5 x5 xs5 m3 => ?k4)
   case h4 => conv => lhs; whnf
   case c4 => exact rfl
   case s4 => kernel_rfl
   case o4 => exact Nat.le_of_ble_eq_true rfl
   case n4 => simp [Value.oneCell']
   try dsimp only [setAt, List.set, List.take, List.drop] at m3
   try replace m1 := m1.mod x5 (by first | assumption | (intro k hk h; have h1 := (m1.lt k hk).1; have h2 : k = b3 := h; omega) | (intro k hk h; have h1 := o3_m1 k hk; have h2 : k = b3 := h; omega) | (intro h; have h2 : _ = b3 := h; omega) | (intro hl h; have h1 := a3_m1 hl; have h2 : _ = b3 := h; omega))
   try replace m2 := m2.mod x5 (by first | assumption | (intro k hk h; have h1 := (m2.lt k hk).1; have h2 : k = b3 := h; omega) | (intro k hk h; have h1 := o3_m2 k hk; have h2 : k = b3 := h; omega) | (intro h; have h2 : _ = b3 := h; omega) | (intro hl h; have h1 := a3_m2 hl; have h2 : _ = b3 := h; omega))
   try replace ho := ho.mod x5 (by first | assumption | (intro k hk h; have h1 := (ho.lt k hk).1; have h2 : k = b3 := h; omega) | (intro k hk h; have h1 := o3_ho k hk; have h2 : k = b3 := h; omega) | (intro h; have h2 : _ = b3 := h; omega) | (intro hl h; have h1 := a3_ho hl; have h2 : _ = b3 := h; omega))
   replace hx := hx.own x5 (by intro i hi; have hi2 : i = b3 := hi; subst hi2; omega)
   refine D_end (hK8 _ _ ?_)
   refine wr ?_
   refine dm ?_
   refine dq (lv_loadA (k := 5) (by kernel_rfl) rfl rfl m3.row) ?_
   refine dq (lv_loadA (k := 2) (by kernel_rfl) rfl rfl m2.row) ?_
   refine D_callP rfl (by kernel_rfl) (evalU_w typ val _ ht hok) rfl RX.all (fun w6 x6 => ?_)
   replace m1 := m1.ext x6
   replace m2 := m2.ext x6
   replace ho := ho.ext x6
   replace m3 := m3.ext x6
   replace hx := hx.trans x6
   refine D_lit (e := 3) (sz := 1) (zs := [.int .i64 0]) (pv := [(0, ?a6_0)]) (cs := [?a6_0]) rfl (by kernel_rfl) ⟨rfl, rfl⟩ (by kernel_rfl) rfl ?h6 ?f6 RX.all (fun b4 w7 e4 x7 m4 => ?k6)
   case h6 => refine ⟨rfl, ?_, trivial⟩ <;> (conv => lhs; whnf)
   case f6 => rfl
   have g4 : w.heap.size ≤ b4 := by have := hx.size; omega
   have n4_1 : b1 < b4 := by have := m1.lt; omega
   have n4_2 : b2 < b4 := by have := m2.lt; omega
   have n4_3 : b3 < b4 := by have := m3.lt; omega
   have o4_ho : ∀ k, Value.ownBlock _ = some k → k < b4 := fun k hk => by have := (ho.lt k hk).2; omega
   replace m1 := m1.ext x7
   replace m2 := m2.ext x7
   replace ho := ho.ext x7
   replace m3 := m3.ext x7
   replace hx := hx.trans x7
   refine D_append (lx := [2]) (e := 3) (sz := 1) (by' := 8) rfl (by kernel_rfl) (by kernel_rfl) (by intro x; rfl) ho (m4.arr (enc := Vc.encI) (sz := 1) (l := [2]) rfl (by intro x; rfl) rfl (Nat.le_of_ble_eq_true rfl)) rfl rfl (by intro x _ u hu; simp at hu; rcases hu with rfl <;> rfl) (by simp; omega) (by decide) hx.size (.inl rfl) (fun vl2 w8 ho_n x8 => ?_)
   try replace m1 := m1.mod x8 (by first | (intro h; have h2 : b1 = b1 := Option.some.inj h; omega) | (intro h; have h1 := (ho.lt _ h).1; omega) | (intro h; have h1 := o1_ho _ h; omega) | (intro h; exact ho.ne_blk m1 rfl h))
   try replace m2 := m2.mod x8 (by first | (intro h; have h2 : b2 = b2 := Option.some.inj h; omega) | (intro h; have h1 := (ho.lt _ h).1; omega) | (intro h; have h1 := o2_ho _ h; omega) | (intro h; exact ho.ne_blk m2 rfl h))
   try replace m3 := m3.mod x8 (by first | (intro h; have h2 : b3 = b3 := Option.some.inj h; omega) | (intro h; have h1 := (ho.lt _ h).1; omega) | (intro h; have h1 := o3_ho _ h; omega) | (intro h; exact ho.ne_blk m3 rfl h))
   replace hx := hx.own x8 (fun i hi => (ho.lt i hi).1)
   replace ho := ho_n
   clear m4
   refine da ?_
   refine D_end (hK7 _ _ ?_)
   refine wr ?_
   refine dp (pv_add rfl rfl (by unfold inI64; omega)) ?_
   refine dm ?_
   refine D_end (?_)
   refine ⟨(k + 1, vl2), ⟨rfl, rfl, rfl, rfl, rfl, rfl, rfl, trivial⟩, ⟨hx, m1, m2, by omega, ?_⟩, by simp only []; omega⟩
   rw [List.replicate_succ']; exact ho
  ·
   have e1 : k = 1 := by omega
   subst e1
   refine W_exit ?_
   refine hK3 _ _ ?_
   refine W_seq fun K9 hK9 => ?_
   refine W_seq fun K10 hK10 => ?_
   refine wr ?_
   refine dp (pv_fieldA (k := 0) (by kernel_rfl) rfl) ?_
   refine dq (lv_load (by kernel_rfl) rfl (m1.at rfl)) ?_
   refine D_end (hK10 _ _ ?_)
   refine W_block ?_
   refine W_seq fun K11 hK11 => ?_
   refine wr ?_
   refine dp (pv_eql rfl rfl) ?_
   refine da ?_
   refine D_end (hK11 _ _ ?_)
   refine W_if rfl (fun c2 => ?_) (fun c2 => ?_)
   ·
    exact absurd c2 (by decide)
   ·
    refine W_seq fun K12 hK12 => ?_
    refine wr ?_
    refine dp (pv_eql rfl rfl) ?_
    refine da ?_
    refine D_end (hK12 _ _ ?_)
    refine W_if rfl (fun c3 => ?_) (fun c3 => ?_)
    ·
     exact absurd c3 (by decide)
    ·
     refine W_seq fun K13 hK13 => ?_
     refine wr ?_
     refine dp (pv_eql rfl rfl) ?_
     refine da ?_
     refine D_end (hK13 _ _ ?_)
     refine W_if rfl (fun c4 => ?_) (fun c4 => ?_)
     ·
      refine W_seq fun K14 hK14 => ?_
      refine wr ?_
      refine dm ?_
      refine dp (pv_idxA (i := 0) (e := 3) (k := 1) (by kernel_rfl) (ho.arr (by intro x; rfl)).sl rfl rfl (by simp)) ?_
      refine dq (lv_load (by kernel_rfl) rfl (((ho.arr (by intro x; rfl)).row (show (List.replicate 1 (2 : Int))[0]? = some 2 from rfl)).at0 rfl)) ?_
      refine D_callP rfl (by kernel_rfl) (not3_w 2 _) rfl RX.all (fun w9 x9 => ?_)
      replace m1 := m1.ext x9
      replace m2 := m2.ext x9
      replace ho := ho.ext x9
      replace hx := hx.trans x9
      refine da ?_
      refine D_end (hK14 _ _ ?_)
      refine W_ret ?_
      try dsimp only [then', inBlk, noGo]
      refine ro ?_
      exact ⟨rfl, hx⟩
     ·
      exact absurd rfl c4

set_option maxRecDepth 100000 in
set_option maxHeartbeats 1000000 in
theorem indexF0_w (f : Value) (w : World) :
  Calls Tryz.prog 97 [.slice none 0 0, f].toArray w (Pure w (I (-1))) := by
 refine calls_W Tryz.func97 rfl rfl rfl (by kernel_rfl) ?_
 have hx := Ext.refl w
 refine W_seq fun K1 hK1 => ?_
 refine wr ?_
 refine da ?_
 refine D_end (hK1 _ _ ?_)
 refine W_seq fun K2 hK2 => ?_
 refine W_seq fun K3 hK3 => ?_
 refine wr ?_
 refine dm ?_
 refine dp (pv_lenV (e := 25) (k := 5) (by kernel_rfl) (Arr.nil (enc := FilV.cs) (sz := 5) (w := w)).sl rfl) ?_
 refine dm ?_
 refine D_end (hK3 _ _ ?_)
 refine W_block ?_
 refine W_loop (G := Unit) (fun uu => [(0, .slice none 0 0), (1, f), (7, I 0), (8, I 0)]) (fun uu w' => Ext w w' ∧ True) (fun uu => 0) () ?_ ?_ ?_
 ·
  exact ⟨rfl, rfl, rfl, rfl, trivial⟩
 ·
  exact ⟨hx, trivial⟩
 ·
  intro X1 g1 w1 hF1
  revert hF1; revert g1; intro uu hF1
  clear hx
  obtain ⟨hx, htr⟩ := hF1
  refine W_seq fun K4 hK4 => ?_
  refine wr ?_
  refine dp (pv_lss rfl rfl) ?_
  refine D_end (hK4 _ _ ?_)
  refine W_seq fun K5 hK5 => ?_
  refine W_if rfl (fun c1 => ?_) (fun c1 => ?_)
  ·
   exact absurd c1 (by decide)
  ·
   refine W_exit ?_
   refine hK2 _ _ ?_
   refine W_seq fun K6 hK6 => ?_
   refine wr ?_
   refine da ?_
   refine D_end (hK6 _ _ ?_)
   refine W_ret ?_
   try dsimp only [then', inBlk, noGo]
   refine ro ?_
   exact ⟨rfl, hx⟩

set_option maxRecDepth 100000 in
set_option maxHeartbeats 1000000 in
theorem contF0_w (f : Value) (w : World) :
  Calls Tryz.prog 66 [.slice none 0 0, f].toArray w (Pure w (B false)) := by
 refine calls_W Tryz.func66 rfl rfl rfl (by kernel_rfl) ?_
 have hx := Ext.refl w
 refine W_seq fun K1 hK1 => ?_
 refine wr ?_
 refine da ?_
 refine D_end (hK1 _ _ ?_)
 refine W_seq fun K2 hK2 => ?_
 refine wr ?_
 iterate 2 refine dm ?_
 refine D_callP rfl (by kernel_rfl) (indexF0_w f _) rfl RX.all (fun w1 x1 => ?_)
 replace hx := hx.trans x1
 refine dp (pv_geq rfl rfl) ?_
 refine da ?_
 refine D_end (hK2 _ _ ?_)
 refine W_ret ?_
 try dsimp only [then', inBlk, noGo]
 refine ro ?_
 exact ⟨rfl, hx⟩

set_option maxRecDepth 100000 in
set_option maxHeartbeats 1000000 in
theorem mayU_w (typ val : Str) (n m : Int) (bl : Nat) (w : World) (hL : Blk w bl [I m] 3) (ht : typ.length ≤ 1000000) (htt : typeS typ = true) (hvl : val.length ≤ 256) (hn : n < 16) (hm : 1 ≤ m) (hm2 : m ≤ 1000) :
  Calls Tryz.prog 32 [.agg ⟨[I 3, S typ, S val, .slice none 0 0, .slice none 0 0]⟩, I n, ptr bl 0].toArray w (Does (oneB bl) w (fun u w' => u = B true ∧ Blk w' bl [I (m - 1)] 3)) := by
 refine calls_W Tryz.func32 rfl rfl rfl (by kernel_rfl) ?_
 have hx := Ext.refl w
 have hbl := hL.lt
 refine W_seq fun K1 hK1 => ?_
 refine wr ?_
 refine D_box rfl rfl rfl RX.all (fun b1 w1 e1 x1 m1 => ?_)
 have g1 : w.heap.size ≤ b1 := by have := hx.size; omega
 replace hx := hx.trans x1
 refine D_box rfl rfl rfl RX.all (fun b2 w2 e2 x2 m2 => ?_)
 have g2 : w.heap.size ≤ b2 := by have := hx.size; omega
 have n2_1 : b1 < b2 := by have := m1.lt; omega
 replace m1 := m1.ext x2
 replace hx := hx.trans x2
 refine D_box rfl rfl rfl RX.all (fun b3 w3 e3 x3 m3 => ?_)
 have g3 : w.heap.size ≤ b3 := by have := hx.size; omega
 have n3_1 : b1 < b3 := by have := m1.lt; omega
 have n3_2 : b2 < b3 := by have := m2.lt; omega
 replace m1 := m1.ext x3
 replace m2 := m2.ext x3
 replace hx := hx.trans x3
 refine da ?_
 refine D_end (hK1 _ _ ?_)
 refine W_seq fun K2 hK2 => ?_
 refine W_seq fun K3 hK3 => ?_
 refine wr ?_
 refine dq (lv_load (by kernel_rfl) rfl (m3.at rfl)) ?_
 refine dp (pv_nilP rfl) ?_
 refine dq (lv_load (by kernel_rfl) rfl ((hL.ext hx).at rfl)) ?_
 refine dp (pv_sub rfl rfl (by unfold inI64; omega)) ?_
 refine dp (pv_nilP rfl) ?_
 refine D_store1 (v := ?v2) rfl rfl ?h2 ?n2 (by kernel_rfl) (hL.ext hx) ?o2 (.inl rfl) (fun w4 x4 xs4 hL => ?k2)
 case h2 => conv => lhs; whnf
 case n2 => first | rfl | exact isSl.one m1.sl | exact isSl.one m2.sl | exact isSl.one m3.sl | exact isSl.one (Arr.nil (enc := sEnc) (sz := 1) (w := w)).sl | exact isSl.one (Arr.nil (enc := FilV.cs) (sz := 5) (w := w)).sl
 case o2 => exact Nat.le_of_ble_eq_true rfl
 try dsimp only [setAt, List.set, List.take, List.drop] at hL
 try replace m1 := m1.mod x4 (by first | assumption | (intro k hk h; have h1 := (m1.lt k hk).1; have h2 : k = bl := h; omega) | (intro k hk h; have h1 := ol_m1 k hk; have h2 : k = bl := h; omega) | (intro h; have h2 : _ = bl := h; omega) | (intro hl h; have h1 := al_m1 hl; have h2 : _ = bl := h; omega))
 try replace m2 := m2.mod x4 (by first | assumption | (intro k hk h; have h1 := (m2.lt k hk).1; have h2 : k = bl := h; omega) | (intro k hk h; have h1 := ol_m2 k hk; have h2 : k = bl := h; omega) | (intro h; have h2 : _ = bl := h; omega) | (intro hl h; have h1 := al_m2 hl; have h2 : _ = bl := h; omega))
 try replace m3 := m3.mod x4 (by first | assumption | (intro k hk h; have h1 := (m3.lt k hk).1; have h2 : k = bl := h; omega) | (intro k hk h; have h1 := ol_m3 k hk; have h2 : k = bl := h; omega) | (intro h; have h2 : _ = bl := h; omega) | (intro hl h; have h1 := al_m3 hl; have h2 : _ = bl := h; omega))
 replace hx := (hx.mod x4).mono (fun i hi _ => (hi : (oneB bl) i))
 refine D_end (hK3 _ _ ?_)
 refine W_seq fun K4 hK4 => ?_
 refine wr ?_
 refine dq (lv_load (by kernel_rfl) rfl (m3.at rfl)) ?_
 refine dp (pv_nilP rfl) ?_
 refine dq (lv_load (by kernel_rfl) rfl (hL.at rfl)) ?_
 refine dp (pv_lss rfl rfl) ?_
 refine dm ?_
 refine D_splitP 20 rfl (fun c1 => ?_) (fun c1 => ?_)
 ·
  omega
 ·
  refine dq (lv_load (by kernel_rfl) rfl (m2.at rfl)) ?_
  refine dp (pv_geq rfl rfl) ?_
  refine dk' ?_
  refine D_end (hK4 _ _ ?_)
  refine W_if rfl (fun c2 => ?_) (fun c2 => ?_)
  ·
   omega
  ·
   refine W_skip ?_
   refine hK2 _ _ ?_
   refine W_seq fun K5 hK5 => ?_
   refine W_draw (R := Ext) Ext.refl (fun _ _ _ => Ext.trans) (by kernel_rfl) [1, 4, 7, 11] [(0, .p, false), (1, .l, false), (3, .p, false), (4, .l, false), (5, .p, false), (6, .p, false), (7, .l, false), (8, .p, false), (9, .p, false), (10, .p, false), (11, .l, false), (12, .p, false), (13, .p, false), (2, .x, false), (14, .p, false), (15, .p, false), (16, .p, false), (17, .p, false)] rfl (by kernel_rfl) (by kernel_rfl) (fun w5 ew5 => ?_)
   have x5 : Ext w4 w5 := by rw [ew5]; exact Ext.drew _
   clear ew5
   replace m1 := m1.ext x5
   replace m2 := m2.ext x5
   replace m3 := m3.ext x5
   replace hL := hL.ext x5
   replace hx := hx.ext x5
   refine dp (pv_fieldA (k := 1) (by kernel_rfl) rfl) ?_
   refine D_l rfl (fun w' hR => lv_load (by kernel_rfl) rfl ((m1.ext hR).at rfl)) ?_
   refine dp (pv_fieldA (k := 2) (by kernel_rfl) rfl) ?_
   refine D_l rfl (fun w' hR => lv_load (by kernel_rfl) rfl ((m1.ext hR).at rfl)) ?_
   refine dp (pv_seq rfl rfl) ?_
   refine dp (pv_fieldA (k := 3) (by kernel_rfl) rfl) ?_
   refine D_l rfl (fun w' hR => lv_load (by kernel_rfl) rfl ((m1.ext hR).at rfl)) ?_
   refine dp (pv_lenV (e := 9) (k := 1) (by kernel_rfl) (Arr.nil (enc := sEnc) (sz := 1) (w := w)).sl rfl) ?_
   refine dp (pv_eql rfl rfl) ?_
   refine dp (pv_fieldA (k := 4) (by kernel_rfl) rfl) ?_
   refine D_l rfl (fun w' hR => lv_load (by kernel_rfl) rfl ((m1.ext hR).at rfl)) ?_
   refine dp (pv_lenV (e := 25) (k := 5) (by kernel_rfl) (Arr.nil (enc := FilV.cs) (sz := 5) (w := w)).sl rfl) ?_
   refine dp (pv_eql rfl rfl) ?_
   refine D_callP rfl (by kernel_rfl) (type_w typ _) rfl RX.ext (fun w6 x6 => ?_)
   replace m1 := m1.ext x6
   replace m2 := m2.ext x6
   replace m3 := m3.ext x6
   replace hL := hL.ext x6
   replace hx := hx.ext x6
   iterate 4 refine da ?_
   refine D_end (hK5 _ _ ?_)
   refine W_seq fun K6 hK6 => ?_
   refine W_seq fun K7 hK7 => ?_
   refine wr ?_
   refine dp (pv_fieldA (k := 0) (by kernel_rfl) rfl) ?_
   refine dq (lv_load (by kernel_rfl) rfl (m1.at rfl)) ?_
   refine D_end (hK7 _ _ ?_)
   refine W_block ?_
   refine W_seq fun K8 hK8 => ?_
   refine W_seq fun K9 hK9 => ?_
   refine wr ?_
   refine dp (pv_eql rfl rfl) ?_
   refine da ?_
   refine D_end (hK9 _ _ ?_)
   refine W_if rfl (fun c3 => ?_) (fun c3 => ?_)
   ·
    exact absurd c3 (by decide)
   ·
    refine W_seq fun K10 hK10 => ?_
    refine wr ?_
    refine dp (pv_eql rfl rfl) ?_
    refine da ?_
    refine D_end (hK10 _ _ ?_)
    refine W_if rfl (fun c4 => ?_) (fun c4 => ?_)
    ·
     exact absurd c4 (by decide)
    ·
     refine wr ?_
     refine dp (pv_eql rfl rfl) ?_
     refine da ?_
     refine D_end (hK8 _ _ ?_)
     refine W_if rfl (fun c5 => ?_) (fun c5 => ?_)
     ·
      exact absurd c5 (by decide)
     ·
      refine W_seq fun K11 hK11 => ?_
      refine W_seq fun K12 hK12 => ?_
      refine wr ?_
      refine dp (pv_eql rfl rfl) ?_
      refine da ?_
      refine D_end (hK12 _ _ ?_)
      refine W_if rfl (fun c6 => ?_) (fun c6 => ?_)
      ·
       refine W_skip ?_
       refine hK11 _ _ ?_
       refine W_if rfl (fun c7 => ?_) (fun c7 => ?_)
       ·
        refine wr ?_
        refine dp (pv_fieldA (k := 2) (by kernel_rfl) rfl) ?_
        refine dq (lv_load (by kernel_rfl) rfl (m1.at rfl)) ?_
        refine dp (pv_lenS (by kernel_rfl) rfl) ?_
        refine dp (pv_leq rfl rfl) ?_
        refine da ?_
        refine D_end (hK6 _ _ ?_)
        refine W_seq fun K13 hK13 => ?_
        refine wr ?_
        iterate 2 refine dm ?_
        refine D_split 76 rfl (fun c8 => ?_) (fun c8 => ?_)
        ·
         refine dm ?_
         refine dk' ?_
         refine dm ?_
         refine D_splitP 79 rfl (fun c9 => ?_) (fun c9 => ?_)
         ·
          refine dm ?_
          refine dk' ?_
          refine dm ?_
          refine D_splitP 82 rfl (fun c10 => ?_) (fun c10 => ?_)
          ·
           refine dm ?_
           refine dk' ?_
           refine dm ?_
           refine D_splitP 85 rfl (fun c11 => ?_) (fun c11 => ?_)
           ·
            refine dp (pv_fieldA (k := 4) (by kernel_rfl) rfl) ?_
            refine dq (lv_load (by kernel_rfl) rfl (m1.at rfl)) ?_
            refine dp (pv_makeFunc rfl) ?_
            refine D_callP rfl (by kernel_rfl) (contF0_w _ _) rfl RX.all (fun w7 x7 => ?_)
            replace m1 := m1.ext x7
            replace m2 := m2.ext x7
            replace m3 := m3.ext x7
            replace hL := hL.ext x7
            replace hx := hx.ext x7
            refine dn ?_
            refine dk' ?_
            refine da ?_
            refine D_end (hK13 _ _ ?_)
            refine W_ret ?_
            try dsimp only [then', inBlk, noGo]
            refine ro ?_
            exact ⟨_, rfl, hx, rfl, hL⟩
           ·
            exact absurd rfl c11
          ·
           exact absurd rfl c10
         ·
          omega
        ·
         rw [htt] at c8; cases c8
       ·
        exact absurd rfl c7
      ·
       exact absurd rfl c6

set_option maxRecDepth 100000 in
set_option maxHeartbeats 1000000 in
theorem may1_w (typ val : Str) (n m : Int) (bl bn bp : Nat) (w : World) (hL : Blk w bl [I m] 3) (hN : Blk w bn [I n] 3) (hP : Blk w bp [ptr bl 0] 55) (ht : typ.length ≤ 1000000) (htt : typeS typ = true) (hvl : val.length ≤ 256) (hn : n < 15) (hn2 : 0 ≤ n) (hm : 1 ≤ m) (hm2 : m ≤ 1000) :
  Calls Tryz.prog 67 [.agg ⟨[I 3, S typ, S val, .slice none 0 0, .slice none 0 0]⟩, ptr bn 0, ptr bp 0].toArray w (Does (oneB bl) w (fun u w' => u = B false ∧ Blk w' bl [I (m - 1)] 3)) := by
 refine calls_W Tryz.func67 rfl rfl rfl (by kernel_rfl) ?_
 have hx := Ext.refl w
 have hbl := hL.lt
 refine W_seq fun K1 hK1 => ?_
 refine wr ?_
 refine D_box rfl rfl rfl RX.all (fun b1 w1 e1 x1 m1 => ?_)
 have g1 : w.heap.size ≤ b1 := by have := hx.size; omega
 replace hx := hx.trans x1
 refine da ?_
 refine D_end (hK1 _ _ ?_)
 refine W_seq fun K2 hK2 => ?_
 refine wr ?_
 refine dq (lv_loadA (k := 5) (by kernel_rfl) rfl rfl m1.row) ?_
 refine dq (lv_load (by kernel_rfl) rfl ((hN.ext hx).at rfl)) ?_
 refine dp (pv_add rfl rfl (by unfold inI64; omega)) ?_
 refine dq (lv_load (by kernel_rfl) rfl ((hP.ext hx).at rfl)) ?_
 refine D_callD rfl (by kernel_rfl) (mayU_w typ val (n + 1) m bl _ (hL.ext hx) ht htt hvl (by omega) hm hm2) rfl (.inl rfl) (fun u2 w2 x2 hf2 => ?_)
 have hsz2 := hx.size
 replace m1 := m1.mod x2 (by intro h; have h2 : _ = bl := h; omega)
 replace hx := (hx.mod x2).mono (fun i hi _ => (hi : (oneB bl) i))
 obtain ⟨rfl, hL2⟩ := hf2
 refine dn ?_
 refine da ?_
 refine D_end (hK2 _ _ ?_)
 refine W_ret ?_
 try dsimp only [then', inBlk, noGo]
 refine ro ?_
 exact ⟨_, rfl, hx, rfl, hL2⟩

set_option maxRecDepth 100000 in
set_option maxHeartbeats 1000000 in
theorem indexF1_w (typ val : Str) (n m : Int) (bl bn bp : Nat) (vk : Value) (w : World) (hk0 : Arr FilV.cs 5 w vk [(⟨I 3, S typ, S val, .slice none 0 0, .slice none 0 0⟩ : FilV)]) (hL : Blk w bl [I m] 3) (hN : Blk w bn [I n] 3) (hP : Blk w bp [ptr bl 0] 55) (hkb : (base vk).1 ≠ bl) (hnb : bn ≠ bl) (hpb : bp ≠ bl) (ht : typ.length ≤ 1000000) (htt : typeS typ = true) (hvl : val.length ≤ 256) (hn : n < 15) (hn2 : 0 ≤ n) (hm : 1 ≤ m) (hm2 : m ≤ 1000) :
  Calls Tryz.prog 97 [vk, fnC 67 [ptr bn 0, ptr bp 0]].toArray w (Does (oneB bl) w (fun u _ => u = I (-1))) := by
 refine calls_W Tryz.func97 rfl rfl rfl (by kernel_rfl) ?_
 have hx := Ext.refl w
 refine W_seq fun K1 hK1 => ?_
 refine wr ?_
 refine da ?_
 refine D_end (hK1 _ _ ?_)
 refine W_seq fun K2 hK2 => ?_
 refine W_seq fun K3 hK3 => ?_
 refine wr ?_
 refine dm ?_
 refine dp (pv_lenV (e := 25) (k := 5) (by kernel_rfl) hk0.sl rfl) ?_
 refine dm ?_
 refine D_end (hK3 _ _ ?_)
 refine W_block ?_
 refine W_loop (G := Nat) (fun k => [(0, vk), (1, fnC 67 [ptr bn 0, ptr bp 0]), (7, I ↑1), (8, I ↑k)]) (fun k w' => Mod (oneB bl) w w' ∧ k ≤ 1 ∧ ∃ c : Int, Blk w' bl [I c] 3 ∧ c = m - k) (fun k => 1 - k) 0 ?_ ?_ ?_
 ·
  exact ⟨rfl, rfl, rfl, rfl, trivial⟩
 ·
  exact ⟨hx.mono (fun _ h _ => h.elim), Nat.zero_le _, m, hL, by omega⟩
 ·
  intro X1 g1 w1 hF1
  revert hF1; revert g1; intro k hF1
  clear hx hL
  obtain ⟨hx, hk1, c, hL, hc⟩ := hF1
  refine W_seq fun K4 hK4 => ?_
  refine wr ?_
  refine dp (pv_lss rfl rfl) ?_
  refine D_end (hK4 _ _ ?_)
  refine W_seq fun K5 hK5 => ?_
  refine W_if rfl (fun c1 => ?_) (fun c1 => ?_)
  ·
   have hk0e : k = 0 := by omega
   have hk : [(⟨I 3, S typ, S val, .slice none 0 0, .slice none 0 0⟩ : FilV)][k]? = some (⟨I 3, S typ, S val, .slice none 0 0, .slice none 0 0⟩ : FilV) := by subst hk0e; rfl
   refine W_skip ?_
   refine hK5 _ _ ?_
   refine W_seq fun K6 hK6 => ?_
   refine W_block ?_
   refine W_seq fun K7 hK7 => ?_
   refine wr ?_
   refine dm ?_
   refine da ?_
   refine D_end (hK7 _ _ ?_)
   refine W_seq fun K8 hK8 => ?_
   refine wr ?_
   iterate 3 refine dm ?_
   refine dp (pv_idxA (e := 25) (k := 5) (by kernel_rfl) hk0.sl rfl rfl (hk0.lt hk)) ?_
   refine dq (lv_loadA (by kernel_rfl) rfl rfl ((hk0.mod hx (fun _ h => hkb h)).row hk)) ?_
   refine D_callCD (vs := [.agg ⟨[I 3, S typ, S val, .slice none 0 0, .slice none 0 0]⟩]) (cs := [ptr bn 0, ptr bp 0]) rfl rfl (by kernel_rfl) (may1_w typ val n c bl bn bp _ hL (hN.mod hx (fun h => hnb h)) (hP.mod hx (fun h => hpb h)) ht htt hvl hn hn2 (by omega) (by omega)) rfl (.inl rfl) (fun u2 w2 x2 hf2 => ?_)
   have hsz2 := hx.size
   replace hx := hx.own x2 (fun i hi _ => hi)
   obtain ⟨rfl, hL⟩ := hf2
   refine D_end (hK8 _ _ ?_)
   refine W_f rfl ?_
   refine W_skip ?_
   refine hK6 _ _ ?_
   refine wr ?_
   refine dp (pv_add rfl rfl (by unfold inI64; omega)) ?_
   refine dm ?_
   refine D_end (?_)
   refine ⟨k + 1, ⟨rfl, rfl, rfl, rfl, trivial⟩, ⟨hx, by omega, c - 1, hL, by omega⟩, by omega⟩
  ·
   refine W_exit ?_
   refine hK2 _ _ ?_
   refine W_seq fun K9 hK9 => ?_
   refine wr ?_
   refine da ?_
   refine D_end (hK9 _ _ ?_)
   refine W_ret ?_
   try dsimp only [then', inBlk, noGo]
   refine ro ?_
   exact ⟨_, rfl, hx, rfl⟩

set_option maxRecDepth 100000 in
set_option maxHeartbeats 1000000 in
theorem contF1_w (typ val : Str) (n m : Int) (bl bn bp : Nat) (vk : Value) (w : World) (hk0 : Arr FilV.cs 5 w vk [(⟨I 3, S typ, S val, .slice none 0 0, .slice none 0 0⟩ : FilV)]) (hL : Blk w bl [I m] 3) (hN : Blk w bn [I n] 3) (hP : Blk w bp [ptr bl 0] 55) (hkb : (base vk).1 ≠ bl) (hnb : bn ≠ bl) (hpb : bp ≠ bl) (ht : typ.length ≤ 1000000) (htt : typeS typ = true) (hvl : val.length ≤ 256) (hn : n < 15) (hn2 : 0 ≤ n) (hm : 1 ≤ m) (hm2 : m ≤ 1000) :
  Calls Tryz.prog 66 [vk, fnC 67 [ptr bn 0, ptr bp 0]].toArray w (Does (oneB bl) w (fun u _ => u = B false)) := by
 refine calls_W Tryz.func66 rfl rfl rfl (by kernel_rfl) ?_
 have hx := Ext.refl w
 refine W_seq fun K1 hK1 => ?_
 refine wr ?_
 refine da ?_
 refine D_end (hK1 _ _ ?_)
 refine W_seq fun K2 hK2 => ?_
 refine wr ?_
 iterate 2 refine dm ?_
 refine D_callD rfl (by kernel_rfl) (indexF1_w typ val n m bl bn bp vk _ (hk0.ext hx) (hL.ext hx) (hN.ext hx) (hP.ext hx) hkb hnb hpb ht htt hvl hn hn2 hm hm2) rfl (.inl rfl) (fun u1 w1 x1 hf1 => ?_)
 have hsz1 := hx.size
 replace hx := (hx.mod x1).mono (fun i hi _ => (hi : (oneB bl) i))
 obtain rfl := hf1
 refine dp (pv_geq rfl rfl) ?_
 refine da ?_
 refine D_end (hK2 _ _ ?_)
 refine W_ret ?_
 try dsimp only [then', inBlk, noGo]
 refine ro ?_
 exact ⟨_, rfl, hx, rfl⟩

set_option maxRecDepth 100000 in
set_option maxHeartbeats 1000000 in
theorem mayN_w (typ val : Str) (n m : Int) (bl : Nat) (vk : Value) (w : World) (hk0 : Arr FilV.cs 5 w vk [(⟨I 3, S typ, S val, .slice none 0 0, .slice none 0 0⟩ : FilV)]) (hL : Blk w bl [I m] 3) (hkb : (base vk).1 ≠ bl) (ht : typ.length ≤ 1000000) (htt : typeS typ = true) (hvl : val.length ≤ 256) (hn : n < 15) (hn2 : 0 ≤ n) (hm : 2 ≤ m) (hm2 : m ≤ 1000) :
  Calls Tryz.prog 32 [.agg ⟨[I 2, S [], S [], .slice none 0 0, vk]⟩, I n, ptr bl 0].toArray w (Does (oneB bl) w (fun u _ => u = B true)) := by
 refine calls_W Tryz.func32 rfl rfl rfl (by kernel_rfl) ?_
 have hx := Ext.refl w
 have hbl := hL.lt
 refine W_seq fun K1 hK1 => ?_
 refine wr ?_
 refine D_box rfl rfl rfl RX.all (fun b1 w1 e1 x1 m1 => ?_)
 have g1 : w.heap.size ≤ b1 := by have := hx.size; omega
 replace hx := hx.trans x1
 refine D_box rfl rfl rfl RX.all (fun b2 w2 e2 x2 m2 => ?_)
 have g2 : w.heap.size ≤ b2 := by have := hx.size; omega
 have n2_1 : b1 < b2 := by have := m1.lt; omega
 replace m1 := m1.ext x2
 replace hx := hx.trans x2
 refine D_box rfl rfl rfl RX.all (fun b3 w3 e3 x3 m3 => ?_)
 have g3 : w.heap.size ≤ b3 := by have := hx.size; omega
 have n3_1 : b1 < b3 := by have := m1.lt; omega
 have n3_2 : b2 < b3 := by have := m2.lt; omega
 replace m1 := m1.ext x3
 replace m2 := m2.ext x3
 replace hx := hx.trans x3
 refine da ?_
 refine D_end (hK1 _ _ ?_)
 refine W_seq fun K2 hK2 => ?_
 refine W_seq fun K3 hK3 => ?_
 refine wr ?_
 refine dq (lv_load (by kernel_rfl) rfl (m3.at rfl)) ?_
 refine dp (pv_nilP rfl) ?_
 refine dq (lv_load (by kernel_rfl) rfl ((hL.ext hx).at rfl)) ?_
 refine dp (pv_sub rfl rfl (by unfold inI64; omega)) ?_
 refine dp (pv_nilP rfl) ?_
 refine D_store1 (v := ?v2) rfl rfl ?h2 ?n2 (by kernel_rfl) (hL.ext hx) ?o2 (.inl rfl) (fun w4 x4 xs4 hL => ?k2)
 case h2 => conv => lhs; whnf
 case n2 => first | rfl | exact isSl.one m1.sl | exact isSl.one m2.sl | exact isSl.one m3.sl | exact isSl.one hk0.sl | exact isSl.one (Arr.nil (enc := sEnc) (sz := 1) (w := w)).sl
 case o2 => exact Nat.le_of_ble_eq_true rfl
 try dsimp only [setAt, List.set, List.take, List.drop] at hL
 try replace m1 := m1.mod x4 (by first | assumption | (intro k hk h; have h1 := (m1.lt k hk).1; have h2 : k = bl := h; omega) | (intro k hk h; have h1 := ol_m1 k hk; have h2 : k = bl := h; omega) | (intro h; have h2 : _ = bl := h; omega) | (intro hl h; have h1 := al_m1 hl; have h2 : _ = bl := h; omega))
 try replace m2 := m2.mod x4 (by first | assumption | (intro k hk h; have h1 := (m2.lt k hk).1; have h2 : k = bl := h; omega) | (intro k hk h; have h1 := ol_m2 k hk; have h2 : k = bl := h; omega) | (intro h; have h2 : _ = bl := h; omega) | (intro hl h; have h1 := al_m2 hl; have h2 : _ = bl := h; omega))
 try replace m3 := m3.mod x4 (by first | assumption | (intro k hk h; have h1 := (m3.lt k hk).1; have h2 : k = bl := h; omega) | (intro k hk h; have h1 := ol_m3 k hk; have h2 : k = bl := h; omega) | (intro h; have h2 : _ = bl := h; omega) | (intro hl h; have h1 := al_m3 hl; have h2 : _ = bl := h; omega))
 replace hx := (hx.mod x4).mono (fun i hi _ => (hi : (oneB bl) i))
 refine D_end (hK3 _ _ ?_)
 refine W_seq fun K4 hK4 => ?_
 refine wr ?_
 refine dq (lv_load (by kernel_rfl) rfl (m3.at rfl)) ?_
 refine dp (pv_nilP rfl) ?_
 refine dq (lv_load (by kernel_rfl) rfl (hL.at rfl)) ?_
 refine dp (pv_lss rfl rfl) ?_
 refine dm ?_
 refine D_splitP 20 rfl (fun c1 => ?_) (fun c1 => ?_)
 ·
  omega
 ·
  refine dq (lv_load (by kernel_rfl) rfl (m2.at rfl)) ?_
  refine dp (pv_geq rfl rfl) ?_
  refine dk' ?_
  refine D_end (hK4 _ _ ?_)
  refine W_if rfl (fun c2 => ?_) (fun c2 => ?_)
  ·
   omega
  ·
   refine W_skip ?_
   refine hK2 _ _ ?_
   refine W_seq fun K5 hK5 => ?_
   refine W_draw (R := Ext) Ext.refl (fun _ _ _ => Ext.trans) (by kernel_rfl) [1, 4, 7, 11] [(0, .p, false), (1, .l, false), (3, .p, false), (4, .l, false), (5, .p, false), (6, .p, false), (7, .l, false), (8, .p, false), (9, .p, false), (10, .p, false), (11, .l, false), (12, .p, false), (13, .p, false), (2, .x, false), (14, .p, false), (15, .p, false), (16, .p, false), (17, .p, false)] rfl (by kernel_rfl) (by kernel_rfl) (fun w5 ew5 => ?_)
   have x5 : Ext w4 w5 := by rw [ew5]; exact Ext.drew _
   clear ew5
   replace m1 := m1.ext x5
   replace m2 := m2.ext x5
   replace m3 := m3.ext x5
   replace hL := hL.ext x5
   replace hx := hx.ext x5
   refine dp (pv_fieldA (k := 1) (by kernel_rfl) rfl) ?_
   refine D_l rfl (fun w' hR => lv_load (by kernel_rfl) rfl ((m1.ext hR).at rfl)) ?_
   refine dp (pv_fieldA (k := 2) (by kernel_rfl) rfl) ?_
   refine D_l rfl (fun w' hR => lv_load (by kernel_rfl) rfl ((m1.ext hR).at rfl)) ?_
   refine dp (pv_seq rfl rfl) ?_
   refine dp (pv_fieldA (k := 3) (by kernel_rfl) rfl) ?_
   refine D_l rfl (fun w' hR => lv_load (by kernel_rfl) rfl ((m1.ext hR).at rfl)) ?_
   refine dp (pv_lenV (e := 9) (k := 1) (by kernel_rfl) (Arr.nil (enc := sEnc) (sz := 1) (w := w)).sl rfl) ?_
   refine dp (pv_eql rfl rfl) ?_
   refine dp (pv_fieldA (k := 4) (by kernel_rfl) rfl) ?_
   refine D_l rfl (fun w' hR => lv_load (by kernel_rfl) rfl ((m1.ext hR).at rfl)) ?_
   refine dp (pv_lenV (e := 25) (k := 5) (by kernel_rfl) hk0.sl rfl) ?_
   refine dp (pv_eql rfl rfl) ?_
   refine D_callP rfl (by kernel_rfl) (type_w [] _) rfl RX.ext (fun w6 x6 => ?_)
   replace m1 := m1.ext x6
   replace m2 := m2.ext x6
   replace m3 := m3.ext x6
   replace hL := hL.ext x6
   replace hx := hx.ext x6
   iterate 4 refine da ?_
   refine D_end (hK5 _ _ ?_)
   refine W_seq fun K6 hK6 => ?_
   refine W_seq fun K7 hK7 => ?_
   refine wr ?_
   refine dp (pv_fieldA (k := 0) (by kernel_rfl) rfl) ?_
   refine dq (lv_load (by kernel_rfl) rfl (m1.at rfl)) ?_
   refine D_end (hK7 _ _ ?_)
   refine W_block ?_
   refine W_seq fun K8 hK8 => ?_
   refine W_seq fun K9 hK9 => ?_
   refine wr ?_
   refine dp (pv_eql rfl rfl) ?_
   refine da ?_
   refine D_end (hK9 _ _ ?_)
   refine W_if rfl (fun c3 => ?_) (fun c3 => ?_)
   ·
    exact absurd c3 (by decide)
   ·
    refine W_seq fun K10 hK10 => ?_
    refine wr ?_
    refine dp (pv_eql rfl rfl) ?_
    refine da ?_
    refine D_end (hK10 _ _ ?_)
    refine W_if rfl (fun c4 => ?_) (fun c4 => ?_)
    ·
     exact absurd c4 (by decide)
    ·
     refine wr ?_
     refine dp (pv_eql rfl rfl) ?_
     refine da ?_
     refine D_end (hK8 _ _ ?_)
     refine W_if rfl (fun c5 => ?_) (fun c5 => ?_)
     ·
      refine W_draw (R := Ext) Ext.refl (fun _ _ _ => Ext.trans) (by kernel_rfl) [1, 7, 11] [(0, .p, false), (1, .l, false), (2, .p, false), (3, .p, false), (4, .p, false), (5, .p, false), (6, .p, false), (7, .l, false), (8, .p, false), (9, .p, false), (10, .p, false), (11, .l, false), (12, .p, false), (13, .p, false), (14, .p, false), (15, .p, false), (16, .p, false), (17, .p, false)] rfl (by kernel_rfl) (by kernel_rfl) (fun w7 ew7 => ?_)
      have x7 : Ext w6 w7 := by rw [ew7]; exact Ext.drew _
      clear ew7
      replace m1 := m1.ext x7
      replace m2 := m2.ext x7
      replace m3 := m3.ext x7
      replace hL := hL.ext x7
      replace hx := hx.ext x7
      refine dp (pv_fieldA (k := 1) (by kernel_rfl) rfl) ?_
      refine D_l rfl (fun w' hR => lv_load (by kernel_rfl) rfl ((m1.ext hR).at rfl)) ?_
      refine dp (pv_seq rfl rfl) ?_
      refine dm ?_
      refine dn ?_
      refine dm ?_
      refine D_split 49 rfl (fun c6 => ?_) (fun c6 => ?_)
      ·
       refine dp (pv_fieldA (k := 0) (by kernel_rfl) rfl) ?_
       refine D_l rfl (fun w' hR => lv_load (by kernel_rfl) rfl ((m1.ext hR).at rfl)) ?_
       refine dp (pv_neq rfl rfl) ?_
       refine dm ?_
       refine D_splitP 53 rfl (fun c7 => ?_) (fun c7 => ?_)
       ·
        exact absurd rfl c7
       ·
        refine dp (pv_fieldA (k := 4) (by kernel_rfl) rfl) ?_
        refine D_l rfl (fun w' hR => lv_load (by kernel_rfl) rfl ((m1.ext hR).at rfl)) ?_
        refine dp (pv_lenV (e := 25) (k := 5) (by kernel_rfl) hk0.sl rfl) ?_
        refine dp (pv_eql rfl rfl) ?_
        refine dk' ?_
        refine dk' ?_
        iterate 2 refine da ?_
        refine D_end (hK6 _ _ ?_)
        refine W_seq fun K11 hK11 => ?_
        refine wr ?_
        iterate 2 refine dm ?_
        refine D_splitP 76 rfl (fun c8 => ?_) (fun c8 => ?_)
        ·
         refine dm ?_
         refine dk' ?_
         refine dm ?_
         refine D_splitP 79 rfl (fun c9 => ?_) (fun c9 => ?_)
         ·
          refine dm ?_
          refine dk' ?_
          refine dm ?_
          refine D_splitP 82 rfl (fun c10 => ?_) (fun c10 => ?_)
          ·
           refine dm ?_
           refine dk' ?_
           refine dm ?_
           refine D_splitP 85 rfl (fun c11 => ?_) (fun c11 => ?_)
           ·
            refine dp (pv_fieldA (k := 4) (by kernel_rfl) rfl) ?_
            refine dq (lv_load (by kernel_rfl) rfl (m1.at rfl)) ?_
            refine dp (pv_makeFunc rfl) ?_
            refine D_callD rfl (by kernel_rfl) (contF1_w typ val n (m - 1) bl b2 b3 vk _ (hk0.mod hx (fun _ h => hkb h)) hL m2 m3 hkb (by omega) (by omega) ht htt hvl hn hn2 (by omega) (by omega)) rfl (.inl rfl) (fun u8 w8 x8 hf8 => ?_)
            have hsz8 := hx.size
            replace m1 := m1.mod x8 (by intro h; have h2 : _ = bl := h; omega)
            replace m2 := m2.mod x8 (by intro h; have h2 : _ = bl := h; omega)
            replace m3 := m3.mod x8 (by intro h; have h2 : _ = bl := h; omega)
            replace hx := hx.own x8 (fun i hi _ => hi)
            obtain rfl := hf8
            refine dn ?_
            refine dk' ?_
            refine da ?_
            refine D_end (hK11 _ _ ?_)
            refine W_ret ?_
            try dsimp only [then', inBlk, noGo]
            refine ro ?_
            exact ⟨_, rfl, hx, rfl⟩
           ·
            exact absurd rfl c11
          ·
           exact absurd rfl c10
         ·
          exact absurd rfl c9
        ·
         exact absurd rfl c8
      ·
       simp at c6
     ·
      exact absurd rfl c5

set_option maxRecDepth 100000 in
set_option maxHeartbeats 1000000 in
theorem fIs_w (typ val : Str) (vk : Value) (w : World) (hk0 : Arr FilV.cs 5 w vk [(⟨I 3, S typ, S val, .slice none 0 0, .slice none 0 0⟩ : FilV)]) (ht : typ.length ≤ 1000000) (htt : typeS typ = true) (hvl : val.length ≤ 256) :
  Calls Tryz.prog 15 [.agg ⟨[I 2, S [], S [], .slice none 0 0, vk]⟩].toArray w (Pure w (B true)) := by
 refine calls_W Tryz.func15 rfl rfl rfl (by kernel_rfl) ?_
 have hx := Ext.refl w
 have hkl := Arr.base_lt hk0 (by decide) (by simp)
 refine W_seq fun K1 hK1 => ?_
 refine wr ?_
 refine D_box rfl rfl rfl RX.all (fun b1 w1 e1 x1 m1 => ?_)
 have g1 : w.heap.size ≤ b1 := by have := hx.size; omega
 replace hx := hx.trans x1
 refine da ?_
 refine D_end (hK1 _ _ ?_)
 refine W_seq fun K2 hK2 => ?_
 refine wr ?_
 refine D_alloc (cs := [.int .i64 0]) rfl (by kernel_rfl) RX.all (fun b2 w2 e2 x2 m2 => ?_)
 have g2 : w.heap.size ≤ b2 := by have := hx.size; omega
 have n2_1 : b1 < b2 := by have := m1.lt; omega
 replace m1 := m1.ext x2
 replace hx := hx.trans x2
 refine D_store1 (v := ?v2) rfl rfl ?h2 ?n2 (by kernel_rfl) m2 ?o2 (.inl rfl) (fun w3 x3 xs3 m2 => ?k2)
 case h2 => conv => lhs; whnf
 case n2 => first | rfl | exact isSl.one m1.sl | exact isSl.one hk0.sl
 case o2 => exact Nat.le_of_ble_eq_true rfl
 try dsimp only [setAt, List.set, List.take, List.drop] at m2
 try replace m1 := m1.mod x3 (by first | assumption | (intro k hk h; have h1 := (m1.lt k hk).1; have h2 : k = b2 := h; omega) | (intro k hk h; have h1 := o2_m1 k hk; have h2 : k = b2 := h; omega) | (intro h; have h2 : _ = b2 := h; omega) | (intro hl h; have h1 := a2_m1 hl; have h2 : _ = b2 := h; omega))
 replace hx := hx.own x3 (by intro i hi; have hi2 : i = b2 := hi; subst hi2; omega)
 refine D_end (hK2 _ _ ?_)
 refine W_seq fun K3 hK3 => ?_
 refine wr ?_
 refine dq (lv_loadA (k := 5) (by kernel_rfl) rfl rfl m1.row) ?_
 refine D_callD rfl (by kernel_rfl) (mayN_w typ val 0 64 b2 vk _ (hk0.ext hx) m2 (by omega) ht htt hvl (by omega) (by omega) (by omega) (by omega)) rfl (.inl rfl) (fun u4 w4 x4 hf4 => ?_)
 have hsz4 := hx.size
 replace m1 := m1.mod x4 (by intro h; have h2 : _ = b2 := h; omega)
 replace hx := hx.own x4 (fun i hi => (by have hi2 : i = b2 := hi; subst hi2; omega))
 obtain rfl := hf4
 refine da ?_
 refine D_end (hK3 _ _ ?_)
 refine W_ret ?_
 try dsimp only [then', inBlk, noGo]
 refine ro ?_
 exact ⟨rfl, hx⟩

set_option maxRecDepth 100000 in
set_option maxHeartbeats 1000000 in
theorem evalE_w (typ val : Str) (vk : Value) (w : World) (hk0 : Arr FilV.cs 5 w vk [(⟨I 3, S typ, S val, .slice none 0 0, .slice none 0 0⟩ : FilV)]) (ht : typ.length ≤ 1000000) (htt : typeS typ = true) (hvl : val.length ≤ 256) (hok : tOk typ = false) :
  Calls Tryz.prog 9 [.agg ⟨[I 2, S [], S [], .slice none 0 0, vk]⟩, .agg ⟨[.slice none 0 0, .slice none 0 0]⟩].toArray w (Pure w (I 2)) := by
 refine calls_W Tryz.func9 rfl rfl rfl (by kernel_rfl) ?_
 have hx := Ext.refl w
 refine W_seq fun K1 hK1 => ?_
 refine wr ?_
 refine D_box rfl rfl rfl RX.all (fun b1 w1 e1 x1 m1 => ?_)
 have g1 : w.heap.size ≤ b1 := by have := hx.size; omega
 replace hx := hx.trans x1
 refine D_box rfl rfl rfl RX.all (fun b2 w2 e2 x2 m2 => ?_)
 have g2 : w.heap.size ≤ b2 := by have := hx.size; omega
 have n2_1 : b1 < b2 := by have := m1.lt; omega
 replace m1 := m1.ext x2
 replace hx := hx.trans x2
 refine da ?_
 refine D_end (hK1 _ _ ?_)
 refine W_seq fun K2 hK2 => ?_
 refine W_seq fun K3 hK3 => ?_
 refine wr ?_
 refine dq (lv_loadA (k := 5) (by kernel_rfl) rfl rfl m1.row) ?_
 refine D_callP rfl (by kernel_rfl) (fIs_w typ val vk _ (hk0.ext hx) ht htt hvl) rfl RX.all (fun w3 x3 => ?_)
 replace m1 := m1.ext x3
 replace m2 := m2.ext x3
 replace hx := hx.trans x3
 refine dn ?_
 refine D_end (hK3 _ _ ?_)
 refine W_f rfl ?_
 refine W_skip ?_
 refine hK2 _ _ ?_
 refine W_seq fun K4 hK4 => ?_
 refine wr ?_
 refine dq (lv_loadA (k := 5) (by kernel_rfl) rfl rfl m1.row) ?_
 refine dq (lv_loadA (k := 2) (by kernel_rfl) rfl rfl m2.row) ?_
 refine D_callP rfl (by kernel_rfl) (evalN_w typ val vk _ (hk0.ext hx) ht hok) rfl RX.all (fun w4 x4 => ?_)
 replace m1 := m1.ext x4
 replace m2 := m2.ext x4
 replace hx := hx.trans x4
 refine da ?_
 refine D_end (hK4 _ _ ?_)
 refine W_ret ?_
 try dsimp only [then', inBlk, noGo]
 refine ro ?_
 exact ⟨rfl, hx⟩

set_option maxRecDepth 100000 in
set_option maxHeartbeats 1000000 in
theorem known17_w (w : World) :
  Calls Tryz.prog 11 [].toArray w (Pure w (B true)) := by
 refine calls_W Tryz.func11 rfl rfl rfl (by kernel_rfl) ?_
 have hx := Ext.refl w
 refine W_seq fun K1 hK1 => ?_
 refine wr ?_
 refine da ?_
 refine D_end (hK1 _ _ ?_)
 refine W_seq fun K2 hK2 => ?_
 refine wr ?_
 refine dp (pv_build (zs := [.int .i64 0, S [], S [], .slice none 0 0, .slice none 0 0]) (pl := [(0, 1), (1, 1), (2, 1), (3, 1), (4, 1)]) (pv := [(0, ?a2_0), (1, ?a2_1), (2, ?a2_2)]) (cs := [?a2_0, ?a2_1, ?a2_2, .slice none 0 0, .slice none 0 0]) (by kernel_rfl) (by kernel_rfl) ?h2 ?f2) ?k2
 case h2 => refine ⟨rfl, ?_, rfl, ?_, rfl, ?_, trivial⟩ <;> (conv => lhs; whnf)
 case f2 => rfl
 refine D_lit (e := 25) (sz := 5) (zs := [.int .i64 0, S [], S [], .slice none 0 0, .slice none 0 0]) (pv := [(0, .agg ⟨[?a3_0, ?a3_1, ?a3_2, ?a3_3, ?a3_4]⟩)]) (cs := [?a3_0, ?a3_1, ?a3_2, ?a3_3, ?a3_4]) rfl (by kernel_rfl) ⟨rfl, rfl⟩ (by kernel_rfl) rfl ?h3 ?f3 RX.all (fun b1 w1 e1 x1 m1 => ?k3)
 case h3 => refine ⟨rfl, ?_, trivial⟩ <;> (conv => lhs; whnf)
 case f3 => rfl
 have g1 : w.heap.size ≤ b1 := by have := hx.size; omega
 replace hx := hx.trans x1
 refine dp (pv_build (zs := [.int .i64 0, S [], S [], .slice none 0 0, .slice none 0 0]) (pl := [(0, 1), (1, 1), (2, 1), (3, 1), (4, 1)]) (pv := [(0, ?a4_0), (4, ?a4_1)]) (cs := [?a4_0, S [], S [], .slice none 0 0, ?a4_1]) (by kernel_rfl) (by kernel_rfl) ?h4 ?f4) ?k4
 case h4 => refine ⟨rfl, ?_, rfl, ?_, trivial⟩ <;> (conv => lhs; whnf)
 case f4 => rfl
 refine D_alloc (cs := [.int .i64 0, S [], S [], .slice none 0 0, .slice none 0 0]) rfl (by kernel_rfl) RX.all (fun b2 w2 e2 x2 m2 => ?_)
 have g2 : w.heap.size ≤ b2 := by have := hx.size; omega
 have n2_1 : b1 < b2 := by have := m1.lt; omega
 replace m1 := m1.ext x2
 replace hx := hx.trans x2
 refine D_store (v := ?v5) (vs := ?u5) rfl rfl ?h5 ?c5 ?s5 m2 ?o5 ?n5 (.inl rfl) (fun w3 x3 xs3 m2 => ?k5)
 case h5 => conv => lhs; whnf
 case c5 => exact rfl
 case s5 => kernel_rfl
 case o5 => exact Nat.le_of_ble_eq_true rfl
 case n5 => simp [Value.oneCell']
 try dsimp only [setAt, List.set, List.take, List.drop] at m2
 try replace m1 := m1.mod x3 (by first | assumption | (intro k hk h; have h1 := (m1.lt k hk).1; have h2 : k = b2 := h; omega) | (intro k hk h; have h1 := o2_m1 k hk; have h2 : k = b2 := h; omega) | (intro h; have h2 : _ = b2 := h; omega) | (intro hl h; have h1 := a2_m1 hl; have h2 : _ = b2 := h; omega))
 replace hx := hx.own x3 (by intro i hi; have hi2 : i = b2 := hi; subst hi2; omega)
 refine D_end (hK2 _ _ ?_)
 refine W_seq fun K3 hK3 => ?_
 refine wr ?_
 refine dq (lv_loadA (k := 5) (by kernel_rfl) rfl rfl m2.row) ?_
 refine dp (pv_build (zs := [.slice none 0 0, .slice none 0 0]) (pl := [(0, 1), (1, 1)]) (pv := []) (cs := [.slice none 0 0, .slice none 0 0]) (by kernel_rfl) (by kernel_rfl) ?h6 ?f6) ?k6
 case h6 => exact trivial
 case f6 => rfl
 refine D_callP rfl (by kernel_rfl) (evalE_w [110, 111, 116, 104, 105, 110, 103] [120] (.slice (some ⟨b1, 0, none⟩) 1 1) _ (m1.arr (enc := FilV.cs) (sz := 5) (l := [⟨I 3, S [110, 111, 116, 104, 105, 110, 103], S [120], .slice none 0 0, .slice none 0 0⟩]) rfl (by intro x; rfl) rfl (by simp)) (by decide) (by kernel_rfl) (by decide) (by kernel_rfl)) rfl RX.all (fun w4 x4 => ?_)
 replace m1 := m1.ext x4
 replace m2 := m2.ext x4
 replace hx := hx.trans x4
 refine dp (pv_eql rfl rfl) ?_
 refine da ?_
 refine D_end (hK3 _ _ ?_)
 refine W_ret ?_
 try dsimp only [then', inBlk, noGo]
 refine ro ?_
 exact ⟨rfl, hx⟩

/-- Whether a filter's part asks what can be told. -/
def asksM (kd y : Int) (val : Str) (n : Nat) : Bool :=
  if kd = 3 then (normM y val).isSome else if kd = 5 ∨ kd = 6 then (normM y val).isSome && decide (y ≠ 3)
  else if kd = 4 then decide (y = 1 ∨ y = 5 ∨ y = 4) && decide (2 ≤ n) && decide (n ≤ 16) else false
def fitM (kd y : Int) (val : Str) (subs : List Str) (x : Str) : Bool :=
  if kd = 3 then equalM y x val else if kd = 5 then (lessM y x val).2 && !(lessM y x val).1
  else if kd = 6 then (lessM y x val).2 && ((lessM y x val).1 || equalM y x val) else (subM y x subs).1
def someV (b : Bool) : Int := if b = true then 1 else 0
def itemM (kd : Int) (typ val : Str) (subs vals : List Str) : Int :=
  if tOk typ = false then 2 else if kd = 7 then someV (decide (0 < vals.length))
  else if asksM kd (tY typ) val subs.length = true then someV (vals.any (fitM kd (tY typ) val subs)) else 2
theorem sub_and (y : Int) (x : Str) (l : List Str) : ((subM y x l).2 && (subM y x l).1) = (subM y x l).1 := by
  unfold subM; split
  · rfl
  · split <;> simp
theorem less_or {y : Int} (h : y ≠ 3) (a b : Str) : (((lessM y a b).2 && (lessM y a b).1) || equalM y a b) = ((lessM y a b).2 && ((lessM y a b).1 || equalM y a b)) := by
  unfold lessM equalM
  cases normM y a with
  | none => rfl
  | some p => cases normM y b with
    | none => rfl
    | some q =>
      simp only [if_neg h]
      split <;> simp
theorem tY_in {s : Str} (h : tOk s = true) : tY s = 1 ∨ tY s = 2 ∨ tY s = 3 ∨ tY s = 4 ∨ tY s = 5 := by
  unfold tOk at h
  obtain ⟨p, hp⟩ := Option.isSome_iff_exists.1 h
  have e2 : tY s = p.1 := by unfold tY; rw [hp]; rfl
  rw [e2]
  unfold kindM at hp
  repeat' split at hp
  all_goals first
    | (cases hp; done)
    | (obtain rfl := Option.some.inj hp; simp)
theorem any_takeP {s : List Str} {p : Str → Bool} {k : Nat} {c : Str} (h : s[k]? = some c) (ha : (s.take k).any p = false) (hp : p c = false) : (s.take (k + 1)).any p = false := by
  rw [take_snocS h, List.any_append, ha]; simp [hp]
theorem any_atP {s : List Str} {p : Str → Bool} {k : Nat} {c : Str} (h : s[k]? = some c) (hp : p c = true) : s.any p = true := List.any_eq_true.2 ⟨c, List.mem_of_getElem? h, hp⟩
section
variable {kd : Int} {typ val : Str} {subs vals : List Str} {y : Int} {n : Nat}
theorem itemM_off (h : tOk typ = false) : itemM kd typ val subs vals = 2 := by unfold itemM; rw [if_pos h]
theorem itemM_7 (h : tOk typ = true) (h7 : kd = 7) : itemM kd typ val subs vals = someV (decide (0 < vals.length)) := by unfold itemM; rw [if_neg (by rw [h]; decide), if_pos h7]
theorem itemM_no (h : tOk typ = true) (h7 : ¬ kd = 7) (ha : asksM kd (tY typ) val subs.length = false) : itemM kd typ val subs vals = 2 := by unfold itemM; rw [if_neg (by rw [h]; decide), if_neg h7, if_neg (by rw [ha]; decide)]
theorem itemM_yes (h : tOk typ = true) (h7 : ¬ kd = 7) (ha : asksM kd (tY typ) val subs.length = true) : itemM kd typ val subs vals = someV (vals.any (fitM kd (tY typ) val subs)) := by unfold itemM; rw [if_neg (by rw [h]; decide), if_neg h7, if_pos ha]
theorem any_true {l : List Str} : l.any (fun _ => true) = decide (0 < l.length) := by cases l <;> simp
theorem asks4_no (h : kd = 4) (hn : y = 2 ∨ y = 3 ∨ n < 2 ∨ 16 < n) : asksM kd y val n = false := by
  subst h
  unfold asksM
  rw [if_neg (by decide), if_neg (by decide), if_pos rfl]
  by_cases h1 : (y = 1 ∨ y = 5 ∨ y = 4)
  · by_cases h2 : 2 ≤ n
    · rw [decide_eq_true h1, decide_eq_true h2, decide_eq_false (by omega)]; rfl
    · rw [decide_eq_true h1, decide_eq_false h2]; rfl
  · rw [decide_eq_false h1]; rfl
theorem asks4_yes (h : kd = 4) (h1 : y = 1 ∨ y = 5 ∨ y = 4) (h2 : 2 ≤ n) (h3 : n ≤ 16) : asksM kd y val n = true := by
  subst h
  unfold asksM
  rw [if_neg (by decide), if_neg (by decide), if_pos rfl, decide_eq_true h1, decide_eq_true h2, decide_eq_true h3]; rfl
theorem asks3 (h : kd = 3) : asksM kd y val n = (normM y val).isSome := by unfold asksM; rw [if_pos h]
theorem asks56 (h : kd = 5 ∨ kd = 6) : asksM kd y val n = ((normM y val).isSome && decide (y ≠ 3)) := by unfold asksM; rw [if_neg (by omega), if_pos h]
theorem asks_no (h3 : ¬ kd = 3) (h4 : ¬ kd = 4) (h5 : ¬ kd = 5) (h6 : ¬ kd = 6) : asksM kd y val n = false := by unfold asksM; rw [if_neg h3, if_neg (by omega), if_neg h4]
theorem fit4 (h : kd = 4) : fitM kd y val subs = fun x => (subM y x subs).1 := by funext x; unfold fitM; rw [if_neg (by omega), if_neg (by omega), if_neg (by omega)]
theorem fit3 (h : kd = 3) : fitM kd y val subs = fun x => equalM y x val := by funext x; unfold fitM; rw [if_pos h]
theorem item56 (h : tOk typ = true) (hk : kd = 5 ∨ kd = 6) (hn : (normM (tY typ) val).isSome = true) : (if tY typ = 3 then 2 else someV (vals.any (fitM kd (tY typ) val subs))) = itemM kd typ val subs vals := by
  by_cases h3 : tY typ = 3
  · rw [if_pos h3, itemM_no h (by omega)]
    rw [asks56 hk, hn, decide_eq_false (fun e => e h3)]; rfl
  · rw [if_neg h3, itemM_yes h (by omega)]
    rw [asks56 hk, hn, decide_eq_true h3]; rfl
theorem any_nextP {l : List Str} {f : Str → Bool} {k : Nat} {x : Str} (h : l[k]? = some x) : (l.take (k + 1)).any f = ((l.take k).any f || f x) := by
  rw [take_snocS h, List.any_append]; simp
end

set_option maxRecDepth 100000 in
set_option maxHeartbeats 1000000 in
theorem indexS_w (l : List Str) (v : Value) (f : Nat) (cs : List Value) (p : Str → Bool) (w : World) (hv : Arr sEnc 1 w v l) (hl : l.length ≤ 140737488355328) (hcb : callB Tryz.prog f = true) (hc : ∀ w2, Ext w w2 → ∀ x ∈ l, Calls Tryz.prog f ([S x] ++ cs).toArray w2 (Pure w2 (B (p x)))) :
  Calls Tryz.prog 79 [v, fnC f cs].toArray w (Gives w (fun u _ => ∃ i : Int, u = I i ∧ (0 ≤ i ↔ l.any p = true))) := by
 refine calls_W Tryz.func79 rfl rfl rfl (by kernel_rfl) ?_
 have hx := Ext.refl w
 refine W_seq fun K1 hK1 => ?_
 refine wr ?_
 refine da ?_
 refine D_end (hK1 _ _ ?_)
 refine W_seq fun K2 hK2 => ?_
 refine W_seq fun K3 hK3 => ?_
 refine wr ?_
 refine dm ?_
 refine dp (pv_lenV (e := 9) (k := 1) (by kernel_rfl) hv.sl rfl) ?_
 refine dm ?_
 refine D_end (hK3 _ _ ?_)
 refine W_block ?_
 refine W_loop (G := Nat) (fun k => [(0, v), (1, fnC f cs), (7, I ↑l.length), (8, I ↑k)]) (fun k w' => Ext w w' ∧ k ≤ l.length ∧ (l.take k).any p = false) (fun k => l.length - k) 0 ?_ ?_ ?_
 ·
  exact ⟨rfl, rfl, rfl, rfl, trivial⟩
 ·
  exact ⟨hx, Nat.zero_le _, rfl⟩
 ·
  intro X1 g1 w1 hF1
  revert hF1; revert g1; intro k hF1
  clear hx
  obtain ⟨hx, hk1, ha⟩ := hF1
  refine W_seq fun K4 hK4 => ?_
  refine wr ?_
  refine dp (pv_lss rfl rfl) ?_
  refine D_end (hK4 _ _ ?_)
  refine W_seq fun K5 hK5 => ?_
  refine W_if rfl (fun c1 => ?_) (fun c1 => ?_)
  ·
   obtain ⟨x, hk⟩ : ∃ x, l[k]? = some x := ⟨_, List.getElem?_eq_getElem (by omega)⟩
   refine W_skip ?_
   refine hK5 _ _ ?_
   refine W_seq fun K6 hK6 => ?_
   refine W_block ?_
   refine W_seq fun K7 hK7 => ?_
   refine wr ?_
   refine dm ?_
   refine da ?_
   refine D_end (hK7 _ _ ?_)
   refine W_seq fun K8 hK8 => ?_
   refine wr ?_
   iterate 3 refine dm ?_
   refine dp (pv_idxA (e := 9) (k := 1) (by kernel_rfl) hv.sl rfl rfl (hv.lt hk)) ?_
   refine dq (lv_load (by kernel_rfl) rfl (((hv.ext hx).row hk).at0 rfl)) ?_
   refine D_callCP (vs := [S x]) (cs := cs) rfl rfl hcb (hc _ hx x (List.mem_of_getElem? hk)) rfl RX.all (fun w2 x2 => ?_)
   replace hx := hx.trans x2
   refine D_end (hK8 _ _ ?_)
   refine W_cond rfl (fun c2 => ?_) (fun c2 => ?_)
   ·
    refine W_seq fun K9 hK9 => ?_
    refine wr ?_
    refine dm ?_
    refine da ?_
    refine D_end (hK9 _ _ ?_)
    refine W_ret ?_
    try dsimp only [then', inBlk, noGo]
    refine ro ?_
    refine ⟨_, rfl, hx, _, rfl, ?_⟩
    rw [any_atP hk c2]; simp
   ·
    refine W_skip ?_
    refine hK6 _ _ ?_
    refine wr ?_
    refine dp (pv_add rfl rfl (by unfold inI64; omega)) ?_
    refine dm ?_
    refine D_end (?_)
    refine ⟨k + 1, ⟨rfl, rfl, rfl, rfl, trivial⟩, ⟨hx, by omega, any_takeP hk ha (by simpa using c2)⟩, by omega⟩
  ·
   refine W_exit ?_
   refine hK2 _ _ ?_
   refine W_seq fun K10 hK10 => ?_
   refine wr ?_
   refine da ?_
   refine D_end (hK10 _ _ ?_)
   refine W_ret ?_
   try dsimp only [then', inBlk, noGo]
   refine ro ?_
   refine ⟨_, rfl, hx, -1, rfl, ?_⟩
   rw [List.take_of_length_le (by omega)] at ha
   rw [ha]; simp

set_option maxRecDepth 100000 in
set_option maxHeartbeats 1000000 in
theorem containsS_w (l : List Str) (v : Value) (f : Nat) (cs : List Value) (p : Str → Bool) (w : World) (hv : Arr sEnc 1 w v l) (hl : l.length ≤ 140737488355328) (hcb : callB Tryz.prog f = true) (hc : ∀ w2, Ext w w2 → ∀ x ∈ l, Calls Tryz.prog f ([S x] ++ cs).toArray w2 (Pure w2 (B (p x)))) :
  Calls Tryz.prog 47 [v, fnC f cs].toArray w (Pure w (B (l.any p))) := by
 refine calls_W Tryz.func47 rfl rfl rfl (by kernel_rfl) ?_
 have hx := Ext.refl w
 refine W_seq fun K1 hK1 => ?_
 refine wr ?_
 refine da ?_
 refine D_end (hK1 _ _ ?_)
 refine W_seq fun K2 hK2 => ?_
 refine wr ?_
 iterate 2 refine dm ?_
 refine D_callG rfl (by kernel_rfl) (indexS_w l v f cs p _ (hv.ext hx) hl hcb (fun w2 x2 => hc w2 (hx.trans x2))) rfl RX.all (fun u1 w1 x1 hf1 => ?_)
 have hsz1 := hx.size
 replace hx := hx.trans x1
 obtain ⟨i, rfl, hi⟩ := hf1
 refine dp (pv_geq rfl rfl) ?_
 refine da ?_
 refine D_end (hK2 _ _ ?_)
 refine W_ret ?_
 try dsimp only [then', inBlk, noGo]
 refine ro ?_
 refine ⟨?_, hx⟩
 congr 2
 rw [Bool.eq_iff_iff, decide_eq_true_iff]; exact hi

set_option maxRecDepth 100000 in
set_option maxHeartbeats 1000000 in
theorem truth_w (l : List Str) (v : Value) (f : Nat) (cs : List Value) (p : Str → Bool) (w : World) (hv : Arr sEnc 1 w v l) (hl : l.length ≤ 140737488355328) (hcb : callB Tryz.prog f = true) (hc : ∀ w2, Ext w w2 → ∀ x ∈ l, Calls Tryz.prog f ([S x] ++ cs).toArray w2 (Pure w2 (B (p x)))) :
  Calls Tryz.prog 20 [v, fnC f cs].toArray w (Pure w (I (someV (l.any p)))) := by
 refine calls_W Tryz.func20 rfl rfl rfl (by kernel_rfl) ?_
 have hx := Ext.refl w
 refine W_seq fun K1 hK1 => ?_
 refine wr ?_
 refine da ?_
 refine D_end (hK1 _ _ ?_)
 refine W_seq fun K2 hK2 => ?_
 refine W_seq fun K3 hK3 => ?_
 refine wr ?_
 iterate 2 refine dm ?_
 refine D_callP rfl (by kernel_rfl) (containsS_w l v f cs p _ (hv.ext hx) hl hcb (fun w2 x2 => hc w2 (hx.trans x2))) rfl RX.all (fun w1 x1 => ?_)
 replace hx := hx.trans x1
 refine D_end (hK3 _ _ ?_)
 refine W_cond rfl (fun c1 => ?_) (fun c1 => ?_)
 ·
  refine W_seq fun K4 hK4 => ?_
  refine wr ?_
  refine da ?_
  refine D_end (hK4 _ _ ?_)
  refine W_ret ?_
  try dsimp only [then', inBlk, noGo]
  refine ro ?_
  exact ⟨by rw [c1] <;> rfl, hx⟩
 ·
  refine W_skip ?_
  refine hK2 _ _ ?_
  refine W_seq fun K5 hK5 => ?_
  refine wr ?_
  refine da ?_
  refine D_end (hK5 _ _ ?_)
  refine W_ret ?_
  try dsimp only [then', inBlk, noGo]
  refine ro ?_
  exact ⟨by rw [c1] <;> rfl, hx⟩

set_option maxRecDepth 100000 in
set_option maxHeartbeats 1000000 in
theorem item1_w (x : Str) (w : World) :
  Calls Tryz.prog 21 [S x].toArray w (Pure w (B true)) := by
 refine calls_W Tryz.func21 rfl rfl rfl (by kernel_rfl) ?_
 have hx := Ext.refl w
 refine W_seq fun K1 hK1 => ?_
 refine wr ?_
 refine da ?_
 refine D_end (hK1 _ _ ?_)
 refine W_seq fun K2 hK2 => ?_
 refine wr ?_
 refine da ?_
 refine D_end (hK2 _ _ ?_)
 refine W_ret ?_
 try dsimp only [then', inBlk, noGo]
 refine ro ?_
 exact ⟨rfl, hx⟩

set_option maxRecDepth 100000 in
set_option maxHeartbeats 1000000 in
theorem item2_w (kd y : Int) (x typ val : Str) (v3 v4 : Value) (by_ bf : Nat) (w : World) (hY : Blk w by_ [I y] 3) (hF : Blk w bf [I kd, S typ, S val, v3, v4] 25) (hg : GV w) (subs : List Str) (hs : Arr sEnc 1 w v3 subs) (hsb : ∀ p ∈ subs, p.length ≤ 900000) (hx1 : x.length ≤ 140737488355328) (hv1 : val.length ≤ 140737488355328) :
  Calls Tryz.prog 22 [S x, ptr by_ 0, ptr bf 0].toArray w (Pure w (B (subM y x subs).1)) := by
 refine calls_W Tryz.func22 rfl rfl rfl (by kernel_rfl) ?_
 have hx := Ext.refl w
 refine W_seq fun K1 hK1 => ?_
 refine wr ?_
 refine da ?_
 refine D_end (hK1 _ _ ?_)
 refine W_seq fun K2 hK2 => ?_
 refine wr ?_
 refine dq (lv_load (by kernel_rfl) rfl ((hY.ext hx).at rfl)) ?_
 refine dm ?_
 refine dp (pv_fieldA (k := 3) (by kernel_rfl) rfl) ?_
 refine dq (lv_load (by kernel_rfl) rfl ((hF.ext hx).at rfl)) ?_
 refine D_callP rfl (by kernel_rfl) (sub_w y x subs v3 _ (hg.ext hx) (hs.ext hx) hx1 hsb) rfl RX.all (fun w1 x1 => ?_)
 replace hx := hx.trans x1
 refine dm ?_
 refine dp (pv_ext rfl rfl) ?_
 refine dp (pv_ext rfl rfl) ?_
 iterate 2 refine da ?_
 refine D_end (hK2 _ _ ?_)
 refine W_seq fun K3 hK3 => ?_
 refine wr ?_
 iterate 2 refine dm ?_
 refine D_split 16 rfl (fun c1 => ?_) (fun c1 => ?_)
 ·
  refine dm ?_
  refine dk' ?_
  refine da ?_
  refine D_end (hK3 _ _ ?_)
  refine W_ret ?_
  try dsimp only [then', inBlk, noGo]
  refine ro ?_
  refine ⟨?_, hx⟩
  first | (rw [← sub_and]; done) | (rw [← sub_and]; simp [c1])
 ·
  refine dk ?_
  refine dk' ?_
  refine da ?_
  refine D_end (hK3 _ _ ?_)
  refine W_ret ?_
  try dsimp only [then', inBlk, noGo]
  refine ro ?_
  refine ⟨?_, hx⟩
  first | (rw [← sub_and]; done) | (rw [← sub_and]; simp [c1])

set_option maxRecDepth 100000 in
set_option maxHeartbeats 1000000 in
theorem item3_w (kd y : Int) (x typ val : Str) (v3 v4 : Value) (by_ bf : Nat) (w : World) (hY : Blk w by_ [I y] 3) (hF : Blk w bf [I kd, S typ, S val, v3, v4] 25) (hg : GV w) (hx1 : x.length ≤ 140737488355328) (hv1 : val.length ≤ 140737488355328) :
  Calls Tryz.prog 24 [S x, ptr by_ 0, ptr bf 0].toArray w (Pure w (B (equalM y x val))) := by
 refine calls_W Tryz.func24 rfl rfl rfl (by kernel_rfl) ?_
 have hx := Ext.refl w
 refine W_seq fun K1 hK1 => ?_
 refine wr ?_
 refine da ?_
 refine D_end (hK1 _ _ ?_)
 refine W_seq fun K2 hK2 => ?_
 refine wr ?_
 refine dq (lv_load (by kernel_rfl) rfl ((hY.ext hx).at rfl)) ?_
 refine dm ?_
 refine dp (pv_fieldA (k := 2) (by kernel_rfl) rfl) ?_
 refine dq (lv_load (by kernel_rfl) rfl ((hF.ext hx).at rfl)) ?_
 refine D_callP rfl (by kernel_rfl) (equalM_w y x val _ (hg.ext hx) hx1 hv1) rfl RX.all (fun w1 x1 => ?_)
 replace hx := hx.trans x1
 refine da ?_
 refine D_end (hK2 _ _ ?_)
 refine W_ret ?_
 try dsimp only [then', inBlk, noGo]
 refine ro ?_
 exact ⟨rfl, hx⟩

set_option maxRecDepth 100000 in
set_option maxHeartbeats 1000000 in
theorem comp1_w (kd y : Int) (x typ val : Str) (v3 v4 : Value) (by_ bf : Nat) (w : World) (hY : Blk w by_ [I y] 3) (hF : Blk w bf [I kd, S typ, S val, v3, v4] 25) (hg : GV w) (hx1 : x.length ≤ 140737488355328) (hv1 : val.length ≤ 140737488355328) (subs : List Str) (hkd : kd = 5 ∨ kd = 6) (hy3 : y ≠ 3) :
  Calls Tryz.prog 53 [S x, ptr by_ 0, ptr bf 0].toArray w (Pure w (B (fitM kd y val subs x))) := by
 refine calls_W Tryz.func53 rfl rfl rfl (by kernel_rfl) ?_
 have hx := Ext.refl w
 refine W_seq fun K1 hK1 => ?_
 refine wr ?_
 refine da ?_
 refine D_end (hK1 _ _ ?_)
 refine W_seq fun K2 hK2 => ?_
 refine wr ?_
 refine dq (lv_load (by kernel_rfl) rfl ((hY.ext hx).at rfl)) ?_
 refine dm ?_
 refine dp (pv_fieldA (k := 2) (by kernel_rfl) rfl) ?_
 refine dq (lv_load (by kernel_rfl) rfl ((hF.ext hx).at rfl)) ?_
 refine D_callP rfl (by kernel_rfl) (less_w y x val _ (hg.ext hx) hx1 hv1) rfl RX.all (fun w1 x1 => ?_)
 replace hx := hx.trans x1
 refine dm ?_
 refine dp (pv_ext rfl rfl) ?_
 refine dp (pv_ext rfl rfl) ?_
 iterate 2 refine da ?_
 refine D_end (hK2 _ _ ?_)
 refine W_seq fun K3 hK3 => ?_
 refine W_seq fun K4 hK4 => ?_
 refine wr ?_
 refine dp (pv_fieldA (k := 0) (by kernel_rfl) rfl) ?_
 refine dq (lv_load (by kernel_rfl) rfl ((hF.ext hx).at rfl)) ?_
 refine dp (pv_eql rfl rfl) ?_
 refine D_end (hK4 _ _ ?_)
 refine W_if rfl (fun c1 => ?_) (fun c1 => ?_)
 ·
  refine W_seq fun K5 hK5 => ?_
  refine wr ?_
  iterate 2 refine dm ?_
  refine D_split 19 rfl (fun c2 => ?_) (fun c2 => ?_)
  ·
   refine dm ?_
   refine dn ?_
   refine dk' ?_
   refine da ?_
   refine D_end (hK5 _ _ ?_)
   refine W_ret ?_
   try dsimp only [then', inBlk, noGo]
   refine ro ?_
   refine ⟨?_, hx⟩
   unfold fitM
   first | (rw [if_neg (by omega), if_pos c1]; simp [*]; done) | (rw [if_neg (by omega), if_neg (by omega), if_pos (by omega), ← less_or hy3]; simp [*]; done)
  ·
   iterate 2 refine dk ?_
   refine dk' ?_
   refine da ?_
   refine D_end (hK5 _ _ ?_)
   refine W_ret ?_
   try dsimp only [then', inBlk, noGo]
   refine ro ?_
   refine ⟨?_, hx⟩
   unfold fitM
   first | (rw [if_neg (by omega), if_pos c1]; simp [*]; done) | (rw [if_neg (by omega), if_neg (by omega), if_pos (by omega), ← less_or hy3]; simp [*]; done)
 ·
  refine W_skip ?_
  refine hK3 _ _ ?_
  refine W_seq fun K6 hK6 => ?_
  refine wr ?_
  iterate 2 refine dm ?_
  refine D_split 24 rfl (fun c3 => ?_) (fun c3 => ?_)
  ·
   refine dm ?_
   refine dk' ?_
   refine dm ?_
   refine D_split 27 rfl (fun c4 => ?_) (fun c4 => ?_)
   ·
    iterate 5 refine dk ?_
    refine dk' ?_
    refine da ?_
    refine D_end (hK6 _ _ ?_)
    refine W_ret ?_
    try dsimp only [then', inBlk, noGo]
    refine ro ?_
    refine ⟨?_, hx⟩
    unfold fitM
    first | (rw [if_neg (by omega), if_pos c1]; simp [*]; done) | (rw [if_neg (by omega), if_neg (by omega), if_pos (by omega), ← less_or hy3]; simp [*]; done)
   ·
    refine dq (lv_load (by kernel_rfl) rfl ((hY.ext hx).at rfl)) ?_
    refine dm ?_
    refine dp (pv_fieldA (k := 2) (by kernel_rfl) rfl) ?_
    refine dq (lv_load (by kernel_rfl) rfl ((hF.ext hx).at rfl)) ?_
    refine D_callP rfl (by kernel_rfl) (equalM_w y x val _ (hg.ext hx) hx1 hv1) rfl RX.all (fun w2 x2 => ?_)
    replace hx := hx.trans x2
    refine dk' ?_
    refine da ?_
    refine D_end (hK6 _ _ ?_)
    refine W_ret ?_
    try dsimp only [then', inBlk, noGo]
    refine ro ?_
    refine ⟨?_, hx⟩
    unfold fitM
    first | (rw [if_neg (by omega), if_pos c1]; simp [*]; done) | (rw [if_neg (by omega), if_neg (by omega), if_pos (by omega), ← less_or hy3]; simp [*]; done)
  ·
   refine dk ?_
   refine dk' ?_
   refine dm ?_
   refine dq (lv_load (by kernel_rfl) rfl ((hY.ext hx).at rfl)) ?_
   refine dm ?_
   refine dp (pv_fieldA (k := 2) (by kernel_rfl) rfl) ?_
   refine dq (lv_load (by kernel_rfl) rfl ((hF.ext hx).at rfl)) ?_
   refine D_callP rfl (by kernel_rfl) (equalM_w y x val _ (hg.ext hx) hx1 hv1) rfl RX.all (fun w3 x3 => ?_)
   replace hx := hx.trans x3
   refine dk' ?_
   refine da ?_
   refine D_end (hK6 _ _ ?_)
   refine W_ret ?_
   try dsimp only [then', inBlk, noGo]
   refine ro ?_
   refine ⟨?_, hx⟩
   unfold fitM
   first | (rw [if_neg (by omega), if_pos c1]; simp [*]; done) | (rw [if_neg (by omega), if_neg (by omega), if_pos (by omega), ← less_or hy3]; simp [*]; done)

set_option maxRecDepth 100000 in
set_option maxHeartbeats 1000000 in
theorem compares_w (kd y : Int) (typ val : Str) (v3 v4 vv : Value) (subs vals : List Str) (w : World) (hg : GV w) (hvv : Arr sEnc 1 w vv vals) (hl : vals.length ≤ 140737488355328) (hvs : ∀ x ∈ vals, x.length ≤ 140737488355328) (hv1 : val.length ≤ 140737488355328) (hkd : kd = 5 ∨ kd = 6) :
  Calls Tryz.prog 26 [.agg ⟨[I kd, S typ, S val, v3, v4]⟩, I y, vv].toArray w (Pure w (I (if y = 3 then 2 else someV (vals.any (fitM kd y val subs))))) := by
 refine calls_W Tryz.func26 rfl rfl rfl (by kernel_rfl) ?_
 have hx := Ext.refl w
 refine W_seq fun K1 hK1 => ?_
 refine wr ?_
 refine D_box rfl rfl rfl RX.all (fun b1 w1 e1 x1 m1 => ?_)
 have g1 : w.heap.size ≤ b1 := by have := hx.size; omega
 replace hx := hx.trans x1
 refine D_box rfl rfl rfl RX.all (fun b2 w2 e2 x2 m2 => ?_)
 have g2 : w.heap.size ≤ b2 := by have := hx.size; omega
 have n2_1 : b1 < b2 := by have := m1.lt; omega
 replace m1 := m1.ext x2
 replace hx := hx.trans x2
 refine da ?_
 refine D_end (hK1 _ _ ?_)
 refine W_seq fun K2 hK2 => ?_
 refine W_seq fun K3 hK3 => ?_
 refine wr ?_
 refine dq (lv_load (by kernel_rfl) rfl (m2.at rfl)) ?_
 refine dp (pv_eql rfl rfl) ?_
 refine D_end (hK3 _ _ ?_)
 refine W_if rfl (fun c1 => ?_) (fun c1 => ?_)
 ·
  refine W_seq fun K4 hK4 => ?_
  refine wr ?_
  refine da ?_
  refine D_end (hK4 _ _ ?_)
  refine W_ret ?_
  try dsimp only [then', inBlk, noGo]
  refine ro ?_
  exact ⟨by rw [if_pos c1], hx⟩
 ·
  refine W_skip ?_
  refine hK2 _ _ ?_
  refine W_seq fun K5 hK5 => ?_
  refine wr ?_
  refine dm ?_
  refine dp (pv_makeFunc rfl) ?_
  refine D_callP rfl (by kernel_rfl) (truth_w vals vv 53 [ptr b2 0, ptr b1 0] (fitM kd y val subs) _ (hvv.ext hx) hl (by kernel_rfl) (fun w2 x2 x hxm => comp1_w kd y x typ val v3 v4 b2 b1 w2 (m2.ext x2) (m1.ext x2) (hg.ext (hx.trans x2)) (hvs x hxm) hv1 subs hkd c1)) rfl RX.all (fun w3 x3 => ?_)
  replace m1 := m1.ext x3
  replace m2 := m2.ext x3
  replace hx := hx.trans x3
  refine da ?_
  refine D_end (hK5 _ _ ?_)
  refine W_ret ?_
  try dsimp only [then', inBlk, noGo]
  refine ro ?_
  exact ⟨by rw [if_neg c1], hx⟩

set_option maxRecDepth 100000 in
set_option maxHeartbeats 1000000 in
theorem item_w (kd : Int) (typ val : Str) (v3 v4 vv : Value) (subs vals : List Str) (w : World) (hg : GV w) (hs : Arr sEnc 1 w v3 subs) (hsb : ∀ p ∈ subs, p.length ≤ 900000) (hvv : Arr sEnc 1 w vv vals) (hl : vals.length ≤ 140737488355328) (hvs : ∀ x ∈ vals, x.length ≤ 140737488355328) (ht : typ.length ≤ 1000000) (hv1 : val.length ≤ 140737488355328) :
  Calls Tryz.prog 12 [.agg ⟨[I kd, S typ, S val, v3, v4]⟩, vv].toArray w (Pure w (I (itemM kd typ val subs vals))) := by
 refine calls_W Tryz.func12 rfl rfl rfl (by kernel_rfl) ?_
 have hx := Ext.refl w
 refine W_seq fun K1 hK1 => ?_
 refine wr ?_
 refine D_box rfl rfl rfl RX.all (fun b1 w1 e1 x1 m1 => ?_)
 have g1 : w.heap.size ≤ b1 := by have := hx.size; omega
 replace hx := hx.trans x1
 refine da ?_
 refine D_end (hK1 _ _ ?_)
 refine W_seq fun K2 hK2 => ?_
 refine wr ?_
 refine dp (pv_fieldA (k := 1) (by kernel_rfl) rfl) ?_
 refine dq (lv_load (by kernel_rfl) rfl (m1.at rfl)) ?_
 refine D_callP rfl (by kernel_rfl) (typeT_w typ _ ht) rfl RX.all (fun w2 x2 => ?_)
 replace m1 := m1.ext x2
 replace hx := hx.trans x2
 refine dm ?_
 refine dp (pv_ext rfl rfl) ?_
 refine dp (pv_ext rfl rfl) ?_
 refine dp (pv_ext rfl rfl) ?_
 refine dp (pv_ext rfl rfl) ?_
 refine D_alloc (cs := [.int .i64 0]) rfl (by kernel_rfl) RX.all (fun b2 w3 e2 x3 m2 => ?_)
 have g2 : w.heap.size ≤ b2 := by have := hx.size; omega
 have n2_1 : b1 < b2 := by have := m1.lt; omega
 replace m1 := m1.ext x3
 replace hx := hx.trans x3
 refine da ?_
 refine D_store1 (v := ?v4) rfl rfl ?h4 ?n4 (by kernel_rfl) m2 ?o4 (.inl rfl) (fun w4 x4 xs4 m2 => ?k4)
 case h4 => conv => lhs; whnf
 case n4 => first | rfl | exact isSl.one m1.sl | exact isSl.one hg.sl | exact isSl.one hs.sl | exact isSl.one hvv.sl
 case o4 => exact Nat.le_of_ble_eq_true rfl
 try dsimp only [setAt, List.set, List.take, List.drop] at m2
 try replace m1 := m1.mod x4 (by first | assumption | (intro k hk h; have h1 := (m1.lt k hk).1; have h2 : k = b2 := h; omega) | (intro k hk h; have h1 := o2_m1 k hk; have h2 : k = b2 := h; omega) | (intro h; have h2 : _ = b2 := h; omega) | (intro hl h; have h1 := a2_m1 hl; have h2 : _ = b2 := h; omega))
 replace hx := hx.own x4 (by intro i hi; have hi2 : i = b2 := hi; subst hi2; omega)
 iterate 2 refine da ?_
 refine D_end (hK2 _ _ ?_)
 refine W_seq fun K3 hK3 => ?_
 refine W_seq fun K4 hK4 => ?_
 refine wr ?_
 refine dm ?_
 refine dn ?_
 refine D_end (hK4 _ _ ?_)
 refine W_cond rfl (fun c1 => ?_) (fun c1 => ?_)
 ·
  refine W_seq fun K5 hK5 => ?_
  refine wr ?_
  refine da ?_
  refine D_end (hK5 _ _ ?_)
  refine W_ret ?_
  try dsimp only [then', inBlk, noGo]
  refine ro ?_
  exact ⟨by rw [itemM_off (by simpa using c1)], hx⟩
 ·
  have hok : tOk typ = true := by simpa using c1
  have hin := tY_in hok
  refine W_skip ?_
  refine hK3 _ _ ?_
  refine W_seq fun K6 hK6 => ?_
  refine wr ?_
  refine dq (lv_load (by kernel_rfl) rfl (m2.at rfl)) ?_
  refine dp (pv_fieldA (k := 2) (by kernel_rfl) rfl) ?_
  refine dq (lv_load (by kernel_rfl) rfl (m1.at rfl)) ?_
  refine D_callP rfl (by kernel_rfl) (normM_w (tY typ) val _ (hg.ext hx) hv1) rfl RX.all (fun w5 x5 => ?_)
  replace m1 := m1.ext x5
  replace m2 := m2.ext x5
  replace hx := hx.trans x5
  refine dm ?_
  refine dp (pv_ext rfl rfl) ?_
  refine dp (pv_ext rfl rfl) ?_
  iterate 2 refine da ?_
  refine D_end (hK6 _ _ ?_)
  refine W_seq fun K7 hK7 => ?_
  refine W_seq fun K8 hK8 => ?_
  refine wr ?_
  refine dp (pv_fieldA (k := 0) (by kernel_rfl) rfl) ?_
  refine dq (lv_load (by kernel_rfl) rfl (m1.at rfl)) ?_
  refine D_end (hK8 _ _ ?_)
  refine W_block ?_
  refine W_seq fun K9 hK9 => ?_
  refine wr ?_
  refine dp (pv_eql rfl rfl) ?_
  refine da ?_
  refine D_end (hK9 _ _ ?_)
  refine W_if rfl (fun c2 => ?_) (fun c2 => ?_)
  ·
   refine W_seq fun K10 hK10 => ?_
   refine wr ?_
   refine dm ?_
   refine D_callP rfl (by kernel_rfl) (truth_w vals vv 21 [] (fun _ => true) _ (hvv.ext hx) hl (by kernel_rfl) (fun w2 x2 x hxm => item1_w x w2)) rfl RX.all (fun w6 x6 => ?_)
   replace m1 := m1.ext x6
   replace m2 := m2.ext x6
   replace hx := hx.trans x6
   refine da ?_
   refine D_end (hK10 _ _ ?_)
   refine W_ret ?_
   try dsimp only [then', inBlk, noGo]
   refine ro ?_
   exact ⟨by rw [itemM_7 hok c2, any_true], hx⟩
  ·
   refine W_seq fun K11 hK11 => ?_
   refine wr ?_
   refine dp (pv_eql rfl rfl) ?_
   refine da ?_
   refine D_end (hK11 _ _ ?_)
   refine W_if rfl (fun c3 => ?_) (fun c3 => ?_)
   ·
    refine W_seq fun K12 hK12 => ?_
    refine W_seq fun K13 hK13 => ?_
    refine wr ?_
    refine dq (lv_load (by kernel_rfl) rfl (m2.at rfl)) ?_
    refine dp (pv_eql rfl rfl) ?_
    refine dm ?_
    refine D_splitP 38 rfl (fun c4 => ?_) (fun c4 => ?_)
    ·
     iterate 2 refine dk ?_
     refine dk' ?_
     refine dm ?_
     iterate 4 refine dk ?_
     refine dk' ?_
     refine dm ?_
     iterate 4 refine dk ?_
     refine dk' ?_
     refine D_end (hK13 _ _ ?_)
     refine W_t rfl ?_
     refine W_seq fun K14 hK14 => ?_
     refine wr ?_
     refine da ?_
     refine D_end (hK14 _ _ ?_)
     refine W_ret ?_
     try dsimp only [then', inBlk, noGo]
     refine ro ?_
     exact ⟨by rw [itemM_no hok c2 (asks4_no c3 (by omega))], hx⟩
    ·
     refine dq (lv_load (by kernel_rfl) rfl (m2.at rfl)) ?_
     refine dp (pv_eql rfl rfl) ?_
     refine dk' ?_
     refine dm ?_
     refine D_splitP 42 rfl (fun c5 => ?_) (fun c5 => ?_)
     ·
      iterate 4 refine dk ?_
      refine dk' ?_
      refine dm ?_
      iterate 4 refine dk ?_
      refine dk' ?_
      refine D_end (hK13 _ _ ?_)
      refine W_t rfl ?_
      refine W_seq fun K15 hK15 => ?_
      refine wr ?_
      refine da ?_
      refine D_end (hK15 _ _ ?_)
      refine W_ret ?_
      try dsimp only [then', inBlk, noGo]
      refine ro ?_
      exact ⟨by rw [itemM_no hok c2 (asks4_no c3 (by omega))], hx⟩
     ·
      refine dp (pv_fieldA (k := 3) (by kernel_rfl) rfl) ?_
      refine dq (lv_load (by kernel_rfl) rfl (m1.at rfl)) ?_
      refine dp (pv_lenV (e := 9) (k := 1) (by kernel_rfl) hs.sl rfl) ?_
      refine dp (pv_lss rfl rfl) ?_
      refine dk' ?_
      refine dm ?_
      refine D_splitP 48 rfl (fun c6 => ?_) (fun c6 => ?_)
      ·
       iterate 4 refine dk ?_
       refine dk' ?_
       refine D_end (hK13 _ _ ?_)
       refine W_t rfl ?_
       refine W_seq fun K16 hK16 => ?_
       refine wr ?_
       refine da ?_
       refine D_end (hK16 _ _ ?_)
       refine W_ret ?_
       try dsimp only [then', inBlk, noGo]
       refine ro ?_
       exact ⟨by rw [itemM_no hok c2 (asks4_no c3 (by omega))], hx⟩
      ·
       refine dp (pv_fieldA (k := 3) (by kernel_rfl) rfl) ?_
       refine dq (lv_load (by kernel_rfl) rfl (m1.at rfl)) ?_
       refine dp (pv_lenV (e := 9) (k := 1) (by kernel_rfl) hs.sl rfl) ?_
       refine dp (pv_gtr rfl rfl) ?_
       refine dk' ?_
       refine D_end (hK13 _ _ ?_)
       refine W_if rfl (fun c7 => ?_) (fun c7 => ?_)
       ·
        refine W_seq fun K17 hK17 => ?_
        refine wr ?_
        refine da ?_
        refine D_end (hK17 _ _ ?_)
        refine W_ret ?_
        try dsimp only [then', inBlk, noGo]
        refine ro ?_
        exact ⟨by rw [itemM_no hok c2 (asks4_no c3 (by omega))], hx⟩
       ·
        refine W_skip ?_
        refine hK12 _ _ ?_
        refine W_seq fun K18 hK18 => ?_
        refine wr ?_
        refine dm ?_
        refine dp (pv_makeFunc rfl) ?_
        refine D_callP rfl (by kernel_rfl) (truth_w vals vv 22 [ptr b2 0, ptr b1 0] (fun x => (subM (tY typ) x subs).1) _ (hvv.ext hx) hl (by kernel_rfl) (fun w2 x2 x hxm => item2_w kd (tY typ) x typ val v3 v4 b2 b1 w2 (m2.ext x2) (m1.ext x2) (hg.ext (hx.trans x2)) subs (hs.ext (hx.trans x2)) hsb (hvs x hxm) hv1)) rfl RX.all (fun w7 x7 => ?_)
        replace m1 := m1.ext x7
        replace m2 := m2.ext x7
        replace hx := hx.trans x7
        refine da ?_
        refine D_end (hK18 _ _ ?_)
        refine W_ret ?_
        try dsimp only [then', inBlk, noGo]
        refine ro ?_
        exact ⟨by rw [itemM_yes hok c2 (asks4_yes c3 (by omega) (by omega) (by omega)), fit4 c3], hx⟩
   ·
    refine W_seq fun K19 hK19 => ?_
    refine wr ?_
    refine dp (pv_eql rfl rfl) ?_
    refine da ?_
    refine D_end (hK19 _ _ ?_)
    refine W_if rfl (fun c8 => ?_) (fun c8 => ?_)
    ·
     refine W_seq fun K20 hK20 => ?_
     refine wr ?_
     refine dm ?_
     refine D_end (hK20 _ _ ?_)
     refine W_cond rfl (fun c9 => ?_) (fun c9 => ?_)
     ·
      refine W_seq fun K21 hK21 => ?_
      refine wr ?_
      refine dm ?_
      refine dp (pv_makeFunc rfl) ?_
      refine D_callP rfl (by kernel_rfl) (truth_w vals vv 24 [ptr b2 0, ptr b1 0] (fun x => equalM (tY typ) x val) _ (hvv.ext hx) hl (by kernel_rfl) (fun w2 x2 x hxm => item3_w kd (tY typ) x typ val v3 v4 b2 b1 w2 (m2.ext x2) (m1.ext x2) (hg.ext (hx.trans x2)) (hvs x hxm) hv1)) rfl RX.all (fun w8 x8 => ?_)
      replace m1 := m1.ext x8
      replace m2 := m2.ext x8
      replace hx := hx.trans x8
      refine da ?_
      refine D_end (hK21 _ _ ?_)
      refine W_ret ?_
      try dsimp only [then', inBlk, noGo]
      refine ro ?_
      exact ⟨by rw [itemM_yes hok c2 ((asks3 c8).trans c9), fit3 c8], hx⟩
     ·
      refine W_skip ?_
      refine hK7 _ _ ?_
      refine W_seq fun K22 hK22 => ?_
      refine wr ?_
      refine da ?_
      refine D_end (hK22 _ _ ?_)
      refine W_ret ?_
      try dsimp only [then', inBlk, noGo]
      refine ro ?_
      exact ⟨by rw [itemM_no hok c2 ((asks3 c8).trans (by simpa using c9))], hx⟩
    ·
     refine W_seq fun K23 hK23 => ?_
     refine W_seq fun K24 hK24 => ?_
     refine wr ?_
     refine dp (pv_eql rfl rfl) ?_
     refine da ?_
     refine D_end (hK24 _ _ ?_)
     refine W_if rfl (fun c10 => ?_) (fun c10 => ?_)
     ·
      refine W_skip ?_
      refine hK23 _ _ ?_
      refine W_if rfl (fun c11 => ?_) (fun c11 => ?_)
      ·
       refine W_seq fun K25 hK25 => ?_
       refine wr ?_
       refine dm ?_
       refine D_end (hK25 _ _ ?_)
       refine W_cond rfl (fun c12 => ?_) (fun c12 => ?_)
       ·
        refine W_seq fun K26 hK26 => ?_
        refine wr ?_
        refine dq (lv_loadA (k := 5) (by kernel_rfl) rfl rfl m1.row) ?_
        refine dq (lv_load (by kernel_rfl) rfl (m2.at rfl)) ?_
        refine dm ?_
        refine D_callP rfl (by kernel_rfl) (compares_w kd (tY typ) typ val v3 v4 vv subs vals _ (hg.ext hx) (hvv.ext hx) hl hvs hv1 (by omega)) rfl RX.all (fun w9 x9 => ?_)
        replace m1 := m1.ext x9
        replace m2 := m2.ext x9
        replace hx := hx.trans x9
        refine da ?_
        refine D_end (hK26 _ _ ?_)
        refine W_ret ?_
        try dsimp only [then', inBlk, noGo]
        refine ro ?_
        exact ⟨by rw [item56 hok (.inl c10) c12], hx⟩
       ·
        refine W_skip ?_
        refine hK7 _ _ ?_
        refine W_seq fun K27 hK27 => ?_
        refine wr ?_
        refine da ?_
        refine D_end (hK27 _ _ ?_)
        refine W_ret ?_
        try dsimp only [then', inBlk, noGo]
        refine ro ?_
        exact ⟨by rw [itemM_no hok c2 (by rw [asks56 (.inl c10), show (normM (tY typ) val).isSome = false by simpa using c12]; rfl)], hx⟩
      ·
       exact absurd c10 c11
     ·
      refine wr ?_
      refine dp (pv_eql rfl rfl) ?_
      refine da ?_
      refine D_end (hK23 _ _ ?_)
      refine W_if rfl (fun c13 => ?_) (fun c13 => ?_)
      ·
       refine W_seq fun K28 hK28 => ?_
       refine wr ?_
       refine dm ?_
       refine D_end (hK28 _ _ ?_)
       refine W_cond rfl (fun c14 => ?_) (fun c14 => ?_)
       ·
        refine W_seq fun K29 hK29 => ?_
        refine wr ?_
        refine dq (lv_loadA (k := 5) (by kernel_rfl) rfl rfl m1.row) ?_
        refine dq (lv_load (by kernel_rfl) rfl (m2.at rfl)) ?_
        refine dm ?_
        refine D_callP rfl (by kernel_rfl) (compares_w kd (tY typ) typ val v3 v4 vv subs vals _ (hg.ext hx) (hvv.ext hx) hl hvs hv1 (by omega)) rfl RX.all (fun w10 x10 => ?_)
        replace m1 := m1.ext x10
        replace m2 := m2.ext x10
        replace hx := hx.trans x10
        refine da ?_
        refine D_end (hK29 _ _ ?_)
        refine W_ret ?_
        try dsimp only [then', inBlk, noGo]
        refine ro ?_
        exact ⟨by rw [item56 hok (.inr c13) c14], hx⟩
       ·
        refine W_skip ?_
        refine hK7 _ _ ?_
        refine W_seq fun K30 hK30 => ?_
        refine wr ?_
        refine da ?_
        refine D_end (hK30 _ _ ?_)
        refine W_ret ?_
        try dsimp only [then', inBlk, noGo]
        refine ro ?_
        exact ⟨by rw [itemM_no hok c2 (by rw [asks56 (.inr c13), show (normM (tY typ) val).isSome = false by simpa using c14]; rfl)], hx⟩
      ·
       refine W_skip ?_
       refine hK7 _ _ ?_
       refine W_seq fun K31 hK31 => ?_
       refine wr ?_
       refine da ?_
       refine D_end (hK31 _ _ ?_)
       refine W_ret ?_
       try dsimp only [then', inBlk, noGo]
       refine ro ?_
       exact ⟨by rw [itemM_no hok c2 (asks_no c8 c3 c10 c13)], hx⟩

set_option maxRecDepth 100000 in
set_option maxHeartbeats 1000000 in
theorem asks_w (kd y : Int) (typ val : Str) (v3 v4 : Value) (subs : List Str) (w : World) (hs : Arr sEnc 1 w v3 subs) (hv1 : val.length ≤ 140737488355328) :
  Calls Tryz.prog 28 [.agg ⟨[I kd, S typ, S val, v3, v4]⟩, I y].toArray w (Pure w (B (asksM kd y val subs.length))) := by
 refine calls_W Tryz.func28 rfl rfl rfl (by kernel_rfl) ?_
 have hx := Ext.refl w
 refine W_seq fun K1 hK1 => ?_
 refine wr ?_
 refine D_box rfl rfl rfl RX.all (fun b1 w1 e1 x1 m1 => ?_)
 have g1 : w.heap.size ≤ b1 := by have := hx.size; omega
 replace hx := hx.trans x1
 refine da ?_
 refine D_end (hK1 _ _ ?_)
 refine W_seq fun K2 hK2 => ?_
 refine wr ?_
 refine dm ?_
 refine dp (pv_fieldA (k := 2) (by kernel_rfl) rfl) ?_
 refine dq (lv_load (by kernel_rfl) rfl (m1.at rfl)) ?_
 refine D_callP rfl (by kernel_rfl) (rnormM_w y val _ hv1) rfl RX.all (fun w2 x2 => ?_)
 replace m1 := m1.ext x2
 replace hx := hx.trans x2
 refine dm ?_
 refine dp (pv_ext rfl rfl) ?_
 refine dp (pv_ext rfl rfl) ?_
 iterate 2 refine da ?_
 refine D_end (hK2 _ _ ?_)
 refine W_seq fun K3 hK3 => ?_
 refine W_seq fun K4 hK4 => ?_
 refine wr ?_
 refine dp (pv_fieldA (k := 0) (by kernel_rfl) rfl) ?_
 refine dq (lv_load (by kernel_rfl) rfl (m1.at rfl)) ?_
 refine D_end (hK4 _ _ ?_)
 refine W_block ?_
 refine W_seq fun K5 hK5 => ?_
 refine wr ?_
 refine dp (pv_eql rfl rfl) ?_
 refine da ?_
 refine D_end (hK5 _ _ ?_)
 refine W_if rfl (fun c1 => ?_) (fun c1 => ?_)
 ·
  refine W_seq fun K6 hK6 => ?_
  refine wr ?_
  refine dm ?_
  refine da ?_
  refine D_end (hK6 _ _ ?_)
  refine W_ret ?_
  try dsimp only [then', inBlk, noGo]
  refine ro ?_
  refine ⟨?_, hx⟩
  unfold asksM
  first | (simp [*]; done) | (simp [*]; omega) | (have e1 : 2 ≤ subs.length := (by omega); simp [*]; done) | (have e1 : 2 ≤ subs.length := (by omega); simp [*]; omega)
 ·
  refine W_seq fun K7 hK7 => ?_
  refine W_seq fun K8 hK8 => ?_
  refine wr ?_
  refine dp (pv_eql rfl rfl) ?_
  refine da ?_
  refine D_end (hK8 _ _ ?_)
  refine W_if rfl (fun c2 => ?_) (fun c2 => ?_)
  ·
   refine W_skip ?_
   refine hK7 _ _ ?_
   refine W_if rfl (fun c3 => ?_) (fun c3 => ?_)
   ·
    refine W_seq fun K9 hK9 => ?_
    refine wr ?_
    iterate 2 refine dm ?_
    refine D_split 23 rfl (fun c4 => ?_) (fun c4 => ?_)
    ·
     refine dm ?_
     refine dp (pv_neq rfl rfl) ?_
     refine dk' ?_
     refine da ?_
     refine D_end (hK9 _ _ ?_)
     refine W_ret ?_
     try dsimp only [then', inBlk, noGo]
     refine ro ?_
     refine ⟨?_, hx⟩
     unfold asksM
     first | (simp [*]; done) | (simp [*]; omega) | (have e1 : 2 ≤ subs.length := (by omega); simp [*]; done) | (have e1 : 2 ≤ subs.length := (by omega); simp [*]; omega)
    ·
     iterate 2 refine dk ?_
     refine dk' ?_
     refine da ?_
     refine D_end (hK9 _ _ ?_)
     refine W_ret ?_
     try dsimp only [then', inBlk, noGo]
     refine ro ?_
     refine ⟨?_, hx⟩
     unfold asksM
     first | (simp [*]; done) | (simp [*]; omega) | (have e1 : 2 ≤ subs.length := (by omega); simp [*]; done) | (have e1 : 2 ≤ subs.length := (by omega); simp [*]; omega)
   ·
    exact absurd c2 c3
  ·
   refine wr ?_
   refine dp (pv_eql rfl rfl) ?_
   refine da ?_
   refine D_end (hK7 _ _ ?_)
   refine W_if rfl (fun c5 => ?_) (fun c5 => ?_)
   ·
    refine W_seq fun K10 hK10 => ?_
    refine wr ?_
    iterate 2 refine dm ?_
    refine D_split 23 rfl (fun c6 => ?_) (fun c6 => ?_)
    ·
     refine dm ?_
     refine dp (pv_neq rfl rfl) ?_
     refine dk' ?_
     refine da ?_
     refine D_end (hK10 _ _ ?_)
     refine W_ret ?_
     try dsimp only [then', inBlk, noGo]
     refine ro ?_
     refine ⟨?_, hx⟩
     unfold asksM
     first | (simp [*]; done) | (simp [*]; omega) | (have e1 : 2 ≤ subs.length := (by omega); simp [*]; done) | (have e1 : 2 ≤ subs.length := (by omega); simp [*]; omega)
    ·
     iterate 2 refine dk ?_
     refine dk' ?_
     refine da ?_
     refine D_end (hK10 _ _ ?_)
     refine W_ret ?_
     try dsimp only [then', inBlk, noGo]
     refine ro ?_
     refine ⟨?_, hx⟩
     unfold asksM
     first | (simp [*]; done) | (simp [*]; omega) | (have e1 : 2 ≤ subs.length := (by omega); simp [*]; done) | (have e1 : 2 ≤ subs.length := (by omega); simp [*]; omega)
   ·
    refine W_seq fun K11 hK11 => ?_
    refine wr ?_
    refine dp (pv_eql rfl rfl) ?_
    refine da ?_
    refine D_end (hK11 _ _ ?_)
    refine W_if rfl (fun c7 => ?_) (fun c7 => ?_)
    ·
     refine W_seq fun K12 hK12 => ?_
     refine wr ?_
     refine dm ?_
     refine dp (pv_eql rfl rfl) ?_
     refine dm ?_
     refine D_splitP 31 rfl (fun c8 => ?_) (fun c8 => ?_)
     ·
      iterate 2 refine dk ?_
      refine dk' ?_
      refine dm ?_
      iterate 2 refine dk ?_
      refine dk' ?_
      refine dm ?_
      refine dp (pv_fieldA (k := 3) (by kernel_rfl) rfl) ?_
      refine dq (lv_load (by kernel_rfl) rfl (m1.at rfl)) ?_
      refine dp (pv_lenV (e := 9) (k := 1) (by kernel_rfl) hs.sl rfl) ?_
      refine dp (pv_geq rfl rfl) ?_
      refine dk' ?_
      refine dm ?_
      refine D_splitP 45 rfl (fun c9 => ?_) (fun c9 => ?_)
      ·
       refine dp (pv_fieldA (k := 3) (by kernel_rfl) rfl) ?_
       refine dq (lv_load (by kernel_rfl) rfl (m1.at rfl)) ?_
       refine dp (pv_lenV (e := 9) (k := 1) (by kernel_rfl) hs.sl rfl) ?_
       refine dp (pv_leq rfl rfl) ?_
       refine dk' ?_
       refine da ?_
       refine D_end (hK12 _ _ ?_)
       refine W_ret ?_
       try dsimp only [then', inBlk, noGo]
       refine ro ?_
       refine ⟨?_, hx⟩
       unfold asksM
       first | (simp [*]; done) | (simp [*]; omega) | (have e1 : 2 ≤ subs.length := (by omega); simp [*]; done) | (have e1 : 2 ≤ subs.length := (by omega); simp [*]; omega)
      ·
       iterate 4 refine dk ?_
       refine dk' ?_
       refine da ?_
       refine D_end (hK12 _ _ ?_)
       refine W_ret ?_
       try dsimp only [then', inBlk, noGo]
       refine ro ?_
       refine ⟨?_, hx⟩
       unfold asksM
       first | (simp [*]; done) | (simp [*]; omega) | (have e1 : 2 ≤ subs.length := (by omega); simp [*]; done) | (have e1 : 2 ≤ subs.length := (by omega); simp [*]; omega)
     ·
      refine dm ?_
      refine dp (pv_eql rfl rfl) ?_
      refine dk' ?_
      refine dm ?_
      refine D_splitP 35 rfl (fun c10 => ?_) (fun c10 => ?_)
      ·
       iterate 2 refine dk ?_
       refine dk' ?_
       refine dm ?_
       refine dp (pv_fieldA (k := 3) (by kernel_rfl) rfl) ?_
       refine dq (lv_load (by kernel_rfl) rfl (m1.at rfl)) ?_
       refine dp (pv_lenV (e := 9) (k := 1) (by kernel_rfl) hs.sl rfl) ?_
       refine dp (pv_geq rfl rfl) ?_
       refine dk' ?_
       refine dm ?_
       refine D_splitP 45 rfl (fun c11 => ?_) (fun c11 => ?_)
       ·
        refine dp (pv_fieldA (k := 3) (by kernel_rfl) rfl) ?_
        refine dq (lv_load (by kernel_rfl) rfl (m1.at rfl)) ?_
        refine dp (pv_lenV (e := 9) (k := 1) (by kernel_rfl) hs.sl rfl) ?_
        refine dp (pv_leq rfl rfl) ?_
        refine dk' ?_
        refine da ?_
        refine D_end (hK12 _ _ ?_)
        refine W_ret ?_
        try dsimp only [then', inBlk, noGo]
        refine ro ?_
        refine ⟨?_, hx⟩
        unfold asksM
        first | (simp [*]; done) | (simp [*]; omega) | (have e1 : 2 ≤ subs.length := (by omega); simp [*]; done) | (have e1 : 2 ≤ subs.length := (by omega); simp [*]; omega)
       ·
        iterate 4 refine dk ?_
        refine dk' ?_
        refine da ?_
        refine D_end (hK12 _ _ ?_)
        refine W_ret ?_
        try dsimp only [then', inBlk, noGo]
        refine ro ?_
        refine ⟨?_, hx⟩
        unfold asksM
        first | (simp [*]; done) | (simp [*]; omega) | (have e1 : 2 ≤ subs.length := (by omega); simp [*]; done) | (have e1 : 2 ≤ subs.length := (by omega); simp [*]; omega)
      ·
       refine dm ?_
       refine dp (pv_eql rfl rfl) ?_
       refine dk' ?_
       refine dm ?_
       refine D_splitP 39 rfl (fun c12 => ?_) (fun c12 => ?_)
       ·
        refine dp (pv_fieldA (k := 3) (by kernel_rfl) rfl) ?_
        refine dq (lv_load (by kernel_rfl) rfl (m1.at rfl)) ?_
        refine dp (pv_lenV (e := 9) (k := 1) (by kernel_rfl) hs.sl rfl) ?_
        refine dp (pv_geq rfl rfl) ?_
        refine dk' ?_
        refine dm ?_
        refine D_splitP 45 rfl (fun c13 => ?_) (fun c13 => ?_)
        ·
         refine dp (pv_fieldA (k := 3) (by kernel_rfl) rfl) ?_
         refine dq (lv_load (by kernel_rfl) rfl (m1.at rfl)) ?_
         refine dp (pv_lenV (e := 9) (k := 1) (by kernel_rfl) hs.sl rfl) ?_
         refine dp (pv_leq rfl rfl) ?_
         refine dk' ?_
         refine da ?_
         refine D_end (hK12 _ _ ?_)
         refine W_ret ?_
         try dsimp only [then', inBlk, noGo]
         refine ro ?_
         refine ⟨?_, hx⟩
         unfold asksM
         first | (simp [*]; done) | (simp [*]; omega) | (have e1 : 2 ≤ subs.length := (by omega); simp [*]; done) | (have e1 : 2 ≤ subs.length := (by omega); simp [*]; omega)
        ·
         iterate 4 refine dk ?_
         refine dk' ?_
         refine da ?_
         refine D_end (hK12 _ _ ?_)
         refine W_ret ?_
         try dsimp only [then', inBlk, noGo]
         refine ro ?_
         refine ⟨?_, hx⟩
         unfold asksM
         first | (simp [*]; done) | (simp [*]; omega) | (have e1 : 2 ≤ subs.length := (by omega); simp [*]; done) | (have e1 : 2 ≤ subs.length := (by omega); simp [*]; omega)
       ·
        iterate 4 refine dk ?_
        refine dk' ?_
        refine dm ?_
        iterate 4 refine dk ?_
        refine dk' ?_
        refine da ?_
        refine D_end (hK12 _ _ ?_)
        refine W_ret ?_
        try dsimp only [then', inBlk, noGo]
        refine ro ?_
        refine ⟨?_, hx⟩
        unfold asksM
        first | (simp [*]; done) | (simp [*]; omega) | (have e1 : 2 ≤ subs.length := (by omega); simp [*]; done) | (have e1 : 2 ≤ subs.length := (by omega); simp [*]; omega)
    ·
     refine W_skip ?_
     refine hK3 _ _ ?_
     refine W_seq fun K13 hK13 => ?_
     refine wr ?_
     refine da ?_
     refine D_end (hK13 _ _ ?_)
     refine W_ret ?_
     try dsimp only [then', inBlk, noGo]
     refine ro ?_
     refine ⟨?_, hx⟩
     unfold asksM
     first | (simp [*]; done) | (simp [*]; omega) | (have e1 : 2 ≤ subs.length := (by omega); simp [*]; done) | (have e1 : 2 ≤ subs.length := (by omega); simp [*]; omega)

set_option maxRecDepth 100000 in
set_option maxHeartbeats 1000000 in
theorem fitsM_w (kd y : Int) (x typ val : Str) (v3 v4 : Value) (subs : List Str) (w : World) (hs : Arr sEnc 1 w v3 subs) (hsb : ∀ p ∈ subs, p.length ≤ 900000) (hx1 : x.length ≤ 140737488355328) (hv1 : val.length ≤ 140737488355328) :
  Calls Tryz.prog 29 [.agg ⟨[I kd, S typ, S val, v3, v4]⟩, I y, S x].toArray w (Pure w (B (fitM kd y val subs x))) := by
 refine calls_W Tryz.func29 rfl rfl rfl (by kernel_rfl) ?_
 have hx := Ext.refl w
 refine W_seq fun K1 hK1 => ?_
 refine wr ?_
 refine D_box rfl rfl rfl RX.all (fun b1 w1 e1 x1 m1 => ?_)
 have g1 : w.heap.size ≤ b1 := by have := hx.size; omega
 replace hx := hx.trans x1
 refine da ?_
 refine D_end (hK1 _ _ ?_)
 refine W_seq fun K2 hK2 => ?_
 refine W_seq fun K3 hK3 => ?_
 refine wr ?_
 refine dp (pv_fieldA (k := 0) (by kernel_rfl) rfl) ?_
 refine dq (lv_load (by kernel_rfl) rfl (m1.at rfl)) ?_
 refine D_end (hK3 _ _ ?_)
 refine W_block ?_
 refine W_seq fun K4 hK4 => ?_
 refine wr ?_
 refine dp (pv_eql rfl rfl) ?_
 refine da ?_
 refine D_end (hK4 _ _ ?_)
 refine W_if rfl (fun c1 => ?_) (fun c1 => ?_)
 ·
  refine W_seq fun K5 hK5 => ?_
  refine wr ?_
  iterate 2 refine dm ?_
  refine dp (pv_fieldA (k := 2) (by kernel_rfl) rfl) ?_
  refine dq (lv_load (by kernel_rfl) rfl (m1.at rfl)) ?_
  refine D_callP rfl (by kernel_rfl) (requalM_w y x val _ hx1 hv1) rfl RX.all (fun w2 x2 => ?_)
  replace m1 := m1.ext x2
  replace hx := hx.trans x2
  refine da ?_
  refine D_end (hK5 _ _ ?_)
  refine W_ret ?_
  try dsimp only [then', inBlk, noGo]
  refine ro ?_
  refine ⟨?_, hx⟩
  unfold fitM
  first | (simp [*]; done) | (simp [*]; omega) | (have e1 : 2 ≤ subs.length := (by omega); simp [*]; done) | (have e1 : 2 ≤ subs.length := (by omega); simp [*]; omega)
 ·
  refine W_seq fun K6 hK6 => ?_
  refine wr ?_
  refine dp (pv_eql rfl rfl) ?_
  refine da ?_
  refine D_end (hK6 _ _ ?_)
  refine W_if rfl (fun c2 => ?_) (fun c2 => ?_)
  ·
   refine W_seq fun K7 hK7 => ?_
   refine wr ?_
   iterate 2 refine dm ?_
   refine dp (pv_fieldA (k := 2) (by kernel_rfl) rfl) ?_
   refine dq (lv_load (by kernel_rfl) rfl (m1.at rfl)) ?_
   refine D_callP rfl (by kernel_rfl) (rless_w y x val _ hx1 hv1) rfl RX.all (fun w3 x3 => ?_)
   replace m1 := m1.ext x3
   replace hx := hx.trans x3
   refine dm ?_
   refine dp (pv_ext rfl rfl) ?_
   refine dp (pv_ext rfl rfl) ?_
   iterate 2 refine da ?_
   refine D_end (hK7 _ _ ?_)
   refine W_seq fun K8 hK8 => ?_
   refine wr ?_
   iterate 2 refine dm ?_
   refine D_split 33 rfl (fun c3 => ?_) (fun c3 => ?_)
   ·
    refine dm ?_
    refine dn ?_
    refine dk' ?_
    refine da ?_
    refine D_end (hK8 _ _ ?_)
    refine W_ret ?_
    try dsimp only [then', inBlk, noGo]
    refine ro ?_
    refine ⟨?_, hx⟩
    unfold fitM
    first | (simp [*]; done) | (simp [*]; omega) | (have e1 : 2 ≤ subs.length := (by omega); simp [*]; done) | (have e1 : 2 ≤ subs.length := (by omega); simp [*]; omega)
   ·
    iterate 2 refine dk ?_
    refine dk' ?_
    refine da ?_
    refine D_end (hK8 _ _ ?_)
    refine W_ret ?_
    try dsimp only [then', inBlk, noGo]
    refine ro ?_
    refine ⟨?_, hx⟩
    unfold fitM
    first | (simp [*]; done) | (simp [*]; omega) | (have e1 : 2 ≤ subs.length := (by omega); simp [*]; done) | (have e1 : 2 ≤ subs.length := (by omega); simp [*]; omega)
  ·
   refine W_seq fun K9 hK9 => ?_
   refine wr ?_
   refine dp (pv_eql rfl rfl) ?_
   refine da ?_
   refine D_end (hK9 _ _ ?_)
   refine W_if rfl (fun c4 => ?_) (fun c4 => ?_)
   ·
    refine W_seq fun K10 hK10 => ?_
    refine wr ?_
    iterate 2 refine dm ?_
    refine dp (pv_fieldA (k := 2) (by kernel_rfl) rfl) ?_
    refine dq (lv_load (by kernel_rfl) rfl (m1.at rfl)) ?_
    refine D_callP rfl (by kernel_rfl) (rless_w y x val _ hx1 hv1) rfl RX.all (fun w4 x4 => ?_)
    replace m1 := m1.ext x4
    replace hx := hx.trans x4
    refine dm ?_
    refine dp (pv_ext rfl rfl) ?_
    refine dp (pv_ext rfl rfl) ?_
    iterate 2 refine da ?_
    refine D_end (hK10 _ _ ?_)
    refine W_seq fun K11 hK11 => ?_
    refine wr ?_
    iterate 2 refine dm ?_
    refine D_split 48 rfl (fun c5 => ?_) (fun c5 => ?_)
    ·
     iterate 2 refine dm ?_
     refine D_split 50 rfl (fun c6 => ?_) (fun c6 => ?_)
     ·
      iterate 5 refine dk ?_
      refine dk' ?_
      refine dk' ?_
      refine da ?_
      refine D_end (hK11 _ _ ?_)
      refine W_ret ?_
      try dsimp only [then', inBlk, noGo]
      refine ro ?_
      refine ⟨?_, hx⟩
      unfold fitM
      first | (simp [*]; done) | (simp [*]; omega) | (have e1 : 2 ≤ subs.length := (by omega); simp [*]; done) | (have e1 : 2 ≤ subs.length := (by omega); simp [*]; omega)
     ·
      iterate 2 refine dm ?_
      refine dp (pv_fieldA (k := 2) (by kernel_rfl) rfl) ?_
      refine dq (lv_load (by kernel_rfl) rfl (m1.at rfl)) ?_
      refine D_callP rfl (by kernel_rfl) (requalM_w y x val _ hx1 hv1) rfl RX.all (fun w5 x5 => ?_)
      replace m1 := m1.ext x5
      replace hx := hx.trans x5
      refine dk' ?_
      refine dk' ?_
      refine da ?_
      refine D_end (hK11 _ _ ?_)
      refine W_ret ?_
      try dsimp only [then', inBlk, noGo]
      refine ro ?_
      refine ⟨?_, hx⟩
      unfold fitM
      first | (simp [*]; done) | (simp [*]; omega) | (have e1 : 2 ≤ subs.length := (by omega); simp [*]; done) | (have e1 : 2 ≤ subs.length := (by omega); simp [*]; omega)
    ·
     iterate 8 refine dk ?_
     refine dk' ?_
     refine da ?_
     refine D_end (hK11 _ _ ?_)
     refine W_ret ?_
     try dsimp only [then', inBlk, noGo]
     refine ro ?_
     refine ⟨?_, hx⟩
     unfold fitM
     first | (simp [*]; done) | (simp [*]; omega) | (have e1 : 2 ≤ subs.length := (by omega); simp [*]; done) | (have e1 : 2 ≤ subs.length := (by omega); simp [*]; omega)
   ·
    refine W_skip ?_
    refine hK2 _ _ ?_
    refine W_seq fun K12 hK12 => ?_
    refine wr ?_
    iterate 2 refine dm ?_
    refine dp (pv_fieldA (k := 3) (by kernel_rfl) rfl) ?_
    refine dq (lv_load (by kernel_rfl) rfl (m1.at rfl)) ?_
    refine D_callP rfl (by kernel_rfl) (rsub_w y x subs v3 _ (hs.ext hx) hx1 hsb) rfl RX.all (fun w6 x6 => ?_)
    replace m1 := m1.ext x6
    replace hx := hx.trans x6
    refine dm ?_
    refine dp (pv_ext rfl rfl) ?_
    refine dp (pv_ext rfl rfl) ?_
    iterate 2 refine da ?_
    refine D_end (hK12 _ _ ?_)
    refine W_seq fun K13 hK13 => ?_
    refine wr ?_
    refine dm ?_
    refine da ?_
    refine D_end (hK13 _ _ ?_)
    refine W_ret ?_
    try dsimp only [then', inBlk, noGo]
    refine ro ?_
    refine ⟨?_, hx⟩
    unfold fitM
    first | (simp [*]; done) | (simp [*]; omega) | (have e1 : 2 ≤ subs.length := (by omega); simp [*]; done) | (have e1 : 2 ≤ subs.length := (by omega); simp [*]; omega)

set_option maxRecDepth 100000 in
set_option maxHeartbeats 1000000 in
theorem ritem_w (kd : Int) (typ val : Str) (v3 v4 vv : Value) (subs vals : List Str) (w : World) (hs : Arr sEnc 1 w v3 subs) (hsb : ∀ p ∈ subs, p.length ≤ 900000) (hvv : Arr sEnc 1 w vv vals) (hl : vals.length ≤ 140737488355328) (hvs : ∀ x ∈ vals, x.length ≤ 140737488355328) (ht : typ.length ≤ 1000000) (hv1 : val.length ≤ 140737488355328) :
  Calls Tryz.prog 13 [.agg ⟨[I kd, S typ, S val, v3, v4]⟩, vv].toArray w (Pure w (I (itemM kd typ val subs vals))) := by
 refine calls_W Tryz.func13 rfl rfl rfl (by kernel_rfl) ?_
 have hx := Ext.refl w
 refine W_seq fun K1 hK1 => ?_
 refine wr ?_
 refine D_box rfl rfl rfl RX.all (fun b1 w1 e1 x1 m1 => ?_)
 have g1 : w.heap.size ≤ b1 := by have := hx.size; omega
 replace hx := hx.trans x1
 refine da ?_
 refine D_end (hK1 _ _ ?_)
 refine W_seq fun K2 hK2 => ?_
 refine wr ?_
 refine dp (pv_fieldA (k := 1) (by kernel_rfl) rfl) ?_
 refine dq (lv_load (by kernel_rfl) rfl (m1.at rfl)) ?_
 refine D_callP rfl (by kernel_rfl) (rtypeT_w typ _ ht) rfl RX.all (fun w2 x2 => ?_)
 replace m1 := m1.ext x2
 replace hx := hx.trans x2
 refine dm ?_
 refine dp (pv_ext rfl rfl) ?_
 refine dp (pv_ext rfl rfl) ?_
 refine dp (pv_ext rfl rfl) ?_
 refine dp (pv_ext rfl rfl) ?_
 iterate 4 refine da ?_
 refine D_end (hK2 _ _ ?_)
 refine W_seq fun K3 hK3 => ?_
 refine W_seq fun K4 hK4 => ?_
 refine wr ?_
 refine dm ?_
 refine dn ?_
 refine D_end (hK4 _ _ ?_)
 refine W_cond rfl (fun c1 => ?_) (fun c1 => ?_)
 ·
  refine W_seq fun K5 hK5 => ?_
  refine wr ?_
  refine da ?_
  refine D_end (hK5 _ _ ?_)
  refine W_ret ?_
  try dsimp only [then', inBlk, noGo]
  refine ro ?_
  exact ⟨by rw [itemM_off (by simpa using c1)], hx⟩
 ·
  have hok : tOk typ = true := by simpa using c1
  refine W_skip ?_
  refine hK3 _ _ ?_
  refine W_seq fun K6 hK6 => ?_
  refine W_seq fun K7 hK7 => ?_
  refine wr ?_
  refine dp (pv_fieldA (k := 0) (by kernel_rfl) rfl) ?_
  refine dq (lv_load (by kernel_rfl) rfl (m1.at rfl)) ?_
  refine dp (pv_eql rfl rfl) ?_
  refine D_end (hK7 _ _ ?_)
  refine W_if rfl (fun c2 => ?_) (fun c2 => ?_)
  ·
   refine W_seq fun K8 hK8 => ?_
   refine W_seq fun K9 hK9 => ?_
   refine wr ?_
   refine dm ?_
   refine dp (pv_lenV (e := 9) (k := 1) (by kernel_rfl) hvv.sl rfl) ?_
   refine dp (pv_gtr rfl rfl) ?_
   refine D_end (hK9 _ _ ?_)
   refine W_if rfl (fun c3 => ?_) (fun c3 => ?_)
   ·
    refine W_seq fun K10 hK10 => ?_
    refine wr ?_
    refine da ?_
    refine D_end (hK10 _ _ ?_)
    refine W_ret ?_
    try dsimp only [then', inBlk, noGo]
    refine ro ?_
    exact ⟨by rw [itemM_7 hok c2, decide_eq_true (by omega)]; rfl, hx⟩
   ·
    refine W_skip ?_
    refine hK8 _ _ ?_
    refine W_seq fun K11 hK11 => ?_
    refine wr ?_
    refine da ?_
    refine D_end (hK11 _ _ ?_)
    refine W_ret ?_
    try dsimp only [then', inBlk, noGo]
    refine ro ?_
    exact ⟨by rw [itemM_7 hok c2, decide_eq_false (by omega)]; rfl, hx⟩
  ·
   refine W_skip ?_
   refine hK6 _ _ ?_
   refine W_seq fun K12 hK12 => ?_
   refine W_seq fun K13 hK13 => ?_
   refine wr ?_
   refine dq (lv_loadA (k := 5) (by kernel_rfl) rfl rfl m1.row) ?_
   refine dm ?_
   refine D_callP rfl (by kernel_rfl) (asks_w kd (tY typ) typ val v3 v4 subs _ (hs.ext hx) hv1) rfl RX.all (fun w3 x3 => ?_)
   replace m1 := m1.ext x3
   replace hx := hx.trans x3
   refine dn ?_
   refine D_end (hK13 _ _ ?_)
   refine W_cond rfl (fun c4 => ?_) (fun c4 => ?_)
   ·
    refine W_seq fun K14 hK14 => ?_
    refine wr ?_
    refine da ?_
    refine D_end (hK14 _ _ ?_)
    refine W_ret ?_
    try dsimp only [then', inBlk, noGo]
    refine ro ?_
    exact ⟨by rw [itemM_no hok c2 (by simpa using c4)], hx⟩
   ·
    refine W_skip ?_
    refine hK12 _ _ ?_
    refine W_seq fun K15 hK15 => ?_
    refine W_seq fun K16 hK16 => ?_
    refine wr ?_
    refine da ?_
    refine D_end (hK16 _ _ ?_)
    refine W_block ?_
    refine W_loop (G := Nat) (fun k => [(1, vv), (2, ptr b1 0), (6, I (tY typ)), (9, I ↑k)]) (fun k w' => Ext w w' ∧ Blk w' b1 [I kd, S typ, S val, v3, v4] 25 ∧ k ≤ vals.length ∧ (vals.take k).any (fitM kd (tY typ) val subs) = false) (fun k => vals.length - k) 0 ?_ ?_ ?_
    ·
     exact ⟨rfl, rfl, rfl, rfl, trivial⟩
    ·
     exact ⟨hx, m1, Nat.zero_le _, rfl⟩
    ·
     intro X4 g4 w4 hF4
     revert hF4; revert g4; intro k hF4
     clear hx m1
     obtain ⟨hx, m1, hk1, ha⟩ := hF4
     refine W_seq fun K17 hK17 => ?_
     refine W_seq fun K18 hK18 => ?_
     refine wr ?_
     iterate 2 refine dm ?_
     refine dp (pv_lenV (e := 9) (k := 1) (by kernel_rfl) hvv.sl rfl) ?_
     refine dp (pv_lss rfl rfl) ?_
     refine D_end (hK18 _ _ ?_)
     refine W_if rfl (fun c5 => ?_) (fun c5 => ?_)
     ·
      obtain ⟨x, hk⟩ : ∃ x, vals[k]? = some x := ⟨_, List.getElem?_eq_getElem (by omega)⟩
      refine W_skip ?_
      refine hK17 _ _ ?_
      refine W_seq fun K19 hK19 => ?_
      refine W_block ?_
      refine W_seq fun K20 hK20 => ?_
      refine W_draw (R := Ext) Ext.refl (fun _ _ _ => Ext.trans) (by kernel_rfl) [0, 5] [(0, .l, false), (1, .p, false), (2, .p, false), (3, .p, false), (4, .p, false), (5, .l, false), (6, .x, true)] rfl (by kernel_rfl) (by kernel_rfl) (fun w5 ew5 => ?_)
      have x5 : Ext w4 w5 := by rw [ew5]; exact Ext.drew _
      clear ew5
      replace m1 := m1.ext x5
      replace hx := hx.trans x5
      refine D_l rfl (fun w' hR => lv_loadA (k := 5) (by kernel_rfl) rfl rfl (m1.ext hR).row) ?_
      iterate 3 refine dm ?_
      refine dp (pv_idxA (e := 9) (k := 1) (by kernel_rfl) hvv.sl rfl rfl (hvv.lt hk)) ?_
      refine D_l rfl (fun w' hR => lv_load (by kernel_rfl) rfl (((hvv.ext (hx.trans hR)).row hk).at0 rfl)) ?_
      refine D_callP rfl (by kernel_rfl) (fitsM_w kd (tY typ) x typ val v3 v4 subs _ (hs.ext hx) hsb (hvs x (List.mem_of_getElem? hk)) hv1) rfl RX.all (fun w6 x6 => ?_)
      replace m1 := m1.ext x6
      replace hx := hx.trans x6
      refine D_end (hK20 _ _ ?_)
      refine W_cond rfl (fun c6 => ?_) (fun c6 => ?_)
      ·
       refine W_seq fun K21 hK21 => ?_
       refine wr ?_
       refine da ?_
       refine D_end (hK21 _ _ ?_)
       refine W_ret ?_
       try dsimp only [then', inBlk, noGo]
       refine ro ?_
       exact ⟨by rw [itemM_yes hok c2 (by simpa using c4), any_atP hk c6]; rfl, hx⟩
      ·
       refine W_skip ?_
       refine hK19 _ _ ?_
       refine wr ?_
       refine dm ?_
       refine dp (pv_add rfl rfl (by unfold inI64; omega)) ?_
       refine da ?_
       refine D_end (?_)
       refine ⟨k + 1, ⟨rfl, rfl, rfl, rfl, trivial⟩, ⟨hx, m1, by omega, any_takeP hk ha (by simpa using c6)⟩, by omega⟩
     ·
      refine W_exit ?_
      refine hK15 _ _ ?_
      refine W_seq fun K22 hK22 => ?_
      refine wr ?_
      refine da ?_
      refine D_end (hK22 _ _ ?_)
      refine W_ret ?_
      try dsimp only [then', inBlk, noGo]
      refine ro ?_
      rw [List.take_of_length_le (by omega)] at ha
      exact ⟨by rw [itemM_yes hok c2 (by simpa using c4), ha]; rfl, hx⟩

end Go.Proofs.YtdagdhjheibgnaaGreatDoor
