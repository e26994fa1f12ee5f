/-
  Walks.
-/
import Derived.Test.YtcjjjmhhpejdoaaGreatDoorChecked
import Derived.Test.YtcjjjmhhpejdoaaGreatDoorSpMem
import Derived.KernelRfl
import Derived.Test.YtcjjjmhhpejdoaaGreatDoorVcH
import Derived.Test.YtcjjjmhhpejdoaaGreatDoorDnA
import Derived.Test.YtcjjjmhhpejdoaaGreatDoorVcK
namespace Go.Proofs.YtcjjjmhhpejdoaaGreatDoor
open Go.Vc Go.Sp
attribute [local irreducible] W XW Dw DwT
set_option linter.unusedVariables false
set_option linter.unusedSimpArgs false

def hasStep (m x : Int) : Int := bitsI .or .i64 m (IntKind.i64.wrap (1 * 2 ^ (min (bitsI .and .i64 x 3).toNat IntKind.i64.bits)))
def hasV (l : List Int) : Int := l.foldl hasStep 0
def mk3 (a b c : Bool) : Int := (if a = true then 1 else 0) + (if b = true then 2 else 0) + (if c = true then 4 else 0)
theorem step3 (a b c : Bool) {x : Int} (h : x = 0 ∨ x = 1 ∨ x = 2) : hasStep (mk3 a b c) x = mk3 (a || decide (x = 0)) (b || decide (x = 1)) (c || decide (x = 2)) := by
  rcases h with rfl | rfl | rfl <;> cases a <;> cases b <;> cases c <;> decide
theorem has_from : ∀ (l : List Int) (a b c : Bool), (∀ x ∈ l, x = 0 ∨ x = 1 ∨ x = 2) → l.foldl hasStep (mk3 a b c) = mk3 (a || l.any (fun x => decide (x = 0))) (b || l.any (fun x => decide (x = 1))) (c || l.any (fun x => decide (x = 2)))
  | [], a, b, c, _ => by simp
  | x :: l, a, b, c, h => by rw [List.foldl_cons, step3 a b c (h x List.mem_cons_self), has_from l _ _ _ (fun y hy => h y (List.mem_cons_of_mem _ hy))]; simp [List.any_cons, Bool.or_assoc]
theorem has_eq {l : List Int} (h : ∀ x ∈ l, x = 0 ∨ x = 1 ∨ x = 2) : hasV l = mk3 (l.any (fun x => decide (x = 0))) (l.any (fun x => decide (x = 1))) (l.any (fun x => decide (x = 2))) := by
  have := has_from l false false false h
  rw [show mk3 false false false = 0 from rfl] at this
  unfold hasV; rw [this]; simp
theorem has_next {l : List Int} {k : Nat} {x : Int} (h : l[k]? = some x) : hasV (l.take (k + 1)) = hasStep (hasV (l.take k)) x := by
  unfold hasV; rw [take_snocS h, List.foldl_append]; rfl
def andV (l : List Int) : Int := if l.any (fun x => decide (x = 0)) = true then 0 else if l.any (fun x => !decide (x = 1)) = true then 2 else 1
def orV (l : List Int) : Int := if l.any (fun x => decide (x = 1)) = true then 1 else if l.any (fun x => !decide (x = 0)) = true then 2 else 0
def notV (x : Int) : Int := if x = 1 then 0 else if x = 0 then 1 else 2
theorem ne1 : ∀ {l : List Int}, (∀ x ∈ l, x = 0 ∨ x = 1 ∨ x = 2) → l.any (fun x => !decide (x = 1)) = (l.any (fun x => decide (x = 0)) || l.any (fun x => decide (x = 2)))
  | [], _ => rfl
  | x :: l, h => by
    rw [List.any_cons, List.any_cons, List.any_cons, ne1 (fun y hy => h y (List.mem_cons_of_mem _ hy))]
    rcases h x List.mem_cons_self with rfl | rfl | rfl <;> simp
theorem ne0 : ∀ {l : List Int}, (∀ x ∈ l, x = 0 ∨ x = 1 ∨ x = 2) → l.any (fun x => !decide (x = 0)) = (l.any (fun x => decide (x = 1)) || l.any (fun x => decide (x = 2)))
  | [], _ => rfl
  | x :: l, h => by
    rw [List.any_cons, List.any_cons, List.any_cons, ne0 (fun y hy => h y (List.mem_cons_of_mem _ hy))]
    rcases h x List.mem_cons_self with rfl | rfl | rfl <;> simp
theorem m_bits : ∀ a b c : Bool, (bitsI .and .i64 ((mk3 a b c).fdiv (2 ^ (min (Int.toNat 0) IntKind.i64.bits))) 1 = if a = true then 1 else 0) ∧ (bitsI .and .i64 ((mk3 a b c).fdiv (2 ^ (min (Int.toNat 1) IntKind.i64.bits))) 1 = if b = true then 1 else 0)
    ∧ (bitsI .andNot .i64 (mk3 a b c) 2 = 0 ↔ (a || c) = false) ∧ (bitsI .andNot .i64 (mk3 a b c) 1 = 0 ↔ (b || c) = false) := by decide
section
variable {l : List Int} (h : ∀ x ∈ l, x = 0 ∨ x = 1 ∨ x = 2)
include h
theorem and_a (c : bitsI .and .i64 ((hasV l).fdiv (2 ^ (min (Int.toNat 0) IntKind.i64.bits))) 1 = 1) : andV l = 0 := by
  rw [has_eq h, (m_bits _ _ _).1] at c
  unfold andV; split at c
  · rw [if_pos (by assumption)]
  · cases c
theorem and_n (c : ¬ bitsI .and .i64 ((hasV l).fdiv (2 ^ (min (Int.toNat 0) IntKind.i64.bits))) 1 = 1) : ¬ l.any (fun x => decide (x = 0)) = true := fun e => by
  rw [has_eq h, (m_bits _ _ _).1, if_pos e] at c; exact c rfl
theorem and_b (c : ¬ bitsI .and .i64 ((hasV l).fdiv (2 ^ (min (Int.toNat 0) IntKind.i64.bits))) 1 = 1) (c2 : ¬ bitsI .andNot .i64 (hasV l) 2 = 0) : andV l = 2 := by
  rw [has_eq h, (m_bits _ _ _).2.2.1, ← ne1 h] at c2
  unfold andV; rw [if_neg (and_n h c), if_pos (by simpa using c2)]
theorem and_c (c : ¬ bitsI .and .i64 ((hasV l).fdiv (2 ^ (min (Int.toNat 0) IntKind.i64.bits))) 1 = 1) (c2 : bitsI .andNot .i64 (hasV l) 2 = 0) : andV l = 1 := by
  rw [has_eq h, (m_bits _ _ _).2.2.1, ← ne1 h] at c2
  unfold andV; rw [if_neg (and_n h c), if_neg (by rw [c2]; decide)]
theorem or_a (c : bitsI .and .i64 ((hasV l).fdiv (2 ^ (min (Int.toNat 1) IntKind.i64.bits))) 1 = 1) : orV l = 1 := by
  rw [has_eq h, (m_bits _ _ _).2.1] at c
  unfold orV; split at c
  · rw [if_pos (by assumption)]
  · cases c
theorem or_n (c : ¬ bitsI .and .i64 ((hasV l).fdiv (2 ^ (min (Int.toNat 1) IntKind.i64.bits))) 1 = 1) : ¬ l.any (fun x => decide (x = 1)) = true := fun e => by
  rw [has_eq h, (m_bits _ _ _).2.1, if_pos e] at c; exact c rfl
theorem or_b (c : ¬ bitsI .and .i64 ((hasV l).fdiv (2 ^ (min (Int.toNat 1) IntKind.i64.bits))) 1 = 1) (c2 : ¬ bitsI .andNot .i64 (hasV l) 1 = 0) : orV l = 2 := by
  rw [has_eq h, (m_bits _ _ _).2.2.2, ← ne0 h] at c2
  unfold orV; rw [if_neg (or_n h c), if_pos (by simpa using c2)]
theorem or_c (c : ¬ bitsI .and .i64 ((hasV l).fdiv (2 ^ (min (Int.toNat 1) IntKind.i64.bits))) 1 = 1) (c2 : bitsI .andNot .i64 (hasV l) 1 = 0) : orV l = 0 := by
  rw [has_eq h, (m_bits _ _ _).2.2.2, ← ne0 h] at c2
  unfold orV; rw [if_neg (or_n h c), if_neg (by rw [c2]; decide)]
end
theorem not_at1 (x : Int) : decide (notV x = 1) = decide (x = 0) := by
  unfold notV; split
  · rename_i h; subst h; rfl
  · split <;> simp [*]
theorem not_at0 (x : Int) : decide (notV x = 0) = decide (x = 1) := by
  unfold notV; split
  · simp [*]
  · split <;> simp [*]
theorem turned_and (l : List Int) : notV (andV l) = orV (l.map notV) := by
  unfold andV orV
  simp only [List.any_map, Function.comp_def, not_at1, not_at0]
  split
  · rfl
  · split <;> rfl
theorem turned_or (l : List Int) : notV (orV l) = andV (l.map notV) := by
  unfold andV orV
  simp only [List.any_map, Function.comp_def, not_at1, not_at0]
  split
  · rfl
  · split <;> rfl
theorem and10 (x : Int) : 0 ≤ bitsI .and .i64 x 1023 ∧ bitsI .and .i64 x 1023 ≤ 1023 := by
  have h : (BitVec.ofInt IntKind.i64.bits x &&& BitVec.ofInt IntKind.i64.bits 1023).toNat ≤ 1023 := by
    rw [BitVec.toNat_and]; exact Nat.and_le_right
  have e : bitsI .and .i64 x 1023 = ((BitVec.ofInt IntKind.i64.bits x &&& BitVec.ofInt IntKind.i64.bits 1023).toNat : Int) := wrap_i64 (by unfold inI64; omega)
  rw [e]; omega
def threeV (x : Int) : Int := bitsI .and .i64 x 1023 % 3
theorem three_in (x : Int) : threeV x = 0 ∨ threeV x = 1 ∨ threeV x = 2 := by
  have := and10 x
  unfold threeV; omega
theorem threes_in (l : List Int) : ∀ x ∈ l.map threeV, x = 0 ∨ x = 1 ∨ x = 2 := fun x hx => by
  obtain ⟨y, _, rfl⟩ := List.mem_map.1 hx
  exact three_in y
theorem not_in (x : Int) : notV x = 0 ∨ notV x = 1 ∨ notV x = 2 := by unfold notV; split <;> (try split) <;> simp
theorem nots_in (l : List Int) : ∀ x ∈ l.map notV, x = 0 ∨ x = 1 ∨ x = 2 := fun x hx => by
  obtain ⟨y, _, rfl⟩ := List.mem_map.1 hx
  exact not_in y
theorem any_nextI {l : List Int} {f : Int → Bool} {k : Nat} {x : Int} (h : l[k]? = some x) : (l.take (k + 1)).any f = ((l.take k).any f || f x) := by
  rw [take_snocS h, List.any_append]; simp
theorem any_atI {l : List Int} {f : Int → Bool} {k : Nat} {x : Int} (h : l[k]? = some x) (hf : f x = true) : l.any f = true := List.any_eq_true.2 ⟨x, List.mem_of_getElem? h, hf⟩
theorem bit_ok {x : Int} (h : x = 0 ∨ x = 1 ∨ x = 2) : 0 ≤ bitsI .and .i64 x 3 := by rcases h with rfl | rfl | rfl <;> decide

set_option maxRecDepth 100000 in
set_option maxHeartbeats 1000000 in
theorem three_w (x : Int) (w : World) :
  Calls Tryz.prog 46 [I x].toArray w (Pure w (I (threeV x))) := by
 refine calls_W Tryz.func46 rfl rfl rfl (by kernel_rfl) ?_
 have hx := Ext.refl w
 refine W_seq fun K1 hK1 => ?_
 refine wr ?_
 refine da ?_
 refine D_end (hK1 _ _ ?_)
 refine W_seq fun K2 hK2 => ?_
 refine wr ?_
 refine dm ?_
 refine dp (pv_bits (by decide) rfl rfl) ?_
 refine dp (pv_rem rfl rfl (and10 x).1 (by omega)) ?_
 refine da ?_
 refine D_end (hK2 _ _ ?_)
 refine W_ret ?_
 try dsimp only [then', inBlk, noGo]
 refine ro ?_
 exact ⟨rfl, hx⟩

set_option maxRecDepth 100000 in
set_option maxHeartbeats 1000000 in
theorem has3_w (l : List Int) (v : Value) (w : World) (hv : Arr encI 1 w v l) (h3 : ∀ x ∈ l, x = 0 ∨ x = 1 ∨ x = 2) (hl : l.length ≤ 1000) :
  Calls Tryz.prog 93 [v].toArray w (Pure w (I (hasV l))) := by
 refine calls_W Tryz.func93 rfl rfl rfl (by kernel_rfl) ?_
 have hx := Ext.refl w
 refine W_seq fun K1 hK1 => ?_
 refine wr ?_
 refine da ?_
 refine D_end (hK1 _ _ ?_)
 refine W_seq fun K2 hK2 => ?_
 refine wr ?_
 refine da ?_
 refine D_end (hK2 _ _ ?_)
 refine W_seq fun K3 hK3 => ?_
 refine W_seq fun K4 hK4 => ?_
 refine wr ?_
 refine dm ?_
 refine dp (pv_lenV (e := 3) (k := 1) (by kernel_rfl) hv.sl rfl) ?_
 refine dm ?_
 refine D_end (hK4 _ _ ?_)
 refine W_block ?_
 refine W_loop (G := Nat) (fun k => [(2, I 0), (3, I (hasV (l.take k))), (6, v), (7, I ↑l.length), (8, I ↑k)]) (fun k w' => Ext w w' ∧ k ≤ l.length) (fun k => l.length - k) 0 ?_ ?_ ?_
 ·
  exact ⟨rfl, rfl, rfl, rfl, rfl, trivial⟩
 ·
  exact ⟨hx, Nat.zero_le _⟩
 ·
  intro X1 g1 w1 hF1
  revert hF1; revert g1; intro k hF1
  clear hx
  obtain ⟨hx, hk1⟩ := hF1
  refine W_seq fun K5 hK5 => ?_
  refine wr ?_
  refine dp (pv_lss rfl rfl) ?_
  refine D_end (hK5 _ _ ?_)
  refine W_seq fun K6 hK6 => ?_
  refine W_if rfl (fun c1 => ?_) (fun c1 => ?_)
  ·
   obtain ⟨x, hk⟩ : ∃ x, l[k]? = some x := ⟨_, List.getElem?_eq_getElem (by omega)⟩
   have hx3 := h3 x (List.mem_of_getElem? hk)
   refine W_skip ?_
   refine hK6 _ _ ?_
   refine W_seq fun K7 hK7 => ?_
   refine W_block ?_
   refine W_seq fun K8 hK8 => ?_
   refine wr ?_
   refine dp (pv_idxA (e := 3) (k := 1) (by kernel_rfl) hv.sl rfl rfl (hv.lt hk)) ?_
   refine dq (lv_load (by kernel_rfl) rfl (((hv.ext hx).row hk).at0 rfl)) ?_
   refine da ?_
   refine D_end (hK8 _ _ ?_)
   refine wr ?_
   iterate 2 refine dm ?_
   refine dp (pv_bits (by decide) rfl rfl) ?_
   refine dp (pv_shl rfl rfl (bit_ok hx3)) ?_
   refine dp (pv_bits (by decide) rfl rfl) ?_
   refine da ?_
   refine D_end (hK7 _ _ ?_)
   refine wr ?_
   refine dp (pv_add rfl rfl (by unfold inI64; omega)) ?_
   refine dm ?_
   refine D_end (?_)
   refine ⟨k + 1, ?_, ⟨hx, by omega⟩, by omega⟩
   rw [has_next hk]; exact ⟨rfl, rfl, rfl, rfl, rfl, trivial⟩
  ·
   refine W_exit ?_
   refine hK3 _ _ ?_
   refine W_seq fun K9 hK9 => ?_
   refine wr ?_
   refine dm ?_
   refine da ?_
   refine D_end (hK9 _ _ ?_)
   refine W_ret ?_
   try dsimp only [then', inBlk, noGo]
   refine ro ?_
   rw [show l.take k = l from List.take_of_length_le (by omega)]
   exact ⟨rfl, hx⟩

set_option maxRecDepth 100000 in
set_option maxHeartbeats 1000000 in
theorem and3_w (l : List Int) (v : Value) (w : World) (hv : Arr encI 1 w v l) (h3 : ∀ x ∈ l, x = 0 ∨ x = 1 ∨ x = 2) (hl : l.length ≤ 1000) :
  Calls Tryz.prog 47 [v].toArray w (Pure w (I (andV l))) := by
 refine calls_W Tryz.func47 rfl rfl rfl (by kernel_rfl) ?_
 have hx := Ext.refl w
 refine W_seq fun K1 hK1 => ?_
 refine wr ?_
 refine da ?_
 refine D_end (hK1 _ _ ?_)
 refine W_seq fun K2 hK2 => ?_
 refine W_seq fun K3 hK3 => ?_
 refine wr ?_
 refine dm ?_
 refine D_callP rfl (by kernel_rfl) (has3_w l v _ (hv.ext hx) h3 hl) rfl RX.all (fun w1 x1 => ?_)
 replace hx := hx.trans x1
 refine da ?_
 refine D_end (hK3 _ _ ?_)
 refine W_block ?_
 refine W_seq fun K4 hK4 => ?_
 refine wr ?_
 refine dm ?_
 refine dp (pv_shr rfl rfl (by decide)) ?_
 refine dp (pv_bits (by decide) rfl rfl) ?_
 refine dp (pv_eql rfl rfl) ?_
 refine da ?_
 refine D_end (hK4 _ _ ?_)
 refine W_if rfl (fun c1 => ?_) (fun c1 => ?_)
 ·
  refine W_seq fun K5 hK5 => ?_
  refine wr ?_
  refine da ?_
  refine D_end (hK5 _ _ ?_)
  refine W_ret ?_
  try dsimp only [then', inBlk, noGo]
  refine ro ?_
  exact ⟨by rw [and_a h3 c1], hx⟩
 ·
  refine W_seq fun K6 hK6 => ?_
  refine wr ?_
  refine dm ?_
  refine dp (pv_bits (by decide) rfl rfl) ?_
  refine dp (pv_neq rfl rfl) ?_
  refine da ?_
  refine D_end (hK6 _ _ ?_)
  refine W_if rfl (fun c2 => ?_) (fun c2 => ?_)
  ·
   refine W_seq fun K7 hK7 => ?_
   refine wr ?_
   refine da ?_
   refine D_end (hK7 _ _ ?_)
   refine W_ret ?_
   try dsimp only [then', inBlk, noGo]
   refine ro ?_
   exact ⟨by rw [and_b h3 c1 c2], hx⟩
  ·
   refine W_skip ?_
   refine hK2 _ _ ?_
   refine W_seq fun K8 hK8 => ?_
   refine wr ?_
   refine da ?_
   refine D_end (hK8 _ _ ?_)
   refine W_ret ?_
   try dsimp only [then', inBlk, noGo]
   refine ro ?_
   exact ⟨by rw [and_c h3 c1 (Decidable.not_not.1 c2)], hx⟩

set_option maxRecDepth 100000 in
set_option maxHeartbeats 1000000 in
theorem rand3_w (l : List Int) (v : Value) (w : World) (hv : Arr encI 1 w v l) (h3 : ∀ x ∈ l, x = 0 ∨ x = 1 ∨ x = 2) (hl : l.length ≤ 1000) :
  Calls Tryz.prog 48 [v].toArray w (Pure w (I (andV l))) := by
 refine calls_W Tryz.func48 rfl rfl rfl (by kernel_rfl) ?_
 have hx := Ext.refl w
 refine W_seq fun K1 hK1 => ?_
 refine wr ?_
 refine da ?_
 refine D_end (hK1 _ _ ?_)
 refine W_seq fun K2 hK2 => ?_
 refine wr ?_
 refine da ?_
 refine D_end (hK2 _ _ ?_)
 refine W_seq fun K3 hK3 => ?_
 refine W_seq fun K4 hK4 => ?_
 refine wr ?_
 refine da ?_
 refine D_end (hK4 _ _ ?_)
 refine W_block ?_
 refine W_loop (G := Nat × Int) (fun (k, o) => [(0, v), (3, I o), (4, I ↑k)]) (fun (k, o) w' => Ext w w' ∧ k ≤ l.length ∧ o = (if (l.take k).any (fun x => !decide (x = 1)) = true then 2 else 1) ∧ (l.take k).any (fun x => decide (x = 0)) = false) (fun (k, o) => l.length - k) (0, 1) ?_ ?_ ?_
 ·
  exact ⟨rfl, rfl, rfl, trivial⟩
 ·
  exact ⟨hx, Nat.zero_le _, rfl, rfl⟩
 ·
  intro X1 g1 w1 hF1
  obtain ⟨k, o⟩ := g1
  clear hx
  obtain ⟨hx, hk1, ho, hz⟩ := hF1
  refine W_seq fun K5 hK5 => ?_
  refine W_seq fun K6 hK6 => ?_
  refine wr ?_
  iterate 2 refine dm ?_
  refine dp (pv_lenV (e := 3) (k := 1) (by kernel_rfl) hv.sl rfl) ?_
  refine dp (pv_lss rfl rfl) ?_
  refine D_end (hK6 _ _ ?_)
  refine W_if rfl (fun c1 => ?_) (fun c1 => ?_)
  ·
   obtain ⟨x, hk⟩ : ∃ x, l[k]? = some x := ⟨_, List.getElem?_eq_getElem (by omega)⟩
   have hx3 := h3 x (List.mem_of_getElem? hk)
   refine W_skip ?_
   refine hK5 _ _ ?_
   refine W_seq fun K7 hK7 => ?_
   refine W_block ?_
   refine W_seq fun K8 hK8 => ?_
   refine W_seq fun K9 hK9 => ?_
   refine wr ?_
   iterate 2 refine dm ?_
   refine dp (pv_idxA (e := 3) (k := 1) (by kernel_rfl) hv.sl rfl rfl (hv.lt hk)) ?_
   refine dq (lv_load (by kernel_rfl) rfl (((hv.ext hx).row hk).at0 rfl)) ?_
   refine dp (pv_eql rfl rfl) ?_
   refine D_end (hK9 _ _ ?_)
   refine W_if rfl (fun c2 => ?_) (fun c2 => ?_)
   ·
    refine W_seq fun K10 hK10 => ?_
    refine wr ?_
    refine da ?_
    refine D_end (hK10 _ _ ?_)
    refine W_ret ?_
    try dsimp only [then', inBlk, noGo]
    refine ro ?_
    refine ⟨?_, hx⟩
    unfold andV; rw [if_pos (any_atI hk (decide_eq_true c2))]
   ·
    refine W_skip ?_
    refine hK8 _ _ ?_
    refine W_seq fun K11 hK11 => ?_
    refine wr ?_
    iterate 2 refine dm ?_
    refine dp (pv_idxA (e := 3) (k := 1) (by kernel_rfl) hv.sl rfl rfl (hv.lt hk)) ?_
    refine dq (lv_load (by kernel_rfl) rfl (((hv.ext hx).row hk).at0 rfl)) ?_
    refine dp (pv_neq rfl rfl) ?_
    refine D_end (hK11 _ _ ?_)
    refine W_if rfl (fun c3 => ?_) (fun c3 => ?_)
    ·
     refine wr ?_
     refine da ?_
     refine D_end (hK7 _ _ ?_)
     refine wr ?_
     refine dm ?_
     refine dp (pv_add rfl rfl (by unfold inI64; omega)) ?_
     refine da ?_
     refine D_end (?_)
     refine ⟨(k + 1, 2), ⟨rfl, rfl, rfl, trivial⟩, ⟨hx, by omega, ?_, ?_⟩, by simp only []; omega⟩
     ·
      rw [any_nextI hk, decide_eq_false c3]; simp
     ·
      rw [any_nextI hk, hz, decide_eq_false c2]; rfl
    ·
     refine W_skip ?_
     refine hK7 _ _ ?_
     refine wr ?_
     refine dm ?_
     refine dp (pv_add rfl rfl (by unfold inI64; omega)) ?_
     refine da ?_
     refine D_end (?_)
     refine ⟨(k + 1, o), ⟨rfl, rfl, rfl, trivial⟩, ⟨hx, by omega, ?_, ?_⟩, by simp only []; omega⟩
     ·
      rw [any_nextI hk, decide_eq_true (Decidable.not_not.1 c3), ho]; simp
     ·
      rw [any_nextI hk, hz, decide_eq_false c2]; rfl
  ·
   refine W_exit ?_
   refine hK3 _ _ ?_
   refine W_seq fun K12 hK12 => ?_
   refine wr ?_
   refine dm ?_
   refine da ?_
   refine D_end (hK12 _ _ ?_)
   refine W_ret ?_
   try dsimp only [then', inBlk, noGo]
   refine ro ?_
   rw [List.take_of_length_le (by omega)] at ho hz
   refine ⟨?_, hx⟩
   unfold andV; rw [if_neg (by rw [hz]; decide), ho]

set_option maxRecDepth 100000 in
set_option maxHeartbeats 1000000 in
theorem or3_w (l : List Int) (v : Value) (w : World) (hv : Arr encI 1 w v l) (h3 : ∀ x ∈ l, x = 0 ∨ x = 1 ∨ x = 2) (hl : l.length ≤ 1000) :
  Calls Tryz.prog 49 [v].toArray w (Pure w (I (orV l))) := by
 refine calls_W Tryz.func49 rfl rfl rfl (by kernel_rfl) ?_
 have hx := Ext.refl w
 refine W_seq fun K1 hK1 => ?_
 refine wr ?_
 refine da ?_
 refine D_end (hK1 _ _ ?_)
 refine W_seq fun K2 hK2 => ?_
 refine W_seq fun K3 hK3 => ?_
 refine wr ?_
 refine dm ?_
 refine D_callP rfl (by kernel_rfl) (has3_w l v _ (hv.ext hx) h3 hl) rfl RX.all (fun w1 x1 => ?_)
 replace hx := hx.trans x1
 refine da ?_
 refine D_end (hK3 _ _ ?_)
 refine W_block ?_
 refine W_seq fun K4 hK4 => ?_
 refine wr ?_
 refine dm ?_
 refine dp (pv_shr rfl rfl (by decide)) ?_
 refine dp (pv_bits (by decide) rfl rfl) ?_
 refine dp (pv_eql rfl rfl) ?_
 refine da ?_
 refine D_end (hK4 _ _ ?_)
 refine W_if rfl (fun c1 => ?_) (fun c1 => ?_)
 ·
  refine W_seq fun K5 hK5 => ?_
  refine wr ?_
  refine da ?_
  refine D_end (hK5 _ _ ?_)
  refine W_ret ?_
  try dsimp only [then', inBlk, noGo]
  refine ro ?_
  exact ⟨by rw [or_a h3 c1], hx⟩
 ·
  refine W_seq fun K6 hK6 => ?_
  refine wr ?_
  refine dm ?_
  refine dp (pv_bits (by decide) rfl rfl) ?_
  refine dp (pv_neq rfl rfl) ?_
  refine da ?_
  refine D_end (hK6 _ _ ?_)
  refine W_if rfl (fun c2 => ?_) (fun c2 => ?_)
  ·
   refine W_seq fun K7 hK7 => ?_
   refine wr ?_
   refine da ?_
   refine D_end (hK7 _ _ ?_)
   refine W_ret ?_
   try dsimp only [then', inBlk, noGo]
   refine ro ?_
   exact ⟨by rw [or_b h3 c1 c2], hx⟩
  ·
   refine W_skip ?_
   refine hK2 _ _ ?_
   refine W_seq fun K8 hK8 => ?_
   refine wr ?_
   refine da ?_
   refine D_end (hK8 _ _ ?_)
   refine W_ret ?_
   try dsimp only [then', inBlk, noGo]
   refine ro ?_
   exact ⟨by rw [or_c h3 c1 (Decidable.not_not.1 c2)], hx⟩

set_option maxRecDepth 100000 in
set_option maxHeartbeats 1000000 in
theorem ror3_w (l : List Int) (v : Value) (w : World) (hv : Arr encI 1 w v l) (h3 : ∀ x ∈ l, x = 0 ∨ x = 1 ∨ x = 2) (hl : l.length ≤ 1000) :
  Calls Tryz.prog 50 [v].toArray w (Pure w (I (orV l))) := by
 refine calls_W Tryz.func50 rfl rfl rfl (by kernel_rfl) ?_
 have hx := Ext.refl w
 refine W_seq fun K1 hK1 => ?_
 refine wr ?_
 refine da ?_
 refine D_end (hK1 _ _ ?_)
 refine W_seq fun K2 hK2 => ?_
 refine wr ?_
 refine da ?_
 refine D_end (hK2 _ _ ?_)
 refine W_seq fun K3 hK3 => ?_
 refine W_seq fun K4 hK4 => ?_
 refine wr ?_
 refine da ?_
 refine D_end (hK4 _ _ ?_)
 refine W_block ?_
 refine W_loop (G := Nat × Int) (fun (k, o) => [(0, v), (3, I o), (4, I ↑k)]) (fun (k, o) w' => Ext w w' ∧ k ≤ l.length ∧ o = (if (l.take k).any (fun x => !decide (x = 0)) = true then 2 else 0) ∧ (l.take k).any (fun x => decide (x = 1)) = false) (fun (k, o) => l.length - k) (0, 0) ?_ ?_ ?_
 ·
  exact ⟨rfl, rfl, rfl, trivial⟩
 ·
  exact ⟨hx, Nat.zero_le _, rfl, rfl⟩
 ·
  intro X1 g1 w1 hF1
  obtain ⟨k, o⟩ := g1
  clear hx
  obtain ⟨hx, hk1, ho, hz⟩ := hF1
  refine W_seq fun K5 hK5 => ?_
  refine W_seq fun K6 hK6 => ?_
  refine wr ?_
  iterate 2 refine dm ?_
  refine dp (pv_lenV (e := 3) (k := 1) (by kernel_rfl) hv.sl rfl) ?_
  refine dp (pv_lss rfl rfl) ?_
  refine D_end (hK6 _ _ ?_)
  refine W_if rfl (fun c1 => ?_) (fun c1 => ?_)
  ·
   obtain ⟨x, hk⟩ : ∃ x, l[k]? = some x := ⟨_, List.getElem?_eq_getElem (by omega)⟩
   have hx3 := h3 x (List.mem_of_getElem? hk)
   refine W_skip ?_
   refine hK5 _ _ ?_
   refine W_seq fun K7 hK7 => ?_
   refine W_block ?_
   refine W_seq fun K8 hK8 => ?_
   refine W_seq fun K9 hK9 => ?_
   refine wr ?_
   iterate 2 refine dm ?_
   refine dp (pv_idxA (e := 3) (k := 1) (by kernel_rfl) hv.sl rfl rfl (hv.lt hk)) ?_
   refine dq (lv_load (by kernel_rfl) rfl (((hv.ext hx).row hk).at0 rfl)) ?_
   refine dp (pv_eql rfl rfl) ?_
   refine D_end (hK9 _ _ ?_)
   refine W_if rfl (fun c2 => ?_) (fun c2 => ?_)
   ·
    refine W_seq fun K10 hK10 => ?_
    refine wr ?_
    refine da ?_
    refine D_end (hK10 _ _ ?_)
    refine W_ret ?_
    try dsimp only [then', inBlk, noGo]
    refine ro ?_
    refine ⟨?_, hx⟩
    unfold orV; rw [if_pos (any_atI hk (decide_eq_true c2))]
   ·
    refine W_skip ?_
    refine hK8 _ _ ?_
    refine W_seq fun K11 hK11 => ?_
    refine wr ?_
    iterate 2 refine dm ?_
    refine dp (pv_idxA (e := 3) (k := 1) (by kernel_rfl) hv.sl rfl rfl (hv.lt hk)) ?_
    refine dq (lv_load (by kernel_rfl) rfl (((hv.ext hx).row hk).at0 rfl)) ?_
    refine dp (pv_neq rfl rfl) ?_
    refine D_end (hK11 _ _ ?_)
    refine W_if rfl (fun c3 => ?_) (fun c3 => ?_)
    ·
     refine wr ?_
     refine da ?_
     refine D_end (hK7 _ _ ?_)
     refine wr ?_
     refine dm ?_
     refine dp (pv_add rfl rfl (by unfold inI64; omega)) ?_
     refine da ?_
     refine D_end (?_)
     refine ⟨(k + 1, 2), ⟨rfl, rfl, rfl, trivial⟩, ⟨hx, by omega, ?_, ?_⟩, by simp only []; omega⟩
     ·
      rw [any_nextI hk, decide_eq_false c3]; simp
     ·
      rw [any_nextI hk, hz, decide_eq_false c2]; rfl
    ·
     refine W_skip ?_
     refine hK7 _ _ ?_
     refine wr ?_
     refine dm ?_
     refine dp (pv_add rfl rfl (by unfold inI64; omega)) ?_
     refine da ?_
     refine D_end (?_)
     refine ⟨(k + 1, o), ⟨rfl, rfl, rfl, trivial⟩, ⟨hx, by omega, ?_, ?_⟩, by simp only []; omega⟩
     ·
      rw [any_nextI hk, decide_eq_true (Decidable.not_not.1 c3), ho]; simp
     ·
      rw [any_nextI hk, hz, decide_eq_false c2]; rfl
  ·
   refine W_exit ?_
   refine hK3 _ _ ?_
   refine W_seq fun K12 hK12 => ?_
   refine wr ?_
   refine dm ?_
   refine da ?_
   refine D_end (hK12 _ _ ?_)
   refine W_ret ?_
   try dsimp only [then', inBlk, noGo]
   refine ro ?_
   rw [List.take_of_length_le (by omega)] at ho hz
   refine ⟨?_, hx⟩
   unfold orV; rw [if_neg (by rw [hz]; decide), ho]

set_option maxRecDepth 100000 in
set_option maxHeartbeats 1000000 in
theorem not3_w (x : Int) (w : World) :
  Calls Tryz.prog 51 [I x].toArray w (Pure w (I (notV x))) := by
 refine calls_W Tryz.func51 rfl rfl rfl (by kernel_rfl) ?_
 have hx := Ext.refl w
 refine W_seq fun K1 hK1 => ?_
 refine wr ?_
 refine da ?_
 refine D_end (hK1 _ _ ?_)
 refine W_seq fun K2 hK2 => ?_
 refine W_seq fun K3 hK3 => ?_
 refine wr ?_
 refine dm ?_
 refine D_end (hK3 _ _ ?_)
 refine W_block ?_
 refine W_seq fun K4 hK4 => ?_
 refine wr ?_
 refine dp (pv_eql rfl rfl) ?_
 refine da ?_
 refine D_end (hK4 _ _ ?_)
 refine W_if rfl (fun c1 => ?_) (fun c1 => ?_)
 ·
  refine W_seq fun K5 hK5 => ?_
  refine wr ?_
  refine da ?_
  refine D_end (hK5 _ _ ?_)
  refine W_ret ?_
  try dsimp only [then', inBlk, noGo]
  refine ro ?_
  exact ⟨by unfold notV; rw [if_pos c1], hx⟩
 ·
  refine W_seq fun K6 hK6 => ?_
  refine wr ?_
  refine dp (pv_eql rfl rfl) ?_
  refine da ?_
  refine D_end (hK6 _ _ ?_)
  refine W_if rfl (fun c2 => ?_) (fun c2 => ?_)
  ·
   refine W_seq fun K7 hK7 => ?_
   refine wr ?_
   refine da ?_
   refine D_end (hK7 _ _ ?_)
   refine W_ret ?_
   try dsimp only [then', inBlk, noGo]
   refine ro ?_
   exact ⟨by unfold notV; rw [if_neg c1, if_pos c2], hx⟩
  ·
   refine W_skip ?_
   refine hK2 _ _ ?_
   refine W_seq fun K8 hK8 => ?_
   refine wr ?_
   refine da ?_
   refine D_end (hK8 _ _ ?_)
   refine W_ret ?_
   try dsimp only [then', inBlk, noGo]
   refine ro ?_
   exact ⟨by unfold notV; rw [if_neg c1, if_neg c2], hx⟩

set_option maxRecDepth 100000 in
set_option maxHeartbeats 1000000 in
theorem rnot3_w (x : Int) (w : World) :
  Calls Tryz.prog 52 [I x].toArray w (Pure w (I (notV x))) := by
 refine calls_W Tryz.func52 rfl rfl rfl (by kernel_rfl) ?_
 have hx := Ext.refl w
 refine W_seq fun K1 hK1 => ?_
 refine wr ?_
 refine da ?_
 refine D_end (hK1 _ _ ?_)
 refine W_seq fun K2 hK2 => ?_
 refine W_seq fun K3 hK3 => ?_
 refine wr ?_
 refine dm ?_
 refine D_end (hK3 _ _ ?_)
 refine W_block ?_
 refine W_seq fun K4 hK4 => ?_
 refine wr ?_
 refine dp (pv_eql rfl rfl) ?_
 refine da ?_
 refine D_end (hK4 _ _ ?_)
 refine W_if rfl (fun c1 => ?_) (fun c1 => ?_)
 ·
  refine W_seq fun K5 hK5 => ?_
  refine wr ?_
  refine da ?_
  refine D_end (hK5 _ _ ?_)
  refine W_ret ?_
  try dsimp only [then', inBlk, noGo]
  refine ro ?_
  exact ⟨by unfold notV; rw [if_pos c1], hx⟩
 ·
  refine W_seq fun K6 hK6 => ?_
  refine wr ?_
  refine dp (pv_eql rfl rfl) ?_
  refine da ?_
  refine D_end (hK6 _ _ ?_)
  refine W_if rfl (fun c2 => ?_) (fun c2 => ?_)
  ·
   refine W_seq fun K7 hK7 => ?_
   refine wr ?_
   refine da ?_
   refine D_end (hK7 _ _ ?_)
   refine W_ret ?_
   try dsimp only [then', inBlk, noGo]
   refine ro ?_
   exact ⟨by unfold notV; rw [if_neg c1, if_pos c2], hx⟩
  ·
   refine W_skip ?_
   refine hK2 _ _ ?_
   refine W_seq fun K8 hK8 => ?_
   refine wr ?_
   refine da ?_
   refine D_end (hK8 _ _ ?_)
   refine W_ret ?_
   try dsimp only [then', inBlk, noGo]
   refine ro ?_
   exact ⟨by unfold notV; rw [if_neg c1, if_neg c2], hx⟩

end Go.Proofs.YtcjjjmhhpejdoaaGreatDoor
