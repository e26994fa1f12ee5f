/-
  Walks.
-/
import Derived.Test.YteninjhmmjkckaaGreatDoorChecked
import Derived.Test.YteninjhmmjkckaaGreatDoorSpMem
import Derived.KernelRfl
import Derived.Test.YteninjhmmjkckaaGreatDoorIkA
import Derived.Test.YteninjhmmjkckaaGreatDoorDnA
namespace Go.Proofs.YteninjhmmjkckaaGreatDoor
open Go.Vc Go.Sp
attribute [local irreducible] W XW Dw DwT
set_option linter.unusedVariables false
set_option linter.unusedSimpArgs false

/-- A filter where it lies. -/
structure FilV where
  k : Value
  t : Value
  v : Value
  s : Value
  c : Value
@[reducible] def FilV.cs (f : FilV) : List Value := [f.k, f.t, f.v, f.s, f.c]
/-- A filter where it lies, with kids as deep as 'n'; texts of at most 'b'. -/
def FAt (b : Nat) (w : World) : Nat → FilV → Prop
  | 0, _ => False
  | n + 1, c => ∃ (k : Int) (t v : Str) (subs : List Str) (l : List FilV), c.k = I k ∧ c.t = S t ∧ c.v = S v ∧ Arr sEnc 1 w c.s subs ∧ Arr FilV.cs 5 w c.c l ∧ t.length ≤ b ∧ v.length ≤ b ∧ (∀ p ∈ subs, p.length ≤ b) ∧ subs.length ≤ 140737488355328 ∧ l.length ≤ 140737488355328 ∧ ∀ x ∈ l, FAt b w n x
theorem mem_takeS {α : Type} {l : List α} {k : Nat} {x y : α} (h : l[k]? = some x) (hy : y ∈ l.take (k + 1)) : y ∈ l.take k ∨ y = x := by
  rw [take_snocS h] at hy
  rcases List.mem_append.1 hy with h | h
  · exact .inl h
  · exact .inr (List.mem_singleton.1 h)
/-- A filter as a tree. -/
inductive Flt where
  | mk (k : Int) (t v : Str) (subs : List Str) (kids : List Flt)
def FRep (w : World) : Nat → FilV → Flt → Prop
  | 0, _, _ => False
  | n + 1, c, .mk k t v subs kids => c.k = I k ∧ c.t = S t ∧ c.v = S v ∧ Arr sEnc 1 w c.s subs ∧ subs.length ≤ 140737488355328 ∧ ∃ l : List FilV, Arr FilV.cs 5 w c.c l ∧ l.length = kids.length ∧ l.length ≤ 140737488355328 ∧ ∀ (i : Nat) (x : FilV) (f : Flt), l[i]? = some x → kids[i]? = some f → FRep w n x f
def okF (b : Nat) : Nat → Flt → Prop
  | 0, _ => False
  | n + 1, .mk _ t v subs kids => t.length ≤ b ∧ v.length ≤ b ∧ (∀ p ∈ subs, p.length ≤ b) ∧ ∀ f ∈ kids, okF b n f
def nodesF : Nat → Flt → Nat
  | 0, _ => 0
  | n + 1, .mk _ _ _ _ kids => 1 + (kids.map (nodesF n)).sum
theorem choose_list {α β : Type} {p : α → β → Prop} : ∀ l : List α, (∀ x ∈ l, ∃ y, p x y) → ∃ ys : List β, ys.length = l.length ∧ ∀ (i : Nat) (x : α) (y : β), l[i]? = some x → ys[i]? = some y → p x y
  | [], _ => ⟨[], rfl, fun i x y h => by simp at h⟩
  | a :: l, h => by
    obtain ⟨y, hy⟩ := h a List.mem_cons_self
    obtain ⟨ys, hl, hp⟩ := choose_list l (fun x hx => h x (List.mem_cons_of_mem _ hx))
    refine ⟨y :: ys, by simp [hl], fun i x z h1 h2 => ?_⟩
    cases i with
    | zero => simp only [List.getElem?_cons_zero, Option.some.injEq] at h1 h2; subst h1; subst h2; exact hy
    | succ i => simp only [List.getElem?_cons_succ] at h1 h2; exact hp i x z h1 h2
theorem pair_at {α β : Type} {l : List α} {m : List β} (hl : l.length = m.length) {i : Nat} {x : α} (h : l[i]? = some x) : ∃ y, m[i]? = some y := by
  obtain ⟨h1, _⟩ := List.getElem?_eq_some_iff.1 h
  exact ⟨m[i], List.getElem?_eq_getElem (by omega)⟩
theorem rep_of_at {b : Nat} {w : World} : ∀ (n : Nat) (c : FilV), FAt b w n c → b ≤ 140737488355328 → ∃ f, FRep w n c f ∧ okF b n f
  | 0, _, h, _ => h.elim
  | n + 1, c, h, hb => by
    obtain ⟨k, t, v, subs, l, e1, e2, e3, hs, hk, ht, hv, hsb, hsl, hll, hkids⟩ := h
    obtain ⟨ys, hyl, hy⟩ := choose_list (p := fun x f => FRep w n x f ∧ okF b n f) l (fun x hx => rep_of_at n x (hkids x hx) hb)
    refine ⟨.mk k t v subs ys, ⟨e1, e2, e3, hs, hsl, l, hk, hyl.symm, hll, fun i x f h1 h2 => (hy i x f h1 h2).1⟩, ht, hv, hsb, fun f hf => ?_⟩
    obtain ⟨i, hi⟩ := List.mem_iff_getElem?.1 hf
    obtain ⟨x, hx⟩ := pair_at hyl hi
    exact (hy i x f hx hi).2
theorem FRep.ext {w w' : World} (m : Ext w w') : ∀ {n : Nat} {c : FilV} {f : Flt}, FRep w n c f → FRep w' n c f
  | 0, _, _, h => h.elim
  | n + 1, c, .mk k t v subs kids, h => by
    obtain ⟨e1, e2, e3, hs, hsl, l, hk, hl, hll, hkids⟩ := h
    exact ⟨e1, e2, e3, hs.ext m, hsl, l, hk.ext m, hl, hll, fun i x f h1 h2 => (hkids i x f h1 h2).ext m⟩
theorem okF_mk {b m : Nat} {k : Int} {t v : Str} {subs : List Str} {kids : List Flt} (h1 : t.length ≤ b) (h2 : v.length ≤ b) (h3 : ∀ p ∈ subs, p.length ≤ b) (h4 : ∀ f ∈ kids, okF b m f) : okF b (m + 1) (.mk k t v subs kids) := ⟨h1, h2, h3, h4⟩
def HeavyQ (w : World) (m : Nat) (n : Int) (f : Flt) : Ending → World → Prop := Gives w (fun u _ => ∃ r : Int, u = I r ∧ -1000000000000000 ≤ r ∧ r ≤ n ∧ (0 ≤ r → r + 5 * (nodesF m f : Int) ≤ n ∧ okF 1000 m f))
theorem FRep.subs {w : World} {n : Nat} {c : FilV} {k : Int} {t v : Str} {subs : List Str} {kids : List Flt} (h : FRep w n c (.mk k t v subs kids)) : Arr sEnc 1 w c.s subs := by
  cases n with
  | zero => exact h.elim
  | succ n => exact h.2.2.2.1
theorem okF.here {b n : Nat} {k : Int} {t v : Str} {subs : List Str} {kids : List Flt} (h : okF b n (.mk k t v subs kids)) : t.length ≤ b ∧ v.length ≤ b ∧ ∀ p ∈ subs, p.length ≤ b := by
  cases n with
  | zero => exact h.elim
  | succ n => exact ⟨h.1, h.2.1, h.2.2.1⟩
theorem sum_next {kids : List Flt} {g : Flt → Nat} {i : Nat} {f : Flt} (h : kids[i]? = some f) : ((kids.take (i + 1)).map g).sum = ((kids.take i).map g).sum + g f := by
  rw [take_snocS h, List.map_append, List.sum_append]; simp

set_option maxRecDepth 100000 in
set_option maxHeartbeats 1000000 in
theorem heavy17_w (m : Nat) (k : Int) (t v : Str) (subs : List Str) (kids : List Flt) (l : List FilV) (vs vk : Value) (w : World) (hs : Arr sEnc 1 w vs subs) (hk0 : Arr FilV.cs 5 w vk l) (hlk : l.length = kids.length) (hsl : subs.length ≤ 140737488355328) (hll : l.length ≤ 140737488355328) (n : Int) (ht : t.length ≤ 140737488355328) (hv : v.length ≤ 140737488355328) (hsb : ∀ p ∈ subs, p.length ≤ 140737488355328) (ih : ∀ (i : Nat) (c : FilV) (f : Flt), l[i]? = some c → kids[i]? = some f → ∀ (w1 : World) (n1 : Int), Ext w w1 → 0 ≤ n1 → n1 ≤ 1000 → Calls Tryz.prog 4 [.agg ⟨c.cs⟩, I n1].toArray w1 (HeavyQ w1 m n1 f)) (hn : 0 ≤ n) (hn2 : n ≤ 1000) :
  Calls Tryz.prog 4 [.agg ⟨[I k, S t, S v, vs, vk]⟩, I n].toArray w (HeavyQ w (m + 1) n (.mk k t v subs kids)) := by
 refine calls_W Tryz.func4 rfl rfl rfl (by kernel_rfl) ?_
 have hx := Ext.refl w
 refine W_seq fun K1 hK1 => ?_
 refine wr ?_
 refine D_box rfl rfl rfl RX.all (fun b1 w1 e1 x1 m1 => ?_)
 have g1 : w.heap.size ≤ b1 := by have := hx.size; omega
 replace hx := hx.trans x1
 refine da ?_
 refine D_end (hK1 _ _ ?_)
 refine W_seq fun K2 hK2 => ?_
 refine wr ?_
 refine dm ?_
 refine dp (pv_sub rfl rfl (by unfold inI64; omega)) ?_
 refine dp (pv_fieldA (k := 1) (by kernel_rfl) rfl) ?_
 refine dq (lv_load (by kernel_rfl) rfl (m1.at rfl)) ?_
 refine dp (pv_lenS (by kernel_rfl) rfl) ?_
 refine dp (pv_sub rfl rfl (by unfold inI64; omega)) ?_
 refine dp (pv_fieldA (k := 2) (by kernel_rfl) rfl) ?_
 refine dq (lv_load (by kernel_rfl) rfl (m1.at rfl)) ?_
 refine dp (pv_lenS (by kernel_rfl) rfl) ?_
 refine dp (pv_sub rfl rfl (by unfold inI64; omega)) ?_
 refine da ?_
 refine D_end (hK2 _ _ ?_)
 refine W_seq fun K3 hK3 => ?_
 refine W_seq fun K4 hK4 => ?_
 refine wr ?_
 refine da ?_
 refine D_end (hK4 _ _ ?_)
 refine W_block ?_
 refine W_loop (G := Nat × Int) (fun (j, n1) => [(1, I n1), (2, ptr b1 0), (4, I 0), (5, I ↑j)]) (fun (j, n1) w' => Ext w w' ∧ Blk w' b1 [I k, S t, S v, vs, vk] 25 ∧ j ≤ subs.length ∧ -500000000000000 ≤ n1 ∧ n1 ≤ n ∧ (0 ≤ n1 → n1 + 5 ≤ n ∧ t.length ≤ 1000 ∧ v.length ≤ 1000 ∧ ∀ p ∈ subs.take j, p.length ≤ 1000)) (fun (j, n1) => subs.length - j) (0, n - 5 - t.length - v.length) ?_ ?_ ?_
 ·
  exact ⟨rfl, rfl, rfl, rfl, trivial⟩
 ·
  exact ⟨hx, m1, Nat.zero_le _, by omega, by omega, fun h => ⟨by omega, by omega, by omega, fun y hy => by simp at hy⟩⟩
 ·
  intro X2 g2 w2 hF2
  obtain ⟨j, n1⟩ := g2
  clear hx m1
  obtain ⟨hx, m1, hj1, hlo1, hhi1, hL1⟩ := hF2
  refine W_seq fun K5 hK5 => ?_
  refine W_seq fun K6 hK6 => ?_
  refine wr ?_
  refine dm ?_
  refine dp (pv_fieldA (k := 3) (by kernel_rfl) rfl) ?_
  refine dq (lv_load (by kernel_rfl) rfl (m1.at rfl)) ?_
  refine dp (pv_lenV (e := 9) (k := 1) (by kernel_rfl) hs.sl rfl) ?_
  refine dp (pv_lss rfl rfl) ?_
  refine dm ?_
  refine D_splitP 22 rfl (fun c1 => ?_) (fun c1 => ?_)
  ·
   refine dm ?_
   refine dp (pv_geq rfl rfl) ?_
   refine dk' ?_
   refine D_end (hK6 _ _ ?_)
   refine W_if rfl (fun c2 => ?_) (fun c2 => ?_)
   ·
    obtain ⟨p, hj⟩ : ∃ p, subs[j]? = some p := ⟨_, List.getElem?_eq_getElem (by omega)⟩
    have hp := hsb p (List.mem_of_getElem? hj)
    refine W_skip ?_
    refine hK5 _ _ ?_
    refine W_seq fun K7 hK7 => ?_
    refine W_block ?_
    refine wr ?_
    refine dm ?_
    refine dp (pv_sub rfl rfl (by unfold inI64; omega)) ?_
    refine dp (pv_fieldA (k := 3) (by kernel_rfl) rfl) ?_
    refine dq (lv_load (by kernel_rfl) rfl (m1.at rfl)) ?_
    refine dm ?_
    refine dp (pv_idxA (e := 9) (k := 1) (by kernel_rfl) hs.sl rfl rfl (hs.lt hj)) ?_
    refine dq (lv_load (by kernel_rfl) rfl (((hs.ext hx).row hj).at0 rfl)) ?_
    refine dp (pv_lenS (by kernel_rfl) rfl) ?_
    refine dp (pv_sub rfl rfl (by unfold inI64; omega)) ?_
    refine da ?_
    refine D_end (hK7 _ _ ?_)
    refine wr ?_
    refine dm ?_
    refine dp (pv_add rfl rfl (by unfold inI64; omega)) ?_
    refine da ?_
    refine D_end (?_)
    refine ⟨(j + 1, n1 - 1 - p.length), ⟨rfl, rfl, rfl, rfl, trivial⟩, ⟨hx, m1, by omega, by omega, by omega, fun h => ⟨by have := (hL1 (by omega)).1; omega, (hL1 (by omega)).2.1, (hL1 (by omega)).2.2.1, fun y hy => (mem_takeS hj hy).elim ((hL1 (by omega)).2.2.2 y) (fun e => by rw [e]; omega)⟩⟩, by simp only []; omega⟩
   ·
    refine W_exit ?_
    refine hK3 _ _ ?_
    refine W_seq fun K8 hK8 => ?_
    refine W_seq fun K9 hK9 => ?_
    refine wr ?_
    refine da ?_
    refine D_end (hK9 _ _ ?_)
    refine W_block ?_
    refine W_loop (G := Nat × Int) (fun (i, n2) => [(1, I n2), (2, ptr b1 0), (4, I 0), (6, I ↑i)]) (fun (i, n2) w' => Ext w w' ∧ Blk w' b1 [I k, S t, S v, vs, vk] 25 ∧ i ≤ l.length ∧ -1000000000000000 ≤ n2 ∧ n2 ≤ n1 ∧ (0 ≤ n2 → n2 + 5 * (1 + ((((kids.take i).map (nodesF m)).sum : Nat) : Int)) ≤ n ∧ (t.length ≤ 1000 ∧ v.length ≤ 1000 ∧ ∀ p ∈ subs, p.length ≤ 1000) ∧ ∀ f ∈ kids.take i, okF 1000 m f)) (fun (i, n2) => l.length - i) (0, n1) ?_ ?_ ?_
    ·
     exact ⟨rfl, rfl, rfl, rfl, trivial⟩
    ·
     exact ⟨hx, m1, Nat.zero_le _, by omega, by omega, fun h => by omega⟩
    ·
     intro X3 g3 w3 hF3
     obtain ⟨i, n2⟩ := g3
     clear hx m1
     obtain ⟨hx, m1, hi1, hlo2, hhi2, hL2⟩ := hF3
     refine W_seq fun K10 hK10 => ?_
     refine W_seq fun K11 hK11 => ?_
     refine wr ?_
     refine dm ?_
     refine dp (pv_fieldA (k := 4) (by kernel_rfl) rfl) ?_
     refine dq (lv_load (by kernel_rfl) rfl (m1.at rfl)) ?_
     refine dp (pv_lenV (e := 25) (k := 5) (by kernel_rfl) hk0.sl rfl) ?_
     refine dp (pv_lss rfl rfl) ?_
     refine dm ?_
     refine D_splitP 42 rfl (fun c3 => ?_) (fun c3 => ?_)
     ·
      refine dm ?_
      refine dp (pv_geq rfl rfl) ?_
      refine dk' ?_
      refine D_end (hK11 _ _ ?_)
      refine W_if rfl (fun c4 => ?_) (fun c4 => ?_)
      ·
       obtain ⟨c, hi⟩ : ∃ c, l[i]? = some c := ⟨_, List.getElem?_eq_getElem (by omega)⟩
       obtain ⟨f, hif⟩ := pair_at hlk hi
       
       refine W_skip ?_
       refine hK10 _ _ ?_
       refine W_seq fun K12 hK12 => ?_
       refine W_block ?_
       refine wr ?_
       refine dp (pv_fieldA (k := 4) (by kernel_rfl) rfl) ?_
       refine dq (lv_load (by kernel_rfl) rfl (m1.at rfl)) ?_
       refine dm ?_
       refine dp (pv_idxA (e := 25) (k := 5) (by kernel_rfl) hk0.sl rfl rfl (hk0.lt hi)) ?_
       refine dq (lv_loadA (by kernel_rfl) rfl rfl ((hk0.ext hx).row hi)) ?_
       refine dm ?_
       refine D_callG rfl (by kernel_rfl) (ih i c f hi hif _ n2 hx (by omega) (by omega)) rfl RX.all (fun u4 w4 x4 hf4 => ?_)
       have hsz4 := hx.size
       replace m1 := m1.ext x4
       replace hx := hx.trans x4
       obtain ⟨r, rfl, hr1, hr2, hr3⟩ := hf4
       refine da ?_
       refine D_end (hK12 _ _ ?_)
       refine wr ?_
       refine dm ?_
       refine dp (pv_add rfl rfl (by unfold inI64; omega)) ?_
       refine da ?_
       refine D_end (?_)
       refine ⟨(i + 1, r), ⟨rfl, rfl, rfl, rfl, trivial⟩, ⟨hx, m1, by omega, hr1, by omega, fun h => ⟨by have h1 := (hr3 h).1; have h2 := (hL2 (by omega)).1; rw [sum_next hif]; omega, (hL2 (by omega)).2.1, fun y hy => (mem_takeS hif hy).elim ((hL2 (by omega)).2.2 y) (fun e => e ▸ (hr3 h).2)⟩⟩, by simp only []; omega⟩
      ·
       refine W_exit ?_
       refine hK8 _ _ ?_
       refine W_seq fun K13 hK13 => ?_
       refine wr ?_
       refine dm ?_
       refine da ?_
       refine D_end (hK13 _ _ ?_)
       refine W_ret ?_
       try dsimp only [then', inBlk, noGo]
       refine ro ?_
       exact ⟨_, rfl, hx, n2, rfl, by omega, by omega, fun h => by first | (exfalso; omega) | (have hh := hL2 h; rw [List.take_of_length_le (show kids.length ≤ i by omega)] at hh; exact ⟨(show n2 + 5 * (((1 + (kids.map (nodesF m)).sum : Nat)) : Int) ≤ n by have := hh.1; omega), okF_mk hh.2.1.1 hh.2.1.2.1 hh.2.1.2.2 hh.2.2⟩)⟩
     ·
      iterate 2 refine dk ?_
      refine dk' ?_
      refine D_end (hK11 _ _ ?_)
      refine W_f rfl ?_
      refine W_exit ?_
      refine hK8 _ _ ?_
      refine W_seq fun K14 hK14 => ?_
      refine wr ?_
      refine dm ?_
      refine da ?_
      refine D_end (hK14 _ _ ?_)
      refine W_ret ?_
      try dsimp only [then', inBlk, noGo]
      refine ro ?_
      exact ⟨_, rfl, hx, n2, rfl, by omega, by omega, fun h => by first | (exfalso; omega) | (have hh := hL2 h; rw [List.take_of_length_le (show kids.length ≤ i by omega)] at hh; exact ⟨(show n2 + 5 * (((1 + (kids.map (nodesF m)).sum : Nat)) : Int) ≤ n by have := hh.1; omega), okF_mk hh.2.1.1 hh.2.1.2.1 hh.2.1.2.2 hh.2.2⟩)⟩
  ·
   iterate 2 refine dk ?_
   refine dk' ?_
   refine D_end (hK6 _ _ ?_)
   refine W_f rfl ?_
   refine W_exit ?_
   refine hK3 _ _ ?_
   refine W_seq fun K15 hK15 => ?_
   refine W_seq fun K16 hK16 => ?_
   refine wr ?_
   refine da ?_
   refine D_end (hK16 _ _ ?_)
   refine W_block ?_
   refine W_loop (G := Nat × Int) (fun (i, n2) => [(1, I n2), (2, ptr b1 0), (4, I 0), (6, I ↑i)]) (fun (i, n2) w' => Ext w w' ∧ Blk w' b1 [I k, S t, S v, vs, vk] 25 ∧ i ≤ l.length ∧ -1000000000000000 ≤ n2 ∧ n2 ≤ n1 ∧ (0 ≤ n2 → n2 + 5 * (1 + ((((kids.take i).map (nodesF m)).sum : Nat) : Int)) ≤ n ∧ (t.length ≤ 1000 ∧ v.length ≤ 1000 ∧ ∀ p ∈ subs, p.length ≤ 1000) ∧ ∀ f ∈ kids.take i, okF 1000 m f)) (fun (i, n2) => l.length - i) (0, n1) ?_ ?_ ?_
   ·
    exact ⟨rfl, rfl, rfl, rfl, trivial⟩
   ·
    exact ⟨hx, m1, Nat.zero_le _, by omega, by omega, fun h => ⟨by have hh := hL1 h; simp only [List.take_zero, List.map_nil, List.sum_nil]; omega, by have hh := hL1 h; rw [List.take_of_length_le (show subs.length ≤ j by omega)] at hh; exact hh.2, fun y hy => by simp at hy⟩⟩
   ·
    intro X5 g5 w5 hF5
    obtain ⟨i, n2⟩ := g5
    clear hx m1
    obtain ⟨hx, m1, hi1, hlo2, hhi2, hL2⟩ := hF5
    refine W_seq fun K17 hK17 => ?_
    refine W_seq fun K18 hK18 => ?_
    refine wr ?_
    refine dm ?_
    refine dp (pv_fieldA (k := 4) (by kernel_rfl) rfl) ?_
    refine dq (lv_load (by kernel_rfl) rfl (m1.at rfl)) ?_
    refine dp (pv_lenV (e := 25) (k := 5) (by kernel_rfl) hk0.sl rfl) ?_
    refine dp (pv_lss rfl rfl) ?_
    refine dm ?_
    refine D_splitP 42 rfl (fun c5 => ?_) (fun c5 => ?_)
    ·
     refine dm ?_
     refine dp (pv_geq rfl rfl) ?_
     refine dk' ?_
     refine D_end (hK18 _ _ ?_)
     refine W_if rfl (fun c6 => ?_) (fun c6 => ?_)
     ·
      obtain ⟨c, hi⟩ : ∃ c, l[i]? = some c := ⟨_, List.getElem?_eq_getElem (by omega)⟩
      obtain ⟨f, hif⟩ := pair_at hlk hi
      
      refine W_skip ?_
      refine hK17 _ _ ?_
      refine W_seq fun K19 hK19 => ?_
      refine W_block ?_
      refine wr ?_
      refine dp (pv_fieldA (k := 4) (by kernel_rfl) rfl) ?_
      refine dq (lv_load (by kernel_rfl) rfl (m1.at rfl)) ?_
      refine dm ?_
      refine dp (pv_idxA (e := 25) (k := 5) (by kernel_rfl) hk0.sl rfl rfl (hk0.lt hi)) ?_
      refine dq (lv_loadA (by kernel_rfl) rfl rfl ((hk0.ext hx).row hi)) ?_
      refine dm ?_
      refine D_callG rfl (by kernel_rfl) (ih i c f hi hif _ n2 hx (by omega) (by omega)) rfl RX.all (fun u6 w6 x6 hf6 => ?_)
      have hsz6 := hx.size
      replace m1 := m1.ext x6
      replace hx := hx.trans x6
      obtain ⟨r, rfl, hr1, hr2, hr3⟩ := hf6
      refine da ?_
      refine D_end (hK19 _ _ ?_)
      refine wr ?_
      refine dm ?_
      refine dp (pv_add rfl rfl (by unfold inI64; omega)) ?_
      refine da ?_
      refine D_end (?_)
      refine ⟨(i + 1, r), ⟨rfl, rfl, rfl, rfl, trivial⟩, ⟨hx, m1, by omega, hr1, by omega, fun h => ⟨by have h1 := (hr3 h).1; have h2 := (hL2 (by omega)).1; rw [sum_next hif]; omega, (hL2 (by omega)).2.1, fun y hy => (mem_takeS hif hy).elim ((hL2 (by omega)).2.2 y) (fun e => e ▸ (hr3 h).2)⟩⟩, by simp only []; omega⟩
     ·
      refine W_exit ?_
      refine hK15 _ _ ?_
      refine W_seq fun K20 hK20 => ?_
      refine wr ?_
      refine dm ?_
      refine da ?_
      refine D_end (hK20 _ _ ?_)
      refine W_ret ?_
      try dsimp only [then', inBlk, noGo]
      refine ro ?_
      exact ⟨_, rfl, hx, n2, rfl, by omega, by omega, fun h => by first | (exfalso; omega) | (have hh := hL2 h; rw [List.take_of_length_le (show kids.length ≤ i by omega)] at hh; exact ⟨(show n2 + 5 * (((1 + (kids.map (nodesF m)).sum : Nat)) : Int) ≤ n by have := hh.1; omega), okF_mk hh.2.1.1 hh.2.1.2.1 hh.2.1.2.2 hh.2.2⟩)⟩
    ·
     iterate 2 refine dk ?_
     refine dk' ?_
     refine D_end (hK18 _ _ ?_)
     refine W_f rfl ?_
     refine W_exit ?_
     refine hK15 _ _ ?_
     refine W_seq fun K21 hK21 => ?_
     refine wr ?_
     refine dm ?_
     refine da ?_
     refine D_end (hK21 _ _ ?_)
     refine W_ret ?_
     try dsimp only [then', inBlk, noGo]
     refine ro ?_
     exact ⟨_, rfl, hx, n2, rfl, by omega, by omega, fun h => by first | (exfalso; omega) | (have hh := hL2 h; rw [List.take_of_length_le (show kids.length ≤ i by omega)] at hh; exact ⟨(show n2 + 5 * (((1 + (kids.map (nodesF m)).sum : Nat)) : Int) ≤ n by have := hh.1; omega), okF_mk hh.2.1.1 hh.2.1.2.1 hh.2.1.2.2 hh.2.2⟩)⟩

theorem heavy_all : ∀ (m : Nat) (c : FilV) (f : Flt) (w : World), FRep w m c f → okF 140737488355328 m f → ∀ (w1 : World) (n1 : Int), Ext w w1 → 0 ≤ n1 → n1 ≤ 1000 → Calls Tryz.prog 4 [.agg ⟨c.cs⟩, I n1].toArray w1 (HeavyQ w1 m n1 f)
  | 0, _, _, _, h, _, _, _, _, _, _ => h.elim
  | m + 1, c, .mk k t v subs kids, w, h, ho, w1, n1, hx, h0, h1 => by
    obtain ⟨e1, e2, e3, hs, hsl, l, hk, hl, hll, hkids⟩ := h.ext hx
    obtain ⟨ck, ct, cv, cs, cc⟩ := c
    subst e1 e2 e3
    exact heavy17_w m k t v subs kids l cs cc w1 hs hk hl hsl hll n1 ho.1 ho.2.1 ho.2.2.1 (fun i c f hi hf w2 n2 hx2 h2 h3 => heavy_all m c f w1 (hkids i c f hi hf) (ho.2.2.2 f (List.mem_of_getElem? hf)) w2 n2 hx2 h2 h3) h0 h1

end Go.Proofs.YteninjhmmjkckaaGreatDoor
