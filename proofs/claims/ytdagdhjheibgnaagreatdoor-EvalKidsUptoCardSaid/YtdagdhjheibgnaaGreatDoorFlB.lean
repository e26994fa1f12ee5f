/-
  Walks.
-/
import Derived.Test.YtdagdhjheibgnaaGreatDoorChecked
import Derived.Test.YtdagdhjheibgnaaGreatDoorSpMem
import Derived.KernelRfl
import Derived.Test.YtdagdhjheibgnaaGreatDoorFlA
namespace Go.Proofs.YtdagdhjheibgnaaGreatDoor
open Go.Vc Go.Sp
attribute [local irreducible] W XW Dw DwT
set_option linter.unusedVariables false
set_option linter.unusedSimpArgs false

section
variable {m : Nat} {d : Int} {k : Int} {t v : Str} {subs : List Str} {kids : List Flt}
theorem one_deep (h : 16 < d) : oneF (m + 1) d (.mk k t v subs kids) = false := by unfold oneF; rw [decide_eq_true h]; rfl
theorem one_head (h : headM k t v subs kids.length = false) : oneF (m + 1) d (.mk k t v subs kids) = false := by unfold oneF; rw [h]; simp
theorem one_kids (h : ¬ 16 < d) (hh : headM k t v subs kids.length = true) : oneF (m + 1) d (.mk k t v subs kids) = kids.all (oneF m (d + 1)) := by unfold oneF; rw [hh, decide_eq_false h]; simp
theorem one_leaf (h : ¬ 16 < d) (hk : ¬ (k = 0 ∨ k = 1 ∨ k = 2)) : oneF (m + 1) d (.mk k t v subs kids) = (decide (kids.length = 0) && leafM k t v subs) := by
  by_cases h0 : kids.length = 0
  · obtain rfl := List.eq_nil_of_length_eq_zero h0
    unfold oneF headM; rw [decide_eq_false h, if_neg hk]; simp
  · rw [one_head (by unfold headM; rw [if_neg hk, decide_eq_false h0]; rfl), decide_eq_false h0]; rfl
theorem head_top (hk : k = 0 ∨ k = 1 ∨ k = 2) (n : Nat) : headM k t v subs n = topM k t v subs.length n := by unfold headM; rw [if_pos hk]
theorem leaf356 (h : k = 3 ∨ k = 5 ∨ k = 6) : leafM k t v subs = (decide (subs.length = 0) && typeS t && decide (v.length ≤ 256)) := by unfold leafM; rw [if_pos h]
theorem leaf4 (h : k = 4) : leafM k t v subs = (decide (v = []) && typeS t && subsM subs) := by unfold leafM; rw [if_neg (by omega), if_pos h]
theorem leaf7 (h : k = 7) : leafM k t v subs = (decide (v = []) && decide (subs.length = 0) && typeS t) := by unfold leafM; rw [if_neg (by omega), if_neg (by omega), if_pos h]
theorem leaf_no (h1 : ¬ (k = 3 ∨ k = 5 ∨ k = 6)) (h4 : ¬ k = 4) (h7 : ¬ k = 7) : leafM k t v subs = false := by unfold leafM; rw [if_neg h1, if_neg h4, if_neg h7]
theorem top_is (n : Nat) : topM k t v subs.length n = (decide (t = []) && decide (v = []) && decide (subs.length = 0) && decide (1 ≤ n) && (decide (k ≠ 2) || decide (n ≤ 1))) := rfl
end
/-- A text that is empty stands between two. -/
def gapS (l : List Str) (i : Nat) : Prop := l[i]? = some [] ∧ 0 < i ∧ i + 1 < l.length
theorem gap_any {l : List Str} : ((l.take (l.length - 1)).drop 1).any (fun s => decide (s = [])) = true ↔ ∃ i, gapS l i := by
  rw [List.any_eq_true]
  constructor
  · rintro ⟨s, hs, he⟩
    obtain rfl : s = [] := of_decide_eq_true he
    obtain ⟨j, hj⟩ := List.mem_iff_getElem?.1 hs
    rw [List.getElem?_drop, List.getElem?_take] at hj
    split at hj
    · exact ⟨1 + j, hj, by omega, by omega⟩
    · cases hj
  · rintro ⟨i, h, h0, h1⟩
    refine ⟨[], List.mem_iff_getElem?.2 ⟨i - 1, ?_⟩, rfl⟩
    rw [List.getElem?_drop, List.getElem?_take, if_pos (by omega), show 1 + (i - 1) = i by omega]; exact h
theorem subs_short {l : List Str} (h : l.length < 2 ∨ 16 < l.length) : subsM l = false := by
  unfold subsM
  rcases h with h | h
  · rw [decide_eq_false (show ¬ 2 ≤ l.length by omega)]; rfl
  · rw [decide_eq_false (show ¬ l.length ≤ 16 by omega)]; simp
theorem subs_long {l : List Str} {i : Nat} {s : Str} (h : l[i]? = some s) (h2 : 256 < s.length) : subsM l = false := by
  unfold subsM
  rw [show l.any (fun s => decide (256 < s.length)) = true from List.any_eq_true.2 ⟨s, List.mem_of_getElem? h, decide_eq_true h2⟩]; simp
theorem subs_gap {l : List Str} {i : Nat} (h : gapS l i) : subsM l = false := by
  unfold subsM
  rw [gap_any.2 ⟨i, h⟩]; simp
theorem subs_ok {l : List Str} (h1 : 2 ≤ l.length) (h2 : l.length ≤ 16) (h3 : l.any (fun s => decide (256 < s.length)) = false) (h4 : ∀ i, ¬ gapS l i) : subsM l = l.any (fun s => decide (s ≠ [])) := by
  unfold subsM
  rw [decide_eq_true h1, decide_eq_true h2, h3, show ((l.take (l.length - 1)).drop 1).any (fun s => decide (s = [])) = false from by rw [Bool.eq_false_iff]; intro h; obtain ⟨i, hi⟩ := gap_any.1 h; exact h4 i hi]; simp
theorem any_nextS {s : List Str} {p : Str → Bool} {k : Nat} {c : Str} (h : s[k]? = some c) : (s.take (k + 1)).any p = ((s.take k).any p || p c) := by
  rw [take_snocS h, List.any_append]; simp
/-- A middle that has no empty text, and is not empty. -/
theorem mid_any {l : List Str} (h : 2 < l.length) (hg : ((l.take (l.length - 1)).drop 1).any (fun s => decide (s = [])) = false) : l.any (fun s => decide (s ≠ [])) = true := by
  rw [List.any_eq_true]
  have h1 : 1 < l.length := by omega
  refine ⟨l[1], List.getElem_mem h1, decide_eq_true fun e => ?_⟩
  rw [Bool.eq_false_iff] at hg
  exact hg (gap_any.2 ⟨1, by rw [List.getElem?_eq_getElem h1, e], by omega, by omega⟩)
theorem two_any {l : List Str} {a b : Str} (h : l.length = 2) (ha : l[0]? = some a) (hb : l[1]? = some b) : l.any (fun s => decide (s ≠ [])) = (decide (a ≠ []) || decide (b ≠ [])) := by
  match l, h with
  | [x, y], _ =>
    simp only [List.getElem?_cons_zero, List.getElem?_cons_succ, Option.some.injEq] at ha hb
    subst ha; subst hb; simp
theorem far_one {bl D : Nat} {a b : World} (hD : D ≤ bl) (h : Vc.Mod (oneB bl) a b) : Vc.Mod (geB D) a b := h.mono (fun i hi _ => by have e : i = bl := hi; subst e; exact hD)
/-- What a test of a filter tells, and how many are left behind it. -/
def mayT (m : Nat) (n left : Int) (f : Flt) (b : Bool) (x : Int) : Prop := b = (oneF m (n + 1) f && decide ((nodesF m f : Int) ≤ left)) ∧ (b = true → x = left - nodesF m f) ∧ -1 ≤ x ∧ x ≤ left
def MayP (bl : Nat) (w : World) (m : Nat) (n left : Int) (f : Flt) : Ending → World → Prop := Does (oneB bl) w (fun u w' => ∃ (b : Bool) (x : Int), u = B b ∧ Blk w' bl [I x] 3 ∧ mayT m n left f b x)
def mayA (m : Nat) (n left : Int) (kids : List Flt) (b : Bool) (x : Int) : Prop := b = (kids.all (oneF m (n + 1 + 1)) && decide (((kids.map (nodesF m)).sum : Int) ≤ left)) ∧ (b = true → x = left - (kids.map (nodesF m)).sum) ∧ -1 ≤ x ∧ x ≤ left
theorem may_no {m : Nat} {n left : Int} {f : Flt} {x : Int} (h : oneF m (n + 1) f = false ∨ ¬ (nodesF m f : Int) ≤ left) (h1 : -1 ≤ x) (h2 : x ≤ left) : mayT m n left f false x := by
  refine ⟨?_, (fun e => by cases e), h1, h2⟩
  rcases h with h | h
  · rw [h]; rfl
  · rw [decide_eq_false h]; simp
theorem may_kids {m : Nat} {n left x : Int} {k : Int} {t v : Str} {subs : List Str} {kids : List Flt} {b : Bool} (hn : ¬ 16 ≤ n) (hh : headM k t v subs kids.length = true) (h : mayA m n (left - 1) kids b x) : mayT (m + 1) n left (.mk k t v subs kids) b x := by
  obtain ⟨h1, h2, h3, h4⟩ := h
  have e : nodesF (m + 1) (.mk k t v subs kids) = 1 + (kids.map (nodesF m)).sum := rfl
  refine ⟨?_, fun hb => ?_, h3, by omega⟩
  · rw [one_kids (by omega) hh, h1, e]
    congr 1
    rw [decide_eq_decide]; omega
  · have := h2 hb
    rw [e]; omega

set_option maxRecDepth 100000 in
set_option maxHeartbeats 1000000 in
theorem nodes_w (m : Nat) (k : Int) (t v : Str) (subs : List Str) (kids : List Flt) (l : List FilV) (vs vk : Value) (w : World) (hs : Arr sEnc 1 w vs subs) (hk0 : Arr FilV.cs 5 w vk l) (hlk : l.length = kids.length) (hsl : subs.length ≤ 140737488355328) (hll : l.length ≤ 140737488355328) (ih : ∀ (i : Nat) (c : FilV) (f : Flt), l[i]? = some c → kids[i]? = some f → ∀ (w1 : World), Ext w w1 → nodesF m f ≤ 1000 → Calls Tryz.prog 31 [.agg ⟨c.cs⟩].toArray w1 (Pure w1 (I ↑(nodesF m f)))) (hN : 1 + (kids.map (nodesF m)).sum ≤ 1000) :
  Calls Tryz.prog 31 [.agg ⟨[I k, S t, S v, vs, vk]⟩].toArray w (Pure w (I ↑(nodesF (m + 1) (.mk k t v subs kids)))) := by
 refine calls_W Tryz.func31 rfl rfl rfl (by kernel_rfl) ?_
 have hx := Ext.refl w
 refine W_seq fun K1 hK1 => ?_
 refine wr ?_
 refine D_box rfl rfl rfl RX.all (fun b1 w1 e1 x1 m1 => ?_)
 have g1 : w.heap.size ≤ b1 := by have := hx.size; omega
 replace hx := hx.trans x1
 refine da ?_
 refine D_end (hK1 _ _ ?_)
 refine W_seq fun K2 hK2 => ?_
 refine wr ?_
 refine da ?_
 refine D_end (hK2 _ _ ?_)
 refine W_seq fun K3 hK3 => ?_
 refine W_seq fun K4 hK4 => ?_
 refine wr ?_
 refine da ?_
 refine D_end (hK4 _ _ ?_)
 refine W_block ?_
 refine W_loop (G := Nat) (fun i => [(1, ptr b1 0), (2, I 0), (3, I ↑(1 + ((kids.take i).map (nodesF m)).sum)), (4, I ↑i)]) (fun i w' => Ext w w' ∧ Blk w' b1 [I k, S t, S v, vs, vk] 25 ∧ i ≤ l.length) (fun i => l.length - i) 0 ?_ ?_ ?_
 ·
  exact ⟨rfl, rfl, rfl, rfl, trivial⟩
 ·
  exact ⟨hx, m1, Nat.zero_le _⟩
 ·
  intro X2 g2 w2 hF2
  revert hF2; revert g2; intro i hF2
  clear hx m1
  obtain ⟨hx, m1, hi1⟩ := hF2
  refine W_seq fun K5 hK5 => ?_
  refine W_seq fun K6 hK6 => ?_
  refine wr ?_
  refine dm ?_
  refine dp (pv_fieldA (k := 4) (by kernel_rfl) rfl) ?_
  refine dq (lv_load (by kernel_rfl) rfl (m1.at rfl)) ?_
  refine dp (pv_lenV (e := 25) (k := 5) (by kernel_rfl) hk0.sl rfl) ?_
  refine dp (pv_lss rfl rfl) ?_
  refine D_end (hK6 _ _ ?_)
  refine W_if rfl (fun c1 => ?_) (fun c1 => ?_)
  ·
   obtain ⟨c, hi⟩ : ∃ c, l[i]? = some c := ⟨_, List.getElem?_eq_getElem (by omega)⟩
   obtain ⟨f, hif⟩ := pair_at hlk hi
   have hle := sum_take (f := nodesF m) hif
   refine W_skip ?_
   refine hK5 _ _ ?_
   refine W_seq fun K7 hK7 => ?_
   refine W_block ?_
   refine wr ?_
   refine dm ?_
   refine dp (pv_fieldA (k := 4) (by kernel_rfl) rfl) ?_
   refine dq (lv_load (by kernel_rfl) rfl (m1.at rfl)) ?_
   refine dm ?_
   refine dp (pv_idxA (e := 25) (k := 5) (by kernel_rfl) hk0.sl rfl rfl (hk0.lt hi)) ?_
   refine dq (lv_loadA (by kernel_rfl) rfl rfl ((hk0.ext hx).row hi)) ?_
   refine D_callP rfl (by kernel_rfl) (ih i c f hi hif _ hx (by omega)) rfl RX.all (fun w3 x3 => ?_)
   replace m1 := m1.ext x3
   replace hx := hx.trans x3
   refine D_pe (v := I ↑(1 + ((kids.take (i + 1)).map (nodesF m)).sum)) rfl (pv_add rfl rfl (by unfold inI64; omega)) (by rw [sum_next hif]; show I _ = I _; congr 1; omega) ?_
   refine da ?_
   refine D_end (hK7 _ _ ?_)
   refine wr ?_
   refine dm ?_
   refine dp (pv_add rfl rfl (by unfold inI64; omega)) ?_
   refine da ?_
   refine D_end (?_)
   refine ⟨i + 1, ⟨rfl, rfl, rfl, rfl, trivial⟩, ⟨hx, m1, by omega⟩, by omega⟩
  ·
   refine W_exit ?_
   refine hK3 _ _ ?_
   refine W_seq fun K8 hK8 => ?_
   refine wr ?_
   refine dm ?_
   refine da ?_
   refine D_end (hK8 _ _ ?_)
   refine W_ret ?_
   try dsimp only [then', inBlk, noGo]
   refine ro ?_
   rw [List.take_of_length_le (show kids.length ≤ i by omega)]
   exact ⟨rfl, hx⟩

theorem nodes_all : ∀ (m : Nat) (c : FilV) (f : Flt) (w : World), FRep w m c f → ∀ (w1 : World), Ext w w1 → nodesF m f ≤ 1000 → Calls Tryz.prog 31 [.agg ⟨c.cs⟩].toArray w1 (Pure w1 (I ↑(nodesF m f)))
  | 0, _, _, _, h, _, _, _ => h.elim
  | m + 1, c, .mk k t v subs kids, w, h, w1, hx, hN => by
    obtain ⟨e1, e2, e3, hs, hsl, l, hk, hl, hll, hkids⟩ := h.ext hx
    obtain ⟨ck, ct, cv, cs, cc⟩ := c
    subst e1 e2 e3
    exact nodes_w m k t v subs kids l cs cc w1 hs hk hl hsl hll (fun i c f hi hf w2 hx2 h2 => nodes_all m c f w1 (hkids i c f hi hf) w2 hx2 h2) hN

set_option maxRecDepth 100000 in
set_option maxHeartbeats 1000000 in
theorem rsubs_w (l : List Str) (v : Value) (w : World) (hv : Arr sEnc 1 w v l) (hl : l.length ≤ 140737488355328) :
  Calls Tryz.prog 63 [v].toArray w (Pure w (B (subsM l))) := by
 refine calls_W Tryz.func63 rfl rfl rfl (by kernel_rfl) ?_
 have hx := Ext.refl w
 refine W_seq fun K1 hK1 => ?_
 refine wr ?_
 refine da ?_
 refine D_end (hK1 _ _ ?_)
 refine W_seq fun K2 hK2 => ?_
 refine W_seq fun K3 hK3 => ?_
 refine wr ?_
 refine dm ?_
 refine dp (pv_lenV (e := 9) (k := 1) (by kernel_rfl) hv.sl rfl) ?_
 refine dp (pv_lss rfl rfl) ?_
 refine dm ?_
 refine D_splitP 8 rfl (fun c1 => ?_) (fun c1 => ?_)
 ·
  iterate 3 refine dk ?_
  refine dk' ?_
  refine D_end (hK3 _ _ ?_)
  refine W_t rfl ?_
  refine W_seq fun K4 hK4 => ?_
  refine wr ?_
  refine da ?_
  refine D_end (hK4 _ _ ?_)
  refine W_ret ?_
  try dsimp only [then', inBlk, noGo]
  refine ro ?_
  refine ⟨?_, hx⟩
  first
  | (rw [subs_short (by omega)]; done)
  | (rw [subs_long hk (by omega)]; done)
  | (rw [subs_gap (i := k) ⟨by rw [hk]; congr 1, by omega, by omega⟩]; done)
  | (rw [List.take_of_length_le (show l.length ≤ k by omega)] at he hlg; rw [subs_ok (by omega) (by omega) hlg (fun i hg => hgp i (by have := hg.2.2; omega) hg), he]; done)
 ·
  refine dm ?_
  refine dp (pv_lenV (e := 9) (k := 1) (by kernel_rfl) hv.sl rfl) ?_
  refine dp (pv_gtr rfl rfl) ?_
  refine dk' ?_
  refine D_end (hK3 _ _ ?_)
  refine W_if rfl (fun c2 => ?_) (fun c2 => ?_)
  ·
   refine W_seq fun K5 hK5 => ?_
   refine wr ?_
   refine da ?_
   refine D_end (hK5 _ _ ?_)
   refine W_ret ?_
   try dsimp only [then', inBlk, noGo]
   refine ro ?_
   refine ⟨?_, hx⟩
   first
   | (rw [subs_short (by omega)]; done)
   | (rw [subs_long hk (by omega)]; done)
   | (rw [subs_gap (i := k) ⟨by rw [hk]; congr 1, by omega, by omega⟩]; done)
   | (rw [List.take_of_length_le (show l.length ≤ k by omega)] at he hlg; rw [subs_ok (by omega) (by omega) hlg (fun i hg => hgp i (by have := hg.2.2; omega) hg), he]; done)
  ·
   refine W_skip ?_
   refine hK2 _ _ ?_
   refine W_seq fun K6 hK6 => ?_
   refine wr ?_
   refine da ?_
   refine D_end (hK6 _ _ ?_)
   refine W_seq fun K7 hK7 => ?_
   refine W_seq fun K8 hK8 => ?_
   refine wr ?_
   refine da ?_
   refine D_end (hK8 _ _ ?_)
   refine W_block ?_
   refine W_loop (G := Nat × Bool) (fun (k, e) => [(0, v), (3, B e), (4, I ↑k)]) (fun (k, e) w' => Ext w w' ∧ k ≤ l.length ∧ e = (l.take k).any (fun s => decide (s ≠ [])) ∧ (l.take k).any (fun s => decide (256 < s.length)) = false ∧ ∀ i, i < k → ¬ gapS l i) (fun (k, e) => l.length - k) (0, false) ?_ ?_ ?_
   ·
    exact ⟨rfl, rfl, rfl, trivial⟩
   ·
    exact ⟨hx, Nat.zero_le _, rfl, rfl, fun i hi => absurd hi (Nat.not_lt_zero _)⟩
   ·
    intro X1 g1 w1 hF1
    obtain ⟨k, e⟩ := g1
    clear hx
    obtain ⟨hx, hk1, he, hlg, hgp⟩ := hF1
    refine W_seq fun K9 hK9 => ?_
    refine W_seq fun K10 hK10 => ?_
    refine wr ?_
    iterate 2 refine dm ?_
    refine dp (pv_lenV (e := 9) (k := 1) (by kernel_rfl) hv.sl rfl) ?_
    refine dp (pv_lss rfl rfl) ?_
    refine D_end (hK10 _ _ ?_)
    refine W_if rfl (fun c3 => ?_) (fun c3 => ?_)
    ·
     obtain ⟨s, hk⟩ : ∃ s, l[k]? = some s := ⟨_, List.getElem?_eq_getElem (by omega)⟩
     refine W_skip ?_
     refine hK9 _ _ ?_
     refine W_seq fun K11 hK11 => ?_
     refine W_block ?_
     refine W_seq fun K12 hK12 => ?_
     refine W_seq fun K13 hK13 => ?_
     refine wr ?_
     iterate 2 refine dm ?_
     refine dp (pv_idxA (e := 9) (k := 1) (by kernel_rfl) hv.sl rfl rfl (hv.lt hk)) ?_
     refine dq (lv_load (by kernel_rfl) rfl (((hv.ext hx).row hk).at0 rfl)) ?_
     refine dp (pv_lenS (by kernel_rfl) rfl) ?_
     refine dp (pv_gtr rfl rfl) ?_
     refine dm ?_
     refine D_splitP 25 rfl (fun c4 => ?_) (fun c4 => ?_)
     ·
      iterate 16 refine dk ?_
      refine dk' ?_
      refine D_end (hK13 _ _ ?_)
      refine W_t rfl ?_
      refine W_seq fun K14 hK14 => ?_
      refine wr ?_
      refine da ?_
      refine D_end (hK14 _ _ ?_)
      refine W_ret ?_
      try dsimp only [then', inBlk, noGo]
      refine ro ?_
      refine ⟨?_, hx⟩
      first
      | (rw [subs_short (by omega)]; done)
      | (rw [subs_long hk (by omega)]; done)
      | (rw [subs_gap (i := k) ⟨by rw [hk]; congr 1, by omega, by omega⟩]; done)
      | (rw [List.take_of_length_le (show l.length ≤ k by omega)] at he hlg; rw [subs_ok (by omega) (by omega) hlg (fun i hg => hgp i (by have := hg.2.2; omega) hg), he]; done)
     ·
      iterate 2 refine dm ?_
      refine dp (pv_idxA (e := 9) (k := 1) (by kernel_rfl) hv.sl rfl rfl (hv.lt hk)) ?_
      refine dq (lv_load (by kernel_rfl) rfl (((hv.ext hx).row hk).at0 rfl)) ?_
      refine dp (pv_seq rfl rfl) ?_
      refine dm ?_
      refine D_splitP 31 rfl (fun c5 => ?_) (fun c5 => ?_)
      ·
       refine dm ?_
       refine dp (pv_gtr rfl rfl) ?_
       refine dk' ?_
       refine dm ?_
       refine D_splitP 35 rfl (fun c6 => ?_) (fun c6 => ?_)
       ·
        refine dm ?_
        refine dp (pv_add rfl rfl (by unfold inI64; omega)) ?_
        refine dm ?_
        refine dp (pv_lenV (e := 9) (k := 1) (by kernel_rfl) hv.sl rfl) ?_
        refine dp (pv_lss rfl rfl) ?_
        refine dk' ?_
        refine dk' ?_
        refine D_end (hK13 _ _ ?_)
        refine W_if rfl (fun c7 => ?_) (fun c7 => ?_)
        ·
         refine W_seq fun K15 hK15 => ?_
         refine wr ?_
         refine da ?_
         refine D_end (hK15 _ _ ?_)
         refine W_ret ?_
         try dsimp only [then', inBlk, noGo]
         refine ro ?_
         refine ⟨?_, hx⟩
         first
         | (rw [subs_short (by omega)]; done)
         | (rw [subs_long hk (by omega)]; done)
         | (rw [subs_gap (i := k) ⟨by rw [hk]; congr 1, by omega, by omega⟩]; done)
         | (rw [List.take_of_length_le (show l.length ≤ k by omega)] at he hlg; rw [subs_ok (by omega) (by omega) hlg (fun i hg => hgp i (by have := hg.2.2; omega) hg), he]; done)
        ·
         refine W_skip ?_
         refine hK12 _ _ ?_
         refine wr ?_
         iterate 2 refine dm ?_
         refine D_split 44 rfl (fun c8 => ?_) (fun c8 => ?_)
         ·
          iterate 5 refine dk ?_
          refine dk' ?_
          refine da ?_
          refine D_end (hK11 _ _ ?_)
          refine wr ?_
          refine dm ?_
          refine dp (pv_add rfl rfl (by unfold inI64; omega)) ?_
          refine da ?_
          refine D_end (?_)
          refine ⟨(k + 1, _), ⟨rfl, rfl, rfl, trivial⟩, ⟨hx, by omega, ?_, ?_, ?_⟩, by simp only []; omega⟩
          ·
           rw [any_nextS hk, ← he]; clear he; simp [*]
          ·
           rw [any_nextS hk, hlg, decide_eq_false (by omega)]; rfl
          ·
           intro i hi hg
           rcases Nat.lt_succ_iff_lt_or_eq.1 hi with h | h
           ·
            exact hgp i h hg
           ·
            subst h
            obtain ⟨g1, g2, g3⟩ := hg
            rw [hk] at g1
            have g4 : s = [] := Option.some.inj g1
            first
            | (exact absurd g4 (by assumption))
            | (exfalso; omega)
         ·
          iterate 2 refine dm ?_
          refine dp (pv_idxA (e := 9) (k := 1) (by kernel_rfl) hv.sl rfl rfl (hv.lt hk)) ?_
          refine dq (lv_load (by kernel_rfl) rfl (((hv.ext hx).row hk).at0 rfl)) ?_
          refine dp (pv_sne rfl rfl) ?_
          refine dk' ?_
          refine da ?_
          refine D_end (hK11 _ _ ?_)
          refine wr ?_
          refine dm ?_
          refine dp (pv_add rfl rfl (by unfold inI64; omega)) ?_
          refine da ?_
          refine D_end (?_)
          refine ⟨(k + 1, _), ⟨rfl, rfl, rfl, trivial⟩, ⟨hx, by omega, ?_, ?_, ?_⟩, by simp only []; omega⟩
          ·
           rw [any_nextS hk, ← he]; clear he; simp [*]
          ·
           rw [any_nextS hk, hlg, decide_eq_false (by omega)]; rfl
          ·
           intro i hi hg
           rcases Nat.lt_succ_iff_lt_or_eq.1 hi with h | h
           ·
            exact hgp i h hg
           ·
            subst h
            obtain ⟨g1, g2, g3⟩ := hg
            rw [hk] at g1
            have g4 : s = [] := Option.some.inj g1
            first
            | (exact absurd g4 (by assumption))
            | (exfalso; omega)
       ·
        iterate 5 refine dk ?_
        refine dk' ?_
        refine dk' ?_
        refine D_end (hK13 _ _ ?_)
        refine W_f rfl ?_
        refine W_skip ?_
        refine hK12 _ _ ?_
        refine wr ?_
        iterate 2 refine dm ?_
        refine D_split 44 rfl (fun c9 => ?_) (fun c9 => ?_)
        ·
         iterate 5 refine dk ?_
         refine dk' ?_
         refine da ?_
         refine D_end (hK11 _ _ ?_)
         refine wr ?_
         refine dm ?_
         refine dp (pv_add rfl rfl (by unfold inI64; omega)) ?_
         refine da ?_
         refine D_end (?_)
         refine ⟨(k + 1, _), ⟨rfl, rfl, rfl, trivial⟩, ⟨hx, by omega, ?_, ?_, ?_⟩, by simp only []; omega⟩
         ·
          rw [any_nextS hk, ← he]; clear he; simp [*]
         ·
          rw [any_nextS hk, hlg, decide_eq_false (by omega)]; rfl
         ·
          intro i hi hg
          rcases Nat.lt_succ_iff_lt_or_eq.1 hi with h | h
          ·
           exact hgp i h hg
          ·
           subst h
           obtain ⟨g1, g2, g3⟩ := hg
           rw [hk] at g1
           have g4 : s = [] := Option.some.inj g1
           first
           | (exact absurd g4 (by assumption))
           | (exfalso; omega)
        ·
         iterate 2 refine dm ?_
         refine dp (pv_idxA (e := 9) (k := 1) (by kernel_rfl) hv.sl rfl rfl (hv.lt hk)) ?_
         refine dq (lv_load (by kernel_rfl) rfl (((hv.ext hx).row hk).at0 rfl)) ?_
         refine dp (pv_sne rfl rfl) ?_
         refine dk' ?_
         refine da ?_
         refine D_end (hK11 _ _ ?_)
         refine wr ?_
         refine dm ?_
         refine dp (pv_add rfl rfl (by unfold inI64; omega)) ?_
         refine da ?_
         refine D_end (?_)
         refine ⟨(k + 1, _), ⟨rfl, rfl, rfl, trivial⟩, ⟨hx, by omega, ?_, ?_, ?_⟩, by simp only []; omega⟩
         ·
          rw [any_nextS hk, ← he]; clear he; simp [*]
         ·
          rw [any_nextS hk, hlg, decide_eq_false (by omega)]; rfl
         ·
          intro i hi hg
          rcases Nat.lt_succ_iff_lt_or_eq.1 hi with h | h
          ·
           exact hgp i h hg
          ·
           subst h
           obtain ⟨g1, g2, g3⟩ := hg
           rw [hk] at g1
           have g4 : s = [] := Option.some.inj g1
           first
           | (exact absurd g4 (by assumption))
           | (exfalso; omega)
      ·
       iterate 2 refine dk ?_
       refine dk' ?_
       refine dm ?_
       iterate 5 refine dk ?_
       refine dk' ?_
       refine dk' ?_
       refine D_end (hK13 _ _ ?_)
       refine W_f rfl ?_
       refine W_skip ?_
       refine hK12 _ _ ?_
       refine wr ?_
       iterate 2 refine dm ?_
       refine D_split 44 rfl (fun c10 => ?_) (fun c10 => ?_)
       ·
        iterate 5 refine dk ?_
        refine dk' ?_
        refine da ?_
        refine D_end (hK11 _ _ ?_)
        refine wr ?_
        refine dm ?_
        refine dp (pv_add rfl rfl (by unfold inI64; omega)) ?_
        refine da ?_
        refine D_end (?_)
        refine ⟨(k + 1, _), ⟨rfl, rfl, rfl, trivial⟩, ⟨hx, by omega, ?_, ?_, ?_⟩, by simp only []; omega⟩
        ·
         rw [any_nextS hk, ← he]; clear he; simp [*]
        ·
         rw [any_nextS hk, hlg, decide_eq_false (by omega)]; rfl
        ·
         intro i hi hg
         rcases Nat.lt_succ_iff_lt_or_eq.1 hi with h | h
         ·
          exact hgp i h hg
         ·
          subst h
          obtain ⟨g1, g2, g3⟩ := hg
          rw [hk] at g1
          have g4 : s = [] := Option.some.inj g1
          first
          | (exact absurd g4 (by assumption))
          | (exfalso; omega)
       ·
        iterate 2 refine dm ?_
        refine dp (pv_idxA (e := 9) (k := 1) (by kernel_rfl) hv.sl rfl rfl (hv.lt hk)) ?_
        refine dq (lv_load (by kernel_rfl) rfl (((hv.ext hx).row hk).at0 rfl)) ?_
        refine dp (pv_sne rfl rfl) ?_
        refine dk' ?_
        refine da ?_
        refine D_end (hK11 _ _ ?_)
        refine wr ?_
        refine dm ?_
        refine dp (pv_add rfl rfl (by unfold inI64; omega)) ?_
        refine da ?_
        refine D_end (?_)
        refine ⟨(k + 1, _), ⟨rfl, rfl, rfl, trivial⟩, ⟨hx, by omega, ?_, ?_, ?_⟩, by simp only []; omega⟩
        ·
         rw [any_nextS hk, ← he]; clear he; simp [*]
        ·
         rw [any_nextS hk, hlg, decide_eq_false (by omega)]; rfl
        ·
         intro i hi hg
         rcases Nat.lt_succ_iff_lt_or_eq.1 hi with h | h
         ·
          exact hgp i h hg
         ·
          subst h
          obtain ⟨g1, g2, g3⟩ := hg
          rw [hk] at g1
          have g4 : s = [] := Option.some.inj g1
          first
          | (exact absurd g4 (by assumption))
          | (exfalso; omega)
    ·
     refine W_exit ?_
     refine hK7 _ _ ?_
     refine W_seq fun K16 hK16 => ?_
     refine wr ?_
     refine dm ?_
     refine da ?_
     refine D_end (hK16 _ _ ?_)
     refine W_ret ?_
     try dsimp only [then', inBlk, noGo]
     refine ro ?_
     refine ⟨?_, hx⟩
     first
     | (rw [subs_short (by omega)]; done)
     | (rw [subs_long hk (by omega)]; done)
     | (rw [subs_gap (i := k) ⟨by rw [hk]; congr 1, by omega, by omega⟩]; done)
     | (rw [List.take_of_length_le (show l.length ≤ k by omega)] at he hlg; rw [subs_ok (by omega) (by omega) hlg (fun i hg => hgp i (by have := hg.2.2; omega) hg), he]; done)

set_option maxRecDepth 100000 in
set_option maxHeartbeats 1000000 in
theorem one_w (m : Nat) (k : Int) (t v : Str) (subs : List Str) (kids : List Flt) (l : List FilV) (vs vk : Value) (w : World) (hs : Arr sEnc 1 w vs subs) (hk0 : Arr FilV.cs 5 w vk l) (hlk : l.length = kids.length) (hsl : subs.length ≤ 140737488355328) (hll : l.length ≤ 140737488355328) (d : Int) (hd : 0 ≤ d) (hd2 : d ≤ 20) (ih : ∀ (i : Nat) (c : FilV) (f : Flt), l[i]? = some c → kids[i]? = some f → ∀ (w1 : World) (d1 : Int), Ext w w1 → 0 ≤ d1 → d1 ≤ 20 → Calls Tryz.prog 30 [.agg ⟨c.cs⟩, I d1].toArray w1 (Pure w1 (B (oneF m d1 f)))) :
  Calls Tryz.prog 30 [.agg ⟨[I k, S t, S v, vs, vk]⟩, I d].toArray w (Pure w (B (oneF (m + 1) d (.mk k t v subs kids)))) := by
 refine calls_W Tryz.func30 rfl rfl rfl (by kernel_rfl) ?_
 have hx := Ext.refl w
 refine W_seq fun K1 hK1 => ?_
 refine wr ?_
 refine D_box rfl rfl rfl RX.all (fun b1 w1 e1 x1 m1 => ?_)
 have g1 : w.heap.size ≤ b1 := by have := hx.size; omega
 replace hx := hx.trans x1
 refine da ?_
 refine D_end (hK1 _ _ ?_)
 refine W_seq fun K2 hK2 => ?_
 refine W_seq fun K3 hK3 => ?_
 refine wr ?_
 refine dm ?_
 refine dp (pv_gtr rfl rfl) ?_
 refine D_end (hK3 _ _ ?_)
 refine W_if rfl (fun c1 => ?_) (fun c1 => ?_)
 ·
  refine W_seq fun K4 hK4 => ?_
  refine wr ?_
  refine da ?_
  refine D_end (hK4 _ _ ?_)
  refine W_ret ?_
  try dsimp only [then', inBlk, noGo]
  refine ro ?_
  refine ⟨?_, hx⟩
  rw [one_deep (by omega)]
 ·
  refine W_skip ?_
  refine hK2 _ _ ?_
  refine W_seq fun K5 hK5 => ?_
  refine W_seq fun K6 hK6 => ?_
  refine wr ?_
  refine dp (pv_fieldA (k := 0) (by kernel_rfl) rfl) ?_
  refine dq (lv_load (by kernel_rfl) rfl (m1.at rfl)) ?_
  refine D_end (hK6 _ _ ?_)
  refine W_block ?_
  refine W_cut (G := Bool) (fun e => [(1, I d), (2, ptr b1 0), (4, .bool false), (9, I k), (10, B e)]) (fun e w' => Ext w w' ∧ Blk w' b1 [I k, S t, S v, vs, vk] 25 ∧ e = decide (k = 0 ∨ k = 1 ∨ k = 2)) ?_ ?_
  ·
   refine W_seq fun K7 hK7 => ?_
   refine wr ?_
   refine dp (pv_eql rfl rfl) ?_
   refine da ?_
   refine D_end (hK7 _ _ ?_)
   refine W_if rfl (fun c2 => ?_) (fun c2 => ?_)
   ·
    refine W_skip ?_
    refine ⟨_, ⟨rfl, rfl, rfl, rfl, rfl, trivial⟩, hx, m1, ?_⟩
    rw [decide_eq_decide]; omega
   ·
    refine W_seq fun K8 hK8 => ?_
    refine wr ?_
    refine dp (pv_eql rfl rfl) ?_
    refine da ?_
    refine D_end (hK8 _ _ ?_)
    refine W_if rfl (fun c3 => ?_) (fun c3 => ?_)
    ·
     refine W_skip ?_
     refine ⟨_, ⟨rfl, rfl, rfl, rfl, rfl, trivial⟩, hx, m1, ?_⟩
     rw [decide_eq_decide]; omega
    ·
     refine wr ?_
     refine dp (pv_eql rfl rfl) ?_
     refine da ?_
     refine D_end (?_)
     refine ⟨_, ⟨rfl, rfl, rfl, rfl, rfl, trivial⟩, hx, m1, ?_⟩
     rw [decide_eq_decide]; omega
  ·
   intro X2 g2 w2 hF2
   revert hF2; revert g2; intro e hF2
   clear hx m1
   obtain ⟨hx, m1, he⟩ := hF2
   refine W_cond rfl (fun c4 => ?_) (fun c4 => ?_)
   ·
    rw [he, decide_eq_true_eq] at c4
    refine W_cut (G := Unit) (fun uu => [(1, I d), (2, ptr b1 0)]) (fun uu w' => Ext w w' ∧ Blk w' b1 [I k, S t, S v, vs, vk] 25 ∧ topM k t v subs.length kids.length = true) ?_ ?_
    ·
     refine W_seq fun K9 hK9 => ?_
     refine wr ?_
     refine dp (pv_fieldA (k := 1) (by kernel_rfl) rfl) ?_
     refine dq (lv_load (by kernel_rfl) rfl (m1.at rfl)) ?_
     refine dp (pv_sne rfl rfl) ?_
     refine dm ?_
     refine D_splitP 17 rfl (fun c5 => ?_) (fun c5 => ?_)
     ·
      iterate 3 refine dk ?_
      refine dk' ?_
      refine dm ?_
      iterate 4 refine dk ?_
      refine dk' ?_
      refine dm ?_
      iterate 4 refine dk ?_
      refine dk' ?_
      refine dm ?_
      iterate 9 refine dk ?_
      refine dk' ?_
      refine D_end (hK9 _ _ ?_)
      refine W_t rfl ?_
      refine W_seq fun K10 hK10 => ?_
      refine wr ?_
      refine da ?_
      refine D_end (hK10 _ _ ?_)
      refine W_ret ?_
      try dsimp only [then', inBlk, noGo]
      refine ro ?_
      refine ⟨?_, hx⟩
      rw [one_head (by rw [head_top c4, top_is, decide_eq_false c5]; simp)]
     ·
      refine dp (pv_fieldA (k := 2) (by kernel_rfl) rfl) ?_
      refine dq (lv_load (by kernel_rfl) rfl (m1.at rfl)) ?_
      refine dp (pv_sne rfl rfl) ?_
      refine dk' ?_
      refine dm ?_
      refine D_splitP 22 rfl (fun c6 => ?_) (fun c6 => ?_)
      ·
       iterate 4 refine dk ?_
       refine dk' ?_
       refine dm ?_
       iterate 4 refine dk ?_
       refine dk' ?_
       refine dm ?_
       iterate 9 refine dk ?_
       refine dk' ?_
       refine D_end (hK9 _ _ ?_)
       refine W_t rfl ?_
       refine W_seq fun K11 hK11 => ?_
       refine wr ?_
       refine da ?_
       refine D_end (hK11 _ _ ?_)
       refine W_ret ?_
       try dsimp only [then', inBlk, noGo]
       refine ro ?_
       refine ⟨?_, hx⟩
       rw [one_head (by rw [head_top c4, top_is, decide_eq_false c6]; simp)]
      ·
       refine dp (pv_fieldA (k := 3) (by kernel_rfl) rfl) ?_
       refine dq (lv_load (by kernel_rfl) rfl (m1.at rfl)) ?_
       refine dp (pv_lenV (e := 9) (k := 1) (by kernel_rfl) hs.sl rfl) ?_
       refine dp (pv_gtr rfl rfl) ?_
       refine dk' ?_
       refine dm ?_
       refine D_splitP 28 rfl (fun c7 => ?_) (fun c7 => ?_)
       ·
        iterate 4 refine dk ?_
        refine dk' ?_
        refine dm ?_
        iterate 9 refine dk ?_
        refine dk' ?_
        refine D_end (hK9 _ _ ?_)
        refine W_t rfl ?_
        refine W_seq fun K12 hK12 => ?_
        refine wr ?_
        refine da ?_
        refine D_end (hK12 _ _ ?_)
        refine W_ret ?_
        try dsimp only [then', inBlk, noGo]
        refine ro ?_
        refine ⟨?_, hx⟩
        rw [one_head (by rw [head_top c4, top_is, decide_eq_false (show ¬ subs.length = 0 by omega)]; simp)]
       ·
        refine dp (pv_fieldA (k := 4) (by kernel_rfl) rfl) ?_
        refine dq (lv_load (by kernel_rfl) rfl (m1.at rfl)) ?_
        refine dp (pv_lenV (e := 25) (k := 5) (by kernel_rfl) hk0.sl rfl) ?_
        refine dp (pv_lss rfl rfl) ?_
        refine dk' ?_
        refine dm ?_
        refine D_splitP 34 rfl (fun c8 => ?_) (fun c8 => ?_)
        ·
         iterate 9 refine dk ?_
         refine dk' ?_
         refine D_end (hK9 _ _ ?_)
         refine W_t rfl ?_
         refine W_seq fun K13 hK13 => ?_
         refine wr ?_
         refine da ?_
         refine D_end (hK13 _ _ ?_)
         refine W_ret ?_
         try dsimp only [then', inBlk, noGo]
         refine ro ?_
         refine ⟨?_, hx⟩
         rw [one_head (by rw [head_top c4, top_is, decide_eq_false (show ¬ 1 ≤ kids.length by omega)]; simp)]
        ·
         refine dp (pv_fieldA (k := 0) (by kernel_rfl) rfl) ?_
         refine dq (lv_load (by kernel_rfl) rfl (m1.at rfl)) ?_
         refine dp (pv_eql rfl rfl) ?_
         refine dm ?_
         refine D_splitP 38 rfl (fun c9 => ?_) (fun c9 => ?_)
         ·
          refine dp (pv_fieldA (k := 4) (by kernel_rfl) rfl) ?_
          refine dq (lv_load (by kernel_rfl) rfl (m1.at rfl)) ?_
          refine dp (pv_lenV (e := 25) (k := 5) (by kernel_rfl) hk0.sl rfl) ?_
          refine dp (pv_gtr rfl rfl) ?_
          refine dk' ?_
          refine dk' ?_
          refine D_end (hK9 _ _ ?_)
          refine W_if rfl (fun c10 => ?_) (fun c10 => ?_)
          ·
           refine W_seq fun K14 hK14 => ?_
           refine wr ?_
           refine da ?_
           refine D_end (hK14 _ _ ?_)
           refine W_ret ?_
           try dsimp only [then', inBlk, noGo]
           refine ro ?_
           refine ⟨?_, hx⟩
           rw [one_head (by rw [head_top c4, top_is, decide_eq_false (show ¬ k ≠ 2 by omega), decide_eq_false (show ¬ kids.length ≤ 1 by omega)]; simp)]
          ·
           refine W_skip ?_
           refine ⟨(), ⟨rfl, rfl, trivial⟩, hx, m1, ?_⟩
           rw [top_is, decide_eq_true (Decidable.not_not.1 c5), decide_eq_true (Decidable.not_not.1 c6), decide_eq_true (show subs.length = 0 by omega), decide_eq_true (show 1 ≤ kids.length by omega)]
           first
           | (rw [decide_eq_true (show kids.length ≤ 1 by omega)]; simp; done)
           | (rw [decide_eq_true (show k ≠ 2 by omega)]; rfl)
         ·
          iterate 4 refine dk ?_
          refine dk' ?_
          refine dk' ?_
          refine D_end (hK9 _ _ ?_)
          refine W_f rfl ?_
          refine W_skip ?_
          refine ⟨(), ⟨rfl, rfl, trivial⟩, hx, m1, ?_⟩
          rw [top_is, decide_eq_true (Decidable.not_not.1 c5), decide_eq_true (Decidable.not_not.1 c6), decide_eq_true (show subs.length = 0 by omega), decide_eq_true (show 1 ≤ kids.length by omega)]
          first
          | (rw [decide_eq_true (show kids.length ≤ 1 by omega)]; simp; done)
          | (rw [decide_eq_true (show k ≠ 2 by omega)]; rfl)
    ·
     intro X3 g3 w3 hF3
     revert hF3; revert g3; intro uu hF3
     clear hx m1
     obtain ⟨hx, m1, htop⟩ := hF3
     refine W_seq fun K15 hK15 => ?_
     refine W_seq fun K16 hK16 => ?_
     refine wr ?_
     refine da ?_
     refine D_end (hK16 _ _ ?_)
     refine W_block ?_
     refine W_loop (G := Nat) (fun i => [(1, I d), (2, ptr b1 0), (5, I ↑i)]) (fun i w' => Ext w w' ∧ Blk w' b1 [I k, S t, S v, vs, vk] 25 ∧ i ≤ l.length ∧ (kids.take i).all (oneF m (d + 1)) = true) (fun i => l.length - i) 0 ?_ ?_ ?_
     ·
      exact ⟨rfl, rfl, rfl, trivial⟩
     ·
      exact ⟨hx, m1, Nat.zero_le _, rfl⟩
     ·
      intro X4 g4 w4 hF4
      revert hF4; revert g4; intro i hF4
      clear hx m1
      obtain ⟨hx, m1, hi1, hall⟩ := hF4
      refine W_seq fun K17 hK17 => ?_
      refine W_seq fun K18 hK18 => ?_
      refine wr ?_
      refine dm ?_
      refine dp (pv_fieldA (k := 4) (by kernel_rfl) rfl) ?_
      refine dq (lv_load (by kernel_rfl) rfl (m1.at rfl)) ?_
      refine dp (pv_lenV (e := 25) (k := 5) (by kernel_rfl) hk0.sl rfl) ?_
      refine dp (pv_lss rfl rfl) ?_
      refine D_end (hK18 _ _ ?_)
      refine W_if rfl (fun c11 => ?_) (fun c11 => ?_)
      ·
       obtain ⟨c, hi⟩ : ∃ c, l[i]? = some c := ⟨_, List.getElem?_eq_getElem (by omega)⟩
       obtain ⟨f, hif⟩ := pair_at hlk hi
       
       refine W_skip ?_
       refine hK17 _ _ ?_
       refine W_seq fun K19 hK19 => ?_
       refine W_block ?_
       refine W_seq fun K20 hK20 => ?_
       refine wr ?_
       refine dp (pv_fieldA (k := 4) (by kernel_rfl) rfl) ?_
       refine dq (lv_load (by kernel_rfl) rfl (m1.at rfl)) ?_
       refine dm ?_
       refine dp (pv_idxA (e := 25) (k := 5) (by kernel_rfl) hk0.sl rfl rfl (hk0.lt hi)) ?_
       refine dq (lv_loadA (by kernel_rfl) rfl rfl ((hk0.ext hx).row hi)) ?_
       refine dm ?_
       refine dp (pv_add rfl rfl (by unfold inI64; omega)) ?_
       refine D_callP rfl (by kernel_rfl) (ih i c f hi hif _ (d + 1) hx (by omega) (by omega)) rfl RX.all (fun w5 x5 => ?_)
       replace m1 := m1.ext x5
       replace hx := hx.trans x5
       refine dn ?_
       refine D_end (hK20 _ _ ?_)
       refine W_cond rfl (fun c12 => ?_) (fun c12 => ?_)
       ·
        refine W_seq fun K21 hK21 => ?_
        refine wr ?_
        refine da ?_
        refine D_end (hK21 _ _ ?_)
        refine W_ret ?_
        try dsimp only [then', inBlk, noGo]
        refine ro ?_
        refine ⟨?_, hx⟩
        rw [one_kids (by omega) ((head_top c4 _).trans htop), show kids.all (oneF m (d + 1)) = false from List.all_eq_false.2 ⟨f, List.mem_of_getElem? hif, by simpa using c12⟩]
       ·
        refine W_skip ?_
        refine hK19 _ _ ?_
        refine wr ?_
        refine dm ?_
        refine dp (pv_add rfl rfl (by unfold inI64; omega)) ?_
        refine da ?_
        refine D_end (?_)
        refine ⟨i + 1, ⟨rfl, rfl, rfl, trivial⟩, ⟨hx, m1, by omega, ?_⟩, by omega⟩
        rw [all_next hif, hall]; simpa using c12
      ·
       refine W_exit ?_
       refine hK15 _ _ ?_
       refine W_seq fun K22 hK22 => ?_
       refine wr ?_
       refine da ?_
       refine D_end (hK22 _ _ ?_)
       refine W_ret ?_
       try dsimp only [then', inBlk, noGo]
       refine ro ?_
       rw [List.take_of_length_le (show kids.length ≤ i by omega)] at hall
       exact ⟨by rw [one_kids (by omega) ((head_top c4 _).trans htop), hall], hx⟩
   ·
    rw [he, decide_eq_false_iff_not] at c4
    refine W_cut (G := Bool) (fun e2 => [(2, ptr b1 0), (4, .bool false), (9, I k), (61, B e2)]) (fun e2 w' => Ext w w' ∧ Blk w' b1 [I k, S t, S v, vs, vk] 25 ∧ e2 = decide (k = 3 ∨ k = 5 ∨ k = 6)) ?_ ?_
    ·
     refine W_seq fun K23 hK23 => ?_
     refine wr ?_
     refine dp (pv_eql rfl rfl) ?_
     refine da ?_
     refine D_end (hK23 _ _ ?_)
     refine W_if rfl (fun c13 => ?_) (fun c13 => ?_)
     ·
      refine W_skip ?_
      refine ⟨_, ⟨rfl, rfl, rfl, rfl, trivial⟩, hx, m1, ?_⟩
      rw [decide_eq_decide]; omega
     ·
      refine W_seq fun K24 hK24 => ?_
      refine wr ?_
      refine dp (pv_eql rfl rfl) ?_
      refine da ?_
      refine D_end (hK24 _ _ ?_)
      refine W_if rfl (fun c14 => ?_) (fun c14 => ?_)
      ·
       refine W_skip ?_
       refine ⟨_, ⟨rfl, rfl, rfl, rfl, trivial⟩, hx, m1, ?_⟩
       rw [decide_eq_decide]; omega
      ·
       refine wr ?_
       refine dp (pv_eql rfl rfl) ?_
       refine da ?_
       refine D_end (?_)
       refine ⟨_, ⟨rfl, rfl, rfl, rfl, trivial⟩, hx, m1, ?_⟩
       rw [decide_eq_decide]; omega
    ·
     intro X6 g6 w6 hF6
     revert hF6; revert g6; intro e2 hF6
     clear hx m1
     obtain ⟨hx, m1, he2⟩ := hF6
     refine W_cond rfl (fun c15 => ?_) (fun c15 => ?_)
     ·
      rw [he2, decide_eq_true_eq] at c15
      refine W_seq fun K25 hK25 => ?_
      refine wr ?_
      refine dp (pv_fieldA (k := 4) (by kernel_rfl) rfl) ?_
      refine dq (lv_load (by kernel_rfl) rfl (m1.at rfl)) ?_
      refine dp (pv_lenV (e := 25) (k := 5) (by kernel_rfl) hk0.sl rfl) ?_
      refine dp (pv_eql rfl rfl) ?_
      refine dm ?_
      refine D_splitP 69 rfl (fun c16 => ?_) (fun c16 => ?_)
      ·
       refine dp (pv_fieldA (k := 3) (by kernel_rfl) rfl) ?_
       refine dq (lv_load (by kernel_rfl) rfl (m1.at rfl)) ?_
       refine dp (pv_lenV (e := 9) (k := 1) (by kernel_rfl) hs.sl rfl) ?_
       refine dp (pv_eql rfl rfl) ?_
       refine dk' ?_
       refine dm ?_
       refine D_splitP 75 rfl (fun c17 => ?_) (fun c17 => ?_)
       ·
        refine dp (pv_fieldA (k := 1) (by kernel_rfl) rfl) ?_
        refine dq (lv_load (by kernel_rfl) rfl (m1.at rfl)) ?_
        refine D_callP rfl (by kernel_rfl) (rtype_w t _) rfl RX.all (fun w7 x7 => ?_)
        replace m1 := m1.ext x7
        replace hx := hx.trans x7
        refine dk' ?_
        refine dm ?_
        refine D_split 80 rfl (fun c18 => ?_) (fun c18 => ?_)
        ·
         refine dp (pv_fieldA (k := 2) (by kernel_rfl) rfl) ?_
         refine dq (lv_load (by kernel_rfl) rfl (m1.at rfl)) ?_
         refine dp (pv_lenS (by kernel_rfl) rfl) ?_
         refine dp (pv_leq rfl rfl) ?_
         refine dk' ?_
         refine da ?_
         refine D_end (hK25 _ _ ?_)
         refine W_ret ?_
         try dsimp only [then', inBlk, noGo]
         refine ro ?_
         refine ⟨?_, hx⟩
         rw [one_leaf (by omega) c4, leaf356 c15, decide_eq_true (show kids.length = 0 by omega), decide_eq_true (show subs.length = 0 by omega), c18]
         congr 2
         simp only [Bool.true_and]
         rw [decide_eq_decide]; omega
        ·
         iterate 4 refine dk ?_
         refine dk' ?_
         refine da ?_
         refine D_end (hK25 _ _ ?_)
         refine W_ret ?_
         try dsimp only [then', inBlk, noGo]
         refine ro ?_
         refine ⟨?_, hx⟩
         rw [one_leaf (by omega) c4, leaf356 c15, decide_eq_true (show kids.length = 0 by omega), decide_eq_true (show subs.length = 0 by omega), c18]; rfl
       ·
        iterate 3 refine dk ?_
        refine dk' ?_
        refine dm ?_
        iterate 4 refine dk ?_
        refine dk' ?_
        refine da ?_
        refine D_end (hK25 _ _ ?_)
        refine W_ret ?_
        try dsimp only [then', inBlk, noGo]
        refine ro ?_
        refine ⟨?_, hx⟩
        rw [one_leaf (by omega) c4, leaf356 c15, decide_eq_true (show kids.length = 0 by omega), decide_eq_false (show ¬ subs.length = 0 by omega)]; rfl
      ·
       iterate 4 refine dk ?_
       refine dk' ?_
       refine dm ?_
       iterate 3 refine dk ?_
       refine dk' ?_
       refine dm ?_
       iterate 4 refine dk ?_
       refine dk' ?_
       refine da ?_
       refine D_end (hK25 _ _ ?_)
       refine W_ret ?_
       try dsimp only [then', inBlk, noGo]
       refine ro ?_
       refine ⟨?_, hx⟩
       rw [one_leaf (by omega) c4, decide_eq_false (show ¬ kids.length = 0 by omega)]; rfl
     ·
      rw [he2, decide_eq_false_iff_not] at c15
      refine W_seq fun K26 hK26 => ?_
      refine wr ?_
      refine dp (pv_eql rfl rfl) ?_
      refine da ?_
      refine D_end (hK26 _ _ ?_)
      refine W_if rfl (fun c19 => ?_) (fun c19 => ?_)
      ·
       refine W_seq fun K27 hK27 => ?_
       refine wr ?_
       refine dp (pv_fieldA (k := 4) (by kernel_rfl) rfl) ?_
       refine dq (lv_load (by kernel_rfl) rfl (m1.at rfl)) ?_
       refine dp (pv_lenV (e := 25) (k := 5) (by kernel_rfl) hk0.sl rfl) ?_
       refine dp (pv_eql rfl rfl) ?_
       refine dm ?_
       refine D_splitP 92 rfl (fun c20 => ?_) (fun c20 => ?_)
       ·
        refine dp (pv_fieldA (k := 2) (by kernel_rfl) rfl) ?_
        refine dq (lv_load (by kernel_rfl) rfl (m1.at rfl)) ?_
        refine dp (pv_seq rfl rfl) ?_
        refine dk' ?_
        refine dm ?_
        refine D_splitP 97 rfl (fun c21 => ?_) (fun c21 => ?_)
        ·
         refine dp (pv_fieldA (k := 1) (by kernel_rfl) rfl) ?_
         refine dq (lv_load (by kernel_rfl) rfl (m1.at rfl)) ?_
         refine D_callP rfl (by kernel_rfl) (rtype_w t _) rfl RX.all (fun w8 x8 => ?_)
         replace m1 := m1.ext x8
         replace hx := hx.trans x8
         refine dk' ?_
         refine dm ?_
         refine D_split 102 rfl (fun c22 => ?_) (fun c22 => ?_)
         ·
          refine dp (pv_fieldA (k := 3) (by kernel_rfl) rfl) ?_
          refine dq (lv_load (by kernel_rfl) rfl (m1.at rfl)) ?_
          refine D_callP rfl (by kernel_rfl) (rsubs_w subs vs _ (hs.ext hx) hsl) rfl RX.all (fun w9 x9 => ?_)
          replace m1 := m1.ext x9
          replace hx := hx.trans x9
          refine dk' ?_
          refine da ?_
          refine D_end (hK27 _ _ ?_)
          refine W_ret ?_
          try dsimp only [then', inBlk, noGo]
          refine ro ?_
          refine ⟨?_, hx⟩
          rw [one_leaf (by omega) c4, leaf4 c19, decide_eq_true (show kids.length = 0 by omega), decide_eq_true c21, c22]; rfl
         ·
          iterate 3 refine dk ?_
          refine dk' ?_
          refine da ?_
          refine D_end (hK27 _ _ ?_)
          refine W_ret ?_
          try dsimp only [then', inBlk, noGo]
          refine ro ?_
          refine ⟨?_, hx⟩
          rw [one_leaf (by omega) c4, leaf4 c19, decide_eq_true (show kids.length = 0 by omega), decide_eq_true c21, c22]; rfl
        ·
         iterate 3 refine dk ?_
         refine dk' ?_
         refine dm ?_
         iterate 3 refine dk ?_
         refine dk' ?_
         refine da ?_
         refine D_end (hK27 _ _ ?_)
         refine W_ret ?_
         try dsimp only [then', inBlk, noGo]
         refine ro ?_
         refine ⟨?_, hx⟩
         rw [one_leaf (by omega) c4, leaf4 c19, decide_eq_true (show kids.length = 0 by omega), decide_eq_false c21]; rfl
       ·
        iterate 3 refine dk ?_
        refine dk' ?_
        refine dm ?_
        iterate 3 refine dk ?_
        refine dk' ?_
        refine dm ?_
        iterate 3 refine dk ?_
        refine dk' ?_
        refine da ?_
        refine D_end (hK27 _ _ ?_)
        refine W_ret ?_
        try dsimp only [then', inBlk, noGo]
        refine ro ?_
        refine ⟨?_, hx⟩
        rw [one_leaf (by omega) c4, decide_eq_false (show ¬ kids.length = 0 by omega)]; rfl
      ·
       refine W_seq fun K28 hK28 => ?_
       refine wr ?_
       refine dp (pv_eql rfl rfl) ?_
       refine da ?_
       refine D_end (hK28 _ _ ?_)
       refine W_if rfl (fun c23 => ?_) (fun c23 => ?_)
       ·
        refine W_seq fun K29 hK29 => ?_
        refine wr ?_
        refine dp (pv_fieldA (k := 4) (by kernel_rfl) rfl) ?_
        refine dq (lv_load (by kernel_rfl) rfl (m1.at rfl)) ?_
        refine dp (pv_lenV (e := 25) (k := 5) (by kernel_rfl) hk0.sl rfl) ?_
        refine dp (pv_eql rfl rfl) ?_
        refine dm ?_
        refine D_splitP 113 rfl (fun c24 => ?_) (fun c24 => ?_)
        ·
         refine dp (pv_fieldA (k := 2) (by kernel_rfl) rfl) ?_
         refine dq (lv_load (by kernel_rfl) rfl (m1.at rfl)) ?_
         refine dp (pv_seq rfl rfl) ?_
         refine dk' ?_
         refine dm ?_
         refine D_splitP 118 rfl (fun c25 => ?_) (fun c25 => ?_)
         ·
          refine dp (pv_fieldA (k := 3) (by kernel_rfl) rfl) ?_
          refine dq (lv_load (by kernel_rfl) rfl (m1.at rfl)) ?_
          refine dp (pv_lenV (e := 9) (k := 1) (by kernel_rfl) hs.sl rfl) ?_
          refine dp (pv_eql rfl rfl) ?_
          refine dk' ?_
          refine dm ?_
          refine D_splitP 124 rfl (fun c26 => ?_) (fun c26 => ?_)
          ·
           refine dp (pv_fieldA (k := 1) (by kernel_rfl) rfl) ?_
           refine dq (lv_load (by kernel_rfl) rfl (m1.at rfl)) ?_
           refine D_callP rfl (by kernel_rfl) (rtype_w t _) rfl RX.all (fun w10 x10 => ?_)
           replace m1 := m1.ext x10
           replace hx := hx.trans x10
           refine dk' ?_
           refine da ?_
           refine D_end (hK29 _ _ ?_)
           refine W_ret ?_
           try dsimp only [then', inBlk, noGo]
           refine ro ?_
           refine ⟨?_, hx⟩
           rw [one_leaf (by omega) c4, leaf7 c23, decide_eq_true (show kids.length = 0 by omega), decide_eq_true c25, decide_eq_true (show subs.length = 0 by omega)]; rfl
          ·
           iterate 3 refine dk ?_
           refine dk' ?_
           refine da ?_
           refine D_end (hK29 _ _ ?_)
           refine W_ret ?_
           try dsimp only [then', inBlk, noGo]
           refine ro ?_
           refine ⟨?_, hx⟩
           rw [one_leaf (by omega) c4, leaf7 c23, decide_eq_true (show kids.length = 0 by omega), decide_eq_true c25, decide_eq_false (show ¬ subs.length = 0 by omega)]; rfl
         ·
          iterate 4 refine dk ?_
          refine dk' ?_
          refine dm ?_
          iterate 3 refine dk ?_
          refine dk' ?_
          refine da ?_
          refine D_end (hK29 _ _ ?_)
          refine W_ret ?_
          try dsimp only [then', inBlk, noGo]
          refine ro ?_
          refine ⟨?_, hx⟩
          rw [one_leaf (by omega) c4, leaf7 c23, decide_eq_true (show kids.length = 0 by omega), decide_eq_false c25]; rfl
        ·
         iterate 3 refine dk ?_
         refine dk' ?_
         refine dm ?_
         iterate 4 refine dk ?_
         refine dk' ?_
         refine dm ?_
         iterate 3 refine dk ?_
         refine dk' ?_
         refine da ?_
         refine D_end (hK29 _ _ ?_)
         refine W_ret ?_
         try dsimp only [then', inBlk, noGo]
         refine ro ?_
         refine ⟨?_, hx⟩
         rw [one_leaf (by omega) c4, decide_eq_false (show ¬ kids.length = 0 by omega)]; rfl
       ·
        refine W_skip ?_
        refine hK5 _ _ ?_
        refine W_seq fun K30 hK30 => ?_
        refine wr ?_
        refine da ?_
        refine D_end (hK30 _ _ ?_)
        refine W_ret ?_
        try dsimp only [then', inBlk, noGo]
        refine ro ?_
        refine ⟨?_, hx⟩
        rw [one_leaf (by omega) c4, leaf_no c15 c19 c23, Bool.and_false]

theorem one_all : ∀ (m : Nat) (c : FilV) (f : Flt) (w : World), FRep w m c f → ∀ (w1 : World) (d : Int), Ext w w1 → 0 ≤ d → d ≤ 20 → Calls Tryz.prog 30 [.agg ⟨c.cs⟩, I d].toArray w1 (Pure w1 (B (oneF m d f)))
  | 0, _, _, _, h, _, _, _, _, _ => h.elim
  | m + 1, c, .mk k t v subs kids, w, h, w1, d, hx, h0, h1 => by
    obtain ⟨e1, e2, e3, hs, hsl, l, hk, hl, hll, hkids⟩ := h.ext hx
    obtain ⟨ck, ct, cv, cs, cc⟩ := c
    subst e1 e2 e3
    exact one_w m k t v subs kids l cs cc w1 hs hk hl hsl hll d h0 h1 (fun i c f hi hf w2 d2 hx2 h2 h3 => one_all m c f w1 (hkids i c f hi hf) w2 d2 hx2 h2 h3)

set_option maxRecDepth 100000 in
set_option maxHeartbeats 1000000 in
theorem ris_w (m : Nat) (c : FilV) (f : Flt) (w : World) (hf : FRep w m c f) (hN : nodesF m f ≤ 1000) :
  Calls Tryz.prog 14 [.agg ⟨c.cs⟩].toArray w (Pure w (B (isF m f))) := by
 refine calls_W Tryz.func14 rfl rfl rfl (by kernel_rfl) ?_
 have hx := Ext.refl w
 refine W_seq fun K1 hK1 => ?_
 refine wr ?_
 refine D_box rfl rfl rfl RX.all (fun b1 w1 e1 x1 m1 => ?_)
 have g1 : w.heap.size ≤ b1 := by have := hx.size; omega
 replace hx := hx.trans x1
 refine da ?_
 refine D_end (hK1 _ _ ?_)
 refine W_seq fun K2 hK2 => ?_
 refine wr ?_
 refine dq (lv_loadA (k := 5) (by kernel_rfl) rfl rfl m1.row) ?_
 refine D_callP rfl (by kernel_rfl) (one_all m c f w hf _ 1 hx (by omega) (by omega)) rfl RX.all (fun w2 x2 => ?_)
 replace m1 := m1.ext x2
 replace hx := hx.trans x2
 refine dm ?_
 refine D_split 5 rfl (fun c1 => ?_) (fun c1 => ?_)
 ·
  refine dq (lv_loadA (k := 5) (by kernel_rfl) rfl rfl m1.row) ?_
  refine D_callP rfl (by kernel_rfl) (nodes_all m c f w hf _ hx hN) rfl RX.all (fun w3 x3 => ?_)
  replace m1 := m1.ext x3
  replace hx := hx.trans x3
  refine dp (pv_leq rfl rfl) ?_
  refine dk' ?_
  refine da ?_
  refine D_end (hK2 _ _ ?_)
  refine W_ret ?_
  try dsimp only [then', inBlk, noGo]
  refine ro ?_
  refine ⟨?_, hx⟩
  unfold isF; rw [c1]
  congr 2
  simp only [Bool.true_and]
  rw [decide_eq_decide]; omega
 ·
  iterate 3 refine dk ?_
  refine dk' ?_
  refine da ?_
  refine D_end (hK2 _ _ ?_)
  refine W_ret ?_
  try dsimp only [then', inBlk, noGo]
  refine ro ?_
  exact ⟨by unfold isF; rw [c1]; rfl, hx⟩

set_option maxRecDepth 100000 in
set_option maxHeartbeats 1000000 in
theorem are1_w (s : Str) (w : World) :
  Calls Tryz.prog 95 [S s].toArray w (Pure w (B (decide (256 < s.length)))) := by
 refine calls_W Tryz.func95 rfl rfl rfl (by kernel_rfl) ?_
 have hx := Ext.refl w
 refine W_seq fun K1 hK1 => ?_
 refine wr ?_
 refine da ?_
 refine D_end (hK1 _ _ ?_)
 refine W_seq fun K2 hK2 => ?_
 refine wr ?_
 refine dm ?_
 refine dp (pv_lenS (by kernel_rfl) rfl) ?_
 refine dp (pv_gtr rfl rfl) ?_
 refine da ?_
 refine D_end (hK2 _ _ ?_)
 refine W_ret ?_
 try dsimp only [then', inBlk, noGo]
 refine ro ?_
 refine ⟨?_, hx⟩
 congr 2
 rw [decide_eq_decide]; omega

set_option maxRecDepth 100000 in
set_option maxHeartbeats 1000000 in
theorem indexT_w (l : List Str) (x : Str) (v : Value) (w : World) (hv : Arr sEnc 1 w v l) (hl : l.length ≤ 140737488355328) :
  Calls Tryz.prog 124 [v, S x].toArray w (Gives w (fun u _ => ∃ i : Int, u = I i ∧ (0 ≤ i ↔ l.any (fun s => decide (s = x)) = true))) := by
 refine calls_W Tryz.func124 rfl rfl rfl (by kernel_rfl) ?_
 have hx := Ext.refl w
 refine W_seq fun K1 hK1 => ?_
 refine wr ?_
 refine da ?_
 refine D_end (hK1 _ _ ?_)
 refine W_seq fun K2 hK2 => ?_
 refine W_seq fun K3 hK3 => ?_
 refine wr ?_
 refine dm ?_
 refine dp (pv_lenV (e := 9) (k := 1) (by kernel_rfl) hv.sl rfl) ?_
 refine dm ?_
 refine D_end (hK3 _ _ ?_)
 refine W_block ?_
 refine W_loop (G := Nat) (fun k => [(0, v), (1, S x), (7, I ↑l.length), (8, I ↑k)]) (fun k w' => Ext w w' ∧ k ≤ l.length ∧ (l.take k).any (fun s => decide (s = x)) = false) (fun k => l.length - k) 0 ?_ ?_ ?_
 ·
  exact ⟨rfl, rfl, rfl, rfl, trivial⟩
 ·
  exact ⟨hx, Nat.zero_le _, rfl⟩
 ·
  intro X1 g1 w1 hF1
  revert hF1; revert g1; intro k hF1
  clear hx
  obtain ⟨hx, hk1, hany⟩ := hF1
  refine W_seq fun K4 hK4 => ?_
  refine wr ?_
  refine dp (pv_lss rfl rfl) ?_
  refine D_end (hK4 _ _ ?_)
  refine W_seq fun K5 hK5 => ?_
  refine W_if rfl (fun c1 => ?_) (fun c1 => ?_)
  ·
   obtain ⟨s, hk⟩ : ∃ s, l[k]? = some s := ⟨_, List.getElem?_eq_getElem (by omega)⟩
   refine W_skip ?_
   refine hK5 _ _ ?_
   refine W_seq fun K6 hK6 => ?_
   refine W_block ?_
   refine W_seq fun K7 hK7 => ?_
   refine wr ?_
   refine dm ?_
   refine da ?_
   refine D_end (hK7 _ _ ?_)
   refine W_seq fun K8 hK8 => ?_
   refine wr ?_
   iterate 3 refine dm ?_
   refine dp (pv_idxA (e := 9) (k := 1) (by kernel_rfl) hv.sl rfl rfl (hv.lt hk)) ?_
   refine dq (lv_load (by kernel_rfl) rfl (((hv.ext hx).row hk).at0 rfl)) ?_
   refine dp (pv_seq rfl rfl) ?_
   refine D_end (hK8 _ _ ?_)
   refine W_if rfl (fun c2 => ?_) (fun c2 => ?_)
   ·
    refine W_seq fun K9 hK9 => ?_
    refine wr ?_
    refine dm ?_
    refine da ?_
    refine D_end (hK9 _ _ ?_)
    refine W_ret ?_
    try dsimp only [then', inBlk, noGo]
    refine ro ?_
    refine ⟨_, rfl, hx, _, rfl, ?_⟩
    rw [any_atP hk (decide_eq_true c2.symm)]; simp
   ·
    refine W_skip ?_
    refine hK6 _ _ ?_
    refine wr ?_
    refine dp (pv_add rfl rfl (by unfold inI64; omega)) ?_
    refine dm ?_
    refine D_end (?_)
    refine ⟨k + 1, ⟨rfl, rfl, rfl, rfl, trivial⟩, ⟨hx, by omega, any_takeP hk hany (decide_eq_false (fun e => c2 e.symm))⟩, by omega⟩
  ·
   refine W_exit ?_
   refine hK2 _ _ ?_
   refine W_seq fun K10 hK10 => ?_
   refine wr ?_
   refine da ?_
   refine D_end (hK10 _ _ ?_)
   refine W_ret ?_
   try dsimp only [then', inBlk, noGo]
   refine ro ?_
   refine ⟨_, rfl, hx, -1, rfl, ?_⟩
   rw [List.take_of_length_le (by omega)] at hany
   rw [hany]; simp

set_option maxRecDepth 100000 in
set_option maxHeartbeats 1000000 in
theorem containsT_w (l : List Str) (x : Str) (v : Value) (w : World) (hv : Arr sEnc 1 w v l) (hl : l.length ≤ 140737488355328) :
  Calls Tryz.prog 96 [v, S x].toArray w (Pure w (B (l.any (fun s => decide (s = x))))) := by
 refine calls_W Tryz.func96 rfl rfl rfl (by kernel_rfl) ?_
 have hx := Ext.refl w
 refine W_seq fun K1 hK1 => ?_
 refine wr ?_
 refine da ?_
 refine D_end (hK1 _ _ ?_)
 refine W_seq fun K2 hK2 => ?_
 refine wr ?_
 iterate 2 refine dm ?_
 refine D_callG rfl (by kernel_rfl) (indexT_w l x v _ (hv.ext hx) hl) rfl RX.all (fun u1 w1 x1 hf1 => ?_)
 have hsz1 := hx.size
 replace hx := hx.trans x1
 obtain ⟨i, rfl, hi⟩ := hf1
 refine dp (pv_geq rfl rfl) ?_
 refine da ?_
 refine D_end (hK2 _ _ ?_)
 refine W_ret ?_
 try dsimp only [then', inBlk, noGo]
 refine ro ?_
 refine ⟨?_, hx⟩
 congr 2
 rw [Bool.eq_iff_iff, decide_eq_true_iff]; exact hi

set_option maxRecDepth 100000 in
set_option maxHeartbeats 1000000 in
theorem are_w (l : List Str) (v : Value) (w : World) (hv : Arr sEnc 1 w v l) (hl : l.length ≤ 140737488355328) :
  Calls Tryz.prog 65 [v].toArray w (Pure w (B (subsM l))) := by
 refine calls_W Tryz.func65 rfl rfl rfl (by kernel_rfl) ?_
 have hx := Ext.refl w
 refine W_seq fun K1 hK1 => ?_
 refine wr ?_
 refine da ?_
 refine D_end (hK1 _ _ ?_)
 refine W_seq fun K2 hK2 => ?_
 refine W_seq fun K3 hK3 => ?_
 refine wr ?_
 refine dm ?_
 refine dp (pv_lenV (e := 9) (k := 1) (by kernel_rfl) hv.sl rfl) ?_
 refine dp (pv_lss rfl rfl) ?_
 refine dm ?_
 refine D_splitP 6 rfl (fun c1 => ?_) (fun c1 => ?_)
 ·
  iterate 3 refine dk ?_
  refine dk' ?_
  refine dm ?_
  iterate 2 refine dk ?_
  refine dk' ?_
  refine D_end (hK3 _ _ ?_)
  refine W_t rfl ?_
  refine W_seq fun K4 hK4 => ?_
  refine wr ?_
  refine da ?_
  refine D_end (hK4 _ _ ?_)
  refine W_ret ?_
  try dsimp only [then', inBlk, noGo]
  refine ro ?_
  exact ⟨by rw [subs_short (by omega)], hx⟩
 ·
  refine dm ?_
  refine dp (pv_lenV (e := 9) (k := 1) (by kernel_rfl) hv.sl rfl) ?_
  refine dp (pv_gtr rfl rfl) ?_
  refine dk' ?_
  refine dm ?_
  refine D_splitP 11 rfl (fun c2 => ?_) (fun c2 => ?_)
  ·
   iterate 2 refine dk ?_
   refine dk' ?_
   refine D_end (hK3 _ _ ?_)
   refine W_t rfl ?_
   refine W_seq fun K5 hK5 => ?_
   refine wr ?_
   refine da ?_
   refine D_end (hK5 _ _ ?_)
   refine W_ret ?_
   try dsimp only [then', inBlk, noGo]
   refine ro ?_
   exact ⟨by rw [subs_short (by omega)], hx⟩
  ·
   refine dm ?_
   refine D_callP rfl (by kernel_rfl) (containsS_w l v 95 [] (fun s => decide (256 < s.length)) _ (hv.ext hx) hl (by kernel_rfl) (fun w2 x2 x hxm => are1_w x w2)) rfl RX.all (fun w1 x1 => ?_)
   replace hx := hx.trans x1
   refine dk' ?_
   refine D_end (hK3 _ _ ?_)
   refine W_cond rfl (fun c3 => ?_) (fun c3 => ?_)
   ·
    refine W_seq fun K6 hK6 => ?_
    refine wr ?_
    refine da ?_
    refine D_end (hK6 _ _ ?_)
    refine W_ret ?_
    try dsimp only [then', inBlk, noGo]
    refine ro ?_
    refine ⟨?_, hx⟩
    unfold subsM; rw [c3]; simp
   ·
    refine W_skip ?_
    refine hK2 _ _ ?_
    refine W_seq fun K7 hK7 => ?_
    refine wr ?_
    iterate 2 refine dm ?_
    refine dp (pv_lenV (e := 9) (k := 1) (by kernel_rfl) hv.sl rfl) ?_
    refine D_pe (v := I ↑(l.length - 1)) rfl (pv_sub rfl rfl (by unfold inI64; omega)) (by show I _ = I _; congr 1; omega) ?_
    refine dp (pv_slV (e := 9) (k := 1) (by kernel_rfl) hv.sl rfl rfl rfl (show 1 ≤ l.length - 1 by omega) (show l.length - 1 ≤ l.length by omega)) ?_
    refine D_callP rfl (by kernel_rfl) (containsT_w ((l.take (l.length - 1)).drop 1) [] _ _ (Arr.slice (hv.ext hx) (by omega) (by omega)) (by rw [List.length_drop, List.length_take]; omega)) rfl RX.all (fun w2 x2 => ?_)
    replace hx := hx.trans x2
    refine dn ?_
    refine dm ?_
    refine D_split 22 rfl (fun c4 => ?_) (fun c4 => ?_)
    ·
     have hm : ((l.take (l.length - 1)).drop 1).any (fun s => decide (s = [])) = false := by simpa using c4
     refine dm ?_
     refine dp (pv_lenV (e := 9) (k := 1) (by kernel_rfl) hv.sl rfl) ?_
     refine dp (pv_gtr rfl rfl) ?_
     refine dm ?_
     refine D_splitP 26 rfl (fun c5 => ?_) (fun c5 => ?_)
     ·
      iterate 4 refine dk ?_
      refine dk' ?_
      refine dm ?_
      iterate 4 refine dk ?_
      refine dk' ?_
      refine dk' ?_
      refine da ?_
      refine D_end (hK7 _ _ ?_)
      refine W_ret ?_
      try dsimp only [then', inBlk, noGo]
      refine ro ?_
      refine ⟨?_, hx⟩
      unfold subsM
      rw [decide_eq_true (show 2 ≤ l.length by omega), decide_eq_true (show l.length ≤ 16 by omega), c3, hm, mid_any (by omega) hm]; rfl
     ·
      obtain ⟨a, hka⟩ : ∃ a, l[0]? = some a := ⟨_, List.getElem?_eq_getElem (by omega)⟩
      obtain ⟨b, hkb⟩ : ∃ b, l[1]? = some b := ⟨_, List.getElem?_eq_getElem (by omega)⟩
      have h2 := two_any (by omega) hka hkb
      refine dm ?_
      refine dp (pv_idxA (i := 0) (e := 9) (k := 1) (by kernel_rfl) hv.sl rfl rfl (hv.lt hka)) ?_
      refine dq (lv_load (by kernel_rfl) rfl (((hv.ext hx).row hka).at0 rfl)) ?_
      refine dp (pv_sne rfl rfl) ?_
      refine dk' ?_
      refine dm ?_
      refine D_splitP 32 rfl (fun c6 => ?_) (fun c6 => ?_)
      ·
       iterate 4 refine dk ?_
       refine dk' ?_
       refine dk' ?_
       refine da ?_
       refine D_end (hK7 _ _ ?_)
       refine W_ret ?_
       try dsimp only [then', inBlk, noGo]
       refine ro ?_
       refine ⟨?_, hx⟩
       unfold subsM
       rw [decide_eq_true (show 2 ≤ l.length by omega), decide_eq_true (show l.length ≤ 16 by omega), c3, hm, h2, decide_eq_true c6]; rfl
      ·
       refine dm ?_
       refine dp (pv_idxA (i := 1) (e := 9) (k := 1) (by kernel_rfl) hv.sl rfl rfl (hv.lt hkb)) ?_
       refine dq (lv_load (by kernel_rfl) rfl (((hv.ext hx).row hkb).at0 rfl)) ?_
       refine dp (pv_sne rfl rfl) ?_
       refine dk' ?_
       refine dk' ?_
       refine da ?_
       refine D_end (hK7 _ _ ?_)
       refine W_ret ?_
       try dsimp only [then', inBlk, noGo]
       refine ro ?_
       refine ⟨?_, hx⟩
       unfold subsM
       rw [decide_eq_true (show 2 ≤ l.length by omega), decide_eq_true (show l.length ≤ 16 by omega), c3, hm, h2, decide_eq_false c6]; simp
    ·
     iterate 15 refine dk ?_
     refine dk' ?_
     refine da ?_
     refine D_end (hK7 _ _ ?_)
     refine W_ret ?_
     try dsimp only [then', inBlk, noGo]
     refine ro ?_
     refine ⟨?_, hx⟩
     have hm : ((l.take (l.length - 1)).drop 1).any (fun s => decide (s = [])) = true := by simpa using c4
     unfold subsM; rw [hm]; simp

set_option maxRecDepth 100000 in
set_option maxHeartbeats 1000000 in
theorem mayC_w (m : Nat) (c : FilV) (f : Flt) (n left : Int) (bl bn bp : Nat) (w : World) (hL : Blk w bl [I left] 3) (hN : Blk w bn [I n] 3) (hP : Blk w bp [ptr bl 0] 55) (hn0 : -1 ≤ n) (hn1 : n ≤ 19) (hcall : ∀ w1, Ext w w1 → Blk w1 bl [I left] 3 → Calls Tryz.prog 32 [.agg ⟨c.cs⟩, I (n + 1), ptr bl 0].toArray w1 (MayP bl w1 m (n + 1) left f)) :
  Calls Tryz.prog 67 [.agg ⟨c.cs⟩, ptr bn 0, ptr bp 0].toArray w (Does (oneB bl) w (fun u w' => ∃ (b : Bool) (x : Int), u = B (!b) ∧ Blk w' bl [I x] 3 ∧ mayT m (n + 1) left f b x)) := by
 refine calls_W Tryz.func67 rfl rfl rfl (by kernel_rfl) ?_
 have hx := Ext.refl w
 have hbl := hL.lt
 refine W_seq fun K1 hK1 => ?_
 refine wr ?_
 refine D_box rfl rfl rfl RX.all (fun b1 w1 e1 x1 m1 => ?_)
 have g1 : w.heap.size ≤ b1 := by have := hx.size; omega
 replace hx := hx.trans x1
 refine da ?_
 refine D_end (hK1 _ _ ?_)
 refine W_seq fun K2 hK2 => ?_
 refine wr ?_
 refine dq (lv_loadA (k := 5) (by kernel_rfl) rfl rfl m1.row) ?_
 refine dq (lv_load (by kernel_rfl) rfl ((hN.ext hx).at rfl)) ?_
 refine dp (pv_add rfl rfl (by unfold inI64; omega)) ?_
 refine dq (lv_load (by kernel_rfl) rfl ((hP.ext hx).at rfl)) ?_
 refine D_callD rfl (by kernel_rfl) (hcall _ hx (hL.ext hx)) rfl (.inl rfl) (fun u2 w2 x2 hf2 => ?_)
 have hsz2 := hx.size
 replace m1 := m1.mod x2 (by intro h; have h2 : _ = bl := h; omega)
 replace hx := (hx.mod x2).mono (fun i hi _ => (hi : (oneB bl) i))
 obtain ⟨b, x, rfl, hL2, hm⟩ := hf2
 refine dn ?_
 refine da ?_
 refine D_end (hK2 _ _ ?_)
 refine W_ret ?_
 try dsimp only [then', inBlk, noGo]
 refine ro ?_
 exact ⟨_, rfl, hx, b, x, rfl, hL2, hm⟩

set_option maxRecDepth 100000 in
set_option maxHeartbeats 1000000 in
theorem indexK_w (m : Nat) (kids : List Flt) (l : List FilV) (vk : Value) (n left : Int) (bl bn bp D : Nat) (w : World) (hk0 : Arr FilV.cs 5 w vk l) (hL : Blk w bl [I left] 3) (hN : Blk w bn [I n] 3) (hP : Blk w bp [ptr bl 0] 55) (hlk : l.length = kids.length) (hll : l.length ≤ 140737488355328) (hkn : l ≠ [] → ¬ oneB bl (base vk).1) (hnb : bn ≠ bl) (hpb : bp ≠ bl) (hDb : D ≤ bl) (hl0 : 0 ≤ left) (hl1 : left ≤ 1000) (hn0 : -1 ≤ n) (hn1 : n ≤ 19) (ih : ∀ (i : Nat) (c : FilV) (f : Flt), l[i]? = some c → kids[i]? = some f → ∀ (w1 : World) (n1 left1 : Int), Vc.Mod (geB D) w w1 → Blk w1 bl [I left1] 3 → 0 ≤ left1 → left1 ≤ 1000 → -1 ≤ n1 → n1 ≤ 20 → Calls Tryz.prog 32 [.agg ⟨c.cs⟩, I n1, ptr bl 0].toArray w1 (MayP bl w1 m n1 left1 f)) :
  Calls Tryz.prog 97 [vk, fnC 67 [ptr bn 0, ptr bp 0]].toArray w (Does (oneB bl) w (fun u w' => ∃ (j x : Int) (b : Bool), u = I j ∧ Blk w' bl [I x] 3 ∧ mayA m n left kids b x ∧ (0 ≤ j ↔ b = false))) := by
 refine calls_W Tryz.func97 rfl rfl rfl (by kernel_rfl) ?_
 have hx := Ext.refl w
 refine W_seq fun K1 hK1 => ?_
 refine wr ?_
 refine da ?_
 refine D_end (hK1 _ _ ?_)
 refine W_seq fun K2 hK2 => ?_
 refine W_seq fun K3 hK3 => ?_
 refine wr ?_
 refine dm ?_
 refine dp (pv_lenV (e := 25) (k := 5) (by kernel_rfl) hk0.sl rfl) ?_
 refine dm ?_
 refine D_end (hK3 _ _ ?_)
 refine W_block ?_
 refine W_loop (G := Nat) (fun i => [(0, vk), (1, fnC 67 [ptr bn 0, ptr bp 0]), (7, I ↑l.length), (8, I ↑i)]) (fun i w' => Mod (oneB bl) w w' ∧ i ≤ l.length ∧ ∃ z : Int, Blk w' bl [I z] 3 ∧ z = left - ((kids.take i).map (nodesF m)).sum ∧ 0 ≤ z ∧ (kids.take i).all (oneF m (n + 1 + 1)) = true) (fun i => l.length - i) 0 ?_ ?_ ?_
 ·
  exact ⟨rfl, rfl, rfl, rfl, trivial⟩
 ·
  exact ⟨hx.mono (fun _ h _ => h.elim), Nat.zero_le _, left, hL, by simp, hl0, rfl⟩
 ·
  intro X1 g1 w1 hF1
  revert hF1; revert g1; intro i hF1
  clear hx hL
  obtain ⟨hx, hi1, z, hL, hz, hz0, hall⟩ := hF1
  refine W_seq fun K4 hK4 => ?_
  refine wr ?_
  refine dp (pv_lss rfl rfl) ?_
  refine D_end (hK4 _ _ ?_)
  refine W_seq fun K5 hK5 => ?_
  refine W_if rfl (fun c1 => ?_) (fun c1 => ?_)
  ·
   obtain ⟨c, hi⟩ : ∃ c, l[i]? = some c := ⟨_, List.getElem?_eq_getElem (by omega)⟩
   obtain ⟨f, hif⟩ := pair_at hlk hi
   have hle := sum_take (f := nodesF m) hif
   refine W_skip ?_
   refine hK5 _ _ ?_
   refine W_seq fun K6 hK6 => ?_
   refine W_block ?_
   refine W_seq fun K7 hK7 => ?_
   refine wr ?_
   refine dm ?_
   refine da ?_
   refine D_end (hK7 _ _ ?_)
   refine W_seq fun K8 hK8 => ?_
   refine wr ?_
   iterate 3 refine dm ?_
   refine dp (pv_idxA (e := 25) (k := 5) (by kernel_rfl) hk0.sl rfl rfl (hk0.lt hi)) ?_
   refine dq (lv_loadA (by kernel_rfl) rfl rfl ((hk0.mod hx hkn).row hi)) ?_
   refine D_callCD (vs := [.agg ⟨c.cs⟩]) (cs := [ptr bn 0, ptr bp 0]) rfl rfl (by kernel_rfl) (mayC_w m c f n z bl bn bp _ hL (hN.mod hx (fun h => hnb h)) (hP.mod hx (fun h => hpb h)) hn0 hn1 (fun w1 x1 h1 => ih i c f hi hif w1 (n + 1) z (Far.trans _ _ _ (far_one hDb hx) (Far.of_ext x1)) h1 (by omega) (by omega) (by omega) (by omega))) rfl (.inl rfl) (fun u2 w2 x2 hf2 => ?_)
   have hsz2 := hx.size
   replace hx := hx.own x2 (fun i hi _ => hi)
   obtain ⟨b, x, rfl, hL, hm⟩ := hf2
   refine D_end (hK8 _ _ ?_)
   refine W_cond rfl (fun c2 => ?_) (fun c2 => ?_)
   ·
    refine W_seq fun K9 hK9 => ?_
    refine wr ?_
    refine dm ?_
    refine da ?_
    refine D_end (hK9 _ _ ?_)
    refine W_ret ?_
    try dsimp only [then', inBlk, noGo]
    refine ro ?_
    have hb : b = false := by simpa using c2
    subst hb
    refine ⟨_, rfl, hx, _, x, false, rfl, hL, ⟨?_, (fun e => by cases e), hm.2.2.1, by have := hm.2.2.2; omega⟩, by simp⟩
    have hm1 := hm.1.symm
    rw [Bool.and_eq_false_iff, decide_eq_false_iff_not] at hm1
    rcases hm1 with h | h
    ·
     rw [show kids.all (oneF m (n + 1 + 1)) = false from List.all_eq_false.2 ⟨f, List.mem_of_getElem? hif, by simpa using h⟩]; rfl
    ·
     rw [decide_eq_false (show ¬ ((kids.map (nodesF m)).sum : Int) ≤ left by omega)]; simp
   ·
    refine W_skip ?_
    refine hK6 _ _ ?_
    refine wr ?_
    refine dp (pv_add rfl rfl (by unfold inI64; omega)) ?_
    refine dm ?_
    refine D_end (?_)
    have hb : b = true := by simpa using c2
    subst hb
    have hm1 := hm.1.symm
    rw [Bool.and_eq_true, decide_eq_true_eq] at hm1
    have hm2 := hm.2.1 rfl
    refine ⟨i + 1, ⟨rfl, rfl, rfl, rfl, trivial⟩, ⟨hx, by omega, x, hL, by rw [sum_next hif]; omega, by omega, ?_⟩, by omega⟩
    rw [all_next hif, hall, hm1.1]; rfl
  ·
   refine W_exit ?_
   refine hK2 _ _ ?_
   refine W_seq fun K10 hK10 => ?_
   refine wr ?_
   refine da ?_
   refine D_end (hK10 _ _ ?_)
   refine W_ret ?_
   try dsimp only [then', inBlk, noGo]
   refine ro ?_
   rw [List.take_of_length_le (show kids.length ≤ i by omega)] at hz hall
   exact ⟨_, rfl, hx, -1, z, true, rfl, hL, ⟨by rw [hall, decide_eq_true (by omega)]; rfl, fun _ => hz, by omega, by omega⟩, by simp⟩

set_option maxRecDepth 100000 in
set_option maxHeartbeats 1000000 in
theorem contK_w (m : Nat) (kids : List Flt) (l : List FilV) (vk : Value) (n left : Int) (bl bn bp D : Nat) (w : World) (hk0 : Arr FilV.cs 5 w vk l) (hL : Blk w bl [I left] 3) (hN : Blk w bn [I n] 3) (hP : Blk w bp [ptr bl 0] 55) (hlk : l.length = kids.length) (hll : l.length ≤ 140737488355328) (hkn : l ≠ [] → ¬ oneB bl (base vk).1) (hnb : bn ≠ bl) (hpb : bp ≠ bl) (hDb : D ≤ bl) (hl0 : 0 ≤ left) (hl1 : left ≤ 1000) (hn0 : -1 ≤ n) (hn1 : n ≤ 19) (ih : ∀ (i : Nat) (c : FilV) (f : Flt), l[i]? = some c → kids[i]? = some f → ∀ (w1 : World) (n1 left1 : Int), Vc.Mod (geB D) w w1 → Blk w1 bl [I left1] 3 → 0 ≤ left1 → left1 ≤ 1000 → -1 ≤ n1 → n1 ≤ 20 → Calls Tryz.prog 32 [.agg ⟨c.cs⟩, I n1, ptr bl 0].toArray w1 (MayP bl w1 m n1 left1 f)) :
  Calls Tryz.prog 66 [vk, fnC 67 [ptr bn 0, ptr bp 0]].toArray w (Does (oneB bl) w (fun u w' => ∃ (x : Int) (b : Bool), u = B (!b) ∧ Blk w' bl [I x] 3 ∧ mayA m n left kids b x)) := by
 refine calls_W Tryz.func66 rfl rfl rfl (by kernel_rfl) ?_
 have hx := Ext.refl w
 refine W_seq fun K1 hK1 => ?_
 refine wr ?_
 refine da ?_
 refine D_end (hK1 _ _ ?_)
 refine W_seq fun K2 hK2 => ?_
 refine wr ?_
 iterate 2 refine dm ?_
 refine D_callD rfl (by kernel_rfl) (indexK_w m kids l vk n left bl bn bp D _ (hk0.ext hx) (hL.ext hx) (hN.ext hx) (hP.ext hx) hlk hll hkn hnb hpb hDb hl0 hl1 hn0 hn1 (fun i c f hi hif w1 n1 l1 hm => ih i c f hi hif w1 n1 l1 (Far.trans _ _ _ (Far.of_ext hx) hm))) rfl (.inl rfl) (fun u1 w1 x1 hf1 => ?_)
 have hsz1 := hx.size
 replace hx := (hx.mod x1).mono (fun i hi _ => (hi : (oneB bl) i))
 obtain ⟨j, x, b, rfl, hL2, hm, hj⟩ := hf1
 refine dp (pv_geq rfl rfl) ?_
 refine da ?_
 refine D_end (hK2 _ _ ?_)
 refine W_ret ?_
 try dsimp only [then', inBlk, noGo]
 refine ro ?_
 refine ⟨_, rfl, hx, x, b, ?_, hL2, hm⟩
 congr 1
 rw [Bool.eq_iff_iff, decide_eq_true_iff, hj]; cases b <;> simp

set_option maxRecDepth 100000 in
set_option maxHeartbeats 1000000 in
theorem may_w (m : Nat) (k : Int) (t v : Str) (subs : List Str) (kids : List Flt) (l : List FilV) (vs vk : Value) (w : World) (hs : Arr sEnc 1 w vs subs) (hk0 : Arr FilV.cs 5 w vk l) (hlk : l.length = kids.length) (hsl : subs.length ≤ 140737488355328) (hll : l.length ≤ 140737488355328) (n left : Int) (bl D : Nat) (hL : Blk w bl [I left] 3) (hsn : subs ≠ [] → ¬ oneB bl (base vs).1) (hkn : l ≠ [] → ¬ oneB bl (base vk).1) (hDb : D ≤ bl) (hl0 : 0 ≤ left) (hl1 : left ≤ 1000) (hn0 : -1 ≤ n) (hn1 : n ≤ 20) (ih : ∀ (i : Nat) (c : FilV) (f : Flt), l[i]? = some c → kids[i]? = some f → ∀ (w1 : World) (n1 left1 : Int), Vc.Mod (geB D) w w1 → Blk w1 bl [I left1] 3 → 0 ≤ left1 → left1 ≤ 1000 → -1 ≤ n1 → n1 ≤ 20 → Calls Tryz.prog 32 [.agg ⟨c.cs⟩, I n1, ptr bl 0].toArray w1 (MayP bl w1 m n1 left1 f)) :
  Calls Tryz.prog 32 [.agg ⟨[I k, S t, S v, vs, vk]⟩, I n, ptr bl 0].toArray w (MayP bl w (m + 1) n left (.mk k t v subs kids)) := by
 refine calls_W Tryz.func32 rfl rfl rfl (by kernel_rfl) ?_
 have hx := Ext.refl w
 have hbl := hL.lt
 refine W_seq fun K1 hK1 => ?_
 refine wr ?_
 refine D_box rfl rfl rfl RX.all (fun b1 w1 e1 x1 m1 => ?_)
 have g1 : w.heap.size ≤ b1 := by have := hx.size; omega
 replace hx := hx.trans x1
 refine D_box rfl rfl rfl RX.all (fun b2 w2 e2 x2 m2 => ?_)
 have g2 : w.heap.size ≤ b2 := by have := hx.size; omega
 have n2_1 : b1 < b2 := by have := m1.lt; omega
 replace m1 := m1.ext x2
 replace hx := hx.trans x2
 refine D_box rfl rfl rfl RX.all (fun b3 w3 e3 x3 m3 => ?_)
 have g3 : w.heap.size ≤ b3 := by have := hx.size; omega
 have n3_1 : b1 < b3 := by have := m1.lt; omega
 have n3_2 : b2 < b3 := by have := m2.lt; omega
 replace m1 := m1.ext x3
 replace m2 := m2.ext x3
 replace hx := hx.trans x3
 refine da ?_
 refine D_end (hK1 _ _ ?_)
 refine W_seq fun K2 hK2 => ?_
 refine W_seq fun K3 hK3 => ?_
 refine wr ?_
 refine dq (lv_load (by kernel_rfl) rfl (m3.at rfl)) ?_
 refine dp (pv_nilP rfl) ?_
 refine dq (lv_load (by kernel_rfl) rfl ((hL.ext hx).at rfl)) ?_
 refine dp (pv_sub rfl rfl (by unfold inI64; omega)) ?_
 refine dp (pv_nilP rfl) ?_
 refine D_store1 (v := ?v2) rfl rfl ?h2 ?n2 (by kernel_rfl) (hL.ext hx) ?o2 (.inl rfl) (fun w4 x4 xs4 hL => ?k2)
 case h2 => conv => lhs; whnf
 case n2 => first | rfl | exact isSl.one m1.sl | exact isSl.one m2.sl | exact isSl.one m3.sl | exact isSl.one hk0.sl | exact isSl.one hs.sl
 case o2 => exact Nat.le_of_ble_eq_true rfl
 try dsimp only [setAt, List.set, List.take, List.drop] at hL
 try replace m1 := m1.mod x4 (by first | assumption | (intro k hk h; have h1 := (m1.lt k hk).1; have h2 : k = bl := h; omega) | (intro k hk h; have h1 := ol_m1 k hk; have h2 : k = bl := h; omega) | (intro h; have h2 : _ = bl := h; omega) | (intro hl h; have h1 := al_m1 hl; have h2 : _ = bl := h; omega))
 try replace m2 := m2.mod x4 (by first | assumption | (intro k hk h; have h1 := (m2.lt k hk).1; have h2 : k = bl := h; omega) | (intro k hk h; have h1 := ol_m2 k hk; have h2 : k = bl := h; omega) | (intro h; have h2 : _ = bl := h; omega) | (intro hl h; have h1 := al_m2 hl; have h2 : _ = bl := h; omega))
 try replace m3 := m3.mod x4 (by first | assumption | (intro k hk h; have h1 := (m3.lt k hk).1; have h2 : k = bl := h; omega) | (intro k hk h; have h1 := ol_m3 k hk; have h2 : k = bl := h; omega) | (intro h; have h2 : _ = bl := h; omega) | (intro hl h; have h1 := al_m3 hl; have h2 : _ = bl := h; omega))
 replace hx := (hx.mod x4).mono (fun i hi _ => (hi : (oneB bl) i))
 refine D_end (hK3 _ _ ?_)
 refine W_seq fun K4 hK4 => ?_
 refine wr ?_
 refine dq (lv_load (by kernel_rfl) rfl (m3.at rfl)) ?_
 refine dp (pv_nilP rfl) ?_
 refine dq (lv_load (by kernel_rfl) rfl (hL.at rfl)) ?_
 refine dp (pv_lss rfl rfl) ?_
 refine dm ?_
 refine D_splitP 20 rfl (fun c1 => ?_) (fun c1 => ?_)
 ·
  iterate 2 refine dk ?_
  refine dk' ?_
  refine D_end (hK4 _ _ ?_)
  refine W_t rfl ?_
  refine W_seq fun K5 hK5 => ?_
  refine wr ?_
  refine da ?_
  refine D_end (hK5 _ _ ?_)
  refine W_ret ?_
  try dsimp only [then', inBlk, noGo]
  refine ro ?_
  exact ⟨_, rfl, hx, false, left - 1, rfl, hL, may_no (.inr (by show ¬ ((1 + (kids.map (nodesF m)).sum : Nat) : Int) ≤ left; omega)) (by omega) (by omega)⟩
 ·
  refine dq (lv_load (by kernel_rfl) rfl (m2.at rfl)) ?_
  refine dp (pv_geq rfl rfl) ?_
  refine dk' ?_
  refine D_end (hK4 _ _ ?_)
  refine W_if rfl (fun c2 => ?_) (fun c2 => ?_)
  ·
   refine W_seq fun K6 hK6 => ?_
   refine wr ?_
   refine da ?_
   refine D_end (hK6 _ _ ?_)
   refine W_ret ?_
   try dsimp only [then', inBlk, noGo]
   refine ro ?_
   exact ⟨_, rfl, hx, false, left - 1, rfl, hL, may_no (.inl (one_deep (by omega))) (by omega) (by omega)⟩
  ·
   refine W_skip ?_
   refine hK2 _ _ ?_
   refine W_seq fun K7 hK7 => ?_
   refine W_draw (R := Ext) Ext.refl (fun _ _ _ => Ext.trans) (by kernel_rfl) [1, 4, 7, 11] [(0, .p, false), (1, .l, false), (3, .p, false), (4, .l, false), (5, .p, false), (6, .p, false), (7, .l, false), (8, .p, false), (9, .p, false), (10, .p, false), (11, .l, false), (12, .p, false), (13, .p, false), (2, .x, false), (14, .p, false), (15, .p, false), (16, .p, false), (17, .p, false)] rfl (by kernel_rfl) (by kernel_rfl) (fun w5 ew5 => ?_)
   have x5 : Ext w4 w5 := by rw [ew5]; exact Ext.drew _
   clear ew5
   replace m1 := m1.ext x5
   replace m2 := m2.ext x5
   replace m3 := m3.ext x5
   replace hL := hL.ext x5
   replace hx := hx.ext x5
   refine dp (pv_fieldA (k := 1) (by kernel_rfl) rfl) ?_
   refine D_l rfl (fun w' hR => lv_load (by kernel_rfl) rfl ((m1.ext hR).at rfl)) ?_
   refine dp (pv_fieldA (k := 2) (by kernel_rfl) rfl) ?_
   refine D_l rfl (fun w' hR => lv_load (by kernel_rfl) rfl ((m1.ext hR).at rfl)) ?_
   refine dp (pv_seq rfl rfl) ?_
   refine dp (pv_fieldA (k := 3) (by kernel_rfl) rfl) ?_
   refine D_l rfl (fun w' hR => lv_load (by kernel_rfl) rfl ((m1.ext hR).at rfl)) ?_
   refine dp (pv_lenV (e := 9) (k := 1) (by kernel_rfl) hs.sl rfl) ?_
   refine dp (pv_eql rfl rfl) ?_
   refine dp (pv_fieldA (k := 4) (by kernel_rfl) rfl) ?_
   refine D_l rfl (fun w' hR => lv_load (by kernel_rfl) rfl ((m1.ext hR).at rfl)) ?_
   refine dp (pv_lenV (e := 25) (k := 5) (by kernel_rfl) hk0.sl rfl) ?_
   refine dp (pv_eql rfl rfl) ?_
   refine D_callP rfl (by kernel_rfl) (type_w t _) rfl RX.ext (fun w6 x6 => ?_)
   replace m1 := m1.ext x6
   replace m2 := m2.ext x6
   replace m3 := m3.ext x6
   replace hL := hL.ext x6
   replace hx := hx.ext x6
   iterate 4 refine da ?_
   refine D_end (hK7 _ _ ?_)
   refine W_cut (G := Bool × Bool × Bool × Bool) (fun (a, b, e3, h) => [(3, ptr b1 0), (4, ptr b2 0), (5, ptr b3 0), (7, B a), (8, B b), (9, B e3), (10, B h)]) (fun (a, b, e3, h) w' => Mod (oneB bl) w w' ∧ Blk w' b1 [I k, S t, S v, vs, vk] 25 ∧ Blk w' b2 [I n] 3 ∧ Blk w' b3 [ptr bl 0] 55 ∧ Blk w' bl [I (left - 1)] 3 ∧ (a && b && e3 && h) = headM k t v subs kids.length) ?_ ?_
   ·
    refine W_seq fun K8 hK8 => ?_
    refine wr ?_
    refine dp (pv_fieldA (k := 0) (by kernel_rfl) rfl) ?_
    refine dq (lv_load (by kernel_rfl) rfl (m1.at rfl)) ?_
    refine D_end (hK8 _ _ ?_)
    refine W_block ?_
    refine W_cut (G := Bool) (fun e => [(3, ptr b1 0), (4, ptr b2 0), (5, ptr b3 0), (6, .bool false), (7, B (typeS t)), (8, B (decide (v = []))), (9, B (decide ((subs.length : Int) = 0))), (10, B (decide ((l.length : Int) = 0))), (39, I k), (40, B e)]) (fun e w' => Mod (oneB bl) w w' ∧ Blk w' b1 [I k, S t, S v, vs, vk] 25 ∧ Blk w' b2 [I n] 3 ∧ Blk w' b3 [ptr bl 0] 55 ∧ Blk w' bl [I (left - 1)] 3 ∧ e = decide (k = 0 ∨ k = 1 ∨ k = 2)) ?_ ?_
    ·
     refine W_seq fun K9 hK9 => ?_
     refine wr ?_
     refine dp (pv_eql rfl rfl) ?_
     refine da ?_
     refine D_end (hK9 _ _ ?_)
     refine W_if rfl (fun c3 => ?_) (fun c3 => ?_)
     ·
      refine W_skip ?_
      refine ⟨_, ⟨rfl, rfl, rfl, rfl, rfl, rfl, rfl, rfl, rfl, rfl, trivial⟩, hx, m1, m2, m3, hL, ?_⟩
      rw [decide_eq_decide]; omega
     ·
      refine W_seq fun K10 hK10 => ?_
      refine wr ?_
      refine dp (pv_eql rfl rfl) ?_
      refine da ?_
      refine D_end (hK10 _ _ ?_)
      refine W_if rfl (fun c4 => ?_) (fun c4 => ?_)
      ·
       refine W_skip ?_
       refine ⟨_, ⟨rfl, rfl, rfl, rfl, rfl, rfl, rfl, rfl, rfl, rfl, trivial⟩, hx, m1, m2, m3, hL, ?_⟩
       rw [decide_eq_decide]; omega
      ·
       refine wr ?_
       refine dp (pv_eql rfl rfl) ?_
       refine da ?_
       refine D_end (?_)
       refine ⟨_, ⟨rfl, rfl, rfl, rfl, rfl, rfl, rfl, rfl, rfl, rfl, trivial⟩, hx, m1, m2, m3, hL, ?_⟩
       rw [decide_eq_decide]; omega
    ·
     intro X7 g7 w7 hF7
     revert hF7; revert g7; intro e hF7
     clear hx m1 m2 m3 hL
     obtain ⟨hx, m1, m2, m3, hL, he⟩ := hF7
     refine W_cond rfl (fun c5 => ?_) (fun c5 => ?_)
     ·
      rw [he, decide_eq_true_eq] at c5
      refine W_draw (R := Ext) Ext.refl (fun _ _ _ => Ext.trans) (by kernel_rfl) [1, 7, 11] [(0, .p, false), (1, .l, false), (2, .p, false), (3, .p, false), (4, .p, false), (5, .p, false), (6, .p, false), (7, .l, false), (8, .p, false), (9, .p, false), (10, .p, false), (11, .l, false), (12, .p, false), (13, .p, false), (14, .p, false), (15, .p, false), (16, .p, false), (17, .p, false)] rfl (by kernel_rfl) (by kernel_rfl) (fun w8 ew8 => ?_)
      have x8 : Ext w7 w8 := by rw [ew8]; exact Ext.drew _
      clear ew8
      replace m1 := m1.ext x8
      replace m2 := m2.ext x8
      replace m3 := m3.ext x8
      replace hL := hL.ext x8
      replace hx := hx.ext x8
      refine dp (pv_fieldA (k := 1) (by kernel_rfl) rfl) ?_
      refine D_l rfl (fun w' hR => lv_load (by kernel_rfl) rfl ((m1.ext hR).at rfl)) ?_
      refine dp (pv_seq rfl rfl) ?_
      refine dm ?_
      refine dn ?_
      refine dm ?_
      refine D_split 49 rfl (fun c6 => ?_) (fun c6 => ?_)
      ·
       have h6 : ¬ (l.length : Int) = 0 := of_decide_eq_false (by rw [Bool.not_eq_true'] at c6; exact c6)
       refine dp (pv_fieldA (k := 0) (by kernel_rfl) rfl) ?_
       refine D_l rfl (fun w' hR => lv_load (by kernel_rfl) rfl ((m1.ext hR).at rfl)) ?_
       refine dp (pv_neq rfl rfl) ?_
       refine dm ?_
       refine D_splitP 53 rfl (fun c7 => ?_) (fun c7 => ?_)
       ·
        iterate 4 refine dk ?_
        refine dk' ?_
        refine dk' ?_
        iterate 2 refine da ?_
        refine D_end (?_)
        refine ⟨(_, _, _, _), ⟨rfl, rfl, rfl, rfl, rfl, rfl, rfl, trivial⟩, hx, m1, m2, m3, hL, ?_⟩
        try dsimp only
        have q1 : decide ((subs.length : Int) = 0) = decide (subs.length = 0) := by rw [decide_eq_decide]; omega
        have q2 : decide ((l.length : Int) = 0) = decide (kids.length = 0) := by rw [decide_eq_decide]; omega
        have q3 : decide ((v.length : Int) ≤ 256) = decide (v.length ≤ 256) := by rw [decide_eq_decide]; omega
        have q4 : decide ((l.length : Int) = 1) = decide (kids.length = 1) := by rw [decide_eq_decide]; omega
        first
        | (rw [head_top c5, top_is]; simp only [q1, q2, q4]; first | (rw [decide_eq_true (show 1 ≤ kids.length by omega), decide_eq_true c7]; simp; done) | (rw [decide_eq_true (show 1 ≤ kids.length by omega), decide_eq_false c7, show decide (kids.length = 1) = decide (kids.length ≤ 1) from by rw [decide_eq_decide]; omega]; simp; done) | (rw [decide_eq_false (show ¬ 1 ≤ kids.length by omega)]; simp; done))
        | (unfold headM; rw [if_neg c5]; (first | rw [leaf356 c10] | rw [leaf4 c11] | rw [leaf7 c12]); simp only [q1, q2, q3]; ac_rfl)
       ·
        refine dp (pv_fieldA (k := 4) (by kernel_rfl) rfl) ?_
        refine D_l rfl (fun w' hR => lv_load (by kernel_rfl) rfl ((m1.ext hR).at rfl)) ?_
        refine dp (pv_lenV (e := 25) (k := 5) (by kernel_rfl) hk0.sl rfl) ?_
        refine dp (pv_eql rfl rfl) ?_
        refine dk' ?_
        refine dk' ?_
        iterate 2 refine da ?_
        refine D_end (?_)
        refine ⟨(_, _, _, _), ⟨rfl, rfl, rfl, rfl, rfl, rfl, rfl, trivial⟩, hx, m1, m2, m3, hL, ?_⟩
        try dsimp only
        have q1 : decide ((subs.length : Int) = 0) = decide (subs.length = 0) := by rw [decide_eq_decide]; omega
        have q2 : decide ((l.length : Int) = 0) = decide (kids.length = 0) := by rw [decide_eq_decide]; omega
        have q3 : decide ((v.length : Int) ≤ 256) = decide (v.length ≤ 256) := by rw [decide_eq_decide]; omega
        have q4 : decide ((l.length : Int) = 1) = decide (kids.length = 1) := by rw [decide_eq_decide]; omega
        first
        | (rw [head_top c5, top_is]; simp only [q1, q2, q4]; first | (rw [decide_eq_true (show 1 ≤ kids.length by omega), decide_eq_true c7]; simp; done) | (rw [decide_eq_true (show 1 ≤ kids.length by omega), decide_eq_false c7, show decide (kids.length = 1) = decide (kids.length ≤ 1) from by rw [decide_eq_decide]; omega]; simp; done) | (rw [decide_eq_false (show ¬ 1 ≤ kids.length by omega)]; simp; done))
        | (unfold headM; rw [if_neg c5]; (first | rw [leaf356 c10] | rw [leaf4 c11] | rw [leaf7 c12]); simp only [q1, q2, q3]; ac_rfl)
      ·
       have h6 : (l.length : Int) = 0 := of_decide_eq_true (by rw [Bool.not_eq_false'] at c6; exact c6)
       iterate 9 refine dk ?_
       refine dk' ?_
       iterate 2 refine da ?_
       refine D_end (?_)
       refine ⟨(_, _, _, _), ⟨rfl, rfl, rfl, rfl, rfl, rfl, rfl, trivial⟩, hx, m1, m2, m3, hL, ?_⟩
       try dsimp only
       have q1 : decide ((subs.length : Int) = 0) = decide (subs.length = 0) := by rw [decide_eq_decide]; omega
       have q2 : decide ((l.length : Int) = 0) = decide (kids.length = 0) := by rw [decide_eq_decide]; omega
       have q3 : decide ((v.length : Int) ≤ 256) = decide (v.length ≤ 256) := by rw [decide_eq_decide]; omega
       have q4 : decide ((l.length : Int) = 1) = decide (kids.length = 1) := by rw [decide_eq_decide]; omega
       first
       | (rw [head_top c5, top_is]; simp only [q1, q2, q4]; first | (rw [decide_eq_true (show 1 ≤ kids.length by omega), decide_eq_true c7]; simp; done) | (rw [decide_eq_true (show 1 ≤ kids.length by omega), decide_eq_false c7, show decide (kids.length = 1) = decide (kids.length ≤ 1) from by rw [decide_eq_decide]; omega]; simp; done) | (rw [decide_eq_false (show ¬ 1 ≤ kids.length by omega)]; simp; done))
       | (unfold headM; rw [if_neg c5]; (first | rw [leaf356 c10] | rw [leaf4 c11] | rw [leaf7 c12]); simp only [q1, q2, q3]; ac_rfl)
     ·
      rw [he, decide_eq_false_iff_not] at c5
      refine W_cut (G := Bool) (fun e2 => [(3, ptr b1 0), (4, ptr b2 0), (5, ptr b3 0), (6, .bool false), (7, B (typeS t)), (8, B (decide (v = []))), (9, B (decide ((subs.length : Int) = 0))), (10, B (decide ((l.length : Int) = 0))), (39, I k), (60, B e2)]) (fun e2 w' => Mod (oneB bl) w w' ∧ Blk w' b1 [I k, S t, S v, vs, vk] 25 ∧ Blk w' b2 [I n] 3 ∧ Blk w' b3 [ptr bl 0] 55 ∧ Blk w' bl [I (left - 1)] 3 ∧ e2 = decide (k = 3 ∨ k = 5 ∨ k = 6)) ?_ ?_
      ·
       refine W_seq fun K11 hK11 => ?_
       refine wr ?_
       refine dp (pv_eql rfl rfl) ?_
       refine da ?_
       refine D_end (hK11 _ _ ?_)
       refine W_if rfl (fun c8 => ?_) (fun c8 => ?_)
       ·
        refine W_skip ?_
        refine ⟨_, ⟨rfl, rfl, rfl, rfl, rfl, rfl, rfl, rfl, rfl, rfl, trivial⟩, hx, m1, m2, m3, hL, ?_⟩
        rw [decide_eq_decide]; omega
       ·
        refine W_seq fun K12 hK12 => ?_
        refine wr ?_
        refine dp (pv_eql rfl rfl) ?_
        refine da ?_
        refine D_end (hK12 _ _ ?_)
        refine W_if rfl (fun c9 => ?_) (fun c9 => ?_)
        ·
         refine W_skip ?_
         refine ⟨_, ⟨rfl, rfl, rfl, rfl, rfl, rfl, rfl, rfl, rfl, rfl, trivial⟩, hx, m1, m2, m3, hL, ?_⟩
         rw [decide_eq_decide]; omega
        ·
         refine wr ?_
         refine dp (pv_eql rfl rfl) ?_
         refine da ?_
         refine D_end (?_)
         refine ⟨_, ⟨rfl, rfl, rfl, rfl, rfl, rfl, rfl, rfl, rfl, rfl, trivial⟩, hx, m1, m2, m3, hL, ?_⟩
         rw [decide_eq_decide]; omega
      ·
       intro X9 g9 w9 hF9
       revert hF9; revert g9; intro e2 hF9
       clear hx m1 m2 m3 hL
       obtain ⟨hx, m1, m2, m3, hL, he2⟩ := hF9
       refine W_cond rfl (fun c10 => ?_) (fun c10 => ?_)
       ·
        rw [he2, decide_eq_true_eq] at c10
        refine wr ?_
        refine dp (pv_fieldA (k := 2) (by kernel_rfl) rfl) ?_
        refine dq (lv_load (by kernel_rfl) rfl (m1.at rfl)) ?_
        refine dp (pv_lenS (by kernel_rfl) rfl) ?_
        refine dp (pv_leq rfl rfl) ?_
        refine da ?_
        refine D_end (?_)
        refine ⟨(_, _, _, _), ⟨rfl, rfl, rfl, rfl, rfl, rfl, rfl, trivial⟩, hx, m1, m2, m3, hL, ?_⟩
        try dsimp only
        have q1 : decide ((subs.length : Int) = 0) = decide (subs.length = 0) := by rw [decide_eq_decide]; omega
        have q2 : decide ((l.length : Int) = 0) = decide (kids.length = 0) := by rw [decide_eq_decide]; omega
        have q3 : decide ((v.length : Int) ≤ 256) = decide (v.length ≤ 256) := by rw [decide_eq_decide]; omega
        have q4 : decide ((l.length : Int) = 1) = decide (kids.length = 1) := by rw [decide_eq_decide]; omega
        first
        | (rw [head_top c5, top_is]; simp only [q1, q2, q4]; first | (rw [decide_eq_true (show 1 ≤ kids.length by omega), decide_eq_true c7]; simp; done) | (rw [decide_eq_true (show 1 ≤ kids.length by omega), decide_eq_false c7, show decide (kids.length = 1) = decide (kids.length ≤ 1) from by rw [decide_eq_decide]; omega]; simp; done) | (rw [decide_eq_false (show ¬ 1 ≤ kids.length by omega)]; simp; done))
        | (unfold headM; rw [if_neg c5]; (first | rw [leaf356 c10] | rw [leaf4 c11] | rw [leaf7 c12]); simp only [q1, q2, q3]; ac_rfl)
       ·
        rw [he2, decide_eq_false_iff_not] at c10
        refine W_seq fun K13 hK13 => ?_
        refine wr ?_
        refine dp (pv_eql rfl rfl) ?_
        refine da ?_
        refine D_end (hK13 _ _ ?_)
        refine W_if rfl (fun c11 => ?_) (fun c11 => ?_)
        ·
         refine wr ?_
         refine dp (pv_fieldA (k := 3) (by kernel_rfl) rfl) ?_
         refine dq (lv_load (by kernel_rfl) rfl (m1.at rfl)) ?_
         refine D_callP rfl (by kernel_rfl) (are_w subs vs _ (hs.mod hx hsn) hsl) rfl RX.all (fun w10 x10 => ?_)
         replace m1 := m1.ext x10
         replace m2 := m2.ext x10
         replace m3 := m3.ext x10
         replace hL := hL.ext x10
         replace hx := hx.ext x10
         refine da ?_
         refine D_end (?_)
         refine ⟨(_, _, _, _), ⟨rfl, rfl, rfl, rfl, rfl, rfl, rfl, trivial⟩, hx, m1, m2, m3, hL, ?_⟩
         try dsimp only
         have q1 : decide ((subs.length : Int) = 0) = decide (subs.length = 0) := by rw [decide_eq_decide]; omega
         have q2 : decide ((l.length : Int) = 0) = decide (kids.length = 0) := by rw [decide_eq_decide]; omega
         have q3 : decide ((v.length : Int) ≤ 256) = decide (v.length ≤ 256) := by rw [decide_eq_decide]; omega
         have q4 : decide ((l.length : Int) = 1) = decide (kids.length = 1) := by rw [decide_eq_decide]; omega
         first
         | (rw [head_top c5, top_is]; simp only [q1, q2, q4]; first | (rw [decide_eq_true (show 1 ≤ kids.length by omega), decide_eq_true c7]; simp; done) | (rw [decide_eq_true (show 1 ≤ kids.length by omega), decide_eq_false c7, show decide (kids.length = 1) = decide (kids.length ≤ 1) from by rw [decide_eq_decide]; omega]; simp; done) | (rw [decide_eq_false (show ¬ 1 ≤ kids.length by omega)]; simp; done))
         | (unfold headM; rw [if_neg c5]; (first | rw [leaf356 c10] | rw [leaf4 c11] | rw [leaf7 c12]); simp only [q1, q2, q3]; ac_rfl)
        ·
         refine W_seq fun K14 hK14 => ?_
         refine wr ?_
         refine dp (pv_eql rfl rfl) ?_
         refine da ?_
         refine D_end (hK14 _ _ ?_)
         refine W_if rfl (fun c12 => ?_) (fun c12 => ?_)
         ·
          refine W_skip ?_
          refine ⟨(_, _, _, _), ⟨rfl, rfl, rfl, rfl, rfl, rfl, rfl, trivial⟩, hx, m1, m2, m3, hL, ?_⟩
          try dsimp only
          have q1 : decide ((subs.length : Int) = 0) = decide (subs.length = 0) := by rw [decide_eq_decide]; omega
          have q2 : decide ((l.length : Int) = 0) = decide (kids.length = 0) := by rw [decide_eq_decide]; omega
          have q3 : decide ((v.length : Int) ≤ 256) = decide (v.length ≤ 256) := by rw [decide_eq_decide]; omega
          have q4 : decide ((l.length : Int) = 1) = decide (kids.length = 1) := by rw [decide_eq_decide]; omega
          first
          | (rw [head_top c5, top_is]; simp only [q1, q2, q4]; first | (rw [decide_eq_true (show 1 ≤ kids.length by omega), decide_eq_true c7]; simp; done) | (rw [decide_eq_true (show 1 ≤ kids.length by omega), decide_eq_false c7, show decide (kids.length = 1) = decide (kids.length ≤ 1) from by rw [decide_eq_decide]; omega]; simp; done) | (rw [decide_eq_false (show ¬ 1 ≤ kids.length by omega)]; simp; done))
          | (unfold headM; rw [if_neg c5]; (first | rw [leaf356 c10] | rw [leaf4 c11] | rw [leaf7 c12]); simp only [q1, q2, q3]; ac_rfl)
         ·
          refine W_seq fun K15 hK15 => ?_
          refine wr ?_
          refine da ?_
          refine D_end (hK15 _ _ ?_)
          refine W_ret ?_
          try dsimp only [then', inBlk, noGo]
          refine ro ?_
          exact ⟨_, rfl, hx, false, left - 1, rfl, hL, may_no (.inl (one_head (by unfold headM; rw [if_neg c5, leaf_no c10 c11 c12]; simp))) (by omega) (by omega)⟩
   ·
    intro X11 g11 w11 hF11
    obtain ⟨a, b, e3, h⟩ := g11
    clear hx m1 m2 m3 hL
    obtain ⟨hx, m1, m2, m3, hL, hF⟩ := hF11
    refine W_seq fun K16 hK16 => ?_
    refine wr ?_
    iterate 2 refine dm ?_
    refine D_split 76 rfl (fun c13 => ?_) (fun c13 => ?_)
    ·
     refine dm ?_
     refine dk' ?_
     refine dm ?_
     refine D_split 79 rfl (fun c14 => ?_) (fun c14 => ?_)
     ·
      refine dm ?_
      refine dk' ?_
      refine dm ?_
      refine D_split 82 rfl (fun c15 => ?_) (fun c15 => ?_)
      ·
       refine dm ?_
       refine dk' ?_
       refine dm ?_
       refine D_split 85 rfl (fun c16 => ?_) (fun c16 => ?_)
       ·
        refine dp (pv_fieldA (k := 4) (by kernel_rfl) rfl) ?_
        refine dq (lv_load (by kernel_rfl) rfl (m1.at rfl)) ?_
        refine dp (pv_makeFunc rfl) ?_
        refine D_callD rfl (by kernel_rfl) (contK_w m kids l vk n (left - 1) bl b2 b3 D _ (hk0.mod hx hkn) hL m2 m3 hlk hll hkn (by omega) (by omega) hDb (by omega) (by omega) hn0 (by omega) (fun i c f hi hif w1 n1 l1 hm => ih i c f hi hif w1 n1 l1 (Far.trans _ _ _ (far_one hDb hx) hm))) rfl (.inl rfl) (fun u12 w12 x12 hf12 => ?_)
        have hsz12 := hx.size
        replace m1 := m1.mod x12 (by intro h; have h2 : _ = bl := h; omega)
        replace m2 := m2.mod x12 (by intro h; have h2 : _ = bl := h; omega)
        replace m3 := m3.mod x12 (by intro h; have h2 : _ = bl := h; omega)
        replace hx := hx.own x12 (fun i hi _ => hi)
        obtain ⟨x, b9, rfl, hL, hm⟩ := hf12
        refine dn ?_
        refine dk' ?_
        refine da ?_
        refine D_end (hK16 _ _ ?_)
        refine W_ret ?_
        try dsimp only [then', inBlk, noGo]
        refine ro ?_
        exact ⟨_, rfl, hx, b9, x, by simp, hL, may_kids c2 (by rw [← hF]; simp [*]) hm⟩
       ·
        iterate 5 refine dk ?_
        refine dk' ?_
        refine da ?_
        refine D_end (hK16 _ _ ?_)
        refine W_ret ?_
        try dsimp only [then', inBlk, noGo]
        refine ro ?_
        exact ⟨_, rfl, hx, false, left - 1, rfl, hL, may_no (.inl (one_head (by rw [← hF]; simp [*]))) (by omega) (by omega)⟩
      ·
       refine dk ?_
       refine dk' ?_
       refine dm ?_
       iterate 5 refine dk ?_
       refine dk' ?_
       refine da ?_
       refine D_end (hK16 _ _ ?_)
       refine W_ret ?_
       try dsimp only [then', inBlk, noGo]
       refine ro ?_
       exact ⟨_, rfl, hx, false, left - 1, rfl, hL, may_no (.inl (one_head (by rw [← hF]; simp [*]))) (by omega) (by omega)⟩
     ·
      refine dk ?_
      refine dk' ?_
      refine dm ?_
      refine dk ?_
      refine dk' ?_
      refine dm ?_
      iterate 5 refine dk ?_
      refine dk' ?_
      refine da ?_
      refine D_end (hK16 _ _ ?_)
      refine W_ret ?_
      try dsimp only [then', inBlk, noGo]
      refine ro ?_
      exact ⟨_, rfl, hx, false, left - 1, rfl, hL, may_no (.inl (one_head (by rw [← hF]; simp [*]))) (by omega) (by omega)⟩
    ·
     refine dk ?_
     refine dk' ?_
     refine dm ?_
     refine dk ?_
     refine dk' ?_
     refine dm ?_
     refine dk ?_
     refine dk' ?_
     refine dm ?_
     iterate 5 refine dk ?_
     refine dk' ?_
     refine da ?_
     refine D_end (hK16 _ _ ?_)
     refine W_ret ?_
     try dsimp only [then', inBlk, noGo]
     refine ro ?_
     exact ⟨_, rfl, hx, false, left - 1, rfl, hL, may_no (.inl (one_head (by rw [← hF]; simp [*]))) (by omega) (by omega)⟩

theorem may_all : ∀ (m : Nat) (c : FilV) (f : Flt) (w0 : World) (bl : Nat), FRep w0 m c f → w0.heap.size ≤ bl → ∀ (w1 : World) (n1 left1 : Int), Vc.Mod (geB w0.heap.size) w0 w1 → Blk w1 bl [I left1] 3 → 0 ≤ left1 → left1 ≤ 1000 → -1 ≤ n1 → n1 ≤ 20 → Calls Tryz.prog 32 [.agg ⟨c.cs⟩, I n1, ptr bl 0].toArray w1 (MayP bl w1 m n1 left1 f)
  | 0, _, _, _, _, h, _, _, _, _, _, _, _, _, _, _ => h.elim
  | m + 1, c, .mk k t v subs kids, w0, bl, h, hb, w1, n1, left1, hx, hL, h0, h1, h2, h3 => by
    obtain ⟨e1, e2, e3, hs0, hsl, l, hk0, hl, hll, hkids0⟩ := h
    obtain ⟨ck, ct, cv, cs, cc⟩ := c
    subst e1 e2 e3
    exact may_w m k t v subs kids l cs cc w1 (hs0.far (by decide) hx) (hk0.far (by decide) hx) hl hsl hll n1 left1 bl w0.heap.size hL
      (fun hne e => by have e2 : (base cs).1 = bl := e; have h9 : (base cs).1 < w0.heap.size := Arr.base_lt hs0 (by decide) hne; omega) (fun hne e => by have e2 : (base cc).1 = bl := e; have h9 : (base cc).1 < w0.heap.size := Arr.base_lt hk0 (by decide) hne; omega) hb h0 h1 h2 h3
      (fun i c f hi hf w2 n2 l2 hx2 hL2 g0 g1 g2 g3 => may_all m c f w0 bl (hkids0 i c f hi hf) hb w2 n2 l2 (Far.trans _ _ _ hx hx2) hL2 g0 g1 g2 g3)

set_option maxRecDepth 100000 in
set_option maxHeartbeats 1000000 in
theorem fis_w (m : Nat) (c : FilV) (f : Flt) (w : World) (hf : FRep w m c f) :
  Calls Tryz.prog 15 [.agg ⟨c.cs⟩].toArray w (Pure w (B (isF m f))) := by
 refine calls_W Tryz.func15 rfl rfl rfl (by kernel_rfl) ?_
 have hx := Ext.refl w
 refine W_seq fun K1 hK1 => ?_
 refine wr ?_
 refine D_box rfl rfl rfl RX.all (fun b1 w1 e1 x1 m1 => ?_)
 have g1 : w.heap.size ≤ b1 := by have := hx.size; omega
 replace hx := hx.trans x1
 refine da ?_
 refine D_end (hK1 _ _ ?_)
 refine W_seq fun K2 hK2 => ?_
 refine wr ?_
 refine D_alloc (cs := [.int .i64 0]) rfl (by kernel_rfl) RX.all (fun b2 w2 e2 x2 m2 => ?_)
 have g2 : w.heap.size ≤ b2 := by have := hx.size; omega
 have n2_1 : b1 < b2 := by have := m1.lt; omega
 replace m1 := m1.ext x2
 replace hx := hx.trans x2
 refine D_store1 (v := ?v2) rfl rfl ?h2 ?n2 (by kernel_rfl) m2 ?o2 (.inl rfl) (fun w3 x3 xs3 m2 => ?k2)
 case h2 => conv => lhs; whnf
 case n2 => first | rfl | exact isSl.one m1.sl
 case o2 => exact Nat.le_of_ble_eq_true rfl
 try dsimp only [setAt, List.set, List.take, List.drop] at m2
 try replace m1 := m1.mod x3 (by first | assumption | (intro k hk h; have h1 := (m1.lt k hk).1; have h2 : k = b2 := h; omega) | (intro k hk h; have h1 := o2_m1 k hk; have h2 : k = b2 := h; omega) | (intro h; have h2 : _ = b2 := h; omega) | (intro hl h; have h1 := a2_m1 hl; have h2 : _ = b2 := h; omega))
 replace hx := hx.own x3 (by intro i hi; have hi2 : i = b2 := hi; subst hi2; omega)
 refine D_end (hK2 _ _ ?_)
 refine W_seq fun K3 hK3 => ?_
 refine wr ?_
 refine dq (lv_loadA (k := 5) (by kernel_rfl) rfl rfl m1.row) ?_
 refine D_callD rfl (by kernel_rfl) (may_all m c f w b2 hf (by omega) _ 0 64 (hx.mono (fun i hi _ => by first | exact hi.elim | (have hi2 : i = b2 := hi; unfold geB; omega))) m2 (by omega) (by omega) (by omega) (by omega)) rfl (.inl rfl) (fun u4 w4 x4 hf4 => ?_)
 have hsz4 := hx.size
 replace m1 := m1.mod x4 (by intro h; have h2 : _ = b2 := h; omega)
 replace hx := hx.own x4 (fun i hi => (by have hi2 : i = b2 := hi; subst hi2; omega))
 obtain ⟨b, x, rfl, _, hm⟩ := hf4
 refine da ?_
 refine D_end (hK3 _ _ ?_)
 refine W_ret ?_
 try dsimp only [then', inBlk, noGo]
 refine ro ?_
 refine ⟨?_, hx⟩
 rw [hm.1]
 unfold isF
 congr 3
 rw [decide_eq_decide]; omega

end Go.Proofs.YtdagdhjheibgnaaGreatDoor
