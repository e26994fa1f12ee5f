/-
  Walks.
-/
import Derived.Test.YtdagdhjheibgnaaGreatDoorChecked
import Derived.Test.YtdagdhjheibgnaaGreatDoorSpMem
import Derived.KernelRfl
import Derived.Test.YtdagdhjheibgnaaGreatDoorFlC
namespace Go.Proofs.YtdagdhjheibgnaaGreatDoor
open Go.Vc Go.Sp
attribute [local irreducible] W XW Dw DwT
set_option linter.unusedVariables false
set_option linter.unusedSimpArgs false

section
variable {m : Nat} {d k : Int} {f g h : Flt} {at' : List AttrV}
theorem nodes_one : nodesF (m + 1) (.mk k [] [] [] [f]) = 1 + nodesF m f := by
  show 1 + ([f].map (nodesF m)).sum = _
  simp
theorem head_one (n : Nat) (hk : k = 0 ∨ k = 1 ∨ k = 2) (h1 : 1 ≤ n) (h2 : k = 2 → n ≤ 1) : headM k [] [] [] n = true := by
  rw [head_top hk]; unfold topM
  by_cases e : k = 2
  · rw [decide_eq_true h1, decide_eq_true (h2 e)]; simp
  · rw [decide_eq_true h1, decide_eq_true (show k ≠ 2 from e)]; simp
theorem one_one (hk : k = 0 ∨ k = 1 ∨ k = 2) : oneF (m + 1) d (.mk k [] [] [] [f]) = (!decide (16 < d) && oneF m (d + 1) f) := by
  show (!decide (16 < d) && (headM k [] [] [] 1 && [f].all (oneF m (d + 1)))) = _
  rw [head_one 1 hk (by omega) (fun _ => by omega)]; simp
theorem ok_one {b : Nat} (h : okF b m f) : okF b (m + 1) (.mk k [] [] [] [f]) := okF_mk (by simp) (by simp) (by simp) (fun x hx => by rw [List.mem_singleton.1 hx]; exact h)
theorem rep_one {w : World} {c : FilV} {vk : Value} (h : FRep w m c f) (ha : Arr FilV.cs 5 w vk [c]) : FRep w (m + 1) ⟨I k, S [], S [], .slice none 0 0, vk⟩ (.mk k [] [] [] [f]) :=
  ⟨rfl, rfl, rfl, Arr.nil, by simp, [c], ha, rfl, by simp, fun i x y h1 h2 => by
    cases i with
    | zero => simp only [List.getElem?_cons_zero, Option.some.injEq] at h1 h2; subst h1; subst h2; exact h
    | succ i => simp at h1⟩
theorem rep_three {w : World} {a b c : FilV} {vk : Value} (h1 : FRep w m a f) (h2 : FRep w m b g) (h3 : FRep w m c h) (ha : Arr FilV.cs 5 w vk [a, b, c]) : FRep w (m + 1) ⟨I k, S [], S [], .slice none 0 0, vk⟩ (.mk k [] [] [] [f, g, h]) :=
  ⟨rfl, rfl, rfl, Arr.nil, by simp, [a, b, c], ha, rfl, by simp, fun i x y q1 q2 => by
    match i with
    | 0 => simp only [List.getElem?_cons_zero, Option.some.injEq] at q1 q2; subst q1; subst q2; exact h1
    | 1 => simp only [List.getElem?_cons_zero, List.getElem?_cons_succ, Option.some.injEq] at q1 q2; subst q1; subst q2; exact h2
    | 2 => simp only [List.getElem?_cons_zero, List.getElem?_cons_succ, Option.some.injEq] at q1 q2; subst q1; subst q2; exact h3
    | i + 3 => simp at q1⟩
theorem ok_three {b : Nat} (h1 : okF b m f) (h2 : okF b m g) (h3 : okF b m h) : okF b (m + 1) (.mk k [] [] [] [f, g, h]) := okF_mk (by simp) (by simp) (by simp) (fun x hx => by
  simp only [List.mem_cons, List.not_mem_nil, or_false] at hx
  rcases hx with rfl | rfl | rfl
  · exact h1
  · exact h2
  · exact h3)
theorem nodes_three : nodesF (m + 1) (.mk k [] [] [] [f, g, h]) = 1 + (nodesF m f + (nodesF m g + nodesF m h)) := by
  show 1 + ([f, g, h].map (nodesF m)).sum = _
  simp
theorem is_parts (h : isF m f = true) : oneF m 1 f = true ∧ nodesF m f ≤ 64 := by
  unfold isF at h
  rw [Bool.and_eq_true, decide_eq_true_eq] at h
  exact h
theorem is_all (hk : k = 0 ∨ k = 1 ∨ k = 2) (h : isF (m + 1 + 1) (.mk 2 [] [] [] [.mk 2 [] [] [] [f]]) = true) : isF (m + 1) (.mk k [] [] [] [f]) = true := by
  obtain ⟨h1, h2⟩ := is_parts h
  rw [one_one (.inr (.inr rfl)), one_one (.inr (.inr rfl))] at h1
  rw [nodes_one, nodes_one] at h2
  simp only [Bool.and_eq_true] at h1
  unfold isF
  rw [one_one hk, oneF_less h1.2.2 (show (1 : Int) + 1 ≤ 1 + 1 + 1 by omega), nodes_one, decide_eq_true (show 1 + nodesF m f ≤ 64 by omega), decide_eq_false (show ¬ (16 : Int) < 1 by omega)]; rfl
theorem eval_one : evalF at' (m + 1) (.mk k [] [] [] [f]) = sayM k [evalF at' m f] := eval_kids (by simp)
theorem ev_is (h : isF m f = true) : evF at' m f = evalF at' m f := by unfold evF; rw [if_pos h]
theorem ev_in : evF at' m f = 0 ∨ evF at' m f = 1 ∨ evF at' m f = 2 := by
  unfold evF; split
  · exact evalF_in at' m f
  · simp
theorem twice_eval (h1 : isF m f = true) (h : isF (m + 1 + 1) (.mk 2 [] [] [] [.mk 2 [] [] [] [f]]) = true) : evF at' (m + 1 + 1) (.mk 2 [] [] [] [.mk 2 [] [] [] [f]]) = evF at' m f := by
  rw [ev_is h, ev_is h1, eval_one, eval_one]
  exact notV_two (evalF_in at' m f)
theorem all_eval (h1 : isF m f = true) (h : isF (m + 1 + 1) (.mk 2 [] [] [] [.mk 2 [] [] [] [f]]) = true) : evF at' (m + 1) (.mk 0 [] [] [] [f]) = evF at' m f := by
  rw [ev_is (is_all (.inl rfl) h), ev_is h1, eval_one]
  exact andV_one (evalF_in at' m f)
theorem any_eval (h1 : isF m f = true) (h : isF (m + 1 + 1) (.mk 2 [] [] [] [.mk 2 [] [] [] [f]]) = true) : evF at' (m + 1) (.mk 1 [] [] [] [f]) = evF at' m f := by
  rw [ev_is (is_all (.inr (.inl rfl)) h), ev_is h1, eval_one]
  exact orV_one (evalF_in at' m f)
theorem one_turn (hk : k = 0 ∨ k = 1) : oneF (m + 1) d (.mk k [] [] [] [f, g, h]) = oneF (m + 1) d (.mk k [] [] [] [h, f, g]) := by
  show (!decide (16 < d) && (headM k [] [] [] 3 && [f, g, h].all (oneF m (d + 1)))) = (!decide (16 < d) && (headM k [] [] [] 3 && [h, f, g].all (oneF m (d + 1))))
  congr 2
  simp only [List.all_cons, List.all_nil, Bool.and_true]
  cases oneF m (d + 1) f <;> cases oneF m (d + 1) g <;> cases oneF m (d + 1) h <;> rfl
theorem is_turn (hk : k = 0 ∨ k = 1) : isF (m + 1) (.mk k [] [] [] [f, g, h]) = isF (m + 1) (.mk k [] [] [] [h, f, g]) := by
  unfold isF
  rw [one_turn hk, nodes_three, nodes_three, show nodesF m f + (nodesF m g + nodesF m h) = nodesF m h + (nodesF m f + nodesF m g) by omega]
theorem say_turn (hk : k = 0 ∨ k = 1) {x y z : Int} (hx : x = 0 ∨ x = 1 ∨ x = 2) (hy : y = 0 ∨ y = 1 ∨ y = 2) (hz : z = 0 ∨ z = 1 ∨ z = 2) : sayM k [x, y, z] = sayM k [z, x, y] := by
  rcases hk with rfl | rfl <;> rcases hx with rfl | rfl | rfl <;> rcases hy with rfl | rfl | rfl <;> rcases hz with rfl | rfl | rfl <;> decide
theorem ev_turn (hk : k = 0 ∨ k = 1) : evF at' (m + 1) (.mk k [] [] [] [f, g, h]) = evF at' (m + 1) (.mk k [] [] [] [h, f, g]) := by
  unfold evF
  rw [is_turn hk]
  split
  · rw [eval_kids (by simp), eval_kids (by simp)]
    exact say_turn hk (evalF_in at' m f) (evalF_in at' m g) (evalF_in at' m h)
  · rfl
end

set_option maxRecDepth 100000 in
set_option maxHeartbeats 1000000 in
theorem law_filters (m : Nat) (c : FilV) (f : Flt) (l : List AttrV) (vd va : Value) (w : World) (hf : FRep w m c f) (hok : okF 140737488355328 m f) (hg : GV w) (ha : Arr AttrV.cs 2 w va l) (hvs : ValsAt w l) (hW : wAttrs (l.map AttrV.toA) ≤ 1048576) :
  Calls Tryz.prog 3 [.agg ⟨c.cs⟩, .agg ⟨[vd, va]⟩].toArray w (Pure w (B true)) := by
 refine calls_W Tryz.func3 rfl rfl rfl (by kernel_rfl) ?_
 have hx := Ext.refl w
 refine W_seq fun K1 hK1 => ?_
 refine wr ?_
 refine D_box rfl rfl rfl RX.all (fun b1 w1 e1 x1 m1 => ?_)
 have g1 : w.heap.size ≤ b1 := by have := hx.size; omega
 replace hx := hx.trans x1
 refine D_box rfl rfl rfl RX.all (fun b2 w2 e2 x2 m2 => ?_)
 have g2 : w.heap.size ≤ b2 := by have := hx.size; omega
 have n2_1 : b1 < b2 := by have := m1.lt; omega
 replace m1 := m1.ext x2
 replace hx := hx.trans x2
 refine da ?_
 refine D_end (hK1 _ _ ?_)
 refine W_seq fun K2 hK2 => ?_
 refine W_seq fun K3 hK3 => ?_
 refine wr ?_
 refine dq (lv_loadA (k := 5) (by kernel_rfl) rfl rfl m1.row) ?_
 refine D_callG rfl (by kernel_rfl) (heavy_all m c f w hf hok _ 600 hx (by omega) (by omega)) rfl RX.all (fun u3 w3 x3 hh3 => ?_)
 have hsz3 := hx.size
 replace m1 := m1.ext x3
 replace m2 := m2.ext x3
 replace hx := hx.trans x3
 obtain ⟨r, rfl, hr1, hr2, hr3⟩ := hh3
 refine dp (pv_lss rfl rfl) ?_
 refine dm ?_
 refine D_splitP 8 rfl (fun c1 => ?_) (fun c1 => ?_)
 ·
  iterate 2 refine dk ?_
  refine dk' ?_
  refine D_end (hK3 _ _ ?_)
  refine W_t rfl ?_
  refine W_seq fun K4 hK4 => ?_
  refine wr ?_
  refine da ?_
  refine D_end (hK4 _ _ ?_)
  refine W_ret ?_
  try dsimp only [then', inBlk, noGo]
  refine ro ?_
  exact ⟨rfl, hx⟩
 ·
  refine dq (lv_loadA (k := 2) (by kernel_rfl) rfl rfl m2.row) ?_
  refine D_callP rfl (by kernel_rfl) (great17_w l vd va _ (ha.ext hx) (hvs.ext hx) (by omega)) rfl RX.all (fun w4 x4 => ?_)
  replace m1 := m1.ext x4
  replace m2 := m2.ext x4
  replace hx := hx.trans x4
  refine dk' ?_
  refine D_end (hK3 _ _ ?_)
  refine W_if rfl (fun c2 => ?_) (fun c2 => ?_)
  ·
   refine W_seq fun K5 hK5 => ?_
   refine wr ?_
   refine da ?_
   refine D_end (hK5 _ _ ?_)
   refine W_ret ?_
   try dsimp only [then', inBlk, noGo]
   refine ro ?_
   exact ⟨rfl, hx⟩
  ·
   obtain ⟨hr4, hsm⟩ := hr3 (by omega)
   have hN : nodesF m f ≤ 1000 := by omega
   have hW2 : wAttrs (l.map AttrV.toA) ≤ 2000 := by omega
   refine W_skip ?_
   refine hK2 _ _ ?_
   refine W_seq fun K6 hK6 => ?_
   refine W_draw (R := Ext) Ext.refl (fun _ _ _ => Ext.trans) (by kernel_rfl) [0, 1, 3, 4] [(0, .l, false), (1, .l, false), (3, .l, false), (4, .l, false), (2, .x, false), (5, .x, false), (6, .p, false), (7, .p, false), (8, .x, false), (9, .p, false), (10, .p, false)] rfl (by kernel_rfl) (by kernel_rfl) (fun w5 ew5 => ?_)
   have x5 : Ext w4 w5 := by rw [ew5]; exact Ext.drew _
   clear ew5
   replace m1 := m1.ext x5
   replace m2 := m2.ext x5
   replace hx := hx.trans x5
   refine D_l rfl (fun w' hR => lv_loadA (k := 5) (by kernel_rfl) rfl rfl (m1.ext hR).row) ?_
   refine D_l rfl (fun w' hR => lv_loadA (k := 2) (by kernel_rfl) rfl rfl (m2.ext hR).row) ?_
   refine D_l rfl (fun w' hR => lv_loadA (k := 5) (by kernel_rfl) rfl rfl (m1.ext hR).row) ?_
   refine D_l rfl (fun w' hR => lv_loadA (k := 2) (by kernel_rfl) rfl rfl (m2.ext hR).row) ?_
   refine D_callP rfl (by kernel_rfl) (peval_w m c f l vd va _ (hf.ext hx) hsm hN (ha.ext hx) (hvs.ext hx) (hg.ext hx) hW2) rfl RX.ext (fun w6 x6 => ?_)
   replace m1 := m1.ext x6
   replace m2 := m2.ext x6
   replace hx := hx.trans x6
   refine D_callP rfl (by kernel_rfl) (reval2_w m c f l vd va _ (hf.ext hx) hsm hN (ha.ext hx) (hvs.ext hx) (hg.ext hx) hW2) rfl RX.ext (fun w7 x7 => ?_)
   replace m1 := m1.ext x7
   replace m2 := m2.ext x7
   replace hx := hx.trans x7
   refine dp (pv_eql rfl rfl) ?_
   refine dm ?_
   refine D_splitP 19 rfl (fun c3 => ?_) (fun c3 => ?_)
   ·
    refine D_callP rfl (by kernel_rfl) (known17_w _) rfl RX.ext (fun w8 x8 => ?_)
    replace m1 := m1.ext x8
    replace m2 := m2.ext x8
    replace hx := hx.trans x8
    refine dk' ?_
    refine da ?_
    refine D_end (hK6 _ _ ?_)
    refine W_ret ?_
    try dsimp only [then', inBlk, noGo]
    refine ro ?_
    exact ⟨rfl, hx⟩
   ·
    exact absurd rfl c3

set_option maxRecDepth 100000 in
set_option maxHeartbeats 1000000 in
theorem law_twice (m : Nat) (c : FilV) (f : Flt) (l : List AttrV) (vd va : Value) (w : World) (hf : FRep w m c f) (hok : okF 140737488355328 m f) (hg : GV w) (ha : Arr AttrV.cs 2 w va l) (hvs : ValsAt w l) (hW : wAttrs (l.map AttrV.toA) ≤ 1048576) :
  Calls Tryz.prog 5 [.agg ⟨c.cs⟩, .agg ⟨[vd, va]⟩].toArray w (Pure w (B true)) := by
 refine calls_W Tryz.func5 rfl rfl rfl (by kernel_rfl) ?_
 have hx := Ext.refl w
 refine W_seq fun K1 hK1 => ?_
 refine wr ?_
 refine D_box rfl rfl rfl RX.all (fun b1 w1 e1 x1 m1 => ?_)
 have g1 : w.heap.size ≤ b1 := by have := hx.size; omega
 replace hx := hx.trans x1
 refine D_box rfl rfl rfl RX.all (fun b2 w2 e2 x2 m2 => ?_)
 have g2 : w.heap.size ≤ b2 := by have := hx.size; omega
 have n2_1 : b1 < b2 := by have := m1.lt; omega
 replace m1 := m1.ext x2
 replace hx := hx.trans x2
 refine da ?_
 refine D_end (hK1 _ _ ?_)
 refine W_seq fun K2 hK2 => ?_
 refine W_seq fun K3 hK3 => ?_
 refine wr ?_
 refine dq (lv_loadA (k := 5) (by kernel_rfl) rfl rfl m1.row) ?_
 refine D_callG rfl (by kernel_rfl) (heavy_all m c f w hf hok _ 400 hx (by omega) (by omega)) rfl RX.all (fun u3 w3 x3 hh3 => ?_)
 have hsz3 := hx.size
 replace m1 := m1.ext x3
 replace m2 := m2.ext x3
 replace hx := hx.trans x3
 obtain ⟨r, rfl, hr1, hr2, hr3⟩ := hh3
 refine dp (pv_lss rfl rfl) ?_
 refine dm ?_
 refine D_splitP 12 rfl (fun c1 => ?_) (fun c1 => ?_)
 ·
  iterate 2 refine dk ?_
  refine dk' ?_
  refine dm ?_
  iterate 3 refine dk ?_
  refine dk' ?_
  refine D_end (hK3 _ _ ?_)
  refine W_t rfl ?_
  refine W_seq fun K4 hK4 => ?_
  refine wr ?_
  refine da ?_
  refine D_end (hK4 _ _ ?_)
  refine W_ret ?_
  try dsimp only [then', inBlk, noGo]
  refine ro ?_
  exact ⟨rfl, hx⟩
 ·
  refine dq (lv_loadA (k := 2) (by kernel_rfl) rfl rfl m2.row) ?_
  refine D_callP rfl (by kernel_rfl) (great17_w l vd va _ (ha.ext hx) (hvs.ext hx) (by omega)) rfl RX.all (fun w4 x4 => ?_)
  replace m1 := m1.ext x4
  replace m2 := m2.ext x4
  replace hx := hx.trans x4
  refine dk' ?_
  refine dm ?_
  refine D_splitP 16 rfl (fun c2 => ?_) (fun c2 => ?_)
  ·
   iterate 3 refine dk ?_
   refine dk' ?_
   refine D_end (hK3 _ _ ?_)
   refine W_t rfl ?_
   refine W_seq fun K5 hK5 => ?_
   refine wr ?_
   refine da ?_
   refine D_end (hK5 _ _ ?_)
   refine W_ret ?_
   try dsimp only [then', inBlk, noGo]
   refine ro ?_
   exact ⟨rfl, hx⟩
  ·
   obtain ⟨hr4, hsm⟩ := hr3 (by omega)
   have hN : nodesF m f ≤ 1000 := by omega
   have hW2 : wAttrs (l.map AttrV.toA) ≤ 2000 := by omega
   refine dq (lv_loadA (k := 5) (by kernel_rfl) rfl rfl m1.row) ?_
   refine D_callP rfl (by kernel_rfl) (ris_w m c f _ (hf.ext hx) hN) rfl RX.all (fun w5 x5 => ?_)
   replace m1 := m1.ext x5
   replace m2 := m2.ext x5
   replace hx := hx.trans x5
   refine dn ?_
   refine dk' ?_
   refine D_end (hK3 _ _ ?_)
   refine W_cond rfl (fun c3 => ?_) (fun c3 => ?_)
   ·
    refine W_seq fun K6 hK6 => ?_
    refine wr ?_
    refine da ?_
    refine D_end (hK6 _ _ ?_)
    refine W_ret ?_
    try dsimp only [then', inBlk, noGo]
    refine ro ?_
    exact ⟨rfl, hx⟩
   ·
    have his : isF m f = true := by simpa using c3
    refine W_skip ?_
    refine hK2 _ _ ?_
    refine W_seq fun K7 hK7 => ?_
    refine wr ?_
    refine dq (lv_loadA (k := 5) (by kernel_rfl) rfl rfl m1.row) ?_
    refine D_lit (e := 25) (sz := 5) (zs := [.int .i64 0, S [], S [], .slice none 0 0, .slice none 0 0]) (pv := [(0, .agg ⟨[?a17_0, ?a17_1, ?a17_2, ?a17_3, ?a17_4]⟩)]) (cs := [?a17_0, ?a17_1, ?a17_2, ?a17_3, ?a17_4]) rfl (by kernel_rfl) ⟨rfl, rfl⟩ (by kernel_rfl) rfl ?h17 ?f17 RX.all (fun b3 w6 e3 x6 m3 => ?k17)
    case h17 => refine ⟨rfl, ?_, trivial⟩ <;> (conv => lhs; whnf)
    case f17 => rfl
    have g3 : w.heap.size ≤ b3 := by have := hx.size; omega
    have n3_1 : b1 < b3 := by have := m1.lt; omega
    have n3_2 : b2 < b3 := by have := m2.lt; omega
    replace m1 := m1.ext x6
    replace m2 := m2.ext x6
    replace hx := hx.trans x6
    refine dp (pv_build (zs := [.int .i64 0, S [], S [], .slice none 0 0, .slice none 0 0]) (pl := [(0, 1), (1, 1), (2, 1), (3, 1), (4, 1)]) (pv := [(0, ?a18_0), (4, ?a18_1)]) (cs := [?a18_0, S [], S [], .slice none 0 0, ?a18_1]) (by kernel_rfl) (by kernel_rfl) ?h18 ?f18) ?k18
    case h18 => refine ⟨rfl, ?_, rfl, ?_, trivial⟩ <;> (conv => lhs; whnf)
    case f18 => rfl
    refine D_lit (e := 25) (sz := 5) (zs := [.int .i64 0, S [], S [], .slice none 0 0, .slice none 0 0]) (pv := [(0, .agg ⟨[?a19_0, ?a19_1, ?a19_2, ?a19_3, ?a19_4]⟩)]) (cs := [?a19_0, ?a19_1, ?a19_2, ?a19_3, ?a19_4]) rfl (by kernel_rfl) ⟨rfl, rfl⟩ (by kernel_rfl) rfl ?h19 ?f19 RX.all (fun b4 w7 e4 x7 m4 => ?k19)
    case h19 => refine ⟨rfl, ?_, trivial⟩ <;> (conv => lhs; whnf)
    case f19 => rfl
    have g4 : w.heap.size ≤ b4 := by have := hx.size; omega
    have n4_1 : b1 < b4 := by have := m1.lt; omega
    have n4_2 : b2 < b4 := by have := m2.lt; omega
    have n4_3 : b3 < b4 := by have := m3.lt; omega
    replace m1 := m1.ext x7
    replace m2 := m2.ext x7
    replace m3 := m3.ext x7
    replace hx := hx.trans x7
    refine dp (pv_build (zs := [.int .i64 0, S [], S [], .slice none 0 0, .slice none 0 0]) (pl := [(0, 1), (1, 1), (2, 1), (3, 1), (4, 1)]) (pv := [(0, ?a20_0), (4, ?a20_1)]) (cs := [?a20_0, S [], S [], .slice none 0 0, ?a20_1]) (by kernel_rfl) (by kernel_rfl) ?h20 ?f20) ?k20
    case h20 => refine ⟨rfl, ?_, rfl, ?_, trivial⟩ <;> (conv => lhs; whnf)
    case f20 => rfl
    refine D_alloc (cs := [.int .i64 0, S [], S [], .slice none 0 0, .slice none 0 0]) rfl (by kernel_rfl) RX.all (fun b5 w8 e5 x8 m5 => ?_)
    have g5 : w.heap.size ≤ b5 := by have := hx.size; omega
    have n5_1 : b1 < b5 := by have := m1.lt; omega
    have n5_2 : b2 < b5 := by have := m2.lt; omega
    have n5_3 : b3 < b5 := by have := m3.lt; omega
    have n5_4 : b4 < b5 := by have := m4.lt; omega
    replace m1 := m1.ext x8
    replace m2 := m2.ext x8
    replace m3 := m3.ext x8
    replace m4 := m4.ext x8
    replace hx := hx.trans x8
    refine D_store (v := ?v21) (vs := ?u21) rfl rfl ?h21 ?c21 ?s21 m5 ?o21 ?n21 (.inl rfl) (fun w9 x9 xs9 m5 => ?k21)
    case h21 => conv => lhs; whnf
    case c21 => exact rfl
    case s21 => kernel_rfl
    case o21 => exact Nat.le_of_ble_eq_true rfl
    case n21 => simp [Value.oneCell']
    try dsimp only [setAt, List.set, List.take, List.drop, FilV.cs] at m5
    try replace m1 := m1.mod x9 (by first | assumption | (intro k hk h; have h1 := (m1.lt k hk).1; have h2 : k = b5 := h; omega) | (intro k hk h; have h1 := o5_m1 k hk; have h2 : k = b5 := h; omega) | (intro h; have h2 : _ = b5 := h; omega) | (intro hl h; have h1 := a5_m1 hl; have h2 : _ = b5 := h; omega))
    try replace m2 := m2.mod x9 (by first | assumption | (intro k hk h; have h1 := (m2.lt k hk).1; have h2 : k = b5 := h; omega) | (intro k hk h; have h1 := o5_m2 k hk; have h2 : k = b5 := h; omega) | (intro h; have h2 : _ = b5 := h; omega) | (intro hl h; have h1 := a5_m2 hl; have h2 : _ = b5 := h; omega))
    try replace m3 := m3.mod x9 (by first | assumption | (intro k hk h; have h1 := (m3.lt k hk).1; have h2 : k = b5 := h; omega) | (intro k hk h; have h1 := o5_m3 k hk; have h2 : k = b5 := h; omega) | (intro h; have h2 : _ = b5 := h; omega) | (intro hl h; have h1 := a5_m3 hl; have h2 : _ = b5 := h; omega))
    try replace m4 := m4.mod x9 (by first | assumption | (intro k hk h; have h1 := (m4.lt k hk).1; have h2 : k = b5 := h; omega) | (intro k hk h; have h1 := o5_m4 k hk; have h2 : k = b5 := h; omega) | (intro h; have h2 : _ = b5 := h; omega) | (intro hl h; have h1 := a5_m4 hl; have h2 : _ = b5 := h; omega))
    replace hx := hx.own x9 (by intro i hi; have hi2 : i = b5 := hi; subst hi2; omega)
    refine D_end (hK7 _ _ ?_)
    refine W_seq fun K8 hK8 => ?_
    refine W_seq fun K9 hK9 => ?_
    refine wr ?_
    refine dq (lv_loadA (k := 5) (by kernel_rfl) rfl rfl m5.row) ?_
    refine D_callP rfl (by kernel_rfl) (ris_w (m + 1 + 1) ⟨I 2, S [], S [], .slice none 0 0, .slice (some ⟨b4, 0, none⟩) 1 1⟩ (.mk 2 [] [] [] [.mk 2 [] [] [] [f]]) _ (rep_one (rep_one (hf.ext hx) (m3.arr (enc := FilV.cs) (sz := 5) (l := [c]) rfl (by intro x; rfl) rfl (by simp))) (m4.arr (enc := FilV.cs) (sz := 5) (l := [⟨I 2, S [], S [], .slice none 0 0, .slice (some ⟨b3, 0, none⟩) 1 1⟩]) rfl (by intro x; rfl) rfl (by simp))) (by rw [nodes_one, nodes_one]; omega)) rfl RX.all (fun w10 x10 => ?_)
    replace m1 := m1.ext x10
    replace m2 := m2.ext x10
    replace m3 := m3.ext x10
    replace m4 := m4.ext x10
    replace m5 := m5.ext x10
    replace hx := hx.trans x10
    refine dn ?_
    refine D_end (hK9 _ _ ?_)
    refine W_cond rfl (fun c4 => ?_) (fun c4 => ?_)
    ·
     refine W_seq fun K10 hK10 => ?_
     refine wr ?_
     refine D_callP rfl (by kernel_rfl) (known17_w _) rfl RX.all (fun w11 x11 => ?_)
     replace m1 := m1.ext x11
     replace m2 := m2.ext x11
     replace m3 := m3.ext x11
     replace m4 := m4.ext x11
     replace m5 := m5.ext x11
     replace hx := hx.trans x11
     refine da ?_
     refine D_end (hK10 _ _ ?_)
     refine W_ret ?_
     try dsimp only [then', inBlk, noGo]
     refine ro ?_
     exact ⟨rfl, hx⟩
    ·
     have his2 : isF (m + 1 + 1) (.mk 2 [] [] [] [.mk 2 [] [] [] [f]]) = true := by simpa using c4
     have hin := ev_in (at' := l) (m := m) (f := f)
     refine W_skip ?_
     refine hK8 _ _ ?_
     refine W_seq fun K11 hK11 => ?_
     refine wr ?_
     refine dq (lv_loadA (k := 5) (by kernel_rfl) rfl rfl m1.row) ?_
     refine dq (lv_loadA (k := 2) (by kernel_rfl) rfl rfl m2.row) ?_
     refine D_callP rfl (by kernel_rfl) (peval_w m c f l vd va _ (hf.ext hx) hsm hN (ha.ext hx) (hvs.ext hx) (hg.ext hx) hW2) rfl RX.all (fun w12 x12 => ?_)
     replace m1 := m1.ext x12
     replace m2 := m2.ext x12
     replace m3 := m3.ext x12
     replace m4 := m4.ext x12
     replace m5 := m5.ext x12
     replace hx := hx.trans x12
     refine da ?_
     refine D_end (hK11 _ _ ?_)
     refine W_seq fun K12 hK12 => ?_
     refine wr ?_
     refine dq (lv_loadA (k := 5) (by kernel_rfl) rfl rfl m1.row) ?_
     refine D_lit (e := 25) (sz := 5) (zs := [.int .i64 0, S [], S [], .slice none 0 0, .slice none 0 0]) (pv := [(0, .agg ⟨[?a26_0, ?a26_1, ?a26_2, ?a26_3, ?a26_4]⟩)]) (cs := [?a26_0, ?a26_1, ?a26_2, ?a26_3, ?a26_4]) rfl (by kernel_rfl) ⟨rfl, rfl⟩ (by kernel_rfl) rfl ?h26 ?f26 RX.all (fun b6 w13 e6 x13 m6 => ?k26)
     case h26 => refine ⟨rfl, ?_, trivial⟩ <;> (conv => lhs; whnf)
     case f26 => rfl
     have g6 : w.heap.size ≤ b6 := by have := hx.size; omega
     have n6_1 : b1 < b6 := by have := m1.lt; omega
     have n6_2 : b2 < b6 := by have := m2.lt; omega
     have n6_3 : b3 < b6 := by have := m3.lt; omega
     have n6_4 : b4 < b6 := by have := m4.lt; omega
     have n6_5 : b5 < b6 := by have := m5.lt; omega
     replace m1 := m1.ext x13
     replace m2 := m2.ext x13
     replace m3 := m3.ext x13
     replace m4 := m4.ext x13
     replace m5 := m5.ext x13
     replace hx := hx.trans x13
     refine dp (pv_build (zs := [.int .i64 0, S [], S [], .slice none 0 0, .slice none 0 0]) (pl := [(0, 1), (1, 1), (2, 1), (3, 1), (4, 1)]) (pv := [(0, ?a27_0), (4, ?a27_1)]) (cs := [?a27_0, S [], S [], .slice none 0 0, ?a27_1]) (by kernel_rfl) (by kernel_rfl) ?h27 ?f27) ?k27
     case h27 => refine ⟨rfl, ?_, rfl, ?_, trivial⟩ <;> (conv => lhs; whnf)
     case f27 => rfl
     refine D_alloc (cs := [.int .i64 0, S [], S [], .slice none 0 0, .slice none 0 0]) rfl (by kernel_rfl) RX.all (fun b7 w14 e7 x14 m7 => ?_)
     have g7 : w.heap.size ≤ b7 := by have := hx.size; omega
     have n7_1 : b1 < b7 := by have := m1.lt; omega
     have n7_2 : b2 < b7 := by have := m2.lt; omega
     have n7_3 : b3 < b7 := by have := m3.lt; omega
     have n7_4 : b4 < b7 := by have := m4.lt; omega
     have n7_5 : b5 < b7 := by have := m5.lt; omega
     have n7_6 : b6 < b7 := by have := m6.lt; omega
     replace m1 := m1.ext x14
     replace m2 := m2.ext x14
     replace m3 := m3.ext x14
     replace m4 := m4.ext x14
     replace m5 := m5.ext x14
     replace m6 := m6.ext x14
     replace hx := hx.trans x14
     refine D_store (v := ?v28) (vs := ?u28) rfl rfl ?h28 ?c28 ?s28 m7 ?o28 ?n28 (.inl rfl) (fun w15 x15 xs15 m7 => ?k28)
     case h28 => conv => lhs; whnf
     case c28 => exact rfl
     case s28 => kernel_rfl
     case o28 => exact Nat.le_of_ble_eq_true rfl
     case n28 => simp [Value.oneCell']
     try dsimp only [setAt, List.set, List.take, List.drop, FilV.cs] at m7
     try replace m1 := m1.mod x15 (by first | assumption | (intro k hk h; have h1 := (m1.lt k hk).1; have h2 : k = b7 := h; omega) | (intro k hk h; have h1 := o7_m1 k hk; have h2 : k = b7 := h; omega) | (intro h; have h2 : _ = b7 := h; omega) | (intro hl h; have h1 := a7_m1 hl; have h2 : _ = b7 := h; omega))
     try replace m2 := m2.mod x15 (by first | assumption | (intro k hk h; have h1 := (m2.lt k hk).1; have h2 : k = b7 := h; omega) | (intro k hk h; have h1 := o7_m2 k hk; have h2 : k = b7 := h; omega) | (intro h; have h2 : _ = b7 := h; omega) | (intro hl h; have h1 := a7_m2 hl; have h2 : _ = b7 := h; omega))
     try replace m3 := m3.mod x15 (by first | assumption | (intro k hk h; have h1 := (m3.lt k hk).1; have h2 : k = b7 := h; omega) | (intro k hk h; have h1 := o7_m3 k hk; have h2 : k = b7 := h; omega) | (intro h; have h2 : _ = b7 := h; omega) | (intro hl h; have h1 := a7_m3 hl; have h2 : _ = b7 := h; omega))
     try replace m4 := m4.mod x15 (by first | assumption | (intro k hk h; have h1 := (m4.lt k hk).1; have h2 : k = b7 := h; omega) | (intro k hk h; have h1 := o7_m4 k hk; have h2 : k = b7 := h; omega) | (intro h; have h2 : _ = b7 := h; omega) | (intro hl h; have h1 := a7_m4 hl; have h2 : _ = b7 := h; omega))
     try replace m5 := m5.mod x15 (by first | assumption | (intro k hk h; have h1 := (m5.lt k hk).1; have h2 : k = b7 := h; omega) | (intro k hk h; have h1 := o7_m5 k hk; have h2 : k = b7 := h; omega) | (intro h; have h2 : _ = b7 := h; omega) | (intro hl h; have h1 := a7_m5 hl; have h2 : _ = b7 := h; omega))
     try replace m6 := m6.mod x15 (by first | assumption | (intro k hk h; have h1 := (m6.lt k hk).1; have h2 : k = b7 := h; omega) | (intro k hk h; have h1 := o7_m6 k hk; have h2 : k = b7 := h; omega) | (intro h; have h2 : _ = b7 := h; omega) | (intro hl h; have h1 := a7_m6 hl; have h2 : _ = b7 := h; omega))
     replace hx := hx.own x15 (by intro i hi; have hi2 : i = b7 := hi; subst hi2; omega)
     refine D_end (hK12 _ _ ?_)
     refine W_seq fun K13 hK13 => ?_
     refine wr ?_
     refine dq (lv_loadA (k := 5) (by kernel_rfl) rfl rfl m1.row) ?_
     refine D_lit (e := 25) (sz := 5) (zs := [.int .i64 0, S [], S [], .slice none 0 0, .slice none 0 0]) (pv := [(0, .agg ⟨[?a29_0, ?a29_1, ?a29_2, ?a29_3, ?a29_4]⟩)]) (cs := [?a29_0, ?a29_1, ?a29_2, ?a29_3, ?a29_4]) rfl (by kernel_rfl) ⟨rfl, rfl⟩ (by kernel_rfl) rfl ?h29 ?f29 RX.all (fun b8 w16 e8 x16 m8 => ?k29)
     case h29 => refine ⟨rfl, ?_, trivial⟩ <;> (conv => lhs; whnf)
     case f29 => rfl
     have g8 : w.heap.size ≤ b8 := by have := hx.size; omega
     have n8_1 : b1 < b8 := by have := m1.lt; omega
     have n8_2 : b2 < b8 := by have := m2.lt; omega
     have n8_3 : b3 < b8 := by have := m3.lt; omega
     have n8_4 : b4 < b8 := by have := m4.lt; omega
     have n8_5 : b5 < b8 := by have := m5.lt; omega
     have n8_6 : b6 < b8 := by have := m6.lt; omega
     have n8_7 : b7 < b8 := by have := m7.lt; omega
     replace m1 := m1.ext x16
     replace m2 := m2.ext x16
     replace m3 := m3.ext x16
     replace m4 := m4.ext x16
     replace m5 := m5.ext x16
     replace m6 := m6.ext x16
     replace m7 := m7.ext x16
     replace hx := hx.trans x16
     refine dp (pv_build (zs := [.int .i64 0, S [], S [], .slice none 0 0, .slice none 0 0]) (pl := [(0, 1), (1, 1), (2, 1), (3, 1), (4, 1)]) (pv := [(0, ?a30_0), (4, ?a30_1)]) (cs := [?a30_0, S [], S [], .slice none 0 0, ?a30_1]) (by kernel_rfl) (by kernel_rfl) ?h30 ?f30) ?k30
     case h30 => refine ⟨rfl, ?_, rfl, ?_, trivial⟩ <;> (conv => lhs; whnf)
     case f30 => rfl
     refine D_alloc (cs := [.int .i64 0, S [], S [], .slice none 0 0, .slice none 0 0]) rfl (by kernel_rfl) RX.all (fun b9 w17 e9 x17 m9 => ?_)
     have g9 : w.heap.size ≤ b9 := by have := hx.size; omega
     have n9_1 : b1 < b9 := by have := m1.lt; omega
     have n9_2 : b2 < b9 := by have := m2.lt; omega
     have n9_3 : b3 < b9 := by have := m3.lt; omega
     have n9_4 : b4 < b9 := by have := m4.lt; omega
     have n9_5 : b5 < b9 := by have := m5.lt; omega
     have n9_6 : b6 < b9 := by have := m6.lt; omega
     have n9_7 : b7 < b9 := by have := m7.lt; omega
     have n9_8 : b8 < b9 := by have := m8.lt; omega
     replace m1 := m1.ext x17
     replace m2 := m2.ext x17
     replace m3 := m3.ext x17
     replace m4 := m4.ext x17
     replace m5 := m5.ext x17
     replace m6 := m6.ext x17
     replace m7 := m7.ext x17
     replace m8 := m8.ext x17
     replace hx := hx.trans x17
     refine D_store (v := ?v31) (vs := ?u31) rfl rfl ?h31 ?c31 ?s31 m9 ?o31 ?n31 (.inl rfl) (fun w18 x18 xs18 m9 => ?k31)
     case h31 => conv => lhs; whnf
     case c31 => exact rfl
     case s31 => kernel_rfl
     case o31 => exact Nat.le_of_ble_eq_true rfl
     case n31 => simp [Value.oneCell']
     try dsimp only [setAt, List.set, List.take, List.drop, FilV.cs] at m9
     try replace m1 := m1.mod x18 (by first | assumption | (intro k hk h; have h1 := (m1.lt k hk).1; have h2 : k = b9 := h; omega) | (intro k hk h; have h1 := o9_m1 k hk; have h2 : k = b9 := h; omega) | (intro h; have h2 : _ = b9 := h; omega) | (intro hl h; have h1 := a9_m1 hl; have h2 : _ = b9 := h; omega))
     try replace m2 := m2.mod x18 (by first | assumption | (intro k hk h; have h1 := (m2.lt k hk).1; have h2 : k = b9 := h; omega) | (intro k hk h; have h1 := o9_m2 k hk; have h2 : k = b9 := h; omega) | (intro h; have h2 : _ = b9 := h; omega) | (intro hl h; have h1 := a9_m2 hl; have h2 : _ = b9 := h; omega))
     try replace m3 := m3.mod x18 (by first | assumption | (intro k hk h; have h1 := (m3.lt k hk).1; have h2 : k = b9 := h; omega) | (intro k hk h; have h1 := o9_m3 k hk; have h2 : k = b9 := h; omega) | (intro h; have h2 : _ = b9 := h; omega) | (intro hl h; have h1 := a9_m3 hl; have h2 : _ = b9 := h; omega))
     try replace m4 := m4.mod x18 (by first | assumption | (intro k hk h; have h1 := (m4.lt k hk).1; have h2 : k = b9 := h; omega) | (intro k hk h; have h1 := o9_m4 k hk; have h2 : k = b9 := h; omega) | (intro h; have h2 : _ = b9 := h; omega) | (intro hl h; have h1 := a9_m4 hl; have h2 : _ = b9 := h; omega))
     try replace m5 := m5.mod x18 (by first | assumption | (intro k hk h; have h1 := (m5.lt k hk).1; have h2 : k = b9 := h; omega) | (intro k hk h; have h1 := o9_m5 k hk; have h2 : k = b9 := h; omega) | (intro h; have h2 : _ = b9 := h; omega) | (intro hl h; have h1 := a9_m5 hl; have h2 : _ = b9 := h; omega))
     try replace m6 := m6.mod x18 (by first | assumption | (intro k hk h; have h1 := (m6.lt k hk).1; have h2 : k = b9 := h; omega) | (intro k hk h; have h1 := o9_m6 k hk; have h2 : k = b9 := h; omega) | (intro h; have h2 : _ = b9 := h; omega) | (intro hl h; have h1 := a9_m6 hl; have h2 : _ = b9 := h; omega))
     try replace m7 := m7.mod x18 (by first | assumption | (intro k hk h; have h1 := (m7.lt k hk).1; have h2 : k = b9 := h; omega) | (intro k hk h; have h1 := o9_m7 k hk; have h2 : k = b9 := h; omega) | (intro h; have h2 : _ = b9 := h; omega) | (intro hl h; have h1 := a9_m7 hl; have h2 : _ = b9 := h; omega))
     try replace m8 := m8.mod x18 (by first | assumption | (intro k hk h; have h1 := (m8.lt k hk).1; have h2 : k = b9 := h; omega) | (intro k hk h; have h1 := o9_m8 k hk; have h2 : k = b9 := h; omega) | (intro h; have h2 : _ = b9 := h; omega) | (intro hl h; have h1 := a9_m8 hl; have h2 : _ = b9 := h; omega))
     replace hx := hx.own x18 (by intro i hi; have hi2 : i = b9 := hi; subst hi2; omega)
     refine D_end (hK13 _ _ ?_)
     refine W_seq fun K14 hK14 => ?_
     refine wr ?_
     refine dq (lv_loadA (k := 5) (by kernel_rfl) rfl rfl m5.row) ?_
     refine dq (lv_loadA (k := 2) (by kernel_rfl) rfl rfl m2.row) ?_
     refine D_callP rfl (by kernel_rfl) (peval_w (m + 1 + 1) ⟨I 2, S [], S [], .slice none 0 0, .slice (some ⟨b4, 0, none⟩) 1 1⟩ (.mk 2 [] [] [] [.mk 2 [] [] [] [f]]) l vd va _ (rep_one (rep_one (hf.ext hx) (m3.arr (enc := FilV.cs) (sz := 5) (l := [c]) rfl (by intro x; rfl) rfl (by simp))) (m4.arr (enc := FilV.cs) (sz := 5) (l := [⟨I 2, S [], S [], .slice none 0 0, .slice (some ⟨b3, 0, none⟩) 1 1⟩]) rfl (by intro x; rfl) rfl (by simp))) (ok_one (ok_one hsm)) (by rw [nodes_one, nodes_one]; omega) (ha.ext hx) (hvs.ext hx) (hg.ext hx) hW2) rfl RX.all (fun w19 x19 => ?_)
     replace m1 := m1.ext x19
     replace m2 := m2.ext x19
     replace m3 := m3.ext x19
     replace m4 := m4.ext x19
     replace m5 := m5.ext x19
     replace m6 := m6.ext x19
     replace m7 := m7.ext x19
     replace m8 := m8.ext x19
     replace m9 := m9.ext x19
     replace hx := hx.trans x19
     refine dm ?_
     refine dp (pv_eql rfl rfl) ?_
     refine dm ?_
     refine D_splitP 44 rfl (fun c5 => ?_) (fun c5 => ?_)
     ·
      refine dq (lv_loadA (k := 5) (by kernel_rfl) rfl rfl m7.row) ?_
      refine dq (lv_loadA (k := 2) (by kernel_rfl) rfl rfl m2.row) ?_
      refine D_callP rfl (by kernel_rfl) (peval_w (m + 1) ⟨I 0, S [], S [], .slice none 0 0, .slice (some ⟨b6, 0, none⟩) 1 1⟩ (.mk 0 [] [] [] [f]) l vd va _ (rep_one (hf.ext hx) (m6.arr (enc := FilV.cs) (sz := 5) (l := [c]) rfl (by intro x; rfl) rfl (by simp))) (ok_one hsm) (by rw [nodes_one]; omega) (ha.ext hx) (hvs.ext hx) (hg.ext hx) hW2) rfl RX.all (fun w20 x20 => ?_)
      replace m1 := m1.ext x20
      replace m2 := m2.ext x20
      replace m3 := m3.ext x20
      replace m4 := m4.ext x20
      replace m5 := m5.ext x20
      replace m6 := m6.ext x20
      replace m7 := m7.ext x20
      replace m8 := m8.ext x20
      replace m9 := m9.ext x20
      replace hx := hx.trans x20
      refine dm ?_
      refine dp (pv_eql rfl rfl) ?_
      refine dk' ?_
      refine dm ?_
      refine D_splitP 51 rfl (fun c6 => ?_) (fun c6 => ?_)
      ·
       refine dq (lv_loadA (k := 5) (by kernel_rfl) rfl rfl m9.row) ?_
       refine dq (lv_loadA (k := 2) (by kernel_rfl) rfl rfl m2.row) ?_
       refine D_callP rfl (by kernel_rfl) (peval_w (m + 1) ⟨I 1, S [], S [], .slice none 0 0, .slice (some ⟨b8, 0, none⟩) 1 1⟩ (.mk 1 [] [] [] [f]) l vd va _ (rep_one (hf.ext hx) (m8.arr (enc := FilV.cs) (sz := 5) (l := [c]) rfl (by intro x; rfl) rfl (by simp))) (ok_one hsm) (by rw [nodes_one]; omega) (ha.ext hx) (hvs.ext hx) (hg.ext hx) hW2) rfl RX.all (fun w21 x21 => ?_)
       replace m1 := m1.ext x21
       replace m2 := m2.ext x21
       replace m3 := m3.ext x21
       replace m4 := m4.ext x21
       replace m5 := m5.ext x21
       replace m6 := m6.ext x21
       replace m7 := m7.ext x21
       replace m8 := m8.ext x21
       replace m9 := m9.ext x21
       replace hx := hx.trans x21
       refine dm ?_
       refine dp (pv_eql rfl rfl) ?_
       refine dk' ?_
       refine dm ?_
       refine D_splitP 58 rfl (fun c7 => ?_) (fun c7 => ?_)
       ·
        refine dm ?_
        refine dp (pv_geq rfl rfl) ?_
        refine dk' ?_
        refine dm ?_
        refine D_splitP 62 rfl (fun c8 => ?_) (fun c8 => ?_)
        ·
         refine dm ?_
         refine dp (pv_leq rfl rfl) ?_
         refine dk' ?_
         refine dm ?_
         refine D_splitP 66 rfl (fun c9 => ?_) (fun c9 => ?_)
         ·
          refine D_callP rfl (by kernel_rfl) (known17_w _) rfl RX.all (fun w22 x22 => ?_)
          replace m1 := m1.ext x22
          replace m2 := m2.ext x22
          replace m3 := m3.ext x22
          replace m4 := m4.ext x22
          replace m5 := m5.ext x22
          replace m6 := m6.ext x22
          replace m7 := m7.ext x22
          replace m8 := m8.ext x22
          replace m9 := m9.ext x22
          replace hx := hx.trans x22
          refine dk' ?_
          refine da ?_
          refine D_end (hK14 _ _ ?_)
          refine W_ret ?_
          try dsimp only [then', inBlk, noGo]
          refine ro ?_
          exact ⟨rfl, hx⟩
         ·
          exfalso; omega
        ·
         exfalso; omega
       ·
        exact absurd (any_eval his his2) c7
      ·
       exact absurd (all_eval his his2) c6
     ·
      exact absurd (twice_eval his his2) c5

set_option maxRecDepth 100000 in
set_option maxHeartbeats 1000000 in
theorem law_kids (m : Nat) (c ca cb : FilV) (f g h : Flt) (l : List AttrV) (vd va : Value) (w : World) (hf : FRep w m c f) (hf2 : FRep w m ca g) (hf3 : FRep w m cb h) (hok : okF 140737488355328 m f) (hok2 : okF 140737488355328 m g) (hok3 : okF 140737488355328 m h) (hg : GV w) (ha : Arr AttrV.cs 2 w va l) (hvs : ValsAt w l) (hW : wAttrs (l.map AttrV.toA) ≤ 1048576) :
  Calls Tryz.prog 6 [.agg ⟨c.cs⟩, .agg ⟨ca.cs⟩, .agg ⟨cb.cs⟩, .agg ⟨[vd, va]⟩].toArray w (Pure w (B true)) := by
 refine calls_W Tryz.func6 rfl rfl rfl (by kernel_rfl) ?_
 have hx := Ext.refl w
 refine W_seq fun K1 hK1 => ?_
 refine wr ?_
 refine D_box rfl rfl rfl RX.all (fun b1 w1 e1 x1 m1 => ?_)
 have g1 : w.heap.size ≤ b1 := by have := hx.size; omega
 replace hx := hx.trans x1
 refine D_box rfl rfl rfl RX.all (fun b2 w2 e2 x2 m2 => ?_)
 have g2 : w.heap.size ≤ b2 := by have := hx.size; omega
 have n2_1 : b1 < b2 := by have := m1.lt; omega
 replace m1 := m1.ext x2
 replace hx := hx.trans x2
 refine D_box rfl rfl rfl RX.all (fun b3 w3 e3 x3 m3 => ?_)
 have g3 : w.heap.size ≤ b3 := by have := hx.size; omega
 have n3_1 : b1 < b3 := by have := m1.lt; omega
 have n3_2 : b2 < b3 := by have := m2.lt; omega
 replace m1 := m1.ext x3
 replace m2 := m2.ext x3
 replace hx := hx.trans x3
 refine D_box rfl rfl rfl RX.all (fun b4 w4 e4 x4 m4 => ?_)
 have g4 : w.heap.size ≤ b4 := by have := hx.size; omega
 have n4_1 : b1 < b4 := by have := m1.lt; omega
 have n4_2 : b2 < b4 := by have := m2.lt; omega
 have n4_3 : b3 < b4 := by have := m3.lt; omega
 replace m1 := m1.ext x4
 replace m2 := m2.ext x4
 replace m3 := m3.ext x4
 replace hx := hx.trans x4
 refine da ?_
 refine D_end (hK1 _ _ ?_)
 refine W_seq fun K2 hK2 => ?_
 refine W_seq fun K3 hK3 => ?_
 refine wr ?_
 refine dq (lv_loadA (k := 5) (by kernel_rfl) rfl rfl m1.row) ?_
 refine D_callG rfl (by kernel_rfl) (heavy_all m c f w hf hok _ 200 hx (by omega) (by omega)) rfl RX.all (fun u5 w5 x5 hh5 => ?_)
 have hsz5 := hx.size
 replace m1 := m1.ext x5
 replace m2 := m2.ext x5
 replace m3 := m3.ext x5
 replace m4 := m4.ext x5
 replace hx := hx.trans x5
 obtain ⟨r, rfl, hr1, hr2, hr3⟩ := hh5
 refine dp (pv_lss rfl rfl) ?_
 refine dm ?_
 refine D_splitP 15 rfl (fun c1 => ?_) (fun c1 => ?_)
 ·
  iterate 3 refine dk ?_
  refine dk' ?_
  refine dm ?_
  iterate 3 refine dk ?_
  refine dk' ?_
  refine dm ?_
  iterate 2 refine dk ?_
  refine dk' ?_
  refine D_end (hK3 _ _ ?_)
  refine W_t rfl ?_
  refine W_seq fun K4 hK4 => ?_
  refine wr ?_
  refine da ?_
  refine D_end (hK4 _ _ ?_)
  refine W_ret ?_
  try dsimp only [then', inBlk, noGo]
  refine ro ?_
  exact ⟨rfl, hx⟩
 ·
  refine dq (lv_loadA (k := 5) (by kernel_rfl) rfl rfl m2.row) ?_
  refine D_callG rfl (by kernel_rfl) (heavy_all m ca g w hf2 hok2 _ 200 hx (by omega) (by omega)) rfl RX.all (fun u6 w6 x6 hh6 => ?_)
  have hsz6 := hx.size
  replace m1 := m1.ext x6
  replace m2 := m2.ext x6
  replace m3 := m3.ext x6
  replace m4 := m4.ext x6
  replace hx := hx.trans x6
  obtain ⟨q, rfl, hq1, hq2, hq3⟩ := hh6
  refine dp (pv_lss rfl rfl) ?_
  refine dk' ?_
  refine dm ?_
  refine D_splitP 20 rfl (fun c2 => ?_) (fun c2 => ?_)
  ·
   iterate 3 refine dk ?_
   refine dk' ?_
   refine dm ?_
   iterate 2 refine dk ?_
   refine dk' ?_
   refine D_end (hK3 _ _ ?_)
   refine W_t rfl ?_
   refine W_seq fun K5 hK5 => ?_
   refine wr ?_
   refine da ?_
   refine D_end (hK5 _ _ ?_)
   refine W_ret ?_
   try dsimp only [then', inBlk, noGo]
   refine ro ?_
   exact ⟨rfl, hx⟩
  ·
   refine dq (lv_loadA (k := 5) (by kernel_rfl) rfl rfl m3.row) ?_
   refine D_callG rfl (by kernel_rfl) (heavy_all m cb h w hf3 hok3 _ 200 hx (by omega) (by omega)) rfl RX.all (fun u7 w7 x7 hh7 => ?_)
   have hsz7 := hx.size
   replace m1 := m1.ext x7
   replace m2 := m2.ext x7
   replace m3 := m3.ext x7
   replace m4 := m4.ext x7
   replace hx := hx.trans x7
   obtain ⟨p, rfl, hp1, hp2, hp3⟩ := hh7
   refine dp (pv_lss rfl rfl) ?_
   refine dk' ?_
   refine dm ?_
   refine D_splitP 25 rfl (fun c3 => ?_) (fun c3 => ?_)
   ·
    iterate 2 refine dk ?_
    refine dk' ?_
    refine D_end (hK3 _ _ ?_)
    refine W_t rfl ?_
    refine W_seq fun K6 hK6 => ?_
    refine wr ?_
    refine da ?_
    refine D_end (hK6 _ _ ?_)
    refine W_ret ?_
    try dsimp only [then', inBlk, noGo]
    refine ro ?_
    exact ⟨rfl, hx⟩
   ·
    refine dq (lv_loadA (k := 2) (by kernel_rfl) rfl rfl m4.row) ?_
    refine D_callP rfl (by kernel_rfl) (great17_w l vd va _ (ha.ext hx) (hvs.ext hx) (by omega)) rfl RX.all (fun w8 x8 => ?_)
    replace m1 := m1.ext x8
    replace m2 := m2.ext x8
    replace m3 := m3.ext x8
    replace m4 := m4.ext x8
    replace hx := hx.trans x8
    refine dk' ?_
    refine D_end (hK3 _ _ ?_)
    refine W_if rfl (fun c4 => ?_) (fun c4 => ?_)
    ·
     refine W_seq fun K7 hK7 => ?_
     refine wr ?_
     refine da ?_
     refine D_end (hK7 _ _ ?_)
     refine W_ret ?_
     try dsimp only [then', inBlk, noGo]
     refine ro ?_
     exact ⟨rfl, hx⟩
    ·
     obtain ⟨hr4, hsm⟩ := hr3 (by omega)
     have hN : nodesF m f ≤ 1000 := by omega
     obtain ⟨hr42, hsm2⟩ := hq3 (by omega)
     have hN2 : nodesF m g ≤ 1000 := by omega
     obtain ⟨hr43, hsm3⟩ := hp3 (by omega)
     have hN3 : nodesF m h ≤ 1000 := by omega
     have hW2 : wAttrs (l.map AttrV.toA) ≤ 2000 := by omega
     refine W_skip ?_
     refine hK2 _ _ ?_
     refine W_seq fun K8 hK8 => ?_
     refine W_seq fun K9 hK9 => ?_
     refine wr ?_
     refine da ?_
     refine D_end (hK9 _ _ ?_)
     refine W_block ?_
     refine W_loop (G := Nat) (fun z => [(4, ptr b1 0), (5, ptr b2 0), (6, ptr b3 0), (7, ptr b4 0), (9, I ↑z)]) (fun z w' => Ext w w' ∧ Blk w' b1 [c.k, c.t, c.v, c.s, c.c] 25 ∧ Blk w' b2 [ca.k, ca.t, ca.v, ca.s, ca.c] 25 ∧ Blk w' b3 [cb.k, cb.t, cb.v, cb.s, cb.c] 25 ∧ Blk w' b4 [vd, va] 29 ∧ z ≤ 2) (fun z => 2 - z) 0 ?_ ?_ ?_
     ·
      exact ⟨rfl, rfl, rfl, rfl, rfl, trivial⟩
     ·
      exact ⟨hx, m1, m2, m3, m4, by omega⟩
     ·
      intro X9 g9 w9 hF9
      revert hF9; revert g9; intro z hF9
      clear hx m1 m2 m3 m4
      obtain ⟨hx, m1, m2, m3, m4, hz⟩ := hF9
      refine W_seq fun K10 hK10 => ?_
      refine W_seq fun K11 hK11 => ?_
      refine wr ?_
      refine dm ?_
      refine dp (pv_leq rfl rfl) ?_
      refine D_end (hK11 _ _ ?_)
      refine W_if rfl (fun c5 => ?_) (fun c5 => ?_)
      ·
       have hzk : (↑z : Int) = 0 ∨ (↑z : Int) = 1 := by omega
       refine W_skip ?_
       refine hK10 _ _ ?_
       refine W_seq fun K12 hK12 => ?_
       refine W_block ?_
       refine W_seq fun K13 hK13 => ?_
       refine wr ?_
       refine dm ?_
       refine dq (lv_loadA (k := 5) (by kernel_rfl) rfl rfl m1.row) ?_
       refine dq (lv_loadA (k := 5) (by kernel_rfl) rfl rfl m2.row) ?_
       refine dq (lv_loadA (k := 5) (by kernel_rfl) rfl rfl m3.row) ?_
       refine D_lit (e := 25) (sz := 5) (zs := [.int .i64 0, S [], S [], .slice none 0 0, .slice none 0 0]) (pv := [(0, .agg ⟨[?a28_0, ?a28_1, ?a28_2, ?a28_3, ?a28_4]⟩), (1, .agg ⟨[?a28_5, ?a28_6, ?a28_7, ?a28_8, ?a28_9]⟩), (2, .agg ⟨[?a28_10, ?a28_11, ?a28_12, ?a28_13, ?a28_14]⟩)]) (cs := [?a28_0, ?a28_1, ?a28_2, ?a28_3, ?a28_4, ?a28_5, ?a28_6, ?a28_7, ?a28_8, ?a28_9, ?a28_10, ?a28_11, ?a28_12, ?a28_13, ?a28_14]) rfl (by kernel_rfl) ⟨rfl, rfl⟩ (by kernel_rfl) rfl ?h28 ?f28 RX.all (fun b5 w10 e5 x10 m5 => ?k28)
       case h28 => refine ⟨rfl, ?_, rfl, ?_, rfl, ?_, trivial⟩ <;> (conv => lhs; whnf)
       case f28 => rfl
       have g5 : w.heap.size ≤ b5 := by have := hx.size; omega
       have n5_1 : b1 < b5 := by have := m1.lt; omega
       have n5_2 : b2 < b5 := by have := m2.lt; omega
       have n5_3 : b3 < b5 := by have := m3.lt; omega
       have n5_4 : b4 < b5 := by have := m4.lt; omega
       replace m1 := m1.ext x10
       replace m2 := m2.ext x10
       replace m3 := m3.ext x10
       replace m4 := m4.ext x10
       replace hx := hx.trans x10
       refine dp (pv_build (zs := [.int .i64 0, S [], S [], .slice none 0 0, .slice none 0 0]) (pl := [(0, 1), (1, 1), (2, 1), (3, 1), (4, 1)]) (pv := [(0, ?a29_0), (4, ?a29_1)]) (cs := [?a29_0, S [], S [], .slice none 0 0, ?a29_1]) (by kernel_rfl) (by kernel_rfl) ?h29 ?f29) ?k29
       case h29 => refine ⟨rfl, ?_, rfl, ?_, trivial⟩ <;> (conv => lhs; whnf)
       case f29 => rfl
       refine D_alloc (cs := [.int .i64 0, S [], S [], .slice none 0 0, .slice none 0 0]) rfl (by kernel_rfl) RX.all (fun b6 w11 e6 x11 m6 => ?_)
       have g6 : w.heap.size ≤ b6 := by have := hx.size; omega
       have n6_1 : b1 < b6 := by have := m1.lt; omega
       have n6_2 : b2 < b6 := by have := m2.lt; omega
       have n6_3 : b3 < b6 := by have := m3.lt; omega
       have n6_4 : b4 < b6 := by have := m4.lt; omega
       have n6_5 : b5 < b6 := by have := m5.lt; omega
       replace m1 := m1.ext x11
       replace m2 := m2.ext x11
       replace m3 := m3.ext x11
       replace m4 := m4.ext x11
       replace m5 := m5.ext x11
       replace hx := hx.trans x11
       refine D_store (v := ?v30) (vs := ?u30) rfl rfl ?h30 ?c30 ?s30 m6 ?o30 ?n30 (.inl rfl) (fun w12 x12 xs12 m6 => ?k30)
       case h30 => conv => lhs; whnf
       case c30 => exact rfl
       case s30 => kernel_rfl
       case o30 => exact Nat.le_of_ble_eq_true rfl
       case n30 => simp [Value.oneCell']
       try dsimp only [setAt, List.set, List.take, List.drop, FilV.cs] at m6
       try replace m1 := m1.mod x12 (by first | assumption | (intro k hk h; have h1 := (m1.lt k hk).1; have h2 : k = b6 := h; omega) | (intro k hk h; have h1 := o6_m1 k hk; have h2 : k = b6 := h; omega) | (intro h; have h2 : _ = b6 := h; omega) | (intro hl h; have h1 := a6_m1 hl; have h2 : _ = b6 := h; omega))
       try replace m2 := m2.mod x12 (by first | assumption | (intro k hk h; have h1 := (m2.lt k hk).1; have h2 : k = b6 := h; omega) | (intro k hk h; have h1 := o6_m2 k hk; have h2 : k = b6 := h; omega) | (intro h; have h2 : _ = b6 := h; omega) | (intro hl h; have h1 := a6_m2 hl; have h2 : _ = b6 := h; omega))
       try replace m3 := m3.mod x12 (by first | assumption | (intro k hk h; have h1 := (m3.lt k hk).1; have h2 : k = b6 := h; omega) | (intro k hk h; have h1 := o6_m3 k hk; have h2 : k = b6 := h; omega) | (intro h; have h2 : _ = b6 := h; omega) | (intro hl h; have h1 := a6_m3 hl; have h2 : _ = b6 := h; omega))
       try replace m4 := m4.mod x12 (by first | assumption | (intro k hk h; have h1 := (m4.lt k hk).1; have h2 : k = b6 := h; omega) | (intro k hk h; have h1 := o6_m4 k hk; have h2 : k = b6 := h; omega) | (intro h; have h2 : _ = b6 := h; omega) | (intro hl h; have h1 := a6_m4 hl; have h2 : _ = b6 := h; omega))
       try replace m5 := m5.mod x12 (by first | assumption | (intro k hk h; have h1 := (m5.lt k hk).1; have h2 : k = b6 := h; omega) | (intro k hk h; have h1 := o6_m5 k hk; have h2 : k = b6 := h; omega) | (intro h; have h2 : _ = b6 := h; omega) | (intro hl h; have h1 := a6_m5 hl; have h2 : _ = b6 := h; omega))
       replace hx := hx.own x12 (by intro i hi; have hi2 : i = b6 := hi; subst hi2; omega)
       refine D_end (hK13 _ _ ?_)
       refine W_seq fun K14 hK14 => ?_
       refine wr ?_
       refine dm ?_
       refine dq (lv_loadA (k := 5) (by kernel_rfl) rfl rfl m3.row) ?_
       refine dq (lv_loadA (k := 5) (by kernel_rfl) rfl rfl m1.row) ?_
       refine dq (lv_loadA (k := 5) (by kernel_rfl) rfl rfl m2.row) ?_
       refine D_lit (e := 25) (sz := 5) (zs := [.int .i64 0, S [], S [], .slice none 0 0, .slice none 0 0]) (pv := [(0, .agg ⟨[?a32_0, ?a32_1, ?a32_2, ?a32_3, ?a32_4]⟩), (1, .agg ⟨[?a32_5, ?a32_6, ?a32_7, ?a32_8, ?a32_9]⟩), (2, .agg ⟨[?a32_10, ?a32_11, ?a32_12, ?a32_13, ?a32_14]⟩)]) (cs := [?a32_0, ?a32_1, ?a32_2, ?a32_3, ?a32_4, ?a32_5, ?a32_6, ?a32_7, ?a32_8, ?a32_9, ?a32_10, ?a32_11, ?a32_12, ?a32_13, ?a32_14]) rfl (by kernel_rfl) ⟨rfl, rfl⟩ (by kernel_rfl) rfl ?h32 ?f32 RX.all (fun b7 w13 e7 x13 m7 => ?k32)
       case h32 => refine ⟨rfl, ?_, rfl, ?_, rfl, ?_, trivial⟩ <;> (conv => lhs; whnf)
       case f32 => rfl
       have g7 : w.heap.size ≤ b7 := by have := hx.size; omega
       have n7_1 : b1 < b7 := by have := m1.lt; omega
       have n7_2 : b2 < b7 := by have := m2.lt; omega
       have n7_3 : b3 < b7 := by have := m3.lt; omega
       have n7_4 : b4 < b7 := by have := m4.lt; omega
       have n7_5 : b5 < b7 := by have := m5.lt; omega
       have n7_6 : b6 < b7 := by have := m6.lt; omega
       replace m1 := m1.ext x13
       replace m2 := m2.ext x13
       replace m3 := m3.ext x13
       replace m4 := m4.ext x13
       replace m5 := m5.ext x13
       replace m6 := m6.ext x13
       replace hx := hx.trans x13
       refine dp (pv_build (zs := [.int .i64 0, S [], S [], .slice none 0 0, .slice none 0 0]) (pl := [(0, 1), (1, 1), (2, 1), (3, 1), (4, 1)]) (pv := [(0, ?a33_0), (4, ?a33_1)]) (cs := [?a33_0, S [], S [], .slice none 0 0, ?a33_1]) (by kernel_rfl) (by kernel_rfl) ?h33 ?f33) ?k33
       case h33 => refine ⟨rfl, ?_, rfl, ?_, trivial⟩ <;> (conv => lhs; whnf)
       case f33 => rfl
       refine D_alloc (cs := [.int .i64 0, S [], S [], .slice none 0 0, .slice none 0 0]) rfl (by kernel_rfl) RX.all (fun b8 w14 e8 x14 m8 => ?_)
       have g8 : w.heap.size ≤ b8 := by have := hx.size; omega
       have n8_1 : b1 < b8 := by have := m1.lt; omega
       have n8_2 : b2 < b8 := by have := m2.lt; omega
       have n8_3 : b3 < b8 := by have := m3.lt; omega
       have n8_4 : b4 < b8 := by have := m4.lt; omega
       have n8_5 : b5 < b8 := by have := m5.lt; omega
       have n8_6 : b6 < b8 := by have := m6.lt; omega
       have n8_7 : b7 < b8 := by have := m7.lt; omega
       replace m1 := m1.ext x14
       replace m2 := m2.ext x14
       replace m3 := m3.ext x14
       replace m4 := m4.ext x14
       replace m5 := m5.ext x14
       replace m6 := m6.ext x14
       replace m7 := m7.ext x14
       replace hx := hx.trans x14
       refine D_store (v := ?v34) (vs := ?u34) rfl rfl ?h34 ?c34 ?s34 m8 ?o34 ?n34 (.inl rfl) (fun w15 x15 xs15 m8 => ?k34)
       case h34 => conv => lhs; whnf
       case c34 => exact rfl
       case s34 => kernel_rfl
       case o34 => exact Nat.le_of_ble_eq_true rfl
       case n34 => simp [Value.oneCell']
       try dsimp only [setAt, List.set, List.take, List.drop, FilV.cs] at m8
       try replace m1 := m1.mod x15 (by first | assumption | (intro k hk h; have h1 := (m1.lt k hk).1; have h2 : k = b8 := h; omega) | (intro k hk h; have h1 := o8_m1 k hk; have h2 : k = b8 := h; omega) | (intro h; have h2 : _ = b8 := h; omega) | (intro hl h; have h1 := a8_m1 hl; have h2 : _ = b8 := h; omega))
       try replace m2 := m2.mod x15 (by first | assumption | (intro k hk h; have h1 := (m2.lt k hk).1; have h2 : k = b8 := h; omega) | (intro k hk h; have h1 := o8_m2 k hk; have h2 : k = b8 := h; omega) | (intro h; have h2 : _ = b8 := h; omega) | (intro hl h; have h1 := a8_m2 hl; have h2 : _ = b8 := h; omega))
       try replace m3 := m3.mod x15 (by first | assumption | (intro k hk h; have h1 := (m3.lt k hk).1; have h2 : k = b8 := h; omega) | (intro k hk h; have h1 := o8_m3 k hk; have h2 : k = b8 := h; omega) | (intro h; have h2 : _ = b8 := h; omega) | (intro hl h; have h1 := a8_m3 hl; have h2 : _ = b8 := h; omega))
       try replace m4 := m4.mod x15 (by first | assumption | (intro k hk h; have h1 := (m4.lt k hk).1; have h2 : k = b8 := h; omega) | (intro k hk h; have h1 := o8_m4 k hk; have h2 : k = b8 := h; omega) | (intro h; have h2 : _ = b8 := h; omega) | (intro hl h; have h1 := a8_m4 hl; have h2 : _ = b8 := h; omega))
       try replace m5 := m5.mod x15 (by first | assumption | (intro k hk h; have h1 := (m5.lt k hk).1; have h2 : k = b8 := h; omega) | (intro k hk h; have h1 := o8_m5 k hk; have h2 : k = b8 := h; omega) | (intro h; have h2 : _ = b8 := h; omega) | (intro hl h; have h1 := a8_m5 hl; have h2 : _ = b8 := h; omega))
       try replace m6 := m6.mod x15 (by first | assumption | (intro k hk h; have h1 := (m6.lt k hk).1; have h2 : k = b8 := h; omega) | (intro k hk h; have h1 := o8_m6 k hk; have h2 : k = b8 := h; omega) | (intro h; have h2 : _ = b8 := h; omega) | (intro hl h; have h1 := a8_m6 hl; have h2 : _ = b8 := h; omega))
       try replace m7 := m7.mod x15 (by first | assumption | (intro k hk h; have h1 := (m7.lt k hk).1; have h2 : k = b8 := h; omega) | (intro k hk h; have h1 := o8_m7 k hk; have h2 : k = b8 := h; omega) | (intro h; have h2 : _ = b8 := h; omega) | (intro hl h; have h1 := a8_m7 hl; have h2 : _ = b8 := h; omega))
       replace hx := hx.own x15 (by intro i hi; have hi2 : i = b8 := hi; subst hi2; omega)
       refine D_end (hK14 _ _ ?_)
       refine W_seq fun K15 hK15 => ?_
       refine W_draw (R := Ext) Ext.refl (fun _ _ _ => Ext.trans) (by kernel_rfl) [0, 2, 6, 7, 9, 10] [(0, .l, false), (2, .l, false), (1, .x, false), (3, .x, false), (4, .p, false), (5, .p, false), (6, .l, false), (7, .l, false), (9, .l, false), (10, .l, false), (8, .x, false), (11, .x, false), (12, .p, false), (13, .p, false)] rfl (by kernel_rfl) (by kernel_rfl) (fun w16 ew16 => ?_)
       have x16 : Ext w15 w16 := by rw [ew16]; exact Ext.drew _
       clear ew16
       replace m1 := m1.ext x16
       replace m2 := m2.ext x16
       replace m3 := m3.ext x16
       replace m4 := m4.ext x16
       replace m5 := m5.ext x16
       replace m6 := m6.ext x16
       replace m7 := m7.ext x16
       replace m8 := m8.ext x16
       replace hx := hx.trans x16
       refine D_l rfl (fun w' hR => lv_loadA (k := 5) (by kernel_rfl) rfl rfl (m6.ext hR).row) ?_
       refine D_l rfl (fun w' hR => lv_loadA (k := 5) (by kernel_rfl) rfl rfl (m8.ext hR).row) ?_
       refine D_callP rfl (by kernel_rfl) (ris_w (m + 1) ⟨I ↑z, S [], S [], .slice none 0 0, .slice (some ⟨b5, 0, none⟩) 3 3⟩ (.mk ↑z [] [] [] [f, g, h]) _ (rep_three (hf.ext hx) (hf2.ext hx) (hf3.ext hx) (m5.arr (enc := FilV.cs) (sz := 5) (l := [c, ca, cb]) rfl (by intro x; rfl) rfl (by simp))) (by rw [nodes_three]; omega)) rfl RX.ext (fun w17 x17 => ?_)
       replace m1 := m1.ext x17
       replace m2 := m2.ext x17
       replace m3 := m3.ext x17
       replace m4 := m4.ext x17
       replace m5 := m5.ext x17
       replace m6 := m6.ext x17
       replace m7 := m7.ext x17
       replace m8 := m8.ext x17
       replace hx := hx.trans x17
       refine D_callP rfl (by kernel_rfl) (ris_w (m + 1) ⟨I ↑z, S [], S [], .slice none 0 0, .slice (some ⟨b7, 0, none⟩) 3 3⟩ (.mk ↑z [] [] [] [h, f, g]) _ (rep_three (hf3.ext hx) (hf.ext hx) (hf2.ext hx) (m7.arr (enc := FilV.cs) (sz := 5) (l := [cb, c, ca]) rfl (by intro x; rfl) rfl (by simp))) (by rw [nodes_three]; omega)) rfl RX.ext (fun w18 x18 => ?_)
       replace m1 := m1.ext x18
       replace m2 := m2.ext x18
       replace m3 := m3.ext x18
       replace m4 := m4.ext x18
       replace m5 := m5.ext x18
       replace m6 := m6.ext x18
       replace m7 := m7.ext x18
       replace m8 := m8.ext x18
       replace hx := hx.trans x18
       refine dp (pv_neB (by kernel_rfl) rfl rfl) ?_
       refine dm ?_
       refine D_splitP 50 rfl (fun c6 => ?_) (fun c6 => ?_)
       ·
        first | exact absurd (is_turn hzk) c6 | exact absurd (ev_turn hzk) c6
       ·
        refine D_l rfl (fun w' hR => lv_loadA (k := 5) (by kernel_rfl) rfl rfl (m6.ext hR).row) ?_
        refine D_l rfl (fun w' hR => lv_loadA (k := 2) (by kernel_rfl) rfl rfl (m4.ext hR).row) ?_
        refine D_l rfl (fun w' hR => lv_loadA (k := 5) (by kernel_rfl) rfl rfl (m8.ext hR).row) ?_
        refine D_l rfl (fun w' hR => lv_loadA (k := 2) (by kernel_rfl) rfl rfl (m4.ext hR).row) ?_
        refine D_callP rfl (by kernel_rfl) (peval_w (m + 1) ⟨I ↑z, S [], S [], .slice none 0 0, .slice (some ⟨b5, 0, none⟩) 3 3⟩ (.mk ↑z [] [] [] [f, g, h]) l vd va _ (rep_three (hf.ext hx) (hf2.ext hx) (hf3.ext hx) (m5.arr (enc := FilV.cs) (sz := 5) (l := [c, ca, cb]) rfl (by intro x; rfl) rfl (by simp))) (ok_three hsm hsm2 hsm3) (by rw [nodes_three]; omega) (ha.ext hx) (hvs.ext hx) (hg.ext hx) hW2) rfl RX.ext (fun w19 x19 => ?_)
        replace m1 := m1.ext x19
        replace m2 := m2.ext x19
        replace m3 := m3.ext x19
        replace m4 := m4.ext x19
        replace m5 := m5.ext x19
        replace m6 := m6.ext x19
        replace m7 := m7.ext x19
        replace m8 := m8.ext x19
        replace hx := hx.trans x19
        refine D_callP rfl (by kernel_rfl) (peval_w (m + 1) ⟨I ↑z, S [], S [], .slice none 0 0, .slice (some ⟨b7, 0, none⟩) 3 3⟩ (.mk ↑z [] [] [] [h, f, g]) l vd va _ (rep_three (hf3.ext hx) (hf.ext hx) (hf2.ext hx) (m7.arr (enc := FilV.cs) (sz := 5) (l := [cb, c, ca]) rfl (by intro x; rfl) rfl (by simp))) (ok_three hsm3 hsm hsm2) (by rw [nodes_three]; omega) (ha.ext hx) (hvs.ext hx) (hg.ext hx) hW2) rfl RX.ext (fun w20 x20 => ?_)
        replace m1 := m1.ext x20
        replace m2 := m2.ext x20
        replace m3 := m3.ext x20
        replace m4 := m4.ext x20
        replace m5 := m5.ext x20
        replace m6 := m6.ext x20
        replace m7 := m7.ext x20
        replace m8 := m8.ext x20
        replace hx := hx.trans x20
        refine dp (pv_neq rfl rfl) ?_
        refine dk' ?_
        refine D_end (hK15 _ _ ?_)
        refine W_if rfl (fun c7 => ?_) (fun c7 => ?_)
        ·
         first | exact absurd (is_turn hzk) c7 | exact absurd (ev_turn hzk) c7
        ·
         refine W_skip ?_
         refine hK12 _ _ ?_
         refine wr ?_
         refine dm ?_
         refine dp (pv_add rfl rfl (by unfold inI64; omega)) ?_
         refine da ?_
         refine D_end (?_)
         refine ⟨z + 1, ⟨rfl, rfl, rfl, rfl, rfl, trivial⟩, ⟨hx, m1, m2, m3, m4, by omega⟩, by omega⟩
      ·
       refine W_exit ?_
       refine hK8 _ _ ?_
       refine W_seq fun K16 hK16 => ?_
       refine wr ?_
       refine D_callP rfl (by kernel_rfl) (known17_w _) rfl RX.all (fun w21 x21 => ?_)
       replace m1 := m1.ext x21
       replace m2 := m2.ext x21
       replace m3 := m3.ext x21
       replace m4 := m4.ext x21
       replace hx := hx.trans x21
       refine da ?_
       refine D_end (hK16 _ _ ?_)
       refine W_ret ?_
       try dsimp only [then', inBlk, noGo]
       refine ro ?_
       exact ⟨rfl, hx⟩

end Go.Proofs.YtdagdhjheibgnaaGreatDoor
