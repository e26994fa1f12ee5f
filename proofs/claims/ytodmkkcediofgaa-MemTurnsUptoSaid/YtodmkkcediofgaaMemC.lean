/-
  Walks.
-/
import Derived.Test.YtodmkkcediofgaaChecked
import Derived.Test.YtodmkkcediofgaaSpMem
import Derived.KernelRfl
import Derived.Test.YtodmkkcediofgaaMemB
import Derived.Test.YtodmkkcediofgaaVcF
namespace Go.Proofs.Ytodmkkcediofgaa
open Go.Vc Go.Sp
attribute [local irreducible] W XW Dw DwT
set_option linter.unusedVariables false
set_option linter.unusedSimpArgs false

/-- The reference's Mem: one slice. -/
structure RRep (X : Nat → Prop) (w : World) (bx : Nat) (l : List Cell) : Prop where
  out : ∃ vL, Blk w bx [vL] 37 ∧ Arr Cell.cs 4 w vL l ∧ (l ≠ [] → (base vL).1 ≠ bx ∧ X (base vL).1) ∧ (∀ j, X j → j < w.heap.size)
theorem RRep.mod {X S : Nat → Prop} {w w' : World} {bx : Nat} {l : List Cell} (h : RRep X w bx l) (x : Vc.Mod S w w') (hb : ¬ S bx) (hS : ∀ k, X k → ¬ S k) : RRep X w' bx l := by
  obtain ⟨vL, h1, h2, h3, h4⟩ := h.out
  exact ⟨vL, h1.mod x hb, h2.mod x (fun hl => hS _ (h3 hl).2), h3, fun j hj => Nat.lt_of_lt_of_le (h4 j hj) x.size⟩
theorem RRep.ltX {X : Nat → Prop} {w : World} {bx : Nat} {l : List Cell} (h : RRep X w bx l) : ∀ j, X j → j < w.heap.size := by
  obtain ⟨vL, h1, h2, h3, h4⟩ := h.out
  exact h4
theorem RRep.ext {X : Nat → Prop} {w w' : World} {bx : Nat} {l : List Cell} (h : RRep X w bx l) (x : Ext w w') : RRep X w' bx l := h.mod x (fun h => h) (fun _ _ h => h)
theorem RRep.lt {X : Nat → Prop} {w : World} {bx : Nat} {l : List Cell} (h : RRep X w bx l) : bx < w.heap.size := by
  obtain ⟨vL, h1, h2, h3, h4⟩ := h.out
  exact h1.lt
def moveF (F : Nat → Prop) (w w' : World) : Nat → Prop := fun k => F k ∨ (w.heap.size ≤ k ∧ k < w'.heap.size)
theorem RRep.wide {X : Nat → Prop} {w0 w : World} {bx : Nat} {l : List Cell} (h : RRep X w bx l) : RRep (moveF X w0 w) w bx l := by
  obtain ⟨vL, h1, h2, h3, h4⟩ := h.out
  exact ⟨vL, h1, h2, fun hl => ⟨(h3 hl).1, .inl (h3 hl).2⟩, fun j hj => hj.elim (h4 j) (fun h => h.2)⟩
theorem pre_step {l : List Cell} {k : Nat} {d c : Cell} (h : l[k]? = some d) (hl : less d c = true) : pre (l.drop k) c = d :: pre (l.drop (k + 1)) c ∧ suf (l.drop k) c = suf (l.drop (k + 1)) c := by
  obtain ⟨hk, rfl⟩ := List.getElem?_eq_some_iff.1 h
  rw [List.drop_eq_getElem_cons hk]
  unfold pre suf
  rw [List.takeWhile_cons, List.dropWhile_cons]
  simp [hl]
theorem pre_stop {l : List Cell} {k : Nat} {d c : Cell} (h : l[k]? = some d) (hl : less d c = false) : pre (l.drop k) c = [] ∧ suf (l.drop k) c = l.drop k := by
  obtain ⟨hk, rfl⟩ := List.getElem?_eq_some_iff.1 h
  rw [List.drop_eq_getElem_cons hk]
  unfold pre suf
  rw [List.takeWhile_cons, List.dropWhile_cons]
  simp [hl]
theorem pre_end {l : List Cell} {k : Nat} {c : Cell} (h : l.length ≤ k) : pre (l.drop k) c = [] ∧ suf (l.drop k) c = l.drop k := by
  rw [List.drop_eq_nil_of_le h]; exact ⟨rfl, rfl⟩
theorem has_at {l : List Cell} {k : Nat} {c d : Cell} (hs : suf l c = l.drop k) (h : l[k]? = some d) : has l c = (decide (d.key = c.key) && decide (d.seq = c.seq)) := by
  obtain ⟨hk, rfl⟩ := List.getElem?_eq_some_iff.1 h
  unfold has
  rw [hs, List.drop_eq_getElem_cons hk]
theorem has_end {l : List Cell} {k : Nat} {c : Cell} (hs : suf l c = l.drop k) (h : l.length ≤ k) : has l c = false := by
  unfold has
  rw [hs, List.drop_eq_nil_of_le h]
theorem sizeL_take {l : List Cell} {k : Nat} {c : Cell} (h : l[k]? = some c) : sizeL (l.take (k + 1)) = sizeL (l.take k) + sizeC c := by
  rw [take_snoc h]
  unfold sizeL
  rw [List.map_append, List.sum_append]
  simp
theorem sizeL_le : ∀ l : List Cell, (∀ c ∈ l, c.key.length ≤ 1000000 ∧ c.val.length ≤ 1000000) → sizeL l ≤ l.length * 3000000
  | [], _ => by simp [sizeL]
  | c :: r, h => by
    have ih := sizeL_le r (fun c hc => h c (List.mem_cons_of_mem _ hc))
    have hc := h c List.mem_cons_self
    unfold sizeL at *
    simp only [List.map_cons, List.sum_cons, List.length_cons, sizeC] at *
    omega

set_option maxRecDepth 100000 in
set_option maxHeartbeats 1000000 in
theorem rmsize_w (bx : Nat) (X : Nat → Prop) (l : List Cell) (w : World) (h : RRep X w bx l) (hl : l.length ≤ 1000000) (hs : ∀ c ∈ l, c.key.length ≤ 1000000 ∧ c.val.length ≤ 1000000) :
    Calls Try.prog 20 [ptr bx 0].toArray w (Pure w (I (sizeL l))) := by
  refine calls_W Try.func20 rfl rfl rfl (by kernel_rfl) ?_
  have hx := Ext.refl w
  obtain ⟨vL, hm, hv, hne, hX4⟩ := h.out
  refine W_seq fun K1 hK1 => ?_
  refine W_reg [.p] rfl ?_
  refine D_as (v := ?v1) rfl ?h1 ?k1
  case h1 => conv => lhs; whnf
  refine D_end (hK1 _ _ ?_)
  refine W_seq fun K2 hK2 => ?_
  refine W_reg [.p] rfl ?_
  refine D_as (v := ?v2) rfl ?h2 ?k2
  case h2 => conv => lhs; whnf
  refine D_end (hK2 _ _ ?_)
  refine W_seq fun K3 hK3 => ?_
  refine W_seq fun K4 hK4 => ?_
  refine W_reg [.p] rfl ?_
  refine D_as (v := ?v3) rfl ?h3 ?k3
  case h3 => conv => lhs; whnf
  refine D_end (hK4 _ _ ?_)
  refine W_block ?_
  refine W_loop (G := Nat × Nat) (fun (k, s) => [(0, ptr bx 0), (2, I 0), (3, I ↑s), (4, I ↑k)]) (fun (k, s) w' => Ext w w' ∧ k ≤ l.length ∧ s = sizeL (l.take k)) (fun (k, s) => l.length - k) (0, 0) ?_ ?_ ?_
  · exact ⟨rfl, rfl, rfl, rfl, trivial⟩
  · exact ⟨hx, Nat.zero_le _, rfl⟩
  · intro X1 g1 w1 hF1
    obtain ⟨k, s⟩ := g1
    clear hx 
    obtain ⟨hx, hk1, hs1⟩ := hF1
    refine W_seq fun K5 hK5 => ?_
    refine W_seq fun K6 hK6 => ?_
    refine W_reg [.p, .p, .p, .p, .l, .p, .p] rfl ?_
    refine D_mv (v := ?v4) rfl ?h4 ?k4
    case h4 => conv => lhs; whnf
    refine D_mv (v := ?v5) rfl ?h5 ?k5
    case h5 => conv => lhs; whnf
    refine D_p rfl (pv_nilP rfl) ?_
    refine D_p rfl (pv_fieldA (k := 0) (by kernel_rfl) rfl) ?_
    refine D_lq rfl (lv_load (by kernel_rfl) rfl ((hm.ext hx).at rfl)) ?_
    refine D_p rfl (pv_lenV (e := 28) (k := 4) (by kernel_rfl) hv.sl rfl) ?_
    refine D_p rfl (pv_lss rfl rfl) ?_
    refine D_end (hK6 _ _ ?_)
    refine W_if rfl (fun c1 => ?_) (fun c1 => ?_)
    ·
      obtain ⟨c, hk⟩ : ∃ c, l[k]? = some c := ⟨_, List.getElem?_eq_getElem (by omega)⟩
      have hsc := hs c (List.mem_of_getElem? hk)
      have hle := sizeL_le (l.take k) (fun c hc => hs c (List.mem_of_mem_take hc))
      have hlt2 : (l.take k).length ≤ l.length := List.length_take_le' ..
      have hszc : sizeC c = c.key.length + c.val.length + 16 := rfl
      refine W_skip ?_
      refine hK5 _ _ ?_
      refine W_seq fun K7 hK7 => ?_
      refine W_block ?_
      refine W_reg [.p, .p, .p, .p, .l, .p, .p, .l, .x, .p, .p] rfl ?_
      refine D_mv (v := ?v6) rfl ?h6 ?k6
      case h6 => conv => lhs; whnf
      refine D_mv (v := ?v7) rfl ?h7 ?k7
      case h7 => conv => lhs; whnf
      refine D_p rfl (pv_nilP rfl) ?_
      refine D_p rfl (pv_fieldA (k := 0) (by kernel_rfl) rfl) ?_
      refine D_lq rfl (lv_load (by kernel_rfl) rfl ((hm.ext hx).at rfl)) ?_
      refine D_mv (v := ?v8) rfl ?h8 ?k8
      case h8 => conv => lhs; whnf
      refine D_p rfl (pv_idxA (e := 28) (k := 4) (by kernel_rfl) hv.sl rfl rfl (hv.lt hk)) ?_
      refine D_lq rfl (lv_loadA (by kernel_rfl) rfl rfl ((hv.ext hx).row hk)) ?_
      refine D_callP rfl (by kernel_rfl) (rsize_w c _ (by omega) (by omega)) rfl RX.all (fun w2 x2 => ?_)
      replace hx := hx.trans x2
      refine D_p rfl (pv_add rfl rfl (by unfold inI64; omega)) ?_
      refine D_as (v := ?v9) rfl ?h9 ?k9
      case h9 => conv => lhs; whnf
      refine D_end (hK7 _ _ ?_)
      refine W_reg [.p, .p, .p] rfl ?_
      refine D_mv (v := ?v10) rfl ?h10 ?k10
      case h10 => conv => lhs; whnf
      refine D_p rfl (pv_add rfl rfl (by unfold inI64; omega)) ?_
      refine D_as (v := ?v11) rfl ?h11 ?k11
      case h11 => conv => lhs; whnf
      refine D_end (?_)
      refine ⟨(k + 1, s + sizeC c), ⟨rfl, rfl, rfl, rfl, trivial⟩, ⟨hx, by omega, by rw [sizeL_take hk, hs1]⟩, by simp only []; omega⟩
    ·
      refine W_exit ?_
      refine hK3 _ _ ?_
      refine W_seq fun K8 hK8 => ?_
      refine W_reg [.p, .p] rfl ?_
      refine D_mv (v := ?v12) rfl ?h12 ?k12
      case h12 => conv => lhs; whnf
      refine D_as (v := ?v13) rfl ?h13 ?k13
      case h13 => conv => lhs; whnf
      refine D_end (hK8 _ _ ?_)
      refine W_ret ?_
      try dsimp only [then', inBlk, noGo]
      refine ret_one (v := ?v14) rfl rfl ?h14 ?k14
      case h14 => conv => lhs; whnf
      refine ⟨?_, hx⟩
      rw [hs1, List.take_of_length_le (by omega)]

set_option maxRecDepth 100000 in
set_option maxHeartbeats 1000000 in
theorem rput_w (bx : Nat) (X : Nat → Prop) (l : List Cell) (c : Cell) (w : World) (h : RRep X w bx l) (hl : l.length ≤ 1000000) :
    Calls Try.prog 12 [ptr bx 0, c.v].toArray w (Does (oneB bx) w (fun v w' => v = B (put l c).1 ∧ RRep (moveF X w w') w' bx (put l c).2)) := by
  refine calls_W Try.func12 rfl rfl rfl (by kernel_rfl) ?_
  have hx := Ext.refl w
  obtain ⟨vL, hm, hv, hne2, hX4⟩ := h.out
  have hne : l ≠ [] → (base vL).1 ≠ bx := fun hl => (hne2 hl).1
  have hbx := hm.lt
  refine W_seq fun K1 hK1 => ?_
  refine W_reg [.x, .p] rfl ?_
  refine D_box rfl rfl rfl RX.all (fun b1 w1 e1 x1 m1 => ?_)
  have g1 : w.heap.size ≤ b1 := by have := hx.size; omega
  replace hx := hx.trans x1
  refine D_as (v := ?v1) rfl ?h1 ?k1
  case h1 => conv => lhs; whnf
  refine D_end (hK1 _ _ ?_)
  refine W_seq fun K2 hK2 => ?_
  refine W_seq fun K3 hK3 => ?_
  refine W_reg [.l, .x, .p] rfl ?_
  refine D_lq rfl (lv_loadA (k := 4) (by kernel_rfl) rfl rfl m1.row) ?_
  refine D_callP rfl (by kernel_rfl) (ris_w c _) rfl RX.all (fun w2 x2 => ?_)
  replace m1 := m1.ext x2
  replace hx := hx.trans x2
  refine D_pe (v := ?v2) rfl (pv_not rfl) ?h2 ?k2
  case h2 => conv => lhs; whnf
  refine D_end (hK3 _ _ ?_)
  refine W_cond rfl (fun c1 => ?_) (fun c1 => ?_)
  ·
    refine W_seq fun K4 hK4 => ?_
    refine W_reg [.p] rfl ?_
    refine D_as (v := ?v3) rfl ?h3 ?k3
    case h3 => conv => lhs; whnf
    refine D_end (hK4 _ _ ?_)
    refine W_ret ?_
    try dsimp only [then', inBlk, noGo]
    refine ret_one (v := ?v4) rfl rfl ?h4 ?k4
    case h4 => conv => lhs; whnf
    have hp2 : put l c = (false, l) := by simp at c1; simp [put, c1]
    refine ⟨_, rfl, hx.mono (fun _ h _ => h.elim), by rw [hp2], by rw [hp2]; exact (h.ext hx).wide⟩
  ·
    refine W_skip ?_
    refine hK2 _ _ ?_
    refine W_seq fun K5 hK5 => ?_
    refine W_reg [.p] rfl ?_
    refine D_as (v := ?v5) rfl ?h5 ?k5
    case h5 => conv => lhs; whnf
    refine D_end (hK5 _ _ ?_)
    refine W_cut (G := Nat) (fun k => [(0, ptr bx 0), (3, ptr b1 0), (4, .bool false), (5, I ↑k)]) (fun k w' => Ext w w' ∧ Blk w' b1 c.cs 28 ∧ k ≤ l.length ∧ pre l c = l.take k ∧ suf l c = l.drop k) ?_ ?_
    ·
      refine W_block ?_
      refine W_loop (G := Nat) (fun k => [(0, ptr bx 0), (3, ptr b1 0), (4, .bool false), (5, I ↑k)]) (fun k w' => Ext w w' ∧ Blk w' b1 c.cs 28 ∧ k ≤ l.length ∧ pre l c = l.take k ++ pre (l.drop k) c ∧ suf l c = suf (l.drop k) c) (fun k => l.length - k) 0 ?_ ?_ ?_
      · exact ⟨rfl, rfl, rfl, rfl, trivial⟩
      · exact ⟨hx, m1, Nat.zero_le _, rfl, rfl⟩
      · intro X3 g3 w3 hF3
        revert hF3; revert g3; intro k hF3
        clear hx m1
        obtain ⟨hx, m1, hk1, hp, hsu⟩ := hF3
        refine W_seq fun K6 hK6 => ?_
        refine W_seq fun K7 hK7 => ?_
        refine W_draw (R := Ext) Ext.refl (fun _ _ _ => Ext.trans) (by kernel_rfl) [4, 11, 14, 15] [(0, .p, false), (1, .p, false), (2, .p, false), (3, .p, false), (4, .l, false), (5, .p, false), (6, .p, false), (7, .p, false), (8, .p, false), (9, .p, false), (10, .p, false), (11, .l, false), (12, .p, false), (13, .p, false), (14, .l, false), (15, .l, false), (16, .x, false), (17, .p, false)] rfl (by kernel_rfl) (by kernel_rfl) (fun w4 ew4 => ?_)
        have x4 : Ext w3 w4 := by rw [ew4]; exact Ext.drew _
        clear ew4
        replace m1 := m1.ext x4
        replace hx := hx.trans x4
        refine D_mv (v := ?v6) rfl ?h6 ?k6
        case h6 => conv => lhs; whnf
        refine D_mv (v := ?v7) rfl ?h7 ?k7
        case h7 => conv => lhs; whnf
        refine D_p rfl (pv_nilP rfl) ?_
        refine D_p rfl (pv_fieldA (k := 0) (by kernel_rfl) rfl) ?_
        refine D_l rfl (fun w' hR => lv_load (by kernel_rfl) rfl ((hm.ext (hx.trans hR)).at rfl)) ?_
        refine D_p rfl (pv_lenV (e := 28) (k := 4) (by kernel_rfl) hv.sl rfl) ?_
        refine D_p rfl (pv_lss rfl rfl) ?_
        refine D_mv (v := ?v8) rfl ?h8 ?k8
        case h8 => conv => lhs; whnf
        refine D_splitP 17 rfl (fun c2 => ?_) (fun c2 => ?_)
        ·
          obtain ⟨d, hk⟩ : ∃ d, l[k]? = some d := ⟨_, List.getElem?_eq_getElem (by omega)⟩
          refine D_mv (v := ?v9) rfl ?h9 ?k9
          case h9 => conv => lhs; whnf
          refine D_p rfl (pv_nilP rfl) ?_
          refine D_p rfl (pv_fieldA (k := 0) (by kernel_rfl) rfl) ?_
          refine D_l rfl (fun w' hR => lv_load (by kernel_rfl) rfl ((hm.ext (hx.trans hR)).at rfl)) ?_
          refine D_mv (v := ?v10) rfl ?h10 ?k10
          case h10 => conv => lhs; whnf
          refine D_p rfl (pv_idxA (e := 28) (k := 4) (by kernel_rfl) hv.sl rfl rfl (hv.lt hk)) ?_
          refine D_l rfl (fun w' hR => lv_loadA (by kernel_rfl) rfl rfl ((hv.ext (hx.trans hR)).row hk)) ?_
          refine D_l rfl (fun w' hR => lv_loadA (k := 4) (by kernel_rfl) rfl rfl (m1.ext hR).row) ?_
          refine D_callP rfl (by kernel_rfl) (rless_w d c _) rfl RX.ext (fun w5 x5 => ?_)
          replace m1 := m1.ext x5
          replace hx := hx.trans x5
          refine D_pe (v := ?v11) rfl (pv_pick rfl rfl rfl) ?h11 ?k11
          case h11 => conv => lhs; whnf
          refine D_end (hK7 _ _ ?_)
          refine W_cond rfl (fun c3 => ?_) (fun c3 => ?_)
          ·
            refine W_skip ?_
            refine hK6 _ _ ?_
            refine W_block ?_
            refine W_reg [.p, .p, .p] rfl ?_
            refine D_mv (v := ?v12) rfl ?h12 ?k12
            case h12 => conv => lhs; whnf
            refine D_p rfl (pv_add rfl rfl (by unfold inI64; omega)) ?_
            refine D_as (v := ?v13) rfl ?h13 ?k13
            case h13 => conv => lhs; whnf
            refine D_end (?_)
            have hst := pre_step hk c3
            refine ⟨k + 1, ⟨rfl, rfl, rfl, rfl, trivial⟩, ⟨hx, m1, by omega, ?_, ?_⟩, by omega⟩
            · rw [hp, hst.1, take_snoc hk]; simp
            · rw [hsu, hst.2]
          ·
            refine W_exit ?_
            refine ⟨k, ⟨rfl, rfl, rfl, rfl, trivial⟩, hx, m1, hk1, ?_⟩
            first | (rw [hp, hsu, (pre_stop hk c3).1, (pre_stop hk c3).2]; simp) | (have hst := pre_end (l := l) (k := k) (c := c) (by omega); rw [hp, hsu, hst.1, hst.2]; simp)
        ·
          refine D_skip rfl ?_
          refine D_skip rfl ?_
          refine D_skip rfl ?_
          refine D_skip rfl ?_
          refine D_skip rfl ?_
          refine D_skip rfl ?_
          refine D_skip rfl ?_
          refine D_skip rfl ?_
          refine D_skip rfl ?_
          refine D_pe (v := ?v14) rfl (pv_pick rfl rfl rfl) ?h14 ?k14
          case h14 => conv => lhs; whnf
          refine D_end (hK7 _ _ ?_)
          refine W_f rfl ?_
          refine W_exit ?_
          refine ⟨k, ⟨rfl, rfl, rfl, rfl, trivial⟩, hx, m1, hk1, ?_⟩
          first | (rw [hp, hsu, (pre_stop hk c3).1, (pre_stop hk c3).2]; simp) | (have hst := pre_end (l := l) (k := k) (c := c) (by omega); rw [hp, hsu, hst.1, hst.2]; simp)
    · intro X6 g6 w6 hF6
      revert hF6; revert g6; intro k hF6
      clear hx m1
      obtain ⟨hx, m1, hk1, hp, hsu⟩ := hF6
      refine W_seq fun K8 hK8 => ?_
      refine W_seq fun K9 hK9 => ?_
      refine W_draw (R := Ext) Ext.refl (fun _ _ _ => Ext.trans) (by kernel_rfl) [4, 11, 15, 17, 24, 28, 30] [(0, .p, false), (1, .p, false), (2, .p, false), (3, .p, false), (4, .l, false), (5, .p, false), (6, .p, false), (7, .p, false), (8, .p, false), (9, .p, false), (10, .p, false), (11, .l, false), (12, .p, false), (13, .p, false), (14, .p, false), (15, .l, false), (16, .p, false), (17, .l, false), (18, .p, false), (19, .p, false), (20, .p, false), (21, .p, false), (22, .p, false), (23, .p, false), (24, .l, false), (25, .p, false), (26, .p, false), (27, .p, false), (28, .l, false), (29, .p, false), (30, .l, false), (31, .p, false), (32, .p, false)] rfl (by kernel_rfl) (by kernel_rfl) (fun w7 ew7 => ?_)
      have x7 : Ext w6 w7 := by rw [ew7]; exact Ext.drew _
      clear ew7
      replace m1 := m1.ext x7
      replace hx := hx.trans x7
      refine D_mv (v := ?v15) rfl ?h15 ?k15
      case h15 => conv => lhs; whnf
      refine D_mv (v := ?v16) rfl ?h16 ?k16
      case h16 => conv => lhs; whnf
      refine D_p rfl (pv_nilP rfl) ?_
      refine D_p rfl (pv_fieldA (k := 0) (by kernel_rfl) rfl) ?_
      refine D_l rfl (fun w' hR => lv_load (by kernel_rfl) rfl ((hm.ext (hx.trans hR)).at rfl)) ?_
      refine D_p rfl (pv_lenV (e := 28) (k := 4) (by kernel_rfl) hv.sl rfl) ?_
      refine D_p rfl (pv_lss rfl rfl) ?_
      refine D_mv (v := ?v17) rfl ?h17 ?k17
      case h17 => conv => lhs; whnf
      refine D_splitP 37 rfl (fun c4 => ?_) (fun c4 => ?_)
      ·
        obtain ⟨d, hk⟩ : ∃ d, l[k]? = some d := ⟨_, List.getElem?_eq_getElem (by omega)⟩
        refine D_mv (v := ?v18) rfl ?h18 ?k18
        case h18 => conv => lhs; whnf
        refine D_p rfl (pv_nilP rfl) ?_
        refine D_p rfl (pv_fieldA (k := 0) (by kernel_rfl) rfl) ?_
        refine D_l rfl (fun w' hR => lv_load (by kernel_rfl) rfl ((hm.ext (hx.trans hR)).at rfl)) ?_
        refine D_mv (v := ?v19) rfl ?h19 ?k19
        case h19 => conv => lhs; whnf
        refine D_p rfl (pv_idxA (e := 28) (k := 4) (by kernel_rfl) hv.sl rfl rfl (hv.lt hk)) ?_
        refine D_p rfl (pv_fieldA (k := 0) (by kernel_rfl) rfl) ?_
        refine D_l rfl (fun w' hR => lv_load (by kernel_rfl) rfl (((hv.ext (hx.trans hR)).row hk).at rfl)) ?_
        refine D_p rfl (pv_fieldA (k := 0) (by kernel_rfl) rfl) ?_
        refine D_l rfl (fun w' hR => lv_load (by kernel_rfl) rfl ((m1.ext hR).at rfl)) ?_
        refine D_p rfl (pv_seq rfl rfl) ?_
        refine D_pe (v := ?v20) rfl (pv_pick rfl rfl rfl) ?h20 ?k20
        case h20 => conv => lhs; whnf
        refine D_mv (v := ?v21) rfl ?h21 ?k21
        case h21 => conv => lhs; whnf
        refine D_splitP 50 rfl (fun c5 => ?_) (fun c5 => ?_)
        ·
          refine D_mv (v := ?v22) rfl ?h22 ?k22
          case h22 => conv => lhs; whnf
          refine D_p rfl (pv_nilP rfl) ?_
          refine D_p rfl (pv_fieldA (k := 0) (by kernel_rfl) rfl) ?_
          refine D_l rfl (fun w' hR => lv_load (by kernel_rfl) rfl ((hm.ext (hx.trans hR)).at rfl)) ?_
          refine D_mv (v := ?v23) rfl ?h23 ?k23
          case h23 => conv => lhs; whnf
          refine D_p rfl (pv_idxA (e := 28) (k := 4) (by kernel_rfl) hv.sl rfl rfl (hv.lt hk)) ?_
          refine D_p rfl (pv_fieldA (k := 3) (by kernel_rfl) rfl) ?_
          refine D_l rfl (fun w' hR => lv_load (by kernel_rfl) rfl (((hv.ext (hx.trans hR)).row hk).at rfl)) ?_
          refine D_p rfl (pv_fieldA (k := 3) (by kernel_rfl) rfl) ?_
          refine D_l rfl (fun w' hR => lv_load (by kernel_rfl) rfl ((m1.ext hR).at rfl)) ?_
          refine D_p rfl (pv_eql rfl rfl) ?_
          refine D_pe (v := ?v24) rfl (pv_pick rfl rfl rfl) ?h24 ?k24
          case h24 => conv => lhs; whnf
          refine D_end (hK9 _ _ ?_)
          refine W_if rfl (fun c6 => ?_) (fun c6 => ?_)
          ·
            refine W_seq fun K10 hK10 => ?_
            refine W_reg [.p] rfl ?_
            refine D_as (v := ?v25) rfl ?h25 ?k25
            case h25 => conv => lhs; whnf
            refine D_end (hK10 _ _ ?_)
            refine W_ret ?_
            try dsimp only [then', inBlk, noGo]
            refine ret_one (v := ?v26) rfl rfl ?h26 ?k26
            case h26 => conv => lhs; whnf
            have hh : has l c = true := by rw [has_at hsu hk]; simp [c5, c6]
            have hp2 : put l c = (false, l) := by simp [put, hh]
            exact ⟨_, rfl, hx.mono (fun _ h _ => h.elim), by rw [hp2], by rw [hp2]; exact (h.ext hx).wide⟩
          ·
            refine W_skip ?_
            refine hK8 _ _ ?_
            refine W_cut (G := Value) (fun vn => [(0, ptr bx 0), (4, .bool false), (5, I ↑k), (6, vn)]) (fun vn w' => Ext w w' ∧ Own Cell.cs 4 28 w.heap.size w' vn (pre l c ++ [c])) ?_ ?_
            ·
              have hxs := hx
              have hD : w.heap.size ≤ w7.heap.size := hx.size
              have hm_s := (hm.ext hx)
              have hv_s := (hv.ext hx)
              have m1_s := m1
              refine W_drawT (R := Mod (geB w7.heap.size)) (Far.refl _) Far.trans (by kernel_rfl) [4, 8] (.one 1 .p false (.one 2 .p false (.one 3 .p false (.one 4 .l false (.one 5 .p false (.one 6 .p false (.one 8 .l false (.fork (.alt 0 false (.fork (.alt 7 false (.one 9 .x false (.one 10 .x false (.one 11 .p false .nil))) (.alt 9 false (.one 7 .x false (.one 10 .x false (.one 11 .p false .nil))) .stop))) (.alt 9 false (.one 0 .x false (.one 7 .x false (.one 10 .x false (.one 11 .p false .nil)))) .stop)))))))))) (by kernel_rfl) (by kernel_rfl) (fun w8 ew8 => ?_)
              have x8 : Ext w7 w8 := by rw [ew8]; exact Ext.drew _
              clear ew8
              replace m1 := m1.ext x8
              replace hx := hx.trans x8
              have hs : Mod (geB w7.heap.size) w7 w8 := Far.of_ext x8
              refine T_one ?_
              refine D_mv (v := ?v27) rfl ?h27 ?k27
              case h27 => conv => lhs; whnf
              refine D_end ?_
              refine T_one ?_
              refine D_p rfl (pv_nilP rfl) ?_
              refine D_end ?_
              refine T_one ?_
              refine D_p rfl (pv_fieldA (k := 0) (by kernel_rfl) rfl) ?_
              refine D_end ?_
              refine T_one ?_
              refine D_l rfl (fun w' hR => lv_load (by kernel_rfl) rfl ((hm_s.far (hs.own hR (fun _ h _ => h))).at rfl)) ?_
              refine D_end ?_
              refine T_one ?_
              refine D_mv (v := ?v28) rfl ?h28 ?k28
              case h28 => conv => lhs; whnf
              refine D_end ?_
              refine T_one ?_
              refine D_p rfl (pv_slV (e := 28) (k := 4) (by kernel_rfl) hv.sl rfl rfl rfl (by omega) (by omega)) ?_
              refine D_end ?_
              refine T_one ?_
              refine D_l rfl (fun w' hR => lv_loadA (k := 4) (by kernel_rfl) rfl rfl (m1_s.far (hs.own hR (fun _ h _ => h))).row) ?_
              refine D_end ?_
              refine T_fork ?_
              refine T_alt ?_ ?_
              ·
                refine D_lit0 (e := 28) (sz := 4) rfl (by kernel_rfl) RX.far (fun b2 w9 e2 x9 m2 => ?_)
                have g2 : w.heap.size ≤ b2 := by have := hx.size; omega
                have n2_1 : b1 < b2 := by have := m1.lt; omega
                have gs2 : w7.heap.size ≤ b2 := by have := hs.size; omega
                replace m1 := m1.ext x9
                replace hx := hx.trans x9
                replace hs := hs.ext x9
                refine D_end ?_
                refine T_fork ?_
                refine T_alt ?_ ?_
                ·
                  have ho := m2.own (enc := Cell.cs) (B := w7.heap.size) (l := []) (sz := 4) (m := 0) gs2 rfl (by intro x; rfl) rfl (Nat.le_of_ble_eq_true rfl)
                  refine D_append (e := 28) (sz := 4) (by' := 48) rfl (by kernel_rfl) (by kernel_rfl) (by intro x; rfl) ho (((hv.ext hx)).slice (Nat.zero_le _) hk1) rfl rfl (by intro x _ u hu; simp at hu; rcases hu with rfl | rfl | rfl | rfl <;> rfl) (by simp; omega) (by decide) hs.size (.inr (Far.own ho (Nat.le_refl _))) (fun vp w10 ho_n x10 => ?_)
                  replace hs := hs.own x10 (fun i hi _ => by have := (ho.lt i hi).1; unfold geB; omega)
                  try replace m1 := m1.mod x10 (by intro h; have h1 := (ho.lt _ h).1; have h2 := m1_s.lt; omega)
                  replace hx := hx.own x10 (fun i hi => (by have h1 := (ho.lt i hi).1; first | exact h1 | (have := hxs.size; omega)))
                  replace ho := ho_n
                  refine D_end ?_
                  refine T_one ?_
                  refine D_lit (e := 28) (sz := 4) (zs := [S [], S [], B false, .int .i64 0]) (pv := [(0, .agg ⟨[?a29_0, ?a29_1, ?a29_2, ?a29_3]⟩)]) (cs := [?a29_0, ?a29_1, ?a29_2, ?a29_3]) rfl (by kernel_rfl) ⟨rfl, rfl⟩ (by kernel_rfl) rfl ?h29 ?f29 RX.far (fun b3 w11 e3 x11 m3 => ?k29)
                  case h29 => refine ⟨rfl, ?_, trivial⟩ <;> (conv => lhs; whnf)
                  case f29 => rfl
                  have g3 : w.heap.size ≤ b3 := by have := hx.size; omega
                  have n3_1 : b1 < b3 := by have := m1.lt; omega
                  have gs3 : w7.heap.size ≤ b3 := by have := hs.size; omega
                  replace m1 := m1.ext x11
                  replace ho := ho.ext x11
                  replace hx := hx.trans x11
                  replace hs := hs.ext x11
                  refine D_end ?_
                  refine T_one ?_
                  refine D_append (lx := [c]) (e := 28) (sz := 4) (by' := 48) rfl (by kernel_rfl) (by kernel_rfl) (by intro x; rfl) ho (m3.arr (enc := Cell.cs) (sz := 4) (l := [c]) rfl (by intro x; rfl) rfl (Nat.le_of_ble_eq_true rfl)) rfl rfl (by intro x _ u hu; simp at hu; rcases hu with rfl | rfl | rfl | rfl <;> rfl) (by simp; omega) (by decide) hs.size (.inr (Far.own ho (Nat.le_refl _))) (fun vq w12 ho_n x12 => ?_)
                  replace hs := hs.own x12 (fun i hi _ => by have := (ho.lt i hi).1; unfold geB; omega)
                  try replace m1 := m1.mod x12 (by intro h; have h1 := (ho.lt _ h).1; have h2 := m1_s.lt; omega)
                  try replace m3 := m3.mod x12 (by first | (intro h; have h2 : b3 = b3 := Option.some.inj h; omega) | (intro h; have h1 := (ho.lt _ h).1; omega))
                  replace hx := hx.own x12 (fun i hi => (by have h1 := (ho.lt i hi).1; first | exact h1 | (have := hxs.size; omega)))
                  replace ho := ho_n
                  refine D_end ?_
                  refine T_one ?_
                  refine D_as (v := ?v30) rfl ?h30 ?k30
                  case h30 => conv => lhs; whnf
                  refine D_end ?_
                  clear hs hxs hm_s hv_s m1_s
                  refine T_nil ?_
                  refine ⟨vq, ⟨rfl, rfl, rfl, rfl, trivial⟩, hx, ?_⟩
                  rw [hp]; exact (by simpa using ho : Own Cell.cs 4 28 _ _ _ (l.take k ++ [c])).mono hD
                refine T_alt ?_ ?_
                ·
                  refine D_lit (e := 28) (sz := 4) (zs := [S [], S [], B false, .int .i64 0]) (pv := [(0, .agg ⟨[?a31_0, ?a31_1, ?a31_2, ?a31_3]⟩)]) (cs := [?a31_0, ?a31_1, ?a31_2, ?a31_3]) rfl (by kernel_rfl) ⟨rfl, rfl⟩ (by kernel_rfl) rfl ?h31 ?f31 RX.far (fun b4 w13 e4 x13 m4 => ?k31)
                  case h31 => refine ⟨rfl, ?_, trivial⟩ <;> (conv => lhs; whnf)
                  case f31 => rfl
                  have g4 : w.heap.size ≤ b4 := by have := hx.size; omega
                  have n4_1 : b1 < b4 := by have := m1.lt; omega
                  have n4_2 : b2 < b4 := by have := m2.lt; omega
                  have gs4 : w7.heap.size ≤ b4 := by have := hs.size; omega
                  replace m1 := m1.ext x13
                  replace m2 := m2.ext x13
                  replace hx := hx.trans x13
                  replace hs := hs.ext x13
                  refine D_end ?_
                  refine T_one ?_
                  have ho := m2.own (enc := Cell.cs) (B := w7.heap.size) (l := []) (sz := 4) (m := 0) gs2 rfl (by intro x; rfl) rfl (Nat.le_of_ble_eq_true rfl)
                  refine D_append (e := 28) (sz := 4) (by' := 48) rfl (by kernel_rfl) (by kernel_rfl) (by intro x; rfl) ho (((hv.ext hx)).slice (Nat.zero_le _) hk1) rfl rfl (by intro x _ u hu; simp at hu; rcases hu with rfl | rfl | rfl | rfl <;> rfl) (by simp; omega) (by decide) hs.size (.inr (Far.own ho (Nat.le_refl _))) (fun vp w14 ho_n x14 => ?_)
                  replace hs := hs.own x14 (fun i hi _ => by have := (ho.lt i hi).1; unfold geB; omega)
                  try replace m1 := m1.mod x14 (by intro h; have h1 := (ho.lt _ h).1; have h2 := m1_s.lt; omega)
                  try replace m4 := m4.mod x14 (by first | (intro h; have h2 : b2 = b4 := Option.some.inj h; omega) | (intro h; have h1 := (ho.lt _ h).1; omega))
                  replace hx := hx.own x14 (fun i hi => (by have h1 := (ho.lt i hi).1; first | exact h1 | (have := hxs.size; omega)))
                  replace ho := ho_n
                  refine D_end ?_
                  refine T_one ?_
                  refine D_append (lx := [c]) (e := 28) (sz := 4) (by' := 48) rfl (by kernel_rfl) (by kernel_rfl) (by intro x; rfl) ho (m4.arr (enc := Cell.cs) (sz := 4) (l := [c]) rfl (by intro x; rfl) rfl (Nat.le_of_ble_eq_true rfl)) rfl rfl (by intro x _ u hu; simp at hu; rcases hu with rfl | rfl | rfl | rfl <;> rfl) (by simp; omega) (by decide) hs.size (.inr (Far.own ho (Nat.le_refl _))) (fun vq w15 ho_n x15 => ?_)
                  replace hs := hs.own x15 (fun i hi _ => by have := (ho.lt i hi).1; unfold geB; omega)
                  try replace m1 := m1.mod x15 (by intro h; have h1 := (ho.lt _ h).1; have h2 := m1_s.lt; omega)
                  try replace m4 := m4.mod x15 (by first | (intro h; have h2 : b4 = b4 := Option.some.inj h; omega) | (intro h; have h1 := (ho.lt _ h).1; omega))
                  replace hx := hx.own x15 (fun i hi => (by have h1 := (ho.lt i hi).1; first | exact h1 | (have := hxs.size; omega)))
                  replace ho := ho_n
                  refine D_end ?_
                  refine T_one ?_
                  refine D_as (v := ?v32) rfl ?h32 ?k32
                  case h32 => conv => lhs; whnf
                  refine D_end ?_
                  clear hs hxs hm_s hv_s m1_s
                  refine T_nil ?_
                  refine ⟨vq, ⟨rfl, rfl, rfl, rfl, trivial⟩, hx, ?_⟩
                  rw [hp]; exact (by simpa using ho : Own Cell.cs 4 28 _ _ _ (l.take k ++ [c])).mono hD
                exact T_stop
              refine T_alt ?_ ?_
              ·
                refine D_lit (e := 28) (sz := 4) (zs := [S [], S [], B false, .int .i64 0]) (pv := [(0, .agg ⟨[?a33_0, ?a33_1, ?a33_2, ?a33_3]⟩)]) (cs := [?a33_0, ?a33_1, ?a33_2, ?a33_3]) rfl (by kernel_rfl) ⟨rfl, rfl⟩ (by kernel_rfl) rfl ?h33 ?f33 RX.far (fun b5 w16 e5 x16 m5 => ?k33)
                case h33 => refine ⟨rfl, ?_, trivial⟩ <;> (conv => lhs; whnf)
                case f33 => rfl
                have g5 : w.heap.size ≤ b5 := by have := hx.size; omega
                have n5_1 : b1 < b5 := by have := m1.lt; omega
                have gs5 : w7.heap.size ≤ b5 := by have := hs.size; omega
                replace m1 := m1.ext x16
                replace hx := hx.trans x16
                replace hs := hs.ext x16
                refine D_end ?_
                refine T_one ?_
                refine D_lit0 (e := 28) (sz := 4) rfl (by kernel_rfl) RX.far (fun b6 w17 e6 x17 m6 => ?_)
                have g6 : w.heap.size ≤ b6 := by have := hx.size; omega
                have n6_1 : b1 < b6 := by have := m1.lt; omega
                have n6_5 : b5 < b6 := by have := m5.lt; omega
                have gs6 : w7.heap.size ≤ b6 := by have := hs.size; omega
                replace m1 := m1.ext x17
                replace m5 := m5.ext x17
                replace hx := hx.trans x17
                replace hs := hs.ext x17
                refine D_end ?_
                refine T_one ?_
                have ho := m6.own (enc := Cell.cs) (B := w7.heap.size) (l := []) (sz := 4) (m := 0) gs6 rfl (by intro x; rfl) rfl (Nat.le_of_ble_eq_true rfl)
                refine D_append (e := 28) (sz := 4) (by' := 48) rfl (by kernel_rfl) (by kernel_rfl) (by intro x; rfl) ho (((hv.ext hx)).slice (Nat.zero_le _) hk1) rfl rfl (by intro x _ u hu; simp at hu; rcases hu with rfl | rfl | rfl | rfl <;> rfl) (by simp; omega) (by decide) hs.size (.inr (Far.own ho (Nat.le_refl _))) (fun vp w18 ho_n x18 => ?_)
                replace hs := hs.own x18 (fun i hi _ => by have := (ho.lt i hi).1; unfold geB; omega)
                try replace m1 := m1.mod x18 (by intro h; have h1 := (ho.lt _ h).1; have h2 := m1_s.lt; omega)
                try replace m5 := m5.mod x18 (by first | (intro h; have h2 : b6 = b5 := Option.some.inj h; omega) | (intro h; have h1 := (ho.lt _ h).1; omega))
                replace hx := hx.own x18 (fun i hi => (by have h1 := (ho.lt i hi).1; first | exact h1 | (have := hxs.size; omega)))
                replace ho := ho_n
                refine D_end ?_
                refine T_one ?_
                refine D_append (lx := [c]) (e := 28) (sz := 4) (by' := 48) rfl (by kernel_rfl) (by kernel_rfl) (by intro x; rfl) ho (m5.arr (enc := Cell.cs) (sz := 4) (l := [c]) rfl (by intro x; rfl) rfl (Nat.le_of_ble_eq_true rfl)) rfl rfl (by intro x _ u hu; simp at hu; rcases hu with rfl | rfl | rfl | rfl <;> rfl) (by simp; omega) (by decide) hs.size (.inr (Far.own ho (Nat.le_refl _))) (fun vq w19 ho_n x19 => ?_)
                replace hs := hs.own x19 (fun i hi _ => by have := (ho.lt i hi).1; unfold geB; omega)
                try replace m1 := m1.mod x19 (by intro h; have h1 := (ho.lt _ h).1; have h2 := m1_s.lt; omega)
                try replace m5 := m5.mod x19 (by first | (intro h; have h2 : b5 = b5 := Option.some.inj h; omega) | (intro h; have h1 := (ho.lt _ h).1; omega))
                replace hx := hx.own x19 (fun i hi => (by have h1 := (ho.lt i hi).1; first | exact h1 | (have := hxs.size; omega)))
                replace ho := ho_n
                refine D_end ?_
                refine T_one ?_
                refine D_as (v := ?v34) rfl ?h34 ?k34
                case h34 => conv => lhs; whnf
                refine D_end ?_
                clear hs hxs hm_s hv_s m1_s
                refine T_nil ?_
                refine ⟨vq, ⟨rfl, rfl, rfl, rfl, trivial⟩, hx, ?_⟩
                rw [hp]; exact (by simpa using ho : Own Cell.cs 4 28 _ _ _ (l.take k ++ [c])).mono hD
              exact T_stop
            · intro X20 g20 w20 hF20
              revert hF20; revert g20; intro vn hF20
              clear hx m1
              obtain ⟨hx, ho⟩ := hF20
              refine W_seq fun K11 hK11 => ?_
              refine W_reg [.p, .p, .p, .p, .p, .l, .p, .p, .x, .p, .p, .x] rfl ?_
              refine D_mv (v := ?v35) rfl ?h35 ?k35
              case h35 => conv => lhs; whnf
              refine D_mv (v := ?v36) rfl ?h36 ?k36
              case h36 => conv => lhs; whnf
              refine D_mv (v := ?v37) rfl ?h37 ?k37
              case h37 => conv => lhs; whnf
              refine D_p rfl (pv_nilP rfl) ?_
              refine D_p rfl (pv_fieldA (k := 0) (by kernel_rfl) rfl) ?_
              refine D_lq rfl (lv_load (by kernel_rfl) rfl ((hm.ext hx).at rfl)) ?_
              refine D_mv (v := ?v38) rfl ?h38 ?k38
              case h38 => conv => lhs; whnf
              refine D_p rfl (pv_slV (e := 28) (k := 4) (by kernel_rfl) hv.sl rfl rfl rfl (by omega) (by omega)) ?_
              refine D_append (e := 28) (sz := 4) (by' := 48) rfl (by kernel_rfl) (by kernel_rfl) (by intro x; rfl) ho (((hv.ext hx)).slice hk1 (Nat.le_refl _)) rfl rfl (by intro x _ u hu; simp at hu; rcases hu with rfl | rfl | rfl | rfl <;> rfl) (by rw [hp]; simp; omega) (by decide) hx.size (.inl rfl) (fun vr w21 ho_n x21 => ?_)
              replace hx := hx.own x21 (fun i hi => (ho.lt i hi).1)
              replace ho := ho_n
              refine D_p rfl (pv_nilP rfl) ?_
              refine D_p rfl (pv_fieldA (k := 0) (by kernel_rfl) rfl) ?_
              refine D_store1 (v := ?v39) rfl rfl ?h39 ?n39 (by kernel_rfl) (hm.ext hx) ?o39 (.inl rfl) (fun w22 x22 xs22 hm => ?k39)
              case h39 => conv => lhs; whnf
              case n39 => first | rfl | exact isSl.one ho.sl | exact isSl.one hv.sl
              case o39 => exact Nat.le_of_ble_eq_true rfl
              try dsimp only [setAt, List.set, List.take, List.drop] at hm
              try replace ho := ho.mod x22 (by first | assumption | (intro k hk h; have h1 := (ho.lt k hk).1; have h2 : k = bx := h; omega) | (intro k hk h; have h1 := ox_ho k hk; have h2 : k = bx := h; omega) | (intro h; have h2 : _ = bx := h; omega) | (intro hl h; have h1 := ax_ho hl; have h2 : _ = bx := h; omega))
              replace hx := (hx.mod x22).mono (fun i hi _ => (hi : (oneB bx) i))
              refine D_end (hK11 _ _ ?_)
              refine W_seq fun K12 hK12 => ?_
              refine W_reg [.p] rfl ?_
              refine D_as (v := ?v40) rfl ?h40 ?k40
              case h40 => conv => lhs; whnf
              refine D_end (hK12 _ _ ?_)
              refine W_ret ?_
              try dsimp only [then', inBlk, noGo]
              refine ret_one (v := ?v41) rfl rfl ?h41 ?k41
              case h41 => conv => lhs; whnf
              have hh : has l c = false := by first | (rw [has_at hsu hk]; simp [*]; done) | exact has_end hsu (by omega)
              simp only [Bool.not_eq_false'] at c1
              have hp2 : put l c = (true, pre l c ++ c :: suf l c) := by simp [put, hh, c1]
              have e2 : pre l c ++ [c] ++ List.drop k (List.take l.length l) = pre l c ++ c :: suf l c := by rw [hsu, List.take_length]; simp
              rw [e2] at ho
              refine ⟨_, rfl, hx, by rw [hp2], ?_⟩
              rw [hp2]
              have h3 := ho.base_ge (by simp)
              exact RRep.mk ⟨_, hm, ho.arr (by intro x; rfl), fun hl => ⟨fun e => by rw [e] at h3; exact absurd h3.1 (by omega), .inr h3⟩, fun j hj => hj.elim (fun h => Nat.lt_of_lt_of_le (hX4 j h) hx.size) (fun h => h.2)⟩
        ·
          refine D_skip rfl ?_
          refine D_skip rfl ?_
          refine D_skip rfl ?_
          refine D_skip rfl ?_
          refine D_skip rfl ?_
          refine D_skip rfl ?_
          refine D_skip rfl ?_
          refine D_skip rfl ?_
          refine D_skip rfl ?_
          refine D_skip rfl ?_
          refine D_skip rfl ?_
          refine D_pe (v := ?v42) rfl (pv_pick rfl rfl rfl) ?h42 ?k42
          case h42 => conv => lhs; whnf
          refine D_end (hK9 _ _ ?_)
          refine W_f rfl ?_
          refine W_skip ?_
          refine hK8 _ _ ?_
          refine W_cut (G := Value) (fun vn => [(0, ptr bx 0), (4, .bool false), (5, I ↑k), (6, vn)]) (fun vn w' => Ext w w' ∧ Own Cell.cs 4 28 w.heap.size w' vn (pre l c ++ [c])) ?_ ?_
          ·
            have hxs := hx
            have hD : w.heap.size ≤ w7.heap.size := hx.size
            have hm_s := (hm.ext hx)
            have hv_s := (hv.ext hx)
            have m1_s := m1
            refine W_drawT (R := Mod (geB w7.heap.size)) (Far.refl _) Far.trans (by kernel_rfl) [4, 8] (.one 1 .p false (.one 2 .p false (.one 3 .p false (.one 4 .l false (.one 5 .p false (.one 6 .p false (.one 8 .l false (.fork (.alt 0 false (.fork (.alt 7 false (.one 9 .x false (.one 10 .x false (.one 11 .p false .nil))) (.alt 9 false (.one 7 .x false (.one 10 .x false (.one 11 .p false .nil))) .stop))) (.alt 9 false (.one 0 .x false (.one 7 .x false (.one 10 .x false (.one 11 .p false .nil)))) .stop)))))))))) (by kernel_rfl) (by kernel_rfl) (fun w23 ew23 => ?_)
            have x23 : Ext w7 w23 := by rw [ew23]; exact Ext.drew _
            clear ew23
            replace m1 := m1.ext x23
            replace hx := hx.trans x23
            have hs : Mod (geB w7.heap.size) w7 w23 := Far.of_ext x23
            refine T_one ?_
            refine D_mv (v := ?v43) rfl ?h43 ?k43
            case h43 => conv => lhs; whnf
            refine D_end ?_
            refine T_one ?_
            refine D_p rfl (pv_nilP rfl) ?_
            refine D_end ?_
            refine T_one ?_
            refine D_p rfl (pv_fieldA (k := 0) (by kernel_rfl) rfl) ?_
            refine D_end ?_
            refine T_one ?_
            refine D_l rfl (fun w' hR => lv_load (by kernel_rfl) rfl ((hm_s.far (hs.own hR (fun _ h _ => h))).at rfl)) ?_
            refine D_end ?_
            refine T_one ?_
            refine D_mv (v := ?v44) rfl ?h44 ?k44
            case h44 => conv => lhs; whnf
            refine D_end ?_
            refine T_one ?_
            refine D_p rfl (pv_slV (e := 28) (k := 4) (by kernel_rfl) hv.sl rfl rfl rfl (by omega) (by omega)) ?_
            refine D_end ?_
            refine T_one ?_
            refine D_l rfl (fun w' hR => lv_loadA (k := 4) (by kernel_rfl) rfl rfl (m1_s.far (hs.own hR (fun _ h _ => h))).row) ?_
            refine D_end ?_
            refine T_fork ?_
            refine T_alt ?_ ?_
            ·
              refine D_lit0 (e := 28) (sz := 4) rfl (by kernel_rfl) RX.far (fun b7 w24 e7 x24 m7 => ?_)
              have g7 : w.heap.size ≤ b7 := by have := hx.size; omega
              have n7_1 : b1 < b7 := by have := m1.lt; omega
              have gs7 : w7.heap.size ≤ b7 := by have := hs.size; omega
              replace m1 := m1.ext x24
              replace hx := hx.trans x24
              replace hs := hs.ext x24
              refine D_end ?_
              refine T_fork ?_
              refine T_alt ?_ ?_
              ·
                have ho := m7.own (enc := Cell.cs) (B := w7.heap.size) (l := []) (sz := 4) (m := 0) gs7 rfl (by intro x; rfl) rfl (Nat.le_of_ble_eq_true rfl)
                refine D_append (e := 28) (sz := 4) (by' := 48) rfl (by kernel_rfl) (by kernel_rfl) (by intro x; rfl) ho (((hv.ext hx)).slice (Nat.zero_le _) hk1) rfl rfl (by intro x _ u hu; simp at hu; rcases hu with rfl | rfl | rfl | rfl <;> rfl) (by simp; omega) (by decide) hs.size (.inr (Far.own ho (Nat.le_refl _))) (fun vp w25 ho_n x25 => ?_)
                replace hs := hs.own x25 (fun i hi _ => by have := (ho.lt i hi).1; unfold geB; omega)
                try replace m1 := m1.mod x25 (by intro h; have h1 := (ho.lt _ h).1; have h2 := m1_s.lt; omega)
                replace hx := hx.own x25 (fun i hi => (by have h1 := (ho.lt i hi).1; first | exact h1 | (have := hxs.size; omega)))
                replace ho := ho_n
                refine D_end ?_
                refine T_one ?_
                refine D_lit (e := 28) (sz := 4) (zs := [S [], S [], B false, .int .i64 0]) (pv := [(0, .agg ⟨[?a45_0, ?a45_1, ?a45_2, ?a45_3]⟩)]) (cs := [?a45_0, ?a45_1, ?a45_2, ?a45_3]) rfl (by kernel_rfl) ⟨rfl, rfl⟩ (by kernel_rfl) rfl ?h45 ?f45 RX.far (fun b8 w26 e8 x26 m8 => ?k45)
                case h45 => refine ⟨rfl, ?_, trivial⟩ <;> (conv => lhs; whnf)
                case f45 => rfl
                have g8 : w.heap.size ≤ b8 := by have := hx.size; omega
                have n8_1 : b1 < b8 := by have := m1.lt; omega
                have gs8 : w7.heap.size ≤ b8 := by have := hs.size; omega
                replace m1 := m1.ext x26
                replace ho := ho.ext x26
                replace hx := hx.trans x26
                replace hs := hs.ext x26
                refine D_end ?_
                refine T_one ?_
                refine D_append (lx := [c]) (e := 28) (sz := 4) (by' := 48) rfl (by kernel_rfl) (by kernel_rfl) (by intro x; rfl) ho (m8.arr (enc := Cell.cs) (sz := 4) (l := [c]) rfl (by intro x; rfl) rfl (Nat.le_of_ble_eq_true rfl)) rfl rfl (by intro x _ u hu; simp at hu; rcases hu with rfl | rfl | rfl | rfl <;> rfl) (by simp; omega) (by decide) hs.size (.inr (Far.own ho (Nat.le_refl _))) (fun vq w27 ho_n x27 => ?_)
                replace hs := hs.own x27 (fun i hi _ => by have := (ho.lt i hi).1; unfold geB; omega)
                try replace m1 := m1.mod x27 (by intro h; have h1 := (ho.lt _ h).1; have h2 := m1_s.lt; omega)
                try replace m8 := m8.mod x27 (by first | (intro h; have h2 : b8 = b8 := Option.some.inj h; omega) | (intro h; have h1 := (ho.lt _ h).1; omega))
                replace hx := hx.own x27 (fun i hi => (by have h1 := (ho.lt i hi).1; first | exact h1 | (have := hxs.size; omega)))
                replace ho := ho_n
                refine D_end ?_
                refine T_one ?_
                refine D_as (v := ?v46) rfl ?h46 ?k46
                case h46 => conv => lhs; whnf
                refine D_end ?_
                clear hs hxs hm_s hv_s m1_s
                refine T_nil ?_
                refine ⟨vq, ⟨rfl, rfl, rfl, rfl, trivial⟩, hx, ?_⟩
                rw [hp]; exact (by simpa using ho : Own Cell.cs 4 28 _ _ _ (l.take k ++ [c])).mono hD
              refine T_alt ?_ ?_
              ·
                refine D_lit (e := 28) (sz := 4) (zs := [S [], S [], B false, .int .i64 0]) (pv := [(0, .agg ⟨[?a47_0, ?a47_1, ?a47_2, ?a47_3]⟩)]) (cs := [?a47_0, ?a47_1, ?a47_2, ?a47_3]) rfl (by kernel_rfl) ⟨rfl, rfl⟩ (by kernel_rfl) rfl ?h47 ?f47 RX.far (fun b9 w28 e9 x28 m9 => ?k47)
                case h47 => refine ⟨rfl, ?_, trivial⟩ <;> (conv => lhs; whnf)
                case f47 => rfl
                have g9 : w.heap.size ≤ b9 := by have := hx.size; omega
                have n9_1 : b1 < b9 := by have := m1.lt; omega
                have n9_7 : b7 < b9 := by have := m7.lt; omega
                have gs9 : w7.heap.size ≤ b9 := by have := hs.size; omega
                replace m1 := m1.ext x28
                replace m7 := m7.ext x28
                replace hx := hx.trans x28
                replace hs := hs.ext x28
                refine D_end ?_
                refine T_one ?_
                have ho := m7.own (enc := Cell.cs) (B := w7.heap.size) (l := []) (sz := 4) (m := 0) gs7 rfl (by intro x; rfl) rfl (Nat.le_of_ble_eq_true rfl)
                refine D_append (e := 28) (sz := 4) (by' := 48) rfl (by kernel_rfl) (by kernel_rfl) (by intro x; rfl) ho (((hv.ext hx)).slice (Nat.zero_le _) hk1) rfl rfl (by intro x _ u hu; simp at hu; rcases hu with rfl | rfl | rfl | rfl <;> rfl) (by simp; omega) (by decide) hs.size (.inr (Far.own ho (Nat.le_refl _))) (fun vp w29 ho_n x29 => ?_)
                replace hs := hs.own x29 (fun i hi _ => by have := (ho.lt i hi).1; unfold geB; omega)
                try replace m1 := m1.mod x29 (by intro h; have h1 := (ho.lt _ h).1; have h2 := m1_s.lt; omega)
                try replace m9 := m9.mod x29 (by first | (intro h; have h2 : b7 = b9 := Option.some.inj h; omega) | (intro h; have h1 := (ho.lt _ h).1; omega))
                replace hx := hx.own x29 (fun i hi => (by have h1 := (ho.lt i hi).1; first | exact h1 | (have := hxs.size; omega)))
                replace ho := ho_n
                refine D_end ?_
                refine T_one ?_
                refine D_append (lx := [c]) (e := 28) (sz := 4) (by' := 48) rfl (by kernel_rfl) (by kernel_rfl) (by intro x; rfl) ho (m9.arr (enc := Cell.cs) (sz := 4) (l := [c]) rfl (by intro x; rfl) rfl (Nat.le_of_ble_eq_true rfl)) rfl rfl (by intro x _ u hu; simp at hu; rcases hu with rfl | rfl | rfl | rfl <;> rfl) (by simp; omega) (by decide) hs.size (.inr (Far.own ho (Nat.le_refl _))) (fun vq w30 ho_n x30 => ?_)
                replace hs := hs.own x30 (fun i hi _ => by have := (ho.lt i hi).1; unfold geB; omega)
                try replace m1 := m1.mod x30 (by intro h; have h1 := (ho.lt _ h).1; have h2 := m1_s.lt; omega)
                try replace m9 := m9.mod x30 (by first | (intro h; have h2 : b9 = b9 := Option.some.inj h; omega) | (intro h; have h1 := (ho.lt _ h).1; omega))
                replace hx := hx.own x30 (fun i hi => (by have h1 := (ho.lt i hi).1; first | exact h1 | (have := hxs.size; omega)))
                replace ho := ho_n
                refine D_end ?_
                refine T_one ?_
                refine D_as (v := ?v48) rfl ?h48 ?k48
                case h48 => conv => lhs; whnf
                refine D_end ?_
                clear hs hxs hm_s hv_s m1_s
                refine T_nil ?_
                refine ⟨vq, ⟨rfl, rfl, rfl, rfl, trivial⟩, hx, ?_⟩
                rw [hp]; exact (by simpa using ho : Own Cell.cs 4 28 _ _ _ (l.take k ++ [c])).mono hD
              exact T_stop
            refine T_alt ?_ ?_
            ·
              refine D_lit (e := 28) (sz := 4) (zs := [S [], S [], B false, .int .i64 0]) (pv := [(0, .agg ⟨[?a49_0, ?a49_1, ?a49_2, ?a49_3]⟩)]) (cs := [?a49_0, ?a49_1, ?a49_2, ?a49_3]) rfl (by kernel_rfl) ⟨rfl, rfl⟩ (by kernel_rfl) rfl ?h49 ?f49 RX.far (fun b10 w31 e10 x31 m10 => ?k49)
              case h49 => refine ⟨rfl, ?_, trivial⟩ <;> (conv => lhs; whnf)
              case f49 => rfl
              have g10 : w.heap.size ≤ b10 := by have := hx.size; omega
              have n10_1 : b1 < b10 := by have := m1.lt; omega
              have gs10 : w7.heap.size ≤ b10 := by have := hs.size; omega
              replace m1 := m1.ext x31
              replace hx := hx.trans x31
              replace hs := hs.ext x31
              refine D_end ?_
              refine T_one ?_
              refine D_lit0 (e := 28) (sz := 4) rfl (by kernel_rfl) RX.far (fun b11 w32 e11 x32 m11 => ?_)
              have g11 : w.heap.size ≤ b11 := by have := hx.size; omega
              have n11_1 : b1 < b11 := by have := m1.lt; omega
              have n11_10 : b10 < b11 := by have := m10.lt; omega
              have gs11 : w7.heap.size ≤ b11 := by have := hs.size; omega
              replace m1 := m1.ext x32
              replace m10 := m10.ext x32
              replace hx := hx.trans x32
              replace hs := hs.ext x32
              refine D_end ?_
              refine T_one ?_
              have ho := m11.own (enc := Cell.cs) (B := w7.heap.size) (l := []) (sz := 4) (m := 0) gs11 rfl (by intro x; rfl) rfl (Nat.le_of_ble_eq_true rfl)
              refine D_append (e := 28) (sz := 4) (by' := 48) rfl (by kernel_rfl) (by kernel_rfl) (by intro x; rfl) ho (((hv.ext hx)).slice (Nat.zero_le _) hk1) rfl rfl (by intro x _ u hu; simp at hu; rcases hu with rfl | rfl | rfl | rfl <;> rfl) (by simp; omega) (by decide) hs.size (.inr (Far.own ho (Nat.le_refl _))) (fun vp w33 ho_n x33 => ?_)
              replace hs := hs.own x33 (fun i hi _ => by have := (ho.lt i hi).1; unfold geB; omega)
              try replace m1 := m1.mod x33 (by intro h; have h1 := (ho.lt _ h).1; have h2 := m1_s.lt; omega)
              try replace m10 := m10.mod x33 (by first | (intro h; have h2 : b11 = b10 := Option.some.inj h; omega) | (intro h; have h1 := (ho.lt _ h).1; omega))
              replace hx := hx.own x33 (fun i hi => (by have h1 := (ho.lt i hi).1; first | exact h1 | (have := hxs.size; omega)))
              replace ho := ho_n
              refine D_end ?_
              refine T_one ?_
              refine D_append (lx := [c]) (e := 28) (sz := 4) (by' := 48) rfl (by kernel_rfl) (by kernel_rfl) (by intro x; rfl) ho (m10.arr (enc := Cell.cs) (sz := 4) (l := [c]) rfl (by intro x; rfl) rfl (Nat.le_of_ble_eq_true rfl)) rfl rfl (by intro x _ u hu; simp at hu; rcases hu with rfl | rfl | rfl | rfl <;> rfl) (by simp; omega) (by decide) hs.size (.inr (Far.own ho (Nat.le_refl _))) (fun vq w34 ho_n x34 => ?_)
              replace hs := hs.own x34 (fun i hi _ => by have := (ho.lt i hi).1; unfold geB; omega)
              try replace m1 := m1.mod x34 (by intro h; have h1 := (ho.lt _ h).1; have h2 := m1_s.lt; omega)
              try replace m10 := m10.mod x34 (by first | (intro h; have h2 : b10 = b10 := Option.some.inj h; omega) | (intro h; have h1 := (ho.lt _ h).1; omega))
              replace hx := hx.own x34 (fun i hi => (by have h1 := (ho.lt i hi).1; first | exact h1 | (have := hxs.size; omega)))
              replace ho := ho_n
              refine D_end ?_
              refine T_one ?_
              refine D_as (v := ?v50) rfl ?h50 ?k50
              case h50 => conv => lhs; whnf
              refine D_end ?_
              clear hs hxs hm_s hv_s m1_s
              refine T_nil ?_
              refine ⟨vq, ⟨rfl, rfl, rfl, rfl, trivial⟩, hx, ?_⟩
              rw [hp]; exact (by simpa using ho : Own Cell.cs 4 28 _ _ _ (l.take k ++ [c])).mono hD
            exact T_stop
          · intro X35 g35 w35 hF35
            revert hF35; revert g35; intro vn hF35
            clear hx m1
            obtain ⟨hx, ho⟩ := hF35
            refine W_seq fun K13 hK13 => ?_
            refine W_reg [.p, .p, .p, .p, .p, .l, .p, .p, .x, .p, .p, .x] rfl ?_
            refine D_mv (v := ?v51) rfl ?h51 ?k51
            case h51 => conv => lhs; whnf
            refine D_mv (v := ?v52) rfl ?h52 ?k52
            case h52 => conv => lhs; whnf
            refine D_mv (v := ?v53) rfl ?h53 ?k53
            case h53 => conv => lhs; whnf
            refine D_p rfl (pv_nilP rfl) ?_
            refine D_p rfl (pv_fieldA (k := 0) (by kernel_rfl) rfl) ?_
            refine D_lq rfl (lv_load (by kernel_rfl) rfl ((hm.ext hx).at rfl)) ?_
            refine D_mv (v := ?v54) rfl ?h54 ?k54
            case h54 => conv => lhs; whnf
            refine D_p rfl (pv_slV (e := 28) (k := 4) (by kernel_rfl) hv.sl rfl rfl rfl (by omega) (by omega)) ?_
            refine D_append (e := 28) (sz := 4) (by' := 48) rfl (by kernel_rfl) (by kernel_rfl) (by intro x; rfl) ho (((hv.ext hx)).slice hk1 (Nat.le_refl _)) rfl rfl (by intro x _ u hu; simp at hu; rcases hu with rfl | rfl | rfl | rfl <;> rfl) (by rw [hp]; simp; omega) (by decide) hx.size (.inl rfl) (fun vr w36 ho_n x36 => ?_)
            replace hx := hx.own x36 (fun i hi => (ho.lt i hi).1)
            replace ho := ho_n
            refine D_p rfl (pv_nilP rfl) ?_
            refine D_p rfl (pv_fieldA (k := 0) (by kernel_rfl) rfl) ?_
            refine D_store1 (v := ?v55) rfl rfl ?h55 ?n55 (by kernel_rfl) (hm.ext hx) ?o55 (.inl rfl) (fun w37 x37 xs37 hm => ?k55)
            case h55 => conv => lhs; whnf
            case n55 => first | rfl | exact isSl.one ho.sl | exact isSl.one hv.sl
            case o55 => exact Nat.le_of_ble_eq_true rfl
            try dsimp only [setAt, List.set, List.take, List.drop] at hm
            try replace ho := ho.mod x37 (by first | assumption | (intro k hk h; have h1 := (ho.lt k hk).1; have h2 : k = bx := h; omega) | (intro k hk h; have h1 := ox_ho k hk; have h2 : k = bx := h; omega) | (intro h; have h2 : _ = bx := h; omega) | (intro hl h; have h1 := ax_ho hl; have h2 : _ = bx := h; omega))
            replace hx := (hx.mod x37).mono (fun i hi _ => (hi : (oneB bx) i))
            refine D_end (hK13 _ _ ?_)
            refine W_seq fun K14 hK14 => ?_
            refine W_reg [.p] rfl ?_
            refine D_as (v := ?v56) rfl ?h56 ?k56
            case h56 => conv => lhs; whnf
            refine D_end (hK14 _ _ ?_)
            refine W_ret ?_
            try dsimp only [then', inBlk, noGo]
            refine ret_one (v := ?v57) rfl rfl ?h57 ?k57
            case h57 => conv => lhs; whnf
            have hh : has l c = false := by first | (rw [has_at hsu hk]; simp [*]; done) | exact has_end hsu (by omega)
            simp only [Bool.not_eq_false'] at c1
            have hp2 : put l c = (true, pre l c ++ c :: suf l c) := by simp [put, hh, c1]
            have e2 : pre l c ++ [c] ++ List.drop k (List.take l.length l) = pre l c ++ c :: suf l c := by rw [hsu, List.take_length]; simp
            rw [e2] at ho
            refine ⟨_, rfl, hx, by rw [hp2], ?_⟩
            rw [hp2]
            have h3 := ho.base_ge (by simp)
            exact RRep.mk ⟨_, hm, ho.arr (by intro x; rfl), fun hl => ⟨fun e => by rw [e] at h3; exact absurd h3.1 (by omega), .inr h3⟩, fun j hj => hj.elim (fun h => Nat.lt_of_lt_of_le (hX4 j h) hx.size) (fun h => h.2)⟩
      ·
        refine D_skip rfl ?_
        refine D_skip rfl ?_
        refine D_skip rfl ?_
        refine D_skip rfl ?_
        refine D_skip rfl ?_
        refine D_skip rfl ?_
        refine D_skip rfl ?_
        refine D_skip rfl ?_
        refine D_skip rfl ?_
        refine D_skip rfl ?_
        refine D_skip rfl ?_
        refine D_pe (v := ?v58) rfl (pv_pick rfl rfl rfl) ?h58 ?k58
        case h58 => conv => lhs; whnf
        refine D_mv (v := ?v59) rfl ?h59 ?k59
        case h59 => conv => lhs; whnf
        refine D_skip rfl ?_
        refine D_skip rfl ?_
        refine D_skip rfl ?_
        refine D_skip rfl ?_
        refine D_skip rfl ?_
        refine D_skip rfl ?_
        refine D_skip rfl ?_
        refine D_skip rfl ?_
        refine D_skip rfl ?_
        refine D_skip rfl ?_
        refine D_skip rfl ?_
        refine D_pe (v := ?v60) rfl (pv_pick rfl rfl rfl) ?h60 ?k60
        case h60 => conv => lhs; whnf
        refine D_end (hK9 _ _ ?_)
        refine W_f rfl ?_
        refine W_skip ?_
        refine hK8 _ _ ?_
        refine W_cut (G := Value) (fun vn => [(0, ptr bx 0), (4, .bool false), (5, I ↑k), (6, vn)]) (fun vn w' => Ext w w' ∧ Own Cell.cs 4 28 w.heap.size w' vn (pre l c ++ [c])) ?_ ?_
        ·
          have hxs := hx
          have hD : w.heap.size ≤ w7.heap.size := hx.size
          have hm_s := (hm.ext hx)
          have hv_s := (hv.ext hx)
          have m1_s := m1
          refine W_drawT (R := Mod (geB w7.heap.size)) (Far.refl _) Far.trans (by kernel_rfl) [4, 8] (.one 1 .p false (.one 2 .p false (.one 3 .p false (.one 4 .l false (.one 5 .p false (.one 6 .p false (.one 8 .l false (.fork (.alt 0 false (.fork (.alt 7 false (.one 9 .x false (.one 10 .x false (.one 11 .p false .nil))) (.alt 9 false (.one 7 .x false (.one 10 .x false (.one 11 .p false .nil))) .stop))) (.alt 9 false (.one 0 .x false (.one 7 .x false (.one 10 .x false (.one 11 .p false .nil)))) .stop)))))))))) (by kernel_rfl) (by kernel_rfl) (fun w38 ew38 => ?_)
          have x38 : Ext w7 w38 := by rw [ew38]; exact Ext.drew _
          clear ew38
          replace m1 := m1.ext x38
          replace hx := hx.trans x38
          have hs : Mod (geB w7.heap.size) w7 w38 := Far.of_ext x38
          refine T_one ?_
          refine D_mv (v := ?v61) rfl ?h61 ?k61
          case h61 => conv => lhs; whnf
          refine D_end ?_
          refine T_one ?_
          refine D_p rfl (pv_nilP rfl) ?_
          refine D_end ?_
          refine T_one ?_
          refine D_p rfl (pv_fieldA (k := 0) (by kernel_rfl) rfl) ?_
          refine D_end ?_
          refine T_one ?_
          refine D_l rfl (fun w' hR => lv_load (by kernel_rfl) rfl ((hm_s.far (hs.own hR (fun _ h _ => h))).at rfl)) ?_
          refine D_end ?_
          refine T_one ?_
          refine D_mv (v := ?v62) rfl ?h62 ?k62
          case h62 => conv => lhs; whnf
          refine D_end ?_
          refine T_one ?_
          refine D_p rfl (pv_slV (e := 28) (k := 4) (by kernel_rfl) hv.sl rfl rfl rfl (by omega) (by omega)) ?_
          refine D_end ?_
          refine T_one ?_
          refine D_l rfl (fun w' hR => lv_loadA (k := 4) (by kernel_rfl) rfl rfl (m1_s.far (hs.own hR (fun _ h _ => h))).row) ?_
          refine D_end ?_
          refine T_fork ?_
          refine T_alt ?_ ?_
          ·
            refine D_lit0 (e := 28) (sz := 4) rfl (by kernel_rfl) RX.far (fun b12 w39 e12 x39 m12 => ?_)
            have g12 : w.heap.size ≤ b12 := by have := hx.size; omega
            have n12_1 : b1 < b12 := by have := m1.lt; omega
            have gs12 : w7.heap.size ≤ b12 := by have := hs.size; omega
            replace m1 := m1.ext x39
            replace hx := hx.trans x39
            replace hs := hs.ext x39
            refine D_end ?_
            refine T_fork ?_
            refine T_alt ?_ ?_
            ·
              have ho := m12.own (enc := Cell.cs) (B := w7.heap.size) (l := []) (sz := 4) (m := 0) gs12 rfl (by intro x; rfl) rfl (Nat.le_of_ble_eq_true rfl)
              refine D_append (e := 28) (sz := 4) (by' := 48) rfl (by kernel_rfl) (by kernel_rfl) (by intro x; rfl) ho (((hv.ext hx)).slice (Nat.zero_le _) hk1) rfl rfl (by intro x _ u hu; simp at hu; rcases hu with rfl | rfl | rfl | rfl <;> rfl) (by simp; omega) (by decide) hs.size (.inr (Far.own ho (Nat.le_refl _))) (fun vp w40 ho_n x40 => ?_)
              replace hs := hs.own x40 (fun i hi _ => by have := (ho.lt i hi).1; unfold geB; omega)
              try replace m1 := m1.mod x40 (by intro h; have h1 := (ho.lt _ h).1; have h2 := m1_s.lt; omega)
              replace hx := hx.own x40 (fun i hi => (by have h1 := (ho.lt i hi).1; first | exact h1 | (have := hxs.size; omega)))
              replace ho := ho_n
              refine D_end ?_
              refine T_one ?_
              refine D_lit (e := 28) (sz := 4) (zs := [S [], S [], B false, .int .i64 0]) (pv := [(0, .agg ⟨[?a63_0, ?a63_1, ?a63_2, ?a63_3]⟩)]) (cs := [?a63_0, ?a63_1, ?a63_2, ?a63_3]) rfl (by kernel_rfl) ⟨rfl, rfl⟩ (by kernel_rfl) rfl ?h63 ?f63 RX.far (fun b13 w41 e13 x41 m13 => ?k63)
              case h63 => refine ⟨rfl, ?_, trivial⟩ <;> (conv => lhs; whnf)
              case f63 => rfl
              have g13 : w.heap.size ≤ b13 := by have := hx.size; omega
              have n13_1 : b1 < b13 := by have := m1.lt; omega
              have gs13 : w7.heap.size ≤ b13 := by have := hs.size; omega
              replace m1 := m1.ext x41
              replace ho := ho.ext x41
              replace hx := hx.trans x41
              replace hs := hs.ext x41
              refine D_end ?_
              refine T_one ?_
              refine D_append (lx := [c]) (e := 28) (sz := 4) (by' := 48) rfl (by kernel_rfl) (by kernel_rfl) (by intro x; rfl) ho (m13.arr (enc := Cell.cs) (sz := 4) (l := [c]) rfl (by intro x; rfl) rfl (Nat.le_of_ble_eq_true rfl)) rfl rfl (by intro x _ u hu; simp at hu; rcases hu with rfl | rfl | rfl | rfl <;> rfl) (by simp; omega) (by decide) hs.size (.inr (Far.own ho (Nat.le_refl _))) (fun vq w42 ho_n x42 => ?_)
              replace hs := hs.own x42 (fun i hi _ => by have := (ho.lt i hi).1; unfold geB; omega)
              try replace m1 := m1.mod x42 (by intro h; have h1 := (ho.lt _ h).1; have h2 := m1_s.lt; omega)
              try replace m13 := m13.mod x42 (by first | (intro h; have h2 : b13 = b13 := Option.some.inj h; omega) | (intro h; have h1 := (ho.lt _ h).1; omega))
              replace hx := hx.own x42 (fun i hi => (by have h1 := (ho.lt i hi).1; first | exact h1 | (have := hxs.size; omega)))
              replace ho := ho_n
              refine D_end ?_
              refine T_one ?_
              refine D_as (v := ?v64) rfl ?h64 ?k64
              case h64 => conv => lhs; whnf
              refine D_end ?_
              clear hs hxs hm_s hv_s m1_s
              refine T_nil ?_
              refine ⟨vq, ⟨rfl, rfl, rfl, rfl, trivial⟩, hx, ?_⟩
              rw [hp]; exact (by simpa using ho : Own Cell.cs 4 28 _ _ _ (l.take k ++ [c])).mono hD
            refine T_alt ?_ ?_
            ·
              refine D_lit (e := 28) (sz := 4) (zs := [S [], S [], B false, .int .i64 0]) (pv := [(0, .agg ⟨[?a65_0, ?a65_1, ?a65_2, ?a65_3]⟩)]) (cs := [?a65_0, ?a65_1, ?a65_2, ?a65_3]) rfl (by kernel_rfl) ⟨rfl, rfl⟩ (by kernel_rfl) rfl ?h65 ?f65 RX.far (fun b14 w43 e14 x43 m14 => ?k65)
              case h65 => refine ⟨rfl, ?_, trivial⟩ <;> (conv => lhs; whnf)
              case f65 => rfl
              have g14 : w.heap.size ≤ b14 := by have := hx.size; omega
              have n14_1 : b1 < b14 := by have := m1.lt; omega
              have n14_12 : b12 < b14 := by have := m12.lt; omega
              have gs14 : w7.heap.size ≤ b14 := by have := hs.size; omega
              replace m1 := m1.ext x43
              replace m12 := m12.ext x43
              replace hx := hx.trans x43
              replace hs := hs.ext x43
              refine D_end ?_
              refine T_one ?_
              have ho := m12.own (enc := Cell.cs) (B := w7.heap.size) (l := []) (sz := 4) (m := 0) gs12 rfl (by intro x; rfl) rfl (Nat.le_of_ble_eq_true rfl)
              refine D_append (e := 28) (sz := 4) (by' := 48) rfl (by kernel_rfl) (by kernel_rfl) (by intro x; rfl) ho (((hv.ext hx)).slice (Nat.zero_le _) hk1) rfl rfl (by intro x _ u hu; simp at hu; rcases hu with rfl | rfl | rfl | rfl <;> rfl) (by simp; omega) (by decide) hs.size (.inr (Far.own ho (Nat.le_refl _))) (fun vp w44 ho_n x44 => ?_)
              replace hs := hs.own x44 (fun i hi _ => by have := (ho.lt i hi).1; unfold geB; omega)
              try replace m1 := m1.mod x44 (by intro h; have h1 := (ho.lt _ h).1; have h2 := m1_s.lt; omega)
              try replace m14 := m14.mod x44 (by first | (intro h; have h2 : b12 = b14 := Option.some.inj h; omega) | (intro h; have h1 := (ho.lt _ h).1; omega))
              replace hx := hx.own x44 (fun i hi => (by have h1 := (ho.lt i hi).1; first | exact h1 | (have := hxs.size; omega)))
              replace ho := ho_n
              refine D_end ?_
              refine T_one ?_
              refine D_append (lx := [c]) (e := 28) (sz := 4) (by' := 48) rfl (by kernel_rfl) (by kernel_rfl) (by intro x; rfl) ho (m14.arr (enc := Cell.cs) (sz := 4) (l := [c]) rfl (by intro x; rfl) rfl (Nat.le_of_ble_eq_true rfl)) rfl rfl (by intro x _ u hu; simp at hu; rcases hu with rfl | rfl | rfl | rfl <;> rfl) (by simp; omega) (by decide) hs.size (.inr (Far.own ho (Nat.le_refl _))) (fun vq w45 ho_n x45 => ?_)
              replace hs := hs.own x45 (fun i hi _ => by have := (ho.lt i hi).1; unfold geB; omega)
              try replace m1 := m1.mod x45 (by intro h; have h1 := (ho.lt _ h).1; have h2 := m1_s.lt; omega)
              try replace m14 := m14.mod x45 (by first | (intro h; have h2 : b14 = b14 := Option.some.inj h; omega) | (intro h; have h1 := (ho.lt _ h).1; omega))
              replace hx := hx.own x45 (fun i hi => (by have h1 := (ho.lt i hi).1; first | exact h1 | (have := hxs.size; omega)))
              replace ho := ho_n
              refine D_end ?_
              refine T_one ?_
              refine D_as (v := ?v66) rfl ?h66 ?k66
              case h66 => conv => lhs; whnf
              refine D_end ?_
              clear hs hxs hm_s hv_s m1_s
              refine T_nil ?_
              refine ⟨vq, ⟨rfl, rfl, rfl, rfl, trivial⟩, hx, ?_⟩
              rw [hp]; exact (by simpa using ho : Own Cell.cs 4 28 _ _ _ (l.take k ++ [c])).mono hD
            exact T_stop
          refine T_alt ?_ ?_
          ·
            refine D_lit (e := 28) (sz := 4) (zs := [S [], S [], B false, .int .i64 0]) (pv := [(0, .agg ⟨[?a67_0, ?a67_1, ?a67_2, ?a67_3]⟩)]) (cs := [?a67_0, ?a67_1, ?a67_2, ?a67_3]) rfl (by kernel_rfl) ⟨rfl, rfl⟩ (by kernel_rfl) rfl ?h67 ?f67 RX.far (fun b15 w46 e15 x46 m15 => ?k67)
            case h67 => refine ⟨rfl, ?_, trivial⟩ <;> (conv => lhs; whnf)
            case f67 => rfl
            have g15 : w.heap.size ≤ b15 := by have := hx.size; omega
            have n15_1 : b1 < b15 := by have := m1.lt; omega
            have gs15 : w7.heap.size ≤ b15 := by have := hs.size; omega
            replace m1 := m1.ext x46
            replace hx := hx.trans x46
            replace hs := hs.ext x46
            refine D_end ?_
            refine T_one ?_
            refine D_lit0 (e := 28) (sz := 4) rfl (by kernel_rfl) RX.far (fun b16 w47 e16 x47 m16 => ?_)
            have g16 : w.heap.size ≤ b16 := by have := hx.size; omega
            have n16_1 : b1 < b16 := by have := m1.lt; omega
            have n16_15 : b15 < b16 := by have := m15.lt; omega
            have gs16 : w7.heap.size ≤ b16 := by have := hs.size; omega
            replace m1 := m1.ext x47
            replace m15 := m15.ext x47
            replace hx := hx.trans x47
            replace hs := hs.ext x47
            refine D_end ?_
            refine T_one ?_
            have ho := m16.own (enc := Cell.cs) (B := w7.heap.size) (l := []) (sz := 4) (m := 0) gs16 rfl (by intro x; rfl) rfl (Nat.le_of_ble_eq_true rfl)
            refine D_append (e := 28) (sz := 4) (by' := 48) rfl (by kernel_rfl) (by kernel_rfl) (by intro x; rfl) ho (((hv.ext hx)).slice (Nat.zero_le _) hk1) rfl rfl (by intro x _ u hu; simp at hu; rcases hu with rfl | rfl | rfl | rfl <;> rfl) (by simp; omega) (by decide) hs.size (.inr (Far.own ho (Nat.le_refl _))) (fun vp w48 ho_n x48 => ?_)
            replace hs := hs.own x48 (fun i hi _ => by have := (ho.lt i hi).1; unfold geB; omega)
            try replace m1 := m1.mod x48 (by intro h; have h1 := (ho.lt _ h).1; have h2 := m1_s.lt; omega)
            try replace m15 := m15.mod x48 (by first | (intro h; have h2 : b16 = b15 := Option.some.inj h; omega) | (intro h; have h1 := (ho.lt _ h).1; omega))
            replace hx := hx.own x48 (fun i hi => (by have h1 := (ho.lt i hi).1; first | exact h1 | (have := hxs.size; omega)))
            replace ho := ho_n
            refine D_end ?_
            refine T_one ?_
            refine D_append (lx := [c]) (e := 28) (sz := 4) (by' := 48) rfl (by kernel_rfl) (by kernel_rfl) (by intro x; rfl) ho (m15.arr (enc := Cell.cs) (sz := 4) (l := [c]) rfl (by intro x; rfl) rfl (Nat.le_of_ble_eq_true rfl)) rfl rfl (by intro x _ u hu; simp at hu; rcases hu with rfl | rfl | rfl | rfl <;> rfl) (by simp; omega) (by decide) hs.size (.inr (Far.own ho (Nat.le_refl _))) (fun vq w49 ho_n x49 => ?_)
            replace hs := hs.own x49 (fun i hi _ => by have := (ho.lt i hi).1; unfold geB; omega)
            try replace m1 := m1.mod x49 (by intro h; have h1 := (ho.lt _ h).1; have h2 := m1_s.lt; omega)
            try replace m15 := m15.mod x49 (by first | (intro h; have h2 : b15 = b15 := Option.some.inj h; omega) | (intro h; have h1 := (ho.lt _ h).1; omega))
            replace hx := hx.own x49 (fun i hi => (by have h1 := (ho.lt i hi).1; first | exact h1 | (have := hxs.size; omega)))
            replace ho := ho_n
            refine D_end ?_
            refine T_one ?_
            refine D_as (v := ?v68) rfl ?h68 ?k68
            case h68 => conv => lhs; whnf
            refine D_end ?_
            clear hs hxs hm_s hv_s m1_s
            refine T_nil ?_
            refine ⟨vq, ⟨rfl, rfl, rfl, rfl, trivial⟩, hx, ?_⟩
            rw [hp]; exact (by simpa using ho : Own Cell.cs 4 28 _ _ _ (l.take k ++ [c])).mono hD
          exact T_stop
        · intro X50 g50 w50 hF50
          revert hF50; revert g50; intro vn hF50
          clear hx m1
          obtain ⟨hx, ho⟩ := hF50
          refine W_seq fun K15 hK15 => ?_
          refine W_reg [.p, .p, .p, .p, .p, .l, .p, .p, .x, .p, .p, .x] rfl ?_
          refine D_mv (v := ?v69) rfl ?h69 ?k69
          case h69 => conv => lhs; whnf
          refine D_mv (v := ?v70) rfl ?h70 ?k70
          case h70 => conv => lhs; whnf
          refine D_mv (v := ?v71) rfl ?h71 ?k71
          case h71 => conv => lhs; whnf
          refine D_p rfl (pv_nilP rfl) ?_
          refine D_p rfl (pv_fieldA (k := 0) (by kernel_rfl) rfl) ?_
          refine D_lq rfl (lv_load (by kernel_rfl) rfl ((hm.ext hx).at rfl)) ?_
          refine D_mv (v := ?v72) rfl ?h72 ?k72
          case h72 => conv => lhs; whnf
          refine D_p rfl (pv_slV (e := 28) (k := 4) (by kernel_rfl) hv.sl rfl rfl rfl (by omega) (by omega)) ?_
          refine D_append (e := 28) (sz := 4) (by' := 48) rfl (by kernel_rfl) (by kernel_rfl) (by intro x; rfl) ho (((hv.ext hx)).slice hk1 (Nat.le_refl _)) rfl rfl (by intro x _ u hu; simp at hu; rcases hu with rfl | rfl | rfl | rfl <;> rfl) (by rw [hp]; simp; omega) (by decide) hx.size (.inl rfl) (fun vr w51 ho_n x51 => ?_)
          replace hx := hx.own x51 (fun i hi => (ho.lt i hi).1)
          replace ho := ho_n
          refine D_p rfl (pv_nilP rfl) ?_
          refine D_p rfl (pv_fieldA (k := 0) (by kernel_rfl) rfl) ?_
          refine D_store1 (v := ?v73) rfl rfl ?h73 ?n73 (by kernel_rfl) (hm.ext hx) ?o73 (.inl rfl) (fun w52 x52 xs52 hm => ?k73)
          case h73 => conv => lhs; whnf
          case n73 => first | rfl | exact isSl.one ho.sl | exact isSl.one hv.sl
          case o73 => exact Nat.le_of_ble_eq_true rfl
          try dsimp only [setAt, List.set, List.take, List.drop] at hm
          try replace ho := ho.mod x52 (by first | assumption | (intro k hk h; have h1 := (ho.lt k hk).1; have h2 : k = bx := h; omega) | (intro k hk h; have h1 := ox_ho k hk; have h2 : k = bx := h; omega) | (intro h; have h2 : _ = bx := h; omega) | (intro hl h; have h1 := ax_ho hl; have h2 : _ = bx := h; omega))
          replace hx := (hx.mod x52).mono (fun i hi _ => (hi : (oneB bx) i))
          refine D_end (hK15 _ _ ?_)
          refine W_seq fun K16 hK16 => ?_
          refine W_reg [.p] rfl ?_
          refine D_as (v := ?v74) rfl ?h74 ?k74
          case h74 => conv => lhs; whnf
          refine D_end (hK16 _ _ ?_)
          refine W_ret ?_
          try dsimp only [then', inBlk, noGo]
          refine ret_one (v := ?v75) rfl rfl ?h75 ?k75
          case h75 => conv => lhs; whnf
          have hh : has l c = false := by first | (rw [has_at hsu hk]; simp [*]; done) | exact has_end hsu (by omega)
          simp only [Bool.not_eq_false'] at c1
          have hp2 : put l c = (true, pre l c ++ c :: suf l c) := by simp [put, hh, c1]
          have e2 : pre l c ++ [c] ++ List.drop k (List.take l.length l) = pre l c ++ c :: suf l c := by rw [hsu, List.take_length]; simp
          rw [e2] at ho
          refine ⟨_, rfl, hx, by rw [hp2], ?_⟩
          rw [hp2]
          have h3 := ho.base_ge (by simp)
          exact RRep.mk ⟨_, hm, ho.arr (by intro x; rfl), fun hl => ⟨fun e => by rw [e] at h3; exact absurd h3.1 (by omega), .inr h3⟩, fun j hj => hj.elim (fun h => Nat.lt_of_lt_of_le (hX4 j h) hx.size) (fun h => h.2)⟩

end Go.Proofs.Ytodmkkcediofgaa
