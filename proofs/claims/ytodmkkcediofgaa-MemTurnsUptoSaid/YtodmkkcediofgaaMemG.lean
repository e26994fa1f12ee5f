/-
  Walks.
-/
import Derived.Test.YtodmkkcediofgaaChecked
import Derived.Test.YtodmkkcediofgaaSpMem
import Derived.KernelRfl
import Derived.Test.YtodmkkcediofgaaMemF
namespace Go.Proofs.Ytodmkkcediofgaa
open Go.Vc Go.Sp
attribute [local irreducible] W XW Dw DwT
set_option linter.unusedVariables false
set_option linter.unusedSimpArgs false

structure NilS : Prop where
  sl : isSl (.slice none 0 0) 0
theorem nilS : NilS := ⟨.inl ⟨rfl, rfl⟩⟩
theorem mem_put {l : List Cell} {c x : Cell} (h : x ∈ (put l c).2) : x ∈ l ∨ x = c := by
  unfold put at h
  split at h
  · exact .inl h
  · rcases List.mem_append.1 h with h | h
    · exact .inl (by rw [← pre_suf l c]; exact List.mem_append_left _ h)
    · rcases List.mem_cons.1 h with h | h
      · exact .inr h
      · exact .inl (by rw [← pre_suf l c]; exact List.mem_append_right _ h)
theorem put_mem {l : List Cell} {c x : Cell} (h : x ∈ l) : x ∈ (put l c).2 := by
  unfold put
  split
  · exact h
  · rw [← pre_suf l c] at h
    rcases List.mem_append.1 h with h | h
    · exact List.mem_append_left _ h
    · exact List.mem_append_right _ (List.mem_cons_of_mem _ h)
/-- Behind a put of a cell that may be there is one of its key and number. -/
theorem put_at_key {l : List Cell} {c : Cell} (hc : isC c = true) : ∃ x ∈ (put l c).2, x.key = c.key ∧ x.seq = c.seq := by
  unfold put
  split
  · rename_i h
    simp only [hc, Bool.not_true, Bool.false_or] at h
    unfold has at h
    cases hs : suf l c with
    | nil => rw [hs] at h; cases h
    | cons s r =>
      rw [hs] at h
      simp only [Bool.and_eq_true, decide_eq_true_eq] at h
      exact ⟨s, by show s ∈ l; rw [← pre_suf l c, hs]; simp, h.1, h.2⟩
  · exact ⟨c, by simp, rfl, rfl⟩
theorem put_len (l : List Cell) (c : Cell) : (put l c).2.length ≤ l.length + 1 ∧ sizeL (put l c).2 ≤ sizeL l + sizeC c := by
  unfold put
  split
  · exact ⟨Nat.le_succ _, Nat.le_add_right _ _⟩
  · exact ⟨Nat.le_of_eq (len_split l c), Nat.le_of_eq (sizeL_split l c)⟩
/-- The newest number that is not above one: 0: there is none. -/
structure Newest (l : List Cell) (at' best : Int) : Prop where
  all : ∀ c ∈ l, c.key = [97] ∧ 1 ≤ c.seq ∧ (c.seq ≤ at' → c.seq ≤ best)
  one : best = 0 ∨ (1 ≤ best ∧ best ≤ at' ∧ ∃ c ∈ l, c.seq = best)
theorem Newest.nil (at' : Int) : Newest [] at' 0 := ⟨fun c hc => (by cases hc), .inl rfl⟩
theorem Newest.put {l : List Cell} {at' best s b' : Int} (h : Newest l at' best) (h1 : 1 ≤ s) (h2 : s ≤ 1099511627776) (hb : b' = if s ≤ at' then max best s else best) : Newest (put l ⟨[97], [120], false, s⟩).2 at' b' := by
  have hc : isC ⟨[97], [120], false, s⟩ = true := by simp [isC, h1, h2]
  have hb0 : 0 ≤ best := by rcases h.one with e | ⟨e, _⟩ <;> omega
  refine ⟨fun c hcm => ?_, ?_⟩
  · rcases mem_put hcm with hm | rfl
    · have := h.all c hm
      refine ⟨this.1, this.2.1, fun hle => ?_⟩
      have := this.2.2 hle
      rw [hb]; split <;> omega
    · refine ⟨rfl, h1, fun hle => ?_⟩
      have hle' : s ≤ at' := hle
      rw [hb, if_pos hle']
      show s ≤ max best s
      omega
  · by_cases hs : s ≤ at'
    · rw [if_pos hs] at hb
      obtain ⟨x, hx, _, hxs⟩ := put_at_key (l := l) hc
      have hxs' : x.seq = s := hxs
      by_cases hbs : best ≤ s
      · exact .inr ⟨by omega, by omega, x, hx, by omega⟩
      · rcases h.one with e | ⟨e1, e2, y, hy, e3⟩
        · omega
        · exact .inr ⟨by omega, by omega, y, put_mem hy, by omega⟩
    · rw [if_neg hs] at hb
      rw [hb]
      rcases h.one with e | ⟨e1, e2, y, hy, e3⟩
      · exact .inl e
      · exact .inr ⟨e1, e2, y, put_mem hy, e3⟩
theorem Newest.first {l : List Cell} {at' best : Int} (h : Newest l at' best) (hs : Sorted l) : (first l [97] at').isSome = decide (0 < best) ∧ ((first l [97] at').getD Cell.zero).seq = best := by
  unfold Sp.first
  cases hf : l.find? (fun c => decide (c.key = [97]) && decide (c.seq ≤ at')) with
  | none =>
    rw [List.find?_eq_none] at hf
    rcases h.one with e | ⟨e1, e2, y, hy, e3⟩
    · rw [e]; exact ⟨rfl, rfl⟩
    · exact absurd (by simp [(h.all y hy).1, e3, e2]) (hf y hy)
  | some x =>
    obtain ⟨hp, A, R, e, hA⟩ := List.find?_eq_some_iff_append.1 hf
    simp only [Bool.and_eq_true, decide_eq_true_eq] at hp
    have hx : x ∈ l := by rw [e]; simp
    have hle := (h.all x hx).2.2 hp.2
    have h1 := (h.all x hx).2.1
    have hge : best ≤ x.seq := by
      rcases h.one with e1 | ⟨e1, e2, y, hy, e3⟩
      · omega
      · rw [e] at hy
        rcases List.mem_append.1 hy with hy2 | hy2
        · have := hA y hy2
          rw [(h.all y (by rw [e]; exact hy)).1, e3] at this
          simp at this; omega
        · rcases List.mem_cons.1 hy2 with rfl | hy2
          · omega
          · rw [e] at hs
            have h2 := (List.pairwise_append.1 hs).2.1
            have h3 := (less_iff _ _).1 (List.rel_of_pairwise_cons h2 hy2)
            rw [hp.1, (h.all y (by rw [e]; exact hy)).1, sLt_irrefl] at h3
            rcases h3 with h3 | ⟨_, h3⟩
            · cases h3
            · omega
    have : x.seq = best := by omega
    refine ⟨?_, this⟩
    have hb : 0 < best := by omega
    simp [hb]
theorem Newest.other {l : List Cell} {at' best : Int} (h : Newest l at' best) : Sp.first l [98] at' = none := by
  unfold Sp.first
  rw [List.find?_eq_none]
  intro x hx
  rw [(h.all x hx).1]
  simp
theorem MRep.sorted {F : Nat → Prop} {w : World} {bm : Nat} {l : List Cell} (h : MRep F w bm l) : Sorted l := by
  obtain ⟨va, vd, a, nx, dr, L, h1, h2, h3, h4, h5⟩ := h
  exact h3

set_option maxRecDepth 100000 in
set_option maxHeartbeats 1000000 in
theorem heavy2_w (l : List Cell) (v : Value) (w : World) (hv : Arr Cell.cs 4 w v l) (hl : l.length ≤ 9223372036854775807) :
    Calls Try.prog 11 [v].toArray w (fun e w' => Ext w w' ∧ ∃ b : Bool, e = .returned (B b) ∧ (b = false → l.length ≤ 201)) := by
  refine calls_W Try.func11 rfl rfl rfl (by kernel_rfl) ?_
  have hx := Ext.refl w
  refine W_seq fun K1 hK1 => ?_
  refine W_reg [.p] rfl ?_
  refine D_as (v := ?v1) rfl ?h1 ?k1
  case h1 => conv => lhs; whnf
  refine D_end (hK1 _ _ ?_)
  refine W_seq fun K2 hK2 => ?_
  refine W_reg [.p] rfl ?_
  refine D_as (v := ?v2) rfl ?h2 ?k2
  case h2 => conv => lhs; whnf
  refine D_end (hK2 _ _ ?_)
  refine W_seq fun K3 hK3 => ?_
  refine W_seq fun K4 hK4 => ?_
  refine W_reg [.p] rfl ?_
  refine D_as (v := ?v3) rfl ?h3 ?k3
  case h3 => conv => lhs; whnf
  refine D_end (hK4 _ _ ?_)
  refine W_block ?_
  refine W_loop (G := Nat × Int) (fun (k, n) => [(0, v), (3, I n), (4, I ↑k)]) (fun (k, n) w' => Ext w w' ∧ k ≤ l.length ∧ k ≤ 201) (fun (k, n) => l.length - k) (0, 0) ?_ ?_ ?_
  · exact ⟨rfl, rfl, rfl, trivial⟩
  · exact ⟨hx, Nat.zero_le _, by omega⟩
  · intro X1 g1 w1 hF1
    obtain ⟨k, n⟩ := g1
    clear hx 
    obtain ⟨hx, hk1, hb1⟩ := hF1
    refine W_seq fun K5 hK5 => ?_
    refine W_seq fun K6 hK6 => ?_
    refine W_reg [.p, .p, .p, .p] rfl ?_
    refine D_mv (v := ?v4) rfl ?h4 ?k4
    case h4 => conv => lhs; whnf
    refine D_mv (v := ?v5) rfl ?h5 ?k5
    case h5 => conv => lhs; whnf
    refine D_p rfl (pv_lenV (e := 28) (k := 4) (by kernel_rfl) hv.sl rfl) ?_
    refine D_p rfl (pv_lss rfl rfl) ?_
    refine D_end (hK6 _ _ ?_)
    refine W_if rfl (fun c1 => ?_) (fun c1 => ?_)
    ·
      obtain ⟨c, hk⟩ : ∃ c, l[k]? = some c := ⟨_, List.getElem?_eq_getElem (by omega)⟩
      refine W_skip ?_
      refine hK5 _ _ ?_
      refine W_seq fun K7 hK7 => ?_
      refine W_block ?_
      refine W_seq fun K8 hK8 => ?_
      refine W_draw (R := Ext) Ext.refl (fun _ _ _ => Ext.trans) (by kernel_rfl) [6, 13] [(0, .p, false), (1, .p, false), (2, .p, false), (3, .p, false), (4, .p, false), (5, .p, false), (6, .l, false), (7, .p, false), (8, .p, false), (9, .p, false), (10, .p, false), (11, .p, false), (12, .p, false), (13, .l, false), (14, .p, false), (15, .p, false), (16, .p, false)] rfl (by kernel_rfl) (by kernel_rfl) (fun w2 ew2 => ?_)
      have x2 : Ext w1 w2 := by rw [ew2]; exact Ext.drew _
      clear ew2
      replace hx := hx.trans x2
      refine D_mv (v := ?v6) rfl ?h6 ?k6
      case h6 => conv => lhs; whnf
      refine D_p rfl (pv_addw rfl rfl) ?_
      refine D_mv (v := ?v7) rfl ?h7 ?k7
      case h7 => conv => lhs; whnf
      refine D_mv (v := ?v8) rfl ?h8 ?k8
      case h8 => conv => lhs; whnf
      refine D_p rfl (pv_idxA (e := 28) (k := 4) (by kernel_rfl) hv.sl rfl rfl (hv.lt hk)) ?_
      refine D_p rfl (pv_fieldA (k := 0) (by kernel_rfl) rfl) ?_
      refine D_l rfl (fun w' hR => lv_load (by kernel_rfl) rfl (((hv.ext (hx.trans hR)).row hk).at rfl)) ?_
      refine D_p rfl (pv_lenS (by kernel_rfl) rfl) ?_
      refine D_p rfl (pv_addw rfl rfl) ?_
      refine D_mv (v := ?v9) rfl ?h9 ?k9
      case h9 => conv => lhs; whnf
      refine D_mv (v := ?v10) rfl ?h10 ?k10
      case h10 => conv => lhs; whnf
      refine D_p rfl (pv_idxA (e := 28) (k := 4) (by kernel_rfl) hv.sl rfl rfl (hv.lt hk)) ?_
      refine D_p rfl (pv_fieldA (k := 1) (by kernel_rfl) rfl) ?_
      refine D_l rfl (fun w' hR => lv_load (by kernel_rfl) rfl (((hv.ext (hx.trans hR)).row hk).at rfl)) ?_
      refine D_p rfl (pv_lenS (by kernel_rfl) rfl) ?_
      refine D_p rfl (pv_addw rfl rfl) ?_
      refine D_as (v := ?v11) rfl ?h11 ?k11
      case h11 => conv => lhs; whnf
      refine D_end (hK8 _ _ ?_)
      refine W_seq fun K9 hK9 => ?_
      refine W_reg [.p, .p, .p, .p, .p, .p] rfl ?_
      refine D_mv (v := ?v12) rfl ?h12 ?k12
      case h12 => conv => lhs; whnf
      refine D_p rfl (pv_gtr rfl rfl) ?_
      refine D_mv (v := ?v13) rfl ?h13 ?k13
      case h13 => conv => lhs; whnf
      refine D_splitP 29 rfl (fun c2 => ?_) (fun c2 => ?_)
      ·
        refine D_skip rfl ?_
        refine D_skip rfl ?_
        refine D_pe (v := ?v14) rfl (pv_pick rfl rfl rfl) ?h14 ?k14
        case h14 => conv => lhs; whnf
        refine D_end (hK9 _ _ ?_)
        refine W_t rfl ?_
        refine W_seq fun K10 hK10 => ?_
        refine W_reg [.p] rfl ?_
        refine D_as (v := ?v15) rfl ?h15 ?k15
        case h15 => conv => lhs; whnf
        refine D_end (hK10 _ _ ?_)
        refine W_ret ?_
        try dsimp only [then', inBlk, noGo]
        refine ret_one (v := ?v16) rfl rfl ?h16 ?k16
        case h16 => conv => lhs; whnf
        exact ⟨hx, true, rfl, fun h => by cases h⟩
      ·
        refine D_mv (v := ?v17) rfl ?h17 ?k17
        case h17 => conv => lhs; whnf
        refine D_p rfl (pv_gtr rfl rfl) ?_
        refine D_pe (v := ?v18) rfl (pv_pick rfl rfl rfl) ?h18 ?k18
        case h18 => conv => lhs; whnf
        refine D_end (hK9 _ _ ?_)
        refine W_if rfl (fun c3 => ?_) (fun c3 => ?_)
        ·
          refine W_seq fun K11 hK11 => ?_
          refine W_reg [.p] rfl ?_
          refine D_as (v := ?v19) rfl ?h19 ?k19
          case h19 => conv => lhs; whnf
          refine D_end (hK11 _ _ ?_)
          refine W_ret ?_
          try dsimp only [then', inBlk, noGo]
          refine ret_one (v := ?v20) rfl rfl ?h20 ?k20
          case h20 => conv => lhs; whnf
          exact ⟨hx, true, rfl, fun h => by cases h⟩
        ·
          refine W_skip ?_
          refine hK7 _ _ ?_
          refine W_reg [.p, .p, .p] rfl ?_
          refine D_mv (v := ?v21) rfl ?h21 ?k21
          case h21 => conv => lhs; whnf
          refine D_p rfl (pv_add rfl rfl (by unfold inI64; omega)) ?_
          refine D_as (v := ?v22) rfl ?h22 ?k22
          case h22 => conv => lhs; whnf
          refine D_end (?_)
          exact ⟨(k + 1, _), ⟨rfl, rfl, rfl, trivial⟩, ⟨hx, by omega, by omega⟩, by simp only []; omega⟩
    ·
      refine W_exit ?_
      refine hK3 _ _ ?_
      refine W_seq fun K12 hK12 => ?_
      refine W_reg [.p] rfl ?_
      refine D_as (v := ?v23) rfl ?h23 ?k23
      case h23 => conv => lhs; whnf
      refine D_end (hK12 _ _ ?_)
      refine W_ret ?_
      try dsimp only [then', inBlk, noGo]
      refine ret_one (v := ?v24) rfl rfl ?h24 ?k24
      case h24 => conv => lhs; whnf
      exact ⟨hx, false, rfl, fun _ => by omega⟩

set_option maxRecDepth 100000 in
set_option maxHeartbeats 1000000 in
theorem put_nil (c : Cell) (w : World) :
    Calls Try.prog 9 [.pointer none, c.v].toArray w (Pure w (B false)) := by
  refine calls_W Try.func9 rfl rfl rfl (by kernel_rfl) ?_
  have hx := Ext.refl w
  refine W_seq fun K1 hK1 => ?_
  refine W_reg [.x, .p] rfl ?_
  refine D_box rfl rfl rfl RX.all (fun b1 w1 e1 x1 m1 => ?_)
  have g1 : w.heap.size ≤ b1 := by have := hx.size; omega
  replace hx := hx.trans x1
  refine D_as (v := ?v1) rfl ?h1 ?k1
  case h1 => conv => lhs; whnf
  refine D_end (hK1 _ _ ?_)
  refine W_seq fun K2 hK2 => ?_
  refine W_seq fun K3 hK3 => ?_
  refine W_reg [.p, .p, .p, .l, .x, .p, .p] rfl ?_
  refine D_mv (v := ?v2) rfl ?h2 ?k2
  case h2 => conv => lhs; whnf
  refine D_p rfl (pv_eqP (by kernel_rfl) rfl rfl) ?_
  refine D_mv (v := ?v3) rfl ?h3 ?k3
  case h3 => conv => lhs; whnf
  refine D_splitP 12 rfl (fun c1 => ?_) (fun c1 => ?_)
  ·
    refine D_skip rfl ?_
    refine D_skip rfl ?_
    refine D_skip rfl ?_
    refine D_pe (v := ?v4) rfl (pv_pick rfl rfl rfl) ?h4 ?k4
    case h4 => conv => lhs; whnf
    refine D_end (hK3 _ _ ?_)
    refine W_t rfl ?_
    refine W_seq fun K4 hK4 => ?_
    refine W_reg [.p] rfl ?_
    refine D_as (v := ?v5) rfl ?h5 ?k5
    case h5 => conv => lhs; whnf
    refine D_end (hK4 _ _ ?_)
    refine W_ret ?_
    try dsimp only [then', inBlk, noGo]
    refine ret_one (v := ?v6) rfl rfl ?h6 ?k6
    case h6 => conv => lhs; whnf
    exact ⟨rfl, hx⟩
  ·
    exact absurd rfl c1

set_option maxRecDepth 100000 in
set_option maxHeartbeats 1000000 in
theorem law_nothing (c : Cell) (w : World) :
    Calls Try.prog 6 [c.v].toArray w (Pure w (B true)) := by
  refine calls_W Try.func6 rfl rfl rfl (by kernel_rfl) ?_
  have hx := Ext.refl w
  refine W_seq fun K1 hK1 => ?_
  refine W_reg [.x, .p] rfl ?_
  refine D_box rfl rfl rfl RX.all (fun b1 w1 e1 x1 m1 => ?_)
  have g1 : w.heap.size ≤ b1 := by have := hx.size; omega
  replace hx := hx.trans x1
  refine D_as (v := ?v1) rfl ?h1 ?k1
  case h1 => conv => lhs; whnf
  refine D_end (hK1 _ _ ?_)
  refine W_seq fun K2 hK2 => ?_
  refine W_seq fun K3 hK3 => ?_
  refine W_reg [.p, .l, .p, .p, .l, .p, .p, .p] rfl ?_
  refine D_p rfl (pv_fieldA (k := 0) (by kernel_rfl) rfl) ?_
  refine D_lq rfl (lv_load (by kernel_rfl) rfl (m1.at rfl)) ?_
  refine D_p rfl (pv_lenS (by kernel_rfl) rfl) ?_
  refine D_p rfl (pv_fieldA (k := 1) (by kernel_rfl) rfl) ?_
  refine D_lq rfl (lv_load (by kernel_rfl) rfl (m1.at rfl)) ?_
  refine D_p rfl (pv_lenS (by kernel_rfl) rfl) ?_
  refine D_p rfl (pv_addw rfl rfl) ?_
  refine D_p rfl (pv_gtr rfl rfl) ?_
  refine D_end (hK3 _ _ ?_)
  refine W_if rfl (fun c1 => ?_) (fun c1 => ?_)
  ·
    refine W_seq fun K4 hK4 => ?_
    refine W_reg [.p] rfl ?_
    refine D_as (v := ?v2) rfl ?h2 ?k2
    case h2 => conv => lhs; whnf
    refine D_end (hK4 _ _ ?_)
    refine W_ret ?_
    try dsimp only [then', inBlk, noGo]
    refine ret_one (v := ?v3) rfl rfl ?h3 ?k3
    case h3 => conv => lhs; whnf
    first
    | exact ⟨rfl, hx⟩
    | exact absurd ((eqL_cell Cell.zero Cell.zero).symm.trans c3) (by decide)
    | exact absurd c8 (by decide)
    | exact absurd c7 (by decide)
    | exact absurd c6 (by decide)
    | exact absurd c5 (by decide)
    | exact absurd c4 (by decide)
    | exact absurd c3 (by decide)
    | exact absurd c2 (by decide)
  ·
    refine W_skip ?_
    refine hK2 _ _ ?_
    refine W_seq fun K5 hK5 => ?_
    refine W_reg [.p] rfl ?_
    refine D_as (v := ?v4) rfl ?h4 ?k4
    case h4 => conv => lhs; whnf
    refine D_end (hK5 _ _ ?_)
    refine W_seq fun K6 hK6 => ?_
    refine W_reg [.p, .p, .l, .p, .l, .x, .p, .p, .p, .x, .x, .p] rfl ?_
    refine D_mv (v := ?v5) rfl ?h5 ?k5
    case h5 => conv => lhs; whnf
    refine D_p rfl (pv_fieldA (k := 0) (by kernel_rfl) rfl) ?_
    refine D_lq rfl (lv_load (by kernel_rfl) rfl (m1.at rfl)) ?_
    refine D_p rfl (pv_fieldA (k := 3) (by kernel_rfl) rfl) ?_
    refine D_lq rfl (lv_load (by kernel_rfl) rfl (m1.at rfl)) ?_
    refine D_callP rfl (by kernel_rfl) (get_nil c.key c.seq _) rfl RX.all (fun w2 x2 => ?_)
    replace m1 := m1.ext x2
    replace hx := hx.trans x2
    refine D_mv (v := ?v6) rfl ?h6 ?k6
    case h6 => conv => lhs; whnf
    refine D_p rfl (pv_ext rfl rfl) ?_
    refine D_p rfl (pv_ext rfl rfl) ?_
    refine D_alloc (cs := [S [], S [], B false, .int .i64 0]) rfl (by kernel_rfl) RX.all (fun b2 w3 e2 x3 m2 => ?_)
    have g2 : w.heap.size ≤ b2 := by have := hx.size; omega
    have n2_1 : b1 < b2 := by have := m1.lt; omega
    replace m1 := m1.ext x3
    replace hx := hx.trans x3
    refine D_store (v := ?v7) (vs := ?u7) rfl rfl ?h7 ?c7 ?s7 m2 ?o7 ?n7 (.inl rfl) (fun w4 x4 xs4 m2 => ?k7)
    case h7 => conv => lhs; whnf
    case c7 => exact rfl
    case s7 => kernel_rfl
    case o7 => exact Nat.le_of_ble_eq_true rfl
    case n7 => simp [Value.oneCell']
    try dsimp only [setAt, List.set, List.take, List.drop] at m2
    try replace m1 := m1.mod x4 (by first | assumption | (intro k hk h; have h1 := (m1.lt k hk).1; have h2 : k = b2 := h; omega) | (intro k hk h; have h1 := o2_m1 k hk; have h2 : k = b2 := h; omega) | (intro h; have h2 : _ = b2 := h; omega) | (intro hl h; have h1 := a2_m1 hl; have h2 : _ = b2 := h; omega))
    replace hx := hx.own x4 (by intro i hi; have hi2 : i = b2 := hi; subst hi2; omega)
    refine D_as (v := ?v8) rfl ?h8 ?k8
    case h8 => conv => lhs; whnf
    refine D_end (hK6 _ _ ?_)
    refine W_seq fun K7 hK7 => ?_
    refine W_reg [.p, .l, .x, .p, .p, .l, .p, .p, .p, .p, .p, .p, .p, .p, .p, .x, .p, .p, .p, .p, .p, .x, .p, .p, .p, .p, .p, .x, .p, .p, .p, .p, .x, .p, .p, .p, .x, .p, .p] rfl ?_
    refine D_mv (v := ?v9) rfl ?h9 ?k9
    case h9 => conv => lhs; whnf
    refine D_lq rfl (lv_loadA (k := 4) (by kernel_rfl) rfl rfl m1.row) ?_
    refine D_callP rfl (by kernel_rfl) (put_nil c _) rfl RX.all (fun w5 x5 => ?_)
    replace m1 := m1.ext x5
    replace m2 := m2.ext x5
    replace hx := hx.trans x5
    refine D_pe (v := ?v10) rfl (pv_not rfl) ?h10 ?k10
    case h10 => conv => lhs; whnf
    refine D_mv (v := ?v11) rfl ?h11 ?k11
    case h11 => conv => lhs; whnf
    refine D_split 27 rfl (fun c2 => ?_) (fun c2 => ?_)
    ·
      refine D_lq rfl (lv_loadA (k := 4) (by kernel_rfl) rfl rfl m2.row) ?_
      refine D_p rfl (pv_build (zs := [S [], S [], B false, .int .i64 0]) (pl := [(0, 1), (1, 1), (2, 1), (3, 1)]) (pv := []) (cs := [S [], S [], B false, .int .i64 0]) (by kernel_rfl) (by kernel_rfl) ?h12 ?f12) ?k12
      case h12 => exact trivial
      case f12 => rfl
      refine D_p rfl (pv_eqA (ts := [9, 9, 4, 3]) (by kernel_rfl) rfl rfl ⟨by kernel_rfl, by kernel_rfl, by kernel_rfl, by kernel_rfl, trivial⟩ ⟨by kernel_rfl, by kernel_rfl, by kernel_rfl, by kernel_rfl, trivial⟩) ?_
      refine D_pe (v := ?v13) rfl (pv_pick rfl rfl rfl) ?h13 ?k13
      case h13 => conv => lhs; whnf
      refine D_mv (v := ?v14) rfl ?h14 ?k14
      case h14 => conv => lhs; whnf
      refine D_split 32 rfl (fun c3 => ?_) (fun c3 => ?_)
      ·
        refine D_mv (v := ?v15) rfl ?h15 ?k15
        case h15 => conv => lhs; whnf
        refine D_pe (v := ?v16) rfl (pv_not rfl) ?h16 ?k16
        case h16 => conv => lhs; whnf
        refine D_pe (v := ?v17) rfl (pv_pick rfl rfl rfl) ?h17 ?k17
        case h17 => conv => lhs; whnf
        refine D_mv (v := ?v18) rfl ?h18 ?k18
        case h18 => conv => lhs; whnf
        refine D_split 36 rfl (fun c4 => ?_) (fun c4 => ?_)
        ·
          refine D_mv (v := ?v19) rfl ?h19 ?k19
          case h19 => conv => lhs; whnf
          refine D_callP rfl (by kernel_rfl) (scan_nil [] [] _) rfl RX.all (fun w6 x6 => ?_)
          replace m1 := m1.ext x6
          replace m2 := m2.ext x6
          replace hx := hx.trans x6
          refine D_p rfl (pv_lenV (e := 28) (k := 4) (by kernel_rfl) nilS.sl rfl) ?_
          refine D_p rfl (pv_eql rfl rfl) ?_
          refine D_pe (v := ?v20) rfl (pv_pick rfl rfl rfl) ?h20 ?k20
          case h20 => conv => lhs; whnf
          refine D_mv (v := ?v21) rfl ?h21 ?k21
          case h21 => conv => lhs; whnf
          refine D_splitP 42 rfl (fun c5 => ?_) (fun c5 => ?_)
          ·
            refine D_mv (v := ?v22) rfl ?h22 ?k22
            case h22 => conv => lhs; whnf
            refine D_callP rfl (by kernel_rfl) (all_nil _) rfl RX.all (fun w7 x7 => ?_)
            replace m1 := m1.ext x7
            replace m2 := m2.ext x7
            replace hx := hx.trans x7
            refine D_p rfl (pv_lenV (e := 28) (k := 4) (by kernel_rfl) nilS.sl rfl) ?_
            refine D_p rfl (pv_eql rfl rfl) ?_
            refine D_pe (v := ?v23) rfl (pv_pick rfl rfl rfl) ?h23 ?k23
            case h23 => conv => lhs; whnf
            refine D_mv (v := ?v24) rfl ?h24 ?k24
            case h24 => conv => lhs; whnf
            refine D_splitP 48 rfl (fun c6 => ?_) (fun c6 => ?_)
            ·
              refine D_mv (v := ?v25) rfl ?h25 ?k25
              case h25 => conv => lhs; whnf
              refine D_callP rfl (by kernel_rfl) (msize_nil _) rfl RX.all (fun w8 x8 => ?_)
              replace m1 := m1.ext x8
              replace m2 := m2.ext x8
              replace hx := hx.trans x8
              refine D_p rfl (pv_eql rfl rfl) ?_
              refine D_pe (v := ?v26) rfl (pv_pick rfl rfl rfl) ?h26 ?k26
              case h26 => conv => lhs; whnf
              refine D_mv (v := ?v27) rfl ?h27 ?k27
              case h27 => conv => lhs; whnf
              refine D_splitP 53 rfl (fun c7 => ?_) (fun c7 => ?_)
              ·
                refine D_mv (v := ?v28) rfl ?h28 ?k28
                case h28 => conv => lhs; whnf
                refine D_callP rfl (by kernel_rfl) (mlen_nil _) rfl RX.all (fun w9 x9 => ?_)
                replace m1 := m1.ext x9
                replace m2 := m2.ext x9
                replace hx := hx.trans x9
                refine D_p rfl (pv_eql rfl rfl) ?_
                refine D_pe (v := ?v29) rfl (pv_pick rfl rfl rfl) ?h29 ?k29
                case h29 => conv => lhs; whnf
                refine D_mv (v := ?v30) rfl ?h30 ?k30
                case h30 => conv => lhs; whnf
                refine D_splitP 58 rfl (fun c8 => ?_) (fun c8 => ?_)
                ·
                  refine D_callP rfl (by kernel_rfl) (known_w _) rfl RX.all (fun w10 x10 => ?_)
                  replace m1 := m1.ext x10
                  replace m2 := m2.ext x10
                  replace hx := hx.trans x10
                  refine D_pe (v := ?v31) rfl (pv_pick rfl rfl rfl) ?h31 ?k31
                  case h31 => conv => lhs; whnf
                  refine D_as (v := ?v32) rfl ?h32 ?k32
                  case h32 => conv => lhs; whnf
                  refine D_end (hK7 _ _ ?_)
                  refine W_ret ?_
                  try dsimp only [then', inBlk, noGo]
                  refine ret_one (v := ?v33) rfl rfl ?h33 ?k33
                  case h33 => conv => lhs; whnf
                  first
                  | exact ⟨rfl, hx⟩
                  | exact absurd ((eqL_cell Cell.zero Cell.zero).symm.trans c3) (by decide)
                  | exact absurd c8 (by decide)
                  | exact absurd c7 (by decide)
                  | exact absurd c6 (by decide)
                  | exact absurd c5 (by decide)
                  | exact absurd c4 (by decide)
                  | exact absurd c3 (by decide)
                  | exact absurd c2 (by decide)
                ·
                  refine D_skip rfl ?_
                  refine D_pe (v := ?v34) rfl (pv_pick rfl rfl rfl) ?h34 ?k34
                  case h34 => conv => lhs; whnf
                  refine D_as (v := ?v35) rfl ?h35 ?k35
                  case h35 => conv => lhs; whnf
                  refine D_end (hK7 _ _ ?_)
                  refine W_ret ?_
                  try dsimp only [then', inBlk, noGo]
                  refine ret_one (v := ?v36) rfl rfl ?h36 ?k36
                  case h36 => conv => lhs; whnf
                  first
                  | exact ⟨rfl, hx⟩
                  | exact absurd ((eqL_cell Cell.zero Cell.zero).symm.trans c3) (by decide)
                  | exact absurd c8 (by decide)
                  | exact absurd c7 (by decide)
                  | exact absurd c6 (by decide)
                  | exact absurd c5 (by decide)
                  | exact absurd c4 (by decide)
                  | exact absurd c3 (by decide)
                  | exact absurd c2 (by decide)
              ·
                refine D_skip rfl ?_
                refine D_skip rfl ?_
                refine D_skip rfl ?_
                refine D_pe (v := ?v37) rfl (pv_pick rfl rfl rfl) ?h37 ?k37
                case h37 => conv => lhs; whnf
                refine D_mv (v := ?v38) rfl ?h38 ?k38
                case h38 => conv => lhs; whnf
                refine D_skip rfl ?_
                refine D_pe (v := ?v39) rfl (pv_pick rfl rfl rfl) ?h39 ?k39
                case h39 => conv => lhs; whnf
                refine D_as (v := ?v40) rfl ?h40 ?k40
                case h40 => conv => lhs; whnf
                refine D_end (hK7 _ _ ?_)
                refine W_ret ?_
                try dsimp only [then', inBlk, noGo]
                refine ret_one (v := ?v41) rfl rfl ?h41 ?k41
                case h41 => conv => lhs; whnf
                first
                | exact ⟨rfl, hx⟩
                | exact absurd ((eqL_cell Cell.zero Cell.zero).symm.trans c3) (by decide)
                | exact absurd c8 (by decide)
                | exact absurd c7 (by decide)
                | exact absurd c6 (by decide)
                | exact absurd c5 (by decide)
                | exact absurd c4 (by decide)
                | exact absurd c3 (by decide)
                | exact absurd c2 (by decide)
            ·
              refine D_skip rfl ?_
              refine D_skip rfl ?_
              refine D_skip rfl ?_
              refine D_pe (v := ?v42) rfl (pv_pick rfl rfl rfl) ?h42 ?k42
              case h42 => conv => lhs; whnf
              refine D_mv (v := ?v43) rfl ?h43 ?k43
              case h43 => conv => lhs; whnf
              refine D_skip rfl ?_
              refine D_skip rfl ?_
              refine D_skip rfl ?_
              refine D_pe (v := ?v44) rfl (pv_pick rfl rfl rfl) ?h44 ?k44
              case h44 => conv => lhs; whnf
              refine D_mv (v := ?v45) rfl ?h45 ?k45
              case h45 => conv => lhs; whnf
              refine D_skip rfl ?_
              refine D_pe (v := ?v46) rfl (pv_pick rfl rfl rfl) ?h46 ?k46
              case h46 => conv => lhs; whnf
              refine D_as (v := ?v47) rfl ?h47 ?k47
              case h47 => conv => lhs; whnf
              refine D_end (hK7 _ _ ?_)
              refine W_ret ?_
              try dsimp only [then', inBlk, noGo]
              refine ret_one (v := ?v48) rfl rfl ?h48 ?k48
              case h48 => conv => lhs; whnf
              first
              | exact ⟨rfl, hx⟩
              | exact absurd ((eqL_cell Cell.zero Cell.zero).symm.trans c3) (by decide)
              | exact absurd c8 (by decide)
              | exact absurd c7 (by decide)
              | exact absurd c6 (by decide)
              | exact absurd c5 (by decide)
              | exact absurd c4 (by decide)
              | exact absurd c3 (by decide)
              | exact absurd c2 (by decide)
          ·
            refine D_skip rfl ?_
            refine D_skip rfl ?_
            refine D_skip rfl ?_
            refine D_skip rfl ?_
            refine D_pe (v := ?v49) rfl (pv_pick rfl rfl rfl) ?h49 ?k49
            case h49 => conv => lhs; whnf
            refine D_mv (v := ?v50) rfl ?h50 ?k50
            case h50 => conv => lhs; whnf
            refine D_skip rfl ?_
            refine D_skip rfl ?_
            refine D_skip rfl ?_
            refine D_pe (v := ?v51) rfl (pv_pick rfl rfl rfl) ?h51 ?k51
            case h51 => conv => lhs; whnf
            refine D_mv (v := ?v52) rfl ?h52 ?k52
            case h52 => conv => lhs; whnf
            refine D_skip rfl ?_
            refine D_skip rfl ?_
            refine D_skip rfl ?_
            refine D_pe (v := ?v53) rfl (pv_pick rfl rfl rfl) ?h53 ?k53
            case h53 => conv => lhs; whnf
            refine D_mv (v := ?v54) rfl ?h54 ?k54
            case h54 => conv => lhs; whnf
            refine D_skip rfl ?_
            refine D_pe (v := ?v55) rfl (pv_pick rfl rfl rfl) ?h55 ?k55
            case h55 => conv => lhs; whnf
            refine D_as (v := ?v56) rfl ?h56 ?k56
            case h56 => conv => lhs; whnf
            refine D_end (hK7 _ _ ?_)
            refine W_ret ?_
            try dsimp only [then', inBlk, noGo]
            refine ret_one (v := ?v57) rfl rfl ?h57 ?k57
            case h57 => conv => lhs; whnf
            first
            | exact ⟨rfl, hx⟩
            | exact absurd ((eqL_cell Cell.zero Cell.zero).symm.trans c3) (by decide)
            | exact absurd c8 (by decide)
            | exact absurd c7 (by decide)
            | exact absurd c6 (by decide)
            | exact absurd c5 (by decide)
            | exact absurd c4 (by decide)
            | exact absurd c3 (by decide)
            | exact absurd c2 (by decide)
        ·
          refine D_skip rfl ?_
          refine D_skip rfl ?_
          refine D_skip rfl ?_
          refine D_skip rfl ?_
          refine D_pe (v := ?v58) rfl (pv_pick rfl rfl rfl) ?h58 ?k58
          case h58 => conv => lhs; whnf
          refine D_mv (v := ?v59) rfl ?h59 ?k59
          case h59 => conv => lhs; whnf
          refine D_skip rfl ?_
          refine D_skip rfl ?_
          refine D_skip rfl ?_
          refine D_skip rfl ?_
          refine D_pe (v := ?v60) rfl (pv_pick rfl rfl rfl) ?h60 ?k60
          case h60 => conv => lhs; whnf
          refine D_mv (v := ?v61) rfl ?h61 ?k61
          case h61 => conv => lhs; whnf
          refine D_skip rfl ?_
          refine D_skip rfl ?_
          refine D_skip rfl ?_
          refine D_pe (v := ?v62) rfl (pv_pick rfl rfl rfl) ?h62 ?k62
          case h62 => conv => lhs; whnf
          refine D_mv (v := ?v63) rfl ?h63 ?k63
          case h63 => conv => lhs; whnf
          refine D_skip rfl ?_
          refine D_skip rfl ?_
          refine D_skip rfl ?_
          refine D_pe (v := ?v64) rfl (pv_pick rfl rfl rfl) ?h64 ?k64
          case h64 => conv => lhs; whnf
          refine D_mv (v := ?v65) rfl ?h65 ?k65
          case h65 => conv => lhs; whnf
          refine D_skip rfl ?_
          refine D_pe (v := ?v66) rfl (pv_pick rfl rfl rfl) ?h66 ?k66
          case h66 => conv => lhs; whnf
          refine D_as (v := ?v67) rfl ?h67 ?k67
          case h67 => conv => lhs; whnf
          refine D_end (hK7 _ _ ?_)
          refine W_ret ?_
          try dsimp only [then', inBlk, noGo]
          refine ret_one (v := ?v68) rfl rfl ?h68 ?k68
          case h68 => conv => lhs; whnf
          first
          | exact ⟨rfl, hx⟩
          | exact absurd ((eqL_cell Cell.zero Cell.zero).symm.trans c3) (by decide)
          | exact absurd c8 (by decide)
          | exact absurd c7 (by decide)
          | exact absurd c6 (by decide)
          | exact absurd c5 (by decide)
          | exact absurd c4 (by decide)
          | exact absurd c3 (by decide)
          | exact absurd c2 (by decide)
      ·
        refine D_skip rfl ?_
        refine D_skip rfl ?_
        refine D_pe (v := ?v69) rfl (pv_pick rfl rfl rfl) ?h69 ?k69
        case h69 => conv => lhs; whnf
        refine D_mv (v := ?v70) rfl ?h70 ?k70
        case h70 => conv => lhs; whnf
        refine D_skip rfl ?_
        refine D_skip rfl ?_
        refine D_skip rfl ?_
        refine D_skip rfl ?_
        refine D_pe (v := ?v71) rfl (pv_pick rfl rfl rfl) ?h71 ?k71
        case h71 => conv => lhs; whnf
        refine D_mv (v := ?v72) rfl ?h72 ?k72
        case h72 => conv => lhs; whnf
        refine D_skip rfl ?_
        refine D_skip rfl ?_
        refine D_skip rfl ?_
        refine D_skip rfl ?_
        refine D_pe (v := ?v73) rfl (pv_pick rfl rfl rfl) ?h73 ?k73
        case h73 => conv => lhs; whnf
        refine D_mv (v := ?v74) rfl ?h74 ?k74
        case h74 => conv => lhs; whnf
        refine D_skip rfl ?_
        refine D_skip rfl ?_
        refine D_skip rfl ?_
        refine D_pe (v := ?v75) rfl (pv_pick rfl rfl rfl) ?h75 ?k75
        case h75 => conv => lhs; whnf
        refine D_mv (v := ?v76) rfl ?h76 ?k76
        case h76 => conv => lhs; whnf
        refine D_skip rfl ?_
        refine D_skip rfl ?_
        refine D_skip rfl ?_
        refine D_pe (v := ?v77) rfl (pv_pick rfl rfl rfl) ?h77 ?k77
        case h77 => conv => lhs; whnf
        refine D_mv (v := ?v78) rfl ?h78 ?k78
        case h78 => conv => lhs; whnf
        refine D_skip rfl ?_
        refine D_pe (v := ?v79) rfl (pv_pick rfl rfl rfl) ?h79 ?k79
        case h79 => conv => lhs; whnf
        refine D_as (v := ?v80) rfl ?h80 ?k80
        case h80 => conv => lhs; whnf
        refine D_end (hK7 _ _ ?_)
        refine W_ret ?_
        try dsimp only [then', inBlk, noGo]
        refine ret_one (v := ?v81) rfl rfl ?h81 ?k81
        case h81 => conv => lhs; whnf
        first
        | exact ⟨rfl, hx⟩
        | exact absurd ((eqL_cell Cell.zero Cell.zero).symm.trans c3) (by decide)
        | exact absurd c8 (by decide)
        | exact absurd c7 (by decide)
        | exact absurd c6 (by decide)
        | exact absurd c5 (by decide)
        | exact absurd c4 (by decide)
        | exact absurd c3 (by decide)
        | exact absurd c2 (by decide)
    ·
      refine D_skip rfl ?_
      refine D_skip rfl ?_
      refine D_skip rfl ?_
      refine D_pe (v := ?v82) rfl (pv_pick rfl rfl rfl) ?h82 ?k82
      case h82 => conv => lhs; whnf
      refine D_mv (v := ?v83) rfl ?h83 ?k83
      case h83 => conv => lhs; whnf
      refine D_skip rfl ?_
      refine D_skip rfl ?_
      refine D_pe (v := ?v84) rfl (pv_pick rfl rfl rfl) ?h84 ?k84
      case h84 => conv => lhs; whnf
      refine D_mv (v := ?v85) rfl ?h85 ?k85
      case h85 => conv => lhs; whnf
      refine D_skip rfl ?_
      refine D_skip rfl ?_
      refine D_skip rfl ?_
      refine D_skip rfl ?_
      refine D_pe (v := ?v86) rfl (pv_pick rfl rfl rfl) ?h86 ?k86
      case h86 => conv => lhs; whnf
      refine D_mv (v := ?v87) rfl ?h87 ?k87
      case h87 => conv => lhs; whnf
      refine D_skip rfl ?_
      refine D_skip rfl ?_
      refine D_skip rfl ?_
      refine D_skip rfl ?_
      refine D_pe (v := ?v88) rfl (pv_pick rfl rfl rfl) ?h88 ?k88
      case h88 => conv => lhs; whnf
      refine D_mv (v := ?v89) rfl ?h89 ?k89
      case h89 => conv => lhs; whnf
      refine D_skip rfl ?_
      refine D_skip rfl ?_
      refine D_skip rfl ?_
      refine D_pe (v := ?v90) rfl (pv_pick rfl rfl rfl) ?h90 ?k90
      case h90 => conv => lhs; whnf
      refine D_mv (v := ?v91) rfl ?h91 ?k91
      case h91 => conv => lhs; whnf
      refine D_skip rfl ?_
      refine D_skip rfl ?_
      refine D_skip rfl ?_
      refine D_pe (v := ?v92) rfl (pv_pick rfl rfl rfl) ?h92 ?k92
      case h92 => conv => lhs; whnf
      refine D_mv (v := ?v93) rfl ?h93 ?k93
      case h93 => conv => lhs; whnf
      refine D_skip rfl ?_
      refine D_pe (v := ?v94) rfl (pv_pick rfl rfl rfl) ?h94 ?k94
      case h94 => conv => lhs; whnf
      refine D_as (v := ?v95) rfl ?h95 ?k95
      case h95 => conv => lhs; whnf
      refine D_end (hK7 _ _ ?_)
      refine W_ret ?_
      try dsimp only [then', inBlk, noGo]
      refine ret_one (v := ?v96) rfl rfl ?h96 ?k96
      case h96 => conv => lhs; whnf
      first
      | exact ⟨rfl, hx⟩
      | exact absurd ((eqL_cell Cell.zero Cell.zero).symm.trans c3) (by decide)
      | exact absurd c8 (by decide)
      | exact absurd c7 (by decide)
      | exact absurd c6 (by decide)
      | exact absurd c5 (by decide)
      | exact absurd c4 (by decide)
      | exact absurd c3 (by decide)
      | exact absurd c2 (by decide)

set_option maxRecDepth 100000 in
set_option maxHeartbeats 1000000 in
theorem law_newest (ss : List Int) (v : Value) (at' : Int) (w : World) (hv : Arr (fun n => [I n]) 1 w v ss) (hl : ss.length ≤ 9223372036854775807) :
    Calls Try.prog 3 [v, I at'].toArray w (Pure w (B true)) := by
  refine calls_W Try.func3 rfl rfl rfl (by kernel_rfl) ?_
  have hx := Ext.refl w
  refine W_seq fun K1 hK1 => ?_
  refine W_reg [.p] rfl ?_
  refine D_as (v := ?v1) rfl ?h1 ?k1
  case h1 => conv => lhs; whnf
  refine D_end (hK1 _ _ ?_)
  refine W_seq fun K2 hK2 => ?_
  refine W_seq fun K3 hK3 => ?_
  refine W_reg [.p, .p, .p] rfl ?_
  refine D_mv (v := ?v2) rfl ?h2 ?k2
  case h2 => conv => lhs; whnf
  refine D_p rfl (pv_lenV (e := 3) (k := 1) (by kernel_rfl) hv.sl rfl) ?_
  refine D_p rfl (pv_gtr rfl rfl) ?_
  refine D_end (hK3 _ _ ?_)
  refine W_if rfl (fun c1 => ?_) (fun c1 => ?_)
  ·
    refine W_seq fun K4 hK4 => ?_
    refine W_reg [.p] rfl ?_
    refine D_as (v := ?v3) rfl ?h3 ?k3
    case h3 => conv => lhs; whnf
    refine D_end (hK4 _ _ ?_)
    refine W_ret ?_
    try dsimp only [then', inBlk, noGo]
    refine ret_one (v := ?v4) rfl rfl ?h4 ?k4
    case h4 => conv => lhs; whnf
    first
    | exact ⟨rfl, hx⟩
    | exact absurd hnew.1 c7
    | exact absurd hnew.2 c8
    | (rw [hoth] at c9; cases c9)
  ·
    refine W_skip ?_
    refine hK2 _ _ ?_
    refine W_seq fun K5 hK5 => ?_
    refine W_reg [.x, .p] rfl ?_
    refine D_callG rfl (by kernel_rfl) (new_w [] _ _ Arr.nil (by simp)) rfl RX.all (fun v1 w1 x1 hf1 => ?_)
    have hsz1 := hx.size
    replace hx := hx.trans x1
    obtain ⟨bm, rfl, hR⟩ := hf1
    have hG0 := hR.ge hsz1
    refine D_as (v := ?v5) rfl ?h5 ?k5
    case h5 => conv => lhs; whnf
    refine D_end (hK5 _ _ ?_)
    refine W_seq fun K6 hK6 => ?_
    refine W_seq fun K7 hK7 => ?_
    refine W_reg [.p, .p] rfl ?_
    refine D_mv (v := ?v6) rfl ?h6 ?k6
    case h6 => conv => lhs; whnf
    refine D_p rfl (pv_eqP (by kernel_rfl) rfl rfl) ?_
    refine D_end (hK7 _ _ ?_)
    refine W_if rfl (fun c2 => ?_) (fun c2 => ?_)
    ·
      cases c2
    ·
      refine W_skip ?_
      refine hK6 _ _ ?_
      refine W_seq fun K8 hK8 => ?_
      refine W_reg [.p] rfl ?_
      refine D_as (v := ?v7) rfl ?h7 ?k7
      case h7 => conv => lhs; whnf
      refine D_end (hK8 _ _ ?_)
      refine W_seq fun K9 hK9 => ?_
      refine W_seq fun K10 hK10 => ?_
      refine W_reg [.p] rfl ?_
      refine D_as (v := ?v8) rfl ?h8 ?k8
      case h8 => conv => lhs; whnf
      refine D_end (hK10 _ _ ?_)
      refine W_block ?_
      refine W_loop (G := Nat × List Cell × Int × (Nat → Prop)) (fun (k, l, best, F) => [(0, v), (1, I at'), (5, ptr bm 0), (6, I best), (7, I ↑k)]) (fun (k, l, best, F) w' => Ext w w' ∧ k ≤ ss.length ∧ MRep F w' bm l ∧ (∀ j, F j → w.heap.size ≤ j) ∧ l.length ≤ k ∧ sizeL l ≤ 18 * k ∧ Newest l at' best) (fun (k, l, best, F) => ss.length - k) (0, [], 0, (fun j => w.heap.size ≤ j ∧ j < w1.heap.size)) ?_ ?_ ?_
      · exact ⟨rfl, rfl, rfl, rfl, rfl, trivial⟩
      · exact ⟨hx, Nat.zero_le _, hR, hG0, Nat.le_refl _, Nat.le_refl _, Newest.nil _⟩
      · intro X2 g2 w2 hF2
        obtain ⟨k, l, best, F⟩ := g2
        clear hx hR
        obtain ⟨hx, hk1, hR, hG, hll, hsl, hN⟩ := hF2
        refine W_seq fun K11 hK11 => ?_
        refine W_seq fun K12 hK12 => ?_
        refine W_reg [.p, .p, .p, .p] rfl ?_
        refine D_mv (v := ?v9) rfl ?h9 ?k9
        case h9 => conv => lhs; whnf
        refine D_mv (v := ?v10) rfl ?h10 ?k10
        case h10 => conv => lhs; whnf
        refine D_p rfl (pv_lenV (e := 3) (k := 1) (by kernel_rfl) hv.sl rfl) ?_
        refine D_p rfl (pv_lss rfl rfl) ?_
        refine D_end (hK12 _ _ ?_)
        refine W_if rfl (fun c3 => ?_) (fun c3 => ?_)
        ·
          obtain ⟨s, hk⟩ : ∃ s, ss[k]? = some s := ⟨_, List.getElem?_eq_getElem (by omega)⟩
          refine W_skip ?_
          refine hK11 _ _ ?_
          refine W_seq fun K13 hK13 => ?_
          refine W_block ?_
          refine W_seq fun K14 hK14 => ?_
          refine W_seq fun K15 hK15 => ?_
          refine W_reg [.p, .p, .p, .l, .p, .p, .p, .p, .p, .l, .p, .p] rfl ?_
          refine D_mv (v := ?v11) rfl ?h11 ?k11
          case h11 => conv => lhs; whnf
          refine D_mv (v := ?v12) rfl ?h12 ?k12
          case h12 => conv => lhs; whnf
          refine D_p rfl (pv_idxA (e := 3) (k := 1) (by kernel_rfl) hv.sl rfl rfl (hv.lt hk)) ?_
          refine D_lq rfl (lv_load (by kernel_rfl) rfl (((hv.ext hx).row hk).at0 rfl)) ?_
          refine D_p rfl (pv_lss rfl rfl) ?_
          refine D_mv (v := ?v13) rfl ?h13 ?k13
          case h13 => conv => lhs; whnf
          refine D_splitP 29 rfl (fun c4 => ?_) (fun c4 => ?_)
          ·
            refine D_skip rfl ?_
            refine D_skip rfl ?_
            refine D_skip rfl ?_
            refine D_skip rfl ?_
            refine D_skip rfl ?_
            refine D_pe (v := ?v14) rfl (pv_pick rfl rfl rfl) ?h14 ?k14
            case h14 => conv => lhs; whnf
            refine D_end (hK15 _ _ ?_)
            refine W_t rfl ?_
            refine W_seq fun K16 hK16 => ?_
            refine W_reg [.x, .p] rfl ?_
            refine D_callP rfl (by kernel_rfl) (known_w _) rfl RX.all (fun w3 x3 => ?_)
            replace hR := hR.ext x3
            replace hx := hx.trans x3
            refine D_as (v := ?v15) rfl ?h15 ?k15
            case h15 => conv => lhs; whnf
            refine D_end (hK16 _ _ ?_)
            refine W_ret ?_
            try dsimp only [then', inBlk, noGo]
            refine ret_one (v := ?v16) rfl rfl ?h16 ?k16
            case h16 => conv => lhs; whnf
            first
            | exact ⟨rfl, hx⟩
            | exact absurd hnew.1 c7
            | exact absurd hnew.2 c8
            | (rw [hoth] at c9; cases c9)
          ·
            refine D_mv (v := ?v17) rfl ?h17 ?k17
            case h17 => conv => lhs; whnf
            refine D_mv (v := ?v18) rfl ?h18 ?k18
            case h18 => conv => lhs; whnf
            refine D_p rfl (pv_idxA (e := 3) (k := 1) (by kernel_rfl) hv.sl rfl rfl (hv.lt hk)) ?_
            refine D_lq rfl (lv_load (by kernel_rfl) rfl (((hv.ext hx).row hk).at0 rfl)) ?_
            refine D_p rfl (pv_gtr rfl rfl) ?_
            refine D_pe (v := ?v19) rfl (pv_pick rfl rfl rfl) ?h19 ?k19
            case h19 => conv => lhs; whnf
            refine D_end (hK15 _ _ ?_)
            refine W_if rfl (fun c5 => ?_) (fun c5 => ?_)
            ·
              refine W_seq fun K17 hK17 => ?_
              refine W_reg [.x, .p] rfl ?_
              refine D_callP rfl (by kernel_rfl) (known_w _) rfl RX.all (fun w4 x4 => ?_)
              replace hR := hR.ext x4
              replace hx := hx.trans x4
              refine D_as (v := ?v20) rfl ?h20 ?k20
              case h20 => conv => lhs; whnf
              refine D_end (hK17 _ _ ?_)
              refine W_ret ?_
              try dsimp only [then', inBlk, noGo]
              refine ret_one (v := ?v21) rfl rfl ?h21 ?k21
              case h21 => conv => lhs; whnf
              first
              | exact ⟨rfl, hx⟩
              | exact absurd hnew.1 c7
              | exact absurd hnew.2 c8
              | (rw [hoth] at c9; cases c9)
            ·
              refine W_skip ?_
              refine hK14 _ _ ?_
              refine W_seq fun K18 hK18 => ?_
              refine W_reg [.p, .p, .p, .p, .l, .p, .x] rfl ?_
              refine D_mv (v := ?v22) rfl ?h22 ?k22
              case h22 => conv => lhs; whnf
              refine D_mv (v := ?v23) rfl ?h23 ?k23
              case h23 => conv => lhs; whnf
              refine D_mv (v := ?v24) rfl ?h24 ?k24
              case h24 => conv => lhs; whnf
              refine D_p rfl (pv_idxA (e := 3) (k := 1) (by kernel_rfl) hv.sl rfl rfl (hv.lt hk)) ?_
              refine D_lq rfl (lv_load (by kernel_rfl) rfl (((hv.ext hx).row hk).at0 rfl)) ?_
              refine D_p rfl (pv_build (zs := [S [], S [], B false, .int .i64 0]) (pl := [(0, 1), (1, 1), (2, 1), (3, 1)]) (pv := [(0, ?a25_0), (1, ?a25_1), (3, ?a25_2)]) (cs := [?a25_0, ?a25_1, B false, ?a25_2]) (by kernel_rfl) (by kernel_rfl) ?h25 ?f25) ?k25
              case h25 => refine ⟨rfl, ?_, rfl, ?_, rfl, ?_, trivial⟩ <;> (conv => lhs; whnf)
              case f25 => rfl
              refine D_callD rfl (by kernel_rfl) (hR.calls_put ⟨[97], [120], false, s⟩ _ (by omega) (by omega)) rfl (.inl rfl) (fun v5 w5 x5 hf5 => ?_)
              have hsz5 := hx.size
              replace hx := hx.own x5 (fun i hi => hG i hi)
              obtain ⟨rfl, hR2⟩ := hf5
              have hG2 := more_ge (w' := w5) hG hsz5
              have hpl := put_len l ⟨[97], [120], false, s⟩
              have hsc : sizeC ⟨[97], [120], false, s⟩ = 18 := rfl
              refine D_end (hK18 _ _ ?_)
              refine W_seq fun K19 hK19 => ?_
              refine W_reg [.p, .p, .p, .l, .p, .p] rfl ?_
              refine D_mv (v := ?v26) rfl ?h26 ?k26
              case h26 => conv => lhs; whnf
              refine D_mv (v := ?v27) rfl ?h27 ?k27
              case h27 => conv => lhs; whnf
              refine D_p rfl (pv_idxA (e := 3) (k := 1) (by kernel_rfl) hv.sl rfl rfl (hv.lt hk)) ?_
              refine D_lq rfl (lv_load (by kernel_rfl) rfl (((hv.ext hx).row hk).at0 rfl)) ?_
              refine D_mv (v := ?v28) rfl ?h28 ?k28
              case h28 => conv => lhs; whnf
              refine D_p rfl (pv_leq rfl rfl) ?_
              refine D_end (hK19 _ _ ?_)
              refine W_if rfl (fun c6 => ?_) (fun c6 => ?_)
              ·
                refine W_reg [.p, .p, .p, .p, .l, .p, .p] rfl ?_
                refine D_mv (v := ?v29) rfl ?h29 ?k29
                case h29 => conv => lhs; whnf
                refine D_mv (v := ?v30) rfl ?h30 ?k30
                case h30 => conv => lhs; whnf
                refine D_mv (v := ?v31) rfl ?h31 ?k31
                case h31 => conv => lhs; whnf
                refine D_p rfl (pv_idxA (e := 3) (k := 1) (by kernel_rfl) hv.sl rfl rfl (hv.lt hk)) ?_
                refine D_lq rfl (lv_load (by kernel_rfl) rfl (((hv.ext hx).row hk).at0 rfl)) ?_
                refine D_p rfl (pv_max2 rfl rfl) ?_
                refine D_as (v := ?v32) rfl ?h32 ?k32
                case h32 => conv => lhs; whnf
                refine D_end (hK13 _ _ ?_)
                refine W_reg [.p, .p, .p] rfl ?_
                refine D_mv (v := ?v33) rfl ?h33 ?k33
                case h33 => conv => lhs; whnf
                refine D_p rfl (pv_add rfl rfl (by unfold inI64; omega)) ?_
                refine D_as (v := ?v34) rfl ?h34 ?k34
                case h34 => conv => lhs; whnf
                refine D_end (?_)
                refine ⟨(k + 1, (put l ⟨[97], [120], false, s⟩).2, _, _), ⟨rfl, rfl, rfl, rfl, rfl, trivial⟩, ⟨hx, by omega, hR2, hG2, by omega, by omega, hN.put (by omega) (by omega) ?_⟩, by simp only []; omega⟩
                first | (rw [if_pos c6]; done) | (rw [if_neg c6]; done)
              ·
                refine W_skip ?_
                refine hK13 _ _ ?_
                refine W_reg [.p, .p, .p] rfl ?_
                refine D_mv (v := ?v35) rfl ?h35 ?k35
                case h35 => conv => lhs; whnf
                refine D_p rfl (pv_add rfl rfl (by unfold inI64; omega)) ?_
                refine D_as (v := ?v36) rfl ?h36 ?k36
                case h36 => conv => lhs; whnf
                refine D_end (?_)
                refine ⟨(k + 1, (put l ⟨[97], [120], false, s⟩).2, _, _), ⟨rfl, rfl, rfl, rfl, rfl, trivial⟩, ⟨hx, by omega, hR2, hG2, by omega, by omega, hN.put (by omega) (by omega) ?_⟩, by simp only []; omega⟩
                first | (rw [if_pos c6]; done) | (rw [if_neg c6]; done)
        ·
          have hnew := hN.first hR.sorted
          have hoth := hN.other
          refine W_exit ?_
          refine hK9 _ _ ?_
          refine W_seq fun K20 hK20 => ?_
          refine W_reg [.p, .p, .x, .p, .p, .p, .x, .x, .p] rfl ?_
          refine D_mv (v := ?v37) rfl ?h37 ?k37
          case h37 => conv => lhs; whnf
          refine D_mv (v := ?v38) rfl ?h38 ?k38
          case h38 => conv => lhs; whnf
          refine D_callP rfl (by kernel_rfl) (hR.calls_get [97] at' _ (by omega)) rfl RX.all (fun w6 x6 => ?_)
          replace hR := hR.ext x6
          replace hx := hx.trans x6
          refine D_mv (v := ?v39) rfl ?h39 ?k39
          case h39 => conv => lhs; whnf
          refine D_p rfl (pv_ext rfl rfl) ?_
          refine D_p rfl (pv_ext rfl rfl) ?_
          refine D_alloc (cs := [S [], S [], B false, .int .i64 0]) rfl (by kernel_rfl) RX.all (fun b1 w7 e1 x7 m1 => ?_)
          have g1 : w.heap.size ≤ b1 := by have := hx.size; omega
          have o1_hR := hR.lt
          replace hR := hR.ext x7
          replace hx := hx.trans x7
          refine D_store (v := ?v40) (vs := ?u40) rfl rfl ?h40 ?c40 ?s40 m1 ?o40 ?n40 (.inl rfl) (fun w8 x8 xs8 m1 => ?k40)
          case h40 => conv => lhs; whnf
          case c40 => exact rfl
          case s40 => kernel_rfl
          case o40 => exact Nat.le_of_ble_eq_true rfl
          case n40 => simp [Value.oneCell']
          try dsimp only [setAt, List.set, List.take, List.drop] at m1
          try replace hR := hR.mod x8 (by first | assumption | (intro k hk h; have h1 := (hR.lt k hk).1; have h2 : k = b1 := h; omega) | (intro k hk h; have h1 := o1_hR k hk; have h2 : k = b1 := h; omega) | (intro h; have h2 : _ = b1 := h; omega) | (intro hl h; have h1 := a1_hR hl; have h2 : _ = b1 := h; omega))
          replace hx := hx.own x8 (by intro i hi; have hi2 : i = b1 := hi; subst hi2; omega)
          refine D_as (v := ?v41) rfl ?h41 ?k41
          case h41 => conv => lhs; whnf
          refine D_end (hK20 _ _ ?_)
          refine W_seq fun K21 hK21 => ?_
          refine W_reg [.p, .p, .x, .p, .p, .p, .x, .x, .p] rfl ?_
          refine D_mv (v := ?v42) rfl ?h42 ?k42
          case h42 => conv => lhs; whnf
          refine D_mv (v := ?v43) rfl ?h43 ?k43
          case h43 => conv => lhs; whnf
          refine D_callP rfl (by kernel_rfl) (hR.calls_get [98] at' _ (by omega)) rfl RX.all (fun w9 x9 => ?_)
          replace hR := hR.ext x9
          replace m1 := m1.ext x9
          replace hx := hx.trans x9
          refine D_mv (v := ?v44) rfl ?h44 ?k44
          case h44 => conv => lhs; whnf
          refine D_p rfl (pv_ext rfl rfl) ?_
          refine D_p rfl (pv_ext rfl rfl) ?_
          refine D_alloc (cs := [S [], S [], B false, .int .i64 0]) rfl (by kernel_rfl) RX.all (fun b2 w10 e2 x10 m2 => ?_)
          have g2 : w.heap.size ≤ b2 := by have := hx.size; omega
          have n2_1 : b1 < b2 := by have := m1.lt; omega
          have o2_hR := hR.lt
          replace hR := hR.ext x10
          replace m1 := m1.ext x10
          replace hx := hx.trans x10
          refine D_store (v := ?v45) (vs := ?u45) rfl rfl ?h45 ?c45 ?s45 m2 ?o45 ?n45 (.inl rfl) (fun w11 x11 xs11 m2 => ?k45)
          case h45 => conv => lhs; whnf
          case c45 => exact rfl
          case s45 => kernel_rfl
          case o45 => exact Nat.le_of_ble_eq_true rfl
          case n45 => simp [Value.oneCell']
          try dsimp only [setAt, List.set, List.take, List.drop] at m2
          try replace hR := hR.mod x11 (by first | assumption | (intro k hk h; have h1 := (hR.lt k hk).1; have h2 : k = b2 := h; omega) | (intro k hk h; have h1 := o2_hR k hk; have h2 : k = b2 := h; omega) | (intro h; have h2 : _ = b2 := h; omega) | (intro hl h; have h1 := a2_hR hl; have h2 : _ = b2 := h; omega))
          try replace m1 := m1.mod x11 (by first | assumption | (intro k hk h; have h1 := (m1.lt k hk).1; have h2 : k = b2 := h; omega) | (intro k hk h; have h1 := o2_m1 k hk; have h2 : k = b2 := h; omega) | (intro h; have h2 : _ = b2 := h; omega) | (intro hl h; have h1 := a2_m1 hl; have h2 : _ = b2 := h; omega))
          replace hx := hx.own x11 (by intro i hi; have hi2 : i = b2 := hi; subst hi2; omega)
          refine D_as (v := ?v46) rfl ?h46 ?k46
          case h46 => conv => lhs; whnf
          refine D_end (hK21 _ _ ?_)
          refine W_seq fun K22 hK22 => ?_
          refine W_reg [.p, .p, .p, .p, .p, .p, .l, .p, .p, .p, .p, .p, .p, .p, .p, .x, .p, .p] rfl ?_
          refine D_mv (v := ?v47) rfl ?h47 ?k47
          case h47 => conv => lhs; whnf
          refine D_mv (v := ?v48) rfl ?h48 ?k48
          case h48 => conv => lhs; whnf
          refine D_p rfl (pv_gtr rfl rfl) ?_
          refine D_p rfl (pv_eqB (by kernel_rfl) rfl rfl) ?_
          refine D_mv (v := ?v49) rfl ?h49 ?k49
          case h49 => conv => lhs; whnf
          refine D_splitP 72 rfl (fun c7 => ?_) (fun c7 => ?_)
          ·
            refine D_p rfl (pv_fieldA (k := 3) (by kernel_rfl) rfl) ?_
            refine D_lq rfl (lv_load (by kernel_rfl) rfl (m1.at rfl)) ?_
            refine D_mv (v := ?v50) rfl ?h50 ?k50
            case h50 => conv => lhs; whnf
            refine D_p rfl (pv_eql rfl rfl) ?_
            refine D_pe (v := ?v51) rfl (pv_pick rfl rfl rfl) ?h51 ?k51
            case h51 => conv => lhs; whnf
            refine D_mv (v := ?v52) rfl ?h52 ?k52
            case h52 => conv => lhs; whnf
            refine D_splitP 78 rfl (fun c8 => ?_) (fun c8 => ?_)
            ·
              refine D_mv (v := ?v53) rfl ?h53 ?k53
              case h53 => conv => lhs; whnf
              refine D_pe (v := ?v54) rfl (pv_not rfl) ?h54 ?k54
              case h54 => conv => lhs; whnf
              refine D_pe (v := ?v55) rfl (pv_pick rfl rfl rfl) ?h55 ?k55
              case h55 => conv => lhs; whnf
              refine D_mv (v := ?v56) rfl ?h56 ?k56
              case h56 => conv => lhs; whnf
              refine D_split 82 rfl (fun c9 => ?_) (fun c9 => ?_)
              ·
                refine D_callP rfl (by kernel_rfl) (known_w _) rfl RX.all (fun w12 x12 => ?_)
                replace hR := hR.ext x12
                replace m1 := m1.ext x12
                replace m2 := m2.ext x12
                replace hx := hx.trans x12
                refine D_pe (v := ?v57) rfl (pv_pick rfl rfl rfl) ?h57 ?k57
                case h57 => conv => lhs; whnf
                refine D_as (v := ?v58) rfl ?h58 ?k58
                case h58 => conv => lhs; whnf
                refine D_end (hK22 _ _ ?_)
                refine W_ret ?_
                try dsimp only [then', inBlk, noGo]
                refine ret_one (v := ?v59) rfl rfl ?h59 ?k59
                case h59 => conv => lhs; whnf
                first
                | exact ⟨rfl, hx⟩
                | exact absurd hnew.1 c7
                | exact absurd hnew.2 c8
                | (rw [hoth] at c9; cases c9)
              ·
                refine D_skip rfl ?_
                refine D_pe (v := ?v60) rfl (pv_pick rfl rfl rfl) ?h60 ?k60
                case h60 => conv => lhs; whnf
                refine D_as (v := ?v61) rfl ?h61 ?k61
                case h61 => conv => lhs; whnf
                refine D_end (hK22 _ _ ?_)
                refine W_ret ?_
                try dsimp only [then', inBlk, noGo]
                refine ret_one (v := ?v62) rfl rfl ?h62 ?k62
                case h62 => conv => lhs; whnf
                first
                | exact ⟨rfl, hx⟩
                | exact absurd hnew.1 c7
                | exact absurd hnew.2 c8
                | (rw [hoth] at c9; cases c9)
            ·
              refine D_skip rfl ?_
              refine D_skip rfl ?_
              refine D_pe (v := ?v63) rfl (pv_pick rfl rfl rfl) ?h63 ?k63
              case h63 => conv => lhs; whnf
              refine D_mv (v := ?v64) rfl ?h64 ?k64
              case h64 => conv => lhs; whnf
              refine D_skip rfl ?_
              refine D_pe (v := ?v65) rfl (pv_pick rfl rfl rfl) ?h65 ?k65
              case h65 => conv => lhs; whnf
              refine D_as (v := ?v66) rfl ?h66 ?k66
              case h66 => conv => lhs; whnf
              refine D_end (hK22 _ _ ?_)
              refine W_ret ?_
              try dsimp only [then', inBlk, noGo]
              refine ret_one (v := ?v67) rfl rfl ?h67 ?k67
              case h67 => conv => lhs; whnf
              first
              | exact ⟨rfl, hx⟩
              | exact absurd hnew.1 c7
              | exact absurd hnew.2 c8
              | (rw [hoth] at c9; cases c9)
          ·
            refine D_skip rfl ?_
            refine D_skip rfl ?_
            refine D_skip rfl ?_
            refine D_skip rfl ?_
            refine D_pe (v := ?v68) rfl (pv_pick rfl rfl rfl) ?h68 ?k68
            case h68 => conv => lhs; whnf
            refine D_mv (v := ?v69) rfl ?h69 ?k69
            case h69 => conv => lhs; whnf
            refine D_skip rfl ?_
            refine D_skip rfl ?_
            refine D_pe (v := ?v70) rfl (pv_pick rfl rfl rfl) ?h70 ?k70
            case h70 => conv => lhs; whnf
            refine D_mv (v := ?v71) rfl ?h71 ?k71
            case h71 => conv => lhs; whnf
            refine D_skip rfl ?_
            refine D_pe (v := ?v72) rfl (pv_pick rfl rfl rfl) ?h72 ?k72
            case h72 => conv => lhs; whnf
            refine D_as (v := ?v73) rfl ?h73 ?k73
            case h73 => conv => lhs; whnf
            refine D_end (hK22 _ _ ?_)
            refine W_ret ?_
            try dsimp only [then', inBlk, noGo]
            refine ret_one (v := ?v74) rfl rfl ?h74 ?k74
            case h74 => conv => lhs; whnf
            first
            | exact ⟨rfl, hx⟩
            | exact absurd hnew.1 c7
            | exact absurd hnew.2 c8
            | (rw [hoth] at c9; cases c9)

end Go.Proofs.Ytodmkkcediofgaa
