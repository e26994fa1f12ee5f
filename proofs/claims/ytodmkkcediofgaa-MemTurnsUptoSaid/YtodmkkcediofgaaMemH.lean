/-
  Walks.
-/
import Derived.Test.YtodmkkcediofgaaChecked
import Derived.Test.YtodmkkcediofgaaSpMem
import Derived.KernelRfl
import Derived.Test.YtodmkkcediofgaaMemG
namespace Go.Proofs.Ytodmkkcediofgaa
open Go.Vc Go.Sp
attribute [local irreducible] W XW Dw DwT
set_option linter.unusedVariables false
set_option linter.unusedSimpArgs false

theorem arr_lt {α : Type} {enc : α → List Value} {sz : Nat} {w : World} {v : Value} {l : List α} (h : Arr enc sz w v l) (hsz : 0 < sz) (hl : l ≠ []) : (base v).1 < w.heap.size := by
  cases l with
  | nil => exact absurd rfl hl
  | cons x r => exact h.blk hsz (x := x) rfl
def allC (l : List Cell) : Prop := ∀ x ∈ l, isC x = true
theorem allC.put {l : List Cell} (h : allC l) (c : Cell) : allC (put l c).2 := fun x hx => by
  by_cases hc : isC c = true
  · rcases mem_put hx with hm | rfl
    · exact h x hm
    · exact hc
  · have : Sp.put l c = (false, l) := by simp at hc; simp [Sp.put, hc]
    rw [this] at hx; exact h x hx
theorem isC_spec {c : Cell} (h : isC c = true) : c.key.length ≤ 4096 ∧ c.val.length ≤ 16384 ∧ 1 ≤ c.seq ∧ c.seq ≤ 1099511627776 := by
  simp only [isC, Bool.and_eq_true, decide_eq_true_eq] at h
  omega
theorem allC.size {l : List Cell} (h : allC l) : sizeL l ≤ l.length * 20496 := by
  induction l with
  | nil => simp [sizeL]
  | cons c r ih =>
    have h1 := isC_spec (h c List.mem_cons_self)
    have h2 := ih (fun x hx => h x (List.mem_cons_of_mem _ hx))
    unfold sizeL at *
    simp only [List.map_cons, List.sum_cons, List.length_cons, sizeC] at *
    omega
theorem RRep.mk' {w : World} {bx : Nat} {l : List Cell} {vL : Value} (h1 : Blk w bx [vL] 37) (h2 : Arr Cell.cs 4 w vL l) (h3 : l ≠ [] → (base vL).1 ≠ bx) : RRep (fun j => j < w.heap.size) w bx l :=
  ⟨vL, h1, h2, fun hl => ⟨h3 hl, arr_lt h2 (by decide) hl⟩, fun j hj => hj⟩
theorem heavy_gives {w : World} {l : List Cell} (e : Ending) (w' : World) (h : Ext w w' ∧ ∃ b : Bool, e = .returned (B b) ∧ (b = false → l.length ≤ 201)) : Gives w (fun v _ => ∃ b : Bool, v = B b ∧ (b = false → l.length ≤ 201)) e w' := by
  obtain ⟨h1, b, h2, h3⟩ := h
  exact ⟨_, h2, h1, b, rfl, h3⟩

set_option maxRecDepth 100000 in
set_option maxHeartbeats 1000000 in
theorem law_plays (dr : List Nat) (vd : Value) (ls : List Cell) (vl : Value) (key : Str) (seq : Int) (to : Str) (w : World) (hvd : Arr encU 1 w vd dr) (hvl : Arr Cell.cs 4 w vl ls) (hdl : dr.length ≤ 9223372036854775807) (hll : ls.length ≤ 9223372036854775807) :
    Calls Try.prog 4 [vd, vl, S key, I seq, S to].toArray w (Pure w (B true)) := by
  refine calls_W Try.func4 rfl rfl rfl (by kernel_rfl) ?_
  have hx := Ext.refl w
  have hvb : ls ≠ [] → (base vl).1 < w.heap.size := fun hl => arr_lt hvl (by decide) hl
  refine W_seq fun K1 hK1 => ?_
  refine W_reg [.p] rfl ?_
  refine D_as (v := ?v1) rfl ?h1 ?k1
  case h1 => conv => lhs; whnf
  refine D_end (hK1 _ _ ?_)
  refine W_seq fun K2 hK2 => ?_
  refine W_seq fun K3 hK3 => ?_
  refine W_reg [.p, .x, .p, .p, .p, .p, .p, .p, .p, .p, .p, .p, .p, .p, .p] rfl ?_
  refine D_mv (v := ?v2) rfl ?h2 ?k2
  case h2 => conv => lhs; whnf
  refine D_callG rfl (by kernel_rfl) ((heavy2_w ls vl _ (hvl.ext hx) hll).mono heavy_gives) rfl RX.all (fun v1 w1 x1 hf1 => ?_)
  have hsz1 := hx.size
  replace hx := hx.trans x1
  obtain ⟨bh, rfl, hhv⟩ := hf1
  refine D_mv (v := ?v3) rfl ?h3 ?k3
  case h3 => conv => lhs; whnf
  refine D_split 20 rfl (fun c1 => ?_) (fun c1 => ?_)
  ·
    refine D_skip rfl ?_
    refine D_skip rfl ?_
    refine D_skip rfl ?_
    refine D_pe (v := ?v4) rfl (pv_pick rfl rfl rfl) ?h4 ?k4
    case h4 => conv => lhs; whnf
    refine D_mv (v := ?v5) rfl ?h5 ?k5
    case h5 => conv => lhs; whnf
    refine D_skip rfl ?_
    refine D_skip rfl ?_
    refine D_skip rfl ?_
    refine D_skip rfl ?_
    refine D_skip rfl ?_
    refine D_skip rfl ?_
    refine D_pe (v := ?v6) rfl (pv_pick rfl rfl rfl) ?h6 ?k6
    case h6 => conv => lhs; whnf
    refine D_end (hK3 _ _ ?_)
    refine W_t rfl ?_
    refine W_seq fun K4 hK4 => ?_
    refine W_reg [.p] rfl ?_
    refine D_as (v := ?v7) rfl ?h7 ?k7
    case h7 => conv => lhs; whnf
    refine D_end (hK4 _ _ ?_)
    refine W_ret ?_
    try dsimp only [then', inBlk, noGo]
    refine ret_one (v := ?v8) rfl rfl ?h8 ?k8
    case h8 => conv => lhs; whnf
    first
    | exact ⟨rfl, hx⟩
    | exact absurd rfl c12
    | exact absurd rfl c11
    | (simp at c10; done)
    | (simp at c9; done)
    | exact absurd rfl c8
    | exact absurd ((eqL_cell _ _).symm.trans c7) (by simp)
  ·
    have hll2 := hhv c1
    refine D_mv (v := ?v9) rfl ?h9 ?k9
    case h9 => conv => lhs; whnf
    refine D_p rfl (pv_lenV (e := 50) (k := 1) (by kernel_rfl) hvd.sl rfl) ?_
    refine D_p rfl (pv_gtr rfl rfl) ?_
    refine D_pe (v := ?v10) rfl (pv_pick rfl rfl rfl) ?h10 ?k10
    case h10 => conv => lhs; whnf
    refine D_mv (v := ?v11) rfl ?h11 ?k11
    case h11 => conv => lhs; whnf
    refine D_splitP 25 rfl (fun c2 => ?_) (fun c2 => ?_)
    ·
      refine D_skip rfl ?_
      refine D_skip rfl ?_
      refine D_skip rfl ?_
      refine D_skip rfl ?_
      refine D_skip rfl ?_
      refine D_skip rfl ?_
      refine D_pe (v := ?v12) rfl (pv_pick rfl rfl rfl) ?h12 ?k12
      case h12 => conv => lhs; whnf
      refine D_end (hK3 _ _ ?_)
      refine W_t rfl ?_
      refine W_seq fun K5 hK5 => ?_
      refine W_reg [.p] rfl ?_
      refine D_as (v := ?v13) rfl ?h13 ?k13
      case h13 => conv => lhs; whnf
      refine D_end (hK5 _ _ ?_)
      refine W_ret ?_
      try dsimp only [then', inBlk, noGo]
      refine ret_one (v := ?v14) rfl rfl ?h14 ?k14
      case h14 => conv => lhs; whnf
      first
      | exact ⟨rfl, hx⟩
      | exact absurd rfl c12
      | exact absurd rfl c11
      | (simp at c10; done)
      | (simp at c9; done)
      | exact absurd rfl c8
      | exact absurd ((eqL_cell _ _).symm.trans c7) (by simp)
    ·
      refine D_mv (v := ?v15) rfl ?h15 ?k15
      case h15 => conv => lhs; whnf
      refine D_p rfl (pv_lenS (by kernel_rfl) rfl) ?_
      refine D_mv (v := ?v16) rfl ?h16 ?k16
      case h16 => conv => lhs; whnf
      refine D_p rfl (pv_lenS (by kernel_rfl) rfl) ?_
      refine D_p rfl (pv_addw rfl rfl) ?_
      refine D_p rfl (pv_gtr rfl rfl) ?_
      refine D_pe (v := ?v17) rfl (pv_pick rfl rfl rfl) ?h17 ?k17
      case h17 => conv => lhs; whnf
      refine D_end (hK3 _ _ ?_)
      refine W_if rfl (fun c3 => ?_) (fun c3 => ?_)
      ·
        refine W_seq fun K6 hK6 => ?_
        refine W_reg [.p] rfl ?_
        refine D_as (v := ?v18) rfl ?h18 ?k18
        case h18 => conv => lhs; whnf
        refine D_end (hK6 _ _ ?_)
        refine W_ret ?_
        try dsimp only [then', inBlk, noGo]
        refine ret_one (v := ?v19) rfl rfl ?h19 ?k19
        case h19 => conv => lhs; whnf
        first
        | exact ⟨rfl, hx⟩
        | exact absurd rfl c12
        | exact absurd rfl c11
        | (simp at c10; done)
        | (simp at c9; done)
        | exact absurd rfl c8
        | exact absurd ((eqL_cell _ _).symm.trans c7) (by simp)
      ·
        refine W_skip ?_
        refine hK2 _ _ ?_
        refine W_seq fun K7 hK7 => ?_
        refine W_reg [.p, .x, .p, .x, .p, .p] rfl ?_
        refine D_mv (v := ?v20) rfl ?h20 ?k20
        case h20 => conv => lhs; whnf
        refine D_callG rfl (by kernel_rfl) (new_w dr _ _ (hvd.ext hx) (by omega)) rfl RX.all (fun v2 w2 x2 hf2 => ?_)
        have hsz2 := hx.size
        replace hx := hx.trans x2
        obtain ⟨bm, rfl, hR⟩ := hf2
        have hG0 := hR.ge hsz2
        refine D_p rfl (pv_build (zs := [.slice none 0 0]) (pl := [(0, 1)]) (pv := []) (cs := [.slice none 0 0]) (by kernel_rfl) (by kernel_rfl) ?h21 ?f21) ?k21
        case h21 => exact trivial
        case f21 => rfl
        refine D_box rfl rfl rfl RX.all (fun b1 w3 e1 x3 m1 => ?_)
        have g1 : w.heap.size ≤ b1 := by have := hx.size; omega
        have o1_hR := hR.lt
        replace hR := hR.ext x3
        replace hx := hx.trans x3
        refine D_as (v := ?v22) rfl ?h22 ?k22
        case h22 => conv => lhs; whnf
        refine D_as (v := ?v23) rfl ?h23 ?k23
        case h23 => conv => lhs; whnf
        refine D_end (hK7 _ _ ?_)
        refine W_seq fun K8 hK8 => ?_
        refine W_seq fun K9 hK9 => ?_
        refine W_reg [.p, .p] rfl ?_
        refine D_mv (v := ?v24) rfl ?h24 ?k24
        case h24 => conv => lhs; whnf
        refine D_p rfl (pv_eqP (by kernel_rfl) rfl rfl) ?_
        refine D_end (hK9 _ _ ?_)
        refine W_if rfl (fun c4 => ?_) (fun c4 => ?_)
        ·
          cases c4
        ·
          refine W_skip ?_
          refine hK8 _ _ ?_
          refine W_seq fun K10 hK10 => ?_
          refine W_seq fun K11 hK11 => ?_
          refine W_reg [.p] rfl ?_
          refine D_as (v := ?v25) rfl ?h25 ?k25
          case h25 => conv => lhs; whnf
          refine D_end (hK11 _ _ ?_)
          refine W_block ?_
          refine W_loop (G := Nat × List Cell × (Nat → Prop) × (Nat → Prop)) (fun (k, l, F, X) => [(1, vl), (2, S key), (3, I seq), (4, S to), (11, ptr bm 0), (12, ptr b1 0), (13, I ↑k)]) (fun (k, l, F, X) w' => Ext w w' ∧ k ≤ ls.length ∧ MRep F w' bm l ∧ RRep X w' b1 l ∧ (∀ j, F j → w.heap.size ≤ j) ∧ ¬ F b1 ∧ (∀ j, X j → ¬ F j) ∧ l.length ≤ k ∧ allC l) (fun (k, l, F, X) => ls.length - k) (0, [], (fun j => w1.heap.size ≤ j ∧ j < w2.heap.size), fun _ => False) ?_ ?_ ?_
          · exact ⟨rfl, rfl, rfl, rfl, rfl, rfl, rfl, trivial⟩
          · exact ⟨hx, Nat.zero_le _, hR, ⟨_, m1, Arr.nil, fun h => absurd rfl h, fun j h => h.elim⟩, hG0, (fun h => by have := h.2; omega), fun j h => h.elim, Nat.le_refl _, fun x hx => by cases hx⟩
          · intro X4 g4 w4 hF4
            obtain ⟨k, l, F, X⟩ := g4
            clear hx hR m1
            obtain ⟨hx, hk1, hR, hX, hG, hbF, hXF, hlk, hC⟩ := hF4
            refine W_seq fun K12 hK12 => ?_
            refine W_seq fun K13 hK13 => ?_
            refine W_reg [.p, .p, .p, .p] rfl ?_
            refine D_mv (v := ?v26) rfl ?h26 ?k26
            case h26 => conv => lhs; whnf
            refine D_mv (v := ?v27) rfl ?h27 ?k27
            case h27 => conv => lhs; whnf
            refine D_p rfl (pv_lenV (e := 28) (k := 4) (by kernel_rfl) hvl.sl rfl) ?_
            refine D_p rfl (pv_lss rfl rfl) ?_
            refine D_end (hK13 _ _ ?_)
            refine W_if rfl (fun c5 => ?_) (fun c5 => ?_)
            ·
              obtain ⟨c, hk⟩ : ∃ c, ls[k]? = some c := ⟨_, List.getElem?_eq_getElem (by omega)⟩
              refine W_skip ?_
              refine hK12 _ _ ?_
              refine W_seq fun K14 hK14 => ?_
              refine W_block ?_
              refine W_seq fun K15 hK15 => ?_
              refine W_draw (R := Mod (geB w.heap.size)) modRefl modTrans (by kernel_rfl) [4, 10] [(0, .p, false), (1, .p, false), (2, .p, false), (3, .p, false), (4, .l, false), (6, .p, false), (7, .p, false), (8, .p, false), (9, .p, false), (10, .l, false), (5, .x, false), (11, .x, false), (12, .p, false)] rfl (by kernel_rfl) (by kernel_rfl) (fun w5 ew5 => ?_)
              have x5 : Ext w4 w5 := by rw [ew5]; exact Ext.drew _
              clear ew5
              replace hR := hR.ext x5
              replace hX := hX.ext x5
              replace hx := hx.trans x5
              refine D_mv (v := ?v28) rfl ?h28 ?k28
              case h28 => conv => lhs; whnf
              refine D_mv (v := ?v29) rfl ?h29 ?k29
              case h29 => conv => lhs; whnf
              refine D_mv (v := ?v30) rfl ?h30 ?k30
              case h30 => conv => lhs; whnf
              refine D_p rfl (pv_idxA (e := 28) (k := 4) (by kernel_rfl) hvl.sl rfl rfl (hvl.lt hk)) ?_
              refine D_l rfl (fun w' hR => lv_loadA (by kernel_rfl) rfl rfl (((hvl.ext hx).mod hR (fun hl g => by have := hvb hl; unfold geB at g; omega)).row hk)) ?_
              refine D_mv (v := ?v31) rfl ?h31 ?k31
              case h31 => conv => lhs; whnf
              refine D_mv (v := ?v32) rfl ?h32 ?k32
              case h32 => conv => lhs; whnf
              refine D_mv (v := ?v33) rfl ?h33 ?k33
              case h33 => conv => lhs; whnf
              refine D_p rfl (pv_idxA (e := 28) (k := 4) (by kernel_rfl) hvl.sl rfl rfl (hvl.lt hk)) ?_
              refine D_l rfl (fun w' hR => lv_loadA (by kernel_rfl) rfl rfl (((hvl.ext hx).mod hR (fun hl g => by have := hvb hl; unfold geB at g; omega)).row hk)) ?_
              have hXl := hX.lt
              have hXg1 := hX.ltX
              have hRl := hR.lt
              refine D_callD rfl (by kernel_rfl) (hR.calls_put c _ (by omega) (by have := hC.size; omega)) rfl (.inr fun _ h => h.mono (fun i hi _ => hG i hi)) (fun v6 w6 x6 hf6 => ?_)
              have hsz6 := hx.size
              replace hX := hX.mod x6 hbF hXF
              replace hx := hx.own x6 (fun i hi => hG i hi)
              obtain ⟨rfl, hR2⟩ := hf6
              have hG2 := more_ge (w' := w6) hG hsz6
              have hsab := x6.size
              refine D_callD rfl (by kernel_rfl) (rput_w b1 X l c _ hX (by omega)) rfl (.inr fun _ h => h.mono (fun i hi _ => (by rw [show i = b1 from hi]; exact g1 : w.heap.size ≤ i))) (fun v7 w7 x7 hf7 => ?_)
              have hsz7 := hx.size
              replace hR2 := hR2.mod x7 (fun j hj e => by rw [show j = b1 from e] at hj; exact hj.elim hbF (fun h => by have := h.1; omega))
              replace hx := hx.own x7 (fun i hi => (by rw [show i = b1 from hi]; exact g1))
              obtain ⟨rfl, hX2⟩ := hf7
              refine D_p rfl (pv_neB (by kernel_rfl) rfl rfl) ?_
              refine D_end (hK15 _ _ ?_)
              refine W_if rfl (fun c6 => ?_) (fun c6 => ?_)
              ·
                exact absurd rfl c6
              ·
                refine W_skip ?_
                refine hK14 _ _ ?_
                refine W_reg [.p, .p, .p] rfl ?_
                refine D_mv (v := ?v34) rfl ?h34 ?k34
                case h34 => conv => lhs; whnf
                refine D_p rfl (pv_add rfl rfl (by unfold inI64; omega)) ?_
                refine D_as (v := ?v35) rfl ?h35 ?k35
                case h35 => conv => lhs; whnf
                refine D_end (?_)
                have hpl := put_len l c
                refine ⟨(k + 1, (put l c).2, _, _), ⟨rfl, rfl, rfl, rfl, rfl, rfl, rfl, trivial⟩, ⟨hx, by omega, hR2, hX2, hG2, (fun h => h.elim hbF (fun h => by have := h.1; omega)), fun j h1 h2 => ?_, by omega, hC.put c⟩, by simp only []; omega⟩
                rcases h1 with h1 | h1 <;> rcases h2 with h2 | h2
                · exact hXF j h1 h2
                · have := hXg1 j h1; omega
                · have := hRl j h2; omega
                · omega
            ·
              obtain ⟨vL, m1, hXa, hXn, hXl⟩ := hX.out
              have hsx : ∀ x ∈ l, x.seq ≤ 4611686018427387904 := fun x hx => by have := isC_spec (hC x hx); omega
              refine W_exit ?_
              refine hK10 _ _ ?_
              refine W_seq fun K16 hK16 => ?_
              refine W_reg [.p, .p, .p, .x, .p, .p, .p, .x, .x, .p] rfl ?_
              refine D_mv (v := ?v36) rfl ?h36 ?k36
              case h36 => conv => lhs; whnf
              refine D_mv (v := ?v37) rfl ?h37 ?k37
              case h37 => conv => lhs; whnf
              refine D_mv (v := ?v38) rfl ?h38 ?k38
              case h38 => conv => lhs; whnf
              refine D_callP rfl (by kernel_rfl) (hR.calls_get key seq _ (by omega)) rfl RX.all (fun w8 x8 => ?_)
              replace hR := hR.ext x8
              replace m1 := m1.ext x8
              replace hXa := hXa.ext x8
              replace hx := hx.trans x8
              refine D_mv (v := ?v39) rfl ?h39 ?k39
              case h39 => conv => lhs; whnf
              refine D_p rfl (pv_ext rfl rfl) ?_
              refine D_p rfl (pv_ext rfl rfl) ?_
              refine D_alloc (cs := [S [], S [], B false, .int .i64 0]) rfl (by kernel_rfl) RX.all (fun b2 w9 e2 x9 m2 => ?_)
              have g2 : w.heap.size ≤ b2 := by have := hx.size; omega
              have n2_1 : b1 < b2 := by have := m1.lt; omega
              have o2_hR := hR.lt
              have a2_hXa : l ≠ [] → (base vL).1 < b2 := fun hl => by have := arr_lt hXa (by decide) hl; omega
              replace hR := hR.ext x9
              replace m1 := m1.ext x9
              replace hXa := hXa.ext x9
              replace hx := hx.trans x9
              refine D_store (v := ?v40) (vs := ?u40) rfl rfl ?h40 ?c40 ?s40 m2 ?o40 ?n40 (.inl rfl) (fun w10 x10 xs10 m2 => ?k40)
              case h40 => conv => lhs; whnf
              case c40 => exact rfl
              case s40 => kernel_rfl
              case o40 => exact Nat.le_of_ble_eq_true rfl
              case n40 => simp [Value.oneCell']
              try dsimp only [setAt, List.set, List.take, List.drop] at m2
              try replace hR := hR.mod x10 (by first | assumption | (intro k hk h; have h1 := (hR.lt k hk).1; have h2 : k = b2 := h; omega) | (intro k hk h; have h1 := o2_hR k hk; have h2 : k = b2 := h; omega) | (intro h; have h2 : _ = b2 := h; omega) | (intro hl h; have h1 := a2_hR hl; have h2 : _ = b2 := h; omega))
              try replace m1 := m1.mod x10 (by first | assumption | (intro k hk h; have h1 := (m1.lt k hk).1; have h2 : k = b2 := h; omega) | (intro k hk h; have h1 := o2_m1 k hk; have h2 : k = b2 := h; omega) | (intro h; have h2 : _ = b2 := h; omega) | (intro hl h; have h1 := a2_m1 hl; have h2 : _ = b2 := h; omega))
              try replace hXa := hXa.mod x10 (by first | assumption | (intro k hk h; have h1 := (hXa.lt k hk).1; have h2 : k = b2 := h; omega) | (intro k hk h; have h1 := o2_hXa k hk; have h2 : k = b2 := h; omega) | (intro h; have h2 : _ = b2 := h; omega) | (intro hl h; have h1 := a2_hXa hl; have h2 : _ = b2 := h; omega))
              replace hx := hx.own x10 (by intro i hi; have hi2 : i = b2 := hi; subst hi2; omega)
              refine D_as (v := ?v41) rfl ?h41 ?k41
              case h41 => conv => lhs; whnf
              refine D_end (hK16 _ _ ?_)
              refine W_seq fun K17 hK17 => ?_
              refine W_reg [.p, .p, .p, .l, .p, .p, .x, .p, .p, .p, .x, .x, .p] rfl ?_
              refine D_mv (v := ?v42) rfl ?h42 ?k42
              case h42 => conv => lhs; whnf
              refine D_p rfl (pv_nilP rfl) ?_
              refine D_p rfl (pv_fieldA (k := 0) (by kernel_rfl) rfl) ?_
              refine D_lq rfl (lv_load (by kernel_rfl) rfl (m1.at rfl)) ?_
              refine D_mv (v := ?v43) rfl ?h43 ?k43
              case h43 => conv => lhs; whnf
              refine D_mv (v := ?v44) rfl ?h44 ?k44
              case h44 => conv => lhs; whnf
              refine D_callP rfl (by kernel_rfl) (first_w l vL key seq _ hXa (by omega)) rfl RX.all (fun w11 x11 => ?_)
              replace hR := hR.ext x11
              replace m1 := m1.ext x11
              replace hXa := hXa.ext x11
              replace m2 := m2.ext x11
              replace hx := hx.trans x11
              refine D_mv (v := ?v45) rfl ?h45 ?k45
              case h45 => conv => lhs; whnf
              refine D_p rfl (pv_ext rfl rfl) ?_
              refine D_p rfl (pv_ext rfl rfl) ?_
              refine D_alloc (cs := [S [], S [], B false, .int .i64 0]) rfl (by kernel_rfl) RX.all (fun b3 w12 e3 x12 m3 => ?_)
              have g3 : w.heap.size ≤ b3 := by have := hx.size; omega
              have n3_1 : b1 < b3 := by have := m1.lt; omega
              have n3_2 : b2 < b3 := by have := m2.lt; omega
              have o3_hR := hR.lt
              have a3_hXa : l ≠ [] → (base vL).1 < b3 := fun hl => by have := arr_lt hXa (by decide) hl; omega
              replace hR := hR.ext x12
              replace m1 := m1.ext x12
              replace hXa := hXa.ext x12
              replace m2 := m2.ext x12
              replace hx := hx.trans x12
              refine D_store (v := ?v46) (vs := ?u46) rfl rfl ?h46 ?c46 ?s46 m3 ?o46 ?n46 (.inl rfl) (fun w13 x13 xs13 m3 => ?k46)
              case h46 => conv => lhs; whnf
              case c46 => exact rfl
              case s46 => kernel_rfl
              case o46 => exact Nat.le_of_ble_eq_true rfl
              case n46 => simp [Value.oneCell']
              try dsimp only [setAt, List.set, List.take, List.drop] at m3
              try replace hR := hR.mod x13 (by first | assumption | (intro k hk h; have h1 := (hR.lt k hk).1; have h2 : k = b3 := h; omega) | (intro k hk h; have h1 := o3_hR k hk; have h2 : k = b3 := h; omega) | (intro h; have h2 : _ = b3 := h; omega) | (intro hl h; have h1 := a3_hR hl; have h2 : _ = b3 := h; omega))
              try replace m1 := m1.mod x13 (by first | assumption | (intro k hk h; have h1 := (m1.lt k hk).1; have h2 : k = b3 := h; omega) | (intro k hk h; have h1 := o3_m1 k hk; have h2 : k = b3 := h; omega) | (intro h; have h2 : _ = b3 := h; omega) | (intro hl h; have h1 := a3_m1 hl; have h2 : _ = b3 := h; omega))
              try replace hXa := hXa.mod x13 (by first | assumption | (intro k hk h; have h1 := (hXa.lt k hk).1; have h2 : k = b3 := h; omega) | (intro k hk h; have h1 := o3_hXa k hk; have h2 : k = b3 := h; omega) | (intro h; have h2 : _ = b3 := h; omega) | (intro hl h; have h1 := a3_hXa hl; have h2 : _ = b3 := h; omega))
              try replace m2 := m2.mod x13 (by first | assumption | (intro k hk h; have h1 := (m2.lt k hk).1; have h2 : k = b3 := h; omega) | (intro k hk h; have h1 := o3_m2 k hk; have h2 : k = b3 := h; omega) | (intro h; have h2 : _ = b3 := h; omega) | (intro hl h; have h1 := a3_m2 hl; have h2 : _ = b3 := h; omega))
              replace hx := hx.own x13 (by intro i hi; have hi2 : i = b3 := hi; subst hi2; omega)
              refine D_as (v := ?v47) rfl ?h47 ?k47
              case h47 => conv => lhs; whnf
              refine D_end (hK17 _ _ ?_)
              refine W_seq fun K18 hK18 => ?_
              refine W_draw (R := Ext) Ext.refl (fun _ _ _ => Ext.trans) (by kernel_rfl) [0, 1, 16, 28, 37] [(0, .l, false), (1, .l, false), (2, .p, false), (3, .p, false), (4, .p, false), (5, .p, false), (6, .p, false), (7, .p, false), (8, .p, false), (9, .p, false), (10, .p, false), (11, .p, false), (13, .p, false), (14, .p, false), (15, .p, false), (16, .l, false), (17, .p, false), (18, .p, false), (12, .x, false), (19, .x, false), (20, .x, false), (21, .p, false), (22, .p, false), (23, .p, false), (25, .p, false), (26, .p, false), (27, .p, false), (28, .l, false), (24, .x, false), (29, .x, false), (30, .p, false), (31, .p, false), (32, .p, false), (34, .p, false), (35, .p, false), (36, .p, false), (37, .l, false), (38, .p, false), (33, .x, false), (39, .p, false), (40, .p, false), (41, .p, false), (42, .p, false), (44, .p, false), (43, .x, false), (45, .x, false), (46, .p, false), (47, .p, false), (48, .p, false), (49, .x, false), (50, .p, false), (51, .p, false)] rfl (by kernel_rfl) (by kernel_rfl) (fun w14 ew14 => ?_)
              have x14 : Ext w13 w14 := by rw [ew14]; exact Ext.drew _
              clear ew14
              replace hR := hR.ext x14
              replace m1 := m1.ext x14
              replace hXa := hXa.ext x14
              replace m2 := m2.ext x14
              replace m3 := m3.ext x14
              replace hx := hx.trans x14
              refine D_l rfl (fun w' hR => lv_loadA (k := 4) (by kernel_rfl) rfl rfl (m2.ext hR).row) ?_
              refine D_l rfl (fun w' hR => lv_loadA (k := 4) (by kernel_rfl) rfl rfl (m3.ext hR).row) ?_
              refine D_p rfl (pv_eqA (ts := [9, 9, 4, 3]) (by kernel_rfl) rfl rfl ⟨by kernel_rfl, by kernel_rfl, by kernel_rfl, by kernel_rfl, trivial⟩ ⟨by kernel_rfl, by kernel_rfl, by kernel_rfl, by kernel_rfl, trivial⟩) ?_
              refine D_mv (v := ?v48) rfl ?h48 ?k48
              case h48 => conv => lhs; whnf
              refine D_split 78 rfl (fun c7 => ?_) (fun c7 => ?_)
              ·
                refine D_mv (v := ?v49) rfl ?h49 ?k49
                case h49 => conv => lhs; whnf
                refine D_mv (v := ?v50) rfl ?h50 ?k50
                case h50 => conv => lhs; whnf
                refine D_p rfl (pv_eqB (by kernel_rfl) rfl rfl) ?_
                refine D_pe (v := ?v51) rfl (pv_pick rfl rfl rfl) ?h51 ?k51
                case h51 => conv => lhs; whnf
                refine D_mv (v := ?v52) rfl ?h52 ?k52
                case h52 => conv => lhs; whnf
                refine D_splitP 83 rfl (fun c8 => ?_) (fun c8 => ?_)
                ·
                  refine D_mv (v := ?v53) rfl ?h53 ?k53
                  case h53 => conv => lhs; whnf
                  refine D_mv (v := ?v54) rfl ?h54 ?k54
                  case h54 => conv => lhs; whnf
                  refine D_mv (v := ?v55) rfl ?h55 ?k55
                  case h55 => conv => lhs; whnf
                  refine D_mv (v := ?v56) rfl ?h56 ?k56
                  case h56 => conv => lhs; whnf
                  refine D_p rfl (pv_nilP rfl) ?_
                  refine D_p rfl (pv_fieldA (k := 0) (by kernel_rfl) rfl) ?_
                  refine D_l rfl (fun w' hR => lv_load (by kernel_rfl) rfl ((m1.ext hR).at rfl)) ?_
                  refine D_mv (v := ?v57) rfl ?h57 ?k57
                  case h57 => conv => lhs; whnf
                  refine D_mv (v := ?v58) rfl ?h58 ?k58
                  case h58 => conv => lhs; whnf
                  refine D_callG rfl (by kernel_rfl) (hR.calls_scan key to _ (by omega) hsx) rfl RX.ext (fun v15 w15 x15 hs1 => ?_)
                  have hsz15 := hx.size
                  replace hR := hR.ext x15
                  replace m1 := m1.ext x15
                  replace hXa := hXa.ext x15
                  replace m2 := m2.ext x15
                  replace m3 := m3.ext x15
                  replace hx := hx.trans x15
                  refine D_callG rfl (by kernel_rfl) (rscan_w l vL key to _ hXa (by omega)) rfl RX.ext (fun v16 w16 x16 hs2 => ?_)
                  have hsz16 := hx.size
                  replace hR := hR.ext x16
                  replace m1 := m1.ext x16
                  replace hXa := hXa.ext x16
                  replace m2 := m2.ext x16
                  replace m3 := m3.ext x16
                  replace hs1 := hs1.ext x16
                  replace hx := hx.trans x16
                  refine D_callP rfl (by kernel_rfl) (cells_w _ _ _ _ _ (hs1.arr (fun x => rfl)) (hs2.arr (fun x => rfl)) (Nat.le_trans (List.length_filter_le ..) (by omega)) (Nat.le_trans (List.length_filter_le ..) (by omega))) rfl RX.ext (fun w17 x17 => ?_)
                  replace hR := hR.ext x17
                  replace m1 := m1.ext x17
                  replace hXa := hXa.ext x17
                  replace m2 := m2.ext x17
                  replace m3 := m3.ext x17
                  replace hs1 := hs1.ext x17
                  replace hs2 := hs2.ext x17
                  replace hx := hx.trans x17
                  refine D_pe (v := ?v59) rfl (pv_pick rfl rfl rfl) ?h59 ?k59
                  case h59 => conv => lhs; whnf
                  refine D_mv (v := ?v60) rfl ?h60 ?k60
                  case h60 => conv => lhs; whnf
                  refine D_split 97 rfl (fun c9 => ?_) (fun c9 => ?_)
                  ·
                    refine D_mv (v := ?v61) rfl ?h61 ?k61
                    case h61 => conv => lhs; whnf
                    refine D_mv (v := ?v62) rfl ?h62 ?k62
                    case h62 => conv => lhs; whnf
                    refine D_p rfl (pv_nilP rfl) ?_
                    refine D_p rfl (pv_fieldA (k := 0) (by kernel_rfl) rfl) ?_
                    refine D_l rfl (fun w' hR => lv_load (by kernel_rfl) rfl ((m1.ext hR).at rfl)) ?_
                    refine D_callG rfl (by kernel_rfl) (hR.calls_all _ (by omega) hsx) rfl RX.ext (fun v18 w18 x18 hs3 => ?_)
                    have hsz18 := hx.size
                    replace hR := hR.ext x18
                    replace m1 := m1.ext x18
                    replace hXa := hXa.ext x18
                    replace m2 := m2.ext x18
                    replace m3 := m3.ext x18
                    replace hs1 := hs1.ext x18
                    replace hs2 := hs2.ext x18
                    replace hx := hx.trans x18
                    refine D_callP rfl (by kernel_rfl) (cells_w _ _ _ _ _ (hs3.arr (fun x => rfl)) hXa (by omega) (by omega)) rfl RX.ext (fun w19 x19 => ?_)
                    replace hR := hR.ext x19
                    replace m1 := m1.ext x19
                    replace hXa := hXa.ext x19
                    replace m2 := m2.ext x19
                    replace m3 := m3.ext x19
                    replace hs1 := hs1.ext x19
                    replace hs2 := hs2.ext x19
                    replace hs3 := hs3.ext x19
                    replace hx := hx.trans x19
                    refine D_pe (v := ?v63) rfl (pv_pick rfl rfl rfl) ?h63 ?k63
                    case h63 => conv => lhs; whnf
                    refine D_mv (v := ?v64) rfl ?h64 ?k64
                    case h64 => conv => lhs; whnf
                    refine D_split 106 rfl (fun c10 => ?_) (fun c10 => ?_)
                    ·
                      refine D_mv (v := ?v65) rfl ?h65 ?k65
                      case h65 => conv => lhs; whnf
                      refine D_mv (v := ?v66) rfl ?h66 ?k66
                      case h66 => conv => lhs; whnf
                      refine D_p rfl (pv_nilP rfl) ?_
                      refine D_p rfl (pv_fieldA (k := 0) (by kernel_rfl) rfl) ?_
                      refine D_l rfl (fun w' hR => lv_load (by kernel_rfl) rfl ((m1.ext hR).at rfl)) ?_
                      refine D_p rfl (pv_lenV (e := 28) (k := 4) (by kernel_rfl) hXa.sl rfl) ?_
                      refine D_callP rfl (by kernel_rfl) (hR.calls_len _ (by omega)) rfl RX.ext (fun w20 x20 => ?_)
                      replace hR := hR.ext x20
                      replace m1 := m1.ext x20
                      replace hXa := hXa.ext x20
                      replace m2 := m2.ext x20
                      replace m3 := m3.ext x20
                      replace hs1 := hs1.ext x20
                      replace hs2 := hs2.ext x20
                      replace hs3 := hs3.ext x20
                      replace hx := hx.trans x20
                      refine D_p rfl (pv_eql rfl rfl) ?_
                      refine D_pe (v := ?v67) rfl (pv_pick rfl rfl rfl) ?h67 ?k67
                      case h67 => conv => lhs; whnf
                      refine D_mv (v := ?v68) rfl ?h68 ?k68
                      case h68 => conv => lhs; whnf
                      refine D_splitP 116 rfl (fun c11 => ?_) (fun c11 => ?_)
                      ·
                        refine D_mv (v := ?v69) rfl ?h69 ?k69
                        case h69 => conv => lhs; whnf
                        refine D_mv (v := ?v70) rfl ?h70 ?k70
                        case h70 => conv => lhs; whnf
                        refine D_callP rfl (by kernel_rfl) (hR.calls_size _ (by omega)) rfl RX.ext (fun w21 x21 => ?_)
                        replace hR := hR.ext x21
                        replace m1 := m1.ext x21
                        replace hXa := hXa.ext x21
                        replace m2 := m2.ext x21
                        replace m3 := m3.ext x21
                        replace hs1 := hs1.ext x21
                        replace hs2 := hs2.ext x21
                        replace hs3 := hs3.ext x21
                        replace hx := hx.trans x21
                        refine D_callP rfl (by kernel_rfl) (rmsize_w b1 _ l _ (RRep.mk' m1 hXa (fun hl => (hXn hl).1)) (by omega) (fun x hx => by have := isC_spec (hC x hx); omega)) rfl RX.ext (fun w22 x22 => ?_)
                        replace hR := hR.ext x22
                        replace m1 := m1.ext x22
                        replace hXa := hXa.ext x22
                        replace m2 := m2.ext x22
                        replace m3 := m3.ext x22
                        replace hs1 := hs1.ext x22
                        replace hs2 := hs2.ext x22
                        replace hs3 := hs3.ext x22
                        replace hx := hx.trans x22
                        refine D_p rfl (pv_eql rfl rfl) ?_
                        refine D_pe (v := ?v71) rfl (pv_pick rfl rfl rfl) ?h71 ?k71
                        case h71 => conv => lhs; whnf
                        refine D_mv (v := ?v72) rfl ?h72 ?k72
                        case h72 => conv => lhs; whnf
                        refine D_splitP 123 rfl (fun c12 => ?_) (fun c12 => ?_)
                        ·
                          refine D_callP rfl (by kernel_rfl) (known_w _) rfl RX.ext (fun w23 x23 => ?_)
                          replace hR := hR.ext x23
                          replace m1 := m1.ext x23
                          replace hXa := hXa.ext x23
                          replace m2 := m2.ext x23
                          replace m3 := m3.ext x23
                          replace hs1 := hs1.ext x23
                          replace hs2 := hs2.ext x23
                          replace hs3 := hs3.ext x23
                          replace hx := hx.trans x23
                          refine D_pe (v := ?v73) rfl (pv_pick rfl rfl rfl) ?h73 ?k73
                          case h73 => conv => lhs; whnf
                          refine D_as (v := ?v74) rfl ?h74 ?k74
                          case h74 => conv => lhs; whnf
                          refine D_end (hK18 _ _ ?_)
                          refine W_ret ?_
                          try dsimp only [then', inBlk, noGo]
                          refine ret_one (v := ?v75) rfl rfl ?h75 ?k75
                          case h75 => conv => lhs; whnf
                          first
                          | exact ⟨rfl, hx⟩
                          | exact absurd rfl c12
                          | exact absurd rfl c11
                          | (simp at c10; done)
                          | (simp at c9; done)
                          | exact absurd rfl c8
                          | exact absurd ((eqL_cell _ _).symm.trans c7) (by simp)
                        ·
                          refine D_skip rfl ?_
                          refine D_pe (v := ?v76) rfl (pv_pick rfl rfl rfl) ?h76 ?k76
                          case h76 => conv => lhs; whnf
                          refine D_as (v := ?v77) rfl ?h77 ?k77
                          case h77 => conv => lhs; whnf
                          refine D_end (hK18 _ _ ?_)
                          refine W_ret ?_
                          try dsimp only [then', inBlk, noGo]
                          refine ret_one (v := ?v78) rfl rfl ?h78 ?k78
                          case h78 => conv => lhs; whnf
                          first
                          | exact ⟨rfl, hx⟩
                          | exact absurd rfl c12
                          | exact absurd rfl c11
                          | (simp at c10; done)
                          | (simp at c9; done)
                          | exact absurd rfl c8
                          | exact absurd ((eqL_cell _ _).symm.trans c7) (by simp)
                      ·
                        refine D_skip rfl ?_
                        refine D_skip rfl ?_
                        refine D_skip rfl ?_
                        refine D_skip rfl ?_
                        refine D_skip rfl ?_
                        refine D_pe (v := ?v79) rfl (pv_pick rfl rfl rfl) ?h79 ?k79
                        case h79 => conv => lhs; whnf
                        refine D_mv (v := ?v80) rfl ?h80 ?k80
                        case h80 => conv => lhs; whnf
                        refine D_skip rfl ?_
                        refine D_pe (v := ?v81) rfl (pv_pick rfl rfl rfl) ?h81 ?k81
                        case h81 => conv => lhs; whnf
                        refine D_as (v := ?v82) rfl ?h82 ?k82
                        case h82 => conv => lhs; whnf
                        refine D_end (hK18 _ _ ?_)
                        refine W_ret ?_
                        try dsimp only [then', inBlk, noGo]
                        refine ret_one (v := ?v83) rfl rfl ?h83 ?k83
                        case h83 => conv => lhs; whnf
                        first
                        | exact ⟨rfl, hx⟩
                        | exact absurd rfl c12
                        | exact absurd rfl c11
                        | (simp at c10; done)
                        | (simp at c9; done)
                        | exact absurd rfl c8
                        | exact absurd ((eqL_cell _ _).symm.trans c7) (by simp)
                    ·
                      refine D_skip rfl ?_
                      refine D_skip rfl ?_
                      refine D_skip rfl ?_
                      refine D_skip rfl ?_
                      refine D_skip rfl ?_
                      refine D_skip rfl ?_
                      refine D_skip rfl ?_
                      refine D_skip rfl ?_
                      refine D_pe (v := ?v84) rfl (pv_pick rfl rfl rfl) ?h84 ?k84
                      case h84 => conv => lhs; whnf
                      refine D_mv (v := ?v85) rfl ?h85 ?k85
                      case h85 => conv => lhs; whnf
                      refine D_skip rfl ?_
                      refine D_skip rfl ?_
                      refine D_skip rfl ?_
                      refine D_skip rfl ?_
                      refine D_skip rfl ?_
                      refine D_pe (v := ?v86) rfl (pv_pick rfl rfl rfl) ?h86 ?k86
                      case h86 => conv => lhs; whnf
                      refine D_mv (v := ?v87) rfl ?h87 ?k87
                      case h87 => conv => lhs; whnf
                      refine D_skip rfl ?_
                      refine D_pe (v := ?v88) rfl (pv_pick rfl rfl rfl) ?h88 ?k88
                      case h88 => conv => lhs; whnf
                      refine D_as (v := ?v89) rfl ?h89 ?k89
                      case h89 => conv => lhs; whnf
                      refine D_end (hK18 _ _ ?_)
                      refine W_ret ?_
                      try dsimp only [then', inBlk, noGo]
                      refine ret_one (v := ?v90) rfl rfl ?h90 ?k90
                      case h90 => conv => lhs; whnf
                      first
                      | exact ⟨rfl, hx⟩
                      | exact absurd rfl c12
                      | exact absurd rfl c11
                      | (simp at c10; done)
                      | (simp at c9; done)
                      | exact absurd rfl c8
                      | exact absurd ((eqL_cell _ _).symm.trans c7) (by simp)
                  ·
                    refine D_skip rfl ?_
                    refine D_skip rfl ?_
                    refine D_skip rfl ?_
                    refine D_skip rfl ?_
                    refine D_skip rfl ?_
                    refine D_skip rfl ?_
                    refine D_skip rfl ?_
                    refine D_pe (v := ?v91) rfl (pv_pick rfl rfl rfl) ?h91 ?k91
                    case h91 => conv => lhs; whnf
                    refine D_mv (v := ?v92) rfl ?h92 ?k92
                    case h92 => conv => lhs; whnf
                    refine D_skip rfl ?_
                    refine D_skip rfl ?_
                    refine D_skip rfl ?_
                    refine D_skip rfl ?_
                    refine D_skip rfl ?_
                    refine D_skip rfl ?_
                    refine D_skip rfl ?_
                    refine D_skip rfl ?_
                    refine D_pe (v := ?v93) rfl (pv_pick rfl rfl rfl) ?h93 ?k93
                    case h93 => conv => lhs; whnf
                    refine D_mv (v := ?v94) rfl ?h94 ?k94
                    case h94 => conv => lhs; whnf
                    refine D_skip rfl ?_
                    refine D_skip rfl ?_
                    refine D_skip rfl ?_
                    refine D_skip rfl ?_
                    refine D_skip rfl ?_
                    refine D_pe (v := ?v95) rfl (pv_pick rfl rfl rfl) ?h95 ?k95
                    case h95 => conv => lhs; whnf
                    refine D_mv (v := ?v96) rfl ?h96 ?k96
                    case h96 => conv => lhs; whnf
                    refine D_skip rfl ?_
                    refine D_pe (v := ?v97) rfl (pv_pick rfl rfl rfl) ?h97 ?k97
                    case h97 => conv => lhs; whnf
                    refine D_as (v := ?v98) rfl ?h98 ?k98
                    case h98 => conv => lhs; whnf
                    refine D_end (hK18 _ _ ?_)
                    refine W_ret ?_
                    try dsimp only [then', inBlk, noGo]
                    refine ret_one (v := ?v99) rfl rfl ?h99 ?k99
                    case h99 => conv => lhs; whnf
                    first
                    | exact ⟨rfl, hx⟩
                    | exact absurd rfl c12
                    | exact absurd rfl c11
                    | (simp at c10; done)
                    | (simp at c9; done)
                    | exact absurd rfl c8
                    | exact absurd ((eqL_cell _ _).symm.trans c7) (by simp)
                ·
                  refine D_skip rfl ?_
                  refine D_skip rfl ?_
                  refine D_skip rfl ?_
                  refine D_skip rfl ?_
                  refine D_skip rfl ?_
                  refine D_skip rfl ?_
                  refine D_skip rfl ?_
                  refine D_skip rfl ?_
                  refine D_skip rfl ?_
                  refine D_skip rfl ?_
                  refine D_skip rfl ?_
                  refine D_skip rfl ?_
                  refine D_pe (v := ?v100) rfl (pv_pick rfl rfl rfl) ?h100 ?k100
                  case h100 => conv => lhs; whnf
                  refine D_mv (v := ?v101) rfl ?h101 ?k101
                  case h101 => conv => lhs; whnf
                  refine D_skip rfl ?_
                  refine D_skip rfl ?_
                  refine D_skip rfl ?_
                  refine D_skip rfl ?_
                  refine D_skip rfl ?_
                  refine D_skip rfl ?_
                  refine D_skip rfl ?_
                  refine D_pe (v := ?v102) rfl (pv_pick rfl rfl rfl) ?h102 ?k102
                  case h102 => conv => lhs; whnf
                  refine D_mv (v := ?v103) rfl ?h103 ?k103
                  case h103 => conv => lhs; whnf
                  refine D_skip rfl ?_
                  refine D_skip rfl ?_
                  refine D_skip rfl ?_
                  refine D_skip rfl ?_
                  refine D_skip rfl ?_
                  refine D_skip rfl ?_
                  refine D_skip rfl ?_
                  refine D_skip rfl ?_
                  refine D_pe (v := ?v104) rfl (pv_pick rfl rfl rfl) ?h104 ?k104
                  case h104 => conv => lhs; whnf
                  refine D_mv (v := ?v105) rfl ?h105 ?k105
                  case h105 => conv => lhs; whnf
                  refine D_skip rfl ?_
                  refine D_skip rfl ?_
                  refine D_skip rfl ?_
                  refine D_skip rfl ?_
                  refine D_skip rfl ?_
                  refine D_pe (v := ?v106) rfl (pv_pick rfl rfl rfl) ?h106 ?k106
                  case h106 => conv => lhs; whnf
                  refine D_mv (v := ?v107) rfl ?h107 ?k107
                  case h107 => conv => lhs; whnf
                  refine D_skip rfl ?_
                  refine D_pe (v := ?v108) rfl (pv_pick rfl rfl rfl) ?h108 ?k108
                  case h108 => conv => lhs; whnf
                  refine D_as (v := ?v109) rfl ?h109 ?k109
                  case h109 => conv => lhs; whnf
                  refine D_end (hK18 _ _ ?_)
                  refine W_ret ?_
                  try dsimp only [then', inBlk, noGo]
                  refine ret_one (v := ?v110) rfl rfl ?h110 ?k110
                  case h110 => conv => lhs; whnf
                  first
                  | exact ⟨rfl, hx⟩
                  | exact absurd rfl c12
                  | exact absurd rfl c11
                  | (simp at c10; done)
                  | (simp at c9; done)
                  | exact absurd rfl c8
                  | exact absurd ((eqL_cell _ _).symm.trans c7) (by simp)
              ·
                refine D_skip rfl ?_
                refine D_skip rfl ?_
                refine D_skip rfl ?_
                refine D_pe (v := ?v111) rfl (pv_pick rfl rfl rfl) ?h111 ?k111
                case h111 => conv => lhs; whnf
                refine D_mv (v := ?v112) rfl ?h112 ?k112
                case h112 => conv => lhs; whnf
                refine D_skip rfl ?_
                refine D_skip rfl ?_
                refine D_skip rfl ?_
                refine D_skip rfl ?_
                refine D_skip rfl ?_
                refine D_skip rfl ?_
                refine D_skip rfl ?_
                refine D_skip rfl ?_
                refine D_skip rfl ?_
                refine D_skip rfl ?_
                refine D_skip rfl ?_
                refine D_skip rfl ?_
                refine D_pe (v := ?v113) rfl (pv_pick rfl rfl rfl) ?h113 ?k113
                case h113 => conv => lhs; whnf
                refine D_mv (v := ?v114) rfl ?h114 ?k114
                case h114 => conv => lhs; whnf
                refine D_skip rfl ?_
                refine D_skip rfl ?_
                refine D_skip rfl ?_
                refine D_skip rfl ?_
                refine D_skip rfl ?_
                refine D_skip rfl ?_
                refine D_skip rfl ?_
                refine D_pe (v := ?v115) rfl (pv_pick rfl rfl rfl) ?h115 ?k115
                case h115 => conv => lhs; whnf
                refine D_mv (v := ?v116) rfl ?h116 ?k116
                case h116 => conv => lhs; whnf
                refine D_skip rfl ?_
                refine D_skip rfl ?_
                refine D_skip rfl ?_
                refine D_skip rfl ?_
                refine D_skip rfl ?_
                refine D_skip rfl ?_
                refine D_skip rfl ?_
                refine D_skip rfl ?_
                refine D_pe (v := ?v117) rfl (pv_pick rfl rfl rfl) ?h117 ?k117
                case h117 => conv => lhs; whnf
                refine D_mv (v := ?v118) rfl ?h118 ?k118
                case h118 => conv => lhs; whnf
                refine D_skip rfl ?_
                refine D_skip rfl ?_
                refine D_skip rfl ?_
                refine D_skip rfl ?_
                refine D_skip rfl ?_
                refine D_pe (v := ?v119) rfl (pv_pick rfl rfl rfl) ?h119 ?k119
                case h119 => conv => lhs; whnf
                refine D_mv (v := ?v120) rfl ?h120 ?k120
                case h120 => conv => lhs; whnf
                refine D_skip rfl ?_
                refine D_pe (v := ?v121) rfl (pv_pick rfl rfl rfl) ?h121 ?k121
                case h121 => conv => lhs; whnf
                refine D_as (v := ?v122) rfl ?h122 ?k122
                case h122 => conv => lhs; whnf
                refine D_end (hK18 _ _ ?_)
                refine W_ret ?_
                try dsimp only [then', inBlk, noGo]
                refine ret_one (v := ?v123) rfl rfl ?h123 ?k123
                case h123 => conv => lhs; whnf
                first
                | exact ⟨rfl, hx⟩
                | exact absurd rfl c12
                | exact absurd rfl c11
                | (simp at c10; done)
                | (simp at c9; done)
                | exact absurd rfl c8
                | exact absurd ((eqL_cell _ _).symm.trans c7) (by simp)

end Go.Proofs.Ytodmkkcediofgaa
