/-
  Walks.
-/
import Derived.Test.YtodmkkcediofgaaChecked
import Derived.Test.YtodmkkcediofgaaSpMem
import Derived.KernelRfl
import Derived.Test.YtodmkkcediofgaaMemA
namespace Go.Proofs.Ytodmkkcediofgaa
open Go.Vc Go.Sp
attribute [local irreducible] W XW Dw DwT
set_option linter.unusedVariables false
set_option linter.unusedSimpArgs false

theorem scan_take {l : List Cell} {k : Nat} {c : Cell} {frm to : Str} (h : l[k]? = some c) : scan (l.take (k + 1)) frm to = if inScan frm to c = true then scan (l.take k) frm to ++ [c] else scan (l.take k) frm to := by
  obtain ⟨hk, rfl⟩ := List.getElem?_eq_some_iff.1 h
  rw [List.take_succ_eq_append_getElem hk]
  unfold scan
  rw [List.filter_append]
  by_cases hi : inScan frm to l[k] = true
  · rw [if_pos hi]; simp [hi]
  · rw [if_neg hi]; simp [hi]
theorem scan_take_le (l : List Cell) (k : Nat) (frm to : Str) : (scan (l.take k) frm to).length ≤ l.length := by
  have h1 := List.length_filter_le (inScan frm to) (l.take k)
  have h2 : (l.take k).length ≤ l.length := List.length_take_le' ..
  exact Nat.le_trans h1 h2
theorem scan_yes {c : Cell} {frm to : Str} (h : (!Op.bytesLess c.key frm) = true) (e : to = []) : inScan frm to c = true := by simp [inScan, sLt, h, e]
theorem scan_yes2 {c : Cell} {frm to : Str} (h : (!Op.bytesLess c.key frm) = true) (e : Op.bytesLess c.key to = true) : inScan frm to c = true := by simp [inScan, sLt, h, e]
theorem scan_no1 {c : Cell} {frm to : Str} (h : (!Op.bytesLess c.key frm) = false) : ¬ inScan frm to c = true := by simp [inScan, sLt, h]
theorem scan_no2 {c : Cell} {frm to : Str} (e : ¬ to = []) (h : Op.bytesLess c.key to = false) : ¬ inScan frm to c = true := by simp [inScan, sLt, h, e]
theorem eqL_cell (a b : Cell) : eqL a.cs b.cs = decide (a = b) := by
  obtain ⟨k1, v1, d1, s1⟩ := a
  obtain ⟨k2, v2, d2, s2⟩ := b
  simp only [Cell.cs, eqL, toList_S, Bool.and_true, Cell.mk.injEq]
  rw [Bool.eq_iff_iff]
  simp
/-- Keys' and values' bytes. -/
def weight (l : List Cell) : Nat := (l.map fun c => c.key.length + c.val.length).sum
def light (l : List Cell) : Prop := l.length ≤ 201 ∧ weight l ≤ 6000
theorem weight_take {l : List Cell} {k : Nat} {c : Cell} (h : l[k]? = some c) : weight (l.take (k + 1)) = weight (l.take k) + c.key.length + c.val.length := by
  obtain ⟨hk, rfl⟩ := List.getElem?_eq_some_iff.1 h
  rw [List.take_succ_eq_append_getElem hk]
  unfold weight
  rw [List.map_append, List.sum_append]
  simp only [List.map_cons, List.map_nil, List.sum_cons, List.sum_nil]
  omega
theorem take_snoc {α : Type} {l : List α} {k : Nat} {c : α} (h : l[k]? = some c) : l.take (k + 1) = l.take k ++ [c] := by
  obtain ⟨hk, rfl⟩ := List.getElem?_eq_some_iff.1 h
  exact List.take_succ_eq_append_getElem hk

set_option maxRecDepth 100000 in
set_option maxHeartbeats 1000000 in
theorem rscan_w (l : List Cell) (v : Value) (frm to : Str) (w : World) (hv : Arr Cell.cs 4 w v l) (hl : l.length ≤ 1000000000) :
    Calls Try.prog 16 [v, S frm, S to].toArray w (Gives w (fun v' w' => Own Cell.cs 4 28 w.heap.size w' v' (scan l frm to))) := by
  refine calls_W Try.func16 rfl rfl rfl (by kernel_rfl) ?_
  have hx := Ext.refl w
  refine W_seq fun K1 hK1 => ?_
  refine W_reg [.p] rfl ?_
  refine D_as (v := ?v1) rfl ?h1 ?k1
  case h1 => conv => lhs; whnf
  refine D_end (hK1 _ _ ?_)
  refine W_seq fun K2 hK2 => ?_
  refine W_reg [.p] rfl ?_
  refine D_as (v := ?v2) rfl ?h2 ?k2
  case h2 => conv => lhs; whnf
  refine D_end (hK2 _ _ ?_)
  refine W_seq fun K3 hK3 => ?_
  refine W_seq fun K4 hK4 => ?_
  refine W_reg [.p] rfl ?_
  refine D_as (v := ?v3) rfl ?h3 ?k3
  case h3 => conv => lhs; whnf
  refine D_end (hK4 _ _ ?_)
  refine W_block ?_
  refine W_loop (G := Nat × Value) (fun (k, vm) => [(0, v), (1, S frm), (2, S to), (6, .slice none 0 0), (7, vm), (8, I ↑k)]) (fun (k, vm) w' => Ext w w' ∧ k ≤ l.length ∧ Own Cell.cs 4 28 w.heap.size w' vm (scan (l.take k) frm to)) (fun (k, vm) => l.length - k) (0, .slice none 0 0) ?_ ?_ ?_
  · exact ⟨rfl, rfl, rfl, rfl, rfl, rfl, trivial⟩
  · exact ⟨hx, Nat.zero_le _, Own.nil⟩
  · intro X1 g1 w1 hF1
    obtain ⟨k, vm⟩ := g1
    clear hx 
    obtain ⟨hx, hk1, ho⟩ := hF1
    have hlen := scan_take_le l k frm to
    refine W_seq fun K5 hK5 => ?_
    refine W_seq fun K6 hK6 => ?_
    refine W_reg [.p, .p, .p, .p] rfl ?_
    refine D_mv (v := ?v4) rfl ?h4 ?k4
    case h4 => conv => lhs; whnf
    refine D_mv (v := ?v5) rfl ?h5 ?k5
    case h5 => conv => lhs; whnf
    refine D_p rfl (pv_lenV (e := 28) (k := 4) (by kernel_rfl) hv.sl rfl) ?_
    refine D_p rfl (pv_lss rfl rfl) ?_
    refine D_end (hK6 _ _ ?_)
    refine W_if rfl (fun c1 => ?_) (fun c1 => ?_)
    ·
      obtain ⟨c, hk⟩ : ∃ c, l[k]? = some c := ⟨_, List.getElem?_eq_getElem (by omega)⟩
      refine W_skip ?_
      refine hK5 _ _ ?_
      refine W_seq fun K7 hK7 => ?_
      refine W_block ?_
      refine W_seq fun K8 hK8 => ?_
      refine W_reg [.p, .p, .p, .p, .l, .p, .p, .p, .p, .p, .p, .p, .p, .p, .p, .l, .p, .p, .p, .p] rfl ?_
      refine D_mv (v := ?v6) rfl ?h6 ?k6
      case h6 => conv => lhs; whnf
      refine D_mv (v := ?v7) rfl ?h7 ?k7
      case h7 => conv => lhs; whnf
      refine D_p rfl (pv_idxA (e := 28) (k := 4) (by kernel_rfl) hv.sl rfl rfl (hv.lt hk)) ?_
      refine D_p rfl (pv_fieldA (k := 0) (by kernel_rfl) rfl) ?_
      refine D_lq rfl (lv_load (by kernel_rfl) rfl (((hv.ext hx).row hk).at rfl)) ?_
      refine D_mv (v := ?v8) rfl ?h8 ?k8
      case h8 => conv => lhs; whnf
      refine D_p rfl (pv_sge rfl rfl) ?_
      refine D_mv (v := ?v9) rfl ?h9 ?k9
      case h9 => conv => lhs; whnf
      refine D_split 22 rfl (fun c2 => ?_) (fun c2 => ?_)
      ·
        refine D_mv (v := ?v10) rfl ?h10 ?k10
        case h10 => conv => lhs; whnf
        refine D_p rfl (pv_seq rfl rfl) ?_
        refine D_mv (v := ?v11) rfl ?h11 ?k11
        case h11 => conv => lhs; whnf
        refine D_splitP 25 rfl (fun c3 => ?_) (fun c3 => ?_)
        ·
          refine D_skip rfl ?_
          refine D_skip rfl ?_
          refine D_skip rfl ?_
          refine D_skip rfl ?_
          refine D_skip rfl ?_
          refine D_skip rfl ?_
          refine D_skip rfl ?_
          refine D_pe (v := ?v12) rfl (pv_pick rfl rfl rfl) ?h12 ?k12
          case h12 => conv => lhs; whnf
          refine D_pe (v := ?v13) rfl (pv_pick rfl rfl rfl) ?h13 ?k13
          case h13 => conv => lhs; whnf
          refine D_end (hK8 _ _ ?_)
          refine W_t rfl ?_
          refine W_reg [.p, .p, .p, .p, .l, .x, .x, .p] rfl ?_
          refine D_mv (v := ?v14) rfl ?h14 ?k14
          case h14 => conv => lhs; whnf
          refine D_mv (v := ?v15) rfl ?h15 ?k15
          case h15 => conv => lhs; whnf
          refine D_mv (v := ?v16) rfl ?h16 ?k16
          case h16 => conv => lhs; whnf
          refine D_p rfl (pv_idxA (e := 28) (k := 4) (by kernel_rfl) hv.sl rfl rfl (hv.lt hk)) ?_
          refine D_lq rfl (lv_loadA (by kernel_rfl) rfl rfl ((hv.ext hx).row hk)) ?_
          refine D_lit (e := 28) (sz := 4) (zs := [S [], S [], B false, .int .i64 0]) (pv := [(0, .agg ⟨[?a17_0, ?a17_1, ?a17_2, ?a17_3]⟩)]) (cs := [?a17_0, ?a17_1, ?a17_2, ?a17_3]) rfl (by kernel_rfl) ⟨rfl, rfl⟩ (by kernel_rfl) rfl ?h17 ?f17 RX.all (fun b1 w2 e1 x2 m1 => ?k17)
          case h17 => refine ⟨rfl, ?_, trivial⟩ <;> (conv => lhs; whnf)
          case f17 => rfl
          replace ho := ho.ext x2
          replace hx := hx.trans x2
          refine D_append (lx := [c]) (e := 28) (sz := 4) (by' := 48) rfl (by kernel_rfl) (by kernel_rfl) (by intro x; rfl) ho (m1.arr (enc := Cell.cs) (l := [c]) rfl (by intro x; rfl) rfl (Nat.le_of_ble_eq_true rfl)) rfl rfl (by intro x _ u hu; simp at hu; rcases hu with rfl | rfl | rfl | rfl <;> rfl) (by simp; omega) (by decide) hx.size (.inl rfl) (fun vm2 w3 ho_n x3 => ?_)
          try replace m1 := m1.mod x3 (by assumption)
          replace hx := hx.own x3 (fun i hi => (ho.lt i hi).1)
          replace ho := ho_n
          refine D_as (v := ?v18) rfl ?h18 ?k18
          case h18 => conv => lhs; whnf
          refine D_end (hK7 _ _ ?_)
          refine W_reg [.p, .p, .p] rfl ?_
          refine D_mv (v := ?v19) rfl ?h19 ?k19
          case h19 => conv => lhs; whnf
          refine D_p rfl (pv_add rfl rfl (by unfold inI64; omega)) ?_
          refine D_as (v := ?v20) rfl ?h20 ?k20
          case h20 => conv => lhs; whnf
          refine D_end (?_)
          refine ⟨(k + 1, _), ⟨rfl, rfl, rfl, rfl, rfl, rfl, trivial⟩, ⟨hx, by omega, ?_⟩, by simp only []; omega⟩
          rw [scan_take hk]
          first | (rw [if_pos (scan_yes ‹_› ‹_›)]; exact ho) | (rw [if_pos (scan_yes2 ‹_› ‹_›)]; exact ho) | (rw [if_neg (scan_no1 ‹_›)]; exact ho) | (rw [if_neg (scan_no2 ‹_› ‹_›)]; exact ho)
        ·
          refine D_mv (v := ?v21) rfl ?h21 ?k21
          case h21 => conv => lhs; whnf
          refine D_mv (v := ?v22) rfl ?h22 ?k22
          case h22 => conv => lhs; whnf
          refine D_p rfl (pv_idxA (e := 28) (k := 4) (by kernel_rfl) hv.sl rfl rfl (hv.lt hk)) ?_
          refine D_p rfl (pv_fieldA (k := 0) (by kernel_rfl) rfl) ?_
          refine D_lq rfl (lv_load (by kernel_rfl) rfl (((hv.ext hx).row hk).at rfl)) ?_
          refine D_mv (v := ?v23) rfl ?h23 ?k23
          case h23 => conv => lhs; whnf
          refine D_p rfl (pv_slt rfl rfl) ?_
          refine D_pe (v := ?v24) rfl (pv_pick rfl rfl rfl) ?h24 ?k24
          case h24 => conv => lhs; whnf
          refine D_pe (v := ?v25) rfl (pv_pick rfl rfl rfl) ?h25 ?k25
          case h25 => conv => lhs; whnf
          refine D_end (hK8 _ _ ?_)
          refine W_cond rfl (fun c4 => ?_) (fun c4 => ?_)
          ·
            refine W_reg [.p, .p, .p, .p, .l, .x, .x, .p] rfl ?_
            refine D_mv (v := ?v26) rfl ?h26 ?k26
            case h26 => conv => lhs; whnf
            refine D_mv (v := ?v27) rfl ?h27 ?k27
            case h27 => conv => lhs; whnf
            refine D_mv (v := ?v28) rfl ?h28 ?k28
            case h28 => conv => lhs; whnf
            refine D_p rfl (pv_idxA (e := 28) (k := 4) (by kernel_rfl) hv.sl rfl rfl (hv.lt hk)) ?_
            refine D_lq rfl (lv_loadA (by kernel_rfl) rfl rfl ((hv.ext hx).row hk)) ?_
            refine D_lit (e := 28) (sz := 4) (zs := [S [], S [], B false, .int .i64 0]) (pv := [(0, .agg ⟨[?a29_0, ?a29_1, ?a29_2, ?a29_3]⟩)]) (cs := [?a29_0, ?a29_1, ?a29_2, ?a29_3]) rfl (by kernel_rfl) ⟨rfl, rfl⟩ (by kernel_rfl) rfl ?h29 ?f29 RX.all (fun b2 w4 e2 x4 m2 => ?k29)
            case h29 => refine ⟨rfl, ?_, trivial⟩ <;> (conv => lhs; whnf)
            case f29 => rfl
            replace ho := ho.ext x4
            replace hx := hx.trans x4
            refine D_append (lx := [c]) (e := 28) (sz := 4) (by' := 48) rfl (by kernel_rfl) (by kernel_rfl) (by intro x; rfl) ho (m2.arr (enc := Cell.cs) (l := [c]) rfl (by intro x; rfl) rfl (Nat.le_of_ble_eq_true rfl)) rfl rfl (by intro x _ u hu; simp at hu; rcases hu with rfl | rfl | rfl | rfl <;> rfl) (by simp; omega) (by decide) hx.size (.inl rfl) (fun vm2 w5 ho_n x5 => ?_)
            try replace m2 := m2.mod x5 (by assumption)
            replace hx := hx.own x5 (fun i hi => (ho.lt i hi).1)
            replace ho := ho_n
            refine D_as (v := ?v30) rfl ?h30 ?k30
            case h30 => conv => lhs; whnf
            refine D_end (hK7 _ _ ?_)
            refine W_reg [.p, .p, .p] rfl ?_
            refine D_mv (v := ?v31) rfl ?h31 ?k31
            case h31 => conv => lhs; whnf
            refine D_p rfl (pv_add rfl rfl (by unfold inI64; omega)) ?_
            refine D_as (v := ?v32) rfl ?h32 ?k32
            case h32 => conv => lhs; whnf
            refine D_end (?_)
            refine ⟨(k + 1, _), ⟨rfl, rfl, rfl, rfl, rfl, rfl, trivial⟩, ⟨hx, by omega, ?_⟩, by simp only []; omega⟩
            rw [scan_take hk]
            first | (rw [if_pos (scan_yes ‹_› ‹_›)]; exact ho) | (rw [if_pos (scan_yes2 ‹_› ‹_›)]; exact ho) | (rw [if_neg (scan_no1 ‹_›)]; exact ho) | (rw [if_neg (scan_no2 ‹_› ‹_›)]; exact ho)
          ·
            refine W_skip ?_
            refine hK7 _ _ ?_
            refine W_reg [.p, .p, .p] rfl ?_
            refine D_mv (v := ?v33) rfl ?h33 ?k33
            case h33 => conv => lhs; whnf
            refine D_p rfl (pv_add rfl rfl (by unfold inI64; omega)) ?_
            refine D_as (v := ?v34) rfl ?h34 ?k34
            case h34 => conv => lhs; whnf
            refine D_end (?_)
            refine ⟨(k + 1, _), ⟨rfl, rfl, rfl, rfl, rfl, rfl, trivial⟩, ⟨hx, by omega, ?_⟩, by simp only []; omega⟩
            rw [scan_take hk]
            first | (rw [if_pos (scan_yes ‹_› ‹_›)]; exact ho) | (rw [if_pos (scan_yes2 ‹_› ‹_›)]; exact ho) | (rw [if_neg (scan_no1 ‹_›)]; exact ho) | (rw [if_neg (scan_no2 ‹_› ‹_›)]; exact ho)
      ·
        refine D_skip rfl ?_
        refine D_skip rfl ?_
        refine D_skip rfl ?_
        refine D_skip rfl ?_
        refine D_skip rfl ?_
        refine D_skip rfl ?_
        refine D_skip rfl ?_
        refine D_skip rfl ?_
        refine D_skip rfl ?_
        refine D_skip rfl ?_
        refine D_skip rfl ?_
        refine D_pe (v := ?v35) rfl (pv_pick rfl rfl rfl) ?h35 ?k35
        case h35 => conv => lhs; whnf
        refine D_end (hK8 _ _ ?_)
        refine W_f rfl ?_
        refine W_skip ?_
        refine hK7 _ _ ?_
        refine W_reg [.p, .p, .p] rfl ?_
        refine D_mv (v := ?v36) rfl ?h36 ?k36
        case h36 => conv => lhs; whnf
        refine D_p rfl (pv_add rfl rfl (by unfold inI64; omega)) ?_
        refine D_as (v := ?v37) rfl ?h37 ?k37
        case h37 => conv => lhs; whnf
        refine D_end (?_)
        refine ⟨(k + 1, _), ⟨rfl, rfl, rfl, rfl, rfl, rfl, trivial⟩, ⟨hx, by omega, ?_⟩, by simp only []; omega⟩
        rw [scan_take hk]
        first | (rw [if_pos (scan_yes ‹_› ‹_›)]; exact ho) | (rw [if_pos (scan_yes2 ‹_› ‹_›)]; exact ho) | (rw [if_neg (scan_no1 ‹_›)]; exact ho) | (rw [if_neg (scan_no2 ‹_› ‹_›)]; exact ho)
    ·
      refine W_exit ?_
      refine hK3 _ _ ?_
      refine W_seq fun K9 hK9 => ?_
      refine W_reg [.p, .p] rfl ?_
      refine D_mv (v := ?v38) rfl ?h38 ?k38
      case h38 => conv => lhs; whnf
      refine D_as (v := ?v39) rfl ?h39 ?k39
      case h39 => conv => lhs; whnf
      refine D_end (hK9 _ _ ?_)
      refine W_ret ?_
      try dsimp only [then', inBlk, noGo]
      refine ret_one (v := ?v40) rfl rfl ?h40 ?k40
      case h40 => conv => lhs; whnf
      exact ⟨_, rfl, hx, by rw [List.take_of_length_le (by omega)] at ho; exact ho⟩

set_option maxRecDepth 100000 in
set_option maxHeartbeats 1000000 in
theorem heavy_w (l : List Cell) (v : Value) (w : World) (hv : Arr Cell.cs 4 w v l) (hl : l.length ≤ 4611686018427387904) (hs : ∀ c ∈ l, c.key.length ≤ 140737488355328 ∧ c.val.length ≤ 140737488355328) :
    Calls Try.prog 11 [v].toArray w (fun e w' => Ext w w' ∧ (e = .returned (B true) ∨ (e = .returned (B false) ∧ light l))) := by
  refine calls_W Try.func11 rfl rfl rfl (by kernel_rfl) ?_
  have hx := Ext.refl w
  refine W_seq fun K1 hK1 => ?_
  refine W_reg [.p] rfl ?_
  refine D_as (v := ?v1) rfl ?h1 ?k1
  case h1 => conv => lhs; whnf
  refine D_end (hK1 _ _ ?_)
  refine W_seq fun K2 hK2 => ?_
  refine W_reg [.p] rfl ?_
  refine D_as (v := ?v2) rfl ?h2 ?k2
  case h2 => conv => lhs; whnf
  refine D_end (hK2 _ _ ?_)
  refine W_seq fun K3 hK3 => ?_
  refine W_seq fun K4 hK4 => ?_
  refine W_reg [.p] rfl ?_
  refine D_as (v := ?v3) rfl ?h3 ?k3
  case h3 => conv => lhs; whnf
  refine D_end (hK4 _ _ ?_)
  refine W_block ?_
  refine W_loop (G := Nat × Nat) (fun (k, n) => [(0, v), (3, I ↑n), (4, I ↑k)]) (fun (k, n) w' => Ext w w' ∧ k ≤ l.length ∧ n = (l.take k).length + weight (l.take k) ∧ (n ≤ 6000 ∧ k ≤ 201)) (fun (k, n) => l.length - k) (0, 0) ?_ ?_ ?_
  · exact ⟨rfl, rfl, rfl, trivial⟩
  · exact ⟨hx, Nat.zero_le _, rfl, by omega, by omega⟩
  · intro X1 g1 w1 hF1
    obtain ⟨k, n⟩ := g1
    clear hx 
    obtain ⟨hx, hk1, hn, hb1, hb2⟩ := hF1
    refine W_seq fun K5 hK5 => ?_
    refine W_seq fun K6 hK6 => ?_
    refine W_reg [.p, .p, .p, .p] rfl ?_
    refine D_mv (v := ?v4) rfl ?h4 ?k4
    case h4 => conv => lhs; whnf
    refine D_mv (v := ?v5) rfl ?h5 ?k5
    case h5 => conv => lhs; whnf
    refine D_p rfl (pv_lenV (e := 28) (k := 4) (by kernel_rfl) hv.sl rfl) ?_
    refine D_p rfl (pv_lss rfl rfl) ?_
    refine D_end (hK6 _ _ ?_)
    refine W_if rfl (fun c1 => ?_) (fun c1 => ?_)
    ·
      obtain ⟨c, hk⟩ : ∃ c, l[k]? = some c := ⟨_, List.getElem?_eq_getElem (by omega)⟩
      have hsc := hs c (List.mem_of_getElem? hk)
      refine W_skip ?_
      refine hK5 _ _ ?_
      refine W_seq fun K7 hK7 => ?_
      refine W_block ?_
      refine W_seq fun K8 hK8 => ?_
      refine W_draw (R := Ext) Ext.refl (fun _ _ _ => Ext.trans) (by kernel_rfl) [6, 13] [(0, .p, false), (1, .p, false), (2, .p, false), (3, .p, false), (4, .p, false), (5, .p, false), (6, .l, false), (7, .p, false), (8, .p, false), (9, .p, false), (10, .p, false), (11, .p, false), (12, .p, false), (13, .l, false), (14, .p, false), (15, .p, false), (16, .p, false)] rfl (by kernel_rfl) (by kernel_rfl) (fun w2 ew2 => ?_)
      have x2 : Ext w1 w2 := by rw [ew2]; exact Ext.drew _
      clear ew2
      replace hx := hx.trans x2
      refine D_mv (v := ?v6) rfl ?h6 ?k6
      case h6 => conv => lhs; whnf
      refine D_p rfl (pv_add rfl rfl (by unfold inI64; omega)) ?_
      refine D_mv (v := ?v7) rfl ?h7 ?k7
      case h7 => conv => lhs; whnf
      refine D_mv (v := ?v8) rfl ?h8 ?k8
      case h8 => conv => lhs; whnf
      refine D_p rfl (pv_idxA (e := 28) (k := 4) (by kernel_rfl) hv.sl rfl rfl (hv.lt hk)) ?_
      refine D_p rfl (pv_fieldA (k := 0) (by kernel_rfl) rfl) ?_
      refine D_l rfl (fun w' hR => lv_load (by kernel_rfl) rfl (((hv.ext (hx.trans hR)).row hk).at rfl)) ?_
      refine D_p rfl (pv_lenS (by kernel_rfl) rfl) ?_
      refine D_p rfl (pv_add rfl rfl (by unfold inI64; omega)) ?_
      refine D_mv (v := ?v9) rfl ?h9 ?k9
      case h9 => conv => lhs; whnf
      refine D_mv (v := ?v10) rfl ?h10 ?k10
      case h10 => conv => lhs; whnf
      refine D_p rfl (pv_idxA (e := 28) (k := 4) (by kernel_rfl) hv.sl rfl rfl (hv.lt hk)) ?_
      refine D_p rfl (pv_fieldA (k := 1) (by kernel_rfl) rfl) ?_
      refine D_l rfl (fun w' hR => lv_load (by kernel_rfl) rfl (((hv.ext (hx.trans hR)).row hk).at rfl)) ?_
      refine D_p rfl (pv_lenS (by kernel_rfl) rfl) ?_
      refine D_p rfl (pv_add rfl rfl (by unfold inI64; omega)) ?_
      refine D_as (v := ?v11) rfl ?h11 ?k11
      case h11 => conv => lhs; whnf
      refine D_end (hK8 _ _ ?_)
      refine W_seq fun K9 hK9 => ?_
      refine W_reg [.p, .p, .p, .p, .p, .p] rfl ?_
      refine D_mv (v := ?v12) rfl ?h12 ?k12
      case h12 => conv => lhs; whnf
      refine D_p rfl (pv_gtr rfl rfl) ?_
      refine D_mv (v := ?v13) rfl ?h13 ?k13
      case h13 => conv => lhs; whnf
      refine D_splitP 29 rfl (fun c2 => ?_) (fun c2 => ?_)
      ·
        refine D_skip rfl ?_
        refine D_skip rfl ?_
        refine D_pe (v := ?v14) rfl (pv_pick rfl rfl rfl) ?h14 ?k14
        case h14 => conv => lhs; whnf
        refine D_end (hK9 _ _ ?_)
        refine W_t rfl ?_
        refine W_seq fun K10 hK10 => ?_
        refine W_reg [.p] rfl ?_
        refine D_as (v := ?v15) rfl ?h15 ?k15
        case h15 => conv => lhs; whnf
        refine D_end (hK10 _ _ ?_)
        refine W_ret ?_
        try dsimp only [then', inBlk, noGo]
        refine ret_one (v := ?v16) rfl rfl ?h16 ?k16
        case h16 => conv => lhs; whnf
        exact ⟨hx, .inl rfl⟩
      ·
        refine D_mv (v := ?v17) rfl ?h17 ?k17
        case h17 => conv => lhs; whnf
        refine D_p rfl (pv_gtr rfl rfl) ?_
        refine D_pe (v := ?v18) rfl (pv_pick rfl rfl rfl) ?h18 ?k18
        case h18 => conv => lhs; whnf
        refine D_end (hK9 _ _ ?_)
        refine W_if rfl (fun c3 => ?_) (fun c3 => ?_)
        ·
          refine W_seq fun K11 hK11 => ?_
          refine W_reg [.p] rfl ?_
          refine D_as (v := ?v19) rfl ?h19 ?k19
          case h19 => conv => lhs; whnf
          refine D_end (hK11 _ _ ?_)
          refine W_ret ?_
          try dsimp only [then', inBlk, noGo]
          refine ret_one (v := ?v20) rfl rfl ?h20 ?k20
          case h20 => conv => lhs; whnf
          exact ⟨hx, .inl rfl⟩
        ·
          refine W_skip ?_
          refine hK7 _ _ ?_
          refine W_reg [.p, .p, .p] rfl ?_
          refine D_mv (v := ?v21) rfl ?h21 ?k21
          case h21 => conv => lhs; whnf
          refine D_p rfl (pv_add rfl rfl (by unfold inI64; omega)) ?_
          refine D_as (v := ?v22) rfl ?h22 ?k22
          case h22 => conv => lhs; whnf
          refine D_end (?_)
          refine ⟨(k + 1, n + 1 + c.key.length + c.val.length), ⟨rfl, rfl, rfl, trivial⟩, ⟨hx, by omega, ?_, by omega, by omega⟩, by simp only []; omega⟩
          rw [weight_take hk, hn, List.length_take, List.length_take]; omega
    ·
      refine W_exit ?_
      refine hK3 _ _ ?_
      refine W_seq fun K12 hK12 => ?_
      refine W_reg [.p] rfl ?_
      refine D_as (v := ?v23) rfl ?h23 ?k23
      case h23 => conv => lhs; whnf
      refine D_end (hK12 _ _ ?_)
      refine W_ret ?_
      try dsimp only [then', inBlk, noGo]
      refine ret_one (v := ?v24) rfl rfl ?h24 ?k24
      case h24 => conv => lhs; whnf
      exact ⟨hx, .inr ⟨rfl, by rw [List.take_of_length_le (by omega)] at hn; unfold light; omega⟩⟩

set_option maxRecDepth 100000 in
set_option maxHeartbeats 1000000 in
theorem cells_w (l m : List Cell) (v u : Value) (w : World) (hv : Arr Cell.cs 4 w v l) (hu : Arr Cell.cs 4 w u m) (hl : l.length ≤ 1000000000) (hm : m.length ≤ 1000000000) :
    Calls Try.prog 14 [v, u].toArray w (Pure w (B (decide (l = m)))) := by
  refine calls_W Try.func14 rfl rfl rfl (by kernel_rfl) ?_
  have hx := Ext.refl w
  refine W_seq fun K1 hK1 => ?_
  refine W_reg [.p] rfl ?_
  refine D_as (v := ?v1) rfl ?h1 ?k1
  case h1 => conv => lhs; whnf
  refine D_end (hK1 _ _ ?_)
  refine W_seq fun K2 hK2 => ?_
  refine W_seq fun K3 hK3 => ?_
  refine W_reg [.p, .p, .p, .p, .p] rfl ?_
  refine D_mv (v := ?v2) rfl ?h2 ?k2
  case h2 => conv => lhs; whnf
  refine D_p rfl (pv_lenV (e := 28) (k := 4) (by kernel_rfl) hv.sl rfl) ?_
  refine D_mv (v := ?v3) rfl ?h3 ?k3
  case h3 => conv => lhs; whnf
  refine D_p rfl (pv_lenV (e := 28) (k := 4) (by kernel_rfl) hu.sl rfl) ?_
  refine D_p rfl (pv_neq rfl rfl) ?_
  refine D_end (hK3 _ _ ?_)
  refine W_if rfl (fun c1 => ?_) (fun c1 => ?_)
  ·
    refine W_seq fun K4 hK4 => ?_
    refine W_reg [.p] rfl ?_
    refine D_as (v := ?v4) rfl ?h4 ?k4
    case h4 => conv => lhs; whnf
    refine D_end (hK4 _ _ ?_)
    refine W_ret ?_
    try dsimp only [then', inBlk, noGo]
    refine ret_one (v := ?v5) rfl rfl ?h5 ?k5
    case h5 => conv => lhs; whnf
    refine ⟨?_, hx⟩
    rw [decide_eq_false (fun e => by rw [e] at c1; exact absurd rfl c1)]
  ·
    refine W_skip ?_
    refine hK2 _ _ ?_
    refine W_seq fun K5 hK5 => ?_
    refine W_seq fun K6 hK6 => ?_
    refine W_reg [.p] rfl ?_
    refine D_as (v := ?v6) rfl ?h6 ?k6
    case h6 => conv => lhs; whnf
    refine D_end (hK6 _ _ ?_)
    refine W_block ?_
    refine W_loop (G := Nat) (fun k => [(0, v), (1, u), (5, I ↑k)]) (fun k w' => Ext w w' ∧ k ≤ l.length ∧ l.length = m.length ∧ l.take k = m.take k) (fun k => l.length - k) 0 ?_ ?_ ?_
    · exact ⟨rfl, rfl, rfl, trivial⟩
    · exact ⟨hx, Nat.zero_le _, by omega, rfl⟩
    · intro X1 g1 w1 hF1
      revert hF1; revert g1; intro k hF1
      clear hx 
      obtain ⟨hx, hk1, hle, he⟩ := hF1
      refine W_seq fun K7 hK7 => ?_
      refine W_seq fun K8 hK8 => ?_
      refine W_reg [.p, .p, .p, .p] rfl ?_
      refine D_mv (v := ?v7) rfl ?h7 ?k7
      case h7 => conv => lhs; whnf
      refine D_mv (v := ?v8) rfl ?h8 ?k8
      case h8 => conv => lhs; whnf
      refine D_p rfl (pv_lenV (e := 28) (k := 4) (by kernel_rfl) hv.sl rfl) ?_
      refine D_p rfl (pv_lss rfl rfl) ?_
      refine D_end (hK8 _ _ ?_)
      refine W_if rfl (fun c2 => ?_) (fun c2 => ?_)
      ·
        obtain ⟨c, hk⟩ : ∃ c, l[k]? = some c := ⟨_, List.getElem?_eq_getElem (by omega)⟩
        obtain ⟨d, hk2⟩ : ∃ d, m[k]? = some d := ⟨_, List.getElem?_eq_getElem (by omega)⟩
        refine W_skip ?_
        refine hK7 _ _ ?_
        refine W_seq fun K9 hK9 => ?_
        refine W_block ?_
        refine W_seq fun K10 hK10 => ?_
        refine W_draw (R := Ext) Ext.refl (fun _ _ _ => Ext.trans) (by kernel_rfl) [3, 7] [(0, .p, false), (1, .p, false), (2, .p, false), (3, .l, false), (4, .p, false), (5, .p, false), (6, .p, false), (7, .l, false), (8, .p, false)] rfl (by kernel_rfl) (by kernel_rfl) (fun w2 ew2 => ?_)
        have x2 : Ext w1 w2 := by rw [ew2]; exact Ext.drew _
        clear ew2
        replace hx := hx.trans x2
        refine D_mv (v := ?v9) rfl ?h9 ?k9
        case h9 => conv => lhs; whnf
        refine D_mv (v := ?v10) rfl ?h10 ?k10
        case h10 => conv => lhs; whnf
        refine D_p rfl (pv_idxA (e := 28) (k := 4) (by kernel_rfl) hv.sl rfl rfl (hv.lt hk)) ?_
        refine D_l rfl (fun w' hR => lv_loadA (by kernel_rfl) rfl rfl ((hv.ext (hx.trans hR)).row hk)) ?_
        refine D_mv (v := ?v11) rfl ?h11 ?k11
        case h11 => conv => lhs; whnf
        refine D_mv (v := ?v12) rfl ?h12 ?k12
        case h12 => conv => lhs; whnf
        refine D_p rfl (pv_idxA (e := 28) (k := 4) (by kernel_rfl) hu.sl rfl rfl (hu.lt hk2)) ?_
        refine D_l rfl (fun w' hR => lv_loadA (by kernel_rfl) rfl rfl ((hu.ext (hx.trans hR)).row hk2)) ?_
        refine D_p rfl (pv_neA (ts := [9, 9, 4, 3]) (by kernel_rfl) rfl rfl ⟨by kernel_rfl, by kernel_rfl, by kernel_rfl, by kernel_rfl, trivial⟩ ⟨by kernel_rfl, by kernel_rfl, by kernel_rfl, by kernel_rfl, trivial⟩) ?_
        refine D_end (hK10 _ _ ?_)
        refine W_cond rfl (fun c3 => ?_) (fun c3 => ?_)
        ·
          refine W_seq fun K11 hK11 => ?_
          refine W_reg [.p] rfl ?_
          refine D_as (v := ?v13) rfl ?h13 ?k13
          case h13 => conv => lhs; whnf
          refine D_end (hK11 _ _ ?_)
          refine W_ret ?_
          try dsimp only [then', inBlk, noGo]
          refine ret_one (v := ?v14) rfl rfl ?h14 ?k14
          case h14 => conv => lhs; whnf
          refine ⟨?_, hx⟩
          rw [eqL_cell] at c3
          simp at c3
          rw [decide_eq_false (fun e => by rw [e, hk2] at hk; cases hk; exact c3 rfl)]
        ·
          refine W_skip ?_
          refine hK9 _ _ ?_
          refine W_reg [.p, .p, .p] rfl ?_
          refine D_mv (v := ?v15) rfl ?h15 ?k15
          case h15 => conv => lhs; whnf
          refine D_p rfl (pv_add rfl rfl (by unfold inI64; omega)) ?_
          refine D_as (v := ?v16) rfl ?h16 ?k16
          case h16 => conv => lhs; whnf
          refine D_end (?_)
          rw [eqL_cell] at c3
          refine ⟨k + 1, ⟨rfl, rfl, rfl, trivial⟩, ⟨hx, by omega, hle, ?_⟩, by omega⟩
          rw [take_snoc hk, take_snoc hk2, he]
          simp at c3
          rw [c3]
      ·
        refine W_exit ?_
        refine hK5 _ _ ?_
        refine W_seq fun K12 hK12 => ?_
        refine W_reg [.p] rfl ?_
        refine D_as (v := ?v17) rfl ?h17 ?k17
        case h17 => conv => lhs; whnf
        refine D_end (hK12 _ _ ?_)
        refine W_ret ?_
        try dsimp only [then', inBlk, noGo]
        refine ret_one (v := ?v18) rfl rfl ?h18 ?k18
        case h18 => conv => lhs; whnf
        refine ⟨?_, hx⟩
        rw [List.take_of_length_le (by omega), List.take_of_length_le (by omega)] at he
        rw [decide_eq_true he]

end Go.Proofs.Ytodmkkcediofgaa
