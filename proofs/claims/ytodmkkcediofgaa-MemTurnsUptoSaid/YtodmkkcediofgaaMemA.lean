/-
  Walks.
-/
import Derived.Test.YtodmkkcediofgaaChecked
import Derived.Test.YtodmkkcediofgaaSpMem
import Derived.KernelRfl
namespace Go.Proofs.Ytodmkkcediofgaa
open Go.Vc Go.Sp
attribute [local irreducible] W XW Dw DwT
set_option linter.unusedVariables false
set_option linter.unusedSimpArgs false

theorem rless_1 {a b : Cell} (h : Op.bytesLess a.key b.key = true) : less a b = true := (less_iff a b).2 (.inl h)
theorem rless_2 {a b : Cell} (h : Op.bytesLess a.key b.key = false) (e : a.key = b.key) : less a b = decide (b.seq < a.seq) := by simp [less, e]
theorem rless_3 {a b : Cell} (h : Op.bytesLess a.key b.key = false) (e : ¬ a.key = b.key) : less a b = false := by simp [less, e, sLt, h]
theorem first_drop {l : List Cell} {k : Nat} {c : Cell} {key : Str} {seq : Int} (h : l[k]? = some c) : first (l.drop k) key seq = if (decide (c.key = key) && decide (c.seq ≤ seq)) = true then some c else first (l.drop (k + 1)) key seq := by
  obtain ⟨hk, rfl⟩ := List.getElem?_eq_some_iff.1 h
  rw [List.drop_eq_getElem_cons hk]
  unfold first
  rw [List.find?_cons]
  split <;> simp [*]

set_option maxRecDepth 100000 in
set_option maxHeartbeats 1000000 in
theorem less_w (a b : Cell) (w : World) :
    Calls Try.prog 24 [a.v, b.v].toArray w (Pure w (B (less a b))) := by
  refine calls_W Try.func24 rfl rfl rfl (by kernel_rfl) ?_
  have hx := Ext.refl w
  refine W_seq fun K1 hK1 => ?_
  refine W_reg [.x, .x, .p] rfl ?_
  refine D_box rfl rfl rfl RX.all (fun b1 w1 e1 x1 m1 => ?_)
  replace hx := hx.trans x1
  refine D_box rfl rfl rfl RX.all (fun b2 w2 e2 x2 m2 => ?_)
  replace m1 := m1.ext x2
  replace hx := hx.trans x2
  refine D_as (v := ?v1) rfl ?h1 ?k1
  case h1 => conv => lhs; whnf
  refine D_end (hK1 _ _ ?_)
  refine W_seq fun K2 hK2 => ?_
  refine W_seq fun K3 hK3 => ?_
  refine W_reg [.p, .l, .p, .l, .p] rfl ?_
  refine D_p rfl (pv_fieldA (k := 0) (by kernel_rfl) rfl) ?_
  refine D_lq rfl (lv_load (by kernel_rfl) rfl (m1.at rfl)) ?_
  refine D_p rfl (pv_fieldA (k := 0) (by kernel_rfl) rfl) ?_
  refine D_lq rfl (lv_load (by kernel_rfl) rfl (m2.at rfl)) ?_
  refine D_p rfl (pv_sne rfl rfl) ?_
  refine D_end (hK3 _ _ ?_)
  refine W_if rfl (fun c1 => ?_) (fun c1 => ?_)
  ·
    refine W_seq fun K4 hK4 => ?_
    refine W_reg [.p, .l, .p, .l, .p, .p] rfl ?_
    refine D_p rfl (pv_fieldA (k := 0) (by kernel_rfl) rfl) ?_
    refine D_lq rfl (lv_load (by kernel_rfl) rfl (m1.at rfl)) ?_
    refine D_p rfl (pv_fieldA (k := 0) (by kernel_rfl) rfl) ?_
    refine D_lq rfl (lv_load (by kernel_rfl) rfl (m2.at rfl)) ?_
    refine D_p rfl (pv_slt rfl rfl) ?_
    refine D_as (v := ?v2) rfl ?h2 ?k2
    case h2 => conv => lhs; whnf
    refine D_end (hK4 _ _ ?_)
    refine W_ret ?_
    refine ret_one (v := ?v3) rfl rfl ?h3 ?k3
    case h3 => conv => lhs; whnf
    refine ⟨?_, hx⟩
    simp [less, *]
  ·
    refine W_skip ?_
    refine hK2 _ _ ?_
    refine W_seq fun K5 hK5 => ?_
    refine W_reg [.p, .l, .p, .l, .p, .p] rfl ?_
    refine D_p rfl (pv_fieldA (k := 3) (by kernel_rfl) rfl) ?_
    refine D_lq rfl (lv_load (by kernel_rfl) rfl (m1.at rfl)) ?_
    refine D_p rfl (pv_fieldA (k := 3) (by kernel_rfl) rfl) ?_
    refine D_lq rfl (lv_load (by kernel_rfl) rfl (m2.at rfl)) ?_
    refine D_p rfl (pv_gtr rfl rfl) ?_
    refine D_as (v := ?v4) rfl ?h4 ?k4
    case h4 => conv => lhs; whnf
    refine D_end (hK5 _ _ ?_)
    refine W_ret ?_
    refine ret_one (v := ?v5) rfl rfl ?h5 ?k5
    case h5 => conv => lhs; whnf
    refine ⟨?_, hx⟩
    simp [less, *]

set_option maxRecDepth 100000 in
set_option maxHeartbeats 1000000 in
theorem rless_w (a b : Cell) (w : World) :
    Calls Try.prog 29 [a.v, b.v].toArray w (Pure w (B (less a b))) := by
  refine calls_W Try.func29 rfl rfl rfl (by kernel_rfl) ?_
  have hx := Ext.refl w
  refine W_seq fun K1 hK1 => ?_
  refine W_reg [.x, .x, .p] rfl ?_
  refine D_box rfl rfl rfl RX.all (fun b1 w1 e1 x1 m1 => ?_)
  replace hx := hx.trans x1
  refine D_box rfl rfl rfl RX.all (fun b2 w2 e2 x2 m2 => ?_)
  replace m1 := m1.ext x2
  replace hx := hx.trans x2
  refine D_as (v := ?v1) rfl ?h1 ?k1
  case h1 => conv => lhs; whnf
  refine D_end (hK1 _ _ ?_)
  refine W_seq fun K2 hK2 => ?_
  refine W_reg [.p, .l, .p, .l, .p, .p, .p, .l, .p, .l, .p, .p, .p, .l, .p, .l, .p, .p, .p, .p] rfl ?_
  refine D_p rfl (pv_fieldA (k := 0) (by kernel_rfl) rfl) ?_
  refine D_lq rfl (lv_load (by kernel_rfl) rfl (m1.at rfl)) ?_
  refine D_p rfl (pv_fieldA (k := 0) (by kernel_rfl) rfl) ?_
  refine D_lq rfl (lv_load (by kernel_rfl) rfl (m2.at rfl)) ?_
  refine D_p rfl (pv_slt rfl rfl) ?_
  refine D_mv (v := ?v2) rfl ?h2 ?k2
  case h2 => conv => lhs; whnf
  refine D_split 10 rfl (fun c1 => ?_) (fun c1 => ?_)
  ·
    refine D_skip rfl ?_
    refine D_skip rfl ?_
    refine D_skip rfl ?_
    refine D_skip rfl ?_
    refine D_skip rfl ?_
    refine D_skip rfl ?_
    refine D_skip rfl ?_
    refine D_skip rfl ?_
    refine D_skip rfl ?_
    refine D_skip rfl ?_
    refine D_skip rfl ?_
    refine D_skip rfl ?_
    refine D_pe (v := ?v3) rfl (pv_pick rfl rfl rfl) ?h3 ?k3
    case h3 => conv => lhs; whnf
    refine D_as (v := ?v4) rfl ?h4 ?k4
    case h4 => conv => lhs; whnf
    refine D_end (hK2 _ _ ?_)
    refine W_ret ?_
    refine ret_one (v := ?v5) rfl rfl ?h5 ?k5
    case h5 => conv => lhs; whnf
    refine ⟨?_, hx⟩
    simp only [Ending.returned.injEq, Value.bool.injEq]
    symm
    first | exact rless_1 (by assumption) | exact rless_2 (by assumption) (by assumption) | exact rless_3 (by assumption) (by assumption)
  ·
    refine D_p rfl (pv_fieldA (k := 0) (by kernel_rfl) rfl) ?_
    refine D_lq rfl (lv_load (by kernel_rfl) rfl (m1.at rfl)) ?_
    refine D_p rfl (pv_fieldA (k := 0) (by kernel_rfl) rfl) ?_
    refine D_lq rfl (lv_load (by kernel_rfl) rfl (m2.at rfl)) ?_
    refine D_p rfl (pv_seq rfl rfl) ?_
    refine D_mv (v := ?v6) rfl ?h6 ?k6
    case h6 => conv => lhs; whnf
    refine D_splitP 16 rfl (fun c2 => ?_) (fun c2 => ?_)
    ·
      refine D_p rfl (pv_fieldA (k := 3) (by kernel_rfl) rfl) ?_
      refine D_lq rfl (lv_load (by kernel_rfl) rfl (m1.at rfl)) ?_
      refine D_p rfl (pv_fieldA (k := 3) (by kernel_rfl) rfl) ?_
      refine D_lq rfl (lv_load (by kernel_rfl) rfl (m2.at rfl)) ?_
      refine D_p rfl (pv_gtr rfl rfl) ?_
      refine D_pe (v := ?v7) rfl (pv_pick rfl rfl rfl) ?h7 ?k7
      case h7 => conv => lhs; whnf
      refine D_pe (v := ?v8) rfl (pv_pick rfl rfl rfl) ?h8 ?k8
      case h8 => conv => lhs; whnf
      refine D_as (v := ?v9) rfl ?h9 ?k9
      case h9 => conv => lhs; whnf
      refine D_end (hK2 _ _ ?_)
      refine W_ret ?_
      refine ret_one (v := ?v10) rfl rfl ?h10 ?k10
      case h10 => conv => lhs; whnf
      refine ⟨?_, hx⟩
      simp only [Ending.returned.injEq, Value.bool.injEq]
      symm
      first | exact rless_1 (by assumption) | exact rless_2 (by assumption) (by assumption) | exact rless_3 (by assumption) (by assumption)
    ·
      refine D_skip rfl ?_
      refine D_skip rfl ?_
      refine D_skip rfl ?_
      refine D_skip rfl ?_
      refine D_skip rfl ?_
      refine D_pe (v := ?v11) rfl (pv_pick rfl rfl rfl) ?h11 ?k11
      case h11 => conv => lhs; whnf
      refine D_pe (v := ?v12) rfl (pv_pick rfl rfl rfl) ?h12 ?k12
      case h12 => conv => lhs; whnf
      refine D_as (v := ?v13) rfl ?h13 ?k13
      case h13 => conv => lhs; whnf
      refine D_end (hK2 _ _ ?_)
      refine W_ret ?_
      refine ret_one (v := ?v14) rfl rfl ?h14 ?k14
      case h14 => conv => lhs; whnf
      refine ⟨?_, hx⟩
      simp only [Ending.returned.injEq, Value.bool.injEq]
      symm
      first | exact rless_1 (by assumption) | exact rless_2 (by assumption) (by assumption) | exact rless_3 (by assumption) (by assumption)

set_option maxRecDepth 100000 in
set_option maxHeartbeats 1000000 in
theorem is_w (c : Cell) (w : World) :
    Calls Try.prog 22 [c.v].toArray w (Pure w (B (isC c))) := by
  refine calls_W Try.func22 rfl rfl rfl (by kernel_rfl) ?_
  have hx := Ext.refl w
  refine W_seq fun K1 hK1 => ?_
  refine W_reg [.x, .p] rfl ?_
  refine D_box rfl rfl rfl RX.all (fun b1 w1 e1 x1 m1 => ?_)
  replace hx := hx.trans x1
  refine D_as (v := ?v1) rfl ?h1 ?k1
  case h1 => conv => lhs; whnf
  refine D_end (hK1 _ _ ?_)
  refine W_seq fun K2 hK2 => ?_
  refine W_reg [.p, .l, .p, .p, .p, .p, .l, .p, .p, .p, .p, .p, .l, .p, .p, .p, .p, .p, .l, .p, .p, .p, .l, .p, .p, .p, .p, .p, .l, .p, .p, .p, .p, .l, .p, .p, .p] rfl ?_
  refine D_p rfl (pv_fieldA (k := 0) (by kernel_rfl) rfl) ?_
  refine D_lq rfl (lv_load (by kernel_rfl) rfl (m1.at rfl)) ?_
  refine D_p rfl (pv_lenS (by kernel_rfl) rfl) ?_
  refine D_p rfl (pv_geq rfl rfl) ?_
  refine D_mv (v := ?v2) rfl ?h2 ?k2
  case h2 => conv => lhs; whnf
  refine D_splitP 7 rfl (fun c1 => ?_) (fun c1 => ?_)
  ·
    refine D_p rfl (pv_fieldA (k := 0) (by kernel_rfl) rfl) ?_
    refine D_lq rfl (lv_load (by kernel_rfl) rfl (m1.at rfl)) ?_
    refine D_p rfl (pv_lenS (by kernel_rfl) rfl) ?_
    refine D_p rfl (pv_leq rfl rfl) ?_
    refine D_pe (v := ?v3) rfl (pv_pick rfl rfl rfl) ?h3 ?k3
    case h3 => conv => lhs; whnf
    refine D_mv (v := ?v4) rfl ?h4 ?k4
    case h4 => conv => lhs; whnf
    refine D_splitP 13 rfl (fun c2 => ?_) (fun c2 => ?_)
    ·
      refine D_p rfl (pv_fieldA (k := 1) (by kernel_rfl) rfl) ?_
      refine D_lq rfl (lv_load (by kernel_rfl) rfl (m1.at rfl)) ?_
      refine D_p rfl (pv_lenS (by kernel_rfl) rfl) ?_
      refine D_p rfl (pv_leq rfl rfl) ?_
      refine D_pe (v := ?v5) rfl (pv_pick rfl rfl rfl) ?h5 ?k5
      case h5 => conv => lhs; whnf
      refine D_mv (v := ?v6) rfl ?h6 ?k6
      case h6 => conv => lhs; whnf
      refine D_splitP 19 rfl (fun c3 => ?_) (fun c3 => ?_)
      ·
        refine D_p rfl (pv_fieldA (k := 2) (by kernel_rfl) rfl) ?_
        refine D_lq rfl (lv_load (by kernel_rfl) rfl (m1.at rfl)) ?_
        refine D_pe (v := ?v7) rfl (pv_not rfl) ?h7 ?k7
        case h7 => conv => lhs; whnf
        refine D_mv (v := ?v8) rfl ?h8 ?k8
        case h8 => conv => lhs; whnf
        refine D_split 23 rfl (fun c4 => ?_) (fun c4 => ?_)
        ·
          refine D_skip rfl ?_
          refine D_skip rfl ?_
          refine D_skip rfl ?_
          refine D_pe (v := ?v9) rfl (pv_pick rfl rfl rfl) ?h9 ?k9
          case h9 => conv => lhs; whnf
          refine D_pe (v := ?v10) rfl (pv_pick rfl rfl rfl) ?h10 ?k10
          case h10 => conv => lhs; whnf
          refine D_mv (v := ?v11) rfl ?h11 ?k11
          case h11 => conv => lhs; whnf
          refine D_p rfl (pv_fieldA (k := 3) (by kernel_rfl) rfl) ?_
          refine D_lq rfl (lv_load (by kernel_rfl) rfl (m1.at rfl)) ?_
          refine D_p rfl (pv_geq rfl rfl) ?_
          refine D_pe (v := ?v12) rfl (pv_pick rfl rfl rfl) ?h12 ?k12
          case h12 => conv => lhs; whnf
          refine D_mv (v := ?v13) rfl ?h13 ?k13
          case h13 => conv => lhs; whnf
          refine D_splitP 34 rfl (fun c5 => ?_) (fun c5 => ?_)
          ·
            refine D_p rfl (pv_fieldA (k := 3) (by kernel_rfl) rfl) ?_
            refine D_lq rfl (lv_load (by kernel_rfl) rfl (m1.at rfl)) ?_
            refine D_p rfl (pv_leq rfl rfl) ?_
            refine D_pe (v := ?v14) rfl (pv_pick rfl rfl rfl) ?h14 ?k14
            case h14 => conv => lhs; whnf
            refine D_as (v := ?v15) rfl ?h15 ?k15
            case h15 => conv => lhs; whnf
            refine D_end (hK2 _ _ ?_)
            refine W_ret ?_
            refine ret_one (v := ?v16) rfl rfl ?h16 ?k16
            case h16 => conv => lhs; whnf
            refine ⟨?_, hx⟩
            simp only [Ending.returned.injEq, Value.bool.injEq]
            simp [isC, *]
            try omega
          ·
            refine D_skip rfl ?_
            refine D_skip rfl ?_
            refine D_skip rfl ?_
            refine D_pe (v := ?v17) rfl (pv_pick rfl rfl rfl) ?h17 ?k17
            case h17 => conv => lhs; whnf
            refine D_as (v := ?v18) rfl ?h18 ?k18
            case h18 => conv => lhs; whnf
            refine D_end (hK2 _ _ ?_)
            refine W_ret ?_
            refine ret_one (v := ?v19) rfl rfl ?h19 ?k19
            case h19 => conv => lhs; whnf
            refine ⟨?_, hx⟩
            simp only [Ending.returned.injEq, Value.bool.injEq]
            simp [isC, *]
            try omega
        ·
          refine D_p rfl (pv_fieldA (k := 1) (by kernel_rfl) rfl) ?_
          refine D_lq rfl (lv_load (by kernel_rfl) rfl (m1.at rfl)) ?_
          refine D_p rfl (pv_seq rfl rfl) ?_
          refine D_pe (v := ?v20) rfl (pv_pick rfl rfl rfl) ?h20 ?k20
          case h20 => conv => lhs; whnf
          refine D_pe (v := ?v21) rfl (pv_pick rfl rfl rfl) ?h21 ?k21
          case h21 => conv => lhs; whnf
          refine D_mv (v := ?v22) rfl ?h22 ?k22
          case h22 => conv => lhs; whnf
          refine D_splitP 29 rfl (fun c6 => ?_) (fun c6 => ?_)
          ·
            refine D_p rfl (pv_fieldA (k := 3) (by kernel_rfl) rfl) ?_
            refine D_lq rfl (lv_load (by kernel_rfl) rfl (m1.at rfl)) ?_
            refine D_p rfl (pv_geq rfl rfl) ?_
            refine D_pe (v := ?v23) rfl (pv_pick rfl rfl rfl) ?h23 ?k23
            case h23 => conv => lhs; whnf
            refine D_mv (v := ?v24) rfl ?h24 ?k24
            case h24 => conv => lhs; whnf
            refine D_splitP 34 rfl (fun c7 => ?_) (fun c7 => ?_)
            ·
              refine D_p rfl (pv_fieldA (k := 3) (by kernel_rfl) rfl) ?_
              refine D_lq rfl (lv_load (by kernel_rfl) rfl (m1.at rfl)) ?_
              refine D_p rfl (pv_leq rfl rfl) ?_
              refine D_pe (v := ?v25) rfl (pv_pick rfl rfl rfl) ?h25 ?k25
              case h25 => conv => lhs; whnf
              refine D_as (v := ?v26) rfl ?h26 ?k26
              case h26 => conv => lhs; whnf
              refine D_end (hK2 _ _ ?_)
              refine W_ret ?_
              refine ret_one (v := ?v27) rfl rfl ?h27 ?k27
              case h27 => conv => lhs; whnf
              refine ⟨?_, hx⟩
              simp only [Ending.returned.injEq, Value.bool.injEq]
              simp [isC, *]
              try omega
            ·
              refine D_skip rfl ?_
              refine D_skip rfl ?_
              refine D_skip rfl ?_
              refine D_pe (v := ?v28) rfl (pv_pick rfl rfl rfl) ?h28 ?k28
              case h28 => conv => lhs; whnf
              refine D_as (v := ?v29) rfl ?h29 ?k29
              case h29 => conv => lhs; whnf
              refine D_end (hK2 _ _ ?_)
              refine W_ret ?_
              refine ret_one (v := ?v30) rfl rfl ?h30 ?k30
              case h30 => conv => lhs; whnf
              refine ⟨?_, hx⟩
              simp only [Ending.returned.injEq, Value.bool.injEq]
              simp [isC, *]
              try omega
          ·
            refine D_skip rfl ?_
            refine D_skip rfl ?_
            refine D_skip rfl ?_
            refine D_pe (v := ?v31) rfl (pv_pick rfl rfl rfl) ?h31 ?k31
            case h31 => conv => lhs; whnf
            refine D_mv (v := ?v32) rfl ?h32 ?k32
            case h32 => conv => lhs; whnf
            refine D_skip rfl ?_
            refine D_skip rfl ?_
            refine D_skip rfl ?_
            refine D_pe (v := ?v33) rfl (pv_pick rfl rfl rfl) ?h33 ?k33
            case h33 => conv => lhs; whnf
            refine D_as (v := ?v34) rfl ?h34 ?k34
            case h34 => conv => lhs; whnf
            refine D_end (hK2 _ _ ?_)
            refine W_ret ?_
            refine ret_one (v := ?v35) rfl rfl ?h35 ?k35
            case h35 => conv => lhs; whnf
            refine ⟨?_, hx⟩
            simp only [Ending.returned.injEq, Value.bool.injEq]
            simp [isC, *]
            try omega
      ·
        refine D_skip rfl ?_
        refine D_skip rfl ?_
        refine D_skip rfl ?_
        refine D_skip rfl ?_
        refine D_skip rfl ?_
        refine D_skip rfl ?_
        refine D_skip rfl ?_
        refine D_skip rfl ?_
        refine D_pe (v := ?v36) rfl (pv_pick rfl rfl rfl) ?h36 ?k36
        case h36 => conv => lhs; whnf
        refine D_mv (v := ?v37) rfl ?h37 ?k37
        case h37 => conv => lhs; whnf
        refine D_skip rfl ?_
        refine D_skip rfl ?_
        refine D_skip rfl ?_
        refine D_pe (v := ?v38) rfl (pv_pick rfl rfl rfl) ?h38 ?k38
        case h38 => conv => lhs; whnf
        refine D_mv (v := ?v39) rfl ?h39 ?k39
        case h39 => conv => lhs; whnf
        refine D_skip rfl ?_
        refine D_skip rfl ?_
        refine D_skip rfl ?_
        refine D_pe (v := ?v40) rfl (pv_pick rfl rfl rfl) ?h40 ?k40
        case h40 => conv => lhs; whnf
        refine D_as (v := ?v41) rfl ?h41 ?k41
        case h41 => conv => lhs; whnf
        refine D_end (hK2 _ _ ?_)
        refine W_ret ?_
        refine ret_one (v := ?v42) rfl rfl ?h42 ?k42
        case h42 => conv => lhs; whnf
        refine ⟨?_, hx⟩
        simp only [Ending.returned.injEq, Value.bool.injEq]
        simp [isC, *]
        try omega
    ·
      refine D_skip rfl ?_
      refine D_skip rfl ?_
      refine D_skip rfl ?_
      refine D_skip rfl ?_
      refine D_pe (v := ?v43) rfl (pv_pick rfl rfl rfl) ?h43 ?k43
      case h43 => conv => lhs; whnf
      refine D_mv (v := ?v44) rfl ?h44 ?k44
      case h44 => conv => lhs; whnf
      refine D_skip rfl ?_
      refine D_skip rfl ?_
      refine D_skip rfl ?_
      refine D_skip rfl ?_
      refine D_skip rfl ?_
      refine D_skip rfl ?_
      refine D_skip rfl ?_
      refine D_skip rfl ?_
      refine D_pe (v := ?v45) rfl (pv_pick rfl rfl rfl) ?h45 ?k45
      case h45 => conv => lhs; whnf
      refine D_mv (v := ?v46) rfl ?h46 ?k46
      case h46 => conv => lhs; whnf
      refine D_skip rfl ?_
      refine D_skip rfl ?_
      refine D_skip rfl ?_
      refine D_pe (v := ?v47) rfl (pv_pick rfl rfl rfl) ?h47 ?k47
      case h47 => conv => lhs; whnf
      refine D_mv (v := ?v48) rfl ?h48 ?k48
      case h48 => conv => lhs; whnf
      refine D_skip rfl ?_
      refine D_skip rfl ?_
      refine D_skip rfl ?_
      refine D_pe (v := ?v49) rfl (pv_pick rfl rfl rfl) ?h49 ?k49
      case h49 => conv => lhs; whnf
      refine D_as (v := ?v50) rfl ?h50 ?k50
      case h50 => conv => lhs; whnf
      refine D_end (hK2 _ _ ?_)
      refine W_ret ?_
      refine ret_one (v := ?v51) rfl rfl ?h51 ?k51
      case h51 => conv => lhs; whnf
      refine ⟨?_, hx⟩
      simp only [Ending.returned.injEq, Value.bool.injEq]
      simp [isC, *]
      try omega
  ·
    refine D_skip rfl ?_
    refine D_skip rfl ?_
    refine D_skip rfl ?_
    refine D_skip rfl ?_
    refine D_pe (v := ?v52) rfl (pv_pick rfl rfl rfl) ?h52 ?k52
    case h52 => conv => lhs; whnf
    refine D_mv (v := ?v53) rfl ?h53 ?k53
    case h53 => conv => lhs; whnf
    refine D_skip rfl ?_
    refine D_skip rfl ?_
    refine D_skip rfl ?_
    refine D_skip rfl ?_
    refine D_pe (v := ?v54) rfl (pv_pick rfl rfl rfl) ?h54 ?k54
    case h54 => conv => lhs; whnf
    refine D_mv (v := ?v55) rfl ?h55 ?k55
    case h55 => conv => lhs; whnf
    refine D_skip rfl ?_
    refine D_skip rfl ?_
    refine D_skip rfl ?_
    refine D_skip rfl ?_
    refine D_skip rfl ?_
    refine D_skip rfl ?_
    refine D_skip rfl ?_
    refine D_skip rfl ?_
    refine D_pe (v := ?v56) rfl (pv_pick rfl rfl rfl) ?h56 ?k56
    case h56 => conv => lhs; whnf
    refine D_mv (v := ?v57) rfl ?h57 ?k57
    case h57 => conv => lhs; whnf
    refine D_skip rfl ?_
    refine D_skip rfl ?_
    refine D_skip rfl ?_
    refine D_pe (v := ?v58) rfl (pv_pick rfl rfl rfl) ?h58 ?k58
    case h58 => conv => lhs; whnf
    refine D_mv (v := ?v59) rfl ?h59 ?k59
    case h59 => conv => lhs; whnf
    refine D_skip rfl ?_
    refine D_skip rfl ?_
    refine D_skip rfl ?_
    refine D_pe (v := ?v60) rfl (pv_pick rfl rfl rfl) ?h60 ?k60
    case h60 => conv => lhs; whnf
    refine D_as (v := ?v61) rfl ?h61 ?k61
    case h61 => conv => lhs; whnf
    refine D_end (hK2 _ _ ?_)
    refine W_ret ?_
    refine ret_one (v := ?v62) rfl rfl ?h62 ?k62
    case h62 => conv => lhs; whnf
    refine ⟨?_, hx⟩
    simp only [Ending.returned.injEq, Value.bool.injEq]
    simp [isC, *]
    try omega

set_option maxRecDepth 100000 in
set_option maxHeartbeats 1000000 in
theorem ris_w (c : Cell) (w : World) :
    Calls Try.prog 28 [c.v].toArray w (Pure w (B (isC c))) := by
  refine calls_W Try.func28 rfl rfl rfl (by kernel_rfl) ?_
  have hx := Ext.refl w
  refine W_seq fun K1 hK1 => ?_
  refine W_reg [.x, .p] rfl ?_
  refine D_box rfl rfl rfl RX.all (fun b1 w1 e1 x1 m1 => ?_)
  replace hx := hx.trans x1
  refine D_as (v := ?v1) rfl ?h1 ?k1
  case h1 => conv => lhs; whnf
  refine D_end (hK1 _ _ ?_)
  refine W_seq fun K2 hK2 => ?_
  refine W_reg [.p, .l, .p, .p, .p, .p, .l, .p, .p, .p, .p, .p, .l, .p, .p, .p, .p, .p, .l, .p, .p, .p, .l, .p, .p, .p, .p, .p, .l, .p, .p, .p, .p, .l, .p, .p, .p] rfl ?_
  refine D_p rfl (pv_fieldA (k := 0) (by kernel_rfl) rfl) ?_
  refine D_lq rfl (lv_load (by kernel_rfl) rfl (m1.at rfl)) ?_
  refine D_p rfl (pv_lenS (by kernel_rfl) rfl) ?_
  refine D_p rfl (pv_geq rfl rfl) ?_
  refine D_mv (v := ?v2) rfl ?h2 ?k2
  case h2 => conv => lhs; whnf
  refine D_splitP 7 rfl (fun c1 => ?_) (fun c1 => ?_)
  ·
    refine D_p rfl (pv_fieldA (k := 0) (by kernel_rfl) rfl) ?_
    refine D_lq rfl (lv_load (by kernel_rfl) rfl (m1.at rfl)) ?_
    refine D_p rfl (pv_lenS (by kernel_rfl) rfl) ?_
    refine D_p rfl (pv_leq rfl rfl) ?_
    refine D_pe (v := ?v3) rfl (pv_pick rfl rfl rfl) ?h3 ?k3
    case h3 => conv => lhs; whnf
    refine D_mv (v := ?v4) rfl ?h4 ?k4
    case h4 => conv => lhs; whnf
    refine D_splitP 13 rfl (fun c2 => ?_) (fun c2 => ?_)
    ·
      refine D_p rfl (pv_fieldA (k := 1) (by kernel_rfl) rfl) ?_
      refine D_lq rfl (lv_load (by kernel_rfl) rfl (m1.at rfl)) ?_
      refine D_p rfl (pv_lenS (by kernel_rfl) rfl) ?_
      refine D_p rfl (pv_leq rfl rfl) ?_
      refine D_pe (v := ?v5) rfl (pv_pick rfl rfl rfl) ?h5 ?k5
      case h5 => conv => lhs; whnf
      refine D_mv (v := ?v6) rfl ?h6 ?k6
      case h6 => conv => lhs; whnf
      refine D_splitP 19 rfl (fun c3 => ?_) (fun c3 => ?_)
      ·
        refine D_p rfl (pv_fieldA (k := 2) (by kernel_rfl) rfl) ?_
        refine D_lq rfl (lv_load (by kernel_rfl) rfl (m1.at rfl)) ?_
        refine D_pe (v := ?v7) rfl (pv_not rfl) ?h7 ?k7
        case h7 => conv => lhs; whnf
        refine D_mv (v := ?v8) rfl ?h8 ?k8
        case h8 => conv => lhs; whnf
        refine D_split 23 rfl (fun c4 => ?_) (fun c4 => ?_)
        ·
          refine D_skip rfl ?_
          refine D_skip rfl ?_
          refine D_skip rfl ?_
          refine D_pe (v := ?v9) rfl (pv_pick rfl rfl rfl) ?h9 ?k9
          case h9 => conv => lhs; whnf
          refine D_pe (v := ?v10) rfl (pv_pick rfl rfl rfl) ?h10 ?k10
          case h10 => conv => lhs; whnf
          refine D_mv (v := ?v11) rfl ?h11 ?k11
          case h11 => conv => lhs; whnf
          refine D_p rfl (pv_fieldA (k := 3) (by kernel_rfl) rfl) ?_
          refine D_lq rfl (lv_load (by kernel_rfl) rfl (m1.at rfl)) ?_
          refine D_p rfl (pv_geq rfl rfl) ?_
          refine D_pe (v := ?v12) rfl (pv_pick rfl rfl rfl) ?h12 ?k12
          case h12 => conv => lhs; whnf
          refine D_mv (v := ?v13) rfl ?h13 ?k13
          case h13 => conv => lhs; whnf
          refine D_splitP 34 rfl (fun c5 => ?_) (fun c5 => ?_)
          ·
            refine D_p rfl (pv_fieldA (k := 3) (by kernel_rfl) rfl) ?_
            refine D_lq rfl (lv_load (by kernel_rfl) rfl (m1.at rfl)) ?_
            refine D_p rfl (pv_leq rfl rfl) ?_
            refine D_pe (v := ?v14) rfl (pv_pick rfl rfl rfl) ?h14 ?k14
            case h14 => conv => lhs; whnf
            refine D_as (v := ?v15) rfl ?h15 ?k15
            case h15 => conv => lhs; whnf
            refine D_end (hK2 _ _ ?_)
            refine W_ret ?_
            refine ret_one (v := ?v16) rfl rfl ?h16 ?k16
            case h16 => conv => lhs; whnf
            refine ⟨?_, hx⟩
            simp only [Ending.returned.injEq, Value.bool.injEq]
            simp [isC, *]
            try omega
          ·
            refine D_skip rfl ?_
            refine D_skip rfl ?_
            refine D_skip rfl ?_
            refine D_pe (v := ?v17) rfl (pv_pick rfl rfl rfl) ?h17 ?k17
            case h17 => conv => lhs; whnf
            refine D_as (v := ?v18) rfl ?h18 ?k18
            case h18 => conv => lhs; whnf
            refine D_end (hK2 _ _ ?_)
            refine W_ret ?_
            refine ret_one (v := ?v19) rfl rfl ?h19 ?k19
            case h19 => conv => lhs; whnf
            refine ⟨?_, hx⟩
            simp only [Ending.returned.injEq, Value.bool.injEq]
            simp [isC, *]
            try omega
        ·
          refine D_p rfl (pv_fieldA (k := 1) (by kernel_rfl) rfl) ?_
          refine D_lq rfl (lv_load (by kernel_rfl) rfl (m1.at rfl)) ?_
          refine D_p rfl (pv_seq rfl rfl) ?_
          refine D_pe (v := ?v20) rfl (pv_pick rfl rfl rfl) ?h20 ?k20
          case h20 => conv => lhs; whnf
          refine D_pe (v := ?v21) rfl (pv_pick rfl rfl rfl) ?h21 ?k21
          case h21 => conv => lhs; whnf
          refine D_mv (v := ?v22) rfl ?h22 ?k22
          case h22 => conv => lhs; whnf
          refine D_splitP 29 rfl (fun c6 => ?_) (fun c6 => ?_)
          ·
            refine D_p rfl (pv_fieldA (k := 3) (by kernel_rfl) rfl) ?_
            refine D_lq rfl (lv_load (by kernel_rfl) rfl (m1.at rfl)) ?_
            refine D_p rfl (pv_geq rfl rfl) ?_
            refine D_pe (v := ?v23) rfl (pv_pick rfl rfl rfl) ?h23 ?k23
            case h23 => conv => lhs; whnf
            refine D_mv (v := ?v24) rfl ?h24 ?k24
            case h24 => conv => lhs; whnf
            refine D_splitP 34 rfl (fun c7 => ?_) (fun c7 => ?_)
            ·
              refine D_p rfl (pv_fieldA (k := 3) (by kernel_rfl) rfl) ?_
              refine D_lq rfl (lv_load (by kernel_rfl) rfl (m1.at rfl)) ?_
              refine D_p rfl (pv_leq rfl rfl) ?_
              refine D_pe (v := ?v25) rfl (pv_pick rfl rfl rfl) ?h25 ?k25
              case h25 => conv => lhs; whnf
              refine D_as (v := ?v26) rfl ?h26 ?k26
              case h26 => conv => lhs; whnf
              refine D_end (hK2 _ _ ?_)
              refine W_ret ?_
              refine ret_one (v := ?v27) rfl rfl ?h27 ?k27
              case h27 => conv => lhs; whnf
              refine ⟨?_, hx⟩
              simp only [Ending.returned.injEq, Value.bool.injEq]
              simp [isC, *]
              try omega
            ·
              refine D_skip rfl ?_
              refine D_skip rfl ?_
              refine D_skip rfl ?_
              refine D_pe (v := ?v28) rfl (pv_pick rfl rfl rfl) ?h28 ?k28
              case h28 => conv => lhs; whnf
              refine D_as (v := ?v29) rfl ?h29 ?k29
              case h29 => conv => lhs; whnf
              refine D_end (hK2 _ _ ?_)
              refine W_ret ?_
              refine ret_one (v := ?v30) rfl rfl ?h30 ?k30
              case h30 => conv => lhs; whnf
              refine ⟨?_, hx⟩
              simp only [Ending.returned.injEq, Value.bool.injEq]
              simp [isC, *]
              try omega
          ·
            refine D_skip rfl ?_
            refine D_skip rfl ?_
            refine D_skip rfl ?_
            refine D_pe (v := ?v31) rfl (pv_pick rfl rfl rfl) ?h31 ?k31
            case h31 => conv => lhs; whnf
            refine D_mv (v := ?v32) rfl ?h32 ?k32
            case h32 => conv => lhs; whnf
            refine D_skip rfl ?_
            refine D_skip rfl ?_
            refine D_skip rfl ?_
            refine D_pe (v := ?v33) rfl (pv_pick rfl rfl rfl) ?h33 ?k33
            case h33 => conv => lhs; whnf
            refine D_as (v := ?v34) rfl ?h34 ?k34
            case h34 => conv => lhs; whnf
            refine D_end (hK2 _ _ ?_)
            refine W_ret ?_
            refine ret_one (v := ?v35) rfl rfl ?h35 ?k35
            case h35 => conv => lhs; whnf
            refine ⟨?_, hx⟩
            simp only [Ending.returned.injEq, Value.bool.injEq]
            simp [isC, *]
            try omega
      ·
        refine D_skip rfl ?_
        refine D_skip rfl ?_
        refine D_skip rfl ?_
        refine D_skip rfl ?_
        refine D_skip rfl ?_
        refine D_skip rfl ?_
        refine D_skip rfl ?_
        refine D_skip rfl ?_
        refine D_pe (v := ?v36) rfl (pv_pick rfl rfl rfl) ?h36 ?k36
        case h36 => conv => lhs; whnf
        refine D_mv (v := ?v37) rfl ?h37 ?k37
        case h37 => conv => lhs; whnf
        refine D_skip rfl ?_
        refine D_skip rfl ?_
        refine D_skip rfl ?_
        refine D_pe (v := ?v38) rfl (pv_pick rfl rfl rfl) ?h38 ?k38
        case h38 => conv => lhs; whnf
        refine D_mv (v := ?v39) rfl ?h39 ?k39
        case h39 => conv => lhs; whnf
        refine D_skip rfl ?_
        refine D_skip rfl ?_
        refine D_skip rfl ?_
        refine D_pe (v := ?v40) rfl (pv_pick rfl rfl rfl) ?h40 ?k40
        case h40 => conv => lhs; whnf
        refine D_as (v := ?v41) rfl ?h41 ?k41
        case h41 => conv => lhs; whnf
        refine D_end (hK2 _ _ ?_)
        refine W_ret ?_
        refine ret_one (v := ?v42) rfl rfl ?h42 ?k42
        case h42 => conv => lhs; whnf
        refine ⟨?_, hx⟩
        simp only [Ending.returned.injEq, Value.bool.injEq]
        simp [isC, *]
        try omega
    ·
      refine D_skip rfl ?_
      refine D_skip rfl ?_
      refine D_skip rfl ?_
      refine D_skip rfl ?_
      refine D_pe (v := ?v43) rfl (pv_pick rfl rfl rfl) ?h43 ?k43
      case h43 => conv => lhs; whnf
      refine D_mv (v := ?v44) rfl ?h44 ?k44
      case h44 => conv => lhs; whnf
      refine D_skip rfl ?_
      refine D_skip rfl ?_
      refine D_skip rfl ?_
      refine D_skip rfl ?_
      refine D_skip rfl ?_
      refine D_skip rfl ?_
      refine D_skip rfl ?_
      refine D_skip rfl ?_
      refine D_pe (v := ?v45) rfl (pv_pick rfl rfl rfl) ?h45 ?k45
      case h45 => conv => lhs; whnf
      refine D_mv (v := ?v46) rfl ?h46 ?k46
      case h46 => conv => lhs; whnf
      refine D_skip rfl ?_
      refine D_skip rfl ?_
      refine D_skip rfl ?_
      refine D_pe (v := ?v47) rfl (pv_pick rfl rfl rfl) ?h47 ?k47
      case h47 => conv => lhs; whnf
      refine D_mv (v := ?v48) rfl ?h48 ?k48
      case h48 => conv => lhs; whnf
      refine D_skip rfl ?_
      refine D_skip rfl ?_
      refine D_skip rfl ?_
      refine D_pe (v := ?v49) rfl (pv_pick rfl rfl rfl) ?h49 ?k49
      case h49 => conv => lhs; whnf
      refine D_as (v := ?v50) rfl ?h50 ?k50
      case h50 => conv => lhs; whnf
      refine D_end (hK2 _ _ ?_)
      refine W_ret ?_
      refine ret_one (v := ?v51) rfl rfl ?h51 ?k51
      case h51 => conv => lhs; whnf
      refine ⟨?_, hx⟩
      simp only [Ending.returned.injEq, Value.bool.injEq]
      simp [isC, *]
      try omega
  ·
    refine D_skip rfl ?_
    refine D_skip rfl ?_
    refine D_skip rfl ?_
    refine D_skip rfl ?_
    refine D_pe (v := ?v52) rfl (pv_pick rfl rfl rfl) ?h52 ?k52
    case h52 => conv => lhs; whnf
    refine D_mv (v := ?v53) rfl ?h53 ?k53
    case h53 => conv => lhs; whnf
    refine D_skip rfl ?_
    refine D_skip rfl ?_
    refine D_skip rfl ?_
    refine D_skip rfl ?_
    refine D_pe (v := ?v54) rfl (pv_pick rfl rfl rfl) ?h54 ?k54
    case h54 => conv => lhs; whnf
    refine D_mv (v := ?v55) rfl ?h55 ?k55
    case h55 => conv => lhs; whnf
    refine D_skip rfl ?_
    refine D_skip rfl ?_
    refine D_skip rfl ?_
    refine D_skip rfl ?_
    refine D_skip rfl ?_
    refine D_skip rfl ?_
    refine D_skip rfl ?_
    refine D_skip rfl ?_
    refine D_pe (v := ?v56) rfl (pv_pick rfl rfl rfl) ?h56 ?k56
    case h56 => conv => lhs; whnf
    refine D_mv (v := ?v57) rfl ?h57 ?k57
    case h57 => conv => lhs; whnf
    refine D_skip rfl ?_
    refine D_skip rfl ?_
    refine D_skip rfl ?_
    refine D_pe (v := ?v58) rfl (pv_pick rfl rfl rfl) ?h58 ?k58
    case h58 => conv => lhs; whnf
    refine D_mv (v := ?v59) rfl ?h59 ?k59
    case h59 => conv => lhs; whnf
    refine D_skip rfl ?_
    refine D_skip rfl ?_
    refine D_skip rfl ?_
    refine D_pe (v := ?v60) rfl (pv_pick rfl rfl rfl) ?h60 ?k60
    case h60 => conv => lhs; whnf
    refine D_as (v := ?v61) rfl ?h61 ?k61
    case h61 => conv => lhs; whnf
    refine D_end (hK2 _ _ ?_)
    refine W_ret ?_
    refine ret_one (v := ?v62) rfl rfl ?h62 ?k62
    case h62 => conv => lhs; whnf
    refine ⟨?_, hx⟩
    simp only [Ending.returned.injEq, Value.bool.injEq]
    simp [isC, *]
    try omega

set_option maxRecDepth 100000 in
set_option maxHeartbeats 1000000 in
theorem size_w (c : Cell) (w : World) (hk : c.key.length ≤ 1000000000) (hv : c.val.length ≤ 1000000000) :
    Calls Try.prog 26 [c.v].toArray w (Pure w (I (sizeC c))) := by
  refine calls_W Try.func26 rfl rfl rfl (by kernel_rfl) ?_
  have hx := Ext.refl w
  refine W_seq fun K1 hK1 => ?_
  refine W_reg [.x, .p] rfl ?_
  refine D_box rfl rfl rfl RX.all (fun b1 w1 e1 x1 m1 => ?_)
  replace hx := hx.trans x1
  refine D_as (v := ?v1) rfl ?h1 ?k1
  case h1 => conv => lhs; whnf
  refine D_end (hK1 _ _ ?_)
  refine W_seq fun K2 hK2 => ?_
  refine W_reg [.p, .l, .p, .p, .l, .p, .p, .p, .p] rfl ?_
  refine D_p rfl (pv_fieldA (k := 0) (by kernel_rfl) rfl) ?_
  refine D_lq rfl (lv_load (by kernel_rfl) rfl (m1.at rfl)) ?_
  refine D_p rfl (pv_lenS (by kernel_rfl) rfl) ?_
  refine D_p rfl (pv_fieldA (k := 1) (by kernel_rfl) rfl) ?_
  refine D_lq rfl (lv_load (by kernel_rfl) rfl (m1.at rfl)) ?_
  refine D_p rfl (pv_lenS (by kernel_rfl) rfl) ?_
  refine D_p rfl (pv_add rfl rfl (by unfold inI64; omega)) ?_
  refine D_p rfl (pv_add rfl rfl (by unfold inI64; omega)) ?_
  refine D_as (v := ?v2) rfl ?h2 ?k2
  case h2 => conv => lhs; whnf
  refine D_end (hK2 _ _ ?_)
  refine W_ret ?_
  refine ret_one (v := ?v3) rfl rfl ?h3 ?k3
  case h3 => conv => lhs; whnf
  refine ⟨?_, hx⟩
  simp [sizeC]

set_option maxRecDepth 100000 in
set_option maxHeartbeats 1000000 in
theorem rsize_w (c : Cell) (w : World) (hk : c.key.length ≤ 1000000000) (hv : c.val.length ≤ 1000000000) :
    Calls Try.prog 30 [c.v].toArray w (Pure w (I (sizeC c))) := by
  refine calls_W Try.func30 rfl rfl rfl (by kernel_rfl) ?_
  have hx := Ext.refl w
  refine W_seq fun K1 hK1 => ?_
  refine W_reg [.x, .p] rfl ?_
  refine D_box rfl rfl rfl RX.all (fun b1 w1 e1 x1 m1 => ?_)
  replace hx := hx.trans x1
  refine D_as (v := ?v1) rfl ?h1 ?k1
  case h1 => conv => lhs; whnf
  refine D_end (hK1 _ _ ?_)
  refine W_seq fun K2 hK2 => ?_
  refine W_reg [.p, .l, .p, .p, .l, .p, .p, .p, .p] rfl ?_
  refine D_p rfl (pv_fieldA (k := 0) (by kernel_rfl) rfl) ?_
  refine D_lq rfl (lv_load (by kernel_rfl) rfl (m1.at rfl)) ?_
  refine D_p rfl (pv_lenS (by kernel_rfl) rfl) ?_
  refine D_p rfl (pv_fieldA (k := 1) (by kernel_rfl) rfl) ?_
  refine D_lq rfl (lv_load (by kernel_rfl) rfl (m1.at rfl)) ?_
  refine D_p rfl (pv_lenS (by kernel_rfl) rfl) ?_
  refine D_p rfl (pv_add rfl rfl (by unfold inI64; omega)) ?_
  refine D_p rfl (pv_add rfl rfl (by unfold inI64; omega)) ?_
  refine D_as (v := ?v2) rfl ?h2 ?k2
  case h2 => conv => lhs; whnf
  refine D_end (hK2 _ _ ?_)
  refine W_ret ?_
  refine ret_one (v := ?v3) rfl rfl ?h3 ?k3
  case h3 => conv => lhs; whnf
  refine ⟨?_, hx⟩
  simp [sizeC]

set_option maxRecDepth 100000 in
set_option maxHeartbeats 1000000 in
theorem first_w (l : List Cell) (v : Value) (key : Str) (seq : Int) (w : World) (hv : Arr Cell.cs 4 w v l) (hl : l.length ≤ 1000000000) :
    Calls Try.prog 13 [v, S key, I seq].toArray w (Pure w (.tuple #[((first l key seq).getD Cell.zero).v, B (first l key seq).isSome])) := by
  refine calls_W Try.func13 rfl rfl rfl (by kernel_rfl) ?_
  have hx := Ext.refl w
  refine W_seq fun K1 hK1 => ?_
  refine W_reg [.x, .p] rfl ?_
  refine D_alloc (cs := [S [], S [], B false, .int .i64 0]) rfl (by kernel_rfl) RX.all (fun b1 w1 e1 x1 m1 => ?_)
  replace hx := hx.trans x1
  refine D_as (v := ?v1) rfl ?h1 ?k1
  case h1 => conv => lhs; whnf
  refine D_end (hK1 _ _ ?_)
  refine W_seq fun K2 hK2 => ?_
  refine W_seq fun K3 hK3 => ?_
  refine W_reg [.p] rfl ?_
  refine D_as (v := ?v2) rfl ?h2 ?k2
  case h2 => conv => lhs; whnf
  refine D_end (hK3 _ _ ?_)
  refine W_block ?_
  refine W_loop (G := Nat) (fun k => [(0, v), (1, S key), (2, I seq), (6, ptr b1 0), (8, I ↑k)]) (fun k w' => Ext w w' ∧ Blk w' b1 [S [], S [], B false, I 0] 28 ∧ k ≤ l.length ∧ first (l.drop k) key seq = first l key seq) (fun k => l.length - k) 0 ?_ ?_ ?_
  · exact ⟨rfl, rfl, rfl, rfl, rfl, trivial⟩
  · exact ⟨hx, m1, Nat.zero_le _, rfl⟩
  · intro X2 g2 w2 hF2
    revert hF2; revert g2; intro k hF2
    clear hx m1
    obtain ⟨hx, m1, hk1, hk2⟩ := hF2
    refine W_seq fun K4 hK4 => ?_
    refine W_seq fun K5 hK5 => ?_
    refine W_reg [.p, .p, .p, .p] rfl ?_
    refine D_mv (v := ?v3) rfl ?h3 ?k3
    case h3 => conv => lhs; whnf
    refine D_mv (v := ?v4) rfl ?h4 ?k4
    case h4 => conv => lhs; whnf
    refine D_p rfl (pv_lenV (e := 28) (k := 4) (by kernel_rfl) hv.sl rfl) ?_
    refine D_p rfl (pv_lss rfl rfl) ?_
    refine D_end (hK5 _ _ ?_)
    refine W_if rfl (fun c1 => ?_) (fun c1 => ?_)
    ·
      obtain ⟨c, hk⟩ : ∃ c, l[k]? = some c := ⟨_, List.getElem?_eq_getElem (by omega)⟩
      refine W_skip ?_
      refine hK4 _ _ ?_
      refine W_seq fun K6 hK6 => ?_
      refine W_block ?_
      refine W_seq fun K7 hK7 => ?_
      refine W_reg [.p, .p, .p, .p, .l, .p, .p, .p, .p, .p, .p, .p, .l, .p, .p, .p] rfl ?_
      refine D_mv (v := ?v5) rfl ?h5 ?k5
      case h5 => conv => lhs; whnf
      refine D_mv (v := ?v6) rfl ?h6 ?k6
      case h6 => conv => lhs; whnf
      refine D_p rfl (pv_idxA (e := 28) (k := 4) (by kernel_rfl) hv.sl rfl rfl (hv.lt hk)) ?_
      refine D_p rfl (pv_fieldA (k := 0) (by kernel_rfl) rfl) ?_
      refine D_lq rfl (lv_load (by kernel_rfl) rfl (((hv.ext hx).row hk).at rfl)) ?_
      refine D_mv (v := ?v7) rfl ?h7 ?k7
      case h7 => conv => lhs; whnf
      refine D_p rfl (pv_seq rfl rfl) ?_
      refine D_mv (v := ?v8) rfl ?h8 ?k8
      case h8 => conv => lhs; whnf
      refine D_splitP 22 rfl (fun c2 => ?_) (fun c2 => ?_)
      ·
        refine D_mv (v := ?v9) rfl ?h9 ?k9
        case h9 => conv => lhs; whnf
        refine D_mv (v := ?v10) rfl ?h10 ?k10
        case h10 => conv => lhs; whnf
        refine D_p rfl (pv_idxA (e := 28) (k := 4) (by kernel_rfl) hv.sl rfl rfl (hv.lt hk)) ?_
        refine D_p rfl (pv_fieldA (k := 3) (by kernel_rfl) rfl) ?_
        refine D_lq rfl (lv_load (by kernel_rfl) rfl (((hv.ext hx).row hk).at rfl)) ?_
        refine D_mv (v := ?v11) rfl ?h11 ?k11
        case h11 => conv => lhs; whnf
        refine D_p rfl (pv_leq rfl rfl) ?_
        refine D_pe (v := ?v12) rfl (pv_pick rfl rfl rfl) ?h12 ?k12
        case h12 => conv => lhs; whnf
        refine D_end (hK7 _ _ ?_)
        refine W_if rfl (fun c3 => ?_) (fun c3 => ?_)
        ·
          refine W_seq fun K8 hK8 => ?_
          refine W_reg [.p, .p, .p, .l, .x, .p] rfl ?_
          refine D_mv (v := ?v13) rfl ?h13 ?k13
          case h13 => conv => lhs; whnf
          refine D_mv (v := ?v14) rfl ?h14 ?k14
          case h14 => conv => lhs; whnf
          refine D_p rfl (pv_idxA (e := 28) (k := 4) (by kernel_rfl) hv.sl rfl rfl (hv.lt hk)) ?_
          refine D_lq rfl (lv_loadA (by kernel_rfl) rfl rfl ((hv.ext hx).row hk)) ?_
          refine D_store (v := ?v15) (vs := ?u15) rfl rfl ?h15 ?c15 ?s15 m1 ?o15 ?n15 (.inl rfl) (fun w3 x3 _ m1 => ?k15)
          case h15 => conv => lhs; whnf
          case c15 => exact rfl
          case s15 => kernel_rfl
          case o15 => exact Nat.le_of_ble_eq_true rfl
          case n15 => simp [Value.oneCell']
          dsimp only [setAt, List.set] at m1
          replace hx := hx.own x3 (by intro i hi; have hi2 : i = b1 := hi; subst hi2; omega)
          refine D_as (v := ?v16) rfl ?h16 ?k16
          case h16 => conv => lhs; whnf
          refine D_end (hK8 _ _ ?_)
          refine W_ret ?_
          refine ret_cell_tmp (u := ?v17) rfl rfl rfl rfl (by kernel_rfl) rfl m1.row ?h17 ?k17
          case h17 => conv => lhs; whnf
          refine ⟨?_, hx⟩
          rw [← hk2]
          first | (rw [first_drop hk]; simp [*]; done) | (rw [List.drop_eq_nil_of_le (by omega)]; rfl)
        ·
          refine W_skip ?_
          refine hK6 _ _ ?_
          refine W_reg [.p, .p, .p] rfl ?_
          refine D_mv (v := ?v18) rfl ?h18 ?k18
          case h18 => conv => lhs; whnf
          refine D_p rfl (pv_add rfl rfl (by unfold inI64; omega)) ?_
          refine D_as (v := ?v19) rfl ?h19 ?k19
          case h19 => conv => lhs; whnf
          refine D_end (?_)
          refine ⟨k + 1, ⟨rfl, rfl, rfl, rfl, rfl, trivial⟩, ⟨hx, m1, by omega, ?_⟩, by omega⟩
          rw [← hk2, first_drop hk]
          simp [*]
      ·
        refine D_skip rfl ?_
        refine D_skip rfl ?_
        refine D_skip rfl ?_
        refine D_skip rfl ?_
        refine D_skip rfl ?_
        refine D_skip rfl ?_
        refine D_skip rfl ?_
        refine D_pe (v := ?v20) rfl (pv_pick rfl rfl rfl) ?h20 ?k20
        case h20 => conv => lhs; whnf
        refine D_end (hK7 _ _ ?_)
        refine W_f rfl ?_
        refine W_skip ?_
        refine hK6 _ _ ?_
        refine W_reg [.p, .p, .p] rfl ?_
        refine D_mv (v := ?v21) rfl ?h21 ?k21
        case h21 => conv => lhs; whnf
        refine D_p rfl (pv_add rfl rfl (by unfold inI64; omega)) ?_
        refine D_as (v := ?v22) rfl ?h22 ?k22
        case h22 => conv => lhs; whnf
        refine D_end (?_)
        refine ⟨k + 1, ⟨rfl, rfl, rfl, rfl, rfl, trivial⟩, ⟨hx, m1, by omega, ?_⟩, by omega⟩
        rw [← hk2, first_drop hk]
        simp [*]
    ·
      refine W_exit ?_
      refine hK2 _ _ ?_
      refine W_seq fun K9 hK9 => ?_
      refine W_reg [.p, .x, .p] rfl ?_
      refine D_p rfl (pv_build (zs := [S [], S [], B false, .int .i64 0]) (pl := [(0, 1), (1, 1), (2, 1), (3, 1)]) (pv := []) (cs := [S [], S [], B false, .int .i64 0]) (by kernel_rfl) (by kernel_rfl) ?h23 ?f23) ?k23
      case h23 => exact trivial
      case f23 => rfl
      refine D_store (v := ?v24) (vs := ?u24) rfl rfl ?h24 ?c24 ?s24 m1 ?o24 ?n24 (.inl rfl) (fun w4 x4 _ m1 => ?k24)
      case h24 => conv => lhs; whnf
      case c24 => exact rfl
      case s24 => kernel_rfl
      case o24 => exact Nat.le_of_ble_eq_true rfl
      case n24 => simp [Value.oneCell']
      dsimp only [setAt, List.set] at m1
      replace hx := hx.own x4 (by intro i hi; have hi2 : i = b1 := hi; subst hi2; omega)
      refine D_as (v := ?v25) rfl ?h25 ?k25
      case h25 => conv => lhs; whnf
      refine D_end (hK9 _ _ ?_)
      refine W_ret ?_
      refine ret_cell_tmp (u := ?v26) rfl rfl rfl rfl (by kernel_rfl) rfl m1.row ?h26 ?k26
      case h26 => conv => lhs; whnf
      refine ⟨?_, hx⟩
      rw [← hk2]
      first | (rw [first_drop hk]; simp [*]; done) | (rw [List.drop_eq_nil_of_le (by omega)]; rfl)

end Go.Proofs.Ytodmkkcediofgaa
