/-
  Walks.
-/
import Derived.Test.YtcjjjmhhpejdoaaChecked
import Derived.Test.YtcjjjmhhpejdoaaSpMem
import Derived.KernelRfl
import Derived.Test.YtcjjjmhhpejdoaaIdxB
namespace Go.Proofs.Ytcjjjmhhpejdoaa
open Go.Vc Go.Sp
attribute [local irreducible] W XW Dw DwT
set_option linter.unusedVariables false
set_option linter.unusedSimpArgs false

theorem base_slV (k lo hi : Nat) (v : Value) : (base (slV k v lo hi)).1 = (base v).1 := by
  cases v with
  | slice a m c => cases a with
    | none => rfl
    | some a => simp only [slV, base]; split <;> rfl
  | _ => rfl
theorem tail_arr {w : World} {v : Value} {o : Str} {os : List Str} (h : Arr sEnc 1 w v (o :: os)) : Arr sEnc 1 w (slV 1 v 1 (o :: os).length) os := by
  have := h.slice (lo := 1) (hi := (o :: os).length) (by simp) (Nat.le_refl _)
  rwa [List.take_length, List.drop_succ_cons, List.drop_zero] at this
theorem cons_of {l : List Str} (h : ¬ (l.length : Int) = 0) : ∃ o r, l = o :: r := by
  cases l with
  | nil => exact absurd rfl h
  | cons o r => exact ⟨o, r, rfl⟩
theorem nil_of {l : List Str} (h : (l.length : Int) = 0) : l = [] := List.eq_nil_of_length_eq_zero (by omega)

set_option maxRecDepth 100000 in
set_option maxHeartbeats 1000000 in
theorem diff_w (l m : List Str) (v u : Value) (w : World) (hv : Arr sEnc 1 w v l) (hu : Arr sEnc 1 w u m) (hl : l.length ≤ 1000000) (hm : m.length ≤ 1000000) :
    Calls Try.prog 5 [v, u].toArray w (Gives w (fun v' w' => Own Rw.cs 3 27 w.heap.size w' v' (dif l m))) := by
  refine calls_W Try.func5 rfl rfl rfl (by kernel_rfl) ?_
  have hx := Ext.refl w
  refine W_seq fun K1 hK1 => ?_
  refine W_reg [.p] rfl ?_
  refine D_as (v := ?v1) rfl ?h1 ?k1
  case h1 => conv => lhs; whnf
  refine D_end (hK1 _ _ ?_)
  refine W_seq fun K2 hK2 => ?_
  refine W_reg [.p] rfl ?_
  refine D_as (v := ?v2) rfl ?h2 ?k2
  case h2 => conv => lhs; whnf
  refine D_end (hK2 _ _ ?_)
  refine W_seq fun K3 hK3 => ?_
  refine W_block ?_
  refine W_loop (G := List Str × List Str × Value × Value × Value × List Rw) (fun (os, ns, va, vb, vm, acc) => [(0, va), (1, vb), (4, .slice none 0 0), (5, vm)]) (fun (os, ns, va, vb, vm, acc) w' => Ext w w' ∧ Arr sEnc 1 w' va os ∧ Arr sEnc 1 w' vb ns ∧ Own Rw.cs 3 27 w.heap.size w' vm acc ∧ acc ++ dif os ns = dif l m ∧ acc.length + os.length + ns.length ≤ l.length + m.length ∧ (os ≠ [] → (base va).1 < w.heap.size) ∧ (ns ≠ [] → (base vb).1 < w.heap.size)) (fun (os, ns, va, vb, vm, acc) => os.length + ns.length) (l, m, v, u, .slice none 0 0, []) ?_ ?_ ?_
  · exact ⟨rfl, rfl, rfl, rfl, trivial⟩
  · exact ⟨hx, hv.ext hx, hu.ext hx, Own.nil, rfl, by simp, hv.base_lt (by decide), hu.base_lt (by decide)⟩
  · intro X1 g1 w1 hF1
    obtain ⟨os, ns, va, vb, vm, acc⟩ := g1
    clear hx 
    obtain ⟨hx, ha, hb, ho, hd, hln, hqa, hqb⟩ := hF1
    refine W_seq fun K4 hK4 => ?_
    refine W_seq fun K5 hK5 => ?_
    refine W_reg [.p, .p, .p, .p, .p, .p] rfl ?_
    refine D_mv (v := ?v3) rfl ?h3 ?k3
    case h3 => conv => lhs; whnf
    refine D_p rfl (pv_lenV (e := 9) (k := 1) (by kernel_rfl) ha.sl rfl) ?_
    refine D_mv (v := ?v4) rfl ?h4 ?k4
    case h4 => conv => lhs; whnf
    refine D_p rfl (pv_lenV (e := 9) (k := 1) (by kernel_rfl) hb.sl rfl) ?_
    refine D_p rfl (pv_add rfl rfl (by unfold inI64; omega)) ?_
    refine D_p rfl (pv_gtr rfl rfl) ?_
    refine D_end (hK5 _ _ ?_)
    refine W_if rfl (fun c1 => ?_) (fun c1 => ?_)
    ·
      refine W_skip ?_
      refine hK4 _ _ ?_
      refine W_block ?_
      refine W_block ?_
      refine W_seq fun K6 hK6 => ?_
      refine W_draw (R := Ext) Ext.refl (fun _ _ _ => Ext.trans) (by kernel_rfl) [10, 13] [(0, .p, false), (1, .p, false), (2, .p, false), (3, .p, false), (4, .p, false), (5, .p, false), (6, .p, false), (7, .p, false), (8, .p, false), (9, .p, false), (10, .l, false), (11, .p, false), (12, .p, false), (13, .l, false), (14, .p, false), (15, .p, false), (16, .p, false), (17, .p, false)] rfl (by kernel_rfl) (by kernel_rfl) (fun w2 ew2 => ?_)
      have x2 : Ext w1 w2 := by rw [ew2]; exact Ext.drew _
      clear ew2
      replace ha := ha.ext x2
      replace hb := hb.ext x2
      replace ho := ho.ext x2
      replace hx := hx.trans x2
      refine D_mv (v := ?v5) rfl ?h5 ?k5
      case h5 => conv => lhs; whnf
      refine D_p rfl (pv_lenV (e := 9) (k := 1) (by kernel_rfl) hb.sl rfl) ?_
      refine D_p rfl (pv_eql rfl rfl) ?_
      refine D_mv (v := ?v6) rfl ?h6 ?k6
      case h6 => conv => lhs; whnf
      refine D_splitP 20 rfl (fun c2 => ?_) (fun c2 => ?_)
      ·
        obtain rfl := nil_of c2
        obtain ⟨o, os, rfl⟩ := cons_of (l := os) (by simp at c1; omega)
        have hko : (o :: os)[0]? = some o := rfl
        refine D_skip rfl ?_
        refine D_skip rfl ?_
        refine D_skip rfl ?_
        refine D_skip rfl ?_
        refine D_skip rfl ?_
        refine D_skip rfl ?_
        refine D_skip rfl ?_
        refine D_skip rfl ?_
        refine D_skip rfl ?_
        refine D_skip rfl ?_
        refine D_skip rfl ?_
        refine D_skip rfl ?_
        refine D_pe (v := ?v7) rfl (pv_pick rfl rfl rfl) ?h7 ?k7
        case h7 => conv => lhs; whnf
        refine D_as (v := ?v8) rfl ?h8 ?k8
        case h8 => conv => lhs; whnf
        refine D_end (hK6 _ _ ?_)
        refine W_t rfl ?_
        refine W_seq fun K7 hK7 => ?_
        refine W_reg [.p, .p, .p, .l, .p, .x, .x, .p] rfl ?_
        refine D_mv (v := ?v9) rfl ?h9 ?k9
        case h9 => conv => lhs; whnf
        refine D_mv (v := ?v10) rfl ?h10 ?k10
        case h10 => conv => lhs; whnf
        refine D_p rfl (pv_idxA (i := 0) (e := 9) (k := 1) (by kernel_rfl) ha.sl rfl rfl (ha.lt hko)) ?_
        refine D_lq rfl (lv_load (by kernel_rfl) rfl ((ha.row hko).at0 rfl)) ?_
        refine D_p rfl (pv_build (zs := [S [], S [], B false]) (pl := [(0, 1), (1, 1), (2, 1)]) (pv := [(0, ?a11_0), (2, ?a11_1)]) (cs := [?a11_0, S [], ?a11_1]) (by kernel_rfl) (by kernel_rfl) ?h11 ?f11) ?k11
        case h11 => refine ⟨rfl, ?_, rfl, ?_, trivial⟩ <;> (conv => lhs; whnf)
        case f11 => rfl
        refine D_lit (e := 27) (sz := 3) (zs := [S [], S [], B false]) (pv := [(0, .agg ⟨[?a12_0, ?a12_1, ?a12_2]⟩)]) (cs := [?a12_0, ?a12_1, ?a12_2]) rfl (by kernel_rfl) ⟨rfl, rfl⟩ (by kernel_rfl) rfl ?h12 ?f12 RX.all (fun b1 w3 e1 x3 m1 => ?k12)
        case h12 => refine ⟨rfl, ?_, trivial⟩ <;> (conv => lhs; whnf)
        case f12 => rfl
        have g1 : w.heap.size ≤ b1 := by have := hx.size; omega
        have a1_ha := Arr.base_lt ha (by decide)
        have a1_hb := Arr.base_lt hb (by decide)
        have o1_ho : ∀ k, Value.ownBlock _ = some k → k < b1 := fun k hk => by have := (ho.lt k hk).2; omega
        replace ha := ha.ext x3
        replace hb := hb.ext x3
        replace ho := ho.ext x3
        replace hx := hx.trans x3
        refine D_append (lx := [⟨o, [], true⟩]) (e := 27) (sz := 3) (by' := 40) rfl (by kernel_rfl) (by kernel_rfl) (by intro x; rfl) ho (m1.arr (enc := Rw.cs) (sz := 3) (l := [⟨o, [], true⟩]) rfl (by intro x; rfl) rfl (Nat.le_of_ble_eq_true rfl)) rfl rfl (by intro x _ u hu; simp at hu; rcases hu with rfl | rfl | rfl <;> rfl) (by simp at hln ⊢; omega) (by decide) hx.size (.inl rfl) (fun vm2 w4 ho_n x4 => ?_)
        try replace ha := ha.mod x4 (fun hne h => by have h1 := (ho.lt _ h).1; first | (have h2 := hqa hne; omega) | (have h2 := hqb hne; omega))
        try replace hb := hb.mod x4 (fun hne h => by have h1 := (ho.lt _ h).1; first | (have h2 := hqa hne; omega) | (have h2 := hqb hne; omega))
        try replace m1 := m1.mod x4 (by first | (intro h; have h2 : b1 = b1 := Option.some.inj h; omega) | (intro h; have h1 := (ho.lt _ h).1; omega))
        replace hx := hx.own x4 (fun i hi => (ho.lt i hi).1)
        replace ho := ho_n
        refine D_as (v := ?v13) rfl ?h13 ?k13
        case h13 => conv => lhs; whnf
        refine D_end (hK7 _ _ ?_)
        refine W_reg [.p, .p, .p] rfl ?_
        refine D_mv (v := ?v14) rfl ?h14 ?k14
        case h14 => conv => lhs; whnf
        refine D_p rfl (pv_slV (e := 9) (k := 1) (by kernel_rfl) ha.sl rfl rfl rfl (by simp) (Nat.le_refl _)) ?_
        refine D_as (v := ?v15) rfl ?h15 ?k15
        case h15 => conv => lhs; whnf
        refine D_end (?_)
        refine ⟨(os, [], slV 1 va 1 (o :: os).length, vb, vm2, acc ++ [⟨o, [], true⟩]), ⟨rfl, rfl, rfl, rfl, trivial⟩, ⟨hx, (tail_arr ha), hb, ho, ?_, by simp at hln ⊢ <;> omega, fun _ => by rw [base_slV]; exact hqa (by simp), hqb⟩, by simp <;> omega⟩
        rw [← hd]; simp [dif]
      ·
        obtain ⟨n, ns, rfl⟩ := cons_of c2
        have hkn : (n :: ns)[0]? = some n := rfl
        refine D_mv (v := ?v16) rfl ?h16 ?k16
        case h16 => conv => lhs; whnf
        refine D_p rfl (pv_lenV (e := 9) (k := 1) (by kernel_rfl) ha.sl rfl) ?_
        refine D_p rfl (pv_gtr rfl rfl) ?_
        refine D_mv (v := ?v17) rfl ?h17 ?k17
        case h17 => conv => lhs; whnf
        refine D_splitP 24 rfl (fun c3 => ?_) (fun c3 => ?_)
        ·
          obtain ⟨o, os, rfl⟩ := cons_of (l := os) (by omega)
          have hko : (o :: os)[0]? = some o := rfl
          refine D_mv (v := ?v18) rfl ?h18 ?k18
          case h18 => conv => lhs; whnf
          refine D_p rfl (pv_idxA (i := 0) (e := 9) (k := 1) (by kernel_rfl) ha.sl rfl rfl (ha.lt hko)) ?_
          refine D_l rfl (fun w' hR => lv_load (by kernel_rfl) rfl (((ha.ext hR).row hko).at0 rfl)) ?_
          refine D_mv (v := ?v19) rfl ?h19 ?k19
          case h19 => conv => lhs; whnf
          refine D_p rfl (pv_idxA (i := 0) (e := 9) (k := 1) (by kernel_rfl) hb.sl rfl rfl (hb.lt hkn)) ?_
          refine D_l rfl (fun w' hR => lv_load (by kernel_rfl) rfl (((hb.ext hR).row hkn).at0 rfl)) ?_
          refine D_p rfl (pv_slt rfl rfl) ?_
          refine D_pe (v := ?v20) rfl (pv_pick rfl rfl rfl) ?h20 ?k20
          case h20 => conv => lhs; whnf
          refine D_pe (v := ?v21) rfl (pv_pick rfl rfl rfl) ?h21 ?k21
          case h21 => conv => lhs; whnf
          refine D_as (v := ?v22) rfl ?h22 ?k22
          case h22 => conv => lhs; whnf
          refine D_end (hK6 _ _ ?_)
          refine W_cond rfl (fun c4 => ?_) (fun c4 => ?_)
          ·
            refine W_seq fun K8 hK8 => ?_
            refine W_reg [.p, .p, .p, .l, .p, .x, .x, .p] rfl ?_
            refine D_mv (v := ?v23) rfl ?h23 ?k23
            case h23 => conv => lhs; whnf
            refine D_mv (v := ?v24) rfl ?h24 ?k24
            case h24 => conv => lhs; whnf
            refine D_p rfl (pv_idxA (i := 0) (e := 9) (k := 1) (by kernel_rfl) ha.sl rfl rfl (ha.lt hko)) ?_
            refine D_lq rfl (lv_load (by kernel_rfl) rfl ((ha.row hko).at0 rfl)) ?_
            refine D_p rfl (pv_build (zs := [S [], S [], B false]) (pl := [(0, 1), (1, 1), (2, 1)]) (pv := [(0, ?a25_0), (2, ?a25_1)]) (cs := [?a25_0, S [], ?a25_1]) (by kernel_rfl) (by kernel_rfl) ?h25 ?f25) ?k25
            case h25 => refine ⟨rfl, ?_, rfl, ?_, trivial⟩ <;> (conv => lhs; whnf)
            case f25 => rfl
            refine D_lit (e := 27) (sz := 3) (zs := [S [], S [], B false]) (pv := [(0, .agg ⟨[?a26_0, ?a26_1, ?a26_2]⟩)]) (cs := [?a26_0, ?a26_1, ?a26_2]) rfl (by kernel_rfl) ⟨rfl, rfl⟩ (by kernel_rfl) rfl ?h26 ?f26 RX.all (fun b2 w5 e2 x5 m2 => ?k26)
            case h26 => refine ⟨rfl, ?_, trivial⟩ <;> (conv => lhs; whnf)
            case f26 => rfl
            have g2 : w.heap.size ≤ b2 := by have := hx.size; omega
            have a2_ha := Arr.base_lt ha (by decide)
            have a2_hb := Arr.base_lt hb (by decide)
            have o2_ho : ∀ k, Value.ownBlock _ = some k → k < b2 := fun k hk => by have := (ho.lt k hk).2; omega
            replace ha := ha.ext x5
            replace hb := hb.ext x5
            replace ho := ho.ext x5
            replace hx := hx.trans x5
            refine D_append (lx := [⟨o, [], true⟩]) (e := 27) (sz := 3) (by' := 40) rfl (by kernel_rfl) (by kernel_rfl) (by intro x; rfl) ho (m2.arr (enc := Rw.cs) (sz := 3) (l := [⟨o, [], true⟩]) rfl (by intro x; rfl) rfl (Nat.le_of_ble_eq_true rfl)) rfl rfl (by intro x _ u hu; simp at hu; rcases hu with rfl | rfl | rfl <;> rfl) (by simp at hln ⊢; omega) (by decide) hx.size (.inl rfl) (fun vm2 w6 ho_n x6 => ?_)
            try replace ha := ha.mod x6 (fun hne h => by have h1 := (ho.lt _ h).1; first | (have h2 := hqa hne; omega) | (have h2 := hqb hne; omega))
            try replace hb := hb.mod x6 (fun hne h => by have h1 := (ho.lt _ h).1; first | (have h2 := hqa hne; omega) | (have h2 := hqb hne; omega))
            try replace m2 := m2.mod x6 (by first | (intro h; have h2 : b2 = b2 := Option.some.inj h; omega) | (intro h; have h1 := (ho.lt _ h).1; omega))
            replace hx := hx.own x6 (fun i hi => (ho.lt i hi).1)
            replace ho := ho_n
            refine D_as (v := ?v27) rfl ?h27 ?k27
            case h27 => conv => lhs; whnf
            refine D_end (hK8 _ _ ?_)
            refine W_reg [.p, .p, .p] rfl ?_
            refine D_mv (v := ?v28) rfl ?h28 ?k28
            case h28 => conv => lhs; whnf
            refine D_p rfl (pv_slV (e := 9) (k := 1) (by kernel_rfl) ha.sl rfl rfl rfl (by simp) (Nat.le_refl _)) ?_
            refine D_as (v := ?v29) rfl ?h29 ?k29
            case h29 => conv => lhs; whnf
            refine D_end (?_)
            refine ⟨(os, n :: ns, slV 1 va 1 (o :: os).length, vb, vm2, acc ++ [⟨o, [], true⟩]), ⟨rfl, rfl, rfl, rfl, trivial⟩, ⟨hx, (tail_arr ha), hb, ho, ?_, by simp at hln ⊢ <;> omega, fun _ => by rw [base_slV]; exact hqa (by simp), hqb⟩, by simp <;> omega⟩
            rw [← hd, dif, if_pos c4]; simp
          ·
            refine W_seq fun K9 hK9 => ?_
            refine W_draw (R := Ext) Ext.refl (fun _ _ _ => Ext.trans) (by kernel_rfl) [6, 9] [(0, .p, false), (1, .p, false), (2, .p, false), (3, .p, false), (4, .p, false), (5, .p, false), (6, .l, false), (7, .p, false), (8, .p, false), (9, .l, false), (10, .p, false), (11, .p, false), (12, .p, false)] rfl (by kernel_rfl) (by kernel_rfl) (fun w7 ew7 => ?_)
            have x7 : Ext w2 w7 := by rw [ew7]; exact Ext.drew _
            clear ew7
            replace ha := ha.ext x7
            replace hb := hb.ext x7
            replace ho := ho.ext x7
            replace hx := hx.trans x7
            refine D_mv (v := ?v30) rfl ?h30 ?k30
            case h30 => conv => lhs; whnf
            refine D_p rfl (pv_lenV (e := 9) (k := 1) (by kernel_rfl) ha.sl rfl) ?_
            refine D_p rfl (pv_eql rfl rfl) ?_
            refine D_mv (v := ?v31) rfl ?h31 ?k31
            case h31 => conv => lhs; whnf
            refine D_splitP 47 rfl (fun c5 => ?_) (fun c5 => ?_)
            ·
              simp at c5; omega
            ·
              refine D_mv (v := ?v32) rfl ?h32 ?k32
              case h32 => conv => lhs; whnf
              refine D_p rfl (pv_idxA (i := 0) (e := 9) (k := 1) (by kernel_rfl) hb.sl rfl rfl (hb.lt hkn)) ?_
              refine D_l rfl (fun w' hR => lv_load (by kernel_rfl) rfl (((hb.ext hR).row hkn).at0 rfl)) ?_
              refine D_mv (v := ?v33) rfl ?h33 ?k33
              case h33 => conv => lhs; whnf
              refine D_p rfl (pv_idxA (i := 0) (e := 9) (k := 1) (by kernel_rfl) ha.sl rfl rfl (ha.lt hko)) ?_
              refine D_l rfl (fun w' hR => lv_load (by kernel_rfl) rfl (((ha.ext hR).row hko).at0 rfl)) ?_
              refine D_p rfl (pv_slt rfl rfl) ?_
              refine D_pe (v := ?v34) rfl (pv_pick rfl rfl rfl) ?h34 ?k34
              case h34 => conv => lhs; whnf
              refine D_as (v := ?v35) rfl ?h35 ?k35
              case h35 => conv => lhs; whnf
              refine D_end (hK9 _ _ ?_)
              refine W_cond rfl (fun c6 => ?_) (fun c6 => ?_)
              ·
                refine W_seq fun K10 hK10 => ?_
                refine W_reg [.p, .p, .p, .l, .p, .x, .x, .p] rfl ?_
                refine D_mv (v := ?v36) rfl ?h36 ?k36
                case h36 => conv => lhs; whnf
                refine D_mv (v := ?v37) rfl ?h37 ?k37
                case h37 => conv => lhs; whnf
                refine D_p rfl (pv_idxA (i := 0) (e := 9) (k := 1) (by kernel_rfl) hb.sl rfl rfl (hb.lt hkn)) ?_
                refine D_lq rfl (lv_load (by kernel_rfl) rfl ((hb.row hkn).at0 rfl)) ?_
                refine D_p rfl (pv_build (zs := [S [], S [], B false]) (pl := [(0, 1), (1, 1), (2, 1)]) (pv := [(0, ?a38_0)]) (cs := [?a38_0, S [], B false]) (by kernel_rfl) (by kernel_rfl) ?h38 ?f38) ?k38
                case h38 => refine ⟨rfl, ?_, trivial⟩ <;> (conv => lhs; whnf)
                case f38 => rfl
                refine D_lit (e := 27) (sz := 3) (zs := [S [], S [], B false]) (pv := [(0, .agg ⟨[?a39_0, ?a39_1, ?a39_2]⟩)]) (cs := [?a39_0, ?a39_1, ?a39_2]) rfl (by kernel_rfl) ⟨rfl, rfl⟩ (by kernel_rfl) rfl ?h39 ?f39 RX.all (fun b3 w8 e3 x8 m3 => ?k39)
                case h39 => refine ⟨rfl, ?_, trivial⟩ <;> (conv => lhs; whnf)
                case f39 => rfl
                have g3 : w.heap.size ≤ b3 := by have := hx.size; omega
                have a3_ha := Arr.base_lt ha (by decide)
                have a3_hb := Arr.base_lt hb (by decide)
                have o3_ho : ∀ k, Value.ownBlock _ = some k → k < b3 := fun k hk => by have := (ho.lt k hk).2; omega
                replace ha := ha.ext x8
                replace hb := hb.ext x8
                replace ho := ho.ext x8
                replace hx := hx.trans x8
                refine D_append (lx := [⟨n, [], false⟩]) (e := 27) (sz := 3) (by' := 40) rfl (by kernel_rfl) (by kernel_rfl) (by intro x; rfl) ho (m3.arr (enc := Rw.cs) (sz := 3) (l := [⟨n, [], false⟩]) rfl (by intro x; rfl) rfl (Nat.le_of_ble_eq_true rfl)) rfl rfl (by intro x _ u hu; simp at hu; rcases hu with rfl | rfl | rfl <;> rfl) (by simp at hln ⊢; omega) (by decide) hx.size (.inl rfl) (fun vm2 w9 ho_n x9 => ?_)
                try replace ha := ha.mod x9 (fun hne h => by have h1 := (ho.lt _ h).1; first | (have h2 := hqa hne; omega) | (have h2 := hqb hne; omega))
                try replace hb := hb.mod x9 (fun hne h => by have h1 := (ho.lt _ h).1; first | (have h2 := hqa hne; omega) | (have h2 := hqb hne; omega))
                try replace m3 := m3.mod x9 (by first | (intro h; have h2 : b3 = b3 := Option.some.inj h; omega) | (intro h; have h1 := (ho.lt _ h).1; omega))
                replace hx := hx.own x9 (fun i hi => (ho.lt i hi).1)
                replace ho := ho_n
                refine D_as (v := ?v40) rfl ?h40 ?k40
                case h40 => conv => lhs; whnf
                refine D_end (hK10 _ _ ?_)
                refine W_reg [.p, .p, .p] rfl ?_
                refine D_mv (v := ?v41) rfl ?h41 ?k41
                case h41 => conv => lhs; whnf
                refine D_p rfl (pv_slV (e := 9) (k := 1) (by kernel_rfl) hb.sl rfl rfl rfl (by simp) (Nat.le_refl _)) ?_
                refine D_as (v := ?v42) rfl ?h42 ?k42
                case h42 => conv => lhs; whnf
                refine D_end (?_)
                refine ⟨(o :: os, ns, va, slV 1 vb 1 (n :: ns).length, vm2, acc ++ [⟨n, [], false⟩]), ⟨rfl, rfl, rfl, rfl, trivial⟩, ⟨hx, ha, (tail_arr hb), ho, ?_, by simp at hln ⊢ <;> omega, hqa, fun _ => by rw [base_slV]; exact hqb (by simp)⟩, by simp <;> omega⟩
                rw [← hd, dif, if_neg (by rw [sLt, c4]; decide), if_pos c6]; simp
              ·
                refine W_draw (R := Ext) Ext.refl (fun _ _ _ => Ext.trans) (by kernel_rfl) [] [(0, .p, false), (1, .p, false), (2, .p, false), (3, .p, false), (4, .p, false), (5, .p, false)] rfl (by kernel_rfl) (by kernel_rfl) (fun w10 ew10 => ?_)
                have x10 : Ext w7 w10 := by rw [ew10]; exact Ext.drew _
                clear ew10
                replace ha := ha.ext x10
                replace hb := hb.ext x10
                replace ho := ho.ext x10
                replace hx := hx.trans x10
                refine D_mv (v := ?v43) rfl ?h43 ?k43
                case h43 => conv => lhs; whnf
                refine D_p rfl (pv_slV (e := 9) (k := 1) (by kernel_rfl) ha.sl rfl rfl rfl (by simp) (Nat.le_refl _)) ?_
                refine D_mv (v := ?v44) rfl ?h44 ?k44
                case h44 => conv => lhs; whnf
                refine D_p rfl (pv_slV (e := 9) (k := 1) (by kernel_rfl) hb.sl rfl rfl rfl (by simp) (Nat.le_refl _)) ?_
                refine D_as (v := ?v45) rfl ?h45 ?k45
                case h45 => conv => lhs; whnf
                refine D_as (v := ?v46) rfl ?h46 ?k46
                case h46 => conv => lhs; whnf
                refine D_end (?_)
                refine ⟨(os, ns, slV 1 va 1 (o :: os).length, slV 1 vb 1 (n :: ns).length, vm, acc ++ []), ⟨rfl, rfl, rfl, rfl, trivial⟩, ⟨hx, (tail_arr ha), (tail_arr hb), (by simpa using ho), ?_, by simp at hln ⊢ <;> omega, fun _ => by rw [base_slV]; exact hqa (by simp), fun _ => by rw [base_slV]; exact hqb (by simp)⟩, by simp <;> omega⟩
                rw [← hd, dif, if_neg (by rw [sLt, c4]; decide), if_neg (by rw [sLt, c6]; decide)]; simp
        ·
          obtain rfl := nil_of (l := os) (by omega)
          refine D_skip rfl ?_
          refine D_skip rfl ?_
          refine D_skip rfl ?_
          refine D_skip rfl ?_
          refine D_skip rfl ?_
          refine D_skip rfl ?_
          refine D_skip rfl ?_
          refine D_pe (v := ?v47) rfl (pv_pick rfl rfl rfl) ?h47 ?k47
          case h47 => conv => lhs; whnf
          refine D_pe (v := ?v48) rfl (pv_pick rfl rfl rfl) ?h48 ?k48
          case h48 => conv => lhs; whnf
          refine D_as (v := ?v49) rfl ?h49 ?k49
          case h49 => conv => lhs; whnf
          refine D_end (hK6 _ _ ?_)
          refine W_f rfl ?_
          refine W_seq fun K11 hK11 => ?_
          refine W_draw (R := Ext) Ext.refl (fun _ _ _ => Ext.trans) (by kernel_rfl) [6, 9] [(0, .p, false), (1, .p, false), (2, .p, false), (3, .p, false), (4, .p, false), (5, .p, false), (6, .l, false), (7, .p, false), (8, .p, false), (9, .l, false), (10, .p, false), (11, .p, false), (12, .p, false)] rfl (by kernel_rfl) (by kernel_rfl) (fun w11 ew11 => ?_)
          have x11 : Ext w2 w11 := by rw [ew11]; exact Ext.drew _
          clear ew11
          replace ha := ha.ext x11
          replace hb := hb.ext x11
          replace ho := ho.ext x11
          replace hx := hx.trans x11
          refine D_mv (v := ?v50) rfl ?h50 ?k50
          case h50 => conv => lhs; whnf
          refine D_p rfl (pv_lenV (e := 9) (k := 1) (by kernel_rfl) ha.sl rfl) ?_
          refine D_p rfl (pv_eql rfl rfl) ?_
          refine D_mv (v := ?v51) rfl ?h51 ?k51
          case h51 => conv => lhs; whnf
          refine D_splitP 47 rfl (fun c7 => ?_) (fun c7 => ?_)
          ·
            refine D_skip rfl ?_
            refine D_skip rfl ?_
            refine D_skip rfl ?_
            refine D_skip rfl ?_
            refine D_skip rfl ?_
            refine D_skip rfl ?_
            refine D_skip rfl ?_
            refine D_pe (v := ?v52) rfl (pv_pick rfl rfl rfl) ?h52 ?k52
            case h52 => conv => lhs; whnf
            refine D_as (v := ?v53) rfl ?h53 ?k53
            case h53 => conv => lhs; whnf
            refine D_end (hK11 _ _ ?_)
            refine W_t rfl ?_
            refine W_seq fun K12 hK12 => ?_
            refine W_reg [.p, .p, .p, .l, .p, .x, .x, .p] rfl ?_
            refine D_mv (v := ?v54) rfl ?h54 ?k54
            case h54 => conv => lhs; whnf
            refine D_mv (v := ?v55) rfl ?h55 ?k55
            case h55 => conv => lhs; whnf
            refine D_p rfl (pv_idxA (i := 0) (e := 9) (k := 1) (by kernel_rfl) hb.sl rfl rfl (hb.lt hkn)) ?_
            refine D_lq rfl (lv_load (by kernel_rfl) rfl ((hb.row hkn).at0 rfl)) ?_
            refine D_p rfl (pv_build (zs := [S [], S [], B false]) (pl := [(0, 1), (1, 1), (2, 1)]) (pv := [(0, ?a56_0)]) (cs := [?a56_0, S [], B false]) (by kernel_rfl) (by kernel_rfl) ?h56 ?f56) ?k56
            case h56 => refine ⟨rfl, ?_, trivial⟩ <;> (conv => lhs; whnf)
            case f56 => rfl
            refine D_lit (e := 27) (sz := 3) (zs := [S [], S [], B false]) (pv := [(0, .agg ⟨[?a57_0, ?a57_1, ?a57_2]⟩)]) (cs := [?a57_0, ?a57_1, ?a57_2]) rfl (by kernel_rfl) ⟨rfl, rfl⟩ (by kernel_rfl) rfl ?h57 ?f57 RX.all (fun b4 w12 e4 x12 m4 => ?k57)
            case h57 => refine ⟨rfl, ?_, trivial⟩ <;> (conv => lhs; whnf)
            case f57 => rfl
            have g4 : w.heap.size ≤ b4 := by have := hx.size; omega
            have a4_ha := Arr.base_lt ha (by decide)
            have a4_hb := Arr.base_lt hb (by decide)
            have o4_ho : ∀ k, Value.ownBlock _ = some k → k < b4 := fun k hk => by have := (ho.lt k hk).2; omega
            replace ha := ha.ext x12
            replace hb := hb.ext x12
            replace ho := ho.ext x12
            replace hx := hx.trans x12
            refine D_append (lx := [⟨n, [], false⟩]) (e := 27) (sz := 3) (by' := 40) rfl (by kernel_rfl) (by kernel_rfl) (by intro x; rfl) ho (m4.arr (enc := Rw.cs) (sz := 3) (l := [⟨n, [], false⟩]) rfl (by intro x; rfl) rfl (Nat.le_of_ble_eq_true rfl)) rfl rfl (by intro x _ u hu; simp at hu; rcases hu with rfl | rfl | rfl <;> rfl) (by simp at hln ⊢; omega) (by decide) hx.size (.inl rfl) (fun vm2 w13 ho_n x13 => ?_)
            try replace ha := ha.mod x13 (fun hne h => by have h1 := (ho.lt _ h).1; first | (have h2 := hqa hne; omega) | (have h2 := hqb hne; omega))
            try replace hb := hb.mod x13 (fun hne h => by have h1 := (ho.lt _ h).1; first | (have h2 := hqa hne; omega) | (have h2 := hqb hne; omega))
            try replace m4 := m4.mod x13 (by first | (intro h; have h2 : b4 = b4 := Option.some.inj h; omega) | (intro h; have h1 := (ho.lt _ h).1; omega))
            replace hx := hx.own x13 (fun i hi => (ho.lt i hi).1)
            replace ho := ho_n
            refine D_as (v := ?v58) rfl ?h58 ?k58
            case h58 => conv => lhs; whnf
            refine D_end (hK12 _ _ ?_)
            refine W_reg [.p, .p, .p] rfl ?_
            refine D_mv (v := ?v59) rfl ?h59 ?k59
            case h59 => conv => lhs; whnf
            refine D_p rfl (pv_slV (e := 9) (k := 1) (by kernel_rfl) hb.sl rfl rfl rfl (by simp) (Nat.le_refl _)) ?_
            refine D_as (v := ?v60) rfl ?h60 ?k60
            case h60 => conv => lhs; whnf
            refine D_end (?_)
            refine ⟨([], ns, va, slV 1 vb 1 (n :: ns).length, vm2, acc ++ [⟨n, [], false⟩]), ⟨rfl, rfl, rfl, rfl, trivial⟩, ⟨hx, ha, (tail_arr hb), ho, ?_, by simp at hln ⊢ <;> omega, hqa, fun _ => by rw [base_slV]; exact hqb (by simp)⟩, by simp <;> omega⟩
            rw [← hd]; simp [dif]
          ·
            exact absurd rfl c7
    ·
      refine W_exit ?_
      refine hK3 _ _ ?_
      refine W_seq fun K13 hK13 => ?_
      refine W_reg [.p, .p] rfl ?_
      refine D_mv (v := ?v61) rfl ?h61 ?k61
      case h61 => conv => lhs; whnf
      refine D_as (v := ?v62) rfl ?h62 ?k62
      case h62 => conv => lhs; whnf
      refine D_end (hK13 _ _ ?_)
      refine W_ret ?_
      try dsimp only [then', inBlk, noGo]
      refine ret_one (v := ?v63) rfl rfl ?h63 ?k63
      case h63 => conv => lhs; whnf
      have h1 : os.length = 0 := by omega
      have h2 : ns.length = 0 := by omega
      obtain rfl : os = [] := List.eq_nil_of_length_eq_zero h1
      obtain rfl : ns = [] := List.eq_nil_of_length_eq_zero h2
      refine ⟨_, rfl, hx, ?_⟩
      rw [← hd]; simpa [dif] using ho

set_option maxRecDepth 100000 in
set_option maxHeartbeats 1000000 in
theorem rdiff_w (l m : List Str) (v u : Value) (w : World) (hv : Arr sEnc 1 w v l) (hu : Arr sEnc 1 w u m) (hl : l.length ≤ 1000000) (hm : m.length ≤ 1000000) :
    Calls Try.prog 6 [v, u].toArray w (Gives w (fun v' w' => Own Rw.cs 3 27 w.heap.size w' v' (dif l m))) := by
  refine calls_W Try.func6 rfl rfl rfl (by kernel_rfl) ?_
  have hx := Ext.refl w
  refine W_seq fun K1 hK1 => ?_
  refine W_reg [.p] rfl ?_
  refine D_as (v := ?v1) rfl ?h1 ?k1
  case h1 => conv => lhs; whnf
  refine D_end (hK1 _ _ ?_)
  refine W_seq fun K2 hK2 => ?_
  refine W_reg [.p] rfl ?_
  refine D_as (v := ?v2) rfl ?h2 ?k2
  case h2 => conv => lhs; whnf
  refine D_end (hK2 _ _ ?_)
  refine W_seq fun K3 hK3 => ?_
  refine W_reg [.p, .p] rfl ?_
  refine D_as (v := ?v3) rfl ?h3 ?k3
  case h3 => conv => lhs; whnf
  refine D_as (v := ?v4) rfl ?h4 ?k4
  case h4 => conv => lhs; whnf
  refine D_end (hK3 _ _ ?_)
  refine W_seq fun K4 hK4 => ?_
  refine W_block ?_
  refine W_loop (G := Nat × Nat × Value × List Rw) (fun (i, k, vm, acc) => [(0, v), (1, u), (4, .slice none 0 0), (5, vm), (6, I ↑i), (7, I ↑k)]) (fun (i, k, vm, acc) w' => Ext w w' ∧ Own Rw.cs 3 27 w.heap.size w' vm acc ∧ acc ++ dif (l.drop i) (m.drop k) = dif l m ∧ acc.length ≤ i + k ∧ i ≤ l.length ∧ k ≤ m.length) (fun (i, k, vm, acc) => l.length - i + (m.length - k)) (0, 0, .slice none 0 0, []) ?_ ?_ ?_
  · exact ⟨rfl, rfl, rfl, rfl, rfl, rfl, trivial⟩
  · exact ⟨hx, Own.nil, rfl, Nat.zero_le _, Nat.zero_le _, Nat.zero_le _⟩
  · intro X1 g1 w1 hF1
    obtain ⟨i, k, vm, acc⟩ := g1
    clear hx 
    obtain ⟨hx, ho, hd, hln, hi, hk⟩ := hF1
    refine W_cut (G := Unit) (fun uu => [(0, v), (1, u), (4, .slice none 0 0), (5, vm), (6, I ↑i), (7, I ↑k)]) (fun uu w' => Ext w w' ∧ Own Rw.cs 3 27 w.heap.size w' vm acc ∧ (i < l.length ∨ k < m.length)) ?_ ?_
    ·
      refine W_seq fun K5 hK5 => ?_
      refine W_reg [.p, .p, .p, .p, .p, .p, .p, .p, .p, .p] rfl ?_
      refine D_mv (v := ?v5) rfl ?h5 ?k5
      case h5 => conv => lhs; whnf
      refine D_mv (v := ?v6) rfl ?h6 ?k6
      case h6 => conv => lhs; whnf
      refine D_p rfl (pv_lenV (e := 9) (k := 1) (by kernel_rfl) hv.sl rfl) ?_
      refine D_p rfl (pv_lss rfl rfl) ?_
      refine D_mv (v := ?v7) rfl ?h7 ?k7
      case h7 => conv => lhs; whnf
      refine D_splitP 12 rfl (fun c1 => ?_) (fun c1 => ?_)
      ·
        refine D_skip rfl ?_
        refine D_skip rfl ?_
        refine D_skip rfl ?_
        refine D_skip rfl ?_
        refine D_pe (v := ?v8) rfl (pv_pick rfl rfl rfl) ?h8 ?k8
        case h8 => conv => lhs; whnf
        refine D_end (hK5 _ _ ?_)
        refine W_t rfl ?_
        refine W_skip ?_
        exact ⟨(), ⟨rfl, rfl, rfl, rfl, rfl, rfl, trivial⟩, hx, ho, by omega⟩
      ·
        refine D_mv (v := ?v9) rfl ?h9 ?k9
        case h9 => conv => lhs; whnf
        refine D_mv (v := ?v10) rfl ?h10 ?k10
        case h10 => conv => lhs; whnf
        refine D_p rfl (pv_lenV (e := 9) (k := 1) (by kernel_rfl) hu.sl rfl) ?_
        refine D_p rfl (pv_lss rfl rfl) ?_
        refine D_pe (v := ?v11) rfl (pv_pick rfl rfl rfl) ?h11 ?k11
        case h11 => conv => lhs; whnf
        refine D_end (hK5 _ _ ?_)
        refine W_if rfl (fun c2 => ?_) (fun c2 => ?_)
        ·
          refine W_skip ?_
          exact ⟨(), ⟨rfl, rfl, rfl, rfl, rfl, rfl, trivial⟩, hx, ho, by omega⟩
        ·
          refine W_exit ?_
          refine hK4 _ _ ?_
          refine W_seq fun K6 hK6 => ?_
          refine W_reg [.p, .p] rfl ?_
          refine D_mv (v := ?v12) rfl ?h12 ?k12
          case h12 => conv => lhs; whnf
          refine D_as (v := ?v13) rfl ?h13 ?k13
          case h13 => conv => lhs; whnf
          refine D_end (hK6 _ _ ?_)
          refine W_ret ?_
          try dsimp only [then', inBlk, noGo]
          refine ret_one (v := ?v14) rfl rfl ?h14 ?k14
          case h14 => conv => lhs; whnf
          refine ⟨_, rfl, hx, ?_⟩
          rw [List.drop_eq_nil_of_le (show l.length ≤ i by omega), List.drop_eq_nil_of_le (show m.length ≤ k by omega)] at hd
          rw [← hd]; simpa [dif] using ho
    · intro X2 g2 w2 hF2
      revert hF2; revert g2; intro uu hF2
      clear hx ho
      obtain ⟨hx, ho, hor⟩ := hF2
      refine W_block ?_
      refine W_block ?_
      refine W_seq fun K7 hK7 => ?_
      refine W_draw (R := Ext) Ext.refl (fun _ _ _ => Ext.trans) (by kernel_rfl) [13, 17] [(0, .p, false), (1, .p, false), (2, .p, false), (3, .p, false), (4, .p, false), (5, .p, false), (6, .p, false), (7, .p, false), (8, .p, false), (9, .p, false), (10, .p, false), (11, .p, false), (12, .p, false), (13, .l, false), (14, .p, false), (15, .p, false), (16, .p, false), (17, .l, false), (18, .p, false), (19, .p, false), (20, .p, false), (21, .p, false)] rfl (by kernel_rfl) (by kernel_rfl) (fun w3 ew3 => ?_)
      have x3 : Ext w2 w3 := by rw [ew3]; exact Ext.drew _
      clear ew3
      replace ho := ho.ext x3
      replace hx := hx.trans x3
      refine D_mv (v := ?v15) rfl ?h15 ?k15
      case h15 => conv => lhs; whnf
      refine D_mv (v := ?v16) rfl ?h16 ?k16
      case h16 => conv => lhs; whnf
      refine D_p rfl (pv_lenV (e := 9) (k := 1) (by kernel_rfl) hu.sl rfl) ?_
      refine D_p rfl (pv_eql rfl rfl) ?_
      refine D_mv (v := ?v17) rfl ?h17 ?k17
      case h17 => conv => lhs; whnf
      refine D_splitP 27 rfl (fun c3 => ?_) (fun c3 => ?_)
      ·
        obtain ⟨o, hki⟩ : ∃ o, l[i]? = some o := ⟨_, List.getElem?_eq_getElem (by omega)⟩
        refine D_skip rfl ?_
        refine D_skip rfl ?_
        refine D_skip rfl ?_
        refine D_skip rfl ?_
        refine D_skip rfl ?_
        refine D_skip rfl ?_
        refine D_skip rfl ?_
        refine D_skip rfl ?_
        refine D_skip rfl ?_
        refine D_skip rfl ?_
        refine D_skip rfl ?_
        refine D_skip rfl ?_
        refine D_skip rfl ?_
        refine D_skip rfl ?_
        refine D_skip rfl ?_
        refine D_pe (v := ?v18) rfl (pv_pick rfl rfl rfl) ?h18 ?k18
        case h18 => conv => lhs; whnf
        refine D_as (v := ?v19) rfl ?h19 ?k19
        case h19 => conv => lhs; whnf
        refine D_end (hK7 _ _ ?_)
        refine W_t rfl ?_
        refine W_seq fun K8 hK8 => ?_
        refine W_reg [.p, .p, .p, .p, .l, .p, .x, .x, .p] rfl ?_
        refine D_mv (v := ?v20) rfl ?h20 ?k20
        case h20 => conv => lhs; whnf
        refine D_mv (v := ?v21) rfl ?h21 ?k21
        case h21 => conv => lhs; whnf
        refine D_mv (v := ?v22) rfl ?h22 ?k22
        case h22 => conv => lhs; whnf
        refine D_p rfl (pv_idxA (e := 9) (k := 1) (by kernel_rfl) hv.sl rfl rfl (hv.lt hki)) ?_
        refine D_lq rfl (lv_load (by kernel_rfl) rfl (((hv.ext hx).row hki).at0 rfl)) ?_
        refine D_p rfl (pv_build (zs := [S [], S [], B false]) (pl := [(0, 1), (1, 1), (2, 1)]) (pv := [(0, ?a23_0), (2, ?a23_1)]) (cs := [?a23_0, S [], ?a23_1]) (by kernel_rfl) (by kernel_rfl) ?h23 ?f23) ?k23
        case h23 => refine ⟨rfl, ?_, rfl, ?_, trivial⟩ <;> (conv => lhs; whnf)
        case f23 => rfl
        refine D_lit (e := 27) (sz := 3) (zs := [S [], S [], B false]) (pv := [(0, .agg ⟨[?a24_0, ?a24_1, ?a24_2]⟩)]) (cs := [?a24_0, ?a24_1, ?a24_2]) rfl (by kernel_rfl) ⟨rfl, rfl⟩ (by kernel_rfl) rfl ?h24 ?f24 RX.all (fun b1 w4 e1 x4 m1 => ?k24)
        case h24 => refine ⟨rfl, ?_, trivial⟩ <;> (conv => lhs; whnf)
        case f24 => rfl
        have g1 : w.heap.size ≤ b1 := by have := hx.size; omega
        have o1_ho : ∀ k, Value.ownBlock _ = some k → k < b1 := fun k hk => by have := (ho.lt k hk).2; omega
        replace ho := ho.ext x4
        replace hx := hx.trans x4
        refine D_append (lx := [⟨o, [], true⟩]) (e := 27) (sz := 3) (by' := 40) rfl (by kernel_rfl) (by kernel_rfl) (by intro x; rfl) ho (m1.arr (enc := Rw.cs) (sz := 3) (l := [⟨o, [], true⟩]) rfl (by intro x; rfl) rfl (Nat.le_of_ble_eq_true rfl)) rfl rfl (by intro x _ u hu; simp at hu; rcases hu with rfl | rfl | rfl <;> rfl) (by simp; omega) (by decide) hx.size (.inl rfl) (fun vm2 w5 ho_n x5 => ?_)
        try replace m1 := m1.mod x5 (by first | (intro h; have h2 : b1 = b1 := Option.some.inj h; omega) | (intro h; have h1 := (ho.lt _ h).1; omega))
        replace hx := hx.own x5 (fun i hi => (ho.lt i hi).1)
        replace ho := ho_n
        refine D_as (v := ?v25) rfl ?h25 ?k25
        case h25 => conv => lhs; whnf
        refine D_end (hK8 _ _ ?_)
        refine W_reg [.p, .p, .p] rfl ?_
        refine D_mv (v := ?v26) rfl ?h26 ?k26
        case h26 => conv => lhs; whnf
        refine D_p rfl (pv_add rfl rfl (by unfold inI64; omega)) ?_
        refine D_as (v := ?v27) rfl ?h27 ?k27
        case h27 => conv => lhs; whnf
        refine D_end (?_)
        refine ⟨(i + 1, k, vm2, acc ++ [⟨o, [], true⟩]), ⟨rfl, rfl, rfl, rfl, rfl, rfl, trivial⟩, ⟨hx, ho, ?_, by simp <;> omega, by omega, by omega⟩, by simp only []; omega⟩
        rw [← hd]
        rw [drop_cons' hki]; rw [List.drop_eq_nil_of_le (show m.length ≤ k by omega)]; simp [dif]
      ·
        obtain ⟨n, hkk⟩ : ∃ n, m[k]? = some n := ⟨_, List.getElem?_eq_getElem (by omega)⟩
        refine D_mv (v := ?v28) rfl ?h28 ?k28
        case h28 => conv => lhs; whnf
        refine D_mv (v := ?v29) rfl ?h29 ?k29
        case h29 => conv => lhs; whnf
        refine D_p rfl (pv_lenV (e := 9) (k := 1) (by kernel_rfl) hv.sl rfl) ?_
        refine D_p rfl (pv_lss rfl rfl) ?_
        refine D_mv (v := ?v30) rfl ?h30 ?k30
        case h30 => conv => lhs; whnf
        refine D_splitP 32 rfl (fun c4 => ?_) (fun c4 => ?_)
        ·
          obtain ⟨o, hki⟩ : ∃ o, l[i]? = some o := ⟨_, List.getElem?_eq_getElem (by omega)⟩
          refine D_mv (v := ?v31) rfl ?h31 ?k31
          case h31 => conv => lhs; whnf
          refine D_mv (v := ?v32) rfl ?h32 ?k32
          case h32 => conv => lhs; whnf
          refine D_p rfl (pv_idxA (e := 9) (k := 1) (by kernel_rfl) hv.sl rfl rfl (hv.lt hki)) ?_
          refine D_l rfl (fun w' hR => lv_load (by kernel_rfl) rfl (((hv.ext (hx.trans hR)).row hki).at0 rfl)) ?_
          refine D_mv (v := ?v33) rfl ?h33 ?k33
          case h33 => conv => lhs; whnf
          refine D_mv (v := ?v34) rfl ?h34 ?k34
          case h34 => conv => lhs; whnf
          refine D_p rfl (pv_idxA (e := 9) (k := 1) (by kernel_rfl) hu.sl rfl rfl (hu.lt hkk)) ?_
          refine D_l rfl (fun w' hR => lv_load (by kernel_rfl) rfl (((hu.ext (hx.trans hR)).row hkk).at0 rfl)) ?_
          refine D_p rfl (pv_slt rfl rfl) ?_
          refine D_pe (v := ?v35) rfl (pv_pick rfl rfl rfl) ?h35 ?k35
          case h35 => conv => lhs; whnf
          refine D_pe (v := ?v36) rfl (pv_pick rfl rfl rfl) ?h36 ?k36
          case h36 => conv => lhs; whnf
          refine D_as (v := ?v37) rfl ?h37 ?k37
          case h37 => conv => lhs; whnf
          refine D_end (hK7 _ _ ?_)
          refine W_cond rfl (fun c5 => ?_) (fun c5 => ?_)
          ·
            refine W_seq fun K9 hK9 => ?_
            refine W_reg [.p, .p, .p, .p, .l, .p, .x, .x, .p] rfl ?_
            refine D_mv (v := ?v38) rfl ?h38 ?k38
            case h38 => conv => lhs; whnf
            refine D_mv (v := ?v39) rfl ?h39 ?k39
            case h39 => conv => lhs; whnf
            refine D_mv (v := ?v40) rfl ?h40 ?k40
            case h40 => conv => lhs; whnf
            refine D_p rfl (pv_idxA (e := 9) (k := 1) (by kernel_rfl) hv.sl rfl rfl (hv.lt hki)) ?_
            refine D_lq rfl (lv_load (by kernel_rfl) rfl (((hv.ext hx).row hki).at0 rfl)) ?_
            refine D_p rfl (pv_build (zs := [S [], S [], B false]) (pl := [(0, 1), (1, 1), (2, 1)]) (pv := [(0, ?a41_0), (2, ?a41_1)]) (cs := [?a41_0, S [], ?a41_1]) (by kernel_rfl) (by kernel_rfl) ?h41 ?f41) ?k41
            case h41 => refine ⟨rfl, ?_, rfl, ?_, trivial⟩ <;> (conv => lhs; whnf)
            case f41 => rfl
            refine D_lit (e := 27) (sz := 3) (zs := [S [], S [], B false]) (pv := [(0, .agg ⟨[?a42_0, ?a42_1, ?a42_2]⟩)]) (cs := [?a42_0, ?a42_1, ?a42_2]) rfl (by kernel_rfl) ⟨rfl, rfl⟩ (by kernel_rfl) rfl ?h42 ?f42 RX.all (fun b2 w6 e2 x6 m2 => ?k42)
            case h42 => refine ⟨rfl, ?_, trivial⟩ <;> (conv => lhs; whnf)
            case f42 => rfl
            have g2 : w.heap.size ≤ b2 := by have := hx.size; omega
            have o2_ho : ∀ k, Value.ownBlock _ = some k → k < b2 := fun k hk => by have := (ho.lt k hk).2; omega
            replace ho := ho.ext x6
            replace hx := hx.trans x6
            refine D_append (lx := [⟨o, [], true⟩]) (e := 27) (sz := 3) (by' := 40) rfl (by kernel_rfl) (by kernel_rfl) (by intro x; rfl) ho (m2.arr (enc := Rw.cs) (sz := 3) (l := [⟨o, [], true⟩]) rfl (by intro x; rfl) rfl (Nat.le_of_ble_eq_true rfl)) rfl rfl (by intro x _ u hu; simp at hu; rcases hu with rfl | rfl | rfl <;> rfl) (by simp; omega) (by decide) hx.size (.inl rfl) (fun vm2 w7 ho_n x7 => ?_)
            try replace m2 := m2.mod x7 (by first | (intro h; have h2 : b2 = b2 := Option.some.inj h; omega) | (intro h; have h1 := (ho.lt _ h).1; omega))
            replace hx := hx.own x7 (fun i hi => (ho.lt i hi).1)
            replace ho := ho_n
            refine D_as (v := ?v43) rfl ?h43 ?k43
            case h43 => conv => lhs; whnf
            refine D_end (hK9 _ _ ?_)
            refine W_reg [.p, .p, .p] rfl ?_
            refine D_mv (v := ?v44) rfl ?h44 ?k44
            case h44 => conv => lhs; whnf
            refine D_p rfl (pv_add rfl rfl (by unfold inI64; omega)) ?_
            refine D_as (v := ?v45) rfl ?h45 ?k45
            case h45 => conv => lhs; whnf
            refine D_end (?_)
            refine ⟨(i + 1, k, vm2, acc ++ [⟨o, [], true⟩]), ⟨rfl, rfl, rfl, rfl, rfl, rfl, trivial⟩, ⟨hx, ho, ?_, by simp <;> omega, by omega, by omega⟩, by simp only []; omega⟩
            rw [← hd]
            rw [drop_cons' hki];rw [drop_cons' hkk]; rw [dif, if_pos c5]; simp
          ·
            refine W_seq fun K10 hK10 => ?_
            refine W_draw (R := Ext) Ext.refl (fun _ _ _ => Ext.trans) (by kernel_rfl) [8, 12] [(0, .p, false), (1, .p, false), (2, .p, false), (3, .p, false), (4, .p, false), (5, .p, false), (6, .p, false), (7, .p, false), (8, .l, false), (9, .p, false), (10, .p, false), (11, .p, false), (12, .l, false), (13, .p, false), (14, .p, false), (15, .p, false)] rfl (by kernel_rfl) (by kernel_rfl) (fun w8 ew8 => ?_)
            have x8 : Ext w3 w8 := by rw [ew8]; exact Ext.drew _
            clear ew8
            replace ho := ho.ext x8
            replace hx := hx.trans x8
            refine D_mv (v := ?v46) rfl ?h46 ?k46
            case h46 => conv => lhs; whnf
            refine D_mv (v := ?v47) rfl ?h47 ?k47
            case h47 => conv => lhs; whnf
            refine D_p rfl (pv_lenV (e := 9) (k := 1) (by kernel_rfl) hv.sl rfl) ?_
            refine D_p rfl (pv_eql rfl rfl) ?_
            refine D_mv (v := ?v48) rfl ?h48 ?k48
            case h48 => conv => lhs; whnf
            refine D_splitP 59 rfl (fun c6 => ?_) (fun c6 => ?_)
            ·
              omega
            ·
              refine D_mv (v := ?v49) rfl ?h49 ?k49
              case h49 => conv => lhs; whnf
              refine D_mv (v := ?v50) rfl ?h50 ?k50
              case h50 => conv => lhs; whnf
              refine D_p rfl (pv_idxA (e := 9) (k := 1) (by kernel_rfl) hu.sl rfl rfl (hu.lt hkk)) ?_
              refine D_l rfl (fun w' hR => lv_load (by kernel_rfl) rfl (((hu.ext (hx.trans hR)).row hkk).at0 rfl)) ?_
              refine D_mv (v := ?v51) rfl ?h51 ?k51
              case h51 => conv => lhs; whnf
              refine D_mv (v := ?v52) rfl ?h52 ?k52
              case h52 => conv => lhs; whnf
              refine D_p rfl (pv_idxA (e := 9) (k := 1) (by kernel_rfl) hv.sl rfl rfl (hv.lt hki)) ?_
              refine D_l rfl (fun w' hR => lv_load (by kernel_rfl) rfl (((hv.ext (hx.trans hR)).row hki).at0 rfl)) ?_
              refine D_p rfl (pv_slt rfl rfl) ?_
              refine D_pe (v := ?v53) rfl (pv_pick rfl rfl rfl) ?h53 ?k53
              case h53 => conv => lhs; whnf
              refine D_as (v := ?v54) rfl ?h54 ?k54
              case h54 => conv => lhs; whnf
              refine D_end (hK10 _ _ ?_)
              refine W_cond rfl (fun c7 => ?_) (fun c7 => ?_)
              ·
                refine W_seq fun K11 hK11 => ?_
                refine W_reg [.p, .p, .p, .p, .l, .p, .x, .x, .p] rfl ?_
                refine D_mv (v := ?v55) rfl ?h55 ?k55
                case h55 => conv => lhs; whnf
                refine D_mv (v := ?v56) rfl ?h56 ?k56
                case h56 => conv => lhs; whnf
                refine D_mv (v := ?v57) rfl ?h57 ?k57
                case h57 => conv => lhs; whnf
                refine D_p rfl (pv_idxA (e := 9) (k := 1) (by kernel_rfl) hu.sl rfl rfl (hu.lt hkk)) ?_
                refine D_lq rfl (lv_load (by kernel_rfl) rfl (((hu.ext hx).row hkk).at0 rfl)) ?_
                refine D_p rfl (pv_build (zs := [S [], S [], B false]) (pl := [(0, 1), (1, 1), (2, 1)]) (pv := [(0, ?a58_0)]) (cs := [?a58_0, S [], B false]) (by kernel_rfl) (by kernel_rfl) ?h58 ?f58) ?k58
                case h58 => refine ⟨rfl, ?_, trivial⟩ <;> (conv => lhs; whnf)
                case f58 => rfl
                refine D_lit (e := 27) (sz := 3) (zs := [S [], S [], B false]) (pv := [(0, .agg ⟨[?a59_0, ?a59_1, ?a59_2]⟩)]) (cs := [?a59_0, ?a59_1, ?a59_2]) rfl (by kernel_rfl) ⟨rfl, rfl⟩ (by kernel_rfl) rfl ?h59 ?f59 RX.all (fun b3 w9 e3 x9 m3 => ?k59)
                case h59 => refine ⟨rfl, ?_, trivial⟩ <;> (conv => lhs; whnf)
                case f59 => rfl
                have g3 : w.heap.size ≤ b3 := by have := hx.size; omega
                have o3_ho : ∀ k, Value.ownBlock _ = some k → k < b3 := fun k hk => by have := (ho.lt k hk).2; omega
                replace ho := ho.ext x9
                replace hx := hx.trans x9
                refine D_append (lx := [⟨n, [], false⟩]) (e := 27) (sz := 3) (by' := 40) rfl (by kernel_rfl) (by kernel_rfl) (by intro x; rfl) ho (m3.arr (enc := Rw.cs) (sz := 3) (l := [⟨n, [], false⟩]) rfl (by intro x; rfl) rfl (Nat.le_of_ble_eq_true rfl)) rfl rfl (by intro x _ u hu; simp at hu; rcases hu with rfl | rfl | rfl <;> rfl) (by simp; omega) (by decide) hx.size (.inl rfl) (fun vm2 w10 ho_n x10 => ?_)
                try replace m3 := m3.mod x10 (by first | (intro h; have h2 : b3 = b3 := Option.some.inj h; omega) | (intro h; have h1 := (ho.lt _ h).1; omega))
                replace hx := hx.own x10 (fun i hi => (ho.lt i hi).1)
                replace ho := ho_n
                refine D_as (v := ?v60) rfl ?h60 ?k60
                case h60 => conv => lhs; whnf
                refine D_end (hK11 _ _ ?_)
                refine W_reg [.p, .p, .p] rfl ?_
                refine D_mv (v := ?v61) rfl ?h61 ?k61
                case h61 => conv => lhs; whnf
                refine D_p rfl (pv_add rfl rfl (by unfold inI64; omega)) ?_
                refine D_as (v := ?v62) rfl ?h62 ?k62
                case h62 => conv => lhs; whnf
                refine D_end (?_)
                refine ⟨(i, k + 1, vm2, acc ++ [⟨n, [], false⟩]), ⟨rfl, rfl, rfl, rfl, rfl, rfl, trivial⟩, ⟨hx, ho, ?_, by simp <;> omega, by omega, by omega⟩, by simp only []; omega⟩
                rw [← hd]
                rw [drop_cons' hki];rw [drop_cons' hkk]; rw [dif, if_neg (by rw [sLt, c5]; decide), if_pos c7]; simp
              ·
                refine W_seq fun K12 hK12 => ?_
                refine W_reg [.p, .p, .p] rfl ?_
                refine D_mv (v := ?v63) rfl ?h63 ?k63
                case h63 => conv => lhs; whnf
                refine D_p rfl (pv_add rfl rfl (by unfold inI64; omega)) ?_
                refine D_as (v := ?v64) rfl ?h64 ?k64
                case h64 => conv => lhs; whnf
                refine D_end (hK12 _ _ ?_)
                refine W_reg [.p, .p, .p] rfl ?_
                refine D_mv (v := ?v65) rfl ?h65 ?k65
                case h65 => conv => lhs; whnf
                refine D_p rfl (pv_add rfl rfl (by unfold inI64; omega)) ?_
                refine D_as (v := ?v66) rfl ?h66 ?k66
                case h66 => conv => lhs; whnf
                refine D_end (?_)
                refine ⟨(i + 1, k + 1, vm, acc ++ []), ⟨rfl, rfl, rfl, rfl, rfl, rfl, trivial⟩, ⟨hx, (by simpa using ho), ?_, by simp <;> omega, by omega, by omega⟩, by simp only []; omega⟩
                rw [← hd]
                rw [drop_cons' hki];rw [drop_cons' hkk]; rw [dif, if_neg (by rw [sLt, c5]; decide), if_neg (by rw [sLt, c7]; decide)]; simp
        ·
          refine D_skip rfl ?_
          refine D_skip rfl ?_
          refine D_skip rfl ?_
          refine D_skip rfl ?_
          refine D_skip rfl ?_
          refine D_skip rfl ?_
          refine D_skip rfl ?_
          refine D_skip rfl ?_
          refine D_skip rfl ?_
          refine D_pe (v := ?v67) rfl (pv_pick rfl rfl rfl) ?h67 ?k67
          case h67 => conv => lhs; whnf
          refine D_pe (v := ?v68) rfl (pv_pick rfl rfl rfl) ?h68 ?k68
          case h68 => conv => lhs; whnf
          refine D_as (v := ?v69) rfl ?h69 ?k69
          case h69 => conv => lhs; whnf
          refine D_end (hK7 _ _ ?_)
          refine W_f rfl ?_
          refine W_seq fun K13 hK13 => ?_
          refine W_draw (R := Ext) Ext.refl (fun _ _ _ => Ext.trans) (by kernel_rfl) [8, 12] [(0, .p, false), (1, .p, false), (2, .p, false), (3, .p, false), (4, .p, false), (5, .p, false), (6, .p, false), (7, .p, false), (8, .l, false), (9, .p, false), (10, .p, false), (11, .p, false), (12, .l, false), (13, .p, false), (14, .p, false), (15, .p, false)] rfl (by kernel_rfl) (by kernel_rfl) (fun w11 ew11 => ?_)
          have x11 : Ext w3 w11 := by rw [ew11]; exact Ext.drew _
          clear ew11
          replace ho := ho.ext x11
          replace hx := hx.trans x11
          refine D_mv (v := ?v70) rfl ?h70 ?k70
          case h70 => conv => lhs; whnf
          refine D_mv (v := ?v71) rfl ?h71 ?k71
          case h71 => conv => lhs; whnf
          refine D_p rfl (pv_lenV (e := 9) (k := 1) (by kernel_rfl) hv.sl rfl) ?_
          refine D_p rfl (pv_eql rfl rfl) ?_
          refine D_mv (v := ?v72) rfl ?h72 ?k72
          case h72 => conv => lhs; whnf
          refine D_splitP 59 rfl (fun c8 => ?_) (fun c8 => ?_)
          ·
            refine D_skip rfl ?_
            refine D_skip rfl ?_
            refine D_skip rfl ?_
            refine D_skip rfl ?_
            refine D_skip rfl ?_
            refine D_skip rfl ?_
            refine D_skip rfl ?_
            refine D_skip rfl ?_
            refine D_skip rfl ?_
            refine D_pe (v := ?v73) rfl (pv_pick rfl rfl rfl) ?h73 ?k73
            case h73 => conv => lhs; whnf
            refine D_as (v := ?v74) rfl ?h74 ?k74
            case h74 => conv => lhs; whnf
            refine D_end (hK13 _ _ ?_)
            refine W_t rfl ?_
            refine W_seq fun K14 hK14 => ?_
            refine W_reg [.p, .p, .p, .p, .l, .p, .x, .x, .p] rfl ?_
            refine D_mv (v := ?v75) rfl ?h75 ?k75
            case h75 => conv => lhs; whnf
            refine D_mv (v := ?v76) rfl ?h76 ?k76
            case h76 => conv => lhs; whnf
            refine D_mv (v := ?v77) rfl ?h77 ?k77
            case h77 => conv => lhs; whnf
            refine D_p rfl (pv_idxA (e := 9) (k := 1) (by kernel_rfl) hu.sl rfl rfl (hu.lt hkk)) ?_
            refine D_lq rfl (lv_load (by kernel_rfl) rfl (((hu.ext hx).row hkk).at0 rfl)) ?_
            refine D_p rfl (pv_build (zs := [S [], S [], B false]) (pl := [(0, 1), (1, 1), (2, 1)]) (pv := [(0, ?a78_0)]) (cs := [?a78_0, S [], B false]) (by kernel_rfl) (by kernel_rfl) ?h78 ?f78) ?k78
            case h78 => refine ⟨rfl, ?_, trivial⟩ <;> (conv => lhs; whnf)
            case f78 => rfl
            refine D_lit (e := 27) (sz := 3) (zs := [S [], S [], B false]) (pv := [(0, .agg ⟨[?a79_0, ?a79_1, ?a79_2]⟩)]) (cs := [?a79_0, ?a79_1, ?a79_2]) rfl (by kernel_rfl) ⟨rfl, rfl⟩ (by kernel_rfl) rfl ?h79 ?f79 RX.all (fun b4 w12 e4 x12 m4 => ?k79)
            case h79 => refine ⟨rfl, ?_, trivial⟩ <;> (conv => lhs; whnf)
            case f79 => rfl
            have g4 : w.heap.size ≤ b4 := by have := hx.size; omega
            have o4_ho : ∀ k, Value.ownBlock _ = some k → k < b4 := fun k hk => by have := (ho.lt k hk).2; omega
            replace ho := ho.ext x12
            replace hx := hx.trans x12
            refine D_append (lx := [⟨n, [], false⟩]) (e := 27) (sz := 3) (by' := 40) rfl (by kernel_rfl) (by kernel_rfl) (by intro x; rfl) ho (m4.arr (enc := Rw.cs) (sz := 3) (l := [⟨n, [], false⟩]) rfl (by intro x; rfl) rfl (Nat.le_of_ble_eq_true rfl)) rfl rfl (by intro x _ u hu; simp at hu; rcases hu with rfl | rfl | rfl <;> rfl) (by simp; omega) (by decide) hx.size (.inl rfl) (fun vm2 w13 ho_n x13 => ?_)
            try replace m4 := m4.mod x13 (by first | (intro h; have h2 : b4 = b4 := Option.some.inj h; omega) | (intro h; have h1 := (ho.lt _ h).1; omega))
            replace hx := hx.own x13 (fun i hi => (ho.lt i hi).1)
            replace ho := ho_n
            refine D_as (v := ?v80) rfl ?h80 ?k80
            case h80 => conv => lhs; whnf
            refine D_end (hK14 _ _ ?_)
            refine W_reg [.p, .p, .p] rfl ?_
            refine D_mv (v := ?v81) rfl ?h81 ?k81
            case h81 => conv => lhs; whnf
            refine D_p rfl (pv_add rfl rfl (by unfold inI64; omega)) ?_
            refine D_as (v := ?v82) rfl ?h82 ?k82
            case h82 => conv => lhs; whnf
            refine D_end (?_)
            refine ⟨(i, k + 1, vm2, acc ++ [⟨n, [], false⟩]), ⟨rfl, rfl, rfl, rfl, rfl, rfl, trivial⟩, ⟨hx, ho, ?_, by simp <;> omega, by omega, by omega⟩, by simp only []; omega⟩
            rw [← hd]
            rw [drop_cons' hkk]; rw [List.drop_eq_nil_of_le (show l.length ≤ i by omega)]; simp [dif]
          ·
            omega

end Go.Proofs.Ytcjjjmhhpejdoaa
