/-
  Walks.
-/
import Derived.Test.YtcjjjmhhpejdoaaChecked
import Derived.Test.YtcjjjmhhpejdoaaSpMem
import Derived.KernelRfl
import Derived.Test.YtcjjjmhhpejdoaaIdxC
namespace Go.Proofs.Ytcjjjmhhpejdoaa
open Go.Vc Go.Sp
attribute [local irreducible] W XW Dw DwT
set_option linter.unusedVariables false
set_option linter.unusedSimpArgs false

theorem eqL_row (a b : Rw) : eqL a.cs b.cs = decide (a = b) := by
  obtain ⟨k1, v1, d1⟩ := a
  obtain ⟨k2, v2, d2⟩ := b
  simp only [Rw.cs, eqL, toList_S, Bool.and_true, Rw.mk.injEq]
  rw [Bool.eq_iff_iff]
  simp
theorem dif_len (os ns : List Str) : (dif os ns).length ≤ os.length + ns.length := by
  fun_induction dif os ns <;> simp at * <;> omega
theorem apply_len (l : List Str) (r : Rw) : (applyR l r).length ≤ l.length + 1 := by
  unfold applyR
  split
  · exact Nat.le_trans (List.length_filter_le ..) (by omega)
  · unfold layS
    split
    · omega
    · have h := congrArg List.length (List.takeWhile_append_dropWhile (p := (sLt · r.key)) (l := l))
      simp only [List.length_append, List.length_cons] at *
      omega
theorem foldl_len : ∀ (rs : List Rw) (l : List Str), (rs.foldl applyR l).length ≤ l.length + rs.length
  | [], l => by simp
  | r :: rs, l => by
    have h1 := foldl_len rs (applyR l r)
    have h2 := apply_len l r
    simp only [List.foldl_cons, List.length_cons]
    omega
theorem fold_take {l : List Str} {rs : List Rw} {k : Nat} {r : Rw} (h : rs[k]? = some r) : (rs.take (k + 1)).foldl applyR l = applyR ((rs.take k).foldl applyR l) r := by
  rw [take_snoc' h, List.foldl_append]; rfl
theorem makes {l m : List Str} (hl : riseB l = true) (hm : riseB m = true) : (dif l m).foldl applyR l = m := by
  have := dif_makes l m [] (by simpa using riseB_iff l hl) (by simpa using riseB_iff m hm)
  simpa using this

set_option maxRecDepth 100000 in
set_option maxHeartbeats 1000000 in
theorem law_diffs (l m : List Str) (v u : Value) (w : World) (hv : Arr sEnc 1 w v l) (hu : Arr sEnc 1 w u m) :
    Calls Try.prog 3 [v, u].toArray w (Pure w (B true)) := by
  refine calls_W Try.func3 rfl rfl rfl (by kernel_rfl) ?_
  have hx := Ext.refl w
  refine W_seq fun K1 hK1 => ?_
  refine W_reg [.p] rfl ?_
  refine D_as (v := ?v1) rfl ?h1 ?k1
  case h1 => conv => lhs; whnf
  refine D_end (hK1 _ _ ?_)
  refine W_seq fun K2 hK2 => ?_
  refine W_seq fun K3 hK3 => ?_
  refine W_reg [.p, .p, .p, .p, .p, .p, .p, .p, .p, .p, .x, .p, .p, .p, .p, .x, .p, .p] rfl ?_
  refine D_mv (v := ?v2) rfl ?h2 ?k2
  case h2 => conv => lhs; whnf
  refine D_p rfl (pv_lenV (e := 9) (k := 1) (by kernel_rfl) hv.sl rfl) ?_
  refine D_p rfl (pv_gtr rfl rfl) ?_
  refine D_mv (v := ?v3) rfl ?h3 ?k3
  case h3 => conv => lhs; whnf
  refine D_splitP 12 rfl (fun c1 => ?_) (fun c1 => ?_)
  ·
    refine D_skip rfl ?_
    refine D_skip rfl ?_
    refine D_skip rfl ?_
    refine D_pe (v := ?v4) rfl (pv_pick rfl rfl rfl) ?h4 ?k4
    case h4 => conv => lhs; whnf
    refine D_mv (v := ?v5) rfl ?h5 ?k5
    case h5 => conv => lhs; whnf
    refine D_skip rfl ?_
    refine D_skip rfl ?_
    refine D_skip rfl ?_
    refine D_pe (v := ?v6) rfl (pv_pick rfl rfl rfl) ?h6 ?k6
    case h6 => conv => lhs; whnf
    refine D_mv (v := ?v7) rfl ?h7 ?k7
    case h7 => conv => lhs; whnf
    refine D_skip rfl ?_
    refine D_skip rfl ?_
    refine D_skip rfl ?_
    refine D_pe (v := ?v8) rfl (pv_pick rfl rfl rfl) ?h8 ?k8
    case h8 => conv => lhs; whnf
    refine D_end (hK3 _ _ ?_)
    refine W_t rfl ?_
    refine W_seq fun K4 hK4 => ?_
    refine W_reg [.p] rfl ?_
    refine D_as (v := ?v9) rfl ?h9 ?k9
    case h9 => conv => lhs; whnf
    refine D_end (hK4 _ _ ?_)
    refine W_ret ?_
    try dsimp only [then', inBlk, noGo]
    refine ret_one (v := ?v10) rfl rfl ?h10 ?k10
    case h10 => conv => lhs; whnf
    exact ⟨rfl, hx⟩
  ·
    refine D_mv (v := ?v11) rfl ?h11 ?k11
    case h11 => conv => lhs; whnf
    refine D_p rfl (pv_lenV (e := 9) (k := 1) (by kernel_rfl) hu.sl rfl) ?_
    refine D_p rfl (pv_gtr rfl rfl) ?_
    refine D_pe (v := ?v12) rfl (pv_pick rfl rfl rfl) ?h12 ?k12
    case h12 => conv => lhs; whnf
    refine D_mv (v := ?v13) rfl ?h13 ?k13
    case h13 => conv => lhs; whnf
    refine D_splitP 17 rfl (fun c2 => ?_) (fun c2 => ?_)
    ·
      refine D_skip rfl ?_
      refine D_skip rfl ?_
      refine D_skip rfl ?_
      refine D_pe (v := ?v14) rfl (pv_pick rfl rfl rfl) ?h14 ?k14
      case h14 => conv => lhs; whnf
      refine D_mv (v := ?v15) rfl ?h15 ?k15
      case h15 => conv => lhs; whnf
      refine D_skip rfl ?_
      refine D_skip rfl ?_
      refine D_skip rfl ?_
      refine D_pe (v := ?v16) rfl (pv_pick rfl rfl rfl) ?h16 ?k16
      case h16 => conv => lhs; whnf
      refine D_end (hK3 _ _ ?_)
      refine W_t rfl ?_
      refine W_seq fun K5 hK5 => ?_
      refine W_reg [.p] rfl ?_
      refine D_as (v := ?v17) rfl ?h17 ?k17
      case h17 => conv => lhs; whnf
      refine D_end (hK5 _ _ ?_)
      refine W_ret ?_
      try dsimp only [then', inBlk, noGo]
      refine ret_one (v := ?v18) rfl rfl ?h18 ?k18
      case h18 => conv => lhs; whnf
      exact ⟨rfl, hx⟩
    ·
      refine D_mv (v := ?v19) rfl ?h19 ?k19
      case h19 => conv => lhs; whnf
      refine D_callP rfl (by kernel_rfl) (rise_w l v _ (hv.ext hx) (by omega)) rfl RX.all (fun w1 x1 => ?_)
      replace hx := hx.trans x1
      refine D_pe (v := ?v20) rfl (pv_not rfl) ?h20 ?k20
      case h20 => conv => lhs; whnf
      refine D_pe (v := ?v21) rfl (pv_pick rfl rfl rfl) ?h21 ?k21
      case h21 => conv => lhs; whnf
      refine D_mv (v := ?v22) rfl ?h22 ?k22
      case h22 => conv => lhs; whnf
      refine D_split 22 rfl (fun c3 => ?_) (fun c3 => ?_)
      ·
        refine D_skip rfl ?_
        refine D_skip rfl ?_
        refine D_skip rfl ?_
        refine D_pe (v := ?v23) rfl (pv_pick rfl rfl rfl) ?h23 ?k23
        case h23 => conv => lhs; whnf
        refine D_end (hK3 _ _ ?_)
        refine W_t rfl ?_
        refine W_seq fun K6 hK6 => ?_
        refine W_reg [.p] rfl ?_
        refine D_as (v := ?v24) rfl ?h24 ?k24
        case h24 => conv => lhs; whnf
        refine D_end (hK6 _ _ ?_)
        refine W_ret ?_
        try dsimp only [then', inBlk, noGo]
        refine ret_one (v := ?v25) rfl rfl ?h25 ?k25
        case h25 => conv => lhs; whnf
        exact ⟨rfl, hx⟩
      ·
        simp only [Bool.not_eq_false'] at c3
        refine D_mv (v := ?v26) rfl ?h26 ?k26
        case h26 => conv => lhs; whnf
        refine D_callP rfl (by kernel_rfl) (rise_w m u _ (hu.ext hx) (by omega)) rfl RX.all (fun w2 x2 => ?_)
        replace hx := hx.trans x2
        refine D_pe (v := ?v27) rfl (pv_not rfl) ?h27 ?k27
        case h27 => conv => lhs; whnf
        refine D_pe (v := ?v28) rfl (pv_pick rfl rfl rfl) ?h28 ?k28
        case h28 => conv => lhs; whnf
        refine D_end (hK3 _ _ ?_)
        refine W_cond rfl (fun c4 => ?_) (fun c4 => ?_)
        ·
          refine W_seq fun K7 hK7 => ?_
          refine W_reg [.p] rfl ?_
          refine D_as (v := ?v29) rfl ?h29 ?k29
          case h29 => conv => lhs; whnf
          refine D_end (hK7 _ _ ?_)
          refine W_ret ?_
          try dsimp only [then', inBlk, noGo]
          refine ret_one (v := ?v30) rfl rfl ?h30 ?k30
          case h30 => conv => lhs; whnf
          exact ⟨rfl, hx⟩
        ·
          simp only [Bool.not_eq_false'] at c4
          refine W_skip ?_
          refine hK2 _ _ ?_
          refine W_seq fun K8 hK8 => ?_
          refine W_reg [.p, .p, .x, .p, .p, .x, .p, .p] rfl ?_
          refine D_mv (v := ?v31) rfl ?h31 ?k31
          case h31 => conv => lhs; whnf
          refine D_mv (v := ?v32) rfl ?h32 ?k32
          case h32 => conv => lhs; whnf
          refine D_callG rfl (by kernel_rfl) (diff_w l m v u _ (hv.ext hx) (hu.ext hx) (by omega) (by omega)) rfl RX.all (fun vl w3 x3 hdl => ?_)
          have hsz3 := hx.size
          replace hx := hx.trans x3
          replace hdl := hdl.arr (by intro x; rfl)
          refine D_mv (v := ?v33) rfl ?h33 ?k33
          case h33 => conv => lhs; whnf
          refine D_mv (v := ?v34) rfl ?h34 ?k34
          case h34 => conv => lhs; whnf
          refine D_callG rfl (by kernel_rfl) (rdiff_w l m v u _ (hv.ext hx) (hu.ext hx) (by omega) (by omega)) rfl RX.all (fun vm w4 x4 hdm => ?_)
          have hsz4 := hx.size
          replace hdl := hdl.ext x4
          replace hx := hx.trans x4
          replace hdm := hdm.arr (by intro x; rfl)
          refine D_as (v := ?v35) rfl ?h35 ?k35
          case h35 => conv => lhs; whnf
          refine D_as (v := ?v36) rfl ?h36 ?k36
          case h36 => conv => lhs; whnf
          refine D_end (hK8 _ _ ?_)
          refine W_seq fun K9 hK9 => ?_
          refine W_seq fun K10 hK10 => ?_
          refine W_reg [.p, .p, .p, .p, .p] rfl ?_
          refine D_mv (v := ?v37) rfl ?h37 ?k37
          case h37 => conv => lhs; whnf
          refine D_p rfl (pv_lenV (e := 27) (k := 3) (by kernel_rfl) hdl.sl rfl) ?_
          refine D_mv (v := ?v38) rfl ?h38 ?k38
          case h38 => conv => lhs; whnf
          refine D_p rfl (pv_lenV (e := 27) (k := 3) (by kernel_rfl) hdm.sl rfl) ?_
          refine D_p rfl (pv_neq rfl rfl) ?_
          refine D_end (hK10 _ _ ?_)
          refine W_if rfl (fun c5 => ?_) (fun c5 => ?_)
          ·
            exact absurd rfl c5
          ·
            refine W_skip ?_
            refine hK9 _ _ ?_
            refine W_seq fun K11 hK11 => ?_
            refine W_reg [.x, .p, .x, .p] rfl ?_
            refine D_lit0 (e := 9) (sz := 1) rfl (by kernel_rfl) RX.all (fun b1 w5 e1 x5 m1 => ?_)
            have g1 : w.heap.size ≤ b1 := by have := hx.size; omega
            have a1_hdl := Arr.base_lt hdl (by decide)
            have a1_hdm := Arr.base_lt hdm (by decide)
            replace hdl := hdl.ext x5
            replace hdm := hdm.ext x5
            replace hx := hx.trans x5
            refine D_mv (v := ?v39) rfl ?h39 ?k39
            case h39 => conv => lhs; whnf
            have ho := m1.own (enc := sEnc) (B := w.heap.size) (l := ([] : List Str)) (sz := 1) (m := 0) g1 rfl (by intro x; rfl) rfl (by simp)
            refine D_append (e := 9) (sz := 1) (by' := 16) rfl (by kernel_rfl) (by kernel_rfl) (by intro x; rfl) ho ((hv.ext hx)) rfl rfl (by intro x _ u hu; simp at hu; rcases hu with rfl <;> rfl) (by simp; omega) (by decide) hx.size (.inl rfl) (fun vp w6 ho_n x6 => ?_)
            try replace hdl := hdl.mod x6 (fun hne h => by have h2 : b1 = _ := Option.some.inj h; first | (have h1 := a1_hdl hne; omega) | (have h1 := a1_hdm hne; omega))
            try replace hdm := hdm.mod x6 (fun hne h => by have h2 : b1 = _ := Option.some.inj h; first | (have h1 := a1_hdl hne; omega) | (have h1 := a1_hdm hne; omega))
            replace hx := hx.own x6 (fun i hi => (ho.lt i hi).1)
            replace ho := ho_n
            refine D_as (v := ?v40) rfl ?h40 ?k40
            case h40 => conv => lhs; whnf
            refine D_end (hK11 _ _ ?_)
            refine W_seq fun K12 hK12 => ?_
            refine W_seq fun K13 hK13 => ?_
            refine W_reg [.p] rfl ?_
            refine D_as (v := ?v41) rfl ?h41 ?k41
            case h41 => conv => lhs; whnf
            refine D_end (hK13 _ _ ?_)
            refine W_block ?_
            refine W_loop (G := Nat × Value) (fun (k, vn) => [(1, u), (5, vl), (6, vm), (7, vn), (8, I ↑k)]) (fun (k, vn) w' => Ext w w' ∧ Arr Rw.cs 3 w' vl (dif l m) ∧ Arr Rw.cs 3 w' vm (dif l m) ∧ Arr sEnc 1 w' vn (((dif l m).take k).foldl applyR l) ∧ k ≤ (dif l m).length) (fun (k, vn) => (dif l m).length - k) (0, vp) ?_ ?_ ?_
            · exact ⟨rfl, rfl, rfl, rfl, rfl, trivial⟩
            · exact ⟨hx, hdl, hdm, by simpa using ho.arr (by intro x; rfl), Nat.zero_le _⟩
            · intro X7 g7 w7 hF7
              obtain ⟨k, vn⟩ := g7
              clear hx hdl hdm ho
              obtain ⟨hx, hdl, hdm, hn, hk⟩ := hF7
              have hfl := foldl_len ((dif l m).take k) l
              have htl : ((dif l m).take k).length ≤ k := List.length_take_le ..
              have hdf := dif_len l m
              refine W_seq fun K14 hK14 => ?_
              refine W_seq fun K15 hK15 => ?_
              refine W_reg [.p, .p, .p, .p] rfl ?_
              refine D_mv (v := ?v42) rfl ?h42 ?k42
              case h42 => conv => lhs; whnf
              refine D_mv (v := ?v43) rfl ?h43 ?k43
              case h43 => conv => lhs; whnf
              refine D_p rfl (pv_lenV (e := 27) (k := 3) (by kernel_rfl) hdl.sl rfl) ?_
              refine D_p rfl (pv_lss rfl rfl) ?_
              refine D_end (hK15 _ _ ?_)
              refine W_if rfl (fun c6 => ?_) (fun c6 => ?_)
              ·
                obtain ⟨r, hkr⟩ : ∃ r, (dif l m)[k]? = some r := ⟨_, List.getElem?_eq_getElem (by omega)⟩
                refine W_skip ?_
                refine hK14 _ _ ?_
                refine W_seq fun K16 hK16 => ?_
                refine W_block ?_
                refine W_seq fun K17 hK17 => ?_
                refine W_seq fun K18 hK18 => ?_
                refine W_draw (R := Ext) Ext.refl (fun _ _ _ => Ext.trans) (by kernel_rfl) [3, 7] [(0, .p, false), (1, .p, false), (2, .p, false), (3, .l, false), (4, .p, false), (5, .p, false), (6, .p, false), (7, .l, false), (8, .p, false)] rfl (by kernel_rfl) (by kernel_rfl) (fun w8 ew8 => ?_)
                have x8 : Ext w7 w8 := by rw [ew8]; exact Ext.drew _
                clear ew8
                replace hdl := hdl.ext x8
                replace hdm := hdm.ext x8
                replace hn := hn.ext x8
                replace hx := hx.trans x8
                refine D_mv (v := ?v44) rfl ?h44 ?k44
                case h44 => conv => lhs; whnf
                refine D_mv (v := ?v45) rfl ?h45 ?k45
                case h45 => conv => lhs; whnf
                refine D_p rfl (pv_idxA (e := 27) (k := 3) (by kernel_rfl) hdl.sl rfl rfl (hdl.lt hkr)) ?_
                refine D_l rfl (fun w' hR => lv_loadA (by kernel_rfl) rfl rfl ((hdl.ext hR).row hkr)) ?_
                refine D_mv (v := ?v46) rfl ?h46 ?k46
                case h46 => conv => lhs; whnf
                refine D_mv (v := ?v47) rfl ?h47 ?k47
                case h47 => conv => lhs; whnf
                refine D_p rfl (pv_idxA (e := 27) (k := 3) (by kernel_rfl) hdm.sl rfl rfl (hdm.lt hkr)) ?_
                refine D_l rfl (fun w' hR => lv_loadA (by kernel_rfl) rfl rfl ((hdm.ext hR).row hkr)) ?_
                refine D_p rfl (pv_neA (ts := [9, 9, 4]) (by kernel_rfl) rfl rfl ⟨by kernel_rfl, by kernel_rfl, by kernel_rfl, trivial⟩ ⟨by kernel_rfl, by kernel_rfl, by kernel_rfl, trivial⟩) ?_
                refine D_end (hK18 _ _ ?_)
                refine W_cond rfl (fun c7 => ?_) (fun c7 => ?_)
                ·
                  rw [eqL_row] at c7; simp at c7
                ·
                  refine W_skip ?_
                  refine hK17 _ _ ?_
                  refine W_seq fun K19 hK19 => ?_
                  refine W_reg [.p, .p, .p, .p, .l] rfl ?_
                  refine D_mv (v := ?v48) rfl ?h48 ?k48
                  case h48 => conv => lhs; whnf
                  refine D_mv (v := ?v49) rfl ?h49 ?k49
                  case h49 => conv => lhs; whnf
                  refine D_p rfl (pv_idxA (e := 27) (k := 3) (by kernel_rfl) hdl.sl rfl rfl (hdl.lt hkr)) ?_
                  refine D_p rfl (pv_fieldA (k := 2) (by kernel_rfl) rfl) ?_
                  refine D_lq rfl (lv_load (by kernel_rfl) rfl ((hdl.row hkr).at rfl)) ?_
                  refine D_end (hK19 _ _ ?_)
                  refine W_cond rfl (fun c8 => ?_) (fun c8 => ?_)
                  ·
                    refine W_reg [.p, .p, .p, .p, .p, .l, .x, .p] rfl ?_
                    refine D_mv (v := ?v50) rfl ?h50 ?k50
                    case h50 => conv => lhs; whnf
                    refine D_mv (v := ?v51) rfl ?h51 ?k51
                    case h51 => conv => lhs; whnf
                    refine D_mv (v := ?v52) rfl ?h52 ?k52
                    case h52 => conv => lhs; whnf
                    refine D_p rfl (pv_idxA (e := 27) (k := 3) (by kernel_rfl) hdl.sl rfl rfl (hdl.lt hkr)) ?_
                    refine D_p rfl (pv_fieldA (k := 0) (by kernel_rfl) rfl) ?_
                    refine D_lq rfl (lv_load (by kernel_rfl) rfl ((hdl.row hkr).at rfl)) ?_
                    refine D_callG rfl (by kernel_rfl) (cut_w (((dif l m).take k).foldl applyR l) vn r.key _ hn (by omega)) rfl RX.all (fun vq w9 x9 hq => ?_)
                    have hsz9 := hx.size
                    replace hdl := hdl.ext x9
                    replace hdm := hdm.ext x9
                    replace hn := hn.ext x9
                    replace hx := hx.trans x9
                    replace hq := hq.arr (by intro x; rfl)
                    refine D_as (v := ?v53) rfl ?h53 ?k53
                    case h53 => conv => lhs; whnf
                    refine D_end (hK16 _ _ ?_)
                    refine W_reg [.p, .p, .p] rfl ?_
                    refine D_mv (v := ?v54) rfl ?h54 ?k54
                    case h54 => conv => lhs; whnf
                    refine D_p rfl (pv_add rfl rfl (by unfold inI64; omega)) ?_
                    refine D_as (v := ?v55) rfl ?h55 ?k55
                    case h55 => conv => lhs; whnf
                    refine D_end (?_)
                    refine ⟨(k + 1, vq), ⟨rfl, rfl, rfl, rfl, rfl, trivial⟩, ⟨hx, hdl, hdm, ?_, by omega⟩, by simp only []; omega⟩
                    rw [fold_take hkr, applyR, if_pos c8]; exact hq
                  ·
                    refine W_reg [.p, .p, .p, .p, .p, .l, .x, .p] rfl ?_
                    refine D_mv (v := ?v56) rfl ?h56 ?k56
                    case h56 => conv => lhs; whnf
                    refine D_mv (v := ?v57) rfl ?h57 ?k57
                    case h57 => conv => lhs; whnf
                    refine D_mv (v := ?v58) rfl ?h58 ?k58
                    case h58 => conv => lhs; whnf
                    refine D_p rfl (pv_idxA (e := 27) (k := 3) (by kernel_rfl) hdl.sl rfl rfl (hdl.lt hkr)) ?_
                    refine D_p rfl (pv_fieldA (k := 0) (by kernel_rfl) rfl) ?_
                    refine D_lq rfl (lv_load (by kernel_rfl) rfl ((hdl.row hkr).at rfl)) ?_
                    refine D_callG rfl (by kernel_rfl) (lay_w (((dif l m).take k).foldl applyR l) vn r.key _ hn (by omega)) rfl RX.all (fun vq w10 x10 hq => ?_)
                    have hsz10 := hx.size
                    replace hdl := hdl.ext x10
                    replace hdm := hdm.ext x10
                    replace hn := hn.ext x10
                    replace hx := hx.trans x10
                    refine D_as (v := ?v59) rfl ?h59 ?k59
                    case h59 => conv => lhs; whnf
                    refine D_end (hK16 _ _ ?_)
                    refine W_reg [.p, .p, .p] rfl ?_
                    refine D_mv (v := ?v60) rfl ?h60 ?k60
                    case h60 => conv => lhs; whnf
                    refine D_p rfl (pv_add rfl rfl (by unfold inI64; omega)) ?_
                    refine D_as (v := ?v61) rfl ?h61 ?k61
                    case h61 => conv => lhs; whnf
                    refine D_end (?_)
                    refine ⟨(k + 1, vq), ⟨rfl, rfl, rfl, rfl, rfl, trivial⟩, ⟨hx, hdl, hdm, ?_, by omega⟩, by simp only []; omega⟩
                    rw [fold_take hkr, applyR, if_neg (by rw [c8]; decide)]; exact hq
              ·
                rw [List.take_of_length_le (by omega), makes c3 c4] at hn
                refine W_exit ?_
                refine hK12 _ _ ?_
                refine W_seq fun K20 hK20 => ?_
                refine W_reg [.p, .p, .x, .p, .x, .p, .p] rfl ?_
                refine D_mv (v := ?v62) rfl ?h62 ?k62
                case h62 => conv => lhs; whnf
                refine D_mv (v := ?v63) rfl ?h63 ?k63
                case h63 => conv => lhs; whnf
                refine D_callP rfl (by kernel_rfl) (texts_w _ m vn u _ hn (hu.ext hx) (by omega) (by omega)) rfl RX.all (fun w11 x11 => ?_)
                replace hdl := hdl.ext x11
                replace hdm := hdm.ext x11
                replace hn := hn.ext x11
                replace hx := hx.trans x11
                refine D_mv (v := ?v64) rfl ?h64 ?k64
                case h64 => conv => lhs; whnf
                refine D_split 78 rfl (fun c9 => ?_) (fun c9 => ?_)
                ·
                  refine D_callP rfl (by kernel_rfl) (known_w _) rfl RX.all (fun w12 x12 => ?_)
                  replace hdl := hdl.ext x12
                  replace hdm := hdm.ext x12
                  replace hn := hn.ext x12
                  replace hx := hx.trans x12
                  refine D_pe (v := ?v65) rfl (pv_pick rfl rfl rfl) ?h65 ?k65
                  case h65 => conv => lhs; whnf
                  refine D_as (v := ?v66) rfl ?h66 ?k66
                  case h66 => conv => lhs; whnf
                  refine D_end (hK20 _ _ ?_)
                  refine W_ret ?_
                  try dsimp only [then', inBlk, noGo]
                  refine ret_one (v := ?v67) rfl rfl ?h67 ?k67
                  case h67 => conv => lhs; whnf
                  exact ⟨rfl, hx⟩
                ·
                  simp at c9

end Go.Proofs.Ytcjjjmhhpejdoaa
