/-
  Walks.
-/
import Derived.Test.YtodmkkcediofgaaChecked
import Derived.Test.YtodmkkcediofgaaSpMem
import Derived.KernelRfl
import Derived.Test.YtodmkkcediofgaaMemH
import Derived.Test.YtodmkkcediofgaaSpTurn
namespace Go.Proofs.Ytodmkkcediofgaa
open Go.Vc Go.Sp
attribute [local irreducible] W XW Dw DwT
set_option linter.unusedVariables false
set_option linter.unusedSimpArgs false

theorem more_dis {F1 F2 : Nat → Prop} {w w' : World} (hD : ∀ j, F1 j → ¬ F2 j) (hl : ∀ j, F2 j → j < w.heap.size) : ∀ j, moveF F1 w w' j → ¬ F2 j := fun j h1 h2 => h1.elim (fun h => hD j h h2) (fun h => by have := hl j h2; omega)
theorem more_dis2 {F1 F2 : Nat → Prop} {w w' : World} (hD : ∀ j, F1 j → ¬ F2 j) (hl : ∀ j, F1 j → j < w.heap.size) : ∀ j, F1 j → ¬ moveF F2 w w' j := fun j h1 h2 => h2.elim (fun h => hD j h1 h) (fun h => by have := hl j h1; omega)
theorem putAll_len : ∀ (cs l : List Cell), (putAll l cs).length ≤ l.length + cs.length
  | [], l => Nat.le_refl _
  | c :: cs, l => by
    have h1 := putAll_len cs (put l c).2
    have h2 := (put_len l c).1
    show (putAll (put l c).2 cs).length ≤ _
    simp only [List.length_cons]; omega
theorem putAll_allC : ∀ (cs l : List Cell), allC l → allC (putAll l cs)
  | [], l, h => h
  | c :: cs, l, h => putAll_allC cs _ (h.put c)
theorem putAll_small (cs : List Cell) (k : Nat) (hk : k ≤ 201) : (putAll [] (cs.take k)).length ≤ 1000 ∧ sizeL (putAll [] (cs.take k)) ≤ 1000000000000 := by
  have h1 := putAll_len (cs.take k) []
  have h2 := (putAll_allC (cs.take k) [] (fun x hx => by cases hx)).size
  have h3 : (cs.take k).length ≤ k := List.length_take_le ..
  simp only [List.length_nil] at h1
  omega

set_option maxRecDepth 100000 in
set_option maxHeartbeats 1000000 in
theorem law_turns (da : List Nat) (va : Value) (db : List Nat) (vb : Value) (ls : List Cell) (vl : Value) (w : World) (hva : Arr encU 1 w va da) (hvb : Arr encU 1 w vb db) (hvl : Arr Cell.cs 4 w vl ls) (hal : da.length ≤ 1048576) (hbl : db.length ≤ 1048576) (hll : ls.length ≤ 1048576) :
    Calls Try.prog 5 [va, vb, vl].toArray w (Pure w (B true)) := by
  refine calls_W Try.func5 rfl rfl rfl (by kernel_rfl) ?_
  have hx := Ext.refl w
  refine W_seq fun K1 hK1 => ?_
  refine W_reg [.p] rfl ?_
  refine D_as (v := ?v1) rfl ?h1 ?k1
  case h1 => conv => lhs; whnf
  refine D_end (hK1 _ _ ?_)
  refine W_seq fun K2 hK2 => ?_
  refine W_seq fun K3 hK3 => ?_
  refine W_reg [.p, .x, .p, .p, .p, .p, .p, .p, .p, .p] rfl ?_
  refine D_mv (v := ?v2) rfl ?h2 ?k2
  case h2 => conv => lhs; whnf
  refine D_callG rfl (by kernel_rfl) ((heavy2_w ls vl _ (hvl.ext hx) (by omega)).mono heavy_gives) rfl RX.all (fun v1 w1 x1 hf1 => ?_)
  have hsz1 := hx.size
  replace hx := hx.trans x1
  obtain ⟨bh, rfl, hhv⟩ := hf1
  refine D_mv (v := ?v3) rfl ?h3 ?k3
  case h3 => conv => lhs; whnf
  refine D_split 14 rfl (fun c1 => ?_) (fun c1 => ?_)
  ·
    refine D_skip rfl ?_
    refine D_skip rfl ?_
    refine D_skip rfl ?_
    refine D_skip rfl ?_
    refine D_skip rfl ?_
    refine D_skip rfl ?_
    refine D_pe (v := ?v4) rfl (pv_pick rfl rfl rfl) ?h4 ?k4
    case h4 => conv => lhs; whnf
    refine D_end (hK3 _ _ ?_)
    refine W_t rfl ?_
    refine W_seq fun K4 hK4 => ?_
    refine W_reg [.p] rfl ?_
    refine D_as (v := ?v5) rfl ?h5 ?k5
    case h5 => conv => lhs; whnf
    refine D_end (hK4 _ _ ?_)
    refine W_ret ?_
    try dsimp only [then', inBlk, noGo]
    refine ret_one (v := ?v6) rfl rfl ?h6 ?k6
    case h6 => conv => lhs; whnf
    first
    | exact ⟨rfl, hx⟩
    | exact absurd rfl c11
    | (simp at c10; done)
  ·
    have hll2 := hhv c1
    refine D_mv (v := ?v7) rfl ?h7 ?k7
    case h7 => conv => lhs; whnf
    refine D_p rfl (pv_lenV (e := 50) (k := 1) (by kernel_rfl) hva.sl rfl) ?_
    refine D_mv (v := ?v8) rfl ?h8 ?k8
    case h8 => conv => lhs; whnf
    refine D_p rfl (pv_lenV (e := 50) (k := 1) (by kernel_rfl) hvb.sl rfl) ?_
    refine D_p rfl (pv_add rfl rfl (by unfold inI64; omega)) ?_
    refine D_p rfl (pv_gtr rfl rfl) ?_
    refine D_pe (v := ?v9) rfl (pv_pick rfl rfl rfl) ?h9 ?k9
    case h9 => conv => lhs; whnf
    refine D_end (hK3 _ _ ?_)
    refine W_if rfl (fun c2 => ?_) (fun c2 => ?_)
    ·
      refine W_seq fun K5 hK5 => ?_
      refine W_reg [.p] rfl ?_
      refine D_as (v := ?v10) rfl ?h10 ?k10
      case h10 => conv => lhs; whnf
      refine D_end (hK5 _ _ ?_)
      refine W_ret ?_
      try dsimp only [then', inBlk, noGo]
      refine ret_one (v := ?v11) rfl rfl ?h11 ?k11
      case h11 => conv => lhs; whnf
      first
      | exact ⟨rfl, hx⟩
      | exact absurd rfl c11
      | (simp at c10; done)
    ·
      refine W_skip ?_
      refine hK2 _ _ ?_
      refine W_seq fun K6 hK6 => ?_
      refine W_seq fun K7 hK7 => ?_
      refine W_reg [.p] rfl ?_
      refine D_as (v := ?v12) rfl ?h12 ?k12
      case h12 => conv => lhs; whnf
      refine D_end (hK7 _ _ ?_)
      refine W_block ?_
      refine W_loop (G := Nat) (fun i => [(0, va), (1, vb), (2, vl), (7, I ↑i)]) (fun i w' => Ext w w' ∧ i ≤ ls.length ∧ (ls.take i).Pairwise unlike) (fun i => ls.length - i) 0 ?_ ?_ ?_
      · exact ⟨rfl, rfl, rfl, rfl, trivial⟩
      · exact ⟨hx, Nat.zero_le _, List.Pairwise.nil⟩
      · intro X2 g2 w2 hF2
        revert hF2; revert g2; intro i hF2
        clear hx 
        obtain ⟨hx, hi1, hpw⟩ := hF2
        refine W_seq fun K8 hK8 => ?_
        refine W_seq fun K9 hK9 => ?_
        refine W_reg [.p, .p, .p, .p] rfl ?_
        refine D_mv (v := ?v13) rfl ?h13 ?k13
        case h13 => conv => lhs; whnf
        refine D_mv (v := ?v14) rfl ?h14 ?k14
        case h14 => conv => lhs; whnf
        refine D_p rfl (pv_lenV (e := 28) (k := 4) (by kernel_rfl) hvl.sl rfl) ?_
        refine D_p rfl (pv_lss rfl rfl) ?_
        refine D_end (hK9 _ _ ?_)
        refine W_if rfl (fun c3 => ?_) (fun c3 => ?_)
        ·
          obtain ⟨c, hki⟩ : ∃ c, ls[i]? = some c := ⟨_, List.getElem?_eq_getElem (by omega)⟩
          refine W_skip ?_
          refine hK8 _ _ ?_
          refine W_seq fun K10 hK10 => ?_
          refine W_block ?_
          refine W_seq fun K11 hK11 => ?_
          refine W_reg [.p] rfl ?_
          refine D_as (v := ?v15) rfl ?h15 ?k15
          case h15 => conv => lhs; whnf
          refine D_end (hK11 _ _ ?_)
          refine W_block ?_
          refine W_loop (G := Nat) (fun k => [(0, va), (1, vb), (2, vl), (7, I ↑i), (8, I ↑k)]) (fun k w' => Ext w w' ∧ k ≤ i ∧ (∀ j, j < k → ∀ x, ls[j]? = some x → unlike x c)) (fun k => i - k) 0 ?_ ?_ ?_
          · exact ⟨rfl, rfl, rfl, rfl, rfl, trivial⟩
          · exact ⟨hx, Nat.zero_le _, fun j hj => absurd hj (Nat.not_lt_zero _)⟩
          · intro X3 g3 w3 hF3
            revert hF3; revert g3; intro k hF3
            clear hx 
            obtain ⟨hx, hki1, hun2⟩ := hF3
            refine W_seq fun K12 hK12 => ?_
            refine W_seq fun K13 hK13 => ?_
            refine W_reg [.p, .p, .p] rfl ?_
            refine D_mv (v := ?v16) rfl ?h16 ?k16
            case h16 => conv => lhs; whnf
            refine D_mv (v := ?v17) rfl ?h17 ?k17
            case h17 => conv => lhs; whnf
            refine D_p rfl (pv_lss rfl rfl) ?_
            refine D_end (hK13 _ _ ?_)
            refine W_if rfl (fun c4 => ?_) (fun c4 => ?_)
            ·
              obtain ⟨d, hkk⟩ : ∃ d, ls[k]? = some d := ⟨_, List.getElem?_eq_getElem (by omega)⟩
              refine W_skip ?_
              refine hK12 _ _ ?_
              refine W_seq fun K14 hK14 => ?_
              refine W_block ?_
              refine W_seq fun K15 hK15 => ?_
              refine W_draw (R := Ext) Ext.refl (fun _ _ _ => Ext.trans) (by kernel_rfl) [4, 9, 16, 21] [(0, .p, false), (1, .p, false), (2, .p, false), (3, .p, false), (4, .l, false), (5, .p, false), (6, .p, false), (7, .p, false), (8, .p, false), (9, .l, false), (10, .p, false), (11, .p, false), (12, .p, false), (13, .p, false), (14, .p, false), (15, .p, false), (16, .l, false), (17, .p, false), (18, .p, false), (19, .p, false), (20, .p, false), (21, .l, false), (22, .p, false), (23, .p, false)] rfl (by kernel_rfl) (by kernel_rfl) (fun w4 ew4 => ?_)
              have x4 : Ext w3 w4 := by rw [ew4]; exact Ext.drew _
              clear ew4
              replace hx := hx.trans x4
              refine D_mv (v := ?v18) rfl ?h18 ?k18
              case h18 => conv => lhs; whnf
              refine D_mv (v := ?v19) rfl ?h19 ?k19
              case h19 => conv => lhs; whnf
              refine D_p rfl (pv_idxA (e := 28) (k := 4) (by kernel_rfl) hvl.sl rfl rfl (hvl.lt hkk)) ?_
              refine D_p rfl (pv_fieldA (k := 0) (by kernel_rfl) rfl) ?_
              refine D_l rfl (fun w' hR => lv_load (by kernel_rfl) rfl (((hvl.ext (hx.trans hR)).row hkk).at rfl)) ?_
              refine D_mv (v := ?v20) rfl ?h20 ?k20
              case h20 => conv => lhs; whnf
              refine D_mv (v := ?v21) rfl ?h21 ?k21
              case h21 => conv => lhs; whnf
              refine D_p rfl (pv_idxA (e := 28) (k := 4) (by kernel_rfl) hvl.sl rfl rfl (hvl.lt hki)) ?_
              refine D_p rfl (pv_fieldA (k := 0) (by kernel_rfl) rfl) ?_
              refine D_l rfl (fun w' hR => lv_load (by kernel_rfl) rfl (((hvl.ext (hx.trans hR)).row hki).at rfl)) ?_
              refine D_p rfl (pv_seq rfl rfl) ?_
              refine D_mv (v := ?v22) rfl ?h22 ?k22
              case h22 => conv => lhs; whnf
              refine D_splitP 44 rfl (fun c5 => ?_) (fun c5 => ?_)
              ·
                refine D_mv (v := ?v23) rfl ?h23 ?k23
                case h23 => conv => lhs; whnf
                refine D_mv (v := ?v24) rfl ?h24 ?k24
                case h24 => conv => lhs; whnf
                refine D_p rfl (pv_idxA (e := 28) (k := 4) (by kernel_rfl) hvl.sl rfl rfl (hvl.lt hkk)) ?_
                refine D_p rfl (pv_fieldA (k := 3) (by kernel_rfl) rfl) ?_
                refine D_l rfl (fun w' hR => lv_load (by kernel_rfl) rfl (((hvl.ext (hx.trans hR)).row hkk).at rfl)) ?_
                refine D_mv (v := ?v25) rfl ?h25 ?k25
                case h25 => conv => lhs; whnf
                refine D_mv (v := ?v26) rfl ?h26 ?k26
                case h26 => conv => lhs; whnf
                refine D_p rfl (pv_idxA (e := 28) (k := 4) (by kernel_rfl) hvl.sl rfl rfl (hvl.lt hki)) ?_
                refine D_p rfl (pv_fieldA (k := 3) (by kernel_rfl) rfl) ?_
                refine D_l rfl (fun w' hR => lv_load (by kernel_rfl) rfl (((hvl.ext (hx.trans hR)).row hki).at rfl)) ?_
                refine D_p rfl (pv_eql rfl rfl) ?_
                refine D_pe (v := ?v27) rfl (pv_pick rfl rfl rfl) ?h27 ?k27
                case h27 => conv => lhs; whnf
                refine D_end (hK15 _ _ ?_)
                refine W_if rfl (fun c6 => ?_) (fun c6 => ?_)
                ·
                  refine W_seq fun K16 hK16 => ?_
                  refine W_reg [.x, .p] rfl ?_
                  refine D_callP rfl (by kernel_rfl) (known_w _) rfl RX.all (fun w5 x5 => ?_)
                  replace hx := hx.trans x5
                  refine D_as (v := ?v28) rfl ?h28 ?k28
                  case h28 => conv => lhs; whnf
                  refine D_end (hK16 _ _ ?_)
                  refine W_ret ?_
                  try dsimp only [then', inBlk, noGo]
                  refine ret_one (v := ?v29) rfl rfl ?h29 ?k29
                  case h29 => conv => lhs; whnf
                  first
                  | exact ⟨rfl, hx⟩
                  | exact absurd rfl c11
                  | (simp at c10; done)
                ·
                  refine W_skip ?_
                  refine hK14 _ _ ?_
                  refine W_reg [.p, .p, .p] rfl ?_
                  refine D_mv (v := ?v30) rfl ?h30 ?k30
                  case h30 => conv => lhs; whnf
                  refine D_p rfl (pv_add rfl rfl (by unfold inI64; omega)) ?_
                  refine D_as (v := ?v31) rfl ?h31 ?k31
                  case h31 => conv => lhs; whnf
                  refine D_end (?_)
                  refine ⟨k + 1, ⟨rfl, rfl, rfl, rfl, rfl, trivial⟩, ⟨hx, by omega, fun j hj x hjx => ?_⟩, by omega⟩
                  by_cases e : j = k
                  · subst e
                    rw [hkk] at hjx
                    cases hjx
                    first | exact fun e => c5 e.1 | exact fun e => c6 e.2
                  · exact hun2 j (by omega) x hjx
              ·
                refine D_skip rfl ?_
                refine D_skip rfl ?_
                refine D_skip rfl ?_
                refine D_skip rfl ?_
                refine D_skip rfl ?_
                refine D_skip rfl ?_
                refine D_skip rfl ?_
                refine D_skip rfl ?_
                refine D_skip rfl ?_
                refine D_skip rfl ?_
                refine D_skip rfl ?_
                refine D_pe (v := ?v32) rfl (pv_pick rfl rfl rfl) ?h32 ?k32
                case h32 => conv => lhs; whnf
                refine D_end (hK15 _ _ ?_)
                refine W_f rfl ?_
                refine W_skip ?_
                refine hK14 _ _ ?_
                refine W_reg [.p, .p, .p] rfl ?_
                refine D_mv (v := ?v33) rfl ?h33 ?k33
                case h33 => conv => lhs; whnf
                refine D_p rfl (pv_add rfl rfl (by unfold inI64; omega)) ?_
                refine D_as (v := ?v34) rfl ?h34 ?k34
                case h34 => conv => lhs; whnf
                refine D_end (?_)
                refine ⟨k + 1, ⟨rfl, rfl, rfl, rfl, rfl, trivial⟩, ⟨hx, by omega, fun j hj x hjx => ?_⟩, by omega⟩
                by_cases e : j = k
                · subst e
                  rw [hkk] at hjx
                  cases hjx
                  first | exact fun e => c5 e.1 | exact fun e => c6 e.2
                · exact hun2 j (by omega) x hjx
            ·
              refine W_exit ?_
              refine hK10 _ _ ?_
              refine W_reg [.p, .p, .p] rfl ?_
              refine D_mv (v := ?v35) rfl ?h35 ?k35
              case h35 => conv => lhs; whnf
              refine D_p rfl (pv_add rfl rfl (by unfold inI64; omega)) ?_
              refine D_as (v := ?v36) rfl ?h36 ?k36
              case h36 => conv => lhs; whnf
              refine D_end (?_)
              refine ⟨i + 1, ⟨rfl, rfl, rfl, rfl, trivial⟩, ⟨hx, by omega, ?_⟩, by omega⟩
              rw [take_snoc hki]
              refine List.pairwise_append.2 ⟨hpw, List.pairwise_cons.2 ⟨fun _ h => (by cases h), List.Pairwise.nil⟩, fun x hx' y hy => ?_⟩
              rw [List.mem_singleton.1 hy]
              obtain ⟨j, hj⟩ := List.mem_iff_getElem?.1 hx'
              have hjl := (List.getElem?_eq_some_iff.1 hj).1
              have hji : j < i := by rw [List.length_take] at hjl; omega
              rw [List.getElem?_take_of_lt hji] at hj
              exact hun2 j (by omega) x hj
        ·
          have hun : ls.Pairwise unlike := by rw [List.take_of_length_le (by omega)] at hpw; exact hpw
          refine W_exit ?_
          refine hK6 _ _ ?_
          refine W_seq fun K17 hK17 => ?_
          refine W_reg [.p, .x, .p, .x, .p, .p] rfl ?_
          refine D_mv (v := ?v37) rfl ?h37 ?k37
          case h37 => conv => lhs; whnf
          refine D_callG rfl (by kernel_rfl) (new_w da _ _ (hva.ext hx) (by omega)) rfl RX.all (fun v6 w6 x6 hf6 => ?_)
          have hsz6 := hx.size
          replace hx := hx.trans x6
          obtain ⟨bm, rfl, hR1⟩ := hf6
          have hG1 := hR1.ge hsz6
          have hl1 := hR1.lt
          refine D_mv (v := ?v38) rfl ?h38 ?k38
          case h38 => conv => lhs; whnf
          refine D_callG rfl (by kernel_rfl) (new_w db _ _ (hvb.ext hx) (by omega)) rfl RX.all (fun v7 w7 x7 hf7 => ?_)
          have hsz7 := hx.size
          replace hR1 := hR1.ext x7
          replace hx := hx.trans x7
          obtain ⟨bn, rfl, hR2⟩ := hf7
          have hG2 := hR2.ge hsz7
          refine D_as (v := ?v39) rfl ?h39 ?k39
          case h39 => conv => lhs; whnf
          refine D_as (v := ?v40) rfl ?h40 ?k40
          case h40 => conv => lhs; whnf
          refine D_end (hK17 _ _ ?_)
          refine W_seq fun K18 hK18 => ?_
          refine W_seq fun K19 hK19 => ?_
          refine W_reg [.p, .p, .p, .p, .p, .p] rfl ?_
          refine D_mv (v := ?v41) rfl ?h41 ?k41
          case h41 => conv => lhs; whnf
          refine D_p rfl (pv_eqP (by kernel_rfl) rfl rfl) ?_
          refine D_mv (v := ?v42) rfl ?h42 ?k42
          case h42 => conv => lhs; whnf
          refine D_splitP 64 rfl (fun c7 => ?_) (fun c7 => ?_)
          ·
            cases c7
          ·
            refine D_mv (v := ?v43) rfl ?h43 ?k43
            case h43 => conv => lhs; whnf
            refine D_p rfl (pv_eqP (by kernel_rfl) rfl rfl) ?_
            refine D_pe (v := ?v44) rfl (pv_pick rfl rfl rfl) ?h44 ?k44
            case h44 => conv => lhs; whnf
            refine D_end (hK19 _ _ ?_)
            refine W_if rfl (fun c8 => ?_) (fun c8 => ?_)
            ·
              cases c8
            ·
              refine W_skip ?_
              refine hK18 _ _ ?_
              refine W_seq fun K20 hK20 => ?_
              refine W_seq fun K21 hK21 => ?_
              refine W_reg [.p] rfl ?_
              refine D_as (v := ?v45) rfl ?h45 ?k45
              case h45 => conv => lhs; whnf
              refine D_end (hK21 _ _ ?_)
              refine W_block ?_
              refine W_loop (G := Nat × (Nat → Prop) × (Nat → Prop)) (fun (k, F1, F2) => [(2, vl), (9, ptr bm 0), (10, ptr bn 0), (11, I ↑k)]) (fun (k, F1, F2) w' => Ext w w' ∧ k ≤ ls.length ∧ MRep F1 w' bm (putAll [] (ls.take k)) ∧ MRep F2 w' bn (putAll [] (ls.reverse.take k)) ∧ (∀ j, F1 j → w.heap.size ≤ j) ∧ (∀ j, F2 j → w.heap.size ≤ j) ∧ (∀ j, F1 j → ¬ F2 j)) (fun (k, F1, F2) => ls.length - k) (0, (fun j => w2.heap.size ≤ j ∧ j < w6.heap.size), (fun j => w6.heap.size ≤ j ∧ j < w7.heap.size)) ?_ ?_ ?_
              · exact ⟨rfl, rfl, rfl, rfl, trivial⟩
              · exact ⟨hx, Nat.zero_le _, hR1, hR2, hG1, hG2, fun j h1 h2 => by have := h1.2; have := h2.1; omega⟩
              · intro X8 g8 w8 hF8
                obtain ⟨k, F1, F2⟩ := g8
                clear hx hR1 hR2
                obtain ⟨hx, hk1, hR1, hR2, hG1, hG2, hD⟩ := hF8
                refine W_seq fun K22 hK22 => ?_
                refine W_seq fun K23 hK23 => ?_
                refine W_reg [.p, .p, .p, .p] rfl ?_
                refine D_mv (v := ?v46) rfl ?h46 ?k46
                case h46 => conv => lhs; whnf
                refine D_mv (v := ?v47) rfl ?h47 ?k47
                case h47 => conv => lhs; whnf
                refine D_p rfl (pv_lenV (e := 28) (k := 4) (by kernel_rfl) hvl.sl rfl) ?_
                refine D_p rfl (pv_lss rfl rfl) ?_
                refine D_end (hK23 _ _ ?_)
                refine W_if rfl (fun c9 => ?_) (fun c9 => ?_)
                ·
                  obtain ⟨c, hk⟩ : ∃ c, ls[k]? = some c := ⟨_, List.getElem?_eq_getElem (by omega)⟩
                  obtain ⟨d, hkd⟩ : ∃ d, ls[ls.length - 1 - k]? = some d := ⟨_, List.getElem?_eq_getElem (by omega)⟩
                  have hkr : ls.reverse[k]? = some d := by rw [List.getElem?_reverse (by omega)]; exact hkd
                  have hs1 := putAll_small ls k (by omega)
                  have hs2 := putAll_small ls.reverse k (by omega)
                  refine W_skip ?_
                  refine hK22 _ _ ?_
                  refine W_seq fun K24 hK24 => ?_
                  refine W_block ?_
                  refine W_seq fun K25 hK25 => ?_
                  refine W_reg [.p, .p, .p, .p, .l, .x] rfl ?_
                  refine D_mv (v := ?v48) rfl ?h48 ?k48
                  case h48 => conv => lhs; whnf
                  refine D_mv (v := ?v49) rfl ?h49 ?k49
                  case h49 => conv => lhs; whnf
                  refine D_mv (v := ?v50) rfl ?h50 ?k50
                  case h50 => conv => lhs; whnf
                  refine D_p rfl (pv_idxA (e := 28) (k := 4) (by kernel_rfl) hvl.sl rfl rfl (hvl.lt hk)) ?_
                  refine D_lq rfl (lv_loadA (by kernel_rfl) rfl rfl ((hvl.ext hx).row hk)) ?_
                  have hl1 := hR1.lt
                  have hl2 := hR2.lt
                  refine D_callD rfl (by kernel_rfl) (hR1.calls_put c _ hs1.1 hs1.2) rfl (.inl rfl) (fun v9 w9 x9 hf9 => ?_)
                  have hsz9 := hx.size
                  replace hR2 := hR2.mod x9 (fun j hj e => hD j e hj)
                  replace hx := hx.own x9 (fun i hi => hG1 i hi)
                  obtain ⟨rfl, hR1n⟩ := hf9
                  have hG1n := more_ge (w' := w9) hG1 hsz9
                  have hDn := more_dis (w' := w9) hD hl2
                  refine D_end (hK25 _ _ ?_)
                  refine W_reg [.p, .p, .p, .p, .p, .p, .p, .p, .l, .x] rfl ?_
                  refine D_mv (v := ?v51) rfl ?h51 ?k51
                  case h51 => conv => lhs; whnf
                  refine D_mv (v := ?v52) rfl ?h52 ?k52
                  case h52 => conv => lhs; whnf
                  refine D_mv (v := ?v53) rfl ?h53 ?k53
                  case h53 => conv => lhs; whnf
                  refine D_p rfl (pv_lenV (e := 28) (k := 4) (by kernel_rfl) hvl.sl rfl) ?_
                  refine D_p rfl (pv_sub rfl rfl (by unfold inI64; omega)) ?_
                  refine D_mv (v := ?v54) rfl ?h54 ?k54
                  case h54 => conv => lhs; whnf
                  refine D_pe (v := I ↑(ls.length - 1 - k)) rfl (pv_sub rfl rfl (by unfold inI64; omega)) (by show I _ = I _; congr 1; omega) ?_
                  refine D_p rfl (pv_idxA (e := 28) (k := 4) (by kernel_rfl) hvl.sl rfl rfl (hvl.lt hkd)) ?_
                  refine D_lq rfl (lv_loadA (by kernel_rfl) rfl rfl ((hvl.ext hx).row hkd)) ?_
                  have hl1n := hR1n.lt
                  refine D_callD rfl (by kernel_rfl) (hR2.calls_put d _ hs2.1 hs2.2) rfl (.inl rfl) (fun v10 w10 x10 hf10 => ?_)
                  have hsz10 := hx.size
                  replace hR1n := hR1n.mod x10 (fun j hj e => hDn j hj e)
                  replace hx := hx.own x10 (fun i hi => hG2 i hi)
                  obtain ⟨rfl, hR2n⟩ := hf10
                  have hG2n := more_ge (w' := w10) hG2 hsz10
                  have hDnn := more_dis2 (w' := w10) hDn hl1n
                  refine D_end (hK24 _ _ ?_)
                  refine W_reg [.p, .p, .p] rfl ?_
                  refine D_mv (v := ?v55) rfl ?h55 ?k55
                  case h55 => conv => lhs; whnf
                  refine D_p rfl (pv_add rfl rfl (by unfold inI64; omega)) ?_
                  refine D_as (v := ?v56) rfl ?h56 ?k56
                  case h56 => conv => lhs; whnf
                  refine D_end (?_)
                  refine ⟨(k + 1, _, _), ⟨rfl, rfl, rfl, rfl, trivial⟩, ⟨hx, by omega, by rw [take_snoc hk, putAll_snoc]; exact hR1n, by rw [take_snoc hkr, putAll_snoc]; exact hR2n, hG1n, hG2n, hDnn⟩, by simp only []; omega⟩
                ·
                  rw [List.take_of_length_le (by rw [List.length_reverse]; omega), putAll_reverse hun] at hR2
                  rw [List.take_of_length_le (by omega)] at hR1
                  have hs1 := putAll_small ls ls.length (by omega)
                  rw [List.take_length] at hs1
                  have hC := putAll_allC ls [] (fun x hx => by cases hx)
                  have hsx : ∀ x ∈ putAll [] ls, x.seq ≤ 4611686018427387904 := fun x hx => by have := isC_spec (hC x hx); omega
                  refine W_exit ?_
                  refine hK20 _ _ ?_
                  refine W_seq fun K26 hK26 => ?_
                  refine W_reg [.p, .x, .p, .x, .x, .p, .p, .x, .p, .x, .p, .p, .p, .x, .p, .p] rfl ?_
                  refine D_mv (v := ?v57) rfl ?h57 ?k57
                  case h57 => conv => lhs; whnf
                  refine D_callG rfl (by kernel_rfl) (hR1.calls_all _ hs1.1 hsx) rfl RX.all (fun v11 w11 x11 ho1 => ?_)
                  have hsz11 := hx.size
                  replace hR1 := hR1.ext x11
                  replace hR2 := hR2.ext x11
                  replace hx := hx.trans x11
                  refine D_mv (v := ?v58) rfl ?h58 ?k58
                  case h58 => conv => lhs; whnf
                  refine D_callG rfl (by kernel_rfl) (hR2.calls_all _ hs1.1 hsx) rfl RX.all (fun v12 w12 x12 ho2 => ?_)
                  have hsz12 := hx.size
                  replace hR1 := hR1.ext x12
                  replace hR2 := hR2.ext x12
                  replace ho1 := ho1.ext x12
                  replace hx := hx.trans x12
                  refine D_callP rfl (by kernel_rfl) (cells_w _ _ _ _ _ (ho1.arr (fun x => rfl)) (ho2.arr (fun x => rfl)) (by have := hs1.1; omega) (by have := hs1.1; omega)) rfl RX.all (fun w13 x13 => ?_)
                  replace hR1 := hR1.ext x13
                  replace hR2 := hR2.ext x13
                  replace ho1 := ho1.ext x13
                  replace ho2 := ho2.ext x13
                  replace hx := hx.trans x13
                  refine D_mv (v := ?v59) rfl ?h59 ?k59
                  case h59 => conv => lhs; whnf
                  refine D_split 95 rfl (fun c10 => ?_) (fun c10 => ?_)
                  ·
                    refine D_mv (v := ?v60) rfl ?h60 ?k60
                    case h60 => conv => lhs; whnf
                    refine D_callP rfl (by kernel_rfl) (hR1.calls_size _ hs1.1) rfl RX.all (fun w14 x14 => ?_)
                    replace hR1 := hR1.ext x14
                    replace hR2 := hR2.ext x14
                    replace ho1 := ho1.ext x14
                    replace ho2 := ho2.ext x14
                    replace hx := hx.trans x14
                    refine D_mv (v := ?v61) rfl ?h61 ?k61
                    case h61 => conv => lhs; whnf
                    refine D_callP rfl (by kernel_rfl) (hR2.calls_size _ hs1.1) rfl RX.all (fun w15 x15 => ?_)
                    replace hR1 := hR1.ext x15
                    replace hR2 := hR2.ext x15
                    replace ho1 := ho1.ext x15
                    replace ho2 := ho2.ext x15
                    replace hx := hx.trans x15
                    refine D_p rfl (pv_eql rfl rfl) ?_
                    refine D_pe (v := ?v62) rfl (pv_pick rfl rfl rfl) ?h62 ?k62
                    case h62 => conv => lhs; whnf
                    refine D_mv (v := ?v63) rfl ?h63 ?k63
                    case h63 => conv => lhs; whnf
                    refine D_splitP 102 rfl (fun c11 => ?_) (fun c11 => ?_)
                    ·
                      refine D_callP rfl (by kernel_rfl) (known_w _) rfl RX.all (fun w16 x16 => ?_)
                      replace hR1 := hR1.ext x16
                      replace hR2 := hR2.ext x16
                      replace ho1 := ho1.ext x16
                      replace ho2 := ho2.ext x16
                      replace hx := hx.trans x16
                      refine D_pe (v := ?v64) rfl (pv_pick rfl rfl rfl) ?h64 ?k64
                      case h64 => conv => lhs; whnf
                      refine D_as (v := ?v65) rfl ?h65 ?k65
                      case h65 => conv => lhs; whnf
                      refine D_end (hK26 _ _ ?_)
                      refine W_ret ?_
                      try dsimp only [then', inBlk, noGo]
                      refine ret_one (v := ?v66) rfl rfl ?h66 ?k66
                      case h66 => conv => lhs; whnf
                      first
                      | exact ⟨rfl, hx⟩
                      | exact absurd rfl c11
                      | (simp at c10; done)
                    ·
                      refine D_skip rfl ?_
                      refine D_pe (v := ?v67) rfl (pv_pick rfl rfl rfl) ?h67 ?k67
                      case h67 => conv => lhs; whnf
                      refine D_as (v := ?v68) rfl ?h68 ?k68
                      case h68 => conv => lhs; whnf
                      refine D_end (hK26 _ _ ?_)
                      refine W_ret ?_
                      try dsimp only [then', inBlk, noGo]
                      refine ret_one (v := ?v69) rfl rfl ?h69 ?k69
                      case h69 => conv => lhs; whnf
                      first
                      | exact ⟨rfl, hx⟩
                      | exact absurd rfl c11
                      | (simp at c10; done)
                  ·
                    refine D_skip rfl ?_
                    refine D_skip rfl ?_
                    refine D_skip rfl ?_
                    refine D_skip rfl ?_
                    refine D_skip rfl ?_
                    refine D_pe (v := ?v70) rfl (pv_pick rfl rfl rfl) ?h70 ?k70
                    case h70 => conv => lhs; whnf
                    refine D_mv (v := ?v71) rfl ?h71 ?k71
                    case h71 => conv => lhs; whnf
                    refine D_skip rfl ?_
                    refine D_pe (v := ?v72) rfl (pv_pick rfl rfl rfl) ?h72 ?k72
                    case h72 => conv => lhs; whnf
                    refine D_as (v := ?v73) rfl ?h73 ?k73
                    case h73 => conv => lhs; whnf
                    refine D_end (hK26 _ _ ?_)
                    refine W_ret ?_
                    try dsimp only [then', inBlk, noGo]
                    refine ret_one (v := ?v74) rfl rfl ?h74 ?k74
                    case h74 => conv => lhs; whnf
                    first
                    | exact ⟨rfl, hx⟩
                    | exact absurd rfl c11
                    | (simp at c10; done)

end Go.Proofs.Ytodmkkcediofgaa
