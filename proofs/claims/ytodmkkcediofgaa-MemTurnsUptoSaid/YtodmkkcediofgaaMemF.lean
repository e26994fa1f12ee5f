/-
  Walks.
-/
import Derived.Test.YtodmkkcediofgaaChecked
import Derived.Test.YtodmkkcediofgaaSpMem
import Derived.KernelRfl
import Derived.Test.YtodmkkcediofgaaMemE
namespace Go.Proofs.Ytodmkkcediofgaa
open Go.Vc Go.Sp
attribute [local irreducible] W XW Dw DwT
set_option linter.unusedVariables false
set_option linter.unusedSimpArgs false

theorem new_rep {w0 w : World} {b3 b5 b9 : Nat} {vc : Value} {dr : List Nat} (m3 : Blk w b3 ((List.replicate 12 [I 0]).flatten) 3) (m5 : Blk w b5 [S [], S [], B false, I 0, .slice (some ⟨b3, 0, none⟩) 12 12] 47)
    (hc : Own encU 1 50 w0.heap.size w vc dr) (m9 : Blk w b9 [.slice (some ⟨b5, 0, none⟩) 1 1, vc, I 0, I 0] 52) (g3 : w0.heap.size ≤ b3) (g5 : w0.heap.size ≤ b5) (g9 : w0.heap.size ≤ b9) :
    MRep (fun k => w0.heap.size ≤ k ∧ k < w.heap.size) w b9 [] := by
  rw [flat_rep0] at m3
  have hM : MemAt w b9 (.slice (some ⟨b5, 0, none⟩) 1 1) vc [⟨Cell.zero, b3, 12⟩] (fun _ => List.replicate 12 0) dr 0 0 := by
    refine ⟨m9, m5.own (enc := Tow.enc) (l := [⟨Cell.zero, b3, 12⟩]) (Nat.zero_le _) rfl (by intro x; rfl) rfl (by simp), hc.mono (Nat.zero_le _), fun i t ht => ?_, fun i j s t hs ht _ => ?_⟩
    · cases i with
      | zero => simp at ht; subst ht; exact ⟨m3, by simp⟩
      | succ i => simp at ht
    · cases i with
      | zero => cases j with
        | zero => rfl
        | succ j => simp at ht
      | succ i => simp at hs
  refine ⟨_, _, _, _, _, [], hM, ⟨rfl, fun i hi => (by cases hi), List.nodup_nil, rfl, rfl, fun i hi => ?_, ⟨fun row hr => ?_, trivial⟩⟩, List.Pairwise.nil, fun k hk => ⟨?_, hM.lt hk⟩, fun k hk => hk.2⟩
  · have : i = 0 := by simp at hi; exact hi
    subst this; exact ⟨(show 1 ≤ 12 by decide), (show 12 ≤ 12 by decide)⟩
  · have hr' : row < 12 := hr
    rw [List.getElem?_replicate_of_lt hr']; rfl
  · rcases hk with rfl | hk | hk | ⟨t, ht, rfl⟩
    · exact g9
    · have : b5 = k := Option.some.inj hk
      omega
    · exact (hc.lt k hk).1
    · rw [List.mem_singleton.1 ht]; exact g3

set_option maxRecDepth 100000 in
set_option maxHeartbeats 1000000 in
theorem clone_w (dr : List Nat) (v : Value) (w : World) (hv : Arr encU 1 w v dr) (hl : dr.length ≤ 1000000) :
    Calls Try.prog 21 [v].toArray w (Gives w (fun v' w' => Own encU 1 50 w.heap.size w' v' dr)) := by
  refine calls_W Try.func21 rfl rfl rfl (by kernel_rfl) ?_
  have hx := Ext.refl w
  refine W_seq fun K1 hK1 => ?_
  refine W_reg [.p] rfl ?_
  refine D_as (v := ?v1) rfl ?h1 ?k1
  case h1 => conv => lhs; whnf
  refine D_end (hK1 _ _ ?_)
  refine W_seq fun K2 hK2 => ?_
  refine W_seq fun K3 hK3 => ?_
  refine W_reg [.p, .p] rfl ?_
  refine D_mv (v := ?v2) rfl ?h2 ?k2
  case h2 => conv => lhs; whnf
  refine D_p rfl (pv_eqNv (e := 50) (k := 1) (by kernel_rfl) hv.sl rfl rfl) ?_
  refine D_end (hK3 _ _ ?_)
  refine W_cond rfl (fun c1 => ?_) (fun c1 => ?_)
  ·
    refine W_seq fun K4 hK4 => ?_
    refine W_reg [.p] rfl ?_
    refine D_as (v := ?v3) rfl ?h3 ?k3
    case h3 => conv => lhs; whnf
    refine D_end (hK4 _ _ ?_)
    refine W_ret ?_
    try dsimp only [then', inBlk, noGo]
    refine ret_one (v := ?v4) rfl rfl ?h4 ?k4
    case h4 => conv => lhs; whnf
    have hn := isNilV_spec hv.sl c1
    have hd0 := List.eq_nil_of_length_eq_zero hn.2
    subst hd0
    exact ⟨_, rfl, hx, Own.nil⟩
  ·
    refine W_skip ?_
    refine hK2 _ _ ?_
    refine W_seq fun K5 hK5 => ?_
    refine W_reg [.x, .p, .x, .p] rfl ?_
    refine D_lit0 (e := 50) (sz := 1) rfl (by kernel_rfl) RX.all (fun b1 w1 e1 x1 m1 => ?_)
    have g1 : w.heap.size ≤ b1 := by have := hx.size; omega
    replace hx := hx.trans x1
    refine D_mv (v := ?v5) rfl ?h5 ?k5
    case h5 => conv => lhs; whnf
    have ho := m1.own (enc := encU) (B := w.heap.size) (l := ([] : List Nat)) (sz := 1) (m := 0) g1 rfl (by intro x; rfl) rfl (by simp)
    refine D_append (e := 50) (sz := 1) (by' := 4) rfl (by kernel_rfl) (by kernel_rfl) (by intro x; rfl) ho ((hv.ext hx)) rfl rfl (by intro x _ u hu; simp at hu; rcases hu with rfl <;> rfl) (by simp; omega) (by decide) hx.size (.inl rfl) (fun vp w2 ho_n x2 => ?_)
    replace hx := hx.own x2 (fun i hi => (ho.lt i hi).1)
    replace ho := ho_n
    refine D_as (v := ?v6) rfl ?h6 ?k6
    case h6 => conv => lhs; whnf
    refine D_end (hK5 _ _ ?_)
    refine W_ret ?_
    try dsimp only [then', inBlk, noGo]
    refine ret_one (v := ?v7) rfl rfl ?h7 ?k7
    case h7 => conv => lhs; whnf
    exact ⟨_, rfl, hx, by simpa using ho⟩

set_option maxRecDepth 100000 in
set_option maxHeartbeats 1000000 in
theorem new_w (dr : List Nat) (v : Value) (w : World) (hv : Arr encU 1 w v dr) (hl : dr.length ≤ 1000000) :
    Calls Try.prog 7 [v].toArray w (Gives w (fun v' w' => ∃ bm, v' = ptr bm 0 ∧ MRep (fun k => w.heap.size ≤ k ∧ k < w'.heap.size) w' bm [])) := by
  refine calls_W Try.func7 rfl rfl rfl (by kernel_rfl) ?_
  have hx := Ext.refl w
  refine W_seq fun K1 hK1 => ?_
  refine W_reg [.p] rfl ?_
  refine D_as (v := ?v1) rfl ?h1 ?k1
  case h1 => conv => lhs; whnf
  refine D_end (hK1 _ _ ?_)
  refine W_seq fun K2 hK2 => ?_
  refine W_drawT (R := Ext) Ext.refl (fun _ _ _ => Ext.trans) (by kernel_rfl) [] (.one 3 .p false (.fork (.alt 0 true (.one 1 .p false (.fork (.alt 2 true (.one 4 .x true (.one 5 .p false (.one 6 .x true (.one 7 .p false .nil)))) (.alt 4 true (.one 2 .x true (.one 5 .p false (.one 6 .x true (.one 7 .p false .nil)))) .stop)))) (.alt 4 true (.one 0 .x true (.one 1 .p false (.one 2 .x true (.one 5 .p false (.one 6 .x true (.one 7 .p false .nil)))))) .stop)))) (by kernel_rfl) (by kernel_rfl) (fun w1 ew1 => ?_)
  have x1 : Ext w w1 := by rw [ew1]; exact Ext.drew _
  clear ew1
  replace hx := hx.trans x1
  refine T_one ?_
  refine D_mv (v := ?v2) rfl ?h2 ?k2
  case h2 => conv => lhs; whnf
  refine D_end ?_
  refine T_fork ?_
  refine T_alt ?_ ?_
  ·
    refine D_make (e := 3) (sz := 1) (by' := 8) (zs := [.int .i64 0]) rfl (by kernel_rfl) (by kernel_rfl) (by kernel_rfl) rfl rfl (Nat.le_of_ble_eq_true rfl) (Nat.le_of_ble_eq_true rfl) RX.all (fun b1 w2 e1 x2 m1 => ?_)
    have g1 : w.heap.size ≤ b1 := by have := hx.size; omega
    replace hx := hx.trans x2
    refine D_end ?_
    refine T_one ?_
    refine D_p rfl (pv_build (zs := [S [], S [], B false, .int .i64 0, .slice none 0 0]) (pl := [(0, 4), (4, 1)]) (pv := [(1, ?a3_0)]) (cs := [S [], S [], B false, .int .i64 0, ?a3_0]) (by kernel_rfl) (by kernel_rfl) ?h3 ?f3) ?k3
    case h3 => refine ⟨rfl, ?_, trivial⟩ <;> (conv => lhs; whnf)
    case f3 => rfl
    refine D_end ?_
    refine T_fork ?_
    refine T_alt ?_ ?_
    ·
      refine D_lit (e := 47) (sz := 5) (zs := [S [], S [], B false, .int .i64 0, .slice none 0 0]) (pv := [(0, .agg ⟨[?a4_0, ?a4_1, ?a4_2, ?a4_3, ?a4_4]⟩)]) (cs := [?a4_0, ?a4_1, ?a4_2, ?a4_3, ?a4_4]) rfl (by kernel_rfl) ⟨rfl, rfl⟩ (by kernel_rfl) rfl ?h4 ?f4 RX.all (fun b2 w3 e2 x3 m2 => ?k4)
      case h4 => refine ⟨rfl, ?_, trivial⟩ <;> (conv => lhs; whnf)
      case f4 => rfl
      have g2 : w.heap.size ≤ b2 := by have := hx.size; omega
      have n2_1 : b1 < b2 := by have := m1.lt; omega
      replace m1 := m1.ext x3
      replace hx := hx.trans x3
      refine D_end ?_
      refine T_one ?_
      refine D_callG rfl (by kernel_rfl) (clone_w dr v _ (hv.ext hx) hl) rfl RX.all (fun vc w4 x4 hcf => ?_)
      have hsz4 := hx.size
      replace m1 := m1.ext x4
      replace m2 := m2.ext x4
      replace hx := hx.trans x4
      replace hcf := hcf.mono hsz4
      refine D_end ?_
      refine T_one ?_
      refine D_p rfl (pv_build (zs := [.slice none 0 0, .slice none 0 0, .int .i64 0, .int .i64 0]) (pl := [(0, 1), (1, 1), (2, 1), (3, 1)]) (pv := [(0, ?a5_0), (1, ?a5_1)]) (cs := [?a5_0, ?a5_1, .int .i64 0, .int .i64 0]) (by kernel_rfl) (by kernel_rfl) ?h5 ?f5) ?k5
      case h5 => refine ⟨rfl, ?_, rfl, ?_, trivial⟩ <;> (conv => lhs; whnf)
      case f5 => rcases hcf.sl with ⟨rfl, _⟩ | ⟨_, _, _, rfl, _⟩ <;> rfl
      refine D_end ?_
      refine T_one ?_
      refine D_box rfl rfl rfl RX.all (fun b3 w5 e3 x5 m3 => ?_)
      have g3 : w.heap.size ≤ b3 := by have := hx.size; omega
      have n3_1 : b1 < b3 := by have := m1.lt; omega
      have n3_2 : b2 < b3 := by have := m2.lt; omega
      have o3_hcf : ∀ k, Value.ownBlock _ = some k → k < b3 := fun k hk => by have := (hcf.lt k hk).2; omega
      replace m1 := m1.ext x5
      replace m2 := m2.ext x5
      replace hcf := hcf.ext x5
      replace hx := hx.trans x5
      refine D_end ?_
      refine T_one ?_
      refine D_as (v := ?v6) rfl ?h6 ?k6
      case h6 => conv => lhs; whnf
      refine D_end ?_
      refine T_nil ?_
      refine hK2 _ _ ?_
      refine W_ret ?_
      try dsimp only [then', inBlk, noGo]
      refine ret_one (v := ?v7) rfl rfl ?h7 ?k7
      case h7 => conv => lhs; whnf
      exact ⟨_, rfl, hx, b3, rfl, new_rep m1 m2 hcf m3 g1 g2 g3⟩
    refine T_alt ?_ ?_
    ·
      refine D_callG rfl (by kernel_rfl) (clone_w dr v _ (hv.ext hx) hl) rfl RX.all (fun vc w6 x6 hcf => ?_)
      have hsz6 := hx.size
      replace m1 := m1.ext x6
      replace hx := hx.trans x6
      replace hcf := hcf.mono hsz6
      refine D_end ?_
      refine T_one ?_
      refine D_lit (e := 47) (sz := 5) (zs := [S [], S [], B false, .int .i64 0, .slice none 0 0]) (pv := [(0, .agg ⟨[?a8_0, ?a8_1, ?a8_2, ?a8_3, ?a8_4]⟩)]) (cs := [?a8_0, ?a8_1, ?a8_2, ?a8_3, ?a8_4]) rfl (by kernel_rfl) ⟨rfl, rfl⟩ (by kernel_rfl) rfl ?h8 ?f8 RX.all (fun b4 w7 e4 x7 m4 => ?k8)
      case h8 => refine ⟨rfl, ?_, trivial⟩ <;> (conv => lhs; whnf)
      case f8 => rfl
      have g4 : w.heap.size ≤ b4 := by have := hx.size; omega
      have n4_1 : b1 < b4 := by have := m1.lt; omega
      have o4_hcf : ∀ k, Value.ownBlock _ = some k → k < b4 := fun k hk => by have := (hcf.lt k hk).2; omega
      replace m1 := m1.ext x7
      replace hcf := hcf.ext x7
      replace hx := hx.trans x7
      refine D_end ?_
      refine T_one ?_
      refine D_p rfl (pv_build (zs := [.slice none 0 0, .slice none 0 0, .int .i64 0, .int .i64 0]) (pl := [(0, 1), (1, 1), (2, 1), (3, 1)]) (pv := [(0, ?a9_0), (1, ?a9_1)]) (cs := [?a9_0, ?a9_1, .int .i64 0, .int .i64 0]) (by kernel_rfl) (by kernel_rfl) ?h9 ?f9) ?k9
      case h9 => refine ⟨rfl, ?_, rfl, ?_, trivial⟩ <;> (conv => lhs; whnf)
      case f9 => rcases hcf.sl with ⟨rfl, _⟩ | ⟨_, _, _, rfl, _⟩ <;> rfl
      refine D_end ?_
      refine T_one ?_
      refine D_box rfl rfl rfl RX.all (fun b5 w8 e5 x8 m5 => ?_)
      have g5 : w.heap.size ≤ b5 := by have := hx.size; omega
      have n5_1 : b1 < b5 := by have := m1.lt; omega
      have n5_4 : b4 < b5 := by have := m4.lt; omega
      have o5_hcf : ∀ k, Value.ownBlock _ = some k → k < b5 := fun k hk => by have := (hcf.lt k hk).2; omega
      replace m1 := m1.ext x8
      replace hcf := hcf.ext x8
      replace m4 := m4.ext x8
      replace hx := hx.trans x8
      refine D_end ?_
      refine T_one ?_
      refine D_as (v := ?v10) rfl ?h10 ?k10
      case h10 => conv => lhs; whnf
      refine D_end ?_
      refine T_nil ?_
      refine hK2 _ _ ?_
      refine W_ret ?_
      try dsimp only [then', inBlk, noGo]
      refine ret_one (v := ?v11) rfl rfl ?h11 ?k11
      case h11 => conv => lhs; whnf
      exact ⟨_, rfl, hx, b5, rfl, new_rep m1 m4 hcf m5 g1 g4 g5⟩
    exact T_stop
  refine T_alt ?_ ?_
  ·
    refine D_callG rfl (by kernel_rfl) (clone_w dr v _ (hv.ext hx) hl) rfl RX.all (fun vc w9 x9 hcf => ?_)
    have hsz9 := hx.size
    replace hx := hx.trans x9
    replace hcf := hcf.mono hsz9
    refine D_end ?_
    refine T_one ?_
    refine D_make (e := 3) (sz := 1) (by' := 8) (zs := [.int .i64 0]) rfl (by kernel_rfl) (by kernel_rfl) (by kernel_rfl) rfl rfl (Nat.le_of_ble_eq_true rfl) (Nat.le_of_ble_eq_true rfl) RX.all (fun b6 w10 e6 x10 m6 => ?_)
    have g6 : w.heap.size ≤ b6 := by have := hx.size; omega
    have o6_hcf : ∀ k, Value.ownBlock _ = some k → k < b6 := fun k hk => by have := (hcf.lt k hk).2; omega
    replace hcf := hcf.ext x10
    replace hx := hx.trans x10
    refine D_end ?_
    refine T_one ?_
    refine D_p rfl (pv_build (zs := [S [], S [], B false, .int .i64 0, .slice none 0 0]) (pl := [(0, 4), (4, 1)]) (pv := [(1, ?a12_0)]) (cs := [S [], S [], B false, .int .i64 0, ?a12_0]) (by kernel_rfl) (by kernel_rfl) ?h12 ?f12) ?k12
    case h12 => refine ⟨rfl, ?_, trivial⟩ <;> (conv => lhs; whnf)
    case f12 => rfl
    refine D_end ?_
    refine T_one ?_
    refine D_lit (e := 47) (sz := 5) (zs := [S [], S [], B false, .int .i64 0, .slice none 0 0]) (pv := [(0, .agg ⟨[?a13_0, ?a13_1, ?a13_2, ?a13_3, ?a13_4]⟩)]) (cs := [?a13_0, ?a13_1, ?a13_2, ?a13_3, ?a13_4]) rfl (by kernel_rfl) ⟨rfl, rfl⟩ (by kernel_rfl) rfl ?h13 ?f13 RX.all (fun b7 w11 e7 x11 m7 => ?k13)
    case h13 => refine ⟨rfl, ?_, trivial⟩ <;> (conv => lhs; whnf)
    case f13 => rfl
    have g7 : w.heap.size ≤ b7 := by have := hx.size; omega
    have n7_6 : b6 < b7 := by have := m6.lt; omega
    have o7_hcf : ∀ k, Value.ownBlock _ = some k → k < b7 := fun k hk => by have := (hcf.lt k hk).2; omega
    replace hcf := hcf.ext x11
    replace m6 := m6.ext x11
    replace hx := hx.trans x11
    refine D_end ?_
    refine T_one ?_
    refine D_p rfl (pv_build (zs := [.slice none 0 0, .slice none 0 0, .int .i64 0, .int .i64 0]) (pl := [(0, 1), (1, 1), (2, 1), (3, 1)]) (pv := [(0, ?a14_0), (1, ?a14_1)]) (cs := [?a14_0, ?a14_1, .int .i64 0, .int .i64 0]) (by kernel_rfl) (by kernel_rfl) ?h14 ?f14) ?k14
    case h14 => refine ⟨rfl, ?_, rfl, ?_, trivial⟩ <;> (conv => lhs; whnf)
    case f14 => rcases hcf.sl with ⟨rfl, _⟩ | ⟨_, _, _, rfl, _⟩ <;> rfl
    refine D_end ?_
    refine T_one ?_
    refine D_box rfl rfl rfl RX.all (fun b8 w12 e8 x12 m8 => ?_)
    have g8 : w.heap.size ≤ b8 := by have := hx.size; omega
    have n8_6 : b6 < b8 := by have := m6.lt; omega
    have n8_7 : b7 < b8 := by have := m7.lt; omega
    have o8_hcf : ∀ k, Value.ownBlock _ = some k → k < b8 := fun k hk => by have := (hcf.lt k hk).2; omega
    replace hcf := hcf.ext x12
    replace m6 := m6.ext x12
    replace m7 := m7.ext x12
    replace hx := hx.trans x12
    refine D_end ?_
    refine T_one ?_
    refine D_as (v := ?v15) rfl ?h15 ?k15
    case h15 => conv => lhs; whnf
    refine D_end ?_
    refine T_nil ?_
    refine hK2 _ _ ?_
    refine W_ret ?_
    try dsimp only [then', inBlk, noGo]
    refine ret_one (v := ?v16) rfl rfl ?h16 ?k16
    case h16 => conv => lhs; whnf
    exact ⟨_, rfl, hx, b8, rfl, new_rep m6 m7 hcf m8 g6 g7 g8⟩
  exact T_stop

section
variable {F : Nat → Prop} {bm : Nat} {l : List Cell}
theorem MRep.ge {A C D : Nat} {w : World} (h : MRep (fun k => A ≤ k ∧ k < C) w bm l) (hD : D ≤ A) : ∀ k, (fun k => A ≤ k ∧ k < C) k → D ≤ k := fun k hk => Nat.le_trans hD hk.1
theorem MRep.lt {w : World} (h : MRep F w bm l) : ∀ k, F k → k < w.heap.size := by
  obtain ⟨va, vd, a, nx, dr, L, h1, h2, h3, h4, h5⟩ := h
  exact h5
theorem MRep.calls_put (c : Cell) (w : World) (h : MRep F w bm l) (hl : l.length ≤ 1000) (hz : sizeL l ≤ 1000000000000) : Calls Try.prog 9 [ptr bm 0, c.v].toArray w (Does F w (fun v w' => v = B (put l c).1 ∧ MRep (moveF F w w') w' bm (put l c).2)) := by
  obtain ⟨va, vd, a, nx, dr, L, h1, h2, h3, h4, h5⟩ := h
  have hlL : l.length = L.length := (congrArg List.length h2.cells).trans (List.length_map ..)
  have hal := h2.len
  exact Calls.mono (put_at bm va vd a nx dr _ _ L l F c w h1 h2 h3 (by omega) rfl rfl h4 h5 hz) fun e w' ⟨h1, h2, h3⟩ => ⟨_, h1, h2, rfl, h3⟩
theorem MRep.calls_get (key : Str) (seq : Int) (w : World) (h : MRep F w bm l) (hl : l.length ≤ 1000) : Calls Try.prog 10 [ptr bm 0, S key, I seq].toArray w (Pure w (.tuple #[((first l key seq).getD Cell.zero).v, B (first l key seq).isSome])) := by
  obtain ⟨va, vd, a, nx, dr, L, h1, h2, h3, h4, h5⟩ := h
  have hlL : l.length = L.length := (congrArg List.length h2.cells).trans (List.length_map ..)
  have hal := h2.len
  exact get_w bm va vd a nx dr _ _ L l key seq w h1 h2 h3 (by omega)
theorem MRep.calls_len (w : World) (h : MRep F w bm l) (hl : l.length ≤ 1000) : Calls Try.prog 18 [ptr bm 0].toArray w (Pure w (I ↑l.length)) := by
  obtain ⟨va, vd, a, nx, dr, L, h1, h2, h3, h4, h5⟩ := h
  have hlL : l.length = L.length := (congrArg List.length h2.cells).trans (List.length_map ..)
  have hal := h2.len
  have := mlen_w bm va vd a nx dr _ _ L l w h1 h2 h3 (by omega)
  rwa [show a.length - 1 = l.length by omega] at this
theorem MRep.calls_size (w : World) (h : MRep F w bm l) (hl : l.length ≤ 1000) : Calls Try.prog 19 [ptr bm 0].toArray w (Pure w (I ↑(sizeL l))) := by
  obtain ⟨va, vd, a, nx, dr, L, h1, h2, h3, h4, h5⟩ := h
  have hlL : l.length = L.length := (congrArg List.length h2.cells).trans (List.length_map ..)
  have hal := h2.len
  exact msize_w bm va vd a nx dr _ _ L l w h1 h2 h3 (by omega)
theorem MRep.calls_scan (frm to : Str) (w : World) (h : MRep F w bm l) (hl : l.length ≤ 1000) (hb : ∀ x ∈ l, x.seq ≤ 4611686018427387904) : Calls Try.prog 15 [ptr bm 0, S frm, S to].toArray w (Gives w (fun v' w' => Own Cell.cs 4 28 w.heap.size w' v' (scan l frm to))) := by
  obtain ⟨va, vd, a, nx, dr, L, h1, h2, h3, h4, h5⟩ := h
  have hlL : l.length = L.length := (congrArg List.length h2.cells).trans (List.length_map ..)
  have hal := h2.len
  exact scan_w bm va vd a nx dr _ _ L l frm to w h1 h2 h3 (by omega) hb
theorem MRep.calls_all (w : World) (h : MRep F w bm l) (hl : l.length ≤ 1000) (hb : ∀ x ∈ l, x.seq ≤ 4611686018427387904) : Calls Try.prog 17 [ptr bm 0].toArray w (Gives w (fun v' w' => Own Cell.cs 4 28 w.heap.size w' v' l)) := by
  obtain ⟨va, vd, a, nx, dr, L, h1, h2, h3, h4, h5⟩ := h
  have hlL : l.length = L.length := (congrArg List.length h2.cells).trans (List.length_map ..)
  have hal := h2.len
  exact all_w bm va vd a nx dr _ _ L l w h1 h2 h3 (by omega) hb
end
def ka : Cell := ⟨[97], [120], false, 1⟩
def kb : Cell := ⟨[97], [], true, 2⟩
theorem k_put1 : put [] ka = (true, [ka]) := by decide
theorem k_put2 : put [ka] kb = (true, [kb, ka]) := by decide
theorem k_get1 : first [kb, ka] [97] 2 = some kb := by decide
theorem k_get2 : first [kb, ka] [97] 1 = some ka := by decide
theorem more_ge {F : Nat → Prop} {D : Nat} {w w' : World} (hF : ∀ k, F k → D ≤ k) (hD : D ≤ w.heap.size) : ∀ k, moveF F w w' k → D ≤ k := fun k hk => hk.elim (hF k) (fun h => by have := h.1; omega)

set_option maxRecDepth 100000 in
set_option maxHeartbeats 1000000 in
theorem known_w (w : World) :
    Calls Try.prog 8 [].toArray w (Pure w (B true)) := by
  refine calls_W Try.func8 rfl rfl rfl (by kernel_rfl) ?_
  have hx := Ext.refl w
  refine W_seq fun K1 hK1 => ?_
  refine W_reg [.p] rfl ?_
  refine D_as (v := ?v1) rfl ?h1 ?k1
  case h1 => conv => lhs; whnf
  refine D_end (hK1 _ _ ?_)
  refine W_seq fun K2 hK2 => ?_
  refine W_reg [.x, .x, .p] rfl ?_
  refine D_lit (e := 50) (sz := 1) (zs := [.int .u32 0]) (pv := [(0, ?a2_0), (1, ?a2_1), (2, ?a2_2)]) (cs := [?a2_0, ?a2_1, ?a2_2]) rfl (by kernel_rfl) ⟨rfl, rfl⟩ (by kernel_rfl) rfl ?h2 ?f2 RX.all (fun b1 w1 e1 x1 m1 => ?k2)
  case h2 => refine ⟨rfl, ?_, rfl, ?_, rfl, ?_, trivial⟩ <;> (conv => lhs; whnf)
  case f2 => rfl
  have g1 : w.heap.size ≤ b1 := by have := hx.size; omega
  replace hx := hx.trans x1
  refine D_callG rfl (by kernel_rfl) (new_w [1, 2, 3] _ _ (m1.arr (enc := encU) (l := [1, 2, 3]) rfl (by intro x; rfl) rfl (by simp)) (by simp)) rfl RX.all (fun v2 w2 x2 hf2 => ?_)
  have hsz2 := hx.size
  replace m1 := m1.ext x2
  replace hx := hx.trans x2
  obtain ⟨bm, rfl, hR0⟩ := hf2
  have hG0 := hR0.ge hsz2
  refine D_as (v := ?v3) rfl ?h3 ?k3
  case h3 => conv => lhs; whnf
  refine D_end (hK2 _ _ ?_)
  refine W_seq fun K3 hK3 => ?_
  refine W_seq fun K4 hK4 => ?_
  refine W_reg [.p, .p] rfl ?_
  refine D_mv (v := ?v4) rfl ?h4 ?k4
  case h4 => conv => lhs; whnf
  refine D_p rfl (pv_eqP (by kernel_rfl) rfl rfl) ?_
  refine D_end (hK4 _ _ ?_)
  refine W_if rfl (fun c1 => ?_) (fun c1 => ?_)
  ·
    cases c1
  ·
    refine W_skip ?_
    refine hK3 _ _ ?_
    refine W_seq fun K5 hK5 => ?_
    refine W_reg [.p, .p, .x, .p, .p, .x, .p, .p] rfl ?_
    refine D_mv (v := ?v5) rfl ?h5 ?k5
    case h5 => conv => lhs; whnf
    refine D_p rfl (pv_build (zs := [S [], S [], B false, .int .i64 0]) (pl := [(0, 1), (1, 1), (2, 1), (3, 1)]) (pv := [(0, ?a6_0), (1, ?a6_1), (3, ?a6_2)]) (cs := [?a6_0, ?a6_1, B false, ?a6_2]) (by kernel_rfl) (by kernel_rfl) ?h6 ?f6) ?k6
    case h6 => refine ⟨rfl, ?_, rfl, ?_, rfl, ?_, trivial⟩ <;> (conv => lhs; whnf)
    case f6 => rfl
    refine D_callD rfl (by kernel_rfl) (hR0.calls_put ka _ (by decide) (by decide)) rfl (.inl rfl) (fun v3 w3 x3 hf3 => ?_)
    have hsz3 := hx.size
    replace hx := hx.own x3 (fun i hi => hG0 i hi)
    obtain ⟨rfl, hR1⟩ := hf3
    rw [k_put1] at hR1
    have hG1 := more_ge (w' := w3) hG0 hsz3
    refine D_mv (v := ?v7) rfl ?h7 ?k7
    case h7 => conv => lhs; whnf
    refine D_p rfl (pv_build (zs := [S [], S [], B false, .int .i64 0]) (pl := [(0, 1), (1, 1), (2, 1), (3, 1)]) (pv := [(0, ?a8_0), (2, ?a8_1), (3, ?a8_2)]) (cs := [?a8_0, S [], ?a8_1, ?a8_2]) (by kernel_rfl) (by kernel_rfl) ?h8 ?f8) ?k8
    case h8 => refine ⟨rfl, ?_, rfl, ?_, rfl, ?_, trivial⟩ <;> (conv => lhs; whnf)
    case f8 => rfl
    refine D_callD rfl (by kernel_rfl) (hR1.calls_put kb _ (by decide) (by decide)) rfl (.inl rfl) (fun v4 w4 x4 hf4 => ?_)
    have hsz4 := hx.size
    replace hx := hx.own x4 (fun i hi => hG1 i hi)
    obtain ⟨rfl, hR2⟩ := hf4
    rw [k_put2] at hR2
    have hG2 := more_ge (w' := w4) hG1 hsz4
    refine D_as (v := ?v9) rfl ?h9 ?k9
    case h9 => conv => lhs; whnf
    refine D_as (v := ?v10) rfl ?h10 ?k10
    case h10 => conv => lhs; whnf
    refine D_end (hK5 _ _ ?_)
    refine W_seq fun K6 hK6 => ?_
    refine W_reg [.p, .x, .p, .p, .p, .x, .x, .p] rfl ?_
    refine D_mv (v := ?v11) rfl ?h11 ?k11
    case h11 => conv => lhs; whnf
    refine D_callP rfl (by kernel_rfl) (hR2.calls_get [97] 2 _ (by decide)) rfl RX.all (fun w5 x5 => ?_)
    replace hR2 := hR2.ext x5
    replace hx := hx.trans x5
    refine D_mv (v := ?v12) rfl ?h12 ?k12
    case h12 => conv => lhs; whnf
    refine D_p rfl (pv_ext rfl rfl) ?_
    refine D_p rfl (pv_ext rfl rfl) ?_
    refine D_alloc (cs := [S [], S [], B false, .int .i64 0]) rfl (by kernel_rfl) RX.all (fun b2 w6 e2 x6 m2 => ?_)
    have g2 : w.heap.size ≤ b2 := by have := hx.size; omega
    have o2_hR2 := hR2.lt
    replace hR2 := hR2.ext x6
    replace hx := hx.trans x6
    refine D_store (v := ?v13) (vs := ?u13) rfl rfl ?h13 ?c13 ?s13 m2 ?o13 ?n13 (.inl rfl) (fun w7 x7 xs7 m2 => ?k13)
    case h13 => conv => lhs; whnf
    case c13 => exact rfl
    case s13 => kernel_rfl
    case o13 => exact Nat.le_of_ble_eq_true rfl
    case n13 => simp [Value.oneCell']
    try dsimp only [setAt, List.set, List.take, List.drop] at m2
    try replace hR2 := hR2.mod x7 (by first | assumption | (intro k hk h; have h1 := (hR2.lt k hk).1; have h2 : k = b2 := h; omega) | (intro k hk h; have h1 := o2_hR2 k hk; have h2 : k = b2 := h; omega) | (intro h; have h2 : _ = b2 := h; omega) | (intro hl h; have h1 := a2_hR2 hl; have h2 : _ = b2 := h; omega))
    replace hx := hx.own x7 (by intro i hi; have hi2 : i = b2 := hi; subst hi2; omega)
    refine D_as (v := ?v14) rfl ?h14 ?k14
    case h14 => conv => lhs; whnf
    refine D_end (hK6 _ _ ?_)
    refine W_seq fun K7 hK7 => ?_
    refine W_reg [.p, .x, .p, .p, .p, .x, .x, .p] rfl ?_
    refine D_mv (v := ?v15) rfl ?h15 ?k15
    case h15 => conv => lhs; whnf
    refine D_callP rfl (by kernel_rfl) (hR2.calls_get [97] 1 _ (by decide)) rfl RX.all (fun w8 x8 => ?_)
    replace hR2 := hR2.ext x8
    replace m2 := m2.ext x8
    replace hx := hx.trans x8
    refine D_mv (v := ?v16) rfl ?h16 ?k16
    case h16 => conv => lhs; whnf
    refine D_p rfl (pv_ext rfl rfl) ?_
    refine D_p rfl (pv_ext rfl rfl) ?_
    refine D_alloc (cs := [S [], S [], B false, .int .i64 0]) rfl (by kernel_rfl) RX.all (fun b3 w9 e3 x9 m3 => ?_)
    have g3 : w.heap.size ≤ b3 := by have := hx.size; omega
    have n3_2 : b2 < b3 := by have := m2.lt; omega
    have o3_hR2 := hR2.lt
    replace hR2 := hR2.ext x9
    replace m2 := m2.ext x9
    replace hx := hx.trans x9
    refine D_store (v := ?v17) (vs := ?u17) rfl rfl ?h17 ?c17 ?s17 m3 ?o17 ?n17 (.inl rfl) (fun w10 x10 xs10 m3 => ?k17)
    case h17 => conv => lhs; whnf
    case c17 => exact rfl
    case s17 => kernel_rfl
    case o17 => exact Nat.le_of_ble_eq_true rfl
    case n17 => simp [Value.oneCell']
    try dsimp only [setAt, List.set, List.take, List.drop] at m3
    try replace hR2 := hR2.mod x10 (by first | assumption | (intro k hk h; have h1 := (hR2.lt k hk).1; have h2 : k = b3 := h; omega) | (intro k hk h; have h1 := o3_hR2 k hk; have h2 : k = b3 := h; omega) | (intro h; have h2 : _ = b3 := h; omega) | (intro hl h; have h1 := a3_hR2 hl; have h2 : _ = b3 := h; omega))
    try replace m2 := m2.mod x10 (by first | assumption | (intro k hk h; have h1 := (m2.lt k hk).1; have h2 : k = b3 := h; omega) | (intro k hk h; have h1 := o3_m2 k hk; have h2 : k = b3 := h; omega) | (intro h; have h2 : _ = b3 := h; omega) | (intro hl h; have h1 := a3_m2 hl; have h2 : _ = b3 := h; omega))
    replace hx := hx.own x10 (by intro i hi; have hi2 : i = b3 := hi; subst hi2; omega)
    refine D_as (v := ?v18) rfl ?h18 ?k18
    case h18 => conv => lhs; whnf
    refine D_end (hK7 _ _ ?_)
    refine W_seq fun K8 hK8 => ?_
    refine W_reg [.p, .p, .p, .p, .p, .p, .p, .p, .p, .l, .p, .p, .p, .p, .p, .p, .l, .p, .p, .p, .p, .x, .p, .p, .p] rfl ?_
    refine D_mv (v := ?v19) rfl ?h19 ?k19
    case h19 => conv => lhs; whnf
    refine D_mv (v := ?v20) rfl ?h20 ?k20
    case h20 => conv => lhs; whnf
    refine D_split 29 rfl (fun c2 => ?_) (fun c2 => ?_)
    ·
      refine D_mv (v := ?v21) rfl ?h21 ?k21
      case h21 => conv => lhs; whnf
      refine D_pe (v := ?v22) rfl (pv_pick rfl rfl rfl) ?h22 ?k22
      case h22 => conv => lhs; whnf
      refine D_mv (v := ?v23) rfl ?h23 ?k23
      case h23 => conv => lhs; whnf
      refine D_split 32 rfl (fun c3 => ?_) (fun c3 => ?_)
      ·
        refine D_mv (v := ?v24) rfl ?h24 ?k24
        case h24 => conv => lhs; whnf
        refine D_pe (v := ?v25) rfl (pv_pick rfl rfl rfl) ?h25 ?k25
        case h25 => conv => lhs; whnf
        refine D_mv (v := ?v26) rfl ?h26 ?k26
        case h26 => conv => lhs; whnf
        refine D_split 35 rfl (fun c4 => ?_) (fun c4 => ?_)
        ·
          refine D_p rfl (pv_fieldA (k := 2) (by kernel_rfl) rfl) ?_
          refine D_lq rfl (lv_load (by kernel_rfl) rfl (m2.at rfl)) ?_
          refine D_pe (v := ?v27) rfl (pv_pick rfl rfl rfl) ?h27 ?k27
          case h27 => conv => lhs; whnf
          refine D_mv (v := ?v28) rfl ?h28 ?k28
          case h28 => conv => lhs; whnf
          refine D_split 39 rfl (fun c5 => ?_) (fun c5 => ?_)
          ·
            refine D_mv (v := ?v29) rfl ?h29 ?k29
            case h29 => conv => lhs; whnf
            refine D_pe (v := ?v30) rfl (pv_pick rfl rfl rfl) ?h30 ?k30
            case h30 => conv => lhs; whnf
            refine D_mv (v := ?v31) rfl ?h31 ?k31
            case h31 => conv => lhs; whnf
            refine D_split 42 rfl (fun c6 => ?_) (fun c6 => ?_)
            ·
              refine D_p rfl (pv_fieldA (k := 1) (by kernel_rfl) rfl) ?_
              refine D_lq rfl (lv_load (by kernel_rfl) rfl (m3.at rfl)) ?_
              refine D_p rfl (pv_seq rfl rfl) ?_
              refine D_pe (v := ?v32) rfl (pv_pick rfl rfl rfl) ?h32 ?k32
              case h32 => conv => lhs; whnf
              refine D_mv (v := ?v33) rfl ?h33 ?k33
              case h33 => conv => lhs; whnf
              refine D_splitP 47 rfl (fun c7 => ?_) (fun c7 => ?_)
              ·
                refine D_mv (v := ?v34) rfl ?h34 ?k34
                case h34 => conv => lhs; whnf
                refine D_callP rfl (by kernel_rfl) (hR2.calls_len _ (by decide)) rfl RX.all (fun w11 x11 => ?_)
                replace hR2 := hR2.ext x11
                replace m2 := m2.ext x11
                replace m3 := m3.ext x11
                replace hx := hx.trans x11
                refine D_p rfl (pv_eql rfl rfl) ?_
                refine D_pe (v := ?v35) rfl (pv_pick rfl rfl rfl) ?h35 ?k35
                case h35 => conv => lhs; whnf
                refine D_as (v := ?v36) rfl ?h36 ?k36
                case h36 => conv => lhs; whnf
                refine D_end (hK8 _ _ ?_)
                refine W_ret ?_
                try dsimp only [then', inBlk, noGo]
                refine ret_one (v := ?v37) rfl rfl ?h37 ?k37
                case h37 => conv => lhs; whnf
                first
                | exact ⟨rfl, hx⟩
                | exact absurd c7 (by decide)
                | exact absurd c6 (by decide)
                | exact absurd c5 (by decide)
                | exact absurd c4 (by decide)
                | exact absurd c3 (by decide)
                | exact absurd c2 (by decide)
              ·
                refine D_skip rfl ?_
                refine D_skip rfl ?_
                refine D_skip rfl ?_
                refine D_pe (v := ?v38) rfl (pv_pick rfl rfl rfl) ?h38 ?k38
                case h38 => conv => lhs; whnf
                refine D_as (v := ?v39) rfl ?h39 ?k39
                case h39 => conv => lhs; whnf
                refine D_end (hK8 _ _ ?_)
                refine W_ret ?_
                try dsimp only [then', inBlk, noGo]
                refine ret_one (v := ?v40) rfl rfl ?h40 ?k40
                case h40 => conv => lhs; whnf
                first
                | exact ⟨rfl, hx⟩
                | exact absurd c7 (by decide)
                | exact absurd c6 (by decide)
                | exact absurd c5 (by decide)
                | exact absurd c4 (by decide)
                | exact absurd c3 (by decide)
                | exact absurd c2 (by decide)
            ·
              refine D_skip rfl ?_
              refine D_skip rfl ?_
              refine D_skip rfl ?_
              refine D_pe (v := ?v41) rfl (pv_pick rfl rfl rfl) ?h41 ?k41
              case h41 => conv => lhs; whnf
              refine D_mv (v := ?v42) rfl ?h42 ?k42
              case h42 => conv => lhs; whnf
              refine D_skip rfl ?_
              refine D_skip rfl ?_
              refine D_skip rfl ?_
              refine D_pe (v := ?v43) rfl (pv_pick rfl rfl rfl) ?h43 ?k43
              case h43 => conv => lhs; whnf
              refine D_as (v := ?v44) rfl ?h44 ?k44
              case h44 => conv => lhs; whnf
              refine D_end (hK8 _ _ ?_)
              refine W_ret ?_
              try dsimp only [then', inBlk, noGo]
              refine ret_one (v := ?v45) rfl rfl ?h45 ?k45
              case h45 => conv => lhs; whnf
              first
              | exact ⟨rfl, hx⟩
              | exact absurd c7 (by decide)
              | exact absurd c6 (by decide)
              | exact absurd c5 (by decide)
              | exact absurd c4 (by decide)
              | exact absurd c3 (by decide)
              | exact absurd c2 (by decide)
          ·
            refine D_skip rfl ?_
            refine D_pe (v := ?v46) rfl (pv_pick rfl rfl rfl) ?h46 ?k46
            case h46 => conv => lhs; whnf
            refine D_mv (v := ?v47) rfl ?h47 ?k47
            case h47 => conv => lhs; whnf
            refine D_skip rfl ?_
            refine D_skip rfl ?_
            refine D_skip rfl ?_
            refine D_pe (v := ?v48) rfl (pv_pick rfl rfl rfl) ?h48 ?k48
            case h48 => conv => lhs; whnf
            refine D_mv (v := ?v49) rfl ?h49 ?k49
            case h49 => conv => lhs; whnf
            refine D_skip rfl ?_
            refine D_skip rfl ?_
            refine D_skip rfl ?_
            refine D_pe (v := ?v50) rfl (pv_pick rfl rfl rfl) ?h50 ?k50
            case h50 => conv => lhs; whnf
            refine D_as (v := ?v51) rfl ?h51 ?k51
            case h51 => conv => lhs; whnf
            refine D_end (hK8 _ _ ?_)
            refine W_ret ?_
            try dsimp only [then', inBlk, noGo]
            refine ret_one (v := ?v52) rfl rfl ?h52 ?k52
            case h52 => conv => lhs; whnf
            first
            | exact ⟨rfl, hx⟩
            | exact absurd c7 (by decide)
            | exact absurd c6 (by decide)
            | exact absurd c5 (by decide)
            | exact absurd c4 (by decide)
            | exact absurd c3 (by decide)
            | exact absurd c2 (by decide)
        ·
          refine D_skip rfl ?_
          refine D_skip rfl ?_
          refine D_pe (v := ?v53) rfl (pv_pick rfl rfl rfl) ?h53 ?k53
          case h53 => conv => lhs; whnf
          refine D_mv (v := ?v54) rfl ?h54 ?k54
          case h54 => conv => lhs; whnf
          refine D_skip rfl ?_
          refine D_pe (v := ?v55) rfl (pv_pick rfl rfl rfl) ?h55 ?k55
          case h55 => conv => lhs; whnf
          refine D_mv (v := ?v56) rfl ?h56 ?k56
          case h56 => conv => lhs; whnf
          refine D_skip rfl ?_
          refine D_skip rfl ?_
          refine D_skip rfl ?_
          refine D_pe (v := ?v57) rfl (pv_pick rfl rfl rfl) ?h57 ?k57
          case h57 => conv => lhs; whnf
          refine D_mv (v := ?v58) rfl ?h58 ?k58
          case h58 => conv => lhs; whnf
          refine D_skip rfl ?_
          refine D_skip rfl ?_
          refine D_skip rfl ?_
          refine D_pe (v := ?v59) rfl (pv_pick rfl rfl rfl) ?h59 ?k59
          case h59 => conv => lhs; whnf
          refine D_as (v := ?v60) rfl ?h60 ?k60
          case h60 => conv => lhs; whnf
          refine D_end (hK8 _ _ ?_)
          refine W_ret ?_
          try dsimp only [then', inBlk, noGo]
          refine ret_one (v := ?v61) rfl rfl ?h61 ?k61
          case h61 => conv => lhs; whnf
          first
          | exact ⟨rfl, hx⟩
          | exact absurd c7 (by decide)
          | exact absurd c6 (by decide)
          | exact absurd c5 (by decide)
          | exact absurd c4 (by decide)
          | exact absurd c3 (by decide)
          | exact absurd c2 (by decide)
      ·
        refine D_skip rfl ?_
        refine D_pe (v := ?v62) rfl (pv_pick rfl rfl rfl) ?h62 ?k62
        case h62 => conv => lhs; whnf
        refine D_mv (v := ?v63) rfl ?h63 ?k63
        case h63 => conv => lhs; whnf
        refine D_skip rfl ?_
        refine D_skip rfl ?_
        refine D_pe (v := ?v64) rfl (pv_pick rfl rfl rfl) ?h64 ?k64
        case h64 => conv => lhs; whnf
        refine D_mv (v := ?v65) rfl ?h65 ?k65
        case h65 => conv => lhs; whnf
        refine D_skip rfl ?_
        refine D_pe (v := ?v66) rfl (pv_pick rfl rfl rfl) ?h66 ?k66
        case h66 => conv => lhs; whnf
        refine D_mv (v := ?v67) rfl ?h67 ?k67
        case h67 => conv => lhs; whnf
        refine D_skip rfl ?_
        refine D_skip rfl ?_
        refine D_skip rfl ?_
        refine D_pe (v := ?v68) rfl (pv_pick rfl rfl rfl) ?h68 ?k68
        case h68 => conv => lhs; whnf
        refine D_mv (v := ?v69) rfl ?h69 ?k69
        case h69 => conv => lhs; whnf
        refine D_skip rfl ?_
        refine D_skip rfl ?_
        refine D_skip rfl ?_
        refine D_pe (v := ?v70) rfl (pv_pick rfl rfl rfl) ?h70 ?k70
        case h70 => conv => lhs; whnf
        refine D_as (v := ?v71) rfl ?h71 ?k71
        case h71 => conv => lhs; whnf
        refine D_end (hK8 _ _ ?_)
        refine W_ret ?_
        try dsimp only [then', inBlk, noGo]
        refine ret_one (v := ?v72) rfl rfl ?h72 ?k72
        case h72 => conv => lhs; whnf
        first
        | exact ⟨rfl, hx⟩
        | exact absurd c7 (by decide)
        | exact absurd c6 (by decide)
        | exact absurd c5 (by decide)
        | exact absurd c4 (by decide)
        | exact absurd c3 (by decide)
        | exact absurd c2 (by decide)
    ·
      refine D_skip rfl ?_
      refine D_pe (v := ?v73) rfl (pv_pick rfl rfl rfl) ?h73 ?k73
      case h73 => conv => lhs; whnf
      refine D_mv (v := ?v74) rfl ?h74 ?k74
      case h74 => conv => lhs; whnf
      refine D_skip rfl ?_
      refine D_pe (v := ?v75) rfl (pv_pick rfl rfl rfl) ?h75 ?k75
      case h75 => conv => lhs; whnf
      refine D_mv (v := ?v76) rfl ?h76 ?k76
      case h76 => conv => lhs; whnf
      refine D_skip rfl ?_
      refine D_skip rfl ?_
      refine D_pe (v := ?v77) rfl (pv_pick rfl rfl rfl) ?h77 ?k77
      case h77 => conv => lhs; whnf
      refine D_mv (v := ?v78) rfl ?h78 ?k78
      case h78 => conv => lhs; whnf
      refine D_skip rfl ?_
      refine D_pe (v := ?v79) rfl (pv_pick rfl rfl rfl) ?h79 ?k79
      case h79 => conv => lhs; whnf
      refine D_mv (v := ?v80) rfl ?h80 ?k80
      case h80 => conv => lhs; whnf
      refine D_skip rfl ?_
      refine D_skip rfl ?_
      refine D_skip rfl ?_
      refine D_pe (v := ?v81) rfl (pv_pick rfl rfl rfl) ?h81 ?k81
      case h81 => conv => lhs; whnf
      refine D_mv (v := ?v82) rfl ?h82 ?k82
      case h82 => conv => lhs; whnf
      refine D_skip rfl ?_
      refine D_skip rfl ?_
      refine D_skip rfl ?_
      refine D_pe (v := ?v83) rfl (pv_pick rfl rfl rfl) ?h83 ?k83
      case h83 => conv => lhs; whnf
      refine D_as (v := ?v84) rfl ?h84 ?k84
      case h84 => conv => lhs; whnf
      refine D_end (hK8 _ _ ?_)
      refine W_ret ?_
      try dsimp only [then', inBlk, noGo]
      refine ret_one (v := ?v85) rfl rfl ?h85 ?k85
      case h85 => conv => lhs; whnf
      first
      | exact ⟨rfl, hx⟩
      | exact absurd c7 (by decide)
      | exact absurd c6 (by decide)
      | exact absurd c5 (by decide)
      | exact absurd c4 (by decide)
      | exact absurd c3 (by decide)
      | exact absurd c2 (by decide)

end Go.Proofs.Ytodmkkcediofgaa
