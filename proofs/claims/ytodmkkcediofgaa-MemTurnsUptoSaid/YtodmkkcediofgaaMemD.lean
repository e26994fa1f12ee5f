/-
  Walks.
-/
import Derived.Test.YtodmkkcediofgaaChecked
import Derived.Test.YtodmkkcediofgaaSpMem
import Derived.KernelRfl
import Derived.Test.YtodmkkcediofgaaMemC
import Derived.Test.YtodmkkcediofgaaSpTow
namespace Go.Proofs.Ytodmkkcediofgaa
open Go.Vc Go.Sp
attribute [local irreducible] W XW Dw DwT
set_option linter.unusedVariables false
set_option linter.unusedSimpArgs false

/-- A skip list in memory. -/
structure MemAt (w : World) (bm : Nat) (va vd : Value) (a : List Tow) (nx : Nat → List Nat) (dr : List Nat) (n sz : Nat) : Prop where
  hm : Blk w bm [va, vd, I n, I sz] 52
  hA : Own Tow.enc 5 47 0 w va a
  hd : Own encU 1 50 0 w vd dr
  hN : ∀ i t, a[i]? = some t → Blk w t.bk (mapJ (nx i)) 3 ∧ (nx i).length = t.h
  d2 : ∀ (i j : Nat) s t, a[i]? = some s → a[j]? = some t → s.bk = t.bk → i = j
theorem MemAt.arr {w : World} {bm : Nat} {va vd : Value} {a : List Tow} {nx : Nat → List Nat} {dr : List Nat} {n sz : Nat} (h : MemAt w bm va vd a nx dr n sz) : Arr Tow.enc 5 w va a := h.hA.arr (fun x => rfl)
theorem blk_next {w : World} {t : Tow} {q : List Nat} (h : Blk w t.bk (mapJ q) 3 ∧ q.length = t.h) (hh : t.h ≤ 12) : Arr encJ 1 w t.sl q :=
  h.1.arr (flat_mapJ q).symm (fun x => rfl) h.2.symm (by omega)
theorem MemAt.next {w : World} {bm : Nat} {va vd : Value} {a : List Tow} {nx : Nat → List Nat} {dr : List Nat} {n sz i : Nat} {t : Tow} (h : MemAt w bm va vd a nx dr n sz) {L : List Nat} {l : List Cell} {nx' : Nat → List Nat} (hs : Skip a nx' L l) (ht : a[i]? = some t) : Arr encJ 1 w t.sl (nx i) :=
  blk_next (h.hN i t ht) (by have := (hs.hle i (List.getElem?_eq_some_iff.1 ht).1).2; rwa [hgt_at ht] at this)
theorem MemAt.ext {w w' : World} {bm : Nat} {va vd : Value} {a : List Tow} {nx : Nat → List Nat} {dr : List Nat} {n sz : Nat} (h : MemAt w bm va vd a nx dr n sz) (x : Ext w w') : MemAt w' bm va vd a nx dr n sz :=
  ⟨h.hm.ext x, h.hA.ext x, h.hd.ext x, fun i t ht => ⟨(h.hN i t ht).1.ext x, (h.hN i t ht).2⟩, h.d2⟩
theorem sufI_len (a : List Tow) (L : List Nat) (c : Cell) : (sufI a L c).length ≤ L.length := by
  have := congrArg List.length (pre_sufI a L c)
  rw [List.length_append] at this
  omega
theorem scan_all (l : List Cell) : scan l [] [] = l := by
  unfold scan
  rw [List.filter_eq_self]
  intro x _
  have : sLt x.key [] = false := by cases x.key <;> rfl
  simp [inScan, this]

set_option maxRecDepth 100000 in
set_option maxHeartbeats 1000000 in
theorem ahead_w (bm : Nat) (va vd : Value) (a : List Tow) (nx : Nat → List Nat) (dr : List Nat) (n sz : Nat) (L : List Nat) (l : List Cell) (c : Cell) (w : World) (h : MemAt w bm va vd a nx dr n sz) (hs : Skip a nx L l) (hsd : Sorted l) (hal : a.length ≤ 1000000) :
    Calls Try.prog 23 [ptr bm 0, c.v].toArray w (Gives w (fun v _ => ∃ q : List Nat, v = .agg ⟨mapJ q⟩ ∧ q.length = 12 ∧ ∀ row, row < 12 → q[row]? = some (lastAt (hgt a) (0 :: preI a L c) row))) := by
  refine calls_W Try.func23 rfl rfl rfl (by kernel_rfl) ?_
  have hx := Ext.refl w
  have hm := h.hm
  have hA := h.arr
  refine W_seq fun K1 hK1 => ?_
  refine W_reg [.x, .x] rfl ?_
  refine D_box rfl rfl rfl RX.all (fun b1 w1 e1 x1 m1 => ?_)
  have g1 : w.heap.size ≤ b1 := by have := hx.size; omega
  replace hx := hx.trans x1
  refine D_alloc (cs := [.int .i64 0, .int .i64 0, .int .i64 0, .int .i64 0, .int .i64 0, .int .i64 0, .int .i64 0, .int .i64 0, .int .i64 0, .int .i64 0, .int .i64 0, .int .i64 0]) rfl (by kernel_rfl) RX.all (fun b2 w2 e2 x2 m2 => ?_)
  have g2 : w.heap.size ≤ b2 := by have := hx.size; omega
  have n2_1 : b1 < b2 := by have := m1.lt; omega
  replace m1 := m1.ext x2
  replace hx := hx.trans x2
  refine D_end (hK1 _ _ ?_)
  refine W_seq fun K2 hK2 => ?_
  refine W_reg [.x] rfl ?_
  refine D_alloc (cs := [.int .i64 0, .int .i64 0, .int .i64 0, .int .i64 0, .int .i64 0, .int .i64 0, .int .i64 0, .int .i64 0, .int .i64 0, .int .i64 0, .int .i64 0, .int .i64 0]) rfl (by kernel_rfl) RX.all (fun b3 w3 e3 x3 m3 => ?_)
  have g3 : w.heap.size ≤ b3 := by have := hx.size; omega
  have n3_1 : b1 < b3 := by have := m1.lt; omega
  have n3_2 : b2 < b3 := by have := m2.lt; omega
  replace m1 := m1.ext x3
  replace m2 := m2.ext x3
  replace hx := hx.trans x3
  refine D_end (hK2 _ _ ?_)
  refine W_seq fun K3 hK3 => ?_
  refine W_reg [.p] rfl ?_
  refine D_as (v := ?v1) rfl ?h1 ?k1
  case h1 => conv => lhs; whnf
  refine D_end (hK3 _ _ ?_)
  refine W_seq fun K4 hK4 => ?_
  refine W_seq fun K5 hK5 => ?_
  refine W_reg [.p] rfl ?_
  refine D_as (v := ?v2) rfl ?h2 ?k2
  case h2 => conv => lhs; whnf
  refine D_end (hK5 _ _ ?_)
  refine W_block ?_
  refine W_loop (G := Int × Nat × List Nat) (fun (z, p, q) => [(0, ptr bm 0), (3, ptr b1 0), (4, ptr b2 0), (5, ptr b3 0), (6, I ↑p), (7, I z)]) (fun (z, p, q) w' => Ext w w' ∧ Blk w' b1 c.cs 28 ∧ Blk w' b2 (mapJ (List.replicate 12 0)) 53 ∧ Blk w' b3 (mapJ q) 53 ∧ -1 ≤ z ∧ z ≤ 11 ∧ p ∈ 0 :: preI a L c ∧ z < hgt a p ∧ q.length = 12 ∧ ∀ row : Nat, z < row → row < 12 → q[row]? = some (lastAt (hgt a) (0 :: preI a L c) row)) (fun (z, p, q) => (z + 1).toNat) (11, 0, List.replicate 12 0) ?_ ?_ ?_
  · exact ⟨rfl, rfl, rfl, rfl, rfl, rfl, trivial⟩
  · exact ⟨hx, m1, m2, m3, by omega, by omega, List.mem_cons_self, by rw [hs.h0]; decide, rfl, fun row h1 h2 => absurd h1 (by omega)⟩
  · intro X4 g4 w4 hF4
    obtain ⟨z, p, q⟩ := g4
    clear hx m1 m2 m3
    obtain ⟨hx, m1, m2, m3, hz1, hz2, hpin, hph, hq, hq2⟩ := hF4
    refine W_seq fun K6 hK6 => ?_
    refine W_seq fun K7 hK7 => ?_
    refine W_reg [.p, .p] rfl ?_
    refine D_mv (v := ?v3) rfl ?h3 ?k3
    case h3 => conv => lhs; whnf
    refine D_p rfl (pv_geq rfl rfl) ?_
    refine D_end (hK7 _ _ ?_)
    refine W_if rfl (fun c1 => ?_) (fun c1 => ?_)
    ·
      obtain ⟨r, rfl⟩ := Int.eq_ofNat_of_zero_le c1
      obtain ⟨ta, hka⟩ : ∃ t, a[p]? = some t := ⟨_, List.getElem?_eq_getElem (by rcases List.mem_cons.1 hpin with rfl | hpin; exact hs.mem0 List.mem_cons_self; exact hs.mem0 (List.mem_cons_of_mem _ (preI_sub hpin)))⟩
      have hNa := h.next hs hka
      obtain ⟨A, R, hp⟩ : ∃ A R, 0 :: preI a L c = A ++ p :: R := List.append_of_mem hpin
      have hr := hs.nextR hp (row := r) (by omega)
      refine W_skip ?_
      refine hK6 _ _ ?_
      refine W_seq fun K8 hK8 => ?_
      refine W_block ?_
      refine W_seq fun K9 hK9 => ?_
      refine W_seq fun K10 hK10 => ?_
      refine W_reg [.p, .p, .p, .l, .p, .p, .p, .l, .p, .p, .l, .p] rfl ?_
      refine D_mv (v := ?v4) rfl ?h4 ?k4
      case h4 => conv => lhs; whnf
      refine D_p rfl (pv_nilP rfl) ?_
      refine D_p rfl (pv_fieldA (k := 0) (by kernel_rfl) rfl) ?_
      refine D_lq rfl (lv_load (by kernel_rfl) rfl ((hm.ext hx).at rfl)) ?_
      refine D_mv (v := ?v5) rfl ?h5 ?k5
      case h5 => conv => lhs; whnf
      refine D_p rfl (pv_idxA (e := 47) (k := 5) (by kernel_rfl) hA.sl rfl rfl (hA.lt hka)) ?_
      refine D_p rfl (pv_fieldA (k := 4) (by kernel_rfl) rfl) ?_
      refine D_lq rfl (lv_load (by kernel_rfl) rfl (((hA.ext hx).row hka).at rfl)) ?_
      refine D_mv (v := ?v6) rfl ?h6 ?k6
      case h6 => conv => lhs; whnf
      refine D_p rfl (pv_idxA (e := 3) (k := 1) (by kernel_rfl) hNa.sl rfl rfl (hNa.lt hr)) ?_
      refine D_lq rfl (lv_load (by kernel_rfl) rfl (((hNa.ext hx).row hr).at0 rfl)) ?_
      refine D_as (v := ?v7) rfl ?h7 ?k7
      case h7 => conv => lhs; whnf
      refine D_end (hK10 _ _ ?_)
      refine W_block ?_
      refine W_loop (G := Nat × Nat × List Nat) (fun (p2, x, R) => [(0, ptr bm 0), (3, ptr b1 0), (4, ptr b2 0), (5, ptr b3 0), (6, I ↑p2), (7, I ↑r), (8, I ↑x)]) (fun (p2, x, R) w' => Ext w w' ∧ Blk w' b1 c.cs 28 ∧ Blk w' b2 (mapJ (List.replicate 12 0)) 53 ∧ Blk w' b3 (mapJ q) 53 ∧ (∃ A, 0 :: preI a L c = A ++ p2 :: R) ∧ r < hgt a p2 ∧ x = nextAt (hgt a) (R ++ sufI a L c) r) (fun (p2, x, R) => R.length) (p, nextAt (hgt a) (R ++ sufI a L c) r, R) ?_ ?_ ?_
      · exact ⟨rfl, rfl, rfl, rfl, rfl, rfl, rfl, trivial⟩
      · exact ⟨hx, m1, m2, m3, ⟨A, hp⟩, by omega, rfl⟩
      · intro X5 g5 w5 hF5
        obtain ⟨p2, x, R⟩ := g5
        clear hx m1 m2 m3
        obtain ⟨hx, m1, m2, m3, ⟨A, hp⟩, hph, hxe⟩ := hF5
        refine W_seq fun K11 hK11 => ?_
        refine W_seq fun K12 hK12 => ?_
        refine W_draw (R := Ext) Ext.refl (fun _ _ _ => Ext.trans) (by kernel_rfl) [6, 10, 11] [(0, .p, false), (1, .p, false), (2, .p, false), (3, .p, false), (4, .p, false), (5, .p, false), (6, .l, false), (7, .p, false), (8, .p, false), (9, .p, false), (10, .l, false), (11, .l, false), (12, .x, false), (13, .p, false)] rfl (by kernel_rfl) (by kernel_rfl) (fun w6 ew6 => ?_)
        have x6 : Ext w5 w6 := by rw [ew6]; exact Ext.drew _
        clear ew6
        replace m1 := m1.ext x6
        replace m2 := m2.ext x6
        replace m3 := m3.ext x6
        replace hx := hx.trans x6
        refine D_mv (v := ?v8) rfl ?h8 ?k8
        case h8 => conv => lhs; whnf
        refine D_p rfl (pv_neq rfl rfl) ?_
        refine D_mv (v := ?v9) rfl ?h9 ?k9
        case h9 => conv => lhs; whnf
        refine D_splitP 26 rfl (fun c2 => ?_) (fun c2 => ?_)
        ·
          obtain ⟨tn, hkn⟩ : ∃ t, a[x]? = some t := by
            rcases hs.next_in hp (row := r) with e | e
            · exact absurd (congrArg (fun z : Nat => (z : Int)) (hxe.trans e)) c2
            · exact ⟨_, List.getElem?_eq_getElem (by rw [hxe]; exact hs.mem0 (List.mem_cons_of_mem _ e))⟩
          refine D_mv (v := ?v10) rfl ?h10 ?k10
          case h10 => conv => lhs; whnf
          refine D_p rfl (pv_nilP rfl) ?_
          refine D_p rfl (pv_fieldA (k := 0) (by kernel_rfl) rfl) ?_
          refine D_l rfl (fun w' hR => lv_load (by kernel_rfl) rfl ((hm.ext (hx.trans hR)).at rfl)) ?_
          refine D_mv (v := ?v11) rfl ?h11 ?k11
          case h11 => conv => lhs; whnf
          refine D_p rfl (pv_idxA (e := 47) (k := 5) (by kernel_rfl) hA.sl rfl rfl (hA.lt hkn)) ?_
          refine D_p rfl (pv_fieldA (k := 0) (by kernel_rfl) rfl) ?_
          refine D_l rfl (fun w' hR => lv_loadA (by kernel_rfl) rfl rfl (((hA.ext (hx.trans hR)).row hkn).sub 0 4)) ?_
          refine D_l rfl (fun w' hR => lv_loadA (k := 4) (by kernel_rfl) rfl rfl (m1.ext hR).row) ?_
          refine D_callP rfl (by kernel_rfl) (less_w tn.c c _) rfl RX.ext (fun w7 x7 => ?_)
          replace m1 := m1.ext x7
          replace m2 := m2.ext x7
          replace m3 := m3.ext x7
          replace hx := hx.trans x7
          refine D_pe (v := ?v12) rfl (pv_pick rfl rfl rfl) ?h12 ?k12
          case h12 => conv => lhs; whnf
          refine D_end (hK12 _ _ ?_)
          refine W_cond rfl (fun c3 => ?_) (fun c3 => ?_)
          ·
            obtain ⟨A', R', hp', hph', hR'⟩ := hs.step hsd hp (row := r) (by rw [← hxe]; intro e; exact c2 (by rw [e]; rfl)) (by rw [← hxe]; exact hkn) c3
            rw [← hxe] at hp' hph'
            have hNn := h.next hs hkn
            have hrn := hs.nextR hp' hph'
            refine W_skip ?_
            refine hK11 _ _ ?_
            refine W_seq fun K13 hK13 => ?_
            refine W_block ?_
            refine W_reg [.p, .p] rfl ?_
            refine D_mv (v := ?v13) rfl ?h13 ?k13
            case h13 => conv => lhs; whnf
            refine D_as (v := ?v14) rfl ?h14 ?k14
            case h14 => conv => lhs; whnf
            refine D_end (hK13 _ _ ?_)
            refine W_reg [.p, .p, .p, .l, .p, .p, .p, .l, .p, .p, .l, .p] rfl ?_
            refine D_mv (v := ?v15) rfl ?h15 ?k15
            case h15 => conv => lhs; whnf
            refine D_p rfl (pv_nilP rfl) ?_
            refine D_p rfl (pv_fieldA (k := 0) (by kernel_rfl) rfl) ?_
            refine D_lq rfl (lv_load (by kernel_rfl) rfl ((hm.ext hx).at rfl)) ?_
            refine D_mv (v := ?v16) rfl ?h16 ?k16
            case h16 => conv => lhs; whnf
            refine D_p rfl (pv_idxA (e := 47) (k := 5) (by kernel_rfl) hA.sl rfl rfl (hA.lt hkn)) ?_
            refine D_p rfl (pv_fieldA (k := 4) (by kernel_rfl) rfl) ?_
            refine D_lq rfl (lv_load (by kernel_rfl) rfl (((hA.ext hx).row hkn).at rfl)) ?_
            refine D_mv (v := ?v17) rfl ?h17 ?k17
            case h17 => conv => lhs; whnf
            refine D_p rfl (pv_idxA (e := 3) (k := 1) (by kernel_rfl) hNn.sl rfl rfl (hNn.lt hrn)) ?_
            refine D_lq rfl (lv_load (by kernel_rfl) rfl (((hNn.ext hx).row hrn).at0 rfl)) ?_
            refine D_as (v := ?v18) rfl ?h18 ?k18
            case h18 => conv => lhs; whnf
            refine D_end (?_)
            refine ⟨(x, nextAt (hgt a) (R' ++ sufI a L c) r, R'), ⟨rfl, rfl, rfl, rfl, rfl, rfl, rfl, trivial⟩, ⟨hx, m1, m2, m3, ⟨A', hp'⟩, hph', rfl⟩, hR'⟩
          ·
            refine W_exit ?_
            refine hK9 _ _ ?_
            refine W_reg [.p, .p, .p, .x] rfl ?_
            refine D_mv (v := ?v19) rfl ?h19 ?k19
            case h19 => conv => lhs; whnf
            refine D_mv (v := ?v20) rfl ?h20 ?k20
            case h20 => conv => lhs; whnf
            refine D_p rfl (pv_idxR (m := 12) (e := 3) (k := 1) (by kernel_rfl) rfl rfl (by omega)) ?_
            refine D_store1 (v := ?v21) rfl rfl ?h21 ?n21 (by kernel_rfl) m3 ?o21 (.inl rfl) (fun w8 x8 xs8 m3 => ?k21)
            case h21 => conv => lhs; whnf
            case n21 => first | rfl | exact isSl.one m1.sl | exact isSl.one m2.sl | exact isSl.one hA.sl | exact isSl.one hNa.sl | exact isSl.one hNn.sl | exact isSl.one hm.sl
            case o21 => simp; omega
            rw [set_mapJ] at m3
            try replace m1 := m1.mod x8 (by first | assumption | (intro k hk h; have h1 := (m1.lt k hk).1; have h2 : k = b3 := h; omega) | (intro k hk h; have h1 := o3_m1 k hk; have h2 : k = b3 := h; omega) | (intro h; have h2 : _ = b3 := h; omega) | (intro hl h; have h1 := a3_m1 hl; have h2 : _ = b3 := h; omega))
            try replace m2 := m2.mod x8 (by first | assumption | (intro k hk h; have h1 := (m2.lt k hk).1; have h2 : k = b3 := h; omega) | (intro k hk h; have h1 := o3_m2 k hk; have h2 : k = b3 := h; omega) | (intro h; have h2 : _ = b3 := h; omega) | (intro hl h; have h1 := a3_m2 hl; have h2 : _ = b3 := h; omega))
            replace hx := hx.own x8 (by intro i hi; have hi2 : i = b3 := hi; subst hi2; omega)
            refine D_end (hK8 _ _ ?_)
            refine W_reg [.p, .p, .p] rfl ?_
            refine D_mv (v := ?v22) rfl ?h22 ?k22
            case h22 => conv => lhs; whnf
            refine D_p rfl (pv_sub rfl rfl (by unfold inI64; omega)) ?_
            refine D_as (v := ?v23) rfl ?h23 ?k23
            case h23 => conv => lhs; whnf
            refine D_end (?_)
            have hst := hs.stop hp hph (by first | exact .inr ⟨tn, by rw [← hxe]; exact hkn, c3⟩ | exact .inl (by rw [← hxe]; omega))
            refine ⟨((r : Int) - 1, p2, q.set r p2), ⟨rfl, rfl, rfl, rfl, rfl, rfl, trivial⟩, ⟨hx, m1, m2, m3, by omega, by omega, by rw [hp]; simp, by omega, by simp [hq], fun row h1 h2 => ?_⟩, by simp only []; omega⟩
            by_cases e : row = r
            · subst e; rw [List.getElem?_set_self (by omega), hst]
            · rw [List.getElem?_set_ne (by omega)]; exact hq2 row (by omega) h2
        ·
          refine D_skip rfl ?_
          refine D_skip rfl ?_
          refine D_skip rfl ?_
          refine D_skip rfl ?_
          refine D_skip rfl ?_
          refine D_skip rfl ?_
          refine D_skip rfl ?_
          refine D_skip rfl ?_
          refine D_skip rfl ?_
          refine D_skip rfl ?_
          refine D_pe (v := ?v24) rfl (pv_pick rfl rfl rfl) ?h24 ?k24
          case h24 => conv => lhs; whnf
          refine D_end (hK12 _ _ ?_)
          refine W_f rfl ?_
          refine W_exit ?_
          refine hK9 _ _ ?_
          refine W_reg [.p, .p, .p, .x] rfl ?_
          refine D_mv (v := ?v25) rfl ?h25 ?k25
          case h25 => conv => lhs; whnf
          refine D_mv (v := ?v26) rfl ?h26 ?k26
          case h26 => conv => lhs; whnf
          refine D_p rfl (pv_idxR (m := 12) (e := 3) (k := 1) (by kernel_rfl) rfl rfl (by omega)) ?_
          refine D_store1 (v := ?v27) rfl rfl ?h27 ?n27 (by kernel_rfl) m3 ?o27 (.inl rfl) (fun w9 x9 xs9 m3 => ?k27)
          case h27 => conv => lhs; whnf
          case n27 => first | rfl | exact isSl.one m1.sl | exact isSl.one m2.sl | exact isSl.one hA.sl | exact isSl.one hNa.sl | exact isSl.one hNn.sl | exact isSl.one hm.sl
          case o27 => simp; omega
          rw [set_mapJ] at m3
          try replace m1 := m1.mod x9 (by first | assumption | (intro k hk h; have h1 := (m1.lt k hk).1; have h2 : k = b3 := h; omega) | (intro k hk h; have h1 := o3_m1 k hk; have h2 : k = b3 := h; omega) | (intro h; have h2 : _ = b3 := h; omega) | (intro hl h; have h1 := a3_m1 hl; have h2 : _ = b3 := h; omega))
          try replace m2 := m2.mod x9 (by first | assumption | (intro k hk h; have h1 := (m2.lt k hk).1; have h2 : k = b3 := h; omega) | (intro k hk h; have h1 := o3_m2 k hk; have h2 : k = b3 := h; omega) | (intro h; have h2 : _ = b3 := h; omega) | (intro hl h; have h1 := a3_m2 hl; have h2 : _ = b3 := h; omega))
          replace hx := hx.own x9 (by intro i hi; have hi2 : i = b3 := hi; subst hi2; omega)
          refine D_end (hK8 _ _ ?_)
          refine W_reg [.p, .p, .p] rfl ?_
          refine D_mv (v := ?v28) rfl ?h28 ?k28
          case h28 => conv => lhs; whnf
          refine D_p rfl (pv_sub rfl rfl (by unfold inI64; omega)) ?_
          refine D_as (v := ?v29) rfl ?h29 ?k29
          case h29 => conv => lhs; whnf
          refine D_end (?_)
          have hst := hs.stop hp hph (by first | exact .inr ⟨tn, by rw [← hxe]; exact hkn, c3⟩ | exact .inl (by rw [← hxe]; omega))
          refine ⟨((r : Int) - 1, p2, q.set r p2), ⟨rfl, rfl, rfl, rfl, rfl, rfl, trivial⟩, ⟨hx, m1, m2, m3, by omega, by omega, by rw [hp]; simp, by omega, by simp [hq], fun row h1 h2 => ?_⟩, by simp only []; omega⟩
          by_cases e : row = r
          · subst e; rw [List.getElem?_set_self (by omega), hst]
          · rw [List.getElem?_set_ne (by omega)]; exact hq2 row (by omega) h2
    ·
      refine W_exit ?_
      refine hK4 _ _ ?_
      refine W_seq fun K14 hK14 => ?_
      refine W_reg [.l, .x] rfl ?_
      refine D_lq rfl (lv_loadA (k := 12) (by kernel_rfl) rfl (by simp [hq]) m3.row) ?_
      refine D_storeA (m := 12) (vs := ?u30) rfl rfl ?h30 (by kernel_rfl) ?c30 ?d30 m2 ?n30 (.inl rfl) (fun w10 x10 xs10 m2 => ?k30)
      case h30 => conv => lhs; whnf
      case c30 => simp [hq]
      case d30 => rfl
      case n30 => simp [Value.oneCell']
      try dsimp only [setAt, List.set, List.take, List.drop] at m2
      try replace m1 := m1.mod x10 (by first | assumption | (intro k hk h; have h1 := (m1.lt k hk).1; have h2 : k = b2 := h; omega) | (intro k hk h; have h1 := o2_m1 k hk; have h2 : k = b2 := h; omega) | (intro h; have h2 : _ = b2 := h; omega) | (intro hl h; have h1 := a2_m1 hl; have h2 : _ = b2 := h; omega))
      try replace m3 := m3.mod x10 (by first | assumption | (intro k hk h; have h1 := (m3.lt k hk).1; have h2 : k = b2 := h; omega) | (intro k hk h; have h1 := o2_m3 k hk; have h2 : k = b2 := h; omega) | (intro h; have h2 : _ = b2 := h; omega) | (intro hl h; have h1 := a2_m3 hl; have h2 : _ = b2 := h; omega))
      replace hx := hx.own x10 (by intro i hi; have hi2 : i = b2 := hi; subst hi2; omega)
      refine D_end (hK14 _ _ ?_)
      refine W_ret ?_
      try dsimp only [then', inBlk, noGo]
      refine ret_cell (k := 12) rfl rfl rfl (by kernel_rfl) (by simp [hq]) m2.row ?_
      exact ⟨_, rfl, hx, q, rfl, hq, fun row h2 => hq2 row (by omega) h2⟩

set_option maxRecDepth 100000 in
set_option maxHeartbeats 1000000 in
theorem mfirst_w (bm : Nat) (va vd : Value) (a : List Tow) (nx : Nat → List Nat) (dr : List Nat) (n sz : Nat) (L : List Nat) (l : List Cell) (c : Cell) (w : World) (h : MemAt w bm va vd a nx dr n sz) (hs : Skip a nx L l) (hsd : Sorted l) (hal : a.length ≤ 1000000) :
    Calls Try.prog 27 [ptr bm 0, c.v].toArray w (Pure w (I ↑((sufI a L c).headD 0))) := by
  refine calls_W Try.func27 rfl rfl rfl (by kernel_rfl) ?_
  have hx := Ext.refl w
  have hm := h.hm
  have hA := h.arr
  refine W_seq fun K1 hK1 => ?_
  refine W_reg [.x, .p] rfl ?_
  refine D_box rfl rfl rfl RX.all (fun b1 w1 e1 x1 m1 => ?_)
  have g1 : w.heap.size ≤ b1 := by have := hx.size; omega
  replace hx := hx.trans x1
  refine D_as (v := ?v1) rfl ?h1 ?k1
  case h1 => conv => lhs; whnf
  refine D_end (hK1 _ _ ?_)
  refine W_seq fun K2 hK2 => ?_
  refine W_draw (R := Ext) Ext.refl (fun _ _ _ => Ext.trans) (by kernel_rfl) [3, 5, 10, 12] [(0, .p, false), (1, .p, false), (2, .p, false), (3, .l, false), (4, .p, false), (5, .l, false), (6, .x, false), (7, .p, false), (8, .p, false), (9, .p, false), (10, .l, false), (11, .p, false), (12, .l, false), (13, .p, false)] rfl (by kernel_rfl) (by kernel_rfl) (fun w2 ew2 => ?_)
  have x2 : Ext w1 w2 := by rw [ew2]; exact Ext.drew _
  clear ew2
  replace m1 := m1.ext x2
  replace hx := hx.trans x2
  refine D_mv (v := ?v2) rfl ?h2 ?k2
  case h2 => conv => lhs; whnf
  refine D_p rfl (pv_nilP rfl) ?_
  refine D_p rfl (pv_fieldA (k := 0) (by kernel_rfl) rfl) ?_
  refine D_l rfl (fun w' hR => lv_load (by kernel_rfl) rfl ((hm.ext (hx.trans hR)).at rfl)) ?_
  refine D_mv (v := ?v3) rfl ?h3 ?k3
  case h3 => conv => lhs; whnf
  refine D_l rfl (fun w' hR => lv_loadA (k := 4) (by kernel_rfl) rfl rfl (m1.ext hR).row) ?_
  refine D_callG rfl (by kernel_rfl) (ahead_w bm va vd a nx dr n sz L l c _ (h.ext hx) hs hsd hal) rfl RX.ext (fun v3 w3 x3 hf3 => ?_)
  have hsz3 := hx.size
  replace m1 := m1.ext x3
  replace hx := hx.trans x3
  obtain ⟨q, rfl, hq, hql⟩ := hf3
  obtain ⟨A, i0, hp, hla, hi0, hn0⟩ := hs.last c
  obtain ⟨t0, hk0⟩ : ∃ t, a[i0]? = some t := ⟨_, List.getElem?_eq_getElem hi0⟩
  have hN0 := h.next hs hk0
  have hq0 : (mapJ q)[0]? = some (I ↑i0) := by rw [List.getElem?_map, hql 0 (by decide), hla]; rfl
  refine D_p rfl (pv_idxG (m := 12) (e := 3) (by kernel_rfl) (by kernel_rfl) rfl rfl (by decide) hq0) ?_
  refine D_p rfl (pv_idxA (e := 47) (k := 5) (by kernel_rfl) hA.sl rfl rfl (hA.lt hk0)) ?_
  refine D_p rfl (pv_fieldA (k := 4) (by kernel_rfl) rfl) ?_
  refine D_l rfl (fun w' hR => lv_load (by kernel_rfl) rfl (((hA.ext (hx.trans hR)).row hk0).at rfl)) ?_
  refine D_p rfl (pv_idxA (e := 3) (k := 1) (by kernel_rfl) hN0.sl rfl rfl (hN0.lt hn0)) ?_
  refine D_l rfl (fun w' hR => lv_load (by kernel_rfl) rfl (((hN0.ext (hx.trans hR)).row hn0).at0 rfl)) ?_
  refine D_as (v := ?v4) rfl ?h4 ?k4
  case h4 => conv => lhs; whnf
  refine D_end (hK2 _ _ ?_)
  refine W_ret ?_
  try dsimp only [then', inBlk, noGo]
  refine ret_one (v := ?v5) rfl rfl ?h5 ?k5
  case h5 => conv => lhs; whnf
  exact ⟨rfl, hx⟩

set_option maxRecDepth 100000 in
set_option maxHeartbeats 1000000 in
theorem get_w (bm : Nat) (va vd : Value) (a : List Tow) (nx : Nat → List Nat) (dr : List Nat) (n sz : Nat) (L : List Nat) (l : List Cell) (key : Str) (seq : Int) (w : World) (h : MemAt w bm va vd a nx dr n sz) (hs : Skip a nx L l) (hsd : Sorted l) (hal : a.length ≤ 1000000) :
    Calls Try.prog 10 [ptr bm 0, S key, I seq].toArray w (Pure w (.tuple #[((first l key seq).getD Cell.zero).v, B (first l key seq).isSome])) := by
  refine calls_W Try.func10 rfl rfl rfl (by kernel_rfl) ?_
  have hx := Ext.refl w
  have hm := h.hm
  have hA := h.arr
  refine W_seq fun K1 hK1 => ?_
  refine W_reg [.x, .p] rfl ?_
  refine D_alloc (cs := [S [], S [], B false, .int .i64 0]) rfl (by kernel_rfl) RX.all (fun b1 w1 e1 x1 m1 => ?_)
  have g1 : w.heap.size ≤ b1 := by have := hx.size; omega
  replace hx := hx.trans x1
  refine D_as (v := ?v1) rfl ?h1 ?k1
  case h1 => conv => lhs; whnf
  refine D_end (hK1 _ _ ?_)
  refine W_seq fun K2 hK2 => ?_
  refine W_seq fun K3 hK3 => ?_
  refine W_reg [.p, .p] rfl ?_
  refine D_mv (v := ?v2) rfl ?h2 ?k2
  case h2 => conv => lhs; whnf
  refine D_p rfl (pv_eqP (by kernel_rfl) rfl rfl) ?_
  refine D_end (hK3 _ _ ?_)
  refine W_if rfl (fun c1 => ?_) (fun c1 => ?_)
  ·
    cases c1
  ·
    refine W_skip ?_
    refine hK2 _ _ ?_
    refine W_seq fun K4 hK4 => ?_
    refine W_reg [.p, .p, .p, .p, .x, .p] rfl ?_
    refine D_mv (v := ?v3) rfl ?h3 ?k3
    case h3 => conv => lhs; whnf
    refine D_mv (v := ?v4) rfl ?h4 ?k4
    case h4 => conv => lhs; whnf
    refine D_mv (v := ?v5) rfl ?h5 ?k5
    case h5 => conv => lhs; whnf
    refine D_p rfl (pv_build (zs := [S [], S [], B false, .int .i64 0]) (pl := [(0, 1), (1, 1), (2, 1), (3, 1)]) (pv := [(0, ?a6_0), (3, ?a6_1)]) (cs := [?a6_0, S [], B false, ?a6_1]) (by kernel_rfl) (by kernel_rfl) ?h6 ?f6) ?k6
    case h6 => refine ⟨rfl, ?_, rfl, ?_, trivial⟩ <;> (conv => lhs; whnf)
    case f6 => rfl
    refine D_callP rfl (by kernel_rfl) (mfirst_w bm va vd a nx dr n sz L l ⟨key, [], false, seq⟩ _ (h.ext hx) hs hsd hal) rfl RX.all (fun w2 x2 => ?_)
    replace m1 := m1.ext x2
    replace hx := hx.trans x2
    refine D_as (v := ?v7) rfl ?h7 ?k7
    case h7 => conv => lhs; whnf
    refine D_end (hK4 _ _ ?_)
    refine W_seq fun K5 hK5 => ?_
    refine W_seq fun K6 hK6 => ?_
    refine W_reg [.p, .p, .p, .p, .p, .p, .l, .p, .p, .p, .p, .l, .p, .p, .p] rfl ?_
    refine D_mv (v := ?v8) rfl ?h8 ?k8
    case h8 => conv => lhs; whnf
    refine D_p rfl (pv_eql rfl rfl) ?_
    refine D_mv (v := ?v9) rfl ?h9 ?k9
    case h9 => conv => lhs; whnf
    refine D_splitP 19 rfl (fun c2 => ?_) (fun c2 => ?_)
    ·
      have hfi := hs.first_none hsd (key := key) (seq := seq) (by omega)
      refine D_skip rfl ?_
      refine D_skip rfl ?_
      refine D_skip rfl ?_
      refine D_skip rfl ?_
      refine D_skip rfl ?_
      refine D_skip rfl ?_
      refine D_skip rfl ?_
      refine D_skip rfl ?_
      refine D_skip rfl ?_
      refine D_skip rfl ?_
      refine D_skip rfl ?_
      refine D_pe (v := ?v10) rfl (pv_pick rfl rfl rfl) ?h10 ?k10
      case h10 => conv => lhs; whnf
      refine D_end (hK6 _ _ ?_)
      refine W_t rfl ?_
      refine W_seq fun K7 hK7 => ?_
      refine W_reg [.p, .x, .p] rfl ?_
      refine D_p rfl (pv_build (zs := [S [], S [], B false, .int .i64 0]) (pl := [(0, 1), (1, 1), (2, 1), (3, 1)]) (pv := []) (cs := [S [], S [], B false, .int .i64 0]) (by kernel_rfl) (by kernel_rfl) ?h11 ?f11) ?k11
      case h11 => exact trivial
      case f11 => rfl
      refine D_store (v := ?v12) (vs := ?u12) rfl rfl ?h12 ?c12 ?s12 m1 ?o12 ?n12 (.inl rfl) (fun w3 x3 xs3 m1 => ?k12)
      case h12 => conv => lhs; whnf
      case c12 => exact rfl
      case s12 => kernel_rfl
      case o12 => exact Nat.le_of_ble_eq_true rfl
      case n12 => simp [Value.oneCell']
      try dsimp only [setAt, List.set, List.take, List.drop] at m1
      replace hx := hx.own x3 (by intro i hi; have hi2 : i = b1 := hi; subst hi2; omega)
      refine D_as (v := ?v13) rfl ?h13 ?k13
      case h13 => conv => lhs; whnf
      refine D_end (hK7 _ _ ?_)
      refine W_ret ?_
      try dsimp only [then', inBlk, noGo]
      rw [hfi]
      refine ret_cell_tmp (u := ?v14) rfl rfl rfl rfl (by kernel_rfl) rfl m1.row ?h14 ?k14
      case h14 => conv => lhs; whnf
      exact ⟨rfl, hx⟩
    ·
      have hi0 : (sufI a L ⟨key, [], false, seq⟩).headD 0 ≠ 0 := by omega
      obtain ⟨ti, hki⟩ := hs.head_at hi0
      have hfi := hs.first_at hsd hi0 hki
      refine D_mv (v := ?v15) rfl ?h15 ?k15
      case h15 => conv => lhs; whnf
      refine D_p rfl (pv_nilP rfl) ?_
      refine D_p rfl (pv_fieldA (k := 0) (by kernel_rfl) rfl) ?_
      refine D_lq rfl (lv_load (by kernel_rfl) rfl ((hm.ext hx).at rfl)) ?_
      refine D_mv (v := ?v16) rfl ?h16 ?k16
      case h16 => conv => lhs; whnf
      refine D_p rfl (pv_idxA (e := 47) (k := 5) (by kernel_rfl) hA.sl rfl rfl (hA.lt hki)) ?_
      refine D_p rfl (pv_fieldA (k := 0) (by kernel_rfl) rfl) ?_
      refine D_p rfl (pv_fieldA (k := 0) (by kernel_rfl) rfl) ?_
      refine D_lq rfl (lv_load (by kernel_rfl) rfl (((hA.ext hx).row hki).at rfl)) ?_
      refine D_mv (v := ?v17) rfl ?h17 ?k17
      case h17 => conv => lhs; whnf
      refine D_p rfl (pv_sne rfl rfl) ?_
      refine D_pe (v := ?v18) rfl (pv_pick rfl rfl rfl) ?h18 ?k18
      case h18 => conv => lhs; whnf
      refine D_end (hK6 _ _ ?_)
      refine W_if rfl (fun c3 => ?_) (fun c3 => ?_)
      ·
        refine W_seq fun K8 hK8 => ?_
        refine W_reg [.p, .x, .p] rfl ?_
        refine D_p rfl (pv_build (zs := [S [], S [], B false, .int .i64 0]) (pl := [(0, 1), (1, 1), (2, 1), (3, 1)]) (pv := []) (cs := [S [], S [], B false, .int .i64 0]) (by kernel_rfl) (by kernel_rfl) ?h19 ?f19) ?k19
        case h19 => exact trivial
        case f19 => rfl
        refine D_store (v := ?v20) (vs := ?u20) rfl rfl ?h20 ?c20 ?s20 m1 ?o20 ?n20 (.inl rfl) (fun w4 x4 xs4 m1 => ?k20)
        case h20 => conv => lhs; whnf
        case c20 => exact rfl
        case s20 => kernel_rfl
        case o20 => exact Nat.le_of_ble_eq_true rfl
        case n20 => simp [Value.oneCell']
        try dsimp only [setAt, List.set, List.take, List.drop] at m1
        replace hx := hx.own x4 (by intro i hi; have hi2 : i = b1 := hi; subst hi2; omega)
        refine D_as (v := ?v21) rfl ?h21 ?k21
        case h21 => conv => lhs; whnf
        refine D_end (hK8 _ _ ?_)
        refine W_ret ?_
        try dsimp only [then', inBlk, noGo]
        rw [hfi]
        refine ret_cell_tmp (u := ?v22) rfl rfl rfl rfl (by kernel_rfl) rfl m1.row ?h22 ?k22
        case h22 => conv => lhs; whnf
        rw [if_neg c3]
        exact ⟨rfl, hx⟩
      ·
        refine W_skip ?_
        refine hK5 _ _ ?_
        refine W_seq fun K9 hK9 => ?_
        refine W_reg [.p, .p, .p, .l, .p, .p, .p, .l, .x, .p] rfl ?_
        refine D_mv (v := ?v23) rfl ?h23 ?k23
        case h23 => conv => lhs; whnf
        refine D_p rfl (pv_nilP rfl) ?_
        refine D_p rfl (pv_fieldA (k := 0) (by kernel_rfl) rfl) ?_
        refine D_lq rfl (lv_load (by kernel_rfl) rfl ((hm.ext hx).at rfl)) ?_
        refine D_mv (v := ?v24) rfl ?h24 ?k24
        case h24 => conv => lhs; whnf
        refine D_p rfl (pv_idxA (e := 47) (k := 5) (by kernel_rfl) hA.sl rfl rfl (hA.lt hki)) ?_
        refine D_p rfl (pv_fieldA (k := 0) (by kernel_rfl) rfl) ?_
        refine D_lq rfl (lv_loadA (by kernel_rfl) rfl rfl (((hA.ext hx).row hki).sub 0 4)) ?_
        refine D_store (v := ?v25) (vs := ?u25) rfl rfl ?h25 ?c25 ?s25 m1 ?o25 ?n25 (.inl rfl) (fun w5 x5 xs5 m1 => ?k25)
        case h25 => conv => lhs; whnf
        case c25 => exact rfl
        case s25 => kernel_rfl
        case o25 => exact Nat.le_of_ble_eq_true rfl
        case n25 => simp [Value.oneCell']
        try dsimp only [setAt, List.set, List.take, List.drop] at m1
        replace hx := hx.own x5 (by intro i hi; have hi2 : i = b1 := hi; subst hi2; omega)
        refine D_as (v := ?v26) rfl ?h26 ?k26
        case h26 => conv => lhs; whnf
        refine D_end (hK9 _ _ ?_)
        refine W_ret ?_
        try dsimp only [then', inBlk, noGo]
        rw [hfi]
        refine ret_cell_tmp (u := ?v27) rfl rfl rfl rfl (by kernel_rfl) rfl m1.row ?h27 ?k27
        case h27 => conv => lhs; whnf
        rw [if_pos (Decidable.of_not_not c3)]
        exact ⟨rfl, hx⟩

set_option maxRecDepth 100000 in
set_option maxHeartbeats 1000000 in
theorem get_nil (key : Str) (seq : Int) (w : World) :
    Calls Try.prog 10 [.pointer none, S key, I seq].toArray w (Pure w (.tuple #[Cell.zero.v, B false])) := by
  refine calls_W Try.func10 rfl rfl rfl (by kernel_rfl) ?_
  have hx := Ext.refl w
  refine W_seq fun K1 hK1 => ?_
  refine W_reg [.x, .p] rfl ?_
  refine D_alloc (cs := [S [], S [], B false, .int .i64 0]) rfl (by kernel_rfl) RX.all (fun b1 w1 e1 x1 m1 => ?_)
  have g1 : w.heap.size ≤ b1 := by have := hx.size; omega
  replace hx := hx.trans x1
  refine D_as (v := ?v1) rfl ?h1 ?k1
  case h1 => conv => lhs; whnf
  refine D_end (hK1 _ _ ?_)
  refine W_seq fun K2 hK2 => ?_
  refine W_seq fun K3 hK3 => ?_
  refine W_reg [.p, .p] rfl ?_
  refine D_mv (v := ?v2) rfl ?h2 ?k2
  case h2 => conv => lhs; whnf
  refine D_p rfl (pv_eqP (by kernel_rfl) rfl rfl) ?_
  refine D_end (hK3 _ _ ?_)
  refine W_if rfl (fun c1 => ?_) (fun c1 => ?_)
  ·
    refine W_seq fun K4 hK4 => ?_
    refine W_reg [.p, .x, .p] rfl ?_
    refine D_p rfl (pv_build (zs := [S [], S [], B false, .int .i64 0]) (pl := [(0, 1), (1, 1), (2, 1), (3, 1)]) (pv := []) (cs := [S [], S [], B false, .int .i64 0]) (by kernel_rfl) (by kernel_rfl) ?h3 ?f3) ?k3
    case h3 => exact trivial
    case f3 => rfl
    refine D_store (v := ?v4) (vs := ?u4) rfl rfl ?h4 ?c4 ?s4 m1 ?o4 ?n4 (.inl rfl) (fun w2 x2 xs2 m1 => ?k4)
    case h4 => conv => lhs; whnf
    case c4 => exact rfl
    case s4 => kernel_rfl
    case o4 => exact Nat.le_of_ble_eq_true rfl
    case n4 => simp [Value.oneCell']
    try dsimp only [setAt, List.set, List.take, List.drop] at m1
    replace hx := hx.own x2 (by intro i hi; have hi2 : i = b1 := hi; subst hi2; omega)
    refine D_as (v := ?v5) rfl ?h5 ?k5
    case h5 => conv => lhs; whnf
    refine D_end (hK4 _ _ ?_)
    refine W_ret ?_
    try dsimp only [then', inBlk, noGo]
    refine ret_cell_tmp (u := ?v6) rfl rfl rfl rfl (by kernel_rfl) rfl m1.row ?h6 ?k6
    case h6 => conv => lhs; whnf
    exact ⟨rfl, hx⟩
  ·
    exact absurd rfl c1

set_option maxRecDepth 100000 in
set_option maxHeartbeats 1000000 in
theorem mlen_w (bm : Nat) (va vd : Value) (a : List Tow) (nx : Nat → List Nat) (dr : List Nat) (n sz : Nat) (L : List Nat) (l : List Cell) (w : World) (h : MemAt w bm va vd a nx dr n sz) (hs : Skip a nx L l) (hsd : Sorted l) (hal : a.length ≤ 1000000) :
    Calls Try.prog 18 [ptr bm 0].toArray w (Pure w (I ↑(a.length - 1))) := by
  refine calls_W Try.func18 rfl rfl rfl (by kernel_rfl) ?_
  have hx := Ext.refl w
  have hm := h.hm
  have hA := h.arr
  refine W_seq fun K1 hK1 => ?_
  refine W_reg [.p] rfl ?_
  refine D_as (v := ?v1) rfl ?h1 ?k1
  case h1 => conv => lhs; whnf
  refine D_end (hK1 _ _ ?_)
  refine W_seq fun K2 hK2 => ?_
  refine W_seq fun K3 hK3 => ?_
  refine W_reg [.p, .p] rfl ?_
  refine D_mv (v := ?v2) rfl ?h2 ?k2
  case h2 => conv => lhs; whnf
  refine D_p rfl (pv_eqP (by kernel_rfl) rfl rfl) ?_
  refine D_end (hK3 _ _ ?_)
  refine W_if rfl (fun c1 => ?_) (fun c1 => ?_)
  ·
    cases c1
  ·
    refine W_skip ?_
    refine hK2 _ _ ?_
    refine W_seq fun K4 hK4 => ?_
    refine W_reg [.p, .p, .p, .l, .p, .p, .p] rfl ?_
    refine D_mv (v := ?v3) rfl ?h3 ?k3
    case h3 => conv => lhs; whnf
    refine D_p rfl (pv_nilP rfl) ?_
    refine D_p rfl (pv_fieldA (k := 0) (by kernel_rfl) rfl) ?_
    refine D_lq rfl (lv_load (by kernel_rfl) rfl ((hm.ext hx).at rfl)) ?_
    refine D_p rfl (pv_lenV (e := 47) (k := 5) (by kernel_rfl) hA.sl rfl) ?_
    refine D_p rfl (pv_sub rfl rfl (by unfold inI64; omega)) ?_
    refine D_as (v := ?v4) rfl ?h4 ?k4
    case h4 => conv => lhs; whnf
    refine D_end (hK4 _ _ ?_)
    refine W_ret ?_
    try dsimp only [then', inBlk, noGo]
    refine ret_one (v := ?v5) rfl rfl ?h5 ?k5
    case h5 => conv => lhs; whnf
    refine ⟨?_, hx⟩
    have := hs.len
    rw [Int.ofNat_sub (by omega)]; rfl

set_option maxRecDepth 100000 in
set_option maxHeartbeats 1000000 in
theorem mlen_nil (w : World) :
    Calls Try.prog 18 [.pointer none].toArray w (Pure w (I 0)) := by
  refine calls_W Try.func18 rfl rfl rfl (by kernel_rfl) ?_
  have hx := Ext.refl w
  refine W_seq fun K1 hK1 => ?_
  refine W_reg [.p] rfl ?_
  refine D_as (v := ?v1) rfl ?h1 ?k1
  case h1 => conv => lhs; whnf
  refine D_end (hK1 _ _ ?_)
  refine W_seq fun K2 hK2 => ?_
  refine W_seq fun K3 hK3 => ?_
  refine W_reg [.p, .p] rfl ?_
  refine D_mv (v := ?v2) rfl ?h2 ?k2
  case h2 => conv => lhs; whnf
  refine D_p rfl (pv_eqP (by kernel_rfl) rfl rfl) ?_
  refine D_end (hK3 _ _ ?_)
  refine W_if rfl (fun c1 => ?_) (fun c1 => ?_)
  ·
    refine W_seq fun K4 hK4 => ?_
    refine W_reg [.p] rfl ?_
    refine D_as (v := ?v3) rfl ?h3 ?k3
    case h3 => conv => lhs; whnf
    refine D_end (hK4 _ _ ?_)
    refine W_ret ?_
    try dsimp only [then', inBlk, noGo]
    refine ret_one (v := ?v4) rfl rfl ?h4 ?k4
    case h4 => conv => lhs; whnf
    exact ⟨rfl, hx⟩
  ·
    exact absurd rfl c1

set_option maxRecDepth 100000 in
set_option maxHeartbeats 1000000 in
theorem msize_w (bm : Nat) (va vd : Value) (a : List Tow) (nx : Nat → List Nat) (dr : List Nat) (n sz : Nat) (L : List Nat) (l : List Cell) (w : World) (h : MemAt w bm va vd a nx dr n sz) (hs : Skip a nx L l) (hsd : Sorted l) (hal : a.length ≤ 1000000) :
    Calls Try.prog 19 [ptr bm 0].toArray w (Pure w (I ↑sz)) := by
  refine calls_W Try.func19 rfl rfl rfl (by kernel_rfl) ?_
  have hx := Ext.refl w
  have hm := h.hm
  have hA := h.arr
  refine W_seq fun K1 hK1 => ?_
  refine W_reg [.p] rfl ?_
  refine D_as (v := ?v1) rfl ?h1 ?k1
  case h1 => conv => lhs; whnf
  refine D_end (hK1 _ _ ?_)
  refine W_seq fun K2 hK2 => ?_
  refine W_seq fun K3 hK3 => ?_
  refine W_reg [.p, .p] rfl ?_
  refine D_mv (v := ?v2) rfl ?h2 ?k2
  case h2 => conv => lhs; whnf
  refine D_p rfl (pv_eqP (by kernel_rfl) rfl rfl) ?_
  refine D_end (hK3 _ _ ?_)
  refine W_if rfl (fun c1 => ?_) (fun c1 => ?_)
  ·
    cases c1
  ·
    refine W_skip ?_
    refine hK2 _ _ ?_
    refine W_seq fun K4 hK4 => ?_
    refine W_reg [.p, .p, .p, .l, .p] rfl ?_
    refine D_mv (v := ?v3) rfl ?h3 ?k3
    case h3 => conv => lhs; whnf
    refine D_p rfl (pv_nilP rfl) ?_
    refine D_p rfl (pv_fieldA (k := 3) (by kernel_rfl) rfl) ?_
    refine D_lq rfl (lv_load (by kernel_rfl) rfl ((hm.ext hx).at rfl)) ?_
    refine D_as (v := ?v4) rfl ?h4 ?k4
    case h4 => conv => lhs; whnf
    refine D_end (hK4 _ _ ?_)
    refine W_ret ?_
    try dsimp only [then', inBlk, noGo]
    refine ret_one (v := ?v5) rfl rfl ?h5 ?k5
    case h5 => conv => lhs; whnf
    refine ⟨?_, hx⟩
    have := hs.len
    rfl

set_option maxRecDepth 100000 in
set_option maxHeartbeats 1000000 in
theorem msize_nil (w : World) :
    Calls Try.prog 19 [.pointer none].toArray w (Pure w (I 0)) := by
  refine calls_W Try.func19 rfl rfl rfl (by kernel_rfl) ?_
  have hx := Ext.refl w
  refine W_seq fun K1 hK1 => ?_
  refine W_reg [.p] rfl ?_
  refine D_as (v := ?v1) rfl ?h1 ?k1
  case h1 => conv => lhs; whnf
  refine D_end (hK1 _ _ ?_)
  refine W_seq fun K2 hK2 => ?_
  refine W_seq fun K3 hK3 => ?_
  refine W_reg [.p, .p] rfl ?_
  refine D_mv (v := ?v2) rfl ?h2 ?k2
  case h2 => conv => lhs; whnf
  refine D_p rfl (pv_eqP (by kernel_rfl) rfl rfl) ?_
  refine D_end (hK3 _ _ ?_)
  refine W_if rfl (fun c1 => ?_) (fun c1 => ?_)
  ·
    refine W_seq fun K4 hK4 => ?_
    refine W_reg [.p] rfl ?_
    refine D_as (v := ?v3) rfl ?h3 ?k3
    case h3 => conv => lhs; whnf
    refine D_end (hK4 _ _ ?_)
    refine W_ret ?_
    try dsimp only [then', inBlk, noGo]
    refine ret_one (v := ?v4) rfl rfl ?h4 ?k4
    case h4 => conv => lhs; whnf
    exact ⟨rfl, hx⟩
  ·
    exact absurd rfl c1

set_option maxRecDepth 100000 in
set_option maxHeartbeats 1000000 in
theorem scan_w (bm : Nat) (va vd : Value) (a : List Tow) (nx : Nat → List Nat) (dr : List Nat) (n sz : Nat) (L : List Nat) (l : List Cell) (frm to : Str) (w : World) (h : MemAt w bm va vd a nx dr n sz) (hs : Skip a nx L l) (hsd : Sorted l) (hal : a.length ≤ 1000000) (hb : ∀ x ∈ l, x.seq ≤ 4611686018427387904) :
    Calls Try.prog 15 [ptr bm 0, S frm, S to].toArray w (Gives w (fun v' w' => Own Cell.cs 4 28 w.heap.size w' v' (scan l frm to))) := by
  refine calls_W Try.func15 rfl rfl rfl (by kernel_rfl) ?_
  have hx := Ext.refl w
  have hm := h.hm
  have hA := h.arr
  refine W_seq fun K1 hK1 => ?_
  refine W_reg [.p] rfl ?_
  refine D_as (v := ?v1) rfl ?h1 ?k1
  case h1 => conv => lhs; whnf
  refine D_end (hK1 _ _ ?_)
  refine W_seq fun K2 hK2 => ?_
  refine W_seq fun K3 hK3 => ?_
  refine W_reg [.p, .p] rfl ?_
  refine D_mv (v := ?v2) rfl ?h2 ?k2
  case h2 => conv => lhs; whnf
  refine D_p rfl (pv_eqP (by kernel_rfl) rfl rfl) ?_
  refine D_end (hK3 _ _ ?_)
  refine W_if rfl (fun c1 => ?_) (fun c1 => ?_)
  ·
    cases c1
  ·
    refine W_skip ?_
    refine hK2 _ _ ?_
    refine W_seq fun K4 hK4 => ?_
    refine W_reg [.p] rfl ?_
    refine D_as (v := ?v3) rfl ?h3 ?k3
    case h3 => conv => lhs; whnf
    refine D_end (hK4 _ _ ?_)
    refine W_seq fun K5 hK5 => ?_
    refine W_seq fun K6 hK6 => ?_
    refine W_reg [.p, .p, .p, .x, .p] rfl ?_
    refine D_mv (v := ?v4) rfl ?h4 ?k4
    case h4 => conv => lhs; whnf
    refine D_mv (v := ?v5) rfl ?h5 ?k5
    case h5 => conv => lhs; whnf
    refine D_p rfl (pv_build (zs := [S [], S [], B false, .int .i64 0]) (pl := [(0, 1), (1, 1), (2, 1), (3, 1)]) (pv := [(0, ?a6_0), (3, ?a6_1)]) (cs := [?a6_0, S [], B false, ?a6_1]) (by kernel_rfl) (by kernel_rfl) ?h6 ?f6) ?k6
    case h6 => refine ⟨rfl, ?_, rfl, ?_, trivial⟩ <;> (conv => lhs; whnf)
    case f6 => rfl
    refine D_callP rfl (by kernel_rfl) (mfirst_w bm va vd a nx dr n sz L l ⟨frm, [], false, 4611686018427387904⟩ _ (h.ext hx) hs hsd hal) rfl RX.all (fun w1 x1 => ?_)
    replace hx := hx.trans x1
    refine D_as (v := ?v7) rfl ?h7 ?k7
    case h7 => conv => lhs; whnf
    refine D_end (hK6 _ _ ?_)
    refine W_block ?_
    refine W_loop (G := List Nat × List Nat × Value) (fun (D, r, vm) => [(0, ptr bm 0), (2, S to), (6, .slice none 0 0), (7, vm), (8, I ↑(r.headD 0))]) (fun (D, r, vm) w' => Ext w w' ∧ sufI a L ⟨frm, [], false, 4611686018427387904⟩ = D ++ r ∧ (∀ i ∈ D, to = [] ∨ sLt (cellOf a i).key to = true) ∧ Own Cell.cs 4 28 w.heap.size w' vm (D.map (cellOf a))) (fun (D, r, vm) => r.length) ([], sufI a L ⟨frm, [], false, 4611686018427387904⟩, .slice none 0 0) ?_ ?_ ?_
    · exact ⟨rfl, rfl, rfl, rfl, rfl, trivial⟩
    · exact ⟨hx, rfl, fun i hi => (by cases hi), Own.nil⟩
    · intro X2 g2 w2 hF2
      obtain ⟨D, r, vm⟩ := g2
      clear hx 
      obtain ⟨hx, hp, hD, ho⟩ := hF2
      refine W_seq fun K7 hK7 => ?_
      refine W_seq fun K8 hK8 => ?_
      refine W_reg [.p, .p] rfl ?_
      refine D_mv (v := ?v8) rfl ?h8 ?k8
      case h8 => conv => lhs; whnf
      refine D_p rfl (pv_neq rfl rfl) ?_
      refine D_end (hK8 _ _ ?_)
      refine W_if rfl (fun c2 => ?_) (fun c2 => ?_)
      ·
        obtain ⟨i, r', rfl⟩ : ∃ i r', r = i :: r' := by
          cases r with
          | nil => exact absurd rfl c2
          | cons i r' => exact ⟨i, r', rfl⟩
        obtain ⟨hiL, hn⟩ := hs.next0 hp
        obtain ⟨ti, hki⟩ : ∃ t, a[i]? = some t := ⟨_, List.getElem?_eq_getElem (hs.mem i hiL).2⟩
        have hNi := h.next hs hki
        have hci := cellOf_at hki
        have hDl : D.length ≤ L.length := by
          have h1 := sufI_len a L ⟨frm, [], false, 4611686018427387904⟩
          rw [hp, List.length_append] at h1
          omega
        have hal2 := hs.len
        refine W_skip ?_
        refine hK7 _ _ ?_
        refine W_seq fun K9 hK9 => ?_
        refine W_block ?_
        refine W_seq fun K10 hK10 => ?_
        refine W_reg [.p, .p, .p, .l, .p, .p, .p, .l, .x, .x] rfl ?_
        refine D_mv (v := ?v9) rfl ?h9 ?k9
        case h9 => conv => lhs; whnf
        refine D_p rfl (pv_nilP rfl) ?_
        refine D_p rfl (pv_fieldA (k := 0) (by kernel_rfl) rfl) ?_
        refine D_lq rfl (lv_load (by kernel_rfl) rfl ((hm.ext hx).at rfl)) ?_
        refine D_mv (v := ?v10) rfl ?h10 ?k10
        case h10 => conv => lhs; whnf
        refine D_p rfl (pv_idxA (e := 47) (k := 5) (by kernel_rfl) hA.sl rfl rfl (hA.lt hki)) ?_
        refine D_p rfl (pv_fieldA (k := 0) (by kernel_rfl) rfl) ?_
        refine D_lq rfl (lv_loadA (by kernel_rfl) rfl rfl (((hA.ext hx).row hki).sub 0 4)) ?_
        refine D_alloc (cs := [S [], S [], B false, .int .i64 0]) rfl (by kernel_rfl) RX.all (fun b1 w3 e1 x3 m1 => ?_)
        have g1 : w.heap.size ≤ b1 := by have := hx.size; omega
        have o1_ho : ∀ k, Value.ownBlock _ = some k → k < b1 := fun k hk => by have := (ho.lt k hk).2; omega
        replace ho := ho.ext x3
        replace hx := hx.trans x3
        refine D_store (v := ?v11) (vs := ?u11) rfl rfl ?h11 ?c11 ?s11 m1 ?o11 ?n11 (.inl rfl) (fun w4 x4 xs4 m1 => ?k11)
        case h11 => conv => lhs; whnf
        case c11 => exact rfl
        case s11 => kernel_rfl
        case o11 => exact Nat.le_of_ble_eq_true rfl
        case n11 => simp [Value.oneCell']
        try dsimp only [setAt, List.set, List.take, List.drop] at m1
        try replace ho := ho.mod x4 (by first | assumption | (intro k hk h; have h1 := (ho.lt k hk).1; have h2 : k = b1 := h; omega) | (intro k hk h; have h1 := o1_ho k hk; have h2 : k = b1 := h; omega) | (intro h; have h2 : _ = b1 := h; omega) | (intro hl h; have h1 := a1_ho hl; have h2 : _ = b1 := h; omega))
        replace hx := hx.own x4 (by intro i hi; have hi2 : i = b1 := hi; subst hi2; omega)
        refine D_end (hK10 _ _ ?_)
        refine W_seq fun K11 hK11 => ?_
        refine W_seq fun K12 hK12 => ?_
        refine W_reg [.p, .p, .p, .p, .l, .p, .p, .p] rfl ?_
        refine D_mv (v := ?v12) rfl ?h12 ?k12
        case h12 => conv => lhs; whnf
        refine D_p rfl (pv_sne rfl rfl) ?_
        refine D_mv (v := ?v13) rfl ?h13 ?k13
        case h13 => conv => lhs; whnf
        refine D_splitP 38 rfl (fun c3 => ?_) (fun c3 => ?_)
        ·
          refine D_p rfl (pv_fieldA (k := 0) (by kernel_rfl) rfl) ?_
          refine D_lq rfl (lv_load (by kernel_rfl) rfl (m1.at rfl)) ?_
          refine D_mv (v := ?v14) rfl ?h14 ?k14
          case h14 => conv => lhs; whnf
          refine D_p rfl (pv_sge rfl rfl) ?_
          refine D_pe (v := ?v15) rfl (pv_pick rfl rfl rfl) ?h15 ?k15
          case h15 => conv => lhs; whnf
          refine D_end (hK12 _ _ ?_)
          refine W_cond rfl (fun c4 => ?_) (fun c4 => ?_)
          ·
            refine W_exit ?_
            refine hK5 _ _ ?_
            refine W_seq fun K13 hK13 => ?_
            refine W_reg [.p, .p] rfl ?_
            refine D_mv (v := ?v16) rfl ?h16 ?k16
            case h16 => conv => lhs; whnf
            refine D_as (v := ?v17) rfl ?h17 ?k17
            case h17 => conv => lhs; whnf
            refine D_end (hK13 _ _ ?_)
            refine W_ret ?_
            try dsimp only [then', inBlk, noGo]
            refine ret_one (v := ?v18) rfl rfl ?h18 ?k18
            case h18 => conv => lhs; whnf
            have hsc := hs.scan_done hsd hb hp hD (fun j hj => by
              first
              | (have hj2 : i = j := by simpa using hj
                 subst hj2
                 rw [hci, not_or]
                 exact ⟨c3, by simpa using c4⟩)
              | (cases r with
                 | nil => cases hj
                 | cons j' r' => exact absurd (hs.next0 hp).1 (fun hm => c2 (fun e => hs.pos hm (by have e2 : ((j' : Nat) : Int) = 0 := e; omega)))))
            exact ⟨_, rfl, hx, by rw [hsc]; exact ho⟩
          ·
            refine W_skip ?_
            refine hK11 _ _ ?_
            refine W_reg [.p, .l, .x, .x, .p] rfl ?_
            refine D_mv (v := ?v19) rfl ?h19 ?k19
            case h19 => conv => lhs; whnf
            refine D_lq rfl (lv_loadA (k := 4) (by kernel_rfl) rfl rfl m1.row) ?_
            refine D_lit (e := 28) (sz := 4) (zs := [S [], S [], B false, .int .i64 0]) (pv := [(0, .agg ⟨[?a20_0, ?a20_1, ?a20_2, ?a20_3]⟩)]) (cs := [?a20_0, ?a20_1, ?a20_2, ?a20_3]) rfl (by kernel_rfl) ⟨rfl, rfl⟩ (by kernel_rfl) rfl ?h20 ?f20 RX.all (fun b2 w5 e2 x5 m2 => ?k20)
            case h20 => refine ⟨rfl, ?_, trivial⟩ <;> (conv => lhs; whnf)
            case f20 => rfl
            have g2 : w.heap.size ≤ b2 := by have := hx.size; omega
            have n2_1 : b1 < b2 := by have := m1.lt; omega
            have o2_ho : ∀ k, Value.ownBlock _ = some k → k < b2 := fun k hk => by have := (ho.lt k hk).2; omega
            replace ho := ho.ext x5
            replace m1 := m1.ext x5
            replace hx := hx.trans x5
            refine D_append (lx := [ti.c]) (e := 28) (sz := 4) (by' := 48) rfl (by kernel_rfl) (by kernel_rfl) (by intro x; rfl) ho (m2.arr (enc := Cell.cs) (sz := 4) (l := [ti.c]) rfl (by intro x; rfl) rfl (Nat.le_of_ble_eq_true rfl)) rfl rfl (by intro x _ u hu; simp at hu; rcases hu with rfl | rfl | rfl | rfl <;> rfl) (by simp; omega) (by decide) hx.size (.inl rfl) (fun vm2 w6 ho_n x6 => ?_)
            try replace m1 := m1.mod x6 (by first | (intro h; have h2 : b1 = b1 := Option.some.inj h; omega) | (intro h; have h1 := (ho.lt _ h).1; omega))
            try replace m2 := m2.mod x6 (by first | (intro h; have h2 : b2 = b2 := Option.some.inj h; omega) | (intro h; have h1 := (ho.lt _ h).1; omega))
            replace hx := hx.own x6 (fun i hi => (ho.lt i hi).1)
            replace ho := ho_n
            refine D_as (v := ?v21) rfl ?h21 ?k21
            case h21 => conv => lhs; whnf
            refine D_end (hK9 _ _ ?_)
            refine W_reg [.p, .p, .p, .l, .p, .p, .p, .l, .p, .l, .p] rfl ?_
            refine D_mv (v := ?v22) rfl ?h22 ?k22
            case h22 => conv => lhs; whnf
            refine D_p rfl (pv_nilP rfl) ?_
            refine D_p rfl (pv_fieldA (k := 0) (by kernel_rfl) rfl) ?_
            refine D_lq rfl (lv_load (by kernel_rfl) rfl ((hm.ext hx).at rfl)) ?_
            refine D_mv (v := ?v23) rfl ?h23 ?k23
            case h23 => conv => lhs; whnf
            refine D_p rfl (pv_idxA (e := 47) (k := 5) (by kernel_rfl) hA.sl rfl rfl (hA.lt hki)) ?_
            refine D_p rfl (pv_fieldA (k := 4) (by kernel_rfl) rfl) ?_
            refine D_lq rfl (lv_load (by kernel_rfl) rfl (((hA.ext hx).row hki).at rfl)) ?_
            refine D_p rfl (pv_idxA (e := 3) (k := 1) (by kernel_rfl) hNi.sl rfl rfl (hNi.lt hn)) ?_
            refine D_lq rfl (lv_load (by kernel_rfl) rfl (((hNi.ext hx).row hn).at0 rfl)) ?_
            refine D_as (v := ?v24) rfl ?h24 ?k24
            case h24 => conv => lhs; whnf
            refine D_end (?_)
            refine ⟨(D ++ [i], r', vm2), ⟨rfl, rfl, rfl, rfl, rfl, trivial⟩, ⟨hx, by rw [hp]; simp, fun j hj => ?_, by rw [List.map_append]; simpa [hci] using ho⟩, by simp⟩
            rcases List.mem_append.1 hj with hj | hj
            · exact hD j hj
            · rw [List.mem_singleton.1 hj, hci]
              first | exact .inl (by simpa using c3) | exact .inr (by simpa using c4)
        ·
          refine D_skip rfl ?_
          refine D_skip rfl ?_
          refine D_skip rfl ?_
          refine D_skip rfl ?_
          refine D_pe (v := ?v25) rfl (pv_pick rfl rfl rfl) ?h25 ?k25
          case h25 => conv => lhs; whnf
          refine D_end (hK12 _ _ ?_)
          refine W_f rfl ?_
          refine W_skip ?_
          refine hK11 _ _ ?_
          refine W_reg [.p, .l, .x, .x, .p] rfl ?_
          refine D_mv (v := ?v26) rfl ?h26 ?k26
          case h26 => conv => lhs; whnf
          refine D_lq rfl (lv_loadA (k := 4) (by kernel_rfl) rfl rfl m1.row) ?_
          refine D_lit (e := 28) (sz := 4) (zs := [S [], S [], B false, .int .i64 0]) (pv := [(0, .agg ⟨[?a27_0, ?a27_1, ?a27_2, ?a27_3]⟩)]) (cs := [?a27_0, ?a27_1, ?a27_2, ?a27_3]) rfl (by kernel_rfl) ⟨rfl, rfl⟩ (by kernel_rfl) rfl ?h27 ?f27 RX.all (fun b3 w7 e3 x7 m3 => ?k27)
          case h27 => refine ⟨rfl, ?_, trivial⟩ <;> (conv => lhs; whnf)
          case f27 => rfl
          have g3 : w.heap.size ≤ b3 := by have := hx.size; omega
          have n3_1 : b1 < b3 := by have := m1.lt; omega
          have o3_ho : ∀ k, Value.ownBlock _ = some k → k < b3 := fun k hk => by have := (ho.lt k hk).2; omega
          replace ho := ho.ext x7
          replace m1 := m1.ext x7
          replace hx := hx.trans x7
          refine D_append (lx := [ti.c]) (e := 28) (sz := 4) (by' := 48) rfl (by kernel_rfl) (by kernel_rfl) (by intro x; rfl) ho (m3.arr (enc := Cell.cs) (sz := 4) (l := [ti.c]) rfl (by intro x; rfl) rfl (Nat.le_of_ble_eq_true rfl)) rfl rfl (by intro x _ u hu; simp at hu; rcases hu with rfl | rfl | rfl | rfl <;> rfl) (by simp; omega) (by decide) hx.size (.inl rfl) (fun vm2 w8 ho_n x8 => ?_)
          try replace m1 := m1.mod x8 (by first | (intro h; have h2 : b1 = b1 := Option.some.inj h; omega) | (intro h; have h1 := (ho.lt _ h).1; omega))
          try replace m3 := m3.mod x8 (by first | (intro h; have h2 : b3 = b3 := Option.some.inj h; omega) | (intro h; have h1 := (ho.lt _ h).1; omega))
          replace hx := hx.own x8 (fun i hi => (ho.lt i hi).1)
          replace ho := ho_n
          refine D_as (v := ?v28) rfl ?h28 ?k28
          case h28 => conv => lhs; whnf
          refine D_end (hK9 _ _ ?_)
          refine W_reg [.p, .p, .p, .l, .p, .p, .p, .l, .p, .l, .p] rfl ?_
          refine D_mv (v := ?v29) rfl ?h29 ?k29
          case h29 => conv => lhs; whnf
          refine D_p rfl (pv_nilP rfl) ?_
          refine D_p rfl (pv_fieldA (k := 0) (by kernel_rfl) rfl) ?_
          refine D_lq rfl (lv_load (by kernel_rfl) rfl ((hm.ext hx).at rfl)) ?_
          refine D_mv (v := ?v30) rfl ?h30 ?k30
          case h30 => conv => lhs; whnf
          refine D_p rfl (pv_idxA (e := 47) (k := 5) (by kernel_rfl) hA.sl rfl rfl (hA.lt hki)) ?_
          refine D_p rfl (pv_fieldA (k := 4) (by kernel_rfl) rfl) ?_
          refine D_lq rfl (lv_load (by kernel_rfl) rfl (((hA.ext hx).row hki).at rfl)) ?_
          refine D_p rfl (pv_idxA (e := 3) (k := 1) (by kernel_rfl) hNi.sl rfl rfl (hNi.lt hn)) ?_
          refine D_lq rfl (lv_load (by kernel_rfl) rfl (((hNi.ext hx).row hn).at0 rfl)) ?_
          refine D_as (v := ?v31) rfl ?h31 ?k31
          case h31 => conv => lhs; whnf
          refine D_end (?_)
          refine ⟨(D ++ [i], r', vm2), ⟨rfl, rfl, rfl, rfl, rfl, trivial⟩, ⟨hx, by rw [hp]; simp, fun j hj => ?_, by rw [List.map_append]; simpa [hci] using ho⟩, by simp⟩
          rcases List.mem_append.1 hj with hj | hj
          · exact hD j hj
          · rw [List.mem_singleton.1 hj, hci]
            first | exact .inl (by simpa using c3) | exact .inr (by simpa using c4)
      ·
        refine W_exit ?_
        refine hK5 _ _ ?_
        refine W_seq fun K14 hK14 => ?_
        refine W_reg [.p, .p] rfl ?_
        refine D_mv (v := ?v32) rfl ?h32 ?k32
        case h32 => conv => lhs; whnf
        refine D_as (v := ?v33) rfl ?h33 ?k33
        case h33 => conv => lhs; whnf
        refine D_end (hK14 _ _ ?_)
        refine W_ret ?_
        try dsimp only [then', inBlk, noGo]
        refine ret_one (v := ?v34) rfl rfl ?h34 ?k34
        case h34 => conv => lhs; whnf
        have hsc := hs.scan_done hsd hb hp hD (fun j hj => by
          first
          | (have hj2 : i = j := by simpa using hj
             subst hj2
             rw [hci, not_or]
             exact ⟨c3, by simpa using c4⟩)
          | (cases r with
             | nil => cases hj
             | cons j' r' => exact absurd (hs.next0 hp).1 (fun hm => c2 (fun e => hs.pos hm (by have e2 : ((j' : Nat) : Int) = 0 := e; omega)))))
        exact ⟨_, rfl, hx, by rw [hsc]; exact ho⟩

set_option maxRecDepth 100000 in
set_option maxHeartbeats 1000000 in
theorem scan_nil (frm to : Str) (w : World) :
    Calls Try.prog 15 [.pointer none, S frm, S to].toArray w (Pure w (.slice none 0 0)) := by
  refine calls_W Try.func15 rfl rfl rfl (by kernel_rfl) ?_
  have hx := Ext.refl w
  refine W_seq fun K1 hK1 => ?_
  refine W_reg [.p] rfl ?_
  refine D_as (v := ?v1) rfl ?h1 ?k1
  case h1 => conv => lhs; whnf
  refine D_end (hK1 _ _ ?_)
  refine W_seq fun K2 hK2 => ?_
  refine W_seq fun K3 hK3 => ?_
  refine W_reg [.p, .p] rfl ?_
  refine D_mv (v := ?v2) rfl ?h2 ?k2
  case h2 => conv => lhs; whnf
  refine D_p rfl (pv_eqP (by kernel_rfl) rfl rfl) ?_
  refine D_end (hK3 _ _ ?_)
  refine W_if rfl (fun c1 => ?_) (fun c1 => ?_)
  ·
    refine W_seq fun K4 hK4 => ?_
    refine W_reg [.p] rfl ?_
    refine D_as (v := ?v3) rfl ?h3 ?k3
    case h3 => conv => lhs; whnf
    refine D_end (hK4 _ _ ?_)
    refine W_ret ?_
    try dsimp only [then', inBlk, noGo]
    refine ret_one (v := ?v4) rfl rfl ?h4 ?k4
    case h4 => conv => lhs; whnf
    exact ⟨rfl, hx⟩
  ·
    exact absurd rfl c1

set_option maxRecDepth 100000 in
set_option maxHeartbeats 1000000 in
theorem all_w (bm : Nat) (va vd : Value) (a : List Tow) (nx : Nat → List Nat) (dr : List Nat) (n sz : Nat) (L : List Nat) (l : List Cell) (w : World) (h : MemAt w bm va vd a nx dr n sz) (hs : Skip a nx L l) (hsd : Sorted l) (hal : a.length ≤ 1000000) (hb : ∀ x ∈ l, x.seq ≤ 4611686018427387904) :
    Calls Try.prog 17 [ptr bm 0].toArray w (Gives w (fun v' w' => Own Cell.cs 4 28 w.heap.size w' v' l)) := by
  refine calls_W Try.func17 rfl rfl rfl (by kernel_rfl) ?_
  have hx := Ext.refl w
  refine W_seq fun K1 hK1 => ?_
  refine W_reg [.p] rfl ?_
  refine D_as (v := ?v1) rfl ?h1 ?k1
  case h1 => conv => lhs; whnf
  refine D_end (hK1 _ _ ?_)
  refine W_seq fun K2 hK2 => ?_
  refine W_reg [.p, .x, .p] rfl ?_
  refine D_mv (v := ?v2) rfl ?h2 ?k2
  case h2 => conv => lhs; whnf
  refine D_callG rfl (by kernel_rfl) (scan_w bm va vd a nx dr n sz L l [] [] _ (h.ext hx) hs hsd hal hb) rfl RX.all (fun v1 w1 x1 hf1 => ?_)
  have hsz1 := hx.size
  replace hx := hx.trans x1
  have ho := hf1
  refine D_as (v := ?v3) rfl ?h3 ?k3
  case h3 => conv => lhs; whnf
  refine D_end (hK2 _ _ ?_)
  refine W_ret ?_
  try dsimp only [then', inBlk, noGo]
  refine ret_one (v := ?v4) rfl rfl ?h4 ?k4
  case h4 => conv => lhs; whnf
  exact ⟨_, rfl, hx, by rwa [scan_all] at ho⟩

set_option maxRecDepth 100000 in
set_option maxHeartbeats 1000000 in
theorem all_nil (w : World) :
    Calls Try.prog 17 [.pointer none].toArray w (Pure w (.slice none 0 0)) := by
  refine calls_W Try.func17 rfl rfl rfl (by kernel_rfl) ?_
  have hx := Ext.refl w
  refine W_seq fun K1 hK1 => ?_
  refine W_reg [.p] rfl ?_
  refine D_as (v := ?v1) rfl ?h1 ?k1
  case h1 => conv => lhs; whnf
  refine D_end (hK1 _ _ ?_)
  refine W_seq fun K2 hK2 => ?_
  refine W_reg [.p, .x, .p] rfl ?_
  refine D_mv (v := ?v2) rfl ?h2 ?k2
  case h2 => conv => lhs; whnf
  refine D_callP rfl (by kernel_rfl) (scan_nil [] [] _) rfl RX.all (fun w1 x1 => ?_)
  replace hx := hx.trans x1
  refine D_as (v := ?v3) rfl ?h3 ?k3
  case h3 => conv => lhs; whnf
  refine D_end (hK2 _ _ ?_)
  refine W_ret ?_
  try dsimp only [then', inBlk, noGo]
  refine ret_one (v := ?v4) rfl rfl ?h4 ?k4
  case h4 => conv => lhs; whnf
  exact ⟨rfl, hx⟩

end Go.Proofs.Ytodmkkcediofgaa
