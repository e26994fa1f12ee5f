/-
  Walks.
-/
import Derived.Test.YtodmkkcediofgaaChecked
import Derived.Test.YtodmkkcediofgaaSpMem
import Derived.KernelRfl
import Derived.Test.YtodmkkcediofgaaMemD
namespace Go.Proofs.Ytodmkkcediofgaa
open Go.Vc Go.Sp
attribute [local irreducible] W XW Dw DwT
set_option linter.unusedVariables false
set_option linter.unusedSimpArgs false

/-- The blocks of a skip list. -/
def foot (bm : Nat) (va vd : Value) (a : List Tow) (k : Nat) : Prop := k = bm ∨ va.ownBlock = some k ∨ vd.ownBlock = some k ∨ ∃ t ∈ a, t.bk = k
section
variable {w w' : World} {bm : Nat} {va vd : Value} {a : List Tow} {nx : Nat → List Nat} {dr : List Nat} {n sz : Nat} {S : Nat → Prop} {L : List Nat} {l : List Cell}
theorem MemAt.mod (h : MemAt w bm va vd a nx dr n sz) (x : Mod S w w') (hS : ∀ k, foot bm va vd a k → ¬ S k) : MemAt w' bm va vd a nx dr n sz :=
  ⟨h.hm.mod x (hS _ (.inl rfl)), h.hA.mod x (fun k hk => hS k (.inr (.inl hk))), h.hd.mod x (fun k hk => hS k (.inr (.inr (.inl hk)))),
    fun i t ht => ⟨(h.hN i t ht).1.mod x (hS _ (.inr (.inr (.inr ⟨t, List.mem_of_getElem? ht, rfl⟩)))), (h.hN i t ht).2⟩, h.d2⟩
theorem MemAt.lt (h : MemAt w bm va vd a nx dr n sz) {k : Nat} (hk : foot bm va vd a k) : k < w.heap.size := by
  rcases hk with rfl | hk | hk | ⟨t, ht, rfl⟩
  · exact h.hm.lt
  · exact (h.hA.lt k hk).2
  · exact (h.hd.lt k hk).2
  · obtain ⟨i, hi⟩ := List.mem_iff_getElem?.1 ht
    exact (h.hN i t hi).1.lt
/-- The number of draws has changed. -/
theorem MemAt.setn (h : MemAt w bm va vd a nx dr n sz) {n' sz' : Nat} (x : Mod (oneB bm) w w') (hm : Blk w' bm [va, vd, I ↑n', I ↑sz'] 52) : MemAt w' bm va vd a nx dr n' sz' :=
  ⟨hm, h.hA.mod x (fun k hk e => h.hA.ne_blk h.hm rfl (by rw [hk]; exact congrArg some e)), h.hd.mod x (fun k hk e => h.hd.ne_blk h.hm rfl (by rw [hk]; exact congrArg some e)),
    fun i t ht => ⟨(h.hN i t ht).1.mod x (fun e => (h.hN i t ht).1.ne h.hm rfl e), (h.hN i t ht).2⟩, h.d2⟩
def updN (nx : Nat → List Nat) (p : Nat) (q : List Nat) : Nat → List Nat := fun i => if i = p then q else nx i
/-- A tower's places have changed. -/
theorem MemAt.setN (h : MemAt w bm va vd a nx dr n sz) {p : Nat} {t : Tow} {q : List Nat} (ht : a[p]? = some t) (x : Mod (oneB t.bk) w w') (hq : Blk w' t.bk (mapJ q) 3) (hl : q.length = t.h) : MemAt w' bm va vd a (updN nx p q) dr n sz := by
  refine ⟨h.hm.mod x (fun e => h.hm.ne (h.hN p t ht).1 rfl e), h.hA.mod x (fun k hk e => h.hA.ne_blk (h.hN p t ht).1 rfl (by rw [hk]; exact congrArg some e)), h.hd.mod x (fun k hk e => h.hd.ne_blk (h.hN p t ht).1 rfl (by rw [hk]; exact congrArg some e)),
    fun i s hs => ?_, h.d2⟩
  unfold updN
  by_cases e : i = p
  · subst e
    rw [ht] at hs
    cases hs
    rw [if_pos rfl]
    exact ⟨hq, hl⟩
  · rw [if_neg e]
    exact ⟨(h.hN i s hs).1.mod x (fun e2 => e (h.d2 i p s t hs ht e2)), (h.hN i s hs).2⟩
/-- A tower more. -/
theorem MemAt.grow (h : MemAt w bm va vd a nx dr n sz) {w1 w2 : World} {va' : Value} {t : Tow} {q : List Nat} {sz' : Nat} (x : Mod (fun k => va.ownBlock = some k) w w1) (hA : Own Tow.enc 5 47 0 w1 va' (a ++ [t])) (y : Mod (oneB bm) w1 w2)
    (hm : Blk w2 bm [va', vd, I ↑n, I ↑sz'] 52) (hq : Blk w t.bk (mapJ q) 3) (hl : q.length = t.h) (hn : ∀ s ∈ a, s.bk ≠ t.bk) : MemAt w2 bm va' vd (a ++ [t]) (updN nx a.length q) dr n sz' := by
  have hm1 : Blk w1 bm [va, vd, I ↑n, I ↑sz] 52 := h.hm.mod x (fun e => h.hA.ne_blk h.hm rfl e)
  have mv : ∀ {b : Nat} {cs : List Value}, Blk w b cs 3 → Blk w2 b cs 3 := fun {b cs} hb => (hb.mod x (fun e => h.hA.ne_blk hb rfl e)).mod y (fun e => hb.ne h.hm rfl e)
  refine ⟨hm, hA.mod y (fun k hk e => hA.ne_blk hm1 rfl (by rw [hk]; exact congrArg some e)), (h.hd.mod x (fun k hk e => h.hd.ne h.hA rfl hk e)).mod y (fun k hk e => h.hd.ne_blk h.hm rfl (by rw [hk]; exact congrArg some e)), fun i s hs => ?_, fun i j s u hs hu e => ?_⟩
  · by_cases hi : i < a.length
    · rw [List.getElem?_append_left hi] at hs
      unfold updN
      rw [if_neg (by omega)]
      exact ⟨mv (h.hN i s hs).1, (h.hN i s hs).2⟩
    · have hlt := (List.getElem?_eq_some_iff.1 hs).1
      rw [List.length_append] at hlt
      have e : i = a.length := by simp at hlt; omega
      subst e
      rw [List.getElem?_append_right (Nat.le_refl _)] at hs
      simp at hs
      subst hs
      unfold updN
      rw [if_pos rfl]
      exact ⟨mv hq, hl⟩
  · have at' : ∀ (i : Nat) (s : Tow), (a ++ [t])[i]? = some s → (i < a.length ∧ a[i]? = some s) ∨ (i = a.length ∧ s = t) := fun i s hs => by
      by_cases hi : i < a.length
      · rw [List.getElem?_append_left hi] at hs; exact .inl ⟨hi, hs⟩
      · have hlt := (List.getElem?_eq_some_iff.1 hs).1
        rw [List.length_append] at hlt
        have e : i = a.length := by simp at hlt; omega
        subst e
        rw [List.getElem?_append_right (Nat.le_refl _)] at hs
        simp at hs
        exact .inr ⟨rfl, hs.symm⟩
    rcases at' i s hs with ⟨_, h1⟩ | ⟨h1, rfl⟩ <;> rcases at' j u hu with ⟨_, h2⟩ | ⟨h2, rfl⟩
    · exact h.d2 i j s u h1 h2 e
    · exact absurd e (hn s (List.mem_of_getElem? h1))
    · exact absurd e.symm (hn u (List.mem_of_getElem? h2))
    · omega
end

/-- Blocks F hold a Mem of these cells. -/
def MRep (F : Nat → Prop) (w : World) (bm : Nat) (l : List Cell) : Prop := ∃ (va vd : Value) (a : List Tow) (nx : Nat → List Nat) (dr : List Nat) (L : List Nat),
  MemAt w bm va vd a nx dr l.length (sizeL l) ∧ Skip a nx L l ∧ Sorted l ∧ (∀ k, foot bm va vd a k → F k) ∧ (∀ k, F k → k < w.heap.size)
theorem MRep.mod {F S : Nat → Prop} {w w' : World} {bm : Nat} {l : List Cell} (h : MRep F w bm l) (x : Mod S w w') (hS : ∀ k, F k → ¬ S k) : MRep F w' bm l := by
  obtain ⟨va, vd, a, nx, dr, L, h1, h2, h3, h4, h5⟩ := h
  exact ⟨va, vd, a, nx, dr, L, h1.mod x (fun k hk => hS k (h4 k hk)), h2, h3, h4, fun k hk => Nat.lt_of_lt_of_le (h5 k hk) x.size⟩
theorem MRep.ext {F : Nat → Prop} {w w' : World} {bm : Nat} {l : List Cell} (h : MRep F w bm l) (x : Ext w w') : MRep F w' bm l := h.mod x (fun _ _ h => h)
theorem MRep.more {F : Nat → Prop} {w w' : World} {bm : Nat} {l : List Cell} (h : MRep F w bm l) (x : Ext w w') : MRep (moveF F w w') w' bm l := by
  obtain ⟨va, vd, a, nx, dr, L, h1, h2, h3, h4, h5⟩ := h.ext x
  exact ⟨va, vd, a, nx, dr, L, h1, h2, h3, fun k hk => .inl (h4 k hk), fun k hk => hk.elim (h5 k) (fun h => h.2)⟩
/-- What is laid where a tower's places change one by one. -/
theorem lay_step {a : List Tow} {nx nxk : Nat → List Nat} {q : List Nat} {k p x : Nat} (hlay : ∀ i row, i < a.length → row < hgt a i → (nxk i)[row]? = if row < k ∧ q[row]? = some i then some x else (nx i)[row]?) (hq : q[k]? = some p) (hl : k < (nxk p).length) :
    ∀ i row, i < a.length → row < hgt a i → (updN nxk p ((nxk p).set k x) i)[row]? = if row < k + 1 ∧ q[row]? = some i then some x else (nx i)[row]? := by
  intro i row hi hr
  unfold updN
  by_cases e : i = p
  · subst e
    rw [if_pos rfl]
    by_cases e2 : row = k
    · subst e2
      rw [List.getElem?_set_self hl, if_pos ⟨by omega, hq⟩]
    · rw [List.getElem?_set_ne (by omega), hlay i row hi hr]
      by_cases e3 : row < k ∧ q[row]? = some i
      · rw [if_pos e3, if_pos ⟨by omega, e3.2⟩]
      · rw [if_neg e3, if_neg (fun h => e3 ⟨by omega, h.2⟩)]
  · rw [if_neg e, hlay i row hi hr]
    by_cases e3 : row < k ∧ q[row]? = some i
    · rw [if_pos e3, if_pos ⟨by omega, e3.2⟩]
    · rw [if_neg e3, if_neg (fun h => e3 ⟨by
        have : row ≠ k := fun e4 => by rw [e4, hq] at h; exact e (Option.some.inj h.2).symm
        omega, h.2⟩)]
structure TowS (t : Tow) : Prop where
  sl : isSl t.sl t.h
theorem towS (t : Tow) : TowS t := ⟨.inr ⟨t.bk, 0, t.h, rfl, Nat.le_refl _⟩⟩
theorem tn_step {h : Nat → Nat} {S tn : List Nat} {k : Nat} (ht : ∀ row, row < k → tn[row]? = some (nextAt h S row)) (hl : k < tn.length) : ∀ row, row < k + 1 → (tn.set k (nextAt h S k))[row]? = some (nextAt h S row) := fun row hr => by
  by_cases e : row = k
  · subst e; rw [List.getElem?_set_self hl]
  · rw [List.getElem?_set_ne (by omega)]; exact ht row (by omega)

set_option maxRecDepth 100000 in
set_option maxHeartbeats 1000000 in
theorem height_w (bm : Nat) (va vd : Value) (dr : List Nat) (n sz : Nat) (w : World) (hm : Blk w bm [va, vd, I n, I sz] 52) (hd : Own encU 1 50 0 w vd dr) (hn : n ≤ 1000000) :
    Calls Try.prog 25 [ptr bm 0].toArray w (Does (oneB bm) w (fun v w' => ∃ hh : Nat, v = I ↑hh ∧ 1 ≤ hh ∧ hh ≤ 12 ∧ Blk w' bm [va, vd, I ↑(n + 1), I sz] 52)) := by
  refine calls_W Try.func25 rfl rfl rfl (by kernel_rfl) ?_
  have hx := Ext.refl w
  have hdA : Arr encU 1 w vd dr := hd.arr (fun x => rfl)
  have hne : dr ≠ [] → ¬ oneB bm (base vd).1 := fun hl e => hd.ne_blk hm rfl (by rw [← e]; exact hd.base_block hl)
  refine W_seq fun K1 hK1 => ?_
  refine W_reg [.p] rfl ?_
  refine D_as (v := ?v1) rfl ?h1 ?k1
  case h1 => conv => lhs; whnf
  refine D_end (hK1 _ _ ?_)
  refine W_seq fun K2 hK2 => ?_
  refine W_reg [.p, .p, .p, .l, .p, .p, .p] rfl ?_
  refine D_mv (v := ?v2) rfl ?h2 ?k2
  case h2 => conv => lhs; whnf
  refine D_p rfl (pv_nilP rfl) ?_
  refine D_p rfl (pv_fieldA (k := 2) (by kernel_rfl) rfl) ?_
  refine D_lq rfl (lv_load (by kernel_rfl) rfl ((hm.ext hx).at rfl)) ?_
  refine D_p rfl (pv_conv (k := .u32) rfl (by kernel_rfl) (by kernel_rfl)) ?_
  refine D_p rfl (pv_mulw rfl rfl) ?_
  refine D_as (v := ?v3) rfl ?h3 ?k3
  case h3 => conv => lhs; whnf
  refine D_end (hK2 _ _ ?_)
  refine W_cut (G := Int) (fun d => [(0, ptr bm 0), (2, I 0), (3, .int .u32 d)]) (fun d w' => Ext w w' ∧ True) ?_ ?_
  ·
    refine W_seq fun K3 hK3 => ?_
    refine W_reg [.p, .p, .p, .l, .p, .p] rfl ?_
    refine D_mv (v := ?v4) rfl ?h4 ?k4
    case h4 => conv => lhs; whnf
    refine D_p rfl (pv_nilP rfl) ?_
    refine D_p rfl (pv_fieldA (k := 1) (by kernel_rfl) rfl) ?_
    refine D_lq rfl (lv_load (by kernel_rfl) rfl ((hm.ext hx).at rfl)) ?_
    refine D_p rfl (pv_lenV (e := 50) (k := 1) (by kernel_rfl) hdA.sl rfl) ?_
    refine D_p rfl (pv_gtr rfl rfl) ?_
    refine D_end (hK3 _ _ ?_)
    refine W_if rfl (fun c1 => ?_) (fun c1 => ?_)
    ·
      have hlen : 0 < dr.length := by omega
      obtain ⟨u, hkd⟩ : ∃ u, dr[n % dr.length]? = some u := ⟨_, List.getElem?_eq_getElem (Nat.mod_lt _ hlen)⟩
      refine W_draw (R := Ext) Ext.refl (fun _ _ _ => Ext.trans) (by kernel_rfl) [4, 8, 12, 16] [(0, .p, false), (1, .p, false), (2, .p, false), (3, .p, false), (4, .l, false), (5, .p, false), (6, .p, false), (7, .p, false), (8, .l, false), (9, .p, false), (10, .p, false), (11, .p, false), (12, .l, false), (13, .p, false), (14, .p, false), (15, .p, false), (16, .l, false), (17, .p, false), (18, .p, false)] rfl (by kernel_rfl) (by kernel_rfl) (fun w1 ew1 => ?_)
      have x1 : Ext w w1 := by rw [ew1]; exact Ext.drew _
      clear ew1
      replace hx := hx.trans x1
      refine D_mv (v := ?v5) rfl ?h5 ?k5
      case h5 => conv => lhs; whnf
      refine D_mv (v := ?v6) rfl ?h6 ?k6
      case h6 => conv => lhs; whnf
      refine D_p rfl (pv_nilP rfl) ?_
      refine D_p rfl (pv_fieldA (k := 1) (by kernel_rfl) rfl) ?_
      refine D_l rfl (fun w' hR => lv_load (by kernel_rfl) rfl ((hm.ext (hx.trans hR)).at rfl)) ?_
      refine D_mv (v := ?v7) rfl ?h7 ?k7
      case h7 => conv => lhs; whnf
      refine D_p rfl (pv_nilP rfl) ?_
      refine D_p rfl (pv_fieldA (k := 2) (by kernel_rfl) rfl) ?_
      refine D_l rfl (fun w' hR => lv_load (by kernel_rfl) rfl ((hm.ext (hx.trans hR)).at rfl)) ?_
      refine D_mv (v := ?v8) rfl ?h8 ?k8
      case h8 => conv => lhs; whnf
      refine D_p rfl (pv_nilP rfl) ?_
      refine D_p rfl (pv_fieldA (k := 1) (by kernel_rfl) rfl) ?_
      refine D_l rfl (fun w' hR => lv_load (by kernel_rfl) rfl ((hm.ext (hx.trans hR)).at rfl)) ?_
      refine D_p rfl (pv_lenV (e := 50) (k := 1) (by kernel_rfl) hdA.sl rfl) ?_
      refine D_p rfl (pv_rem rfl rfl (by omega) (by omega)) ?_
      refine D_p rfl (pv_idxA (i := n % dr.length) (e := 50) (k := 1) (by kernel_rfl) hdA.sl rfl rfl (hdA.lt hkd)) ?_
      refine D_l rfl (fun w' hR => lv_load (by kernel_rfl) rfl (((hdA.ext (hx.trans hR)).row hkd).at0 rfl)) ?_
      refine D_p rfl (pv_bits (by decide) rfl rfl) ?_
      refine D_as (v := ?v9) rfl ?h9 ?k9
      case h9 => conv => lhs; whnf
      refine D_end (?_)
      exact ⟨_, ⟨rfl, rfl, rfl, trivial⟩, hx, trivial⟩
    ·
      refine W_skip ?_
      exact ⟨_, ⟨rfl, rfl, rfl, trivial⟩, hx, trivial⟩
  · intro X2 g2 w2 hF2
    revert hF2; revert g2; intro d hF2
    clear hx 
    obtain ⟨hx, _⟩ := hF2
    refine W_seq fun K4 hK4 => ?_
    refine W_reg [.p, .p, .p, .l, .p, .p, .p, .x] rfl ?_
    refine D_mv (v := ?v10) rfl ?h10 ?k10
    case h10 => conv => lhs; whnf
    refine D_p rfl (pv_nilP rfl) ?_
    refine D_p rfl (pv_fieldA (k := 2) (by kernel_rfl) rfl) ?_
    refine D_lq rfl (lv_load (by kernel_rfl) rfl ((hm.ext hx).at rfl)) ?_
    refine D_p rfl (pv_add rfl rfl (by unfold inI64; omega)) ?_
    refine D_p rfl (pv_nilP rfl) ?_
    refine D_p rfl (pv_fieldA (k := 2) (by kernel_rfl) rfl) ?_
    refine D_store1 (v := ?v11) rfl rfl ?h11 ?n11 (by kernel_rfl) (hm.ext hx) ?o11 (.inl rfl) (fun w3 x3 xs3 hm => ?k11)
    case h11 => conv => lhs; whnf
    case n11 => first | rfl | exact isSl.one hdA.sl
    case o11 => exact Nat.le_of_ble_eq_true rfl
    try dsimp only [setAt, List.set, List.take, List.drop] at hm
    replace hx := (hx.mod x3).mono (fun i hi _ => (hi : (oneB bm) i))
    refine D_end (hK4 _ _ ?_)
    refine W_seq fun K5 hK5 => ?_
    refine W_reg [.p] rfl ?_
    refine D_as (v := ?v12) rfl ?h12 ?k12
    case h12 => conv => lhs; whnf
    refine D_end (hK5 _ _ ?_)
    refine W_seq fun K6 hK6 => ?_
    refine W_block ?_
    refine W_loop (G := Int × Nat) (fun (d, hh) => [(2, I 0), (3, .int .u32 d), (4, I ↑hh)]) (fun (d, hh) w' => Mod (oneB bm) w w' ∧ Blk w' bm [va, vd, I ↑(n + 1), I ↑sz] 52 ∧ 1 ≤ hh ∧ hh ≤ 12) (fun (d, hh) => 12 - hh) (d, 1) ?_ ?_ ?_
    · exact ⟨rfl, rfl, rfl, trivial⟩
    · exact ⟨hx, hm, by omega, by omega⟩
    · intro X4 g4 w4 hF4
      obtain ⟨d, hh⟩ := g4
      clear hx hm
      obtain ⟨hx, hm, hh1, hh2⟩ := hF4
      refine W_seq fun K7 hK7 => ?_
      refine W_seq fun K8 hK8 => ?_
      refine W_reg [.p, .p, .p, .p, .p, .p, .p] rfl ?_
      refine D_mv (v := ?v13) rfl ?h13 ?k13
      case h13 => conv => lhs; whnf
      refine D_p rfl (pv_lss rfl rfl) ?_
      refine D_mv (v := ?v14) rfl ?h14 ?k14
      case h14 => conv => lhs; whnf
      refine D_splitP 44 rfl (fun c2 => ?_) (fun c2 => ?_)
      ·
        refine D_mv (v := ?v15) rfl ?h15 ?k15
        case h15 => conv => lhs; whnf
        refine D_p rfl (pv_bits (by decide) rfl rfl) ?_
        refine D_p rfl (pv_eql rfl rfl) ?_
        refine D_pe (v := ?v16) rfl (pv_pick rfl rfl rfl) ?h16 ?k16
        case h16 => conv => lhs; whnf
        refine D_end (hK8 _ _ ?_)
        refine W_if rfl (fun c3 => ?_) (fun c3 => ?_)
        ·
          refine W_skip ?_
          refine hK7 _ _ ?_
          refine W_block ?_
          refine W_seq fun K9 hK9 => ?_
          refine W_reg [.p, .p, .p] rfl ?_
          refine D_mv (v := ?v17) rfl ?h17 ?k17
          case h17 => conv => lhs; whnf
          refine D_p rfl (pv_shr rfl rfl (by decide)) ?_
          refine D_as (v := ?v18) rfl ?h18 ?k18
          case h18 => conv => lhs; whnf
          refine D_end (hK9 _ _ ?_)
          refine W_reg [.p, .p, .p] rfl ?_
          refine D_mv (v := ?v19) rfl ?h19 ?k19
          case h19 => conv => lhs; whnf
          refine D_p rfl (pv_add rfl rfl (by unfold inI64; omega)) ?_
          refine D_as (v := ?v20) rfl ?h20 ?k20
          case h20 => conv => lhs; whnf
          refine D_end (?_)
          exact ⟨(_, hh + 1), ⟨rfl, rfl, rfl, trivial⟩, ⟨hx, hm, by omega, by omega⟩, by simp only []; omega⟩
        ·
          refine W_exit ?_
          refine hK6 _ _ ?_
          refine W_seq fun K10 hK10 => ?_
          refine W_reg [.p, .p] rfl ?_
          refine D_mv (v := ?v21) rfl ?h21 ?k21
          case h21 => conv => lhs; whnf
          refine D_as (v := ?v22) rfl ?h22 ?k22
          case h22 => conv => lhs; whnf
          refine D_end (hK10 _ _ ?_)
          refine W_ret ?_
          try dsimp only [then', inBlk, noGo]
          refine ret_one (v := ?v23) rfl rfl ?h23 ?k23
          case h23 => conv => lhs; whnf
          exact ⟨_, rfl, hx, hh, rfl, hh1, hh2, hm⟩
      ·
        refine D_skip rfl ?_
        refine D_skip rfl ?_
        refine D_skip rfl ?_
        refine D_pe (v := ?v24) rfl (pv_pick rfl rfl rfl) ?h24 ?k24
        case h24 => conv => lhs; whnf
        refine D_end (hK8 _ _ ?_)
        refine W_f rfl ?_
        refine W_exit ?_
        refine hK6 _ _ ?_
        refine W_seq fun K11 hK11 => ?_
        refine W_reg [.p, .p] rfl ?_
        refine D_mv (v := ?v25) rfl ?h25 ?k25
        case h25 => conv => lhs; whnf
        refine D_as (v := ?v26) rfl ?h26 ?k26
        case h26 => conv => lhs; whnf
        refine D_end (hK11 _ _ ?_)
        refine W_ret ?_
        try dsimp only [then', inBlk, noGo]
        refine ret_one (v := ?v27) rfl rfl ?h27 ?k27
        case h27 => conv => lhs; whnf
        exact ⟨_, rfl, hx, hh, rfl, hh1, hh2, hm⟩

set_option maxRecDepth 100000 in
set_option maxHeartbeats 1000000 in
theorem put_at (bm : Nat) (va vd : Value) (a : List Tow) (nx : Nat → List Nat) (dr : List Nat) (n sz : Nat) (L : List Nat) (l : List Cell) (F : Nat → Prop) (c : Cell) (w : World) (h : MemAt w bm va vd a nx dr n sz) (hs : Skip a nx L l) (hsd : Sorted l) (hal : a.length ≤ 1000000) (hszl : sz = sizeL l) (hnl : n = l.length) (hF : ∀ k, foot bm va vd a k → F k) (hFl : ∀ k, F k → k < w.heap.size) (hszb : sz ≤ 1000000000000) :
    Calls Try.prog 9 [ptr bm 0, c.v].toArray w (fun e w' => e = .returned (B (put l c).1) ∧ Mod F w w' ∧ MRep (moveF F w w') w' bm (put l c).2) := by
  refine calls_W Try.func9 rfl rfl rfl (by kernel_rfl) ?_
  have hx := Ext.refl w
  have hM := h
  have hft : ∀ k, foot bm va vd a k → k < w.heap.size := fun k hk => hFl k (hF k hk)
  have hbm : bm < w.heap.size := hft bm (.inl rfl)
  have hRep : MRep F w bm l := ⟨va, vd, a, nx, dr, L, by rw [← hnl, ← hszl]; exact h, hs, hsd, hF, hFl⟩
  have hal2 := hs.len
  have hlL : l.length = L.length := (congrArg List.length hs.cells).trans (List.length_map ..)
  refine W_seq fun K1 hK1 => ?_
  refine W_reg [.x, .p] rfl ?_
  refine D_box rfl rfl rfl RX.all (fun b1 w1 e1 x1 m1 => ?_)
  have g1 : w.heap.size ≤ b1 := by have := hx.size; omega
  replace hM := hM.ext x1
  replace hx := hx.trans x1
  refine D_as (v := ?v1) rfl ?h1 ?k1
  case h1 => conv => lhs; whnf
  refine D_end (hK1 _ _ ?_)
  refine W_seq fun K2 hK2 => ?_
  refine W_seq fun K3 hK3 => ?_
  refine W_reg [.p, .p, .p, .l, .x, .p, .p] rfl ?_
  refine D_mv (v := ?v2) rfl ?h2 ?k2
  case h2 => conv => lhs; whnf
  refine D_p rfl (pv_eqP (by kernel_rfl) rfl rfl) ?_
  refine D_mv (v := ?v3) rfl ?h3 ?k3
  case h3 => conv => lhs; whnf
  refine D_splitP 12 rfl (fun c1 => ?_) (fun c1 => ?_)
  ·
    cases c1
  ·
    refine D_lq rfl (lv_loadA (k := 4) (by kernel_rfl) rfl rfl m1.row) ?_
    refine D_callP rfl (by kernel_rfl) (is_w c _) rfl RX.all (fun w2 x2 => ?_)
    replace hM := hM.ext x2
    replace m1 := m1.ext x2
    replace hx := hx.trans x2
    refine D_pe (v := ?v4) rfl (pv_not rfl) ?h4 ?k4
    case h4 => conv => lhs; whnf
    refine D_pe (v := ?v5) rfl (pv_pick rfl rfl rfl) ?h5 ?k5
    case h5 => conv => lhs; whnf
    refine D_end (hK3 _ _ ?_)
    refine W_cond rfl (fun c2 => ?_) (fun c2 => ?_)
    ·
      refine W_seq fun K4 hK4 => ?_
      refine W_reg [.p] rfl ?_
      refine D_as (v := ?v6) rfl ?h6 ?k6
      case h6 => conv => lhs; whnf
      refine D_end (hK4 _ _ ?_)
      refine W_ret ?_
      try dsimp only [then', inBlk, noGo]
      refine ret_one (v := ?v7) rfl rfl ?h7 ?k7
      case h7 => conv => lhs; whnf
      have hp : put l c = (false, l) := by simp at c2; simp [put, c2]
      rw [hp]
      exact ⟨rfl, hx.mono (fun _ h _ => h.elim), hRep.more hx⟩
    ·
      have hisC : isC c = true := by simpa using c2
      refine W_skip ?_
      refine hK2 _ _ ?_
      refine W_seq fun K5 hK5 => ?_
      refine W_reg [.p, .l, .x, .x, .x] rfl ?_
      refine D_mv (v := ?v8) rfl ?h8 ?k8
      case h8 => conv => lhs; whnf
      refine D_lq rfl (lv_loadA (k := 4) (by kernel_rfl) rfl rfl m1.row) ?_
      refine D_callG rfl (by kernel_rfl) (ahead_w bm va vd a nx dr n sz L l c _ hM hs hsd hal) rfl RX.all (fun v3 w3 x3 hf3 => ?_)
      have hsz3 := hx.size
      replace hM := hM.ext x3
      replace m1 := m1.ext x3
      replace hx := hx.trans x3
      obtain ⟨q, rfl, hq, hql⟩ := hf3
      obtain ⟨A, i0, hp, hla, hi0, hn0⟩ := hs.last c
      obtain ⟨t0, hk0⟩ : ∃ t, a[i0]? = some t := ⟨_, List.getElem?_eq_getElem hi0⟩
      have hq0 : q[0]? = some i0 := by rw [hql 0 (by decide), hla]
      refine D_alloc (cs := [.int .i64 0, .int .i64 0, .int .i64 0, .int .i64 0, .int .i64 0, .int .i64 0, .int .i64 0, .int .i64 0, .int .i64 0, .int .i64 0, .int .i64 0, .int .i64 0]) rfl (by kernel_rfl) RX.all (fun b2 w4 e2 x4 m2 => ?_)
      have g2 : w.heap.size ≤ b2 := by have := hx.size; omega
      have n2_1 : b1 < b2 := by have := m1.lt; omega
      replace hM := hM.ext x4
      replace m1 := m1.ext x4
      replace hx := hx.trans x4
      refine D_storeA (m := 12) (vs := ?u9) rfl rfl ?h9 (by kernel_rfl) ?c9 ?d9 m2 ?n9 (.inl rfl) (fun w5 x5 xs5 m2 => ?k9)
      case h9 => conv => lhs; whnf
      case c9 => simp [hq]
      case d9 => rfl
      case n9 => simp [Value.oneCell']
      try dsimp only [setAt, List.set, List.take, List.drop] at m2
      replace hM := hM.mod x5 (fun k hk e => by have h1 := hft k hk; have h2 : k = b2 := e; omega)
      try replace m1 := m1.mod x5 (by first | assumption | (intro k hk h; have h1 := (m1.lt k hk).1; have h2 : k = b2 := h; omega) | (intro k hk h; have h1 := o2_m1 k hk; have h2 : k = b2 := h; omega) | (intro h; have h2 : _ = b2 := h; omega) | (intro hl h; have h1 := a2_m1 hl; have h2 : _ = b2 := h; omega))
      replace hx := hx.own x5 (by intro i hi; have hi2 : i = b2 := hi; subst hi2; omega)
      refine D_end (hK5 _ _ ?_)
      refine W_cut (G := Unit) (fun u => [(0, ptr bm 0), (3, ptr b1 0), (5, ptr b2 0)]) (fun u w' => Ext w w' ∧ MemAt w' bm va vd a nx dr n sz ∧ Blk w' b1 c.cs 28 ∧ Blk w' b2 (mapJ q) 53 ∧ has l c = false) ?_ ?_
      ·
        refine W_seq fun K6 hK6 => ?_
        refine W_draw (R := Ext) Ext.refl (fun _ _ _ => Ext.trans) (by kernel_rfl) [3, 5, 8, 10] [(0, .p, false), (1, .p, false), (2, .p, false), (3, .l, false), (4, .p, false), (5, .l, false), (6, .p, false), (7, .p, false), (8, .l, false), (9, .p, false), (10, .l, false), (11, .p, false)] rfl (by kernel_rfl) (by kernel_rfl) (fun w6 ew6 => ?_)
        have x6 : Ext w5 w6 := by rw [ew6]; exact Ext.drew _
        clear ew6
        replace hM := hM.ext x6
        replace m1 := m1.ext x6
        replace m2 := m2.ext x6
        replace hx := hx.trans x6
        refine D_mv (v := ?v10) rfl ?h10 ?k10
        case h10 => conv => lhs; whnf
        refine D_p rfl (pv_nilP rfl) ?_
        refine D_p rfl (pv_fieldA (k := 0) (by kernel_rfl) rfl) ?_
        refine D_l rfl (fun w' hR => lv_load (by kernel_rfl) rfl ((hM.hm.ext hR).at rfl)) ?_
        refine D_p rfl (pv_idxR (m := 12) (e := 3) (k := 1) (by kernel_rfl) rfl rfl (by decide)) ?_
        refine D_l rfl (fun w' hR => lv_load (by kernel_rfl) rfl ((m2.ext hR).at (mapJ_at hq0))) ?_
        refine D_p rfl (pv_idxA (e := 47) (k := 5) (by kernel_rfl) hM.arr.sl rfl rfl (hM.arr.lt hk0)) ?_
        refine D_p rfl (pv_fieldA (k := 4) (by kernel_rfl) rfl) ?_
        refine D_l rfl (fun w' hR => lv_load (by kernel_rfl) rfl (((hM.arr.ext hR).row hk0).at rfl)) ?_
        refine D_p rfl (pv_idxA (e := 3) (k := 1) (by kernel_rfl) (hM.next hs hk0).sl rfl rfl ((hM.next hs hk0).lt hn0)) ?_
        refine D_l rfl (fun w' hR => lv_load (by kernel_rfl) rfl ((((hM.next hs hk0).ext hR).row hn0).at0 rfl)) ?_
        refine D_as (v := ?v11) rfl ?h11 ?k11
        case h11 => conv => lhs; whnf
        refine D_end (hK6 _ _ ?_)
        refine W_seq fun K7 hK7 => ?_
        refine W_draw (R := Ext) Ext.refl (fun _ _ _ => Ext.trans) (by kernel_rfl) [3, 7, 11] [(0, .p, false), (1, .p, false), (2, .p, false), (3, .l, false), (4, .p, false), (5, .p, false), (6, .p, false), (7, .l, false), (8, .p, false), (9, .p, false), (10, .p, false), (11, .l, false), (12, .x, false), (13, .p, false), (14, .p, false)] rfl (by kernel_rfl) (by kernel_rfl) (fun w7 ew7 => ?_)
        have x7 : Ext w6 w7 := by rw [ew7]; exact Ext.drew _
        clear ew7
        replace hM := hM.ext x7
        replace m1 := m1.ext x7
        replace m2 := m2.ext x7
        replace hx := hx.trans x7
        refine D_mv (v := ?v12) rfl ?h12 ?k12
        case h12 => conv => lhs; whnf
        refine D_p rfl (pv_neq rfl rfl) ?_
        refine D_mv (v := ?v13) rfl ?h13 ?k13
        case h13 => conv => lhs; whnf
        refine D_splitP 33 rfl (fun c3 => ?_) (fun c3 => ?_)
        ·
          have hi0' : (sufI a L c).headD 0 ≠ 0 := by omega
          obtain ⟨ti, hki⟩ := hs.head_at hi0'
          have hhas0 := hs.has_at hi0' hki
          refine D_l rfl (fun w' hR => lv_loadA (k := 4) (by kernel_rfl) rfl rfl (m1.ext hR).row) ?_
          refine D_mv (v := ?v14) rfl ?h14 ?k14
          case h14 => conv => lhs; whnf
          refine D_p rfl (pv_nilP rfl) ?_
          refine D_p rfl (pv_fieldA (k := 0) (by kernel_rfl) rfl) ?_
          refine D_l rfl (fun w' hR => lv_load (by kernel_rfl) rfl ((hM.hm.ext hR).at rfl)) ?_
          refine D_mv (v := ?v15) rfl ?h15 ?k15
          case h15 => conv => lhs; whnf
          refine D_p rfl (pv_idxA (e := 47) (k := 5) (by kernel_rfl) hM.arr.sl rfl rfl (hM.arr.lt hki)) ?_
          refine D_p rfl (pv_fieldA (k := 0) (by kernel_rfl) rfl) ?_
          refine D_l rfl (fun w' hR => lv_loadA (by kernel_rfl) rfl rfl (((hM.arr.ext hR).row hki).sub 0 4)) ?_
          refine D_callP rfl (by kernel_rfl) (less_w c ti.c _) rfl RX.ext (fun w8 x8 => ?_)
          replace hM := hM.ext x8
          replace m1 := m1.ext x8
          replace m2 := m2.ext x8
          replace hx := hx.trans x8
          refine D_pe (v := ?v16) rfl (pv_not rfl) ?h16 ?k16
          case h16 => conv => lhs; whnf
          refine D_pe (v := ?v17) rfl (pv_pick rfl rfl rfl) ?h17 ?k17
          case h17 => conv => lhs; whnf
          refine D_end (hK7 _ _ ?_)
          refine W_cond rfl (fun c4 => ?_) (fun c4 => ?_)
          ·
            refine W_seq fun K8 hK8 => ?_
            refine W_reg [.p] rfl ?_
            refine D_as (v := ?v18) rfl ?h18 ?k18
            case h18 => conv => lhs; whnf
            refine D_end (hK8 _ _ ?_)
            refine W_ret ?_
            try dsimp only [then', inBlk, noGo]
            refine ret_one (v := ?v19) rfl rfl ?h19 ?k19
            case h19 => conv => lhs; whnf
            have hp : put l c = (false, l) := by rw [c4] at hhas0; simp [put, hhas0]
            rw [hp]
            exact ⟨rfl, hx.mono (fun _ h _ => h.elim), hRep.more hx⟩
          ·
            refine W_skip ?_
            exact ⟨(), ⟨rfl, rfl, rfl, trivial⟩, hx, hM, m1, m2, by first | exact hhas0 | (rw [hhas0]; simpa using c4)⟩
        ·
          have hhas0 := hs.has_none (c := c) (by omega)
          refine D_skip rfl ?_
          refine D_skip rfl ?_
          refine D_skip rfl ?_
          refine D_skip rfl ?_
          refine D_skip rfl ?_
          refine D_skip rfl ?_
          refine D_skip rfl ?_
          refine D_skip rfl ?_
          refine D_skip rfl ?_
          refine D_skip rfl ?_
          refine D_skip rfl ?_
          refine D_pe (v := ?v20) rfl (pv_pick rfl rfl rfl) ?h20 ?k20
          case h20 => conv => lhs; whnf
          refine D_end (hK7 _ _ ?_)
          refine W_f rfl ?_
          refine W_skip ?_
          exact ⟨(), ⟨rfl, rfl, rfl, trivial⟩, hx, hM, m1, m2, by first | exact hhas0 | (rw [hhas0]; simpa using c4)⟩
      · intro X9 g9 w9 hF9
        revert hF9; revert g9; intro u hF9
        clear hx hM m1 m2
        obtain ⟨hx, hM, m1, m2, hhas⟩ := hF9
        refine W_cut (G := Nat × Nat × Nat) (fun (bn, bt, hh) => [(0, ptr bm 0), (3, ptr b1 0), (5, ptr b2 0), (7, ptr bt 0)]) (fun (bn, bt, hh) w' => Mod F w w' ∧ Blk w' b1 c.cs 28 ∧ Blk w' b2 (mapJ q) 53 ∧ Blk w' bt (Tow.enc ⟨c, bn, hh⟩) 47 ∧ Blk w' bn (mapJ (List.replicate hh 0)) 3 ∧ MemAt w' bm va vd a nx dr (n + 1) sz ∧ 1 ≤ hh ∧ hh ≤ 12 ∧ w.heap.size ≤ bn ∧ w.heap.size ≤ bt) ?_ ?_
        ·
          refine W_drawT (R := Mod (oneB bm)) modRefl modTrans (by kernel_rfl) [0] (.one 0 .l false (.one 1 .p false (.fork (.alt 2 false (.fork (.alt 3 false (.one 4 .p false (.one 5 .x false (.one 6 .x true .nil))) (.alt 5 false (.one 3 .x false (.one 4 .p false (.one 6 .x true .nil))) .stop))) (.alt 5 false (.one 2 .x false (.one 3 .x false (.one 4 .p false (.one 6 .x true .nil)))) .stop))))) (by kernel_rfl) (by kernel_rfl) (fun w10 ew10 => ?_)
          have x10 : Ext w9 w10 := by rw [ew10]; exact Ext.drew _
          clear ew10
          replace hM := hM.ext x10
          replace m1 := m1.ext x10
          replace m2 := m2.ext x10
          replace hx := hx.trans x10
          refine T_one ?_
          refine D_l rfl (fun w' hR => lv_loadA (k := 4) (by kernel_rfl) rfl rfl (m1.mod hR (fun e => m1.ne hM.hm rfl e)).row) ?_
          refine D_end ?_
          refine T_one ?_
          refine D_mv (v := ?v21) rfl ?h21 ?k21
          case h21 => conv => lhs; whnf
          refine D_end ?_
          refine T_fork ?_
          refine T_alt ?_ ?_
          ·
            refine D_callD rfl (by kernel_rfl) (height_w bm va vd dr n sz _ hM.hm hM.hd (by omega)) rfl (.inr fun _ h => h) (fun v11 w11 x11 hf11 => ?_)
            have hsz11 := hx.size
            replace m1 := m1.mod x11 (fun e => m1.ne hM.hm rfl e)
            replace m2 := m2.mod x11 (fun e => m2.ne hM.hm rfl e)
            replace hx := (hx.mod x11).mono (fun i hi _ => ((by rw [show i = bm from hi]; exact hF bm (.inl rfl)) : F i))
            obtain ⟨hh, rfl, hh1, hh12, hm_n⟩ := hf11
            have hM := hM.setn x11 hm_n
            refine D_end ?_
            refine T_fork ?_
            refine T_alt ?_ ?_
            ·
              refine D_make (e := 3) (sz := 1) (by' := 8) (zs := [.int .i64 0]) rfl (by kernel_rfl) (by kernel_rfl) (by kernel_rfl) rfl rfl (by omega) (by omega) RX.mod (fun b3 w12 e3 x12 m3 => ?_)
              have g3 : w.heap.size ≤ b3 := by have := hx.size; omega
              have n3_1 : b1 < b3 := by have := m1.lt; omega
              have n3_2 : b2 < b3 := by have := m2.lt; omega
              replace m1 := m1.ext x12
              replace m2 := m2.ext x12
              replace hM := hM.ext x12
              replace hx := hx.ext x12
              refine D_end ?_
              refine T_one ?_
              refine D_p rfl (pv_build (zs := [S [], S [], B false, .int .i64 0, .slice none 0 0]) (pl := [(0, 4), (4, 1)]) (pv := [(0, .agg ⟨[?a22_0, ?a22_1, ?a22_2, ?a22_3]⟩), (1, ?a22_4)]) (cs := [?a22_0, ?a22_1, ?a22_2, ?a22_3, ?a22_4]) (by kernel_rfl) (by kernel_rfl) ?h22 ?f22) ?k22
              case h22 => refine ⟨rfl, ?_, rfl, ?_, trivial⟩ <;> (conv => lhs; whnf)
              case f22 => rfl
              refine D_end ?_
              refine T_one ?_
              refine D_alloc (cs := [S [], S [], B false, .int .i64 0, .slice none 0 0]) rfl (by kernel_rfl) RX.mod (fun b4 w13 e4 x13 m4 => ?_)
              have g4 : w.heap.size ≤ b4 := by have := hx.size; omega
              have n4_1 : b1 < b4 := by have := m1.lt; omega
              have n4_2 : b2 < b4 := by have := m2.lt; omega
              have n4_3 : b3 < b4 := by have := m3.lt; omega
              replace m1 := m1.ext x13
              replace m2 := m2.ext x13
              replace hM := hM.ext x13
              replace m3 := m3.ext x13
              replace hx := hx.ext x13
              refine D_end ?_
              refine T_one ?_
              refine D_store (v := ?v23) (vs := ?u23) rfl rfl ?h23 ?c23 ?s23 m4 ?o23 ?n23 (.inl rfl) (fun w14 x14 xs14 m4 => ?k23)
              case h23 => conv => lhs; whnf
              case c23 => exact rfl
              case s23 => kernel_rfl
              case o23 => exact Nat.le_of_ble_eq_true rfl
              case n23 => simp [Value.oneCell']
              try dsimp only [setAt, List.set, List.take, List.drop] at m4
              try replace m1 := m1.mod x14 (by first | assumption | (intro k hk h; have h1 := (m1.lt k hk).1; have h2 : k = b4 := h; omega) | (intro k hk h; have h1 := o4_m1 k hk; have h2 : k = b4 := h; omega) | (intro h; have h2 : _ = b4 := h; omega) | (intro hl h; have h1 := a4_m1 hl; have h2 : _ = b4 := h; omega))
              try replace m2 := m2.mod x14 (by first | assumption | (intro k hk h; have h1 := (m2.lt k hk).1; have h2 : k = b4 := h; omega) | (intro k hk h; have h1 := o4_m2 k hk; have h2 : k = b4 := h; omega) | (intro h; have h2 : _ = b4 := h; omega) | (intro hl h; have h1 := a4_m2 hl; have h2 : _ = b4 := h; omega))
              replace hM := hM.mod x14 (fun k hk e => by have h1 := hft k hk; have h2 : k = b4 := e; omega)
              try replace m3 := m3.mod x14 (by first | assumption | (intro k hk h; have h1 := (m3.lt k hk).1; have h2 : k = b4 := h; omega) | (intro k hk h; have h1 := o4_m3 k hk; have h2 : k = b4 := h; omega) | (intro h; have h2 : _ = b4 := h; omega) | (intro hl h; have h1 := a4_m3 hl; have h2 : _ = b4 := h; omega))
              replace hx := hx.own x14 (fun i hi hlt => by have hi2 : i = b4 := hi; subst hi2; omega)
              refine D_end ?_
              refine T_nil ?_
              refine ⟨(b3, b4, hh), ⟨rfl, rfl, rfl, rfl, trivial⟩, hx, m1, m2, m4, ?_, hM, hh1, hh12, g3, g4⟩
              have hBr := m3
              rw [flat_rep0] at hBr; exact hBr
            refine T_alt ?_ ?_
            ·
              refine D_alloc (cs := [S [], S [], B false, .int .i64 0, .slice none 0 0]) rfl (by kernel_rfl) RX.mod (fun b5 w15 e5 x15 m5 => ?_)
              have g5 : w.heap.size ≤ b5 := by have := hx.size; omega
              have n5_1 : b1 < b5 := by have := m1.lt; omega
              have n5_2 : b2 < b5 := by have := m2.lt; omega
              replace m1 := m1.ext x15
              replace m2 := m2.ext x15
              replace hM := hM.ext x15
              replace hx := hx.ext x15
              refine D_end ?_
              refine T_one ?_
              refine D_make (e := 3) (sz := 1) (by' := 8) (zs := [.int .i64 0]) rfl (by kernel_rfl) (by kernel_rfl) (by kernel_rfl) rfl rfl (by omega) (by omega) RX.mod (fun b6 w16 e6 x16 m6 => ?_)
              have g6 : w.heap.size ≤ b6 := by have := hx.size; omega
              have n6_1 : b1 < b6 := by have := m1.lt; omega
              have n6_2 : b2 < b6 := by have := m2.lt; omega
              have n6_5 : b5 < b6 := by have := m5.lt; omega
              replace m1 := m1.ext x16
              replace m2 := m2.ext x16
              replace hM := hM.ext x16
              replace m5 := m5.ext x16
              replace hx := hx.ext x16
              refine D_end ?_
              refine T_one ?_
              refine D_p rfl (pv_build (zs := [S [], S [], B false, .int .i64 0, .slice none 0 0]) (pl := [(0, 4), (4, 1)]) (pv := [(0, .agg ⟨[?a24_0, ?a24_1, ?a24_2, ?a24_3]⟩), (1, ?a24_4)]) (cs := [?a24_0, ?a24_1, ?a24_2, ?a24_3, ?a24_4]) (by kernel_rfl) (by kernel_rfl) ?h24 ?f24) ?k24
              case h24 => refine ⟨rfl, ?_, rfl, ?_, trivial⟩ <;> (conv => lhs; whnf)
              case f24 => rfl
              refine D_end ?_
              refine T_one ?_
              refine D_store (v := ?v25) (vs := ?u25) rfl rfl ?h25 ?c25 ?s25 m5 ?o25 ?n25 (.inl rfl) (fun w17 x17 xs17 m5 => ?k25)
              case h25 => conv => lhs; whnf
              case c25 => exact rfl
              case s25 => kernel_rfl
              case o25 => exact Nat.le_of_ble_eq_true rfl
              case n25 => simp [Value.oneCell']
              try dsimp only [setAt, List.set, List.take, List.drop] at m5
              try replace m1 := m1.mod x17 (by first | assumption | (intro k hk h; have h1 := (m1.lt k hk).1; have h2 : k = b5 := h; omega) | (intro k hk h; have h1 := o5_m1 k hk; have h2 : k = b5 := h; omega) | (intro h; have h2 : _ = b5 := h; omega) | (intro hl h; have h1 := a5_m1 hl; have h2 : _ = b5 := h; omega))
              try replace m2 := m2.mod x17 (by first | assumption | (intro k hk h; have h1 := (m2.lt k hk).1; have h2 : k = b5 := h; omega) | (intro k hk h; have h1 := o5_m2 k hk; have h2 : k = b5 := h; omega) | (intro h; have h2 : _ = b5 := h; omega) | (intro hl h; have h1 := a5_m2 hl; have h2 : _ = b5 := h; omega))
              replace hM := hM.mod x17 (fun k hk e => by have h1 := hft k hk; have h2 : k = b5 := e; omega)
              try replace m6 := m6.mod x17 (by first | assumption | (intro k hk h; have h1 := (m6.lt k hk).1; have h2 : k = b5 := h; omega) | (intro k hk h; have h1 := o5_m6 k hk; have h2 : k = b5 := h; omega) | (intro h; have h2 : _ = b5 := h; omega) | (intro hl h; have h1 := a5_m6 hl; have h2 : _ = b5 := h; omega))
              replace hx := hx.own x17 (fun i hi hlt => by have hi2 : i = b5 := hi; subst hi2; omega)
              refine D_end ?_
              refine T_nil ?_
              refine ⟨(b6, b5, hh), ⟨rfl, rfl, rfl, rfl, trivial⟩, hx, m1, m2, m5, ?_, hM, hh1, hh12, g6, g5⟩
              have hBr := m6
              rw [flat_rep0] at hBr; exact hBr
            exact T_stop
          refine T_alt ?_ ?_
          ·
            refine D_alloc (cs := [S [], S [], B false, .int .i64 0, .slice none 0 0]) rfl (by kernel_rfl) RX.mod (fun b7 w18 e7 x18 m7 => ?_)
            have g7 : w.heap.size ≤ b7 := by have := hx.size; omega
            have n7_1 : b1 < b7 := by have := m1.lt; omega
            have n7_2 : b2 < b7 := by have := m2.lt; omega
            replace hM := hM.ext x18
            replace m1 := m1.ext x18
            replace m2 := m2.ext x18
            replace hx := hx.trans x18
            refine D_end ?_
            refine T_one ?_
            refine D_callD rfl (by kernel_rfl) (height_w bm va vd dr n sz _ hM.hm hM.hd (by omega)) rfl (.inr fun _ h => h) (fun v19 w19 x19 hf19 => ?_)
            have hsz19 := hx.size
            replace m1 := m1.mod x19 (fun e => m1.ne hM.hm rfl e)
            replace m2 := m2.mod x19 (fun e => m2.ne hM.hm rfl e)
            replace m7 := m7.mod x19 (fun e => m7.ne hM.hm rfl e)
            replace hx := (hx.mod x19).mono (fun i hi _ => ((by rw [show i = bm from hi]; exact hF bm (.inl rfl)) : F i))
            obtain ⟨hh, rfl, hh1, hh12, hm_n⟩ := hf19
            have hM := hM.setn x19 hm_n
            refine D_end ?_
            refine T_one ?_
            refine D_make (e := 3) (sz := 1) (by' := 8) (zs := [.int .i64 0]) rfl (by kernel_rfl) (by kernel_rfl) (by kernel_rfl) rfl rfl (by omega) (by omega) RX.mod (fun b8 w20 e8 x20 m8 => ?_)
            have g8 : w.heap.size ≤ b8 := by have := hx.size; omega
            have n8_1 : b1 < b8 := by have := m1.lt; omega
            have n8_2 : b2 < b8 := by have := m2.lt; omega
            have n8_7 : b7 < b8 := by have := m7.lt; omega
            replace m1 := m1.ext x20
            replace m2 := m2.ext x20
            replace m7 := m7.ext x20
            replace hM := hM.ext x20
            replace hx := hx.ext x20
            refine D_end ?_
            refine T_one ?_
            refine D_p rfl (pv_build (zs := [S [], S [], B false, .int .i64 0, .slice none 0 0]) (pl := [(0, 4), (4, 1)]) (pv := [(0, .agg ⟨[?a26_0, ?a26_1, ?a26_2, ?a26_3]⟩), (1, ?a26_4)]) (cs := [?a26_0, ?a26_1, ?a26_2, ?a26_3, ?a26_4]) (by kernel_rfl) (by kernel_rfl) ?h26 ?f26) ?k26
            case h26 => refine ⟨rfl, ?_, rfl, ?_, trivial⟩ <;> (conv => lhs; whnf)
            case f26 => rfl
            refine D_end ?_
            refine T_one ?_
            refine D_store (v := ?v27) (vs := ?u27) rfl rfl ?h27 ?c27 ?s27 m7 ?o27 ?n27 (.inl rfl) (fun w21 x21 xs21 m7 => ?k27)
            case h27 => conv => lhs; whnf
            case c27 => exact rfl
            case s27 => kernel_rfl
            case o27 => exact Nat.le_of_ble_eq_true rfl
            case n27 => simp [Value.oneCell']
            try dsimp only [setAt, List.set, List.take, List.drop] at m7
            try replace m1 := m1.mod x21 (by first | assumption | (intro k hk h; have h1 := (m1.lt k hk).1; have h2 : k = b7 := h; omega) | (intro k hk h; have h1 := o7_m1 k hk; have h2 : k = b7 := h; omega) | (intro h; have h2 : _ = b7 := h; omega) | (intro hl h; have h1 := a7_m1 hl; have h2 : _ = b7 := h; omega))
            try replace m2 := m2.mod x21 (by first | assumption | (intro k hk h; have h1 := (m2.lt k hk).1; have h2 : k = b7 := h; omega) | (intro k hk h; have h1 := o7_m2 k hk; have h2 : k = b7 := h; omega) | (intro h; have h2 : _ = b7 := h; omega) | (intro hl h; have h1 := a7_m2 hl; have h2 : _ = b7 := h; omega))
            replace hM := hM.mod x21 (fun k hk e => by have h1 := hft k hk; have h2 : k = b7 := e; omega)
            try replace m8 := m8.mod x21 (by first | assumption | (intro k hk h; have h1 := (m8.lt k hk).1; have h2 : k = b7 := h; omega) | (intro k hk h; have h1 := o7_m8 k hk; have h2 : k = b7 := h; omega) | (intro h; have h2 : _ = b7 := h; omega) | (intro hl h; have h1 := a7_m8 hl; have h2 : _ = b7 := h; omega))
            replace hx := hx.own x21 (fun i hi hlt => by have hi2 : i = b7 := hi; subst hi2; omega)
            refine D_end ?_
            refine T_nil ?_
            refine ⟨(b8, b7, hh), ⟨rfl, rfl, rfl, rfl, trivial⟩, hx, m1, m2, m7, ?_, hM, hh1, hh12, g8, g7⟩
            have hBr := m8
            rw [flat_rep0] at hBr; exact hBr
          exact T_stop
        · intro X22 g22 w22 hF22
          obtain ⟨bn, bt, hh⟩ := g22
          clear hx hM m1 m2
          obtain ⟨hx, m1, m2, hT, hB, hM, hh1, hh12, hbn, hbt⟩ := hF22
          refine W_seq fun K9 hK9 => ?_
          refine W_seq fun K10 hK10 => ?_
          refine W_reg [.p, .l, .p, .p] rfl ?_
          refine D_p rfl (pv_fieldA (k := 4) (by kernel_rfl) rfl) ?_
          refine D_lq rfl (lv_load (by kernel_rfl) rfl (hT.at rfl)) ?_
          refine D_p rfl (pv_lenV (e := 3) (k := 1) (by kernel_rfl) (towS ⟨c, bn, hh⟩).sl rfl) ?_
          refine D_mv (v := ?v28) rfl ?h28 ?k28
          case h28 => conv => lhs; whnf
          refine D_end (hK10 _ _ ?_)
          refine W_block ?_
          refine W_loop (G := Nat × List Nat × (Nat → List Nat)) (fun (k, tn, nxk) => [(0, ptr bm 0), (3, ptr b1 0), (5, ptr b2 0), (7, ptr bt 0), (53, I ↑hh), (54, I ↑k)]) (fun (k, tn, nxk) w' => Mod F w w' ∧ Blk w' b1 c.cs 28 ∧ Blk w' b2 (mapJ q) 53 ∧ Blk w' bt (Tow.enc ⟨c, bn, hh⟩) 47 ∧ Blk w' bn (mapJ tn) 3 ∧ MemAt w' bm va vd a nxk dr (n + 1) sz ∧ k ≤ hh ∧ tn.length = hh ∧ (∀ row, row < k → tn[row]? = some (nextAt (hgt a) (sufI a L c) row)) ∧ (∀ i row, i < a.length → row < hgt a i → (nxk i)[row]? = if row < k ∧ q[row]? = some i then some a.length else (nx i)[row]?)) (fun (k, tn, nxk) => hh - k) (0, List.replicate hh 0, nx) ?_ ?_ ?_
          · exact ⟨rfl, rfl, rfl, rfl, rfl, rfl, trivial⟩
          · exact ⟨hx, m1, m2, hT, hB, hM, Nat.zero_le _, by simp, fun row h => absurd h (Nat.not_lt_zero _), fun i row _ _ => by rw [if_neg (fun e => absurd e.1 (Nat.not_lt_zero _))]⟩
          · intro X23 g23 w23 hF23
            obtain ⟨k, tn, nxk⟩ := g23
            clear hx m1 m2 hT hB hM
            obtain ⟨hx, m1, m2, hT, hB, hM, hkh, htn, htr, hlay⟩ := hF23
            refine W_seq fun K11 hK11 => ?_
            refine W_reg [.p] rfl ?_
            refine D_p rfl (pv_lss rfl rfl) ?_
            refine D_end (hK11 _ _ ?_)
            refine W_seq fun K12 hK12 => ?_
            refine W_if rfl (fun c5 => ?_) (fun c5 => ?_)
            ·
              have hk12 : k < 12 := by omega
              have hqk := hql k hk12
              obtain ⟨A', R', hpA, hph, hpn⟩ := hs.last_in c hk12
              obtain ⟨p, hpe⟩ : ∃ p, lastAt (hgt a) (0 :: preI a L c) k = p := ⟨_, rfl⟩
              rw [hpe] at hqk hpA hph
              have hpin : p ∈ 0 :: preI a L c := by rw [hpA]; simp
              have hpa : p < a.length := by
                rcases List.mem_cons.1 hpin with e | e
                · rw [e]; exact hs.mem0 List.mem_cons_self
                · exact hs.mem0 (List.mem_cons_of_mem _ (preI_sub e))
              obtain ⟨tp, hkp⟩ : ∃ t, a[p]? = some t := ⟨_, List.getElem?_eq_getElem hpa⟩
              have hkf : foot bm va vd a tp.bk := .inr (.inr (.inr ⟨tp, List.mem_of_getElem? hkp, rfl⟩))
              have hnp : (nxk p)[k]? = some (nextAt (hgt a) (sufI a L c) k) := by
                rw [hlay p k hpa hph, if_neg (fun e => absurd e.1 (Nat.lt_irrefl _)), hs.nextR hpA hph, nextAt_none hpn]
              have hnl2 : k < (nxk p).length := (List.getElem?_eq_some_iff.1 hnp).1
              refine W_skip ?_
              refine hK12 _ _ ?_
              refine W_seq fun K13 hK13 => ?_
              refine W_block ?_
              refine W_seq fun K14 hK14 => ?_
              refine W_reg [.p, .p] rfl ?_
              refine D_mv (v := ?v29) rfl ?h29 ?k29
              case h29 => conv => lhs; whnf
              refine D_as (v := ?v30) rfl ?h30 ?k30
              case h30 => conv => lhs; whnf
              refine D_end (hK14 _ _ ?_)
              refine W_seq fun K15 hK15 => ?_
              refine W_draw (R := Ext) Ext.refl (fun _ _ _ => Ext.trans) (by kernel_rfl) [3, 6] [(0, .p, false), (1, .p, false), (2, .p, false), (3, .l, false), (4, .p, false), (5, .p, false), (6, .l, false), (7, .p, false), (8, .p, false)] rfl (by kernel_rfl) (by kernel_rfl) (fun w24 ew24 => ?_)
              have x24 : Ext w23 w24 := by rw [ew24]; exact Ext.drew _
              clear ew24
              replace m1 := m1.ext x24
              replace m2 := m2.ext x24
              replace hT := hT.ext x24
              replace hB := hB.ext x24
              replace hM := hM.ext x24
              replace hx := hx.ext x24
              refine D_mv (v := ?v31) rfl ?h31 ?k31
              case h31 => conv => lhs; whnf
              refine D_p rfl (pv_nilP rfl) ?_
              refine D_p rfl (pv_fieldA (k := 0) (by kernel_rfl) rfl) ?_
              refine D_l rfl (fun w' hR => lv_load (by kernel_rfl) rfl ((hM.hm.ext hR).at rfl)) ?_
              refine D_mv (v := ?v32) rfl ?h32 ?k32
              case h32 => conv => lhs; whnf
              refine D_p rfl (pv_idxR (m := 12) (e := 3) (k := 1) (by kernel_rfl) rfl rfl (by omega)) ?_
              refine D_l rfl (fun w' hR => lv_load (by kernel_rfl) rfl ((m2.ext hR).at (mapJ_at hqk))) ?_
              refine D_p rfl (pv_idxA (e := 47) (k := 5) (by kernel_rfl) hM.arr.sl rfl rfl (hM.arr.lt hkp)) ?_
              refine D_as (v := ?v33) rfl ?h33 ?k33
              case h33 => conv => lhs; whnf
              refine D_end (hK15 _ _ ?_)
              refine W_draw (R := Ext) Ext.refl (fun _ _ _ => Ext.trans) (by kernel_rfl) [1, 6, 11, 14, 18] [(0, .p, false), (1, .l, false), (2, .p, false), (3, .p, false), (4, .p, false), (5, .p, false), (6, .l, false), (7, .p, false), (8, .p, false), (9, .p, false), (10, .p, false), (11, .l, false), (12, .p, false), (13, .p, false), (14, .l, false), (15, .p, false), (16, .p, false), (17, .p, false), (18, .l, false), (19, .p, false), (20, .p, false), (21, .x, true), (22, .p, false), (23, .x, true)] rfl (by kernel_rfl) (by kernel_rfl) (fun w25 ew25 => ?_)
              have x25 : Ext w24 w25 := by rw [ew25]; exact Ext.drew _
              clear ew25
              replace m1 := m1.ext x25
              replace m2 := m2.ext x25
              replace hT := hT.ext x25
              replace hB := hB.ext x25
              replace hM := hM.ext x25
              replace hx := hx.ext x25
              refine D_p rfl (pv_fieldA (k := 4) (by kernel_rfl) rfl) ?_
              refine D_l rfl (fun w' hR => lv_load (by kernel_rfl) rfl ((hT.ext hR).at rfl)) ?_
              refine D_mv (v := ?v34) rfl ?h34 ?k34
              case h34 => conv => lhs; whnf
              refine D_mv (v := ?v35) rfl ?h35 ?k35
              case h35 => conv => lhs; whnf
              refine D_p rfl (pv_nilP rfl) ?_
              refine D_p rfl (pv_fieldA (k := 4) (by kernel_rfl) rfl) ?_
              refine D_l rfl (fun w' hR => lv_load (by kernel_rfl) rfl (((hM.arr.ext hR).row hkp).at rfl)) ?_
              refine D_mv (v := ?v36) rfl ?h36 ?k36
              case h36 => conv => lhs; whnf
              refine D_mv (v := ?v37) rfl ?h37 ?k37
              case h37 => conv => lhs; whnf
              refine D_p rfl (pv_nilP rfl) ?_
              refine D_p rfl (pv_fieldA (k := 4) (by kernel_rfl) rfl) ?_
              refine D_l rfl (fun w' hR => lv_load (by kernel_rfl) rfl (((hM.arr.ext hR).row hkp).at rfl)) ?_
              refine D_mv (v := ?v38) rfl ?h38 ?k38
              case h38 => conv => lhs; whnf
              refine D_p rfl (pv_idxA (e := 3) (k := 1) (by kernel_rfl) (hM.next hs hkp).sl rfl rfl ((hM.next hs hkp).lt hnp)) ?_
              refine D_l rfl (fun w' hR => lv_load (by kernel_rfl) rfl ((((hM.next hs hkp).ext hR).row hnp).at0 rfl)) ?_
              refine D_mv (v := ?v39) rfl ?h39 ?k39
              case h39 => conv => lhs; whnf
              refine D_p rfl (pv_nilP rfl) ?_
              refine D_p rfl (pv_fieldA (k := 0) (by kernel_rfl) rfl) ?_
              refine D_l rfl (fun w' hR => lv_load (by kernel_rfl) rfl ((hM.hm.ext hR).at rfl)) ?_
              refine D_p rfl (pv_lenV (e := 47) (k := 5) (by kernel_rfl) hM.arr.sl rfl) ?_
              refine D_p rfl (pv_idxA (e := 3) (k := 1) (by kernel_rfl) (towS ⟨c, bn, hh⟩).sl rfl rfl (show k < hh by omega)) ?_
              refine D_store1 (b := bn) (o := 0 + k * 1) (v := ?v40) rfl rfl ?h40 ?n40 (by kernel_rfl) (hB) ?o40 (.inl rfl) (fun w26 x26 xs26 hB_n => ?k40)
              case h40 => conv => lhs; whnf
              case n40 => rfl
              case o40 => simp; omega
              replace m1 := m1.mod x26 (fun e => m1.ne hB rfl e)
              replace m2 := m2.mod x26 (fun e => m2.ne hB rfl e)
              replace hT := hT.mod x26 (fun e => hT.ne hB rfl e)
              replace hM := hM.mod x26 (fun k hk e => by have h1 := hft k hk; have h2 : k = bn := e; omega)
              replace hx := hx.own x26 (fun i hi _ => absurd hi (by intro e; have e2 : i = bn := e; omega))
              have hB : Blk w26 bn (mapJ (tn.set k (nextAt (hgt a) (sufI a L c) k))) 3 := by
                have e := hB_n
                rw [set_mapJ] at e; exact e
              have htn_old := htn
              replace htn : (tn.set k (nextAt (hgt a) (sufI a L c) k)).length = hh := by rw [List.length_set]; exact htn_old
              refine D_p rfl (pv_idxA (e := 3) (k := 1) (by kernel_rfl) (hM.next hs hkp).sl rfl rfl ((hM.next hs hkp).lt hnp)) ?_
              refine D_store1 (b := tp.bk) (o := 0 + k * 1) (v := ?v41) rfl rfl ?h41 ?n41 (by kernel_rfl) ((hM.hN p tp hkp).1) ?o41 (.inl rfl) (fun w27 x27 xs27 hP_n => ?k41)
              case h41 => conv => lhs; whnf
              case n41 => rfl
              case o41 => simp; omega
              replace m1 := m1.mod x27 (fun e => m1.ne (hM.hN p tp hkp).1 rfl e)
              replace m2 := m2.mod x27 (fun e => m2.ne (hM.hN p tp hkp).1 rfl e)
              replace hT := hT.mod x27 (fun e => hT.ne (hM.hN p tp hkp).1 rfl e)
              replace hB := hB.mod x27 (fun e => by have h1 := hft tp.bk hkf; have h2 : bn = tp.bk := e; omega)
              replace hx := hx.own x27 (fun i hi _ => hF i (.inr (.inr (.inr ⟨tp, List.mem_of_getElem? hkp, Eq.symm hi⟩))))
              have hM := hM.setN (q := (nxk p).set k a.length) hkp x27 (by have e := hP_n; rw [set_mapJ] at e; exact e) (by rw [List.length_set]; exact (hM.hN p tp hkp).2)
              refine D_end (hK13 _ _ ?_)
              refine W_reg [.p, .p] rfl ?_
              refine D_p rfl (pv_add rfl rfl (by unfold inI64; omega)) ?_
              refine D_mv (v := ?v42) rfl ?h42 ?k42
              case h42 => conv => lhs; whnf
              refine D_end (?_)
              refine ⟨(k + 1, tn.set k (nextAt (hgt a) (sufI a L c) k), updN nxk p ((nxk p).set k a.length)), ⟨rfl, rfl, rfl, rfl, rfl, rfl, trivial⟩, ⟨hx, m1, m2, hT, hB, hM, by omega, htn, tn_step htr (by omega), lay_step hlay hqk hnl2⟩, by simp only []; omega⟩
            ·
              refine W_exit ?_
              refine hK9 _ _ ?_
              refine W_seq fun K16 hK16 => ?_
              refine W_draw (R := Mod (fun k => va.ownBlock = some k)) modRefl modTrans (by kernel_rfl) [4, 5] [(0, .p, false), (1, .p, false), (2, .p, false), (3, .p, false), (4, .l, false), (5, .l, false), (6, .x, false), (7, .x, false), (8, .p, false), (9, .p, false), (10, .x, true)] rfl (by kernel_rfl) (by kernel_rfl) (fun w28 ew28 => ?_)
              have x28 : Ext w23 w28 := by rw [ew28]; exact Ext.drew _
              clear ew28
              replace m1 := m1.ext x28
              replace m2 := m2.ext x28
              replace hT := hT.ext x28
              replace hB := hB.ext x28
              replace hM := hM.ext x28
              replace hx := hx.ext x28
              refine D_mv (v := ?v43) rfl ?h43 ?k43
              case h43 => conv => lhs; whnf
              refine D_mv (v := ?v44) rfl ?h44 ?k44
              case h44 => conv => lhs; whnf
              refine D_p rfl (pv_nilP rfl) ?_
              refine D_p rfl (pv_fieldA (k := 0) (by kernel_rfl) rfl) ?_
              refine D_l rfl (fun w' hR => lv_load (by kernel_rfl) rfl ((hM.hm.mod hR (fun e => hM.hA.ne_blk hM.hm rfl e)).at rfl)) ?_
              refine D_l rfl (fun w' hR => lv_loadA (k := 5) (by kernel_rfl) rfl rfl (hT.mod hR (fun e => by have h1 := hft bt (.inr (.inl e)); omega)).row) ?_
              refine D_lit (e := 47) (sz := 5) (zs := [S [], S [], B false, .int .i64 0, .slice none 0 0]) (pv := [(0, .agg ⟨[?a45_0, ?a45_1, ?a45_2, ?a45_3, ?a45_4]⟩)]) (cs := [?a45_0, ?a45_1, ?a45_2, ?a45_3, ?a45_4]) rfl (by kernel_rfl) ⟨rfl, rfl⟩ (by kernel_rfl) rfl ?h45 ?f45 RX.mod (fun b9 w29 e9 x29 m9 => ?k45)
              case h45 => refine ⟨rfl, ?_, trivial⟩ <;> (conv => lhs; whnf)
              case f45 => rfl
              have g9 : w.heap.size ≤ b9 := by have := hx.size; omega
              have n9_1 : b1 < b9 := by have := m1.lt; omega
              have n9_2 : b2 < b9 := by have := m2.lt; omega
              have a9_hT := hT.lt
              replace m1 := m1.ext x29
              replace m2 := m2.ext x29
              replace hT := hT.ext x29
              replace hB := hB.ext x29
              replace hM := hM.ext x29
              replace hx := hx.ext x29
              refine D_append2 (e := 47) (sz := 5) (by' := 72) rfl (by kernel_rfl) (by kernel_rfl) (by intro x; rfl) hM.hA (m9.arr (enc := Tow.enc) (sz := 5) (l := [⟨c, bn, hh⟩]) rfl (by intro x; rfl) rfl (by simp)) rfl rfl (by intro x hx u hu; simp at hx; subst hx; simp at hu; rcases hu with rfl | rfl | rfl | rfl | rfl <;> rfl) (by simp; omega) (by decide) (Nat.zero_le _) (.inr fun _ h => h) (fun vp w30 hA_n x30 hwh => ?_)
              have hM1 := hM
              have hB1 := hB
              have hwA : w29.heap.size ≤ w30.heap.size := x30.size
              have hsA := hx.size
              replace m1 := m1.mod x30 (fun e => hM1.hA.ne_blk m1 rfl e)
              replace m2 := m2.mod x30 (fun e => hM1.hA.ne_blk m2 rfl e)
              replace hT := hT.mod x30 (fun e => by have h1 := hft bt (.inr (.inl e)); omega)
              replace hB := hB.mod x30 (fun e => hM1.hA.ne_blk hB rfl e)
              replace hx := hx.own x30 (fun i hi _ => hF i (.inr (.inl hi)))
              have hm_n := hM1.hm.mod x30 (fun e => hM1.hA.ne_blk hM1.hm rfl e)
              refine D_p rfl (pv_nilP rfl) ?_
              refine D_p rfl (pv_fieldA (k := 0) (by kernel_rfl) rfl) ?_
              refine D_store1 (b := bm) (o := 0) (v := ?v46) rfl rfl ?h46 ?n46 (by kernel_rfl) (hm_n) ?o46 (.inl rfl) (fun w31 x31 xs31 hm_m => ?k46)
              case h46 => conv => lhs; whnf
              case n46 => exact isSl.one hA_n.sl
              case o46 => exact Nat.le_of_ble_eq_true rfl
              replace m1 := m1.mod x31 (fun e => m1.ne hm_n rfl e)
              replace m2 := m2.mod x31 (fun e => m2.ne hm_n rfl e)
              replace hT := hT.mod x31 (fun e => hT.ne hm_n rfl e)
              replace hB := hB.mod x31 (fun e => hB.ne hm_n rfl e)
              replace hx := hx.own x31 (fun i hi _ => hF i (.inl hi))
              dsimp only [List.set] at hm_m
              have hM := hM1.grow (t := ⟨c, bn, hh⟩) (q := tn) x30 hA_n x31 hm_m hB1 htn (fun s hs e => by have h1 := hft s.bk (.inr (.inr (.inr ⟨s, hs, rfl⟩))); have h2 : s.bk = bn := e; omega)
              refine D_end (hK16 _ _ ?_)
              refine W_seq fun K17 hK17 => ?_
              refine W_draw (R := Ext) Ext.refl (fun _ _ _ => Ext.trans) (by kernel_rfl) [3, 4] [(0, .p, false), (1, .p, false), (2, .p, false), (3, .l, false), (4, .l, false), (5, .x, false), (6, .p, false), (7, .p, false), (8, .p, false), (9, .x, true)] rfl (by kernel_rfl) (by kernel_rfl) (fun w32 ew32 => ?_)
              have x32 : Ext w31 w32 := by rw [ew32]; exact Ext.drew _
              clear ew32
              replace m1 := m1.ext x32
              replace m2 := m2.ext x32
              replace hT := hT.ext x32
              replace hB := hB.ext x32
              replace hM := hM.ext x32
              replace hx := hx.ext x32
              refine D_mv (v := ?v47) rfl ?h47 ?k47
              case h47 => conv => lhs; whnf
              refine D_p rfl (pv_nilP rfl) ?_
              refine D_p rfl (pv_fieldA (k := 3) (by kernel_rfl) rfl) ?_
              refine D_l rfl (fun w' hR => lv_load (by kernel_rfl) rfl ((hM.hm.ext hR).at rfl)) ?_
              refine D_l rfl (fun w' hR => lv_loadA (k := 4) (by kernel_rfl) rfl rfl (m1.ext hR).row) ?_
              refine D_callP rfl (by kernel_rfl) (size_w c _ (by simp only [isC, Bool.and_eq_true, decide_eq_true_eq] at hisC; omega) (by simp only [isC, Bool.and_eq_true, decide_eq_true_eq] at hisC; omega)) rfl RX.ext (fun w33 x33 => ?_)
              replace m1 := m1.ext x33
              replace m2 := m2.ext x33
              replace hT := hT.ext x33
              replace hB := hB.ext x33
              replace hM := hM.ext x33
              replace hx := hx.ext x33
              refine D_p rfl (pv_add rfl rfl (by simp only [isC, Bool.and_eq_true, decide_eq_true_eq] at hisC; unfold inI64 sizeC; omega)) ?_
              refine D_p rfl (pv_nilP rfl) ?_
              refine D_p rfl (pv_fieldA (k := 3) (by kernel_rfl) rfl) ?_
              refine D_store1 (b := bm) (o := 3) (v := ?v48) rfl rfl ?h48 ?n48 (by kernel_rfl) (hM.hm) ?o48 (.inl rfl) (fun w34 x34 xs34 hm_k => ?k48)
              case h48 => conv => lhs; whnf
              case n48 => rfl
              case o48 => exact Nat.le_of_ble_eq_true rfl
              replace m1 := m1.mod x34 (fun e => m1.ne hM.hm rfl e)
              replace m2 := m2.mod x34 (fun e => m2.ne hM.hm rfl e)
              replace hT := hT.mod x34 (fun e => hT.ne hM.hm rfl e)
              replace hB := hB.mod x34 (fun e => hB.ne hM.hm rfl e)
              replace hx := hx.own x34 (fun i hi _ => hF i (.inl hi))
              dsimp only [List.set] at hm_k
              have hM := hM.setn (n' := n + 1) (sz' := sz + sizeC c) x34 hm_k
              refine D_end (hK17 _ _ ?_)
              refine W_seq fun K18 hK18 => ?_
              refine W_reg [.p] rfl ?_
              refine D_as (v := ?v49) rfl ?h49 ?k49
              case h49 => conv => lhs; whnf
              refine D_end (hK18 _ _ ?_)
              refine W_ret ?_
              try dsimp only [then', inBlk, noGo]
              refine ret_one (v := ?v50) rfl rfl ?h50 ?k50
              case h50 => conv => lhs; whnf
              have hp : put l c = (true, pre l c ++ c :: suf l c) := by simp [put, hhas, hisC]
              rw [hp]
              have hkk : k = hh := by omega
              have hlenh : ∀ i, i < a.length → (nx i).length = hgt a i ∧ (updN nxk a.length tn i).length = hgt a i := fun i hi => by
                have ht : a[i]? = some a[i] := List.getElem?_eq_getElem hi
                rw [hgt_at ht]
                exact ⟨(h.hN i _ ht).2, (hM.hN i a[i] (by rw [List.getElem?_append_left hi]; exact ht)).2⟩
              have hsk := hs.put (t := ⟨c, bn, hh⟩) (nx2 := updN nxk a.length tn) rfl ⟨hh1, hh12⟩ hlenh (fun row hr => by
                have hr' : row < hh := hr
                unfold updN; rw [if_pos rfl]; exact htr row (by omega)) (fun i row hi hr => by
                unfold updN
                rw [if_neg (by omega), hlay i row hi hr]
                have hhi := (hs.hle i hi).2
                have e : (row < k ∧ q[row]? = some i) ↔ (row < hh ∧ lastAt (hgt a) (0 :: preI a L c) row = i) := by rw [hql row (by omega), Option.some.injEq, hkk]
                by_cases h1 : row < k ∧ q[row]? = some i
                · rw [if_pos h1, if_pos (e.1 h1)]
                · rw [if_neg h1, if_neg (fun h2 => h1 (e.2 h2))])
              have hsd2 := hsd.put c
              rw [hp] at hsd2
              refine ⟨rfl, hx, vp, vd, a ++ [⟨c, bn, hh⟩], updN nxk a.length tn, dr, _, by rw [len_split, sizeL_split, ← hnl, ← hszl]; exact hM, hsk, hsd2, fun j hj => ?_, fun j hj => hj.elim (fun h => Nat.lt_of_lt_of_le (hFl j h) hx.size) (fun h => h.2)⟩
              have hlt := hM.lt hj
              rcases hj with rfl | hj | hj | ⟨s, hs', rfl⟩
              · exact .inl (hF _ (.inl rfl))
              · rcases hwh with e | e
                · exact .inl (hF j (.inr (.inl (by rw [← e]; exact hj))))
                · rw [e] at hj
                  have e2 := Option.some.inj hj
                  exact .inr ⟨by omega, hlt⟩
              · exact .inl (hF j (.inr (.inr (.inl hj))))
              · rcases List.mem_append.1 hs' with hm | hm
                · exact .inl (hF _ (.inr (.inr (.inr ⟨s, hm, rfl⟩))))
                · rw [List.mem_singleton.1 hm] at hlt ⊢
                  exact .inr ⟨hbn, hlt⟩

end Go.Proofs.Ytodmkkcediofgaa
