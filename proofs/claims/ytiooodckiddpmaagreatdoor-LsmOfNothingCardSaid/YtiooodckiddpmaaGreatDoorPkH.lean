/-
  A part of the proof: LgD CgA FlA EmA EmB NiA OkA KnA LwN GvR VcZ VcY VcX.
-/
import Derived.Test.YtiooodckiddpmaaGreatDoorPkA
import Derived.Test.YtiooodckiddpmaaGreatDoorChecked
import Derived.KernelRfl
import Derived.Test.YtiooodckiddpmaaGreatDoorPkC
import Derived.Test.YtiooodckiddpmaaGreatDoorPkG
import Derived.Test.YtiooodckiddpmaaGreatDoorPkF
import Derived.Test.YtiooodckiddpmaaGreatDoorPkE
import Derived.Test.YtiooodckiddpmaaGreatDoorPkB
import Derived.Test.YtiooodckiddpmaaGreatDoorRows
import Derived.Lib.LaidTab
import Derived.ProofKit
import Derived.Deep.Slices
import Derived.Lib.SmallJoins
import Derived.HandedShaped
import Derived.SizedLaws
import Derived.Shelf.Vars
set_option maxRecDepth 100000
set_option maxHeartbeats 4000000
set_option linter.unusedVariables false
set_option linter.unusedSimpArgs false
namespace Go.Proofs.YtiooodckiddpmaaGreatDoor
open Go.Vc Go.Sp
attribute [local irreducible] W XW Dw DwT
def wrR (D : Dsk) (i : Int) (p : Str) : Int × Dsk := if (D.save Led.img (Led.ent i p)).1 = 0 then (D.save Led.img (Led.ent i p)).2.rems [Led.logn] else D.save Led.img (Led.ent i p)
theorem wr_dead {L : Led} {D : Dsk} {i : Int} {p : Str} (h : L.dead = true) : L.write D i p = (9, L, D) := by unfold Led.write; rw [if_pos h]
theorem wr_arg {L : Led} {D : Dsk} {i : Int} {p : Str} (h : L.dead = false) (h2 : i < L.last ∨ 1099511627776 < i) : L.write D i p = (1, L, D) := by unfold Led.write; rw [if_neg (by rw [h]; decide), if_pos h2]
theorem wr_long {L : Led} {D : Dsk} {i : Int} {p : Str} (h : L.dead = false) (h2 : ¬ (i < L.last ∨ 1099511627776 < i)) (h3 : 524288 < p.length) : L.write D i p = (5, L, D) := by unfold Led.write; rw [if_neg (by rw [h]; decide), if_neg h2, if_pos h3]
theorem wr_err {L : Led} {D : Dsk} {i : Int} {p : Str} (h : L.dead = false) (h2 : ¬ (i < L.last ∨ 1099511627776 < i)) (h3 : ¬ 524288 < p.length) (h4 : (wrR D i p).1 ≠ 0) : L.write D i p = ((wrR D i p).1, { L with dead := true }, (wrR D i p).2) := by unfold Led.write; rw [if_neg (by rw [h]; decide), if_neg h2, if_neg h3]; exact if_pos h4
theorem wr_good {L : Led} {D : Dsk} {i : Int} {p : Str} (h : L.dead = false) (h2 : ¬ (i < L.last ∨ 1099511627776 < i)) (h3 : ¬ 524288 < p.length) (h4 : ¬ (wrR D i p).1 ≠ 0) : L.write D i p = (0, ⟨i, p, [], false⟩, (wrR D i p).2) := by unfold Led.write; rw [if_neg (by rw [h]; decide), if_neg h2, if_neg h3]; exact if_neg h4
theorem LedE.image {G : Nat → Prop} {bl bd : Nat} {vd ve vp : Value} {vs : List (Value × Str)} {L : Led} {w0 w' : World} {i : Int} {p : Str} (h : LedE G bl bd vd ve vs L w0) (hs : w0.heap.size ≤ w'.heap.size) (hm : Blk w' bl [ptr bd 0, S [115], I i, vp, .slice none 0 0, B false] 147) (ha : Arr encB 1 w' vp p) (hf : p ≠ [] → w0.heap.size ≤ (base vp).1) (h0 : 0 ≤ i) (h1 : i ≤ 1099511627776) (hp : p.length ≤ 524288) :
    LedE (growF G w0 w') bl bd vp (.slice none 0 0) [] ⟨i, p, [], false⟩ w' := by
  refine ⟨hm, ha, Vc.Own.nil, rfl, (fun q hq => by cases hq), fun k hk => ?_, fun k hk => ?_, growF_lt h.lt hs, h0, h1, hp, (fun q hq => by cases hq), (by simpa [Led.last] using h1)⟩
  · rcases hk with rfl | hk | hk | ⟨q, hq, _⟩
    · exact .inl (h.inG _ (.inl rfl))
    · cases hk
    · obtain ⟨hl, rfl⟩ := hk
      exact .inr ⟨hf hl, ha.base_lt (by decide) hl⟩
    · cases hq
  · rcases hk with hk | ⟨q, hq, _⟩
    · obtain ⟨hl, rfl⟩ := hk
      refine ⟨fun e => ?_, fun e => by cases e⟩
      have h1 := hf hl
      have h2 := h.lt bl (h.inG bl (.inl rfl))
      rw [e] at h1; omega
    · cases hq
theorem ledWr_w (H : Nat → Prop) (bl bd : Nat) (L : Led) (D : Dsk) (ix : Int) (p : Str) (vp : Value) (w : World) (h : LD H bl bd L D w) (hp : Arr encB 1 w vp p) (hpl : p.length ≤ 1000000) (hpH : p ≠ [] → ¬ H (base vp).1) :
    Calls Tryz.prog 94 [ptr bl 0, I ix, vp].toArray w (Does H w (fun u w' => u = I (L.write D ix p).1 ∧ LD (growF H w w') bl bd (L.write D ix p).2.1 (L.write D ix p).2.2 w')) := by
 refine cw Tryz.func94 ?_
 have hx := Ext.refl w
 have h00 := h
 obtain ⟨F, G, vd, ve, vs, hA, hE, hFG, hFH, hlt⟩ := h
 have hl := hE.m
 have hla := hE.la
 have hb0 := hE.b0
 have hl0 : 0 ≤ L.last := by unfold Led.last; omega
 have hltG := hE.lt
 have hblt := hl.lt
 have hnv := numS_len (capN ix)
 have hbl1 : ([ix].flatMap numI).length ≤ 10 := by simpa [numI] using hnv
 have helen := ent_len ix p
 refine ws fun _ Z1 => wr (da (de Z1 (ws fun _ Z2 => W_block (ws fun _ Z3 => wr (dm ?_)))))
 refine dp (pv_eqP (by kernel_rfl) rfl rfl) (da (de Z3 ?_))
 refine wi (fun c1 => ?_) fun c1 => ?_
 ·
  exact absurd c1 (by simp)
 refine ws fun _ Z4 => wr (dm ?_)
 refine dz rfl (df 5 rfl (dl rfl (hl.at rfl) (da (de Z4 ?_))))
 refine wc (fun c2 => ?_) fun c2 => ?_
 ·
  refine ws fun _ Z5 => wr (da (de Z5 (W_ret ?_)))
  refine ro ?_
  rw [wr_dead c2]
  exact ⟨_, rfl, hx.mono (fun _ h _ => h.elim), rfl, h00.grow hx⟩
 refine ws fun _ Z6 => wr (dm (dm ?_))
 refine cP (last_w G bl bd vd ve vs L _ hE) RX.all fun w1 x1 => ?_
 replace hl := hl.ext x1
 replace hE := hE.ext x1
 replace hA := hA.ext x1
 replace hx := hx.trans x1
 refine dp (pv_lss rfl rfl) (dm ?_)
 refine D_splitP 22 rfl (fun c3 => ?_) (fun c3 => ?_)
 ·
  refine dk (dk (dk' ?_))
  refine da (de Z6 ?_)
  refine W_t rfl (ws fun _ Z7 => wr (da (de Z7 (W_ret ?_))))
  refine ro ?_
  rw [wr_arg c2 (by omega)]
  exact ⟨_, rfl, hx.mono (fun _ h _ => h.elim), rfl, h00.grow hx⟩
 refine dm ?_
 refine dp (pv_gtr rfl rfl) (dk' ?_)
 refine da (de Z6 ?_)
 refine wi (fun c4 => ?_) fun c4 => ?_
 ·
  refine ws fun _ Z8 => wr (da (de Z8 (W_ret ?_)))
  refine ro ?_
  rw [wr_arg c2 (by omega)]
  exact ⟨_, rfl, hx.mono (fun _ h _ => h.elim), rfl, h00.grow hx⟩
 have hnl : ¬ (ix < L.last ∨ 1099511627776 < ix) := by omega
 refine ws fun _ Z9 => wr (dm ?_)
 refine dv 5 1 hp.sl (dp (pv_gtr rfl rfl) (da (de Z9 ?_)))
 refine wi (fun c5 => ?_) fun c5 => ?_
 ·
  refine ws fun _ Z10 => wr (da (de Z10 (W_ret ?_)))
  refine ro ?_
  rw [wr_long c2 hnl (by omega)]
  exact ⟨_, rfl, hx.mono (fun _ h _ => h.elim), rfl, h00.grow hx⟩
 have hpl2 : ¬ 524288 < p.length := by omega
 refine W_skip (Z2 _ _ (ws fun _ Z11 => wr (D_alloc (cs := [.slice none 0 0]) rfl (by kernel_rfl) RX.all (fun b1 w2 e1 x2 m1 => ?_))))
 have g1 := hx.ge e1
 have a1_hl := hl.lt
 have a1_hE := hE.lt
 have a1_hA := hA.lt
 replace hl := hl.ext x2
 replace hE := hE.ext x2
 replace hA := hA.ext x2
 replace hx := hx.trans x2
 refine de Z11 (ws fun _ Z12 => wr (dm ?_))
 refine li (e := 3) (sz := 1) (zs := [.int .i64 0]) (pv := [(0, _)]) (cs := [_]) RX.all (fun b2 w3 e2 x3 m2 => ?_)
 have g2 := hx.ge e2
 have n2_1 := m1.ltb e2
 have a2_hl := hl.lt
 have a2_hE := hE.lt
 have a2_hA := hA.lt
 replace hl := hl.ext x3
 replace hE := hE.ext x3
 replace hA := hA.ext x3
 replace m1 := m1.ext x3
 replace hx := hx.trans x3
 have hWr : Wr w.heap.size b1 (.slice none 0 0) [] w3 := ⟨m1, Vc.Own.nil⟩
 refine cD (wnums_w w.heap.size b1 (.slice none 0 0) [] [ix] (.slice (some ⟨b2, 0, none⟩) 1 1) _ hWr (by simp) hx.size (m2.arr (enc := Vc.encI) (sz := 1) (l := [ix]) rfl (by intro x; rfl) rfl (by simp)) (by simp) (fun k hk _ e => hk.elim (fun h => by have e2 : b2 = k := e; omega) (fun h => by cases h))) (.inl rfl) fun u4 w4 x4 hf4 => ?_
 have hsz4 := hx.size
 replace hl := hl.mod x4 (fun h => by have h8 := hWr.ge g1 h; omega)
 replace hE := hE.mod x4 (fun k hk h => by have h9 := hltG k hk; have h8 := hWr.ge g1 h; omega)
 replace hA := hA.mod x4 (fun k hk h => by have h9 := hlt k (hFH k (.inl hk)); have h8 := hWr.ge g1 h; omega)
 replace hx := hx.own x4 (fun i hi => hWr.ge g1 hi)
 obtain ⟨rfl, v2, hWr, hg2⟩ := hf4
 refine de Z12 (ws fun _ Z13 => wr (dm ?_))
 refine D_lit (e := 82) (sz := 1) (zs := [.slice none 0 0]) (pv := [(0, ?a27_0)]) (cs := [?a27_0]) rfl (by kernel_rfl) ⟨rfl, rfl⟩ (by kernel_rfl) rfl ?h27 ?f27 RX.all (fun b3 w5 e3 x5 m3 => ?k27)
 case h27 => refine ⟨rfl, ?_, trivial⟩ <;> (conv => lhs; whnf)
 case f27 => simp [fillL, setAt, List.replicate, hp.sl.cells]
 have g3 := hx.ge e3
 have a3_hl := hl.lt
 have a3_hE := hE.lt
 have a3_hA := hA.lt
 have a3_hWr := hWr.lt
 replace hl := hl.ext x5
 replace hE := hE.ext x5
 replace hA := hA.ext x5
 replace hWr := hWr.ext x5
 replace hx := hx.trans x5
 refine cD (wbytes_w w.heap.size b1 v2 _ [(vp, p)] (.slice (some ⟨b3, 0, none⟩) 1 1) _ hWr (by rw [List.nil_append]; omega) hx.size (one_row m3) (fun q h => by rw [List.mem_singleton.1 h]; exact hp.ext hx) (fun q h => by rw [List.mem_singleton.1 h]; exact hpl) (by simp) (fun _ h => Nat.lt_irrefl b3 (Nat.lt_of_lt_of_eq (a3_hWr _ h) e3.symm)) (fun q h hl h2 => by rw [List.mem_singleton.1 h] at hl h2; have h8 := hp.base_lt (by decide) hl; have h7 := hWr.ge g1 h2; exact absurd (Nat.lt_of_lt_of_le h8 h7) (Nat.lt_irrefl _))) (.inl rfl) fun u6 w6 x6 hf6 => ?_
 have hsz6 := hx.size
 replace hl := hl.mod x6 (fun h => by have h8 := hWr.ge g1 h; omega)
 replace hE := hE.mod x6 (fun k hk h => by have h9 := hltG k hk; have h8 := hWr.ge g1 h; omega)
 replace hA := hA.mod x6 (fun k hk h => by have h9 := hlt k (hFH k (.inl hk)); have h8 := hWr.ge g1 h; omega)
 replace hx := hx.own x6 (fun i hi => hWr.ge g1 hi)
 obtain ⟨rfl, v3, hWr, hg3⟩ := hf6
 refine de Z13 ?_
 refine W_cut (G := (Nat → Prop) × Dsk × Int) (fun (F1, D1, e1) => [(0, ptr bl 0), (1, I ix), (2, vp), (6, I 0), (8, I e1)]) (fun (F1, D1, e1) w' => Mod H w w' ∧ DiskAt F1 bd D1 w' ∧ LedE G bl bd vd ve vs L w' ∧ (∀ k, F1 k → F k ∨ w.heap.size ≤ k) ∧ Blk w' bl [ptr bd 0, S [115], I L.base, vd, ve, B L.dead] 147 ∧ D.save Led.img (Led.ent ix p) = (e1, D1)) ?_ ?_
 ·
  refine W_draw (R := Ext) Ext.refl (fun _ _ _ => Ext.trans) (by kernel_rfl) [3] [(0, .p, false), (1, .p, false), (2, .p, false), (3, .l, false), (4, .p, false), (5, .x, false), (6, .x, false), (7, .x, false), (8, .x, true), (9, .p, false)] rfl (by kernel_rfl) (by kernel_rfl) (fun w7 ew7 => ?_)
  have x7 := drewx ew7
  clear ew7
  replace hl := hl.ext x7
  replace hE := hE.ext x7
  replace hA := hA.ext x7
  replace hWr := hWr.ext x7
  replace hx := hx.trans x7
  refine dm ?_
  refine dz rfl (df 0 rfl (dL rfl (fun _ hR => ((hl.ext hR).at rfl)) (dm ?_)))
  refine cP (imgName_w G bl bd vd ve vs L _ hE) RX.ext fun w8 x8 => ?_
  replace hl := hl.ext x8
  replace hE := hE.ext x8
  replace hA := hA.ext x8
  replace hWr := hWr.ext x8
  replace hx := hx.trans x8
  refine cG (wout_w w.heap.size b1 v3 _ _ hWr (by simp only [List.nil_append, List.length_append, List.map_cons, List.map_nil, List.flatMap_cons, List.flatMap_nil, List.append_nil, rowS, numI] at *; have h5 := numS_len p.length; omega)) RX.ext fun vo w9 x9 hB => ?_
  have hsz9 := hx.size
  replace hl := hl.ext x9
  replace hE := hE.ext x9
  replace hA := hA.ext x9
  replace hx := hx.trans x9
  rw [show ([] ++ [ix].flatMap numI) ++ List.flatMap rowS ([(vp, p)].map (fun q : Value × Str => q.2)) = Led.ent ix p by rw [List.nil_append]; exact ent_of (by omega) (by omega)] at hB
  refine D_lit (e := 82) (sz := 1) (zs := [.slice none 0 0]) (pv := [(0, ?a30_0)]) (cs := [?a30_0]) rfl (by kernel_rfl) ⟨rfl, rfl⟩ (by kernel_rfl) rfl ?h30 ?f30 RX.ext (fun b4 w10 e4 x10 m4 => ?k30)
  case h30 => refine ⟨rfl, ?_, trivial⟩ <;> (conv => lhs; whnf)
  case f30 => simp [fillL, setAt, List.replicate, hB.sl.cells]
  have g4 := hx.ge e4
  have a4_hl := hl.lt
  have a4_hE := hE.lt
  have a4_hA := hA.lt
  have o4_hB := hB.ltb e4
  replace hl := hl.ext x10
  replace hE := hE.ext x10
  replace hA := hA.ext x10
  replace hB := hB.ext x10
  replace hx := hx.trans x10
  refine cD (save_w F bd D Led.img (Led.ent ix p) vo _ _ hA (m4.arr (enc := fun x : Value => [x]) (sz := 1) (l := [vo]) rfl (by intro x; rfl) rfl (by simp)) (hB.arr (by intro x; rfl)) (by omega) (by decide)) (.inl rfl) fun u11 w11 x11 hf11 => ?_
  have hsz11 := hx.size
  replace hl := hl.mod x11 (fun h => hFG bl h (hE.inG bl (.inl rfl)))
  replace hE := hE.mod x11 (fun k hk h => hFG k h hk)
  replace hx := (hx.mod x11).mono (fun i hi _ => (hFH i (.inl hi) : H i))
  obtain ⟨rfl, hA⟩ := hf11
  have hszA := hsz11
  refine da (D_end (?_))
  exact ⟨(_, _, _), ⟨rfl, rfl, rfl, rfl, rfl, trivial⟩, hx, hA, hE, gro hszA, hl, rfl⟩
 intro X12 g12 w12 hF12
 obtain ⟨F1, D1, e1⟩ := g12
 clear hx hl hE hA hWr
 obtain ⟨hx, hA, hE, hsub1, hl, hR1⟩ := hF12
 have hs1 := hx.size
 refine W_cut (G := (Nat → Prop) × Dsk × Int) (fun (F2, D2, e) => [(0, ptr bl 0), (1, I ix), (2, vp), (6, I 0), (8, I e)]) (fun (F2, D2, e) w' => Mod H w w' ∧ DiskAt F2 bd D2 w' ∧ LedE G bl bd vd ve vs L w' ∧ (∀ k, F2 k → F k ∨ w.heap.size ≤ k) ∧ Blk w' bl [ptr bd 0, S [115], I L.base, vd, ve, B L.dead] 147 ∧ wrR D ix p = (e, D2)) ?_ ?_
 ·
  refine ws fun _ Z14 => wr (dm ?_)
  refine dp (pv_eql rfl rfl) (de Z14 (wi (fun c6 => ?_) fun c6 => ?_))
  ·
   refine W_draw (R := Ext) Ext.refl (fun _ _ _ => Ext.trans) (by kernel_rfl) [3] [(0, .p, false), (1, .p, false), (2, .p, false), (3, .l, false), (4, .p, false), (5, .x, false), (6, .x, false), (7, .x, true), (8, .p, false)] rfl (by kernel_rfl) (by kernel_rfl) (fun w13 ew13 => ?_)
   have x13 := drewx ew13
   clear ew13
   replace hA := hA.ext x13
   replace hE := hE.ext x13
   replace hl := hl.ext x13
   replace hx := hx.ext x13
   refine dm ?_
   refine dz rfl (df 0 rfl (dL rfl (fun _ hR => ((hl.ext hR).at rfl)) (dm ?_)))
   refine cP (logName_w G bl bd vd ve vs L _ hE) RX.ext fun w14 x14 => ?_
   replace hA := hA.ext x14
   replace hE := hE.ext x14
   replace hl := hl.ext x14
   replace hx := hx.ext x14
   refine li (e := 9) (sz := 1) (zs := [S []]) (pv := [(0, _)]) (cs := [_]) RX.ext (fun b5 w15 e5 x15 m5 => ?_)
   have g5 := hx.ge e5
   have a5_hA := hA.lt
   have a5_hE := hE.lt
   have a5_hl := hl.lt
   replace hA := hA.ext x15
   replace hE := hE.ext x15
   replace hl := hl.ext x15
   replace hx := hx.ext x15
   refine cD (removes_w F1 bd D1 [Led.logn] _ _ hA (one_str m5) (by simp) (fun _ hF => Nat.lt_irrefl b5 (Nat.lt_of_lt_of_eq (a5_hA _ hF) e5.symm))) (.inl rfl) fun u16 w16 x16 hf16 => ?_
   have hsz16 := hx.size
   replace hE := hE.mod x16 (fun k hk h => (hsub1 _ h).elim (fun h => hFG _ h hk) (fun h => by have h9 := hltG _ hk; omega))
   replace hl := hl.mod x16 (fun h => (hsub1 _ h).elim (fun h => hFG _ h (hE.inG bl (.inl rfl))) (fun h => by have h9 := hltG _ (hE.inG bl (.inl rfl)); omega))
   replace hx := hx.own x16 (fun i hi hlt => hFH i (.inl ((hsub1 i hi).resolve_right (by omega))))
   obtain ⟨rfl, hA⟩ := hf16
   refine da (D_end (?_))
   first | exact ⟨(_, _, _), ⟨rfl, rfl, rfl, rfl, rfl, trivial⟩, hx, hA, hE, fun k hk => hk.elim (hsub1 k) (fun h9 => .inr (by omega)), hl, by unfold wrR; rw [hR1, if_pos c6]⟩ | exact ⟨(F1, D1, e1), ⟨rfl, rfl, rfl, rfl, rfl, trivial⟩, hx, hA, hE, hsub1, hl, by unfold wrR; rw [hR1, if_neg c6]⟩
  refine W_skip ?_
  first | exact ⟨(_, _, _), ⟨rfl, rfl, rfl, rfl, rfl, trivial⟩, hx, hA, hE, fun k hk => hk.elim (hsub1 k) (fun h9 => .inr (by omega)), hl, by unfold wrR; rw [hR1, if_pos c6]⟩ | exact ⟨(F1, D1, e1), ⟨rfl, rfl, rfl, rfl, rfl, trivial⟩, hx, hA, hE, hsub1, hl, by unfold wrR; rw [hR1, if_neg c6]⟩
 intro X17 g17 w17 hF17
 obtain ⟨F2, D2, e⟩ := g17
 clear hx hA hE hl
 obtain ⟨hx, hA, hE, hsub, hl, hR⟩ := hF17
 have hsw := hx.size
 refine ws fun _ Z15 => ws fun _ Z16 => wr (dm (dm ?_))
 refine cD (dies_w G bl bd vd ve vs L e _ hE) (.inl rfl) fun u18 w18 x18 hf18 => ?_
 have hsz18 := hx.size
 replace hA := hA.mod x18 (fun k hk e9 => by have e8 : k = bl := e9; subst e8; exact (hsub _ hk).elim (fun h => hFG _ h (hE.inG _ (.inl rfl))) (fun h => by have h9 := hltG _ (hE.inG _ (.inl rfl)); omega))
 replace hx := hx.own x18 (fun i hi hlt => (by have e2 : i = bl := hi; rw [e2]; exact hFH bl (.inr (hE.inG bl (.inl rfl)))))
 obtain ⟨rfl, hE⟩ := hf18
 refine dp (pv_eql rfl rfl) (de Z16 (wi (fun c7 => ?_) fun c7 => ?_))
 ·
  have e07 : e = 0 := c7
  have hLe : { L with dead := L.dead || decide (e ≠ 0) } = L := by rw [c2, e07]; cases L; simp at c2 ⊢; exact c2
  rw [hLe] at hE
  have hl := hE.m
  have hA8 := hA.lt
  have hw24 := hx.size
  refine wr (dm (dm (dm (dm (dm ?_)))))
  refine cG (cloneB_w p vp _ (hp.mod hx hpH) (by omega)) RX.all fun vc w19 x19 hC => ?_
  have hsz19 := hx.size
  replace hA := hA.ext x19
  replace hl := hl.ext x19
  replace hx := hx.ext x19
  have hne3 := hC.ne_blk hl rfl
  refine dz rfl (df 2 rfl (st1 hl (fun w20 x20 xs20 hl => ?_) (hv := by first | rfl | exact hC.sl.one | exact isSl.one hA.sl | exact isSl.one hC.sl | exact isSl.one hp.sl)))
  try dsimp only [setAt, List.set, List.take, List.drop] at hl
  replace hA := hA.mod x20 (fun k hk e9 => by have e8 : k = bl := e9; subst e8; exact (hsub _ hk).elim (fun h => hFG _ h (hE.inG _ (.inl rfl))) (fun h => by have h9 := hltG _ (hE.inG _ (.inl rfl)); omega))
  replace hC := hC.mod x20 (fun k hk h => hne3 (by have h2 : k = bl := h; rw [hk, h2]))
  replace hx := hx.own x20 (fun i hi _ => (by have e2 : i = bl := hi; rw [e2]; exact hFH bl (.inr (hE.inG bl (.inl rfl)))))
  refine dz rfl (df 3 rfl (st1 hl (fun w21 x21 xs21 hl => ?_) (hv := by first | rfl | exact hC.sl.one | exact isSl.one hA.sl | exact isSl.one hC.sl | exact isSl.one hp.sl)))
  try dsimp only [setAt, List.set, List.take, List.drop] at hl
  replace hA := hA.mod x21 (fun k hk e9 => by have e8 : k = bl := e9; subst e8; exact (hsub _ hk).elim (fun h => hFG _ h (hE.inG _ (.inl rfl))) (fun h => by have h9 := hltG _ (hE.inG _ (.inl rfl)); omega))
  replace hC := hC.mod x21 (fun k hk h => hne3 (by have h2 : k = bl := h; rw [hk, h2]))
  replace hx := hx.own x21 (fun i hi _ => (by have e2 : i = bl := hi; rw [e2]; exact hFH bl (.inr (hE.inG bl (.inl rfl)))))
  refine dz rfl (df 4 rfl (st1 hl (fun w22 x22 xs22 hl => ?_) (hv := by first | rfl | exact hC.sl.one | exact isSl.one hA.sl | exact isSl.one hC.sl | exact isSl.one hp.sl)))
  try dsimp only [setAt, List.set, List.take, List.drop] at hl
  replace hA := hA.mod x22 (fun k hk e9 => by have e8 : k = bl := e9; subst e8; exact (hsub _ hk).elim (fun h => hFG _ h (hE.inG _ (.inl rfl))) (fun h => by have h9 := hltG _ (hE.inG _ (.inl rfl)); omega))
  replace hC := hC.mod x22 (fun k hk h => hne3 (by have h2 : k = bl := h; rw [hk, h2]))
  replace hx := hx.own x22 (fun i hi _ => (by have e2 : i = bl := hi; rw [e2]; exact hFH bl (.inr (hE.inG bl (.inl rfl)))))
  refine de Z15 (ws fun _ Z17 => wr (dm (da (de Z17 (W_ret ?_)))))
  refine ro ?_
  have hs22 := x19.size
  rw [c2] at hl
  have hE9 := hE.image (w' := w22) (i := ix) (p := p) (by omega) hl (hC.arr (by intro x; rfl)) (fun hn => (hC.base_ge hn).1) (by omega) (by omega) (by omega)
  refine ⟨_, rfl, hx, ?_⟩
  rw [wr_good c2 hnl hpl2 (by rw [hR, e07]; simp), hR, e07]
  refine ⟨rfl, F2, growF G w18 w22, vc, _, _, hA, hE9, fun k hk hg => ?_, fun k hk => hk.elim (fun h => (hsub k h).elim (fun h2 => .inl (hFH k (.inl h2))) (fun h2 => .inr ⟨h2, hA.lt k h⟩)) (fun h => ?_), growF_lt hlt hx.size⟩
  · rcases hg with hg | hg
    · exact (hsub k hk).elim (fun h => hFG k h hg) (fun h => by have := hltG k hg; omega)
    · have := hA8 k hk; omega
  · rcases h with h | h
    · exact .inl (hFH k (.inr h))
    · exact .inr ⟨Nat.le_trans hw24 h.1, h.2⟩
 refine W_skip (Z15 _ _ (ws fun _ Z18 => wr (dm (da (de Z18 (W_ret ?_))))))
 refine ro ?_
 have hLe : { L with dead := L.dead || decide (e ≠ 0) } = { L with dead := true } := by rw [c2]; simp [show ¬ e = 0 from c7]
 rw [hLe] at hE
 refine ⟨_, rfl, hx, ?_⟩
 rw [wr_err c2 hnl hpl2 (by rw [hR]; exact c7), hR]
 exact ⟨rfl, F2, G, vd, ve, vs, hA, hE, fun k hk hg => (hsub k hk).elim (fun h => hFG k h hg) (fun h => by have := hltG k hg; omega), fun k hk => hk.elim (fun h => (hsub k h).elim (fun h2 => .inl (hFH k (.inl h2))) (fun h2 => .inr ⟨h2, hA.lt k h⟩)) (fun h => .inl (hFH k (.inr h))), growF_lt hlt hx.size⟩
def addF (lv next : Int) (ss : List (List Cell)) : List Fi := ss.zipIdx.map fun p => mkFile lv next p.2 p.1
def filesD (next : Int) (ss : List (List Cell)) : List (Int × Str) := ss.zipIdx.map fun p => (next + ↑p.2, recS (tblS p.1))
def tabsD (lv next : Int) (ss : List (List Cell)) : List ((Int × Int) × List Cell) := ss.zipIdx.map fun p => ((lv, next + ↑p.2), p.1)
def MkG (b0 B1 : Nat) (lv next : Int) (xs : List Md) (ss : List (List Cell)) (w : World) : Prop := MkF b0 lv next xs ss w ∧ ∀ x ∈ xs, (base x.vb).1 < B1
section
variable {b0 B1 : Nat} {lv next : Int} {xs : List Md} {ss : List (List Cell)} {w w' : World} {S : Nat → Prop}
theorem MkG.mod (h : MkG b0 B1 lv next xs ss w) (m : Vc.Mod S w w') (hS : ∀ k, b0 ≤ k → k < B1 → ¬ S k) : MkG b0 B1 lv next xs ss w' :=
  ⟨⟨h.1.1, fun j x sg hx hs => by
    obtain ⟨h1, h2, h3, h4, h5⟩ := h.1.2 j x sg hx hs
    exact ⟨h1, h2, h3.mod m (fun _ => hS _ h4 (h.2 x (List.mem_of_getElem? hx))), h4, h5⟩⟩, h.2⟩
theorem MkG.ext (h : MkG b0 B1 lv next xs ss w) (m : Ext w w') : MkG b0 B1 lv next xs ss w' := h.mod m (fun _ _ _ h => h)
theorem MkF.up (h : MkF b0 lv next xs ss w) : MkG b0 w.heap.size lv next xs ss w := ⟨h, fun x hx => by
  obtain ⟨i, hi⟩ := List.getElem?_of_mem hx
  have hl := (List.getElem?_eq_some_iff.1 hi).1
  obtain ⟨h1, h2, h3, h4, h5⟩ := h.2 i x _ hi (List.getElem?_eq_getElem (by rw [← h.1]; exact hl))
  exact h3.base_lt (by decide) (fun e => by have := recS_len (tblS (ss[i]'(by rw [← h.1]; exact hl))); rw [e] at this; simp at this)⟩
theorem zipIdx_at {α : Type} (l : List α) (i : Nat) : l.zipIdx[i]? = l[i]?.map fun x => (x, i) := by
  rw [List.getElem?_zipIdx]; simp
theorem MkF.files (h : MkF b0 lv next xs ss w) : xs.map (·.f) = addF lv next ss ∧ (xs.zip (ss.map fun sg => recS (tblS sg))).map (fun q => (q.1.f.id, q.2)) = filesD next ss ∧ (xs.zip ss).map (fun q => ((q.1.f.lev, q.1.f.id), q.2)) = tabsD lv next ss := by
  have hat : ∀ i x, xs[i]? = some x → ∃ sg, ss[i]? = some sg ∧ x.f = mkFile lv next i sg := fun i x hi => by
    have hl := (List.getElem?_eq_some_iff.1 hi).1
    have hs : ss[i]? = some (ss[i]'(by rw [← h.1]; exact hl)) := List.getElem?_eq_getElem _
    exact ⟨_, hs, (h.2 i x _ hi hs).1⟩
  have hno : ∀ i, xs[i]? = none → ss[i]? = none := fun i hi => by
    rw [List.getElem?_eq_none_iff] at *; rw [← h.1]; exact hi
  refine ⟨?_, ?_, ?_⟩
  · apply List.ext_getElem?
    intro i
    unfold addF
    rw [List.getElem?_map, List.getElem?_map, zipIdx_at]
    cases hi : xs[i]? with
    | none => rw [hno i hi]; rfl
    | some x => obtain ⟨sg, hs, hf⟩ := hat i x hi; rw [hs]; simp [hf]
  · apply List.ext_getElem?
    intro i
    unfold filesD
    rw [List.getElem?_map, List.getElem?_map, zipIdx_at]
    cases hi : xs[i]? with
    | none => rw [hno i hi]; simp [List.zip, List.getElem?_zipWith, hi]
    | some x => obtain ⟨sg, hs, hf⟩ := hat i x hi; simp [List.zip, List.getElem?_zipWith, hi, hs, hf, mkFile]
  · apply List.ext_getElem?
    intro i
    unfold tabsD
    rw [List.getElem?_map, List.getElem?_map, zipIdx_at]
    cases hi : xs[i]? with
    | none => rw [hno i hi]; simp [List.zip, List.getElem?_zipWith, hi]
    | some x => obtain ⟨sg, hs, hf⟩ := hat i x hi; simp [List.zip, List.getElem?_zipWith, hi, hs, hf, mkFile]
end
def ChgP (L : Led) (D : Dsk) (V : Vs) (ts : List Tb) (dead : Bool) (l : List Cell) (lv : Int) (gone : List Fi) (e : Int) (L' : Led) (D' : Dsk) (V' : Vs) (ts' : List Tb) (dead' : Bool) : Prop :=
  (e ≠ 0 ∧ L' = L ∧ D' = D ∧ V' = V ∧ ts' = ts ∧ dead' = dead ∧ ((∃ sg ∈ mkSegs l, buildE sg ≠ 0) ∨ chgOk V (gone.map (·.id)) (addF lv V.next (mkSegs l)) = false ∨ ∃ fs', fs'.Perm (keepF V.fs (gone.map (·.id)) ++ addF lv V.next (mkSegs l)) ∧ Up (ltC cmpF) fs' ∧ (isV ⟨nextN V.next (addF lv V.next (mkSegs l)), fs'⟩ = false ∨ 262144 < (verS ⟨nextN V.next (addF lv V.next (mkSegs l)), fs'⟩).length))) ∨
  ((∀ sg ∈ mkSegs l, buildE sg = 0) ∧ chgOk V (gone.map (·.id)) (addF lv V.next (mkSegs l)) = true ∧ ∃ fs', fs'.Perm (keepF V.fs (gone.map (·.id)) ++ addF lv V.next (mkSegs l)) ∧ Up (ltC cmpF) fs' ∧ isV ⟨nextN V.next (addF lv V.next (mkSegs l)), fs'⟩ = true ∧ (verS ⟨nextN V.next (addF lv V.next (mkSegs l)), fs'⟩).length ≤ 262144 ∧
    (((savesD (filesD V.next (mkSegs l)) D).1 ≠ 0 ∧ e = (savesD (filesD V.next (mkSegs l)) D).1 ∧ L' = L ∧ D' = (savesD (filesD V.next (mkSegs l)) D).2 ∧ V' = V ∧ ts' = ts ∧ dead' = true) ∨
     ((savesD (filesD V.next (mkSegs l)) D).1 = 0 ∧ L' = (L.write (savesD (filesD V.next (mkSegs l)) D).2 L.last (verS ⟨nextN V.next (addF lv V.next (mkSegs l)), fs'⟩)).2.1 ∧ D' = (L.write (savesD (filesD V.next (mkSegs l)) D).2 L.last (verS ⟨nextN V.next (addF lv V.next (mkSegs l)), fs'⟩)).2.2 ∧
       (((L.write (savesD (filesD V.next (mkSegs l)) D).2 L.last (verS ⟨nextN V.next (addF lv V.next (mkSegs l)), fs'⟩)).1 ≠ 0 ∧ e = (L.write (savesD (filesD V.next (mkSegs l)) D).2 L.last (verS ⟨nextN V.next (addF lv V.next (mkSegs l)), fs'⟩)).1 ∧ V' = V ∧ ts' = ts ∧ dead' = true) ∨
        ((L.write (savesD (filesD V.next (mkSegs l)) D).2 L.last (verS ⟨nextN V.next (addF lv V.next (mkSegs l)), fs'⟩)).1 = 0 ∧ e = 0 ∧ V' = ⟨nextN V.next (addF lv V.next (mkSegs l)), fs'⟩ ∧ dead' = dead ∧ ∃ tbs : List Tb, tbs.map (fun t => (t.h, t.cs)) = tabsD lv V.next (mkSegs l) ∧ ts' = delAll (tbs.foldl insT ts) gone)))))
theorem isV_ids {v : Vs} (h : isV v = true) : ∀ f ∈ v.fs, inI64 f.id ∧ inI64 f.lev := fun f hf => by
  obtain ⟨h1, h2, h3, h4, _⟩ := isV_ok2 h
  have h5 := h4 f hf
  simp only [okF, Bool.and_eq_true, decide_eq_true_eq] at h5
  exact ⟨⟨by omega, by omega⟩, ⟨by omega, by omega⟩⟩
theorem MkF.mono {b b0 : Nat} {lv next : Int} {xs : List Md} {ss : List (List Cell)} {w : World} (h : MkF b0 lv next xs ss w) (hb : b ≤ b0) : MkF b lv next xs ss w := ⟨h.1, fun j x sg hx hs => by
  obtain ⟨h1, h2, h3, h4, h5⟩ := h.2 j x sg hx hs
  exact ⟨h1, h2, h3, Nat.le_trans hb h4, h5⟩⟩
theorem mkSegs_len (l : List Cell) : (mkSegs l).length ≤ l.length := by
  rw [← mkR_all (Nat.le_refl l.length)]; exact (mkR_flat l _ (Nat.le_refl _)).2
theorem addF_ids {lv next : Int} {ss : List (List Cell)} (hn : 0 ≤ next ∧ next ≤ 1099511627776) (hl : ss.length ≤ 100000) : ∀ f ∈ addF lv next ss, inI64 f.id := fun f hf => by
  unfold addF at hf
  obtain ⟨p, hp, rfl⟩ := List.mem_map.1 hf
  obtain ⟨i, hi⟩ := List.getElem?_of_mem hp
  rw [zipIdx_at] at hi
  obtain ⟨sg, hs, rfl⟩ := Option.map_eq_some_iff.1 hi
  have := (List.getElem?_eq_some_iff.1 hs).1
  show inI64 (next + ↑i)
  unfold inI64; omega
theorem build_len {sg : List Cell} (h : buildE sg = 0) : (recS (tblS sg)).length ≤ 1048588 := by
  have h1 := (build_ok h).2.2.2
  unfold encE at h1
  rw [recS_len]
  split at h1
  · cases h1
  · omega
theorem MkG.zip {b0 B1 : Nat} {lv next : Int} {xs : List Md} {ss : List (List Cell)} {w : World} (h : MkG b0 B1 lv next xs ss w) (hn : 0 ≤ next ∧ next ≤ 1099511627776) (hlv : 0 ≤ lv ∧ lv ≤ 100) (hl : ss.length ≤ 100000) : ∀ q ∈ xs.zip ss, Arr encB 1 w q.1.vb (recS (tblS q.2)) ∧ buildE q.2 = 0 ∧ inI64 q.1.f.id ∧ inI64 q.1.f.lev ∧ (b0 ≤ (base q.1.vb).1 ∧ (base q.1.vb).1 < B1) ∧ q.1.vl.oneCell' = true := fun q hq => by
  obtain ⟨i, hi⟩ := List.getElem?_of_mem hq
  rw [List.getElem?_zip_eq_some] at hi
  obtain ⟨h1, h2, h3, h4, h5⟩ := h.1.2 i q.1 q.2 hi.1 hi.2
  have := (List.getElem?_eq_some_iff.1 hi.2).1
  rw [h1]
  exact ⟨h3, h2, by show inI64 (next + ↑i); unfold inI64; omega, by show inI64 lv; unfold inI64; omega, ⟨h4, h.2 _ (List.mem_of_getElem? hi.1)⟩, h5⟩
theorem MkG.zip2 {b0 B1 : Nat} {lv next : Int} {xs : List Md} {ss : List (List Cell)} {w : World} (h : MkG b0 B1 lv next xs ss w) (hn : 0 ≤ next ∧ next ≤ 1099511627776) (hlv : 0 ≤ lv ∧ lv ≤ 100) (hl : ss.length ≤ 100000) : ∀ q ∈ xs.zip (ss.map fun sg => recS (tblS sg)), Arr encB 1 w q.1.vb q.2 ∧ q.2.length ≤ 2001000020 ∧ inI64 q.1.f.id ∧ (b0 ≤ (base q.1.vb).1 ∧ (base q.1.vb).1 < B1) ∧ q.1.vl.oneCell' = true := fun q hq => by
  obtain ⟨i, hi⟩ := List.getElem?_of_mem hq
  rw [List.getElem?_zip_eq_some, List.getElem?_map] at hi
  obtain ⟨sg, hs, he⟩ := Option.map_eq_some_iff.1 hi.2
  obtain ⟨h1, h2, h3, h4, h5, h6⟩ := h.zip hn hlv hl (q.1, sg) (List.mem_of_getElem? (i := i) (by rw [List.getElem?_zip_eq_some]; exact ⟨hi.1, hs⟩))
  rw [← he]
  have h9 : (recS (tblS sg)).length ≤ 1048588 := build_len h2
  exact ⟨h1, by omega, h3, h5, h6⟩
theorem LD.calls_last {H : Nat → Prop} {bl bd : Nat} {L : Led} {D : Dsk} {w : World} (h : LD H bl bd L D w) : Calls Tryz.prog 55 [ptr bl 0].toArray w (Pure w (I L.last)) := by
  obtain ⟨F, G, vd, ve, vs, h1, h2, _⟩ := h
  exact last_w G bl bd vd ve vs L w h2
theorem changes_w (κ : Nat → Nat) (bs bd bl bo bm : Nat) (vf : Value) (L : Led) (D : Dsk) (V : Vs) (ts : List Tb) (mem : List Cell) (dead : Bool) (l : List Cell) (vc : Value) (lv : Int) (gone : List Fi) (vg : Value) (w : World) (h : StE κ bs bd bl bo bm vf L D V ts mem dead w) (hc : Arr Cell.cs 4 w vc l) (hll : l.length ≤ 30000) (hc9 : ∀ c ∈ l, c.key.length ≤ 4096 ∧ c.val.length ≤ 16384) (hlv : 0 ≤ lv ∧ lv ≤ 100) (hg : Arr Fi.cs 5 w vg gone) (hgl : gone.length ≤ 30000) (hgk : gone ≠ [] → κ (base vg).1 = 0) (hgi : ∀ f ∈ gone, inI64 f.id ∧ inI64 f.lev) (hV : isV V = true) (hgv : GV w) (hgvs : ∀ k, gvS k → κ k = 0) (htl : ts.length ≤ 900000) (hck : l ≠ [] → κ (base vc).1 = 0) :
    Calls Tryz.prog 44 [ptr bs 0, vc, I lv, vg].toArray w (Does (fun k => κ k ≠ 0) w (fun u w' => ∃ e κ' vf' L' D' V' ts' dead', u = I e ∧ (∀ k, k < w.heap.size → κ' k = κ k) ∧ StE κ' bs bd bl bo bm vf' L' D' V' ts' mem dead' w' ∧ ChgP L D V ts dead l lv gone e L' D' V' ts' dead')) := by
 refine cw Tryz.func44 ?_
 have hx := Vc.Mod.refl (fun k => κ k ≠ 0) w
 have hS := h
 obtain ⟨hn1, hn2, hvl, hvo, _⟩ := isV_ok2 hV
 have hids := isV_ids hV
 have hsgl := mkSegs_len l
 have hκ0 : ∀ k, w.heap.size ≤ k → κ k = 0 := fun k hk => Decidable.byContradiction fun h9 => by have := h.lt k h9; omega
 have hwid : ∀ k, w.heap.size ≤ k → ¬ oneB bs k := fun k hk e => by have e2 : k = bs := e; have h1 := hκ0 k hk; rw [e2, h.k0] at h1; cases h1
 refine ws fun _ Z1 => wr (da (de Z1 (ws fun _ Z2 => wr (dm (dm (dm ?_))))))
 refine dz rfl (df 2 rfl (df 0 rfl (dl rfl (hS.m.at rfl) (cG (makes_w l vc lv V.next _ (hc.mod hx (fun hl e => e (hck hl))) hll hc9 hlv (by omega)) RX.all fun u1 w1 x1 hf1 => ?_))))
 have hsz1 := hx.size
 replace hS := hS.ext x1
 replace hx := hx.ext x1
 obtain ⟨va, e1, hu, hmk⟩ : ∃ va e1, u1 = .tuple #[va, I e1] ∧ ((e1 ≠ 0 ∧ ∃ sg ∈ mkSegs l, buildE sg ≠ 0) ∨ (e1 = 0 ∧ ∃ xs, Vc.Own Md.cs 7 161 w.heap.size w1 va xs ∧ MkF w.heap.size lv V.next xs (mkSegs l) w1)) := by
   rcases hf1 with ⟨sg, h1, h2, h3⟩ | ⟨va, xs, h1, h2, h3⟩
   · exact ⟨_, _, h3, .inl ⟨h2, sg, h1, h2⟩⟩
   · exact ⟨_, _, h1, .inr ⟨rfl, xs, h2.mono hsz1, h3.mono hsz1⟩⟩
 subst hu
 refine dm ?_
 refine dx rfl rfl (dx rfl rfl (da (da (de Z2 (ws fun _ Z3 => ws fun _ Z4 => wr (dm ?_))))))
 refine dp (pv_neq rfl rfl) (de Z4 (wi (fun c1 => ?_) fun c1 => ?_))
 ·
  refine ws fun _ Z5 => wr (dm (da (de Z5 (W_ret ?_))))
  refine ro ?_
  rcases hmk with ⟨_, h9⟩ | ⟨h9, _⟩
  · exact ⟨_, rfl, hx, e1, κ, vf, L, D, V, ts, dead, rfl, fun _ _ => rfl, hS, .inl ⟨c1, rfl, rfl, rfl, rfl, rfl, .inl h9⟩⟩
  · exact absurd h9 c1
 rcases hmk with ⟨h9, _⟩ | ⟨h9, xs, hoM, hMF⟩
 · exact absurd h9 c1
 obtain ⟨hAl, hFi, hTa⟩ := hMF.files
 have hAll : ∀ sg ∈ mkSegs l, buildE sg = 0 := fun sg hs => by
   obtain ⟨i, hi⟩ := List.getElem?_of_mem hs
   have hl9 := (List.getElem?_eq_some_iff.1 hi).1
   exact (hMF.2 i _ sg (List.getElem?_eq_getElem (by rw [hMF.1]; exact hl9)) hi).2.1
 have hxl := hMF.1
 obtain ⟨B1, hB1, hSz, hG⟩ : ∃ B1, w.heap.size ≤ B1 ∧ Sz B1 _ ∧ MkG w.heap.size B1 lv V.next xs (mkSegs l) _ := ⟨_, hx.size, ⟨Nat.le_refl _⟩, hMF.up⟩
 refine W_skip (Z3 _ _ (ws fun _ Z6 => wr (da (de Z6 (ws fun _ Z7 => ws fun _ Z8 => wr (dm ?_))))))
 refine dv 62 5 (hg.mod hx (fun hl e => e (hgk hl))).sl (dm (de Z8 (W_block ?_)))
 refine W_loop (G := Nat × Value) (fun (k, vi) => [(0, ptr bs 0), (3, vg), (8, I 0), (9, va), (10, I e1), (11, vi), (36, vg), (37, I ↑gone.length), (38, I ↑k)]) (fun (k, vi) w' => Mod (fun k => κ k ≠ 0) w w' ∧ StE κ bs bd bl bo bm vf L D V ts mem dead w' ∧ Vc.Own Md.cs 7 161 w.heap.size w' va xs ∧ MkG w.heap.size B1 lv V.next xs (mkSegs l) w' ∧ Sz B1 w' ∧ k ≤ gone.length ∧ Vc.Own Vc.encI 1 3 B1 w' vi ((gone.take k).map (·.id))) (fun (k, vi) => gone.length - k) (0, .slice none 0 0) ?_ ?_ ?_
 · exact ⟨rfl, rfl, rfl, rfl, rfl, rfl, rfl, rfl, rfl, trivial⟩
 · exact ⟨hx, hS, hoM, hG, hSz, Nat.zero_le _, Vc.Own.nil⟩
 intro X2 g2 w2 hF2
 obtain ⟨k, vi⟩ := g2
 clear hx hS hoM hG hSz
 obtain ⟨hx, hS, hoM, hG, hSz, hk1, ho1⟩ := hF2
 refine ws fun _ Z9 => wr (dp (pv_lss rfl rfl) (de Z9 (ws fun _ Z10 => wi (fun c2 => ?_) fun c2 => ?_)))
 ·
  obtain ⟨f, hk⟩ : ∃ f, gone[k]? = some f := ⟨_, List.getElem?_eq_getElem (by omega)⟩
  refine W_skip (Z10 _ _ (ws fun _ Z11 => W_block (ws fun _ Z12 => wr (di 62 5 hg.sl rfl (hg.lt hk) (dq (lv_loadA (by kernel_rfl) rfl rfl ((hg.mod hx (fun hl e => e (hgk hl))).row hk)) (D_alloc (cs := [.int .i64 0, .int .i64 0, .int .i64 0, S [], S []]) rfl (by kernel_rfl) RX.all (fun b1 w3 e1 x3 m1 => ?_)))))))
  have g1 := hx.ge e1
  have a1_hS := hS.lt
  have o1_hoM := hoM.ltb e1
  have a1_hSz := hSz.le
  have o1_ho1 := ho1.ltb e1
  replace hS := hS.ext x3
  replace hoM := hoM.ext x3
  replace hG := hG.ext x3
  replace hSz := hSz.ext x3
  replace ho1 := ho1.ext x3
  replace hx := hx.ext x3
  refine stA m1 (fun w4 x4 xs4 m1 => ?_)
  try dsimp only [setAt, List.set, List.take, List.drop] at m1
  replace hS := hS.mod x4 (fun k9 h9 e9 => by have h2 : k9 = b1 := e9; have h8 := h.lt; have h7 := hκ0 k9 (by omega); exact h9 h7)
  try replace hoM := hoM.mod x4 (by first | assumption | (intro k hk h; have h1 := (hoM.lt k hk).1; have h2 : k = b1 := h; omega) | (intro k hk h; have h1 := o1_hoM k hk; have h2 : k = b1 := h; omega) | (intro h; have h2 : _ = b1 := h; omega) | (intro hl h; have h1 := a1_hoM hl; have h2 : _ = b1 := h; omega))
  replace hG := hG.mod x4 (fun k9 _ h9 e9 => by have h2 : k9 = b1 := e9; first | (have h8 := a1_hSz; omega) | (have h8 := a3_hSz; omega) | (have h8 := a5_hSz; omega))
  replace hSz := hSz.mod x4 trivial
  try replace ho1 := ho1.mod x4 (by first | assumption | (intro k hk h; have h1 := (ho1.lt k hk).1; have h2 : k = b1 := h; omega) | (intro k hk h; have h1 := o1_ho1 k hk; have h2 : k = b1 := h; omega) | (intro h; have h2 : _ = b1 := h; omega) | (intro hl h; have h1 := a1_ho1 hl; have h2 : _ = b1 := h; omega))
  replace hx := hx.o1 x4
  refine de Z12 (wr (dm ?_))
  refine df 0 rfl (dl rfl (m1.at rfl) (li (e := 3) (sz := 1) (zs := [.int .i64 0]) (pv := [(0, _)]) (cs := [_]) RX.all (fun b2 w5 e2 x5 m2 => ?_)))
  have g2 := hx.ge e2
  have a2_hS := hS.lt
  have o2_hoM := hoM.ltb e2
  have a2_hSz := hSz.le
  have o2_ho1 := ho1.ltb e2
  replace hS := hS.ext x5
  replace hoM := hoM.ext x5
  replace hG := hG.ext x5
  replace hSz := hSz.ext x5
  replace ho1 := ho1.ext x5
  replace hx := hx.ext x5
  refine D_append (lx := [f.id]) (e := 3) (sz := 1) (by' := 8) rfl (by kernel_rfl) (by kernel_rfl) (by intro x; rfl) ho1 (m2.arr (enc := Vc.encI) (sz := 1) (l := [f.id]) rfl (by intro x; rfl) rfl (Nat.le_of_ble_eq_true rfl)) rfl rfl (by intro x hx9 u hu; rw [List.mem_singleton.1 hx9] at hu; simp at hu; rw [hu]; rfl) (by simp; omega) (by decide) hSz.le (.inl rfl) (fun vp1 w6 ho1_n x6 => ?_)
  try replace hS := hS.mod x6 (by first | exact (fun k _ h2 e => absurd (ho1.lt k e).1 (Nat.not_le.2 h2)) | exact (fun k hk => hoM.ne ho1 rfl hk) | exact (fun k hk e => hk (hκ0 k (Nat.le_trans hB1 (ho1.lt k e).1))) | trivial)
  try replace hoM := hoM.mod x6 (by first | exact (fun k _ h2 e => absurd (ho1.lt k e).1 (Nat.not_le.2 h2)) | exact (fun k hk => hoM.ne ho1 rfl hk) | exact (fun k hk e => hk (hκ0 k (Nat.le_trans hB1 (ho1.lt k e).1))) | trivial)
  try replace hG := hG.mod x6 (by first | exact (fun k _ h2 e => absurd (ho1.lt k e).1 (Nat.not_le.2 h2)) | exact (fun k hk => hoM.ne ho1 rfl hk) | exact (fun k hk e => hk (hκ0 k (Nat.le_trans hB1 (ho1.lt k e).1))) | trivial)
  try replace hSz := hSz.mod x6 (by first | exact (fun k _ h2 e => absurd (ho1.lt k e).1 (Nat.not_le.2 h2)) | exact (fun k hk => hoM.ne ho1 rfl hk) | exact (fun k hk e => hk (hκ0 k (Nat.le_trans hB1 (ho1.lt k e).1))) | trivial)
  replace hx := hx.own x6 (fun i hi hlt => (by have := (ho1.lt i hi).1; omega))
  replace ho1 := ho1_n
  clear m2
  refine da (de Z11 (wr ?_))
  refine pa rfl rfl (dm (D_end (?_)))
  rw [show (gone.take k).map (·.id) ++ [f.id] = (gone.take (k + 1)).map (·.id) by rw [take_at hk, List.map_append]; rfl] at ho1
  exact ⟨(k + 1, vp1), ⟨rfl, rfl, rfl, rfl, rfl, rfl, rfl, rfl, rfl, trivial⟩, ⟨hx, hS, hoM, hG, hSz, by omega, ho1⟩, by simp only []; omega⟩
 rw [List.take_of_length_le (by omega)] at ho1
 refine W_exit (Z7 _ _ (ws fun _ Z13 => wr (da (de Z13 (ws fun _ Z14 => ws fun _ Z15 => wr (dm ?_))))))
 refine dv 161 7 (hoM.arr (by intro x; rfl)).sl (dm (de Z15 (W_block ?_)))
 refine W_loop (G := Nat × Value) (fun (k, vad) => [(0, ptr bs 0), (3, vg), (8, I 0), (9, va), (10, I e1), (11, vi), (14, vad), (48, va), (49, I ↑xs.length), (50, I ↑k)]) (fun (k, vad) w' => Mod (fun k => κ k ≠ 0) w w' ∧ StE κ bs bd bl bo bm vf L D V ts mem dead w' ∧ Vc.Own Md.cs 7 161 w.heap.size w' va xs ∧ MkG w.heap.size B1 lv V.next xs (mkSegs l) w' ∧ Sz B1 w' ∧ Vc.Own Vc.encI 1 3 B1 w' vi (gone.map (·.id)) ∧ k ≤ xs.length ∧ Vc.Own Fi.cs 5 62 B1 w' vad ((xs.take k).map (·.f))) (fun (k, vad) => xs.length - k) (0, .slice none 0 0) ?_ ?_ ?_
 · exact ⟨rfl, rfl, rfl, rfl, rfl, rfl, rfl, rfl, rfl, rfl, trivial⟩
 · exact ⟨hx, hS, hoM, hG, hSz, ho1, Nat.zero_le _, Vc.Own.nil⟩
 intro X7 g7 w7 hF7
 obtain ⟨k, vad⟩ := g7
 clear hx hS hoM hG hSz ho1
 obtain ⟨hx, hS, hoM, hG, hSz, ho1, hk1, ho2⟩ := hF7
 refine ws fun _ Z16 => wr (dp (pv_lss rfl rfl) (de Z16 (ws fun _ Z17 => wi (fun c3 => ?_) fun c3 => ?_)))
 ·
  obtain ⟨x, hk⟩ : ∃ x, xs[k]? = some x := ⟨_, List.getElem?_eq_getElem (by omega)⟩
  obtain ⟨sg, hsg⟩ : ∃ sg, (mkSegs l)[k]? = some sg := ⟨_, List.getElem?_eq_getElem (by omega)⟩
  obtain ⟨_, _, hqa, _, hqo⟩ := hG.1.2 k x sg hk hsg
  refine W_skip (Z17 _ _ (ws fun _ Z18 => W_block (ws fun _ Z19 => wr (di 161 7 (hoM.arr (by intro x; rfl)).sl rfl ((hoM.arr (by intro x; rfl)).lt hk) (dq (lv_loadA (by kernel_rfl) rfl rfl ((hoM.arr (by intro x; rfl)).row hk)) (D_alloc (cs := [.int .i64 0, .int .i64 0, .int .i64 0, S [], S [], .slice none 0 0, .slice none 0 0]) rfl (by kernel_rfl) RX.all (fun b3 w8 e3 x8 m3 => ?_)))))))
  have g3 := hx.ge e3
  have a3_hS := hS.lt
  have o3_hoM := hoM.ltb e3
  have a3_hSz := hSz.le
  have o3_ho1 := ho1.ltb e3
  have o3_ho2 := ho2.ltb e3
  replace hS := hS.ext x8
  replace hoM := hoM.ext x8
  replace hG := hG.ext x8
  replace hSz := hSz.ext x8
  replace ho1 := ho1.ext x8
  replace ho2 := ho2.ext x8
  replace hx := hx.ext x8
  refine stA m3 (fun w9 x9 xs9 m3 => ?_) (h1 := by (intro u hu; simp only [List.mem_cons, List.not_mem_nil, or_false] at hu; rcases hu with e | e | e | e | e | e | e <;> subst e <;> first | rfl | exact hqo | exact hqa.sl.one))
  try dsimp only [setAt, List.set, List.take, List.drop] at m3
  replace hS := hS.mod x9 (fun k9 h9 e9 => by have h2 : k9 = b3 := e9; have h8 := h.lt; have h7 := hκ0 k9 (by omega); exact h9 h7)
  try replace hoM := hoM.mod x9 (by first | assumption | (intro k hk h; have h1 := (hoM.lt k hk).1; have h2 : k = b3 := h; omega) | (intro k hk h; have h1 := o3_hoM k hk; have h2 : k = b3 := h; omega) | (intro h; have h2 : _ = b3 := h; omega) | (intro hl h; have h1 := a3_hoM hl; have h2 : _ = b3 := h; omega))
  replace hG := hG.mod x9 (fun k9 _ h9 e9 => by have h2 : k9 = b3 := e9; first | (have h8 := a1_hSz; omega) | (have h8 := a3_hSz; omega) | (have h8 := a5_hSz; omega))
  replace hSz := hSz.mod x9 trivial
  try replace ho1 := ho1.mod x9 (by first | assumption | (intro k hk h; have h1 := (ho1.lt k hk).1; have h2 : k = b3 := h; omega) | (intro k hk h; have h1 := o3_ho1 k hk; have h2 : k = b3 := h; omega) | (intro h; have h2 : _ = b3 := h; omega) | (intro hl h; have h1 := a3_ho1 hl; have h2 : _ = b3 := h; omega))
  try replace ho2 := ho2.mod x9 (by first | assumption | (intro k hk h; have h1 := (ho2.lt k hk).1; have h2 : k = b3 := h; omega) | (intro k hk h; have h1 := o3_ho2 k hk; have h2 : k = b3 := h; omega) | (intro h; have h2 : _ = b3 := h; omega) | (intro hl h; have h1 := a3_ho2 hl; have h2 : _ = b3 := h; omega))
  replace hx := hx.o1 x9
  refine de Z19 (wr (dm ?_))
  refine df 0 rfl (dq (LV.to (v' := x.f.v) (lv_loadA (by kernel_rfl) rfl rfl (m3.part 0 5)) rfl) (li (e := 62) (sz := 5) (zs := [.int .i64 0, .int .i64 0, .int .i64 0, S [], S []]) (pv := [(0, .agg ⟨[_, _, _, _, _]⟩)]) (cs := [_, _, _, _, _]) RX.all (fun b4 w10 e4 x10 m4 => ?_)))
  have g4 := hx.ge e4
  have a4_hS := hS.lt
  have o4_hoM := hoM.ltb e4
  have a4_hSz := hSz.le
  have o4_ho1 := ho1.ltb e4
  have o4_ho2 := ho2.ltb e4
  replace hS := hS.ext x10
  replace hoM := hoM.ext x10
  replace hG := hG.ext x10
  replace hSz := hSz.ext x10
  replace ho1 := ho1.ext x10
  replace ho2 := ho2.ext x10
  replace hx := hx.ext x10
  refine D_append (lx := [x.f]) (e := 62) (sz := 5) (by' := 56) rfl (by kernel_rfl) (by kernel_rfl) (by intro x; rfl) ho2 (m4.arr (enc := Fi.cs) (sz := 5) (l := [x.f]) rfl (by intro x; rfl) rfl (Nat.le_of_ble_eq_true rfl)) rfl rfl (by intro x _ u hu; simp at hu; rcases hu with rfl | rfl | rfl | rfl | rfl <;> rfl) (by simp; omega) (by decide) hSz.le (.inl rfl) (fun vp2 w11 ho2_n x11 => ?_)
  try replace hS := hS.mod x11 (by first | exact (fun k _ h2 e => absurd (ho2.lt k e).1 (Nat.not_le.2 h2)) | exact (fun k hk => hoM.ne ho2 rfl hk) | exact (fun k hk => ho1.ne ho2 rfl hk) | exact (fun k hk e => hk (hκ0 k (Nat.le_trans hB1 (ho2.lt k e).1))) | trivial)
  try replace hoM := hoM.mod x11 (by first | exact (fun k _ h2 e => absurd (ho2.lt k e).1 (Nat.not_le.2 h2)) | exact (fun k hk => hoM.ne ho2 rfl hk) | exact (fun k hk => ho1.ne ho2 rfl hk) | exact (fun k hk e => hk (hκ0 k (Nat.le_trans hB1 (ho2.lt k e).1))) | trivial)
  try replace hG := hG.mod x11 (by first | exact (fun k _ h2 e => absurd (ho2.lt k e).1 (Nat.not_le.2 h2)) | exact (fun k hk => hoM.ne ho2 rfl hk) | exact (fun k hk => ho1.ne ho2 rfl hk) | exact (fun k hk e => hk (hκ0 k (Nat.le_trans hB1 (ho2.lt k e).1))) | trivial)
  try replace hSz := hSz.mod x11 (by first | exact (fun k _ h2 e => absurd (ho2.lt k e).1 (Nat.not_le.2 h2)) | exact (fun k hk => hoM.ne ho2 rfl hk) | exact (fun k hk => ho1.ne ho2 rfl hk) | exact (fun k hk e => hk (hκ0 k (Nat.le_trans hB1 (ho2.lt k e).1))) | trivial)
  try replace ho1 := ho1.mod x11 (by first | exact (fun k _ h2 e => absurd (ho2.lt k e).1 (Nat.not_le.2 h2)) | exact (fun k hk => hoM.ne ho2 rfl hk) | exact (fun k hk => ho1.ne ho2 rfl hk) | exact (fun k hk e => hk (hκ0 k (Nat.le_trans hB1 (ho2.lt k e).1))) | trivial)
  replace hx := hx.own x11 (fun i hi hlt => (by have := (ho2.lt i hi).1; omega))
  replace ho2 := ho2_n
  clear m4
  refine da (de Z18 (wr ?_))
  refine pa rfl rfl (dm (D_end (?_)))
  rw [show (xs.take k).map (·.f) ++ [x.f] = (xs.take (k + 1)).map (·.f) by rw [take_at hk, List.map_append]; rfl] at ho2
  exact ⟨(k + 1, vp2), ⟨rfl, rfl, rfl, rfl, rfl, rfl, rfl, rfl, rfl, rfl, trivial⟩, ⟨hx, hS, hoM, hG, hSz, ho1, by omega, ho2⟩, by simp only []; omega⟩
 rw [List.take_of_length_le (by omega)] at ho2
 refine W_exit (Z14 _ _ (ws fun _ Z20 => wr (dm ?_)))
 refine dz rfl (df 2 rfl (dq (lv_loadA (by kernel_rfl) rfl rfl (hS.m.part 2 2)) (dm (dm ?_))))
 refine cG (change_w V.next V.fs vf (gone.map (·.id)) vi (xs.map (·.f)) vad _ hS.vs (by omega) (fun f hf => (hids f hf).1) (ho1.arr (by intro x; rfl)) (by rw [List.length_map]; omega) (ho2.arr (by intro x; rfl)) (by rw [List.length_map]; omega) (by rw [hAl]; exact addF_ids (by omega) (by omega))) RX.all fun u12 w12 x12 hf12 => ?_
 have hsz12 := hx.size
 replace hS := hS.ext x12
 replace hoM := hoM.ext x12
 replace hG := hG.ext x12
 replace hSz := hSz.ext x12
 replace hx := hx.ext x12
 rw [hAl] at hf12
 obtain ⟨n2, vx, e2, fs2, hu, hoV, hch⟩ : ∃ n2 vx e2 fs2, u12 = .tuple #[.agg ⟨[I n2, vx]⟩, I e2] ∧ Vc.Own Fi.cs 5 62 w.heap.size w12 vx fs2 ∧ ((e2 ≠ 0 ∧ (chgOk V (gone.map (·.id)) (addF lv V.next (mkSegs l)) = false ∨ ∃ fs', fs'.Perm (keepF V.fs (gone.map (·.id)) ++ (addF lv V.next (mkSegs l))) ∧ Up (ltC cmpF) fs' ∧ isV ⟨nextN V.next (addF lv V.next (mkSegs l)), fs'⟩ = false)) ∨ (e2 = 0 ∧ chgOk V (gone.map (·.id)) (addF lv V.next (mkSegs l)) = true ∧ fs2.Perm (keepF V.fs (gone.map (·.id)) ++ (addF lv V.next (mkSegs l))) ∧ Up (ltC cmpF) fs2 ∧ isV ⟨nextN V.next (addF lv V.next (mkSegs l)), fs2⟩ = true ∧ n2 = nextN V.next (addF lv V.next (mkSegs l)))) := by
   rcases hf12 with ⟨h1, h2⟩ | ⟨h1, fs', h2, h3, ⟨h4, h5⟩ | ⟨h4, vx, h5, h6⟩⟩
   · exact ⟨_, _, _, [], h2, Vc.Own.nil, .inl ⟨by decide, .inl h1⟩⟩
   · exact ⟨_, _, _, [], h5, Vc.Own.nil, .inl ⟨by decide, .inr ⟨fs', h2, h3, h4⟩⟩⟩
   · exact ⟨_, _, _, fs', h5, h6.mono hsz12, .inr ⟨rfl, h1, h2, h3, h4, rfl⟩⟩
 subst hu
 refine dm ?_
 refine dx rfl rfl (dx rfl rfl (D_alloc (cs := [.int .i64 0, .slice none 0 0]) rfl (by kernel_rfl) RX.all (fun b5 w13 e5 x13 m5 => ?_)))
 have g5 := hx.ge e5
 have a5_hS := hS.lt
 have o5_hoM := hoM.ltb e5
 have a5_hSz := hSz.le
 have o5_hoV := hoV.ltb e5
 replace hS := hS.ext x13
 replace hoM := hoM.ext x13
 replace hG := hG.ext x13
 replace hSz := hSz.ext x13
 replace hoV := hoV.ext x13
 replace hx := hx.ext x13
 refine stA m5 (fun w14 x14 xs14 m5 => ?_) (h1 := by (intro u hu; rcases List.mem_cons.1 hu with e | hu; subst e; rfl; rw [List.mem_singleton.1 hu]; exact hoV.sl.one))
 try dsimp only [setAt, List.set, List.take, List.drop] at m5
 replace hS := hS.mod x14 (fun k9 h9 e9 => by have h2 : k9 = b5 := e9; have h8 := h.lt; have h7 := hκ0 k9 (by omega); exact h9 h7)
 try replace hoM := hoM.mod x14 (by first | assumption | (intro k hk h; have h1 := (hoM.lt k hk).1; have h2 : k = b5 := h; omega) | (intro k hk h; have h1 := o5_hoM k hk; have h2 : k = b5 := h; omega) | (intro h; have h2 : _ = b5 := h; omega) | (intro hl h; have h1 := a5_hoM hl; have h2 : _ = b5 := h; omega))
 replace hG := hG.mod x14 (fun k9 _ h9 e9 => by have h2 : k9 = b5 := e9; first | (have h8 := a1_hSz; omega) | (have h8 := a3_hSz; omega) | (have h8 := a5_hSz; omega))
 replace hSz := hSz.mod x14 trivial
 try replace hoV := hoV.mod x14 (by first | assumption | (intro k hk h; have h1 := (hoV.lt k hk).1; have h2 : k = b5 := h; omega) | (intro k hk h; have h1 := o5_hoV k hk; have h2 : k = b5 := h; omega) | (intro h; have h2 : _ = b5 := h; omega) | (intro hl h; have h1 := a5_hoV hl; have h2 : _ = b5 := h; omega))
 replace hx := hx.o1 x14
 refine da (de Z20 (ws fun _ Z21 => ws fun _ Z22 => wr (dm ?_)))
 refine dp (pv_neq rfl rfl) (de Z22 (wi (fun c4 => ?_) fun c4 => ?_))
 ·
  refine ws fun _ Z23 => wr (da (de Z23 (W_ret ?_)))
  refine ro ?_
  rcases hch with ⟨_, h9 | ⟨fs3, p1, p2, p3⟩⟩ | ⟨h9, _⟩
  · exact ⟨_, rfl, hx, 5, κ, vf, L, D, V, ts, dead, rfl, fun _ _ => rfl, hS, .inl ⟨by decide, rfl, rfl, rfl, rfl, rfl, .inr (.inl h9)⟩⟩
  · exact ⟨_, rfl, hx, 5, κ, vf, L, D, V, ts, dead, rfl, fun _ _ => rfl, hS, .inl ⟨by decide, rfl, rfl, rfl, rfl, rfl, .inr (.inr ⟨fs3, p1, p2, .inl p3⟩)⟩⟩
  · exact absurd h9 c4
 rcases hch with ⟨h9, _⟩ | ⟨h9, hck1, hcp, hcu, hV2, hn9⟩
 · exact absurd h9 c4
 subst hn9
 have hids2 := isV_ids hV2
 obtain ⟨_, _, hvl2, _⟩ := isV_ok2 hV2
 refine W_skip (Z21 _ _ (ws fun _ Z24 => wr (dq (lv_loadA (k := 2) (by kernel_rfl) rfl rfl m5.row) (cG (verEnc_w (nextN V.next (addF lv V.next (mkSegs l))) fs2 vx _ (hoV.arr (by intro x; rfl)) (by have : fs2.length ≤ 1024 := hvl2; omega) (fun f hf => (hids2 f hf).1)) RX.all fun u15 w15 x15 hf15 => ?_))))
 have hsz15 := hx.size
 replace hS := hS.ext x15
 replace hoM := hoM.ext x15
 replace hG := hG.ext x15
 replace hSz := hSz.ext x15
 replace hoV := hoV.ext x15
 replace m5 := m5.ext x15
 replace hx := hx.ext x15
 obtain ⟨vp, rfl, hoP0⟩ := hf15
 rw [if_pos hV2] at hoP0
 have hoP := hoP0.mono hsz15
 refine dm ?_
 refine dx rfl rfl (dx rfl rfl (da (da (de Z24 (ws fun _ Z25 => ws fun _ Z26 => wr (dm ?_))))))
 refine dv 5 1 (hoP.arr (by intro x; rfl)).sl (dp (pv_gtr rfl rfl) (de Z26 (wi (fun c5 => ?_) fun c5 => ?_)))
 ·
  refine ws fun _ Z27 => wr (da (de Z27 (W_ret ?_)))
  refine ro ?_
  exact ⟨_, rfl, hx, 5, κ, vf, L, D, V, ts, dead, rfl, fun _ _ => rfl, hS, .inl ⟨by decide, rfl, rfl, rfl, rfl, rfl, .inr (.inr ⟨fs2, hcp, hcu, .inr (by omega)⟩)⟩⟩
 refine W_skip (Z25 _ _ (ws fun _ Z28 => ws fun _ Z29 => wr (dm (dm ?_))))
 obtain ⟨NK, hNK⟩ : ∃ z, z = w15.heap.size := ⟨_, rfl⟩
 have hNw : w.heap.size ≤ NK := by rw [hNK]; exact hx.size
 have hbP : verS ⟨nextN V.next (addF lv V.next (mkSegs l)), fs2⟩ ≠ [] → (base vp).1 < NK ∧ w.heap.size ≤ (base vp).1 := fun hl => by rw [hNK]; exact ⟨(hoP.base_ge hl).2, (hoP.base_ge hl).1⟩
 have hbV : fs2 ≠ [] → (base vx).1 < NK ∧ w.heap.size ≤ (base vx).1 := fun hl => by rw [hNK]; exact ⟨(hoV.base_ge hl).2, (hoV.base_ge hl).1⟩
 have hbM : xs ≠ [] → (base va).1 < NK ∧ w.heap.size ≤ (base va).1 := fun hl => by rw [hNK]; exact ⟨(hoM.base_ge hl).2, (hoM.base_ge hl).1⟩
 have hBN : B1 ≤ NK := by rw [hNK]; exact hSz.le
 have hmN : b5 < NK := by rw [hNK]; exact m5.lt
 have hz1 : (xs.zip ((mkSegs l).map fun sg => recS (tblS sg))).map (·.1) = xs := List.map_fst_zip (by rw [List.length_map]; omega)
 have hgb : ∀ k, w.heap.size ≤ k → ¬ κ k = 1 := fun k hk e => by rw [hκ0 k hk] at e; cases e
 refine D_callD rfl (by kernel_rfl) (keeps_w κ bs bd bl bo bm vf L D V ts mem dead (xs.zip ((mkSegs l).map fun sg => recS (tblS sg))) va _ hS (hgv.mod hx (fun k hk e => e (hgvs k hk))) hgvs (by rw [hz1]; exact hoM.arr (by intro x; rfl)) (by rw [List.length_zip]; omega) (fun hl => hκ0 _ (hbM (by rintro rfl; simp at hl)).2) (fun q hq => by
   obtain ⟨g1, g2, g3, g4, g5⟩ := hG.zip2 (by omega) hlv (by omega) q hq
   exact ⟨g1, g2, g3, fun _ => hκ0 _ g4.1, g5⟩)) rfl (.inl rfl) (fun u16 w16 x16 hf16 => ?_)
 have hsz16 := hx.size
 replace hoM := hoM.mod x16 (by first | exact (fun k hk e => hgb k (hoM.lt k hk).1 e) | exact (fun k hk e => hgb k (Nat.le_trans hB1 (hoM.lt k hk).1) e) | exact (fun k h1 _ e => hgb k h1 e) | trivial | exact (fun e => hgb _ (by omega) e))
 replace hG := hG.mod x16 (by first | exact (fun k hk e => hgb k (hG.lt k hk).1 e) | exact (fun k hk e => hgb k (Nat.le_trans hB1 (hG.lt k hk).1) e) | exact (fun k h1 _ e => hgb k h1 e) | trivial | exact (fun e => hgb _ (by omega) e))
 replace hoV := hoV.mod x16 (by first | exact (fun k hk e => hgb k (hoV.lt k hk).1 e) | exact (fun k hk e => hgb k (Nat.le_trans hB1 (hoV.lt k hk).1) e) | exact (fun k h1 _ e => hgb k h1 e) | trivial | exact (fun e => hgb _ (by omega) e))
 replace m5 := m5.mod x16 (by first | exact (fun k hk e => hgb k (m5.lt k hk).1 e) | exact (fun k hk e => hgb k (Nat.le_trans hB1 (m5.lt k hk).1) e) | exact (fun k h1 _ e => hgb k h1 e) | trivial | exact (fun e => hgb _ (by omega) e))
 replace hoP := hoP.mod x16 (by first | exact (fun k hk e => hgb k (hoP.lt k hk).1 e) | exact (fun k hk e => hgb k (Nat.le_trans hB1 (hoP.lt k hk).1) e) | exact (fun k h1 _ e => hgb k h1 e) | trivial | exact (fun e => hgb _ (by omega) e))
 replace hx := hx.own x16 (fun i hi hlt => (by have e1 : κ i = 1 := hi; rw [e1]; decide))
 rw [hFi, ← hNK] at hf16
 obtain ⟨rfl, κ1, hmv1, hS9⟩ := hf16
 have hS := hS9
 have hSzK : Sz NK w16 := ⟨by rw [hNK]; exact x16.size⟩
 refine da (de Z29 (ws fun _ Z30 => wr (dm ?_)))
 refine dp (pv_neq rfl rfl) (de Z30 (wi (fun c6 => ?_) fun c6 => ?_))
 ·
  refine ws fun _ Z31 => wr (dm (dm ?_))
  refine cD (diesS_w bs bd bl V.next vf bo bm dead (savesD (filesD V.next (mkSegs l)) D).1 _ hS.m) (.inl rfl) fun u17 w17 x17 hf17 => ?_
  have hsz17 := hx.size
  replace hx := hx.own x17 (fun i hi hlt => (by have e1 : i = bs := hi; rw [e1, h.k0]; decide))
  obtain ⟨rfl, hd9⟩ := hf17
  have hS2 := hS.head x17 hd9
  replace hS := hS2
  refine da (de Z31 (W_ret ?_))
  refine ro ?_
  exact ⟨_, rfl, hx, _, κ1, vf, _, _, V, ts, _, rfl, fun k hk => hmv1 k (by omega), hS, .inr ⟨hAll, hck1, fs2, hcp, hcu, hV2, by omega, .inl ⟨c6, rfl, rfl, rfl, rfl, rfl, by simp [c6]⟩⟩⟩
 refine W_skip (Z28 _ _ (ws fun _ Z32 => ws fun _ Z33 => W_draw (R := Mod (fun k => κ1 k = 1)) modRefl modTrans (by kernel_rfl) [3, 7] [(0, .p, false), (1, .p, false), (2, .p, false), (3, .l, false), (4, .p, false), (5, .p, false), (6, .p, false), (7, .l, false), (9, .p, false), (8, .x, false), (10, .x, false), (11, .p, false)] rfl (by kernel_rfl) (by kernel_rfl) (fun w18 ew18 => ?_)))
 have x18 := drewx ew18
 clear ew18
 replace hoM := hoM.ext x18
 replace hG := hG.ext x18
 replace hoV := hoV.ext x18
 replace m5 := m5.ext x18
 replace hoP := hoP.ext x18
 replace hS := hS.ext x18
 replace hSzK := hSzK.ext x18
 replace hx := hx.ext x18
 refine dm ?_
 refine dz rfl (df 1 rfl (dL rfl (fun _ hR => ((hS.m.mod hR (fun e => by have e2 : κ1 bs = 1 := e; rw [hS.k0] at e2; cases e2)).at rfl)) (dm ?_)))
 refine dz rfl (df 1 rfl (dL rfl (fun _ hR => ((hS.m.mod hR (fun e => by have e2 : κ1 bs = 1 := e; rw [hS.k0] at e2; cases e2)).at rfl)) (dm ?_)))
 refine cP (hS.ld.calls_last) RX.mod fun w19 x19 => ?_
 replace hoM := hoM.ext x19
 replace hG := hG.ext x19
 replace hoV := hoV.ext x19
 replace m5 := m5.ext x19
 replace hoP := hoP.ext x19
 replace hS := hS.ext x19
 replace hSzK := hSzK.ext x19
 replace hx := hx.ext x19
 have hNK2 := hSzK.le
 refine D_callD rfl (by kernel_rfl) (ledWr_w _ bl bd L (savesD (filesD V.next (mkSegs l)) D).2 L.last (verS ⟨nextN V.next (addF lv V.next (mkSegs l)), fs2⟩) vp _ hS.ld (hoP.arr (by intro x; rfl)) (by omega) (fun hl e => by have e1 : κ1 (base vp).1 = 1 := e; rw [hmv1 _ (hbP hl).1, hκ0 _ (hbP hl).2] at e1; cases e1)) rfl (.inr fun w9 h9 => h9) (fun u20 w20 x20 hf20 => ?_)
 have hsz20 := hx.size
 replace hx := hx.own x20 (fun i hi hlt => (by have e1 : κ1 i = 1 := hi; rw [← hmv1 i (by omega), e1]; decide))
 obtain ⟨rfl, hl9⟩ := hf20
 have hS2 := hS.ledger x20 hl9
 have hmv2 := fun k (hk : k < NK) => (updK_old (κ := κ1) (i := 1) (w' := w20) (Nat.lt_of_lt_of_le hk hNK2)).trans (hmv1 k hk)
 have hNo : ∀ k, w.heap.size ≤ k → k < NK → ¬ κ1 k = 1 := fun k h1 h2 e => by rw [hmv1 k h2, hκ0 k h1] at e; cases e
 replace hoM := hoM.arr (by intro x; rfl) |>.mod x20 (fun hl => hNo _ (hbM hl).2 (hbM hl).1)
 replace hoV := hoV.arr (by intro x; rfl) |>.mod x20 (fun hl => hNo _ (hbV hl).2 (hbV hl).1)
 replace hG := hG.mod x20 (fun k h1 h2 => hNo k h1 (by omega))
 replace m5 := m5.mod x20 (fun e => hNo _ (by omega) (by omega) e)
 replace hS := hS2
 refine da (de Z33 (ws fun _ Z34 => wr (dm ?_)))
 refine dp (pv_neq rfl rfl) (de Z34 (wi (fun c7 => ?_) fun c7 => ?_))
 ·
  refine ws fun _ Z35 => wr (dm (dm ?_))
  refine cD (diesS_w bs bd bl V.next vf bo bm dead (L.write (savesD (filesD V.next (mkSegs l)) D).2 L.last (verS ⟨nextN V.next (addF lv V.next (mkSegs l)), fs2⟩)).1 _ hS.m) (.inl rfl) fun u21 w21 x21 hf21 => ?_
  have hsz21 := hx.size
  replace hx := hx.own x21 (fun i hi hlt => (by have e1 : i = bs := hi; rw [e1, h.k0]; decide))
  obtain ⟨rfl, hd9⟩ := hf21
  have hS2 := hS.head x21 hd9
  replace hS := hS2
  refine da (de Z35 (W_ret ?_))
  refine ro ?_
  exact ⟨_, rfl, hx, _, _, vf, _, _, V, ts, _, rfl, fun k hk => hmv2 k (by omega), hS, .inr ⟨hAll, hck1, fs2, hcp, hcu, hV2, by omega, .inr ⟨Decidable.of_not_not c6, rfl, rfl, .inl ⟨c7, rfl, rfl, rfl, by simp [c7]⟩⟩⟩⟩
 refine W_skip (Z32 _ _ (ws fun _ Z36 => wr (dm ?_)))
 refine dq (lv_loadA (k := 2) (by kernel_rfl) rfl rfl m5.row) (dm (dm ?_))
 have hz2 : (xs.zip (mkSegs l)).map (·.1) = xs := List.map_fst_zip (by omega)
 have hws9 := hx.size
 refine D_callD rfl (by kernel_rfl) (opens_w _ bs bd bl bo bm vf _ _ V ts mem dead ⟨nextN V.next (addF lv V.next (mkSegs l)), fs2⟩ vx (xs.zip (mkSegs l)) va gone vg _ hS hoV (fun hl => (hmv2 _ (hbV hl).1).trans (hκ0 _ (hbV hl).2)) (by rw [hz2]; exact hoM) (by rw [List.length_zip]; omega) (fun hl => (hmv2 _ (hbM (by rintro rfl; simp at hl)).1).trans (hκ0 _ (hbM (by rintro rfl; simp at hl)).2)) (fun q hq => by
   obtain ⟨g1, g2, g3, g4, g5, g6⟩ := hG.zip (by omega) hlv (by omega) q hq
   exact ⟨g1, g2, g3, g4, fun _ => (hmv2 _ (by omega)).trans (hκ0 _ g5.1), g6⟩) (hg.mod hx (fun hl e => e (hgk hl))) (by omega) (fun hl => (hmv2 _ (by have := hg.base_lt (by decide) hl; omega)).trans (hgk hl)) hgi (by omega)) rfl (.inl rfl) (fun u22 w22 x22 hf22 => ?_)
 have hsz22 := hx.size
 replace hx := hx.own x22 (fun i hi hlt => (by rw [← hmv2 i (by omega)]; exact hi))
 obtain ⟨rfl, κ3, ts3, hmv3, ⟨tbs, htb, hts⟩, hS9⟩ := hf22
 have hS := hS9
 refine da (de Z36 (W_ret ?_))
 refine ro ?_
 exact ⟨_, rfl, hx, 0, κ3, vx, _, _, _, ts3, dead, rfl, fun k hk => (hmv3 k (Nat.lt_of_lt_of_le hk hws9) (fun hl e => by have := (hbV hl).2; omega)).trans (hmv2 k (by omega)), hS, .inr ⟨hAll, hck1, fs2, hcp, hcu, hV2, by omega, .inr ⟨Decidable.of_not_not c6, rfl, rfl, .inr ⟨Decidable.of_not_not c7, rfl, rfl, rfl, tbs, htb.trans hTa, hts⟩⟩⟩⟩
def WrP (L : Led) (D : Dsk) (mem : List Cell) (dead : Bool) (l : List Rw) (e : Int) (L' : Led) (D' : Dsk) (mem' : List Cell) (dead' : Bool) : Prop :=
  (dead = true ∧ e = 9 ∧ L' = L ∧ D' = D ∧ mem' = mem ∧ dead' = dead) ∨ (dead = false ∧ checkN l ≠ 0 ∧ e = checkN l ∧ L' = L ∧ D' = D ∧ mem' = mem ∧ dead' = dead) ∨
  (dead = false ∧ checkN l = 0 ∧ L' = (L.append D (batS l)).2.2.1 ∧ D' = (L.append D (batS l)).2.2.2 ∧ (((L.append D (batS l)).2.1 ≠ 0 ∧ e = (L.append D (batS l)).2.1 ∧ mem' = mem ∧ dead' = true) ∨ ((L.append D (batS l)).2.1 = 0 ∧ e = 0 ∧ mem' = putsM mem (cellsN l (L.append D (batS l)).1) ∧ dead' = false)))
def FluP (L : Led) (D : Dsk) (V : Vs) (ts : List Tb) (mem : List Cell) (dead ok : Bool) (e : Int) (L' : Led) (D' : Dsk) (V' : Vs) (ts' : List Tb) (mem' : List Cell) (dead' : Bool) : Prop :=
  (dead = true ∧ ok = false ∧ e = 9 ∧ L' = L ∧ D' = D ∧ V' = V ∧ ts' = ts ∧ mem' = mem ∧ dead' = dead) ∨ (dead = false ∧ mem = [] ∧ ok = false ∧ e = 0 ∧ L' = L ∧ D' = D ∧ V' = V ∧ ts' = ts ∧ mem' = mem ∧ dead' = dead) ∨
  (dead = false ∧ mem ≠ [] ∧ ∃ m, Mg mem m ∧ ChgP L D V ts dead m 0 [] e L' D' V' ts' dead' ∧ ((e ≠ 0 ∧ ok = false ∧ mem' = mem) ∨ (e = 0 ∧ ok = true ∧ mem' = [])))
theorem sizeL_le2 {l : List Cell} (h : ∀ c ∈ l, sizeC c ≤ 20496) : sizeL l ≤ l.length * 20496 := by
  induction l with
  | nil => simp [sizeL]
  | cons c r ih =>
    have h1 := h c List.mem_cons_self
    have h2 := ih (fun x hx => h x (List.mem_cons_of_mem _ hx))
    unfold sizeL at *
    simp only [List.map_cons, List.sum_cons, List.length_cons] at *
    omega
theorem cellsN_size {l : List Rw} {seq : Int} (h : checkN l = 0) : sizeL (cellsN l seq) ≤ 10500000 := by
  obtain ⟨h1, h2, h3, h4⟩ := check_ok h
  have h5 := cellsN_len l seq
  have h6 := sizeL_le2 (l := cellsN l seq) (fun c hc => by
    obtain ⟨r, hr, rfl⟩ := cellsN_mem hc
    have := row_small (h4 r hr)
    unfold sizeC Rw.cell; simp only []; omega)
  omega
theorem compN_sub {α : Type} (eq : α → α → Bool) : ∀ l : List α, (compN eq l).length ≤ l.length ∧ ∀ x ∈ compN eq l, x ∈ l := by
  have h : ∀ (r : List α) (p : α), (compF eq p r).length ≤ r.length ∧ ∀ x ∈ compF eq p r, x ∈ r := by
    intro r
    induction r with
    | nil => intro p; exact ⟨Nat.le_refl _, fun x hx => hx⟩
    | cons a r ih =>
      intro p
      unfold compF
      have := ih a
      split
      · exact ⟨Nat.le_succ_of_le this.1, fun x hx => List.mem_cons_of_mem _ (this.2 x hx)⟩
      · exact ⟨Nat.succ_le_succ this.1, fun x hx => (List.mem_cons.1 hx).elim (fun e => e ▸ List.mem_cons_self) (fun h => List.mem_cons_of_mem _ (this.2 x h))⟩
  intro l
  cases l with
  | nil => exact ⟨Nat.le_refl _, fun x hx => hx⟩
  | cons a r => exact ⟨Nat.succ_le_succ (h r a).1, fun x hx => (List.mem_cons.1 hx).elim (fun e => e ▸ List.mem_cons_self) (fun h9 => List.mem_cons_of_mem _ ((h r a).2 x h9))⟩
theorem mg_sub {l m : List Cell} (h : Mg l m) : m.length ≤ l.length ∧ ∀ c ∈ m, c ∈ l := by
  obtain ⟨l', hp, hu, rfl⟩ := h
  have := compN_sub keyEq l'
  exact ⟨by rw [← hp.length_eq]; exact this.1, fun c hc => hp.mem_iff.1 (this.2 c hc)⟩
section
variable {κ : Nat → Nat} {bs bd bl bo bm : Nat} {vf : Value} {L : Led} {D : Dsk} {V : Vs} {ts : List Tb} {mem : List Cell} {dead : Bool} {w w' : World}
theorem StE.setM {bm' : Nat} {mem' : List Cell} {F : Nat → Prop} (h : StE κ bs bd bl bo bm vf L D V ts mem dead w) (m : Vc.Mod (oneB bs) w w') (hm : Blk w' bs (stoC bd bl V.next vf bo bm' dead) 90) (hM : MRep F w bm' mem') (hF : ∀ k, F k → κ k = 0) [DecidablePred F] : StE (fun k => if F k then 3 else κ k) bs bd bl bo bm' vf L D V ts mem' dead w' := by
  have hr := h.relab (κ' := fun k => if F k then 3 else κ k) (fun k hk => if_neg (fun e => hk (hF k e))) (fun k hk => by
    by_cases e : F k
    · exact hM.lt k e
    · rw [if_neg e] at hk; exact h.lt k hk)
  have o : ∀ k, (if F k then 3 else κ k) ≠ 5 → ¬ oneB bs k := fun k hk e => hk (by have e2 : k = bs := e; rw [e2]; exact hr.k0)
  exact ⟨hm, hr.ld.mod m (fun k hk => o k (by rw [hk]; decide)), hr.mp.mod m (o _ (by rw [hr.k2]; decide)), (MRep.mod hM m (fun k hk => o k (by rw [if_pos hk]; decide))).to (fun k hk => if_pos hk) (fun k hk => Nat.lt_of_lt_of_le (hr.lt k (by rw [hk]; decide)) m.size), hr.vs.mod m (fun hl => o _ (by rw [hr.k4 hl]; decide)), fun t ht => (hr.tb t ht).mod m (fun k hk => o k (by rw [hr.k6 t ht k hk]; decide)), hr.k0, hr.k2, hr.k4, hr.k6, fun k hk => Nat.lt_of_lt_of_le (hr.lt k hk) m.size⟩
end
theorem writeS_w (κ : Nat → Nat) (bs bd bl bo bm : Nat) (vf : Value) (L : Led) (D : Dsk) (V : Vs) (ts : List Tb) (mem : List Cell) (dead : Bool) (l : List Rw) (v : Value) (w : World) (h : StE κ bs bd bl bo bm vf L D V ts mem dead w) (hv : Arr Rw.cs 3 w v l) (hl : l.length ≤ 100000) (hvk : l ≠ [] → κ (base v).1 = 0) (hml : mem.length ≤ 600000) (hcnt : L.ents.length ≤ 900000) (hmz : sizeL mem ≤ 100000000000) :
    Calls Tryz.prog 14 [ptr bs 0, v].toArray w (Does (fun k => κ k ≠ 0) w (fun u w' => ∃ e κ' L' D' mem' dead', u = I e ∧ (∀ k, k < w.heap.size → κ' k = κ k) ∧ StE κ' bs bd bl bo bm vf L' D' V ts mem' dead' w' ∧ WrP L D mem dead l e L' D' mem' dead')) := by
 refine cw Tryz.func14 ?_
 have hx := Vc.Mod.refl (fun k => κ k ≠ 0) w
 have hS := h
 have hκ0 : ∀ k, w.heap.size ≤ k → κ k = 0 := fun k hk => Decidable.byContradiction fun h9 => by have := h.lt k h9; omega
 refine ws fun _ Z1 => wr (da (de Z1 (ws fun _ Z2 => ws fun _ Z3 => wr (dm ?_))))
 refine cP (alive_w bs bd bl V.next vf bo bm dead _ hS.m) RX.all fun w1 x1 => ?_
 replace hS := hS.ext x1
 replace hx := hx.ext x1
 refine da (de Z3 (ws fun _ Z4 => wr (dm ?_)))
 refine dp (pv_neq rfl rfl) (de Z4 (wi (fun c1 => ?_) fun c1 => ?_))
 ·
  refine ws fun _ Z5 => wr (dm (da (de Z5 (W_ret ?_))))
  refine ro ?_
  have hd1 : dead = true := by cases dead with | true => rfl | false => exact absurd rfl c1
  subst hd1
  exact ⟨_, rfl, hx, 9, κ, L, D, mem, true, rfl, fun _ _ => rfl, hS, .inl ⟨rfl, rfl, rfl, rfl, rfl, rfl⟩⟩
 have hd0 : dead = false := by cases dead with | false => rfl | true => exact absurd (by decide) c1
 subst hd0
 refine W_skip (Z2 _ _ (ws fun _ Z6 => wr (dm ?_)))
 refine cG (batEnc_w l v _ (hv.mod hx (fun hl e => e (hvk hl))) (by omega)) RX.all fun u2 w2 x2 hf2 => ?_
 have hsz2 := hx.size
 replace hS := hS.ext x2
 replace hx := hx.ext x2
 obtain ⟨vb, rfl, hoP0⟩ := hf2
 have hoP := hoP0.mono hsz2
 refine dm ?_
 refine dx rfl rfl (dx rfl rfl (da (da (de Z6 (ws fun _ Z7 => ws fun _ Z8 => wr (dm ?_))))))
 refine dp (pv_neq rfl rfl) (de Z8 (wi (fun c2 => ?_) fun c2 => ?_))
 ·
  refine ws fun _ Z9 => wr (dm (da (de Z9 (W_ret ?_))))
  refine ro ?_
  exact ⟨_, rfl, hx, _, κ, L, D, mem, false, rfl, fun _ _ => rfl, hS, .inr (.inl ⟨rfl, c2, rfl, rfl, rfl, rfl, rfl⟩)⟩
 have hc0 : checkN l = 0 := Decidable.of_not_not c2
 rw [if_pos hc0] at hoP
 obtain ⟨hr1, hr2, hr3, hr4⟩ := check_ok hc0
 have hbl9 := bat_len l
 have hnl9 := numS_len l.length
 have hbS : (batS l).length ≤ 1000000 := by unfold batS; rw [List.length_append]; omega
 refine W_skip (Z7 _ _ (ws fun _ Z10 => wr (dm ?_)))
 refine dz rfl (df 1 rfl (dl rfl (hS.m.at rfl) (dm ?_)))
 have hszw := hx.size
 refine cD (ledApp_w _ bl bd L D (batS l) vb _ hS.ld (hoP.arr (by intro x; rfl)) hbS (by omega) (fun hl e => by have e1 : κ (base vb).1 = 1 := e; rw [hκ0 _ (hoP.base_ge hl).1] at e1; cases e1)) (.inl rfl) fun u3 w3 x3 hf3 => ?_
 have hsz3 := hx.size
 replace hx := hx.own x3 (fun i hi hlt => (by have e1 : κ i = 1 := hi; rw [e1]; decide))
 obtain ⟨rfl, hl9⟩ := hf3
 have hS2 := hS.ledger x3 hl9
 have hmv : ∀ k, k < w.heap.size → updK κ 1 _ _ k = κ k := fun k hk => updK_old (κ := κ) (i := 1) (w' := w3) (Nat.lt_of_lt_of_le hk hszw)
 replace hS := hS2
 refine dm ?_
 refine dx rfl rfl (dx rfl rfl (da (da (de Z10 (ws fun _ Z11 => ws fun _ Z12 => wr (dm ?_))))))
 refine dp (pv_neq rfl rfl) (de Z12 (wi (fun c3 => ?_) fun c3 => ?_))
 ·
  refine ws fun _ Z13 => wr (dm (dm ?_))
  refine cD (diesS_w bs bd bl V.next vf bo bm false (L.append D (batS l)).2.1 _ hS.m) (.inl rfl) fun u4 w4 x4 hf4 => ?_
  have hsz4 := hx.size
  replace hx := hx.own x4 (fun i hi hlt => (by have e1 : i = bs := hi; rw [e1, h.k0]; decide))
  obtain ⟨rfl, hd9⟩ := hf4
  have hS2 := hS.head x4 hd9
  replace hS := hS2
  refine da (de Z13 (W_ret ?_))
  refine ro ?_
  exact ⟨_, rfl, hx, _, _, _, _, mem, _, rfl, hmv, hS, .inr (.inr ⟨rfl, hc0, rfl, rfl, .inl ⟨c3, rfl, rfl, by simp [c3]⟩⟩)⟩
 refine W_skip (Z11 _ _ (ws fun _ Z14 => wr (dm (dm (dm ?_)))))
 have hlt9 := hS.lt
 have hszw2 := hx.size
 refine cD (puts_w _ bs bd bl V.next vf bo bm false mem l v (L.append D (batS l)).1 _ hS.m hS.mr (by rw [hS.k0]; decide) (hv.mod hx (fun hl e => e (hvk hl))) (by omega) (fun r hr => by have := row_small (hr4 r hr); omega) (by omega) (by have := cellsN_size (seq := (L.append D (batS l)).1) hc0; omega)) (.inl rfl) fun u5 w5 x5 hf5 => ?_
 have hsz5 := hx.size
 replace hx := hx.own x5 (fun i hi hlt => (by rw [← hmv i (by omega)]; have e1 := hi; rw [e1]; decide))
 obtain ⟨rfl, hm9⟩ := hf5
 have hS2 := hS.setMem x5 hm9
 replace hS := hS2
 refine de Z14 (ws fun _ Z15 => wr (da (de Z15 (W_ret ?_))))
 refine ro ?_
 exact ⟨_, rfl, hx, 0, _, _, _, _, false, rfl, fun k hk => (updK_old (Nat.lt_of_lt_of_le hk hszw2)).trans (hmv k hk), hS, .inr (.inr ⟨rfl, hc0, rfl, rfl, .inr ⟨Decidable.of_not_not c3, rfl, rfl, rfl⟩⟩)⟩
theorem flushS_w (κ : Nat → Nat) (bs bd bl bo bm : Nat) (vf : Value) (L : Led) (D : Dsk) (V : Vs) (ts : List Tb) (mem : List Cell) (dead : Bool) (w : World) (h : StE κ bs bd bl bo bm vf L D V ts mem dead w) (hml : mem.length ≤ 30000) (hmc : ∀ c ∈ mem, c.key.length ≤ 4096 ∧ c.val.length ≤ 16384 ∧ c.seq ≤ 4611686018427387904) (hV : isV V = true) (hgv : GV w) (hgvs : ∀ k, gvS k → κ k = 0) (htl : ts.length ≤ 900000) :
    Calls Tryz.prog 15 [ptr bs 0].toArray w (Does (fun k => κ k ≠ 0) w (fun u w' => ∃ ok e κ' bm' vf' L' D' V' ts' mem' dead', u = .tuple #[B ok, I e] ∧ (∀ k, k < w.heap.size → κ' k = κ k) ∧ StE κ' bs bd bl bo bm' vf' L' D' V' ts' mem' dead' w' ∧ FluP L D V ts mem dead ok e L' D' V' ts' mem' dead')) := by
 refine cw Tryz.func15 ?_
 have hx := Vc.Mod.refl (fun k => κ k ≠ 0) w
 have hS := h
 have hκ0 : ∀ k, w.heap.size ≤ k → κ k = 0 := fun k hk => Decidable.byContradiction fun h9 => by have := h.lt k h9; omega
 refine ws fun _ Z1 => wr (da (da (de Z1 (ws fun _ Z2 => ws fun _ Z3 => wr (dm ?_)))))
 refine cP (alive_w bs bd bl V.next vf bo bm dead _ hS.m) RX.all fun w1 x1 => ?_
 replace hS := hS.ext x1
 replace hx := hx.ext x1
 refine da (de Z3 (ws fun _ Z4 => wr (dm ?_)))
 refine dp (pv_neq rfl rfl) (dm ?_)
 refine D_splitP 10 rfl (fun c1 => ?_) (fun c1 => ?_)
 ·
  refine dk (dk (dk (dk (dk (dk (dk' (de Z4 ?_)))))))
  refine W_t rfl (ws fun _ Z5 => wr (dm (da (da (de Z5 (W_ret ?_))))))
  refine rt ?_
  have hd1 : dead = true := by cases dead with | true => rfl | false => exact absurd rfl c1
  subst hd1
  exact ⟨_, rfl, hx, false, 9, κ, bm, vf, L, D, V, ts, mem, true, rfl, fun _ _ => rfl, hS, .inl ⟨rfl, rfl, rfl, rfl, rfl, rfl, rfl, rfl, rfl⟩⟩
 have hd0 : dead = false := by cases dead with | false => rfl | true => exact absurd (by decide) c1
 subst hd0
 refine dm ?_
 refine dz rfl (df 5 rfl (dl rfl (hS.m.at rfl) (cP (hS.mr.calls_len _ (by omega)) RX.all fun w2 x2 => ?_)))
 replace hS := hS.ext x2
 replace hx := hx.ext x2
 refine dp (pv_eql rfl rfl) (dk' (de Z4 ?_))
 refine wi (fun c2 => ?_) fun c2 => ?_
 ·
  refine ws fun _ Z6 => wr (dm (da (da (de Z6 (W_ret ?_)))))
  refine rt ?_
  exact ⟨_, rfl, hx, false, 0, κ, bm, vf, L, D, V, ts, mem, false, rfl, fun _ _ => rfl, hS, .inr (.inl ⟨rfl, List.eq_nil_of_length_eq_zero (by omega), rfl, rfl, rfl, rfl, rfl, rfl, rfl, rfl⟩)⟩
 refine W_skip (Z2 _ _ (ws fun _ Z7 => ws fun _ Z8 => wr (dm (dm ?_))))
 refine dz rfl (df 5 rfl (dl rfl (hS.m.at rfl) (cG (hS.mr.calls_all _ (by omega) (fun c hc => (hmc c hc).2.2)) RX.all fun va w3 x3 hoA0 => ?_)))
 have hsz3 := hx.size
 replace hS := hS.ext x3
 replace hx := hx.ext x3
 have hoA := hoA0.mono hsz3
 refine D_lit (e := 95) (sz := 1) (zs := [.slice none 0 0]) (pv := [(0, ?a20_0)]) (cs := [?a20_0]) rfl (by kernel_rfl) ⟨rfl, rfl⟩ (by kernel_rfl) rfl ?h20 ?f20 RX.all (fun b1 w4 e1 x4 m1 => ?k20)
 case h20 => refine ⟨rfl, ?_, trivial⟩ <;> (conv => lhs; whnf)
 case f20 => simp [fillL, setAt, List.replicate, hoA.sl.cells]
 have g1 := hx.ge e1
 have a1_hS := hS.lt
 have o1_hoA := hoA.ltb e1
 replace hS := hS.ext x4
 replace hoA := hoA.ext x4
 replace hx := hx.ext x4
 refine cG (merged_w [(va, mem)] _ _ (m1.arr (enc := encQ) (sz := 1) (l := [(va, mem)]) rfl (by intro x; rfl) rfl (by simp)) (fun q hq => by rw [List.mem_singleton.1 hq]; exact hoA.arr (by intro x; rfl)) (by simp) (by simp; omega)) RX.all fun vm w5 x5 hf5 => ?_
 have hsz5 := hx.size
 replace hS := hS.ext x5
 replace hx := hx.ext x5
 obtain ⟨m, hMg0, hoM0⟩ := hf5
 have hMg : Mg mem m := by simpa using hMg0
 have hoM := hoM0.mono hsz5
 have hms := mg_sub hMg
 have hszc := hx.size
 refine cD (changes_w κ bs bd bl bo bm vf L D V ts mem false m vm 0 [] (.slice none 0 0) _ hS (hoM.arr (by intro x; rfl)) (by omega) (fun c hc => ⟨(hmc c (hms.2 c hc)).1, (hmc c (hms.2 c hc)).2.1⟩) (by decide) ((Vc.Own.nil (enc := Fi.cs) (sz := 5) (T := 0) (B := 0)).arr (by intro x; rfl)) (by decide) (fun h9 => absurd rfl h9) (fun f hf => by cases hf) hV (hgv.mod hx (fun k hk e => e (hgvs k hk))) hgvs htl (fun hl => hκ0 _ (hoM.base_ge hl).1)) (.inl rfl) fun u6 w6 x6 hf6 => ?_
 have hsz6 := hx.size
 replace hx := hx.own x6 (fun i hi hlt => hi)
 obtain ⟨e1, κ1, vf1, L1, D1, V1, ts1, dead1, rfl, hmv, hS9, hCh⟩ := hf6
 have hS := hS9
 have hmv1 : ∀ k, k < w.heap.size → κ1 k = κ k := fun k hk => hmv k (Nat.lt_of_lt_of_le hk hszc)
 refine da (de Z8 (ws fun _ Z9 => wr (dm ?_)))
 refine dp (pv_neq rfl rfl) (de Z9 (wi (fun c3 => ?_) fun c3 => ?_))
 ·
  refine ws fun _ Z10 => wr (dm (da (da (de Z10 (W_ret ?_)))))
  refine rt ?_
  exact ⟨_, rfl, hx, false, e1, κ1, bm, vf1, L1, D1, V1, ts1, mem, dead1, rfl, hmv1, hS, .inr (.inr ⟨rfl, fun e => c2 (by rw [e]; rfl), m, hMg, hCh, .inl ⟨c3, rfl, rfl⟩⟩)⟩
 refine W_skip (Z7 _ _ (ws fun _ Z11 => wr (dm ?_)))
 have hlt1 := hS.lt
 obtain ⟨N0, hN0⟩ : ∃ z, z = w6.heap.size := ⟨_, rfl⟩
 have hszn : w.heap.size ≤ N0 := by rw [hN0]; exact hx.size
 rw [← hN0] at hlt1
 refine cG (new_w [] (.slice none 0 0) _ ((Vc.Own.nil (enc := encU) (sz := 1) (T := 0) (B := 0)).arr (by intro x; rfl)) (by decide)) RX.all fun u7 w7 x7 hf7 => ?_
 have hsz7 := hx.size
 replace hS := hS.ext x7
 replace hx := hx.ext x7
 obtain ⟨bm2, rfl, hMn⟩ := hf7
 rw [← hN0] at hMn
 have hMk : ∀ k, N0 ≤ k ∧ k < w7.heap.size → κ1 k = 0 := fun k hk => Decidable.byContradiction fun h9 => by have := hlt1 k h9; omega
 refine dz rfl (df 5 rfl (D_store1 rfl rfl rfl rfl (by kernel_rfl) hS.m (Nat.le_of_ble_eq_true rfl) (.inl rfl) (fun w8 x8 xs8 hm9 => ?_)))
 have hS2 := hS.setM x8 hm9 hMn hMk
 replace hx := hx.own x8 (fun i hi hlt => by have hi2 : i = bs := hi; rw [hi2, h.k0]; decide)
 replace hS := hS2
 refine de Z11 (ws fun _ Z12 => wr (da (da (de Z12 (W_ret ?_)))))
 refine rt ?_
 have he1 : e1 = 0 := Decidable.of_not_not c3
 subst he1
 exact ⟨_, rfl, hx, true, 0, _, bm2, vf1, L1, D1, V1, ts1, [], dead1, rfl, fun k hk => (if_neg (fun e => absurd (Nat.lt_of_lt_of_le hk hszn) (Nat.not_lt.2 e.1))).trans (hmv1 k hk), hS, .inr (.inr ⟨rfl, fun e => c2 (by rw [e]; rfl), m, hMg, hCh, .inr ⟨rfl, rfl, rfl⟩⟩)⟩
end Go.Proofs.YtiooodckiddpmaaGreatDoor
namespace Go.Proofs.YtiooodckiddpmaaGreatDoor.Em
open Go.Vc Go.Sp
attribute [local irreducible] W XW Dw DwT
theorem diskM : MapK Tryz.prog 120 9 123 S pO (fun s => s.length ≤ maxLen) := mapS (by kernel_rfl) (by kernel_rfl) pO_inj
theorem insE_w (w : World) :
    Calls Tryz.prog 262 [.slice none 0 0, I 0, I 0].toArray w (Pure w (.tuple #[])) := by
 refine cw Tryz.func262 ?_
 have hx := Ext.refl w
 refine ws fun _ Z1 => wr (dm ?_)
 refine pa rfl rfl (da (de Z1 (W_block ?_)))
 refine W_loop (G := Unit) (fun uu => [(0, .slice none 0 0), (1, I 0), (2, I 0), (6, I (0 + 1))]) (fun uu w' => Ext w w' ∧ True) (fun uu => 0) () ?_ ?_ ?_
 · exact ⟨rfl, rfl, rfl, rfl, trivial⟩
 · exact ⟨hx, trivial⟩
 intro X1 g1 w1 hF1
 revert hF1; revert g1; intro uu hF1
 clear hx
 obtain ⟨hx, htr⟩ := hF1
 refine ws fun _ Z2 => ws fun _ Z3 => wr (dm (dm ?_))
 refine dp (pv_lss rfl rfl) (de Z3 (wi (fun c1 => ?_) fun c1 => ?_))
 ·
  exact absurd c1 (by decide)
 refine W_exit (norm_ret (ret_none rfl ?_))
 exact ⟨rfl, hx⟩
theorem len64_w (w : World) :
    Calls Tryz.prog 272 [.int .u64 0].toArray w (Pure w (I 0)) := by
 refine cw Tryz.func272 ?_
 have hx := Ext.refl w
 refine ws fun _ Z1 => wr (da (de Z1 (ws fun _ Z2 => ws fun _ Z3 => wr (dm ?_))))
 refine dp (pv_geq rfl rfl) (de Z3 (wi (fun c1 => ?_) fun c1 => ?_))
 ·
  exact absurd c1 (by decide)
 refine W_skip (Z2 _ _ (ws fun _ Z4 => ws fun _ Z5 => wr (dm ?_)))
 refine dp (pv_geq rfl rfl) (de Z5 (wi (fun c2 => ?_) fun c2 => ?_))
 ·
  exact absurd c2 (by decide)
 refine W_skip (Z4 _ _ (ws fun _ Z6 => ws fun _ Z7 => wr (dm ?_)))
 refine dp (pv_geq rfl rfl) (de Z7 (wi (fun c3 => ?_) fun c3 => ?_))
 ·
  exact absurd c3 (by decide)
 refine W_skip (Z6 _ _ (ws fun _ Z8 => wr (dm (dm ?_))))
 refine dp (pv_toB rfl (by kernel_rfl) (by kernel_rfl)) (dp (pv_idx80 (c := 0) (by kernel_rfl) rfl rfl rfl) (dp (pv_convB rfl (by kernel_rfl) (by kernel_rfl)) (dp (pv_add (a := 0) (b := 0) rfl rfl (by simp [inI64])) (da (de Z8 (W_ret ?_))))))
 refine ro ?_
 exact ⟨rfl, hx⟩
theorem blen_w (w : World) :
    Calls Tryz.prog 204 [.int .u64 0].toArray w (Pure w (I 0)) := by
 refine cw Tryz.func204 ?_
 have hx := Ext.refl w
 refine ws fun _ Z1 => wr (da (de Z1 (ws fun _ Z2 => ?_)))
 refine W_f rfl (W_skip (Z2 _ _ (ws fun _ Z3 => wr (dm ?_))))
 refine cP (len64_w _) RX.all fun w1 x1 => ?_
 replace hx := hx.trans x1
 refine da (de Z3 (W_ret ?_))
 refine ro ?_
 exact ⟨rfl, hx⟩
theorem pdqE_w (w : World) :
    Calls Tryz.prog 203 [.slice none 0 0, I 0, I 0, I 0].toArray w (Pure w (.tuple #[])) := by
 refine cw Tryz.func203 ?_
 have hx := Ext.refl w
 refine ws fun _ Z1 => wr (da (de Z1 (ws fun _ Z2 => wr (da (de Z2 (W_block ?_))))))
 refine W_loop (G := Unit) (fun uu => [(0, .slice none 0 0), (1, I 0), (2, I 0)]) (fun uu w' => Ext w w' ∧ True) (fun uu => 0) () ?_ ?_ ?_
 · exact ⟨rfl, rfl, rfl, trivial⟩
 · exact ⟨hx, trivial⟩
 intro X1 g1 w1 hF1
 revert hF1; revert g1; intro uu hF1
 clear hx
 obtain ⟨hx, htr⟩ := hF1
 refine W_block (ws fun _ Z3 => wr (dm (dm ?_)))
 refine ps rfl rfl (da (de Z3 (ws fun _ Z4 => ws fun _ Z5 => wr (dm ?_))))
 refine dp (pv_leq rfl rfl) (de Z5 (wi (fun c1 => ?_) fun c1 => ?_))
 ·
  refine ws fun _ Z6 => wr (dm (dm (dm ?_)))
  refine cP (insE_w _) RX.all fun w2 x2 => ?_
  replace hx := hx.trans x2
  refine de Z6 (W_ret (ret_none rfl ?_))
  exact ⟨rfl, hx⟩
 exact absurd c1 (by decide)
theorem sortE_w (w : World) :
    Calls Tryz.prog 132 [.slice none 0 0].toArray w (Pure w (.tuple #[])) := by
 refine cw Tryz.func132 ?_
 have hx := Ext.refl w
 refine ws fun _ Z1 => wr (dm ?_)
 refine dv 9 1 (Arr.nil (enc := sEnc) (sz := 1) (w := w)).sl (da (de Z1 (wr (dm (dm (dm ?_))))))
 refine dp (pv_conv (k := .u64) rfl (by kernel_rfl) (by kernel_rfl)) (cP (blen_w _) RX.all fun w1 x1 => ?_)
 replace hx := hx.trans x1
 refine cP (pdqE_w _) RX.all fun w2 x2 => ?_
 replace hx := hx.trans x2
 refine D_end ((norm_ret (ret_none rfl ?_)))
 exact ⟨rfl, hx⟩
theorem keysID_w (b ly : Nat) (mv : Value) (J : Nat → World → Prop) (w : World) (hJ : ∀ k W, J k W → Blk W b [mv] 120 ∧ EmpV W mv) (hE : ∀ k W W', J k W → Ext W W' → J k W') (hj : J 0 w) :
    Calls Tryz.prog 133 [.func (.yield ly) #[] #[], ptr b 0].toArray w (fun e W' => (∃ v, e = .returned v) ∧ J 0 W') := by
 refine calls_WX Tryz.func133 rfl rfl rfl (by kernel_rfl) ?_
 have hx := Ext.refl w
 obtain ⟨hb, hv⟩ := hJ _ _ hj
 refine WX_seq fun K1 Z1 => WX_reg [.l, .x] rfl (dl rfl ((hb.ext hx).at rfl) (D_rangeE (by kernel_rfl) rfl rfl (hv.ext hx) RX.all (fun b1 w1 e1 x1 it1 => ?_)))
 have g1 := hx.ge e1
 replace hx := hx.trans x1
 refine D_end (Z1 _ _ _ (WX_block ?_))
 refine WX_loop (G := Unit) (fun uu => [(0, .func (.yield ly) #[] #[]), (5, ptr b1 0)]) (fun uu w' => Ext w w' ∧ IterE w' b1 ∧ True) (fun uu => 0) () ?_ ?_ ?_
 · exact ⟨rfl, rfl, trivial⟩
 · exact ⟨hx, it1, trivial⟩
 intro X2 g2 w2 hF2
 revert hF2; revert g2; intro uu hF2
 clear hx it1
 obtain ⟨hx, it1, htr⟩ := hF2
 refine WX_seq fun K2 Z2 => WX_reg [.x, .p] rfl (D_nextE rfl rfl it1 RX.all (dx rfl rfl (D_end (Z2 _ _ _ (WX_seq fun K3 Z3 => WX_f rfl (WX_exit ?_))))))
 try dsimp only [thenX, inBlkX]
 refine retX_nilN (ret_none rfl ?_)
 exact ⟨⟨_, rfl⟩, hE _ _ _ hj hx⟩
theorem keysD_w (mv : Value) (w : World) (hv : EmpV w mv) :
    Calls Tryz.prog 67 [mv].toArray w (Gives w (fun u w' => ∃ b, u = fnC 133 [ptr b 0] ∧ Blk w' b [mv] 120)) := by
 refine cw Tryz.func67 ?_
 have hx := Ext.refl w
 refine ws fun _ Z1 => wr (D_box rfl rfl (emp_cells hv) RX.all (fun b1 w1 e1 x1 m1 => ?_))
 have g1 := hx.ge e1
 replace hx := hx.trans x1
 refine da (de Z1 (ws fun _ Z2 => wr ?_))
 refine dp (pv_makeFunc rfl) (da (de Z2 (W_ret ?_)))
 refine ro ?_
 exact ⟨_, rfl, hx, b1, rfl, m1⟩
theorem appendSeqD_w (bk : Nat) (mv : Value) (w : World) (hk : Blk w bk [mv] 120) (hv : EmpV w mv) :
    Calls Tryz.prog 202 [.slice none 0 0, fnC 133 [ptr bk 0]].toArray w (Pure w (.slice none 0 0)) := by
 refine calls_WX Tryz.func202 rfl rfl rfl (by kernel_rfl) ?_
 have hx := Ext.refl w
 refine WX_seq fun K1 Z1 => WX_reg [.x, .p] rfl (D_box rfl rfl rfl RX.all (fun b1 w1 e1 x1 m1 => ?_))
 have g1 := hx.ge e1
 replace hx := hx.trans x1
 refine da ?_
 refine D_end (Z1 _ _ _ (WX_seq fun K2 Z2 => WX_seq fun K3 Z3 => WX_reg [.p] rfl (dm ?_)))
 refine D_end (Z3 _ _ _ (WX_block ?_))
 have hI0 : (Ext w w1 ∧ Blk w1 b1 [.slice none 0 0] 58 ∧ Blk w1 bk [mv] 120 ∧ EmpV w1 mv) := ⟨hx, m1, hk.ext hx, hv.ext hx⟩
 have hx3 := hx.size
 have hbk := hk.lt
 have hb1 := m1.lt
 refine WX_range (gf := 133) (N := 0) (lb := #[ptr bk 0]) (args := fun k => [S []]) rfl (by kernel_rfl) (fun _ => rfl) (fun k W => (Ext w W ∧ Blk W b1 [.slice none 0 0] 58 ∧ Blk W bk [mv] 120 ∧ EmpV W mv)) (fun k E1 W => False) hI0 ?hX ?hL ?hAL ?hit ?assign ?body ?h
 case hX =>
   rintro k W W' ⟨h1, h2, h3, h4⟩ x
   exact ⟨h1.trans x, h2.ext x, h3.ext x, h4.ext x⟩
 case hL =>
   rintro k W l' o o' ⟨h1, h2, h3, h4⟩ hle hl ho
   have := hx.size
   exact ⟨h1.own (Mod.putObj W l' o') (fun i hi => by have hi2 : i = l' := hi; omega), h2.put o' hl ho, h3.put o' hl ho, h4.imp id fun ⟨b, e, hb⟩ => ⟨b, e, hb.mod (Mod.putObj W l' o') (fun e2 => by have e3 : b = l' := e2; have h9 := hv.lt e; omega)⟩⟩
 case hAL => exact fun k E1 W l' o o' h => h.elim
 case hit =>
   intro ly J hJI hJE hY W hj
   exact keysID_w bk ly mv J W (fun k W h => ⟨(hJI k W h).2.2.1, (hJI k W h).2.2.2⟩) hJE hj
 case assign => exact fun k l W hk => absurd hk (Nat.not_lt_zero k)
 case body => exact fun k l E1 W keep hk => absurd hk (Nat.not_lt_zero k)
 case h =>
  intro D w8 hD hI hdl
  clear hx m1 hI0
  obtain ⟨hx, m1, -, -⟩ := hI
  refine Z2 _ _ _ (WX_seq fun K4 Z4 => WX_reg [.l, .p] rfl (dl rfl (m1.at rfl) (da ?_)))
  refine D_end (Z4 _ _ _ (WX_ret ?_))
  try dsimp only [thenX, inBlkX]
  refine retX_mark hdl (ro ?_)
  have hxs := hx.size
  exact ⟨rfl, hx.own (Mod.putObj _ D _) (fun i hi => by have hi2 : i = D := hi; omega)⟩
theorem collectD_w (bk : Nat) (mv : Value) (w : World) (hk : Blk w bk [mv] 120) (hv : EmpV w mv) :
    Calls Tryz.prog 131 [fnC 133 [ptr bk 0]].toArray w (Pure w (.slice none 0 0)) := by
 refine cw Tryz.func131 ?_
 have hx := Ext.refl w
 refine ws fun _ Z1 => wr (da (de Z1 (ws fun _ Z2 => wr (dm ?_))))
 refine cP (appendSeqD_w bk mv _ (hk.ext hx) (hv.ext hx)) RX.all fun w1 x1 => ?_
 replace hx := hx.trans x1
 refine da (de Z2 (W_ret ?_))
 refine ro ?_
 exact ⟨rfl, hx⟩
theorem sortedD_w (bk : Nat) (mv : Value) (w : World) (hk : Blk w bk [mv] 120) (hv : EmpV w mv) :
    Calls Tryz.prog 66 [fnC 133 [ptr bk 0]].toArray w (Pure w (.slice none 0 0)) := by
 refine cw Tryz.func66 ?_
 have hx := Ext.refl w
 refine ws fun _ Z1 => wr (da (de Z1 (ws fun _ Z2 => wr (dm ?_))))
 refine cP (collectD_w bk mv _ (hk.ext hx) (hv.ext hx)) RX.all fun w1 x1 => ?_
 replace hx := hx.trans x1
 refine da (de Z2 (ws fun _ Z3 => wr (dm ?_)))
 refine cP (sortE_w _) RX.all fun w2 x2 => ?_
 replace hx := hx.trans x2
 refine de Z3 (ws fun _ Z4 => wr (dm (da (de Z4 (W_ret ?_)))))
 refine ro ?_
 exact ⟨rfl, hx⟩
theorem list_w (bd mf : Nat) (room : Int) (w : World) (hd : Blk w bd [I room, .map (some mf), B false, I 0] 122) (hm : EmpM w mf) :
    Calls Tryz.prog 28 [ptr bd 0].toArray w (Pure w (.slice none 0 0)) := by
 refine cw Tryz.func28 ?_
 have hx := Ext.refl w
 refine ws fun _ Z1 => wr (da (de Z1 (ws fun _ Z2 => ws fun _ Z3 => wr (dm ?_))))
 refine dp (pv_eqP (by kernel_rfl) rfl rfl) (de Z3 (wi (fun c1 => ?_) fun c1 => ?_))
 ·
  exact absurd c1 (by simp)
 refine W_skip (Z2 _ _ (ws fun _ Z4 => wr (dm ?_)))
 refine dz rfl (df 1 rfl (dl rfl ((hd.ext hx).at rfl) (cG (keysD_w (.map (some mf)) _ (hm.ext hx).val) RX.all fun u1 w1 x1 hf1 => ?_)))
 have hsz1 := hx.size
 replace hx := hx.trans x1
 obtain ⟨bk, rfl, hk⟩ := hf1
 refine cP (sortedD_w bk _ _ hk (hm.ext hx).val) RX.all fun w2 x2 => ?_
 replace hx := hx.trans x2
 refine da (de Z4 (W_ret ?_))
 refine ro ?_
 exact ⟨rfl, hx⟩
theorem indexE_w (s : Str) (w : World) :
    Calls Tryz.prog 201 [.slice none 0 0, S s].toArray w (Pure w (I (-1))) := by
 refine cw Tryz.func201 ?_
 have hx := Ext.refl w
 refine ws fun _ Z1 => wr (da (de Z1 (ws fun _ Z2 => ws fun _ Z3 => wr (dm ?_))))
 refine dv 9 1 (Arr.nil (enc := sEnc) (sz := 1) (w := w)).sl (dm (de Z3 (W_block ?_)))
 refine W_loop (G := Unit) (fun uu => [(0, .slice none 0 0), (1, S s), (7, I 0), (8, I 0)]) (fun uu w' => Ext w w' ∧ True) (fun uu => 0) () ?_ ?_ ?_
 · exact ⟨rfl, rfl, rfl, rfl, trivial⟩
 · exact ⟨hx, trivial⟩
 intro X1 g1 w1 hF1
 revert hF1; revert g1; intro uu hF1
 clear hx
 obtain ⟨hx, htr⟩ := hF1
 refine ws fun _ Z4 => wr (dp (pv_lss rfl rfl) (de Z4 (ws fun _ Z5 => wi (fun c1 => ?_) fun c1 => ?_)))
 ·
  exact absurd c1 (by decide)
 refine W_exit (Z2 _ _ (ws fun _ Z6 => wr (da (de Z6 (W_ret ?_)))))
 refine ro ?_
 exact ⟨rfl, hx⟩
theorem containsE_w (s : Str) (w : World) :
    Calls Tryz.prog 130 [.slice none 0 0, S s].toArray w (Pure w (B false)) := by
 refine cw Tryz.func130 ?_
 have hx := Ext.refl w
 refine ws fun _ Z1 => wr (da (de Z1 (ws fun _ Z2 => wr (dm (dm ?_)))))
 refine cP (indexE_w s _) RX.all fun w1 x1 => ?_
 replace hx := hx.trans x1
 refine dp (pv_geq rfl rfl) (da (de Z2 (W_ret ?_)))
 refine ro ?_
 exact ⟨rfl, hx⟩
theorem has_w (bd mf : Nat) (room : Int) (s : Str) (w : World) (hd : Blk w bd [I room, .map (some mf), B false, I 0] 122) (hm : EmpM w mf) :
    Calls Tryz.prog 189 [ptr bd 0, S s].toArray w (Pure w (B false)) := by
 refine cw Tryz.func189 ?_
 have hx := Ext.refl w
 refine ws fun _ Z1 => wr (da (de Z1 (ws fun _ Z2 => wr (dm ?_))))
 refine cP (list_w bd mf room _ (hd.ext hx) (hm.ext hx)) RX.all fun w1 x1 => ?_
 replace hx := hx.trans x1
 refine dm ?_
 refine cP (containsE_w s _) RX.all fun w2 x2 => ?_
 replace hx := hx.trans x2
 refine da (de Z2 (W_ret ?_))
 refine ro ?_
 exact ⟨rfl, hx⟩
theorem removes_w (bd mf : Nat) (room : Int) (l : List Str) (v : Value) (w : World) (hd : Blk w bd [I room, .map (some mf), B false, I 0] 122) (hm : EmpM w mf) (hv : Arr sEnc 1 w v l) (hl : l.length ≤ 1000) :
    Calls Tryz.prog 178 [ptr bd 0, v].toArray w (Pure w (I 0)) := by
 refine cw Tryz.func178 ?_
 have hx := Ext.refl w
 refine ws fun _ Z1 => wr (da (de Z1 (ws fun _ Z2 => ws fun _ Z3 => wr (dm ?_))))
 refine dv 9 1 hv.sl (dm (de Z3 (W_block ?_)))
 refine W_loop (G := Nat) (fun k => [(0, ptr bd 0), (8, v), (9, I ↑l.length), (10, I ↑k)]) (fun k w' => Ext w w' ∧ k ≤ l.length) (fun k => l.length - k) 0 ?_ ?_ ?_
 · exact ⟨rfl, rfl, rfl, rfl, trivial⟩
 · exact ⟨hx, Nat.zero_le _⟩
 intro X1 g1 w1 hF1
 revert hF1; revert g1; intro k hF1
 clear hx
 obtain ⟨hx, hk1⟩ := hF1
 refine ws fun _ Z4 => wr (dp (pv_lss rfl rfl) (de Z4 (ws fun _ Z5 => wi (fun c1 => ?_) fun c1 => ?_)))
 ·
  obtain ⟨s, hk⟩ : ∃ s, l[k]? = some s := ⟨_, List.getElem?_eq_getElem (by omega)⟩
  refine W_skip (Z5 _ _ (ws fun _ Z6 => W_block (ws fun _ Z7 => wr (di 9 1 hv.sl rfl (hv.lt hk) (dl rfl (((hv.ext hx).row hk).at0 rfl) (da (de Z7 (ws fun _ Z8 => ws fun _ Z9 => wr (dm (dm ?_))))))))))
  refine cP (has_w bd mf room s _ (hd.ext hx) (hm.ext hx)) RX.all fun w2 x2 => ?_
  replace hx := hx.trans x2
  refine dn (de Z9 ?_)
  refine W_t rfl (W_exit (Z6 _ _ (wr (pa rfl rfl (dm (D_end (?_)))))))
  refine ⟨k + 1, ⟨rfl, rfl, rfl, rfl, trivial⟩, ⟨hx, by omega⟩, by omega⟩
 refine W_exit (Z2 _ _ (ws fun _ Z10 => wr (da (de Z10 (W_ret ?_)))))
 refine ro ?_
 exact ⟨rfl, hx⟩
theorem read_w (bd mf : Nat) (room : Int) (s : Str) (w : World) (hd : Blk w bd [I room, .map (some mf), B false, I 0] 122) (hm : EmpM w mf) (hs : s.length ≤ maxLen) :
    Calls Tryz.prog 190 [ptr bd 0, S s].toArray w (Pure w (.tuple #[.slice none 0 0, I 7])) := by
 refine cw Tryz.func190 ?_
 have hx := Ext.refl w
 have hma : Vc.MapAt Tryz.prog 9 S pO w mf 0 (fun _ => none) := hm.at
 refine ws fun _ Z1 => wr (da (da (de Z1 (ws fun _ Z2 => ws fun _ Z3 => wr (dm ?_)))))
 refine dp (pv_eqP (by kernel_rfl) rfl rfl) (dm ?_)
 refine D_splitP 8 rfl (fun c1 => ?_) (fun c1 => ?_)
 ·
  exact absurd c1 (by simp)
 refine dm ?_
 refine dz rfl (df 1 rfl (dl rfl ((hd.ext hx).at rfl) (dm ?_)))
 refine dq (lv_look diskM (kx := s) (z0 := none) rfl rfl (by kernel_rfl) (hma.ext hx) hs) (dp (pv_eqP (by kernel_rfl) rfl rfl) (dk' (de Z3 ?_)))
 refine wi (fun c2 => ?_) fun c2 => ?_
 ·
  refine ws fun _ Z4 => wr (da (da (de Z4 (W_ret ?_))))
  refine rt ?_
  exact ⟨rfl, hx⟩
 exact absurd rfl c2
theorem load_w (bd mf : Nat) (room : Int) (s : Str) (w : World) (hd : Blk w bd [I room, .map (some mf), B false, I 0] 122) (hm : EmpM w mf) (hs : s.length ≤ maxLen) :
    Calls Tryz.prog 123 [ptr bd 0, S s].toArray w (Pure w (.tuple #[.slice none 0 0, I 7])) := by
 refine cw Tryz.func123 ?_
 have hx := Ext.refl w
 refine ws fun _ Z1 => wr (da (da (de Z1 (ws fun _ Z2 => ws fun _ Z3 => wr (dm ?_)))))
 refine dp (pv_eqP (by kernel_rfl) rfl rfl) (de Z3 (wi (fun c1 => ?_) fun c1 => ?_))
 ·
  exact absurd c1 (by simp)
 refine W_skip (Z2 _ _ (ws fun _ Z4 => wr (dm (dm ?_))))
 refine cP (read_w bd mf room s _ (hd.ext hx) (hm.ext hx) hs) RX.all fun w1 x1 => ?_
 replace hx := hx.trans x1
 refine dm ?_
 refine dx rfl rfl (dx rfl rfl (da (da (de Z4 (ws fun _ Z5 => ws fun _ Z6 => wr (dm ?_))))))
 refine dp (pv_neq rfl rfl) (de Z6 (wi (fun c2 => ?_) fun c2 => ?_))
 ·
  refine ws fun _ Z7 => wr (dm (da (da (de Z7 (W_ret ?_)))))
  refine rt ?_
  exact ⟨rfl, hx⟩
 exact absurd c2 (by decide)
theorem imgName_w (bl bd : Nat) (w : World) (hl : Blk w bl [ptr bd 0, S [115], I 0, .slice none 0 0, .slice none 0 0, B false] 147) :
    Calls Tryz.prog 177 [ptr bl 0].toArray w (Pure w (S [115, 45, 105, 109, 103])) := by
 refine cw Tryz.func177 ?_
 have hx := Ext.refl w
 refine ws fun _ Z1 => wr (da (de Z1 (ws fun _ Z2 => wr (dm ?_))))
 refine dz rfl (df 1 rfl (dl rfl ((hl.ext hx).at rfl) (dp (pv_scat rfl rfl (by first | (simp; done) | (simp; omega) | omega)) (da (de Z2 (W_ret ?_))))))
 refine ro ?_
 exact ⟨rfl, hx⟩
theorem logName_w (bl bd : Nat) (w : World) (hl : Blk w bl [ptr bd 0, S [115], I 0, .slice none 0 0, .slice none 0 0, B false] 147) :
    Calls Tryz.prog 84 [ptr bl 0].toArray w (Pure w (S [115, 45, 108, 111, 103])) := by
 refine cw Tryz.func84 ?_
 have hx := Ext.refl w
 refine ws fun _ Z1 => wr (da (de Z1 (ws fun _ Z2 => wr (dm ?_))))
 refine dz rfl (df 1 rfl (dl rfl ((hl.ext hx).at rfl) (dp (pv_scat rfl rfl (by first | (simp; done) | (simp; omega) | omega)) (da (de Z2 (W_ret ?_))))))
 refine ro ?_
 exact ⟨rfl, hx⟩
theorem clears_w (bl bd mf : Nat) (room : Int) (w : World) (hl : Blk w bl [ptr bd 0, S [115], I 0, .slice none 0 0, .slice none 0 0, B false] 147) (hd : Blk w bd [I room, .map (some mf), B false, I 0] 122) (hm : EmpM w mf) :
    Calls Tryz.prog 115 [ptr bl 0].toArray w (Pure w (I 0)) := by
 refine cw Tryz.func115 ?_
 have hx := Ext.refl w
 refine ws fun _ Z1 => wr (da (de Z1 (ws fun _ Z2 => ?_)))
 refine W_draw (R := Ext) Ext.refl (fun _ _ _ => Ext.trans) (by kernel_rfl) [3] [(0, .p, false), (1, .p, false), (2, .p, false), (3, .l, false), (4, .p, false), (5, .x, false), (6, .p, false), (7, .x, false), (8, .x, true), (9, .p, false)] rfl (by kernel_rfl) (by kernel_rfl) (fun w1 ew1 => ?_)
 have x1 := drewx ew1
 clear ew1
 replace hx := hx.trans x1
 refine dm ?_
 refine dz rfl (df 0 rfl (dL rfl (fun _ hR => ((hl.ext (hx.trans hR)).at rfl)) (dm ?_)))
 refine cP (imgName_w bl bd _ (hl.ext hx)) RX.ext fun w2 x2 => ?_
 replace hx := hx.trans x2
 refine dp (pv_scat rfl rfl (by first | (simp; done) | (simp; omega) | omega)) (li (e := 9) (sz := 1) (zs := [S []]) (pv := [(0, _)]) (cs := [_]) RX.ext (fun b1 w3 e1 x3 m1 => ?_))
 have g1 := hx.ge e1
 replace hx := hx.trans x3
 refine cP (removes_w bd mf room [[115, 45, 105, 109, 103] ++ [126]] _ _ (hd.ext hx) (hm.ext hx) (m1.arr (enc := sEnc) (sz := 1) rfl (by intro x; rfl) rfl (by simp)) (by simp)) RX.all fun w4 x4 => ?_
 replace hx := hx.trans x4
 refine da (de Z2 (W_ret ?_))
 refine ro ?_
 exact ⟨rfl, hx⟩
theorem image_w (bl bd mf : Nat) (room : Int) (w : World) (hl : Blk w bl [ptr bd 0, S [115], I 0, .slice none 0 0, .slice none 0 0, B false] 147) (hd : Blk w bd [I room, .map (some mf), B false, I 0] 122) (hm : EmpM w mf) :
    Calls Tryz.prog 116 [ptr bl 0].toArray w (Pure w (I 0)) := by
 refine cw Tryz.func116 ?_
 have hx := Ext.refl w
 refine ws fun _ Z1 => wr (da (de Z1 (ws fun _ Z2 => ?_)))
 refine W_draw (R := Ext) Ext.refl (fun _ _ _ => Ext.trans) (by kernel_rfl) [3] [(0, .p, false), (1, .p, false), (2, .p, false), (3, .l, false), (4, .p, false), (5, .x, false), (6, .x, true), (7, .p, false), (8, .p, false), (9, .p, false), (10, .p, false), (11, .p, false)] rfl (by kernel_rfl) (by kernel_rfl) (fun w1 ew1 => ?_)
 have x1 := drewx ew1
 clear ew1
 replace hx := hx.trans x1
 refine dm ?_
 refine dz rfl (df 0 rfl (dL rfl (fun _ hR => ((hl.ext (hx.trans hR)).at rfl)) (dm ?_)))
 refine cP (imgName_w bl bd _ (hl.ext hx)) RX.ext fun w2 x2 => ?_
 replace hx := hx.trans x2
 refine cP (load_w bd mf room [115, 45, 105, 109, 103] _ (hd.ext hx) (hm.ext hx) (by decide)) RX.all fun w3 x3 => ?_
 replace hx := hx.trans x3
 refine dm ?_
 refine dx rfl rfl (dx rfl rfl (da (da (de Z2 (ws fun _ Z3 => ws fun _ Z4 => wr (dm ?_))))))
 refine dp (pv_eql rfl rfl) (de Z4 (wi (fun c1 => ?_) fun c1 => ?_))
 ·
  refine ws fun _ Z5 => wr (da (de Z5 (W_ret ?_)))
  refine ro ?_
  exact ⟨rfl, hx⟩
 exact absurd rfl c1
theorem log_w (bl bd mf : Nat) (room : Int) (w : World) (hl : Blk w bl [ptr bd 0, S [115], I 0, .slice none 0 0, .slice none 0 0, B false] 147) (hd : Blk w bd [I room, .map (some mf), B false, I 0] 122) (hm : EmpM w mf) :
    Calls Tryz.prog 117 [ptr bl 0].toArray w (Pure w (I 0)) := by
 refine cw Tryz.func117 ?_
 have hx := Ext.refl w
 refine ws fun _ Z1 => wr (da (de Z1 (ws fun _ Z2 => ws fun _ Z3 => ?_)))
 refine W_draw (R := Ext) Ext.refl (fun _ _ _ => Ext.trans) (by kernel_rfl) [3] [(0, .p, false), (1, .p, false), (2, .p, false), (3, .l, false), (4, .p, false), (5, .x, false), (6, .x, true), (7, .p, false)] rfl (by kernel_rfl) (by kernel_rfl) (fun w1 ew1 => ?_)
 have x1 := drewx ew1
 clear ew1
 replace hx := hx.trans x1
 refine dm ?_
 refine dz rfl (df 0 rfl (dL rfl (fun _ hR => ((hl.ext (hx.trans hR)).at rfl)) (dm ?_)))
 refine cP (logName_w bl bd _ (hl.ext hx)) RX.ext fun w2 x2 => ?_
 replace hx := hx.trans x2
 refine cP (has_w bd mf room [115, 45, 108, 111, 103] _ (hd.ext hx) (hm.ext hx)) RX.all fun w3 x3 => ?_
 replace hx := hx.trans x3
 refine dn (de Z3 ?_)
 refine W_t rfl (ws fun _ Z4 => wr (da (de Z4 (W_ret ?_))))
 refine ro ?_
 exact ⟨rfl, hx⟩
theorem cloneE_w (w : World) :
    Calls Tryz.prog 87 [.slice none 0 0].toArray w (Pure w (.slice none 0 0)) := by
 refine cw Tryz.func87 ?_
 have hx := Ext.refl w
 refine ws fun _ Z1 => wr (da (de Z1 (ws fun _ Z2 => ws fun _ Z3 => wr (dm ?_))))
 refine dp (pv_eqNv (e := 5) (k := 1) (by kernel_rfl) (Arr.nil (enc := encB) (sz := 1) (w := w)).sl rfl rfl) (de Z3 (wc (fun c1 => ?_) fun c1 => ?_))
 ·
  refine ws fun _ Z4 => wr (da (de Z4 (W_ret ?_)))
  refine ro ?_
  exact ⟨rfl, hx⟩
 exact absurd c1 (by decide)
theorem base_w (bl bd : Nat) (w : World) (hl : Blk w bl [ptr bd 0, S [115], I 0, .slice none 0 0, .slice none 0 0, B false] 147) :
    Calls Tryz.prog 60 [ptr bl 0].toArray w (Pure w (.tuple #[I 0, .slice none 0 0])) := by
 refine cw Tryz.func60 ?_
 have hx := Ext.refl w
 refine ws fun _ Z1 => wr (da (da (de Z1 (ws fun _ Z2 => ws fun _ Z3 => wr (dm ?_)))))
 refine dp (pv_eqP (by kernel_rfl) rfl rfl) (de Z3 (wi (fun c1 => ?_) fun c1 => ?_))
 ·
  exact absurd c1 (by simp)
 refine W_skip (Z2 _ _ (ws fun _ Z4 => W_draw (R := Ext) Ext.refl (fun _ _ _ => Ext.trans) (by kernel_rfl) [3, 7] [(0, .p, false), (1, .p, false), (2, .p, false), (3, .l, false), (4, .p, false), (5, .p, false), (6, .p, false), (7, .l, false), (8, .x, false), (9, .p, false), (10, .p, false)] rfl (by kernel_rfl) (by kernel_rfl) (fun w1 ew1 => ?_)))
 have x1 := drewx ew1
 clear ew1
 replace hx := hx.trans x1
 refine dm ?_
 refine dz rfl (df 2 rfl (dL rfl (fun _ hR => ((hl.ext (hx.trans hR)).at rfl)) (dm ?_)))
 refine dz rfl (df 3 rfl (dL rfl (fun _ hR => ((hl.ext (hx.trans hR)).at rfl)) (cP (cloneE_w _) RX.ext fun w2 x2 => ?_)))
 replace hx := hx.trans x2
 refine da (da (de Z4 (W_ret ?_)))
 refine rt ?_
 exact ⟨rfl, hx⟩
theorem last_w (bl bd : Nat) (w : World) (hl : Blk w bl [ptr bd 0, S [115], I 0, .slice none 0 0, .slice none 0 0, B false] 147) :
    Calls Tryz.prog 55 [ptr bl 0].toArray w (Pure w (I 0)) := by
 refine cw Tryz.func55 ?_
 have hx := Ext.refl w
 refine ws fun _ Z1 => wr (da (de Z1 (ws fun _ Z2 => ws fun _ Z3 => wr (dm ?_))))
 refine dp (pv_eqP (by kernel_rfl) rfl rfl) (de Z3 (wi (fun c1 => ?_) fun c1 => ?_))
 ·
  exact absurd c1 (by simp)
 refine W_skip (Z2 _ _ (ws fun _ Z4 => W_draw (R := Ext) Ext.refl (fun _ _ _ => Ext.trans) (by kernel_rfl) [3, 7] [(0, .p, false), (1, .p, false), (2, .p, false), (3, .l, false), (4, .p, false), (5, .p, false), (6, .p, false), (7, .l, false), (8, .p, false), (9, .p, false), (10, .p, false)] rfl (by kernel_rfl) (by kernel_rfl) (fun w1 ew1 => ?_)))
 have x1 := drewx ew1
 clear ew1
 replace hx := hx.trans x1
 refine dm ?_
 refine dz rfl (df 2 rfl (dL rfl (fun _ hR => ((hl.ext (hx.trans hR)).at rfl)) (dm ?_)))
 refine dz rfl (df 4 rfl (dL rfl (fun _ hR => ((hl.ext (hx.trans hR)).at rfl)) (dv 82 1 (Arr.nil (enc := sEnc) (sz := 3) (w := w)).sl (dp (pv_add rfl rfl (by simp [inI64])) (da (de Z4 (W_ret ?_)))))))
 refine ro ?_
 exact ⟨rfl, hx⟩
theorem diskNew_w (room : Int) (w : World) (h0 : 0 ≤ room) (h1 : room ≤ 1073741824) :
    Calls Tryz.prog 33 [I room].toArray w (Gives w (fun u w' => ∃ bd mf, u = .tuple #[ptr bd 0, I 0] ∧ Blk w' bd [I room, .map (some mf), B false, I 0] 122 ∧ EmpM w' mf ∧ w.heap.size ≤ bd ∧ w.heap.size ≤ mf)) := by
 refine cw Tryz.func33 ?_
 have hx := Ext.refl w
 refine ws fun _ Z1 => wr (da (da (de Z1 (ws fun _ Z2 => ws fun _ Z3 => wr (dm ?_)))))
 refine dp (pv_lss rfl rfl) (dm ?_)
 refine D_splitP 6 rfl (fun c1 => ?_) (fun c1 => ?_)
 ·
  omega
 refine dm ?_
 refine dp (pv_gtr rfl rfl) (dk' (de Z3 ?_))
 refine wi (fun c2 => ?_) fun c2 => ?_
 ·
  omega
 refine W_skip (Z2 _ _ (ws fun _ Z4 => wr (dm ?_)))
 refine D_makeMapE rfl RX.all (fun b1 w1 e1 x1 mp1 => ?_)
 have g1 := hx.ge e1
 replace hx := hx.trans x1
 refine db (zs := [.int .i64 0, .map none, B false, .int .i64 0]) (pl := [(0, 1), (1, 1), (2, 1), (3, 1)]) (pv := [(0, _), (1, _)]) (cs := [_, _, B false, .int .i64 0]) ?_
 refine D_box rfl rfl rfl RX.all (fun b2 w2 e2 x2 m2 => ?_)
 have g2 := hx.ge e2
 have n2_mp1 := mp1.lt
 replace mp1 := mp1.ext x2
 replace hx := hx.trans x2
 refine da (da (de Z4 (W_ret ?_)))
 refine rt ?_
 exact ⟨_, rfl, hx, b2, b1, rfl, m2, mp1, g2, g1⟩
theorem ledgerOpen_w (bd mf : Nat) (room : Int) (w : World) (hd : Blk w bd [I room, .map (some mf), B false, I 0] 122) (hm : EmpM w mf) :
    Calls Tryz.prog 59 [ptr bd 0, S [115]].toArray w (Gives w (fun u w' => ∃ bl, u = .tuple #[ptr bl 0, I 0] ∧ Blk w' bl [ptr bd 0, S [115], I 0, .slice none 0 0, .slice none 0 0, B false] 147 ∧ w.heap.size ≤ bl)) := by
 refine cw Tryz.func59 ?_
 have hx := Ext.refl w
 refine ws fun _ Z1 => wr (da (da (de Z1 (ws fun _ Z2 => ws fun _ Z3 => wr (dm ?_)))))
 refine dp (pv_eqP (by kernel_rfl) rfl rfl) (dm ?_)
 refine D_splitP 12 rfl (fun c1 => ?_) (fun c1 => ?_)
 ·
  exact absurd c1 (by simp)
 refine dm ?_
 refine dt rfl (dp (pv_lss rfl rfl) (dk' ?_))
 refine dm ?_
 refine D_splitP 17 rfl (fun c2 => ?_) (fun c2 => ?_)
 ·
  exact absurd c2 (by decide)
 refine dm ?_
 refine dt rfl (dp (pv_gtr rfl rfl) (dk' (de Z3 ?_)))
 refine wi (fun c3 => ?_) fun c3 => ?_
 ·
  exact absurd c3 (by decide)
 refine W_skip (Z2 _ _ (ws fun _ Z4 => wr (dm (dm ?_))))
 refine db (zs := [.pointer none, S [], .int .i64 0, .slice none 0 0, .slice none 0 0, B false]) (pl := [(0, 1), (1, 1), (2, 1), (3, 1), (4, 1), (5, 1)]) (pv := [(0, _), (1, _)]) (cs := [_, _, .int .i64 0, .slice none 0 0, .slice none 0 0, B false]) ?_
 refine D_box rfl rfl rfl RX.all (fun b1 w1 e1 x1 m1 => ?_)
 have g1 := hx.ge e1
 replace hx := hx.trans x1
 refine da (de Z4 (ws fun _ Z5 => ws fun _ Z6 => wr (dm ?_)))
 refine dp (pv_makeFuncB rfl) (dm ?_)
 refine dp (pv_makeFuncB rfl) (dm ?_)
 refine dp (pv_makeFuncB rfl) (li (e := 81) (sz := 1) (zs := [.nilFunc]) (pv := [(0, _), (1, _), (2, _)]) (cs := [_, _, _]) RX.all (fun b2 w2 e2 x2 m2 => ?_))
 have g2 := hx.ge e2
 have n2_1 := m1.ltb e2
 replace m1 := m1.ext x2
 replace hx := hx.trans x2
 refine dv 81 1 (m2.arr (enc := fun g : Value => [g]) (sz := 1) (l := [fnB 115 [ptr b1 0], fnB 116 [ptr b1 0], fnB 117 [ptr b1 0]]) rfl (by intro x; rfl) rfl (by simp)).sl (dm (de Z6 (W_block ?_)))
 refine W_loop (G := Nat) (fun k => [(6, ptr b1 0), (32, .slice (some ⟨b2, 0, none⟩) 3 3), (33, I 3), (34, I ↑k)]) (fun k w' => Ext w w' ∧ Blk w' b1 [ptr bd 0, S [115], I 0, .slice none 0 0, .slice none 0 0, B false] 147 ∧ Blk w' b2 [fnB 115 [ptr b1 0], fnB 116 [ptr b1 0], fnB 117 [ptr b1 0]] 81 ∧ k ≤ 3) (fun k => 3 - k) 0 ?_ ?_ ?_
 · exact ⟨rfl, rfl, rfl, rfl, trivial⟩
 · exact ⟨hx, m1, m2, Nat.zero_le _⟩
 intro X3 g3 w3 hF3
 revert hF3; revert g3; intro k hF3
 clear hx m1 m2
 obtain ⟨hx, m1, m2, hk1⟩ := hF3
 refine ws fun _ Z7 => wr (dp (pv_lss rfl rfl) (de Z7 (ws fun _ Z8 => wi (fun c4 => ?_) fun c4 => ?_)))
 ·
  obtain ⟨g, hk⟩ : ∃ g, [fnB 115 [ptr b1 0], fnB 116 [ptr b1 0], fnB 117 [ptr b1 0]][k]? = some g := ⟨_, List.getElem?_eq_getElem (by simp; omega)⟩
  obtain ⟨f, rfl, hcb, hcall⟩ : ∃ f, g = fnB f [ptr b1 0] ∧ callB Tryz.prog f = true ∧ ∀ w1, Blk w1 b1 [ptr bd 0, S [115], I 0, .slice none 0 0, .slice none 0 0, B false] 147 → Blk w1 bd [I room, .map (some mf), B false, I 0] 122 → EmpM w1 mf → Calls Tryz.prog f ([ptr b1 0] ++ []).toArray w1 (Pure w1 (I 0)) := by
    match k, hk with
    | 0, hk => simp only [List.getElem?_cons_zero, List.getElem?_cons_succ, Option.some.injEq] at hk; exact ⟨_, hk.symm, by kernel_rfl, fun w1 h1 h2 h3 => clears_w b1 bd mf room w1 h1 h2 h3⟩
    | 1, hk => simp only [List.getElem?_cons_zero, List.getElem?_cons_succ, Option.some.injEq] at hk; exact ⟨_, hk.symm, by kernel_rfl, fun w1 h1 h2 h3 => image_w b1 bd mf room w1 h1 h2 h3⟩
    | 2, hk => simp only [List.getElem?_cons_zero, List.getElem?_cons_succ, Option.some.injEq] at hk; exact ⟨_, hk.symm, by kernel_rfl, fun w1 h1 h2 h3 => log_w b1 bd mf room w1 h1 h2 h3⟩
    | k + 3, hk => simp at hk
  refine W_skip (Z8 _ _ (ws fun _ Z9 => W_block (ws fun _ Z10 => wr (di 81 1 (m2.arr (enc := fun g : Value => [g]) (sz := 1) (l := [fnB 115 [ptr b1 0], fnB 116 [ptr b1 0], fnB 117 [ptr b1 0]]) rfl (by intro x; rfl) rfl (by simp)).sl rfl ((m2.arr (enc := fun g : Value => [g]) (sz := 1) (l := [fnB 115 [ptr b1 0], fnB 116 [ptr b1 0], fnB 117 [ptr b1 0]]) rfl (by intro x; rfl) rfl (by simp)).lt hk) (dl rfl (((m2.arr (enc := fun g : Value => [g]) (sz := 1) (l := [fnB 115 [ptr b1 0], fnB 116 [ptr b1 0], fnB 117 [ptr b1 0]]) rfl (by intro x; rfl) rfl (by simp)).row hk).at0 rfl) (da (de Z10 ?_)))))))
  refine ws fun _ Z11 => wr (dm ?_)
  refine D_callBP (vs := []) rfl rfl hcb (hcall _ m1 (hd.ext hx) (hm.ext hx)) rfl RX.all (fun w4 x4 => ?_)
  replace m1 := m1.ext x4
  replace m2 := m2.ext x4
  replace hx := hx.trans x4
  refine da (de Z11 (ws fun _ Z12 => wr (dm ?_)))
  refine dp (pv_neq rfl rfl) (de Z12 (wi (fun c5 => ?_) fun c5 => ?_))
  ·
   exact absurd rfl c5
  refine W_skip (Z9 _ _ (wr (pa rfl rfl (dm (D_end (?_))))))
  refine ⟨k + 1, ⟨rfl, rfl, rfl, rfl, trivial⟩, ⟨hx, m1, m2, by omega⟩, by omega⟩
 refine W_exit (Z5 _ _ (ws fun _ Z13 => wr (dm (da (da (de Z13 (W_ret ?_)))))))
 refine rt ?_
 exact ⟨_, rfl, hx, b1, rfl, m1, g1⟩
structure MemE (w : World) (bm ba bn : Nat) : Prop where
  m : Blk w bm [.slice (some ⟨ba, 0, none⟩) 1 1, .slice none 0 0, I 0, I 0] 155
  a : Blk w ba [S [], S [], B false, I 0, .slice (some ⟨bn, 0, none⟩) 12 12] 172
  n : Blk w bn (List.replicate 12 (I 0)) 3
theorem MemE.ext {w w' : World} {bm ba bn : Nat} (h : MemE w bm ba bn) (x : Ext w w') : MemE w' bm ba bn := ⟨h.m.ext x, h.a.ext x, h.n.ext x⟩
structure StE (w : World) (bs bd bl mo bm ba bn mf : Nat) (room : Int) : Prop where
  s : Blk w bs [ptr bd 0, ptr bl 0, I 1, .slice none 0 0, .map (some mo), ptr bm 0, B false] 90
  l : Blk w bl [ptr bd 0, S [115], I 0, .slice none 0 0, .slice none 0 0, B false] 147
  d : Blk w bd [I room, .map (some mf), B false, I 0] 122
  f : EmpM w mf
  o : EmpM w mo
  m : MemE w bm ba bn
theorem clone32_w (w : World) :
    Calls Tryz.prog 102 [.slice none 0 0].toArray w (Pure w (.slice none 0 0)) := by
 refine cw Tryz.func102 ?_
 have hx := Ext.refl w
 refine ws fun _ Z1 => wr (da (de Z1 (ws fun _ Z2 => ws fun _ Z3 => wr (dm ?_))))
 refine dp (pv_eqNv (e := 174) (k := 1) (by kernel_rfl) (Arr.nil (enc := encB) (sz := 1) (w := w)).sl rfl rfl) (de Z3 (wc (fun c1 => ?_) fun c1 => ?_))
 ·
  refine ws fun _ Z4 => wr (da (de Z4 (W_ret ?_)))
  refine ro ?_
  exact ⟨rfl, hx⟩
 exact absurd c1 (by decide)
theorem memNew_w (w : World) :
    Calls Tryz.prog 47 [.slice none 0 0].toArray w (Gives w (fun u w' => ∃ bm ba bn, u = ptr bm 0 ∧ MemE w' bm ba bn ∧ w.heap.size ≤ bm ∧ w.heap.size ≤ ba ∧ w.heap.size ≤ bn)) := by
 refine cw Tryz.func47 ?_
 have hx := Ext.refl w
 refine ws fun _ Z1 => wr (da (de Z1 (ws fun _ Z2 => ?_)))
 refine W_drawT (R := Ext) Ext.refl (fun _ _ _ => Ext.trans) (by kernel_rfl) [] (.one 3 .p false (.fork (.alt 0 true (.one 1 .p false (.fork (.alt 2 true (.one 4 .x true (.one 5 .p false (.one 6 .x true (.one 7 .p false .nil)))) (.alt 4 true (.one 2 .x true (.one 5 .p false (.one 6 .x true (.one 7 .p false .nil)))) .stop)))) (.alt 4 true (.one 0 .x true (.one 1 .p false (.one 2 .x true (.one 5 .p false (.one 6 .x true (.one 7 .p false .nil)))))) .stop)))) (by kernel_rfl) (by kernel_rfl) (fun w1 ew1 => ?_)
 have x1 := drewx ew1
 clear ew1
 replace hx := hx.trans x1
 refine T_one (dm (D_end ?_))
 refine T_fork ?_
 refine T_alt ?_ ?_
 ·
  refine D_make (e := 3) (sz := 1) (by' := 8) (zs := [.int .i64 0]) rfl (by kernel_rfl) (by kernel_rfl) (by kernel_rfl) rfl rfl (by decide) (by decide) RX.all (fun b1 w2 e1 x2 m1 => ?_)
  have g1 := hx.ge e1
  replace hx := hx.trans x2
  refine D_end (T_one (db (zs := [S [], S [], B false, .int .i64 0, .slice none 0 0]) (pl := [(0, 4), (4, 1)]) (pv := [(1, _)]) (cs := [S [], S [], B false, .int .i64 0, _]) (D_end ?_)))
  refine T_fork ?_
  refine T_alt ?_ ?_
  ·
   refine li (e := 172) (sz := 5) (zs := [S [], S [], B false, .int .i64 0, .slice none 0 0]) (pv := [(0, .agg ⟨[_, _, _, _, _]⟩)]) (cs := [_, _, _, _, _]) RX.all (fun b2 w3 e2 x3 m2 => ?_)
   have g2 := hx.ge e2
   have n2_1 := m1.ltb e2
   replace m1 := m1.ext x3
   replace hx := hx.trans x3
   refine D_end (T_one (cP (clone32_w _) RX.all fun w4 x4 => ?_))
   replace m1 := m1.ext x4
   replace m2 := m2.ext x4
   replace hx := hx.trans x4
   refine D_end (T_one (db (zs := [.slice none 0 0, .slice none 0 0, .int .i64 0, .int .i64 0]) (pl := [(0, 1), (1, 1), (2, 1), (3, 1)]) (pv := [(0, _), (1, _)]) (cs := [_, _, .int .i64 0, .int .i64 0]) (D_end ?_)))
   refine T_one (D_box rfl rfl rfl RX.all (fun b3 w5 e3 x5 m3 => ?_))
   have g3 := hx.ge e3
   have n3_1 := m1.ltb e3
   have n3_2 := m2.ltb e3
   replace m1 := m1.ext x5
   replace m2 := m2.ext x5
   replace hx := hx.trans x5
   refine D_end (T_one (da (D_end ?_)))
   refine T_nil (Z2 _ _ (W_ret (ro ?_)))
   exact ⟨_, rfl, hx, b3, b2, b1, rfl, ⟨m3, m2, m1⟩, g3, g2, g1⟩
  refine T_alt ?_ ?_
  ·
   refine cP (clone32_w _) RX.all fun w6 x6 => ?_
   replace m1 := m1.ext x6
   replace hx := hx.trans x6
   refine D_end (T_one (li (e := 172) (sz := 5) (zs := [S [], S [], B false, .int .i64 0, .slice none 0 0]) (pv := [(0, .agg ⟨[_, _, _, _, _]⟩)]) (cs := [_, _, _, _, _]) RX.all (fun b4 w7 e4 x7 m4 => ?_)))
   have g4 := hx.ge e4
   have n4_1 := m1.ltb e4
   replace m1 := m1.ext x7
   replace hx := hx.trans x7
   refine D_end (T_one (db (zs := [.slice none 0 0, .slice none 0 0, .int .i64 0, .int .i64 0]) (pl := [(0, 1), (1, 1), (2, 1), (3, 1)]) (pv := [(0, _), (1, _)]) (cs := [_, _, .int .i64 0, .int .i64 0]) (D_end ?_)))
   refine T_one (D_box rfl rfl rfl RX.all (fun b5 w8 e5 x8 m5 => ?_))
   have g5 := hx.ge e5
   have n5_1 := m1.ltb e5
   have n5_4 := m4.ltb e5
   replace m1 := m1.ext x8
   replace m4 := m4.ext x8
   replace hx := hx.trans x8
   refine D_end (T_one (da (D_end ?_)))
   refine T_nil (Z2 _ _ (W_ret (ro ?_)))
   exact ⟨_, rfl, hx, b5, b4, b1, rfl, ⟨m5, m4, m1⟩, g5, g4, g1⟩
  exact T_stop
 refine T_alt ?_ ?_
 ·
  refine cP (clone32_w _) RX.all fun w9 x9 => ?_
  replace hx := hx.trans x9
  refine D_end (T_one (D_make (e := 3) (sz := 1) (by' := 8) (zs := [.int .i64 0]) rfl (by kernel_rfl) (by kernel_rfl) (by kernel_rfl) rfl rfl (by decide) (by decide) RX.all (fun b6 w10 e6 x10 m6 => ?_)))
  have g6 := hx.ge e6
  replace hx := hx.trans x10
  refine D_end (T_one (db (zs := [S [], S [], B false, .int .i64 0, .slice none 0 0]) (pl := [(0, 4), (4, 1)]) (pv := [(1, _)]) (cs := [S [], S [], B false, .int .i64 0, _]) (D_end ?_)))
  refine T_one (li (e := 172) (sz := 5) (zs := [S [], S [], B false, .int .i64 0, .slice none 0 0]) (pv := [(0, .agg ⟨[_, _, _, _, _]⟩)]) (cs := [_, _, _, _, _]) RX.all (fun b7 w11 e7 x11 m7 => ?_))
  have g7 := hx.ge e7
  have n7_6 := m6.ltb e7
  replace m6 := m6.ext x11
  replace hx := hx.trans x11
  refine D_end (T_one (db (zs := [.slice none 0 0, .slice none 0 0, .int .i64 0, .int .i64 0]) (pl := [(0, 1), (1, 1), (2, 1), (3, 1)]) (pv := [(0, _), (1, _)]) (cs := [_, _, .int .i64 0, .int .i64 0]) (D_end ?_)))
  refine T_one (D_box rfl rfl rfl RX.all (fun b8 w12 e8 x12 m8 => ?_))
  have g8 := hx.ge e8
  have n8_6 := m6.ltb e8
  have n8_7 := m7.ltb e8
  replace m6 := m6.ext x12
  replace m7 := m7.ext x12
  replace hx := hx.trans x12
  refine D_end (T_one (da (D_end ?_)))
  refine T_nil (Z2 _ _ (W_ret (ro ?_)))
  exact ⟨_, rfl, hx, b8, b7, b6, rfl, ⟨m8, m7, m6⟩, g8, g7, g6⟩
 exact T_stop
theorem replays_w (bs bd bl mo bm : Nat) (w : World) (hb : Blk w bs [ptr bd 0, ptr bl 0, I 1, .slice none 0 0, .map (some mo), ptr bm 0, B false] 90) (hl : Blk w bl [ptr bd 0, S [115], I 0, .slice none 0 0, .slice none 0 0, B false] 147) :
    Calls Tryz.prog 63 [ptr bs 0].toArray w (Pure w (I 0)) := by
 refine cw Tryz.func63 ?_
 have hx := Ext.refl w
 refine ws fun _ Z1 => wr (da (de Z1 (ws fun _ Z2 => wr (dm ?_))))
 refine dz rfl (df 1 rfl (dl rfl ((hb.ext hx).at rfl) (cP (base_w bl bd _ (hl.ext hx)) RX.all fun w1 x1 => ?_)))
 replace hx := hx.trans x1
 refine dm ?_
 refine dx rfl rfl (dx rfl rfl (da (da (de Z2 (ws fun _ Z3 => ws fun _ Z4 => wr (dm ?_))))))
 refine pa rfl rfl (da (de Z4 (W_block ?_)))
 refine W_loop (G := Unit) (fun uu => [(0, ptr bs 0), (5, I 1)]) (fun uu w' => Ext w w' ∧ True) (fun uu => 0) () ?_ ?_ ?_
 · exact ⟨rfl, rfl, trivial⟩
 · exact ⟨hx, trivial⟩
 intro X2 g2 w2 hF2
 revert hF2; revert g2; intro uu hF2
 clear hx
 obtain ⟨hx, htr⟩ := hF2
 refine ws fun _ Z5 => ws fun _ Z6 => wr (dm (dm ?_))
 refine dz rfl (df 1 rfl (dl rfl ((hb.ext hx).at rfl) (cP (last_w bl bd _ (hl.ext hx)) RX.all fun w3 x3 => ?_)))
 replace hx := hx.trans x3
 refine dp (pv_leq rfl rfl) (de Z6 (wi (fun c1 => ?_) fun c1 => ?_))
 ·
  exact absurd c1 (by decide)
 refine W_exit (Z3 _ _ (ws fun _ Z7 => wr (da (de Z7 (W_ret ?_)))))
 refine ro ?_
 exact ⟨rfl, hx⟩
theorem clear_w (bd mf : Nat) (room : Int) (s : Str) (w : World) (hd : Blk w bd [I room, .map (some mf), B false, I 0] 122) (hm : EmpM w mf) :
    Calls Tryz.prog 64 [ptr bd 0, S s, .slice none 0 0].toArray w (Pure w (I 0)) := by
 refine cw Tryz.func64 ?_
 have hx := Ext.refl w
 refine ws fun _ Z1 => wr (da (de Z1 (ws fun _ Z2 => ws fun _ Z3 => wr (dm ?_))))
 refine dp (pv_eqP (by kernel_rfl) rfl rfl) (de Z3 (wi (fun c1 => ?_) fun c1 => ?_))
 ·
  exact absurd c1 (by simp)
 refine W_skip (Z2 _ _ (ws fun _ Z4 => ws fun _ Z5 => wr (dm ?_)))
 refine cP (list_w bd mf room _ (hd.ext hx) (hm.ext hx)) RX.all fun w1 x1 => ?_
 replace hx := hx.trans x1
 refine dv 9 1 (Arr.nil (enc := sEnc) (sz := 1) (w := w)).sl (dm (de Z5 (W_block ?_)))
 refine W_loop (G := Unit) (fun uu => [(0, ptr bd 0), (1, S s), (2, .slice none 0 0), (13, .slice none 0 0), (14, I 0), (15, I 0)]) (fun uu w' => Ext w w' ∧ True) (fun uu => 0) () ?_ ?_ ?_
 · exact ⟨rfl, rfl, rfl, rfl, rfl, rfl, trivial⟩
 · exact ⟨hx, trivial⟩
 intro X2 g2 w2 hF2
 revert hF2; revert g2; intro uu hF2
 clear hx
 obtain ⟨hx, htr⟩ := hF2
 refine ws fun _ Z6 => wr (dp (pv_lss rfl rfl) (de Z6 (ws fun _ Z7 => wi (fun c2 => ?_) fun c2 => ?_)))
 ·
  exact absurd c2 (by decide)
 refine W_exit (Z4 _ _ (ws fun _ Z8 => wr (da (de Z8 (W_ret ?_)))))
 refine ro ?_
 exact ⟨rfl, hx⟩
theorem lsmOpen_w (bd mf : Nat) (room : Int) (w : World) (hd : Blk w bd [I room, .map (some mf), B false, I 0] 122) (hm : EmpM w mf) :
    Calls Tryz.prog 24 [ptr bd 0].toArray w (Gives w (fun u w' => ∃ bs bl mo bm ba bn, u = .tuple #[ptr bs 0, I 0] ∧ StE w' bs bd bl mo bm ba bn mf room ∧ w.heap.size ≤ bs ∧ w.heap.size ≤ bl ∧ w.heap.size ≤ mo ∧ w.heap.size ≤ bm ∧ w.heap.size ≤ ba ∧ w.heap.size ≤ bn)) := by
 refine cw Tryz.func24 ?_
 have hx := Ext.refl w
 refine ws fun _ Z1 => wr (da (da (de Z1 (ws fun _ Z2 => ws fun _ Z3 => wr (dm ?_)))))
 refine dp (pv_eqP (by kernel_rfl) rfl rfl) (de Z3 (wi (fun c1 => ?_) fun c1 => ?_))
 ·
  exact absurd c1 (by simp)
 refine W_skip (Z2 _ _ (ws fun _ Z4 => wr (dm ?_)))
 have hsl9 := hx.size
 refine cG (ledgerOpen_w bd mf room _ (hd.ext hx) (hm.ext hx)) RX.all fun u1 w1 x1 hf1 => ?_
 have hsz1 := hx.size
 replace hx := hx.trans x1
 obtain ⟨bl, rfl, hl, hlb⟩ := hf1
 refine dm ?_
 refine dx rfl rfl (dx rfl rfl (da (da (de Z4 (ws fun _ Z5 => ws fun _ Z6 => wr (dm ?_))))))
 refine dp (pv_neq rfl rfl) (de Z6 (wi (fun c2 => ?_) fun c2 => ?_))
 ·
  exact absurd rfl c2
 refine W_skip (Z5 _ _ (ws fun _ Z7 => wr (dm (dm ?_))))
 refine db (zs := [.int .i64 0, .slice none 0 0]) (pl := [(0, 1), (1, 1)]) (pv := [(0, _)]) (cs := [_, .slice none 0 0]) ?_
 refine D_makeMapE rfl RX.all (fun b1 w2 e1 x2 mp1 => ?_)
 have g1 := hx.ge e1
 have a1_hl := hl.lt
 replace hl := hl.ext x2
 replace hx := hx.trans x2
 have hsm9 := hx.size
 refine cG (memNew_w _) RX.all fun u3 w3 x3 hf3 => ?_
 have hsz3 := hx.size
 replace hl := hl.ext x3
 replace mp1 := mp1.ext x3
 replace hx := hx.trans x3
 obtain ⟨bm, ba, bn, rfl, hM, hb1, hb2, hb3⟩ := hf3
 refine db (zs := [.pointer none, .pointer none, .int .i64 0, .slice none 0 0, .map none, .pointer none, B false]) (pl := [(0, 1), (1, 1), (2, 2), (4, 1), (5, 1), (6, 1)]) (pv := [(0, _), (1, _), (2, .agg ⟨[_, _]⟩), (3, _), (4, _)]) (cs := [_, _, _, _, _, _, B false]) ?_
 refine D_box rfl rfl rfl RX.all (fun b2 w4 e2 x4 m2 => ?_)
 have g2 := hx.ge e2
 have n2_mp1 := mp1.lt
 have a2_hl := hl.lt
 replace hl := hl.ext x4
 replace mp1 := mp1.ext x4
 replace hM := hM.ext x4
 replace hx := hx.trans x4
 refine da (de Z7 (ws fun _ Z8 => ws fun _ Z9 => wr (dm ?_)))
 refine cP (base_w bl bd _ hl) RX.all fun w5 x5 => ?_
 replace hl := hl.ext x5
 replace mp1 := mp1.ext x5
 replace hM := hM.ext x5
 replace m2 := m2.ext x5
 replace hx := hx.trans x5
 refine dm ?_
 refine dx rfl rfl (dx rfl rfl (da (da (de Z9 (ws fun _ Z10 => wr (dm ?_))))))
 refine dp (pv_gtr rfl rfl) (dm ?_)
 refine D_splitP 39 rfl (fun c3 => ?_) (fun c3 => ?_)
 ·
  exact absurd c3 (by decide)
 refine dm ?_
 refine dv 5 1 (Arr.nil (enc := encB) (sz := 1) (w := w)).sl (dp (pv_gtr rfl rfl) (dk' (de Z10 ?_)))
 refine wi (fun c4 => ?_) fun c4 => ?_
 ·
  exact absurd c4 (by decide)
 refine W_skip (Z8 _ _ (ws fun _ Z11 => wr (da (de Z11 (ws fun _ Z12 => ws fun _ Z13 => wr (dm ?_))))))
 refine dz rfl (df 2 rfl (df 1 rfl (dl rfl (m2.at rfl) (dv 62 5 (Arr.nil (enc := fun v : Value => [v]) (sz := 5) (w := w)).sl (dm (de Z13 (W_block ?_)))))))
 refine W_loop (G := Unit) (fun uu => [(0, ptr bd 0), (6, ptr b2 0), (9, .slice none 0 0), (59, .slice none 0 0), (60, I 0), (61, I 0)]) (fun uu w' => Ext w w' ∧ Blk w' bl [ptr bd 0, S [115], I 0, .slice none 0 0, .slice none 0 0, B false] 147 ∧ EmpM w' b1 ∧ MemE w' bm ba bn ∧ Blk w' b2 [ptr bd 0, ptr bl 0, I 1, .slice none 0 0, .map (some b1), ptr bm 0, B false] 90 ∧ True) (fun uu => 0) () ?_ ?_ ?_
 · exact ⟨rfl, rfl, rfl, rfl, rfl, rfl, trivial⟩
 · exact ⟨hx, hl, mp1, hM, m2, trivial⟩
 intro X6 g6 w6 hF6
 revert hF6; revert g6; intro uu hF6
 clear hx hl mp1 hM m2
 obtain ⟨hx, hl, mp1, hM, m2, htr⟩ := hF6
 refine ws fun _ Z14 => wr (dp (pv_lss rfl rfl) (de Z14 (ws fun _ Z15 => wi (fun c5 => ?_) fun c5 => ?_)))
 ·
  exact absurd c5 (by decide)
 refine W_exit (Z12 _ _ (ws fun _ Z16 => ws fun _ Z17 => wr (dm ?_)))
 refine cP (replays_w b2 bd bl b1 bm _ m2 hl) RX.all fun w7 x7 => ?_
 replace hl := hl.ext x7
 replace mp1 := mp1.ext x7
 replace hM := hM.ext x7
 replace m2 := m2.ext x7
 replace hx := hx.trans x7
 refine da (de Z17 (ws fun _ Z18 => wr (dm ?_)))
 refine dp (pv_neq rfl rfl) (de Z18 (wi (fun c6 => ?_) fun c6 => ?_))
 ·
  exact absurd rfl c6
 refine W_skip (Z16 _ _ (ws fun _ Z19 => ws fun _ Z20 => wr (dm (dm ?_))))
 refine cP (clear_w bd mf room [116] _ (hd.ext hx) (hm.ext hx)) RX.all fun w8 x8 => ?_
 replace hl := hl.ext x8
 replace mp1 := mp1.ext x8
 replace hM := hM.ext x8
 replace m2 := m2.ext x8
 replace hx := hx.trans x8
 refine da (de Z20 (ws fun _ Z21 => wr (dm ?_)))
 refine dp (pv_neq rfl rfl) (de Z21 (wi (fun c7 => ?_) fun c7 => ?_))
 ·
  exact absurd rfl c7
 refine W_skip (Z19 _ _ (ws fun _ Z22 => wr (dm (da (da (de Z22 (W_ret ?_)))))))
 refine rt ?_
 exact ⟨_, rfl, hx, b2, bl, b1, bm, ba, bn, rfl, ⟨m2, hl, hd.ext hx, hm.ext hx, mp1, hM⟩, g2, Nat.le_trans hsl9 hlb, g1, Nat.le_trans hsm9 hb1, Nat.le_trans hsm9 hb2, Nat.le_trans hsm9 hb3⟩
end Go.Proofs.YtiooodckiddpmaaGreatDoor.Em
namespace Go.Proofs.YtiooodckiddpmaaGreatDoor
open Go.Vc Go.Sp
attribute [local irreducible] W XW Dw DwT
theorem emp_mapL {P : Program} {κ α : Type} [DecidableEq κ] {k : TypeId} {kv : κ → Value} {av : α → Value} {w : World} {b : Nat} (h : EmpM w b) : MapL P k kv av w b ([] : List (κ × α)) :=
  ⟨by simp, .map [], ⟨#[], 0, h, ⟨by simp, MapKept.stamped_empty 0, by simp⟩, Nat.le_refl _, rfl⟩, rfl, fun x l hl z => rfl⟩
theorem mrep_0 {w : World} {bm ba bn : Nat} (h : Em.MemE w bm ba bn) : MRep (fun k => k = bm ∨ k = ba ∨ k = bn) w bm [] := by
  have m3 : Blk w bn (mapJ (List.replicate 12 0)) 3 := by
    have := h.n
    rwa [show List.replicate 12 (I 0) = mapJ (List.replicate 12 0) from rfl] at this
  have hM : MemAt w bm (.slice (some ⟨ba, 0, none⟩) 1 1) (.slice none 0 0) [⟨Cell.zero, bn, 12⟩] (fun _ => List.replicate 12 0) [] 0 0 := by
    refine ⟨h.m, h.a.own (enc := Tow.enc) (l := [⟨Cell.zero, bn, 12⟩]) (Nat.zero_le _) rfl (by intro x; rfl) rfl (by simp), Vc.Own.nil, fun i t ht => ?_, fun i j s t hs ht _ => ?_⟩
    · cases i with
      | zero => simp at ht; subst ht; exact ⟨m3, by simp⟩
      | succ i => simp at ht
    · cases i with
      | zero => cases j with
        | zero => rfl
        | succ j => simp at ht
      | succ i => simp at hs
  refine ⟨_, _, _, _, _, [], hM, ⟨rfl, fun i hi => (by cases hi), List.nodup_nil, rfl, rfl, fun i hi => ?_, ⟨fun row hr => ?_, trivial⟩⟩, List.Pairwise.nil, fun k hk => ?_, fun k hk => ?_⟩
  · have : i = 0 := by simp at hi; exact hi
    subst this; exact ⟨(show 1 ≤ 12 by decide), (show 12 ≤ 12 by decide)⟩
  · have hr' : row < 12 := hr
    rw [List.getElem?_replicate_of_lt hr']; rfl
  · rcases hk with rfl | hk | hk | ⟨t, ht, rfl⟩
    · exact .inl rfl
    · have : ba = k := Option.some.inj hk
      exact .inr (.inl this.symm)
    · cases hk
    · rw [List.mem_singleton.1 ht]; exact .inr (.inr rfl)
  · rcases hk with rfl | rfl | rfl
    · exact h.m.lt
    · exact h.a.lt
    · exact h.n.lt
def dsk0 (room : Int) : Dsk := ⟨room, false, 0, []⟩
def led0 : Led := ⟨0, [], [], false⟩
def kap0 (bs bd bl mo bm ba bn mf : Nat) : Nat → Nat := fun k => if k = bs then 5 else if k = mo then 2 else if k = bm ∨ k = ba ∨ k = bn then 3 else if k = bl ∨ k = bd ∨ k = mf then 1 else 0
theorem emp_ne {w : World} {b b' : Nat} {cs : List Value} {T : TypeId} (h : EmpM w b) (hb : Blk w b' cs T) : b' ≠ b := fun e => by
  subst e
  have h1 : w.heap[b']? = some (.cells ⟨cs⟩ T (0, 0)) := hb
  rw [h] at h1; cases h1
theorem stE_0 {w : World} {bs bd bl mo bm ba bn mf : Nat} {room : Int} (h : Em.StE w bs bd bl mo bm ba bn mf room) (hne : mo ≠ mf) (hw : (dsk0 room).Wf) : StE (kap0 bs bd bl mo bm ba bn mf) bs bd bl mo bm (.slice none 0 0) led0 (dsk0 room) ⟨1, []⟩ [] [] false w := by
  have n1 := h.s.ne h.l rfl
  have n2 := h.s.ne h.d rfl
  have n3 := h.s.ne h.m.m rfl
  have n4 := h.s.ne h.m.a rfl
  have n5 := h.s.ne h.m.n rfl
  have n6 := emp_ne h.o h.s
  have n7 := emp_ne h.f h.s
  have p1 := emp_ne h.o h.l
  have p2 := emp_ne h.o h.d
  have p3 := emp_ne h.o h.m.m
  have p4 := emp_ne h.o h.m.a
  have p5 := emp_ne h.o h.m.n
  have q1 := h.m.m.ne h.l rfl
  have q2 := h.m.m.ne h.d rfl
  have q3 := emp_ne h.f h.m.m
  have q4 := h.m.a.ne h.l rfl
  have q5 := h.m.a.ne h.d rfl
  have q6 := emp_ne h.f h.m.a
  have q7 := h.m.n.ne h.l rfl
  have q8 := h.m.n.ne h.d rfl
  have q9 := emp_ne h.f h.m.n
  have r1 := emp_ne h.f h.l
  have r2 := h.l.ne h.d rfl
  have kl : kap0 bs bd bl mo bm ba bn mf bl = 1 := by unfold kap0; simp [Ne.symm n1, p1, Ne.symm q1, Ne.symm q4, Ne.symm q7]
  have kd : kap0 bs bd bl mo bm ba bn mf bd = 1 := by unfold kap0; simp [Ne.symm n2, p2, Ne.symm q2, Ne.symm q5, Ne.symm q8]
  have kf : kap0 bs bd bl mo bm ba bn mf mf = 1 := by unfold kap0; simp [Ne.symm n7, Ne.symm hne, Ne.symm q3, Ne.symm q6, Ne.symm q9]
  have hlt : ∀ k, kap0 bs bd bl mo bm ba bn mf k ≠ 0 → k < w.heap.size := fun k hk => by
    unfold kap0 at hk
    split at hk
    · rename_i e; rw [e]; exact h.s.lt
    · split at hk
      · rename_i e; rw [e]; exact h.o.lt
      · split at hk
        · rename_i e
          rcases e with rfl | rfl | rfl
          · exact h.m.m.lt
          · exact h.m.a.lt
          · exact h.m.n.lt
        · split at hk
          · rename_i e
            rcases e with rfl | rfl | rfl
            · exact h.l.lt
            · exact h.d.lt
            · exact h.f.lt
          · exact absurd rfl hk
  refine ⟨h.s, ⟨fun k => k = bd ∨ k = mf, fun k => k = bl, .slice none 0 0, .slice none 0 0, [], ⟨mf, [], ⟨h.d, emp_mapL h.f, rfl, fun e he => (by cases he), List.Pairwise.nil, fun k hk => ?_, fun k hk => ?_, hw⟩⟩, ⟨h.l, Vc.Own.nil.arr (enc := encB) (sz := 1) (T := 0) (B := 0) (by intro x; rfl), Vc.Own.nil, rfl, fun q hq => (by cases hq), fun k hk => ?_, fun k hk => ?_, fun k hk => ?_, Int.le_refl _, by decide, by decide, fun p hp => (by cases hp), by decide⟩, fun k hk e => ?_, fun k hk => ?_, fun k hk => hlt k (by rw [hk]; decide)⟩, emp_mapL h.o, (mrep_0 h.m).to (fun k hk => ?_) (fun k hk => hlt k (by rw [hk]; decide)), Vc.Own.nil.arr (enc := Fi.cs) (sz := 5) (T := 0) (B := 0) (by intro x; rfl), fun t ht => (by cases ht), by unfold kap0; simp, by unfold kap0; simp [Ne.symm n6], fun h9 => absurd rfl h9, fun t ht => (by cases ht), hlt⟩
  · rcases hk with e | e | ⟨e, he, _⟩
    · exact .inl e
    · exact .inr e
    · cases he
  · rcases hk with rfl | rfl
    · exact h.d.lt
    · exact h.f.lt
  · rcases hk with e | e | e | ⟨q, hq, _⟩
    · exact e
    · cases e
    · exact absurd rfl e.1
    · cases hq
  · rcases hk with e | ⟨q, hq, _⟩
    · exact absurd rfl e.1
    · cases hq
  · rw [hk]; exact h.l.lt
  · rcases hk with rfl | rfl
    · exact r2 e.symm
    · exact r1 e.symm
  · rcases hk with (e | e) | e
    · rw [e]; exact kd
    · rw [e]; exact kf
    · rw [e]; exact kl
  · unfold kap0
    rcases hk with e | e | e
    · rw [e]; simp [Ne.symm n3, p3]
    · rw [e]; simp [Ne.symm n4, p4]
    · rw [e]; simp [Ne.symm n5, p5]
theorem getN_w (key : Str) (w : World) :
    Calls Tryz.prog 22 [.pointer none, S key].toArray w (Pure w (.tuple #[S [], B false])) := by
 refine cw Tryz.func22 ?_
 have hx := Ext.refl w
 refine ws fun _ Z1 => wr (da (da (de Z1 (ws fun _ Z2 => ws fun _ Z3 => wr (dm ?_)))))
 refine dp (pv_eqP (by kernel_rfl) rfl rfl) (de Z3 (wi (fun c1 => ?_) fun c1 => ?_))
 ·
  refine ws fun _ Z4 => wr (da (da (de Z4 (W_ret ?_))))
  refine rt ?_
  exact ⟨rfl, hx⟩
 exact absurd rfl c1
theorem flushN_w (w : World) :
    Calls Tryz.prog 15 [.pointer none].toArray w (Pure w (.tuple #[B false, I 1])) := by
 refine cw Tryz.func15 ?_
 have hx := Ext.refl w
 refine ws fun _ Z1 => wr (da (da (de Z1 (ws fun _ Z2 => ws fun _ Z3 => wr (dm ?_)))))
 refine cP (alive_nil _) RX.all fun w1 x1 => ?_
 replace hx := hx.trans x1
 refine da (de Z3 (ws fun _ Z4 => wr (dm ?_)))
 refine dp (pv_neq rfl rfl) (dm ?_)
 refine D_splitP 10 rfl (fun c1 => ?_) (fun c1 => ?_)
 ·
  refine dk (dk (dk (dk (dk (dk (dk' (de Z4 ?_)))))))
  refine W_t rfl (ws fun _ Z5 => wr (dm (da (da (de Z5 (W_ret ?_))))))
  refine rt ?_
  exact ⟨rfl, hx⟩
 exact absurd (by decide) c1
theorem compactN_w (w : World) :
    Calls Tryz.prog 16 [.pointer none].toArray w (Pure w (.tuple #[B false, I 1])) := by
 refine cw Tryz.func16 ?_
 have hx := Ext.refl w
 refine ws fun _ Z1 => wr (D_box rfl rfl rfl RX.all (fun b1 w1 e1 x1 m1 => ?_))
 have g1 := hx.ge e1
 replace hx := hx.trans x1
 refine da (da (de Z1 (ws fun _ Z2 => ws fun _ Z3 => wr ?_)))
 refine dl rfl (m1.at rfl) (cP (alive_nil _) RX.all fun w2 x2 => ?_)
 replace hx := hx.trans x2
 refine da (de Z3 (ws fun _ Z4 => wr (dm ?_)))
 refine dp (pv_neq rfl rfl) (de Z4 (wi (fun c1 => ?_) fun c1 => ?_))
 ·
  refine ws fun _ Z5 => wr (dm (da (da (de Z5 (W_ret ?_)))))
  refine rt ?_
  exact ⟨rfl, hx⟩
 exact absurd (by decide) c1
theorem openN_w (w : World) :
    Calls Tryz.prog 24 [.pointer none].toArray w (Pure w (.tuple #[.pointer none, I 1])) := by
 refine cw Tryz.func24 ?_
 have hx := Ext.refl w
 refine ws fun _ Z1 => wr (da (da (de Z1 (ws fun _ Z2 => ws fun _ Z3 => wr (dm ?_)))))
 refine dp (pv_eqP (by kernel_rfl) rfl rfl) (de Z3 (wi (fun c1 => ?_) fun c1 => ?_))
 ·
  refine ws fun _ Z4 => wr (da (da (de Z4 (W_ret ?_))))
  refine rt ?_
  exact ⟨rfl, hx⟩
 exact absurd rfl c1
theorem versionN_w (w : World) :
    Calls Tryz.prog 27 [.pointer none].toArray w (Pure w (.agg ⟨[I 0, .slice none 0 0]⟩)) := by
 refine cw Tryz.func27 ?_
 have hx := Ext.refl w
 refine ws fun _ Z1 => wr (D_alloc (cs := [.int .i64 0, .slice none 0 0]) rfl (by kernel_rfl) RX.all (fun b1 w1 e1 x1 m1 => ?_))
 have g1 := hx.ge e1
 replace hx := hx.trans x1
 refine de Z1 (ws fun _ Z2 => ws fun _ Z3 => wr (dm ?_))
 refine dp (pv_eqP (by kernel_rfl) rfl rfl) (de Z3 (wi (fun c1 => ?_) fun c1 => ?_))
 ·
  refine ws fun _ Z4 => wr (db (zs := [.int .i64 0, .slice none 0 0]) (pl := [(0, 1), (1, 1)]) (pv := []) (cs := [.int .i64 0, .slice none 0 0]) ?_)
  refine stA m1 (fun w2 x2 xs2 m1 => ?_)
  try dsimp only [setAt, List.set, List.take, List.drop] at m1
  replace hx := hx.o1 x2
  refine de Z4 (W_ret (ret_cell (k := 2) rfl rfl rfl (by kernel_rfl) rfl m1.row ?_))
  exact ⟨rfl, hx⟩
 exact absurd rfl c1
theorem scanN_w (a b : Str) (n : Int) (w : World) :
    Calls Tryz.prog 21 [.pointer none, S a, S b, I n].toArray w (Pure w (.slice none 0 0)) := by
 refine cw Tryz.func21 ?_
 have hx := Ext.refl w
 refine ws fun _ Z1 => wr (da (de Z1 (ws fun _ Z2 => ws fun _ Z3 => wr (dm ?_))))
 refine dp (pv_eqP (by kernel_rfl) rfl rfl) (de Z3 (wi (fun c1 => ?_) fun c1 => ?_))
 ·
  refine ws fun _ Z4 => wr (da (de Z4 (W_ret ?_)))
  refine ro ?_
  exact ⟨rfl, hx⟩
 exact absurd rfl c1
theorem dueN_w (w : World) :
    Calls Tryz.prog 32 [.pointer none].toArray w (Pure w (B false)) := by
 refine cw Tryz.func32 ?_
 have hx := Ext.refl w
 refine ws fun _ Z1 => wr (da (de Z1 (ws fun _ Z2 => ws fun _ Z3 => wr (dm ?_))))
 refine dp (pv_eqP (by kernel_rfl) rfl rfl) (de Z3 (wi (fun c1 => ?_) fun c1 => ?_))
 ·
  refine ws fun _ Z4 => wr (da (de Z4 (W_ret ?_)))
  refine ro ?_
  exact ⟨rfl, hx⟩
 exact absurd rfl c1
theorem seqN_w (w : World) :
    Calls Tryz.prog 17 [.pointer none].toArray w (Pure w (I 0)) := by
 refine cw Tryz.func17 ?_
 have hx := Ext.refl w
 refine ws fun _ Z1 => wr (da (de Z1 (ws fun _ Z2 => ws fun _ Z3 => wr (dm ?_))))
 refine dp (pv_eqP (by kernel_rfl) rfl rfl) (de Z3 (wi (fun c1 => ?_) fun c1 => ?_))
 ·
  refine ws fun _ Z4 => wr (da (de Z4 (W_ret ?_)))
  refine ro ?_
  exact ⟨rfl, hx⟩
 exact absurd rfl c1
theorem deadN_w (w : World) :
    Calls Tryz.prog 23 [.pointer none].toArray w (Pure w (B false)) := by
 refine cw Tryz.func23 ?_
 have hx := Ext.refl w
 refine ws fun _ Z1 => wr (da (de Z1 (ws fun _ Z2 => wr (dm ?_))))
 refine dp (pv_neP (by kernel_rfl) rfl rfl) (dm ?_)
 refine D_splitP 5 rfl (fun c1 => ?_) (fun c1 => ?_)
 ·
  exact absurd rfl c1
 refine dk (dk (dk (dk (dk' ?_))))
 refine da (de Z2 (W_ret ?_))
 refine ro ?_
 exact ⟨rfl, hx⟩
theorem writeN_w (v : Value) (w : World) :
    Calls Tryz.prog 14 [.pointer none, v].toArray w (Pure w (I 1)) := by
 refine cw Tryz.func14 ?_
 have hx := Ext.refl w
 refine ws fun _ Z1 => wr (da (de Z1 (ws fun _ Z2 => ws fun _ Z3 => wr (dm ?_))))
 refine cP (alive_nil _) RX.all fun w1 x1 => ?_
 replace hx := hx.trans x1
 refine da (de Z3 (ws fun _ Z4 => wr (dm ?_)))
 refine dp (pv_neq rfl rfl) (de Z4 (wi (fun c1 => ?_) fun c1 => ?_))
 ·
  refine ws fun _ Z5 => wr (dm (da (de Z5 (W_ret ?_))))
  refine ro ?_
  exact ⟨rfl, hx⟩
 exact absurd (by decide) c1
structure OkD (D : Dsk) (u n : Nat) : Prop where
  fu : D.fused = false
  us : usedL D.fs ≤ u
  cn : D.fs.length ≤ n
  nd : (D.fs.map (·.1)).Nodup
  tl : ∀ p ∈ D.fs, p.1.getLast? ≠ some 126
theorem OkD.mono {D : Dsk} {u n u' n' : Nat} (h : OkD D u n) (h1 : u ≤ u') (h2 : n ≤ n') : OkD D u' n' := ⟨h.fu, Nat.le_trans h.us h1, Nat.le_trans h.cn h2, h.nd, h.tl⟩
theorem may_ok {D : Dsk} (h : D.fused = false) {l : List Str} (hl : ∀ s ∈ l, 1 ≤ s.length ∧ s.length ≤ 64) : D.may l = 0 := may_0 (fun e => by rw [h] at e; cases e.1) hl
theorem tick_ok {D : Dsk} (h : D.fused = false) : D.tick = D := by unfold Dsk.tick; rw [h]; rfl
theorem app_ok {D : Dsk} {u n : Nat} {name p : Str} (h : OkD D u n) (hn : 1 ≤ name.length ∧ name.length ≤ 64) (hr : ((u + p.length : Nat) : Int) ≤ D.room) (hc : n < 4096) : D.app name p = (0, { D with fs := setL D.fs name ⟨(D.old name).data ++ p, (D.old name).lasts⟩ }) := by
  unfold Dsk.app
  rw [if_neg (by rw [may_ok h.fu (by simpa using hn)]; decide), if_neg, tick_ok (by exact h.fu)]
  unfold Dsk.full
  have h1 := h.us
  have h2 := h.cn
  rw [← used_eq] at h1
  simp only [Bool.or_eq_true, Bool.and_eq_true, decide_eq_true_eq, not_or, not_and]
  exact ⟨by omega, fun _ => by omega⟩
theorem setL_none {α : Type} {l : List (Str × α)} {n : Str} {a : α} (h : lk l n = none) : setL l n a = l ++ [(n, a)] := by unfold setL; rw [h]; rfl
theorem delL_setL {α : Type} {l : List (Str × α)} {n : Str} {a : α} (h : lk l n = none) : delL (setL l n a) n = l := by
  rw [setL_none h]
  have h2 := delL_none h
  unfold delL at *
  rw [List.filter_append, h2]; simp
theorem old_none2 {D : Dsk} {n : Str} (h : lk D.fs n = none) : D.old n = ⟨[], 0⟩ := by unfold Dsk.old; rw [h]; rfl
theorem sync_ok {D : Dsk} {n : Str} {f : Fil} (hf : D.fused = false) (hn : 1 ≤ n.length ∧ n.length ≤ 64) (h : lk D.fs n = some f) : D.sync [n] = (0, { D with fs := setL D.fs n ⟨f.data, f.data.length⟩ }) := by
  unfold Dsk.sync Dsk.each
  rw [if_neg (by rw [may_ok hf (by simpa using hn)]; decide), if_neg (by rw [h]; exact Bool.false_ne_true)]
  unfold Dsk.each Dsk.lastsA Dsk.old
  rw [h, tick_ok (by exact hf)]; rfl
theorem sh_len (n : Str) : (Dsk.sh n).length = n.length + 1 := by unfold Dsk.sh; simp
theorem sh_no {D : Dsk} {u k : Nat} (h : OkD D u k) (n : Str) : lk D.fs (Dsk.sh n) = none := by
  rw [lk_none]
  intro hm
  obtain ⟨p, hp, e⟩ := List.mem_map.1 hm
  exact h.tl p hp (by rw [e]; unfold Dsk.sh; simp)
theorem save_eq {D : Dsk} {u k : Nat} {n p : Str} (h : OkD D u k) (hn : 1 ≤ n.length ∧ n.length ≤ 60) (hp : p.length ≤ 1048576) (hr : ((u + (recS p).length : Nat) : Int) ≤ D.room) (hc : k < 4096) : D.save n p = (0, { D with fs := setL D.fs n ⟨recS p, (recS p).length⟩ }) := by
  have hs := sh_no h n
  have hl := sh_len n
  unfold Dsk.save
  rw [if_neg (by omega), if_neg (by omega), if_neg (by unfold Dsk.has; rw [hs]; decide)]
  unfold Dsk.save2
  have ha := app_ok (p := recS p) h (name := Dsk.sh n) (by omega) hr hc
  rw [old_none2 hs] at ha
  simp only [List.nil_append] at ha
  rw [ha]
  have hy := sync_ok (D := { D with fs := setL D.fs (Dsk.sh n) ⟨recS p, 0⟩ }) (n := Dsk.sh n) (f := ⟨recS p, 0⟩) h.fu (by omega) (by show lk (setL _ _ _) _ = _; rw [lk_setL, if_pos rfl])
  dsimp only at hy
  rw [setL_setL] at hy
  simp only [ne_eq, not_true_eq_false, if_false, hy]
  unfold Dsk.ren
  rw [if_neg (by rw [may_ok (by exact h.fu) (by intro s hs2; simp at hs2; rcases hs2 with rfl | rfl <;> omega)]; decide)]
  dsimp only
  rw [lk_setL, if_pos rfl]
  dsimp only
  rw [tick_ok (by exact h.fu), delL_setL hs]
theorem OkD.put {D : Dsk} {u k : Nat} {n : Str} {f : Fil} (h : OkD D u k) (ht : n.getLast? ≠ some 126) {x : Nat} (hx : f.data.length ≤ (D.old n).data.length + x) : OkD { D with fs := setL D.fs n f } (u + x) (k + 1) := by
  have h1 := used_setL h.nd n f
  have h2 := h.us
  have h3 : (oldL D.fs n) = D.old n := rfl
  have h4 := length_setL D.fs n f
  have h5 := h.cn
  refine ⟨h.fu, ?_, ?_, nodup_setL _ _ h.nd, fun p hp => ?_⟩
  · show usedL (setL D.fs n f) ≤ _
    rw [h3] at h1; omega
  · show (setL D.fs n f).length ≤ _
    rw [h4]; split <;> omega
  · rcases mem_setL hp with rfl | hp
    · exact ht
    · exact h.tl p hp
theorem OkD.del {D : Dsk} {u k : Nat} (h : OkD D u k) (n : Str) : OkD { D with fs := delL D.fs n } u k :=
  ⟨h.fu, Nat.le_trans (used_delL D.fs n) h.us, Nat.le_trans (List.length_filter_le _ _) h.cn, nodup_delL n h.nd, fun p hp => h.tl p (List.mem_filter.1 hp).1⟩
theorem save_ok {D : Dsk} {u k : Nat} {n p : Str} (h : OkD D u k) (hn : 1 ≤ n.length ∧ n.length ≤ 60) (ht : n.getLast? ≠ some 126) (hp : p.length ≤ 1048576) (hr : ((u + p.length + 12 : Nat) : Int) ≤ D.room) (hc : k < 4096) : (D.save n p).1 = 0 ∧ OkD (D.save n p).2 (u + p.length + 12) (k + 1) ∧ (D.save n p).2.room = D.room := by
  have hl := recS_len p
  rw [save_eq h hn hp (by rw [hl, ← Nat.add_assoc]; exact hr) hc]
  have := h.put ht (f := ⟨recS p, (recS p).length⟩) (x := p.length + 12) (by simp only []; omega)
  exact ⟨rfl, by rw [Nat.add_assoc]; exact this, rfl⟩
theorem rems_ok2 {D : Dsk} {u k : Nat} {n : Str} (h : OkD D u k) (hn : 1 ≤ n.length ∧ n.length ≤ 64) : (Dsk.rems [n] D).1 = 0 ∧ OkD (Dsk.rems [n] D).2 u k ∧ (Dsk.rems [n] D).2.room = D.room := by
  unfold Dsk.rems
  by_cases hh : D.has n = true
  · rw [if_pos hh]
    have h2 : (lk D.fs n).isNone = false := by unfold Dsk.has at hh; cases e : lk D.fs n with
      | none => rw [e] at hh; cases hh
      | some a => rfl
    have hr : D.rem [n] = (0, { D with fs := delL D.fs n }) := by
      unfold Dsk.rem Dsk.each
      rw [if_neg (by rw [may_ok h.fu (by simpa using hn)]; decide), if_neg (by rw [h2]; decide)]
      unfold Dsk.each Dsk.gone
      rw [tick_ok (by exact h.fu)]
    rw [hr, if_neg (by simp)]
    unfold Dsk.rems
    exact ⟨rfl, h.del n, rfl⟩
  · rw [if_neg hh]
    unfold Dsk.rems
    exact ⟨rfl, h, rfl⟩
theorem append_ok {L : Led} {D : Dsk} {u k : Nat} {p : Str} (h : OkD D u k) (hd : L.dead = false) (hp : p.length ≤ 65536) (hl : L.last < 1099511627776) (hr : ((u + p.length + 32 : Nat) : Int) ≤ D.room) (hc : k < 4096) : (L.append D p).1 = L.last + 1 ∧ (L.append D p).2.1 = 0 ∧ (L.append D p).2.2.1 = { L with ents := L.ents ++ [p] } ∧ OkD (L.append D p).2.2.2 (u + p.length + 32) (k + 1) ∧ (L.append D p).2.2.2.room = D.room := by
  have he := ent_len (L.last + 1) p
  have hrl := recS_len (Led.ent (L.last + 1) p)
  have ha := app_ok (p := recS (Led.ent (L.last + 1) p)) h (name := Led.logn) (by decide) (by omega) hc
  have hy := sync_ok (D := (D.app Led.logn (recS (Led.ent (L.last + 1) p))).2) (n := Led.logn) (f := ⟨(D.old Led.logn).data ++ recS (Led.ent (L.last + 1) p), (D.old Led.logn).lasts⟩) (by rw [ha]; exact h.fu) (by decide) (by rw [ha]; show lk (setL _ _ _) _ = _; rw [lk_setL, if_pos rfl])
  have hR : appR L D p = (0, { D with fs := setL D.fs Led.logn ⟨(D.old Led.logn).data ++ recS (Led.ent (L.last + 1) p), ((D.old Led.logn).data ++ recS (Led.ent (L.last + 1) p)).length⟩ }) := by
    unfold appR
    rw [if_pos (by rw [ha]), hy, ha]
    dsimp only
    rw [setL_setL]
  rw [app_good hd (by omega) (by rw [hR]; simp), hR]
  have := h.put (n := Led.logn) (f := ⟨(D.old Led.logn).data ++ recS (Led.ent (L.last + 1) p), ((D.old Led.logn).data ++ recS (Led.ent (L.last + 1) p)).length⟩) (by decide) (x := p.length + 32) (by simp only [List.length_append]; omega)
  exact ⟨rfl, rfl, rfl, by rw [Nat.add_assoc]; exact this, rfl⟩
theorem write_ok {L : Led} {D : Dsk} {u k : Nat} {i : Int} {p : Str} (h : OkD D u k) (hd : L.dead = false) (hi : L.last ≤ i ∧ i ≤ 1099511627776) (hp : p.length ≤ 524288) (hr : ((u + p.length + 32 : Nat) : Int) ≤ D.room) (hc : k < 4096) : (L.write D i p).1 = 0 ∧ (L.write D i p).2.1 = ⟨i, p, [], false⟩ ∧ OkD (L.write D i p).2.2 (u + p.length + 32) (k + 1) ∧ (L.write D i p).2.2.room = D.room := by
  have he := ent_len i p
  obtain ⟨s1, s2, s3⟩ := save_ok (p := Led.ent i p) (n := Led.img) h (by decide) (by decide) (by omega) (by omega) hc
  obtain ⟨r1, r2, r3⟩ := rems_ok2 (n := Led.logn) s2 (by decide)
  unfold Led.write
  rw [if_neg (by rw [hd]; decide), if_neg (by omega), if_neg (by omega)]
  dsimp only
  rw [if_pos s1, if_neg (by rw [r1]; decide)]
  exact ⟨rfl, rfl, r2.mono (by omega) (Nat.le_refl _), r3.trans s3⟩
theorem wr_ok {L L' : Led} {D D' : Dsk} {mem mem' : List Cell} {l : List Rw} {e : Int} {dead' : Bool} {u k : Nat} (h : WrP L D mem false l e L' D' mem' dead') (hc : checkN l = 0) (hL : L.dead = false) (hl : L.last < 1099511627776) (hO : OkD D u k) (hb : (batS l).length ≤ 65536) (hr : ((u + (batS l).length + 32 : Nat) : Int) ≤ D.room) (hk : k < 4096) {nn : Int} {mm : List Cell} (hn : L.last + 1 = nn) (hm : putsM mem (cellsN l nn) = mm) :
    e = 0 ∧ dead' = false ∧ mem' = mm ∧ L' = { L with ents := L.ents ++ [batS l] } ∧ OkD D' (u + (batS l).length + 32) (k + 1) ∧ D'.room = D.room := by
  obtain ⟨a1, a2, a3, a4, a5⟩ := append_ok hO hL hb hl hr hk
  rcases h with ⟨h1, _⟩ | ⟨_, h1, _⟩ | ⟨_, _, h2, h3, ⟨h4, _⟩ | ⟨_, h5, h6, h7⟩⟩
  · cases h1
  · exact absurd hc h1
  · exact absurd a2 h4
  · exact ⟨h5, h7, by rw [h6, a1, hn, hm], h2.trans a3, h3 ▸ a4, by rw [h3]; exact a5⟩
theorem geK {κ κ1 : Nat → Nat} {n m : Nat} (h : ∀ k, κ k ≠ 0 → n ≤ k) (hm : ∀ k, k < m → κ1 k = κ k) (hn : n ≤ m) : ∀ k, κ1 k ≠ 0 → n ≤ k := fun k hk => by
  rcases Nat.lt_or_ge k m with h1 | h1
  · rw [hm k h1] at hk; exact h k hk
  · omega
def rowX : Rw := ⟨[97], [120], false⟩
def rowD : Rw := ⟨[97], [], true⟩
def ca1 : Cell := ⟨[97], [120], false, 1⟩
def ca2 : Cell := ⟨[97], [], true, 2⟩
theorem batX_len : (batS [rowX]).length ≤ 100 := by
  have h1 := bat_len [rowX]
  have h2 := numS_len (0 + 1)
  have h3 : rsz [rowX] = 2 := rfl
  unfold batS
  rw [List.length_append]
  simp only [List.length_cons, List.length_nil] at *; omega
theorem batD_len : (batS [rowD]).length ≤ 100 := by
  have h1 := bat_len [rowD]
  have h2 := numS_len (0 + 1)
  have h3 : rsz [rowD] = 1 := rfl
  unfold batS
  rw [List.length_append]
  simp only [List.length_cons, List.length_nil] at *; omega
theorem tblX_len : (tblS [ca1]).length ≤ 31000 := by
  have := tblS_len (l := [ca1]) (by intro c hc; rw [List.mem_singleton.1 hc]; decide) (by decide)
  simpa using this
theorem buildX : buildE [ca1] = 0 := by
  rw [build_3 (by decide) (by decide)]
  unfold encE
  rw [if_neg (by have := tblX_len; omega)]
def fX : Fi := mkFile 0 1 0 [ca1]
theorem fX_size : fX.size = ↑((tblS [ca1]).length + 12) := by
  show ((recS (tblS [ca1])).length : Int) = _
  rw [recS_len]
theorem isV_X : isV ⟨2, [fX]⟩ = true := by
  have h1 := tblX_len
  have h2 := fX_size
  refine isV_ok (by decide) (by decide) (by simp) ?_ (by simp) rfl
  simp only [List.all_cons, List.all_nil, Bool.and_true]
  unfold okF
  rw [h2]
  have e1 : fX.id = 1 := rfl
  have e2 : fX.lev = 0 := rfl
  have e3 : fX.fst = [97] := rfl
  have e4 : fX.lst = [97] := rfl
  rw [e1, e2, e3, e4]
  simp only [Bool.and_eq_true, decide_eq_true_eq]
  refine ⟨⟨⟨⟨⟨⟨⟨⟨by decide, by decide⟩, by decide⟩, by decide⟩, by omega⟩, by omega⟩, by decide⟩, by decide⟩, by decide⟩
theorem verX_len : (verS ⟨2, [fX]⟩).length ≤ 200 := by
  unfold verS
  have a1 := numS_len (2 : Int).toNat
  have a2 := numS_len (0 + 1)
  have e : ([fX].flatMap filS) = filS fX := by simp
  have b1 := numS_len fX.id.toNat
  have b2 := numS_len fX.lev.toNat
  have b3 := numS_len fX.size.toNat
  have e3 : fX.fst = [97] := rfl
  have e4 : fX.lst = [97] := rfl
  simp only [e]
  unfold filS rowS
  rw [e3, e4]
  simp only [List.length_append, List.length_cons, List.length_nil] at *
  omega
theorem nameX : nameS 1 = [116, 49] := by
  have : Lib.itoa 1 = [49] := by
    unfold Lib.itoa
    rw [if_neg (by decide)]
    unfold Lib.decDigits
    simp
  unfold nameS; rw [this]
theorem mgX {m : List Cell} (h : Mg [ca1] m) : m = [ca1] := by
  obtain ⟨l', hp, _, rfl⟩ := h
  rw [List.perm_singleton.1 hp]; rfl
theorem segX : mkSegs [ca1] = [[ca1]] := by decide
theorem flu_ok {L L' : Led} {D D' : Dsk} {V' : Vs} {ts' : List Tb} {mem' : List Cell} {ok dead' : Bool} {e : Int} {u k : Nat} (h : FluP L D ⟨1, []⟩ [] [ca1] false ok e L' D' V' ts' mem' dead') (hL : L.dead = false) (hl : 0 ≤ L.last ∧ L.last < 1099511627776) (hO : OkD D u k) (hr : ((u + 32000 : Nat) : Int) ≤ D.room) (hk : k < 4000) :
    ok = true ∧ e = 0 ∧ mem' = [] ∧ dead' = false ∧ (∃ p, L' = ⟨L.last, p, [], false⟩) ∧ V' = ⟨2, [fX]⟩ ∧ (∃ bt vl vb, ts' = [⟨(0, 1), bt, vl, vb, [ca1]⟩]) ∧ OkD D' (u + 32000) (k + 2) ∧ D'.room = D.room := by
  rcases h with ⟨h1, _⟩ | ⟨_, h1, _⟩ | ⟨_, _, m, hm, hC, hE⟩
  · cases h1
  · cases h1
  · have := mgX hm
    subst this
    have hA : addF 0 1 (mkSegs [ca1]) = [fX] := by rw [segX]; rfl
    have hF : filesD 1 (mkSegs [ca1]) = [(1, recS (tblS [ca1]))] := by rw [segX]; rfl
    have hT : tabsD 0 1 (mkSegs [ca1]) = [((0, 1), [ca1])] := by rw [segX]; rfl
    have hN : nextN 1 [fX] = 2 := rfl
    have hP : ∀ fs' : List Fi, fs'.Perm (keepF [] [] ++ [fX]) → fs' = [fX] := fun fs' hp => List.perm_singleton.1 hp
    have hok : chgOk ⟨1, []⟩ [] [fX] = true := chg_good rfl rfl (by intro f hf; rw [List.mem_singleton.1 hf]; decide)
    have ht := tblX_len
    have hrl := recS_len (tblS [ca1])
    obtain ⟨s1, s2, s3⟩ := save_ok (n := nameS 1) (p := recS (tblS [ca1])) hO (by rw [nameX]; decide) (by rw [nameX]; decide) (by omega) (by omega) (by omega)
    have hv := verX_len
    obtain ⟨w1, w2, w3, w4⟩ := write_ok (i := L.last) (p := verS ⟨2, [fX]⟩) s2 hL ⟨Int.le_refl _, by omega⟩ (by omega) (by rw [s3]; omega) (by omega)
    have hsv : savesD [(1, recS (tblS [ca1]))] D = (0, (D.save (nameS 1) (recS (tblS [ca1]))).2) := by
      unfold savesD
      rw [if_neg (by rw [s1]; decide)]; rfl
    unfold ChgP at hC
    simp only [hA, hF, hT, hN, List.map_nil] at hC
    rcases hC with ⟨he, _, _, _, _, _, hx⟩ | ⟨_, _, fs', hp, _, _, _, hx⟩
    · exfalso
      rcases hx with ⟨sg, hs, hb⟩ | hx | ⟨fs', hp, _, hx⟩
      · rw [segX] at hs
        rw [List.mem_singleton.1 hs] at hb
        exact hb buildX
      · rw [hok] at hx; cases hx
      · rw [hP fs' hp] at hx
        rcases hx with hx | hx
        · rw [isV_X] at hx; cases hx
        · omega
    · have e1 := hP fs' hp
      subst e1
      rw [hsv] at hx
      dsimp only at hx
      rcases hx with ⟨hx, _⟩ | ⟨_, hL', hD', hx⟩
      · exact absurd rfl hx
      · rcases hx with ⟨hx, _⟩ | ⟨_, he, hV, hd, tbs, htb, hts⟩
        · exact absurd w1 hx
        · rcases hE with ⟨h9, _⟩ | ⟨_, h8, h7⟩
          · exact absurd he h9
          · rcases tbs with _ | ⟨t, _ | ⟨t2, r⟩⟩
            · cases htb
            · obtain ⟨th, bt, vl, vb, tc⟩ := t
              simp only [List.map_cons, List.map_nil, List.cons.injEq, Prod.mk.injEq, and_true] at htb
              obtain ⟨rfl, rfl⟩ := htb
              refine ⟨h8, he, h7, hd, ⟨_, hL'.trans w2⟩, hV, ⟨bt, vl, vb, hts⟩, hD' ▸ w3.mono (by omega) (by omega), ?_⟩
              rw [hD', w4, s3]
            · simp at htb
theorem stE_get {κ : Nat → Nat} {bs bd bl bo bm : Nat} {vf : Value} {L : Led} {D : Dsk} {V : Vs} {ts : List Tb} {mem : List Cell} {dead : Bool} {w : World} (h : StE κ bs bd bl bo bm vf L D V ts mem dead w) (key : Str) (hml : mem.length ≤ 900000) (hfl : V.fs.length ≤ 100000) (hfs : ∀ f ∈ V.fs, (∃ t, tabOf ts (f.lev, f.id) = some t) ∧ inI64 f.lev ∧ inI64 f.id) (hkl : key.length ≤ 1000000000) :
    Calls Tryz.prog 22 [ptr bs 0, S key].toArray w (Pure w (.tuple #[S (getR (cellR mem V.fs ts key)).1, B (getR (cellR mem V.fs ts key)).2])) := by
  have hmo := h.mp.at
  rw [show lk (ts.map Tb.kv) = tabP ts from funext (lk_tab ts)] at hmo
  exact getS_w bs bd bl V.next vf bo bm _ dead _ mem V.fs ts key w h.m h.mr hml h.vs hfl hmo h.tb hfs hkl
theorem stE_seq {κ : Nat → Nat} {bs bd bl bo bm : Nat} {vf : Value} {L : Led} {D : Dsk} {V : Vs} {ts : List Tb} {mem : List Cell} {dead : Bool} {w : World} (h : StE κ bs bd bl bo bm vf L D V ts mem dead w) :
    Calls Tryz.prog 17 [ptr bs 0].toArray w (Pure w (I L.last)) := by
  obtain ⟨F, G, vd, ve, vs, h1, h2, _⟩ := h.ld
  exact seqS_w bs bd bl V.next vf bo bm dead G vd ve vs L w h.m h2
theorem wf_0 : (dsk0 65536).Wf := ⟨by decide, by decide, by decide, by decide, by decide, fun p hp => (by cases hp), fun p hp => (by cases hp), List.nodup_nil, by decide⟩
theorem okD_0 : OkD (dsk0 65536) 0 0 := ⟨rfl, Nat.le_refl _, Nat.le_refl _, List.nodup_nil, fun p hp => (by cases hp)⟩
theorem getX {bt : Nat} {vl vb : Value} : cellR [] [fX] [⟨(0, 1), bt, vl, vb, [ca1]⟩] [97] = some ca1 := by
  have e : fX = ⟨1, 0, fX.size, [97], [97]⟩ := rfl
  rw [e]; rfl
theorem getD2 {fs : List Fi} {ts : List Tb} : cellR [ca2] fs ts [97] = some ca2 := rfl
theorem known_w (w : World) (hgv : GV w) :
    Calls Tryz.prog 18 [].toArray w (Pure w (B true)) := by
 refine cw Tryz.func18 ?_
 have hx := Ext.refl w
 refine ws fun _ Z1 => wr (da (de Z1 (ws fun _ Z2 => wr ?_)))
 refine cG (Em.diskNew_w 65536 _ (by decide) (by decide)) RX.all fun u1 w1 x1 hf1 => ?_
 have hsz1 := hx.size
 replace hx := hx.trans x1
 obtain ⟨bd, mf, rfl, hd, hm, hgd, hgm⟩ := hf1
 refine dm ?_
 refine dx rfl rfl (dx rfl rfl (da (da (de Z2 (ws fun _ Z3 => wr (dm ?_))))))
 have hmfl := hm.lt
 have hsz0 := hx.size
 refine cG (Em.lsmOpen_w bd mf 65536 _ hd hm) RX.all fun u2 w2 x2 hf2 => ?_
 have hsz2 := hx.size
 replace hx := hx.trans x2
 obtain ⟨bs, bl, mo, bm, ba, bn, rfl, hE, k1, k2, k3, k4, k5, k6⟩ := hf2
 have hS := stE_0 hE (by omega) wf_0
 have hκ : ∀ k, (kap0 bs bd bl mo bm ba bn mf) k ≠ 0 → w.heap.size ≤ k := fun k hk => by
   unfold kap0 at hk
   repeat' split at hk
   all_goals first | omega | exact absurd rfl hk
 refine dm ?_
 refine dx rfl rfl (dx rfl rfl (da (da (de Z3 (ws fun _ Z4 => ws fun _ Z5 => wr (dm ?_))))))
 refine dp (pv_neq rfl rfl) (dm ?_)
 refine D_splitP 22 rfl (fun c1 => ?_) (fun c1 => ?_)
 ·
  exact absurd rfl c1
 refine dm ?_
 refine dp (pv_eqP (by kernel_rfl) rfl rfl) (dk' (de Z5 ?_))
 refine wi (fun c2 => ?_) fun c2 => ?_
 ·
  exact absurd c2 (by simp)
 refine W_skip (Z4 _ _ (ws fun _ Z6 => wr (dm ?_)))
 refine db (zs := [S [], S [], B false]) (pl := [(0, 1), (1, 1), (2, 1)]) (pv := [(0, _), (1, _)]) (cs := [_, _, B false]) ?_
 refine li (e := 48) (sz := 3) (zs := [S [], S [], B false]) (pv := [(0, .agg ⟨[_, _, _]⟩)]) (cs := [_, _, _]) RX.all (fun b1 w3 e1 x3 m1 => ?_)
 have g1 := hx.ge e1
 have a1_hS := hS.lt
 replace hS := hS.ext x3
 replace hx := hx.trans x3
 have hszc := hx.size
 refine cD (writeS_w (kap0 bs bd bl mo bm ba bn mf) bs bd bl mo bm (.slice none 0 0) led0 (dsk0 65536) ⟨1, []⟩ [] [] false [rowX] _ _ hS (m1.arr (enc := Rw.cs) (sz := 3) (l := [rowX]) rfl (by intro x; rfl) rfl (by simp)) (by decide) (fun _ => Decidable.byContradiction fun h9 => by have h8 := a1_hS _ h9; have h7 := e1; dsimp only [base] at h8; omega) (by decide) (by decide) (by decide)) (.inl rfl) fun u4 w4 x4 hf4 => ?_
 have hsz4 := hx.size
 replace hx := hx.own x4 (fun i hi => (hκ i hi))
 obtain ⟨e1, κ1, L1, D1, mem1, dead1, rfl, hmv, hS9, hW⟩ := hf4
 have hbl := batX_len
 obtain ⟨he1, rfl, rfl, rfl, hOk1, hro1⟩ := wr_ok hW (by decide) rfl (by decide) okD_0 (by omega) (by show _ ≤ (65536 : Int); omega) (by decide) (nn := 1) (mm := [ca1]) rfl (by decide)
 have hS := hS9
 have hκ1 := geK hκ hmv hszc
 refine de Z6 (ws fun _ Z7 => wr (dm ?_))
 have hszd := hx.size
 have hS : StE κ1 bs bd bl mo bm (.slice none 0 0) _ D1 ⟨1, []⟩ [] [ca1] false _ := hS
 refine cD (flushS_w κ1 bs bd bl mo bm (.slice none 0 0) _ D1 ⟨1, []⟩ [] [ca1] false _ hS (by decide) (by intro c hc; rw [List.mem_singleton.1 hc]; decide) rfl (hgv.ext hx) (fun k hk => Decidable.byContradiction fun h9 => by have h8 := hκ1 k h9; have h7 := hgv.lt k hk; omega) (by decide)) (.inl rfl) fun u5 w5 x5 hf5 => ?_
 have hsz5 := hx.size
 replace hx := hx.own x5 (fun i hi => (hκ1 i hi))
 obtain ⟨ok, e2, κ2, bm2, vf2, L2, D2, V2, ts2, mem2, dead2, rfl, hmv2, hS9, hFl⟩ := hf5
 obtain ⟨rfl, rfl, rfl, rfl, ⟨p2, rfl⟩, rfl, ⟨bt, vl, vb, rfl⟩, hOk2, hro2⟩ := flu_ok hFl rfl (by decide) hOk1 (by rw [hro1]; show _ ≤ (65536 : Int); omega) (by decide)
 have hS := hS9
 have hκ2 := geK hκ1 hmv2 hszd
 refine dm ?_
 refine dx rfl rfl (dx rfl rfl (da (da (de Z7 (ws fun _ Z8 => wr (dm ?_))))))
 refine cP ((show Calls Tryz.prog 22 [ptr bs 0, S [97]].toArray w5 (Pure w5 (.tuple #[S [120], B true])) from by have h9 := stE_get hS [97] (by decide) (by simp) (by intro f hf; rw [List.mem_singleton.1 hf]; exact ⟨⟨_, rfl⟩, by unfold inI64; decide, by unfold inI64; decide⟩) (by decide); rw [getX] at h9; exact h9)) RX.all fun w6 x6 => ?_
 replace hS := hS.ext x6
 replace hx := hx.trans x6
 refine dm ?_
 refine dx rfl rfl (dx rfl rfl (da (da (de Z8 (ws fun _ Z9 => wr (dm ?_))))))
 refine db (zs := [S [], S [], B false]) (pl := [(0, 1), (1, 1), (2, 1)]) (pv := [(0, _), (2, _)]) (cs := [_, S [], _]) ?_
 refine li (e := 48) (sz := 3) (zs := [S [], S [], B false]) (pv := [(0, .agg ⟨[_, _, _]⟩)]) (cs := [_, _, _]) RX.all (fun b2 w7 e2 x7 m2 => ?_)
 have g2 := hx.ge e2
 have a2_hS := hS.lt
 replace hS := hS.ext x7
 replace hx := hx.trans x7
 have hsze := hx.size
 refine cD (writeS_w κ2 bs bd bl mo bm2 vf2 _ D2 ⟨2, [fX]⟩ [⟨(0, 1), bt, vl, vb, [ca1]⟩] [] false [rowD] _ _ hS (m2.arr (enc := Rw.cs) (sz := 3) (l := [rowD]) rfl (by intro x; rfl) rfl (by simp)) (by decide) (fun _ => Decidable.byContradiction fun h9 => by have h8 := a2_hS _ h9; have h7 := e2; dsimp only [base] at h8; omega) (by decide) (by show 0 ≤ 900000; decide) (by decide)) (.inl rfl) fun u8 w8 x8 hf8 => ?_
 have hsz8 := hx.size
 replace hx := hx.own x8 (fun i hi => (hκ2 i hi))
 obtain ⟨e3, κ3, L3, D3, mem3, dead3, rfl, hmv3, hS9, hW3⟩ := hf8
 have hbl3 := batD_len
 obtain ⟨he3, hde3, hme3, hLe3, hOk3, hro3⟩ := wr_ok hW3 (by decide) rfl (by show (1 : Int) < 1099511627776; decide) hOk2 (by omega) (by rw [hro2, hro1]; show _ ≤ (65536 : Int); omega) (by decide) (nn := 2) (mm := [ca2]) rfl (by decide)
 rw [hde3, hme3, hLe3] at hS9
 have hS : StE κ3 bs bd bl mo bm2 vf2 _ D3 ⟨2, [fX]⟩ [⟨(0, 1), bt, vl, vb, [ca1]⟩] [ca2] false _ := hS9
 refine de Z9 (ws fun _ Z10 => wr (dm ?_))
 refine cP ((show Calls Tryz.prog 22 [ptr bs 0, S [97]].toArray w8 (Pure w8 (.tuple #[S [], B false])) from by have h9 := stE_get hS [97] (by decide) (by simp) (by intro f hf; rw [List.mem_singleton.1 hf]; exact ⟨⟨_, rfl⟩, by unfold inI64; decide, by unfold inI64; decide⟩) (by decide); rw [getD2] at h9; exact h9)) RX.all fun w9 x9 => ?_
 replace hS := hS.ext x9
 replace hx := hx.trans x9
 refine dm ?_
 refine dx rfl rfl (dx rfl rfl (da (da (de Z10 (ws fun _ Z11 => wr (dm ?_))))))
 refine dp (pv_eql rfl rfl) (dm ?_)
 refine D_splitP 51 rfl (fun c3 => ?_) (fun c3 => ?_)
 ·
  refine dm ?_
  refine dk' ?_
  refine dm ?_
  refine dm ?_
  refine dk' ?_
  refine dm ?_
  refine dm ?_
  refine dp (pv_seq rfl rfl) (dk' ?_)
  refine dm ?_
  refine D_splitP 61 rfl (fun c4 => ?_) (fun c4 => ?_)
  ·
   refine dm ?_
   refine dn ?_
   refine dk' ?_
   refine dm ?_
   refine dm ?_
   refine cP (stE_seq hS) RX.all fun w10 x10 => ?_
   replace hx := hx.trans x10
   refine dp (pv_eql rfl rfl) (dk' ?_)
   refine da (de Z11 (W_ret ?_))
   refine ro ?_
   exact ⟨rfl, hx⟩
  exact absurd rfl c4
 exact absurd rfl c3
theorem law_nothing (key : Str) (n : Int) (w : World) (hgv : GV w) :
    Calls Tryz.prog 10 [S key, I n].toArray w (Pure w (B true)) := by
 refine cw Tryz.func10 ?_
 have hx := Ext.refl w
 refine ws fun _ Z1 => wr (da (de Z1 (ws fun _ Z2 => ws fun _ Z3 => wr (dm ?_))))
 refine dt rfl (dp (pv_gtr rfl rfl) (de Z3 (wi (fun c1 => ?_) fun c1 => ?_)))
 ·
  refine ws fun _ Z4 => wr (da (de Z4 (W_ret ?_)))
  refine ro ?_
  exact ⟨rfl, hx⟩
 refine W_skip (Z2 _ _ (ws fun _ Z5 => wr (da (de Z5 (ws fun _ Z6 => wr (dm (dm ?_)))))))
 refine cP (getN_w key _) RX.all fun w1 x1 => ?_
 replace hx := hx.trans x1
 refine dm ?_
 refine dx rfl rfl (dx rfl rfl (da (da (de Z6 (ws fun _ Z7 => wr (dm ?_))))))
 refine cP (flushN_w _) RX.all fun w2 x2 => ?_
 replace hx := hx.trans x2
 refine dm ?_
 refine dx rfl rfl (dx rfl rfl (da (da (de Z7 (ws fun _ Z8 => wr (dm ?_))))))
 refine cP (compactN_w _) RX.all fun w3 x3 => ?_
 replace hx := hx.trans x3
 refine dm ?_
 refine dx rfl rfl (dx rfl rfl (da (da (de Z8 (ws fun _ Z9 => wr ?_)))))
 refine cP (openN_w _) RX.all fun w4 x4 => ?_
 replace hx := hx.trans x4
 refine dm ?_
 refine dx rfl rfl (dx rfl rfl (da (da (de Z9 (ws fun _ Z10 => wr (dm ?_))))))
 refine cP (versionN_w _) RX.all fun w5 x5 => ?_
 replace hx := hx.trans x5
 refine D_alloc (cs := [.int .i64 0, .slice none 0 0]) rfl (by kernel_rfl) RX.all (fun b1 w6 e1 x6 m1 => ?_)
 have g1 := hx.ge e1
 replace hx := hx.trans x6
 refine stA m1 (fun w7 x7 xs7 m1 => ?_)
 try dsimp only [setAt, List.set, List.take, List.drop] at m1
 replace hx := hx.o1 x7
 refine de Z10 (ws fun _ Z11 => wr (dm (dm ?_)))
 refine db (zs := [S [], S [], B false]) (pl := [(0, 1), (1, 1), (2, 1)]) (pv := [(0, _)]) (cs := [_, S [], B false]) ?_
 refine li (e := 48) (sz := 3) (zs := [S [], S [], B false]) (pv := [(0, .agg ⟨[_, _, _]⟩)]) (cs := [_, _, _]) RX.all (fun b2 w8 e2 x8 m2 => ?_)
 have g2 := hx.ge e2
 have n2_1 := m1.ltb e2
 replace m1 := m1.ext x8
 replace hx := hx.trans x8
 refine cP (writeN_w _ _) RX.all fun w9 x9 => ?_
 replace m1 := m1.ext x9
 replace hx := hx.trans x9
 refine dp (pv_eql rfl rfl) (dm ?_)
 refine D_splitP 46 rfl (fun c2 => ?_) (fun c2 => ?_)
 ·
  refine dm ?_
  refine dp (pv_seq rfl rfl) (dk' ?_)
  refine dm ?_
  refine D_splitP 50 rfl (fun c3 => ?_) (fun c3 => ?_)
  ·
   refine dm ?_
   refine dn ?_
   refine dk' ?_
   refine dm ?_
   iterate 3 refine dm ?_
   refine cP (scanN_w key [] n _) RX.all fun w10 x10 => ?_
   replace m1 := m1.ext x10
   replace hx := hx.trans x10
   refine dp (pv_lenV (e := 48) (k := 3) (n := 0) (by kernel_rfl) (.inl ⟨rfl, rfl⟩) rfl) (dp (pv_eql rfl rfl) (dk' ?_))
   refine dm ?_
   refine D_splitP 62 rfl (fun c4 => ?_) (fun c4 => ?_)
   ·
    refine dm ?_
    refine dn ?_
    refine dk' ?_
    refine dm ?_
    refine dm ?_
    refine dp (pv_eql rfl rfl) (dk' ?_)
    refine dm ?_
    refine D_splitP 70 rfl (fun c5 => ?_) (fun c5 => ?_)
    ·
     refine dm ?_
     refine dn ?_
     refine dk' ?_
     refine dm ?_
     refine dm ?_
     refine dp (pv_eql rfl rfl) (dk' ?_)
     refine dm ?_
     refine D_splitP 78 rfl (fun c6 => ?_) (fun c6 => ?_)
     ·
      refine dm ?_
      refine cP (dueN_w _) RX.all fun w11 x11 => ?_
      replace m1 := m1.ext x11
      replace hx := hx.trans x11
      refine dn ?_
      refine dk' ?_
      refine dm ?_
      refine dm ?_
      refine cP (seqN_w _) RX.all fun w12 x12 => ?_
      replace m1 := m1.ext x12
      replace hx := hx.trans x12
      refine dp (pv_eql rfl rfl) (dk' ?_)
      refine dm ?_
      refine D_splitP 88 rfl (fun c7 => ?_) (fun c7 => ?_)
      ·
       refine df 0 rfl (dl rfl (m1.at rfl) (dp (pv_eql rfl rfl) (dk' ?_)))
       refine dm ?_
       refine D_splitP 93 rfl (fun c8 => ?_) (fun c8 => ?_)
       ·
        refine df 1 rfl (dl rfl (m1.at rfl) (dp (pv_lenV (e := 62) (k := 5) (n := 0) (by kernel_rfl) (.inl ⟨rfl, rfl⟩) rfl) (dp (pv_eql rfl rfl) (dk' ?_))))
        refine dm ?_
        refine D_splitP 99 rfl (fun c9 => ?_) (fun c9 => ?_)
        ·
         refine dm ?_
         refine cP (deadN_w _) RX.all fun w13 x13 => ?_
         replace hx := hx.trans x13
         refine dn ?_
         refine dk' ?_
         refine dm ?_
         refine dm ?_
         refine dp (pv_eqP (by kernel_rfl) rfl rfl) (dk' ?_)
         refine dm ?_
         refine D_splitP 108 rfl (fun c10 => ?_) (fun c10 => ?_)
         ·
          refine dm ?_
          refine dp (pv_eql rfl rfl) (dk' ?_)
          refine dm ?_
          refine D_splitP 112 rfl (fun c11 => ?_) (fun c11 => ?_)
          ·
           refine cP (known_w _ (hgv.ext hx)) RX.all fun w14 x14 => ?_
           replace hx := hx.trans x14
           refine dk' ?_
           refine da (de Z11 (W_ret ?_))
           refine ro ?_
           exact ⟨rfl, hx⟩
          exact absurd rfl c11
         exact absurd rfl c10
        exact absurd rfl c9
       exact absurd rfl c8
      exact absurd rfl c7
     exact absurd rfl c6
    exact absurd rfl c5
   exact absurd rfl c4
  exact absurd rfl c3
 exact absurd rfl c2
theorem tab_third {P : Program} {W : World} {name : String} {k : IntKind} {zs : List Int} {a b : String × DataW Unit} {g : Nat} {t e : TypeId} {n : Nat}
    (hg : P.globalNamed name = some g) (hty : (P.globals[g]?).map (·.type) = some t) (ht : P.underlying t = some (.array n e)) (he : P.underlying e = some (.int k)) (hce : P.cellsOf e = 1) (hct : P.cellsOf t = n)
    (h : laidMet P [a, b, (name, Lib.tabData k zs)] W) : Lib.TabIs P W name k zs := by
  obtain ⟨ps, hv, _⟩ := h
  obtain ⟨_, _, _, _, _, q1, _, _, _, _, hv, _⟩ := hv
  obtain ⟨_, _, _, _, _, q2, _, _, _, _, hv, _⟩ := hv
  obtain ⟨g', t', cs, fuel, p, q, hg', ht', hvar, hd, _, _⟩ := hv
  obtain rfl := Option.some.inj (hg.symm.trans hg')
  obtain rfl := Option.some.inj (hty.symm.trans ht')
  unfold Lib.TabIs
  rw [hvar, ← Lib.cells_of_tab ht he hce hct hd]
theorem pow_laid : (Rows.laid_internal_strconv_uint64pow10 : DataW Unit) = Lib.tabData .u64 Lib.pow10Tab := by rfl
theorem GV.of_row {a b : String × DataW Unit} {w : World} (_ : w.ShapedOpen Tryz.prog) (h : laidMet Tryz.prog [a, b, ("internal/strconv.uint64pow10", Rows.laid_internal_strconv_uint64pow10)] w) : GV w := by
  rw [pow_laid] at h
  exact ⟨tab_third (g := 1) (t := 366) (e := 236) (n := 20) (by kernel_rfl) (by kernel_rfl) (by kernel_rfl) (by kernel_rfl) (by kernel_rfl) (by kernel_rfl) h⟩
end Go.Proofs.YtiooodckiddpmaaGreatDoor
namespace Go.Vc
open Go.ChangeShapes Go.WideShapes Go.ChangeAt Go.RowKit
section
variable {H : Type} {enc : TypeId × Value → H} {P : Program} {W W' : World} {base : Nat}
def readB (P : Program) (t : TypeId) : Bool := P.readableRec t && decide (t < P.types.size)
theorem trodAll_ext (hl : laidOutB P = true) (hx : Ext W W') : ∀ {ts : List TypeId} {vs : List Value} {ds : List (DataW H)} {ps : List MemPlace}, ts.all (readB P) = true → DataW.TrodAll enc P W 0 (fun _ => true) true ts vs ds ps →
    (∀ p ∈ ps, p.block < W.heap.size) → DataW.TrodAll enc P W' 0 (fun b => decide (b < W.heap.size)) true ts vs ds ps
  | [], [], [], _, _, h, _ => h
  | t :: ts, v :: vs, d :: ds, ps, hr, h, hlt => by
    obtain ⟨p, q, h1, h2, rfl⟩ := h
    simp only [List.all_cons, Bool.and_eq_true] at hr
    have hr1 : P.readableRec t = true ∧ t < P.types.size := by simpa [readB] using hr.1
    exact ⟨p, q, Below.trod hl hr1.1 hr1.2 h1 hx.below (fun x hx => hlt x (by simp [hx])), trodAll_ext hl hx hr.2 h2 (fun x hx => hlt x (by simp [hx])), rfl⟩
  | [], [], _ :: _, _, _, h, _ => h.elim
  | [], _ :: _, _, _, _, h, _ => h.elim
  | _ :: _, [], _, _, _, h, _ => h.elim
  | _ :: _, _ :: _, [], _, _, h, _ => h.elim
theorem Ext.kept (hx : Ext W W') (may : MemPlace → Prop) : W.keptBut W' may := hx.below.frame may
theorem post_true {f : Func} {s : ChangeSpec} {fresh handsOn : Bool} {args : Array Value} {ds gs : List (DataW H)} {before : List MemPlace} {tb : TypeId} (hl : laidOutB P = true) (hts : f.params.toList.all (readB P) = true)
    (hrt : f.resultTypes = #[tb]) (hb : P.underlying tb = some .bool) (hv : s.vars = []) (hs : s.fn H ds = { results := [.lit (.bool true)], args := ds })
    (hW : DataW.Whole enc P f.params.toList s.vars false W args.toList ds gs before) (hx : Ext W W') : s.post enc P f false fresh handsOn false W args (.bool true) W' := by
  have hW' := hW
  obtain ⟨p, q, hA, hV, rfl, hfz, hnd⟩ := hW
  rw [hv] at hV
  obtain ⟨rfl, rfl⟩ := trodVars_none hV
  have hlt : ∀ x ∈ p, x.block < W.heap.size := fun x hx => by have := hW'.lt x (by simp [hx]); simpa using this
  have e : s.fn H (ds ++ []) = { results := [.lit (.bool true)], args := ds } := by rw [List.append_nil, hs]
  refine ⟨ds, [], p ++ [], [], p, [], hW', ?_, ?_, ?_, hx.kept _, fun h => by cases h⟩
  · rw [e, hrt]
    exact trodAll_mk1 (shut_bool hb true)
  · rw [e]; exact trodAll_ext hl hx hts hA hlt
  · rw [e, hv]; rfl
theorem opens_int {r : Reach} {b0 : Nat} {t : TypeId} {k : IntKind} {v : Value} {d : DataW H} {ps : List MemPlace} {sp : Nat → Bool} {hd : Bool} (ht : P.underlying t = some (.int k)) (hval : Value.okWide P W r b0 t v) (h : DataW.Trod enc P W base sp hd t v d ps) :
    ∃ n : Int, v = .int k n ∧ (Lit.int k n).wf = true := by
  obtain ⟨n, h1, _, _, h2⟩ := open_int ht hval h
  exact ⟨n, h1, h2⟩
theorem wf_i64 {n : Int} (h : (Lit.int .i64 n).wf = true) : inI64 n := by
  have : IntKind.i64.min ≤ n ∧ n ≤ IntKind.i64.max := by simpa [Lit.wf] using h
  simpa [inI64, IntKind.min, IntKind.max, IntKind.signed, IntKind.bits] using this
inductive Kd where
  | s
  | b
  | i (k : IntKind)
def kdOf (P : Program) (t : TypeId) : Option Kd := match P.underlying t with
  | some .string => some .s
  | some .bool => some .b
  | some (.int k) => some (.i k)
  | _ => none
def kdsOf (P : Program) : List Field → Nat → Option (List Kd)
  | [], _ => some []
  | f :: r, o => if f.offset == o && P.cellsOf f.type == 1 then (match kdOf P f.type, kdsOf P r (o + 1) with
    | some k, some ks => some (k :: ks)
    | _, _ => none) else none
def plainT (P : Program) (t : TypeId) : Option (List Kd) := match P.underlying t with
  | some (.struct fs) => kdsOf P fs.toList 0
  | _ => none
def likeK : List Kd → List Value → Prop
  | [], [] => True
  | .s :: r, v :: c => (∃ x : Str, v = S x ∧ x.length ≤ maxLen) ∧ likeK r c
  | .b :: r, v :: c => (∃ x : Bool, v = .bool x) ∧ likeK r c
  | .i k :: r, v :: c => (∃ x : Int, v = .int k x ∧ (Lit.int k x).wf = true) ∧ likeK r c
  | _, _ => False
end
variable {H : Type} {enc : TypeId × Value → H}
theorem handed_and_shaped {a : Assume} {C : Checked} {os : Os} {f : FuncId} {fn : Func} {s : ChangeSpec} {conds : List PathCond} {apart fresh handsOn again : Bool} {X : World → Array Value → Prop}
    (hX : ∀ (w w' : World) (args : Array Value), w.heap = w'.heap → X w args → X w' args)
    (own : ownKnob C.prog.godebug = none) (started : os.Started) (noInit : C.prog.inits.idxOf? f = none) (hfn : C.prog.funcs[f]? = some fn)
    (witness : ∃ (w : World) (tape : Tape) (i : Input), w.os = os ∧ (w.forCall tape i).Shaped C.prog ∧ i.vars = [] ∧ Input.okWide C.prog (w.forCall tape i) .any w.heap.size f i ∧
      ((s.pre enc C.prog fn conds apart (w.forCall tape i).memory i.args ∧ X (w.forCall tape i).memory i.args) ∧ sizedMet enc C.prog fn (OpenSpec.ofChange s) apart (w.forCall tape i).memory i.args) ∧ a.holds C.prog (lone (Frame.enter C.prog f i.args .normal) [] (w.forCall tape i)))
    (contract : ∀ (W : World) (base : Nat) (args : Array Value) (ds gs : List (DataW H)) (before : List MemPlace),
      (∀ (j : Nat) t v, fn.params[j]? = some t → args[j]? = some v → Value.okWide C.prog W .any base t v) →
      DataW.Whole enc C.prog fn.params.toList s.vars apart W args.toList ds gs before →
      (DataW.weightsEach C.prog (fn.params.toList ++ s.plain.varTypes C.prog) (ds ++ gs)).all (· ≤ reachBytes) = true → X W args → W.ShapedOpen C.prog →
      Calls C.prog f args W fun e W' => ∃ v, e = .returned v ∧ s.post enc C.prog fn apart fresh handsOn again W args v W') :
    ReturnsInHanded a C os f .any (fun w args => (s.pre enc C.prog fn conds apart w args ∧ X w args) ∧ sizedMet enc C.prog fn (OpenSpec.ofChange s) apart w args) (s.post enc C.prog fn apart fresh handsOn again) := by
  refine returnsInHanded_of_calls own started noInit witness ?_
  intro w tape i _ hsh _ hok hpre _
  obtain ⟨_, _, _, fn', hfn', _, _, _, _, hval⟩ := hok
  have e : fn' = fn := Option.some.inj (hfn'.symm.trans hfn)
  subst e
  obtain ⟨⟨⟨ds, gs, before, hw, _⟩, hx⟩, hz⟩ := hpre
  have hw' := DataW.Whole.of_heap (w' := w.forCall tape i) (by rfl) hw
  refine (contract (w.forCall tape i) w.heap.size i.args ds gs before hval hw' (hz.weights hw) (hX _ _ _ (by rfl) hx) hsh).mono fun e W' ⟨v, he, hp⟩ => ?_
  subst he
  exact ChangeSpec.post_blind hp
theorem opens_text {P : Program} {W : World} {base : Nat} {r : Reach} {b0 : Nat} {t : TypeId} {v : Value} {d : DataW H} {ps : List MemPlace} {sp : Nat → Bool} {hd : Bool} (ht : P.underlying t = some .string) (hval : Value.okWide P W r b0 t v) (h : DataW.Trod enc P W base sp hd t v d ps) :
    ∃ s : Str, v = S s ∧ d = .lit (.string s) := by
  obtain ⟨s, rfl⟩ := okWide_string ht hval
  obtain ⟨n, h⟩ := h
  obtain ⟨s', h1, h2, _⟩ := DataW.trod_string ht h
  have e : s = s' := by simpa [Value.cells] using h1
  subst e
  refine ⟨s.data.toList, rfl, ?_⟩
  have := congrArg Prod.fst h2
  simpa using this
theorem sized_text {P : Program} {ts : List TypeId} {ds : List (DataW H)} (h : (DataW.weightsEach P ts ds).all (· ≤ reachBytes) = true) {j : Nat} {t : TypeId} {s : Str} (ht : ts[j]? = some t) (hd : ds[j]? = some (.lit (.string s))) : s.length ≤ 140737488355328 := by
  have h1 := sized_string h ht hd
  have h2 := reachBytes_lt
  omega
end Go.Vc
