/-
  A part of the proof: StB ChA SpTell VcGr MgA MkA KeA OpA.
-/
import Derived.Test.YtiooodckiddpmaaGreatDoorPkA
import Derived.Test.YtiooodckiddpmaaGreatDoorChecked
import Derived.KernelRfl
import Derived.Test.YtiooodckiddpmaaGreatDoorPkF
import Derived.Test.YtiooodckiddpmaaGreatDoorPkD
import Derived.Test.YtiooodckiddpmaaGreatDoorPkE
import Derived.Test.YtiooodckiddpmaaGreatDoorPkB
import Derived.Lib.ItoaLen
set_option maxRecDepth 100000
set_option maxHeartbeats 4000000
set_option linter.unusedVariables false
set_option linter.unusedSimpArgs false
namespace Go.Proofs.YtiooodckiddpmaaGreatDoor
open Go.Vc Go.Sp
attribute [local irreducible] W XW Dw DwT
theorem insF_w (l : List Fi) (v : Value) (Bo f : Nat) (c : Fi → Fi → Int) (w : World) (ho : Vc.Own Fi.cs 5 62 Bo w v l) (hl : l.length ≤ 10000000) (hcb : callB Tryz.prog f = true) (hc : ∀ w2 x y, Calls Tryz.prog f [Fi.v x, Fi.v y].toArray w2 (Pure w2 (I (c x y)))) (O : Ord (ltC c)) (a b : Nat) (hab : a ≤ b) (hb : b ≤ l.length) :
    Calls Tryz.prog 302 [v, I ↑a, I ↑b, fnV f].toArray w (Does (fun k => v.ownBlock = some k) w (fun u w' => u = .tuple #[] ∧ ∃ l', Vc.Own Fi.cs 5 62 Bo w' v l' ∧ Srt (ltC c) a b l l')) := by
 refine cw Tryz.func302 ?_
 have hx := Vc.Mod.refl (fun k => v.ownBlock = some k) w
 refine ws fun _ Z1 => wr (dm ?_)
 refine pa rfl rfl (da (de Z1 (W_block ?_)))
 refine W_loop (G := Nat × List Fi) (fun (i, cur) => [(0, v), (1, I ↑a), (2, I ↑b), (3, fnV f), (8, I ↑i)]) (fun (i, cur) w' => Mod (fun k => v.ownBlock = some k) w w' ∧ a + 1 ≤ i ∧ Srt (ltC c) a (min i b) l cur ∧ Vc.Own Fi.cs 5 62 Bo w' v cur) (fun (i, cur) => b - i) (a + 1, l) ?_ ?_ ?_
 · exact ⟨rfl, rfl, rfl, rfl, rfl, trivial⟩
 · exact ⟨hx, Nat.le_refl _, Srt.one l (by omega) (by omega) (by omega), ho⟩
 intro X1 g1 w1 hF1
 obtain ⟨i, cur⟩ := g1
 clear hx ho
 obtain ⟨hx, hi1, hs, ho⟩ := hF1
 refine ws fun _ Z2 => ws fun _ Z3 => wr (dm (dm ?_))
 refine dp (pv_lss rfl rfl) (de Z3 (wi (fun c1 => ?_) fun c1 => ?_))
 ·
  have hs2 : Srt (ltC c) a i l cur := by rw [Nat.min_eq_left (by omega)] at hs; exact hs
  refine W_skip (Z2 _ _ (ws fun _ Z4 => W_block (ws fun _ Z5 => wr (dm (da (de Z5 (W_block ?_)))))))
  refine W_loop (G := Nat × List Fi) (fun (j, cur2) => [(0, v), (1, I ↑a), (2, I ↑b), (3, fnV f), (8, I ↑i), (9, I ↑j)]) (fun (j, cur2) w' => Mod (fun k => v.ownBlock = some k) w w' ∧ InsJ (ltC c) a i j l cur2 ∧ Vc.Own Fi.cs 5 62 Bo w' v cur2) (fun (j, cur2) => j) (i, cur) ?_ ?_ ?_
  · exact ⟨rfl, rfl, rfl, rfl, rfl, rfl, trivial⟩
  · exact ⟨hx, insJ_0 hs2 (by omega), ho⟩
  intro X2 g2 w2 hF2
  obtain ⟨j, cur2⟩ := g2
  clear hx ho
  obtain ⟨hx, hj, ho⟩ := hF2
  refine ws fun _ Z6 => ws fun _ Z7 => W_draw (R := Ext) Ext.refl (fun _ _ _ => Ext.trans) (by kernel_rfl) [8, 13] [(0, .p, false), (1, .p, false), (2, .p, false), (3, .p, false), (4, .p, false), (5, .p, false), (6, .p, false), (7, .p, false), (8, .l, false), (9, .p, false), (10, .p, false), (11, .p, false), (12, .p, false), (13, .l, false), (14, .x, true), (15, .p, false), (16, .p, false)] rfl (by kernel_rfl) (by kernel_rfl) (fun w3 ew3 => ?_)
  have x3 := drewx ew3
  clear ew3
  replace ho := ho.ext x3
  replace hx := hx.ext x3
  iterate 2 refine dm ?_
  refine dp (pv_gtr rfl rfl) (dm ?_)
  refine D_splitP 21 rfl (fun c2 => ?_) (fun c2 => ?_)
  ·
   have hjl := hj.len
   obtain ⟨x, hxj⟩ : ∃ x, cur2[j]? = some x := ⟨_, List.getElem?_eq_getElem (by omega)⟩
   obtain ⟨z, hzj⟩ : ∃ x, cur2[j - 1]? = some x := ⟨_, List.getElem?_eq_getElem (by omega)⟩
   have hb0 := own_ptr ho (fun e => by rw [e] at hxj; simp at hxj)
   iterate 3 refine dm ?_
   refine di 62 5 (ho.arr (by intro x; rfl)).sl rfl ((ho.arr (by intro x; rfl)).lt hxj) (D_l rfl (fun w' hR => lv_loadA (by kernel_rfl) rfl rfl (((ho.arr (by intro x; rfl)).ext hR).row hxj)) (dm (dm ?_)))
   refine D_pe (v := I ↑(j - 1)) rfl (pv_sub rfl rfl (by unfold inI64; omega)) (by show I _ = I _; first | rfl | (congr 1; omega)) (di 62 5 (ho.arr (by intro x; rfl)).sl rfl ((ho.arr (by intro x; rfl)).lt hzj) (D_l rfl (fun w' hR => lv_loadA (by kernel_rfl) rfl rfl (((ho.arr (by intro x; rfl)).ext hR).row hzj)) (D_callVP (vs := [x.v, z.v]) rfl rfl hcb (hc _ x z) rfl RX.all (fun w4 x4 => ?_))))
   replace ho := ho.ext x4
   replace hx := hx.ext x4
   refine dp (pv_lss rfl rfl) (dk' (de Z7 ?_))
   refine wi (fun c3 => ?_) fun c3 => ?_
   ·
    have hlt : ltC c x z = true := by simpa [ltC] using c3
    refine W_skip (Z6 _ _ (ws fun _ Z8 => W_block (W_draw (R := Ext) Ext.refl (fun _ _ _ => Ext.trans) (by kernel_rfl) [9, 13] [(0, .p, false), (1, .p, false), (2, .p, false), (3, .p, false), (4, .p, false), (5, .p, false), (6, .p, false), (7, .p, false), (8, .p, false), (9, .l, false), (10, .p, false), (11, .p, false), (12, .p, false), (13, .l, false), (14, .p, false), (15, .x, true), (16, .p, false), (17, .x, true)] rfl (by kernel_rfl) (by kernel_rfl) (fun w5 ew5 => ?_))))
    have x5 := drewx ew5
    clear ew5
    replace ho := ho.ext x5
    replace hx := hx.ext x5
    iterate 4 refine dm ?_
    refine D_pe (v := I ↑(j - 1)) rfl (pv_sub rfl rfl (by unfold inI64; omega)) (by show I _ = I _; first | rfl | (congr 1; omega)) (dm (dm ?_))
    refine D_pe (v := I ↑(j - 1)) rfl (pv_sub rfl rfl (by unfold inI64; omega)) (by show I _ = I _; first | rfl | (congr 1; omega)) (di 62 5 (ho.arr (by intro x; rfl)).sl rfl ((ho.arr (by intro x; rfl)).lt hzj) (D_l rfl (fun w' hR => lv_loadA (by kernel_rfl) rfl rfl (((ho.arr (by intro x; rfl)).ext hR).row hzj)) (dm (dm ?_))))
    refine di 62 5 (ho.arr (by intro x; rfl)).sl rfl ((ho.arr (by intro x; rfl)).lt hxj) (D_l rfl (fun w' hR => lv_loadA (by kernel_rfl) rfl rfl (((ho.arr (by intro x; rfl)).ext hR).row hxj)) (D_pe (v := ptr (base v).1 (j * 5 + 0)) rfl (pv_idxA (i := j) (e := 62) (k := 5) (by kernel_rfl) ho.sl rfl rfl (by first | omega | (rw [List.length_set]; omega))) (by rw [hb0]; show ptr _ (0 + _) = _; rw [Nat.zero_add]; rfl) ?_))
    refine D_storeO (enc := Fi.cs) (sz := 5) (l := cur2) (i := j) (j := 0) (x := z) (vs := z.cs) (by intro x; rfl) rfl ho rfl rfl rfl (by kernel_rfl) (by first | omega | (rw [List.length_set]; omega)) rfl (Nat.le_refl 5) (by intro v hv; simp at hv; rcases hv with rfl | rfl | rfl | rfl | rfl <;> rfl) (.inl rfl) (fun w6 x6 xs6 ho_n => ?_)
    replace hx := hx.own x6 (fun i hi hlt => hi)
    replace ho := ho_n
    refine D_pe (v := ptr (base v).1 ((j - 1) * 5 + 0)) rfl (pv_idxA (i := (j - 1)) (e := 62) (k := 5) (by kernel_rfl) ho.sl rfl rfl (by first | omega | (rw [List.length_set]; omega))) (by rw [hb0]; show ptr _ (0 + _) = _; rw [Nat.zero_add]; rfl) ?_
    refine D_storeO (enc := Fi.cs) (sz := 5) (l := (cur2.set j z)) (i := (j - 1)) (j := 0) (x := x) (vs := x.cs) (by intro x; rfl) rfl ho rfl rfl rfl (by kernel_rfl) (by first | omega | (rw [List.length_set]; omega)) rfl (Nat.le_refl 5) (by intro v hv; simp at hv; rcases hv with rfl | rfl | rfl | rfl | rfl <;> rfl) (.inl rfl) (fun w7 x7 xs7 ho_n => ?_)
    replace hx := hx.own x7 (fun i hi hlt => hi)
    replace ho := ho_n
    refine de Z8 (wr (dm ?_))
    refine D_pe (v := I ↑(j - 1)) rfl (pv_sub rfl rfl (by unfold inI64; omega)) (by show I _ = I _; first | rfl | (congr 1; omega)) (da (D_end (?_)))
    exact ⟨(j - 1, _), ⟨rfl, rfl, rfl, rfl, rfl, rfl, trivial⟩, ⟨hx, insJ_step hj (by omega) hxj hzj hlt, ho⟩, by simp only []; omega⟩
   have hst : Srt (ltC c) a (i + 1) l cur2 := insJ_stop O hj (.inr ⟨x, z, hxj, hzj, by simpa [ltC] using c3⟩)
   refine W_exit (Z4 _ _ (wr (dm ?_)))
   refine pa rfl rfl (da (D_end (?_)))
   exact ⟨(i + 1, cur2), ⟨rfl, rfl, rfl, rfl, rfl, trivial⟩, ⟨hx, by omega, by rw [Nat.min_eq_left (by omega)]; exact hst, ho⟩, by simp only []; omega⟩
  have hjl := hj.len
  have hst : Srt (ltC c) a (i + 1) l cur2 := insJ_stop O hj (.inl (by omega))
  iterate 12 refine dk ?_
  refine dk' (de Z7 ?_)
  refine W_f rfl (W_exit (Z4 _ _ (wr (dm ?_))))
  refine pa rfl rfl (da (D_end (?_)))
  exact ⟨(i + 1, cur2), ⟨rfl, rfl, rfl, rfl, rfl, trivial⟩, ⟨hx, by omega, by rw [Nat.min_eq_left (by omega)]; exact hst, ho⟩, by simp only []; omega⟩
 refine W_exit (norm_ret (ret_none rfl ?_))
 rw [Nat.min_eq_right (by omega)] at hs
 exact ⟨_, rfl, hx, rfl, cur, ho, hs⟩
theorem swpF_w (l : List Fi) (v : Value) (Bo f : Nat) (w : World) (ho : Vc.Own Fi.cs 5 62 Bo w v l) (hl : l.length ≤ 10000000) (a b n : Nat) (h1 : a + n ≤ b) (h2 : b + n ≤ l.length) :
    Calls Tryz.prog 337 [v, I ↑a, I ↑b, I ↑n, fnV f].toArray w (Does (fun k => v.ownBlock = some k) w (fun u w' => u = .tuple #[] ∧ ∃ l', Vc.Own Fi.cs 5 62 Bo w' v l' ∧ Swp a b n l l')) := by
 refine cw Tryz.func337 ?_
 have hx := Vc.Mod.refl (fun k => v.ownBlock = some k) w
 refine ws fun _ Z1 => wr (da (de Z1 (W_block ?_)))
 refine W_loop (G := Nat × List Fi) (fun (i, cur) => [(0, v), (1, I ↑a), (2, I ↑b), (3, I ↑n), (10, I ↑i)]) (fun (i, cur) w' => Mod (fun k => v.ownBlock = some k) w w' ∧ SwR a b n i l cur ∧ Vc.Own Fi.cs 5 62 Bo w' v cur) (fun (i, cur) => n - i) (0, l) ?_ ?_ ?_
 · exact ⟨rfl, rfl, rfl, rfl, rfl, trivial⟩
 · exact ⟨hx, swR_0 h1 h2, ho⟩
 intro X1 g1 w1 hF1
 obtain ⟨i, cur⟩ := g1
 clear hx ho
 obtain ⟨hx, hr, ho⟩ := hF1
 refine ws fun _ Z2 => ws fun _ Z3 => wr (dm (dm ?_))
 refine dp (pv_lss rfl rfl) (de Z3 (wi (fun c1 => ?_) fun c1 => ?_))
 ·
  have hln := hr.len
  obtain ⟨x, hxi⟩ : ∃ x, cur[a + i]? = some x := ⟨_, List.getElem?_eq_getElem (by omega)⟩
  obtain ⟨y, hyi⟩ : ∃ x, cur[b + i]? = some x := ⟨_, List.getElem?_eq_getElem (by omega)⟩
  have hb0 := own_ptr ho (fun e => by rw [e] at hxi; simp at hxi)
  refine W_skip (Z2 _ _ (ws fun _ Z4 => W_block (W_draw (R := Ext) Ext.refl (fun _ _ _ => Ext.trans) (by kernel_rfl) [13, 19] [(0, .p, false), (1, .p, false), (2, .p, false), (3, .p, false), (4, .p, false), (5, .p, false), (6, .p, false), (7, .p, false), (8, .p, false), (9, .p, false), (10, .p, false), (11, .p, false), (12, .p, false), (13, .l, false), (14, .p, false), (15, .p, false), (16, .p, false), (17, .p, false), (18, .p, false), (19, .l, false), (20, .p, false), (21, .x, true), (22, .p, false), (23, .x, true)] rfl (by kernel_rfl) (by kernel_rfl) (fun w2 ew2 => ?_))))
  have x2 := drewx ew2
  clear ew2
  replace ho := ho.ext x2
  replace hx := hx.ext x2
  iterate 3 refine dm ?_
  refine D_pe (v := I ↑(a + i)) rfl (pv_add rfl rfl (by unfold inI64; omega)) rfl (dm (dm (dm ?_)))
  refine D_pe (v := I ↑(b + i)) rfl (pv_add rfl rfl (by unfold inI64; omega)) rfl (dm (dm (dm ?_)))
  refine D_pe (v := I ↑(b + i)) rfl (pv_add rfl rfl (by unfold inI64; omega)) rfl (di 62 5 (ho.arr (by intro x; rfl)).sl rfl ((ho.arr (by intro x; rfl)).lt hyi) (D_l rfl (fun w' hR => lv_loadA (by kernel_rfl) rfl rfl (((ho.arr (by intro x; rfl)).ext hR).row hyi)) (dm (dm (dm ?_)))))
  refine D_pe (v := I ↑(a + i)) rfl (pv_add rfl rfl (by unfold inI64; omega)) rfl (di 62 5 (ho.arr (by intro x; rfl)).sl rfl ((ho.arr (by intro x; rfl)).lt hxi) (D_l rfl (fun w' hR => lv_loadA (by kernel_rfl) rfl rfl (((ho.arr (by intro x; rfl)).ext hR).row hxi)) (D_pe (v := ptr (base v).1 ((a + i) * 5 + 0)) rfl (pv_idxA (i := (a + i)) (e := 62) (k := 5) (by kernel_rfl) ho.sl rfl rfl (by first | omega | (rw [List.length_set]; omega))) (by rw [hb0]; show ptr _ (0 + _) = _; rw [Nat.zero_add]; rfl) ?_)))
  refine D_storeO (enc := Fi.cs) (sz := 5) (l := cur) (i := (a + i)) (j := 0) (x := y) (vs := y.cs) (by intro x; rfl) rfl ho rfl rfl rfl (by kernel_rfl) (by first | omega | (rw [List.length_set]; omega)) rfl (Nat.le_refl 5) (by intro v hv; simp at hv; rcases hv with rfl | rfl | rfl | rfl | rfl <;> rfl) (.inl rfl) (fun w3 x3 xs3 ho_n => ?_)
  replace hx := hx.own x3 (fun i hi hlt => hi)
  replace ho := ho_n
  refine D_pe (v := ptr (base v).1 ((b + i) * 5 + 0)) rfl (pv_idxA (i := (b + i)) (e := 62) (k := 5) (by kernel_rfl) ho.sl rfl rfl (by first | omega | (rw [List.length_set]; omega))) (by rw [hb0]; show ptr _ (0 + _) = _; rw [Nat.zero_add]; rfl) ?_
  refine D_storeO (enc := Fi.cs) (sz := 5) (l := (cur.set (a + i) y)) (i := (b + i)) (j := 0) (x := x) (vs := x.cs) (by intro x; rfl) rfl ho rfl rfl rfl (by kernel_rfl) (by first | omega | (rw [List.length_set]; omega)) rfl (Nat.le_refl 5) (by intro v hv; simp at hv; rcases hv with rfl | rfl | rfl | rfl | rfl <;> rfl) (.inl rfl) (fun w4 x4 xs4 ho_n => ?_)
  replace hx := hx.own x4 (fun i hi hlt => hi)
  replace ho := ho_n
  refine de Z4 (wr (dm ?_))
  refine pa rfl rfl (da (D_end (?_)))
  exact ⟨(i + 1, _), ⟨rfl, rfl, rfl, rfl, rfl, trivial⟩, ⟨hx, swR_step hr (by omega) hxi hyi, ho⟩, by simp only []; omega⟩
 refine W_exit (norm_ret (ret_none rfl ?_))
 have hln := hr.len
 rw [show i = n by omega] at hr
 exact ⟨_, rfl, hx, rfl, cur, ho, swR_end hr⟩
theorem rotF_w (l : List Fi) (v : Value) (Bo f : Nat) (w : World) (ho : Vc.Own Fi.cs 5 62 Bo w v l) (hl : l.length ≤ 10000000) (a m b : Nat) (h1 : a < m) (h2 : m < b) (h3 : b ≤ l.length) :
    Calls Tryz.prog 327 [v, I ↑a, I ↑m, I ↑b, fnV f].toArray w (Does (fun k => v.ownBlock = some k) w (fun u w' => u = .tuple #[] ∧ ∃ l', Vc.Own Fi.cs 5 62 Bo w' v l' ∧ l' = rotT l a m b)) := by
 refine cw Tryz.func327 ?_
 have hx := Vc.Mod.refl (fun k => v.ownBlock = some k) w
 refine ws fun _ Z1 => wr (dm (dm ?_))
 refine D_pe (v := I ↑(m - a)) rfl (pv_sub rfl rfl (by unfold inI64; omega)) (by show I _ = I _; first | rfl | (congr 1; omega)) (da (de Z1 (ws fun _ Z2 => wr (dm (dm ?_)))))
 refine D_pe (v := I ↑(b - m)) rfl (pv_sub rfl rfl (by unfold inI64; omega)) (by show I _ = I _; first | rfl | (congr 1; omega)) (da (de Z2 (ws fun _ Z3 => W_block ?_)))
 refine W_loop (G := Nat × Nat × List Fi) (fun (i, j, cur) => [(0, v), (2, I ↑m), (4, fnV f), (10, I ↑i), (11, I ↑j)]) (fun (i, j, cur) w' => Mod (fun k => v.ownBlock = some k) w w' ∧ 0 < i ∧ 0 < j ∧ cur.length = l.length ∧ RotI m i j (rotT l a m b) cur ∧ Vc.Own Fi.cs 5 62 Bo w' v cur) (fun (i, j, cur) => i + j) (m - a, b - m, l) ?_ ?_ ?_
 · exact ⟨rfl, rfl, rfl, rfl, rfl, trivial⟩
 · exact ⟨hx, by omega, by omega, rfl, rot_0 (by omega) (by omega) h3, ho⟩
 intro X1 g1 w1 hF1
 obtain ⟨i, j, cur⟩ := g1
 clear hx ho
 obtain ⟨hx, hi0, hj0, hcl, hr, ho⟩ := hF1
 refine ws fun _ Z4 => ws fun _ Z5 => wr (dm (dm ?_))
 refine dp (pv_neq rfl rfl) (de Z5 (wi (fun c1 => ?_) fun c1 => ?_))
 ·
  have hln := hr.len
  refine W_skip (Z4 _ _ (W_block (ws fun _ Z6 => wr (dm (dm ?_)))))
  refine dp (pv_gtr rfl rfl) (de Z6 (wi (fun c2 => ?_) fun c2 => ?_))
  ·
   refine ws fun _ Z7 => wr (dm (dm (dm ?_)))
   refine D_pe (v := I ↑(m - i)) rfl (pv_sub rfl rfl (by unfold inI64; omega)) (by show I _ = I _; first | rfl | (congr 1; omega)) (dm (dm (dm ?_)))
   refine cD (swpF_w cur v Bo f _ ho (by omega) (m - i) m j (by omega) (by omega)) (.inl rfl) fun u2 w2 x2 hf2 => ?_
   have hsz2 := hx.size
   replace hx := hx.own x2 (fun i hi hlt => hi)
   obtain ⟨rfl, cur1, ho, hsw⟩ := hf2
   refine de Z7 (wr (dm (dm ?_)))
   refine D_pe (v := I ↑(i - j)) rfl (pv_sub rfl rfl (by unfold inI64; omega)) (by show I _ = I _; first | rfl | (congr 1; omega)) (da (D_end (?_)))
   have hr2 := rot_gt hr (by omega) hsw
   exact ⟨(i - j, j, cur1), ⟨rfl, rfl, rfl, rfl, rfl, trivial⟩, ⟨hx, by omega, hj0, (hr2.len.1.trans (hr.len.1.symm.trans hcl)), hr2, ho⟩, by simp only []; omega⟩
  refine ws fun _ Z8 => wr (dm (dm (dm ?_)))
  refine D_pe (v := I ↑(m - i)) rfl (pv_sub rfl rfl (by unfold inI64; omega)) (by show I _ = I _; first | rfl | (congr 1; omega)) (dm (dm ?_))
  refine D_pe (v := I ↑(m + j)) rfl (pv_add rfl rfl (by unfold inI64; omega)) rfl (dm ?_)
  refine D_pe (v := I ↑(m + j - i)) rfl (pv_sub rfl rfl (by unfold inI64; omega)) (by show I _ = I _; first | rfl | (congr 1; omega)) (dm (dm ?_))
  refine cD (swpF_w cur v Bo f _ ho (by omega) (m - i) (m + j - i) i (by omega) (by omega)) (.inl rfl) fun u3 w3 x3 hf3 => ?_
  have hsz3 := hx.size
  replace hx := hx.own x3 (fun i hi hlt => hi)
  obtain ⟨rfl, cur1, ho, hsw⟩ := hf3
  refine de Z8 (wr (dm (dm ?_)))
  refine D_pe (v := I ↑(j - i)) rfl (pv_sub rfl rfl (by unfold inI64; omega)) (by show I _ = I _; first | rfl | (congr 1; omega)) (da (D_end (?_)))
  have hr2 := rot_lt hr (by omega) hsw
  exact ⟨(i, j - i, cur1), ⟨rfl, rfl, rfl, rfl, rfl, trivial⟩, ⟨hx, hi0, by omega, (hr2.len.1.trans (hr.len.1.symm.trans hcl)), hr2, ho⟩, by simp only []; omega⟩
 have hln := hr.len
 have hij : i = j := by omega
 subst hij
 refine W_exit (Z3 _ _ (wr (dm (dm (dm ?_)))))
 refine D_pe (v := I ↑(m - i)) rfl (pv_sub rfl rfl (by unfold inI64; omega)) (by show I _ = I _; first | rfl | (congr 1; omega)) (dm (dm (dm ?_)))
 refine cD (swpF_w cur v Bo f _ ho (by omega) (m - i) m i (by omega) (by omega)) (.inl rfl) fun u4 w4 x4 hf4 => ?_
 have hsz4 := hx.size
 replace hx := hx.own x4 (fun i hi hlt => hi)
 obtain ⟨rfl, cur1, ho, hsw⟩ := hf4
 refine D_end ((norm_ret (ret_none rfl ?_)))
 exact ⟨_, rfl, hx, rfl, cur1, ho, rot_eq hr hsw⟩
def SymOkF (v : Value) (Bo f : Nat) (c : Fi → Fi → Int) (N : Nat) : Prop := ∀ (l : List Fi) (w : World) (a m b : Nat), b - a < N → Vc.Own Fi.cs 5 62 Bo w v l → l.length ≤ 10000000 → a < m → m < b → b ≤ l.length → SM (ltC c) a m b l → Calls Tryz.prog 303 [v, I ↑a, I ↑m, I ↑b, fnV f].toArray w (Does (fun k => v.ownBlock = some k) w (fun u w' => u = .tuple #[] ∧ ∃ l', Vc.Own Fi.cs 5 62 Bo w' v l' ∧ Srt (ltC c) a b l l'))
theorem symF_w (l : List Fi) (v : Value) (Bo f : Nat) (c : Fi → Fi → Int) (w : World) (ho : Vc.Own Fi.cs 5 62 Bo w v l) (hl : l.length ≤ 10000000) (hcb : callB Tryz.prog f = true) (hc : ∀ w2 x y, Calls Tryz.prog f [Fi.v x, Fi.v y].toArray w2 (Pure w2 (I (c x y)))) (O : Ord (ltC c)) (a m b : Nat) (ham : a < m) (hmb : m < b) (hb : b ≤ l.length) (hsm : SM (ltC c) a m b l) (ih : SymOkF v Bo f c (b - a)) :
    Calls Tryz.prog 303 [v, I ↑a, I ↑m, I ↑b, fnV f].toArray w (Does (fun k => v.ownBlock = some k) w (fun u w' => u = .tuple #[] ∧ ∃ l', Vc.Own Fi.cs 5 62 Bo w' v l' ∧ Srt (ltC c) a b l l')) := by
 refine cw Tryz.func303 ?_
 have hx := Vc.Mod.refl (fun k => v.ownBlock = some k) w
 refine ws fun _ Z1 => ws fun _ Z2 => wr (dm (dm ?_))
 refine ps rfl rfl (dp (pv_eql rfl rfl) (de Z2 (wi (fun c1 => ?_) fun c1 => ?_)))
 ·
  have hm1 : m = a + 1 := by omega
  refine ws fun _ Z3 => wr (dm (da (de Z3 (ws fun _ Z4 => wr (dm (da (de Z4 (ws fun _ Z5 => W_block ?_))))))))
  refine W_loop (G := Nat × Nat) (fun (i, j) => [(0, v), (1, I ↑a), (2, I ↑m), (3, I ↑b), (4, fnV f), (10, I ↑i), (11, I ↑j)]) (fun (i, j) w' => Mod (fun k => v.ownBlock = some k) w w' ∧ m ≤ i ∧ i ≤ j ∧ j ≤ b ∧ (j = b ∨ ∃ x y, l[a]? = some x ∧ l[j]? = some y ∧ ltC c y x = false) ∧ (i = m ∨ ∃ x y, l[a]? = some x ∧ l[i - 1]? = some y ∧ ltC c y x = true) ∧ Vc.Own Fi.cs 5 62 Bo w' v l) (fun (i, j) => j - i) (m, b) ?_ ?_ ?_
  · exact ⟨rfl, rfl, rfl, rfl, rfl, rfl, rfl, trivial⟩
  · exact ⟨hx, Nat.le_refl _, by omega, Nat.le_refl _, .inl rfl, .inl rfl, ho⟩
  intro X1 g1 w1 hF1
  obtain ⟨i, j⟩ := g1
  clear hx ho
  obtain ⟨hx, hi, hij, hjb, hup, hlo, ho⟩ := hF1
  refine ws fun _ Z6 => ws fun _ Z7 => wr (dm (dm ?_))
  refine dp (pv_lss rfl rfl) (de Z7 (wi (fun c2 => ?_) fun c2 => ?_))
  ·
   obtain ⟨x, hxa⟩ : ∃ x, l[a]? = some x := ⟨_, List.getElem?_eq_getElem (by omega)⟩
   obtain ⟨y, hyh⟩ : ∃ x, l[(i + j) / 2]? = some x := ⟨_, List.getElem?_eq_getElem (by omega)⟩
   refine W_skip (Z6 _ _ (W_block (ws fun _ Z8 => wr (dm (dm ?_)))))
   refine D_pe (v := I ↑(i + j)) rfl (pv_add rfl rfl (by unfold inI64; omega)) rfl (D_pe (v := .int .u64 ↑(i + j)) rfl (pv_to64 (n := i + j) (k := .i64) (by omega) rfl (by kernel_rfl) (by kernel_rfl)) rfl (dp (pv_shrA1 (u := i + j) rfl rfl) (dp (pv_of64 (n := (i + j) / 2) (by omega) rfl (by kernel_rfl) (by kernel_rfl)) (da (de Z8 (ws fun _ Z9 => ?_))))))
   refine W_draw (R := Ext) Ext.refl (fun _ _ _ => Ext.trans) (by kernel_rfl) [4, 8] [(0, .p, false), (1, .p, false), (2, .p, false), (3, .p, false), (4, .l, false), (5, .p, false), (6, .p, false), (7, .p, false), (8, .l, false), (9, .x, true), (10, .p, false)] rfl (by kernel_rfl) (by kernel_rfl) (fun w2 ew2 => ?_)
   have x2 := drewx ew2
   clear ew2
   replace ho := ho.ext x2
   replace hx := hx.ext x2
   iterate 3 refine dm ?_
   refine di 62 5 (ho.arr (by intro x; rfl)).sl rfl ((ho.arr (by intro x; rfl)).lt hyh) (D_l rfl (fun w' hR => lv_loadA (by kernel_rfl) rfl rfl (((ho.arr (by intro x; rfl)).ext hR).row hyh)) (dm (dm ?_)))
   refine di 62 5 (ho.arr (by intro x; rfl)).sl rfl ((ho.arr (by intro x; rfl)).lt hxa) (D_l rfl (fun w' hR => lv_loadA (by kernel_rfl) rfl rfl (((ho.arr (by intro x; rfl)).ext hR).row hxa)) (D_callVP (vs := [y.v, x.v]) rfl rfl hcb (hc _ y x) rfl RX.all (fun w3 x3 => ?_)))
   replace ho := ho.ext x3
   replace hx := hx.ext x3
   refine dp (pv_lss rfl rfl) (de Z9 (wi (fun c3 => ?_) fun c3 => ?_))
   ·
    have hlt : ltC c y x = true := by simpa [ltC] using c3
    refine wr (dm ?_)
    refine pa rfl rfl (da (D_end (?_)))
    first | exact ⟨((i + j) / 2 + 1, j), ⟨rfl, rfl, rfl, rfl, rfl, rfl, rfl, trivial⟩, ⟨hx, by omega, by omega, hjb, hup, .inr ⟨x, y, hxa, by rw [Nat.add_sub_cancel]; exact hyh, hlt⟩, ho⟩, by simp only []; omega⟩ | exact ⟨(i, (i + j) / 2), ⟨rfl, rfl, rfl, rfl, rfl, rfl, rfl, trivial⟩, ⟨hx, hi, by omega, by omega, .inr ⟨x, y, hxa, hyh, hlt⟩, hlo, ho⟩, by simp only []; omega⟩
   have hlt : ltC c y x = false := by simpa [ltC] using c3
   refine wr (dm (da (D_end (?_))))
   first | exact ⟨((i + j) / 2 + 1, j), ⟨rfl, rfl, rfl, rfl, rfl, rfl, rfl, trivial⟩, ⟨hx, by omega, by omega, hjb, hup, .inr ⟨x, y, hxa, by rw [Nat.add_sub_cancel]; exact hyh, hlt⟩, ho⟩, by simp only []; omega⟩ | exact ⟨(i, (i + j) / 2), ⟨rfl, rfl, rfl, rfl, rfl, rfl, rfl, trivial⟩, ⟨hx, hi, by omega, by omega, .inr ⟨x, y, hxa, hyh, hlt⟩, hlo, ho⟩, by simp only []; omega⟩
  refine W_exit (Z5 _ _ (ws fun _ Z10 => ws fun _ Z11 => wr (dm (da (de Z11 (W_block ?_))))))
  refine W_loop (G := Nat × List Fi) (fun (k, cur) => [(0, v), (1, I ↑a), (2, I ↑m), (3, I ↑b), (4, fnV f), (10, I ↑i), (13, I ↑k)]) (fun (k, cur) w' => Mod (fun k => v.ownBlock = some k) w w' ∧ ShU a k l cur ∧ k ≤ i - 1 ∧ Vc.Own Fi.cs 5 62 Bo w' v cur) (fun (k, cur) => i - k) (a, l) ?_ ?_ ?_
  · exact ⟨rfl, rfl, rfl, rfl, rfl, rfl, rfl, trivial⟩
  · exact ⟨hx, shU_0 (by omega), by omega, ho⟩
  intro X4 g4 w4 hF4
  obtain ⟨k, cur⟩ := g4
  clear hx ho
  obtain ⟨hx, hk, hki, ho⟩ := hF4
  refine ws fun _ Z12 => ws fun _ Z13 => wr (dm (dm ?_))
  refine ps rfl rfl (dp (pv_lss rfl rfl) (de Z13 (wi (fun c4 => ?_) fun c4 => ?_)))
  ·
   have hkl := hk.len
   obtain ⟨x, hxk⟩ : ∃ x, cur[k]? = some x := ⟨_, List.getElem?_eq_getElem (by omega)⟩
   obtain ⟨y, hyk⟩ : ∃ x, cur[k + 1]? = some x := ⟨_, List.getElem?_eq_getElem (by omega)⟩
   have hb0 := own_ptr ho (fun e => by rw [e] at hxk; simp at hxk)
   refine W_skip (Z12 _ _ (ws fun _ Z14 => W_block (W_draw (R := Ext) Ext.refl (fun _ _ _ => Ext.trans) (by kernel_rfl) [9, 13] [(0, .p, false), (1, .p, false), (2, .p, false), (3, .p, false), (4, .p, false), (5, .p, false), (6, .p, false), (7, .p, false), (8, .p, false), (9, .l, false), (10, .p, false), (11, .p, false), (12, .p, false), (13, .l, false), (14, .p, false), (15, .x, true), (16, .p, false), (17, .x, true)] rfl (by kernel_rfl) (by kernel_rfl) (fun w5 ew5 => ?_))))
   have x5 := drewx ew5
   clear ew5
   replace ho := ho.ext x5
   replace hx := hx.ext x5
   iterate 4 refine dm ?_
   refine D_pe (v := I ↑(k + 1)) rfl (pv_add rfl rfl (by unfold inI64; omega)) rfl (dm (dm ?_))
   refine D_pe (v := I ↑(k + 1)) rfl (pv_add rfl rfl (by unfold inI64; omega)) rfl (di 62 5 (ho.arr (by intro x; rfl)).sl rfl ((ho.arr (by intro x; rfl)).lt hyk) (D_l rfl (fun w' hR => lv_loadA (by kernel_rfl) rfl rfl (((ho.arr (by intro x; rfl)).ext hR).row hyk)) (dm (dm ?_))))
   refine di 62 5 (ho.arr (by intro x; rfl)).sl rfl ((ho.arr (by intro x; rfl)).lt hxk) (D_l rfl (fun w' hR => lv_loadA (by kernel_rfl) rfl rfl (((ho.arr (by intro x; rfl)).ext hR).row hxk)) (D_pe (v := ptr (base v).1 (k * 5 + 0)) rfl (pv_idxA (i := k) (e := 62) (k := 5) (by kernel_rfl) ho.sl rfl rfl (by first | omega | (rw [List.length_set]; omega))) (by rw [hb0]; show ptr _ (0 + _) = _; rw [Nat.zero_add]; rfl) ?_))
   refine D_storeO (enc := Fi.cs) (sz := 5) (l := cur) (i := k) (j := 0) (x := y) (vs := y.cs) (by intro x; rfl) rfl ho rfl rfl rfl (by kernel_rfl) (by first | omega | (rw [List.length_set]; omega)) rfl (Nat.le_refl 5) (by intro v hv; simp at hv; rcases hv with rfl | rfl | rfl | rfl | rfl <;> rfl) (.inl rfl) (fun w6 x6 xs6 ho_n => ?_)
   replace hx := hx.own x6 (fun i hi hlt => hi)
   replace ho := ho_n
   refine D_pe (v := ptr (base v).1 ((k + 1) * 5 + 0)) rfl (pv_idxA (i := (k + 1)) (e := 62) (k := 5) (by kernel_rfl) ho.sl rfl rfl (by first | omega | (rw [List.length_set]; omega))) (by rw [hb0]; show ptr _ (0 + _) = _; rw [Nat.zero_add]; rfl) ?_
   refine D_storeO (enc := Fi.cs) (sz := 5) (l := (cur.set k y)) (i := (k + 1)) (j := 0) (x := x) (vs := x.cs) (by intro x; rfl) rfl ho rfl rfl rfl (by kernel_rfl) (by first | omega | (rw [List.length_set]; omega)) rfl (Nat.le_refl 5) (by intro v hv; simp at hv; rcases hv with rfl | rfl | rfl | rfl | rfl <;> rfl) (.inl rfl) (fun w7 x7 xs7 ho_n => ?_)
   replace hx := hx.own x7 (fun i hi hlt => hi)
   replace ho := ho_n
   refine de Z14 (wr (dm ?_))
   refine pa rfl rfl (da (D_end (?_)))
   exact ⟨(k + 1, _), ⟨rfl, rfl, rfl, rfl, rfl, rfl, rfl, trivial⟩, ⟨hx, shU_step hk hxk hyk, by omega, ho⟩, by simp only []; omega⟩
  refine W_exit (Z10 _ _ (W_ret (ret_none rfl ?_)))
  have hkl := hk.len
  have : k = i - 1 := by omega
  subst this
  have hij2 : i = j := by omega
  subst hij2
  exact ⟨_, rfl, hx, rfl, cur, ho, sm_ins1 O hsm hm1 hi hjb hk hup hlo⟩
 refine W_skip (Z1 _ _ (ws fun _ Z15 => ws fun _ Z16 => wr (dm (dm ?_))))
 refine ps rfl rfl (dp (pv_eql rfl rfl) (de Z16 (wi (fun c5 => ?_) fun c5 => ?_)))
 ·
  have hm1 : b = m + 1 := by omega
  refine ws fun _ Z17 => wr (dm (da (de Z17 (ws fun _ Z18 => wr (dm (da (de Z18 (ws fun _ Z19 => W_block ?_))))))))
  refine W_loop (G := Nat × Nat) (fun (i, j) => [(0, v), (1, I ↑a), (2, I ↑m), (3, I ↑b), (4, fnV f), (14, I ↑i), (15, I ↑j)]) (fun (i, j) w' => Mod (fun k => v.ownBlock = some k) w w' ∧ a ≤ i ∧ i ≤ j ∧ j ≤ m ∧ (j = m ∨ ∃ x y, l[m]? = some x ∧ l[j]? = some y ∧ ltC c x y = true) ∧ (i = a ∨ ∃ x y, l[m]? = some x ∧ l[i - 1]? = some y ∧ ltC c x y = false) ∧ Vc.Own Fi.cs 5 62 Bo w' v l) (fun (i, j) => j - i) (a, m) ?_ ?_ ?_
  · exact ⟨rfl, rfl, rfl, rfl, rfl, rfl, rfl, trivial⟩
  · exact ⟨hx, Nat.le_refl _, by omega, Nat.le_refl _, .inl rfl, .inl rfl, ho⟩
  intro X8 g8 w8 hF8
  obtain ⟨i, j⟩ := g8
  clear hx ho
  obtain ⟨hx, hi, hij, hjb, hup, hlo, ho⟩ := hF8
  refine ws fun _ Z20 => ws fun _ Z21 => wr (dm (dm ?_))
  refine dp (pv_lss rfl rfl) (de Z21 (wi (fun c6 => ?_) fun c6 => ?_))
  ·
   obtain ⟨x, hxm⟩ : ∃ x, l[m]? = some x := ⟨_, List.getElem?_eq_getElem (by omega)⟩
   obtain ⟨y, hyh⟩ : ∃ x, l[(i + j) / 2]? = some x := ⟨_, List.getElem?_eq_getElem (by omega)⟩
   refine W_skip (Z20 _ _ (W_block (ws fun _ Z22 => wr (dm (dm ?_)))))
   refine D_pe (v := I ↑(i + j)) rfl (pv_add rfl rfl (by unfold inI64; omega)) rfl (D_pe (v := .int .u64 ↑(i + j)) rfl (pv_to64 (n := i + j) (k := .i64) (by omega) rfl (by kernel_rfl) (by kernel_rfl)) rfl (dp (pv_shrA1 (u := i + j) rfl rfl) (dp (pv_of64 (n := (i + j) / 2) (by omega) rfl (by kernel_rfl) (by kernel_rfl)) (da (de Z22 (ws fun _ Z23 => ?_))))))
   refine W_draw (R := Ext) Ext.refl (fun _ _ _ => Ext.trans) (by kernel_rfl) [4, 8] [(0, .p, false), (1, .p, false), (2, .p, false), (3, .p, false), (4, .l, false), (5, .p, false), (6, .p, false), (7, .p, false), (8, .l, false), (9, .x, true), (10, .p, false), (11, .p, false)] rfl (by kernel_rfl) (by kernel_rfl) (fun w9 ew9 => ?_)
   have x9 := drewx ew9
   clear ew9
   replace ho := ho.ext x9
   replace hx := hx.ext x9
   iterate 3 refine dm ?_
   refine di 62 5 (ho.arr (by intro x; rfl)).sl rfl ((ho.arr (by intro x; rfl)).lt hxm) (D_l rfl (fun w' hR => lv_loadA (by kernel_rfl) rfl rfl (((ho.arr (by intro x; rfl)).ext hR).row hxm)) (dm (dm ?_)))
   refine di 62 5 (ho.arr (by intro x; rfl)).sl rfl ((ho.arr (by intro x; rfl)).lt hyh) (D_l rfl (fun w' hR => lv_loadA (by kernel_rfl) rfl rfl (((ho.arr (by intro x; rfl)).ext hR).row hyh)) (D_callVP (vs := [x.v, y.v]) rfl rfl hcb (hc _ x y) rfl RX.all (fun w10 x10 => ?_)))
   replace ho := ho.ext x10
   replace hx := hx.ext x10
   refine dp (pv_lss rfl rfl) (dn (de Z23 ?_))
   refine wc (fun c7 => ?_) fun c7 => ?_
   ·
    have hlt : ltC c x y = false := by simpa [ltC] using c7
    refine wr (dm ?_)
    refine pa rfl rfl (da (D_end (?_)))
    first | exact ⟨((i + j) / 2 + 1, j), ⟨rfl, rfl, rfl, rfl, rfl, rfl, rfl, trivial⟩, ⟨hx, by omega, by omega, hjb, hup, .inr ⟨x, y, hxm, by rw [Nat.add_sub_cancel]; exact hyh, hlt⟩, ho⟩, by simp only []; omega⟩ | exact ⟨(i, (i + j) / 2), ⟨rfl, rfl, rfl, rfl, rfl, rfl, rfl, trivial⟩, ⟨hx, hi, by omega, by omega, .inr ⟨x, y, hxm, hyh, hlt⟩, hlo, ho⟩, by simp only []; omega⟩
   have hlt : ltC c x y = true := by simpa [ltC] using c7
   refine wr (dm (da (D_end (?_))))
   first | exact ⟨((i + j) / 2 + 1, j), ⟨rfl, rfl, rfl, rfl, rfl, rfl, rfl, trivial⟩, ⟨hx, by omega, by omega, hjb, hup, .inr ⟨x, y, hxm, by rw [Nat.add_sub_cancel]; exact hyh, hlt⟩, ho⟩, by simp only []; omega⟩ | exact ⟨(i, (i + j) / 2), ⟨rfl, rfl, rfl, rfl, rfl, rfl, rfl, trivial⟩, ⟨hx, hi, by omega, by omega, .inr ⟨x, y, hxm, hyh, hlt⟩, hlo, ho⟩, by simp only []; omega⟩
  refine W_exit (Z19 _ _ (ws fun _ Z24 => ws fun _ Z25 => wr (dm (da (de Z25 (W_block ?_))))))
  refine W_loop (G := Nat × List Fi) (fun (k, cur) => [(0, v), (1, I ↑a), (2, I ↑m), (3, I ↑b), (4, fnV f), (14, I ↑i), (17, I ↑k)]) (fun (k, cur) w' => Mod (fun k => v.ownBlock = some k) w w' ∧ ShD m k l cur ∧ i ≤ k ∧ Vc.Own Fi.cs 5 62 Bo w' v cur) (fun (k, cur) => k) (m, l) ?_ ?_ ?_
  · exact ⟨rfl, rfl, rfl, rfl, rfl, rfl, rfl, trivial⟩
  · exact ⟨hx, shD_0 (by omega), by omega, ho⟩
  intro X11 g11 w11 hF11
  obtain ⟨k, cur⟩ := g11
  clear hx ho
  obtain ⟨hx, hk, hki, ho⟩ := hF11
  refine ws fun _ Z26 => ws fun _ Z27 => wr (dm (dm ?_))
  refine dp (pv_gtr rfl rfl) (de Z27 (wi (fun c8 => ?_) fun c8 => ?_))
  ·
   have hkl := hk.len
   obtain ⟨x, hxk⟩ : ∃ x, cur[k]? = some x := ⟨_, List.getElem?_eq_getElem (by omega)⟩
   obtain ⟨y, hyk⟩ : ∃ x, cur[k - 1]? = some x := ⟨_, List.getElem?_eq_getElem (by omega)⟩
   have hb0 := own_ptr ho (fun e => by rw [e] at hxk; simp at hxk)
   refine W_skip (Z26 _ _ (ws fun _ Z28 => W_block (W_draw (R := Ext) Ext.refl (fun _ _ _ => Ext.trans) (by kernel_rfl) [9, 13] [(0, .p, false), (1, .p, false), (2, .p, false), (3, .p, false), (4, .p, false), (5, .p, false), (6, .p, false), (7, .p, false), (8, .p, false), (9, .l, false), (10, .p, false), (11, .p, false), (12, .p, false), (13, .l, false), (14, .p, false), (15, .x, true), (16, .p, false), (17, .x, true)] rfl (by kernel_rfl) (by kernel_rfl) (fun w12 ew12 => ?_))))
   have x12 := drewx ew12
   clear ew12
   replace ho := ho.ext x12
   replace hx := hx.ext x12
   iterate 4 refine dm ?_
   refine D_pe (v := I ↑(k - 1)) rfl (pv_sub rfl rfl (by unfold inI64; omega)) (by show I _ = I _; first | rfl | (congr 1; omega)) (dm (dm ?_))
   refine D_pe (v := I ↑(k - 1)) rfl (pv_sub rfl rfl (by unfold inI64; omega)) (by show I _ = I _; first | rfl | (congr 1; omega)) (di 62 5 (ho.arr (by intro x; rfl)).sl rfl ((ho.arr (by intro x; rfl)).lt hyk) (D_l rfl (fun w' hR => lv_loadA (by kernel_rfl) rfl rfl (((ho.arr (by intro x; rfl)).ext hR).row hyk)) (dm (dm ?_))))
   refine di 62 5 (ho.arr (by intro x; rfl)).sl rfl ((ho.arr (by intro x; rfl)).lt hxk) (D_l rfl (fun w' hR => lv_loadA (by kernel_rfl) rfl rfl (((ho.arr (by intro x; rfl)).ext hR).row hxk)) (D_pe (v := ptr (base v).1 (k * 5 + 0)) rfl (pv_idxA (i := k) (e := 62) (k := 5) (by kernel_rfl) ho.sl rfl rfl (by first | omega | (rw [List.length_set]; omega))) (by rw [hb0]; show ptr _ (0 + _) = _; rw [Nat.zero_add]; rfl) ?_))
   refine D_storeO (enc := Fi.cs) (sz := 5) (l := cur) (i := k) (j := 0) (x := y) (vs := y.cs) (by intro x; rfl) rfl ho rfl rfl rfl (by kernel_rfl) (by first | omega | (rw [List.length_set]; omega)) rfl (Nat.le_refl 5) (by intro v hv; simp at hv; rcases hv with rfl | rfl | rfl | rfl | rfl <;> rfl) (.inl rfl) (fun w13 x13 xs13 ho_n => ?_)
   replace hx := hx.own x13 (fun i hi hlt => hi)
   replace ho := ho_n
   refine D_pe (v := ptr (base v).1 ((k - 1) * 5 + 0)) rfl (pv_idxA (i := (k - 1)) (e := 62) (k := 5) (by kernel_rfl) ho.sl rfl rfl (by first | omega | (rw [List.length_set]; omega))) (by rw [hb0]; show ptr _ (0 + _) = _; rw [Nat.zero_add]; rfl) ?_
   refine D_storeO (enc := Fi.cs) (sz := 5) (l := (cur.set k y)) (i := (k - 1)) (j := 0) (x := x) (vs := x.cs) (by intro x; rfl) rfl ho rfl rfl rfl (by kernel_rfl) (by first | omega | (rw [List.length_set]; omega)) rfl (Nat.le_refl 5) (by intro v hv; simp at hv; rcases hv with rfl | rfl | rfl | rfl | rfl <;> rfl) (.inl rfl) (fun w14 x14 xs14 ho_n => ?_)
   replace hx := hx.own x14 (fun i hi hlt => hi)
   replace ho := ho_n
   refine de Z28 (wr (dm ?_))
   refine D_pe (v := I ↑(k - 1)) rfl (pv_sub rfl rfl (by unfold inI64; omega)) (by show I _ = I _; first | rfl | (congr 1; omega)) (da (D_end (?_)))
   exact ⟨(k - 1, _), ⟨rfl, rfl, rfl, rfl, rfl, rfl, rfl, trivial⟩, ⟨hx, shD_step hk (by omega) hxk hyk, by omega, ho⟩, by simp only []; omega⟩
  refine W_exit (Z24 _ _ (W_ret (ret_none rfl ?_)))
  have hkl := hk.len
  have : k = i := by omega
  subst this
  have hij2 : k = j := by omega
  subst hij2
  exact ⟨_, rfl, hx, rfl, cur, ho, sm_ins2 O hsm hm1 hi hjb hk hup hlo⟩
 have ham2 : a + 2 ≤ m := by omega
 have hmb2 : m + 2 ≤ b := by omega
 refine W_skip (Z15 _ _ (ws fun _ Z29 => wr (dm (dm ?_))))
 refine D_pe (v := I ↑(a + b)) rfl (pv_add rfl rfl (by unfold inI64; omega)) rfl (D_pe (v := .int .u64 ↑(a + b)) rfl (pv_to64 (n := a + b) (k := .i64) (by omega) rfl (by kernel_rfl) (by kernel_rfl)) rfl (dp (pv_shrA1 (u := a + b) rfl rfl) (dp (pv_of64 (n := (a + b) / 2) (by omega) rfl (by kernel_rfl) (by kernel_rfl)) (da (de Z29 (ws fun _ Z30 => wr (dm (dm ?_))))))))
 refine D_pe (v := I ↑((a + b) / 2 + m)) rfl (pv_add rfl rfl (by unfold inI64; omega)) rfl (da (de Z30 (ws fun _ Z31 => wr (da (da (de Z31 ?_))))))
 refine W_cut (G := Nat × Nat) (fun (s0, r0) => [(0, v), (1, I ↑a), (2, I ↑m), (3, I ↑b), (4, fnV f), (18, I ↑((a + b) / 2)), (19, I ↑((a + b) / 2 + m)), (20, I ↑s0), (21, I ↑r0)]) (fun (s0, r0) w' => Mod (fun k => v.ownBlock = some k) w w' ∧ a ≤ s0 ∧ s0 ≤ r0 ∧ r0 ≤ m ∧ (s0 = a ∨ (a + b) / 2 + m - s0 = b) ∧ (r0 = m ∨ (a + b) / 2 + m - r0 = m) ∧ (a + b) / 2 + m - s0 ≤ b ∧ m ≤ (a + b) / 2 + m - r0 ∧ Vc.Own Fi.cs 5 62 Bo w' v l) ?_ ?_
 ·
  refine ws fun _ Z32 => wr (dm (dm ?_))
  refine dp (pv_gtr rfl rfl) (de Z32 (wi (fun c9 => ?_) fun c9 => ?_))
  ·
   have hgm : (a + b) / 2 < m := by omega
   refine ws fun _ Z33 => wr (dm (dm ?_))
   refine D_pe (v := I ↑((a + b) / 2 + m - b)) rfl (pv_sub rfl rfl (by unfold inI64; omega)) (by show I _ = I _; first | rfl | (congr 1; omega)) (da (de Z33 (wr (dm (da (D_end (?_)))))))
   first | exact ⟨((a + b) / 2 + m - b, (a + b) / 2), ⟨rfl, rfl, rfl, rfl, rfl, rfl, rfl, rfl, rfl, trivial⟩, hx, by omega, by omega, by omega, .inr (by omega), .inr (by omega), by omega, by omega, ho⟩ | exact ⟨(a, m), ⟨rfl, rfl, rfl, rfl, rfl, rfl, rfl, rfl, rfl, trivial⟩, hx, by omega, by omega, by omega, .inl rfl, .inl rfl, by omega, by omega, ho⟩
  have hgm : m ≤ (a + b) / 2 := by omega
  refine ws fun _ Z34 => wr (dm (da (de Z34 (wr (dm (da (D_end (?_))))))))
  first | exact ⟨((a + b) / 2 + m - b, (a + b) / 2), ⟨rfl, rfl, rfl, rfl, rfl, rfl, rfl, rfl, rfl, trivial⟩, hx, by omega, by omega, by omega, .inr (by omega), .inr (by omega), by omega, by omega, ho⟩ | exact ⟨(a, m), ⟨rfl, rfl, rfl, rfl, rfl, rfl, rfl, rfl, rfl, trivial⟩, hx, by omega, by omega, by omega, .inl rfl, .inl rfl, by omega, by omega, ho⟩
 intro X15 g15 w15 hF15
 obtain ⟨s0, r0⟩ := g15
 clear hx ho
 obtain ⟨hx, q0, q1, q2, q3, q4, q5, q6, ho⟩ := hF15
 refine ws fun _ Z35 => wr (dm ?_)
 refine D_pe (v := I ↑((a + b) / 2 + m - 1)) rfl (pv_sub rfl rfl (by unfold inI64; omega)) (by show I _ = I _; first | rfl | (congr 1; omega)) (da (de Z35 (ws fun _ Z36 => W_block ?_)))
 refine W_loop (G := Nat × Nat) (fun (s, r) => [(0, v), (1, I ↑a), (2, I ↑m), (3, I ↑b), (4, fnV f), (18, I ↑((a + b) / 2)), (19, I ↑((a + b) / 2 + m)), (20, I ↑s), (21, I ↑r), (22, I ↑((a + b) / 2 + m - 1))]) (fun (s, r) w' => Mod (fun k => v.ownBlock = some k) w w' ∧ s0 ≤ s ∧ s ≤ r ∧ r ≤ r0 ∧ (s = s0 ∨ ∃ x y, l[s - 1]? = some x ∧ l[(a + b) / 2 + m - s]? = some y ∧ ltC c y x = false) ∧ (r = r0 ∨ ∃ x y, l[r]? = some x ∧ l[(a + b) / 2 + m - 1 - r]? = some y ∧ ltC c y x = true) ∧ Vc.Own Fi.cs 5 62 Bo w' v l) (fun (s, r) => r - s) (s0, r0) ?_ ?_ ?_
 · exact ⟨rfl, rfl, rfl, rfl, rfl, rfl, rfl, rfl, rfl, rfl, trivial⟩
 · exact ⟨hx, Nat.le_refl _, q1, Nat.le_refl _, .inl rfl, .inl rfl, ho⟩
 intro X16 g16 w16 hF16
 obtain ⟨s, r⟩ := g16
 clear hx ho
 obtain ⟨hx, hs0, hsr1, hr0, hlo, hhi, ho⟩ := hF16
 refine ws fun _ Z37 => ws fun _ Z38 => wr (dm (dm ?_))
 refine dp (pv_lss rfl rfl) (de Z38 (wi (fun c10 => ?_) fun c10 => ?_))
 ·
  obtain ⟨y, hyh⟩ : ∃ x, l[(a + b) / 2 + m - 1 - (s + r) / 2]? = some x := ⟨_, List.getElem?_eq_getElem (by omega)⟩
  obtain ⟨x, hxc⟩ : ∃ x, l[(s + r) / 2]? = some x := ⟨_, List.getElem?_eq_getElem (by omega)⟩
  refine W_skip (Z37 _ _ (W_block (ws fun _ Z39 => wr (dm (dm ?_)))))
  refine D_pe (v := I ↑(s + r)) rfl (pv_add rfl rfl (by unfold inI64; omega)) rfl (D_pe (v := .int .u64 ↑(s + r)) rfl (pv_to64 (n := s + r) (k := .i64) (by omega) rfl (by kernel_rfl) (by kernel_rfl)) rfl (dp (pv_shrA1 (u := s + r) rfl rfl) (dp (pv_of64 (n := (s + r) / 2) (by omega) rfl (by kernel_rfl) (by kernel_rfl)) (da (de Z39 (ws fun _ Z40 => ?_))))))
  refine W_draw (R := Ext) Ext.refl (fun _ _ _ => Ext.trans) (by kernel_rfl) [6, 10] [(0, .p, false), (1, .p, false), (2, .p, false), (3, .p, false), (4, .p, false), (5, .p, false), (6, .l, false), (7, .p, false), (8, .p, false), (9, .p, false), (10, .l, false), (11, .x, true), (12, .p, false), (13, .p, false)] rfl (by kernel_rfl) (by kernel_rfl) (fun w17 ew17 => ?_)
  have x17 := drewx ew17
  clear ew17
  replace ho := ho.ext x17
  replace hx := hx.ext x17
  iterate 4 refine dm ?_
  refine D_pe (v := I ↑((a + b) / 2 + m - 1 - (s + r) / 2)) rfl (pv_sub rfl rfl (by unfold inI64; omega)) (by show I _ = I _; first | rfl | (congr 1; omega)) (di 62 5 (ho.arr (by intro x; rfl)).sl rfl ((ho.arr (by intro x; rfl)).lt hyh) (D_l rfl (fun w' hR => lv_loadA (by kernel_rfl) rfl rfl (((ho.arr (by intro x; rfl)).ext hR).row hyh)) (dm (dm ?_))))
  refine di 62 5 (ho.arr (by intro x; rfl)).sl rfl ((ho.arr (by intro x; rfl)).lt hxc) (D_l rfl (fun w' hR => lv_loadA (by kernel_rfl) rfl rfl (((ho.arr (by intro x; rfl)).ext hR).row hxc)) (D_callVP (vs := [y.v, x.v]) rfl rfl hcb (hc _ y x) rfl RX.all (fun w18 x18 => ?_)))
  replace ho := ho.ext x18
  replace hx := hx.ext x18
  refine dp (pv_lss rfl rfl) (dn (de Z40 ?_))
  refine wc (fun c11 => ?_) fun c11 => ?_
  ·
   have hlt : ltC c y x = false := by simpa [ltC] using c11
   refine wr (dm ?_)
   refine pa rfl rfl (da (D_end (?_)))
   first | exact ⟨((s + r) / 2 + 1, r), ⟨rfl, rfl, rfl, rfl, rfl, rfl, rfl, rfl, rfl, rfl, trivial⟩, ⟨hx, by omega, by omega, hr0, .inr ⟨x, y, by rw [Nat.add_sub_cancel]; exact hxc, by rw [← hyh]; congr 1; omega, hlt⟩, hhi, ho⟩, by simp only []; omega⟩ | exact ⟨(s, (s + r) / 2), ⟨rfl, rfl, rfl, rfl, rfl, rfl, rfl, rfl, rfl, rfl, trivial⟩, ⟨hx, hs0, by omega, by omega, hlo, .inr ⟨x, y, hxc, hyh, hlt⟩, ho⟩, by simp only []; omega⟩
  have hlt : ltC c y x = true := by simpa [ltC] using c11
  refine wr (dm (da (D_end (?_))))
  first | exact ⟨((s + r) / 2 + 1, r), ⟨rfl, rfl, rfl, rfl, rfl, rfl, rfl, rfl, rfl, rfl, trivial⟩, ⟨hx, by omega, by omega, hr0, .inr ⟨x, y, by rw [Nat.add_sub_cancel]; exact hxc, by rw [← hyh]; congr 1; omega, hlt⟩, hhi, ho⟩, by simp only []; omega⟩ | exact ⟨(s, (s + r) / 2), ⟨rfl, rfl, rfl, rfl, rfl, rfl, rfl, rfl, rfl, rfl, trivial⟩, ⟨hx, hs0, by omega, by omega, hlo, .inr ⟨x, y, hxc, hyh, hlt⟩, ho⟩, by simp only []; omega⟩
 have hsr : s = r := by omega
 subst hsr
 have hm8 : ∀ l2, ((s < m ∧ m < (a + b) / 2 + m - s → l2 = rotT l s m ((a + b) / 2 + m - s)) ∧ (¬ (s < m ∧ m < (a + b) / 2 + m - s) → l2 = l)) → SMr (ltC c) a m b s ((a + b) / 2 + m - s) l l2 := fun l2 h2 => smr_of O hsm (by omega) (by omega) (by omega) (by omega) (by
   rcases hlo with e | e
   · rcases q3 with e3 | e3
     · exact .inl (by omega)
     · exact .inr (.inl (by rw [e]; exact e3))
   · exact .inr (.inr e)) (by
   rcases hhi with e | e
   · rcases q4 with e4 | e4
     · exact .inl (by omega)
     · exact .inr (.inl (by rw [e]; exact e4))
   · obtain ⟨x, y, e1, e2, e3⟩ := e
     exact .inr (.inr ⟨x, y, e1, by rw [← e2]; congr 1; omega, e3⟩)) h2
 have hmid : s + ((a + b) / 2 + m - s) = (a + b) / 2 + m := by omega
 refine W_exit (Z36 _ _ (ws fun _ Z41 => wr (dm (dm ?_))))
 refine D_pe (v := I ↑((a + b) / 2 + m - s)) rfl (pv_sub rfl rfl (by unfold inI64; omega)) (by show I _ = I _; first | rfl | (congr 1; omega)) (da (de Z41 ?_))
 refine W_cut (G := List Fi) (fun l2 => [(0, v), (1, I ↑a), (3, I ↑b), (4, fnV f), (18, I ↑((a + b) / 2)), (20, I ↑s), (24, I ↑((a + b) / 2 + m - s))]) (fun l2 w' => Mod (fun k => v.ownBlock = some k) w w' ∧ SMr (ltC c) a m b s ((a + b) / 2 + m - s) l l2 ∧ l2.length = l.length ∧ Vc.Own Fi.cs 5 62 Bo w' v l2) ?_ ?_
 ·
  refine ws fun _ Z42 => wr (dm (dm ?_))
  refine dp (pv_lss rfl rfl) (dm ?_)
  refine D_splitP 181 rfl (fun c12 => ?_) (fun c12 => ?_)
  ·
   iterate 2 refine dm ?_
   refine dp (pv_lss rfl rfl) (dk' (de Z42 ?_))
   refine wi (fun c13 => ?_) fun c13 => ?_
   ·
    refine wr (dm (dm (dm (dm (dm ?_)))))
    refine cD (rotF_w l v Bo f _ ho hl s m ((a + b) / 2 + m - s) (by omega) (by omega) (by omega)) (.inl rfl) fun u19 w19 x19 hf19 => ?_
    have hsz19 := hx.size
    replace hx := hx.own x19 (fun i hi hlt => hi)
    obtain ⟨rfl, cur1, ho, hrt⟩ := hf19
    have hm9 := hm8 cur1 ⟨fun _ => hrt, fun h => absurd ⟨by omega, by omega⟩ h⟩
    have hl9 : cur1.length = l.length := by rw [hrt]; have := (rot_0 (l := l) (a := s) (m := m) (b := (a + b) / 2 + m - s) (by omega) (by omega) (by omega)).len.1; omega
    refine D_end (?_)
    exact ⟨_, ⟨rfl, rfl, rfl, rfl, rfl, rfl, rfl, trivial⟩, hx, hm9, hl9, ho⟩
   have hm9 := hm8 l ⟨fun h => absurd h.2 (by omega), fun _ => rfl⟩
   have hl9 : l.length = l.length := rfl
   refine W_skip ?_
   exact ⟨_, ⟨rfl, rfl, rfl, rfl, rfl, rfl, rfl, trivial⟩, hx, hm9, hl9, ho⟩
  have hm9 := hm8 l ⟨fun h => absurd h.1 (by omega), fun _ => rfl⟩
  have hl9 : l.length = l.length := rfl
  refine dk (dk (dk (dk' (de Z42 ?_))))
  refine W_f rfl (W_skip ?_)
  exact ⟨_, ⟨rfl, rfl, rfl, rfl, rfl, rfl, rfl, trivial⟩, hx, hm9, hl9, ho⟩
 intro X20 g20 w20 hF20
 revert hF20; revert g20; intro l2 hF20
 clear hx ho
 obtain ⟨hx, hm9, hl9, ho⟩ := hF20
 refine W_cut (G := List Fi) (fun l3 => [(0, v), (3, I ↑b), (4, fnV f), (18, I ↑((a + b) / 2)), (24, I ↑((a + b) / 2 + m - s))]) (fun l3 w' => Mod (fun k => v.ownBlock = some k) w w' ∧ Srt (ltC c) a ((a + b) / 2) l2 l3 ∧ Vc.Own Fi.cs 5 62 Bo w' v l3) ?_ ?_
 ·
  refine ws fun _ Z43 => wr (dm (dm ?_))
  refine dp (pv_lss rfl rfl) (dm ?_)
  refine D_splitP 195 rfl (fun c14 => ?_) (fun c14 => ?_)
  ·
   iterate 2 refine dm ?_
   refine dp (pv_lss rfl rfl) (dk' (de Z43 ?_))
   refine wi (fun c15 => ?_) fun c15 => ?_
   ·
    refine wr (dm (dm (dm (dm (dm ?_)))))
    refine cD (ih l2 _ a s ((a + b) / 2) (by omega) ho (by omega) (by omega) (by omega) (by omega) (smr_left hm9 hmid)) (.inl rfl) fun u21 w21 x21 hf21 => ?_
    have hsz21 := hx.size
    replace hx := hx.own x21 (fun i hi hlt => hi)
    obtain ⟨rfl, cur1, ho, hs9⟩ := hf21
    refine D_end (?_)
    exact ⟨_, ⟨rfl, rfl, rfl, rfl, rfl, trivial⟩, hx, hs9, ho⟩
   have hs9 := smr_left_no hm9 hmid (fun h => absurd h.2 (by omega))
   refine W_skip ?_
   exact ⟨_, ⟨rfl, rfl, rfl, rfl, rfl, trivial⟩, hx, hs9, ho⟩
  have hs9 := smr_left_no hm9 hmid (fun h => absurd h.1 (by omega))
  refine dk (dk (dk (dk' (de Z43 ?_))))
  refine W_f rfl (W_skip ?_)
  exact ⟨_, ⟨rfl, rfl, rfl, rfl, rfl, trivial⟩, hx, hs9, ho⟩
 intro X22 g22 w22 hF22
 revert hF22; revert g22; intro l3 hF22
 clear hx ho
 obtain ⟨hx, hs9, ho⟩ := hF22
 refine ws fun _ Z44 => wr (dm (dm ?_))
 refine dp (pv_lss rfl rfl) (dm ?_)
 refine D_splitP 209 rfl (fun c16 => ?_) (fun c16 => ?_)
 ·
  iterate 2 refine dm ?_
  refine dp (pv_lss rfl rfl) (dk' (de Z44 ?_))
  refine wi (fun c17 => ?_) fun c17 => ?_
  ·
   refine wr (dm (dm (dm (dm (dm ?_)))))
   refine cD (ih l3 _ ((a + b) / 2) ((a + b) / 2 + m - s) b (by omega) ho (by have := hs9.len.1; omega) (by omega) (by omega) (by have := hs9.len.1; omega) (smr_right hm9 hmid hs9)) (.inl rfl) fun u23 w23 x23 hf23 => ?_
   have hsz23 := hx.size
   replace hx := hx.own x23 (fun i hi hlt => hi)
   obtain ⟨rfl, cur1, ho, hr9⟩ := hf23
   have hf9 := smr_fin hm9 hmid hs9 hr9
   refine D_end ((norm_ret (ret_none rfl ?_)))
   exact ⟨_, rfl, hx, rfl, _, ho, hf9⟩
  have hf9 := smr_fin hm9 hmid hs9 (smr_right_no hm9 hmid hs9 (fun h => absurd h.2 (by omega)))
  refine W_skip (norm_ret (ret_none rfl ?_))
  exact ⟨_, rfl, hx, rfl, _, ho, hf9⟩
 have hf9 := smr_fin hm9 hmid hs9 (smr_right_no hm9 hmid hs9 (fun h => absurd h.1 (by omega)))
 refine dk (dk (dk (dk' (de Z44 ?_))))
 refine W_f rfl (W_skip (norm_ret (ret_none rfl ?_)))
 exact ⟨_, rfl, hx, rfl, _, ho, hf9⟩
theorem symAllF (v : Value) (Bo f : Nat) (c : Fi → Fi → Int) (hcb : callB Tryz.prog f = true) (hc : ∀ w2 x y, Calls Tryz.prog f [Fi.v x, Fi.v y].toArray w2 (Pure w2 (I (c x y)))) (O : Ord (ltC c)) : ∀ N, SymOkF v Bo f c N
  | 0 => fun _ _ _ _ _ h => absurd h (Nat.not_lt_zero _)
  | N + 1 => fun l w a m b hN ho hl ham hmb hb hsm => symF_w l v Bo f c w ho hl hcb hc O a m b ham hmb hb hsm (fun l2 w2 a2 m2 b2 hN2 => symAllF v Bo f c hcb hc O N l2 w2 a2 m2 b2 (by omega))
theorem stbF_w (l : List Fi) (v : Value) (Bo f : Nat) (c : Fi → Fi → Int) (w : World) (ho : Vc.Own Fi.cs 5 62 Bo w v l) (hl : l.length ≤ 10000000) (hcb : callB Tryz.prog f = true) (hc : ∀ w2 x y, Calls Tryz.prog f [Fi.v x, Fi.v y].toArray w2 (Pure w2 (I (c x y)))) (O : Ord (ltC c)) :
    Calls Tryz.prog 246 [v, I ↑l.length, fnV f].toArray w (Does (fun k => v.ownBlock = some k) w (fun u w' => u = .tuple #[] ∧ ∃ l', Vc.Own Fi.cs 5 62 Bo w' v l' ∧ l'.Perm l ∧ Up (ltC c) l')) := by
 refine cw Tryz.func246 ?_
 have hx := Vc.Mod.refl (fun k => v.ownBlock = some k) w
 refine ws fun _ Z1 => wr (da (de Z1 (ws fun _ Z2 => wr (dm (da (da (de Z2 (ws fun _ Z3 => W_block ?_))))))))
 refine W_loop (G := Nat × List Fi) (fun (j, cur) => [(0, v), (1, I ↑l.length), (2, fnV f), (6, I 20), (7, I ↑(j * 20)), (8, I ↑(j * 20 + 20))]) (fun (j, cur) w' => Mod (fun k => v.ownBlock = some k) w w' ∧ j * 20 ≤ l.length ∧ I2 (ltC c) 20 j cur ∧ cur.Perm l ∧ Vc.Own Fi.cs 5 62 Bo w' v cur) (fun (j, cur) => l.length - j * 20) (0, l) ?_ ?_ ?_
 · exact ⟨rfl, rfl, rfl, rfl, rfl, rfl, trivial⟩
 · exact ⟨hx, Nat.zero_le _, fun k hk => absurd hk (Nat.not_lt_zero k), .refl _, ho⟩
 intro X1 g1 w1 hF1
 obtain ⟨j, cur⟩ := g1
 clear hx ho
 obtain ⟨hx, hj, hI, hp, ho⟩ := hF1
 refine ws fun _ Z4 => ws fun _ Z5 => wr (dm (dm ?_))
 refine dp (pv_leq rfl rfl) (de Z5 (wi (fun c1 => ?_) fun c1 => ?_))
 ·
  have hpl := hp.length_eq
  refine W_skip (Z4 _ _ (W_block (ws fun _ Z6 => wr (dm (dm (dm (dm ?_)))))))
  refine cD (insF_w cur v Bo f c _ ho (by omega) hcb hc O (j * 20) (j * 20 + 20) (by omega) (by omega)) (.inl rfl) fun u2 w2 x2 hf2 => ?_
  have hsz2 := hx.size
  replace hx := hx.own x2 (fun i hi hlt => hi)
  obtain ⟨rfl, cur1, ho, hsw⟩ := hf2
  refine de Z6 (ws fun _ Z7 => wr (D_pe (v := I ↑((j + 1) * 20)) rfl (pv_move rfl) (by show I _ = I _; first | rfl | (congr 1; omega)) (da (de Z7 (wr (dm (dm ?_)))))))
  refine D_pe (v := I ↑((j + 1) * 20 + 20)) rfl (pv_add rfl rfl (by unfold inI64; omega)) (by show I _ = I _; first | rfl | (congr 1; omega)) (da (D_end (?_)))
  exact ⟨(j + 1, _), ⟨rfl, rfl, rfl, rfl, rfl, rfl, trivial⟩, ⟨hx, by omega, i2_step hI (by rw [Nat.succ_mul]; exact hsw), hsw.perm.trans hp, ho⟩, by simp only []; omega⟩
 have hpl := hp.length_eq
 refine W_exit (Z3 _ _ (ws fun _ Z8 => wr (dm (dm (dm (dm ?_))))))
 refine cD (insF_w cur v Bo f c _ ho (by omega) hcb hc O (j * 20) l.length (by omega) (by omega)) (.inl rfl) fun u3 w3 x3 hf3 => ?_
 have hsz3 := hx.size
 replace hx := hx.own x3 (fun i hi hlt => hi)
 obtain ⟨rfl, cur1, ho, hsw⟩ := hf3
 refine de Z8 (W_block ?_)
 refine W_loop (G := Nat × List Fi) (fun (s, cur) => [(0, v), (1, I ↑l.length), (2, fnV f), (6, I ↑s)]) (fun (s, cur) w' => Mod (fun k => v.ownBlock = some k) w w' ∧ 20 ≤ s ∧ s ≤ 40 + 2 * l.length ∧ M2 (ltC c) s 0 cur ∧ cur.Perm l ∧ Vc.Own Fi.cs 5 62 Bo w' v cur) (fun (s, cur) => l.length - s) (20, cur1) ?_ ?_ ?_
 · exact ⟨rfl, rfl, rfl, rfl, trivial⟩
 · exact ⟨hx, Nat.le_refl _, by omega, i2_end hI (by omega) (by omega) (by rw [hpl]; exact hsw), hsw.perm.trans hp, ho⟩
 intro X4 g4 w4 hF4
 obtain ⟨s, cur⟩ := g4
 clear hx ho
 obtain ⟨hx, hs, hs2, hM, hp, ho⟩ := hF4
 refine ws fun _ Z9 => ws fun _ Z10 => wr (dm (dm ?_))
 refine dp (pv_lss rfl rfl) (de Z10 (wi (fun c2 => ?_) fun c2 => ?_))
 ·
  have hpl := hp.length_eq
  refine W_skip (Z9 _ _ (W_block (ws fun _ Z11 => wr (dm ?_))))
  refine D_pe (v := I ↑(0 + 2 * s)) rfl (pv_mul rfl rfl (by unfold inI64; omega)) (by show I _ = I _; first | rfl | (congr 1; omega)) (da (da (de Z11 (ws fun _ Z12 => W_block ?_))))
  refine W_loop (G := Nat × Nat × List Fi) (fun (j, q, cur2) => [(0, v), (1, I ↑l.length), (2, fnV f), (6, I ↑s), (7, I ↑q), (8, I ↑(q + 2 * s))]) (fun (j, q, cur2) w' => Mod (fun k => v.ownBlock = some k) w w' ∧ q = j * (2 * s) ∧ q ≤ l.length ∧ M2 (ltC c) s j cur2 ∧ cur2.Perm l ∧ Vc.Own Fi.cs 5 62 Bo w' v cur2) (fun (j, q, cur2) => l.length - q) (0, 0, cur) ?_ ?_ ?_
  · exact ⟨rfl, rfl, rfl, rfl, rfl, rfl, trivial⟩
  · exact ⟨hx, by omega, Nat.zero_le _, hM, hp, ho⟩
  intro X5 g5 w5 hF5
  obtain ⟨j, q, cur2⟩ := g5
  clear hx ho
  obtain ⟨hx, hq, hql, hM2, hp2, ho⟩ := hF5
  refine ws fun _ Z13 => ws fun _ Z14 => wr (dm (dm ?_))
  refine dp (pv_leq rfl rfl) (de Z14 (wi (fun c3 => ?_) fun c3 => ?_))
  ·
   have hpl2 := hp2.length_eq
   have hq1 : (j + 1) * (2 * s) = q + 2 * s := by rw [hq]; exact Nat.succ_mul _ _
   refine W_skip (Z13 _ _ (W_block (ws fun _ Z15 => wr (dm (dm (dm (dm ?_)))))))
   refine D_pe (v := I ↑(q + s)) rfl (pv_add rfl rfl (by unfold inI64; omega)) rfl (dm (dm ?_))
   refine cD (symAllF v Bo f c hcb hc O ((q + 2 * s) - q + 1) cur2 _ q (q + s) (q + 2 * s) (by omega) ho (by omega) (by omega) (by omega) (by omega) (by have h9 := m2_sm hM2 (by rw [hq1]; omega); rw [hq1, ← hq] at h9; exact h9)) (.inl rfl) fun u6 w6 x6 hf6 => ?_
   have hsz6 := hx.size
   replace hx := hx.own x6 (fun i hi hlt => hi)
   obtain ⟨rfl, cur1, ho, hsw⟩ := hf6
   refine de Z15 (ws fun _ Z16 => wr (D_pe (v := I ↑(q + 2 * s)) rfl (pv_move rfl) (by show I _ = I _; first | rfl | (congr 1; omega)) (da (de Z16 (wr (dm (dm ?_)))))))
   refine D_pe (v := I ↑(2 * s)) rfl (pv_mul rfl rfl (by unfold inI64; omega)) (by show I _ = I _; first | rfl | (congr 1; omega)) (D_pe (v := I ↑(q + 2 * s + 2 * s)) rfl (pv_add rfl rfl (by unfold inI64; omega)) rfl (da (D_end (?_))))
   exact ⟨(j + 1, q + 2 * s, _), ⟨rfl, rfl, rfl, rfl, rfl, rfl, trivial⟩, ⟨hx, hq1.symm, by omega, m2_step hM2 (by rw [hq1, ← hq]; exact hsw), hsw.perm.trans hp2, ho⟩, by simp only []; omega⟩
  have hpl2 := hp2.length_eq
  have hq1 : (j + 1) * (2 * s) = q + 2 * s := by rw [hq]; exact Nat.succ_mul _ _
  refine W_exit (Z12 _ _ (ws fun _ Z17 => ws fun _ Z18 => wr (dm (dm ?_))))
  refine D_pe (v := I ↑(q + s)) rfl (pv_add rfl rfl (by unfold inI64; omega)) rfl (da (de Z18 (ws fun _ Z19 => wr (dm (dm ?_)))))
  refine dp (pv_lss rfl rfl) (de Z19 (wi (fun c4 => ?_) fun c4 => ?_))
  ·
   refine wr (dm (dm (dm (dm (dm ?_)))))
   refine cD (symAllF v Bo f c hcb hc O (l.length - q + 1) cur2 _ q (q + s) l.length (by omega) ho (by omega) (by omega) (by omega) (by omega) (by have h9 := m2_sm2 hM2 (by rw [hq1]; omega) (by rw [← hq]; omega); rw [← hq, hpl2] at h9; exact h9)) (.inl rfl) fun u7 w7 x7 hf7 => ?_
   have hsz7 := hx.size
   replace hx := hx.own x7 (fun i hi hlt => hi)
   obtain ⟨rfl, cur1, ho, hsw⟩ := hf7
   refine de Z17 (wr (dm ?_))
   refine D_pe (v := I ↑(2 * s)) rfl (pv_mul rfl rfl (by unfold inI64; omega)) (by show I _ = I _; first | rfl | (congr 1; omega)) (da (D_end (?_)))
   first | exact ⟨(2 * s, _), ⟨rfl, rfl, rfl, rfl, trivial⟩, ⟨hx, by omega, by omega, m2_end hM2 (by rw [hq1]; omega) (by rw [← hq]; omega) ⟨fun _ => by rw [← hq, hpl2]; exact hsw, fun h => absurd h (by rw [← hq]; omega)⟩, hsw.perm.trans hp2, ho⟩, by simp only []; omega⟩ | exact ⟨(2 * s, _), ⟨rfl, rfl, rfl, rfl, trivial⟩, ⟨hx, by omega, by omega, m2_end hM2 (by rw [hq1]; omega) (by rw [← hq]; omega) ⟨fun h => absurd h (by rw [← hq]; omega), fun _ => rfl⟩, hp2, ho⟩, by simp only []; omega⟩
  refine W_skip (Z17 _ _ (wr (dm ?_)))
  refine D_pe (v := I ↑(2 * s)) rfl (pv_mul rfl rfl (by unfold inI64; omega)) (by show I _ = I _; first | rfl | (congr 1; omega)) (da (D_end (?_)))
  first | exact ⟨(2 * s, _), ⟨rfl, rfl, rfl, rfl, trivial⟩, ⟨hx, by omega, by omega, m2_end hM2 (by rw [hq1]; omega) (by rw [← hq]; omega) ⟨fun _ => by rw [← hq, hpl2]; exact hsw, fun h => absurd h (by rw [← hq]; omega)⟩, hsw.perm.trans hp2, ho⟩, by simp only []; omega⟩ | exact ⟨(2 * s, _), ⟨rfl, rfl, rfl, rfl, trivial⟩, ⟨hx, by omega, by omega, m2_end hM2 (by rw [hq1]; omega) (by rw [← hq]; omega) ⟨fun h => absurd h (by rw [← hq]; omega), fun _ => rfl⟩, hp2, ho⟩, by simp only []; omega⟩
 have hpl := hp.length_eq
 refine W_exit (norm_ret (ret_none rfl ?_))
 have hpl := hp.length_eq
 exact ⟨_, rfl, hx, rfl, cur, ho, hp, m2_all hM (by omega)⟩
theorem sstF_w (l : List Fi) (v : Value) (Bo f : Nat) (c : Fi → Fi → Int) (w : World) (ho : Vc.Own Fi.cs 5 62 Bo w v l) (hl : l.length ≤ 10000000) (hcb : callB Tryz.prog f = true) (hc : ∀ w2 x y, Calls Tryz.prog f [Fi.v x, Fi.v y].toArray w2 (Pure w2 (I (c x y)))) (O : Ord (ltC c)) :
    Calls Tryz.prog 174 [v, fnV f].toArray w (Does (fun k => v.ownBlock = some k) w (fun u w' => u = .tuple #[] ∧ ∃ l', Vc.Own Fi.cs 5 62 Bo w' v l' ∧ l'.Perm l ∧ Up (ltC c) l')) := by
 refine cw Tryz.func174 ?_
 have hx := Vc.Mod.refl (fun k => v.ownBlock = some k) w
 refine wr (dm (dm ?_))
 refine dv 62 5 (ho.arr (by intro x; rfl)).sl (dm ?_)
 refine cD (stbF_w l v Bo f c _ ho hl hcb hc O) (.inl rfl) fun u1 w1 x1 hf1 => ?_
 have hsz1 := hx.size
 replace hx := hx.own x1 (fun i hi hlt => hi)
 obtain ⟨rfl, cur1, ho, hp, hu⟩ := hf1
 refine D_end ((norm_ret (ret_none rfl ?_)))
 exact ⟨_, rfl, hx, rfl, cur1, ho, hp, hu⟩
theorem sle_tr {x y z : Str} (h1 : sLt y x = false) (h2 : sLt z y = false) : sLt z x = false := by
  cases h : sLt z x with
  | false => rfl
  | true =>
    rcases sLt_total x y with e | e | e
    · rw [e, h2] at h; cases h
    · rw [sLt_trans _ _ _ h e] at h2; cases h2
    · rw [e] at h1; cases h1
theorem cmpI_neg (a b : Int) : (cmpI a b < 0) ↔ a < b := by
  unfold cmpI
  split
  · simp [*]
  · split <;> simp <;> omega
theorem cmpI_z (a b : Int) : (cmpI a b = 0) ↔ a = b := by
  unfold cmpI
  split
  · simp; omega
  · split <;> simp <;> omega
theorem cmpB_neg (a b : Str) : (cmpB a b < 0) ↔ sLt a b = true := by
  unfold cmpB
  split
  · simp [*]
  · split <;> simp [*]
theorem ltF_iff (a b : Fi) : ltC cmpF a b = true ↔ (a.lev < b.lev ∨ (a.lev = b.lev ∧ ((a.lev = 0 ∧ a.id < b.id) ∨ (a.lev ≠ 0 ∧ sLt a.fst b.fst = true)))) := by
  unfold ltC cmpF
  rw [decide_eq_true_iff]
  by_cases h : a.lev = 0 ∧ b.lev = 0
  · rw [if_pos h, cmpI_neg]; simp [h.1, h.2]
  · rw [if_neg h]
    by_cases h2 : cmpI a.lev b.lev ≠ 0
    · rw [if_pos h2, cmpI_neg]
      have := mt (cmpI_z a.lev b.lev).2 h2
      constructor
      · exact .inl
      · rintro (h3 | h3)
        · exact h3
        · exact absurd h3.1 this
    · rw [if_neg h2, cmpB_neg]
      have := (cmpI_z a.lev b.lev).1 (Decidable.of_not_not h2)
      have h0 : a.lev ≠ 0 := fun e => h ⟨e, by rw [← this]; exact e⟩
      simp [this, h0, this ▸ h0]
theorem ltF_no {a b : Fi} : ltC cmpF a b = false ↔ ¬ (a.lev < b.lev ∨ (a.lev = b.lev ∧ ((a.lev = 0 ∧ a.id < b.id) ∨ (a.lev ≠ 0 ∧ sLt a.fst b.fst = true)))) := by
  rw [← ltF_iff]; simp
theorem ord_F : Ord (ltC cmpF) := ⟨fun x y z h1 h2 => (by
    rw [ltF_no] at *
    simp only [not_or, not_and, Bool.not_eq_true] at *
    refine ⟨by omega, fun e => ⟨fun e0 => ?_, fun e0 => ?_⟩⟩
    · have e1 : z.lev = y.lev := by omega
      have g1 := (h1.2 (by omega)).1 (by omega)
      have g2 := (h2.2 e1).1 (by omega)
      omega
    · have e1 : z.lev = y.lev := by omega
      exact sle_tr ((h1.2 (by omega)).2 (by omega)) ((h2.2 e1).2 (by omega))), fun x y h => (by
    rw [ltF_iff] at h
    rw [ltF_no]
    simp only [not_or, not_and, Bool.not_eq_true]
    refine ⟨by omega, fun e => ⟨fun e0 => ?_, fun e0 => ?_⟩⟩
    · rcases h with h | ⟨_, ⟨_, h⟩ | ⟨h, _⟩⟩ <;> omega
    · rcases h with h | ⟨_, ⟨h, _⟩ | ⟨_, h⟩⟩
      · omega
      · omega
      · exact sLt_asymm h)⟩
def goneOk (fs : List Fi) (gone : List Int) : Bool := decide gone.Nodup && gone.all fun i => fs.any fun f => decide (f.id = i)
def keepF (fs : List Fi) (gone : List Int) : List Fi := fs.filter fun f => !decide (f.id ∈ gone)
def nextN (n : Int) (add : List Fi) : Int := add.foldl (fun x f => max x (f.id + 1)) n
def chgOk (v : Vs) (gone : List Int) (add : List Fi) : Bool := isV v && goneOk v.fs gone && add.all fun f => decide (f.id ≤ 1099511627776)
theorem gone_dup {fs : List Fi} {gone : List Int} {k : Nat} {i : Int} (hk : gone[k]? = some i) (h : i ∈ (gone.take k).drop 0) : goneOk fs gone = false := by
  unfold goneOk
  rw [Bool.and_eq_false_iff]
  left
  rw [decide_eq_false_iff_not]
  intro hn
  rw [List.drop_zero] at h
  obtain ⟨j, hj⟩ := List.getElem?_of_mem h
  rw [List.getElem?_take] at hj
  split at hj
  · rename_i hlt
    obtain ⟨h1, rfl⟩ := List.getElem?_eq_some_iff.1 hk
    obtain ⟨h2, h3⟩ := List.getElem?_eq_some_iff.1 hj
    exact List.pairwise_iff_getElem.1 hn j k h2 h1 hlt h3
  · cases hj
theorem gone_none {fs : List Fi} {gone : List Int} {k : Nat} {i : Int} (hk : gone[k]? = some i) (h : (fs.any fun f => decide (f.id = i)) = false) : goneOk fs gone = false := by
  unfold goneOk
  rw [Bool.and_eq_false_iff]
  right
  rw [List.all_eq_false]
  exact ⟨i, List.mem_of_getElem? hk, by rw [h]; decide⟩
theorem gone_step {fs : List Fi} {gone : List Int} {k : Nat} {i : Int} (hk : gone[k]? = some i) (h : goneOk fs (gone.take k) = true) (h1 : i ∉ (gone.take k).drop 0) (h2 : (fs.any fun f => decide (f.id = i)) = true) : goneOk fs (gone.take (k + 1)) = true := by
  unfold goneOk at *
  rw [Bool.and_eq_true, decide_eq_true_iff] at *
  rw [take_at hk, List.all_append, h.2]
  refine ⟨List.nodup_append.2 ⟨h.1, by simp, fun a ha b hb e => h1 ?_⟩, by simp [h2]⟩
  rw [List.mem_singleton.1 hb] at e
  rw [List.drop_zero, ← e]; exact ha
theorem keep_take {fs : List Fi} {gone : List Int} {k : Nat} {f : Fi} (hk : fs[k]? = some f) : keepF (fs.take (k + 1)) gone = if f.id ∈ gone then keepF (fs.take k) gone else keepF (fs.take k) gone ++ [f] := by
  unfold keepF
  rw [take_at hk, List.filter_append]
  by_cases h : f.id ∈ gone <;> simp [h]
theorem keep_len (fs : List Fi) (gone : List Int) (k : Nat) : (keepF (fs.take k) gone).length ≤ fs.length := by
  have h1 : (keepF (fs.take k) gone).length ≤ (fs.take k).length := List.length_filter_le _ _
  have h2 : (fs.take k).length ≤ fs.length := List.length_take_le' ..
  omega
theorem next_take {n : Int} {add : List Fi} {k : Nat} {f : Fi} (hk : add[k]? = some f) : nextN n (add.take (k + 1)) = max (nextN n (add.take k)) (f.id + 1) := by
  unfold nextN
  rw [take_at hk, List.foldl_append]; rfl
theorem chg_bad {v : Vs} {gone : List Int} {add : List Fi} (h : isV v = false ∨ goneOk v.fs gone = false ∨ ∃ f ∈ add, ¬ f.id ≤ 1099511627776) : chgOk v gone add = false := by
  unfold chgOk
  rcases h with h | h | ⟨f, hf, h⟩
  · rw [h]; rfl
  · rw [h]; simp
  · rw [Bool.and_eq_false_iff]; right
    rw [List.all_eq_false]
    exact ⟨f, hf, by simpa using h⟩
theorem chg_good {v : Vs} {gone : List Int} {add : List Fi} (h1 : isV v = true) (h2 : goneOk v.fs gone = true) (h3 : ∀ f ∈ add, f.id ≤ 1099511627776) : chgOk v gone add = true := by
  unfold chgOk
  rw [h1, h2]
  simp only [Bool.and_self, Bool.true_and, List.all_eq_true, decide_eq_true_eq]
  exact h3
theorem change_w (n : Int) (fs : List Fi) (vf : Value) (gone : List Int) (vg : Value) (add : List Fi) (va : Value) (w : World) (hf : Arr Fi.cs 5 w vf fs) (hfl : fs.length ≤ 40000) (hid : ∀ f ∈ fs, inI64 f.id) (hg : Arr Vc.encI 1 w vg gone) (hgl : gone.length ≤ 40000) (ha : Arr Fi.cs 5 w va add) (hal : add.length ≤ 40000) (had : ∀ f ∈ add, inI64 f.id) :
    Calls Tryz.prog 91 [.agg ⟨[I n, vf]⟩, vg, va].toArray w (Gives w (fun u w' => (chgOk ⟨n, fs⟩ gone add = false ∧ u = .tuple #[.agg ⟨[I 0, .slice none 0 0]⟩, I 1]) ∨ (chgOk ⟨n, fs⟩ gone add = true ∧ ∃ fs', fs'.Perm (keepF fs gone ++ add) ∧ Up (ltC cmpF) fs' ∧ ((isV ⟨nextN n add, fs'⟩ = false ∧ u = .tuple #[.agg ⟨[I 0, .slice none 0 0]⟩, I 1]) ∨ (isV ⟨nextN n add, fs'⟩ = true ∧ ∃ vx, u = .tuple #[.agg ⟨[I (nextN n add), vx]⟩, I 0] ∧ Vc.Own Fi.cs 5 62 w.heap.size w' vx fs'))))) := by
 refine cw Tryz.func91 ?_
 have hx := Ext.refl w
 refine ws fun _ Z1 => wr (D_box rfl rfl rfl RX.all (fun b1 w1 e1 x1 m1 => ?_))
 have g1 := hx.ge e1
 replace hx := hx.trans x1
 refine D_alloc (cs := [.int .i64 0, .slice none 0 0]) rfl (by kernel_rfl) RX.all (fun b2 w2 e2 x2 m2 => ?_)
 have g2 := hx.ge e2
 have n2_1 := m1.ltb e2
 replace m1 := m1.ext x2
 replace hx := hx.trans x2
 refine da (de Z1 (ws fun _ Z2 => ws fun _ Z3 => wr ?_))
 refine dq (lv_loadA (k := 2) (by kernel_rfl) rfl rfl m1.row) (cP (isV_w n fs vf _ (hf.ext hx) (by omega) hid) RX.all fun w3 x3 => ?_)
 replace m1 := m1.ext x3
 replace m2 := m2.ext x3
 replace hx := hx.trans x3
 refine dn (de Z3 ?_)
 refine wc (fun c1 => ?_) fun c1 => ?_
 ·
  refine ws fun _ Z4 => wr (db (zs := [.int .i64 0, .slice none 0 0]) (pl := [(0, 1), (1, 1)]) (pv := []) (cs := [.int .i64 0, .slice none 0 0]) ?_)
  refine stA m2 (fun w4 x4 xs4 m2 => ?_)
  try dsimp only [setAt, List.set, List.take, List.drop] at m2
  try replace m1 := m1.mo x4
  replace hx := hx.o1 x4
  refine da (de Z4 (W_ret ?_))
  refine ret_cell_tmp (u := ?v6) rfl rfl rfl rfl (by kernel_rfl) rfl m2.row ?h6 ?k6
  case h6 => conv => lhs; whnf
  exact ⟨_, rfl, hx, .inl ⟨chg_bad (.inl (by simpa using c1)), rfl⟩⟩
 have hV : isV ⟨n, fs⟩ = true := by simpa using c1
 refine W_skip (Z2 _ _ (ws fun _ Z5 => wr (df 0 rfl (dl rfl (m1.at rfl) (db (zs := [.int .i64 0, .slice none 0 0]) (pl := [(0, 1), (1, 1)]) (pv := [(0, _)]) (cs := [_, .slice none 0 0]) ?_)))))
 refine D_alloc (cs := [.int .i64 0, .slice none 0 0]) rfl (by kernel_rfl) RX.all (fun b3 w5 e3 x5 m3 => ?_)
 have g3 := hx.ge e3
 have n3_1 := m1.ltb e3
 have n3_2 := m2.ltb e3
 replace m1 := m1.ext x5
 replace m2 := m2.ext x5
 replace hx := hx.trans x5
 refine stA m3 (fun w6 x6 xs6 m3 => ?_)
 try dsimp only [setAt, List.set, List.take, List.drop] at m3
 try replace m1 := m1.mo x6
 try replace m2 := m2.mo x6
 replace hx := hx.o1 x6
 refine de Z5 (ws fun _ Z6 => ws fun _ Z7 => wr (dm ?_))
 refine dv 3 1 (hg.ext hx).sl (dm (de Z7 (W_block ?_)))
 refine W_loop (G := Nat) (fun k => [(1, vg), (2, va), (3, ptr b1 0), (6, ptr b2 0), (8, ptr b3 0), (22, vg), (23, I ↑gone.length), (24, I ↑k)]) (fun k w' => Ext w w' ∧ Blk w' b1 [I n, vf] 56 ∧ Blk w' b2 [I 0, .slice none 0 0] 56 ∧ Blk w' b3 [I n, .slice none 0 0] 56 ∧ k ≤ gone.length ∧ goneOk fs (gone.take k) = true) (fun k => gone.length - k) 0 ?_ ?_ ?_
 · exact ⟨rfl, rfl, rfl, rfl, rfl, rfl, rfl, rfl, trivial⟩
 · exact ⟨hx, m1, m2, m3, Nat.zero_le _, rfl⟩
 intro X7 g7 w7 hF7
 revert hF7; revert g7; intro k hF7
 clear hx m1 m2 m3
 obtain ⟨hx, m1, m2, m3, hk1, hgo⟩ := hF7
 refine ws fun _ Z8 => wr (dp (pv_lss rfl rfl) (de Z8 (ws fun _ Z9 => wi (fun c2 => ?_) fun c2 => ?_)))
 ·
  obtain ⟨i, hk⟩ : ∃ i, gone[k]? = some i := ⟨_, List.getElem?_eq_getElem (by omega)⟩
  refine W_skip (Z9 _ _ (ws fun _ Z10 => W_block (ws fun _ Z11 => wr (dm ?_))))
  refine di 3 1 hg.sl rfl (hg.lt hk) (dl rfl (((hg.ext hx).row hk).at0 rfl) (D_alloc (cs := [.int .i64 0]) rfl (by kernel_rfl) RX.all (fun b4 w8 e4 x8 m4 => ?_)))
  have g4 := hx.ge e4
  have n4_1 := m1.ltb e4
  have n4_2 := m2.ltb e4
  have n4_3 := m3.ltb e4
  replace m1 := m1.ext x8
  replace m2 := m2.ext x8
  replace m3 := m3.ext x8
  replace hx := hx.trans x8
  refine da ?_
  refine st1 m4 (fun w9 x9 xs9 m4 => ?_) (hv := by first | rfl | exact isSl.one m1.sl | exact isSl.one m2.sl | exact isSl.one m3.sl | exact isSl.one ha.sl | exact isSl.one hf.sl | exact isSl.one hg.sl | exact isSl.one (hg.ext hx).sl | exact isSl.one (hf.ext hx).sl | exact isSl.one (ha.ext hx).sl)
  try dsimp only [setAt, List.set, List.take, List.drop] at m4
  try replace m1 := m1.mo x9
  try replace m2 := m2.mo x9
  try replace m3 := m3.mo x9
  replace hx := hx.o1 x9
  refine de Z11 (ws fun _ Z12 => W_draw (R := Ext) Ext.refl (fun _ _ _ => Ext.trans) (by kernel_rfl) [3, 7] [(0, .p, false), (1, .p, false), (2, .p, false), (3, .l, false), (4, .x, true), (5, .p, false), (6, .p, false), (7, .l, false), (8, .p, false), (9, .x, false), (10, .p, false), (11, .p, false)] rfl (by kernel_rfl) (by kernel_rfl) (fun w10 ew10 => ?_))
  have x10 := drewx ew10
  clear ew10
  replace m1 := m1.ext x10
  replace m2 := m2.ext x10
  replace m3 := m3.ext x10
  replace m4 := m4.ext x10
  replace hx := hx.trans x10
  iterate 2 refine dm ?_
  refine dp (pv_slV (e := 3) (k := 1) (by kernel_rfl) (hg.ext hx).sl rfl rfl rfl (by omega) (by omega)) (dL rfl (fun _ hR => ((m4.ext hR).at rfl)) (cP (hasI_w ((gone.take k).drop 0) (slV 1 vg 0 k) i _ ((hg.ext hx).slice (Nat.zero_le _) (by omega)) (by rw [List.length_drop, List.length_take]; omega)) RX.all fun w11 x11 => ?_))
  replace m1 := m1.ext x11
  replace m2 := m2.ext x11
  replace m3 := m3.ext x11
  replace m4 := m4.ext x11
  replace hx := hx.trans x11
  refine dm ?_
  refine D_split 34 rfl (fun c3 => ?_) (fun c3 => ?_)
  ·
   refine dk (dk (dk (dk (dk (dk' (de Z12 ?_))))))
   refine W_t rfl (ws fun _ Z13 => wr (db (zs := [.int .i64 0, .slice none 0 0]) (pl := [(0, 1), (1, 1)]) (pv := []) (cs := [.int .i64 0, .slice none 0 0]) ?_))
   refine stA m2 (fun w12 x12 xs12 m2 => ?_)
   try dsimp only [setAt, List.set, List.take, List.drop] at m2
   try replace m1 := m1.mo x12
   try replace m3 := m3.mo x12
   try replace m4 := m4.mo x12
   replace hx := hx.o1 x12
   refine da (de Z13 (W_ret ?_))
   refine ret_cell_tmp (u := ?v21) rfl rfl rfl rfl (by kernel_rfl) rfl m2.row ?h21 ?k21
   case h21 => conv => lhs; whnf
   exact ⟨_, rfl, hx, .inl ⟨chg_bad (.inr (.inl (gone_dup hk (by simpa using c3)))), rfl⟩⟩
  refine df 1 rfl (dL rfl (fun _ hR => ((m1.ext hR).at rfl)) (dp (pv_makeFunc rfl) (cP (hasFi_w fs vf 173 [ptr b4 0] (fun f => decide (f.id = i)) _ (hf.ext hx) (by omega) (by kernel_rfl) (fun w2 x2 x _ => chg1_w x i _ w2 (m4.ext x2))) RX.ext fun w13 x13 => ?_)))
  replace m1 := m1.ext x13
  replace m2 := m2.ext x13
  replace m3 := m3.ext x13
  replace hx := hx.trans x13
  refine dn ?_
  refine dk' (de Z12 ?_)
  refine wc (fun c4 => ?_) fun c4 => ?_
  ·
   refine ws fun _ Z14 => wr (db (zs := [.int .i64 0, .slice none 0 0]) (pl := [(0, 1), (1, 1)]) (pv := []) (cs := [.int .i64 0, .slice none 0 0]) ?_)
   refine stA m2 (fun w14 x14 xs14 m2 => ?_)
   try dsimp only [setAt, List.set, List.take, List.drop] at m2
   try replace m1 := m1.mo x14
   try replace m3 := m3.mo x14
   replace hx := hx.o1 x14
   refine da (de Z14 (W_ret ?_))
   refine ret_cell_tmp (u := ?v27) rfl rfl rfl rfl (by kernel_rfl) rfl m2.row ?h27 ?k27
   case h27 => conv => lhs; whnf
   exact ⟨_, rfl, hx, .inl ⟨chg_bad (.inr (.inl (gone_none hk (by simpa using c4)))), rfl⟩⟩
  refine W_skip (Z10 _ _ (wr (pa rfl rfl (dm (D_end (?_))))))
  exact ⟨k + 1, ⟨rfl, rfl, rfl, rfl, rfl, rfl, rfl, rfl, trivial⟩, ⟨hx, m1, m2, m3, by omega, gone_step hk hgo (by simpa using c3) (by simpa using c4)⟩, by omega⟩
 rw [List.take_of_length_le (by omega)] at hgo
 refine W_exit (Z6 _ _ (ws fun _ Z15 => ws fun _ Z16 => wr (df 1 rfl (dl rfl (m1.at rfl) (dv 62 5 (hf.ext hx).sl (dm (de Z16 (W_block ?_))))))))
 refine W_loop (G := Nat × Value) (fun (k, vb) => [(1, vg), (2, va), (6, ptr b2 0), (8, ptr b3 0), (44, vf), (45, I ↑fs.length), (46, I ↑k)]) (fun (k, vb) w' => Ext w w' ∧ Blk w' b1 [I n, vf] 56 ∧ Blk w' b2 [I 0, .slice none 0 0] 56 ∧ k ≤ fs.length ∧ Blk w' b3 [I n, vb] 56 ∧ Vc.Own Fi.cs 5 62 w.heap.size w' vb (keepF (fs.take k) gone)) (fun (k, vb) => fs.length - k) (0, .slice none 0 0) ?_ ?_ ?_
 · exact ⟨rfl, rfl, rfl, rfl, rfl, rfl, rfl, trivial⟩
 · exact ⟨hx, m1, m2, Nat.zero_le _, m3, Vc.Own.nil⟩
 intro X15 g15 w15 hF15
 obtain ⟨k, vb⟩ := g15
 clear hx m1 m2 m3
 obtain ⟨hx, m1, m2, hk1, m3, ho⟩ := hF15
 refine ws fun _ Z17 => wr (dp (pv_lss rfl rfl) (de Z17 (ws fun _ Z18 => wi (fun c5 => ?_) fun c5 => ?_)))
 ·
  obtain ⟨f, hk⟩ : ∃ f, fs[k]? = some f := ⟨_, List.getElem?_eq_getElem (by omega)⟩
  have hkl9 := keep_len fs gone k
  refine W_skip (Z18 _ _ (ws fun _ Z19 => W_block (ws fun _ Z20 => wr (di 62 5 hf.sl rfl (hf.lt hk) (dq (lv_loadA (by kernel_rfl) rfl rfl ((hf.ext hx).row hk)) (D_alloc (cs := [.int .i64 0, .int .i64 0, .int .i64 0, S [], S []]) rfl (by kernel_rfl) RX.all (fun b5 w16 e5 x16 m5 => ?_)))))))
  have g5 := hx.ge e5
  have n5_1 := m1.ltb e5
  have n5_2 := m2.ltb e5
  have n5_3 := m3.ltb e5
  have o5_ho := ho.ltb e5
  replace m1 := m1.ext x16
  replace m2 := m2.ext x16
  replace m3 := m3.ext x16
  replace ho := ho.ext x16
  replace hx := hx.trans x16
  refine stA m5 (fun w17 x17 xs17 m5 => ?_)
  try dsimp only [setAt, List.set, List.take, List.drop] at m5
  try replace m1 := m1.mo x17
  try replace m2 := m2.mo x17
  try replace m3 := m3.mo x17
  try replace ho := ho.mod x17 (by first | assumption | (intro k hk h; have h1 := (ho.lt k hk).1; have h2 : k = b5 := h; omega) | (intro k hk h; have h1 := o5_ho k hk; have h2 : k = b5 := h; omega) | (intro h; have h2 : _ = b5 := h; omega) | (intro hl h; have h1 := a5_ho hl; have h2 : _ = b5 := h; omega))
  replace hx := hx.o1 x17
  refine de Z20 (ws fun _ Z21 => wr (dm ?_))
  refine df 0 rfl (dl rfl (m5.at rfl) (cP (hasI_w gone vg f.id _ (hg.ext hx) (by omega)) RX.all fun w18 x18 => ?_))
  replace m1 := m1.ext x18
  replace m2 := m2.ext x18
  replace m3 := m3.ext x18
  replace ho := ho.ext x18
  replace m5 := m5.ext x18
  replace hx := hx.trans x18
  refine dn (de Z21 ?_)
  refine wc (fun c6 => ?_) fun c6 => ?_
  ·
   refine wr (df 1 rfl (dl rfl (m3.at rfl) (dq (lv_loadA (k := 5) (by kernel_rfl) rfl rfl m5.row) (li (e := 62) (sz := 5) (zs := [.int .i64 0, .int .i64 0, .int .i64 0, S [], S []]) (pv := [(0, .agg ⟨[_, _, _, _, _]⟩)]) (cs := [_, _, _, _, _]) RX.all (fun b6 w19 e6 x19 m6 => ?_)))))
   have g6 := hx.ge e6
   have n6_1 := m1.ltb e6
   have n6_2 := m2.ltb e6
   have n6_3 := m3.ltb e6
   have n6_5 := m5.ltb e6
   have o6_ho := ho.ltb e6
   replace m1 := m1.ext x19
   replace m2 := m2.ext x19
   replace m3 := m3.ext x19
   replace ho := ho.ext x19
   replace m5 := m5.ext x19
   replace hx := hx.trans x19
   refine D_append (lx := [f]) (e := 62) (sz := 5) (by' := 56) rfl (by kernel_rfl) (by kernel_rfl) (by intro x; rfl) ho (m6.arr (enc := Fi.cs) (sz := 5) (l := [f]) rfl (by intro x; rfl) rfl (Nat.le_of_ble_eq_true rfl)) rfl rfl (by intro x _ u hu; simp at hu; rcases hu with rfl | rfl | rfl | rfl | rfl <;> rfl) (by simp; omega) (by decide) hx.size (.inl rfl) (fun vp w20 ho_n x20 => ?_)
   try replace m1 := m1.mod x20 (by first | (intro h; have h2 : b1 = b1 := Option.some.inj h; omega) | (intro h; have h1 := (ho.lt _ h).1; omega) | (intro h; have h1 := o1_ho _ h; omega) | (intro h; exact ho.ne_blk m1 rfl h))
   try replace m2 := m2.mod x20 (by first | (intro h; have h2 : b2 = b2 := Option.some.inj h; omega) | (intro h; have h1 := (ho.lt _ h).1; omega) | (intro h; have h1 := o2_ho _ h; omega) | (intro h; exact ho.ne_blk m2 rfl h))
   try replace m3 := m3.mod x20 (by first | (intro h; have h2 : b3 = b3 := Option.some.inj h; omega) | (intro h; have h1 := (ho.lt _ h).1; omega) | (intro h; have h1 := o3_ho _ h; omega) | (intro h; exact ho.ne_blk m3 rfl h))
   try replace m5 := m5.mod x20 (by first | (intro h; have h2 : b5 = b5 := Option.some.inj h; omega) | (intro h; have h1 := (ho.lt _ h).1; omega) | (intro h; have h1 := o5_ho _ h; omega) | (intro h; exact ho.ne_blk m5 rfl h))
   replace hx := hx.own x20 (fun i hi => (ho.lt i hi).1)
   replace ho := ho_n
   have hne3 : ∀ k, vp.ownBlock = some k → ¬ oneB b3 k := fun k hk e => ho.ne_blk m3 rfl (hk.trans (congrArg some e))
   clear m6
   refine df 1 rfl (st1 m3 (fun w21 x21 xs21 m3 => ?_) (hv := by first | rfl | exact isSl.one m1.sl | exact isSl.one m2.sl | exact isSl.one ho.sl | exact isSl.one m5.sl | exact isSl.one ha.sl | exact isSl.one hf.sl | exact isSl.one hg.sl | exact isSl.one (hg.ext hx).sl | exact isSl.one (hf.ext hx).sl | exact isSl.one (ha.ext hx).sl))
   try dsimp only [setAt, List.set, List.take, List.drop] at m3
   try replace m1 := m1.mo x21
   try replace m2 := m2.mo x21
   try replace ho := ho.mod x21 (by first | assumption | (intro k hk h; have h1 := (ho.lt k hk).1; have h2 : k = b3 := h; omega) | (intro k hk h; have h1 := o3_ho k hk; have h2 : k = b3 := h; omega) | (intro h; have h2 : _ = b3 := h; omega) | (intro hl h; have h1 := a3_ho hl; have h2 : _ = b3 := h; omega))
   replace hx := hx.o1 x21
   refine de Z19 (wr (pa rfl rfl (dm (D_end (?_)))))
   first | (rw [show keepF (fs.take k) gone ++ [f] = keepF (fs.take (k + 1)) gone by rw [keep_take hk, if_neg (by simpa using c6)]] at ho; exact ⟨(k + 1, vp), ⟨rfl, rfl, rfl, rfl, rfl, rfl, rfl, trivial⟩, ⟨hx, m1, m2, by omega, m3, ho⟩, by simp only []; omega⟩) | (rw [show keepF (fs.take k) gone = keepF (fs.take (k + 1)) gone by rw [keep_take hk, if_pos (by simpa using c6)]] at ho; exact ⟨(k + 1, vb), ⟨rfl, rfl, rfl, rfl, rfl, rfl, rfl, trivial⟩, ⟨hx, m1, m2, by omega, m3, ho⟩, by simp only []; omega⟩)
  refine W_skip (Z19 _ _ (wr (pa rfl rfl (dm (D_end (?_))))))
  first | (rw [show keepF (fs.take k) gone ++ [f] = keepF (fs.take (k + 1)) gone by rw [keep_take hk, if_neg (by simpa using c6)]] at ho; exact ⟨(k + 1, vp), ⟨rfl, rfl, rfl, rfl, rfl, rfl, rfl, trivial⟩, ⟨hx, m1, m2, by omega, m3, ho⟩, by simp only []; omega⟩) | (rw [show keepF (fs.take k) gone = keepF (fs.take (k + 1)) gone by rw [keep_take hk, if_pos (by simpa using c6)]] at ho; exact ⟨(k + 1, vb), ⟨rfl, rfl, rfl, rfl, rfl, rfl, rfl, trivial⟩, ⟨hx, m1, m2, by omega, m3, ho⟩, by simp only []; omega⟩)
 rw [List.take_of_length_le (by omega)] at ho
 refine W_exit (Z15 _ _ (ws fun _ Z22 => ws fun _ Z23 => wr (dm ?_)))
 refine dv 62 5 (ha.ext hx).sl (dm (de Z23 (W_block ?_)))
 refine W_loop (G := Nat × Value) (fun (j, vb) => [(6, ptr b2 0), (8, ptr b3 0), (62, va), (63, I ↑add.length), (64, I ↑j)]) (fun (j, vb) w' => Ext w w' ∧ Blk w' b1 [I n, vf] 56 ∧ Blk w' b2 [I 0, .slice none 0 0] 56 ∧ j ≤ add.length ∧ (∀ f ∈ add.take j, f.id ≤ 1099511627776) ∧ Blk w' b3 [I (nextN n (add.take j)), vb] 56 ∧ Vc.Own Fi.cs 5 62 w.heap.size w' vb (keepF fs gone ++ add.take j)) (fun (j, vb) => add.length - j) (0, vb) ?_ ?_ ?_
 · exact ⟨rfl, rfl, rfl, rfl, rfl, trivial⟩
 · exact ⟨hx, m1, m2, Nat.zero_le _, (fun f hf => by cases hf), m3, by simpa using ho⟩
 intro X22 g22 w22 hF22
 obtain ⟨j, vb⟩ := g22
 clear hx m1 m2 m3 ho
 obtain ⟨hx, m1, m2, hj1, hA, m3, ho⟩ := hF22
 refine ws fun _ Z24 => wr (dp (pv_lss rfl rfl) (de Z24 (ws fun _ Z25 => wi (fun c7 => ?_) fun c7 => ?_)))
 ·
  obtain ⟨f, hk⟩ : ∃ f, add[j]? = some f := ⟨_, List.getElem?_eq_getElem (by omega)⟩
  have hkl9 := keep_len fs gone fs.length
  rw [List.take_length] at hkl9
  have hfi := had f (List.mem_of_getElem? hk)
  unfold inI64 at hfi
  have hne3 : ∀ k, vb.ownBlock = some k → ¬ oneB b3 k := fun k hk e => ho.ne_blk m3 rfl (hk.trans (congrArg some e))
  refine W_skip (Z25 _ _ (ws fun _ Z26 => W_block (ws fun _ Z27 => wr (di 62 5 ha.sl rfl (ha.lt hk) (dq (lv_loadA (by kernel_rfl) rfl rfl ((ha.ext hx).row hk)) (D_alloc (cs := [.int .i64 0, .int .i64 0, .int .i64 0, S [], S []]) rfl (by kernel_rfl) RX.all (fun b7 w23 e7 x23 m7 => ?_)))))))
  have g7 := hx.ge e7
  have n7_1 := m1.ltb e7
  have n7_2 := m2.ltb e7
  have n7_3 := m3.ltb e7
  have o7_ho := ho.ltb e7
  replace m1 := m1.ext x23
  replace m2 := m2.ext x23
  replace m3 := m3.ext x23
  replace ho := ho.ext x23
  replace hx := hx.trans x23
  refine stA m7 (fun w24 x24 xs24 m7 => ?_)
  try dsimp only [setAt, List.set, List.take, List.drop] at m7
  try replace m1 := m1.mo x24
  try replace m2 := m2.mo x24
  try replace m3 := m3.mo x24
  try replace ho := ho.mod x24 (by first | assumption | (intro k hk h; have h1 := (ho.lt k hk).1; have h2 : k = b7 := h; omega) | (intro k hk h; have h1 := o7_ho k hk; have h2 : k = b7 := h; omega) | (intro h; have h2 : _ = b7 := h; omega) | (intro hl h; have h1 := a7_ho hl; have h2 : _ = b7 := h; omega))
  replace hx := hx.o1 x24
  refine de Z27 (ws fun _ Z28 => ws fun _ Z29 => wr (df 0 rfl (dl rfl (m7.at rfl) (dp (pv_gtr rfl rfl) (de Z29 (wi (fun c8 => ?_) fun c8 => ?_))))))
  ·
   refine ws fun _ Z30 => wr (db (zs := [.int .i64 0, .slice none 0 0]) (pl := [(0, 1), (1, 1)]) (pv := []) (cs := [.int .i64 0, .slice none 0 0]) ?_)
   refine stA m2 (fun w25 x25 xs25 m2 => ?_)
   try dsimp only [setAt, List.set, List.take, List.drop] at m2
   try replace m1 := m1.mo x25
   try replace m3 := m3.mo x25
   try replace ho := ho.mod x25 (by first | assumption | (intro k hk h; have h1 := (ho.lt k hk).1; have h2 : k = b2 := h; omega) | (intro k hk h; have h1 := o2_ho k hk; have h2 : k = b2 := h; omega) | (intro h; have h2 : _ = b2 := h; omega) | (intro hl h; have h1 := a2_ho hl; have h2 : _ = b2 := h; omega))
   try replace m7 := m7.mo x25
   replace hx := hx.o1 x25
   refine da (de Z30 (W_ret ?_))
   refine ret_cell_tmp (u := ?v43) rfl rfl rfl rfl (by kernel_rfl) rfl m2.row ?h43 ?k43
   case h43 => conv => lhs; whnf
   exact ⟨_, rfl, hx, .inl ⟨chg_bad (.inr (.inr ⟨f, List.mem_of_getElem? hk, by omega⟩)), rfl⟩⟩
  refine W_skip (Z28 _ _ (ws fun _ Z31 => wr (df 0 rfl (dl rfl (m3.at rfl) (df 0 rfl (dl rfl (m7.at rfl) (pa rfl rfl (dp (pv_max2 rfl rfl) (df 0 rfl (st1 m3 (fun w26 x26 xs26 m3 => ?_) (hv := by first | rfl | exact isSl.one m1.sl | exact isSl.one m2.sl | exact isSl.one ho.sl | exact isSl.one m7.sl | exact isSl.one ha.sl | exact isSl.one hf.sl | exact isSl.one hg.sl | exact isSl.one (hg.ext hx).sl | exact isSl.one (hf.ext hx).sl | exact isSl.one (ha.ext hx).sl)))))))))))
  try dsimp only [setAt, List.set, List.take, List.drop] at m3
  try replace m1 := m1.mo x26
  try replace m2 := m2.mo x26
  try replace ho := ho.mod x26 (by first | assumption | (intro k hk h; have h1 := (ho.lt k hk).1; have h2 : k = b3 := h; omega) | (intro k hk h; have h1 := o3_ho k hk; have h2 : k = b3 := h; omega) | (intro h; have h2 : _ = b3 := h; omega) | (intro hl h; have h1 := a3_ho hl; have h2 : _ = b3 := h; omega))
  try replace m7 := m7.mo x26
  replace hx := hx.o1 x26
  refine de Z31 (wr (df 1 rfl (dl rfl (m3.at rfl) (dq (lv_loadA (k := 5) (by kernel_rfl) rfl rfl m7.row) (li (e := 62) (sz := 5) (zs := [.int .i64 0, .int .i64 0, .int .i64 0, S [], S []]) (pv := [(0, .agg ⟨[_, _, _, _, _]⟩)]) (cs := [_, _, _, _, _]) RX.all (fun b8 w27 e8 x27 m8 => ?_))))))
  have g8 := hx.ge e8
  have n8_1 := m1.ltb e8
  have n8_2 := m2.ltb e8
  have n8_3 := m3.ltb e8
  have n8_7 := m7.ltb e8
  have o8_ho := ho.ltb e8
  replace m1 := m1.ext x27
  replace m2 := m2.ext x27
  replace m3 := m3.ext x27
  replace ho := ho.ext x27
  replace m7 := m7.ext x27
  replace hx := hx.trans x27
  refine D_append (lx := [f]) (e := 62) (sz := 5) (by' := 56) rfl (by kernel_rfl) (by kernel_rfl) (by intro x; rfl) ho (m8.arr (enc := Fi.cs) (sz := 5) (l := [f]) rfl (by intro x; rfl) rfl (Nat.le_of_ble_eq_true rfl)) rfl rfl (by intro x _ u hu; simp at hu; rcases hu with rfl | rfl | rfl | rfl | rfl <;> rfl) (by simp; omega) (by decide) hx.size (.inl rfl) (fun vp w28 ho_n x28 => ?_)
  try replace m1 := m1.mod x28 (by first | (intro h; have h2 : b1 = b1 := Option.some.inj h; omega) | (intro h; have h1 := (ho.lt _ h).1; omega) | (intro h; have h1 := o1_ho _ h; omega) | (intro h; exact ho.ne_blk m1 rfl h))
  try replace m2 := m2.mod x28 (by first | (intro h; have h2 : b2 = b2 := Option.some.inj h; omega) | (intro h; have h1 := (ho.lt _ h).1; omega) | (intro h; have h1 := o2_ho _ h; omega) | (intro h; exact ho.ne_blk m2 rfl h))
  try replace m3 := m3.mod x28 (by first | (intro h; have h2 : b3 = b3 := Option.some.inj h; omega) | (intro h; have h1 := (ho.lt _ h).1; omega) | (intro h; have h1 := o3_ho _ h; omega) | (intro h; exact ho.ne_blk m3 rfl h))
  try replace m7 := m7.mod x28 (by first | (intro h; have h2 : b7 = b7 := Option.some.inj h; omega) | (intro h; have h1 := (ho.lt _ h).1; omega) | (intro h; have h1 := o7_ho _ h; omega) | (intro h; exact ho.ne_blk m7 rfl h))
  replace hx := hx.own x28 (fun i hi => (ho.lt i hi).1)
  replace ho := ho_n
  have hne3 : ∀ k, vp.ownBlock = some k → ¬ oneB b3 k := fun k hk e => ho.ne_blk m3 rfl (hk.trans (congrArg some e))
  clear m8
  refine df 1 rfl (st1 m3 (fun w29 x29 xs29 m3 => ?_) (hv := by first | rfl | exact isSl.one m1.sl | exact isSl.one m2.sl | exact isSl.one ho.sl | exact isSl.one m7.sl | exact isSl.one ha.sl | exact isSl.one hf.sl | exact isSl.one hg.sl | exact isSl.one (hg.ext hx).sl | exact isSl.one (hf.ext hx).sl | exact isSl.one (ha.ext hx).sl))
  try dsimp only [setAt, List.set, List.take, List.drop] at m3
  try replace m1 := m1.mo x29
  try replace m2 := m2.mo x29
  try replace ho := ho.mod x29 (by first | assumption | (intro k hk h; have h1 := (ho.lt k hk).1; have h2 : k = b3 := h; omega) | (intro k hk h; have h1 := o3_ho k hk; have h2 : k = b3 := h; omega) | (intro h; have h2 : _ = b3 := h; omega) | (intro hl h; have h1 := a3_ho hl; have h2 : _ = b3 := h; omega))
  replace hx := hx.o1 x29
  refine de Z26 (wr (pa rfl rfl (dm (D_end (?_)))))
  rw [← next_take hk] at m3
  rw [List.append_assoc, ← take_at hk] at ho
  exact ⟨(j + 1, vp), ⟨rfl, rfl, rfl, rfl, rfl, trivial⟩, ⟨hx, m1, m2, by omega, fun q hq => (by rw [take_at hk] at hq; rcases List.mem_append.1 hq with h | h; exact hA q h; rw [List.mem_singleton.1 h]; omega), m3, ho⟩, by simp only []; omega⟩
 have hne2 : ∀ k, vb.ownBlock = some k → ¬ oneB b2 k := fun k hk e => ho.ne_blk m2 rfl (hk.trans (congrArg some e))
 have hkl9 := keep_len fs gone fs.length
 rw [List.take_length] at hkl9
 rw [List.take_of_length_le (by omega)] at ho m3 hA
 refine W_exit (Z22 _ _ (ws fun _ Z32 => wr (df 1 rfl (dl rfl (m3.at rfl) (cD (sstF_w _ vb w.heap.size 175 cmpF _ ho (by simp; omega) (by kernel_rfl) (fun w2 x y => cmpF_w x y w2) ord_F) (.inl rfl) fun u30 w30 x30 hf30 => ?_)))))
 have hsz30 := hx.size
 replace m2 := m2.mod x30 (fun e => ho.ne_blk m2 rfl e)
 replace m3 := m3.mod x30 (fun e => ho.ne_blk m3 rfl e)
 replace hx := hx.own x30 (fun i hi => (ho.lt i hi).1)
 obtain ⟨rfl, l2, ho, hp2, hu2⟩ := hf30
 have hpl2 := hp2.length_eq
 rw [List.length_append] at hpl2
 refine de Z32 (ws fun _ Z33 => ws fun _ Z34 => wr (dq (lv_loadA (k := 2) (by kernel_rfl) rfl rfl m3.row) (cP (isV_w (nextN n add) l2 vb _ (ho.arr (by intro x; rfl)) (by omega) (fun f hf2 => (List.mem_append.1 (hp2.mem_iff.1 hf2)).elim (fun h => hid f (List.mem_filter.1 h).1) (had f))) RX.all fun w31 x31 => ?_)))
 replace m2 := m2.ext x31
 replace m3 := m3.ext x31
 replace ho := ho.ext x31
 replace hx := hx.trans x31
 refine dn (de Z34 ?_)
 refine wc (fun c9 => ?_) fun c9 => ?_
 ·
  refine ws fun _ Z35 => wr (db (zs := [.int .i64 0, .slice none 0 0]) (pl := [(0, 1), (1, 1)]) (pv := []) (cs := [.int .i64 0, .slice none 0 0]) ?_)
  refine stA m2 (fun w32 x32 xs32 m2 => ?_)
  try dsimp only [setAt, List.set, List.take, List.drop] at m2
  try replace m3 := m3.mo x32
  try replace ho := ho.mod x32 (by first | assumption | (intro k hk h; have h1 := (ho.lt k hk).1; have h2 : k = b2 := h; omega) | (intro k hk h; have h1 := o2_ho k hk; have h2 : k = b2 := h; omega) | (intro h; have h2 : _ = b2 := h; omega) | (intro hl h; have h1 := a2_ho hl; have h2 : _ = b2 := h; omega))
  replace hx := hx.o1 x32
  refine da (de Z35 (W_ret ?_))
  refine ret_cell_tmp (u := ?v52) rfl rfl rfl rfl (by kernel_rfl) rfl m2.row ?h52 ?k52
  case h52 => conv => lhs; whnf
  exact ⟨_, rfl, hx, .inr ⟨chg_good hV hgo hA, l2, hp2, hu2, .inl ⟨by simpa using c9, rfl⟩⟩⟩
 refine W_skip (Z33 _ _ (ws fun _ Z36 => wr (dq (lv_loadA (k := 2) (by kernel_rfl) rfl rfl m3.row) (stA m2 (fun w33 x33 xs33 m2 => ?_) (h1 := by (intro u hu; rcases List.mem_cons.1 hu with e | hu; subst e; rfl; rw [List.mem_singleton.1 hu]; exact ho.sl.one))))))
 try dsimp only [setAt, List.set, List.take, List.drop] at m2
 try replace ho := ho.mod x33 (by first | assumption | (intro k hk h; have h1 := (ho.lt k hk).1; have h2 : k = b2 := h; omega) | (intro k hk h; have h1 := o2_ho k hk; have h2 : k = b2 := h; omega) | (intro h; have h2 : _ = b2 := h; omega) | (intro hl h; have h1 := a2_ho hl; have h2 : _ = b2 := h; omega))
 replace hx := hx.o1 x33
 refine da (de Z36 (W_ret ?_))
 refine ret_cell_tmp (u := ?v55) rfl rfl rfl rfl (by kernel_rfl) rfl m2.row ?h55 ?k55
 case h55 => conv => lhs; whnf
 exact ⟨_, rfl, hx, .inr ⟨chg_good hV hgo hA, l2, hp2, hu2, .inr ⟨by simpa using c9, vb, rfl, ho⟩⟩⟩
end Go.Proofs.YtiooodckiddpmaaGreatDoor
namespace Go.Sp
open Go.Vc (Str)
def Uniq (l : List Cell) : Prop := ∀ c ∈ l, ∀ d ∈ l, c.key = d.key → c.seq = d.seq → c = d
def Top (l : List Cell) (c : Cell) : Prop := c ∈ l ∧ ∀ d ∈ l, d.key = c.key → d.seq ≤ c.seq
def keyEq (a b : Cell) : Bool := decide (a.key = b.key)
def Mg (l m : List Cell) : Prop := ∃ l' : List Cell, l'.Perm l ∧ Up less l' ∧ m = compN keyEq l'
def Told (l : List Cell) (M : List Rw) : Prop := (M.Pairwise fun a b => sLt a.key b.key = true) ∧ ∀ r, r ∈ M ↔ ∃ c, Top l c ∧ c.del = false ∧ r = ⟨c.key, c.val, false⟩
def rowsOf (m : List Cell) : List Rw := (m.filter fun c => !c.del).map fun c => ⟨c.key, c.val, false⟩
def layC (M : List Rw) (c : Cell) : List Rw := (M.filter fun r => sLt r.key c.key) ++ ((if c.del then [] else [⟨c.key, c.val, false⟩]) ++ M.filter fun r => sLt c.key r.key)
end Go.Sp
namespace Go.Vc
open Go.RowKit
section
variable {α : Type} {enc : α → List Value} {sz T B : Nat} {w : World}
variable {P : Program} {n : Nat} {E : Env} {ds : List (Option Tmp)} {R : World → World → Prop} {rs : List (Oper × Fl × Bool)} {K : Env → World → Prop} {d : Nat} {pos : String} {af : Array Edge} {g : Option (Nat × Bool)} {anc : Bool} {ty : TypeId}
theorem D_appendN {s x : Operand} {t ti e by' m : Nat} (henc : ∀ x, (enc x).length = sz) (hg : guardB ds E g = true) (ht : slElem P t = some (e, sz)) (hE : elemB P e sz by' = true) (hti : intK P ti = some .i64)
    (hs : ev E s = .slice none 0 0) (hx : ev E x = I ↑m) (hm : 0 < m) (hbytes : m * by' ≤ 140737488355328) (hby : 1 ≤ by') (hB : B ≤ w.heap.size) (hR : RX R anc)
    (h : ∀ v' w', isSl v' m → Own enc sz e B w' (slV sz v' 0 0) [] → Ext w w' → Dw P n ds R rs K (upd E d v') w') :
    Dw P n ds R ((⟨some d, .call { callee := .builtin .append, args := #[s, x], argTypes := #[t, ti] }, ty, pos, af, g⟩, .x, anc) :: rs) K E w := by
  obtain ⟨hu, _⟩ := slElem_under ht
  obtain ⟨i, z, hi, hz, hsize, hby', hzs, hsz⟩ := elemB_spec hE
  have hint : P.underlying ti = some (.int .i64) := by
    unfold intK at hti
    split at hti
    · rename_i k hk; cases hti; exact hk
    · cases hti
  have hml : m ≤ 140737488355328 := by have := Nat.mul_le_mul_left m hby; omega
  have hwr : IntKind.i64.wrap (m : Int) = m := wrap_i64 (by unfold inI64; omega)
  have h0 : ¬ ((m : Int) < 0) := by omega
  have hbig : ¬ (281474976710656 < (m : Int) * (i.bytes : Int)) := by
    rw [hby']
    have : ((m * by' : Nat) : Int) ≤ 140737488355328 := by omega
    rw [Int.natCast_mul] at this; omega
  have hn : m ≠ 0 := by omega
  have h63 : ¬ (9223372036854775807 < (m : Int)) := by omega
  have h48 : ¬ (281474976710656 < Builtin.nextslicecap m 0 * i.bytes) := by rw [nextslicecap_zero hm, hby']; omega
  have hms : ¬ m * i.size = 0 := by rw [hsize]; exact Nat.ne_of_gt (Nat.mul_pos hm hsz)
  have hsz0 : ¬ i.size = 0 := by omega
  have hcm : grownCap w m 0 e ≤ maxLen := grownCap_le_maxLen w m 0 e (by unfold maxLen; omega)
  have hge := grownCap_ge w m 0 e
  have hr : (Builtin.append_ #[t, ti] ty #[.slice none 0 0, I ↑m]).run P w = .ok (.slice (some ⟨w.heap.size, 0, none⟩) m (grownCap w m 0 e)) (w.drew.alloc (.cells (Builtin.zeroCells z.cells m ++ Builtin.zeroCells z.cells (grownCap w m 0 e - m)) e)) := by
    simp [Builtin.append_, run_underlying hu, run_underlying hint, sizeOf, typeInfo, zeroValue, hi, hz, hn, h63, h48, Question.forced, run_firstCells_none, newRow, grownCap, asInt, asIntOf, hwr, h0, hbig, hms, hsz0]
  have hx1 : Ext w (w.drew.alloc (.cells (Builtin.zeroCells z.cells m ++ Builtin.zeroCells z.cells (grownCap w m 0 e - m)) e)) := Ext.trans (Ext.drew _) (Ext.alloc _ _)
  refine D_xv (v := .slice (some ⟨w.heap.size, 0, none⟩) m (grownCap w m 0 e)) (w' := _) hg ?_ (hR.use hx1) (h _ _ (.inr (.inl ⟨_, _, _, rfl, hge⟩)) ?_ hx1)
  · simp only [execOp, resolve, invoke, builtin, Sem.run_bind, Sem.run_pure, Result.andThen_ok, List.map_toArray, List.map_cons, List.map_nil, hs, hx, hr]
  · refine ⟨by simp, .inr ⟨w.heap.size, grownCap w m 0 e, Builtin.zeroCells z.cells m ++ Builtin.zeroCells z.cells (grownCap w m 0 e - m), ?_, hB, ?_, Nat.zero_le _, hcm, ?_, by simp⟩⟩
    · simp [slV, Addr.add]
    · exact heap_alloc_new w.drew _
    · simp only [Array.size_append, size_zeroCells, hzs, ← Nat.add_mul]
      congr 1; omega
end
end Go.Vc
namespace Go.Proofs.YtiooodckiddpmaaGreatDoor
open Go.Vc Go.Sp
attribute [local irreducible] W XW Dw DwT
def cmpC (a b : Cell) : Int := if less a b = true then -1 else if less b a = true then 1 else 0
theorem ltC_cmp : ltC cmpC = less := by
  funext a b
  unfold ltC cmpC
  cases h : less a b with
  | true => simp
  | false =>
    cases h2 : less b a with
    | true => simp
    | false => simp
theorem ord_less : Ord less := ⟨fun x y z h1 h2 => (by
    cases h : less z x with
    | false => rfl
    | true =>
      cases h3 : less x y with
      | true => rw [less_trans h h3] at h2; cases h2
      | false =>
        have ht := less_tie h1 h3
        have := less_iff z x
        rw [h] at this
        have h4 : less z y = true := (less_iff z y).2 (by
          rcases this.1 rfl with e | ⟨e1, e2⟩
          · exact .inl (by rw [ht.1]; exact e)
          · exact .inr ⟨e1.trans ht.1.symm, by omega⟩)
        rw [h4] at h2; cases h2), fun x y h => less_asymm h⟩
theorem ord_cmp : Ord (ltC cmpC) := ltC_cmp ▸ ord_less
@[reducible] def encQ (q : Value × List Cell) : List Value := [q.1]
theorem flat_step {qs : List (Value × List Cell)} {k : Nat} {q : Value × List Cell} (h : qs[k]? = some q) : (qs.take (k + 1)).flatMap (·.2) = (qs.take k).flatMap (·.2) ++ q.2 := by
  obtain ⟨hk, rfl⟩ := List.getElem?_eq_some_iff.1 h
  rw [List.take_succ_eq_append_getElem hk, List.flatMap_append]; simp
theorem flat_le (qs : List (Value × List Cell)) (k : Nat) : ((qs.take k).flatMap (·.2)).length ≤ (qs.flatMap (·.2)).length := by
  have h := congrArg (fun m => (m.flatMap (·.2)).length) (List.take_append_drop k qs)
  simp only [List.flatMap_append, List.length_append] at h
  omega
theorem at_drop {l cur : List Cell} {k i n : Nat} (hc : cur.length = l.length) (he : ∀ j, n ≤ j + 1 → cur[j]? = l[j]?) (hi : n ≤ k + i + 1) : ((cur.take l.length).drop k)[i]? = l[k + i]? := by
  rw [← hc, List.take_length, List.getElem?_drop, he _ hi]
theorem mc1_w (a b : Cell) (w : World) :
    Calls Tryz.prog 98 [a.v, b.v].toArray w (Pure w (I (cmpC a b))) := by
 refine cw Tryz.func98 ?_
 have hx := Ext.refl w
 refine ws fun _ Z1 => wr (D_box rfl rfl rfl RX.all (fun b1 w1 e1 x1 m1 => ?_))
 have g1 := hx.ge e1
 replace hx := hx.trans x1
 refine D_box rfl rfl rfl RX.all (fun b2 w2 e2 x2 m2 => ?_)
 have g2 := hx.ge e2
 have n2_1 := m1.ltb e2
 replace m1 := m1.ext x2
 replace hx := hx.trans x2
 refine da (de Z1 (ws fun _ Z2 => W_block (ws fun _ Z3 => wr ?_)))
 refine dq (lv_loadA (k := 4) (by kernel_rfl) rfl rfl m1.row) (dq (lv_loadA (k := 4) (by kernel_rfl) rfl rfl m2.row) (cP (less_w a b _) RX.all fun w3 x3 => ?_))
 replace m1 := m1.ext x3
 replace m2 := m2.ext x3
 replace hx := hx.trans x3
 refine da (de Z3 ?_)
 refine wc (fun c1 => ?_) fun c1 => ?_
 ·
  refine ws fun _ Z4 => wr (da (de Z4 (W_ret ?_)))
  refine ro ?_
  refine ⟨?_, hx⟩
  unfold cmpC; rw [if_pos c1]
 refine ws fun _ Z5 => wr (dq (lv_loadA (k := 4) (by kernel_rfl) rfl rfl m2.row) (dq (lv_loadA (k := 4) (by kernel_rfl) rfl rfl m1.row) (cP (less_w b a _) RX.all fun w4 x4 => ?_)))
 replace hx := hx.trans x4
 refine da (de Z5 ?_)
 refine wc (fun c2 => ?_) fun c2 => ?_
 ·
  refine ws fun _ Z6 => wr (da (de Z6 (W_ret ?_)))
  refine ro ?_
  refine ⟨?_, hx⟩
  unfold cmpC; rw [if_neg (by rw [c1]; decide), if_pos c2]
 refine W_skip (Z2 _ _ (ws fun _ Z7 => wr (da (de Z7 (W_ret ?_)))))
 refine ro ?_
 refine ⟨?_, hx⟩
 unfold cmpC; rw [if_neg (by rw [c1]; decide), if_neg (by rw [c2]; decide)]
theorem mc2_w (a b : Cell) (w : World) :
    Calls Tryz.prog 101 [a.v, b.v].toArray w (Pure w (B (keyEq a b))) := by
 refine cw Tryz.func101 ?_
 have hx := Ext.refl w
 refine ws fun _ Z1 => wr (D_box rfl rfl rfl RX.all (fun b1 w1 e1 x1 m1 => ?_))
 have g1 := hx.ge e1
 replace hx := hx.trans x1
 refine D_box rfl rfl rfl RX.all (fun b2 w2 e2 x2 m2 => ?_)
 have g2 := hx.ge e2
 have n2_1 := m1.ltb e2
 replace m1 := m1.ext x2
 replace hx := hx.trans x2
 refine da (de Z1 (ws fun _ Z2 => wr ?_))
 refine df 0 rfl (dl rfl (m1.at rfl) (df 0 rfl (dl rfl (m2.at rfl) (dp (pv_seq rfl rfl) (da (de Z2 (W_ret ?_)))))))
 refine ro ?_
 exact ⟨rfl, hx⟩
theorem growC_w (n : Nat) (w : World) (hn : n ≤ 10000000) :
    Calls Tryz.prog 179 [.slice none 0 0, I ↑n].toArray w (Gives w (fun u w' => Vc.Own Cell.cs 4 79 w.heap.size w' u [])) := by
 refine cw Tryz.func179 ?_
 have hx := Ext.refl w
 refine ws fun _ Z1 => wr (da (de Z1 (ws fun _ Z2 => ws fun _ Z3 => wr (dm ?_))))
 refine dp (pv_lss rfl rfl) (de Z3 (wi (fun c1 => ?_) fun c1 => ?_))
 ·
  omega
 refine W_skip (Z2 _ _ (ws fun _ Z4 => ws fun _ Z5 => wr (dm (dm ?_))))
 refine dp (pv_capN (e := 79) (k := 4) (by kernel_rfl) rfl) (dm ?_)
 refine dp (pv_lenV (e := 79) (k := 4) (n := 0) (by kernel_rfl) (.inl ⟨rfl, rfl⟩) rfl) (D_pe (v := I 0) rfl (pv_sub (a := 0) (b := 0) rfl rfl (by unfold inI64; omega)) rfl (D_pe (v := I ↑n) rfl (pv_sub rfl rfl (by unfold inI64; omega)) (by show I _ = I _; first | rfl | (congr 1; omega)) (da (de Z5 (ws fun _ Z6 => wr (dm ?_))))))
 refine dp (pv_gtr rfl rfl) (de Z6 (wi (fun c2 => ?_) fun c2 => ?_))
 ·
  refine wr (dm (dm ?_))
  refine dp (pv_capN (e := 79) (k := 4) (by kernel_rfl) rfl) (D_pe (v := .slice none 0 0) rfl (pv_slV (e := 79) (k := 4) (m := 0) (a := 0) (b := 0) (by kernel_rfl) (.inl ⟨rfl, rfl⟩) rfl rfl rfl (Nat.le_refl 0) (Nat.le_refl 0)) rfl (dm ?_))
  refine D_appendN (enc := Cell.cs) (sz := 4) (e := 79) (m := n) (by' := 48) (B := w.heap.size) (by intro x; rfl) rfl (by kernel_rfl) (by kernel_rfl) (by kernel_rfl) rfl rfl (by omega) (by omega) (by decide) hx.size RX.all (fun va w1 hsl ho x1 => ?_)
  replace hx := hx.trans x1
  refine dm ?_
  refine dp (pv_lenV (e := 79) (k := 4) (n := 0) (by kernel_rfl) (.inl ⟨rfl, rfl⟩) rfl) (dp (pv_slV (e := 79) (k := 4) (a := 0) (b := 0) (by kernel_rfl) hsl rfl rfl rfl (Nat.le_refl 0) (Nat.zero_le _)) (da (de Z4 (ws fun _ Z7 => wr (dm (da (de Z7 (W_ret ?_))))))))
  refine ro ?_
  exact ⟨_, rfl, hx, ho⟩
 refine W_skip (Z4 _ _ (ws fun _ Z8 => wr (dm (da (de Z8 (W_ret ?_))))))
 refine ro ?_
 exact ⟨_, rfl, hx, Vc.Own.nil⟩
theorem concatC_w (qs : List (Value × List Cell)) (v : Value) (w : World) (hv : Arr encQ 1 w v qs) (hq : ∀ q ∈ qs, Arr Cell.cs 4 w q.1 q.2) (hl : qs.length ≤ 1000000) (htot : (qs.flatMap (·.2)).length ≤ 10000000) :
    Calls Tryz.prog 96 [v].toArray w (Gives w (fun u w' => Vc.Own Cell.cs 4 79 w.heap.size w' u (qs.flatMap (·.2)))) := by
 refine cw Tryz.func96 ?_
 have hx := Ext.refl w
 refine ws fun _ Z1 => wr (da (de Z1 (ws fun _ Z2 => wr (da (de Z2 (ws fun _ Z3 => ws fun _ Z4 => wr (dm ?_)))))))
 refine dv 95 1 (hv.ext hx).sl (dm (de Z4 (W_block ?_)))
 refine W_loop (G := Nat) (fun k => [(0, v), (2, .slice none 0 0), (3, I ↑((qs.take k).flatMap (·.2)).length), (9, v), (10, I ↑qs.length), (11, I ↑k)]) (fun k w' => Ext w w' ∧ k ≤ qs.length) (fun k => qs.length - k) 0 ?_ ?_ ?_
 · exact ⟨rfl, rfl, rfl, rfl, rfl, rfl, trivial⟩
 · exact ⟨hx, Nat.zero_le _⟩
 intro X1 g1 w1 hF1
 revert hF1; revert g1; intro k hF1
 clear hx
 obtain ⟨hx, hk1⟩ := hF1
 refine ws fun _ Z5 => wr (dp (pv_lss rfl rfl) (de Z5 (ws fun _ Z6 => wi (fun c1 => ?_) fun c1 => ?_)))
 ·
  obtain ⟨q, hk⟩ : ∃ q, qs[k]? = some q := ⟨_, List.getElem?_eq_getElem (by omega)⟩
  have hq2 := hq q (List.mem_of_getElem? hk)
  have hfs := flat_step hk
  have hfl := flat_le qs (k + 1)
  have hfl0 := congrArg List.length hfs
  rw [List.length_append] at hfl0
  refine W_skip (Z6 _ _ (ws fun _ Z7 => W_block (ws fun _ Z8 => wr (di 95 1 hv.sl rfl (hv.lt hk) (dl rfl (((hv.ext hx).row hk).at0 rfl) (da (de Z8 (ws fun _ Z9 => wr (dm (dm ?_))))))))))
  refine dv 79 4 hq2.sl (D_pe (v := I ↑((qs.take (k + 1)).flatMap (·.2)).length) rfl (pv_add rfl rfl (by unfold inI64; omega)) (by show I _ = I _; congr 1; omega) (da (de Z9 (ws fun _ Z10 => wr (dm ?_)))))
  refine dp (pv_lss rfl rfl) (de Z10 (wi (fun c2 => ?_) fun c2 => ?_))
  ·
   omega
  refine W_skip (Z7 _ _ (wr (pa rfl rfl (dm (D_end (?_))))))
  exact ⟨k + 1, ⟨rfl, rfl, rfl, rfl, rfl, rfl, trivial⟩, ⟨hx, by omega⟩, by omega⟩
 refine W_exit (Z3 _ _ (ws fun _ Z11 => wr (dm ?_)))
 refine cG (growC_w ((qs.take k).flatMap (·.2)).length _ (Nat.le_trans (flat_le qs k) htot)) RX.all fun vg w2 x2 ho0 => ?_
 have hsz2 := hx.size
 replace hx := hx.trans x2
 have ho := ho0.mono hsz2
 refine da (de Z11 (ws fun _ Z12 => ws fun _ Z13 => wr (dm ?_)))
 refine dv 95 1 (hv.ext hx).sl (dm (de Z13 (W_block ?_)))
 refine W_loop (G := Nat × Value) (fun (j, vb) => [(2, .slice none 0 0), (6, vb), (25, v), (26, I ↑qs.length), (27, I ↑j)]) (fun (j, vb) w' => Ext w w' ∧ j ≤ qs.length ∧ Vc.Own Cell.cs 4 79 w.heap.size w' vb ((qs.take j).flatMap (·.2))) (fun (j, vb) => qs.length - j) (0, vg) ?_ ?_ ?_
 · exact ⟨rfl, rfl, rfl, rfl, rfl, trivial⟩
 · exact ⟨hx, Nat.zero_le _, by simpa using ho⟩
 intro X3 g3 w3 hF3
 obtain ⟨j, vb⟩ := g3
 clear hx ho
 obtain ⟨hx, hj1, ho⟩ := hF3
 refine ws fun _ Z14 => wr (dp (pv_lss rfl rfl) (de Z14 (ws fun _ Z15 => wi (fun c3 => ?_) fun c3 => ?_)))
 ·
  obtain ⟨q, hk⟩ : ∃ q, qs[j]? = some q := ⟨_, List.getElem?_eq_getElem (by omega)⟩
  have hq2 := hq q (List.mem_of_getElem? hk)
  have hfs := flat_step hk
  have hfl := flat_le qs (j + 1)
  have hfl0 := congrArg List.length hfs
  rw [List.length_append] at hfl0
  refine W_skip (Z15 _ _ (ws fun _ Z16 => W_block (ws fun _ Z17 => wr (di 95 1 hv.sl rfl (hv.lt hk) (dl rfl (((hv.ext hx).row hk).at0 rfl) (da (de Z17 (wr (dm (dm ?_))))))))))
  refine D_append (lx := q.2) (e := 79) (sz := 4) (by' := 48) rfl (by kernel_rfl) (by kernel_rfl) (by intro x; rfl) ho ((hq2.ext hx)) rfl rfl (by intro x _ u hu; simp at hu; rcases hu with rfl | rfl | rfl | rfl <;> rfl) (by omega) (by decide) hx.size (.inl rfl) (fun vp w4 ho_n x4 => ?_)
  replace hx := hx.own x4 (fun i hi => (ho.lt i hi).1)
  replace ho := ho_n
  refine da (de Z16 (wr ?_))
  refine pa rfl rfl (dm (D_end (?_)))
  rw [← hfs] at ho
  exact ⟨(j + 1, vp), ⟨rfl, rfl, rfl, rfl, rfl, trivial⟩, ⟨hx, by omega, ho⟩, by simp only []; omega⟩
 refine W_exit (Z12 _ _ (ws fun _ Z18 => wr (dm (da (de Z18 (W_ret ?_))))))
 refine ro ?_
 rw [List.take_of_length_le (by omega)] at ho
 exact ⟨_, rfl, hx, ho⟩
theorem compC_w (l : List Cell) (v : Value) (Bo f : Nat) (p : Cell → Cell → Bool) (w : World) (ho : Vc.Own Cell.cs 4 79 Bo w v l) (hl : l.length ≤ 10000000) (hcb : callB Tryz.prog f = true) (hc : ∀ w2 x y, Calls Tryz.prog f [Cell.v x, Cell.v y].toArray w2 (Pure w2 (B (p x y)))) :
    Calls Tryz.prog 100 [v, fnV f].toArray w (Does (fun k => v.ownBlock = some k) w (fun u w' => Vc.Own Cell.cs 4 79 Bo w' u (compN p l) ∧ u.ownBlock = v.ownBlock)) := by
 refine cw Tryz.func100 ?_
 have hx := Vc.Mod.refl (fun k => v.ownBlock = some k) w
 have hvsl := ho.sl
 refine ws fun _ Z1 => wr (da (de Z1 (ws fun _ Z2 => ws fun _ Z3 => wr (dm ?_))))
 refine dv 79 4 (ho.arr (by intro x; rfl)).sl (dp (pv_lss rfl rfl) (de Z3 (wi (fun c1 => ?_) fun c1 => ?_)))
 ·
  refine ws fun _ Z4 => wr (dm (da (de Z4 (W_ret ?_))))
  refine ro ?_
  exact ⟨_, rfl, hx, by rw [compN_short (by omega)]; exact ho, rfl⟩
 refine W_skip (Z2 _ _ (ws fun _ Z5 => ws fun _ Z6 => wr (da (de Z6 (W_block ?_)))))
 refine W_loop (G := Nat) (fun k => [(0, v), (1, fnV f), (5, I ↑k)]) (fun k w' => Mod (fun k => v.ownBlock = some k) w w' ∧ 1 ≤ k ∧ k ≤ l.length ∧ compN p (l.take k) = l.take k ∧ Vc.Own Cell.cs 4 79 Bo w' v l) (fun k => l.length - k) 1 ?_ ?_ ?_
 · exact ⟨rfl, rfl, rfl, trivial⟩
 · exact ⟨hx, Nat.le_refl _, by omega, compN_one p l, ho⟩
 intro X1 g1 w1 hF1
 revert hF1; revert g1; intro k hF1
 clear hx ho
 obtain ⟨hx, hk1, hkl, hcn, ho⟩ := hF1
 refine ws fun _ Z7 => ws fun _ Z8 => wr (dm (dm ?_))
 refine dv 79 4 (ho.arr (by intro x; rfl)).sl (dp (pv_lss rfl rfl) (de Z8 (wi (fun c2 => ?_) fun c2 => ?_)))
 ·
  obtain ⟨x, hxk⟩ : ∃ x, l[k]? = some x := ⟨_, List.getElem?_eq_getElem (by omega)⟩
  obtain ⟨y, hyk⟩ : ∃ x, l[k - 1]? = some x := ⟨_, List.getElem?_eq_getElem (by omega)⟩
  refine W_skip (Z7 _ _ (ws fun _ Z9 => W_block (ws fun _ Z10 => W_draw (R := Ext) Ext.refl (fun _ _ _ => Ext.trans) (by kernel_rfl) [4, 9] [(0, .p, false), (1, .p, false), (2, .p, false), (3, .p, false), (4, .l, false), (5, .p, false), (6, .p, false), (7, .p, false), (8, .p, false), (9, .l, false), (10, .x, true)] rfl (by kernel_rfl) (by kernel_rfl) (fun w2 ew2 => ?_))))
  have x2 := drewx ew2
  clear ew2
  replace ho := ho.ext x2
  replace hx := hx.ext x2
  iterate 3 refine dm ?_
  refine di 79 4 (ho.arr (by intro x; rfl)).sl rfl ((ho.arr (by intro x; rfl)).lt hxk) (D_l rfl (fun w' hR => lv_loadA (by kernel_rfl) rfl rfl (((ho.arr (by intro x; rfl)).ext hR).row hxk)) (dm (dm ?_)))
  refine D_pe (v := I ↑(k - 1)) rfl (pv_sub rfl rfl (by unfold inI64; omega)) (by show I _ = I _; congr 1; omega) (di 79 4 (ho.arr (by intro x; rfl)).sl rfl ((ho.arr (by intro x; rfl)).lt hyk) (D_l rfl (fun w' hR => lv_loadA (by kernel_rfl) rfl rfl (((ho.arr (by intro x; rfl)).ext hR).row hyk)) (D_callVP (vs := [x.v, y.v]) rfl rfl hcb (hc _ x y) rfl RX.all (fun w3 x3 => ?_))))
  replace ho := ho.ext x3
  replace hx := hx.ext x3
  refine de Z10 (wc (fun c3 => ?_) fun c3 => ?_)
  ·
   refine ws fun _ Z11 => wr (dm (dm ?_))
   refine dp (pv_slV (e := 79) (k := 4) (m := l.length) (a := k) (b := l.length) (by kernel_rfl) hvsl rfl rfl rfl (by omega) (by omega)) (da (de Z11 (ws fun _ Z12 => ws fun _ Z13 => wr (da (de Z13 (W_block ?_))))))
   refine W_loop (G := Nat × Nat × List Cell) (fun (i, k2, cur) => [(0, v), (1, fnV f), (5, I ↑k2), (6, slV 4 v k l.length), (7, I ↑i)]) (fun (i, k2, cur) w' => Mod (fun k => v.ownBlock = some k) w w' ∧ 1 ≤ i ∧ CmpR p l (k + i) k2 cur ∧ Vc.Own Cell.cs 4 79 Bo w' v cur) (fun (i, k2, cur) => l.length - (k + i)) (1, k, l) ?_ ?_ ?_
   · exact ⟨rfl, rfl, rfl, rfl, rfl, trivial⟩
   · exact ⟨hx, Nat.le_refl _, cmpR_0 (by omega) hcn hxk hyk c3, ho⟩
   intro X4 g4 w4 hF4
   obtain ⟨i, k2, cur⟩ := g4
   clear hx ho
   obtain ⟨hx, hi1, hr, ho⟩ := hF4
   have hcl := hr.1
   have hr2 := hr.2.1
   have hr3 := hr.2.2.1
   have hlen9 : ((cur.take l.length).drop k).length = l.length - k := by rw [List.length_drop, List.length_take]; omega
   refine ws fun _ Z14 => ws fun _ Z15 => wr (dm (dm ?_))
   refine dv 79 4 ((ho.arr (by intro x; rfl)).slice (lo := k) (hi := l.length) (by omega) (by omega)).sl (dp (pv_lss rfl rfl) (de Z15 (wi (fun c4 => ?_) fun c4 => ?_)))
   ·
    obtain ⟨x, hxl⟩ : ∃ x, l[k + i]? = some x := ⟨_, List.getElem?_eq_getElem (by omega)⟩
    obtain ⟨y, hyl⟩ : ∃ x, l[k + i - 1]? = some x := ⟨_, List.getElem?_eq_getElem (by omega)⟩
    have hxi : ((cur.take l.length).drop k)[i]? = some x := (at_drop hcl hr.2.2.2.2 (by omega)).trans hxl
    have hyi : ((cur.take l.length).drop k)[i - 1]? = some y := (at_drop hcl hr.2.2.2.2 (by omega)).trans (by rw [← hyl]; congr 1; omega)
    have hb0 := own_ptr ho (fun e => by rw [e] at hcl; simp at hcl; omega)
    refine W_skip (Z14 _ _ (ws fun _ Z16 => W_block (ws fun _ Z17 => W_draw (R := Ext) Ext.refl (fun _ _ _ => Ext.trans) (by kernel_rfl) [4, 9] [(0, .p, false), (1, .p, false), (2, .p, false), (3, .p, false), (4, .l, false), (5, .p, false), (6, .p, false), (7, .p, false), (8, .p, false), (9, .l, false), (10, .x, true), (11, .p, false)] rfl (by kernel_rfl) (by kernel_rfl) (fun w5 ew5 => ?_))))
    have x5 := drewx ew5
    clear ew5
    replace ho := ho.ext x5
    replace hx := hx.ext x5
    iterate 3 refine dm ?_
    refine di 79 4 ((ho.arr (by intro x; rfl)).slice (lo := k) (hi := l.length) (by omega) (by omega)).sl rfl (((ho.arr (by intro x; rfl)).slice (lo := k) (hi := l.length) (by omega) (by omega)).lt hxi) (D_l rfl (fun w' hR => lv_loadA (by kernel_rfl) rfl rfl ((((ho.arr (by intro x; rfl)).slice (lo := k) (hi := l.length) (by omega) (by omega)).ext hR).row hxi)) (dm (dm ?_)))
    refine D_pe (v := I ↑(i - 1)) rfl (pv_sub rfl rfl (by unfold inI64; omega)) (by show I _ = I _; congr 1; omega) (di 79 4 ((ho.arr (by intro x; rfl)).slice (lo := k) (hi := l.length) (by omega) (by omega)).sl rfl (((ho.arr (by intro x; rfl)).slice (lo := k) (hi := l.length) (by omega) (by omega)).lt hyi) (D_l rfl (fun w' hR => lv_loadA (by kernel_rfl) rfl rfl ((((ho.arr (by intro x; rfl)).slice (lo := k) (hi := l.length) (by omega) (by omega)).ext hR).row hyi)) (D_callVP (vs := [x.v, y.v]) rfl rfl hcb (hc _ x y) rfl RX.all (fun w6 x6 => ?_))))
    replace ho := ho.ext x6
    replace hx := hx.ext x6
    refine dn (de Z17 ?_)
    refine wc (fun c5 => ?_) fun c5 => ?_
    ·
     refine ws fun _ Z18 => wr (dm (dm (dm (dm ?_))))
     refine di 79 4 ((ho.arr (by intro x; rfl)).slice (lo := k) (hi := l.length) (by omega) (by omega)).sl rfl (((ho.arr (by intro x; rfl)).slice (lo := k) (hi := l.length) (by omega) (by omega)).lt hxi) (dq (lv_loadA (by kernel_rfl) rfl rfl (((ho.arr (by intro x; rfl)).slice (lo := k) (hi := l.length) (by omega) (by omega)).row hxi)) (D_pe (v := ptr (base v).1 (k2 * 4 + 0)) rfl (pv_idxA (i := k2) (e := 79) (k := 4) (by kernel_rfl) ho.sl rfl rfl (by omega)) (by rw [hb0]; show ptr _ (0 + _) = _; rw [Nat.zero_add]; rfl) ?_))
     refine D_storeO (enc := Cell.cs) (sz := 4) (l := cur) (i := k2) (j := 0) (x := x) (vs := x.cs) (by intro x; rfl) rfl ho rfl rfl rfl (by kernel_rfl) (by omega) rfl (Nat.le_refl 4) (by intro v hv; simp at hv; rcases hv with rfl | rfl | rfl | rfl <;> rfl) (.inl rfl) (fun w7 x7 xs7 ho_n => ?_)
     replace hx := hx.own x7 (fun i hi hlt => hi)
     replace ho := ho_n
     refine de Z18 (wr (dm ?_))
     refine pa rfl rfl (da (de Z16 (wr (dm ?_))))
     refine pa rfl rfl (da (D_end (?_)))
     first | exact ⟨(i + 1, k2 + 1, _), ⟨rfl, rfl, rfl, rfl, rfl, trivial⟩, ⟨hx, by omega, cmpR_yes hr hxl hyl (by simpa using c5), ho⟩, by simp only []; omega⟩ | exact ⟨(i + 1, k2, cur), ⟨rfl, rfl, rfl, rfl, rfl, trivial⟩, ⟨hx, by omega, cmpR_no hr hxl hyl (by simpa using c5), ho⟩, by simp only []; omega⟩
    refine W_skip (Z16 _ _ (wr (dm ?_)))
    refine pa rfl rfl (da (D_end (?_)))
    first | exact ⟨(i + 1, k2 + 1, _), ⟨rfl, rfl, rfl, rfl, rfl, trivial⟩, ⟨hx, by omega, cmpR_yes hr hxl hyl (by simpa using c5), ho⟩, by simp only []; omega⟩ | exact ⟨(i + 1, k2, cur), ⟨rfl, rfl, rfl, rfl, rfl, trivial⟩, ⟨hx, by omega, cmpR_no hr hxl hyl (by simpa using c5), ho⟩, by simp only []; omega⟩
   refine W_exit (Z12 _ _ (ws fun _ Z19 => wr (dm (dm ?_))))
   refine dp (pv_slV (e := 79) (k := 4) (m := cur.length) (a := k2) (b := cur.length) (by kernel_rfl) ho.sl rfl rfl rfl (by omega) (by omega)) ?_
   refine D_clear (enc := Cell.cs) (sz := 4) (e := 79) (l := cur) (k := k2) (zs := [S [], S [], B false, .int .i64 0]) (by intro x; rfl) rfl (by kernel_rfl) (by kernel_rfl) rfl (by decide) (by intro z hz; simp at hz; rcases hz with rfl | rfl | rfl | rfl <;> rfl) ho rfl (by omega) (.inl rfl) (fun w8 x8 xs8 ho_n => ?_)
   replace hx := hx.own x8 (fun i hi hlt => hi)
   replace ho := ho_n
   refine de Z19 (ws fun _ Z20 => wr (dm (dm ?_)))
   refine dp (pv_slV (e := 79) (k := 4) (m := l.length) (a := 0) (b := k2) (by kernel_rfl) hvsl rfl rfl rfl (by omega) (by omega)) (da (de Z20 (W_ret ?_)))
   refine ro ?_
   rw [hr.2.2.2.1, List.take_of_length_le (by omega)] at ho
   exact ⟨_, rfl, hx, ho, ownBlock_cut hvsl⟩
  refine W_skip (Z9 _ _ (wr (dm ?_)))
  refine pa rfl rfl (da (D_end (?_)))
  exact ⟨k + 1, ⟨rfl, rfl, rfl, trivial⟩, ⟨hx, by omega, by omega, by rw [compN_step (by omega) hxk hyk, if_neg (by rw [c3]; decide), hcn, List.take_add_one, hxk]; rfl, ho⟩, by omega⟩
 refine W_exit (Z5 _ _ (ws fun _ Z21 => wr (dm (da (de Z21 (W_ret ?_))))))
 refine ro ?_
 rw [List.take_of_length_le (by omega)] at hcn
 exact ⟨_, rfl, hx, by rw [hcn]; exact ho, rfl⟩
theorem merged_w (qs : List (Value × List Cell)) (v : Value) (w : World) (hv : Arr encQ 1 w v qs) (hq : ∀ q ∈ qs, Arr Cell.cs 4 w q.1 q.2) (hl : qs.length ≤ 1000000) (htot : (qs.flatMap (·.2)).length ≤ 10000000) :
    Calls Tryz.prog 45 [v].toArray w (Gives w (fun u w' => ∃ m, Mg (qs.flatMap (·.2)) m ∧ Vc.Own Cell.cs 4 79 w.heap.size w' u m)) := by
 refine cw Tryz.func45 ?_
 have hx := Ext.refl w
 refine ws fun _ Z1 => wr (da (de Z1 (ws fun _ Z2 => wr (dm ?_))))
 refine cG (concatC_w qs v _ (hv.ext hx) (fun q h => (hq q h).ext hx) hl htot) RX.all fun vb w1 x1 ho0 => ?_
 have hsz1 := hx.size
 replace hx := hx.trans x1
 have ho := ho0.mono hsz1
 refine da (de Z2 (ws fun _ Z3 => wr (dm ?_)))
 refine cD (sstC_w _ vb w.heap.size 98 cmpC _ ho htot (by kernel_rfl) (fun w2 x y => mc1_w x y w2) ord_cmp) (.inl rfl) fun u2 w2 x2 hf2 => ?_
 have hsz2 := hx.size
 replace hx := hx.own x2 (fun i hi => (ho.lt i hi).1)
 obtain ⟨rfl, l2, ho, hp2, hu2⟩ := hf2
 rw [ltC_cmp] at hu2
 refine de Z3 (ws fun _ Z4 => wr (dm ?_))
 refine cD (compC_w l2 vb w.heap.size 101 keyEq _ ho (by have := hp2.length_eq; omega) (by kernel_rfl) (fun w2 x y => mc2_w x y w2)) (.inl rfl) fun vr w3 x3 hf3 => ?_
 have hsz3 := hx.size
 replace hx := hx.own x3 (fun i hi => (ho.lt i hi).1)
 obtain ⟨ho, _⟩ := hf3
 refine da (de Z4 (W_ret ?_))
 refine ro ?_
 exact ⟨_, rfl, hx, _, ⟨l2, hp2, hu2, rfl⟩, ho⟩
def mkStep (s : List (List Cell) × Nat) (c : Cell) : List (List Cell) × Nat := if s.1 = [] ∨ 4096 < s.2 + sizeC c then (s.1 ++ [[c]], sizeC c) else (s.1.dropLast ++ [s.1.getLastD [] ++ [c]], s.2 + sizeC c)
def mkR (l : List Cell) (k : Nat) : List (List Cell) × Nat := (l.take k).foldl mkStep ([], 0)
def mkSegs (l : List Cell) : List (List Cell) := (l.foldl mkStep ([], 0)).1
theorem mkR_step {l : List Cell} {k : Nat} {c : Cell} (h : l[k]? = some c) : mkR l (k + 1) = mkStep (mkR l k) c := by
  unfold mkR; rw [take_at h, List.foldl_append]; rfl
theorem mkR_all {l : List Cell} {k : Nat} (h : l.length ≤ k) : (mkR l k).1 = mkSegs l := by unfold mkR mkSegs; rw [List.take_of_length_le h]
theorem mkStep_flat (s : List (List Cell) × Nat) (c : Cell) : (mkStep s c).1.flatten = s.1.flatten ++ [c] ∧ (mkStep s c).1.length ≤ s.1.length + 1 := by
  unfold mkStep
  split
  · simp
  · rename_i h
    rw [not_or] at h
    rcases List.eq_nil_or_concat s.1 with e | ⟨a, b, e⟩
    · exact absurd e h.1
    · rw [e]; simp
theorem mkR_flat (l : List Cell) : ∀ k, k ≤ l.length → (mkR l k).1.flatten = l.take k ∧ (mkR l k).1.length ≤ k
  | 0, _ => ⟨rfl, Nat.le_refl _⟩
  | k + 1, h => by
    have ih := mkR_flat l k (by omega)
    have hk : l[k]? = some l[k] := List.getElem?_eq_getElem (by omega)
    have h2 := mkStep_flat (mkR l k) l[k]
    rw [mkR_step hk, h2.1, ih.1, ← take_at hk]
    exact ⟨rfl, by omega⟩
theorem mkSegs_flat (l : List Cell) : (mkSegs l).flatten = l := by
  rw [← mkR_all (Nat.le_refl l.length), (mkR_flat l _ (Nat.le_refl _)).1, List.take_length]
theorem seg_le {ss : List (List Cell)} {l sg : List Cell} (h : ss.flatten = l) (hs : sg ∈ ss) : sg.length ≤ l.length := by
  subst h
  rw [List.length_flatten]
  induction ss with
  | nil => cases hs
  | cons a r ih =>
    simp only [List.map_cons, List.sum_cons]
    rcases List.mem_cons.1 hs with rfl | hs
    · omega
    · have := ih hs; omega
theorem mkR_sz {l : List Cell} (hc : ∀ c ∈ l, sizeC c ≤ 30000) : ∀ k, k ≤ l.length → (mkR l k).2 ≤ 30000
  | 0, _ => Nat.zero_le _
  | k + 1, h => by
    have hk : l[k]? = some l[k] := List.getElem?_eq_getElem (by omega)
    rw [mkR_step hk]
    have := hc l[k] (List.getElem_mem _)
    unfold mkStep
    split
    · exact this
    · rename_i h2; rw [not_or] at h2; show (mkR l k).2 + sizeC l[k] ≤ 30000; omega
theorem mkStep_new {s : List (List Cell) × Nat} {c : Cell} (h : s.1 = [] ∨ 4096 < s.2 + sizeC c) : mkStep s c = (s.1 ++ [[] ++ [c]], 0 + sizeC c) := by unfold mkStep; rw [if_pos h, Nat.zero_add]; rfl
theorem mkStep_old {ss : List (List Cell)} {s : List Cell} {z : Nat} {c : Cell} (h : ¬ 4096 < z + sizeC c) : mkStep (ss ++ [s], z) c = (ss ++ [s ++ [c]], z + sizeC c) := by
  unfold mkStep
  rw [if_neg (by rw [not_or]; exact ⟨by simp, h⟩)]; simp
structure Md where
  f : Fi
  vl : Value
  vb : Value
@[reducible] def Md.cs (m : Md) : List Value := [I m.f.id, I m.f.lev, I m.f.size, S m.f.fst, S m.f.lst, m.vl, m.vb]
@[reducible] def Md.v (m : Md) : Value := .agg ⟨m.cs⟩
structure MdR (w : World) (v : Value) (l : List Md) : Prop where
  row : ∀ {i : Nat} {x : Md}, l[i]? = some x → Row w (base v).1 (i * 7 + 0) x.cs
section
variable {b0 B B1 : Nat} {lv next : Int} {w w' : World} {v va : Value} {S : Nat → Prop}
theorem mdR {l : List Md} (h : Vc.Own Md.cs 7 161 B w v l) : MdR w v l := ⟨fun {i x} hi => by
  have h2 := (h.arr (by intro x; rfl)).row hi
  rw [own_ptr h (fun e => by rw [e] at hi; simp at hi), Nat.zero_add] at h2
  exact h2⟩
theorem last_getD {α : Type} (ys : List α) (x z : α) : (ys ++ [x]).getD ys.length z = x := by simp
theorem last_set {α : Type} (ys : List α) (x z : α) : (ys ++ [x]).set ys.length z = ys ++ [z] := by simp
def MkL (b0 : Nat) (lv next : Int) (i : Nat) (x : Md) (sg : List Cell) (w : World) : Prop := x.f.id = next + ↑i ∧ x.f.lev = lv ∧ x.f.size = 0 ∧ x.f.fst = (cAt sg 0).key ∧ x.f.lst = (cAt sg (sg.length - 1)).key ∧ x.vb = .slice none 0 0 ∧ sg ≠ [] ∧ Vc.Own Cell.cs 4 79 b0 w x.vl sg
theorem MkL.mod {i : Nat} {x : Md} {sg : List Cell} (h : MkL b0 lv next i x sg w) (m : Vc.Mod S w w') (hS : ∀ k, x.vl.ownBlock = some k → ¬ S k) : MkL b0 lv next i x sg w' := by
  obtain ⟨h1, h2, h3, h4, h5, h6, h7, h8⟩ := h
  exact ⟨h1, h2, h3, h4, h5, h6, h7, h8.mod m hS⟩
def MkY (b0 B1 : Nat) (lv next : Int) (ys : List Md) (ss : List (List Cell)) (w : World) : Prop := ys.length = ss.length ∧ ∀ i x sg, ys[i]? = some x → ss[i]? = some sg → MkL b0 lv next i x sg w ∧ ∀ k, x.vl.ownBlock = some k → k < B1
theorem MkY.mod {ys : List Md} {ss : List (List Cell)} (h : MkY b0 B1 lv next ys ss w) (m : Vc.Mod S w w') (hS : ∀ x ∈ ys, ∀ k, x.vl.ownBlock = some k → ¬ S k) : MkY b0 B1 lv next ys ss w' :=
  ⟨h.1, fun i x sg hx hs => ⟨(h.2 i x sg hx hs).1.mod m (hS x (List.mem_of_getElem? hx)), (h.2 i x sg hx hs).2⟩⟩
theorem MkY.ext {ys : List Md} {ss : List (List Cell)} (h : MkY b0 B1 lv next ys ss w) (m : Ext w w') : MkY b0 B1 lv next ys ss w' := h.mod m (fun _ _ _ _ h => h)
theorem MkY.at {ys : List Md} {ss : List (List Cell)} (h : MkY b0 B1 lv next ys ss w) {x : Md} (hx : x ∈ ys) : ∃ i sg, MkL b0 lv next i x sg w ∧ ∀ k, x.vl.ownBlock = some k → k < B1 := by
  obtain ⟨i, hi⟩ := List.getElem?_of_mem hx
  have hl := (List.getElem?_eq_some_iff.1 hi).1
  exact ⟨i, _, h.2 i x _ hi (List.getElem?_eq_getElem (by rw [← h.1]; exact hl))⟩
theorem MkY.ne {ys l : List Md} {ss : List (List Cell)} (h : MkY b0 B1 lv next ys ss w) (ho : Vc.Own Md.cs 7 161 B w va l) : ∀ x ∈ ys, ∀ k, x.vl.ownBlock = some k → ¬ va.ownBlock = some k := fun x hx k hk => by
  obtain ⟨i, sg, hL, _⟩ := h.at hx
  exact hL.2.2.2.2.2.2.2.ne ho rfl hk
theorem MkY.sep {ys : List Md} {ss : List (List Cell)} {vl : Value} {s : List Cell} (h : MkY b0 B1 lv next ys ss w) (hl : Vc.Own Cell.cs 4 79 B1 w vl s) : ∀ x ∈ ys, ∀ k, x.vl.ownBlock = some k → ¬ vl.ownBlock = some k := fun x hx k hk e => by
  obtain ⟨i, sg, _, h2⟩ := h.at hx
  have h3 := h2 k hk
  have h4 := (hl.lt k e).1
  omega
def MkH (b0 : Nat) (lv next : Int) (xs : List Md) (R : List (List Cell)) (w : World) : Prop := (xs = [] ∧ R = []) ∨ ∃ ys x ss s B1, xs = ys ++ [x] ∧ R = ss ++ [s] ∧ (b0 ≤ B1 ∧ Sz B1 w) ∧ MkY b0 B1 lv next ys ss w ∧ MkL b0 lv next ys.length x s w ∧ Vc.Own Cell.cs 4 79 B1 w x.vl s
theorem MkH.mod {xs : List Md} {R : List (List Cell)} (h : MkH b0 lv next xs R w) (m : Vc.Mod S w w') (hS : ∀ x ∈ xs, ∀ k, x.vl.ownBlock = some k → ¬ S k) : MkH b0 lv next xs R w' := by
  rcases h with h | ⟨ys, x, ss, s, B1, rfl, h2, h3, h4, h5, h6⟩
  · exact .inl h
  · exact .inr ⟨ys, x, ss, s, B1, rfl, h2, ⟨h3.1, h3.2.mod m trivial⟩, h4.mod m (fun z hz => hS z (List.mem_append_left _ hz)), h5.mod m (hS x (by simp)), h6.mod m (hS x (by simp))⟩
theorem MkH.lt {xs : List Md} {R : List (List Cell)} (h : MkH b0 lv next xs R w) : ∀ x ∈ xs, ∀ k, x.vl.ownBlock = some k → k < w.heap.size := by
  rcases h with ⟨rfl, _⟩ | ⟨ys, x, ss, s, B1, rfl, h2, h3, h4, h5, h6⟩
  · intro x hx; cases hx
  · intro z hz k hk
    rcases List.mem_append.1 hz with hz | hz
    · obtain ⟨i, sg, hL, _⟩ := h4.at hz
      exact (hL.2.2.2.2.2.2.2.lt k hk).2
    · rw [List.mem_singleton.1 hz] at hk; exact (h6.lt k hk).2
theorem MkH.ext {xs : List Md} {R : List (List Cell)} (h : MkH b0 lv next xs R w) (m : Ext w w') : MkH b0 lv next xs R w' := h.imp id fun ⟨ys, x, ss, s, B1, h1, h2, h3, h4, h5, h6⟩ => ⟨ys, x, ss, s, B1, h1, h2, ⟨h3.1, h3.2.ext m⟩, h4.ext m, h5.mod m (fun _ _ h => h), h6.ext m⟩
theorem MkH.len {xs : List Md} {R : List (List Cell)} (h : MkH b0 lv next xs R w) : xs.length = R.length := by
  rcases h with ⟨rfl, rfl⟩ | ⟨ys, x, ss, s, B1, rfl, rfl, h3, h4, h5, h6⟩
  · rfl
  · simp [h4.1]
theorem MkH.all {xs : List Md} {R : List (List Cell)} (h : MkH b0 lv next xs R w) (hs : b0 ≤ w.heap.size) : ∃ Bn, b0 ≤ Bn ∧ Sz Bn w ∧ MkY b0 Bn lv next xs R w := by
  refine ⟨w.heap.size, hs, ⟨Nat.le_refl _⟩, ?_⟩
  rcases h with ⟨rfl, rfl⟩ | ⟨ys, x, ss, s, B1, rfl, rfl, h3, h4, h5, h6⟩
  · exact ⟨rfl, fun i x sg hx => by simp at hx⟩
  · refine ⟨by simp [h4.1], fun i z sg hz hs => ?_⟩
    have hL : MkL b0 lv next i z sg w := by
      rw [List.getElem?_append] at hz hs
      rw [← h4.1] at hs
      split at hz
      · rename_i hi; rw [if_pos hi] at hs; exact (h4.2 i z sg hz hs).1
      · rename_i hi
        rw [if_neg hi] at hs
        have hi2 : i - ys.length = 0 := by
          rcases Nat.eq_zero_or_pos (i - ys.length) with e | e
          · exact e
          · rw [List.getElem?_eq_none (by simp; omega)] at hz; cases hz
        rw [hi2] at hz hs
        simp at hz hs
        subst hz; subst hs
        rw [show i = ys.length by omega]; exact h5
    exact ⟨hL, fun k hk => (hL.2.2.2.2.2.2.2.lt k hk).2⟩
def mkFile (lv next : Int) (j : Nat) (sg : List Cell) : Fi := ⟨next + ↑j, lv, ↑(recS (tblS sg)).length, (cAt sg 0).key, (cAt sg (sg.length - 1)).key⟩
def MkP (b0 B2 : Nat) (lv next : Int) (i : Nat) (xs : List Md) (ss : List (List Cell)) (w : World) : Prop := xs.length = ss.length ∧ ∀ j x sg, xs[j]? = some x → ss[j]? = some sg → (j < i → x.f = mkFile lv next j sg ∧ buildE sg = 0 ∧ Arr encB 1 w x.vb (recS (tblS sg)) ∧ B2 ≤ (base x.vb).1 ∧ x.vl.oneCell' = true) ∧ (i ≤ j → MkL b0 lv next j x sg w)
theorem MkP.mod {B2 i : Nat} {xs l : List Md} {ss : List (List Cell)} (h : MkP b0 B2 lv next i xs ss w) (ho : Vc.Own Md.cs 7 161 B w va l) (hv : ∀ k, va.ownBlock = some k → k < B2) (m : Vc.Mod (fun k => va.ownBlock = some k) w w') : MkP b0 B2 lv next i xs ss w' :=
  ⟨h.1, fun j x sg hx hs => ⟨fun hj => by
    obtain ⟨h1, h2, h3, h4, h5⟩ := (h.2 j x sg hx hs).1 hj
    exact ⟨h1, h2, h3.mod m (fun _ e => by have := hv _ e; omega), h4, h5⟩, fun hj => by
    have hL := (h.2 j x sg hx hs).2 hj
    exact hL.mod m (fun k hk => hL.2.2.2.2.2.2.2.ne ho rfl hk)⟩⟩
theorem MkP.ext {B2 i : Nat} {xs : List Md} {ss : List (List Cell)} (h : MkP b0 B2 lv next i xs ss w) (m : Ext w w') : MkP b0 B2 lv next i xs ss w' :=
  ⟨h.1, fun j x sg hx hs => ⟨fun hj => by
    obtain ⟨h1, h2, h3, h4, h5⟩ := (h.2 j x sg hx hs).1 hj
    exact ⟨h1, h2, h3.ext m, h4, h5⟩, fun hj => ((h.2 j x sg hx hs).2 hj).mod m (fun _ _ h => h)⟩⟩
theorem MkP.zero {B2 : Nat} {xs : List Md} {ss : List (List Cell)} (h : MkY b0 B1 lv next xs ss w) : MkP b0 B2 lv next 0 xs ss w := ⟨h.1, fun j x sg hx hs => ⟨fun hj => absurd hj (Nat.not_lt_zero j), fun _ => (h.2 j x sg hx hs).1⟩⟩
theorem MkP.step {B2 i : Nat} {xs : List Md} {ss : List (List Cell)} {x : Md} {sg : List Cell} {vb : Value} (h : MkP b0 B2 lv next i xs ss w) (hx : xs[i]? = some x) (hs : ss[i]? = some sg) (hb : buildE sg = 0) (ha : Arr encB 1 w vb (recS (tblS sg))) (hg : B2 ≤ (base vb).1) :
    MkP b0 B2 lv next (i + 1) (xs.set i ⟨⟨x.f.id, x.f.lev, ↑(recS (tblS sg)).length, x.f.fst, x.f.lst⟩, x.vl, vb⟩) ss w := by
  refine ⟨by rw [List.length_set]; exact h.1, fun j z sz hz hsz => ?_⟩
  have hil := (List.getElem?_eq_some_iff.1 hx).1
  by_cases e : i = j
  · subst e
    rw [List.getElem?_set_self hil] at hz
    rw [hs] at hsz
    cases hz; cases hsz
    obtain ⟨h1, h2, h3, h4, h5, h6, h7, h8⟩ := (h.2 i x sg hx hs).2 (Nat.le_refl _)
    exact ⟨fun _ => ⟨by unfold mkFile; rw [h1, h2, h4, h5], hb, ha, hg, h8.sl.one⟩, fun hh => by omega⟩
  · rw [List.getElem?_set_ne e] at hz
    exact ⟨fun hj => (h.2 j z sz hz hsz).1 (by omega), fun hj => (h.2 j z sz hz hsz).2 (by omega)⟩
def MkF (b0 : Nat) (lv next : Int) (xs : List Md) (ss : List (List Cell)) (w : World) : Prop := xs.length = ss.length ∧ ∀ j x sg, xs[j]? = some x → ss[j]? = some sg → x.f = mkFile lv next j sg ∧ buildE sg = 0 ∧ Arr encB 1 w x.vb (recS (tblS sg)) ∧ b0 ≤ (base x.vb).1 ∧ x.vl.oneCell' = true
theorem MkP.fin {B2 i : Nat} {xs : List Md} {ss : List (List Cell)} (h : MkP b0 B2 lv next i xs ss w) (hi : xs.length ≤ i) (hb : b0 ≤ B2) : MkF b0 lv next xs ss w := ⟨h.1, fun j x sg hx hs => by
  have hil := (List.getElem?_eq_some_iff.1 hx).1
  obtain ⟨h1, h2, h3, h4, h5⟩ := (h.2 j x sg hx hs).1 (by omega)
  exact ⟨h1, h2, h3, Nat.le_trans hb h4, h5⟩⟩
theorem cAt_snoc (s : List Cell) (c : Cell) : cAt (s ++ [c]) ((s ++ [c]).length - 1) = c := by
  unfold cAt; simp
theorem cAt_0 {s : List Cell} (hs : s ≠ []) (c : Cell) : cAt (s ++ [c]) 0 = cAt s 0 := by
  cases s with
  | nil => exact absurd rfl hs
  | cons a r => rfl
end
theorem makes_w (l : List Cell) (v : Value) (lv next : Int) (w : World) (hv : Arr Cell.cs 4 w v l) (hl0 : l.length ≤ 30000) (hc9 : ∀ c ∈ l, c.key.length ≤ 4096 ∧ c.val.length ≤ 16384) (hlv : 0 ≤ lv ∧ lv ≤ 100) (hnx : 0 ≤ next ∧ next ≤ 1099511627776) :
    Calls Tryz.prog 90 [v, I lv, I next].toArray w (Gives w (fun u w' => (∃ sg ∈ mkSegs l, buildE sg ≠ 0 ∧ u = .tuple #[.slice none 0 0, I (buildE sg)]) ∨ ∃ va xs, u = .tuple #[va, I 0] ∧ Vc.Own Md.cs 7 161 w.heap.size w' va xs ∧ MkF w.heap.size lv next xs (mkSegs l) w')) := by
 refine cw Tryz.func90 ?_
 have hx := Ext.refl w
 refine ws fun _ Z1 => wr (da (da (de Z1 (ws fun _ Z2 => wr (da (de Z2 (ws fun _ Z3 => wr (da (de Z3 (ws fun _ Z4 => ws fun _ Z5 => ?_))))))))))
 refine wr (dm ?_)
 refine dv 79 4 (hv.ext hx).sl (dm (de Z5 (W_block ?_)))
 refine W_loop (G := Nat × List Md × Value) (fun (k, xs, va) => [(1, I lv), (2, I next), (6, .slice none 0 0), (7, I 0), (8, va), (9, I ↑(mkR l k).2), (18, v), (19, I ↑l.length), (20, I ↑k)]) (fun (k, xs, va) w' => Ext w w' ∧ k ≤ l.length ∧ (mkR l k).2 ≤ 30000 ∧ Vc.Own Md.cs 7 161 w.heap.size w' va xs ∧ MkH w.heap.size lv next xs (mkR l k).1 w') (fun (k, xs, va) => l.length - k) (0, [], .slice none 0 0) ?_ ?_ ?_
 · exact ⟨rfl, rfl, rfl, rfl, rfl, rfl, rfl, rfl, rfl, trivial⟩
 · exact ⟨hx, Nat.zero_le _, Nat.zero_le _, Vc.Own.nil, .inl ⟨rfl, rfl⟩⟩
 intro X1 g1 w1 hF1
 obtain ⟨k, xs, va⟩ := g1
 clear hx
 obtain ⟨hx, hk1, hz1, ho, hI⟩ := hF1
 refine ws fun _ Z6 => wr (dp (pv_lss rfl rfl) (de Z6 (ws fun _ Z7 => wi (fun c1 => ?_) fun c1 => ?_)))
 ·
  obtain ⟨c, hk⟩ : ∃ c, l[k]? = some c := ⟨_, List.getElem?_eq_getElem (by omega)⟩
  have hcs := hc9 c (List.mem_of_getElem? hk)
  have hcz : sizeC c ≤ 30000 := by unfold sizeC; omega
  have hln := hI.len
  have hrl := (mkR_flat l k hk1).2
  refine W_skip (Z7 _ _ (ws fun _ Z8 => W_block (ws fun _ Z9 => wr (di 79 4 hv.sl rfl (hv.lt hk) (dq (lv_loadA (by kernel_rfl) rfl rfl ((hv.ext hx).row hk)) (D_alloc (cs := [S [], S [], B false, .int .i64 0]) rfl (by kernel_rfl) RX.all (fun b1 w2 e1 x2 m1 => ?_)))))))
  have g1 := hx.ge e1
  have o1_ho := ho.ltb e1
  have a1_hI := hI.lt
  replace ho := ho.ext x2
  replace hI := hI.ext x2
  replace hx := hx.trans x2
  refine stA m1 (fun w3 x3 xs3 m1 => ?_)
  try dsimp only [setAt, List.set, List.take, List.drop] at m1
  try replace ho := ho.mod x3 (by first | assumption | (intro k hk h; have h1 := (ho.lt k hk).1; have h2 : k = b1 := h; omega) | (intro k hk h; have h1 := o1_ho k hk; have h2 : k = b1 := h; omega) | (intro h; have h2 : _ = b1 := h; omega) | (intro hl h; have h1 := a1_ho hl; have h2 : _ = b1 := h; omega))
  replace hI := hI.mod x3 (fun x9 hx9 k9 hk9 e9 => by have h2 : k9 = b1 := e9; have h8 := a1_hI x9 hx9 k9 hk9; omega)
  replace hx := hx.o1 x3
  refine de Z9 (ws fun _ Z10 => wr (dq (lv_loadA (k := 4) (by kernel_rfl) rfl rfl m1.row) (cP (size_w c _ (by omega) (by omega)) RX.all fun w4 x4 => ?_)))
  replace ho := ho.ext x4
  replace hI := hI.ext x4
  replace m1 := m1.ext x4
  replace hx := hx.trans x4
  refine da (de Z10 ?_)
  refine W_cut (G := List Md × Md × List (List Cell) × List Cell × Value × Nat × Nat) (fun (ys, x, ss, s, va, z, B1) => [(1, I lv), (2, I next), (6, .slice none 0 0), (7, I 0), (8, va), (9, I ↑z), (11, ptr b1 0), (12, I ↑(sizeC c)), (18, v), (19, I ↑l.length), (20, I ↑k)]) (fun (ys, x, ss, s, va, z, B1) w' => Ext w w' ∧ Blk w' b1 c.cs 79 ∧ mkR l (k + 1) = (ss ++ [s ++ [c]], z + sizeC c) ∧ w.heap.size ≤ B1 ∧ z ≤ 60000 ∧ Sz B1 w' ∧ Vc.Own Md.cs 7 161 w.heap.size w' va (ys ++ [x]) ∧ MkY w.heap.size B1 lv next ys ss w' ∧ Vc.Own Cell.cs 4 79 B1 w' x.vl s ∧ x.f.id = next + ↑ys.length ∧ x.f.lev = lv ∧ x.f.size = 0 ∧ x.f.fst = (cAt (s ++ [c]) 0).key ∧ x.vb = .slice none 0 0 ∧ ys.length ≤ k ∧ x.vl.ownBlock ≠ some b1) ?_ ?_
  ·
   refine ws fun _ Z11 => wr (dm ?_)
   refine dv 161 7 (ho.arr (by intro x; rfl)).sl (dp (pv_eql rfl rfl) (dm ?_))
   refine D_splitP 29 rfl (fun c2 => ?_) (fun c2 => ?_)
   ·
    obtain ⟨Bn, hBn, hSn, hy⟩ := hI.all hx.size
    have hnew : mkR l (k + 1) = ((mkR l k).1 ++ [[] ++ [c]], 0 + sizeC c) := by rw [mkR_step hk, mkStep_new (.inl (List.eq_nil_of_length_eq_zero (by omega)))]
    refine dk (dk (dk (dk (dk' (de Z11 ?_)))))
    refine W_t rfl (ws fun _ Z12 => wr (dm (dm (dm ?_))))
    refine dv 161 7 (ho.arr (by intro x; rfl)).sl (pa rfl rfl (dm ?_))
    refine df 0 rfl (dl rfl (m1.at rfl) (db (zs := [.int .i64 0, .int .i64 0, .int .i64 0, S [], S []]) (pl := [(0, 1), (1, 1), (2, 1), (3, 1), (4, 1)]) (pv := [(0, _), (1, _), (3, _)]) (cs := [_, _, .int .i64 0, _, S []]) ?_))
    refine db (zs := [.int .i64 0, .int .i64 0, .int .i64 0, S [], S [], .slice none 0 0, .slice none 0 0]) (pl := [(0, 5), (5, 1), (6, 1)]) (pv := [(0, .agg ⟨[_, _, _, _, _]⟩)]) (cs := [_, _, _, _, _, .slice none 0 0, .slice none 0 0]) ?_
    refine li (e := 161) (sz := 7) (zs := [.int .i64 0, .int .i64 0, .int .i64 0, S [], S [], .slice none 0 0, .slice none 0 0]) (pv := [(0, .agg ⟨[_, _, _, _, _, _, _]⟩)]) (cs := [_, _, _, _, _, _, _]) RX.all (fun b2 w5 e2 x5 m2 => ?_)
    have g2 := hx.ge e2
    have n2_1 := m1.ltb e2
    have o2_ho := ho.ltb e2
    replace ho := ho.ext x5
    replace m1 := m1.ext x5
    replace hy := hy.ext x5
    replace hSn := hSn.ext x5
    replace hx := hx.trans x5
    refine D_append (lx := [⟨⟨next + ↑xs.length, lv, 0, c.key, []⟩, .slice none 0 0, .slice none 0 0⟩]) (e := 161) (sz := 7) (by' := 104) rfl (by kernel_rfl) (by kernel_rfl) (by intro x; rfl) ho (m2.arr (enc := Md.cs) (sz := 7) (l := [⟨⟨next + ↑xs.length, lv, 0, c.key, []⟩, .slice none 0 0, .slice none 0 0⟩]) rfl (by intro x; rfl) rfl (Nat.le_of_ble_eq_true rfl)) rfl rfl (by intro x hx9 u hu; rw [List.mem_singleton.1 hx9] at hu; simp at hu; rcases hu with rfl | rfl | rfl | rfl | rfl | rfl | rfl <;> rfl) (by simp; omega) (by decide) hx.size (.inl rfl) (fun vn w6 ho_n x6 => ?_)
    try replace m1 := m1.mod x6 (by first | (intro h; have h2 : b1 = b1 := Option.some.inj h; omega) | (intro h; have h1 := (ho.lt _ h).1; omega) | (intro h; have h1 := o1_ho _ h; omega) | (intro h; exact ho.ne_blk m1 rfl h) | exact hvb)
    try replace hy := hy.mod x6 (by first | exact hy.ne ho | trivial)
    try replace hSn := hSn.mod x6 (by first | exact hy.ne ho | trivial)
    replace hx := hx.own x6 (fun i hi => (ho.lt i hi).1)
    replace ho := ho_n
    clear m2
    refine da (de Z12 (wr (da (D_end (?_)))))
    exact ⟨(xs, ⟨⟨next + ↑xs.length, lv, 0, c.key, []⟩, .slice none 0 0, .slice none 0 0⟩, (mkR l k).1, [], vn, 0, Bn), ⟨rfl, rfl, rfl, rfl, rfl, rfl, rfl, rfl, rfl, rfl, rfl, trivial⟩, hx, m1, hnew, hBn, Nat.zero_le _, hSn, ho, hy, Vc.Own.nil, rfl, rfl, rfl, rfl, rfl, by omega, by simp [Value.ownBlock]⟩
   iterate 2 refine dm ?_
   refine pa rfl rfl (dp (pv_gtr rfl rfl) (dk' (de Z11 ?_)))
   refine wi (fun c3 => ?_) fun c3 => ?_
   ·
    obtain ⟨Bn, hBn, hSn, hy⟩ := hI.all hx.size
    have hnew : mkR l (k + 1) = ((mkR l k).1 ++ [[] ++ [c]], 0 + sizeC c) := by rw [mkR_step hk, mkStep_new (.inr (by omega))]
    refine ws fun _ Z13 => wr (dm (dm (dm ?_)))
    refine dv 161 7 (ho.arr (by intro x; rfl)).sl (pa rfl rfl (dm ?_))
    refine df 0 rfl (dl rfl (m1.at rfl) (db (zs := [.int .i64 0, .int .i64 0, .int .i64 0, S [], S []]) (pl := [(0, 1), (1, 1), (2, 1), (3, 1), (4, 1)]) (pv := [(0, _), (1, _), (3, _)]) (cs := [_, _, .int .i64 0, _, S []]) ?_))
    refine db (zs := [.int .i64 0, .int .i64 0, .int .i64 0, S [], S [], .slice none 0 0, .slice none 0 0]) (pl := [(0, 5), (5, 1), (6, 1)]) (pv := [(0, .agg ⟨[_, _, _, _, _]⟩)]) (cs := [_, _, _, _, _, .slice none 0 0, .slice none 0 0]) ?_
    refine li (e := 161) (sz := 7) (zs := [.int .i64 0, .int .i64 0, .int .i64 0, S [], S [], .slice none 0 0, .slice none 0 0]) (pv := [(0, .agg ⟨[_, _, _, _, _, _, _]⟩)]) (cs := [_, _, _, _, _, _, _]) RX.all (fun b3 w7 e3 x7 m3 => ?_)
    have g3 := hx.ge e3
    have n3_1 := m1.ltb e3
    have o3_ho := ho.ltb e3
    replace ho := ho.ext x7
    replace m1 := m1.ext x7
    replace hy := hy.ext x7
    replace hSn := hSn.ext x7
    replace hx := hx.trans x7
    refine D_append (lx := [⟨⟨next + ↑xs.length, lv, 0, c.key, []⟩, .slice none 0 0, .slice none 0 0⟩]) (e := 161) (sz := 7) (by' := 104) rfl (by kernel_rfl) (by kernel_rfl) (by intro x; rfl) ho (m3.arr (enc := Md.cs) (sz := 7) (l := [⟨⟨next + ↑xs.length, lv, 0, c.key, []⟩, .slice none 0 0, .slice none 0 0⟩]) rfl (by intro x; rfl) rfl (Nat.le_of_ble_eq_true rfl)) rfl rfl (by intro x hx9 u hu; rw [List.mem_singleton.1 hx9] at hu; simp at hu; rcases hu with rfl | rfl | rfl | rfl | rfl | rfl | rfl <;> rfl) (by simp; omega) (by decide) hx.size (.inl rfl) (fun vn w8 ho_n x8 => ?_)
    try replace m1 := m1.mod x8 (by first | (intro h; have h2 : b1 = b1 := Option.some.inj h; omega) | (intro h; have h1 := (ho.lt _ h).1; omega) | (intro h; have h1 := o1_ho _ h; omega) | (intro h; exact ho.ne_blk m1 rfl h) | exact hvb)
    try replace hy := hy.mod x8 (by first | exact hy.ne ho | trivial)
    try replace hSn := hSn.mod x8 (by first | exact hy.ne ho | trivial)
    replace hx := hx.own x8 (fun i hi => (ho.lt i hi).1)
    replace ho := ho_n
    clear m3
    refine da (de Z13 (wr (da (D_end (?_)))))
    exact ⟨(xs, ⟨⟨next + ↑xs.length, lv, 0, c.key, []⟩, .slice none 0 0, .slice none 0 0⟩, (mkR l k).1, [], vn, 0, Bn), ⟨rfl, rfl, rfl, rfl, rfl, rfl, rfl, rfl, rfl, rfl, rfl, trivial⟩, hx, m1, hnew, hBn, Nat.zero_le _, hSn, ho, hy, Vc.Own.nil, rfl, rfl, rfl, rfl, rfl, by omega, by simp [Value.ownBlock]⟩
   rcases hI with ⟨rfl, _⟩ | ⟨ys, x, ss, s, B1, rfl, hR, ⟨hb1, hSn⟩, hy, hL, hl⟩
   · simp at c2
   have hvb : x.vl.ownBlock ≠ some b1 := fun e => by have := a1_hI x (by simp) b1 e; omega
   refine W_skip ?_
   exact ⟨(ys, x, ss, s, va, (mkR l k).2, B1), ⟨rfl, rfl, rfl, rfl, rfl, rfl, rfl, rfl, rfl, rfl, rfl, trivial⟩, hx, m1, by rw [mkR_step hk, show mkR l k = (ss ++ [s], (mkR l k).2) from Prod.ext hR rfl, mkStep_old (by omega)], hb1, by omega, hSn, ho, hy, hl, hL.1, hL.2.1, hL.2.2.1, by rw [cAt_0 hL.2.2.2.2.2.2.1]; exact hL.2.2.2.1, hL.2.2.2.2.2.1, by simp at hln; omega, hvb⟩
  intro X9 g9 w9 hF9
  obtain ⟨ys, x, ss, s, va, z, B1⟩ := g9
  clear hx ho hI m1
  obtain ⟨hx, m1, hR2, hb1, hz9, hSn, ho, hy, hl, q1, q2, q3, q4, q5, q6, hvb⟩ := hF9
  have hyx : (ys ++ [x])[ys.length]? = some x := by simp
  have hsl : s.length ≤ 30000 := by
    have h9 := (mkR_flat l (k + 1) (by omega)).1
    rw [hR2] at h9
    have h8 := seg_le h9 (show s ++ [c] ∈ ss ++ [s ++ [c]] by simp)
    rw [List.length_append, List.length_take] at h8
    omega
  refine ws fun _ Z14 => wr (dm (dm ?_))
  refine pa rfl rfl (da (de Z14 (ws fun _ Z15 => wr (dm (dm ?_)))))
  refine dv 161 7 (ho.arr (by intro x; rfl)).sl (D_pe (v := I ↑ys.length) rfl (pv_sub rfl rfl (by unfold inI64; simp; omega)) (by show I _ = I _; congr 1; simp) (D_pe (v := ptr (base va).1 (ys.length * 7 + 0)) rfl (pv_idxA (i := ys.length) (e := 161) (k := 7) (by kernel_rfl) ho.sl rfl rfl (by first | omega | (simp; done) | (simp; omega))) (by rw [own_ptr ho (by simp)]; show ptr _ (0 + _) = _; rw [Nat.zero_add]; rfl) (da (de Z15 ?_))))
  refine W_drawT (R := Mod (fun k => va.ownBlock = some k ∨ x.vl.ownBlock = some k)) modRefl modTrans (by kernel_rfl) [6, 10] (.one 0 .p false (.one 1 .p false (.one 2 .p false (.one 3 .p false (.one 4 .p false (.one 6 .l false (.one 9 .p false (.one 10 .l false (.fork (.alt 5 false (.one 7 .x false (.one 8 .x false (.one 11 .p false (.one 12 .p false (.one 13 .x false (.one 14 .p false (.one 15 .p false (.one 16 .p false (.one 17 .x true .nil))))))))) (.alt 7 false (.one 5 .x false (.one 8 .x false (.one 11 .p false (.one 12 .p false (.one 13 .x false (.one 14 .p false (.one 15 .p false (.one 16 .p false (.one 17 .x true .nil))))))))) .stop))))))))))) (by kernel_rfl) (by kernel_rfl) (fun w10 ew10 => ?_)
  have x10 := drewx ew10
  clear ew10
  replace m1 := m1.ext x10
  replace ho := ho.ext x10
  replace hy := hy.ext x10
  replace hl := hl.ext x10
  replace hSn := hSn.ext x10
  replace hx := hx.trans x10
  refine T_one (dm (D_end ?_))
  refine T_one (dm (D_end ?_))
  refine T_one (dm (D_end ?_))
  refine T_one (dz rfl (D_end (T_one (df 5 rfl (D_end (T_one (D_l rfl (fun w' hR => lv_loadA (k := 4) (by kernel_rfl) rfl rfl (m1.mod hR (fun e => e.elim (fun e => ho.ne_blk m1 rfl e) hvb)).row) (D_end (T_one (df 0 rfl (D_end (T_one (dL rfl (fun _ hR => ((m1.mod hR (fun e => e.elim (fun e => ho.ne_blk m1 rfl e) hvb)).at rfl)) ?_)))))))))))))
  refine D_end (T_fork ?_)
  refine T_alt ?_ ?_
  ·
   refine D_xv (v := x.vl) (w' := w10) rfl (lv_load (by kernel_rfl) rfl (((mdR ho).row hyx).at rfl)) (fun _ => modRefl _) (D_end (T_one (li (e := 79) (sz := 4) (zs := [S [], S [], B false, .int .i64 0]) (pv := [(0, .agg ⟨[_, _, _, _]⟩)]) (cs := [_, _, _, _]) RX.mod (fun b4 w11 e4 x11 m4 => ?_))))
   have g4 := hx.ge e4
   have o4_ho := ho.ltb e4
   have o4_hl := hl.ltb e4
   replace ho := ho.ext x11
   replace hy := hy.ext x11
   replace hl := hl.ext x11
   replace hSn := hSn.ext x11
   replace hx := hx.trans x11
   refine D_end (T_one ?_)
   refine D_append (lx := [c]) (e := 79) (sz := 4) (by' := 48) rfl (by kernel_rfl) (by kernel_rfl) (by intro x; rfl) hl (m4.arr (enc := Cell.cs) (sz := 4) (l := [c]) rfl (by intro x; rfl) rfl (Nat.le_of_ble_eq_true rfl)) rfl rfl (by intro x hx9 u hu; rw [List.mem_singleton.1 hx9] at hu; simp at hu; rcases hu with rfl | rfl | rfl | rfl <;> rfl) (by have := hsl; simp; omega) (by decide) hSn.le (.inr (fun w9 h9 => h9.mono (fun i hi _ => .inr hi))) (fun vp w12 hl_n x12 => ?_)
   try replace ho := ho.mod x12 (by first | exact (fun k hk => ho.ne hl rfl hk) | exact hy.sep hl | trivial)
   try replace hy := hy.mod x12 (by first | exact (fun k hk => ho.ne hl rfl hk) | exact hy.sep hl | trivial)
   try replace hSn := hSn.mod x12 (by first | exact (fun k hk => ho.ne hl rfl hk) | exact hy.sep hl | trivial)
   replace hx := hx.own x12 (fun i hi => (Nat.le_trans hb1 (hl.lt i hi).1))
   replace hl := hl_n
   clear m4
   refine D_end (T_one (dz rfl (D_end (T_one (df 5 rfl (D_end (T_one (D_storeO (enc := Md.cs) (sz := 7) (l := (ys ++ [x])) (i := ys.length) (j := 5) (x := ⟨x.f, vp, x.vb⟩) (vs := [vp]) (by intro x; rfl) rfl ho rfl rfl (by exact hl.sl.cells) (by kernel_rfl) (by first | omega | (simp; done) | (simp; omega) | (rw [List.length_set]; omega)) (by rw [last_getD]; rfl) (Nat.le_of_ble_eq_true rfl) (by intro u hu; rw [List.mem_singleton.1 hu]; exact hl.sl.one) (.inr (fun w9 h9 => h9.mono (fun i hi _ => .inl hi))) (fun w13 x13 xs13 ho_n => ?_)))))))))
   replace hy := hy.mod x13 (hy.ne ho)
   replace hl := hl.mod x13 (fun k hk => hl.ne ho rfl hk)
   replace hSn := hSn.mod x13 trivial
   replace hx := hx.own x13 (fun i hi => (ho.lt i hi).1)
   replace ho := ho_n
   rw [last_set] at ho
   refine D_end (T_one (dz rfl (D_end (T_one (df 0 rfl (D_end (T_one (df 4 rfl (D_end (T_one (D_storeO (enc := Md.cs) (sz := 7) (l := (ys ++ [⟨x.f, vp, x.vb⟩])) (i := ys.length) (j := 4) (x := ⟨⟨x.f.id, x.f.lev, x.f.size, x.f.fst, c.key⟩, vp, x.vb⟩) (vs := [S c.key]) (by intro x; rfl) rfl ho rfl rfl rfl (by kernel_rfl) (by first | omega | (simp; done) | (simp; omega) | (rw [List.length_set]; omega)) (by rw [last_getD]; rfl) (Nat.le_of_ble_eq_true rfl) (by intro u hu; rw [List.mem_singleton.1 hu]; rfl) (.inl rfl) (fun w14 x14 xs14 ho_n => ?_))))))))))))
   replace hy := hy.mod x14 (hy.ne ho)
   replace hl := hl.mod x14 (fun k hk => hl.ne ho rfl hk)
   replace hSn := hSn.mod x14 trivial
   replace hx := hx.own x14 (fun i hi => (ho.lt i hi).1)
   replace ho := ho_n
   rw [last_set] at ho
   refine D_end (T_nil (Z8 _ _ (wr (pa rfl rfl (dm (D_end (?_)))))))
   have hz2 := mkR_sz (l := l) (fun c hc => by have := hc9 c hc; unfold sizeC; omega) (k + 1) (by omega)
   refine ⟨(k + 1, ys ++ [⟨⟨x.f.id, x.f.lev, x.f.size, x.f.fst, c.key⟩, vp, x.vb⟩], va), ?_, ⟨hx, by omega, hz2, ho, .inr ⟨ys, _, ss, s ++ [c], B1, rfl, by rw [hR2], ⟨hb1, hSn⟩, hy, ⟨q1, q2, q3, q4, by rw [cAt_snoc], q5, by simp, hl.mono hb1⟩, hl⟩⟩, by simp only []; omega⟩
   dsimp only
   rw [hR2]; exact ⟨rfl, rfl, rfl, rfl, rfl, rfl, rfl, rfl, rfl, trivial⟩
  refine T_alt ?_ ?_
  ·
   refine li (e := 79) (sz := 4) (zs := [S [], S [], B false, .int .i64 0]) (pv := [(0, .agg ⟨[_, _, _, _]⟩)]) (cs := [_, _, _, _]) RX.mod (fun b5 w15 e5 x15 m5 => ?_)
   have g5 := hx.ge e5
   have o5_ho := ho.ltb e5
   have o5_hl := hl.ltb e5
   replace ho := ho.ext x15
   replace hy := hy.ext x15
   replace hl := hl.ext x15
   replace hSn := hSn.ext x15
   replace hx := hx.trans x15
   refine D_end (T_one (D_xv (v := x.vl) (w' := w15) rfl (lv_load (by kernel_rfl) rfl (((mdR ho).row hyx).at rfl)) (fun _ => modRefl _) (D_end (T_one ?_))))
   refine D_append (lx := [c]) (e := 79) (sz := 4) (by' := 48) rfl (by kernel_rfl) (by kernel_rfl) (by intro x; rfl) hl (m5.arr (enc := Cell.cs) (sz := 4) (l := [c]) rfl (by intro x; rfl) rfl (Nat.le_of_ble_eq_true rfl)) rfl rfl (by intro x hx9 u hu; rw [List.mem_singleton.1 hx9] at hu; simp at hu; rcases hu with rfl | rfl | rfl | rfl <;> rfl) (by have := hsl; simp; omega) (by decide) hSn.le (.inr (fun w9 h9 => h9.mono (fun i hi _ => .inr hi))) (fun vp w16 hl_n x16 => ?_)
   try replace ho := ho.mod x16 (by first | exact (fun k hk => ho.ne hl rfl hk) | exact hy.sep hl | trivial)
   try replace hy := hy.mod x16 (by first | exact (fun k hk => ho.ne hl rfl hk) | exact hy.sep hl | trivial)
   try replace hSn := hSn.mod x16 (by first | exact (fun k hk => ho.ne hl rfl hk) | exact hy.sep hl | trivial)
   replace hx := hx.own x16 (fun i hi => (Nat.le_trans hb1 (hl.lt i hi).1))
   replace hl := hl_n
   clear m5
   refine D_end (T_one (dz rfl (D_end (T_one (df 5 rfl (D_end (T_one (D_storeO (enc := Md.cs) (sz := 7) (l := (ys ++ [x])) (i := ys.length) (j := 5) (x := ⟨x.f, vp, x.vb⟩) (vs := [vp]) (by intro x; rfl) rfl ho rfl rfl (by exact hl.sl.cells) (by kernel_rfl) (by first | omega | (simp; done) | (simp; omega) | (rw [List.length_set]; omega)) (by rw [last_getD]; rfl) (Nat.le_of_ble_eq_true rfl) (by intro u hu; rw [List.mem_singleton.1 hu]; exact hl.sl.one) (.inr (fun w9 h9 => h9.mono (fun i hi _ => .inl hi))) (fun w17 x17 xs17 ho_n => ?_)))))))))
   replace hy := hy.mod x17 (hy.ne ho)
   replace hl := hl.mod x17 (fun k hk => hl.ne ho rfl hk)
   replace hSn := hSn.mod x17 trivial
   replace hx := hx.own x17 (fun i hi => (ho.lt i hi).1)
   replace ho := ho_n
   rw [last_set] at ho
   refine D_end (T_one (dz rfl (D_end (T_one (df 0 rfl (D_end (T_one (df 4 rfl (D_end (T_one (D_storeO (enc := Md.cs) (sz := 7) (l := (ys ++ [⟨x.f, vp, x.vb⟩])) (i := ys.length) (j := 4) (x := ⟨⟨x.f.id, x.f.lev, x.f.size, x.f.fst, c.key⟩, vp, x.vb⟩) (vs := [S c.key]) (by intro x; rfl) rfl ho rfl rfl rfl (by kernel_rfl) (by first | omega | (simp; done) | (simp; omega) | (rw [List.length_set]; omega)) (by rw [last_getD]; rfl) (Nat.le_of_ble_eq_true rfl) (by intro u hu; rw [List.mem_singleton.1 hu]; rfl) (.inl rfl) (fun w18 x18 xs18 ho_n => ?_))))))))))))
   replace hy := hy.mod x18 (hy.ne ho)
   replace hl := hl.mod x18 (fun k hk => hl.ne ho rfl hk)
   replace hSn := hSn.mod x18 trivial
   replace hx := hx.own x18 (fun i hi => (ho.lt i hi).1)
   replace ho := ho_n
   rw [last_set] at ho
   refine D_end (T_nil (Z8 _ _ (wr (pa rfl rfl (dm (D_end (?_)))))))
   have hz2 := mkR_sz (l := l) (fun c hc => by have := hc9 c hc; unfold sizeC; omega) (k + 1) (by omega)
   refine ⟨(k + 1, ys ++ [⟨⟨x.f.id, x.f.lev, x.f.size, x.f.fst, c.key⟩, vp, x.vb⟩], va), ?_, ⟨hx, by omega, hz2, ho, .inr ⟨ys, _, ss, s ++ [c], B1, rfl, by rw [hR2], ⟨hb1, hSn⟩, hy, ⟨q1, q2, q3, q4, by rw [cAt_snoc], q5, by simp, hl.mono hb1⟩, hl⟩⟩, by simp only []; omega⟩
   dsimp only
   rw [hR2]; exact ⟨rfl, rfl, rfl, rfl, rfl, rfl, rfl, rfl, rfl, trivial⟩
  exact T_stop
 have hnx9 : xs.length ≤ 30000 := by have h8 := hI.len; have h9 := (mkR_flat l k hk1).2; omega
 obtain ⟨Bn, hBn, _, hy⟩ := hI.all hx.size
 rw [mkR_all (by omega)] at hy
 obtain ⟨B2, hB2, hvf, hS, hP⟩ : ∃ B2, w.heap.size ≤ B2 ∧ (∀ k, va.ownBlock = some k → k < B2) ∧ Sz B2 _ ∧ MkP w.heap.size B2 lv next 0 xs (mkSegs l) _ := ⟨_, hx.size, fun k hk => (ho.lt k hk).2, ⟨Nat.le_refl _⟩, MkP.zero hy⟩
 clear hy
 refine W_exit (Z4 _ _ (ws fun _ Z16 => ws fun _ Z17 => wr (dm ?_)))
 refine dv 161 7 (ho.arr (by intro x; rfl)).sl (dm (de Z17 (W_block ?_)))
 refine W_loop (G := Nat × List Md) (fun (i, ms) => [(8, va), (72, va), (73, I ↑xs.length), (74, I ↑i)]) (fun (i, ms) w' => Ext w w' ∧ i ≤ xs.length ∧ ms.length = xs.length ∧ Vc.Own Md.cs 7 161 w.heap.size w' va ms ∧ MkP w.heap.size B2 lv next i ms (mkSegs l) w' ∧ Sz B2 w') (fun (i, ms) => xs.length - i) (0, xs) ?_ ?_ ?_
 · exact ⟨rfl, rfl, rfl, rfl, trivial⟩
 · exact ⟨hx, Nat.zero_le _, rfl, ho, hP, hS⟩
 intro X19 g19 w19 hF19
 obtain ⟨i, ms⟩ := g19
 clear hx ho hS hP
 obtain ⟨hx, hi1, hml, ho, hP, hS⟩ := hF19
 refine ws fun _ Z18 => wr (dp (pv_lss rfl rfl) (de Z18 (ws fun _ Z19 => wi (fun c4 => ?_) fun c4 => ?_)))
 ·
  obtain ⟨x, hk⟩ : ∃ x, ms[i]? = some x := ⟨_, List.getElem?_eq_getElem (by omega)⟩
  obtain ⟨sg, hsi⟩ : ∃ sg, (mkSegs l)[i]? = some sg := ⟨_, List.getElem?_eq_getElem (by have := hP.1; omega)⟩
  have hLx := (hP.2 i x sg hk hsi).2 (Nat.le_refl _)
  have hsl9 := seg_le (mkSegs_flat l) (List.mem_of_getElem? hsi)
  have hml9 : ms ≠ [] := fun e => by rw [e] at hk; simp at hk
  refine W_skip (Z19 _ _ (ws fun _ Z20 => W_block (ws fun _ Z21 => wr (dm (da (de Z21 (ws fun _ Z22 => wr (dm (dm ?_)))))))))
  refine D_pe (v := ptr (base va).1 (i * 7 + 0)) rfl (pv_idxA (i := i) (e := 161) (k := 7) (by kernel_rfl) ho.sl rfl rfl (by omega)) (by rw [own_ptr ho hml9]; show ptr _ (0 + _) = _; rw [Nat.zero_add]; rfl) (da (de Z22 (ws fun _ Z23 => wr (dm ?_))))
  refine dz rfl (df 5 rfl (dl rfl (((mdR ho).row hk).at rfl) ?_))
  have hS0 := hS.le
  refine cG (build_w sg x.vl _ ((hLx.2.2.2.2.2.2.2.ext (Ext.refl _)).arr (by intro x; rfl)) (by omega)) RX.all fun u20 w20 x20 hf20 => ?_
  have hsz20 := hx.size
  replace ho := ho.ext x20
  replace hP := hP.ext x20
  replace hS := hS.ext x20
  replace hx := hx.trans x20
  obtain ⟨vb2, rfl, hbd⟩ := hf20
  refine dm ?_
  refine dx rfl rfl (dx rfl rfl (da (da (de Z23 (ws fun _ Z24 => ws fun _ Z25 => wr (dm ?_))))))
  refine dp (pv_neq rfl rfl) (de Z25 (wi (fun c5 => ?_) fun c5 => ?_))
  ·
   refine ws fun _ Z26 => wr (dm (da (da (de Z26 (W_ret ?_)))))
   refine rt ?_
   exact ⟨_, rfl, hx, .inl ⟨sg, List.mem_of_getElem? hsi, c5, rfl⟩⟩
  have hbz : buildE sg = 0 := Decidable.of_not_not c5
  obtain ⟨hab, hge⟩ := hbd hbz
  have hge2 := Nat.le_trans hS0 hge
  refine W_skip (Z24 _ _ (wr (dm (dm (dm (dm ?_))))))
  refine dv 5 1 hab.sl (dz rfl (df 6 rfl ?_))
  refine D_storeO (enc := Md.cs) (sz := 7) (l := ms) (i := i) (j := 6) (x := ⟨x.f, x.vl, vb2⟩) (vs := [vb2]) (by intro x; rfl) rfl ho rfl rfl (by exact hab.sl.cells) (by kernel_rfl) (by first | omega | (simp; done) | (simp; omega) | (rw [List.length_set]; omega)) (by rw [List.getD_eq_getElem?_getD, hk]; rfl) (Nat.le_of_ble_eq_true rfl) (by intro u hu; rw [List.mem_singleton.1 hu]; exact hab.sl.one) (.inl rfl) (fun w21 x21 xs21 ho_n => ?_)
  replace hP := hP.mod ho hvf x21
  replace hab := hab.mod x21 (fun _ e => by have := hvf _ e; omega)
  replace hS := hS.mod x21 trivial
  replace hx := hx.own x21 (fun i hi => (ho.lt i hi).1)
  replace ho := ho_n
  refine dz rfl (df 0 rfl (df 2 rfl ?_))
  refine D_storeO (enc := Md.cs) (sz := 7) (l := (ms.set i ⟨x.f, x.vl, vb2⟩)) (i := i) (j := 2) (x := ⟨⟨x.f.id, x.f.lev, ↑(recS (tblS sg)).length, x.f.fst, x.f.lst⟩, x.vl, vb2⟩) (vs := [I ↑(recS (tblS sg)).length]) (by intro x; rfl) rfl ho rfl rfl rfl (by kernel_rfl) (by first | omega | (simp; done) | (simp; omega) | (rw [List.length_set]; omega)) (by rw [List.getD_eq_getElem?_getD, List.getElem?_set_self (by omega)]; rfl) (Nat.le_of_ble_eq_true rfl) (by intro u hu; rw [List.mem_singleton.1 hu]; rfl) (.inl rfl) (fun w22 x22 xs22 ho_n => ?_)
  replace hP := hP.mod ho hvf x22
  replace hab := hab.mod x22 (fun _ e => by have := hvf _ e; omega)
  replace hS := hS.mod x22 trivial
  replace hx := hx.own x22 (fun i hi => (ho.lt i hi).1)
  replace ho := ho_n
  rw [List.set_set] at ho
  refine de Z20 (wr (pa rfl rfl (dm (D_end (?_)))))
  exact ⟨(i + 1, _), ⟨rfl, rfl, rfl, rfl, trivial⟩, ⟨hx, by omega, by rw [List.length_set]; exact hml, ho, hP.step hk hsi hbz hab hge2, hS⟩, by simp only []; omega⟩
 refine W_exit (Z16 _ _ (ws fun _ Z27 => wr (dm (da (da (de Z27 (W_ret ?_)))))))
 refine rt ?_
 exact ⟨_, rfl, hx, .inr ⟨va, ms, rfl, ho, hP.fin (by omega) hB2⟩⟩
@[reducible] def encQ2 (q : Md × Str) : List Value := q.1.cs
def savesD : List (Int × Str) → Dsk → Int × Dsk
  | [], D => (0, D)
  | q :: r, D => if (D.save (nameS q.1) q.2).1 ≠ 0 then D.save (nameS q.1) q.2 else savesD r (D.save (nameS q.1) q.2).2
theorem saves_bad {qs : List (Int × Str)} {k : Nat} {q : Int × Str} {D : Dsk} (h : qs[k]? = some q) (he : (D.save (nameS q.1) q.2).1 ≠ 0) : savesD (qs.drop k) D = D.save (nameS q.1) q.2 := by
  rw [drop_at h]; unfold savesD; rw [if_pos he]
theorem saves_ok {qs : List (Int × Str)} {k : Nat} {q : Int × Str} {D : Dsk} (h : qs[k]? = some q) (he : (D.save (nameS q.1) q.2).1 = 0) : savesD (qs.drop k) D = savesD (qs.drop (k + 1)) (D.save (nameS q.1) q.2).2 := by
  rw [drop_at h]; rw [savesD.eq_2, if_neg (by rw [he]; decide)]
theorem itoa_len {n : Int} (h : inI64 n) : (Lib.itoa n).length ≤ 21 := Lib.itoa_length_le n h.1 (by have := h.2; omega)
theorem nameS_len {n : Int} (h : inI64 n) : (nameS n).length ≤ 22 := by have := itoa_len h; unfold nameS; simp; omega
theorem keeps_w (κ : Nat → Nat) (bs bd bl bo bm : Nat) (vf : Value) (L : Led) (D : Dsk) (V : Vs) (ts : List Tb) (mem : List Cell) (dead : Bool) (qs : List (Md × Str)) (va : Value) (w : World) (h : StE κ bs bd bl bo bm vf L D V ts mem dead w) (hg : GV w) (hgs : ∀ k, gvS k → κ k = 0) (ha : Arr Md.cs 7 w va (qs.map (·.1))) (hal : qs.length ≤ 40000) (hak : qs ≠ [] → κ (base va).1 = 0) (hq : ∀ q ∈ qs, Arr encB 1 w q.1.vb q.2 ∧ q.2.length ≤ 2001000020 ∧ inI64 q.1.f.id ∧ (q.2 ≠ [] → κ (base q.1.vb).1 = 0) ∧ q.1.vl.oneCell' = true) :
    Calls Tryz.prog 93 [ptr bs 0, va].toArray w (Does (fun k => κ k = 1) w (fun u w' => u = I (savesD (qs.map fun q => (q.1.f.id, q.2)) D).1 ∧ ∃ κ', (∀ k, k < w.heap.size → κ' k = κ k) ∧ StE κ' bs bd bl bo bm vf L (savesD (qs.map fun q => (q.1.f.id, q.2)) D).2 V ts mem dead w')) := by
 refine cw Tryz.func93 ?_
 have hx := Vc.Mod.refl (fun k => κ k = 1) w
 have hS := h
 have hlt0 := h.lt
 have hmlen : (qs.map (·.1)).length = qs.length := List.length_map _
 refine ws fun _ Z1 => wr (da (de Z1 (ws fun _ Z2 => ws fun _ Z3 => wr (dm ?_))))
 refine dv 161 7 (ha.mod hx (fun hl e => by have e2 : κ (base va).1 = 1 := e; rw [hak (by rintro rfl; exact hl rfl)] at e2; cases e2)).sl (dm (de Z3 (W_block ?_)))
 refine W_loop (G := Nat × (Nat → Nat) × Dsk) (fun (k, κ1, D1) => [(0, ptr bs 0), (8, va), (9, I ↑(qs.map (·.1)).length), (10, I ↑k)]) (fun (k, κ1, D1) w' => Mod (fun k => κ k = 1) w w' ∧ k ≤ qs.length ∧ savesD (qs.map fun q => (q.1.f.id, q.2)) D = savesD ((qs.map fun q => (q.1.f.id, q.2)).drop k) D1 ∧ (∀ k, k < w.heap.size → κ1 k = κ k) ∧ StE κ1 bs bd bl bo bm vf L D1 V ts mem dead w') (fun (k, κ1, D1) => qs.length - k) (0, κ, D) ?_ ?_ ?_
 · exact ⟨rfl, rfl, rfl, rfl, trivial⟩
 · exact ⟨hx, Nat.zero_le _, rfl, fun _ _ => rfl, hS⟩
 intro X1 g1 w1 hF1
 obtain ⟨k, κ1, D1⟩ := g1
 clear hx hS
 obtain ⟨hx, hk1, hsv, hmv, hS⟩ := hF1
 refine ws fun _ Z4 => wr (dp (pv_lss rfl rfl) (de Z4 (ws fun _ Z5 => wi (fun c1 => ?_) fun c1 => ?_)))
 ·
  obtain ⟨q, hk⟩ : ∃ q, qs[k]? = some q := ⟨_, List.getElem?_eq_getElem (by omega)⟩
  obtain ⟨hqa, hql, hqi, hqk, hqo⟩ := hq q (List.mem_of_getElem? hk)
  have hkm : (qs.map (·.1))[k]? = some q.1 := by simp [hk]
  have hq9 : ((qs.map fun q => (q.1.f.id, q.2)))[k]? = some (q.1.f.id, q.2) := by simp [hk]
  have hnl := nameS_len hqi
  have hil := itoa_len hqi
  refine W_skip (Z5 _ _ (ws fun _ Z6 => W_block (ws fun _ Z7 => wr (di 161 7 ha.sl rfl (ha.lt hkm) (dq (lv_loadA (by kernel_rfl) rfl rfl ((ha.mod hx (fun hl e => by have e2 : κ (base va).1 = 1 := e; rw [hak (by rintro rfl; exact hl rfl)] at e2; cases e2)).row hkm)) (D_alloc (cs := [.int .i64 0, .int .i64 0, .int .i64 0, S [], S [], .slice none 0 0, .slice none 0 0]) rfl (by kernel_rfl) RX.all (fun b1 w2 e1 x2 m1 => ?_)))))))
  have g1 := hx.ge e1
  have a1_hS := hS.lt
  replace hS := hS.ext x2
  replace hx := hx.ext x2
  refine stA m1 (fun w3 x3 xs3 m1 => ?_) (h1 := by (intro u hu; simp only [List.mem_cons, List.not_mem_nil, or_false] at hu; rcases hu with e | e | e | e | e | e | e <;> subst e <;> first | rfl | exact hqo | exact hqa.sl.one))
  try dsimp only [setAt, List.set, List.take, List.drop] at m1
  replace hS := hS.mod x3 (fun k9 h9 e9 => by have h2 : k9 = b1 := e9; have h8 := a1_hS k9 h9; omega)
  replace hx := hx.o1 x3
  refine de Z7 (ws fun _ Z8 => W_drawT (R := Mod (fun k => κ1 k = 1)) modRefl modTrans (by kernel_rfl) [3, 6, 9] (.one 0 .p false (.one 1 .p false (.one 2 .p false (.one 3 .l false (.one 4 .p false (.one 5 .p false (.one 6 .l false (.one 8 .p false (.one 9 .l false (.fork (.alt 7 false (.one 10 .x false (.one 11 .x false (.one 12 .p false .nil))) (.alt 10 false (.one 7 .x false (.one 11 .x false (.one 12 .p false .nil))) .stop)))))))))))) (by kernel_rfl) (by kernel_rfl) (fun w4 ew4 => ?_))
  have x4 := drewx ew4
  clear ew4
  replace hS := hS.ext x4
  replace m1 := m1.ext x4
  replace hx := hx.ext x4
  refine T_one (dm (D_end ?_))
  refine T_one (dz rfl (D_end (T_one (df 0 rfl (D_end (T_one (dL rfl (fun _ hR => ((hS.m.mod hR (fun e => by have e2 : κ1 bs = 1 := e; rw [hS.k0] at e2; cases e2)).at rfl)) (D_end (T_one (df 0 rfl (D_end (T_one (df 0 rfl ?_)))))))))))))
  refine D_end (T_one (dL rfl (fun _ hR => ((m1.mod hR (fun e => by have e2 : κ1 b1 = 1 := e; have := a1_hS b1 (by rw [e2]; decide); omega)).at rfl)) (D_end (T_one (df 6 rfl (D_end (T_one (dL rfl (fun _ hR => ((m1.mod hR (fun e => by have e2 : κ1 b1 = 1 := e; have := a1_hS b1 (by rw [e2]; decide); omega)).at rfl)) (D_end (T_fork ?_))))))))))
  refine T_alt ?_ ?_
  ·
   refine cP (name_w q.1.f.id _ (hg.mod hx (fun k hk e => by have e2 : κ k = 1 := e; rw [hgs k hk] at e2; cases e2)) hqi (by omega)) RX.mod fun w5 x5 => ?_
   replace hS := hS.ext x5
   replace hx := hx.ext x5
   refine D_end (T_one ?_)
   refine D_lit (e := 82) (sz := 1) (zs := [.slice none 0 0]) (pv := [(0, ?a6_0)]) (cs := [?a6_0]) rfl (by kernel_rfl) ⟨rfl, rfl⟩ (by kernel_rfl) rfl ?h6 ?f6 RX.mod (fun b2 w6 e2 x6 m2 => ?k6)
   case h6 => refine ⟨rfl, ?_, trivial⟩ <;> (conv => lhs; whnf)
   case f6 => simp [fillL, setAt, List.replicate, hqa.sl.cells]
   have g2 := hx.ge e2
   have a2_hS := hS.lt
   replace hS := hS.ext x6
   replace hx := hx.ext x6
   refine D_end (T_one ?_)
   have hszb := hx.size
   obtain ⟨F, hD, hFH, hback⟩ := hS.ld.disk
   refine D_callD rfl (by kernel_rfl) (save_w F bd D1 (nameS q.1.f.id) q.2 q.1.vb _ _ hD (m2.arr (enc := fun x : Value => [x]) (sz := 1) (l := [q.1.vb]) rfl (by intro x; rfl) rfl (by simp)) (hqa.mod hx (fun hl e => by have e2 : κ (base q.1.vb).1 = 1 := e; rw [hqk hl] at e2; cases e2)) hql (by omega)) rfl (.inr fun w9 h9 => h9.mono (fun i hi _ => hFH i hi)) (fun u7 w7 x7 hf7 => ?_)
   have hsz7 := hx.size
   replace hx := hx.own x7 (fun i hi hlt => (by have e1 := hFH i hi; rw [← hmv i hlt]; exact e1))
   obtain ⟨rfl, hd9⟩ := hf7
   have hS2 := hS.ledger (x7.mono (fun i hi _ => hFH i hi)) (hback _ _ x7 hd9)
   have hmv2 := fun k (hk : k < w.heap.size) => (updK_old (κ := κ1) (i := 1) (w' := w7) (Nat.lt_of_lt_of_le hk hszb)).trans (hmv k hk)
   replace hS := hS2
   refine D_end (T_one (da (D_end ?_)))
   refine T_nil (Z8 _ _ (ws fun _ Z9 => wr (dm ?_)))
   refine dp (pv_neq rfl rfl) (de Z9 (wi (fun c2 => ?_) fun c2 => ?_))
   ·
    refine ws fun _ Z10 => wr (dm (da (de Z10 (W_ret ?_))))
    refine ro ?_
    rw [hsv, saves_bad hq9 c2]
    exact ⟨_, rfl, hx, rfl, _, hmv2, hS⟩
   refine W_skip (Z6 _ _ (wr (pa rfl rfl (dm (D_end (?_))))))
   exact ⟨(k + 1, _, _), ⟨rfl, rfl, rfl, rfl, trivial⟩, ⟨hx, by omega, by rw [hsv, saves_ok hq9 (Decidable.of_not_not (by first | exact c2 | exact c3))], hmv2, hS⟩, by simp only []; omega⟩
  refine T_alt ?_ ?_
  ·
   refine D_lit (e := 82) (sz := 1) (zs := [.slice none 0 0]) (pv := [(0, ?a13_0)]) (cs := [?a13_0]) rfl (by kernel_rfl) ⟨rfl, rfl⟩ (by kernel_rfl) rfl ?h13 ?f13 RX.mod (fun b3 w8 e3 x8 m3 => ?k13)
   case h13 => refine ⟨rfl, ?_, trivial⟩ <;> (conv => lhs; whnf)
   case f13 => simp [fillL, setAt, List.replicate, hqa.sl.cells]
   have g3 := hx.ge e3
   have a3_hS := hS.lt
   replace hS := hS.ext x8
   replace hx := hx.ext x8
   refine D_end (T_one (cP (name_w q.1.f.id _ (hg.mod hx (fun k hk e => by have e2 : κ k = 1 := e; rw [hgs k hk] at e2; cases e2)) hqi (by omega)) RX.mod fun w9 x9 => ?_))
   replace hS := hS.ext x9
   replace m3 := m3.ext x9
   replace hx := hx.ext x9
   refine D_end (T_one ?_)
   have hszb := hx.size
   obtain ⟨F, hD, hFH, hback⟩ := hS.ld.disk
   refine D_callD rfl (by kernel_rfl) (save_w F bd D1 (nameS q.1.f.id) q.2 q.1.vb _ _ hD (m3.arr (enc := fun x : Value => [x]) (sz := 1) (l := [q.1.vb]) rfl (by intro x; rfl) rfl (by simp)) (hqa.mod hx (fun hl e => by have e2 : κ (base q.1.vb).1 = 1 := e; rw [hqk hl] at e2; cases e2)) hql (by omega)) rfl (.inr fun w9 h9 => h9.mono (fun i hi _ => hFH i hi)) (fun u10 w10 x10 hf10 => ?_)
   have hsz10 := hx.size
   replace hx := hx.own x10 (fun i hi hlt => (by have e1 := hFH i hi; rw [← hmv i hlt]; exact e1))
   obtain ⟨rfl, hd9⟩ := hf10
   have hS2 := hS.ledger (x10.mono (fun i hi _ => hFH i hi)) (hback _ _ x10 hd9)
   have hmv2 := fun k (hk : k < w.heap.size) => (updK_old (κ := κ1) (i := 1) (w' := w10) (Nat.lt_of_lt_of_le hk hszb)).trans (hmv k hk)
   replace hS := hS2
   refine D_end (T_one (da (D_end ?_)))
   refine T_nil (Z8 _ _ (ws fun _ Z11 => wr (dm ?_)))
   refine dp (pv_neq rfl rfl) (de Z11 (wi (fun c3 => ?_) fun c3 => ?_))
   ·
    refine ws fun _ Z12 => wr (dm (da (de Z12 (W_ret ?_))))
    refine ro ?_
    rw [hsv, saves_bad hq9 c3]
    exact ⟨_, rfl, hx, rfl, _, hmv2, hS⟩
   refine W_skip (Z6 _ _ (wr (pa rfl rfl (dm (D_end (?_))))))
   exact ⟨(k + 1, _, _), ⟨rfl, rfl, rfl, rfl, trivial⟩, ⟨hx, by omega, by rw [hsv, saves_ok hq9 (Decidable.of_not_not (by first | exact c2 | exact c3))], hmv2, hS⟩, by simp only []; omega⟩
  exact T_stop
 refine W_exit (Z2 _ _ (ws fun _ Z13 => wr (da (de Z13 (W_ret ?_)))))
 refine ro ?_
 rw [hsv, List.drop_of_length_le (by rw [List.length_map]; simp at c1; omega)]
 exact ⟨_, rfl, hx, rfl, _, hmv, hS⟩
def tabK (κ : Nat → Nat) (bt : Nat) (vl vb : Value) : Nat → Nat := fun k => if k = bt ∨ k = (base vl).1 ∨ k = (base vb).1 then 6 else κ k
theorem insAll_len (tbs : List Tb) : ∀ ts : List Tb, (tbs.foldl insT ts).length ≤ ts.length + tbs.length := by
  induction tbs with
  | nil => intro ts; exact Nat.le_refl _
  | cons t r ih =>
    intro ts
    have h1 := ih (insT ts t)
    have h2 : (insT ts t).length ≤ ts.length + 1 := by unfold insT; split <;> simp
    show ((r.foldl insT (insT ts t)).length ≤ _)
    simp only [List.length_cons]; omega
def delAll (ts : List Tb) (gone : List Fi) : List Tb := gone.foldl (fun ts f => delT ts (f.lev, f.id)) ts
theorem delAll_take {ts : List Tb} {gone : List Fi} {j : Nat} {f : Fi} (h : gone[j]? = some f) : delAll ts (gone.take (j + 1)) = delT (delAll ts (gone.take j)) (f.lev, f.id) := by unfold delAll; rw [take_at h, List.foldl_append]; rfl
section
variable {κ : Nat → Nat} {bs bd bl bo bm : Nat} {vf : Value} {L : Led} {D : Dsk} {V : Vs} {ts : List Tb} {mem : List Cell} {dead : Bool} {w w' : World}
theorem StE.addT {t : Tb} (h : StE κ bs bd bl bo bm vf L D V ts mem dead w) (hT : TblE t.bt t.vl t.vb t.cs w) (hn : ∀ k, tblF t.bt t.vl t.vb k → κ k = 0) (m : Vc.Mod (oneB bo) w w') (hm : MapL Tryz.prog 104 kvII pO w' bo (setL (ts.map Tb.kv) t.h (some t.bt))) : StE (tabK κ t.bt t.vl t.vb) bs bd bl bo bm vf L D V (insT ts t) mem dead w' := by
  have o : ∀ k, κ k ≠ 0 → tabK κ t.bt t.vl t.vb k = κ k := fun k hk => by
    unfold tabK
    rw [if_neg]
    intro e; exact hk (hn k e)
  have hr := h.relab o (fun k hk => by
    unfold tabK at hk
    split at hk
    · rename_i e; exact hT.lt k e
    · exact h.lt k hk)
  refine hr.setMap m (by rw [insT_kv]; exact hm) fun q hq => ?_
  rcases insT_mem hq with rfl | hq
  · exact ⟨hT, fun k hk => by unfold tabK; rw [if_pos hk]⟩
  · exact ⟨hr.tb q hq, hr.k6 q hq⟩
theorem StE.subT {x : Int × Int} (h : StE κ bs bd bl bo bm vf L D V ts mem dead w) (m : Vc.Mod (oneB bo) w w') (hm : MapL Tryz.prog 104 kvII pO w' bo (delL (ts.map Tb.kv) x)) : StE κ bs bd bl bo bm vf L D V (delT ts x) mem dead w' :=
  h.setMap m (by rw [delT_kv]; exact hm) fun q hq => ⟨h.tb q (List.mem_filter.1 hq).1, h.k6 q (List.mem_filter.1 hq).1⟩
end
theorem opens_w (κ : Nat → Nat) (bs bd bl bo bm : Nat) (vf : Value) (L : Led) (D : Dsk) (V : Vs) (ts : List Tb) (mem : List Cell) (dead : Bool) (V' : Vs) (vf' : Value) (qs : List (Md × List Cell)) (va : Value) (gone : List Fi) (vg : Value) (w : World) (h : StE κ bs bd bl bo bm vf L D V ts mem dead w) (hvf : Arr Fi.cs 5 w vf' V'.fs) (hvk : V'.fs ≠ [] → κ (base vf').1 = 0) (ha : Arr Md.cs 7 w va (qs.map (·.1))) (hal : qs.length ≤ 40000) (hak : qs ≠ [] → κ (base va).1 = 0) (hq : ∀ q ∈ qs, Arr encB 1 w q.1.vb (recS (tblS q.2)) ∧ buildE q.2 = 0 ∧ inI64 q.1.f.id ∧ inI64 q.1.f.lev ∧ (recS (tblS q.2) ≠ [] → κ (base q.1.vb).1 = 0) ∧ q.1.vl.oneCell' = true) (hg : Arr Fi.cs 5 w vg gone) (hgl : gone.length ≤ 40000) (hgk : gone ≠ [] → κ (base vg).1 = 0) (hgi : ∀ f ∈ gone, inI64 f.id ∧ inI64 f.lev) (htl : ts.length ≤ 1000000) :
    Calls Tryz.prog 95 [ptr bs 0, .agg ⟨[I V'.next, vf']⟩, va, vg].toArray w (Does (fun k => κ k ≠ 0) w (fun u w' => u = I 0 ∧ ∃ κ' ts', (∀ k, k < w.heap.size → (V'.fs ≠ [] → k ≠ (base vf').1) → κ' k = κ k) ∧ (∃ tbs : List Tb, tbs.map (fun t => (t.h, t.cs)) = qs.map (fun q => ((q.1.f.lev, q.1.f.id), q.2)) ∧ ts' = delAll (tbs.foldl insT ts) gone) ∧ StE κ' bs bd bl bo bm vf' L D V' ts' mem dead w')) := by
 refine cw Tryz.func95 ?_
 have hx := Vc.Mod.refl (fun k => κ k ≠ 0) w
 have hS := h
 have hmlen : (qs.map (·.1)).length = qs.length := List.length_map _
 refine ws fun _ Z1 => wr (D_box rfl rfl rfl RX.all (fun b1 w1 e1 x1 m1 => ?_))
 have g1 := hx.ge e1
 have a1_hS := hS.lt
 replace hS := hS.ext x1
 replace hx := hx.ext x1
 refine da (de Z1 (ws fun _ Z2 => ws fun _ Z3 => wr (dm ?_)))
 refine dv 161 7 (ha.mod hx (fun hl e => e (hak (by rintro rfl; exact hl rfl)))).sl (dm (de Z3 (W_block ?_)))
 refine W_loop (G := Nat × (Nat → Nat) × List Tb) (fun (k, κ1, tbs) => [(0, ptr bs 0), (3, vg), (5, ptr b1 0), (15, va), (16, I ↑(qs.map (·.1)).length), (17, I ↑k)]) (fun (k, κ1, tbs) w' => Mod (fun k => κ k ≠ 0) w w' ∧ k ≤ qs.length ∧ tbs.length = k ∧ tbs.map (fun t => (t.h, t.cs)) = (qs.take k).map (fun q => ((q.1.f.lev, q.1.f.id), q.2)) ∧ (∀ k, k < w.heap.size → κ1 k = κ k) ∧ StE κ1 bs bd bl bo bm vf L D V (tbs.foldl insT ts) mem dead w' ∧ Blk w' b1 [I V'.next, vf'] 56) (fun (k, κ1, tbs) => qs.length - k) (0, κ, []) ?_ ?_ ?_
 · exact ⟨rfl, rfl, rfl, rfl, rfl, rfl, trivial⟩
 · exact ⟨hx, Nat.zero_le _, rfl, rfl, fun _ _ => rfl, hS, m1⟩
 intro X2 g2 w2 hF2
 obtain ⟨k, κ1, tbs⟩ := g2
 clear hx hS m1
 obtain ⟨hx, hk1, htl9, htb, hmv, hS, m1⟩ := hF2
 refine ws fun _ Z4 => wr (dp (pv_lss rfl rfl) (de Z4 (ws fun _ Z5 => wi (fun c1 => ?_) fun c1 => ?_)))
 ·
  obtain ⟨q, hk⟩ : ∃ q, qs[k]? = some q := ⟨_, List.getElem?_eq_getElem (by omega)⟩
  obtain ⟨hqa, hqb, hqi, hqlv, hqk, hqo⟩ := hq q (List.mem_of_getElem? hk)
  have hkm : (qs.map (·.1))[k]? = some q.1 := by simp [hk]
  have hwsz := hx.size
  refine W_skip (Z5 _ _ (ws fun _ Z6 => W_block (ws fun _ Z7 => wr (di 161 7 ha.sl rfl (ha.lt hkm) (dq (lv_loadA (by kernel_rfl) rfl rfl ((ha.mod hx (fun hl e => e (hak (by rintro rfl; exact hl rfl)))).row hkm)) (D_alloc (cs := [.int .i64 0, .int .i64 0, .int .i64 0, S [], S [], .slice none 0 0, .slice none 0 0]) rfl (by kernel_rfl) RX.all (fun b2 w3 e2 x3 m2 => ?_)))))))
  have g2 := hx.ge e2
  have n2_1 := m1.ltb e2
  have a2_hS := hS.lt
  replace hS := hS.ext x3
  replace m1 := m1.ext x3
  replace hx := hx.ext x3
  refine stA m2 (fun w4 x4 xs4 m2 => ?_) (h1 := by (intro u hu; simp only [List.mem_cons, List.not_mem_nil, or_false] at hu; rcases hu with e | e | e | e | e | e | e <;> subst e <;> first | rfl | exact hqo | exact hqa.sl.one))
  try dsimp only [setAt, List.set, List.take, List.drop] at m2
  replace hS := hS.mod x4 (fun k9 h9 e9 => by have h2 : k9 = b2 := e9; first | (have h8 := a2_hS k9 h9; omega) | (have h8 := a3_hS k9 h9; omega) | (have h8 := a1_hS k9 h9; omega))
  try replace m1 := m1.mo x4
  replace hx := hx.o1 x4
  refine de Z7 (ws fun _ Z8 => wr (df 6 rfl (dl rfl (m2.at rfl) ?_)))
  have hlt1 := hS.lt
  refine cG (open_w q.2 q.1.vb _ (hqa.mod hx (fun hl e => e (hqk hl))) hqb) RX.all fun u5 w5 x5 hf5 => ?_
  have hsz5 := hx.size
  replace hS := hS.ext x5
  replace m1 := m1.ext x5
  replace m2 := m2.ext x5
  replace hx := hx.ext x5
  obtain ⟨bt, vl, vb9, rfl, hT, hTf⟩ := hf5
  have hno : ∀ k, tblF bt vl vb9 k → κ1 k = 0 := fun k hk => Decidable.byContradiction fun h9 => by have h1 := hTf k hk; have h2 := hlt1 k h9; omega
  refine dm ?_
  refine dx rfl rfl (dx rfl rfl (da (da (de Z8 (ws fun _ Z9 => ws fun _ Z10 => wr (dm ?_))))))
  refine dp (pv_neq rfl rfl) (de Z10 (wi (fun c2 => ?_) fun c2 => ?_))
  ·
   exact absurd rfl c2
  refine W_skip (Z9 _ _ (W_draw (R := Mod (oneB bo)) modRefl modTrans (by kernel_rfl) [3, 6, 9] [(0, .p, false), (1, .p, false), (2, .p, false), (3, .l, false), (4, .p, false), (5, .p, false), (6, .l, false), (7, .p, false), (8, .p, false), (9, .l, false), (10, .p, false), (11, .p, false), (12, .x, true)] rfl (by kernel_rfl) (by kernel_rfl) (fun w6 ew6 => ?_)))
  have x6 := drewx ew6
  clear ew6
  replace hS := hS.ext x6
  replace m1 := m1.ext x6
  replace m2 := m2.ext x6
  replace hT := hT.ext x6
  replace hx := hx.ext x6
  refine dm ?_
  refine dz rfl (df 4 rfl (dL rfl (fun _ hR => ((hS.m.mod hR (fun e => hS.mp.at.ne_blk hS.m e)).at rfl)) (df 0 rfl (df 1 rfl (dL rfl (fun _ hR => ((m2.mod hR (fun e => hS.mp.at.ne_blk m2 e)).at rfl)) (df 0 rfl (df 0 rfl (dL rfl (fun _ hR => ((m2.mod hR (fun e => hS.mp.at.ne_blk m2 e)).at rfl)) (db (zs := [.int .i64 0, .int .i64 0]) (pl := [(0, 1), (1, 1)]) (pv := [(0, _), (1, _)]) (cs := [_, _]) (dm ?_))))))))))
  refine D_updL handM (kx := (q.1.f.lev, q.1.f.id)) (a := some bt) rfl rfl rfl rfl hS.mp ⟨hqlv, hqi⟩ (by have := insAll_len tbs ts; rw [List.length_map]; unfold maxLen; omega) (.inl rfl) (fun w7 x7 xs7 hm9 => ?_)
  have hS2 := hS.addT (t := ⟨(q.1.f.lev, q.1.f.id), bt, vl, vb9, q.2⟩) hT hno x7 hm9
  clear hT
  have hm1 := m1.mod x7 (fun e => hS.mp.at.ne_blk m1 e)
  replace hx := hx.own x7 (fun i hi hlt => by have hi2 : i = bo := hi; rw [hi2, h.k2]; decide)
  replace hS := hS2
  have hmv2 : ∀ k, k < w.heap.size → tabK κ1 bt vl vb9 k = κ k := fun k hk => by
    unfold tabK
    rw [if_neg (fun e => by have := hTf k e; omega)]
    exact hmv k hk
  replace m1 := hm1
  refine de Z6 (wr (pa rfl rfl (dm (D_end (?_)))))
  exact ⟨(k + 1, _, tbs ++ [⟨(q.1.f.lev, q.1.f.id), bt, vl, vb9, q.2⟩]), ⟨rfl, rfl, rfl, rfl, rfl, rfl, trivial⟩, ⟨hx, by omega, by simp [htl9], by rw [List.map_append, htb, take_at hk, List.map_append]; rfl, hmv2, by rw [List.foldl_append]; exact hS, m1⟩, by simp only []; omega⟩
 have hkq : k = qs.length := by omega
 subst hkq
 rw [List.take_length] at htb
 refine W_exit (Z2 _ _ (ws fun _ Z11 => ws fun _ Z12 => wr (dm ?_)))
 refine dv 62 5 (hg.mod hx (fun hl e => e (hgk hl))).sl (dm (de Z12 (W_block ?_)))
 refine W_loop (G := Nat) (fun j => [(0, ptr bs 0), (5, ptr b1 0), (45, vg), (46, I ↑gone.length), (47, I ↑j)]) (fun j w' => Mod (fun k => κ k ≠ 0) w w' ∧ j ≤ gone.length ∧ StE κ1 bs bd bl bo bm vf L D V (delAll (tbs.foldl insT ts) (gone.take j)) mem dead w' ∧ Blk w' b1 [I V'.next, vf'] 56) (fun j => gone.length - j) 0 ?_ ?_ ?_
 · exact ⟨rfl, rfl, rfl, rfl, rfl, trivial⟩
 · exact ⟨hx, Nat.zero_le _, hS, m1⟩
 intro X8 g8 w8 hF8
 revert hF8; revert g8; intro j hF8
 clear hx hS m1
 obtain ⟨hx, hj1, hS, m1⟩ := hF8
 refine ws fun _ Z13 => wr (dp (pv_lss rfl rfl) (de Z13 (ws fun _ Z14 => wi (fun c3 => ?_) fun c3 => ?_)))
 ·
  obtain ⟨f, hk⟩ : ∃ f, gone[j]? = some f := ⟨_, List.getElem?_eq_getElem (by omega)⟩
  obtain ⟨hfi9, hfl9⟩ := hgi f (List.mem_of_getElem? hk)
  refine W_skip (Z14 _ _ (ws fun _ Z15 => W_block (ws fun _ Z16 => wr (di 62 5 hg.sl rfl (hg.lt hk) (dq (lv_loadA (by kernel_rfl) rfl rfl ((hg.mod hx (fun hl e => e (hgk hl))).row hk)) (D_alloc (cs := [.int .i64 0, .int .i64 0, .int .i64 0, S [], S []]) rfl (by kernel_rfl) RX.all (fun b3 w9 e3 x9 m3 => ?_)))))))
  have g3 := hx.ge e3
  have n3_1 := m1.ltb e3
  have a3_hS := hS.lt
  replace hS := hS.ext x9
  replace m1 := m1.ext x9
  replace hx := hx.ext x9
  refine stA m3 (fun w10 x10 xs10 m3 => ?_)
  try dsimp only [setAt, List.set, List.take, List.drop] at m3
  replace hS := hS.mod x10 (fun k9 h9 e9 => by have h2 : k9 = b3 := e9; first | (have h8 := a2_hS k9 h9; omega) | (have h8 := a3_hS k9 h9; omega) | (have h8 := a1_hS k9 h9; omega))
  try replace m1 := m1.mo x10
  replace hx := hx.o1 x10
  refine de Z16 (W_draw (R := Mod (oneB bo)) modRefl modTrans (by kernel_rfl) [3, 5, 7] [(0, .p, false), (1, .p, false), (2, .p, false), (3, .l, false), (4, .p, false), (5, .l, false), (6, .p, false), (7, .l, false), (8, .p, false), (9, .x, false)] rfl (by kernel_rfl) (by kernel_rfl) (fun w11 ew11 => ?_))
  have x11 := drewx ew11
  clear ew11
  replace hS := hS.ext x11
  replace m1 := m1.ext x11
  replace m3 := m3.ext x11
  replace hx := hx.ext x11
  refine dm ?_
  refine dz rfl (df 4 rfl (dL rfl (fun _ hR => ((hS.m.mod hR (fun e => hS.mp.at.ne_blk hS.m e)).at rfl)) (df 1 rfl (dL rfl (fun _ hR => ((m3.mod hR (fun e => hS.mp.at.ne_blk m3 e)).at rfl)) (df 0 rfl (dL rfl (fun _ hR => ((m3.mod hR (fun e => hS.mp.at.ne_blk m3 e)).at rfl)) (db (zs := [.int .i64 0, .int .i64 0]) (pl := [(0, 1), (1, 1)]) (pv := [(0, _), (1, _)]) (cs := [_, _]) ?_)))))))
  refine D_delL handM (kx := (f.lev, f.id)) rfl rfl rfl hS.mp ⟨hfl9, hfi9⟩ (.inr fun _ h => h) (fun w12 x12 xs12 hm9 => ?_)
  have hS2 := hS.subT x12 hm9
  have hm1 := m1.mod x12 (fun e => hS.mp.at.ne_blk m1 e)
  replace hx := hx.own x12 (fun i hi hlt => by have hi2 : i = bo := hi; rw [hi2, h.k2]; decide)
  replace hS := hS2
  replace m1 := hm1
  refine de Z15 (wr (pa rfl rfl (dm (D_end (?_)))))
  rw [← delAll_take hk] at hS
  exact ⟨j + 1, ⟨rfl, rfl, rfl, rfl, rfl, trivial⟩, ⟨hx, by omega, hS, m1⟩, by omega⟩
 refine W_exit (Z11 _ _ (ws fun _ Z17 => wr (dm ?_)))
 refine dq (lv_loadA (k := 2) (by kernel_rfl) rfl rfl m1.row) (dz rfl (df 2 rfl (D_store (v := .agg ⟨[I V'.next, vf']⟩) (vs := [I V'.next, vf']) rfl rfl rfl rfl (by kernel_rfl) hS.m (Nat.le_of_ble_eq_true rfl) (by intro u hu; rcases List.mem_cons.1 hu with e | hu; subst e; rfl; rw [List.mem_singleton.1 hu]; exact hvf.sl.one) (.inl rfl) (fun w13 x13 xs13 hm9 => ?_))))
 have hS2 := hS.setV (V' := V') (vf' := vf') x13 hm9 (hvf.mod hx (fun hl e => e (hvk hl))) (fun hl => (hmv _ (hvf.base_lt (by decide) hl)).trans (hvk hl))
 replace hx := hx.own x13 (fun i hi hlt => by have hi2 : i = bs := hi; rw [hi2, h.k0]; decide)
 replace hS := hS2
 refine de Z17 (ws fun _ Z18 => wr (da (de Z18 (W_ret ?_))))
 refine ro ?_
 rw [List.take_of_length_le (by omega)] at hS
 refine ⟨_, rfl, hx, rfl, _, _, ?_, ⟨tbs, htb, rfl⟩, hS⟩
 intro k hk hkn
 split
 · exact hmv k hk
 · rename_i h9; unfold setK; rw [if_neg (hkn h9)]; exact hmv k hk
end Go.Proofs.YtiooodckiddpmaaGreatDoor
