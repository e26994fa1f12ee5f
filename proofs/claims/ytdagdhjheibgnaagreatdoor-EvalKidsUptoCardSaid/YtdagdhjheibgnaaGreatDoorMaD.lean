/-
  Walks.
-/
import Derived.Test.YtdagdhjheibgnaaGreatDoorChecked
import Derived.Test.YtdagdhjheibgnaaGreatDoorSpMem
import Derived.KernelRfl
import Derived.Test.YtdagdhjheibgnaaGreatDoorMaB
import Derived.Test.YtdagdhjheibgnaaGreatDoorSpMc
namespace Go.Proofs.YtdagdhjheibgnaaGreatDoor
open Go.Vc Go.Sp
attribute [local irreducible] W XW Dw DwT
set_option linter.unusedVariables false
set_option linter.unusedSimpArgs false

theorem fits_eq {s a b : Str} {l : List Str} (ha : l[0]? = some a) (hb : l[l.length - 1]? = some b) : fitsM s l = if s.length < a.length + b.length ∨ s.take a.length ≠ a ∨ s.drop (s.length - b.length) ≠ b then false else (greedy ((s.take (s.length - b.length)).drop a.length) ((l.take (l.length - 1)).drop 1)).isSome := by
  have h1 : l.headD [] = a := by rw [List.headD_eq_head?_getD, List.head?_eq_getElem?, ha]; rfl
  have h2 : l.getLastD [] = b := by rw [List.getLastD_eq_getLast?, List.getLast?_eq_getElem?, hb]; rfl
  unfold fitsM
  rw [h1, h2]
theorem norm_syn {syn : Int} {val s : Str} (h : normM syn val = some s) : syn = 1 ∨ syn = 2 ∨ syn = 3 ∨ syn = 4 ∨ syn = 5 := by
  unfold normM at h
  split at h
  · cases h
  · by_cases h1 : syn = 1
    · exact .inl h1
    · by_cases h2 : syn = 2
      · exact .inr (.inl h2)
      · by_cases h3 : syn = 3
        · exact .inr (.inr (.inl h3))
        · by_cases h4 : syn = 4
          · exact .inr (.inr (.inr (.inl h4)))
          · by_cases h5 : syn = 5
            · exact .inr (.inr (.inr (.inr h5)))
            · rw [if_neg h1, if_neg h2, if_neg h3, if_neg h4, if_neg h5] at h; cases h
theorem subM_other {syn : Int} {val : Str} {l : List Str} (h1 : syn ≠ 1) (h5 : syn ≠ 5) (h4 : syn ≠ 4) : subM syn val l = (false, false) := by
  refine subM_no ?_
  cases hn : normM syn val with
  | none => exact .inl rfl
  | some s =>
    rcases norm_syn hn with h | h | h | h | h
    · exact absurd h h1
    · exact .inr (.inl h)
    · exact .inr (.inr (.inl h))
    · exact absurd h h4
    · exact absurd h h5
theorem piece_take {syn : Int} {l : List Str} {k : Nat} {p : Str} (h : l[k]? = some p) : (l.take (k + 1)).map (pieceM syn) = (l.take k).map (pieceM syn) ++ [pieceM syn p] := by
  rw [take_snocS h, List.map_append]; rfl

set_option maxRecDepth 100000 in
set_option maxHeartbeats 1000000 in
theorem rpiece_w (syn : Int) (s : Str) (w : World) (hs : s.length ≤ 1000000) :
  Calls Tryz.prog 90 [I syn, S s].toArray w (Pure w (S (pieceM syn s))) := by
 refine calls_W Tryz.func90 rfl rfl rfl (by kernel_rfl) ?_
 have hx := Ext.refl w
 have hfl := foldS_len s
 refine W_seq fun K1 hK1 => ?_
 refine wr ?_
 refine da ?_
 refine D_end (hK1 _ _ ?_)
 refine W_seq fun K2 hK2 => ?_
 refine W_seq fun K3 hK3 => ?_
 refine wr ?_
 refine dm ?_
 refine D_end (hK3 _ _ ?_)
 refine W_block ?_
 refine W_seq fun K4 hK4 => ?_
 refine wr ?_
 refine dp (pv_eql rfl rfl) ?_
 refine da ?_
 refine D_end (hK4 _ _ ?_)
 refine W_if rfl (fun c1 => ?_) (fun c1 => ?_)
 ·
  refine W_seq fun K5 hK5 => ?_
  refine wr ?_
  refine dm ?_
  refine D_callP rfl (by kernel_rfl) (bare_w s _ hs) rfl RX.all (fun w1 x1 => ?_)
  replace hx := hx.trans x1
  refine da ?_
  refine D_end (hK5 _ _ ?_)
  refine W_ret ?_
  try dsimp only [then', inBlk, noGo]
  refine ro ?_
  refine ⟨?_, hx⟩
  first
  | rw [c1, piece_5]
  | rw [c2, piece_4]
  | rw [c3, piece_nil c1 c2]
  | rw [piece_blank c1 c2 c3 c4]
  | (rw [piece_go c1 c2 c3 c4 ha hb]; simp [*])
 ·
  refine W_seq fun K6 hK6 => ?_
  refine wr ?_
  refine dp (pv_eql rfl rfl) ?_
  refine da ?_
  refine D_end (hK6 _ _ ?_)
  refine W_if rfl (fun c2 => ?_) (fun c2 => ?_)
  ·
   refine W_seq fun K7 hK7 => ?_
   refine wr ?_
   refine dm ?_
   refine da ?_
   refine D_end (hK7 _ _ ?_)
   refine W_ret ?_
   try dsimp only [then', inBlk, noGo]
   refine ro ?_
   refine ⟨?_, hx⟩
   first
   | rw [c1, piece_5]
   | rw [c2, piece_4]
   | rw [c3, piece_nil c1 c2]
   | rw [piece_blank c1 c2 c3 c4]
   | (rw [piece_go c1 c2 c3 c4 ha hb]; simp [*])
  ·
   refine W_skip ?_
   refine hK2 _ _ ?_
   refine W_seq fun K8 hK8 => ?_
   refine wr ?_
   refine dm ?_
   refine D_callP rfl (by kernel_rfl) (rfold_w s _ hs) rfl RX.all (fun w2 x2 => ?_)
   replace hx := hx.trans x2
   refine da ?_
   refine D_end (hK8 _ _ ?_)
   refine W_seq fun K9 hK9 => ?_
   refine W_seq fun K10 hK10 => ?_
   refine wr ?_
   refine dm ?_
   refine dp (pv_seq rfl rfl) ?_
   refine D_end (hK10 _ _ ?_)
   refine W_if rfl (fun c3 => ?_) (fun c3 => ?_)
   ·
    refine W_seq fun K11 hK11 => ?_
    refine wr ?_
    refine da ?_
    refine D_end (hK11 _ _ ?_)
    refine W_ret ?_
    try dsimp only [then', inBlk, noGo]
    refine ro ?_
    refine ⟨?_, hx⟩
    first
    | rw [c1, piece_5]
    | rw [c2, piece_4]
    | rw [c3, piece_nil c1 c2]
    | rw [piece_blank c1 c2 c3 c4]
    | (rw [piece_go c1 c2 c3 c4 ha hb]; simp [*])
   ·
    refine W_skip ?_
    refine hK9 _ _ ?_
    refine W_seq fun K12 hK12 => ?_
    refine W_seq fun K13 hK13 => ?_
    refine wr ?_
    refine dm ?_
    refine dp (pv_seq rfl rfl) ?_
    refine D_end (hK13 _ _ ?_)
    refine W_if rfl (fun c4 => ?_) (fun c4 => ?_)
    ·
     refine W_seq fun K14 hK14 => ?_
     refine wr ?_
     refine da ?_
     refine D_end (hK14 _ _ ?_)
     refine W_ret ?_
     try dsimp only [then', inBlk, noGo]
     refine ro ?_
     refine ⟨?_, hx⟩
     first
     | rw [c1, piece_5]
     | rw [c2, piece_4]
     | rw [c3, piece_nil c1 c2]
     | rw [piece_blank c1 c2 c3 c4]
     | (rw [piece_go c1 c2 c3 c4 ha hb]; simp [*])
    ·
     obtain ⟨a, ha⟩ : ∃ a, s[0]? = some a := ⟨_, List.getElem?_eq_getElem (List.length_pos_iff.2 c3)⟩
     have hsl := (List.getElem?_eq_some_iff.1 ha).1
     obtain ⟨b, hb⟩ : ∃ b, s[s.length - 1]? = some b := ⟨_, List.getElem?_eq_getElem (by omega)⟩
     refine W_skip ?_
     refine hK12 _ _ ?_
     refine W_seq fun K15 hK15 => ?_
     refine W_seq fun K16 hK16 => ?_
     refine wr ?_
     refine dm ?_
     refine dp (pv_idxS (by kernel_rfl) rfl rfl (i := 0) ha) ?_
     refine dp (pv_eqlB (b := 32) rfl rfl) ?_
     refine D_end (hK16 _ _ ?_)
     refine W_if rfl (fun c5 => ?_) (fun c5 => ?_)
     ·
      refine wr ?_
      refine dm ?_
      refine dp (pv_scat rfl rfl (by first | (simp; done) | (simp; omega) | omega)) ?_
      refine da ?_
      refine D_end (hK15 _ _ ?_)
      refine W_seq fun K17 hK17 => ?_
      refine W_seq fun K18 hK18 => ?_
      refine wr ?_
      iterate 2 refine dm ?_
      refine dp (pv_lenS (by kernel_rfl) rfl) ?_
      refine D_pe (v := I ↑(s.length - 1)) rfl (pv_sub rfl rfl (by unfold inI64; omega)) (by show I _ = I _; congr 1; omega) ?_
      refine dp (pv_idxS (by kernel_rfl) rfl rfl hb) ?_
      refine dp (pv_eqlB (b := 32) rfl rfl) ?_
      refine D_end (hK18 _ _ ?_)
      refine W_if rfl (fun c6 => ?_) (fun c6 => ?_)
      ·
       refine wr ?_
       refine dm ?_
       refine dp (pv_scat rfl rfl (by first | (simp; done) | (simp; omega) | omega)) ?_
       refine da ?_
       refine D_end (hK17 _ _ ?_)
       refine W_seq fun K19 hK19 => ?_
       refine wr ?_
       refine dm ?_
       refine da ?_
       refine D_end (hK19 _ _ ?_)
       refine W_ret ?_
       try dsimp only [then', inBlk, noGo]
       refine ro ?_
       refine ⟨?_, hx⟩
       first
       | rw [c1, piece_5]
       | rw [c2, piece_4]
       | rw [c3, piece_nil c1 c2]
       | rw [piece_blank c1 c2 c3 c4]
       | (rw [piece_go c1 c2 c3 c4 ha hb]; simp [*])
      ·
       refine W_skip ?_
       refine hK17 _ _ ?_
       refine W_seq fun K20 hK20 => ?_
       refine wr ?_
       refine dm ?_
       refine da ?_
       refine D_end (hK20 _ _ ?_)
       refine W_ret ?_
       try dsimp only [then', inBlk, noGo]
       refine ro ?_
       refine ⟨?_, hx⟩
       first
       | rw [c1, piece_5]
       | rw [c2, piece_4]
       | rw [c3, piece_nil c1 c2]
       | rw [piece_blank c1 c2 c3 c4]
       | (rw [piece_go c1 c2 c3 c4 ha hb]; simp [*])
     ·
      refine W_skip ?_
      refine hK15 _ _ ?_
      refine W_seq fun K21 hK21 => ?_
      refine W_seq fun K22 hK22 => ?_
      refine wr ?_
      iterate 2 refine dm ?_
      refine dp (pv_lenS (by kernel_rfl) rfl) ?_
      refine D_pe (v := I ↑(s.length - 1)) rfl (pv_sub rfl rfl (by unfold inI64; omega)) (by show I _ = I _; congr 1; omega) ?_
      refine dp (pv_idxS (by kernel_rfl) rfl rfl hb) ?_
      refine dp (pv_eqlB (b := 32) rfl rfl) ?_
      refine D_end (hK22 _ _ ?_)
      refine W_if rfl (fun c7 => ?_) (fun c7 => ?_)
      ·
       refine wr ?_
       refine dm ?_
       refine dp (pv_scat rfl rfl (by first | (simp; done) | (simp; omega) | omega)) ?_
       refine da ?_
       refine D_end (hK21 _ _ ?_)
       refine W_seq fun K23 hK23 => ?_
       refine wr ?_
       refine dm ?_
       refine da ?_
       refine D_end (hK23 _ _ ?_)
       refine W_ret ?_
       try dsimp only [then', inBlk, noGo]
       refine ro ?_
       refine ⟨?_, hx⟩
       first
       | rw [c1, piece_5]
       | rw [c2, piece_4]
       | rw [c3, piece_nil c1 c2]
       | rw [piece_blank c1 c2 c3 c4]
       | (rw [piece_go c1 c2 c3 c4 ha hb]; simp [*])
      ·
       refine W_skip ?_
       refine hK21 _ _ ?_
       refine W_seq fun K24 hK24 => ?_
       refine wr ?_
       refine dm ?_
       refine da ?_
       refine D_end (hK24 _ _ ?_)
       refine W_ret ?_
       try dsimp only [then', inBlk, noGo]
       refine ro ?_
       refine ⟨?_, hx⟩
       first
       | rw [c1, piece_5]
       | rw [c2, piece_4]
       | rw [c3, piece_nil c1 c2]
       | rw [piece_blank c1 c2 c3 c4]
       | (rw [piece_go c1 c2 c3 c4 ha hb]; simp [*])

set_option maxRecDepth 100000 in
set_option maxHeartbeats 1000000 in
theorem find_w (s p : Str) (k : Nat) (w : World) (hs : s.length ≤ 1000000) (hp : p.length ≤ 2000000) (hk : k ≤ s.length) :
  Calls Tryz.prog 123 [S s, S p, I ↑k].toArray w (Pure w (I (findI s p k))) := by
 refine calls_W Tryz.func123 rfl rfl rfl (by kernel_rfl) ?_
 have hx := Ext.refl w
 refine W_seq fun K1 hK1 => ?_
 refine wr ?_
 refine da ?_
 refine D_end (hK1 _ _ ?_)
 refine W_seq fun K2 hK2 => ?_
 refine W_seq fun K3 hK3 => ?_
 refine wr ?_
 refine dm ?_
 refine da ?_
 refine D_end (hK3 _ _ ?_)
 refine W_block ?_
 refine W_loop (G := Nat) (fun i => [(0, S s), (1, S p), (7, I ↑i)]) (fun i w' => Ext w w' ∧ i ≤ s.length ∧ findI s p i = findI s p k) (fun i => s.length + 1 - i) k ?_ ?_ ?_
 ·
  exact ⟨rfl, rfl, rfl, trivial⟩
 ·
  exact ⟨hx, hk, rfl⟩
 ·
  intro X1 g1 w1 hF1
  revert hF1; revert g1; intro i hF1
  clear hx
  obtain ⟨hx, hi, hf⟩ := hF1
  refine W_seq fun K4 hK4 => ?_
  refine W_seq fun K5 hK5 => ?_
  refine wr ?_
  iterate 2 refine dm ?_
  refine dp (pv_lenS (by kernel_rfl) rfl) ?_
  refine dp (pv_add rfl rfl (by unfold inI64; omega)) ?_
  refine dm ?_
  refine dp (pv_lenS (by kernel_rfl) rfl) ?_
  refine dp (pv_leq rfl rfl) ?_
  refine D_end (hK5 _ _ ?_)
  refine W_if rfl (fun c1 => ?_) (fun c1 => ?_)
  ·
   refine W_skip ?_
   refine hK4 _ _ ?_
   refine W_seq fun K6 hK6 => ?_
   refine W_block ?_
   refine W_seq fun K7 hK7 => ?_
   refine wr ?_
   iterate 4 refine dm ?_
   refine dp (pv_lenS (by kernel_rfl) rfl) ?_
   refine D_pe (v := I ↑(i + p.length)) rfl (pv_add rfl rfl (by unfold inI64; omega)) (by show I _ = I _; congr 1) ?_
   refine dpw (pv_slS (by kernel_rfl) rfl rfl rfl (by omega) (by omega)) ?_
   refine dm ?_
   refine dp (pv_seq rfl rfl) ?_
   refine D_end (hK7 _ _ ?_)
   refine W_if rfl (fun c2 => ?_) (fun c2 => ?_)
   ·
    refine W_seq fun K8 hK8 => ?_
    refine wr ?_
    refine dm ?_
    refine da ?_
    refine D_end (hK8 _ _ ?_)
    refine W_ret ?_
    try dsimp only [then', inBlk, noGo]
    refine ro ?_
    refine ⟨?_, hx⟩
    rw [← hf, find_here c2 (by omega)]
   ·
    obtain ⟨hfn, hilt⟩ := find_next c2 (by omega)
    refine W_skip ?_
    refine hK6 _ _ ?_
    refine wr ?_
    refine dm ?_
    refine dp (pv_add rfl rfl (by unfold inI64; omega)) ?_
    refine da ?_
    refine D_end (?_)
    refine ⟨i + 1, ⟨rfl, rfl, rfl, trivial⟩, ⟨hx, by omega, by rw [← hf, hfn]⟩, by omega⟩
  ·
   refine W_exit ?_
   refine hK2 _ _ ?_
   refine W_seq fun K9 hK9 => ?_
   refine wr ?_
   refine da ?_
   refine D_end (hK9 _ _ ?_)
   refine W_ret ?_
   try dsimp only [then', inBlk, noGo]
   refine ro ?_
   refine ⟨?_, hx⟩
   rw [← hf, find_none (by omega) hi]

set_option maxRecDepth 100000 in
set_option maxHeartbeats 1000000 in
theorem fits_w (s : Str) (l : List Str) (v : Value) (w : World) (hv : Arr sEnc 1 w v l) (hs : s.length ≤ 1000000) (h2 : 2 ≤ l.length) (h16 : l.length ≤ 16) (hb0 : ∀ p ∈ l, p.length ≤ 1000000) :
  Calls Tryz.prog 91 [S s, v].toArray w (Pure w (B (fitsM s l))) := by
 refine calls_W Tryz.func91 rfl rfl rfl (by kernel_rfl) ?_
 have hx := Ext.refl w
 obtain ⟨a, ha⟩ : ∃ a, l[0]? = some a := ⟨_, List.getElem?_eq_getElem (by omega)⟩
 obtain ⟨b, hb⟩ : ∃ b, l[l.length - 1]? = some b := ⟨_, List.getElem?_eq_getElem (by omega)⟩
 have hal := hb0 a (List.mem_of_getElem? ha)
 have hbl := hb0 b (List.mem_of_getElem? hb)
 have hfe := fits_eq (s := s) ha hb
 refine W_seq fun K1 hK1 => ?_
 refine wr ?_
 refine da ?_
 refine D_end (hK1 _ _ ?_)
 refine W_seq fun K2 hK2 => ?_
 refine wr ?_
 refine dm ?_
 refine dp (pv_lenV (e := 9) (k := 1) (by kernel_rfl) hv.sl rfl) ?_
 refine da ?_
 refine D_end (hK2 _ _ ?_)
 refine W_seq fun K3 hK3 => ?_
 refine W_draw (R := Ext) Ext.refl (fun _ _ _ => Ext.trans) (by kernel_rfl) [2, 7] [(0, .p, false), (1, .p, false), (2, .l, false), (3, .p, false), (4, .p, false), (5, .p, false), (6, .p, false), (7, .l, false), (8, .p, false), (9, .p, false)] rfl (by kernel_rfl) (by kernel_rfl) (fun w1 ew1 => ?_)
 have x1 : Ext w w1 := by rw [ew1]; exact Ext.drew _
 clear ew1
 replace hx := hx.trans x1
 refine dm ?_
 refine dp (pv_idxA (i := 0) (e := 9) (k := 1) (by kernel_rfl) hv.sl rfl rfl (hv.lt ha)) ?_
 refine D_l rfl (fun w' hR => lv_load (by kernel_rfl) rfl (((hv.ext (hx.trans hR)).row ha).at0 rfl)) ?_
 iterate 2 refine dm ?_
 refine D_pe (v := I ↑(l.length - 1)) rfl (pv_sub rfl rfl (by unfold inI64; omega)) (by show I _ = I _; congr 1; omega) ?_
 refine dp (pv_idxA (e := 9) (k := 1) (by kernel_rfl) hv.sl rfl rfl (hv.lt hb)) ?_
 refine D_l rfl (fun w' hR => lv_load (by kernel_rfl) rfl (((hv.ext (hx.trans hR)).row hb).at0 rfl)) ?_
 iterate 2 refine da ?_
 refine D_end (hK3 _ _ ?_)
 refine W_seq fun K4 hK4 => ?_
 refine W_seq fun K5 hK5 => ?_
 refine wr ?_
 refine dm ?_
 refine dp (pv_lenS (by kernel_rfl) rfl) ?_
 refine dm ?_
 refine dp (pv_lenS (by kernel_rfl) rfl) ?_
 refine dm ?_
 refine dp (pv_lenS (by kernel_rfl) rfl) ?_
 refine dp (pv_add rfl rfl (by unfold inI64; omega)) ?_
 refine dp (pv_lss rfl rfl) ?_
 refine dm ?_
 refine D_splitP 29 rfl (fun c1 => ?_) (fun c1 => ?_)
 ·
  iterate 6 refine dk ?_
  refine dk' ?_
  refine dm ?_
  iterate 9 refine dk ?_
  refine dk' ?_
  refine D_end (hK5 _ _ ?_)
  refine W_t rfl ?_
  refine W_seq fun K6 hK6 => ?_
  refine wr ?_
  refine da ?_
  refine D_end (hK6 _ _ ?_)
  refine W_ret ?_
  try dsimp only [then', inBlk, noGo]
  refine ro ?_
  refine ⟨?_, hx⟩
  rw [hfe, if_pos (.inl (by omega))]
 ·
  iterate 2 refine dm ?_
  refine dp (pv_lenS (by kernel_rfl) rfl) ?_
  refine dpw (pv_slS (by kernel_rfl) rfl rfl rfl (Nat.zero_le _) (by omega)) ?_
  refine dm ?_
  refine dp (pv_sne rfl rfl) ?_
  refine dk' ?_
  refine dm ?_
  refine D_splitP 37 rfl (fun c2 => ?_) (fun c2 => ?_)
  ·
   iterate 9 refine dk ?_
   refine dk' ?_
   refine D_end (hK5 _ _ ?_)
   refine W_t rfl ?_
   refine W_seq fun K7 hK7 => ?_
   refine wr ?_
   refine da ?_
   refine D_end (hK7 _ _ ?_)
   refine W_ret ?_
   try dsimp only [then', inBlk, noGo]
   refine ro ?_
   refine ⟨?_, hx⟩
   rw [hfe, if_pos (.inr (.inl (by rw [List.drop_zero] at c2; exact c2)))]
  ·
   iterate 2 refine dm ?_
   refine dp (pv_lenS (by kernel_rfl) rfl) ?_
   refine dm ?_
   refine dp (pv_lenS (by kernel_rfl) rfl) ?_
   refine D_pe (v := I ↑(s.length - b.length)) rfl (pv_sub rfl rfl (by unfold inI64; omega)) (by show I _ = I _; congr 1; omega) ?_
   refine dpw (pv_slS (by kernel_rfl) rfl rfl rfl (by omega) (by omega)) ?_
   refine dm ?_
   refine dp (pv_sne rfl rfl) ?_
   refine dk' ?_
   refine D_end (hK5 _ _ ?_)
   refine W_if rfl (fun c3 => ?_) (fun c3 => ?_)
   ·
    refine W_seq fun K8 hK8 => ?_
    refine wr ?_
    refine da ?_
    refine D_end (hK8 _ _ ?_)
    refine W_ret ?_
    try dsimp only [then', inBlk, noGo]
    refine ro ?_
    refine ⟨?_, hx⟩
    rw [hfe, if_pos (.inr (.inr (by rw [List.take_length] at c3; exact c3)))]
   ·
    refine W_skip ?_
    refine hK4 _ _ ?_
    refine W_cut (G := Str) (fun t => [(0, S t), (1, v), (4, .bool false), (5, I ↑l.length)]) (fun t w' => Ext w w' ∧ t = ((s.take (s.length - b.length)).drop a.length) ∧ fitsM s l = (greedy t ((l.take (l.length - 1)).drop 1)).isSome ∧ t.length ≤ 1000000) ?_ ?_
    ·
     refine wr ?_
     iterate 2 refine dm ?_
     refine dp (pv_lenS (by kernel_rfl) rfl) ?_
     refine dm ?_
     refine dp (pv_lenS (by kernel_rfl) rfl) ?_
     refine dm ?_
     refine dp (pv_lenS (by kernel_rfl) rfl) ?_
     refine D_pe (v := I ↑(s.length - b.length)) rfl (pv_sub rfl rfl (by unfold inI64; omega)) (by show I _ = I _; congr 1; omega) ?_
     refine dpw (pv_slS (by kernel_rfl) rfl rfl rfl (by omega) (by omega)) ?_
     refine da ?_
     refine D_end (?_)
     refine ⟨_, ⟨rfl, rfl, rfl, rfl, trivial⟩, hx, rfl, ?_, by rw [List.length_drop, List.length_take]; omega⟩
     rw [hfe, if_neg (by rintro (h | h | h); omega; exact c2 (by rw [List.drop_zero]; exact h); exact c3 (by rw [List.take_length]; exact h))]
    ·
     intro X2 g2 w2 hF2
     revert hF2; revert g2; intro t hF2
     clear hx
     obtain ⟨hx, ht, hft, htl⟩ := hF2
     refine W_seq fun K9 hK9 => ?_
     refine wr ?_
     refine da ?_
     refine D_end (hK9 _ _ ?_)
     refine W_seq fun K10 hK10 => ?_
     refine W_seq fun K11 hK11 => ?_
     refine wr ?_
     refine da ?_
     refine D_end (hK11 _ _ ?_)
     refine W_block ?_
     refine W_loop (G := Nat × Nat) (fun (k, i) => [(0, S t), (1, v), (5, I ↑l.length), (8, I ↑k), (9, I ↑i)]) (fun (k, i) w' => Ext w w' ∧ 1 ≤ i ∧ i ≤ l.length ∧ k ≤ t.length ∧ (greedy (t.drop k) ((l.take (l.length - 1)).drop i)).isSome = fitsM s l) (fun (k, i) => l.length - i) (0, 1) ?_ ?_ ?_
     ·
      exact ⟨rfl, rfl, rfl, rfl, rfl, trivial⟩
     ·
      exact ⟨hx, Nat.le_refl _, by omega, Nat.zero_le _, by rw [hft]; rfl⟩
     ·
      intro X3 g3 w3 hF3
      obtain ⟨k, i⟩ := g3
      clear hx
      obtain ⟨hx, hi1, hi2, hkt, hgr⟩ := hF3
      refine W_seq fun K12 hK12 => ?_
      refine W_seq fun K13 hK13 => ?_
      refine wr ?_
      refine dm ?_
      refine dp (pv_add rfl rfl (by unfold inI64; omega)) ?_
      refine dm ?_
      refine dp (pv_lss rfl rfl) ?_
      refine D_end (hK13 _ _ ?_)
      refine W_if rfl (fun c4 => ?_) (fun c4 => ?_)
      ·
       obtain ⟨p, hk⟩ : ∃ p, l[i]? = some p := ⟨_, List.getElem?_eq_getElem (by omega)⟩
       have hpl := hb0 p (List.mem_of_getElem? hk)
       have hmi : (l.take (l.length - 1))[i]? = some p := by rw [List.getElem?_take, if_pos (by omega)]; exact hk
       have hmd := drop_consS hmi
       refine W_skip ?_
       refine hK12 _ _ ?_
       refine W_seq fun K14 hK14 => ?_
       refine W_block ?_
       refine W_seq fun K15 hK15 => ?_
       refine wr ?_
       iterate 3 refine dm ?_
       refine dp (pv_idxA (e := 9) (k := 1) (by kernel_rfl) hv.sl rfl rfl (hv.lt hk)) ?_
       refine dq (lv_load (by kernel_rfl) rfl (((hv.ext hx).row hk).at0 rfl)) ?_
       refine dm ?_
       refine D_callP rfl (by kernel_rfl) (find_w t p k _ htl (by omega) hkt) rfl RX.all (fun w4 x4 => ?_)
       replace hx := hx.trans x4
       refine da ?_
       refine D_end (hK15 _ _ ?_)
       refine W_seq fun K16 hK16 => ?_
       refine W_seq fun K17 hK17 => ?_
       refine wr ?_
       refine dm ?_
       refine dp (pv_lss rfl rfl) ?_
       refine D_end (hK17 _ _ ?_)
       refine W_if rfl (fun c5 => ?_) (fun c5 => ?_)
       ·
        refine W_seq fun K18 hK18 => ?_
        refine wr ?_
        refine da ?_
        refine D_end (hK18 _ _ ?_)
        refine W_ret ?_
        try dsimp only [then', inBlk, noGo]
        refine ro ?_
        refine ⟨?_, hx⟩
        rw [← hgr, hmd, greedy_stop (find_lt c5)]; rfl
       ·
        obtain ⟨h0, hge, hle⟩ := find_ge c5 hkt
        refine W_skip ?_
        refine hK16 _ _ ?_
        refine wr ?_
        iterate 3 refine dm ?_
        refine dp (pv_idxA (e := 9) (k := 1) (by kernel_rfl) hv.sl rfl rfl (hv.lt hk)) ?_
        refine dq (lv_load (by kernel_rfl) rfl (((hv.ext hx).row hk).at0 rfl)) ?_
        refine dp (pv_lenS (by kernel_rfl) rfl) ?_
        refine D_pe (v := I ↑(k + (Lib.index (t.drop k) p).toNat + p.length)) rfl (pv_add rfl rfl (by rw [hge]; unfold inI64; omega)) (by show I _ = I _; congr 1; rw [hge]; omega) ?_
        refine da ?_
        refine D_end (hK14 _ _ ?_)
        refine wr ?_
        refine dm ?_
        refine dp (pv_add rfl rfl (by unfold inI64; omega)) ?_
        refine da ?_
        refine D_end (?_)
        rw [hmd, greedy_step h0] at hgr
        refine ⟨(k + (Lib.index (t.drop k) p).toNat + p.length, i + 1), ⟨rfl, rfl, rfl, rfl, rfl, trivial⟩, ⟨hx, by omega, by omega, hle, hgr⟩, by simp only []; omega⟩
      ·
       refine W_exit ?_
       refine hK10 _ _ ?_
       refine W_seq fun K19 hK19 => ?_
       refine wr ?_
       refine da ?_
       refine D_end (hK19 _ _ ?_)
       refine W_ret ?_
       try dsimp only [then', inBlk, noGo]
       refine ro ?_
       refine ⟨?_, hx⟩
       rw [← hgr, List.drop_eq_nil_of_le (show (l.take (l.length - 1)).length ≤ i by rw [List.length_take]; omega)]; rfl

set_option maxRecDepth 100000 in
set_option maxHeartbeats 1000000 in
theorem rsub_w (syn : Int) (val : Str) (l : List Str) (v : Value) (w : World) (hv : Arr sEnc 1 w v l) (hs : val.length ≤ 140737488355328) (hb : ∀ p ∈ l, p.length ≤ 900000) :
  Calls Tryz.prog 61 [I syn, S val, v].toArray w (Pure w (.tuple #[B (subM syn val l).1, B (subM syn val l).2])) := by
 refine calls_W Tryz.func61 rfl rfl rfl (by kernel_rfl) ?_
 have hx := Ext.refl w
 refine W_seq fun K1 hK1 => ?_
 refine wr ?_
 iterate 2 refine da ?_
 refine D_end (hK1 _ _ ?_)
 refine W_seq fun K2 hK2 => ?_
 refine wr ?_
 iterate 2 refine dm ?_
 refine D_callP rfl (by kernel_rfl) (rnormM_w syn val _ hs) rfl RX.all (fun w1 x1 => ?_)
 replace hx := hx.trans x1
 refine dm ?_
 refine dp (pv_ext rfl rfl) ?_
 refine dp (pv_ext rfl rfl) ?_
 iterate 2 refine da ?_
 refine D_end (hK2 _ _ ?_)
 refine W_cut (G := Unit) (fun uu => [(0, I syn), (2, v), (8, S ((normM syn val).getD []))]) (fun uu w' => Ext w w' ∧ (syn = 1 ∨ syn = 5 ∨ syn = 4) ∧ (normM syn val).isSome = true ∧ 2 ≤ l.length ∧ l.length ≤ 16) ?_ ?_
 ·
  refine W_seq fun K3 hK3 => ?_
  refine wr ?_
  refine dm ?_
  refine dn ?_
  refine dm ?_
  refine D_split 20 rfl (fun c1 => ?_) (fun c1 => ?_)
  ·
   iterate 10 refine dk ?_
   refine dk' ?_
   refine dm ?_
   iterate 3 refine dk ?_
   refine dk' ?_
   refine dm ?_
   iterate 3 refine dk ?_
   refine dk' ?_
   refine D_end (hK3 _ _ ?_)
   refine W_t rfl ?_
   refine W_seq fun K4 hK4 => ?_
   refine wr ?_
   iterate 2 refine da ?_
   refine D_end (hK4 _ _ ?_)
   refine W_ret ?_
   try dsimp only [then', inBlk, noGo]
   refine rt ?_
   refine ⟨?_, hx⟩
   first
   | (rw [subM_no (l := l) (.inl (by simpa using c1))]; done)
   | (rw [subM_other (by assumption) (by assumption) (by assumption)]; done)
   | (rw [subM_no (l := l) (val := val) (syn := syn) (.inr (.inr (.inr (.inl (by omega)))))]; done)
   | (rw [subM_no (l := l) (val := val) (syn := syn) (.inr (.inr (.inr (.inr (by omega)))))]; done)
   | (obtain ⟨s0, hn0⟩ := Option.isSome_iff_exists.1 hn; rw [subM_go (l := l) hn0 (by rcases hsy with h | h | h <;> rw [h] <;> decide) (by rcases hsy with h | h | h <;> rw [h] <;> decide) hl2 hl16, sub_fits syn l _ hl2])
  ·
   refine dm ?_
   refine dp (pv_neq rfl rfl) ?_
   refine dm ?_
   refine D_splitP 23 rfl (fun c2 => ?_) (fun c2 => ?_)
   ·
    refine dm ?_
    refine dp (pv_neq rfl rfl) ?_
    refine dk' ?_
    refine dm ?_
    refine D_splitP 27 rfl (fun c3 => ?_) (fun c3 => ?_)
    ·
     refine dm ?_
     refine dp (pv_neq rfl rfl) ?_
     refine dk' ?_
     refine dk' ?_
     refine dm ?_
     refine D_splitP 32 rfl (fun c4 => ?_) (fun c4 => ?_)
     ·
      iterate 3 refine dk ?_
      refine dk' ?_
      refine dm ?_
      iterate 3 refine dk ?_
      refine dk' ?_
      refine D_end (hK3 _ _ ?_)
      refine W_t rfl ?_
      refine W_seq fun K5 hK5 => ?_
      refine wr ?_
      iterate 2 refine da ?_
      refine D_end (hK5 _ _ ?_)
      refine W_ret ?_
      try dsimp only [then', inBlk, noGo]
      refine rt ?_
      refine ⟨?_, hx⟩
      first
      | (rw [subM_no (l := l) (.inl (by simpa using c1))]; done)
      | (rw [subM_other (by assumption) (by assumption) (by assumption)]; done)
      | (rw [subM_no (l := l) (val := val) (syn := syn) (.inr (.inr (.inr (.inl (by omega)))))]; done)
      | (rw [subM_no (l := l) (val := val) (syn := syn) (.inr (.inr (.inr (.inr (by omega)))))]; done)
      | (obtain ⟨s0, hn0⟩ := Option.isSome_iff_exists.1 hn; rw [subM_go (l := l) hn0 (by rcases hsy with h | h | h <;> rw [h] <;> decide) (by rcases hsy with h | h | h <;> rw [h] <;> decide) hl2 hl16, sub_fits syn l _ hl2])
     ·
      refine dm ?_
      refine dp (pv_lenV (e := 9) (k := 1) (by kernel_rfl) hv.sl rfl) ?_
      refine dp (pv_lss rfl rfl) ?_
      refine dk' ?_
      refine dm ?_
      refine D_splitP 37 rfl (fun c5 => ?_) (fun c5 => ?_)
      ·
       iterate 3 refine dk ?_
       refine dk' ?_
       refine D_end (hK3 _ _ ?_)
       refine W_t rfl ?_
       refine W_seq fun K6 hK6 => ?_
       refine wr ?_
       iterate 2 refine da ?_
       refine D_end (hK6 _ _ ?_)
       refine W_ret ?_
       try dsimp only [then', inBlk, noGo]
       refine rt ?_
       refine ⟨?_, hx⟩
       first
       | (rw [subM_no (l := l) (.inl (by simpa using c1))]; done)
       | (rw [subM_other (by assumption) (by assumption) (by assumption)]; done)
       | (rw [subM_no (l := l) (val := val) (syn := syn) (.inr (.inr (.inr (.inl (by omega)))))]; done)
       | (rw [subM_no (l := l) (val := val) (syn := syn) (.inr (.inr (.inr (.inr (by omega)))))]; done)
       | (obtain ⟨s0, hn0⟩ := Option.isSome_iff_exists.1 hn; rw [subM_go (l := l) hn0 (by rcases hsy with h | h | h <;> rw [h] <;> decide) (by rcases hsy with h | h | h <;> rw [h] <;> decide) hl2 hl16, sub_fits syn l _ hl2])
      ·
       refine dm ?_
       refine dp (pv_lenV (e := 9) (k := 1) (by kernel_rfl) hv.sl rfl) ?_
       refine dp (pv_gtr rfl rfl) ?_
       refine dk' ?_
       refine D_end (hK3 _ _ ?_)
       refine W_if rfl (fun c6 => ?_) (fun c6 => ?_)
       ·
        refine W_seq fun K7 hK7 => ?_
        refine wr ?_
        iterate 2 refine da ?_
        refine D_end (hK7 _ _ ?_)
        refine W_ret ?_
        try dsimp only [then', inBlk, noGo]
        refine rt ?_
        refine ⟨?_, hx⟩
        first
        | (rw [subM_no (l := l) (.inl (by simpa using c1))]; done)
        | (rw [subM_other (by assumption) (by assumption) (by assumption)]; done)
        | (rw [subM_no (l := l) (val := val) (syn := syn) (.inr (.inr (.inr (.inl (by omega)))))]; done)
        | (rw [subM_no (l := l) (val := val) (syn := syn) (.inr (.inr (.inr (.inr (by omega)))))]; done)
        | (obtain ⟨s0, hn0⟩ := Option.isSome_iff_exists.1 hn; rw [subM_go (l := l) hn0 (by rcases hsy with h | h | h <;> rw [h] <;> decide) (by rcases hsy with h | h | h <;> rw [h] <;> decide) hl2 hl16, sub_fits syn l _ hl2])
       ·
        refine W_skip ?_
        simp only [Bool.not_eq_false', ne_eq, Decidable.not_not] at *
        refine ⟨(), ⟨rfl, rfl, rfl, trivial⟩, hx, ?_, by assumption, by omega, by omega⟩
        first | exact .inl (by assumption) | exact .inr (.inl (by assumption)) | exact .inr (.inr (by assumption))
    ·
     iterate 2 refine dk ?_
     refine dk' ?_
     refine dk' ?_
     iterate 2 refine dm ?_
     refine dp (pv_lenV (e := 9) (k := 1) (by kernel_rfl) hv.sl rfl) ?_
     refine dp (pv_lss rfl rfl) ?_
     refine dk' ?_
     refine dm ?_
     refine D_splitP 37 rfl (fun c7 => ?_) (fun c7 => ?_)
     ·
      iterate 3 refine dk ?_
      refine dk' ?_
      refine D_end (hK3 _ _ ?_)
      refine W_t rfl ?_
      refine W_seq fun K8 hK8 => ?_
      refine wr ?_
      iterate 2 refine da ?_
      refine D_end (hK8 _ _ ?_)
      refine W_ret ?_
      try dsimp only [then', inBlk, noGo]
      refine rt ?_
      refine ⟨?_, hx⟩
      first
      | (rw [subM_no (l := l) (.inl (by simpa using c1))]; done)
      | (rw [subM_other (by assumption) (by assumption) (by assumption)]; done)
      | (rw [subM_no (l := l) (val := val) (syn := syn) (.inr (.inr (.inr (.inl (by omega)))))]; done)
      | (rw [subM_no (l := l) (val := val) (syn := syn) (.inr (.inr (.inr (.inr (by omega)))))]; done)
      | (obtain ⟨s0, hn0⟩ := Option.isSome_iff_exists.1 hn; rw [subM_go (l := l) hn0 (by rcases hsy with h | h | h <;> rw [h] <;> decide) (by rcases hsy with h | h | h <;> rw [h] <;> decide) hl2 hl16, sub_fits syn l _ hl2])
     ·
      refine dm ?_
      refine dp (pv_lenV (e := 9) (k := 1) (by kernel_rfl) hv.sl rfl) ?_
      refine dp (pv_gtr rfl rfl) ?_
      refine dk' ?_
      refine D_end (hK3 _ _ ?_)
      refine W_if rfl (fun c8 => ?_) (fun c8 => ?_)
      ·
       refine W_seq fun K9 hK9 => ?_
       refine wr ?_
       iterate 2 refine da ?_
       refine D_end (hK9 _ _ ?_)
       refine W_ret ?_
       try dsimp only [then', inBlk, noGo]
       refine rt ?_
       refine ⟨?_, hx⟩
       first
       | (rw [subM_no (l := l) (.inl (by simpa using c1))]; done)
       | (rw [subM_other (by assumption) (by assumption) (by assumption)]; done)
       | (rw [subM_no (l := l) (val := val) (syn := syn) (.inr (.inr (.inr (.inl (by omega)))))]; done)
       | (rw [subM_no (l := l) (val := val) (syn := syn) (.inr (.inr (.inr (.inr (by omega)))))]; done)
       | (obtain ⟨s0, hn0⟩ := Option.isSome_iff_exists.1 hn; rw [subM_go (l := l) hn0 (by rcases hsy with h | h | h <;> rw [h] <;> decide) (by rcases hsy with h | h | h <;> rw [h] <;> decide) hl2 hl16, sub_fits syn l _ hl2])
      ·
       refine W_skip ?_
       simp only [Bool.not_eq_false', ne_eq, Decidable.not_not] at *
       refine ⟨(), ⟨rfl, rfl, rfl, trivial⟩, hx, ?_, by assumption, by omega, by omega⟩
       first | exact .inl (by assumption) | exact .inr (.inl (by assumption)) | exact .inr (.inr (by assumption))
   ·
    iterate 2 refine dk ?_
    refine dk' ?_
    refine dm ?_
    iterate 2 refine dk ?_
    refine dk' ?_
    refine dk' ?_
    iterate 2 refine dm ?_
    refine dp (pv_lenV (e := 9) (k := 1) (by kernel_rfl) hv.sl rfl) ?_
    refine dp (pv_lss rfl rfl) ?_
    refine dk' ?_
    refine dm ?_
    refine D_splitP 37 rfl (fun c9 => ?_) (fun c9 => ?_)
    ·
     iterate 3 refine dk ?_
     refine dk' ?_
     refine D_end (hK3 _ _ ?_)
     refine W_t rfl ?_
     refine W_seq fun K10 hK10 => ?_
     refine wr ?_
     iterate 2 refine da ?_
     refine D_end (hK10 _ _ ?_)
     refine W_ret ?_
     try dsimp only [then', inBlk, noGo]
     refine rt ?_
     refine ⟨?_, hx⟩
     first
     | (rw [subM_no (l := l) (.inl (by simpa using c1))]; done)
     | (rw [subM_other (by assumption) (by assumption) (by assumption)]; done)
     | (rw [subM_no (l := l) (val := val) (syn := syn) (.inr (.inr (.inr (.inl (by omega)))))]; done)
     | (rw [subM_no (l := l) (val := val) (syn := syn) (.inr (.inr (.inr (.inr (by omega)))))]; done)
     | (obtain ⟨s0, hn0⟩ := Option.isSome_iff_exists.1 hn; rw [subM_go (l := l) hn0 (by rcases hsy with h | h | h <;> rw [h] <;> decide) (by rcases hsy with h | h | h <;> rw [h] <;> decide) hl2 hl16, sub_fits syn l _ hl2])
    ·
     refine dm ?_
     refine dp (pv_lenV (e := 9) (k := 1) (by kernel_rfl) hv.sl rfl) ?_
     refine dp (pv_gtr rfl rfl) ?_
     refine dk' ?_
     refine D_end (hK3 _ _ ?_)
     refine W_if rfl (fun c10 => ?_) (fun c10 => ?_)
     ·
      refine W_seq fun K11 hK11 => ?_
      refine wr ?_
      iterate 2 refine da ?_
      refine D_end (hK11 _ _ ?_)
      refine W_ret ?_
      try dsimp only [then', inBlk, noGo]
      refine rt ?_
      refine ⟨?_, hx⟩
      first
      | (rw [subM_no (l := l) (.inl (by simpa using c1))]; done)
      | (rw [subM_other (by assumption) (by assumption) (by assumption)]; done)
      | (rw [subM_no (l := l) (val := val) (syn := syn) (.inr (.inr (.inr (.inl (by omega)))))]; done)
      | (rw [subM_no (l := l) (val := val) (syn := syn) (.inr (.inr (.inr (.inr (by omega)))))]; done)
      | (obtain ⟨s0, hn0⟩ := Option.isSome_iff_exists.1 hn; rw [subM_go (l := l) hn0 (by rcases hsy with h | h | h <;> rw [h] <;> decide) (by rcases hsy with h | h | h <;> rw [h] <;> decide) hl2 hl16, sub_fits syn l _ hl2])
     ·
      refine W_skip ?_
      simp only [Bool.not_eq_false', ne_eq, Decidable.not_not] at *
      refine ⟨(), ⟨rfl, rfl, rfl, trivial⟩, hx, ?_, by assumption, by omega, by omega⟩
      first | exact .inl (by assumption) | exact .inr (.inl (by assumption)) | exact .inr (.inr (by assumption))
 ·
  intro X2 g2 w2 hF2
  revert hF2; revert g2; intro uu hF2
  clear hx
  obtain ⟨hx, hsy, hn, hl2, hl16⟩ := hF2
  refine W_seq fun K12 hK12 => ?_
  refine wr ?_
  refine da ?_
  refine D_end (hK12 _ _ ?_)
  refine W_seq fun K13 hK13 => ?_
  refine W_seq fun K14 hK14 => ?_
  refine wr ?_
  refine da ?_
  refine D_end (hK14 _ _ ?_)
  refine W_block ?_
  refine W_loop (G := Nat × Value) (fun (i, vm) => [(0, I syn), (2, v), (8, S ((normM syn val).getD [])), (10, vm), (11, I ↑i)]) (fun (i, vm) w' => Ext w w' ∧ i ≤ l.length ∧ Own sEnc 1 9 w.heap.size w' vm ((l.take i).map (pieceM syn))) (fun (i, vm) => l.length - i) (0, .slice none 0 0) ?_ ?_ ?_
  ·
   exact ⟨rfl, rfl, rfl, rfl, rfl, trivial⟩
  ·
   exact ⟨hx, Nat.zero_le _, Own.nil⟩
  ·
   intro X3 g3 w3 hF3
   obtain ⟨i, vm⟩ := g3
   clear hx
   obtain ⟨hx, hi, ho⟩ := hF3
   refine W_seq fun K15 hK15 => ?_
   refine W_seq fun K16 hK16 => ?_
   refine wr ?_
   iterate 2 refine dm ?_
   refine dp (pv_lenV (e := 9) (k := 1) (by kernel_rfl) hv.sl rfl) ?_
   refine dp (pv_lss rfl rfl) ?_
   refine D_end (hK16 _ _ ?_)
   refine W_if rfl (fun c11 => ?_) (fun c11 => ?_)
   ·
    obtain ⟨p, hk⟩ : ∃ p, l[i]? = some p := ⟨_, List.getElem?_eq_getElem (by omega)⟩
    have hpb := hb p (List.mem_of_getElem? hk)
    refine W_skip ?_
    refine hK15 _ _ ?_
    refine W_seq fun K17 hK17 => ?_
    refine W_block ?_
    refine wr ?_
    iterate 4 refine dm ?_
    refine dp (pv_idxA (e := 9) (k := 1) (by kernel_rfl) hv.sl rfl rfl (hv.lt hk)) ?_
    refine dq (lv_load (by kernel_rfl) rfl (((hv.ext hx).row hk).at0 rfl)) ?_
    refine D_callP rfl (by kernel_rfl) (rpiece_w syn p _ (by omega)) rfl RX.all (fun w4 x4 => ?_)
    replace ho := ho.ext x4
    replace hx := hx.trans x4
    refine D_lit (e := 9) (sz := 1) (zs := [S []]) (pv := [(0, ?a86_0)]) (cs := [?a86_0]) rfl (by kernel_rfl) ⟨rfl, rfl⟩ (by kernel_rfl) rfl ?h86 ?f86 RX.all (fun b1 w5 e1 x5 m1 => ?k86)
    case h86 => refine ⟨rfl, ?_, trivial⟩ <;> (conv => lhs; whnf)
    case f86 => rfl
    have g1 : w.heap.size ≤ b1 := by have := hx.size; omega
    have o1_ho : ∀ k, Value.ownBlock _ = some k → k < b1 := fun k hk => by have := (ho.lt k hk).2; omega
    replace ho := ho.ext x5
    replace hx := hx.trans x5
    refine D_append (lx := [pieceM syn p]) (e := 9) (sz := 1) (by' := 16) rfl (by kernel_rfl) (by kernel_rfl) (by intro x; rfl) ho (m1.arr (enc := sEnc) (sz := 1) (l := [pieceM syn p]) rfl (by intro x; rfl) rfl (Nat.le_of_ble_eq_true rfl)) rfl rfl (by intro x _ u hu; simp at hu; rcases hu with rfl <;> rfl) (by simp; omega) (by decide) hx.size (.inl rfl) (fun vm2 w6 ho_n x6 => ?_)
    replace hx := hx.own x6 (fun i hi => (ho.lt i hi).1)
    replace ho := ho_n
    clear m1
    refine da ?_
    refine D_end (hK17 _ _ ?_)
    refine wr ?_
    refine dm ?_
    refine dp (pv_add rfl rfl (by unfold inI64; omega)) ?_
    refine da ?_
    refine D_end (?_)
    refine ⟨(i + 1, vm2), ⟨rfl, rfl, rfl, rfl, rfl, trivial⟩, ⟨hx, by omega, ?_⟩, by simp only []; omega⟩
    rw [piece_take hk]; exact ho
   ·
    rw [List.take_of_length_le (by omega)] at ho
    refine W_exit ?_
    refine hK13 _ _ ?_
    refine W_seq fun K18 hK18 => ?_
    refine wr ?_
    iterate 2 refine dm ?_
    refine D_callP rfl (by kernel_rfl) (fits_w ((normM syn val).getD []) (l.map (pieceM syn)) vm _ (ho.arr (by intro x; rfl)) (getD_len _ _) (by rw [List.length_map]; omega) (by rw [List.length_map]; omega) (by intro q hq; obtain ⟨p, hp, rfl⟩ := List.mem_map.1 hq; have h1 := hb p hp; have h2 := pieceM_len syn p; omega)) rfl RX.all (fun w7 x7 => ?_)
    replace ho := ho.ext x7
    replace hx := hx.trans x7
    iterate 2 refine da ?_
    refine D_end (hK18 _ _ ?_)
    refine W_ret ?_
    try dsimp only [then', inBlk, noGo]
    refine rt ?_
    refine ⟨?_, hx⟩
    first
    | (rw [subM_no (l := l) (.inl (by simpa using c1))]; done)
    | (rw [subM_other (by assumption) (by assumption) (by assumption)]; done)
    | (rw [subM_no (l := l) (val := val) (syn := syn) (.inr (.inr (.inr (.inl (by omega)))))]; done)
    | (rw [subM_no (l := l) (val := val) (syn := syn) (.inr (.inr (.inr (.inr (by omega)))))]; done)
    | (obtain ⟨s0, hn0⟩ := Option.isSome_iff_exists.1 hn; rw [subM_go (l := l) hn0 (by rcases hsy with h | h | h <;> rw [h] <;> decide) (by rcases hsy with h | h | h <;> rw [h] <;> decide) hl2 hl16, sub_fits syn l _ hl2])

end Go.Proofs.YtdagdhjheibgnaaGreatDoor
