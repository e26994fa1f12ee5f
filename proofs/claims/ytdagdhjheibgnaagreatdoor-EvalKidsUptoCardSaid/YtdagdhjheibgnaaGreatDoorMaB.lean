/-
  Walks.
-/
import Derived.Test.YtdagdhjheibgnaaGreatDoorChecked
import Derived.Test.YtdagdhjheibgnaaGreatDoorSpMem
import Derived.KernelRfl
import Derived.Test.YtdagdhjheibgnaaGreatDoorMaA
namespace Go.Proofs.YtdagdhjheibgnaaGreatDoor
open Go.Vc Go.Sp
attribute [local irreducible] W XW Dw DwT
set_option linter.unusedVariables false
set_option linter.unusedSimpArgs false

theorem ext_drewN (w : World) : ∀ n, Ext w (w.drewN n)
  | 0 => Ext.refl _
  | n + 1 => (ext_drewN w n).trans (Ext.drew _)
theorem cutPrefix_w (s p : Str) (w : World) : Calls Tryz.prog 49 [S s, S p].toArray w (Pure w (.tuple #[S (Lib.trimPrefix s p), B (Lib.hasPrefix s p)])) := by
  refine (Tryz.strings_CutPrefix ⟨⟨s⟩⟩ ⟨⟨p⟩⟩ w).mono ?_
  rintro e w' ⟨rfl, rfl⟩
  exact ⟨rfl, Ext.refl _⟩
theorem hasSuffix_w (s p : Str) (w : World) (hs : s.length ≤ 1000000) : Calls Tryz.prog 50 [S s, S p].toArray w (Pure w (B (Lib.hasSuffix s p))) := by
  refine (Tryz.strings_HasSuffix ⟨⟨s⟩⟩ ⟨⟨p⟩⟩ w (by show s.length ≤ _; omega)).mono ?_
  rintro e w' ⟨rfl, rfl⟩
  exact ⟨rfl, Ext.refl _⟩
theorem cut_w (s p : Str) (w : World) (hg : GV w) (hs : s.length ≤ 1000000) : Calls Tryz.prog 51 [S s, S p].toArray w (Pure w (.tuple #[S (Lib.cut s p).1, S (Lib.cut s p).2.1, B (Lib.cut s p).2.2])) := by
  obtain ⟨m, hm⟩ := hg.ml
  refine (Tryz.strings_Cut ⟨⟨s⟩⟩ ⟨⟨p⟩⟩ m w (by show s.length < _; omega) hm).mono ?_
  rintro e w' ⟨rfl, n, rfl⟩
  exact ⟨rfl, ext_drewN w n⟩
theorem trimPrefix_len (s p : Str) : (Lib.trimPrefix s p).length ≤ s.length := by unfold Lib.trimPrefix; split <;> simp
theorem cut_len (s p : Str) : (Lib.cut s p).2.1.length ≤ s.length := by unfold Lib.cut; split <;> simp
theorem step_prefix {n : Nat} {s p : Str} (h : Lib.hasPrefix s p = true) : stepM 0 n s p = some (Lib.trimPrefix s p) := by
  unfold stepM Lib.trimPrefix
  rw [if_pos rfl, if_pos (by simpa [Lib.hasPrefix] using h), if_pos h]
theorem step_noprefix {n : Nat} {s p : Str} (h : Lib.hasPrefix s p = false) : stepM 0 n s p = none := by
  unfold stepM
  rw [if_pos rfl, if_neg (by unfold Lib.hasPrefix at h; rw [h]; decide)]
theorem step_suffix {i n : Nat} {s p : Str} (h0 : i ≠ 0) (h1 : i + 1 = n) (h : Lib.hasSuffix s p = true) : stepM i n s p = some s := by
  unfold stepM
  rw [if_neg h0, if_pos h1, if_pos (by simpa [Lib.hasSuffix] using h)]
theorem step_nosuffix {i n : Nat} {s p : Str} (h0 : i ≠ 0) (h1 : i + 1 = n) (h : Lib.hasSuffix s p = false) : stepM i n s p = none := by
  unfold stepM
  rw [if_neg h0, if_pos h1, if_neg (by unfold Lib.hasSuffix at h; rw [h]; decide)]
theorem step_cut {i n : Nat} {s p : Str} (h0 : i ≠ 0) (h1 : i + 1 ≠ n) (h : (Lib.cut s p).2.2 = true) : stepM i n s p = some (Lib.cut s p).2.1 := by
  unfold stepM
  rw [if_neg h0, if_neg h1]
  unfold Lib.cut at *
  by_cases hi : 0 ≤ Lib.index s p
  · rw [if_pos hi, if_pos hi]
  · rw [if_neg hi] at h; cases h
theorem step_nocut {i n : Nat} {s p : Str} (h0 : i ≠ 0) (h1 : i + 1 ≠ n) (h : (Lib.cut s p).2.2 = false) : stepM i n s p = none := by
  unfold stepM
  rw [if_neg h0, if_neg h1]
  unfold Lib.cut at h
  by_cases hi : 0 ≤ Lib.index s p
  · rw [if_pos hi] at h; cases h
  · rw [if_neg hi]
theorem subL_go {syn : Int} {n i : Nat} {l : List Str} {p s t : Str} (hk : l[i]? = some p) (h : stepM i n s (pieceM syn p) = some t) : subL syn n i (l.drop i) s = subL syn n (i + 1) (l.drop (i + 1)) t := by
  rw [drop_consS hk, subL, h]
theorem subL_no {syn : Int} {n i : Nat} {l : List Str} {p s : Str} (hk : l[i]? = some p) (h : stepM i n s (pieceM syn p) = none) : subL syn n i (l.drop i) s = false := by
  rw [drop_consS hk, subL, h]
theorem piece_5 (s : Str) : pieceM 5 s = bareS s := rfl
theorem piece_4 (s : Str) : pieceM 4 s = s := rfl
theorem piece_nil {syn : Int} (h5 : syn ≠ 5) (h4 : syn ≠ 4) : pieceM syn [] = [] := by unfold pieceM; rw [if_neg h5, if_neg h4, if_pos rfl]
theorem piece_blank {syn : Int} {s : Str} (h5 : syn ≠ 5) (h4 : syn ≠ 4) (hs : s ≠ []) (hf : foldS s = []) : pieceM syn s = [32] := by unfold pieceM; rw [if_neg h5, if_neg h4, if_neg hs, if_pos hf]
theorem piece_go {syn : Int} {s : Str} {a b : UInt8} (h5 : syn ≠ 5) (h4 : syn ≠ 4) (hs : s ≠ []) (hf : foldS s ≠ []) (ha : s[0]? = some a) (hb : s[s.length - 1]? = some b) : pieceM syn s = (if a = 32 then [32] else []) ++ foldS s ++ (if b = 32 then [32] else []) := by
  unfold pieceM
  rw [if_neg h5, if_neg h4, if_neg hs, if_neg hf, List.head?_eq_getElem?, ha, List.getLast?_eq_getElem?, hb]
  simp only [Option.some.injEq]
theorem subM_no {syn : Int} {val : Str} {l : List Str} (h : normM syn val = none ∨ syn = 2 ∨ syn = 3 ∨ l.length < 2 ∨ 16 < l.length) : subM syn val l = (false, false) := by
  unfold subM
  cases hn : normM syn val with
  | none => rfl
  | some s =>
    rw [hn] at h
    simp only [reduceCtorEq, false_or] at h
    simp only []
    rw [if_pos h]
theorem subM_go {syn : Int} {val s : Str} {l : List Str} (hn : normM syn val = some s) (h2 : syn ≠ 2) (h3 : syn ≠ 3) (hl : 2 ≤ l.length) (hh : l.length ≤ 16) : subM syn val l = (subL syn l.length 0 l ((normM syn val).getD []), true) := by
  unfold subM
  rw [hn]
  simp only []
  rw [if_neg (by rintro (h | h | h | h); exact h2 h; exact h3 h; omega; omega)]
  rfl
theorem getD_len (syn : Int) (val : Str) : ((normM syn val).getD []).length ≤ 1000000 := by
  cases h : normM syn val with
  | none => simp
  | some a => exact norm_len h
theorem known_sub : subM 1 [74, 111, 104, 110, 32, 83, 109, 105, 116, 104] [[106, 111], [110, 32, 115], [116, 104]] = (true, true) := by decide +kernel
theorem known_eq : equalM 1 [32, 65, 32, 32, 98] [97, 32, 66] = true := by decide +kernel

set_option maxRecDepth 100000 in
set_option maxHeartbeats 1000000 in
theorem piece_w (syn : Int) (s : Str) (w : World) (hg : GV w) (hs : s.length ≤ 1000000) :
  Calls Tryz.prog 48 [I syn, S s].toArray w (Pure w (S (pieceM syn s))) := by
 refine calls_W Tryz.func48 rfl rfl rfl (by kernel_rfl) ?_
 have hx := Ext.refl w
 have hfl := foldS_len s
 refine W_seq fun K1 hK1 => ?_
 refine wr ?_
 refine da ?_
 refine D_end (hK1 _ _ ?_)
 refine W_seq fun K2 hK2 => ?_
 refine W_seq fun K3 hK3 => ?_
 refine wr ?_
 refine dm ?_
 refine D_end (hK3 _ _ ?_)
 refine W_block ?_
 refine W_seq fun K4 hK4 => ?_
 refine wr ?_
 refine dp (pv_eql rfl rfl) ?_
 refine da ?_
 refine D_end (hK4 _ _ ?_)
 refine W_if rfl (fun c1 => ?_) (fun c1 => ?_)
 ·
  refine W_seq fun K5 hK5 => ?_
  refine wr ?_
  refine dm ?_
  refine D_callP rfl (by kernel_rfl) (phone_w s _ (hg.ext hx) hs) rfl RX.all (fun w1 x1 => ?_)
  replace hx := hx.trans x1
  refine da ?_
  refine D_end (hK5 _ _ ?_)
  refine W_ret ?_
  try dsimp only [then', inBlk, noGo]
  refine ro ?_
  refine ⟨?_, hx⟩
  first
  | rw [c1, piece_5]
  | rw [c2, piece_4]
  | rw [c3, piece_nil c1 c2]
  | rw [piece_blank c1 c2 c3 c4]
  | (rw [piece_go c1 c2 c3 c4 ha hb]; simp [*])
 ·
  refine W_seq fun K6 hK6 => ?_
  refine wr ?_
  refine dp (pv_eql rfl rfl) ?_
  refine da ?_
  refine D_end (hK6 _ _ ?_)
  refine W_if rfl (fun c2 => ?_) (fun c2 => ?_)
  ·
   refine W_seq fun K7 hK7 => ?_
   refine wr ?_
   refine dm ?_
   refine da ?_
   refine D_end (hK7 _ _ ?_)
   refine W_ret ?_
   try dsimp only [then', inBlk, noGo]
   refine ro ?_
   refine ⟨?_, hx⟩
   first
   | rw [c1, piece_5]
   | rw [c2, piece_4]
   | rw [c3, piece_nil c1 c2]
   | rw [piece_blank c1 c2 c3 c4]
   | (rw [piece_go c1 c2 c3 c4 ha hb]; simp [*])
  ·
   refine W_skip ?_
   refine hK2 _ _ ?_
   refine W_seq fun K8 hK8 => ?_
   refine wr ?_
   refine dm ?_
   refine D_callP rfl (by kernel_rfl) (fold_w s _ hs) rfl RX.all (fun w2 x2 => ?_)
   replace hx := hx.trans x2
   refine da ?_
   refine D_end (hK8 _ _ ?_)
   refine W_seq fun K9 hK9 => ?_
   refine W_block ?_
   refine W_seq fun K10 hK10 => ?_
   refine wr ?_
   refine dm ?_
   refine dp (pv_seq rfl rfl) ?_
   refine da ?_
   refine D_end (hK10 _ _ ?_)
   refine W_if rfl (fun c3 => ?_) (fun c3 => ?_)
   ·
    refine W_seq fun K11 hK11 => ?_
    refine wr ?_
    refine da ?_
    refine D_end (hK11 _ _ ?_)
    refine W_ret ?_
    try dsimp only [then', inBlk, noGo]
    refine ro ?_
    refine ⟨?_, hx⟩
    first
    | rw [c1, piece_5]
    | rw [c2, piece_4]
    | rw [c3, piece_nil c1 c2]
    | rw [piece_blank c1 c2 c3 c4]
    | (rw [piece_go c1 c2 c3 c4 ha hb]; simp [*])
   ·
    refine W_seq fun K12 hK12 => ?_
    refine wr ?_
    refine dm ?_
    refine dp (pv_seq rfl rfl) ?_
    refine da ?_
    refine D_end (hK12 _ _ ?_)
    refine W_if rfl (fun c4 => ?_) (fun c4 => ?_)
    ·
     refine W_seq fun K13 hK13 => ?_
     refine wr ?_
     refine da ?_
     refine D_end (hK13 _ _ ?_)
     refine W_ret ?_
     try dsimp only [then', inBlk, noGo]
     refine ro ?_
     refine ⟨?_, hx⟩
     first
     | rw [c1, piece_5]
     | rw [c2, piece_4]
     | rw [c3, piece_nil c1 c2]
     | rw [piece_blank c1 c2 c3 c4]
     | (rw [piece_go c1 c2 c3 c4 ha hb]; simp [*])
    ·
     obtain ⟨a, ha⟩ : ∃ a, s[0]? = some a := ⟨_, List.getElem?_eq_getElem (List.length_pos_iff.2 c3)⟩
     have hsl := (List.getElem?_eq_some_iff.1 ha).1
     obtain ⟨b, hb⟩ : ∃ b, s[s.length - 1]? = some b := ⟨_, List.getElem?_eq_getElem (by omega)⟩
     refine W_skip ?_
     refine hK9 _ _ ?_
     refine W_seq fun K14 hK14 => ?_
     refine W_seq fun K15 hK15 => ?_
     refine wr ?_
     refine dm ?_
     refine dp (pv_idxS (by kernel_rfl) rfl rfl (i := 0) ha) ?_
     refine dp (pv_eqlB (b := 32) rfl rfl) ?_
     refine D_end (hK15 _ _ ?_)
     refine W_if rfl (fun c5 => ?_) (fun c5 => ?_)
     ·
      refine wr ?_
      refine dm ?_
      refine dp (pv_scat rfl rfl (by first | (simp; done) | (simp; omega) | omega)) ?_
      refine da ?_
      refine D_end (hK14 _ _ ?_)
      refine W_seq fun K16 hK16 => ?_
      refine W_seq fun K17 hK17 => ?_
      refine wr ?_
      iterate 2 refine dm ?_
      refine dp (pv_lenS (by kernel_rfl) rfl) ?_
      refine D_pe (v := I ↑(s.length - 1)) rfl (pv_sub rfl rfl (by unfold inI64; omega)) (by show I _ = I _; congr 1; omega) ?_
      refine dp (pv_idxS (by kernel_rfl) rfl rfl hb) ?_
      refine dp (pv_eqlB (b := 32) rfl rfl) ?_
      refine D_end (hK17 _ _ ?_)
      refine W_if rfl (fun c6 => ?_) (fun c6 => ?_)
      ·
       refine wr ?_
       refine dm ?_
       refine dp (pv_scat rfl rfl (by first | (simp; done) | (simp; omega) | omega)) ?_
       refine da ?_
       refine D_end (hK16 _ _ ?_)
       refine W_seq fun K18 hK18 => ?_
       refine wr ?_
       refine dm ?_
       refine da ?_
       refine D_end (hK18 _ _ ?_)
       refine W_ret ?_
       try dsimp only [then', inBlk, noGo]
       refine ro ?_
       refine ⟨?_, hx⟩
       first
       | rw [c1, piece_5]
       | rw [c2, piece_4]
       | rw [c3, piece_nil c1 c2]
       | rw [piece_blank c1 c2 c3 c4]
       | (rw [piece_go c1 c2 c3 c4 ha hb]; simp [*])
      ·
       refine W_skip ?_
       refine hK16 _ _ ?_
       refine W_seq fun K19 hK19 => ?_
       refine wr ?_
       refine dm ?_
       refine da ?_
       refine D_end (hK19 _ _ ?_)
       refine W_ret ?_
       try dsimp only [then', inBlk, noGo]
       refine ro ?_
       refine ⟨?_, hx⟩
       first
       | rw [c1, piece_5]
       | rw [c2, piece_4]
       | rw [c3, piece_nil c1 c2]
       | rw [piece_blank c1 c2 c3 c4]
       | (rw [piece_go c1 c2 c3 c4 ha hb]; simp [*])
     ·
      refine W_skip ?_
      refine hK14 _ _ ?_
      refine W_seq fun K20 hK20 => ?_
      refine W_seq fun K21 hK21 => ?_
      refine wr ?_
      iterate 2 refine dm ?_
      refine dp (pv_lenS (by kernel_rfl) rfl) ?_
      refine D_pe (v := I ↑(s.length - 1)) rfl (pv_sub rfl rfl (by unfold inI64; omega)) (by show I _ = I _; congr 1; omega) ?_
      refine dp (pv_idxS (by kernel_rfl) rfl rfl hb) ?_
      refine dp (pv_eqlB (b := 32) rfl rfl) ?_
      refine D_end (hK21 _ _ ?_)
      refine W_if rfl (fun c7 => ?_) (fun c7 => ?_)
      ·
       refine wr ?_
       refine dm ?_
       refine dp (pv_scat rfl rfl (by first | (simp; done) | (simp; omega) | omega)) ?_
       refine da ?_
       refine D_end (hK20 _ _ ?_)
       refine W_seq fun K22 hK22 => ?_
       refine wr ?_
       refine dm ?_
       refine da ?_
       refine D_end (hK22 _ _ ?_)
       refine W_ret ?_
       try dsimp only [then', inBlk, noGo]
       refine ro ?_
       refine ⟨?_, hx⟩
       first
       | rw [c1, piece_5]
       | rw [c2, piece_4]
       | rw [c3, piece_nil c1 c2]
       | rw [piece_blank c1 c2 c3 c4]
       | (rw [piece_go c1 c2 c3 c4 ha hb]; simp [*])
      ·
       refine W_skip ?_
       refine hK20 _ _ ?_
       refine W_seq fun K23 hK23 => ?_
       refine wr ?_
       refine dm ?_
       refine da ?_
       refine D_end (hK23 _ _ ?_)
       refine W_ret ?_
       try dsimp only [then', inBlk, noGo]
       refine ro ?_
       refine ⟨?_, hx⟩
       first
       | rw [c1, piece_5]
       | rw [c2, piece_4]
       | rw [c3, piece_nil c1 c2]
       | rw [piece_blank c1 c2 c3 c4]
       | (rw [piece_go c1 c2 c3 c4 ha hb]; simp [*])

set_option maxRecDepth 100000 in
set_option maxHeartbeats 1000000 in
theorem sub_w (syn : Int) (val : Str) (l : List Str) (v : Value) (w : World) (hg : GV w) (hv : Arr sEnc 1 w v l) (hs : val.length ≤ 140737488355328) (hb : ∀ p ∈ l, p.length ≤ 900000) :
  Calls Tryz.prog 23 [I syn, S val, v].toArray w (Pure w (.tuple #[B (subM syn val l).1, B (subM syn val l).2])) := by
 refine calls_W Tryz.func23 rfl rfl rfl (by kernel_rfl) ?_
 have hx := Ext.refl w
 refine W_seq fun K1 hK1 => ?_
 refine wr ?_
 iterate 2 refine da ?_
 refine D_end (hK1 _ _ ?_)
 refine W_seq fun K2 hK2 => ?_
 refine wr ?_
 iterate 2 refine dm ?_
 refine D_callP rfl (by kernel_rfl) (normM_w syn val _ (hg.ext hx) hs) rfl RX.all (fun w1 x1 => ?_)
 replace hx := hx.trans x1
 refine dm ?_
 refine dp (pv_ext rfl rfl) ?_
 refine dp (pv_ext rfl rfl) ?_
 iterate 2 refine da ?_
 refine D_end (hK2 _ _ ?_)
 refine W_seq fun K3 hK3 => ?_
 refine W_seq fun K4 hK4 => ?_
 refine wr ?_
 refine dm ?_
 refine dn ?_
 refine dm ?_
 refine D_split 20 rfl (fun c1 => ?_) (fun c1 => ?_)
 ·
  iterate 2 refine dk ?_
  refine dk' ?_
  refine dm ?_
  iterate 2 refine dk ?_
  refine dk' ?_
  refine dm ?_
  iterate 3 refine dk ?_
  refine dk' ?_
  refine dm ?_
  iterate 3 refine dk ?_
  refine dk' ?_
  refine D_end (hK4 _ _ ?_)
  refine W_t rfl ?_
  refine W_seq fun K5 hK5 => ?_
  refine wr ?_
  iterate 2 refine da ?_
  refine D_end (hK5 _ _ ?_)
  refine W_ret ?_
  try dsimp only [then', inBlk, noGo]
  refine rt ?_
  refine ⟨?_, hx⟩
  rw [subM_no (.inl (by simpa using c1))]
 ·
  simp only [Bool.not_eq_false', Option.isSome_iff_exists] at c1
  obtain ⟨s0, hn⟩ := c1
  refine dm ?_
  refine dp (pv_eql rfl rfl) ?_
  refine dk' ?_
  refine dm ?_
  refine D_splitP 24 rfl (fun c2 => ?_) (fun c2 => ?_)
  ·
   iterate 2 refine dk ?_
   refine dk' ?_
   refine dm ?_
   iterate 3 refine dk ?_
   refine dk' ?_
   refine dm ?_
   iterate 3 refine dk ?_
   refine dk' ?_
   refine D_end (hK4 _ _ ?_)
   refine W_t rfl ?_
   refine W_seq fun K6 hK6 => ?_
   refine wr ?_
   iterate 2 refine da ?_
   refine D_end (hK6 _ _ ?_)
   refine W_ret ?_
   try dsimp only [then', inBlk, noGo]
   refine rt ?_
   refine ⟨?_, hx⟩
   rw [subM_no (.inr (.inl c2))]
  ·
   refine dm ?_
   refine dp (pv_eql rfl rfl) ?_
   refine dk' ?_
   refine dm ?_
   refine D_splitP 28 rfl (fun c3 => ?_) (fun c3 => ?_)
   ·
    iterate 3 refine dk ?_
    refine dk' ?_
    refine dm ?_
    iterate 3 refine dk ?_
    refine dk' ?_
    refine D_end (hK4 _ _ ?_)
    refine W_t rfl ?_
    refine W_seq fun K7 hK7 => ?_
    refine wr ?_
    iterate 2 refine da ?_
    refine D_end (hK7 _ _ ?_)
    refine W_ret ?_
    try dsimp only [then', inBlk, noGo]
    refine rt ?_
    refine ⟨?_, hx⟩
    rw [subM_no (.inr (.inr (.inl c3)))]
   ·
    refine dm ?_
    refine dp (pv_lenV (e := 9) (k := 1) (by kernel_rfl) hv.sl rfl) ?_
    refine dp (pv_lss rfl rfl) ?_
    refine dk' ?_
    refine dm ?_
    refine D_splitP 33 rfl (fun c4 => ?_) (fun c4 => ?_)
    ·
     iterate 3 refine dk ?_
     refine dk' ?_
     refine D_end (hK4 _ _ ?_)
     refine W_t rfl ?_
     refine W_seq fun K8 hK8 => ?_
     refine wr ?_
     iterate 2 refine da ?_
     refine D_end (hK8 _ _ ?_)
     refine W_ret ?_
     try dsimp only [then', inBlk, noGo]
     refine rt ?_
     refine ⟨?_, hx⟩
     rw [subM_no (l := l) (val := val) (.inr (.inr (.inr (.inl (by omega)))))]
    ·
     refine dm ?_
     refine dp (pv_lenV (e := 9) (k := 1) (by kernel_rfl) hv.sl rfl) ?_
     refine dp (pv_gtr rfl rfl) ?_
     refine dk' ?_
     refine D_end (hK4 _ _ ?_)
     refine W_if rfl (fun c5 => ?_) (fun c5 => ?_)
     ·
      refine W_seq fun K9 hK9 => ?_
      refine wr ?_
      iterate 2 refine da ?_
      refine D_end (hK9 _ _ ?_)
      refine W_ret ?_
      try dsimp only [then', inBlk, noGo]
      refine rt ?_
      refine ⟨?_, hx⟩
      rw [subM_no (l := l) (val := val) (.inr (.inr (.inr (.inr (by omega)))))]
     ·
      have hgo := subM_go (l := l) hn c2 c3 (by omega) (by omega)
      refine W_skip ?_
      refine hK3 _ _ ?_
      refine W_seq fun K10 hK10 => ?_
      refine W_seq fun K11 hK11 => ?_
      refine wr ?_
      refine dm ?_
      refine dp (pv_lenV (e := 9) (k := 1) (by kernel_rfl) hv.sl rfl) ?_
      refine dm ?_
      refine D_end (hK11 _ _ ?_)
      refine W_block ?_
      refine W_loop (G := Nat × Str) (fun (i, s) => [(0, I syn), (2, v), (8, S s), (38, v), (39, I ↑l.length), (40, I ↑i)]) (fun (i, s) w' => Ext w w' ∧ i ≤ l.length ∧ s.length ≤ 1000000 ∧ subL syn l.length i (l.drop i) s = subL syn l.length 0 l ((normM syn val).getD [])) (fun (i, s) => l.length - i) (0, ((normM syn val).getD [])) ?_ ?_ ?_
      ·
       exact ⟨rfl, rfl, rfl, rfl, rfl, rfl, trivial⟩
      ·
       exact ⟨hx, Nat.zero_le _, getD_len _ _, rfl⟩
      ·
       intro X2 g2 w2 hF2
       obtain ⟨i, s⟩ := g2
       clear hx
       obtain ⟨hx, hi1, hsl, hsub⟩ := hF2
       refine W_seq fun K12 hK12 => ?_
       refine wr ?_
       refine dp (pv_lss rfl rfl) ?_
       refine D_end (hK12 _ _ ?_)
       refine W_seq fun K13 hK13 => ?_
       refine W_if rfl (fun c6 => ?_) (fun c6 => ?_)
       ·
        obtain ⟨p, hk⟩ : ∃ p, l[i]? = some p := ⟨_, List.getElem?_eq_getElem (by omega)⟩
        have hpb := hb p (List.mem_of_getElem? hk)
        refine W_skip ?_
        refine hK13 _ _ ?_
        refine W_seq fun K14 hK14 => ?_
        refine W_block ?_
        refine W_seq fun K15 hK15 => ?_
        refine wr ?_
        refine dm ?_
        refine dp (pv_idxA (e := 9) (k := 1) (by kernel_rfl) hv.sl rfl rfl (hv.lt hk)) ?_
        refine dq (lv_load (by kernel_rfl) rfl (((hv.ext hx).row hk).at0 rfl)) ?_
        iterate 2 refine da ?_
        refine D_end (hK15 _ _ ?_)
        refine W_seq fun K16 hK16 => ?_
        refine wr ?_
        iterate 2 refine dm ?_
        refine D_callP rfl (by kernel_rfl) (piece_w syn p _ (hg.ext hx) (by omega)) rfl RX.all (fun w3 x3 => ?_)
        replace hx := hx.trans x3
        refine da ?_
        refine D_end (hK16 _ _ ?_)
        refine W_seq fun K17 hK17 => ?_
        refine W_seq fun K18 hK18 => ?_
        refine wr ?_
        refine dm ?_
        refine D_end (hK18 _ _ ?_)
        refine W_block ?_
        refine W_seq fun K19 hK19 => ?_
        refine wr ?_
        refine dp (pv_eql rfl rfl) ?_
        refine da ?_
        refine D_end (hK19 _ _ ?_)
        refine W_if rfl (fun c7 => ?_) (fun c7 => ?_)
        ·
         have hi0 : i = 0 := by omega
         refine wr ?_
         iterate 2 refine dm ?_
         refine D_callP rfl (by kernel_rfl) (cutPrefix_w s (pieceM syn p) _) rfl RX.all (fun w4 x4 => ?_)
         replace hx := hx.trans x4
         refine dm ?_
         refine dp (pv_ext rfl rfl) ?_
         refine dp (pv_ext rfl rfl) ?_
         iterate 2 refine da ?_
         refine D_end (hK17 _ _ ?_)
         refine W_seq fun K20 hK20 => ?_
         refine wr ?_
         refine dm ?_
         refine dn ?_
         refine D_end (hK20 _ _ ?_)
         refine W_cond rfl (fun c8 => ?_) (fun c8 => ?_)
         ·
          refine W_seq fun K21 hK21 => ?_
          refine wr ?_
          iterate 2 refine da ?_
          refine D_end (hK21 _ _ ?_)
          refine W_ret ?_
          try dsimp only [then', inBlk, noGo]
          refine rt ?_
          refine ⟨?_, hx⟩
          rw [hgo, ← hsub]
          first
          | (rw [List.drop_eq_nil_of_le (by omega)]; rfl)
          | (rw [subL_no hk (by rw [hi0]; exact step_noprefix (by simpa using c8))])
          | (rw [subL_no hk (step_nosuffix hi0 (by omega) (by simpa using c10))])
          | (rw [subL_no hk (step_nocut hi0 (by omega) (by simpa using c11))])
         ·
          refine W_skip ?_
          refine hK14 _ _ ?_
          refine wr ?_
          refine dp (pv_add rfl rfl (by unfold inI64; omega)) ?_
          refine dm ?_
          refine D_end (?_)
          refine ⟨(i + 1, Lib.trimPrefix s (pieceM syn p)), ⟨rfl, rfl, rfl, rfl, rfl, rfl, trivial⟩, ⟨hx, by omega, by exact Nat.le_trans (trimPrefix_len ..) hsl, ?_⟩, by simp only []; omega⟩
          rw [← hsub, subL_go hk (by rw [hi0]; exact step_prefix (by simpa using c8))]
        ·
         have hi0 : i ≠ 0 := by omega
         refine W_seq fun K22 hK22 => ?_
         refine wr ?_
         refine dm ?_
         refine dp (pv_lenV (e := 9) (k := 1) (by kernel_rfl) hv.sl rfl) ?_
         refine dp (pv_sub rfl rfl (by unfold inI64; omega)) ?_
         refine dp (pv_eql rfl rfl) ?_
         refine da ?_
         refine D_end (hK22 _ _ ?_)
         refine W_if rfl (fun c9 => ?_) (fun c9 => ?_)
         ·
          refine wr ?_
          iterate 2 refine dm ?_
          refine D_callP rfl (by kernel_rfl) (hasSuffix_w s (pieceM syn p) _ hsl) rfl RX.all (fun w5 x5 => ?_)
          replace hx := hx.trans x5
          refine da ?_
          refine D_end (hK17 _ _ ?_)
          refine W_seq fun K23 hK23 => ?_
          refine wr ?_
          refine dm ?_
          refine dn ?_
          refine D_end (hK23 _ _ ?_)
          refine W_cond rfl (fun c10 => ?_) (fun c10 => ?_)
          ·
           refine W_seq fun K24 hK24 => ?_
           refine wr ?_
           iterate 2 refine da ?_
           refine D_end (hK24 _ _ ?_)
           refine W_ret ?_
           try dsimp only [then', inBlk, noGo]
           refine rt ?_
           refine ⟨?_, hx⟩
           rw [hgo, ← hsub]
           first
           | (rw [List.drop_eq_nil_of_le (by omega)]; rfl)
           | (rw [subL_no hk (by rw [hi0]; exact step_noprefix (by simpa using c8))])
           | (rw [subL_no hk (step_nosuffix hi0 (by omega) (by simpa using c10))])
           | (rw [subL_no hk (step_nocut hi0 (by omega) (by simpa using c11))])
          ·
           refine W_skip ?_
           refine hK14 _ _ ?_
           refine wr ?_
           refine dp (pv_add rfl rfl (by unfold inI64; omega)) ?_
           refine dm ?_
           refine D_end (?_)
           refine ⟨(i + 1, s), ⟨rfl, rfl, rfl, rfl, rfl, rfl, trivial⟩, ⟨hx, by omega, by exact hsl, ?_⟩, by simp only []; omega⟩
           rw [← hsub, subL_go hk (step_suffix hi0 (by omega) (by simpa using c10))]
         ·
          refine wr ?_
          iterate 2 refine dm ?_
          refine D_callP rfl (by kernel_rfl) (cut_w s (pieceM syn p) _ (hg.ext hx) hsl) rfl RX.all (fun w6 x6 => ?_)
          replace hx := hx.trans x6
          refine dm ?_
          refine dp (pv_ext rfl rfl) ?_
          refine dp (pv_ext rfl rfl) ?_
          refine dp (pv_ext rfl rfl) ?_
          iterate 2 refine da ?_
          refine D_end (hK17 _ _ ?_)
          refine W_seq fun K25 hK25 => ?_
          refine wr ?_
          refine dm ?_
          refine dn ?_
          refine D_end (hK25 _ _ ?_)
          refine W_cond rfl (fun c11 => ?_) (fun c11 => ?_)
          ·
           refine W_seq fun K26 hK26 => ?_
           refine wr ?_
           iterate 2 refine da ?_
           refine D_end (hK26 _ _ ?_)
           refine W_ret ?_
           try dsimp only [then', inBlk, noGo]
           refine rt ?_
           refine ⟨?_, hx⟩
           rw [hgo, ← hsub]
           first
           | (rw [List.drop_eq_nil_of_le (by omega)]; rfl)
           | (rw [subL_no hk (by rw [hi0]; exact step_noprefix (by simpa using c8))])
           | (rw [subL_no hk (step_nosuffix hi0 (by omega) (by simpa using c10))])
           | (rw [subL_no hk (step_nocut hi0 (by omega) (by simpa using c11))])
          ·
           refine W_skip ?_
           refine hK14 _ _ ?_
           refine wr ?_
           refine dp (pv_add rfl rfl (by unfold inI64; omega)) ?_
           refine dm ?_
           refine D_end (?_)
           refine ⟨(i + 1, (Lib.cut s (pieceM syn p)).2.1), ⟨rfl, rfl, rfl, rfl, rfl, rfl, trivial⟩, ⟨hx, by omega, by exact Nat.le_trans (cut_len ..) hsl, ?_⟩, by simp only []; omega⟩
           rw [← hsub, subL_go hk (step_cut hi0 (by omega) (by simpa using c11))]
       ·
        refine W_exit ?_
        refine hK10 _ _ ?_
        refine W_seq fun K27 hK27 => ?_
        refine wr ?_
        iterate 2 refine da ?_
        refine D_end (hK27 _ _ ?_)
        refine W_ret ?_
        try dsimp only [then', inBlk, noGo]
        refine rt ?_
        refine ⟨?_, hx⟩
        rw [hgo, ← hsub]
        first
        | (rw [List.drop_eq_nil_of_le (by omega)]; rfl)
        | (rw [subL_no hk (by rw [hi0]; exact step_noprefix (by simpa using c8))])
        | (rw [subL_no hk (step_nosuffix hi0 (by omega) (by simpa using c10))])
        | (rw [subL_no hk (step_nocut hi0 (by omega) (by simpa using c11))])

end Go.Proofs.YtdagdhjheibgnaaGreatDoor
