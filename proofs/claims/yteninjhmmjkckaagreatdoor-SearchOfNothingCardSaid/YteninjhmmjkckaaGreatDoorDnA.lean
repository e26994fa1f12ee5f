/-
  Walks.
-/
import Derived.Test.YteninjhmmjkckaaGreatDoorChecked
import Derived.Test.YteninjhmmjkckaaGreatDoorSpMem
import Derived.KernelRfl
import Derived.Test.YteninjhmmjkckaaGreatDoorSpDn
import Derived.Test.YteninjhmmjkckaaGreatDoorVcW
namespace Go.Proofs.YteninjhmmjkckaaGreatDoor
open Go.Vc Go.Sp
attribute [local irreducible] W XW Dw DwT
set_option linter.unusedVariables false
set_option linter.unusedSimpArgs false

theorem halfI_eq (c : UInt8) : halfI c = if 48 ≤ c ∧ c ≤ 57 then (c.toNat : Int) - 48 else if 97 ≤ c ∧ c ≤ 102 then (c.toNat : Int) - 97 + 10 else if 65 ≤ c ∧ c ≤ 70 then (c.toNat : Int) - 65 + 10 else -1 := by
  have e : ∀ c : Fin 256, halfI (UInt8.ofNat c) = if 48 ≤ UInt8.ofNat c ∧ UInt8.ofNat c ≤ 57 then ((UInt8.ofNat c).toNat : Int) - 48 else if 97 ≤ UInt8.ofNat c ∧ UInt8.ofNat c ≤ 102 then ((UInt8.ofNat c).toNat : Int) - 97 + 10 else if 65 ≤ UInt8.ofNat c ∧ UInt8.ofNat c ≤ 70 then ((UInt8.ofNat c).toNat : Int) - 65 + 10 else -1 := by decide +kernel
  have := e ⟨c.toNat, c.toNat_lt⟩
  simpa using this
theorem typeS_long {s : Str} (h : 32 < s.length) : typeS s = false := by
  cases s with
  | nil => rfl
  | cons c r =>
    have : ¬ (c :: r).length ≤ 32 := by omega
    rw [typeS, decide_eq_false this]; rfl
theorem typC_let {c : UInt8} (h : isLet c = true) : typC c = true := by simp [typC, h]
theorem typC_dash {c : UInt8} (h : c = 45) : typC c = true := by simp [typC, h]
theorem typC_dig {c : UInt8} (h1 : ¬ c < 48) (h2 : ¬ 57 < c) : typC c = true := by
  have e : isDig c = true := by simp only [isDig, decide_eq_true (UInt8.not_lt.1 h1), decide_eq_true (UInt8.not_lt.1 h2)]; rfl
  simp [typC, e]
theorem typC_no {c : UInt8} (h1 : isLet c = false) (h2 : c ≠ 45) (h3 : c < 48 ∨ 57 < c) : typC c = false := by
  have e : isDig c = false := by
    rcases h3 with h | h
    · simp only [isDig, decide_eq_false (UInt8.not_le.2 h)]; rfl
    · simp only [isDig, decide_eq_false (UInt8.not_le.2 h), Bool.and_false]
  simp [typC, h1, h2, e]
theorem typeS_first {c : UInt8} {r : Str} (h : isLet c = false) : typeS (c :: r) = false := by simp [typeS, h]
theorem typeS_bad {s : Str} {k : Nat} {c : UInt8} (hk : s[k]? = some c) (h : typC c = false) : typeS s = false := by
  cases s with
  | nil => rfl
  | cons c r => rw [typeS, not_all hk h]; simp
theorem typeS_ok {c : UInt8} {r : Str} (h1 : (c :: r).length ≤ 32) (h2 : isLet c = true) (h3 : (c :: r).all typC = true) : typeS (c :: r) = true := by
  rw [typeS, h2, h3, decide_eq_true h1]; rfl

set_option maxRecDepth 100000 in
set_option maxHeartbeats 1000000 in
theorem isLetter_w (c : UInt8) (w : World) :
  Calls Tryz.prog 39 [b8 c].toArray w (Pure w (B (isLet c))) := by
 refine calls_W Tryz.func39 rfl rfl rfl (by kernel_rfl) ?_
 have hx := Ext.refl w
 refine W_seq fun K1 hK1 => ?_
 refine wr ?_
 refine da ?_
 refine D_end (hK1 _ _ ?_)
 refine W_seq fun K2 hK2 => ?_
 refine wr ?_
 refine dm ?_
 refine dp (pv_geqB (b := 97) rfl rfl) ?_
 refine dm ?_
 refine D_splitP 5 rfl (fun c1 => ?_) (fun c1 => ?_)
 ·
  refine dm ?_
  refine dp (pv_leqB (b := 122) rfl rfl) ?_
  refine dk' ?_
  refine dm ?_
  refine D_splitP 9 rfl (fun c2 => ?_) (fun c2 => ?_)
  ·
   iterate 6 refine dk ?_
   refine dk' ?_
   refine da ?_
   refine D_end (hK2 _ _ ?_)
   refine W_ret ?_
   try dsimp only [then', inBlk, noGo]
   refine ro ?_
   refine ⟨?_, hx⟩
   simp [isLet, *]
  ·
   refine dm ?_
   refine dp (pv_geqB (b := 65) rfl rfl) ?_
   refine dm ?_
   refine D_splitP 12 rfl (fun c3 => ?_) (fun c3 => ?_)
   ·
    refine dm ?_
    refine dp (pv_leqB (b := 90) rfl rfl) ?_
    refine dk' ?_
    refine dk' ?_
    refine da ?_
    refine D_end (hK2 _ _ ?_)
    refine W_ret ?_
    try dsimp only [then', inBlk, noGo]
    refine ro ?_
    refine ⟨?_, hx⟩
    simp [isLet, *]
   ·
    iterate 2 refine dk ?_
    refine dk' ?_
    refine dk' ?_
    refine da ?_
    refine D_end (hK2 _ _ ?_)
    refine W_ret ?_
    try dsimp only [then', inBlk, noGo]
    refine ro ?_
    refine ⟨?_, hx⟩
    simp [isLet, *]
 ·
  iterate 2 refine dk ?_
  refine dk' ?_
  iterate 2 refine dm ?_
  refine dp (pv_geqB (b := 65) rfl rfl) ?_
  refine dm ?_
  refine D_splitP 12 rfl (fun c4 => ?_) (fun c4 => ?_)
  ·
   refine dm ?_
   refine dp (pv_leqB (b := 90) rfl rfl) ?_
   refine dk' ?_
   refine dk' ?_
   refine da ?_
   refine D_end (hK2 _ _ ?_)
   refine W_ret ?_
   try dsimp only [then', inBlk, noGo]
   refine ro ?_
   refine ⟨?_, hx⟩
   simp [isLet, *]
  ·
   iterate 2 refine dk ?_
   refine dk' ?_
   refine dk' ?_
   refine da ?_
   refine D_end (hK2 _ _ ?_)
   refine W_ret ?_
   try dsimp only [then', inBlk, noGo]
   refine ro ?_
   refine ⟨?_, hx⟩
   simp [isLet, *]

set_option maxRecDepth 100000 in
set_option maxHeartbeats 1000000 in
theorem letter_w (c : UInt8) (w : World) :
  Calls Tryz.prog 248 [b8 c].toArray w (Pure w (B (isLet c))) := by
 refine calls_W Tryz.func248 rfl rfl rfl (by kernel_rfl) ?_
 have hx := Ext.refl w
 refine W_seq fun K1 hK1 => ?_
 refine wr ?_
 refine da ?_
 refine D_end (hK1 _ _ ?_)
 refine W_seq fun K2 hK2 => ?_
 refine wr ?_
 refine dm ?_
 refine dp (pv_geqB (b := 97) rfl rfl) ?_
 refine dm ?_
 refine D_splitP 5 rfl (fun c1 => ?_) (fun c1 => ?_)
 ·
  refine dm ?_
  refine dp (pv_leqB (b := 122) rfl rfl) ?_
  refine dk' ?_
  refine dm ?_
  refine D_splitP 9 rfl (fun c2 => ?_) (fun c2 => ?_)
  ·
   iterate 6 refine dk ?_
   refine dk' ?_
   refine da ?_
   refine D_end (hK2 _ _ ?_)
   refine W_ret ?_
   try dsimp only [then', inBlk, noGo]
   refine ro ?_
   refine ⟨?_, hx⟩
   simp [isLet, *]
  ·
   refine dm ?_
   refine dp (pv_geqB (b := 65) rfl rfl) ?_
   refine dm ?_
   refine D_splitP 12 rfl (fun c3 => ?_) (fun c3 => ?_)
   ·
    refine dm ?_
    refine dp (pv_leqB (b := 90) rfl rfl) ?_
    refine dk' ?_
    refine dk' ?_
    refine da ?_
    refine D_end (hK2 _ _ ?_)
    refine W_ret ?_
    try dsimp only [then', inBlk, noGo]
    refine ro ?_
    refine ⟨?_, hx⟩
    simp [isLet, *]
   ·
    iterate 2 refine dk ?_
    refine dk' ?_
    refine dk' ?_
    refine da ?_
    refine D_end (hK2 _ _ ?_)
    refine W_ret ?_
    try dsimp only [then', inBlk, noGo]
    refine ro ?_
    refine ⟨?_, hx⟩
    simp [isLet, *]
 ·
  iterate 2 refine dk ?_
  refine dk' ?_
  iterate 2 refine dm ?_
  refine dp (pv_geqB (b := 65) rfl rfl) ?_
  refine dm ?_
  refine D_splitP 12 rfl (fun c4 => ?_) (fun c4 => ?_)
  ·
   refine dm ?_
   refine dp (pv_leqB (b := 90) rfl rfl) ?_
   refine dk' ?_
   refine dk' ?_
   refine da ?_
   refine D_end (hK2 _ _ ?_)
   refine W_ret ?_
   try dsimp only [then', inBlk, noGo]
   refine ro ?_
   refine ⟨?_, hx⟩
   simp [isLet, *]
  ·
   iterate 2 refine dk ?_
   refine dk' ?_
   refine dk' ?_
   refine da ?_
   refine D_end (hK2 _ _ ?_)
   refine W_ret ?_
   try dsimp only [then', inBlk, noGo]
   refine ro ?_
   refine ⟨?_, hx⟩
   simp [isLet, *]

set_option maxRecDepth 100000 in
set_option maxHeartbeats 1000000 in
theorem isDigit_w (c : UInt8) (w : World) :
  Calls Tryz.prog 40 [b8 c].toArray w (Pure w (B (isDig c))) := by
 refine calls_W Tryz.func40 rfl rfl rfl (by kernel_rfl) ?_
 have hx := Ext.refl w
 refine W_seq fun K1 hK1 => ?_
 refine wr ?_
 refine da ?_
 refine D_end (hK1 _ _ ?_)
 refine W_seq fun K2 hK2 => ?_
 refine wr ?_
 refine dm ?_
 refine dp (pv_geqB (b := 48) rfl rfl) ?_
 refine dm ?_
 refine D_splitP 5 rfl (fun c1 => ?_) (fun c1 => ?_)
 ·
  refine dm ?_
  refine dp (pv_leqB (b := 57) rfl rfl) ?_
  refine dk' ?_
  refine da ?_
  refine D_end (hK2 _ _ ?_)
  refine W_ret ?_
  try dsimp only [then', inBlk, noGo]
  refine ro ?_
  refine ⟨?_, hx⟩
  simp [isDig, *]
 ·
  iterate 2 refine dk ?_
  refine dk' ?_
  refine da ?_
  refine D_end (hK2 _ _ ?_)
  refine W_ret ?_
  try dsimp only [then', inBlk, noGo]
  refine ro ?_
  refine ⟨?_, hx⟩
  simp [isDig, *]

set_option maxRecDepth 100000 in
set_option maxHeartbeats 1000000 in
theorem digit_w (c : UInt8) (w : World) :
  Calls Tryz.prog 391 [b8 c].toArray w (Pure w (.tuple #[b8 ((halfB c).getD 0), B (halfB c).isSome])) := by
 refine calls_W Tryz.func391 rfl rfl rfl (by kernel_rfl) ?_
 have hx := Ext.refl w
 refine W_seq fun K1 hK1 => ?_
 refine wr ?_
 iterate 2 refine da ?_
 refine D_end (hK1 _ _ ?_)
 refine W_seq fun K2 hK2 => ?_
 refine W_block ?_
 refine W_seq fun K3 hK3 => ?_
 refine wr ?_
 refine dm ?_
 refine D_callP rfl (by kernel_rfl) (isDigit_w c _) rfl RX.all (fun w1 x1 => ?_)
 replace hx := hx.trans x1
 refine da ?_
 refine D_end (hK3 _ _ ?_)
 refine W_cond rfl (fun c1 => ?_) (fun c1 => ?_)
 ·
  refine W_seq fun K4 hK4 => ?_
  refine wr ?_
  refine dm ?_
  refine dp (pv_subB (b := 48) rfl rfl) ?_
  iterate 2 refine da ?_
  refine D_end (hK4 _ _ ?_)
  refine W_ret ?_
  try dsimp only [then', inBlk, noGo]
  refine rt ?_
  refine ⟨?_, hx⟩
  simp [halfB, *]
 ·
  refine W_seq fun K5 hK5 => ?_
  refine wr ?_
  refine dm ?_
  refine dp (pv_geqB (b := 97) rfl rfl) ?_
  refine dm ?_
  refine D_splitP 12 rfl (fun c2 => ?_) (fun c2 => ?_)
  ·
   refine dm ?_
   refine dp (pv_leqB (b := 102) rfl rfl) ?_
   refine dk' ?_
   refine da ?_
   refine D_end (hK5 _ _ ?_)
   refine W_if rfl (fun c3 => ?_) (fun c3 => ?_)
   ·
    refine W_seq fun K6 hK6 => ?_
    refine wr ?_
    refine dm ?_
    refine dp (pv_subB (b := 97) rfl rfl) ?_
    refine dp (pv_addB (b := 10) rfl rfl) ?_
    iterate 2 refine da ?_
    refine D_end (hK6 _ _ ?_)
    refine W_ret ?_
    try dsimp only [then', inBlk, noGo]
    refine rt ?_
    refine ⟨?_, hx⟩
    simp [halfB, *]
   ·
    refine W_seq fun K7 hK7 => ?_
    refine wr ?_
    refine dm ?_
    refine dp (pv_geqB (b := 65) rfl rfl) ?_
    refine dm ?_
    refine D_splitP 22 rfl (fun c4 => ?_) (fun c4 => ?_)
    ·
     refine dm ?_
     refine dp (pv_leqB (b := 70) rfl rfl) ?_
     refine dk' ?_
     refine da ?_
     refine D_end (hK7 _ _ ?_)
     refine W_if rfl (fun c5 => ?_) (fun c5 => ?_)
     ·
      refine W_seq fun K8 hK8 => ?_
      refine wr ?_
      refine dm ?_
      refine dp (pv_subB (b := 65) rfl rfl) ?_
      refine dp (pv_addB (b := 10) rfl rfl) ?_
      iterate 2 refine da ?_
      refine D_end (hK8 _ _ ?_)
      refine W_ret ?_
      try dsimp only [then', inBlk, noGo]
      refine rt ?_
      refine ⟨?_, hx⟩
      simp [halfB, *]
     ·
      refine W_skip ?_
      refine hK2 _ _ ?_
      refine W_seq fun K9 hK9 => ?_
      refine wr ?_
      iterate 2 refine da ?_
      refine D_end (hK9 _ _ ?_)
      refine W_ret ?_
      try dsimp only [then', inBlk, noGo]
      refine rt ?_
      refine ⟨?_, hx⟩
      simp [halfB, *]
    ·
     iterate 2 refine dk ?_
     refine dk' ?_
     refine da ?_
     refine D_end (hK7 _ _ ?_)
     refine W_f rfl ?_
     refine W_skip ?_
     refine hK2 _ _ ?_
     refine W_seq fun K10 hK10 => ?_
     refine wr ?_
     iterate 2 refine da ?_
     refine D_end (hK10 _ _ ?_)
     refine W_ret ?_
     try dsimp only [then', inBlk, noGo]
     refine rt ?_
     refine ⟨?_, hx⟩
     simp [halfB, *]
  ·
   iterate 2 refine dk ?_
   refine dk' ?_
   refine da ?_
   refine D_end (hK5 _ _ ?_)
   refine W_f rfl ?_
   refine W_seq fun K11 hK11 => ?_
   refine wr ?_
   refine dm ?_
   refine dp (pv_geqB (b := 65) rfl rfl) ?_
   refine dm ?_
   refine D_splitP 22 rfl (fun c6 => ?_) (fun c6 => ?_)
   ·
    refine dm ?_
    refine dp (pv_leqB (b := 70) rfl rfl) ?_
    refine dk' ?_
    refine da ?_
    refine D_end (hK11 _ _ ?_)
    refine W_if rfl (fun c7 => ?_) (fun c7 => ?_)
    ·
     refine W_seq fun K12 hK12 => ?_
     refine wr ?_
     refine dm ?_
     refine dp (pv_subB (b := 65) rfl rfl) ?_
     refine dp (pv_addB (b := 10) rfl rfl) ?_
     iterate 2 refine da ?_
     refine D_end (hK12 _ _ ?_)
     refine W_ret ?_
     try dsimp only [then', inBlk, noGo]
     refine rt ?_
     refine ⟨?_, hx⟩
     simp [halfB, *]
    ·
     refine W_skip ?_
     refine hK2 _ _ ?_
     refine W_seq fun K13 hK13 => ?_
     refine wr ?_
     iterate 2 refine da ?_
     refine D_end (hK13 _ _ ?_)
     refine W_ret ?_
     try dsimp only [then', inBlk, noGo]
     refine rt ?_
     refine ⟨?_, hx⟩
     simp [halfB, *]
   ·
    iterate 2 refine dk ?_
    refine dk' ?_
    refine da ?_
    refine D_end (hK11 _ _ ?_)
    refine W_f rfl ?_
    refine W_skip ?_
    refine hK2 _ _ ?_
    refine W_seq fun K14 hK14 => ?_
    refine wr ?_
    iterate 2 refine da ?_
    refine D_end (hK14 _ _ ?_)
    refine W_ret ?_
    try dsimp only [then', inBlk, noGo]
    refine rt ?_
    refine ⟨?_, hx⟩
    simp [halfB, *]

set_option maxRecDepth 100000 in
set_option maxHeartbeats 1000000 in
theorem type_w (s : Str) (w : World) :
  Calls Tryz.prog 19 [S s].toArray w (Pure w (B (typeS s))) := by
 refine calls_W Tryz.func19 rfl rfl rfl (by kernel_rfl) ?_
 have hx := Ext.refl w
 refine W_seq fun K1 hK1 => ?_
 refine wr ?_
 refine da ?_
 refine D_end (hK1 _ _ ?_)
 refine W_seq fun K2 hK2 => ?_
 refine W_seq fun K3 hK3 => ?_
 refine wr ?_
 refine dm ?_
 refine dp (pv_seq rfl rfl) ?_
 refine dm ?_
 refine D_splitP 7 rfl (fun c1 => ?_) (fun c1 => ?_)
 ·
  iterate 3 refine dk ?_
  refine dk' ?_
  refine dm ?_
  iterate 4 refine dk ?_
  refine dk' ?_
  refine D_end (hK3 _ _ ?_)
  refine W_t rfl ?_
  refine W_seq fun K4 hK4 => ?_
  refine wr ?_
  refine da ?_
  refine D_end (hK4 _ _ ?_)
  refine W_ret ?_
  try dsimp only [then', inBlk, noGo]
  refine ro ?_
  refine ⟨?_, hx⟩
  rw [c1]; rfl
 ·
  obtain ⟨c0, r, rfl⟩ := S_ne_nil (s := s) c1
  have hk0 : (c0 :: r)[0]? = some c0 := rfl
  refine dm ?_
  refine dp (pv_lenS (by kernel_rfl) rfl) ?_
  refine dp (pv_gtr rfl rfl) ?_
  refine dk' ?_
  refine dm ?_
  refine D_splitP 12 rfl (fun c2 => ?_) (fun c2 => ?_)
  ·
   iterate 4 refine dk ?_
   refine dk' ?_
   refine D_end (hK3 _ _ ?_)
   refine W_t rfl ?_
   refine W_seq fun K5 hK5 => ?_
   refine wr ?_
   refine da ?_
   refine D_end (hK5 _ _ ?_)
   refine W_ret ?_
   try dsimp only [then', inBlk, noGo]
   refine ro ?_
   refine ⟨?_, hx⟩
   rw [typeS_long (by omega)]
  ·
   refine dm ?_
   refine dp (pv_idxS (by kernel_rfl) rfl rfl (i := 0) hk0) ?_
   refine D_callP rfl (by kernel_rfl) (isLetter_w c0 _) rfl RX.all (fun w1 x1 => ?_)
   replace hx := hx.trans x1
   refine dn ?_
   refine dk' ?_
   refine D_end (hK3 _ _ ?_)
   refine W_cond rfl (fun c3 => ?_) (fun c3 => ?_)
   ·
    refine W_seq fun K6 hK6 => ?_
    refine wr ?_
    refine da ?_
    refine D_end (hK6 _ _ ?_)
    refine W_ret ?_
    try dsimp only [then', inBlk, noGo]
    refine ro ?_
    refine ⟨?_, hx⟩
    rw [typeS_first (by simpa using c3)]
   ·
    refine W_skip ?_
    refine hK2 _ _ ?_
    refine W_seq fun K7 hK7 => ?_
    refine W_seq fun K8 hK8 => ?_
    refine wr ?_
    refine dm ?_
    refine dp (pv_lenS (by kernel_rfl) rfl) ?_
    refine dm ?_
    refine D_end (hK8 _ _ ?_)
    refine W_block ?_
    refine W_loop (G := Nat) (fun k => [(0, S (c0 :: r)), (19, I ↑(c0 :: r).length), (20, I ↑k)]) (fun k w' => Ext w w' ∧ k ≤ (c0 :: r).length ∧ ((c0 :: r).take k).all typC = true) (fun k => (c0 :: r).length - k) 0 ?_ ?_ ?_
    ·
     exact ⟨rfl, rfl, rfl, trivial⟩
    ·
     exact ⟨hx, Nat.zero_le _, rfl⟩
    ·
     intro X2 g2 w2 hF2
     revert hF2; revert g2; intro k hF2
     clear hx
     obtain ⟨hx, hk1, ha⟩ := hF2
     refine W_seq fun K9 hK9 => ?_
     refine wr ?_
     refine dp (pv_lss rfl rfl) ?_
     refine D_end (hK9 _ _ ?_)
     refine W_seq fun K10 hK10 => ?_
     refine W_if rfl (fun c4 => ?_) (fun c4 => ?_)
     ·
      obtain ⟨c, hk⟩ : ∃ c, (c0 :: r)[k]? = some c := ⟨_, List.getElem?_eq_getElem (by omega)⟩
      refine W_skip ?_
      refine hK10 _ _ ?_
      refine W_seq fun K11 hK11 => ?_
      refine W_block ?_
      refine W_seq fun K12 hK12 => ?_
      refine wr ?_
      refine dm ?_
      refine da ?_
      refine D_end (hK12 _ _ ?_)
      refine W_seq fun K13 hK13 => ?_
      refine wr ?_
      iterate 2 refine dm ?_
      refine dp (pv_idxS (by kernel_rfl) rfl rfl hk) ?_
      refine da ?_
      refine D_end (hK13 _ _ ?_)
      refine W_seq fun K14 hK14 => ?_
      refine wr ?_
      refine dm ?_
      refine D_callP rfl (by kernel_rfl) (isLetter_w c _) rfl RX.all (fun w3 x3 => ?_)
      replace hx := hx.trans x3
      refine dn ?_
      refine dm ?_
      refine D_split 29 rfl (fun c5 => ?_) (fun c5 => ?_)
      ·
       refine dm ?_
       refine D_callP rfl (by kernel_rfl) (isDigit_w c _) rfl RX.all (fun w4 x4 => ?_)
       replace hx := hx.trans x4
       refine dn ?_
       refine dk' ?_
       refine dm ?_
       refine D_split 34 rfl (fun c6 => ?_) (fun c6 => ?_)
       ·
        refine dm ?_
        refine dp (pv_neqB (b := 45) rfl rfl) ?_
        refine dk' ?_
        refine D_end (hK14 _ _ ?_)
        refine W_if rfl (fun c7 => ?_) (fun c7 => ?_)
        ·
         refine W_seq fun K15 hK15 => ?_
         refine wr ?_
         refine da ?_
         refine D_end (hK15 _ _ ?_)
         refine W_ret ?_
         try dsimp only [then', inBlk, noGo]
         refine ro ?_
         refine ⟨?_, hx⟩
         simp only [Bool.not_eq_true'] at c5 c6
         rw [typeS_bad hk (by simp [typC, c5, c6, c7])]
        ·
         refine W_skip ?_
         refine hK11 _ _ ?_
         refine wr ?_
         refine dp (pv_add rfl rfl (by unfold inI64; omega)) ?_
         refine dm ?_
         refine D_end (?_)
         refine ⟨k + 1, ⟨rfl, rfl, rfl, trivial⟩, ⟨hx, by omega, all_take hk ha (by simp [typC]; first | (simp at *; simp [*]; done) | skip)⟩, by omega⟩
       ·
        iterate 2 refine dk ?_
        refine dk' ?_
        refine D_end (hK14 _ _ ?_)
        refine W_f rfl ?_
        refine W_skip ?_
        refine hK11 _ _ ?_
        refine wr ?_
        refine dp (pv_add rfl rfl (by unfold inI64; omega)) ?_
        refine dm ?_
        refine D_end (?_)
        refine ⟨k + 1, ⟨rfl, rfl, rfl, trivial⟩, ⟨hx, by omega, all_take hk ha (by simp [typC]; first | (simp at *; simp [*]; done) | skip)⟩, by omega⟩
      ·
       iterate 3 refine dk ?_
       refine dk' ?_
       refine dm ?_
       iterate 2 refine dk ?_
       refine dk' ?_
       refine D_end (hK14 _ _ ?_)
       refine W_f rfl ?_
       refine W_skip ?_
       refine hK11 _ _ ?_
       refine wr ?_
       refine dp (pv_add rfl rfl (by unfold inI64; omega)) ?_
       refine dm ?_
       refine D_end (?_)
       refine ⟨k + 1, ⟨rfl, rfl, rfl, trivial⟩, ⟨hx, by omega, all_take hk ha (by simp [typC]; first | (simp at *; simp [*]; done) | skip)⟩, by omega⟩
     ·
      refine W_exit ?_
      refine hK7 _ _ ?_
      refine W_seq fun K16 hK16 => ?_
      refine wr ?_
      refine da ?_
      refine D_end (hK16 _ _ ?_)
      refine W_ret ?_
      try dsimp only [then', inBlk, noGo]
      refine ro ?_
      refine ⟨?_, hx⟩
      rw [List.take_of_length_le (by omega)] at ha
      rw [typeS_ok (by omega) (by simpa using c3) ha]

set_option maxRecDepth 100000 in
set_option maxHeartbeats 1000000 in
theorem rtype_w (s : Str) (w : World) :
  Calls Tryz.prog 167 [S s].toArray w (Pure w (B (typeS s))) := by
 refine calls_W Tryz.func167 rfl rfl rfl (by kernel_rfl) ?_
 have hx := Ext.refl w
 refine W_seq fun K1 hK1 => ?_
 refine wr ?_
 refine da ?_
 refine D_end (hK1 _ _ ?_)
 refine W_seq fun K2 hK2 => ?_
 refine W_seq fun K3 hK3 => ?_
 refine wr ?_
 refine dm ?_
 refine dp (pv_lenS (by kernel_rfl) rfl) ?_
 refine dp (pv_lss rfl rfl) ?_
 refine dm ?_
 refine D_splitP 7 rfl (fun c1 => ?_) (fun c1 => ?_)
 ·
  iterate 3 refine dk ?_
  refine dk' ?_
  refine dm ?_
  iterate 4 refine dk ?_
  refine dk' ?_
  refine D_end (hK3 _ _ ?_)
  refine W_t rfl ?_
  refine W_seq fun K4 hK4 => ?_
  refine wr ?_
  refine da ?_
  refine D_end (hK4 _ _ ?_)
  refine W_ret ?_
  try dsimp only [then', inBlk, noGo]
  refine ro ?_
  refine ⟨?_, hx⟩
  have e : s = [] := List.eq_nil_of_length_eq_zero (by omega)
  rw [e]; rfl
 ·
  obtain ⟨c0, r, rfl⟩ := S_ne_nil (s := s) (by rintro rfl; simp at c1)
  have hk0 : (c0 :: r)[0]? = some c0 := rfl
  refine dm ?_
  refine dp (pv_lenS (by kernel_rfl) rfl) ?_
  refine dp (pv_gtr rfl rfl) ?_
  refine dk' ?_
  refine dm ?_
  refine D_splitP 12 rfl (fun c2 => ?_) (fun c2 => ?_)
  ·
   iterate 4 refine dk ?_
   refine dk' ?_
   refine D_end (hK3 _ _ ?_)
   refine W_t rfl ?_
   refine W_seq fun K5 hK5 => ?_
   refine wr ?_
   refine da ?_
   refine D_end (hK5 _ _ ?_)
   refine W_ret ?_
   try dsimp only [then', inBlk, noGo]
   refine ro ?_
   refine ⟨?_, hx⟩
   rw [typeS_long (by omega)]
  ·
   refine dm ?_
   refine dp (pv_idxS (by kernel_rfl) rfl rfl (i := 0) hk0) ?_
   refine D_callP rfl (by kernel_rfl) (letter_w c0 _) rfl RX.all (fun w1 x1 => ?_)
   replace hx := hx.trans x1
   refine dn ?_
   refine dk' ?_
   refine D_end (hK3 _ _ ?_)
   refine W_cond rfl (fun c3 => ?_) (fun c3 => ?_)
   ·
    refine W_seq fun K6 hK6 => ?_
    refine wr ?_
    refine da ?_
    refine D_end (hK6 _ _ ?_)
    refine W_ret ?_
    try dsimp only [then', inBlk, noGo]
    refine ro ?_
    refine ⟨?_, hx⟩
    rw [typeS_first (by simpa using c3)]
   ·
    refine W_skip ?_
    refine hK2 _ _ ?_
    refine W_seq fun K7 hK7 => ?_
    refine W_seq fun K8 hK8 => ?_
    refine wr ?_
    refine da ?_
    refine D_end (hK8 _ _ ?_)
    refine W_block ?_
    refine W_loop (G := Nat) (fun k => [(0, S (c0 :: r)), (3, I ↑k)]) (fun k w' => Ext w w' ∧ 1 ≤ k ∧ k ≤ (c0 :: r).length ∧ ((c0 :: r).take k).all typC = true) (fun k => (c0 :: r).length - k) 1 ?_ ?_ ?_
    ·
     exact ⟨rfl, rfl, trivial⟩
    ·
     exact ⟨hx, Nat.le_refl _, by simp, by simp at c3; simp [typC, c3]⟩
    ·
     intro X2 g2 w2 hF2
     revert hF2; revert g2; intro k hF2
     clear hx
     obtain ⟨hx, hk1, hk2, ha⟩ := hF2
     refine W_seq fun K9 hK9 => ?_
     refine W_seq fun K10 hK10 => ?_
     refine wr ?_
     iterate 2 refine dm ?_
     refine dp (pv_lenS (by kernel_rfl) rfl) ?_
     refine dp (pv_lss rfl rfl) ?_
     refine D_end (hK10 _ _ ?_)
     refine W_if rfl (fun c4 => ?_) (fun c4 => ?_)
     ·
      obtain ⟨c, hk⟩ : ∃ c, (c0 :: r)[k]? = some c := ⟨_, List.getElem?_eq_getElem (by omega)⟩
      refine W_skip ?_
      refine hK9 _ _ ?_
      refine W_seq fun K11 hK11 => ?_
      refine W_block ?_
      refine W_seq fun K12 hK12 => ?_
      refine wr ?_
      iterate 2 refine dm ?_
      refine dp (pv_idxS (by kernel_rfl) rfl rfl hk) ?_
      refine D_callP rfl (by kernel_rfl) (letter_w c _) rfl RX.all (fun w3 x3 => ?_)
      replace hx := hx.trans x3
      refine dn ?_
      refine dm ?_
      refine D_split 29 rfl (fun c5 => ?_) (fun c5 => ?_)
      ·
       iterate 2 refine dm ?_
       refine dp (pv_idxS (by kernel_rfl) rfl rfl hk) ?_
       refine dp (pv_neqB (b := 45) rfl rfl) ?_
       refine dk' ?_
       refine dm ?_
       refine D_splitP 35 rfl (fun c6 => ?_) (fun c6 => ?_)
       ·
        iterate 2 refine dm ?_
        refine dp (pv_idxS (by kernel_rfl) rfl rfl hk) ?_
        refine dp (pv_lssB (b := 48) rfl rfl) ?_
        refine dm ?_
        refine D_splitP 40 rfl (fun c7 => ?_) (fun c7 => ?_)
        ·
         iterate 4 refine dk ?_
         refine dk' ?_
         refine dk' ?_
         refine D_end (hK12 _ _ ?_)
         refine W_t rfl ?_
         refine W_seq fun K13 hK13 => ?_
         refine wr ?_
         refine da ?_
         refine D_end (hK13 _ _ ?_)
         refine W_ret ?_
         try dsimp only [then', inBlk, noGo]
         refine ro ?_
         refine ⟨?_, hx⟩
         first
         | (rw [List.take_of_length_le (by omega)] at ha; rw [typeS_ok (by omega) (by simpa using c3) ha])
         | rw [typeS_bad hk (typC_no (by simpa using c5) c6 (by first | exact .inl c7 | exact .inr c8))]
        ·
         iterate 2 refine dm ?_
         refine dp (pv_idxS (by kernel_rfl) rfl rfl hk) ?_
         refine dp (pv_gtrB (b := 57) rfl rfl) ?_
         refine dk' ?_
         refine dk' ?_
         refine D_end (hK12 _ _ ?_)
         refine W_if rfl (fun c8 => ?_) (fun c8 => ?_)
         ·
          refine W_seq fun K14 hK14 => ?_
          refine wr ?_
          refine da ?_
          refine D_end (hK14 _ _ ?_)
          refine W_ret ?_
          try dsimp only [then', inBlk, noGo]
          refine ro ?_
          refine ⟨?_, hx⟩
          first
          | (rw [List.take_of_length_le (by omega)] at ha; rw [typeS_ok (by omega) (by simpa using c3) ha])
          | rw [typeS_bad hk (typC_no (by simpa using c5) c6 (by first | exact .inl c7 | exact .inr c8))]
         ·
          refine W_skip ?_
          refine hK11 _ _ ?_
          refine wr ?_
          refine dm ?_
          refine dp (pv_add rfl rfl (by unfold inI64; omega)) ?_
          refine da ?_
          refine D_end (?_)
          refine ⟨k + 1, ⟨rfl, rfl, trivial⟩, ⟨hx, by omega, by omega, all_take hk ha ?_⟩, by omega⟩
          first | exact typC_let (by simpa using c5) | exact typC_dash (Decidable.not_not.1 c6) | exact typC_dig c7 c8
       ·
        iterate 10 refine dk ?_
        refine dk' ?_
        refine D_end (hK12 _ _ ?_)
        refine W_f rfl ?_
        refine W_skip ?_
        refine hK11 _ _ ?_
        refine wr ?_
        refine dm ?_
        refine dp (pv_add rfl rfl (by unfold inI64; omega)) ?_
        refine da ?_
        refine D_end (?_)
        refine ⟨k + 1, ⟨rfl, rfl, trivial⟩, ⟨hx, by omega, by omega, all_take hk ha ?_⟩, by omega⟩
        first | exact typC_let (by simpa using c5) | exact typC_dash (Decidable.not_not.1 c6) | exact typC_dig c7 c8
      ·
       iterate 4 refine dk ?_
       refine dk' ?_
       refine dm ?_
       iterate 10 refine dk ?_
       refine dk' ?_
       refine D_end (hK12 _ _ ?_)
       refine W_f rfl ?_
       refine W_skip ?_
       refine hK11 _ _ ?_
       refine wr ?_
       refine dm ?_
       refine dp (pv_add rfl rfl (by unfold inI64; omega)) ?_
       refine da ?_
       refine D_end (?_)
       refine ⟨k + 1, ⟨rfl, rfl, trivial⟩, ⟨hx, by omega, by omega, all_take hk ha ?_⟩, by omega⟩
       first | exact typC_let (by simpa using c5) | exact typC_dash (Decidable.not_not.1 c6) | exact typC_dig c7 c8
     ·
      refine W_exit ?_
      refine hK7 _ _ ?_
      refine W_seq fun K15 hK15 => ?_
      refine wr ?_
      refine da ?_
      refine D_end (hK15 _ _ ?_)
      refine W_ret ?_
      try dsimp only [then', inBlk, noGo]
      refine ro ?_
      refine ⟨?_, hx⟩
      first
      | (rw [List.take_of_length_le (by omega)] at ha; rw [typeS_ok (by omega) (by simpa using c3) ha])
      | rw [typeS_bad hk (typC_no (by simpa using c5) c6 (by first | exact .inl c7 | exact .inr c8))]

set_option maxRecDepth 100000 in
set_option maxHeartbeats 1000000 in
theorem fold_w (s : Str) (w : World) (hs : s.length ≤ 1000000) :
  Calls Tryz.prog 63 [S s].toArray w (Pure w (S (foldS s))) := by
 refine calls_W Tryz.func63 rfl rfl rfl (by kernel_rfl) ?_
 have hx := Ext.refl w
 refine W_seq fun K1 hK1 => ?_
 refine wr ?_
 refine da ?_
 refine D_end (hK1 _ _ ?_)
 refine W_seq fun K2 hK2 => ?_
 refine wr ?_
 refine da ?_
 refine D_end (hK2 _ _ ?_)
 refine W_seq fun K3 hK3 => ?_
 refine W_seq fun K4 hK4 => ?_
 refine wr ?_
 refine dm ?_
 refine dp (pv_lenS (by kernel_rfl) rfl) ?_
 refine dm ?_
 refine D_end (hK4 _ _ ?_)
 refine W_block ?_
 refine W_loop (G := Nat × Value) (fun (k, vm) => [(0, S s), (2, S []), (3, vm), (8, I ↑s.length), (9, I ↑k)]) (fun (k, vm) w' => Ext w w' ∧ k ≤ s.length ∧ Own encB 1 5 w.heap.size w' vm ((s.take k).foldl foldStep [])) (fun (k, vm) => s.length - k) (0, .slice none 0 0) ?_ ?_ ?_
 ·
  exact ⟨rfl, rfl, rfl, rfl, rfl, trivial⟩
 ·
  exact ⟨hx, Nat.zero_le _, Own.nil⟩
 ·
  intro X1 g1 w1 hF1
  obtain ⟨k, vm⟩ := g1
  clear hx
  obtain ⟨hx, hk1, ho⟩ := hF1
  have hfl := foldl_lenB (s.take k) []
  have htl : (s.take k).length ≤ k := List.length_take_le ..
  simp only [List.length_nil] at hfl
  have hoA := ho.arr (enc := encB) (by intro x; rfl)
  refine W_seq fun K5 hK5 => ?_
  refine wr ?_
  refine dp (pv_lss rfl rfl) ?_
  refine D_end (hK5 _ _ ?_)
  refine W_seq fun K6 hK6 => ?_
  refine W_if rfl (fun c1 => ?_) (fun c1 => ?_)
  ·
   obtain ⟨c, hk⟩ : ∃ c, s[k]? = some c := ⟨_, List.getElem?_eq_getElem (by omega)⟩
   refine W_skip ?_
   refine hK6 _ _ ?_
   refine W_seq fun K7 hK7 => ?_
   refine W_block ?_
   refine W_seq fun K8 hK8 => ?_
   refine wr ?_
   refine dm ?_
   refine da ?_
   refine D_end (hK8 _ _ ?_)
   refine W_seq fun K9 hK9 => ?_
   refine wr ?_
   iterate 2 refine dm ?_
   refine dp (pv_idxS (by kernel_rfl) rfl rfl hk) ?_
   refine da ?_
   refine D_end (hK9 _ _ ?_)
   refine W_cut (G := UInt8) (fun e => [(0, S s), (2, S []), (3, vm), (5, b8 e), (8, I ↑(s).length), (9, I ↑k)]) (fun e w' => Ext w w' ∧ Own encB 1 5 w.heap.size w' vm ((s.take k).foldl foldStep []) ∧ lowB c = e ∧ ¬ (c = 32 ∧ (((s.take k).foldl foldStep []) = [] ∨ ((s.take k).foldl foldStep []).getLast? = some 32))) ?_ ?_
   ·
    refine W_block ?_
    refine W_seq fun K10 hK10 => ?_
    refine wr ?_
    refine dm ?_
    refine dp (pv_eqlB (b := 32) rfl rfl) ?_
    refine dm ?_
    refine D_splitP 18 rfl (fun c2 => ?_) (fun c2 => ?_)
    ·
     refine dm ?_
     refine dp (pv_lenV (e := 5) (k := 1) (by kernel_rfl) hoA.sl rfl) ?_
     refine dp (pv_eql rfl rfl) ?_
     refine dm ?_
     refine D_splitP 22 rfl (fun c3 => ?_) (fun c3 => ?_)
     ·
      iterate 7 refine dk ?_
      refine dk' ?_
      refine dk' ?_
      refine da ?_
      refine D_end (hK10 _ _ ?_)
      refine W_t rfl ?_
      refine W_exit ?_
      refine hK7 _ _ ?_
      refine wr ?_
      refine dp (pv_add rfl rfl (by unfold inI64; omega)) ?_
      refine dm ?_
      refine D_end (?_)
      refine ⟨(k + 1, vm), ⟨rfl, rfl, rfl, rfl, rfl, trivial⟩, ⟨hx, by omega, ?_⟩, by simp only []; omega⟩
      rw [fold_take hk, fold_skip c2 (.inl (List.eq_nil_of_length_eq_zero (by omega)))]; exact ho
     ·
      obtain ⟨d, hdl, hd⟩ := last_at (b := ((s.take k).foldl foldStep [])) (by intro e; rw [e] at c3; first | exact c3 rfl | exact absurd c3 (by decide))
      have hlen1 : 1 ≤ ((s.take k).foldl foldStep []).length := by rcases Nat.eq_zero_or_pos ((s.take k).foldl foldStep []).length with h | h; (rw [List.eq_nil_of_length_eq_zero h] at hd; cases hd); exact h
      iterate 2 refine dm ?_
      refine dp (pv_lenV (e := 5) (k := 1) (by kernel_rfl) hoA.sl rfl) ?_
      refine D_pe (v := I ↑(((s.take k).foldl foldStep []).length - 1)) rfl (pv_sub rfl rfl (by unfold inI64; omega)) (by show I _ = I _; congr 1; omega) ?_
      refine dp (pv_idxA (e := 5) (k := 1) (by kernel_rfl) hoA.sl rfl rfl (hoA.lt hd)) ?_
      refine dq (lv_load (by kernel_rfl) rfl ((hoA.row hd).at0 rfl)) ?_
      refine dp (pv_eqlB (b := 32) rfl rfl) ?_
      refine dk' ?_
      refine dk' ?_
      refine da ?_
      refine D_end (hK10 _ _ ?_)
      refine W_if rfl (fun c4 => ?_) (fun c4 => ?_)
      ·
       refine W_exit ?_
       refine hK7 _ _ ?_
       refine wr ?_
       refine dp (pv_add rfl rfl (by unfold inI64; omega)) ?_
       refine dm ?_
       refine D_end (?_)
       refine ⟨(k + 1, vm), ⟨rfl, rfl, rfl, rfl, rfl, trivial⟩, ⟨hx, by omega, ?_⟩, by simp only []; omega⟩
       rw [fold_take hk, fold_skip c2 (.inr (by rw [hdl, c4]))]; exact ho
      ·
       refine W_seq fun K11 hK11 => ?_
       refine wr ?_
       refine dm ?_
       refine dp (pv_geqB (b := 65) rfl rfl) ?_
       refine dm ?_
       refine D_splitP 35 rfl (fun c5 => ?_) (fun c5 => ?_)
       ·
        refine dm ?_
        refine dp (pv_leqB (b := 90) rfl rfl) ?_
        refine dk' ?_
        refine da ?_
        refine D_end (hK11 _ _ ?_)
        refine W_if rfl (fun c6 => ?_) (fun c6 => ?_)
        ·
         refine wr ?_
         refine dm ?_
         refine dp (pv_addB (b := 32) rfl rfl) ?_
         refine da ?_
         refine D_end (?_)
         first | exact ⟨c + 32, ⟨rfl, rfl, rfl, rfl, rfl, rfl, trivial⟩, hx, ho, low_up (by assumption) (by assumption), (by rintro ⟨h1, h2⟩; first | exact absurd h1 (by assumption) | (rcases h2 with h2 | h2; (rw [h2] at c3; exact c3 rfl); (rw [hdl] at h2; exact c4 (Option.some.inj h2))))⟩ | exact ⟨c, ⟨rfl, rfl, rfl, rfl, rfl, rfl, trivial⟩, hx, ho, low_same (by intro h; first | exact absurd h.1 (by assumption) | exact absurd h.2 (by assumption)), (by rintro ⟨h1, h2⟩; first | exact absurd h1 (by assumption) | (rcases h2 with h2 | h2; (rw [h2] at c3; exact c3 rfl); (rw [hdl] at h2; exact c4 (Option.some.inj h2))))⟩
        ·
         refine W_skip ?_
         first | exact ⟨c + 32, ⟨rfl, rfl, rfl, rfl, rfl, rfl, trivial⟩, hx, ho, low_up (by assumption) (by assumption), (by rintro ⟨h1, h2⟩; first | exact absurd h1 (by assumption) | (rcases h2 with h2 | h2; (rw [h2] at c3; exact c3 rfl); (rw [hdl] at h2; exact c4 (Option.some.inj h2))))⟩ | exact ⟨c, ⟨rfl, rfl, rfl, rfl, rfl, rfl, trivial⟩, hx, ho, low_same (by intro h; first | exact absurd h.1 (by assumption) | exact absurd h.2 (by assumption)), (by rintro ⟨h1, h2⟩; first | exact absurd h1 (by assumption) | (rcases h2 with h2 | h2; (rw [h2] at c3; exact c3 rfl); (rw [hdl] at h2; exact c4 (Option.some.inj h2))))⟩
       ·
        iterate 2 refine dk ?_
        refine dk' ?_
        refine da ?_
        refine D_end (hK11 _ _ ?_)
        refine W_f rfl ?_
        refine W_skip ?_
        first | exact ⟨c + 32, ⟨rfl, rfl, rfl, rfl, rfl, rfl, trivial⟩, hx, ho, low_up (by assumption) (by assumption), (by rintro ⟨h1, h2⟩; first | exact absurd h1 (by assumption) | (rcases h2 with h2 | h2; (rw [h2] at c3; exact c3 rfl); (rw [hdl] at h2; exact c4 (Option.some.inj h2))))⟩ | exact ⟨c, ⟨rfl, rfl, rfl, rfl, rfl, rfl, trivial⟩, hx, ho, low_same (by intro h; first | exact absurd h.1 (by assumption) | exact absurd h.2 (by assumption)), (by rintro ⟨h1, h2⟩; first | exact absurd h1 (by assumption) | (rcases h2 with h2 | h2; (rw [h2] at c3; exact c3 rfl); (rw [hdl] at h2; exact c4 (Option.some.inj h2))))⟩
    ·
     iterate 12 refine dk ?_
     refine dk' ?_
     refine da ?_
     refine D_end (hK10 _ _ ?_)
     refine W_f rfl ?_
     refine W_seq fun K12 hK12 => ?_
     refine wr ?_
     refine dm ?_
     refine dp (pv_geqB (b := 65) rfl rfl) ?_
     refine dm ?_
     refine D_splitP 35 rfl (fun c7 => ?_) (fun c7 => ?_)
     ·
      refine dm ?_
      refine dp (pv_leqB (b := 90) rfl rfl) ?_
      refine dk' ?_
      refine da ?_
      refine D_end (hK12 _ _ ?_)
      refine W_if rfl (fun c8 => ?_) (fun c8 => ?_)
      ·
       refine wr ?_
       refine dm ?_
       refine dp (pv_addB (b := 32) rfl rfl) ?_
       refine da ?_
       refine D_end (?_)
       first | exact ⟨c + 32, ⟨rfl, rfl, rfl, rfl, rfl, rfl, trivial⟩, hx, ho, low_up (by assumption) (by assumption), (by rintro ⟨h1, h2⟩; first | exact absurd h1 (by assumption) | (rcases h2 with h2 | h2; (rw [h2] at c3; exact c3 rfl); (rw [hdl] at h2; exact c4 (Option.some.inj h2))))⟩ | exact ⟨c, ⟨rfl, rfl, rfl, rfl, rfl, rfl, trivial⟩, hx, ho, low_same (by intro h; first | exact absurd h.1 (by assumption) | exact absurd h.2 (by assumption)), (by rintro ⟨h1, h2⟩; first | exact absurd h1 (by assumption) | (rcases h2 with h2 | h2; (rw [h2] at c3; exact c3 rfl); (rw [hdl] at h2; exact c4 (Option.some.inj h2))))⟩
      ·
       refine W_skip ?_
       first | exact ⟨c + 32, ⟨rfl, rfl, rfl, rfl, rfl, rfl, trivial⟩, hx, ho, low_up (by assumption) (by assumption), (by rintro ⟨h1, h2⟩; first | exact absurd h1 (by assumption) | (rcases h2 with h2 | h2; (rw [h2] at c3; exact c3 rfl); (rw [hdl] at h2; exact c4 (Option.some.inj h2))))⟩ | exact ⟨c, ⟨rfl, rfl, rfl, rfl, rfl, rfl, trivial⟩, hx, ho, low_same (by intro h; first | exact absurd h.1 (by assumption) | exact absurd h.2 (by assumption)), (by rintro ⟨h1, h2⟩; first | exact absurd h1 (by assumption) | (rcases h2 with h2 | h2; (rw [h2] at c3; exact c3 rfl); (rw [hdl] at h2; exact c4 (Option.some.inj h2))))⟩
     ·
      iterate 2 refine dk ?_
      refine dk' ?_
      refine da ?_
      refine D_end (hK12 _ _ ?_)
      refine W_f rfl ?_
      refine W_skip ?_
      first | exact ⟨c + 32, ⟨rfl, rfl, rfl, rfl, rfl, rfl, trivial⟩, hx, ho, low_up (by assumption) (by assumption), (by rintro ⟨h1, h2⟩; first | exact absurd h1 (by assumption) | (rcases h2 with h2 | h2; (rw [h2] at c3; exact c3 rfl); (rw [hdl] at h2; exact c4 (Option.some.inj h2))))⟩ | exact ⟨c, ⟨rfl, rfl, rfl, rfl, rfl, rfl, trivial⟩, hx, ho, low_same (by intro h; first | exact absurd h.1 (by assumption) | exact absurd h.2 (by assumption)), (by rintro ⟨h1, h2⟩; first | exact absurd h1 (by assumption) | (rcases h2 with h2 | h2; (rw [h2] at c3; exact c3 rfl); (rw [hdl] at h2; exact c4 (Option.some.inj h2))))⟩
   ·
    intro X2 g2 w2 hF2
    revert hF2; revert g2; intro e hF2
    clear hx ho
    obtain ⟨hx, ho, hle, hnp⟩ := hF2
    refine wr ?_
    iterate 2 refine dm ?_
    refine D_lit (e := 5) (sz := 1) (zs := [.int .u8 0]) (pv := [(0, ?a46_0)]) (cs := [?a46_0]) rfl (by kernel_rfl) ⟨rfl, rfl⟩ (by kernel_rfl) rfl ?h46 ?f46 RX.all (fun b1 w3 e1 x3 m1 => ?k46)
    case h46 => refine ⟨rfl, ?_, trivial⟩ <;> (conv => lhs; whnf)
    case f46 => rfl
    have g1 : w.heap.size ≤ b1 := by have := hx.size; omega
    have o1_ho : ∀ k, Value.ownBlock _ = some k → k < b1 := fun k hk => by have := (ho.lt k hk).2; omega
    replace ho := ho.ext x3
    replace hx := hx.trans x3
    refine D_append (lx := [e]) (e := 5) (sz := 1) (by' := 1) rfl (by kernel_rfl) (by kernel_rfl) (by intro x; rfl) ho (m1.arr (enc := encB) (sz := 1) (l := [e]) rfl (by intro x; rfl) rfl (Nat.le_of_ble_eq_true rfl)) rfl rfl (by intro x _ u hu; simp at hu; rcases hu with rfl <;> rfl) (by simp; omega) (by decide) hx.size (.inl rfl) (fun vm2 w4 ho_n x4 => ?_)
    replace hx := hx.own x4 (fun i hi => (ho.lt i hi).1)
    replace ho := ho_n
    clear m1
    refine da ?_
    refine D_end (hK7 _ _ ?_)
    refine wr ?_
    refine dp (pv_add rfl rfl (by unfold inI64; omega)) ?_
    refine dm ?_
    refine D_end (?_)
    refine ⟨(k + 1, vm2), ⟨rfl, rfl, rfl, rfl, rfl, trivial⟩, ⟨hx, by omega, ?_⟩, by simp only []; omega⟩
    rw [fold_take hk, fold_put hnp, hle]; exact ho
  ·
   rw [List.take_of_length_le (by omega)] at ho
   have hfl2 := foldl_lenB s []
   simp only [List.length_nil] at hfl2
   have hoA := ho.arr (enc := encB) (by intro x; rfl)
   refine W_exit ?_
   refine hK3 _ _ ?_
   refine W_seq fun K13 hK13 => ?_
   refine W_seq fun K14 hK14 => ?_
   refine wr ?_
   refine dm ?_
   refine dp (pv_lenV (e := 5) (k := 1) (by kernel_rfl) hoA.sl rfl) ?_
   refine da ?_
   refine D_end (hK14 _ _ ?_)
   refine W_seq fun K15 hK15 => ?_
   refine wr ?_
   refine dm ?_
   refine dp (pv_gtr rfl rfl) ?_
   refine dm ?_
   refine D_splitP 50 rfl (fun c9 => ?_) (fun c9 => ?_)
   ·
    obtain ⟨d, hdl, hd⟩ := last_at (b := (s.foldl foldStep [])) (by intro e; rw [e] at c9; first | exact c9 rfl | exact absurd c9 (by decide))
    have hlen1 : 1 ≤ (s.foldl foldStep []).length := by rcases Nat.eq_zero_or_pos (s.foldl foldStep []).length with h | h; (rw [List.eq_nil_of_length_eq_zero h] at hd; cases hd); exact h
    iterate 2 refine dm ?_
    refine D_pe (v := I ↑((s.foldl foldStep []).length - 1)) rfl (pv_sub rfl rfl (by unfold inI64; omega)) (by show I _ = I _; congr 1; omega) ?_
    refine dp (pv_idxA (e := 5) (k := 1) (by kernel_rfl) hoA.sl rfl rfl (hoA.lt hd)) ?_
    refine dq (lv_load (by kernel_rfl) rfl ((hoA.row hd).at0 rfl)) ?_
    refine dp (pv_eqlB (b := 32) rfl rfl) ?_
    refine dk' ?_
    refine D_end (hK15 _ _ ?_)
    refine W_if rfl (fun c10 => ?_) (fun c10 => ?_)
    ·
     refine wr ?_
     iterate 2 refine dm ?_
     refine D_pe (v := I ↑((s.foldl foldStep []).length - 1)) rfl (pv_sub rfl rfl (by unfold inI64; omega)) (by show I _ = I _; congr 1; omega) ?_
     refine dp (pv_slV (e := 5) (k := 1) (by kernel_rfl) hoA.sl rfl rfl rfl (Nat.zero_le _) (by omega)) ?_
     refine da ?_
     refine D_end (hK13 _ _ ?_)
     refine W_seq fun K16 hK16 => ?_
     refine W_reg [.p, .l, .p] rfl ?_
     refine dm ?_
     refine dq (lv_b2s (by kernel_rfl) (by kernel_rfl) ((by first | exact ho.arr (by intro x; rfl) | exact (ho.arr (by intro x; rfl)).slice (Nat.zero_le _) (by omega))) rfl) ?_
     refine da ?_
     refine D_end (hK16 _ _ ?_)
     refine W_ret ?_
     try dsimp only [then', inBlk, noGo]
     refine ro ?_
     refine ⟨?_, hx⟩
     congr 2
     unfold foldS stripB
     first
     | rw [if_neg (fun h => by rw [hdl] at h; exact absurd (Option.some.inj h) (by assumption))]
     | (rw [if_pos (by rw [hdl]; congr 1), List.dropLast_eq_take, List.drop_zero])
     | (rw [if_neg]; intro h; have e : s.foldl foldStep [] = [] := List.eq_nil_of_length_eq_zero (by omega); rw [e] at h; cases h)
    ·
     refine W_skip ?_
     refine hK13 _ _ ?_
     refine W_seq fun K17 hK17 => ?_
     refine W_reg [.p, .l, .p] rfl ?_
     refine dm ?_
     refine dq (lv_b2s (by kernel_rfl) (by kernel_rfl) ((by first | exact ho.arr (by intro x; rfl) | exact (ho.arr (by intro x; rfl)).slice (Nat.zero_le _) (by omega))) rfl) ?_
     refine da ?_
     refine D_end (hK17 _ _ ?_)
     refine W_ret ?_
     try dsimp only [then', inBlk, noGo]
     refine ro ?_
     refine ⟨?_, hx⟩
     congr 2
     unfold foldS stripB
     first
     | rw [if_neg (fun h => by rw [hdl] at h; exact absurd (Option.some.inj h) (by assumption))]
     | (rw [if_pos (by rw [hdl]; congr 1), List.dropLast_eq_take, List.drop_zero])
     | (rw [if_neg]; intro h; have e : s.foldl foldStep [] = [] := List.eq_nil_of_length_eq_zero (by omega); rw [e] at h; cases h)
   ·
    iterate 6 refine dk ?_
    refine dk' ?_
    refine D_end (hK15 _ _ ?_)
    refine W_f rfl ?_
    refine W_skip ?_
    refine hK13 _ _ ?_
    refine W_seq fun K18 hK18 => ?_
    refine W_reg [.p, .l, .p] rfl ?_
    refine dm ?_
    refine dq (lv_b2s (by kernel_rfl) (by kernel_rfl) ((by first | exact ho.arr (by intro x; rfl) | exact (ho.arr (by intro x; rfl)).slice (Nat.zero_le _) (by omega))) rfl) ?_
    refine da ?_
    refine D_end (hK18 _ _ ?_)
    refine W_ret ?_
    try dsimp only [then', inBlk, noGo]
    refine ro ?_
    refine ⟨?_, hx⟩
    congr 2
    unfold foldS stripB
    first
    | rw [if_neg (fun h => by rw [hdl] at h; exact absurd (Option.some.inj h) (by assumption))]
    | (rw [if_pos (by rw [hdl]; congr 1), List.dropLast_eq_take, List.drop_zero])
    | (rw [if_neg]; intro h; have e : s.foldl foldStep [] = [] := List.eq_nil_of_length_eq_zero (by omega); rw [e] at h; cases h)

end Go.Proofs.YteninjhmmjkckaaGreatDoor
