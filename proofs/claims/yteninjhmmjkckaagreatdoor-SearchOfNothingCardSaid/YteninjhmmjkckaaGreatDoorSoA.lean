/-
  Walks.
-/
import Derived.Test.YteninjhmmjkckaaGreatDoorChecked
import Derived.Test.YteninjhmmjkckaaGreatDoorSpMem
import Derived.KernelRfl
import Derived.Test.YteninjhmmjkckaaGreatDoorLoC
import Derived.Test.YteninjhmmjkckaaGreatDoorLoR
import Derived.Test.YteninjhmmjkckaaGreatDoorFlA
import Derived.Test.YteninjhmmjkckaaGreatDoorScA
namespace Go.Proofs.YteninjhmmjkckaaGreatDoor
open Go.Vc Go.Sp
attribute [local irreducible] W XW Dw DwT
set_option linter.unusedVariables false
set_option linter.unusedSimpArgs false

theorem any_takeA {s : List Ava} {p : Ava → Bool} {k : Nat} {c : Ava} (h : s[k]? = some c) (ha : (s.take k).any p = false) (hp : p c = false) : (s.take (k + 1)).any p = false := by
  rw [take_snocS h, List.any_append, ha]; simp [hp]
theorem any_atA {s : List Ava} {p : Ava → Bool} {k : Nat} {c : Ava} (h : s[k]? = some c) (hp : p c = true) : s.any p = true := List.any_eq_true.2 ⟨c, List.mem_of_getElem? h, hp⟩
theorem all_takeA {s : List Ava} {p : Ava → Bool} {k : Nat} {c : Ava} (h : s[k]? = some c) (ha : (s.take k).all p = true) (hp : p c = true) : (s.take (k + 1)).all p = true := by
  rw [take_snocS h, List.all_append, ha]; simp [hp]
theorem isN_no {l : List Ava} {k : Nat} {a : Ava} (hk : l[k]? = some a) (h : okAva a = false) : isN l = false := by
  unfold isN
  rw [Bool.eq_false_iff]
  intro hh
  rw [Bool.and_eq_true] at hh
  have := List.all_eq_true.1 hh.2 a (List.mem_of_getElem? hk)
  rw [h] at this; cases this
theorem val_nil {s : Str} (h : (s.length : Int) < 1) : s = [] := List.eq_nil_of_length_eq_zero (by omega)
theorem val_ne {s : Str} (h : ¬ (s.length : Int) < 1) : s ≠ [] := by rintro rfl; simp at h
theorem typeV_parts (s : Str) : typeV (typeM s) = .tuple #[S (tC s), I (tY s), B (tG s), B (tOk s)] := by
  unfold typeM tC tY tG tOk
  cases h : kindM (foldS s) with
  | none => simp [typeV]
  | some p => simp [typeV]
theorem typeT_w (s : Str) (w : World) (hs : s.length ≤ 1000000) : Calls Tryz.prog 85 [S s].toArray w (Pure w (.tuple #[S (tC s), I (tY s), B (tG s), B (tOk s)])) := by
  rw [← typeV_parts]; exact typeM_w s w hs
def sufL : List Ava := [⟨[111], [120]⟩]
theorem suf_is : isN sufL = true := by decide

set_option maxRecDepth 100000 in
set_option maxHeartbeats 1000000 in
theorem is1_w (a : Ava) (w : World) :
  Calls Tryz.prog 18 [.agg ⟨a.cs⟩].toArray w (Pure w (B (!okAva a))) := by
 refine calls_W Tryz.func18 rfl rfl rfl (by kernel_rfl) ?_
 have hx := Ext.refl w
 refine W_seq fun K1 hK1 => ?_
 refine wr ?_
 refine D_box rfl rfl rfl RX.all (fun b1 w1 e1 x1 m1 => ?_)
 have g1 : w.heap.size ≤ b1 := by have := hx.size; omega
 replace hx := hx.trans x1
 refine da ?_
 refine D_end (hK1 _ _ ?_)
 refine W_seq fun K2 hK2 => ?_
 refine wr ?_
 refine dp (pv_fieldA (k := 0) (by kernel_rfl) rfl) ?_
 refine dq (lv_load (by kernel_rfl) rfl (m1.at rfl)) ?_
 refine D_callP rfl (by kernel_rfl) (type_w a.typ _) rfl RX.all (fun w2 x2 => ?_)
 replace m1 := m1.ext x2
 replace hx := hx.trans x2
 refine dn ?_
 refine dm ?_
 refine D_split 7 rfl (fun c1 => ?_) (fun c1 => ?_)
 ·
  iterate 3 refine dk ?_
  refine dk' ?_
  refine dm ?_
  iterate 4 refine dk ?_
  refine dk' ?_
  refine da ?_
  refine D_end (hK2 _ _ ?_)
  refine W_ret ?_
  try dsimp only [then', inBlk, noGo]
  refine ro ?_
  refine ⟨?_, hx⟩
  simp [okAva, *] <;> omega
 ·
  refine dp (pv_fieldA (k := 1) (by kernel_rfl) rfl) ?_
  refine dq (lv_load (by kernel_rfl) rfl (m1.at rfl)) ?_
  refine dp (pv_seq rfl rfl) ?_
  refine dk' ?_
  refine dm ?_
  refine D_splitP 12 rfl (fun c2 => ?_) (fun c2 => ?_)
  ·
   iterate 4 refine dk ?_
   refine dk' ?_
   refine da ?_
   refine D_end (hK2 _ _ ?_)
   refine W_ret ?_
   try dsimp only [then', inBlk, noGo]
   refine ro ?_
   refine ⟨?_, hx⟩
   simp [okAva, *] <;> omega
  ·
   refine dp (pv_fieldA (k := 1) (by kernel_rfl) rfl) ?_
   refine dq (lv_load (by kernel_rfl) rfl (m1.at rfl)) ?_
   refine dp (pv_lenS (by kernel_rfl) rfl) ?_
   refine dp (pv_gtr rfl rfl) ?_
   refine dk' ?_
   refine da ?_
   refine D_end (hK2 _ _ ?_)
   refine W_ret ?_
   try dsimp only [then', inBlk, noGo]
   refine ro ?_
   refine ⟨?_, hx⟩
   simp [okAva, *] <;> omega

set_option maxRecDepth 100000 in
set_option maxHeartbeats 1000000 in
theorem indexf_w (l : List Ava) (v : Value) (w : World) (hv : Arr Ava.cs 2 w v l) (hl : l.length ≤ 1000000) :
  Calls Tryz.prog 38 [v, fnV 18].toArray w (Gives w (fun u _ => ∃ i : Int, u = I i ∧ (0 ≤ i ↔ l.any (fun a => !okAva a) = true))) := by
 refine calls_W Tryz.func38 rfl rfl rfl (by kernel_rfl) ?_
 have hx := Ext.refl w
 refine W_seq fun K1 hK1 => ?_
 refine wr ?_
 refine da ?_
 refine D_end (hK1 _ _ ?_)
 refine W_seq fun K2 hK2 => ?_
 refine W_seq fun K3 hK3 => ?_
 refine wr ?_
 refine dm ?_
 refine dp (pv_lenV (e := 48) (k := 2) (by kernel_rfl) hv.sl rfl) ?_
 refine dm ?_
 refine D_end (hK3 _ _ ?_)
 refine W_block ?_
 refine W_loop (G := Nat) (fun k => [(0, v), (1, fnV 18), (7, I ↑l.length), (8, I ↑k)]) (fun k w' => Ext w w' ∧ k ≤ l.length ∧ (l.take k).any (fun a => !okAva a) = false) (fun k => l.length - k) 0 ?_ ?_ ?_
 ·
  exact ⟨rfl, rfl, rfl, rfl, trivial⟩
 ·
  exact ⟨hx, Nat.zero_le _, rfl⟩
 ·
  intro X1 g1 w1 hF1
  revert hF1; revert g1; intro k hF1
  clear hx
  obtain ⟨hx, hk1, ha⟩ := hF1
  refine W_seq fun K4 hK4 => ?_
  refine wr ?_
  refine dp (pv_lss rfl rfl) ?_
  refine D_end (hK4 _ _ ?_)
  refine W_seq fun K5 hK5 => ?_
  refine W_if rfl (fun c1 => ?_) (fun c1 => ?_)
  ·
   obtain ⟨a, hk⟩ : ∃ a, l[k]? = some a := ⟨_, List.getElem?_eq_getElem (by omega)⟩
   refine W_skip ?_
   refine hK5 _ _ ?_
   refine W_seq fun K6 hK6 => ?_
   refine W_block ?_
   refine W_seq fun K7 hK7 => ?_
   refine wr ?_
   refine dm ?_
   refine da ?_
   refine D_end (hK7 _ _ ?_)
   refine W_seq fun K8 hK8 => ?_
   refine wr ?_
   iterate 3 refine dm ?_
   refine dp (pv_idxA (e := 48) (k := 2) (by kernel_rfl) hv.sl rfl rfl (hv.lt hk)) ?_
   refine dq (lv_loadA (by kernel_rfl) rfl rfl ((hv.ext hx).row hk)) ?_
   refine D_callVP rfl rfl (by kernel_rfl) (is1_w a _) rfl RX.all (fun w2 x2 => ?_)
   replace hx := hx.trans x2
   refine D_end (hK8 _ _ ?_)
   refine W_cond rfl (fun c2 => ?_) (fun c2 => ?_)
   ·
    refine W_seq fun K9 hK9 => ?_
    refine wr ?_
    refine dm ?_
    refine da ?_
    refine D_end (hK9 _ _ ?_)
    refine W_ret ?_
    try dsimp only [then', inBlk, noGo]
    refine ro ?_
    refine ⟨_, rfl, hx, _, rfl, ?_⟩
    rw [any_atA hk c2]; simp
   ·
    refine W_skip ?_
    refine hK6 _ _ ?_
    refine wr ?_
    refine dp (pv_add rfl rfl (by unfold inI64; omega)) ?_
    refine dm ?_
    refine D_end (?_)
    refine ⟨k + 1, ⟨rfl, rfl, rfl, rfl, trivial⟩, ⟨hx, by omega, any_takeA hk ha (by simpa using c2)⟩, by omega⟩
  ·
   refine W_exit ?_
   refine hK2 _ _ ?_
   refine W_seq fun K10 hK10 => ?_
   refine wr ?_
   refine da ?_
   refine D_end (hK10 _ _ ?_)
   refine W_ret ?_
   try dsimp only [then', inBlk, noGo]
   refine ro ?_
   refine ⟨_, rfl, hx, -1, rfl, ?_⟩
   rw [List.take_of_length_le (by omega)] at ha
   rw [ha]; simp

set_option maxRecDepth 100000 in
set_option maxHeartbeats 1000000 in
theorem contf_w (l : List Ava) (v : Value) (w : World) (hv : Arr Ava.cs 2 w v l) (hl : l.length ≤ 1000000) :
  Calls Tryz.prog 17 [v, fnV 18].toArray w (Pure w (B (l.any fun a => !okAva a))) := by
 refine calls_W Tryz.func17 rfl rfl rfl (by kernel_rfl) ?_
 have hx := Ext.refl w
 refine W_seq fun K1 hK1 => ?_
 refine wr ?_
 refine da ?_
 refine D_end (hK1 _ _ ?_)
 refine W_seq fun K2 hK2 => ?_
 refine wr ?_
 iterate 2 refine dm ?_
 refine D_callG rfl (by kernel_rfl) (indexf_w l v _ (hv.ext hx) hl) rfl RX.all (fun u1 w1 x1 hf1 => ?_)
 have hsz1 := hx.size
 replace hx := hx.trans x1
 obtain ⟨i, rfl, hi⟩ := hf1
 refine dp (pv_geq rfl rfl) ?_
 refine da ?_
 refine D_end (hK2 _ _ ?_)
 refine W_ret ?_
 try dsimp only [then', inBlk, noGo]
 refine ro ?_
 refine ⟨?_, hx⟩
 congr 2
 rw [Bool.eq_iff_iff, decide_eq_true_iff]; exact hi

set_option maxRecDepth 100000 in
set_option maxHeartbeats 1000000 in
theorem isN_w (l : List Ava) (v : Value) (w : World) (hv : Arr Ava.cs 2 w v l) (hl : l.length ≤ 1000000) :
  Calls Tryz.prog 8 [v].toArray w (Pure w (B (isN l))) := by
 refine calls_W Tryz.func8 rfl rfl rfl (by kernel_rfl) ?_
 have hx := Ext.refl w
 refine W_seq fun K1 hK1 => ?_
 refine wr ?_
 refine da ?_
 refine D_end (hK1 _ _ ?_)
 refine W_seq fun K2 hK2 => ?_
 refine wr ?_
 refine dm ?_
 refine dp (pv_lenV (e := 48) (k := 2) (by kernel_rfl) hv.sl rfl) ?_
 refine dp (pv_leq rfl rfl) ?_
 refine dm ?_
 refine D_splitP 6 rfl (fun c1 => ?_) (fun c1 => ?_)
 ·
  refine dm ?_
  refine D_callP rfl (by kernel_rfl) (contf_w l v _ (hv.ext hx) hl) rfl RX.all (fun w1 x1 => ?_)
  replace hx := hx.trans x1
  refine dn ?_
  refine dk' ?_
  refine da ?_
  refine D_end (hK2 _ _ ?_)
  refine W_ret ?_
  try dsimp only [then', inBlk, noGo]
  refine ro ?_
  refine ⟨?_, hx⟩
  have e : (!l.any fun a => !okAva a) = l.all okAva := by rw [List.not_any_eq_all_not]; congr 1; funext a; simp
  unfold isN
  rw [← e]
  first | (rw [decide_eq_true (show l.length ≤ 12 by omega)]; rfl) | (rw [decide_eq_false (show ¬ l.length ≤ 12 by omega)]; rfl)
 ·
  iterate 3 refine dk ?_
  refine dk' ?_
  refine da ?_
  refine D_end (hK2 _ _ ?_)
  refine W_ret ?_
  try dsimp only [then', inBlk, noGo]
  refine ro ?_
  refine ⟨?_, hx⟩
  have e : (!l.any fun a => !okAva a) = l.all okAva := by rw [List.not_any_eq_all_not]; congr 1; funext a; simp
  unfold isN
  rw [← e]
  first | (rw [decide_eq_true (show l.length ≤ 12 by omega)]; rfl) | (rw [decide_eq_false (show ¬ l.length ≤ 12 by omega)]; rfl)

set_option maxRecDepth 100000 in
set_option maxHeartbeats 1000000 in
theorem rIsN_w (l : List Ava) (v : Value) (w : World) (hv : Arr Ava.cs 2 w v l) (hl : l.length ≤ 1000000) :
  Calls Tryz.prog 84 [v].toArray w (Pure w (B (isN l))) := by
 refine calls_W Tryz.func84 rfl rfl rfl (by kernel_rfl) ?_
 have hx := Ext.refl w
 refine W_seq fun K1 hK1 => ?_
 refine wr ?_
 refine da ?_
 refine D_end (hK1 _ _ ?_)
 refine W_seq fun K2 hK2 => ?_
 refine W_seq fun K3 hK3 => ?_
 refine wr ?_
 refine dm ?_
 refine dp (pv_lenV (e := 48) (k := 2) (by kernel_rfl) hv.sl rfl) ?_
 refine dp (pv_gtr rfl rfl) ?_
 refine D_end (hK3 _ _ ?_)
 refine W_if rfl (fun c1 => ?_) (fun c1 => ?_)
 ·
  refine W_seq fun K4 hK4 => ?_
  refine wr ?_
  refine da ?_
  refine D_end (hK4 _ _ ?_)
  refine W_ret ?_
  try dsimp only [then', inBlk, noGo]
  refine ro ?_
  refine ⟨?_, hx⟩
  unfold isN
  rw [decide_eq_false (show ¬ l.length ≤ 12 by omega)]; rfl
 ·
  refine W_skip ?_
  refine hK2 _ _ ?_
  refine W_seq fun K5 hK5 => ?_
  refine W_seq fun K6 hK6 => ?_
  refine wr ?_
  refine da ?_
  refine D_end (hK6 _ _ ?_)
  refine W_block ?_
  refine W_loop (G := Nat) (fun k => [(0, v), (3, I ↑k)]) (fun k w' => Ext w w' ∧ k ≤ l.length ∧ (l.take k).all okAva = true) (fun k => l.length - k) 0 ?_ ?_ ?_
  ·
   exact ⟨rfl, rfl, trivial⟩
  ·
   exact ⟨hx, Nat.zero_le _, rfl⟩
  ·
   intro X1 g1 w1 hF1
   revert hF1; revert g1; intro k hF1
   clear hx
   obtain ⟨hx, hk1, ha⟩ := hF1
   refine W_seq fun K7 hK7 => ?_
   refine W_seq fun K8 hK8 => ?_
   refine wr ?_
   iterate 2 refine dm ?_
   refine dp (pv_lenV (e := 48) (k := 2) (by kernel_rfl) hv.sl rfl) ?_
   refine dp (pv_lss rfl rfl) ?_
   refine D_end (hK8 _ _ ?_)
   refine W_if rfl (fun c2 => ?_) (fun c2 => ?_)
   ·
    obtain ⟨a, hk⟩ : ∃ a, l[k]? = some a := ⟨_, List.getElem?_eq_getElem (by omega)⟩
    refine W_skip ?_
    refine hK7 _ _ ?_
    refine W_seq fun K9 hK9 => ?_
    refine W_block ?_
    refine W_seq fun K10 hK10 => ?_
    refine wr ?_
    iterate 2 refine dm ?_
    refine dp (pv_idxA (e := 48) (k := 2) (by kernel_rfl) hv.sl rfl rfl (hv.lt hk)) ?_
    refine dp (pv_fieldA (k := 0) (by kernel_rfl) rfl) ?_
    refine dq (lv_load (by kernel_rfl) rfl (((hv.ext hx).row hk).at rfl)) ?_
    refine D_callP rfl (by kernel_rfl) (rtype_w a.typ _) rfl RX.all (fun w2 x2 => ?_)
    replace hx := hx.trans x2
    refine dn ?_
    refine dm ?_
    refine D_split 20 rfl (fun c3 => ?_) (fun c3 => ?_)
    ·
     iterate 7 refine dk ?_
     refine dk' ?_
     refine dm ?_
     iterate 7 refine dk ?_
     refine dk' ?_
     refine D_end (hK10 _ _ ?_)
     refine W_t rfl ?_
     refine W_seq fun K11 hK11 => ?_
     refine wr ?_
     refine da ?_
     refine D_end (hK11 _ _ ?_)
     refine W_ret ?_
     try dsimp only [then', inBlk, noGo]
     refine ro ?_
     refine ⟨?_, hx⟩
     rw [isN_no hk (by unfold okAva; simp only [Bool.not_eq_true'] at c3; rw [c3]; rfl)]
    ·
     iterate 2 refine dm ?_
     refine dp (pv_idxA (e := 48) (k := 2) (by kernel_rfl) hv.sl rfl rfl (hv.lt hk)) ?_
     refine dp (pv_fieldA (k := 1) (by kernel_rfl) rfl) ?_
     refine dq (lv_load (by kernel_rfl) rfl (((hv.ext hx).row hk).at rfl)) ?_
     refine dp (pv_lenS (by kernel_rfl) rfl) ?_
     refine dp (pv_lss rfl rfl) ?_
     refine dk' ?_
     refine dm ?_
     refine D_splitP 29 rfl (fun c4 => ?_) (fun c4 => ?_)
     ·
      iterate 7 refine dk ?_
      refine dk' ?_
      refine D_end (hK10 _ _ ?_)
      refine W_t rfl ?_
      refine W_seq fun K12 hK12 => ?_
      refine wr ?_
      refine da ?_
      refine D_end (hK12 _ _ ?_)
      refine W_ret ?_
      try dsimp only [then', inBlk, noGo]
      refine ro ?_
      refine ⟨?_, hx⟩
      rw [isN_no hk (by unfold okAva; rw [decide_eq_true (val_nil c4)]; simp)]
     ·
      iterate 2 refine dm ?_
      refine dp (pv_idxA (e := 48) (k := 2) (by kernel_rfl) hv.sl rfl rfl (hv.lt hk)) ?_
      refine dp (pv_fieldA (k := 1) (by kernel_rfl) rfl) ?_
      refine dq (lv_load (by kernel_rfl) rfl (((hv.ext hx).row hk).at rfl)) ?_
      refine dp (pv_lenS (by kernel_rfl) rfl) ?_
      refine dp (pv_gtr rfl rfl) ?_
      refine dk' ?_
      refine D_end (hK10 _ _ ?_)
      refine W_if rfl (fun c5 => ?_) (fun c5 => ?_)
      ·
       refine W_seq fun K13 hK13 => ?_
       refine wr ?_
       refine da ?_
       refine D_end (hK13 _ _ ?_)
       refine W_ret ?_
       try dsimp only [then', inBlk, noGo]
       refine ro ?_
       refine ⟨?_, hx⟩
       rw [isN_no hk (by unfold okAva; rw [decide_eq_true (show 64 < a.val.length by omega)]; simp)]
      ·
       refine W_skip ?_
       refine hK9 _ _ ?_
       refine wr ?_
       refine dm ?_
       refine dp (pv_add rfl rfl (by unfold inI64; omega)) ?_
       refine da ?_
       refine D_end (?_)
       have hok : okAva a = true := by
        unfold okAva
        simp only [Bool.not_eq_false'] at c3
        rw [c3, decide_eq_false (val_ne c4), decide_eq_false (show ¬ 64 < a.val.length by omega)]; rfl
       refine ⟨k + 1, ⟨rfl, rfl, trivial⟩, ⟨hx, by omega, all_takeA hk ha hok⟩, by omega⟩
   ·
    refine W_exit ?_
    refine hK5 _ _ ?_
    refine W_seq fun K14 hK14 => ?_
    refine wr ?_
    refine da ?_
    refine D_end (hK14 _ _ ?_)
    refine W_ret ?_
    try dsimp only [then', inBlk, noGo]
    refine ro ?_
    refine ⟨?_, hx⟩
    rw [List.take_of_length_le (by omega)] at ha
    unfold isN
    rw [decide_eq_true (show l.length ≤ 12 by omega), ha]; rfl

theorem typeCn_w (w : World) : Calls Tryz.prog 85 [S [99, 110]].toArray w (Pure w (.tuple #[S [99, 110], I 1, B false, B true])) := by
  have e : (.tuple #[S (tC [99, 110]), I (tY [99, 110]), B (tG [99, 110]), B (tOk [99, 110])] : Value) = .tuple #[S [99, 110], I 1, B false, B true] := by kernel_rfl
  rw [← e]; exact typeT_w [99, 110] w (by decide)
theorem typeNo_w (w : World) : Calls Tryz.prog 85 [S []].toArray w (Pure w (.tuple #[S [], I 0, B false, B false])) := by
  have e : (.tuple #[S (tC []), I (tY []), B (tG []), B (tOk [])] : Value) = .tuple #[S [], I 0, B false, B false] := by kernel_rfl
  rw [← e]; exact typeT_w [] w (by decide)
theorem sufIs_w (v : Value) (w : World) (hv : Arr Ava.cs 2 w v sufL) : Calls Tryz.prog 8 [v].toArray w (Pure w (B true)) := by
  have h := isN_w sufL v w hv (by decide)
  rw [suf_is] at h; exact h
theorem rsufIs_w (v : Value) (w : World) (hv : Arr Ava.cs 2 w v sufL) : Calls Tryz.prog 84 [v].toArray w (Pure w (B true)) := by
  have h := rIsN_w sufL v w hv (by decide)
  rw [suf_is] at h; exact h

set_option maxRecDepth 100000 in
set_option maxHeartbeats 1000000 in
theorem suffix_w (w : World) :
  Calls Tryz.prog 6 [].toArray w (Gives w (fun u w' => ∃ b, u = .slice (some ⟨b, 0, none⟩) 1 1 ∧ Arr Ava.cs 2 w' u sufL)) := by
 refine calls_W Tryz.func6 rfl rfl rfl (by kernel_rfl) ?_
 have hx := Ext.refl w
 refine W_seq fun K1 hK1 => ?_
 refine wr ?_
 refine da ?_
 refine D_end (hK1 _ _ ?_)
 refine W_seq fun K2 hK2 => ?_
 refine wr ?_
 refine dp (pv_build (zs := [S [], S []]) (pl := [(0, 1), (1, 1)]) (pv := [(0, ?a2_0), (1, ?a2_1)]) (cs := [?a2_0, ?a2_1]) (by kernel_rfl) (by kernel_rfl) ?h2 ?f2) ?k2
 case h2 => refine ⟨rfl, ?_, rfl, ?_, trivial⟩ <;> (conv => lhs; whnf)
 case f2 => rfl
 refine D_lit (e := 48) (sz := 2) (zs := [S [], S []]) (pv := [(0, .agg ⟨[?a3_0, ?a3_1]⟩)]) (cs := [?a3_0, ?a3_1]) rfl (by kernel_rfl) ⟨rfl, rfl⟩ (by kernel_rfl) rfl ?h3 ?f3 RX.all (fun b1 w1 e1 x1 m1 => ?k3)
 case h3 => refine ⟨rfl, ?_, trivial⟩ <;> (conv => lhs; whnf)
 case f3 => rfl
 have g1 : w.heap.size ≤ b1 := by have := hx.size; omega
 replace hx := hx.trans x1
 refine da ?_
 refine D_end (hK2 _ _ ?_)
 refine W_ret ?_
 try dsimp only [then', inBlk, noGo]
 refine ro ?_
 exact ⟨_, rfl, hx, _, rfl, m1.arr (enc := Ava.cs) (sz := 2) (l := sufL) rfl (by intro x; rfl) rfl (by decide)⟩

set_option maxRecDepth 100000 in
set_option maxHeartbeats 1000000 in
theorem isName_w (b : Nat) (w : World) (hv : Arr Ava.cs 2 w (.slice (some ⟨b, 0, none⟩) 1 1) sufL) :
  Calls Tryz.prog 82 [.slice (some ⟨b, 0, none⟩) 1 1].toArray w (Pure w (B true)) := by
 refine calls_W Tryz.func82 rfl rfl rfl (by kernel_rfl) ?_
 have hx := Ext.refl w
 refine W_seq fun K1 hK1 => ?_
 refine wr ?_
 refine da ?_
 refine D_end (hK1 _ _ ?_)
 refine W_seq fun K2 hK2 => ?_
 refine wr ?_
 refine dm ?_
 refine D_callP rfl (by kernel_rfl) (sufIs_w _ _ (hv.ext hx)) rfl RX.all (fun w1 x1 => ?_)
 replace hx := hx.trans x1
 iterate 2 refine dm ?_
 refine dp (pv_lenV (e := 48) (k := 2) (by kernel_rfl) hv.sl rfl) ?_
 refine dp (pv_gtr rfl rfl) ?_
 refine dk' ?_
 refine da ?_
 refine D_end (hK2 _ _ ?_)
 refine W_ret ?_
 try dsimp only [then', inBlk, noGo]
 refine ro ?_
 exact ⟨rfl, hx⟩

set_option maxRecDepth 100000 in
set_option maxHeartbeats 1000000 in
theorem cloneA_w (b : Nat) (w : World) (hv : Arr Ava.cs 2 w (.slice (some ⟨b, 0, none⟩) 1 1) sufL) :
  Calls Tryz.prog 83 [.slice (some ⟨b, 0, none⟩) 1 1].toArray w (Gives w (fun u w' => Arr Ava.cs 2 w' u sufL)) := by
 refine calls_W Tryz.func83 rfl rfl rfl (by kernel_rfl) ?_
 have hx := Ext.refl w
 refine W_seq fun K1 hK1 => ?_
 refine wr ?_
 refine da ?_
 refine D_end (hK1 _ _ ?_)
 refine W_seq fun K2 hK2 => ?_
 refine W_seq fun K3 hK3 => ?_
 refine wr ?_
 refine dm ?_
 refine dp (pv_eqNv (e := 48) (k := 2) (by kernel_rfl) hv.sl rfl rfl) ?_
 refine D_end (hK3 _ _ ?_)
 refine W_cond rfl (fun c1 => ?_) (fun c1 => ?_)
 ·
  exact absurd c1 (by simp [isNilV])
 ·
  refine W_skip ?_
  refine hK2 _ _ ?_
  refine W_seq fun K4 hK4 => ?_
  refine wr ?_
  refine D_lit0 (e := 48) (sz := 2) rfl (by kernel_rfl) RX.all (fun b1 w1 e1 x1 m1 => ?_)
  have g1 : w.heap.size ≤ b1 := by have := hx.size; omega
  replace hx := hx.trans x1
  refine dm ?_
  have ho := m1.own (enc := Ava.cs) (B := w.heap.size) (l := []) (sz := 2) (m := 0) g1 rfl (by intro x; rfl) rfl (by simp)
  refine D_append (lx := sufL) (e := 48) (sz := 2) (by' := 32) rfl (by kernel_rfl) (by kernel_rfl) (by intro x; rfl) ho ((hv.ext hx)) rfl rfl (by intro x _ u hu; simp at hu; rcases hu with rfl | rfl <;> rfl) (by decide) (by decide) hx.size (.inl rfl) (fun vm w2 ho_n x2 => ?_)
  replace hx := hx.own x2 (fun i hi => (ho.lt i hi).1)
  replace ho := ho_n
  refine da ?_
  refine D_end (hK4 _ _ ?_)
  refine W_ret ?_
  try dsimp only [then', inBlk, noGo]
  refine ro ?_
  exact ⟨_, rfl, hx, ho.arr (by intro x; rfl)⟩

set_option maxRecDepth 100000 in
set_option maxHeartbeats 1000000 in
theorem treeNew_w (bs : Nat) (b : Nat) (w : World) (hv : Arr Ava.cs 2 w (.slice (some ⟨b, 0, none⟩) 1 1) sufL) :
  Calls Tryz.prog 33 [ptr bs 0, .slice (some ⟨b, 0, none⟩) 1 1].toArray w (Gives w (fun u w' => ∃ bt vs, u = .tuple #[ptr bt 0, I 0] ∧ Blk w' bt [ptr bs 0, vs] 62)) := by
 refine calls_W Tryz.func33 rfl rfl rfl (by kernel_rfl) ?_
 have hx := Ext.refl w
 refine W_seq fun K1 hK1 => ?_
 refine wr ?_
 iterate 2 refine da ?_
 refine D_end (hK1 _ _ ?_)
 refine W_seq fun K2 hK2 => ?_
 refine W_seq fun K3 hK3 => ?_
 refine wr ?_
 refine dm ?_
 refine dp (pv_eqP (by kernel_rfl) rfl rfl) ?_
 refine dm ?_
 refine D_splitP 8 rfl (fun c1 => ?_) (fun c1 => ?_)
 ·
  exact absurd c1 (by simp)
 ·
  refine dm ?_
  refine D_callP rfl (by kernel_rfl) (isName_w b _ (hv.ext hx)) rfl RX.all (fun w1 x1 => ?_)
  replace hx := hx.trans x1
  refine dn ?_
  refine dk' ?_
  refine D_end (hK3 _ _ ?_)
  refine W_f rfl ?_
  refine W_skip ?_
  refine hK2 _ _ ?_
  refine W_seq fun K4 hK4 => ?_
  refine wr ?_
  iterate 2 refine dm ?_
  refine D_callG rfl (by kernel_rfl) (cloneA_w b _ (hv.ext hx)) rfl RX.all (fun vq w2 x2 hq => ?_)
  have hsz2 := hx.size
  replace hx := hx.trans x2
  refine dp (pv_build (zs := [.pointer none, .slice none 0 0]) (pl := [(0, 1), (1, 1)]) (pv := [(0, ?a10_0), (1, ?a10_1)]) (cs := [?a10_0, ?a10_1]) (by kernel_rfl) (by kernel_rfl) ?h10 ?f10) ?k10
  case h10 => refine ⟨rfl, ?_, rfl, ?_, trivial⟩ <;> (conv => lhs; whnf)
  case f10 => rcases hq.sl with ⟨e, _⟩ | ⟨_, _, _, e, _⟩ | ⟨_, _, _, e⟩ <;> rw [e] <;> rfl
  refine D_box rfl rfl rfl RX.all (fun b1 w3 e1 x3 m1 => ?_)
  have g1 : w.heap.size ≤ b1 := by have := hx.size; omega
  replace hq := hq.ext x3
  replace hx := hx.trans x3
  iterate 2 refine da ?_
  refine D_end (hK4 _ _ ?_)
  refine W_ret ?_
  try dsimp only [then', inBlk, noGo]
  refine rt ?_
  exact ⟨_, rfl, hx, b1, vq, rfl, m1⟩

set_option maxRecDepth 100000 in
set_option maxHeartbeats 1000000 in
theorem rtreeNew_w (bs : Nat) (b : Nat) (w : World) (hv : Arr Ava.cs 2 w (.slice (some ⟨b, 0, none⟩) 1 1) sufL) :
  Calls Tryz.prog 34 [ptr bs 0, .slice (some ⟨b, 0, none⟩) 1 1].toArray w (Gives w (fun u w' => ∃ bx, u = .tuple #[ptr bx 0, I 0])) := by
 refine calls_W Tryz.func34 rfl rfl rfl (by kernel_rfl) ?_
 have hx := Ext.refl w
 refine W_seq fun K1 hK1 => ?_
 refine wr ?_
 iterate 2 refine da ?_
 refine D_end (hK1 _ _ ?_)
 refine W_seq fun K2 hK2 => ?_
 refine W_seq fun K3 hK3 => ?_
 refine wr ?_
 refine dm ?_
 refine dp (pv_eqP (by kernel_rfl) rfl rfl) ?_
 refine dm ?_
 refine D_splitP 8 rfl (fun c1 => ?_) (fun c1 => ?_)
 ·
  exact absurd c1 (by simp)
 ·
  refine dm ?_
  refine D_callP rfl (by kernel_rfl) (rsufIs_w _ _ (hv.ext hx)) rfl RX.all (fun w1 x1 => ?_)
  replace hx := hx.trans x1
  refine dn ?_
  refine dk' ?_
  iterate 2 refine dm ?_
  refine dp (pv_lenV (e := 48) (k := 2) (by kernel_rfl) hv.sl rfl) ?_
  refine dp (pv_eql rfl rfl) ?_
  refine dk' ?_
  refine D_end (hK3 _ _ ?_)
  refine W_if rfl (fun c2 => ?_) (fun c2 => ?_)
  ·
   exact absurd c2 (by decide)
  ·
   refine W_skip ?_
   refine hK2 _ _ ?_
   refine W_seq fun K4 hK4 => ?_
   refine wr ?_
   refine dm ?_
   refine D_lit0 (e := 48) (sz := 2) rfl (by kernel_rfl) RX.all (fun b1 w2 e1 x2 m1 => ?_)
   have g1 : w.heap.size ≤ b1 := by have := hx.size; omega
   replace hx := hx.trans x2
   refine dm ?_
   have ho := m1.own (enc := Ava.cs) (B := w.heap.size) (l := []) (sz := 2) (m := 0) g1 rfl (by intro x; rfl) rfl (by simp)
   refine D_append (lx := sufL) (e := 48) (sz := 2) (by' := 32) rfl (by kernel_rfl) (by kernel_rfl) (by intro x; rfl) ho ((hv.ext hx)) rfl rfl (by intro x _ u hu; simp at hu; rcases hu with rfl | rfl <;> rfl) (by decide) (by decide) hx.size (.inl rfl) (fun vm w3 ho_n x3 => ?_)
   replace hx := hx.own x3 (fun i hi => (ho.lt i hi).1)
   replace ho := ho_n
   refine dp (pv_build (zs := [.pointer none, .slice none 0 0]) (pl := [(0, 1), (1, 1)]) (pv := [(0, ?a13_0), (1, ?a13_1)]) (cs := [?a13_0, ?a13_1]) (by kernel_rfl) (by kernel_rfl) ?h13 ?f13) ?k13
   case h13 => refine ⟨rfl, ?_, rfl, ?_, trivial⟩ <;> (conv => lhs; whnf)
   case f13 => rcases (ho.arr (by intro x; rfl)).sl with ⟨e, _⟩ | ⟨_, _, _, e, _⟩ | ⟨_, _, _, e⟩ <;> rw [e] <;> rfl
   refine D_box rfl rfl rfl RX.all (fun b2 w4 e2 x4 m2 => ?_)
   have g2 : w.heap.size ≤ b2 := by have := hx.size; omega
   replace ho := ho.ext x4
   replace hx := hx.trans x4
   iterate 2 refine da ?_
   refine D_end (hK4 _ _ ?_)
   refine W_ret ?_
   try dsimp only [then', inBlk, noGo]
   refine rt ?_
   exact ⟨_, rfl, hx, b2, rfl⟩

set_option maxRecDepth 100000 in
set_option maxHeartbeats 1000000 in
theorem begin_w (w : World) :
  Calls Tryz.prog 15 [I 262144].toArray w (Gives w (fun u w' => ∃ bp, ∃ bt bx bs bd bl mo bm ba bn mf room vs, u = ptr bp 0 ∧ Blk w' bp [ptr bt 0, ptr bx 0] 55 ∧ TrE w' bt bs bd bl mo bm ba bn mf room vs)) := by
 refine calls_W Tryz.func15 rfl rfl rfl (by kernel_rfl) ?_
 have hx := Ext.refl w
 refine W_seq fun K1 hK1 => ?_
 refine wr ?_
 refine da ?_
 refine D_end (hK1 _ _ ?_)
 refine W_seq fun K2 hK2 => ?_
 refine wr ?_
 refine dm ?_
 refine D_callG rfl (by kernel_rfl) (diskNew_w 262144 _ (by decide) (by decide)) rfl RX.all (fun u1 w1 x1 hf1 => ?_)
 have hsz1 := hx.size
 replace hx := hx.trans x1
 obtain ⟨bd, mf, rfl, hd, hm⟩ := hf1
 refine dm ?_
 refine dp (pv_ext rfl rfl) ?_
 refine dp (pv_ext rfl rfl) ?_
 iterate 2 refine da ?_
 refine D_end (hK2 _ _ ?_)
 refine W_seq fun K3 hK3 => ?_
 refine wr ?_
 refine dm ?_
 refine D_callG rfl (by kernel_rfl) (rdiskNew_w 262144 _ (by decide) (by decide)) rfl RX.all (fun u2 w2 x2 hf2 => ?_)
 have hsz2 := hx.size
 replace hd := hd.ext x2
 replace hm := hm.ext x2
 replace hx := hx.trans x2
 obtain ⟨bd2, rfl, hd2⟩ := hf2
 refine dm ?_
 refine dp (pv_ext rfl rfl) ?_
 refine dp (pv_ext rfl rfl) ?_
 iterate 2 refine da ?_
 refine D_end (hK3 _ _ ?_)
 refine W_seq fun K4 hK4 => ?_
 refine wr ?_
 refine dm ?_
 refine D_callG rfl (by kernel_rfl) (lsmOpen_w bd mf 262144 _ hd hm) rfl RX.all (fun u3 w3 x3 hf3 => ?_)
 have hsz3 := hx.size
 replace hd := hd.ext x3
 replace hm := hm.ext x3
 replace hd2 := hd2.ext x3
 replace hx := hx.trans x3
 obtain ⟨bs, bl, mo, bm, ba, bn, rfl, hS⟩ := hf3
 refine dm ?_
 refine dp (pv_ext rfl rfl) ?_
 refine dp (pv_ext rfl rfl) ?_
 iterate 2 refine da ?_
 refine D_end (hK4 _ _ ?_)
 refine W_seq fun K5 hK5 => ?_
 refine wr ?_
 refine dm ?_
 refine D_callG rfl (by kernel_rfl) (rlsmOpen_w bd2 262144 _ hd2) rfl RX.all (fun u4 w4 x4 hf4 => ?_)
 have hsz4 := hx.size
 replace hd := hd.ext x4
 replace hm := hm.ext x4
 replace hd2 := hd2.ext x4
 replace hS := hS.ext x4
 replace hx := hx.trans x4
 obtain ⟨bs2, bl2, bm2, rfl, hS2⟩ := hf4
 refine dm ?_
 refine dp (pv_ext rfl rfl) ?_
 refine dp (pv_ext rfl rfl) ?_
 iterate 2 refine da ?_
 refine D_end (hK5 _ _ ?_)
 refine W_seq fun K6 hK6 => ?_
 refine W_seq fun K7 hK7 => ?_
 refine wr ?_
 refine dm ?_
 refine dp (pv_neq rfl rfl) ?_
 refine dm ?_
 refine D_splitP 37 rfl (fun c1 => ?_) (fun c1 => ?_)
 ·
  exact absurd rfl c1
 ·
  refine dm ?_
  refine dp (pv_neq rfl rfl) ?_
  refine dk' ?_
  refine D_end (hK7 _ _ ?_)
  refine W_if rfl (fun c2 => ?_) (fun c2 => ?_)
  ·
   exact absurd rfl c2
  ·
   refine W_skip ?_
   refine hK6 _ _ ?_
   refine W_seq fun K8 hK8 => ?_
   refine wr ?_
   refine dm ?_
   refine D_callG rfl (by kernel_rfl) (suffix_w _) rfl RX.all (fun u5 w5 x5 hf5 => ?_)
   have hsz5 := hx.size
   replace hd := hd.ext x5
   replace hm := hm.ext x5
   replace hd2 := hd2.ext x5
   replace hS := hS.ext x5
   replace hS2 := hS2.ext x5
   replace hx := hx.trans x5
   obtain ⟨b4, rfl, hv⟩ := hf5
   refine D_callG rfl (by kernel_rfl) (treeNew_w bs b4 _ hv) rfl RX.all (fun u6 w6 x6 hf6 => ?_)
   have hsz6 := hx.size
   replace hd := hd.ext x6
   replace hm := hm.ext x6
   replace hd2 := hd2.ext x6
   replace hS := hS.ext x6
   replace hS2 := hS2.ext x6
   replace hv := hv.ext x6
   replace hx := hx.trans x6
   obtain ⟨bt, vs, rfl, hT⟩ := hf6
   refine dm ?_
   refine dp (pv_ext rfl rfl) ?_
   refine dp (pv_ext rfl rfl) ?_
   iterate 2 refine da ?_
   refine D_end (hK8 _ _ ?_)
   refine W_seq fun K9 hK9 => ?_
   refine wr ?_
   refine dm ?_
   refine D_callG rfl (by kernel_rfl) (suffix_w _) rfl RX.all (fun u7 w7 x7 hf7 => ?_)
   have hsz7 := hx.size
   replace hd := hd.ext x7
   replace hm := hm.ext x7
   replace hd2 := hd2.ext x7
   replace hS := hS.ext x7
   replace hS2 := hS2.ext x7
   replace hv := hv.ext x7
   replace hT := hT.ext x7
   replace hx := hx.trans x7
   obtain ⟨b5, rfl, hv2⟩ := hf7
   refine D_callG rfl (by kernel_rfl) (rtreeNew_w bs2 b5 _ hv2) rfl RX.all (fun u8 w8 x8 hf8 => ?_)
   have hsz8 := hx.size
   replace hd := hd.ext x8
   replace hm := hm.ext x8
   replace hd2 := hd2.ext x8
   replace hS := hS.ext x8
   replace hS2 := hS2.ext x8
   replace hv := hv.ext x8
   replace hT := hT.ext x8
   replace hv2 := hv2.ext x8
   replace hx := hx.trans x8
   obtain ⟨bx, rfl⟩ := hf8
   refine dm ?_
   refine dp (pv_ext rfl rfl) ?_
   refine dp (pv_ext rfl rfl) ?_
   iterate 2 refine da ?_
   refine D_end (hK9 _ _ ?_)
   refine W_seq fun K10 hK10 => ?_
   refine W_seq fun K11 hK11 => ?_
   refine wr ?_
   refine dm ?_
   refine dp (pv_neq rfl rfl) ?_
   refine dm ?_
   refine D_splitP 55 rfl (fun c3 => ?_) (fun c3 => ?_)
   ·
    exact absurd rfl c3
   ·
    refine dm ?_
    refine dp (pv_neq rfl rfl) ?_
    refine dk' ?_
    refine dm ?_
    refine D_splitP 59 rfl (fun c4 => ?_) (fun c4 => ?_)
    ·
     exact absurd rfl c4
    ·
     refine dm ?_
     refine dp (pv_eqP (by kernel_rfl) rfl rfl) ?_
     refine dk' ?_
     refine D_end (hK11 _ _ ?_)
     refine W_if rfl (fun c5 => ?_) (fun c5 => ?_)
     ·
      exact absurd c5 (by simp)
     ·
      refine W_skip ?_
      refine hK10 _ _ ?_
      refine W_seq fun K12 hK12 => ?_
      refine wr ?_
      iterate 2 refine dm ?_
      refine dp (pv_build (zs := [.pointer none, .pointer none]) (pl := [(0, 1), (1, 1)]) (pv := [(0, ?a39_0), (1, ?a39_1)]) (cs := [?a39_0, ?a39_1]) (by kernel_rfl) (by kernel_rfl) ?h39 ?f39) ?k39
      case h39 => refine ⟨rfl, ?_, rfl, ?_, trivial⟩ <;> (conv => lhs; whnf)
      case f39 => rfl
      refine D_box rfl rfl rfl RX.all (fun b1 w9 e1 x9 m1 => ?_)
      have g1 : w.heap.size ≤ b1 := by have := hx.size; omega
      replace hd := hd.ext x9
      replace hm := hm.ext x9
      replace hd2 := hd2.ext x9
      replace hS := hS.ext x9
      replace hS2 := hS2.ext x9
      replace hv := hv.ext x9
      replace hT := hT.ext x9
      replace hv2 := hv2.ext x9
      replace hx := hx.trans x9
      refine da ?_
      refine D_end (hK12 _ _ ?_)
      refine W_ret ?_
      try dsimp only [then', inBlk, noGo]
      refine ro ?_
      exact ⟨_, rfl, hx, b1, bt, bx, bs, bd, bl, mo, bm, ba, bn, mf, 262144, vs, rfl, m1, ⟨hT, hS⟩⟩

end Go.Proofs.YteninjhmmjkckaaGreatDoor
