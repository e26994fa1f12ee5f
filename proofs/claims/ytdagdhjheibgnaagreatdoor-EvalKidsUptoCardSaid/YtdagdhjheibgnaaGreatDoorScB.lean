/-
  Walks.
-/
import Derived.Test.YtdagdhjheibgnaaGreatDoorChecked
import Derived.Test.YtdagdhjheibgnaaGreatDoorSpMem
import Derived.KernelRfl
import Derived.Test.YtdagdhjheibgnaaGreatDoorScA
namespace Go.Proofs.YtdagdhjheibgnaaGreatDoor
open Go.Vc Go.Sp
attribute [local irreducible] W XW Dw DwT
set_option linter.unusedVariables false
set_option linter.unusedSimpArgs false

def tyNames : List Str := [[99, 110], [100, 99], [100, 101, 115, 99, 114, 105, 112, 116, 105, 111, 110], [100, 105, 115, 112, 108, 97, 121, 110, 97, 109, 101], [103, 105, 100, 110, 117, 109, 98, 101, 114], [108], [109, 97, 105, 108], [109, 97, 110, 97, 103, 101, 114], [109, 101, 109, 98, 101, 114], [111], [111, 98, 106, 101, 99, 116, 99, 108, 97, 115, 115], [111, 117], [115, 101, 101, 97, 108, 115, 111], [115, 110], [116, 101, 108, 101, 112, 104, 111, 110, 101, 110, 117, 109, 98, 101, 114], [116, 105, 116, 108, 101], [117, 105, 100], [117, 105, 100, 110, 117, 109, 98, 101, 114], [117, 115, 101, 114, 112, 97, 115, 115, 119, 111, 114, 100]]
theorem kind_no {t : Str} (h : t ∉ tyNames) : kindM t = none := by
  cases hk : kindM t with
  | none => rfl
  | some p => exact absurd ((by decide : ∀ t ∈ nsAll, t ∈ tyNames) t (kindM_mem hk)) h
theorem typ_no {s : Str} (h : foldS s ∉ tyNames) : Value.tuple #[S [], I 0, B false, B false] = typeV (typeM s) := by
  unfold typeM; rw [kind_no h]; rfl
theorem typ_at {s t : Str} {y : Int} {g : Bool} (h : foldS s = t) (hk : kindM t = some (y, g)) : Value.tuple #[S (foldS s), I y, B g, B true] = typeV (typeM s) := by
  subst h; unfold typeM; rw [hk]; rfl
theorem typ_rest {s : Str} (h0 : foldS s ∈ tyNames) (h1 : ¬ foldS s = [116, 101, 108, 101, 112, 104, 111, 110, 101, 110, 117, 109, 98, 101, 114]) (h2 : ¬ foldS s = [117, 105, 100, 110, 117, 109, 98, 101, 114]) (h3 : ¬ foldS s = [103, 105, 100, 110, 117, 109, 98, 101, 114]) (h4 : ¬ foldS s = [109, 101, 109, 98, 101, 114]) (h5 : ¬ foldS s = [109, 97, 110, 97, 103, 101, 114]) (h6 : ¬ foldS s = [115, 101, 101, 97, 108, 115, 111]) (h7 : ¬ foldS s = [117, 115, 101, 114, 112, 97, 115, 115, 119, 111, 114, 100]) :
    Value.tuple #[S (foldS s), I 1, B (decide (foldS s = [100, 105, 115, 112, 108, 97, 121, 110, 97, 109, 101])), B true] = typeV (typeM s) := by
  have h : ∀ t ∈ tyNames, t = [116, 101, 108, 101, 112, 104, 111, 110, 101, 110, 117, 109, 98, 101, 114] ∨ t = [117, 105, 100, 110, 117, 109, 98, 101, 114] ∨ t = [103, 105, 100, 110, 117, 109, 98, 101, 114] ∨ t = [109, 101, 109, 98, 101, 114] ∨ t = [109, 97, 110, 97, 103, 101, 114] ∨ t = [115, 101, 101, 97, 108, 115, 111] ∨ t = [117, 115, 101, 114, 112, 97, 115, 115, 119, 111, 114, 100] ∨ kindM t = some (1, decide (t = [100, 105, 115, 112, 108, 97, 121, 110, 97, 109, 101])) := by decide
  rcases h _ h0 with h | h | h | h | h | h | h | h
  · exact absurd h h1
  · exact absurd h h2
  · exact absurd h h3
  · exact absurd h h4
  · exact absurd h h5
  · exact absurd h h6
  · exact absurd h h7
  · unfold typeM; rw [h]; rfl
theorem typeV_parts (s : Str) : typeV (typeM s) = .tuple #[S (tC s), I (tY s), B (tG s), B (tOk s)] := by
  unfold typeM tC tY tG tOk
  cases h : kindM (foldS s) with
  | none => simp [typeV]
  | some p => simp [typeV]
theorem typeT_w (s : Str) (w : World) (hs : s.length ≤ 1000000) : Calls Tryz.prog 18 [S s].toArray w (Pure w (.tuple #[S (tC s), I (tY s), B (tG s), B (tOk s)])) := by
  rw [← typeV_parts]; exact typeM_w s w hs

set_option maxRecDepth 100000 in
set_option maxHeartbeats 1000000 in
theorem has_w (l : List Str) (v : Value) (s : Str) (w : World) (hv : Arr sEnc 1 w v l) (hl : l.length ≤ 1000000) :
  Calls Tryz.prog 56 [v, S s].toArray w (Pure w (B (decide (s ∈ l)))) := by
 refine calls_W Tryz.func56 rfl rfl rfl (by kernel_rfl) ?_
 have hx := Ext.refl w
 refine W_seq fun K1 hK1 => ?_
 refine wr ?_
 refine da ?_
 refine D_end (hK1 _ _ ?_)
 refine W_seq fun K2 hK2 => ?_
 refine W_seq fun K3 hK3 => ?_
 refine wr ?_
 refine da ?_
 refine D_end (hK3 _ _ ?_)
 refine W_block ?_
 refine W_loop (G := Nat) (fun k => [(0, v), (1, S s), (5, I ↑k)]) (fun k w' => Ext w w' ∧ k ≤ l.length ∧ s ∉ l.take k) (fun k => l.length - k) 0 ?_ ?_ ?_
 ·
  exact ⟨rfl, rfl, rfl, trivial⟩
 ·
  exact ⟨hx, Nat.zero_le _, by simp⟩
 ·
  intro X1 g1 w1 hF1
  revert hF1; revert g1; intro k hF1
  clear hx
  obtain ⟨hx, hk1, hn⟩ := hF1
  refine W_seq fun K4 hK4 => ?_
  refine W_seq fun K5 hK5 => ?_
  refine wr ?_
  iterate 2 refine dm ?_
  refine dp (pv_lenV (e := 9) (k := 1) (by kernel_rfl) hv.sl rfl) ?_
  refine dp (pv_lss rfl rfl) ?_
  refine D_end (hK5 _ _ ?_)
  refine W_if rfl (fun c1 => ?_) (fun c1 => ?_)
  ·
   obtain ⟨c, hk⟩ : ∃ c, l[k]? = some c := ⟨_, List.getElem?_eq_getElem (by omega)⟩
   refine W_skip ?_
   refine hK4 _ _ ?_
   refine W_seq fun K6 hK6 => ?_
   refine W_block ?_
   refine W_seq fun K7 hK7 => ?_
   refine wr ?_
   iterate 2 refine dm ?_
   refine dp (pv_idxA (e := 9) (k := 1) (by kernel_rfl) hv.sl rfl rfl (hv.lt hk)) ?_
   refine dq (lv_load (by kernel_rfl) rfl (((hv.ext hx).row hk).at0 rfl)) ?_
   refine dm ?_
   refine dp (pv_seq rfl rfl) ?_
   refine D_end (hK7 _ _ ?_)
   refine W_if rfl (fun c2 => ?_) (fun c2 => ?_)
   ·
    refine W_seq fun K8 hK8 => ?_
    refine wr ?_
    refine da ?_
    refine D_end (hK8 _ _ ?_)
    refine W_ret ?_
    try dsimp only [then', inBlk, noGo]
    refine ro ?_
    refine ⟨?_, hx⟩
    rw [decide_eq_true (c2 ▸ List.mem_of_getElem? hk)]
   ·
    refine W_skip ?_
    refine hK6 _ _ ?_
    refine wr ?_
    refine dm ?_
    refine dp (pv_add rfl rfl (by unfold inI64; omega)) ?_
    refine da ?_
    refine D_end (?_)
    refine ⟨k + 1, ⟨rfl, rfl, rfl, trivial⟩, ⟨hx, by omega, ?_⟩, by omega⟩
    rw [take_snocS hk]
    intro h
    rcases List.mem_append.1 h with h | h
    ·
     exact hn h
    ·
     exact c2 (List.mem_singleton.1 h).symm
  ·
   refine W_exit ?_
   refine hK2 _ _ ?_
   refine W_seq fun K9 hK9 => ?_
   refine wr ?_
   refine da ?_
   refine D_end (hK9 _ _ ?_)
   refine W_ret ?_
   try dsimp only [then', inBlk, noGo]
   refine ro ?_
   refine ⟨?_, hx⟩
   rw [List.take_of_length_le (by omega)] at hn
   rw [decide_eq_false hn]

set_option maxRecDepth 100000 in
set_option maxHeartbeats 1000000 in
theorem rtypes_w (w : World) :
  Calls Tryz.prog 57 [].toArray w (Gives w (fun v w' => Arr sEnc 1 w' v tyNames)) := by
 refine calls_W Tryz.func57 rfl rfl rfl (by kernel_rfl) ?_
 have hx := Ext.refl w
 refine W_seq fun K1 hK1 => ?_
 refine wr ?_
 refine da ?_
 refine D_end (hK1 _ _ ?_)
 refine W_seq fun K2 hK2 => ?_
 refine wr ?_
 refine D_lit (e := 9) (sz := 1) (zs := [S []]) (pv := [(0, ?a2_0), (1, ?a2_1), (2, ?a2_2), (3, ?a2_3), (4, ?a2_4), (5, ?a2_5), (6, ?a2_6), (7, ?a2_7), (8, ?a2_8), (9, ?a2_9), (10, ?a2_10), (11, ?a2_11), (12, ?a2_12), (13, ?a2_13), (14, ?a2_14), (15, ?a2_15), (16, ?a2_16), (17, ?a2_17), (18, ?a2_18)]) (cs := [?a2_0, ?a2_1, ?a2_2, ?a2_3, ?a2_4, ?a2_5, ?a2_6, ?a2_7, ?a2_8, ?a2_9, ?a2_10, ?a2_11, ?a2_12, ?a2_13, ?a2_14, ?a2_15, ?a2_16, ?a2_17, ?a2_18]) rfl (by kernel_rfl) ⟨rfl, rfl⟩ (by kernel_rfl) rfl ?h2 ?f2 RX.all (fun b1 w1 e1 x1 m1 => ?k2)
 case h2 => refine ⟨rfl, ?_, rfl, ?_, rfl, ?_, rfl, ?_, rfl, ?_, rfl, ?_, rfl, ?_, rfl, ?_, rfl, ?_, rfl, ?_, rfl, ?_, rfl, ?_, rfl, ?_, rfl, ?_, rfl, ?_, rfl, ?_, rfl, ?_, rfl, ?_, rfl, ?_, trivial⟩ <;> (conv => lhs; whnf)
 case f2 => rfl
 have g1 : w.heap.size ≤ b1 := by have := hx.size; omega
 replace hx := hx.trans x1
 refine da ?_
 refine D_end (hK2 _ _ ?_)
 refine W_ret ?_
 try dsimp only [then', inBlk, noGo]
 refine ro ?_
 exact ⟨_, rfl, hx, m1.arr (enc := sEnc) (sz := 1) (l := tyNames) rfl (by intro x; rfl) rfl (by decide)⟩

set_option maxRecDepth 100000 in
set_option maxHeartbeats 1000000 in
theorem rtype14_w (s : Str) (w : World) (hs : s.length ≤ 1000000) :
  Calls Tryz.prog 27 [S s].toArray w (Pure w (typeV (typeM s))) := by
 refine calls_W Tryz.func27 rfl rfl rfl (by kernel_rfl) ?_
 have hx := Ext.refl w
 have hfl := foldS_len s
 refine W_seq fun K1 hK1 => ?_
 refine wr ?_
 iterate 4 refine da ?_
 refine D_end (hK1 _ _ ?_)
 refine W_seq fun K2 hK2 => ?_
 refine wr ?_
 refine dm ?_
 refine D_callP rfl (by kernel_rfl) (rfold_w s _ hs) rfl RX.all (fun w1 x1 => ?_)
 replace hx := hx.trans x1
 refine da ?_
 refine D_end (hK2 _ _ ?_)
 refine W_seq fun K3 hK3 => ?_
 refine W_seq fun K4 hK4 => ?_
 refine wr ?_
 refine D_callG rfl (by kernel_rfl) (rtypes_w _) rfl RX.all (fun vt w2 x2 hty => ?_)
 have hsz2 := hx.size
 replace hx := hx.trans x2
 refine dm ?_
 refine D_callP rfl (by kernel_rfl) (has_w tyNames vt (foldS s) _ hty (by decide)) rfl RX.all (fun w3 x3 => ?_)
 replace hty := hty.ext x3
 replace hx := hx.trans x3
 refine dn ?_
 refine D_end (hK4 _ _ ?_)
 refine W_cond rfl (fun c1 => ?_) (fun c1 => ?_)
 ·
  have hno : foldS s ∉ tyNames := by simpa using c1
  refine W_seq fun K5 hK5 => ?_
  refine wr ?_
  iterate 4 refine da ?_
  refine D_end (hK5 _ _ ?_)
  refine W_ret ?_
  try dsimp only [then', inBlk, noGo]
  refine rt4 ?_
  refine ⟨?_, hx⟩
  first
  | contradiction
  | exact congrArg Ending.returned (typ_no hno)
  | exact congrArg Ending.returned (typ_at (by assumption) (by decide))
  | exact congrArg Ending.returned (typ_rest hin (by assumption) (by assumption) (by assumption) (by assumption) (by assumption) (by assumption) (by assumption))
 ·
  have hin : foldS s ∈ tyNames := by simpa using c1
  refine W_skip ?_
  refine hK3 _ _ ?_
  refine W_seq fun K6 hK6 => ?_
  refine W_seq fun K7 hK7 => ?_
  refine wr ?_
  refine dm ?_
  refine D_end (hK7 _ _ ?_)
  refine W_block ?_
  refine W_seq fun K8 hK8 => ?_
  refine wr ?_
  refine dp (pv_seq rfl rfl) ?_
  refine da ?_
  refine D_end (hK8 _ _ ?_)
  refine W_if rfl (fun c2 => ?_) (fun c2 => ?_)
  ·
   refine W_seq fun K9 hK9 => ?_
   refine wr ?_
   refine dm ?_
   iterate 4 refine da ?_
   refine D_end (hK9 _ _ ?_)
   refine W_ret ?_
   try dsimp only [then', inBlk, noGo]
   refine rt4 ?_
   refine ⟨?_, hx⟩
   first
   | contradiction
   | exact congrArg Ending.returned (typ_no hno)
   | exact congrArg Ending.returned (typ_at (by assumption) (by decide))
   | exact congrArg Ending.returned (typ_rest hin (by assumption) (by assumption) (by assumption) (by assumption) (by assumption) (by assumption) (by assumption))
  ·
   refine W_seq fun K10 hK10 => ?_
   refine W_seq fun K11 hK11 => ?_
   refine wr ?_
   refine dp (pv_seq rfl rfl) ?_
   refine da ?_
   refine D_end (hK11 _ _ ?_)
   refine W_if rfl (fun c3 => ?_) (fun c3 => ?_)
   ·
    refine W_skip ?_
    refine hK10 _ _ ?_
    refine W_if rfl (fun c4 => ?_) (fun c4 => ?_)
    ·
     refine W_seq fun K12 hK12 => ?_
     refine wr ?_
     refine dm ?_
     iterate 4 refine da ?_
     refine D_end (hK12 _ _ ?_)
     refine W_ret ?_
     try dsimp only [then', inBlk, noGo]
     refine rt4 ?_
     refine ⟨?_, hx⟩
     first
     | contradiction
     | exact congrArg Ending.returned (typ_no hno)
     | exact congrArg Ending.returned (typ_at (by assumption) (by decide))
     | exact congrArg Ending.returned (typ_rest hin (by assumption) (by assumption) (by assumption) (by assumption) (by assumption) (by assumption) (by assumption))
    ·
     refine W_seq fun K13 hK13 => ?_
     refine W_seq fun K14 hK14 => ?_
     refine wr ?_
     refine dp (pv_seq rfl rfl) ?_
     refine da ?_
     refine D_end (hK14 _ _ ?_)
     refine W_if rfl (fun c5 => ?_) (fun c5 => ?_)
     ·
      refine W_skip ?_
      refine hK13 _ _ ?_
      refine W_if rfl (fun c6 => ?_) (fun c6 => ?_)
      ·
       refine W_seq fun K15 hK15 => ?_
       refine wr ?_
       refine dm ?_
       iterate 4 refine da ?_
       refine D_end (hK15 _ _ ?_)
       refine W_ret ?_
       try dsimp only [then', inBlk, noGo]
       refine rt4 ?_
       refine ⟨?_, hx⟩
       first
       | contradiction
       | exact congrArg Ending.returned (typ_no hno)
       | exact congrArg Ending.returned (typ_at (by assumption) (by decide))
       | exact congrArg Ending.returned (typ_rest hin (by assumption) (by assumption) (by assumption) (by assumption) (by assumption) (by assumption) (by assumption))
      ·
       refine W_seq fun K16 hK16 => ?_
       refine wr ?_
       refine dp (pv_seq rfl rfl) ?_
       refine da ?_
       refine D_end (hK16 _ _ ?_)
       refine W_if rfl (fun c7 => ?_) (fun c7 => ?_)
       ·
        refine W_seq fun K17 hK17 => ?_
        refine wr ?_
        refine dm ?_
        iterate 4 refine da ?_
        refine D_end (hK17 _ _ ?_)
        refine W_ret ?_
        try dsimp only [then', inBlk, noGo]
        refine rt4 ?_
        refine ⟨?_, hx⟩
        first
        | contradiction
        | exact congrArg Ending.returned (typ_no hno)
        | exact congrArg Ending.returned (typ_at (by assumption) (by decide))
        | exact congrArg Ending.returned (typ_rest hin (by assumption) (by assumption) (by assumption) (by assumption) (by assumption) (by assumption) (by assumption))
       ·
        refine W_skip ?_
        refine hK6 _ _ ?_
        refine W_seq fun K18 hK18 => ?_
        refine wr ?_
        iterate 2 refine dm ?_
        refine dp (pv_seq rfl rfl) ?_
        iterate 4 refine da ?_
        refine D_end (hK18 _ _ ?_)
        refine W_ret ?_
        try dsimp only [then', inBlk, noGo]
        refine rt4 ?_
        refine ⟨?_, hx⟩
        first
        | contradiction
        | exact congrArg Ending.returned (typ_no hno)
        | exact congrArg Ending.returned (typ_at (by assumption) (by decide))
        | exact congrArg Ending.returned (typ_rest hin (by assumption) (by assumption) (by assumption) (by assumption) (by assumption) (by assumption) (by assumption))
     ·
      refine W_seq fun K19 hK19 => ?_
      refine wr ?_
      refine dp (pv_seq rfl rfl) ?_
      refine da ?_
      refine D_end (hK19 _ _ ?_)
      refine W_if rfl (fun c8 => ?_) (fun c8 => ?_)
      ·
       refine W_skip ?_
       refine hK13 _ _ ?_
       refine W_if rfl (fun c9 => ?_) (fun c9 => ?_)
       ·
        refine W_seq fun K20 hK20 => ?_
        refine wr ?_
        refine dm ?_
        iterate 4 refine da ?_
        refine D_end (hK20 _ _ ?_)
        refine W_ret ?_
        try dsimp only [then', inBlk, noGo]
        refine rt4 ?_
        refine ⟨?_, hx⟩
        first
        | contradiction
        | exact congrArg Ending.returned (typ_no hno)
        | exact congrArg Ending.returned (typ_at (by assumption) (by decide))
        | exact congrArg Ending.returned (typ_rest hin (by assumption) (by assumption) (by assumption) (by assumption) (by assumption) (by assumption) (by assumption))
       ·
        refine W_seq fun K21 hK21 => ?_
        refine wr ?_
        refine dp (pv_seq rfl rfl) ?_
        refine da ?_
        refine D_end (hK21 _ _ ?_)
        refine W_if rfl (fun c10 => ?_) (fun c10 => ?_)
        ·
         refine W_seq fun K22 hK22 => ?_
         refine wr ?_
         refine dm ?_
         iterate 4 refine da ?_
         refine D_end (hK22 _ _ ?_)
         refine W_ret ?_
         try dsimp only [then', inBlk, noGo]
         refine rt4 ?_
         refine ⟨?_, hx⟩
         first
         | contradiction
         | exact congrArg Ending.returned (typ_no hno)
         | exact congrArg Ending.returned (typ_at (by assumption) (by decide))
         | exact congrArg Ending.returned (typ_rest hin (by assumption) (by assumption) (by assumption) (by assumption) (by assumption) (by assumption) (by assumption))
        ·
         refine W_skip ?_
         refine hK6 _ _ ?_
         refine W_seq fun K23 hK23 => ?_
         refine wr ?_
         iterate 2 refine dm ?_
         refine dp (pv_seq rfl rfl) ?_
         iterate 4 refine da ?_
         refine D_end (hK23 _ _ ?_)
         refine W_ret ?_
         try dsimp only [then', inBlk, noGo]
         refine rt4 ?_
         refine ⟨?_, hx⟩
         first
         | contradiction
         | exact congrArg Ending.returned (typ_no hno)
         | exact congrArg Ending.returned (typ_at (by assumption) (by decide))
         | exact congrArg Ending.returned (typ_rest hin (by assumption) (by assumption) (by assumption) (by assumption) (by assumption) (by assumption) (by assumption))
      ·
       refine wr ?_
       refine dp (pv_seq rfl rfl) ?_
       refine da ?_
       refine D_end (hK13 _ _ ?_)
       refine W_if rfl (fun c11 => ?_) (fun c11 => ?_)
       ·
        refine W_seq fun K24 hK24 => ?_
        refine wr ?_
        refine dm ?_
        iterate 4 refine da ?_
        refine D_end (hK24 _ _ ?_)
        refine W_ret ?_
        try dsimp only [then', inBlk, noGo]
        refine rt4 ?_
        refine ⟨?_, hx⟩
        first
        | contradiction
        | exact congrArg Ending.returned (typ_no hno)
        | exact congrArg Ending.returned (typ_at (by assumption) (by decide))
        | exact congrArg Ending.returned (typ_rest hin (by assumption) (by assumption) (by assumption) (by assumption) (by assumption) (by assumption) (by assumption))
       ·
        refine W_seq fun K25 hK25 => ?_
        refine wr ?_
        refine dp (pv_seq rfl rfl) ?_
        refine da ?_
        refine D_end (hK25 _ _ ?_)
        refine W_if rfl (fun c12 => ?_) (fun c12 => ?_)
        ·
         refine W_seq fun K26 hK26 => ?_
         refine wr ?_
         refine dm ?_
         iterate 4 refine da ?_
         refine D_end (hK26 _ _ ?_)
         refine W_ret ?_
         try dsimp only [then', inBlk, noGo]
         refine rt4 ?_
         refine ⟨?_, hx⟩
         first
         | contradiction
         | exact congrArg Ending.returned (typ_no hno)
         | exact congrArg Ending.returned (typ_at (by assumption) (by decide))
         | exact congrArg Ending.returned (typ_rest hin (by assumption) (by assumption) (by assumption) (by assumption) (by assumption) (by assumption) (by assumption))
        ·
         refine W_skip ?_
         refine hK6 _ _ ?_
         refine W_seq fun K27 hK27 => ?_
         refine wr ?_
         iterate 2 refine dm ?_
         refine dp (pv_seq rfl rfl) ?_
         iterate 4 refine da ?_
         refine D_end (hK27 _ _ ?_)
         refine W_ret ?_
         try dsimp only [then', inBlk, noGo]
         refine rt4 ?_
         refine ⟨?_, hx⟩
         first
         | contradiction
         | exact congrArg Ending.returned (typ_no hno)
         | exact congrArg Ending.returned (typ_at (by assumption) (by decide))
         | exact congrArg Ending.returned (typ_rest hin (by assumption) (by assumption) (by assumption) (by assumption) (by assumption) (by assumption) (by assumption))
   ·
    refine wr ?_
    refine dp (pv_seq rfl rfl) ?_
    refine da ?_
    refine D_end (hK10 _ _ ?_)
    refine W_if rfl (fun c13 => ?_) (fun c13 => ?_)
    ·
     refine W_seq fun K28 hK28 => ?_
     refine wr ?_
     refine dm ?_
     iterate 4 refine da ?_
     refine D_end (hK28 _ _ ?_)
     refine W_ret ?_
     try dsimp only [then', inBlk, noGo]
     refine rt4 ?_
     refine ⟨?_, hx⟩
     first
     | contradiction
     | exact congrArg Ending.returned (typ_no hno)
     | exact congrArg Ending.returned (typ_at (by assumption) (by decide))
     | exact congrArg Ending.returned (typ_rest hin (by assumption) (by assumption) (by assumption) (by assumption) (by assumption) (by assumption) (by assumption))
    ·
     refine W_seq fun K29 hK29 => ?_
     refine W_seq fun K30 hK30 => ?_
     refine wr ?_
     refine dp (pv_seq rfl rfl) ?_
     refine da ?_
     refine D_end (hK30 _ _ ?_)
     refine W_if rfl (fun c14 => ?_) (fun c14 => ?_)
     ·
      refine W_skip ?_
      refine hK29 _ _ ?_
      refine W_if rfl (fun c15 => ?_) (fun c15 => ?_)
      ·
       refine W_seq fun K31 hK31 => ?_
       refine wr ?_
       refine dm ?_
       iterate 4 refine da ?_
       refine D_end (hK31 _ _ ?_)
       refine W_ret ?_
       try dsimp only [then', inBlk, noGo]
       refine rt4 ?_
       refine ⟨?_, hx⟩
       first
       | contradiction
       | exact congrArg Ending.returned (typ_no hno)
       | exact congrArg Ending.returned (typ_at (by assumption) (by decide))
       | exact congrArg Ending.returned (typ_rest hin (by assumption) (by assumption) (by assumption) (by assumption) (by assumption) (by assumption) (by assumption))
      ·
       refine W_seq fun K32 hK32 => ?_
       refine wr ?_
       refine dp (pv_seq rfl rfl) ?_
       refine da ?_
       refine D_end (hK32 _ _ ?_)
       refine W_if rfl (fun c16 => ?_) (fun c16 => ?_)
       ·
        refine W_seq fun K33 hK33 => ?_
        refine wr ?_
        refine dm ?_
        iterate 4 refine da ?_
        refine D_end (hK33 _ _ ?_)
        refine W_ret ?_
        try dsimp only [then', inBlk, noGo]
        refine rt4 ?_
        refine ⟨?_, hx⟩
        first
        | contradiction
        | exact congrArg Ending.returned (typ_no hno)
        | exact congrArg Ending.returned (typ_at (by assumption) (by decide))
        | exact congrArg Ending.returned (typ_rest hin (by assumption) (by assumption) (by assumption) (by assumption) (by assumption) (by assumption) (by assumption))
       ·
        refine W_skip ?_
        refine hK6 _ _ ?_
        refine W_seq fun K34 hK34 => ?_
        refine wr ?_
        iterate 2 refine dm ?_
        refine dp (pv_seq rfl rfl) ?_
        iterate 4 refine da ?_
        refine D_end (hK34 _ _ ?_)
        refine W_ret ?_
        try dsimp only [then', inBlk, noGo]
        refine rt4 ?_
        refine ⟨?_, hx⟩
        first
        | contradiction
        | exact congrArg Ending.returned (typ_no hno)
        | exact congrArg Ending.returned (typ_at (by assumption) (by decide))
        | exact congrArg Ending.returned (typ_rest hin (by assumption) (by assumption) (by assumption) (by assumption) (by assumption) (by assumption) (by assumption))
     ·
      refine W_seq fun K35 hK35 => ?_
      refine wr ?_
      refine dp (pv_seq rfl rfl) ?_
      refine da ?_
      refine D_end (hK35 _ _ ?_)
      refine W_if rfl (fun c17 => ?_) (fun c17 => ?_)
      ·
       refine W_skip ?_
       refine hK29 _ _ ?_
       refine W_if rfl (fun c18 => ?_) (fun c18 => ?_)
       ·
        refine W_seq fun K36 hK36 => ?_
        refine wr ?_
        refine dm ?_
        iterate 4 refine da ?_
        refine D_end (hK36 _ _ ?_)
        refine W_ret ?_
        try dsimp only [then', inBlk, noGo]
        refine rt4 ?_
        refine ⟨?_, hx⟩
        first
        | contradiction
        | exact congrArg Ending.returned (typ_no hno)
        | exact congrArg Ending.returned (typ_at (by assumption) (by decide))
        | exact congrArg Ending.returned (typ_rest hin (by assumption) (by assumption) (by assumption) (by assumption) (by assumption) (by assumption) (by assumption))
       ·
        refine W_seq fun K37 hK37 => ?_
        refine wr ?_
        refine dp (pv_seq rfl rfl) ?_
        refine da ?_
        refine D_end (hK37 _ _ ?_)
        refine W_if rfl (fun c19 => ?_) (fun c19 => ?_)
        ·
         refine W_seq fun K38 hK38 => ?_
         refine wr ?_
         refine dm ?_
         iterate 4 refine da ?_
         refine D_end (hK38 _ _ ?_)
         refine W_ret ?_
         try dsimp only [then', inBlk, noGo]
         refine rt4 ?_
         refine ⟨?_, hx⟩
         first
         | contradiction
         | exact congrArg Ending.returned (typ_no hno)
         | exact congrArg Ending.returned (typ_at (by assumption) (by decide))
         | exact congrArg Ending.returned (typ_rest hin (by assumption) (by assumption) (by assumption) (by assumption) (by assumption) (by assumption) (by assumption))
        ·
         refine W_skip ?_
         refine hK6 _ _ ?_
         refine W_seq fun K39 hK39 => ?_
         refine wr ?_
         iterate 2 refine dm ?_
         refine dp (pv_seq rfl rfl) ?_
         iterate 4 refine da ?_
         refine D_end (hK39 _ _ ?_)
         refine W_ret ?_
         try dsimp only [then', inBlk, noGo]
         refine rt4 ?_
         refine ⟨?_, hx⟩
         first
         | contradiction
         | exact congrArg Ending.returned (typ_no hno)
         | exact congrArg Ending.returned (typ_at (by assumption) (by decide))
         | exact congrArg Ending.returned (typ_rest hin (by assumption) (by assumption) (by assumption) (by assumption) (by assumption) (by assumption) (by assumption))
      ·
       refine wr ?_
       refine dp (pv_seq rfl rfl) ?_
       refine da ?_
       refine D_end (hK29 _ _ ?_)
       refine W_if rfl (fun c20 => ?_) (fun c20 => ?_)
       ·
        refine W_seq fun K40 hK40 => ?_
        refine wr ?_
        refine dm ?_
        iterate 4 refine da ?_
        refine D_end (hK40 _ _ ?_)
        refine W_ret ?_
        try dsimp only [then', inBlk, noGo]
        refine rt4 ?_
        refine ⟨?_, hx⟩
        first
        | contradiction
        | exact congrArg Ending.returned (typ_no hno)
        | exact congrArg Ending.returned (typ_at (by assumption) (by decide))
        | exact congrArg Ending.returned (typ_rest hin (by assumption) (by assumption) (by assumption) (by assumption) (by assumption) (by assumption) (by assumption))
       ·
        refine W_seq fun K41 hK41 => ?_
        refine wr ?_
        refine dp (pv_seq rfl rfl) ?_
        refine da ?_
        refine D_end (hK41 _ _ ?_)
        refine W_if rfl (fun c21 => ?_) (fun c21 => ?_)
        ·
         refine W_seq fun K42 hK42 => ?_
         refine wr ?_
         refine dm ?_
         iterate 4 refine da ?_
         refine D_end (hK42 _ _ ?_)
         refine W_ret ?_
         try dsimp only [then', inBlk, noGo]
         refine rt4 ?_
         refine ⟨?_, hx⟩
         first
         | contradiction
         | exact congrArg Ending.returned (typ_no hno)
         | exact congrArg Ending.returned (typ_at (by assumption) (by decide))
         | exact congrArg Ending.returned (typ_rest hin (by assumption) (by assumption) (by assumption) (by assumption) (by assumption) (by assumption) (by assumption))
        ·
         refine W_skip ?_
         refine hK6 _ _ ?_
         refine W_seq fun K43 hK43 => ?_
         refine wr ?_
         iterate 2 refine dm ?_
         refine dp (pv_seq rfl rfl) ?_
         iterate 4 refine da ?_
         refine D_end (hK43 _ _ ?_)
         refine W_ret ?_
         try dsimp only [then', inBlk, noGo]
         refine rt4 ?_
         refine ⟨?_, hx⟩
         first
         | contradiction
         | exact congrArg Ending.returned (typ_no hno)
         | exact congrArg Ending.returned (typ_at (by assumption) (by decide))
         | exact congrArg Ending.returned (typ_rest hin (by assumption) (by assumption) (by assumption) (by assumption) (by assumption) (by assumption) (by assumption))

theorem rtypeT_w (s : Str) (w : World) (hs : s.length ≤ 1000000) : Calls Tryz.prog 27 [S s].toArray w (Pure w (.tuple #[S (tC s), I (tY s), B (tG s), B (tOk s)])) := by
  rw [← typeV_parts]; exact rtype14_w s w hs

end Go.Proofs.YtdagdhjheibgnaaGreatDoor
