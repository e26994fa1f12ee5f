/-
  Walks.
-/
import Derived.Test.YteninjhmmjkckaaGreatDoorChecked
import Derived.Test.YteninjhmmjkckaaGreatDoorSpMem
import Derived.KernelRfl
import Derived.Test.YteninjhmmjkckaaGreatDoorDnA
import Derived.Test.YteninjhmmjkckaaGreatDoorVcK
import Derived.Test.YteninjhmmjkckaaGreatDoorSpKey
namespace Go.Proofs.YteninjhmmjkckaaGreatDoor
open Go.Vc Go.Sp
attribute [local irreducible] W XW Dw DwT
set_option linter.unusedVariables false
set_option linter.unusedSimpArgs false

def kindV (p : Int × Bool) : Value := .agg ⟨[I p.1, B p.2]⟩
theorem kind_inj (a b : Int × Bool) (h : kindV a = kindV b) : a = b := by
  obtain ⟨a1, a2⟩ := a
  obtain ⟨b1, b2⟩ := b
  simp [kindV] at h
  simp [h]
theorem kindK : MapK Tryz.prog 276 9 274 S kindV (fun s => s.length ≤ maxLen) := mapS (by kernel_rfl) (by kernel_rfl) kind_inj
noncomputable def putsF (f : Str → Option (Int × Bool)) (a : Int × Bool) (l : List Str) : Str → Option (Int × Bool) := l.foldl (fun f s => putF f s a) f
theorem puts_next {f : Str → Option (Int × Bool)} {a : Int × Bool} {l : List Str} {k : Nat} {s : Str} (h : l[k]? = some s) : putsF f a (l.take (k + 1)) = putF (putsF f a (l.take k)) s a := by
  unfold putsF; rw [take_snocS h, List.foldl_append]; rfl
noncomputable def tyF0 : Str → Option (Int × Bool) := putF (putF (putF (fun _ => none) [116, 101, 108, 101, 112, 104, 111, 110, 101, 110, 117, 109, 98, 101, 114] (5, false)) [117, 115, 101, 114, 112, 97, 115, 115, 119, 111, 114, 100] (4, false)) [100, 105, 115, 112, 108, 97, 121, 110, 97, 109, 101] (1, true)
theorem putsF_in {f : Str → Option (Int × Bool)} {a : Int × Bool} : ∀ {l : List Str} {t : Str}, putsF f a l t = if t ∈ l then some a else f t := by
  intro l
  induction l generalizing f with
  | nil => intro t; simp [putsF]
  | cons x l ih =>
    intro t
    have e : putsF f a (x :: l) = putsF (putF f x a) a l := rfl
    rw [e, ih]
    by_cases h1 : t ∈ l
    · simp [h1]
    · by_cases h2 : t = x
      · subst h2; simp [h1, putF]
      · simp [h1, h2, putF]
theorem table_eq (t : Str) : (putsF (putsF (putsF tyF0 (1, false) ns1) (2, true) ns2) (3, false) ns3) t = kindM t := by
  rw [putsF_in, putsF_in, putsF_in]
  unfold kindM
  by_cases h1 : t ∈ ns3
  · have : ∀ t ∈ ns3, t ≠ [116, 101, 108, 101, 112, 104, 111, 110, 101, 110, 117, 109, 98, 101, 114] ∧ t ≠ [117, 115, 101, 114, 112, 97, 115, 115, 119, 111, 114, 100] ∧ t ≠ [100, 105, 115, 112, 108, 97, 121, 110, 97, 109, 101] ∧ t ∉ ns1 ∧ t ∉ ns2 := by decide
    obtain ⟨a1, a2, a3, a4, a5⟩ := this t h1
    simp only [if_pos h1, if_neg a1, if_neg a2, if_neg a3, if_neg a4, if_neg a5]
  · by_cases h2 : t ∈ ns2
    · have : ∀ t ∈ ns2, t ≠ [116, 101, 108, 101, 112, 104, 111, 110, 101, 110, 117, 109, 98, 101, 114] ∧ t ≠ [117, 115, 101, 114, 112, 97, 115, 115, 119, 111, 114, 100] ∧ t ≠ [100, 105, 115, 112, 108, 97, 121, 110, 97, 109, 101] ∧ t ∉ ns1 := by decide
      obtain ⟨a1, a2, a3, a4⟩ := this t h2
      simp only [if_neg h1, if_pos h2, if_neg a1, if_neg a2, if_neg a3, if_neg a4]
    · by_cases h3 : t ∈ ns1
      · have : ∀ t ∈ ns1, t ≠ [116, 101, 108, 101, 112, 104, 111, 110, 101, 110, 117, 109, 98, 101, 114] ∧ t ≠ [117, 115, 101, 114, 112, 97, 115, 115, 119, 111, 114, 100] ∧ t ≠ [100, 105, 115, 112, 108, 97, 121, 110, 97, 109, 101] := by decide
        obtain ⟨a1, a2, a3⟩ := this t h3
        simp only [if_neg h1, if_neg h2, if_pos h3, if_neg a1, if_neg a2, if_neg a3]
      · simp only [if_neg h1, if_neg h2, if_neg h3]
        unfold tyF0
        simp only [putF]
        by_cases a3 : t = [100, 105, 115, 112, 108, 97, 121, 110, 97, 109, 101]
        · subst a3; simp
        · by_cases a2 : t = [117, 115, 101, 114, 112, 97, 115, 115, 119, 111, 114, 100]
          · subst a2; simp
          · by_cases a1 : t = [116, 101, 108, 101, 112, 104, 111, 110, 101, 110, 117, 109, 98, 101, 114]
            · subst a1; simp
            · simp [a1, a2, a3]
def typeV (o : Option (Str × Int × Bool)) : Value := match o with
  | some (c, y, g) => .tuple #[S c, I y, B g, B true]
  | none => .tuple #[S [], I 0, B false, B false]

set_option maxRecDepth 100000 in
set_option maxHeartbeats 1000000 in
theorem types_w (w : World) :
  Calls Tryz.prog 168 [].toArray w (Gives w (fun v w' => ∃ b n, v = .map (some b) ∧ Vc.MapAt Tryz.prog 9 S kindV w' b n (putsF (putsF (putsF tyF0 (1, false) ns1) (2, true) ns2) (3, false) ns3))) := by
 refine calls_W Tryz.func168 rfl rfl rfl (by kernel_rfl) ?_
 have hx := Ext.refl w
 have hl1 : ns1.length = 11 := rfl
 have hl2 : ns2.length = 2 := rfl
 have hl3 : ns3.length = 3 := rfl
 refine W_seq fun K1 hK1 => ?_
 refine wr ?_
 refine da ?_
 refine D_end (hK1 _ _ ?_)
 refine W_seq fun K2 hK2 => ?_
 refine wr ?_
 refine D_makeMap kindK rfl RX.all (fun b1 w1 e1 x1 mp1 => ?_)
 have g1 : w.heap.size ≤ b1 := by have := hx.size; omega
 replace hx := hx.trans x1
 refine dp (pv_build (zs := [.int .i64 0, B false]) (pl := [(0, 1), (1, 1)]) (pv := [(0, ?a2_0), (1, ?a2_1)]) (cs := [?a2_0, ?a2_1]) (by kernel_rfl) (by kernel_rfl) ?h2 ?f2) ?k2
 case h2 => refine ⟨rfl, ?_, rfl, ?_, trivial⟩ <;> (conv => lhs; whnf)
 case f2 => rfl
 refine D_insert kindK (kx := [116, 101, 108, 101, 112, 104, 111, 110, 101, 110, 117, 109, 98, 101, 114]) (a := (5, false)) rfl rfl rfl rfl mp1 (by decide) (by decide) (.inl rfl) (fun w2 x2 xs2 mp1_n => ?_)
 replace hx := hx.own x2 (fun i hi => by have hi2 : i = b1 := hi; subst hi2; omega)
 replace mp1 := mp1_n
 refine dp (pv_build (zs := [.int .i64 0, B false]) (pl := [(0, 1), (1, 1)]) (pv := [(0, ?a3_0), (1, ?a3_1)]) (cs := [?a3_0, ?a3_1]) (by kernel_rfl) (by kernel_rfl) ?h3 ?f3) ?k3
 case h3 => refine ⟨rfl, ?_, rfl, ?_, trivial⟩ <;> (conv => lhs; whnf)
 case f3 => rfl
 refine D_insert kindK (kx := [117, 115, 101, 114, 112, 97, 115, 115, 119, 111, 114, 100]) (a := (4, false)) rfl rfl rfl rfl mp1 (by decide) (by decide) (.inl rfl) (fun w3 x3 xs3 mp1_n => ?_)
 replace hx := hx.own x3 (fun i hi => by have hi2 : i = b1 := hi; subst hi2; omega)
 replace mp1 := mp1_n
 refine dp (pv_build (zs := [.int .i64 0, B false]) (pl := [(0, 1), (1, 1)]) (pv := [(0, ?a4_0), (1, ?a4_1)]) (cs := [?a4_0, ?a4_1]) (by kernel_rfl) (by kernel_rfl) ?h4 ?f4) ?k4
 case h4 => refine ⟨rfl, ?_, rfl, ?_, trivial⟩ <;> (conv => lhs; whnf)
 case f4 => rfl
 refine D_insert kindK (kx := [100, 105, 115, 112, 108, 97, 121, 110, 97, 109, 101]) (a := (1, true)) rfl rfl rfl rfl mp1 (by decide) (by decide) (.inl rfl) (fun w4 x4 xs4 mp1_n => ?_)
 replace hx := hx.own x4 (fun i hi => by have hi2 : i = b1 := hi; subst hi2; omega)
 replace mp1 := mp1_n
 refine dm ?_
 refine da ?_
 refine D_end (hK2 _ _ ?_)
 refine W_seq fun K3 hK3 => ?_
 refine W_seq fun K4 hK4 => ?_
 refine wr ?_
 refine D_lit (e := 9) (sz := 1) (zs := [S []]) (pv := [(0, ?a7_0), (1, ?a7_1), (2, ?a7_2), (3, ?a7_3), (4, ?a7_4), (5, ?a7_5), (6, ?a7_6), (7, ?a7_7), (8, ?a7_8), (9, ?a7_9), (10, ?a7_10)]) (cs := [?a7_0, ?a7_1, ?a7_2, ?a7_3, ?a7_4, ?a7_5, ?a7_6, ?a7_7, ?a7_8, ?a7_9, ?a7_10]) rfl (by kernel_rfl) ⟨rfl, rfl⟩ (by kernel_rfl) rfl ?h7 ?f7 RX.all (fun b2 w5 e2 x5 m2 => ?k7)
 case h7 => refine ⟨rfl, ?_, rfl, ?_, rfl, ?_, rfl, ?_, rfl, ?_, rfl, ?_, rfl, ?_, rfl, ?_, rfl, ?_, rfl, ?_, rfl, ?_, trivial⟩ <;> (conv => lhs; whnf)
 case f7 => rfl
 have g2 : w.heap.size ≤ b2 := by have := hx.size; omega
 have n2_mp1 := mp1.lt
 replace mp1 := mp1.ext x5
 replace hx := hx.trans x5
 refine dp (pv_lenV (e := 9) (k := 1) (by kernel_rfl) (m2.arr (enc := sEnc) (sz := 1) (l := ns1) rfl (by intro x; rfl) rfl (by decide)).sl rfl) ?_
 refine dm ?_
 refine D_end (hK4 _ _ ?_)
 refine W_block ?_
 refine W_loop (G := Nat) (fun k => [(0, .map none), (1, .map (some b1)), (13, .slice (some ⟨b2, 0, none⟩) 11 11), (14, I ↑ns1.length), (15, I ↑k)]) (fun k w' => Ext w w' ∧ Blk w' b2 (ns1.flatMap sEnc) 9 ∧ k ≤ ns1.length ∧ Vc.MapAt Tryz.prog 9 S kindV w' b1 (3 + k) (putsF tyF0 (1, false) (ns1.take k))) (fun k => ns1.length - k) 0 ?_ ?_ ?_
 ·
  exact ⟨rfl, rfl, rfl, rfl, rfl, trivial⟩
 ·
  exact ⟨hx, m2, Nat.zero_le _, mp1⟩
 ·
  intro X6 g6 w6 hF6
  revert hF6; revert g6; intro k hF6
  clear hx mp1 m2
  obtain ⟨hx, m2, hk1, mp1⟩ := hF6
  refine W_seq fun K5 hK5 => ?_
  refine wr ?_
  refine dp (pv_lss rfl rfl) ?_
  refine D_end (hK5 _ _ ?_)
  refine W_seq fun K6 hK6 => ?_
  refine W_if rfl (fun c1 => ?_) (fun c1 => ?_)
  ·
   obtain ⟨s, hk⟩ : ∃ s, ns1[k]? = some s := ⟨_, List.getElem?_eq_getElem (by omega)⟩
   have hsl : s.length ≤ 100 := (by decide : ∀ x ∈ ns1, x.length ≤ 100) s (List.mem_of_getElem? hk)
   refine W_skip ?_
   refine hK6 _ _ ?_
   refine W_seq fun K7 hK7 => ?_
   refine W_block ?_
   refine W_seq fun K8 hK8 => ?_
   refine wr ?_
   refine dp (pv_idxA (e := 9) (k := 1) (by kernel_rfl) (m2.arr (enc := sEnc) (sz := 1) (l := ns1) rfl (by intro x; rfl) rfl (by decide)).sl rfl rfl ((m2.arr (enc := sEnc) (sz := 1) (l := ns1) rfl (by intro x; rfl) rfl (by decide)).lt hk)) ?_
   refine dq (lv_load (by kernel_rfl) rfl (((m2.arr (enc := sEnc) (sz := 1) (l := ns1) rfl (by intro x; rfl) rfl (by decide)).row hk).at0 rfl)) ?_
   refine da ?_
   refine D_end (hK8 _ _ ?_)
   refine wr ?_
   iterate 2 refine dm ?_
   refine dp (pv_build (zs := [.int .i64 0, B false]) (pl := [(0, 1), (1, 1)]) (pv := [(0, ?a12_0), (1, ?a12_1)]) (cs := [?a12_0, ?a12_1]) (by kernel_rfl) (by kernel_rfl) ?h12 ?f12) ?k12
   case h12 => refine ⟨rfl, ?_, rfl, ?_, trivial⟩ <;> (conv => lhs; whnf)
   case f12 => rfl
   refine D_mapUpdate kindK (kx := s) (a := (1, false)) rfl rfl rfl rfl mp1 (by unfold maxLen; omega) (by unfold maxLen; omega) (.inl rfl) (fun w7 x7 xs7 mp1_n => ?_)
   replace m2 := m2.mod x7 (by first | exact (fun k hk e => mp1.ne_own m2 (hk.trans (congrArg some e))) | exact fun e => mp1.ne_blk m2 e | assumption | omega)
   replace hx := hx.own x7 (fun i hi => by have hi2 : i = b1 := hi; subst hi2; omega)
   replace mp1 := mp1_n
   refine D_end (hK7 _ _ ?_)
   refine wr ?_
   refine dp (pv_add rfl rfl (by unfold inI64; omega)) ?_
   refine dm ?_
   refine D_end (?_)
   refine ⟨k + 1, ⟨rfl, rfl, rfl, rfl, rfl, trivial⟩, ⟨hx, m2, by omega, ?_⟩, by omega⟩
   rw [puts_next hk]; exact mp1
  ·
   rw [List.take_of_length_le (by omega), show 3 + k = 14 + 0 by omega] at mp1
   refine W_exit ?_
   refine hK3 _ _ ?_
   refine W_seq fun K9 hK9 => ?_
   refine W_seq fun K10 hK10 => ?_
   refine wr ?_
   refine D_lit (e := 9) (sz := 1) (zs := [S []]) (pv := [(0, ?a14_0), (1, ?a14_1)]) (cs := [?a14_0, ?a14_1]) rfl (by kernel_rfl) ⟨rfl, rfl⟩ (by kernel_rfl) rfl ?h14 ?f14 RX.all (fun b3 w8 e3 x8 m3 => ?k14)
   case h14 => refine ⟨rfl, ?_, rfl, ?_, trivial⟩ <;> (conv => lhs; whnf)
   case f14 => rfl
   have g3 : w.heap.size ≤ b3 := by have := hx.size; omega
   have n3_2 : b2 < b3 := by have := m2.lt; omega
   have n3_mp1 := mp1.lt
   replace m2 := m2.ext x8
   replace mp1 := mp1.ext x8
   replace hx := hx.trans x8
   refine dp (pv_lenV (e := 9) (k := 1) (by kernel_rfl) (m3.arr (enc := sEnc) (sz := 1) (l := ns2) rfl (by intro x; rfl) rfl (by decide)).sl rfl) ?_
   refine dm ?_
   refine D_end (hK10 _ _ ?_)
   refine W_block ?_
   refine W_loop (G := Nat) (fun k => [(0, .map none), (1, .map (some b1)), (23, .slice (some ⟨b3, 0, none⟩) 2 2), (24, I ↑ns2.length), (25, I ↑k)]) (fun k w' => Ext w w' ∧ Blk w' b2 (ns1.flatMap sEnc) 9 ∧ Blk w' b3 (ns2.flatMap sEnc) 9 ∧ k ≤ ns2.length ∧ Vc.MapAt Tryz.prog 9 S kindV w' b1 (14 + k) (putsF (putsF tyF0 (1, false) ns1) (2, true) (ns2.take k))) (fun k => ns2.length - k) 0 ?_ ?_ ?_
   ·
    exact ⟨rfl, rfl, rfl, rfl, rfl, trivial⟩
   ·
    exact ⟨hx, m2, m3, Nat.zero_le _, mp1⟩
   ·
    intro X9 g9 w9 hF9
    revert hF9; revert g9; intro k hF9
    clear hx m2 mp1 m3
    obtain ⟨hx, m2, m3, hk1, mp1⟩ := hF9
    refine W_seq fun K11 hK11 => ?_
    refine wr ?_
    refine dp (pv_lss rfl rfl) ?_
    refine D_end (hK11 _ _ ?_)
    refine W_seq fun K12 hK12 => ?_
    refine W_if rfl (fun c2 => ?_) (fun c2 => ?_)
    ·
     obtain ⟨s, hk⟩ : ∃ s, ns2[k]? = some s := ⟨_, List.getElem?_eq_getElem (by omega)⟩
     have hsl : s.length ≤ 100 := (by decide : ∀ x ∈ ns2, x.length ≤ 100) s (List.mem_of_getElem? hk)
     refine W_skip ?_
     refine hK12 _ _ ?_
     refine W_seq fun K13 hK13 => ?_
     refine W_block ?_
     refine W_seq fun K14 hK14 => ?_
     refine wr ?_
     refine dp (pv_idxA (e := 9) (k := 1) (by kernel_rfl) (m3.arr (enc := sEnc) (sz := 1) (l := ns2) rfl (by intro x; rfl) rfl (by decide)).sl rfl rfl ((m3.arr (enc := sEnc) (sz := 1) (l := ns2) rfl (by intro x; rfl) rfl (by decide)).lt hk)) ?_
     refine dq (lv_load (by kernel_rfl) rfl (((m3.arr (enc := sEnc) (sz := 1) (l := ns2) rfl (by intro x; rfl) rfl (by decide)).row hk).at0 rfl)) ?_
     refine da ?_
     refine D_end (hK14 _ _ ?_)
     refine wr ?_
     iterate 2 refine dm ?_
     refine dp (pv_build (zs := [.int .i64 0, B false]) (pl := [(0, 1), (1, 1)]) (pv := [(0, ?a19_0), (1, ?a19_1)]) (cs := [?a19_0, ?a19_1]) (by kernel_rfl) (by kernel_rfl) ?h19 ?f19) ?k19
     case h19 => refine ⟨rfl, ?_, rfl, ?_, trivial⟩ <;> (conv => lhs; whnf)
     case f19 => rfl
     refine D_mapUpdate kindK (kx := s) (a := (2, true)) rfl rfl rfl rfl mp1 (by unfold maxLen; omega) (by unfold maxLen; omega) (.inl rfl) (fun w10 x10 xs10 mp1_n => ?_)
     replace m2 := m2.mod x10 (by first | exact (fun k hk e => mp1.ne_own m2 (hk.trans (congrArg some e))) | exact fun e => mp1.ne_blk m2 e | assumption | omega)
     replace m3 := m3.mod x10 (by first | exact (fun k hk e => mp1.ne_own m3 (hk.trans (congrArg some e))) | exact fun e => mp1.ne_blk m3 e | assumption | omega)
     replace hx := hx.own x10 (fun i hi => by have hi2 : i = b1 := hi; subst hi2; omega)
     replace mp1 := mp1_n
     refine D_end (hK13 _ _ ?_)
     refine wr ?_
     refine dp (pv_add rfl rfl (by unfold inI64; omega)) ?_
     refine dm ?_
     refine D_end (?_)
     refine ⟨k + 1, ⟨rfl, rfl, rfl, rfl, rfl, trivial⟩, ⟨hx, m2, m3, by omega, ?_⟩, by omega⟩
     rw [puts_next hk]; exact mp1
    ·
     rw [List.take_of_length_le (by omega), show 14 + k = 16 + 0 by omega] at mp1
     refine W_exit ?_
     refine hK9 _ _ ?_
     refine W_seq fun K15 hK15 => ?_
     refine W_seq fun K16 hK16 => ?_
     refine wr ?_
     refine D_lit (e := 9) (sz := 1) (zs := [S []]) (pv := [(0, ?a21_0), (1, ?a21_1), (2, ?a21_2)]) (cs := [?a21_0, ?a21_1, ?a21_2]) rfl (by kernel_rfl) ⟨rfl, rfl⟩ (by kernel_rfl) rfl ?h21 ?f21 RX.all (fun b4 w11 e4 x11 m4 => ?k21)
     case h21 => refine ⟨rfl, ?_, rfl, ?_, rfl, ?_, trivial⟩ <;> (conv => lhs; whnf)
     case f21 => rfl
     have g4 : w.heap.size ≤ b4 := by have := hx.size; omega
     have n4_2 : b2 < b4 := by have := m2.lt; omega
     have n4_3 : b3 < b4 := by have := m3.lt; omega
     have n4_mp1 := mp1.lt
     replace m2 := m2.ext x11
     replace m3 := m3.ext x11
     replace mp1 := mp1.ext x11
     replace hx := hx.trans x11
     refine dp (pv_lenV (e := 9) (k := 1) (by kernel_rfl) (m4.arr (enc := sEnc) (sz := 1) (l := ns3) rfl (by intro x; rfl) rfl (by decide)).sl rfl) ?_
     refine dm ?_
     refine D_end (hK16 _ _ ?_)
     refine W_block ?_
     refine W_loop (G := Nat) (fun k => [(0, .map none), (1, .map (some b1)), (33, .slice (some ⟨b4, 0, none⟩) 3 3), (34, I ↑ns3.length), (35, I ↑k)]) (fun k w' => Ext w w' ∧ Blk w' b2 (ns1.flatMap sEnc) 9 ∧ Blk w' b3 (ns2.flatMap sEnc) 9 ∧ Blk w' b4 (ns3.flatMap sEnc) 9 ∧ k ≤ ns3.length ∧ Vc.MapAt Tryz.prog 9 S kindV w' b1 (16 + k) (putsF (putsF (putsF tyF0 (1, false) ns1) (2, true) ns2) (3, false) (ns3.take k))) (fun k => ns3.length - k) 0 ?_ ?_ ?_
     ·
      exact ⟨rfl, rfl, rfl, rfl, rfl, trivial⟩
     ·
      exact ⟨hx, m2, m3, m4, Nat.zero_le _, mp1⟩
     ·
      intro X12 g12 w12 hF12
      revert hF12; revert g12; intro k hF12
      clear hx m2 m3 mp1 m4
      obtain ⟨hx, m2, m3, m4, hk1, mp1⟩ := hF12
      refine W_seq fun K17 hK17 => ?_
      refine wr ?_
      refine dp (pv_lss rfl rfl) ?_
      refine D_end (hK17 _ _ ?_)
      refine W_seq fun K18 hK18 => ?_
      refine W_if rfl (fun c3 => ?_) (fun c3 => ?_)
      ·
       obtain ⟨s, hk⟩ : ∃ s, ns3[k]? = some s := ⟨_, List.getElem?_eq_getElem (by omega)⟩
       have hsl : s.length ≤ 100 := (by decide : ∀ x ∈ ns3, x.length ≤ 100) s (List.mem_of_getElem? hk)
       refine W_skip ?_
       refine hK18 _ _ ?_
       refine W_seq fun K19 hK19 => ?_
       refine W_block ?_
       refine W_seq fun K20 hK20 => ?_
       refine wr ?_
       refine dp (pv_idxA (e := 9) (k := 1) (by kernel_rfl) (m4.arr (enc := sEnc) (sz := 1) (l := ns3) rfl (by intro x; rfl) rfl (by decide)).sl rfl rfl ((m4.arr (enc := sEnc) (sz := 1) (l := ns3) rfl (by intro x; rfl) rfl (by decide)).lt hk)) ?_
       refine dq (lv_load (by kernel_rfl) rfl (((m4.arr (enc := sEnc) (sz := 1) (l := ns3) rfl (by intro x; rfl) rfl (by decide)).row hk).at0 rfl)) ?_
       refine da ?_
       refine D_end (hK20 _ _ ?_)
       refine wr ?_
       iterate 2 refine dm ?_
       refine dp (pv_build (zs := [.int .i64 0, B false]) (pl := [(0, 1), (1, 1)]) (pv := [(0, ?a26_0), (1, ?a26_1)]) (cs := [?a26_0, ?a26_1]) (by kernel_rfl) (by kernel_rfl) ?h26 ?f26) ?k26
       case h26 => refine ⟨rfl, ?_, rfl, ?_, trivial⟩ <;> (conv => lhs; whnf)
       case f26 => rfl
       refine D_mapUpdate kindK (kx := s) (a := (3, false)) rfl rfl rfl rfl mp1 (by unfold maxLen; omega) (by unfold maxLen; omega) (.inl rfl) (fun w13 x13 xs13 mp1_n => ?_)
       replace m2 := m2.mod x13 (by first | exact (fun k hk e => mp1.ne_own m2 (hk.trans (congrArg some e))) | exact fun e => mp1.ne_blk m2 e | assumption | omega)
       replace m3 := m3.mod x13 (by first | exact (fun k hk e => mp1.ne_own m3 (hk.trans (congrArg some e))) | exact fun e => mp1.ne_blk m3 e | assumption | omega)
       replace m4 := m4.mod x13 (by first | exact (fun k hk e => mp1.ne_own m4 (hk.trans (congrArg some e))) | exact fun e => mp1.ne_blk m4 e | assumption | omega)
       replace hx := hx.own x13 (fun i hi => by have hi2 : i = b1 := hi; subst hi2; omega)
       replace mp1 := mp1_n
       refine D_end (hK19 _ _ ?_)
       refine wr ?_
       refine dp (pv_add rfl rfl (by unfold inI64; omega)) ?_
       refine dm ?_
       refine D_end (?_)
       refine ⟨k + 1, ⟨rfl, rfl, rfl, rfl, rfl, trivial⟩, ⟨hx, m2, m3, m4, by omega, ?_⟩, by omega⟩
       rw [puts_next hk]; exact mp1
      ·
       rw [List.take_of_length_le (by omega)] at mp1
       refine W_exit ?_
       refine hK15 _ _ ?_
       refine W_seq fun K21 hK21 => ?_
       refine wr ?_
       refine dm ?_
       refine da ?_
       refine D_end (hK21 _ _ ?_)
       refine W_ret ?_
       try dsimp only [then', inBlk, noGo]
       refine ro ?_
       exact ⟨_, rfl, hx, _, _, rfl, mp1⟩

set_option maxRecDepth 100000 in
set_option maxHeartbeats 1000000 in
theorem typeM_w (s : Str) (w : World) (hs : s.length ≤ 1000000) :
  Calls Tryz.prog 85 [S s].toArray w (Pure w (typeV (typeM s))) := by
 refine calls_W Tryz.func85 rfl rfl rfl (by kernel_rfl) ?_
 have hx := Ext.refl w
 have hfl := foldS_len s
 refine W_seq fun K1 hK1 => ?_
 refine wr ?_
 iterate 4 refine da ?_
 refine D_end (hK1 _ _ ?_)
 refine W_seq fun K2 hK2 => ?_
 refine wr ?_
 refine dm ?_
 refine D_callP rfl (by kernel_rfl) (fold_w s _ hs) rfl RX.all (fun w1 x1 => ?_)
 replace hx := hx.trans x1
 refine da ?_
 refine D_end (hK2 _ _ ?_)
 refine W_seq fun K3 hK3 => ?_
 refine wr ?_
 refine D_callG rfl (by kernel_rfl) (types_w _) rfl RX.all (fun u2 w2 x2 hf2 => ?_)
 have hsz2 := hx.size
 replace hx := hx.trans x2
 obtain ⟨b99, n99, rfl, mp99⟩ := hf2
 refine dm ?_
 refine dq (lv_lookOk kindK (kx := (foldS s)) (z0 := (0, false)) rfl rfl (by kernel_rfl) mp99 (by unfold maxLen; omega)) ?_
 refine dm ?_
 refine dp (pv_ext rfl rfl) ?_
 refine dp (pv_ext rfl rfl) ?_
 refine D_alloc (cs := [.int .i64 0, B false]) rfl (by kernel_rfl) RX.all (fun b1 w3 e1 x3 m1 => ?_)
 have g1 : w.heap.size ≤ b1 := by have := hx.size; omega
 have n1_mp99 := mp99.lt
 replace mp99 := mp99.ext x3
 replace hx := hx.trans x3
 refine D_store (v := ?v9) (vs := ?u9) rfl rfl ?h9 ?c9 ?s9 m1 ?o9 ?n9 (.inl rfl) (fun w4 x4 xs4 m1 => ?k9)
 case h9 => conv => lhs; whnf
 case c9 => exact rfl
 case s9 => kernel_rfl
 case o9 => exact Nat.le_of_ble_eq_true rfl
 case n9 => simp [Value.oneCell']
 try dsimp only [setAt, List.set, List.take, List.drop] at m1
 replace mp99 := mp99.mod x4 (by intro h; have h2 : _ = b1 := h; omega)
 replace hx := hx.own x4 (by intro i hi; have hi2 : i = b1 := hi; subst hi2; omega)
 refine da ?_
 refine D_end (hK3 _ _ ?_)
 refine W_seq fun K4 hK4 => ?_
 refine W_seq fun K5 hK5 => ?_
 refine wr ?_
 refine dm ?_
 refine dn ?_
 refine D_end (hK5 _ _ ?_)
 refine W_cond rfl (fun c1 => ?_) (fun c1 => ?_)
 ·
  have hk : kindM (foldS s) = none := by rw [← table_eq]; simpa using c1
  refine W_seq fun K6 hK6 => ?_
  refine wr ?_
  iterate 4 refine da ?_
  refine D_end (hK6 _ _ ?_)
  refine W_ret ?_
  try dsimp only [then', inBlk, noGo]
  refine rt4 ?_
  refine ⟨?_, hx⟩
  unfold typeM
  rw [hk]; rfl
 ·
  simp only [Bool.not_eq_false', Option.isSome_iff_exists] at c1
  obtain ⟨q, hq⟩ := c1
  have hk := hq
  rw [table_eq] at hk
  refine W_skip ?_
  refine hK4 _ _ ?_
  refine W_seq fun K7 hK7 => ?_
  refine W_draw (R := Ext) Ext.refl (fun _ _ _ => Ext.trans) (by kernel_rfl) [2, 4] [(0, .p, false), (1, .p, false), (2, .l, false), (3, .p, false), (4, .l, false), (5, .p, false), (6, .p, false), (7, .p, false), (8, .p, false)] rfl (by kernel_rfl) (by kernel_rfl) (fun w5 ew5 => ?_)
  have x5 : Ext w4 w5 := by rw [ew5]; exact Ext.drew _
  clear ew5
  replace mp99 := mp99.ext x5
  replace m1 := m1.ext x5
  replace hx := hx.trans x5
  refine dm ?_
  refine dp (pv_fieldA (k := 0) (by kernel_rfl) rfl) ?_
  refine D_l rfl (fun w' hR => lv_load (by kernel_rfl) rfl ((m1.ext hR).at rfl)) ?_
  refine dp (pv_fieldA (k := 1) (by kernel_rfl) rfl) ?_
  refine D_l rfl (fun w' hR => lv_load (by kernel_rfl) rfl ((m1.ext hR).at rfl)) ?_
  iterate 4 refine da ?_
  refine D_end (hK7 _ _ ?_)
  refine W_ret ?_
  try dsimp only [then', inBlk, noGo]
  refine rt4 ?_
  refine ⟨?_, hx⟩
  unfold typeM
  rw [hk, hq]; rfl

end Go.Proofs.YteninjhmmjkckaaGreatDoor
