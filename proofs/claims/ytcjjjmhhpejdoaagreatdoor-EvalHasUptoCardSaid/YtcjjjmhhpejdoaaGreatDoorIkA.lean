/-
  Walks.
-/
import Derived.Test.YtcjjjmhhpejdoaaGreatDoorChecked
import Derived.Test.YtcjjjmhhpejdoaaGreatDoorSpMem
import Derived.KernelRfl
import Derived.Test.YtcjjjmhhpejdoaaGreatDoorKyA
import Derived.Test.YtcjjjmhhpejdoaaGreatDoorScB
import Derived.Test.YtcjjjmhhpejdoaaGreatDoorMaA
import Derived.Test.YtcjjjmhhpejdoaaGreatDoorIdxE
namespace Go.Proofs.YtcjjjmhhpejdoaaGreatDoor
open Go.Vc Go.Sp
attribute [local irreducible] W XW Dw DwT
set_option linter.unusedVariables false
set_option linter.unusedSimpArgs false

theorem GV.modM {b : Nat} {w w' : World} (h : GV w) (x : Vc.Mod (oneB b) w w') (hb : ∃ es c, w.heap[b]? = some (.map es c)) : GV w' := by
  obtain ⟨m, hm⟩ := h.ml
  refine ⟨m, x.cell hm ?_⟩
  intro e
  obtain ⟨es, c, h1⟩ := hb
  exact ne_cells h1 rfl (cells_of_cell hm) e
theorem strK : MapK Tryz.prog 78 9 4 S B (fun s => s.length ≤ maxLen) := mapS (by kernel_rfl) (by kernel_rfl) B_inj
/-- An attribute where it lies. -/
structure AttrV where
  typ : Str
  vals : List Str
  v : Value
@[reducible] def AttrV.cs (a : AttrV) : List Value := [S a.typ, a.v]
def AttrV.toA (a : AttrV) : Sp.Attr := ⟨a.typ, a.vals⟩
def ValsAt (w : World) (l : List AttrV) : Prop := ∀ a ∈ l, Arr sEnc 1 w a.v a.vals
theorem ValsAt.ext {w w' : World} {l : List AttrV} (h : ValsAt w l) (x : Ext w w') : ValsAt w' l := fun a ha => (h a ha).ext x
theorem ValsAt.at {w : World} {l : List AttrV} {k : Nat} {a : AttrV} (h : ValsAt w l) (hk : l[k]? = some a) : Arr sEnc 1 w a.v a.vals := h a (List.mem_of_getElem? hk)
theorem toA_at {l : List AttrV} {k : Nat} {a : AttrV} (h : l[k]? = some a) : (l.map AttrV.toA)[k]? = some a.toA := by rw [List.getElem?_map, h]; rfl
theorem SmallE.at {dn : List Ava} {l : List AttrV} (h : SmallE ⟨dn, l.map AttrV.toA⟩) {k : Nat} {a : AttrV} (hk : l[k]? = some a) : a.typ.length ≤ 4000 ∧ a.vals.length ≤ 4000 ∧ ∀ v ∈ a.vals, v.length ≤ 4000 := by
  have hm := List.mem_of_getElem? (toA_at hk)
  exact ⟨h.typ _ hm, h.vals _ hm, h.val _ hm⟩
theorem norm_len2 {y : Int} {v : Str} : ((normM y v).getD []).length ≤ 1000000 := by
  cases h : normM y v with
  | none => simp
  | some n => exact norm_len h
theorem inF_one (ws : List Str) (x : Str) : putF (inF ws) x true = inF (ws ++ [x]) := inF_put ws x
theorem small_wins {n : Nat} {l : List Str} {k : Nat} {x : Str} (h : ∀ y ∈ l, y.length ≤ n) (hk : l[k]? = some x) : x.length ≤ n := h x (List.mem_of_getElem? hk)
theorem grams_short {n x : Str} (h : x ∈ grams n) : x.length = 3 := wins_len (mem_grams.1 h)
theorem begS_len (k : UInt8) (t s : Str) : (begS k t s).length ≤ t.length + 2 * s.length + 4 := by
  have := esc_len s
  unfold begS; simp; omega
theorem valK_some {c : Str} {y : Int} {name v n : Str} (h : normM y v = some n) (hy : y = 1 ∨ y = 5) : valK c y name v = (begS 101 c n ++ name) :: (grams n).map (fun g => begS 103 c g ++ name) := by
  unfold valK; rw [h]; simp only [if_pos hy]
theorem valK_one {c : Str} {y : Int} {name v n : Str} (h : normM y v = some n) (hy : ¬ (y = 1 ∨ y = 5)) : valK c y name v = [begS 101 c n ++ name] := by
  unfold valK; rw [h]; simp only [if_neg hy]
theorem valK_none {c : Str} {y : Int} {name v : Str} (h : normM y v = none) : valK c y name v = [] := by
  unfold valK; rw [h]
theorem attrK_ok {name : Str} {a : AttrV} (hok : tOk a.typ = true) (hv : a.vals ≠ []) : attrK name a.toA = (112 :: (tC a.typ ++ [0]) ++ name) :: a.vals.flatMap (valK (tC a.typ) (tY a.typ) name) := by
  unfold tOk at hok
  obtain ⟨p, hp⟩ := Option.isSome_iff_exists.1 hok
  have e1 : tC a.typ = foldS a.typ := by unfold tC tOk; rw [hp]; rfl
  have e2 : tY a.typ = p.1 := by unfold tY; rw [hp]; rfl
  rw [attrK_yes (a := a.toA) hp hv, e1, e2]; rfl
theorem attrK_off {name : Str} {a : AttrV} (h : tOk a.typ = false ∨ a.vals = []) : attrK name a.toA = [] := attrK_no (a := a.toA) (h.imp (fun h => by show kindM (foldS a.typ) = none; unfold tOk at h; simpa using h) id)
theorem keys_short {nl : List Ava} {l : List AttrV} (hs : SmallE ⟨nl, l.map AttrV.toA⟩) : ∀ x ∈ rawK ⟨nl, l.map AttrV.toA⟩, x.length ≤ 400000000 := by
  intro x hx
  have hn : (keyS nl).length ≤ 300100000 := keyS_len hs.dn
  unfold rawK at hx
  simp only at hx
  obtain ⟨a, ha, hx⟩ := List.mem_flatMap.1 hx
  unfold attrK at hx
  have ht := hs.typ a ha
  have hf := foldS_len a.typ
  split at hx
  · cases hx
  split at hx
  · cases hx
  rcases List.mem_cons.1 hx with rfl | hx
  · simp; omega
  obtain ⟨v, hv, hx⟩ := List.mem_flatMap.1 hx
  unfold valK at hx
  split at hx
  · cases hx
  rename_i n hno
  have hnl := norm_len hno
  rcases List.mem_cons.1 hx with rfl | hx
  · have := begS_len 101 (foldS a.typ) n
    rw [List.length_append]; omega
  split at hx
  · obtain ⟨g, hg, rfl⟩ := List.mem_map.1 hx
    have := begS_len 103 (foldS a.typ) g
    have := grams_short hg
    rw [List.length_append]; omega
  · cases hx

set_option maxRecDepth 100000 in
set_option maxHeartbeats 1000000 in
theorem rising_w (b n : Nat) (ws : List Str) (w : World) (hm : Vc.MapAt Tryz.prog 9 S B w b n (inF ws)) (hw : ∀ x ∈ ws, x.length ≤ maxLen) (hn : n ≤ 1000000) :
  Calls Tryz.prog 65 [.map (some b)].toArray w (Gives w (fun v' w' => Vc.Own sEnc 1 9 w.heap.size w' v' (ws.foldl layS []))) := by
 refine calls_W Tryz.func65 rfl rfl rfl (by kernel_rfl) ?_
 have hx := Ext.refl w
 refine W_seq fun K1 hK1 => ?_
 refine wr ?_
 refine da ?_
 refine D_end (hK1 _ _ ?_)
 refine W_seq fun K2 hK2 => ?_
 refine wr ?_
 refine da ?_
 refine D_end (hK2 _ _ ?_)
 refine W_seq fun K3 hK3 => ?_
 refine W_seq fun K4 hK4 => ?_
 refine wr ?_
 refine dm ?_
 refine D_range strK rfl rfl hm RX.all (fun b1 w1 cnt1 e1 x1 hcn1 rg1 => ?_)
 have g1 : w.heap.size ≤ b1 := by have := hx.size; omega
 replace hm := hm.ext x1
 replace hx := hx.trans x1
 refine D_end (hK4 _ _ ?_)
 refine W_block ?_
 refine W_loop (G := List Str × Value × Nat) (fun (D, vm, cnt) => [(2, .slice none 0 0), (3, vm), (6, ptr b1 0)]) (fun (D, vm, cnt) w' => Ext w w' ∧ Vc.RangeAt Tryz.prog 9 S B w' b b1 n (inF ws) (fun x => x ∈ ws ∧ x ∉ D) cnt ∧ D.Nodup ∧ (∀ x ∈ D, x ∈ ws) ∧ D.length + cnt ≤ n ∧ Vc.Own sEnc 1 9 w.heap.size w' vm D) (fun (D, vm, cnt) => cnt) ([], .slice none 0 0, cnt1) ?_ ?_ ?_
 ·
  exact ⟨rfl, rfl, rfl, trivial⟩
 ·
  exact ⟨hx, rg1.congr (fun x => by rw [inF_some]; simp), List.nodup_nil, fun x hx => (by cases hx), by simpa using hcn1, Vc.Own.nil⟩
 ·
  intro X2 g2 w2 hF2
  obtain ⟨D, vm, cnt⟩ := g2
  clear hx hm rg1
  obtain ⟨hx, rg1, hnd, hD, hlen, ho⟩ := hF2
  refine W_seq fun K5 hK5 => ?_
  refine wr ?_
  refine D_next strK rfl rfl rg1 (.inl rfl) (fun hno => ?_) (fun x a w3 cnt2 hok hlx hfx xm3 xs3 hlt rg1_n hen3 => ?_)
  ·
   refine dp (pv_ext rfl rfl) ?_
   refine D_end (hK5 _ _ ?_)
   refine W_seq fun K6 hK6 => ?_
   refine W_f rfl ?_
   refine W_exit ?_
   refine hK3 _ _ ?_
   refine W_seq fun K7 hK7 => ?_
   refine wr ?_
   refine dm ?_
   refine D_callD rfl (by kernel_rfl) (sort_w ho (by omega)) rfl (.inl rfl) (fun u4 w4 x4 hf4 => ?_)
   have hsz4 := hx.size
   replace hx := hx.own x4 (fun i hi => (ho.lt i hi).1)
   obtain ⟨_, hso⟩ := hf4
   refine D_end (hK7 _ _ ?_)
   refine W_seq fun K8 hK8 => ?_
   refine wr ?_
   refine dm ?_
   refine da ?_
   refine D_end (hK8 _ _ ?_)
   refine W_ret ?_
   try dsimp only [then', inBlk, noGo]
   refine ro ?_
   exact ⟨_, rfl, hx, by rw [sort_lay hnd (fun x => ⟨hD x, fun h => Decidable.byContradiction fun h2 => hno x (hw x h) ⟨h, h2⟩⟩)] at hso; exact hso⟩
  ·
   replace ho := ho.mod xm3 (by first | exact (fun k hk e => rg1.ne_own ho (hk.trans (congrArg some e))) | exact fun e => rg1.ne_map ho e | exact fun e => rg1.ne_blk ho e | omega)
   replace hx := hx.own xm3 (fun i hi => by have hi2 : i = b1 := hi; subst hi2; omega)
   replace rg1 := rg1_n
   refine dp (pv_ext rfl rfl) ?_
   refine D_end (hK5 _ _ ?_)
   refine W_seq fun K9 hK9 => ?_
   refine W_t rfl ?_
   refine W_skip ?_
   refine hK9 _ _ ?_
   refine W_block ?_
   refine W_seq fun K10 hK10 => ?_
   refine wr ?_
   refine dq (lv_entry rfl hen3) ?_
   refine dp (pv_ext rfl rfl) ?_
   refine da ?_
   refine D_end (hK10 _ _ ?_)
   refine wr ?_
   iterate 2 refine dm ?_
   refine D_lit (e := 9) (sz := 1) (zs := [S []]) (pv := [(0, ?a11_0)]) (cs := [?a11_0]) rfl (by kernel_rfl) ⟨rfl, rfl⟩ (by kernel_rfl) rfl ?h11 ?f11 RX.all (fun b2 w5 e2 x5 m2 => ?k11)
   case h11 => refine ⟨rfl, ?_, trivial⟩ <;> (conv => lhs; whnf)
   case f11 => rfl
   have g2 : w.heap.size ≤ b2 := by have := hx.size; omega
   have n2_rg1 := rg1.lt
   have n2_rg1m := rg1.map.lt
   replace rg1 := rg1.ext x5
   replace ho := ho.ext x5
   replace hx := hx.trans x5
   refine D_append (lx := [x]) (e := 9) (sz := 1) (by' := 16) rfl (by kernel_rfl) (by kernel_rfl) (by intro x; rfl) ho (m2.arr (enc := sEnc) (sz := 1) (l := [x]) rfl (by intro x; rfl) rfl (Nat.le_of_ble_eq_true rfl)) rfl rfl (by intro x _ u hu; simp at hu; rcases hu with rfl <;> rfl) (by simp; omega) (by decide) hx.size (.inl rfl) (fun vm2 w6 ho_n x6 => ?_)
   replace rg1 := rg1.mod x6 (rg1.map.ne_own ho) (rg1.ne_own ho)
   replace hx := hx.own x6 (fun i hi => (ho.lt i hi).1)
   replace ho := ho_n
   clear m2
   refine da ?_
   refine D_end (?_)
   refine ⟨(D ++ [x], vm2, cnt2), ⟨rfl, rfl, rfl, trivial⟩, ⟨hx, rg1.congr (fun y => ?_), List.nodup_append.2 ⟨hnd, List.pairwise_singleton .., fun a ha b hb => ?_⟩, fun y hy => ?_, by simp; omega, ho⟩, hlt⟩
   ·
    simp only [List.mem_append, List.mem_singleton, not_or, and_assoc]
   ·
    rw [List.mem_singleton.1 hb]; exact fun e => hlx.2 (e ▸ ha)
   ·
    rcases List.mem_append.1 hy with hy | hy
    ·
     exact hD y hy
    ·
     rw [List.mem_singleton.1 hy]; exact hlx.1

set_option maxRecDepth 100000 in
set_option maxHeartbeats 1000000 in
theorem ivalue_w (b n : Nat) (ws : List Str) (c : Str) (y : Int) (val name : Str) (w : World) (hm : Vc.MapAt Tryz.prog 9 S B w b n (inF ws)) (hg : GV w) (hc : c.length ≤ 1000000) (hv : val.length ≤ 1000000) (hnm : name.length ≤ 1000000000) (hn : n ≤ 1000000) :
  Calls Tryz.prog 64 [.map (some b), S c, I y, S val, S name].toArray w (Does (oneB b) w (fun u w' => u = .tuple #[] ∧ ∃ n', n' ≤ n + (valK c y name val).length ∧ Vc.MapAt Tryz.prog 9 S B w' b n' (inF (ws ++ valK c y name val)))) := by
 refine calls_W Tryz.func64 rfl rfl rfl (by kernel_rfl) ?_
 have hx := Ext.refl w
 refine W_seq fun K1 hK1 => ?_
 refine wr ?_
 iterate 2 refine dm ?_
 refine D_callP rfl (by kernel_rfl) (normM_w y val _ hg hv) rfl RX.all (fun w1 x1 => ?_)
 replace hm := hm.ext x1
 replace hg := hg.ext x1
 replace hx := hx.trans x1
 refine dm ?_
 refine dp (pv_ext rfl rfl) ?_
 refine dp (pv_ext rfl rfl) ?_
 iterate 2 refine da ?_
 refine D_end (hK1 _ _ ?_)
 refine W_seq fun K2 hK2 => ?_
 refine W_seq fun K3 hK3 => ?_
 refine wr ?_
 refine dm ?_
 refine dn ?_
 refine D_end (hK3 _ _ ?_)
 refine W_cond rfl (fun c1 => ?_) (fun c1 => ?_)
 ·
  refine W_ret ?_
  try dsimp only [then', inBlk, noGo]
  refine ret_none rfl ?_
  have hno : normM y val = none := by simpa using c1
  exact ⟨_, rfl, hx.mono (fun _ h _ => h.elim), rfl, n, by omega, by rw [valK_none hno, List.append_nil]; exact hm⟩
 ·
  have hsm : (normM y val).isSome = true := by simpa using c1
  have hnv : normM y val = some ((normM y val).getD []) := by
   cases h : normM y val with
   | none => rw [h] at hsm; cases hsm
   | some a => rfl
  have hnl : ((normM y val).getD []).length ≤ 1000000 := norm_len2
  have hb1 := begS_len 101 c ((normM y val).getD [])
  have hgl := grams_len ((normM y val).getD [])
  refine W_skip ?_
  refine hK2 _ _ ?_
  refine W_seq fun K4 hK4 => ?_
  refine wr ?_
  iterate 3 refine dm ?_
  refine D_callP rfl (by kernel_rfl) (equal_w c ((normM y val).getD []) _ (by omega) (by omega) hg) rfl RX.all (fun w2 x2 => ?_)
  replace hm := hm.ext x2
  replace hg := hg.ext x2
  replace hx := hx.trans x2
  refine dm ?_
  refine dp (pv_scat rfl rfl (by first | (simp; done) | (simp; omega) | omega)) ?_
  refine D_mapUpdate strK (kx := (begS 101 c ((normM y val).getD []) ++ name)) (a := true) rfl rfl rfl rfl hm (by simp; unfold maxLen; omega) (by unfold maxLen; omega) (.inl rfl) (fun w3 x3 xs3 hm_n => ?_)
  replace hg := hg.modM x3 hm.heap
  replace hx := (hx.mod x3).mono (fun i hi _ => hi)
  replace hm := hm_n
  refine D_end (hK4 _ _ ?_)
  refine W_seq fun K5 hK5 => ?_
  refine W_seq fun K6 hK6 => ?_
  refine wr ?_
  refine dm ?_
  refine dp (pv_neq rfl rfl) ?_
  refine dm ?_
  refine D_splitP 30 rfl (fun c2 => ?_) (fun c2 => ?_)
  ·
   refine dm ?_
   refine dp (pv_neq rfl rfl) ?_
   refine dk' ?_
   refine D_end (hK6 _ _ ?_)
   refine W_if rfl (fun c3 => ?_) (fun c3 => ?_)
   ·
    refine W_ret ?_
    try dsimp only [then', inBlk, noGo]
    refine ret_none rfl ?_
    have hy15 : ¬ (y = 1 ∨ y = 5) := fun h => h.elim c2 c3
    exact ⟨_, rfl, hx, rfl, n + 1, by rw [valK_one hnv hy15]; simp, by rw [valK_one hnv hy15, ← inF_one]; exact hm⟩
   ·
    have hy15 : y = 1 ∨ y = 5 := .inr (Decidable.not_not.1 c3)
    refine W_skip ?_
    refine hK5 _ _ ?_
    refine W_seq fun K7 hK7 => ?_
    refine wr ?_
    refine dm ?_
    refine D_callG rfl (by kernel_rfl) (grams_w ((normM y val).getD []) _ (by omega)) rfl RX.all (fun vg w4 x4 hgr => ?_)
    have hsz4 := hx.size
    replace hm := hm.ext x4
    replace hg := hg.ext x4
    replace hx := hx.ext x4
    replace hgr := hgr.mono hsz4
    refine dp (pv_lenV (e := 9) (k := 1) (by kernel_rfl) (hgr.arr (by intro x; rfl)).sl rfl) ?_
    refine dm ?_
    refine D_end (hK7 _ _ ?_)
    refine W_block ?_
    refine W_loop (G := Nat × Nat) (fun (k, m) => [(0, .map (some b)), (1, S c), (4, S name), (35, vg), (36, I ↑(grams ((normM y val).getD [])).length), (37, I ↑k)]) (fun (k, m) w' => Mod (oneB b) w w' ∧ GV w' ∧ Vc.Own sEnc 1 9 w.heap.size w' vg (grams ((normM y val).getD [])) ∧ k ≤ (grams ((normM y val).getD [])).length ∧ Vc.MapAt Tryz.prog 9 S B w' b m (inF (ws ++ [begS 101 c ((normM y val).getD []) ++ name] ++ ((grams ((normM y val).getD [])).take k).map (fun g => begS 103 c g ++ name))) ∧ m ≤ n + 1 + k) (fun (k, m) => (grams ((normM y val).getD [])).length - k) (0, n + 1) ?_ ?_ ?_
    ·
     exact ⟨rfl, rfl, rfl, rfl, rfl, rfl, trivial⟩
    ·
     exact ⟨hx, hg, hgr, Nat.zero_le _, by rw [List.take_zero, List.map_nil, List.append_nil, ← inF_one]; exact hm, Nat.le_refl _⟩
    ·
     intro X5 g5 w5 hF5
     obtain ⟨k, m⟩ := g5
     clear hx hm hg hgr
     obtain ⟨hx, hg, hgr, hk1, hm, hmn⟩ := hF5
     refine W_seq fun K8 hK8 => ?_
     refine wr ?_
     refine dp (pv_lss rfl rfl) ?_
     refine D_end (hK8 _ _ ?_)
     refine W_seq fun K9 hK9 => ?_
     refine W_if rfl (fun c4 => ?_) (fun c4 => ?_)
     ·
      obtain ⟨x, hk⟩ : ∃ x, (grams ((normM y val).getD []))[k]? = some x := ⟨_, List.getElem?_eq_getElem (by omega)⟩
      have hx3 := grams_short (List.mem_of_getElem? hk)
      have hb3 := begS_len 103 c x
      refine W_skip ?_
      refine hK9 _ _ ?_
      refine W_seq fun K10 hK10 => ?_
      refine W_block ?_
      refine W_seq fun K11 hK11 => ?_
      refine wr ?_
      refine dp (pv_idxA (e := 9) (k := 1) (by kernel_rfl) (hgr.arr (by intro x; rfl)).sl rfl rfl ((hgr.arr (by intro x; rfl)).lt hk)) ?_
      refine dq (lv_load (by kernel_rfl) rfl (((hgr.arr (by intro x; rfl)).row hk).at0 rfl)) ?_
      refine da ?_
      refine D_end (hK11 _ _ ?_)
      refine wr ?_
      iterate 3 refine dm ?_
      refine D_callP rfl (by kernel_rfl) (gram_w c x _ (by omega) (by omega) hg) rfl RX.all (fun w6 x6 => ?_)
      replace hg := hg.ext x6
      replace hgr := hgr.ext x6
      replace hm := hm.ext x6
      replace hx := hx.ext x6
      refine dm ?_
      refine dp (pv_scat rfl rfl (by first | (simp; done) | (simp; omega) | omega)) ?_
      refine D_mapUpdate strK (kx := (begS 103 c x ++ name)) (a := true) rfl rfl rfl rfl hm (by simp; unfold maxLen; omega) (by unfold maxLen; omega) (.inl rfl) (fun w7 x7 xs7 hm_n => ?_)
      replace hg := hg.modM x7 hm.heap
      replace hgr := hgr.mod x7 (by first | exact (fun k hk e => hm.ne_own hgr (hk.trans (congrArg some e))) | exact fun e => hm.ne_blk hgr e | assumption | omega)
      replace hx := hx.own x7 (fun i hi _ => hi)
      replace hm := hm_n
      refine D_end (hK10 _ _ ?_)
      refine wr ?_
      refine dp (pv_add rfl rfl (by unfold inI64; omega)) ?_
      refine dm ?_
      refine D_end (?_)
      refine ⟨(k + 1, m + 1), ⟨rfl, rfl, rfl, rfl, rfl, rfl, trivial⟩, ⟨hx, hg, hgr, by omega, ?_, by omega⟩, by simp only []; omega⟩
      rw [take_snocS hk, List.map_append, ← List.append_assoc, List.map_cons, List.map_nil, ← inF_one]; exact hm
     ·
      refine W_exit ?_
      refine norm_ret ?_
      try dsimp only [then', inBlk, noGo]
      refine ret_none rfl ?_
      rw [List.take_of_length_le (by omega)] at hm
      refine ⟨_, rfl, hx, rfl, m, ?_, ?_⟩
      ·
       rw [valK_some hnv hy15]; simp; omega
      ·
       rw [valK_some hnv hy15]; simpa [List.append_assoc] using hm
  ·
   have hy15 : y = 1 ∨ y = 5 := .inl (Decidable.not_not.1 c2)
   iterate 2 refine dk ?_
   refine dk' ?_
   refine D_end (hK6 _ _ ?_)
   refine W_f rfl ?_
   refine W_skip ?_
   refine hK5 _ _ ?_
   refine W_seq fun K12 hK12 => ?_
   refine wr ?_
   refine dm ?_
   refine D_callG rfl (by kernel_rfl) (grams_w ((normM y val).getD []) _ (by omega)) rfl RX.all (fun vg w8 x8 hgr => ?_)
   have hsz8 := hx.size
   replace hm := hm.ext x8
   replace hg := hg.ext x8
   replace hx := hx.ext x8
   replace hgr := hgr.mono hsz8
   refine dp (pv_lenV (e := 9) (k := 1) (by kernel_rfl) (hgr.arr (by intro x; rfl)).sl rfl) ?_
   refine dm ?_
   refine D_end (hK12 _ _ ?_)
   refine W_block ?_
   refine W_loop (G := Nat × Nat) (fun (k, m) => [(0, .map (some b)), (1, S c), (4, S name), (35, vg), (36, I ↑(grams ((normM y val).getD [])).length), (37, I ↑k)]) (fun (k, m) w' => Mod (oneB b) w w' ∧ GV w' ∧ Vc.Own sEnc 1 9 w.heap.size w' vg (grams ((normM y val).getD [])) ∧ k ≤ (grams ((normM y val).getD [])).length ∧ Vc.MapAt Tryz.prog 9 S B w' b m (inF (ws ++ [begS 101 c ((normM y val).getD []) ++ name] ++ ((grams ((normM y val).getD [])).take k).map (fun g => begS 103 c g ++ name))) ∧ m ≤ n + 1 + k) (fun (k, m) => (grams ((normM y val).getD [])).length - k) (0, n + 1) ?_ ?_ ?_
   ·
    exact ⟨rfl, rfl, rfl, rfl, rfl, rfl, trivial⟩
   ·
    exact ⟨hx, hg, hgr, Nat.zero_le _, by rw [List.take_zero, List.map_nil, List.append_nil, ← inF_one]; exact hm, Nat.le_refl _⟩
   ·
    intro X9 g9 w9 hF9
    obtain ⟨k, m⟩ := g9
    clear hx hm hg hgr
    obtain ⟨hx, hg, hgr, hk1, hm, hmn⟩ := hF9
    refine W_seq fun K13 hK13 => ?_
    refine wr ?_
    refine dp (pv_lss rfl rfl) ?_
    refine D_end (hK13 _ _ ?_)
    refine W_seq fun K14 hK14 => ?_
    refine W_if rfl (fun c5 => ?_) (fun c5 => ?_)
    ·
     obtain ⟨x, hk⟩ : ∃ x, (grams ((normM y val).getD []))[k]? = some x := ⟨_, List.getElem?_eq_getElem (by omega)⟩
     have hx3 := grams_short (List.mem_of_getElem? hk)
     have hb3 := begS_len 103 c x
     refine W_skip ?_
     refine hK14 _ _ ?_
     refine W_seq fun K15 hK15 => ?_
     refine W_block ?_
     refine W_seq fun K16 hK16 => ?_
     refine wr ?_
     refine dp (pv_idxA (e := 9) (k := 1) (by kernel_rfl) (hgr.arr (by intro x; rfl)).sl rfl rfl ((hgr.arr (by intro x; rfl)).lt hk)) ?_
     refine dq (lv_load (by kernel_rfl) rfl (((hgr.arr (by intro x; rfl)).row hk).at0 rfl)) ?_
     refine da ?_
     refine D_end (hK16 _ _ ?_)
     refine wr ?_
     iterate 3 refine dm ?_
     refine D_callP rfl (by kernel_rfl) (gram_w c x _ (by omega) (by omega) hg) rfl RX.all (fun w10 x10 => ?_)
     replace hg := hg.ext x10
     replace hgr := hgr.ext x10
     replace hm := hm.ext x10
     replace hx := hx.ext x10
     refine dm ?_
     refine dp (pv_scat rfl rfl (by first | (simp; done) | (simp; omega) | omega)) ?_
     refine D_mapUpdate strK (kx := (begS 103 c x ++ name)) (a := true) rfl rfl rfl rfl hm (by simp; unfold maxLen; omega) (by unfold maxLen; omega) (.inl rfl) (fun w11 x11 xs11 hm_n => ?_)
     replace hg := hg.modM x11 hm.heap
     replace hgr := hgr.mod x11 (by first | exact (fun k hk e => hm.ne_own hgr (hk.trans (congrArg some e))) | exact fun e => hm.ne_blk hgr e | assumption | omega)
     replace hx := hx.own x11 (fun i hi _ => hi)
     replace hm := hm_n
     refine D_end (hK15 _ _ ?_)
     refine wr ?_
     refine dp (pv_add rfl rfl (by unfold inI64; omega)) ?_
     refine dm ?_
     refine D_end (?_)
     refine ⟨(k + 1, m + 1), ⟨rfl, rfl, rfl, rfl, rfl, rfl, trivial⟩, ⟨hx, hg, hgr, by omega, ?_, by omega⟩, by simp only []; omega⟩
     rw [take_snocS hk, List.map_append, ← List.append_assoc, List.map_cons, List.map_nil, ← inF_one]; exact hm
    ·
     refine W_exit ?_
     refine norm_ret ?_
     try dsimp only [then', inBlk, noGo]
     refine ret_none rfl ?_
     rw [List.take_of_length_le (by omega)] at hm
     refine ⟨_, rfl, hx, rfl, m, ?_, ?_⟩
     ·
      rw [valK_some hnv hy15]; simp; omega
     ·
      rw [valK_some hnv hy15]; simpa [List.append_assoc] using hm

set_option maxRecDepth 100000 in
set_option maxHeartbeats 1000000 in
theorem keys_w (nl : List Ava) (l : List AttrV) (vd va : Value) (w : World) (hd : Arr Ava.cs 2 w vd nl) (ha : Arr AttrV.cs 2 w va l) (hvs : ValsAt w l) (hg : GV w) (hs : SmallE ⟨nl, l.map AttrV.toA⟩) :
  Calls Tryz.prog 24 [.agg ⟨[vd, va]⟩].toArray w (Gives w (fun v' w' => Vc.Own sEnc 1 9 w.heap.size w' v' (keysM ⟨nl, (l.map AttrV.toA)⟩))) := by
 refine calls_W Tryz.func24 rfl rfl rfl (by kernel_rfl) ?_
 have hx := Ext.refl w
 have hdn : smallN nl := hs.dn
 have hsw : wAttrs (l.map AttrV.toA) ≤ 4000 := hs.w
 have hll : l.length ≤ 4000 := by have := hs.attrs; simpa using this
 have hnml : (keyS nl).length ≤ 300100000 := keyS_len hdn
 refine W_seq fun K1 hK1 => ?_
 refine wr ?_
 refine D_box rfl rfl rfl RX.all (fun b1 w1 e1 x1 m1 => ?_)
 have g1 : w.heap.size ≤ b1 := by have := hx.size; omega
 replace hx := hx.trans x1
 refine da ?_
 refine D_end (hK1 _ _ ?_)
 refine W_seq fun K2 hK2 => ?_
 refine wr ?_
 refine D_makeMap strK rfl RX.all (fun b2 w2 e2 x2 mp2 => ?_)
 have g2 : w.heap.size ≤ b2 := by have := hx.size; omega
 have n2_1 : b1 < b2 := by have := m1.lt; omega
 replace m1 := m1.ext x2
 replace hx := hx.trans x2
 refine da ?_
 refine D_end (hK2 _ _ ?_)
 refine W_seq fun K3 hK3 => ?_
 refine wr ?_
 refine dp (pv_fieldA (k := 0) (by kernel_rfl) rfl) ?_
 refine dq (lv_load (by kernel_rfl) rfl (m1.at rfl)) ?_
 refine D_callP rfl (by kernel_rfl) (key_w nl vd _ (hd.ext hx) hdn (hg.ext hx)) rfl RX.all (fun w3 x3 => ?_)
 replace m1 := m1.ext x3
 replace mp2 := mp2.ext x3
 replace hx := hx.trans x3
 refine da ?_
 refine D_end (hK3 _ _ ?_)
 refine W_seq fun K4 hK4 => ?_
 refine W_seq fun K5 hK5 => ?_
 refine wr ?_
 refine dp (pv_fieldA (k := 1) (by kernel_rfl) rfl) ?_
 refine dq (lv_load (by kernel_rfl) rfl (m1.at rfl)) ?_
 refine dp (pv_lenV (e := 41) (k := 2) (by kernel_rfl) ha.sl rfl) ?_
 refine dm ?_
 refine D_end (hK5 _ _ ?_)
 refine W_block ?_
 refine W_loop (G := Nat × Nat) (fun (k, n) => [(2, .slice none 0 0), (3, .map (some b2)), (4, S (keyS nl)), (18, va), (19, I ↑l.length), (20, I ↑k)]) (fun (k, n) w' => Ext w w' ∧ Blk w' b1 [vd, va] 31 ∧ k ≤ l.length ∧ Vc.MapAt Tryz.prog 9 S B w' b2 n (inF (rk (keyS nl) (l.map AttrV.toA) k)) ∧ n ≤ (rk (keyS nl) (l.map AttrV.toA) k).length) (fun (k, n) => l.length - k) (0, 0) ?_ ?_ ?_
 ·
  exact ⟨rfl, rfl, rfl, rfl, rfl, rfl, trivial⟩
 ·
  exact ⟨hx, m1, Nat.zero_le _, by rw [show rk (keyS nl) (l.map AttrV.toA) 0 = [] from rfl, ← inF_nil]; exact mp2, Nat.le_refl _⟩
 ·
  intro X4 g4 w4 hF4
  obtain ⟨k, n⟩ := g4
  clear hx m1 mp2
  obtain ⟨hx, m1, hk1, mp2, hn⟩ := hF4
  refine W_seq fun K6 hK6 => ?_
  refine wr ?_
  refine dp (pv_lss rfl rfl) ?_
  refine D_end (hK6 _ _ ?_)
  refine W_seq fun K7 hK7 => ?_
  refine W_if rfl (fun c1 => ?_) (fun c1 => ?_)
  ·
   obtain ⟨a, hk⟩ : ∃ a, l[k]? = some a := ⟨_, List.getElem?_eq_getElem (by omega)⟩
   have hav := hvs.at hk
   have hsa := SmallE.at hs hk
   have hrl := rk_len (name := (keyS nl)) hsw k
   have htc := tC_len a.typ
   have htc4 : (tC a.typ).length ≤ 4000 := by omega
   refine W_skip ?_
   refine hK7 _ _ ?_
   refine W_seq fun K8 hK8 => ?_
   refine W_block ?_
   refine W_seq fun K9 hK9 => ?_
   refine wr ?_
   refine dp (pv_idxA (e := 41) (k := 2) (by kernel_rfl) ha.sl rfl rfl (ha.lt hk)) ?_
   refine dq (lv_loadA (by kernel_rfl) rfl rfl ((ha.ext hx).row hk)) ?_
   refine D_alloc (cs := [S [], .slice none 0 0]) rfl (by kernel_rfl) RX.all (fun b3 w5 e3 x5 m3 => ?_)
   have g3 : w.heap.size ≤ b3 := by have := hx.size; omega
   have n3_1 : b1 < b3 := by have := m1.lt; omega
   have n3_mp2 := mp2.lt
   replace m1 := m1.ext x5
   replace mp2 := mp2.ext x5
   replace hx := hx.trans x5
   refine D_store (v := ?v5) (vs := ?u5) rfl rfl ?h5 ?c5 ?s5 m3 ?o5 ?n5 (.inl rfl) (fun w6 x6 xs6 m3 => ?k5)
   case h5 => conv => lhs; whnf
   case c5 => exact rfl
   case s5 => kernel_rfl
   case o5 => exact Nat.le_of_ble_eq_true rfl
   case n5 => exact List.forall_mem_cons.2 ⟨rfl, List.forall_mem_cons.2 ⟨(hvs.at hk).sl.one, fun _ h => by cases h⟩⟩
   try dsimp only [setAt, List.set, List.take, List.drop] at m3
   try replace m1 := m1.mod x6 (by first | assumption | (intro k hk h; have h1 := (m1.lt k hk).1; have h2 : k = b3 := h; omega) | (intro k hk h; have h1 := o3_m1 k hk; have h2 : k = b3 := h; omega) | (intro h; have h2 : _ = b3 := h; omega) | (intro hl h; have h1 := a3_m1 hl; have h2 : _ = b3 := h; omega))
   replace mp2 := mp2.mod x6 (by intro h; have h2 : _ = b3 := h; omega)
   replace hx := hx.own x6 (by intro i hi; have hi2 : i = b3 := hi; subst hi2; omega)
   refine D_end (hK9 _ _ ?_)
   refine W_seq fun K10 hK10 => ?_
   refine wr ?_
   refine dp (pv_fieldA (k := 0) (by kernel_rfl) rfl) ?_
   refine dq (lv_load (by kernel_rfl) rfl (m3.at rfl)) ?_
   refine D_callP rfl (by kernel_rfl) (typeT_w a.typ _ (by omega)) rfl RX.all (fun w7 x7 => ?_)
   replace m1 := m1.ext x7
   replace mp2 := mp2.ext x7
   replace m3 := m3.ext x7
   replace hx := hx.trans x7
   refine dm ?_
   refine dp (pv_ext rfl rfl) ?_
   refine dp (pv_ext rfl rfl) ?_
   refine dp (pv_ext rfl rfl) ?_
   refine dp (pv_ext rfl rfl) ?_
   iterate 4 refine da ?_
   refine D_end (hK10 _ _ ?_)
   refine W_seq fun K11 hK11 => ?_
   refine W_seq fun K12 hK12 => ?_
   refine wr ?_
   refine dm ?_
   refine dn ?_
   refine dm ?_
   refine D_split 34 rfl (fun c2 => ?_) (fun c2 => ?_)
   ·
    iterate 4 refine dk ?_
    refine dk' ?_
    refine D_end (hK12 _ _ ?_)
    refine W_t rfl ?_
    refine W_exit ?_
    refine hK8 _ _ ?_
    refine wr ?_
    refine dp (pv_add rfl rfl (by unfold inI64; omega)) ?_
    refine dm ?_
    refine D_end (?_)
    refine ⟨(k + 1, n), ⟨rfl, rfl, rfl, rfl, rfl, rfl, trivial⟩, ⟨hx, m1, by omega, ?_, ?_⟩, by simp only []; omega⟩
    ·
     rw [rk_next (toA_at hk), attrK_off (by first | exact .inl (by simpa using c2) | exact .inr (List.eq_nil_of_length_eq_zero (by omega))), List.append_nil]; exact mp2
    ·
     rw [rk_next (toA_at hk), List.length_append]; omega
   ·
    refine dp (pv_fieldA (k := 1) (by kernel_rfl) rfl) ?_
    refine dq (lv_load (by kernel_rfl) rfl (m3.at rfl)) ?_
    refine dp (pv_lenV (e := 9) (k := 1) (by kernel_rfl) hav.sl rfl) ?_
    refine dp (pv_eql rfl rfl) ?_
    refine dk' ?_
    refine D_end (hK12 _ _ ?_)
    refine W_if rfl (fun c3 => ?_) (fun c3 => ?_)
    ·
     refine W_exit ?_
     refine hK8 _ _ ?_
     refine wr ?_
     refine dp (pv_add rfl rfl (by unfold inI64; omega)) ?_
     refine dm ?_
     refine D_end (?_)
     refine ⟨(k + 1, n), ⟨rfl, rfl, rfl, rfl, rfl, rfl, trivial⟩, ⟨hx, m1, by omega, ?_, ?_⟩, by simp only []; omega⟩
     ·
      rw [rk_next (toA_at hk), attrK_off (by first | exact .inl (by simpa using c2) | exact .inr (List.eq_nil_of_length_eq_zero (by omega))), List.append_nil]; exact mp2
     ·
      rw [rk_next (toA_at hk), List.length_append]; omega
    ·
     have hok : tOk a.typ = true := by simpa using c2
     have hvne : a.vals ≠ [] := fun e => by rw [e] at c3; exact c3 rfl
     refine W_skip ?_
     refine hK11 _ _ ?_
     refine W_seq fun K13 hK13 => ?_
     refine wr ?_
     iterate 2 refine dm ?_
     refine D_callP rfl (by kernel_rfl) (present_w (tC a.typ) _ (by omega)) rfl RX.all (fun w8 x8 => ?_)
     replace m1 := m1.ext x8
     replace mp2 := mp2.ext x8
     replace m3 := m3.ext x8
     replace hx := hx.trans x8
     refine dm ?_
     refine dp (pv_scat rfl rfl (by first | (simp; done) | (simp; omega) | omega)) ?_
     refine D_mapUpdate strK (kx := (112 :: (tC a.typ ++ [0]) ++ (keyS nl))) (a := true) rfl rfl rfl rfl mp2 (by simp; unfold maxLen; omega) (by unfold maxLen; omega) (.inl rfl) (fun w9 x9 xs9 mp2_n => ?_)
     replace m1 := m1.mod x9 (by first | exact (fun k hk e => mp2.ne_own m1 (hk.trans (congrArg some e))) | exact fun e => mp2.ne_blk m1 e | assumption | omega)
     replace m3 := m3.mod x9 (by first | exact (fun k hk e => mp2.ne_own m3 (hk.trans (congrArg some e))) | exact fun e => mp2.ne_blk m3 e | assumption | omega)
     replace hx := hx.own x9 (fun i hi => by have hi2 : i = b2 := hi; subst hi2; omega)
     replace mp2 := mp2_n
     refine D_end (hK13 _ _ ?_)
     refine W_seq fun K14 hK14 => ?_
     refine wr ?_
     refine dp (pv_fieldA (k := 1) (by kernel_rfl) rfl) ?_
     refine dq (lv_load (by kernel_rfl) rfl (m3.at rfl)) ?_
     refine dp (pv_lenV (e := 9) (k := 1) (by kernel_rfl) hav.sl rfl) ?_
     refine dm ?_
     refine D_end (hK14 _ _ ?_)
     refine W_block ?_
     refine W_loop (G := Nat × Nat) (fun (j, m) => [(2, .slice none 0 0), (3, .map (some b2)), (4, S (keyS nl)), (7, S (tC a.typ)), (8, I (tY a.typ)), (18, va), (19, I ↑l.length), (20, I ↑k), (46, a.v), (47, I ↑a.vals.length), (48, I ↑j)]) (fun (j, m) w' => Ext w w' ∧ Blk w' b1 [vd, va] 31 ∧ Blk w' b3 [S a.typ, a.v] 41 ∧ j ≤ a.vals.length ∧ Vc.MapAt Tryz.prog 9 S B w' b2 m (inF (rk (keyS nl) (l.map AttrV.toA) k ++ [(112 :: (tC a.typ ++ [0]) ++ (keyS nl))] ++ vk (keyS nl) (tC a.typ) (tY a.typ) a.vals j)) ∧ m ≤ (rk (keyS nl) (l.map AttrV.toA) k).length + 1 + (vk (keyS nl) (tC a.typ) (tY a.typ) a.vals j).length) (fun (j, m) => a.vals.length - j) (0, n + 1) ?_ ?_ ?_
     ·
      exact ⟨rfl, rfl, rfl, rfl, rfl, rfl, rfl, rfl, rfl, rfl, rfl, trivial⟩
     ·
      exact ⟨hx, m1, m3, Nat.zero_le _, by rw [show vk (keyS nl) (tC a.typ) (tY a.typ) a.vals 0 = [] from rfl, List.append_nil, ← inF_one]; exact mp2, by simp [vk]; omega⟩
     ·
      intro X10 g10 w10 hF10
      obtain ⟨j, m⟩ := g10
      clear hx m1 mp2 m3
      obtain ⟨hx, m1, m3, hj1, mp2, hm⟩ := hF10
      refine W_seq fun K15 hK15 => ?_
      refine wr ?_
      refine dp (pv_lss rfl rfl) ?_
      refine D_end (hK15 _ _ ?_)
      refine W_seq fun K16 hK16 => ?_
      refine W_if rfl (fun c4 => ?_) (fun c4 => ?_)
      ·
       obtain ⟨v, hj⟩ : ∃ v, a.vals[j]? = some v := ⟨_, List.getElem?_eq_getElem (by omega)⟩
       have hpl : (rk (keyS nl) (l.map AttrV.toA) k).length + 1 + (vk (keyS nl) (tC a.typ) (tY a.typ) a.vals j).length + (valK (tC a.typ) (tY a.typ) (keyS nl) v).length ≤ 4000 := part_len (name := (keyS nl)) hsw (toA_at hk) (tC a.typ) (tY a.typ) hj
       refine W_skip ?_
       refine hK16 _ _ ?_
       refine W_seq fun K17 hK17 => ?_
       refine W_block ?_
       refine W_seq fun K18 hK18 => ?_
       refine wr ?_
       refine dp (pv_idxA (e := 9) (k := 1) (by kernel_rfl) hav.sl rfl rfl (hav.lt hj)) ?_
       refine dq (lv_load (by kernel_rfl) rfl (((hav.ext hx).row hj).at0 rfl)) ?_
       refine da ?_
       refine D_end (hK18 _ _ ?_)
       refine wr ?_
       iterate 5 refine dm ?_
       refine D_callD rfl (by kernel_rfl) (ivalue_w b2 m _ (tC a.typ) (tY a.typ) v (keyS nl) _ mp2 (hg.ext hx) (by omega) (by have := hsa.2.2 v (List.mem_of_getElem? hj); omega) (by omega) (by omega)) rfl (.inl rfl) (fun u11 w11 x11 hf11 => ?_)
       have hsz11 := hx.size
       replace m1 := m1.mod x11 (fun e => mp2.ne_blk m1 e)
       replace m3 := m3.mod x11 (fun e => mp2.ne_blk m3 e)
       replace hx := hx.own x11 (fun i hi => (by have hi2 : i = b2 := hi; subst hi2; omega))
       obtain ⟨rfl, m2, hm2, mp2⟩ := hf11
       refine D_end (hK17 _ _ ?_)
       refine wr ?_
       refine dp (pv_add rfl rfl (by unfold inI64; omega)) ?_
       refine dm ?_
       refine D_end (?_)
       refine ⟨(j + 1, m2), ⟨rfl, rfl, rfl, rfl, rfl, rfl, rfl, rfl, rfl, rfl, rfl, trivial⟩, ⟨hx, m1, m3, by omega, ?_, ?_⟩, by simp only []; omega⟩
       ·
        rw [vk_next hj, ← List.append_assoc]; exact mp2
       ·
        rw [vk_next hj, List.length_append]; omega
      ·
       refine W_exit ?_
       refine hK8 _ _ ?_
       refine wr ?_
       refine dp (pv_add rfl rfl (by unfold inI64; omega)) ?_
       refine dm ?_
       refine D_end (?_)
       refine ⟨(k + 1, m), ⟨rfl, rfl, rfl, rfl, rfl, rfl, trivial⟩, ⟨hx, m1, by omega, ?_, ?_⟩, by simp only []; omega⟩
       ·
        rw [rk_next (toA_at hk), attrK_ok hok hvne, ← vk_all (name := (keyS nl)) (j := j) (by omega)]
        simpa [List.append_assoc] using mp2
       ·
        rw [rk_next (toA_at hk), attrK_ok hok hvne, ← vk_all (name := (keyS nl)) (j := j) (by omega)]
        simp; omega
  ·
   rw [rk_all (by simp; omega)] at mp2 hn
   have hn2 : n ≤ (rawK ⟨nl, (l.map AttrV.toA)⟩).length := hn
   refine W_exit ?_
   refine hK4 _ _ ?_
   refine W_seq fun K19 hK19 => ?_
   refine wr ?_
   refine dm ?_
   refine D_callG rfl (by kernel_rfl) (rising_w b2 n _ _ mp2 (fun x h => by have := keys_short hs x h; unfold maxLen; omega) (by have := raw_len hs; omega)) rfl RX.all (fun vr w12 x12 hr => ?_)
   have hsz12 := hx.size
   replace m1 := m1.ext x12
   replace mp2 := mp2.ext x12
   replace hx := hx.trans x12
   replace hr := hr.mono hsz12
   refine da ?_
   refine D_end (hK19 _ _ ?_)
   refine W_ret ?_
   try dsimp only [then', inBlk, noGo]
   refine ro ?_
   exact ⟨_, rfl, hx, hr⟩

end Go.Proofs.YtcjjjmhhpejdoaaGreatDoor
