/-
  Walks.
-/
import Derived.Test.YtcjjjmhhpejdoaaGreatDoorChecked
import Derived.Test.YtcjjjmhhpejdoaaGreatDoorSpMem
import Derived.KernelRfl
import Derived.Test.YtcjjjmhhpejdoaaGreatDoorVcI
import Derived.Test.YtcjjjmhhpejdoaaGreatDoorDnF
import Derived.Test.YtcjjjmhhpejdoaaGreatDoorIdxE
import Derived.Test.YtcjjjmhhpejdoaaGreatDoorSpKey
namespace Go.Proofs.YtcjjjmhhpejdoaaGreatDoor
open Go.Vc Go.Sp
attribute [local irreducible] W XW Dw DwT
set_option linter.unusedVariables false
set_option linter.unusedSimpArgs false

/-- What comes at the k-th turn, from the last one on. -/
def avaAt (l : List Ava) (k : Nat) : Ava := l.getD (l.length - 1 - k) ⟨[], []⟩
def keyN (l : List Ava) (k : Nat) : Str := ((l.reverse.take k).map keyA).flatten
theorem keyN_next {l : List Ava} {k : Nat} (h : k < l.length) : keyN l (k + 1) = keyN l k ++ keyA (avaAt l k) := by
  have e : l.reverse[k]? = some (avaAt l k) := by
    rw [List.getElem?_reverse h]
    unfold avaAt
    rw [List.getD_eq_getElem?_getD, List.getElem?_eq_getElem (by omega)]; rfl
  unfold keyN
  rw [take_snocS e]; simp
theorem keyN_nil {l : List Ava} (h : keyN l l.length = []) : l.length = 0 := by
  unfold keyN at h
  rw [List.take_of_length_le (by simp)] at h
  cases hl : l.reverse with
  | nil => simpa using hl
  | cons a r => rw [hl] at h; simp [keyA] at h
theorem avaAt_at {l : List Ava} {k i : Nat} (h : k < l.length) (hi : (l.length : Int) - 1 - k = i) : l[i]? = some (avaAt l k) := by
  have : i = l.length - 1 - k := by omega
  subst this
  unfold avaAt
  rw [List.getD_eq_getElem?_getD, List.getElem?_eq_getElem (by omega)]; rfl
theorem keyA_len {a : Ava} (h : a.typ.length ≤ 10000 ∧ a.val.length ≤ 10000) : (keyA a).length ≤ 30003 := by
  have := esc_len a.val
  unfold keyA; simp; omega
theorem avaAt_len {l : List Ava} (hl : smallN l) (k : Nat) : (avaAt l k).typ.length ≤ 10000 ∧ (avaAt l k).val.length ≤ 10000 := by
  unfold avaAt
  rw [List.getD_eq_getElem?_getD]
  cases h : l[l.length - 1 - k]? with
  | none => simp
  | some a => exact hl.2 a (List.mem_of_getElem? h)
theorem keyN_len {l : List Ava} (hl : smallN l) : ∀ k, k ≤ l.length → (keyN l k).length ≤ 30003 * k
  | 0, _ => by simp [keyN]
  | k + 1, h => by
    rw [keyN_next (by omega), List.length_append]
    have h1 := keyN_len hl k (by omega)
    have h2 := keyA_len (avaAt_len hl k)
    omega
theorem keyN_all (l : List Ava) : keyN (l.map normA) (l.map normA).length = keyS l := by
  unfold keyN keyS
  rw [List.take_of_length_le (by simp)]
theorem keyS_len {l : List Ava} (hl : smallN l) : (keyS l).length ≤ 300100000 := by
  rw [← keyN_all]
  have h1 := keyN_len (small_norm hl) (l.map normA).length (Nat.le_refl _)
  have h2 := hl.1
  simp only [List.length_map] at *
  omega

set_option maxRecDepth 100000 in
set_option maxHeartbeats 1000000 in
theorem string1_w (B bt g cap : Nat) (p : Value) (l : Str) (w : World) (hm : Blk w bt [p, .slice (some ⟨g, 0, none⟩) l.length cap] 111) (ho : Vc.Own encB 1 5 B w (.slice (some ⟨g, 0, none⟩) l.length cap) l) (h0 : l ≠ []) :
  Calls Tryz.prog 108 [ptr bt 0].toArray w (Does (oneB g) w (fun u _ => u = S l)) := by
 refine calls_W Tryz.func108 rfl rfl rfl (by kernel_rfl) ?_
 have hx := Ext.refl w
 have hcap : cap ≠ 0 := by
  rcases ho.row.2 with ⟨h2, _⟩ | ⟨g2, cap2, cur, hv, hge, hh, hn, _⟩
  ·
   cases h2
  ·
   cases hv; intro e; subst e; exact h0 (List.eq_nil_of_length_eq_zero (by omega))
 refine W_seq fun K1 hK1 => ?_
 refine wr ?_
 refine da ?_
 refine D_end (hK1 _ _ ?_)
 refine W_seq fun K2 hK2 => ?_
 refine W_draw (R := Mod (oneB g)) modRefl modTrans (by kernel_rfl) [3, 8] [(0, .p, false), (1, .p, false), (2, .p, false), (3, .l, false), (4, .p, false), (5, .p, false), (6, .p, false), (7, .p, false), (8, .l, false), (9, .p, false), (10, .x, false), (11, .p, false)] rfl (by kernel_rfl) (by kernel_rfl) (fun w1 ew1 => ?_)
 have x1 : Ext w w1 := by rw [ew1]; exact Ext.drew _
 clear ew1
 replace hm := hm.ext x1
 replace ho := ho.ext x1
 replace hx := hx.trans x1
 refine dm ?_
 refine dp (pv_nilP rfl) ?_
 refine dp (pv_fieldA (k := 1) (by kernel_rfl) rfl) ?_
 refine D_l rfl (fun w' hR => lv_load (by kernel_rfl) rfl ((hm.mod hR (fun e => by have h2 : bt = g := e; exact ho.ne_blk hm rfl (congrArg some h2.symm))).at rfl)) ?_
 refine dp (pv_sData rfl hcap) ?_
 refine dm ?_
 refine dp (pv_nilP rfl) ?_
 refine dp (pv_fieldA (k := 1) (by kernel_rfl) rfl) ?_
 refine D_l rfl (fun w' hR => lv_load (by kernel_rfl) rfl ((hm.mod hR (fun e => by have h2 : bt = g := e; exact ho.ne_blk hm rfl (congrArg some h2.symm))).at rfl)) ?_
 refine dp (pv_lenV (e := 5) (k := 1) (by kernel_rfl) ho.sl rfl) ?_
 refine D_uStr rfl (by kernel_rfl) (by kernel_rfl) rfl rfl ho h0 (.inr fun _ h => h) (fun w8 x8 => ?_)
 replace hx := hx.mod x8
 refine da ?_
 refine D_end (hK2 _ _ ?_)
 refine W_ret ?_
 try dsimp only [then', inBlk, noGo]
 refine ro ?_
 exact ⟨_, rfl, hx, rfl⟩

set_option maxRecDepth 100000 in
set_option maxHeartbeats 1000000 in
theorem string0_w (bt : Nat) (p : Value) (w : World) (hm : Blk w bt [p, .slice none 0 0] 111) :
  Calls Tryz.prog 108 [ptr bt 0].toArray w (Pure w (S [])) := by
 refine calls_W Tryz.func108 rfl rfl rfl (by kernel_rfl) ?_
 have hx := Ext.refl w
 refine W_seq fun K1 hK1 => ?_
 refine wr ?_
 refine da ?_
 refine D_end (hK1 _ _ ?_)
 refine W_seq fun K2 hK2 => ?_
 refine W_draw (R := Ext) Ext.refl (fun _ _ _ => Ext.trans) (by kernel_rfl) [3, 8] [(0, .p, false), (1, .p, false), (2, .p, false), (3, .l, false), (4, .p, false), (5, .p, false), (6, .p, false), (7, .p, false), (8, .l, false), (9, .p, false), (10, .p, false), (11, .p, false)] rfl (by kernel_rfl) (by kernel_rfl) (fun w1 ew1 => ?_)
 have x1 : Ext w w1 := by rw [ew1]; exact Ext.drew _
 clear ew1
 replace hm := hm.ext x1
 replace hx := hx.trans x1
 refine dm ?_
 refine dp (pv_nilP rfl) ?_
 refine dp (pv_fieldA (k := 1) (by kernel_rfl) rfl) ?_
 refine D_l rfl (fun w' hR => lv_load (by kernel_rfl) rfl ((hm.ext hR).at rfl)) ?_
 refine dp (pv_sData0 rfl) ?_
 refine dm ?_
 refine dp (pv_nilP rfl) ?_
 refine dp (pv_fieldA (k := 1) (by kernel_rfl) rfl) ?_
 refine D_l rfl (fun w' hR => lv_load (by kernel_rfl) rfl ((hm.ext hR).at rfl)) ?_
 refine dp (pv_lenV (e := 5) (k := 1) (by kernel_rfl) (.inl ⟨rfl, rfl⟩) rfl) ?_
 refine dp (pv_uStr0 rfl rfl) ?_
 refine da ?_
 refine D_end (hK2 _ _ ?_)
 refine W_ret ?_
 try dsimp only [then', inBlk, noGo]
 refine ro ?_
 exact ⟨rfl, hx⟩

theorem stringO_w (B bt : Nat) (v : Value) (l : Str) (w : World) (h : Bld 111 5 B bt v l w) (h0 : l = [] → v = .slice none 0 0) : Calls Tryz.prog 108 [ptr bt 0].toArray w (Does (fun k => v.ownBlock = some k) w (fun u _ => u = S l)) := by
  obtain ⟨p, hp, hm⟩ := h.blk
  by_cases hl : l = []
  · have hv := h0 hl
    subst hl; subst hv
    refine (string0_w bt p w hm).mono ?_
    rintro e w' ⟨rfl, hx⟩
    exact ⟨_, rfl, hx.mono (fun _ h _ => h.elim), rfl⟩
  · have ho := h.own
    rcases ho.row.2 with ⟨h2, h3⟩ | ⟨g, cap, cur, hv, hge, hh, hn, _⟩
    · exact absurd (List.eq_nil_of_length_eq_zero h3) hl
    · subst hv
      refine (string1_w B bt g cap p l w hm ho hl).mono ?_
      rintro e w' ⟨u, rfl, hx, rfl⟩
      exact ⟨_, rfl, hx.mono (fun k hk _ => by have h2 : k = g := hk; subst h2; rfl), rfl⟩

set_option maxRecDepth 100000 in
set_option maxHeartbeats 1000000 in
theorem rkey_w (l : List Ava) (v : Value) (w : World) (hv : Arr Ava.cs 2 w v l) (hl : smallN l) :
  Calls Tryz.prog 31 [v].toArray w (Pure w (S (keyS l))) := by
 refine calls_W Tryz.func31 rfl rfl rfl (by kernel_rfl) ?_
 have hx := Ext.refl w
 have hl1 := hl.1
 have hsn := small_norm hl
 have hnl : (l.map normA).length = l.length := List.length_map ..
 refine W_seq fun K1 hK1 => ?_
 refine wr ?_
 refine da ?_
 refine D_end (hK1 _ _ ?_)
 refine W_seq fun K2 hK2 => ?_
 refine wr ?_
 refine dm ?_
 refine D_callG rfl (by kernel_rfl) (rnorm_w l v _ (hv.ext hx) hl) rfl RX.all (fun vn w1 x1 hn => ?_)
 have hsz1 := hx.size
 replace hx := hx.trans x1
 refine da ?_
 refine D_end (hK2 _ _ ?_)
 refine W_seq fun K3 hK3 => ?_
 refine wr ?_
 refine da ?_
 refine D_end (hK3 _ _ ?_)
 refine W_seq fun K4 hK4 => ?_
 refine W_seq fun K5 hK5 => ?_
 refine wr ?_
 refine dm ?_
 refine dp (pv_lenV (e := 50) (k := 2) (by kernel_rfl) hn.sl rfl) ?_
 refine dp (pv_sub rfl rfl (by unfold inI64; omega)) ?_
 refine da ?_
 refine D_end (hK5 _ _ ?_)
 refine W_block ?_
 refine W_loop (G := Nat × Int) (fun (k, j) => [(2, S []), (3, vn), (4, S (keyN (l.map normA) k)), (5, I j)]) (fun (k, j) w' => Ext w w' ∧ Arr Ava.cs 2 w' vn (l.map normA) ∧ k ≤ l.length ∧ j = (l.length : Int) - 1 - k) (fun (k, j) => l.length - k) (0, (l.length : Int) - 1) ?_ ?_ ?_
 ·
  rw [← hnl]; exact ⟨rfl, rfl, rfl, rfl, trivial⟩
 ·
  exact ⟨hx, hn, Nat.zero_le _, by omega⟩
 ·
  intro X2 g2 w2 hF2
  obtain ⟨k, j⟩ := g2
  clear hx hn
  obtain ⟨hx, hn, hk1, hj⟩ := hF2
  refine W_seq fun K6 hK6 => ?_
  refine W_seq fun K7 hK7 => ?_
  refine wr ?_
  refine dm ?_
  refine dp (pv_geq rfl rfl) ?_
  refine D_end (hK7 _ _ ?_)
  refine W_if rfl (fun c1 => ?_) (fun c1 => ?_)
  ·
   obtain ⟨i, rfl⟩ : ∃ i : Nat, j = i := ⟨j.toNat, by omega⟩
   have hk := avaAt_at (l := l.map normA) (k := k) (i := i) (by omega) (by omega)
   have hal := avaAt_len hsn k
   have hkl := keyN_len hsn k (by omega)
   have hel := esc_len (avaAt (l.map normA) k).val
   refine W_skip ?_
   refine hK6 _ _ ?_
   refine W_seq fun K8 hK8 => ?_
   refine W_block ?_
   refine W_draw (R := Ext) Ext.refl (fun _ _ _ => Ext.trans) (by kernel_rfl) [5, 12] [(0, .p, false), (1, .p, false), (2, .p, false), (3, .p, false), (4, .p, false), (5, .l, false), (6, .p, false), (7, .p, false), (8, .p, false), (9, .p, false), (10, .p, false), (11, .p, false), (12, .l, false), (13, .x, false), (14, .p, false), (15, .p, false), (16, .p, false)] rfl (by kernel_rfl) (by kernel_rfl) (fun w3 ew3 => ?_)
   have x3 : Ext w2 w3 := by rw [ew3]; exact Ext.drew _
   clear ew3
   replace hn := hn.ext x3
   replace hx := hx.trans x3
   iterate 3 refine dm ?_
   refine dp (pv_idxA (e := 50) (k := 2) (by kernel_rfl) hn.sl rfl rfl (hn.lt hk)) ?_
   refine dp (pv_fieldA (k := 0) (by kernel_rfl) rfl) ?_
   refine D_l rfl (fun w' hR => lv_load (by kernel_rfl) rfl (((hn.ext hR).row hk).at rfl)) ?_
   refine dp (pv_scat rfl rfl (by first | (simp; done) | (simp; omega) | omega)) ?_
   refine dp (pv_scat rfl rfl (by first | (simp; done) | (simp; omega) | omega)) ?_
   iterate 2 refine dm ?_
   refine dp (pv_idxA (e := 50) (k := 2) (by kernel_rfl) hn.sl rfl rfl (hn.lt hk)) ?_
   refine dp (pv_fieldA (k := 1) (by kernel_rfl) rfl) ?_
   refine D_l rfl (fun w' hR => lv_load (by kernel_rfl) rfl (((hn.ext hR).row hk).at rfl)) ?_
   refine D_callP rfl (by kernel_rfl) (rescape_w (avaAt (l.map normA) k).val _ (by omega)) rfl RX.ext (fun w4 x4 => ?_)
   replace hn := hn.ext x4
   replace hx := hx.trans x4
   refine dp (pv_scat rfl rfl (by first | (simp; done) | (simp; omega) | omega)) ?_
   refine dp (pv_scat rfl rfl (by first | (simp; done) | (simp; omega) | omega)) ?_
   refine da ?_
   refine D_end (hK8 _ _ ?_)
   refine wr ?_
   refine dm ?_
   refine dp (pv_sub rfl rfl (by unfold inI64; omega)) ?_
   refine da ?_
   refine D_end (?_)
   refine ⟨(k + 1, (i : Int) - 1), ⟨rfl, rfl, ?_, rfl, trivial⟩, ⟨hx, hn, by omega, by omega⟩, by simp only []; omega⟩
   show S _ = S _
   congr 1
   rw [keyN_next (by omega)]
   simp [keyA]
  ·
   refine W_exit ?_
   refine hK4 _ _ ?_
   refine W_seq fun K9 hK9 => ?_
   refine wr ?_
   refine dm ?_
   refine da ?_
   refine D_end (hK9 _ _ ?_)
   refine W_ret ?_
   try dsimp only [then', inBlk, noGo]
   refine ro ?_
   refine ⟨?_, hx⟩
   rw [← keyN_all, show k = (l.map normA).length by omega]

set_option maxRecDepth 100000 in
set_option maxHeartbeats 1000000 in
theorem backward1_w (b : Nat) (v : Value) (l : List Ava) (ly : Nat) (J : Nat → World → Prop) (w : World) (hl : l.length ≤ 1000000) (hJ : ∀ k W, J k W → Blk W b [v] 28 ∧ Arr Ava.cs 2 W v l) (hE : ∀ k W W', J k W → Ext W W' → J k W') (hY : ∀ k W, J k W → k < l.length → YieldAt Fence.wide 0 Tryz.prog ly [I ((l.length : Int) - 1 - k), .agg ⟨(avaAt l k).cs⟩].toArray W fun e W' => e = .returned (.bool true) ∧ J (k + 1) W') (hj : J 0 w) :
  Calls Tryz.prog 138 [.func (.yield ly) #[] #[], ptr b 0].toArray w (fun e W' => (∃ v, e = .returned v) ∧ J l.length W') := by
 refine calls_WX Tryz.func138 rfl rfl rfl (by kernel_rfl) ?_
 obtain ⟨hb, hv⟩ := hJ _ _ hj
 refine WX_seq fun K1 hK1 => ?_
 refine WX_reg [.l, .p, .p, .p] rfl ?_
 refine dq (lv_load (by kernel_rfl) rfl (hb.at rfl)) ?_
 refine dp (pv_lenV (e := 50) (k := 2) (by kernel_rfl) hv.sl rfl) ?_
 refine dp (pv_sub rfl rfl (by unfold inI64; omega)) ?_
 refine da ?_
 refine D_end (hK1 _ _ _ ?_)
 refine WX_block ?_
 refine WX_loop (G := Nat × Int) (fun (k, j) => [(0, .func (.yield ly) #[] #[]), (1, ptr b 0), (3, I j)]) (fun (k, j) w' => k ≤ l.length ∧ j = (l.length : Int) - 1 - k ∧ J k w') (fun (k, j) => l.length - k) (0, (l.length : Int) - 1) ?_ ?_ ?_
 ·
  exact ⟨rfl, rfl, rfl, trivial⟩
 ·
  exact ⟨Nat.zero_le _, by simp, hj⟩
 ·
  intro X1 g1 w1 hF1
  obtain ⟨k, j⟩ := g1
  skip
  obtain ⟨hk1, hjj, hj⟩ := hF1
  clear hb hv
  obtain ⟨hb, hv⟩ := hJ _ _ hj
  refine WX_seq fun K2 hK2 => ?_
  refine WX_seq fun K3 hK3 => ?_
  refine WX_reg [.p, .p] rfl ?_
  refine dm ?_
  refine dp (pv_geq rfl rfl) ?_
  refine D_end (hK3 _ _ _ ?_)
  refine WX_if rfl (fun c1 => ?_) (fun c1 => ?_)
  ·
   obtain ⟨i, rfl⟩ : ∃ i : Nat, j = i := ⟨j.toNat, by omega⟩
   have hk := avaAt_at (l := l) (k := k) (i := i) (by omega) (by omega)
   have hy := hY _ _ hj (by omega)
   rw [← hjj] at hy
   refine WX_skip ?_
   refine hK2 _ _ _ ?_
   refine WX_seq fun K4 hK4 => ?_
   refine WX_block ?_
   refine WX_seq fun K5 hK5 => ?_
   refine WX_regI [.p, .p, .l, .p, .p, .l, .x, .p] rfl ?_
   refine DI_p (.inl rfl) ?_
   refine dm ?_
   refine D_end ?_
   refine DI_p (.inl rfl) ?_
   refine dm ?_
   refine D_end ?_
   refine DI_p (.inr rfl) ?_
   refine dq (lv_load (by kernel_rfl) rfl (hb.at rfl)) ?_
   refine D_end ?_
   refine DI_p (.inl rfl) ?_
   refine dm ?_
   refine D_end ?_
   refine DI_p (.inl rfl) ?_
   refine dp (pv_idxA (e := 50) (k := 2) (by kernel_rfl) hv.sl rfl rfl (hv.lt hk)) ?_
   refine D_end ?_
   refine DI_p (.inr rfl) ?_
   refine dq (lv_loadA (by kernel_rfl) rfl rfl (hv.row hk)) ?_
   refine D_end ?_
   refine DI_yield rfl rfl rfl hy (fun e w9 hh => ?_)
   obtain ⟨rfl, hj⟩ := hh
   refine ⟨_, rfl, ?_⟩
   clear hb hv
   obtain ⟨hb, hv⟩ := hJ _ _ hj
   refine DI_p (.inl rfl) ?_
   refine dn ?_
   refine D_end ?_
   refine DI_end (hK5 _ _ _ ?_)
   refine WX_f rfl ?_
   refine WX_skip ?_
   refine hK4 _ _ _ ?_
   refine WX_reg [.p, .p, .p] rfl ?_
   refine dm ?_
   refine dp (pv_sub rfl rfl (by unfold inI64; omega)) ?_
   refine da ?_
   refine D_end (?_)
   exact ⟨rfl, (k + 1, (i : Int) - 1), ⟨rfl, rfl, rfl, trivial⟩, ⟨by omega, by omega, hj⟩, by simp only []; omega⟩
  ·
   refine WX_exit ?_
   try dsimp only [thenX, inBlkX]
   refine retX_nilN ?_
   refine ret_none rfl ?_
   refine ⟨⟨_, rfl⟩, ?_⟩
   have hkl : k = l.length := by omega
   rw [← hkl]; exact hj

set_option maxRecDepth 100000 in
set_option maxHeartbeats 1000000 in
theorem backward_w (v : Value) (n : Nat) (w : World) (hv : isSl v n) :
  Calls Tryz.prog 106 [v].toArray w (Gives w (fun u w' => ∃ b, u = .func (.func 138) #[] #[ptr b 0] ∧ Blk w' b [v] 28)) := by
 refine calls_W Tryz.func106 rfl rfl rfl (by kernel_rfl) ?_
 have hx := Ext.refl w
 refine W_seq fun K1 hK1 => ?_
 refine wr ?_
 refine D_box rfl rfl hv.cells RX.all (fun b1 w1 e1 x1 m1 => ?_)
 have g1 : w.heap.size ≤ b1 := by have := hx.size; omega
 replace hx := hx.trans x1
 refine da ?_
 refine D_end (hK1 _ _ ?_)
 refine W_seq fun K2 hK2 => ?_
 refine wr ?_
 refine dp (pv_makeFunc rfl) ?_
 refine da ?_
 refine D_end (hK2 _ _ ?_)
 refine W_ret ?_
 try dsimp only [then', inBlk, noGo]
 refine ro ?_
 exact ⟨_, rfl, hx, _, rfl, m1⟩

set_option maxRecDepth 100000 in
set_option maxHeartbeats 1000000 in
theorem key_w (l : List Ava) (v : Value) (w : World) (hv : Arr Ava.cs 2 w v l) (hl : smallN l) (hg : GV w) :
  Calls Tryz.prog 61 [v].toArray w (Pure w (S (keyS l))) := by
 refine calls_WX Tryz.func61 rfl rfl rfl (by kernel_rfl) ?_
 have hx := Ext.refl w
 have hl1 := hl.1
 have hsn := small_norm hl
 have hnl : (l.map normA).length = l.length := List.length_map ..
 refine WX_seq fun K1 hK1 => ?_
 refine WX_reg [.p] rfl ?_
 refine da ?_
 refine D_end (hK1 _ _ _ ?_)
 refine WX_seq fun K2 hK2 => ?_
 refine WX_reg [.x] rfl ?_
 refine D_alloc (cs := [.pointer none, .slice none 0 0]) rfl (by kernel_rfl) RX.all (fun b1 w1 e1 x1 m1 => ?_)
 have g1 : w.heap.size ≤ b1 := by have := hx.size; omega
 replace hx := hx.trans x1
 refine D_end (hK2 _ _ _ ?_)
 refine WX_seq fun K3 hK3 => ?_
 refine WX_seq fun K4 hK4 => ?_
 refine WX_reg [.p, .x, .x] rfl ?_
 refine dm ?_
 refine D_callG rfl (by kernel_rfl) (norm_o l v _ (hv.ext hx) hl) rfl RX.all (fun vn w2 x2 hn => ?_)
 have hsz2 := hx.size
 replace m1 := m1.ext x2
 replace hx := hx.trans x2
 replace hn := hn.mono hsz2
 refine D_callG rfl (by kernel_rfl) (backward_w vn _ _ hn.sl) rfl RX.all (fun u8 w3 x3 hf3 => ?_)
 have hsz3 := hx.size
 replace m1 := m1.ext x3
 replace hn := hn.ext x3
 replace hx := hx.trans x3
 obtain ⟨bb, rfl, hbb⟩ := hf3
 refine D_end (hK4 _ _ _ ?_)
 refine WX_block ?_
 have hb0 : ∃ vb, Bld 111 5 w.heap.size b1 vb (keyN (l.map normA) 0) w3 ∧ (0 = 0 → vb = .slice none 0 0) := ⟨_, ⟨⟨_, .inl rfl, m1⟩, Vc.Own.nil⟩, fun _ => rfl⟩
 have hI0 : (Ext w w3 ∧ (∃ vb, Bld 111 5 w.heap.size b1 vb (keyN (l.map normA) 0) w3 ∧ (0 = 0 → vb = .slice none 0 0)) ∧ Blk w3 bb [vn] 28 ∧ Vc.Own Ava.cs 2 50 w.heap.size w3 vn (l.map normA)) := ⟨hx, hb0, hbb, hn⟩
 have hx3 := hx.size
 refine WX_range (gf := 138) (N := (l.map normA).length) (lb := #[ptr bb 0]) (args := fun k => [I (((l.map normA).length : Int) - 1 - k), .agg ⟨(avaAt (l.map normA) k).cs⟩]) rfl (by kernel_rfl) (fun _ => rfl)
  (fun k W => (Ext w W ∧ (∃ vb, Bld 111 5 w.heap.size b1 vb (keyN (l.map normA) k) W ∧ (k = 0 → vb = .slice none 0 0)) ∧ Blk W bb [vn] 28 ∧ Vc.Own Ava.cs 2 50 w.heap.size W vn (l.map normA)))
  (fun k E1 W => ∃ b5, E1 5 = ptr b5 0 ∧ E1 3 = ptr b1 0 ∧ Blk W b5 (avaAt (l.map normA) k).cs 50 ∧ (Ext w W ∧ (∃ vb, Bld 111 5 w.heap.size b1 vb (keyN (l.map normA) k) W ∧ (k = 0 → vb = .slice none 0 0)) ∧ Blk W bb [vn] 28 ∧ Vc.Own Ava.cs 2 50 w.heap.size W vn (l.map normA))) hI0 ?hX ?hL ?hAL ?hit ?assign ?body ?h
 case hX =>
  rintro k W W' ⟨h1, ⟨vb, h2, hz⟩, h3, h4⟩ x
  exact ⟨h1.trans x, ⟨vb, h2.ext x, hz⟩, h3.ext x, h4.ext x⟩
 case hL =>
  rintro k W l' o o' ⟨h1, ⟨vb, h2, hz⟩, h3, h4⟩ hle hl ho
  have := hx.size
  exact ⟨h1.own (Mod.putObj W l' o') (fun i hi => by have hi2 : i = l' := hi; omega), ⟨vb, h2.put o' hl ho, hz⟩, h3.put o' hl ho, h4.put o' hl ho⟩
 case hAL =>
  rintro k E1 W l' o o' ⟨b5, a1, a2, a3, h1, ⟨vb, h2, hz⟩, h3, h4⟩ hle hl ho
  have := hx.size
  exact ⟨b5, a1, a2, a3.put o' hl ho, h1.own (Mod.putObj W l' o') (fun i hi => by have hi2 : i = l' := hi; omega), ⟨vb, h2.put o' hl ho, hz⟩, h3.put o' hl ho, h4.put o' hl ho⟩
 case hit =>
  intro ly J hJI hJE hY W hj
  exact backward1_w bb vn (l.map normA) ly J W (by omega) (fun k W h => ⟨(hJI k W h).2.2.1, (hJI k W h).2.2.2.arr (by intro x; rfl)⟩) hJE hY hj
 case assign =>
  clear hx hn m1 hbb hb0 hI0
  intro k ly W hk hI
  have hI2 := hI
  obtain ⟨hx, -, -, -⟩ := hI
  have hx0 := Ext.refl W
  refine WX_reg [.x, .x] rfl ?_
  refine D_alloc (cs := [S [], S []]) rfl (by kernel_rfl) RX.all (fun b2 w4 e2 x4 m2 => ?_)
  have g2 : w.heap.size ≤ b2 := by have := hx.size; omega
  replace hx := hx.trans x4
  refine D_store (v := ?v3) (vs := ?u3) rfl rfl ?h3 ?c3 ?s3 m2 ?o3 ?n3 (.inl rfl) (fun w5 x5 xs5 m2 => ?k3)
  case h3 => conv => lhs; whnf
  case c3 => exact rfl
  case s3 => kernel_rfl
  case o3 => exact Nat.le_of_ble_eq_true rfl
  case n3 => simp [Value.oneCell']
  try dsimp only [setAt, List.set, List.take, List.drop] at m2
  replace hx := hx.own x5 (by intro i hi; have hi2 : i = b2 := hi; subst hi2; omega)
  refine D_end (?_)
  have hX := x4.own x5 (fun i hi => by have hi2 : i = b2 := hi; omega)
  obtain ⟨i1, ⟨vb, i2, hz⟩, i3, i4⟩ := hI2
  exact ⟨rfl, rfl, hX, b2, rfl, rfl, m2, i1.trans hX, ⟨vb, i2.ext hX, hz⟩, i3.ext hX, i4.ext hX⟩
 case body =>
  clear hx hn m1 hbb hb0 hI0
  intro k ly E1 W keep hk hA hkeep
  obtain ⟨b5, h5, h3, m5, hx, ⟨vb, hb, -⟩, hbb, hvn⟩ := hA
  have hkp : Keeps keep W W := fun j hj => ⟨rfl, (hkeep j hj).2⟩
  have hE : env [(3, ptr b1 0), (5, ptr b5 0)] E1 = E1 := env_of_holds ⟨h3, h5, trivial⟩
  rw [← hE]
  have hal := avaAt_len hsn k
  have hkl := keyN_len hsn k (by omega)
  have hel := esc_len (avaAt (l.map normA) k).val
  refine WX_block ?_
  refine WX_draw (R := Mod (fun k => k = b1 ∨ vb.ownBlock = some k)) modRefl modTrans (by kernel_rfl) [1, 4] [(0, .p, false), (1, .l, false), (2, .p, false), (3, .p, false), (4, .l, false), (5, .x, false), (6, .p, false), (7, .p, false), (8, .x, false)] rfl (by kernel_rfl) (by kernel_rfl) (fun w6 ew6 => ?_)
  have x6 : Ext W w6 := by rw [ew6]; exact Ext.drew _
  clear ew6
  replace m5 := m5.ext x6
  replace hb := hb.ext x6
  replace hbb := hbb.ext x6
  replace hvn := hvn.ext x6
  replace hkp := hkp.ext x6
  replace hx := hx.trans x6
  refine dp (pv_fieldA (k := 0) (by kernel_rfl) rfl) ?_
  refine D_l rfl (fun w' hR => lv_load (by kernel_rfl) rfl ((m5.mod hR (hb.sep m5 rfl rfl)).at rfl)) ?_
  refine dp (pv_scat rfl rfl (by first | (simp; done) | (simp; omega) | omega)) ?_
  refine dp (pv_fieldA (k := 1) (by kernel_rfl) rfl) ?_
  refine D_l rfl (fun w' hR => lv_load (by kernel_rfl) rfl ((m5.mod hR (hb.sep m5 rfl rfl)).at rfl)) ?_
  refine D_callP rfl (by kernel_rfl) (escape_w (avaAt (l.map normA) k).val _ (by omega) (hg.ext hx)) rfl RX.mod (fun w7 x7 => ?_)
  replace m5 := m5.ext x7
  replace hb := hb.ext x7
  replace hbb := hbb.ext x7
  replace hvn := hvn.ext x7
  replace hkp := hkp.ext x7
  replace hx := hx.trans x7
  refine dp (pv_scat rfl rfl (by first | (simp; done) | (simp; omega) | omega)) ?_
  refine dp (pv_scat rfl rfl (by first | (simp; done) | (simp; omega) | omega)) ?_
  refine D_callD rfl (by kernel_rfl) (writeS_w _ b1 _ _ _ _ hb (by omega) hx.size (by simp; omega)) rfl (.inr fun _ h => h) (fun u8 w8 x8 hf8 => ?_)
  have hsz8 := hx.size
  replace m5 := m5.mod x8 (hb.sep m5 rfl rfl)
  replace hbb := hbb.mod x8 (hb.sep hbb rfl rfl)
  replace hvn := hvn.mod x8 (fun k hk e => e.elim (fun e => by obtain ⟨p, _, h1⟩ := hb.blk; exact hvn.ne_blk h1 rfl (hk.trans (congrArg some e))) (fun e => hvn.ne hb.own rfl hk e))
  replace hkp := hkp.mod x8 (hkp.ne_bld hb)
  replace hx := hx.own x8 (fun i hi => (by rcases hi with h | h; (omega); exact (hb.own.lt i h).1))
  obtain ⟨rfl, vb2, hb⟩ := hf8
  refine D_end (?_)
  refine ⟨rfl, ⟨hx, ⟨vb2, ?_, fun h => absurd h (by omega)⟩, hbb, hvn⟩, fun j hj => (hkp j hj).1⟩
  rw [keyN_next hk]
  simpa [keyA, List.append_assoc] using hb
 case h =>
  intro D w8 hD hI hdl
  clear hx hn m1 hbb hb0 hI0
  obtain ⟨hx, ⟨vb, hb, hz⟩, hbb, hvn⟩ := hI
  have hz2 : keyN (l.map normA) (l.map normA).length = [] → vb = .slice none 0 0 := fun h => hz (keyN_nil h)
  rw [keyN_all] at hb hz2
  have hks := keyS_len hl
  refine hK3 _ _ _ ?_
  refine WX_seq fun K5 hK5 => ?_
  refine WX_reg [.x, .p] rfl ?_
  refine D_callD rfl (by kernel_rfl) (stringO_w _ b1 vb _ _ hb hz2) rfl (.inl rfl) (fun u9 w9 x9 hf9 => ?_)
  have hsz9 := hx.size
  replace hx := hx.own x9 (fun i hi => (hb.own.lt i hi).1)
  obtain rfl := hf9
  have hdl2 : w9.heap[D]? = some (.deferred (some [])) := by
   rw [x9.block D (Array.getElem?_eq_some_iff.1 hdl).1 (fun e => ne_cells hdl rfl (hb.own.cellsB e) rfl)]; exact hdl
  refine da ?_
  refine D_end (hK5 _ _ _ ?_)
  refine WX_ret ?_
  try dsimp only [thenX, inBlkX]
  refine retX_mark hdl2 ?_
  refine ro ?_
  have hxs := hx.size
  exact ⟨rfl, hx.own (Mod.putObj _ D _) (fun i hi => by have hi2 : i = D := hi; omega)⟩

end Go.Proofs.YtcjjjmhhpejdoaaGreatDoor
