/-
  Walks.
-/
import Derived.Test.YtdagdhjheibgnaaGreatDoorChecked
import Derived.Test.YtdagdhjheibgnaaGreatDoorSpMem
import Derived.KernelRfl
import Derived.Test.YtdagdhjheibgnaaGreatDoorDnC
import Derived.Test.YtdagdhjheibgnaaGreatDoorVcU
import Derived.Test.YtdagdhjheibgnaaGreatDoorSpDp
namespace Go.Proofs.YtdagdhjheibgnaaGreatDoor
open Go.Vc Go.Sp
attribute [local irreducible] W XW Dw DwT
set_option linter.unusedVariables false
set_option linter.unusedSimpArgs false

def hexT : Str := [48, 49, 50, 51, 52, 53, 54, 55, 56, 57, 97, 98, 99, 100, 101, 102]
theorem hex_hi (c : UInt8) : (hexT.take ((c >>> 4) + 1).toNat).drop (c >>> 4).toNat = [hexB (c >>> 4)] ∧ (c >>> 4).toNat ≤ ((c >>> 4) + 1).toNat ∧ ((c >>> 4) + 1).toNat ≤ hexT.length := by
  have e : ∀ c : Fin 256, (hexT.take ((UInt8.ofNat c >>> 4) + 1).toNat).drop (UInt8.ofNat c >>> 4).toNat = [hexB (UInt8.ofNat c >>> 4)] ∧ (UInt8.ofNat c >>> 4).toNat ≤ ((UInt8.ofNat c >>> 4) + 1).toNat ∧ ((UInt8.ofNat c >>> 4) + 1).toNat ≤ hexT.length := by decide +kernel
  have := e ⟨c.toNat, c.toNat_lt⟩
  simpa using this
theorem hex_lo (c : UInt8) : (hexT.take ((c &&& 15) + 1).toNat).drop (c &&& 15).toNat = [hexB (c &&& 15)] ∧ (c &&& 15).toNat ≤ ((c &&& 15) + 1).toNat ∧ ((c &&& 15) + 1).toNat ≤ hexT.length := by
  have e : ∀ c : Fin 256, (hexT.take ((UInt8.ofNat c &&& 15) + 1).toNat).drop (UInt8.ofNat c &&& 15).toNat = [hexB (UInt8.ofNat c &&& 15)] ∧ (UInt8.ofNat c &&& 15).toNat ≤ ((UInt8.ofNat c &&& 15) + 1).toNat ∧ ((UInt8.ofNat c &&& 15) + 1).toNat ≤ hexT.length := by decide +kernel
  have := e ⟨c.toNat, c.toNat_lt⟩
  simpa using this
theorem string_w (B bt : Nat) (v : Value) (l : Str) (w : World) (h : Bld 99 5 B bt v l w) (hB : B ≤ bt) : Calls Tryz.prog 77 [ptr bt 0].toArray w (Does (geB B) w (fun u _ => u = S l)) := by
  have hlt := h.lt
  refine (Tryz.Builder_String_any B bt l w (h.is hB rfl) (by omega)).mono ?_
  rintro e w' ⟨rfl, hb⟩
  exact ⟨_, rfl, Mod.of_belowB hb, rfl⟩
theorem map_take {l : List Ava} {k : Nat} {a : Ava} (h : l[k]? = some a) : (l.take (k + 1)).map normA = (l.take k).map normA ++ [⟨foldS a.typ, valS a.val⟩] := by
  rw [take_snocS h, List.map_append]; rfl

set_option maxRecDepth 100000 in
set_option maxHeartbeats 1000000 in
theorem copy0_w (bt : Nat) (v : Value) (w : World) (hm : Blk w bt [.pointer none, v] 99) :
  Calls Tryz.prog 112 [ptr bt 0].toArray w (Does (oneB bt) w (fun u w' => u = .tuple #[] ∧ Blk w' bt [ptr bt 0, v] 99)) := by
 refine calls_W Tryz.func112 rfl rfl rfl (by kernel_rfl) ?_
 have hx := Ext.refl w
 refine W_seq fun K1 hK1 => ?_
 refine wr ?_
 refine dm ?_
 refine dp (pv_nilP rfl) ?_
 refine dp (pv_fieldA (k := 0) (by kernel_rfl) rfl) ?_
 refine dq (lv_load (by kernel_rfl) rfl (hm.at rfl)) ?_
 refine dp (pv_eqP (by kernel_rfl) rfl rfl) ?_
 refine D_end (hK1 _ _ ?_)
 refine W_if rfl (fun c1 => ?_) (fun c1 => ?_)
 ·
  refine W_reg [.p, .p, .l, .l, .l, .p, .p, .x] rfl ?_
  iterate 2 refine dm ?_
  refine dq (lv_toU (o := 0) (by kernel_rfl) hm (Nat.zero_lt_succ 1) rfl) ?_
  refine dq (lv_noEsc Tryz.func131 (by kernel_rfl) (by kernel_rfl) (by kernel_rfl) (by kernel_rfl) rfl) ?_
  refine dq (lv_fromU (by kernel_rfl) (by kernel_rfl) (by kernel_rfl) hm (by kernel_rfl) rfl) ?_
  refine dp (pv_nilP rfl) ?_
  refine dp (pv_fieldA (k := 0) (by kernel_rfl) rfl) ?_
  refine D_store1 (v := ?v4) rfl rfl ?h4 ?n4 (by kernel_rfl) hm ?o4 (.inl rfl) (fun w1 x1 xs1 hm => ?k4)
  case h4 => conv => lhs; whnf
  case n4 => first | rfl
  case o4 => exact Nat.le_of_ble_eq_true rfl
  try dsimp only [setAt, List.set, List.take, List.drop] at hm
  replace hx := (hx.mod x1).mono (fun i hi _ => (hi : (oneB bt) i))
  refine D_end (?_)
  refine norm_ret ?_
  try dsimp only [then', inBlk, noGo]
  refine ret_none rfl ?_
  exact ⟨_, rfl, hx, rfl, hm⟩
 ·
  exact absurd rfl c1

set_option maxRecDepth 100000 in
set_option maxHeartbeats 1000000 in
theorem copy1_w (bt : Nat) (v : Value) (w : World) (hm : Blk w bt [ptr bt 0, v] 99) :
  Calls Tryz.prog 112 [ptr bt 0].toArray w (Does (oneB bt) w (fun u w' => u = .tuple #[] ∧ Blk w' bt [ptr bt 0, v] 99)) := by
 refine calls_W Tryz.func112 rfl rfl rfl (by kernel_rfl) ?_
 have hx := Ext.refl w
 refine W_seq fun K1 hK1 => ?_
 refine wr ?_
 refine dm ?_
 refine dp (pv_nilP rfl) ?_
 refine dp (pv_fieldA (k := 0) (by kernel_rfl) rfl) ?_
 refine dq (lv_load (by kernel_rfl) rfl (hm.at rfl)) ?_
 refine dp (pv_eqP (by kernel_rfl) rfl rfl) ?_
 refine D_end (hK1 _ _ ?_)
 refine W_if rfl (fun c1 => ?_) (fun c1 => ?_)
 ·
  cases c1
 ·
  refine W_seq fun K2 hK2 => ?_
  refine wr ?_
  refine dm ?_
  refine dp (pv_nilP rfl) ?_
  refine dp (pv_fieldA (k := 0) (by kernel_rfl) rfl) ?_
  refine dq (lv_load (by kernel_rfl) rfl (hm.at rfl)) ?_
  refine dm ?_
  refine dp (pv_neSelf (by kernel_rfl) (by kernel_rfl) rfl rfl) ?_
  refine D_end (hK2 _ _ ?_)
  refine W_f rfl ?_
  refine W_skip ?_
  refine norm_ret ?_
  try dsimp only [then', inBlk, noGo]
  refine ret_none rfl ?_
  exact ⟨_, rfl, hx.mono (fun _ h _ => h.elim), rfl, hm⟩

theorem copy_w (bt : Nat) (p v : Value) (w : World) (hm : Blk w bt [p, v] 99) (hp : p = .pointer none ∨ p = ptr bt 0) : Calls Tryz.prog 112 [ptr bt 0].toArray w (Does (oneB bt) w (fun u w' => u = .tuple #[] ∧ Blk w' bt [ptr bt 0, v] 99)) := by
  rcases hp with rfl | rfl
  · exact copy0_w bt v w hm
  · exact copy1_w bt v w hm

set_option maxRecDepth 100000 in
set_option maxHeartbeats 1000000 in
theorem writeB_w (B bt : Nat) (v : Value) (l : Str) (c : UInt8) (w : World) (h : Bld 99 5 B bt v l w) (hl : l.length ≤ 1000000000) (hB : B ≤ w.heap.size) :
  Calls Tryz.prog 74 [ptr bt 0, b8 c].toArray w (Does (fun k => k = bt ∨ v.ownBlock = some k) w (fun u w' => u = .nilIface ∧ ∃ v', Bld 99 5 B bt v' (l ++ [c]) w')) := by
 refine calls_W Tryz.func74 rfl rfl rfl (by kernel_rfl) ?_
 have hx := Ext.refl w
 obtain ⟨⟨p, hp, hm⟩, ho⟩ := h
 have hne := ho.ne_blk hm rfl
 refine W_seq fun K1 hK1 => ?_
 refine wr ?_
 refine da ?_
 refine D_end (hK1 _ _ ?_)
 refine W_seq fun K2 hK2 => ?_
 refine wr ?_
 refine dm ?_
 refine D_callD rfl (by kernel_rfl) (copy_w bt p v _ hm hp) rfl (.inl rfl) (fun u1 w1 x1 hf1 => ?_)
 have hsz1 := hx.size
 replace ho := ho.mod x1 (fun k hk e => by have h2 : k = bt := e; exact hne (h2 ▸ hk))
 replace hx := (hx.mod x1).mono (fun i hi _ => (Or.inl hi : (fun k => k = bt ∨ v.ownBlock = some k) i))
 obtain ⟨rfl, hm⟩ := hf1
 refine D_end (hK2 _ _ ?_)
 refine W_seq fun K3 hK3 => ?_
 refine wr ?_
 iterate 2 refine dm ?_
 refine dp (pv_nilP rfl) ?_
 refine dp (pv_fieldA (k := 1) (by kernel_rfl) rfl) ?_
 refine dq (lv_load (by kernel_rfl) rfl (hm.at rfl)) ?_
 refine dm ?_
 refine D_lit (e := 5) (sz := 1) (zs := [.int .u8 0]) (pv := [(0, ?a6_0)]) (cs := [?a6_0]) rfl (by kernel_rfl) ⟨rfl, rfl⟩ (by kernel_rfl) rfl ?h6 ?f6 RX.all (fun b1 w2 e1 x2 m1 => ?k6)
 case h6 => refine ⟨rfl, ?_, trivial⟩ <;> (conv => lhs; whnf)
 case f6 => rfl
 have g1 : w.heap.size ≤ b1 := by have := hx.size; omega
 have o1_ho : ∀ k, Value.ownBlock _ = some k → k < b1 := fun k hk => by have := (ho.lt k hk).2; omega
 have a1_hm := hm.lt
 replace ho := ho.ext x2
 replace hm := hm.ext x2
 replace hx := hx.ext x2
 refine D_append (lx := [c]) (e := 5) (sz := 1) (by' := 1) rfl (by kernel_rfl) (by kernel_rfl) (by intro x; rfl) ho (m1.arr (enc := encB) (sz := 1) (l := [c]) rfl (by intro x; rfl) rfl (Nat.le_of_ble_eq_true rfl)) rfl rfl (by intro x _ u hu; simp at hu; rcases hu with rfl <;> rfl) (by simp; omega) (by decide) (Nat.le_trans hB hx.size) (.inl rfl) (fun v2 w3 ho_n x3 => ?_)
 try replace hm := hm.mod x3 (by first | (intro h; have h2 : _ = bt := h; omega) | exact hne)
 replace hx := hx.own x3 (fun i hi hlt => Or.inr hi)
 replace ho := ho_n
 clear m1
 have hne2 := ho.ne_blk hm rfl
 refine dp (pv_nilP rfl) ?_
 refine dp (pv_fieldA (k := 1) (by kernel_rfl) rfl) ?_
 refine D_store1 (v := ?v7) rfl rfl ?h7 ?n7 (by kernel_rfl) hm ?o7 (.inl rfl) (fun w4 x4 xs4 hm => ?k7)
 case h7 => conv => lhs; whnf
 case n7 => first | rfl | exact isSl.one ho.sl
 case o7 => exact Nat.le_of_ble_eq_true rfl
 try dsimp only [setAt, List.set, List.take, List.drop] at hm
 replace ho := ho.mod x4 (by first | (intro k hk e; have h2 : k = bt := e; exact hne2 (h2 ▸ hk)) | (intro k hk e; have h2 : k = bt := e; exact hne (h2 ▸ hk)))
 replace hx := hx.own x4 (fun i hi _ => Or.inl hi)
 refine D_end (hK3 _ _ ?_)
 refine W_seq fun K4 hK4 => ?_
 refine wr ?_
 refine da ?_
 refine D_end (hK4 _ _ ?_)
 refine W_ret ?_
 try dsimp only [then', inBlk, noGo]
 refine ro ?_
 exact ⟨_, rfl, hx, rfl, v2, ⟨_, .inr rfl, hm⟩, ho⟩

set_option maxRecDepth 100000 in
set_option maxHeartbeats 1000000 in
theorem writeS_w (B bt : Nat) (v : Value) (l : Str) (s : Str) (w : World) (h : Bld 99 5 B bt v l w) (hl : l.length ≤ 1000000000) (hB : B ≤ w.heap.size) (hs : s.length ≤ 1000000000) :
  Calls Tryz.prog 75 [ptr bt 0, S s].toArray w (Does (fun k => k = bt ∨ v.ownBlock = some k) w (fun u w' => u = .tuple #[I ↑s.length, .nilIface] ∧ ∃ v', Bld 99 5 B bt v' (l ++ s) w')) := by
 refine calls_W Tryz.func75 rfl rfl rfl (by kernel_rfl) ?_
 have hx := Ext.refl w
 obtain ⟨⟨p, hp, hm⟩, ho⟩ := h
 have hne := ho.ne_blk hm rfl
 refine W_seq fun K1 hK1 => ?_
 refine wr ?_
 iterate 2 refine da ?_
 refine D_end (hK1 _ _ ?_)
 refine W_seq fun K2 hK2 => ?_
 refine wr ?_
 refine dm ?_
 refine D_callD rfl (by kernel_rfl) (copy_w bt p v _ hm hp) rfl (.inl rfl) (fun u1 w1 x1 hf1 => ?_)
 have hsz1 := hx.size
 replace ho := ho.mod x1 (fun k hk e => by have h2 : k = bt := e; exact hne (h2 ▸ hk))
 replace hx := (hx.mod x1).mono (fun i hi _ => (Or.inl hi : (fun k => k = bt ∨ v.ownBlock = some k) i))
 obtain ⟨rfl, hm⟩ := hf1
 refine D_end (hK2 _ _ ?_)
 refine W_seq fun K3 hK3 => ?_
 refine wr ?_
 iterate 2 refine dm ?_
 refine dp (pv_nilP rfl) ?_
 refine dp (pv_fieldA (k := 1) (by kernel_rfl) rfl) ?_
 refine dq (lv_load (by kernel_rfl) rfl (hm.at rfl)) ?_
 refine dm ?_
 refine D_appendS (lx := s) rfl (by kernel_rfl) (by kernel_rfl) (by kernel_rfl) ho rfl rfl (by omega) (Nat.le_trans hB hx.size) (.inl rfl) (fun v2 w2 ho_n x2 => ?_)
 try replace hm := hm.mod x2 (by first | (intro h; have h2 : _ = bt := h; omega) | exact hne)
 replace hx := hx.own x2 (fun i hi hlt => Or.inr hi)
 replace ho := ho_n
 have hne2 := ho.ne_blk hm rfl
 refine dp (pv_nilP rfl) ?_
 refine dp (pv_fieldA (k := 1) (by kernel_rfl) rfl) ?_
 refine D_store1 (v := ?v7) rfl rfl ?h7 ?n7 (by kernel_rfl) hm ?o7 (.inl rfl) (fun w3 x3 xs3 hm => ?k7)
 case h7 => conv => lhs; whnf
 case n7 => first | rfl | exact isSl.one ho.sl
 case o7 => exact Nat.le_of_ble_eq_true rfl
 try dsimp only [setAt, List.set, List.take, List.drop] at hm
 replace ho := ho.mod x3 (by first | (intro k hk e; have h2 : k = bt := e; exact hne2 (h2 ▸ hk)) | (intro k hk e; have h2 : k = bt := e; exact hne (h2 ▸ hk)))
 replace hx := hx.own x3 (fun i hi _ => Or.inl hi)
 refine D_end (hK3 _ _ ?_)
 refine W_seq fun K4 hK4 => ?_
 refine wr ?_
 refine dm ?_
 refine dp (pv_lenS (by kernel_rfl) rfl) ?_
 iterate 2 refine da ?_
 refine D_end (hK4 _ _ ?_)
 refine W_ret ?_
 try dsimp only [then', inBlk, noGo]
 refine rt ?_
 exact ⟨_, rfl, hx, rfl, v2, ⟨_, .inr rfl, hm⟩, ho⟩

set_option maxRecDepth 100000 in
set_option maxHeartbeats 1000000 in
theorem print_w (l : List Ava) (v : Value) (w : World) (hv : Arr Ava.cs 2 w v l) (hl : smallN l) :
  Calls Tryz.prog 44 [v].toArray w (Pure w (S (printS l))) := by
 refine calls_W Tryz.func44 rfl rfl rfl (by kernel_rfl) ?_
 have hx := Ext.refl w
 have hl1 := hl.1
 refine W_seq fun K1 hK1 => ?_
 refine wr ?_
 refine da ?_
 refine D_end (hK1 _ _ ?_)
 refine W_seq fun K2 hK2 => ?_
 refine wr ?_
 refine D_alloc (cs := [.pointer none, .slice none 0 0]) rfl (by kernel_rfl) RX.all (fun b1 w1 e1 x1 m1 => ?_)
 have g1 : w.heap.size ≤ b1 := by have := hx.size; omega
 replace hx := hx.trans x1
 refine D_end (hK2 _ _ ?_)
 refine W_seq fun K3 hK3 => ?_
 refine W_seq fun K4 hK4 => ?_
 refine wr ?_
 refine dm ?_
 refine dp (pv_lenV (e := 93) (k := 2) (by kernel_rfl) hv.sl rfl) ?_
 refine dm ?_
 refine D_end (hK4 _ _ ?_)
 refine W_block ?_
 refine W_loop (G := Nat × Value) (fun (k, vb) => [(2, S []), (3, ptr b1 0), (8, v), (9, I ↑l.length), (10, I ↑k)]) (fun (k, vb) w' => Ext w w' ∧ k ≤ l.length ∧ Bld 99 5 w.heap.size b1 vb (printN l k) w') (fun (k, vb) => l.length - k) (0, .slice none 0 0) ?_ ?_ ?_
 ·
  exact ⟨rfl, rfl, rfl, rfl, rfl, trivial⟩
 ·
  exact ⟨hx, Nat.zero_le _, ⟨_, .inl rfl, m1⟩, Own.nil⟩
 ·
  intro X2 g2 w2 hF2
  obtain ⟨k, vb⟩ := g2
  clear hx m1
  obtain ⟨hx, hk1, hb⟩ := hF2
  refine W_seq fun K5 hK5 => ?_
  refine wr ?_
  refine dp (pv_lss rfl rfl) ?_
  refine D_end (hK5 _ _ ?_)
  refine W_seq fun K6 hK6 => ?_
  refine W_if rfl (fun c1 => ?_) (fun c1 => ?_)
  ·
   obtain ⟨a, hk⟩ : ∃ a, l[k]? = some a := ⟨_, List.getElem?_eq_getElem (by omega)⟩
   have hsa := hl.at hk
   have hpl := print_len hl k
   have hif : (if k = 0 then ([] : Str) else [44]).length ≤ 1 := by split <;> simp
   refine W_skip ?_
   refine hK6 _ _ ?_
   refine W_seq fun K7 hK7 => ?_
   refine W_block ?_
   refine W_seq fun K8 hK8 => ?_
   refine wr ?_
   refine dm ?_
   refine dp (pv_idxA (e := 93) (k := 2) (by kernel_rfl) hv.sl rfl rfl (hv.lt hk)) ?_
   refine dq (lv_loadA (by kernel_rfl) rfl rfl ((hv.ext hx).row hk)) ?_
   refine D_alloc (cs := [S [], S []]) rfl (by kernel_rfl) RX.all (fun b2 w3 e2 x3 m2 => ?_)
   have g2 : w.heap.size ≤ b2 := by have := hx.size; omega
   have a2_hb := hb.lt
   replace hb := hb.ext x3
   replace hx := hx.trans x3
   have hsep := hb.sep m2 rfl rfl
   refine da ?_
   refine D_store (v := ?v5) (vs := ?u5) rfl rfl ?h5 ?c5 ?s5 m2 ?o5 ?n5 (.inl rfl) (fun w4 x4 xs4 m2 => ?k5)
   case h5 => conv => lhs; whnf
   case c5 => exact rfl
   case s5 => kernel_rfl
   case o5 => exact Nat.le_of_ble_eq_true rfl
   case n5 => simp [Value.oneCell']
   try dsimp only [setAt, List.set, List.take, List.drop] at m2
   replace hb := hb.mod x4 (fun k hk e => hsep ((show k = b2 from e) ▸ hk))
   replace hx := hx.own x4 (by intro i hi; have hi2 : i = b2 := hi; subst hi2; omega)
   refine D_end (hK8 _ _ ?_)
   refine W_cut (G := Value) (fun vb => [(2, S []), (3, ptr b1 0), (5, ptr b2 0), (8, v), (9, I ↑l.length), (10, I ↑k)]) (fun vb w' => Ext w w' ∧ Blk w' b2 [S a.typ, S a.val] 93 ∧ Bld 99 5 w.heap.size b1 vb (printN l k ++ (if k = 0 then [] else [44])) w') ?_ ?_
   ·
    refine W_seq fun K9 hK9 => ?_
    refine wr ?_
    refine dm ?_
    refine dp (pv_gtr rfl rfl) ?_
    refine D_end (hK9 _ _ ?_)
    refine W_if rfl (fun c2 => ?_) (fun c2 => ?_)
    ·
     refine wr ?_
     refine D_callD rfl (by kernel_rfl) (writeB_w _ b1 _ _ 44 _ hb (by first | omega | (simp only [List.length_append, List.length_cons, List.length_nil]; omega)) hx.size) rfl (.inl rfl) (fun u5 w5 x5 hf5 => ?_)
     have hsz5 := hx.size
     replace m2 := m2.mod x5 (hb.sep m2 rfl rfl)
     replace hx := hx.own x5 (fun i hi => (by rcases hi with h | h; (omega); exact (hb.own.lt i h).1))
     obtain ⟨rfl, vb5, hb⟩ := hf5
     refine D_end (?_)
     first | exact ⟨_, ⟨rfl, rfl, rfl, rfl, rfl, rfl, trivial⟩, hx, m2, by rw [if_neg (by omega)]; exact hb⟩ | exact ⟨_, ⟨rfl, rfl, rfl, rfl, rfl, rfl, trivial⟩, hx, m2, by rw [if_pos (by omega), List.append_nil]; exact hb⟩
    ·
     refine W_skip ?_
     first | exact ⟨_, ⟨rfl, rfl, rfl, rfl, rfl, rfl, trivial⟩, hx, m2, by rw [if_neg (by omega)]; exact hb⟩ | exact ⟨_, ⟨rfl, rfl, rfl, rfl, rfl, rfl, trivial⟩, hx, m2, by rw [if_pos (by omega), List.append_nil]; exact hb⟩
   ·
    intro X6 g6 w6 hF6
    revert hF6; revert g6; intro vb hF6
    clear hx hb m2
    obtain ⟨hx, m2, hb⟩ := hF6
    refine W_seq fun K10 hK10 => ?_
    refine wr ?_
    refine dp (pv_fieldA (k := 0) (by kernel_rfl) rfl) ?_
    refine dq (lv_load (by kernel_rfl) rfl (m2.at rfl)) ?_
    refine dp (pv_scat rfl rfl (by first | (simp; done) | (simp; omega) | omega)) ?_
    refine D_callD rfl (by kernel_rfl) (writeS_w _ b1 _ _ (a.typ ++ [61]) _ hb (by first | omega | (simp only [List.length_append, List.length_cons, List.length_nil]; omega)) hx.size (by simp; omega)) rfl (.inl rfl) (fun u7 w7 x7 hf7 => ?_)
    have hsz7 := hx.size
    replace m2 := m2.mod x7 (hb.sep m2 rfl rfl)
    replace hx := hx.own x7 (fun i hi => (by rcases hi with h | h; (omega); exact (hb.own.lt i h).1))
    obtain ⟨rfl, vs, hb⟩ := hf7
    refine D_end (hK10 _ _ ?_)
    refine W_seq fun K11 hK11 => ?_
    refine wr ?_
    refine dp (pv_fieldA (k := 1) (by kernel_rfl) rfl) ?_
    refine dq (lv_load (by kernel_rfl) rfl (m2.at rfl)) ?_
    refine dp (pv_lenS (by kernel_rfl) rfl) ?_
    refine dm ?_
    refine D_end (hK11 _ _ ?_)
    refine W_block ?_
    refine W_loop (G := Nat × Value) (fun (j, vb) => [(2, S []), (3, ptr b1 0), (5, ptr b2 0), (8, v), (9, I ↑l.length), (10, I ↑k), (24, I ↑(a.val).length), (25, I ↑j)]) (fun (j, vb) w' => Ext w w' ∧ Blk w' b2 [S a.typ, S a.val] 93 ∧ j ≤ a.val.length ∧ Bld 99 5 w.heap.size b1 vb (printN l k ++ headA k a ++ toldN a.val j) w') (fun (j, vb) => a.val.length - j) (0, vs) ?_ ?_ ?_
    ·
     exact ⟨rfl, rfl, rfl, rfl, rfl, rfl, rfl, rfl, trivial⟩
    ·
     exact ⟨hx, m2, Nat.zero_le _, by simpa [toldN, headA, List.append_assoc] using hb⟩
    ·
     intro X8 g8 w8 hF8
     obtain ⟨j, vb⟩ := g8
     clear hx m2 hb
     obtain ⟨hx, m2, hj1, hb⟩ := hF8
     refine W_seq fun K12 hK12 => ?_
     refine wr ?_
     refine dp (pv_lss rfl rfl) ?_
     refine D_end (hK12 _ _ ?_)
     refine W_seq fun K13 hK13 => ?_
     refine W_if rfl (fun c3 => ?_) (fun c3 => ?_)
     ·
      obtain ⟨c, hj⟩ : ∃ c, a.val[j]? = some c := ⟨_, List.getElem?_eq_getElem (by omega)⟩
      have htl := told_len a.val j
      have hhl := headA_len k a
      refine W_skip ?_
      refine hK13 _ _ ?_
      refine W_seq fun K14 hK14 => ?_
      refine W_block ?_
      refine W_seq fun K15 hK15 => ?_
      refine wr ?_
      refine dm ?_
      refine da ?_
      refine D_end (hK15 _ _ ?_)
      refine W_seq fun K16 hK16 => ?_
      refine wr ?_
      refine dp (pv_fieldA (k := 1) (by kernel_rfl) rfl) ?_
      refine dq (lv_load (by kernel_rfl) rfl (m2.at rfl)) ?_
      refine dm ?_
      refine dp (pv_idxS (by kernel_rfl) rfl rfl hj) ?_
      refine da ?_
      refine D_end (hK16 _ _ ?_)
      refine W_seq fun K17 hK17 => ?_
      refine W_block ?_
      refine W_seq fun K18 hK18 => ?_
      refine wr ?_
      refine dm ?_
      refine dp (pv_lssB (b := 32) rfl rfl) ?_
      refine dm ?_
      refine D_splitP 35 rfl (fun c4 => ?_) (fun c4 => ?_)
      ·
       iterate 2 refine dk ?_
       refine dk' ?_
       refine da ?_
       refine D_end (hK18 _ _ ?_)
       refine W_t rfl ?_
       refine W_seq fun K19 hK19 => ?_
       refine W_draw (R := Ext) Ext.refl (fun _ _ _ => Ext.trans) (by kernel_rfl) [] [(0, .p, false), (1, .p, false), (2, .p, false), (3, .p, false), (4, .p, false), (5, .p, false), (6, .p, false), (7, .p, false), (8, .p, false), (9, .p, false), (10, .p, false), (11, .p, false), (12, .p, false), (13, .p, false), (14, .x, true)] rfl (by kernel_rfl) (by kernel_rfl) (fun w9 ew9 => ?_)
       have x9 : Ext w8 w9 := by rw [ew9]; exact Ext.drew _
       clear ew9
       replace m2 := m2.ext x9
       replace hb := hb.ext x9
       replace hx := hx.trans x9
       refine dm ?_
       refine dp (pv_shrB4 rfl rfl) ?_
       refine dm ?_
       refine dp (pv_shrB4 rfl rfl) ?_
       refine dp (pv_addB (b := 1) rfl rfl) ?_
       refine D_pe (v := S [hexB (c >>> 4)]) rfl (pv_slB (s := hexT) (a := c >>> 4) (b := (c >>> 4) + 1) (by kernel_rfl) rfl rfl rfl (hex_hi c).2.1 (hex_hi c).2.2) (by rw [(hex_hi c).1]) ?_
       refine dp (pv_scat rfl rfl (by first | (simp; done) | (simp; omega) | omega)) ?_
       refine dm ?_
       refine dp (pv_andB (b := 15) rfl rfl) ?_
       refine dm ?_
       refine dp (pv_andB (b := 15) rfl rfl) ?_
       refine dp (pv_addB (b := 1) rfl rfl) ?_
       refine D_pe (v := S [hexB (c &&& 15)]) rfl (pv_slB (s := hexT) (a := c &&& 15) (b := (c &&& 15) + 1) (by kernel_rfl) rfl rfl rfl (hex_lo c).2.1 (hex_lo c).2.2) (by rw [(hex_lo c).1]) ?_
       refine dp (pv_scat rfl rfl (by first | (simp; done) | (simp; omega) | omega)) ?_
       refine D_callD rfl (by kernel_rfl) (writeS_w _ b1 _ _ (([92] : Str) ++ [hexB (c >>> 4)] ++ [hexB (c &&& 15)]) _ hb (by first | omega | (simp only [List.length_append, List.length_cons, List.length_nil]; omega)) hx.size (by simp)) rfl (.inl rfl) (fun u10 w10 x10 hf10 => ?_)
       have hsz10 := hx.size
       replace m2 := m2.mod x10 (hb.sep m2 rfl rfl)
       replace hx := hx.own x10 (fun i hi => (by rcases hi with h | h; (omega); exact (hb.own.lt i h).1))
       obtain ⟨rfl, vz, hb⟩ := hf10
       refine D_end (hK19 _ _ ?_)
       refine W_exit ?_
       refine hK14 _ _ ?_
       refine wr ?_
       refine dp (pv_add rfl rfl (by unfold inI64; omega)) ?_
       refine dm ?_
       refine D_end (?_)
       refine ⟨(j + 1, vz), ⟨rfl, rfl, rfl, rfl, rfl, rfl, rfl, rfl, trivial⟩, ⟨hx, m2, by omega, ?_⟩, by simp only []; omega⟩
       rw [told_next hj, escC]
       first
       | (rw [if_pos (by first | exact .inl c4 | exact .inr c5)]; simpa [List.append_assoc] using hb)
       | (rw [if_neg (by rintro (h | h); exact c4 h; exact c5 h)]; first | (rw [if_pos (by rw [hme]; assumption)]; simpa [List.append_assoc] using hb) | (rw [if_neg (by rw [hme]; simp [*])]; simpa [List.append_assoc] using hb))
      ·
       refine dm ?_
       refine dp (pv_gtrB (b := 126) rfl rfl) ?_
       refine dk' ?_
       refine da ?_
       refine D_end (hK18 _ _ ?_)
       refine W_if rfl (fun c5 => ?_) (fun c5 => ?_)
       ·
        refine W_seq fun K20 hK20 => ?_
        refine W_draw (R := Ext) Ext.refl (fun _ _ _ => Ext.trans) (by kernel_rfl) [] [(0, .p, false), (1, .p, false), (2, .p, false), (3, .p, false), (4, .p, false), (5, .p, false), (6, .p, false), (7, .p, false), (8, .p, false), (9, .p, false), (10, .p, false), (11, .p, false), (12, .p, false), (13, .p, false), (14, .x, true)] rfl (by kernel_rfl) (by kernel_rfl) (fun w11 ew11 => ?_)
        have x11 : Ext w8 w11 := by rw [ew11]; exact Ext.drew _
        clear ew11
        replace m2 := m2.ext x11
        replace hb := hb.ext x11
        replace hx := hx.trans x11
        refine dm ?_
        refine dp (pv_shrB4 rfl rfl) ?_
        refine dm ?_
        refine dp (pv_shrB4 rfl rfl) ?_
        refine dp (pv_addB (b := 1) rfl rfl) ?_
        refine D_pe (v := S [hexB (c >>> 4)]) rfl (pv_slB (s := hexT) (a := c >>> 4) (b := (c >>> 4) + 1) (by kernel_rfl) rfl rfl rfl (hex_hi c).2.1 (hex_hi c).2.2) (by rw [(hex_hi c).1]) ?_
        refine dp (pv_scat rfl rfl (by first | (simp; done) | (simp; omega) | omega)) ?_
        refine dm ?_
        refine dp (pv_andB (b := 15) rfl rfl) ?_
        refine dm ?_
        refine dp (pv_andB (b := 15) rfl rfl) ?_
        refine dp (pv_addB (b := 1) rfl rfl) ?_
        refine D_pe (v := S [hexB (c &&& 15)]) rfl (pv_slB (s := hexT) (a := c &&& 15) (b := (c &&& 15) + 1) (by kernel_rfl) rfl rfl rfl (hex_lo c).2.1 (hex_lo c).2.2) (by rw [(hex_lo c).1]) ?_
        refine dp (pv_scat rfl rfl (by first | (simp; done) | (simp; omega) | omega)) ?_
        refine D_callD rfl (by kernel_rfl) (writeS_w _ b1 _ _ (([92] : Str) ++ [hexB (c >>> 4)] ++ [hexB (c &&& 15)]) _ hb (by first | omega | (simp only [List.length_append, List.length_cons, List.length_nil]; omega)) hx.size (by simp)) rfl (.inl rfl) (fun u12 w12 x12 hf12 => ?_)
        have hsz12 := hx.size
        replace m2 := m2.mod x12 (hb.sep m2 rfl rfl)
        replace hx := hx.own x12 (fun i hi => (by rcases hi with h | h; (omega); exact (hb.own.lt i h).1))
        obtain ⟨rfl, vz, hb⟩ := hf12
        refine D_end (hK20 _ _ ?_)
        refine W_exit ?_
        refine hK14 _ _ ?_
        refine wr ?_
        refine dp (pv_add rfl rfl (by unfold inI64; omega)) ?_
        refine dm ?_
        refine D_end (?_)
        refine ⟨(j + 1, vz), ⟨rfl, rfl, rfl, rfl, rfl, rfl, rfl, rfl, trivial⟩, ⟨hx, m2, by omega, ?_⟩, by simp only []; omega⟩
        rw [told_next hj, escC]
        first
        | (rw [if_pos (by first | exact .inl c4 | exact .inr c5)]; simpa [List.append_assoc] using hb)
        | (rw [if_neg (by rintro (h | h); exact c4 h; exact c5 h)]; first | (rw [if_pos (by rw [hme]; assumption)]; simpa [List.append_assoc] using hb) | (rw [if_neg (by rw [hme]; simp [*])]; simpa [List.append_assoc] using hb))
       ·
        refine W_cut (G := Bool) (fun e => [(2, S []), (3, ptr b1 0), (5, ptr b2 0), (7, b8 c), (8, v), (9, I ↑l.length), (10, I ↑k), (24, I ↑(a.val).length), (25, I ↑j), (54, B e)]) (fun e w' => Ext w w' ∧ Blk w' b2 [S a.typ, S a.val] 93 ∧ Bld 99 5 w.heap.size b1 vb (printN l k ++ headA k a ++ toldN a.val j) w' ∧ markB c j a.val.length = e) ?_ ?_
        ·
         refine W_seq fun K21 hK21 => ?_
         refine wr ?_
         refine dm ?_
         refine D_callP rfl (by kernel_rfl) (indexByte_w specials c _) rfl RX.all (fun w13 x13 => ?_)
         replace m2 := m2.ext x13
         replace hb := hb.ext x13
         replace hx := hx.trans x13
         refine dp (pv_geq rfl rfl) ?_
         refine da ?_
         refine D_end (hK21 _ _ ?_)
         refine W_if rfl (fun c6 => ?_) (fun c6 => ?_)
         ·
          have hs6 : inS c specials = true := (idx_in c _).1 c6
          refine W_skip ?_
          refine ⟨_, ⟨rfl, rfl, rfl, rfl, rfl, rfl, rfl, rfl, rfl, rfl, trivial⟩, hx, m2, hb, ?_⟩
          have q1 : ((j : Int) = 0) ↔ j = 0 := by omega
          have q2 : ((j : Int) = ↑a.val.length - 1) ↔ j + 1 = a.val.length := by omega
          try simp only [q1, q2] at *
          unfold markB
          rw [hs6]
          simp [*]
         ·
          have hs6 : inS c specials = false := Bool.eq_false_iff.2 (fun h => c6 ((idx_in c _).2 h))
          refine W_seq fun K22 hK22 => ?_
          refine wr ?_
          refine dm ?_
          refine dp (pv_eql rfl rfl) ?_
          refine dm ?_
          refine D_splitP 60 rfl (fun c7 => ?_) (fun c7 => ?_)
          ·
           refine dm ?_
           refine dp (pv_eqlB (b := 35) rfl rfl) ?_
           refine dm ?_
           refine D_splitP 63 rfl (fun c8 => ?_) (fun c8 => ?_)
           ·
            iterate 2 refine dk ?_
            refine dk' ?_
            refine dk' ?_
            refine da ?_
            refine D_end (hK22 _ _ ?_)
            refine W_t rfl ?_
            refine W_skip ?_
            refine ⟨_, ⟨rfl, rfl, rfl, rfl, rfl, rfl, rfl, rfl, rfl, rfl, trivial⟩, hx, m2, hb, ?_⟩
            have q1 : ((j : Int) = 0) ↔ j = 0 := by omega
            have q2 : ((j : Int) = ↑a.val.length - 1) ↔ j + 1 = a.val.length := by omega
            try simp only [q1, q2] at *
            unfold markB
            rw [hs6]
            simp [*]
           ·
            refine dm ?_
            refine dp (pv_eqlB (b := 32) rfl rfl) ?_
            refine dk' ?_
            refine dk' ?_
            refine da ?_
            refine D_end (hK22 _ _ ?_)
            refine W_if rfl (fun c9 => ?_) (fun c9 => ?_)
            ·
             refine W_skip ?_
             refine ⟨_, ⟨rfl, rfl, rfl, rfl, rfl, rfl, rfl, rfl, rfl, rfl, trivial⟩, hx, m2, hb, ?_⟩
             have q1 : ((j : Int) = 0) ↔ j = 0 := by omega
             have q2 : ((j : Int) = ↑a.val.length - 1) ↔ j + 1 = a.val.length := by omega
             try simp only [q1, q2] at *
             unfold markB
             rw [hs6]
             simp [*]
            ·
             refine wr ?_
             refine dm ?_
             refine dp (pv_fieldA (k := 1) (by kernel_rfl) rfl) ?_
             refine dq (lv_load (by kernel_rfl) rfl (m2.at rfl)) ?_
             refine dp (pv_lenS (by kernel_rfl) rfl) ?_
             refine dp (pv_sub rfl rfl (by unfold inI64; omega)) ?_
             refine dp (pv_eql rfl rfl) ?_
             refine dm ?_
             refine D_splitP 74 rfl (fun c10 => ?_) (fun c10 => ?_)
             ·
              refine dm ?_
              refine dp (pv_eqlB (b := 32) rfl rfl) ?_
              refine dk' ?_
              refine da ?_
              refine D_end (?_)
              refine ⟨_, ⟨rfl, rfl, rfl, rfl, rfl, rfl, rfl, rfl, rfl, rfl, trivial⟩, hx, m2, hb, ?_⟩
              have q1 : ((j : Int) = 0) ↔ j = 0 := by omega
              have q2 : ((j : Int) = ↑a.val.length - 1) ↔ j + 1 = a.val.length := by omega
              try simp only [q1, q2] at *
              unfold markB
              rw [hs6]
              simp [*]
             ·
              iterate 2 refine dk ?_
              refine dk' ?_
              refine da ?_
              refine D_end (?_)
              refine ⟨_, ⟨rfl, rfl, rfl, rfl, rfl, rfl, rfl, rfl, rfl, rfl, trivial⟩, hx, m2, hb, ?_⟩
              have q1 : ((j : Int) = 0) ↔ j = 0 := by omega
              have q2 : ((j : Int) = ↑a.val.length - 1) ↔ j + 1 = a.val.length := by omega
              try simp only [q1, q2] at *
              unfold markB
              rw [hs6]
              simp [*]
          ·
           iterate 6 refine dk ?_
           refine dk' ?_
           refine da ?_
           refine D_end (hK22 _ _ ?_)
           refine W_f rfl ?_
           refine wr ?_
           refine dm ?_
           refine dp (pv_fieldA (k := 1) (by kernel_rfl) rfl) ?_
           refine dq (lv_load (by kernel_rfl) rfl (m2.at rfl)) ?_
           refine dp (pv_lenS (by kernel_rfl) rfl) ?_
           refine dp (pv_sub rfl rfl (by unfold inI64; omega)) ?_
           refine dp (pv_eql rfl rfl) ?_
           refine dm ?_
           refine D_splitP 74 rfl (fun c11 => ?_) (fun c11 => ?_)
           ·
            refine dm ?_
            refine dp (pv_eqlB (b := 32) rfl rfl) ?_
            refine dk' ?_
            refine da ?_
            refine D_end (?_)
            refine ⟨_, ⟨rfl, rfl, rfl, rfl, rfl, rfl, rfl, rfl, rfl, rfl, trivial⟩, hx, m2, hb, ?_⟩
            have q1 : ((j : Int) = 0) ↔ j = 0 := by omega
            have q2 : ((j : Int) = ↑a.val.length - 1) ↔ j + 1 = a.val.length := by omega
            try simp only [q1, q2] at *
            unfold markB
            rw [hs6]
            simp [*]
           ·
            iterate 2 refine dk ?_
            refine dk' ?_
            refine da ?_
            refine D_end (?_)
            refine ⟨_, ⟨rfl, rfl, rfl, rfl, rfl, rfl, rfl, rfl, rfl, rfl, trivial⟩, hx, m2, hb, ?_⟩
            have q1 : ((j : Int) = 0) ↔ j = 0 := by omega
            have q2 : ((j : Int) = ↑a.val.length - 1) ↔ j + 1 = a.val.length := by omega
            try simp only [q1, q2] at *
            unfold markB
            rw [hs6]
            simp [*]
        ·
         intro X14 g14 w14 hF14
         revert hF14; revert g14; intro e hF14
         clear hx m2 hb
         obtain ⟨hx, m2, hb, hme⟩ := hF14
         refine W_cond rfl (fun c12 => ?_) (fun c12 => ?_)
         ·
          refine wr ?_
          refine D_callD rfl (by kernel_rfl) (writeB_w _ b1 _ _ 92 _ hb (by first | omega | (simp only [List.length_append, List.length_cons, List.length_nil]; omega)) hx.size) rfl (.inl rfl) (fun u15 w15 x15 hf15 => ?_)
          have hsz15 := hx.size
          replace m2 := m2.mod x15 (hb.sep m2 rfl rfl)
          replace hx := hx.own x15 (fun i hi => (by rcases hi with h | h; (omega); exact (hb.own.lt i h).1))
          obtain ⟨rfl, vb15, hb⟩ := hf15
          refine D_end (hK17 _ _ ?_)
          refine wr ?_
          refine dm ?_
          refine D_callD rfl (by kernel_rfl) (writeB_w _ b1 _ _ c _ hb (by first | omega | (simp only [List.length_append, List.length_cons, List.length_nil]; omega)) hx.size) rfl (.inl rfl) (fun u16 w16 x16 hf16 => ?_)
          have hsz16 := hx.size
          replace m2 := m2.mod x16 (hb.sep m2 rfl rfl)
          replace hx := hx.own x16 (fun i hi => (by rcases hi with h | h; (omega); exact (hb.own.lt i h).1))
          obtain ⟨rfl, vz, hb⟩ := hf16
          refine D_end (hK14 _ _ ?_)
          refine wr ?_
          refine dp (pv_add rfl rfl (by unfold inI64; omega)) ?_
          refine dm ?_
          refine D_end (?_)
          refine ⟨(j + 1, vz), ⟨rfl, rfl, rfl, rfl, rfl, rfl, rfl, rfl, trivial⟩, ⟨hx, m2, by omega, ?_⟩, by simp only []; omega⟩
          rw [told_next hj, escC]
          first
          | (rw [if_pos (by first | exact .inl c4 | exact .inr c5)]; simpa [List.append_assoc] using hb)
          | (rw [if_neg (by rintro (h | h); exact c4 h; exact c5 h)]; first | (rw [if_pos (by rw [hme]; assumption)]; simpa [List.append_assoc] using hb) | (rw [if_neg (by rw [hme]; simp [*])]; simpa [List.append_assoc] using hb))
         ·
          refine W_skip ?_
          refine hK17 _ _ ?_
          refine wr ?_
          refine dm ?_
          refine D_callD rfl (by kernel_rfl) (writeB_w _ b1 _ _ c _ hb (by first | omega | (simp only [List.length_append, List.length_cons, List.length_nil]; omega)) hx.size) rfl (.inl rfl) (fun u17 w17 x17 hf17 => ?_)
          have hsz17 := hx.size
          replace m2 := m2.mod x17 (hb.sep m2 rfl rfl)
          replace hx := hx.own x17 (fun i hi => (by rcases hi with h | h; (omega); exact (hb.own.lt i h).1))
          obtain ⟨rfl, vz, hb⟩ := hf17
          refine D_end (hK14 _ _ ?_)
          refine wr ?_
          refine dp (pv_add rfl rfl (by unfold inI64; omega)) ?_
          refine dm ?_
          refine D_end (?_)
          refine ⟨(j + 1, vz), ⟨rfl, rfl, rfl, rfl, rfl, rfl, rfl, rfl, trivial⟩, ⟨hx, m2, by omega, ?_⟩, by simp only []; omega⟩
          rw [told_next hj, escC]
          first
          | (rw [if_pos (by first | exact .inl c4 | exact .inr c5)]; simpa [List.append_assoc] using hb)
          | (rw [if_neg (by rintro (h | h); exact c4 h; exact c5 h)]; first | (rw [if_pos (by rw [hme]; assumption)]; simpa [List.append_assoc] using hb) | (rw [if_neg (by rw [hme]; simp [*])]; simpa [List.append_assoc] using hb))
     ·
      refine W_exit ?_
      refine hK7 _ _ ?_
      refine wr ?_
      refine dp (pv_add rfl rfl (by unfold inI64; omega)) ?_
      refine dm ?_
      refine D_end (?_)
      have e : j = a.val.length := by omega
      refine ⟨(k + 1, vb), ⟨rfl, rfl, rfl, rfl, rfl, trivial⟩, ⟨hx, by omega, ?_⟩, by simp only []; omega⟩
      rw [print_next hk]
      simpa [toldS, e, List.append_assoc] using hb
  ·
   refine W_exit ?_
   refine hK3 _ _ ?_
   refine W_seq fun K23 hK23 => ?_
   refine wr ?_
   refine D_callD rfl (by kernel_rfl) (string_w _ b1 vb _ _ hb g1) rfl (.inl rfl) (fun u18 w18 x18 hf18 => ?_)
   have hsz18 := hx.size
   replace hx := hx.own x18 (fun i hi => hi)
   obtain rfl := hf18
   refine da ?_
   refine D_end (hK23 _ _ ?_)
   refine W_ret ?_
   try dsimp only [then', inBlk, noGo]
   refine ro ?_
   have e : k = l.length := by omega
   subst e
   exact ⟨rfl, hx⟩

set_option maxRecDepth 100000 in
set_option maxHeartbeats 1000000 in
theorem norm_o (l : List Ava) (v : Value) (w : World) (hv : Arr Ava.cs 2 w v l) (hl : smallN l) :
  Calls Tryz.prog 45 [v].toArray w (Gives w (fun u w' => Own Ava.cs 2 93 w.heap.size w' u (l.map normA))) := by
 refine calls_W Tryz.func45 rfl rfl rfl (by kernel_rfl) ?_
 have hx := Ext.refl w
 have hl1 := hl.1
 refine W_seq fun K1 hK1 => ?_
 refine wr ?_
 refine da ?_
 refine D_end (hK1 _ _ ?_)
 refine W_seq fun K2 hK2 => ?_
 refine wr ?_
 refine da ?_
 refine D_end (hK2 _ _ ?_)
 refine W_seq fun K3 hK3 => ?_
 refine W_seq fun K4 hK4 => ?_
 refine wr ?_
 refine dm ?_
 refine dp (pv_lenV (e := 93) (k := 2) (by kernel_rfl) hv.sl rfl) ?_
 refine dm ?_
 refine D_end (hK4 _ _ ?_)
 refine W_block ?_
 refine W_loop (G := Nat × Value) (fun (k, vm) => [(2, .slice none 0 0), (3, vm), (7, v), (8, I ↑l.length), (9, I ↑k)]) (fun (k, vm) w' => Ext w w' ∧ k ≤ l.length ∧ Own Ava.cs 2 93 w.heap.size w' vm ((l.take k).map normA)) (fun (k, vm) => l.length - k) (0, .slice none 0 0) ?_ ?_ ?_
 ·
  exact ⟨rfl, rfl, rfl, rfl, rfl, trivial⟩
 ·
  exact ⟨hx, Nat.zero_le _, Own.nil⟩
 ·
  intro X1 g1 w1 hF1
  obtain ⟨k, vm⟩ := g1
  clear hx
  obtain ⟨hx, hk1, ho⟩ := hF1
  refine W_seq fun K5 hK5 => ?_
  refine wr ?_
  refine dp (pv_lss rfl rfl) ?_
  refine D_end (hK5 _ _ ?_)
  refine W_seq fun K6 hK6 => ?_
  refine W_if rfl (fun c1 => ?_) (fun c1 => ?_)
  ·
   obtain ⟨a, hk⟩ : ∃ a, l[k]? = some a := ⟨_, List.getElem?_eq_getElem (by omega)⟩
   have hsa := hl.at hk
   refine W_skip ?_
   refine hK6 _ _ ?_
   refine W_seq fun K7 hK7 => ?_
   refine W_block ?_
   refine W_seq fun K8 hK8 => ?_
   refine wr ?_
   refine dp (pv_idxA (e := 93) (k := 2) (by kernel_rfl) hv.sl rfl rfl (hv.lt hk)) ?_
   refine dq (lv_loadA (by kernel_rfl) rfl rfl ((hv.ext hx).row hk)) ?_
   refine D_alloc (cs := [S [], S []]) rfl (by kernel_rfl) RX.all (fun b1 w2 e1 x2 m1 => ?_)
   have g1 : w.heap.size ≤ b1 := by have := hx.size; omega
   have o1_ho : ∀ k, Value.ownBlock _ = some k → k < b1 := fun k hk => by have := (ho.lt k hk).2; omega
   replace ho := ho.ext x2
   replace hx := hx.trans x2
   refine D_store (v := ?v5) (vs := ?u5) rfl rfl ?h5 ?c5 ?s5 m1 ?o5 ?n5 (.inl rfl) (fun w3 x3 xs3 m1 => ?k5)
   case h5 => conv => lhs; whnf
   case c5 => exact rfl
   case s5 => kernel_rfl
   case o5 => exact Nat.le_of_ble_eq_true rfl
   case n5 => simp [Value.oneCell']
   try dsimp only [setAt, List.set, List.take, List.drop] at m1
   try replace ho := ho.mod x3 (by first | assumption | (intro k hk h; have h1 := (ho.lt k hk).1; have h2 : k = b1 := h; omega) | (intro k hk h; have h1 := o1_ho k hk; have h2 : k = b1 := h; omega) | (intro h; have h2 : _ = b1 := h; omega) | (intro hl h; have h1 := a1_ho hl; have h2 : _ = b1 := h; omega))
   replace hx := hx.own x3 (by intro i hi; have hi2 : i = b1 := hi; subst hi2; omega)
   refine D_end (hK8 _ _ ?_)
   refine W_seq fun K9 hK9 => ?_
   refine wr ?_
   refine dp (pv_fieldA (k := 0) (by kernel_rfl) rfl) ?_
   refine dq (lv_load (by kernel_rfl) rfl (m1.at rfl)) ?_
   refine D_callP rfl (by kernel_rfl) (fold_w a.typ _ (by omega)) rfl RX.all (fun w4 x4 => ?_)
   replace ho := ho.ext x4
   replace m1 := m1.ext x4
   replace hx := hx.trans x4
   refine dp (pv_fieldA (k := 0) (by kernel_rfl) rfl) ?_
   refine D_store1 (v := ?v6) rfl rfl ?h6 ?n6 (by kernel_rfl) m1 ?o6 (.inl rfl) (fun w5 x5 xs5 m1 => ?k6)
   case h6 => conv => lhs; whnf
   case n6 => first | rfl | exact isSl.one ho.sl | exact isSl.one hv.sl
   case o6 => exact Nat.le_of_ble_eq_true rfl
   try dsimp only [setAt, List.set, List.take, List.drop] at m1
   try replace ho := ho.mod x5 (by first | assumption | (intro k hk h; have h1 := (ho.lt k hk).1; have h2 : k = b1 := h; omega) | (intro k hk h; have h1 := o1_ho k hk; have h2 : k = b1 := h; omega) | (intro h; have h2 : _ = b1 := h; omega) | (intro hl h; have h1 := a1_ho hl; have h2 : _ = b1 := h; omega))
   replace hx := hx.own x5 (by intro i hi; have hi2 : i = b1 := hi; subst hi2; omega)
   refine D_end (hK9 _ _ ?_)
   refine W_cut (G := Unit) (fun uu => [(2, .slice none 0 0), (3, vm), (5, ptr b1 0), (7, v), (8, I ↑l.length), (9, I ↑k)]) (fun uu w' => Ext w w' ∧ Own Ava.cs 2 93 w.heap.size w' vm ((l.take k).map normA) ∧ Blk w' b1 [S (foldS a.typ), S (valS a.val)] 93) ?_ ?_
   ·
    refine W_seq fun K10 hK10 => ?_
    refine wr ?_
    refine dp (pv_fieldA (k := 1) (by kernel_rfl) rfl) ?_
    refine dq (lv_load (by kernel_rfl) rfl (m1.at rfl)) ?_
    refine D_callP rfl (by kernel_rfl) (fold_w a.val _ (by omega)) rfl RX.all (fun w6 x6 => ?_)
    replace ho := ho.ext x6
    replace m1 := m1.ext x6
    replace hx := hx.trans x6
    refine da ?_
    refine D_end (hK10 _ _ ?_)
    refine W_seq fun K11 hK11 => ?_
    refine wr ?_
    refine dm ?_
    refine dp (pv_sne rfl rfl) ?_
    refine dm ?_
    refine D_splitP 22 rfl (fun c2 => ?_) (fun c2 => ?_)
    ·
     iterate 3 refine dk ?_
     refine dk' ?_
     refine D_end (hK11 _ _ ?_)
     refine W_t rfl ?_
     refine wr ?_
     refine dm ?_
     refine dp (pv_fieldA (k := 1) (by kernel_rfl) rfl) ?_
     refine D_store1 (v := ?v12) rfl rfl ?h12 ?n12 (by kernel_rfl) m1 ?o12 (.inl rfl) (fun w7 x7 xs7 m1 => ?k12)
     case h12 => conv => lhs; whnf
     case n12 => first | rfl | exact isSl.one ho.sl | exact isSl.one hv.sl
     case o12 => exact Nat.le_of_ble_eq_true rfl
     try dsimp only [setAt, List.set, List.take, List.drop] at m1
     try replace ho := ho.mod x7 (by first | assumption | (intro k hk h; have h1 := (ho.lt k hk).1; have h2 : k = b1 := h; omega) | (intro k hk h; have h1 := o1_ho k hk; have h2 : k = b1 := h; omega) | (intro h; have h2 : _ = b1 := h; omega) | (intro hl h; have h1 := a1_ho hl; have h2 : _ = b1 := h; omega))
     replace hx := hx.own x7 (by intro i hi; have hi2 : i = b1 := hi; subst hi2; omega)
     refine D_end (?_)
     refine ⟨(), ⟨rfl, rfl, rfl, rfl, rfl, rfl, trivial⟩, hx, ho, ?_⟩
     unfold valS
     first | (rw [if_neg (fun h => absurd h.1 (by assumption))]; exact m1) | (rw [if_neg (fun h => absurd (by assumption) h.2)]; exact m1) | (rw [if_pos ⟨by first | assumption | exact Decidable.not_not.1 (by assumption), by assumption⟩]; exact m1)
    ·
     refine dp (pv_fieldA (k := 1) (by kernel_rfl) rfl) ?_
     refine dq (lv_load (by kernel_rfl) rfl (m1.at rfl)) ?_
     refine dp (pv_seq rfl rfl) ?_
     refine dk' ?_
     refine D_end (hK11 _ _ ?_)
     refine W_if rfl (fun c3 => ?_) (fun c3 => ?_)
     ·
      refine wr ?_
      refine dm ?_
      refine dp (pv_fieldA (k := 1) (by kernel_rfl) rfl) ?_
      refine D_store1 (v := ?v15) rfl rfl ?h15 ?n15 (by kernel_rfl) m1 ?o15 (.inl rfl) (fun w8 x8 xs8 m1 => ?k15)
      case h15 => conv => lhs; whnf
      case n15 => first | rfl | exact isSl.one ho.sl | exact isSl.one hv.sl
      case o15 => exact Nat.le_of_ble_eq_true rfl
      try dsimp only [setAt, List.set, List.take, List.drop] at m1
      try replace ho := ho.mod x8 (by first | assumption | (intro k hk h; have h1 := (ho.lt k hk).1; have h2 : k = b1 := h; omega) | (intro k hk h; have h1 := o1_ho k hk; have h2 : k = b1 := h; omega) | (intro h; have h2 : _ = b1 := h; omega) | (intro hl h; have h1 := a1_ho hl; have h2 : _ = b1 := h; omega))
      replace hx := hx.own x8 (by intro i hi; have hi2 : i = b1 := hi; subst hi2; omega)
      refine D_end (?_)
      refine ⟨(), ⟨rfl, rfl, rfl, rfl, rfl, rfl, trivial⟩, hx, ho, ?_⟩
      unfold valS
      first | (rw [if_neg (fun h => absurd h.1 (by assumption))]; exact m1) | (rw [if_neg (fun h => absurd (by assumption) h.2)]; exact m1) | (rw [if_pos ⟨by first | assumption | exact Decidable.not_not.1 (by assumption), by assumption⟩]; exact m1)
     ·
      refine wr ?_
      refine dp (pv_fieldA (k := 1) (by kernel_rfl) rfl) ?_
      refine D_store1 (v := ?v16) rfl rfl ?h16 ?n16 (by kernel_rfl) m1 ?o16 (.inl rfl) (fun w9 x9 xs9 m1 => ?k16)
      case h16 => conv => lhs; whnf
      case n16 => first | rfl | exact isSl.one ho.sl | exact isSl.one hv.sl
      case o16 => exact Nat.le_of_ble_eq_true rfl
      try dsimp only [setAt, List.set, List.take, List.drop] at m1
      try replace ho := ho.mod x9 (by first | assumption | (intro k hk h; have h1 := (ho.lt k hk).1; have h2 : k = b1 := h; omega) | (intro k hk h; have h1 := o1_ho k hk; have h2 : k = b1 := h; omega) | (intro h; have h2 : _ = b1 := h; omega) | (intro hl h; have h1 := a1_ho hl; have h2 : _ = b1 := h; omega))
      replace hx := hx.own x9 (by intro i hi; have hi2 : i = b1 := hi; subst hi2; omega)
      refine D_end (?_)
      refine ⟨(), ⟨rfl, rfl, rfl, rfl, rfl, rfl, trivial⟩, hx, ho, ?_⟩
      unfold valS
      first | (rw [if_neg (fun h => absurd h.1 (by assumption))]; exact m1) | (rw [if_neg (fun h => absurd (by assumption) h.2)]; exact m1) | (rw [if_pos ⟨by first | assumption | exact Decidable.not_not.1 (by assumption), by assumption⟩]; exact m1)
   ·
    intro X10 g10 w10 hF10
    revert hF10; revert g10; intro uu hF10
    clear hx ho m1
    obtain ⟨hx, ho, m1⟩ := hF10
    refine wr ?_
    refine dm ?_
    refine dq (lv_loadA (k := 2) (by kernel_rfl) rfl rfl m1.row) ?_
    refine D_lit (e := 93) (sz := 2) (zs := [S [], S []]) (pv := [(0, .agg ⟨[?a18_0, ?a18_1]⟩)]) (cs := [?a18_0, ?a18_1]) rfl (by kernel_rfl) ⟨rfl, rfl⟩ (by kernel_rfl) rfl ?h18 ?f18 RX.all (fun b2 w11 e2 x11 m2 => ?k18)
    case h18 => refine ⟨rfl, ?_, trivial⟩ <;> (conv => lhs; whnf)
    case f18 => rfl
    have g2 : w.heap.size ≤ b2 := by have := hx.size; omega
    have n2_1 : b1 < b2 := by have := m1.lt; omega
    have o2_ho : ∀ k, Value.ownBlock _ = some k → k < b2 := fun k hk => by have := (ho.lt k hk).2; omega
    replace ho := ho.ext x11
    replace m1 := m1.ext x11
    replace hx := hx.trans x11
    refine D_append (lx := [⟨foldS a.typ, valS a.val⟩]) (e := 93) (sz := 2) (by' := 32) rfl (by kernel_rfl) (by kernel_rfl) (by intro x; rfl) ho (m2.arr (enc := Ava.cs) (sz := 2) (l := [⟨foldS a.typ, valS a.val⟩]) rfl (by intro x; rfl) rfl (Nat.le_of_ble_eq_true rfl)) rfl rfl (by intro x _ u hu; simp at hu; rcases hu with rfl | rfl <;> rfl) (by simp; omega) (by decide) hx.size (.inl rfl) (fun vm2 w12 ho_n x12 => ?_)
    try replace m1 := m1.mod x12 (by first | (intro h; have h2 : b1 = b1 := Option.some.inj h; omega) | (intro h; have h1 := (ho.lt _ h).1; omega) | (intro h; have h1 := o1_ho _ h; omega))
    replace hx := hx.own x12 (fun i hi => (ho.lt i hi).1)
    replace ho := ho_n
    clear m2
    refine da ?_
    refine D_end (hK7 _ _ ?_)
    refine wr ?_
    refine dp (pv_add rfl rfl (by unfold inI64; omega)) ?_
    refine dm ?_
    refine D_end (?_)
    refine ⟨(k + 1, vm2), ⟨rfl, rfl, rfl, rfl, rfl, trivial⟩, ⟨hx, by omega, ?_⟩, by simp only []; omega⟩
    rw [map_take hk]; exact ho
  ·
   refine W_exit ?_
   refine hK3 _ _ ?_
   refine W_seq fun K12 hK12 => ?_
   refine wr ?_
   refine dm ?_
   refine da ?_
   refine D_end (hK12 _ _ ?_)
   refine W_ret ?_
   try dsimp only [then', inBlk, noGo]
   refine ro ?_
   rw [List.take_of_length_le (by omega)] at ho
   exact ⟨_, rfl, hx, ho⟩

theorem norm_w (l : List Ava) (v : Value) (w : World) (hv : Arr Ava.cs 2 w v l) (hl : smallN l) : Calls Tryz.prog 45 [v].toArray w (Gives w (fun u w' => Arr Ava.cs 2 w' u (l.map normA))) :=
  (norm_o l v w hv hl).mono fun e w' ⟨u, h1, h2, h3⟩ => ⟨u, h1, h2, h3.arr (by intro x; rfl)⟩

end Go.Proofs.YtdagdhjheibgnaaGreatDoor
