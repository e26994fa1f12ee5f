/-
  Walks.
-/
import Derived.Test.YtdagdhjheibgnaaGreatDoorChecked
import Derived.Test.YtdagdhjheibgnaaGreatDoorSpMem
import Derived.KernelRfl
import Derived.Test.YtdagdhjheibgnaaGreatDoorEvJ
namespace Go.Proofs.YtdagdhjheibgnaaGreatDoor
open Go.Vc Go.Sp
attribute [local irreducible] W XW Dw DwT
set_option linter.unusedVariables false
set_option linter.unusedSimpArgs false

/-- A filter where it lies, with kids as deep as 'n'; texts of at most 'b'. -/
def FAt (b : Nat) (w : World) : Nat → FilV → Prop
  | 0, _ => False
  | n + 1, c => ∃ (k : Int) (t v : Str) (subs : List Str) (l : List FilV), c.k = I k ∧ c.t = S t ∧ c.v = S v ∧ Arr sEnc 1 w c.s subs ∧ Arr FilV.cs 5 w c.c l ∧ t.length ≤ b ∧ v.length ≤ b ∧ (∀ p ∈ subs, p.length ≤ b) ∧ subs.length ≤ 140737488355328 ∧ l.length ≤ 140737488355328 ∧ ∀ x ∈ l, FAt b w n x
theorem mem_takeS {α : Type} {l : List α} {k : Nat} {x y : α} (h : l[k]? = some x) (hy : y ∈ l.take (k + 1)) : y ∈ l.take k ∨ y = x := by
  rw [take_snocS h] at hy
  rcases List.mem_append.1 hy with h | h
  · exact .inl h
  · exact .inr (List.mem_singleton.1 h)
def valsE (l : List AttrV) (typ : Str) : List Str := l.flatMap fun a => if foldS a.typ = foldS typ then a.vals else []
theorem valsE_yes {l : List AttrV} {typ : Str} {k : Nat} {a : AttrV} (h : l[k]? = some a) (e : foldS a.typ = foldS typ) : valsE (l.take (k + 1)) typ = valsE (l.take k) typ ++ a.vals := by
  unfold valsE; rw [take_snocS h, List.flatMap_append]; simp [e]
theorem valsE_no {l : List AttrV} {typ : Str} {k : Nat} {a : AttrV} (h : l[k]? = some a) (e : ¬ foldS a.typ = foldS typ) : valsE (l.take (k + 1)) typ = valsE (l.take k) typ := by
  unfold valsE; rw [take_snocS h, List.flatMap_append]; simp [e]
theorem valsE_len (typ : Str) : ∀ l : List AttrV, (valsE l typ).length ≤ wAttrs (l.map AttrV.toA)
  | [] => by simp [valsE]
  | a :: l => by
    have ih := valsE_len typ l
    have h1 : a.vals.length ≤ wVals a.vals := sum_len (fun _ => by omega) a.vals
    have h2 : wAttrs ((a :: l).map AttrV.toA) = 1 + a.typ.length + wVals a.vals + wAttrs (l.map AttrV.toA) := by simp [wAttrs, wAttr, AttrV.toA]
    have h3 : (valsE (a :: l) typ).length ≤ a.vals.length + (valsE l typ).length := by
      unfold valsE; rw [List.flatMap_cons, List.length_append]; split <;> simp
    omega
theorem valsE_mem {l : List AttrV} {typ x : Str} (h : x ∈ valsE l typ) : ∃ a ∈ l, x ∈ a.vals := by
  unfold valsE at h
  obtain ⟨a, ha, hx⟩ := List.mem_flatMap.1 h
  split at hx
  · exact ⟨a, ha, hx⟩
  · cases hx
theorem valsE_small {l : List AttrV} {typ x : Str} (h : x ∈ valsE l typ) : x.length ≤ wAttrs (l.map AttrV.toA) := by
  obtain ⟨a, ha, hx⟩ := valsE_mem h
  have h1 : 1 + x.length ≤ wVals a.vals := sum_mem (f := fun v : Str => 1 + v.length) hx
  have h2 : wAttr a.toA ≤ wAttrs (l.map AttrV.toA) := sum_mem (List.mem_map.2 ⟨a, ha, rfl⟩)
  have h3 : wAttr a.toA = 1 + a.typ.length + wVals a.vals := rfl
  omega
theorem val_mem {l : List AttrV} {k j : Nat} {a : AttrV} {v : Str} (hk : l[k]? = some a) (hj : a.vals[j]? = some v) : v ∈ valsE l a.typ := by
  unfold valsE
  exact List.mem_flatMap.2 ⟨a, List.mem_of_getElem? hk, by rw [if_pos rfl]; exact List.mem_of_getElem? hj⟩
/-- A filter as a tree. -/
inductive Flt where
  | mk (k : Int) (t v : Str) (subs : List Str) (kids : List Flt)
def FRep (w : World) : Nat → FilV → Flt → Prop
  | 0, _, _ => False
  | n + 1, c, .mk k t v subs kids => c.k = I k ∧ c.t = S t ∧ c.v = S v ∧ Arr sEnc 1 w c.s subs ∧ subs.length ≤ 140737488355328 ∧ ∃ l : List FilV, Arr FilV.cs 5 w c.c l ∧ l.length = kids.length ∧ l.length ≤ 140737488355328 ∧ ∀ (i : Nat) (x : FilV) (f : Flt), l[i]? = some x → kids[i]? = some f → FRep w n x f
def okF (b : Nat) : Nat → Flt → Prop
  | 0, _ => False
  | n + 1, .mk _ t v subs kids => t.length ≤ b ∧ v.length ≤ b ∧ (∀ p ∈ subs, p.length ≤ b) ∧ ∀ f ∈ kids, okF b n f
def nodesF : Nat → Flt → Nat
  | 0, _ => 0
  | n + 1, .mk _ _ _ _ kids => 1 + (kids.map (nodesF n)).sum
def subsM (l : List Str) : Bool := decide (2 ≤ l.length) && decide (l.length ≤ 16) && !l.any (fun s => decide (256 < s.length)) && !((l.take (l.length - 1)).drop 1).any (fun s => decide (s = [])) && l.any (fun s => decide (s ≠ []))
def leafM (k : Int) (t v : Str) (subs : List Str) : Bool :=
  if k = 3 ∨ k = 5 ∨ k = 6 then decide (subs.length = 0) && typeS t && decide (v.length ≤ 256)
  else if k = 4 then decide (v = []) && typeS t && subsM subs
  else if k = 7 then decide (v = []) && decide (subs.length = 0) && typeS t else false
def topM (k : Int) (t v : Str) (ns nk : Nat) : Bool := decide (t = []) && decide (v = []) && decide (ns = 0) && decide (1 ≤ nk) && (decide (k ≠ 2) || decide (nk ≤ 1))
def headM (k : Int) (t v : Str) (subs : List Str) (nk : Nat) : Bool := if k = 0 ∨ k = 1 ∨ k = 2 then topM k t v subs.length nk else decide (nk = 0) && leafM k t v subs
def oneF : Nat → Int → Flt → Bool
  | 0, _, _ => false
  | n + 1, d, .mk k t v subs kids => !decide (16 < d) && (headM k t v subs kids.length && kids.all (oneF n (d + 1)))
def isF (m : Nat) (f : Flt) : Bool := oneF m 1 f && decide (nodesF m f ≤ 64)
def sayM (k : Int) (l : List Int) : Int := if k = 0 then andV l else if k = 1 then orV l else notV (l.headD 2)
def evalF (at' : List AttrV) : Nat → Flt → Int
  | 0, _ => 2
  | n + 1, .mk k t v subs kids => if kids.length = 0 then itemM k t v subs (valsE at' t) else sayM k (kids.map (evalF at' n))
def evF (at' : List AttrV) (m : Nat) (f : Flt) : Int := if isF m f = true then evalF at' m f else 2
theorem choose_list {α β : Type} {p : α → β → Prop} : ∀ l : List α, (∀ x ∈ l, ∃ y, p x y) → ∃ ys : List β, ys.length = l.length ∧ ∀ (i : Nat) (x : α) (y : β), l[i]? = some x → ys[i]? = some y → p x y
  | [], _ => ⟨[], rfl, fun i x y h => by simp at h⟩
  | a :: l, h => by
    obtain ⟨y, hy⟩ := h a List.mem_cons_self
    obtain ⟨ys, hl, hp⟩ := choose_list l (fun x hx => h x (List.mem_cons_of_mem _ hx))
    refine ⟨y :: ys, by simp [hl], fun i x z h1 h2 => ?_⟩
    cases i with
    | zero => simp only [List.getElem?_cons_zero, Option.some.injEq] at h1 h2; subst h1; subst h2; exact hy
    | succ i => simp only [List.getElem?_cons_succ] at h1 h2; exact hp i x z h1 h2
theorem pair_at {α β : Type} {l : List α} {m : List β} (hl : l.length = m.length) {i : Nat} {x : α} (h : l[i]? = some x) : ∃ y, m[i]? = some y := by
  obtain ⟨h1, _⟩ := List.getElem?_eq_some_iff.1 h
  exact ⟨m[i], List.getElem?_eq_getElem (by omega)⟩
theorem rep_of_at {b : Nat} {w : World} : ∀ (n : Nat) (c : FilV), FAt b w n c → b ≤ 140737488355328 → ∃ f, FRep w n c f ∧ okF b n f
  | 0, _, h, _ => h.elim
  | n + 1, c, h, hb => by
    obtain ⟨k, t, v, subs, l, e1, e2, e3, hs, hk, ht, hv, hsb, hsl, hll, hkids⟩ := h
    obtain ⟨ys, hyl, hy⟩ := choose_list (p := fun x f => FRep w n x f ∧ okF b n f) l (fun x hx => rep_of_at n x (hkids x hx) hb)
    refine ⟨.mk k t v subs ys, ⟨e1, e2, e3, hs, hsl, l, hk, hyl.symm, hll, fun i x f h1 h2 => (hy i x f h1 h2).1⟩, ht, hv, hsb, fun f hf => ?_⟩
    obtain ⟨i, hi⟩ := List.mem_iff_getElem?.1 hf
    obtain ⟨x, hx⟩ := pair_at hyl hi
    exact (hy i x f hx hi).2
theorem FRep.ext {w w' : World} (m : Ext w w') : ∀ {n : Nat} {c : FilV} {f : Flt}, FRep w n c f → FRep w' n c f
  | 0, _, _, h => h.elim
  | n + 1, c, .mk k t v subs kids, h => by
    obtain ⟨e1, e2, e3, hs, hsl, l, hk, hl, hll, hkids⟩ := h
    exact ⟨e1, e2, e3, hs.ext m, hsl, l, hk.ext m, hl, hll, fun i x f h1 h2 => (hkids i x f h1 h2).ext m⟩
theorem FRep.far {w w' : World} (m : Mod (geB w.heap.size) w w') : ∀ {n : Nat} {c : FilV} {f : Flt}, FRep w n c f → FRep w' n c f
  | 0, _, _, h => h.elim
  | n + 1, c, .mk k t v subs kids, h => by
    obtain ⟨e1, e2, e3, hs, hsl, l, hk, hl, hll, hkids⟩ := h
    exact ⟨e1, e2, e3, hs.far (by decide) m, hsl, l, hk.far (by decide) m, hl, hll, fun i x f h1 h2 => (hkids i x f h1 h2).far m⟩
theorem FRep.up {w : World} : ∀ {n : Nat} {c : FilV} {f : Flt}, FRep w n c f → ∀ m, n ≤ m → FRep w m c f
  | 0, _, _, h, _, _ => h.elim
  | n + 1, c, .mk k t v subs kids, h, m, hm => by
    obtain ⟨e1, e2, e3, hs, hsl, l, hk, hl, hll, hkids⟩ := h
    obtain ⟨m, rfl⟩ : ∃ m', m = m' + 1 := ⟨m - 1, by omega⟩
    exact ⟨e1, e2, e3, hs, hsl, l, hk, hl, hll, fun i x f h1 h2 => (hkids i x f h1 h2).up m (by omega)⟩
theorem okF.up {b : Nat} : ∀ {n : Nat} {f : Flt}, okF b n f → ∀ m, n ≤ m → okF b m f
  | 0, _, h, _, _ => h.elim
  | n + 1, .mk k t v subs kids, h, m, hm => by
    obtain ⟨m, rfl⟩ : ∃ m', m = m' + 1 := ⟨m - 1, by omega⟩
    exact ⟨h.1, h.2.1, h.2.2.1, fun f hf => (h.2.2.2 f hf).up m (by omega)⟩
theorem oneF_less : ∀ {n : Nat} {d d' : Int} {f : Flt}, oneF n d f = true → d' ≤ d → oneF n d' f = true
  | 0, _, _, _, h, _ => by cases h
  | n + 1, d, d', .mk k t v subs kids, h, hd => by
    unfold oneF at h ⊢
    rw [Bool.and_eq_true, Bool.and_eq_true, List.all_eq_true] at h ⊢
    have h1 : ¬ 16 < d := by simpa using h.1
    exact ⟨by simp; omega, h.2.1, fun f hf => oneF_less (h.2.2 f hf) (by omega)⟩
theorem some_in (b : Bool) : someV b = 0 ∨ someV b = 1 ∨ someV b = 2 := by cases b <;> simp [someV]
theorem item_in (k : Int) (t v : Str) (subs vals : List Str) : itemM k t v subs vals = 0 ∨ itemM k t v subs vals = 1 ∨ itemM k t v subs vals = 2 := by
  unfold itemM
  repeat' split
  all_goals first
    | exact some_in _
    | simp
theorem and_in (l : List Int) : andV l = 0 ∨ andV l = 1 ∨ andV l = 2 := by
  unfold andV
  repeat' split
  all_goals simp
theorem or_in (l : List Int) : orV l = 0 ∨ orV l = 1 ∨ orV l = 2 := by
  unfold orV
  repeat' split
  all_goals simp
theorem say_in (k : Int) (l : List Int) : sayM k l = 0 ∨ sayM k l = 1 ∨ sayM k l = 2 := by
  unfold sayM; repeat' split
  · exact and_in l
  · exact or_in l
  · exact not_in _
theorem evalF_in (at' : List AttrV) : ∀ (n : Nat) (f : Flt), evalF at' n f = 0 ∨ evalF at' n f = 1 ∨ evalF at' n f = 2
  | 0, _ => by simp [evalF]
  | n + 1, .mk k t v subs kids => by
    unfold evalF; split
    · exact item_in ..
    · exact say_in ..
theorem evalsF_in (at' : List AttrV) (n : Nat) (l : List Flt) : ∀ x ∈ l.map (evalF at' n), x = 0 ∨ x = 1 ∨ x = 2 := fun x hx => by
  obtain ⟨f, _, rfl⟩ := List.mem_map.1 hx
  exact evalF_in at' n f
theorem andV_one {x : Int} (h : x = 0 ∨ x = 1 ∨ x = 2) : andV [x] = x := by rcases h with rfl | rfl | rfl <;> decide
theorem orV_one {x : Int} (h : x = 0 ∨ x = 1 ∨ x = 2) : orV [x] = x := by rcases h with rfl | rfl | rfl <;> decide
theorem notV_two {x : Int} (h : x = 0 ∨ x = 1 ∨ x = 2) : notV (notV x) = x := by rcases h with rfl | rfl | rfl <;> decide
theorem nodesF_pos {d : Int} : ∀ {n : Nat} {f : Flt}, oneF n d f = true → 1 ≤ nodesF n f
  | 0, _, h => by cases h
  | n + 1, .mk k t v subs kids, _ => by unfold nodesF; omega
theorem okF_mk {b m : Nat} {k : Int} {t v : Str} {subs : List Str} {kids : List Flt} (h1 : t.length ≤ b) (h2 : v.length ≤ b) (h3 : ∀ p ∈ subs, p.length ≤ b) (h4 : ∀ f ∈ kids, okF b m f) : okF b (m + 1) (.mk k t v subs kids) := ⟨h1, h2, h3, h4⟩
def HeavyQ (w : World) (m : Nat) (n : Int) (f : Flt) : Ending → World → Prop := Gives w (fun u _ => ∃ r : Int, u = I r ∧ -1000000000000000 ≤ r ∧ r ≤ n ∧ (0 ≤ r → r + 5 * (nodesF m f : Int) ≤ n ∧ okF 1000 m f))
theorem FRep.subs {w : World} {n : Nat} {c : FilV} {k : Int} {t v : Str} {subs : List Str} {kids : List Flt} (h : FRep w n c (.mk k t v subs kids)) : Arr sEnc 1 w c.s subs := by
  cases n with
  | zero => exact h.elim
  | succ n => exact h.2.2.2.1
theorem okF.here {b n : Nat} {k : Int} {t v : Str} {subs : List Str} {kids : List Flt} (h : okF b n (.mk k t v subs kids)) : t.length ≤ b ∧ v.length ≤ b ∧ ∀ p ∈ subs, p.length ≤ b := by
  cases n with
  | zero => exact h.elim
  | succ n => exact ⟨h.1, h.2.1, h.2.2.1⟩
theorem sum_next {kids : List Flt} {g : Flt → Nat} {i : Nat} {f : Flt} (h : kids[i]? = some f) : ((kids.take (i + 1)).map g).sum = ((kids.take i).map g).sum + g f := by
  rw [take_snocS h, List.map_append, List.sum_append]; simp
theorem all_next {kids : List Flt} {g : Flt → Bool} {i : Nat} {f : Flt} (h : kids[i]? = some f) : (kids.take (i + 1)).all g = ((kids.take i).all g && g f) := by
  rw [take_snocS h, List.all_append]; simp

set_option maxRecDepth 100000 in
set_option maxHeartbeats 1000000 in
theorem heavy17_w (m : Nat) (k : Int) (t v : Str) (subs : List Str) (kids : List Flt) (l : List FilV) (vs vk : Value) (w : World) (hs : Arr sEnc 1 w vs subs) (hk0 : Arr FilV.cs 5 w vk l) (hlk : l.length = kids.length) (hsl : subs.length ≤ 140737488355328) (hll : l.length ≤ 140737488355328) (n : Int) (ht : t.length ≤ 140737488355328) (hv : v.length ≤ 140737488355328) (hsb : ∀ p ∈ subs, p.length ≤ 140737488355328) (ih : ∀ (i : Nat) (c : FilV) (f : Flt), l[i]? = some c → kids[i]? = some f → ∀ (w1 : World) (n1 : Int), Ext w w1 → 0 ≤ n1 → n1 ≤ 1000 → Calls Tryz.prog 7 [.agg ⟨c.cs⟩, I n1].toArray w1 (HeavyQ w1 m n1 f)) (hn : 0 ≤ n) (hn2 : n ≤ 1000) :
  Calls Tryz.prog 7 [.agg ⟨[I k, S t, S v, vs, vk]⟩, I n].toArray w (HeavyQ w (m + 1) n (.mk k t v subs kids)) := by
 refine calls_W Tryz.func7 rfl rfl rfl (by kernel_rfl) ?_
 have hx := Ext.refl w
 refine W_seq fun K1 hK1 => ?_
 refine wr ?_
 refine D_box rfl rfl rfl RX.all (fun b1 w1 e1 x1 m1 => ?_)
 have g1 : w.heap.size ≤ b1 := by have := hx.size; omega
 replace hx := hx.trans x1
 refine da ?_
 refine D_end (hK1 _ _ ?_)
 refine W_seq fun K2 hK2 => ?_
 refine wr ?_
 refine dm ?_
 refine dp (pv_sub rfl rfl (by unfold inI64; omega)) ?_
 refine dp (pv_fieldA (k := 1) (by kernel_rfl) rfl) ?_
 refine dq (lv_load (by kernel_rfl) rfl (m1.at rfl)) ?_
 refine dp (pv_lenS (by kernel_rfl) rfl) ?_
 refine dp (pv_sub rfl rfl (by unfold inI64; omega)) ?_
 refine dp (pv_fieldA (k := 2) (by kernel_rfl) rfl) ?_
 refine dq (lv_load (by kernel_rfl) rfl (m1.at rfl)) ?_
 refine dp (pv_lenS (by kernel_rfl) rfl) ?_
 refine dp (pv_sub rfl rfl (by unfold inI64; omega)) ?_
 refine da ?_
 refine D_end (hK2 _ _ ?_)
 refine W_seq fun K3 hK3 => ?_
 refine W_seq fun K4 hK4 => ?_
 refine wr ?_
 refine da ?_
 refine D_end (hK4 _ _ ?_)
 refine W_block ?_
 refine W_loop (G := Nat × Int) (fun (j, n1) => [(1, I n1), (2, ptr b1 0), (4, I 0), (5, I ↑j)]) (fun (j, n1) w' => Ext w w' ∧ Blk w' b1 [I k, S t, S v, vs, vk] 25 ∧ j ≤ subs.length ∧ -500000000000000 ≤ n1 ∧ n1 ≤ n ∧ (0 ≤ n1 → n1 + 5 ≤ n ∧ t.length ≤ 1000 ∧ v.length ≤ 1000 ∧ ∀ p ∈ subs.take j, p.length ≤ 1000)) (fun (j, n1) => subs.length - j) (0, n - 5 - t.length - v.length) ?_ ?_ ?_
 ·
  exact ⟨rfl, rfl, rfl, rfl, trivial⟩
 ·
  exact ⟨hx, m1, Nat.zero_le _, by omega, by omega, fun h => ⟨by omega, by omega, by omega, fun y hy => by simp at hy⟩⟩
 ·
  intro X2 g2 w2 hF2
  obtain ⟨j, n1⟩ := g2
  clear hx m1
  obtain ⟨hx, m1, hj1, hlo1, hhi1, hL1⟩ := hF2
  refine W_seq fun K5 hK5 => ?_
  refine W_seq fun K6 hK6 => ?_
  refine wr ?_
  refine dm ?_
  refine dp (pv_fieldA (k := 3) (by kernel_rfl) rfl) ?_
  refine dq (lv_load (by kernel_rfl) rfl (m1.at rfl)) ?_
  refine dp (pv_lenV (e := 9) (k := 1) (by kernel_rfl) hs.sl rfl) ?_
  refine dp (pv_lss rfl rfl) ?_
  refine dm ?_
  refine D_splitP 22 rfl (fun c1 => ?_) (fun c1 => ?_)
  ·
   refine dm ?_
   refine dp (pv_geq rfl rfl) ?_
   refine dk' ?_
   refine D_end (hK6 _ _ ?_)
   refine W_if rfl (fun c2 => ?_) (fun c2 => ?_)
   ·
    obtain ⟨p, hj⟩ : ∃ p, subs[j]? = some p := ⟨_, List.getElem?_eq_getElem (by omega)⟩
    have hp := hsb p (List.mem_of_getElem? hj)
    refine W_skip ?_
    refine hK5 _ _ ?_
    refine W_seq fun K7 hK7 => ?_
    refine W_block ?_
    refine wr ?_
    refine dm ?_
    refine dp (pv_sub rfl rfl (by unfold inI64; omega)) ?_
    refine dp (pv_fieldA (k := 3) (by kernel_rfl) rfl) ?_
    refine dq (lv_load (by kernel_rfl) rfl (m1.at rfl)) ?_
    refine dm ?_
    refine dp (pv_idxA (e := 9) (k := 1) (by kernel_rfl) hs.sl rfl rfl (hs.lt hj)) ?_
    refine dq (lv_load (by kernel_rfl) rfl (((hs.ext hx).row hj).at0 rfl)) ?_
    refine dp (pv_lenS (by kernel_rfl) rfl) ?_
    refine dp (pv_sub rfl rfl (by unfold inI64; omega)) ?_
    refine da ?_
    refine D_end (hK7 _ _ ?_)
    refine wr ?_
    refine dm ?_
    refine dp (pv_add rfl rfl (by unfold inI64; omega)) ?_
    refine da ?_
    refine D_end (?_)
    refine ⟨(j + 1, n1 - 1 - p.length), ⟨rfl, rfl, rfl, rfl, trivial⟩, ⟨hx, m1, by omega, by omega, by omega, fun h => ⟨by have := (hL1 (by omega)).1; omega, (hL1 (by omega)).2.1, (hL1 (by omega)).2.2.1, fun y hy => (mem_takeS hj hy).elim ((hL1 (by omega)).2.2.2 y) (fun e => by rw [e]; omega)⟩⟩, by simp only []; omega⟩
   ·
    refine W_exit ?_
    refine hK3 _ _ ?_
    refine W_seq fun K8 hK8 => ?_
    refine W_seq fun K9 hK9 => ?_
    refine wr ?_
    refine da ?_
    refine D_end (hK9 _ _ ?_)
    refine W_block ?_
    refine W_loop (G := Nat × Int) (fun (i, n2) => [(1, I n2), (2, ptr b1 0), (4, I 0), (6, I ↑i)]) (fun (i, n2) w' => Ext w w' ∧ Blk w' b1 [I k, S t, S v, vs, vk] 25 ∧ i ≤ l.length ∧ -1000000000000000 ≤ n2 ∧ n2 ≤ n1 ∧ (0 ≤ n2 → n2 + 5 * (1 + ((((kids.take i).map (nodesF m)).sum : Nat) : Int)) ≤ n ∧ (t.length ≤ 1000 ∧ v.length ≤ 1000 ∧ ∀ p ∈ subs, p.length ≤ 1000) ∧ ∀ f ∈ kids.take i, okF 1000 m f)) (fun (i, n2) => l.length - i) (0, n1) ?_ ?_ ?_
    ·
     exact ⟨rfl, rfl, rfl, rfl, trivial⟩
    ·
     exact ⟨hx, m1, Nat.zero_le _, by omega, by omega, fun h => by omega⟩
    ·
     intro X3 g3 w3 hF3
     obtain ⟨i, n2⟩ := g3
     clear hx m1
     obtain ⟨hx, m1, hi1, hlo2, hhi2, hL2⟩ := hF3
     refine W_seq fun K10 hK10 => ?_
     refine W_seq fun K11 hK11 => ?_
     refine wr ?_
     refine dm ?_
     refine dp (pv_fieldA (k := 4) (by kernel_rfl) rfl) ?_
     refine dq (lv_load (by kernel_rfl) rfl (m1.at rfl)) ?_
     refine dp (pv_lenV (e := 25) (k := 5) (by kernel_rfl) hk0.sl rfl) ?_
     refine dp (pv_lss rfl rfl) ?_
     refine dm ?_
     refine D_splitP 42 rfl (fun c3 => ?_) (fun c3 => ?_)
     ·
      refine dm ?_
      refine dp (pv_geq rfl rfl) ?_
      refine dk' ?_
      refine D_end (hK11 _ _ ?_)
      refine W_if rfl (fun c4 => ?_) (fun c4 => ?_)
      ·
       obtain ⟨c, hi⟩ : ∃ c, l[i]? = some c := ⟨_, List.getElem?_eq_getElem (by omega)⟩
       obtain ⟨f, hif⟩ := pair_at hlk hi
       
       refine W_skip ?_
       refine hK10 _ _ ?_
       refine W_seq fun K12 hK12 => ?_
       refine W_block ?_
       refine wr ?_
       refine dp (pv_fieldA (k := 4) (by kernel_rfl) rfl) ?_
       refine dq (lv_load (by kernel_rfl) rfl (m1.at rfl)) ?_
       refine dm ?_
       refine dp (pv_idxA (e := 25) (k := 5) (by kernel_rfl) hk0.sl rfl rfl (hk0.lt hi)) ?_
       refine dq (lv_loadA (by kernel_rfl) rfl rfl ((hk0.ext hx).row hi)) ?_
       refine dm ?_
       refine D_callG rfl (by kernel_rfl) (ih i c f hi hif _ n2 hx (by omega) (by omega)) rfl RX.all (fun u4 w4 x4 hf4 => ?_)
       have hsz4 := hx.size
       replace m1 := m1.ext x4
       replace hx := hx.trans x4
       obtain ⟨r, rfl, hr1, hr2, hr3⟩ := hf4
       refine da ?_
       refine D_end (hK12 _ _ ?_)
       refine wr ?_
       refine dm ?_
       refine dp (pv_add rfl rfl (by unfold inI64; omega)) ?_
       refine da ?_
       refine D_end (?_)
       refine ⟨(i + 1, r), ⟨rfl, rfl, rfl, rfl, trivial⟩, ⟨hx, m1, by omega, hr1, by omega, fun h => ⟨by have h1 := (hr3 h).1; have h2 := (hL2 (by omega)).1; rw [sum_next hif]; omega, (hL2 (by omega)).2.1, fun y hy => (mem_takeS hif hy).elim ((hL2 (by omega)).2.2 y) (fun e => e ▸ (hr3 h).2)⟩⟩, by simp only []; omega⟩
      ·
       refine W_exit ?_
       refine hK8 _ _ ?_
       refine W_seq fun K13 hK13 => ?_
       refine wr ?_
       refine dm ?_
       refine da ?_
       refine D_end (hK13 _ _ ?_)
       refine W_ret ?_
       try dsimp only [then', inBlk, noGo]
       refine ro ?_
       exact ⟨_, rfl, hx, n2, rfl, by omega, by omega, fun h => by first | (exfalso; omega) | (have hh := hL2 h; rw [List.take_of_length_le (show kids.length ≤ i by omega)] at hh; exact ⟨(show n2 + 5 * (((1 + (kids.map (nodesF m)).sum : Nat)) : Int) ≤ n by have := hh.1; omega), okF_mk hh.2.1.1 hh.2.1.2.1 hh.2.1.2.2 hh.2.2⟩)⟩
     ·
      iterate 2 refine dk ?_
      refine dk' ?_
      refine D_end (hK11 _ _ ?_)
      refine W_f rfl ?_
      refine W_exit ?_
      refine hK8 _ _ ?_
      refine W_seq fun K14 hK14 => ?_
      refine wr ?_
      refine dm ?_
      refine da ?_
      refine D_end (hK14 _ _ ?_)
      refine W_ret ?_
      try dsimp only [then', inBlk, noGo]
      refine ro ?_
      exact ⟨_, rfl, hx, n2, rfl, by omega, by omega, fun h => by first | (exfalso; omega) | (have hh := hL2 h; rw [List.take_of_length_le (show kids.length ≤ i by omega)] at hh; exact ⟨(show n2 + 5 * (((1 + (kids.map (nodesF m)).sum : Nat)) : Int) ≤ n by have := hh.1; omega), okF_mk hh.2.1.1 hh.2.1.2.1 hh.2.1.2.2 hh.2.2⟩)⟩
  ·
   iterate 2 refine dk ?_
   refine dk' ?_
   refine D_end (hK6 _ _ ?_)
   refine W_f rfl ?_
   refine W_exit ?_
   refine hK3 _ _ ?_
   refine W_seq fun K15 hK15 => ?_
   refine W_seq fun K16 hK16 => ?_
   refine wr ?_
   refine da ?_
   refine D_end (hK16 _ _ ?_)
   refine W_block ?_
   refine W_loop (G := Nat × Int) (fun (i, n2) => [(1, I n2), (2, ptr b1 0), (4, I 0), (6, I ↑i)]) (fun (i, n2) w' => Ext w w' ∧ Blk w' b1 [I k, S t, S v, vs, vk] 25 ∧ i ≤ l.length ∧ -1000000000000000 ≤ n2 ∧ n2 ≤ n1 ∧ (0 ≤ n2 → n2 + 5 * (1 + ((((kids.take i).map (nodesF m)).sum : Nat) : Int)) ≤ n ∧ (t.length ≤ 1000 ∧ v.length ≤ 1000 ∧ ∀ p ∈ subs, p.length ≤ 1000) ∧ ∀ f ∈ kids.take i, okF 1000 m f)) (fun (i, n2) => l.length - i) (0, n1) ?_ ?_ ?_
   ·
    exact ⟨rfl, rfl, rfl, rfl, trivial⟩
   ·
    exact ⟨hx, m1, Nat.zero_le _, by omega, by omega, fun h => ⟨by have hh := hL1 h; simp only [List.take_zero, List.map_nil, List.sum_nil]; omega, by have hh := hL1 h; rw [List.take_of_length_le (show subs.length ≤ j by omega)] at hh; exact hh.2, fun y hy => by simp at hy⟩⟩
   ·
    intro X5 g5 w5 hF5
    obtain ⟨i, n2⟩ := g5
    clear hx m1
    obtain ⟨hx, m1, hi1, hlo2, hhi2, hL2⟩ := hF5
    refine W_seq fun K17 hK17 => ?_
    refine W_seq fun K18 hK18 => ?_
    refine wr ?_
    refine dm ?_
    refine dp (pv_fieldA (k := 4) (by kernel_rfl) rfl) ?_
    refine dq (lv_load (by kernel_rfl) rfl (m1.at rfl)) ?_
    refine dp (pv_lenV (e := 25) (k := 5) (by kernel_rfl) hk0.sl rfl) ?_
    refine dp (pv_lss rfl rfl) ?_
    refine dm ?_
    refine D_splitP 42 rfl (fun c5 => ?_) (fun c5 => ?_)
    ·
     refine dm ?_
     refine dp (pv_geq rfl rfl) ?_
     refine dk' ?_
     refine D_end (hK18 _ _ ?_)
     refine W_if rfl (fun c6 => ?_) (fun c6 => ?_)
     ·
      obtain ⟨c, hi⟩ : ∃ c, l[i]? = some c := ⟨_, List.getElem?_eq_getElem (by omega)⟩
      obtain ⟨f, hif⟩ := pair_at hlk hi
      
      refine W_skip ?_
      refine hK17 _ _ ?_
      refine W_seq fun K19 hK19 => ?_
      refine W_block ?_
      refine wr ?_
      refine dp (pv_fieldA (k := 4) (by kernel_rfl) rfl) ?_
      refine dq (lv_load (by kernel_rfl) rfl (m1.at rfl)) ?_
      refine dm ?_
      refine dp (pv_idxA (e := 25) (k := 5) (by kernel_rfl) hk0.sl rfl rfl (hk0.lt hi)) ?_
      refine dq (lv_loadA (by kernel_rfl) rfl rfl ((hk0.ext hx).row hi)) ?_
      refine dm ?_
      refine D_callG rfl (by kernel_rfl) (ih i c f hi hif _ n2 hx (by omega) (by omega)) rfl RX.all (fun u6 w6 x6 hf6 => ?_)
      have hsz6 := hx.size
      replace m1 := m1.ext x6
      replace hx := hx.trans x6
      obtain ⟨r, rfl, hr1, hr2, hr3⟩ := hf6
      refine da ?_
      refine D_end (hK19 _ _ ?_)
      refine wr ?_
      refine dm ?_
      refine dp (pv_add rfl rfl (by unfold inI64; omega)) ?_
      refine da ?_
      refine D_end (?_)
      refine ⟨(i + 1, r), ⟨rfl, rfl, rfl, rfl, trivial⟩, ⟨hx, m1, by omega, hr1, by omega, fun h => ⟨by have h1 := (hr3 h).1; have h2 := (hL2 (by omega)).1; rw [sum_next hif]; omega, (hL2 (by omega)).2.1, fun y hy => (mem_takeS hif hy).elim ((hL2 (by omega)).2.2 y) (fun e => e ▸ (hr3 h).2)⟩⟩, by simp only []; omega⟩
     ·
      refine W_exit ?_
      refine hK15 _ _ ?_
      refine W_seq fun K20 hK20 => ?_
      refine wr ?_
      refine dm ?_
      refine da ?_
      refine D_end (hK20 _ _ ?_)
      refine W_ret ?_
      try dsimp only [then', inBlk, noGo]
      refine ro ?_
      exact ⟨_, rfl, hx, n2, rfl, by omega, by omega, fun h => by first | (exfalso; omega) | (have hh := hL2 h; rw [List.take_of_length_le (show kids.length ≤ i by omega)] at hh; exact ⟨(show n2 + 5 * (((1 + (kids.map (nodesF m)).sum : Nat)) : Int) ≤ n by have := hh.1; omega), okF_mk hh.2.1.1 hh.2.1.2.1 hh.2.1.2.2 hh.2.2⟩)⟩
    ·
     iterate 2 refine dk ?_
     refine dk' ?_
     refine D_end (hK18 _ _ ?_)
     refine W_f rfl ?_
     refine W_exit ?_
     refine hK15 _ _ ?_
     refine W_seq fun K21 hK21 => ?_
     refine wr ?_
     refine dm ?_
     refine da ?_
     refine D_end (hK21 _ _ ?_)
     refine W_ret ?_
     try dsimp only [then', inBlk, noGo]
     refine ro ?_
     exact ⟨_, rfl, hx, n2, rfl, by omega, by omega, fun h => by first | (exfalso; omega) | (have hh := hL2 h; rw [List.take_of_length_le (show kids.length ≤ i by omega)] at hh; exact ⟨(show n2 + 5 * (((1 + (kids.map (nodesF m)).sum : Nat)) : Int) ≤ n by have := hh.1; omega), okF_mk hh.2.1.1 hh.2.1.2.1 hh.2.1.2.2 hh.2.2⟩)⟩

theorem heavy_all : ∀ (m : Nat) (c : FilV) (f : Flt) (w : World), FRep w m c f → okF 140737488355328 m f → ∀ (w1 : World) (n1 : Int), Ext w w1 → 0 ≤ n1 → n1 ≤ 1000 → Calls Tryz.prog 7 [.agg ⟨c.cs⟩, I n1].toArray w1 (HeavyQ w1 m n1 f)
  | 0, _, _, _, h, _, _, _, _, _, _ => h.elim
  | m + 1, c, .mk k t v subs kids, w, h, ho, w1, n1, hx, h0, h1 => by
    obtain ⟨e1, e2, e3, hs, hsl, l, hk, hl, hll, hkids⟩ := h.ext hx
    obtain ⟨ck, ct, cv, cs, cc⟩ := c
    subst e1 e2 e3
    exact heavy17_w m k t v subs kids l cs cc w1 hs hk hl hsl hll n1 ho.1 ho.2.1 ho.2.2.1 (fun i c f hi hf w2 n2 hx2 h2 h3 => heavy_all m c f w1 (hkids i c f hi hf) (ho.2.2.2 f (List.mem_of_getElem? hf)) w2 n2 hx2 h2 h3) h0 h1

set_option maxRecDepth 100000 in
set_option maxHeartbeats 1000000 in
theorem great17_w (l : List AttrV) (vd va : Value) (w : World) (ha : Arr AttrV.cs 2 w va l) (hvs : ValsAt w l) (hW : wAttrs (l.map AttrV.toA) ≤ 1152921504606846976) :
  Calls Tryz.prog 8 [.agg ⟨[vd, va]⟩].toArray w (Pure w (B (decide (2000 < wAttrs (l.map AttrV.toA))))) := by
 refine calls_W Tryz.func8 rfl rfl rfl (by kernel_rfl) ?_
 have hx := Ext.refl w
 have hll : l.length ≤ wAttrs (l.map AttrV.toA) := by have := sum_len (f := wAttr) (fun _ => by unfold wAttr; omega) (l.map AttrV.toA); simpa [wAttrs] using this
 refine W_seq fun K1 hK1 => ?_
 refine wr ?_
 refine D_box rfl rfl rfl RX.all (fun b1 w1 e1 x1 m1 => ?_)
 have g1 : w.heap.size ≤ b1 := by have := hx.size; omega
 replace hx := hx.trans x1
 refine da ?_
 refine D_end (hK1 _ _ ?_)
 refine W_seq fun K2 hK2 => ?_
 refine wr ?_
 refine da ?_
 refine D_end (hK2 _ _ ?_)
 refine W_seq fun K3 hK3 => ?_
 refine W_seq fun K4 hK4 => ?_
 refine wr ?_
 refine da ?_
 refine D_end (hK4 _ _ ?_)
 refine W_block ?_
 refine W_loop (G := Nat × Int) (fun (k, s) => [(1, ptr b1 0), (3, I s), (4, I ↑k)]) (fun (k, s) w' => Ext w w' ∧ Blk w' b1 [vd, va] 29 ∧ k ≤ l.length ∧ s = (wAttrs ((l.map AttrV.toA).take k) : Nat) ∧ wAttrs ((l.map AttrV.toA).take k) ≤ 2000) (fun (k, s) => l.length - k) (0, 0) ?_ ?_ ?_
 ·
  exact ⟨rfl, rfl, rfl, trivial⟩
 ·
  exact ⟨hx, m1, Nat.zero_le _, rfl, by simp [wAttrs]⟩
 ·
  intro X2 g2 w2 hF2
  obtain ⟨k, s⟩ := g2
  clear hx m1
  obtain ⟨hx, m1, hk1, hs3, hle⟩ := hF2
  refine W_seq fun K5 hK5 => ?_
  refine W_seq fun K6 hK6 => ?_
  refine wr ?_
  refine dm ?_
  refine dp (pv_fieldA (k := 1) (by kernel_rfl) rfl) ?_
  refine dq (lv_load (by kernel_rfl) rfl (m1.at rfl)) ?_
  refine dp (pv_lenV (e := 36) (k := 2) (by kernel_rfl) ha.sl rfl) ?_
  refine dp (pv_lss rfl rfl) ?_
  refine D_end (hK6 _ _ ?_)
  refine W_if rfl (fun c1 => ?_) (fun c1 => ?_)
  ·
   obtain ⟨a, hk⟩ : ∃ a, l[k]? = some a := ⟨_, List.getElem?_eq_getElem (by omega)⟩
   have hav := hvs.at hk
   have hst := sum_take (f := wAttr) (toA_at hk)
   have hwa : wAttr a.toA = 1 + a.typ.length + wVals a.vals := rfl
   have hst2 : wAttrs ((l.map AttrV.toA).take k) + wAttr a.toA ≤ wAttrs (l.map AttrV.toA) := hst
   have hvl : a.vals.length ≤ wVals a.vals := sum_len (fun _ => by omega) a.vals
   have ewk : wAttrs ((l.map AttrV.toA).take (k + 1)) = wAttrs ((l.map AttrV.toA).take k) + wAttr a.toA := by unfold wAttrs; rw [take_snocS (toA_at hk), List.map_append, List.sum_append]; simp
   refine W_skip ?_
   refine hK5 _ _ ?_
   refine W_seq fun K7 hK7 => ?_
   refine W_block ?_
   refine W_seq fun K8 hK8 => ?_
   refine wr ?_
   refine dm ?_
   refine dp (pv_add rfl rfl (by unfold inI64; omega)) ?_
   refine dp (pv_fieldA (k := 1) (by kernel_rfl) rfl) ?_
   refine dq (lv_load (by kernel_rfl) rfl (m1.at rfl)) ?_
   refine dm ?_
   refine dp (pv_idxA (e := 36) (k := 2) (by kernel_rfl) ha.sl rfl rfl (ha.lt hk)) ?_
   refine dp (pv_fieldA (k := 0) (by kernel_rfl) rfl) ?_
   refine dq (lv_load (by kernel_rfl) rfl (((ha.ext hx).row hk).at rfl)) ?_
   refine dp (pv_lenS (by kernel_rfl) rfl) ?_
   refine dp (pv_add rfl rfl (by unfold inI64; omega)) ?_
   refine da ?_
   refine D_end (hK8 _ _ ?_)
   refine W_seq fun K9 hK9 => ?_
   refine W_seq fun K10 hK10 => ?_
   refine wr ?_
   refine da ?_
   refine D_end (hK10 _ _ ?_)
   refine W_block ?_
   refine W_loop (G := Nat × Int) (fun (q, s2) => [(1, ptr b1 0), (3, I s2), (4, I ↑k), (5, I ↑q)]) (fun (q, s2) w' => Ext w w' ∧ Blk w' b1 [vd, va] 29 ∧ q ≤ a.vals.length ∧ s2 = (wAttrs ((l.map AttrV.toA).take k) + 1 + a.typ.length + wVals (a.vals.take q) : Nat)) (fun (q, s2) => a.vals.length - q) (0, s + 1 + a.typ.length) ?_ ?_ ?_
   ·
    exact ⟨rfl, rfl, rfl, rfl, trivial⟩
   ·
    exact ⟨hx, m1, Nat.zero_le _, by simp [wVals]; omega⟩
   ·
    intro X3 g3 w3 hF3
    obtain ⟨q, s2⟩ := g3
    clear hx m1
    obtain ⟨hx, m1, hq1, hs4⟩ := hF3
    refine W_seq fun K11 hK11 => ?_
    refine W_seq fun K12 hK12 => ?_
    refine wr ?_
    refine dm ?_
    refine dp (pv_fieldA (k := 1) (by kernel_rfl) rfl) ?_
    refine dq (lv_load (by kernel_rfl) rfl (m1.at rfl)) ?_
    refine dm ?_
    refine dp (pv_idxA (e := 36) (k := 2) (by kernel_rfl) ha.sl rfl rfl (ha.lt hk)) ?_
    refine dp (pv_fieldA (k := 1) (by kernel_rfl) rfl) ?_
    refine dq (lv_load (by kernel_rfl) rfl (((ha.ext hx).row hk).at rfl)) ?_
    refine dp (pv_lenV (e := 9) (k := 1) (by kernel_rfl) hav.sl rfl) ?_
    refine dp (pv_lss rfl rfl) ?_
    refine D_end (hK12 _ _ ?_)
    refine W_if rfl (fun c2 => ?_) (fun c2 => ?_)
    ·
     obtain ⟨v, hq⟩ : ∃ v, a.vals[q]? = some v := ⟨_, List.getElem?_eq_getElem (by omega)⟩
     have hst3 := sum_take (f := fun v : Str => 1 + v.length) hq
     have hst4 : wVals (a.vals.take q) + (1 + v.length) ≤ wVals a.vals := hst3
     refine W_skip ?_
     refine hK11 _ _ ?_
     refine W_seq fun K13 hK13 => ?_
     refine W_block ?_
     refine wr ?_
     refine dm ?_
     refine dp (pv_add rfl rfl (by unfold inI64; omega)) ?_
     refine dp (pv_fieldA (k := 1) (by kernel_rfl) rfl) ?_
     refine dq (lv_load (by kernel_rfl) rfl (m1.at rfl)) ?_
     refine dm ?_
     refine dp (pv_idxA (e := 36) (k := 2) (by kernel_rfl) ha.sl rfl rfl (ha.lt hk)) ?_
     refine dp (pv_fieldA (k := 1) (by kernel_rfl) rfl) ?_
     refine dq (lv_load (by kernel_rfl) rfl (((ha.ext hx).row hk).at rfl)) ?_
     refine dm ?_
     refine dp (pv_idxA (e := 9) (k := 1) (by kernel_rfl) hav.sl rfl rfl (hav.lt hq)) ?_
     refine dq (lv_load (by kernel_rfl) rfl (((hav.ext hx).row hq).at0 rfl)) ?_
     refine dp (pv_lenS (by kernel_rfl) rfl) ?_
     refine dp (pv_add rfl rfl (by unfold inI64; omega)) ?_
     refine da ?_
     refine D_end (hK13 _ _ ?_)
     refine wr ?_
     refine dm ?_
     refine dp (pv_add rfl rfl (by unfold inI64; omega)) ?_
     refine da ?_
     refine D_end (?_)
     refine ⟨(q + 1, s2 + 1 + v.length), ⟨rfl, rfl, rfl, rfl, trivial⟩, ⟨hx, m1, by omega, ?_⟩, by simp only []; omega⟩
     have e : wVals (a.vals.take (q + 1)) = wVals (a.vals.take q) + (1 + v.length) := by unfold wVals; rw [take_snocS hq, List.map_append, List.sum_append]; simp
     rw [e]; omega
    ·
     rw [List.take_of_length_le (show a.vals.length ≤ q by omega)] at hs4
     refine W_exit ?_
     refine hK9 _ _ ?_
     refine W_seq fun K14 hK14 => ?_
     refine wr ?_
     refine dm ?_
     refine dp (pv_gtr rfl rfl) ?_
     refine D_end (hK14 _ _ ?_)
     refine W_if rfl (fun c3 => ?_) (fun c3 => ?_)
     ·
      refine W_seq fun K15 hK15 => ?_
      refine wr ?_
      refine da ?_
      refine D_end (hK15 _ _ ?_)
      refine W_ret ?_
      try dsimp only [then', inBlk, noGo]
      refine ro ?_
      refine ⟨?_, hx⟩
      rw [decide_eq_true (by omega)]
     ·
      refine W_skip ?_
      refine hK7 _ _ ?_
      refine wr ?_
      refine dm ?_
      refine dp (pv_add rfl rfl (by unfold inI64; omega)) ?_
      refine da ?_
      refine D_end (?_)
      refine ⟨(k + 1, s2), ⟨rfl, rfl, rfl, trivial⟩, ⟨hx, m1, by omega, by rw [ewk]; omega, by rw [ewk]; omega⟩, by simp only []; omega⟩
  ·
   refine W_exit ?_
   refine hK3 _ _ ?_
   refine W_seq fun K16 hK16 => ?_
   refine wr ?_
   refine da ?_
   refine D_end (hK16 _ _ ?_)
   refine W_ret ?_
   try dsimp only [then', inBlk, noGo]
   refine ro ?_
   refine ⟨?_, hx⟩
   rw [List.take_of_length_le (show (l.map AttrV.toA).length ≤ k by simp; omega)] at hle
   rw [decide_eq_false (by omega)]

set_option maxRecDepth 100000 in
set_option maxHeartbeats 1000000 in
theorem great0_w (l : List AttrV) (vd va : Value) (w : World) (ha : Arr AttrV.cs 2 w va l) (hvs : ValsAt w l) (hll : l.length ≤ 140737488355328) (hvl : ∀ a ∈ l, a.vals.length ≤ 140737488355328) :
  Calls Tryz.prog 8 [.agg ⟨[vd, va]⟩].toArray w (Gives w (fun u _ => ∃ b : Bool, u = B b)) := by
 refine calls_W Tryz.func8 rfl rfl rfl (by kernel_rfl) ?_
 have hx := Ext.refl w
 refine W_seq fun K1 hK1 => ?_
 refine wr ?_
 refine D_box rfl rfl rfl RX.all (fun b1 w1 e1 x1 m1 => ?_)
 have g1 : w.heap.size ≤ b1 := by have := hx.size; omega
 replace hx := hx.trans x1
 refine da ?_
 refine D_end (hK1 _ _ ?_)
 refine W_seq fun K2 hK2 => ?_
 refine wr ?_
 refine da ?_
 refine D_end (hK2 _ _ ?_)
 refine W_seq fun K3 hK3 => ?_
 refine W_seq fun K4 hK4 => ?_
 refine wr ?_
 refine da ?_
 refine D_end (hK4 _ _ ?_)
 refine W_block ?_
 refine W_loop (G := Nat × Int) (fun (k, s) => [(1, ptr b1 0), (3, I s), (4, I ↑k)]) (fun (k, s) w' => Ext w w' ∧ Blk w' b1 [vd, va] 29 ∧ k ≤ l.length) (fun (k, s) => l.length - k) (0, 0) ?_ ?_ ?_
 ·
  exact ⟨rfl, rfl, rfl, trivial⟩
 ·
  exact ⟨hx, m1, Nat.zero_le _⟩
 ·
  intro X2 g2 w2 hF2
  obtain ⟨k, s⟩ := g2
  clear hx m1
  obtain ⟨hx, m1, hk1⟩ := hF2
  refine W_seq fun K5 hK5 => ?_
  refine W_seq fun K6 hK6 => ?_
  refine wr ?_
  refine dm ?_
  refine dp (pv_fieldA (k := 1) (by kernel_rfl) rfl) ?_
  refine dq (lv_load (by kernel_rfl) rfl (m1.at rfl)) ?_
  refine dp (pv_lenV (e := 36) (k := 2) (by kernel_rfl) ha.sl rfl) ?_
  refine dp (pv_lss rfl rfl) ?_
  refine D_end (hK6 _ _ ?_)
  refine W_if rfl (fun c1 => ?_) (fun c1 => ?_)
  ·
   obtain ⟨a, hk⟩ : ∃ a, l[k]? = some a := ⟨_, List.getElem?_eq_getElem (by omega)⟩
   have hav := hvs.at hk
   have hvl1 := hvl a (List.mem_of_getElem? hk)
   refine W_skip ?_
   refine hK5 _ _ ?_
   refine W_seq fun K7 hK7 => ?_
   refine W_block ?_
   refine W_seq fun K8 hK8 => ?_
   refine wr ?_
   refine dm ?_
   refine dp (pv_addw rfl rfl) ?_
   refine dp (pv_fieldA (k := 1) (by kernel_rfl) rfl) ?_
   refine dq (lv_load (by kernel_rfl) rfl (m1.at rfl)) ?_
   refine dm ?_
   refine dp (pv_idxA (e := 36) (k := 2) (by kernel_rfl) ha.sl rfl rfl (ha.lt hk)) ?_
   refine dp (pv_fieldA (k := 0) (by kernel_rfl) rfl) ?_
   refine dq (lv_load (by kernel_rfl) rfl (((ha.ext hx).row hk).at rfl)) ?_
   refine dp (pv_lenS (by kernel_rfl) rfl) ?_
   refine dp (pv_addw rfl rfl) ?_
   refine da ?_
   refine D_end (hK8 _ _ ?_)
   refine W_seq fun K9 hK9 => ?_
   refine W_seq fun K10 hK10 => ?_
   refine wr ?_
   refine da ?_
   refine D_end (hK10 _ _ ?_)
   refine W_block ?_
   refine W_loop (G := Nat × Int) (fun (q, s2) => [(1, ptr b1 0), (3, I s2), (4, I ↑k), (5, I ↑q)]) (fun (q, s2) w' => Ext w w' ∧ Blk w' b1 [vd, va] 29 ∧ q ≤ a.vals.length) (fun (q, s2) => a.vals.length - q) (0, IntKind.i64.wrap (IntKind.i64.wrap (s + 1) + a.typ.length)) ?_ ?_ ?_
   ·
    exact ⟨rfl, rfl, rfl, rfl, trivial⟩
   ·
    exact ⟨hx, m1, Nat.zero_le _⟩
   ·
    intro X3 g3 w3 hF3
    obtain ⟨q, s2⟩ := g3
    clear hx m1
    obtain ⟨hx, m1, hq1⟩ := hF3
    refine W_seq fun K11 hK11 => ?_
    refine W_seq fun K12 hK12 => ?_
    refine wr ?_
    refine dm ?_
    refine dp (pv_fieldA (k := 1) (by kernel_rfl) rfl) ?_
    refine dq (lv_load (by kernel_rfl) rfl (m1.at rfl)) ?_
    refine dm ?_
    refine dp (pv_idxA (e := 36) (k := 2) (by kernel_rfl) ha.sl rfl rfl (ha.lt hk)) ?_
    refine dp (pv_fieldA (k := 1) (by kernel_rfl) rfl) ?_
    refine dq (lv_load (by kernel_rfl) rfl (((ha.ext hx).row hk).at rfl)) ?_
    refine dp (pv_lenV (e := 9) (k := 1) (by kernel_rfl) hav.sl rfl) ?_
    refine dp (pv_lss rfl rfl) ?_
    refine D_end (hK12 _ _ ?_)
    refine W_if rfl (fun c2 => ?_) (fun c2 => ?_)
    ·
     obtain ⟨v, hq⟩ : ∃ v, a.vals[q]? = some v := ⟨_, List.getElem?_eq_getElem (by omega)⟩
     refine W_skip ?_
     refine hK11 _ _ ?_
     refine W_seq fun K13 hK13 => ?_
     refine W_block ?_
     refine wr ?_
     refine dm ?_
     refine dp (pv_addw rfl rfl) ?_
     refine dp (pv_fieldA (k := 1) (by kernel_rfl) rfl) ?_
     refine dq (lv_load (by kernel_rfl) rfl (m1.at rfl)) ?_
     refine dm ?_
     refine dp (pv_idxA (e := 36) (k := 2) (by kernel_rfl) ha.sl rfl rfl (ha.lt hk)) ?_
     refine dp (pv_fieldA (k := 1) (by kernel_rfl) rfl) ?_
     refine dq (lv_load (by kernel_rfl) rfl (((ha.ext hx).row hk).at rfl)) ?_
     refine dm ?_
     refine dp (pv_idxA (e := 9) (k := 1) (by kernel_rfl) hav.sl rfl rfl (hav.lt hq)) ?_
     refine dq (lv_load (by kernel_rfl) rfl (((hav.ext hx).row hq).at0 rfl)) ?_
     refine dp (pv_lenS (by kernel_rfl) rfl) ?_
     refine dp (pv_addw rfl rfl) ?_
     refine da ?_
     refine D_end (hK13 _ _ ?_)
     refine wr ?_
     refine dm ?_
     refine dp (pv_add rfl rfl (by unfold inI64; omega)) ?_
     refine da ?_
     refine D_end (?_)
     refine ⟨(q + 1, _), ⟨rfl, rfl, rfl, rfl, trivial⟩, ⟨hx, m1, by omega⟩, by simp only []; omega⟩
    ·
     refine W_exit ?_
     refine hK9 _ _ ?_
     refine W_seq fun K14 hK14 => ?_
     refine wr ?_
     refine dm ?_
     refine dp (pv_gtr rfl rfl) ?_
     refine D_end (hK14 _ _ ?_)
     refine W_if rfl (fun c3 => ?_) (fun c3 => ?_)
     ·
      refine W_seq fun K15 hK15 => ?_
      refine wr ?_
      refine da ?_
      refine D_end (hK15 _ _ ?_)
      refine W_ret ?_
      try dsimp only [then', inBlk, noGo]
      refine ro ?_
      exact ⟨_, rfl, hx, _, rfl⟩
     ·
      refine W_skip ?_
      refine hK7 _ _ ?_
      refine wr ?_
      refine dm ?_
      refine dp (pv_add rfl rfl (by unfold inI64; omega)) ?_
      refine da ?_
      refine D_end (?_)
      refine ⟨(k + 1, _), ⟨rfl, rfl, rfl, trivial⟩, ⟨hx, m1, by omega⟩, by simp only []; omega⟩
  ·
   refine W_exit ?_
   refine hK3 _ _ ?_
   refine W_seq fun K16 hK16 => ?_
   refine wr ?_
   refine da ?_
   refine D_end (hK16 _ _ ?_)
   refine W_ret ?_
   try dsimp only [then', inBlk, noGo]
   refine ro ?_
   exact ⟨_, rfl, hx, _, rfl⟩

set_option maxRecDepth 100000 in
set_option maxHeartbeats 1000000 in
theorem law_items (m : Nat) (k : Int) (t v : Str) (subs : List Str) (kids : List Flt) (vs vk vv : Value) (vals : List Str) (w : World) (hf : FRep w m ⟨I k, S t, S v, vs, vk⟩ (.mk k t v subs kids)) (hok : okF 140737488355328 m (.mk k t v subs kids)) (hvv : Arr sEnc 1 w vv vals) (hl : vals.length * 16 ≤ 140737488351232) (hb : ∀ x ∈ vals, x.length ≤ 140737488355328) (hg : GV w) :
  Calls Tryz.prog 4 [.agg ⟨[I k, S t, S v, vs, vk]⟩, vv].toArray w (Pure w (B true)) := by
 refine calls_W Tryz.func4 rfl rfl rfl (by kernel_rfl) ?_
 have hx := Ext.refl w
 have hsu := hf.subs
 refine W_seq fun K1 hK1 => ?_
 refine wr ?_
 refine D_box rfl rfl rfl RX.all (fun b1 w1 e1 x1 m1 => ?_)
 have g1 : w.heap.size ≤ b1 := by have := hx.size; omega
 replace hx := hx.trans x1
 refine da ?_
 refine D_end (hK1 _ _ ?_)
 refine W_seq fun K2 hK2 => ?_
 refine W_seq fun K3 hK3 => ?_
 refine wr ?_
 refine dq (lv_loadA (k := 5) (by kernel_rfl) rfl rfl m1.row) ?_
 refine D_callG rfl (by kernel_rfl) (heavy_all m ⟨I k, S t, S v, vs, vk⟩ (.mk k t v subs kids) w hf hok _ 600 hx (by omega) (by omega)) rfl RX.all (fun u2 w2 x2 hh2 => ?_)
 have hsz2 := hx.size
 replace m1 := m1.ext x2
 replace hx := hx.trans x2
 obtain ⟨r, rfl, hr1, hr2, hr3⟩ := hh2
 refine dp (pv_lss rfl rfl) ?_
 refine dm ?_
 refine D_splitP 8 rfl (fun c1 => ?_) (fun c1 => ?_)
 ·
  iterate 5 refine dk ?_
  refine dk' ?_
  refine D_end (hK3 _ _ ?_)
  refine W_t rfl ?_
  refine W_seq fun K4 hK4 => ?_
  refine wr ?_
  refine da ?_
  refine D_end (hK4 _ _ ?_)
  refine W_ret ?_
  try dsimp only [then', inBlk, noGo]
  refine ro ?_
  exact ⟨rfl, hx⟩
 ·
  refine dm ?_
  refine dp (pv_build (zs := [S [], .slice none 0 0]) (pl := [(0, 1), (1, 1)]) (pv := [(1, ?a7_0)]) (cs := [S [], ?a7_0]) (by kernel_rfl) (by kernel_rfl) ?h7 ?f7) ?k7
  case h7 => refine ⟨rfl, ?_, trivial⟩ <;> (conv => lhs; whnf)
  case f7 => rcases hvv.sl with ⟨rfl, _⟩ | ⟨_, _, _, rfl, _⟩ | ⟨_, _, _, rfl⟩ <;> rfl
  refine D_lit (e := 36) (sz := 2) (zs := [S [], .slice none 0 0]) (pv := [(0, .agg ⟨[?a8_0, ?a8_1]⟩)]) (cs := [?a8_0, ?a8_1]) rfl (by kernel_rfl) ⟨rfl, rfl⟩ (by kernel_rfl) rfl ?h8 ?f8 RX.all (fun b2 w3 e2 x3 m2 => ?k8)
  case h8 => refine ⟨rfl, ?_, trivial⟩ <;> (conv => lhs; whnf)
  case f8 => rfl
  have g2 : w.heap.size ≤ b2 := by have := hx.size; omega
  have n2_1 : b1 < b2 := by have := m1.lt; omega
  replace m1 := m1.ext x3
  replace hx := hx.trans x3
  refine dp (pv_build (zs := [.slice none 0 0, .slice none 0 0]) (pl := [(0, 1), (1, 1)]) (pv := [(1, ?a9_0)]) (cs := [.slice none 0 0, ?a9_0]) (by kernel_rfl) (by kernel_rfl) ?h9 ?f9) ?k9
  case h9 => refine ⟨rfl, ?_, trivial⟩ <;> (conv => lhs; whnf)
  case f9 => rfl
  refine D_callG rfl (by kernel_rfl) (great0_w [(⟨[], vals, vv⟩ : AttrV)] (.slice none 0 0) (.slice (some ⟨b2, 0, none⟩) 1 1) _ (m2.arr (enc := AttrV.cs) (sz := 2) (l := [(⟨[], vals, vv⟩ : AttrV)]) rfl (by intro x; rfl) rfl (by simp)) (fun a ha => by rw [List.mem_singleton.1 ha]; exact hvv.ext hx) (by simp) (fun a ha => by rw [List.mem_singleton.1 ha]; show vals.length ≤ _; omega)) rfl RX.all (fun u4 w4 x4 hq4 => ?_)
  have hsz4 := hx.size
  replace m1 := m1.ext x4
  replace m2 := m2.ext x4
  replace hx := hx.trans x4
  obtain ⟨q, rfl⟩ := hq4
  refine dk' ?_
  refine D_end (hK3 _ _ ?_)
  refine W_cond rfl (fun c2 => ?_) (fun c2 => ?_)
  ·
   refine W_seq fun K5 hK5 => ?_
   refine wr ?_
   refine da ?_
   refine D_end (hK5 _ _ ?_)
   refine W_ret ?_
   try dsimp only [then', inBlk, noGo]
   refine ro ?_
   exact ⟨rfl, hx⟩
  ·
   obtain ⟨ht1, hv1, hsb⟩ := (hr3 (by omega)).2.here
   refine W_skip ?_
   refine hK2 _ _ ?_
   refine W_seq fun K6 hK6 => ?_
   have hxs := hx
   have hD : w.heap.size ≤ w4.heap.size := hx.size
   have hg_s := (hg.ext hx)
   have hsu_s := (hsu.ext hx)
   have hvv_s := (hvv.ext hx)
   have m1_s := m1
   have m2_s := m2
   refine W_draw (R := Mod (geB w4.heap.size)) (Far.refl _) Far.trans (by kernel_rfl) [0, 5] [(0, .l, false), (2, .p, false), (5, .l, false), (6, .p, false), (1, .x, false), (3, .x, false), (4, .x, false), (7, .x, false), (8, .p, false), (9, .p, false), (10, .x, false), (11, .p, false), (12, .p, false)] rfl (by kernel_rfl) (by kernel_rfl) (fun w5 ew5 => ?_)
   have x5 : Ext w4 w5 := by rw [ew5]; exact Ext.drew _
   clear ew5
   replace m1 := m1.ext x5
   replace m2 := m2.ext x5
   replace hx := hx.trans x5
   have hs : Mod (geB w4.heap.size) w4 w5 := Far.of_ext x5
   refine D_l rfl (fun w' hR => lv_loadA (k := 5) (by kernel_rfl) rfl rfl (m1_s.far (hs.own hR (fun _ h _ => h))).row) ?_
   refine dm ?_
   refine D_l rfl (fun w' hR => lv_loadA (k := 5) (by kernel_rfl) rfl rfl (m1_s.far (hs.own hR (fun _ h _ => h))).row) ?_
   refine dm ?_
   refine D_lit0 (e := 9) (sz := 1) rfl (by kernel_rfl) RX.far (fun b3 w6 e3 x6 m3 => ?_)
   have g3 : w.heap.size ≤ b3 := by have := hx.size; omega
   have n3_1 : b1 < b3 := by have := m1.lt; omega
   have n3_2 : b2 < b3 := by have := m2.lt; omega
   have gs3 : w4.heap.size ≤ b3 := by have := hs.size; omega
   replace m1 := m1.ext x6
   replace m2 := m2.ext x6
   replace hx := hx.trans x6
   replace hs := hs.ext x6
   have ho := m3.own (enc := sEnc) (B := w4.heap.size) (l := []) (sz := 1) (m := 0) gs3 rfl (by intro x; rfl) rfl (by simp)
   refine D_append (lx := vals) (e := 9) (sz := 1) (by' := 16) rfl (by kernel_rfl) (by kernel_rfl) (by intro x; rfl) ho ((hvv.ext hx)) rfl rfl (by intro x _ u hu; simp at hu; rcases hu with rfl <;> rfl) (by simp; omega) (by decide) hs.size (.inr (Far.own ho (Nat.le_refl _))) (fun vm w7 ho_n x7 => ?_)
   replace hs := hs.own x7 (fun i hi _ => by have := (ho.lt i hi).1; unfold geB; omega)
   try replace m1 := m1.mod x7 (by intro h; have h1 := (ho.lt _ h).1; have h2 := m1_s.lt; omega)
   try replace m2 := m2.mod x7 (by intro h; have h1 := (ho.lt _ h).1; have h2 := m2_s.lt; omega)
   replace hx := hx.own x7 (fun i hi => (by have h1 := (ho.lt i hi).1; first | exact h1 | (have := hxs.size; omega)))
   replace ho := ho_n
   refine D_callP rfl (by kernel_rfl) (item_w k t v vs vk vm subs vals _ (hg.ext hx) (hsu.ext hx) (fun p hp => by have := hsb p hp; omega) (ho.arr (by intro x; rfl)) (by omega) hb (by omega) (by omega)) rfl RX.far (fun w8 x8 => ?_)
   replace m1 := m1.ext x8
   replace m2 := m2.ext x8
   replace ho := ho.ext x8
   replace hx := hx.trans x8
   replace hs := hs.ext x8
   refine D_callP rfl (by kernel_rfl) (ritem_w k t v vs vk vv subs vals _ (hsu.ext hx) (fun p hp => by have := hsb p hp; omega) (hvv.ext hx) (by omega) hb (by omega) (by omega)) rfl RX.far (fun w9 x9 => ?_)
   replace m1 := m1.ext x9
   replace m2 := m2.ext x9
   replace ho := ho.ext x9
   replace hx := hx.trans x9
   replace hs := hs.ext x9
   refine dp (pv_eql rfl rfl) ?_
   refine dm ?_
   refine D_splitP 24 rfl (fun c3 => ?_) (fun c3 => ?_)
   ·
    refine D_callP rfl (by kernel_rfl) (known17_w _) rfl RX.far (fun w10 x10 => ?_)
    replace m1 := m1.ext x10
    replace m2 := m2.ext x10
    replace ho := ho.ext x10
    replace hx := hx.trans x10
    replace hs := hs.ext x10
    refine dk' ?_
    refine da ?_
    clear hs hxs hg_s hsu_s hvv_s m1_s m2_s
    refine D_end (hK6 _ _ ?_)
    refine W_ret ?_
    try dsimp only [then', inBlk, noGo]
    refine ro ?_
    exact ⟨rfl, hx⟩
   ·
    exact absurd rfl c3

end Go.Proofs.YtdagdhjheibgnaaGreatDoor
