/-
  Towers of a skip list over cells: plain laws. No program in sight.
-/
import Derived.Test.YtodmkkcediofgaaSpSkip
import Derived.Test.YtodmkkcediofgaaVcF
namespace Go.Sp
open Go.Vc
set_option linter.unusedVariables false
set_option linter.unusedSimpArgs false

structure Tow where
  c : Cell
  bk : Nat
  h : Nat

@[reducible] def Tow.sl (t : Tow) : Value := .slice (some ⟨t.bk, 0, none⟩) t.h t.h
@[reducible] def Tow.enc (t : Tow) : List Value := [S t.c.key, S t.c.val, B t.c.del, I t.c.seq, t.sl]

def hgt (a : List Tow) (i : Nat) : Nat := (a[i]?.map Tow.h).getD 0
def cellOf (a : List Tow) (i : Nat) : Cell := (a[i]?.map Tow.c).getD Cell.zero
theorem hgt_at {a : List Tow} {i : Nat} {t : Tow} (h : a[i]? = some t) : hgt a i = t.h := by simp [hgt, h]
theorem cellOf_at {a : List Tow} {i : Nat} {t : Tow} (h : a[i]? = some t) : cellOf a i = t.c := by simp [cellOf, h]

/-- The indices of those that stand ahead of a cell; the others. -/
def preI (a : List Tow) (L : List Nat) (c : Cell) : List Nat := L.takeWhile fun i => less (cellOf a i) c
def sufI (a : List Tow) (L : List Nat) (c : Cell) : List Nat := L.dropWhile fun i => less (cellOf a i) c
theorem pre_sufI (a : List Tow) (L : List Nat) (c : Cell) : preI a L c ++ sufI a L c = L := List.takeWhile_append_dropWhile ..

structure Skip (a : List Tow) (nx : Nat → List Nat) (L : List Nat) (l : List Cell) : Prop where
  len : a.length = L.length + 1
  mem : ∀ i ∈ L, 1 ≤ i ∧ i < a.length
  nd : L.Nodup
  cells : l = L.map (cellOf a)
  h0 : hgt a 0 = 12
  hle : ∀ i, i < a.length → 1 ≤ hgt a i ∧ hgt a i ≤ 12
  link : Linked (hgt a) nx (0 :: L)

section
variable {a : List Tow} {nx : Nat → List Nat} {L : List Nat} {l : List Cell} {c : Cell}

theorem preI_less {i : Nat} (h : i ∈ preI a L c) : less (cellOf a i) c = true :=
  List.all_eq_true.1 (List.all_takeWhile (p := fun i => less (cellOf a i) c) (l := L)) i h
theorem preI_sub {i : Nat} (h : i ∈ preI a L c) : i ∈ L := by rw [← pre_sufI a L c]; exact List.mem_append_left _ h
theorem sufI_sub {i : Nat} (h : i ∈ sufI a L c) : i ∈ L := by rw [← pre_sufI a L c]; exact List.mem_append_right _ h
theorem sufI_head {i : Nat} {r : List Nat} (h : sufI a L c = i :: r) : less (cellOf a i) c = false := by
  have := List.head?_dropWhile_not (fun i => less (cellOf a i) c) L
  rw [show List.dropWhile (fun i => less (cellOf a i) c) L = sufI a L c from rfl, h] at this
  simpa using this

theorem pre_map (a : List Tow) (L : List Nat) (c : Cell) : pre (L.map (cellOf a)) c = (preI a L c).map (cellOf a) := by
  unfold pre preI
  rw [List.takeWhile_map]; rfl
theorem suf_map (a : List Tow) (L : List Nat) (c : Cell) : suf (L.map (cellOf a)) c = (sufI a L c).map (cellOf a) := by
  unfold suf sufI
  rw [List.dropWhile_map]; rfl

theorem Skip.mem0 (h : Skip a nx L l) {i : Nat} (hi : i ∈ 0 :: L) : i < a.length := by
  rcases List.mem_cons.1 hi with rfl | hi
  · have := h.len; omega
  · exact (h.mem i hi).2
theorem Skip.pos (h : Skip a nx L l) {i : Nat} (hi : i ∈ L) : i ≠ 0 := by have := (h.mem i hi).1; omega

/-- What stands behind a tower at a row. -/
theorem Skip.nextR (h : Skip a nx L l) {A R : List Nat} {i row : Nat} (hp : 0 :: preI a L c = A ++ i :: R) (hr : row < hgt a i) : (nx i)[row]? = some (nextAt (hgt a) (R ++ sufI a L c) row) := by
  have hl := h.link
  have e : 0 :: L = A ++ i :: (R ++ sufI a L c) := by
    have e2 : 0 :: (preI a L c ++ sufI a L c) = A ++ i :: (R ++ sufI a L c) := by rw [← List.cons_append, hp]; simp
    rwa [pre_sufI] at e2
  rw [e] at hl
  exact linked_at hl row hr

/-- A next one is of the list, or 0. -/
theorem Skip.next_in (h : Skip a nx L l) {A R : List Nat} {i row : Nat} (hp : 0 :: preI a L c = A ++ i :: R) :
    nextAt (hgt a) (R ++ sufI a L c) row = 0 ∨ nextAt (hgt a) (R ++ sufI a L c) row ∈ L := by
  rcases nextAt_mem (hgt a) row (R ++ sufI a L c) with e | ⟨e, _⟩
  · exact .inl e
  · refine .inr ?_
    rcases List.mem_append.1 e with e | e
    · have : nextAt (hgt a) (R ++ sufI a L c) row ∈ 0 :: preI a L c := by rw [hp]; simp [e]
      rcases List.mem_cons.1 this with e2 | e2
      · -- 0 is not of what stands behind
        exfalso
        rw [e2] at e
        cases A with
        | nil =>
          rw [List.nil_append] at hp
          have hR : R = preI a L c := by injection hp with _ h2; exact h2.symm
          rw [hR] at e
          exact h.pos (preI_sub e) rfl
        | cons x A =>
          rw [List.cons_append] at hp
          have hR : preI a L c = A ++ i :: R := by injection hp
          exact h.pos (preI_sub (by rw [hR]; simp [e])) rfl
      · exact preI_sub e2
    · exact sufI_sub e

theorem Skip.behind (h : Skip a nx L l) {A R : List Nat} {i j : Nat} (hp : 0 :: preI a L c = A ++ i :: R) (hj : j ∈ R) : j ∈ preI a L c := by
  cases A with
  | nil =>
    rw [List.nil_append] at hp
    have hR : preI a L c = R := by injection hp
    rw [hR]; exact hj
  | cons x A =>
    rw [List.cons_append] at hp
    have hR : preI a L c = A ++ i :: R := by injection hp
    rw [hR]; simp [hj]

/-- A step forward along a row. -/
theorem Skip.step (h : Skip a nx L l) (hs : Sorted l) {A R : List Nat} {i row : Nat} {t : Tow} (hp : 0 :: preI a L c = A ++ i :: R) (h0 : nextAt (hgt a) (R ++ sufI a L c) row ≠ 0)
    (ht : a[nextAt (hgt a) (R ++ sufI a L c) row]? = some t) (hl : less t.c c = true) :
    ∃ A' R', 0 :: preI a L c = A' ++ nextAt (hgt a) (R ++ sufI a L c) row :: R' ∧ row < hgt a (nextAt (hgt a) (R ++ sufI a L c) row) ∧ R'.length < R.length := by
  rcases nextAt_cases (hgt a) row R (sufI a L c) with ⟨R1, j, R2, e, hj, e2, _⟩ | ⟨_, e2⟩
  · rw [e2]
    refine ⟨A ++ i :: R1, R2, ?_, hj, ?_⟩
    · rw [hp, e]; simp
    · rw [e]; simp; omega
  · exfalso
    rw [e2] at h0 ht
    rcases nextAt_mem (hgt a) row (sufI a L c) with e3 | ⟨e3, _⟩
    · exact h0 e3
    · -- a cell of the rest is not ahead
      cases hsu : sufI a L c with
      | nil => rw [hsu] at e3; cases e3
      | cons s r =>
        have h1 := sufI_head hsu
        rw [hsu] at e3
        rw [hsu] at ht
        have hl' : less (cellOf a (nextAt (hgt a) (s :: r) row)) c = true := by rw [cellOf_at ht]; exact hl
        rcases List.mem_cons.1 e3 with e4 | e4
        · rw [e4, h1] at hl'; cases hl'
        · have hsl : Sorted (suf l c) := by
            have h2 : Sorted (pre l c ++ suf l c) := by rw [pre_suf]; exact hs
            exact (List.pairwise_append.1 h2).2.1
          rw [h.cells, suf_map, hsu, List.map_cons] at hsl
          have := List.rel_of_pairwise_cons hsl (List.mem_map_of_mem (f := cellOf a) e4)
          have := less_trans this hl'
          rw [h1] at this; cases this

/-- Where a row's walk ends. -/
theorem Skip.stop (h : Skip a nx L l) {A R : List Nat} {i row : Nat} (hp : 0 :: preI a L c = A ++ i :: R) (hr : row < hgt a i)
    (hn : nextAt (hgt a) (R ++ sufI a L c) row = 0 ∨ ∃ t, a[nextAt (hgt a) (R ++ sufI a L c) row]? = some t ∧ less t.c c = false) :
    lastAt (hgt a) (0 :: preI a L c) row = i := by
  rw [hp]
  refine lastAt_eq hr fun j hj hlt => ?_
  rcases nextAt_cases (hgt a) row R (sufI a L c) with ⟨R1, k, R2, e, hk, e2, _⟩ | ⟨hno, _⟩
  · have hkp := h.behind hp (j := k) (by rw [e]; simp)
    rw [e2] at hn
    rcases hn with hn | ⟨t, ht, hl⟩
    · exact h.pos (preI_sub hkp) hn
    · have := preI_less hkp
      rw [cellOf_at ht, hl] at this; cases this
  · exact hno j hj hlt

/-- In the lowest row all stand. -/
theorem nextAt_zero {h : Nat → Nat} : ∀ {R : List Nat}, (∀ i ∈ R, 1 ≤ h i) → nextAt h R 0 = R.headD 0
  | [], _ => rfl
  | j :: r, hh => by simp [nextAt]; intro h0; have := hh j List.mem_cons_self; omega
theorem lastAt_zero {h : Nat → Nat} : ∀ {A : List Nat} {x : Nat}, (∀ i ∈ A ++ [x], 1 ≤ h i) → lastAt h (A ++ [x]) 0 = x := fun {A x} hh =>
  lastAt_eq (hh x (by simp)) (fun i hi => by cases hi)

/-- The last one ahead. -/
theorem Skip.last (h : Skip a nx L l) (c : Cell) : ∃ A i, 0 :: preI a L c = A ++ [i] ∧ lastAt (hgt a) (0 :: preI a L c) 0 = i ∧ i < a.length ∧ (nx i)[0]? = some ((sufI a L c).headD 0) := by
  obtain ⟨A, i, e⟩ : ∃ A i, 0 :: preI a L c = A ++ [i] := ⟨(0 :: preI a L c).dropLast, (0 :: preI a L c).getLast (by simp), (List.dropLast_concat_getLast (by simp)).symm⟩
  have hin : ∀ j ∈ 0 :: preI a L c, j < a.length := fun j hj => by
    rcases List.mem_cons.1 hj with rfl | hj
    · exact h.mem0 List.mem_cons_self
    · exact h.mem0 (List.mem_cons_of_mem _ (preI_sub hj))
  have hi : i < a.length := hin i (by rw [e]; simp)
  refine ⟨A, i, e, ?_, hi, ?_⟩
  · rw [e]
    exact lastAt_zero (fun j hj => (h.hle j (hin j (by rw [e]; exact hj))).1)
  · have := h.nextR (c := c) (A := A) (R := []) (i := i) (row := 0) e (by have := (h.hle i hi).1; omega)
    rw [this, List.nil_append, nextAt_zero (fun j hj => (h.hle j (h.mem0 (List.mem_cons_of_mem _ (sufI_sub hj)))).1)]
/-- A tower behind, in the lowest row. -/
theorem Skip.next0 (h : Skip a nx L l) {D r : List Nat} {i : Nat} (hp : sufI a L c = D ++ i :: r) : i ∈ L ∧ (nx i)[0]? = some (r.headD 0) := by
  have hL : L = preI a L c ++ (D ++ i :: r) := by rw [← hp, pre_sufI]
  have hin : i ∈ L := by rw [hL]; simp
  have hr : ∀ j ∈ r, j ∈ L := fun j hj => by rw [hL]; simp [hj]
  refine ⟨hin, ?_⟩
  have hl := h.link
  have e : 0 :: L = (0 :: preI a L c ++ D) ++ i :: r := by
    have e2 : 0 :: (preI a L c ++ (D ++ i :: r)) = (0 :: preI a L c ++ D) ++ i :: r := by simp
    rwa [← hL] at e2
  rw [e] at hl
  rw [linked_at hl 0 (by have := (h.hle i (h.mem i hin).2).1; omega), nextAt_zero (fun j hj => (h.hle j (h.mem j (hr j hj)).2).1)]

theorem suf_first {key : Str} {seq : Int} : ∀ {l : List Cell}, Sorted l → first l key seq = ((suf l ⟨key, [], false, seq⟩).head?).filter fun s => decide (s.key = key)
  | [], _ => rfl
  | x :: l, hs => by
    have hs' : Sorted l := (List.pairwise_cons.1 hs).2
    have hx : ∀ y ∈ l, less x y = true := (List.pairwise_cons.1 hs).1
    have ih := suf_first (key := key) (seq := seq) hs'
    unfold first suf at *
    rw [List.find?_cons, List.dropWhile_cons]
    by_cases hl : less x ⟨key, [], false, seq⟩ = true
    · rw [if_pos hl]
      have hn : (decide (x.key = key) && decide (x.seq ≤ seq)) = false := by
        rw [less_iff] at hl
        rcases hl with hl | ⟨e, hl⟩
        · have := sLt_ne hl; simp only [] at this; simp [this]
        · simp only [] at e hl; simp [e]; omega
      rw [hn]; exact ih
    · rw [if_neg hl]
      simp only [List.head?_cons, Option.filter_some]
      have hl' : ¬ (sLt x.key key = true ∨ (x.key = key ∧ seq < x.seq)) := fun h => hl ((less_iff _ _).2 h)
      by_cases e : x.key = key
      · have hq : x.seq ≤ seq := by
          by_cases hq : x.seq ≤ seq
          · exact hq
          · exact absurd (.inr ⟨e, by omega⟩) hl'
        simp [e, hq]
      · have hgt : sLt key x.key = true := by
          rcases sLt_total x.key key with h | h | h
          · exact absurd h e
          · exact absurd (.inl h) hl'
          · exact h
        have hno : ∀ y ∈ l, (decide (y.key = key) && decide (y.seq ≤ seq)) = false := fun y hy => by
          have h1 := (less_iff _ _).1 (hx y hy)
          have h2 : y.key ≠ key := by
            rintro rfl
            rcases h1 with h1 | ⟨h1, _⟩
            · rw [sLt_asymm h1] at hgt; cases hgt
            · exact e h1
          simp [h2]
        have hfn : l.find? (fun c => decide (c.key = key) && decide (c.seq ≤ seq)) = none := by
          rw [List.find?_eq_none]
          intro y hy; rw [hno y hy]; decide
        simp [e, hfn]

theorem Skip.first_none (h : Skip a nx L l) (hs : Sorted l) {key : Str} {seq : Int} (h0 : (sufI a L ⟨key, [], false, seq⟩).headD 0 = 0) : first l key seq = none := by
  rw [suf_first hs, h.cells, suf_map]
  cases hsu : sufI a L ⟨key, [], false, seq⟩ with
  | nil => rfl
  | cons i r =>
    rw [hsu] at h0
    exact absurd h0 (h.pos (sufI_sub (c := ⟨key, [], false, seq⟩) (by rw [hsu]; simp)))
theorem Skip.first_at (h : Skip a nx L l) (hs : Sorted l) {key : Str} {seq : Int} {t : Tow} (h0 : (sufI a L ⟨key, [], false, seq⟩).headD 0 ≠ 0) (ht : a[(sufI a L ⟨key, [], false, seq⟩).headD 0]? = some t) : first l key seq = if t.c.key = key then some t.c else none := by
  rw [suf_first hs, h.cells, suf_map]
  cases hsu : sufI a L ⟨key, [], false, seq⟩ with
  | nil => rw [hsu] at h0; exact absurd rfl h0
  | cons i r =>
    rw [hsu] at ht
    simp only [List.headD_cons] at ht
    simp only [List.map_cons, List.head?_cons, Option.filter_some, cellOf_at ht]
    by_cases e : t.c.key = key <;> simp [e]
/-- The head of what stands behind is a tower, or there is none. -/
theorem Skip.head_at (h : Skip a nx L l) (h0 : (sufI a L c).headD 0 ≠ 0) : ∃ t, a[(sufI a L c).headD 0]? = some t := by
  cases hsu : sufI a L c with
  | nil => rw [hsu] at h0; exact absurd rfl h0
  | cons i r => exact ⟨_, List.getElem?_eq_getElem (h.mem i (sufI_sub (c := c) (by rw [hsu]; simp))).2⟩

theorem filter_pre {p q : Cell → Bool} : ∀ {l : List Cell}, (∀ x y, q x = false → less x y = true → q y = false) → Sorted l → (∀ x ∈ l, p x = true) → l.filter (fun x => p x && q x) = l.takeWhile q
  | [], _, _, _ => rfl
  | x :: l, hq, hs, hp => by
    have hs' := List.pairwise_cons.1 hs
    rw [List.filter_cons, List.takeWhile_cons, hp x List.mem_cons_self, Bool.true_and]
    cases hx : q x with
    | true => simp [filter_pre hq hs'.2 (fun y hy => hp y (List.mem_cons_of_mem _ hy))]
    | false =>
      simp only [Bool.false_eq_true, if_false]
      rw [List.filter_eq_nil_iff]
      intro y hy
      simp [hq x y hx (hs'.1 y hy)]

/-- What lies from a key up to another one. -/
theorem scan_suf {frm to : Str} : ∀ {l : List Cell}, Sorted l → (∀ x ∈ l, x.seq ≤ 4611686018427387904) → scan l frm to = (suf l ⟨frm, [], false, 4611686018427387904⟩).takeWhile fun x => (decide (to = []) || sLt x.key to)
  | [], _, _ => rfl
  | x :: l, hs, hb => by
    have hs' := List.pairwise_cons.1 hs
    have hbx := hb x List.mem_cons_self
    unfold scan suf
    rw [List.dropWhile_cons]
    by_cases hl : less x ⟨frm, [], false, 4611686018427387904⟩ = true
    · rw [if_pos hl]
      have hlt : sLt x.key frm = true := by
        rw [less_iff] at hl
        rcases hl with hl | ⟨_, hl⟩
        · exact hl
        · simp only [] at hl; omega
      have ih := scan_suf (frm := frm) (to := to) hs'.2 (fun y hy => hb y (List.mem_cons_of_mem _ hy))
      unfold scan suf at ih
      rw [List.filter_cons, if_neg (by simp [inScan, hlt])]
      exact ih
    · rw [if_neg hl]
      have hge : sLt x.key frm = false := by
        cases hh : sLt x.key frm with
        | false => rfl
        | true => exact absurd ((less_iff _ _).2 (.inl hh)) hl
      have hall : ∀ y ∈ x :: l, (!sLt y.key frm) = true := fun y hy => by
        rcases List.mem_cons.1 hy with rfl | hy
        · rw [hge]; rfl
        · cases hh : sLt y.key frm with
          | false => rfl
          | true =>
            rcases (less_iff _ _).1 (hs'.1 y hy) with h1 | ⟨h1, _⟩
            · rw [sLt_trans _ _ _ h1 hh] at hge; cases hge
            · rw [h1, hh] at hge; cases hge
      exact filter_pre (p := fun y => !sLt y.key frm) (fun u v hu huv => by
        simp only [Bool.or_eq_false_iff, decide_eq_false_iff_not] at hu ⊢
        refine ⟨hu.1, ?_⟩
        cases hh : sLt v.key to with
        | false => rfl
        | true =>
          rcases (less_iff _ _).1 huv with h1 | ⟨h1, _⟩
          · rw [sLt_trans _ _ _ h1 hh] at hu; cases hu.2
          · rw [h1, hh] at hu; cases hu.2) hs hall

theorem takeWhile_part {α : Type} {p : α → Bool} : ∀ {D r : List α}, (∀ x ∈ D, p x = true) → (∀ x, r.head? = some x → p x = false) → (D ++ r).takeWhile p = D
  | [], [], _, _ => rfl
  | [], x :: r, _, h => by simp [h x rfl]
  | d :: D, r, h1, h2 => by
    rw [List.cons_append, List.takeWhile_cons, if_pos (h1 d List.mem_cons_self), takeWhile_part (fun x hx => h1 x (List.mem_cons_of_mem _ hx)) h2]

theorem Skip.scan_done (h : Skip a nx L l) (hs : Sorted l) (hb : ∀ x ∈ l, x.seq ≤ 4611686018427387904) {frm to : Str} {D r : List Nat} (e : sufI a L ⟨frm, [], false, 4611686018427387904⟩ = D ++ r)
    (hD : ∀ i ∈ D, to = [] ∨ sLt (cellOf a i).key to = true) (hr : ∀ i, r.head? = some i → ¬ (to = [] ∨ sLt (cellOf a i).key to = true)) : scan l frm to = D.map (cellOf a) := by
  rw [scan_suf hs hb, h.cells, suf_map, e, List.map_append]
  refine takeWhile_part (fun x hx => ?_) (fun x hx => ?_)
  · obtain ⟨i, hi, rfl⟩ := List.mem_map.1 hx
    simpa using hD i hi
  · rw [List.head?_map] at hx
    obtain ⟨i, hi, rfl⟩ := Option.map_eq_some_iff.1 hx
    have := hr i hi
    rw [not_or] at this
    simp [this.1, this.2]
/-- Behind which tower a new one stands at a row. -/
theorem Skip.last_in (h : Skip a nx L l) (c : Cell) {row : Nat} (hr : row < 12) :
    ∃ A R, 0 :: preI a L c = A ++ lastAt (hgt a) (0 :: preI a L c) row :: R ∧ row < hgt a (lastAt (hgt a) (0 :: preI a L c) row) ∧ (∀ i ∈ R, ¬ row < hgt a i) := by
  have key : ∀ T : List Nat, (∃ i ∈ T, row < hgt a i) → ∃ A R, T = A ++ lastAt (hgt a) T row :: R ∧ row < hgt a (lastAt (hgt a) T row) ∧ (∀ i ∈ R, ¬ row < hgt a i) := by
    intro T
    induction T with
    | nil => rintro ⟨i, hi, _⟩; cases hi
    | cons j r ih =>
      intro hx
      by_cases hr2 : ∃ i ∈ r, row < hgt a i
      · obtain ⟨A, R, e, h2, h3⟩ := ih hr2
        have e2 : lastAt (hgt a) (j :: r) row = lastAt (hgt a) r row := by simp only [lastAt]; rw [if_pos hr2]
        rw [e2]
        exact ⟨j :: A, R, by rw [List.cons_append, ← e], h2, h3⟩
      · have hj : row < hgt a j := by
          obtain ⟨i, hi, hlt⟩ := hx
          rcases List.mem_cons.1 hi with rfl | hi
          · exact hlt
          · exact absurd ⟨i, hi, hlt⟩ hr2
        have e2 : lastAt (hgt a) (j :: r) row = j := by simp only [lastAt]; rw [if_neg hr2, if_pos hj]
        rw [e2]
        exact ⟨[], r, rfl, hj, fun i hi hlt => hr2 ⟨i, hi, hlt⟩⟩
  exact key _ ⟨0, List.mem_cons_self, by rw [h.h0]; exact hr⟩

theorem Skip.has_none (h : Skip a nx L l) (h0 : (sufI a L c).headD 0 = 0) : has l c = false := by
  unfold has
  rw [h.cells, suf_map]
  cases hsu : sufI a L c with
  | nil => rfl
  | cons i r =>
    rw [hsu] at h0
    exact absurd h0 (h.pos (sufI_sub (c := c) (by rw [hsu]; simp)))
theorem Skip.has_at (h : Skip a nx L l) {t : Tow} (h0 : (sufI a L c).headD 0 ≠ 0) (ht : a[(sufI a L c).headD 0]? = some t) : has l c = !less c t.c := by
  unfold has
  rw [h.cells, suf_map]
  cases hsu : sufI a L c with
  | nil => rw [hsu] at h0; exact absurd rfl h0
  | cons i r =>
    rw [hsu] at ht
    simp only [List.headD_cons] at ht
    have hn := sufI_head hsu
    rw [cellOf_at ht] at hn
    simp only [List.map_cons, cellOf_at ht]
    cases hl : less c t.c with
    | false =>
      have := less_tie hn hl
      simp [this.1, this.2]
    | true =>
      simp only [Bool.not_true, Bool.and_eq_false_iff, decide_eq_false_iff_not]
      by_cases e : t.c.key = c.key
      · right
        intro e2
        rw [less_of_tie e.symm e2.symm] at hl
        cases hl
      · exact .inl e

theorem list_ext_lt {α : Type} {x y : List α} {n : Nat} (hx : x.length = n) (hy : y.length = n) (h : ∀ i, i < n → x[i]? = y[i]?) : x = y := by
  apply List.ext_getElem?
  intro i
  by_cases hi : i < n
  · exact h i hi
  · rw [List.getElem?_eq_none (by omega), List.getElem?_eq_none (by omega)]

/-- A tower laid. -/
theorem Skip.put (h : Skip a nx L l) {t : Tow} {nx2 : Nat → List Nat} (htc : t.c = c) (hh : 1 ≤ t.h ∧ t.h ≤ 12)
    (hlen : ∀ i, i < a.length → (nx i).length = hgt a i ∧ (nx2 i).length = hgt a i)
    (hq : ∀ row, row < t.h → (nx2 a.length)[row]? = some (nextAt (hgt a) (sufI a L c) row))
    (hlay : ∀ i row, i < a.length → row < hgt a i → (nx2 i)[row]? = if row < t.h ∧ lastAt (hgt a) (0 :: preI a L c) row = i then some a.length else (nx i)[row]?) :
    Skip (a ++ [t]) nx2 (preI a L c ++ a.length :: sufI a L c) (pre l c ++ c :: suf l c) := by
  have hps := pre_sufI a L c
  have hg : ∀ i, i < a.length → hgt (a ++ [t]) i = hgt a i := fun i hi => by unfold hgt; rw [List.getElem?_append_left hi]
  have hgn : hgt (a ++ [t]) a.length = t.h := by unfold hgt; simp
  have hc : ∀ i, i < a.length → cellOf (a ++ [t]) i = cellOf a i := fun i hi => by unfold cellOf; rw [List.getElem?_append_left hi]
  have hcn : cellOf (a ++ [t]) a.length = c := by unfold cellOf; simp [htc]
  have hmem : ∀ i, i ∈ preI a L c ++ sufI a L c → 1 ≤ i ∧ i < a.length := fun i hi => h.mem i (by rw [hps] at hi; exact hi)
  have h0a : 0 < a.length := by have := h.len; omega
  have hnd : (0 :: (preI a L c ++ sufI a L c)).Nodup := List.nodup_cons.2 ⟨fun h0 => by have := (hmem 0 h0).1; omega, by rw [hps]; exact h.nd⟩
  have hndp : (0 :: preI a L c).Nodup := by
    have : (0 :: preI a L c ++ sufI a L c).Nodup := hnd
    exact (List.nodup_append.1 this).1
  have hdis : ∀ i ∈ 0 :: preI a L c, ∀ j ∈ sufI a L c, i ≠ j := by
    have : (0 :: preI a L c ++ sufI a L c).Nodup := hnd
    exact (List.nodup_append.1 this).2.2
  have hlast : ∀ row, row < 12 → lastAt (hgt a) (0 :: preI a L c) row ∈ 0 :: preI a L c := fun row hr => by
    obtain ⟨A, R, e, _⟩ := h.last_in c hr
    rw [e]
    have e' : lastAt (hgt a) (A ++ lastAt (hgt a) (0 :: preI a L c) row :: R) row = lastAt (hgt a) (0 :: preI a L c) row := by rw [← e]
    rw [e']; simp
  have hall : ∀ i ∈ 0 :: preI a L c, i < a.length := fun i hi => by
    rcases List.mem_cons.1 hi with rfl | hi
    · exact h0a
    · exact (hmem i (List.mem_append_left _ hi)).2
  refine ⟨?_, ?_, ?_, ?_, ?_, ?_, ?_⟩
  · have e := congrArg List.length hps
    rw [List.length_append] at e
    rw [List.length_append, List.length_append, List.length_cons, h.len]
    simp; omega
  · intro i hi
    rw [List.length_append]
    simp only [List.mem_append, List.mem_cons] at hi
    rcases hi with hi | rfl | hi
    · have := hmem i (List.mem_append_left _ hi); simp; omega
    · simp; omega
    · have := hmem i (List.mem_append_right _ hi); simp; omega
  · have hnd2 : (preI a L c ++ sufI a L c).Nodup := by rw [hps]; exact h.nd
    have hp := List.nodup_append.1 hnd2
    refine List.nodup_append.2 ⟨hp.1, List.nodup_cons.2 ⟨fun hm => ?_, hp.2.1⟩, fun x hx y hy => ?_⟩
    · have := (hmem _ (List.mem_append_right _ hm)).2; omega
    · rcases List.mem_cons.1 hy with rfl | hy
      · have := (hmem x (List.mem_append_left _ hx)).2; omega
      · exact hp.2.2 x hx y hy
  · have e1 : pre l c = (preI a L c).map (cellOf a) := by rw [h.cells, pre_map]
    have e2 : suf l c = (sufI a L c).map (cellOf a) := by rw [h.cells, suf_map]
    rw [e1, e2, List.map_append, List.map_cons, hcn]
    have e3 : ∀ T : List Nat, (∀ i ∈ T, i < a.length) → T.map (cellOf (a ++ [t])) = T.map (cellOf a) := fun T hT => List.map_congr_left (fun i hi => hc i (hT i hi))
    rw [e3 _ (fun i hi => (hmem i (List.mem_append_left _ hi)).2), e3 _ (fun i hi => (hmem i (List.mem_append_right _ hi)).2)]
  · rw [hg 0 h0a]; exact h.h0
  · intro i hi
    rw [List.length_append] at hi
    by_cases hia : i < a.length
    · rw [hg i hia]; exact h.hle i hia
    · have : i = a.length := by simp at hi; omega
      rw [this, hgn]; exact hh
  · show Linked (hgt (a ++ [t])) nx2 ((0 :: preI a L c) ++ a.length :: sufI a L c)
    refine linked_insert (h := hgt a) (nx := nx) (0 :: preI a L c) (sufI a L c) (fun i hi => ?_) (by rw [List.cons_append, hps]; exact h.link) (fun i hi => ?_) (fun row hr => ?_) (fun i hi row hr => ?_) hndp
    · have hlt : i < a.length := by
        rcases List.mem_append.1 hi with hi | hi
        · exact hall i hi
        · exact (hmem i (List.mem_append_right _ hi)).2
      exact ⟨hg i hlt, by omega⟩
    · have hlt := (hmem i (List.mem_append_right _ hi)).2
      refine list_ext_lt (hlen i hlt).2 (hlen i hlt).1 (fun row hr => ?_)
      rw [hlay i row hlt hr, if_neg]
      rintro ⟨h1, h2⟩
      exact hdis _ (hlast row (by omega)) i hi h2
    · rw [hgn] at hr
      exact hq row hr
    · rw [hlay i row (hall i hi) hr, hgn]
      by_cases hx : row < t.h ∧ lastAt (hgt a) (0 :: preI a L c) row = i
      · rw [if_pos hx, if_pos ⟨hx.2, hx.1⟩]
      · rw [if_neg hx, if_neg (fun y => hx ⟨y.2, y.1⟩)]

theorem sizeL_split (l : List Cell) (c : Cell) : sizeL (pre l c ++ c :: suf l c) = sizeL l + sizeC c := by
  have e : sizeL l = sizeL (pre l c ++ suf l c) := by rw [pre_suf]
  rw [e]
  unfold sizeL
  simp only [List.map_append, List.map_cons, List.sum_append, List.sum_cons]
  omega
theorem len_split (l : List Cell) (c : Cell) : (pre l c ++ c :: suf l c).length = l.length + 1 := by
  have e : l.length = (pre l c ++ suf l c).length := by rw [pre_suf]
  rw [e]
  simp only [List.length_append, List.length_cons]
  omega

end

end Go.Sp
