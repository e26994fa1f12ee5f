/-
  Skip lists: plain definitions and laws. No program in sight.
-/
import Derived.Test.YtodmkkcediofgaaSpMem
namespace Go.Sp
open Go.Vc

/-- The first of a row of indices that is taller than a row; 0: none. -/
def nextAt (h : Nat → Nat) : List Nat → Nat → Nat
  | [], _ => 0
  | j :: r, row => if row < h j then j else nextAt h r row

/-- The last one that is taller. -/
def lastAt (h : Nat → Nat) : List Nat → Nat → Nat
  | [], _ => 0
  | j :: r, row => if ∃ i ∈ r, row < h i then lastAt h r row else if row < h j then j else 0

def Linked (h : Nat → Nat) (nx : Nat → List Nat) : List Nat → Prop
  | [] => True
  | i :: r => (∀ row, row < h i → (nx i)[row]? = some (nextAt h r row)) ∧ Linked h nx r

theorem nextAt_none {h : Nat → Nat} {row : Nat} : ∀ {R S : List Nat}, (∀ i ∈ R, ¬ row < h i) → nextAt h (R ++ S) row = nextAt h S row
  | [], S, _ => rfl
  | j :: r, S, hn => by
    simp only [List.cons_append, nextAt]
    rw [if_neg (hn j List.mem_cons_self)]
    exact nextAt_none (fun i hi => hn i (List.mem_cons_of_mem _ hi))

theorem nextAt_cases (h : Nat → Nat) (row : Nat) : ∀ (R S : List Nat), (∃ R1 j R2, R = R1 ++ j :: R2 ∧ row < h j ∧ nextAt h (R ++ S) row = j ∧ (∀ i ∈ R1, ¬ row < h i)) ∨ ((∀ i ∈ R, ¬ row < h i) ∧ nextAt h (R ++ S) row = nextAt h S row)
  | [], S => .inr ⟨(fun i hi => by cases hi), rfl⟩
  | j :: r, S => by
    by_cases hj : row < h j
    · exact .inl ⟨[], j, r, rfl, hj, by simp [nextAt, hj], (fun i hi => by cases hi)⟩
    · rcases nextAt_cases h row r S with ⟨R1, k, R2, rfl, hk, he, hn⟩ | ⟨hn, he⟩
      · refine .inl ⟨j :: R1, k, R2, rfl, hk, ?_, fun i hi => ?_⟩
        · simp only [List.cons_append, nextAt, if_neg hj] at he ⊢; exact he
        · rcases List.mem_cons.1 hi with rfl | hi
          · exact hj
          · exact hn i hi
      · refine .inr ⟨fun i hi => ?_, ?_⟩
        · rcases List.mem_cons.1 hi with rfl | hi
          · exact hj
          · exact hn i hi
        · simp only [List.cons_append, nextAt, if_neg hj]; exact he

theorem nextAt_mem (h : Nat → Nat) (row : Nat) : ∀ S : List Nat, nextAt h S row = 0 ∨ (nextAt h S row ∈ S ∧ row < h (nextAt h S row))
  | [] => .inl rfl
  | j :: r => by
    simp only [nextAt]
    by_cases hj : row < h j
    · rw [if_pos hj]; exact .inr ⟨List.mem_cons_self, hj⟩
    · rw [if_neg hj]
      rcases nextAt_mem h row r with e | ⟨e, e2⟩
      · exact .inl e
      · exact .inr ⟨List.mem_cons_of_mem _ e, e2⟩

theorem lastAt_eq {h : Nat → Nat} {row at' : Nat} : ∀ {A R : List Nat}, row < h at' → (∀ i ∈ R, ¬ row < h i) → lastAt h (A ++ at' :: R) row = at'
  | [], R, ha, hn => by
    simp only [List.nil_append, lastAt]
    rw [if_neg (by rintro ⟨i, hi, hlt⟩; exact hn i hi hlt), if_pos ha]
  | j :: A, R, ha, hn => by
    simp only [List.cons_append, lastAt]
    rw [if_pos ⟨at', by simp, ha⟩]
    exact lastAt_eq ha hn

theorem linked_at {h : Nat → Nat} {nx : Nat → List Nat} : ∀ {A R : List Nat} {i : Nat}, Linked h nx (A ++ i :: R) → ∀ row, row < h i → (nx i)[row]? = some (nextAt h R row)
  | [], _, _, hl => hl.1
  | _ :: A, _, _, hl => linked_at (A := A) hl.2

/-- A new one is laid between two parts. -/
theorem linked_insert {h h' : Nat → Nat} {nx nx' : Nat → List Nat} {q : Nat} : ∀ (A S : List Nat), (∀ i ∈ A ++ S, h' i = h i ∧ i ≠ q) → Linked h nx (A ++ S) →
    (∀ i ∈ S, nx' i = nx i) → (∀ row, row < h' q → (nx' q)[row]? = some (nextAt h S row)) →
    (∀ i ∈ A, ∀ row, row < h i → (nx' i)[row]? = if lastAt h A row = i ∧ row < h' q then some q else (nx i)[row]?) → A.Nodup →
    Linked h' nx' (A ++ q :: S)
  | [], S, hh, hl, hS, hq, _, _ => by
    have hn : ∀ T : List Nat, (∀ i ∈ T, h' i = h i) → ∀ row, nextAt h' T row = nextAt h T row := by
      intro T
      induction T with
      | nil => intro _ _; rfl
      | cons j r ih => intro hT row; simp only [nextAt]; rw [hT j List.mem_cons_self, ih (fun i hi => hT i (List.mem_cons_of_mem _ hi))]
    have hlink : ∀ T : List Nat, (∀ i ∈ T, h' i = h i ∧ nx' i = nx i) → Linked h nx T → Linked h' nx' T := by
      intro T
      induction T with
      | nil => intro _ _; trivial
      | cons j r ih =>
        intro hT hl
        obtain ⟨h1, h2⟩ := hT j List.mem_cons_self
        refine ⟨fun row hr => ?_, ih (fun i hi => hT i (List.mem_cons_of_mem _ hi)) hl.2⟩
        rw [h2, hn r (fun i hi => (hT i (List.mem_cons_of_mem _ hi)).1)]
        exact hl.1 row (by rw [← h1]; exact hr)
    refine ⟨fun row hr => ?_, hlink S (fun i hi => ⟨(hh i (by simpa using hi)).1, hS i hi⟩) (by simpa using hl)⟩
    rw [hq row hr, hn S (fun i hi => (hh i (by simpa using hi)).1)]
  | a :: A, S, hh, hl, hS, hq, hA, hnd => by
    have hnd' := List.nodup_cons.1 hnd
    have hrec := linked_insert (h := h) (h' := h') (nx := nx) (nx' := nx') (q := q) A S (fun i hi => hh i (List.mem_cons_of_mem _ hi)) hl.2 hS hq (fun i hi row hr => by
      have h1 := hA i (List.mem_cons_of_mem _ hi) row hr
      have e : lastAt h (a :: A) row = lastAt h A row := by
        simp only [lastAt]
        rw [if_pos ⟨i, hi, hr⟩]
      rw [e] at h1; exact h1) hnd'.2
    refine ⟨fun row hr => ?_, hrec⟩
    have ha := (hh a List.mem_cons_self)
    rw [ha.1] at hr
    have h1 := hA a List.mem_cons_self row hr
    have h2 : (nx a)[row]? = some (nextAt h (A ++ S) row) := hl.1 row hr
    show (nx' a)[row]? = some (nextAt h' (A ++ q :: S) row)
    rw [h1]
    have hgen : ∀ T : List Nat, (∀ i ∈ T, h' i = h i) → nextAt h' (T ++ q :: S) row = if ∃ i ∈ T, row < h i then nextAt h (T ++ S) row else if row < h' q then q else nextAt h S row := by
      intro T
      induction T with
      | nil =>
        intro _
        have hn : ∀ T : List Nat, (∀ i ∈ T, h' i = h i) → nextAt h' T row = nextAt h T row := by
          intro T
          induction T with
          | nil => intro _; rfl
          | cons j r ih => intro hT; simp only [nextAt]; rw [hT j List.mem_cons_self, ih (fun i hi => hT i (List.mem_cons_of_mem _ hi))]
        simp only [List.nil_append, nextAt]
        rw [hn S (fun i hi => (hh i (List.mem_cons_of_mem _ (by simp [hi]))).1)]
        simp
      | cons j r ih =>
        intro hT
        simp only [List.cons_append, nextAt]
        rw [hT j List.mem_cons_self, ih (fun i hi => hT i (List.mem_cons_of_mem _ hi))]
        by_cases hj : row < h j
        · simp [hj]
        · simp [hj]
    rw [hgen A (fun i hi => (hh i (List.mem_cons_of_mem _ (by simp [hi]))).1)]
    by_cases hex : ∃ i ∈ A, row < h i
    · rw [if_pos hex]
      have hne : ¬ (lastAt h (a :: A) row = a ∧ row < h' q) := by
        rintro ⟨he, _⟩
        simp only [lastAt] at he
        rw [if_pos hex] at he
        have : lastAt h A row ∈ A := by
          have hmem : ∀ T : List Nat, (∃ i ∈ T, row < h i) → lastAt h T row ∈ T := by
            intro T
            induction T with
            | nil => rintro ⟨i, hi, _⟩; cases hi
            | cons j r ih =>
              intro hx
              simp only [lastAt]
              by_cases hr2 : ∃ i ∈ r, row < h i
              · rw [if_pos hr2]; exact List.mem_cons_of_mem _ (ih hr2)
              · rw [if_neg hr2]
                obtain ⟨i, hi, hlt⟩ := hx
                rcases List.mem_cons.1 hi with rfl | hi
                · rw [if_pos hlt]; exact List.mem_cons_self
                · exact absurd ⟨i, hi, hlt⟩ hr2
          exact hmem A hex
        rw [he] at this
        exact hnd'.1 this
      rw [if_neg hne, h2]
    · rw [if_neg hex]
      have he : lastAt h (a :: A) row = a := by
        simp only [lastAt]; rw [if_neg hex, if_pos hr]
      have hnone : nextAt h (A ++ S) row = nextAt h S row := nextAt_none (fun i hi hlt => hex ⟨i, hi, hlt⟩)
      by_cases hq' : row < h' q
      · rw [if_pos ⟨he, hq'⟩, if_pos hq']
      · rw [if_neg (fun x => hq' x.2), if_neg hq', h2, hnone]

end Go.Sp
