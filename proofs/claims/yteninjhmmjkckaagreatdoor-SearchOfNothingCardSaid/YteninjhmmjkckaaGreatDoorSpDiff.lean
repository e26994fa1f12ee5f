/-
  Rows of texts that rise: what makes one the other. Plain laws.
-/
import Derived.Test.YteninjhmmjkckaaGreatDoorSpMem
namespace Go.Sp
open Go.Vc
set_option linter.unusedVariables false

structure Rw where
  key : Str
  val : Str
  del : Bool
deriving DecidableEq
@[reducible] def Rw.cs (r : Rw) : List Value := [S r.key, S r.val, B r.del]

def Rise : List Str → Prop := List.Pairwise fun a b => sLt a b = true

/-- Each is below the next one. -/
def riseB : List Str → Bool
  | a :: b :: r => sLt a b && riseB (b :: r)
  | _ => true

theorem riseB_iff : ∀ l : List Str, riseB l = true → Rise l
  | [], _ => List.Pairwise.nil
  | [a], _ => List.pairwise_singleton ..
  | a :: b :: r, h => by
    simp only [riseB, Bool.and_eq_true] at h
    have ih := riseB_iff (b :: r) h.2
    refine List.pairwise_cons.2 ⟨fun x hx => ?_, ih⟩
    rcases List.mem_cons.1 hx with rfl | hx
    · exact h.1
    · exact sLt_trans _ _ _ h.1 (List.rel_of_pairwise_cons ih hx)

def dif : List Str → List Str → List Rw
  | [], [] => []
  | o :: os, [] => ⟨o, [], true⟩ :: dif os []
  | [], n :: ns => ⟨n, [], false⟩ :: dif [] ns
  | o :: os, n :: ns => if sLt o n then ⟨o, [], true⟩ :: dif os (n :: ns) else if sLt n o then ⟨n, [], false⟩ :: dif (o :: os) ns else dif os ns
termination_by a b => a.length + b.length

def cutS (l : List Str) (s : Str) : List Str := l.filter fun x => decide (x ≠ s)
/-- A text laid in a row that rises. -/
def layS (l : List Str) (s : Str) : List Str := if (l.dropWhile (sLt · s)).head? = some s then l else l.takeWhile (sLt · s) ++ s :: l.dropWhile (sLt · s)
def applyR (l : List Str) (r : Rw) : List Str := if r.del then cutS l r.key else layS l r.key

theorem rise_append {a b : List Str} (h : Rise (a ++ b)) : Rise a ∧ Rise b ∧ ∀ x ∈ a, ∀ y ∈ b, sLt x y = true := List.pairwise_append.1 h

theorem cut_at {P os : List Str} {o : Str} (h : Rise (P ++ o :: os)) : cutS (P ++ o :: os) o = P ++ os := by
  have h1 := rise_append h
  have h2 := List.pairwise_cons.1 h1.2.1
  unfold cutS
  rw [List.filter_append, List.filter_cons]
  have e1 : P.filter (fun x => decide (x ≠ o)) = P := by
    rw [List.filter_eq_self]
    intro x hx
    have := sLt_ne (h1.2.2 x hx o List.mem_cons_self)
    simp [this]
  have e2 : os.filter (fun x => decide (x ≠ o)) = os := by
    rw [List.filter_eq_self]
    intro x hx
    have := sLt_ne (h2.1 x hx)
    simp [Ne.symm this]
  rw [e1, e2]; simp

theorem lay_at {P old : List Str} {n : Str} (h1 : ∀ x ∈ P, sLt x n = true) (h2 : ∀ x ∈ old, sLt n x = true) : layS (P ++ old) n = P ++ n :: old := by
  have e : ∀ x, old.head? = some x → sLt x n = false := fun x hx => by
    cases old with
    | nil => cases hx
    | cons y r => cases hx; exact sLt_asymm (h2 x List.mem_cons_self)
  have e1 : (P ++ old).takeWhile (sLt · n) = P := by
    clear h2
    induction P with
    | nil =>
      cases old with
      | nil => rfl
      | cons y r => simp [e y rfl]
    | cons p P ih =>
      rw [List.cons_append, List.takeWhile_cons, if_pos (h1 p List.mem_cons_self), ih (fun x hx => h1 x (List.mem_cons_of_mem _ hx))]
  have e2 : (P ++ old).dropWhile (sLt · n) = old := by
    clear h2
    clear e1
    induction P with
    | nil =>
      cases old with
      | nil => rfl
      | cons y r => simp [e y rfl]
    | cons p P ih =>
      rw [List.cons_append, List.dropWhile_cons, if_pos (h1 p List.mem_cons_self), ih (fun x hx => h1 x (List.mem_cons_of_mem _ hx))]
  unfold layS
  rw [e1, e2, if_neg]
  intro hh
  cases old with
  | nil => cases hh
  | cons y r =>
    cases hh
    have := h2 n List.mem_cons_self
    rw [sLt_irrefl] at this; cases this

/-- Put in order, the rows make the one the other. -/
theorem dif_makes (os ns : List Str) (P : List Str) (ho : Rise (P ++ os)) (hn : Rise (P ++ ns)) : (dif os ns).foldl applyR (P ++ os) = P ++ ns := by
  fun_induction dif os ns generalizing P with
  | case1 => rfl
  | case2 o os ih =>
    rw [List.foldl_cons]
    have e : applyR (P ++ o :: os) ⟨o, [], true⟩ = P ++ os := cut_at ho
    rw [e]
    have h1 := rise_append ho
    exact ih P (List.pairwise_append.2 ⟨h1.1, (List.pairwise_cons.1 h1.2.1).2, fun a ha b hb => h1.2.2 a ha b (List.mem_cons_of_mem _ hb)⟩) hn
  | case3 n ns ih =>
    rw [List.foldl_cons]
    have h2 := rise_append hn
    have e : applyR (P ++ []) ⟨n, [], false⟩ = P ++ [n] := lay_at (old := []) (fun x hx => h2.2.2 x hx n List.mem_cons_self) (fun x hx => by cases hx)
    rw [e]
    have hn' : Rise ((P ++ [n]) ++ ns) := by simpa using hn
    have := ih (P ++ [n]) (by rw [List.append_nil]; exact (rise_append hn').1) hn'
    simpa using this
  | case4 o os n ns hlt ih =>
    rw [List.foldl_cons]
    have e : applyR (P ++ o :: os) ⟨o, [], true⟩ = P ++ os := cut_at ho
    rw [e]
    have h1 := rise_append ho
    exact ih P (List.pairwise_append.2 ⟨h1.1, (List.pairwise_cons.1 h1.2.1).2, fun a ha b hb => h1.2.2 a ha b (List.mem_cons_of_mem _ hb)⟩) hn
  | case5 o os n ns hlt hgt ih =>
    rw [List.foldl_cons]
    have h1 := rise_append ho
    have h2 := rise_append hn
    have h3 := List.pairwise_cons.1 h1.2.1
    have hnx : ∀ x ∈ o :: os, sLt n x = true := fun x hx => by
      rcases List.mem_cons.1 hx with rfl | hx
      · exact hgt
      · exact sLt_trans _ _ _ hgt (h3.1 x hx)
    have e : applyR (P ++ o :: os) ⟨n, [], false⟩ = P ++ n :: o :: os := lay_at (fun x hx => h2.2.2 x hx n List.mem_cons_self) hnx
    rw [e]
    have hn' : Rise ((P ++ [n]) ++ ns) := by simpa using hn
    have ho' : Rise ((P ++ [n]) ++ o :: os) := by
      refine List.pairwise_append.2 ⟨(rise_append hn').1, h1.2.1, fun a ha b hb => ?_⟩
      rcases List.mem_append.1 ha with ha | ha
      · exact h1.2.2 a ha b hb
      · rw [List.mem_singleton.1 ha]; exact hnx b hb
    have := ih (P ++ [n]) ho' hn'
    simpa using this
  | case6 o os n ns hlt hgt ih =>
    have e : o = n := by
      rcases sLt_total o n with h | h | h
      · exact h
      · exact absurd h hlt
      · exact absurd h hgt
    subst e
    have hn' : Rise ((P ++ [o]) ++ ns) := by simpa using hn
    have ho' : Rise ((P ++ [o]) ++ os) := by simpa using ho
    have := ih (P ++ [o]) ho' hn'
    simpa using this

end Go.Sp
