/-
  Which types there are; how much an entry weighs. Plain laws.
-/
import Derived.Test.YteninjhmmjkckaaGreatDoorSpMa
namespace Go.Sp
open Go.Vc
set_option linter.unusedVariables false
set_option linter.unusedSimpArgs false

def ns1 : List Str := [[111, 98, 106, 101, 99, 116, 99, 108, 97, 115, 115], [99, 110], [115, 110], [111, 117], [111], [100, 99], [117, 105, 100], [109, 97, 105, 108], [100, 101, 115, 99, 114, 105, 112, 116, 105, 111, 110], [116, 105, 116, 108, 101], [108]]
def ns2 : List Str := [[117, 105, 100, 110, 117, 109, 98, 101, 114], [103, 105, 100, 110, 117, 109, 98, 101, 114]]
def ns3 : List Str := [[109, 101, 109, 98, 101, 114], [109, 97, 110, 97, 103, 101, 114], [115, 101, 101, 97, 108, 115, 111]]
def ns0 : List Str := [[116, 101, 108, 101, 112, 104, 111, 110, 101, 110, 117, 109, 98, 101, 114], [117, 115, 101, 114, 112, 97, 115, 115, 119, 111, 114, 100], [100, 105, 115, 112, 108, 97, 121, 110, 97, 109, 101]]
def kindM (t : Str) : Option (Int × Bool) :=
  if t = [116, 101, 108, 101, 112, 104, 111, 110, 101, 110, 117, 109, 98, 101, 114] then some (5, false) else if t = [117, 115, 101, 114, 112, 97, 115, 115, 119, 111, 114, 100] then some (4, false) else if t = [100, 105, 115, 112, 108, 97, 121, 110, 97, 109, 101] then some (1, true)
  else if t ∈ ns1 then some (1, false) else if t ∈ ns2 then some (2, true) else if t ∈ ns3 then some (3, false) else none
def nsAll : List Str := ns0 ++ ns1 ++ ns2 ++ ns3
theorem kindM_mem {t : Str} {p : Int × Bool} (h : kindM t = some p) : t ∈ nsAll := by
  unfold kindM at h
  unfold nsAll
  simp only [List.mem_append]
  repeat' split at h
  all_goals first
    | (cases h; done)
    | (rename_i e; subst e; exact .inl (.inl (.inl (by decide))))
    | (rename_i e; exact .inl (.inl (.inr e)))
    | (rename_i e; exact .inl (.inr e))
    | (rename_i e; exact .inr e)
/-- What a type is. -/
def typeM (s : Str) : Option (Str × Int × Bool) := (kindM (foldS s)).map fun p => (foldS s, p.1, p.2)
theorem kindM_all {t : Str} {p : Int × Bool} (h : kindM t = some p) : (∀ c ∈ t, c ≠ 0) ∧ t.length ≤ 15 ∧ (t.length ≤ 5 → p.1 = 1) := by
  have h1 : ∀ t ∈ nsAll, (∀ c ∈ t, c ≠ 0) ∧ t.length ≤ 15 ∧ (t.length ≤ 5 → kindM t = some (1, false)) := by decide
  obtain ⟨a, b, c⟩ := h1 t (kindM_mem h)
  exact ⟨a, b, fun hl => by have := c hl; rw [h] at this; cases this; rfl⟩

/-! ### an entry -/
structure Attr where
  typ : Str
  vals : List Str
structure Entry where
  dn : List Ava
  attrs : List Attr

def wVals (l : List Str) : Nat := (l.map fun v => 1 + v.length).sum
def wAttr (a : Attr) : Nat := 1 + a.typ.length + wVals a.vals
def wAttrs (l : List Attr) : Nat := (l.map wAttr).sum
def wDn (l : List Ava) : Nat := (l.map fun a => 1 + a.typ.length + a.val.length).sum
def wE (e : Entry) : Nat := wDn e.dn + wAttrs e.attrs
theorem sum_mem {α : Type} {f : α → Nat} : ∀ {l : List α} {x : α}, x ∈ l → f x ≤ (l.map f).sum
  | y :: l, x, h => by
    rw [List.map_cons, List.sum_cons]
    rcases List.mem_cons.1 h with rfl | h
    · omega
    · have := sum_mem (f := f) h; omega
theorem sum_len {α : Type} {f : α → Nat} (hf : ∀ x, 1 ≤ f x) : ∀ l : List α, l.length ≤ (l.map f).sum
  | [] => by simp
  | y :: l => by
    rw [List.map_cons, List.sum_cons, List.length_cons]
    have := sum_len hf l
    have := hf y
    omega
theorem sum_take {α : Type} {f : α → Nat} {l : List α} {k : Nat} {x : α} (h : l[k]? = some x) : ((l.take k).map f).sum + f x ≤ (l.map f).sum := by
  have e : l = l.take k ++ x :: l.drop (k + 1) := by rw [← drop_consS h, List.take_append_drop]
  have e2 : (l.map f).sum = ((l.take k).map f).sum + (f x + ((l.drop (k + 1)).map f).sum) := by
    conv => lhs; rw [e]
    rw [List.map_append, List.sum_append, List.map_cons, List.sum_cons]
  omega

def tOk (s : Str) : Bool := (kindM (foldS s)).isSome
def tC (s : Str) : Str := if tOk s = true then foldS s else []
def tY (s : Str) : Int := ((kindM (foldS s)).getD (0, false)).1
def tG (s : Str) : Bool := ((kindM (foldS s)).getD (0, false)).2
theorem tC_len (s : Str) : (tC s).length ≤ s.length := by
  unfold tC; have := foldS_len s; split <;> simp <;> omega


end Go.Sp
