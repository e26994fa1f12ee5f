/-
  Walks.
-/
import Derived.Test.YteninjhmmjkckaaGreatDoorChecked
import Derived.Test.YteninjhmmjkckaaGreatDoorSpMem
import Derived.KernelRfl
import Derived.Test.YteninjhmmjkckaaGreatDoorSpKey
import Derived.Test.YteninjhmmjkckaaGreatDoorVcL
namespace Go.Proofs.YteninjhmmjkckaaGreatDoor
open Go.Vc Go.Sp
attribute [local irreducible] W XW Dw DwT
set_option linter.unusedVariables false
set_option linter.unusedSimpArgs false

/-- An attribute where it lies. -/
structure AttrV where
  typ : Str
  vals : List Str
  v : Value
@[reducible] def AttrV.cs (a : AttrV) : List Value := [S a.typ, a.v]
def AttrV.toA (a : AttrV) : Sp.Attr := ⟨a.typ, a.vals⟩
def ValsAt (w : World) (l : List AttrV) : Prop := ∀ a ∈ l, Arr sEnc 1 w a.v a.vals
theorem ValsAt.ext {w w' : World} {l : List AttrV} (h : ValsAt w l) (x : Ext w w') : ValsAt w' l := fun a ha => (h a ha).ext x
theorem ValsAt.at {w : World} {l : List AttrV} {k : Nat} {a : AttrV} (h : ValsAt w l) (hk : l[k]? = some a) : Arr sEnc 1 w a.v a.vals := h a (List.mem_of_getElem? hk)
theorem toA_at {l : List AttrV} {k : Nat} {a : AttrV} (h : l[k]? = some a) : (l.map AttrV.toA)[k]? = some a.toA := by rw [List.getElem?_map, h]; rfl


end Go.Proofs.YteninjhmmjkckaaGreatDoor
