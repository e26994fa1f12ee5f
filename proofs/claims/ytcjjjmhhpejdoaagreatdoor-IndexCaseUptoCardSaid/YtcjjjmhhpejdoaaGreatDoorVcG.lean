/-
  Bytes made of a text, that are written to one by one. Nothing is assumed.
-/
import Derived.Test.YtcjjjmhhpejdoaaGreatDoorVcU
namespace Go.Vc
open Go.RowKit
set_option linter.unusedVariables false
set_option linter.unusedSimpArgs false

/-- A row of bytes of the call's own, out of a text (what lies behind its end is frozen). -/
def Byts (w : World) (b e cap : Nat) (l : Str) : Prop := ∃ pad : List Value, w.heap[b]? = some (.cells ⟨(l.map fun c => Value.int .u8 c.toNat) ++ pad⟩ e (cap, cap + 1)) ∧ l.length + pad.length = cap
section
variable {w w' : World} {b e cap : Nat} {l : Str}
theorem Byts.lt (h : Byts w b e cap l) : b < w.heap.size := by
  obtain ⟨pad, h1, _⟩ := h
  exact (Array.getElem?_eq_some_iff.1 h1).1
theorem Byts.mod {S : Nat → Prop} (h : Byts w b e cap l) (m : Mod S w w') (hS : ¬ S b) : Byts w' b e cap l := by
  have hlt := h.lt
  obtain ⟨pad, h1, h2⟩ := h
  exact ⟨pad, by rw [m.block b hlt hS]; exact h1, h2⟩
theorem Byts.ext (h : Byts w b e cap l) (m : Ext w w') : Byts w' b e cap l := h.mod m (fun h => h)
theorem Byts.cell (h : Byts w b e cap l) {i : Nat} {c : UInt8} (hi : l[i]? = some c) : w.cell? ⟨b, i, none⟩ = some (.int .u8 c.toNat) := by
  obtain ⟨pad, h1, h2⟩ := h
  have hlt := (List.getElem?_eq_some_iff.1 hi).1
  have e : l[i] = c := (List.getElem?_eq_some_iff.1 hi).2
  simp only [World.cell?, h1]
  simp [List.getElem?_append, hlt, e]
theorem Byts.arr (h : Byts w b e cap l) : Arr encB 1 w (.slice (some ⟨b, 0, none⟩) l.length cap) l := by
  refine ⟨.inr (.inl ⟨b, 0, cap, by rw [List.length_map], ?_⟩), fun i cs hi => ?_⟩
  · obtain ⟨pad, _, h2⟩ := h
    rw [List.length_map]; omega
  · rw [List.getElem?_map] at hi
    obtain ⟨x, hx, rfl⟩ := Option.map_eq_some_iff.1 hi
    refine ⟨rfl, fun j u hj => ?_⟩
    cases j with
    | succ j => simp at hj
    | zero =>
      have e2 : u = .int .u8 (x.toNat : Int) := by simpa using hj.symm
      rw [e2]
      have := h.cell hx
      simpa [base] using this
end
section
variable {P : Program} {n : Nat} {ds : List (Option Tmp)} {R : World → World → Prop} {r : List (Oper × Fl × Bool)} {K : Env → World → Prop} {E : Env} {w : World}
variable {d : Nat} {op : Op} {ty : TypeId} {pos : String} {af : Array Edge} {g : Option (Nat × Bool)} {anc : Bool} {v : Value}
theorem D_s2bB {x : Operand} {T U e : Nat} {s : Str} (hg : guardB ds E g = true) (hT : isStr P T = true) (hU : P.underlying U = some (.slice e)) (he : P.underlying e = some (.int .u8)) (hx : ev E x = S s) (hR : RX R anc)
    (h : ∀ b c w1, b = w.heap.size → Ext w w1 → Byts w1 b e c s → Dw P n ds R r K (upd E d (.slice (some ⟨b, 0, none⟩) s.length c)) w1) : Dw P n ds R ((⟨some d, .convert T U x, ty, pos, af, g⟩, .x, anc) :: r) K E w := by
  have hT' : P.underlying T = some .string := by
    unfold isStr at hT; split at hT <;> first | assumption | cases hT
  have hr := Lib.run_convert_string_bytes w T U e ⟨⟨s⟩⟩ hT' hU he
  have hx' : Ext w (Lib.bytesWorld w e ⟨⟨s⟩⟩) := ⟨rfl, rfl, rfl, by rw [Lib.bytesWorld_size]; omega, fun k hk _ => Lib.bytesWorld_at_old w e _ k hk⟩
  have hcap : s.length ≤ grownCap w s.length 0 e := Nat.le_add_right _ _
  have hsz : (Lib.bytesCells w e ⟨⟨s⟩⟩).size = grownCap w s.length 0 e := by
    simp [Lib.bytesCells]
    show s.length + (grownCap w s.length 0 e - s.length) = _
    omega
  have hb : Byts (Lib.bytesWorld w e ⟨⟨s⟩⟩) w.heap.size e (grownCap w s.length 0 e) s := by
    refine ⟨List.replicate (grownCap w s.length 0 e - s.length) (.int .u8 0), ?_, by simp; omega⟩
    rw [Lib.bytesWorld_at_new, hsz]
    congr 2
    apply Array.toList_inj.1
    simp [Lib.bytesCells]
    rfl
  refine D_xv (v := .slice (some ⟨w.heap.size, 0, none⟩) s.length (grownCap w s.length 0 e)) (w' := Lib.bytesWorld w e ⟨⟨s⟩⟩) hg ?_ (hR.use hx') (h _ _ _ rfl hx' hb)
  have hr' : (convert T U (S s)).run P w = .ok (.slice (some ⟨w.heap.size, 0, none⟩) s.length (grownCap w s.length 0 e)) (Lib.bytesWorld w e ⟨⟨s⟩⟩) := hr
  simp only [execOp, hx, Sem.run_bind, hr', Result.andThen_ok, Sem.run_pure, updO]
theorem D_storeB {a x : Operand} {T b e cap i : Nat} {l : Str} {c : UInt8} (hg : guardB ds E g = true) (ha : ev E a = ptr b i) (hx : ev E x = .int .u8 c.toNat) (hs : sizeT P T = some 1) (hb : Byts w b e cap l) (hi : i < l.length)
    (hR : anc = true ∨ ∀ w', Mod (oneB b) w w' → R w w')
    (h : ∀ w1, Mod (oneB b) w w1 → w1.heap.size = w.heap.size → Byts w1 b e cap (l.set i c) → Dw P n ds R r K E w1) : Dw P n ds R ((⟨none, .store T a x, ty, pos, af, g⟩, .x, anc) :: r) K E w := by
  have hci : l[i]? = some l[i] := List.getElem?_eq_getElem hi
  have hc := hb.cell hci
  have hb' := hb
  obtain ⟨pad, h1, h2⟩ := hb
  have hf : w.frozen? ⟨b, i, none⟩ = false := by
    simp only [World.frozen?, h1]
    simp; omega
  have hsw : (store ⟨b, i, none⟩ (.int .u8 c.toNat)).run P w = .ok () (w.setCell ⟨b, i, none⟩ (.int .u8 c.toNat)) := by simp [store, Sem.run, hc, hf]
  have hm := Mod.setCell (w := w) b i (.int .u8 c.toNat)
  have hlt := (Array.getElem?_eq_some_iff.1 h1).1
  have hnew : Byts (w.setCell ⟨b, i, none⟩ (.int .u8 c.toNat)) b e cap (l.set i c) := by
    refine ⟨pad, ?_, by simpa using h2⟩
    unfold World.setCell
    simp only [Array.getElem?_modify, h1]
    simp [List.set_append, hi, List.map_set]
  refine D_xs (w' := w.setCell ⟨b, i, none⟩ (.int .u8 c.toNat)) hg ?_ (fun e => hR.elim (fun h => by rw [h] at e; cases e) (fun h => h _ hm)) (h _ hm (by simp) hnew)
  unfold sizeT at hs
  obtain ⟨inf, hinf, hsz⟩ := Option.map_eq_some_iff.1 hs
  have ha0 : (⟨b, i, none⟩ : Addr).add 0 = ⟨b, i, none⟩ := by simp [Addr.add]
  have e1' : (storeCells ⟨b, i, none⟩ [.int .u8 c.toNat]).run P w = .ok () (w.setCell ⟨b, i, none⟩ (.int .u8 c.toNat)) := by
    rw [storeCells, Sem.run_bind, ha0, hsw]
    simp [storeCells]
  simp [execOp, ha, hx, Instr.storeAt, Instr.sureAddr, storeVar, sizeOf, typeInfo, hinf, hsz, Value.cells, e1']
end
end Go.Vc
