/-
  A text that is built up (strings.Builder): its two cells, the row of its own; a pointer that is turned and turned back.
-/
import Derived.Test.YteninjhmmjkckaaGreatDoorVcV
import Derived.Lib.Builder
import Derived.Lib.UnsafeStr
import Derived.Laws.Externs
import Derived.Lib.AppendStr
namespace Go.Vc
open Go.RowKit
set_option linter.unusedSimpArgs false
set_option linter.unusedVariables false

section
variable {P : Program} {E : Env} {w : World} {d : Option Tmp} {op : Op} {ty : TypeId} {pos : String} {af : Array Edge} {g : Option (Nat × Bool)}

/-- A pointer is itself. -/
theorem pv_neSelf {x y : Operand} {T U : TypeId} {a : Addr} (hT : isPtr P T = true) (hi : (P.info? (P.pointee T)).isSome = true) (hx : ev E x = .pointer (some a)) (hy : ev E y = .pointer (some a)) : PV P ⟨d, .binOp .neq T x y U, ty, pos, af, g⟩ E (.bool false) := fun w => by
  refine run_bin _ _ _ _ _ _ _ (fun w => by simp [hx, hy, eqGuard]) ?_
  obtain ⟨j, hj⟩ := Option.isSome_iff_exists.1 hi
  rw [hx, hy, Lib.run_neq_ptr_same _ _ (isPtr_under hT) hj]

def toU (P : Program) (S D n : Nat) : Bool := isPtr P S && (match P.underlying D with | some .unsafePointer => true | _ => false) && (match P.info? (P.pointee S) with | some i => !(i.size == 0) | none => false)
theorem lv_toU {x : Operand} {S D T b o : Nat} {cs : List Value} (h : toU P S D 0 = true) (hb : Blk w b cs T) (ho : o < cs.length) (hx : ev E x = ptr b o) : LV P ⟨d, .convert S D x, ty, pos, af, g⟩ E w (ptr b o) := by
  unfold toU at h
  simp only [Bool.and_eq_true] at h
  obtain ⟨⟨h1, h2⟩, h3⟩ := h
  have hD : P.underlying D = some .unsafePointer := by
    split at h2
    · assumption
    · cases h2
  cases hi : P.info? (P.pointee S) with
  | none => rw [hi] at h3; cases h3
  | some j =>
    rw [hi] at h3
    have hsh : w.shape? b = some (T, cs.length) := by unfold Blk at hb; simp [World.shape?, hb]
    have := Lib.run_to_unsafe (P := P) w ⟨b, o, none⟩ (isPtr_under h1) hD hi (by simpa using h3) hsh ho
    unfold LV
    simp [execOp, hx, this]
theorem lv_fromU {x : Operand} {S D T b : Nat} {cs : List Value} (hS : (match P.underlying S with | some .unsafePointer => true | _ => false) = true) (hD : isPtr P D = true) (hi : (P.info? (P.pointee D)).isSome = true) (hb : Blk w b cs T)
    (hl : liesAt P P.depth T (cs.length / P.cellsOf T) 0 (P.pointee D) 1 = true) (hx : ev E x = ptr b 0) : LV P ⟨d, .convert S D x, ty, pos, af, g⟩ E w (ptr b 0) := by
  have hS' : P.underlying S = some .unsafePointer := by
    split at hS
    · assumption
    · cases hS
  obtain ⟨j, hj⟩ := Option.isSome_iff_exists.1 hi
  have hsh : w.shape? b = some (T, cs.length) := by unfold Blk at hb; simp [World.shape?, hb]
  have := Lib.run_from_unsafe (P := P) w ⟨b, 0, none⟩ hS' (isPtr_under hD) hj hsh hl
  unfold LV
  simp [execOp, hx, this]
theorem lv_noEsc {x : Operand} {f : Nat} {fn : Func} {ats : Array TypeId} {v : Value} (hf : P.funcs[f]? = some fn) (hname : (fn.name == "runtime.NumGoroutine") = false) (hb : fn.body.isNone = true) (hn : Extern.findNext fn = none) (he : Extern.find fn = some Extern.AbiNoEscape.same)
    (hx : ev E x = v) : LV P ⟨d, .call { callee := .value (.func f), args := #[x], argTypes := ats }, ty, pos, af, g⟩ E w v := by
  have h := run_callFunc_extern hf hname hb hn he #[v] w
  rw [Lib.run_noEscape] at h
  unfold LV
  have hfv : ev E (.func f) = .func (.func f) #[] #[] := rfl
  simpa [execOp, resolve, hfv, hx, Deferred.ofValue, invoke, Result.andThen] using h
end

/-- A slice of a text; its bounds are bytes. -/
theorem pv_slB {d : Option Tmp} {ty : TypeId} {pos : String} {af : Array Edge} {g : Option (Nat × Bool)} {P : Program} {E : Env} {x lo hi : Operand} {T : Nat} {a b : UInt8} {s : Str} (hT : isStr P T = true) (hx : ev E x = S s) (hlo : ev E lo = .int .u8 a.toNat) (hhi : ev E hi = .int .u8 b.toNat) (h1 : a.toNat ≤ b.toNat) (h2 : b.toNat ≤ s.length) :
    PV P ⟨d, .slice T x (some lo) (some hi) none, ty, pos, af, g⟩ E (S ((s.take b.toNat).drop a.toNat)) := fun w => by
  have hT' : P.underlying T = some .string := by
    unfold isStr at hT; split at hT <;> first | assumption | cases hT
  have hb1 : (0 : Int) ≤ (b.toNat : Int) ∧ (b.toNat : Int) ≤ (s.length : Int) := by omega
  have hb2 : (0 : Int) ≤ (a.toNat : Int) ∧ (a.toNat : Int) ≤ (b.toNat : Int) := by omega
  have key : (Instr.sliceBounds false s.length s.length (some (ev E lo)) (some (ev E hi)) none).run P w = .ok (a.toNat, b.toNat, s.length) w := by
    simp only [Instr.sliceBounds, Sem.run_bind, Sem.run_pure, Result.andThen_ok, hlo, hhi, run_bound hb1, run_bound hb2, Int.toNat_natCast] <;> rfl
  have e1 : (Instr.sliceAt T (.string ⟨⟨s⟩⟩) (some (ev E lo)) (some (ev E hi)) none).run P w = .ok (S ((s.take b.toNat).drop a.toNat)) w := by
    simp [Instr.sliceAt, Instr.slice, underlying, hT', size_S, key, extract_S]
  simp only [execOp, hx, Option.map_none, Option.map_some, Sem.run_bind, e1]
  rfl
theorem strCells_flat (s : Str) : Lib.strCells ⟨⟨s⟩⟩ = s.flatMap encB := by
  induction s with
  | nil => rfl
  | cons c l ih =>
    unfold Lib.strCells at *
    simp only [List.map_cons, List.flatMap_cons] at *
    rw [ih]; rfl

def byteB (P : Program) (e : Nat) : Bool := match P.info? e with
  | some i => (i.size == 1) && (i.bytes == 1) && (match i.zero with | some (.int .u8 0) => true | _ => false)
  | none => false

section
variable {P : Program} {n : Nat} {ds : List (Option Tmp)} {R : World → World → Prop} {r : List (Oper × Fl × Bool)} {K : Env → World → Prop} {E : Env} {w : World}
variable {d : Nat} {op : Op} {ty : TypeId} {pos : String} {af : Array Edge} {g : Option (Nat × Bool)} {anc : Bool} {v : Value}
/-- 'append' of a text to bytes of the call's own. -/
theorem D_appendS {s x : Operand} {t e u B : Nat} {l lx : Str} (hg : guardB ds E g = true) (ht : slElem P t = some (e, 1)) (hE : byteB P e = true) (hu : isStr P u = true) (hown : Own encB 1 e B w v l) (hs : ev E s = v) (hx : ev E x = S lx)
    (hbytes : l.length + lx.length ≤ 140737488355328) (hB : B ≤ w.heap.size) (hR : anc = true ∨ ∀ w', Mod (fun k => v.ownBlock = some k) w w' → R w w')
    (h : ∀ v' w', Own encB 1 e B w' v' (l ++ lx) → Mod (fun k => v.ownBlock = some k) w w' → Dw P n ds R r K (upd E d v') w') :
    Dw P n ds R ((⟨some d, .call { callee := .builtin .append, args := #[s, x], argTypes := #[t, u] }, ty, pos, af, g⟩, .x, anc) :: r) K E w := by
  obtain ⟨hu', _⟩ := slElem_under ht
  have hus : P.underlying u = some .string := by
    unfold isStr at hu; split at hu <;> first | assumption | cases hu
  unfold byteB at hE
  cases hi : P.info? e with
  | none => rw [hi] at hE; cases hE
  | some i =>
    rw [hi] at hE
    simp only [Bool.and_eq_true, beq_iff_eq] at hE
    obtain ⟨⟨h1, h2⟩, h3⟩ := hE
    have hz : i.zero = some (.int .u8 0) := by
      split at h3
      · assumption
      · cases h3
    have hRR : ∀ w', Mod (fun k => v.ownBlock = some k) w w' → anc = false → R w w' := fun w' hm e => hR.elim (fun h => by rw [h] at e; cases e) (fun h => h _ hm)
    obtain ⟨v', w', hr, hro, hgr, _⟩ := Lib.run_append_own_string (P := P) w B t u ty e i hu' hus hi hz h1 h2 v l.length (l.flatMap encB) hown.row ⟨⟨lx⟩⟩ (by show l.length + lx.length ≤ _; unfold maxLen; omega) hbytes hB
    refine D_xv (w' := w') (v := v') hg ?_ (hRR _ (Mod.of_grown hgr)) (h v' w' ⟨by rw [List.length_append, List.flatMap_append, ← strCells_flat lx]; exact hro⟩ (Mod.of_grown hgr))
    simp only [execOp, resolve, invoke, builtin, Sem.run_bind, Sem.run_pure, Result.andThen_ok, List.map_toArray, List.map_cons, List.map_nil, hs, hx, hr]
end

/-- The two cells of a text that is built up, and its row. -/
structure Bld (T e B : Nat) (b : Nat) (v : Value) (l : Str) (w : World) : Prop where
  blk : ∃ p, (p = .pointer none ∨ p = ptr b 0) ∧ Blk w b [p, v] T
  own : Own encB 1 e B w v l
theorem Bld.mod {T e B b : Nat} {v : Value} {l : Str} {S : Nat → Prop} {w w' : World} (h : Bld T e B b v l w) (m : Mod S w w') (hS : ∀ k, (k = b ∨ v.ownBlock = some k) → ¬ S k) : Bld T e B b v l w' := by
  obtain ⟨p, hp, hb⟩ := h.blk
  exact ⟨⟨p, hp, hb.mod m (hS b (.inl rfl))⟩, h.own.mod m (fun k hk => hS k (.inr hk))⟩
theorem Bld.ext {T e B b : Nat} {v : Value} {l : Str} {w w' : World} (h : Bld T e B b v l w) (m : Ext w w') : Bld T e B b v l w' := h.mod m (fun _ _ h => h)
theorem Bld.lt {T e B b : Nat} {v : Value} {l : Str} {w : World} (h : Bld T e B b v l w) : b < w.heap.size := by
  obtain ⟨p, _, hb⟩ := h.blk; exact hb.lt
/-- What a write to it touches is not in a block of another type. -/
theorem Bld.sep {T e B b b' T' : Nat} {v : Value} {l : Str} {cs : List Value} {w : World} (h : Bld T e B b v l w) (h' : Blk w b' cs T') (h1 : Nat.beq T T' = false) (h2 : Nat.beq e T' = false) : ¬ (b' = b ∨ v.ownBlock = some b') := by
  obtain ⟨p, _, hb⟩ := h.blk
  rintro (e | e)
  · exact hb.ne h' h1 e.symm
  · exact h.own.ne_blk h' h2 e
theorem byteCells_flat (l : Str) : Lib.byteCells l = l.flatMap encB := by
  induction l with
  | nil => rfl
  | cons c l ih => rw [Lib.byteCells] at *; rw [List.map_cons, ih]; rfl
theorem Bld.is {T e B b : Nat} {v : Value} {l : Str} {w : World} (h : Bld T e B b v l w) (hB : B ≤ b) (hT : Nat.beq T e = false) : Lib.IsBuilder T e B b (Lib.byteCells l) w := by
  obtain ⟨p, hp, hb⟩ := h.blk
  have hrow := h.own.row
  rw [← byteCells_flat, ← Lib.byteCells_length l] at hrow
  have hat : Lib.BuilderAt T e B b p (Lib.byteCells l) w := ⟨hB, v, hb, hrow, fun e' => h.own.ne_blk hb (by
    cases hh : Nat.beq e T with
    | false => rfl
    | true => have := Nat.eq_of_beq_eq_true hh; subst this; rw [Nat.beq_refl] at hT; cases hT) e'⟩
  rcases hp with rfl | rfl
  · exact .inl hat
  · exact .inr hat
theorem Mod.of_belowB {B : Nat} {w w' : World} (h : Below B w w') : Mod (geB B) w w' := ⟨h.os, h.tape, h.output, h.size, fun k hk hn => h.block k (by unfold geB at hn; omega)⟩
end Go.Vc
