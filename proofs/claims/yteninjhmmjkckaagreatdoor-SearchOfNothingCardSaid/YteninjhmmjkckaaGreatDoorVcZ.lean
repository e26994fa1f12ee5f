/-
  From a walk to a row: arguments opened, a law that returns true and leaves all that was there. Nothing is assumed.
-/
import Derived.Test.YteninjhmmjkckaaGreatDoorVcF
import Derived.ProofKit
import Derived.Deep.Slices
import Derived.Lib.SmallJoins
namespace Go.Vc
open Go.ChangeShapes Go.WideShapes Go.ChangeAt Go.RowKit
set_option linter.unusedSimpArgs false
set_option linter.unusedVariables false

section
variable {H : Type} {enc : TypeId × Value → H} {P : Program} {W W' : World} {base : Nat}

/-- A type's row may be read anew. -/
def readB (P : Program) (t : TypeId) : Bool := P.readableRec t && decide (t < P.types.size)

theorem trodAll_ext (hl : laidOutB P = true) (hx : Ext W W') : ∀ {ts : List TypeId} {vs : List Value} {ds : List (DataW H)} {ps : List MemPlace}, ts.all (readB P) = true → DataW.TrodAll enc P W 0 (fun _ => true) true ts vs ds ps →
    (∀ p ∈ ps, p.block < W.heap.size) → DataW.TrodAll enc P W' 0 (fun b => decide (b < W.heap.size)) true ts vs ds ps
  | [], [], [], _, _, h, _ => h
  | t :: ts, v :: vs, d :: ds, ps, hr, h, hlt => by
    obtain ⟨p, q, h1, h2, rfl⟩ := h
    simp only [List.all_cons, Bool.and_eq_true] at hr
    have hr1 : P.readableRec t = true ∧ t < P.types.size := by simpa [readB] using hr.1
    exact ⟨p, q, Below.trod hl hr1.1 hr1.2 h1 hx.below (fun x hx => hlt x (by simp [hx])), trodAll_ext hl hx hr.2 h2 (fun x hx => hlt x (by simp [hx])), rfl⟩
  | [], [], _ :: _, _, _, h, _ => h.elim
  | [], _ :: _, _, _, _, h, _ => h.elim
  | _ :: _, [], _, _, _, h, _ => h.elim
  | _ :: _, _ :: _, [], _, _, h, _ => h.elim

theorem Ext.kept (hx : Ext W W') (may : MemPlace → Prop) : W.keptBut W' may := hx.below.frame may

/-- A law that returned true, and left what was there. -/
theorem post_true {f : Func} {s : ChangeSpec} {fresh handsOn : Bool} {args : Array Value} {ds gs : List (DataW H)} {before : List MemPlace} {tb : TypeId} (hl : laidOutB P = true) (hts : f.params.toList.all (readB P) = true)
    (hrt : f.resultTypes = #[tb]) (hb : P.underlying tb = some .bool) (hv : s.vars = []) (hs : s.fn H ds = { results := [.lit (.bool true)], args := ds })
    (hW : DataW.Whole enc P f.params.toList s.vars false W args.toList ds gs before) (hx : Ext W W') : s.post enc P f false fresh handsOn false W args (.bool true) W' := by
  have hW' := hW
  obtain ⟨p, q, hA, hV, rfl, hfz, hnd⟩ := hW
  rw [hv] at hV
  obtain ⟨rfl, rfl⟩ := trodVars_none hV
  have hlt : ∀ x ∈ p, x.block < W.heap.size := fun x hx => by have := hW'.lt x (by simp [hx]); simpa using this
  have e : s.fn H (ds ++ []) = { results := [.lit (.bool true)], args := ds } := by rw [List.append_nil, hs]
  refine ⟨ds, [], p ++ [], [], p, [], hW', ?_, ?_, ?_, hx.kept _, fun h => by cases h⟩
  · rw [e, hrt]
    exact trodAll_mk1 (shut_bool hb true)
  · rw [e]; exact trodAll_ext hl hx hts hA hlt
  · rw [e, hv]; rfl

/-! arguments -/

theorem opens_string {r : Reach} {b0 : Nat} {t : TypeId} {v : Value} {d : DataW H} {ps : List MemPlace} {sp : Nat → Bool} {hd : Bool} (ht : P.underlying t = some .string) (hval : Value.okWide P W r b0 t v) (h : DataW.Trod enc P W base sp hd t v d ps) :
    ∃ s : Str, v = S s ∧ s.length ≤ maxLen := by
  obtain ⟨s, rfl⟩ := okWide_string ht hval
  obtain ⟨n, h⟩ := h
  obtain ⟨s', h1, _, h3⟩ := DataW.trod_string ht h
  refine ⟨s.data.toList, rfl, ?_⟩
  have : s = s' := by simpa [Value.cells] using h1
  subst this
  exact h3

theorem opens_int {r : Reach} {b0 : Nat} {t : TypeId} {k : IntKind} {v : Value} {d : DataW H} {ps : List MemPlace} {sp : Nat → Bool} {hd : Bool} (ht : P.underlying t = some (.int k)) (hval : Value.okWide P W r b0 t v) (h : DataW.Trod enc P W base sp hd t v d ps) :
    ∃ n : Int, v = .int k n ∧ (Lit.int k n).wf = true := by
  obtain ⟨n, h1, _, _, h2⟩ := open_int ht hval h
  exact ⟨n, h1, h2⟩

theorem opens_bool {r : Reach} {b0 : Nat} {t : TypeId} {v : Value} {d : DataW H} {ps : List MemPlace} {sp : Nat → Bool} {hd : Bool} (ht : P.underlying t = some .bool) (hval : Value.okWide P W r b0 t v) (h : DataW.Trod enc P W base sp hd t v d ps) :
    ∃ b : Bool, v = .bool b := by
  simp only [Value.okWide, ht, Cell.okWide, Cell.ok] at hval
  cases v <;> first | exact ⟨_, rfl⟩ | exact hval.elim

theorem wf_i64 {n : Int} (h : (Lit.int .i64 n).wf = true) : inI64 n := by
  have : IntKind.i64.min ≤ n ∧ n ≤ IntKind.i64.max := by simpa [Lit.wf] using h
  simpa [inI64, IntKind.min, IntKind.max, IntKind.signed, IntKind.bits] using this
theorem wf_u32 {n : Int} (h : (Lit.int .u32 n).wf = true) : 0 ≤ n ∧ n ≤ 4294967295 := by
  have : IntKind.u32.min ≤ n ∧ n ≤ IntKind.u32.max := by simpa [Lit.wf] using h
  simpa [IntKind.min, IntKind.max, IntKind.signed, IntKind.bits] using this

/-- A slice, its elements read by one rule. -/
theorem opens_slice {α : Type} {cenc : α → List Value} {good : α → Prop} {r : Reach} {b0 : Nat} {t e sz : Nat} {v : Value} {d : DataW H} {ps : List MemPlace} {sp : Nat → Bool} {hd : Bool} (ht : P.underlying t = some (.slice e)) (hc : P.cellsOf e = sz)
    (hdec : ∀ (n : Nat) (cs : List Value) (y : DataW H × List MemPlace), DataW.trod enc P W base sp hd n e cs = some y → cs.length = sz → ∃ x, cs = cenc x ∧ good x)
    (hval : Value.okWide P W r b0 t v) (h : DataW.Trod enc P W base sp hd t v d ps) : ∃ l : List α, Arr cenc sz W v l ∧ (∀ x ∈ l, good x) ∧ l.length ≤ maxLen ∧ (l.length = 0 ∨ ∃ el sp', d = .slice el sp' ∧ el.length = l.length) := by
  obtain ⟨oa, len, cap, rfl⟩ := okWide_slice ht hval
  obtain ⟨fuel, h⟩ := h
  rcases Deep.open_slice ht h with ⟨h1, _⟩ | ⟨a, len', cap', m, n, D, Pl, h1, _, hlc, hcm, hm, hdx, hel⟩
  · have h1' : [Value.slice oa len cap] = [.slice none 0 0] := by simpa [Value.cells] using h1
    simp only [List.cons.injEq, and_true] at h1'
    rw [h1']
    exact ⟨[], Arr.nil, fun x hx => (by cases hx), Nat.zero_le _, .inl rfl⟩
  · have h1' : [Value.slice oa len cap] = [.slice (some a) len' cap'] := by simpa [Value.cells] using h1
    simp only [List.cons.injEq, Value.slice.injEq, and_true] at h1'
    obtain ⟨rfl, rfl, rfl⟩ := h1'
    have hspot : a.spot = none := by
      simp only [Value.okWide, ht, Cell.okWide, Cell.ok] at hval
      exact hval.2.2.2.1
    obtain ⟨b, o, spot⟩ := a
    simp only at hspot
    subst hspot
    have hlm : len ≤ m := by rw [hm]; split <;> omega
    obtain ⟨X, hX⟩ := Deep.choose_lt (α := Option α) (n := len) (p := fun i ox => ∃ x, ox = some x ∧ W.cells? base ((⟨b, o, none⟩ : Addr).add (i * P.cellsOf e)) (P.cellsOf e) = some (cenc x) ∧ good x) (fun i hi => by
      obtain ⟨cs', h2, h3⟩ := hel i (by omega)
      obtain ⟨_, hlen, _⟩ := World.cells?_some h2
      obtain ⟨x, rfl, hg⟩ := hdec n cs' _ h3 (by rw [hlen, hc])
      exact ⟨some x, x, rfl, h2, hg⟩)
    have hx : ∀ i, i < len → ∃ x, X i = some x ∧ W.cells? base ((⟨b, o, none⟩ : Addr).add (i * P.cellsOf e)) (P.cellsOf e) = some (cenc x) ∧ good x := hX
    have hlist : ∀ k, k ≤ len → ∃ l : List α, l.length = k ∧ ∀ i, i < k → ∃ x, l[i]? = some x ∧ X i = some x := by
      intro k
      induction k with
      | zero => intro _; exact ⟨[], rfl, fun i hi => absurd hi (Nat.not_lt_zero _)⟩
      | succ k ih =>
        intro hk
        obtain ⟨l, hl, hl2⟩ := ih (by omega)
        obtain ⟨x, hx1, _⟩ := hx k (by omega)
        refine ⟨l ++ [x], by simp [hl], fun i hi => ?_⟩
        by_cases hik : i < k
        · obtain ⟨y, h2, h3⟩ := hl2 i hik
          exact ⟨y, by rw [List.getElem?_append_left (by omega)]; exact h2, h3⟩
        · have : i = k := by omega
          subst this
          exact ⟨x, by rw [← hl]; simp, hx1⟩
    obtain ⟨l, hl, hl2⟩ := hlist len (Nat.le_refl _)
    refine ⟨l, ⟨.inr (.inl ⟨b, o, cap, by rw [List.length_map, hl], by rw [List.length_map, hl]; exact hlc⟩), fun i cs hi => ?_⟩, fun x hx' => ?_, by omega, .inr ⟨_, _, (Prod.mk.inj hdx).1, by simp [hl]⟩⟩
    · rw [List.getElem?_map] at hi
      obtain ⟨x, hx1, rfl⟩ := Option.map_eq_some_iff.1 hi
      have hlt := (List.getElem?_eq_some_iff.1 hx1).1
      obtain ⟨y, h2, h3⟩ := hl2 i (by omega)
      obtain ⟨z, h4, h5, _⟩ := hx i (by omega)
      rw [h2] at hx1
      rw [h3] at h4
      cases hx1; cases h4
      obtain ⟨_, hlen, hat⟩ := World.cells?_some h5
      refine ⟨by rw [hlen, hc], fun j u hj => ?_⟩
      have hjl := (List.getElem?_eq_some_iff.1 hj).1
      have := hat j (by omega)
      rw [hj, Deep.add_add] at this
      have ha : (⟨b, o, none⟩ : Addr).add (i * P.cellsOf e + j) = ⟨b, o + i * sz + j, none⟩ := by
        unfold Addr.add
        split
        · rename_i e0
          have h0 : i * sz = 0 ∧ j = 0 := by rw [hc] at e0; omega
          rw [h0.1, h0.2]; rfl
        · rw [hc]; simp [Nat.add_assoc]
      rw [ha] at this
      exact this
    · obtain ⟨i, hi⟩ := List.mem_iff_getElem?.1 hx'
      have hlt := (List.getElem?_eq_some_iff.1 hi).1
      obtain ⟨y, h2, h3⟩ := hl2 i (by omega)
      obtain ⟨z, h4, _, h5⟩ := hx i (by omega)
      rw [h2] at hi
      rw [h3] at h4
      cases hi; cases h4
      exact h5

/-- Elements that are integers. -/
theorem dec_int {k : IntKind} {e : TypeId} {sp : Nat → Bool} {hd : Bool} (he : P.underlying e = some (.int k)) : ∀ (n : Nat) (cs : List Value) (y : DataW H × List MemPlace), DataW.trod enc P W base sp hd n e cs = some y → cs.length = 1 → ∃ x : Int, cs = [.int k x] ∧ (Lit.int k x).wf = true := fun n cs y h _ => by
  obtain ⟨x, rfl, _, hw⟩ := DataW.trod_int he h
  exact ⟨x, rfl, hw⟩
theorem dec_string {e : TypeId} {sp : Nat → Bool} {hd : Bool} (he : P.underlying e = some .string) : ∀ (n : Nat) (cs : List Value) (y : DataW H × List MemPlace), DataW.trod enc P W base sp hd n e cs = some y → cs.length = 1 → ∃ x : Str, cs = [S x] ∧ x.length ≤ maxLen := fun n cs y h _ => by
  obtain ⟨x, rfl, _, hw⟩ := DataW.trod_string he h
  exact ⟨x.data.toList, rfl, hw⟩

/-! structs of plain fields -/

inductive Kd where
  | s
  | b
  | i (k : IntKind)

def kdOf (P : Program) (t : TypeId) : Option Kd := match P.underlying t with
  | some .string => some .s
  | some .bool => some .b
  | some (.int k) => some (.i k)
  | _ => none

def kdsOf (P : Program) : List Field → Nat → Option (List Kd)
  | [], _ => some []
  | f :: r, o => if f.offset == o && P.cellsOf f.type == 1 then (match kdOf P f.type, kdsOf P r (o + 1) with
    | some k, some ks => some (k :: ks)
    | _, _ => none) else none

def plainT (P : Program) (t : TypeId) : Option (List Kd) := match P.underlying t with
  | some (.struct fs) => kdsOf P fs.toList 0
  | _ => none

def likeK : List Kd → List Value → Prop
  | [], [] => True
  | .s :: r, v :: c => (∃ x : Str, v = S x ∧ x.length ≤ maxLen) ∧ likeK r c
  | .b :: r, v :: c => (∃ x : Bool, v = .bool x) ∧ likeK r c
  | .i k :: r, v :: c => (∃ x : Int, v = .int k x ∧ (Lit.int k x).wf = true) ∧ likeK r c
  | _, _ => False

theorem kds_like {sp : Nat → Bool} {hd : Bool} {n : Nat} {cs : List Value} : ∀ (fs : List Field) (o : Nat) (ks : List Kd), kdsOf P fs o = some ks → cs.length = o + fs.length →
    (∀ (j : Nat) (f : Field), fs[j]? = some f → ∃ y, DataW.trod enc P W base sp hd n f.type ((cs.drop f.offset).take (P.cellsOf f.type)) = some y) → likeK ks (cs.drop o)
  | [], o, ks, hk, hl, _ => by
    cases hk
    rw [List.drop_eq_nil_of_le (by simp at hl; omega)]
    trivial
  | f :: r, o, ks, hk, hl, hf => by
    simp only [kdsOf] at hk
    split at hk
    · rename_i hc
      simp only [Bool.and_eq_true, beq_iff_eq] at hc
      obtain ⟨hoff, hone⟩ := hc
      split at hk
      · rename_i k ks' hk1 hk2
        cases hk
        have hlt : o < cs.length := by simp at hl; omega
        have hd1 : cs.drop o = cs[o] :: cs.drop (o + 1) := List.drop_eq_getElem_cons hlt
        have ih := kds_like r (o + 1) ks' hk2 (by simp at hl; omega) (fun j f' hj => hf (j + 1) f' (by simpa using hj))
        obtain ⟨y, hy⟩ := hf 0 f rfl
        rw [hoff, hone, hd1, List.take_succ_cons, List.take_zero] at hy
        rw [hd1]
        unfold kdOf at hk1
        split at hk1 <;> cases hk1
        · rename_i hu
          obtain ⟨x, e, _, hx⟩ := DataW.trod_string hu hy
          have e' : cs[o] = .string x := by simpa using e
          exact ⟨⟨x.data.toList, e', hx⟩, ih⟩
        · rename_i hu
          obtain ⟨x, e, _⟩ := DataW.trod_bool hu hy
          have e' : cs[o] = .bool x := by simpa using e
          exact ⟨⟨x, e'⟩, ih⟩
        · rename_i k hu
          obtain ⟨x, e, _, hx⟩ := DataW.trod_int hu hy
          have e' : cs[o] = .int k x := by simpa using e
          exact ⟨⟨x, e', hx⟩, ih⟩
      · cases hk
    · cases hk

theorem dec_plain {e : TypeId} {ks : List Kd} {sp : Nat → Bool} {hd : Bool} (he : plainT P e = some ks) (hn : P.cellsOf e = ks.length) (n : Nat) (cs : List Value) (y : DataW H × List MemPlace) (h : DataW.trod enc P W base sp hd n e cs = some y) (hl : cs.length = ks.length) : likeK ks cs := by
  unfold plainT at he
  split at he
  · rename_i fs hu
    obtain ⟨xs, m, _, _, hcl, hlen, hf⟩ := DataW.trod_struct hu h
    have hkl : ∀ (fs : List Field) (o : Nat) (ks : List Kd), kdsOf P fs o = some ks → ks.length = fs.length := by
      intro fs
      induction fs with
      | nil => intro o ks h; cases h; rfl
      | cons f r ih =>
        intro o ks h
        simp only [kdsOf] at h
        split at h
        · split at h
          · rename_i h2; cases h; simp [ih _ _ h2]
          · cases h
        · cases h
    have := kds_like (enc := enc) (W := W) (base := base) (sp := sp) (hd := hd) (n := m) (cs := cs) fs.toList 0 ks he (by rw [hl, hkl _ _ _ he]; omega) (fun j f hj => by
      have hj' : fs[j]? = some f := by simpa using hj
      have hlt : j < xs.length := by
        have := (Array.getElem?_eq_some_iff.1 hj').1
        rw [hlen]; exact this
      exact ⟨xs[j], by rw [hf j f hj', List.getElem?_eq_getElem hlt]⟩)
    simpa using this
  · cases he

/-- A struct of plain fields by value. -/
theorem opens_plain {r : Reach} {b0 : Nat} {t : TypeId} {v : Value} {d : DataW H} {ps : List MemPlace} {sp : Nat → Bool} {hd : Bool} {ks : List Kd} (ht : plainT P t = some ks) (hn : P.cellsOf t = ks.length)
    (hval : Value.okWide P W r b0 t v) (h : DataW.Trod enc P W base sp hd t v d ps) : ∃ cs, v = .agg ⟨cs⟩ ∧ likeK ks cs := by
  have hs : ∃ fs, P.underlying t = some (.struct fs) := by
    unfold plainT at ht
    split at ht
    · exact ⟨_, ‹_›⟩
    · cases ht
  obtain ⟨fs, hu⟩ := hs
  obtain ⟨cs, rfl, hsz⟩ := okWide_struct hu hval
  obtain ⟨n, h⟩ := h
  exact ⟨cs.toList, by simp, dec_plain ht hn n cs.toList _ h (by rw [← hn, ← hsz]; simp)⟩

end
end Go.Vc
