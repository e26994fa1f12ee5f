/-
  Which types there are; the keys of an entry. Plain laws.
-/
import Derived.Test.YtcjjjmhhpejdoaaGreatDoorSpMa
namespace Go.Sp
open Go.Vc
set_option linter.unusedVariables false
set_option linter.unusedSimpArgs false

def ns1 : List Str := [[111, 98, 106, 101, 99, 116, 99, 108, 97, 115, 115], [99, 110], [115, 110], [111, 117], [111], [100, 99], [117, 105, 100], [109, 97, 105, 108], [100, 101, 115, 99, 114, 105, 112, 116, 105, 111, 110], [116, 105, 116, 108, 101], [108]]
def ns2 : List Str := [[117, 105, 100, 110, 117, 109, 98, 101, 114], [103, 105, 100, 110, 117, 109, 98, 101, 114]]
def ns3 : List Str := [[109, 101, 109, 98, 101, 114], [109, 97, 110, 97, 103, 101, 114], [115, 101, 101, 97, 108, 115, 111]]
def ns0 : List Str := [[116, 101, 108, 101, 112, 104, 111, 110, 101, 110, 117, 109, 98, 101, 114], [117, 115, 101, 114, 112, 97, 115, 115, 119, 111, 114, 100], [100, 105, 115, 112, 108, 97, 121, 110, 97, 109, 101]]
def kindM (t : Str) : Option (Int × Bool) :=
  if t = [116, 101, 108, 101, 112, 104, 111, 110, 101, 110, 117, 109, 98, 101, 114] then some (5, false) else if t = [117, 115, 101, 114, 112, 97, 115, 115, 119, 111, 114, 100] then some (4, false) else if t = [100, 105, 115, 112, 108, 97, 121, 110, 97, 109, 101] then some (1, true)
  else if t ∈ ns1 then some (1, false) else if t ∈ ns2 then some (2, true) else if t ∈ ns3 then some (3, false) else none
def nsAll : List Str := ns0 ++ ns1 ++ ns2 ++ ns3
theorem kindM_mem {t : Str} {p : Int × Bool} (h : kindM t = some p) : t ∈ nsAll := by
  unfold kindM at h
  unfold nsAll
  simp only [List.mem_append]
  repeat' split at h
  all_goals first
    | (cases h; done)
    | (rename_i e; subst e; exact .inl (.inl (.inl (by decide))))
    | (rename_i e; exact .inl (.inl (.inr e)))
    | (rename_i e; exact .inl (.inr e))
    | (rename_i e; exact .inr e)
/-- What a type is. -/
def typeM (s : Str) : Option (Str × Int × Bool) := (kindM (foldS s)).map fun p => (foldS s, p.1, p.2)
theorem kindM_all {t : Str} {p : Int × Bool} (h : kindM t = some p) : (∀ c ∈ t, c ≠ 0) ∧ t.length ≤ 15 ∧ (t.length ≤ 5 → p.1 = 1) := by
  have h1 : ∀ t ∈ nsAll, (∀ c ∈ t, c ≠ 0) ∧ t.length ≤ 15 ∧ (t.length ≤ 5 → kindM t = some (1, false)) := by decide
  obtain ⟨a, b, c⟩ := h1 t (kindM_mem h)
  exact ⟨a, b, fun hl => by have := c hl; rw [h] at this; cases this; rfl⟩

/-! ### keys of an entry -/
structure Attr where
  typ : Str
  vals : List Str
structure Entry where
  dn : List Ava
  attrs : List Attr

def keyA (a : Ava) : Str := a.typ ++ 61 :: (escS a.val ++ [0, 1])
def keyS (l : List Ava) : Str := ((l.map normA).reverse.map keyA).flatten
def valK (c : Str) (y : Int) (name v : Str) : List Str := match normM y v with
  | none => []
  | some n => (begS 101 c n ++ name) :: (if y = 1 ∨ y = 5 then (grams n).map (fun g => begS 103 c g ++ name) else [])
def attrK (name : Str) (a : Attr) : List Str := match kindM (foldS a.typ) with
  | none => []
  | some p => if a.vals = [] then [] else (112 :: (foldS a.typ ++ [0]) ++ name) :: a.vals.flatMap (valK (foldS a.typ) p.1 name)
def rawK (e : Entry) : List Str := e.attrs.flatMap (attrK (keyS e.dn))
def keysM (e : Entry) : List Str := (rawK e).foldl layS []
theorem rise_keys (e : Entry) : Rise (keysM e) := (foldl_lay List.Pairwise.nil).1
theorem mem_keys {e : Entry} {x : Str} : x ∈ keysM e ↔ x ∈ rawK e := by
  have := (foldl_lay (ws := rawK e) (l := []) List.Pairwise.nil).2 x
  unfold keysM
  rw [this]; simp
theorem sort_lay {ws l : List Str} (hn : l.Nodup) (hm : ∀ x, x ∈ l ↔ x ∈ ws) : sortS l = ws.foldl layS [] := by
  have h := foldl_lay (ws := ws) (l := []) List.Pairwise.nil
  refine rise_ext (rise_sortS hn) h.1 fun x => ?_
  rw [mem_sortS, hm, h.2 x]; simp

/-! ### which key is whose -/
theorem cut_zero : ∀ {a b x y : Str}, (∀ c ∈ a, c ≠ 0) → (∀ c ∈ b, c ≠ 0) → a ++ 0 :: x = b ++ 0 :: y → a = b ∧ x = y
  | [], [], x, y, _, _, h => ⟨rfl, by simpa using h⟩
  | [], d :: b, x, y, _, hb, h => by
    simp only [List.nil_append, List.cons_append, List.cons.injEq] at h
    exact absurd h.1.symm (hb d List.mem_cons_self)
  | c :: a, [], x, y, ha, _, h => by
    simp only [List.nil_append, List.cons_append, List.cons.injEq] at h
    exact absurd h.1 (ha c List.mem_cons_self)
  | c :: a, d :: b, x, y, ha, hb, h => by
    simp only [List.cons_append, List.cons.injEq] at h
    obtain ⟨h1, h2⟩ := cut_zero (fun z hz => ha z (List.mem_cons_of_mem _ hz)) (fun z hz => hb z (List.mem_cons_of_mem _ hz)) h.2
    exact ⟨by rw [h.1, h1], h2⟩
theorem esc_inj : ∀ {a b : Str}, escS a = escS b → a = b
  | [], [], _ => rfl
  | [], d :: b, h => by
    simp only [escS, repl, List.flatMap_cons, List.flatMap_nil] at h
    split at h <;> simp at h
  | c :: a, [], h => by
    simp only [escS, repl, List.flatMap_cons, List.flatMap_nil] at h
    split at h <;> simp at h
  | c :: a, d :: b, h => by
    have e : ∀ (c : UInt8) (a : Str), escS (c :: a) = (if c = 0 then [0, 255] else [c]) ++ escS a := fun c a => by simp [escS, repl]
    rw [e, e] at h
    by_cases hc : c = 0
    · by_cases hd : d = 0
      · subst hc; subst hd
        simp only [if_true, List.cons_append, List.nil_append, List.cons.injEq, true_and] at h
        rw [esc_inj h]
      · subst hc
        simp only [if_true, if_neg hd, List.cons_append, List.nil_append, List.cons.injEq] at h
        exact absurd h.1.symm hd
    · by_cases hd : d = 0
      · subst hd
        simp only [if_true, if_neg hc, List.cons_append, List.nil_append, List.cons.injEq] at h
        exact absurd h.1 hc
      · simp only [if_neg hc, if_neg hd, List.cons_append, List.nil_append, List.cons.injEq] at h
        rw [h.1, esc_inj h.2]
theorem begS_inj {k k' : UInt8} {c c' n n' name : Str} (hc : ∀ x ∈ c, x ≠ 0) (hc' : ∀ x ∈ c', x ≠ 0) (h : begS k c n ++ name = begS k' c' n' ++ name) : k = k' ∧ c = c' ∧ n = n' := by
  have h0 := List.append_cancel_right h
  unfold begS at h0
  simp only [List.cons.injEq] at h0
  obtain ⟨h1, h2⟩ := cut_zero hc hc' h0.2
  exact ⟨h0.1, h1, esc_inj (List.append_cancel_right h2)⟩

/-- An entry has a value of cn that is one with val. -/
def wantM (e : Entry) (val : Str) : Bool := e.attrs.any fun a => decide (foldS a.typ = [99, 110]) && a.vals.any fun v => equalM 1 v val
theorem finds {e : Entry} {val n : Str} (hn : normM 1 val = some n) : (begS 101 [99, 110] n ++ keyS e.dn ∈ keysM e) ↔ wantM e val = true := by
  rw [mem_keys]
  have hcn : ∀ x ∈ ([99, 110] : Str), x ≠ 0 := by decide
  unfold rawK wantM
  simp only [List.mem_flatMap, List.any_eq_true, Bool.and_eq_true, decide_eq_true_eq]
  constructor
  · rintro ⟨a, ha, hk⟩
    refine ⟨a, ha, ?_⟩
    unfold attrK at hk
    split at hk
    · cases hk
    rename_i p hp
    have hz := (kindM_all hp).1
    split at hk
    · cases hk
    rcases List.mem_cons.1 hk with hk | hk
    · have := congrArg List.head? hk
      simp [begS] at this
    obtain ⟨v, hv, hk⟩ := List.mem_flatMap.1 hk
    unfold valK at hk
    split at hk
    · cases hk
    rename_i m hm
    rcases List.mem_cons.1 hk with hk | hk
    · obtain ⟨-, h2, h3⟩ := begS_inj hcn hz hk
      refine ⟨h2.symm, v, hv, ?_⟩
      have hp1 : p.1 = 1 := (kindM_all hp).2.2 (by rw [← h2]; decide)
      rw [hp1] at hm
      unfold equalM
      rw [hm, hn, h3]; simp
    · split at hk
      · obtain ⟨g, _, hk⟩ := List.mem_map.1 hk
        have := (begS_inj hz hcn hk).1
        exact absurd this (by decide)
      · cases hk
  · rintro ⟨a, ha, ht, v, hv, he⟩
    refine ⟨a, ha, ?_⟩
    unfold attrK
    have hk : kindM (foldS a.typ) = some (1, false) := by rw [ht]; decide
    rw [hk]
    have hne : a.vals ≠ [] := fun h => by rw [h] at hv; cases hv
    simp only [if_neg hne]
    refine List.mem_cons_of_mem _ (List.mem_flatMap.2 ⟨v, hv, ?_⟩)
    unfold equalM at he
    unfold valK
    cases hm : normM 1 v with
    | none => rw [hm] at he; cases he
    | some m =>
      rw [hm, hn] at he
      have : m = n := of_decide_eq_true he
      subst this
      rw [ht]
      exact List.mem_cons_self

/-! ### letters' case -/
def upC (c : UInt8) : UInt8 := if 97 ≤ c ∧ c ≤ 122 then c - 32 else c
def upS (s : Str) : Str := s.map upC
set_option maxRecDepth 100000 in
theorem up_all (c : UInt8) : lowB (upC c) = lowB c ∧ (upC c = 32 ↔ c = 32) := by
  have h : ∀ n : Fin 256, lowB (upC (UInt8.ofNat n.val)) = lowB (UInt8.ofNat n.val) ∧ (upC (UInt8.ofNat n.val) = 32 ↔ UInt8.ofNat n.val = 32) := by decide
  have := h ⟨c.toNat, c.toNat_lt⟩
  simpa using this
theorem up_step (b : Str) (c : UInt8) : foldStep b (upC c) = foldStep b c := by
  unfold foldStep
  simp only [(up_all c).1, (up_all c).2]
theorem up_fold (s : Str) : foldS (upS s) = foldS s := by
  unfold foldS upS
  rw [List.foldl_map]
  simp only [up_step]
theorem up_nil {s : Str} : upS s = [] ↔ s = [] := by unfold upS; simp
theorem up_val (s : Str) : valS (upS s) = valS s := by
  unfold valS
  rw [up_fold]
  simp only [ne_eq, up_nil]
theorem up_norm (s : Str) : normM 1 (upS s) = normM 1 s := by
  unfold normM
  rw [show (upS s).length = s.length by simp [upS]]
  simp only [up_nil, up_val, if_true]
theorem flatMap_same {α β : Type} {l : List α} {f g : α → List β} (h : ∀ x ∈ l, f x = g x) : l.flatMap f = l.flatMap g := by
  rw [List.flatMap_def, List.flatMap_def, List.map_congr_left h]
def upA (a : Ava) : Ava := ⟨upS a.typ, upS a.val⟩
def upAttr (a : Attr) : Attr := ⟨upS a.typ, if a.typ.length ≤ 5 then a.vals.map upS else a.vals⟩
def upE (e : Entry) : Entry := ⟨e.dn.map upA, e.attrs.map upAttr⟩
theorem up_key (l : List Ava) : keyS (l.map upA) = keyS l := by
  unfold keyS
  rw [List.map_map]
  congr 3
  refine List.map_congr_left fun a _ => ?_
  simp [normA, upA, up_fold, up_val]
theorem up_attr (name : Str) (a : Attr) : attrK name (upAttr a) = attrK name a := by
  unfold attrK upAttr
  simp only [up_fold]
  cases hk : kindM (foldS a.typ) with
  | none => rfl
  | some p =>
    simp only
    split
    · rename_i hl
      have hp1 := (kindM_all hk).2.2 (Nat.le_trans (foldS_len _) hl)
      simp only [List.map_eq_nil_iff, hp1, List.flatMap_map]
      congr 2
      refine flatMap_same fun v _ => ?_
      unfold valK
      rw [up_norm]
    · rfl
theorem up_keys (e : Entry) : keysM (upE e) = keysM e := by
  unfold keysM rawK upE
  simp only [up_key, List.flatMap_map]
  congr 1
  exact flatMap_same fun a _ => up_attr _ a

/-! ### how much an entry weighs -/
def valB (c : Str) (y : Int) (v : Str) : List Str := match normM y v with
  | none => []
  | some n => begS 101 c n :: (if y = 1 ∨ y = 5 then (grams n).map (begS 103 c) else [])
theorem valK_eq (c : Str) (y : Int) (name v : Str) : valK c y name v = (valB c y v).map (· ++ name) := by
  unfold valK valB
  cases normM y v with
  | none => rfl
  | some n => simp only [List.map_cons]; split <;> simp
theorem norm_text {y : Int} {v n : Str} (h : normM y v = some n) (hy : y = 1 ∨ y = 5) : n.length ≤ v.length := by
  unfold normM at h
  rcases hy with rfl | rfl
  · split at h
    · cases h
    · simp only [if_true] at h
      split at h
      · cases h
      · cases h; exact valS_len v
  · split at h
    · cases h
    · simp at h
      obtain ⟨_, rfl⟩ := h
      exact bare_len v
theorem grams_len (n : Str) : (grams n).length ≤ n.length - 2 := by
  have := lay_len (wins n) []
  rw [wins_length] at this
  unfold grams; simpa using this
theorem valB_len (c : Str) (y : Int) (v : Str) : (valB c y v).length ≤ 1 + v.length := by
  unfold valB
  cases h : normM y v with
  | none => simp
  | some n =>
    simp only [List.length_cons]
    split
    · rename_i hy
      have h1 := norm_text h hy
      have h2 := grams_len n
      rw [List.length_map]; omega
    · simp
theorem valK_len (c : Str) (y : Int) (name v : Str) : (valK c y name v).length ≤ 1 + v.length := by rw [valK_eq, List.length_map]; exact valB_len c y v
def wVals (l : List Str) : Nat := (l.map fun v => 1 + v.length).sum
def wAttr (a : Attr) : Nat := 1 + a.typ.length + wVals a.vals
def wAttrs (l : List Attr) : Nat := (l.map wAttr).sum
def wDn (l : List Ava) : Nat := (l.map fun a => 1 + a.typ.length + a.val.length).sum
def wE (e : Entry) : Nat := wDn e.dn + wAttrs e.attrs
theorem sum_mem {α : Type} {f : α → Nat} : ∀ {l : List α} {x : α}, x ∈ l → f x ≤ (l.map f).sum
  | y :: l, x, h => by
    rw [List.map_cons, List.sum_cons]
    rcases List.mem_cons.1 h with rfl | h
    · omega
    · have := sum_mem (f := f) h; omega
theorem sum_len {α : Type} {f : α → Nat} (hf : ∀ x, 1 ≤ f x) : ∀ l : List α, l.length ≤ (l.map f).sum
  | [] => by simp
  | y :: l => by
    rw [List.map_cons, List.sum_cons, List.length_cons]
    have := sum_len hf l
    have := hf y
    omega
theorem vals_keys (c : Str) (y : Int) (name : Str) : ∀ l : List Str, (l.flatMap (valK c y name)).length ≤ wVals l
  | [] => by simp [wVals]
  | v :: l => by
    have h1 := vals_keys c y name l
    have h2 := valK_len c y name v
    unfold wVals at *
    rw [List.flatMap_cons, List.length_append, List.map_cons, List.sum_cons]
    omega
theorem attr_keys (name : Str) (a : Attr) : (attrK name a).length ≤ wAttr a := by
  unfold attrK wAttr
  split
  · simp
  · split
    · simp
    · have := vals_keys (foldS a.typ) (by assumption : Int × Bool).1 name a.vals
      rw [List.length_cons]; omega
theorem attrs_keys (name : Str) : ∀ l : List Attr, (l.flatMap (attrK name)).length ≤ wAttrs l
  | [] => by simp [wAttrs]
  | a :: l => by
    have h1 := attrs_keys name l
    have h2 := attr_keys name a
    unfold wAttrs at *
    rw [List.flatMap_cons, List.length_append, List.map_cons, List.sum_cons]
    omega
/-- An entry that is not great. -/
structure SmallE (e : Entry) : Prop where
  dn : smallN e.dn
  typ : ∀ a ∈ e.attrs, a.typ.length ≤ 4000
  val : ∀ a ∈ e.attrs, ∀ v ∈ a.vals, v.length ≤ 4000
  vals : ∀ a ∈ e.attrs, a.vals.length ≤ 4000
  attrs : e.attrs.length ≤ 4000
  w : wAttrs e.attrs ≤ 4000
theorem smallE {e : Entry} (h : wE e ≤ 4000) : SmallE e := by
  unfold wE at h
  have hd : ∀ a ∈ e.dn, 1 + a.typ.length + a.val.length ≤ wDn e.dn := fun a ha => sum_mem (f := fun a : Ava => 1 + a.typ.length + a.val.length) ha
  have hdl : e.dn.length ≤ wDn e.dn := sum_len (fun _ => by omega) e.dn
  have ha : ∀ a ∈ e.attrs, wAttr a ≤ wAttrs e.attrs := fun a ha => sum_mem ha
  have hal : e.attrs.length ≤ wAttrs e.attrs := sum_len (fun _ => by unfold wAttr; omega) e.attrs
  have hv : ∀ a ∈ e.attrs, ∀ v ∈ a.vals, 1 + v.length ≤ wVals a.vals := fun a _ v hv => sum_mem (f := fun v : Str => 1 + v.length) hv
  have hvl : ∀ a : Attr, a.vals.length ≤ wVals a.vals := fun a => sum_len (fun _ => by omega) a.vals
  refine ⟨⟨by omega, fun a h1 => ?_⟩, fun a h1 => ?_, fun a h1 v h2 => ?_, fun a h1 => ?_, by omega, by omega⟩
  · have := hd a h1; omega
  · have := ha a h1; unfold wAttr at this; omega
  · have h3 := ha a h1; have h4 := hv a h1 v h2; unfold wAttr at h3; omega
  · have h3 := ha a h1; have h4 := hvl a; unfold wAttr at h3; omega
theorem raw_len {e : Entry} (h : SmallE e) : (rawK e).length ≤ 4000 := Nat.le_trans (attrs_keys _ _) h.w
theorem keys_len {e : Entry} (h : SmallE e) : (keysM e).length ≤ 4000 := by
  have h1 := lay_len (rawK e) []
  have h2 := raw_len h
  unfold keysM
  simp only [List.length_nil] at h1
  omega

theorem sum_take {α : Type} {f : α → Nat} {l : List α} {k : Nat} {x : α} (h : l[k]? = some x) : ((l.take k).map f).sum + f x ≤ (l.map f).sum := by
  have e : l = l.take k ++ x :: l.drop (k + 1) := by rw [← drop_consS h, List.take_append_drop]
  have e2 : (l.map f).sum = ((l.take k).map f).sum + (f x + ((l.drop (k + 1)).map f).sum) := by
    conv => lhs; rw [e]
    rw [List.map_append, List.sum_append, List.map_cons, List.sum_cons]
  omega
def rk (name : Str) (l : List Attr) (k : Nat) : List Str := (l.take k).flatMap (attrK name)
def vk (name c : Str) (y : Int) (l : List Str) (j : Nat) : List Str := (l.take j).flatMap (valK c y name)
theorem rk_next {name : Str} {l : List Attr} {k : Nat} {a : Attr} (h : l[k]? = some a) : rk name l (k + 1) = rk name l k ++ attrK name a := by
  unfold rk; rw [take_snocS h]; simp
theorem vk_next {name c : Str} {y : Int} {l : List Str} {j : Nat} {v : Str} (h : l[j]? = some v) : vk name c y l (j + 1) = vk name c y l j ++ valK c y name v := by
  unfold vk; rw [take_snocS h]; simp
theorem rk_all {name : Str} {l : List Attr} {k : Nat} (h : l.length ≤ k) : rk name l k = l.flatMap (attrK name) := by
  unfold rk; rw [List.take_of_length_le h]
theorem vk_all {name c : Str} {y : Int} {l : List Str} {j : Nat} (h : l.length ≤ j) : vk name c y l j = l.flatMap (valK c y name) := by
  unfold vk; rw [List.take_of_length_le h]
theorem rk_len {name : Str} {l : List Attr} (hw : wAttrs l ≤ 4000) (k : Nat) : (rk name l k).length ≤ 4000 := by
  have h1 := attrs_keys name (l.take k)
  have h2 : wAttrs (l.take k) ≤ wAttrs l := by
    conv => rhs; rw [← List.take_append_drop k l]
    unfold wAttrs
    rw [List.map_append, List.sum_append]; omega
  unfold rk; omega
theorem part_len {name : Str} {l : List Attr} {k : Nat} {a : Attr} (hw : wAttrs l ≤ 4000) (h : l[k]? = some a) (c : Str) (y : Int) {j : Nat} {v : Str} (hj : a.vals[j]? = some v) :
    (rk name l k).length + 1 + (vk name c y a.vals j).length + (valK c y name v).length ≤ 4000 := by
  have h1 := attrs_keys name (l.take k)
  have h2 := vals_keys c y name (a.vals.take j)
  have h3 := valK_len c y name v
  have h4 := sum_take (f := wAttr) h
  have h5 := sum_take (f := fun v : Str => 1 + v.length) hj
  unfold wAttrs wVals at *
  unfold rk vk
  have h6 : wAttr a = 1 + a.typ.length + (a.vals.map fun v => 1 + v.length).sum := rfl
  omega
theorem attrK_no {name : Str} {a : Attr} (h : kindM (foldS a.typ) = none ∨ a.vals = []) : attrK name a = [] := by
  unfold attrK
  rcases h with h | h
  · rw [h]
  · split
    · rfl
    · rw [if_pos h]
theorem attrK_yes {name : Str} {a : Attr} {p : Int × Bool} (h : kindM (foldS a.typ) = some p) (h2 : a.vals ≠ []) : attrK name a = (112 :: (foldS a.typ ++ [0]) ++ name) :: a.vals.flatMap (valK (foldS a.typ) p.1 name) := by
  unfold attrK; rw [h]; simp only [if_neg h2]
/-- A type's answer, part by part. -/
def tOk (s : Str) : Bool := (kindM (foldS s)).isSome
def tC (s : Str) : Str := if tOk s = true then foldS s else []
def tY (s : Str) : Int := ((kindM (foldS s)).getD (0, false)).1
def tG (s : Str) : Bool := ((kindM (foldS s)).getD (0, false)).2
theorem tC_len (s : Str) : (tC s).length ≤ s.length := by
  unfold tC; have := foldS_len s; split <;> simp <;> omega

end Go.Sp
