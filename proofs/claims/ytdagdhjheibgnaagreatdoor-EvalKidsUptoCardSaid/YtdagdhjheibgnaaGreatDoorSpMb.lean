/-
  What is compared twice over is what is compared once: folds, and names told and read again. Plain laws.
-/
import Derived.Test.YtdagdhjheibgnaaGreatDoorSpMa
namespace Go.Sp
open Go.Vc
set_option linter.unusedVariables false

/-! ### folds -/
theorem low_low (c : UInt8) : lowB (lowB c) = lowB c := by
  have e : ∀ c : Fin 256, lowB (lowB (UInt8.ofNat c)) = lowB (UInt8.ofNat c) := by decide +kernel
  have := e ⟨c.toNat, c.toNat_lt⟩
  simpa using this
def goodF (b : Str) : Prop := b.foldl foldStep [] = b
theorem good_step {b : Str} (h : goodF b) (c : UInt8) : goodF (foldStep b c) := by
  by_cases hs : c = 32 ∧ (b = [] ∨ b.getLast? = some 32)
  · rw [show foldStep b c = b from if_pos hs]; exact h
  · rw [fold_put hs]
    unfold goodF at *
    rw [List.foldl_append, h]
    show foldStep b (lowB c) = _
    rw [fold_put (by rw [low_blank]; exact hs), low_low]
theorem good_fold : ∀ (s b : Str), goodF b → goodF (s.foldl foldStep b)
  | [], b, h => h
  | c :: s, b, h => good_fold s _ (good_step h c)
theorem good_init {b : Str} {x : UInt8} (h : goodF (b ++ [x])) : goodF b ∧ ¬ (x = 32 ∧ (b = [] ∨ b.getLast? = some 32)) := by
  unfold goodF at h
  rw [List.foldl_append] at h
  have h1 : foldStep (b.foldl foldStep []) x = b ++ [x] := h
  have hl := foldl_lenB b []
  simp only [List.length_nil] at hl
  by_cases hs : x = 32 ∧ (b.foldl foldStep [] = [] ∨ (b.foldl foldStep []).getLast? = some 32)
  · rw [show foldStep _ x = _ from if_pos hs] at h1
    rw [h1] at hl
    simp at hl
    omega
  · rw [fold_put hs] at h1
    have h2 := List.append_inj_left' h1 rfl
    exact ⟨h2, by rw [h2] at hs; exact hs⟩
theorem fold_fold (s : Str) : foldS (foldS s) = foldS s := by
  have hg : goodF (s.foldl foldStep []) := good_fold s [] rfl
  generalize hF : s.foldl foldStep [] = F at hg
  have e : foldS s = stripB F := by unfold foldS; rw [hF]
  rw [e]
  unfold stripB
  by_cases hl : F.getLast? = some 32
  · rw [if_pos hl]
    obtain ⟨b, rfl⟩ : ∃ b, F = b ++ [32] := by
      have hne : F ≠ [] := by rintro rfl; cases hl
      refine ⟨F.dropLast, ?_⟩
      have := List.dropLast_concat_getLast hne
      rw [List.getLast?_eq_some_getLast hne] at hl
      rw [← Option.some.inj hl]
      exact this.symm
    rw [List.dropLast_concat]
    obtain ⟨h1, h2⟩ := good_init hg
    unfold foldS
    rw [h1]
    unfold stripB
    rw [if_neg (fun h => h2 ⟨rfl, .inr h⟩)]
  · rw [if_neg hl]
    unfold foldS
    rw [hg]
    unfold stripB
    rw [if_neg hl]
theorem val_val (s : Str) : valS (valS s) = valS s := by
  by_cases h : foldS s = [] ∧ s ≠ []
  · rw [show valS s = [32] from if_pos h]; rfl
  · rw [show valS s = foldS s from if_neg h]
    unfold valS
    rw [fold_fold]
    by_cases h2 : foldS s = []
    · rw [h2]; rfl
    · rw [if_neg (fun e => h2 e.1)]
theorem val_nil {s : Str} (h : s ≠ []) : valS s ≠ [] := by
  unfold valS
  split
  · simp
  · rename_i h2
    intro e
    exact h2 ⟨e, h⟩

/-! ### a type, folded -/
theorem low_typ (c : UInt8) (h : typC c = true) : typC (lowB c) = true ∧ isLet (lowB c) = isLet c ∧ c ≠ 32 ∧ lowB c ≠ 32 := by
  have e : ∀ c : Fin 256, typC (UInt8.ofNat c) = true → (typC (lowB (UInt8.ofNat c)) = true ∧ isLet (lowB (UInt8.ofNat c)) = isLet (UInt8.ofNat c) ∧ UInt8.ofNat c ≠ 32 ∧ lowB (UInt8.ofNat c) ≠ 32) := by decide +kernel
  have := e ⟨c.toNat, c.toNat_lt⟩
  simpa using this (by simpa using h)
theorem fold_noblank : ∀ (s b : Str), (∀ c ∈ s, c ≠ 32) → s.foldl foldStep b = b ++ s.map lowB
  | [], b, _ => by simp
  | c :: s, b, h => by
    rw [List.foldl_cons, fold_put (fun e => h c (by simp) e.1), fold_noblank s _ (fun x hx => h x (by simp [hx]))]
    simp
theorem fold_typ {s : Str} (h : typeS s = true) : foldS s = s.map lowB ∧ typeS (s.map lowB) = true := by
  cases s with
  | nil => cases h
  | cons c r =>
    unfold typeS at h
    simp only [Bool.and_eq_true, decide_eq_true_eq] at h
    obtain ⟨⟨h1, h2⟩, h3⟩ := h
    have h4 : ∀ x ∈ c :: r, typC x = true := List.all_eq_true.1 h3
    constructor
    · unfold foldS
      rw [fold_noblank _ _ (fun x hx => (low_typ x (h4 x hx)).2.2.1), List.nil_append]
      unfold stripB
      rw [if_neg]
      intro hl
      have hm := List.mem_of_getLast? hl
      obtain ⟨x, hx, hx2⟩ := List.mem_map.1 hm
      exact (low_typ x (h4 x hx)).2.2.2 hx2
    · show typeS (lowB c :: r.map lowB) = true
      unfold typeS
      simp only [Bool.and_eq_true, decide_eq_true_eq]
      refine ⟨⟨by simpa using h1, by rw [(low_typ c (h4 c (by simp))).2.1]; exact h2⟩, ?_⟩
      rw [← List.map_cons, List.all_map]
      exact List.all_eq_true.2 fun x hx => (low_typ x (h4 x hx)).1
theorem norm_ok {a : Ava} (h : okAva a = true) : okAva (normA a) = true := by
  unfold okAva at *
  simp only [Bool.and_eq_true, Bool.not_eq_true', Bool.or_eq_false_iff, decide_eq_false_iff_not] at *
  obtain ⟨h1, h2, h3⟩ := h
  obtain ⟨h4, h5⟩ := fold_typ h1
  have h6 := valS_len a.val
  exact ⟨by show typeS (foldS a.typ) = true; rw [h4]; exact h5, val_nil h2, by show ¬ 64 < (valS a.val).length; omega⟩
theorem norm_isN {l : List Ava} (h : isN l = true) : isN (l.map normA) = true := by
  unfold isN at *
  rw [List.length_map, List.all_map]
  simp only [Bool.and_eq_true] at *
  exact ⟨h.1, List.all_eq_true.2 fun a ha => norm_ok (List.all_eq_true.1 h.2 a ha)⟩
theorem normA_normA (a : Ava) : normA (normA a) = normA a := by
  show Ava.mk _ _ = Ava.mk _ _
  rw [show (normA a).typ = foldS a.typ from rfl, show (normA a).val = valS a.val from rfl, fold_fold, val_val]

/-! ### a value told and read again -/
def tailG (n : Nat) : Nat → Str → Str
  | _, [] => []
  | k, c :: r => escC c k n ++ tailG n (k + 1) r
theorem told_tail (s : Str) : ∀ (m k : Nat), k ≤ s.length → s.length - k = m → toldS s = toldN s k ++ tailG s.length k (s.drop k)
  | 0, k, hk, hm => by
    have e : k = s.length := by omega
    subst e
    rw [List.drop_eq_nil_of_le (Nat.le_refl _)]
    simp [tailG, toldS]
  | m + 1, k, hk, hm => by
    obtain ⟨c, hc⟩ : ∃ c, s[k]? = some c := ⟨_, List.getElem?_eq_getElem (by omega)⟩
    rw [told_tail s m (k + 1) (by omega) (by omega), told_next hc, drop_consS hc, tailG, List.append_assoc]
theorem hex_back (c : UInt8) (t : Str) : strokeS (hexB (c >>> 4) :: hexB (c &&& 15) :: t) = some (c, t) := by
  have e : ∀ c : Fin 256, inS (hexB (UInt8.ofNat c >>> 4)) strokes = false ∧ halfB (hexB (UInt8.ofNat c >>> 4)) = some (UInt8.ofNat c >>> 4) ∧ halfB (hexB (UInt8.ofNat c &&& 15)) = some (UInt8.ofNat c &&& 15) ∧ (UInt8.ofNat c >>> 4) <<< 4 ||| (UInt8.ofNat c &&& 15) = UInt8.ofNat c := by decide +kernel
  have h := e ⟨c.toNat, c.toNat_lt⟩
  have h' : inS (hexB (c >>> 4)) strokes = false ∧ halfB (hexB (c >>> 4)) = some (c >>> 4) ∧ halfB (hexB (c &&& 15)) = some (c &&& 15) ∧ (c >>> 4) <<< 4 ||| (c &&& 15) = c := by simpa using h
  obtain ⟨h1, h2, h3, h4⟩ := h'
  rw [strokeS_hex (by rw [h1]; decide) h2, h3]
  simp [h4]
theorem mark_in {c : UInt8} {k n : Nat} (h : markB c k n = true) : inS c strokes = true := by
  unfold markB at h
  simp only [Bool.or_eq_true, Bool.and_eq_true, decide_eq_true_eq] at h
  rcases h with (h | ⟨_, h | h⟩) | ⟨_, h⟩
  · simp only [inS, specials, strokes, List.any_cons, Bool.or_eq_true, decide_eq_true_eq] at h ⊢
    rcases h with h | h | h | h | h | h | h | h
    · simp [h]
    · simp [h]
    · simp [h]
    · simp [h]
    · simp [h]
    · simp [h]
    · simp [h]
    · cases h
  · subst h; decide
  · subst h; decide
  · subst h; decide
theorem mark_not {c : UInt8} {k n : Nat} (h : markB c k n = false) : c ≠ 44 ∧ c ≠ 92 ∧ inS c [43, 34, 60, 62, 59] = false ∧ ¬ (k + 1 = n ∧ c = 32) ∧ ¬ (k = 0 ∧ c = 32) := by
  unfold markB at h
  simp only [Bool.or_eq_false_iff] at h
  obtain ⟨⟨h1, h2⟩, h3⟩ := h
  have n44 : c ≠ 44 := by rintro rfl; exact absurd h1 (by decide)
  have n92 : c ≠ 92 := by rintro rfl; exact absurd h1 (by decide)
  refine ⟨n44, n92, by rw [← in_special n44 n92]; exact h1, ?_, ?_⟩
  · rintro ⟨e1, e2⟩; simp [e1, e2] at h3
  · rintro ⟨e1, e2⟩; simp [e1, e2] at h2
theorem val_back {rest : Str} (hr : rest = [] ∨ ∃ t, rest = 44 :: t) : ∀ (r b : Str) (e : Nat), valL (tailG (b.length + r.length) b.length r ++ rest) b e = some (b ++ r, if r = [] then e else b.length + r.length, rest)
  | [], b, e => by
    rcases hr with rfl | ⟨t, rfl⟩
    · simp [tailG, valL_nil]
    · simp [tailG, valL_comma]
  | c :: r, b, e => by
    have ih := fun e' => val_back hr r (b ++ [c]) e'
    have el : (b ++ [c]).length + r.length = b.length + (c :: r).length := by simp; omega
    have ek : (b ++ [c]).length = b.length + 1 := by simp
    rw [el, ek] at ih
    have key : ∀ e', (r = [] → e' = b.length + 1) → valL (tailG (b.length + (c :: r).length) (b.length + 1) r ++ rest) (b ++ [c]) e' = some (b ++ c :: r, b.length + (c :: r).length, rest) := by
      intro e' he
      rw [ih e']
      by_cases h : r = []
      · subst h; simp [he rfl]
      · simp [h]
    rw [if_neg (List.cons_ne_nil _ _), tailG, List.append_assoc, escC]
    split
    · rw [List.cons_append, List.cons_append, List.cons_append, List.nil_append, valL_stroke (hex_back c _)]
      exact key _ (fun _ => rfl)
    · split
      · rename_i hm
        rw [List.cons_append, List.cons_append, List.nil_append, valL_stroke (strokeS_in (mark_in hm))]
        exact key _ (fun _ => rfl)
      · rename_i hm
        obtain ⟨h1, h2, h3, h4, _⟩ := mark_not (Bool.eq_false_iff.2 hm)
        rw [List.cons_append, List.nil_append, valL_byte h1 h2 h3]
        refine key _ (fun hr0 => ?_)
        rw [if_neg]
        intro hc
        exact h4 ⟨by subst hr0; simp, hc⟩
theorem value_back {v rest : Str} (hv : v ≠ []) (hr : rest = [] ∨ ∃ t, rest = 44 :: t) : valueS (blankS (toldS v ++ rest)) = some (v, rest) := by
  have ht : toldS v = tailG v.length 0 v := by have := told_tail v v.length 0 (Nat.zero_le _) rfl; simpa [toldN] using this
  have hb : blankS (toldS v ++ rest) = toldS v ++ rest := by
    rw [ht]
    cases v with
    | nil => exact absurd rfl hv
    | cons c r =>
      unfold blankS
      rw [tailG, escC]
      split
      · rfl
      · split
        · rfl
        · rename_i hm
          obtain ⟨_, _, _, _, h5⟩ := mark_not (Bool.eq_false_iff.2 hm)
          rw [List.cons_append, List.cons_append, List.dropWhile_cons, if_neg (by simpa using fun e => h5 ⟨rfl, e⟩)]
  rw [hb, ht]
  unfold valueS
  have := val_back hr v [] 0
  simp only [List.length_nil, Nat.zero_add, List.nil_append] at this
  rw [this]
  simp only [if_neg hv]
  rw [if_pos (List.length_pos_iff.2 hv), List.take_length]
def partT (a : Ava) : Str := a.typ ++ 61 :: toldS a.val
theorem typ_way {t rest : Str} (h : t.all typC = true) : (t ++ 61 :: rest).takeWhile typC = t ∧ (t ++ 61 :: rest).dropWhile typC = 61 :: rest := by
  induction t with
  | nil => exact ⟨rfl, rfl⟩
  | cons c r ih =>
    rw [List.all_cons, Bool.and_eq_true] at h
    obtain ⟨h1, h2⟩ := ih h.2
    rw [List.cons_append, List.takeWhile_cons, List.dropWhile_cons, if_pos h.1, if_pos h.1, h1, h2]
    exact ⟨rfl, rfl⟩
theorem part_back {a : Ava} {rest : Str} (h : okAva a = true) (hr : rest = [] ∨ ∃ t, rest = 44 :: t) : partS (partT a ++ rest) = some (a, rest) := by
  unfold okAva at h
  simp only [Bool.and_eq_true, Bool.not_eq_true', Bool.or_eq_false_iff, decide_eq_false_iff_not] at h
  obtain ⟨h1, h2, _⟩ := h
  have e0 : partT a ++ rest = a.typ ++ 61 :: (toldS a.val ++ rest) := by unfold partT; simp
  have hall : a.typ.all typC = true := by
    cases ht : a.typ with
    | nil => rfl
    | cons c r => rw [ht] at h1; unfold typeS at h1; simp only [Bool.and_eq_true] at h1; exact h1.2
  have hb : blankS (a.typ ++ 61 :: (toldS a.val ++ rest)) = a.typ ++ 61 :: (toldS a.val ++ rest) := by
    cases ht : a.typ with
    | nil => rw [ht] at h1; cases h1
    | cons c r =>
      rw [ht, List.all_cons, Bool.and_eq_true] at hall
      unfold blankS
      rw [List.cons_append, List.dropWhile_cons, if_neg (by simpa using (low_typ c hall.1).2.2.1)]
  obtain ⟨h3, h4⟩ := typ_way (rest := toldS a.val ++ rest) hall
  rw [e0, partS_go (r3 := toldS a.val ++ rest) (by rw [hb, h3]; exact h1) (by rw [hb, h4]; rfl), hb, h3, value_back h2 hr]
  rfl

/-! ### a name told and read again -/
def sepP : List Ava → Str
  | [] => []
  | a :: r => 44 :: (partT a ++ sepP r)
theorem parts_back : ∀ (r : List Ava) (a : Ava) (acc : List Ava), okAva a = true → (∀ x ∈ r, okAva x = true) → partsL (partT a ++ sepP r) acc = some (acc ++ a :: r)
  | [], a, acc, h, _ => by
    rw [show partT a ++ sepP [] = partT a ++ [] from rfl, partsL_end (part_back h (.inl rfl))]
  | b :: r, a, acc, h, hr => by
    rw [show partT a ++ sepP (b :: r) = partT a ++ 44 :: (partT b ++ sepP r) from rfl, partsL_more (part_back h (.inr ⟨_, rfl⟩)), parts_back r b (acc ++ [a]) (hr b (by simp)) (fun x hx => hr x (by simp [hx]))]
    simp
theorem print_tail (l : List Ava) : ∀ (m k : Nat), 1 ≤ k → k ≤ l.length → l.length - k = m → printS l = printN l k ++ sepP (l.drop k)
  | 0, k, h1, hk, hm => by
    have e : k = l.length := by omega
    subst e
    rw [List.drop_eq_nil_of_le (Nat.le_refl _)]
    simp [sepP, printS]
  | m + 1, k, h1, hk, hm => by
    obtain ⟨a, ha⟩ : ∃ a, l[k]? = some a := ⟨_, List.getElem?_eq_getElem (by omega)⟩
    rw [print_tail l m (k + 1) (by omega) (by omega) (by omega), print_next ha, drop_consS ha, sepP]
    unfold headA partT
    rw [if_neg (by omega)]
    simp
theorem print_cons (a : Ava) (r : List Ava) : printS (a :: r) = partT a ++ sepP r := by
  rw [print_tail (a :: r) r.length 1 (Nat.le_refl _) (by simp) (by simp), print_next (l := a :: r) (k := 0) (a := a) rfl]
  simp [printN, headA, partT]
theorem parse_print {l : List Ava} (h : isN l = true) : parseS (printS l) = (l, 0) := by
  cases l with
  | nil => rfl
  | cons a r =>
    have hall : ∀ x ∈ a :: r, okAva x = true := by
      unfold isN at h; rw [Bool.and_eq_true] at h; exact List.all_eq_true.1 h.2
    have hne : printS (a :: r) ≠ [] := by
      rw [print_cons]; unfold partT; simp
    unfold parseS
    rw [if_neg hne, print_cons, parts_back r a [] (hall a (by simp)) (fun x hx => hall x (by simp [hx]))]
    simp only [List.nil_append]
    rw [if_pos h]

/-! ### once -/
theorem parse_isN {s : Str} (h : (parseS s).2 = 0) : isN (parseS s).1 = true := by
  unfold parseS at *
  split
  · rfl
  · rename_i h1
    rw [if_neg h1] at h
    split
    · rename_i h2; rw [h2] at h; cases h
    · rename_i n h2
      rw [h2] at h
      simp only [] at h
      split
      · assumption
      · rename_i h3; rw [if_neg h3] at h; cases h
theorem once {syn : Int} {s a : Str} (h : normM syn s = some a) (ha : a.length ≤ 256) : normM syn a = some a := by
  unfold normM at h ⊢
  rw [if_neg (show ¬ 256 < a.length by omega)]
  split at h
  · cases h
  split at h
  · rename_i h1
    rw [if_pos h1]
    split at h
    · cases h
    · rename_i h2
      cases h
      rw [if_neg (val_nil h2), val_val]
  split at h
  · rename_i h1 h2
    rw [if_neg h1, if_pos h2]
    split at h
    · cases h; rename_i h3; rw [if_pos h3]
    · cases h
  split at h
  · rename_i h1 h2 h3
    rw [if_neg h1, if_neg h2, if_pos h3]
    split at h
    · rename_i h4
      cases h
      have hn := norm_isN (parse_isN h4)
      rw [parse_print hn]
      simp only [if_true, List.map_map]
      congr 2
      apply List.map_congr_left
      intro x _
      exact normA_normA x
    · cases h
  split at h
  · rename_i h1 h2 h3 h4
    rw [if_neg h1, if_neg h2, if_neg h3, if_pos h4]
  split at h
  · rename_i h1 h2 h3 h4 h5
    rw [if_neg h1, if_neg h2, if_neg h3, if_neg h4, if_pos h5]
    split at h
    · cases h
    · cases h
      rename_i h6
      rw [bare_bare, if_neg h6]
  · cases h
theorem once_all {syn : Int} {s : Str} (h : (normM syn s).isSome = true) (hl : ((normM syn s).getD []).length ≤ 256) : normM syn ((normM syn s).getD []) = some ((normM syn s).getD []) := by
  obtain ⟨a, ha⟩ := Option.isSome_iff_exists.1 h
  rw [ha] at hl ⊢
  exact once ha hl
theorem equal_once {syn : Int} {s : Str} (h : (normM syn s).isSome = true) (h1 : normM syn ((normM syn s).getD []) = some ((normM syn s).getD [])) : equalM syn s ((normM syn s).getD []) = true := by
  obtain ⟨a, ha⟩ := Option.isSome_iff_exists.1 h
  rw [ha] at h1 ⊢
  unfold equalM
  rw [ha]
  simp only [Option.getD_some] at h1 ⊢
  rw [h1]
  simp

/-! ### a value and its own bytes -/
theorem whole_sub {s : Str} {l : List Str} (hs : s.length ≤ 256) (h2 : 2 ≤ l.length) (h16 : l.length ≤ 16) : subM 4 s l = (subL 4 l.length 0 l s, true) := by
  unfold subM
  rw [show normM 4 s = some s by unfold normM; rw [if_neg (by omega)]; rfl]
  simp only []
  rw [if_neg (by rintro (h | h | h | h) <;> first | (exact absurd h (by decide)) | omega)]
theorem whole_1 {s : Str} (hs : s.length ≤ 256) : subM 4 s [s, []] = (true, true) := by
  rw [whole_sub hs (by simp) (by simp)]
  simp [subL, stepM, pieceM]
theorem whole_2 {s : Str} (hs : s.length ≤ 256) : subM 4 s [[], s] = (true, true) := by
  rw [whole_sub hs (by simp) (by simp)]
  simp [subL, stepM, pieceM]
theorem idx_occ {p : Str} : ∀ {s : Str} {i : Nat}, i ≤ s.length → p.isPrefixOf (s.drop i) = true → 0 ≤ Lib.index s p
  | [], i, hi, h => by
    have : i = 0 := by simpa using hi
    subst this
    unfold Lib.index
    cases p with
    | nil => decide
    | cons c r => cases h
  | b :: l, 0, hi, h => by unfold Lib.index; rw [if_pos (by simpa using h)]; decide
  | b :: l, i + 1, hi, h => by
    have ih := idx_occ (s := l) (i := i) (by simpa using hi) (by simpa using h)
    unfold Lib.index
    split
    · decide
    · split
      · rename_i h2
        have : Lib.index l p = -1 := by simpa using h2
        omega
      · omega
theorem whole_3 {s : Str} {i j : Nat} (hs : s.length ≤ 256) (hi : i ≤ s.length) : subM 4 s [[], (s.take j).drop i, []] = (true, true) := by
  rw [whole_sub hs (by simp) (by simp)]
  have h0 : 0 ≤ Lib.index s ((s.take j).drop i) := by
    refine idx_occ hi ?_
    rw [List.drop_take, List.isPrefixOf_iff_prefix]
    exact List.take_prefix _ _
  simp [subL, stepM, pieceM, h0]
theorem whole_4 {s : Str} (hs : s.length ≤ 256) (h1 : 1 ≤ s.length) : subM 4 s [s, [120]] = (false, true) := by
  rw [whole_sub hs (by simp) (by simp)]
  simp [subL, stepM, pieceM]
end Go.Sp
