/-
  A value made of pieces: taken off one by one, or looked for between the first one and the last. Plain laws.
-/
import Derived.Test.YtdagdhjheibgnaaGreatDoorSpMb
namespace Go.Sp
open Go.Vc
set_option linter.unusedVariables false

def greedy : Str → List Str → Option Str
  | s, [] => some s
  | s, p :: r => if 0 ≤ Lib.index s p then greedy (s.drop ((Lib.index s p).toNat + p.length)) r else none
/-- Where a text is in another one, from a place on. -/
def findI (s p : Str) (k : Nat) : Int := if 0 ≤ Lib.index (s.drop k) p then k + Lib.index (s.drop k) p else -1
def fitsM (s : Str) (l : List Str) : Bool :=
  if s.length < (l.headD []).length + (l.getLastD []).length ∨ s.take (l.headD []).length ≠ l.headD [] ∨ s.drop (s.length - (l.getLastD []).length) ≠ l.getLastD [] then false
  else (greedy ((s.take (s.length - (l.getLastD []).length)).drop (l.headD []).length) ((l.take (l.length - 1)).drop 1)).isSome

theorem idx_app (p B : Str) : ∀ t : Str, 0 ≤ Lib.index t p → Lib.index (t ++ B) p = Lib.index t p ∧ (Lib.index t p).toNat + p.length ≤ t.length
  | [], h => by
    unfold Lib.index at h
    split at h
    · rename_i hp
      have : p = [] := by simpa using hp
      subst this
      refine ⟨?_, by simp [Lib.index]⟩
      cases B <;> simp [Lib.index]
    · omega
  | c :: t, h => by
    by_cases hp : p.isPrefixOf (c :: t) = true
    · have e1 : Lib.index (c :: t) p = 0 := by unfold Lib.index; rw [if_pos hp]
      have hpre := List.isPrefixOf_iff_prefix.1 hp
      have e2 : Lib.index ((c :: t) ++ B) p = 0 := by
        rw [List.cons_append]; unfold Lib.index
        rw [if_pos (show p.isPrefixOf (c :: (t ++ B)) = true from List.isPrefixOf_iff_prefix.2 (hpre.trans (List.prefix_append (c :: t) B)))]
      rw [e1, e2]
      exact ⟨rfl, by have := hpre.length_le; simpa using this⟩
    · have e1 : Lib.index (c :: t) p = if Lib.index t p == -1 then -1 else Lib.index t p + 1 := by
        rw [Lib.index, if_neg hp]
      have hne : Lib.index t p ≠ -1 := by
        intro e; rw [e1, e] at h; revert h; decide
      have hge := Lib.index_ge t p
      have h0 : 0 ≤ Lib.index t p := by omega
      obtain ⟨h1, h2⟩ := idx_app p B t h0
      have e3 : Lib.index (c :: t) p = Lib.index t p + 1 := by rw [e1, if_neg (by simpa using hne)]
      have e4 : Lib.index ((c :: t) ++ B) p = Lib.index t p + 1 := by
        rw [List.cons_append, Lib.index, if_neg, h1, if_neg (by simpa using hne)]
        intro hq
        have hq1 := List.isPrefixOf_iff_prefix.1 hq
        have hq2 : p <+: c :: t := List.prefix_of_prefix_length_le hq1 (List.prefix_append (c :: t) B) (by simp; omega)
        exact hp (List.isPrefixOf_iff_prefix.2 hq2)
      rw [e3, e4]
      refine ⟨rfl, ?_⟩
      simp only [List.length_cons]
      omega
theorem idx_spec (p : Str) : ∀ t : Str, 0 ≤ Lib.index t p → p <+: t.drop (Lib.index t p).toNat
  | [], h => by
    unfold Lib.index at h
    split at h
    · rename_i hp
      have : p = [] := by simpa using hp
      subst this; exact List.nil_prefix
    · omega
  | c :: t, h => by
    by_cases hp : p.isPrefixOf (c :: t) = true
    · have e1 : Lib.index (c :: t) p = 0 := by unfold Lib.index; rw [if_pos hp]
      rw [e1]; exact List.isPrefixOf_iff_prefix.1 hp
    · have e1 : Lib.index (c :: t) p = if Lib.index t p == -1 then -1 else Lib.index t p + 1 := by
        rw [Lib.index, if_neg hp]
      have hne : Lib.index t p ≠ -1 := by
        intro e; rw [e1, e] at h; revert h; decide
      have hge := Lib.index_ge t p
      have e3 : Lib.index (c :: t) p = Lib.index t p + 1 := by rw [e1, if_neg (by simpa using hne)]
      have ih := idx_spec p t (by omega)
      rw [e3, show (Lib.index t p + 1).toNat = (Lib.index t p).toNat + 1 by omega]
      exact ih
theorem greedy_app (B : Str) : ∀ (M : List Str) (t r : Str), greedy t M = some r → greedy (t ++ B) M = some (r ++ B)
  | [], t, r, h => by cases h; rfl
  | p :: M, t, r, h => by
    unfold greedy at h ⊢
    split at h
    · rename_i h0
      obtain ⟨h1, h2⟩ := idx_app p B t h0
      rw [h1, if_pos h0, List.drop_append_of_le_length h2]
      exact greedy_app B M _ _ h
    · cases h
theorem greedy_end : ∀ (M : List Str) (t r : Str), greedy t M = some r → ∃ u, t = u ++ r
  | [], t, r, h => by cases h; exact ⟨[], rfl⟩
  | p :: M, t, r, h => by
    unfold greedy at h
    split at h
    · obtain ⟨u, hu⟩ := greedy_end M _ _ h
      exact ⟨t.take ((Lib.index t p).toNat + p.length) ++ u, by rw [List.append_assoc, ← hu, List.take_append_drop]⟩
    · cases h
theorem greedy_back (B : Str) : ∀ (M : List Str) (t r : Str), greedy (t ++ B) M = some (r ++ B) → greedy t M = some r
  | [], t, r, h => by
    have := Option.some.inj h
    rw [List.append_cancel_right this]; rfl
  | p :: M, t, r, h => by
    unfold greedy at h ⊢
    split at h
    · rename_i h0
      obtain ⟨_, hb⟩ := idx_app p [] (t ++ B) h0
      obtain ⟨u, hu⟩ := greedy_end M _ _ h
      have hl := congrArg List.length hu
      simp only [List.length_drop, List.length_append] at hl hb
      have hle : (Lib.index (t ++ B) p).toNat + p.length ≤ t.length := by omega
      have hs := idx_spec p (t ++ B) h0
      rw [List.drop_append_of_le_length (by omega)] at hs
      have hs2 : p <+: t.drop (Lib.index (t ++ B) p).toNat := List.prefix_of_prefix_length_le hs (List.prefix_append _ _) (by rw [List.length_drop]; omega)
      have h1 : 0 ≤ Lib.index t p := idx_occ (i := (Lib.index (t ++ B) p).toNat) (by omega) (List.isPrefixOf_iff_prefix.2 hs2)
      obtain ⟨h2, h3⟩ := idx_app p B t h1
      rw [if_pos h1]
      rw [h2, List.drop_append_of_le_length h3] at h
      exact greedy_back B M _ _ h
    · cases h
theorem pieces_way (s A B : Str) (M : List Str) :
    (A.isPrefixOf s && (match greedy (s.drop A.length) M with | none => false | some r => B.isSuffixOf r)) =
    (if s.length < A.length + B.length ∨ s.take A.length ≠ A ∨ s.drop (s.length - B.length) ≠ B then false else (greedy ((s.take (s.length - B.length)).drop A.length) M).isSome) := by
  rw [Bool.eq_iff_iff]
  constructor
  · intro h
    rw [Bool.and_eq_true] at h
    obtain ⟨h1, h2⟩ := h
    obtain ⟨s1, rfl⟩ := List.isPrefixOf_iff_prefix.1 h1
    rw [List.drop_left] at h2
    split at h2
    · cases h2
    · rename_i r hr
      obtain ⟨r', rfl⟩ := List.isSuffixOf_iff_suffix.1 h2
      obtain ⟨u, rfl⟩ := greedy_end M _ _ hr
      have hr' : greedy ((u ++ r') ++ B) M = some (r' ++ B) := by rw [List.append_assoc]; exact hr
      have hb := greedy_back B M _ _ hr'
      have el : (A ++ (u ++ (r' ++ B))).length - B.length = (A ++ (u ++ r')).length := by simp; omega
      have es : A ++ (u ++ (r' ++ B)) = (A ++ (u ++ r')) ++ B := by simp
      rw [if_neg]
      · rw [el, es, List.take_left, List.drop_left, hb]; rfl
      · rintro (h | h | h)
        · simp at h; omega
        · exact h List.take_left
        · rw [el, es, List.drop_left] at h; exact h rfl
  · intro h
    split at h
    · cases h
    · rename_i hc
      obtain ⟨r, hr⟩ := Option.isSome_iff_exists.1 h
      have c1 : A.length + B.length ≤ s.length := by omega
      have c2 : s.take A.length = A := Decidable.not_not.1 fun e => hc (.inr (.inl e))
      have c3 : s.drop (s.length - B.length) = B := Decidable.not_not.1 fun e => hc (.inr (.inr e))
      have es : s.drop A.length = ((s.take (s.length - B.length)).drop A.length) ++ B := by
        conv => lhs; rw [← List.take_append_drop (s.length - B.length) s]
        rw [List.drop_append_of_le_length (by rw [List.length_take]; omega), c3]
      rw [Bool.and_eq_true]
      refine ⟨List.isPrefixOf_iff_prefix.2 ⟨s.drop A.length, by conv => rhs; rw [← List.take_append_drop A.length s, c2]⟩, ?_⟩
      rw [es, greedy_app B M _ _ hr]
      exact List.isSuffixOf_iff_suffix.2 (List.suffix_append _ _)
theorem subL_mid (syn : Int) (b : Str) : ∀ (ms : List Str) (i n : Nat) (s : Str), 1 ≤ i → n = i + ms.length + 1 →
    subL syn n i (ms ++ [b]) s = (match greedy s (ms.map (pieceM syn)) with | none => false | some r => (pieceM syn b).isSuffixOf r)
  | [], i, n, s, hi, hn => by
    simp only [List.length_nil] at hn
    have : i ≠ 0 := by omega
    show subL syn n i [b] s = _
    simp only [subL, stepM, if_neg this, if_pos (show i + 1 = n by omega), List.map_nil, greedy]
    by_cases h : (pieceM syn b).isSuffixOf s = true <;> simp [h]
  | p :: ms, i, n, s, hi, hn => by
    simp only [List.length_cons] at hn
    have h0 : i ≠ 0 := by omega
    have h1 : i + 1 ≠ n := by omega
    rw [List.cons_append, subL]
    simp only [stepM, if_neg h0, if_neg h1, List.map_cons, greedy]
    by_cases h : 0 ≤ Lib.index s (pieceM syn p)
    · rw [if_pos h, if_pos h]
      exact subL_mid syn b ms (i + 1) n _ (by omega) (by omega)
    · rw [if_neg h, if_neg h]
theorem sub_fits (syn : Int) (l : List Str) (s : Str) (h2 : 2 ≤ l.length) : subL syn l.length 0 l s = fitsM s (l.map (pieceM syn)) := by
  obtain ⟨a, ms, b, rfl⟩ : ∃ a ms b, l = a :: (ms ++ [b]) := by
    cases l with
    | nil => simp at h2
    | cons a r =>
      have hr : r ≠ [] := by rintro rfl; simp at h2
      exact ⟨a, r.dropLast, r.getLast hr, by rw [List.dropLast_concat_getLast]⟩
  have e : subL syn (a :: (ms ++ [b])).length 0 (a :: (ms ++ [b])) s = ((pieceM syn a).isPrefixOf s && (match greedy (s.drop (pieceM syn a).length) (ms.map (pieceM syn)) with | none => false | some r => (pieceM syn b).isSuffixOf r)) := by
    rw [subL]
    simp only [stepM, if_true]
    by_cases h : (pieceM syn a).isPrefixOf s = true
    · rw [if_pos h, h, Bool.true_and]
      exact subL_mid syn b ms 1 _ _ (Nat.le_refl _) (by simp; omega)
    · rw [if_neg h, Bool.eq_false_iff.2 h, Bool.false_and]
  rw [e, pieces_way]
  unfold fitsM
  have h1 : (List.map (pieceM syn) (a :: (ms ++ [b]))).headD [] = pieceM syn a := rfl
  have h3 : (List.map (pieceM syn) (a :: (ms ++ [b]))).getLastD [] = pieceM syn b := by
    rw [List.getLastD_eq_getLast?, List.map_cons, List.map_append, List.map_cons, List.map_nil, ← List.cons_append, List.getLast?_concat]; rfl
  have h4 : ((List.map (pieceM syn) (a :: (ms ++ [b]))).take ((List.map (pieceM syn) (a :: (ms ++ [b]))).length - 1)).drop 1 = ms.map (pieceM syn) := by
    simp
  rw [h1, h3, h4]

theorem find_here {s p : Str} {k : Nat} (h : (s.take (k + p.length)).drop k = p) (hk : k + p.length ≤ s.length) : findI s p k = k := by
  have hp : p <+: s.drop k := by
    rw [List.drop_take, Nat.add_sub_cancel_left] at h
    exact ⟨(s.drop k).drop p.length, by conv => rhs; rw [← List.take_append_drop p.length (s.drop k), h]⟩
  have e : Lib.index (s.drop k) p = 0 := by
    cases hd : s.drop k with
    | nil => rw [hd] at hp; rw [List.prefix_nil.1 hp]; rfl
    | cons c r => unfold Lib.index; rw [if_pos (by rw [← hd]; exact List.isPrefixOf_iff_prefix.2 hp)]
  unfold findI
  rw [e]; simp
theorem find_next {s p : Str} {k : Nat} (h : (s.take (k + p.length)).drop k ≠ p) (hk : k + p.length ≤ s.length) : findI s p k = findI s p (k + 1) ∧ k < s.length := by
  have hlt : k < s.length := by
    rcases Nat.lt_or_ge k s.length with h1 | h1
    · exact h1
    · have hp : p = [] := List.eq_nil_of_length_eq_zero (by omega)
      subst hp
      exact absurd (by rw [List.length_nil, Nat.add_zero]; exact List.drop_eq_nil_of_le (List.length_take_le ..)) h
  refine ⟨?_, hlt⟩
  obtain ⟨c, hc⟩ : ∃ c, s[k]? = some c := ⟨_, List.getElem?_eq_getElem hlt⟩
  have hd := drop_consS hc
  have hnp : ¬ p.isPrefixOf (c :: s.drop (k + 1)) = true := by
    intro hp
    obtain ⟨q, hq⟩ := List.isPrefixOf_iff_prefix.1 hp
    apply h
    rw [List.drop_take, Nat.add_sub_cancel_left, hd, ← hq, List.take_left]
  unfold findI
  rw [hd, Lib.index, if_neg hnp]
  have hge := Lib.index_ge (s.drop (k + 1)) p
  by_cases h0 : Lib.index (s.drop (k + 1)) p = -1
  · simp [h0]
  · have e : (Lib.index (s.drop (k + 1)) p == -1) = false := by simpa using h0
    rw [e]
    simp only [Bool.false_eq_true, if_false]
    rw [if_pos (show 0 ≤ Lib.index (s.drop (k + 1)) p + 1 by omega), if_pos (show 0 ≤ Lib.index (s.drop (k + 1)) p by omega)]
    omega
theorem find_none {s p : Str} {k : Nat} (hk : s.length < k + p.length) (hk2 : k ≤ s.length) : findI s p k = -1 := by
  unfold findI
  rw [if_neg]
  intro h0
  have := (idx_app p [] (s.drop k) h0).2
  rw [List.length_drop] at this
  omega
theorem find_lt {s p : Str} {k : Nat} (h : findI s p k < 0) : Lib.index (s.drop k) p < 0 := by
  unfold findI at h
  split at h
  · omega
  · omega
theorem find_ge {s p : Str} {k : Nat} (h : ¬ findI s p k < 0) (hk : k ≤ s.length) : 0 ≤ Lib.index (s.drop k) p ∧ findI s p k = ↑(k + (Lib.index (s.drop k) p).toNat) ∧ k + (Lib.index (s.drop k) p).toNat + p.length ≤ s.length := by
  have h0 : 0 ≤ Lib.index (s.drop k) p := by
    unfold findI at h
    split at h
    · assumption
    · exact absurd (by decide) h
  refine ⟨h0, ?_, ?_⟩
  · unfold findI; rw [if_pos h0]; omega
  · have := (idx_app p [] (s.drop k) h0).2
    rw [List.length_drop] at this
    omega
theorem greedy_step {t p : Str} {k : Nat} {M : List Str} (h0 : 0 ≤ Lib.index (t.drop k) p) : greedy (t.drop k) (p :: M) = greedy (t.drop (k + (Lib.index (t.drop k) p).toNat + p.length)) M := by
  rw [greedy, if_pos h0, List.drop_drop, Nat.add_assoc]
theorem greedy_stop {t p : Str} {k : Nat} {M : List Str} (h0 : Lib.index (t.drop k) p < 0) : greedy (t.drop k) (p :: M) = none := by
  rw [greedy, if_neg (by omega)]
end Go.Sp
