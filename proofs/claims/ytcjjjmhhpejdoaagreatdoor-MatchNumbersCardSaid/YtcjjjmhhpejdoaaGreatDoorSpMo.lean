/-
  A number in decimal digits. Plain laws.
-/
import Derived.Test.YtcjjjmhhpejdoaaGreatDoorSpMn
namespace Go.Sp
open Go.Vc
set_option linter.unusedVariables false
set_option linter.unusedSimpArgs false

def digT (n : Nat) : UInt8 := UInt8.ofNat (48 + n % 10)
def decT (n : Nat) : Str := if n < 10 then [digT n] else decT (n / 10) ++ [digT n]
termination_by n
decreasing_by omega
theorem decT_small {n : Nat} (h : n < 10) : decT n = [digT n] := by rw [decT, if_pos h]
theorem decT_more {n : Nat} (h : ¬ n < 10) : decT n = decT (n / 10) ++ [digT n] := by rw [decT, if_neg h]
theorem digT_is (n : Nat) : isDig (digT n) = true ∧ dV (digT n) = n % 10 ∧ (n % 10 ≠ 0 → digT n ≠ 48) := by
  have e : ∀ k : Fin 10, isDig (UInt8.ofNat (48 + k.val)) = true ∧ dV (UInt8.ofNat (48 + k.val)) = k.val ∧ (k.val ≠ 0 → UInt8.ofNat (48 + k.val) ≠ 48) := by decide +kernel
  exact e ⟨n % 10, Nat.mod_lt _ (by decide)⟩
theorem decV_snoc : ∀ (l : Str) (c : UInt8), decV (l ++ [c]) = decV l * 10 + dV c
  | [], c => by simp [decV]
  | x :: l, c => by
    rw [List.cons_append, decV, decV_snoc l c, decV, List.length_append, List.length_singleton, Nat.pow_succ, Nat.add_mul]
    have : dV x * (10 ^ l.length * 10) = dV x * 10 ^ l.length * 10 := by rw [Nat.mul_assoc]
    omega
theorem decT_facts : ∀ n : Nat, (decT n).all isDig = true ∧ decV (decT n) = n ∧ (∀ k, n < 10 ^ (k + 1) → (decT n).length ≤ k + 1) ∧ ∃ c r, decT n = c :: r ∧ (n ≠ 0 → c ≠ 48)
  | n => by
    obtain ⟨h1, h2, h3⟩ := digT_is n
    by_cases h : n < 10
    · rw [decT_small h]
      have e : n % 10 = n := Nat.mod_eq_of_lt h
      refine ⟨by simp [h1], by rw [decV, decV, h2]; simp only [List.length_nil]; omega, fun k _ => by simp, _, _, rfl, fun hn => h3 (by omega)⟩
    · have : n / 10 < n := by omega
      obtain ⟨i1, i2, i3, c, r, i4, i5⟩ := decT_facts (n / 10)
      rw [decT_more h]
      refine ⟨by rw [List.all_append, i1]; simp [h1], by rw [decV_snoc, i2, h2]; omega, fun k hk => ?_, c, r ++ [digT n], by rw [i4]; rfl, fun _ => i5 (by omega)⟩
      rw [List.length_append, List.length_singleton]
      cases k with
      | zero => simp at hk; omega
      | succ k =>
        have := i3 k (by rw [Nat.pow_succ] at hk; omega)
        omega
theorem decT_num {n : Nat} (h : n ≤ 1125899906842624) : numB (decT n) = true ∧ numV (decT n) = n ∧ (decT n).length ≤ 17 ∧ (0 < n → numB (45 :: decT n) = true ∧ numV (45 :: decT n) = -(n : Int)) := by
  obtain ⟨h1, h2, h3, c, r, h4, h5⟩ := decT_facts n
  have hl := h3 16 (by have : (10 : Nat) ^ (16 + 1) = 100000000000000000 := by decide
                       omega)
  have hc : isDig c = true := by rw [h4, List.all_cons, Bool.and_eq_true] at h1; exact h1.1
  have h45 : c ≠ 45 := by rintro rfl; exact absurd hc (by decide)
  have hr : restS (decT n) = decT n := by unfold restS; rw [h4, if_neg (by simpa using h45)]
  have hd : (decT n).head? = some c := by rw [h4]; rfl
  refine ⟨?_, ?_, hl, fun hn => ⟨?_, ?_⟩⟩
  · unfold numB
    rw [hr, h1, decide_eq_true (show decT n ≠ [] by rw [h4]; simp), decide_eq_true (show (decT n).length ≤ 18 by omega), hd]
    by_cases hn : n = 0
    · subst hn
      rw [show decT 0 = [48] from decT_small (by decide)]; simp
    · rw [decide_eq_false (show ¬ some c = some 48 from fun e => h5 hn (Option.some.inj e))]; rfl
  · unfold numV
    rw [hr, h2, hd, if_neg (by simpa using h45)]
  · have hr2 : restS (45 :: decT n) = decT n := rfl
    unfold numB
    rw [hr2, h1, decide_eq_true (show decT n ≠ [] by rw [h4]; simp), decide_eq_true (show (decT n).length ≤ 18 by omega), hd, decide_eq_false (show ¬ some c = some 48 from fun e => h5 (by omega) (Option.some.inj e))]; rfl
  · have hr2 : restS (45 :: decT n) = decT n := rfl
    unfold numV
    rw [hr2, h2]; rfl
theorem norm_two {s : Str} (h : numB s = true) (hl : s.length ≤ 256) : normM 2 s = some s := by
  unfold normM
  rw [if_neg (by omega), if_neg (by decide), if_pos rfl, if_pos h]
theorem less_nums {a b : Str} (ha : numB a = true) (hb : numB b = true) (hla : a.length ≤ 256) (hlb : b.length ≤ 256) : lessM 2 a b = (decide (numV a < numV b), true) := by
  unfold lessM
  rw [norm_two ha hla, norm_two hb hlb]; rfl
theorem equal_nums {a b : Str} (ha : numB a = true) (hb : numB b = true) (hla : a.length ≤ 256) (hlb : b.length ≤ 256) : equalM 2 a b = decide (numV a = numV b) := by
  unfold equalM
  rw [norm_two ha hla, norm_two hb hlb, Bool.eq_iff_iff]
  simp only [decide_eq_true_eq]
  exact ⟨fun e => by rw [e], num_inj ha hb⟩
end Go.Sp
