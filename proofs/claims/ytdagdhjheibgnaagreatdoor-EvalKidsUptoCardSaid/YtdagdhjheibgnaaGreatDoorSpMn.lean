/-
  Numbers in digits: what each is worth; which is below. Plain laws.
-/
import Derived.Test.YtdagdhjheibgnaaGreatDoorSpMa
import Derived.Lib.AtoiAll
namespace Go.Sp
open Go.Vc
set_option linter.unusedVariables false
set_option linter.unusedSimpArgs false

def dV (c : UInt8) : Nat := c.toNat - 48
def decV : Str → Nat
  | [] => 0
  | c :: r => dV c * 10 ^ r.length + decV r
def decF (acc : Nat) (l : Str) : Nat := l.foldl (fun a c => a * 10 + dV c) acc
theorem decF_eq : ∀ (l : Str) (acc : Nat), decF acc l = acc * 10 ^ l.length + decV l
  | [], acc => by simp [decF, decV]
  | c :: r, acc => by
    have ih := decF_eq r (acc * 10 + dV c)
    unfold decF at ih ⊢
    rw [List.foldl_cons, ih, decV, List.length_cons, Nat.pow_succ, Nat.add_mul]
    have : acc * 10 * 10 ^ r.length = acc * (10 ^ r.length * 10) := by rw [Nat.mul_assoc, Nat.mul_comm 10]
    omega
theorem dig_bd {c : UInt8} (h : isDig c = true) : 48 ≤ c.toNat ∧ c.toNat ≤ 57 := by
  have e : ∀ c : Fin 256, isDig (UInt8.ofNat c) = true → 48 ≤ (UInt8.ofNat c).toNat ∧ (UInt8.ofNat c).toNat ≤ 57 := by decide +kernel
  have := e ⟨c.toNat, c.toNat_lt⟩
  simpa using this (by simpa using h)
theorem decV_lt : ∀ {l : Str}, l.all isDig = true → decV l < 10 ^ l.length
  | [], _ => by simp [decV]
  | c :: r, h => by
    rw [List.all_cons, Bool.and_eq_true] at h
    have ih := decV_lt h.2
    have hd := dig_bd h.1
    have h9 : dV c ≤ 9 := by unfold dV; omega
    rw [decV, List.length_cons, Nat.pow_succ]
    have : dV c * 10 ^ r.length ≤ 9 * 10 ^ r.length := Nat.mul_le_mul_right _ h9
    omega
theorem decV_ge {c : UInt8} {r : Str} (h : isDig c = true) (hc : c ≠ 48) : 10 ^ r.length ≤ decV (c :: r) := by
  have hd := dig_bd h
  have h1 : 1 ≤ dV c := by
    unfold dV
    have : c.toNat ≠ 48 := fun e => hc (UInt8.toNat_inj.1 (by rw [e]; rfl))
    omega
  rw [decV]
  have : 1 * 10 ^ r.length ≤ dV c * 10 ^ r.length := Nat.mul_le_mul_right _ h1
  omega
theorem lex_dec : ∀ {a b : Str}, a.length = b.length → a.all isDig = true → b.all isDig = true → (sLt a b = true ↔ decV a < decV b)
  | [], [], _, _, _ => by simp [sLt_irrefl, decV]
  | [], _ :: _, h, _, _ => by simp at h
  | _ :: _, [], h, _, _ => by simp at h
  | x :: a, y :: b, h, ha, hb => by
    rw [List.all_cons, Bool.and_eq_true] at ha hb
    have hl : a.length = b.length := by simpa using h
    have ih := lex_dec hl ha.2 hb.2
    have h1 := decV_lt ha.2
    have h2 := decV_lt hb.2
    have dx := dig_bd ha.1
    have dy := dig_bd hb.1
    have e : sLt (x :: a) (y :: b) = true ↔ x < y ∨ (x = y ∧ sLt a b = true) := by
      simp only [sLt, Op.bytesLess, Bool.or_eq_true, Bool.and_eq_true, decide_eq_true_eq, beq_iff_eq]
    rw [e, decV, decV, hl]
    rw [hl] at h1
    rcases Nat.lt_trichotomy x.toNat y.toNat with hxy | hxy | hxy
    · have hlt : x < y := UInt8.lt_iff_toNat_lt.2 hxy
      have : (dV x + 1) * 10 ^ b.length ≤ dV y * 10 ^ b.length := Nat.mul_le_mul_right _ (by unfold dV; omega)
      rw [Nat.add_mul] at this
      constructor
      · intro _; omega
      · intro _; exact .inl hlt
    · have hxe : x = y := UInt8.toNat_inj.1 hxy
      subst hxe
      constructor
      · rintro (hh | ⟨_, hh⟩)
        · exact absurd hh (UInt8.lt_irrefl x)
        · have := ih.1 hh; omega
      · intro hh; exact .inr ⟨rfl, ih.2 (by omega)⟩
    · have : (dV y + 1) * 10 ^ b.length ≤ dV x * 10 ^ b.length := Nat.mul_le_mul_right _ (by unfold dV; omega)
      rw [Nat.add_mul] at this
      constructor
      · rintro (hh | ⟨hh, _⟩)
        · have := UInt8.lt_iff_toNat_lt.1 hh; omega
        · subst hh; omega
      · intro hh; omega

/-- What a number's text is worth. -/
def numV (s : Str) : Int := if s.head? = some 45 then -(decV (restS s) : Int) else decV (restS s)
theorem num_facts {s : Str} (h : numB s = true) : restS s ≠ [] ∧ (restS s).length ≤ 18 ∧ (restS s).all isDig = true ∧ ((restS s).head? = some 48 → s = [48]) := by
  unfold numB at h
  simp only [Bool.and_eq_true, Bool.not_eq_true', decide_eq_true_eq, Bool.and_eq_false_iff, decide_eq_false_iff_not, ne_eq, Decidable.not_not] at h
  obtain ⟨⟨⟨h1, h2⟩, h3⟩, h4⟩ := h
  exact ⟨h1, h2, h3, fun e => h4.resolve_left (fun n => n e)⟩
theorem parse_ok : ∀ (l : Str) (acc k : Nat), l.all isDig = true → acc < 10 ^ k → k + l.length ≤ 18 → Lib.parseUint10 acc l = .ok (decF acc l)
  | [], acc, k, _, _, _ => rfl
  | c :: r, acc, k, h, ha, hk => by
    rw [List.all_cons, Bool.and_eq_true] at h
    rw [List.length_cons] at hk
    have hd := dig_bd h.1
    have h17 : 10 ^ k ≤ 10 ^ 17 := Nat.pow_le_pow_right (by decide) (by omega)
    have e17 : (10 : Nat) ^ 17 = 100000000000000000 := by decide
    rw [e17] at h17
    rw [Lib.parseUint10, if_pos hd, if_neg (by omega), if_neg (by omega)]
    exact parse_ok r _ (k + 1) h.2 (by rw [Nat.pow_succ]; omega) (by omega)
theorem atoi_num {s : Str} (h : numB s = true) : Lib.atoiAll s = .ok (numV s) := by
  obtain ⟨h1, h2, h3, _⟩ := num_facts h
  have hp : Lib.parseMag (restS s) = .ok (decV (restS s)) := by
    unfold Lib.parseMag
    rw [if_neg h1, parse_ok (restS s) 0 0 h3 (by decide) (by omega), decF_eq]
    simp
  have hlt := decV_lt h3
  have h18 : 10 ^ (restS s).length ≤ 10 ^ 18 := Nat.pow_le_pow_right (by decide) h2
  have e18 : (10 : Nat) ^ 18 = 1000000000000000000 := by decide
  rw [e18] at h18
  cases s with
  | nil => exact absurd rfl h1
  | cons c r =>
    unfold Lib.atoiAll numV
    by_cases h45 : c = 45
    · subst h45
      have er : restS (45 :: r) = r := rfl
      rw [er] at hp hlt h18 ⊢
      simp only [List.head?_cons, if_true]
      rw [if_pos (show (45 : UInt8).toNat = 43 ∨ (45 : UInt8).toNat = 45 from .inr rfl), hp]
      simp only []
      rw [if_neg (by simp), if_neg (by omega)]
      simp
    · have er : restS (c :: r) = c :: r := by unfold restS; rw [if_neg (by simpa using h45)]
      have hn : c.toNat ≠ 45 := fun e => h45 (UInt8.toNat_inj.1 (by rw [e]; rfl))
      rw [er] at hp hlt h18 h3 ⊢
      rw [List.all_cons, Bool.and_eq_true] at h3
      have hd := dig_bd h3.1
      simp only []
      rw [if_neg (show ¬ (c.toNat = 43 ∨ c.toNat = 45) by omega), hp]
      simp only []
      rw [if_neg (by omega), if_neg (fun e => hn e.1), if_neg hn, if_neg (by simpa using h45)]
/-- Is a number below another one, both in digits? -/
def belowM (a b : Str) : Bool :=
  if decide (a.head? = some 45) ≠ decide (b.head? = some 45) then decide (a.head? = some 45)
  else if a.length ≠ b.length then decide (decide (a.length < b.length) ≠ decide (a.head? = some 45))
  else decide (a ≠ b) && decide (sLt a b ≠ decide (a.head? = some 45))
theorem num_neg {s : Str} (h : numB s = true) (h45 : s.head? = some 45) : s = 45 :: restS s ∧ 10 ^ ((restS s).length - 1) ≤ decV (restS s) := by
  obtain ⟨h1, h2, h3, h4⟩ := num_facts h
  cases s with
  | nil => cases h45
  | cons c r =>
    have hc : c = 45 := by simpa using h45
    subst hc
    refine ⟨rfl, ?_⟩
    have er : restS (45 :: r) = r := rfl
    rw [er] at h1 h3 h4 ⊢
    cases r with
    | nil => exact absurd rfl h1
    | cons d r =>
      rw [List.all_cons, Bool.and_eq_true] at h3
      have hne : d ≠ 48 := fun e => by subst e; have := h4 rfl; cases this
      have := decV_ge (r := r) h3.1 hne
      simpa using this
theorem num_pos {s : Str} (h : numB s = true) (h45 : ¬ s.head? = some 45) : restS s = s ∧ s.all isDig = true ∧ (2 ≤ s.length → 10 ^ (s.length - 1) ≤ decV s) := by
  obtain ⟨h1, h2, h3, h4⟩ := num_facts h
  have er : restS s = s := by unfold restS; rw [if_neg h45]
  rw [er] at h1 h2 h3 h4
  refine ⟨er, h3, fun hl => ?_⟩
  cases s with
  | nil => simp at hl
  | cons d r =>
    rw [List.all_cons, Bool.and_eq_true] at h3
    have hne : d ≠ 48 := fun e => by subst e; have := h4 rfl; rw [this] at hl; simp at hl
    have := decV_ge (r := r) h3.1 hne
    simpa using this
/-- The longer of two numbers is the greater. -/
theorem dec_longer {a b : Str} (ha : a.all isDig = true) (hb : 10 ^ (b.length - 1) ≤ decV b) (hl : a.length < b.length) : decV a < decV b := by
  have h1 := decV_lt ha
  have h2 : 10 ^ a.length ≤ 10 ^ (b.length - 1) := Nat.pow_le_pow_right (by decide) (by omega)
  omega
theorem below_eq {a b : Str} (ha : numB a = true) (hb : numB b = true) : belowM a b = decide (numV a < numV b) := by
  obtain ⟨a1, a2, a3, a4⟩ := num_facts ha
  obtain ⟨b1, b2, b3, b4⟩ := num_facts hb
  unfold belowM
  by_cases sa : a.head? = some 45 <;> by_cases sb : b.head? = some 45
  · obtain ⟨ea, ga⟩ := num_neg ha sa
    obtain ⟨eb, gb⟩ := num_neg hb sb
    have la : a.length = (restS a).length + 1 := congrArg List.length ea
    have lb : b.length = (restS b).length + 1 := congrArg List.length eb
    have va : numV a = -(decV (restS a) : Int) := by unfold numV; rw [if_pos sa]
    have vb : numV b = -(decV (restS b) : Int) := by unfold numV; rw [if_pos sb]
    rw [va, vb, if_neg (by simp [sa, sb])]
    simp only [sa, decide_true]
    by_cases hl : a.length = b.length
    · rw [if_neg (by simpa using hl)]
      have hl2 : (restS a).length = (restS b).length := by omega
      have l1 := lex_dec hl2 a3 b3
      have l2 := lex_dec hl2.symm b3 a3
      have es : sLt a b = sLt (restS a) (restS b) := by conv => lhs; rw [ea, eb]; simp [sLt, Op.bytesLess]
      have en : a = b ↔ restS a = restS b := ⟨fun e => by rw [e], fun e => by rw [ea, eb, e]⟩
      rw [es, Bool.eq_iff_iff]
      simp only [Bool.and_eq_true, decide_eq_true_eq, ne_eq, en]
      constructor
      · rintro ⟨h1, h2⟩
        rcases sLt_total (restS a) (restS b) with h | h | h
        · exact absurd h h1
        · exact absurd h h2
        · have := l2.1 h; omega
      · intro h
        have h3 : sLt (restS b) (restS a) = true := l2.2 (by omega)
        exact ⟨fun e => sLt_ne h3 e.symm, fun e => by rw [sLt_asymm h3] at e; cases e⟩
    · rw [if_pos hl, Bool.eq_iff_iff]
      simp only [decide_eq_true_eq, ne_eq]
      by_cases hlt : a.length < b.length
      · have := dec_longer a3 gb (by omega)
        simp only [hlt, decide_true, not_true, false_iff]
        omega
      · have := dec_longer b3 ga (by omega)
        simp only [hlt, decide_false]
        simp only [Bool.false_eq_true, not_false_eq_true, true_iff]
        omega
  · obtain ⟨ea, ga⟩ := num_neg ha sa
    have va : numV a = -(decV (restS a) : Int) := by unfold numV; rw [if_pos sa]
    have vb : numV b = (decV (restS b) : Int) := by unfold numV; rw [if_neg sb]
    have hp : 0 < 10 ^ ((restS a).length - 1) := Nat.pow_pos (by decide)
    rw [if_pos (by simp [sa, sb]), va, vb]
    simp only [sa, decide_true]
    rw [eq_comm, decide_eq_true_eq]
    omega
  · obtain ⟨eb, gb⟩ := num_neg hb sb
    have va : numV a = (decV (restS a) : Int) := by unfold numV; rw [if_neg sa]
    have vb : numV b = -(decV (restS b) : Int) := by unfold numV; rw [if_pos sb]
    rw [if_pos (by simp [sa, sb]), va, vb, decide_eq_false sa, eq_comm, decide_eq_false_iff_not]
    omega
  · obtain ⟨ea, a5, ga⟩ := num_pos ha sa
    obtain ⟨eb, b5, gb⟩ := num_pos hb sb
    have va : numV a = (decV a : Int) := by unfold numV; rw [if_neg sa, ea]
    have vb : numV b = (decV b : Int) := by unfold numV; rw [if_neg sb, eb]
    rw [va, vb, if_neg (by simp [sa, sb])]
    simp only [decide_eq_false sa]
    have na : 1 ≤ a.length := by rw [ea] at a1; exact List.length_pos_iff.2 a1
    have nb : 1 ≤ b.length := by rw [eb] at b1; exact List.length_pos_iff.2 b1
    by_cases hl : a.length = b.length
    · rw [if_neg (by simpa using hl)]
      have l1 := lex_dec hl a5 b5
      rw [Bool.eq_iff_iff]
      simp only [Bool.and_eq_true, decide_eq_true_eq, ne_eq, Bool.not_eq_false]
      constructor
      · rintro ⟨_, h2⟩; have := l1.1 h2; omega
      · intro h; have h3 := l1.2 (by omega); exact ⟨sLt_ne h3, h3⟩
    · rw [if_pos hl, Bool.eq_iff_iff]
      simp only [decide_eq_true_eq, ne_eq]
      by_cases hlt : a.length < b.length
      · have := dec_longer a5 (gb (by omega)) (by omega)
        simp only [hlt, decide_true]
        simp only [Bool.true_eq_false, not_false_eq_true, true_iff]
        omega
      · have := dec_longer b5 (ga (by omega)) (by omega)
        simp only [hlt, decide_false, not_true, false_iff]
        omega
theorem num_inj {a b : Str} (ha : numB a = true) (hb : numB b = true) (h : numV a = numV b) : a = b := by
  have h1 := below_eq ha hb
  have h2 := below_eq hb ha
  rw [h, decide_eq_false (by omega)] at h1
  rw [h, decide_eq_false (by omega)] at h2
  unfold belowM at h1 h2
  by_cases hs : decide (a.head? = some 45) = decide (b.head? = some 45)
  · rw [if_neg (by simpa using hs)] at h1
    rw [if_neg (by simpa using hs.symm)] at h2
    rcases Nat.lt_trichotomy a.length b.length with hl | hl | hl
    · rw [if_pos (by omega)] at h1
      rw [if_pos (by omega)] at h2
      rw [decide_eq_true hl] at h1
      rw [decide_eq_false (show ¬ b.length < a.length by omega), ← hs] at h2
      cases hd : decide (a.head? = some 45) <;> rw [hd] at h1 h2 <;> simp at h1 h2
    · rw [if_neg (by simpa using hl)] at h1
      rw [if_neg (by simpa using hl.symm)] at h2
      rcases sLt_total a b with hh | hh | hh
      · exact hh
      · have hn := sLt_ne hh
        have hr := sLt_asymm hh
        rw [hh, decide_eq_true hn] at h1
        rw [hr, decide_eq_true hn.symm, ← hs] at h2
        cases hd : decide (a.head? = some 45) <;> rw [hd] at h1 h2 <;> simp at h1 h2
      · have hn := sLt_ne hh
        have hr := sLt_asymm hh
        rw [hr, decide_eq_true hn.symm] at h1
        rw [hh, decide_eq_true hn, ← hs] at h2
        cases hd : decide (a.head? = some 45) <;> rw [hd] at h1 h2 <;> simp at h1 h2
    · rw [if_pos (by omega)] at h1
      rw [if_pos (by omega)] at h2
      rw [decide_eq_false (show ¬ a.length < b.length by omega)] at h1
      rw [decide_eq_true hl, ← hs] at h2
      cases hd : decide (a.head? = some 45) <;> rw [hd] at h1 h2 <;> simp at h1 h2
  · rw [if_pos hs] at h1
    rw [if_pos (Ne.symm hs)] at h2
    rw [h1, h2] at hs
    exact absurd rfl hs
/-- Which of two values is below; whether that can be told. -/
def lessM (syn : Int) (a b : Str) : Bool × Bool := match normM syn a, normM syn b with
  | some x, some y => if syn = 3 then (false, false) else if syn = 2 then (decide (numV x < numV y), true) else (sLt x y, true)
  | _, _ => (false, false)
theorem norm_num {s x : Str} (h : normM 2 s = some x) : numB x = true := by
  unfold normM at h
  split at h
  · cases h
  · rw [if_neg (by decide), if_pos rfl] at h
    split at h
    · cases h; assumption
    · cases h
end Go.Sp
