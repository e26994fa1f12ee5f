/-
  A walk of one's own over frames that are functions from slots to values: the rules of control, and of a region's operations in a planned order. Nothing is assumed.
-/
import Derived.WalkKit
namespace Go.Vc
open Go.RowKit

/-! ### Frames as functions -/

abbrev Env := Nat → Value

/-- One slot written. -/
def upd (E : Env) (d : Nat) (v : Value) : Env := fun k => cond (Nat.beq k d) v (E k)

def updO (E : Env) : Option Tmp → Value → Env
  | some d, v => upd E d v
  | none, _ => E

def ev (E : Env) : Operand → Value
  | .tmp t => E t
  | .const v => v
  | .global g => .pointer (some ⟨g, 0, none⟩)
  | .func f => .func (.func f) #[] #[]

def act (n : Nat) (E : Env) : Act := ⟨Array.ofFn (n := n) fun i => E i.val, []⟩

theorem upd_same (E : Env) (d : Nat) (v : Value) : upd E d v d = v := by simp [upd]
theorem nbeq_false {a b : Nat} (h : a ≠ b) : Nat.beq a b = false := by
  cases hb : Nat.beq a b with
  | false => rfl
  | true => exact absurd (Nat.eq_of_beq_eq_true hb) h
theorem upd_ne (E : Env) {d k : Nat} (v : Value) (h : k ≠ d) : upd E d v k = E k := by simp [upd, nbeq_false h]
theorem upd_self (E : Env) (d : Nat) (v : Value) (h : E d = v) : upd E d v = E := by
  funext k
  by_cases hk : k = d
  · subst hk; rw [upd_same, h]
  · rw [upd_ne _ _ hk]

def opB (n : Nat) : Operand → Bool
  | .tmp t => Nat.blt t n
  | _ => true

theorem act_size (n : Nat) (E : Env) : (act n E).tmps.size = n := by simp [act]

theorem act_get (n : Nat) (E : Env) (t : Nat) (h : t < n) : (act n E).tmps[t]? = some (E t) := by
  simp [act, h]

theorem act_eval {n : Nat} {E : Env} {x : Operand} (h : opB n x = true) : (act n E).eval x = ev E x := by
  cases x with
  | tmp t =>
    have ht : t < n := by simpa [opB, Nat.blt_eq] using h
    simp [Act.eval, ev, act, ht]
  | _ => rfl

theorem act_put (n : Nat) (E : Env) (d : Option Tmp) (v : Value) : (act n E).put d v = act n (updO E d v) := by
  cases d with
  | none => rfl
  | some d =>
    simp only [Act.put, updO, act]
    congr 1
    apply Array.ext
    · simp
    · intro i h1 h2
      simp only [Array.size_setIfInBounds, Array.size_ofFn] at h1
      rw [Array.getElem_setIfInBounds]
      · simp only [Array.getElem_ofFn, upd]
        by_cases hi : d = i
        · subst hi; simp
        · simp only [hi, if_false]
          rw [nbeq_false (fun e : i = d => hi e.symm)]
          exact Array.getElem_ofFn ..
      · simpa using h1

/-! ### What a text looks at -/

def okOper (n : Nat) (o : Oper) : Bool := o.op.operands.all (opB n) && (match o.dst with | some d => Nat.blt d n | none => true) && (match o.op with | .select .. => false | _ => true)

def okCode (n : Nat) : Code → Bool
  | .skip | .exit _ | .ret | .label _ => true
  | .region _ ops _ => ops.all (okOper n)
  | .seq a b => okCode n a && okCode n b
  | .cond c a b => opB n c && okCode n a && okCode n b
  | .block _ c => okCode n c
  | .loop c => okCode n c
  | .scope c => okCode n c
  | .refuse .. => true
  | _ => false

theorem exec_eq {n : Nat} {E : Env} {o : Oper} (h : okOper n o = true) : execOp (act n E).eval o = execOp (ev E) o := by
  unfold okOper at h
  simp only [Bool.and_eq_true] at h
  obtain ⟨⟨h1, _⟩, h3⟩ := h
  refine execOp_congr o (fun cs b e => by rw [e] at h3; cases h3) fun x hx => act_eval ?_
  exact Array.all_eq_true_iff_forall_mem.1 h1 x hx

/-! ### Control -/

def lift (n : Nat) (Q : Exit → Env → World → Prop) : Exit → Act → World → Prop := fun e a w => ∃ E, a = act n E ∧ Q e E w

/-- A text's weakest precondition over frames that are functions. -/
def W (P : Program) (n : Nat) (c : Code) (Q : Exit → Env → World → Prop) (E : Env) (w : World) : Prop :=
  okCode n c = true → c.wp P (lift n Q) (act n E) w

def then' (K : Env → World → Prop) (Q : Exit → Env → World → Prop) : Exit → Env → World → Prop
  | .normal, E, w => K E w
  | e, E, w => Q e E w

def inBlk (id : Nat) (Q : Exit → Env → World → Prop) : Exit → Env → World → Prop
  | .exit id', E, w => cond (Nat.beq id' id) (Q .normal E w) (Q (.exit id') E w)
  | e, E, w => Q e E w

def noGo (Q : Exit → Env → World → Prop) : Exit → Env → World → Prop
  | .goto _, _, _ => False
  | e, E, w => Q e E w

section
variable {P : Program} {n : Nat} {Q : Exit → Env → World → Prop} {E : Env} {w : World}

theorem W_mono {c : Code} {Q' : Exit → Env → World → Prop} (h : W P n c Q E w) (hq : ∀ e E w, Q e E w → Q' e E w) : W P n c Q' E w :=
  fun ok => Code.wp_mono (fun _ _ _ ⟨E', he, hQ⟩ => ⟨E', he, hq _ _ _ hQ⟩) (h ok)

theorem W_seq {x y : Code} (h : ∀ K : Env → World → Prop, (∀ E w, W P n y Q E w → K E w) → W P n x (then' K Q) E w) : W P n (.seq x y) Q E w := by
  intro ok
  simp only [okCode, Bool.and_eq_true] at ok
  refine wp_seq (Code.wp_mono ?_ (h (fun E w => W P n y Q E w) (fun _ _ h => h) ok.1))
  intro e a w' hq
  obtain ⟨E', rfl, hQ⟩ := hq
  cases e <;> first | exact hQ ok.2 | exact ⟨E', rfl, hQ⟩

theorem W_skip (h : Q .normal E w) : W P n .skip Q E w := fun _ => wp_skip ⟨E, rfl, h⟩
theorem W_ret (h : Q .ret E w) : W P n .ret Q E w := fun _ => wp_ret ⟨E, rfl, h⟩
theorem W_exit {id : Nat} (h : Q (.exit id) E w) : W P n (.exit id) Q E w := fun _ => wp_exit ⟨E, rfl, h⟩

theorem W_cond {c : Operand} {x y : Code} {t : Bool} (hc : ev E c = .bool t) (ht : t = true → W P n x Q E w) (hf : t = false → W P n y Q E w) : W P n (.cond c x y) Q E w := by
  intro ok
  simp only [okCode, Bool.and_eq_true] at ok
  refine wp_cond_split (t := t) (by rw [act_eval ok.1.1]; exact hc) (fun h => ht h ok.1.2) (fun h => hf h ok.2)

/-- A test whose value is a decision. -/
theorem W_if {c : Operand} {x y : Code} {p : Prop} [Decidable p] (hc : ev E c = .bool (decide p)) (ht : p → W P n x Q E w) (hf : ¬ p → W P n y Q E w) : W P n (.cond c x y) Q E w :=
  W_cond hc (fun h => ht (of_decide_eq_true h)) (fun h => hf (of_decide_eq_false h))

theorem W_block {id : Nat} {c : Code} (h : W P n c (inBlk id Q) E w) : W P n (.block id c) Q E w := by
  intro ok
  refine wp_block (Code.wp_mono ?_ (h ok))
  rintro e a w' ⟨E', rfl, hQ⟩
  cases e with
  | exit id' =>
    simp only [Exit.inBlock]
    by_cases hid : id' = id
    · subst hid
      simp only [if_true]
      refine ⟨E', rfl, ?_⟩
      simpa [inBlk] using hQ
    · simp only [hid, if_false]
      refine ⟨E', rfl, ?_⟩
      simpa [inBlk, nbeq_false hid] using hQ
  | _ => exact ⟨E', rfl, hQ⟩

theorem W_scope {c : Code} (h : W P n c (noGo Q) E w) : W P n (.scope c) Q E w := by
  intro ok
  refine wp_scope_straight (Code.wp_mono ?_ (h ok))
  rintro e a w' ⟨E', rfl, hQ⟩
  cases e <;> first | exact ⟨E', rfl, hQ⟩ | exact hQ.elim

/-- Slots and what stands in them. -/
def env : List (Nat × Value) → Env → Env
  | [], E => E
  | (d, v) :: r, E => upd (env r E) d v

def holds : List (Nat × Value) → Env → Prop
  | [], _ => True
  | (d, v) :: r, E => E d = v ∧ holds r E

theorem env_of_holds {l : List (Nat × Value)} {E : Env} (h : holds l E) : env l E = E := by
  induction l with
  | nil => rfl
  | cons x l ih =>
    obtain ⟨d, v⟩ := x
    simp only [holds] at h
    simp only [env, ih h.2]
    exact upd_self E d v h.1

/-- A loop: what stands in some slots, and what is known, as functions of a ghost. -/
theorem W_loop {c : Code} {G : Type} (sl : G → List (Nat × Value)) (F : G → World → Prop) (μ : G → Nat) (g0 : G) (h0 : holds (sl g0) E) (hF0 : F g0 w)
    (round : ∀ (E : Env) (g : G) (w : World), F g w → W P n c (then' (fun E' w' => ∃ g', holds (sl g') E' ∧ F g' w' ∧ μ g' < μ g) Q) (env (sl g) E) w) : W P n (.loop c) Q E w := by
  intro ok b k cs
  have key : ∀ (m : Nat) (E : Env) (g : G) (w : World), μ g = m → holds (sl g) E → F g w →
      ∃ e a' w', lift n Q e a' w' ∧ Arrives P (lone (b.at (act n E) (.code c :: .inLoop c :: k)) cs w) b k cs e a' w' := by
    intro m
    induction m using Nat.strongRecOn with
    | _ m ih =>
      intro E g w hm hh hF
      have hr := round E g w hF ok
      rw [env_of_holds hh] at hr
      obtain ⟨e, a1, w1, ⟨E1, rfl, hq⟩, harr⟩ := hr b (.inLoop c :: k) cs
      cases e with
      | normal =>
        obtain ⟨g', hh', hF', hlt⟩ := hq
        obtain ⟨e2, a2, w2, hq2, harr2⟩ := ih (μ g') (hm ▸ hlt) E1 g' w1 rfl hh' hF'
        exact ⟨e2, a2, w2, hq2, .of_steps (Steps.trans harr (.one step_inLoop)) harr2⟩
      | exit id => exact ⟨_, _, w1, ⟨E1, rfl, hq⟩, .pass (x := .inLoop c) rfl (fun _ _ => .inl (by simp)) harr⟩
      | goto l => exact ⟨_, _, w1, ⟨E1, rfl, hq⟩, .pass (x := .inLoop c) rfl (fun _ _ => .inl (by simp)) harr⟩
      | ret => exact ⟨_, _, w1, ⟨E1, rfl, hq⟩, .pass (x := .inLoop c) rfl (fun _ _ => .inl (by simp)) harr⟩
      | panic ch => exact ⟨_, _, w1, ⟨E1, rfl, hq⟩, .pass (x := .inLoop c) rfl (fun _ _ => .inl (by simp)) harr⟩
      | outgrown => exact ⟨_, _, w1, ⟨E1, rfl, hq⟩, .pass (x := .inLoop c) rfl (fun _ _ => .inl (by simp)) harr⟩
  obtain ⟨e, a', w', hq, harr⟩ := key (μ g0) E g0 w rfl h0 hF0
  exact ⟨e, a', w', hq, .of_steps (.one step_loop) harr⟩

/-! ### A function's text -/

def args0 : List Value → Nat → Env → Env
  | [], _, E => E
  | v :: r, k, E => upd (args0 r (k + 1) E) k v

def retPost (P : Program) (fn : Func) (n : Nat) (R : Ending → World → Prop) : Exit → Env → World → Prop
  | .normal, E, w | .ret, E, w => ∃ v, (results fn (act n E).tmps).run P w = .ok v w ∧ R (.returned v) w
  | _, _, _ => False

theorem args0_get (l : List Value) : ∀ (k i : Nat) (E : Env), args0 l k E i = if k ≤ i then (match l[i - k]? with | some v => v | none => E i) else E i := by
  induction l with
  | nil => intro k i E; simp [args0]
  | cons v r ih =>
    intro k i E
    by_cases h : i = k
    · subst h; simp [args0, upd_same]
    · rw [args0, upd_ne _ _ h, ih]
      by_cases h1 : k + 1 ≤ i
      · have h2 : k ≤ i := by omega
        have h3 : i - k = (i - (k + 1)) + 1 := by omega
        simp [h1, h2, h3]
      · have h2 : ¬ k ≤ i := by omega
        simp [h1, h2]

theorem calls_W {f : FuncId} {fn : Func} {c : Code} {as : List Value} {w : World} {R : Ending → World → Prop}
    (hf : P.funcs[f]? = some fn) (hb : fn.body = some c) (hn : fn.ntmps = n) (hle : Nat.ble as.length n = true) (ok : okCode n c = true)
    (h : W P n c (retPost P fn n R) (args0 as 0 (fun _ => undef)) w) : Calls P f as.toArray w R := by
  have hle' : as.length ≤ n := by simpa [Nat.ble_eq] using hle
  refine calls_of_wp hf hb ?_
  have ha : ({ tmps := as.toArray ++ Array.replicate (fn.ntmps - as.toArray.size) undef, defers := [] } : Act) = act n (args0 as 0 (fun _ => undef)) := by
    simp only [act, hn]
    congr 1
    apply Array.ext
    · simp; omega
    · intro i h1 h2
      simp only [Array.getElem_ofFn, args0_get, Nat.zero_le, if_true, Nat.sub_zero]
      rw [Array.getElem_append]
      by_cases hi : i < as.length
      · simp [hi]
      · simp [hi]
  rw [ha]
  refine Code.wp_mono ?_ (h ok)
  rintro e a w' ⟨E, rfl, hQ⟩
  cases e with
  | normal => obtain ⟨v, h1, h2⟩ := hQ; exact ⟨rfl, v, h1, h2⟩
  | ret => obtain ⟨v, h1, h2⟩ := hQ; exact ⟨rfl, v, h1, h2⟩
  | _ => exact hQ.elim

end
end Go.Vc
