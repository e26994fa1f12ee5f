/-
  A part of the proof: VcA VcB VcC VcD VcE VcF VcM VcN VcW SpMem SpOct VcV VcU.
-/
import Derived.WalkKit
import Derived.OrdersHeld
import Derived.Maps.OwnSet
import Derived.Maps.RangeWalk
import Derived.Maps.Views
import Derived.Lib.ConvBytes
import Derived.DeepKeys4
import Derived.KernelRfl
import Derived.Lib.Builder
import Derived.Lib.UnsafeStr
import Derived.Laws.Externs
import Derived.Lib.AppendStr
set_option maxRecDepth 100000
set_option maxHeartbeats 4000000
set_option linter.unusedVariables false
set_option linter.unusedSimpArgs false
namespace Go.Vc
open Go.RowKit
abbrev Env := Nat → Value
def upd (E : Env) (d : Nat) (v : Value) : Env := fun k => cond (Nat.beq k d) v (E k)
def updO (E : Env) : Option Tmp → Value → Env
  | some d, v => upd E d v
  | none, _ => E
def ev (E : Env) : Operand → Value
  | .tmp t => E t
  | .const v => v
  | .global g => .pointer (some ⟨g, 0, none⟩)
  | .func f => .func (.func f) #[] #[]
def act (n : Nat) (E : Env) : Act := ⟨Array.ofFn (n := n) fun i => E i.val, []⟩
theorem upd_same (E : Env) (d : Nat) (v : Value) : upd E d v d = v := by simp [upd]
theorem nbeq_false {a b : Nat} (h : a ≠ b) : Nat.beq a b = false := by
  cases hb : Nat.beq a b with
  | false => rfl
  | true => exact absurd (Nat.eq_of_beq_eq_true hb) h
theorem upd_ne (E : Env) {d k : Nat} (v : Value) (h : k ≠ d) : upd E d v k = E k := by simp [upd, nbeq_false h]
theorem upd_self (E : Env) (d : Nat) (v : Value) (h : E d = v) : upd E d v = E := by
  funext k
  by_cases hk : k = d
  · subst hk; rw [upd_same, h]
  · rw [upd_ne _ _ hk]
def opB (n : Nat) : Operand → Bool
  | .tmp t => Nat.blt t n
  | _ => true
theorem act_get (n : Nat) (E : Env) (t : Nat) (h : t < n) : (act n E).tmps[t]? = some (E t) := by
  simp [act, h]
theorem act_eval {n : Nat} {E : Env} {x : Operand} (h : opB n x = true) : (act n E).eval x = ev E x := by
  cases x with
  | tmp t =>
    have ht : t < n := by simpa [opB, Nat.blt_eq] using h
    simp [Act.eval, ev, act, ht]
  | _ => rfl
theorem act_put (n : Nat) (E : Env) (d : Option Tmp) (v : Value) : (act n E).put d v = act n (updO E d v) := by
  cases d with
  | none => rfl
  | some d =>
    simp only [Act.put, updO, act]
    congr 1
    apply Array.ext
    · simp
    · intro i h1 h2
      simp only [Array.size_setIfInBounds, Array.size_ofFn] at h1
      rw [Array.getElem_setIfInBounds]
      · simp only [Array.getElem_ofFn, upd]
        by_cases hi : d = i
        · subst hi; simp
        · simp only [hi, if_false]
          rw [nbeq_false (fun e : i = d => hi e.symm)]
          exact Array.getElem_ofFn ..
      · simpa using h1
def okOper (n : Nat) (o : Oper) : Bool := o.op.operands.all (opB n) && (match o.dst with | some d => Nat.blt d n | none => true) && (match o.op with | .select .. => false | _ => true)
def okCode (n : Nat) : Code → Bool
  | .skip | .exit _ | .ret | .label _ => true
  | .region _ ops _ => ops.all (okOper n)
  | .seq a b => okCode n a && okCode n b
  | .cond c a b => opB n c && okCode n a && okCode n b
  | .block _ c => okCode n c
  | .loop c => okCode n c
  | .scope c => okCode n c
  | .refuse .. => true
  | _ => false
theorem exec_eq {n : Nat} {E : Env} {o : Oper} (h : okOper n o = true) : execOp (act n E).eval o = execOp (ev E) o := by
  unfold okOper at h
  simp only [Bool.and_eq_true] at h
  obtain ⟨⟨h1, _⟩, h3⟩ := h
  refine execOp_congr o (fun cs b e => by rw [e] at h3; cases h3) fun x hx => act_eval ?_
  exact Array.all_eq_true_iff_forall_mem.1 h1 x hx
def lift (n : Nat) (Q : Exit → Env → World → Prop) : Exit → Act → World → Prop := fun e a w => ∃ E, a = act n E ∧ Q e E w
def W (P : Program) (n : Nat) (c : Code) (Q : Exit → Env → World → Prop) (E : Env) (w : World) : Prop :=
  okCode n c = true → c.wp P (lift n Q) (act n E) w
def then' (K : Env → World → Prop) (Q : Exit → Env → World → Prop) : Exit → Env → World → Prop
  | .normal, E, w => K E w
  | e, E, w => Q e E w
def inBlk (id : Nat) (Q : Exit → Env → World → Prop) : Exit → Env → World → Prop
  | .exit id', E, w => cond (Nat.beq id' id) (Q .normal E w) (Q (.exit id') E w)
  | e, E, w => Q e E w
def noGo (Q : Exit → Env → World → Prop) : Exit → Env → World → Prop
  | .goto _, _, _ => False
  | e, E, w => Q e E w
section
variable {P : Program} {n : Nat} {Q : Exit → Env → World → Prop} {E : Env} {w : World}
theorem W_mono {c : Code} {Q' : Exit → Env → World → Prop} (h : W P n c Q E w) (hq : ∀ e E w, Q e E w → Q' e E w) : W P n c Q' E w :=
  fun ok => Code.wp_mono (fun _ _ _ ⟨E', he, hQ⟩ => ⟨E', he, hq _ _ _ hQ⟩) (h ok)
theorem W_seq {x y : Code} (h : ∀ K : Env → World → Prop, (∀ E w, W P n y Q E w → K E w) → W P n x (then' K Q) E w) : W P n (.seq x y) Q E w := by
  intro ok
  simp only [okCode, Bool.and_eq_true] at ok
  refine wp_seq (Code.wp_mono ?_ (h (fun E w => W P n y Q E w) (fun _ _ h => h) ok.1))
  intro e a w' hq
  obtain ⟨E', rfl, hQ⟩ := hq
  cases e <;> first | exact hQ ok.2 | exact ⟨E', rfl, hQ⟩
theorem W_skip (h : Q .normal E w) : W P n .skip Q E w := fun _ => wp_skip ⟨E, rfl, h⟩
theorem W_ret (h : Q .ret E w) : W P n .ret Q E w := fun _ => wp_ret ⟨E, rfl, h⟩
theorem W_exit {id : Nat} (h : Q (.exit id) E w) : W P n (.exit id) Q E w := fun _ => wp_exit ⟨E, rfl, h⟩
theorem W_cond {c : Operand} {x y : Code} {t : Bool} (hc : ev E c = .bool t) (ht : t = true → W P n x Q E w) (hf : t = false → W P n y Q E w) : W P n (.cond c x y) Q E w := by
  intro ok
  simp only [okCode, Bool.and_eq_true] at ok
  refine wp_cond_split (t := t) (by rw [act_eval ok.1.1]; exact hc) (fun h => ht h ok.1.2) (fun h => hf h ok.2)
theorem W_if {c : Operand} {x y : Code} {p : Prop} [Decidable p] (hc : ev E c = .bool (decide p)) (ht : p → W P n x Q E w) (hf : ¬ p → W P n y Q E w) : W P n (.cond c x y) Q E w :=
  W_cond hc (fun h => ht (of_decide_eq_true h)) (fun h => hf (of_decide_eq_false h))
theorem W_block {id : Nat} {c : Code} (h : W P n c (inBlk id Q) E w) : W P n (.block id c) Q E w := by
  intro ok
  refine wp_block (Code.wp_mono ?_ (h ok))
  rintro e a w' ⟨E', rfl, hQ⟩
  cases e with
  | exit id' =>
    simp only [Exit.inBlock]
    by_cases hid : id' = id
    · subst hid
      simp only [if_true]
      refine ⟨E', rfl, ?_⟩
      simpa [inBlk] using hQ
    · simp only [hid, if_false]
      refine ⟨E', rfl, ?_⟩
      simpa [inBlk, nbeq_false hid] using hQ
  | _ => exact ⟨E', rfl, hQ⟩
def env : List (Nat × Value) → Env → Env
  | [], E => E
  | (d, v) :: r, E => upd (env r E) d v
def holds : List (Nat × Value) → Env → Prop
  | [], _ => True
  | (d, v) :: r, E => E d = v ∧ holds r E
theorem env_of_holds {l : List (Nat × Value)} {E : Env} (h : holds l E) : env l E = E := by
  induction l with
  | nil => rfl
  | cons x l ih =>
    obtain ⟨d, v⟩ := x
    simp only [holds] at h
    simp only [env, ih h.2]
    exact upd_self E d v h.1
theorem W_loop {c : Code} {G : Type} (sl : G → List (Nat × Value)) (F : G → World → Prop) (μ : G → Nat) (g0 : G) (h0 : holds (sl g0) E) (hF0 : F g0 w)
    (round : ∀ (E : Env) (g : G) (w : World), F g w → W P n c (then' (fun E' w' => ∃ g', holds (sl g') E' ∧ F g' w' ∧ μ g' < μ g) Q) (env (sl g) E) w) : W P n (.loop c) Q E w := by
  intro ok b k cs
  have key : ∀ (m : Nat) (E : Env) (g : G) (w : World), μ g = m → holds (sl g) E → F g w →
      ∃ e a' w', lift n Q e a' w' ∧ Arrives P (lone (b.at (act n E) (.code c :: .inLoop c :: k)) cs w) b k cs e a' w' := by
    intro m
    induction m using Nat.strongRecOn with
    | _ m ih =>
      intro E g w hm hh hF
      have hr := round E g w hF ok
      rw [env_of_holds hh] at hr
      obtain ⟨e, a1, w1, ⟨E1, rfl, hq⟩, harr⟩ := hr b (.inLoop c :: k) cs
      cases e with
      | normal =>
        obtain ⟨g', hh', hF', hlt⟩ := hq
        obtain ⟨e2, a2, w2, hq2, harr2⟩ := ih (μ g') (hm ▸ hlt) E1 g' w1 rfl hh' hF'
        exact ⟨e2, a2, w2, hq2, .of_steps (Steps.trans harr (.one step_inLoop)) harr2⟩
      | exit id => exact ⟨_, _, w1, ⟨E1, rfl, hq⟩, .pass (x := .inLoop c) rfl (fun _ _ => .inl (by simp)) harr⟩
      | goto l => exact ⟨_, _, w1, ⟨E1, rfl, hq⟩, .pass (x := .inLoop c) rfl (fun _ _ => .inl (by simp)) harr⟩
      | ret => exact ⟨_, _, w1, ⟨E1, rfl, hq⟩, .pass (x := .inLoop c) rfl (fun _ _ => .inl (by simp)) harr⟩
      | panic ch => exact ⟨_, _, w1, ⟨E1, rfl, hq⟩, .pass (x := .inLoop c) rfl (fun _ _ => .inl (by simp)) harr⟩
      | outgrown => exact ⟨_, _, w1, ⟨E1, rfl, hq⟩, .pass (x := .inLoop c) rfl (fun _ _ => .inl (by simp)) harr⟩
  obtain ⟨e, a', w', hq, harr⟩ := key (μ g0) E g0 w rfl h0 hF0
  exact ⟨e, a', w', hq, .of_steps (.one step_loop) harr⟩
def args0 : List Value → Nat → Env → Env
  | [], _, E => E
  | v :: r, k, E => upd (args0 r (k + 1) E) k v
def retPost (P : Program) (fn : Func) (n : Nat) (R : Ending → World → Prop) : Exit → Env → World → Prop
  | .normal, E, w | .ret, E, w => ∃ v, (results fn (act n E).tmps).run P w = .ok v w ∧ R (.returned v) w
  | _, _, _ => False
theorem args0_get (l : List Value) : ∀ (k i : Nat) (E : Env), args0 l k E i = if k ≤ i then (match l[i - k]? with | some v => v | none => E i) else E i := by
  induction l with
  | nil => intro k i E; simp [args0]
  | cons v r ih =>
    intro k i E
    by_cases h : i = k
    · subst h; simp [args0, upd_same]
    · rw [args0, upd_ne _ _ h, ih]
      by_cases h1 : k + 1 ≤ i
      · have h2 : k ≤ i := by omega
        have h3 : i - k = (i - (k + 1)) + 1 := by omega
        simp [h1, h2, h3]
      · have h2 : ¬ k ≤ i := by omega
        simp [h1, h2]
theorem calls_W {f : FuncId} {fn : Func} {c : Code} {az : List Value} {w : World} {R : Ending → World → Prop}
    (hf : P.funcs[f]? = some fn) (hb : fn.body = some c) (hn : fn.ntmps = n) (hle : Nat.ble az.length n = true) (ok : okCode n c = true)
    (h : W P n c (retPost P fn n R) (args0 az 0 (fun _ => undef)) w) : Calls P f az.toArray w R := by
  have hle' : az.length ≤ n := by simpa [Nat.ble_eq] using hle
  refine calls_of_wp hf hb ?_
  have ha : ({ tmps := az.toArray ++ Array.replicate (fn.ntmps - az.toArray.size) undef, defers := [] } : Act) = act n (args0 az 0 (fun _ => undef)) := by
    simp only [act, hn]
    congr 1
    apply Array.ext
    · simp; omega
    · intro i h1 h2
      simp only [Array.getElem_ofFn, args0_get, Nat.zero_le, if_true, Nat.sub_zero]
      rw [Array.getElem_append]
      by_cases hi : i < az.length
      · simp [hi]
      · simp [hi]
  rw [ha]
  refine Code.wp_mono ?_ (h ok)
  rintro e a w' ⟨E, rfl, hQ⟩
  cases e with
  | normal => obtain ⟨v, h1, h2⟩ := hQ; exact ⟨rfl, v, h1, h2⟩
  | ret => obtain ⟨v, h1, h2⟩ := hQ; exact ⟨rfl, v, h1, h2⟩
  | _ => exact hQ.elim
end
inductive Fl where
  | p | l | x
def nth : List Oper → Nat → Oper
  | [], _ => default
  | o :: _, 0 => o
  | _ :: r, k + 1 => nth r k
def nthD : List (Option Tmp) → Nat → Option Tmp
  | [], _ => none
  | o :: _, 0 => o
  | _ :: r, k + 1 => nthD r k
def guardB (ds : List (Option Tmp)) (E : Env) : Option (Nat × Bool) → Bool
  | none => true
  | some (j, want) => match nthD ds j with
    | some d => (match E d with | .bool b => b == want | _ => false)
    | none => false
def PV (P : Program) (o : Oper) (E : Env) (v : Value) : Prop := ∀ w, (execOp (ev E) o).run P w = .ok (.value v) w
def LV (P : Program) (o : Oper) (E : Env) (w : World) (v : Value) : Prop := (execOp (ev E) o).run P w = .ok (.value v) w
def XW (P : Program) (n : Nat) (o : Oper) (E : Env) (w : World) (K : Env → World → Prop) : Prop :=
  okOper n o = true → o.wp P (act n E) w (fun a w' => ∃ E', a = act n E' ∧ K E' w') (fun _ _ _ => False)
def Dw (P : Program) (n : Nat) (ds : List (Option Tmp)) (R : World → World → Prop) : List (Oper × Fl × Bool) → (Env → World → Prop) → Env → World → Prop
  | [], K, E, w => K E w
  | (o, .p, _) :: r, K, E, w => if guardB ds E o.guard = true then ∃ v, PV P o E v ∧ Dw P n ds R r K (updO E o.dst v) w else Dw P n ds R r K (updO E o.dst undef) w
  | (o, .l, _) :: r, K, E, w => if guardB ds E o.guard = true then ∃ v, (∀ w', R w w' → LV P o E w' v) ∧ Dw P n ds R r K (updO E o.dst v) w else Dw P n ds R r K (updO E o.dst undef) w
  | (o, .x, anc) :: r, K, E, w => if guardB ds E o.guard = true then XW P n o E w (fun E' w' => (anc = false → R w w') ∧ Dw P n ds R r K E' w') else Dw P n ds R r K (updO E o.dst undef) w
def nf (K : Env → World → Prop) : Exit → Env → World → Prop
  | .normal, E, w => K E w
  | _, _, _ => False
theorem nthD_eq (l : List Oper) : ∀ j, nthD (l.map (·.dst)) j = (l[j]?).bind (·.dst) := by
  induction l with
  | nil => intro j; rfl
  | cons o r ih => intro j; cases j with
    | zero => rfl
    | succ k => simpa [nthD] using ih k
theorem nth_eq (l : List Oper) : ∀ j (o : Oper), l[j]? = some o → nth l j = o := by
  induction l with
  | nil => intro j o h; simp at h
  | cons o r ih => intro j o' h; cases j with
    | zero => simpa [nth] using h
    | succ k => exact ih k o' (by simpa using h)
theorem wanted_eq {n : Nat} {ops : Array Oper} {E : Env} (o : Oper) (hok : ops.all (okOper n) = true) :
    Region.wanted o (yielded ops (act n E).tmps) = guardB (ops.toList.map (·.dst)) E o.guard := by
  unfold Region.wanted guardB
  cases hg : o.guard with
  | none => rfl
  | some jw =>
    obtain ⟨j, want⟩ := jw
    simp only [nthD_eq, Array.getElem?_toList, yielded]
    cases hj : ops[j]? with
    | none => simp
    | some oj =>
      simp only [Option.bind_some]
      cases hd : oj.dst with
      | none => simp
      | some d =>
        have h1 := Array.all_eq_true_iff_forall_mem.1 hok oj (Array.mem_of_getElem? hj)
        have hlt : d < n := by
          unfold okOper at h1
          simp only [hd, Bool.and_eq_true] at h1
          simpa [Nat.blt_eq] using h1.1.2
        simp only [Option.bind_some, act_get n E d hlt]
        cases E d <;> simp
theorem Oper.wp_monoQ {P : Program} {o : Oper} {a : Act} {w : World} {K : Act → World → Prop} {Q : Exit → Act → World → Prop}
    (hh : o.wp P a w K (fun _ _ _ => False)) : o.wp P a w K Q := by
  unfold Oper.wp at *
  generalize (execOp a.eval o).run P w = r at *
  cases r with
  | ok n w' =>
    cases n <;> simp only [Oper.upon] at hh ⊢ <;> first
      | exact hh
      | (refine Calls.mono hh (fun e w'' he => ?_)
         cases e with
         | returned v => exact he
         | panicked c => exact he.elim
         | outgrown => obtain ⟨_, _, hf⟩ := he; exact hf.elim)
  | halt x w' => cases x <;> simp only [Oper.upon] at hh ⊢
section
variable {P : Program} {n : Nat} {E : Env} {w : World} {ops : Array Oper} {R : World → World → Prop}
theorem wp_of_PV {o : Oper} {v : Value} (hok : okOper n o = true) (h : LV P o E w v) {K : Act → World → Prop} {Q : Exit → Act → World → Prop} (hK : K (act n (updO E o.dst v)) w) : o.wp P (act n E) w K Q := by
  unfold Oper.wp
  rw [exec_eq hok, h]
  simp only [Oper.upon, act_put]
  exact hK
def mkp : List Oper → List Fl → List (Oper × Fl × Bool)
  | o :: r, f :: fs => (o, f, true) :: mkp r fs
  | _, _ => []
theorem wpList_of_Dw (hok : ops.all (okOper n) = true) {K : Env → World → Prop} {Q : Exit → Env → World → Prop} (hQ : ∀ E w, K E w → Q .normal E w) : ∀ (l : List Oper) (fs : List Fl) (E : Env) (w : World), l.length = fs.length → (∀ o ∈ l, okOper n o = true) →
    Dw P n (ops.toList.map (·.dst)) (fun a b => a = b) (mkp l fs) K E w → wpList P ops (lift n Q) l (act n E) w := by
  intro l
  induction l with
  | nil => intro fs E w _ _ h; exact ⟨E, rfl, hQ _ _ h⟩
  | cons o r ih =>
    intro fs E w hl ho h
    cases fs with
    | nil => simp at hl
    | cons f fs =>
      have hl' : r.length = fs.length := by simpa using hl
      have ho' : ∀ o ∈ r, okOper n o = true := fun o h => ho o (List.mem_cons_of_mem _ h)
      have hoo := ho o List.mem_cons_self
      have hnext : ∀ v w, Dw P n (ops.toList.map (·.dst)) (fun a b => a = b) (mkp r fs) K (updO E o.dst v) w → wpList P ops (lift n Q) r ((act n E).put o.dst v) w := fun v w h => by
        rw [act_put]; exact ih fs _ w hl' ho' h
      unfold wpList
      rw [wanted_eq o hok]
      cases f <;> simp only [mkp, Dw] at h <;> (split at h <;> rename_i hg)
      · rw [if_pos hg]; obtain ⟨v, hv, hn⟩ := h
        exact .inl (wp_of_PV hoo (hv w) (by simpa [act_put] using hnext v w hn))
      · rw [if_neg hg]; exact hnext _ _ h
      · rw [if_pos hg]; obtain ⟨v, hv, hn⟩ := h
        exact .inl (wp_of_PV hoo (hv w rfl) (by simpa [act_put] using hnext v w hn))
      · rw [if_neg hg]; exact hnext _ _ h
      · rw [if_pos hg]
        refine .inl (Oper.wp_monoQ (Oper.wp_mono ?_ (h hoo)))
        rintro a w' ⟨E', rfl, _, hd⟩
        exact ih fs E' w' hl' ho' hd
      · rw [if_neg hg]; exact hnext _ _ h
theorem W_reg {id : Nat} {l : List Oper} {Q : Exit → Env → World → Prop} (fs : List Fl) (hl : Nat.beq l.length fs.length = true)
    (h : Dw P n (l.map (·.dst)) (fun a b => a = b) (mkp l fs) (fun E w => Q .normal E w) E w) : W P n (.region id l.toArray false) Q E w := by
  intro ok
  simp only [okCode] at ok
  refine wp_region_list ?_
  exact wpList_of_Dw (K := fun E w => Q .normal E w) ok (fun _ _ h => h) _ fs E w (Nat.eq_of_beq_eq_true hl) (fun o ho => Array.all_eq_true_iff_forall_mem.1 ok o (by simpa using ho)) (by simpa using h)
def edge (ops : Array Oper) (i k : Nat) : Bool := match ops[i]? with
  | some o => o.after.any fun e => Region.binds .any e && e.on == k
  | none => false
def Anc (ops : Array Oper) (ld : List Nat) (listed : Array Bool) (i : Nat) : Prop := ∀ k ∈ ld, listed.getD k false = true → k ≠ i → edge ops i k = true
def wpAnyR (P : Program) (ops : Array Oper) (Q : Exit → Act → World → Prop) (R : World → World → Prop) (ld : List Nat) : Nat → Array Bool → Act → World → Prop
  | 0, listed, a, w => Region.ready .any ops listed = [] ∧ Q .normal a w
  | fuel + 1, listed, a, w =>
    (Region.ready .any ops listed = [] → Q .normal a w) ∧
    ∀ i ∈ Region.ready .any ops listed, wpOp P ops Q i (fun a' w' => (R w w' ∨ Anc ops ld listed i) ∧ wpAnyR P ops Q R ld fuel (listed.setIfInBounds i true) a' w') a w
variable {Q : Exit → Act → World → Prop} {ld : List Nat}
theorem wpAny_of_R : ∀ (fuel : Nat) (listed : Array Bool) (a : Act) (w : World), wpAnyR P ops Q R ld fuel listed a w → wpAny P .any ops Q fuel listed a w
  | 0, _, _, _, h => h
  | fuel + 1, _, _, _, h => ⟨h.1, fun i hi => wpOp_mono (fun a' w' h' => wpAny_of_R fuel _ a' w' h'.2) (h.2 i hi)⟩
theorem YieldsIf.mono {S S' : World → Prop} {o : Oper} {v : Value} {a : Act} (h : YieldsIf P ops S o v a) (hs : ∀ w, S' w → S w) : YieldsIf P ops S' o v a :=
  h.imp (fun ⟨h1, h2⟩ => ⟨h1, fun w hw => h2 w (hs w hw)⟩) id
theorem wpAnyR_first {i : Nat} {oi : Oper} {v : Value} {B : Bool} (hrefl : ∀ w, R w w) (htrans : ∀ a b c, R a b → R b c → R a c) (hB : B = true → i ∈ ld) (hi : ops[i]? = some oi)
    (hsel : ∀ (j : Nat) (o : Oper) cs b, ops[j]? = some o → o.op ≠ .select cs b) (hQ : ∀ c a w, Q (.panic c) (a.put oi.dst v) w → Q (.panic c) a w) :
    ∀ (fuel : Nat) (listed : Array Bool) (a : Act) (w : World),
      (∀ j oj, ops[j]? = some oj → j ≠ i → listed.getD j true = false → (∀ e ∈ oj.after, Region.binds .any e = true → e.on ≠ i) → oi.apart ops oj = true) →
      i ∈ Region.ready .any ops listed → YieldsIf P ops (fun w' => B = true → R w w') oi v a →
      wpAnyR P ops Q R ld fuel (listed.setIfInBounds i true) (a.put oi.dst v) w → wpAnyR P ops Q R ld (fuel + 1) listed a w := by
  intro fuel
  induction fuel with
  | zero =>
    intro listed a w _ hr hy H
    refine ⟨fun h => (by rw [h] at hr; cases hr), fun j hj => ?_⟩
    by_cases hji : j = i
    · subst hji; exact hy.wpOp hi (fun _ => hrefl w) ⟨.inl (hrefl w), H⟩
    · have := ready_mono hj hji
      rw [H.1] at this
      cases this
  | succ fuel ih =>
    intro listed a w hfree hr hy H
    refine ⟨fun h => (by rw [h] at hr; cases hr), fun j hj => ?_⟩
    by_cases hji : j = i
    · subst hji; exact hy.wpOp hi (fun _ => hrefl w) ⟨.inl (hrefl w), H⟩
    · have h1 := H.2 j (ready_mono hj hji)
      obtain ⟨hjun, oj, hoj, hall⟩ := mem_ready.1 hj
      have hil : listed.getD i false = false := by
        have h0 := (mem_ready.1 hr).1
        rcases Nat.lt_or_ge i listed.size with h' | h'
        · simp [h'] at h0 ⊢; exact h0
        · simp [Array.getElem?_eq_none h']
      have hisz : i < listed.size := by
        have h0 := (mem_ready.1 hr).1
        rcases Nat.lt_or_ge i listed.size with h' | h'
        · exact h'
        · simp [Array.getElem?_eq_none h'] at h0
      have hnot : ∀ e ∈ oj.after, Region.binds .any e = true → e.on ≠ i := fun e he hb heq => by
        have h1 := hall e he hb
        rw [heq, hil] at h1
        cases h1
      have h2 := wpOp_putIf hoj (hfree j oj hoj hji hjun hnot) (fun cs b => hsel i oi cs b hi) (fun cs b => hsel j oj cs b hoj) hQ hy h1
      have hfree' : ∀ k ok, ops[k]? = some ok → k ≠ i → (listed.setIfInBounds j true).getD k true = false →
          (∀ e ∈ ok.after, Region.binds .any e = true → e.on ≠ i) → oi.apart ops ok = true := fun k ok hk hki hun hno => by
        refine hfree k ok hk hki ?_ hno
        by_cases hjk : j = k
        · subst hjk; exact hjun
        · rw [getD_set_ne true hjk] at hun; exact hun
      refine wpOp_mono (fun a' w' h3 => ?_) h2
      obtain ⟨hy', hRA, hrest⟩ := h3
      have hR : B = true → R w w' := fun hb => hRA.elim id fun hA => by
        have := hA i (hB hb) (by simp [hisz]) (fun e => hji e.symm)
        unfold edge at this
        simp only [hoj, Array.any_eq_true', Bool.and_eq_true, beq_iff_eq] at this
        obtain ⟨e, he, hb1, hb2⟩ := this
        exact absurd hb2 (hnot e he hb1)
      refine ⟨hRA.imp id fun hA k hk hl hne => hA k hk (getD_set_true hl) hne, ?_⟩
      refine ih (listed.setIfInBounds j true) a' w' hfree' (ready_mono hr (Ne.symm hji)) (YieldsIf.mono hy' fun w'' h' hb => htrans _ _ _ (hR hb) (h' hb)) ?_
      rw [Array.setIfInBounds_comm _ _ hji]
      exact hrest
def selp (l : List Oper) : List (Nat × Fl × Bool) → List (Oper × Fl × Bool)
  | [] => []
  | (i, f, b) :: r => (nth l i, f, b) :: selp l r
def planOk (ops : Array Oper) (ld : List Nat) : List (Nat × Fl × Bool) → Array Bool → Bool
  | [], listed => (Region.ready .any ops listed).isEmpty
  | (i, .x, anc) :: r, listed => (Region.ready .any ops listed == [i]) && (!anc || ld.all fun k => !listed.getD k false || k == i || edge ops i k) && planOk ops ld r (listed.setIfInBounds i true)
  | (i, .p, _) :: r, listed => (Region.ready .any ops listed).contains i && Region.free .any ops listed i && planOk ops ld r (listed.setIfInBounds i true)
  | (i, .l, _) :: r, listed => (Region.ready .any ops listed).contains i && Region.free .any ops listed i && ld.contains i && planOk ops ld r (listed.setIfInBounds i true)
theorem yieldsIf_LV {o : Oper} {v : Value} {S : World → Prop} (hok : ops.all (okOper n) = true) (hoo : okOper n o = true) (hg : guardB (ops.toList.map (·.dst)) E o.guard = true) (h : ∀ w, S w → LV P o E w v) :
    YieldsIf P ops S o v (act n E) := .inl ⟨by rw [wanted_eq o hok]; exact hg, fun w hw => by rw [exec_eq hoo]; exact h w hw⟩
theorem yieldsIf_skip {o : Oper} {S : World → Prop} (hok : ops.all (okOper n) = true) (hg : ¬ guardB (ops.toList.map (·.dst)) E o.guard = true) : YieldsIf P ops S o undef (act n E) :=
  .inr ⟨by rw [wanted_eq o hok]; simpa using hg, rfl⟩
theorem wpAnyR_of_Dw (hrefl : ∀ w, R w w) (htrans : ∀ a b c, R a b → R b c → R a c) (hok : ops.all (okOper n) = true) (hsel : Region.noSelect ops = true) {K : Env → World → Prop} :
    ∀ (π : List (Nat × Fl × Bool)) (listed : Array Bool) (E : Env) (w : World), planOk ops ld π listed = true →
      Dw P n (ops.toList.map (·.dst)) R (selp ops.toList π) K E w → wpAnyR P ops (lift n (nf K)) R ld π.length listed (act n E) w := by
  intro π
  induction π with
  | nil => intro listed E w hp h; exact ⟨by simpa [planOk] using hp, E, rfl, h⟩
  | cons x r ih =>
    intro listed E w hp h
    obtain ⟨i, f, anc⟩ := x
    have hQ : ∀ (d : Option Tmp) (v : Value) c a w, lift n (nf K) (.panic c) (a.put d v) w → lift n (nf K) (.panic c) a w := fun _ _ _ _ _ ⟨_, _, hf⟩ => hf.elim
    have key : ∀ (oi : Oper), ops[i]? = some oi → nth ops.toList i = oi ∧ okOper n oi = true := fun oi hi =>
      ⟨nth_eq _ _ _ (by simpa using hi), Array.all_eq_true_iff_forall_mem.1 hok oi (Array.mem_of_getElem? hi)⟩
    cases f with
    | x =>
      simp only [planOk, Bool.and_eq_true] at hp
      obtain ⟨⟨hr, ha⟩, hp'⟩ := hp
      have hr' : Region.ready .any ops listed = [i] := by simpa using hr
      refine ⟨fun h0 => (by rw [h0] at hr'; cases hr'), fun j hj => ?_⟩
      rw [hr', List.mem_singleton] at hj
      subst hj
      obtain ⟨_, oi, hi, _⟩ := mem_ready.1 (by rw [hr']; exact List.mem_singleton.2 rfl : j ∈ Region.ready .any ops listed)
      obtain ⟨hn, hoo⟩ := key oi hi
      simp only [selp, Dw, hn] at h
      unfold wpOp
      simp only [hi]
      rw [wanted_eq oi hok]
      split at h <;> rename_i hg
      · rw [if_pos hg]
        refine .inl (Oper.wp_monoQ (Oper.wp_mono ?_ (h hoo)))
        rintro a w' ⟨E', rfl, hR, hd⟩
        refine ⟨?_, ih _ E' w' hp' hd⟩
        cases anc with
        | false => exact .inl (hR rfl)
        | true =>
          refine .inr fun k hk hl hne => ?_
          simp only [Bool.not_true, Bool.false_or] at ha
          have h1 := List.all_eq_true.1 ha k hk
          simp only [hl, Bool.not_true, Bool.false_or, Bool.or_eq_true, beq_iff_eq] at h1
          exact h1.resolve_left hne
      · rw [if_neg hg, act_put]
        exact ⟨.inl (hrefl w), ih _ _ w hp' h⟩
    | p =>
      simp only [planOk, Bool.and_eq_true] at hp
      obtain ⟨⟨hr, hf⟩, hp'⟩ := hp
      have hr' : i ∈ Region.ready .any ops listed := by simpa using hr
      obtain ⟨_, oi, hi, _⟩ := mem_ready.1 hr'
      obtain ⟨hn, hoo⟩ := key oi hi
      simp only [selp, Dw, hn] at h
      split at h <;> rename_i hg
      · obtain ⟨v, hv, hd⟩ := h
        exact wpAnyR_first (B := false) (v := v) hrefl htrans (fun h => by cases h) hi (Region.noSelect_spec hsel) (hQ _ _) _ _ _ _ (Region.free_spec hi hf) hr'
          (yieldsIf_LV hok hoo hg fun w _ => hv w) (by rw [act_put]; exact ih _ _ w hp' hd)
      · exact wpAnyR_first (B := false) (v := undef) hrefl htrans (fun h => by cases h) hi (Region.noSelect_spec hsel) (hQ _ _) _ _ _ _ (Region.free_spec hi hf) hr'
          (yieldsIf_skip hok hg) (by rw [act_put]; exact ih _ _ w hp' h)
    | l =>
      simp only [planOk, Bool.and_eq_true] at hp
      obtain ⟨⟨⟨hr, hf⟩, hl⟩, hp'⟩ := hp
      have hr' : i ∈ Region.ready .any ops listed := by simpa using hr
      obtain ⟨_, oi, hi, _⟩ := mem_ready.1 hr'
      obtain ⟨hn, hoo⟩ := key oi hi
      simp only [selp, Dw, hn] at h
      split at h <;> rename_i hg
      · obtain ⟨v, hv, hd⟩ := h
        exact wpAnyR_first (B := true) (v := v) hrefl htrans (fun _ => by simpa using hl) hi (Region.noSelect_spec hsel) (hQ _ _) _ _ _ _ (Region.free_spec hi hf) hr'
          (yieldsIf_LV hok hoo hg fun w hw => hv w (hw rfl)) (by rw [act_put]; exact ih _ _ w hp' hd)
      · exact wpAnyR_first (B := true) (v := undef) hrefl htrans (fun _ => by simpa using hl) hi (Region.noSelect_spec hsel) (hQ _ _) _ _ _ _ (Region.free_spec hi hf) hr'
          (yieldsIf_skip hok hg) (by rw [act_put]; exact ih _ _ w hp' h)
theorem W_draw {id : Nat} {l : List Oper} {Q : Exit → Env → World → Prop} (hrefl : ∀ w, R w w) (htrans : ∀ a b c, R a b → R b c → R a c) (hm : P.follows .mixedOrders = true)
    (ld : List Nat) (π : List (Nat × Fl × Bool)) (hlen : Nat.beq π.length l.length = true)
    (hp : planOk l.toArray ld π (Array.replicate l.length false) = true) (hsel : Region.noSelect l.toArray = true)
    (h : ∀ w1, w1 = w.drew → Dw P n (l.map (·.dst)) R (selp l π) (fun E w => Q .normal E w) E w1) : W P n (.region id l.toArray true) Q E w := by
  intro ok
  simp only [okCode] at ok
  have h' := wpAnyR_of_Dw (P := P) (ld := ld) hrefl htrans ok hsel π (Array.replicate l.length false) E w.drew hp (by simpa using h _ rfl)
  have hlen' : π.length = l.length := Nat.eq_of_beq_eq_true hlen
  rw [hlen'] at h'
  refine Code.wp_mono (Q := lift n (nf fun E w => Q .normal E w)) ?_ (wp_region_any hm (by simpa using wpAny_of_R _ _ _ _ h'))
  rintro e a w' ⟨E', rfl, hq⟩
  cases e <;> first | exact ⟨E', rfl, hq⟩ | exact hq.elim
inductive Pl where
  | nil
  | stop
  /-- the next one, whatever else may come up -/
  | one (i : Nat) (f : Fl) (anc : Bool) (rest : Pl)
  /-- several effects may come up: a chain of 'alt' -/
  | fork (chain : Pl)
  /-- one of those that may come up, and what follows it; the others -/
  | alt (i : Nat) (anc : Bool) (sub : Pl) (others : Pl)
def Pl.heads : Pl → List Nat
  | .alt i _ _ o => i :: o.heads
  | _ => []
def Pl.ok : Pl → Bool
  | .alt .. => false
  | .stop => false
  | _ => true
theorem Pl.ok_spec {π : Pl} (h : π.ok = true) : π.heads = [] ∧ π ≠ .stop := by
  cases π <;> simp [Pl.ok, Pl.heads] at h ⊢
def DwT (P : Program) (n : Nat) (l : List Oper) (ds : List (Option Tmp)) (R : World → World → Prop) : Pl → (Env → World → Prop) → Env → World → Prop
  | .nil, K, E, w => K E w
  | .stop, _, _, _ => True
  | .one i .p _ rest, K, E, w => if guardB ds E (nth l i).guard = true then ∃ v, PV P (nth l i) E v ∧ DwT P n l ds R rest K (updO E (nth l i).dst v) w else DwT P n l ds R rest K (updO E (nth l i).dst undef) w
  | .one i .l _ rest, K, E, w => if guardB ds E (nth l i).guard = true then ∃ v, (∀ w', R w w' → LV P (nth l i) E w' v) ∧ DwT P n l ds R rest K (updO E (nth l i).dst v) w else DwT P n l ds R rest K (updO E (nth l i).dst undef) w
  | .one i .x anc rest, K, E, w => if guardB ds E (nth l i).guard = true then XW P n (nth l i) E w (fun E' w' => (anc = false → R w w') ∧ DwT P n l ds R rest K E' w') else DwT P n l ds R rest K (updO E (nth l i).dst undef) w
  | .fork c, K, E, w => DwT P n l ds R c K E w
  | .alt i anc sub others, K, E, w => (if guardB ds E (nth l i).guard = true then XW P n (nth l i) E w (fun E' w' => (anc = false → R w w') ∧ DwT P n l ds R sub K E' w') else DwT P n l ds R sub K (updO E (nth l i).dst undef) w) ∧
      DwT P n l ds R others K E w
def ancB (ops : Array Oper) (ld : List Nat) (listed : Array Bool) (i : Nat) : Bool := ld.all fun k => !listed.getD k false || k == i || edge ops i k
def planT (ops : Array Oper) (ld : List Nat) : Pl → Nat → Array Bool → Bool
  | .nil, _, listed => (Region.ready .any ops listed).isEmpty
  | .stop, _, _ => true
  | .one i .x anc r, fuel + 1, listed => (Region.ready .any ops listed == [i]) && (!anc || ancB ops ld listed i) && r.ok && planT ops ld r fuel (listed.setIfInBounds i true)
  | .one i .p _ r, fuel + 1, listed => (Region.ready .any ops listed).contains i && Region.free .any ops listed i && r.ok && planT ops ld r fuel (listed.setIfInBounds i true)
  | .one i .l _ r, fuel + 1, listed => (Region.ready .any ops listed).contains i && Region.free .any ops listed i && ld.contains i && r.ok && planT ops ld r fuel (listed.setIfInBounds i true)
  | .fork c, fuel, listed => (Region.ready .any ops listed).all (fun j => c.heads.contains j) && !(Region.ready .any ops listed).isEmpty && planT ops ld c fuel listed
  | .alt i anc sub others, fuel + 1, listed => (Region.ready .any ops listed).contains i && (!anc || ancB ops ld listed i) && sub.ok && planT ops ld sub fuel (listed.setIfInBounds i true) && planT ops ld others (fuel + 1) listed
  | _, _, _ => false
theorem ancB_spec {listed : Array Bool} {i : Nat} {anc : Bool} (h : (!anc || ancB ops ld listed i) = true) (ha : anc = true) : Anc ops ld listed i := by
  subst ha
  simp only [Bool.not_true, Bool.false_or] at h
  intro k hk hl hne
  have h1 := List.all_eq_true.1 h k hk
  simp only [hl, Bool.not_true, Bool.false_or, Bool.or_eq_true, beq_iff_eq] at h1
  exact h1.resolve_left hne
theorem wpAnyR_of_DwT (hrefl : ∀ w, R w w) (htrans : ∀ a b c, R a b → R b c → R a c) (hok : ops.all (okOper n) = true) (hsel : Region.noSelect ops = true) {K : Env → World → Prop} :
    ∀ (π : Pl) (fuel : Nat) (listed : Array Bool) (E : Env) (w : World), planT ops ld π fuel listed = true → DwT P n ops.toList (ops.toList.map (·.dst)) R π K E w →
      (π.heads = [] → π ≠ .stop → wpAnyR P ops (lift n (nf K)) R ld fuel listed (act n E) w) ∧
      (∀ i ∈ π.heads, ∃ k, fuel = k + 1 ∧ wpOp P ops (lift n (nf K)) i (fun a' w' => (R w w' ∨ Anc ops ld listed i) ∧ wpAnyR P ops (lift n (nf K)) R ld k (listed.setIfInBounds i true) a' w') (act n E) w) := by
  have hQ : ∀ (d : Option Tmp) (v : Value) c a w, lift n (nf K) (.panic c) (a.put d v) w → lift n (nf K) (.panic c) a w := fun _ _ _ _ _ ⟨_, _, hf⟩ => hf.elim
  have key : ∀ (i : Nat) (oi : Oper), ops[i]? = some oi → nth ops.toList i = oi ∧ okOper n oi = true := fun i oi hi =>
    ⟨nth_eq _ _ _ (by simpa using hi), Array.all_eq_true_iff_forall_mem.1 hok oi (Array.mem_of_getElem? hi)⟩
  -- one effect
  have eff : ∀ (i : Nat) (anc : Bool) (rest : Pl) (fuel : Nat) (listed : Array Bool) (E : Env) (w : World), i ∈ Region.ready .any ops listed → (!anc || ancB ops ld listed i) = true →
      (∀ E' w', DwT P n ops.toList (ops.toList.map (·.dst)) R rest K E' w' → wpAnyR P ops (lift n (nf K)) R ld fuel (listed.setIfInBounds i true) (act n E') w') →
      (if guardB (ops.toList.map (·.dst)) E (nth ops.toList i).guard = true then XW P n (nth ops.toList i) E w (fun E' w' => (anc = false → R w w') ∧ DwT P n ops.toList (ops.toList.map (·.dst)) R rest K E' w') else DwT P n ops.toList (ops.toList.map (·.dst)) R rest K (updO E (nth ops.toList i).dst undef) w) →
      wpOp P ops (lift n (nf K)) i (fun a' w' => (R w w' ∨ Anc ops ld listed i) ∧ wpAnyR P ops (lift n (nf K)) R ld fuel (listed.setIfInBounds i true) a' w') (act n E) w := by
    intro i anc rest fuel listed E w hi ha ih h
    obtain ⟨_, oi, hoi, _⟩ := mem_ready.1 hi
    obtain ⟨hn, hoo⟩ := key i oi hoi
    rw [hn] at h
    unfold wpOp
    simp only [hoi]
    rw [wanted_eq oi hok]
    split at h <;> rename_i hg
    · rw [if_pos hg]
      refine .inl (Oper.wp_monoQ (Oper.wp_mono ?_ (h hoo)))
      rintro a w' ⟨E', rfl, hR, hd⟩
      refine ⟨?_, ih E' w' hd⟩
      cases anc with
      | false => exact .inl (hR rfl)
      | true => exact .inr (ancB_spec ha rfl)
    · rw [if_neg hg, act_put]
      exact ⟨.inl (hrefl w), ih _ w h⟩
  intro π
  induction π with
  | nil => intro fuel listed E w hp h; refine ⟨fun _ _ => ?_, fun i hi => by cases hi⟩
           simp only [planT, List.isEmpty_iff] at hp
           cases fuel with
           | zero => exact ⟨hp, E, rfl, h⟩
           | succ k => exact ⟨fun _ => ⟨E, rfl, h⟩, by rw [hp]; intro i hi; cases hi⟩
  | stop => intro fuel listed E w _ _; exact ⟨fun _ h => absurd rfl h, fun i hi => by cases hi⟩
  | fork c ih =>
    intro fuel listed E w hp h
    simp only [planT, Bool.and_eq_true] at hp
    obtain ⟨⟨hall, hne⟩, hp'⟩ := hp
    simp only [DwT] at h
    have hc := (ih fuel listed E w hp' h).2
    refine ⟨fun _ _ => ?_, fun i hi => by cases hi⟩
    have hin : ∀ i ∈ Region.ready .any ops listed, i ∈ c.heads := fun i hi => by simpa using List.all_eq_true.1 hall i hi
    cases fuel with
    | zero =>
      cases hr : Region.ready .any ops listed with
      | nil => rw [hr] at hne; simp at hne
      | cons i r =>
        obtain ⟨k, hk, _⟩ := hc i (hin i (by rw [hr]; exact List.mem_cons_self))
        omega
    | succ k =>
      refine ⟨fun h0 => by rw [h0] at hne; simp at hne, fun i hi => ?_⟩
      obtain ⟨k', hk, hw⟩ := hc i (hin i hi)
      have : k' = k := by omega
      subst this
      exact hw
  | alt i anc sub others ihs iho =>
    intro fuel listed E w hp h
    refine ⟨fun h0 => by simp [Pl.heads] at h0, fun j hj => ?_⟩
    cases fuel with
    | zero => simp [planT] at hp
    | succ k =>
      simp only [planT, Bool.and_eq_true] at hp
      obtain ⟨⟨⟨⟨hr, ha⟩, hso⟩, hps⟩, hpo⟩ := hp
      simp only [DwT] at h
      rcases List.mem_cons.1 hj with rfl | hj'
      · refine ⟨k, rfl, eff j anc sub k listed E w (by simpa using hr) ha (fun E' w' hd => ?_) h.1⟩
        exact (ihs k _ E' w' hps hd).1 (Pl.ok_spec hso).1 (Pl.ok_spec hso).2
      · exact (iho (k + 1) listed E w hpo h.2).2 j hj'
  | one i f anc rest ih =>
    intro fuel listed E w hp h
    refine ⟨fun _ _ => ?_, fun j hj => by cases hj⟩
    cases fuel with
    | zero => cases f <;> simp [planT] at hp
    | succ k =>
      cases f with
      | x =>
        simp only [planT, Bool.and_eq_true] at hp
        obtain ⟨⟨⟨hr, ha⟩, ho⟩, hp'⟩ := hp
        have hr' : Region.ready .any ops listed = [i] := by simpa using hr
        simp only [DwT] at h
        refine ⟨fun h0 => (by rw [h0] at hr'; cases hr'), fun j hj => ?_⟩
        rw [hr', List.mem_singleton] at hj
        subst hj
        exact eff j anc rest k listed E w (by rw [hr']; exact List.mem_singleton.2 rfl) ha (fun E' w' hd => (ih k _ E' w' hp' hd).1 (Pl.ok_spec ho).1 (Pl.ok_spec ho).2) h
      | p =>
        simp only [planT, Bool.and_eq_true] at hp
        obtain ⟨⟨⟨hr, hf⟩, ho⟩, hp'⟩ := hp
        have hr' : i ∈ Region.ready .any ops listed := by simpa using hr
        obtain ⟨_, oi, hi, _⟩ := mem_ready.1 hr'
        obtain ⟨hn, hoo⟩ := key i oi hi
        simp only [DwT, hn] at h
        split at h <;> rename_i hg
        · obtain ⟨v, hv, hd⟩ := h
          exact wpAnyR_first (B := false) (v := v) hrefl htrans (fun h => by cases h) hi (Region.noSelect_spec hsel) (hQ _ _) _ _ _ _ (Region.free_spec hi hf) hr'
            (yieldsIf_LV hok hoo hg fun w _ => hv w) (by rw [act_put]; exact (ih k _ _ w hp' hd).1 (Pl.ok_spec ho).1 (Pl.ok_spec ho).2)
        · exact wpAnyR_first (B := false) (v := undef) hrefl htrans (fun h => by cases h) hi (Region.noSelect_spec hsel) (hQ _ _) _ _ _ _ (Region.free_spec hi hf) hr'
            (yieldsIf_skip hok hg) (by rw [act_put]; exact (ih k _ _ w hp' h).1 (Pl.ok_spec ho).1 (Pl.ok_spec ho).2)
      | l =>
        simp only [planT, Bool.and_eq_true] at hp
        obtain ⟨⟨⟨⟨hr, hf⟩, hl⟩, ho⟩, hp'⟩ := hp
        have hr' : i ∈ Region.ready .any ops listed := by simpa using hr
        obtain ⟨_, oi, hi, _⟩ := mem_ready.1 hr'
        obtain ⟨hn, hoo⟩ := key i oi hi
        simp only [DwT, hn] at h
        split at h <;> rename_i hg
        · obtain ⟨v, hv, hd⟩ := h
          exact wpAnyR_first (B := true) (v := v) hrefl htrans (fun _ => by simpa using hl) hi (Region.noSelect_spec hsel) (hQ _ _) _ _ _ _ (Region.free_spec hi hf) hr'
            (yieldsIf_LV hok hoo hg fun w hw => hv w (hw rfl)) (by rw [act_put]; exact (ih k _ _ w hp' hd).1 (Pl.ok_spec ho).1 (Pl.ok_spec ho).2)
        · exact wpAnyR_first (B := true) (v := undef) hrefl htrans (fun _ => by simpa using hl) hi (Region.noSelect_spec hsel) (hQ _ _) _ _ _ _ (Region.free_spec hi hf) hr'
            (yieldsIf_skip hok hg) (by rw [act_put]; exact (ih k _ _ w hp' h).1 (Pl.ok_spec ho).1 (Pl.ok_spec ho).2)
theorem W_drawT {id : Nat} {l : List Oper} {Q : Exit → Env → World → Prop} (hrefl : ∀ w, R w w) (htrans : ∀ a b c, R a b → R b c → R a c) (hm : P.follows .mixedOrders = true)
    (ld : List Nat) (π : Pl) (hp : (π.ok && planT l.toArray ld π l.length (Array.replicate l.length false)) = true) (hsel : Region.noSelect l.toArray = true)
    (h : ∀ w1, w1 = w.drew → DwT P n l (l.map (·.dst)) R π (fun E w => Q .normal E w) E w1) : W P n (.region id l.toArray true) Q E w := by
  intro ok
  simp only [okCode] at ok
  simp only [Bool.and_eq_true] at hp
  have h' := (wpAnyR_of_DwT (P := P) (ld := ld) hrefl htrans ok hsel π l.length (Array.replicate l.length false) E w.drew hp.2 (by simpa using h _ rfl)).1 (Pl.ok_spec hp.1).1 (Pl.ok_spec hp.1).2
  refine Code.wp_mono (Q := lift n (nf fun E w => Q .normal E w)) ?_ (wp_region_any hm (by simpa using wpAny_of_R _ _ _ _ h'))
  rintro e a w' ⟨E', rfl, hq⟩
  cases e <;> first | exact ⟨E', rfl, hq⟩ | exact hq.elim
theorem T_one {l : List Oper} {ds : List (Option Tmp)} {i : Nat} {f : Fl} {anc : Bool} {rest : Pl} {K : Env → World → Prop}
    (h : Dw P n ds R [(nth l i, f, anc)] (fun E' w' => DwT P n l ds R rest K E' w') E w) : DwT P n l ds R (.one i f anc rest) K E w := by
  cases f <;> exact h
theorem T_fork {l : List Oper} {ds : List (Option Tmp)} {c : Pl} {K : Env → World → Prop} (h : DwT P n l ds R c K E w) : DwT P n l ds R (.fork c) K E w := h
theorem T_alt {l : List Oper} {ds : List (Option Tmp)} {i : Nat} {anc : Bool} {sub others : Pl} {K : Env → World → Prop}
    (h : Dw P n ds R [(nth l i, .x, anc)] (fun E' w' => DwT P n l ds R sub K E' w') E w) (ho : DwT P n l ds R others K E w) : DwT P n l ds R (.alt i anc sub others) K E w := ⟨h, ho⟩
theorem T_stop {l : List Oper} {ds : List (Option Tmp)} {K : Env → World → Prop} : DwT P n l ds R .stop K E w := trivial
theorem T_nil {l : List Oper} {ds : List (Option Tmp)} {K : Env → World → Prop} (h : K E w) : DwT P n l ds R .nil K E w := h
end
abbrev Str := List UInt8
@[reducible] def S (l : Str) : Value := .string ⟨⟨l⟩⟩
@[reducible] def I (n : Int) : Value := .int .i64 n
@[reducible] def B (b : Bool) : Value := .bool b
@[reducible] def ptr (b o : Nat) : Value := .pointer (some ⟨b, o, none⟩)
theorem size_S (l : Str) : (⟨⟨l⟩⟩ : ByteArray).size = l.length := rfl
def isOne (P : Program) (T : TypeId) : Bool := match P.underlying T with
  | some (.struct _) | some (.array _ _) | none => false
  | some _ => true
def aggN (P : Program) (T : TypeId) : Option Nat := match P.underlying T with
  | some (.struct _) | some (.array _ _) => (P.info? T).map (·.size)
  | _ => none
def fOff (P : Program) (T f : Nat) : Option Nat := match P.underlying T with
  | some (.struct fs) => match fs[f]? with
    | some x => (P.info? x.type).bind fun i => if i.size = 0 then none else some x.offset
    | none => none
  | _ => none
def slElem (P : Program) (T : TypeId) : Option (TypeId × Nat) := match P.underlying T with
  | some (.slice e) => (P.info? e).map fun i => (e, i.size)
  | _ => none
def arrElem (P : Program) (T : TypeId) : Option (Nat × TypeId × Nat) := match P.underlying T with
  | some (.array n e) => (P.info? e).map fun i => (n, e, i.size)
  | _ => none
def isStr (P : Program) (T : TypeId) : Bool := match P.underlying T with | some .string => true | _ => false
def isBool (P : Program) (T : TypeId) : Bool := match P.underlying T with | some .bool => true | _ => false
def isPtr (P : Program) (T : TypeId) : Bool := match P.underlying T with | some (.pointer _) => true | _ => false
def intK (P : Program) (T : TypeId) : Option IntKind := match P.underlying T with | some (.int k) => some k | _ => none
section
variable {P : Program} {E : Env} {d : Option Tmp} {ty : TypeId} {pos : String} {af : Array Edge} {g : Option (Nat × Bool)} {w : World}
theorem pv_move {x : Operand} {v : Value} (h : ev E x = v) : PV P ⟨d, .move x, ty, pos, af, g⟩ E v := fun w => by simp [execOp, h]
theorem pv_assign {x : Operand} {v : Value} (h : ev E x = v) : PV P ⟨d, .assign x, ty, pos, af, g⟩ E v := fun w => by simp [execOp, h]
theorem pv_pick {c a b : Operand} {t : Bool} {x y : Value} (hc : ev E c = .bool t) (ha : ev E a = x) (hb : ev E b = y) : PV P ⟨d, .pick c a b, ty, pos, af, g⟩ E (if t then x else y) := fun w => by
  simp [execOp, hc, asBool, ha, hb]
theorem pv_int {x y : Operand} {op : BinOp} {T U : TypeId} {k : IntKind} {a b c : Int} (hop : op = .add ∧ c = a + b ∨ op = .sub ∧ c = a - b ∨ op = .mul ∧ c = a * b) (hx : ev E x = .int k a) (hy : ev E y = .int k b) :
    PV P ⟨d, .binOp op T x y U, ty, pos, af, g⟩ E (.int k (k.wrap c)) := fun w => by
  rcases hop with ⟨rfl, rfl⟩ | ⟨rfl, rfl⟩ | ⟨rfl, rfl⟩ <;> simp [execOp, hx, hy, eqGuard, binOp, Op.intArith]
def inI64 (n : Int) : Prop := -9223372036854775808 ≤ n ∧ n ≤ 9223372036854775807
theorem wrap_i64 {n : Int} (h : inI64 n) : IntKind.i64.wrap n = n := IntWalk.i64_in n h
theorem pv_add {x y : Operand} {T U : TypeId} {a b : Int} (hx : ev E x = I a) (hy : ev E y = I b) (h : inI64 (a + b)) : PV P ⟨d, .binOp .add T x y U, ty, pos, af, g⟩ E (I (a + b)) := by
  have := pv_int (P := P) (d := d) (ty := ty) (pos := pos) (af := af) (g := g) (T := T) (U := U) (.inl ⟨rfl, rfl⟩) hx hy
  rwa [wrap_i64 h] at this
theorem pv_sub {x y : Operand} {T U : TypeId} {a b : Int} (hx : ev E x = I a) (hy : ev E y = I b) (h : inI64 (a - b)) : PV P ⟨d, .binOp .sub T x y U, ty, pos, af, g⟩ E (I (a - b)) := by
  have := pv_int (P := P) (d := d) (ty := ty) (pos := pos) (af := af) (g := g) (T := T) (U := U) (.inr (.inl ⟨rfl, rfl⟩)) hx hy
  rwa [wrap_i64 h] at this
theorem pv_mul {x y : Operand} {T U : TypeId} {a b : Int} (hx : ev E x = I a) (hy : ev E y = I b) (h : inI64 (a * b)) : PV P ⟨d, .binOp .mul T x y U, ty, pos, af, g⟩ E (I (a * b)) := by
  have := pv_int (P := P) (d := d) (ty := ty) (pos := pos) (af := af) (g := g) (T := T) (U := U) (.inr (.inr ⟨rfl, rfl⟩)) hx hy
  rwa [wrap_i64 h] at this
theorem pv_addw {x y : Operand} {T U : TypeId} {k : IntKind} {a b : Int} (hx : ev E x = .int k a) (hy : ev E y = .int k b) : PV P ⟨d, .binOp .add T x y U, ty, pos, af, g⟩ E (.int k (k.wrap (a + b))) := pv_int (.inl ⟨rfl, rfl⟩) hx hy
theorem pv_mulw {x y : Operand} {T U : TypeId} {k : IntKind} {a b : Int} (hx : ev E x = .int k a) (hy : ev E y = .int k b) : PV P ⟨d, .binOp .mul T x y U, ty, pos, af, g⟩ E (.int k (k.wrap (a * b))) := pv_int (.inr (.inr ⟨rfl, rfl⟩)) hx hy
theorem pv_lss {x y : Operand} {T U : TypeId} {k : IntKind} {a b : Int} (hx : ev E x = .int k a) (hy : ev E y = .int k b) : PV P ⟨d, .binOp .lss T x y U, ty, pos, af, g⟩ E (.bool (decide (a < b))) := fun w => by
  simp [execOp, hx, hy, eqGuard, binOp, Op.intCmp]
theorem pv_leq {x y : Operand} {T U : TypeId} {k : IntKind} {a b : Int} (hx : ev E x = .int k a) (hy : ev E y = .int k b) : PV P ⟨d, .binOp .leq T x y U, ty, pos, af, g⟩ E (.bool (decide (a ≤ b))) := fun w => by
  simp [execOp, hx, hy, eqGuard, binOp, Op.intCmp]
theorem pv_gtr {x y : Operand} {T U : TypeId} {k : IntKind} {a b : Int} (hx : ev E x = .int k a) (hy : ev E y = .int k b) : PV P ⟨d, .binOp .gtr T x y U, ty, pos, af, g⟩ E (.bool (decide (b < a))) := fun w => by
  simp [execOp, hx, hy, eqGuard, binOp, Op.intCmp]
theorem pv_geq {x y : Operand} {T U : TypeId} {k : IntKind} {a b : Int} (hx : ev E x = .int k a) (hy : ev E y = .int k b) : PV P ⟨d, .binOp .geq T x y U, ty, pos, af, g⟩ E (.bool (decide (b ≤ a))) := fun w => by
  simp [execOp, hx, hy, eqGuard, binOp, Op.intCmp]
theorem pv_eql {x y : Operand} {T U : TypeId} {k : IntKind} {a b : Int} (hx : ev E x = .int k a) (hy : ev E y = .int k b) : PV P ⟨d, .binOp .eql T x y U, ty, pos, af, g⟩ E (.bool (decide (a = b))) := fun w => by
  simp [execOp, hx, hy, eqGuard, binOp, Op.intCmp]
  exact (Bool.beq_eq_decide_eq a b)
theorem pv_neq {x y : Operand} {T U : TypeId} {k : IntKind} {a b : Int} (hx : ev E x = .int k a) (hy : ev E y = .int k b) : PV P ⟨d, .binOp .neq T x y U, ty, pos, af, g⟩ E (.bool (decide (a ≠ b))) := fun w => by
  simp [execOp, hx, hy, eqGuard, binOp, Op.intCmp]
  by_cases h : a = b <;> simp [h]
theorem pv_conv {x : Operand} {T U : TypeId} {k k' : IntKind} {a : Int} (hx : ev E x = .int k' a) (hT : (P.underlying T).isSome = true) (hU : intK P U = some k) : PV P ⟨d, .convert T U x, ty, pos, af, g⟩ E (.int k (k.wrap a)) := fun w => by
  obtain ⟨dT, hdT⟩ := Option.isSome_iff_exists.1 hT
  have hU' : P.underlying U = some (.int k) := by
    unfold intK at hU
    split at hU
    · rename_i h; cases hU; exact h
    · cases hU
  simp [execOp, hx, convert, underlying, hdT, hU', Conv.intToInt]
theorem pv_seq {x y : Operand} {T U : TypeId} {a b : Str} (hx : ev E x = S a) (hy : ev E y = S b) : PV P ⟨d, .binOp .eql T x y U, ty, pos, af, g⟩ E (.bool (decide (a = b))) := fun w => by
  simp [execOp, hx, hy, eqGuard, binOp, Op.stringOp]
  by_cases h : a = b <;> simp [h]
theorem pv_sne {x y : Operand} {T U : TypeId} {a b : Str} (hx : ev E x = S a) (hy : ev E y = S b) : PV P ⟨d, .binOp .neq T x y U, ty, pos, af, g⟩ E (.bool (decide (a ≠ b))) := fun w => by
  simp [execOp, hx, hy, eqGuard, binOp, Op.stringOp]
  by_cases h : a = b <;> simp [h]
theorem pv_slt {x y : Operand} {T U : TypeId} {a b : Str} (hx : ev E x = S a) (hy : ev E y = S b) : PV P ⟨d, .binOp .lss T x y U, ty, pos, af, g⟩ E (.bool (Op.bytesLess a b)) := fun w => by
  simp [execOp, hx, hy, eqGuard, binOp, Op.stringOp]
theorem pv_sge {x y : Operand} {T U : TypeId} {a b : Str} (hx : ev E x = S a) (hy : ev E y = S b) : PV P ⟨d, .binOp .geq T x y U, ty, pos, af, g⟩ E (.bool (!Op.bytesLess a b)) := fun w => by
  simp [execOp, hx, hy, eqGuard, binOp, Op.stringOp]
theorem pv_scat {x y : Operand} {T U : TypeId} {a b : Str} (hx : ev E x = S a) (hy : ev E y = S b) (h : a.length + b.length ≤ 9223372036854775807) : PV P ⟨d, .binOp .add T x y U, ty, pos, af, g⟩ E (S (a ++ b)) := fun w => by
  have h' : ¬ ((((⟨⟨a⟩⟩ : ByteArray).size + (⟨⟨b⟩⟩ : ByteArray).size : Nat) : Int) > IntKind.i64.max) := by
    have e : IntKind.i64.max = 9223372036854775807 := rfl
    rw [e, size_S, size_S]
    omega
  have e : (⟨⟨a⟩⟩ : ByteArray) ++ ⟨⟨b⟩⟩ = ⟨⟨a ++ b⟩⟩ := by
    show ByteArray.append _ _ = _
    simp [ByteArray.append]
  have e2 : (Op.stringOp .add ⟨⟨a⟩⟩ ⟨⟨b⟩⟩ : Sem Value) = pure (S (a ++ b)) := by
    unfold Op.stringOp
    simp only []
    rw [if_neg h', e]
  simp only [execOp, hx, hy, eqGuard, binOp, e2]
  rfl
theorem pv_lenS {x : Operand} {T : TypeId} {a : Str} (hT : isStr P T = true) (hx : ev E x = S a) : PV P ⟨d, .call { callee := .builtin .len, args := #[x], argTypes := #[T] }, ty, pos, af, g⟩ E (I a.length) := fun w => by
  have hT' : P.underlying T = some .string := by
    unfold isStr at hT; split at hT <;> first | assumption | cases hT
  simp [execOp, resolve, invoke, builtin, Builtin.len_, underlying, hT', hx, goInt, size_S]
theorem pv_idxS {x y : Operand} {T : TypeId} {a : Str} {i : Nat} {c : UInt8} (hT : isStr P T = true) (hx : ev E x = S a) (hy : ev E y = I i) (hi : a[i]? = some c) : PV P ⟨d, .index T x y, ty, pos, af, g⟩ E (.int .u8 c.toNat) := fun w => by
  have hT' : P.underlying T = some .string := by
    unfold isStr at hT; split at hT <;> first | assumption | cases hT
  have e : (⟨⟨a⟩⟩ : ByteArray)[(i : Int).toNat]? = some c := by
    rw [Int.toNat_natCast]
    have hlt : i < a.length := (List.getElem?_eq_some_iff.1 hi).1
    rw [getElem?_pos _ i hlt]
    exact hi ▸ (by rw [List.getElem?_eq_getElem hlt]; rfl)
  have e2 : (⟨⟨a⟩⟩ : ByteArray)[i]? = some c := by simpa using e
  simp [execOp, Instr.index, asIntOf, hx, hy, underlying, hT', e2]
theorem isOne_agg {T : TypeId} (h : isOne P T = true) : (isAgg T).run P w = .ok false w := by
  unfold isOne at h
  unfold isAgg underlying
  cases hu : P.underlying T with
  | none => rw [hu] at h; simp at h
  | some u => rw [hu] at h; cases u <;> simp [hu] at h ⊢
theorem aggN_agg {T k : Nat} (h : aggN P T = some k) : (isAgg T).run P w = .ok true w ∧ (sizeOf T).run P w = .ok k w := by
  unfold aggN at h
  have key : ∀ u, P.underlying T = some u → (P.info? T).map (·.size) = some k → (u matches .struct _ | .array _ _) = true → (isAgg T).run P w = .ok true w ∧ (sizeOf T).run P w = .ok k w := by
    intro u hu hk hm
    obtain ⟨i, hi, hs⟩ := Option.map_eq_some_iff.1 hk
    constructor
    · unfold isAgg underlying
      cases u <;> simp [hu] at hm ⊢
    · simp [sizeOf, typeInfo, hi, hs]
  cases hu : P.underlying T with
  | none => rw [hu] at h; simp at h
  | some u => rw [hu] at h; cases u <;> simp at h <;> exact key _ hu (by simpa using h) rfl
theorem pv_fieldA {x : Operand} {T f o b k : Nat} (hT : fOff P T f = some k) (hx : ev E x = .pointer (some ⟨b, o, none⟩)) : PV P ⟨d, .fieldAddr T x f, ty, pos, af, g⟩ E (.pointer (some ⟨b, o + k, none⟩)) := fun w => by
  unfold fOff at hT
  cases hu : P.underlying T with
  | none => rw [hu] at hT; simp at hT
  | some u =>
    rw [hu] at hT
    cases u <;> simp at hT
    rename_i fs
    cases hf : fs[f]? with
    | none => rw [hf] at hT; simp at hT
    | some fl =>
      rw [hf] at hT
      simp only [Option.bind_eq_some_iff] at hT
      obtain ⟨i, hi, hs⟩ := hT
      have hne : i.size ≠ 0 := fun e => by rw [if_pos e] at hs; cases hs
      rw [if_neg hne] at hs
      cases hs
      have ha : (⟨b, o, none⟩ : Addr).add fl.offset = ⟨b, o + fl.offset, none⟩ := by
        unfold Addr.add
        split
        · rename_i e; simp [e]
        · rfl
      simp [execOp, Instr.fieldAt, underlying, hu, hf, hx, Instr.sureAddr, fieldPlace, sizeOf, typeInfo, hi, hne, ha]
def base (v : Value) : Nat × Nat := match v with
  | .slice (some a) _ _ => (a.block, a.off)
  | _ => (0, 0)
def isSl (v : Value) (n : Nat) : Prop := (v = .slice none 0 0 ∧ n = 0) ∨ (∃ b o c, v = .slice (some ⟨b, o, none⟩) n c ∧ n ≤ c) ∨ (n = 0 ∧ ∃ a c, v = .slice (some a) 0 c)
theorem slElem_under {T e k : Nat} (h : slElem P T = some (e, k)) : P.underlying T = some (.slice e) ∧ ∃ i, P.info? e = some i ∧ i.size = k := by
  unfold slElem at h
  cases hu : P.underlying T with
  | none => rw [hu] at h; simp at h
  | some u =>
    rw [hu] at h
    cases u <;> simp at h
    rename_i e'
    obtain ⟨i, hi, rfl, rfl⟩ := h
    exact ⟨rfl, i, hi, rfl⟩
theorem arrElem_under {T m e k : Nat} (h : arrElem P T = some (m, e, k)) : P.underlying T = some (.array m e) ∧ ∃ i, P.info? e = some i ∧ i.size = k := by
  unfold arrElem at h
  cases hu : P.underlying T with
  | none => rw [hu] at h; simp at h
  | some u =>
    rw [hu] at h
    cases u <;> simp at h
    rename_i e'
    obtain ⟨i, hi, rfl, rfl, rfl⟩ := h
    exact ⟨rfl, i, hi, rfl⟩
theorem pv_lenV {x : Operand} {T e k n : Nat} {v : Value} (hT : slElem P T = some (e, k)) (hv : isSl v n) (hx : ev E x = v) : PV P ⟨d, .call { callee := .builtin .len, args := #[x], argTypes := #[T] }, ty, pos, af, g⟩ E (I n) := fun w => by
  obtain ⟨hu, _⟩ := slElem_under hT
  rcases hv with ⟨rfl, rfl⟩ | ⟨b, o, c, rfl, _⟩ | ⟨rfl, a, c, rfl⟩ <;> simp [execOp, resolve, invoke, builtin, Builtin.len_, underlying, hu, hx, goInt]
theorem pv_idxA {x y : Operand} {T e k n i : Nat} {v : Value} (hT : slElem P T = some (e, k)) (hv : isSl v n) (hx : ev E x = v) (hy : ev E y = I i) (hi : i < n) :
    PV P ⟨d, .indexAddr T x y, ty, pos, af, g⟩ E (ptr (base v).1 ((base v).2 + i * k)) := fun w => by
  obtain ⟨hu, f, hf, hk⟩ := slElem_under hT
  rcases hv with ⟨rfl, rfl⟩ | ⟨b, o, c, rfl, _⟩ | ⟨rfl, a, c, rfl⟩
  · omega
  rotate_left
  · omega
  · have ha : (⟨b, o, none⟩ : Addr).add (i * k) = ⟨b, o + i * k, none⟩ := by
      unfold Addr.add
      split
      · rename_i e; simp [e]
      · rfl
    have hi' : (0 : Int) ≤ (i : Int) ∧ (i : Int) < (n : Int) := by omega
    simp [execOp, Instr.indexAt, asIntOf, underlying, hu, hx, hy, sizeOf, typeInfo, hf, hk, base, hi', ha]
    omega
theorem pv_idxR {x y : Operand} {T e k m i b o : Nat} (hT : arrElem P T = some (m, e, k)) (hx : ev E x = ptr b o) (hy : ev E y = I i) (hi : i < m) :
    PV P ⟨d, .indexAddr T x y, ty, pos, af, g⟩ E (ptr b (o + i * k)) := fun w => by
  obtain ⟨hu, f, hf, hk⟩ := arrElem_under hT
  have ha : (⟨b, o, none⟩ : Addr).add (i * k) = ⟨b, o + i * k, none⟩ := by
    unfold Addr.add
    split
    · rename_i e; simp [e]
    · rfl
  have hi' : (0 : Int) ≤ (i : Int) ∧ (i : Int) < (m : Int) := by omega
  simp [execOp, Instr.indexAt, asIntOf, underlying, hu, hx, hy, sizeOf, typeInfo, hf, hk, hi', ha, Instr.sureAddr]
  omega
theorem pv_nilP {x : Operand} {a : Addr} (hx : ev E x = .pointer (some a)) : PV P ⟨d, .nilCheck x, ty, pos, af, g⟩ E (.pointer (some a)) := fun w => by
  simp [execOp, hx]
theorem pv_not {x : Operand} {T : TypeId} {b : Bool} (hx : ev E x = .bool b) : PV P ⟨d, .unOp .not T x, ty, pos, af, g⟩ E (.bool (!b)) := fun w => by
  simp [execOp, hx, Op.unary]
theorem pv_ext {x : Operand} {i : Nat} {vs : List Value} {v : Value} (hx : ev E x = .tuple ⟨vs⟩) (hv : vs[i]? = some v) : PV P ⟨d, .extract x i, ty, pos, af, g⟩ E v := fun w => by
  simp [execOp, hx, Instr.extract, hv]
theorem run_bin (op : BinOp) (T U : TypeId) (x y : Operand) (w : World) (v : Value) (hg : ∀ w, (eqGuard op T x y (ev E x) (ev E y)).run P w = .ok () w) (h : (binOp op T (ev E x) (ev E y)).run P w = .ok v w) :
    (execOp (ev E) ⟨d, .binOp op T x y U, ty, pos, af, g⟩).run P w = .ok (.value v) w := by
  simp [execOp, hg, h]
theorem isPtr_under {T : TypeId} (h : isPtr P T = true) : P.underlying T = some (.pointer (P.pointee T)) := by
  unfold isPtr at h
  split at h
  · rename_i e he; simp [Program.pointee, he]
  · cases h
theorem pv_eqP {x y : Operand} {T U : TypeId} {a : Option Addr} (hT : isPtr P T = true) (hx : ev E x = .pointer a) (hy : ev E y = .pointer none) : PV P ⟨d, .binOp .eql T x y U, ty, pos, af, g⟩ E (.bool (decide (a = none))) := fun w => by
  refine run_bin _ _ _ _ _ _ _ (fun w => by simp [hx, hy, eqGuard]) ?_
  rw [hx, hy, run_eql_pointer_nil _ _ _ (isPtr_under hT)]
  cases a <;> rfl
theorem pv_neP {x y : Operand} {T U : TypeId} {a : Option Addr} (hT : isPtr P T = true) (hx : ev E x = .pointer a) (hy : ev E y = .pointer none) : PV P ⟨d, .binOp .neq T x y U, ty, pos, af, g⟩ E (.bool (decide (a ≠ none))) := fun w => by
  refine run_bin _ _ _ _ _ _ _ (fun w => by simp [hx, hy, eqGuard]) ?_
  rw [hx, hy, run_neq_pointer_nil _ _ _ (isPtr_under hT)]
  cases a <;> rfl
theorem run_eqSN (w : World) (t e : TypeId) (a : Option Addr) (l c : Nat) (h : P.underlying t = some (.slice e)) : (binOp .eql t (.slice a l c) (.slice none 0 0)).run P w = .ok (.bool a.isNone) w := by
  have e1 : (Op.equalIn (9999 + 1) t (.slice a l c) (.slice none 0 0)).run P w = .ok a.isNone w := by
    rw [Op.equalIn]
    cases a <;> simp [underlying, h]
  simp only [binOp, Op.equal, Op.maxDepth, Sem.run_bind, e1]
  rfl
theorem pv_eqN {x y : Operand} {T U e k : Nat} {a : Option Addr} {n c : Nat} (hT : slElem P T = some (e, k)) (hx : ev E x = .slice a n c) (hy : ev E y = .slice none 0 0) : PV P ⟨d, .binOp .eql T x y U, ty, pos, af, g⟩ E (.bool (decide (a = none))) := fun w => by
  obtain ⟨he, _⟩ := slElem_under hT
  refine run_bin _ _ _ _ _ _ _ (fun w => by simp [hx, hy, eqGuard]) ?_
  rw [hx, hy, run_eqSN _ _ _ _ _ _ he]
  cases a <;> rfl
theorem run_bound {k : IntKind} {i : Int} {y : Nat} {c : BoundsCode} (h : 0 ≤ i ∧ i ≤ y) (w : World) : (Instr.sliceBound (.int k i) y c).run P w = .ok i.toNat w := by
  simp [Instr.sliceBound, asIntOf, h]
theorem extract_S (s : Str) (a b : Nat) : (⟨⟨s⟩⟩ : ByteArray).extract a b = ⟨⟨(s.take b).drop a⟩⟩ := by
  have h1 : ((⟨⟨s⟩⟩ : ByteArray).extract a b).data = (#[].extract 0 0 ++ (⟨s⟩ : Array UInt8).extract a (a + (b - a))) ++ #[].extract (0 + min (b - a) ((⟨s⟩ : Array UInt8).size - a)) 0 := rfl
  apply ByteArray.ext
  rw [h1]
  apply Array.ext'
  simp [List.drop_take]
def bnd (E : Env) (d : Nat) (x : Option Operand) (a : Nat) : Prop := match x with
  | some l => ev E l = I a
  | none => a = d
theorem pv_slS {x : Operand} {lo hi : Option Operand} {T a b : Nat} {s : Str} (hT : isStr P T = true) (hx : ev E x = S s)
    (hlo : bnd E 0 lo a) (hhi : bnd E s.length hi b) (h1 : a ≤ b) (h2 : b ≤ s.length) :
    PV P ⟨d, .slice T x lo hi none, ty, pos, af, g⟩ E (S ((s.take b).drop a)) := fun w => by
  have hT' : P.underlying T = some .string := by
    unfold isStr at hT; split at hT <;> first | assumption | cases hT
  have hb1 : (0 : Int) ≤ (b : Int) ∧ (b : Int) ≤ (s.length : Int) := by omega
  have hb2 : (0 : Int) ≤ (a : Int) ∧ (a : Int) ≤ (b : Int) := by omega
  have key : (Instr.sliceBounds false s.length s.length (lo.map (ev E)) (hi.map (ev E)) none).run P w = .ok (a, b, s.length) w := by
    unfold bnd at hlo hhi
    cases lo <;> cases hi <;> simp only [] at hlo hhi <;> subst_vars <;> simp only [Option.map, Instr.sliceBounds, Sem.run_bind, Sem.run_pure, Result.andThen_ok, *] <;>
      simp only [run_bound hb1, run_bound hb2, Result.andThen_ok, Int.toNat_natCast] <;> rfl
  have e1 : (Instr.sliceAt T (.string ⟨⟨s⟩⟩) (lo.map (ev E)) (hi.map (ev E)) none).run P w = .ok (S ((s.take b).drop a)) w := by
    simp [Instr.sliceAt, Instr.slice, underlying, hT', size_S, key, extract_S]
  simp only [execOp, hx, Option.map_none, Sem.run_bind, e1]
  rfl
end
structure Mod (S : Nat → Prop) (w w' : World) : Prop where
  os : w'.os = w.os
  tape : w'.tape = w.tape
  output : w'.output = w.output
  size : w.heap.size ≤ w'.heap.size
  block : ∀ k, k < w.heap.size → ¬ S k → w'.heap[k]? = w.heap[k]?
def noB : Nat → Prop := fun _ => False
abbrev Ext (w w' : World) : Prop := Mod noB w w'
def oneB (b : Nat) : Nat → Prop := fun k => k = b
theorem Mod.refl (S : Nat → Prop) (w : World) : Mod S w w := ⟨rfl, rfl, rfl, Nat.le_refl _, fun _ _ _ => rfl⟩
theorem Ext.refl (w : World) : Ext w w := Mod.refl _ w
theorem Mod.trans {S T U : Nat → Prop} {a b c : World} (h : Mod S a b) (k : Mod T b c) (hS : ∀ i, S i → U i) (hT : ∀ i, T i → i < a.heap.size → U i) : Mod U a c :=
  ⟨k.os.trans h.os, k.tape.trans h.tape, k.output.trans h.output, Nat.le_trans h.size k.size, fun i hi hU =>
    (k.block i (Nat.lt_of_lt_of_le hi h.size) (fun hT' => hU (hT i hT' hi))).trans (h.block i hi (fun hS' => hU (hS i hS')))⟩
theorem Mod.ext {S : Nat → Prop} {a b c : World} (h : Mod S a b) (k : Ext b c) : Mod S a c := h.trans k (fun _ h => h) (fun _ h _ => h.elim)
theorem Ext.trans {a b c : World} (h : Ext a b) (k : Ext b c) : Ext a c := Mod.ext h k
theorem Ext.mod {S : Nat → Prop} {a b c : World} (h : Ext a b) (k : Mod S b c) : Mod S a c := Mod.trans h k (fun _ h => h.elim) (fun _ h _ => h)
theorem Mod.mono {S U : Nat → Prop} {a b : World} (h : Mod S a b) (hS : ∀ i, S i → i < a.heap.size → U i) : Mod U a b :=
  ⟨h.os, h.tape, h.output, h.size, fun i hi hU => h.block i hi (fun s => hU (hS i s hi))⟩
theorem Ext.own {S : Nat → Prop} {a b c : World} (h : Ext a b) (k : Mod S b c) (hS : ∀ i, S i → a.heap.size ≤ i) : Ext a c :=
  Mod.trans h k (fun _ h => h) (fun i h hi => by have := hS i h; omega)
theorem Mod.own {S T : Nat → Prop} {a b c : World} (h : Mod T a b) (k : Mod S b c) (hS : ∀ i, S i → i < a.heap.size → T i) : Mod T a c :=
  Mod.trans h k (fun _ h => h) hS
theorem Ext.drew (w : World) : Ext w w.drew := ⟨rfl, rfl, rfl, Nat.le_refl _, fun _ _ _ => rfl⟩
theorem Ext.alloc (w : World) (o : Obj) : Ext w (w.alloc o) := ⟨rfl, rfl, rfl, by simp, fun k hk _ => Below.heap_alloc _ _ _ hk⟩
theorem Ext.below {w w' : World} (h : Ext w w') : Below w.heap.size w w' := ⟨h.os, h.tape, h.output, h.size, fun k hk => h.block k hk (fun h => h)⟩
theorem Ext.of_below {w w' : World} (h : Below w.heap.size w w') : Ext w w' := ⟨h.os, h.tape, h.output, h.size, fun k hk _ => h.block k hk⟩
theorem Ext.of_grown {w w' : World} (h : w.grownBy w' none) : Ext w w' := ⟨h.os, h.tape, h.output, h.size, fun k hk _ => h.block k hk (by simp)⟩
theorem Mod.of_grown {w w' : World} {r : Option Nat} (h : w.grownBy w' r) : Mod (fun k => r = some k) w w' := ⟨h.os, h.tape, h.output, h.size, fun k hk hn => h.block k hk (fun e => hn e.symm)⟩
theorem Mod.cell {S : Nat → Prop} {w w' : World} (h : Mod S w w') {b o : Nat} {v : Value} (hc : w.cell? ⟨b, o, none⟩ = some v) (hS : ¬ S b) : w'.cell? ⟨b, o, none⟩ = some v := by
  have hb := World.block_lt_of_cell? (w := w) (a := ⟨b, o, none⟩) hc
  rw [World.cell?_of_block (w := w) (h.block b hb hS)]; exact hc
def Blk (w : World) (b : Nat) (cs : List Value) (T : TypeId) : Prop := w.heap[b]? = some (.cells ⟨cs⟩ T (0, 0))
theorem Blk.lt {w : World} {b : Nat} {cs : List Value} {T : TypeId} (h : Blk w b cs T) : b < w.heap.size := (Array.getElem?_eq_some_iff.1 h).1
theorem Blk.mod {S : Nat → Prop} {w w' : World} {b : Nat} {cs : List Value} {T : TypeId} (h : Blk w b cs T) (m : Mod S w w') (hS : ¬ S b) : Blk w' b cs T := by
  have hl := h.lt
  unfold Blk at *; rw [m.block b hl hS]; exact h
theorem Blk.ext {w w' : World} {b : Nat} {cs : List Value} {T : TypeId} (h : Blk w b cs T) (m : Ext w w') : Blk w' b cs T := h.mod m (fun h => h)
theorem Blk.at {w : World} {b k : Nat} {cs : List Value} {T : TypeId} {v : Value} (h : Blk w b cs T) (hk : cs[k]? = some v) : w.cell? ⟨b, k, none⟩ = some v := by
  unfold Blk at h; simp [World.cell?, h]; simpa using hk
theorem Blk.free {w : World} {b k : Nat} {cs : List Value} {T : TypeId} (h : Blk w b cs T) : w.frozen? ⟨b, k, none⟩ = false := by
  unfold Blk at h; simp [World.frozen?, h]
def Row (w : World) (b o : Nat) (cs : List Value) : Prop := ∀ i v, cs[i]? = some v → w.cell? ⟨b, o + i, none⟩ = some v
theorem Row.mod {S : Nat → Prop} {w w' : World} {b o : Nat} {cs : List Value} (h : Row w b o cs) (m : Mod S w w') (hS : ¬ S b) : Row w' b o cs := fun i v hi => m.cell (h i v hi) hS
theorem Row.at {w : World} {b o k : Nat} {cs : List Value} {v : Value} (h : Row w b o cs) (hk : cs[k]? = some v) : w.cell? ⟨b, o + k, none⟩ = some v := h k v hk
theorem Blk.row {w : World} {b : Nat} {cs : List Value} {T : TypeId} (h : Blk w b cs T) : Row w b 0 cs := fun i v hi => by rw [Nat.zero_add]; exact h.at hi
theorem Blk.part {w : World} {b : Nat} {cs : List Value} {T : TypeId} (o n : Nat) (h : Blk w b cs T) : Row w b o ((cs.drop o).take n) := fun i v hi => h.at (by
  rw [List.getElem?_take] at hi
  split at hi
  · rw [List.getElem?_drop] at hi; exact hi
  · cases hi)
structure Slc (sz : Nat) (w : World) (v : Value) (xs : List (List Value)) : Prop where
  sl : isSl v xs.length
  at' : ∀ i cs, xs[i]? = some cs → cs.length = sz ∧ Row w (base v).1 ((base v).2 + i * sz) cs
theorem Slc.mod {S : Nat → Prop} {sz : Nat} {w w' : World} {v : Value} {xs : List (List Value)} (h : Slc sz w v xs) (m : Mod S w w') (hS : xs ≠ [] → ¬ S (base v).1) : Slc sz w' v xs :=
  ⟨h.sl, fun i cs hi => ⟨(h.at' i cs hi).1, (h.at' i cs hi).2.mod m (hS (fun e => by rw [e] at hi; simp at hi))⟩⟩
theorem Slc.ext {sz : Nat} {w w' : World} {v : Value} {xs : List (List Value)} (h : Slc sz w v xs) (m : Ext w w') : Slc sz w' v xs := h.mod m (fun _ h => h)
theorem Slc.row {sz : Nat} {w : World} {v : Value} {xs : List (List Value)} {i : Nat} {cs : List Value} (h : Slc sz w v xs) (hi : xs[i]? = some cs) : Row w (base v).1 ((base v).2 + i * sz) cs := (h.at' i cs hi).2
theorem Slc.nil (sz : Nat) (w : World) : Slc sz w (.slice none 0 0) [] := ⟨.inl ⟨rfl, rfl⟩, fun i cs hi => by simp at hi⟩
def Arr {α : Type} (enc : α → List Value) (sz : Nat) (w : World) (v : Value) (l : List α) : Prop := Slc sz w v (l.map enc)
section
variable {α : Type} {enc : α → List Value} {sz : Nat} {w w' : World} {v : Value} {l : List α}
theorem Arr.sl (h : Arr enc sz w v l) : isSl v l.length := by have := Slc.sl h; rwa [List.length_map] at this
theorem Arr.row {i : Nat} {x : α} (h : Arr enc sz w v l) (hi : l[i]? = some x) : Row w (base v).1 ((base v).2 + i * sz) (enc x) := Slc.row h (by rw [List.getElem?_map, hi]; rfl)
theorem Arr.ext (h : Arr enc sz w v l) (m : Ext w w') : Arr enc sz w' v l := Slc.ext h m
theorem Arr.mod {S : Nat → Prop} (h : Arr enc sz w v l) (m : Mod S w w') (hS : l ≠ [] → ¬ S (base v).1) : Arr enc sz w' v l := Slc.mod h m (fun e => hS (fun e2 => e (by rw [e2]; rfl)))
theorem Arr.lt {i : Nat} {x : α} (h : Arr enc sz w v l) (hi : l[i]? = some x) : i < l.length := (List.getElem?_eq_some_iff.1 hi).1
theorem Arr.nil : Arr enc sz w (.slice none 0 0) [] := Slc.nil sz w
theorem Arr.blk {x : α} (h : Arr enc sz w v l) (hsz : 0 < sz) (hi : l[0]? = some x) : (base v).1 < w.heap.size := by
  obtain ⟨h1, h2⟩ := Slc.at' h 0 (enc x) (by rw [List.getElem?_map, hi]; rfl)
  cases he : enc x with
  | nil => rw [he] at h1; simp at h1; omega
  | cons c r => exact World.block_lt_of_cell? (w := w) (a := ⟨_, _, none⟩) (h2 0 c (by rw [he]; rfl))
end
section
variable {P : Program} {n : Nat} {ds : List (Option Tmp)} {R : World → World → Prop} {r : List (Oper × Fl × Bool)} {K : Env → World → Prop} {E : Env} {w : World}
variable {d : Nat} {op : Op} {ty : TypeId} {pos : String} {af : Array Edge} {g : Option (Nat × Bool)} {anc : Bool} {v : Value}
theorem D_end (h : K E w) : Dw P n ds R [] K E w := h
theorem D_p (hg : guardB ds E g = true) (hv : PV P ⟨some d, op, ty, pos, af, g⟩ E v) (h : Dw P n ds R r K (upd E d v) w) : Dw P n ds R ((⟨some d, op, ty, pos, af, g⟩, .p, anc) :: r) K E w := by
  unfold Dw; rw [if_pos hg]; exact ⟨v, hv, h⟩
theorem D_pe {v' : Value} (hg : guardB ds E g = true) (hv : PV P ⟨some d, op, ty, pos, af, g⟩ E v') (hn : v' = v) (h : Dw P n ds R r K (upd E d v) w) : Dw P n ds R ((⟨some d, op, ty, pos, af, g⟩, .p, anc) :: r) K E w :=
  D_p hg (hn ▸ hv) h
theorem D_mv {x : Operand} (hg : guardB ds E g = true) (hx : ev E x = v) (h : Dw P n ds R r K (upd E d v) w) : Dw P n ds R ((⟨some d, .move x, ty, pos, af, g⟩, .p, anc) :: r) K E w := D_p hg (pv_move hx) h
theorem D_as {x : Operand} (hg : guardB ds E g = true) (hx : ev E x = v) (h : Dw P n ds R r K (upd E d v) w) : Dw P n ds R ((⟨some d, .assign x, ty, pos, af, g⟩, .p, anc) :: r) K E w := D_p hg (pv_assign hx) h
theorem D_l (hg : guardB ds E g = true) (hv : ∀ w', R w w' → LV P ⟨some d, op, ty, pos, af, g⟩ E w' v) (h : Dw P n ds R r K (upd E d v) w) : Dw P n ds R ((⟨some d, op, ty, pos, af, g⟩, .l, anc) :: r) K E w := by
  unfold Dw; rw [if_pos hg]; exact ⟨v, hv, h⟩
theorem D_skip {f : Fl} (hg : guardB ds E g = false) (h : Dw P n ds R r K (upd E d undef) w) : Dw P n ds R ((⟨some d, op, ty, pos, af, g⟩, f, anc) :: r) K E w := by
  cases f <;> (unfold Dw; rw [if_neg (by rw [hg]; decide)]; exact h)
theorem D_x {o : Oper} (hg : guardB ds E o.guard = true) (h : XW P n o E w (fun E' w' => (anc = false → R w w') ∧ Dw P n ds R r K E' w')) : Dw P n ds R ((o, .x, anc) :: r) K E w := by
  unfold Dw; rw [if_pos hg]; exact h
theorem D_split {l : List (Oper × Fl × Bool)} (s : Nat) {b : Bool} (hb : E s = .bool b) (ht : b = true → Dw P n ds R l K (upd E s (.bool true)) w) (hf : b = false → Dw P n ds R l K (upd E s (.bool false)) w) : Dw P n ds R l K E w := by
  cases b with
  | true => have := ht rfl; rwa [upd_self E s _ hb] at this
  | false => have := hf rfl; rwa [upd_self E s _ hb] at this
theorem D_splitP {l : List (Oper × Fl × Bool)} (s : Nat) {p : Prop} [Decidable p] (hb : E s = .bool (decide p)) (ht : p → Dw P n ds R l K (upd E s (.bool true)) w) (hf : ¬ p → Dw P n ds R l K (upd E s (.bool false)) w) : Dw P n ds R l K E w :=
  D_split s hb (fun h => ht (of_decide_eq_true h)) (fun h => hf (of_decide_eq_false h))
def RX (R : World → World → Prop) (anc : Bool) : Prop := anc = true ∨ ∀ w w', Ext w w' → R w w'
theorem RX.ext {anc : Bool} : RX Ext anc := .inr fun _ _ h => h
theorem RX.all : RX R true := .inl rfl
theorem RX.use {anc : Bool} (h : RX R anc) {w w' : World} (he : Ext w w') : anc = false → R w w' := fun e => h.elim (fun h => by rw [h] at e; cases e) (fun h => h _ _ he)
theorem D_xv {o : Oper} {w' : World} {v : Value} (hg : guardB ds E o.guard = true) (hr : (execOp (ev E) o).run P w = .ok (.value v) w') (hR : anc = false → R w w') (h : Dw P n ds R r K (updO E o.dst v) w') : Dw P n ds R ((o, .x, anc) :: r) K E w := by
  refine D_x hg fun ok => ?_
  unfold Oper.wp
  rw [exec_eq ok, hr]
  exact ⟨_, act_put _ _ _ _, hR, h⟩
theorem D_xs {o : Oper} {w' : World} (hg : guardB ds E o.guard = true) (hr : (execOp (ev E) o).run P w = .ok .skip w') (hR : anc = false → R w w') (h : Dw P n ds R r K (updO E o.dst undef) w') : Dw P n ds R ((o, .x, anc) :: r) K E w := by
  refine D_x hg fun ok => ?_
  unfold Oper.wp
  rw [exec_eq ok, hr]
  exact ⟨_, act_put _ _ _ _, hR, h⟩
theorem lv_load {x : Operand} {T b o : Nat} {v : Value} {dd : Option Tmp} (hT : isOne P T = true) (hx : ev E x = ptr b o) (hc : w.cell? ⟨b, o, none⟩ = some v) : LV P ⟨dd, .load T x, ty, pos, af, g⟩ E w v := by
  unfold LV
  simp [execOp, hx, Instr.loadAt, Instr.sureAddr, loadVar, isOne_agg hT, hc]
theorem run_loadCells {b o : Nat} : ∀ (cs : List Value) (i : Nat) (acc : Array Value), (∀ j v, cs[j]? = some v → w.cell? ⟨b, o + i + j, none⟩ = some v) →
    (loadCellsFrom ⟨b, o, none⟩ i cs.length acc).run P w = .ok (acc ++ cs.toArray) w := by
  intro cs
  induction cs with
  | nil => intro i acc _; simp [loadCellsFrom]
  | cons v r ih =>
    intro i acc h
    have h0 : w.cell? ⟨b, o + i, none⟩ = some v := by simpa using h 0 v rfl
    have ha : (⟨b, o, none⟩ : Addr).add i = ⟨b, o + i, none⟩ := by
      unfold Addr.add
      split
      · rename_i e; simp [e]
      · rfl
    have hr := ih (i + 1) (acc.push v) (fun j u hj => by have := h (j + 1) u (by simpa using hj); simpa [Nat.add_assoc, Nat.add_comm 1 j] using this)
    simp [loadCellsFrom, ha, h0, hr]
theorem lv_loadA {x : Operand} {T b o k : Nat} {cs : List Value} {dd : Option Tmp} (hT : aggN P T = some k) (hx : ev E x = ptr b o) (hl : cs.length = k) (hc : Row w b o cs) : LV P ⟨dd, .load T x, ty, pos, af, g⟩ E w (.agg ⟨cs⟩) := by
  unfold LV
  have h1 := run_loadCells (P := P) (w := w) (b := b) (o := o) cs 0 #[] (fun j v hj => by rw [Nat.add_zero]; exact hc j v hj)
  rw [hl] at h1
  simp [execOp, hx, Instr.loadAt, Instr.sureAddr, loadVar, (aggN_agg hT).1, (aggN_agg hT).2, loadCells, h1]
theorem D_box {x : Operand} {T : Nat} {cs : List Value} (hg : guardB ds E g = true) (hx : ev E x = v) (hv : v.cells = ⟨cs⟩) (hR : RX R anc)
    (h : ∀ b w1, b = w.heap.size → Ext w w1 → Blk w1 b cs T → Dw P n ds R r K (upd E d (ptr b 0)) w1) : Dw P n ds R ((⟨some d, .box T x, ty, pos, af, g⟩, .x, anc) :: r) K E w := by
  refine D_xv (v := ptr w.heap.size 0) (w' := w.alloc (.cells ⟨cs⟩ T)) hg ?_ (hR.use (Ext.alloc _ _)) (h _ _ rfl (Ext.alloc _ _) ?_)
  · simp [execOp, hx, Instr.box, newVar, newRow, hv, newObj, Sem.run]
  · show (w.heap.push _)[w.heap.size]? = _; simp
def zeroC (P : Program) (T : TypeId) : Option (List Value) := (P.info? T).bind fun i => i.zero.map fun z => z.cells.toList
theorem zeroC_run {T : TypeId} {cs : List Value} (h : zeroC P T = some cs) : ∃ z, (zeroValue T).run P w = .ok z w ∧ z.cells = ⟨cs⟩ := by
  unfold zeroC at h
  cases hi : P.info? T with
  | none => rw [hi] at h; simp at h
  | some i =>
    rw [hi] at h
    simp only [Option.bind_some, Option.map_eq_some_iff] at h
    obtain ⟨z, hz, hc⟩ := h
    exact ⟨z, by simp [zeroValue, typeInfo, hi, hz], by rw [← hc]⟩
theorem D_alloc {T : Nat} {cs : List Value} (hg : guardB ds E g = true) (hz : zeroC P T = some cs) (hR : RX R anc)
    (h : ∀ b w1, b = w.heap.size → Ext w w1 → Blk w1 b cs T → Dw P n ds R r K (upd E d (ptr b 0)) w1) : Dw P n ds R ((⟨some d, .alloc T, ty, pos, af, g⟩, .x, anc) :: r) K E w := by
  obtain ⟨z, hz1, hz2⟩ := zeroC_run (P := P) (w := w) hz
  refine D_xv (v := ptr w.heap.size 0) (w' := w.alloc (.cells ⟨cs⟩ T)) hg ?_ (hR.use (Ext.alloc _ _)) (h _ _ rfl (Ext.alloc _ _) ?_)
  · simp [execOp, Instr.alloc, hz1, newVar, newRow, hz2, newObj, Sem.run]
  · show (w.heap.push _)[w.heap.size]? = _; simp
def setAt : List Value → Nat → List Value → List Value
  | cs, _, [] => cs
  | cs, o, v :: vs => setAt (cs.set o v) (o + 1) vs
theorem Blk.set {b o : Nat} {cs : List Value} {T : TypeId} (h : Blk w b cs T) (v : Value) : Blk (w.setCell ⟨b, o, none⟩ v) b (cs.set o v) T := by
  unfold Blk at *
  simp only [World.setCell, Array.getElem?_modify, if_true, h, Option.map_some, Option.isSome_none]
  simp
theorem Mod.setCell (b o : Nat) (v : Value) : Mod (oneB b) w (w.setCell ⟨b, o, none⟩ v) :=
  ⟨rfl, rfl, rfl, by simp, fun k hk hn => Below.heap_setCell _ _ _ _ hn⟩
theorem run_storeCells {b o : Nat} {T : TypeId} : ∀ (vs : List Value) (i : Nat) (cs : List Value) (w : World), Blk w b cs T → o + i + vs.length ≤ cs.length → (∀ v ∈ vs, v.oneCell' = true) →
    ∃ w', (storeCells ⟨b, o, none⟩ vs i).run P w = .ok () w' ∧ Blk w' b (setAt cs (o + i) vs) T ∧ Mod (oneB b) w w' ∧ w'.heap.size = w.heap.size := by
  intro vs
  induction vs with
  | nil => intro i cs w h _ _; exact ⟨w, by simp [storeCells], h, Mod.refl _ _, rfl⟩
  | cons v r ih =>
    intro i cs w h hl h1
    have hlt : o + i < cs.length := by simp at hl; omega
    have ha : (⟨b, o, none⟩ : Addr).add i = ⟨b, o + i, none⟩ := by
      unfold Addr.add
      split
      · rename_i e; simp [e]
      · rfl
    have hc : w.cell? ⟨b, o + i, none⟩ = some cs[o + i] := h.at (by simp [hlt])
    have hf : w.frozen? ⟨b, o + i, none⟩ = false := h.free
    obtain ⟨w', e1, e2, e3, e4⟩ := ih (i + 1) (cs.set (o + i) v) (w.setCell ⟨b, o + i, none⟩ v) (h.set v) (by simp at hl ⊢; omega) (fun u hu => h1 u (List.mem_cons_of_mem _ hu))
    refine ⟨w', ?_, by simpa [setAt, Nat.add_assoc] using e2, Mod.trans (Mod.setCell b (o + i) v) e3 (fun _ h => h) (fun _ h _ => h), by simpa using e4⟩
    have h1v := h1 v List.mem_cons_self
    rw [storeCells, Sem.run_bind, ha]
    have hs : (store ⟨b, o + i, none⟩ v).run P w = .ok () (w.setCell ⟨b, o + i, none⟩ v) := by
      cases v <;> simp [Value.oneCell'] at h1v <;> simp [store, Sem.run, hc, hf]
    rw [hs]
    exact e1
def sizeT (P : Program) (T : TypeId) : Option Nat := (P.info? T).map (·.size)
theorem D_store {a x : Operand} {T T' b o : Nat} {cs vs : List Value} (hg : guardB ds E g = true) (ha : ev E a = ptr b o) (hx : ev E x = v) (hv : v.cells = ⟨vs⟩) (hs : sizeT P T = some vs.length) (hb : Blk w b cs T')
    (ho : o + vs.length ≤ cs.length) (h1 : ∀ v ∈ vs, v.oneCell' = true) (hR : anc = true ∨ ∀ w', Mod (oneB b) w w' → R w w')
    (h : ∀ w1, Mod (oneB b) w w1 → w1.heap.size = w.heap.size → Blk w1 b (setAt cs o vs) T' → Dw P n ds R r K E w1) : Dw P n ds R ((⟨none, .store T a x, ty, pos, af, g⟩, .x, anc) :: r) K E w := by
  obtain ⟨w', e1, e2, e3, e4⟩ := run_storeCells (P := P) (b := b) (o := o) (T := T') vs 0 cs w hb (by simpa using ho) h1
  rw [Nat.add_zero] at e2
  refine D_xs (w' := w') hg ?_ (fun e => hR.elim (fun h => by rw [h] at e; cases e) (fun h => h _ e3)) (h _ e3 e4 e2)
  unfold sizeT at hs
  obtain ⟨i, hi, hsz⟩ := Option.map_eq_some_iff.1 hs
  have e1' : (storeCells ⟨b, o, none⟩ vs).run P w = .ok () w' := e1
  simp [execOp, ha, hx, Instr.storeAt, Instr.sureAddr, storeVar, sizeOf, typeInfo, hi, hsz, hv, e1']
def placesT (P : Program) (T : TypeId) : Option (List (Nat × Nat)) := match P.underlying T with
  | some (.struct fs) => fs.toList.mapM fun f => (P.info? f.type).map fun i => (f.offset, i.size)
  | _ => none
def fillL (pl : Nat → Option (Nat × Nat)) (cs : List Value) : List (Nat × Value) → Option (List Value)
  | [] => some cs
  | (i, v) :: r => match pl i with
    | none => none
    | some (off, size) => if v.cells.size = size ∧ off + v.cells.size ≤ cs.length then fillL pl (setAt cs off v.cells.toList) r else none
theorem foldl_setAt (off : Nat) : ∀ (vs : List Value) (k : Nat) (cs : List Value), ((vs.zipIdx k).foldl (fun (cs : Array Value) x => cs.setIfInBounds (off + x.2) x.1) ⟨cs⟩) = ⟨setAt cs (off + k) vs⟩ := by
  intro vs
  induction vs with
  | nil => intro k cs; rfl
  | cons v r ih =>
    intro k cs
    simp only [List.zipIdx_cons, List.foldl_cons, setAt]
    have e : (⟨cs⟩ : Array Value).setIfInBounds (off + k) v = ⟨cs.set (off + k) v⟩ := by simp
    rw [e, ih (k + 1)]
    rfl
theorem setAt_length : ∀ (vs : List Value) (o : Nat) (cs : List Value), (setAt cs o vs).length = cs.length := by
  intro vs
  induction vs with
  | nil => intro o cs; rfl
  | cons v r ih => intro o cs; simp [setAt, ih]
theorem fill_eq (pl : Nat → Option (Nat × Nat)) : ∀ (ps : List (Nat × Value)) (zs cs : List Value), fillL pl zs ps = some cs → Instr.fill pl ⟨zs⟩ ps = some ⟨cs⟩ := by
  intro ps
  induction ps with
  | nil => intro zs cs h; simp [fillL] at h; simp [Instr.fill, h]
  | cons p r ih =>
    intro zs cs h
    obtain ⟨i, v⟩ := p
    simp only [fillL] at h
    cases hp : pl i with
    | none => rw [hp] at h; cases h
    | some os =>
      obtain ⟨off, size⟩ := os
      rw [hp] at h
      simp only [] at h
      split at h
      · rename_i hc
        have hne : ¬ ((decide (v.cells.size ≠ size) || decide (off + v.cells.size > (⟨zs⟩ : Array Value).size)) = true) := by
          have : (⟨zs⟩ : Array Value).size = zs.length := rfl
          rw [this]; simp; omega
        have e : (v.cells.zipIdx.foldl (fun (cs : Array Value) (x : Value × Nat) => cs.setIfInBounds (off + x.2) x.1) ⟨zs⟩) = ⟨setAt zs off v.cells.toList⟩ := by
          rw [← Array.foldl_toList]
          have := foldl_setAt off v.cells.toList 0 zs
          simpa using this
        simp only [Instr.fill, hp]
        rw [if_neg hne]
        have ih' := ih _ _ h
        rw [← e] at ih'
        exact ih'
      · cases h
def EvL (E : Env) : List (Nat × Operand) → List (Nat × Value) → Prop
  | [], [] => True
  | (i, x) :: r, (j, v) :: s => i = j ∧ ev E x = v ∧ EvL E r s
  | _, _ => False
theorem EvL.map {E : Env} : ∀ {ps : List (Nat × Operand)} {pv : List (Nat × Value)}, EvL E ps pv → ps.map (fun p => (p.1, ev E p.2)) = pv
  | [], [], _ => rfl
  | [], _ :: _, h => h.elim
  | _ :: _, [], h => h.elim
  | (i, x) :: r, (j, v) :: s, h => by
    obtain ⟨h1, h2, h3⟩ := h
    simp [h1, h2, EvL.map h3]
theorem pv_build {T : Nat} {ps : List (Nat × Operand)} {zs cs : List Value} {pl : List (Nat × Nat)} {pv : List (Nat × Value)} {dd : Option Tmp} (hz : zeroC P T = some zs) (hp : placesT P T = some pl) (hv : EvL E ps pv) (hf : fillL (fun i => pl[i]?) zs pv = some cs) :
    PV P ⟨dd, .build T ps.toArray, ty, pos, af, g⟩ E (.agg ⟨cs⟩) := fun w => by
  obtain ⟨z, hz1, hz2⟩ := zeroC_run (P := P) (w := w) hz
  have hm := EvL.map hv
  unfold placesT at hp
  cases hu : P.underlying T with
  | none => rw [hu] at hp; cases hp
  | some u =>
    rw [hu] at hp
    cases u <;> simp only [] at hp <;> try cases hp
    rename_i fs
    have hfs : ∀ (l : List Field) (pl : List (Nat × Nat)), (l.mapM fun f => (P.info? f.type).map fun i => (f.offset, i.size)) = some pl → (l.mapM (fun f => (Functor.map (Prod.mk f.offset) (sizeOf f.type) : Sem (Nat × Nat)))).run P w = .ok pl w := by
      intro l
      induction l with
      | nil => intro pl h; simp at h; subst h; simp
      | cons f r ih =>
        intro pl h
        simp only [List.mapM_cons, Option.bind_eq_bind, Option.bind_eq_some_iff, Option.pure_def, Option.some.injEq] at h
        obtain ⟨x, hx, pl', hpl, rfl⟩ := h
        obtain ⟨i, hi, rfl⟩ := Option.map_eq_some_iff.1 hx
        have ih' := ih pl' hpl
        rw [List.mapM_cons, Sem.run_bind]
        have e1 : (Functor.map (Prod.mk f.offset) (sizeOf f.type) : Sem (Nat × Nat)).run P w = .ok (f.offset, i.size) w := by simp [sizeOf, typeInfo, hi]
        rw [e1, Result.andThen_ok, Sem.run_bind, ih']
        rfl
    have h1 : (fs.mapM (fun f => (Functor.map (Prod.mk f.offset) (sizeOf f.type) : Sem (Nat × Nat)))).run P w = .ok pl.toArray w := by
      rw [Array.mapM_eq_mapM_toList]
      simp [hfs _ _ hp]
    have h2 := fill_eq (fun i => pl[i]?) pv zs cs hf
    have e : (Array.map (fun (p : Nat × Operand) => (p.1, ev E p.2)) ps.toArray).toList = pv := by simpa using hm
    simp [execOp, Instr.build, hz1, hz2, underlying, hu, h1, hm, h2]
def callB (P : Program) (f : FuncId) : Bool := match P.funcs[f]? with
  | some fn => !(fn.name == "runtime.NumGoroutine") && fn.body.isSome
  | none => false
theorem D_call {f : Nat} {az : List Operand} {ats : Array TypeId} {vs : List Value} {R1 : Ending → World → Prop} (hg : guardB ds E g = true) (hf : callB P f = true) (ha : az.map (ev E) = vs) (hc : Calls P f vs.toArray w R1)
    (h : ∀ e w1, R1 e w1 → ∃ v, e = .returned v ∧ (anc = false → R w w1) ∧ Dw P n ds R r K (upd E d v) w1) :
    Dw P n ds R ((⟨some d, .call { callee := .value (.func f), args := az.toArray, argTypes := ats }, ty, pos, af, g⟩, .x, anc) :: r) K E w := by
  refine D_x hg fun ok => ?_
  unfold callB at hf
  cases hp : P.funcs[f]? with
  | none => rw [hp] at hf; simp at hf
  | some fn =>
    rw [hp] at hf
    simp only [Bool.and_eq_true, Bool.not_eq_true'] at hf
    obtain ⟨h1, h2⟩ := hf
    have h3 : fn.body ≠ none := by cases hb : fn.body <;> simp [hb] at h2 ⊢
    have h1' : fn.name ≠ "runtime.NumGoroutine" := by simpa using h1
    have hr : (execOp (ev E) ⟨some d, .call { callee := .value (.func f), args := az.toArray, argTypes := ats }, ty, pos, af, g⟩).run P w = .ok (.enter f vs.toArray) w := by
      simp [execOp, resolve, ev, Deferred.ofValue, invoke, callFunc, program, Sem.run, hp, h1', h3, ha]
    unfold Oper.wp
    rw [exec_eq ok, hr]
    simp only [Oper.upon]
    refine Calls.mono hc fun e w1 h1 => ?_
    obtain ⟨v, rfl, hR, hd⟩ := h e w1 h1
    exact ⟨_, act_put _ _ _ _, hR, hd⟩
def Pure (w : World) (v : Value) : Ending → World → Prop := fun e w' => e = .returned v ∧ Ext w w'
theorem D_callP {f : Nat} {az : List Operand} {ats : Array TypeId} {vs : List Value} (hg : guardB ds E g = true) (hf : callB P f = true) (hc : Calls P f vs.toArray w (Pure w v)) (ha : az.map (ev E) = vs) (hR : RX R anc)
    (h : ∀ w1, Ext w w1 → Dw P n ds R r K (upd E d v) w1) :
    Dw P n ds R ((⟨some d, .call { callee := .value (.func f), args := az.toArray, argTypes := ats }, ty, pos, af, g⟩, .x, anc) :: r) K E w :=
  D_call hg hf ha hc fun e w1 ⟨he, hx⟩ => ⟨v, he, hR.use hx, h w1 hx⟩
theorem D_lq (hg : guardB ds E g = true) (hv : LV P ⟨some d, op, ty, pos, af, g⟩ E w v) (h : Dw P n ds (fun a b => a = b) r K (upd E d v) w) : Dw P n ds (fun a b => a = b) ((⟨some d, op, ty, pos, af, g⟩, .l, anc) :: r) K E w :=
  D_l hg (fun w' e => e ▸ hv) h
theorem ret_one {fn : Func} {t : Nat} {R : Ending → World → Prop} (hr : fn.results = #[.tmp t]) (ht : Nat.blt t n = true) (hv : E t = v) (h : R (.returned v) w) : retPost P fn n R .ret E w := by
  have ht' : t < n := by simpa [Nat.blt_eq] using ht
  refine ⟨v, ?_, h⟩
  simp [results, hr, act, ht', hv]
theorem ret_two {fn : Func} {t s : Nat} {u : Value} {R : Ending → World → Prop} (hr : fn.results = #[.tmp t, .tmp s]) (ht : Nat.blt t n = true) (hs : Nat.blt s n = true) (hv : E t = v) (hu : E s = u) (h : R (.returned (.tuple #[v, u])) w) : retPost P fn n R .ret E w := by
  have ht' : t < n := by simpa [Nat.blt_eq] using ht
  have hs' : s < n := by simpa [Nat.blt_eq] using hs
  refine ⟨.tuple #[v, u], ?_, h⟩
  simp [results, hr, act, ht', hv, hs', hu]
theorem ret_none {fn : Func} {R : Ending → World → Prop} (hr : fn.results = #[]) (h : R (.returned (.tuple #[])) w) : retPost P fn n R .ret E w := by
  refine ⟨.tuple #[], ?_, h⟩
  simp [results, hr]
theorem ret_cell {fn : Func} {t T b k : Nat} {cs : List Value} {R : Ending → World → Prop} (hr : fn.results = #[.cell t T]) (ht : Nat.blt t n = true) (hv : E t = ptr b 0) (hT : aggN P T = some k) (hl : cs.length = k) (hc : Row w b 0 cs)
    (h : R (.returned (.agg ⟨cs⟩)) w) : retPost P fn n R .ret E w := by
  have ht' : t < n := by simpa [Nat.blt_eq] using ht
  have h1 := run_loadCells (P := P) (w := w) (b := b) (o := 0) cs 0 #[] (fun j v hj => by rw [Nat.add_zero]; exact hc j v hj)
  rw [hl] at h1
  refine ⟨.agg ⟨cs⟩, ?_, h⟩
  simp [results, hr, act, ht', hv, asAddr, loadVar, (aggN_agg hT).1, (aggN_agg hT).2, loadCells, h1]
theorem ret_cell_tmp {fn : Func} {t T b k s : Nat} {u : Value} {cs : List Value} {R : Ending → World → Prop} (hr : fn.results = #[.cell t T, .tmp s]) (ht : Nat.blt t n = true) (hs : Nat.blt s n = true) (hv : E t = ptr b 0) (hT : aggN P T = some k) (hl : cs.length = k) (hc : Row w b 0 cs)
    (hu : E s = u) (h : R (.returned (.tuple #[.agg ⟨cs⟩, u])) w) : retPost P fn n R .ret E w := by
  have ht' : t < n := by simpa [Nat.blt_eq] using ht
  have hs' : s < n := by simpa [Nat.blt_eq] using hs
  have h1 := run_loadCells (P := P) (w := w) (b := b) (o := 0) cs 0 #[] (fun j v hj => by rw [Nat.add_zero]; exact hc j v hj)
  rw [hl] at h1
  refine ⟨.tuple #[.agg ⟨cs⟩, u], ?_, h⟩
  simp [results, hr, act, ht', hs', hv, hu, asAddr, loadVar, (aggN_agg hT).1, (aggN_agg hT).2, loadCells, h1]
theorem norm_ret {fn : Func} {R : Ending → World → Prop} (h : retPost P fn n R .ret E w) : retPost P fn n R .normal E w := h
theorem W_cut {x y : Code} {Q : Exit → Env → World → Prop} {G : Type} (sl : G → List (Nat × Value)) (F : G → World → Prop)
    (hx : W P n x (then' (fun E w => ∃ g, holds (sl g) E ∧ F g w) Q) E w) (hy : ∀ (X : Env) (g : G) (w : World), F g w → W P n y Q (env (sl g) X) w) : W P n (.seq x y) Q E w := by
  refine W_seq fun K hK => W_mono hx ?_
  intro e E w h
  cases e <;> first | exact h | skip
  obtain ⟨g, hh, hF⟩ := h
  refine hK _ _ ?_
  have := hy E g w hF
  rwa [env_of_holds hh] at this
theorem W_t {c : Operand} {x y : Code} {Q : Exit → Env → World → Prop} (hc : ev E c = .bool true) (h : W P n x Q E w) : W P n (.cond c x y) Q E w := W_cond hc (fun _ => h) (fun h => by cases h)
theorem W_f {c : Operand} {x y : Code} {Q : Exit → Env → World → Prop} (hc : ev E c = .bool false) (h : W P n y Q E w) : W P n (.cond c x y) Q E w := W_cond hc (fun h => by cases h) (fun _ => h)
end
structure Own {α : Type} (enc : α → List Value) (sz T : Nat) (B : Nat) (w : World) (v : Value) (l : List α) : Prop where
  row : w.ownsRow B T sz v l.length (l.flatMap enc)
section
variable {α : Type} {enc : α → List Value} {sz T B : Nat} {w w' : World} {v : Value} {l : List α}
theorem Own.nil : Own enc sz T B w (.slice none 0 0) [] := ⟨World.ownsRow_nil w B T sz⟩
theorem Own.lt (h : Own enc sz T B w v l) : ∀ k, v.ownBlock = some k → B ≤ k ∧ k < w.heap.size := h.row.lt
theorem Own.mod {S : Nat → Prop} (h : Own enc sz T B w v l) (m : Mod S w w') (hS : ∀ k, v.ownBlock = some k → ¬ S k) : Own enc sz T B w' v l := by
  obtain ⟨h1, h2⟩ := h.row
  refine ⟨h1, ?_⟩
  rcases h2 with h2 | ⟨g, cap, cur, hv, hg, hh, r⟩
  · exact Or.inl h2
  · have hb : g < w.heap.size := (h.lt g (by rw [hv]; rfl)).2
    exact Or.inr ⟨g, cap, cur, hv, hg, by rw [m.block g hb (hS g (by rw [hv]; rfl))]; exact hh, r⟩
theorem Own.ext (h : Own enc sz T B w v l) (m : Ext w w') : Own enc sz T B w' v l := h.mod m (fun _ _ h => h)
theorem Own.mono {B' : Nat} (h : Own enc sz T B w v l) (hB : B' ≤ B) : Own enc sz T B' w v l := by
  obtain ⟨h1, h2⟩ := h.row
  refine ⟨h1, ?_⟩
  rcases h2 with h2 | ⟨g, cap, cur, hv, hg, r⟩
  · exact Or.inl h2
  · exact Or.inr ⟨g, cap, cur, hv, Nat.le_trans hB hg, r⟩
theorem Own.sl (h : Own enc sz T B w v l) : isSl v l.length := by
  obtain ⟨_, h2⟩ := h.row
  rcases h2 with ⟨h2, h3⟩ | ⟨g, cap, cur, hv, hg, hh, hn, _⟩
  · exact .inl ⟨h2, h3⟩
  · exact .inr (.inl ⟨g, 0, cap, hv, hn⟩)
theorem flatMap_at (henc : ∀ x, (enc x).length = sz) : ∀ (l : List α) (i : Nat) (x : α), l[i]? = some x → ∀ j u, (enc x)[j]? = some u → (l.flatMap enc)[i * sz + j]? = some u := by
  intro l
  induction l with
  | nil => intro i x h; simp at h
  | cons y r ih =>
    intro i x h j u hj
    rw [List.flatMap_cons]
    cases i with
    | zero =>
      simp at h; subst h
      rw [Nat.zero_mul, Nat.zero_add, List.getElem?_append_left]
      · exact hj
      · exact (List.getElem?_eq_some_iff.1 hj).1
    | succ i =>
      have h' : r[i]? = some x := by simpa using h
      rw [List.getElem?_append_right (by rw [henc, Nat.succ_mul]; omega), henc]
      rw [show (i + 1) * sz + j - sz = i * sz + j by rw [Nat.succ_mul]; omega]
      exact ih i x h' j u hj
theorem Own.arr (henc : ∀ x, (enc x).length = sz) (h : Own enc sz T B w v l) : Arr enc sz w v l := by
  refine ⟨by rw [List.length_map]; exact h.sl, fun i cs hi => ?_⟩
  rw [List.getElem?_map] at hi
  cases hx : l[i]? with
  | none => rw [hx] at hi; cases hi
  | some x =>
    rw [hx] at hi
    simp only [Option.map_some, Option.some.injEq] at hi
    subst hi
    refine ⟨henc x, fun j u hj => ?_⟩
    obtain ⟨_, h2⟩ := h.row
    rcases h2 with ⟨rfl, h3⟩ | ⟨g, cap, cur, rfl, hg, hh, hn, _⟩
    · have := List.eq_nil_of_length_eq_zero h3; subst this; simp at hx
    · have hc := h.row.cells (g := g) rfl (i * sz + j) u (flatMap_at henc l i x hx j u hj)
      have ha : (⟨g, 0, none⟩ : Addr).add (i * sz + j) = ⟨g, 0 + i * sz + j, none⟩ := by
        unfold Addr.add
        split
        · rename_i e
          have h0 : i * sz = 0 ∧ j = 0 := by omega
          rw [h0.1, h0.2]
        · simp [Nat.add_assoc]
      rw [ha] at hc
      simpa [base] using hc
end
theorem isSl.one {v : Value} {n : Nat} (h : isSl v n) : v.oneCell' = true := by
  rcases h with ⟨rfl, _⟩ | ⟨b, o, c, rfl, _⟩ | ⟨_, a, c, rfl⟩ <;> rfl
theorem isSl.cells {v : Value} {n : Nat} (h : isSl v n) : v.cells = ⟨[v]⟩ := by
  rcases h with ⟨rfl, _⟩ | ⟨b, o, c, rfl, _⟩ | ⟨_, a, c, rfl⟩ <;> rfl
theorem cells_one {v : Value} (h : v.oneCell' = true) : v.cells = ⟨[v]⟩ := by
  cases v <;> first | rfl | cases h
theorem Own.base_ge {α : Type} {enc : α → List Value} {sz T B : Nat} {w : World} {v : Value} {l : List α} (h : Own enc sz T B w v l) (hl : l ≠ []) : B ≤ (base v).1 ∧ (base v).1 < w.heap.size := by
  rcases h.sl with ⟨_, hn⟩ | ⟨b, o, c, rfl, _⟩ | ⟨hn, _⟩
  · exact absurd (List.eq_nil_of_length_eq_zero hn) hl
  · exact h.lt b rfl
  · exact absurd (List.eq_nil_of_length_eq_zero hn) hl
def geB (D : Nat) : Nat → Prop := fun k => D ≤ k
def elemB (P : Program) (e sz by' : Nat) : Bool := match P.info? e with
  | some i => i.size == sz && i.bytes == by' && Nat.blt 0 sz && (match i.zero with | some z => z.cells.size == sz | none => false)
  | none => false
theorem elemB_spec {P : Program} {e sz by' : Nat} (h : elemB P e sz by' = true) : ∃ i z, P.info? e = some i ∧ i.zero = some z ∧ i.size = sz ∧ i.bytes = by' ∧ z.cells.size = sz ∧ 0 < sz := by
  unfold elemB at h
  cases hi : P.info? e with
  | none => rw [hi] at h; cases h
  | some i =>
    rw [hi] at h
    simp only [Bool.and_eq_true, beq_iff_eq] at h
    obtain ⟨⟨⟨h1, h2⟩, h3⟩, h4⟩ := h
    cases hz : i.zero with
    | none => rw [hz] at h4; cases h4
    | some z => rw [hz] at h4; exact ⟨i, z, rfl, hz, h1, h2, by simpa using h4, by simpa [Nat.blt_eq] using h3⟩
section
variable {P : Program} {n : Nat} {ds : List (Option Tmp)} {R : World → World → Prop} {r : List (Oper × Fl × Bool)} {K : Env → World → Prop} {E : Env} {w : World}
variable {d : Nat} {op : Op} {ty : TypeId} {pos : String} {af : Array Edge} {g : Option (Nat × Bool)} {anc : Bool} {v : Value}
theorem flat_one {α : Type} {enc : α → List Value} {l : List α} (h : ∀ x ∈ l, ∀ u ∈ enc x, u.oneCell' = true) : ∀ u ∈ l.flatMap enc, u.oneCell' = true := by
  intro u hu
  obtain ⟨x, hx, hu'⟩ := List.mem_flatMap.1 hu
  exact h x hx u hu'
theorem flat_len {α : Type} {enc : α → List Value} {sz : Nat} (henc : ∀ x, (enc x).length = sz) : ∀ l : List α, (l.flatMap enc).length = l.length * sz := by
  intro l
  induction l with
  | nil => simp
  | cons x r ih => simp [List.flatMap_cons, ih, henc, Nat.succ_mul]; omega
theorem Arr.flat {α : Type} {enc : α → List Value} {sz : Nat} {l : List α} (henc : ∀ x, (enc x).length = sz) (h : Arr enc sz w v l) : ∀ j u, (l.flatMap enc)[j]? = some u → w.cell? ⟨(base v).1, (base v).2 + j, none⟩ = some u := by
  intro j u hj
  by_cases hsz : sz = 0
  · have hl := flat_len henc l
    rw [hsz, Nat.mul_zero] at hl
    rw [List.eq_nil_of_length_eq_zero hl] at hj
    simp at hj
  have hlt := (List.getElem?_eq_some_iff.1 hj).1
  rw [flat_len henc] at hlt
  have hq : j / sz < l.length := Nat.div_lt_of_lt_mul (by rw [Nat.mul_comm]; exact hlt)
  have hx : l[j / sz]? = some l[j / sz] := List.getElem?_eq_getElem hq
  have hr : j % sz < (enc l[j / sz]).length := by rw [henc]; exact Nat.mod_lt _ (by omega)
  have e : j / sz * sz + j % sz = j := by rw [Nat.mul_comm]; exact Nat.div_add_mod j sz
  have h1 := flatMap_at henc l _ _ hx (j % sz) (enc l[j / sz])[j % sz] (List.getElem?_eq_getElem hr)
  rw [e, hj] at h1
  have h2 := h.row hx (j % sz) _ (List.getElem?_eq_getElem hr)
  rw [show (base v).2 + j / sz * sz + j % sz = (base v).2 + j by omega] at h2
  rw [h2, h1]
theorem D_append {α : Type} {enc : α → List Value} {s x : Operand} {t e sz by' B : Nat} {vx : Value} {l lx : List α} (hg : guardB ds E g = true) (ht : slElem P t = some (e, sz)) (hE : elemB P e sz by' = true)
    (henc : ∀ x, (enc x).length = sz) (hown : Own enc sz e B w v l) (hax : Arr enc sz w vx lx) (hs : ev E s = v) (hx : ev E x = vx) (h1 : ∀ x ∈ lx, ∀ u ∈ enc x, u.oneCell' = true)
    (hbytes : (l.length + lx.length) * by' ≤ 140737488355328) (hby : 1 ≤ by') (hB : B ≤ w.heap.size) (hR : anc = true ∨ ∀ w', Mod (fun k => v.ownBlock = some k) w w' → R w w')
    (h : ∀ v' w', Own enc sz e B w' v' (l ++ lx) → Mod (fun k => v.ownBlock = some k) w w' → Dw P n ds R r K (upd E d v') w') :
    Dw P n ds R ((⟨some d, .call { callee := .builtin .append, args := #[s, x], argTypes := #[t, t] }, ty, pos, af, g⟩, .x, anc) :: r) K E w := by
  obtain ⟨hu, _⟩ := slElem_under ht
  obtain ⟨i, z, hi, hz, hsize, hby', hzs, hsz⟩ := elemB_spec hE
  have h63 : l.length + lx.length ≤ maxLen := by
    unfold maxLen
    have : (l.length + lx.length) * 1 ≤ (l.length + lx.length) * by' := Nat.mul_le_mul_left _ hby
    omega
  have hRR : ∀ w', Mod (fun k => v.ownBlock = some k) w w' → anc = false → R w w' := fun w' hm e => hR.elim (fun h => by rw [h] at e; cases e) (fun h => h _ hm)
  rcases hax.sl with ⟨rfl, hl0⟩ | ⟨b, o, c, rfl, hc⟩ | ⟨hl0, ⟨b, o, s0⟩, c, rfl⟩
  · -- nothing is appended
    have hlx := List.eq_nil_of_length_eq_zero hl0
    subst hlx
    have hrun : (Builtin.append_ #[t, t] ty #[v, .slice none 0 0]).run P w = .ok v w := by
      rcases hown.sl with ⟨rfl, hn⟩ | ⟨b, o, c, rfl, hn⟩ | ⟨hn, a, c, rfl⟩
      · simp [Builtin.append_, run_underlying hu, sizeOf, typeInfo, hi, Builtin.lenOf, Builtin.firstCells]
      · simp [Builtin.append_, run_underlying hu, sizeOf, typeInfo, hi, Builtin.lenOf, Builtin.firstCells, hn, storeCells]
      · simp [Builtin.append_, run_underlying hu, sizeOf, typeInfo, hi, Builtin.lenOf, Builtin.firstCells, hn, storeCells]
    refine D_xv (w' := w) (v := v) hg ?_ (hRR _ (Mod.refl _ _)) (h v w (by simpa using hown) (Mod.refl _ _))
    simp only [execOp, resolve, invoke, builtin, Sem.run_bind, Sem.run_pure, Result.andThen_ok, List.map_toArray, List.map_cons, List.map_nil, hs, hx, hrun]
  · obtain ⟨v', w', hr, h2, h3, h4⟩ := run_append_own (P := P) w B t ty e i z sz by' hu hi hz hsize hby' hzs hsz v l.length (l.flatMap enc) hown.row ⟨b, o, none⟩ lx.length c (lx.flatMap enc) (flat_len henc lx)
      (fun j u hj => by
        have := Arr.flat henc hax j u hj
        have ha : (⟨b, o, none⟩ : Addr).add j = ⟨b, o + j, none⟩ := by
          unfold Addr.add
          split
          · rename_i e; simp [e]
          · rfl
        rw [ha]; exact this) (flat_one h1) h63 hbytes hB
    refine D_xv (w' := w') (v := v') hg ?_ (hRR _ ?_) (h v' w' ⟨by rw [List.length_append, List.flatMap_append]; exact h2⟩ ?_)
    · simp only [execOp, resolve, invoke, builtin, Sem.run_bind, Sem.run_pure, Result.andThen_ok, List.map_toArray, List.map_cons, List.map_nil, hs, hx, hr]
    · exact Mod.of_grown h3
    · exact Mod.of_grown h3
  · have hlx := List.eq_nil_of_length_eq_zero hl0
    subst hlx
    obtain ⟨v', w', hr, h2, h3, h4⟩ := run_append_own (P := P) w B t ty e i z sz by' hu hi hz hsize hby' hzs hsz v l.length (l.flatMap enc) hown.row ⟨b, o, s0⟩ 0 c [] (by simp) (fun j u hj => by simp at hj) (fun u hu => by cases hu) h63 hbytes hB
    refine D_xv (w' := w') (v := v') hg ?_ (hRR _ (Mod.of_grown h3)) (h v' w' ⟨by rw [List.length_append, List.flatMap_append]; exact h2⟩ (Mod.of_grown h3))
    simp only [execOp, resolve, invoke, builtin, Sem.run_bind, Sem.run_pure, Result.andThen_ok, List.map_toArray, List.map_cons, List.map_nil, hs, hx, hr]
theorem flat_rep (zs : List Value) (sz : Nat) (hz : zs.length = sz) (hp : 0 < sz) : ∀ (m j : Nat), j < m * sz → ((List.replicate m zs).flatten)[j]? = zs[j % sz]? := by
  intro m
  induction m with
  | zero => intro j h; omega
  | succ m ih =>
    intro j h
    rw [List.replicate_succ, List.flatten_cons]
    by_cases hj : j < sz
    · rw [List.getElem?_append_left (by omega), Nat.mod_eq_of_lt hj]
    · rw [List.getElem?_append_right (by omega), hz, ih (j - sz) (by rw [Nat.succ_mul] at h; omega)]
      rw [show j % sz = (j - sz) % sz from (Nat.mod_eq_sub_mod (by omega))]
theorem made_flat (zs : List Value) (sz m : Nat) (hz : zs.length = sz) (hp : 0 < sz) : (Array.range (m * sz)).map (fun x => (⟨zs⟩ : Array Value)[x % (⟨zs⟩ : Array Value).size]!) = ⟨(List.replicate m zs).flatten⟩ := by
  apply Array.ext'
  apply List.ext_getElem?
  intro j
  by_cases hj : j < m * sz
  · rw [flat_rep zs sz hz hp m j hj]
    have hlt : j % sz < zs.length := by rw [hz]; exact Nat.mod_lt _ hp
    have hs : (⟨zs⟩ : Array Value).size = sz := hz
    simp [hj, hs]
    rw [List.getElem?_eq_getElem hlt]
    rfl
  · have h2 : ((List.replicate m zs).flatten).length = m * sz := by simp [hz]
    rw [List.getElem?_eq_none (by simp; omega), List.getElem?_eq_none (by rw [h2]; omega)]
theorem D_lit {t e sz m : Nat} {ps : List (Nat × Operand)} {zs cs : List Value} {pv : List (Nat × Value)} (hg : guardB ds E g = true) (ht : slElem P t = some (e, sz)) (hm : Nat.blt 0 (m * sz) = true ∧ Nat.ble (m * sz) 16777216 = true) (hz : zeroC P e = some zs) (hzs : Nat.beq zs.length sz = true)
    (hv : EvL E ps pv) (hf : fillL (fun i => some (i * sz, sz)) ((List.replicate m zs).flatten) pv = some cs) (hR : RX R anc)
    (h : ∀ b w1, b = w.heap.size → Ext w w1 → Blk w1 b cs e → Dw P n ds R r K (upd E d (.slice (some ⟨b, 0, none⟩) m m)) w1) :
    Dw P n ds R ((⟨some d, .buildSlice t m ps.toArray, ty, pos, af, g⟩, .x, anc) :: r) K E w := by
  obtain ⟨hu, i, hi, hs⟩ := slElem_under ht
  have hmap := EvL.map hv
  have h0 : 0 < m * sz := by simpa [Nat.blt_eq] using hm.1
  have hm' : m * sz ≤ 16777216 := by simpa [Nat.ble_eq] using hm.2
  have hzs' : zs.length = sz := Nat.eq_of_beq_eq_true hzs
  have hsz : 0 < sz := Nat.pos_of_ne_zero (fun e => by rw [e] at h0; omega)
  obtain ⟨z, hz1, hz2⟩ := zeroC_run (P := P) (w := w) hz
  refine D_xv (v := .slice (some ⟨w.heap.size, 0, none⟩) m m) (w' := w.alloc (.cells ⟨cs⟩ e)) hg ?_ (hR.use (Ext.alloc _ _)) (h _ _ rfl (Ext.alloc _ _) ?_)
  · have h2 := fill_eq _ pv _ cs hf
    have hb : ¬ (m * sz > 2 ^ 24) := by omega
    have hne : ¬ (m * sz = 0) := by omega
    have e1 : (Instr.buildSlice t m ⟨pv⟩).run P w = .ok (.slice (some ⟨w.heap.size, 0, none⟩) m m) (w.alloc (.cells ⟨cs⟩ e)) := by
      unfold Instr.buildSlice
      simp only [underlying, Sem.run_bind, run_program, Result.andThen_ok, hu, Sem.run_pure, sizeOf, typeInfo, hi, hs]
      rw [if_neg hb, if_neg hne]
      simp only [Sem.run_bind, Sem.run_pure, Result.andThen_ok, hz1, hz2]
      rw [made_flat zs sz m hzs' hsz, h2]
      simp [newRow]
    have e2 : (ps.toArray.map fun (i, x) => (i, ev E x)) = ⟨pv⟩ := by
      rw [← hmap]; simp
    simp only [execOp]
    rw [e2]
    simp only [Sem.run_bind, e1, Result.andThen_ok, Sem.run_pure]
  · show (w.heap.push _)[w.heap.size]? = _; simp
theorem D_lit0 {t e sz : Nat} (hg : guardB ds E g = true) (ht : slElem P t = some (e, sz)) (hR : RX R anc)
    (h : ∀ b w1, b = w.heap.size → Ext w w1 → Blk w1 b [] e → Dw P n ds R r K (upd E d (.slice (some ⟨b, 0, none⟩) 0 0)) w1) :
    Dw P n ds R ((⟨some d, .buildSlice t 0 #[], ty, pos, af, g⟩, .x, anc) :: r) K E w := by
  obtain ⟨hu, i, hi, hs⟩ := slElem_under ht
  refine D_xv (v := .slice (some ⟨w.heap.size, 0, none⟩) 0 0) (w' := w.alloc (.cells ⟨[]⟩ e)) hg ?_ (hR.use (Ext.alloc _ _)) (h _ _ rfl (Ext.alloc _ _) ?_)
  · have e0 : (Array.map (fun x => (default : Value)) (Array.range 0)) = ⟨[]⟩ := by simp
    simp [execOp, Instr.buildSlice, underlying, hu, sizeOf, typeInfo, hi, Instr.fill, newRow, e0]
  · show (w.heap.push _)[w.heap.size]? = _; simp
theorem D_make {t e sz by' m : Nat} {zs : List Value} {x y : Operand} (hg : guardB ds E g = true) (ht : slElem P t = some (e, sz)) (hE : elemB P e sz by' = true) (hz : zeroC P e = some zs) (hx : ev E x = I m) (hy : ev E y = I m)
    (hb : by' * m ≤ 281474976710656) (hb1 : m ≤ 4611686018427387904) (hR : RX R anc)
    (h : ∀ b w1, b = w.heap.size → Ext w w1 → Blk w1 b ((List.replicate m zs).flatten) e → Dw P n ds R r K (upd E d (.slice (some ⟨b, 0, none⟩) m m)) w1) :
    Dw P n ds R ((⟨some d, .makeSlice t x y, ty, pos, af, g⟩, .x, anc) :: r) K E w := by
  obtain ⟨hu, _⟩ := slElem_under ht
  obtain ⟨i, z, hi, hz0, hsize, hby, hzs, hsz⟩ := elemB_spec hE
  have hzz : z.cells = ⟨zs⟩ := by
    unfold zeroC at hz
    simp only [hi, Option.bind_some, hz0, Option.map_some, Option.some.injEq] at hz
    rw [← hz]
  have hzl : zs.length = sz := by rw [hzz] at hzs; exact hzs
  have hb' : (i.bytes : Int) * (m : Int) ≤ 281474976710656 := by
    rw [hby]
    have h : ((by' * m : Nat) : Int) ≤ 281474976710656 := by omega
    rwa [Int.natCast_mul] at h
  have hr := run_make (P := P) w t e i z hu hi hz0 .i64 .i64 m m (by omega) (Int.le_refl _) hb' (by omega)
  simp only [Int.toNat_natCast] at hr
  have e0 : madeCells z.cells (m * i.size) = ⟨(List.replicate m zs).flatten⟩ := by
    rw [hzz, hsize, ← made_flat zs sz m hzl hsz]; rfl
  rw [e0] at hr
  refine D_xv (v := .slice (some ⟨w.heap.size, 0, none⟩) m m) (w' := w.alloc (.cells ⟨(List.replicate m zs).flatten⟩ e)) hg ?_ (hR.use (Ext.alloc _ _)) (h _ _ rfl (Ext.alloc _ _) ?_)
  · simp [execOp, hx, hy, hr]
  · show (w.heap.push _)[w.heap.size]? = _; simp
theorem Blk.own {α : Type} {enc : α → List Value} {sz T b B m : Nat} {l : List α} {cs : List Value} (h : Blk w b cs T) (hB : B ≤ b) (hcs : cs = l.flatMap enc) (henc : ∀ x, (enc x).length = sz) (hm : m = l.length) (hl : l.length ≤ 4611686018427387904) : Own enc sz T B w (.slice (some ⟨b, 0, none⟩) m m) l := by
  subst hcs; subst hm
  refine ⟨flat_len henc l, .inr ⟨b, l.length, ⟨l.flatMap enc⟩, rfl, hB, h, Nat.le_refl _, by unfold maxLen; omega, flat_len henc l, ?_⟩⟩
  show (l.flatMap enc).take (l.length * sz) = _
  rw [← flat_len henc l, List.take_length]
theorem Blk.arr {α : Type} {enc : α → List Value} {sz T b m : Nat} {l : List α} {cs : List Value} (h : Blk w b cs T) (hcs : cs = l.flatMap enc) (henc : ∀ x, (enc x).length = sz) (hm : m = l.length) (hl : l.length ≤ 4611686018427387904) : Arr enc sz w (.slice (some ⟨b, 0, none⟩) m m) l :=
  (h.own (Nat.zero_le _) hcs henc hm hl).arr henc
theorem D_store1 {a x : Operand} {T T' b o : Nat} {cs : List Value} (hg : guardB ds E g = true) (ha : ev E a = ptr b o) (hx : ev E x = v) (hv : v.oneCell' = true) (hs : sizeT P T = some 1) (hb : Blk w b cs T')
    (ho : o < cs.length) (hR : anc = true ∨ ∀ w', Mod (oneB b) w w' → R w w')
    (h : ∀ w1, Mod (oneB b) w w1 → w1.heap.size = w.heap.size → Blk w1 b (cs.set o v) T' → Dw P n ds R r K E w1) : Dw P n ds R ((⟨none, .store T a x, ty, pos, af, g⟩, .x, anc) :: r) K E w :=
  D_store (vs := [v]) hg ha hx (cells_one hv) hs hb (by simp; omega) (by intro u hu; simp at hu; rw [hu]; exact hv) hR h
def slV (k : Nat) (v : Value) (lo hi : Nat) : Value := match v with
  | .slice (some a) _ c => .slice (some (if c = lo then a else a.add (lo * k))) (hi - lo) (c - lo)
  | _ => .slice none 0 0
theorem pv_slV {x : Operand} {lo hi : Option Operand} {T a b e k m : Nat} {dd : Option Tmp} (hT : slElem P T = some (e, k)) (hv : isSl v m) (hx : ev E x = v)
    (hlo : bnd E 0 lo a) (hhi : bnd E m hi b) (h1 : a ≤ b) (h2 : b ≤ m) : PV P ⟨dd, .slice T x lo hi none, ty, pos, af, g⟩ E (slV k v a b) := fun w => by
  obtain ⟨hu, i, hi', hs⟩ := slElem_under hT
  rcases hv with ⟨rfl, rfl⟩ | ⟨bb, o, c, rfl, hc⟩ | ⟨rfl, ad, c, rfl⟩
  · have hb0 : b = 0 := by omega
    have ha0 : a = 0 := by omega
    subst hb0; subst ha0
    have hb1 : (0 : Int) ≤ ((0 : Nat) : Int) ∧ ((0 : Nat) : Int) ≤ ((0 : Nat) : Int) := by omega
    have key : (Instr.sliceBounds true 0 0 (lo.map (ev E)) (hi.map (ev E)) none).run P w = .ok (0, 0, 0) w := by
      unfold bnd at hlo hhi
      cases lo <;> cases hi <;> simp only [] at hlo hhi <;> simp only [Option.map, Instr.sliceBounds, Sem.run_bind, Sem.run_pure, Result.andThen_ok, *] <;>
        simp only [run_bound hb1, Result.andThen_ok, Int.toNat_natCast] <;> rfl
    have e1 : (Instr.sliceAt T (.slice none 0 0) (lo.map (ev E)) (hi.map (ev E)) none).run P w = .ok (slV k (.slice none 0 0) 0 0) w := by
      simp [Instr.sliceAt, Instr.slice, underlying, hu, key, sizeOf, typeInfo, hi', slV]
    simp only [execOp, hx, Option.map_none, Sem.run_bind, e1]
    rfl
  · have hb1 : (0 : Int) ≤ (b : Int) ∧ (b : Int) ≤ (c : Int) := by omega
    have hb2 : (0 : Int) ≤ (a : Int) ∧ (a : Int) ≤ (b : Int) := by omega
    have key : (Instr.sliceBounds true m c (lo.map (ev E)) (hi.map (ev E)) none).run P w = .ok (a, b, c) w := by
      unfold bnd at hlo hhi
      cases lo <;> cases hi <;> simp only [] at hlo hhi <;> subst_vars <;> simp only [Option.map, Instr.sliceBounds, Sem.run_bind, Sem.run_pure, Result.andThen_ok, *] <;>
        simp only [run_bound hb1, run_bound hb2, Result.andThen_ok, Int.toNat_natCast] <;> rfl
    have ha : ∀ q, (⟨bb, o, none⟩ : Addr).add q = ⟨bb, o + q, none⟩ := fun q => by
      unfold Addr.add
      split
      · rename_i e; simp [e]
      · rfl
    have e1 : (Instr.sliceAt T (.slice (some ⟨bb, o, none⟩) m c) (lo.map (ev E)) (hi.map (ev E)) none).run P w = .ok (slV k (.slice (some ⟨bb, o, none⟩) m c) a b) w := by
      simp [Instr.sliceAt, Instr.slice, underlying, hu, key, sizeOf, typeInfo, hi', hs, slV, ha]
      split <;> rfl
    simp only [execOp, hx, Option.map_none, Sem.run_bind, e1]
    rfl
  · have hb0 : b = 0 := by omega
    have ha0 : a = 0 := by omega
    subst hb0; subst ha0
    have hb1 : (0 : Int) ≤ ((0 : Nat) : Int) ∧ ((0 : Nat) : Int) ≤ (c : Int) := by omega
    have hb2 : (0 : Int) ≤ ((0 : Nat) : Int) ∧ ((0 : Nat) : Int) ≤ ((0 : Nat) : Int) := by omega
    have key : (Instr.sliceBounds true 0 c (lo.map (ev E)) (hi.map (ev E)) none).run P w = .ok (0, 0, c) w := by
      unfold bnd at hlo hhi
      cases lo <;> cases hi <;> simp only [] at hlo hhi <;> simp only [Option.map, Instr.sliceBounds, Sem.run_bind, Sem.run_pure, Result.andThen_ok, *] <;>
        simp only [run_bound hb1, run_bound hb2, Result.andThen_ok, Int.toNat_natCast] <;> rfl
    have e1 : (Instr.sliceAt T (.slice (some ad) 0 c) (lo.map (ev E)) (hi.map (ev E)) none).run P w = .ok (slV k (.slice (some ad) 0 c) 0 0) w := by
      simp [Instr.sliceAt, Instr.slice, underlying, hu, key, sizeOf, typeInfo, hi', hs, slV]
      split <;> rfl
    simp only [execOp, hx, Option.map_none, Sem.run_bind, e1]
    rfl
theorem Arr.slice {α : Type} {enc : α → List Value} {k lo hi : Nat} {l : List α} (h : Arr enc k w v l) (h1 : lo ≤ hi) (h2 : hi ≤ l.length) : Arr enc k w (slV k v lo hi) ((l.take hi).drop lo) := by
  have hadd : ∀ b o q, (⟨b, o, none⟩ : Addr).add q = ⟨b, o + q, none⟩ := fun b o q => by
    unfold Addr.add
    split
    · rename_i e; simp [e]
    · rfl
  rcases h.sl with ⟨rfl, hl⟩ | ⟨b, o, c, rfl, hc⟩ | ⟨hl, a, c, rfl⟩
  · have := List.eq_nil_of_length_eq_zero hl
    subst this
    simp [slV]; exact Arr.nil
  rotate_left
  · have := List.eq_nil_of_length_eq_zero hl
    subst this
    have h3 : hi = 0 := by simpa using h2
    have h4 : lo = 0 := by omega
    subst h3; subst h4
    exact ⟨.inr (.inr ⟨rfl, _, _, rfl⟩), fun i cs hi' => by simp at hi'⟩
  · refine ⟨.inr (.inl ⟨b, (if c = lo then o else o + lo * k), c - lo, ?_, ?_⟩), fun i cs hi' => ?_⟩
    · simp only [slV, List.length_map, List.length_drop, List.length_take, hadd]
      rw [show min hi l.length = hi by omega]
      congr 2
      split <;> rfl
    · simp; omega
    · rw [List.getElem?_map, List.getElem?_drop, List.getElem?_take] at hi'
      split at hi'
      · rename_i hlt
        have h3 := h.at' (lo + i) cs (by rw [List.getElem?_map]; exact hi')
        refine ⟨h3.1, ?_⟩
        have hne : ¬ c = lo := by omega
        have hb : base (slV k (.slice (some ⟨b, o, none⟩) l.length c) lo hi) = (b, o + lo * k) := by simp [slV, hne, base, hadd]
        rw [hb]
        have h4 := h3.2
        simp only [base] at h4 ⊢
        rw [show o + lo * k + i * k = o + (lo + i) * k by rw [Nat.add_mul]; omega]
        exact h4
      · cases hi'
@[reducible] def encB (c : UInt8) : List Value := [.int .u8 c.toNat]
@[reducible] def sEnc (s : Str) : List Value := [S s]
@[reducible] def encI (n : Int) : List Value := [I n]
def slU8 (P : Program) (T : TypeId) : Bool := match P.underlying T with
  | some (.slice e) => (match P.underlying e with | some (.int .u8) => true | _ => false)
  | _ => false
theorem run_forIn_push (f : Value → ByteArray → Sem (ForInStep ByteArray)) (hf : ∀ (c : UInt8) (s : ByteArray), (f (.int .u8 c.toNat) s).run P w = .ok (.yield (s.push c)) w) :
    ∀ (l : Str) (s : ByteArray), (forIn (l.map fun c => Value.int .u8 c.toNat) s f).run P w = .ok ⟨⟨s.data.toList ++ l⟩⟩ w := by
  intro l
  induction l with
  | nil => intro s; simp
  | cons c r ih =>
    intro s
    simp only [List.map_cons, List.forIn_cons, Sem.run_bind, hf, Result.andThen_ok]
    rw [ih]
    congr 1
    simp [ByteArray.push]
theorem lv_b2s {x : Operand} {T U : Nat} {dd : Option Tmp} {l : Str} (hT : slU8 P T = true) (hU : isStr P U = true) (ha : Arr encB 1 w v l) (hx : ev E x = v) : LV P ⟨dd, .convert T U x, ty, pos, af, g⟩ E w (S l) := by
  have hU' : P.underlying U = some .string := by
    unfold isStr at hU; split at hU <;> first | assumption | cases hU
  obtain ⟨e, hTe, hee⟩ : ∃ e, P.underlying T = some (.slice e) ∧ P.underlying e = some (.int .u8) := by
    unfold slU8 at hT
    split at hT
    · rename_i e he
      split at hT
      · rename_i h; exact ⟨e, he, h⟩
      · cases hT
    · cases hT
  have key : (Conv.bytesToString v).run P w = .ok (S l) w := by
    rcases ha.sl with ⟨rfl, hl⟩ | ⟨b, o, c, rfl, hc⟩ | ⟨hl, a, c, rfl⟩
    · have := List.eq_nil_of_length_eq_zero hl
      subst this
      simp [Conv.bytesToString]; rfl
    rotate_left
    · have := List.eq_nil_of_length_eq_zero hl
      subst this
      simp [Conv.bytesToString, loadCells, loadCellsFrom]; rfl
    · have hcells := run_loadCells (P := P) (w := w) (b := b) (o := o) (l.map fun c => Value.int .u8 c.toNat) 0 #[] (fun j u hj => by
        rw [List.getElem?_map] at hj
        cases hx : l[j]? with
        | none => rw [hx] at hj; cases hj
        | some y =>
          rw [hx] at hj
          have := ha.row hx 0 _ rfl
          simp only [base, Nat.mul_one, Nat.add_zero] at this ⊢
          simp only [Option.map_some, Option.some.injEq] at hj
          rw [this, hj])
      rw [List.length_map] at hcells
      unfold Conv.bytesToString
      simp only [loadCells, Sem.run_bind, hcells, Result.andThen_ok]
      rw [← Array.forIn_toList]
      simp only [Array.toList_append, List.nil_append]
      have e0 : (#[] : Array Value).toList ++ (List.map (fun c : UInt8 => Value.int .u8 c.toNat) l).toArray.toList = l.map fun c => Value.int .u8 c.toNat := by simp
      rw [run_forIn_push _ (fun c s => by simp)]
      rfl
  unfold LV
  have hc : (convert T U v).run P w = .ok (S l) w := by
    rcases ha.sl with ⟨rfl, _⟩ | ⟨b, o, c, rfl, _⟩ | ⟨_, a, c, rfl⟩ <;> simp [convert, underlying, hTe, hU', hee, key]
  simp only [execOp, hx, Sem.run_bind, hc, Result.andThen_ok, Sem.run_pure]
def plainK (P : Program) (T : TypeId) : Bool := match P.underlying T with | some .string | some .bool | some (.int _) => true | _ => false
def flatT (P : Program) (T : TypeId) : Option (List TypeId) := match P.underlying T with
  | some (.struct fs) => if P.stoodInHeld T || P.eqGuardType P.depth T then none else
      if (fs.toList.zipIdx.all fun (f, i) => f.name != "_" && f.offset == i && plainK P f.type) then some (fs.toList.map (·.type)) else none
  | _ => none
def eqL : List Value → List Value → Bool
  | .string a :: r, .string b :: s => a.toList == b.toList && eqL r s
  | .bool a :: r, .bool b :: s => a == b && eqL r s
  | .int _ a :: r, .int _ b :: s => a == b && eqL r s
  | _, _ => true
def likeT (P : Program) : List TypeId → List Value → Prop
  | [], [] => True
  | t :: r, .string _ :: s => P.underlying t = some .string ∧ likeT P r s
  | t :: r, .bool _ :: s => P.underlying t = some .bool ∧ likeT P r s
  | t :: r, .int k _ :: s => P.underlying t = some (.int k) ∧ likeT P r s
  | _, _ => False
theorem pv_rem {x y : Operand} {T U : TypeId} {k : IntKind} {a b : Int} {dd : Option Tmp} (hx : ev E x = .int k a) (hy : ev E y = .int k b) (ha : 0 ≤ a) (hb : 0 < b) : PV P ⟨dd, .binOp .rem T x y U, ty, pos, af, g⟩ E (.int k (a % b)) := fun w => by
  have h0 : ¬ b = 0 := by omega
  simp [execOp, hx, hy, eqGuard, binOp, Op.intDiv, h0, Int.tmod_eq_emod_of_nonneg ha]
def bitsI (op : BinOp) (k : IntKind) (a b : Int) : Int := match op with
  | .and => k.wrap (BitVec.ofInt k.bits a &&& BitVec.ofInt k.bits b).toNat
  | .or => k.wrap (BitVec.ofInt k.bits a ||| BitVec.ofInt k.bits b).toNat
  | .xor => k.wrap (BitVec.ofInt k.bits a ^^^ BitVec.ofInt k.bits b).toNat
  | .andNot => k.wrap (BitVec.ofInt k.bits a &&& ~~~ BitVec.ofInt k.bits b).toNat
  | _ => 0
theorem pv_bits {x y : Operand} {T U : TypeId} {op : BinOp} {k : IntKind} {a b : Int} {dd : Option Tmp} (hop : op = .and ∨ op = .or ∨ op = .xor ∨ op = .andNot) (hx : ev E x = .int k a) (hy : ev E y = .int k b) :
    PV P ⟨dd, .binOp op T x y U, ty, pos, af, g⟩ E (.int k (bitsI op k a b)) := fun w => by
  rcases hop with rfl | rfl | rfl | rfl <;> simp [execOp, hx, hy, eqGuard, binOp, Op.intBits, bitsI]
theorem pv_shr {x y : Operand} {T U : TypeId} {k ky : IntKind} {a b : Int} {dd : Option Tmp} (hx : ev E x = .int k a) (hy : ev E y = .int ky b) (hb : 0 ≤ b) : PV P ⟨dd, .binOp .shr T x y U, ty, pos, af, g⟩ E (.int k (a.fdiv (2 ^ (min b.toNat k.bits)))) := fun w => by
  have h0 : ¬ b < 0 := by omega
  simp [execOp, hx, hy, eqGuard, binOp, Op.shift, h0]
theorem pv_shl {x y : Operand} {T U : TypeId} {k ky : IntKind} {a b : Int} {dd : Option Tmp} (hx : ev E x = .int k a) (hy : ev E y = .int ky b) (hb : 0 ≤ b) : PV P ⟨dd, .binOp .shl T x y U, ty, pos, af, g⟩ E (.int k (k.wrap (a * 2 ^ (min b.toNat k.bits)))) := fun w => by
  have h0 : ¬ b < 0 := by omega
  simp [execOp, hx, hy, eqGuard, binOp, Op.shift, h0]
theorem pv_max2 {x y : Operand} {ts : Array TypeId} {a b : Int} {dd : Option Tmp} (hx : ev E x = I a) (hy : ev E y = I b) : PV P ⟨dd, .call { callee := .builtin .max, args := #[x, y], argTypes := ts }, ty, pos, af, g⟩ E (I (max a b)) := fun w => by
  have e : (if b > a then b else a) = max a b := by split <;> omega
  simp [execOp, resolve, invoke, builtin, Builtin.max_, Builtin.max2, hx, hy, List.foldlM, e]
theorem pv_min2 {x y : Operand} {ts : Array TypeId} {a b : Int} {dd : Option Tmp} (hx : ev E x = I a) (hy : ev E y = I b) : PV P ⟨dd, .call { callee := .builtin .min, args := #[x, y], argTypes := ts }, ty, pos, af, g⟩ E (I (min a b)) := fun w => by
  have e : (if b < a then b else a) = min a b := by split <;> omega
  simp [execOp, resolve, invoke, builtin, Builtin.min_, Builtin.min2, hx, hy, List.foldlM, e]
def isNilV : Value → Bool
  | .slice none _ _ => true
  | _ => false
theorem isNilV_spec {v : Value} {m : Nat} (hv : isSl v m) (h : isNilV v = true) : v = .slice none 0 0 ∧ m = 0 := by
  rcases hv with ⟨rfl, rfl⟩ | ⟨b, o, c, rfl, _⟩ | ⟨rfl, a, c, rfl⟩
  · exact ⟨rfl, rfl⟩
  · cases h
  · cases h
theorem pv_eqNv {x y : Operand} {T U e k m : Nat} {dd : Option Tmp} (hT : slElem P T = some (e, k)) (hv : isSl v m) (hx : ev E x = v) (hy : ev E y = .slice none 0 0) : PV P ⟨dd, .binOp .eql T x y U, ty, pos, af, g⟩ E (.bool (isNilV v)) := by
  rcases hv with ⟨rfl, rfl⟩ | ⟨b, o, c, rfl, _⟩ | ⟨rfl, a, c, rfl⟩
  · exact pv_eqN hT hx hy
  · have := pv_eqN (P := P) (d := dd) (ty := ty) (pos := pos) (af := af) (g := g) (U := U) hT hx hy
    simpa [isNilV] using this
  · have := pv_eqN (P := P) (d := dd) (ty := ty) (pos := pos) (af := af) (g := g) (U := U) hT hx hy
    simpa [isNilV] using this
def Gives (w : World) (F : Value → World → Prop) : Ending → World → Prop := fun e w' => ∃ v, e = .returned v ∧ Ext w w' ∧ F v w'
theorem D_callG {f : Nat} {az : List Operand} {ats : Array TypeId} {vs : List Value} {F : Value → World → Prop} (hg : guardB ds E g = true) (hf : callB P f = true) (hc : Calls P f vs.toArray w (Gives w F)) (ha : az.map (ev E) = vs) (hR : RX R anc)
    (h : ∀ v w1, Ext w w1 → F v w1 → Dw P n ds R r K (upd E d v) w1) :
    Dw P n ds R ((⟨some d, .call { callee := .value (.func f), args := az.toArray, argTypes := ats }, ty, pos, af, g⟩, .x, anc) :: r) K E w :=
  D_call hg hf ha hc fun e w1 ⟨v, he, hx, hF⟩ => ⟨v, he, hR.use hx, h v w1 hx hF⟩
end
theorem Row.sub {w : World} {b o : Nat} {cs : List Value} (k n : Nat) (h : Row w b o cs) : Row w b (o + k) ((cs.drop k).take n) := fun i v hi => by
  rw [List.getElem?_take] at hi
  split at hi
  · rw [List.getElem?_drop] at hi
    have := h (k + i) v hi
    rw [show o + k + i = o + (k + i) by omega]
    exact this
  · cases hi
theorem Row.at0 {w : World} {b o : Nat} {cs : List Value} {v : Value} (h : Row w b o cs) (hk : cs[0]? = some v) : w.cell? ⟨b, o, none⟩ = some v := h 0 v hk
theorem setAt_aux : ∀ (vs done cs : List Value), vs.length = cs.length → setAt (done ++ cs) done.length vs = done ++ vs
  | [], done, [], _ => rfl
  | v :: vs, done, c :: cs, h => by
    have h' : vs.length = cs.length := by simpa using h
    have e : (done ++ c :: cs).set done.length v = (done ++ [v]) ++ cs := by simp
    rw [setAt, e]
    have := setAt_aux vs (done ++ [v]) cs h'
    rw [List.length_append] at this
    rw [show done.length + 1 = done.length + [v].length from rfl, this]
    simp
theorem setAt_all {vs cs : List Value} (h : vs.length = cs.length) : setAt cs 0 vs = vs := setAt_aux vs [] cs h
theorem set_mapJ {α : Type} (f : α → Value) (q : List α) (r : Nat) (x : α) : (q.map f).set (0 + r * 1) (f x) = (q.set r x).map f := by
  rw [Nat.zero_add, Nat.mul_one, List.map_set]
theorem Blk.ne {w : World} {b b' : Nat} {cs cs' : List Value} {T T' : TypeId} (h : Blk w b cs T) (h' : Blk w b' cs' T') (hT : Nat.beq T T' = false) : b ≠ b' := by
  rintro rfl
  unfold Blk at h h'
  rw [h] at h'
  simp only [Option.some.injEq, Obj.cells.injEq] at h'
  rw [h'.2.1] at hT
  simp at hT
section
variable {α β : Type} {enc : α → List Value} {enc' : β → List Value} {sz sz' B B' : Nat} {T T' : TypeId} {w : World} {v v' : Value} {l : List α} {l' : List β}
theorem Own.heap (h : Own enc sz T B w v l) {k : Nat} (hk : v.ownBlock = some k) : ∃ cs, w.heap[k]? = some (.cells cs T (0, 0)) := by
  obtain ⟨_, h2⟩ := h.row
  rcases h2 with ⟨rfl, _⟩ | ⟨g, cap, cur, rfl, _, hg, _⟩
  · cases hk
  · have : g = k := Option.some.inj hk
    subst this
    exact ⟨cur, hg⟩
theorem Own.ne_blk (h : Own enc sz T B w v l) {b : Nat} {cs : List Value} (hb : Blk w b cs T') (hT : Nat.beq T T' = false) : v.ownBlock ≠ some b := fun e => by
  obtain ⟨cs', hc⟩ := h.heap e
  unfold Blk at hb
  rw [hb] at hc
  simp only [Option.some.injEq, Obj.cells.injEq] at hc
  rw [hc.2.1] at hT
  simp at hT
theorem Own.base_block (h : Own enc sz T B w v l) (hl : l ≠ []) : v.ownBlock = some (base v).1 := by
  rcases h.sl with ⟨_, hn⟩ | ⟨b, o, c, rfl, _⟩ | ⟨hn, _⟩
  · exact absurd (List.eq_nil_of_length_eq_zero hn) hl
  · rfl
  · exact absurd (List.eq_nil_of_length_eq_zero hn) hl
theorem Own.ne (h : Own enc sz T B w v l) (h' : Own enc' sz' T' B' w v' l') (hT : Nat.beq T T' = false) {k : Nat} (hk : v.ownBlock = some k) : v'.ownBlock ≠ some k := fun e => by
  obtain ⟨cs, hc⟩ := h.heap hk
  obtain ⟨cs', hc'⟩ := h'.heap e
  rw [hc'] at hc
  simp only [Option.some.injEq, Obj.cells.injEq] at hc
  rw [hc.2.1] at hT
  simp at hT
end
theorem RX.mod {S : Nat → Prop} {anc : Bool} : RX (Mod S) anc := .inr fun _ _ h => h.mono (fun _ h _ => h.elim)
theorem modRefl {S : Nat → Prop} (w : World) : Mod S w w := Mod.refl S w
theorem modTrans {S : Nat → Prop} (a b c : World) (h : Mod S a b) (k : Mod S b c) : Mod S a c := Mod.trans h k (fun _ h => h) (fun _ h _ => h)
theorem flat_rep0 (h : Nat) : (List.replicate h [I 0]).flatten = (List.replicate h 0).map fun j : Nat => I (j : Int) := by
  induction h with
  | zero => rfl
  | succ h ih => rw [List.replicate_succ, List.flatten_cons, ih, List.replicate_succ]; rfl
@[reducible] def encJ (j : Nat) : List Value := [I (j : Int)]
@[reducible] def encU (j : Nat) : List Value := [.int .u32 j]
@[reducible] def mapJ (q : List Nat) : List Value := q.map fun j : Nat => I (j : Int)
theorem flat_mapJ (q : List Nat) : q.flatMap encJ = mapJ q := by
  induction q with
  | nil => simp [mapJ]
  | cons x r ih => rw [List.flatMap_cons, ih]; simp [mapJ]
theorem mapJ_at {q : List Nat} {i x : Nat} (h : q[i]? = some x) : (mapJ q)[0 + i * 1]? = some (I (x : Int)) := by
  rw [Nat.zero_add, Nat.mul_one, List.getElem?_map, h]; rfl
section
variable {P : Program} {n : Nat} {ds : List (Option Tmp)} {R : World → World → Prop} {r : List (Oper × Fl × Bool)} {K : Env → World → Prop} {E : Env} {w : World}
variable {d : Nat} {op : Op} {ty : TypeId} {pos : String} {af : Array Edge} {g : Option (Nat × Bool)} {anc : Bool} {v : Value}
theorem D_storeA {a x : Operand} {T T' b m : Nat} {cs vs : List Value} (hg : guardB ds E g = true) (ha : ev E a = ptr b 0) (hx : ev E x = .agg ⟨vs⟩) (hs : sizeT P T = some m) (hm : vs.length = m) (hl : cs.length = m) (hb : Blk w b cs T')
    (h1 : ∀ v ∈ vs, v.oneCell' = true) (hR : anc = true ∨ ∀ w', Mod (oneB b) w w' → R w w')
    (h : ∀ w1, Mod (oneB b) w w1 → w1.heap.size = w.heap.size → Blk w1 b vs T' → Dw P n ds R r K E w1) : Dw P n ds R ((⟨none, .store T a x, ty, pos, af, g⟩, .x, anc) :: r) K E w :=
  D_store (v := .agg ⟨vs⟩) hg ha hx rfl (by rw [hs, hm]) hb (by omega) h1 hR (fun w1 h2 h3 h4 => h w1 h2 h3 (by rwa [setAt_all (by omega)] at h4))
theorem pv_idxG {x y : Operand} {T e m i : Nat} {cs : List Value} {v : Value} {dd : Option Tmp} (hT : arrElem P T = some (m, e, 1)) (he : isOne P e = true) (hx : ev E x = .agg ⟨cs⟩) (hy : ev E y = I i) (hi : i < m) (hv : cs[i]? = some v) :
    PV P ⟨dd, .index T x y, ty, pos, af, g⟩ E v := fun w => by
  obtain ⟨hu, f, hf, hk⟩ := arrElem_under hT
  have h0 : (0 : Int) ≤ (i : Int) ∧ (i : Int) < (m : Int) := by omega
  have hm : (i : Int) < (m : Int) := h0.2
  simp [execOp, Instr.index, asIntOf, hx, hy, underlying, hu, hm, sizeOf, typeInfo, hf, hk, part, isOne_agg he, hv]
  omega
def Does (S : Nat → Prop) (w : World) (F : Value → World → Prop) : Ending → World → Prop := fun e w' => ∃ v, e = .returned v ∧ Mod S w w' ∧ F v w'
theorem D_callD {S : Nat → Prop} {f : Nat} {az : List Operand} {ats : Array TypeId} {vs : List Value} {F : Value → World → Prop} (hg : guardB ds E g = true) (hf : callB P f = true) (hc : Calls P f vs.toArray w (Does S w F)) (ha : az.map (ev E) = vs)
    (hR : anc = true ∨ ∀ w', Mod S w w' → R w w') (h : ∀ v w1, Mod S w w1 → F v w1 → Dw P n ds R r K (upd E d v) w1) :
    Dw P n ds R ((⟨some d, .call { callee := .value (.func f), args := az.toArray, argTypes := ats }, ty, pos, af, g⟩, .x, anc) :: r) K E w :=
  D_call hg hf ha hc fun e w1 ⟨v, he, hx, hF⟩ => ⟨v, he, fun e => hR.elim (fun h => by rw [h] at e; cases e) (fun h => h _ hx), h v w1 hx hF⟩
theorem append_where {t ty e B : Nat} {i : TypeInfo} {z v' : Value} {w' : World} (ht : P.underlying t = some (.slice e)) (hi : P.info? e = some i) (hz : i.zero = some z) (hzs : z.cells.size = i.size)
    {m0 : Nat} {xs : List Value} (hown : w.ownsRow B e i.size v m0 xs) (a : Addr) (m c : Nat) (news : List Value) (hl : news.length = m * i.size) (hnews : ∀ j u, news[j]? = some u → w.cell? (a.add j) = some u) (h1 : ∀ u ∈ news, u.oneCell' = true)
    (h63 : m0 + m ≤ maxLen) (hbytes : (m0 + m) * i.bytes ≤ 140737488355328) (hr : (Builtin.append_ #[t, t] ty #[v, .slice (some a) m c]).run P w = .ok v' w') :
    v'.ownBlock = v.ownBlock ∨ v'.ownBlock = some w.heap.size := by
  have hsmall : m0 + m ≤ 9223372036854775807 := by simp only [maxLen] at h63; omega
  rcases hown.2 with ⟨rfl, rfl⟩ | ⟨g, cap, cur, rfl, hbg, hg, hnc, hcm, hcs, htake⟩
  · by_cases hm : m = 0
    · subst hm
      have hn : news = [] := List.eq_nil_of_length_eq_zero (by simpa using hl)
      subst hn
      have e : (Builtin.append_ #[t, t] ty #[.slice none 0 0, .slice (some a) 0 c]).run P w = .ok (.slice none 0 0) w := by
        simp [Builtin.append_, run_underlying ht, sizeOf, typeInfo, hi, Builtin.lenOf, Builtin.firstCells, loadCells, loadCellsFrom]
      rw [e] at hr; cases hr; exact .inl rfl
    · have hr2 := run_append_nil (P := P) w t ty e i z ht hi hz a m c news hl hnews (by omega) (by omega) (by have hb := hbytes; simp only [Nat.zero_add] at hb; omega)
      rw [hr2] at hr; cases hr; exact .inr rfl
  · by_cases hroom : m0 + m ≤ cap
    · have hfit : m0 * i.size + news.length ≤ cur.size := by rw [hl, hcs, ← Nat.add_mul]; exact Nat.mul_le_mul_right _ hroom
      have hr2 := run_append_room (P := P) w t ty e i ht hi g m0 cap cur hg a m c news hl hnews h1 hroom hfit
      rw [hr2] at hr; cases hr; exact .inl rfl
    · have holds : ∀ j u, xs[j]? = some u → w.cell? ((⟨g, 0, none⟩ : Addr).add j) = some u := hown.cells (g := g) rfl
      have hr2 := run_append_grow (P := P) w t ty e i z ht hi hz ⟨g, 0, none⟩ m0 cap xs hown.1 holds a m c news hl hnews (by omega) (by omega) (growslice_fits (by omega) hbytes)
      rw [hr2] at hr; cases hr; exact .inr rfl
theorem D_append2 {α : Type} {enc : α → List Value} {s x : Operand} {t e sz by' B : Nat} {vx : Value} {l lx : List α} (hg : guardB ds E g = true) (ht : slElem P t = some (e, sz)) (hE : elemB P e sz by' = true)
    (henc : ∀ x, (enc x).length = sz) (hown : Own enc sz e B w v l) (hax : Arr enc sz w vx lx) (hs : ev E s = v) (hx : ev E x = vx) (h1 : ∀ x ∈ lx, ∀ u ∈ enc x, u.oneCell' = true)
    (hbytes : (l.length + lx.length) * by' ≤ 140737488355328) (hby : 1 ≤ by') (hB : B ≤ w.heap.size) (hR : anc = true ∨ ∀ w', Mod (fun k => v.ownBlock = some k) w w' → R w w')
    (h : ∀ v' w', Own enc sz e B w' v' (l ++ lx) → Mod (fun k => v.ownBlock = some k) w w' → (v'.ownBlock = v.ownBlock ∨ v'.ownBlock = some w.heap.size) → Dw P n ds R r K (upd E d v') w') :
    Dw P n ds R ((⟨some d, .call { callee := .builtin .append, args := #[s, x], argTypes := #[t, t] }, ty, pos, af, g⟩, .x, anc) :: r) K E w := by
  obtain ⟨hu, _⟩ := slElem_under ht
  obtain ⟨i, z, hi, hz, hsize, hby', hzs, hsz⟩ := elemB_spec hE
  have h63 : l.length + lx.length ≤ maxLen := by
    unfold maxLen
    have : (l.length + lx.length) * 1 ≤ (l.length + lx.length) * by' := Nat.mul_le_mul_left _ hby
    omega
  have hRR : ∀ w', Mod (fun k => v.ownBlock = some k) w w' → anc = false → R w w' := fun w' hm e => hR.elim (fun h => by rw [h] at e; cases e) (fun h => h _ hm)
  rcases hax.sl with ⟨rfl, hl0⟩ | ⟨b, o, c, rfl, hc⟩ | ⟨hl0, ⟨b, o, s0⟩, c, rfl⟩
  · -- nothing is appended
    have hlx := List.eq_nil_of_length_eq_zero hl0
    subst hlx
    have hrun : (Builtin.append_ #[t, t] ty #[v, .slice none 0 0]).run P w = .ok v w := by
      rcases hown.sl with ⟨rfl, hn⟩ | ⟨b, o, c, rfl, hn⟩ | ⟨hn, a, c, rfl⟩
      · simp [Builtin.append_, run_underlying hu, sizeOf, typeInfo, hi, Builtin.lenOf, Builtin.firstCells]
      · simp [Builtin.append_, run_underlying hu, sizeOf, typeInfo, hi, Builtin.lenOf, Builtin.firstCells, hn, storeCells]
      · simp [Builtin.append_, run_underlying hu, sizeOf, typeInfo, hi, Builtin.lenOf, Builtin.firstCells, hn, storeCells]
    refine D_xv (w' := w) (v := v) hg ?_ (hRR _ (Mod.refl _ _)) (h v w (by simpa using hown) (Mod.refl _ _) (.inl rfl))
    simp only [execOp, resolve, invoke, builtin, Sem.run_bind, Sem.run_pure, Result.andThen_ok, List.map_toArray, List.map_cons, List.map_nil, hs, hx, hrun]
  · have hnews : ∀ j u, (lx.flatMap enc)[j]? = some u → w.cell? ((⟨b, o, none⟩ : Addr).add j) = some u := (fun j u hj => by
        have := Arr.flat henc hax j u hj
        have ha : (⟨b, o, none⟩ : Addr).add j = ⟨b, o + j, none⟩ := by
          unfold Addr.add
          split
          · rename_i e; simp [e]
          · rfl
        rw [ha]; exact this)
    obtain ⟨v', w', hr, h2, h3, h4⟩ := run_append_own (P := P) w B t ty e i z sz by' hu hi hz hsize hby' hzs hsz v l.length (l.flatMap enc) hown.row ⟨b, o, none⟩ lx.length c (lx.flatMap enc) (flat_len henc lx)
      hnews (flat_one h1) h63 hbytes hB
    have hw := append_where (P := P) hu hi hz (by rw [hzs, hsize]) (by rw [hsize]; exact hown.row) ⟨b, o, none⟩ lx.length c (lx.flatMap enc) (by rw [hsize]; exact flat_len henc lx) hnews (flat_one h1) h63 (by rw [hby']; exact hbytes) hr
    refine D_xv (w' := w') (v := v') hg ?_ (hRR _ ?_) (h v' w' ⟨by rw [List.length_append, List.flatMap_append]; exact h2⟩ ?_ hw)
    · simp only [execOp, resolve, invoke, builtin, Sem.run_bind, Sem.run_pure, Result.andThen_ok, List.map_toArray, List.map_cons, List.map_nil, hs, hx, hr]
    · exact Mod.of_grown h3
    · exact Mod.of_grown h3
  · have hlx := List.eq_nil_of_length_eq_zero hl0
    subst hlx
    obtain ⟨v', w', hr, h2, h3, h4⟩ := run_append_own (P := P) w B t ty e i z sz by' hu hi hz hsize hby' hzs hsz v l.length (l.flatMap enc) hown.row ⟨b, o, s0⟩ 0 c [] (by simp) (fun j u hj => by simp at hj) (fun u hu => by cases hu) h63 hbytes hB
    have hw := append_where (P := P) hu hi hz (by rw [hzs, hsize]) (by rw [hsize]; exact hown.row) ⟨b, o, s0⟩ 0 c [] (by simp) (fun j u hj => by simp at hj) (fun u hu => by cases hu) h63 (by rw [hby']; exact hbytes) hr
    refine D_xv (w' := w') (v := v') hg ?_ (hRR _ (Mod.of_grown h3)) (h v' w' ⟨by rw [List.length_append, List.flatMap_append]; exact h2⟩ (Mod.of_grown h3) hw)
    simp only [execOp, resolve, invoke, builtin, Sem.run_bind, Sem.run_pure, Result.andThen_ok, List.map_toArray, List.map_cons, List.map_nil, hs, hx, hr]
end
end Go.Vc
namespace Go.Vc
open Go.RowKit Go.Maps
open Classical in
noncomputable def rdBy {α : Type} (av : α → Value) (v : Value) : Option (DataW α × List MemPlace) :=
  if h : ∃ a, v = av a then some (.held h.choose, []) else none
theorem rdBy_mk {α : Type} {av : α → Value} (inj : ∀ a b, av a = av b → a = b) (a : α) : rdBy av (av a) = some (.held a, []) := by
  have h : ∃ b, av a = av b := ⟨a, rfl⟩
  unfold rdBy
  rw [dif_pos h, ← inj _ _ h.choose_spec]
theorem rdBy_inv {α : Type} {av : α → Value} {v : Value} {y : DataW α × List MemPlace} (h : rdBy av v = some y) : ∃ a, v = av a ∧ y = (.held a, []) := by
  unfold rdBy at h
  split at h
  · rename_i h1
    cases h
    exact ⟨_, h1.choose_spec, rfl⟩
  · cases h
structure MapK (P : Program) {κ α : Type} (t k e : TypeId) (kv : κ → Value) (av : α → Value) (ok : κ → Prop) : Prop where
  und : P.underlying t = some (.map k e)
  keyed : Keyed P k
  key : ∀ x, ok x → ∃ l, keyOf P k (kv x) = some l
  inv : ∀ v l, keyOf P k v = some l → ∃ x, v = kv x ∧ ok x
  kinj : ∀ x y, kv x = kv y → x = y
  ainj : ∀ a b, av a = av b → a = b
open Classical in
noncomputable def putF {κ α : Type} (f : κ → Option α) (x : κ) (a : α) : κ → Option α := fun y => if y = x then some a else f y
theorem putF_same {κ α : Type} (f : κ → Option α) (x : κ) (a : α) : putF f x a x = some a := by simp [putF]
theorem putF_ne {κ α : Type} (f : κ → Option α) (x : κ) (a : α) {y : κ} (h : y ≠ x) : putF f x a y = f y := by simp [putF, h]
def heldO {α : Type} (o : Option α) (z : DataW α) : DataW α := match o with
  | some a => .held a
  | none => z
def MapAt {κ α : Type} (P : Program) (k : TypeId) (kv : κ → Value) (av : α → Value) (w : World) (b n : Nat) (f : κ → Option α) : Prop :=
  ∃ D : DataW α, w.ownsMap P k (rdBy av) b n D ∧ ∀ x l, keyOf P k (kv x) = some l → ∀ z, D.atKey l z = heldO (f x) z
def RangeAt {κ α : Type} (P : Program) (k : TypeId) (kv : κ → Value) (av : α → Value) (w : World) (b r n : Nat) (f : κ → Option α) (left : κ → Prop) (cnt : Nat) : Prop :=
  ∃ (D : DataW α) (lf : Lit → Bool), w.ranges P k (rdBy av) b r n D lf cnt ∧ (∀ x l, keyOf P k (kv x) = some l → ∀ z, D.atKey l z = heldO (f x) z) ∧ ∀ x l, keyOf P k (kv x) = some l → (lf l = true ↔ left x)
section
variable {P : Program} {κ α : Type} {t k e : TypeId} {kv : κ → Value} {av : α → Value} {ok : κ → Prop} {w w' : World} {b n r cnt : Nat} {f : κ → Option α} {left : κ → Prop}
theorem World.ownsMap.mod {H : Type} {S : Nat → Prop} {R : Value → Option (DataW H × List MemPlace)} {D : DataW H} (h : w.ownsMap P k R b n D) (m : Mod S w w') (hb : ¬ S b) : w'.ownsMap P k R b n D := by
  have hlt := h.lt
  obtain ⟨es, clock, h1, F, hs, hD⟩ := h
  exact ⟨es, clock, (m.block b hlt hb).trans h1, F, hs, hD⟩
theorem MapAt.mod {S : Nat → Prop} (h : MapAt P k kv av w b n f) (m : Mod S w w') (hb : ¬ S b) : MapAt P k kv av w' b n f := by
  obtain ⟨D, h1, h2⟩ := h
  exact ⟨D, World.ownsMap.mod h1 m hb, h2⟩
theorem MapAt.ext (h : MapAt P k kv av w b n f) (m : Ext w w') : MapAt P k kv av w' b n f := h.mod m (fun h => h)
theorem MapAt.lt (h : MapAt P k kv av w b n f) : b < w.heap.size := by
  obtain ⟨D, h1, _⟩ := h
  exact h1.lt
theorem MapAt.heap (h : MapAt P k kv av w b n f) : ∃ es c, w.heap[b]? = some (.map es c) := by
  obtain ⟨D, ⟨es, c, h1, _⟩, _⟩ := h
  exact ⟨es, c, h1⟩
theorem MapAt.ne_blk (h : MapAt P k kv av w b n f) {b' : Nat} {cs : List Value} {T : TypeId} (hb : Blk w b' cs T) : b' ≠ b := by
  rintro rfl
  obtain ⟨es, c, h1⟩ := h.heap
  unfold Blk at hb
  rw [hb] at h1
  cases h1
theorem MapAt.ne_own (h : MapAt P k kv av w b n f) {β : Type} {enc : β → List Value} {sz T B : Nat} {v : Value} {l : List β} (ho : Own enc sz T B w v l) : v.ownBlock ≠ some b := fun e => by
  obtain ⟨cs, h1⟩ := ho.heap e
  obtain ⟨es, c, h2⟩ := h.heap
  rw [h1] at h2
  cases h2
theorem RangeAt.congr {left' : κ → Prop} (h : RangeAt P k kv av w b r n f left cnt) (hl : ∀ x, left x ↔ left' x) : RangeAt P k kv av w b r n f left' cnt := by
  obtain ⟨D, lf, h0, h2, h3⟩ := h
  exact ⟨D, lf, h0, h2, fun x l hx => (h3 x l hx).trans (hl x)⟩
theorem MapAt.made (M : MapK P t k e kv av ok) : MapAt P k kv av (w.alloc (.map #[] 0)) w.heap.size 0 (fun _ => none) :=
  ⟨.map [], World.ownsMap_made w P k _, fun x l hl z => rfl⟩
theorem lit_ne (M : MapK P t k e kv av ok) {x y : κ} {lx ly : Lit} (hx : keyOf P k (kv x) = some lx) (hy : keyOf P k (kv y) = some ly) (h : y ≠ x) : ly ≠ lx := fun e => by
  subst e
  exact h (M.kinj _ _ (M.keyed.inj hy hx))
theorem MapAt.update (M : MapK P t k e kv av ok) (h : MapAt P k kv av w b n f) (hn : n < maxLen) {x : κ} (hx : ok x) (a : α) :
    ∃ w', (Instr.mapUpdate t (.map (some b)) (kv x) (av a)).run P w = .ok () w' ∧ MapAt P k kv av w' b (n + 1) (putF f x a) ∧ Mod (oneB b) w w' ∧ w'.heap.size = w.heap.size := by
  obtain ⟨D, h1, h2⟩ := h
  obtain ⟨l, hl⟩ := M.key x hx
  obtain ⟨w', hr, ho, ht⟩ := h1.store M.keyed M.und hn hl (rdBy_mk M.ainj a)
  refine ⟨w', hr, ⟨_, ho, fun y ly hy z => ?_⟩, ?_, ?_⟩
  · by_cases e : y = x
    · subst e
      rw [hl] at hy
      cases hy
      rw [putF_same, Maps.atKey_put_same h1.isMap (M.keyed.key hl)]
      rfl
    · rw [putF_ne _ _ _ e, Maps.atKey_put_other (lit_ne M hl hy e), h2 y ly hy]
  · have hg := ht.grown
    exact (Mod.of_grown hg).mono (fun i hi _ => (Option.some.inj hi).symm)
  · obtain ⟨es, c, es', c', _, e⟩ := ht
    rw [e]; simp [ChangeMaps.setBlock]
theorem MapAt.look (M : MapK P t k e kv av ok) (h : MapAt P k kv av w b n f) {z0 : α} (hz : (zeroValue e).run P w = .ok (av z0) w) {x : κ} (hx : ok x) :
    (Instr.lookup t (.map (some b)) (kv x) false).run P w = .ok (av ((f x).getD z0)) w := by
  obtain ⟨D, h1, h2⟩ := h
  obtain ⟨l, hl⟩ := M.key x hx
  obtain ⟨v, ps, hr, hv⟩ := h1.lookup M.keyed M.und hz (rdBy_mk M.ainj z0) hl
  rw [h2 x l hl] at hv
  obtain ⟨a, rfl, e⟩ := rdBy_inv hv
  rw [hr]
  cases hf : f x with
  | none => rw [hf] at e; simp only [heldO, Prod.mk.injEq, DataW.held.injEq] at e; rw [e.1]; rfl
  | some c => rw [hf] at e; simp only [heldO, Prod.mk.injEq, DataW.held.injEq] at e; rw [e.1]; rfl
theorem MapAt.range (M : MapK P t k e kv av ok) (h : MapAt P k kv av w b n f) :
    ∃ w' cnt, (Instr.range t (.map (some b))).run P w = .ok (ptr w.heap.size 0) w' ∧ RangeAt P k kv av w' b w.heap.size n f (fun x => (f x).isSome = true) cnt ∧ cnt ≤ n ∧ Ext w w' ∧ w'.heap.size = w.heap.size + 1 := by
  obtain ⟨D, h1, h2⟩ := h
  obtain ⟨w', hr, hrg, hg, hs⟩ := h1.range M.keyed M.und
  refine ⟨w', _, hr, ⟨D, _, hrg, h2, fun x l hl => ?_⟩, h1.size_le, Ext.of_grown hg, hs⟩
  cases hf : f x with
  | none =>
    have hh : Maps.has D l = false := Maps.has_false_of_atKey (fun z => by rw [h2 x l hl, hf]; rfl)
    rw [hh]; simp [hf]
  | some c =>
    have hh : Maps.has D l = true := Maps.has_true_of_atKey (y := .held c) (fun z => by rw [h2 x l hl, hf]; rfl)
    rw [hh]; simp [hf]
theorem RangeAt.next (M : MapK P t k e kv av ok) (h : RangeAt P k kv av w b r n f left cnt) (ty : TypeId) :
    ((∀ x, ok x → ¬ left x) ∧ (Instr.next (ptr r 0) false ty).run P w = .ok (.tuple #[.bool false]) w) ∨
    ∃ x a w' cnt', ok x ∧ left x ∧ f x = some a ∧ (Instr.next (ptr r 0) false ty).run P w = .ok (.tuple #[.bool true, kv x, av a]) w' ∧
      RangeAt P k kv av w' b r n f (fun y => left y ∧ y ≠ x) cnt' ∧ cnt' < cnt ∧ Mod (oneB r) w w' ∧ w'.heap.size = w.heap.size ∧ (Instr.entry (ptr r 0)).run P w' = .ok (.tuple #[kv x, av a]) w' := by
  obtain ⟨D, lf, h1, h2, h3⟩ := h
  rcases h1.next M.keyed ty with ⟨_, hl, hr⟩ | ⟨key, v, kl, y, w', cnt', hk, hlk, hv, hat, hr, hrg, hlt, hg, hs, hen⟩
  · refine .inl ⟨fun x hx hlx => ?_, hr⟩
    obtain ⟨l, hl'⟩ := M.key x hx
    have := (h3 x l hl').2 hlx
    rw [hl l] at this
    cases this
  · obtain ⟨x, rfl, hx⟩ := M.inv key kl hk
    obtain ⟨a, rfl, e⟩ := rdBy_inv hv
    refine .inr ⟨x, a, w', cnt', hx, (h3 x kl hk).1 hlk, ?_, hr, ⟨D, _, hrg, h2, fun y' ly hy => ?_⟩, hlt, (Mod.of_grown hg).mono (fun i hi _ => (Option.some.inj hi).symm), hs, hen⟩
    · have h4 := hat .nil
      rw [h2 x kl hk, e] at h4
      cases hf : f x with
      | none => rw [hf] at h4; simp [heldO] at h4
      | some c => rw [hf] at h4; simp only [heldO, DataW.held.injEq] at h4; rw [h4]
    · rw [Bool.and_eq_true, h3 y' ly hy, Bool.not_eq_true']
      refine and_congr_right fun _ => ?_
      by_cases e' : y' = x
      · subst e'
        rw [hk] at hy
        cases hy
        rw [WideAt.sameKey_self (M.keyed.key hk)]
        simp
      · have := lit_ne M hk hy e'
        have h5 : ly.sameKey kl = false := by
          cases hh : ly.sameKey kl
          · rfl
          · exact absurd (WideAt.sameKey_eq hh) this
        simp [h5, e']
end
section
variable {P : Program} {N : Nat} {ds : List (Option Tmp)} {R : World → World → Prop} {rs : List (Oper × Fl × Bool)} {K : Env → World → Prop} {E : Env} {w : World}
variable {d : Nat} {op : Op} {ty : TypeId} {pos : String} {af : Array Edge} {g : Option (Nat × Bool)} {anc : Bool} {v : Value}
variable {κ α : Type} {t k e : TypeId} {kv : κ → Value} {av : α → Value} {ok : κ → Prop} {b n r cnt : Nat} {f : κ → Option α} {left : κ → Prop}
theorem D_makeMap (M : MapK P t k e kv av ok) (hg : guardB ds E g = true) (hR : RX R anc)
    (h : ∀ b w1, b = w.heap.size → Ext w w1 → MapAt P k kv av w1 b 0 (fun _ => none) → Dw P N ds R rs K (upd E d (.map (some b))) w1) : Dw P N ds R ((⟨some d, .makeMap t none, ty, pos, af, g⟩, .x, anc) :: rs) K E w := by
  refine D_xv (v := .map (some w.heap.size)) (w' := w.alloc (.map #[] 0)) hg ?_ (hR.use (Ext.alloc _ _)) (h _ _ rfl (Ext.alloc _ _) (MapAt.made M))
  have e1 : (Instr.makeMap t none).run P w = .ok (.map (some w.heap.size)) (w.alloc (.map #[] 0)) := run_makeMap t w
  simp [execOp, e1]
theorem D_mapUpdate {m x y : Operand} (M : MapK P t k e kv av ok) {kx : κ} {a : α} (hg : guardB ds E g = true) (hm : ev E m = .map (some b)) (hx : ev E x = kv kx) (hy : ev E y = av a) (hmap : MapAt P k kv av w b n f) (hok : ok kx) (hn : n < maxLen)
    (hR : anc = true ∨ ∀ w', Mod (oneB b) w w' → R w w') (h : ∀ w1, Mod (oneB b) w w1 → w1.heap.size = w.heap.size → MapAt P k kv av w1 b (n + 1) (putF f kx a) → Dw P N ds R rs K E w1) :
    Dw P N ds R ((⟨none, .mapUpdate t m x y, ty, pos, af, g⟩, .x, anc) :: rs) K E w := by
  obtain ⟨w', hr, h1, h2, h3⟩ := hmap.update M hn hok a
  refine D_xs (w' := w') hg ?_ (fun e => hR.elim (fun h => by rw [h] at e; cases e) (fun h => h _ h2)) (h _ h2 h3 h1)
  simp [execOp, hm, hx, hy, hr]
theorem lv_look {m x : Operand} (M : MapK P t k e kv av ok) {kx : κ} {z0 : α} {dd : Option Tmp} (hm : ev E m = .map (some b)) (hx : ev E x = kv kx) (hz : (zeroValue e).run P w = .ok (av z0) w) (hmap : MapAt P k kv av w b n f) (hok : ok kx) :
    LV P ⟨dd, .lookup t m x false, ty, pos, af, g⟩ E w (av ((f kx).getD z0)) := by
  unfold LV
  have := hmap.look M hz hok
  simp [execOp, hm, hx, this]
theorem D_range {m : Operand} (M : MapK P t k e kv av ok) (hg : guardB ds E g = true) (hm : ev E m = .map (some b)) (hmap : MapAt P k kv av w b n f) (hR : RX R anc)
    (h : ∀ r w1 cnt, r = w.heap.size → Ext w w1 → cnt ≤ n → RangeAt P k kv av w1 b r n f (fun x => (f x).isSome = true) cnt → Dw P N ds R rs K (upd E d (ptr r 0)) w1) :
    Dw P N ds R ((⟨some d, .range t m, ty, pos, af, g⟩, .x, anc) :: rs) K E w := by
  obtain ⟨w', cnt, hr, h1, h2, h3, h4⟩ := hmap.range M
  refine D_xv (w' := w') (v := ptr w.heap.size 0) hg ?_ (hR.use h3) (h _ _ _ rfl h3 h2 h1)
  simp [execOp, hm, hr]
theorem D_next {it : Operand} (M : MapK P t k e kv av ok) (hg : guardB ds E g = true) (hit : ev E it = ptr r 0) (hrg : RangeAt P k kv av w b r n f left cnt) (hR : anc = true ∨ ∀ w', Mod (oneB r) w w' → R w w')
    (h0 : (∀ x, ok x → ¬ left x) → Dw P N ds R rs K (upd E d (.tuple #[.bool false])) w)
    (h : ∀ x a w1 cnt', ok x → left x → f x = some a → Mod (oneB r) w w1 → w1.heap.size = w.heap.size → cnt' < cnt → RangeAt P k kv av w1 b r n f (fun y => left y ∧ y ≠ x) cnt' → (Instr.entry (ptr r 0)).run P w1 = .ok (.tuple #[kv x, av a]) w1 →
      Dw P N ds R rs K (upd E d (.tuple #[.bool true, kv x, av a])) w1) :
    Dw P N ds R ((⟨some d, .next it false, ty, pos, af, g⟩, .x, anc) :: rs) K E w := by
  rcases hrg.next M ty with ⟨hl, hr⟩ | ⟨x, a, w', cnt', hx, hlx, hfx, hr, h1, hlt, h2, hs, hen⟩
  · refine D_xv (w' := w) (v := .tuple #[.bool false]) hg ?_ (fun e => hR.elim (fun h => by rw [h] at e; cases e) (fun h => h _ (Mod.refl _ _))) (h0 hl)
    simp [execOp, hit, hr]
  · refine D_xv (w' := w') (v := .tuple #[.bool true, kv x, av a]) hg ?_ (fun e => hR.elim (fun h => by rw [h] at e; cases e) (fun h => h _ h2)) (h x a w' cnt' hx hlx hfx h2 hs hlt h1 hen)
    simp [execOp, hit, hr]
theorem lv_entry {it : Operand} {dd : Option Tmp} {u1 u2 : Value} (hit : ev E it = v) (hen : (Instr.entry v).run P w = .ok (.tuple #[u1, u2]) w) : LV P ⟨dd, .entry it, ty, pos, af, g⟩ E w (.tuple #[u1, u2]) := by
  unfold LV
  simp [execOp, hit, hen]
end
theorem Arr.base_lt {α : Type} {enc : α → List Value} {sz : Nat} {w : World} {v : Value} {l : List α} (h : Arr enc sz w v l) (hsz : 0 < sz) (hl : l ≠ []) : (base v).1 < w.heap.size := by
  cases l with
  | nil => exact absurd rfl hl
  | cons x r => exact h.blk hsz (x := x) rfl
theorem S_inj (x y : Str) (h : S x = S y) : x = y := by
  simpa [S] using h
theorem mapS {P : Program} {α : Type} {t k e : TypeId} {av : α → Value} (hu : P.underlying t = some (.map k e)) (hk : P.underlying k = some .string) (ha : ∀ a b, av a = av b → a = b) : MapK P t k e S av (fun s => s.length ≤ maxLen) :=
  ⟨hu, string_keyed hk, fun x hx => ⟨_, WideMaps.keyOf_string_mk hk (s := ⟨⟨x⟩⟩) hx⟩, fun v l hl => by
    simp only [keyOf, hk] at hl
    cases v <;> simp [mapKey, hk] at hl
    rename_i s
    obtain ⟨h1, rfl⟩ := hl
    exact ⟨s.data.toList, rfl, h1⟩, S_inj, ha⟩
section
variable {P : Program} {N : Nat} {ds : List (Option Tmp)} {R : World → World → Prop} {rs : List (Oper × Fl × Bool)} {K : Env → World → Prop} {E : Env} {w : World}
variable {d : Nat} {op : Op} {ty : TypeId} {pos : String} {af : Array Edge} {g : Option (Nat × Bool)} {anc : Bool} {v : Value}
theorem bytes_at (w : World) (e : TypeId) (s : Str) (c : Nat) : Arr encB 1 (Lib.bytesWorld w e ⟨⟨s⟩⟩) (.slice (some ⟨w.heap.size, 0, none⟩) s.length (max c s.length)) s := by
  refine ⟨.inr (.inl ⟨_, 0, _, by rw [List.length_map], by rw [List.length_map]; omega⟩), fun i cs hi => ?_⟩
  rw [List.getElem?_map] at hi
  obtain ⟨x, hx, rfl⟩ := Option.map_eq_some_iff.1 hi
  refine ⟨rfl, fun j u hj => ?_⟩
  have hlt := (List.getElem?_eq_some_iff.1 hx).1
  cases j with
  | succ j => simp at hj
  | zero =>
    have e2 : u = .int .u8 (x.toNat : Int) := by simpa using hj.symm
    rw [e2]
    have hc := Lib.bytesWorld_cell w e ⟨⟨s⟩⟩ i hlt
    have e3 : (⟨⟨s⟩⟩ : ByteArray).data.toList.getD i 0 = x := by simp [List.getD, hx]
    rw [e3] at hc
    simpa [base] using hc
theorem D_s2b {x : Operand} {T U e : Nat} {s : Str} (hg : guardB ds E g = true) (hT : isStr P T = true) (hU : P.underlying U = some (.slice e)) (he : P.underlying e = some (.int .u8)) (hx : ev E x = S s) (hR : RX R anc)
    (h : ∀ b c w1, b = w.heap.size → Ext w w1 → Arr encB 1 w1 (.slice (some ⟨b, 0, none⟩) s.length c) s → Dw P N ds R rs K (upd E d (.slice (some ⟨b, 0, none⟩) s.length c)) w1) : Dw P N ds R ((⟨some d, .convert T U x, ty, pos, af, g⟩, .x, anc) :: rs) K E w := by
  have hT' : P.underlying T = some .string := by
    unfold isStr at hT; split at hT <;> first | assumption | cases hT
  have hr := Lib.run_convert_string_bytes w T U e ⟨⟨s⟩⟩ hT' hU he
  have hx' : Ext w (Lib.bytesWorld w e ⟨⟨s⟩⟩) := ⟨rfl, rfl, rfl, by rw [Lib.bytesWorld_size]; omega, fun k hk _ => Lib.bytesWorld_at_old w e _ k hk⟩
  have hcap : s.length ≤ grownCap w s.length 0 e := by
    exact Nat.le_add_right _ _
  have ha := bytes_at w e s (grownCap w s.length 0 e)
  rw [Nat.max_eq_left hcap] at ha
  refine D_xv (v := .slice (some ⟨w.heap.size, 0, none⟩) s.length (grownCap w s.length 0 e)) (w' := Lib.bytesWorld w e ⟨⟨s⟩⟩) hg ?_ (hR.use hx') (h _ _ _ rfl hx' ha)
  have hr' : (convert T U (S s)).run P w = .ok (.slice (some ⟨w.heap.size, 0, none⟩) s.length (grownCap w s.length 0 e)) (Lib.bytesWorld w e ⟨⟨s⟩⟩) := hr
  simp only [execOp, hx, Sem.run_bind, hr', Result.andThen_ok, Sem.run_pure, updO]
theorem flat8 (l : Str) : l.flatMap encB = l.map fun c => Value.int .u8 c.toNat := by
  induction l with
  | nil => rfl
  | cons x r ih => rw [List.flatMap_cons, ih]; rfl
theorem Arr.row8 {v : Value} {l : Str} (h : Arr encB 1 w v l) : Row w (base v).1 (base v).2 (l.map fun c => Value.int .u8 c.toNat) := fun i u hi => by
  rw [← flat8] at hi
  exact Arr.flat (enc := encB) (sz := 1) (fun _ => rfl) h i u hi
end
@[reducible] def A8 (l : Str) : Value := .agg ⟨l.map fun c => Value.int .u8 c.toNat⟩
end Go.Vc
namespace Go.Vc
open Go.RowKit
@[reducible] def b8 (c : UInt8) : Value := .int .u8 c.toNat
theorem wrap8 (n : Int) : IntKind.u8.wrap n = n % 256 := by simp [IntKind.wrap, IntKind.bits, IntKind.signed]
theorem u8_int_eq {a b : UInt8} : ((a.toNat : Int) = b.toNat) ↔ a = b := ⟨fun h => UInt8.toNat_inj.1 (by omega), fun h => by rw [h]⟩
theorem u8_int_lt {a b : UInt8} : ((a.toNat : Int) < b.toNat) ↔ a < b := by rw [UInt8.lt_iff_toNat_lt]; omega
section
variable {P : Program} {E : Env} {d : Option Tmp} {ty : TypeId} {pos : String} {af : Array Edge} {g : Option (Nat × Bool)} {w : World} {T U : TypeId} {x y : Operand}
theorem pv_eqlB {a b : UInt8} (hx : ev E x = b8 a) (hy : ev E y = b8 b) : PV P ⟨d, .binOp .eql T x y U, ty, pos, af, g⟩ E (.bool (decide (a = b))) := by
  have := pv_eql (P := P) (d := d) (ty := ty) (pos := pos) (af := af) (g := g) (T := T) (U := U) hx hy
  rwa [show decide ((a.toNat : Int) = b.toNat) = decide (a = b) from decide_eq_decide.2 u8_int_eq] at this
theorem pv_lssB {a b : UInt8} (hx : ev E x = b8 a) (hy : ev E y = b8 b) : PV P ⟨d, .binOp .lss T x y U, ty, pos, af, g⟩ E (.bool (decide (a < b))) := by
  have := pv_lss (P := P) (d := d) (ty := ty) (pos := pos) (af := af) (g := g) (T := T) (U := U) hx hy
  rwa [show decide ((a.toNat : Int) < b.toNat) = decide (a < b) from decide_eq_decide.2 u8_int_lt] at this
theorem ofInt8 (a : UInt8) : BitVec.ofInt 8 (a.toNat : Int) = a.toBitVec := by
  apply BitVec.eq_of_toNat_eq
  rw [BitVec.toNat_ofInt]
  have := a.toNat_lt
  show ((a.toNat : Int) % ((2 ^ 8 : Nat) : Int)).toNat = a.toNat
  omega
theorem pv_andB {a b : UInt8} (hx : ev E x = b8 a) (hy : ev E y = b8 b) : PV P ⟨d, .binOp .and T x y U, ty, pos, af, g⟩ E (b8 (a &&& b)) := by
  have := pv_bits (P := P) (dd := d) (ty := ty) (pos := pos) (af := af) (g := g) (T := T) (U := U) (op := .and) (.inl rfl) hx hy
  rwa [show bitsI .and .u8 (a.toNat : Int) b.toNat = ((a &&& b).toNat : Int) by
    show IntKind.u8.wrap ((BitVec.ofInt 8 (a.toNat : Int) &&& BitVec.ofInt 8 (b.toNat : Int)).toNat : Int) = _
    rw [ofInt8, ofInt8, wrap8]
    have := (a &&& b).toNat_lt
    show (((a &&& b).toNat : Int)) % 256 = _
    omega] at this
theorem pv_orB {a b : UInt8} (hx : ev E x = b8 a) (hy : ev E y = b8 b) : PV P ⟨d, .binOp .or T x y U, ty, pos, af, g⟩ E (b8 (a ||| b)) := by
  have := pv_bits (P := P) (dd := d) (ty := ty) (pos := pos) (af := af) (g := g) (T := T) (U := U) (op := .or) (.inr (.inl rfl)) hx hy
  rwa [show bitsI .or .u8 (a.toNat : Int) b.toNat = ((a ||| b).toNat : Int) by
    show IntKind.u8.wrap ((BitVec.ofInt 8 (a.toNat : Int) ||| BitVec.ofInt 8 (b.toNat : Int)).toNat : Int) = _
    rw [ofInt8, ofInt8, wrap8]
    have := (a ||| b).toNat_lt
    show (((a ||| b).toNat : Int)) % 256 = _
    omega] at this
theorem pv_convB {a : UInt8} (hx : ev E x = b8 a) (hT : (P.underlying T).isSome = true) (hU : intK P U = some .i64) : PV P ⟨d, .convert T U x, ty, pos, af, g⟩ E (I a.toNat) := by
  have := pv_conv (P := P) (d := d) (ty := ty) (pos := pos) (af := af) (g := g) hx hT hU
  rwa [wrap_i64 (by have := a.toNat_lt; unfold inI64; omega)] at this
theorem pv_toB {n : Nat} {k : IntKind} (hx : ev E x = .int k n) (hT : (P.underlying T).isSome = true) (hU : intK P U = some .u8) : PV P ⟨d, .convert T U x, ty, pos, af, g⟩ E (b8 (UInt8.ofNat n)) := by
  have := pv_conv (P := P) (d := d) (ty := ty) (pos := pos) (af := af) (g := g) hx hT hU
  rwa [show IntKind.u8.wrap (n : Int) = ((UInt8.ofNat n).toNat : Int) by rw [wrap8]; simp] at this
theorem pv_idxSB {x y : Operand} {a : Str} {i : Nat} {c : UInt8} (hT : isStr P T = true) (hx : ev E x = S a) (hy : ev E y = I i) (hi : a[i]? = some c) : PV P ⟨d, .index T x y, ty, pos, af, g⟩ E (b8 c) := pv_idxS hT hx hy hi
end
section
variable {P : Program} {n : Nat} {ds : List (Option Tmp)} {R : World → World → Prop} {r : List (Oper × Fl × Bool)} {K : Env → World → Prop} {E : Env} {w : World}
variable {d : Nat} {op : Op} {ty : TypeId} {pos : String} {af : Array Edge} {g : Option (Nat × Bool)} {anc : Bool} {v v' : Value}
theorem dm {x : Operand} (h : Dw P n ds R r K (upd E d v) w) (hg : guardB ds E g = true := by rfl) (hx : ev E x = v := by conv => lhs; whnf) : Dw P n ds R ((⟨some d, .move x, ty, pos, af, g⟩, .p, anc) :: r) K E w := D_mv hg hx h
theorem da {x : Operand} (h : Dw P n ds R r K (upd E d v) w) (hg : guardB ds E g = true := by rfl) (hx : ev E x = v := by conv => lhs; whnf) : Dw P n ds R ((⟨some d, .assign x, ty, pos, af, g⟩, .p, anc) :: r) K E w := D_as hg hx h
theorem dk {f : Fl} (h : Dw P n ds R r K (upd E d undef) w) (hg : guardB ds E g = false := by rfl) : Dw P n ds R ((⟨some d, op, ty, pos, af, g⟩, f, anc) :: r) K E w := D_skip hg h
theorem dp (hv : PV P ⟨some d, op, ty, pos, af, g⟩ E v) (h : Dw P n ds R r K (upd E d v) w) (hg : guardB ds E g = true := by rfl) : Dw P n ds R ((⟨some d, op, ty, pos, af, g⟩, .p, anc) :: r) K E w := D_p hg hv h
theorem dq (hv : LV P ⟨some d, op, ty, pos, af, g⟩ E w v) (h : Dw P n ds (fun a b => a = b) r K (upd E d v) w) (hg : guardB ds E g = true := by rfl) : Dw P n ds (fun a b => a = b) ((⟨some d, op, ty, pos, af, g⟩, .l, anc) :: r) K E w := D_lq hg hv h
theorem dn {x : Operand} {T : TypeId} {b : Bool} (h : Dw P n ds R r K (upd E d v) w) (hg : guardB ds E g = true := by rfl) (hx : ev E x = .bool b := by rfl) (hn : Value.bool (!b) = v := by conv => lhs; whnf) : Dw P n ds R ((⟨some d, .unOp .not T x, ty, pos, af, g⟩, .p, anc) :: r) K E w := D_pe hg (pv_not hx) hn h
theorem dk' {c a b : Operand} {t : Bool} {x y : Value} (h : Dw P n ds R r K (upd E d v) w) (hg : guardB ds E g = true := by rfl) (hc : ev E c = .bool t := by rfl) (ha : ev E a = x := by rfl) (hb : ev E b = y := by rfl) (hn : (if t then x else y) = v := by conv => lhs; whnf) : Dw P n ds R ((⟨some d, .pick c a b, ty, pos, af, g⟩, .p, anc) :: r) K E w := D_pe hg (pv_pick hc ha hb) hn h
def flOf : Op → Fl
  | .load .. | .lookup .. | .entry .. => .l
  | .move .. | .assign .. | .pick .. | .nilCheck .. | .binOp .. | .unOp .. | .convert .. | .slice .. | .fieldAddr .. | .field .. | .indexAddr .. | .index .. | .extract .. | .build .. | .makeInterface .. | .makeFunc .. | .sliceToArrayPointer .. => .p
  | .call c => (match c.callee with | .builtin .len | .builtin .cap | .builtin .min | .builtin .max => .p | _ => .x)
  | _ => .x
def flsOf : List Oper → List Fl
  | [] => []
  | o :: r => flOf o.op :: flsOf r
theorem flsOf_len : ∀ l : List Oper, (flsOf l).length = l.length
  | [] => rfl
  | o :: r => by simp [flsOf, flsOf_len r]
theorem wr {id : Nat} {l : List Oper} {Q : Exit → Env → World → Prop} (h : Dw P n (l.map (·.dst)) (fun a b => a = b) (mkp l (flsOf l)) (fun E w => Q .normal E w) E w) : W P n (.region id l.toArray false) Q E w :=
  W_reg (flsOf l) (by rw [flsOf_len]; simp) h
theorem ro {fn : Func} {t : Nat} {R : Ending → World → Prop} (h : R (.returned v) w) (hr : fn.results = #[.tmp t] := by rfl) (ht : Nat.blt t n = true := by rfl) (hv : E t = v := by conv => lhs; whnf) : retPost P fn n R .ret E w := ret_one hr ht hv h
theorem rt {fn : Func} {t s : Nat} {u : Value} {R : Ending → World → Prop} (h : R (.returned (.tuple #[v, u])) w) (hr : fn.results = #[.tmp t, .tmp s] := by rfl) (ht : Nat.blt t n = true := by rfl) (hs : Nat.blt s n = true := by rfl) (hv : E t = v := by conv => lhs; whnf) (hu : E s = u := by conv => lhs; whnf) : retPost P fn n R .ret E w := ret_two hr ht hs hv hu h
theorem cw {f : FuncId} {fn : Func} {c : Code} {az : List Value} {R : Ending → World → Prop} (hf : P.funcs[f]? = some fn) (h : W P n c (retPost P fn n R) (args0 az 0 (fun _ => undef)) w) (hb : fn.body = some c := by rfl) (hn : fn.ntmps = n := by rfl) (hle : Nat.ble az.length n = true := by rfl) (ok : okCode n c = true := by kernel_rfl) : Calls P f az.toArray w R := calls_W hf hb hn hle ok h
theorem ws {x y : Code} {Q : Exit → Env → World → Prop} (h : ∀ K : Env → World → Prop, (∀ E w, W P n y Q E w → K E w) → W P n x (then' K Q) E w) : W P n (.seq x y) Q E w := W_seq h
theorem wi {Q : Exit → Env → World → Prop} {c : Operand} {x y : Code} {p : Prop} [Decidable p] (ht : p → W P n x Q E w) (hf : ¬ p → W P n y Q E w) (hc : ev E c = .bool (decide p) := by rfl) : W P n (.cond c x y) Q E w := W_if hc ht hf
theorem wc {Q : Exit → Env → World → Prop} {c : Operand} {x y : Code} {t : Bool} (ht : t = true → W P n x Q E w) (hf : t = false → W P n y Q E w) (hc : ev E c = .bool t := by rfl) : W P n (.cond c x y) Q E w := W_cond hc ht hf
theorem di {x y : Operand} {T m i : Nat} (e k : Nat) (hv : isSl v m) (hy : ev E y = I i) (hi : i < m) (h : Dw P n ds R r K (upd E d (ptr (base v).1 ((base v).2 + i * k))) w) (hg : guardB ds E g = true := by rfl) (hx : ev E x = v := by rfl) (hT : slElem P T = some (e, k) := by kernel_rfl) : Dw P n ds R ((⟨some d, .indexAddr T x y, ty, pos, af, g⟩, .p, anc) :: r) K E w := D_p hg (pv_idxA hT hv hx hy hi) h
theorem dv {x : Operand} {T m : Nat} (e k : Nat) (hv : isSl v m) (h : Dw P n ds R r K (upd E d (I m)) w) (hg : guardB ds E g = true := by rfl) (hx : ev E x = v := by rfl) (hT : slElem P T = some (e, k) := by kernel_rfl) : Dw P n ds R ((⟨some d, .call { callee := .builtin .len, args := #[x], argTypes := #[T] }, ty, pos, af, g⟩, .p, anc) :: r) K E w := D_p hg (pv_lenV hT hv hx) h
theorem dt {x : Operand} {T : TypeId} {a : Str} (hx : ev E x = S a) (h : Dw P n ds R r K (upd E d (I a.length)) w) (hg : guardB ds E g = true := by rfl) (hT : isStr P T = true := by kernel_rfl) : Dw P n ds R ((⟨some d, .call { callee := .builtin .len, args := #[x], argTypes := #[T] }, ty, pos, af, g⟩, .p, anc) :: r) K E w := D_p hg (pv_lenS hT hx) h
theorem dx {x : Operand} {i : Nat} {vs : List Value} (hx : ev E x = .tuple ⟨vs⟩) (hv : vs[i]? = some v) (h : Dw P n ds R r K (upd E d v) w) (hg : guardB ds E g = true := by rfl) : Dw P n ds R ((⟨some d, .extract x i, ty, pos, af, g⟩, .p, anc) :: r) K E w := D_p hg (pv_ext hx hv) h
theorem dz {x : Operand} {a : Addr} (hx : ev E x = .pointer (some a)) (h : Dw P n ds R r K (upd E d (.pointer (some a))) w) (hg : guardB ds E g = true := by rfl) : Dw P n ds R ((⟨some d, .nilCheck x, ty, pos, af, g⟩, .p, anc) :: r) K E w := D_p hg (pv_nilP hx) h
theorem cP {f : Nat} {az : List Operand} {ats : Array TypeId} {vs : List Value} (hc : Calls P f vs.toArray w (Pure w v)) (hR : RX R anc) (h : ∀ w1, Ext w w1 → Dw P n ds R r K (upd E d v) w1) (hg : guardB ds E g = true := by rfl) (hf : callB P f = true := by kernel_rfl) (ha : az.map (ev E) = vs := by rfl) : Dw P n ds R ((⟨some d, .call { callee := .value (.func f), args := az.toArray, argTypes := ats }, ty, pos, af, g⟩, .x, anc) :: r) K E w := D_callP hg hf hc ha hR h
theorem cG {f : Nat} {az : List Operand} {ats : Array TypeId} {vs : List Value} {F : Value → World → Prop} (hc : Calls P f vs.toArray w (Gives w F)) (hR : RX R anc) (h : ∀ v w1, Ext w w1 → F v w1 → Dw P n ds R r K (upd E d v) w1) (hg : guardB ds E g = true := by rfl) (hf : callB P f = true := by kernel_rfl) (ha : az.map (ev E) = vs := by rfl) : Dw P n ds R ((⟨some d, .call { callee := .value (.func f), args := az.toArray, argTypes := ats }, ty, pos, af, g⟩, .x, anc) :: r) K E w := D_callG hg hf hc ha hR h
theorem cD {S : Nat → Prop} {f : Nat} {az : List Operand} {ats : Array TypeId} {vs : List Value} {F : Value → World → Prop} (hc : Calls P f vs.toArray w (Does S w F)) (hR : anc = true ∨ ∀ w', Mod S w w' → R w w') (h : ∀ v w1, Mod S w w1 → F v w1 → Dw P n ds R r K (upd E d v) w1) (hg : guardB ds E g = true := by rfl) (hf : callB P f = true := by kernel_rfl) (ha : az.map (ev E) = vs := by rfl) : Dw P n ds R ((⟨some d, .call { callee := .value (.func f), args := az.toArray, argTypes := ats }, ty, pos, af, g⟩, .x, anc) :: r) K E w := D_callD hg hf hc ha hR h
theorem de {K1 : Env → World → Prop} {y : Code} {Q : Exit → Env → World → Prop} (hK : ∀ E w, W P n y Q E w → K1 E w) (h : W P n y Q E w) : Dw P n ds R [] K1 E w := hK E w h
theorem df {x : Operand} {T f o b : Nat} (k : Nat) (hx : ev E x = ptr b o) (h : Dw P n ds R r K (upd E d (ptr b (o + k))) w) (hg : guardB ds E g = true := by rfl) (hT : fOff P T f = some k := by kernel_rfl) : Dw P n ds R ((⟨some d, .fieldAddr T x f, ty, pos, af, g⟩, .p, anc) :: r) K E w := D_p hg (pv_fieldA hT hx) h
theorem dl {x : Operand} {T b o : Nat} (hx : ev E x = ptr b o) (hc : w.cell? ⟨b, o, none⟩ = some v) (h : Dw P n ds (fun a b => a = b) r K (upd E d v) w) (hg : guardB ds E g = true := by rfl) (hT : isOne P T = true := by kernel_rfl) : Dw P n ds (fun a b => a = b) ((⟨some d, .load T x, ty, pos, af, g⟩, .l, anc) :: r) K E w := D_lq hg (lv_load hT hx hc) h
theorem dL {x : Operand} {T b o : Nat} (hx : ev E x = ptr b o) (hc : ∀ w', R w w' → w'.cell? ⟨b, o, none⟩ = some v) (h : Dw P n ds R r K (upd E d v) w) (hg : guardB ds E g = true := by rfl) (hT : isOne P T = true := by kernel_rfl) : Dw P n ds R ((⟨some d, .load T x, ty, pos, af, g⟩, .l, anc) :: r) K E w := D_l hg (fun w' hR => lv_load hT hx (hc w' hR)) h
theorem pa {x y : Operand} {T U : TypeId} {a b : Int} (hx : ev E x = I a) (hy : ev E y = I b) (h : Dw P n ds R r K (upd E d (I (a + b))) w) (hI : inI64 (a + b) := by unfold inI64; omega) (hg : guardB ds E g = true := by rfl) : Dw P n ds R ((⟨some d, .binOp .add T x y U, ty, pos, af, g⟩, .p, anc) :: r) K E w := D_p hg (pv_add hx hy hI) h
theorem ps {x y : Operand} {T U : TypeId} {a b : Int} (hx : ev E x = I a) (hy : ev E y = I b) (h : Dw P n ds R r K (upd E d (I (a - b))) w) (hI : inI64 (a - b) := by unfold inI64; omega) (hg : guardB ds E g = true := by rfl) : Dw P n ds R ((⟨some d, .binOp .sub T x y U, ty, pos, af, g⟩, .p, anc) :: r) K E w := D_p hg (pv_sub hx hy hI) h
theorem st1 {a x : Operand} {T T' b o : Nat} {cs : List Value} (hb : Blk w b cs T') (h : ∀ w1, Mod (oneB b) w w1 → w1.heap.size = w.heap.size → Blk w1 b (cs.set o v) T' → Dw P n ds R r K E w1) (hg : guardB ds E g = true := by rfl) (ha : ev E a = ptr b o := by rfl) (hx : ev E x = v := by conv => lhs; whnf) (hv : v.oneCell' = true := by rfl) (hs : sizeT P T = some 1 := by kernel_rfl) (ho : o < cs.length := by exact Nat.le_of_ble_eq_true rfl) (hR : anc = true ∨ ∀ w', Mod (oneB b) w w' → R w w' := by exact .inl rfl) : Dw P n ds R ((⟨none, .store T a x, ty, pos, af, g⟩, .x, anc) :: r) K E w := D_store1 hg ha hx hv hs hb ho hR h
theorem stA {a x : Operand} {T T' b o : Nat} {cs vs : List Value} (hb : Blk w b cs T') (h : ∀ w1, Mod (oneB b) w w1 → w1.heap.size = w.heap.size → Blk w1 b (setAt cs o vs) T' → Dw P n ds R r K E w1) (hg : guardB ds E g = true := by rfl) (ha : ev E a = ptr b o := by rfl) (hx : ev E x = v := by conv => lhs; whnf) (hv : v.cells = ⟨vs⟩ := by exact rfl) (hs : sizeT P T = some vs.length := by kernel_rfl) (ho : o + vs.length ≤ cs.length := by exact Nat.le_of_ble_eq_true rfl) (h1 : ∀ v ∈ vs, v.oneCell' = true := by simp [Value.oneCell']) (hR : anc = true ∨ ∀ w', Mod (oneB b) w w' → R w w' := by exact .inl rfl) : Dw P n ds R ((⟨none, .store T a x, ty, pos, af, g⟩, .x, anc) :: r) K E w := D_store hg ha hx hv hs hb ho h1 hR h
theorem db {T : Nat} {ps : List (Nat × Operand)} {zs cs : List Value} {pl : List (Nat × Nat)} {pv : List (Nat × Value)} (h : Dw P n ds R r K (upd E d (.agg ⟨cs⟩)) w) (hg : guardB ds E g = true := by rfl) (hz : zeroC P T = some zs := by kernel_rfl) (hp : placesT P T = some pl := by kernel_rfl) (hv : EvL E ps pv := by repeat' (first | exact trivial | refine ⟨rfl, ?_, ?_⟩ | (conv => lhs; whnf))) (hf : fillL (fun i => pl[i]?) zs pv = some cs := by rfl) : Dw P n ds R ((⟨some d, .build T ps.toArray, ty, pos, af, g⟩, .p, anc) :: r) K E w := D_p hg (pv_build hz hp hv hf) h
theorem li {t e sz m : Nat} {ps : List (Nat × Operand)} {zs cs : List Value} {pv : List (Nat × Value)} (hR : RX R anc) (h : ∀ b w1, b = w.heap.size → Ext w w1 → Blk w1 b cs e → Dw P n ds R r K (upd E d (.slice (some ⟨b, 0, none⟩) m m)) w1) (hg : guardB ds E g = true := by rfl) (ht : slElem P t = some (e, sz) := by kernel_rfl) (hm : Nat.blt 0 (m * sz) = true ∧ Nat.ble (m * sz) 16777216 = true := by exact ⟨rfl, rfl⟩) (hz : zeroC P e = some zs := by kernel_rfl) (hzs : Nat.beq zs.length sz = true := by rfl) (hv : EvL E ps pv := by repeat' (first | exact trivial | refine ⟨rfl, ?_, ?_⟩ | (conv => lhs; whnf))) (hf : fillL (fun i => some (i * sz, sz)) ((List.replicate m zs).flatten) pv = some cs := by rfl) : Dw P n ds R ((⟨some d, .buildSlice t m ps.toArray, ty, pos, af, g⟩, .x, anc) :: r) K E w := D_lit hg ht hm hz hzs hv hf hR h
end
section
variable {a b c w w' : World} {i j : Nat} {S T : Nat → Prop} {cs : List Value} {t : TypeId} {α : Type} {enc : α → List Value} {sz B Ty : Nat} {v : Value} {l : List α}
theorem Ext.ge (h : Ext a b) (e : i = b.heap.size) : a.heap.size ≤ i := by have := h.size; omega
theorem Mod.ge (h : Mod T a b) (e : i = b.heap.size) : a.heap.size ≤ i := by have := h.size; omega
theorem Blk.ltb (h : Blk w j cs t) (e : i = w.heap.size) : j < i := by have := h.lt; omega
theorem Own.ltb (h : Own enc sz Ty B w v l) (e : i = w.heap.size) : ∀ k, v.ownBlock = some k → k < i := fun k hk => by have := (h.lt k hk).2; omega
theorem Ext.o1 (h : Ext a b) (k : Mod (oneB i) b c) (hi : a.heap.size ≤ i := by omega) : Ext a c := h.own k (fun j hj => by have : j = i := hj; omega)
theorem Mod.o1 (h : Mod T a b) (k : Mod (oneB i) b c) (hi : a.heap.size ≤ i := by omega) : Mod T a c := h.own k (fun j hj hlt => by have : j = i := hj; omega)
theorem Blk.mo (h : Blk w j cs t) (m : Mod (oneB i) w w') (hn : ¬ oneB i j := by first | assumption | (intro h; have h2 : _ = _ := h; omega)) : Blk w' j cs t := h.mod m hn
theorem drewx (e : w' = w.drew) : Ext w w' := by rw [e]; exact Ext.drew _
end
end Go.Vc
namespace Go.Sp
open Go.Vc
abbrev sLt (a b : Str) : Bool := Op.bytesLess a b
theorem sLt_irrefl : ∀ a : Str, sLt a a = false
  | [] => rfl
  | c :: r => by
    have := sLt_irrefl r
    simp only [sLt] at this
    simp [sLt, Op.bytesLess, this]
theorem sLt_trans : ∀ a b c : Str, sLt a b = true → sLt b c = true → sLt a c = true
  | _, [], _, h, _ => by simp [sLt, Op.bytesLess] at h
  | _, _ :: _, [], _, h => by simp [sLt, Op.bytesLess] at h
  | [], _ :: _, _ :: _, _, _ => rfl
  | x :: a, y :: b, z :: c, h1, h2 => by
    have ih := sLt_trans a b c
    simp only [sLt, Op.bytesLess, Bool.or_eq_true, Bool.and_eq_true, decide_eq_true_eq, beq_iff_eq] at *
    rcases h1 with h1 | ⟨rfl, h1⟩
    · rcases h2 with h2 | ⟨rfl, h2⟩
      · exact .inl (UInt8.lt_trans h1 h2)
      · exact .inl h1
    · rcases h2 with h2 | ⟨rfl, h2⟩
      · exact .inl h2
      · exact .inr ⟨rfl, ih h1 h2⟩
theorem sLt_total : ∀ a b : Str, a = b ∨ sLt a b = true ∨ sLt b a = true
  | [], [] => .inl rfl
  | [], _ :: _ => .inr (.inl rfl)
  | _ :: _, [] => .inr (.inr rfl)
  | x :: a, y :: b => by
    have ih := sLt_total a b
    simp only [sLt, Op.bytesLess, Bool.or_eq_true, Bool.and_eq_true, decide_eq_true_eq, beq_iff_eq] at *
    by_cases h1 : x < y
    · exact .inr (.inl (.inl h1))
    · by_cases h2 : y < x
      · exact .inr (.inr (.inl h2))
      · have e : x = y := UInt8.le_antisymm (UInt8.not_lt.1 h2) (UInt8.not_lt.1 h1)
        subst e
        rcases ih with rfl | h | h
        · exact .inl rfl
        · exact .inr (.inl (.inr ⟨rfl, h⟩))
        · exact .inr (.inr (.inr ⟨rfl, h⟩))
theorem sLt_asymm {a b : Str} (h : sLt a b = true) : sLt b a = false := by
  cases hb : sLt b a with
  | false => rfl
  | true => have := sLt_trans a b a h hb; rw [sLt_irrefl] at this; cases this
theorem sLt_ne {a b : Str} (h : sLt a b = true) : a ≠ b := fun e => by rw [e, sLt_irrefl] at h; cases h
structure Cell where
  key : Str
  val : Str
  del : Bool
  seq : Int
deriving DecidableEq
@[reducible] def Cell.cs (c : Cell) : List Value := [S c.key, S c.val, B c.del, I c.seq]
@[reducible] def Cell.v (c : Cell) : Value := .agg ⟨c.cs⟩
def Cell.zero : Cell := ⟨[], [], false, 0⟩
def less (a b : Cell) : Bool := if a.key ≠ b.key then sLt a.key b.key else decide (b.seq < a.seq)
theorem less_irrefl (a : Cell) : less a a = false := by simp [less]
theorem less_iff (a b : Cell) : less a b = true ↔ (sLt a.key b.key = true ∨ (a.key = b.key ∧ b.seq < a.seq)) := by
  unfold less
  by_cases e : a.key = b.key
  · simp [e, sLt_irrefl]
  · rw [if_pos e]; simp [e]
theorem less_trans {a b c : Cell} (h1 : less a b = true) (h2 : less b c = true) : less a c = true := by
  rw [less_iff] at *
  rcases h1 with h1 | ⟨e1, h1⟩
  · rcases h2 with h2 | ⟨e2, h2⟩
    · exact .inl (sLt_trans _ _ _ h1 h2)
    · exact .inl (e2 ▸ h1)
  · rcases h2 with h2 | ⟨e2, h2⟩
    · exact .inl (e1 ▸ h2)
    · exact .inr ⟨e1.trans e2, by omega⟩
theorem less_asymm {a b : Cell} (h : less a b = true) : less b a = false := by
  cases hb : less b a with
  | false => rfl
  | true => have := less_trans h hb; rw [less_irrefl] at this; cases this
theorem less_tie {a b : Cell} (h1 : less a b = false) (h2 : less b a = false) : a.key = b.key ∧ a.seq = b.seq := by
  have n1 : ¬ less a b = true := by rw [h1]; decide
  have n2 : ¬ less b a = true := by rw [h2]; decide
  rw [less_iff, not_or] at n1 n2
  rcases sLt_total a.key b.key with h | h | h
  · refine ⟨h, ?_⟩
    have m1 : ¬ b.seq < a.seq := fun x => n1.2 ⟨h, x⟩
    have m2 : ¬ a.seq < b.seq := fun x => n2.2 ⟨h.symm, x⟩
    omega
  · exact absurd h n1.1
  · exact absurd h n2.1
theorem less_of_tie {a b : Cell} (h1 : a.key = b.key) (h2 : a.seq = b.seq) : less a b = false := by simp [less, h1, h2]
def isC (c : Cell) : Bool := decide (1 ≤ c.key.length) && decide (c.key.length ≤ 4096) && decide (c.val.length ≤ 16384) && (!c.del || decide (c.val = [])) && decide (1 ≤ c.seq) && decide (c.seq ≤ 1099511627776)
def sizeC (c : Cell) : Nat := c.key.length + c.val.length + 16
def sizeL (l : List Cell) : Nat := (l.map sizeC).sum
def first (l : List Cell) (key : Str) (seq : Int) : Option Cell := l.find? fun c => decide (c.key = key) && decide (c.seq ≤ seq)
def inScan (frm to : Str) (c : Cell) : Bool := !sLt c.key frm && (decide (to = []) || sLt c.key to)
def scan (l : List Cell) (frm to : Str) : List Cell := l.filter (inScan frm to)
def pre (l : List Cell) (c : Cell) : List Cell := l.takeWhile (less · c)
def suf (l : List Cell) (c : Cell) : List Cell := l.dropWhile (less · c)
theorem pre_suf (l : List Cell) (c : Cell) : pre l c ++ suf l c = l := List.takeWhile_append_dropWhile ..
def has (l : List Cell) (c : Cell) : Bool := match suf l c with
  | s :: _ => decide (s.key = c.key) && decide (s.seq = c.seq)
  | [] => false
def put (l : List Cell) (c : Cell) : Bool × List Cell := if !isC c || has l c then (false, l) else (true, pre l c ++ c :: suf l c)
def Sorted : List Cell → Prop := List.Pairwise fun a b => less a b = true
theorem Sorted.put {l : List Cell} (h : Sorted l) (c : Cell) : Sorted (put l c).2 := by
  unfold Sp.put
  split
  · exact h
  · rename_i hc
    simp only [Bool.or_eq_true, not_or, Bool.not_eq_true] at hc
    have hps := pre_suf l c
    have h' : Sorted (pre l c ++ suf l c) := by rw [hps]; exact h
    have hp : ∀ x ∈ pre l c, less x c = true := fun x hx => (List.all_eq_true.1 (List.all_takeWhile (p := fun x => less x c) (l := l)) x hx)
    have hsorted := List.pairwise_append.1 h'
    have hs : ∀ x ∈ suf l c, less c x = true := by
      cases hsu : suf l c with
      | nil => intro x hx; cases hx
      | cons s r =>
        have hns : less s c = false := by
          have := List.head?_dropWhile_not (fun x => less x c) l
          rw [show List.dropWhile (fun x => less x c) l = suf l c from rfl, hsu] at this
          simpa using this
        have hcs : less c s = true := by
          cases hcs : less c s with
          | true => rfl
          | false =>
            have ht := less_tie hns hcs
            have hh : has l c = true := by unfold has; rw [hsu]; simp [ht]
            rw [hh] at hc; cases hc.2
        intro x hx
        rcases List.mem_cons.1 hx with rfl | hx
        · exact hcs
        · have := hsorted.2.1
          rw [hsu] at this
          exact less_trans hcs (List.rel_of_pairwise_cons this hx)
    refine List.pairwise_append.2 ⟨hsorted.1, List.pairwise_cons.2 ⟨hs, hsorted.2.1⟩, fun a ha b hb => ?_⟩
    rcases List.mem_cons.1 hb with rfl | hb
    · exact hp a ha
    · exact hsorted.2.2 a ha b hb
end Go.Sp
namespace Go.Sp
open Go.Vc (Str)
def numF : Nat → Nat → Str
  | 0, _ => []
  | k + 1, u => if u < 128 then [UInt8.ofNat u] else UInt8.ofNat (u % 128 + 128) :: numF k (u / 128)
def numS (u : Nat) : Str := numF 10 u
def numR : Nat → Nat → Str → Option (Nat × Str)
  | _, _, [] => none
  | i, u, c :: r => if 9 ≤ i ∨ (0 < i ∧ c = 0) then none else
      if c.toNat < 128 then (if 4611686018427387904 < u + c.toNat % 128 * 128 ^ i then none else some (u + c.toNat % 128 * 128 ^ i, r))
      else numR (i + 1) (u + c.toNat % 128 * 128 ^ i) r
theorem u8_toNat (n : Nat) (h : n < 256) : (UInt8.ofNat n).toNat = n := by
  rw [UInt8.toNat_ofNat']; exact Nat.mod_eq_of_lt h
theorem numF_len : ∀ (k u : Nat), (numF k u).length ≤ k
  | 0, u => Nat.le_refl _
  | k + 1, u => by
    unfold numF
    split
    · simp
    · have := numF_len k (u / 128); simp; omega
theorem numF_pos (k u : Nat) : 1 ≤ (numF (k + 1) u).length := by
  unfold numF
  split <;> simp
theorem numS_len (u : Nat) : (numS u).length ≤ 10 := numF_len _ _
theorem numR_numF : ∀ (k i a u : Nat) (r : Str), u < 128 ^ k → i + k ≤ 9 → (0 < k ∨ 0 < i) → (0 < i → 0 < u) → a + u * 128 ^ i ≤ 4611686018427387904 → numR i a (numF k u ++ r) = some (a + u * 128 ^ i, r)
  | 0, i, a, u, r, hu, hi, h0, hp, hm => by
    have : u = 0 := by simpa using hu
    subst this
    cases i with
    | zero => omega
    | succ i => exact absurd (hp (Nat.succ_pos _)) (by omega)
  | k + 1, i, a, u, r, hu, hi, h0, hp, hm => by
    unfold numF
    split
    · rename_i h
      rw [List.cons_append, List.nil_append]
      unfold numR
      have e : (UInt8.ofNat u).toNat = u := u8_toNat u (by omega)
      have hz : ¬ (9 ≤ i ∨ (0 < i ∧ UInt8.ofNat u = 0)) := by
        rintro (h9 | ⟨h1, h2⟩)
        · omega
        · have := congrArg UInt8.toNat h2
          rw [e] at this
          have := hp h1
          simp at *; omega
      rw [if_neg hz, e, if_pos h, Nat.mod_eq_of_lt h, if_neg (by omega)]
    · rename_i h
      rw [List.cons_append]
      unfold numR
      have e : (UInt8.ofNat (u % 128 + 128)).toNat = u % 128 + 128 := u8_toNat _ (by omega)
      have hz : ¬ (9 ≤ i ∨ (0 < i ∧ UInt8.ofNat (u % 128 + 128) = 0)) := by
        rintro (h9 | ⟨h1, h2⟩)
        · omega
        · have := congrArg UInt8.toNat h2
          rw [e] at this
          simp at this
      have e2 : (u % 128 + 128) % 128 = u % 128 := by omega
      have e3 : a + u % 128 * 128 ^ i + u / 128 * 128 ^ (i + 1) = a + u * 128 ^ i := by
        have : u * 128 ^ i = (u % 128 + 128 * (u / 128)) * 128 ^ i := by rw [Nat.mod_add_div]
        rw [this, Nat.add_mul, Nat.pow_succ, Nat.add_assoc, Nat.mul_comm 128 (u / 128), Nat.mul_assoc (u / 128), Nat.mul_comm 128]
      rw [if_neg hz, e, if_neg (by omega), e2, numR_numF k (i + 1) _ (u / 128) r (by rw [Nat.pow_succ] at hu; omega) (by omega) (by omega) (by intro _; omega) (by rw [e3]; exact hm), e3]
theorem numR_numS {u : Nat} (r : Str) (h : u ≤ 4611686018427387904) : numR 0 0 (numS u ++ r) = some (u, r) := by
  have e : numS u = numF 9 u := by
    have : ∀ (k u : Nat), u < 128 ^ k → 0 < k → numF (k + 1) u = numF k u := by
      intro k
      induction k with
      | zero => intro u _ h; omega
      | succ k ih =>
        intro u hu _
        unfold numF
        split
        · rfl
        · rename_i h1
          have hk : 0 < k := by
            cases k with
            | zero => simp at hu; omega
            | succ k => omega
          rw [← ih (u / 128) (by rw [Nat.pow_succ] at hu; omega) hk]
    exact this 9 u (by have : (128 : Nat) ^ 9 = 9223372036854775808 := by decide
                       omega) (by decide)
  rw [e, numR_numF 9 0 0 u r (by have : (128 : Nat) ^ 9 = 9223372036854775808 := by decide
                                 omega) (by omega) (by omega) (by omega) (by simp; exact h)]
  simp
def rowS (p : Str) : Str := numS p.length ++ p
def rawR (n : Nat) (s : Str) : Option (Str × Str) := if s.length < n then none else some (s.take n, s.drop n)
def rowR (s : Str) : Option (Str × Str) := (numR 0 0 s).bind fun x => rawR x.1 x.2
def crcB (v : UInt32) : UInt32 := (v >>> 1) ^^^ (0xedb88320 &&& (0 - (v &&& 1)))
def crcF : Nat → UInt32 → UInt32
  | 0, v => v
  | k + 1, v => crcF k (crcB v)
def crcC (v : UInt32) (c : UInt8) : UInt32 := crcF 8 (v ^^^ c.toUInt32)
def sumS (l : Str) : UInt32 := ~~~(l.foldl crcC (~~~0))
def fourS (v : UInt32) : Str := [v.toUInt8, (v >>> 8).toUInt8, (v >>> 16).toUInt8, (v >>> 24).toUInt8]
def headS (n : UInt32) : Str := fourS n ++ fourS (sumS (fourS n))
def recS (p : Str) : Str := (headS (UInt32.ofNat p.length) ++ p) ++ fourS (sumS (headS (UInt32.ofNat p.length) ++ p))
theorem fourS_len (v : UInt32) : (fourS v).length = 4 := rfl
theorem headS_len (v : UInt32) : (headS v).length = 8 := rfl
theorem recS_len (p : Str) : (recS p).length = p.length + 12 := by
  unfold recS; simp only [List.length_append, headS_len, fourS_len]; omega
end Go.Sp
namespace Go.Vc
open Go.RowKit
@[reducible] def fnV (f : Nat) : Value := .func (.func f) #[] #[]
section
variable {P : Program} {n : Nat} {ds : List (Option Tmp)} {R : World → World → Prop} {r : List (Oper × Fl × Bool)} {K : Env → World → Prop} {E : Env} {w : World}
variable {d : Nat} {op : Op} {ty : TypeId} {pos : String} {af : Array Edge} {g : Option (Nat × Bool)} {anc : Bool} {v : Value}
theorem D_callV {f t : Nat} {az : List Operand} {ats : Array TypeId} {vs : List Value} {R1 : Ending → World → Prop} (hg : guardB ds E g = true) (hv : E t = fnV f) (hf : callB P f = true) (ha : az.map (ev E) = vs) (hc : Calls P f vs.toArray w R1)
    (h : ∀ e w1, R1 e w1 → ∃ v, e = .returned v ∧ (anc = false → R w w1) ∧ Dw P n ds R r K (upd E d v) w1) :
    Dw P n ds R ((⟨some d, .call { callee := .value (.tmp t), args := az.toArray, argTypes := ats }, ty, pos, af, g⟩, .x, anc) :: r) K E w := by
  refine D_x hg fun ok => ?_
  unfold callB at hf
  cases hp : P.funcs[f]? with
  | none => rw [hp] at hf; simp at hf
  | some fn =>
    rw [hp] at hf
    simp only [Bool.and_eq_true, Bool.not_eq_true'] at hf
    obtain ⟨h1, h2⟩ := hf
    have h3 : fn.body ≠ none := by cases hb : fn.body <;> simp [hb] at h2 ⊢
    have h1' : fn.name ≠ "runtime.NumGoroutine" := by simpa using h1
    have hr : (execOp (ev E) ⟨some d, .call { callee := .value (.tmp t), args := az.toArray, argTypes := ats }, ty, pos, af, g⟩).run P w = .ok (.enter f vs.toArray) w := by
      simp [execOp, resolve, ev, hv, Deferred.ofValue, invoke, callFunc, program, Sem.run, hp, h1', h3, ha]
    unfold Oper.wp
    rw [exec_eq ok, hr]
    simp only [Oper.upon]
    refine Calls.mono hc fun e w1 h1 => ?_
    obtain ⟨v, rfl, hR, hd⟩ := h e w1 h1
    exact ⟨_, act_put _ _ _ _, hR, hd⟩
theorem D_callVP {f t : Nat} {az : List Operand} {ats : Array TypeId} {vs : List Value} (hg : guardB ds E g = true) (hv : E t = fnV f) (hf : callB P f = true) (hc : Calls P f vs.toArray w (Pure w v)) (ha : az.map (ev E) = vs) (hR : RX R anc)
    (h : ∀ w1, Ext w w1 → Dw P n ds R r K (upd E d v) w1) :
    Dw P n ds R ((⟨some d, .call { callee := .value (.tmp t), args := az.toArray, argTypes := ats }, ty, pos, af, g⟩, .x, anc) :: r) K E w :=
  D_callV hg hv hf ha hc fun e w1 ⟨he, hx⟩ => ⟨v, he, hR.use hx, h w1 hx⟩
end
section
variable {P : Program} {E : Env} {w : World} {d : Option Tmp} {op : Op} {ty : TypeId} {pos : String} {af : Array Edge} {g : Option (Nat × Bool)}
def toU (P : Program) (S D n : Nat) : Bool := isPtr P S && (match P.underlying D with | some .unsafePointer => true | _ => false) && (match P.info? (P.pointee S) with | some i => !(i.size == 0) | none => false)
end
def byteB (P : Program) (e : Nat) : Bool := match P.info? e with
  | some i => (i.size == 1) && (i.bytes == 1) && (match i.zero with | some (.int .u8 0) => true | _ => false)
  | none => false
section
variable {P : Program} {n : Nat} {ds : List (Option Tmp)} {R : World → World → Prop} {r : List (Oper × Fl × Bool)} {K : Env → World → Prop} {E : Env} {w : World}
variable {d : Nat} {op : Op} {ty : TypeId} {pos : String} {af : Array Edge} {g : Option (Nat × Bool)} {anc : Bool} {v : Value}
end
structure Bld (T e B : Nat) (b : Nat) (v : Value) (l : Str) (w : World) : Prop where
  blk : ∃ p, (p = .pointer none ∨ p = ptr b 0) ∧ Blk w b [p, v] T
  own : Own encB 1 e B w v l
end Go.Vc
