/-
  A region's operations in a planned order: one walk serves every order that the text leaves open. Nothing is assumed.
-/
import Derived.Test.YteninjhmmjkckaaGreatDoorVcA
import Derived.OrdersHeld
namespace Go.Vc
open Go.RowKit

inductive Fl where
  | p | l | x

def nth : List Oper → Nat → Oper
  | [], _ => default
  | o :: _, 0 => o
  | _ :: r, k + 1 => nth r k

def nthD : List (Option Tmp) → Nat → Option Tmp
  | [], _ => none
  | o :: _, 0 => o
  | _ :: r, k + 1 => nthD r k

def guardB (ds : List (Option Tmp)) (E : Env) : Option (Nat × Bool) → Bool
  | none => true
  | some (j, want) => match nthD ds j with
    | some d => (match E d with | .bool b => b == want | _ => false)
    | none => false

/-- Whatever the world is, the operation yields v and does nothing else. -/
def PV (P : Program) (o : Oper) (E : Env) (v : Value) : Prop := ∀ w, (execOp (ev E) o).run P w = .ok (.value v) w
/-- In this world the operation yields v and does nothing else. -/
def LV (P : Program) (o : Oper) (E : Env) (w : World) (v : Value) : Prop := (execOp (ev E) o).run P w = .ok (.value v) w

def XW (P : Program) (n : Nat) (o : Oper) (E : Env) (w : World) (K : Env → World → Prop) : Prop :=
  okOper n o = true → o.wp P (act n E) w (fun a w' => ∃ E', a = act n E' ∧ K E' w') (fun _ _ _ => False)

def Dw (P : Program) (n : Nat) (ds : List (Option Tmp)) (R : World → World → Prop) : List (Oper × Fl × Bool) → (Env → World → Prop) → Env → World → Prop
  | [], K, E, w => K E w
  | (o, .p, _) :: r, K, E, w => if guardB ds E o.guard = true then ∃ v, PV P o E v ∧ Dw P n ds R r K (updO E o.dst v) w else Dw P n ds R r K (updO E o.dst undef) w
  | (o, .l, _) :: r, K, E, w => if guardB ds E o.guard = true then ∃ v, (∀ w', R w w' → LV P o E w' v) ∧ Dw P n ds R r K (updO E o.dst v) w else Dw P n ds R r K (updO E o.dst undef) w
  | (o, .x, anc) :: r, K, E, w => if guardB ds E o.guard = true then XW P n o E w (fun E' w' => (anc = false → R w w') ∧ Dw P n ds R r K E' w') else Dw P n ds R r K (updO E o.dst undef) w

/-- Only the way through: no panic, no other way out. -/
def nf (K : Env → World → Prop) : Exit → Env → World → Prop
  | .normal, E, w => K E w
  | _, _, _ => False

theorem nthD_eq (l : List Oper) : ∀ j, nthD (l.map (·.dst)) j = (l[j]?).bind (·.dst) := by
  induction l with
  | nil => intro j; rfl
  | cons o r ih => intro j; cases j with
    | zero => rfl
    | succ k => simpa [nthD] using ih k

theorem nth_eq (l : List Oper) : ∀ j (o : Oper), l[j]? = some o → nth l j = o := by
  induction l with
  | nil => intro j o h; simp at h
  | cons o r ih => intro j o' h; cases j with
    | zero => simpa [nth] using h
    | succ k => exact ih k o' (by simpa using h)

theorem wanted_eq {n : Nat} {ops : Array Oper} {E : Env} (o : Oper) (hok : ops.all (okOper n) = true) :
    Region.wanted o (yielded ops (act n E).tmps) = guardB (ops.toList.map (·.dst)) E o.guard := by
  unfold Region.wanted guardB
  cases hg : o.guard with
  | none => rfl
  | some jw =>
    obtain ⟨j, want⟩ := jw
    simp only [nthD_eq, Array.getElem?_toList, yielded]
    cases hj : ops[j]? with
    | none => simp
    | some oj =>
      simp only [Option.bind_some]
      cases hd : oj.dst with
      | none => simp
      | some d =>
        have h1 := Array.all_eq_true_iff_forall_mem.1 hok oj (Array.mem_of_getElem? hj)
        have hlt : d < n := by
          unfold okOper at h1
          simp only [hd, Bool.and_eq_true] at h1
          simpa [Nat.blt_eq] using h1.1.2
        simp only [Option.bind_some, act_get n E d hlt]
        cases E d <;> simp

theorem Oper.wp_monoQ {P : Program} {o : Oper} {a : Act} {w : World} {K : Act → World → Prop} {Q : Exit → Act → World → Prop}
    (hh : o.wp P a w K (fun _ _ _ => False)) : o.wp P a w K Q := by
  unfold Oper.wp at *
  generalize (execOp a.eval o).run P w = r at *
  cases r with
  | ok n w' =>
    cases n <;> simp only [Oper.upon] at hh ⊢ <;> first
      | exact hh
      | (refine Calls.mono hh (fun e w'' he => ?_)
         cases e with
         | returned v => exact he
         | panicked c => exact he.elim
         | outgrown => obtain ⟨_, _, hf⟩ := he; exact hf.elim)
  | halt x w' => cases x <;> simp only [Oper.upon] at hh ⊢

section
variable {P : Program} {n : Nat} {E : Env} {w : World} {ops : Array Oper} {R : World → World → Prop}

theorem wp_of_PV {o : Oper} {v : Value} (hok : okOper n o = true) (h : LV P o E w v) {K : Act → World → Prop} {Q : Exit → Act → World → Prop} (hK : K (act n (updO E o.dst v)) w) : o.wp P (act n E) w K Q := by
  unfold Oper.wp
  rw [exec_eq hok, h]
  simp only [Oper.upon, act_put]
  exact hK

/-! ### A region whose order is the text's -/

def mkp : List Oper → List Fl → List (Oper × Fl × Bool)
  | o :: r, f :: fs => (o, f, true) :: mkp r fs
  | _, _ => []

theorem wpList_of_Dw (hok : ops.all (okOper n) = true) {K : Env → World → Prop} {Q : Exit → Env → World → Prop} (hQ : ∀ E w, K E w → Q .normal E w) : ∀ (l : List Oper) (fs : List Fl) (E : Env) (w : World), l.length = fs.length → (∀ o ∈ l, okOper n o = true) →
    Dw P n (ops.toList.map (·.dst)) (fun a b => a = b) (mkp l fs) K E w → wpList P ops (lift n Q) l (act n E) w := by
  intro l
  induction l with
  | nil => intro fs E w _ _ h; exact ⟨E, rfl, hQ _ _ h⟩
  | cons o r ih =>
    intro fs E w hl ho h
    cases fs with
    | nil => simp at hl
    | cons f fs =>
      have hl' : r.length = fs.length := by simpa using hl
      have ho' : ∀ o ∈ r, okOper n o = true := fun o h => ho o (List.mem_cons_of_mem _ h)
      have hoo := ho o List.mem_cons_self
      have hnext : ∀ v w, Dw P n (ops.toList.map (·.dst)) (fun a b => a = b) (mkp r fs) K (updO E o.dst v) w → wpList P ops (lift n Q) r ((act n E).put o.dst v) w := fun v w h => by
        rw [act_put]; exact ih fs _ w hl' ho' h
      unfold wpList
      rw [wanted_eq o hok]
      cases f <;> simp only [mkp, Dw] at h <;> (split at h <;> rename_i hg)
      · rw [if_pos hg]; obtain ⟨v, hv, hn⟩ := h
        exact .inl (wp_of_PV hoo (hv w) (by simpa [act_put] using hnext v w hn))
      · rw [if_neg hg]; exact hnext _ _ h
      · rw [if_pos hg]; obtain ⟨v, hv, hn⟩ := h
        exact .inl (wp_of_PV hoo (hv w rfl) (by simpa [act_put] using hnext v w hn))
      · rw [if_neg hg]; exact hnext _ _ h
      · rw [if_pos hg]
        refine .inl (Oper.wp_monoQ (Oper.wp_mono ?_ (h hoo)))
        rintro a w' ⟨E', rfl, _, hd⟩
        exact ih fs E' w' hl' ho' hd
      · rw [if_neg hg]; exact hnext _ _ h

theorem W_reg {id : Nat} {l : List Oper} {Q : Exit → Env → World → Prop} (fs : List Fl) (hl : Nat.beq l.length fs.length = true)
    (h : Dw P n (l.map (·.dst)) (fun a b => a = b) (mkp l fs) (fun E w => Q .normal E w) E w) : W P n (.region id l.toArray false) Q E w := by
  intro ok
  simp only [okCode] at ok
  refine wp_region_list ?_
  exact wpList_of_Dw (K := fun E w => Q .normal E w) ok (fun _ _ h => h) _ fs E w (Nat.eq_of_beq_eq_true hl) (fun o ho => Array.all_eq_true_iff_forall_mem.1 ok o (by simpa using ho)) (by simpa using h)

/-! ### A region whose order is drawn -/

def edge (ops : Array Oper) (i k : Nat) : Bool := match ops[i]? with
  | some o => o.after.any fun e => Region.binds .any e && e.on == k
  | none => false

def Anc (ops : Array Oper) (ld : List Nat) (listed : Array Bool) (i : Nat) : Prop := ∀ k ∈ ld, listed.getD k false = true → k ≠ i → edge ops i k = true

def wpAnyR (P : Program) (ops : Array Oper) (Q : Exit → Act → World → Prop) (R : World → World → Prop) (ld : List Nat) : Nat → Array Bool → Act → World → Prop
  | 0, listed, a, w => Region.ready .any ops listed = [] ∧ Q .normal a w
  | fuel + 1, listed, a, w =>
    (Region.ready .any ops listed = [] → Q .normal a w) ∧
    ∀ i ∈ Region.ready .any ops listed, wpOp P ops Q i (fun a' w' => (R w w' ∨ Anc ops ld listed i) ∧ wpAnyR P ops Q R ld fuel (listed.setIfInBounds i true) a' w') a w

variable {Q : Exit → Act → World → Prop} {ld : List Nat}

theorem wpAny_of_R : ∀ (fuel : Nat) (listed : Array Bool) (a : Act) (w : World), wpAnyR P ops Q R ld fuel listed a w → wpAny P .any ops Q fuel listed a w
  | 0, _, _, _, h => h
  | fuel + 1, _, _, _, h => ⟨h.1, fun i hi => wpOp_mono (fun a' w' h' => wpAny_of_R fuel _ a' w' h'.2) (h.2 i hi)⟩

theorem YieldsIf.mono {S S' : World → Prop} {o : Oper} {v : Value} {a : Act} (h : YieldsIf P ops S o v a) (hs : ∀ w, S' w → S w) : YieldsIf P ops S' o v a :=
  h.imp (fun ⟨h1, h2⟩ => ⟨h1, fun w hw => h2 w (hs w hw)⟩) id

theorem wpAnyR_first {i : Nat} {oi : Oper} {v : Value} {B : Bool} (hrefl : ∀ w, R w w) (htrans : ∀ a b c, R a b → R b c → R a c) (hB : B = true → i ∈ ld) (hi : ops[i]? = some oi)
    (hsel : ∀ (j : Nat) (o : Oper) cs b, ops[j]? = some o → o.op ≠ .select cs b) (hQ : ∀ c a w, Q (.panic c) (a.put oi.dst v) w → Q (.panic c) a w) :
    ∀ (fuel : Nat) (listed : Array Bool) (a : Act) (w : World),
      (∀ j oj, ops[j]? = some oj → j ≠ i → listed.getD j true = false → (∀ e ∈ oj.after, Region.binds .any e = true → e.on ≠ i) → oi.apart ops oj = true) →
      i ∈ Region.ready .any ops listed → YieldsIf P ops (fun w' => B = true → R w w') oi v a →
      wpAnyR P ops Q R ld fuel (listed.setIfInBounds i true) (a.put oi.dst v) w → wpAnyR P ops Q R ld (fuel + 1) listed a w := by
  intro fuel
  induction fuel with
  | zero =>
    intro listed a w _ hr hy H
    refine ⟨fun h => (by rw [h] at hr; cases hr), fun j hj => ?_⟩
    by_cases hji : j = i
    · subst hji; exact hy.wpOp hi (fun _ => hrefl w) ⟨.inl (hrefl w), H⟩
    · have := ready_mono hj hji
      rw [H.1] at this
      cases this
  | succ fuel ih =>
    intro listed a w hfree hr hy H
    refine ⟨fun h => (by rw [h] at hr; cases hr), fun j hj => ?_⟩
    by_cases hji : j = i
    · subst hji; exact hy.wpOp hi (fun _ => hrefl w) ⟨.inl (hrefl w), H⟩
    · have h1 := H.2 j (ready_mono hj hji)
      obtain ⟨hjun, oj, hoj, hall⟩ := mem_ready.1 hj
      have hil : listed.getD i false = false := by
        have h0 := (mem_ready.1 hr).1
        rcases Nat.lt_or_ge i listed.size with h' | h'
        · simp [h'] at h0 ⊢; exact h0
        · simp [Array.getElem?_eq_none h']
      have hisz : i < listed.size := by
        have h0 := (mem_ready.1 hr).1
        rcases Nat.lt_or_ge i listed.size with h' | h'
        · exact h'
        · simp [Array.getElem?_eq_none h'] at h0
      have hnot : ∀ e ∈ oj.after, Region.binds .any e = true → e.on ≠ i := fun e he hb heq => by
        have h1 := hall e he hb
        rw [heq, hil] at h1
        cases h1
      have h2 := wpOp_putIf hoj (hfree j oj hoj hji hjun hnot) (fun cs b => hsel i oi cs b hi) (fun cs b => hsel j oj cs b hoj) hQ hy h1
      have hfree' : ∀ k ok, ops[k]? = some ok → k ≠ i → (listed.setIfInBounds j true).getD k true = false →
          (∀ e ∈ ok.after, Region.binds .any e = true → e.on ≠ i) → oi.apart ops ok = true := fun k ok hk hki hun hno => by
        refine hfree k ok hk hki ?_ hno
        by_cases hjk : j = k
        · subst hjk; exact hjun
        · rw [getD_set_ne true hjk] at hun; exact hun
      refine wpOp_mono (fun a' w' h3 => ?_) h2
      obtain ⟨hy', hRA, hrest⟩ := h3
      have hR : B = true → R w w' := fun hb => hRA.elim id fun hA => by
        have := hA i (hB hb) (by simp [hisz]) (fun e => hji e.symm)
        unfold edge at this
        simp only [hoj, Array.any_eq_true', Bool.and_eq_true, beq_iff_eq] at this
        obtain ⟨e, he, hb1, hb2⟩ := this
        exact absurd hb2 (hnot e he hb1)
      refine ⟨hRA.imp id fun hA k hk hl hne => hA k hk (getD_set_true hl) hne, ?_⟩
      refine ih (listed.setIfInBounds j true) a' w' hfree' (ready_mono hr (Ne.symm hji)) (YieldsIf.mono hy' fun w'' h' hb => htrans _ _ _ (hR hb) (h' hb)) ?_
      rw [Array.setIfInBounds_comm _ _ hji]
      exact hrest

def selp (l : List Oper) : List (Nat × Fl × Bool) → List (Oper × Fl × Bool)
  | [] => []
  | (i, f, b) :: r => (nth l i, f, b) :: selp l r

def planOk (ops : Array Oper) (ld : List Nat) : List (Nat × Fl × Bool) → Array Bool → Bool
  | [], listed => (Region.ready .any ops listed).isEmpty
  | (i, .x, anc) :: r, listed => (Region.ready .any ops listed == [i]) && (!anc || ld.all fun k => !listed.getD k false || k == i || edge ops i k) && planOk ops ld r (listed.setIfInBounds i true)
  | (i, .p, _) :: r, listed => (Region.ready .any ops listed).contains i && Region.free .any ops listed i && planOk ops ld r (listed.setIfInBounds i true)
  | (i, .l, _) :: r, listed => (Region.ready .any ops listed).contains i && Region.free .any ops listed i && ld.contains i && planOk ops ld r (listed.setIfInBounds i true)

theorem yieldsIf_LV {o : Oper} {v : Value} {S : World → Prop} (hok : ops.all (okOper n) = true) (hoo : okOper n o = true) (hg : guardB (ops.toList.map (·.dst)) E o.guard = true) (h : ∀ w, S w → LV P o E w v) :
    YieldsIf P ops S o v (act n E) := .inl ⟨by rw [wanted_eq o hok]; exact hg, fun w hw => by rw [exec_eq hoo]; exact h w hw⟩

theorem yieldsIf_skip {o : Oper} {S : World → Prop} (hok : ops.all (okOper n) = true) (hg : ¬ guardB (ops.toList.map (·.dst)) E o.guard = true) : YieldsIf P ops S o undef (act n E) :=
  .inr ⟨by rw [wanted_eq o hok]; simpa using hg, rfl⟩

theorem wpAnyR_of_Dw (hrefl : ∀ w, R w w) (htrans : ∀ a b c, R a b → R b c → R a c) (hok : ops.all (okOper n) = true) (hsel : Region.noSelect ops = true) {K : Env → World → Prop} :
    ∀ (π : List (Nat × Fl × Bool)) (listed : Array Bool) (E : Env) (w : World), planOk ops ld π listed = true →
      Dw P n (ops.toList.map (·.dst)) R (selp ops.toList π) K E w → wpAnyR P ops (lift n (nf K)) R ld π.length listed (act n E) w := by
  intro π
  induction π with
  | nil => intro listed E w hp h; exact ⟨by simpa [planOk] using hp, E, rfl, h⟩
  | cons x r ih =>
    intro listed E w hp h
    obtain ⟨i, f, anc⟩ := x
    have hQ : ∀ (d : Option Tmp) (v : Value) c a w, lift n (nf K) (.panic c) (a.put d v) w → lift n (nf K) (.panic c) a w := fun _ _ _ _ _ ⟨_, _, hf⟩ => hf.elim
    have key : ∀ (oi : Oper), ops[i]? = some oi → nth ops.toList i = oi ∧ okOper n oi = true := fun oi hi =>
      ⟨nth_eq _ _ _ (by simpa using hi), Array.all_eq_true_iff_forall_mem.1 hok oi (Array.mem_of_getElem? hi)⟩
    cases f with
    | x =>
      simp only [planOk, Bool.and_eq_true] at hp
      obtain ⟨⟨hr, ha⟩, hp'⟩ := hp
      have hr' : Region.ready .any ops listed = [i] := by simpa using hr
      refine ⟨fun h0 => (by rw [h0] at hr'; cases hr'), fun j hj => ?_⟩
      rw [hr', List.mem_singleton] at hj
      subst hj
      obtain ⟨_, oi, hi, _⟩ := mem_ready.1 (by rw [hr']; exact List.mem_singleton.2 rfl : j ∈ Region.ready .any ops listed)
      obtain ⟨hn, hoo⟩ := key oi hi
      simp only [selp, Dw, hn] at h
      unfold wpOp
      simp only [hi]
      rw [wanted_eq oi hok]
      split at h <;> rename_i hg
      · rw [if_pos hg]
        refine .inl (Oper.wp_monoQ (Oper.wp_mono ?_ (h hoo)))
        rintro a w' ⟨E', rfl, hR, hd⟩
        refine ⟨?_, ih _ E' w' hp' hd⟩
        cases anc with
        | false => exact .inl (hR rfl)
        | true =>
          refine .inr fun k hk hl hne => ?_
          simp only [Bool.not_true, Bool.false_or] at ha
          have h1 := List.all_eq_true.1 ha k hk
          simp only [hl, Bool.not_true, Bool.false_or, Bool.or_eq_true, beq_iff_eq] at h1
          exact h1.resolve_left hne
      · rw [if_neg hg, act_put]
        exact ⟨.inl (hrefl w), ih _ _ w hp' h⟩
    | p =>
      simp only [planOk, Bool.and_eq_true] at hp
      obtain ⟨⟨hr, hf⟩, hp'⟩ := hp
      have hr' : i ∈ Region.ready .any ops listed := by simpa using hr
      obtain ⟨_, oi, hi, _⟩ := mem_ready.1 hr'
      obtain ⟨hn, hoo⟩ := key oi hi
      simp only [selp, Dw, hn] at h
      split at h <;> rename_i hg
      · obtain ⟨v, hv, hd⟩ := h
        exact wpAnyR_first (B := false) (v := v) hrefl htrans (fun h => by cases h) hi (Region.noSelect_spec hsel) (hQ _ _) _ _ _ _ (Region.free_spec hi hf) hr'
          (yieldsIf_LV hok hoo hg fun w _ => hv w) (by rw [act_put]; exact ih _ _ w hp' hd)
      · exact wpAnyR_first (B := false) (v := undef) hrefl htrans (fun h => by cases h) hi (Region.noSelect_spec hsel) (hQ _ _) _ _ _ _ (Region.free_spec hi hf) hr'
          (yieldsIf_skip hok hg) (by rw [act_put]; exact ih _ _ w hp' h)
    | l =>
      simp only [planOk, Bool.and_eq_true] at hp
      obtain ⟨⟨⟨hr, hf⟩, hl⟩, hp'⟩ := hp
      have hr' : i ∈ Region.ready .any ops listed := by simpa using hr
      obtain ⟨_, oi, hi, _⟩ := mem_ready.1 hr'
      obtain ⟨hn, hoo⟩ := key oi hi
      simp only [selp, Dw, hn] at h
      split at h <;> rename_i hg
      · obtain ⟨v, hv, hd⟩ := h
        exact wpAnyR_first (B := true) (v := v) hrefl htrans (fun _ => by simpa using hl) hi (Region.noSelect_spec hsel) (hQ _ _) _ _ _ _ (Region.free_spec hi hf) hr'
          (yieldsIf_LV hok hoo hg fun w hw => hv w (hw rfl)) (by rw [act_put]; exact ih _ _ w hp' hd)
      · exact wpAnyR_first (B := true) (v := undef) hrefl htrans (fun _ => by simpa using hl) hi (Region.noSelect_spec hsel) (hQ _ _) _ _ _ _ (Region.free_spec hi hf) hr'
          (yieldsIf_skip hok hg) (by rw [act_put]; exact ih _ _ w hp' h)

theorem W_draw {id : Nat} {l : List Oper} {Q : Exit → Env → World → Prop} (hrefl : ∀ w, R w w) (htrans : ∀ a b c, R a b → R b c → R a c) (hm : P.follows .mixedOrders = true)
    (ld : List Nat) (π : List (Nat × Fl × Bool)) (hlen : Nat.beq π.length l.length = true)
    (hp : planOk l.toArray ld π (Array.replicate l.length false) = true) (hsel : Region.noSelect l.toArray = true)
    (h : ∀ w1, w1 = w.drew → Dw P n (l.map (·.dst)) R (selp l π) (fun E w => Q .normal E w) E w1) : W P n (.region id l.toArray true) Q E w := by
  intro ok
  simp only [okCode] at ok
  have h' := wpAnyR_of_Dw (P := P) (ld := ld) hrefl htrans ok hsel π (Array.replicate l.length false) E w.drew hp (by simpa using h _ rfl)
  have hlen' : π.length = l.length := Nat.eq_of_beq_eq_true hlen
  rw [hlen'] at h'
  refine Code.wp_mono (Q := lift n (nf fun E w => Q .normal E w)) ?_ (wp_region_any hm (by simpa using wpAny_of_R _ _ _ _ h'))
  rintro e a w' ⟨E', rfl, hq⟩
  cases e <;> first | exact ⟨E', rfl, hq⟩ | exact hq.elim

/-! ### An order in which several may come up -/

inductive Pl where
  | nil
  | stop
  /-- the next one, whatever else may come up -/
  | one (i : Nat) (f : Fl) (anc : Bool) (rest : Pl)
  /-- several effects may come up: a chain of 'alt' -/
  | fork (chain : Pl)
  /-- one of those that may come up, and what follows it; the others -/
  | alt (i : Nat) (anc : Bool) (sub : Pl) (others : Pl)

def Pl.heads : Pl → List Nat
  | .alt i _ _ o => i :: o.heads
  | _ => []

def Pl.ok : Pl → Bool
  | .alt .. => false
  | .stop => false
  | _ => true

theorem Pl.ok_spec {π : Pl} (h : π.ok = true) : π.heads = [] ∧ π ≠ .stop := by
  cases π <;> simp [Pl.ok, Pl.heads] at h ⊢

def DwT (P : Program) (n : Nat) (l : List Oper) (ds : List (Option Tmp)) (R : World → World → Prop) : Pl → (Env → World → Prop) → Env → World → Prop
  | .nil, K, E, w => K E w
  | .stop, _, _, _ => True
  | .one i .p _ rest, K, E, w => if guardB ds E (nth l i).guard = true then ∃ v, PV P (nth l i) E v ∧ DwT P n l ds R rest K (updO E (nth l i).dst v) w else DwT P n l ds R rest K (updO E (nth l i).dst undef) w
  | .one i .l _ rest, K, E, w => if guardB ds E (nth l i).guard = true then ∃ v, (∀ w', R w w' → LV P (nth l i) E w' v) ∧ DwT P n l ds R rest K (updO E (nth l i).dst v) w else DwT P n l ds R rest K (updO E (nth l i).dst undef) w
  | .one i .x anc rest, K, E, w => if guardB ds E (nth l i).guard = true then XW P n (nth l i) E w (fun E' w' => (anc = false → R w w') ∧ DwT P n l ds R rest K E' w') else DwT P n l ds R rest K (updO E (nth l i).dst undef) w
  | .fork c, K, E, w => DwT P n l ds R c K E w
  | .alt i anc sub others, K, E, w => (if guardB ds E (nth l i).guard = true then XW P n (nth l i) E w (fun E' w' => (anc = false → R w w') ∧ DwT P n l ds R sub K E' w') else DwT P n l ds R sub K (updO E (nth l i).dst undef) w) ∧
      DwT P n l ds R others K E w

def ancB (ops : Array Oper) (ld : List Nat) (listed : Array Bool) (i : Nat) : Bool := ld.all fun k => !listed.getD k false || k == i || edge ops i k

def planT (ops : Array Oper) (ld : List Nat) : Pl → Nat → Array Bool → Bool
  | .nil, _, listed => (Region.ready .any ops listed).isEmpty
  | .stop, _, _ => true
  | .one i .x anc r, fuel + 1, listed => (Region.ready .any ops listed == [i]) && (!anc || ancB ops ld listed i) && r.ok && planT ops ld r fuel (listed.setIfInBounds i true)
  | .one i .p _ r, fuel + 1, listed => (Region.ready .any ops listed).contains i && Region.free .any ops listed i && r.ok && planT ops ld r fuel (listed.setIfInBounds i true)
  | .one i .l _ r, fuel + 1, listed => (Region.ready .any ops listed).contains i && Region.free .any ops listed i && ld.contains i && r.ok && planT ops ld r fuel (listed.setIfInBounds i true)
  | .fork c, fuel, listed => (Region.ready .any ops listed).all (fun j => c.heads.contains j) && !(Region.ready .any ops listed).isEmpty && planT ops ld c fuel listed
  | .alt i anc sub others, fuel + 1, listed => (Region.ready .any ops listed).contains i && (!anc || ancB ops ld listed i) && sub.ok && planT ops ld sub fuel (listed.setIfInBounds i true) && planT ops ld others (fuel + 1) listed
  | _, _, _ => false

theorem ancB_spec {listed : Array Bool} {i : Nat} {anc : Bool} (h : (!anc || ancB ops ld listed i) = true) (ha : anc = true) : Anc ops ld listed i := by
  subst ha
  simp only [Bool.not_true, Bool.false_or] at h
  intro k hk hl hne
  have h1 := List.all_eq_true.1 h k hk
  simp only [hl, Bool.not_true, Bool.false_or, Bool.or_eq_true, beq_iff_eq] at h1
  exact h1.resolve_left hne

theorem wpAnyR_of_DwT (hrefl : ∀ w, R w w) (htrans : ∀ a b c, R a b → R b c → R a c) (hok : ops.all (okOper n) = true) (hsel : Region.noSelect ops = true) {K : Env → World → Prop} :
    ∀ (π : Pl) (fuel : Nat) (listed : Array Bool) (E : Env) (w : World), planT ops ld π fuel listed = true → DwT P n ops.toList (ops.toList.map (·.dst)) R π K E w →
      (π.heads = [] → π ≠ .stop → wpAnyR P ops (lift n (nf K)) R ld fuel listed (act n E) w) ∧
      (∀ i ∈ π.heads, ∃ k, fuel = k + 1 ∧ wpOp P ops (lift n (nf K)) i (fun a' w' => (R w w' ∨ Anc ops ld listed i) ∧ wpAnyR P ops (lift n (nf K)) R ld k (listed.setIfInBounds i true) a' w') (act n E) w) := by
  have hQ : ∀ (d : Option Tmp) (v : Value) c a w, lift n (nf K) (.panic c) (a.put d v) w → lift n (nf K) (.panic c) a w := fun _ _ _ _ _ ⟨_, _, hf⟩ => hf.elim
  have key : ∀ (i : Nat) (oi : Oper), ops[i]? = some oi → nth ops.toList i = oi ∧ okOper n oi = true := fun i oi hi =>
    ⟨nth_eq _ _ _ (by simpa using hi), Array.all_eq_true_iff_forall_mem.1 hok oi (Array.mem_of_getElem? hi)⟩
  -- one effect
  have eff : ∀ (i : Nat) (anc : Bool) (rest : Pl) (fuel : Nat) (listed : Array Bool) (E : Env) (w : World), i ∈ Region.ready .any ops listed → (!anc || ancB ops ld listed i) = true →
      (∀ E' w', DwT P n ops.toList (ops.toList.map (·.dst)) R rest K E' w' → wpAnyR P ops (lift n (nf K)) R ld fuel (listed.setIfInBounds i true) (act n E') w') →
      (if guardB (ops.toList.map (·.dst)) E (nth ops.toList i).guard = true then XW P n (nth ops.toList i) E w (fun E' w' => (anc = false → R w w') ∧ DwT P n ops.toList (ops.toList.map (·.dst)) R rest K E' w') else DwT P n ops.toList (ops.toList.map (·.dst)) R rest K (updO E (nth ops.toList i).dst undef) w) →
      wpOp P ops (lift n (nf K)) i (fun a' w' => (R w w' ∨ Anc ops ld listed i) ∧ wpAnyR P ops (lift n (nf K)) R ld fuel (listed.setIfInBounds i true) a' w') (act n E) w := by
    intro i anc rest fuel listed E w hi ha ih h
    obtain ⟨_, oi, hoi, _⟩ := mem_ready.1 hi
    obtain ⟨hn, hoo⟩ := key i oi hoi
    rw [hn] at h
    unfold wpOp
    simp only [hoi]
    rw [wanted_eq oi hok]
    split at h <;> rename_i hg
    · rw [if_pos hg]
      refine .inl (Oper.wp_monoQ (Oper.wp_mono ?_ (h hoo)))
      rintro a w' ⟨E', rfl, hR, hd⟩
      refine ⟨?_, ih E' w' hd⟩
      cases anc with
      | false => exact .inl (hR rfl)
      | true => exact .inr (ancB_spec ha rfl)
    · rw [if_neg hg, act_put]
      exact ⟨.inl (hrefl w), ih _ w h⟩
  intro π
  induction π with
  | nil => intro fuel listed E w hp h; refine ⟨fun _ _ => ?_, fun i hi => by cases hi⟩
           simp only [planT, List.isEmpty_iff] at hp
           cases fuel with
           | zero => exact ⟨hp, E, rfl, h⟩
           | succ k => exact ⟨fun _ => ⟨E, rfl, h⟩, by rw [hp]; intro i hi; cases hi⟩
  | stop => intro fuel listed E w _ _; exact ⟨fun _ h => absurd rfl h, fun i hi => by cases hi⟩
  | fork c ih =>
    intro fuel listed E w hp h
    simp only [planT, Bool.and_eq_true] at hp
    obtain ⟨⟨hall, hne⟩, hp'⟩ := hp
    simp only [DwT] at h
    have hc := (ih fuel listed E w hp' h).2
    refine ⟨fun _ _ => ?_, fun i hi => by cases hi⟩
    have hin : ∀ i ∈ Region.ready .any ops listed, i ∈ c.heads := fun i hi => by simpa using List.all_eq_true.1 hall i hi
    cases fuel with
    | zero =>
      cases hr : Region.ready .any ops listed with
      | nil => rw [hr] at hne; simp at hne
      | cons i r =>
        obtain ⟨k, hk, _⟩ := hc i (hin i (by rw [hr]; exact List.mem_cons_self))
        omega
    | succ k =>
      refine ⟨fun h0 => by rw [h0] at hne; simp at hne, fun i hi => ?_⟩
      obtain ⟨k', hk, hw⟩ := hc i (hin i hi)
      have : k' = k := by omega
      subst this
      exact hw
  | alt i anc sub others ihs iho =>
    intro fuel listed E w hp h
    refine ⟨fun h0 => by simp [Pl.heads] at h0, fun j hj => ?_⟩
    cases fuel with
    | zero => simp [planT] at hp
    | succ k =>
      simp only [planT, Bool.and_eq_true] at hp
      obtain ⟨⟨⟨⟨hr, ha⟩, hso⟩, hps⟩, hpo⟩ := hp
      simp only [DwT] at h
      rcases List.mem_cons.1 hj with rfl | hj'
      · refine ⟨k, rfl, eff j anc sub k listed E w (by simpa using hr) ha (fun E' w' hd => ?_) h.1⟩
        exact (ihs k _ E' w' hps hd).1 (Pl.ok_spec hso).1 (Pl.ok_spec hso).2
      · exact (iho (k + 1) listed E w hpo h.2).2 j hj'
  | one i f anc rest ih =>
    intro fuel listed E w hp h
    refine ⟨fun _ _ => ?_, fun j hj => by cases hj⟩
    cases fuel with
    | zero => cases f <;> simp [planT] at hp
    | succ k =>
      cases f with
      | x =>
        simp only [planT, Bool.and_eq_true] at hp
        obtain ⟨⟨⟨hr, ha⟩, ho⟩, hp'⟩ := hp
        have hr' : Region.ready .any ops listed = [i] := by simpa using hr
        simp only [DwT] at h
        refine ⟨fun h0 => (by rw [h0] at hr'; cases hr'), fun j hj => ?_⟩
        rw [hr', List.mem_singleton] at hj
        subst hj
        exact eff j anc rest k listed E w (by rw [hr']; exact List.mem_singleton.2 rfl) ha (fun E' w' hd => (ih k _ E' w' hp' hd).1 (Pl.ok_spec ho).1 (Pl.ok_spec ho).2) h
      | p =>
        simp only [planT, Bool.and_eq_true] at hp
        obtain ⟨⟨⟨hr, hf⟩, ho⟩, hp'⟩ := hp
        have hr' : i ∈ Region.ready .any ops listed := by simpa using hr
        obtain ⟨_, oi, hi, _⟩ := mem_ready.1 hr'
        obtain ⟨hn, hoo⟩ := key i oi hi
        simp only [DwT, hn] at h
        split at h <;> rename_i hg
        · obtain ⟨v, hv, hd⟩ := h
          exact wpAnyR_first (B := false) (v := v) hrefl htrans (fun h => by cases h) hi (Region.noSelect_spec hsel) (hQ _ _) _ _ _ _ (Region.free_spec hi hf) hr'
            (yieldsIf_LV hok hoo hg fun w _ => hv w) (by rw [act_put]; exact (ih k _ _ w hp' hd).1 (Pl.ok_spec ho).1 (Pl.ok_spec ho).2)
        · exact wpAnyR_first (B := false) (v := undef) hrefl htrans (fun h => by cases h) hi (Region.noSelect_spec hsel) (hQ _ _) _ _ _ _ (Region.free_spec hi hf) hr'
            (yieldsIf_skip hok hg) (by rw [act_put]; exact (ih k _ _ w hp' h).1 (Pl.ok_spec ho).1 (Pl.ok_spec ho).2)
      | l =>
        simp only [planT, Bool.and_eq_true] at hp
        obtain ⟨⟨⟨⟨hr, hf⟩, hl⟩, ho⟩, hp'⟩ := hp
        have hr' : i ∈ Region.ready .any ops listed := by simpa using hr
        obtain ⟨_, oi, hi, _⟩ := mem_ready.1 hr'
        obtain ⟨hn, hoo⟩ := key i oi hi
        simp only [DwT, hn] at h
        split at h <;> rename_i hg
        · obtain ⟨v, hv, hd⟩ := h
          exact wpAnyR_first (B := true) (v := v) hrefl htrans (fun _ => by simpa using hl) hi (Region.noSelect_spec hsel) (hQ _ _) _ _ _ _ (Region.free_spec hi hf) hr'
            (yieldsIf_LV hok hoo hg fun w hw => hv w (hw rfl)) (by rw [act_put]; exact (ih k _ _ w hp' hd).1 (Pl.ok_spec ho).1 (Pl.ok_spec ho).2)
        · exact wpAnyR_first (B := true) (v := undef) hrefl htrans (fun _ => by simpa using hl) hi (Region.noSelect_spec hsel) (hQ _ _) _ _ _ _ (Region.free_spec hi hf) hr'
            (yieldsIf_skip hok hg) (by rw [act_put]; exact (ih k _ _ w hp' h).1 (Pl.ok_spec ho).1 (Pl.ok_spec ho).2)

theorem W_drawT {id : Nat} {l : List Oper} {Q : Exit → Env → World → Prop} (hrefl : ∀ w, R w w) (htrans : ∀ a b c, R a b → R b c → R a c) (hm : P.follows .mixedOrders = true)
    (ld : List Nat) (π : Pl) (hp : (π.ok && planT l.toArray ld π l.length (Array.replicate l.length false)) = true) (hsel : Region.noSelect l.toArray = true)
    (h : ∀ w1, w1 = w.drew → DwT P n l (l.map (·.dst)) R π (fun E w => Q .normal E w) E w1) : W P n (.region id l.toArray true) Q E w := by
  intro ok
  simp only [okCode] at ok
  simp only [Bool.and_eq_true] at hp
  have h' := (wpAnyR_of_DwT (P := P) (ld := ld) hrefl htrans ok hsel π l.length (Array.replicate l.length false) E w.drew hp.2 (by simpa using h _ rfl)).1 (Pl.ok_spec hp.1).1 (Pl.ok_spec hp.1).2
  refine Code.wp_mono (Q := lift n (nf fun E w => Q .normal E w)) ?_ (wp_region_any hm (by simpa using wpAny_of_R _ _ _ _ h'))
  rintro e a w' ⟨E', rfl, hq⟩
  cases e <;> first | exact ⟨E', rfl, hq⟩ | exact hq.elim

/-! the tree's steps, by the list's: what is shown of the list 'one operation' serves the tree -/

/-- One step of the tree, shown as the first step of a list. -/
theorem T_one {l : List Oper} {ds : List (Option Tmp)} {i : Nat} {f : Fl} {anc : Bool} {rest : Pl} {K : Env → World → Prop}
    (h : Dw P n ds R [(nth l i, f, anc)] (fun E' w' => DwT P n l ds R rest K E' w') E w) : DwT P n l ds R (.one i f anc rest) K E w := by
  cases f <;> exact h

theorem T_fork {l : List Oper} {ds : List (Option Tmp)} {c : Pl} {K : Env → World → Prop} (h : DwT P n l ds R c K E w) : DwT P n l ds R (.fork c) K E w := h
theorem T_alt {l : List Oper} {ds : List (Option Tmp)} {i : Nat} {anc : Bool} {sub others : Pl} {K : Env → World → Prop}
    (h : Dw P n ds R [(nth l i, .x, anc)] (fun E' w' => DwT P n l ds R sub K E' w') E w) (ho : DwT P n l ds R others K E w) : DwT P n l ds R (.alt i anc sub others) K E w := ⟨h, ho⟩
theorem T_stop {l : List Oper} {ds : List (Option Tmp)} {K : Env → World → Prop} : DwT P n l ds R .stop K E w := trivial
theorem T_nil {l : List Oper} {ds : List (Option Tmp)} {K : Env → World → Prop} (h : K E w) : DwT P n l ds R .nil K E w := h

end
end Go.Vc
