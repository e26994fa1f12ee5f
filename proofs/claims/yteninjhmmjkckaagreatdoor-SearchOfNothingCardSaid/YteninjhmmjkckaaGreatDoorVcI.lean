/-
  A range over a function: walks in a round's frame, and behind one. Nothing is assumed.
-/
import Derived.Test.YteninjhmmjkckaaGreatDoorVcM
import Derived.Test.YteninjhmmjkckaaGreatDoorVcW
import Derived.Test.YteninjhmmjkckaaGreatDoorVcU
import Derived.RangeFuncRecord
import Derived.RangeFuncOwn
import Derived.OrdersIn
import Derived.TacticsIn
namespace Go.Vc
open Go.RowKit
set_option linter.unusedVariables false
set_option linter.unusedSimpArgs false

/-- The widest fence, of a round's frame or of none. -/
def wideR (r : Option Nat) : Fence := { Fence.wide with round := r }
def noDefOp (o : Oper) : Bool := match o.op with
  | .defer .. => false
  | _ => true
theorem noDefOp_spec {o : Oper} (h : noDefOp o = true) : ∀ c, o.op ≠ .defer c := fun c e => by unfold noDefOp at h; rw [e] at h; cases h

def okX (n : Nat) : Code → Bool
  | .skip | .exit _ | .ret => true
  | .region _ ops _ => ops.all (okOper n) && ops.all noDefOp
  | .seq a b => okX n a && okX n b
  | .cond c a b => opB n c && okX n a && okX n b
  | .block _ c => okX n c
  | .loop c => okX n c
  | .rangeFunc g ps a b => opB n g && ps.all (Nat.blt · n) && okX n a && okX n b
  | _ => false

def actD (n : Nat) (E : Env) (ds : List Deferred) : Act := ⟨Array.ofFn (n := n) fun i => E i.val, ds⟩
def addD (ds : List Deferred) (a : Act) : Act := { a with defers := a.defers ++ ds }
theorem addD_act (n : Nat) (E : Env) (ds : List Deferred) : addD ds (act n E) = actD n E ds := rfl
theorem addD_put (ds : List Deferred) (a : Act) (d : Option Tmp) (v : Value) : (addD ds a).put d v = addD ds (a.put d v) := by cases d <;> rfl
theorem actD_eval {n : Nat} {E : Env} {ds : List Deferred} {x : Operand} (h : opB n x = true) : (actD n E ds).eval x = ev E x := act_eval h

abbrev QX := Exit → Env → List Deferred → World → Prop
def liftX (n : Nat) (Q : QX) : Exit → Act → World → Prop := fun e a w => ∃ E ds, a = actD n E ds ∧ Q e E ds w
def WX (r : Option Nat) (ds : List Deferred) (P : Program) (n : Nat) (c : Code) (Q : QX) (E : Env) (w : World) : Prop :=
  okX n c = true → c.wpIn (wideR r) 0 P (liftX n Q) (actD n E ds) w
def thenX (K : Env → List Deferred → World → Prop) (Q : QX) : QX
  | .normal, E, ds, w => K E ds w
  | e, E, ds, w => Q e E ds w
def inBlkX (id : Nat) (Q : QX) : QX
  | .exit id', E, ds, w => cond (Nat.beq id' id) (Q .normal E ds w) (Q (.exit id') E ds w)
  | e, E, ds, w => Q e E ds w

section
variable {r : Option Nat} {ds : List Deferred} {P : Program} {n : Nat} {Q : QX} {E : Env} {w : World}

theorem WX_mono {c : Code} {Q' : QX} (h : WX r ds P n c Q E w) (hq : ∀ e E ds w, Q e E ds w → Q' e E ds w) : WX r ds P n c Q' E w :=
  fun ok => Go.wpIn_mono (h ok) fun _ _ _ ⟨E', d', he, hQ⟩ => ⟨E', d', he, hq _ _ _ _ hQ⟩
theorem WX_seq {x y : Code} (h : ∀ K : Env → List Deferred → World → Prop, (∀ E ds w, WX r ds P n y Q E w → K E ds w) → WX r ds P n x (thenX K Q) E w) : WX r ds P n (.seq x y) Q E w := by
  intro ok
  simp only [okX, Bool.and_eq_true] at ok
  refine wpIn_seq (Go.wpIn_mono (h (fun E ds w => WX r ds P n y Q E w) (fun _ _ _ h => h) ok.1) ?_)
  intro e a w' hq
  obtain ⟨E', d', rfl, hQ⟩ := hq
  cases e <;> first | exact hQ ok.2 | exact ⟨E', d', rfl, hQ⟩
theorem WX_skip (h : Q .normal E ds w) : WX r ds P n .skip Q E w := fun _ => wpIn_skip ⟨E, ds, rfl, h⟩
theorem WX_ret (h : Q .ret E ds w) : WX r ds P n .ret Q E w := fun _ => wpIn_ret ⟨E, ds, rfl, h⟩
theorem WX_exit {id : Nat} (h : Q (.exit id) E ds w) : WX r ds P n (.exit id) Q E w := fun _ => wpIn_exit ⟨E, ds, rfl, h⟩
theorem WX_cond {c : Operand} {x y : Code} {t : Bool} (hc : ev E c = .bool t) (ht : t = true → WX r ds P n x Q E w) (hf : t = false → WX r ds P n y Q E w) : WX r ds P n (.cond c x y) Q E w := by
  intro ok
  simp only [okX, Bool.and_eq_true] at ok
  exact wpIn_cond_split (t := t) (by rw [actD_eval ok.1.1]; exact hc) (fun h => ht h ok.1.2) (fun h => hf h ok.2)
theorem WX_if {c : Operand} {x y : Code} {p : Prop} [Decidable p] (hc : ev E c = .bool (decide p)) (ht : p → WX r ds P n x Q E w) (hf : ¬ p → WX r ds P n y Q E w) : WX r ds P n (.cond c x y) Q E w :=
  WX_cond hc (fun h => ht (of_decide_eq_true h)) (fun h => hf (of_decide_eq_false h))
theorem WX_block {id : Nat} {c : Code} (h : WX r ds P n c (inBlkX id Q) E w) : WX r ds P n (.block id c) Q E w := by
  intro ok
  refine wpIn_block (Go.wpIn_mono (h ok) ?_)
  rintro e a w' ⟨E', d', rfl, hQ⟩
  cases e with
  | exit id' =>
    simp only [Exit.inBlock]
    by_cases hid : id' = id
    · subst hid
      simp only [if_true]
      refine ⟨E', d', rfl, ?_⟩
      simpa [inBlkX] using hQ
    · simp only [hid, if_false]
      refine ⟨E', d', rfl, ?_⟩
      simpa [inBlkX, nbeq_false hid] using hQ
  | _ => exact ⟨E', d', rfl, hQ⟩
theorem WX_loop {c : Code} {G : Type} (sl : G → List (Nat × Value)) (F : G → World → Prop) (μ : G → Nat) (g0 : G) (h0 : holds (sl g0) E) (hF0 : F g0 w)
    (round : ∀ (E : Env) (g : G) (w : World), F g w → WX r ds P n c (thenX (fun E' d' w' => d' = ds ∧ ∃ g', holds (sl g') E' ∧ F g' w' ∧ μ g' < μ g) Q) (env (sl g) E) w) : WX r ds P n (.loop c) Q E w := by
  intro ok
  have ok' : okX n c = true := ok
  -- the measure stands in the ghost: one loop rule a ghost at a time, by strong induction over machines
  intro b k cs hro hb hr
  have key : ∀ (m : Nat) (E : Env) (g : G) (w : World), μ g = m → holds (sl g) E → F g w →
      ∃ e a' w', liftX n Q e a' w' ∧ ArrivesIn (Machine.fenced P (wideR r)) P (lone (b.atR (actD n E ds) (.code c :: .inLoop c :: k)) cs w) b k cs e a' w' := by
    intro m
    induction m using Nat.strongRecOn with
    | _ m ih =>
      intro E g w hm hh hF
      have hq0 := round E g w hF ok'
      rw [env_of_holds hh] at hq0
      obtain ⟨e, a1, w1, ⟨E1, d1, rfl, hq⟩, harr⟩ := hq0 b (.inLoop c :: k) cs hro hb hr
      cases e with
      | normal =>
        obtain ⟨rfl, g', hh', hF', hlt⟩ := hq
        obtain ⟨e2, a2, w2, hq2, harr2⟩ := ih (μ g') (hm ▸ hlt) E1 g' w1 rfl hh' hF'
        exact ⟨e2, a2, w2, hq2, .of_steps (StepsIn.trans harr (.one (fenced_calm hb hr rfl) stepR_inLoop)) harr2⟩
      | exit id => exact ⟨_, _, w1, ⟨E1, d1, rfl, hq⟩, .pass (x := .inLoop c) rfl (fun _ _ => .inl (by simp)) harr⟩
      | goto l => exact ⟨_, _, w1, ⟨E1, d1, rfl, hq⟩, .pass (x := .inLoop c) rfl (fun _ _ => .inl (by simp)) harr⟩
      | ret => exact ⟨_, _, w1, ⟨E1, d1, rfl, hq⟩, .pass (x := .inLoop c) rfl (fun _ _ => .inl (by simp)) harr⟩
      | panic ch => exact ⟨_, _, w1, ⟨E1, d1, rfl, hq⟩, .pass (x := .inLoop c) rfl (fun _ _ => .inl (by simp)) harr⟩
      | outgrown => exact ⟨_, _, w1, ⟨E1, d1, rfl, hq⟩, .pass (x := .inLoop c) rfl (fun _ _ => .inl (by simp)) harr⟩
  obtain ⟨e, a', w', hq, harr⟩ := key (μ g0) E g0 w rfl h0 hF0
  exact ⟨e, a', w', hq, .of_steps (.one (fenced_calm hb hr rfl) stepR_loop) harr⟩

/-! ### regions: what was shown of a plain frame serves -/
theorem rowsIn_wideR {row : String} {args : Array Value} {R : Value → World → Prop} (h : Rows P row args w R) : RowsIn (wideR r) 0 P row args w R := fun c cs _ => by
  obtain ⟨v, w', hR, hs⟩ := h c cs
  exact ⟨v, w', hR, stepsIn_wide.2 hs⟩
theorem callsIn_wideR {m : Nat} {f : FuncId} {args : Array Value} {R : Ending → World → Prop} (h : Calls P f args w R) : CallsIn (wideR r) m P f args w R := callsIn_wide.2 h

theorem opIn_of {o : Oper} (hd : noDefOp o = true) {a : Act} {K0 K : Act → World → Prop} {Q0 Q : Exit → Act → World → Prop} (hK : ∀ a w, K0 a w → K (addD ds a) w) (hQ : ∀ e a w, e ≠ .normal → ¬ Q0 e a w)
    (h : o.wp P a w K0 Q0) : o.wpIn (wideR r) 0 P (addD ds a) w K Q := by
  have hs := noDefOp_spec hd
  unfold Oper.wp at h
  unfold Oper.wpIn
  refine ⟨fun _ _ => trivial, ?_⟩
  rw [Oper.semAt_eq _ _ _ hs]
  have he : (addD ds a).eval = a.eval := rfl
  rw [he]
  generalize hres : (execOp a.eval o).run P w = res at *
  cases res with
  | ok x w' =>
    cases x <;> simp only [Oper.upon, Oper.uponIn] at h ⊢
    case value v => rw [addD_put]; exact hK _ _ h
    case skip => rw [addD_put]; exact hK _ _ h
    case enter f args =>
      refine ⟨fun h => by simp [wideR, Fence.wide] at h, callsIn_wideR (Calls.mono h fun e w'' he => ?_)⟩
      cases e with
      | returned v => show K ((addD ds a).put o.dst v) w''; rw [addD_put]; exact hK _ _ he
      | panicked c => exact (hQ _ _ _ (by simp) he).elim
      | outgrown => obtain ⟨a', w0, hf⟩ := he; exact (hQ _ _ _ (by simp) hf).elim
    case row row args =>
      refine ⟨fun h => by simp [wideR, Fence.wide] at h, rowsIn_wideR (Rows.mono h fun v w'' he => ?_)⟩
      rw [addD_put]; exact hK _ _ he
    case defer d =>
      have e : ({ addD ds a with defers := d :: (addD ds a).defers } : Act) = addD ds { a with defers := d :: a.defers } := rfl
      rw [e, addD_put]; exact hK _ _ h
  | halt x w' =>
    cases x <;> simp only [Oper.upon] at h ⊢
    exact (hQ _ _ _ (by simp) h).elim

theorem listIn_of {ops : Array Oper} {Q0 Q1 : Exit → Act → World → Prop} (hn : ∀ a w, Q0 .normal a w → Q1 .normal (addD ds a) w) (hQ : ∀ e a w, e ≠ .normal → ¬ Q0 e a w) :
    ∀ (l : List Oper) (a : Act) (w : World), (∀ o ∈ l, noDefOp o = true) → wpList P ops Q0 l a w → wpListIn (wideR r) 0 P ops Q1 l (addD ds a) w
  | [], a, w, _, h => hn _ _ h
  | o :: l, a, w, hd, h => by
    have ih := listIn_of (ops := ops) hn hQ l
    have hd' : ∀ o ∈ l, noDefOp o = true := fun o h => hd o (List.mem_cons_of_mem _ h)
    unfold wpList at h
    unfold wpListIn
    have hy : (addD ds a).tmps = a.tmps := rfl
    rw [hy]
    split
    · rename_i hw
      rw [if_pos hw] at h
      rcases h with h | ⟨_, a', w0, hf⟩
      · exact opIn_of (hd o List.mem_cons_self) (fun a w h => ih a w hd' h) hQ h
      · exact (hQ _ _ _ (by simp) hf).elim
    · rename_i hw
      rw [if_neg hw] at h
      refine ⟨fun _ _ => trivial, ?_⟩
      rw [addD_put]
      exact ih _ _ hd' h

theorem anyIn_of {ops : Array Oper} {Q0 Q1 : Exit → Act → World → Prop} (hn : ∀ a w, Q0 .normal a w → Q1 .normal (addD ds a) w) (hQ : ∀ e a w, e ≠ .normal → ¬ Q0 e a w) (hd : ∀ (i : Nat) o, ops[i]? = some o → noDefOp o = true) :
    ∀ (fuel : Nat) (listed : Array Bool) (a : Act) (w : World), wpAny P .any ops Q0 fuel listed a w → wpAnyIn (wideR r) 0 P .any ops Q1 fuel listed (addD ds a) w
  | 0, _, _, _, h => ⟨h.1, hn _ _ h.2⟩
  | fuel + 1, listed, a, w, h => by
    refine ⟨fun h0 => hn _ _ (h.1 h0), fun i hi => ?_⟩
    have ih := anyIn_of (ops := ops) hn hQ hd fuel (listed.setIfInBounds i true)
    have h1 := h.2 i hi
    unfold wpOp at h1
    unfold wpOpIn
    cases ho : ops[i]? with
    | none => simp only [ho] at h1; exact ih _ _ h1
    | some o =>
      simp only [ho] at h1 ⊢
      have hy : (addD ds a).tmps = a.tmps := rfl
      rw [hy]
      split
      · rename_i hw
        rw [if_pos hw] at h1
        rcases h1 with h1 | ⟨_, a', w0, hf⟩
        · exact opIn_of (hd i o ho) (fun a w h => ih a w h) hQ h1
        · exact (hQ _ _ _ (by simp) hf).elim
      · rename_i hw
        rw [if_neg hw] at h1
        refine ⟨fun _ _ => trivial, ?_⟩
        rw [addD_put]
        exact ih _ _ h1

theorem nf_no {K : Env → World → Prop} : ∀ e a w, e ≠ .normal → ¬ lift n (nf K) e a w := by
  rintro e a w he ⟨E, rfl, h⟩
  cases e <;> first | exact he rfl | exact h

theorem WX_reg {id : Nat} {l : List Oper} (fs : List Fl) (hl : Nat.beq l.length fs.length = true)
    (h : Dw P n (l.map (·.dst)) (fun a b => a = b) (mkp l fs) (fun E w => Q .normal E ds w) E w) : WX r ds P n (.region id l.toArray false) Q E w := by
  intro ok
  simp only [okX, Bool.and_eq_true] at ok
  refine wpIn_region_list ?_
  have h1 : wpList P l.toArray (lift n (nf fun E w => Q .normal E ds w)) l (act n E) w :=
    wpList_of_Dw (K := fun E w => Q .normal E ds w) ok.1 (fun _ _ h => h) _ fs E w (Nat.eq_of_beq_eq_true hl) (fun o ho => Array.all_eq_true_iff_forall_mem.1 ok.1 o (by simpa using ho)) (by simpa using h)
  rw [← addD_act]
  refine listIn_of ?_ nf_no l _ _ (fun o ho => Array.all_eq_true_iff_forall_mem.1 ok.2 o (by simpa using ho)) h1
  rintro a w ⟨E', rfl, hq⟩
  exact ⟨E', ds, rfl, hq⟩

theorem WX_draw {R : World → World → Prop} {id : Nat} {l : List Oper} (hrefl : ∀ w, R w w) (htrans : ∀ a b c, R a b → R b c → R a c) (hm : P.follows .mixedOrders = true)
    (ld : List Nat) (π : List (Nat × Fl × Bool)) (hlen : Nat.beq π.length l.length = true)
    (hp : planOk l.toArray ld π (Array.replicate l.length false) = true) (hsel : Region.noSelect l.toArray = true)
    (h : ∀ w1, w1 = w.drew → Dw P n (l.map (·.dst)) R (selp l π) (fun E w => Q .normal E ds w) E w1) : WX r ds P n (.region id l.toArray true) Q E w := by
  intro ok
  simp only [okX, Bool.and_eq_true] at ok
  have h' := wpAnyR_of_Dw (P := P) (ld := ld) hrefl htrans ok.1 hsel π (Array.replicate l.length false) E w.drew hp (by simpa using h _ rfl)
  have hlen' : π.length = l.length := Nat.eq_of_beq_eq_true hlen
  rw [hlen'] at h'
  refine wpIn_region_any hm ?_
  rw [← addD_act]
  refine anyIn_of ?_ nf_no (fun i o ho => Array.all_eq_true_iff_forall_mem.1 ok.2 o (Array.mem_of_getElem? ho)) _ _ _ _ (wpAny_of_R _ _ _ _ (by simpa using h'))
  rintro a w ⟨E', rfl, hq⟩
  exact ⟨E', ds, rfl, hq⟩

/-! ### a region one of whose operations calls yield -/
def DI (r : Option Nat) (P : Program) (n : Nat) (l : List (Option Tmp)) : List (Oper × Fl) → (Env → World → Prop) → Env → World → Prop
  | [], K, E, w => K E w
  | (o, .p) :: rs, K, E, w => if guardB l E o.guard = true then ∃ v, PV P o E v ∧ DI r P n l rs K (updO E o.dst v) w else DI r P n l rs K (updO E o.dst undef) w
  | (o, .l) :: rs, K, E, w => if guardB l E o.guard = true then ∃ v, LV P o E w v ∧ DI r P n l rs K (updO E o.dst v) w else DI r P n l rs K (updO E o.dst undef) w
  | (o, .x) :: rs, K, E, w => if guardB l E o.guard = true then (okOper n o = true → noDefOp o = true → o.wpIn (wideR r) 0 P (act n E) w (fun a w' => ∃ E', a = act n E' ∧ DI r P n l rs K E' w') (fun _ _ _ => False)) else DI r P n l rs K (updO E o.dst undef) w

theorem DI_p {l : List (Option Tmp)} {o : Oper} {f : Fl} {rs : List (Oper × Fl)} {K : Env → World → Prop} (hf : f = .p ∨ f = .l)
    (h : Dw P n l (fun a b => a = b) [(o, f, true)] (fun E w => DI r P n l rs K E w) E w) : DI r P n l ((o, f) :: rs) K E w := by
  rcases hf with rfl | rfl
  · exact h
  · simp only [DI, Dw] at h ⊢
    split at h
    · rename_i hg; rw [if_pos hg]; obtain ⟨v, h1, h2⟩ := h; exact ⟨v, h1 w rfl, h2⟩
    · rename_i hg; rw [if_neg hg]; exact h

theorem Oper.wpIn_noQ {F : Fence} {m : Nat} {o : Oper} {a : Act} {K : Act → World → Prop} {Q : Exit → Act → World → Prop} (h : o.wpIn F m P a w K (fun _ _ _ => False)) : o.wpIn F m P a w K Q := by
  unfold Oper.wpIn at *
  refine ⟨h.1, ?_⟩
  have hh := h.2
  generalize (o.semAt F.round a.eval).run P w = res at *
  cases res with
  | ok x w' =>
    cases x <;> simp only [Oper.uponIn] at hh ⊢ <;> first
      | exact hh
      | exact ⟨hh.1, CallsIn.mono hh.2 (fun e w'' he => by cases e <;> first | exact he | exact he.elim | (obtain ⟨_, _, hf⟩ := he; exact hf.elim))⟩
      | exact ⟨hh.1, RoundIn.mono hh.2 (fun e w'' he => by cases e <;> first | exact he | exact he.elim | (obtain ⟨_, _, hf⟩ := he; exact hf.elim))⟩
  | halt x w' => cases x <;> simp only [Oper.uponIn] at hh ⊢

def mki : List Oper → List Fl → List (Oper × Fl)
  | o :: r, f :: fs => (o, f) :: mki r fs
  | _, _ => []
theorem listIn_DI {ops : Array Oper} {K : Env → World → Prop} {Q1 : Exit → Act → World → Prop} (hK : ∀ E w, K E w → Q1 .normal (act n E) w) (hok : ops.all (okOper n) = true) :
    ∀ (l : List Oper) (fs : List Fl) (E : Env) (w : World), l.length = fs.length → (∀ o ∈ l, okOper n o = true ∧ noDefOp o = true) → DI r P n (ops.toList.map (·.dst)) (mki l fs) K E w → wpListIn (wideR r) 0 P ops Q1 l (act n E) w := by
  intro l
  induction l with
  | nil => intro fs E w _ _ h; exact hK _ _ h
  | cons o l ih =>
    intro fs E w hl ho h
    cases fs with
    | nil => simp at hl
    | cons f fs =>
      have hl' : l.length = fs.length := by simpa using hl
      have ho' : ∀ o ∈ l, okOper n o = true ∧ noDefOp o = true := fun o h => ho o (List.mem_cons_of_mem _ h)
      obtain ⟨h1, h2⟩ := ho o List.mem_cons_self
      have val : ∀ v, LV P o E w v → DI r P n (ops.toList.map (·.dst)) (mki l fs) K (updO E o.dst v) w → o.wpIn (wideR r) 0 P (act n E) w (wpListIn (wideR r) 0 P ops Q1 l) Q1 := fun v hv hn => by
        unfold Oper.wpIn
        refine ⟨fun _ _ => trivial, ?_⟩
        rw [Oper.semAt_eq _ _ _ (noDefOp_spec h2), exec_eq h1, hv]
        simp only [Oper.uponIn, act_put]
        exact ih fs _ w hl' ho' hn
      unfold wpListIn
      rw [wanted_eq o hok]
      cases f <;> simp only [mki, DI] at h <;> (split at h <;> rename_i hg)
      · rw [if_pos hg]; obtain ⟨v, hv, hn⟩ := h; exact val v (hv w) hn
      · rw [if_neg hg, act_put]; exact ⟨fun _ _ => trivial, ih fs _ w hl' ho' h⟩
      · rw [if_pos hg]; obtain ⟨v, hv, hn⟩ := h; exact val v hv hn
      · rw [if_neg hg, act_put]; exact ⟨fun _ _ => trivial, ih fs _ w hl' ho' h⟩
      · rw [if_pos hg]
        refine Oper.wpIn_noQ (Oper.wpIn_mono ?_ (h h1 h2))
        rintro a w' ⟨E', rfl, hd⟩
        exact ih fs E' w' hl' ho' hd
      · rw [if_neg hg, act_put]; exact ⟨fun _ _ => trivial, ih fs _ w hl' ho' h⟩

theorem WX_regI {id : Nat} {l : List Oper} (fs : List Fl) (hl : Nat.beq l.length fs.length = true)
    (h : DI r P n (l.map (·.dst)) (mki l fs) (fun E w => Q .normal E [] w) E w) : WX r [] P n (.region id l.toArray false) Q E w := by
  intro ok
  simp only [okX, Bool.and_eq_true] at ok
  refine wpIn_region_list ?_
  exact listIn_DI (fun E w h => ⟨E, [], rfl, h⟩) ok.1 l fs E w (Nat.eq_of_beq_eq_true hl) (fun o ho => ⟨Array.all_eq_true_iff_forall_mem.1 ok.1 o (by simpa using ho), Array.all_eq_true_iff_forall_mem.1 ok.2 o (by simpa using ho)⟩) (by simpa using h)

/-- A call of yield. -/
theorem DI_yield {ld : List (Option Tmp)} {rs : List (Oper × Fl)} {K : Env → World → Prop} {d : Nat} {ty : TypeId} {pos : String} {af : Array Edge} {g : Option (Nat × Bool)} {t l : Nat} {as : List Operand} {ats : Array TypeId} {vs : List Value} {R : Ending → World → Prop}
    (hg : guardB ld E g = true) (hv : E t = .func (.yield l) #[] #[]) (ha : as.map (ev E) = vs) (hy : YieldAt Fence.wide 0 P l vs.toArray w R)
    (h : ∀ e w1, R e w1 → ∃ v, e = .returned v ∧ DI none P n ld rs K (upd E d v) w1) :
    DI none P n ld ((⟨some d, .call { callee := .value (.tmp t), args := as.toArray, argTypes := ats }, ty, pos, af, g⟩, .x) :: rs) K E w := by
  simp only [DI]
  rw [if_pos hg]
  intro ok _
  obtain ⟨fn, tmps, assign, body, hrun, hR⟩ := hy
  have hr : (execOp (ev E) ⟨some d, .call { callee := .value (.tmp t), args := as.toArray, argTypes := ats }, ty, pos, af, g⟩).run P w = .ok (.round l fn tmps assign body) w := by
    simp [execOp, resolve, ev, hv, Deferred.ofValue, invoke, ha, Sem.run_bind, Result.andThen]
    have := hrun
    simpa using this
  unfold Oper.wpIn
  refine ⟨fun _ _ => trivial, ?_⟩
  rw [Oper.semAt_eq _ _ _ (by simp), exec_eq ok, hr]
  simp only [Oper.uponIn]
  refine ⟨fun h => by simp [wideR, Fence.wide] at h, RoundIn.mono hR fun e w1 h1 => ?_⟩
  obtain ⟨v, rfl, hd⟩ := h e w1 h1
  exact ⟨_, act_put _ _ _ _, hd⟩

/-! ### the statement itself -/
def updL (E : Env) : List Tmp → List Value → Env
  | p :: ps, v :: vs => updL (upd E p v) ps vs
  | _, _ => E
theorem foldl_updL (ds : List Deferred) : ∀ (ps : List Tmp) (vs : List Value) (E : Env), ps.length = vs.length → (ps.zip vs).foldl (fun t (x : Tmp × Value) => t.setIfInBounds x.1 x.2) (actD n E ds).tmps = (actD n (updL E ps vs) []).tmps
  | [], [], E, _ => rfl
  | p :: ps, v :: vs, E, h => by
    have h1 := act_put n E (some p) v
    have h2 : (actD n E ds).tmps.setIfInBounds p v = (actD n (upd E p v) ds).tmps := congrArg Act.tmps h1
    rw [List.zip_cons_cons, List.foldl_cons]
    show List.foldl _ ((actD n E ds).tmps.setIfInBounds p v) _ = _
    rw [h2]
    exact foldl_updL ds ps vs _ (by simpa using h)
  | [], _ :: _, _, h => by simp at h
  | _ :: _, [], _, h => by simp at h

theorem foldl_updA (ps : List Tmp) (vs : List Value) (h : ps.length = vs.length) : (ps.toArray.zip vs.toArray).foldl (fun t (x : Tmp × Value) => t.setIfInBounds x.1 x.2) (actD n E ds).tmps = (actD n (updL E ps vs) []).tmps := by
  rw [← Array.foldl_toList, Array.toList_zip]
  exact foldl_updL ds ps vs E h

theorem WX_range {g : Operand} {ps : List Tmp} {assign body : Code} {gf N : Nat} {lb : Array Value} {args : Nat → List Value}
    (hg : ev E g = .func (.func gf) #[] lb) (hf : callB P gf = true) (hlen : ∀ k, ps.length = (args k).length)
    (I : Nat → World → Prop) (A : Nat → Env → World → Prop) (h0 : I 0 w)
    (hX : ∀ k W W', I k W → Ext W W' → I k W')
    (hL : ∀ k W l o o', I k W → w.heap.size ≤ l → W.heap[l]? = some o → o.isCells = false → I k (W.putObj l o'))
    (hAL : ∀ k E1 W l o o', A k E1 W → w.heap.size ≤ l → W.heap[l]? = some o → o.isCells = false → A k E1 (W.putObj l o'))
    (hit : ∀ l (J : Nat → World → Prop), (∀ k W, J k W → I k W) → (∀ k W W', J k W → Ext W W' → J k W') →
      (∀ k W, J k W → k < N → YieldAt Fence.wide 0 P l (args k).toArray W fun e W' => e = .returned (.bool true) ∧ J (k + 1) W') →
      ∀ W, J 0 W → Calls P gf (#[.func (.yield l) #[] #[]] ++ lb) W fun e W' => (∃ v, e = .returned v) ∧ J N W')
    (hassign : ∀ k l W, k < N → I k W → WX (some l) [] P n assign (fun e E1 d1 W1 => e = .normal ∧ d1 = [] ∧ Ext W W1 ∧ A k E1 W1) (updL E ps (args k)) W)
    (hbody : ∀ k l E1 W (keep : Nat → Prop), k < N → A k E1 W → (∀ j, keep j → w.heap.size ≤ j ∧ ∃ o, W.heap[j]? = some o ∧ o.isCells = false) →
      WX (some l) [] P n body (fun e _ d1 W' => e = .normal ∧ I (k + 1) W' ∧ ∀ j, keep j → W'.heap[j]? = W.heap[j]?) E1 W)
    (h : ∀ D W, w.heap.size ≤ D → I N W → W.heap[D]? = some (.deferred (some [])) → Q .normal E ({ target := .collected D, args := #[] } :: ds) W) :
    WX none ds P n (.rangeFunc g ps.toArray assign body) Q E w := by
  intro ok
  simp only [okX, Bool.and_eq_true] at ok
  obtain ⟨⟨⟨okg, _⟩, oka⟩, okb⟩ := ok
  have hgE : (actD n E ds).eval g = .func (.func gf) #[] lb := by rw [actD_eval okg]; exact hg
  unfold callB at hf
  have eg : ∀ args w, (callFunc gf args).run P w = .ok (.enter gf args) w := by
    cases hp : P.funcs[gf]? with
    | none => rw [hp] at hf; simp at hf
    | some fn =>
      rw [hp] at hf
      simp only [Bool.and_eq_true, Bool.not_eq_true'] at hf
      obtain ⟨h1, h2⟩ := hf
      have h3 : fn.body ≠ none := by cases hb : fn.body <;> simp [hb] at h2 ⊢
      have h1' : fn.name ≠ "runtime.NumGoroutine" := by simpa using h1
      intro args w
      simp [callFunc, program, Sem.run, hp, h1', h3]
  refine wpIn_rangeFunc (F := wideR none) ?_
  intro fn hfn
  rw [show (wideR none).round = none from rfl]
  obtain ⟨rec, hrec⟩ : ∃ rec : LoopState → Option Code → Loop, rec = fun st pe => { state := st, pending := pe, fn, tmps := (actD n E ds).tmps, params := ps.toArray, assign, body, defers := w.heap.size } := ⟨_, rfl⟩
  obtain ⟨W1, hW1⟩ : ∃ W1, (w.alloc (.deferred (some []))).alloc (.loop (rec .ready none)) = W1 := ⟨_, rfl⟩
  have hL1 : W1.heap[w.heap.size + 1]? = some (.loop (rec .ready none)) := by
    rw [← hW1]; have := World.alloc_heap_new (w.alloc (.deferred (some []))) (.loop (rec .ready none)); rwa [World.size_alloc] at this
  have hK1 : W1.heap[w.heap.size]? = some (.deferred (some [])) := by
    rw [← hW1]; exact (Below.heap_alloc _ _ _ (by simp)).trans (World.alloc_heap_new w _)
  have hx1 : Ext w W1 := by rw [← hW1]; exact (Ext.alloc _ _).trans (Ext.alloc _ _)
  have hI1 : I 0 W1 := hX _ _ _ h0 hx1
  refine ⟨w.heap.size + 1, [{ target := .collected w.heap.size, args := #[] }], W1, { target := .fn (.func gf) lb, args := #[.func (.yield (w.heap.size + 1)) #[] #[]] }, W1, gf,
    #[.func (.yield (w.heap.size + 1)) #[] #[]] ++ lb, W1, ?_, ?_, fun _ _ => trivial, ?_, fun h => by simp [wideR, Fence.wide] at h, ?_⟩
  · rw [← hW1, hrec]; exact run_enterLoop_outer _ _ _ _ _
  · simp only [resolve, hgE]
    simp [go_sem]
  · simp [invoke, go_sem, eg]
  · refine callsIn_wideR ((hit (w.heap.size + 1) (fun k W => I k W ∧ W.heap[w.heap.size + 1]? = some (.loop (rec .ready none)) ∧ W.heap[w.heap.size]? = some (.deferred (some []))) (fun _ _ h => h.1) ?_ ?_ W1 ⟨hI1, hL1, hK1⟩).mono ?_)
    · rintro k W W' ⟨hi, hl, hk⟩ hx
      have h1 := (Array.getElem?_eq_some_iff.1 hl).1
      have h2 := (Array.getElem?_eq_some_iff.1 hk).1
      exact ⟨hX _ _ _ hi hx, by rw [hx.block _ h1 (fun h => h)]; exact hl, by rw [hx.block _ h2 (fun h => h)]; exact hk⟩
    · rintro k W ⟨hi, hl, hk⟩ hkN
      have hy := run_yield (P := P) (args := (args k).toArray) hl (by rw [hrec]; simp [hlen k])
      rw [hrec] at hy
      refine ⟨fn, _, assign, body, hy, roundIn_of_wpIn (F := Fence.wide) trivial ?_⟩
      have e1 := foldl_updA (n := n) (E := E) (ds := ds) ps (args k) (hlen k)
      have ha := hassign k (w.heap.size + 1) W hkN hi oka
      have e2 : ({ tmps := (ps.toArray.zip (args k).toArray).foldl (fun tmps (x : Tmp × Value) => tmps.setIfInBounds x.1 x.2) (actD n E ds).tmps, defers := [] } : Act) = actD n (updL E ps (args k)) [] := by rw [e1]; rfl
      rw [e2]
      refine Go.wpIn_mono ha ?_
      rintro e a W2 ⟨E1, d1, rfl, rfl, rfl, hx, hA⟩
      have hlt1 := (Array.getElem?_eq_some_iff.1 hl).1
      have hlt2 := (Array.getElem?_eq_some_iff.1 hk).1
      have hl2 : W2.heap[w.heap.size + 1]? = some (.loop (rec .ready none)) := by rw [hx.block _ hlt1 (fun h => h)]; exact hl
      have hk2 : W2.heap[w.heap.size]? = some (.deferred (some [])) := by rw [hx.block _ hlt2 (fun h => h)]; exact hk
      have hlt : w.heap.size + 1 < W2.heap.size := (Array.getElem?_eq_some_iff.1 hl2).1
      refine ⟨_, run_beginRound hl2 (by rw [hrec]), ?_⟩
      have hl3 : (W2.putObj (w.heap.size + 1) (.loop { rec .ready none with state := .busy })).heap[w.heap.size + 1]? = some (.loop { rec .ready none with state := .busy }) := World.putObj_heap_same hlt
      have hk3 : (W2.putObj (w.heap.size + 1) (.loop { rec .ready none with state := .busy })).heap[w.heap.size]? = some (.deferred (some [])) := (World.putObj_heap_other (by omega)).trans hk2
      have hA3 := hAL _ _ _ _ _ (.loop { rec .ready none with state := .busy }) hA (by omega) hl2 rfl
      have hb := hbody k (w.heap.size + 1) E1 _ (fun j => j = w.heap.size + 1 ∨ j = w.heap.size) hkN hA3 (by
        rintro j (rfl | rfl)
        · exact ⟨by omega, _, hl3, rfl⟩
        · exact ⟨by omega, _, hk3, rfl⟩) okb
      refine Go.wpIn_mono hb ?_
      rintro e a3 W3 ⟨E3, d3, rfl, rfl, hI3, hkeep⟩
      have hl4 := (hkeep _ (.inl rfl)).trans hl3
      have hk4 := (hkeep _ (.inr rfl)).trans hk3
      have hr := run_endRound (P := P) none hl4
      refine ⟨_, _, hr, rfl, hL _ _ _ _ _ hI3 (by omega) hl4 rfl, ?_, (World.putObj_heap_other (by omega)).trans hk4⟩
      rw [World.putObj_heap_same (Array.getElem?_eq_some_iff.1 hl4).1, hrec]; rfl
    · rintro e W2 ⟨⟨v, rfl⟩, hi, hl, hk⟩
      refine ⟨none, _, by have := run_endLoop (P := P) hl (by rw [hrec]; simp); rw [hrec] at this; exact this, E, _, rfl, ?_⟩
      exact h _ _ (Nat.le_refl _) (hL _ _ _ _ _ hi (by omega) hl rfl) ((World.putObj_heap_other (by omega)).trans hk)

/-! ### a function that holds one -/
def retX (P : Program) (fn : Func) (n : Nat) (R : Ending → World → Prop) : QX
  | .normal, E, ds, w | .ret, E, ds, w => LeavesInM Fence.wide 0 P fn (act n E).tmps R ds .returning w
  | _, _, _, _ => False
theorem retX_nil {fn : Func} {R : Ending → World → Prop} (h : retPost P fn n R .ret E w) : retX P fn n R .ret E [] w := h
theorem retX_nilN {fn : Func} {R : Ending → World → Prop} (h : retPost P fn n R .ret E w) : retX P fn n R .normal E [] w := h
theorem retX_mark {fn : Func} {R : Ending → World → Prop} {D : Nat} (hD : w.heap[D]? = some (.deferred (some []))) (h : retPost P fn n R .ret E (w.putObj D (.deferred none))) : retX P fn n R .ret E [{ target := .collected D, args := #[] }] w :=
  ⟨by simp, .inl ⟨D, _, rfl, run_takeDeferred hD, h⟩⟩
theorem calls_WX {f : FuncId} {fn : Func} {c : Code} {as : List Value} {R : Ending → World → Prop}
    (hf : P.funcs[f]? = some fn) (hb : fn.body = some c) (hn : fn.ntmps = n) (hle : Nat.ble as.length n = true) (ok : okX n c = true)
    (h : WX none [] P n c (retX P fn n R) (args0 as 0 (fun _ => undef)) w) : Calls P f as.toArray w R := by
  have hle' : as.length ≤ n := by simpa [Nat.ble_eq] using hle
  refine callsIn_wide.1 (callsIn_of_wp_marks (F := Fence.wide) (n := 0) hf hb trivial ?_)
  have ha : ({ tmps := as.toArray ++ Array.replicate (fn.ntmps - as.toArray.size) undef, defers := [] } : Act) = actD n (args0 as 0 (fun _ => undef)) [] := by
    simp only [actD, hn]
    congr 1
    apply Array.ext
    · simp; omega
    · intro i h1 h2
      simp only [Array.getElem_ofFn, args0_get, Nat.zero_le, if_true, Nat.sub_zero]
      rw [Array.getElem_append]
      by_cases hi : i < as.length
      · simp [hi]
      · simp [hi]
  rw [ha]
  refine Go.wpIn_mono (h ok) ?_
  rintro e a w' ⟨E, d, rfl, hQ⟩
  cases e with
  | normal => exact hQ
  | ret => exact hQ
  | _ => exact hQ.elim

theorem DI_end {l : List (Option Tmp)} {K : Env → World → Prop} (h : K E w) : DI r P n l [] K E w := h
theorem WX_t {c : Operand} {x y : Code} (hc : ev E c = .bool true) (h : WX r ds P n x Q E w) : WX r ds P n (.cond c x y) Q E w := WX_cond hc (fun _ => h) (fun h => by cases h)
theorem WX_f {c : Operand} {x y : Code} (hc : ev E c = .bool false) (h : WX r ds P n y Q E w) : WX r ds P n (.cond c x y) Q E w := WX_cond hc (fun h => by cases h) (fun _ => h)
theorem pv_makeFunc {d : Option Tmp} {ty : TypeId} {pos : String} {af : Array Edge} {g : Option (Nat × Bool)} {f : Nat} {cs : List Operand} {vs : List Value} (hc : cs.map (ev E) = vs) : PV P ⟨d, .makeFunc (.func f) #[] cs.toArray, ty, pos, af, g⟩ E (.func (.func f) #[] vs.toArray) := fun w => by
  subst hc
  simp [execOp, Instr.makeFunc]

/-! ### blocks that are no cells -/
theorem Mod.putObj (W : World) (l : Nat) (o : Obj) : Mod (oneB l) W (W.putObj l o) := ⟨rfl, rfl, rfl, by simp, fun k _ hk => World.putObj_heap_other hk⟩
theorem Blk.cells {W : World} {b T : Nat} {cs : List Value} (h : Blk W b cs T) : ∃ o : Obj, W.heap[b]? = some o ∧ o.isCells = true := ⟨_, h, rfl⟩
theorem ne_cells {W : World} {l b : Nat} {o : Obj} (hl : W.heap[l]? = some o) (ho : o.isCells = false) (h : ∃ o : Obj, W.heap[b]? = some o ∧ o.isCells = true) : b ≠ l := fun e => by
  obtain ⟨o', h1, h2⟩ := h
  subst e
  rw [hl] at h1; cases h1; rw [ho] at h2; cases h2
theorem Own.cellsB {α : Type} {enc : α → List Value} {sz T B : Nat} {W : World} {v : Value} {l : List α} (h : Own enc sz T B W v l) {k : Nat} (hk : v.ownBlock = some k) : ∃ o : Obj, W.heap[k]? = some o ∧ o.isCells = true := by
  obtain ⟨cs, h1⟩ := h.heap hk
  exact ⟨_, h1, rfl⟩
theorem Arr.cellsB {α : Type} {enc : α → List Value} {sz : Nat} {W : World} {v : Value} {l : List α} (h : Arr enc sz W v l) (henc : ∀ x, (enc x).length = sz) (hsz : 0 < sz) (hl : l ≠ []) : ∃ o : Obj, W.heap[(base v).1]? = some o ∧ o.isCells = true := by
  cases l with
  | nil => exact absurd rfl hl
  | cons x l =>
    have hr := h.row (i := 0) (x := x) rfl
    have he : ∃ u, (enc x)[0]? = some u := ⟨_, List.getElem?_eq_getElem (by rw [henc]; exact hsz)⟩
    obtain ⟨u, hu⟩ := he
    exact cells_of_cell (hr 0 u hu)
theorem Blk.put {W : World} {b T l : Nat} {cs : List Value} {o : Obj} (h : Blk W b cs T) (o' : Obj) (hl : W.heap[l]? = some o) (ho : o.isCells = false) : Blk (W.putObj l o') b cs T := h.mod (Mod.putObj W l o') (ne_cells hl ho h.cells)
theorem Arr.put {α : Type} {enc : α → List Value} {sz l : Nat} {W : World} {v : Value} {xs : List α} {o : Obj} (h : Arr enc sz W v xs) (henc : ∀ x, (enc x).length = sz) (hsz : 0 < sz) (o' : Obj) (hl : W.heap[l]? = some o) (ho : o.isCells = false) : Arr enc sz (W.putObj l o') v xs :=
  h.mod (Mod.putObj W l o') (fun hne => ne_cells hl ho (h.cellsB henc hsz hne))
/-- Blocks that are no cells lie as they lay. -/
def Keeps (keep : Nat → Prop) (W0 W : World) : Prop := ∀ j, keep j → W.heap[j]? = W0.heap[j]? ∧ ∃ o, W.heap[j]? = some o ∧ o.isCells = false
theorem Keeps.mod {keep : Nat → Prop} {S : Nat → Prop} {W0 W W' : World} (h : Keeps keep W0 W) (m : Mod S W W') (hS : ∀ j, keep j → ¬ S j) : Keeps keep W0 W' := fun j hj => by
  obtain ⟨h1, o, h2, h3⟩ := h j hj
  have e := m.block j (Array.getElem?_eq_some_iff.1 h2).1 (hS j hj)
  exact ⟨e.trans h1, o, e.trans h2, h3⟩
theorem Keeps.ext {keep : Nat → Prop} {W0 W W' : World} (h : Keeps keep W0 W) (m : Ext W W') : Keeps keep W0 W' := h.mod m (fun _ _ h => h)
theorem Keeps.ne {keep : Nat → Prop} {W0 W : World} (h : Keeps keep W0 W) {b : Nat} (hb : ∃ o : Obj, W.heap[b]? = some o ∧ o.isCells = true) {j : Nat} (hj : keep j) : j ≠ b := by
  obtain ⟨_, o, h2, h3⟩ := h j hj
  exact (ne_cells h2 h3 hb).symm
theorem Bld.put {T e B b l : Nat} {v : Value} {t : Str} {W : World} {o : Obj} (h : Bld T e B b v t W) (o' : Obj) (hl : W.heap[l]? = some o) (ho : o.isCells = false) : Bld T e B b v t (W.putObj l o') := by
  refine h.mod (Mod.putObj W l o') ?_
  rintro k (rfl | hk)
  · obtain ⟨p, _, hb⟩ := h.blk
    exact ne_cells hl ho hb.cells
  · exact ne_cells hl ho (h.own.cellsB hk)
theorem Keeps.ne_bld {T e B b : Nat} {v : Value} {t : Str} {keep : Nat → Prop} {W0 W : World} (h : Keeps keep W0 W) (hb : Bld T e B b v t W) : ∀ j, keep j → ¬ (j = b ∨ v.ownBlock = some j) := by
  rintro j hj (rfl | e)
  · obtain ⟨p, _, hb⟩ := hb.blk
    exact h.ne hb.cells hj rfl
  · exact h.ne (hb.own.cellsB e) hj rfl
theorem Own.put {α : Type} {enc : α → List Value} {sz T B l : Nat} {W : World} {v : Value} {xs : List α} {o : Obj} (h : Vc.Own enc sz T B W v xs) (o' : Obj) (hl : W.heap[l]? = some o) (ho : o.isCells = false) : Vc.Own enc sz T B (W.putObj l o') v xs :=
  h.mod (Mod.putObj W l o') (fun k hk => ne_cells hl ho (h.cellsB hk))

/-! ### a text out of a buffer -/
theorem Mod.freeze (w : World) (g o n : Nat) : Mod (oneB g) w (w.freeze ⟨g, o, none⟩ n) := by
  unfold World.freeze
  split
  · exact (Ext.refl w).mono fun _ h _ => h.elim
  · exact ⟨rfl, rfl, rfl, by simp, fun k hk hne => by
      simp only [Array.getElem?_modify]
      rw [if_neg (fun e => hne e.symm)]⟩
section
variable {d : Option Tmp} {ty : TypeId} {pos : String} {af : Array Edge} {g : Option (Nat × Bool)}
theorem pv_sData {x : Operand} {ts : Array TypeId} {a : Addr} {m c : Nat} (hx : ev E x = .slice (some a) m c) (hc : c ≠ 0) : PV P ⟨d, .call { callee := .builtin .unsafeSliceData, args := #[x], argTypes := ts }, ty, pos, af, g⟩ E (.pointer (some a)) := fun w => by
  simp only [execOp, resolve, invoke, builtin, Sem.run_bind, Sem.run_pure, Result.andThen_ok, List.map_toArray, List.map_cons, List.map_nil, hx]
  rw [Lib.run_unsafeSliceData_row (P := P) (w := w) ts ty a m c hc]; rfl
theorem pv_sData0 {x : Operand} {ts : Array TypeId} {m c : Nat} (hx : ev E x = .slice none m c) : PV P ⟨d, .call { callee := .builtin .unsafeSliceData, args := #[x], argTypes := ts }, ty, pos, af, g⟩ E (.pointer none) := fun w => by
  simp only [execOp, resolve, invoke, builtin, Sem.run_bind, Sem.run_pure, Result.andThen_ok, List.map_toArray, List.map_cons, List.map_nil, hx]
  rw [Lib.run_unsafeSliceData_nil (P := P) (w := w) ts ty m c]; rfl
theorem pv_uStr0 {x y : Operand} {pt it : TypeId} {q : Option Addr} (hx : ev E x = .pointer q) (hy : ev E y = I 0) : PV P ⟨d, .call { callee := .builtin .unsafeString, args := #[x, y], argTypes := #[pt, it] }, ty, pos, af, g⟩ E (S []) := fun w => by
  simp only [execOp, resolve, invoke, builtin, Sem.run_bind, Sem.run_pure, Result.andThen_ok, List.map_toArray, List.map_cons, List.map_nil, hx, hy]
  rw [Lib.run_unsafeString_none (P := P) w pt it ty q]; rfl
theorem D_uStr {R : World → World → Prop} {rs : List (Oper × Fl × Bool)} {K : Env → World → Prop} {ld : List (Option Tmp)} {anc : Bool} {d : Nat} {x y : Operand} {pt it e B b cap : Nat} {l : Str} (hg : guardB ld E g = true) (hp : P.underlying pt = some (.pointer e)) (hc : P.cellsOf e = 1)
    (hx : ev E x = ptr b 0) (hy : ev E y = I l.length) (ho : Own encB 1 e B w (.slice (some ⟨b, 0, none⟩) l.length cap) l) (h0 : l ≠ []) (hR : anc = true ∨ ∀ w', Mod (oneB b) w w' → R w w')
    (h : ∀ w', Mod (oneB b) w w' → Dw P n ld R rs K (upd E d (S l)) w') :
    Dw P n ld R ((⟨some d, .call { callee := .builtin .unsafeString, args := #[x, y], argTypes := #[pt, it] }, ty, pos, af, g⟩, .x, anc) :: rs) K E w := by
  have hrow := ho.row
  obtain ⟨_, h2⟩ := hrow
  rcases h2 with ⟨h2, _⟩ | ⟨g', cap', cur, hv, hge, hh, hn, hcm, hcs, htk⟩
  · cases h2
  cases hv
  have hm := Mod.freeze w b 0 l.length
  have hrun := Lib.run_unsafeString_row (P := P) w pt it ty e hp hc b cur.size (by simp [World.shape?, hh]) l h0 (by omega) (by unfold maxLen at hcm; omega) (fun j c hj => by
    have := ho.row.cells (g := b) rfl j (.int .u8 c.toNat) (by rw [flat8]; simp [hj])
    exact this)
  refine D_xv (w' := w.freeze ⟨b, 0, none⟩ l.length) (v := S l) hg ?_ (fun e => hR.elim (fun h => by rw [h] at e; cases e) (fun h => h _ hm)) (h _ hm)
  simp only [execOp, resolve, invoke, builtin, Sem.run_bind, Sem.run_pure, Result.andThen_ok, List.map_toArray, List.map_cons, List.map_nil, hx, hy]
  rw [hrun]; rfl
end
end
end Go.Vc
