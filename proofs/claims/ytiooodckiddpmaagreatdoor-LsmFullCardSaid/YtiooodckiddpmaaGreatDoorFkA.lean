/-
 A part of the proof: VcA VcB VcC VcD VcE VcF VcM VcN VcW SpMem.
-/
import Derived.WalkKit
import Derived.OrdersHeld
import Derived.Maps.OwnSet
import Derived.Maps.RangeWalk
import Derived.Maps.Views
import Derived.Lib.ConvBytes
import Derived.DeepKeys4
import Derived.KernelRfl
open Nat renaming le_refl->Aa,zero_le->Ad,le_trans->Ae,le_of_ble_eq_true->Ap,zero_add->A9,blt->AR,succ_mul->Ba,mod_lt->Bg,lt_or_ge->Bj,beq->Bq,blt_eq->Br,mul_comm->Bx,add_zero->BN,add_assoc->BW,eq_of_beq_eq_true->CB,ble->CC,mul_le_mul_left->CD,mul_one->Dy
open List renaming length_append->Ab,mem_singleton->Ah,mem_cons->Aj,mem_cons_self->Al,mem_cons_of_mem->Am,length_map->An,getElem?_eq_some_iff->Ao,map_cons->Aq,getElem?_eq_getElem->Av,replicate->Aw,eq_nil_of_length_eq_zero->A5,flatMap_cons->AD,getElem?_map->AH,all_eq_true->AU,getElem?_take->AV,flatMap_append->Bb,getElem?_drop->Bf,map_nil->Bk,getElem?_eq_none->Bl,pairwise_append->Bs,getElem?_append_left->Bw,getElem?_append_right->BG,map_toArray->Cp,flatten_cons->C1,foldlM->C2,replicate_succ->CE,mapM_cons->Dv,drop_drop->Dz
open Bool renaming and_eq_true->Au,or_eq_true->BE,not_eq_true'->BO,not_eq_true->BY,false_or->Co,not_true->Cy
open Option renaming some->A3,map_eq_some_iff->Bd,map_some->Ck,bind_some->Cn,bind_eq_some_iff->CR,map->CS,map_none->CT
open BitVec renaming ofInt->AM
open UInt8 renaming ofNat->AN,not_lt->CU
open Prod renaming mk->AX
open Int renaming toNat_natCast->BM
open Array renaming all_eq_true_iff_forall_mem->Cm,replicate->Cw,getElem_ofFn->CQ,mem_of_getElem?->Dt,getElem?_eq_none->DS,ext'->DT,range->DU
set_option maxRecDepth 100000
set_option maxHeartbeats 4000000
set_option linter.unusedVariables false
set_option linter.unusedSimpArgs false
theorem Sv {A : Type} {a : A} : a = a /\ True := ⟨rfl, trivial⟩
theorem KQ {A B : Type} {a : A} {b : B} : a = a /\ b = b /\ True := ⟨rfl, rfl, trivial⟩
theorem Hj {A B C : Type} {a : A} {b : B} {c : C} : a = a /\ b = b /\ c = c /\ True := ⟨rfl, rfl, rfl, trivial⟩
theorem FU {A B C D : Type} {a : A} {b : B} {c : C} {d : D} : a = a /\ b = b /\ c = c /\ d = d /\ True := ⟨rfl, rfl, rfl, rfl, trivial⟩
theorem FA {A B C D E : Type} {a : A} {b : B} {c : C} {d : D} {e : E} : a = a /\ b = b /\ c = c /\ d = d /\ e = e /\ True := ⟨rfl, rfl, rfl, rfl, rfl, trivial⟩
theorem FSq {A B C D E F : Type} {a : A} {b : B} {c : C} {d : D} {e : E} {f : F} : a = a /\ b = b /\ c = c /\ d = d /\ e = e /\ f = f /\ True := ⟨rfl, rfl, rfl, rfl, rfl, rfl, trivial⟩
theorem FQ {A B C D E F G : Type} {a : A} {b : B} {c : C} {d : D} {e : E} {f : F} {g : G} : a = a /\ b = b /\ c = c /\ d = d /\ e = e /\ f = f /\ g = g /\ True := ⟨rfl, rfl, rfl, rfl, rfl, rfl, rfl, trivial⟩
theorem KJ {A B C D E F G H : Type} {a : A} {b : B} {c : C} {d : D} {e : E} {f : F} {g : G} {h : H} : a = a /\ b = b /\ c = c /\ d = d /\ e = e /\ f = f /\ g = g /\ h = h /\ True := ⟨rfl, rfl, rfl, rfl, rfl, rfl, rfl, rfl, trivial⟩
theorem Je {A B C D E F G H I : Type} {a : A} {b : B} {c : C} {d : D} {e : E} {f : F} {g : G} {h : H} {i : I} : a = a /\ b = b /\ c = c /\ d = d /\ e = e /\ f = f /\ g = g /\ h = h /\ i = i /\ True := ⟨rfl, rfl, rfl, rfl, rfl, rfl, rfl, rfl, rfl, trivial⟩
theorem HS {A B C D E F G H I J : Type} {a : A} {b : B} {c : C} {d : D} {e : E} {f : F} {g : G} {h : H} {i : I} {j : J} : a = a /\ b = b /\ c = c /\ d = d /\ e = e /\ f = f /\ g = g /\ h = h /\ i = i /\ j = j /\ True := ⟨rfl, rfl, rfl, rfl, rfl, rfl, rfl, rfl, rfl, rfl, trivial⟩
theorem Mr {A B C D E F G H I J K : Type} {a : A} {b : B} {c : C} {d : D} {e : E} {f : F} {g : G} {h : H} {i : I} {j : J} {k : K} : a = a /\ b = b /\ c = c /\ d = d /\ e = e /\ f = f /\ g = g /\ h = h /\ i = i /\ j = j /\ k = k /\ True := ⟨rfl, rfl, rfl, rfl, rfl, rfl, rfl, rfl, rfl, rfl, rfl, trivial⟩
theorem EA {p : Prop} (h : p := by omega) : p := h
theorem E9 {p : Prop} (h : p := by kernel_rfl) : p := h
theorem EK {p : Prop} (h : p := by decide) : p := h
theorem EE {p : Prop} (h : p := by intro x; rfl) : p := h
theorem EQ {p : Prop} (h : p := by simp) : p := h
theorem Fq {α : Type} {l : List α} {i : Nat} (h : i < l.length := by omega) : ∃ x, l[i]? = some x := ⟨_, Av h⟩
namespace Go.Vc
open Go.RowKit
abbrev Fg := Nat->Value
def FJ (E:Fg)(d:Nat)(v:Value):Fg:=λk=>cond (Bq k d) v (E k)
def Gp (E:Fg):Option Tmp->Value->Fg
 | some d,v=>FJ E d v
 | none,_=>E
def ev (E:Fg):Operand->Value
 | .tmp t=>E t
 | .const v=>v
 | .global g=>.pointer (some ⟨g,0,none⟩)
 | .func f=>.func (.func f) #[] #[]
def GN (n:Nat)(E:Fg):Act:=⟨Array.ofFn (n:=n) λi=>E i.val,[]⟩
theorem WF (E:Fg)(d:Nat)(v:Value):FJ E d v d=v:=by simp [FJ]
theorem P2 {a b:Nat}(h:a≠b):Bq a b=false:=by
 cases hb:Bq a b with
 | false=>rfl
 | true=>exact absurd (CB hb) h
theorem SV (E:Fg){d k:Nat}(v:Value)(h:k≠d):FJ E d v k=E k:=by simp [FJ,P2 h]
theorem QB (E:Fg)(d:Nat)(v:Value)(h:E d=v):FJ E d v=E:=by
 funext k
 by_cases hk:k=d
 ·subst hk;rw[WF,h]
 ·rw[SV _ _ hk]
def M8 (n:Nat):Operand->Bool
 | .tmp t=>AR t n
 | _=>true
theorem X4i (n:Nat)(E:Fg)(t:Nat)(h:t<n):(GN n E).tmps[t]?=some (E t):=by
 simp [GN,h]
theorem PK {n:Nat}{E:Fg}{x:Operand}(h:M8 n x=true):(GN n E).eval x=ev E x:=by
 cases x with
 | tmp t=>
  have r:t<n:=by simpa [M8,Br]using h
  simp [Act.eval,ev,GN,r]
 | _=>rfl
theorem Iy (n:Nat)(E:Fg)(d:Option Tmp)(v:Value):(GN n E).put d v=GN n (Gp E d v):=by
 cases d with
 | none=>rfl
 | some d=>
  simp only [Act.put,Gp,GN]
  congr 1
  apply Array.ext
  ·simp
  ·intro i h1 h2;simp only [Array.size_setIfInBounds,Array.size_ofFn]at h1;rw[Array.getElem_setIfInBounds]
   ·simp only [CQ,FJ]
    by_cases hi:d=i
    ·subst hi;simp
    ·simp only [hi,if_false];rw[P2 (λe:i=d=>hi e.symm)];exact CQ ..
   ·simpa using h1
def IF (n:Nat)(o:Oper):Bool:=o.op.operands.all (M8 n) && (match o.dst with|some d=>AR d n|none=>true) && (match o.op with | .select ..=>false|_=>true)
def Jt (n:Nat):Code->Bool
 | .skip | .exit _ | .ret | .label _=>true
 | .region _ ops _=>ops.all (IF n)
 | .seq a b=>Jt n a && Jt n b
 | .cond c a b=>M8 n c && Jt n a && Jt n b
 | .block _ c=>Jt n c
 | .loop c=>Jt n c
 | .scope c=>Jt n c
 | .refuse ..=>true
 | _=>false
theorem LK {n:Nat}{E:Fg}{o:Oper}(h:IF n o=true):execOp (GN n E).eval o=execOp (ev E) o:=by
 unfold IF at h;simp only [Au]at h;obtain⟨⟨h1,_⟩,h3⟩:=h;refine execOp_congr o (λcs b e=>by rw[e]at h3;cases h3) λx r=>PK ?_;exact Cm.1 h1 x r
def GH (n:Nat)(Q:Exit->Fg->World->Prop):Exit->Act->World->Prop:=λe a w=>∃E,a=GN n E/\Q e E w
def W (P:Program)(n:Nat)(c:Code)(Q:Exit->Fg->World->Prop)(E:Fg)(w:World):Prop:=
 Jt n c=true->c.wp P (GH n Q) (GN n E) w
def Ic (K:Fg->World->Prop)(Q:Exit->Fg->World->Prop):Exit->Fg->World->Prop
 | .normal,E,w=>K E w
 | e,E,w=>Q e E w
def MO (id:Nat)(Q:Exit->Fg->World->Prop):Exit->Fg->World->Prop
 | .exit id',E,w=>cond (Bq id' id) (Q .normal E w) (Q (.exit id') E w)
 | e,E,w=>Q e E w
def Mp (Q:Exit->Fg->World->Prop):Exit->Fg->World->Prop
 | .goto _,_,_=>False
 | e,E,w=>Q e E w
section
variable {P:Program}{n:Nat}{Q:Exit->Fg->World->Prop}{E:Fg}{w:World}
theorem X8h {c:Code}{Q':Exit->Fg->World->Prop}(h:W P n c Q E w)(hq:∀e E w,Q e E w->Q' e E w):W P n c Q' E w:=
 λok=>Code.wp_mono (λ_ _ _ ⟨E',he,hQ⟩=>⟨E',he,hq _ _ _ hQ⟩) (h ok)
theorem We {x y:Code}(h:∀K:Fg->World->Prop,(∀E w,W P n y Q E w->K E w)->W P n x (Ic K Q) E w):W P n (.seq x y) Q E w:=by
 intro ok;simp only [Jt,Au]at ok;refine wp_seq (Code.wp_mono ?_ (h (λE w=>W P n y Q E w) (λ_ _ h=>h) ok.1));intro e a w' z;obtain⟨E',rfl,r⟩:=z
 cases e<;>first|exact r ok.2|exact⟨E',rfl,r⟩
theorem EG (h:Q .normal E w):W P n .skip Q E w:=λ_=>wp_skip ⟨E,rfl,h⟩
theorem EH (h:Q .ret E w):W P n .ret Q E w:=λ_=>wp_ret ⟨E,rfl,h⟩
theorem Ff {id:Nat}(h:Q (.exit id) E w):W P n (.exit id) Q E w:=λ_=>wp_exit ⟨E,rfl,h⟩
theorem Pg {c:Operand}{x y:Code}{t:Bool}(hc:ev E c=.bool t)(ht:t=true->W P n x Q E w)(hf:t=false->W P n y Q E w):W P n (.cond c x y) Q E w:=by
 intro ok;simp only [Jt,Au]at ok;refine wp_cond_split (t:=t) (by rw[PK ok.1.1];exact hc) (λh=>ht h ok.1.2) (λh=>hf h ok.2)
theorem Yca {c:Operand}{x y:Code}{p:Prop}[Decidable p](hc:ev E c=.bool (decide p))(ht:p->W P n x Q E w)(hf:¬ p->W P n y Q E w):W P n (.cond c x y) Q E w:=
 Pg hc (λh=>ht (of_decide_eq_true h)) (λh=>hf (of_decide_eq_false h))
theorem EN {id:Nat}{c:Code}(h:W P n c (MO id Q) E w):W P n (.block id c) Q E w:=by
 intro ok;refine wp_block (Code.wp_mono ?_ (h ok));rintro e a w' ⟨E',rfl,hQ⟩
 cases e with
 | exit id'=>
  simp only [Exit.inBlock]
  by_cases hid:id'=id
  ·subst hid;simp only [if_true];refine⟨E',rfl,?_⟩;simpa [MO]using hQ
  ·simp only [hid,if_false];refine⟨E',rfl,?_⟩;simpa [MO,P2 hid]using hQ
 | _=>exact⟨E',rfl,hQ⟩
def Nr : List (Nat×Value)->Fg->Fg
 | [],E=>E
 | (d,v) :: r,E=>FJ (Nr r E) d v
def holds : List (Nat×Value)->Fg->Prop
 | [],_=>True
 | (d,v) :: r,E=>E d=v/\holds r E
theorem RI {l:List (Nat×Value)}{E:Fg}(h:holds l E):Nr l E=E:=by
 induction l with
 | nil=>rfl
 | cons x l ih=>
  obtain⟨d,v⟩:=x;simp only [holds]at h;simp only [Nr,ih h.2];exact QB E d v h.1
theorem Fk {c:Code}{G:Type}(sl:G->List (Nat×Value))(F:G->World->Prop)(μ:G->Nat)(g0:G)(h0:holds (sl g0) E)(hF0:F g0 w)
  (round:∀(E:Fg) (g:G) (w:World),F g w->W P n c (Ic (λE' w'=>∃Z,holds (sl Z) E'/\F Z w'/\μ Z<μ g) Q) (Nr (sl g) E) w):W P n (.loop c) Q E w:=by
 intro ok b k cs;have key:∀(m:Nat) (E:Fg) (g:G) (w:World),μ g=m->holds (sl g) E->F g w->
   ∃e a' w',GH n Q e a' w'/\Arrives P (lone (b.at (GN n E) (.code c :: .inLoop c :: k)) cs w) b k cs e a' w':=by
  intro m
  induction m using Nat.strongRecOn with
  | _ m ih=>
   intro E g w hm hh hF;have hr:=round E g w hF ok;rw[RI hh]at hr;obtain⟨e,a1,O,⟨Y,rfl,z⟩,r⟩:=hr b (.inLoop c :: k) cs
   cases e with
   | normal=>
    obtain⟨Z,hb,ha,hc⟩:=z;obtain⟨e2,a2,w2,hf,J⟩:=ih (μ Z) (hm▸hc) Y Z O rfl hb ha;exact⟨e2,a2,w2,hf,.of_steps (Steps.trans r (.one step_inLoop)) J⟩
   | exit id=>exact⟨_,_,O,⟨Y,rfl,z⟩,.pass (x:=.inLoop c) rfl (λ_ _=>.inl EQ) r⟩
   | goto l=>exact⟨_,_,O,⟨Y,rfl,z⟩,.pass (x:=.inLoop c) rfl (λ_ _=>.inl EQ) r⟩
   | ret=>exact⟨_,_,O,⟨Y,rfl,z⟩,.pass (x:=.inLoop c) rfl (λ_ _=>.inl EQ) r⟩
   | panic ch=>exact⟨_,_,O,⟨Y,rfl,z⟩,.pass (x:=.inLoop c) rfl (λ_ _=>.inl EQ) r⟩
   | outgrown=>exact⟨_,_,O,⟨Y,rfl,z⟩,.pass (x:=.inLoop c) rfl (λ_ _=>.inl EQ) r⟩
 obtain⟨e,a',w',z,r⟩:=key (μ g0) E g0 w rfl h0 hF0;exact⟨e,a',w',z,.of_steps (.one step_loop) r⟩
def KU : List Value->Nat->Fg->Fg
 | [],_,E=>E
 | v :: r,k,E=>FJ (KU r (k+1) E) k v
def Jr (P:Program)(fn:Func)(n:Nat)(R:Ending->World->Prop):Exit->Fg->World->Prop
 | .normal,E,w | .ret,E,w=>∃v,(results fn (GN n E).tmps).run P w=.ok v w/\R (.returned v) w
 | _,_,_=>False
theorem TZ (l:List Value):∀(k i:Nat) (E:Fg),KU l k E i=if k<=i then(match l[i-k]? with|some v=>v|none=>E i)else E i:=by
 induction l with
 | nil=>intro k i E;simp [KU]
 | cons v r ih=>
  intro k i E
  by_cases h:i=k
  ·subst h;simp [KU,WF]
  ·rw[KU,SV _ _ h,ih]
   by_cases h1:k+1<=i
   ·have h2:k<=i:=by omega
    have h3:i-k=(i-(k+1))+1:=by omega
    simp [h1,h2,h3]
   ·have h2:¬ k<=i:=by omega
    simp [h1,h2]
theorem X4j {f:FuncId}{fn:Func}{c:Code}{az:List Value}{w:World}{R:Ending->World->Prop}
  (hf:P.funcs[f]?=some fn) (hb:fn.body=some c) (hn:fn.ntmps=n) (hle:CC az.length n=true) (ok:Jt n c=true)
  (h:W P n c (Jr P fn n R) (KU az 0 (λ_=>undef)) w):Calls P f az.toArray w R:=by
 have hle':az.length<=n:=by simpa [Nat.ble_eq]using hle
 refine calls_of_wp hf hb ?_;have r:({ tmps:=az.toArray++Cw (fn.ntmps-az.toArray.size) undef,defers:=[] } : Act)=GN n (KU az 0 (λ_=>undef)):=by
  simp only [GN,hn]
  congr 1
  apply Array.ext
  ·simp;omega
  ·intro i h1 h2;simp only [CQ,TZ,Ad,if_true,Nat.sub_zero];rw[Array.getElem_append]
   by_cases hi:i<az.length
   ·simp [hi]
   ·simp [hi]
 rw[r];refine Code.wp_mono ?_ (h ok);rintro e a w' ⟨E,rfl,hQ⟩
 cases e with
 | normal=>obtain⟨v,h1,h2⟩:=hQ;exact⟨rfl,v,h1,h2⟩
 | ret=>obtain⟨v,h1,h2⟩:=hQ;exact⟨rfl,v,h1,h2⟩
 | _=>exact hQ.elim
end
inductive Fl where
 | p|l|x
def HU : List Oper->Nat->Oper
 | [],_=>default
 | o :: _,0=>o
 | _ :: r,k+1=>HU r k
def Lr : List (Option Tmp)->Nat->Option Tmp
 | [],_=>none
 | o :: _,0=>o
 | _ :: r,k+1=>Lr r k
def FB (ds:List (Option Tmp))(E:Fg):Option (Nat×Bool)->Bool
 | none=>true
 | some (j,want)=>match Lr ds j with
  | some d=>(match E d with | .bool b=>b == want|_=>false)
  | none=>false
def PV (P:Program)(o:Oper)(E:Fg)(v:Value):Prop:=∀w,(execOp (ev E) o).run P w=.ok (.value v) w
def LV (P:Program)(o:Oper)(E:Fg)(w:World)(v:Value):Prop:=(execOp (ev E) o).run P w=.ok (.value v) w
def XW (P:Program)(n:Nat)(o:Oper)(E:Fg)(w:World)(K:Fg->World->Prop):Prop:=
 IF n o=true->o.wp P (GN n E) w (λa w'=>∃E',a=GN n E'/\K E' w') (λ_ _ _=>False)
def Dw (P:Program)(n:Nat)(ds:List (Option Tmp))(R:World->World->Prop):List (Oper×Fl×Bool)->(Fg->World->Prop)->Fg->World->Prop
 | [],K,E,w=>K E w
 | (o,.p,_) :: r,K,E,w=>if FB ds E o.guard=true then ∃v,PV P o E v/\Dw P n ds R r K (Gp E o.dst v) w else Dw P n ds R r K (Gp E o.dst undef) w
 | (o,.l,_) :: r,K,E,w=>if FB ds E o.guard=true then ∃v,(∀w',R w w'->LV P o E w' v)/\Dw P n ds R r K (Gp E o.dst v) w else Dw P n ds R r K (Gp E o.dst undef) w
 | (o,.x,anc) :: r,K,E,w=>if FB ds E o.guard=true then XW P n o E w (λE' w'=>(anc=false->R w w')/\Dw P n ds R r K E' w')else Dw P n ds R r K (Gp E o.dst undef) w
def nf (K:Fg->World->Prop):Exit->Fg->World->Prop
 | .normal,E,w=>K E w
 | _,_,_=>False
theorem X4k (l:List Oper):∀j,Lr (l.map (·.dst)) j=(l[j]?).bind (·.dst):=by
 induction l with
 | nil=>intro j;rfl
 | cons o r ih=>intro j;cases j with
  | zero=>rfl
  | succ k=>simpa [Lr]using ih k
theorem Va (l:List Oper):∀j (o:Oper),l[j]?=some o->HU l j=o:=by
 induction l with
 | nil=>intro j o h;simp at h
 | cons o r ih=>intro j z h;cases j with
  | zero=>simpa [HU]using h
  | succ k=>exact ih k z (by simpa using h)
theorem N2 {n:Nat}{ops:Array Oper}{E:Fg}(o:Oper)(hok:ops.all (IF n)=true) :
  Region.wanted o (yielded ops (GN n E).tmps)=FB (ops.toList.map (·.dst)) E o.guard:=by
 unfold Region.wanted FB
 cases hg:o.guard with
 | none=>rfl
 | some jw=>
  obtain⟨j,want⟩:=jw;simp only [X4k,Array.getElem?_toList,yielded]
  cases hj:ops[j]? with
  | none=>simp
  | some oj=>
   simp only [Cn]
   cases hd:oj.dst with
   | none=>simp
   | some d=>
    have h1:=Cm.1 hok oj (Dt hj);have r:d<n:=by
     unfold IF at h1;simp only [hd,Au]at h1;simpa [Br]using h1.1.2
    simp only [Cn,X4i n E d r]
    cases E d<;>simp
theorem Oper.wp_monoQ {P:Program}{o:Oper}{a:Act}{w:World}{K:Act->World->Prop}{Q:Exit->Act->World->Prop}
  (hh:o.wp P a w K (λ_ _ _=>False)):o.wp P a w K Q:=by
 unfold Oper.wp at *
 generalize (execOp a.eval o).run P w=r at *
 cases r with
 | ok n w'=>
  cases n<;>simp only [Oper.upon]at hh ⊢<;>first
   | exact hh
   | (
    refine Calls.mono hh (λe w'' he=>?_)
    cases e with
    | returned v=>exact he
    | panicked c=>exact he.elim
    | outgrown=>obtain⟨_,_,z⟩:=he;exact z.elim)
 | halt x w'=>cases x<;>simp only [Oper.upon]at hh ⊢
section
variable {P:Program}{n:Nat}{E:Fg}{w:World}{ops:Array Oper}{R:World->World->Prop}
theorem Wh {o:Oper}{v:Value}(hok:IF n o=true)(h:LV P o E w v){K:Act->World->Prop}{Q:Exit->Act->World->Prop}(hK:K (GN n (Gp E o.dst v)) w):o.wp P (GN n E) w K Q:=by
 unfold Oper.wp;rw[LK hok,h];simp only [Oper.upon,Iy];exact hK
def ME : List Oper->List Fl->List (Oper×Fl×Bool)
 | o :: r,f :: fs=>(o,f,true) :: ME r fs
 | _,_=>[]
theorem Xw (hok:ops.all (IF n)=true){K:Fg->World->Prop}{Q:Exit->Fg->World->Prop}(hQ:∀E w,K E w->Q .normal E w):∀(l:List Oper) (fs:List Fl) (E:Fg) (w:World),l.length=fs.length->(∀o∈l,IF n o=true)->
  Dw P n (ops.toList.map (·.dst)) (λa b=>a=b) (ME l fs) K E w->wpList P ops (GH n Q) l (GN n E) w:=by
 intro l
 induction l with
 | nil=>intro fs E w _ _ h;exact⟨E,rfl,hQ _ _ h⟩
 | cons o r ih=>
  intro fs E w hl ho h
  cases fs with
  | nil=>simp at hl
  | cons f fs=>
   have Z:r.length=fs.length:=by simpa using hl
   have Y:∀o∈r,IF n o=true:=λo h=>ho o (Am _ h);have J:=ho o Al;have z:∀v w,Dw P n (ops.toList.map (·.dst)) (λa b=>a=b) (ME r fs) K (Gp E o.dst v) w->wpList P ops (GH n Q) r ((GN n E).put o.dst v) w:=λv w h=>by
    rw[Iy];exact ih fs _ w Z Y h
   unfold wpList;rw[N2 o hok]
   cases f<;>simp only [ME,Dw]at h<;>(split at h<;>rename_i O)
   ·rw[if_pos O];obtain⟨v,hv,hn⟩:=h;exact .inl (Wh J (hv w) (by simpa [Iy]using z v w hn))
   ·rw[if_neg O];exact z _ _ h
   ·rw[if_pos O];obtain⟨v,hv,hn⟩:=h;exact .inl (Wh J (hv w rfl) (by simpa [Iy]using z v w hn))
   ·rw[if_neg O];exact z _ _ h
   ·rw[if_pos O];refine .inl (Oper.wp_monoQ (Oper.wp_mono ?_ (h J)));rintro a w' ⟨E',rfl,_,hd⟩;exact ih fs E' w' Z Y hd
   ·rw[if_neg O];exact z _ _ h
theorem KR {id:Nat}{l:List Oper}{Q:Exit->Fg->World->Prop}(fs:List Fl)(hl:Bq l.length fs.length=true)
  (h:Dw P n (l.map (·.dst)) (λa b=>a=b) (ME l fs) (λE w=>Q .normal E w) E w):W P n (.region id l.toArray false) Q E w:=by
 intro ok;simp only [Jt]at ok;refine wp_region_list ?_;exact Xw (K:=λE w=>Q .normal E w) ok (λ_ _ h=>h) _ fs E w (CB hl) (λo ho=>Cm.1 ok o (by simpa using ho)) (by simpa using h)
def Lw (ops:Array Oper)(i k:Nat):Bool:=match ops[i]? with
 | some o=>o.after.any λe=>Region.binds .any e && e.on == k
 | none=>false
def OZ (ops:Array Oper)(ld:List Nat)(listed:Array Bool)(i:Nat):Prop:=∀k∈ld,listed.getD k false=true->k≠i->Lw ops i k=true
def Lj (P:Program)(ops:Array Oper)(Q:Exit->Act->World->Prop)(R:World->World->Prop)(ld:List Nat):Nat->Array Bool->Act->World->Prop
 | 0,listed,a,w=>Region.ready .any ops listed=[]/\Q .normal a w
 | fuel+1,listed,a,w=>
  (Region.ready .any ops listed=[]->Q .normal a w)/\
  ∀i∈Region.ready .any ops listed,wpOp P ops Q i (λa' w'=>(R w w'\/OZ ops ld listed i)/\Lj P ops Q R ld fuel (listed.setIfInBounds i true) a' w') a w
variable {Q:Exit->Act->World->Prop}{ld:List Nat}
theorem QF : ∀(fuel:Nat) (listed:Array Bool) (a:Act) (w:World),Lj P ops Q R ld fuel listed a w->wpAny P .any ops Q fuel listed a w
 | 0,_,_,_,h=>h
 | fuel+1,_,_,_,h=>⟨h.1,λi hi=>wpOp_mono (λa' w' h'=>QF fuel _ a' w' h'.2) (h.2 i hi)⟩
theorem YieldsIf.mono {S S':World->Prop}{o:Oper}{v:Value}{a:Act}(h:YieldsIf P ops S o v a)(hs:∀w,S' w->S w):YieldsIf P ops S' o v a:=
 h.imp (λ⟨h1,h2⟩=>⟨h1,λw r=>h2 w (hs w r)⟩) id
theorem L7 {i:Nat}{oi:Oper}{v:Value}{B:Bool}(hrefl:∀w,R w w)(htrans:∀a b c,R a b->R b c->R a c)(hB:B=true->i∈ld)(hi:ops[i]?=some oi)
  (hsel:∀(j:Nat) (o:Oper) cs b,ops[j]?=some o->o.op≠.select cs b) (hQ:∀c a w,Q (.panic c) (a.put oi.dst v) w->Q (.panic c) a w) :
  ∀(fuel:Nat) (listed:Array Bool) (a:Act) (w:World),
   (∀j oj,ops[j]?=some oj->j≠i->listed.getD j true=false->(∀e∈oj.after,Region.binds .any e=true->e.on≠i)->oi.apart ops oj=true)->
   i∈Region.ready .any ops listed->YieldsIf P ops (λw'=>B=true->R w w') oi v a->
   Lj P ops Q R ld fuel (listed.setIfInBounds i true) (a.put oi.dst v) w->Lj P ops Q R ld (fuel+1) listed a w:=by
 intro fuel
 induction fuel with
 | zero=>
  intro listed a w _ Z hy H;refine⟨λh=>(by rw[h]at Z;cases Z),λj hj=>?_⟩
  by_cases hji:j=i
  ·subst hji;exact hy.wpOp hi (λ_=>hrefl w) ⟨.inl (hrefl w),H⟩
  ·have:=ready_mono hj hji;rw[H.1]at this
   cases this
 | succ fuel ih=>
  intro listed a w r Z hy H;refine⟨λh=>(by rw[h]at Z;cases Z),λj hj=>?_⟩
  by_cases hji:j=i
  ·subst hji;exact hy.wpOp hi (λ_=>hrefl w) ⟨.inl (hrefl w),H⟩
  ·have h1:=H.2 j (ready_mono hj hji);obtain⟨O,oj,J,hg⟩:=mem_ready.1 hj;have ht:listed.getD i false=false:=by
    have h0:=(mem_ready.1 Z).1;rcases Bj i listed.size with h'|h'
    ·simp [h']at h0 ⊢;exact h0
    ·simp [DS h']
   have hf:i<listed.size:=by
    have h0:=(mem_ready.1 Z).1;rcases Bj i listed.size with h'|h'
    ·exact h'
    ·simp [DS h']at h0
   have Y:∀e∈oj.after,Region.binds .any e=true->e.on≠i:=λe he hb h5=>by
    have h1:=hg e he hb;rw[h5,ht]at h1
    cases h1
   have h2:=wpOp_putIf J (r j oj J hji O Y) (λcs b=>hsel i oi cs b hi) (λcs b=>hsel j oj cs b J) hQ hy h1;have z:∀k ok,ops[k]?=some ok->k≠i->(listed.setIfInBounds j true).getD k true=false->
     (∀e∈ok.after,Region.binds .any e=true->e.on≠i)->oi.apart ops ok=true:=λk ok hk hp hc hz=>by
    refine r k ok hk hp ?_ hz
    by_cases hjk:j=k
    ·subst hjk;exact O
    ·rw[getD_set_ne true hjk]at hc;exact hc
   refine wpOp_mono (λa' w' h3=>?_) h2;obtain⟨h6,hh,ha⟩:=h3;have hR:B=true->R w w':=λhb=>hh.elim id λhA=>by
    have:=hA i (hB hb) (by simp [hf]) (λe=>hji e.symm);unfold Lw at this;simp only [J,Array.any_eq_true',Au,beq_iff_eq]at this;obtain⟨e,he,hx,hq⟩:=this;exact absurd hq (Y e he hx)
   refine⟨hh.imp id λhA k hk hl hw=>hA k hk (getD_set_true hl) hw,?_⟩;refine ih (listed.setIfInBounds j true) a' w' z (ready_mono Z (Ne.symm hji)) (YieldsIf.mono h6 λw'' h' hb=>htrans _ _ _ (hR hb) (h' hb)) ?_;rw[Array.setIfInBounds_comm _ _ hji];exact ha
def JV (l:List Oper):List (Nat×Fl×Bool)->List (Oper×Fl×Bool)
 | []=>[]
 | (i,f,b) :: r=>(HU l i,f,b) :: JV l r
def Lo (ops:Array Oper)(ld:List Nat):List (Nat×Fl×Bool)->Array Bool->Bool
 | [],listed=>(Region.ready .any ops listed).isEmpty
 | (i,.x,anc) :: r,listed=>(Region.ready .any ops listed == [i]) && (!anc || ld.all λk=>!listed.getD k false || k == i || Lw ops i k) && Lo ops ld r (listed.setIfInBounds i true)
 | (i,.p,_) :: r,listed=>(Region.ready .any ops listed).contains i && Region.free .any ops listed i && Lo ops ld r (listed.setIfInBounds i true)
 | (i,.l,_) :: r,listed=>(Region.ready .any ops listed).contains i && Region.free .any ops listed i && ld.contains i && Lo ops ld r (listed.setIfInBounds i true)
theorem Ov {o:Oper}{v:Value}{S:World->Prop}(hok:ops.all (IF n)=true)(hoo:IF n o=true)(hg:FB (ops.toList.map (·.dst)) E o.guard=true)(h:∀w,S w->LV P o E w v) :
 YieldsIf P ops S o v (GN n E):=.inl ⟨by rw[N2 o hok];exact hg,λw r=>by rw[LK hoo];exact h w r⟩
theorem O8 {o:Oper}{S:World->Prop}(hok:ops.all (IF n)=true)(hg:¬ FB (ops.toList.map (·.dst)) E o.guard=true):YieldsIf P ops S o undef (GN n E):=
 .inr ⟨by rw[N2 o hok];simpa using hg,rfl⟩
theorem Xmv (hrefl:∀w,R w w)(htrans:∀a b c,R a b->R b c->R a c)(hok:ops.all (IF n)=true)(hsel:Region.noSelect ops=true){K:Fg->World->Prop} :
  ∀(π:List (Nat×Fl×Bool)) (listed:Array Bool) (E:Fg) (w:World),Lo ops ld π listed=true->
   Dw P n (ops.toList.map (·.dst)) R (JV ops.toList π) K E w->Lj P ops (GH n (nf K)) R ld π.length listed (GN n E) w:=by
 intro π
 induction π with
 | nil=>intro listed E w Z h;exact⟨by simpa [Lo]using Z,E,rfl,h⟩
 | cons x r ih=>
  intro listed E w Z h;obtain⟨i,f,anc⟩:=x;have hQ:∀(d:Option Tmp) (v:Value) c a w,GH n (nf K) (.panic c) (a.put d v) w->GH n (nf K) (.panic c) a w:=λ_ _ _ _ _ ⟨_,_,hf⟩=>hf.elim;have key:∀(O:Oper),ops[i]?=some O->HU ops.toList i=O/\IF n O=true:=λO hi=>
   ⟨Va _ _ _ (by simpa using hi),Cm.1 hok O (Dt hi)⟩
  cases f with
  | x=>
   simp only [Lo,Au]at Z;obtain⟨⟨hr,ha⟩,J⟩:=Z;have z:Region.ready .any ops listed=[i]:=by simpa using hr
   refine⟨λh0=>(by rw[h0]at z;cases z),λj hj=>?_⟩;rw[z,Ah]at hj;subst hj;obtain⟨_,O,hi,_⟩:=mem_ready.1 (by rw[z];exact Ah.2 rfl:j∈Region.ready .any ops listed);obtain⟨hn,Y⟩:=key O hi;simp only [JV,Dw,hn]at h;unfold wpOp;simp only [hi];rw[N2 O hok];split at h<;>rename_i hg
   ·rw[if_pos hg];refine .inl (Oper.wp_monoQ (Oper.wp_mono ?_ (h Y)));rintro a w' ⟨E',rfl,hR,hd⟩;refine⟨?_,ih _ E' w' J hd⟩
    cases anc with
    | false=>exact .inl (hR rfl)
    | true=>
     refine .inr λk hk hl hb=>?_;simp only [Cy,Co]at ha;have h1:=AU.1 ha k hk;simp only [hl,Cy,Co,BE,beq_iff_eq]at h1;exact h1.resolve_left hb
   ·rw[if_neg hg,Iy];exact⟨.inl (hrefl w),ih _ _ w J h⟩
  | p=>
   simp only [Lo,Au]at Z;obtain⟨⟨hr,hf⟩,J⟩:=Z;have z:i∈Region.ready .any ops listed:=by simpa using hr
   obtain⟨_,O,hi,_⟩:=mem_ready.1 z;obtain⟨hn,Y⟩:=key O hi;simp only [JV,Dw,hn]at h;split at h<;>rename_i hg
   ·obtain⟨v,hv,hd⟩:=h;exact L7 (B:=false) (v:=v) hrefl htrans (λh=>by cases h) hi (Region.noSelect_spec hsel) (hQ _ _) _ _ _ _ (Region.free_spec hi hf) z
     (Ov hok Y hg λw _=>hv w) (by rw[Iy];exact ih _ _ w J hd)
   ·exact L7 (B:=false) (v:=undef) hrefl htrans (λh=>by cases h) hi (Region.noSelect_spec hsel) (hQ _ _) _ _ _ _ (Region.free_spec hi hf) z
     (O8 hok hg) (by rw[Iy];exact ih _ _ w J h)
  | l=>
   simp only [Lo,Au]at Z;obtain⟨⟨⟨hr,hf⟩,hl⟩,J⟩:=Z;have z:i∈Region.ready .any ops listed:=by simpa using hr
   obtain⟨_,O,hi,_⟩:=mem_ready.1 z;obtain⟨hn,Y⟩:=key O hi;simp only [JV,Dw,hn]at h;split at h<;>rename_i hg
   ·obtain⟨v,hv,hd⟩:=h;exact L7 (B:=true) (v:=v) hrefl htrans (λ_=>by simpa using hl) hi (Region.noSelect_spec hsel) (hQ _ _) _ _ _ _ (Region.free_spec hi hf) z
     (Ov hok Y hg λw hw=>hv w (hw rfl)) (by rw[Iy];exact ih _ _ w J hd)
   ·exact L7 (B:=true) (v:=undef) hrefl htrans (λ_=>by simpa using hl) hi (Region.noSelect_spec hsel) (hQ _ _) _ _ _ _ (Region.free_spec hi hf) z
     (O8 hok hg) (by rw[Iy];exact ih _ _ w J h)
theorem F4 {id:Nat}{l:List Oper}{Q:Exit->Fg->World->Prop}(hrefl:∀w,R w w)(htrans:∀a b c,R a b->R b c->R a c)(hm:P.follows .mixedOrders=true)
  (ld:List Nat) (π:List (Nat×Fl×Bool)) (hlen:Bq π.length l.length=true)
  (hp:Lo l.toArray ld π (Cw l.length false)=true) (hsel:Region.noSelect l.toArray=true)
  (h:∀w1,w1=w.drew->Dw P n (l.map (·.dst)) R (JV l π) (λE w=>Q .normal E w) E w1):W P n (.region id l.toArray true) Q E w:=by
 intro ok;simp only [Jt]at ok;have h':=Xmv (P:=P) (ld:=ld) hrefl htrans ok hsel π (Cw l.length false) E w.drew hp (by simpa using h _ rfl);have r:π.length=l.length:=CB hlen;rw[r]at h';refine Code.wp_mono (Q:=GH n (nf λE w=>Q .normal E w)) ?_ (wp_region_any hm (by simpa using QF _ _ _ _ h'));rintro e a w' ⟨E',rfl,hq⟩
 cases e<;>first|exact⟨E',rfl,hq⟩|exact hq.elim
inductive Pl where
 | nil
 | stop
 /-- the next one,whatever else may come up -/
 | one (i:Nat) (f:Fl) (anc:Bool) (rest:Pl)
 /-- several effects may come up: a chain of 'alt' -/
 | fork (chain:Pl)
 /-- one of those that may come up,and what follows it;the others -/
 | alt (i:Nat) (anc:Bool) (sub:Pl) (others:Pl)
def Pl.heads : Pl->List Nat
 | .alt i _ _ o=>i :: o.heads
 | _=>[]
def Pl.ok : Pl->Bool
 | .alt ..=>false
 | .stop=>false
 | _=>true
theorem Pl.ok_spec {π:Pl}(h:π.ok=true):π.heads=[]/\π≠.stop:=by
 cases π<;>simp [Pl.ok,Pl.heads]at h ⊢
def Gm (P:Program)(n:Nat)(l:List Oper)(ds:List (Option Tmp))(R:World->World->Prop):Pl->(Fg->World->Prop)->Fg->World->Prop
 | .nil,K,E,w=>K E w
 | .stop,_,_,_=>True
 | .one i .p _ rest,K,E,w=>if FB ds E (HU l i).guard=true then ∃v,PV P (HU l i) E v/\Gm P n l ds R rest K (Gp E (HU l i).dst v) w else Gm P n l ds R rest K (Gp E (HU l i).dst undef) w
 | .one i .l _ rest,K,E,w=>if FB ds E (HU l i).guard=true then ∃v,(∀w',R w w'->LV P (HU l i) E w' v)/\Gm P n l ds R rest K (Gp E (HU l i).dst v) w else Gm P n l ds R rest K (Gp E (HU l i).dst undef) w
 | .one i .x anc rest,K,E,w=>if FB ds E (HU l i).guard=true then XW P n (HU l i) E w (λE' w'=>(anc=false->R w w')/\Gm P n l ds R rest K E' w')else Gm P n l ds R rest K (Gp E (HU l i).dst undef) w
 | .fork c,K,E,w=>Gm P n l ds R c K E w
 | .alt i anc sub others,K,E,w=>(if FB ds E (HU l i).guard=true then XW P n (HU l i) E w (λE' w'=>(anc=false->R w w')/\Gm P n l ds R sub K E' w')else Gm P n l ds R sub K (Gp E (HU l i).dst undef) w)/\
  Gm P n l ds R others K E w
def Lg (ops:Array Oper)(ld:List Nat)(listed:Array Bool)(i:Nat):Bool:=ld.all λk=>!listed.getD k false || k == i || Lw ops i k
def Jf (ops:Array Oper)(ld:List Nat):Pl->Nat->Array Bool->Bool
 | .nil,_,listed=>(Region.ready .any ops listed).isEmpty
 | .stop,_,_=>true
 | .one i .x anc r,fuel+1,listed=>(Region.ready .any ops listed == [i]) && (!anc || Lg ops ld listed i) && r.ok && Jf ops ld r fuel (listed.setIfInBounds i true)
 | .one i .p _ r,fuel+1,listed=>(Region.ready .any ops listed).contains i && Region.free .any ops listed i && r.ok && Jf ops ld r fuel (listed.setIfInBounds i true)
 | .one i .l _ r,fuel+1,listed=>(Region.ready .any ops listed).contains i && Region.free .any ops listed i && ld.contains i && r.ok && Jf ops ld r fuel (listed.setIfInBounds i true)
 | .fork c,fuel,listed=>(Region.ready .any ops listed).all (λj=>c.heads.contains j) && !(Region.ready .any ops listed).isEmpty && Jf ops ld c fuel listed
 | .alt i anc sub others,fuel+1,listed=>(Region.ready .any ops listed).contains i && (!anc || Lg ops ld listed i) && sub.ok && Jf ops ld sub fuel (listed.setIfInBounds i true) && Jf ops ld others (fuel+1) listed
 | _,_,_=>false
theorem Xt1 {listed:Array Bool}{i:Nat}{anc:Bool}(h:(!anc || Lg ops ld listed i)=true)(ha:anc=true):OZ ops ld listed i:=by
 subst ha;simp only [Cy,Co]at h;intro k hk z r;have h1:=AU.1 h k hk;simp only [z,Cy,Co,BE,beq_iff_eq]at h1;exact h1.resolve_left r
theorem Xlo (hrefl:∀w,R w w)(htrans:∀a b c,R a b->R b c->R a c)(hok:ops.all (IF n)=true)(hsel:Region.noSelect ops=true){K:Fg->World->Prop} :
  ∀(π:Pl) (fuel:Nat) (listed:Array Bool) (E:Fg) (w:World),Jf ops ld π fuel listed=true->Gm P n ops.toList (ops.toList.map (·.dst)) R π K E w->
   (π.heads=[]->π≠.stop->Lj P ops (GH n (nf K)) R ld fuel listed (GN n E) w)/\
   (∀i∈π.heads,∃k,fuel=k+1/\wpOp P ops (GH n (nf K)) i (λa' w'=>(R w w'\/OZ ops ld listed i)/\Lj P ops (GH n (nf K)) R ld k (listed.setIfInBounds i true) a' w') (GN n E) w):=by
 have hQ:∀(d:Option Tmp) (v:Value) c a w,GH n (nf K) (.panic c) (a.put d v) w->GH n (nf K) (.panic c) a w:=λ_ _ _ _ _ ⟨_,_,hf⟩=>hf.elim;have key:∀(i:Nat) (Y:Oper),ops[i]?=some Y->HU ops.toList i=Y/\IF n Y=true:=λi Y hi=>
  ⟨Va _ _ _ (by simpa using hi),Cm.1 hok Y (Dt hi)⟩
 -- one effect
 have ht:∀(i:Nat) (anc:Bool) (rest:Pl) (fuel:Nat) (listed:Array Bool) (E:Fg) (w:World),i∈Region.ready .any ops listed->(!anc || Lg ops ld listed i)=true->
   (∀E' w',Gm P n ops.toList (ops.toList.map (·.dst)) R rest K E' w'->Lj P ops (GH n (nf K)) R ld fuel (listed.setIfInBounds i true) (GN n E') w')->
   (if FB (ops.toList.map (·.dst)) E (HU ops.toList i).guard=true then XW P n (HU ops.toList i) E w (λE' w'=>(anc=false->R w w')/\Gm P n ops.toList (ops.toList.map (·.dst)) R rest K E' w')else Gm P n ops.toList (ops.toList.map (·.dst)) R rest K (Gp E (HU ops.toList i).dst undef) w)->
   wpOp P ops (GH n (nf K)) i (λa' w'=>(R w w'\/OZ ops ld listed i)/\Lj P ops (GH n (nf K)) R ld fuel (listed.setIfInBounds i true) a' w') (GN n E) w:=by
  intro i anc rest fuel listed E w hi ha ih h;obtain⟨_,Y,hh,_⟩:=mem_ready.1 hi;obtain⟨hn,Z⟩:=key i Y hh;rw[hn]at h;unfold wpOp;simp only [hh];rw[N2 Y hok];split at h<;>rename_i hg
  ·rw[if_pos hg];refine .inl (Oper.wp_monoQ (Oper.wp_mono ?_ (h Z)));rintro a w' ⟨E',rfl,hR,hd⟩;refine⟨?_,ih E' w' hd⟩
   cases anc with
   | false=>exact .inl (hR rfl)
   | true=>exact .inr (Xt1 ha rfl)
  ·rw[if_neg hg,Iy];exact⟨.inl (hrefl w),ih _ w h⟩
 intro π
 induction π with
 | nil=>
  intro fuel listed E w O h;refine⟨λ_ _=>?_,λi hi=>by cases hi⟩;simp only [Jf,List.isEmpty_iff]at O
  cases fuel with
  | zero=>exact⟨O,E,rfl,h⟩
  | succ k=>exact⟨λ_=>⟨E,rfl,h⟩,by rw[O];intro i hi;cases hi⟩
 | stop=>intro fuel listed E w _ _;exact⟨λ_ h=>absurd rfl h,λi hi=>by cases hi⟩
 | fork c ih=>
  intro fuel listed E w O h;simp only [Jf,Au]at O;obtain⟨⟨hx,hb⟩,J⟩:=O;simp only [Gm]at h;have hc:=(ih fuel listed E w J h).2;refine⟨λ_ _=>?_,λi hi=>by cases hi⟩;have hy:∀i∈Region.ready .any ops listed,i∈c.heads:=λi hi=>by simpa using AU.1 hx i hi
  cases fuel with
  | zero=>
   cases hr:Region.ready .any ops listed with
   | nil=>rw[hr]at hb;simp at hb
   | cons i r=>
    obtain⟨k,hk,_⟩:=hc i (hy i (by rw[hr];exact Al));omega
  | succ k=>
   refine⟨λh0=>by rw[h0]at hb;simp at hb,λi hi=>?_⟩;obtain⟨k',hk,hw⟩:=hc i (hy i hi);have:k'=k:=by omega
   subst this;exact hw
 | alt i anc sub others ihs iho=>
  intro fuel listed E w O h;refine⟨λh0=>by simp [Pl.heads]at h0,λj hj=>?_⟩
  cases fuel with
  | zero=>simp [Jf]at O
  | succ k=>
   simp only [Jf,Au]at O;obtain⟨⟨⟨⟨hr,ha⟩,hq⟩,hz⟩,h5⟩:=O;simp only [Gm]at h;rcases Aj.1 hj with rfl|hj'
   ·refine⟨k,rfl,ht j anc sub k listed E w (by simpa using hr) ha (λE' w' hd=>?_) h.1⟩;exact(ihs k _ E' w' hz hd).1 (Pl.ok_spec hq).1 (Pl.ok_spec hq).2
   ·exact(iho (k+1) listed E w h5 h.2).2 j hj'
 | one i f anc rest ih=>
  intro fuel listed E w O h;refine⟨λ_ _=>?_,λj hj=>by cases hj⟩
  cases fuel with
  | zero=>cases f<;>simp [Jf]at O
  | succ k=>
   cases f with
   | x=>
    simp only [Jf,Au]at O;obtain⟨⟨⟨hr,ha⟩,ho⟩,J⟩:=O;have z:Region.ready .any ops listed=[i]:=by simpa using hr
    simp only [Gm]at h;refine⟨λh0=>(by rw[h0]at z;cases z),λj hj=>?_⟩;rw[z,Ah]at hj;subst hj;exact ht j anc rest k listed E w (by rw[z];exact Ah.2 rfl) ha (λE' w' hd=>(ih k _ E' w' J hd).1 (Pl.ok_spec ho).1 (Pl.ok_spec ho).2) h
   | p=>
    simp only [Jf,Au]at O;obtain⟨⟨⟨hr,hf⟩,ho⟩,J⟩:=O;have z:i∈Region.ready .any ops listed:=by simpa using hr
    obtain⟨_,Y,hi,_⟩:=mem_ready.1 z;obtain⟨hn,Z⟩:=key i Y hi;simp only [Gm,hn]at h;split at h<;>rename_i hg
    ·obtain⟨v,hv,hd⟩:=h;exact L7 (B:=false) (v:=v) hrefl htrans (λh=>by cases h) hi (Region.noSelect_spec hsel) (hQ _ _) _ _ _ _ (Region.free_spec hi hf) z
      (Ov hok Z hg λw _=>hv w) (by rw[Iy];exact(ih k _ _ w J hd).1 (Pl.ok_spec ho).1 (Pl.ok_spec ho).2)
    ·exact L7 (B:=false) (v:=undef) hrefl htrans (λh=>by cases h) hi (Region.noSelect_spec hsel) (hQ _ _) _ _ _ _ (Region.free_spec hi hf) z
      (O8 hok hg) (by rw[Iy];exact(ih k _ _ w J h).1 (Pl.ok_spec ho).1 (Pl.ok_spec ho).2)
   | l=>
    simp only [Jf,Au]at O;obtain⟨⟨⟨⟨hr,hf⟩,hl⟩,ho⟩,J⟩:=O;have z:i∈Region.ready .any ops listed:=by simpa using hr
    obtain⟨_,Y,hi,_⟩:=mem_ready.1 z;obtain⟨hn,Z⟩:=key i Y hi;simp only [Gm,hn]at h;split at h<;>rename_i hg
    ·obtain⟨v,hv,hd⟩:=h;exact L7 (B:=true) (v:=v) hrefl htrans (λ_=>by simpa using hl) hi (Region.noSelect_spec hsel) (hQ _ _) _ _ _ _ (Region.free_spec hi hf) z
      (Ov hok Z hg λw hw=>hv w (hw rfl)) (by rw[Iy];exact(ih k _ _ w J hd).1 (Pl.ok_spec ho).1 (Pl.ok_spec ho).2)
    ·exact L7 (B:=true) (v:=undef) hrefl htrans (λ_=>by simpa using hl) hi (Region.noSelect_spec hsel) (hQ _ _) _ _ _ _ (Region.free_spec hi hf) z
      (O8 hok hg) (by rw[Iy];exact(ih k _ _ w J h).1 (Pl.ok_spec ho).1 (Pl.ok_spec ho).2)
theorem L0 {id:Nat}{l:List Oper}{Q:Exit->Fg->World->Prop}(hrefl:∀w,R w w)(htrans:∀a b c,R a b->R b c->R a c)(hm:P.follows .mixedOrders=true)
  (ld:List Nat) (π:Pl) (hp:(π.ok && Jf l.toArray ld π l.length (Cw l.length false))=true) (hsel:Region.noSelect l.toArray=true)
  (h:∀w1,w1=w.drew->Gm P n l (l.map (·.dst)) R π (λE w=>Q .normal E w) E w1):W P n (.region id l.toArray true) Q E w:=by
 intro ok;simp only [Jt]at ok;simp only [Au]at hp;have h':=(Xlo (P:=P) (ld:=ld) hrefl htrans ok hsel π l.length (Cw l.length false) E w.drew hp.2 (by simpa using h _ rfl)).1 (Pl.ok_spec hp.1).1 (Pl.ok_spec hp.1).2;refine Code.wp_mono (Q:=GH n (nf λE w=>Q .normal E w)) ?_ (wp_region_any hm (by simpa using QF _ _ _ _ h'));rintro e a w' ⟨E',rfl,hq⟩
 cases e<;>first|exact⟨E',rfl,hq⟩|exact hq.elim
theorem EY {l:List Oper}{ds:List (Option Tmp)}{i:Nat}{f:Fl}{anc:Bool}{rest:Pl}{K:Fg->World->Prop}
  (h:Dw P n ds R [(HU l i,f,anc)] (λE' w'=>Gm P n l ds R rest K E' w') E w):Gm P n l ds R (.one i f anc rest) K E w:=by
 cases f<;>exact h
theorem JE {l:List Oper}{ds:List (Option Tmp)}{c:Pl}{K:Fg->World->Prop}(h:Gm P n l ds R c K E w):Gm P n l ds R (.fork c) K E w:=h
theorem H6 {l:List Oper}{ds:List (Option Tmp)}{i:Nat}{anc:Bool}{sub others:Pl}{K:Fg->World->Prop}
 (h:Dw P n ds R [(HU l i,.x,anc)] (λE' w'=>Gm P n l ds R sub K E' w') E w) (ho:Gm P n l ds R others K E w):Gm P n l ds R (.alt i anc sub others) K E w:=⟨h,ho⟩
theorem J8 {l:List Oper}{ds:List (Option Tmp)}{K:Fg->World->Prop} : Gm P n l ds R .stop K E w:=trivial
theorem Im {l:List Oper}{ds:List (Option Tmp)}{K:Fg->World->Prop}(h:K E w):Gm P n l ds R .nil K E w:=h
end
abbrev EC := List UInt8
@[reducible] def S (l:EC):Value:=.string ⟨⟨l⟩⟩
@[reducible] def I (n:Int):Value:=.int .i64 n
@[reducible] def B (b:Bool):Value:=.bool b
@[reducible] def ED (b o:Nat):Value:=.pointer (some ⟨b,o,none⟩)
theorem O2 (l:EC):(⟨⟨l⟩⟩:ByteArray).size=l.length:=rfl
def Ln (P:Program)(T:TypeId):Bool:=match P.underlying T with
 | some (.struct _)|some (.array _ _)|none=>false
 | some _=>true
def K7 (P:Program)(T:TypeId):Option Nat:=match P.underlying T with
 | some (.struct _)|some (.array _ _)=>(P.info? T).map (·.size)
 | _=>none
def MD (P:Program)(T f:Nat):Option Nat:=match P.underlying T with
 | some (.struct fs)=>match fs[f]? with
  | some x=>(P.info? x.type).bind λi=>if i.size=0 then none else some x.offset
  | none=>none
 | _=>none
def IK (P:Program)(T:TypeId):Option (TypeId×Nat):=match P.underlying T with
 | some (.slice e)=>(P.info? e).map λi=>(e,i.size)
 | _=>none
def NI (P:Program)(T:TypeId):Option (Nat×TypeId×Nat):=match P.underlying T with
 | some (.array n e)=>(P.info? e).map λi=>(n,e,i.size)
 | _=>none
def JJ (P:Program)(T:TypeId):Bool:=match P.underlying T with|some .string=>true|_=>false
def Vm (P:Program)(T:TypeId):Bool:=match P.underlying T with|some .bool=>true|_=>false
def Oj (P:Program)(T:TypeId):Bool:=match P.underlying T with|some (.pointer _)=>true|_=>false
def H3 (P:Program)(T:TypeId):Option IntKind:=match P.underlying T with|some (.int k)=>some k|_=>none
section
variable {P:Program}{E:Fg}{d:Option Tmp}{ty:TypeId}{pos:String}{af:Array Edge}{g:Option (Nat×Bool)}{w:World}
theorem KA {x:Operand}{v:Value}(h:ev E x=v):PV P ⟨d,.move x,ty,pos,af,g⟩ E v:=λw=>by simp [execOp,h]
theorem Xt3 {x:Operand}{v:Value}(h:ev E x=v):PV P ⟨d,.assign x,ty,pos,af,g⟩ E v:=λw=>by simp [execOp,h]
theorem X4l {c a b:Operand}{t:Bool}{x y:Value}(hc:ev E c=.bool t)(ha:ev E a=x)(hb:ev E b=y):PV P ⟨d,.pick c a b,ty,pos,af,g⟩ E (if t then x else y):=λw=>by
 simp [execOp,hc,asBool,ha,hb]
theorem N4 {x y:Operand}{op:BinOp}{T U:TypeId}{k:IntKind}{a b c:Int}(hop:op=.add/\c=a+b\/op=.sub/\c=a-b\/op=.mul/\c=a*b)(hx:ev E x=.int k a)(hy:ev E y=.int k b) :
  PV P ⟨d,.binOp op T x y U,ty,pos,af,g⟩ E (.int k (k.wrap c)):=λw=>by
 rcases hop with⟨rfl,rfl⟩|⟨rfl,rfl⟩|⟨rfl,rfl⟩<;>simp [execOp,hx,hy,eqGuard,binOp,Op.intArith]
def ET (n:Int):Prop:=-9223372036854775808<=n/\n<=9223372036854775807
theorem KT {n:Int}(h:ET n):IntKind.i64.wrap n=n:=IntWalk.i64_in n h
theorem Gx {x y:Operand}{T U:TypeId}{a b:Int}(hx:ev E x=I a)(hy:ev E y=I b)(h:ET (a+b)):PV P ⟨d,.binOp .add T x y U,ty,pos,af,g⟩ E (I (a+b)):=by
 have:=N4 (P:=P) (d:=d) (ty:=ty) (pos:=pos) (af:=af) (g:=g) (T:=T) (U:=U) (.inl ⟨rfl,rfl⟩) hx hy;rwa [KT h]at this
theorem Ga {x y:Operand}{T U:TypeId}{a b:Int}(hx:ev E x=I a)(hy:ev E y=I b)(h:ET (a-b)):PV P ⟨d,.binOp .sub T x y U,ty,pos,af,g⟩ E (I (a-b)):=by
 have:=N4 (P:=P) (d:=d) (ty:=ty) (pos:=pos) (af:=af) (g:=g) (T:=T) (U:=U) (.inr (.inl ⟨rfl,rfl⟩)) hx hy;rwa [KT h]at this
theorem Ko {x y:Operand}{T U:TypeId}{a b:Int}(hx:ev E x=I a)(hy:ev E y=I b)(h:ET (a*b)):PV P ⟨d,.binOp .mul T x y U,ty,pos,af,g⟩ E (I (a*b)):=by
 have:=N4 (P:=P) (d:=d) (ty:=ty) (pos:=pos) (af:=af) (g:=g) (T:=T) (U:=U) (.inr (.inr ⟨rfl,rfl⟩)) hx hy;rwa [KT h]at this
theorem X4m {x y:Operand}{T U:TypeId}{k:IntKind}{a b:Int}(hx:ev E x=.int k a)(hy:ev E y=.int k b):PV P ⟨d,.binOp .add T x y U,ty,pos,af,g⟩ E (.int k (k.wrap (a+b))):=N4 (.inl ⟨rfl,rfl⟩) hx hy
theorem UV {x y:Operand}{T U:TypeId}{k:IntKind}{a b:Int}(hx:ev E x=.int k a)(hy:ev E y=.int k b):PV P ⟨d,.binOp .mul T x y U,ty,pos,af,g⟩ E (.int k (k.wrap (a*b))):=N4 (.inr (.inr ⟨rfl,rfl⟩)) hx hy
theorem Fa {x y:Operand}{T U:TypeId}{k:IntKind}{a b:Int}(hx:ev E x=.int k a)(hy:ev E y=.int k b):PV P ⟨d,.binOp .lss T x y U,ty,pos,af,g⟩ E (.bool (decide (a<b))):=λw=>by
 simp [execOp,hx,hy,eqGuard,binOp,Op.intCmp]
theorem IM {x y:Operand}{T U:TypeId}{k:IntKind}{a b:Int}(hx:ev E x=.int k a)(hy:ev E y=.int k b):PV P ⟨d,.binOp .leq T x y U,ty,pos,af,g⟩ E (.bool (decide (a<=b))):=λw=>by
 simp [execOp,hx,hy,eqGuard,binOp,Op.intCmp]
theorem FY {x y:Operand}{T U:TypeId}{k:IntKind}{a b:Int}(hx:ev E x=.int k a)(hy:ev E y=.int k b):PV P ⟨d,.binOp .gtr T x y U,ty,pos,af,g⟩ E (.bool (decide (b<a))):=λw=>by
 simp [execOp,hx,hy,eqGuard,binOp,Op.intCmp]
theorem IB {x y:Operand}{T U:TypeId}{k:IntKind}{a b:Int}(hx:ev E x=.int k a)(hy:ev E y=.int k b):PV P ⟨d,.binOp .geq T x y U,ty,pos,af,g⟩ E (.bool (decide (b<=a))):=λw=>by
 simp [execOp,hx,hy,eqGuard,binOp,Op.intCmp]
theorem G1 {x y:Operand}{T U:TypeId}{k:IntKind}{a b:Int}(hx:ev E x=.int k a)(hy:ev E y=.int k b):PV P ⟨d,.binOp .eql T x y U,ty,pos,af,g⟩ E (.bool (decide (a=b))):=λw=>by
 simp [execOp,hx,hy,eqGuard,binOp,Op.intCmp];exact(Bool.beq_eq_decide_eq a b)
theorem F8 {x y:Operand}{T U:TypeId}{k:IntKind}{a b:Int}(hx:ev E x=.int k a)(hy:ev E y=.int k b):PV P ⟨d,.binOp .neq T x y U,ty,pos,af,g⟩ E (.bool (decide (a≠b))):=λw=>by
 simp [execOp,hx,hy,eqGuard,binOp,Op.intCmp]
 by_cases h:a=b<;>simp [h]
theorem JB {x:Operand}{T U:TypeId}{k k':IntKind}{a:Int}(hx:ev E x=.int k' a)(hT:(P.underlying T).isSome=true)(hU:H3 P U=some k):PV P ⟨d,.convert T U x,ty,pos,af,g⟩ E (.int k (k.wrap a)):=λw=>by
 obtain⟨dT,z⟩:=Option.isSome_iff_exists.1 hT;have r:P.underlying U=some (.int k):=by
  unfold H3 at hU;split at hU
  ·rename_i h;cases hU;exact h
  ·cases hU
 simp [execOp,hx,convert,underlying,z,r,Conv.intToInt]
theorem Mh {x y:Operand}{T U:TypeId}{a b:EC}(hx:ev E x=S a)(hy:ev E y=S b):PV P ⟨d,.binOp .eql T x y U,ty,pos,af,g⟩ E (.bool (decide (a=b))):=λw=>by
 simp [execOp,hx,hy,eqGuard,binOp,Op.stringOp]
 by_cases h:a=b<;>simp [h]
theorem LR {x y:Operand}{T U:TypeId}{a b:EC}(hx:ev E x=S a)(hy:ev E y=S b):PV P ⟨d,.binOp .neq T x y U,ty,pos,af,g⟩ E (.bool (decide (a≠b))):=λw=>by
 simp [execOp,hx,hy,eqGuard,binOp,Op.stringOp]
 by_cases h:a=b<;>simp [h]
theorem Nf {x y:Operand}{T U:TypeId}{a b:EC}(hx:ev E x=S a)(hy:ev E y=S b):PV P ⟨d,.binOp .lss T x y U,ty,pos,af,g⟩ E (.bool (Op.bytesLess a b)):=λw=>by
 simp [execOp,hx,hy,eqGuard,binOp,Op.stringOp]
theorem Rb {x y:Operand}{T U:TypeId}{a b:EC}(hx:ev E x=S a)(hy:ev E y=S b):PV P ⟨d,.binOp .geq T x y U,ty,pos,af,g⟩ E (.bool (!Op.bytesLess a b)):=λw=>by
 simp [execOp,hx,hy,eqGuard,binOp,Op.stringOp]
theorem Ji {x y:Operand}{T U:TypeId}{a b:EC}(hx:ev E x=S a)(hy:ev E y=S b)(h:a.length+b.length<=9223372036854775807):PV P ⟨d,.binOp .add T x y U,ty,pos,af,g⟩ E (S (a++b)):=λw=>by
 have h':¬ ((((⟨⟨a⟩⟩:ByteArray).size+(⟨⟨b⟩⟩:ByteArray).size:Nat):Int) > IntKind.i64.max):=by
  have e:IntKind.i64.max=9223372036854775807:=rfl;rw[e,O2,O2];omega
 have e:(⟨⟨a⟩⟩:ByteArray)++⟨⟨b⟩⟩=⟨⟨a++b⟩⟩:=by
  show ByteArray.append _ _=_;simp [ByteArray.append]
 have e2:(Op.stringOp .add ⟨⟨a⟩⟩ ⟨⟨b⟩⟩:Sem Value)=pure (S (a++b)):=by
  unfold Op.stringOp;simp only [];rw[if_neg h',e]
 simp only [execOp,hx,hy,eqGuard,binOp,e2];rfl
theorem X4n {x:Operand}{T:TypeId}{a:EC}(hT:JJ P T=true)(hx:ev E x=S a):PV P ⟨d,.call { callee:=.builtin .len,args:=#[x],argTypes:=#[T] },ty,pos,af,g⟩ E (I a.length):=λw=>by
 have r:P.underlying T=some .string:=by
  unfold JJ at hT;split at hT<;>first|assumption|cases hT
 simp [execOp,resolve,invoke,builtin,Builtin.len_,underlying,r,hx,goInt,O2]
theorem RB {x y:Operand}{T:TypeId}{a:EC}{i:Nat}{c:UInt8}(hT:JJ P T=true)(hx:ev E x=S a)(hy:ev E y=I i)(hi:a[i]?=some c):PV P ⟨d,.index T x y,ty,pos,af,g⟩ E (.int .u8 c.toNat):=λw=>by
 have z:P.underlying T=some .string:=by
  unfold JJ at hT;split at hT<;>first|assumption|cases hT
 have e:(⟨⟨a⟩⟩:ByteArray)[(i:Int).toNat]?=some c:=by
  rw[BM];have r:i<a.length:=(Ao.1 hi).1;rw[getElem?_pos _ i r];exact hi▸(by rw[Av r];rfl)
 have e2:(⟨⟨a⟩⟩:ByteArray)[i]?=some c:=by simpa using e
 simp [execOp,Instr.index,asIntOf,hx,hy,underlying,z,e2]
theorem Ry {T:TypeId}(h:Ln P T=true):(isAgg T).run P w=.ok false w:=by
 unfold Ln at h;unfold isAgg underlying
 cases hu:P.underlying T with
 | none=>rw[hu]at h;simp at h
 | some u=>rw[hu]at h;cases u<;>simp [hu]at h ⊢
theorem LQ {T k:Nat}(h:K7 P T=some k):(isAgg T).run P w=.ok true w/\(sizeOf T).run P w=.ok k w:=by
 unfold K7 at h;have key:∀u,P.underlying T=some u->(P.info? T).map (·.size)=some k->(u matches .struct _ | .array _ _)=true->(isAgg T).run P w=.ok true w/\(sizeOf T).run P w=.ok k w:=by
  intro u hu hk hm;obtain⟨i,hi,hs⟩:=Bd.1 hk
  constructor
  ·unfold isAgg underlying
   cases u<;>simp [hu]at hm ⊢
  ·simp [sizeOf,typeInfo,hi,hs]
 cases hu:P.underlying T with
 | none=>rw[hu]at h;simp at h
 | some u=>rw[hu]at h;cases u<;>simp at h<;>exact key _ hu (by simpa using h) rfl
theorem Xt6 {x:Operand}{T f o b k:Nat}(hT:MD P T f=some k)(hx:ev E x=.pointer (some ⟨b,o,none⟩)):PV P ⟨d,.fieldAddr T x f,ty,pos,af,g⟩ E (.pointer (some ⟨b,o+k,none⟩)):=λw=>by
 unfold MD at hT
 cases hu:P.underlying T with
 | none=>rw[hu]at hT;simp at hT
 | some u=>
  rw[hu]at hT
  cases u<;>simp at hT
  rename_i fs
  cases hf:fs[f]? with
  | none=>rw[hf]at hT;simp at hT
  | some fl=>
   rw[hf]at hT;simp only [CR]at hT;obtain⟨i,hi,hs⟩:=hT;have r:i.size≠0:=λe=>by rw[if_pos e]at hs;cases hs
   rw[if_neg r]at hs
   cases hs
   have z:(⟨b,o,none⟩:Addr).add fl.offset=⟨b,o+fl.offset,none⟩:=by
    unfold Addr.add;split
    ·rename_i e;simp [e]
    ·rfl
   simp [execOp,Instr.fieldAt,underlying,hu,hf,hx,Instr.sureAddr,fieldPlace,sizeOf,typeInfo,hi,r,z]
def base (v:Value):Nat×Nat:=match v with
 | .slice (some a) _ _=>(a.block,a.off)
 | _=>(0,0)
def FW (v:Value)(n:Nat):Prop:=(v=.slice none 0 0/\n=0)\/(∃b o c,v=.slice (some ⟨b,o,none⟩) n c/\n<=c)\/(n=0/\∃a c,v=.slice (some a) 0 c)
theorem Kf {T e k:Nat}(h:IK P T=some (e,k)):P.underlying T=some (.slice e)/\∃i,P.info? e=some i/\i.size=k:=by
 unfold IK at h
 cases hu:P.underlying T with
 | none=>rw[hu]at h;simp at h
 | some u=>
  rw[hu]at h
  cases u<;>simp at h
  rename_i e';obtain⟨i,hi,rfl,rfl⟩:=h;exact⟨rfl,i,hi,rfl⟩
theorem Rs {T m e k:Nat}(h:NI P T=some (m,e,k)):P.underlying T=some (.array m e)/\∃i,P.info? e=some i/\i.size=k:=by
 unfold NI at h
 cases hu:P.underlying T with
 | none=>rw[hu]at h;simp at h
 | some u=>
  rw[hu]at h
  cases u<;>simp at h
  rename_i e';obtain⟨i,hi,rfl,rfl,rfl⟩:=h;exact⟨rfl,i,hi,rfl⟩
theorem Q6 {x:Operand}{T e k n:Nat}{v:Value}(hT:IK P T=some (e,k))(hv:FW v n)(hx:ev E x=v):PV P ⟨d,.call { callee:=.builtin .len,args:=#[x],argTypes:=#[T] },ty,pos,af,g⟩ E (I n):=λw=>by
 obtain⟨hu,_⟩:=Kf hT;rcases hv with⟨rfl,rfl⟩|⟨b,o,c,rfl,_⟩|⟨rfl,a,c,rfl⟩<;>simp [execOp,resolve,invoke,builtin,Builtin.len_,underlying,hu,hx,goInt]
theorem HM {x y:Operand}{T e k n i:Nat}{v:Value}(hT:IK P T=some (e,k))(hv:FW v n)(hx:ev E x=v)(hy:ev E y=I i)(hi:i<n) :
  PV P ⟨d,.indexAddr T x y,ty,pos,af,g⟩ E (ED (base v).1 ((base v).2+i*k)):=λw=>by
 obtain⟨hu,f,J,hk⟩:=Kf hT;rcases hv with⟨rfl,rfl⟩|⟨b,o,c,rfl,_⟩|⟨rfl,a,c,rfl⟩
 ·omega
 rotate_left
 ·omega
 ·have z:(⟨b,o,none⟩:Addr).add (i*k)=⟨b,o+i*k,none⟩:=by
   unfold Addr.add;split
   ·rename_i e;simp [e]
   ·rfl
  have r:(0:Int)<=(i:Int)/\(i:Int)<(n:Int):=by omega
  simp [execOp,Instr.indexAt,asIntOf,underlying,hu,hx,hy,sizeOf,typeInfo,J,hk,base,r,z];omega
theorem Kh {x y:Operand}{T e k m i b o:Nat}(hT:NI P T=some (m,e,k))(hx:ev E x=ED b o)(hy:ev E y=I i)(hi:i<m) :
  PV P ⟨d,.indexAddr T x y,ty,pos,af,g⟩ E (ED b (o+i*k)):=λw=>by
 obtain⟨hu,f,J,hk⟩:=Rs hT;have z:(⟨b,o,none⟩:Addr).add (i*k)=⟨b,o+i*k,none⟩:=by
  unfold Addr.add;split
  ·rename_i e;simp [e]
  ·rfl
 have r:(0:Int)<=(i:Int)/\(i:Int)<(m:Int):=by omega
 simp [execOp,Instr.indexAt,asIntOf,underlying,hu,hx,hy,sizeOf,typeInfo,J,hk,r,z,Instr.sureAddr];omega
theorem X4o {x:Operand}{a:Addr}(hx:ev E x=.pointer (some a)):PV P ⟨d,.nilCheck x,ty,pos,af,g⟩ E (.pointer (some a)):=λw=>by
 simp [execOp,hx]
theorem X8j {x:Operand}{T:TypeId}{b:Bool}(hx:ev E x=.bool b):PV P ⟨d,.unOp .not T x,ty,pos,af,g⟩ E (.bool (!b)):=λw=>by
 simp [execOp,hx,Op.unary]
theorem T2 {x:Operand}{i:Nat}{vs:List Value}{v:Value}(hx:ev E x=.tuple ⟨vs⟩)(hv:vs[i]?=some v):PV P ⟨d,.extract x i,ty,pos,af,g⟩ E v:=λw=>by
 simp [execOp,hx,Instr.extract,hv]
theorem Od (op:BinOp)(T U:TypeId)(x y:Operand)(w:World)(v:Value)(hg:∀w,(eqGuard op T x y (ev E x) (ev E y)).run P w=.ok () w)(h:(binOp op T (ev E x) (ev E y)).run P w=.ok v w) :
  (execOp (ev E) ⟨d,.binOp op T x y U,ty,pos,af,g⟩).run P w=.ok (.value v) w:=by
 simp [execOp,hg,h]
theorem X8k {x y:Operand}{T U:TypeId}{a b:Bool}(hT:Vm P T=true)(hx:ev E x=.bool a)(hy:ev E y=.bool b):PV P ⟨d,.binOp .eql T x y U,ty,pos,af,g⟩ E (.bool (decide (a=b))):=λw=>by
 have r:P.underlying T=some .bool:=by
  unfold Vm at hT;split at hT<;>first|assumption|cases hT
 refine Od _ _ _ _ _ _ _ (λw=>by simp [hx,hy,eqGuard]) ?_;rw[hx,hy,run_eql_bool _ _ _ _ r]
 cases a<;>cases b<;>rfl
theorem Ul {T:TypeId}(h:Oj P T=true):P.underlying T=some (.pointer (P.pointee T)):=by
 unfold Oj at h;split at h
 ·rename_i e he;simp [Program.pointee,he]
 ·cases h
theorem Gj {x y:Operand}{T U:TypeId}{a:Option Addr}(hT:Oj P T=true)(hx:ev E x=.pointer a)(hy:ev E y=.pointer none):PV P ⟨d,.binOp .eql T x y U,ty,pos,af,g⟩ E (.bool (decide (a=none))):=λw=>by
 refine Od _ _ _ _ _ _ _ (λw=>by simp [hx,hy,eqGuard]) ?_;rw[hx,hy,run_eql_pointer_nil _ _ _ (Ul hT)]
 cases a<;>rfl
theorem Ng {x y:Operand}{T U:TypeId}{a:Option Addr}(hT:Oj P T=true)(hx:ev E x=.pointer a)(hy:ev E y=.pointer none):PV P ⟨d,.binOp .neq T x y U,ty,pos,af,g⟩ E (.bool (decide (a≠none))):=λw=>by
 refine Od _ _ _ _ _ _ _ (λw=>by simp [hx,hy,eqGuard]) ?_;rw[hx,hy,run_neq_pointer_nil _ _ _ (Ul hT)]
 cases a<;>rfl
theorem Xy9 (w:World)(t e:TypeId)(a:Option Addr)(l c:Nat)(h:P.underlying t=some (.slice e)):(binOp .eql t (.slice a l c) (.slice none 0 0)).run P w=.ok (.bool a.isNone) w:=by
 have e1:(Op.equalIn (9999+1) t (.slice a l c) (.slice none 0 0)).run P w=.ok a.isNone w:=by
  rw[Op.equalIn]
  cases a<;>simp [underlying,h]
 simp only [binOp,Op.equal,Op.maxDepth,Sem.run_bind,e1];rfl
theorem RH {x y:Operand}{T U e k:Nat}{a:Option Addr}{n c:Nat}(hT:IK P T=some (e,k))(hx:ev E x=.slice a n c)(hy:ev E y=.slice none 0 0):PV P ⟨d,.binOp .eql T x y U,ty,pos,af,g⟩ E (.bool (decide (a=none))):=λw=>by
 obtain⟨he,_⟩:=Kf hT;refine Od _ _ _ _ _ _ _ (λw=>by simp [hx,hy,eqGuard]) ?_;rw[hx,hy,Xy9 _ _ _ _ _ _ he]
 cases a<;>rfl
theorem M6 {k:IntKind}{i:Int}{y:Nat}{c:BoundsCode}(h:0<=i/\i<=y)(w:World):(Instr.sliceBound (.int k i) y c).run P w=.ok i.toNat w:=by
 simp [Instr.sliceBound,asIntOf,h]
theorem Xt8 (s:EC)(a b:Nat):(⟨⟨s⟩⟩:ByteArray).extract a b=⟨⟨(s.take b).drop a⟩⟩:=by
 have h1:((⟨⟨s⟩⟩:ByteArray).extract a b).data=(#[].extract 0 0++(⟨s⟩:Array UInt8).extract a (a+(b-a))) ++ #[].extract (0+min (b-a) ((⟨s⟩:Array UInt8).size-a)) 0:=rfl
 apply ByteArray.ext
 rw[h1]
 apply DT
 simp [List.drop_take]
def bnd (E:Fg)(d:Nat)(x:Option Operand)(a:Nat):Prop:=match x with
 | some l=>ev E l=I a
 | none=>a=d
theorem Xz {x:Operand}{lo hi:Option Operand}{T a b:Nat}{s:EC}(hT:JJ P T=true)(hx:ev E x=S s)
  (hlo:bnd E 0 lo a) (hhi:bnd E s.length hi b) (h1:a<=b) (h2:b<=s.length) :
  PV P ⟨d,.slice T x lo hi none,ty,pos,af,g⟩ E (S ((s.take b).drop a)):=λw=>by
 have z:P.underlying T=some .string:=by
  unfold JJ at hT;split at hT<;>first|assumption|cases hT
 have r:(0:Int)<=(b:Int)/\(b:Int)<=(s.length:Int):=by omega
 have J:(0:Int)<=(a:Int)/\(a:Int)<=(b:Int):=by omega
 have key:(Instr.sliceBounds false s.length s.length (lo.map (ev E)) (hi.map (ev E)) none).run P w=.ok (a,b,s.length) w:=by
  unfold bnd at hlo hhi
  cases lo<;>cases hi<;>simp only []at hlo hhi<;>subst_vars<;>simp only [CS,Instr.sliceBounds,Sem.run_bind,Sem.run_pure,Result.andThen_ok, *] <;>
   simp only [M6 r,M6 J,Result.andThen_ok,BM]<;>rfl
 have e1:(Instr.sliceAt T (.string ⟨⟨s⟩⟩) (lo.map (ev E)) (hi.map (ev E)) none).run P w=.ok (S ((s.take b).drop a)) w:=by
  simp [Instr.sliceAt,Instr.slice,underlying,z,O2,key,Xt8]
 simp only [execOp,hx,CT,Sem.run_bind,e1];rfl
end
structure Mod (S:Nat->Prop)(w w':World):Prop where
 os:w'.os=w.os
 tape:w'.tape=w.tape
 output:w'.output=w.output
 size:w.heap.size<=w'.heap.size
 block:∀k,k<w.heap.size->¬ S k->w'.heap[k]?=w.heap[k]?
def noB : Nat->Prop:=λ_=>False
abbrev EB (w w':World):Prop:=Mod noB w w'
def ES (b:Nat):Nat->Prop:=λk=>k=b
theorem Mod.refl (S:Nat->Prop)(w:World):Mod S w w:=⟨rfl,rfl,rfl,Aa _,λ_ _ _=>rfl⟩
theorem EB.refl (w:World):EB w w:=Mod.refl _ w
theorem Mod.trans {S T U:Nat->Prop}{a b c:World}(h:Mod S a b)(k:Mod T b c)(hS:∀i,S i->U i)(hT:∀i,T i->i<a.heap.size->U i):Mod U a c:=
 ⟨k.os.trans h.os,k.tape.trans h.tape,k.output.trans h.output,Ae h.size k.size,λi hi J=>
  (k.block i (Nat.lt_of_lt_of_le hi h.size) (λr=>J (hT i r hi))).trans (h.block i hi (λz=>J (hS i z)))⟩
theorem Mod.ext {S:Nat->Prop}{a b c:World}(h:Mod S a b)(k:EB b c):Mod S a c:=h.trans k (λ_ h=>h) (λ_ h _=>h.elim)
theorem EB.trans {a b c:World}(h:EB a b)(k:EB b c):EB a c:=Mod.ext h k
theorem EB.mod {S:Nat->Prop}{a b c:World}(h:EB a b)(k:Mod S b c):Mod S a c:=Mod.trans h k (λ_ h=>h.elim) (λ_ h _=>h)
theorem Mod.mono {S U:Nat->Prop}{a b:World}(h:Mod S a b)(hS:∀i,S i->i<a.heap.size->U i):Mod U a b:=
 ⟨h.os,h.tape,h.output,h.size,λi hi r=>h.block i hi (λs=>r (hS i s hi))⟩
theorem EB.own {S:Nat->Prop}{a b c:World}(h:EB a b)(k:Mod S b c)(hS:∀i,S i->a.heap.size<=i):EB a c:=
 Mod.trans h k (λ_ h=>h) (λi h hi=>by have:=hS i h;omega)
theorem Mod.own {S T:Nat->Prop}{a b c:World}(h:Mod T a b)(k:Mod S b c)(hS:∀i,S i->i<a.heap.size->T i):Mod T a c:=
 Mod.trans h k (λ_ h=>h) hS
theorem EB.drew (w:World):EB w w.drew:=⟨rfl,rfl,rfl,Aa _,λ_ _ _=>rfl⟩
theorem EB.alloc (w:World)(o:Obj):EB w (w.alloc o):=⟨rfl,rfl,rfl,by simp,λk hk _=>Below.heap_alloc _ _ _ hk⟩
theorem EB.below {w w':World}(h:EB w w'):Below w.heap.size w w':=⟨h.os,h.tape,h.output,h.size,λk hk=>h.block k hk (λh=>h)⟩
theorem EB.of_below {w w':World}(h:Below w.heap.size w w'):EB w w':=⟨h.os,h.tape,h.output,h.size,λk hk _=>h.block k hk⟩
theorem EB.of_grown {w w':World}(h:w.grownBy w' none):EB w w':=⟨h.os,h.tape,h.output,h.size,λk hk _=>h.block k hk EQ⟩
theorem Mod.of_grown {w w':World}{r:Option Nat}(h:w.grownBy w' r):Mod (λk=>r=some k) w w':=⟨h.os,h.tape,h.output,h.size,λk hk hn=>h.block k hk (λe=>hn e.symm)⟩
theorem Mod.cell {S:Nat->Prop}{w w':World}(h:Mod S w w'){b o:Nat}{v:Value}(hc:w.cell? ⟨b,o,none⟩=some v)(hS:¬ S b):w'.cell? ⟨b,o,none⟩=some v:=by
 have r:=World.block_lt_of_cell? (w:=w) (a:=⟨b,o,none⟩) hc;rw[World.cell?_of_block (w:=w) (h.block b r hS)];exact hc
def EL (w:World)(b:Nat)(cs:List Value)(T:TypeId):Prop:=w.heap[b]?=some (.cells ⟨cs⟩ T (0,0))
theorem EL.lt {w:World}{b:Nat}{cs:List Value}{T:TypeId}(h:EL w b cs T):b<w.heap.size:=(Array.getElem?_eq_some_iff.1 h).1
theorem EL.mod {S:Nat->Prop}{w w':World}{b:Nat}{cs:List Value}{T:TypeId}(h:EL w b cs T)(m:Mod S w w')(hS:¬ S b):EL w' b cs T:=by
 have r:=h.lt;unfold EL at *;rw[m.block b r hS];exact h
theorem EL.ext {w w':World}{b:Nat}{cs:List Value}{T:TypeId}(h:EL w b cs T)(m:EB w w'):EL w' b cs T:=h.mod m (λh=>h)
theorem EL.at {w:World}{b k:Nat}{cs:List Value}{T:TypeId}{v:Value}(h:EL w b cs T)(hk:cs[k]?=some v):w.cell? ⟨b,k,none⟩=some v:=by
 unfold EL at h;simp [World.cell?,h];simpa using hk
theorem EL.free {w:World}{b k:Nat}{cs:List Value}{T:TypeId}(h:EL w b cs T):w.frozen? ⟨b,k,none⟩=false:=by
 unfold EL at h;simp [World.frozen?,h]
def I6 (w:World)(b o:Nat)(cs:List Value):Prop:=∀i v,cs[i]?=some v->w.cell? ⟨b,o+i,none⟩=some v
theorem I6.mod {S:Nat->Prop}{w w':World}{b o:Nat}{cs:List Value}(h:I6 w b o cs)(m:Mod S w w')(hS:¬ S b):I6 w' b o cs:=λi v hi=>m.cell (h i v hi) hS
theorem I6.at {w:World}{b o k:Nat}{cs:List Value}{v:Value}(h:I6 w b o cs)(hk:cs[k]?=some v):w.cell? ⟨b,o+k,none⟩=some v:=h k v hk
theorem EL.row {w:World}{b:Nat}{cs:List Value}{T:TypeId}(h:EL w b cs T):I6 w b 0 cs:=λi v hi=>by rw[A9];exact h.at hi
theorem EL.part {w:World}{b:Nat}{cs:List Value}{T:TypeId}(o n:Nat)(h:EL w b cs T):I6 w b o ((cs.drop o).take n):=λi v hi=>h.at (by
 rw[AV]at hi;split at hi
 ·rw[Bf]at hi;exact hi
 ·cases hi)
structure Slc (sz:Nat)(w:World)(v:Value)(xs:List (List Value)):Prop where
 sl:FW v xs.length
 at':∀i cs,xs[i]?=some cs->cs.length=sz/\I6 w (base v).1 ((base v).2+i*sz) cs
theorem Slc.mod {S:Nat->Prop}{sz:Nat}{w w':World}{v:Value}{xs:List (List Value)}(h:Slc sz w v xs)(m:Mod S w w')(hS:xs≠[]->¬ S (base v).1):Slc sz w' v xs:=
 ⟨h.sl,λi cs hi=>⟨(h.at' i cs hi).1,(h.at' i cs hi).2.mod m (hS (λe=>by rw[e]at hi;simp at hi))⟩⟩
theorem Slc.ext {sz:Nat}{w w':World}{v:Value}{xs:List (List Value)}(h:Slc sz w v xs)(m:EB w w'):Slc sz w' v xs:=h.mod m (λ_ h=>h)
theorem Slc.row {sz:Nat}{w:World}{v:Value}{xs:List (List Value)}{i:Nat}{cs:List Value}(h:Slc sz w v xs)(hi:xs[i]?=some cs):I6 w (base v).1 ((base v).2+i*sz) cs:=(h.at' i cs hi).2
theorem Slc.nil (sz:Nat)(w:World):Slc sz w (.slice none 0 0) []:=⟨.inl ⟨rfl,rfl⟩,λi cs hi=>by simp at hi⟩
def EM {α:Type}(enc:α->List Value)(sz:Nat)(w:World)(v:Value)(l:List α):Prop:=Slc sz w v (l.map enc)
section
variable {α:Type}{enc:α->List Value}{sz:Nat}{w w':World}{v:Value}{l:List α}
theorem EM.sl (h:EM enc sz w v l):FW v l.length:=by have:=Slc.sl h;rwa [An]at this
theorem EM.row {i:Nat}{x:α}(h:EM enc sz w v l)(hi:l[i]?=some x):I6 w (base v).1 ((base v).2+i*sz) (enc x):=Slc.row h (by rw[AH,hi];rfl)
theorem EM.ext (h:EM enc sz w v l)(m:EB w w'):EM enc sz w' v l:=Slc.ext h m
theorem EM.mod {S:Nat->Prop}(h:EM enc sz w v l)(m:Mod S w w')(hS:l≠[]->¬ S (base v).1):EM enc sz w' v l:=Slc.mod h m (λe=>hS (λe2=>e (by rw[e2];rfl)))
theorem EM.lt {i:Nat}{x:α}(h:EM enc sz w v l)(hi:l[i]?=some x):i<l.length:=(Ao.1 hi).1
theorem EM.nil : EM enc sz w (.slice none 0 0) []:=Slc.nil sz w
theorem EM.blk {x:α}(h:EM enc sz w v l)(hsz:0<sz)(hi:l[0]?=some x):(base v).1<w.heap.size:=by
 obtain⟨h1,h2⟩:=Slc.at' h 0 (enc x) (by rw[AH,hi];rfl)
 cases he:enc x with
 | nil=>rw[he]at h1;simp at h1;omega
 | cons c r=>exact World.block_lt_of_cell? (w:=w) (a:=⟨_,_,none⟩) (h2 0 c (by rw[he];rfl))
end
section
variable {P:Program}{n:Nat}{ds:List (Option Tmp)}{R:World->World->Prop}{r:List (Oper×Fl×Bool)}{K:Fg->World->Prop}{E:Fg}{w:World}
variable {d:Nat}{op:Op}{ty:TypeId}{pos:String}{af:Array Edge}{g:Option (Nat×Bool)}{anc:Bool}{v:Value}
theorem EF (h:K E w):Dw P n ds R [] K E w:=h
theorem JS (hg:FB ds E g=true)(hv:PV P ⟨some d,op,ty,pos,af,g⟩ E v)(h:Dw P n ds R r K (FJ E d v) w):Dw P n ds R ((⟨some d,op,ty,pos,af,g⟩,.p,anc) :: r) K E w:=by
 unfold Dw;rw[if_pos hg];exact⟨v,hv,h⟩
theorem EW {v':Value}(hg:FB ds E g=true)(hv:PV P ⟨some d,op,ty,pos,af,g⟩ E v')(hn:v'=v)(h:Dw P n ds R r K (FJ E d v) w):Dw P n ds R ((⟨some d,op,ty,pos,af,g⟩,.p,anc) :: r) K E w:=
 JS hg (hn▸hv) h
theorem Ycb {x:Operand}(hg:FB ds E g=true)(hx:ev E x=v)(h:Dw P n ds R r K (FJ E d v) w):Dw P n ds R ((⟨some d,.move x,ty,pos,af,g⟩,.p,anc) :: r) K E w:=JS hg (KA hx) h
theorem Ycc {x:Operand}(hg:FB ds E g=true)(hx:ev E x=v)(h:Dw P n ds R r K (FJ E d v) w):Dw P n ds R ((⟨some d,.assign x,ty,pos,af,g⟩,.p,anc) :: r) K E w:=JS hg (Xt3 hx) h
theorem FK (hg:FB ds E g=true)(hv:∀w',R w w'->LV P ⟨some d,op,ty,pos,af,g⟩ E w' v)(h:Dw P n ds R r K (FJ E d v) w):Dw P n ds R ((⟨some d,op,ty,pos,af,g⟩,.l,anc) :: r) K E w:=by
 unfold Dw;rw[if_pos hg];exact⟨v,hv,h⟩
theorem X8l {f:Fl}(hg:FB ds E g=false)(h:Dw P n ds R r K (FJ E d undef) w):Dw P n ds R ((⟨some d,op,ty,pos,af,g⟩,f,anc) :: r) K E w:=by
 cases f<;>(unfold Dw;rw[if_neg (by rw[hg];decide)];exact h)
theorem MX {o:Oper}(hg:FB ds E o.guard=true)(h:XW P n o E w (λE' w'=>(anc=false->R w w')/\Dw P n ds R r K E' w')):Dw P n ds R ((o,.x,anc) :: r) K E w:=by
 unfold Dw;rw[if_pos hg];exact h
theorem I8 {l:List (Oper×Fl×Bool)}(s:Nat){b:Bool}(hb:E s=.bool b)(ht:b=true->Dw P n ds R l K (FJ E s (.bool true)) w)(hf:b=false->Dw P n ds R l K (FJ E s (.bool false)) w):Dw P n ds R l K E w:=by
 cases b with
 | true=>have:=ht rfl;rwa [QB E s _ hb]at this
 | false=>have:=hf rfl;rwa [QB E s _ hb]at this
theorem Fz {l:List (Oper×Fl×Bool)}(s:Nat){p:Prop}[Decidable p](hb:E s=.bool (decide p))(ht:p->Dw P n ds R l K (FJ E s (.bool true)) w)(hf:¬ p->Dw P n ds R l K (FJ E s (.bool false)) w):Dw P n ds R l K E w:=
 I8 s hb (λh=>ht (of_decide_eq_true h)) (λh=>hf (of_decide_eq_false h))
def RX (R:World->World->Prop)(anc:Bool):Prop:=anc=true\/∀w w',EB w w'->R w w'
theorem RX.ext {anc:Bool} : RX EB anc:=.inr λ_ _ h=>h
theorem RX.all : RX R true:=.inl rfl
theorem RX.use {anc:Bool}(h:RX R anc){w w':World}(he:EB w w'):anc=false->R w w':=λe=>h.elim (λh=>by rw[h]at e;cases e) (λh=>h _ _ he)
theorem HL {o:Oper}{w':World}{v:Value}(hg:FB ds E o.guard=true)(hr:(execOp (ev E) o).run P w=.ok (.value v) w')(hR:anc=false->R w w')(h:Dw P n ds R r K (Gp E o.dst v) w'):Dw P n ds R ((o,.x,anc) :: r) K E w:=by
 refine MX hg λok=>?_;unfold Oper.wp;rw[LK ok,hr];exact⟨_,Iy _ _ _ _,hR,h⟩
theorem Ri {o:Oper}{w':World}(hg:FB ds E o.guard=true)(hr:(execOp (ev E) o).run P w=.ok .skip w')(hR:anc=false->R w w')(h:Dw P n ds R r K (Gp E o.dst undef) w'):Dw P n ds R ((o,.x,anc) :: r) K E w:=by
 refine MX hg λok=>?_;unfold Oper.wp;rw[LK ok,hr];exact⟨_,Iy _ _ _ _,hR,h⟩
theorem MA {x:Operand}{T b o:Nat}{v:Value}{dd:Option Tmp}(hT:Ln P T=true)(hx:ev E x=ED b o)(hc:w.cell? ⟨b,o,none⟩=some v):LV P ⟨dd,.load T x,ty,pos,af,g⟩ E w v:=by
 unfold LV;simp [execOp,hx,Instr.loadAt,Instr.sureAddr,loadVar,Ry hT,hc]
theorem O4 {b o:Nat} : ∀(cs:List Value) (i:Nat) (z:Array Value),(∀j v,cs[j]?=some v->w.cell? ⟨b,o+i+j,none⟩=some v)->
  (loadCellsFrom ⟨b,o,none⟩ i cs.length z).run P w=.ok (z++cs.toArray) w:=by
 intro cs
 induction cs with
 | nil=>intro i z _;simp [loadCellsFrom]
 | cons v r ih=>
  intro i z h;have h0:w.cell? ⟨b,o+i,none⟩=some v:=by simpa using h 0 v rfl
  have O:(⟨b,o,none⟩:Addr).add i=⟨b,o+i,none⟩:=by
   unfold Addr.add;split
   ·rename_i e;simp [e]
   ·rfl
  have Y:=ih (i+1) (z.push v) (λj u J=>by have:=h (j+1) u (by simpa using J);simpa [BW,Nat.add_comm 1 j]using this);simp [loadCellsFrom,O,h0,Y]
theorem Fb {x:Operand}{T b o k:Nat}{cs:List Value}{dd:Option Tmp}(hT:K7 P T=some k)(hx:ev E x=ED b o)(hl:cs.length=k)(hc:I6 w b o cs):LV P ⟨dd,.load T x,ty,pos,af,g⟩ E w (.agg ⟨cs⟩):=by
 unfold LV;have h1:=O4 (P:=P) (w:=w) (b:=b) (o:=o) cs 0 #[] (λj v z=>by rw[BN];exact hc j v z);rw[hl]at h1;simp [execOp,hx,Instr.loadAt,Instr.sureAddr,loadVar,(LQ hT).1,(LQ hT).2,loadCells,h1]
theorem Gc {x:Operand}{T:Nat}{cs:List Value}(hg:FB ds E g=true)(hx:ev E x=v)(hv:v.cells=⟨cs⟩)(hR:RX R anc)
  (h:∀b w1,b=w.heap.size->EB w w1->EL w1 b cs T->Dw P n ds R r K (FJ E d (ED b 0)) w1):Dw P n ds R ((⟨some d,.box T x,ty,pos,af,g⟩,.x,anc) :: r) K E w:=by
 refine HL (v:=ED w.heap.size 0) (w':=w.alloc (.cells ⟨cs⟩ T)) hg ?_ (hR.use (EB.alloc _ _)) (h _ _ rfl (EB.alloc _ _) ?_)
 ·simp [execOp,hx,Instr.box,newVar,newRow,hv,newObj,Sem.run]
 ·show(w.heap.push _)[w.heap.size]?=_;simp
def Kx (P:Program)(T:TypeId):Option (List Value):=(P.info? T).bind λi=>i.zero.map λz=>z.cells.toList
theorem Om {T:TypeId}{cs:List Value}(h:Kx P T=some cs):∃z,(zeroValue T).run P w=.ok z w/\z.cells=⟨cs⟩:=by
 unfold Kx at h
 cases hi:P.info? T with
 | none=>rw[hi]at h;simp at h
 | some i=>
  rw[hi]at h;simp only [Cn,Bd]at h;obtain⟨z,O,J⟩:=h;exact⟨z,by simp [zeroValue,typeInfo,hi,O],by rw[<-J]⟩
theorem FG {T:Nat}{cs:List Value}(hg:FB ds E g=true)(hz:Kx P T=some cs)(hR:RX R anc)
  (h:∀b w1,b=w.heap.size->EB w w1->EL w1 b cs T->Dw P n ds R r K (FJ E d (ED b 0)) w1):Dw P n ds R ((⟨some d,.alloc T,ty,pos,af,g⟩,.x,anc) :: r) K E w:=by
 obtain⟨z,J,O⟩:=Om (P:=P) (w:=w) hz;refine HL (v:=ED w.heap.size 0) (w':=w.alloc (.cells ⟨cs⟩ T)) hg ?_ (hR.use (EB.alloc _ _)) (h _ _ rfl (EB.alloc _ _) ?_)
 ·simp [execOp,Instr.alloc,J,newVar,newRow,O,newObj,Sem.run]
 ·show(w.heap.push _)[w.heap.size]?=_;simp
def Fe : List Value->Nat->List Value->List Value
 | cs,_,[]=>cs
 | cs,o,v :: vs=>Fe (cs.set o v) (o+1) vs
theorem EL.set {b o:Nat}{cs:List Value}{T:TypeId}(h:EL w b cs T)(v:Value):EL (w.setCell ⟨b,o,none⟩ v) b (cs.set o v) T:=by
 unfold EL at *;simp only [World.setCell,Array.getElem?_modify,if_true,h,Ck,Option.isSome_none];simp
theorem Mod.setCell (b o:Nat)(v:Value):Mod (ES b) w (w.setCell ⟨b,o,none⟩ v):=
 ⟨rfl,rfl,rfl,by simp,λk hk hn=>Below.heap_setCell _ _ _ _ hn⟩
theorem Sw {b o:Nat}{T:TypeId} : ∀(vs:List Value) (i:Nat) (cs:List Value) (w:World),EL w b cs T->o+i+vs.length<=cs.length->(∀v∈vs,v.oneCell'=true)->
  ∃w',(storeCells ⟨b,o,none⟩ vs i).run P w=.ok () w'/\EL w' b (Fe cs (o+i) vs) T/\Mod (ES b) w w'/\w'.heap.size=w.heap.size:=by
 intro vs
 induction vs with
 | nil=>intro i cs w h _ _;exact⟨w,by simp [storeCells],h,Mod.refl _ _,rfl⟩
 | cons v r ih=>
  intro i cs w h O h1;have J:o+i<cs.length:=by simp at O;omega
  have Z:(⟨b,o,none⟩:Addr).add i=⟨b,o+i,none⟩:=by
   unfold Addr.add;split
   ·rename_i e;simp [e]
   ·rfl
  have hc:w.cell? ⟨b,o+i,none⟩=some cs[o+i]:=h.at (by simp [J]);have hf:w.frozen? ⟨b,o+i,none⟩=false:=h.free;obtain⟨w',e1,e2,e3,Y⟩:=ih (i+1) (cs.set (o+i) v) (w.setCell ⟨b,o+i,none⟩ v) (h.set v) (by simp at O ⊢;omega) (λu hu=>h1 u (Am _ hu));refine⟨w',?_,by simpa [Fe,BW]using e2,Mod.trans (Mod.setCell b (o+i) v) e3 (λ_ h=>h) (λ_ h _=>h),by simpa using Y⟩;have z:=h1 v Al;rw[storeCells,Sem.run_bind,Z];have hs:(store ⟨b,o+i,none⟩ v).run P w=.ok () (w.setCell ⟨b,o+i,none⟩ v):=by
   cases v<;>simp [Value.oneCell']at z<;>simp [store,Sem.run,hc,hf]
  rw[hs];exact e1
def Mw (P:Program)(T:TypeId):Option Nat:=(P.info? T).map (·.size)
theorem Mf {a x:Operand}{T T' b o:Nat}{cs vs:List Value}(hg:FB ds E g=true)(ha:ev E a=ED b o)(hx:ev E x=v)(hv:v.cells=⟨vs⟩)(hs:Mw P T=some vs.length)(hb:EL w b cs T')
  (ho:o+vs.length<=cs.length) (h1:∀v∈vs,v.oneCell'=true) (hR:anc=true\/∀w',Mod (ES b) w w'->R w w')
  (h:∀w1,Mod (ES b) w w1->w1.heap.size=w.heap.size->EL w1 b (Fe cs o vs) T'->Dw P n ds R r K E w1):Dw P n ds R ((⟨none,.store T a x,ty,pos,af,g⟩,.x,anc) :: r) K E w:=by
 obtain⟨w',e1,e2,O,Y⟩:=Sw (P:=P) (b:=b) (o:=o) (T:=T') vs 0 cs w hb (by simpa using ho) h1;rw[BN]at e2;refine Ri (w':=w') hg ?_ (λe=>hR.elim (λh=>by rw[h]at e;cases e) (λh=>h _ O)) (h _ O Y e2);unfold Mw at hs;obtain⟨i,hi,J⟩:=Bd.1 hs;have z:(storeCells ⟨b,o,none⟩ vs).run P w=.ok () w':=e1;simp [execOp,ha,hx,Instr.storeAt,Instr.sureAddr,storeVar,sizeOf,typeInfo,hi,J,hv,z]
def RM (P:Program)(T:TypeId):Option (List (Nat×Nat)):=match P.underlying T with
 | some (.struct fs)=>fs.toList.mapM λf=>(P.info? f.type).map λi=>(f.offset,i.size)
 | _=>none
def Hw (pl:Nat->Option (Nat×Nat))(cs:List Value):List (Nat×Value)->Option (List Value)
 | []=>some cs
 | (i,v) :: r=>match pl i with
  | none=>none
  | some (off,size)=>if v.cells.size=size/\off+v.cells.size<=cs.length then Hw pl (Fe cs off v.cells.toList) r else none
theorem Xo5 (off:Nat):∀(vs:List Value) (k:Nat) (cs:List Value),((vs.zipIdx k).foldl (λ(cs:Array Value) x=>cs.setIfInBounds (off+x.2) x.1) ⟨cs⟩)=⟨Fe cs (off+k) vs⟩:=by
 intro vs
 induction vs with
 | nil=>intro k cs;rfl
 | cons v r ih=>
  intro k cs;simp only [List.zipIdx_cons,List.foldl_cons,Fe];have e:(⟨cs⟩:Array Value).setIfInBounds (off+k) v=⟨cs.set (off+k) v⟩:=by simp
  rw[e,ih (k+1)];rfl
theorem R8 : ∀(vs:List Value) (o:Nat) (cs:List Value),(Fe cs o vs).length=cs.length:=by
 intro vs
 induction vs with
 | nil=>intro o cs;rfl
 | cons v r ih=>intro o cs;simp [Fe,ih]
theorem RN (pl:Nat->Option (Nat×Nat)):∀(ps:List (Nat×Value)) (zs cs:List Value),Hw pl zs ps=some cs->Instr.fill pl ⟨zs⟩ ps=some ⟨cs⟩:=by
 intro ps
 induction ps with
 | nil=>intro zs cs h;simp [Hw]at h;simp [Instr.fill,h]
 | cons p r ih=>
  intro zs cs h;obtain⟨i,v⟩:=p;simp only [Hw]at h
  cases hp:pl i with
  | none=>rw[hp]at h;cases h
  | some os=>
   obtain⟨off,size⟩:=os;rw[hp]at h;simp only []at h;split at h
   ·rename_i hc;have J:¬ ((decide (v.cells.size≠size) || decide (off+v.cells.size > (⟨zs⟩:Array Value).size))=true):=by
     have:(⟨zs⟩:Array Value).size=zs.length:=rfl;rw[this];simp;omega
    have e:(v.cells.zipIdx.foldl (λ(cs:Array Value) (x:Value×Nat)=>cs.setIfInBounds (off+x.2) x.1) ⟨zs⟩)=⟨Fe zs off v.cells.toList⟩:=by
     rw[<-Array.foldl_toList];have:=Xo5 off v.cells.toList 0 zs;simpa using this
    simp only [Instr.fill,hp];rw[if_neg J];have z:=ih _ _ h;rw[<-e]at z;exact z
   ·cases h
def Kr (E:Fg):List (Nat×Operand)->List (Nat×Value)->Prop
 | [],[]=>True
 | (i,x) :: r,(j,v) :: s=>i=j/\ev E x=v/\Kr E r s
 | _,_=>False
theorem Kr.map {E:Fg} : ∀ {ps:List (Nat×Operand)} {pv:List (Nat×Value)},Kr E ps pv->ps.map (λp=>(p.1,ev E p.2))=pv
 | [],[],_=>rfl
 | [],_ :: _,h=>h.elim
 | _ :: _,[],h=>h.elim
 | (i,x) :: r,(j,v) :: s,h=>by
  obtain⟨h1,h2,h3⟩:=h;simp [h1,h2,Kr.map h3]
theorem Nk {T:Nat}{ps:List (Nat×Operand)}{zs cs:List Value}{pl:List (Nat×Nat)}{pv:List (Nat×Value)}{dd:Option Tmp}(hz:Kx P T=some zs)(hp:RM P T=some pl)(hv:Kr E ps pv)(hf:Hw (λi=>pl[i]?) zs pv=some cs) :
  PV P ⟨dd,.build T ps.toArray,ty,pos,af,g⟩ E (.agg ⟨cs⟩):=λw=>by
 obtain⟨z,Z,ha⟩:=Om (P:=P) (w:=w) hz;have hm:=Kr.map hv;unfold RM at hp
 cases hu:P.underlying T with
 | none=>rw[hu]at hp;cases hp
 | some u=>
  rw[hu]at hp
  cases u<;>simp only []at hp<;>try cases hp
  rename_i fs;have Y:∀(l:List Field) (pl:List (Nat×Nat)),(l.mapM λf=>(P.info? f.type).map λi=>(f.offset,i.size))=some pl->(l.mapM (λf=>(Functor.map (AX f.offset) (sizeOf f.type):Sem (Nat×Nat)))).run P w=.ok pl w:=by
   intro l
   induction l with
   | nil=>intro pl h;simp at h;subst h;simp
   | cons f r ih=>
    intro pl h;simp only [Dv,Option.bind_eq_bind,CR,Option.pure_def,A3.injEq]at h;obtain⟨x,hx,J,hb,rfl⟩:=h;obtain⟨i,hi,rfl⟩:=Bd.1 hx;have O:=ih J hb;rw[Dv,Sem.run_bind];have e1:(Functor.map (AX f.offset) (sizeOf f.type):Sem (Nat×Nat)).run P w=.ok (f.offset,i.size) w:=by simp [sizeOf,typeInfo,hi]
    rw[e1,Result.andThen_ok,Sem.run_bind,O];rfl
  have h1:(fs.mapM (λf=>(Functor.map (AX f.offset) (sizeOf f.type):Sem (Nat×Nat)))).run P w=.ok pl.toArray w:=by
   rw[Array.mapM_eq_mapM_toList];simp [Y _ _ hp]
  have h2:=RN (λi=>pl[i]?) pv zs cs hf;have e:(Array.map (λ(p:Nat×Operand)=>(p.1,ev E p.2)) ps.toArray).toList=pv:=by simpa using hm
  simp [execOp,Instr.build,Z,ha,underlying,hu,h1,hm,h2]
def GL (P:Program)(f:FuncId):Bool:=match P.funcs[f]? with
 | some fn => !(fn.name == "runtime.NumGoroutine") && fn.body.isSome
 | none=>false
theorem QH {f:Nat}{az:List Operand}{ats:Array TypeId}{vs:List Value}{R1:Ending->World->Prop}(hg:FB ds E g=true)(hf:GL P f=true)(ha:az.map (ev E)=vs)(hc:Calls P f vs.toArray w R1)
  (h:∀e w1,R1 e w1->∃v,e=.returned v/\(anc=false->R w w1)/\Dw P n ds R r K (FJ E d v) w1) :
  Dw P n ds R ((⟨some d,.call { callee:=.value (.func f),args:=az.toArray,argTypes:=ats },ty,pos,af,g⟩,.x,anc) :: r) K E w:=by
 refine MX hg λok=>?_;unfold GL at hf
 cases hp:P.funcs[f]? with
 | none=>rw[hp]at hf;simp at hf
 | some fn=>
  rw[hp]at hf;simp only [Au,BO]at hf;obtain⟨h1,h2⟩:=hf;have h3:fn.body≠none:=by cases hb:fn.body<;>simp [hb]at h2 ⊢
  have h1' : fn.name ≠ "runtime.NumGoroutine" := by simpa using h1
  have hr:(execOp (ev E) ⟨some d,.call { callee:=.value (.func f),args:=az.toArray,argTypes:=ats },ty,pos,af,g⟩).run P w=.ok (.enter f vs.toArray) w:=by
   simp [execOp,resolve,ev,Deferred.ofValue,invoke,callFunc,program,Sem.run,hp,h1',h3,ha]
  unfold Oper.wp;rw[LK ok,hr];simp only [Oper.upon];refine Calls.mono hc λe w1 h1=>?_;obtain⟨v,rfl,hR,hd⟩:=h e w1 h1;exact⟨_,Iy _ _ _ _,hR,hd⟩
def Pure (w:World)(v:Value):Ending->World->Prop:=λe w'=>e=.returned v/\EB w w'
theorem X4p {f:Nat}{az:List Operand}{ats:Array TypeId}{vs:List Value}(hg:FB ds E g=true)(hf:GL P f=true)(hc:Calls P f vs.toArray w (Pure w v))(ha:az.map (ev E)=vs)(hR:RX R anc)
  (h:∀z,EB w z->Dw P n ds R r K (FJ E d v) z) :
  Dw P n ds R ((⟨some d,.call { callee:=.value (.func f),args:=az.toArray,argTypes:=ats },ty,pos,af,g⟩,.x,anc) :: r) K E w:=
 QH hg hf ha hc λe z ⟨he,hx⟩=>⟨v,he,hR.use hx,h z hx⟩
theorem TC (hg:FB ds E g=true)(hv:LV P ⟨some d,op,ty,pos,af,g⟩ E w v)(h:Dw P n ds (λa b=>a=b) r K (FJ E d v) w):Dw P n ds (λa b=>a=b) ((⟨some d,op,ty,pos,af,g⟩,.l,anc) :: r) K E w:=
 FK hg (λw' e=>e▸hv) h
theorem X4q {fn:Func}{t:Nat}{R:Ending->World->Prop}(hr:fn.results=#[.tmp t])(ht:AR t n=true)(hv:E t=v)(h:R (.returned v) w):Jr P fn n R .ret E w:=by
 have z:t<n:=by simpa [Br]using ht
 refine⟨v,?_,h⟩;simp [results,hr,GN,z,hv]
theorem X4r {fn:Func}{t s:Nat}{u:Value}{R:Ending->World->Prop}(hr:fn.results=#[.tmp t,.tmp s])(ht:AR t n=true)(hs:AR s n=true)(hv:E t=v)(hu:E s=u)(h:R (.returned (.tuple #[v,u])) w):Jr P fn n R .ret E w:=by
 have J:t<n:=by simpa [Br]using ht
 have z:s<n:=by simpa [Br]using hs
 refine⟨.tuple #[v,u],?_,h⟩;simp [results,hr,GN,J,hv,z,hu]
theorem Hi {fn:Func}{R:Ending->World->Prop}(hr:fn.results=#[])(h:R (.returned (.tuple #[])) w):Jr P fn n R .ret E w:=by
 refine⟨.tuple #[],?_,h⟩;simp [results,hr]
theorem MR {fn:Func}{t T b k:Nat}{cs:List Value}{R:Ending->World->Prop}(hr:fn.results=#[.cell t T])(ht:AR t n=true)(hv:E t=ED b 0)(hT:K7 P T=some k)(hl:cs.length=k)(hc:I6 w b 0 cs)
  (h:R (.returned (.agg ⟨cs⟩)) w):Jr P fn n R .ret E w:=by
 have z:t<n:=by simpa [Br]using ht
 have h1:=O4 (P:=P) (w:=w) (b:=b) (o:=0) cs 0 #[] (λj v J=>by rw[BN];exact hc j v J);rw[hl]at h1;refine⟨.agg ⟨cs⟩,?_,h⟩;simp [results,hr,GN,z,hv,asAddr,loadVar,(LQ hT).1,(LQ hT).2,loadCells,h1]
theorem IG {fn:Func}{t T b k s:Nat}{u:Value}{cs:List Value}{R:Ending->World->Prop}(hr:fn.results=#[.cell t T,.tmp s])(ht:AR t n=true)(hs:AR s n=true)(hv:E t=ED b 0)(hT:K7 P T=some k)(hl:cs.length=k)(hc:I6 w b 0 cs)
  (hu:E s=u) (h:R (.returned (.tuple #[.agg ⟨cs⟩,u])) w):Jr P fn n R .ret E w:=by
 have J:t<n:=by simpa [Br]using ht
 have z:s<n:=by simpa [Br]using hs
 have h1:=O4 (P:=P) (w:=w) (b:=b) (o:=0) cs 0 #[] (λj v O=>by rw[BN];exact hc j v O);rw[hl]at h1;refine⟨.tuple #[.agg ⟨cs⟩,u],?_,h⟩;simp [results,hr,GN,J,z,hv,hu,asAddr,loadVar,(LQ hT).1,(LQ hT).2,loadCells,h1]
theorem HI {fn:Func}{R:Ending->World->Prop}(h:Jr P fn n R .ret E w):Jr P fn n R .normal E w:=h
theorem Hz {x y:Code}{Q:Exit->Fg->World->Prop}{G:Type}(sl:G->List (Nat×Value))(F:G->World->Prop)
  (hx:W P n x (Ic (λE w=>∃g,holds (sl g) E/\F g w) Q) E w) (hy:∀(X:Fg) (g:G) (w:World),F g w->W P n y Q (Nr (sl g) X) w):W P n (.seq x y) Q E w:=by
 refine We λK J=>X8h hx ?_;intro e E w h
 cases e<;>first|exact h|skip
 obtain⟨g,z,O⟩:=h;refine J _ _ ?_;have:=hy E g w O;rwa [RI z]at this
theorem GD {c:Operand}{x y:Code}{Q:Exit->Fg->World->Prop}(hc:ev E c=.bool true)(h:W P n x Q E w):W P n (.cond c x y) Q E w:=Pg hc (λ_=>h) (λh=>by cases h)
theorem GB {c:Operand}{x y:Code}{Q:Exit->Fg->World->Prop}(hc:ev E c=.bool false)(h:W P n y Q E w):W P n (.cond c x y) Q E w:=Pg hc (λh=>by cases h) (λ_=>h)
end
structure Own {α:Type}(enc:α->List Value)(sz T:Nat)(B:Nat)(w:World)(v:Value)(l:List α):Prop where
 row:w.ownsRow B T sz v l.length (l.flatMap enc)
section
variable {α:Type}{enc:α->List Value}{sz T B:Nat}{w w':World}{v:Value}{l:List α}
theorem Own.nil : Own enc sz T B w (.slice none 0 0) []:=⟨World.ownsRow_nil w B T sz⟩
theorem Own.lt (h:Own enc sz T B w v l):∀k,v.ownBlock=some k->B<=k/\k<w.heap.size:=h.row.lt
theorem Own.mod {S:Nat->Prop}(h:Own enc sz T B w v l)(m:Mod S w w')(hS:∀k,v.ownBlock=some k->¬ S k):Own enc sz T B w' v l:=by
 obtain⟨h1,h2⟩:=h.row;refine⟨h1,?_⟩;rcases h2 with h2|⟨g,cap,cur,hv,hg,hh,r⟩
 ·exact Or.inl h2
 ·have z:g<w.heap.size:=(h.lt g (by rw[hv];rfl)).2;exact Or.inr ⟨g,cap,cur,hv,hg,by rw[m.block g z (hS g (by rw[hv];rfl))];exact hh,r⟩
theorem Own.ext (h:Own enc sz T B w v l)(m:EB w w'):Own enc sz T B w' v l:=h.mod m (λ_ _ h=>h)
theorem Own.mono {B':Nat}(h:Own enc sz T B w v l)(hB:B'<=B):Own enc sz T B' w v l:=by
 obtain⟨h1,h2⟩:=h.row;refine⟨h1,?_⟩;rcases h2 with h2|⟨g,cap,cur,hv,hg,r⟩
 ·exact Or.inl h2
 ·exact Or.inr ⟨g,cap,cur,hv,Ae hB hg,r⟩
theorem Own.sl (h:Own enc sz T B w v l):FW v l.length:=by
 obtain⟨_,h2⟩:=h.row;rcases h2 with⟨h2,h3⟩|⟨g,cap,cur,hv,hg,hh,hn,_⟩
 ·exact .inl ⟨h2,h3⟩
 ·exact .inr (.inl ⟨g,0,cap,hv,hn⟩)
theorem QQ (henc:∀x,(enc x).length=sz):∀(l:List α) (i:Nat) (x:α),l[i]?=some x->∀j u,(enc x)[j]?=some u->(l.flatMap enc)[i*sz+j]?=some u:=by
 intro l
 induction l with
 | nil=>intro i x h;simp at h
 | cons y r ih=>
  intro i x h j u z;rw[AD]
  cases i with
  | zero=>
   simp at h;subst h;rw[Nat.zero_mul,A9,Bw]
   ·exact z
   ·exact(Ao.1 z).1
  | succ i=>
   have h':r[i]?=some x:=by simpa using h
   rw[BG (by rw[henc,Ba];omega),henc];rw[show(i+1)*sz+j-sz=i*sz+j by rw[Ba];omega];exact ih i x h' j u z
theorem Own.arr (henc:∀x,(enc x).length=sz)(h:Own enc sz T B w v l):EM enc sz w v l:=by
 refine⟨by rw[An];exact h.sl,λi cs hi=>?_⟩;rw[AH]at hi
 cases hx:l[i]? with
 | none=>rw[hx]at hi;cases hi
 | some x=>
  rw[hx]at hi;simp only [Ck,A3.injEq]at hi;subst hi;refine⟨henc x,λj u J=>?_⟩;obtain⟨_,h2⟩:=h.row;rcases h2 with⟨rfl,h3⟩|⟨g,cap,cur,rfl,hg,hh,hn,_⟩
  ·have:=A5 h3;subst this;simp at hx
  ·have z:=h.row.cells (g:=g) rfl (i*sz+j) u (QQ henc l i x hx j u J);have O:(⟨g,0,none⟩:Addr).add (i*sz+j)=⟨g,0+i*sz+j,none⟩:=by
    unfold Addr.add;split
    ·rename_i e;have h0:i*sz=0/\j=0:=by omega
     rw[h0.1,h0.2]
    ·simp [BW]
   rw[O]at z;simpa [base]using z
end
theorem FW.one {v:Value}{n:Nat}(h:FW v n):v.oneCell'=true:=by
 rcases h with⟨rfl,_⟩|⟨b,o,c,rfl,_⟩|⟨_,a,c,rfl⟩<;>rfl
theorem FW.cells {v:Value}{n:Nat}(h:FW v n):v.cells=⟨[v]⟩:=by
 rcases h with⟨rfl,_⟩|⟨b,o,c,rfl,_⟩|⟨_,a,c,rfl⟩<;>rfl
theorem Xua {v:Value}(h:v.oneCell'=true):v.cells=⟨[v]⟩:=by
 cases v<;>first|rfl|cases h
theorem Own.base_ge {α:Type}{enc:α->List Value}{sz T B:Nat}{w:World}{v:Value}{l:List α}(h:Own enc sz T B w v l)(hl:l≠[]):B<=(base v).1/\(base v).1<w.heap.size:=by
 rcases h.sl with⟨_,hn⟩|⟨b,o,c,rfl,_⟩|⟨hn,_⟩
 ·exact absurd (A5 hn) hl
 ·exact h.lt b rfl
 ·exact absurd (A5 hn) hl
def Hs (D:Nat):Nat->Prop:=λk=>D<=k
theorem Far.refl (D:Nat)(w:World):Mod (Hs D) w w:=Mod.refl _ _
theorem Far.trans {D:Nat}(a b c:World)(h:Mod (Hs D) a b)(k:Mod (Hs D) b c):Mod (Hs D) a c:=Mod.trans h k (λ_ h=>h) (λ_ h _=>h)
theorem Far.of_ext {D:Nat}{a b:World}(h:EB a b):Mod (Hs D) a b:=h.mono (λ_ h _=>h.elim)
theorem RX.far {D:Nat}{anc:Bool} : RX (Mod (Hs D)) anc:=.inr λ_ _ h=>Far.of_ext h
theorem EM.far {α:Type}{enc:α->List Value}{sz:Nat}{w w':World}{v:Value}{l:List α}(h:EM enc sz w v l)(hsz:0<sz)(m:Mod (Hs w.heap.size) w w'):EM enc sz w' v l:=h.mod m (λz g=>by
 cases l with
 | nil=>exact z rfl
 | cons x r=>have:=h.blk hsz (x:=x) rfl;unfold Hs at g;omega)
theorem Far.own {α:Type}{enc:α->List Value}{sz T B D:Nat}{w:World}{v:Value}{l:List α}(h:Own enc sz T B w v l)(hD:D<=B):∀w',Mod (λk=>v.ownBlock=some k) w w'->Mod (Hs D) w w':=λw' m=>m.mono (λi hi _=>by have:=(h.lt i hi).1;unfold Hs;omega)
def MZ (P:Program)(e sz by':Nat):Bool:=match P.info? e with
 | some i=>i.size == sz && i.bytes == by' && AR 0 sz && (match i.zero with|some z=>z.cells.size == sz|none=>false)
 | none=>false
theorem Pw {P:Program}{e sz by':Nat}(h:MZ P e sz by'=true):∃i z,P.info? e=some i/\i.zero=some z/\i.size=sz/\i.bytes=by'/\z.cells.size=sz/\0<sz:=by
 unfold MZ at h
 cases hi:P.info? e with
 | none=>rw[hi]at h;cases h
 | some i=>
  rw[hi]at h;simp only [Au,beq_iff_eq]at h;obtain⟨⟨⟨h1,h2⟩,h3⟩,h4⟩:=h
  cases hz:i.zero with
  | none=>rw[hz]at h4;cases h4
  | some z=>rw[hz]at h4;exact⟨i,z,rfl,hz,h1,h2,by simpa using h4,by simpa [Br]using h3⟩
section
variable {P:Program}{n:Nat}{ds:List (Option Tmp)}{R:World->World->Prop}{r:List (Oper×Fl×Bool)}{K:Fg->World->Prop}{E:Fg}{w:World}
variable {d:Nat}{op:Op}{ty:TypeId}{pos:String}{af:Array Edge}{g:Option (Nat×Bool)}{anc:Bool}{v:Value}
theorem Sb {α:Type}{enc:α->List Value}{l:List α}(h:∀x∈l,∀u∈enc x,u.oneCell'=true):∀u∈l.flatMap enc,u.oneCell'=true:=by
 intro u hu;obtain⟨x,J,z⟩:=List.mem_flatMap.1 hu;exact h x J u z
theorem Fs {α:Type}{enc:α->List Value}{sz:Nat}(henc:∀x,(enc x).length=sz):∀l:List α,(l.flatMap enc).length=l.length*sz:=by
 intro l
 induction l with
 | nil=>simp
 | cons x r ih=>simp [AD,ih,henc,Ba];omega
theorem EM.flat {α:Type}{enc:α->List Value}{sz:Nat}{l:List α}(henc:∀x,(enc x).length=sz)(h:EM enc sz w v l):∀j u,(l.flatMap enc)[j]?=some u->w.cell? ⟨(base v).1,(base v).2+j,none⟩=some u:=by
 intro j u J
 by_cases hsz:sz=0
 ·have Z:=Fs henc l;rw[hsz,Nat.mul_zero]at Z;rw[A5 Z]at J;simp at J
 have z:=(Ao.1 J).1;rw[Fs henc]at z;have hq:j / sz<l.length:=Nat.div_lt_of_lt_mul (by rw[Bx];exact z);have O:l[j / sz]?=some l[j / sz]:=Av hq;have Y:j % sz<(enc l[j / sz]).length:=by rw[henc];exact Bg _ EA
 have e:j / sz*sz+j % sz=j:=by rw[Bx];exact Nat.div_add_mod j sz
 have h1:=QQ henc l _ _ O (j % sz) (enc l[j / sz])[j % sz] (Av Y);rw[e,J]at h1;have h2:=h.row O (j % sz) _ (Av Y);rw[show(base v).2+j / sz*sz+j % sz=(base v).2+j by omega]at h2;rw[h2,h1]
theorem Gv {α:Type}{enc:α->List Value}{s x:Operand}{t e sz by' B:Nat}{vx:Value}{l lx:List α}(hg:FB ds E g=true)(ht:IK P t=some (e,sz))(hE:MZ P e sz by'=true)
  (henc:∀x,(enc x).length=sz) (hown:Own enc sz e B w v l) (hax:EM enc sz w vx lx) (hs:ev E s=v) (hx:ev E x=vx) (h1:∀x∈lx,∀u∈enc x,u.oneCell'=true)
  (hbytes:(l.length+lx.length)*by'<=140737488355328) (hby:1<=by') (hB:B<=w.heap.size) (hR:anc=true\/∀w',Mod (λk=>v.ownBlock=some k) w w'->R w w')
  (h:∀v' w',Own enc sz e B w' v' (l++lx)->Mod (λk=>v.ownBlock=some k) w w'->Dw P n ds R r K (FJ E d v') w') :
  Dw P n ds R ((⟨some d,.call { callee:=.builtin .append,args:=#[s,x],argTypes:=#[t,t] },ty,pos,af,g⟩,.x,anc) :: r) K E w:=by
 obtain⟨hu,_⟩:=Kf ht;obtain⟨i,z,hi,hz,J,O,hb,hf⟩:=Pw hE;have hl:l.length+lx.length<=maxLen:=by
  unfold maxLen;have:(l.length+lx.length)*1<=(l.length+lx.length)*by':=CD _ hby;omega
 have Y:∀w',Mod (λk=>v.ownBlock=some k) w w'->anc=false->R w w':=λw' hm e=>hR.elim (λh=>by rw[h]at e;cases e) (λh=>h _ hm);rcases hax.sl with⟨rfl,hl0⟩|⟨b,o,c,rfl,hc⟩|⟨hl0,⟨b,o,s0⟩,c,rfl⟩
 ·-- nothing is appended
  have Z:=A5 hl0;subst Z;have hh:(Builtin.append_ #[t,t] ty #[v,.slice none 0 0]).run P w=.ok v w:=by
   rcases hown.sl with⟨rfl,hn⟩|⟨b,o,c,rfl,hn⟩|⟨hn,a,c,rfl⟩
   ·simp [Builtin.append_,run_underlying hu,sizeOf,typeInfo,hi,Builtin.lenOf,Builtin.firstCells]
   ·simp [Builtin.append_,run_underlying hu,sizeOf,typeInfo,hi,Builtin.lenOf,Builtin.firstCells,hn,storeCells]
   ·simp [Builtin.append_,run_underlying hu,sizeOf,typeInfo,hi,Builtin.lenOf,Builtin.firstCells,hn,storeCells]
  refine HL (w':=w) (v:=v) hg ?_ (Y _ (Mod.refl _ _)) (h v w (by simpa using hown) (Mod.refl _ _));simp only [execOp,resolve,invoke,builtin,Sem.run_bind,Sem.run_pure,Result.andThen_ok,Cp,Aq,Bk,hs,hx,hh]
 ·obtain⟨v',w',hr,h2,h3,h4⟩:=run_append_own (P:=P) w B t ty e i z sz by' hu hi hz J O hb hf v l.length (l.flatMap enc) hown.row ⟨b,o,none⟩ lx.length c (lx.flatMap enc) (Fs henc lx)
   (λj u hj=>by
    have:=EM.flat henc hax j u hj;have ha:(⟨b,o,none⟩:Addr).add j=⟨b,o+j,none⟩:=by
     unfold Addr.add;split
     ·rename_i e;simp [e]
     ·rfl
    rw[ha];exact this) (Sb h1) hl hbytes hB
  refine HL (w':=w') (v:=v') hg ?_ (Y _ ?_) (h v' w' ⟨by rw[Ab,Bb];exact h2⟩ ?_)
  ·simp only [execOp,resolve,invoke,builtin,Sem.run_bind,Sem.run_pure,Result.andThen_ok,Cp,Aq,Bk,hs,hx,hr]
  ·exact Mod.of_grown h3
  ·exact Mod.of_grown h3
 ·have Z:=A5 hl0;subst Z;obtain⟨v',w',hr,h2,h3,h4⟩:=run_append_own (P:=P) w B t ty e i z sz by' hu hi hz J O hb hf v l.length (l.flatMap enc) hown.row ⟨b,o,s0⟩ 0 c [] EQ (λj u hj=>by simp at hj) (λu hu=>by cases hu) hl hbytes hB;refine HL (w':=w') (v:=v') hg ?_ (Y _ (Mod.of_grown h3)) (h v' w' ⟨by rw[Ab,Bb];exact h2⟩ (Mod.of_grown h3));simp only [execOp,resolve,invoke,builtin,Sem.run_bind,Sem.run_pure,Result.andThen_ok,Cp,Aq,Bk,hs,hx,hr]
theorem Xza (zs:List Value)(sz:Nat)(hz:zs.length=sz)(hp:0<sz):∀(m j:Nat),j<m*sz->((Aw m zs).flatten)[j]?=zs[j % sz]?:=by
 intro m
 induction m with
 | zero=>intro j h;omega
 | succ m ih=>
  intro j h;rw[CE,C1]
  by_cases hj:j<sz
  ·rw[Bw EA,Nat.mod_eq_of_lt hj]
  ·rw[BG EA,hz,ih (j-sz) (by rw[Ba]at h;omega)];rw[show j % sz=(j-sz) % sz from(Nat.mod_eq_sub_mod EA)]
theorem Rl (zs:List Value)(sz m:Nat)(hz:zs.length=sz)(hp:0<sz):(DU (m*sz)).map (λx=>(⟨zs⟩:Array Value)[x % (⟨zs⟩:Array Value).size]!)=⟨(Aw m zs).flatten⟩:=by
 apply DT
 apply List.ext_getElem?
 intro j
 by_cases hj:j<m*sz
 ·rw[Xza zs sz hz hp m j hj];have z:j % sz<zs.length:=by rw[hz];exact Bg _ hp
  have hs:(⟨zs⟩:Array Value).size=sz:=hz;simp [hj,hs];rw[Av z];rfl
 ·have h2:((Aw m zs).flatten).length=m*sz:=by simp [hz]
  rw[Bl (by simp;omega),Bl (by rw[h2];omega)]
theorem Ib {t e sz m:Nat}{ps:List (Nat×Operand)}{zs cs:List Value}{pv:List (Nat×Value)}(hg:FB ds E g=true)(ht:IK P t=some (e,sz))(hm:AR 0 (m*sz)=true/\CC (m*sz) 16777216=true)(hz:Kx P e=some zs)(hzs:Bq zs.length sz=true)
  (hv:Kr E ps pv) (hf:Hw (λi=>some (i*sz,sz)) ((Aw m zs).flatten) pv=some cs) (hR:RX R anc)
  (h:∀b w1,b=w.heap.size->EB w w1->EL w1 b cs e->Dw P n ds R r K (FJ E d (.slice (some ⟨b,0,none⟩) m m)) w1) :
  Dw P n ds R ((⟨some d,.buildSlice t m ps.toArray,ty,pos,af,g⟩,.x,anc) :: r) K E w:=by
 obtain⟨hu,i,hi,hs⟩:=Kf ht;have J:=Kr.map hv;have h0:0<m*sz:=by simpa [Br]using hm.1
 have hm':m*sz<=16777216:=by simpa [Nat.ble_eq]using hm.2
 have O:zs.length=sz:=CB hzs;have hc:0<sz:=Nat.pos_of_ne_zero (λe=>by rw[e]at h0;omega);obtain⟨z,Z,ha⟩:=Om (P:=P) (w:=w) hz;refine HL (v:=.slice (some ⟨w.heap.size,0,none⟩) m m) (w':=w.alloc (.cells ⟨cs⟩ e)) hg ?_ (hR.use (EB.alloc _ _)) (h _ _ rfl (EB.alloc _ _) ?_)
 ·have h2:=RN _ pv _ cs hf;have hb:¬ (m*sz > 2 ^ 24):=by omega
  have Y:¬ (m*sz=0):=by omega
  have e1:(Instr.buildSlice t m ⟨pv⟩).run P w=.ok (.slice (some ⟨w.heap.size,0,none⟩) m m) (w.alloc (.cells ⟨cs⟩ e)):=by
   unfold Instr.buildSlice;simp only [underlying,Sem.run_bind,run_program,Result.andThen_ok,hu,Sem.run_pure,sizeOf,typeInfo,hi,hs];rw[if_neg hb,if_neg Y];simp only [Sem.run_bind,Sem.run_pure,Result.andThen_ok,Z,ha];rw[Rl zs sz m O hc,h2];simp [newRow]
  have e2:(ps.toArray.map λ(i,x)=>(i,ev E x))=⟨pv⟩:=by
   rw[<-J];simp
  simp only [execOp];rw[e2];simp only [Sem.run_bind,e1,Result.andThen_ok,Sem.run_pure]
 ·show(w.heap.push _)[w.heap.size]?=_;simp
theorem Me {t e sz:Nat}(hg:FB ds E g=true)(ht:IK P t=some (e,sz))(hR:RX R anc)
  (h:∀b w1,b=w.heap.size->EB w w1->EL w1 b [] e->Dw P n ds R r K (FJ E d (.slice (some ⟨b,0,none⟩) 0 0)) w1) :
  Dw P n ds R ((⟨some d,.buildSlice t 0 #[],ty,pos,af,g⟩,.x,anc) :: r) K E w:=by
 obtain⟨hu,i,hi,hs⟩:=Kf ht;refine HL (v:=.slice (some ⟨w.heap.size,0,none⟩) 0 0) (w':=w.alloc (.cells ⟨[]⟩ e)) hg ?_ (hR.use (EB.alloc _ _)) (h _ _ rfl (EB.alloc _ _) ?_)
 ·have z:(Array.map (λx=>(default:Value)) (DU 0))=⟨[]⟩:=by simp
  simp [execOp,Instr.buildSlice,underlying,hu,sizeOf,typeInfo,hi,Instr.fill,newRow,z]
 ·show(w.heap.push _)[w.heap.size]?=_;simp
theorem LS {t e sz by' m:Nat}{zs:List Value}{x y:Operand}(hg:FB ds E g=true)(ht:IK P t=some (e,sz))(hE:MZ P e sz by'=true)(hz:Kx P e=some zs)(hx:ev E x=I m)(hy:ev E y=I m)
  (hb:by'*m<=281474976710656) (hb1:m<=4611686018427387904) (hR:RX R anc)
  (h:∀b w1,b=w.heap.size->EB w w1->EL w1 b ((Aw m zs).flatten) e->Dw P n ds R r K (FJ E d (.slice (some ⟨b,0,none⟩) m m)) w1) :
  Dw P n ds R ((⟨some d,.makeSlice t x y,ty,pos,af,g⟩,.x,anc) :: r) K E w:=by
 obtain⟨hu,_⟩:=Kf ht;obtain⟨i,z,hi,O,J,hh,Y,hc⟩:=Pw hE;have Z:z.cells=⟨zs⟩:=by
  unfold Kx at hz;simp only [hi,Cn,O,Ck,A3.injEq]at hz;rw[<-hz]
 have ha:zs.length=sz:=by rw[Z]at Y;exact Y
 have hf:(i.bytes:Int)*(m:Int)<=281474976710656:=by
  rw[hh];have h:((by'*m:Nat):Int)<=281474976710656:=by omega
  rwa [Int.natCast_mul]at h
 have hr:=run_make (P:=P) w t e i z hu hi O .i64 .i64 m m EA (Int.le_refl _) hf EA;simp only [BM]at hr;have e0:madeCells z.cells (m*i.size)=⟨(Aw m zs).flatten⟩:=by
  rw[Z,J,<-Rl zs sz m ha hc];rfl
 rw[e0]at hr;refine HL (v:=.slice (some ⟨w.heap.size,0,none⟩) m m) (w':=w.alloc (.cells ⟨(Aw m zs).flatten⟩ e)) hg ?_ (hR.use (EB.alloc _ _)) (h _ _ rfl (EB.alloc _ _) ?_)
 ·simp [execOp,hx,hy,hr]
 ·show(w.heap.push _)[w.heap.size]?=_;simp
theorem EL.own {α:Type}{enc:α->List Value}{sz T b B m:Nat}{l:List α}{cs:List Value}(h:EL w b cs T)(hB:B<=b)(hcs:cs=l.flatMap enc)(henc:∀x,(enc x).length=sz)(hm:m=l.length)(hl:l.length<=4611686018427387904):Own enc sz T B w (.slice (some ⟨b,0,none⟩) m m) l:=by
 subst hcs;subst hm;refine⟨Fs henc l,.inr ⟨b,l.length,⟨l.flatMap enc⟩,rfl,hB,h,Aa _,by unfold maxLen;omega,Fs henc l,?_⟩⟩;show(l.flatMap enc).take (l.length*sz)=_;rw[<-Fs henc l,List.take_length]
theorem EL.arr {α:Type}{enc:α->List Value}{sz T b m:Nat}{l:List α}{cs:List Value}(h:EL w b cs T)(hcs:cs=l.flatMap enc)(henc:∀x,(enc x).length=sz)(hm:m=l.length)(hl:l.length<=4611686018427387904):EM enc sz w (.slice (some ⟨b,0,none⟩) m m) l:=
 (h.own (Ad _) hcs henc hm hl).arr henc
theorem M5 {a x:Operand}{T T' b o:Nat}{cs:List Value}(hg:FB ds E g=true)(ha:ev E a=ED b o)(hx:ev E x=v)(hv:v.oneCell'=true)(hs:Mw P T=some 1)(hb:EL w b cs T')
  (ho:o<cs.length) (hR:anc=true\/∀w',Mod (ES b) w w'->R w w')
  (h:∀w1,Mod (ES b) w w1->w1.heap.size=w.heap.size->EL w1 b (cs.set o v) T'->Dw P n ds R r K E w1):Dw P n ds R ((⟨none,.store T a x,ty,pos,af,g⟩,.x,anc) :: r) K E w:=
 Mf (vs:=[v]) hg ha hx (Xua hv) hs hb (by simp;omega) (by intro u hu;simp at hu;rw[hu];exact hv) hR h
def Gz (k:Nat)(v:Value)(lo hi:Nat):Value:=match v with
 | .slice (some a) _ c=>.slice (some (if c=lo then a else a.add (lo*k))) (hi-lo) (c-lo)
 | _=>.slice none 0 0
theorem H8 {x:Operand}{lo hi:Option Operand}{T a b e k m:Nat}{dd:Option Tmp}(hT:IK P T=some (e,k))(hv:FW v m)(hx:ev E x=v)
  (hlo:bnd E 0 lo a) (hhi:bnd E m hi b) (h1:a<=b) (h2:b<=m):PV P ⟨dd,.slice T x lo hi none,ty,pos,af,g⟩ E (Gz k v a b):=λw=>by
 obtain⟨hu,i,Y,hs⟩:=Kf hT;rcases hv with⟨rfl,rfl⟩|⟨bb,o,c,rfl,hc⟩|⟨rfl,ad,c,rfl⟩
 ·have O:b=0:=by omega
  have J:a=0:=by omega
  subst O;subst J;have z:(0:Int)<=((0:Nat):Int)/\((0:Nat):Int)<=((0:Nat):Int):=by omega
  have key:(Instr.sliceBounds true 0 0 (lo.map (ev E)) (hi.map (ev E)) none).run P w=.ok (0,0,0) w:=by
   unfold bnd at hlo hhi
   cases lo<;>cases hi<;>simp only []at hlo hhi<;>simp only [CS,Instr.sliceBounds,Sem.run_bind,Sem.run_pure,Result.andThen_ok, *] <;>
    simp only [M6 z,Result.andThen_ok,BM]<;>rfl
  have e1:(Instr.sliceAt T (.slice none 0 0) (lo.map (ev E)) (hi.map (ev E)) none).run P w=.ok (Gz k (.slice none 0 0) 0 0) w:=by
   simp [Instr.sliceAt,Instr.slice,underlying,hu,key,sizeOf,typeInfo,Y,Gz]
  simp only [execOp,hx,CT,Sem.run_bind,e1];rfl
 ·have z:(0:Int)<=(b:Int)/\(b:Int)<=(c:Int):=by omega
  have Z:(0:Int)<=(a:Int)/\(a:Int)<=(b:Int):=by omega
  have key:(Instr.sliceBounds true m c (lo.map (ev E)) (hi.map (ev E)) none).run P w=.ok (a,b,c) w:=by
   unfold bnd at hlo hhi
   cases lo<;>cases hi<;>simp only []at hlo hhi<;>subst_vars<;>simp only [CS,Instr.sliceBounds,Sem.run_bind,Sem.run_pure,Result.andThen_ok, *] <;>
    simp only [M6 z,M6 Z,Result.andThen_ok,BM]<;>rfl
  have ha:∀q,(⟨bb,o,none⟩:Addr).add q=⟨bb,o+q,none⟩:=λq=>by
   unfold Addr.add;split
   ·rename_i e;simp [e]
   ·rfl
  have e1:(Instr.sliceAt T (.slice (some ⟨bb,o,none⟩) m c) (lo.map (ev E)) (hi.map (ev E)) none).run P w=.ok (Gz k (.slice (some ⟨bb,o,none⟩) m c) a b) w:=by
   simp [Instr.sliceAt,Instr.slice,underlying,hu,key,sizeOf,typeInfo,Y,hs,Gz,ha];split<;>rfl
  simp only [execOp,hx,CT,Sem.run_bind,e1];rfl
 ·have O:b=0:=by omega
  have J:a=0:=by omega
  subst O;subst J;have z:(0:Int)<=((0:Nat):Int)/\((0:Nat):Int)<=(c:Int):=by omega
  have Z:(0:Int)<=((0:Nat):Int)/\((0:Nat):Int)<=((0:Nat):Int):=by omega
  have key:(Instr.sliceBounds true 0 c (lo.map (ev E)) (hi.map (ev E)) none).run P w=.ok (0,0,c) w:=by
   unfold bnd at hlo hhi
   cases lo<;>cases hi<;>simp only []at hlo hhi<;>simp only [CS,Instr.sliceBounds,Sem.run_bind,Sem.run_pure,Result.andThen_ok, *] <;>
    simp only [M6 z,M6 Z,Result.andThen_ok,BM]<;>rfl
  have e1:(Instr.sliceAt T (.slice (some ad) 0 c) (lo.map (ev E)) (hi.map (ev E)) none).run P w=.ok (Gz k (.slice (some ad) 0 c) 0 0) w:=by
   simp [Instr.sliceAt,Instr.slice,underlying,hu,key,sizeOf,typeInfo,Y,hs,Gz];split<;>rfl
  simp only [execOp,hx,CT,Sem.run_bind,e1];rfl
theorem EM.slice {α:Type}{enc:α->List Value}{k lo hi:Nat}{l:List α}(h:EM enc k w v l)(h1:lo<=hi)(h2:hi<=l.length):EM enc k w (Gz k v lo hi) ((l.take hi).drop lo):=by
 have J:∀b o q,(⟨b,o,none⟩:Addr).add q=⟨b,o+q,none⟩:=λb o q=>by
  unfold Addr.add;split
  ·rename_i e;simp [e]
  ·rfl
 rcases h.sl with⟨rfl,hl⟩|⟨b,o,c,rfl,hc⟩|⟨hl,a,c,rfl⟩
 ·have:=A5 hl;subst this;simp [Gz];exact EM.nil
 rotate_left
 ·have:=A5 hl;subst this;have h3:hi=0:=by simpa using h2
  have h4:lo=0:=by omega
  subst h3;subst h4;exact⟨.inr (.inr ⟨rfl,_,_,rfl⟩),λi cs z=>by simp at z⟩
 ·refine⟨.inr (.inl ⟨b,(if c=lo then o else o+lo*k),c-lo,?_,?_⟩),λi cs z=>?_⟩
  ·simp only [Gz,An,List.length_drop,List.length_take,J];rw[show min hi l.length=hi by omega]
   congr 2
   split<;>rfl
  ·simp;omega
  ·rw[AH,Bf,AV]at z;split at z
   ·rename_i hlt;have h3:=h.at' (lo+i) cs (by rw[AH];exact z);refine⟨h3.1,?_⟩;have O:¬ c=lo:=by omega
    have Y:base (Gz k (.slice (some ⟨b,o,none⟩) l.length c) lo hi)=(b,o+lo*k):=by simp [Gz,O,base,J]
    rw[Y];have h4:=h3.2;simp only [base]at h4 ⊢;rw[show o+lo*k+i*k=o+(lo+i)*k by rw[Nat.add_mul];omega];exact h4
   ·cases z
@[reducible] def EP (c:UInt8):List Value:=[.int .u8 c.toNat]
@[reducible] def FT (s:EC):List Value:=[S s]
@[reducible] def encI (n:Int):List Value:=[I n]
def NL (P:Program)(T:TypeId):Bool:=match P.underlying T with
 | some (.slice e)=>(match P.underlying e with|some (.int .u8)=>true|_=>false)
 | _=>false
theorem Xkk (f:Value->ByteArray->Sem (ForInStep ByteArray))(hf:∀(c:UInt8) (s:ByteArray),(f (.int .u8 c.toNat) s).run P w=.ok (.yield (s.push c)) w) :
  ∀(l:EC) (s:ByteArray),(forIn (l.map λc=>Value.int .u8 c.toNat) s f).run P w=.ok ⟨⟨s.data.toList++l⟩⟩ w:=by
 intro l
 induction l with
 | nil=>intro s;simp
 | cons c r ih=>
  intro s;simp only [Aq,List.forIn_cons,Sem.run_bind,hf,Result.andThen_ok];rw[ih]
  congr 1
  simp [ByteArray.push]
theorem L5 {x:Operand}{T U:Nat}{dd:Option Tmp}{l:EC}(hT:NL P T=true)(hU:JJ P U=true)(ha:EM EP 1 w v l)(hx:ev E x=v):LV P ⟨dd,.convert T U x,ty,pos,af,g⟩ E w (S l):=by
 have O:P.underlying U=some .string:=by
  unfold JJ at hU;split at hU<;>first|assumption|cases hU
 obtain⟨e,hTe,hee⟩:∃e,P.underlying T=some (.slice e)/\P.underlying e=some (.int .u8):=by
  unfold NL at hT;split at hT
  ·rename_i e he;split at hT
   ·rename_i h;exact⟨e,he,h⟩
   ·cases hT
  ·cases hT
 have key:(Conv.bytesToString v).run P w=.ok (S l) w:=by
  rcases ha.sl with⟨rfl,hl⟩|⟨b,o,c,rfl,Y⟩|⟨hl,a,c,rfl⟩
  ·have:=A5 hl;subst this;simp [Conv.bytesToString];rfl
  rotate_left
  ·have:=A5 hl;subst this;simp [Conv.bytesToString,loadCells,loadCellsFrom];rfl
  ·have z:=O4 (P:=P) (w:=w) (b:=b) (o:=o) (l.map λc=>Value.int .u8 c.toNat) 0 #[] (λj u J=>by
    rw[AH]at J
    cases hx:l[j]? with
    | none=>rw[hx]at J;cases J
    | some y=>
     rw[hx]at J;have:=ha.row hx 0 _ rfl;simp only [base,Dy,BN]at this ⊢;simp only [Ck,A3.injEq]at J;rw[this,J])
   rw[An]at z;unfold Conv.bytesToString;simp only [loadCells,Sem.run_bind,z,Result.andThen_ok];rw[<-Array.forIn_toList];simp only [Array.toList_append,List.nil_append];have e0:(#[]:Array Value).toList++(List.map (λc:UInt8=>Value.int .u8 c.toNat) l).toArray.toList=l.map λc=>Value.int .u8 c.toNat:=by simp
   rw[Xkk _ (λc s=>by simp)];rfl
 unfold LV;have Y:(convert T U v).run P w=.ok (S l) w:=by
  rcases ha.sl with⟨rfl,_⟩|⟨b,o,c,rfl,_⟩|⟨_,a,c,rfl⟩<;>simp [convert,underlying,hTe,O,hee,key]
 simp only [execOp,hx,Sem.run_bind,Y,Result.andThen_ok,Sem.run_pure]
def X8m (P:Program)(T:TypeId):Bool:=match P.underlying T with|some .string|some .bool|some (.int _)=>true|_=>false
def OS (P:Program)(T:TypeId):Option (List TypeId):=match P.underlying T with
 | some (.struct fs)=>if P.stoodInHeld T || P.eqGuardType P.depth T then none else
  if (fs.toList.zipIdx.all λ (f, i) => f.name != "_" && f.offset == i && X8m P f.type) then some (fs.toList.map (·.type)) else none
 | _=>none
def Kt : List Value->List Value->Bool
 | .string a :: r,.string b :: s=>a.toList == b.toList && Kt r s
 | .bool a :: r,.bool b :: s=>a == b && Kt r s
 | .int _ a :: r,.int _ b :: s=>a == b && Kt r s
 | _,_=>true
def Ll (P:Program):List TypeId->List Value->Prop
 | [],[]=>True
 | t :: r,.string _ :: s=>P.underlying t=some .string/\Ll P r s
 | t :: r,.bool _ :: s=>P.underlying t=some .bool/\Ll P r s
 | t :: r,.int k _ :: s=>P.underlying t=some (.int k)/\Ll P r s
 | _,_=>False
theorem Xs4 (d : Nat) (cs ds : List Value) : ∀ (fs : List Field) (k : Nat), (∀ j f, fs[j]? = some f → (f.name ≠ "_" ∧ f.offset = k + j)) → Ll P (fs.map (·.type)) (cs.drop k) → Ll P (fs.map (·.type)) (ds.drop k) →
  (Op.eqFields (d+1) ⟨cs⟩ ⟨ds⟩ fs).run P w=.ok (Kt (cs.drop k) (ds.drop k)) w:=by
 intro fs
 induction fs with
 | nil=>
  intro k _ h1 h2
  cases hc:cs.drop k with
  | nil=>cases hd:ds.drop k with
   | nil=>simp [Op.eqFields,Kt]
   | cons y s=>rw[hd]at h2;cases y<;>exact h2.elim
  | cons x r=>rw[hc]at h1;cases x<;>exact h1.elim
 | cons f fs ih=>
  intro k hf h1 h2;obtain⟨hn,ho⟩:=hf 0 f rfl;rw[BN]at ho;have hf' : ∀ j f, fs[j]? = some f → (f.name ≠ "_" ∧ f.offset = k + 1 + j) := λ j f hj => by
   have:=hf (j+1) f (by simpa using hj);exact⟨this.1,by omega⟩
  cases hc:cs.drop k with
  | nil=>rw[hc]at h1;exact h1.elim
  | cons x rx=>
   cases hd:ds.drop k with
   | nil=>rw[hd]at h2;exact h2.elim
   | cons y ry=>
    rw[hc]at h1;rw[hd]at h2;have hcx:cs[k]?=some x:=by
     have:=congrArg (λl=>l[0]?) hc;simpa using this
    have hdy:ds[k]?=some y:=by
     have:=congrArg (λl=>l[0]?) hd;simpa using this
    have hc1:cs.drop (k+1)=rx:=by rw[<-Dz,hc];rfl
    have hd1:ds.drop (k+1)=ry:=by rw[<-Dz,hd];rfl
    have part_of:∀(l:List Value) (z:Value),l[k]?=some z->Ln P f.type=true->(part f.type ⟨l⟩ f.offset).run P w=.ok z w:=λl z hz h1=>by
     simp [part,Ry h1,ho,hz]
    unfold Op.eqFields;rw[if_pos hn]
    cases x<;>first|exact h1.elim|skip
    all_goals
     cases y<;>first|exact h2.elim|(exfalso;obtain⟨hk,_⟩:=h1;obtain⟨hk2,_⟩:=h2;rw[hk]at hk2;cases hk2;done)|skip
    all_goals
     obtain⟨hk,h1'⟩:=h1;obtain⟨hk2,h2'⟩:=h2;have h1o:Ln P f.type=true:=by unfold Ln;rw[hk]
     have ih':=ih (k+1) hf' (by rw[hc1];exact h1') (by rw[hd1];exact h2');rw[hc1,hd1]at ih';simp only [Sem.run_bind,part_of cs _ hcx h1o,part_of ds _ hdy h1o,Result.andThen_ok]
    ·rw[run_equalIn_bool _ _ _ _ _ hk];simp only [Result.andThen_ok,Kt];rename_i a b
     by_cases e:a=b
     ·subst e;simp [ih']
     ·simp [e]
    ·rename_i k1 a k2 b;rw[hk]at hk2;have:k1=k2:=by simpa using hk2
     subst this;rw[run_equalIn_int _ _ _ _ _ _ _ hk];simp only [Result.andThen_ok,Kt]
     by_cases e:a=b
     ·subst e;simp [ih']
     ·simp [e]
    ·rw[run_equalIn_string _ _ _ _ _ hk];simp only [Result.andThen_ok,Kt];rename_i a b
     by_cases e:a.toList=b.toList
     ·simp [e,ih']
     ·simp [e]
theorem Xl {T:TypeId}{ts:List TypeId}(h:OS P T=some ts):∃fs:Array Field,P.underlying T=some (.struct fs)/\P.fieldsOf T=fs/\P.stoodInHeld T=false/\P.eqGuardType P.depth T=false/\
  (∀ (j : Nat) (f : Field), fs.toList[j]? = some f → f.name ≠ "_" ∧ f.offset = j) ∧ fs.toList.map (·.type) = ts := by
 unfold OS at h;split at h
 ·rename_i fs hu;split at h
  ·cases h
  ·rename_i hn;simp only [BE,not_or,BY]at hn;split at h
   ·rename_i ha;refine⟨fs,hu,by simp [Program.fieldsOf,hu],hn.1,hn.2,λj f hj=>?_,by simpa using h⟩;have:=AU.1 ha (f,j) (by
     rw[List.mem_iff_getElem?];exact⟨j,by simp [List.getElem?_zipIdx,hj]⟩)
    simp only [Au,bne_iff_ne,beq_iff_eq]at this;exact⟨this.1.1,this.1.2⟩
   ·cases h
 ·cases h
theorem X4s {T:TypeId}{ts:List TypeId}{cs ds:List Value}(h:OS P T=some ts)(hc:Ll P ts cs)(hd:Ll P ts ds):(Op.equalIn 10000 T (.agg ⟨cs⟩) (.agg ⟨ds⟩)).run P w=.ok (Kt cs ds) w:=by
 obtain⟨fs,hu,J,O,_,Y,z⟩:=Xl h;rw[run_equalIn_struct _ 9999 T ⟨cs⟩ ⟨ds⟩ (by rw[J];exact hu) O,J];have:=Xs4 (P:=P) (w:=w) 9998 cs ds fs.toList 0 (λj f h=>by have:=Y j f h;exact⟨this.1,by omega⟩) (by rw[z];simpa using hc) (by rw[z];simpa using hd);simpa using this
theorem X8n {x y:Operand}{T U:TypeId}{ts:List TypeId}{cs dss:List Value}{dd:Option Tmp}(h:OS P T=some ts)(hx:ev E x=.agg ⟨cs⟩)(hy:ev E y=.agg ⟨dss⟩)(hc:Ll P ts cs)(hd:Ll P ts dss):PV P ⟨dd,.binOp .neq T x y U,ty,pos,af,g⟩ E (.bool (!Kt cs dss)):=λw=>by
 obtain⟨_,_,_,_,z,_⟩:=Xl h;refine Od _ _ _ _ _ _ _ (λw=>by rw[hx,hy];exact run_eqGuard_agg _ _ _ _ _ _ _ z) ?_;rw[hx,hy,run_neq_struct,X4s h hc hd];rfl
theorem Qi {x y:Operand}{T U:TypeId}{k:IntKind}{a b:Int}{dd:Option Tmp}(hx:ev E x=.int k a)(hy:ev E y=.int k b)(ha:0<=a)(hb:0<b):PV P ⟨dd,.binOp .rem T x y U,ty,pos,af,g⟩ E (.int k (a % b)):=λw=>by
 have h0:¬ b=0:=by omega
 simp [execOp,hx,hy,eqGuard,binOp,Op.intDiv,h0,Int.tmod_eq_emod_of_nonneg ha]
def Kw (op:BinOp)(k:IntKind)(a b:Int):Int:=match op with
 | .and=>k.wrap (AM k.bits a &&& AM k.bits b).toNat
 | .or=>k.wrap (AM k.bits a ||| AM k.bits b).toNat
 | .xor=>k.wrap (AM k.bits a ^^^ AM k.bits b).toNat
 | .andNot=>k.wrap (AM k.bits a &&& ~~~ AM k.bits b).toNat
 | _=>0
theorem Lz {x y:Operand}{T U:TypeId}{op:BinOp}{k:IntKind}{a b:Int}{dd:Option Tmp}(hop:op=.and\/op=.or\/op=.xor\/op=.andNot)(hx:ev E x=.int k a)(hy:ev E y=.int k b) :
  PV P ⟨dd,.binOp op T x y U,ty,pos,af,g⟩ E (.int k (Kw op k a b)):=λw=>by
 rcases hop with rfl|rfl|rfl|rfl<;>simp [execOp,hx,hy,eqGuard,binOp,Op.intBits,Kw]
theorem MT {x y:Operand}{T U:TypeId}{k ky:IntKind}{a b:Int}{dd:Option Tmp}(hx:ev E x=.int k a)(hy:ev E y=.int ky b)(hb:0<=b):PV P ⟨dd,.binOp .shr T x y U,ty,pos,af,g⟩ E (.int k (a.fdiv (2 ^ (min b.toNat k.bits)))):=λw=>by
 have h0:¬ b<0:=by omega
 simp [execOp,hx,hy,eqGuard,binOp,Op.shift,h0]
theorem NH {x y:Operand}{T U:TypeId}{k ky:IntKind}{a b:Int}{dd:Option Tmp}(hx:ev E x=.int k a)(hy:ev E y=.int ky b)(hb:0<=b):PV P ⟨dd,.binOp .shl T x y U,ty,pos,af,g⟩ E (.int k (k.wrap (a*2 ^ (min b.toNat k.bits)))):=λw=>by
 have h0:¬ b<0:=by omega
 simp [execOp,hx,hy,eqGuard,binOp,Op.shift,h0]
theorem Q4 {x y:Operand}{ts:Array TypeId}{a b:Int}{dd:Option Tmp}(hx:ev E x=I a)(hy:ev E y=I b):PV P ⟨dd,.call { callee:=.builtin .max,args:=#[x,y],argTypes:=ts },ty,pos,af,g⟩ E (I (max a b)):=λw=>by
 have e:(if b > a then b else a)=max a b:=by split<;>omega
 simp [execOp,resolve,invoke,builtin,Builtin.max_,Builtin.max2,hx,hy,C2,e]
theorem V3 {x y:Operand}{ts:Array TypeId}{a b:Int}{dd:Option Tmp}(hx:ev E x=I a)(hy:ev E y=I b):PV P ⟨dd,.call { callee:=.builtin .min,args:=#[x,y],argTypes:=ts },ty,pos,af,g⟩ E (I (min a b)):=λw=>by
 have e:(if b<a then b else a)=min a b:=by split<;>omega
 simp [execOp,resolve,invoke,builtin,Builtin.min_,Builtin.min2,hx,hy,C2,e]
def NT : Value->Bool
 | .slice none _ _=>true
 | _=>false
theorem Xo8 {v:Value}{m:Nat}(hv:FW v m)(h:NT v=true):v=.slice none 0 0/\m=0:=by
 rcases hv with⟨rfl,rfl⟩|⟨b,o,c,rfl,_⟩|⟨rfl,a,c,rfl⟩
 ·exact⟨rfl,rfl⟩
 ·cases h
 ·cases h
theorem PA {x y:Operand}{T U e k m:Nat}{dd:Option Tmp}(hT:IK P T=some (e,k))(hv:FW v m)(hx:ev E x=v)(hy:ev E y=.slice none 0 0):PV P ⟨dd,.binOp .eql T x y U,ty,pos,af,g⟩ E (.bool (NT v)):=by
 rcases hv with⟨rfl,rfl⟩|⟨b,o,c,rfl,_⟩|⟨rfl,a,c,rfl⟩
 ·exact RH hT hx hy
 ·have:=RH (P:=P) (d:=dd) (ty:=ty) (pos:=pos) (af:=af) (g:=g) (U:=U) hT hx hy;simpa [NT]using this
 ·have:=RH (P:=P) (d:=dd) (ty:=ty) (pos:=pos) (af:=af) (g:=g) (U:=U) hT hx hy;simpa [NT]using this
def ER (w:World)(F:Value->World->Prop):Ending->World->Prop:=λe w'=>∃v,e=.returned v/\EB w w'/\F v w'
theorem Ti {f:Nat}{az:List Operand}{ats:Array TypeId}{vs:List Value}{F:Value->World->Prop}(hg:FB ds E g=true)(hf:GL P f=true)(hc:Calls P f vs.toArray w (ER w F))(ha:az.map (ev E)=vs)(hR:RX R anc)
  (h:∀v z,EB w z->F v z->Dw P n ds R r K (FJ E d v) z) :
  Dw P n ds R ((⟨some d,.call { callee:=.value (.func f),args:=az.toArray,argTypes:=ats },ty,pos,af,g⟩,.x,anc) :: r) K E w:=
 QH hg hf ha hc λe z ⟨v,he,hx,hF⟩=>⟨v,he,hR.use hx,h v z hx hF⟩
end
theorem I6.sub {w:World}{b o:Nat}{cs:List Value}(k n:Nat)(h:I6 w b o cs):I6 w b (o+k) ((cs.drop k).take n):=λi v hi=>by
 rw[AV]at hi;split at hi
 ·rw[Bf]at hi;have:=h (k+i) v hi;rw[show o+k+i=o+(k+i) by omega];exact this
 ·cases hi
theorem I6.at0 {w:World}{b o:Nat}{cs:List Value}{v:Value}(h:I6 w b o cs)(hk:cs[0]?=some v):w.cell? ⟨b,o,none⟩=some v:=h 0 v hk
theorem VR : ∀(vs done cs:List Value),vs.length=cs.length->Fe (done++cs) done.length vs=done++vs
 | [],done,[],_=>rfl
 | v :: vs,done,c :: cs,h=>by
  have h':vs.length=cs.length:=by simpa using h
  have e:(done++c :: cs).set done.length v=(done++[v])++cs:=by simp
  rw[Fe,e];have:=VR vs (done++[v]) cs h';rw[Ab]at this;rw[show done.length+1=done.length + [v].length from rfl,this];simp
theorem Xue {vs cs:List Value}(h:vs.length=cs.length):Fe cs 0 vs=vs:=VR vs [] cs h
theorem Nn {α:Type}(f:α->Value)(q:List α)(r:Nat)(x:α):(q.map f).set (0+r*1) (f x)=(q.set r x).map f:=by
 rw[A9,Dy,List.map_set]
theorem EL.ne {w:World}{b b':Nat}{cs cs':List Value}{T T':TypeId}(h:EL w b cs T)(h':EL w b' cs' T')(hT:Bq T T'=false):b≠b':=by
 rintro rfl;unfold EL at h h';rw[h]at h';simp only [A3.injEq,Obj.cells.injEq]at h';rw[h'.2.1]at hT;simp at hT
section
variable {α β:Type}{enc:α->List Value}{enc':β->List Value}{sz sz' B B':Nat}{T T':TypeId}{w:World}{v v':Value}{l:List α}{l':List β}
theorem Own.heap (h:Own enc sz T B w v l){k:Nat}(hk:v.ownBlock=some k):∃cs,w.heap[k]?=some (.cells cs T (0,0)):=by
 obtain⟨_,h2⟩:=h.row;rcases h2 with⟨rfl,_⟩|⟨g,cap,cur,rfl,_,hg,_⟩
 ·cases hk
 ·have:g=k:=A3.inj hk;subst this;exact⟨cur,hg⟩
theorem Own.ne_blk (h:Own enc sz T B w v l){b:Nat}{cs:List Value}(hb:EL w b cs T')(hT:Bq T T'=false):v.ownBlock≠some b:=λe=>by
 obtain⟨cs',z⟩:=h.heap e;unfold EL at hb;rw[hb]at z;simp only [A3.injEq,Obj.cells.injEq]at z;rw[z.2.1]at hT;simp at hT
theorem Own.base_block (h:Own enc sz T B w v l)(hl:l≠[]):v.ownBlock=some (base v).1:=by
 rcases h.sl with⟨_,hn⟩|⟨b,o,c,rfl,_⟩|⟨hn,_⟩
 ·exact absurd (A5 hn) hl
 ·rfl
 ·exact absurd (A5 hn) hl
theorem Own.ne (h:Own enc sz T B w v l)(h':Own enc' sz' T' B' w v' l')(hT:Bq T T'=false){k:Nat}(hk:v.ownBlock=some k):v'.ownBlock≠some k:=λe=>by
 obtain⟨cs,J⟩:=h.heap hk;obtain⟨cs',z⟩:=h'.heap e;rw[z]at J;simp only [A3.injEq,Obj.cells.injEq]at J;rw[J.2.1]at hT;simp at hT
end
theorem RX.mod {S:Nat->Prop}{anc:Bool} : RX (Mod S) anc:=.inr λ_ _ h=>h.mono (λ_ h _=>h.elim)
theorem J0 {S:Nat->Prop}(w:World):Mod S w w:=Mod.refl S w
theorem JY {S:Nat->Prop}(a b c:World)(h:Mod S a b)(k:Mod S b c):Mod S a c:=Mod.trans h k (λ_ h=>h) (λ_ h _=>h)
theorem OO (h:Nat):(Aw h [I 0]).flatten=(Aw h 0).map λj:Nat=>I (j:Int):=by
 induction h with
 | zero=>rfl
 | succ h ih=>rw[CE,C1,ih,CE];rfl
@[reducible] def MF (j:Nat):List Value:=[I (j:Int)]
@[reducible] def Iu (j:Nat):List Value:=[.int .u32 j]
@[reducible] def FP (q:List Nat):List Value:=q.map λj:Nat=>I (j:Int)
theorem Xuf (q:List Nat):q.flatMap MF=FP q:=by
 induction q with
 | nil=>simp [FP]
 | cons x r ih=>rw[AD,ih];simp [FP]
theorem LH {q:List Nat}{i x:Nat}(h:q[i]?=some x):(FP q)[0+i*1]?=some (I (x:Int)):=by
 rw[A9,Dy,AH,h];rfl
section
variable {P:Program}{n:Nat}{ds:List (Option Tmp)}{R:World->World->Prop}{r:List (Oper×Fl×Bool)}{K:Fg->World->Prop}{E:Fg}{w:World}
variable {d:Nat}{op:Op}{ty:TypeId}{pos:String}{af:Array Edge}{g:Option (Nat×Bool)}{anc:Bool}{v:Value}
theorem NZ {a x:Operand}{T T' b m:Nat}{cs vs:List Value}(hg:FB ds E g=true)(ha:ev E a=ED b 0)(hx:ev E x=.agg ⟨vs⟩)(hs:Mw P T=some m)(hm:vs.length=m)(hl:cs.length=m)(hb:EL w b cs T')
  (h1:∀v∈vs,v.oneCell'=true) (hR:anc=true\/∀w',Mod (ES b) w w'->R w w')
  (h:∀z,Mod (ES b) w z->z.heap.size=w.heap.size->EL z b vs T'->Dw P n ds R r K E z):Dw P n ds R ((⟨none,.store T a x,ty,pos,af,g⟩,.x,anc) :: r) K E w:=
 Mf (v:=.agg ⟨vs⟩) hg ha hx rfl (by rw[hs,hm]) hb EA h1 hR (λz h2 h3 h4=>h z h2 h3 (by rwa [Xue EA]at h4))
theorem Rm {x y:Operand}{T e m i:Nat}{cs:List Value}{v:Value}{dd:Option Tmp}(hT:NI P T=some (m,e,1))(he:Ln P e=true)(hx:ev E x=.agg ⟨cs⟩)(hy:ev E y=I i)(hi:i<m)(hv:cs[i]?=some v) :
  PV P ⟨dd,.index T x y,ty,pos,af,g⟩ E v:=λw=>by
 obtain⟨hu,f,z,hk⟩:=Rs hT;have h0:(0:Int)<=(i:Int)/\(i:Int)<(m:Int):=by omega
 have hm:(i:Int)<(m:Int):=h0.2;simp [execOp,Instr.index,asIntOf,hx,hy,underlying,hu,hm,sizeOf,typeInfo,z,hk,part,Ry he,hv];omega
def Fh (S:Nat->Prop)(w:World)(F:Value->World->Prop):Ending->World->Prop:=λe w'=>∃v,e=.returned v/\Mod S w w'/\F v w'
theorem JT {S:Nat->Prop}{f:Nat}{az:List Operand}{ats:Array TypeId}{vs:List Value}{F:Value->World->Prop}(hg:FB ds E g=true)(hf:GL P f=true)(hc:Calls P f vs.toArray w (Fh S w F))(ha:az.map (ev E)=vs)
  (hR:anc=true\/∀w',Mod S w w'->R w w') (h:∀v z,Mod S w z->F v z->Dw P n ds R r K (FJ E d v) z) :
  Dw P n ds R ((⟨some d,.call { callee:=.value (.func f),args:=az.toArray,argTypes:=ats },ty,pos,af,g⟩,.x,anc) :: r) K E w:=
 QH hg hf ha hc λe z ⟨v,he,hx,hF⟩=>⟨v,he,λe=>hR.elim (λh=>by rw[h]at e;cases e) (λh=>h _ hx),h v z hx hF⟩
theorem Xa {t ty e B:Nat}{i:TypeInfo}{z v':Value}{w':World}(ht:P.underlying t=some (.slice e))(hi:P.info? e=some i)(hz:i.zero=some z)(hzs:z.cells.size=i.size)
  {m0:Nat} {xs:List Value} (hown:w.ownsRow B e i.size v m0 xs) (a:Addr) (m c:Nat) (news:List Value) (hl:news.length=m*i.size) (hnews:∀j u,news[j]?=some u->w.cell? (a.add j)=some u) (h1:∀u∈news,u.oneCell'=true)
  (h63:m0+m<=maxLen) (hbytes:(m0+m)*i.bytes<=140737488355328) (hr:(Builtin.append_ #[t,t] ty #[v,.slice (some a) m c]).run P w=.ok v' w') :
  v'.ownBlock=v.ownBlock\/v'.ownBlock=some w.heap.size:=by
 have hsmall:m0+m<=9223372036854775807:=by simp only [maxLen]at h63;omega
 rcases hown.2 with⟨rfl,rfl⟩|⟨g,cap,cur,rfl,hbg,hg,hnc,hcm,hcs,htake⟩
 ·by_cases hm:m=0
  ·subst hm;have hn:news=[]:=A5 (by simpa using hl);subst hn;have e:(Builtin.append_ #[t,t] ty #[.slice none 0 0,.slice (some a) 0 c]).run P w=.ok (.slice none 0 0) w:=by
    simp [Builtin.append_,run_underlying ht,sizeOf,typeInfo,hi,Builtin.lenOf,Builtin.firstCells,loadCells,loadCellsFrom]
   rw[e]at hr;cases hr;exact .inl rfl
  ·have J:=run_append_nil (P:=P) w t ty e i z ht hi hz a m c news hl hnews EA EA (by have Y:=hbytes;simp only [A9]at Y;omega);rw[J]at hr;cases hr;exact .inr rfl
 ·by_cases hroom:m0+m<=cap
  ·have O:m0*i.size+news.length<=cur.size:=by rw[hl,hcs,<-Nat.add_mul];exact Nat.mul_le_mul_right _ hroom
   have J:=run_append_room (P:=P) w t ty e i ht hi g m0 cap cur hg a m c news hl hnews h1 hroom O;rw[J]at hr;cases hr;exact .inl rfl
  ·have holds:∀j u,xs[j]?=some u->w.cell? ((⟨g,0,none⟩:Addr).add j)=some u:=hown.cells (g:=g) rfl;have J:=run_append_grow (P:=P) w t ty e i z ht hi hz ⟨g,0,none⟩ m0 cap xs hown.1 holds a m c news hl hnews EA EA (growslice_fits EA hbytes);rw[J]at hr;cases hr;exact .inr rfl
theorem KG {α:Type}{enc:α->List Value}{s x:Operand}{t e sz by' B:Nat}{vx:Value}{l lx:List α}(hg:FB ds E g=true)(ht:IK P t=some (e,sz))(hE:MZ P e sz by'=true)
  (henc:∀x,(enc x).length=sz) (hown:Own enc sz e B w v l) (hax:EM enc sz w vx lx) (hs:ev E s=v) (hx:ev E x=vx) (h1:∀x∈lx,∀u∈enc x,u.oneCell'=true)
  (hbytes:(l.length+lx.length)*by'<=140737488355328) (hby:1<=by') (hB:B<=w.heap.size) (hR:anc=true\/∀w',Mod (λk=>v.ownBlock=some k) w w'->R w w')
  (h:∀v' w',Own enc sz e B w' v' (l++lx)->Mod (λk=>v.ownBlock=some k) w w'->(v'.ownBlock=v.ownBlock\/v'.ownBlock=some w.heap.size)->Dw P n ds R r K (FJ E d v') w') :
  Dw P n ds R ((⟨some d,.call { callee:=.builtin .append,args:=#[s,x],argTypes:=#[t,t] },ty,pos,af,g⟩,.x,anc) :: r) K E w:=by
 obtain⟨hu,_⟩:=Kf ht;obtain⟨i,z,hi,hz,J,O,Z,hl⟩:=Pw hE;have hb:l.length+lx.length<=maxLen:=by
  unfold maxLen;have:(l.length+lx.length)*1<=(l.length+lx.length)*by':=CD _ hby;omega
 have hf:∀w',Mod (λk=>v.ownBlock=some k) w w'->anc=false->R w w':=λw' hm e=>hR.elim (λh=>by rw[h]at e;cases e) (λh=>h _ hm);rcases hax.sl with⟨rfl,hl0⟩|⟨b,o,c,rfl,hc⟩|⟨hl0,⟨b,o,s0⟩,c,rfl⟩
 ·-- nothing is appended
  have hh:=A5 hl0;subst hh;have hp:(Builtin.append_ #[t,t] ty #[v,.slice none 0 0]).run P w=.ok v w:=by
   rcases hown.sl with⟨rfl,hn⟩|⟨b,o,c,rfl,hn⟩|⟨hn,a,c,rfl⟩
   ·simp [Builtin.append_,run_underlying hu,sizeOf,typeInfo,hi,Builtin.lenOf,Builtin.firstCells]
   ·simp [Builtin.append_,run_underlying hu,sizeOf,typeInfo,hi,Builtin.lenOf,Builtin.firstCells,hn,storeCells]
   ·simp [Builtin.append_,run_underlying hu,sizeOf,typeInfo,hi,Builtin.lenOf,Builtin.firstCells,hn,storeCells]
  refine HL (w':=w) (v:=v) hg ?_ (hf _ (Mod.refl _ _)) (h v w (by simpa using hown) (Mod.refl _ _) (.inl rfl));simp only [execOp,resolve,invoke,builtin,Sem.run_bind,Sem.run_pure,Result.andThen_ok,Cp,Aq,Bk,hs,hx,hp]
 ·have Y:∀j u,(lx.flatMap enc)[j]?=some u->w.cell? ((⟨b,o,none⟩:Addr).add j)=some u:=(λj u hj=>by
   have:=EM.flat henc hax j u hj;have ha:(⟨b,o,none⟩:Addr).add j=⟨b,o+j,none⟩:=by
    unfold Addr.add;split
    ·rename_i e;simp [e]
    ·rfl
   rw[ha];exact this)
  obtain⟨v',w',hr,h2,h3,h4⟩:=run_append_own (P:=P) w B t ty e i z sz by' hu hi hz J O Z hl v l.length (l.flatMap enc) hown.row ⟨b,o,none⟩ lx.length c (lx.flatMap enc) (Fs henc lx)
   Y (Sb h1) hb hbytes hB
  have hw:=Xa (P:=P) hu hi hz (by rw[Z,J]) (by rw[J];exact hown.row) ⟨b,o,none⟩ lx.length c (lx.flatMap enc) (by rw[J];exact Fs henc lx) Y (Sb h1) hb (by rw[O];exact hbytes) hr;refine HL (w':=w') (v:=v') hg ?_ (hf _ ?_) (h v' w' ⟨by rw[Ab,Bb];exact h2⟩ ?_ hw)
  ·simp only [execOp,resolve,invoke,builtin,Sem.run_bind,Sem.run_pure,Result.andThen_ok,Cp,Aq,Bk,hs,hx,hr]
  ·exact Mod.of_grown h3
  ·exact Mod.of_grown h3
 ·have hh:=A5 hl0;subst hh;obtain⟨v',w',hr,h2,h3,h4⟩:=run_append_own (P:=P) w B t ty e i z sz by' hu hi hz J O Z hl v l.length (l.flatMap enc) hown.row ⟨b,o,s0⟩ 0 c [] EQ (λj u hj=>by simp at hj) (λu hu=>by cases hu) hb hbytes hB;have hw:=Xa (P:=P) hu hi hz (by rw[Z,J]) (by rw[J];exact hown.row) ⟨b,o,s0⟩ 0 c [] EQ (λj u hj=>by simp at hj) (λu hu=>by cases hu) hb (by rw[O];exact hbytes) hr;refine HL (w':=w') (v:=v') hg ?_ (hf _ (Mod.of_grown h3)) (h v' w' ⟨by rw[Ab,Bb];exact h2⟩ (Mod.of_grown h3) hw);simp only [execOp,resolve,invoke,builtin,Sem.run_bind,Sem.run_pure,Result.andThen_ok,Cp,Aq,Bk,hs,hx,hr]
end
end Go.Vc
namespace Go.Vc
open Go.RowKit Go.Maps
open Classical in
noncomputable def rdBy {α:Type} (av:α->Value) (v:Value):Option (DataW α×List MemPlace):=
 if h:∃a,v=av a then some (.held h.choose,[])else none
theorem Qe {α:Type}{av:α->Value}(inj:∀a b,av a=av b->a=b)(a:α):rdBy av (av a)=some (.held a,[]):=by
 have h:∃b,av a=av b:=⟨a,rfl⟩;unfold rdBy;rw[dif_pos h,<-inj _ _ h.choose_spec]
theorem Sj {α:Type}{av:α->Value}{v:Value}{y:DataW α×List MemPlace}(h:rdBy av v=some y):∃a,v=av a/\y=(.held a,[]):=by
 unfold rdBy at h;split at h
 ·rename_i h1
  cases h
  exact⟨_,h1.choose_spec,rfl⟩
 ·cases h
structure MapK (P:Program){κ α:Type}(t k e:TypeId)(kv:κ->Value)(av:α->Value)(ok:κ->Prop):Prop where
 und:P.underlying t=some (.map k e)
 keyed:Keyed P k
 key:∀x,ok x->∃l,keyOf P k (kv x)=some l
 inv:∀v l,keyOf P k v=some l->∃x,v=kv x/\ok x
 kinj:∀x y,kv x=kv y->x=y
 ainj:∀a b,av a=av b->a=b
open Classical in
noncomputable def putF {κ α:Type} (f:κ->Option α) (x:κ) (a:α):κ->Option α:=λy=>if y=x then some a else f y
theorem Xug {κ α:Type}(f:κ->Option α)(x:κ)(a:α):putF f x a x=some a:=by simp [putF]
theorem X4t {κ α:Type}(f:κ->Option α)(x:κ)(a:α){y:κ}(h:y≠x):putF f x a y=f y:=by simp [putF,h]
def Mb {α:Type}(o:Option α)(z:DataW α):DataW α:=match o with
 | some a=>.held a
 | none=>z
def Xbn {κ α:Type}(P:Program)(k:TypeId)(kv:κ->Value)(av:α->Value)(w:World)(b n:Nat)(f:κ->Option α):Prop:=
 ∃D:DataW α,w.ownsMap P k (rdBy av) b n D/\∀x l,keyOf P k (kv x)=some l->∀z,D.atKey l z=Mb (f x) z
def Xbf {κ α:Type}(P:Program)(k:TypeId)(kv:κ->Value)(av:α->Value)(w:World)(b r n:Nat)(f:κ->Option α)(left:κ->Prop)(cnt:Nat):Prop:=
 ∃(D:DataW α) (lf:Lit->Bool),w.ranges P k (rdBy av) b r n D lf cnt/\(∀x l,keyOf P k (kv x)=some l->∀z,D.atKey l z=Mb (f x) z)/\∀x l,keyOf P k (kv x)=some l->(lf l=true↔left x)
section
variable {P:Program}{κ α:Type}{t k e:TypeId}{kv:κ->Value}{av:α->Value}{ok:κ->Prop}{w w':World}{b n r cnt:Nat}{f:κ->Option α}{left:κ->Prop}
theorem World.ownsMap.mod {H:Type}{S:Nat->Prop}{R:Value->Option (DataW H×List MemPlace)}{D:DataW H}(h:w.ownsMap P k R b n D)(m:Mod S w w')(hb:¬ S b):w'.ownsMap P k R b n D:=by
 have J:=h.lt;obtain⟨es,z,h1,F,hs,O⟩:=h;exact⟨es,z,(m.block b J hb).trans h1,F,hs,O⟩
theorem Xbn.mod {S:Nat->Prop}(h:Xbn P k kv av w b n f)(m:Mod S w w')(hb:¬ S b):Xbn P k kv av w' b n f:=by
 obtain⟨D,h1,h2⟩:=h;exact⟨D,World.ownsMap.mod h1 m hb,h2⟩
theorem Xbn.ext (h:Xbn P k kv av w b n f)(m:EB w w'):Xbn P k kv av w' b n f:=h.mod m (λh=>h)
theorem Xbn.lt (h:Xbn P k kv av w b n f):b<w.heap.size:=by
 obtain⟨D,h1,_⟩:=h;exact h1.lt
theorem Xbn.heap (h:Xbn P k kv av w b n f):∃es c,w.heap[b]?=some (.map es c):=by
 obtain⟨D,⟨es,c,h1,_⟩,_⟩:=h;exact⟨es,c,h1⟩
theorem Xbn.ne_blk (h:Xbn P k kv av w b n f){b':Nat}{cs:List Value}{T:TypeId}(hb:EL w b' cs T):b'≠b:=by
 rintro rfl;obtain⟨es,c,h1⟩:=h.heap;unfold EL at hb;rw[hb]at h1
 cases h1
theorem Xbn.ne_own (h:Xbn P k kv av w b n f){β:Type}{enc:β->List Value}{sz T B:Nat}{v:Value}{l:List β}(ho:Own enc sz T B w v l):v.ownBlock≠some b:=λe=>by
 obtain⟨cs,h1⟩:=ho.heap e;obtain⟨es,c,h2⟩:=h.heap;rw[h1]at h2
 cases h2
theorem Xbf.congr {left':κ->Prop}(h:Xbf P k kv av w b r n f left cnt)(hl:∀x,left x↔left' x):Xbf P k kv av w b r n f left' cnt:=by
 obtain⟨D,lf,h0,h2,h3⟩:=h;exact⟨D,lf,h0,h2,λx l z=>(h3 x l z).trans (hl x)⟩
theorem Xbf.mod {S:Nat->Prop}(h:Xbf P k kv av w b r n f left cnt)(m:Mod S w w')(hb:¬ S b)(hr:¬ S r):Xbf P k kv av w' b r n f left cnt:=by
 obtain⟨D,lf,h0,h2,h3⟩:=h;have Y:=h0.owns.lt;have ha:=h0.lt;obtain⟨es,z,J,O,c0,h1,F,hs,hD,Z,rest⟩:=h0;exact⟨D,lf,⟨es,z,J,O,c0,(m.block b Y hb).trans h1,F,hs,hD,(m.block r ha hr).trans Z,rest⟩,h2,h3⟩
theorem Xbf.ext (h:Xbf P k kv av w b r n f left cnt)(m:EB w w'):Xbf P k kv av w' b r n f left cnt:=h.mod m (λh=>h) (λh=>h)
theorem Xbf.map (h:Xbf P k kv av w b r n f left cnt):Xbn P k kv av w b n f:=by
 obtain⟨D,lf,h0,h2,h3⟩:=h;exact⟨D,h0.owns,h2⟩
theorem Xbf.lt (h:Xbf P k kv av w b r n f left cnt):r<w.heap.size:=by
 obtain⟨D,lf,h0,h2,h3⟩:=h;exact h0.lt
theorem Xbf.heap (h:Xbf P k kv av w b r n f left cnt):∃m s c J,w.heap[r]?=some (.mapIter m s c J):=by
 obtain⟨D,lf,⟨es,clock,since,seen,J,h1,F,hs,hD,z,rest⟩,_⟩:=h;exact⟨_,_,_,_,z⟩
theorem Xbf.ne_own (h:Xbf P k kv av w b r n f left cnt){β:Type}{enc:β->List Value}{sz T B:Nat}{v:Value}{l:List β}(ho:Own enc sz T B w v l):v.ownBlock≠some r:=λe=>by
 obtain⟨cs,h1⟩:=ho.heap e;obtain⟨m,s,c,c0,h2⟩:=h.heap;rw[h1]at h2
 cases h2
theorem Xbf.ne_map (h:Xbf P k kv av w b r n f left cnt){κ' α':Type}{k':TypeId}{kv':κ'->Value}{av':α'->Value}{b' n':Nat}{f':κ'->Option α'}(hm:Xbn P k' kv' av' w b' n' f'):b'≠r:=by
 rintro rfl;obtain⟨m,s,c,c0,h1⟩:=h.heap;obtain⟨es,cl,h2⟩:=hm.heap;rw[h1]at h2
 cases h2
theorem Xbn.made (M:MapK P t k e kv av ok):Xbn P k kv av (w.alloc (.map #[] 0)) w.heap.size 0 (λ_=>none):=
 ⟨.map [],World.ownsMap_made w P k _,λx l hl z=>rfl⟩
theorem OT (M:MapK P t k e kv av ok){x y:κ}{lx ly:Lit}(hx:keyOf P k (kv x)=some lx)(hy:keyOf P k (kv y)=some ly)(h:y≠x):ly≠lx:=λe=>by
 subst e;exact h (M.kinj _ _ (M.keyed.inj hy hx))
theorem Xbn.update (M:MapK P t k e kv av ok)(h:Xbn P k kv av w b n f)(hn:n<maxLen){x:κ}(hx:ok x)(a:α) :
  ∃w',(Instr.mapUpdate t (.map (some b)) (kv x) (av a)).run P w=.ok () w'/\Xbn P k kv av w' b (n+1) (putF f x a)/\Mod (ES b) w w'/\w'.heap.size=w.heap.size:=by
 obtain⟨D,h1,h2⟩:=h;obtain⟨l,J⟩:=M.key x hx;obtain⟨w',hr,ho,Y⟩:=h1.store M.keyed M.und hn J (Qe M.ainj a);refine⟨w',hr,⟨_,ho,λy ly O z=>?_⟩,?_,?_⟩
 ·by_cases e:y=x
  ·subst e;rw[J]at O
   cases O
   rw[Xug,Maps.atKey_put_same h1.isMap (M.keyed.key J)];rfl
  ·rw[X4t _ _ _ e,Maps.atKey_put_other (OT M J O e),h2 y ly O]
 ·have Z:=Y.grown;exact(Mod.of_grown Z).mono (λi hi _=>(A3.inj hi).symm)
 ·obtain⟨es,c,es',c',_,e⟩:=Y;rw[e];simp [ChangeMaps.setBlock]
theorem Xbn.look (M:MapK P t k e kv av ok)(h:Xbn P k kv av w b n f){z0:α}(hz:(zeroValue e).run P w=.ok (av z0) w){x:κ}(hx:ok x) :
  (Instr.lookup t (.map (some b)) (kv x) false).run P w=.ok (av ((f x).getD z0)) w:=by
 obtain⟨D,h1,h2⟩:=h;obtain⟨l,z⟩:=M.key x hx;obtain⟨v,ps,J,hv⟩:=h1.lookup M.keyed M.und hz (Qe M.ainj z0) z;rw[h2 x l z]at hv;obtain⟨a,rfl,e⟩:=Sj hv;rw[J]
 cases hf:f x with
 | none=>rw[hf]at e;simp only [Mb,AX.injEq,DataW.held.injEq]at e;rw[e.1];rfl
 | some c=>rw[hf]at e;simp only [Mb,AX.injEq,DataW.held.injEq]at e;rw[e.1];rfl
theorem Xbn.range (M:MapK P t k e kv av ok)(h:Xbn P k kv av w b n f) :
  ∃w' cnt,(Instr.range t (.map (some b))).run P w=.ok (ED w.heap.size 0) w'/\Xbf P k kv av w' b w.heap.size n f (λx=>(f x).isSome=true) cnt/\cnt<=n/\EB w w'/\w'.heap.size=w.heap.size+1:=by
 obtain⟨D,h1,h2⟩:=h;obtain⟨w',hr,O,Z,hs⟩:=h1.range M.keyed M.und;refine⟨w',_,hr,⟨D,_,O,h2,λx l Y=>?_⟩,h1.size_le,EB.of_grown Z,hs⟩
 cases hf:f x with
 | none=>
  have J:Maps.has D l=false:=Maps.has_false_of_atKey (λz=>by rw[h2 x l Y,hf];rfl);rw[J];simp [hf]
 | some c=>
  have J:Maps.has D l=true:=Maps.has_true_of_atKey (y:=.held c) (λz=>by rw[h2 x l Y,hf];rfl);rw[J];simp [hf]
theorem Xbf.next (M:MapK P t k e kv av ok)(h:Xbf P k kv av w b r n f left cnt)(ty:TypeId) :
  ((∀x,ok x->¬ left x)/\(Instr.next (ED r 0) false ty).run P w=.ok (.tuple #[.bool false]) w)\/
  ∃x a w' cnt',ok x/\left x/\f x=some a/\(Instr.next (ED r 0) false ty).run P w=.ok (.tuple #[.bool true,kv x,av a]) w'/\
   Xbf P k kv av w' b r n f (λy=>left y/\y≠x) cnt'/\cnt'<cnt/\Mod (ES r) w w'/\w'.heap.size=w.heap.size/\(Instr.entry (ED r 0)).run P w'=.ok (.tuple #[kv x,av a]) w':=by
 obtain⟨D,lf,h1,h2,h3⟩:=h;rcases h1.next M.keyed ty with⟨_,hl,hr⟩|⟨key,v,kl,y,w',cnt',hk,hlk,hv,hat,hr,hrg,hlt,hg,hs,hen⟩
 ·refine .inl ⟨λx J Z=>?_,hr⟩;obtain⟨l,Y⟩:=M.key x J;have:=(h3 x l Y).2 Z;rw[hl l]at this
  cases this
 ·obtain⟨x,rfl,J⟩:=M.inv key kl hk;obtain⟨a,rfl,e⟩:=Sj hv;refine .inr ⟨x,a,w',cnt',J,(h3 x kl hk).1 hlk,?_,hr,⟨D,_,hrg,h2,λy' O z=>?_⟩,hlt,(Mod.of_grown hg).mono (λi hi _=>(A3.inj hi).symm),hs,hen⟩
  ·have h4:=hat .nil;rw[h2 x kl hk,e]at h4
   cases hf:f x with
   | none=>rw[hf]at h4;simp [Mb]at h4
   | some c=>rw[hf]at h4;simp only [Mb,DataW.held.injEq]at h4;rw[h4]
  ·rw[Au,h3 y' O z,BO];refine and_congr_right λ_=>?_
   by_cases e':y'=x
   ·subst e';rw[hk]at z
    cases z
    rw[WideAt.sameKey_self (M.keyed.key hk)];simp
   ·have:=OT M hk z e';have h5:O.sameKey kl=false:=by
     cases hh:O.sameKey kl
     ·rfl
     ·exact absurd (WideAt.sameKey_eq hh) this
    simp [h5,e']
end
section
variable {P:Program}{N:Nat}{ds:List (Option Tmp)}{R:World->World->Prop}{rs:List (Oper×Fl×Bool)}{K:Fg->World->Prop}{E:Fg}{w:World}
variable {d:Nat}{op:Op}{ty:TypeId}{pos:String}{af:Array Edge}{g:Option (Nat×Bool)}{anc:Bool}{v:Value}
variable {κ α:Type}{t k e:TypeId}{kv:κ->Value}{av:α->Value}{ok:κ->Prop}{b n r cnt:Nat}{f:κ->Option α}{left:κ->Prop}
theorem Oy (M:MapK P t k e kv av ok)(hg:FB ds E g=true)(hR:RX R anc)
  (h:∀b w1,b=w.heap.size->EB w w1->Xbn P k kv av w1 b 0 (λ_=>none)->Dw P N ds R rs K (FJ E d (.map (some b))) w1):Dw P N ds R ((⟨some d,.makeMap t none,ty,pos,af,g⟩,.x,anc) :: rs) K E w:=by
 refine HL (v:=.map (some w.heap.size)) (w':=w.alloc (.map #[] 0)) hg ?_ (hR.use (EB.alloc _ _)) (h _ _ rfl (EB.alloc _ _) (Xbn.made M));have e1:(Instr.makeMap t none).run P w=.ok (.map (some w.heap.size)) (w.alloc (.map #[] 0)):=run_makeMap t w;simp [execOp,e1]
theorem NW {m x y:Operand}(M:MapK P t k e kv av ok){kx:κ}{a:α}(hg:FB ds E g=true)(hm:ev E m=.map (some b))(hx:ev E x=kv kx)(hy:ev E y=av a)(hmap:Xbn P k kv av w b n f)(hok:ok kx)(hn:n<maxLen)
  (hR:anc=true\/∀w',Mod (ES b) w w'->R w w') (h:∀w1,Mod (ES b) w w1->w1.heap.size=w.heap.size->Xbn P k kv av w1 b (n+1) (putF f kx a)->Dw P N ds R rs K E w1) :
  Dw P N ds R ((⟨none,.mapUpdate t m x y,ty,pos,af,g⟩,.x,anc) :: rs) K E w:=by
 obtain⟨w',z,h1,h2,h3⟩:=hmap.update M hn hok a;refine Ri (w':=w') hg ?_ (λe=>hR.elim (λh=>by rw[h]at e;cases e) (λh=>h _ h2)) (h _ h2 h3 h1);simp [execOp,hm,hx,hy,z]
theorem Ly {m x:Operand}(M:MapK P t k e kv av ok){kx:κ}{z0:α}{dd:Option Tmp}(hm:ev E m=.map (some b))(hx:ev E x=kv kx)(hz:(zeroValue e).run P w=.ok (av z0) w)(hmap:Xbn P k kv av w b n f)(hok:ok kx) :
  LV P ⟨dd,.lookup t m x false,ty,pos,af,g⟩ E w (av ((f kx).getD z0)):=by
 unfold LV;have:=hmap.look M hz hok;simp [execOp,hm,hx,this]
theorem Vu {m:Operand}(M:MapK P t k e kv av ok)(hg:FB ds E g=true)(hm:ev E m=.map (some b))(hmap:Xbn P k kv av w b n f)(hR:RX R anc)
  (h:∀r w1 cnt,r=w.heap.size->EB w w1->cnt<=n->Xbf P k kv av w1 b r n f (λx=>(f x).isSome=true) cnt->Dw P N ds R rs K (FJ E d (ED r 0)) w1) :
  Dw P N ds R ((⟨some d,.range t m,ty,pos,af,g⟩,.x,anc) :: rs) K E w:=by
 obtain⟨w',cnt,z,h1,h2,h3,h4⟩:=hmap.range M;refine HL (w':=w') (v:=ED w.heap.size 0) hg ?_ (hR.use h3) (h _ _ _ rfl h3 h2 h1);simp [execOp,hm,z]
theorem Wm {it:Operand}(M:MapK P t k e kv av ok)(hg:FB ds E g=true)(hit:ev E it=ED r 0)(hrg:Xbf P k kv av w b r n f left cnt)(hR:anc=true\/∀w',Mod (ES r) w w'->R w w')
  (h0:(∀x,ok x->¬ left x)->Dw P N ds R rs K (FJ E d (.tuple #[.bool false])) w)
  (h:∀x a w1 cnt',ok x->left x->f x=some a->Mod (ES r) w w1->w1.heap.size=w.heap.size->cnt'<cnt->Xbf P k kv av w1 b r n f (λy=>left y/\y≠x) cnt'->(Instr.entry (ED r 0)).run P w1=.ok (.tuple #[kv x,av a]) w1->
   Dw P N ds R rs K (FJ E d (.tuple #[.bool true,kv x,av a])) w1) :
  Dw P N ds R ((⟨some d,.next it false,ty,pos,af,g⟩,.x,anc) :: rs) K E w:=by
 rcases hrg.next M ty with⟨hl,hr⟩|⟨x,a,w',cnt',hx,hlx,hfx,hr,h1,hlt,h2,hs,hen⟩
 ·refine HL (w':=w) (v:=.tuple #[.bool false]) hg ?_ (λe=>hR.elim (λh=>by rw[h]at e;cases e) (λh=>h _ (Mod.refl _ _))) (h0 hl);simp [execOp,hit,hr]
 ·refine HL (w':=w') (v:=.tuple #[.bool true,kv x,av a]) hg ?_ (λe=>hR.elim (λh=>by rw[h]at e;cases e) (λh=>h _ h2)) (h x a w' cnt' hx hlx hfx h2 hs hlt h1 hen);simp [execOp,hit,hr]
theorem SN {it:Operand}{dd:Option Tmp}{u1 u2:Value}(hit:ev E it=v)(hen:(Instr.entry v).run P w=.ok (.tuple #[u1,u2]) w):LV P ⟨dd,.entry it,ty,pos,af,g⟩ E w (.tuple #[u1,u2]):=by
 unfold LV;simp [execOp,hit,hen]
end
theorem EM.base_lt {α:Type}{enc:α->List Value}{sz:Nat}{w:World}{v:Value}{l:List α}(h:EM enc sz w v l)(hsz:0<sz)(hl:l≠[]):(base v).1<w.heap.size:=by
 cases l with
 | nil=>exact absurd rfl hl
 | cons x r=>exact h.blk hsz (x:=x) rfl
theorem Ya9 (x y:EC)(h:S x=S y):x=y:=by
 simpa [S]using h
theorem Mq {P:Program}{α:Type}{t k e:TypeId}{av:α->Value}(hu:P.underlying t=some (.map k e))(hk:P.underlying k=some .string)(ha:∀a b,av a=av b->a=b):MapK P t k e S av (λs=>s.length<=maxLen):=
 ⟨hu,string_keyed hk,λx J=>⟨_,WideMaps.keyOf_string_mk hk (s:=⟨⟨x⟩⟩) J⟩,λv l z=>by
  simp only [keyOf,hk]at z
  cases v<;>simp [mapKey,hk]at z
  rename_i s;obtain⟨h1,rfl⟩:=z;exact⟨s.data.toList,rfl,h1⟩,Ya9,ha⟩
section
variable {P:Program}{N:Nat}{ds:List (Option Tmp)}{R:World->World->Prop}{rs:List (Oper×Fl×Bool)}{K:Fg->World->Prop}{E:Fg}{w:World}
variable {d:Nat}{op:Op}{ty:TypeId}{pos:String}{af:Array Edge}{g:Option (Nat×Bool)}{anc:Bool}{v:Value}
theorem Xzc (w:World)(e:TypeId)(s:EC)(c:Nat):EM EP 1 (Lib.bytesWorld w e ⟨⟨s⟩⟩) (.slice (some ⟨w.heap.size,0,none⟩) s.length (max c s.length)) s:=by
 refine⟨.inr (.inl ⟨_,0,_,by rw[An],by rw[An];omega⟩),λi cs hi=>?_⟩;rw[AH]at hi;obtain⟨x,Y,rfl⟩:=Bd.1 hi;refine⟨rfl,λj u O=>?_⟩;have z:=(Ao.1 Y).1
 cases j with
 | succ j=>simp at O
 | zero=>
  have e2:u=.int .u8 (x.toNat:Int):=by simpa using O.symm
  rw[e2];have J:=Lib.bytesWorld_cell w e ⟨⟨s⟩⟩ i z;have Z:(⟨⟨s⟩⟩:ByteArray).data.toList.getD i 0=x:=by simp [List.getD,Y]
  rw[Z]at J;simpa [base]using J
theorem Mu {x:Operand}{T U e:Nat}{s:EC}(hg:FB ds E g=true)(hT:JJ P T=true)(hU:P.underlying U=some (.slice e))(he:P.underlying e=some (.int .u8))(hx:ev E x=S s)(hR:RX R anc)
  (h:∀b c w1,b=w.heap.size->EB w w1->EM EP 1 w1 (.slice (some ⟨b,0,none⟩) s.length c) s->Dw P N ds R rs K (FJ E d (.slice (some ⟨b,0,none⟩) s.length c)) w1):Dw P N ds R ((⟨some d,.convert T U x,ty,pos,af,g⟩,.x,anc) :: rs) K E w:=by
 have O:P.underlying T=some .string:=by
  unfold JJ at hT;split at hT<;>first|assumption|cases hT
 have hr:=Lib.run_convert_string_bytes w T U e ⟨⟨s⟩⟩ O hU he;have z:EB w (Lib.bytesWorld w e ⟨⟨s⟩⟩):=⟨rfl,rfl,rfl,by rw[Lib.bytesWorld_size];omega,λk hk _=>Lib.bytesWorld_at_old w e _ k hk⟩;have J:s.length<=grownCap w s.length 0 e:=by
  exact Nat.le_add_right _ _
 have Z:=Xzc w e s (grownCap w s.length 0 e);rw[Nat.max_eq_left J]at Z;refine HL (v:=.slice (some ⟨w.heap.size,0,none⟩) s.length (grownCap w s.length 0 e)) (w':=Lib.bytesWorld w e ⟨⟨s⟩⟩) hg ?_ (hR.use z) (h _ _ _ rfl z Z);have Y:(convert T U (S s)).run P w=.ok (.slice (some ⟨w.heap.size,0,none⟩) s.length (grownCap w s.length 0 e)) (Lib.bytesWorld w e ⟨⟨s⟩⟩):=hr;simp only [execOp,hx,Sem.run_bind,Y,Result.andThen_ok,Sem.run_pure,Gp]
theorem Yba (l:EC):l.flatMap EP=l.map λc=>Value.int .u8 c.toNat:=by
 induction l with
 | nil=>rfl
 | cons x r ih=>rw[AD,ih];rfl
theorem EM.row8 {v:Value}{l:EC}(h:EM EP 1 w v l):I6 w (base v).1 (base v).2 (l.map λc=>Value.int .u8 c.toNat):=λi u hi=>by
 rw[<-Yba]at hi;exact EM.flat (enc:=EP) (sz:=1) (λ_=>rfl) h i u hi
end
@[reducible] def A8 (l:EC):Value:=.agg ⟨l.map λc=>Value.int .u8 c.toNat⟩
end Go.Vc
namespace Go.Vc
open Go.RowKit
@[reducible] def b8 (c:UInt8):Value:=.int .u8 c.toNat
theorem N6 (n:Int):IntKind.u8.wrap n=n % 256:=by simp [IntKind.wrap,IntKind.bits,IntKind.signed]
theorem Xuj {a b:UInt8} : ((a.toNat:Int)=b.toNat)↔a=b:=⟨λh=>UInt8.toNat_inj.1 EA,λh=>by rw[h]⟩
theorem Xuk {a b:UInt8} : ((a.toNat:Int)<b.toNat)↔a<b:=by rw[UInt8.lt_iff_toNat_lt];omega
section
variable {P:Program}{E:Fg}{d:Option Tmp}{ty:TypeId}{pos:String}{af:Array Edge}{g:Option (Nat×Bool)}{w:World}{T U:TypeId}{x y:Operand}
theorem Qn {a b:UInt8}(hx:ev E x=b8 a)(hy:ev E y=b8 b):PV P ⟨d,.binOp .eql T x y U,ty,pos,af,g⟩ E (.bool (decide (a=b))):=by
 have:=G1 (P:=P) (d:=d) (ty:=ty) (pos:=pos) (af:=af) (g:=g) (T:=T) (U:=U) hx hy;rwa [show decide ((a.toNat:Int)=b.toNat)=decide (a=b) from decide_eq_decide.2 Xuj]at this
theorem Tx {a b:UInt8}(hx:ev E x=b8 a)(hy:ev E y=b8 b):PV P ⟨d,.binOp .lss T x y U,ty,pos,af,g⟩ E (.bool (decide (a<b))):=by
 have:=Fa (P:=P) (d:=d) (ty:=ty) (pos:=pos) (af:=af) (g:=g) (T:=T) (U:=U) hx hy;rwa [show decide ((a.toNat:Int)<b.toNat)=decide (a<b) from decide_eq_decide.2 Xuk]at this
theorem Pf (a:UInt8):AM 8 (a.toNat:Int)=a.toBitVec:=by
 apply BitVec.eq_of_toNat_eq
 rw[BitVec.toNat_ofInt];have:=a.toNat_lt;show((a.toNat:Int) % ((2 ^ 8:Nat):Int)).toNat=a.toNat;omega
theorem Ql {a b:UInt8}(hx:ev E x=b8 a)(hy:ev E y=b8 b):PV P ⟨d,.binOp .and T x y U,ty,pos,af,g⟩ E (b8 (a &&& b)):=by
 have:=Lz (P:=P) (dd:=d) (ty:=ty) (pos:=pos) (af:=af) (g:=g) (T:=T) (U:=U) (op:=.and) (.inl rfl) hx hy;rwa [show Kw .and .u8 (a.toNat:Int) b.toNat=((a &&& b).toNat:Int) by
  show IntKind.u8.wrap ((AM 8 (a.toNat:Int) &&& AM 8 (b.toNat:Int)).toNat:Int)=_;rw[Pf,Pf,N6];have:=(a &&& b).toNat_lt;show(((a &&& b).toNat:Int)) % 256=_;omega]at this
theorem UN {a b:UInt8}(hx:ev E x=b8 a)(hy:ev E y=b8 b):PV P ⟨d,.binOp .or T x y U,ty,pos,af,g⟩ E (b8 (a ||| b)):=by
 have:=Lz (P:=P) (dd:=d) (ty:=ty) (pos:=pos) (af:=af) (g:=g) (T:=T) (U:=U) (op:=.or) (.inr (.inl rfl)) hx hy;rwa [show Kw .or .u8 (a.toNat:Int) b.toNat=((a ||| b).toNat:Int) by
  show IntKind.u8.wrap ((AM 8 (a.toNat:Int) ||| AM 8 (b.toNat:Int)).toNat:Int)=_;rw[Pf,Pf,N6];have:=(a ||| b).toNat_lt;show(((a ||| b).toNat:Int)) % 256=_;omega]at this
theorem Xzd {a:UInt8}(hx:ev E x=b8 a)(hT:(P.underlying T).isSome=true)(hU:H3 P U=some .i64):PV P ⟨d,.convert T U x,ty,pos,af,g⟩ E (I a.toNat):=by
 have:=JB (P:=P) (d:=d) (ty:=ty) (pos:=pos) (af:=af) (g:=g) hx hT hU;rwa [KT (by have:=a.toNat_lt;unfold ET;omega)]at this
theorem QN {n:Nat}{k:IntKind}(hx:ev E x=.int k n)(hT:(P.underlying T).isSome=true)(hU:H3 P U=some .u8):PV P ⟨d,.convert T U x,ty,pos,af,g⟩ E (b8 (AN n)):=by
 have:=JB (P:=P) (d:=d) (ty:=ty) (pos:=pos) (af:=af) (g:=g) hx hT hU;rwa [show IntKind.u8.wrap (n:Int)=((AN n).toNat:Int) by rw[N6];simp]at this
theorem Xze {x y:Operand}{a:EC}{i:Nat}{c:UInt8}(hT:JJ P T=true)(hx:ev E x=S a)(hy:ev E y=I i)(hi:a[i]?=some c):PV P ⟨d,.index T x y,ty,pos,af,g⟩ E (b8 c):=RB hT hx hy hi
end
section
variable {P:Program}{n:Nat}{ds:List (Option Tmp)}{R:World->World->Prop}{r:List (Oper×Fl×Bool)}{K:Fg->World->Prop}{E:Fg}{w:World}
variable {d:Nat}{op:Op}{ty:TypeId}{pos:String}{af:Array Edge}{g:Option (Nat×Bool)}{anc:Bool}{v v':Value}
theorem dm {x:Operand}(h:Dw P n ds R r K (FJ E d v) w)(hg:FB ds E g=true:=by rfl)(hx:ev E x=v:=by conv=>lhs;whnf):Dw P n ds R ((⟨some d,.move x,ty,pos,af,g⟩,.p,anc) :: r) K E w:=Ycb hg hx h
theorem da {x:Operand}(h:Dw P n ds R r K (FJ E d v) w)(hg:FB ds E g=true:=by rfl)(hx:ev E x=v:=by conv=>lhs;whnf):Dw P n ds R ((⟨some d,.assign x,ty,pos,af,g⟩,.p,anc) :: r) K E w:=Ycc hg hx h
theorem dk {f:Fl}(h:Dw P n ds R r K (FJ E d undef) w)(hg:FB ds E g=false:=by rfl):Dw P n ds R ((⟨some d,op,ty,pos,af,g⟩,f,anc) :: r) K E w:=X8l hg h
theorem dp (hv:PV P ⟨some d,op,ty,pos,af,g⟩ E v)(h:Dw P n ds R r K (FJ E d v) w)(hg:FB ds E g=true:=by rfl):Dw P n ds R ((⟨some d,op,ty,pos,af,g⟩,.p,anc) :: r) K E w:=JS hg hv h
theorem dq (hv:LV P ⟨some d,op,ty,pos,af,g⟩ E w v)(h:Dw P n ds (λa b=>a=b) r K (FJ E d v) w)(hg:FB ds E g=true:=by rfl):Dw P n ds (λa b=>a=b) ((⟨some d,op,ty,pos,af,g⟩,.l,anc) :: r) K E w:=TC hg hv h
theorem dn {x:Operand}{T:TypeId}{b:Bool}(h:Dw P n ds R r K (FJ E d v) w)(hg:FB ds E g=true:=by rfl)(hx:ev E x=.bool b:=by rfl)(hn:Value.bool (!b)=v:=by conv=>lhs;whnf):Dw P n ds R ((⟨some d,.unOp .not T x,ty,pos,af,g⟩,.p,anc) :: r) K E w:=EW hg (X8j hx) hn h
theorem EO {c a b:Operand}{t:Bool}{x y:Value}(h:Dw P n ds R r K (FJ E d v) w)(hg:FB ds E g=true:=by rfl)(hc:ev E c=.bool t:=by rfl)(ha:ev E a=x:=by rfl)(hb:ev E b=y:=by rfl)(hn:(if t then x else y)=v:=by conv=>lhs;whnf):Dw P n ds R ((⟨some d,.pick c a b,ty,pos,af,g⟩,.p,anc) :: r) K E w:=EW hg (X4l hc ha hb) hn h
def flOf : Op->Fl
 | .load .. | .lookup .. | .entry ..=>.l
 | .move .. | .assign .. | .pick .. | .nilCheck .. | .binOp .. | .unOp .. | .convert .. | .slice .. | .fieldAddr .. | .field .. | .indexAddr .. | .index .. | .extract .. | .build .. | .makeInterface .. | .makeFunc .. | .sliceToArrayPointer ..=>.p
 | .call c=>(match c.callee with | .builtin .len | .builtin .cap | .builtin .min | .builtin .max=>.p|_=>.x)
 | _=>.x
def NC : List Oper->List Fl
 | []=>[]
 | o :: r=>flOf o.op :: NC r
theorem Wn : ∀l:List Oper,(NC l).length=l.length
 | []=>rfl
 | o :: r=>by simp [NC,Wn r]
theorem wr {id:Nat}{l:List Oper}{Q:Exit->Fg->World->Prop}(h:Dw P n (l.map (·.dst)) (λa b=>a=b) (ME l (NC l)) (λE w=>Q .normal E w) E w):W P n (.region id l.toArray false) Q E w:=
 KR (NC l) (by rw[Wn];simp) h
theorem ro {fn:Func}{t:Nat}{R:Ending->World->Prop}(h:R (.returned v) w)(hr:fn.results=#[.tmp t]:=by rfl)(ht:AR t n=true:=by rfl)(hv:E t=v:=by conv=>lhs;whnf):Jr P fn n R .ret E w:=X4q hr ht hv h
theorem rt {fn:Func}{t s:Nat}{u:Value}{R:Ending->World->Prop}(h:R (.returned (.tuple #[v,u])) w)(hr:fn.results=#[.tmp t,.tmp s]:=by rfl)(ht:AR t n=true:=by rfl)(hs:AR s n=true:=by rfl)(hv:E t=v:=by conv=>lhs;whnf)(hu:E s=u:=by conv=>lhs;whnf):Jr P fn n R .ret E w:=X4r hr ht hs hv hu h
theorem cw {f:FuncId}{fn:Func}{c:Code}{az:List Value}{R:Ending->World->Prop}(hf:P.funcs[f]?=some fn)(h:W P n c (Jr P fn n R) (KU az 0 (λ_=>undef)) w)(hb:fn.body=some c:=by rfl)(hn:fn.ntmps=n:=by rfl)(hle:CC az.length n=true:=by rfl)(ok:Jt n c=true:=by kernel_rfl):Calls P f az.toArray w R:=X4j hf hb hn hle ok h
theorem ws {x y:Code}{Q:Exit->Fg->World->Prop}(h:∀K:Fg->World->Prop,(∀E w,W P n y Q E w->K E w)->W P n x (Ic K Q) E w):W P n (.seq x y) Q E w:=We h
theorem wi {Q:Exit->Fg->World->Prop}{c:Operand}{x y:Code}{p:Prop}[Decidable p](ht:p->W P n x Q E w)(hf:¬ p->W P n y Q E w)(hc:ev E c=.bool (decide p):=by rfl):W P n (.cond c x y) Q E w:=Yca hc ht hf
theorem wc {Q:Exit->Fg->World->Prop}{c:Operand}{x y:Code}{t:Bool}(ht:t=true->W P n x Q E w)(hf:t=false->W P n y Q E w)(hc:ev E c=.bool t:=by rfl):W P n (.cond c x y) Q E w:=Pg hc ht hf
theorem di {x y:Operand}{T m i:Nat}(e k:Nat)(hv:FW v m)(hy:ev E y=I i)(hi:i<m)(h:Dw P n ds R r K (FJ E d (ED (base v).1 ((base v).2+i*k))) w)(hg:FB ds E g=true:=by rfl)(hx:ev E x=v:=by rfl)(hT:IK P T=some (e,k):=by kernel_rfl):Dw P n ds R ((⟨some d,.indexAddr T x y,ty,pos,af,g⟩,.p,anc) :: r) K E w:=JS hg (HM hT hv hx hy hi) h
theorem dv {x:Operand}{T m:Nat}(e k:Nat)(hv:FW v m)(h:Dw P n ds R r K (FJ E d (I m)) w)(hg:FB ds E g=true:=by rfl)(hx:ev E x=v:=by rfl)(hT:IK P T=some (e,k):=by kernel_rfl):Dw P n ds R ((⟨some d,.call { callee:=.builtin .len,args:=#[x],argTypes:=#[T] },ty,pos,af,g⟩,.p,anc) :: r) K E w:=JS hg (Q6 hT hv hx) h
theorem dt {x:Operand}{T:TypeId}{a:EC}(hx:ev E x=S a)(h:Dw P n ds R r K (FJ E d (I a.length)) w)(hg:FB ds E g=true:=by rfl)(hT:JJ P T=true:=by kernel_rfl):Dw P n ds R ((⟨some d,.call { callee:=.builtin .len,args:=#[x],argTypes:=#[T] },ty,pos,af,g⟩,.p,anc) :: r) K E w:=JS hg (X4n hT hx) h
theorem dx {x:Operand}{i:Nat}{vs:List Value}(hx:ev E x=.tuple ⟨vs⟩)(hv:vs[i]?=some v)(h:Dw P n ds R r K (FJ E d v) w)(hg:FB ds E g=true:=by rfl):Dw P n ds R ((⟨some d,.extract x i,ty,pos,af,g⟩,.p,anc) :: r) K E w:=JS hg (T2 hx hv) h
theorem dz {x:Operand}{a:Addr}(hx:ev E x=.pointer (some a))(h:Dw P n ds R r K (FJ E d (.pointer (some a))) w)(hg:FB ds E g=true:=by rfl):Dw P n ds R ((⟨some d,.nilCheck x,ty,pos,af,g⟩,.p,anc) :: r) K E w:=JS hg (X4o hx) h
theorem cP {f:Nat}{az:List Operand}{ats:Array TypeId}{vs:List Value}(hc:Calls P f vs.toArray w (Pure w v))(hR:RX R anc)(h:∀w1,EB w w1->Dw P n ds R r K (FJ E d v) w1)(hg:FB ds E g=true:=by rfl)(hf:GL P f=true:=by kernel_rfl)(ha:az.map (ev E)=vs:=by rfl):Dw P n ds R ((⟨some d,.call { callee:=.value (.func f),args:=az.toArray,argTypes:=ats },ty,pos,af,g⟩,.x,anc) :: r) K E w:=X4p hg hf hc ha hR h
theorem cG {f:Nat}{az:List Operand}{ats:Array TypeId}{vs:List Value}{F:Value->World->Prop}(hc:Calls P f vs.toArray w (ER w F))(hR:RX R anc)(h:∀v w1,EB w w1->F v w1->Dw P n ds R r K (FJ E d v) w1)(hg:FB ds E g=true:=by rfl)(hf:GL P f=true:=by kernel_rfl)(ha:az.map (ev E)=vs:=by rfl):Dw P n ds R ((⟨some d,.call { callee:=.value (.func f),args:=az.toArray,argTypes:=ats },ty,pos,af,g⟩,.x,anc) :: r) K E w:=Ti hg hf hc ha hR h
theorem cD {S:Nat->Prop}{f:Nat}{az:List Operand}{ats:Array TypeId}{vs:List Value}{F:Value->World->Prop}(hc:Calls P f vs.toArray w (Fh S w F))(hR:anc=true\/∀w',Mod S w w'->R w w')(h:∀v w1,Mod S w w1->F v w1->Dw P n ds R r K (FJ E d v) w1)(hg:FB ds E g=true:=by rfl)(hf:GL P f=true:=by kernel_rfl)(ha:az.map (ev E)=vs:=by rfl):Dw P n ds R ((⟨some d,.call { callee:=.value (.func f),args:=az.toArray,argTypes:=ats },ty,pos,af,g⟩,.x,anc) :: r) K E w:=JT hg hf hc ha hR h
theorem de {K1:Fg->World->Prop}{y:Code}{Q:Exit->Fg->World->Prop}(hK:∀E w,W P n y Q E w->K1 E w)(h:W P n y Q E w):Dw P n ds R [] K1 E w:=hK E w h
theorem df {x:Operand}{T f o b:Nat}(k:Nat)(hx:ev E x=ED b o)(h:Dw P n ds R r K (FJ E d (ED b (o+k))) w)(hg:FB ds E g=true:=by rfl)(hT:MD P T f=some k:=by kernel_rfl):Dw P n ds R ((⟨some d,.fieldAddr T x f,ty,pos,af,g⟩,.p,anc) :: r) K E w:=JS hg (Xt6 hT hx) h
theorem dl {x:Operand}{T b o:Nat}(hx:ev E x=ED b o)(hc:w.cell? ⟨b,o,none⟩=some v)(h:Dw P n ds (λa b=>a=b) r K (FJ E d v) w)(hg:FB ds E g=true:=by rfl)(hT:Ln P T=true:=by kernel_rfl):Dw P n ds (λa b=>a=b) ((⟨some d,.load T x,ty,pos,af,g⟩,.l,anc) :: r) K E w:=TC hg (MA hT hx hc) h
theorem dL {x:Operand}{T b o:Nat}(hx:ev E x=ED b o)(hc:∀w',R w w'->w'.cell? ⟨b,o,none⟩=some v)(h:Dw P n ds R r K (FJ E d v) w)(hg:FB ds E g=true:=by rfl)(hT:Ln P T=true:=by kernel_rfl):Dw P n ds R ((⟨some d,.load T x,ty,pos,af,g⟩,.l,anc) :: r) K E w:=FK hg (λw' z=>MA hT hx (hc w' z)) h
theorem pa {x y:Operand}{T U:TypeId}{a b:Int}(hx:ev E x=I a)(hy:ev E y=I b)(h:Dw P n ds R r K (FJ E d (I (a+b))) w)(hI:ET (a+b):=by unfold ET;omega)(hg:FB ds E g=true:=by rfl):Dw P n ds R ((⟨some d,.binOp .add T x y U,ty,pos,af,g⟩,.p,anc) :: r) K E w:=JS hg (Gx hx hy hI) h
theorem ps {x y:Operand}{T U:TypeId}{a b:Int}(hx:ev E x=I a)(hy:ev E y=I b)(h:Dw P n ds R r K (FJ E d (I (a-b))) w)(hI:ET (a-b):=by unfold ET;omega)(hg:FB ds E g=true:=by rfl):Dw P n ds R ((⟨some d,.binOp .sub T x y U,ty,pos,af,g⟩,.p,anc) :: r) K E w:=JS hg (Ga hx hy hI) h
theorem G5 {a x:Operand}{T T' b o:Nat}{cs:List Value}(hb:EL w b cs T')(h:∀w1,Mod (ES b) w w1->w1.heap.size=w.heap.size->EL w1 b (cs.set o v) T'->Dw P n ds R r K E w1)(hg:FB ds E g=true:=by rfl)(ha:ev E a=ED b o:=by rfl)(hx:ev E x=v:=by conv=>lhs;whnf)(hv:v.oneCell'=true:=by rfl)(hs:Mw P T=some 1:=by kernel_rfl)(ho:o<cs.length:=by exact Ap rfl)(hR:anc=true\/∀w',Mod (ES b) w w'->R w w':=by exact .inl rfl):Dw P n ds R ((⟨none,.store T a x,ty,pos,af,g⟩,.x,anc) :: r) K E w:=M5 hg ha hx hv hs hb ho hR h
theorem FM {a x:Operand}{T T' b o:Nat}{cs vs:List Value}(hb:EL w b cs T')(h:∀w1,Mod (ES b) w w1->w1.heap.size=w.heap.size->EL w1 b (Fe cs o vs) T'->Dw P n ds R r K E w1)(hg:FB ds E g=true:=by rfl)(ha:ev E a=ED b o:=by rfl)(hx:ev E x=v:=by conv=>lhs;whnf)(hv:v.cells=⟨vs⟩:=by exact rfl)(hs:Mw P T=some vs.length:=by kernel_rfl)(ho:o+vs.length<=cs.length:=by exact Ap rfl)(h1:∀v∈vs,v.oneCell'=true:=by simp [Value.oneCell'])(hR:anc=true\/∀w',Mod (ES b) w w'->R w w':=by exact .inl rfl):Dw P n ds R ((⟨none,.store T a x,ty,pos,af,g⟩,.x,anc) :: r) K E w:=Mf hg ha hx hv hs hb ho h1 hR h
theorem db {T:Nat}{ps:List (Nat×Operand)}{zs cs:List Value}{pl:List (Nat×Nat)}{pv:List (Nat×Value)}(h:Dw P n ds R r K (FJ E d (.agg ⟨cs⟩)) w)(hg:FB ds E g=true:=by rfl)(hz:Kx P T=some zs:=by kernel_rfl)(hp:RM P T=some pl:=by kernel_rfl)(hv:Kr E ps pv:=by repeat' (first|exact trivial|refine⟨rfl,?_,?_⟩|(conv=>lhs;whnf)))(hf:Hw (λi=>pl[i]?) zs pv=some cs:=by rfl):Dw P n ds R ((⟨some d,.build T ps.toArray,ty,pos,af,g⟩,.p,anc) :: r) K E w:=JS hg (Nk hz hp hv hf) h
theorem li {t e sz m:Nat}{ps:List (Nat×Operand)}{zs cs:List Value}{pv:List (Nat×Value)}(hR:RX R anc)(h:∀b w1,b=w.heap.size->EB w w1->EL w1 b cs e->Dw P n ds R r K (FJ E d (.slice (some ⟨b,0,none⟩) m m)) w1)(hg:FB ds E g=true:=by rfl)(ht:IK P t=some (e,sz):=by kernel_rfl)(hm:AR 0 (m*sz)=true/\CC (m*sz) 16777216=true:=by exact⟨rfl,rfl⟩)(hz:Kx P e=some zs:=by kernel_rfl)(hzs:Bq zs.length sz=true:=by rfl)(hv:Kr E ps pv:=by repeat' (first|exact trivial|refine⟨rfl,?_,?_⟩|(conv=>lhs;whnf)))(hf:Hw (λi=>some (i*sz,sz)) ((Aw m zs).flatten) pv=some cs:=by rfl):Dw P n ds R ((⟨some d,.buildSlice t m ps.toArray,ty,pos,af,g⟩,.x,anc) :: r) K E w:=Ib hg ht hm hz hzs hv hf hR h
end
section
variable {a b c w w':World}{i j:Nat}{S T:Nat->Prop}{cs:List Value}{t:TypeId}{α:Type}{enc:α->List Value}{sz B Ty:Nat}{v:Value}{l:List α}
theorem EB.ge (h:EB a b)(e:i=b.heap.size):a.heap.size<=i:=by have:=h.size;omega
theorem Mod.ge (h:Mod T a b)(e:i=b.heap.size):a.heap.size<=i:=by have:=h.size;omega
theorem EL.ltb (h:EL w j cs t)(e:i=w.heap.size):j<i:=by have:=h.lt;omega
theorem Own.ltb (h:Own enc sz Ty B w v l)(e:i=w.heap.size):∀k,v.ownBlock=some k->k<i:=λk hk=>by have:=(h.lt k hk).2;omega
theorem EB.o1 (h:EB a b)(k:Mod (ES i) b c)(hi:a.heap.size<=i:=by omega):EB a c:=h.own k (λj z=>by have:j=i:=z;omega)
theorem Mod.o1 (h:Mod T a b)(k:Mod (ES i) b c)(hi:a.heap.size<=i:=by omega):Mod T a c:=h.own k (λj z hlt=>by have:j=i:=z;omega)
theorem EL.mo (h:EL w j cs t)(m:Mod (ES i) w w')(hn:¬ ES i j:=by first|assumption|(intro h;have h2:_=_:=h;omega)):EL w' j cs t:=h.mod m hn
theorem EJ (e:w'=w.drew):EB w w':=by rw[e];exact EB.drew _
end
end Go.Vc
namespace Go.Sp
open Go.Vc
abbrev EU (a b:EC):Bool:=Op.bytesLess a b
theorem HZ : ∀a:EC,EU a a=false
 | []=>rfl
 | c :: r=>by
  have:=HZ r;simp only [EU]at this;simp [EU,Op.bytesLess,this]
theorem IZ : ∀a b c:EC,EU a b=true->EU b c=true->EU a c=true
 | _,[],_,h,_=>by simp [EU,Op.bytesLess]at h
 | _,_ :: _,[],_,h=>by simp [EU,Op.bytesLess]at h
 | [],_ :: _,_ :: _,_,_=>rfl
 | x :: a,y :: b,z :: c,h1,h2=>by
  have J:=IZ a b c;simp only [EU,Op.bytesLess,BE,Au,decide_eq_true_eq,beq_iff_eq]at *;rcases h1 with h1|⟨rfl,h1⟩
  ·rcases h2 with h2|⟨rfl,h2⟩
   ·exact .inl (UInt8.lt_trans h1 h2)
   ·exact .inl h1
  ·rcases h2 with h2|⟨rfl,h2⟩
   ·exact .inl h2
   ·exact .inr ⟨rfl,J h1 h2⟩
theorem Jm : ∀a b:EC,a=b\/EU a b=true\/EU b a=true
 | [],[]=>.inl rfl
 | [],_ :: _=>.inr (.inl rfl)
 | _ :: _,[]=>.inr (.inr rfl)
 | x :: a,y :: b=>by
  have z:=Jm a b;simp only [EU,Op.bytesLess,BE,Au,decide_eq_true_eq,beq_iff_eq]at *
  by_cases h1:x<y
  ·exact .inr (.inl (.inl h1))
  ·by_cases h2:y<x
   ·exact .inr (.inr (.inl h2))
   ·have e:x=y:=UInt8.le_antisymm (CU.1 h2) (CU.1 h1);subst e;rcases z with rfl|h|h
    ·exact .inl rfl
    ·exact .inr (.inl (.inr ⟨rfl,h⟩))
    ·exact .inr (.inr (.inr ⟨rfl,h⟩))
theorem Jp {a b:EC}(h:EU a b=true):EU b a=false:=by
 cases hb:EU b a with
 | false=>rfl
 | true=>have:=IZ a b a h hb;rw[HZ]at this;cases this
theorem Ms {a b:EC}(h:EU a b=true):a≠b:=λe=>by rw[e,HZ]at h;cases h
structure Cell where
 key:EC
 val:EC
 del:Bool
 seq:Int
deriving DecidableEq
@[reducible] def Cell.cs (c:Cell):List Value:=[S c.key,S c.val,B c.del,I c.seq]
@[reducible] def Cell.v (c:Cell):Value:=.agg ⟨c.cs⟩
def Cell.zero : Cell:=⟨[],[],false,0⟩
def EZ (a b:Cell):Bool:=if a.key≠b.key then EU a.key b.key else decide (b.seq<a.seq)
theorem Xpe (a:Cell):EZ a a=false:=by simp [EZ]
theorem IT (a b:Cell):EZ a b=true↔(EU a.key b.key=true\/(a.key=b.key/\b.seq<a.seq)):=by
 unfold EZ
 by_cases e:a.key=b.key
 ·simp [e,HZ]
 ·rw[if_pos e];simp [e]
theorem MI {a b c:Cell}(h1:EZ a b=true)(h2:EZ b c=true):EZ a c=true:=by
 rw[IT]at *;rcases h1 with h1|⟨e1,h1⟩
 ·rcases h2 with h2|⟨e2,h2⟩
  ·exact .inl (IZ _ _ _ h1 h2)
  ·exact .inl (e2▸h1)
 ·rcases h2 with h2|⟨e2,h2⟩
  ·exact .inl (e1▸h2)
  ·exact .inr ⟨e1.trans e2,by omega⟩
theorem Xs5 {a b:Cell}(h:EZ a b=true):EZ b a=false:=by
 cases hb:EZ b a with
 | false=>rfl
 | true=>have:=MI h hb;rw[Xpe]at this;cases this
theorem PL {a b:Cell}(h1:EZ a b=false)(h2:EZ b a=false):a.key=b.key/\a.seq=b.seq:=by
 have n1:¬ EZ a b=true:=by rw[h1];decide
 have n2:¬ EZ b a=true:=by rw[h2];decide
 rw[IT,not_or]at n1 n2;rcases Jm a.key b.key with h|h|h
 ·refine⟨h,?_⟩;have m1:¬ b.seq<a.seq:=λx=>n1.2 ⟨h,x⟩;have m2:¬ a.seq<b.seq:=λx=>n2.2 ⟨h.symm,x⟩;omega
 ·exact absurd h n1.1
 ·exact absurd h n2.1
theorem RV {a b:Cell}(h1:a.key=b.key)(h2:a.seq=b.seq):EZ a b=false:=by simp [EZ,h1,h2]
def Ge (c:Cell):Bool:=decide (1<=c.key.length) && decide (c.key.length<=4096) && decide (c.val.length<=16384) && (!c.del || decide (c.val=[])) && decide (1<=c.seq) && decide (c.seq<=1099511627776)
def Gn (c:Cell):Nat:=c.key.length+c.val.length+16
def GS (l:List Cell):Nat:=(l.map Gn).sum
def first (l:List Cell)(key:EC)(seq:Int):Option Cell:=l.find? λc=>decide (c.key=key) && decide (c.seq<=seq)
def JC (frm to:EC)(c:Cell):Bool:=!EU c.key frm && (decide (to=[]) || EU c.key to)
def scan (l:List Cell)(frm to:EC):List Cell:=l.filter (JC frm to)
def pre (l:List Cell)(c:Cell):List Cell:=l.takeWhile (EZ · c)
def H2 (l:List Cell)(c:Cell):List Cell:=l.dropWhile (EZ · c)
theorem M7 (l:List Cell)(c:Cell):pre l c++H2 l c=l:=List.takeWhile_append_dropWhile ..
def has (l:List Cell)(c:Cell):Bool:=match H2 l c with
 | s :: _=>decide (s.key=c.key) && decide (s.seq=c.seq)
 | []=>false
def put (l:List Cell)(c:Cell):Bool×List Cell:=if !Ge c || has l c then(false,l)else(true,pre l c++c :: H2 l c)
def Fv : List Cell->Prop:=List.Pairwise λa b=>EZ a b=true
theorem Fv.put {l:List Cell}(h:Fv l)(c:Cell):Fv (put l c).2:=by
 unfold Sp.put;split
 ·exact h
 ·rename_i Y;simp only [BE,not_or,BY]at Y;have hg:=M7 l c;have h':Fv (pre l c++H2 l c):=by rw[hg];exact h
  have hp:∀x∈pre l c,EZ x c=true:=λx O=>(AU.1 (List.all_takeWhile (p:=λx=>EZ x c) (l:=l)) x O);have z:=Bs.1 h';have hs:∀x∈H2 l c,EZ c x=true:=by
   cases hsu:H2 l c with
   | nil=>intro x O;cases O
   | cons s r=>
    have hf:EZ s c=false:=by
     have:=List.head?_dropWhile_not (λx=>EZ x c) l;rw[show List.dropWhile (λx=>EZ x c) l=H2 l c from rfl,hsu]at this;simpa using this
    have J:EZ c s=true:=by
     cases J:EZ c s with
     | true=>rfl
     | false=>
      have ht:=PL hf J;have hh:has l c=true:=by unfold has;rw[hsu];simp [ht]
      rw[hh]at Y;cases Y.2
    intro x O;rcases Aj.1 O with rfl|O
    ·exact J
    ·have:=z.2.1;rw[hsu]at this;exact MI J (List.rel_of_pairwise_cons this O)
  refine Bs.2 ⟨z.1,List.pairwise_cons.2 ⟨hs,z.2.1⟩,λa ha b Z=>?_⟩;rcases Aj.1 Z with rfl|Z
  ·exact hp a ha
  ·exact z.2.2 a ha b Z
end Go.Sp
