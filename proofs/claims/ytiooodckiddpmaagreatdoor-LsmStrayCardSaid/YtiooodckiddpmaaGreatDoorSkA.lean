/-
 A part of the proof: VcA VcB VcC VcD VcE VcF VcM VcN VcW SpMem SpOct VcV VcU.
-/
import Derived.WalkKit
import Derived.OrdersHeld
import Derived.Maps.OwnSet
import Derived.Maps.RangeWalk
import Derived.Maps.Views
import Derived.Lib.ConvBytes
import Derived.DeepKeys4
import Derived.KernelRfl
import Derived.Lib.Builder
import Derived.Lib.UnsafeStr
import Derived.Laws.Externs
import Derived.Lib.AppendStr
open List renaming length_append->Aa,mem_singleton->Ah,mem_cons->Aj,mem_cons_self->Al,mem_cons_of_mem->Am,map_cons->An,length_map->Ao,getElem?_eq_some_iff->Ap,getElem?_eq_getElem->Ar,replicate->Ax,eq_nil_of_length_eq_zero->A4,flatMap_cons->AB,getElem?_map->AD,nil_append->AE,cons_append->AT,flatMap_append->AU,getElem?_take->AW,all_eq_true->AY,map_nil->Be,getElem?_eq_none->Bm,pairwise_append->Bs,getElem?_append_left->Bt,getElem?_drop->Bz,getElem?_append_right->BE,map_toArray->BY,foldlM->C1,replicate_succ->CG,mapM_cons->Dv,flatten_cons->Dy
open Nat renaming le_refl->Ab,zero_le->Ae,le_trans->Ai,le_of_ble_eq_true->Av,zero_add->A9,blt->AR,succ_mul->AZ,mod_lt->Bd,beq->Bj,lt_or_ge->Bk,blt_eq->Bq,mul_comm->Bu,mod_eq_of_lt->B0,add_assoc->BN,add_zero->BX,add_mul->Co,mul_le_mul_left->C0,eq_of_beq_eq_true->CE,ble->CF,pow_succ->CI,mul_one->Dz
open Bool renaming and_eq_true->Au,or_eq_true->BM,not_eq_true'->BO,false_or->Cm,not_true->Cx
open Option renaming some->A0,map_eq_some_iff->Bb,map_some->Br,bind_some->Cl,map_none->Cn,bind_eq_some_iff->CT,map->CU
open UInt8 renaming ofNat->AJ,not_lt->CV,toNat->DY
open UInt32 renaming ofNat->AL
open BitVec renaming ofInt->AN
open Prod renaming mk->Bl
open Int renaming toNat_natCast->B7
open Array renaming all_eq_true_iff_forall_mem->Ck,replicate->Cw,getElem_ofFn->CR,mem_of_getElem?->Dt,getElem?_eq_none->DV,ext'->DW,range->DX
set_option maxRecDepth 100000
set_option maxHeartbeats 4000000
set_option linter.unusedVariables false
set_option linter.unusedSimpArgs false
theorem P8 {A : Type} {a : A} : a = a /\ True := ⟨rfl, trivial⟩
theorem Lo {A B : Type} {a : A} {b : B} : a = a /\ b = b /\ True := ⟨rfl, rfl, trivial⟩
theorem Hd {A B C : Type} {a : A} {b : B} {c : C} : a = a /\ b = b /\ c = c /\ True := ⟨rfl, rfl, rfl, trivial⟩
theorem Gc {A B C D : Type} {a : A} {b : B} {c : C} {d : D} : a = a /\ b = b /\ c = c /\ d = d /\ True := ⟨rfl, rfl, rfl, rfl, trivial⟩
theorem FN {A B C D E : Type} {a : A} {b : B} {c : C} {d : D} {e : E} : a = a /\ b = b /\ c = c /\ d = d /\ e = e /\ True := ⟨rfl, rfl, rfl, rfl, rfl, trivial⟩
theorem G2 {A B C D E F : Type} {a : A} {b : B} {c : C} {d : D} {e : E} {f : F} : a = a /\ b = b /\ c = c /\ d = d /\ e = e /\ f = f /\ True := ⟨rfl, rfl, rfl, rfl, rfl, rfl, trivial⟩
theorem Gb {A B C D E F G : Type} {a : A} {b : B} {c : C} {d : D} {e : E} {f : F} {g : G} : a = a /\ b = b /\ c = c /\ d = d /\ e = e /\ f = f /\ g = g /\ True := ⟨rfl, rfl, rfl, rfl, rfl, rfl, rfl, trivial⟩
theorem KV {A B C D E F G H : Type} {a : A} {b : B} {c : C} {d : D} {e : E} {f : F} {g : G} {h : H} : a = a /\ b = b /\ c = c /\ d = d /\ e = e /\ f = f /\ g = g /\ h = h /\ True := ⟨rfl, rfl, rfl, rfl, rfl, rfl, rfl, rfl, trivial⟩
theorem Ji {A B C D E F G H I : Type} {a : A} {b : B} {c : C} {d : D} {e : E} {f : F} {g : G} {h : H} {i : I} : a = a /\ b = b /\ c = c /\ d = d /\ e = e /\ f = f /\ g = g /\ h = h /\ i = i /\ True := ⟨rfl, rfl, rfl, rfl, rfl, rfl, rfl, rfl, rfl, trivial⟩
theorem Ig {A B C D E F G H I J : Type} {a : A} {b : B} {c : C} {d : D} {e : E} {f : F} {g : G} {h : H} {i : I} {j : J} : a = a /\ b = b /\ c = c /\ d = d /\ e = e /\ f = f /\ g = g /\ h = h /\ i = i /\ j = j /\ True := ⟨rfl, rfl, rfl, rfl, rfl, rfl, rfl, rfl, rfl, rfl, trivial⟩
theorem MP {A B C D E F G H I J K : Type} {a : A} {b : B} {c : C} {d : D} {e : E} {f : F} {g : G} {h : H} {i : I} {j : J} {k : K} : a = a /\ b = b /\ c = c /\ d = d /\ e = e /\ f = f /\ g = g /\ h = h /\ i = i /\ j = j /\ k = k /\ True := ⟨rfl, rfl, rfl, rfl, rfl, rfl, rfl, rfl, rfl, rfl, rfl, trivial⟩
theorem EB {p : Prop} (h : p := by omega) : p := h
theorem EA {p : Prop} (h : p := by kernel_rfl) : p := h
theorem EN {p : Prop} (h : p := by decide) : p := h
theorem EF {p : Prop} (h : p := by intro x; rfl) : p := h
theorem ER {p : Prop} (h : p := by simp) : p := h
theorem Fw {α : Type} {l : List α} {i : Nat} (h : i < l.length := by omega) : ∃ x, l[i]? = some x := ⟨_, Ar h⟩
namespace Go.Vc
open Go.RowKit
abbrev Fh := Nat->Value
def FT (E:Fh)(d:Nat)(v:Value):Fh:=λk=>cond (Bj k d) v (E k)
def Gu (E:Fh):Option Tmp->Value->Fh
 | some d,v=>FT E d v
 | none,_=>E
def ev (E:Fh):Operand->Value
 | .tmp t=>E t
 | .const v=>v
 | .global g=>.pointer (some ⟨g,0,none⟩)
 | .func f=>.func (.func f) #[] #[]
def GU (n:Nat)(E:Fh):Act:=⟨Array.ofFn (n:=n) λi=>E i.val,[]⟩
theorem TO (E:Fh)(d:Nat)(v:Value):FT E d v d=v:=by simp [FT]
theorem Pk {a b:Nat}(h:a≠b):Bj a b=false:=by
 cases hb:Bj a b with
 | false=>rfl
 | true=>exact absurd (CE hb) h
theorem U0 (E:Fh){d k:Nat}(v:Value)(h:k≠d):FT E d v k=E k:=by simp [FT,Pk h]
theorem Q4 (E:Fh)(d:Nat)(v:Value)(h:E d=v):FT E d v=E:=by
 funext k
 by_cases hk:k=d
 ·subst hk;rw[TO,h]
 ·rw[U0 _ _ hk]
def MO (n:Nat):Operand->Bool
 | .tmp t=>AR t n
 | _=>true
theorem X4g (n:Nat)(E:Fh)(t:Nat)(h:t<n):(GU n E).tmps[t]?=some (E t):=by
 simp [GU,h]
theorem Qp {n:Nat}{E:Fh}{x:Operand}(h:MO n x=true):(GU n E).eval x=ev E x:=by
 cases x with
 | tmp t=>
  have r:t<n:=by simpa [MO,Bq]using h
  simp [Act.eval,ev,GU,r]
 | _=>rfl
theorem Iy (n:Nat)(E:Fh)(d:Option Tmp)(v:Value):(GU n E).put d v=GU n (Gu E d v):=by
 cases d with
 | none=>rfl
 | some d=>
  simp only [Act.put,Gu,GU]
  congr 1
  apply Array.ext
  ·simp
  ·intro i h1 h2;simp only [Array.size_setIfInBounds,Array.size_ofFn]at h1;rw[Array.getElem_setIfInBounds]
   ·simp only [CR,FT]
    by_cases hi:d=i
    ·subst hi;simp
    ·simp only [hi,if_false];rw[Pk (λe:i=d=>hi e.symm)];exact CR ..
   ·simpa using h1
def IK (n:Nat)(o:Oper):Bool:=o.op.operands.all (MO n) && (match o.dst with|some d=>AR d n|none=>true) && (match o.op with | .select ..=>false|_=>true)
def J7 (n:Nat):Code->Bool
 | .skip | .exit _ | .ret | .label _=>true
 | .region _ ops _=>ops.all (IK n)
 | .seq a b=>J7 n a && J7 n b
 | .cond c a b=>MO n c && J7 n a && J7 n b
 | .block _ c=>J7 n c
 | .loop c=>J7 n c
 | .scope c=>J7 n c
 | .refuse ..=>true
 | _=>false
theorem Mi {n:Nat}{E:Fh}{o:Oper}(h:IK n o=true):execOp (GU n E).eval o=execOp (ev E) o:=by
 unfold IK at h;simp only [Au]at h;obtain⟨⟨h1,_⟩,h3⟩:=h;refine execOp_congr o (λcs b e=>by rw[e]at h3;cases h3) λx r=>Qp ?_;exact Ck.1 h1 x r
def GJ (n:Nat)(Q:Exit->Fh->World->Prop):Exit->Act->World->Prop:=λe a w=>∃E,a=GU n E/\Q e E w
def W (P:Program)(n:Nat)(c:Code)(Q:Exit->Fh->World->Prop)(E:Fh)(w:World):Prop:=
 J7 n c=true->c.wp P (GJ n Q) (GU n E) w
def Ip (K:Fh->World->Prop)(Q:Exit->Fh->World->Prop):Exit->Fh->World->Prop
 | .normal,E,w=>K E w
 | e,E,w=>Q e E w
def Nh (id:Nat)(Q:Exit->Fh->World->Prop):Exit->Fh->World->Prop
 | .exit id',E,w=>cond (Bj id' id) (Q .normal E w) (Q (.exit id') E w)
 | e,E,w=>Q e E w
def Mn (Q:Exit->Fh->World->Prop):Exit->Fh->World->Prop
 | .goto _,_,_=>False
 | e,E,w=>Q e E w
section
variable {P:Program}{n:Nat}{Q:Exit->Fh->World->Prop}{E:Fh}{w:World}
theorem X8k {c:Code}{Q':Exit->Fh->World->Prop}(h:W P n c Q E w)(hq:∀e E w,Q e E w->Q' e E w):W P n c Q' E w:=
 λok=>Code.wp_mono (λ_ _ _ ⟨E',he,hQ⟩=>⟨E',he,hq _ _ _ hQ⟩) (h ok)
theorem XE {x y:Code}(h:∀K:Fh->World->Prop,(∀E w,W P n y Q E w->K E w)->W P n x (Ip K Q) E w):W P n (.seq x y) Q E w:=by
 intro ok;simp only [J7,Au]at ok;refine wp_seq (Code.wp_mono ?_ (h (λE w=>W P n y Q E w) (λ_ _ h=>h) ok.1));intro e a w' z;obtain⟨E',rfl,r⟩:=z
 cases e<;>first|exact r ok.2|exact⟨E',rfl,r⟩
theorem EI (h:Q .normal E w):W P n .skip Q E w:=λ_=>wp_skip ⟨E,rfl,h⟩
theorem EJ (h:Q .ret E w):W P n .ret Q E w:=λ_=>wp_ret ⟨E,rfl,h⟩
theorem Fk {id:Nat}(h:Q (.exit id) E w):W P n (.exit id) Q E w:=λ_=>wp_exit ⟨E,rfl,h⟩
theorem Pj {c:Operand}{x y:Code}{t:Bool}(hc:ev E c=.bool t)(ht:t=true->W P n x Q E w)(hf:t=false->W P n y Q E w):W P n (.cond c x y) Q E w:=by
 intro ok;simp only [J7,Au]at ok;refine wp_cond_split (t:=t) (by rw[Qp ok.1.1];exact hc) (λh=>ht h ok.1.2) (λh=>hf h ok.2)
theorem Ycr {c:Operand}{x y:Code}{p:Prop}[Decidable p](hc:ev E c=.bool (decide p))(ht:p->W P n x Q E w)(hf:¬ p->W P n y Q E w):W P n (.cond c x y) Q E w:=
 Pj hc (λh=>ht (of_decide_eq_true h)) (λh=>hf (of_decide_eq_false h))
theorem EM {id:Nat}{c:Code}(h:W P n c (Nh id Q) E w):W P n (.block id c) Q E w:=by
 intro ok;refine wp_block (Code.wp_mono ?_ (h ok));rintro e a w' ⟨E',rfl,hQ⟩
 cases e with
 | exit id'=>
  simp only [Exit.inBlock]
  by_cases hid:id'=id
  ·subst hid;simp only [if_true];refine⟨E',rfl,?_⟩;simpa [Nh]using hQ
  ·simp only [hid,if_false];refine⟨E',rfl,?_⟩;simpa [Nh,Pk hid]using hQ
 | _=>exact⟨E',rfl,hQ⟩
def N5 : List (Nat×Value)->Fh->Fh
 | [],E=>E
 | (d,v) :: r,E=>FT (N5 r E) d v
def holds : List (Nat×Value)->Fh->Prop
 | [],_=>True
 | (d,v) :: r,E=>E d=v/\holds r E
theorem Qt {l:List (Nat×Value)}{E:Fh}(h:holds l E):N5 l E=E:=by
 induction l with
 | nil=>rfl
 | cons x l ih=>
  obtain⟨d,v⟩:=x;simp only [holds]at h;simp only [N5,ih h.2];exact Q4 E d v h.1
theorem Fq {c:Code}{G:Type}(sl:G->List (Nat×Value))(F:G->World->Prop)(μ:G->Nat)(g0:G)(h0:holds (sl g0) E)(hF0:F g0 w)
  (round:∀(E:Fh) (g:G) (w:World),F g w->W P n c (Ip (λE' w'=>∃Z,holds (sl Z) E'/\F Z w'/\μ Z<μ g) Q) (N5 (sl g) E) w):W P n (.loop c) Q E w:=by
 intro ok b k cs;have key:∀(m:Nat) (E:Fh) (g:G) (w:World),μ g=m->holds (sl g) E->F g w->
   ∃e a' w',GJ n Q e a' w'/\Arrives P (lone (b.at (GU n E) (.code c :: .inLoop c :: k)) cs w) b k cs e a' w':=by
  intro m
  induction m using Nat.strongRecOn with
  | _ m ih=>
   intro E g w hm hh hF;have hr:=round E g w hF ok;rw[Qt hh]at hr;obtain⟨e,a1,O,⟨Y,rfl,z⟩,r⟩:=hr b (.inLoop c :: k) cs
   cases e with
   | normal=>
    obtain⟨Z,hc,hb,hf⟩:=z;obtain⟨e2,a2,w2,ha,J⟩:=ih (μ Z) (hm▸hf) Y Z O rfl hc hb;exact⟨e2,a2,w2,ha,.of_steps (Steps.trans r (.one step_inLoop)) J⟩
   | exit id=>exact⟨_,_,O,⟨Y,rfl,z⟩,.pass (x:=.inLoop c) rfl (λ_ _=>.inl ER) r⟩
   | goto l=>exact⟨_,_,O,⟨Y,rfl,z⟩,.pass (x:=.inLoop c) rfl (λ_ _=>.inl ER) r⟩
   | ret=>exact⟨_,_,O,⟨Y,rfl,z⟩,.pass (x:=.inLoop c) rfl (λ_ _=>.inl ER) r⟩
   | panic ch=>exact⟨_,_,O,⟨Y,rfl,z⟩,.pass (x:=.inLoop c) rfl (λ_ _=>.inl ER) r⟩
   | outgrown=>exact⟨_,_,O,⟨Y,rfl,z⟩,.pass (x:=.inLoop c) rfl (λ_ _=>.inl ER) r⟩
 obtain⟨e,a',w',z,r⟩:=key (μ g0) E g0 w rfl h0 hF0;exact⟨e,a',w',z,.of_steps (.one step_loop) r⟩
def La : List Value->Nat->Fh->Fh
 | [],_,E=>E
 | v :: r,k,E=>FT (La r (k+1) E) k v
def Jt (P:Program)(fn:Func)(n:Nat)(R:Ending->World->Prop):Exit->Fh->World->Prop
 | .normal,E,w | .ret,E,w=>∃v,(results fn (GU n E).tmps).run P w=.ok v w/\R (.returned v) w
 | _,_,_=>False
theorem Xv (l:List Value):∀(k i:Nat) (E:Fh),La l k E i=if k<=i then(match l[i-k]? with|some v=>v|none=>E i)else E i:=by
 induction l with
 | nil=>intro k i E;simp [La]
 | cons v r ih=>
  intro k i E
  by_cases h:i=k
  ·subst h;simp [La,TO]
  ·rw[La,U0 _ _ h,ih]
   by_cases h1:k+1<=i
   ·have h2:k<=i:=by omega
    have h3:i-k=(i-(k+1))+1:=by omega
    simp [h1,h2,h3]
   ·have h2:¬ k<=i:=by omega
    simp [h1,h2]
theorem X4h {f:FuncId}{fn:Func}{c:Code}{az:List Value}{w:World}{R:Ending->World->Prop}
  (hf:P.funcs[f]?=some fn) (hb:fn.body=some c) (hn:fn.ntmps=n) (hle:CF az.length n=true) (ok:J7 n c=true)
  (h:W P n c (Jt P fn n R) (La az 0 (λ_=>undef)) w):Calls P f az.toArray w R:=by
 have hle':az.length<=n:=by simpa [Nat.ble_eq]using hle
 refine calls_of_wp hf hb ?_;have r:({ tmps:=az.toArray++Cw (fn.ntmps-az.toArray.size) undef,defers:=[] } : Act)=GU n (La az 0 (λ_=>undef)):=by
  simp only [GU,hn]
  congr 1
  apply Array.ext
  ·simp;omega
  ·intro i h1 h2;simp only [CR,Xv,Ae,if_true,Nat.sub_zero];rw[Array.getElem_append]
   by_cases hi:i<az.length
   ·simp [hi]
   ·simp [hi]
 rw[r];refine Code.wp_mono ?_ (h ok);rintro e a w' ⟨E,rfl,hQ⟩
 cases e with
 | normal=>obtain⟨v,h1,h2⟩:=hQ;exact⟨rfl,v,h1,h2⟩
 | ret=>obtain⟨v,h1,h2⟩:=hQ;exact⟨rfl,v,h1,h2⟩
 | _=>exact hQ.elim
end
inductive Fl where
 | p|l|x
def Ic : List Oper->Nat->Oper
 | [],_=>default
 | o :: _,0=>o
 | _ :: r,k+1=>Ic r k
def LH : List (Option Tmp)->Nat->Option Tmp
 | [],_=>none
 | o :: _,0=>o
 | _ :: r,k+1=>LH r k
def FK (ds:List (Option Tmp))(E:Fh):Option (Nat×Bool)->Bool
 | none=>true
 | some (j,want)=>match LH ds j with
  | some d=>(match E d with | .bool b=>b == want|_=>false)
  | none=>false
def PV (P:Program)(o:Oper)(E:Fh)(v:Value):Prop:=∀w,(execOp (ev E) o).run P w=.ok (.value v) w
def LV (P:Program)(o:Oper)(E:Fh)(w:World)(v:Value):Prop:=(execOp (ev E) o).run P w=.ok (.value v) w
def XW (P:Program)(n:Nat)(o:Oper)(E:Fh)(w:World)(K:Fh->World->Prop):Prop:=
 IK n o=true->o.wp P (GU n E) w (λa w'=>∃E',a=GU n E'/\K E' w') (λ_ _ _=>False)
def Dw (P:Program)(n:Nat)(ds:List (Option Tmp))(R:World->World->Prop):List (Oper×Fl×Bool)->(Fh->World->Prop)->Fh->World->Prop
 | [],K,E,w=>K E w
 | (o,.p,_) :: r,K,E,w=>if FK ds E o.guard=true then ∃v,PV P o E v/\Dw P n ds R r K (Gu E o.dst v) w else Dw P n ds R r K (Gu E o.dst undef) w
 | (o,.l,_) :: r,K,E,w=>if FK ds E o.guard=true then ∃v,(∀w',R w w'->LV P o E w' v)/\Dw P n ds R r K (Gu E o.dst v) w else Dw P n ds R r K (Gu E o.dst undef) w
 | (o,.x,anc) :: r,K,E,w=>if FK ds E o.guard=true then XW P n o E w (λE' w'=>(anc=false->R w w')/\Dw P n ds R r K E' w')else Dw P n ds R r K (Gu E o.dst undef) w
def nf (K:Fh->World->Prop):Exit->Fh->World->Prop
 | .normal,E,w=>K E w
 | _,_,_=>False
theorem X4i (l:List Oper):∀j,LH (l.map (·.dst)) j=(l[j]?).bind (·.dst):=by
 induction l with
 | nil=>intro j;rfl
 | cons o r ih=>intro j;cases j with
  | zero=>rfl
  | succ k=>simpa [LH]using ih k
theorem XU (l:List Oper):∀j (o:Oper),l[j]?=some o->Ic l j=o:=by
 induction l with
 | nil=>intro j o h;simp at h
 | cons o r ih=>intro j z h;cases j with
  | zero=>simpa [Ic]using h
  | succ k=>exact ih k z (by simpa using h)
theorem NJ {n:Nat}{ops:Array Oper}{E:Fh}(o:Oper)(hok:ops.all (IK n)=true) :
  Region.wanted o (yielded ops (GU n E).tmps)=FK (ops.toList.map (·.dst)) E o.guard:=by
 unfold Region.wanted FK
 cases hg:o.guard with
 | none=>rfl
 | some jw=>
  obtain⟨j,want⟩:=jw;simp only [X4i,Array.getElem?_toList,yielded]
  cases hj:ops[j]? with
  | none=>simp
  | some oj=>
   simp only [Cl]
   cases hd:oj.dst with
   | none=>simp
   | some d=>
    have h1:=Ck.1 hok oj (Dt hj);have r:d<n:=by
     unfold IK at h1;simp only [hd,Au]at h1;simpa [Bq]using h1.1.2
    simp only [Cl,X4g n E d r]
    cases E d<;>simp
theorem Oper.wp_monoQ {P:Program}{o:Oper}{a:Act}{w:World}{K:Act->World->Prop}{Q:Exit->Act->World->Prop}
  (hh:o.wp P a w K (λ_ _ _=>False)):o.wp P a w K Q:=by
 unfold Oper.wp at *
 generalize (execOp a.eval o).run P w=r at *
 cases r with
 | ok n w'=>
  cases n<;>simp only [Oper.upon]at hh ⊢<;>first
   | exact hh
   | (
    refine Calls.mono hh (λe w'' he=>?_)
    cases e with
    | returned v=>exact he
    | panicked c=>exact he.elim
    | outgrown=>obtain⟨_,_,z⟩:=he;exact z.elim)
 | halt x w'=>cases x<;>simp only [Oper.upon]at hh ⊢
section
variable {P:Program}{n:Nat}{E:Fh}{w:World}{ops:Array Oper}{R:World->World->Prop}
theorem Xt {o:Oper}{v:Value}(hok:IK n o=true)(h:LV P o E w v){K:Act->World->Prop}{Q:Exit->Act->World->Prop}(hK:K (GU n (Gu E o.dst v)) w):o.wp P (GU n E) w K Q:=by
 unfold Oper.wp;rw[Mi hok,h];simp only [Oper.upon,Iy];exact hK
def Mr : List Oper->List Fl->List (Oper×Fl×Bool)
 | o :: r,f :: fs=>(o,f,true) :: Mr r fs
 | _,_=>[]
theorem We (hok:ops.all (IK n)=true){K:Fh->World->Prop}{Q:Exit->Fh->World->Prop}(hQ:∀E w,K E w->Q .normal E w):∀(l:List Oper) (fs:List Fl) (E:Fh) (w:World),l.length=fs.length->(∀o∈l,IK n o=true)->
  Dw P n (ops.toList.map (·.dst)) (λa b=>a=b) (Mr l fs) K E w->wpList P ops (GJ n Q) l (GU n E) w:=by
 intro l
 induction l with
 | nil=>intro fs E w _ _ h;exact⟨E,rfl,hQ _ _ h⟩
 | cons o r ih=>
  intro fs E w hl ho h
  cases fs with
  | nil=>simp at hl
  | cons f fs=>
   have Y:r.length=fs.length:=by simpa using hl
   have Z:∀o∈r,IK n o=true:=λo h=>ho o (Am _ h);have J:=ho o Al;have z:∀v w,Dw P n (ops.toList.map (·.dst)) (λa b=>a=b) (Mr r fs) K (Gu E o.dst v) w->wpList P ops (GJ n Q) r ((GU n E).put o.dst v) w:=λv w h=>by
    rw[Iy];exact ih fs _ w Y Z h
   unfold wpList;rw[NJ o hok]
   cases f<;>simp only [Mr,Dw]at h<;>(split at h<;>rename_i O)
   ·rw[if_pos O];obtain⟨v,hv,hn⟩:=h;exact .inl (Xt J (hv w) (by simpa [Iy]using z v w hn))
   ·rw[if_neg O];exact z _ _ h
   ·rw[if_pos O];obtain⟨v,hv,hn⟩:=h;exact .inl (Xt J (hv w rfl) (by simpa [Iy]using z v w hn))
   ·rw[if_neg O];exact z _ _ h
   ·rw[if_pos O];refine .inl (Oper.wp_monoQ (Oper.wp_mono ?_ (h J)));rintro a w' ⟨E',rfl,_,hd⟩;exact ih fs E' w' Y Z hd
   ·rw[if_neg O];exact z _ _ h
theorem KW {id:Nat}{l:List Oper}{Q:Exit->Fh->World->Prop}(fs:List Fl)(hl:Bj l.length fs.length=true)
  (h:Dw P n (l.map (·.dst)) (λa b=>a=b) (Mr l fs) (λE w=>Q .normal E w) E w):W P n (.region id l.toArray false) Q E w:=by
 intro ok;simp only [J7]at ok;refine wp_region_list ?_;exact We (K:=λE w=>Q .normal E w) ok (λ_ _ h=>h) _ fs E w (CE hl) (λo ho=>Ck.1 ok o (by simpa using ho)) (by simpa using h)
def LL (ops:Array Oper)(i k:Nat):Bool:=match ops[i]? with
 | some o=>o.after.any λe=>Region.binds .any e && e.on == k
 | none=>false
def Pw (ops:Array Oper)(ld:List Nat)(listed:Array Bool)(i:Nat):Prop:=∀k∈ld,listed.getD k false=true->k≠i->LL ops i k=true
def Lu (P:Program)(ops:Array Oper)(Q:Exit->Act->World->Prop)(R:World->World->Prop)(ld:List Nat):Nat->Array Bool->Act->World->Prop
 | 0,listed,a,w=>Region.ready .any ops listed=[]/\Q .normal a w
 | fuel+1,listed,a,w=>
  (Region.ready .any ops listed=[]->Q .normal a w)/\
  ∀i∈Region.ready .any ops listed,wpOp P ops Q i (λa' w'=>(R w w'\/Pw ops ld listed i)/\Lu P ops Q R ld fuel (listed.setIfInBounds i true) a' w') a w
variable {Q:Exit->Act->World->Prop}{ld:List Nat}
theorem QR : ∀(fuel:Nat) (listed:Array Bool) (a:Act) (w:World),Lu P ops Q R ld fuel listed a w->wpAny P .any ops Q fuel listed a w
 | 0,_,_,_,h=>h
 | fuel+1,_,_,_,h=>⟨h.1,λi hi=>wpOp_mono (λa' w' h'=>QR fuel _ a' w' h'.2) (h.2 i hi)⟩
theorem YieldsIf.mono {S S':World->Prop}{o:Oper}{v:Value}{a:Act}(h:YieldsIf P ops S o v a)(hs:∀w,S' w->S w):YieldsIf P ops S' o v a:=
 h.imp (λ⟨h1,h2⟩=>⟨h1,λw r=>h2 w (hs w r)⟩) id
theorem Mb {i:Nat}{oi:Oper}{v:Value}{B:Bool}(hrefl:∀w,R w w)(htrans:∀a b c,R a b->R b c->R a c)(hB:B=true->i∈ld)(hi:ops[i]?=some oi)
  (hsel:∀(j:Nat) (o:Oper) cs b,ops[j]?=some o->o.op≠.select cs b) (hQ:∀c a w,Q (.panic c) (a.put oi.dst v) w->Q (.panic c) a w) :
  ∀(fuel:Nat) (listed:Array Bool) (a:Act) (w:World),
   (∀j oj,ops[j]?=some oj->j≠i->listed.getD j true=false->(∀e∈oj.after,Region.binds .any e=true->e.on≠i)->oi.apart ops oj=true)->
   i∈Region.ready .any ops listed->YieldsIf P ops (λw'=>B=true->R w w') oi v a->
   Lu P ops Q R ld fuel (listed.setIfInBounds i true) (a.put oi.dst v) w->Lu P ops Q R ld (fuel+1) listed a w:=by
 intro fuel
 induction fuel with
 | zero=>
  intro listed a w _ Z hy H;refine⟨λh=>(by rw[h]at Z;cases Z),λj hj=>?_⟩
  by_cases hji:j=i
  ·subst hji;exact hy.wpOp hi (λ_=>hrefl w) ⟨.inl (hrefl w),H⟩
  ·have:=ready_mono hj hji;rw[H.1]at this
   cases this
 | succ fuel ih=>
  intro listed a w r Z hy H;refine⟨λh=>(by rw[h]at Z;cases Z),λj hj=>?_⟩
  by_cases hji:j=i
  ·subst hji;exact hy.wpOp hi (λ_=>hrefl w) ⟨.inl (hrefl w),H⟩
  ·have h1:=H.2 j (ready_mono hj hji);obtain⟨Y,oj,J,hc⟩:=mem_ready.1 hj;have hx:listed.getD i false=false:=by
    have h0:=(mem_ready.1 Z).1;rcases Bk i listed.size with h'|h'
    ·simp [h']at h0 ⊢;exact h0
    ·simp [DV h']
   have hg:i<listed.size:=by
    have h0:=(mem_ready.1 Z).1;rcases Bk i listed.size with h'|h'
    ·exact h'
    ·simp [DV h']at h0
   have O:∀e∈oj.after,Region.binds .any e=true->e.on≠i:=λe he hb hz=>by
    have h1:=hc e he hb;rw[hz,hx]at h1
    cases h1
   have h2:=wpOp_putIf J (r j oj J hji Y O) (λcs b=>hsel i oi cs b hi) (λcs b=>hsel j oj cs b J) hQ hy h1;have z:∀k ok,ops[k]?=some ok->k≠i->(listed.setIfInBounds j true).getD k true=false->
     (∀e∈ok.after,Region.binds .any e=true->e.on≠i)->oi.apart ops ok=true:=λk ok hk hw hh h6=>by
    refine r k ok hk hw ?_ h6
    by_cases hjk:j=k
    ·subst hjk;exact Y
    ·rw[getD_set_ne true hjk]at hh;exact hh
   refine wpOp_mono (λa' w' h3=>?_) h2;obtain⟨h5,hf,ha⟩:=h3;have hR:B=true->R w w':=λhb=>hf.elim id λhA=>by
    have:=hA i (hB hb) (by simp [hg]) (λe=>hji e.symm);unfold LL at this;simp only [J,Array.any_eq_true',Au,beq_iff_eq]at this;obtain⟨e,he,hp,hq⟩:=this;exact absurd hq (O e he hp)
   refine⟨hf.imp id λhA k hk hl ht=>hA k hk (getD_set_true hl) ht,?_⟩;refine ih (listed.setIfInBounds j true) a' w' z (ready_mono Z (Ne.symm hji)) (YieldsIf.mono h5 λw'' h' hb=>htrans _ _ _ (hR hb) (h' hb)) ?_;rw[Array.setIfInBounds_comm _ _ hji];exact ha
def Ki (l:List Oper):List (Nat×Fl×Bool)->List (Oper×Fl×Bool)
 | []=>[]
 | (i,f,b) :: r=>(Ic l i,f,b) :: Ki l r
def Lt (ops:Array Oper)(ld:List Nat):List (Nat×Fl×Bool)->Array Bool->Bool
 | [],listed=>(Region.ready .any ops listed).isEmpty
 | (i,.x,anc) :: r,listed=>(Region.ready .any ops listed == [i]) && (!anc || ld.all λk=>!listed.getD k false || k == i || LL ops i k) && Lt ops ld r (listed.setIfInBounds i true)
 | (i,.p,_) :: r,listed=>(Region.ready .any ops listed).contains i && Region.free .any ops listed i && Lt ops ld r (listed.setIfInBounds i true)
 | (i,.l,_) :: r,listed=>(Region.ready .any ops listed).contains i && Region.free .any ops listed i && ld.contains i && Lt ops ld r (listed.setIfInBounds i true)
theorem P3 {o:Oper}{v:Value}{S:World->Prop}(hok:ops.all (IK n)=true)(hoo:IK n o=true)(hg:FK (ops.toList.map (·.dst)) E o.guard=true)(h:∀w,S w->LV P o E w v) :
 YieldsIf P ops S o v (GU n E):=.inl ⟨by rw[NJ o hok];exact hg,λw r=>by rw[Mi hoo];exact h w r⟩
theorem OO {o:Oper}{S:World->Prop}(hok:ops.all (IK n)=true)(hg:¬ FK (ops.toList.map (·.dst)) E o.guard=true):YieldsIf P ops S o undef (GU n E):=
 .inr ⟨by rw[NJ o hok];simpa using hg,rfl⟩
theorem Xmt (hrefl:∀w,R w w)(htrans:∀a b c,R a b->R b c->R a c)(hok:ops.all (IK n)=true)(hsel:Region.noSelect ops=true){K:Fh->World->Prop} :
  ∀(π:List (Nat×Fl×Bool)) (listed:Array Bool) (E:Fh) (w:World),Lt ops ld π listed=true->
   Dw P n (ops.toList.map (·.dst)) R (Ki ops.toList π) K E w->Lu P ops (GJ n (nf K)) R ld π.length listed (GU n E) w:=by
 intro π
 induction π with
 | nil=>intro listed E w Z h;exact⟨by simpa [Lt]using Z,E,rfl,h⟩
 | cons x r ih=>
  intro listed E w Z h;obtain⟨i,f,anc⟩:=x;have hQ:∀(d:Option Tmp) (v:Value) c a w,GJ n (nf K) (.panic c) (a.put d v) w->GJ n (nf K) (.panic c) a w:=λ_ _ _ _ _ ⟨_,_,hf⟩=>hf.elim;have key:∀(O:Oper),ops[i]?=some O->Ic ops.toList i=O/\IK n O=true:=λO hi=>
   ⟨XU _ _ _ (by simpa using hi),Ck.1 hok O (Dt hi)⟩
  cases f with
  | x=>
   simp only [Lt,Au]at Z;obtain⟨⟨hr,ha⟩,J⟩:=Z;have z:Region.ready .any ops listed=[i]:=by simpa using hr
   refine⟨λh0=>(by rw[h0]at z;cases z),λj hj=>?_⟩;rw[z,Ah]at hj;subst hj;obtain⟨_,O,hi,_⟩:=mem_ready.1 (by rw[z];exact Ah.2 rfl:j∈Region.ready .any ops listed);obtain⟨hn,Y⟩:=key O hi;simp only [Ki,Dw,hn]at h;unfold wpOp;simp only [hi];rw[NJ O hok];split at h<;>rename_i hg
   ·rw[if_pos hg];refine .inl (Oper.wp_monoQ (Oper.wp_mono ?_ (h Y)));rintro a w' ⟨E',rfl,hR,hd⟩;refine⟨?_,ih _ E' w' J hd⟩
    cases anc with
    | false=>exact .inl (hR rfl)
    | true=>
     refine .inr λk hk hl hb=>?_;simp only [Cx,Cm]at ha;have h1:=AY.1 ha k hk;simp only [hl,Cx,Cm,BM,beq_iff_eq]at h1;exact h1.resolve_left hb
   ·rw[if_neg hg,Iy];exact⟨.inl (hrefl w),ih _ _ w J h⟩
  | p=>
   simp only [Lt,Au]at Z;obtain⟨⟨hr,hf⟩,J⟩:=Z;have z:i∈Region.ready .any ops listed:=by simpa using hr
   obtain⟨_,O,hi,_⟩:=mem_ready.1 z;obtain⟨hn,Y⟩:=key O hi;simp only [Ki,Dw,hn]at h;split at h<;>rename_i hg
   ·obtain⟨v,hv,hd⟩:=h;exact Mb (B:=false) (v:=v) hrefl htrans (λh=>by cases h) hi (Region.noSelect_spec hsel) (hQ _ _) _ _ _ _ (Region.free_spec hi hf) z
     (P3 hok Y hg λw _=>hv w) (by rw[Iy];exact ih _ _ w J hd)
   ·exact Mb (B:=false) (v:=undef) hrefl htrans (λh=>by cases h) hi (Region.noSelect_spec hsel) (hQ _ _) _ _ _ _ (Region.free_spec hi hf) z
     (OO hok hg) (by rw[Iy];exact ih _ _ w J h)
  | l=>
   simp only [Lt,Au]at Z;obtain⟨⟨⟨hr,hf⟩,hl⟩,J⟩:=Z;have z:i∈Region.ready .any ops listed:=by simpa using hr
   obtain⟨_,O,hi,_⟩:=mem_ready.1 z;obtain⟨hn,Y⟩:=key O hi;simp only [Ki,Dw,hn]at h;split at h<;>rename_i hg
   ·obtain⟨v,hv,hd⟩:=h;exact Mb (B:=true) (v:=v) hrefl htrans (λ_=>by simpa using hl) hi (Region.noSelect_spec hsel) (hQ _ _) _ _ _ _ (Region.free_spec hi hf) z
     (P3 hok Y hg λw hw=>hv w (hw rfl)) (by rw[Iy];exact ih _ _ w J hd)
   ·exact Mb (B:=true) (v:=undef) hrefl htrans (λ_=>by simpa using hl) hi (Region.noSelect_spec hsel) (hQ _ _) _ _ _ _ (Region.free_spec hi hf) z
     (OO hok hg) (by rw[Iy];exact ih _ _ w J h)
theorem F9 {id:Nat}{l:List Oper}{Q:Exit->Fh->World->Prop}(hrefl:∀w,R w w)(htrans:∀a b c,R a b->R b c->R a c)(hm:P.follows .mixedOrders=true)
  (ld:List Nat) (π:List (Nat×Fl×Bool)) (hlen:Bj π.length l.length=true)
  (hp:Lt l.toArray ld π (Cw l.length false)=true) (hsel:Region.noSelect l.toArray=true)
  (h:∀w1,w1=w.drew->Dw P n (l.map (·.dst)) R (Ki l π) (λE w=>Q .normal E w) E w1):W P n (.region id l.toArray true) Q E w:=by
 intro ok;simp only [J7]at ok;have h':=Xmt (P:=P) (ld:=ld) hrefl htrans ok hsel π (Cw l.length false) E w.drew hp (by simpa using h _ rfl);have r:π.length=l.length:=CE hlen;rw[r]at h';refine Code.wp_mono (Q:=GJ n (nf λE w=>Q .normal E w)) ?_ (wp_region_any hm (by simpa using QR _ _ _ _ h'));rintro e a w' ⟨E',rfl,hq⟩
 cases e<;>first|exact⟨E',rfl,hq⟩|exact hq.elim
inductive Pl where
 | nil
 | stop
 /-- the next one,whatever else may come up -/
 | one (i:Nat) (f:Fl) (anc:Bool) (rest:Pl)
 /-- several effects may come up: a chain of 'alt' -/
 | fork (chain:Pl)
 /-- one of those that may come up,and what follows it;the others -/
 | alt (i:Nat) (anc:Bool) (sub:Pl) (others:Pl)
def Pl.heads : Pl->List Nat
 | .alt i _ _ o=>i :: o.heads
 | _=>[]
def Pl.ok : Pl->Bool
 | .alt ..=>false
 | .stop=>false
 | _=>true
theorem Pl.ok_spec {π:Pl}(h:π.ok=true):π.heads=[]/\π≠.stop:=by
 cases π<;>simp [Pl.ok,Pl.heads]at h ⊢
def Gs (P:Program)(n:Nat)(l:List Oper)(ds:List (Option Tmp))(R:World->World->Prop):Pl->(Fh->World->Prop)->Fh->World->Prop
 | .nil,K,E,w=>K E w
 | .stop,_,_,_=>True
 | .one i .p _ rest,K,E,w=>if FK ds E (Ic l i).guard=true then ∃v,PV P (Ic l i) E v/\Gs P n l ds R rest K (Gu E (Ic l i).dst v) w else Gs P n l ds R rest K (Gu E (Ic l i).dst undef) w
 | .one i .l _ rest,K,E,w=>if FK ds E (Ic l i).guard=true then ∃v,(∀w',R w w'->LV P (Ic l i) E w' v)/\Gs P n l ds R rest K (Gu E (Ic l i).dst v) w else Gs P n l ds R rest K (Gu E (Ic l i).dst undef) w
 | .one i .x anc rest,K,E,w=>if FK ds E (Ic l i).guard=true then XW P n (Ic l i) E w (λE' w'=>(anc=false->R w w')/\Gs P n l ds R rest K E' w')else Gs P n l ds R rest K (Gu E (Ic l i).dst undef) w
 | .fork c,K,E,w=>Gs P n l ds R c K E w
 | .alt i anc sub others,K,E,w=>(if FK ds E (Ic l i).guard=true then XW P n (Ic l i) E w (λE' w'=>(anc=false->R w w')/\Gs P n l ds R sub K E' w')else Gs P n l ds R sub K (Gu E (Ic l i).dst undef) w)/\
  Gs P n l ds R others K E w
def LB (ops:Array Oper)(ld:List Nat)(listed:Array Bool)(i:Nat):Bool:=ld.all λk=>!listed.getD k false || k == i || LL ops i k
def Jj (ops:Array Oper)(ld:List Nat):Pl->Nat->Array Bool->Bool
 | .nil,_,listed=>(Region.ready .any ops listed).isEmpty
 | .stop,_,_=>true
 | .one i .x anc r,fuel+1,listed=>(Region.ready .any ops listed == [i]) && (!anc || LB ops ld listed i) && r.ok && Jj ops ld r fuel (listed.setIfInBounds i true)
 | .one i .p _ r,fuel+1,listed=>(Region.ready .any ops listed).contains i && Region.free .any ops listed i && r.ok && Jj ops ld r fuel (listed.setIfInBounds i true)
 | .one i .l _ r,fuel+1,listed=>(Region.ready .any ops listed).contains i && Region.free .any ops listed i && ld.contains i && r.ok && Jj ops ld r fuel (listed.setIfInBounds i true)
 | .fork c,fuel,listed=>(Region.ready .any ops listed).all (λj=>c.heads.contains j) && !(Region.ready .any ops listed).isEmpty && Jj ops ld c fuel listed
 | .alt i anc sub others,fuel+1,listed=>(Region.ready .any ops listed).contains i && (!anc || LB ops ld listed i) && sub.ok && Jj ops ld sub fuel (listed.setIfInBounds i true) && Jj ops ld others (fuel+1) listed
 | _,_,_=>false
theorem Xtu {listed:Array Bool}{i:Nat}{anc:Bool}(h:(!anc || LB ops ld listed i)=true)(ha:anc=true):Pw ops ld listed i:=by
 subst ha;simp only [Cx,Cm]at h;intro k hk z r;have h1:=AY.1 h k hk;simp only [z,Cx,Cm,BM,beq_iff_eq]at h1;exact h1.resolve_left r
theorem Xlq (hrefl:∀w,R w w)(htrans:∀a b c,R a b->R b c->R a c)(hok:ops.all (IK n)=true)(hsel:Region.noSelect ops=true){K:Fh->World->Prop} :
  ∀(π:Pl) (fuel:Nat) (listed:Array Bool) (E:Fh) (w:World),Jj ops ld π fuel listed=true->Gs P n ops.toList (ops.toList.map (·.dst)) R π K E w->
   (π.heads=[]->π≠.stop->Lu P ops (GJ n (nf K)) R ld fuel listed (GU n E) w)/\
   (∀i∈π.heads,∃k,fuel=k+1/\wpOp P ops (GJ n (nf K)) i (λa' w'=>(R w w'\/Pw ops ld listed i)/\Lu P ops (GJ n (nf K)) R ld k (listed.setIfInBounds i true) a' w') (GU n E) w):=by
 have hQ:∀(d:Option Tmp) (v:Value) c a w,GJ n (nf K) (.panic c) (a.put d v) w->GJ n (nf K) (.panic c) a w:=λ_ _ _ _ _ ⟨_,_,hf⟩=>hf.elim;have key:∀(i:Nat) (Y:Oper),ops[i]?=some Y->Ic ops.toList i=Y/\IK n Y=true:=λi Y hi=>
  ⟨XU _ _ _ (by simpa using hi),Ck.1 hok Y (Dt hi)⟩
 -- one effect
 have hx:∀(i:Nat) (anc:Bool) (rest:Pl) (fuel:Nat) (listed:Array Bool) (E:Fh) (w:World),i∈Region.ready .any ops listed->(!anc || LB ops ld listed i)=true->
   (∀E' w',Gs P n ops.toList (ops.toList.map (·.dst)) R rest K E' w'->Lu P ops (GJ n (nf K)) R ld fuel (listed.setIfInBounds i true) (GU n E') w')->
   (if FK (ops.toList.map (·.dst)) E (Ic ops.toList i).guard=true then XW P n (Ic ops.toList i) E w (λE' w'=>(anc=false->R w w')/\Gs P n ops.toList (ops.toList.map (·.dst)) R rest K E' w')else Gs P n ops.toList (ops.toList.map (·.dst)) R rest K (Gu E (Ic ops.toList i).dst undef) w)->
   wpOp P ops (GJ n (nf K)) i (λa' w'=>(R w w'\/Pw ops ld listed i)/\Lu P ops (GJ n (nf K)) R ld fuel (listed.setIfInBounds i true) a' w') (GU n E) w:=by
  intro i anc rest fuel listed E w hi ha ih h;obtain⟨_,Y,ht,_⟩:=mem_ready.1 hi;obtain⟨hn,Z⟩:=key i Y ht;rw[hn]at h;unfold wpOp;simp only [ht];rw[NJ Y hok];split at h<;>rename_i hg
  ·rw[if_pos hg];refine .inl (Oper.wp_monoQ (Oper.wp_mono ?_ (h Z)));rintro a w' ⟨E',rfl,hR,hd⟩;refine⟨?_,ih E' w' hd⟩
   cases anc with
   | false=>exact .inl (hR rfl)
   | true=>exact .inr (Xtu ha rfl)
  ·rw[if_neg hg,Iy];exact⟨.inl (hrefl w),ih _ w h⟩
 intro π
 induction π with
 | nil=>
  intro fuel listed E w O h;refine⟨λ_ _=>?_,λi hi=>by cases hi⟩;simp only [Jj,List.isEmpty_iff]at O
  cases fuel with
  | zero=>exact⟨O,E,rfl,h⟩
  | succ k=>exact⟨λ_=>⟨E,rfl,h⟩,by rw[O];intro i hi;cases hi⟩
 | stop=>intro fuel listed E w _ _;exact⟨λ_ h=>absurd rfl h,λi hi=>by cases hi⟩
 | fork c ih=>
  intro fuel listed E w O h;simp only [Jj,Au]at O;obtain⟨⟨hh,hb⟩,J⟩:=O;simp only [Gs]at h;have hc:=(ih fuel listed E w J h).2;refine⟨λ_ _=>?_,λi hi=>by cases hi⟩;have hy:∀i∈Region.ready .any ops listed,i∈c.heads:=λi hi=>by simpa using AY.1 hh i hi
  cases fuel with
  | zero=>
   cases hr:Region.ready .any ops listed with
   | nil=>rw[hr]at hb;simp at hb
   | cons i r=>
    obtain⟨k,hk,_⟩:=hc i (hy i (by rw[hr];exact Al));omega
  | succ k=>
   refine⟨λh0=>by rw[h0]at hb;simp at hb,λi hi=>?_⟩;obtain⟨k',hk,hw⟩:=hc i (hy i hi);have:k'=k:=by omega
   subst this;exact hw
 | alt i anc sub others ihs iho=>
  intro fuel listed E w O h;refine⟨λh0=>by simp [Pl.heads]at h0,λj hj=>?_⟩
  cases fuel with
  | zero=>simp [Jj]at O
  | succ k=>
   simp only [Jj,Au]at O;obtain⟨⟨⟨⟨hr,ha⟩,hq⟩,h5⟩,hz⟩:=O;simp only [Gs]at h;rcases Aj.1 hj with rfl|hj'
   ·refine⟨k,rfl,hx j anc sub k listed E w (by simpa using hr) ha (λE' w' hd=>?_) h.1⟩;exact(ihs k _ E' w' h5 hd).1 (Pl.ok_spec hq).1 (Pl.ok_spec hq).2
   ·exact(iho (k+1) listed E w hz h.2).2 j hj'
 | one i f anc rest ih=>
  intro fuel listed E w O h;refine⟨λ_ _=>?_,λj hj=>by cases hj⟩
  cases fuel with
  | zero=>cases f<;>simp [Jj]at O
  | succ k=>
   cases f with
   | x=>
    simp only [Jj,Au]at O;obtain⟨⟨⟨hr,ha⟩,ho⟩,J⟩:=O;have z:Region.ready .any ops listed=[i]:=by simpa using hr
    simp only [Gs]at h;refine⟨λh0=>(by rw[h0]at z;cases z),λj hj=>?_⟩;rw[z,Ah]at hj;subst hj;exact hx j anc rest k listed E w (by rw[z];exact Ah.2 rfl) ha (λE' w' hd=>(ih k _ E' w' J hd).1 (Pl.ok_spec ho).1 (Pl.ok_spec ho).2) h
   | p=>
    simp only [Jj,Au]at O;obtain⟨⟨⟨hr,hf⟩,ho⟩,J⟩:=O;have z:i∈Region.ready .any ops listed:=by simpa using hr
    obtain⟨_,Y,hi,_⟩:=mem_ready.1 z;obtain⟨hn,Z⟩:=key i Y hi;simp only [Gs,hn]at h;split at h<;>rename_i hg
    ·obtain⟨v,hv,hd⟩:=h;exact Mb (B:=false) (v:=v) hrefl htrans (λh=>by cases h) hi (Region.noSelect_spec hsel) (hQ _ _) _ _ _ _ (Region.free_spec hi hf) z
      (P3 hok Z hg λw _=>hv w) (by rw[Iy];exact(ih k _ _ w J hd).1 (Pl.ok_spec ho).1 (Pl.ok_spec ho).2)
    ·exact Mb (B:=false) (v:=undef) hrefl htrans (λh=>by cases h) hi (Region.noSelect_spec hsel) (hQ _ _) _ _ _ _ (Region.free_spec hi hf) z
      (OO hok hg) (by rw[Iy];exact(ih k _ _ w J h).1 (Pl.ok_spec ho).1 (Pl.ok_spec ho).2)
   | l=>
    simp only [Jj,Au]at O;obtain⟨⟨⟨⟨hr,hf⟩,hl⟩,ho⟩,J⟩:=O;have z:i∈Region.ready .any ops listed:=by simpa using hr
    obtain⟨_,Y,hi,_⟩:=mem_ready.1 z;obtain⟨hn,Z⟩:=key i Y hi;simp only [Gs,hn]at h;split at h<;>rename_i hg
    ·obtain⟨v,hv,hd⟩:=h;exact Mb (B:=true) (v:=v) hrefl htrans (λ_=>by simpa using hl) hi (Region.noSelect_spec hsel) (hQ _ _) _ _ _ _ (Region.free_spec hi hf) z
      (P3 hok Z hg λw hw=>hv w (hw rfl)) (by rw[Iy];exact(ih k _ _ w J hd).1 (Pl.ok_spec ho).1 (Pl.ok_spec ho).2)
    ·exact Mb (B:=true) (v:=undef) hrefl htrans (λ_=>by simpa using hl) hi (Region.noSelect_spec hsel) (hQ _ _) _ _ _ _ (Region.free_spec hi hf) z
      (OO hok hg) (by rw[Iy];exact(ih k _ _ w J h).1 (Pl.ok_spec ho).1 (Pl.ok_spec ho).2)
theorem Lb {id:Nat}{l:List Oper}{Q:Exit->Fh->World->Prop}(hrefl:∀w,R w w)(htrans:∀a b c,R a b->R b c->R a c)(hm:P.follows .mixedOrders=true)
  (ld:List Nat) (π:Pl) (hp:(π.ok && Jj l.toArray ld π l.length (Cw l.length false))=true) (hsel:Region.noSelect l.toArray=true)
  (h:∀w1,w1=w.drew->Gs P n l (l.map (·.dst)) R π (λE w=>Q .normal E w) E w1):W P n (.region id l.toArray true) Q E w:=by
 intro ok;simp only [J7]at ok;simp only [Au]at hp;have h':=(Xlq (P:=P) (ld:=ld) hrefl htrans ok hsel π l.length (Cw l.length false) E w.drew hp.2 (by simpa using h _ rfl)).1 (Pl.ok_spec hp.1).1 (Pl.ok_spec hp.1).2;refine Code.wp_mono (Q:=GJ n (nf λE w=>Q .normal E w)) ?_ (wp_region_any hm (by simpa using QR _ _ _ _ h'));rintro e a w' ⟨E',rfl,hq⟩
 cases e<;>first|exact⟨E',rfl,hq⟩|exact hq.elim
theorem EX {l:List Oper}{ds:List (Option Tmp)}{i:Nat}{f:Fl}{anc:Bool}{rest:Pl}{K:Fh->World->Prop}
  (h:Dw P n ds R [(Ic l i,f,anc)] (λE' w'=>Gs P n l ds R rest K E' w') E w):Gs P n l ds R (.one i f anc rest) K E w:=by
 cases f<;>exact h
theorem Ju {l:List Oper}{ds:List (Option Tmp)}{c:Pl}{K:Fh->World->Prop}(h:Gs P n l ds R c K E w):Gs P n l ds R (.fork c) K E w:=h
theorem H6 {l:List Oper}{ds:List (Option Tmp)}{i:Nat}{anc:Bool}{sub others:Pl}{K:Fh->World->Prop}
 (h:Dw P n ds R [(Ic l i,.x,anc)] (λE' w'=>Gs P n l ds R sub K E' w') E w) (ho:Gs P n l ds R others K E w):Gs P n l ds R (.alt i anc sub others) K E w:=⟨h,ho⟩
theorem Jv {l:List Oper}{ds:List (Option Tmp)}{K:Fh->World->Prop} : Gs P n l ds R .stop K E w:=trivial
theorem Ii {l:List Oper}{ds:List (Option Tmp)}{K:Fh->World->Prop}(h:K E w):Gs P n l ds R .nil K E w:=h
end
abbrev EC := List UInt8
@[reducible] def S (l:EC):Value:=.string ⟨⟨l⟩⟩
@[reducible] def I (n:Int):Value:=.int .i64 n
@[reducible] def B (b:Bool):Value:=.bool b
@[reducible] def EE (b o:Nat):Value:=.pointer (some ⟨b,o,none⟩)
theorem P7 (l:EC):(⟨⟨l⟩⟩:ByteArray).size=l.length:=rfl
def Nl (P:Program)(T:TypeId):Bool:=match P.underlying T with
 | some (.struct _)|some (.array _ _)|none=>false
 | some _=>true
def KJ (P:Program)(T:TypeId):Option Nat:=match P.underlying T with
 | some (.struct _)|some (.array _ _)=>(P.info? T).map (·.size)
 | _=>none
def Mv (P:Program)(T f:Nat):Option Nat:=match P.underlying T with
 | some (.struct fs)=>match fs[f]? with
  | some x=>(P.info? x.type).bind λi=>if i.size=0 then none else some x.offset
  | none=>none
 | _=>none
def IC (P:Program)(T:TypeId):Option (TypeId×Nat):=match P.underlying T with
 | some (.slice e)=>(P.info? e).map λi=>(e,i.size)
 | _=>none
def Oj (P:Program)(T:TypeId):Option (Nat×TypeId×Nat):=match P.underlying T with
 | some (.array n e)=>(P.info? e).map λi=>(n,e,i.size)
 | _=>none
def JQ (P:Program)(T:TypeId):Bool:=match P.underlying T with|some .string=>true|_=>false
def UZ (P:Program)(T:TypeId):Bool:=match P.underlying T with|some .bool=>true|_=>false
def OA (P:Program)(T:TypeId):Bool:=match P.underlying T with|some (.pointer _)=>true|_=>false
def HG (P:Program)(T:TypeId):Option IntKind:=match P.underlying T with|some (.int k)=>some k|_=>none
section
variable {P:Program}{E:Fh}{d:Option Tmp}{ty:TypeId}{pos:String}{af:Array Edge}{g:Option (Nat×Bool)}{w:World}
theorem MB {x:Operand}{v:Value}(h:ev E x=v):PV P ⟨d,.move x,ty,pos,af,g⟩ E v:=λw=>by simp [execOp,h]
theorem Xtw {x:Operand}{v:Value}(h:ev E x=v):PV P ⟨d,.assign x,ty,pos,af,g⟩ E v:=λw=>by simp [execOp,h]
theorem X4j {c a b:Operand}{t:Bool}{x y:Value}(hc:ev E c=.bool t)(ha:ev E a=x)(hb:ev E b=y):PV P ⟨d,.pick c a b,ty,pos,af,g⟩ E (if t then x else y):=λw=>by
 simp [execOp,hc,asBool,ha,hb]
theorem NH {x y:Operand}{op:BinOp}{T U:TypeId}{k:IntKind}{a b c:Int}(hop:op=.add/\c=a+b\/op=.sub/\c=a-b\/op=.mul/\c=a*b)(hx:ev E x=.int k a)(hy:ev E y=.int k b) :
  PV P ⟨d,.binOp op T x y U,ty,pos,af,g⟩ E (.int k (k.wrap c)):=λw=>by
 rcases hop with⟨rfl,rfl⟩|⟨rfl,rfl⟩|⟨rfl,rfl⟩<;>simp [execOp,hx,hy,eqGuard,binOp,Op.intArith]
def EU (n:Int):Prop:=-9223372036854775808<=n/\n<=9223372036854775807
theorem KB {n:Int}(h:EU n):IntKind.i64.wrap n=n:=IntWalk.i64_in n h
theorem Gy {x y:Operand}{T U:TypeId}{a b:Int}(hx:ev E x=I a)(hy:ev E y=I b)(h:EU (a+b)):PV P ⟨d,.binOp .add T x y U,ty,pos,af,g⟩ E (I (a+b)):=by
 have:=NH (P:=P) (d:=d) (ty:=ty) (pos:=pos) (af:=af) (g:=g) (T:=T) (U:=U) (.inl ⟨rfl,rfl⟩) hx hy;rwa [KB h]at this
theorem Gr {x y:Operand}{T U:TypeId}{a b:Int}(hx:ev E x=I a)(hy:ev E y=I b)(h:EU (a-b)):PV P ⟨d,.binOp .sub T x y U,ty,pos,af,g⟩ E (I (a-b)):=by
 have:=NH (P:=P) (d:=d) (ty:=ty) (pos:=pos) (af:=af) (g:=g) (T:=T) (U:=U) (.inr (.inl ⟨rfl,rfl⟩)) hx hy;rwa [KB h]at this
theorem Ku {x y:Operand}{T U:TypeId}{a b:Int}(hx:ev E x=I a)(hy:ev E y=I b)(h:EU (a*b)):PV P ⟨d,.binOp .mul T x y U,ty,pos,af,g⟩ E (I (a*b)):=by
 have:=NH (P:=P) (d:=d) (ty:=ty) (pos:=pos) (af:=af) (g:=g) (T:=T) (U:=U) (.inr (.inr ⟨rfl,rfl⟩)) hx hy;rwa [KB h]at this
theorem X4k {x y:Operand}{T U:TypeId}{k:IntKind}{a b:Int}(hx:ev E x=.int k a)(hy:ev E y=.int k b):PV P ⟨d,.binOp .add T x y U,ty,pos,af,g⟩ E (.int k (k.wrap (a+b))):=NH (.inl ⟨rfl,rfl⟩) hx hy
theorem T5 {x y:Operand}{T U:TypeId}{k:IntKind}{a b:Int}(hx:ev E x=.int k a)(hy:ev E y=.int k b):PV P ⟨d,.binOp .mul T x y U,ty,pos,af,g⟩ E (.int k (k.wrap (a*b))):=NH (.inr (.inr ⟨rfl,rfl⟩)) hx hy
theorem Fb {x y:Operand}{T U:TypeId}{k:IntKind}{a b:Int}(hx:ev E x=.int k a)(hy:ev E y=.int k b):PV P ⟨d,.binOp .lss T x y U,ty,pos,af,g⟩ E (.bool (decide (a<b))):=λw=>by
 simp [execOp,hx,hy,eqGuard,binOp,Op.intCmp]
theorem IG {x y:Operand}{T U:TypeId}{k:IntKind}{a b:Int}(hx:ev E x=.int k a)(hy:ev E y=.int k b):PV P ⟨d,.binOp .leq T x y U,ty,pos,af,g⟩ E (.bool (decide (a<=b))):=λw=>by
 simp [execOp,hx,hy,eqGuard,binOp,Op.intCmp]
theorem Gg {x y:Operand}{T U:TypeId}{k:IntKind}{a b:Int}(hx:ev E x=.int k a)(hy:ev E y=.int k b):PV P ⟨d,.binOp .gtr T x y U,ty,pos,af,g⟩ E (.bool (decide (b<a))):=λw=>by
 simp [execOp,hx,hy,eqGuard,binOp,Op.intCmp]
theorem IA {x y:Operand}{T U:TypeId}{k:IntKind}{a b:Int}(hx:ev E x=.int k a)(hy:ev E y=.int k b):PV P ⟨d,.binOp .geq T x y U,ty,pos,af,g⟩ E (.bool (decide (b<=a))):=λw=>by
 simp [execOp,hx,hy,eqGuard,binOp,Op.intCmp]
theorem GB {x y:Operand}{T U:TypeId}{k:IntKind}{a b:Int}(hx:ev E x=.int k a)(hy:ev E y=.int k b):PV P ⟨d,.binOp .eql T x y U,ty,pos,af,g⟩ E (.bool (decide (a=b))):=λw=>by
 simp [execOp,hx,hy,eqGuard,binOp,Op.intCmp];exact(Bool.beq_eq_decide_eq a b)
theorem FH {x y:Operand}{T U:TypeId}{k:IntKind}{a b:Int}(hx:ev E x=.int k a)(hy:ev E y=.int k b):PV P ⟨d,.binOp .neq T x y U,ty,pos,af,g⟩ E (.bool (decide (a≠b))):=λw=>by
 simp [execOp,hx,hy,eqGuard,binOp,Op.intCmp]
 by_cases h:a=b<;>simp [h]
theorem JO {x:Operand}{T U:TypeId}{k k':IntKind}{a:Int}(hx:ev E x=.int k' a)(hT:(P.underlying T).isSome=true)(hU:HG P U=some k):PV P ⟨d,.convert T U x,ty,pos,af,g⟩ E (.int k (k.wrap a)):=λw=>by
 obtain⟨dT,r⟩:=Option.isSome_iff_exists.1 hT;have z:P.underlying U=some (.int k):=by
  unfold HG at hU;split at hU
  ·rename_i h;cases hU;exact h
  ·cases hU
 simp [execOp,hx,convert,underlying,r,z,Conv.intToInt]
theorem MU {x y:Operand}{T U:TypeId}{a b:EC}(hx:ev E x=S a)(hy:ev E y=S b):PV P ⟨d,.binOp .eql T x y U,ty,pos,af,g⟩ E (.bool (decide (a=b))):=λw=>by
 simp [execOp,hx,hy,eqGuard,binOp,Op.stringOp]
 by_cases h:a=b<;>simp [h]
theorem Me {x y:Operand}{T U:TypeId}{a b:EC}(hx:ev E x=S a)(hy:ev E y=S b):PV P ⟨d,.binOp .neq T x y U,ty,pos,af,g⟩ E (.bool (decide (a≠b))):=λw=>by
 simp [execOp,hx,hy,eqGuard,binOp,Op.stringOp]
 by_cases h:a=b<;>simp [h]
theorem OL {x y:Operand}{T U:TypeId}{a b:EC}(hx:ev E x=S a)(hy:ev E y=S b):PV P ⟨d,.binOp .lss T x y U,ty,pos,af,g⟩ E (.bool (Op.bytesLess a b)):=λw=>by
 simp [execOp,hx,hy,eqGuard,binOp,Op.stringOp]
theorem RW {x y:Operand}{T U:TypeId}{a b:EC}(hx:ev E x=S a)(hy:ev E y=S b):PV P ⟨d,.binOp .geq T x y U,ty,pos,af,g⟩ E (.bool (!Op.bytesLess a b)):=λw=>by
 simp [execOp,hx,hy,eqGuard,binOp,Op.stringOp]
theorem II {x y:Operand}{T U:TypeId}{a b:EC}(hx:ev E x=S a)(hy:ev E y=S b)(h:a.length+b.length<=9223372036854775807):PV P ⟨d,.binOp .add T x y U,ty,pos,af,g⟩ E (S (a++b)):=λw=>by
 have h':¬ ((((⟨⟨a⟩⟩:ByteArray).size+(⟨⟨b⟩⟩:ByteArray).size:Nat):Int) > IntKind.i64.max):=by
  have e:IntKind.i64.max=9223372036854775807:=rfl;rw[e,P7,P7];omega
 have e:(⟨⟨a⟩⟩:ByteArray)++⟨⟨b⟩⟩=⟨⟨a++b⟩⟩:=by
  show ByteArray.append _ _=_;simp [ByteArray.append]
 have e2:(Op.stringOp .add ⟨⟨a⟩⟩ ⟨⟨b⟩⟩:Sem Value)=pure (S (a++b)):=by
  unfold Op.stringOp;simp only [];rw[if_neg h',e]
 simp only [execOp,hx,hy,eqGuard,binOp,e2];rfl
theorem X4l {x:Operand}{T:TypeId}{a:EC}(hT:JQ P T=true)(hx:ev E x=S a):PV P ⟨d,.call { callee:=.builtin .len,args:=#[x],argTypes:=#[T] },ty,pos,af,g⟩ E (I a.length):=λw=>by
 have r:P.underlying T=some .string:=by
  unfold JQ at hT;split at hT<;>first|assumption|cases hT
 simp [execOp,resolve,invoke,builtin,Builtin.len_,underlying,r,hx,goInt,P7]
theorem Pe {x y:Operand}{T:TypeId}{a:EC}{i:Nat}{c:UInt8}(hT:JQ P T=true)(hx:ev E x=S a)(hy:ev E y=I i)(hi:a[i]?=some c):PV P ⟨d,.index T x y,ty,pos,af,g⟩ E (.int .u8 c.toNat):=λw=>by
 have z:P.underlying T=some .string:=by
  unfold JQ at hT;split at hT<;>first|assumption|cases hT
 have e:(⟨⟨a⟩⟩:ByteArray)[(i:Int).toNat]?=some c:=by
  rw[B7];have r:i<a.length:=(Ap.1 hi).1;rw[getElem?_pos _ i r];exact hi▸(by rw[Ar r];rfl)
 have e2:(⟨⟨a⟩⟩:ByteArray)[i]?=some c:=by simpa using e
 simp [execOp,Instr.index,asIntOf,hx,hy,underlying,z,e2]
theorem W7 {T:TypeId}(h:Nl P T=true):(isAgg T).run P w=.ok false w:=by
 unfold Nl at h;unfold isAgg underlying
 cases hu:P.underlying T with
 | none=>rw[hu]at h;simp at h
 | some u=>rw[hu]at h;cases u<;>simp [hu]at h ⊢
theorem Ml {T k:Nat}(h:KJ P T=some k):(isAgg T).run P w=.ok true w/\(sizeOf T).run P w=.ok k w:=by
 unfold KJ at h;have key:∀u,P.underlying T=some u->(P.info? T).map (·.size)=some k->(u matches .struct _ | .array _ _)=true->(isAgg T).run P w=.ok true w/\(sizeOf T).run P w=.ok k w:=by
  intro u hu hk hm;obtain⟨i,hi,hs⟩:=Bb.1 hk
  constructor
  ·unfold isAgg underlying
   cases u<;>simp [hu]at hm ⊢
  ·simp [sizeOf,typeInfo,hi,hs]
 cases hu:P.underlying T with
 | none=>rw[hu]at h;simp at h
 | some u=>rw[hu]at h;cases u<;>simp at h<;>exact key _ hu (by simpa using h) rfl
theorem Xtz {x:Operand}{T f o b k:Nat}(hT:Mv P T f=some k)(hx:ev E x=.pointer (some ⟨b,o,none⟩)):PV P ⟨d,.fieldAddr T x f,ty,pos,af,g⟩ E (.pointer (some ⟨b,o+k,none⟩)):=λw=>by
 unfold Mv at hT
 cases hu:P.underlying T with
 | none=>rw[hu]at hT;simp at hT
 | some u=>
  rw[hu]at hT
  cases u<;>simp at hT
  rename_i fs
  cases hf:fs[f]? with
  | none=>rw[hf]at hT;simp at hT
  | some fl=>
   rw[hf]at hT;simp only [CT]at hT;obtain⟨i,hi,hs⟩:=hT;have r:i.size≠0:=λe=>by rw[if_pos e]at hs;cases hs
   rw[if_neg r]at hs
   cases hs
   have z:(⟨b,o,none⟩:Addr).add fl.offset=⟨b,o+fl.offset,none⟩:=by
    unfold Addr.add;split
    ·rename_i e;simp [e]
    ·rfl
   simp [execOp,Instr.fieldAt,underlying,hu,hf,hx,Instr.sureAddr,fieldPlace,sizeOf,typeInfo,hi,r,z]
def base (v:Value):Nat×Nat:=match v with
 | .slice (some a) _ _=>(a.block,a.off)
 | _=>(0,0)
def Gd (v:Value)(n:Nat):Prop:=(v=.slice none 0 0/\n=0)\/(∃b o c,v=.slice (some ⟨b,o,none⟩) n c/\n<=c)\/(n=0/\∃a c,v=.slice (some a) 0 c)
theorem JL {T e k:Nat}(h:IC P T=some (e,k)):P.underlying T=some (.slice e)/\∃i,P.info? e=some i/\i.size=k:=by
 unfold IC at h
 cases hu:P.underlying T with
 | none=>rw[hu]at h;simp at h
 | some u=>
  rw[hu]at h
  cases u<;>simp at h
  rename_i e';obtain⟨i,hi,rfl,rfl⟩:=h;exact⟨rfl,i,hi,rfl⟩
theorem Q5 {T m e k:Nat}(h:Oj P T=some (m,e,k)):P.underlying T=some (.array m e)/\∃i,P.info? e=some i/\i.size=k:=by
 unfold Oj at h
 cases hu:P.underlying T with
 | none=>rw[hu]at h;simp at h
 | some u=>
  rw[hu]at h
  cases u<;>simp at h
  rename_i e';obtain⟨i,hi,rfl,rfl,rfl⟩:=h;exact⟨rfl,i,hi,rfl⟩
theorem QS {x:Operand}{T e k n:Nat}{v:Value}(hT:IC P T=some (e,k))(hv:Gd v n)(hx:ev E x=v):PV P ⟨d,.call { callee:=.builtin .len,args:=#[x],argTypes:=#[T] },ty,pos,af,g⟩ E (I n):=λw=>by
 obtain⟨hu,_⟩:=JL hT;rcases hv with⟨rfl,rfl⟩|⟨b,o,c,rfl,_⟩|⟨rfl,a,c,rfl⟩<;>simp [execOp,resolve,invoke,builtin,Builtin.len_,underlying,hu,hx,goInt]
theorem HY {x y:Operand}{T e k n i:Nat}{v:Value}(hT:IC P T=some (e,k))(hv:Gd v n)(hx:ev E x=v)(hy:ev E y=I i)(hi:i<n) :
  PV P ⟨d,.indexAddr T x y,ty,pos,af,g⟩ E (EE (base v).1 ((base v).2+i*k)):=λw=>by
 obtain⟨hu,f,z,hk⟩:=JL hT;rcases hv with⟨rfl,rfl⟩|⟨b,o,c,rfl,_⟩|⟨rfl,a,c,rfl⟩
 ·omega
 rotate_left
 ·omega
 ·have J:(⟨b,o,none⟩:Addr).add (i*k)=⟨b,o+i*k,none⟩:=by
   unfold Addr.add;split
   ·rename_i e;simp [e]
   ·rfl
  have r:(0:Int)<=(i:Int)/\(i:Int)<(n:Int):=by omega
  simp [execOp,Instr.indexAt,asIntOf,underlying,hu,hx,hy,sizeOf,typeInfo,z,hk,base,r,J];omega
theorem Ko {x y:Operand}{T e k m i b o:Nat}(hT:Oj P T=some (m,e,k))(hx:ev E x=EE b o)(hy:ev E y=I i)(hi:i<m) :
  PV P ⟨d,.indexAddr T x y,ty,pos,af,g⟩ E (EE b (o+i*k)):=λw=>by
 obtain⟨hu,f,z,hk⟩:=Q5 hT;have J:(⟨b,o,none⟩:Addr).add (i*k)=⟨b,o+i*k,none⟩:=by
  unfold Addr.add;split
  ·rename_i e;simp [e]
  ·rfl
 have r:(0:Int)<=(i:Int)/\(i:Int)<(m:Int):=by omega
 simp [execOp,Instr.indexAt,asIntOf,underlying,hu,hx,hy,sizeOf,typeInfo,z,hk,r,J,Instr.sureAddr];omega
theorem X4m {x:Operand}{a:Addr}(hx:ev E x=.pointer (some a)):PV P ⟨d,.nilCheck x,ty,pos,af,g⟩ E (.pointer (some a)):=λw=>by
 simp [execOp,hx]
theorem X8m {x:Operand}{T:TypeId}{b:Bool}(hx:ev E x=.bool b):PV P ⟨d,.unOp .not T x,ty,pos,af,g⟩ E (.bool (!b)):=λw=>by
 simp [execOp,hx,Op.unary]
theorem X8n {x:Operand}{i:Nat}{vs:List Value}{v:Value}(hx:ev E x=.tuple ⟨vs⟩)(hv:vs[i]?=some v):PV P ⟨d,.extract x i,ty,pos,af,g⟩ E v:=λw=>by
 simp [execOp,hx,Instr.extract,hv]
theorem PE (op:BinOp)(T U:TypeId)(x y:Operand)(w:World)(v:Value)(hg:∀w,(eqGuard op T x y (ev E x) (ev E y)).run P w=.ok () w)(h:(binOp op T (ev E x) (ev E y)).run P w=.ok v w) :
  (execOp (ev E) ⟨d,.binOp op T x y U,ty,pos,af,g⟩).run P w=.ok (.value v) w:=by
 simp [execOp,hg,h]
theorem X8o {x y:Operand}{T U:TypeId}{a b:Bool}(hT:UZ P T=true)(hx:ev E x=.bool a)(hy:ev E y=.bool b):PV P ⟨d,.binOp .eql T x y U,ty,pos,af,g⟩ E (.bool (decide (a=b))):=λw=>by
 have r:P.underlying T=some .bool:=by
  unfold UZ at hT;split at hT<;>first|assumption|cases hT
 refine PE _ _ _ _ _ _ _ (λw=>by simp [hx,hy,eqGuard]) ?_;rw[hx,hy,run_eql_bool _ _ _ _ r]
 cases a<;>cases b<;>rfl
theorem SN {T:TypeId}(h:OA P T=true):P.underlying T=some (.pointer (P.pointee T)):=by
 unfold OA at h;split at h
 ·rename_i e he;simp [Program.pointee,he]
 ·cases h
theorem Gi {x y:Operand}{T U:TypeId}{a:Option Addr}(hT:OA P T=true)(hx:ev E x=.pointer a)(hy:ev E y=.pointer none):PV P ⟨d,.binOp .eql T x y U,ty,pos,af,g⟩ E (.bool (decide (a=none))):=λw=>by
 refine PE _ _ _ _ _ _ _ (λw=>by simp [hx,hy,eqGuard]) ?_;rw[hx,hy,run_eql_pointer_nil _ _ _ (SN hT)]
 cases a<;>rfl
theorem Nt {x y:Operand}{T U:TypeId}{a:Option Addr}(hT:OA P T=true)(hx:ev E x=.pointer a)(hy:ev E y=.pointer none):PV P ⟨d,.binOp .neq T x y U,ty,pos,af,g⟩ E (.bool (decide (a≠none))):=λw=>by
 refine PE _ _ _ _ _ _ _ (λw=>by simp [hx,hy,eqGuard]) ?_;rw[hx,hy,run_neq_pointer_nil _ _ _ (SN hT)]
 cases a<;>rfl
theorem Xy5 (w:World)(t e:TypeId)(a:Option Addr)(l c:Nat)(h:P.underlying t=some (.slice e)):(binOp .eql t (.slice a l c) (.slice none 0 0)).run P w=.ok (.bool a.isNone) w:=by
 have e1:(Op.equalIn (9999+1) t (.slice a l c) (.slice none 0 0)).run P w=.ok a.isNone w:=by
  rw[Op.equalIn]
  cases a<;>simp [underlying,h]
 simp only [binOp,Op.equal,Op.maxDepth,Sem.run_bind,e1];rfl
theorem R0 {x y:Operand}{T U e k:Nat}{a:Option Addr}{n c:Nat}(hT:IC P T=some (e,k))(hx:ev E x=.slice a n c)(hy:ev E y=.slice none 0 0):PV P ⟨d,.binOp .eql T x y U,ty,pos,af,g⟩ E (.bool (decide (a=none))):=λw=>by
 obtain⟨he,_⟩:=JL hT;refine PE _ _ _ _ _ _ _ (λw=>by simp [hx,hy,eqGuard]) ?_;rw[hx,hy,Xy5 _ _ _ _ _ _ he]
 cases a<;>rfl
theorem JX {k:IntKind}{i:Int}{y:Nat}{c:BoundsCode}(h:0<=i/\i<=y)(w:World):(Instr.sliceBound (.int k i) y c).run P w=.ok i.toNat w:=by
 simp [Instr.sliceBound,asIntOf,h]
theorem Xt1 (s:EC)(a b:Nat):(⟨⟨s⟩⟩:ByteArray).extract a b=⟨⟨(s.take b).drop a⟩⟩:=by
 have h1:((⟨⟨s⟩⟩:ByteArray).extract a b).data=(#[].extract 0 0++(⟨s⟩:Array UInt8).extract a (a+(b-a))) ++ #[].extract (0+min (b-a) ((⟨s⟩:Array UInt8).size-a)) 0:=rfl
 apply ByteArray.ext
 rw[h1]
 apply DW
 simp [List.drop_take]
def bnd (E:Fh)(d:Nat)(x:Option Operand)(a:Nat):Prop:=match x with
 | some l=>ev E l=I a
 | none=>a=d
theorem V9 {x:Operand}{lo hi:Option Operand}{T a b:Nat}{s:EC}(hT:JQ P T=true)(hx:ev E x=S s)
  (hlo:bnd E 0 lo a) (hhi:bnd E s.length hi b) (h1:a<=b) (h2:b<=s.length) :
  PV P ⟨d,.slice T x lo hi none,ty,pos,af,g⟩ E (S ((s.take b).drop a)):=λw=>by
 have r:P.underlying T=some .string:=by
  unfold JQ at hT;split at hT<;>first|assumption|cases hT
 have z:(0:Int)<=(b:Int)/\(b:Int)<=(s.length:Int):=by omega
 have J:(0:Int)<=(a:Int)/\(a:Int)<=(b:Int):=by omega
 have key:(Instr.sliceBounds false s.length s.length (lo.map (ev E)) (hi.map (ev E)) none).run P w=.ok (a,b,s.length) w:=by
  unfold bnd at hlo hhi
  cases lo<;>cases hi<;>simp only []at hlo hhi<;>subst_vars<;>simp only [CU,Instr.sliceBounds,Sem.run_bind,Sem.run_pure,Result.andThen_ok, *] <;>
   simp only [JX z,JX J,Result.andThen_ok,B7]<;>rfl
 have e1:(Instr.sliceAt T (.string ⟨⟨s⟩⟩) (lo.map (ev E)) (hi.map (ev E)) none).run P w=.ok (S ((s.take b).drop a)) w:=by
  simp [Instr.sliceAt,Instr.slice,underlying,r,P7,key,Xt1]
 simp only [execOp,hx,Cn,Sem.run_bind,e1];rfl
end
structure Mod (S:Nat->Prop)(w w':World):Prop where
 os:w'.os=w.os
 tape:w'.tape=w.tape
 output:w'.output=w.output
 size:w.heap.size<=w'.heap.size
 block:∀k,k<w.heap.size->¬ S k->w'.heap[k]?=w.heap[k]?
def noB : Nat->Prop:=λ_=>False
abbrev ED (w w':World):Prop:=Mod noB w w'
def ET (b:Nat):Nat->Prop:=λk=>k=b
theorem Mod.refl (S:Nat->Prop)(w:World):Mod S w w:=⟨rfl,rfl,rfl,Ab _,λ_ _ _=>rfl⟩
theorem ED.refl (w:World):ED w w:=Mod.refl _ w
theorem Mod.trans {S T U:Nat->Prop}{a b c:World}(h:Mod S a b)(k:Mod T b c)(hS:∀i,S i->U i)(hT:∀i,T i->i<a.heap.size->U i):Mod U a c:=
 ⟨k.os.trans h.os,k.tape.trans h.tape,k.output.trans h.output,Ai h.size k.size,λi hi J=>
  (k.block i (Nat.lt_of_lt_of_le hi h.size) (λr=>J (hT i r hi))).trans (h.block i hi (λz=>J (hS i z)))⟩
theorem Mod.ext {S:Nat->Prop}{a b c:World}(h:Mod S a b)(k:ED b c):Mod S a c:=h.trans k (λ_ h=>h) (λ_ h _=>h.elim)
theorem ED.trans {a b c:World}(h:ED a b)(k:ED b c):ED a c:=Mod.ext h k
theorem ED.mod {S:Nat->Prop}{a b c:World}(h:ED a b)(k:Mod S b c):Mod S a c:=Mod.trans h k (λ_ h=>h.elim) (λ_ h _=>h)
theorem Mod.mono {S U:Nat->Prop}{a b:World}(h:Mod S a b)(hS:∀i,S i->i<a.heap.size->U i):Mod U a b:=
 ⟨h.os,h.tape,h.output,h.size,λi hi r=>h.block i hi (λs=>r (hS i s hi))⟩
theorem ED.own {S:Nat->Prop}{a b c:World}(h:ED a b)(k:Mod S b c)(hS:∀i,S i->a.heap.size<=i):ED a c:=
 Mod.trans h k (λ_ h=>h) (λi h hi=>by have:=hS i h;omega)
theorem Mod.own {S T:Nat->Prop}{a b c:World}(h:Mod T a b)(k:Mod S b c)(hS:∀i,S i->i<a.heap.size->T i):Mod T a c:=
 Mod.trans h k (λ_ h=>h) hS
theorem ED.drew (w:World):ED w w.drew:=⟨rfl,rfl,rfl,Ab _,λ_ _ _=>rfl⟩
theorem ED.alloc (w:World)(o:Obj):ED w (w.alloc o):=⟨rfl,rfl,rfl,by simp,λk hk _=>Below.heap_alloc _ _ _ hk⟩
theorem ED.below {w w':World}(h:ED w w'):Below w.heap.size w w':=⟨h.os,h.tape,h.output,h.size,λk hk=>h.block k hk (λh=>h)⟩
theorem ED.of_below {w w':World}(h:Below w.heap.size w w'):ED w w':=⟨h.os,h.tape,h.output,h.size,λk hk _=>h.block k hk⟩
theorem ED.of_grown {w w':World}(h:w.grownBy w' none):ED w w':=⟨h.os,h.tape,h.output,h.size,λk hk _=>h.block k hk ER⟩
theorem Mod.of_grown {w w':World}{r:Option Nat}(h:w.grownBy w' r):Mod (λk=>r=some k) w w':=⟨h.os,h.tape,h.output,h.size,λk hk hn=>h.block k hk (λe=>hn e.symm)⟩
theorem Mod.cell {S:Nat->Prop}{w w':World}(h:Mod S w w'){b o:Nat}{v:Value}(hc:w.cell? ⟨b,o,none⟩=some v)(hS:¬ S b):w'.cell? ⟨b,o,none⟩=some v:=by
 have r:=World.block_lt_of_cell? (w:=w) (a:=⟨b,o,none⟩) hc;rw[World.cell?_of_block (w:=w) (h.block b r hS)];exact hc
def EK (w:World)(b:Nat)(cs:List Value)(T:TypeId):Prop:=w.heap[b]?=some (.cells ⟨cs⟩ T (0,0))
theorem EK.lt {w:World}{b:Nat}{cs:List Value}{T:TypeId}(h:EK w b cs T):b<w.heap.size:=(Array.getElem?_eq_some_iff.1 h).1
theorem EK.mod {S:Nat->Prop}{w w':World}{b:Nat}{cs:List Value}{T:TypeId}(h:EK w b cs T)(m:Mod S w w')(hS:¬ S b):EK w' b cs T:=by
 have r:=h.lt;unfold EK at *;rw[m.block b r hS];exact h
theorem EK.ext {w w':World}{b:Nat}{cs:List Value}{T:TypeId}(h:EK w b cs T)(m:ED w w'):EK w' b cs T:=h.mod m (λh=>h)
theorem EK.at {w:World}{b k:Nat}{cs:List Value}{T:TypeId}{v:Value}(h:EK w b cs T)(hk:cs[k]?=some v):w.cell? ⟨b,k,none⟩=some v:=by
 unfold EK at h;simp [World.cell?,h];simpa using hk
theorem EK.free {w:World}{b k:Nat}{cs:List Value}{T:TypeId}(h:EK w b cs T):w.frozen? ⟨b,k,none⟩=false:=by
 unfold EK at h;simp [World.frozen?,h]
def I9 (w:World)(b o:Nat)(cs:List Value):Prop:=∀i v,cs[i]?=some v->w.cell? ⟨b,o+i,none⟩=some v
theorem I9.mod {S:Nat->Prop}{w w':World}{b o:Nat}{cs:List Value}(h:I9 w b o cs)(m:Mod S w w')(hS:¬ S b):I9 w' b o cs:=λi v hi=>m.cell (h i v hi) hS
theorem I9.at {w:World}{b o k:Nat}{cs:List Value}{v:Value}(h:I9 w b o cs)(hk:cs[k]?=some v):w.cell? ⟨b,o+k,none⟩=some v:=h k v hk
theorem EK.row {w:World}{b:Nat}{cs:List Value}{T:TypeId}(h:EK w b cs T):I9 w b 0 cs:=λi v hi=>by rw[A9];exact h.at hi
theorem EK.part {w:World}{b:Nat}{cs:List Value}{T:TypeId}(o n:Nat)(h:EK w b cs T):I9 w b o ((cs.drop o).take n):=λi v hi=>h.at (by
 rw[AW]at hi;split at hi
 ·rw[Bz]at hi;exact hi
 ·cases hi)
structure Slc (sz:Nat)(w:World)(v:Value)(xs:List (List Value)):Prop where
 sl:Gd v xs.length
 at':∀i cs,xs[i]?=some cs->cs.length=sz/\I9 w (base v).1 ((base v).2+i*sz) cs
theorem Slc.mod {S:Nat->Prop}{sz:Nat}{w w':World}{v:Value}{xs:List (List Value)}(h:Slc sz w v xs)(m:Mod S w w')(hS:xs≠[]->¬ S (base v).1):Slc sz w' v xs:=
 ⟨h.sl,λi cs hi=>⟨(h.at' i cs hi).1,(h.at' i cs hi).2.mod m (hS (λe=>by rw[e]at hi;simp at hi))⟩⟩
theorem Slc.ext {sz:Nat}{w w':World}{v:Value}{xs:List (List Value)}(h:Slc sz w v xs)(m:ED w w'):Slc sz w' v xs:=h.mod m (λ_ h=>h)
theorem Slc.row {sz:Nat}{w:World}{v:Value}{xs:List (List Value)}{i:Nat}{cs:List Value}(h:Slc sz w v xs)(hi:xs[i]?=some cs):I9 w (base v).1 ((base v).2+i*sz) cs:=(h.at' i cs hi).2
theorem Slc.nil (sz:Nat)(w:World):Slc sz w (.slice none 0 0) []:=⟨.inl ⟨rfl,rfl⟩,λi cs hi=>by simp at hi⟩
def EQ {α:Type}(enc:α->List Value)(sz:Nat)(w:World)(v:Value)(l:List α):Prop:=Slc sz w v (l.map enc)
section
variable {α:Type}{enc:α->List Value}{sz:Nat}{w w':World}{v:Value}{l:List α}
theorem EQ.sl (h:EQ enc sz w v l):Gd v l.length:=by have:=Slc.sl h;rwa [Ao]at this
theorem EQ.row {i:Nat}{x:α}(h:EQ enc sz w v l)(hi:l[i]?=some x):I9 w (base v).1 ((base v).2+i*sz) (enc x):=Slc.row h (by rw[AD,hi];rfl)
theorem EQ.ext (h:EQ enc sz w v l)(m:ED w w'):EQ enc sz w' v l:=Slc.ext h m
theorem EQ.mod {S:Nat->Prop}(h:EQ enc sz w v l)(m:Mod S w w')(hS:l≠[]->¬ S (base v).1):EQ enc sz w' v l:=Slc.mod h m (λe=>hS (λe2=>e (by rw[e2];rfl)))
theorem EQ.lt {i:Nat}{x:α}(h:EQ enc sz w v l)(hi:l[i]?=some x):i<l.length:=(Ap.1 hi).1
theorem EQ.nil : EQ enc sz w (.slice none 0 0) []:=Slc.nil sz w
theorem EQ.blk {x:α}(h:EQ enc sz w v l)(hsz:0<sz)(hi:l[0]?=some x):(base v).1<w.heap.size:=by
 obtain⟨h1,h2⟩:=Slc.at' h 0 (enc x) (by rw[AD,hi];rfl)
 cases he:enc x with
 | nil=>rw[he]at h1;simp at h1;omega
 | cons c r=>exact World.block_lt_of_cell? (w:=w) (a:=⟨_,_,none⟩) (h2 0 c (by rw[he];rfl))
end
section
variable {P:Program}{n:Nat}{ds:List (Option Tmp)}{R:World->World->Prop}{r:List (Oper×Fl×Bool)}{K:Fh->World->Prop}{E:Fh}{w:World}
variable {d:Nat}{op:Op}{ty:TypeId}{pos:String}{af:Array Edge}{g:Option (Nat×Bool)}{anc:Bool}{v:Value}
theorem EH (h:K E w):Dw P n ds R [] K E w:=h
theorem Ke (hg:FK ds E g=true)(hv:PV P ⟨some d,op,ty,pos,af,g⟩ E v)(h:Dw P n ds R r K (FT E d v) w):Dw P n ds R ((⟨some d,op,ty,pos,af,g⟩,.p,anc) :: r) K E w:=by
 unfold Dw;rw[if_pos hg];exact⟨v,hv,h⟩
theorem EW {v':Value}(hg:FK ds E g=true)(hv:PV P ⟨some d,op,ty,pos,af,g⟩ E v')(hn:v'=v)(h:Dw P n ds R r K (FT E d v) w):Dw P n ds R ((⟨some d,op,ty,pos,af,g⟩,.p,anc) :: r) K E w:=
 Ke hg (hn▸hv) h
theorem Ycs {x:Operand}(hg:FK ds E g=true)(hx:ev E x=v)(h:Dw P n ds R r K (FT E d v) w):Dw P n ds R ((⟨some d,.move x,ty,pos,af,g⟩,.p,anc) :: r) K E w:=Ke hg (MB hx) h
theorem Yct {x:Operand}(hg:FK ds E g=true)(hx:ev E x=v)(h:Dw P n ds R r K (FT E d v) w):Dw P n ds R ((⟨some d,.assign x,ty,pos,af,g⟩,.p,anc) :: r) K E w:=Ke hg (Xtw hx) h
theorem FW (hg:FK ds E g=true)(hv:∀w',R w w'->LV P ⟨some d,op,ty,pos,af,g⟩ E w' v)(h:Dw P n ds R r K (FT E d v) w):Dw P n ds R ((⟨some d,op,ty,pos,af,g⟩,.l,anc) :: r) K E w:=by
 unfold Dw;rw[if_pos hg];exact⟨v,hv,h⟩
theorem X8p {f:Fl}(hg:FK ds E g=false)(h:Dw P n ds R r K (FT E d undef) w):Dw P n ds R ((⟨some d,op,ty,pos,af,g⟩,f,anc) :: r) K E w:=by
 cases f<;>(unfold Dw;rw[if_neg (by rw[hg];decide)];exact h)
theorem MS {o:Oper}(hg:FK ds E o.guard=true)(h:XW P n o E w (λE' w'=>(anc=false->R w w')/\Dw P n ds R r K E' w')):Dw P n ds R ((o,.x,anc) :: r) K E w:=by
 unfold Dw;rw[if_pos hg];exact h
theorem I5 {l:List (Oper×Fl×Bool)}(s:Nat){b:Bool}(hb:E s=.bool b)(ht:b=true->Dw P n ds R l K (FT E s (.bool true)) w)(hf:b=false->Dw P n ds R l K (FT E s (.bool false)) w):Dw P n ds R l K E w:=by
 cases b with
 | true=>have:=ht rfl;rwa [Q4 E s _ hb]at this
 | false=>have:=hf rfl;rwa [Q4 E s _ hb]at this
theorem F4 {l:List (Oper×Fl×Bool)}(s:Nat){p:Prop}[Decidable p](hb:E s=.bool (decide p))(ht:p->Dw P n ds R l K (FT E s (.bool true)) w)(hf:¬ p->Dw P n ds R l K (FT E s (.bool false)) w):Dw P n ds R l K E w:=
 I5 s hb (λh=>ht (of_decide_eq_true h)) (λh=>hf (of_decide_eq_false h))
def RX (R:World->World->Prop)(anc:Bool):Prop:=anc=true\/∀w w',ED w w'->R w w'
theorem RX.ext {anc:Bool} : RX ED anc:=.inr λ_ _ h=>h
theorem RX.all : RX R true:=.inl rfl
theorem RX.use {anc:Bool}(h:RX R anc){w w':World}(he:ED w w'):anc=false->R w w':=λe=>h.elim (λh=>by rw[h]at e;cases e) (λh=>h _ _ he)
theorem HM {o:Oper}{w':World}{v:Value}(hg:FK ds E o.guard=true)(hr:(execOp (ev E) o).run P w=.ok (.value v) w')(hR:anc=false->R w w')(h:Dw P n ds R r K (Gu E o.dst v) w'):Dw P n ds R ((o,.x,anc) :: r) K E w:=by
 refine MS hg λok=>?_;unfold Oper.wp;rw[Mi ok,hr];exact⟨_,Iy _ _ _ _,hR,h⟩
theorem Qg {o:Oper}{w':World}(hg:FK ds E o.guard=true)(hr:(execOp (ev E) o).run P w=.ok .skip w')(hR:anc=false->R w w')(h:Dw P n ds R r K (Gu E o.dst undef) w'):Dw P n ds R ((o,.x,anc) :: r) K E w:=by
 refine MS hg λok=>?_;unfold Oper.wp;rw[Mi ok,hr];exact⟨_,Iy _ _ _ _,hR,h⟩
theorem ME {x:Operand}{T b o:Nat}{v:Value}{dd:Option Tmp}(hT:Nl P T=true)(hx:ev E x=EE b o)(hc:w.cell? ⟨b,o,none⟩=some v):LV P ⟨dd,.load T x,ty,pos,af,g⟩ E w v:=by
 unfold LV;simp [execOp,hx,Instr.loadAt,Instr.sureAddr,loadVar,W7 hT,hc]
theorem PX {b o:Nat} : ∀(cs:List Value) (i:Nat) (z:Array Value),(∀j v,cs[j]?=some v->w.cell? ⟨b,o+i+j,none⟩=some v)->
  (loadCellsFrom ⟨b,o,none⟩ i cs.length z).run P w=.ok (z++cs.toArray) w:=by
 intro cs
 induction cs with
 | nil=>intro i z _;simp [loadCellsFrom]
 | cons v r ih=>
  intro i z h;have h0:w.cell? ⟨b,o+i,none⟩=some v:=by simpa using h 0 v rfl
  have O:(⟨b,o,none⟩:Addr).add i=⟨b,o+i,none⟩:=by
   unfold Addr.add;split
   ·rename_i e;simp [e]
   ·rfl
  have Y:=ih (i+1) (z.push v) (λj u J=>by have:=h (j+1) u (by simpa using J);simpa [BN,Nat.add_comm 1 j]using this);simp [loadCellsFrom,O,h0,Y]
theorem Fe {x:Operand}{T b o k:Nat}{cs:List Value}{dd:Option Tmp}(hT:KJ P T=some k)(hx:ev E x=EE b o)(hl:cs.length=k)(hc:I9 w b o cs):LV P ⟨dd,.load T x,ty,pos,af,g⟩ E w (.agg ⟨cs⟩):=by
 unfold LV;have h1:=PX (P:=P) (w:=w) (b:=b) (o:=o) cs 0 #[] (λj v z=>by rw[BX];exact hc j v z);rw[hl]at h1;simp [execOp,hx,Instr.loadAt,Instr.sureAddr,loadVar,(Ml hT).1,(Ml hT).2,loadCells,h1]
theorem Gn {x:Operand}{T:Nat}{cs:List Value}(hg:FK ds E g=true)(hx:ev E x=v)(hv:v.cells=⟨cs⟩)(hR:RX R anc)
  (h:∀b w1,b=w.heap.size->ED w w1->EK w1 b cs T->Dw P n ds R r K (FT E d (EE b 0)) w1):Dw P n ds R ((⟨some d,.box T x,ty,pos,af,g⟩,.x,anc) :: r) K E w:=by
 refine HM (v:=EE w.heap.size 0) (w':=w.alloc (.cells ⟨cs⟩ T)) hg ?_ (hR.use (ED.alloc _ _)) (h _ _ rfl (ED.alloc _ _) ?_)
 ·simp [execOp,hx,Instr.box,newVar,newRow,hv,newObj,Sem.run]
 ·show(w.heap.push _)[w.heap.size]?=_;simp
def KK (P:Program)(T:TypeId):Option (List Value):=(P.info? T).bind λi=>i.zero.map λz=>z.cells.toList
theorem O3 {T:TypeId}{cs:List Value}(h:KK P T=some cs):∃z,(zeroValue T).run P w=.ok z w/\z.cells=⟨cs⟩:=by
 unfold KK at h
 cases hi:P.info? T with
 | none=>rw[hi]at h;simp at h
 | some i=>
  rw[hi]at h;simp only [Cl,Bb]at h;obtain⟨z,J,O⟩:=h;exact⟨z,by simp [zeroValue,typeInfo,hi,J],by rw[<-O]⟩
theorem FP {T:Nat}{cs:List Value}(hg:FK ds E g=true)(hz:KK P T=some cs)(hR:RX R anc)
  (h:∀b w1,b=w.heap.size->ED w w1->EK w1 b cs T->Dw P n ds R r K (FT E d (EE b 0)) w1):Dw P n ds R ((⟨some d,.alloc T,ty,pos,af,g⟩,.x,anc) :: r) K E w:=by
 obtain⟨z,J,O⟩:=O3 (P:=P) (w:=w) hz;refine HM (v:=EE w.heap.size 0) (w':=w.alloc (.cells ⟨cs⟩ T)) hg ?_ (hR.use (ED.alloc _ _)) (h _ _ rfl (ED.alloc _ _) ?_)
 ·simp [execOp,Instr.alloc,J,newVar,newRow,O,newObj,Sem.run]
 ·show(w.heap.push _)[w.heap.size]?=_;simp
def EY : List Value->Nat->List Value->List Value
 | cs,_,[]=>cs
 | cs,o,v :: vs=>EY (cs.set o v) (o+1) vs
theorem EK.set {b o:Nat}{cs:List Value}{T:TypeId}(h:EK w b cs T)(v:Value):EK (w.setCell ⟨b,o,none⟩ v) b (cs.set o v) T:=by
 unfold EK at *;simp only [World.setCell,Array.getElem?_modify,if_true,h,Br,Option.isSome_none];simp
theorem Mod.setCell (b o:Nat)(v:Value):Mod (ET b) w (w.setCell ⟨b,o,none⟩ v):=
 ⟨rfl,rfl,rfl,by simp,λk hk hn=>Below.heap_setCell _ _ _ _ hn⟩
theorem TX {b o:Nat}{T:TypeId} : ∀(vs:List Value) (i:Nat) (cs:List Value) (w:World),EK w b cs T->o+i+vs.length<=cs.length->(∀v∈vs,v.oneCell'=true)->
  ∃w',(storeCells ⟨b,o,none⟩ vs i).run P w=.ok () w'/\EK w' b (EY cs (o+i) vs) T/\Mod (ET b) w w'/\w'.heap.size=w.heap.size:=by
 intro vs
 induction vs with
 | nil=>intro i cs w h _ _;exact⟨w,by simp [storeCells],h,Mod.refl _ _,rfl⟩
 | cons v r ih=>
  intro i cs w h O h1;have z:o+i<cs.length:=by simp at O;omega
  have Z:(⟨b,o,none⟩:Addr).add i=⟨b,o+i,none⟩:=by
   unfold Addr.add;split
   ·rename_i e;simp [e]
   ·rfl
  have Y:w.cell? ⟨b,o+i,none⟩=some cs[o+i]:=h.at (by simp [z]);have hf:w.frozen? ⟨b,o+i,none⟩=false:=h.free;obtain⟨w',e1,e2,e3,e4⟩:=ih (i+1) (cs.set (o+i) v) (w.setCell ⟨b,o+i,none⟩ v) (h.set v) (by simp at O ⊢;omega) (λu hu=>h1 u (Am _ hu));refine⟨w',?_,by simpa [EY,BN]using e2,Mod.trans (Mod.setCell b (o+i) v) e3 (λ_ h=>h) (λ_ h _=>h),by simpa using e4⟩;have J:=h1 v Al;rw[storeCells,Sem.run_bind,Z];have hs:(store ⟨b,o+i,none⟩ v).run P w=.ok () (w.setCell ⟨b,o+i,none⟩ v):=by
   cases v<;>simp [Value.oneCell']at J<;>simp [store,Sem.run,Y,hf]
  rw[hs];exact e1
def Mq (P:Program)(T:TypeId):Option Nat:=(P.info? T).map (·.size)
theorem Lg {a x:Operand}{T T' b o:Nat}{cs vs:List Value}(hg:FK ds E g=true)(ha:ev E a=EE b o)(hx:ev E x=v)(hv:v.cells=⟨vs⟩)(hs:Mq P T=some vs.length)(hb:EK w b cs T')
  (ho:o+vs.length<=cs.length) (h1:∀v∈vs,v.oneCell'=true) (hR:anc=true\/∀w',Mod (ET b) w w'->R w w')
  (h:∀w1,Mod (ET b) w w1->w1.heap.size=w.heap.size->EK w1 b (EY cs o vs) T'->Dw P n ds R r K E w1):Dw P n ds R ((⟨none,.store T a x,ty,pos,af,g⟩,.x,anc) :: r) K E w:=by
 obtain⟨w',e1,e2,O,Y⟩:=TX (P:=P) (b:=b) (o:=o) (T:=T') vs 0 cs w hb (by simpa using ho) h1;rw[BX]at e2;refine Qg (w':=w') hg ?_ (λe=>hR.elim (λh=>by rw[h]at e;cases e) (λh=>h _ O)) (h _ O Y e2);unfold Mq at hs;obtain⟨i,hi,J⟩:=Bb.1 hs;have z:(storeCells ⟨b,o,none⟩ vs).run P w=.ok () w':=e1;simp [execOp,ha,hx,Instr.storeAt,Instr.sureAddr,storeVar,sizeOf,typeInfo,hi,J,hv,z]
def QQ (P:Program)(T:TypeId):Option (List (Nat×Nat)):=match P.underlying T with
 | some (.struct fs)=>fs.toList.mapM λf=>(P.info? f.type).map λi=>(f.offset,i.size)
 | _=>none
def H7 (pl:Nat->Option (Nat×Nat))(cs:List Value):List (Nat×Value)->Option (List Value)
 | []=>some cs
 | (i,v) :: r=>match pl i with
  | none=>none
  | some (off,size)=>if v.cells.size=size/\off+v.cells.size<=cs.length then H7 pl (EY cs off v.cells.toList) r else none
theorem Xo2 (off:Nat):∀(vs:List Value) (k:Nat) (cs:List Value),((vs.zipIdx k).foldl (λ(cs:Array Value) x=>cs.setIfInBounds (off+x.2) x.1) ⟨cs⟩)=⟨EY cs (off+k) vs⟩:=by
 intro vs
 induction vs with
 | nil=>intro k cs;rfl
 | cons v r ih=>
  intro k cs;simp only [List.zipIdx_cons,List.foldl_cons,EY];have e:(⟨cs⟩:Array Value).setIfInBounds (off+k) v=⟨cs.set (off+k) v⟩:=by simp
  rw[e,ih (k+1)];rfl
theorem Su : ∀(vs:List Value) (o:Nat) (cs:List Value),(EY cs o vs).length=cs.length:=by
 intro vs
 induction vs with
 | nil=>intro o cs;rfl
 | cons v r ih=>intro o cs;simp [EY,ih]
theorem RS (pl:Nat->Option (Nat×Nat)):∀(ps:List (Nat×Value)) (zs cs:List Value),H7 pl zs ps=some cs->Instr.fill pl ⟨zs⟩ ps=some ⟨cs⟩:=by
 intro ps
 induction ps with
 | nil=>intro zs cs h;simp [H7]at h;simp [Instr.fill,h]
 | cons p r ih=>
  intro zs cs h;obtain⟨i,v⟩:=p;simp only [H7]at h
  cases hp:pl i with
  | none=>rw[hp]at h;cases h
  | some os=>
   obtain⟨off,size⟩:=os;rw[hp]at h;simp only []at h;split at h
   ·rename_i hc;have J:¬ ((decide (v.cells.size≠size) || decide (off+v.cells.size > (⟨zs⟩:Array Value).size))=true):=by
     have:(⟨zs⟩:Array Value).size=zs.length:=rfl;rw[this];simp;omega
    have e:(v.cells.zipIdx.foldl (λ(cs:Array Value) (x:Value×Nat)=>cs.setIfInBounds (off+x.2) x.1) ⟨zs⟩)=⟨EY zs off v.cells.toList⟩:=by
     rw[<-Array.foldl_toList];have:=Xo2 off v.cells.toList 0 zs;simpa using this
    simp only [Instr.fill,hp];rw[if_neg J];have z:=ih _ _ h;rw[<-e]at z;exact z
   ·cases h
def K8 (E:Fh):List (Nat×Operand)->List (Nat×Value)->Prop
 | [],[]=>True
 | (i,x) :: r,(j,v) :: s=>i=j/\ev E x=v/\K8 E r s
 | _,_=>False
theorem K8.map {E:Fh} : ∀ {ps:List (Nat×Operand)} {pv:List (Nat×Value)},K8 E ps pv->ps.map (λp=>(p.1,ev E p.2))=pv
 | [],[],_=>rfl
 | [],_ :: _,h=>h.elim
 | _ :: _,[],h=>h.elim
 | (i,x) :: r,(j,v) :: s,h=>by
  obtain⟨h1,h2,h3⟩:=h;simp [h1,h2,K8.map h3]
theorem M4 {T:Nat}{ps:List (Nat×Operand)}{zs cs:List Value}{pl:List (Nat×Nat)}{pv:List (Nat×Value)}{dd:Option Tmp}(hz:KK P T=some zs)(hp:QQ P T=some pl)(hv:K8 E ps pv)(hf:H7 (λi=>pl[i]?) zs pv=some cs) :
  PV P ⟨dd,.build T ps.toArray,ty,pos,af,g⟩ E (.agg ⟨cs⟩):=λw=>by
 obtain⟨z,hb,Z⟩:=O3 (P:=P) (w:=w) hz;have hm:=K8.map hv;unfold QQ at hp
 cases hu:P.underlying T with
 | none=>rw[hu]at hp;cases hp
 | some u=>
  rw[hu]at hp
  cases u<;>simp only []at hp<;>try cases hp
  rename_i fs;have Y:∀(l:List Field) (pl:List (Nat×Nat)),(l.mapM λf=>(P.info? f.type).map λi=>(f.offset,i.size))=some pl->(l.mapM (λf=>(Functor.map (Bl f.offset) (sizeOf f.type):Sem (Nat×Nat)))).run P w=.ok pl w:=by
   intro l
   induction l with
   | nil=>intro pl h;simp at h;subst h;simp
   | cons f r ih=>
    intro pl h;simp only [Dv,Option.bind_eq_bind,CT,Option.pure_def,A0.injEq]at h;obtain⟨x,hx,J,ha,rfl⟩:=h;obtain⟨i,hi,rfl⟩:=Bb.1 hx;have O:=ih J ha;rw[Dv,Sem.run_bind];have e1:(Functor.map (Bl f.offset) (sizeOf f.type):Sem (Nat×Nat)).run P w=.ok (f.offset,i.size) w:=by simp [sizeOf,typeInfo,hi]
    rw[e1,Result.andThen_ok,Sem.run_bind,O];rfl
  have h1:(fs.mapM (λf=>(Functor.map (Bl f.offset) (sizeOf f.type):Sem (Nat×Nat)))).run P w=.ok pl.toArray w:=by
   rw[Array.mapM_eq_mapM_toList];simp [Y _ _ hp]
  have h2:=RS (λi=>pl[i]?) pv zs cs hf;have e:(Array.map (λ(p:Nat×Operand)=>(p.1,ev E p.2)) ps.toArray).toList=pv:=by simpa using hm
  simp [execOp,Instr.build,hb,Z,underlying,hu,h1,hm,h2]
def GM (P:Program)(f:FuncId):Bool:=match P.funcs[f]? with
 | some fn => !(fn.name == "runtime.NumGoroutine") && fn.body.isSome
 | none=>false
theorem Qe {f:Nat}{az:List Operand}{ats:Array TypeId}{vs:List Value}{R1:Ending->World->Prop}(hg:FK ds E g=true)(hf:GM P f=true)(ha:az.map (ev E)=vs)(hc:Calls P f vs.toArray w R1)
  (h:∀e w1,R1 e w1->∃v,e=.returned v/\(anc=false->R w w1)/\Dw P n ds R r K (FT E d v) w1) :
  Dw P n ds R ((⟨some d,.call { callee:=.value (.func f),args:=az.toArray,argTypes:=ats },ty,pos,af,g⟩,.x,anc) :: r) K E w:=by
 refine MS hg λok=>?_;unfold GM at hf
 cases hp:P.funcs[f]? with
 | none=>rw[hp]at hf;simp at hf
 | some fn=>
  rw[hp]at hf;simp only [Au,BO]at hf;obtain⟨h1,h2⟩:=hf;have h3:fn.body≠none:=by cases hb:fn.body<;>simp [hb]at h2 ⊢
  have h1' : fn.name ≠ "runtime.NumGoroutine" := by simpa using h1
  have hr:(execOp (ev E) ⟨some d,.call { callee:=.value (.func f),args:=az.toArray,argTypes:=ats },ty,pos,af,g⟩).run P w=.ok (.enter f vs.toArray) w:=by
   simp [execOp,resolve,ev,Deferred.ofValue,invoke,callFunc,program,Sem.run,hp,h1',h3,ha]
  unfold Oper.wp;rw[Mi ok,hr];simp only [Oper.upon];refine Calls.mono hc λe w1 h1=>?_;obtain⟨v,rfl,hR,hd⟩:=h e w1 h1;exact⟨_,Iy _ _ _ _,hR,hd⟩
def Pure (w:World)(v:Value):Ending->World->Prop:=λe w'=>e=.returned v/\ED w w'
theorem X4n {f:Nat}{az:List Operand}{ats:Array TypeId}{vs:List Value}(hg:FK ds E g=true)(hf:GM P f=true)(hc:Calls P f vs.toArray w (Pure w v))(ha:az.map (ev E)=vs)(hR:RX R anc)
  (h:∀z,ED w z->Dw P n ds R r K (FT E d v) z) :
  Dw P n ds R ((⟨some d,.call { callee:=.value (.func f),args:=az.toArray,argTypes:=ats },ty,pos,af,g⟩,.x,anc) :: r) K E w:=
 Qe hg hf ha hc λe z ⟨he,hx⟩=>⟨v,he,hR.use hx,h z hx⟩
theorem UH (hg:FK ds E g=true)(hv:LV P ⟨some d,op,ty,pos,af,g⟩ E w v)(h:Dw P n ds (λa b=>a=b) r K (FT E d v) w):Dw P n ds (λa b=>a=b) ((⟨some d,op,ty,pos,af,g⟩,.l,anc) :: r) K E w:=
 FW hg (λw' e=>e▸hv) h
theorem X4o {fn:Func}{t:Nat}{R:Ending->World->Prop}(hr:fn.results=#[.tmp t])(ht:AR t n=true)(hv:E t=v)(h:R (.returned v) w):Jt P fn n R .ret E w:=by
 have z:t<n:=by simpa [Bq]using ht
 refine⟨v,?_,h⟩;simp [results,hr,GU,z,hv]
theorem X4p {fn:Func}{t s:Nat}{u:Value}{R:Ending->World->Prop}(hr:fn.results=#[.tmp t,.tmp s])(ht:AR t n=true)(hs:AR s n=true)(hv:E t=v)(hu:E s=u)(h:R (.returned (.tuple #[v,u])) w):Jt P fn n R .ret E w:=by
 have J:t<n:=by simpa [Bq]using ht
 have z:s<n:=by simpa [Bq]using hs
 refine⟨.tuple #[v,u],?_,h⟩;simp [results,hr,GU,J,hv,z,hu]
theorem Hh {fn:Func}{R:Ending->World->Prop}(hr:fn.results=#[])(h:R (.returned (.tuple #[])) w):Jt P fn n R .ret E w:=by
 refine⟨.tuple #[],?_,h⟩;simp [results,hr]
theorem Nu {fn:Func}{t T b k:Nat}{cs:List Value}{R:Ending->World->Prop}(hr:fn.results=#[.cell t T])(ht:AR t n=true)(hv:E t=EE b 0)(hT:KJ P T=some k)(hl:cs.length=k)(hc:I9 w b 0 cs)
  (h:R (.returned (.agg ⟨cs⟩)) w):Jt P fn n R .ret E w:=by
 have z:t<n:=by simpa [Bq]using ht
 have h1:=PX (P:=P) (w:=w) (b:=b) (o:=0) cs 0 #[] (λj v J=>by rw[BX];exact hc j v J);rw[hl]at h1;refine⟨.agg ⟨cs⟩,?_,h⟩;simp [results,hr,GU,z,hv,asAddr,loadVar,(Ml hT).1,(Ml hT).2,loadCells,h1]
theorem IH {fn:Func}{t T b k s:Nat}{u:Value}{cs:List Value}{R:Ending->World->Prop}(hr:fn.results=#[.cell t T,.tmp s])(ht:AR t n=true)(hs:AR s n=true)(hv:E t=EE b 0)(hT:KJ P T=some k)(hl:cs.length=k)(hc:I9 w b 0 cs)
  (hu:E s=u) (h:R (.returned (.tuple #[.agg ⟨cs⟩,u])) w):Jt P fn n R .ret E w:=by
 have z:t<n:=by simpa [Bq]using ht
 have J:s<n:=by simpa [Bq]using hs
 have h1:=PX (P:=P) (w:=w) (b:=b) (o:=0) cs 0 #[] (λj v O=>by rw[BX];exact hc j v O);rw[hl]at h1;refine⟨.tuple #[.agg ⟨cs⟩,u],?_,h⟩;simp [results,hr,GU,z,J,hv,hu,asAddr,loadVar,(Ml hT).1,(Ml hT).2,loadCells,h1]
theorem HH {fn:Func}{R:Ending->World->Prop}(h:Jt P fn n R .ret E w):Jt P fn n R .normal E w:=h
theorem Hz {x y:Code}{Q:Exit->Fh->World->Prop}{G:Type}(sl:G->List (Nat×Value))(F:G->World->Prop)
  (hx:W P n x (Ip (λE w=>∃g,holds (sl g) E/\F g w) Q) E w) (hy:∀(X:Fh) (g:G) (w:World),F g w->W P n y Q (N5 (sl g) X) w):W P n (.seq x y) Q E w:=by
 refine XE λK J=>X8k hx ?_;intro e E w h
 cases e<;>first|exact h|skip
 obtain⟨g,z,O⟩:=h;refine J _ _ ?_;have:=hy E g w O;rwa [Qt z]at this
theorem GS {c:Operand}{x y:Code}{Q:Exit->Fh->World->Prop}(hc:ev E c=.bool true)(h:W P n x Q E w):W P n (.cond c x y) Q E w:=Pj hc (λ_=>h) (λh=>by cases h)
theorem Hf {c:Operand}{x y:Code}{Q:Exit->Fh->World->Prop}(hc:ev E c=.bool false)(h:W P n y Q E w):W P n (.cond c x y) Q E w:=Pj hc (λh=>by cases h) (λ_=>h)
end
structure Own {α:Type}(enc:α->List Value)(sz T:Nat)(B:Nat)(w:World)(v:Value)(l:List α):Prop where
 row:w.ownsRow B T sz v l.length (l.flatMap enc)
section
variable {α:Type}{enc:α->List Value}{sz T B:Nat}{w w':World}{v:Value}{l:List α}
theorem Own.nil : Own enc sz T B w (.slice none 0 0) []:=⟨World.ownsRow_nil w B T sz⟩
theorem Own.lt (h:Own enc sz T B w v l):∀k,v.ownBlock=some k->B<=k/\k<w.heap.size:=h.row.lt
theorem Own.mod {S:Nat->Prop}(h:Own enc sz T B w v l)(m:Mod S w w')(hS:∀k,v.ownBlock=some k->¬ S k):Own enc sz T B w' v l:=by
 obtain⟨h1,h2⟩:=h.row;refine⟨h1,?_⟩;rcases h2 with h2|⟨g,cap,cur,hv,hg,hh,r⟩
 ·exact Or.inl h2
 ·have z:g<w.heap.size:=(h.lt g (by rw[hv];rfl)).2;exact Or.inr ⟨g,cap,cur,hv,hg,by rw[m.block g z (hS g (by rw[hv];rfl))];exact hh,r⟩
theorem Own.ext (h:Own enc sz T B w v l)(m:ED w w'):Own enc sz T B w' v l:=h.mod m (λ_ _ h=>h)
theorem Own.mono {B':Nat}(h:Own enc sz T B w v l)(hB:B'<=B):Own enc sz T B' w v l:=by
 obtain⟨h1,h2⟩:=h.row;refine⟨h1,?_⟩;rcases h2 with h2|⟨g,cap,cur,hv,hg,r⟩
 ·exact Or.inl h2
 ·exact Or.inr ⟨g,cap,cur,hv,Ai hB hg,r⟩
theorem Own.sl (h:Own enc sz T B w v l):Gd v l.length:=by
 obtain⟨_,h2⟩:=h.row;rcases h2 with⟨h2,h3⟩|⟨g,cap,cur,hv,hg,hh,hn,_⟩
 ·exact .inl ⟨h2,h3⟩
 ·exact .inr (.inl ⟨g,0,cap,hv,hn⟩)
theorem PU (henc:∀x,(enc x).length=sz):∀(l:List α) (i:Nat) (x:α),l[i]?=some x->∀j u,(enc x)[j]?=some u->(l.flatMap enc)[i*sz+j]?=some u:=by
 intro l
 induction l with
 | nil=>intro i x h;simp at h
 | cons y r ih=>
  intro i x h j u z;rw[AB]
  cases i with
  | zero=>
   simp at h;subst h;rw[Nat.zero_mul,A9,Bt]
   ·exact z
   ·exact(Ap.1 z).1
  | succ i=>
   have h':r[i]?=some x:=by simpa using h
   rw[BE (by rw[henc,AZ];omega),henc];rw[show(i+1)*sz+j-sz=i*sz+j by rw[AZ];omega];exact ih i x h' j u z
theorem Own.arr (henc:∀x,(enc x).length=sz)(h:Own enc sz T B w v l):EQ enc sz w v l:=by
 refine⟨by rw[Ao];exact h.sl,λi cs hi=>?_⟩;rw[AD]at hi
 cases hx:l[i]? with
 | none=>rw[hx]at hi;cases hi
 | some x=>
  rw[hx]at hi;simp only [Br,A0.injEq]at hi;subst hi;refine⟨henc x,λj u J=>?_⟩;obtain⟨_,h2⟩:=h.row;rcases h2 with⟨rfl,h3⟩|⟨g,cap,cur,rfl,hg,hh,hn,_⟩
  ·have:=A4 h3;subst this;simp at hx
  ·have z:=h.row.cells (g:=g) rfl (i*sz+j) u (PU henc l i x hx j u J);have O:(⟨g,0,none⟩:Addr).add (i*sz+j)=⟨g,0+i*sz+j,none⟩:=by
    unfold Addr.add;split
    ·rename_i e;have h0:i*sz=0/\j=0:=by omega
     rw[h0.1,h0.2]
    ·simp [BN]
   rw[O]at z;simpa [base]using z
end
theorem Gd.one {v:Value}{n:Nat}(h:Gd v n):v.oneCell'=true:=by
 rcases h with⟨rfl,_⟩|⟨b,o,c,rfl,_⟩|⟨_,a,c,rfl⟩<;>rfl
theorem Gd.cells {v:Value}{n:Nat}(h:Gd v n):v.cells=⟨[v]⟩:=by
 rcases h with⟨rfl,_⟩|⟨b,o,c,rfl,_⟩|⟨_,a,c,rfl⟩<;>rfl
theorem Xt3 {v:Value}(h:v.oneCell'=true):v.cells=⟨[v]⟩:=by
 cases v<;>first|rfl|cases h
theorem Own.base_ge {α:Type}{enc:α->List Value}{sz T B:Nat}{w:World}{v:Value}{l:List α}(h:Own enc sz T B w v l)(hl:l≠[]):B<=(base v).1/\(base v).1<w.heap.size:=by
 rcases h.sl with⟨_,hn⟩|⟨b,o,c,rfl,_⟩|⟨hn,_⟩
 ·exact absurd (A4 hn) hl
 ·exact h.lt b rfl
 ·exact absurd (A4 hn) hl
def Lh (D:Nat):Nat->Prop:=λk=>D<=k
theorem Far.refl (D:Nat)(w:World):Mod (Lh D) w w:=Mod.refl _ _
theorem Far.trans {D:Nat}(a b c:World)(h:Mod (Lh D) a b)(k:Mod (Lh D) b c):Mod (Lh D) a c:=Mod.trans h k (λ_ h=>h) (λ_ h _=>h)
theorem Far.of_ext {D:Nat}{a b:World}(h:ED a b):Mod (Lh D) a b:=h.mono (λ_ h _=>h.elim)
theorem RX.far {D:Nat}{anc:Bool} : RX (Mod (Lh D)) anc:=.inr λ_ _ h=>Far.of_ext h
theorem EK.far {w w':World}{b T:Nat}{cs:List Value}(h:EK w b cs T)(m:Mod (Lh w.heap.size) w w'):EK w' b cs T:=h.mod m (λg=>by have:=h.lt;unfold Lh at g;omega)
def M5 (P:Program)(e sz by':Nat):Bool:=match P.info? e with
 | some i=>i.size == sz && i.bytes == by' && AR 0 sz && (match i.zero with|some z=>z.cells.size == sz|none=>false)
 | none=>false
theorem Ov {P:Program}{e sz by':Nat}(h:M5 P e sz by'=true):∃i z,P.info? e=some i/\i.zero=some z/\i.size=sz/\i.bytes=by'/\z.cells.size=sz/\0<sz:=by
 unfold M5 at h
 cases hi:P.info? e with
 | none=>rw[hi]at h;cases h
 | some i=>
  rw[hi]at h;simp only [Au,beq_iff_eq]at h;obtain⟨⟨⟨h1,h2⟩,h3⟩,h4⟩:=h
  cases hz:i.zero with
  | none=>rw[hz]at h4;cases h4
  | some z=>rw[hz]at h4;exact⟨i,z,rfl,hz,h1,h2,by simpa using h4,by simpa [Bq]using h3⟩
section
variable {P:Program}{n:Nat}{ds:List (Option Tmp)}{R:World->World->Prop}{r:List (Oper×Fl×Bool)}{K:Fh->World->Prop}{E:Fh}{w:World}
variable {d:Nat}{op:Op}{ty:TypeId}{pos:String}{af:Array Edge}{g:Option (Nat×Bool)}{anc:Bool}{v:Value}
theorem PQ {α:Type}{enc:α->List Value}{l:List α}(h:∀x∈l,∀u∈enc x,u.oneCell'=true):∀u∈l.flatMap enc,u.oneCell'=true:=by
 intro u hu;obtain⟨x,J,z⟩:=List.mem_flatMap.1 hu;exact h x J u z
theorem Fj {α:Type}{enc:α->List Value}{sz:Nat}(henc:∀x,(enc x).length=sz):∀l:List α,(l.flatMap enc).length=l.length*sz:=by
 intro l
 induction l with
 | nil=>simp
 | cons x r ih=>simp [AB,ih,henc,AZ];omega
theorem EQ.flat {α:Type}{enc:α->List Value}{sz:Nat}{l:List α}(henc:∀x,(enc x).length=sz)(h:EQ enc sz w v l):∀j u,(l.flatMap enc)[j]?=some u->w.cell? ⟨(base v).1,(base v).2+j,none⟩=some u:=by
 intro j u J
 by_cases hsz:sz=0
 ·have Y:=Fj henc l;rw[hsz,Nat.mul_zero]at Y;rw[A4 Y]at J;simp at J
 have z:=(Ap.1 J).1;rw[Fj henc]at z;have hq:j / sz<l.length:=Nat.div_lt_of_lt_mul (by rw[Bu];exact z);have O:l[j / sz]?=some l[j / sz]:=Ar hq;have Z:j % sz<(enc l[j / sz]).length:=by rw[henc];exact Bd _ EB
 have e:j / sz*sz+j % sz=j:=by rw[Bu];exact Nat.div_add_mod j sz
 have h1:=PU henc l _ _ O (j % sz) (enc l[j / sz])[j % sz] (Ar Z);rw[e,J]at h1;have h2:=h.row O (j % sz) _ (Ar Z);rw[show(base v).2+j / sz*sz+j % sz=(base v).2+j by omega]at h2;rw[h2,h1]
theorem Hy {α:Type}{enc:α->List Value}{s x:Operand}{t e sz by' B:Nat}{vx:Value}{l lx:List α}(hg:FK ds E g=true)(ht:IC P t=some (e,sz))(hE:M5 P e sz by'=true)
  (henc:∀x,(enc x).length=sz) (hown:Own enc sz e B w v l) (hax:EQ enc sz w vx lx) (hs:ev E s=v) (hx:ev E x=vx) (h1:∀x∈lx,∀u∈enc x,u.oneCell'=true)
  (hbytes:(l.length+lx.length)*by'<=140737488355328) (hby:1<=by') (hB:B<=w.heap.size) (hR:anc=true\/∀w',Mod (λk=>v.ownBlock=some k) w w'->R w w')
  (h:∀v' w',Own enc sz e B w' v' (l++lx)->Mod (λk=>v.ownBlock=some k) w w'->Dw P n ds R r K (FT E d v') w') :
  Dw P n ds R ((⟨some d,.call { callee:=.builtin .append,args:=#[s,x],argTypes:=#[t,t] },ty,pos,af,g⟩,.x,anc) :: r) K E w:=by
 obtain⟨hu,_⟩:=JL ht;obtain⟨i,z,hi,hz,J,O,hb,hh⟩:=Ov hE;have hf:l.length+lx.length<=maxLen:=by
  unfold maxLen;have:(l.length+lx.length)*1<=(l.length+lx.length)*by':=C0 _ hby;omega
 have Y:∀w',Mod (λk=>v.ownBlock=some k) w w'->anc=false->R w w':=λw' hm e=>hR.elim (λh=>by rw[h]at e;cases e) (λh=>h _ hm);rcases hax.sl with⟨rfl,hl0⟩|⟨b,o,c,rfl,hc⟩|⟨hl0,⟨b,o,s0⟩,c,rfl⟩
 ·-- nothing is appended
  have Z:=A4 hl0;subst Z;have hl:(Builtin.append_ #[t,t] ty #[v,.slice none 0 0]).run P w=.ok v w:=by
   rcases hown.sl with⟨rfl,hn⟩|⟨b,o,c,rfl,hn⟩|⟨hn,a,c,rfl⟩
   ·simp [Builtin.append_,run_underlying hu,sizeOf,typeInfo,hi,Builtin.lenOf,Builtin.firstCells]
   ·simp [Builtin.append_,run_underlying hu,sizeOf,typeInfo,hi,Builtin.lenOf,Builtin.firstCells,hn,storeCells]
   ·simp [Builtin.append_,run_underlying hu,sizeOf,typeInfo,hi,Builtin.lenOf,Builtin.firstCells,hn,storeCells]
  refine HM (w':=w) (v:=v) hg ?_ (Y _ (Mod.refl _ _)) (h v w (by simpa using hown) (Mod.refl _ _));simp only [execOp,resolve,invoke,builtin,Sem.run_bind,Sem.run_pure,Result.andThen_ok,BY,An,Be,hs,hx,hl]
 ·obtain⟨v',w',hr,h2,h3,h4⟩:=run_append_own (P:=P) w B t ty e i z sz by' hu hi hz J O hb hh v l.length (l.flatMap enc) hown.row ⟨b,o,none⟩ lx.length c (lx.flatMap enc) (Fj henc lx)
   (λj u hj=>by
    have:=EQ.flat henc hax j u hj;have ha:(⟨b,o,none⟩:Addr).add j=⟨b,o+j,none⟩:=by
     unfold Addr.add;split
     ·rename_i e;simp [e]
     ·rfl
    rw[ha];exact this) (PQ h1) hf hbytes hB
  refine HM (w':=w') (v:=v') hg ?_ (Y _ ?_) (h v' w' ⟨by rw[Aa,AU];exact h2⟩ ?_)
  ·simp only [execOp,resolve,invoke,builtin,Sem.run_bind,Sem.run_pure,Result.andThen_ok,BY,An,Be,hs,hx,hr]
  ·exact Mod.of_grown h3
  ·exact Mod.of_grown h3
 ·have Z:=A4 hl0;subst Z;obtain⟨v',w',hr,h2,h3,h4⟩:=run_append_own (P:=P) w B t ty e i z sz by' hu hi hz J O hb hh v l.length (l.flatMap enc) hown.row ⟨b,o,s0⟩ 0 c [] ER (λj u hj=>by simp at hj) (λu hu=>by cases hu) hf hbytes hB;refine HM (w':=w') (v:=v') hg ?_ (Y _ (Mod.of_grown h3)) (h v' w' ⟨by rw[Aa,AU];exact h2⟩ (Mod.of_grown h3));simp only [execOp,resolve,invoke,builtin,Sem.run_bind,Sem.run_pure,Result.andThen_ok,BY,An,Be,hs,hx,hr]
theorem Xy6 (zs:List Value)(sz:Nat)(hz:zs.length=sz)(hp:0<sz):∀(m j:Nat),j<m*sz->((Ax m zs).flatten)[j]?=zs[j % sz]?:=by
 intro m
 induction m with
 | zero=>intro j h;omega
 | succ m ih=>
  intro j h;rw[CG,Dy]
  by_cases hj:j<sz
  ·rw[Bt EB,B0 hj]
  ·rw[BE EB,hz,ih (j-sz) (by rw[AZ]at h;omega)];rw[show j % sz=(j-sz) % sz from(Nat.mod_eq_sub_mod EB)]
theorem Sn (zs:List Value)(sz m:Nat)(hz:zs.length=sz)(hp:0<sz):(DX (m*sz)).map (λx=>(⟨zs⟩:Array Value)[x % (⟨zs⟩:Array Value).size]!)=⟨(Ax m zs).flatten⟩:=by
 apply DW
 apply List.ext_getElem?
 intro j
 by_cases hj:j<m*sz
 ·rw[Xy6 zs sz hz hp m j hj];have z:j % sz<zs.length:=by rw[hz];exact Bd _ hp
  have hs:(⟨zs⟩:Array Value).size=sz:=hz;simp [hj,hs];rw[Ar z];rfl
 ·have h2:((Ax m zs).flatten).length=m*sz:=by simp [hz]
  rw[Bm (by simp;omega),Bm (by rw[h2];omega)]
theorem It {t e sz m:Nat}{ps:List (Nat×Operand)}{zs cs:List Value}{pv:List (Nat×Value)}(hg:FK ds E g=true)(ht:IC P t=some (e,sz))(hm:AR 0 (m*sz)=true/\CF (m*sz) 16777216=true)(hz:KK P e=some zs)(hzs:Bj zs.length sz=true)
  (hv:K8 E ps pv) (hf:H7 (λi=>some (i*sz,sz)) ((Ax m zs).flatten) pv=some cs) (hR:RX R anc)
  (h:∀b w1,b=w.heap.size->ED w w1->EK w1 b cs e->Dw P n ds R r K (FT E d (.slice (some ⟨b,0,none⟩) m m)) w1) :
  Dw P n ds R ((⟨some d,.buildSlice t m ps.toArray,ty,pos,af,g⟩,.x,anc) :: r) K E w:=by
 obtain⟨hu,i,hi,hs⟩:=JL ht;have O:=K8.map hv;have h0:0<m*sz:=by simpa [Bq]using hm.1
 have hm':m*sz<=16777216:=by simpa [Nat.ble_eq]using hm.2
 have J:zs.length=sz:=CE hzs;have hc:0<sz:=Nat.pos_of_ne_zero (λe=>by rw[e]at h0;omega);obtain⟨z,ha,Z⟩:=O3 (P:=P) (w:=w) hz;refine HM (v:=.slice (some ⟨w.heap.size,0,none⟩) m m) (w':=w.alloc (.cells ⟨cs⟩ e)) hg ?_ (hR.use (ED.alloc _ _)) (h _ _ rfl (ED.alloc _ _) ?_)
 ·have h2:=RS _ pv _ cs hf;have hb:¬ (m*sz > 2 ^ 24):=by omega
  have Y:¬ (m*sz=0):=by omega
  have e1:(Instr.buildSlice t m ⟨pv⟩).run P w=.ok (.slice (some ⟨w.heap.size,0,none⟩) m m) (w.alloc (.cells ⟨cs⟩ e)):=by
   unfold Instr.buildSlice;simp only [underlying,Sem.run_bind,run_program,Result.andThen_ok,hu,Sem.run_pure,sizeOf,typeInfo,hi,hs];rw[if_neg hb,if_neg Y];simp only [Sem.run_bind,Sem.run_pure,Result.andThen_ok,ha,Z];rw[Sn zs sz m J hc,h2];simp [newRow]
  have e2:(ps.toArray.map λ(i,x)=>(i,ev E x))=⟨pv⟩:=by
   rw[<-O];simp
  simp only [execOp];rw[e2];simp only [Sem.run_bind,e1,Result.andThen_ok,Sem.run_pure]
 ·show(w.heap.push _)[w.heap.size]?=_;simp
theorem Qb {t e sz:Nat}(hg:FK ds E g=true)(ht:IC P t=some (e,sz))(hR:RX R anc)
  (h:∀b w1,b=w.heap.size->ED w w1->EK w1 b [] e->Dw P n ds R r K (FT E d (.slice (some ⟨b,0,none⟩) 0 0)) w1) :
  Dw P n ds R ((⟨some d,.buildSlice t 0 #[],ty,pos,af,g⟩,.x,anc) :: r) K E w:=by
 obtain⟨hu,i,hi,hs⟩:=JL ht;refine HM (v:=.slice (some ⟨w.heap.size,0,none⟩) 0 0) (w':=w.alloc (.cells ⟨[]⟩ e)) hg ?_ (hR.use (ED.alloc _ _)) (h _ _ rfl (ED.alloc _ _) ?_)
 ·have z:(Array.map (λx=>(default:Value)) (DX 0))=⟨[]⟩:=by simp
  simp [execOp,Instr.buildSlice,underlying,hu,sizeOf,typeInfo,hi,Instr.fill,newRow,z]
 ·show(w.heap.push _)[w.heap.size]?=_;simp
theorem LN {t e sz by' m:Nat}{zs:List Value}{x y:Operand}(hg:FK ds E g=true)(ht:IC P t=some (e,sz))(hE:M5 P e sz by'=true)(hz:KK P e=some zs)(hx:ev E x=I m)(hy:ev E y=I m)
  (hb:by'*m<=281474976710656) (hb1:m<=4611686018427387904) (hR:RX R anc)
  (h:∀b w1,b=w.heap.size->ED w w1->EK w1 b ((Ax m zs).flatten) e->Dw P n ds R r K (FT E d (.slice (some ⟨b,0,none⟩) m m)) w1) :
  Dw P n ds R ((⟨some d,.makeSlice t x y,ty,pos,af,g⟩,.x,anc) :: r) K E w:=by
 obtain⟨hu,_⟩:=JL ht;obtain⟨i,z,hi,Z,J,hf,Y,hh⟩:=Ov hE;have O:z.cells=⟨zs⟩:=by
  unfold KK at hz;simp only [hi,Cl,Z,Br,A0.injEq]at hz;rw[<-hz]
 have hc:zs.length=sz:=by rw[O]at Y;exact Y
 have ha:(i.bytes:Int)*(m:Int)<=281474976710656:=by
  rw[hf];have h:((by'*m:Nat):Int)<=281474976710656:=by omega
  rwa [Int.natCast_mul]at h
 have hr:=run_make (P:=P) w t e i z hu hi Z .i64 .i64 m m EB (Int.le_refl _) ha EB;simp only [B7]at hr;have e0:madeCells z.cells (m*i.size)=⟨(Ax m zs).flatten⟩:=by
  rw[O,J,<-Sn zs sz m hc hh];rfl
 rw[e0]at hr;refine HM (v:=.slice (some ⟨w.heap.size,0,none⟩) m m) (w':=w.alloc (.cells ⟨(Ax m zs).flatten⟩ e)) hg ?_ (hR.use (ED.alloc _ _)) (h _ _ rfl (ED.alloc _ _) ?_)
 ·simp [execOp,hx,hy,hr]
 ·show(w.heap.push _)[w.heap.size]?=_;simp
theorem EK.own {α:Type}{enc:α->List Value}{sz T b B m:Nat}{l:List α}{cs:List Value}(h:EK w b cs T)(hB:B<=b)(hcs:cs=l.flatMap enc)(henc:∀x,(enc x).length=sz)(hm:m=l.length)(hl:l.length<=4611686018427387904):Own enc sz T B w (.slice (some ⟨b,0,none⟩) m m) l:=by
 subst hcs;subst hm;refine⟨Fj henc l,.inr ⟨b,l.length,⟨l.flatMap enc⟩,rfl,hB,h,Ab _,by unfold maxLen;omega,Fj henc l,?_⟩⟩;show(l.flatMap enc).take (l.length*sz)=_;rw[<-Fj henc l,List.take_length]
theorem EK.arr {α:Type}{enc:α->List Value}{sz T b m:Nat}{l:List α}{cs:List Value}(h:EK w b cs T)(hcs:cs=l.flatMap enc)(henc:∀x,(enc x).length=sz)(hm:m=l.length)(hl:l.length<=4611686018427387904):EQ enc sz w (.slice (some ⟨b,0,none⟩) m m) l:=
 (h.own (Ae _) hcs henc hm hl).arr henc
theorem MH {a x:Operand}{T T' b o:Nat}{cs:List Value}(hg:FK ds E g=true)(ha:ev E a=EE b o)(hx:ev E x=v)(hv:v.oneCell'=true)(hs:Mq P T=some 1)(hb:EK w b cs T')
  (ho:o<cs.length) (hR:anc=true\/∀w',Mod (ET b) w w'->R w w')
  (h:∀w1,Mod (ET b) w w1->w1.heap.size=w.heap.size->EK w1 b (cs.set o v) T'->Dw P n ds R r K E w1):Dw P n ds R ((⟨none,.store T a x,ty,pos,af,g⟩,.x,anc) :: r) K E w:=
 Lg (vs:=[v]) hg ha hx (Xt3 hv) hs hb (by simp;omega) (by intro u hu;simp at hu;rw[hu];exact hv) hR h
def G7 (k:Nat)(v:Value)(lo hi:Nat):Value:=match v with
 | .slice (some a) _ c=>.slice (some (if c=lo then a else a.add (lo*k))) (hi-lo) (c-lo)
 | _=>.slice none 0 0
theorem IS {x:Operand}{lo hi:Option Operand}{T a b e k m:Nat}{dd:Option Tmp}(hT:IC P T=some (e,k))(hv:Gd v m)(hx:ev E x=v)
  (hlo:bnd E 0 lo a) (hhi:bnd E m hi b) (h1:a<=b) (h2:b<=m):PV P ⟨dd,.slice T x lo hi none,ty,pos,af,g⟩ E (G7 k v a b):=λw=>by
 obtain⟨hu,i,J,hs⟩:=JL hT;rcases hv with⟨rfl,rfl⟩|⟨bb,o,c,rfl,hc⟩|⟨rfl,ad,c,rfl⟩
 ·have Y:b=0:=by omega
  have O:a=0:=by omega
  subst Y;subst O;have z:(0:Int)<=((0:Nat):Int)/\((0:Nat):Int)<=((0:Nat):Int):=by omega
  have key:(Instr.sliceBounds true 0 0 (lo.map (ev E)) (hi.map (ev E)) none).run P w=.ok (0,0,0) w:=by
   unfold bnd at hlo hhi
   cases lo<;>cases hi<;>simp only []at hlo hhi<;>simp only [CU,Instr.sliceBounds,Sem.run_bind,Sem.run_pure,Result.andThen_ok, *] <;>
    simp only [JX z,Result.andThen_ok,B7]<;>rfl
  have e1:(Instr.sliceAt T (.slice none 0 0) (lo.map (ev E)) (hi.map (ev E)) none).run P w=.ok (G7 k (.slice none 0 0) 0 0) w:=by
   simp [Instr.sliceAt,Instr.slice,underlying,hu,key,sizeOf,typeInfo,J,G7]
  simp only [execOp,hx,Cn,Sem.run_bind,e1];rfl
 ·have z:(0:Int)<=(b:Int)/\(b:Int)<=(c:Int):=by omega
  have Z:(0:Int)<=(a:Int)/\(a:Int)<=(b:Int):=by omega
  have key:(Instr.sliceBounds true m c (lo.map (ev E)) (hi.map (ev E)) none).run P w=.ok (a,b,c) w:=by
   unfold bnd at hlo hhi
   cases lo<;>cases hi<;>simp only []at hlo hhi<;>subst_vars<;>simp only [CU,Instr.sliceBounds,Sem.run_bind,Sem.run_pure,Result.andThen_ok, *] <;>
    simp only [JX z,JX Z,Result.andThen_ok,B7]<;>rfl
  have ha:∀q,(⟨bb,o,none⟩:Addr).add q=⟨bb,o+q,none⟩:=λq=>by
   unfold Addr.add;split
   ·rename_i e;simp [e]
   ·rfl
  have e1:(Instr.sliceAt T (.slice (some ⟨bb,o,none⟩) m c) (lo.map (ev E)) (hi.map (ev E)) none).run P w=.ok (G7 k (.slice (some ⟨bb,o,none⟩) m c) a b) w:=by
   simp [Instr.sliceAt,Instr.slice,underlying,hu,key,sizeOf,typeInfo,J,hs,G7,ha];split<;>rfl
  simp only [execOp,hx,Cn,Sem.run_bind,e1];rfl
 ·have Y:b=0:=by omega
  have O:a=0:=by omega
  subst Y;subst O;have z:(0:Int)<=((0:Nat):Int)/\((0:Nat):Int)<=(c:Int):=by omega
  have Z:(0:Int)<=((0:Nat):Int)/\((0:Nat):Int)<=((0:Nat):Int):=by omega
  have key:(Instr.sliceBounds true 0 c (lo.map (ev E)) (hi.map (ev E)) none).run P w=.ok (0,0,c) w:=by
   unfold bnd at hlo hhi
   cases lo<;>cases hi<;>simp only []at hlo hhi<;>simp only [CU,Instr.sliceBounds,Sem.run_bind,Sem.run_pure,Result.andThen_ok, *] <;>
    simp only [JX z,JX Z,Result.andThen_ok,B7]<;>rfl
  have e1:(Instr.sliceAt T (.slice (some ad) 0 c) (lo.map (ev E)) (hi.map (ev E)) none).run P w=.ok (G7 k (.slice (some ad) 0 c) 0 0) w:=by
   simp [Instr.sliceAt,Instr.slice,underlying,hu,key,sizeOf,typeInfo,J,hs,G7];split<;>rfl
  simp only [execOp,hx,Cn,Sem.run_bind,e1];rfl
theorem EQ.slice {α:Type}{enc:α->List Value}{k lo hi:Nat}{l:List α}(h:EQ enc k w v l)(h1:lo<=hi)(h2:hi<=l.length):EQ enc k w (G7 k v lo hi) ((l.take hi).drop lo):=by
 have J:∀b o q,(⟨b,o,none⟩:Addr).add q=⟨b,o+q,none⟩:=λb o q=>by
  unfold Addr.add;split
  ·rename_i e;simp [e]
  ·rfl
 rcases h.sl with⟨rfl,hl⟩|⟨b,o,c,rfl,hc⟩|⟨hl,a,c,rfl⟩
 ·have:=A4 hl;subst this;simp [G7];exact EQ.nil
 rotate_left
 ·have:=A4 hl;subst this;have h3:hi=0:=by simpa using h2
  have h4:lo=0:=by omega
  subst h3;subst h4;exact⟨.inr (.inr ⟨rfl,_,_,rfl⟩),λi cs z=>by simp at z⟩
 ·refine⟨.inr (.inl ⟨b,(if c=lo then o else o+lo*k),c-lo,?_,?_⟩),λi cs z=>?_⟩
  ·simp only [G7,Ao,List.length_drop,List.length_take,J];rw[show min hi l.length=hi by omega]
   congr 2
   split<;>rfl
  ·simp;omega
  ·rw[AD,Bz,AW]at z;split at z
   ·rename_i hlt;have h3:=h.at' (lo+i) cs (by rw[AD];exact z);refine⟨h3.1,?_⟩;have O:¬ c=lo:=by omega
    have Y:base (G7 k (.slice (some ⟨b,o,none⟩) l.length c) lo hi)=(b,o+lo*k):=by simp [G7,O,base,J]
    rw[Y];have h4:=h3.2;simp only [base]at h4 ⊢;rw[show o+lo*k+i*k=o+(lo+i)*k by rw[Co];omega];exact h4
   ·cases z
@[reducible] def EO (c:UInt8):List Value:=[.int .u8 c.toNat]
@[reducible] def FU (s:EC):List Value:=[S s]
@[reducible] def encI (n:Int):List Value:=[I n]
def NS (P:Program)(T:TypeId):Bool:=match P.underlying T with
 | some (.slice e)=>(match P.underlying e with|some (.int .u8)=>true|_=>false)
 | _=>false
theorem Xkn (f:Value->ByteArray->Sem (ForInStep ByteArray))(hf:∀(c:UInt8) (s:ByteArray),(f (.int .u8 c.toNat) s).run P w=.ok (.yield (s.push c)) w) :
  ∀(l:EC) (s:ByteArray),(forIn (l.map λc=>Value.int .u8 c.toNat) s f).run P w=.ok ⟨⟨s.data.toList++l⟩⟩ w:=by
 intro l
 induction l with
 | nil=>intro s;simp
 | cons c r ih=>
  intro s;simp only [An,List.forIn_cons,Sem.run_bind,hf,Result.andThen_ok];rw[ih]
  congr 1
  simp [ByteArray.push]
theorem Kq {x:Operand}{T U:Nat}{dd:Option Tmp}{l:EC}(hT:NS P T=true)(hU:JQ P U=true)(ha:EQ EO 1 w v l)(hx:ev E x=v):LV P ⟨dd,.convert T U x,ty,pos,af,g⟩ E w (S l):=by
 have O:P.underlying U=some .string:=by
  unfold JQ at hU;split at hU<;>first|assumption|cases hU
 obtain⟨e,hTe,hee⟩:∃e,P.underlying T=some (.slice e)/\P.underlying e=some (.int .u8):=by
  unfold NS at hT;split at hT
  ·rename_i e he;split at hT
   ·rename_i h;exact⟨e,he,h⟩
   ·cases hT
  ·cases hT
 have key:(Conv.bytesToString v).run P w=.ok (S l) w:=by
  rcases ha.sl with⟨rfl,hl⟩|⟨b,o,c,rfl,Y⟩|⟨hl,a,c,rfl⟩
  ·have:=A4 hl;subst this;simp [Conv.bytesToString];rfl
  rotate_left
  ·have:=A4 hl;subst this;simp [Conv.bytesToString,loadCells,loadCellsFrom];rfl
  ·have z:=PX (P:=P) (w:=w) (b:=b) (o:=o) (l.map λc=>Value.int .u8 c.toNat) 0 #[] (λj u J=>by
    rw[AD]at J
    cases hx:l[j]? with
    | none=>rw[hx]at J;cases J
    | some y=>
     rw[hx]at J;have:=ha.row hx 0 _ rfl;simp only [base,Dz,BX]at this ⊢;simp only [Br,A0.injEq]at J;rw[this,J])
   rw[Ao]at z;unfold Conv.bytesToString;simp only [loadCells,Sem.run_bind,z,Result.andThen_ok];rw[<-Array.forIn_toList];simp only [Array.toList_append,AE];have e0:(#[]:Array Value).toList++(List.map (λc:UInt8=>Value.int .u8 c.toNat) l).toArray.toList=l.map λc=>Value.int .u8 c.toNat:=by simp
   rw[Xkn _ (λc s=>by simp)];rfl
 unfold LV;have Y:(convert T U v).run P w=.ok (S l) w:=by
  rcases ha.sl with⟨rfl,_⟩|⟨b,o,c,rfl,_⟩|⟨_,a,c,rfl⟩<;>simp [convert,underlying,hTe,O,hee,key]
 simp only [execOp,hx,Sem.run_bind,Y,Result.andThen_ok,Sem.run_pure]
def X8q (P:Program)(T:TypeId):Bool:=match P.underlying T with|some .string|some .bool|some (.int _)=>true|_=>false
def Ycu (P:Program)(T:TypeId):Option (List TypeId):=match P.underlying T with
 | some (.struct fs)=>if P.stoodInHeld T || P.eqGuardType P.depth T then none else
  if (fs.toList.zipIdx.all λ (f, i) => f.name != "_" && f.offset == i && X8q P f.type) then some (fs.toList.map (·.type)) else none
 | _=>none
def QJ : List Value->List Value->Bool
 | .string a :: r,.string b :: s=>a.toList == b.toList && QJ r s
 | .bool a :: r,.bool b :: s=>a == b && QJ r s
 | .int _ a :: r,.int _ b :: s=>a == b && QJ r s
 | _,_=>true
def Rj (P:Program):List TypeId->List Value->Prop
 | [],[]=>True
 | t :: r,.string _ :: s=>P.underlying t=some .string/\Rj P r s
 | t :: r,.bool _ :: s=>P.underlying t=some .bool/\Rj P r s
 | t :: r,.int k _ :: s=>P.underlying t=some (.int k)/\Rj P r s
 | _,_=>False
theorem Ot {x y:Operand}{T U:TypeId}{k:IntKind}{a b:Int}{dd:Option Tmp}(hx:ev E x=.int k a)(hy:ev E y=.int k b)(ha:0<=a)(hb:0<b):PV P ⟨dd,.binOp .rem T x y U,ty,pos,af,g⟩ E (.int k (a % b)):=λw=>by
 have h0:¬ b=0:=by omega
 simp [execOp,hx,hy,eqGuard,binOp,Op.intDiv,h0,Int.tmod_eq_emod_of_nonneg ha]
theorem X8r {x y:Operand}{T U:TypeId}{k:IntKind}{a b:Int}{dd:Option Tmp}(hx:ev E x=.int k a)(hy:ev E y=.int k b)(ha:0<=a)(hb:0<b):PV P ⟨dd,.binOp .quo T x y U,ty,pos,af,g⟩ E (.int k (k.wrap (a / b))):=λw=>by
 have h0:¬ b=0:=by omega
 simp [execOp,hx,hy,eqGuard,binOp,Op.intDiv,h0,Int.tdiv_eq_ediv_of_nonneg ha]
def KL (op:BinOp)(k:IntKind)(a b:Int):Int:=match op with
 | .and=>k.wrap (AN k.bits a &&& AN k.bits b).toNat
 | .or=>k.wrap (AN k.bits a ||| AN k.bits b).toNat
 | .xor=>k.wrap (AN k.bits a ^^^ AN k.bits b).toNat
 | .andNot=>k.wrap (AN k.bits a &&& ~~~ AN k.bits b).toNat
 | _=>0
theorem Lw {x y:Operand}{T U:TypeId}{op:BinOp}{k:IntKind}{a b:Int}{dd:Option Tmp}(hop:op=.and\/op=.or\/op=.xor\/op=.andNot)(hx:ev E x=.int k a)(hy:ev E y=.int k b) :
  PV P ⟨dd,.binOp op T x y U,ty,pos,af,g⟩ E (.int k (KL op k a b)):=λw=>by
 rcases hop with rfl|rfl|rfl|rfl<;>simp [execOp,hx,hy,eqGuard,binOp,Op.intBits,KL]
theorem N4 {x y:Operand}{T U:TypeId}{k ky:IntKind}{a b:Int}{dd:Option Tmp}(hx:ev E x=.int k a)(hy:ev E y=.int ky b)(hb:0<=b):PV P ⟨dd,.binOp .shr T x y U,ty,pos,af,g⟩ E (.int k (a.fdiv (2 ^ (min b.toNat k.bits)))):=λw=>by
 have h0:¬ b<0:=by omega
 simp [execOp,hx,hy,eqGuard,binOp,Op.shift,h0]
theorem Og {x y:Operand}{T U:TypeId}{k ky:IntKind}{a b:Int}{dd:Option Tmp}(hx:ev E x=.int k a)(hy:ev E y=.int ky b)(hb:0<=b):PV P ⟨dd,.binOp .shl T x y U,ty,pos,af,g⟩ E (.int k (k.wrap (a*2 ^ (min b.toNat k.bits)))):=λw=>by
 have h0:¬ b<0:=by omega
 simp [execOp,hx,hy,eqGuard,binOp,Op.shift,h0]
theorem NN {x y:Operand}{ts:Array TypeId}{a b:Int}{dd:Option Tmp}(hx:ev E x=I a)(hy:ev E y=I b):PV P ⟨dd,.call { callee:=.builtin .max,args:=#[x,y],argTypes:=ts },ty,pos,af,g⟩ E (I (max a b)):=λw=>by
 have e:(if b > a then b else a)=max a b:=by split<;>omega
 simp [execOp,resolve,invoke,builtin,Builtin.max_,Builtin.max2,hx,hy,C1,e]
theorem Rn {x y:Operand}{ts:Array TypeId}{a b:Int}{dd:Option Tmp}(hx:ev E x=I a)(hy:ev E y=I b):PV P ⟨dd,.call { callee:=.builtin .min,args:=#[x,y],argTypes:=ts },ty,pos,af,g⟩ E (I (min a b)):=λw=>by
 have e:(if b<a then b else a)=min a b:=by split<;>omega
 simp [execOp,resolve,invoke,builtin,Builtin.min_,Builtin.min2,hx,hy,C1,e]
def Nd : Value->Bool
 | .slice none _ _=>true
 | _=>false
theorem Xo6 {v:Value}{m:Nat}(hv:Gd v m)(h:Nd v=true):v=.slice none 0 0/\m=0:=by
 rcases hv with⟨rfl,rfl⟩|⟨b,o,c,rfl,_⟩|⟨rfl,a,c,rfl⟩
 ·exact⟨rfl,rfl⟩
 ·cases h
 ·cases h
theorem NA {x y:Operand}{T U e k m:Nat}{dd:Option Tmp}(hT:IC P T=some (e,k))(hv:Gd v m)(hx:ev E x=v)(hy:ev E y=.slice none 0 0):PV P ⟨dd,.binOp .eql T x y U,ty,pos,af,g⟩ E (.bool (Nd v)):=by
 rcases hv with⟨rfl,rfl⟩|⟨b,o,c,rfl,_⟩|⟨rfl,a,c,rfl⟩
 ·exact R0 hT hx hy
 ·have:=R0 (P:=P) (d:=dd) (ty:=ty) (pos:=pos) (af:=af) (g:=g) (U:=U) hT hx hy;simpa [Nd]using this
 ·have:=R0 (P:=P) (d:=dd) (ty:=ty) (pos:=pos) (af:=af) (g:=g) (U:=U) hT hx hy;simpa [Nd]using this
def ES (w:World)(F:Value->World->Prop):Ending->World->Prop:=λe w'=>∃v,e=.returned v/\ED w w'/\F v w'
theorem XM {f:Nat}{az:List Operand}{ats:Array TypeId}{vs:List Value}{F:Value->World->Prop}(hg:FK ds E g=true)(hf:GM P f=true)(hc:Calls P f vs.toArray w (ES w F))(ha:az.map (ev E)=vs)(hR:RX R anc)
  (h:∀v z,ED w z->F v z->Dw P n ds R r K (FT E d v) z) :
  Dw P n ds R ((⟨some d,.call { callee:=.value (.func f),args:=az.toArray,argTypes:=ats },ty,pos,af,g⟩,.x,anc) :: r) K E w:=
 Qe hg hf ha hc λe z ⟨v,he,hx,hF⟩=>⟨v,he,hR.use hx,h v z hx hF⟩
end
theorem I9.sub {w:World}{b o:Nat}{cs:List Value}(k n:Nat)(h:I9 w b o cs):I9 w b (o+k) ((cs.drop k).take n):=λi v hi=>by
 rw[AW]at hi;split at hi
 ·rw[Bz]at hi;have:=h (k+i) v hi;rw[show o+k+i=o+(k+i) by omega];exact this
 ·cases hi
theorem I9.at0 {w:World}{b o:Nat}{cs:List Value}{v:Value}(h:I9 w b o cs)(hk:cs[0]?=some v):w.cell? ⟨b,o,none⟩=some v:=h 0 v hk
theorem Tv : ∀(vs done cs:List Value),vs.length=cs.length->EY (done++cs) done.length vs=done++vs
 | [],done,[],_=>rfl
 | v :: vs,done,c :: cs,h=>by
  have h':vs.length=cs.length:=by simpa using h
  have e:(done++c :: cs).set done.length v=(done++[v])++cs:=by simp
  rw[EY,e];have:=Tv vs (done++[v]) cs h';rw[Aa]at this;rw[show done.length+1=done.length + [v].length from rfl,this];simp
theorem Xt6 {vs cs:List Value}(h:vs.length=cs.length):EY cs 0 vs=vs:=Tv vs [] cs h
theorem MR {α:Type}(f:α->Value)(q:List α)(r:Nat)(x:α):(q.map f).set (0+r*1) (f x)=(q.set r x).map f:=by
 rw[A9,Dz,List.map_set]
theorem EK.ne {w:World}{b b':Nat}{cs cs':List Value}{T T':TypeId}(h:EK w b cs T)(h':EK w b' cs' T')(hT:Bj T T'=false):b≠b':=by
 rintro rfl;unfold EK at h h';rw[h]at h';simp only [A0.injEq,Obj.cells.injEq]at h';rw[h'.2.1]at hT;simp at hT
section
variable {α β:Type}{enc:α->List Value}{enc':β->List Value}{sz sz' B B':Nat}{T T':TypeId}{w:World}{v v':Value}{l:List α}{l':List β}
theorem Own.heap (h:Own enc sz T B w v l){k:Nat}(hk:v.ownBlock=some k):∃cs,w.heap[k]?=some (.cells cs T (0,0)):=by
 obtain⟨_,h2⟩:=h.row;rcases h2 with⟨rfl,_⟩|⟨g,cap,cur,rfl,_,hg,_⟩
 ·cases hk
 ·have:g=k:=A0.inj hk;subst this;exact⟨cur,hg⟩
theorem Own.ne_blk (h:Own enc sz T B w v l){b:Nat}{cs:List Value}(hb:EK w b cs T')(hT:Bj T T'=false):v.ownBlock≠some b:=λe=>by
 obtain⟨cs',z⟩:=h.heap e;unfold EK at hb;rw[hb]at z;simp only [A0.injEq,Obj.cells.injEq]at z;rw[z.2.1]at hT;simp at hT
theorem Own.base_block (h:Own enc sz T B w v l)(hl:l≠[]):v.ownBlock=some (base v).1:=by
 rcases h.sl with⟨_,hn⟩|⟨b,o,c,rfl,_⟩|⟨hn,_⟩
 ·exact absurd (A4 hn) hl
 ·rfl
 ·exact absurd (A4 hn) hl
theorem Own.ne (h:Own enc sz T B w v l)(h':Own enc' sz' T' B' w v' l')(hT:Bj T T'=false){k:Nat}(hk:v.ownBlock=some k):v'.ownBlock≠some k:=λe=>by
 obtain⟨cs,J⟩:=h.heap hk;obtain⟨cs',z⟩:=h'.heap e;rw[z]at J;simp only [A0.injEq,Obj.cells.injEq]at J;rw[J.2.1]at hT;simp at hT
end
theorem RX.mod {S:Nat->Prop}{anc:Bool} : RX (Mod S) anc:=.inr λ_ _ h=>h.mono (λ_ h _=>h.elim)
theorem Jz {S:Nat->Prop}(w:World):Mod S w w:=Mod.refl S w
theorem JV {S:Nat->Prop}(a b c:World)(h:Mod S a b)(k:Mod S b c):Mod S a c:=Mod.trans h k (λ_ h=>h) (λ_ h _=>h)
theorem OQ (h:Nat):(Ax h [I 0]).flatten=(Ax h 0).map λj:Nat=>I (j:Int):=by
 induction h with
 | zero=>rfl
 | succ h ih=>rw[CG,Dy,ih,CG];rfl
@[reducible] def M3 (j:Nat):List Value:=[I (j:Int)]
@[reducible] def Iz (j:Nat):List Value:=[.int .u32 j]
@[reducible] def Ga (q:List Nat):List Value:=q.map λj:Nat=>I (j:Int)
theorem Xt7 (q:List Nat):q.flatMap M3=Ga q:=by
 induction q with
 | nil=>simp [Ga]
 | cons x r ih=>rw[AB,ih];simp [Ga]
theorem Mm {q:List Nat}{i x:Nat}(h:q[i]?=some x):(Ga q)[0+i*1]?=some (I (x:Int)):=by
 rw[A9,Dz,AD,h];rfl
section
variable {P:Program}{n:Nat}{ds:List (Option Tmp)}{R:World->World->Prop}{r:List (Oper×Fl×Bool)}{K:Fh->World->Prop}{E:Fh}{w:World}
variable {d:Nat}{op:Op}{ty:TypeId}{pos:String}{af:Array Edge}{g:Option (Nat×Bool)}{anc:Bool}{v:Value}
theorem Ox {a x:Operand}{T T' b m:Nat}{cs vs:List Value}(hg:FK ds E g=true)(ha:ev E a=EE b 0)(hx:ev E x=.agg ⟨vs⟩)(hs:Mq P T=some m)(hm:vs.length=m)(hl:cs.length=m)(hb:EK w b cs T')
  (h1:∀v∈vs,v.oneCell'=true) (hR:anc=true\/∀w',Mod (ET b) w w'->R w w')
  (h:∀z,Mod (ET b) w z->z.heap.size=w.heap.size->EK z b vs T'->Dw P n ds R r K E z):Dw P n ds R ((⟨none,.store T a x,ty,pos,af,g⟩,.x,anc) :: r) K E w:=
 Lg (v:=.agg ⟨vs⟩) hg ha hx rfl (by rw[hs,hm]) hb EB h1 hR (λz h2 h3 h4=>h z h2 h3 (by rwa [Xt6 EB]at h4))
theorem Rv {x y:Operand}{T e m i:Nat}{cs:List Value}{v:Value}{dd:Option Tmp}(hT:Oj P T=some (m,e,1))(he:Nl P e=true)(hx:ev E x=.agg ⟨cs⟩)(hy:ev E y=I i)(hi:i<m)(hv:cs[i]?=some v) :
  PV P ⟨dd,.index T x y,ty,pos,af,g⟩ E v:=λw=>by
 obtain⟨hu,f,z,hk⟩:=Q5 hT;have h0:(0:Int)<=(i:Int)/\(i:Int)<(m:Int):=by omega
 have hm:(i:Int)<(m:Int):=h0.2;simp [execOp,Instr.index,asIntOf,hx,hy,underlying,hu,hm,sizeOf,typeInfo,z,hk,part,W7 he,hv];omega
def Ff (S:Nat->Prop)(w:World)(F:Value->World->Prop):Ending->World->Prop:=λe w'=>∃v,e=.returned v/\Mod S w w'/\F v w'
theorem JP {S:Nat->Prop}{f:Nat}{az:List Operand}{ats:Array TypeId}{vs:List Value}{F:Value->World->Prop}(hg:FK ds E g=true)(hf:GM P f=true)(hc:Calls P f vs.toArray w (Ff S w F))(ha:az.map (ev E)=vs)
  (hR:anc=true\/∀w',Mod S w w'->R w w') (h:∀v z,Mod S w z->F v z->Dw P n ds R r K (FT E d v) z) :
  Dw P n ds R ((⟨some d,.call { callee:=.value (.func f),args:=az.toArray,argTypes:=ats },ty,pos,af,g⟩,.x,anc) :: r) K E w:=
 Qe hg hf ha hc λe z ⟨v,he,hx,hF⟩=>⟨v,he,λe=>hR.elim (λh=>by rw[h]at e;cases e) (λh=>h _ hx),h v z hx hF⟩
theorem RE {t ty e B:Nat}{i:TypeInfo}{z v':Value}{w':World}(ht:P.underlying t=some (.slice e))(hi:P.info? e=some i)(hz:i.zero=some z)(hzs:z.cells.size=i.size)
  {m0:Nat} {xs:List Value} (hown:w.ownsRow B e i.size v m0 xs) (a:Addr) (m c:Nat) (news:List Value) (hl:news.length=m*i.size) (hnews:∀j u,news[j]?=some u->w.cell? (a.add j)=some u) (h1:∀u∈news,u.oneCell'=true)
  (h63:m0+m<=maxLen) (hbytes:(m0+m)*i.bytes<=140737488355328) (hr:(Builtin.append_ #[t,t] ty #[v,.slice (some a) m c]).run P w=.ok v' w') :
  v'.ownBlock=v.ownBlock\/v'.ownBlock=some w.heap.size:=by
 have hsmall:m0+m<=9223372036854775807:=by simp only [maxLen]at h63;omega
 rcases hown.2 with⟨rfl,rfl⟩|⟨g,cap,cur,rfl,hbg,hg,hnc,hcm,hcs,htake⟩
 ·by_cases hm:m=0
  ·subst hm;have hn:news=[]:=A4 (by simpa using hl);subst hn;have e:(Builtin.append_ #[t,t] ty #[.slice none 0 0,.slice (some a) 0 c]).run P w=.ok (.slice none 0 0) w:=by
    simp [Builtin.append_,run_underlying ht,sizeOf,typeInfo,hi,Builtin.lenOf,Builtin.firstCells,loadCells,loadCellsFrom]
   rw[e]at hr;cases hr;exact .inl rfl
  ·have J:=run_append_nil (P:=P) w t ty e i z ht hi hz a m c news hl hnews EB EB (by have Y:=hbytes;simp only [A9]at Y;omega);rw[J]at hr;cases hr;exact .inr rfl
 ·by_cases hroom:m0+m<=cap
  ·have O:m0*i.size+news.length<=cur.size:=by rw[hl,hcs,<-Co];exact Nat.mul_le_mul_right _ hroom
   have J:=run_append_room (P:=P) w t ty e i ht hi g m0 cap cur hg a m c news hl hnews h1 hroom O;rw[J]at hr;cases hr;exact .inl rfl
  ·have holds:∀j u,xs[j]?=some u->w.cell? ((⟨g,0,none⟩:Addr).add j)=some u:=hown.cells (g:=g) rfl;have J:=run_append_grow (P:=P) w t ty e i z ht hi hz ⟨g,0,none⟩ m0 cap xs hown.1 holds a m c news hl hnews EB EB (growslice_fits EB hbytes);rw[J]at hr;cases hr;exact .inr rfl
theorem LP {α:Type}{enc:α->List Value}{s x:Operand}{t e sz by' B:Nat}{vx:Value}{l lx:List α}(hg:FK ds E g=true)(ht:IC P t=some (e,sz))(hE:M5 P e sz by'=true)
  (henc:∀x,(enc x).length=sz) (hown:Own enc sz e B w v l) (hax:EQ enc sz w vx lx) (hs:ev E s=v) (hx:ev E x=vx) (h1:∀x∈lx,∀u∈enc x,u.oneCell'=true)
  (hbytes:(l.length+lx.length)*by'<=140737488355328) (hby:1<=by') (hB:B<=w.heap.size) (hR:anc=true\/∀w',Mod (λk=>v.ownBlock=some k) w w'->R w w')
  (h:∀v' w',Own enc sz e B w' v' (l++lx)->Mod (λk=>v.ownBlock=some k) w w'->(v'.ownBlock=v.ownBlock\/v'.ownBlock=some w.heap.size)->Dw P n ds R r K (FT E d v') w') :
  Dw P n ds R ((⟨some d,.call { callee:=.builtin .append,args:=#[s,x],argTypes:=#[t,t] },ty,pos,af,g⟩,.x,anc) :: r) K E w:=by
 obtain⟨hu,_⟩:=JL ht;obtain⟨i,z,hi,hz,J,O,Z,hl⟩:=Ov hE;have hb:l.length+lx.length<=maxLen:=by
  unfold maxLen;have:(l.length+lx.length)*1<=(l.length+lx.length)*by':=C0 _ hby;omega
 have hf:∀w',Mod (λk=>v.ownBlock=some k) w w'->anc=false->R w w':=λw' hm e=>hR.elim (λh=>by rw[h]at e;cases e) (λh=>h _ hm);rcases hax.sl with⟨rfl,hl0⟩|⟨b,o,c,rfl,hc⟩|⟨hl0,⟨b,o,s0⟩,c,rfl⟩
 ·-- nothing is appended
  have hh:=A4 hl0;subst hh;have hp:(Builtin.append_ #[t,t] ty #[v,.slice none 0 0]).run P w=.ok v w:=by
   rcases hown.sl with⟨rfl,hn⟩|⟨b,o,c,rfl,hn⟩|⟨hn,a,c,rfl⟩
   ·simp [Builtin.append_,run_underlying hu,sizeOf,typeInfo,hi,Builtin.lenOf,Builtin.firstCells]
   ·simp [Builtin.append_,run_underlying hu,sizeOf,typeInfo,hi,Builtin.lenOf,Builtin.firstCells,hn,storeCells]
   ·simp [Builtin.append_,run_underlying hu,sizeOf,typeInfo,hi,Builtin.lenOf,Builtin.firstCells,hn,storeCells]
  refine HM (w':=w) (v:=v) hg ?_ (hf _ (Mod.refl _ _)) (h v w (by simpa using hown) (Mod.refl _ _) (.inl rfl));simp only [execOp,resolve,invoke,builtin,Sem.run_bind,Sem.run_pure,Result.andThen_ok,BY,An,Be,hs,hx,hp]
 ·have Y:∀j u,(lx.flatMap enc)[j]?=some u->w.cell? ((⟨b,o,none⟩:Addr).add j)=some u:=(λj u hj=>by
   have:=EQ.flat henc hax j u hj;have ha:(⟨b,o,none⟩:Addr).add j=⟨b,o+j,none⟩:=by
    unfold Addr.add;split
    ·rename_i e;simp [e]
    ·rfl
   rw[ha];exact this)
  obtain⟨v',w',hr,h2,h3,h4⟩:=run_append_own (P:=P) w B t ty e i z sz by' hu hi hz J O Z hl v l.length (l.flatMap enc) hown.row ⟨b,o,none⟩ lx.length c (lx.flatMap enc) (Fj henc lx)
   Y (PQ h1) hb hbytes hB
  have hw:=RE (P:=P) hu hi hz (by rw[Z,J]) (by rw[J];exact hown.row) ⟨b,o,none⟩ lx.length c (lx.flatMap enc) (by rw[J];exact Fj henc lx) Y (PQ h1) hb (by rw[O];exact hbytes) hr;refine HM (w':=w') (v:=v') hg ?_ (hf _ ?_) (h v' w' ⟨by rw[Aa,AU];exact h2⟩ ?_ hw)
  ·simp only [execOp,resolve,invoke,builtin,Sem.run_bind,Sem.run_pure,Result.andThen_ok,BY,An,Be,hs,hx,hr]
  ·exact Mod.of_grown h3
  ·exact Mod.of_grown h3
 ·have hh:=A4 hl0;subst hh;obtain⟨v',w',hr,h2,h3,h4⟩:=run_append_own (P:=P) w B t ty e i z sz by' hu hi hz J O Z hl v l.length (l.flatMap enc) hown.row ⟨b,o,s0⟩ 0 c [] ER (λj u hj=>by simp at hj) (λu hu=>by cases hu) hb hbytes hB;have hw:=RE (P:=P) hu hi hz (by rw[Z,J]) (by rw[J];exact hown.row) ⟨b,o,s0⟩ 0 c [] ER (λj u hj=>by simp at hj) (λu hu=>by cases hu) hb (by rw[O];exact hbytes) hr;refine HM (w':=w') (v:=v') hg ?_ (hf _ (Mod.of_grown h3)) (h v' w' ⟨by rw[Aa,AU];exact h2⟩ (Mod.of_grown h3) hw);simp only [execOp,resolve,invoke,builtin,Sem.run_bind,Sem.run_pure,Result.andThen_ok,BY,An,Be,hs,hx,hr]
end
end Go.Vc
namespace Go.Vc
open Go.RowKit Go.Maps
open Classical in
noncomputable def rdBy {α:Type} (av:α->Value) (v:Value):Option (DataW α×List MemPlace):=
 if h:∃a,v=av a then some (.held h.choose,[])else none
theorem R5 {α:Type}{av:α->Value}(inj:∀a b,av a=av b->a=b)(a:α):rdBy av (av a)=some (.held a,[]):=by
 have h:∃b,av a=av b:=⟨a,rfl⟩;unfold rdBy;rw[dif_pos h,<-inj _ _ h.choose_spec]
theorem Tl {α:Type}{av:α->Value}{v:Value}{y:DataW α×List MemPlace}(h:rdBy av v=some y):∃a,v=av a/\y=(.held a,[]):=by
 unfold rdBy at h;split at h
 ·rename_i h1
  cases h
  exact⟨_,h1.choose_spec,rfl⟩
 ·cases h
structure MapK (P:Program){κ α:Type}(t k e:TypeId)(kv:κ->Value)(av:α->Value)(ok:κ->Prop):Prop where
 und:P.underlying t=some (.map k e)
 keyed:Keyed P k
 key:∀x,ok x->∃l,keyOf P k (kv x)=some l
 inv:∀v l,keyOf P k v=some l->∃x,v=kv x/\ok x
 kinj:∀x y,kv x=kv y->x=y
 ainj:∀a b,av a=av b->a=b
open Classical in
noncomputable def putF {κ α:Type} (f:κ->Option α) (x:κ) (a:α):κ->Option α:=λy=>if y=x then some a else f y
theorem Xt8 {κ α:Type}(f:κ->Option α)(x:κ)(a:α):putF f x a x=some a:=by simp [putF]
theorem X4r {κ α:Type}(f:κ->Option α)(x:κ)(a:α){y:κ}(h:y≠x):putF f x a y=f y:=by simp [putF,h]
def LQ {α:Type}(o:Option α)(z:DataW α):DataW α:=match o with
 | some a=>.held a
 | none=>z
def Xbq {κ α:Type}(P:Program)(k:TypeId)(kv:κ->Value)(av:α->Value)(w:World)(b n:Nat)(f:κ->Option α):Prop:=
 ∃D:DataW α,w.ownsMap P k (rdBy av) b n D/\∀x l,keyOf P k (kv x)=some l->∀z,D.atKey l z=LQ (f x) z
def Xb2 {κ α:Type}(P:Program)(k:TypeId)(kv:κ->Value)(av:α->Value)(w:World)(b r n:Nat)(f:κ->Option α)(left:κ->Prop)(cnt:Nat):Prop:=
 ∃(D:DataW α) (lf:Lit->Bool),w.ranges P k (rdBy av) b r n D lf cnt/\(∀x l,keyOf P k (kv x)=some l->∀z,D.atKey l z=LQ (f x) z)/\∀x l,keyOf P k (kv x)=some l->(lf l=true↔left x)
section
variable {P:Program}{κ α:Type}{t k e:TypeId}{kv:κ->Value}{av:α->Value}{ok:κ->Prop}{w w':World}{b n r cnt:Nat}{f:κ->Option α}{left:κ->Prop}
theorem World.ownsMap.mod {H:Type}{S:Nat->Prop}{R:Value->Option (DataW H×List MemPlace)}{D:DataW H}(h:w.ownsMap P k R b n D)(m:Mod S w w')(hb:¬ S b):w'.ownsMap P k R b n D:=by
 have J:=h.lt;obtain⟨es,z,h1,F,hs,O⟩:=h;exact⟨es,z,(m.block b J hb).trans h1,F,hs,O⟩
theorem Xbq.mod {S:Nat->Prop}(h:Xbq P k kv av w b n f)(m:Mod S w w')(hb:¬ S b):Xbq P k kv av w' b n f:=by
 obtain⟨D,h1,h2⟩:=h;exact⟨D,World.ownsMap.mod h1 m hb,h2⟩
theorem Xbq.ext (h:Xbq P k kv av w b n f)(m:ED w w'):Xbq P k kv av w' b n f:=h.mod m (λh=>h)
theorem Xbq.lt (h:Xbq P k kv av w b n f):b<w.heap.size:=by
 obtain⟨D,h1,_⟩:=h;exact h1.lt
theorem Xbq.heap (h:Xbq P k kv av w b n f):∃es c,w.heap[b]?=some (.map es c):=by
 obtain⟨D,⟨es,c,h1,_⟩,_⟩:=h;exact⟨es,c,h1⟩
theorem Xbq.ne_blk (h:Xbq P k kv av w b n f){b':Nat}{cs:List Value}{T:TypeId}(hb:EK w b' cs T):b'≠b:=by
 rintro rfl;obtain⟨es,c,h1⟩:=h.heap;unfold EK at hb;rw[hb]at h1
 cases h1
theorem Xbq.ne_own (h:Xbq P k kv av w b n f){β:Type}{enc:β->List Value}{sz T B:Nat}{v:Value}{l:List β}(ho:Own enc sz T B w v l):v.ownBlock≠some b:=λe=>by
 obtain⟨cs,h1⟩:=ho.heap e;obtain⟨es,c,h2⟩:=h.heap;rw[h1]at h2
 cases h2
theorem Xb2.congr {left':κ->Prop}(h:Xb2 P k kv av w b r n f left cnt)(hl:∀x,left x↔left' x):Xb2 P k kv av w b r n f left' cnt:=by
 obtain⟨D,lf,h0,h2,h3⟩:=h;exact⟨D,lf,h0,h2,λx l z=>(h3 x l z).trans (hl x)⟩
theorem Xb2.mod {S:Nat->Prop}(h:Xb2 P k kv av w b r n f left cnt)(m:Mod S w w')(hb:¬ S b)(hr:¬ S r):Xb2 P k kv av w' b r n f left cnt:=by
 obtain⟨D,lf,h0,h2,h3⟩:=h;have Z:=h0.owns.lt;have Y:=h0.lt;obtain⟨es,z,J,O,c0,h1,F,hs,hD,ha,rest⟩:=h0;exact⟨D,lf,⟨es,z,J,O,c0,(m.block b Z hb).trans h1,F,hs,hD,(m.block r Y hr).trans ha,rest⟩,h2,h3⟩
theorem Xb2.ext (h:Xb2 P k kv av w b r n f left cnt)(m:ED w w'):Xb2 P k kv av w' b r n f left cnt:=h.mod m (λh=>h) (λh=>h)
theorem Xb2.lt (h:Xb2 P k kv av w b r n f left cnt):r<w.heap.size:=by
 obtain⟨D,lf,h0,h2,h3⟩:=h;exact h0.lt
theorem Xbq.made (M:MapK P t k e kv av ok):Xbq P k kv av (w.alloc (.map #[] 0)) w.heap.size 0 (λ_=>none):=
 ⟨.map [],World.ownsMap_made w P k _,λx l hl z=>rfl⟩
theorem OS (M:MapK P t k e kv av ok){x y:κ}{lx ly:Lit}(hx:keyOf P k (kv x)=some lx)(hy:keyOf P k (kv y)=some ly)(h:y≠x):ly≠lx:=λe=>by
 subst e;exact h (M.kinj _ _ (M.keyed.inj hy hx))
theorem Xbq.update (M:MapK P t k e kv av ok)(h:Xbq P k kv av w b n f)(hn:n<maxLen){x:κ}(hx:ok x)(a:α) :
  ∃w',(Instr.mapUpdate t (.map (some b)) (kv x) (av a)).run P w=.ok () w'/\Xbq P k kv av w' b (n+1) (putF f x a)/\Mod (ET b) w w'/\w'.heap.size=w.heap.size:=by
 obtain⟨D,h1,h2⟩:=h;obtain⟨l,O⟩:=M.key x hx;obtain⟨w',hr,ho,Y⟩:=h1.store M.keyed M.und hn O (R5 M.ainj a);refine⟨w',hr,⟨_,ho,λy Z J z=>?_⟩,?_,?_⟩
 ·by_cases e:y=x
  ·subst e;rw[O]at J
   cases J
   rw[Xt8,Maps.atKey_put_same h1.isMap (M.keyed.key O)];rfl
  ·rw[X4r _ _ _ e,Maps.atKey_put_other (OS M O J e),h2 y Z J]
 ·have hg:=Y.grown;exact(Mod.of_grown hg).mono (λi hi _=>(A0.inj hi).symm)
 ·obtain⟨es,c,es',c',_,e⟩:=Y;rw[e];simp [ChangeMaps.setBlock]
theorem Xbq.look (M:MapK P t k e kv av ok)(h:Xbq P k kv av w b n f){z0:α}(hz:(zeroValue e).run P w=.ok (av z0) w){x:κ}(hx:ok x) :
  (Instr.lookup t (.map (some b)) (kv x) false).run P w=.ok (av ((f x).getD z0)) w:=by
 obtain⟨D,h1,h2⟩:=h;obtain⟨l,z⟩:=M.key x hx;obtain⟨v,ps,J,hv⟩:=h1.lookup M.keyed M.und hz (R5 M.ainj z0) z;rw[h2 x l z]at hv;obtain⟨a,rfl,e⟩:=Tl hv;rw[J]
 cases hf:f x with
 | none=>rw[hf]at e;simp only [LQ,Bl.injEq,DataW.held.injEq]at e;rw[e.1];rfl
 | some c=>rw[hf]at e;simp only [LQ,Bl.injEq,DataW.held.injEq]at e;rw[e.1];rfl
theorem Xbq.range (M:MapK P t k e kv av ok)(h:Xbq P k kv av w b n f) :
  ∃w' cnt,(Instr.range t (.map (some b))).run P w=.ok (EE w.heap.size 0) w'/\Xb2 P k kv av w' b w.heap.size n f (λx=>(f x).isSome=true) cnt/\cnt<=n/\ED w w'/\w'.heap.size=w.heap.size+1:=by
 obtain⟨D,h1,h2⟩:=h;obtain⟨w',hr,O,Z,hs⟩:=h1.range M.keyed M.und;refine⟨w',_,hr,⟨D,_,O,h2,λx l Y=>?_⟩,h1.size_le,ED.of_grown Z,hs⟩
 cases hf:f x with
 | none=>
  have J:Maps.has D l=false:=Maps.has_false_of_atKey (λz=>by rw[h2 x l Y,hf];rfl);rw[J];simp [hf]
 | some c=>
  have J:Maps.has D l=true:=Maps.has_true_of_atKey (y:=.held c) (λz=>by rw[h2 x l Y,hf];rfl);rw[J];simp [hf]
theorem Xb2.next (M:MapK P t k e kv av ok)(h:Xb2 P k kv av w b r n f left cnt)(ty:TypeId) :
  ((∀x,ok x->¬ left x)/\(Instr.next (EE r 0) false ty).run P w=.ok (.tuple #[.bool false]) w)\/
  ∃x a w' cnt',ok x/\left x/\f x=some a/\(Instr.next (EE r 0) false ty).run P w=.ok (.tuple #[.bool true,kv x,av a]) w'/\
   Xb2 P k kv av w' b r n f (λy=>left y/\y≠x) cnt'/\cnt'<cnt/\Mod (ET r) w w'/\w'.heap.size=w.heap.size/\(Instr.entry (EE r 0)).run P w'=.ok (.tuple #[kv x,av a]) w':=by
 obtain⟨D,lf,h1,h2,h3⟩:=h;rcases h1.next M.keyed ty with⟨_,hl,hr⟩|⟨key,v,kl,y,w',cnt',hk,hlk,hv,hat,hr,hrg,hlt,hg,hs,hen⟩
 ·refine .inl ⟨λx J Z=>?_,hr⟩;obtain⟨l,O⟩:=M.key x J;have:=(h3 x l O).2 Z;rw[hl l]at this
  cases this
 ·obtain⟨x,rfl,J⟩:=M.inv key kl hk;obtain⟨a,rfl,e⟩:=Tl hv;refine .inr ⟨x,a,w',cnt',J,(h3 x kl hk).1 hlk,?_,hr,⟨D,_,hrg,h2,λy' Y z=>?_⟩,hlt,(Mod.of_grown hg).mono (λi hi _=>(A0.inj hi).symm),hs,hen⟩
  ·have h4:=hat .nil;rw[h2 x kl hk,e]at h4
   cases hf:f x with
   | none=>rw[hf]at h4;simp [LQ]at h4
   | some c=>rw[hf]at h4;simp only [LQ,DataW.held.injEq]at h4;rw[h4]
  ·rw[Au,h3 y' Y z,BO];refine and_congr_right λ_=>?_
   by_cases e':y'=x
   ·subst e';rw[hk]at z
    cases z
    rw[WideAt.sameKey_self (M.keyed.key hk)];simp
   ·have:=OS M hk z e';have h5:Y.sameKey kl=false:=by
     cases hh:Y.sameKey kl
     ·rfl
     ·exact absurd (WideAt.sameKey_eq hh) this
    simp [h5,e']
end
section
variable {P:Program}{N:Nat}{ds:List (Option Tmp)}{R:World->World->Prop}{rs:List (Oper×Fl×Bool)}{K:Fh->World->Prop}{E:Fh}{w:World}
variable {d:Nat}{op:Op}{ty:TypeId}{pos:String}{af:Array Edge}{g:Option (Nat×Bool)}{anc:Bool}{v:Value}
variable {κ α:Type}{t k e:TypeId}{kv:κ->Value}{av:α->Value}{ok:κ->Prop}{b n r cnt:Nat}{f:κ->Option α}{left:κ->Prop}
theorem Px (M:MapK P t k e kv av ok)(hg:FK ds E g=true)(hR:RX R anc)
  (h:∀b w1,b=w.heap.size->ED w w1->Xbq P k kv av w1 b 0 (λ_=>none)->Dw P N ds R rs K (FT E d (.map (some b))) w1):Dw P N ds R ((⟨some d,.makeMap t none,ty,pos,af,g⟩,.x,anc) :: rs) K E w:=by
 refine HM (v:=.map (some w.heap.size)) (w':=w.alloc (.map #[] 0)) hg ?_ (hR.use (ED.alloc _ _)) (h _ _ rfl (ED.alloc _ _) (Xbq.made M));have e1:(Instr.makeMap t none).run P w=.ok (.map (some w.heap.size)) (w.alloc (.map #[] 0)):=run_makeMap t w;simp [execOp,e1]
theorem Ou {m x y:Operand}(M:MapK P t k e kv av ok){kx:κ}{a:α}(hg:FK ds E g=true)(hm:ev E m=.map (some b))(hx:ev E x=kv kx)(hy:ev E y=av a)(hmap:Xbq P k kv av w b n f)(hok:ok kx)(hn:n<maxLen)
  (hR:anc=true\/∀w',Mod (ET b) w w'->R w w') (h:∀w1,Mod (ET b) w w1->w1.heap.size=w.heap.size->Xbq P k kv av w1 b (n+1) (putF f kx a)->Dw P N ds R rs K E w1) :
  Dw P N ds R ((⟨none,.mapUpdate t m x y,ty,pos,af,g⟩,.x,anc) :: rs) K E w:=by
 obtain⟨w',z,h1,h2,h3⟩:=hmap.update M hn hok a;refine Qg (w':=w') hg ?_ (λe=>hR.elim (λh=>by rw[h]at e;cases e) (λh=>h _ h2)) (h _ h2 h3 h1);simp [execOp,hm,hx,hy,z]
theorem L5 {m x:Operand}(M:MapK P t k e kv av ok){kx:κ}{z0:α}{dd:Option Tmp}(hm:ev E m=.map (some b))(hx:ev E x=kv kx)(hz:(zeroValue e).run P w=.ok (av z0) w)(hmap:Xbq P k kv av w b n f)(hok:ok kx) :
  LV P ⟨dd,.lookup t m x false,ty,pos,af,g⟩ E w (av ((f kx).getD z0)):=by
 unfold LV;have:=hmap.look M hz hok;simp [execOp,hm,hx,this]
theorem S2 {m:Operand}(M:MapK P t k e kv av ok)(hg:FK ds E g=true)(hm:ev E m=.map (some b))(hmap:Xbq P k kv av w b n f)(hR:RX R anc)
  (h:∀r w1 cnt,r=w.heap.size->ED w w1->cnt<=n->Xb2 P k kv av w1 b r n f (λx=>(f x).isSome=true) cnt->Dw P N ds R rs K (FT E d (EE r 0)) w1) :
  Dw P N ds R ((⟨some d,.range t m,ty,pos,af,g⟩,.x,anc) :: rs) K E w:=by
 obtain⟨w',cnt,z,h1,h2,h3,h4⟩:=hmap.range M;refine HM (w':=w') (v:=EE w.heap.size 0) hg ?_ (hR.use h3) (h _ _ _ rfl h3 h2 h1);simp [execOp,hm,z]
theorem Uh {it:Operand}(M:MapK P t k e kv av ok)(hg:FK ds E g=true)(hit:ev E it=EE r 0)(hrg:Xb2 P k kv av w b r n f left cnt)(hR:anc=true\/∀w',Mod (ET r) w w'->R w w')
  (h0:(∀x,ok x->¬ left x)->Dw P N ds R rs K (FT E d (.tuple #[.bool false])) w)
  (h:∀x a w1 cnt',ok x->left x->f x=some a->Mod (ET r) w w1->w1.heap.size=w.heap.size->cnt'<cnt->Xb2 P k kv av w1 b r n f (λy=>left y/\y≠x) cnt'->(Instr.entry (EE r 0)).run P w1=.ok (.tuple #[kv x,av a]) w1->
   Dw P N ds R rs K (FT E d (.tuple #[.bool true,kv x,av a])) w1) :
  Dw P N ds R ((⟨some d,.next it false,ty,pos,af,g⟩,.x,anc) :: rs) K E w:=by
 rcases hrg.next M ty with⟨hl,hr⟩|⟨x,a,w',cnt',hx,hlx,hfx,hr,h1,hlt,h2,hs,hen⟩
 ·refine HM (w':=w) (v:=.tuple #[.bool false]) hg ?_ (λe=>hR.elim (λh=>by rw[h]at e;cases e) (λh=>h _ (Mod.refl _ _))) (h0 hl);simp [execOp,hit,hr]
 ·refine HM (w':=w') (v:=.tuple #[.bool true,kv x,av a]) hg ?_ (λe=>hR.elim (λh=>by rw[h]at e;cases e) (λh=>h _ h2)) (h x a w' cnt' hx hlx hfx h2 hs hlt h1 hen);simp [execOp,hit,hr]
theorem Xg {it:Operand}{dd:Option Tmp}{u1 u2:Value}(hit:ev E it=v)(hen:(Instr.entry v).run P w=.ok (.tuple #[u1,u2]) w):LV P ⟨dd,.entry it,ty,pos,af,g⟩ E w (.tuple #[u1,u2]):=by
 unfold LV;simp [execOp,hit,hen]
end
theorem EQ.base_lt {α:Type}{enc:α->List Value}{sz:Nat}{w:World}{v:Value}{l:List α}(h:EQ enc sz w v l)(hsz:0<sz)(hl:l≠[]):(base v).1<w.heap.size:=by
 cases l with
 | nil=>exact absurd rfl hl
 | cons x r=>exact h.blk hsz (x:=x) rfl
theorem Ybm (x y:EC)(h:S x=S y):x=y:=by
 simpa [S]using h
theorem ML {P:Program}{α:Type}{t k e:TypeId}{av:α->Value}(hu:P.underlying t=some (.map k e))(hk:P.underlying k=some .string)(ha:∀a b,av a=av b->a=b):MapK P t k e S av (λs=>s.length<=maxLen):=
 ⟨hu,string_keyed hk,λx J=>⟨_,WideMaps.keyOf_string_mk hk (s:=⟨⟨x⟩⟩) J⟩,λv l z=>by
  simp only [keyOf,hk]at z
  cases v<;>simp [mapKey,hk]at z
  rename_i s;obtain⟨h1,rfl⟩:=z;exact⟨s.data.toList,rfl,h1⟩,Ybm,ha⟩
section
variable {P:Program}{N:Nat}{ds:List (Option Tmp)}{R:World->World->Prop}{rs:List (Oper×Fl×Bool)}{K:Fh->World->Prop}{E:Fh}{w:World}
variable {d:Nat}{op:Op}{ty:TypeId}{pos:String}{af:Array Edge}{g:Option (Nat×Bool)}{anc:Bool}{v:Value}
theorem Xy7 (w:World)(e:TypeId)(s:EC)(c:Nat):EQ EO 1 (Lib.bytesWorld w e ⟨⟨s⟩⟩) (.slice (some ⟨w.heap.size,0,none⟩) s.length (max c s.length)) s:=by
 refine⟨.inr (.inl ⟨_,0,_,by rw[Ao],by rw[Ao];omega⟩),λi cs hi=>?_⟩;rw[AD]at hi;obtain⟨x,J,rfl⟩:=Bb.1 hi;refine⟨rfl,λj u O=>?_⟩;have z:=(Ap.1 J).1
 cases j with
 | succ j=>simp at O
 | zero=>
  have e2:u=.int .u8 (x.toNat:Int):=by simpa using O.symm
  rw[e2];have Y:=Lib.bytesWorld_cell w e ⟨⟨s⟩⟩ i z;have Z:(⟨⟨s⟩⟩:ByteArray).data.toList.getD i 0=x:=by simp [List.getD,J]
  rw[Z]at Y;simpa [base]using Y
theorem Mz {x:Operand}{T U e:Nat}{s:EC}(hg:FK ds E g=true)(hT:JQ P T=true)(hU:P.underlying U=some (.slice e))(he:P.underlying e=some (.int .u8))(hx:ev E x=S s)(hR:RX R anc)
  (h:∀b c w1,b=w.heap.size->ED w w1->EQ EO 1 w1 (.slice (some ⟨b,0,none⟩) s.length c) s->Dw P N ds R rs K (FT E d (.slice (some ⟨b,0,none⟩) s.length c)) w1):Dw P N ds R ((⟨some d,.convert T U x,ty,pos,af,g⟩,.x,anc) :: rs) K E w:=by
 have O:P.underlying T=some .string:=by
  unfold JQ at hT;split at hT<;>first|assumption|cases hT
 have hr:=Lib.run_convert_string_bytes w T U e ⟨⟨s⟩⟩ O hU he;have J:ED w (Lib.bytesWorld w e ⟨⟨s⟩⟩):=⟨rfl,rfl,rfl,by rw[Lib.bytesWorld_size];omega,λk hk _=>Lib.bytesWorld_at_old w e _ k hk⟩;have z:s.length<=grownCap w s.length 0 e:=by
  exact Nat.le_add_right _ _
 have Z:=Xy7 w e s (grownCap w s.length 0 e);rw[Nat.max_eq_left z]at Z;refine HM (v:=.slice (some ⟨w.heap.size,0,none⟩) s.length (grownCap w s.length 0 e)) (w':=Lib.bytesWorld w e ⟨⟨s⟩⟩) hg ?_ (hR.use J) (h _ _ _ rfl J Z);have Y:(convert T U (S s)).run P w=.ok (.slice (some ⟨w.heap.size,0,none⟩) s.length (grownCap w s.length 0 e)) (Lib.bytesWorld w e ⟨⟨s⟩⟩):=hr;simp only [execOp,hx,Sem.run_bind,Y,Result.andThen_ok,Sem.run_pure,Gu]
theorem Ybn (l:EC):l.flatMap EO=l.map λc=>Value.int .u8 c.toNat:=by
 induction l with
 | nil=>rfl
 | cons x r ih=>rw[AB,ih];rfl
theorem EQ.row8 {v:Value}{l:EC}(h:EQ EO 1 w v l):I9 w (base v).1 (base v).2 (l.map λc=>Value.int .u8 c.toNat):=λi u hi=>by
 rw[<-Ybn]at hi;exact EQ.flat (enc:=EO) (sz:=1) (λ_=>rfl) h i u hi
end
@[reducible] def A8 (l:EC):Value:=.agg ⟨l.map λc=>Value.int .u8 c.toNat⟩
end Go.Vc
namespace Go.Vc
open Go.RowKit
@[reducible] def b8 (c:UInt8):Value:=.int .u8 c.toNat
theorem Oc (n:Int):IntKind.u8.wrap n=n % 256:=by simp [IntKind.wrap,IntKind.bits,IntKind.signed]
theorem Xub {a b:UInt8} : ((a.toNat:Int)=b.toNat)↔a=b:=⟨λh=>UInt8.toNat_inj.1 EB,λh=>by rw[h]⟩
theorem Xuc {a b:UInt8} : ((a.toNat:Int)<b.toNat)↔a<b:=by rw[UInt8.lt_iff_toNat_lt];omega
section
variable {P:Program}{E:Fh}{d:Option Tmp}{ty:TypeId}{pos:String}{af:Array Edge}{g:Option (Nat×Bool)}{w:World}{T U:TypeId}{x y:Operand}
theorem OX {a b:UInt8}(hx:ev E x=b8 a)(hy:ev E y=b8 b):PV P ⟨d,.binOp .eql T x y U,ty,pos,af,g⟩ E (.bool (decide (a=b))):=by
 have:=GB (P:=P) (d:=d) (ty:=ty) (pos:=pos) (af:=af) (g:=g) (T:=T) (U:=U) hx hy;rwa [show decide ((a.toNat:Int)=b.toNat)=decide (a=b) from decide_eq_decide.2 Xub]at this
theorem UP {a b:UInt8}(hx:ev E x=b8 a)(hy:ev E y=b8 b):PV P ⟨d,.binOp .lss T x y U,ty,pos,af,g⟩ E (.bool (decide (a<b))):=by
 have:=Fb (P:=P) (d:=d) (ty:=ty) (pos:=pos) (af:=af) (g:=g) (T:=T) (U:=U) hx hy;rwa [show decide ((a.toNat:Int)<b.toNat)=decide (a<b) from decide_eq_decide.2 Xuc]at this
theorem OP (a:UInt8):AN 8 (a.toNat:Int)=a.toBitVec:=by
 apply BitVec.eq_of_toNat_eq
 rw[BitVec.toNat_ofInt];have:=a.toNat_lt;show((a.toNat:Int) % ((2 ^ 8:Nat):Int)).toNat=a.toNat;omega
theorem QF {a b:UInt8}(hx:ev E x=b8 a)(hy:ev E y=b8 b):PV P ⟨d,.binOp .and T x y U,ty,pos,af,g⟩ E (b8 (a &&& b)):=by
 have:=Lw (P:=P) (dd:=d) (ty:=ty) (pos:=pos) (af:=af) (g:=g) (T:=T) (U:=U) (op:=.and) (.inl rfl) hx hy;rwa [show KL .and .u8 (a.toNat:Int) b.toNat=((a &&& b).toNat:Int) by
  show IntKind.u8.wrap ((AN 8 (a.toNat:Int) &&& AN 8 (b.toNat:Int)).toNat:Int)=_;rw[OP,OP,Oc];have:=(a &&& b).toNat_lt;show(((a &&& b).toNat:Int)) % 256=_;omega]at this
theorem XI {a b:UInt8}(hx:ev E x=b8 a)(hy:ev E y=b8 b):PV P ⟨d,.binOp .or T x y U,ty,pos,af,g⟩ E (b8 (a ||| b)):=by
 have:=Lw (P:=P) (dd:=d) (ty:=ty) (pos:=pos) (af:=af) (g:=g) (T:=T) (U:=U) (op:=.or) (.inr (.inl rfl)) hx hy;rwa [show KL .or .u8 (a.toNat:Int) b.toNat=((a ||| b).toNat:Int) by
  show IntKind.u8.wrap ((AN 8 (a.toNat:Int) ||| AN 8 (b.toNat:Int)).toNat:Int)=_;rw[OP,OP,Oc];have:=(a ||| b).toNat_lt;show(((a ||| b).toNat:Int)) % 256=_;omega]at this
theorem Xy8 {a:UInt8}(hx:ev E x=b8 a)(hT:(P.underlying T).isSome=true)(hU:HG P U=some .i64):PV P ⟨d,.convert T U x,ty,pos,af,g⟩ E (I a.toNat):=by
 have:=JO (P:=P) (d:=d) (ty:=ty) (pos:=pos) (af:=af) (g:=g) hx hT hU;rwa [KB (by have:=a.toNat_lt;unfold EU;omega)]at this
theorem O6 {n:Nat}{k:IntKind}(hx:ev E x=.int k n)(hT:(P.underlying T).isSome=true)(hU:HG P U=some .u8):PV P ⟨d,.convert T U x,ty,pos,af,g⟩ E (b8 (AJ n)):=by
 have:=JO (P:=P) (d:=d) (ty:=ty) (pos:=pos) (af:=af) (g:=g) hx hT hU;rwa [show IntKind.u8.wrap (n:Int)=((AJ n).toNat:Int) by rw[Oc];simp]at this
theorem Xy9 {x y:Operand}{a:EC}{i:Nat}{c:UInt8}(hT:JQ P T=true)(hx:ev E x=S a)(hy:ev E y=I i)(hi:a[i]?=some c):PV P ⟨d,.index T x y,ty,pos,af,g⟩ E (b8 c):=Pe hT hx hy hi
end
section
variable {P:Program}{n:Nat}{ds:List (Option Tmp)}{R:World->World->Prop}{r:List (Oper×Fl×Bool)}{K:Fh->World->Prop}{E:Fh}{w:World}
variable {d:Nat}{op:Op}{ty:TypeId}{pos:String}{af:Array Edge}{g:Option (Nat×Bool)}{anc:Bool}{v v':Value}
theorem dm {x:Operand}(h:Dw P n ds R r K (FT E d v) w)(hg:FK ds E g=true:=by rfl)(hx:ev E x=v:=by conv=>lhs;whnf):Dw P n ds R ((⟨some d,.move x,ty,pos,af,g⟩,.p,anc) :: r) K E w:=Ycs hg hx h
theorem da {x:Operand}(h:Dw P n ds R r K (FT E d v) w)(hg:FK ds E g=true:=by rfl)(hx:ev E x=v:=by conv=>lhs;whnf):Dw P n ds R ((⟨some d,.assign x,ty,pos,af,g⟩,.p,anc) :: r) K E w:=Yct hg hx h
theorem dk {f:Fl}(h:Dw P n ds R r K (FT E d undef) w)(hg:FK ds E g=false:=by rfl):Dw P n ds R ((⟨some d,op,ty,pos,af,g⟩,f,anc) :: r) K E w:=X8p hg h
theorem dp (hv:PV P ⟨some d,op,ty,pos,af,g⟩ E v)(h:Dw P n ds R r K (FT E d v) w)(hg:FK ds E g=true:=by rfl):Dw P n ds R ((⟨some d,op,ty,pos,af,g⟩,.p,anc) :: r) K E w:=Ke hg hv h
theorem dq (hv:LV P ⟨some d,op,ty,pos,af,g⟩ E w v)(h:Dw P n ds (λa b=>a=b) r K (FT E d v) w)(hg:FK ds E g=true:=by rfl):Dw P n ds (λa b=>a=b) ((⟨some d,op,ty,pos,af,g⟩,.l,anc) :: r) K E w:=UH hg hv h
theorem dn {x:Operand}{T:TypeId}{b:Bool}(h:Dw P n ds R r K (FT E d v) w)(hg:FK ds E g=true:=by rfl)(hx:ev E x=.bool b:=by rfl)(hn:Value.bool (!b)=v:=by conv=>lhs;whnf):Dw P n ds R ((⟨some d,.unOp .not T x,ty,pos,af,g⟩,.p,anc) :: r) K E w:=EW hg (X8m hx) hn h
theorem EP {c a b:Operand}{t:Bool}{x y:Value}(h:Dw P n ds R r K (FT E d v) w)(hg:FK ds E g=true:=by rfl)(hc:ev E c=.bool t:=by rfl)(ha:ev E a=x:=by rfl)(hb:ev E b=y:=by rfl)(hn:(if t then x else y)=v:=by conv=>lhs;whnf):Dw P n ds R ((⟨some d,.pick c a b,ty,pos,af,g⟩,.p,anc) :: r) K E w:=EW hg (X4j hc ha hb) hn h
def flOf : Op->Fl
 | .load .. | .lookup .. | .entry ..=>.l
 | .move .. | .assign .. | .pick .. | .nilCheck .. | .binOp .. | .unOp .. | .convert .. | .slice .. | .fieldAddr .. | .field .. | .indexAddr .. | .index .. | .extract .. | .build .. | .makeInterface .. | .makeFunc .. | .sliceToArrayPointer ..=>.p
 | .call c=>(match c.callee with | .builtin .len | .builtin .cap | .builtin .min | .builtin .max=>.p|_=>.x)
 | _=>.x
def O4 : List Oper->List Fl
 | []=>[]
 | o :: r=>flOf o.op :: O4 r
theorem TP : ∀l:List Oper,(O4 l).length=l.length
 | []=>rfl
 | o :: r=>by simp [O4,TP r]
theorem wr {id:Nat}{l:List Oper}{Q:Exit->Fh->World->Prop}(h:Dw P n (l.map (·.dst)) (λa b=>a=b) (Mr l (O4 l)) (λE w=>Q .normal E w) E w):W P n (.region id l.toArray false) Q E w:=
 KW (O4 l) (by rw[TP];simp) h
theorem ro {fn:Func}{t:Nat}{R:Ending->World->Prop}(h:R (.returned v) w)(hr:fn.results=#[.tmp t]:=by rfl)(ht:AR t n=true:=by rfl)(hv:E t=v:=by conv=>lhs;whnf):Jt P fn n R .ret E w:=X4o hr ht hv h
theorem rt {fn:Func}{t s:Nat}{u:Value}{R:Ending->World->Prop}(h:R (.returned (.tuple #[v,u])) w)(hr:fn.results=#[.tmp t,.tmp s]:=by rfl)(ht:AR t n=true:=by rfl)(hs:AR s n=true:=by rfl)(hv:E t=v:=by conv=>lhs;whnf)(hu:E s=u:=by conv=>lhs;whnf):Jt P fn n R .ret E w:=X4p hr ht hs hv hu h
theorem cw {f:FuncId}{fn:Func}{c:Code}{az:List Value}{R:Ending->World->Prop}(hf:P.funcs[f]?=some fn)(h:W P n c (Jt P fn n R) (La az 0 (λ_=>undef)) w)(hb:fn.body=some c:=by rfl)(hn:fn.ntmps=n:=by rfl)(hle:CF az.length n=true:=by rfl)(ok:J7 n c=true:=by kernel_rfl):Calls P f az.toArray w R:=X4h hf hb hn hle ok h
theorem ws {x y:Code}{Q:Exit->Fh->World->Prop}(h:∀K:Fh->World->Prop,(∀E w,W P n y Q E w->K E w)->W P n x (Ip K Q) E w):W P n (.seq x y) Q E w:=XE h
theorem wi {Q:Exit->Fh->World->Prop}{c:Operand}{x y:Code}{p:Prop}[Decidable p](ht:p->W P n x Q E w)(hf:¬ p->W P n y Q E w)(hc:ev E c=.bool (decide p):=by rfl):W P n (.cond c x y) Q E w:=Ycr hc ht hf
theorem wc {Q:Exit->Fh->World->Prop}{c:Operand}{x y:Code}{t:Bool}(ht:t=true->W P n x Q E w)(hf:t=false->W P n y Q E w)(hc:ev E c=.bool t:=by rfl):W P n (.cond c x y) Q E w:=Pj hc ht hf
theorem di {x y:Operand}{T m i:Nat}(e k:Nat)(hv:Gd v m)(hy:ev E y=I i)(hi:i<m)(h:Dw P n ds R r K (FT E d (EE (base v).1 ((base v).2+i*k))) w)(hg:FK ds E g=true:=by rfl)(hx:ev E x=v:=by rfl)(hT:IC P T=some (e,k):=by kernel_rfl):Dw P n ds R ((⟨some d,.indexAddr T x y,ty,pos,af,g⟩,.p,anc) :: r) K E w:=Ke hg (HY hT hv hx hy hi) h
theorem dv {x:Operand}{T m:Nat}(e k:Nat)(hv:Gd v m)(h:Dw P n ds R r K (FT E d (I m)) w)(hg:FK ds E g=true:=by rfl)(hx:ev E x=v:=by rfl)(hT:IC P T=some (e,k):=by kernel_rfl):Dw P n ds R ((⟨some d,.call { callee:=.builtin .len,args:=#[x],argTypes:=#[T] },ty,pos,af,g⟩,.p,anc) :: r) K E w:=Ke hg (QS hT hv hx) h
theorem dt {x:Operand}{T:TypeId}{a:EC}(hx:ev E x=S a)(h:Dw P n ds R r K (FT E d (I a.length)) w)(hg:FK ds E g=true:=by rfl)(hT:JQ P T=true:=by kernel_rfl):Dw P n ds R ((⟨some d,.call { callee:=.builtin .len,args:=#[x],argTypes:=#[T] },ty,pos,af,g⟩,.p,anc) :: r) K E w:=Ke hg (X4l hT hx) h
theorem dx {x:Operand}{i:Nat}{vs:List Value}(hx:ev E x=.tuple ⟨vs⟩)(hv:vs[i]?=some v)(h:Dw P n ds R r K (FT E d v) w)(hg:FK ds E g=true:=by rfl):Dw P n ds R ((⟨some d,.extract x i,ty,pos,af,g⟩,.p,anc) :: r) K E w:=Ke hg (X8n hx hv) h
theorem dz {x:Operand}{a:Addr}(hx:ev E x=.pointer (some a))(h:Dw P n ds R r K (FT E d (.pointer (some a))) w)(hg:FK ds E g=true:=by rfl):Dw P n ds R ((⟨some d,.nilCheck x,ty,pos,af,g⟩,.p,anc) :: r) K E w:=Ke hg (X4m hx) h
theorem cP {f:Nat}{az:List Operand}{ats:Array TypeId}{vs:List Value}(hc:Calls P f vs.toArray w (Pure w v))(hR:RX R anc)(h:∀w1,ED w w1->Dw P n ds R r K (FT E d v) w1)(hg:FK ds E g=true:=by rfl)(hf:GM P f=true:=by kernel_rfl)(ha:az.map (ev E)=vs:=by rfl):Dw P n ds R ((⟨some d,.call { callee:=.value (.func f),args:=az.toArray,argTypes:=ats },ty,pos,af,g⟩,.x,anc) :: r) K E w:=X4n hg hf hc ha hR h
theorem cG {f:Nat}{az:List Operand}{ats:Array TypeId}{vs:List Value}{F:Value->World->Prop}(hc:Calls P f vs.toArray w (ES w F))(hR:RX R anc)(h:∀v w1,ED w w1->F v w1->Dw P n ds R r K (FT E d v) w1)(hg:FK ds E g=true:=by rfl)(hf:GM P f=true:=by kernel_rfl)(ha:az.map (ev E)=vs:=by rfl):Dw P n ds R ((⟨some d,.call { callee:=.value (.func f),args:=az.toArray,argTypes:=ats },ty,pos,af,g⟩,.x,anc) :: r) K E w:=XM hg hf hc ha hR h
theorem cD {S:Nat->Prop}{f:Nat}{az:List Operand}{ats:Array TypeId}{vs:List Value}{F:Value->World->Prop}(hc:Calls P f vs.toArray w (Ff S w F))(hR:anc=true\/∀w',Mod S w w'->R w w')(h:∀v w1,Mod S w w1->F v w1->Dw P n ds R r K (FT E d v) w1)(hg:FK ds E g=true:=by rfl)(hf:GM P f=true:=by kernel_rfl)(ha:az.map (ev E)=vs:=by rfl):Dw P n ds R ((⟨some d,.call { callee:=.value (.func f),args:=az.toArray,argTypes:=ats },ty,pos,af,g⟩,.x,anc) :: r) K E w:=JP hg hf hc ha hR h
theorem de {K1:Fh->World->Prop}{y:Code}{Q:Exit->Fh->World->Prop}(hK:∀E w,W P n y Q E w->K1 E w)(h:W P n y Q E w):Dw P n ds R [] K1 E w:=hK E w h
theorem df {x:Operand}{T f o b:Nat}(k:Nat)(hx:ev E x=EE b o)(h:Dw P n ds R r K (FT E d (EE b (o+k))) w)(hg:FK ds E g=true:=by rfl)(hT:Mv P T f=some k:=by kernel_rfl):Dw P n ds R ((⟨some d,.fieldAddr T x f,ty,pos,af,g⟩,.p,anc) :: r) K E w:=Ke hg (Xtz hT hx) h
theorem dl {x:Operand}{T b o:Nat}(hx:ev E x=EE b o)(hc:w.cell? ⟨b,o,none⟩=some v)(h:Dw P n ds (λa b=>a=b) r K (FT E d v) w)(hg:FK ds E g=true:=by rfl)(hT:Nl P T=true:=by kernel_rfl):Dw P n ds (λa b=>a=b) ((⟨some d,.load T x,ty,pos,af,g⟩,.l,anc) :: r) K E w:=UH hg (ME hT hx hc) h
theorem dL {x:Operand}{T b o:Nat}(hx:ev E x=EE b o)(hc:∀w',R w w'->w'.cell? ⟨b,o,none⟩=some v)(h:Dw P n ds R r K (FT E d v) w)(hg:FK ds E g=true:=by rfl)(hT:Nl P T=true:=by kernel_rfl):Dw P n ds R ((⟨some d,.load T x,ty,pos,af,g⟩,.l,anc) :: r) K E w:=FW hg (λw' z=>ME hT hx (hc w' z)) h
theorem pa {x y:Operand}{T U:TypeId}{a b:Int}(hx:ev E x=I a)(hy:ev E y=I b)(h:Dw P n ds R r K (FT E d (I (a+b))) w)(hI:EU (a+b):=by unfold EU;omega)(hg:FK ds E g=true:=by rfl):Dw P n ds R ((⟨some d,.binOp .add T x y U,ty,pos,af,g⟩,.p,anc) :: r) K E w:=Ke hg (Gy hx hy hI) h
theorem ps {x y:Operand}{T U:TypeId}{a b:Int}(hx:ev E x=I a)(hy:ev E y=I b)(h:Dw P n ds R r K (FT E d (I (a-b))) w)(hI:EU (a-b):=by unfold EU;omega)(hg:FK ds E g=true:=by rfl):Dw P n ds R ((⟨some d,.binOp .sub T x y U,ty,pos,af,g⟩,.p,anc) :: r) K E w:=Ke hg (Gr hx hy hI) h
theorem G4 {a x:Operand}{T T' b o:Nat}{cs:List Value}(hb:EK w b cs T')(h:∀w1,Mod (ET b) w w1->w1.heap.size=w.heap.size->EK w1 b (cs.set o v) T'->Dw P n ds R r K E w1)(hg:FK ds E g=true:=by rfl)(ha:ev E a=EE b o:=by rfl)(hx:ev E x=v:=by conv=>lhs;whnf)(hv:v.oneCell'=true:=by rfl)(hs:Mq P T=some 1:=by kernel_rfl)(ho:o<cs.length:=by exact Av rfl)(hR:anc=true\/∀w',Mod (ET b) w w'->R w w':=by exact .inl rfl):Dw P n ds R ((⟨none,.store T a x,ty,pos,af,g⟩,.x,anc) :: r) K E w:=MH hg ha hx hv hs hb ho hR h
theorem FY {a x:Operand}{T T' b o:Nat}{cs vs:List Value}(hb:EK w b cs T')(h:∀w1,Mod (ET b) w w1->w1.heap.size=w.heap.size->EK w1 b (EY cs o vs) T'->Dw P n ds R r K E w1)(hg:FK ds E g=true:=by rfl)(ha:ev E a=EE b o:=by rfl)(hx:ev E x=v:=by conv=>lhs;whnf)(hv:v.cells=⟨vs⟩:=by exact rfl)(hs:Mq P T=some vs.length:=by kernel_rfl)(ho:o+vs.length<=cs.length:=by exact Av rfl)(h1:∀v∈vs,v.oneCell'=true:=by simp [Value.oneCell'])(hR:anc=true\/∀w',Mod (ET b) w w'->R w w':=by exact .inl rfl):Dw P n ds R ((⟨none,.store T a x,ty,pos,af,g⟩,.x,anc) :: r) K E w:=Lg hg ha hx hv hs hb ho h1 hR h
theorem db {T:Nat}{ps:List (Nat×Operand)}{zs cs:List Value}{pl:List (Nat×Nat)}{pv:List (Nat×Value)}(h:Dw P n ds R r K (FT E d (.agg ⟨cs⟩)) w)(hg:FK ds E g=true:=by rfl)(hz:KK P T=some zs:=by kernel_rfl)(hp:QQ P T=some pl:=by kernel_rfl)(hv:K8 E ps pv:=by repeat' (first|exact trivial|refine⟨rfl,?_,?_⟩|(conv=>lhs;whnf)))(hf:H7 (λi=>pl[i]?) zs pv=some cs:=by rfl):Dw P n ds R ((⟨some d,.build T ps.toArray,ty,pos,af,g⟩,.p,anc) :: r) K E w:=Ke hg (M4 hz hp hv hf) h
theorem li {t e sz m:Nat}{ps:List (Nat×Operand)}{zs cs:List Value}{pv:List (Nat×Value)}(hR:RX R anc)(h:∀b w1,b=w.heap.size->ED w w1->EK w1 b cs e->Dw P n ds R r K (FT E d (.slice (some ⟨b,0,none⟩) m m)) w1)(hg:FK ds E g=true:=by rfl)(ht:IC P t=some (e,sz):=by kernel_rfl)(hm:AR 0 (m*sz)=true/\CF (m*sz) 16777216=true:=by exact⟨rfl,rfl⟩)(hz:KK P e=some zs:=by kernel_rfl)(hzs:Bj zs.length sz=true:=by rfl)(hv:K8 E ps pv:=by repeat' (first|exact trivial|refine⟨rfl,?_,?_⟩|(conv=>lhs;whnf)))(hf:H7 (λi=>some (i*sz,sz)) ((Ax m zs).flatten) pv=some cs:=by rfl):Dw P n ds R ((⟨some d,.buildSlice t m ps.toArray,ty,pos,af,g⟩,.x,anc) :: r) K E w:=It hg ht hm hz hzs hv hf hR h
end
section
variable {a b c w w':World}{i j:Nat}{S T:Nat->Prop}{cs:List Value}{t:TypeId}{α:Type}{enc:α->List Value}{sz B Ty:Nat}{v:Value}{l:List α}
theorem ED.ge (h:ED a b)(e:i=b.heap.size):a.heap.size<=i:=by have:=h.size;omega
theorem Mod.ge (h:Mod T a b)(e:i=b.heap.size):a.heap.size<=i:=by have:=h.size;omega
theorem EK.ltb (h:EK w j cs t)(e:i=w.heap.size):j<i:=by have:=h.lt;omega
theorem Own.ltb (h:Own enc sz Ty B w v l)(e:i=w.heap.size):∀k,v.ownBlock=some k->k<i:=λk hk=>by have:=(h.lt k hk).2;omega
theorem ED.o1 (h:ED a b)(k:Mod (ET i) b c)(hi:a.heap.size<=i:=by omega):ED a c:=h.own k (λj z=>by have:j=i:=z;omega)
theorem Mod.o1 (h:Mod T a b)(k:Mod (ET i) b c)(hi:a.heap.size<=i:=by omega):Mod T a c:=h.own k (λj z hlt=>by have:j=i:=z;omega)
theorem EK.mo (h:EK w j cs t)(m:Mod (ET i) w w')(hn:¬ ET i j:=by first|assumption|(intro h;have h2:_=_:=h;omega)):EK w' j cs t:=h.mod m hn
theorem EL (e:w'=w.drew):ED w w':=by rw[e];exact ED.drew _
end
end Go.Vc
namespace Go.Sp
open Go.Vc
abbrev Fg (a b:EC):Bool:=Op.bytesLess a b
theorem I1 : ∀a:EC,Fg a a=false
 | []=>rfl
 | c :: r=>by
  have:=I1 r;simp only [Fg]at this;simp [Fg,Op.bytesLess,this]
theorem Jl : ∀a b c:EC,Fg a b=true->Fg b c=true->Fg a c=true
 | _,[],_,h,_=>by simp [Fg,Op.bytesLess]at h
 | _,_ :: _,[],_,h=>by simp [Fg,Op.bytesLess]at h
 | [],_ :: _,_ :: _,_,_=>rfl
 | x :: a,y :: b,z :: c,h1,h2=>by
  have J:=Jl a b c;simp only [Fg,Op.bytesLess,BM,Au,decide_eq_true_eq,beq_iff_eq]at *;rcases h1 with h1|⟨rfl,h1⟩
  ·rcases h2 with h2|⟨rfl,h2⟩
   ·exact .inl (UInt8.lt_trans h1 h2)
   ·exact .inl h1
  ·rcases h2 with h2|⟨rfl,h2⟩
   ·exact .inl h2
   ·exact .inr ⟨rfl,J h1 h2⟩
theorem JK : ∀a b:EC,a=b\/Fg a b=true\/Fg b a=true
 | [],[]=>.inl rfl
 | [],_ :: _=>.inr (.inl rfl)
 | _ :: _,[]=>.inr (.inr rfl)
 | x :: a,y :: b=>by
  have z:=JK a b;simp only [Fg,Op.bytesLess,BM,Au,decide_eq_true_eq,beq_iff_eq]at *
  by_cases h1:x<y
  ·exact .inr (.inl (.inl h1))
  ·by_cases h2:y<x
   ·exact .inr (.inr (.inl h2))
   ·have e:x=y:=UInt8.le_antisymm (CV.1 h2) (CV.1 h1);subst e;rcases z with rfl|h|h
    ·exact .inl rfl
    ·exact .inr (.inl (.inr ⟨rfl,h⟩))
    ·exact .inr (.inr (.inr ⟨rfl,h⟩))
theorem K9 {a b:EC}(h:Fg a b=true):Fg b a=false:=by
 cases hb:Fg b a with
 | false=>rfl
 | true=>have:=Jl a b a h hb;rw[I1]at this;cases this
theorem MN {a b:EC}(h:Fg a b=true):a≠b:=λe=>by rw[e,I1]at h;cases h
structure Cell where
 key:EC
 val:EC
 del:Bool
 seq:Int
deriving DecidableEq
@[reducible] def Cell.cs (c:Cell):List Value:=[S c.key,S c.val,B c.del,I c.seq]
@[reducible] def Cell.v (c:Cell):Value:=.agg ⟨c.cs⟩
def Cell.zero : Cell:=⟨[],[],false,0⟩
def Fa (a b:Cell):Bool:=if a.key≠b.key then Fg a.key b.key else decide (b.seq<a.seq)
theorem Xpb (a:Cell):Fa a a=false:=by simp [Fa]
theorem Jf (a b:Cell):Fa a b=true↔(Fg a.key b.key=true\/(a.key=b.key/\b.seq<a.seq)):=by
 unfold Fa
 by_cases e:a.key=b.key
 ·simp [e,I1]
 ·rw[if_pos e];simp [e]
theorem N2 {a b c:Cell}(h1:Fa a b=true)(h2:Fa b c=true):Fa a c=true:=by
 rw[Jf]at *;rcases h1 with h1|⟨e1,h1⟩
 ·rcases h2 with h2|⟨e2,h2⟩
  ·exact .inl (Jl _ _ _ h1 h2)
  ·exact .inl (e2▸h1)
 ·rcases h2 with h2|⟨e2,h2⟩
  ·exact .inl (e1▸h2)
  ·exact .inr ⟨e1.trans e2,by omega⟩
theorem Xsy {a b:Cell}(h:Fa a b=true):Fa b a=false:=by
 cases hb:Fa b a with
 | false=>rfl
 | true=>have:=N2 h hb;rw[Xpb]at this;cases this
theorem Sa {a b:Cell}(h1:Fa a b=false)(h2:Fa b a=false):a.key=b.key/\a.seq=b.seq:=by
 have n1:¬ Fa a b=true:=by rw[h1];decide
 have n2:¬ Fa b a=true:=by rw[h2];decide
 rw[Jf,not_or]at n1 n2;rcases JK a.key b.key with h|h|h
 ·refine⟨h,?_⟩;have m1:¬ b.seq<a.seq:=λx=>n1.2 ⟨h,x⟩;have m2:¬ a.seq<b.seq:=λx=>n2.2 ⟨h.symm,x⟩;omega
 ·exact absurd h n1.1
 ·exact absurd h n2.1
theorem Sg {a b:Cell}(h1:a.key=b.key)(h2:a.seq=b.seq):Fa a b=false:=by simp [Fa,h1,h2]
def Gl (c:Cell):Bool:=decide (1<=c.key.length) && decide (c.key.length<=4096) && decide (c.val.length<=16384) && (!c.del || decide (c.val=[])) && decide (1<=c.seq) && decide (c.seq<=1099511627776)
def Gt (c:Cell):Nat:=c.key.length+c.val.length+16
def He (l:List Cell):Nat:=(l.map Gt).sum
def first (l:List Cell)(key:EC)(seq:Int):Option Cell:=l.find? λc=>decide (c.key=key) && decide (c.seq<=seq)
def JN (frm to:EC)(c:Cell):Bool:=!Fg c.key frm && (decide (to=[]) || Fg c.key to)
def HC (l:List Cell)(frm to:EC):List Cell:=l.filter (JN frm to)
def pre (l:List Cell)(c:Cell):List Cell:=l.takeWhile (Fa · c)
def HF (l:List Cell)(c:Cell):List Cell:=l.dropWhile (Fa · c)
theorem MK (l:List Cell)(c:Cell):pre l c++HF l c=l:=List.takeWhile_append_dropWhile ..
def has (l:List Cell)(c:Cell):Bool:=match HF l c with
 | s :: _=>decide (s.key=c.key) && decide (s.seq=c.seq)
 | []=>false
def put (l:List Cell)(c:Cell):Bool×List Cell:=if !Gl c || has l c then(false,l)else(true,pre l c++c :: HF l c)
def Fx : List Cell->Prop:=List.Pairwise λa b=>Fa a b=true
theorem Fx.put {l:List Cell}(h:Fx l)(c:Cell):Fx (put l c).2:=by
 unfold Sp.put;split
 ·exact h
 ·rename_i hc;simp only [BM,not_or,Bool.not_eq_true]at hc;have Z:=MK l c;have h':Fx (pre l c++HF l c):=by rw[Z];exact h
  have hp:∀x∈pre l c,Fa x c=true:=λx O=>(AY.1 (List.all_takeWhile (p:=λx=>Fa x c) (l:=l)) x O);have z:=Bs.1 h';have hs:∀x∈HF l c,Fa c x=true:=by
   cases hsu:HF l c with
   | nil=>intro x O;cases O
   | cons s r=>
    have Y:Fa s c=false:=by
     have:=List.head?_dropWhile_not (λx=>Fa x c) l;rw[show List.dropWhile (λx=>Fa x c) l=HF l c from rfl,hsu]at this;simpa using this
    have J:Fa c s=true:=by
     cases J:Fa c s with
     | true=>rfl
     | false=>
      have ht:=Sa Y J;have hh:has l c=true:=by unfold has;rw[hsu];simp [ht]
      rw[hh]at hc;cases hc.2
    intro x O;rcases Aj.1 O with rfl|O
    ·exact J
    ·have:=z.2.1;rw[hsu]at this;exact N2 J (List.rel_of_pairwise_cons this O)
  refine Bs.2 ⟨z.1,List.pairwise_cons.2 ⟨hs,z.2.1⟩,λa ha b hb=>?_⟩;rcases Aj.1 hb with rfl|hb
  ·exact hp a ha
  ·exact z.2.2 a ha b hb
end Go.Sp
namespace Go.Sp
open Go.Vc (EC)
def GL : Nat->Nat->EC
 | 0,_=>[]
 | k+1,u=>if u<128 then[AJ u]else AJ (u % 128+128) :: GL k (u / 128)
def EV (u:Nat):EC:=GL 10 u
def Gv : Nat->Nat->EC->Option (Nat×EC)
 | _,_,[]=>none
 | i,u,c :: r=>if 9<=i\/(0<i/\c=0)then none else
  if c.toNat<128 then(if 4611686018427387904<u+c.toNat % 128*128 ^ i then none else some (u+c.toNat % 128*128 ^ i,r))
  else Gv (i+1) (u+c.toNat % 128*128 ^ i) r
theorem Nn (n:Nat)(h:n<256):(AJ n).toNat=n:=by
 rw[UInt8.toNat_ofNat'];exact B0 h
theorem V5 : ∀(k u:Nat),(GL k u).length<=k
 | 0,u=>Ab _
 | k+1,u=>by
  unfold GL;split
  ·simp
  ·have:=V5 k (u / 128);simp;omega
theorem NC (k u:Nat):1<=(GL (k+1) u).length:=by
 unfold GL;split<;>simp
theorem Gj (u:Nat):(EV u).length<=10:=V5 _ _
theorem UM : ∀(k i a u:Nat) (r:EC),u<128 ^ k->i+k<=9->(0<k\/0<i)->(0<i->0<u)->a+u*128 ^ i<=4611686018427387904->Gv i a (GL k u++r)=some (a+u*128 ^ i,r)
 | 0,i,a,u,r,hu,hi,h0,hp,hm=>by
  have:u=0:=by simpa using hu
  subst this
  cases i with
  | zero=>omega
  | succ i=>exact absurd (hp (Nat.succ_pos _)) EB
 | k+1,i,a,u,r,hu,hi,h0,hp,hm=>by
  unfold GL;split
  ·rename_i h;rw[AT,AE];unfold Gv;have e:(AJ u).toNat=u:=Nn u EB;have z:¬ (9<=i\/(0<i/\AJ u=0)):=by
    rintro (h9|⟨h1,h2⟩)
    ·omega
    ·have:=congrArg DY h2;rw[e]at this;have:=hp h1;simp at *;omega
   rw[if_neg z,e,if_pos h,B0 h,if_neg EB]
  ·rename_i h;rw[AT];unfold Gv;have e:(AJ (u % 128+128)).toNat=u % 128+128:=Nn _ EB;have z:¬ (9<=i\/(0<i/\AJ (u % 128+128)=0)):=by
    rintro (h9|⟨h1,h2⟩)
    ·omega
    ·have:=congrArg DY h2;rw[e]at this;simp at this
   have e2:(u % 128+128) % 128=u % 128:=by omega
   have J:a+u % 128*128 ^ i+u / 128*128 ^ (i+1)=a+u*128 ^ i:=by
    have:u*128 ^ i=(u % 128+128*(u / 128))*128 ^ i:=by rw[Nat.mod_add_div]
    rw[this,Co,CI,BN,Bu 128 (u / 128),Nat.mul_assoc (u / 128),Bu 128]
   rw[if_neg z,e,if_neg EB,e2,UM k (i+1) _ (u / 128) r (by rw[CI]at hu;omega) EB EB (by intro _;omega) (by rw[J];exact hm),J]
theorem Xuf {u:Nat}(r:EC)(h:u<=4611686018427387904):Gv 0 0 (EV u++r)=some (u,r):=by
 have e:EV u=GL 9 u:=by
  have:∀(k u:Nat),u<128 ^ k->0<k->GL (k+1) u=GL k u:=by
   intro k
   induction k with
   | zero=>intro u _ h;omega
   | succ k ih=>
    intro u hu _;unfold GL;split
    ·rfl
    ·rename_i h1;have hk:0<k:=by
      cases k with
      | zero=>simp at hu;omega
      | succ k=>omega
     rw[<-ih (u / 128) (by rw[CI]at hu;omega) hk]
  exact this 9 u (by
   have:(128:Nat) ^ 9=9223372036854775808:=by decide
   omega) EN
 rw[e,UM 9 0 0 u r (by
  have:(128:Nat) ^ 9=9223372036854775808:=by decide
  omega) EB EB EB (by simp;exact h)]
 simp
def Fs (p:EC):EC:=EV p.length++p
def rawR (n:Nat)(s:EC):Option (EC×EC):=if s.length<n then none else some (s.take n,s.drop n)
def rowR (s:EC):Option (EC×EC):=(Gv 0 0 s).bind λx=>rawR x.1 x.2
def MC (v:UInt32):UInt32:=(v >>> 1) ^^^ (0xedb88320 &&& (0-(v &&& 1)))
def KS : Nat->UInt32->UInt32
 | 0,v=>v
 | k+1,v=>KS k (MC v)
def JC (v:UInt32)(c:UInt8):UInt32:=KS 8 (v ^^^ c.toUInt32)
def HI (l:EC):UInt32 := ~~~(l.foldl JC (~~~0))
def Ia (v:UInt32):EC:=[v.toUInt8,(v >>> 8).toUInt8,(v >>> 16).toUInt8,(v >>> 24).toUInt8]
def Hq (n:UInt32):EC:=Ia n++Ia (HI (Ia n))
def EG (p:EC):EC:=(Hq (AL p.length)++p)++Ia (HI (Hq (AL p.length)++p))
theorem RD (v:UInt32):(Ia v).length=4:=rfl
theorem JE (v:UInt32):(Hq v).length=8:=rfl
theorem Jm (p:EC):(EG p).length=p.length+12:=by
 unfold EG;simp only [Aa,JE,RD];omega
end Go.Sp
namespace Go.Vc
open Go.RowKit
@[reducible] def G8 (f:Nat):Value:=.func (.func f) #[] #[]
section
variable {P:Program}{n:Nat}{ds:List (Option Tmp)}{R:World->World->Prop}{r:List (Oper×Fl×Bool)}{K:Fh->World->Prop}{E:Fh}{w:World}
variable {d:Nat}{op:Op}{ty:TypeId}{pos:String}{af:Array Edge}{g:Option (Nat×Bool)}{anc:Bool}{v:Value}
theorem X4s {f t:Nat}{az:List Operand}{ats:Array TypeId}{vs:List Value}{R1:Ending->World->Prop}(hg:FK ds E g=true)(hv:E t=G8 f)(hf:GM P f=true)(ha:az.map (ev E)=vs)(hc:Calls P f vs.toArray w R1)
  (h:∀e w1,R1 e w1->∃v,e=.returned v/\(anc=false->R w w1)/\Dw P n ds R r K (FT E d v) w1) :
  Dw P n ds R ((⟨some d,.call { callee:=.value (.tmp t),args:=az.toArray,argTypes:=ats },ty,pos,af,g⟩,.x,anc) :: r) K E w:=by
 refine MS hg λok=>?_;unfold GM at hf
 cases hp:P.funcs[f]? with
 | none=>rw[hp]at hf;simp at hf
 | some fn=>
  rw[hp]at hf;simp only [Au,BO]at hf;obtain⟨h1,h2⟩:=hf;have h3:fn.body≠none:=by cases hb:fn.body<;>simp [hb]at h2 ⊢
  have h1' : fn.name ≠ "runtime.NumGoroutine" := by simpa using h1
  have hr:(execOp (ev E) ⟨some d,.call { callee:=.value (.tmp t),args:=az.toArray,argTypes:=ats },ty,pos,af,g⟩).run P w=.ok (.enter f vs.toArray) w:=by
   simp [execOp,resolve,ev,hv,Deferred.ofValue,invoke,callFunc,program,Sem.run,hp,h1',h3,ha]
  unfold Oper.wp;rw[Mi ok,hr];simp only [Oper.upon];refine Calls.mono hc λe w1 h1=>?_;obtain⟨v,rfl,hR,hd⟩:=h e w1 h1;exact⟨_,Iy _ _ _ _,hR,hd⟩
theorem KZ {f t:Nat}{az:List Operand}{ats:Array TypeId}{vs:List Value}(hg:FK ds E g=true)(hv:E t=G8 f)(hf:GM P f=true)(hc:Calls P f vs.toArray w (Pure w v))(ha:az.map (ev E)=vs)(hR:RX R anc)
  (h:∀z,ED w z->Dw P n ds R r K (FT E d v) z) :
  Dw P n ds R ((⟨some d,.call { callee:=.value (.tmp t),args:=az.toArray,argTypes:=ats },ty,pos,af,g⟩,.x,anc) :: r) K E w:=
 X4s hg hv hf ha hc λe z ⟨he,hx⟩=>⟨v,he,hR.use hx,h z hx⟩
end
section
variable {P:Program}{E:Fh}{w:World}{d:Option Tmp}{op:Op}{ty:TypeId}{pos:String}{af:Array Edge}{g:Option (Nat×Bool)}
def toU (P:Program)(S D n:Nat):Bool:=OA P S && (match P.underlying D with|some .unsafePointer=>true|_=>false) && (match P.info? (P.pointee S)with|some i=>!(i.size == 0)|none=>false)
end
def Ycv (P:Program)(e:Nat):Bool:=match P.info? e with
 | some i=>(i.size == 1) && (i.bytes == 1) && (match i.zero with|some (.int .u8 0)=>true|_=>false)
 | none=>false
section
variable {P:Program}{n:Nat}{ds:List (Option Tmp)}{R:World->World->Prop}{r:List (Oper×Fl×Bool)}{K:Fh->World->Prop}{E:Fh}{w:World}
variable {d:Nat}{op:Op}{ty:TypeId}{pos:String}{af:Array Edge}{g:Option (Nat×Bool)}{anc:Bool}{v:Value}
end
structure Bld (T e B:Nat)(b:Nat)(v:Value)(l:EC)(w:World):Prop where
 blk:∃p,(p=.pointer none\/p=EE b 0)/\EK w b [p,v] T
 own:Own EO 1 e B w v l
end Go.Vc
