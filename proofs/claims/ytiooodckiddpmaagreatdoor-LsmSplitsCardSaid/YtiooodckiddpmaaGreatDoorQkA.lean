/-
  A part of the proof.
-/
import Derived.WalkKit
import Derived.OrdersHeld
import Derived.Maps.OwnSet
import Derived.Maps.RangeWalk
import Derived.Maps.Views
import Derived.Lib.ConvBytes
import Derived.DeepKeys4
import Derived.KernelRfl
import Derived.Test.YtiooodckiddpmaaGreatDoorProg
import Derived.Lib.Builder
import Derived.Lib.UnsafeStr
import Derived.Laws.Externs
import Derived.Lib.AppendStr
import Derived.Test.YtiooodckiddpmaaGreatDoorChecked
import Derived.RangeFuncRecord
import Derived.RangeFuncOwn
import Derived.OrdersIn
import Derived.TacticsIn
open Nat renaming le_refl->Aa,zero_le->Ab,le_trans->Ae,le_of_ble_eq_true->Aj,zero_add->A0,beq->AM,blt->AR,mul_le_mul_right->AW,succ_mul->Bd,mod_lt->Be,blt_eq->Bi,lt_or_ge->Bm,mod_eq_of_lt->Br,mul_comm->Bv,ble->B3,add_assoc->BR,add_zero->BZ,zero_mul->Cw,add_mul->Cy,eq_of_beq_eq_true->C6,ble_eq->C7,sub_zero->C8,mul_le_mul_left->CB,pow_succ->CT,strongRecOn->DB,add_comm->DE,div_lt_of_lt_mul->DH,mul_one->DL,mod->DN,and_two_pow_sub_one_eq_mod->DO,div_add_mod->Eu,beq_refl->Ez,mul_lt_mul_of_pos_right->E2
open List renaming length_append->Ad,mem_singleton->Af,mem_of_getElem?->Ag,mem_cons->Ah,mem_cons_self->Ai,map_cons->Am,replicate->An,mem_cons_of_mem->Ao,getElem?_eq_some_iff->Ap,take_of_length_le->Ar,getElem?_eq_getElem->Au,length_map->Aw,mem_map->Ay,eq_nil_of_length_eq_zero->Az,append_assoc->A3,length->A5,length_take->A7,length_set->A9,length_cons->AA,nil_append->AB,flatMap_cons->AF,getElem?_map->AG,take->AL,set->AN,all_eq_true->AO,drop->AU,take_length->AV,cons_append->AY,getElem?_take->Ba,flatMap_append->Bb,map_nil->Bf,getElem?_eq_none->Bh,pairwise_append->Bj,nodup_cons->Bk,getElem?_append_left->Bu,take_add_one->Bw,getElem?_drop->B4,ext_getElem?->BB,foldl_append->BC,drop_of_length_le->BD,filter_cons->BF,getElem?_append_right->BJ,foldl_cons->BS,map_toArray->Ca,flatten_cons->Cx,take_succ_cons->C0,foldlM->CC,getElem?_set->CI,replicate_succ->CR,mapM_cons->DG,drop_drop->DM
open Option renaming some->Al,map_eq_some_iff->Bp,bind_some->Cm,map_some->Cn,bind_eq_some_iff->Di,map->Dj,map_none->Dk
open Bool renaming and_eq_true->Aq,or_eq_true->BH,not_eq_true'->BI,false_or->BY,not_eq_true->Cb,not_true->C9
open UInt8 renaming ofNat->AC,lt_iff_toNat_lt->CS,not_lt->Dl,toNat_inj->Ew,toNat->E0
open UInt32 renaming ofNat->AJ
open BitVec renaming ofInt->AK,ofInt_natCast->CE,toNat_ofNat->CF,eq_of_toNat_eq->Ex,toNat_ofInt->Ey
open Prod renaming mk->B5
open Array renaming getElem?_eq_some_iff->BA,replicate->Cl,all_eq_true_iff_forall_mem->Cv,ext->Dg,getElem_ofFn->Dh,mem_of_getElem?->DD,ofFn->Eo,getElem_append->Ep,getElem?_eq_none->Er,ext'->Es,foldl_toList->Et,range->Ev
open Int renaming toNat_natCast->BQ,fdiv_eq_ediv_of_nonneg->CU,natCast_mul->DK
open List.Sublist renaming map->CH
set_option maxRecDepth 100000
set_option maxHeartbeats 4000000
set_option linter.unusedVariables false
set_option linter.unusedSimpArgs false
variable {A:Type}{a:A}
theorem Qq : a = a /\ True := ⟨rfl, trivial⟩
theorem Mw {B:Type}{b : B}: a = a /\ b = b /\ True := ⟨rfl, rfl, trivial⟩
variable {C:Type}
theorem Kv {B:Type}{b : B}{c : C}: a = a /\ b = b /\ c = c /\ True := ⟨rfl, rfl, rfl, trivial⟩
variable {D:Type}{d:D}
theorem He {B:Type}{b : B}{c : C}: a = a /\ b = b /\ c = c /\ d = d /\ True := ⟨rfl, rfl, rfl, rfl, trivial⟩
variable {E:Type}{e:E}
theorem GC {B:Type}{b : B}{c : C}: a = a /\ b = b /\ c = c /\ d = d /\ e = e /\ True := ⟨rfl, rfl, rfl, rfl, rfl, trivial⟩
variable {F:Type}{f:F}
theorem Hn {B:Type}{b : B}{c : C}: a = a /\ b = b /\ c = c /\ d = d /\ e = e /\ f = f /\ True := ⟨rfl, rfl, rfl, rfl, rfl, rfl, trivial⟩
variable {G:Type}{g:G}
theorem GY {B:Type}{b : B}{c : C}: a = a /\ b = b /\ c = c /\ d = d /\ e = e /\ f = f /\ g = g /\ True := ⟨rfl, rfl, rfl, rfl, rfl, rfl, rfl, trivial⟩
variable {H:Type}{h:H}
theorem QL {B:Type}{b : B}{c : C}: a = a /\ b = b /\ c = c /\ d = d /\ e = e /\ f = f /\ g = g /\ h = h /\ True := ⟨rfl, rfl, rfl, rfl, rfl, rfl, rfl, rfl, trivial⟩
theorem KV {B I:Type}{b : B}{c : C}{i : I}: a = a /\ b = b /\ c = c /\ d = d /\ e = e /\ f = f /\ g = g /\ h = h /\ i = i /\ True := ⟨rfl, rfl, rfl, rfl, rfl, rfl, rfl, rfl, rfl, trivial⟩
theorem KQ {B I J:Type}{b : B}{c : C}{i : I}{j : J}: a = a /\ b = b /\ c = c /\ d = d /\ e = e /\ f = f /\ g = g /\ h = h /\ i = i /\ j = j /\ True := ⟨rfl, rfl, rfl, rfl, rfl, rfl, rfl, rfl, rfl, rfl, trivial⟩
theorem Nn {B I J K:Type}{b : B}{c : C}{i : I}{j : J}{k : K}: a = a /\ b = b /\ c = c /\ d = d /\ e = e /\ f = f /\ g = g /\ h = h /\ i = i /\ j = j /\ k = k /\ True := ⟨rfl, rfl, rfl, rfl, rfl, rfl, rfl, rfl, rfl, rfl, rfl, trivial⟩
variable {p:Prop}
theorem Fb (h : p := by omega): p := h
theorem Fe (h : p := by kernel_rfl): p := h
theorem Fj (h : p := by decide): p := h
theorem Ff (h : p := by intro x; rfl): p := h
theorem F5 (h : p := by simp): p := h
theorem F8 {α : Type} {l : List α} {i : Nat} (h : i < l.length := by omega) : ∃ x, l[i]? = some x := ⟨_, Au h⟩
namespace Go.Vc
open Go.RowKit
abbrev FE := Nat->Value
def FR (E:FE)(d:Nat)(v:Value):FE:=λk=>cond (AM k d) v (E k)
def GF (E:FE):Option Tmp->Value->FE
 | some d,v=>FR E d v
 | none,_=>E
def ev (E:FE):Operand->Value
 | .tmp t=>E t
 | .const v=>v
 | .global g=>.pointer (some ⟨g,0,none⟩)
 | .func f=>.func (.func f) #[] #[]
def Hv (n:Nat)(E:FE):Act:=⟨Eo (n:=n) λi=>E i.val,[]⟩
theorem V6 (E:FE)(d:Nat)(v:Value):FR E d v d=v:=by simp [FR]
variable {b:Nat}
theorem Qi {a:Nat}(h:a≠b):AM a b=false:=by
 cases hb:AM a b with
 | false=>rfl
 | true=>exact absurd (C6 hb) h
variable {k:Nat}
theorem VY (E:FE){d:Nat}(v:Value)(h:k≠d):FR E d v k=E k:=by simp [FR,Qi h]
theorem T1 (E:FE)(d:Nat)(v:Value)(h:E d=v):FR E d v=E:=by
 funext k
 by_cases hk:k=d
 ·subst hk;rw[V6,h]
 ·rw[VY _ _ hk]
def Nh (n:Nat):Operand->Bool
 | .tmp t=>AR t n
 | _=>true
theorem X5u (n:Nat)(E:FE)(t:Nat)(h:t<n):(Hv n E).tmps[t]?=some (E t):=by
 simp [Hv,h]
variable {E:FE}{n:Nat}
theorem Ru {x:Operand}(h:Nh n x=true):(Hv n E).eval x=ev E x:=by
 cases x with
 | tmp t=>
  have r:t<n:=by simpa [Nh,Bi]using h
  simp [Act.eval,ev,Hv,r]
 | _=>rfl
theorem Jm (n:Nat)(E:FE)(d:Option Tmp)(v:Value):(Hv n E).put d v=Hv n (GF E d v):=by
 cases d with
 | none=>rfl
 | some d=>
  simp only [Act.put,GF,Hv]
  congr 1
  apply Dg
  ·simp
  ·intro i h1 h2;simp only [Array.size_setIfInBounds,Array.size_ofFn]at h1;rw[Array.getElem_setIfInBounds]
   ·simp only [Dh,FR]
    by_cases hi:d=i
    ·subst hi;simp
    ·simp only [hi,if_false];rw[Qi (λe:i=d=>hi e.symm)];exact Dh ..
   ·simpa using h1
def Jw (n:Nat)(o:Oper):Bool:=o.op.operands.all (Nh n) && (match o.dst with|some d=>AR d n|none=>true) && (match o.op with | .select ..=>false|_=>true)
def JD (n:Nat):Code->Bool
 | .skip | .exit _ | .ret | .label _=>true
 | .region _ ops _=>ops.all (Jw n)
 | .seq a b=>JD n a && JD n b
 | .cond c a b=>Nh n c && JD n a && JD n b
 | .block _ c=>JD n c
 | .loop c=>JD n c
 | .scope c=>JD n c
 | .refuse ..=>true
 | _=>false
theorem MH {o:Oper}(h:Jw n o=true):execOp (Hv n E).eval o=execOp (ev E) o:=by
 unfold Jw at h;simp only [Aq]at h;obtain⟨⟨h1,_⟩,h3⟩:=h;refine execOp_congr o (λcs b e=>by rw[e]at h3;cases h3) λx r=>Ru ?_;exact Cv.1 h1 x r
def Ho (n:Nat)(Q:Exit->FE->World->Prop):Exit->Act->World->Prop:=λe a w=>∃E,a=Hv n E/\Q e E w
def W (P:Program)(n:Nat)(c:Code)(Q:Exit->FE->World->Prop)(E:FE)(w:World):Prop:=
 JD n c=true->c.wp P (Ho n Q) (Hv n E) w
def Ih (K:FE->World->Prop)(Q:Exit->FE->World->Prop):Exit->FE->World->Prop
 | .normal,E,w=>K E w
 | e,E,w=>Q e E w
def Nl (id:Nat)(Q:Exit->FE->World->Prop):Exit->FE->World->Prop
 | .exit id',E,w=>cond (AM id' id) (Q .normal E w) (Q (.exit id') E w)
 | e,E,w=>Q e E w
def Mv (Q:Exit->FE->World->Prop):Exit->FE->World->Prop
 | .goto _,_,_=>False
 | e,E,w=>Q e E w
section
variable {P:Program}{n:Nat}{Q:Exit->FE->World->Prop}{E:FE}{w:World}
theorem X3y {c:Code}{Q':Exit->FE->World->Prop}(h:W P n c Q E w)(hq:∀e E w,Q e E w->Q' e E w):W P n c Q' E w:=
 λok=>Code.wp_mono (λ_ _ _ ⟨E',he,hQ⟩=>⟨E',he,hq _ _ _ hQ⟩) (h ok)
variable {x y:Code}
theorem TF (h:∀K:FE->World->Prop,(∀E w,W P n y Q E w->K E w)->W P n x (Ih K Q) E w):W P n (.seq x y) Q E w:=by
 intro ok;simp only [JD,Aq]at ok;refine wp_seq (Code.wp_mono ?_ (h (λE w=>W P n y Q E w) (λ_ _ h=>h) ok.1));intro e a w' z;obtain⟨E',rfl,r⟩:=z
 cases e<;>first|exact r ok.2|exact⟨E',rfl,r⟩
theorem Xm7 (h:Q .normal E w):W P n .skip Q E w:=λ_=>wp_skip ⟨E,rfl,h⟩
theorem Xur (h:Q .ret E w):W P n .ret Q E w:=λ_=>wp_ret ⟨E,rfl,h⟩
theorem Xm8 {id:Nat}(h:Q (.exit id) E w):W P n (.exit id) Q E w:=λ_=>wp_exit ⟨E,rfl,h⟩
theorem Oi {c:Operand}{t:Bool}(hc:ev E c=.bool t)(ht:t=true->W P n x Q E w)(hf:t=false->W P n y Q E w):W P n (.cond c x y) Q E w:=by
 intro ok;simp only [JD,Aq]at ok;refine wp_cond_split (t:=t) (by rw[Ru ok.1.1];exact hc) (λh=>ht h ok.1.2) (λh=>hf h ok.2)
theorem Ydr {c:Operand}{p:Prop}[Decidable p](hc:ev E c=.bool (decide p))(ht:p->W P n x Q E w)(hf:¬ p->W P n y Q E w):W P n (.cond c x y) Q E w:=
 Oi hc (λh=>ht (of_decide_eq_true h)) (λh=>hf (of_decide_eq_false h))
theorem Xi2 {id:Nat}{c:Code}(h:W P n c (Nl id Q) E w):W P n (.block id c) Q E w:=by
 intro ok;refine wp_block (Code.wp_mono ?_ (h ok));rintro e a w' ⟨E',rfl,hQ⟩
 cases e with
 | exit id'=>
  simp only [Exit.inBlock]
  by_cases hid:id'=id
  ·subst hid;simp only [if_true];refine⟨E',rfl,?_⟩;simpa [Nl]using hQ
  ·simp only [hid,if_false];refine⟨E',rfl,?_⟩;simpa [Nl,Qi hid]using hQ
 | _=>exact⟨E',rfl,hQ⟩
theorem Xi3 {c:Code}(h:W P n c (Mv Q) E w):W P n (.scope c) Q E w:=by
 intro ok;refine wp_scope_straight (Code.wp_mono ?_ (h ok));rintro e a w' ⟨E',rfl,hQ⟩
 cases e<;>first|exact⟨E',rfl,hQ⟩|exact hQ.elim
def MC : List (Nat×Value)->FE->FE
 | [],E=>E
 | (d,v) :: r,E=>FR (MC r E) d v
def holds : List (Nat×Value)->FE->Prop
 | [],_=>True
 | (d,v) :: r,E=>E d=v/\holds r E
theorem RQ {l:List (Nat×Value)}{E:FE}(h:holds l E):MC l E=E:=by
 induction l with
 | nil=>rfl
 | cons x l ih=>
  obtain⟨d,v⟩:=x;simp only [holds]at h;simp only [MC,ih h.2];exact T1 E d v h.1
theorem U8 {c:Code}{G:Type}(sl:G->List (Nat×Value))(F:G->World->Prop)(μ:G->Nat)(g0:G)(h0:holds (sl g0) E)(hF0:F g0 w)
  (round:∀(E:FE) (g:G) (w:World),F g w->W P n c (Ih (λE' w'=>∃Y,holds (sl Y) E'/\F Y w'/\μ Y<μ g) Q) (MC (sl g) E) w):W P n (.loop c) Q E w:=by
 intro ok b k cs;have key:∀(m:Nat) (E:FE) (g:G) (w:World),μ g=m->holds (sl g) E->F g w->
   ∃e a' w',Ho n Q e a' w'/\Arrives P (lone (b.at (Hv n E) (.code c :: .inLoop c :: k)) cs w) b k cs e a' w':=by
  intro m
  induction m using DB with
  | _ m ih=>
   intro E g w hm hh hF;have hr:=round E g w hF ok;rw[RQ hh]at hr;obtain⟨e,a1,w1,⟨O,rfl,z⟩,r⟩:=hr b (.inLoop c :: k) cs
   cases e with
   | normal=>
    obtain⟨Y,Z,hf,hc⟩:=z;obtain⟨e2,a2,w2,ha,J⟩:=ih (μ Y) (hm▸hc) O Y w1 rfl Z hf;exact⟨e2,a2,w2,ha,.of_steps (Steps.trans r (.one step_inLoop)) J⟩
   | exit id=>exact⟨_,_,w1,⟨O,rfl,z⟩,.pass (x:=.inLoop c) rfl (λ_ _=>.inl F5) r⟩
   | goto l=>exact⟨_,_,w1,⟨O,rfl,z⟩,.pass (x:=.inLoop c) rfl (λ_ _=>.inl F5) r⟩
   | ret=>exact⟨_,_,w1,⟨O,rfl,z⟩,.pass (x:=.inLoop c) rfl (λ_ _=>.inl F5) r⟩
   | panic ch=>exact⟨_,_,w1,⟨O,rfl,z⟩,.pass (x:=.inLoop c) rfl (λ_ _=>.inl F5) r⟩
   | outgrown=>exact⟨_,_,w1,⟨O,rfl,z⟩,.pass (x:=.inLoop c) rfl (λ_ _=>.inl F5) r⟩
 obtain⟨e,a',w',z,r⟩:=key (μ g0) E g0 w rfl h0 hF0;exact⟨e,a',w',z,.of_steps (.one step_loop) r⟩
def KZ : List Value->Nat->FE->FE
 | [],_,E=>E
 | v :: r,k,E=>FR (KZ r (k+1) E) k v
def JN (P:Program)(fn:Func)(n:Nat)(R:Ending->World->Prop):Exit->FE->World->Prop
 | .normal,E,w | .ret,E,w=>∃v,(results fn (Hv n E).tmps).run P w=.ok v w/\R (.returned v) w
 | _,_,_=>False
theorem WC (l:List Value):∀(k i:Nat) (E:FE),KZ l k E i=if k<=i then(match l[i-k]? with|some v=>v|none=>E i)else E i:=by
 induction l with
 | nil=>intro k i E;simp [KZ]
 | cons v r ih=>
  intro k i E
  by_cases h:i=k
  ·subst h;simp [KZ,V6]
  ·rw[KZ,VY _ _ h,ih]
   by_cases h1:k+1<=i
   ·have h2:k<=i:=by omega
    have h3:i-k=(i-(k+1))+1:=by omega
    simp [h1,h2,h3]
   ·have h2:¬ k<=i:=by omega
    simp [h1,h2]
theorem X5v {f:FuncId}{fn:Func}{c:Code}{az:List Value}{w:World}{R:Ending->World->Prop}
  (hf:P.funcs[f]?=some fn) (hb:fn.body=some c) (hn:fn.ntmps=n) (hle:B3 az.length n=true) (ok:JD n c=true)
  (h:W P n c (JN P fn n R) (KZ az 0 (λ_=>undef)) w):Calls P f az.toArray w R:=by
 have hle':az.length<=n:=by simpa [C7]using hle
 refine calls_of_wp hf hb ?_;have r:({ tmps:=az.toArray++Cl (fn.ntmps-az.toArray.size) undef,defers:=[] } : Act)=Hv n (KZ az 0 (λ_=>undef)):=by
  simp only [Hv,hn]
  congr 1
  apply Dg
  ·simp;omega
  ·intro i h1 h2;simp only [Dh,WC,Ab,if_true,C8];rw[Ep]
   by_cases hi:i<az.length
   ·simp [hi]
   ·simp [hi]
 rw[r];refine Code.wp_mono ?_ (h ok);rintro e a w' ⟨E,rfl,hQ⟩
 cases e with
 | normal=>obtain⟨v,h1,h2⟩:=hQ;exact⟨rfl,v,h1,h2⟩
 | ret=>obtain⟨v,h1,h2⟩:=hQ;exact⟨rfl,v,h1,h2⟩
 | _=>exact hQ.elim
end
inductive Fl where
 | p|l|x
def IJ : List Oper->Nat->Oper
 | [],_=>default
 | o :: _,0=>o
 | _ :: r,k+1=>IJ r k
def IE : List (Option Tmp)->Nat->Option Tmp
 | [],_=>none
 | o :: _,0=>o
 | _ :: r,k+1=>IE r k
def FT (ds:List (Option Tmp))(E:FE):Option (Nat×Bool)->Bool
 | none=>true
 | some (j,want)=>match IE ds j with
  | some d=>(match E d with | .bool b=>b == want|_=>false)
  | none=>false
def PV (P:Program)(o:Oper)(E:FE)(v:Value):Prop:=∀w,(execOp (ev E) o).run P w=.ok (.value v) w
def LV (P:Program)(o:Oper)(E:FE)(w:World)(v:Value):Prop:=(execOp (ev E) o).run P w=.ok (.value v) w
def XW (P:Program)(n:Nat)(o:Oper)(E:FE)(w:World)(K:FE->World->Prop):Prop:=
 Jw n o=true->o.wp P (Hv n E) w (λa w'=>∃E',a=Hv n E'/\K E' w') (λ_ _ _=>False)
def Dw (P:Program)(n:Nat)(ds:List (Option Tmp))(R:World->World->Prop):List (Oper×Fl×Bool)->(FE->World->Prop)->FE->World->Prop
 | [],K,E,w=>K E w
 | (o,.p,_) :: r,K,E,w=>if FT ds E o.guard=true then ∃v,PV P o E v/\Dw P n ds R r K (GF E o.dst v) w else Dw P n ds R r K (GF E o.dst undef) w
 | (o,.l,_) :: r,K,E,w=>if FT ds E o.guard=true then ∃v,(∀w',R w w'->LV P o E w' v)/\Dw P n ds R r K (GF E o.dst v) w else Dw P n ds R r K (GF E o.dst undef) w
 | (o,.x,anc) :: r,K,E,w=>if FT ds E o.guard=true then XW P n o E w (λE' w'=>(anc=false->R w w')/\Dw P n ds R r K E' w')else Dw P n ds R r K (GF E o.dst undef) w
def nf (K:FE->World->Prop):Exit->FE->World->Prop
 | .normal,E,w=>K E w
 | _,_,_=>False
theorem X5w (l:List Oper):∀j,IE (l.map (·.dst)) j=(l[j]?).bind (·.dst):=by
 induction l with
 | nil=>intro j;rfl
 | cons o r ih=>intro j;cases j with
  | zero=>rfl
  | succ k=>simpa [IE]using ih k
theorem Ud (l:List Oper):∀j (o:Oper),l[j]?=some o->IJ l j=o:=by
 induction l with
 | nil=>intro j o h;simp at h
 | cons o r ih=>intro j o' h;cases j with
  | zero=>simpa [IJ]using h
  | succ k=>exact ih k o' (by simpa using h)
theorem O7 {ops:Array Oper}(o:Oper)(hok:ops.all (Jw n)=true):
  Region.wanted o (yielded ops (Hv n E).tmps)=FT (ops.toList.map (·.dst)) E o.guard:=by
 unfold Region.wanted FT
 cases hg:o.guard with
 | none=>rfl
 | some jw=>
  obtain⟨j,want⟩:=jw;simp only [X5w,Array.getElem?_toList,yielded]
  cases hj:ops[j]? with
  | none=>simp
  | some oj=>
   simp only [Cm]
   cases hd:oj.dst with
   | none=>simp
   | some d=>
    have h1:=Cv.1 hok oj (DD hj);have r:d<n:=by
     unfold Jw at h1;simp only [hd,Aq]at h1;simpa [Bi]using h1.1.2
    simp only [Cm,X5u n E d r]
    cases E d<;>simp
variable {w:World}
theorem Oper.wp_monoQ {P:Program}{o:Oper}{a:Act}{K:Act->World->Prop}{Q:Exit->Act->World->Prop}(hh:o.wp P a w K (λ_ _ _=>False)):o.wp P a w K Q:=by
 unfold Oper.wp at *
 generalize (execOp a.eval o).run P w=r at *
 cases r with
 | ok n w'=>
  cases n<;>simp only [Oper.upon]at hh ⊢<;>first
   | exact hh
   | (
    refine Calls.mono hh (λe w'' he=>?_)
    cases e with
    | returned v=>exact he
    | panicked c=>exact he.elim
    | outgrown=>obtain⟨_,_,z⟩:=he;exact z.elim)
 | halt x w'=>cases x<;>simp only [Oper.upon]at hh ⊢
section
variable {P:Program}{n:Nat}{E:FE}{w:World}{ops:Array Oper}{R:World->World->Prop}
variable {o:Oper}
theorem TS {v:Value}(hok:Jw n o=true)(h:LV P o E w v){K:Act->World->Prop}{Q:Exit->Act->World->Prop}(hK:K (Hv n (GF E o.dst v)) w):o.wp P (Hv n E) w K Q:=by
 unfold Oper.wp;rw[MH hok,h];simp only [Oper.upon,Jm];exact hK
def Ng : List Oper->List Fl->List (Oper×Fl×Bool)
 | o :: r,f :: fs=>(o,f,true) :: Ng r fs
 | _,_=>[]
variable {K:FE->World->Prop}
theorem X3 (hok:ops.all (Jw n)=true){Q:Exit->FE->World->Prop}(hQ:∀E w,K E w->Q .normal E w):∀(l:List Oper) (fs:List Fl) (E:FE) (w:World),l.length=fs.length->(∀o∈l,Jw n o=true)->
  Dw P n (ops.toList.map (·.dst)) (λa b=>a=b) (Ng l fs) K E w->wpList P ops (Ho n Q) l (Hv n E) w:=by
 intro l
 induction l with
 | nil=>intro fs E w _ _ h;exact⟨E,rfl,hQ _ _ h⟩
 | cons o r ih=>
  intro fs E w hl ho h
  cases fs with
  | nil=>simp at hl
  | cons f fs=>
   have Z:r.length=fs.length:=by simpa using hl
   have Y:∀o∈r,Jw n o=true:=λo h=>ho o (Ao _ h);have J:=ho o Ai;have z:∀v w,Dw P n (ops.toList.map (·.dst)) (λa b=>a=b) (Ng r fs) K (GF E o.dst v) w->wpList P ops (Ho n Q) r ((Hv n E).put o.dst v) w:=λv w h=>by
    rw[Jm];exact ih fs _ w Z Y h
   unfold wpList;rw[O7 o hok]
   cases f<;>simp only [Ng,Dw]at h<;>(split at h<;>rename_i O)
   ·rw[if_pos O];obtain⟨v,hv,hn⟩:=h;exact .inl (TS J (hv w) (by simpa [Jm]using z v w hn))
   ·rw[if_neg O];exact z _ _ h
   ·rw[if_pos O];obtain⟨v,hv,hn⟩:=h;exact .inl (TS J (hv w rfl) (by simpa [Jm]using z v w hn))
   ·rw[if_neg O];exact z _ _ h
   ·rw[if_pos O];refine .inl (Oper.wp_monoQ (Oper.wp_mono ?_ (h J)));rintro a w' ⟨E',rfl,_,hd⟩;exact ih fs E' w' Z Y hd
   ·rw[if_neg O];exact z _ _ h
variable {id:Nat}{l:List Oper}
theorem JM {Q:Exit->FE->World->Prop}(fs:List Fl)(hl:AM l.length fs.length=true)(h:Dw P n (l.map (·.dst)) (λa b=>a=b) (Ng l fs) (λE w=>Q .normal E w) E w):W P n (.region id l.toArray false) Q E w:=by
 intro ok;simp only [JD]at ok;refine wp_region_list ?_;exact X3 (K:=λE w=>Q .normal E w) ok (λ_ _ h=>h) _ fs E w (C6 hl) (λo ho=>Cv.1 ok o (by simpa using ho)) (by simpa using h)
def M0 (ops:Array Oper)(i k:Nat):Bool:=match ops[i]? with
 | some o=>o.after.any λe=>Region.binds .any e && e.on == k
 | none=>false
def Q2 (ops:Array Oper)(ld:List Nat)(listed:Array Bool)(i:Nat):Prop:=∀k∈ld,listed.getD k false=true->k≠i->M0 ops i k=true
def Me (P:Program)(ops:Array Oper)(Q:Exit->Act->World->Prop)(R:World->World->Prop)(ld:List Nat):Nat->Array Bool->Act->World->Prop
 | 0,listed,a,w=>Region.ready .any ops listed=[]/\Q .normal a w
 | fuel+1,listed,a,w=>
  (Region.ready .any ops listed=[]->Q .normal a w)/\
  ∀i∈Region.ready .any ops listed,wpOp P ops Q i (λa' w'=>(R w w'\/Q2 ops ld listed i)/\Me P ops Q R ld fuel (listed.setIfInBounds i true) a' w') a w
variable {Q:Exit->Act->World->Prop}{ld:List Nat}
theorem SB : ∀(fuel:Nat) (listed:Array Bool) (a:Act) (w:World),Me P ops Q R ld fuel listed a w->wpAny P .any ops Q fuel listed a w
 | 0,_,_,_,h=>h
 | fuel+1,_,_,_,h=>⟨h.1,λi hi=>wpOp_mono (λa' w' h'=>SB fuel _ a' w' h'.2) (h.2 i hi)⟩
theorem YieldsIf.mono {S S':World->Prop}{v:Value}{a:Act}(h:YieldsIf P ops S o v a)(hs:∀w,S' w->S w):YieldsIf P ops S' o v a:=
 h.imp (λ⟨h1,h2⟩=>⟨h1,λw r=>h2 w (hs w r)⟩) id
variable {i:Nat}
theorem MR {oi:Oper}{v:Value}{B:Bool}(hrefl:∀w,R w w)(htrans:∀a b c,R a b->R b c->R a c)(hB:B=true->i∈ld)(hi:ops[i]?=some oi)(hsel:∀(j:Nat) (o:Oper) cs b,ops[j]?=some o->o.op≠.select cs b)(hQ:∀c a w,Q (.panic c) (a.put oi.dst v) w->Q (.panic c) a w):
  ∀(fuel:Nat) (listed:Array Bool) (a:Act) (w:World),
   (∀j oj,ops[j]?=some oj->j≠i->listed.getD j true=false->(∀e∈oj.after,Region.binds .any e=true->e.on≠i)->oi.apart ops oj=true)->
   i∈Region.ready .any ops listed->YieldsIf P ops (λw'=>B=true->R w w') oi v a->
   Me P ops Q R ld fuel (listed.setIfInBounds i true) (a.put oi.dst v) w->Me P ops Q R ld (fuel+1) listed a w:=by
 intro fuel
 induction fuel with
 | zero=>
  intro listed a w _ Z hy H;refine⟨λh=>(by rw[h]at Z;cases Z),λj hj=>?_⟩
  by_cases hji:j=i
  ·subst hji;exact hy.wpOp hi (λ_=>hrefl w) ⟨.inl (hrefl w),H⟩
  ·have:=ready_mono hj hji;rw[H.1]at this
   cases this
 | succ fuel ih=>
  intro listed a w r Z hy H;refine⟨λh=>(by rw[h]at Z;cases Z),λj hj=>?_⟩
  by_cases hji:j=i
  ·subst hji;exact hy.wpOp hi (λ_=>hrefl w) ⟨.inl (hrefl w),H⟩
  ·have h1:=H.2 j (ready_mono hj hji);obtain⟨Y,oj,J,hf⟩:=mem_ready.1 hj;have h5:listed.getD i false=false:=by
    have h0:=(mem_ready.1 Z).1;rcases Bm i listed.size with h'|h'
    ·simp [h']at h0 ⊢;exact h0
    ·simp [Er h']
   have hg:i<listed.size:=by
    have h0:=(mem_ready.1 Z).1;rcases Bm i listed.size with h'|h'
    ·exact h'
    ·simp [Er h']at h0
   have O:∀e∈oj.after,Region.binds .any e=true->e.on≠i:=λe he hb hq=>by
    have h1:=hf e he hb;rw[hq,h5]at h1
    cases h1
   have h2:=wpOp_putIf J (r j oj J hji Y O) (λcs b=>hsel i oi cs b hi) (λcs b=>hsel j oj cs b J) hQ hy h1;have z:∀k ok,ops[k]?=some ok->k≠i->(listed.setIfInBounds j true).getD k true=false->
     (∀e∈ok.after,Region.binds .any e=true->e.on≠i)->oi.apart ops ok=true:=λk ok hk hw hh ht=>by
    refine r k ok hk hw ?_ ht
    by_cases hjk:j=k
    ·subst hjk;exact Y
    ·rw[getD_set_ne true hjk]at hh;exact hh
   refine wpOp_mono (λa' w' h3=>?_) h2;obtain⟨h6,hc,ha⟩:=h3;have hR:B=true->R w w':=λhb=>hc.elim id λhA=>by
    have:=hA i (hB hb) (by simp [hg]) (λe=>hji e.symm);unfold M0 at this;simp only [J,Array.any_eq_true',Aq,beq_iff_eq]at this;obtain⟨e,he,hp,hz⟩:=this;exact absurd hz (O e he hp)
   refine⟨hc.imp id λhA k hk hl hx=>hA k hk (getD_set_true hl) hx,?_⟩;refine ih (listed.setIfInBounds j true) a' w' z (ready_mono Z (Ne.symm hji)) (YieldsIf.mono h6 λw'' h' hb=>htrans _ _ _ (hR hb) (h' hb)) ?_;rw[Array.setIfInBounds_comm _ _ hji];exact ha
def JL (l:List Oper):List (Nat×Fl×Bool)->List (Oper×Fl×Bool)
 | []=>[]
 | (i,f,b) :: r=>(IJ l i,f,b) :: JL l r
def Lu (ops:Array Oper)(ld:List Nat):List (Nat×Fl×Bool)->Array Bool->Bool
 | [],listed=>(Region.ready .any ops listed).isEmpty
 | (i,.x,anc) :: r,listed=>(Region.ready .any ops listed == [i]) && (!anc || ld.all λk=>!listed.getD k false || k == i || M0 ops i k) && Lu ops ld r (listed.setIfInBounds i true)
 | (i,.p,_) :: r,listed=>(Region.ready .any ops listed).contains i && Region.free .any ops listed i && Lu ops ld r (listed.setIfInBounds i true)
 | (i,.l,_) :: r,listed=>(Region.ready .any ops listed).contains i && Region.free .any ops listed i && ld.contains i && Lu ops ld r (listed.setIfInBounds i true)
theorem PZ {v:Value}{S:World->Prop}(hok:ops.all (Jw n)=true)(hoo:Jw n o=true)(hg:FT (ops.toList.map (·.dst)) E o.guard=true)(h:∀w,S w->LV P o E w v):
 YieldsIf P ops S o v (Hv n E):=.inl ⟨by rw[O7 o hok];exact hg,λw r=>by rw[MH hoo];exact h w r⟩
theorem Qk {S:World->Prop}(hok:ops.all (Jw n)=true)(hg:¬ FT (ops.toList.map (·.dst)) E o.guard=true):YieldsIf P ops S o undef (Hv n E):=
 .inr ⟨by rw[O7 o hok];simpa using hg,rfl⟩
theorem Xna (hrefl:∀w,R w w)(htrans:∀a b c,R a b->R b c->R a c)(hok:ops.all (Jw n)=true)(hsel:Region.noSelect ops=true):
  ∀(π:List (Nat×Fl×Bool)) (listed:Array Bool) (E:FE) (w:World),Lu ops ld π listed=true->
   Dw P n (ops.toList.map (·.dst)) R (JL ops.toList π) K E w->Me P ops (Ho n (nf K)) R ld π.length listed (Hv n E) w:=by
 intro π
 induction π with
 | nil=>intro listed E w hp h;exact⟨by simpa [Lu]using hp,E,rfl,h⟩
 | cons x r ih=>
  intro listed E w hp h;obtain⟨i,f,anc⟩:=x;have hQ:∀(d:Option Tmp) (v:Value) c a w,Ho n (nf K) (.panic c) (a.put d v) w->Ho n (nf K) (.panic c) a w:=λ_ _ _ _ _ ⟨_,_,hf⟩=>hf.elim;have key:∀(O:Oper),ops[i]?=some O->IJ ops.toList i=O/\Jw n O=true:=λO hi=>
   ⟨Ud _ _ _ (by simpa using hi),Cv.1 hok O (DD hi)⟩
  cases f with
  | x=>
   simp only [Lu,Aq]at hp;obtain⟨⟨hr,ha⟩,J⟩:=hp;have z:Region.ready .any ops listed=[i]:=by simpa using hr
   refine⟨λh0=>(by rw[h0]at z;cases z),λj hj=>?_⟩;rw[z,Af]at hj;subst hj;obtain⟨_,O,hi,_⟩:=mem_ready.1 (by rw[z];exact Af.2 rfl:j∈Region.ready .any ops listed);obtain⟨hn,Y⟩:=key O hi;simp only [JL,Dw,hn]at h;unfold wpOp;simp only [hi];rw[O7 O hok];split at h<;>rename_i Z
   ·rw[if_pos Z];refine .inl (Oper.wp_monoQ (Oper.wp_mono ?_ (h Y)));rintro a w' ⟨E',rfl,hR,hd⟩;refine⟨?_,ih _ E' w' J hd⟩
    cases anc with
    | false=>exact .inl (hR rfl)
    | true=>
     refine .inr λk hk hl hc=>?_;simp only [C9,BY]at ha;have h1:=AO.1 ha k hk;simp only [hl,C9,BY,BH,beq_iff_eq]at h1;exact h1.resolve_left hc
   ·rw[if_neg Z,Jm];exact⟨.inl (hrefl w),ih _ _ w J h⟩
  | p=>
   simp only [Lu,Aq]at hp;obtain⟨⟨hr,hf⟩,J⟩:=hp;have z:i∈Region.ready .any ops listed:=by simpa using hr
   obtain⟨_,O,hi,_⟩:=mem_ready.1 z;obtain⟨hn,Y⟩:=key O hi;simp only [JL,Dw,hn]at h;split at h<;>rename_i Z
   ·obtain⟨v,hv,hd⟩:=h;exact MR (B:=false) (v:=v) hrefl htrans (λh=>by cases h) hi (Region.noSelect_spec hsel) (hQ _ _) _ _ _ _ (Region.free_spec hi hf) z
     (PZ hok Y Z λw _=>hv w) (by rw[Jm];exact ih _ _ w J hd)
   ·exact MR (B:=false) (v:=undef) hrefl htrans (λh=>by cases h) hi (Region.noSelect_spec hsel) (hQ _ _) _ _ _ _ (Region.free_spec hi hf) z
     (Qk hok Z) (by rw[Jm];exact ih _ _ w J h)
  | l=>
   simp only [Lu,Aq]at hp;obtain⟨⟨⟨hr,hf⟩,hl⟩,J⟩:=hp;have z:i∈Region.ready .any ops listed:=by simpa using hr
   obtain⟨_,O,hi,_⟩:=mem_ready.1 z;obtain⟨hn,Y⟩:=key O hi;simp only [JL,Dw,hn]at h;split at h<;>rename_i Z
   ·obtain⟨v,hv,hd⟩:=h;exact MR (B:=true) (v:=v) hrefl htrans (λ_=>by simpa using hl) hi (Region.noSelect_spec hsel) (hQ _ _) _ _ _ _ (Region.free_spec hi hf) z
     (PZ hok Y Z λw hw=>hv w (hw rfl)) (by rw[Jm];exact ih _ _ w J hd)
   ·exact MR (B:=true) (v:=undef) hrefl htrans (λ_=>by simpa using hl) hi (Region.noSelect_spec hsel) (hQ _ _) _ _ _ _ (Region.free_spec hi hf) z
     (Qk hok Z) (by rw[Jm];exact ih _ _ w J h)
theorem HM {Q:Exit->FE->World->Prop}(hrefl:∀w,R w w)(htrans:∀a b c,R a b->R b c->R a c)(hm:P.follows .mixedOrders=true)(ld:List Nat)(π:List (Nat×Fl×Bool))(hlen:AM π.length l.length=true)(hp:Lu l.toArray ld π (Cl l.length false)=true)(hsel:Region.noSelect l.toArray=true)(h:∀w1,w1=w.drew->Dw P n (l.map (·.dst)) R (JL l π) (λE w=>Q .normal E w) E w1):W P n (.region id l.toArray true) Q E w:=by
 intro ok;simp only [JD]at ok;have h':=Xna (P:=P) (ld:=ld) hrefl htrans ok hsel π (Cl l.length false) E w.drew hp (by simpa using h _ rfl);have r:π.length=l.length:=C6 hlen;rw[r]at h';refine Code.wp_mono (Q:=Ho n (nf λE w=>Q .normal E w)) ?_ (wp_region_any hm (by simpa using SB _ _ _ _ h'));rintro e a w' ⟨E',rfl,hq⟩
 cases e<;>first|exact⟨E',rfl,hq⟩|exact hq.elim
inductive Pl where
 | nil
 | stop
 /-- the next one,whatever else may come up -/
 | one (i:Nat) (f:Fl) (anc:Bool) (rest:Pl)
 /-- several effects may come up: a chain of 'alt' -/
 | fork (chain:Pl)
 /-- one of those that may come up,and what follows it;the others -/
 | alt (i:Nat) (anc:Bool) (sub:Pl) (others:Pl)
def Pl.heads : Pl->List Nat
 | .alt i _ _ o=>i :: o.heads
 | _=>[]
def Pl.ok : Pl->Bool
 | .alt ..=>false
 | .stop=>false
 | _=>true
theorem Pl.ok_spec {π:Pl}(h:π.ok=true):π.heads=[]/\π≠.stop:=by
 cases π<;>simp [Pl.ok,Pl.heads]at h ⊢
def G9 (P:Program)(n:Nat)(l:List Oper)(ds:List (Option Tmp))(R:World->World->Prop):Pl->(FE->World->Prop)->FE->World->Prop
 | .nil,K,E,w=>K E w
 | .stop,_,_,_=>True
 | .one i .p _ rest,K,E,w=>if FT ds E (IJ l i).guard=true then ∃v,PV P (IJ l i) E v/\G9 P n l ds R rest K (GF E (IJ l i).dst v) w else G9 P n l ds R rest K (GF E (IJ l i).dst undef) w
 | .one i .l _ rest,K,E,w=>if FT ds E (IJ l i).guard=true then ∃v,(∀w',R w w'->LV P (IJ l i) E w' v)/\G9 P n l ds R rest K (GF E (IJ l i).dst v) w else G9 P n l ds R rest K (GF E (IJ l i).dst undef) w
 | .one i .x anc rest,K,E,w=>if FT ds E (IJ l i).guard=true then XW P n (IJ l i) E w (λE' w'=>(anc=false->R w w')/\G9 P n l ds R rest K E' w')else G9 P n l ds R rest K (GF E (IJ l i).dst undef) w
 | .fork c,K,E,w=>G9 P n l ds R c K E w
 | .alt i anc sub others,K,E,w=>(if FT ds E (IJ l i).guard=true then XW P n (IJ l i) E w (λE' w'=>(anc=false->R w w')/\G9 P n l ds R sub K E' w')else G9 P n l ds R sub K (GF E (IJ l i).dst undef) w)/\
  G9 P n l ds R others K E w
def Ms (ops:Array Oper)(ld:List Nat)(listed:Array Bool)(i:Nat):Bool:=ld.all λk=>!listed.getD k false || k == i || M0 ops i k
def JX (ops:Array Oper)(ld:List Nat):Pl->Nat->Array Bool->Bool
 | .nil,_,listed=>(Region.ready .any ops listed).isEmpty
 | .stop,_,_=>true
 | .one i .x anc r,fuel+1,listed=>(Region.ready .any ops listed == [i]) && (!anc || Ms ops ld listed i) && r.ok && JX ops ld r fuel (listed.setIfInBounds i true)
 | .one i .p _ r,fuel+1,listed=>(Region.ready .any ops listed).contains i && Region.free .any ops listed i && r.ok && JX ops ld r fuel (listed.setIfInBounds i true)
 | .one i .l _ r,fuel+1,listed=>(Region.ready .any ops listed).contains i && Region.free .any ops listed i && ld.contains i && r.ok && JX ops ld r fuel (listed.setIfInBounds i true)
 | .fork c,fuel,listed=>(Region.ready .any ops listed).all (λj=>c.heads.contains j) && !(Region.ready .any ops listed).isEmpty && JX ops ld c fuel listed
 | .alt i anc sub others,fuel+1,listed=>(Region.ready .any ops listed).contains i && (!anc || Ms ops ld listed i) && sub.ok && JX ops ld sub fuel (listed.setIfInBounds i true) && JX ops ld others (fuel+1) listed
 | _,_,_=>false
variable {anc:Bool}
theorem Xus {listed:Array Bool}(h:(!anc || Ms ops ld listed i)=true)(ha:anc=true):Q2 ops ld listed i:=by
 subst ha;simp only [C9,BY]at h;intro k hk z r;have h1:=AO.1 h k hk;simp only [z,C9,BY,BH,beq_iff_eq]at h1;exact h1.resolve_left r
theorem Xls (hrefl:∀w,R w w)(htrans:∀a b c,R a b->R b c->R a c)(hok:ops.all (Jw n)=true)(hsel:Region.noSelect ops=true):
  ∀(π:Pl) (fuel:Nat) (listed:Array Bool) (E:FE) (w:World),JX ops ld π fuel listed=true->G9 P n ops.toList (ops.toList.map (·.dst)) R π K E w->
   (π.heads=[]->π≠.stop->Me P ops (Ho n (nf K)) R ld fuel listed (Hv n E) w)/\
   (∀i∈π.heads,∃k,fuel=k+1/\wpOp P ops (Ho n (nf K)) i (λa' w'=>(R w w'\/Q2 ops ld listed i)/\Me P ops (Ho n (nf K)) R ld k (listed.setIfInBounds i true) a' w') (Hv n E) w):=by
 have hQ:∀(d:Option Tmp) (v:Value) c a w,Ho n (nf K) (.panic c) (a.put d v) w->Ho n (nf K) (.panic c) a w:=λ_ _ _ _ _ ⟨_,_,hf⟩=>hf.elim;have key:∀(i:Nat) (Y:Oper),ops[i]?=some Y->IJ ops.toList i=Y/\Jw n Y=true:=λi Y hi=>
  ⟨Ud _ _ _ (by simpa using hi),Cv.1 hok Y (DD hi)⟩
 -- one effect
 have hy:∀(i:Nat) (anc:Bool) (rest:Pl) (fuel:Nat) (listed:Array Bool) (E:FE) (w:World),i∈Region.ready .any ops listed->(!anc || Ms ops ld listed i)=true->
   (∀E' w',G9 P n ops.toList (ops.toList.map (·.dst)) R rest K E' w'->Me P ops (Ho n (nf K)) R ld fuel (listed.setIfInBounds i true) (Hv n E') w')->
   (if FT (ops.toList.map (·.dst)) E (IJ ops.toList i).guard=true then XW P n (IJ ops.toList i) E w (λE' w'=>(anc=false->R w w')/\G9 P n ops.toList (ops.toList.map (·.dst)) R rest K E' w')else G9 P n ops.toList (ops.toList.map (·.dst)) R rest K (GF E (IJ ops.toList i).dst undef) w)->
   wpOp P ops (Ho n (nf K)) i (λa' w'=>(R w w'\/Q2 ops ld listed i)/\Me P ops (Ho n (nf K)) R ld fuel (listed.setIfInBounds i true) a' w') (Hv n E) w:=by
  intro i anc rest fuel listed E w hi ha ih h;obtain⟨_,Y,hz,_⟩:=mem_ready.1 hi;obtain⟨hn,Z⟩:=key i Y hz;rw[hn]at h;unfold wpOp;simp only [hz];rw[O7 Y hok];split at h<;>rename_i hg
  ·rw[if_pos hg];refine .inl (Oper.wp_monoQ (Oper.wp_mono ?_ (h Z)));rintro a w' ⟨E',rfl,hR,hd⟩;refine⟨?_,ih E' w' hd⟩
   cases anc with
   | false=>exact .inl (hR rfl)
   | true=>exact .inr (Xus ha rfl)
  ·rw[if_neg hg,Jm];exact⟨.inl (hrefl w),ih _ w h⟩
 intro π
 induction π with
 | nil=>
  intro fuel listed E w O h;refine⟨λ_ _=>?_,λi hi=>by cases hi⟩;simp only [JX,List.isEmpty_iff]at O
  cases fuel with
  | zero=>exact⟨O,E,rfl,h⟩
  | succ k=>exact⟨λ_=>⟨E,rfl,h⟩,by rw[O];intro i hi;cases hi⟩
 | stop=>intro fuel listed E w _ _;exact⟨λ_ h=>absurd rfl h,λi hi=>by cases hi⟩
 | fork c ih=>
  intro fuel listed E w O h;simp only [JX,Aq]at O;obtain⟨⟨hx,hh⟩,J⟩:=O;simp only [G9]at h;have hc:=(ih fuel listed E w J h).2;refine⟨λ_ _=>?_,λi hi=>by cases hi⟩;have hq:∀i∈Region.ready .any ops listed,i∈c.heads:=λi hi=>by simpa using AO.1 hx i hi
  cases fuel with
  | zero=>
   cases hr:Region.ready .any ops listed with
   | nil=>rw[hr]at hh;simp at hh
   | cons i r=>
    obtain⟨k,hk,_⟩:=hc i (hq i (by rw[hr];exact Ai));omega
  | succ k=>
   refine⟨λh0=>by rw[h0]at hh;simp at hh,λi hi=>?_⟩;obtain⟨k',hk,hw⟩:=hc i (hq i hi);have:k'=k:=by omega
   subst this;exact hw
 | alt i anc sub others ihs iho=>
  intro fuel listed E w O h;refine⟨λh0=>by simp [Pl.heads]at h0,λj hj=>?_⟩
  cases fuel with
  | zero=>simp [JX]at O
  | succ k=>
   simp only [JX,Aq]at O;obtain⟨⟨⟨⟨hr,ha⟩,ht⟩,h6⟩,h5⟩:=O;simp only [G9]at h;rcases Ah.1 hj with rfl|hj'
   ·refine⟨k,rfl,hy j anc sub k listed E w (by simpa using hr) ha (λE' w' hd=>?_) h.1⟩;exact(ihs k _ E' w' h6 hd).1 (Pl.ok_spec ht).1 (Pl.ok_spec ht).2
   ·exact(iho (k+1) listed E w h5 h.2).2 j hj'
 | one i f anc rest ih=>
  intro fuel listed E w O h;refine⟨λ_ _=>?_,λj hj=>by cases hj⟩
  cases fuel with
  | zero=>cases f<;>simp [JX]at O
  | succ k=>
   cases f with
   | x=>
    simp only [JX,Aq]at O;obtain⟨⟨⟨hr,ha⟩,ho⟩,J⟩:=O;have z:Region.ready .any ops listed=[i]:=by simpa using hr
    simp only [G9]at h;refine⟨λh0=>(by rw[h0]at z;cases z),λj hj=>?_⟩;rw[z,Af]at hj;subst hj;exact hy j anc rest k listed E w (by rw[z];exact Af.2 rfl) ha (λE' w' hd=>(ih k _ E' w' J hd).1 (Pl.ok_spec ho).1 (Pl.ok_spec ho).2) h
   | p=>
    simp only [JX,Aq]at O;obtain⟨⟨⟨hr,hf⟩,ho⟩,J⟩:=O;have z:i∈Region.ready .any ops listed:=by simpa using hr
    obtain⟨_,Y,hi,_⟩:=mem_ready.1 z;obtain⟨hn,Z⟩:=key i Y hi;simp only [G9,hn]at h;split at h<;>rename_i hg
    ·obtain⟨v,hv,hd⟩:=h;exact MR (B:=false) (v:=v) hrefl htrans (λh=>by cases h) hi (Region.noSelect_spec hsel) (hQ _ _) _ _ _ _ (Region.free_spec hi hf) z
      (PZ hok Z hg λw _=>hv w) (by rw[Jm];exact(ih k _ _ w J hd).1 (Pl.ok_spec ho).1 (Pl.ok_spec ho).2)
    ·exact MR (B:=false) (v:=undef) hrefl htrans (λh=>by cases h) hi (Region.noSelect_spec hsel) (hQ _ _) _ _ _ _ (Region.free_spec hi hf) z
      (Qk hok hg) (by rw[Jm];exact(ih k _ _ w J h).1 (Pl.ok_spec ho).1 (Pl.ok_spec ho).2)
   | l=>
    simp only [JX,Aq]at O;obtain⟨⟨⟨⟨hr,hf⟩,hl⟩,ho⟩,J⟩:=O;have z:i∈Region.ready .any ops listed:=by simpa using hr
    obtain⟨_,Y,hi,_⟩:=mem_ready.1 z;obtain⟨hn,Z⟩:=key i Y hi;simp only [G9,hn]at h;split at h<;>rename_i hg
    ·obtain⟨v,hv,hd⟩:=h;exact MR (B:=true) (v:=v) hrefl htrans (λ_=>by simpa using hl) hi (Region.noSelect_spec hsel) (hQ _ _) _ _ _ _ (Region.free_spec hi hf) z
      (PZ hok Z hg λw hw=>hv w (hw rfl)) (by rw[Jm];exact(ih k _ _ w J hd).1 (Pl.ok_spec ho).1 (Pl.ok_spec ho).2)
    ·exact MR (B:=true) (v:=undef) hrefl htrans (λ_=>by simpa using hl) hi (Region.noSelect_spec hsel) (hQ _ _) _ _ _ _ (Region.free_spec hi hf) z
      (Qk hok hg) (by rw[Jm];exact(ih k _ _ w J h).1 (Pl.ok_spec ho).1 (Pl.ok_spec ho).2)
theorem Kf {Q:Exit->FE->World->Prop}(hrefl:∀w,R w w)(htrans:∀a b c,R a b->R b c->R a c)(hm:P.follows .mixedOrders=true)(ld:List Nat)(π:Pl)(hp:(π.ok && JX l.toArray ld π l.length (Cl l.length false))=true)(hsel:Region.noSelect l.toArray=true)(h:∀w1,w1=w.drew->G9 P n l (l.map (·.dst)) R π (λE w=>Q .normal E w) E w1):W P n (.region id l.toArray true) Q E w:=by
 intro ok;simp only [JD]at ok;simp only [Aq]at hp;have h':=(Xls (P:=P) (ld:=ld) hrefl htrans ok hsel π l.length (Cl l.length false) E w.drew hp.2 (by simpa using h _ rfl)).1 (Pl.ok_spec hp.1).1 (Pl.ok_spec hp.1).2;refine Code.wp_mono (Q:=Ho n (nf λE w=>Q .normal E w)) ?_ (wp_region_any hm (by simpa using SB _ _ _ _ h'));rintro e a w' ⟨E',rfl,hq⟩
 cases e<;>first|exact⟨E',rfl,hq⟩|exact hq.elim
variable {ds:List (Option Tmp)}
theorem Xut {f:Fl}{rest:Pl}(h:Dw P n ds R [(IJ l i,f,anc)] (λE' w'=>G9 P n l ds R rest K E' w') E w):G9 P n l ds R (.one i f anc rest) K E w:=by
 cases f<;>exact h
theorem IQ {c:Pl}(h:G9 P n l ds R c K E w):G9 P n l ds R (.fork c) K E w:=h
theorem Hc {sub others:Pl}(h:Dw P n ds R [(IJ l i,.x,anc)] (λE' w'=>G9 P n l ds R sub K E' w') E w)(ho:G9 P n l ds R others K E w):G9 P n l ds R (.alt i anc sub others) K E w:=⟨h,ho⟩
theorem IZ : G9 P n l ds R .stop K E w:=trivial
theorem Xuu (h:K E w):G9 P n l ds R .nil K E w:=h
end
abbrev Fh := List UInt8
@[reducible] def S (l:Fh):Value:=.string ⟨⟨l⟩⟩
@[reducible] def I (n:Int):Value:=.int .i64 n
@[reducible] def B (b:Bool):Value:=.bool b
@[reducible] def Fg (b o:Nat):Value:=.pointer (some ⟨b,o,none⟩)
theorem P2 (l:Fh):(⟨⟨l⟩⟩:ByteArray).size=l.length:=rfl
def L6 (P:Program)(T:TypeId):Bool:=match P.underlying T with
 | some (.struct _)|some (.array _ _)|none=>false
 | some _=>true
def Lp (P:Program)(T:TypeId):Option Nat:=match P.underlying T with
 | some (.struct _)|some (.array _ _)=>(P.info? T).map (·.size)
 | _=>none
def Mh (P:Program)(T f:Nat):Option Nat:=match P.underlying T with
 | some (.struct fs)=>match fs[f]? with
  | some x=>(P.info? x.type).bind λi=>if i.size=0 then none else some x.offset
  | none=>none
 | _=>none
def IH (P:Program)(T:TypeId):Option (TypeId×Nat):=match P.underlying T with
 | some (.slice e)=>(P.info? e).map λi=>(e,i.size)
 | _=>none
def Po (P:Program)(T:TypeId):Option (Nat×TypeId×Nat):=match P.underlying T with
 | some (.array n e)=>(P.info? e).map λi=>(n,e,i.size)
 | _=>none
def Kn (P:Program)(T:TypeId):Bool:=match P.underlying T with|some .string=>true|_=>false
def YB (P:Program)(T:TypeId):Bool:=match P.underlying T with|some .bool=>true|_=>false
def OO (P:Program)(T:TypeId):Bool:=match P.underlying T with|some (.pointer _)=>true|_=>false
def HU (P:Program)(T:TypeId):Option IntKind:=match P.underlying T with|some (.int k)=>some k|_=>none
section
variable {P:Program}{E:FE}{d:Option Tmp}{ty:TypeId}{pos:String}{af:Array Edge}{g:Option (Nat×Bool)}{w:World}
variable {x:Operand}
theorem Lr {v:Value}(h:ev E x=v):PV P ⟨d,.move x,ty,pos,af,g⟩ E v:=λw=>by simp [execOp,h]
theorem Xuw {v:Value}(h:ev E x=v):PV P ⟨d,.assign x,ty,pos,af,g⟩ E v:=λw=>by simp [execOp,h]
theorem X5x {c a b:Operand}{t:Bool}{x y:Value}(hc:ev E c=.bool t)(ha:ev E a=x)(hb:ev E b=y):PV P ⟨d,.pick c a b,ty,pos,af,g⟩ E (if t then x else y):=λw=>by
 simp [execOp,hc,asBool,ha,hb]
variable {T U:TypeId}{a b:Int}{k:IntKind}{y:Operand}
theorem OQ {op:BinOp}{c:Int}(hop:op=.add/\c=a+b\/op=.sub/\c=a-b\/op=.mul/\c=a*b)(hx:ev E x=.int k a)(hy:ev E y=.int k b):
  PV P ⟨d,.binOp op T x y U,ty,pos,af,g⟩ E (.int k (k.wrap c)):=λw=>by
 rcases hop with⟨rfl,rfl⟩|⟨rfl,rfl⟩|⟨rfl,rfl⟩<;>simp [execOp,hx,hy,eqGuard,binOp,Op.intArith]
def Fx (n:Int):Prop:=-9223372036854775808<=n/\n<=9223372036854775807
theorem KU {n:Int}(h:Fx n):IntKind.i64.wrap n=n:=IntWalk.i64_in n h
theorem GJ (hx:ev E x=I a)(hy:ev E y=I b)(h:Fx (a+b)):PV P ⟨d,.binOp .add T x y U,ty,pos,af,g⟩ E (I (a+b)):=by
 have:=OQ (P:=P) (d:=d) (ty:=ty) (pos:=pos) (af:=af) (g:=g) (T:=T) (U:=U) (.inl ⟨rfl,rfl⟩) hx hy;rwa [KU h]at this
theorem Gz (hx:ev E x=I a)(hy:ev E y=I b)(h:Fx (a-b)):PV P ⟨d,.binOp .sub T x y U,ty,pos,af,g⟩ E (I (a-b)):=by
 have:=OQ (P:=P) (d:=d) (ty:=ty) (pos:=pos) (af:=af) (g:=g) (T:=T) (U:=U) (.inr (.inl ⟨rfl,rfl⟩)) hx hy;rwa [KU h]at this
theorem Kp (hx:ev E x=I a)(hy:ev E y=I b)(h:Fx (a*b)):PV P ⟨d,.binOp .mul T x y U,ty,pos,af,g⟩ E (I (a*b)):=by
 have:=OQ (P:=P) (d:=d) (ty:=ty) (pos:=pos) (af:=af) (g:=g) (T:=T) (U:=U) (.inr (.inr ⟨rfl,rfl⟩)) hx hy;rwa [KU h]at this
theorem X5y (hx:ev E x=.int k a)(hy:ev E y=.int k b):PV P ⟨d,.binOp .add T x y U,ty,pos,af,g⟩ E (.int k (k.wrap (a+b))):=OQ (.inl ⟨rfl,rfl⟩) hx hy
theorem UC (hx:ev E x=.int k a)(hy:ev E y=.int k b):PV P ⟨d,.binOp .mul T x y U,ty,pos,af,g⟩ E (.int k (k.wrap (a*b))):=OQ (.inr (.inr ⟨rfl,rfl⟩)) hx hy
theorem Yt (hx:ev E x=.int k a)(hy:ev E y=.int k b):PV P ⟨d,.binOp .lss T x y U,ty,pos,af,g⟩ E (.bool (decide (a<b))):=λw=>by
 simp [execOp,hx,hy,eqGuard,binOp,Op.intCmp]
theorem IA (hx:ev E x=.int k a)(hy:ev E y=.int k b):PV P ⟨d,.binOp .leq T x y U,ty,pos,af,g⟩ E (.bool (decide (a<=b))):=λw=>by
 simp [execOp,hx,hy,eqGuard,binOp,Op.intCmp]
theorem X9l (hx:ev E x=.int k a)(hy:ev E y=.int k b):PV P ⟨d,.binOp .gtr T x y U,ty,pos,af,g⟩ E (.bool (decide (b<a))):=λw=>by
 simp [execOp,hx,hy,eqGuard,binOp,Op.intCmp]
theorem HW (hx:ev E x=.int k a)(hy:ev E y=.int k b):PV P ⟨d,.binOp .geq T x y U,ty,pos,af,g⟩ E (.bool (decide (b<=a))):=λw=>by
 simp [execOp,hx,hy,eqGuard,binOp,Op.intCmp]
theorem WY (hx:ev E x=.int k a)(hy:ev E y=.int k b):PV P ⟨d,.binOp .eql T x y U,ty,pos,af,g⟩ E (.bool (decide (a=b))):=λw=>by
 simp [execOp,hx,hy,eqGuard,binOp,Op.intCmp];exact(Bool.beq_eq_decide_eq a b)
theorem X34 (hx:ev E x=.int k a)(hy:ev E y=.int k b):PV P ⟨d,.binOp .neq T x y U,ty,pos,af,g⟩ E (.bool (decide (a≠b))):=λw=>by
 simp [execOp,hx,hy,eqGuard,binOp,Op.intCmp]
 by_cases h:a=b<;>simp [h]
theorem JS {k':IntKind}(hx:ev E x=.int k' a)(hT:(P.underlying T).isSome=true)(hU:HU P U=some k):PV P ⟨d,.convert T U x,ty,pos,af,g⟩ E (.int k (k.wrap a)):=λw=>by
 obtain⟨dT,r⟩:=Option.isSome_iff_exists.1 hT;have z:P.underlying U=some (.int k):=by
  unfold HU at hU;split at hU
  ·rename_i h;cases hU;exact h
  ·cases hU
 simp [execOp,hx,convert,underlying,r,z,Conv.intToInt]
theorem Kr {a b:Fh}(hx:ev E x=S a)(hy:ev E y=S b):PV P ⟨d,.binOp .eql T x y U,ty,pos,af,g⟩ E (.bool (decide (a=b))):=λw=>by
 simp [execOp,hx,hy,eqGuard,binOp,Op.stringOp]
 by_cases h:a=b<;>simp [h]
theorem Mt {a b:Fh}(hx:ev E x=S a)(hy:ev E y=S b):PV P ⟨d,.binOp .neq T x y U,ty,pos,af,g⟩ E (.bool (decide (a≠b))):=λw=>by
 simp [execOp,hx,hy,eqGuard,binOp,Op.stringOp]
 by_cases h:a=b<;>simp [h]
theorem LS {a b:Fh}(hx:ev E x=S a)(hy:ev E y=S b):PV P ⟨d,.binOp .lss T x y U,ty,pos,af,g⟩ E (.bool (Op.bytesLess a b)):=λw=>by
 simp [execOp,hx,hy,eqGuard,binOp,Op.stringOp]
theorem MX {a b:Fh}(hx:ev E x=S a)(hy:ev E y=S b):PV P ⟨d,.binOp .geq T x y U,ty,pos,af,g⟩ E (.bool (!Op.bytesLess a b)):=λw=>by
 simp [execOp,hx,hy,eqGuard,binOp,Op.stringOp]
theorem Iu {a b:Fh}(hx:ev E x=S a)(hy:ev E y=S b)(h:a.length+b.length<=9223372036854775807):PV P ⟨d,.binOp .add T x y U,ty,pos,af,g⟩ E (S (a++b)):=λw=>by
 have h':¬ ((((⟨⟨a⟩⟩:ByteArray).size+(⟨⟨b⟩⟩:ByteArray).size:Nat):Int) > IntKind.i64.max):=by
  have e:IntKind.i64.max=9223372036854775807:=rfl;rw[e,P2,P2];omega
 have e:(⟨⟨a⟩⟩:ByteArray)++⟨⟨b⟩⟩=⟨⟨a++b⟩⟩:=by
  show ByteArray.append _ _=_;simp [ByteArray.append]
 have e2:(Op.stringOp .add ⟨⟨a⟩⟩ ⟨⟨b⟩⟩:Sem Value)=pure (S (a++b)):=by
  unfold Op.stringOp;simp only [];rw[if_neg h',e]
 simp only [execOp,hx,hy,eqGuard,binOp,e2];rfl
theorem X5z {a:Fh}(hT:Kn P T=true)(hx:ev E x=S a):PV P ⟨d,.call { callee:=.builtin .len,args:=#[x],argTypes:=#[T] },ty,pos,af,g⟩ E (I a.length):=λw=>by
 have r:P.underlying T=some .string:=by
  unfold Kn at hT;split at hT<;>first|assumption|cases hT
 simp [execOp,resolve,invoke,builtin,Builtin.len_,underlying,r,hx,goInt,P2]
variable {i:Nat}
theorem Sf {a:Fh}{c:UInt8}(hT:Kn P T=true)(hx:ev E x=S a)(hy:ev E y=I i)(hi:a[i]?=some c):PV P ⟨d,.index T x y,ty,pos,af,g⟩ E (.int .u8 c.toNat):=λw=>by
 have z:P.underlying T=some .string:=by
  unfold Kn at hT;split at hT<;>first|assumption|cases hT
 have e:(⟨⟨a⟩⟩:ByteArray)[(i:Int).toNat]?=some c:=by
  rw[BQ];have r:i<a.length:=(Ap.1 hi).1;rw[getElem?_pos _ i r];exact hi▸(by rw[Au r];rfl)
 have e2:(⟨⟨a⟩⟩:ByteArray)[i]?=some c:=by simpa using e
 simp [execOp,Instr.index,asIntOf,hx,hy,underlying,z,e2]
theorem Rh (h:L6 P T=true):(isAgg T).run P w=.ok false w:=by
 unfold L6 at h;unfold isAgg underlying
 cases hu:P.underlying T with
 | none=>rw[hu]at h;simp at h
 | some u=>rw[hu]at h;cases u<;>simp [hu]at h ⊢
theorem MP {T k:Nat}(h:Lp P T=some k):(isAgg T).run P w=.ok true w/\(sizeOf T).run P w=.ok k w:=by
 unfold Lp at h;have key:∀u,P.underlying T=some u->(P.info? T).map (·.size)=some k->(u matches .struct _ | .array _ _)=true->(isAgg T).run P w=.ok true w/\(sizeOf T).run P w=.ok k w:=by
  intro u hu hk hm;obtain⟨i,hi,hs⟩:=Bp.1 hk
  constructor
  ·unfold isAgg underlying
   cases u<;>simp [hu]at hm ⊢
  ·simp [sizeOf,typeInfo,hi,hs]
 cases hu:P.underlying T with
 | none=>rw[hu]at h;simp at h
 | some u=>rw[hu]at h;cases u<;>simp at h<;>exact key _ hu (by simpa using h) rfl
theorem Xuy {T f o b k:Nat}(hT:Mh P T f=some k)(hx:ev E x=.pointer (some ⟨b,o,none⟩)):PV P ⟨d,.fieldAddr T x f,ty,pos,af,g⟩ E (.pointer (some ⟨b,o+k,none⟩)):=λw=>by
 unfold Mh at hT
 cases hu:P.underlying T with
 | none=>rw[hu]at hT;simp at hT
 | some u=>
  rw[hu]at hT
  cases u<;>simp at hT
  rename_i fs
  cases hf:fs[f]? with
  | none=>rw[hf]at hT;simp at hT
  | some fl=>
   rw[hf]at hT;simp only [Di]at hT;obtain⟨i,hi,hs⟩:=hT;have r:i.size≠0:=λe=>by rw[if_pos e]at hs;cases hs
   rw[if_neg r]at hs
   cases hs
   have z:(⟨b,o,none⟩:Addr).add fl.offset=⟨b,o+fl.offset,none⟩:=by
    unfold Addr.add;split
    ·rename_i e;simp [e]
    ·rfl
   simp [execOp,Instr.fieldAt,underlying,hu,hf,hx,Instr.sureAddr,fieldPlace,sizeOf,typeInfo,hi,r,z]
def base (v:Value):Nat×Nat:=match v with
 | .slice (some a) _ _=>(a.block,a.off)
 | _=>(0,0)
def Fv (v:Value)(n:Nat):Prop:=(v=.slice none 0 0/\n=0)\/(∃b o c,v=.slice (some ⟨b,o,none⟩) n c/\n<=c)\/(n=0/\∃a c,v=.slice (some a) 0 c)
variable {e:Nat}
theorem KX {T k:Nat}(h:IH P T=some (e,k)):P.underlying T=some (.slice e)/\∃i,P.info? e=some i/\i.size=k:=by
 unfold IH at h
 cases hu:P.underlying T with
 | none=>rw[hu]at h;simp at h
 | some u=>
  rw[hu]at h
  cases u<;>simp at h
  rename_i e';obtain⟨i,hi,rfl,rfl⟩:=h;exact⟨rfl,i,hi,rfl⟩
theorem SX {T m k:Nat}(h:Po P T=some (m,e,k)):P.underlying T=some (.array m e)/\∃i,P.info? e=some i/\i.size=k:=by
 unfold Po at h
 cases hu:P.underlying T with
 | none=>rw[hu]at h;simp at h
 | some u=>
  rw[hu]at h
  cases u<;>simp at h
  rename_i e';obtain⟨i,hi,rfl,rfl,rfl⟩:=h;exact⟨rfl,i,hi,rfl⟩
variable {n:Nat}
theorem Pb {T k:Nat}{v:Value}(hT:IH P T=some (e,k))(hv:Fv v n)(hx:ev E x=v):PV P ⟨d,.call { callee:=.builtin .len,args:=#[x],argTypes:=#[T] },ty,pos,af,g⟩ E (I n):=λw=>by
 obtain⟨hu,_⟩:=KX hT;rcases hv with⟨rfl,rfl⟩|⟨b,o,c,rfl,_⟩|⟨rfl,a,c,rfl⟩<;>simp [execOp,resolve,invoke,builtin,Builtin.len_,underlying,hu,hx,goInt]
theorem Ii {T k:Nat}{v:Value}(hT:IH P T=some (e,k))(hv:Fv v n)(hx:ev E x=v)(hy:ev E y=I i)(hi:i<n):
  PV P ⟨d,.indexAddr T x y,ty,pos,af,g⟩ E (Fg (base v).1 ((base v).2+i*k)):=λw=>by
 obtain⟨hu,f,J,hk⟩:=KX hT;rcases hv with⟨rfl,rfl⟩|⟨b,o,c,rfl,_⟩|⟨rfl,a,c,rfl⟩
 ·omega
 rotate_left
 ·omega
 ·have z:(⟨b,o,none⟩:Addr).add (i*k)=⟨b,o+i*k,none⟩:=by
   unfold Addr.add;split
   ·rename_i e;simp [e]
   ·rfl
  have r:(0:Int)<=(i:Int)/\(i:Int)<(n:Int):=by omega
  simp [execOp,Instr.indexAt,asIntOf,underlying,hu,hx,hy,sizeOf,typeInfo,J,hk,base,r,z];omega
theorem La {T k m b o:Nat}(hT:Po P T=some (m,e,k))(hx:ev E x=Fg b o)(hy:ev E y=I i)(hi:i<m):
  PV P ⟨d,.indexAddr T x y,ty,pos,af,g⟩ E (Fg b (o+i*k)):=λw=>by
 obtain⟨hu,f,J,hk⟩:=SX hT;have z:(⟨b,o,none⟩:Addr).add (i*k)=⟨b,o+i*k,none⟩:=by
  unfold Addr.add;split
  ·rename_i e;simp [e]
  ·rfl
 have r:(0:Int)<=(i:Int)/\(i:Int)<(m:Int):=by omega
 simp [execOp,Instr.indexAt,asIntOf,underlying,hu,hx,hy,sizeOf,typeInfo,J,hk,r,z,Instr.sureAddr];omega
theorem X50 {a:Addr}(hx:ev E x=.pointer (some a)):PV P ⟨d,.nilCheck x,ty,pos,af,g⟩ E (.pointer (some a)):=λw=>by
 simp [execOp,hx]
theorem X9m {b:Bool}(hx:ev E x=.bool b):PV P ⟨d,.unOp .not T x,ty,pos,af,g⟩ E (.bool (!b)):=λw=>by
 simp [execOp,hx,Op.unary]
theorem Yg {vs:List Value}{v:Value}(hx:ev E x=.tuple ⟨vs⟩)(hv:vs[i]?=some v):PV P ⟨d,.extract x i,ty,pos,af,g⟩ E v:=λw=>by
 simp [execOp,hx,Instr.extract,hv]
theorem Pd (op:BinOp)(T U:TypeId)(x y:Operand)(w:World)(v:Value)(hg:∀w,(eqGuard op T x y (ev E x) (ev E y)).run P w=.ok () w)(h:(binOp op T (ev E x) (ev E y)).run P w=.ok v w) :
  (execOp (ev E) ⟨d,.binOp op T x y U,ty,pos,af,g⟩).run P w=.ok (.value v) w:=by
 simp [execOp,hg,h]
theorem P8 {a b:Bool}(hT:YB P T=true)(hx:ev E x=.bool a)(hy:ev E y=.bool b):PV P ⟨d,.binOp .eql T x y U,ty,pos,af,g⟩ E (.bool (decide (a=b))):=λw=>by
 have r:P.underlying T=some .bool:=by
  unfold YB at hT;split at hT<;>first|assumption|cases hT
 refine Pd _ _ _ _ _ _ _ (λw=>by simp [hx,hy,eqGuard]) ?_;rw[hx,hy,run_eql_bool _ _ _ _ r]
 cases a<;>cases b<;>rfl
theorem Vn (h:OO P T=true):P.underlying T=some (.pointer (P.pointee T)):=by
 unfold OO at h;split at h
 ·rename_i e he;simp [Program.pointee,he]
 ·cases h
theorem GS {a:Option Addr}(hT:OO P T=true)(hx:ev E x=.pointer a)(hy:ev E y=.pointer none):PV P ⟨d,.binOp .eql T x y U,ty,pos,af,g⟩ E (.bool (decide (a=none))):=λw=>by
 refine Pd _ _ _ _ _ _ _ (λw=>by simp [hx,hy,eqGuard]) ?_;rw[hx,hy,run_eql_pointer_nil _ _ _ (Vn hT)]
 cases a<;>rfl
theorem OX {a:Option Addr}(hT:OO P T=true)(hx:ev E x=.pointer a)(hy:ev E y=.pointer none):PV P ⟨d,.binOp .neq T x y U,ty,pos,af,g⟩ E (.bool (decide (a≠none))):=λw=>by
 refine Pd _ _ _ _ _ _ _ (λw=>by simp [hx,hy,eqGuard]) ?_;rw[hx,hy,run_neq_pointer_nil _ _ _ (Vn hT)]
 cases a<;>rfl
theorem X0r (w:World)(t e:TypeId)(a:Option Addr)(l c:Nat)(h:P.underlying t=some (.slice e)):(binOp .eql t (.slice a l c) (.slice none 0 0)).run P w=.ok (.bool a.isNone) w:=by
 have e1:(Op.equalIn (9999+1) t (.slice a l c) (.slice none 0 0)).run P w=.ok a.isNone w:=by
  rw[Op.equalIn]
  cases a<;>simp [underlying,h]
 simp only [binOp,Op.equal,Op.maxDepth,Sem.run_bind,e1];rfl
theorem Rv {T U k:Nat}{a:Option Addr}{c:Nat}(hT:IH P T=some (e,k))(hx:ev E x=.slice a n c)(hy:ev E y=.slice none 0 0):PV P ⟨d,.binOp .eql T x y U,ty,pos,af,g⟩ E (.bool (decide (a=none))):=λw=>by
 obtain⟨he,_⟩:=KX hT;refine Pd _ _ _ _ _ _ _ (λw=>by simp [hx,hy,eqGuard]) ?_;rw[hx,hy,X0r _ _ _ _ _ _ he]
 cases a<;>rfl
theorem MV {i:Int}{y:Nat}{c:BoundsCode}(h:0<=i/\i<=y)(w:World):(Instr.sliceBound (.int k i) y c).run P w=.ok i.toNat w:=by
 simp [Instr.sliceBound,asIntOf,h]
theorem Xu0 (s:Fh)(a b:Nat):(⟨⟨s⟩⟩:ByteArray).extract a b=⟨⟨(s.take b).drop a⟩⟩:=by
 have h1:((⟨⟨s⟩⟩:ByteArray).extract a b).data=(#[].extract 0 0++(⟨s⟩:Array UInt8).extract a (a+(b-a))) ++ #[].extract (0+min (b-a) ((⟨s⟩:Array UInt8).size-a)) 0:=rfl
 apply ByteArray.ext
 rw[h1]
 apply Es
 simp [List.drop_take]
def MB (E:FE)(d:Nat)(x:Option Operand)(a:Nat):Prop:=match x with
 | some l=>ev E l=I a
 | none=>a=d
theorem SQ {lo hi:Option Operand}{T a b:Nat}{s:Fh}(hT:Kn P T=true)(hx:ev E x=S s)(hlo:MB E 0 lo a)(hhi:MB E s.length hi b)(h1:a<=b)(h2:b<=s.length):
  PV P ⟨d,.slice T x lo hi none,ty,pos,af,g⟩ E (S ((s.take b).drop a)):=λw=>by
 have J:P.underlying T=some .string:=by
  unfold Kn at hT;split at hT<;>first|assumption|cases hT
 have z:(0:Int)<=(b:Int)/\(b:Int)<=(s.length:Int):=by omega
 have r:(0:Int)<=(a:Int)/\(a:Int)<=(b:Int):=by omega
 have key:(Instr.sliceBounds false s.length s.length (lo.map (ev E)) (hi.map (ev E)) none).run P w=.ok (a,b,s.length) w:=by
  unfold MB at hlo hhi
  cases lo<;>cases hi<;>simp only []at hlo hhi<;>subst_vars<;>simp only [Dj,Instr.sliceBounds,Sem.run_bind,Sem.run_pure,Result.andThen_ok, *] <;>
   simp only [MV z,MV r,Result.andThen_ok,BQ]<;>rfl
 have e1:(Instr.sliceAt T (.string ⟨⟨s⟩⟩) (lo.map (ev E)) (hi.map (ev E)) none).run P w=.ok (S ((s.take b).drop a)) w:=by
  simp [Instr.sliceAt,Instr.slice,underlying,J,P2,key,Xu0]
 simp only [execOp,hx,Dk,Sem.run_bind,e1];rfl
end
structure Mod (S:Nat->Prop)(w w':World):Prop where
 os:w'.os=w.os
 tape:w'.tape=w.tape
 output:w'.output=w.output
 size:w.heap.size<=w'.heap.size
 block:∀k,k<w.heap.size->¬ S k->w'.heap[k]?=w.heap[k]?
def noB : Nat->Prop:=λ_=>False
abbrev Fp (w w':World):Prop:=Mod noB w w'
def Fu (b:Nat):Nat->Prop:=λk=>k=b
theorem Mod.refl (S:Nat->Prop)(w:World):Mod S w w:=⟨rfl,rfl,rfl,Aa _,λ_ _ _=>rfl⟩
theorem Fp.refl (w:World):Fp w w:=Mod.refl _ w
variable {U:Nat->Prop}{a:World}
theorem Mod.trans {S T:Nat->Prop}{b c:World}(h:Mod S a b)(k:Mod T b c)(hS:∀i,S i->U i)(hT:∀i,T i->i<a.heap.size->U i):Mod U a c:=
 ⟨k.os.trans h.os,k.tape.trans h.tape,k.output.trans h.output,Ae h.size k.size,λi hi J=>
  (k.block i (Nat.lt_of_lt_of_le hi h.size) (λz=>J (hT i z hi))).trans (h.block i hi (λr=>J (hS i r)))⟩
theorem Mod.ext {S:Nat->Prop}{b c:World}(h:Mod S a b)(k:Fp b c):Mod S a c:=h.trans k (λ_ h=>h) (λ_ h _=>h.elim)
theorem Fp.trans {b c:World}(h:Fp a b)(k:Fp b c):Fp a c:=Mod.ext h k
theorem Fp.mod {S:Nat->Prop}{b c:World}(h:Fp a b)(k:Mod S b c):Mod S a c:=Mod.trans h k (λ_ h=>h.elim) (λ_ h _=>h)
theorem Mod.mono {S:Nat->Prop}{b:World}(h:Mod S a b)(hS:∀i,S i->i<a.heap.size->U i):Mod U a b:=
 ⟨h.os,h.tape,h.output,h.size,λi hi r=>h.block i hi (λs=>r (hS i s hi))⟩
theorem Fp.own {S:Nat->Prop}{b c:World}(h:Fp a b)(k:Mod S b c)(hS:∀i,S i->a.heap.size<=i):Fp a c:=
 Mod.trans h k (λ_ h=>h) (λi h hi=>by have:=hS i h;omega)
theorem Mod.own {S T:Nat->Prop}{b c:World}(h:Mod T a b)(k:Mod S b c)(hS:∀i,S i->i<a.heap.size->T i):Mod T a c:=
 Mod.trans h k (λ_ h=>h) hS
theorem Fp.drew (w:World):Fp w w.drew:=⟨rfl,rfl,rfl,Aa _,λ_ _ _=>rfl⟩
theorem Fp.alloc (w:World)(o:Obj):Fp w (w.alloc o):=⟨rfl,rfl,rfl,by simp,λk hk _=>Below.heap_alloc _ _ _ hk⟩
variable {w':World}
theorem Fp.below (h:Fp w w'):Below w.heap.size w w':=⟨h.os,h.tape,h.output,h.size,λk hk=>h.block k hk (λh=>h)⟩
theorem Fp.of_below (h:Below w.heap.size w w'):Fp w w':=⟨h.os,h.tape,h.output,h.size,λk hk _=>h.block k hk⟩
theorem Fp.of_grown (h:w.grownBy w' none):Fp w w':=⟨h.os,h.tape,h.output,h.size,λk hk _=>h.block k hk F5⟩
theorem Mod.of_grown {r:Option Nat}(h:w.grownBy w' r):Mod (λk=>r=some k) w w':=⟨h.os,h.tape,h.output,h.size,λk hk hn=>h.block k hk (λe=>hn e.symm)⟩
variable {o:Nat}
theorem Mod.cell {S:Nat->Prop}(h:Mod S w w'){v:Value}(hc:w.cell? ⟨b,o,none⟩=some v)(hS:¬ S b):w'.cell? ⟨b,o,none⟩=some v:=by
 have hb:=World.block_lt_of_cell? (w:=w) (a:=⟨b,o,none⟩) hc;rw[World.cell?_of_block (w:=w) (h.block b hb hS)];exact hc
def Fo (w:World)(b:Nat)(cs:List Value)(T:TypeId):Prop:=w.heap[b]?=some (.cells ⟨cs⟩ T (0,0))
variable {T:TypeId}
theorem Fo.lt {cs:List Value}(h:Fo w b cs T):b<w.heap.size:=(BA.1 h).1
theorem Fo.mod {S:Nat->Prop}{cs:List Value}(h:Fo w b cs T)(m:Mod S w w')(hS:¬ S b):Fo w' b cs T:=by
 have r:=h.lt;unfold Fo at *;rw[m.block b r hS];exact h
theorem Fo.ext {cs:List Value}(h:Fo w b cs T)(m:Fp w w'):Fo w' b cs T:=h.mod m (λh=>h)
theorem Fo.at {w:World}{b k:Nat}{cs:List Value}{T:TypeId}{v:Value}(h:Fo w b cs T)(hk:cs[k]?=some v):w.cell? ⟨b,k,none⟩=some v:=by
 unfold Fo at h;simp [World.cell?,h];simpa using hk
theorem Fo.free {cs:List Value}(h:Fo w b cs T):w.frozen? ⟨b,k,none⟩=false:=by
 unfold Fo at h;simp [World.frozen?,h]
def Jt (w:World)(b o:Nat)(cs:List Value):Prop:=∀i v,cs[i]?=some v->w.cell? ⟨b,o+i,none⟩=some v
theorem Jt.mod {S:Nat->Prop}{cs:List Value}(h:Jt w b o cs)(m:Mod S w w')(hS:¬ S b):Jt w' b o cs:=λi v hi=>m.cell (h i v hi) hS
theorem Jt.at {cs:List Value}{v:Value}(h:Jt w b o cs)(hk:cs[k]?=some v):w.cell? ⟨b,o+k,none⟩=some v:=h k v hk
theorem Fo.row {cs:List Value}(h:Fo w b cs T):Jt w b 0 cs:=λi v hi=>by rw[A0];exact h.at hi
theorem Fo.part {cs:List Value}(o n:Nat)(h:Fo w b cs T):Jt w b o ((cs.drop o).take n):=λi v hi=>h.at (by
 rw[Ba]at hi;split at hi
 ·rw[B4]at hi;exact hi
 ·cases hi)
structure Slc (sz:Nat)(w:World)(v:Value)(xs:List (List Value)):Prop where
 sl:Fv v xs.length
 at':∀i cs,xs[i]?=some cs->cs.length=sz/\Jt w (base v).1 ((base v).2+i*sz) cs
variable {xs:List (List Value)}
theorem Slc.mod {S:Nat->Prop}{sz:Nat}{v:Value}(h:Slc sz w v xs)(m:Mod S w w')(hS:xs≠[]->¬ S (base v).1):Slc sz w' v xs:=
 ⟨h.sl,λi cs hi=>⟨(h.at' i cs hi).1,(h.at' i cs hi).2.mod m (hS (λe=>by rw[e]at hi;simp at hi))⟩⟩
theorem Slc.ext {sz:Nat}{v:Value}(h:Slc sz w v xs)(m:Fp w w'):Slc sz w' v xs:=h.mod m (λ_ h=>h)
theorem Slc.row {sz:Nat}{v:Value}{i:Nat}{cs:List Value}(h:Slc sz w v xs)(hi:xs[i]?=some cs):Jt w (base v).1 ((base v).2+i*sz) cs:=(h.at' i cs hi).2
theorem Slc.nil (sz:Nat)(w:World):Slc sz w (.slice none 0 0) []:=⟨.inl ⟨rfl,rfl⟩,λi cs hi=>by simp at hi⟩
def Fs {α:Type}(enc:α->List Value)(sz:Nat)(w:World)(v:Value)(l:List α):Prop:=Slc sz w v (l.map enc)
section
variable {α:Type}{enc:α->List Value}{sz:Nat}{w w':World}{v:Value}{l:List α}
theorem Fs.sl (h:Fs enc sz w v l):Fv v l.length:=by have:=Slc.sl h;rwa [Aw]at this
theorem Fs.row {i:Nat}{x:α}(h:Fs enc sz w v l)(hi:l[i]?=some x):Jt w (base v).1 ((base v).2+i*sz) (enc x):=Slc.row h (by rw[AG,hi];rfl)
theorem Fs.ext (h:Fs enc sz w v l)(m:Fp w w'):Fs enc sz w' v l:=Slc.ext h m
theorem Fs.mod {S:Nat->Prop}(h:Fs enc sz w v l)(m:Mod S w w')(hS:l≠[]->¬ S (base v).1):Fs enc sz w' v l:=Slc.mod h m (λe=>hS (λe2=>e (by rw[e2];rfl)))
theorem Fs.lt {i:Nat}{x:α}(h:Fs enc sz w v l)(hi:l[i]?=some x):i<l.length:=(Ap.1 hi).1
theorem Fs.nil : Fs enc sz w (.slice none 0 0) []:=Slc.nil sz w
theorem Fs.blk {x:α}(h:Fs enc sz w v l)(hsz:0<sz)(hi:l[0]?=some x):(base v).1<w.heap.size:=by
 obtain⟨h1,h2⟩:=Slc.at' h 0 (enc x) (by rw[AG,hi];rfl)
 cases he:enc x with
 | nil=>rw[he]at h1;simp at h1;omega
 | cons c r=>exact World.block_lt_of_cell? (w:=w) (a:=⟨_,_,none⟩) (h2 0 c (by rw[he];rfl))
end
section
variable {P:Program}{n:Nat}{ds:List (Option Tmp)}{R:World->World->Prop}{r:List (Oper×Fl×Bool)}{K:FE->World->Prop}{E:FE}{w:World}
variable {d:Nat}{op:Op}{ty:TypeId}{pos:String}{af:Array Edge}{g:Option (Nat×Bool)}{anc:Bool}{v:Value}
theorem OG (h:K E w):Dw P n ds R [] K E w:=h
theorem JK (hg:FT ds E g=true)(hv:PV P ⟨some d,op,ty,pos,af,g⟩ E v)(h:Dw P n ds R r K (FR E d v) w):Dw P n ds R ((⟨some d,op,ty,pos,af,g⟩,.p,anc) :: r) K E w:=by
 unfold Dw;rw[if_pos hg];exact⟨v,hv,h⟩
theorem F3 {v':Value}(hg:FT ds E g=true)(hv:PV P ⟨some d,op,ty,pos,af,g⟩ E v')(hn:v'=v)(h:Dw P n ds R r K (FR E d v) w):Dw P n ds R ((⟨some d,op,ty,pos,af,g⟩,.p,anc) :: r) K E w:=
 JK hg (hn▸hv) h
variable {x:Operand}
theorem W4 (hg:FT ds E g=true)(hx:ev E x=v)(h:Dw P n ds R r K (FR E d v) w):Dw P n ds R ((⟨some d,.move x,ty,pos,af,g⟩,.p,anc) :: r) K E w:=JK hg (Lr hx) h
theorem Yds (hg:FT ds E g=true)(hx:ev E x=v)(h:Dw P n ds R r K (FR E d v) w):Dw P n ds R ((⟨some d,.assign x,ty,pos,af,g⟩,.p,anc) :: r) K E w:=JK hg (Xuw hx) h
theorem Gd (hg:FT ds E g=true)(hv:∀w',R w w'->LV P ⟨some d,op,ty,pos,af,g⟩ E w' v)(h:Dw P n ds R r K (FR E d v) w):Dw P n ds R ((⟨some d,op,ty,pos,af,g⟩,.l,anc) :: r) K E w:=by
 unfold Dw;rw[if_pos hg];exact⟨v,hv,h⟩
theorem Qs {f:Fl}(hg:FT ds E g=false)(h:Dw P n ds R r K (FR E d undef) w):Dw P n ds R ((⟨some d,op,ty,pos,af,g⟩,f,anc) :: r) K E w:=by
 cases f<;>(unfold Dw;rw[if_neg (by rw[hg];decide)];exact h)
theorem VT {f:Fl}(hg:FT ds E g=false)(h:Dw P n ds R r K E w):Dw P n ds R ((⟨none,op,ty,pos,af,g⟩,f,anc) :: r) K E w:=by
 cases f<;>(unfold Dw;rw[if_neg (by rw[hg];decide)];exact h)
theorem Ob {o:Oper}(hg:FT ds E o.guard=true)(h:XW P n o E w (λE' w'=>(anc=false->R w w')/\Dw P n ds R r K E' w')):Dw P n ds R ((o,.x,anc) :: r) K E w:=by
 unfold Dw;rw[if_pos hg];exact h
variable {l:List (Oper×Fl×Bool)}
theorem Il (s:Nat){b:Bool}(hb:E s=.bool b)(ht:b=true->Dw P n ds R l K (FR E s (.bool true)) w)(hf:b=false->Dw P n ds R l K (FR E s (.bool false)) w):Dw P n ds R l K E w:=by
 cases b with
 | true=>have:=ht rfl;rwa [T1 E s _ hb]at this
 | false=>have:=hf rfl;rwa [T1 E s _ hb]at this
theorem X0s (s:Nat){p:Prop}[Decidable p](hb:E s=.bool (decide p))(ht:p->Dw P n ds R l K (FR E s (.bool true)) w)(hf:¬ p->Dw P n ds R l K (FR E s (.bool false)) w):Dw P n ds R l K E w:=
 Il s hb (λh=>ht (of_decide_eq_true h)) (λh=>hf (of_decide_eq_false h))
def RX (R:World->World->Prop)(anc:Bool):Prop:=anc=true\/∀w w',Fp w w'->R w w'
theorem RX.ext {anc:Bool} : RX Fp anc:=.inr λ_ _ h=>h
theorem RX.all : RX R true:=.inl rfl
variable {w':World}
theorem RX.use {anc:Bool}(h:RX R anc){w:World}(he:Fp w w'):anc=false->R w w':=λe=>h.elim (λh=>by rw[h]at e;cases e) (λh=>h _ _ he)
theorem I1 {o:Oper}{v:Value}(hg:FT ds E o.guard=true)(hr:(execOp (ev E) o).run P w=.ok (.value v) w')(hR:anc=false->R w w')(h:Dw P n ds R r K (GF E o.dst v) w'):Dw P n ds R ((o,.x,anc) :: r) K E w:=by
 refine Ob hg λok=>?_;unfold Oper.wp;rw[MH ok,hr];exact⟨_,Jm _ _ _ _,hR,h⟩
theorem Tn {o:Oper}(hg:FT ds E o.guard=true)(hr:(execOp (ev E) o).run P w=.ok .skip w')(hR:anc=false->R w w')(h:Dw P n ds R r K (GF E o.dst undef) w'):Dw P n ds R ((o,.x,anc) :: r) K E w:=by
 refine Ob hg λok=>?_;unfold Oper.wp;rw[MH ok,hr];exact⟨_,Jm _ _ _ _,hR,h⟩
variable {T b o:Nat}{dd:Option Tmp}
theorem Nc {v:Value}(hT:L6 P T=true)(hx:ev E x=Fg b o)(hc:w.cell? ⟨b,o,none⟩=some v):LV P ⟨dd,.load T x,ty,pos,af,g⟩ E w v:=by
 unfold LV;simp [execOp,hx,Instr.loadAt,Instr.sureAddr,loadVar,Rh hT,hc]
theorem Px : ∀(cs:List Value) (i:Nat) (z:Array Value),(∀j v,cs[j]?=some v->w.cell? ⟨b,o+i+j,none⟩=some v)->
  (loadCellsFrom ⟨b,o,none⟩ i cs.length z).run P w=.ok (z++cs.toArray) w:=by
 intro cs
 induction cs with
 | nil=>intro i z _;simp [loadCellsFrom]
 | cons v r ih=>
  intro i z h;have h0:w.cell? ⟨b,o+i,none⟩=some v:=by simpa using h 0 v rfl
  have J:(⟨b,o,none⟩:Addr).add i=⟨b,o+i,none⟩:=by
   unfold Addr.add;split
   ·rename_i e;simp [e]
   ·rfl
  have O:=ih (i+1) (z.push v) (λj u Y=>by have:=h (j+1) u (by simpa using Y);simpa [BR,DE 1 j]using this);simp [loadCellsFrom,J,h0,O]
variable {k:Nat}
theorem Fy {cs:List Value}(hT:Lp P T=some k)(hx:ev E x=Fg b o)(hl:cs.length=k)(hc:Jt w b o cs):LV P ⟨dd,.load T x,ty,pos,af,g⟩ E w (.agg ⟨cs⟩):=by
 unfold LV;have h1:=Px (P:=P) (w:=w) (b:=b) (o:=o) cs 0 #[] (λj v z=>by rw[BZ];exact hc j v z);rw[hl]at h1;simp [execOp,hx,Instr.loadAt,Instr.sureAddr,loadVar,(MP hT).1,(MP hT).2,loadCells,h1]
theorem Gx {cs:List Value}(hg:FT ds E g=true)(hx:ev E x=v)(hv:v.cells=⟨cs⟩)(hR:RX R anc)(h:∀b w1,b=w.heap.size->Fp w w1->Fo w1 b cs T->Dw P n ds R r K (FR E d (Fg b 0)) w1):Dw P n ds R ((⟨some d,.box T x,ty,pos,af,g⟩,.x,anc) :: r) K E w:=by
 refine I1 (v:=Fg w.heap.size 0) (w':=w.alloc (.cells ⟨cs⟩ T)) hg ?_ (hR.use (Fp.alloc _ _)) (h _ _ rfl (Fp.alloc _ _) ?_)
 ·simp [execOp,hx,Instr.box,newVar,newRow,hv,newObj,Sem.run]
 ·show(w.heap.push _)[w.heap.size]?=_;simp
def KW (P:Program)(T:TypeId):Option (List Value):=(P.info? T).bind λi=>i.zero.map λz=>z.cells.toList
theorem OR {T:TypeId}{cs:List Value}(h:KW P T=some cs):∃z,(zeroValue T).run P w=.ok z w/\z.cells=⟨cs⟩:=by
 unfold KW at h
 cases hi:P.info? T with
 | none=>rw[hi]at h;simp at h
 | some i=>
  rw[hi]at h;simp only [Cm,Bp]at h;obtain⟨z,J,O⟩:=h;exact⟨z,by simp [zeroValue,typeInfo,hi,J],by rw[<-O]⟩
theorem X51 {cs:List Value}(hg:FT ds E g=true)(hz:KW P T=some cs)(hR:RX R anc)(h:∀b w1,b=w.heap.size->Fp w w1->Fo w1 b cs T->Dw P n ds R r K (FR E d (Fg b 0)) w1):Dw P n ds R ((⟨some d,.alloc T,ty,pos,af,g⟩,.x,anc) :: r) K E w:=by
 obtain⟨z,O,J⟩:=OR (P:=P) (w:=w) hz;refine I1 (v:=Fg w.heap.size 0) (w':=w.alloc (.cells ⟨cs⟩ T)) hg ?_ (hR.use (Fp.alloc _ _)) (h _ _ rfl (Fp.alloc _ _) ?_)
 ·simp [execOp,Instr.alloc,O,newVar,newRow,J,newObj,Sem.run]
 ·show(w.heap.push _)[w.heap.size]?=_;simp
def Gr : List Value->Nat->List Value->List Value
 | cs,_,[]=>cs
 | cs,o,v :: vs=>Gr (cs.set o v) (o+1) vs
theorem Fo.set {cs:List Value}{T:TypeId}(h:Fo w b cs T)(v:Value):Fo (w.setCell ⟨b,o,none⟩ v) b (cs.set o v) T:=by
 unfold Fo at *;simp only [World.setCell,Array.getElem?_modify,if_true,h,Cn,Option.isSome_none];simp
theorem Mod.setCell (b o:Nat)(v:Value):Mod (Fu b) w (w.setCell ⟨b,o,none⟩ v):=
 ⟨rfl,rfl,rfl,by simp,λk hk hn=>Below.heap_setCell _ _ _ _ hn⟩
theorem WB {T:TypeId}: ∀(vs:List Value) (i:Nat) (cs:List Value) (w:World),Fo w b cs T->o+i+vs.length<=cs.length->(∀v∈vs,v.oneCell'=true)->
  ∃w',(storeCells ⟨b,o,none⟩ vs i).run P w=.ok () w'/\Fo w' b (Gr cs (o+i) vs) T/\Mod (Fu b) w w'/\w'.heap.size=w.heap.size:=by
 intro vs
 induction vs with
 | nil=>intro i cs w h _ _;exact⟨w,by simp [storeCells],h,Mod.refl _ _,rfl⟩
 | cons v r ih=>
  intro i cs w h O h1;have J:o+i<cs.length:=by simp at O;omega
  have Y:(⟨b,o,none⟩:Addr).add i=⟨b,o+i,none⟩:=by
   unfold Addr.add;split
   ·rename_i e;simp [e]
   ·rfl
  have hc:w.cell? ⟨b,o+i,none⟩=some cs[o+i]:=h.at (by simp [J]);have hf:w.frozen? ⟨b,o+i,none⟩=false:=h.free;obtain⟨w',e1,e2,e3,Z⟩:=ih (i+1) (cs.set (o+i) v) (w.setCell ⟨b,o+i,none⟩ v) (h.set v) (by simp at O ⊢;omega) (λu hu=>h1 u (Ao _ hu));refine⟨w',?_,by simpa [Gr,BR]using e2,Mod.trans (Mod.setCell b (o+i) v) e3 (λ_ h=>h) (λ_ h _=>h),by simpa using Z⟩;have z:=h1 v Ai;rw[storeCells,Sem.run_bind,Y];have hs:(store ⟨b,o+i,none⟩ v).run P w=.ok () (w.setCell ⟨b,o+i,none⟩ v):=by
   cases v<;>simp [Value.oneCell']at z<;>simp [store,Sem.run,hc,hf]
  rw[hs];exact e1
def Mo (P:Program)(T:TypeId):Option Nat:=(P.info? T).map (·.size)
variable {vs:List Value}
theorem OA {a:Operand}{T':Nat}{cs:List Value}(hg:FT ds E g=true)(ha:ev E a=Fg b o)(hx:ev E x=v)(hv:v.cells=⟨vs⟩)(hs:Mo P T=some vs.length)(hb:Fo w b cs T')(ho:o+vs.length<=cs.length)(h1:∀v∈vs,v.oneCell'=true)(hR:anc=true\/∀w',Mod (Fu b) w w'->R w w')(h:∀w1,Mod (Fu b) w w1->w1.heap.size=w.heap.size->Fo w1 b (Gr cs o vs) T'->Dw P n ds R r K E w1):Dw P n ds R ((⟨none,.store T a x,ty,pos,af,g⟩,.x,anc) :: r) K E w:=by
 obtain⟨w',e1,e2,O,Y⟩:=WB (P:=P) (b:=b) (o:=o) (T:=T') vs 0 cs w hb (by simpa using ho) h1;rw[BZ]at e2;refine Tn (w':=w') hg ?_ (λe=>hR.elim (λh=>by rw[h]at e;cases e) (λh=>h _ O)) (h _ O Y e2);unfold Mo at hs;obtain⟨i,hi,J⟩:=Bp.1 hs;have z:(storeCells ⟨b,o,none⟩ vs).run P w=.ok () w':=e1;simp [execOp,ha,hx,Instr.storeAt,Instr.sureAddr,storeVar,sizeOf,typeInfo,hi,J,hv,z]
def RY (P:Program)(T:TypeId):Option (List (Nat×Nat)):=match P.underlying T with
 | some (.struct fs)=>fs.toList.mapM λf=>(P.info? f.type).map λi=>(f.offset,i.size)
 | _=>none
def Hm (pl:Nat->Option (Nat×Nat))(cs:List Value):List (Nat×Value)->Option (List Value)
 | []=>some cs
 | (i,v) :: r=>match pl i with
  | none=>none
  | some (off,size)=>if v.cells.size=size/\off+v.cells.size<=cs.length then Hm pl (Gr cs off v.cells.toList) r else none
theorem Xpl (off:Nat):∀(vs:List Value) (k:Nat) (cs:List Value),((vs.zipIdx k).foldl (λ(cs:Array Value) x=>cs.setIfInBounds (off+x.2) x.1) ⟨cs⟩)=⟨Gr cs (off+k) vs⟩:=by
 intro vs
 induction vs with
 | nil=>intro k cs;rfl
 | cons v r ih=>
  intro k cs;simp only [List.zipIdx_cons,BS,Gr];have e:(⟨cs⟩:Array Value).setIfInBounds (off+k) v=⟨cs.set (off+k) v⟩:=by simp
  rw[e,ih (k+1)];rfl
theorem Sv : ∀(vs:List Value) (o:Nat) (cs:List Value),(Gr cs o vs).length=cs.length:=by
 intro vs
 induction vs with
 | nil=>intro o cs;rfl
 | cons v r ih=>intro o cs;simp [Gr,ih]
theorem T5 (pl:Nat->Option (Nat×Nat)):∀(ps:List (Nat×Value)) (zs cs:List Value),Hm pl zs ps=some cs->Instr.fill pl ⟨zs⟩ ps=some ⟨cs⟩:=by
 intro ps
 induction ps with
 | nil=>intro zs cs h;simp [Hm]at h;simp [Instr.fill,h]
 | cons p r ih=>
  intro zs cs h;obtain⟨i,v⟩:=p;simp only [Hm]at h
  cases hp:pl i with
  | none=>rw[hp]at h;cases h
  | some os=>
   obtain⟨off,size⟩:=os;rw[hp]at h;simp only []at h;split at h
   ·rename_i hc;have J:¬ ((decide (v.cells.size≠size) || decide (off+v.cells.size > (⟨zs⟩:Array Value).size))=true):=by
     have:(⟨zs⟩:Array Value).size=zs.length:=rfl;rw[this];simp;omega
    have e:(v.cells.zipIdx.foldl (λ(cs:Array Value) (x:Value×Nat)=>cs.setIfInBounds (off+x.2) x.1) ⟨zs⟩)=⟨Gr zs off v.cells.toList⟩:=by
     rw[<-Et];have:=Xpl off v.cells.toList 0 zs;simpa using this
    simp only [Instr.fill,hp];rw[if_neg J];have z:=ih _ _ h;rw[<-e]at z;exact z
   ·cases h
def Lg (E:FE):List (Nat×Operand)->List (Nat×Value)->Prop
 | [],[]=>True
 | (i,x) :: r,(j,v) :: s=>i=j/\ev E x=v/\Lg E r s
 | _,_=>False
theorem Lg.map {E:FE} : ∀ {ps:List (Nat×Operand)} {pv:List (Nat×Value)},Lg E ps pv->ps.map (λp=>(p.1,ev E p.2))=pv
 | [],[],_=>rfl
 | [],_ :: _,h=>h.elim
 | _ :: _,[],h=>h.elim
 | (i,x) :: r,(j,v) :: s,h=>by
  obtain⟨h1,h2,h3⟩:=h;simp [h1,h2,Lg.map h3]
theorem LI {ps:List (Nat×Operand)}{zs cs:List Value}{pl:List (Nat×Nat)}{pv:List (Nat×Value)}(hz:KW P T=some zs)(hp:RY P T=some pl)(hv:Lg E ps pv)(hf:Hm (λi=>pl[i]?) zs pv=some cs):
  PV P ⟨dd,.build T ps.toArray,ty,pos,af,g⟩ E (.agg ⟨cs⟩):=λw=>by
 obtain⟨z,Y,hc⟩:=OR (P:=P) (w:=w) hz;have hm:=Lg.map hv;unfold RY at hp
 cases hu:P.underlying T with
 | none=>rw[hu]at hp;cases hp
 | some u=>
  rw[hu]at hp
  cases u<;>simp only []at hp<;>try cases hp
  rename_i fs;have O:∀(l:List Field) (pl:List (Nat×Nat)),(l.mapM λf=>(P.info? f.type).map λi=>(f.offset,i.size))=some pl->(l.mapM (λf=>(B5 f.offset <$> sizeOf f.type:Sem (Nat×Nat)))).run P w=.ok pl w:=by
   intro l
   induction l with
   | nil=>intro pl h;simp at h;subst h;simp
   | cons f r ih=>
    intro pl h;simp only [DG,Option.bind_eq_bind,Di,Option.pure_def,Al.injEq]at h;obtain⟨x,hx,Z,ha,rfl⟩:=h;obtain⟨i,hi,rfl⟩:=Bp.1 hx;have J:=ih Z ha;rw[DG,Sem.run_bind];have e1:(B5 f.offset <$> sizeOf f.type:Sem (Nat×Nat)).run P w=.ok (f.offset,i.size) w:=by simp [sizeOf,typeInfo,hi]
    rw[e1,Result.andThen_ok,Sem.run_bind,J];rfl
  have h1:(fs.mapM (λf=>(B5 f.offset <$> sizeOf f.type:Sem (Nat×Nat)))).run P w=.ok pl.toArray w:=by
   rw[Array.mapM_eq_mapM_toList];simp [O _ _ hp]
  have h2:=T5 (λi=>pl[i]?) pv zs cs hf;have e:(Array.map (λ(p:Nat×Operand)=>(p.1,ev E p.2)) ps.toArray).toList=pv:=by simpa using hm
  simp [execOp,Instr.build,Y,hc,underlying,hu,h1,hm,h2]
def Hj (P:Program)(f:FuncId):Bool:=match P.funcs[f]? with
 | some fn => !(fn.name == "runtime.NumGoroutine") && fn.body.isSome
 | none=>false
variable {ats:Array TypeId}{az:List Operand}
theorem T6 {f:Nat}{R1:Ending->World->Prop}(hg:FT ds E g=true)(hf:Hj P f=true)(ha:az.map (ev E)=vs)(hc:Calls P f vs.toArray w R1)(h:∀e w1,R1 e w1->∃v,e=.returned v/\(anc=false->R w w1)/\Dw P n ds R r K (FR E d v) w1):
  Dw P n ds R ((⟨some d,.call { callee:=.value (.func f),args:=az.toArray,argTypes:=ats },ty,pos,af,g⟩,.x,anc) :: r) K E w:=by
 refine Ob hg λok=>?_;unfold Hj at hf
 cases hp:P.funcs[f]? with
 | none=>rw[hp]at hf;simp at hf
 | some fn=>
  rw[hp]at hf;simp only [Aq,BI]at hf;obtain⟨h1,h2⟩:=hf;have h3:fn.body≠none:=by cases hb:fn.body<;>simp [hb]at h2 ⊢
  have h1' : fn.name ≠ "runtime.NumGoroutine" := by simpa using h1
  have hr:(execOp (ev E) ⟨some d,.call { callee:=.value (.func f),args:=az.toArray,argTypes:=ats },ty,pos,af,g⟩).run P w=.ok (.enter f vs.toArray) w:=by
   simp [execOp,resolve,ev,Deferred.ofValue,invoke,callFunc,program,Sem.run,hp,h1',h3,ha]
  unfold Oper.wp;rw[MH ok,hr];simp only [Oper.upon];refine Calls.mono hc λe w1 h1=>?_;obtain⟨v,rfl,hR,hd⟩:=h e w1 h1;exact⟨_,Jm _ _ _ _,hR,hd⟩
def Pure (w:World)(v:Value):Ending->World->Prop:=λe w'=>e=.returned v/\Fp w w'
theorem X52 {f:Nat}(hg:FT ds E g=true)(hf:Hj P f=true)(hc:Calls P f vs.toArray w (Pure w v))(ha:az.map (ev E)=vs)(hR:RX R anc)(h:∀w1,Fp w w1->Dw P n ds R r K (FR E d v) w1):
  Dw P n ds R ((⟨some d,.call { callee:=.value (.func f),args:=az.toArray,argTypes:=ats },ty,pos,af,g⟩,.x,anc) :: r) K E w:=
 T6 hg hf ha hc λe w1 ⟨he,hx⟩=>⟨v,he,hR.use hx,h w1 hx⟩
theorem TK (hg:FT ds E g=true)(hv:LV P ⟨some d,op,ty,pos,af,g⟩ E w v)(h:Dw P n ds (λa b=>a=b) r K (FR E d v) w):Dw P n ds (λa b=>a=b) ((⟨some d,op,ty,pos,af,g⟩,.l,anc) :: r) K E w:=
 Gd hg (λw' e=>e▸hv) h
variable {fn:Func}{t:Nat}
theorem X53 {R:Ending->World->Prop}(hr:fn.results=#[.tmp t])(ht:AR t n=true)(hv:E t=v)(h:R (.returned v) w):JN P fn n R .ret E w:=by
 have z:t<n:=by simpa [Bi]using ht
 refine⟨v,?_,h⟩;simp [results,hr,Hv,z,hv]
theorem X54 {s:Nat}{u:Value}{R:Ending->World->Prop}(hr:fn.results=#[.tmp t,.tmp s])(ht:AR t n=true)(hs:AR s n=true)(hv:E t=v)(hu:E s=u)(h:R (.returned (.tuple #[v,u])) w):JN P fn n R .ret E w:=by
 have J:t<n:=by simpa [Bi]using ht
 have z:s<n:=by simpa [Bi]using hs
 refine⟨.tuple #[v,u],?_,h⟩;simp [results,hr,Hv,J,hv,z,hu]
theorem Hx {R:Ending->World->Prop}(hr:fn.results=#[])(h:R (.returned (.tuple #[])) w):JN P fn n R .ret E w:=by
 refine⟨.tuple #[],?_,h⟩;simp [results,hr]
theorem NZ {cs:List Value}{R:Ending->World->Prop}(hr:fn.results=#[.cell t T])(ht:AR t n=true)(hv:E t=Fg b 0)(hT:Lp P T=some k)(hl:cs.length=k)(hc:Jt w b 0 cs)(h:R (.returned (.agg ⟨cs⟩)) w):JN P fn n R .ret E w:=by
 have z:t<n:=by simpa [Bi]using ht
 have h1:=Px (P:=P) (w:=w) (b:=b) (o:=0) cs 0 #[] (λj v J=>by rw[BZ];exact hc j v J);rw[hl]at h1;refine⟨.agg ⟨cs⟩,?_,h⟩;simp [results,hr,Hv,z,hv,asAddr,loadVar,(MP hT).1,(MP hT).2,loadCells,h1]
theorem It {s:Nat}{u:Value}{cs:List Value}{R:Ending->World->Prop}(hr:fn.results=#[.cell t T,.tmp s])(ht:AR t n=true)(hs:AR s n=true)(hv:E t=Fg b 0)(hT:Lp P T=some k)(hl:cs.length=k)(hc:Jt w b 0 cs)(hu:E s=u)(h:R (.returned (.tuple #[.agg ⟨cs⟩,u])) w):JN P fn n R .ret E w:=by
 have J:t<n:=by simpa [Bi]using ht
 have z:s<n:=by simpa [Bi]using hs
 have h1:=Px (P:=P) (w:=w) (b:=b) (o:=0) cs 0 #[] (λj v O=>by rw[BZ];exact hc j v O);rw[hl]at h1;refine⟨.tuple #[.agg ⟨cs⟩,u],?_,h⟩;simp [results,hr,Hv,J,z,hv,hu,asAddr,loadVar,(MP hT).1,(MP hT).2,loadCells,h1]
theorem HV {R:Ending->World->Prop}(h:JN P fn n R .ret E w):JN P fn n R .normal E w:=h
variable {Q:Exit->FE->World->Prop}{y:Code}
theorem GK {x:Code}{G:Type}(sl:G->List (Nat×Value))(F:G->World->Prop)(hx:W P n x (Ih (λE w=>∃g,holds (sl g) E/\F g w) Q) E w)(hy:∀(X:FE) (g:G) (w:World),F g w->W P n y Q (MC (sl g) X) w):W P n (.seq x y) Q E w:=by
 refine TF λK z=>X3y hx ?_;intro e E w h
 cases e<;>first|exact h|skip
 obtain⟨g,O,J⟩:=h;refine z _ _ ?_;have:=hy E g w J;rwa [RQ O]at this
theorem GD {c:Operand}{x:Code}(hc:ev E c=.bool true)(h:W P n x Q E w):W P n (.cond c x y) Q E w:=Oi hc (λ_=>h) (λh=>by cases h)
theorem GL {c:Operand}{x:Code}(hc:ev E c=.bool false)(h:W P n y Q E w):W P n (.cond c x y) Q E w:=Oi hc (λh=>by cases h) (λ_=>h)
end
structure Own {α:Type}(enc:α->List Value)(sz T:Nat)(B:Nat)(w:World)(v:Value)(l:List α):Prop where
 row:w.ownsRow B T sz v l.length (l.flatMap enc)
section
variable {α:Type}{enc:α->List Value}{sz T B:Nat}{w w':World}{v:Value}{l:List α}
theorem Own.nil : Own enc sz T B w (.slice none 0 0) []:=⟨World.ownsRow_nil w B T sz⟩
theorem Own.lt (h:Own enc sz T B w v l):∀k,v.ownBlock=some k->B<=k/\k<w.heap.size:=h.row.lt
theorem Own.mod {S:Nat->Prop}(h:Own enc sz T B w v l)(m:Mod S w w')(hS:∀k,v.ownBlock=some k->¬ S k):Own enc sz T B w' v l:=by
 obtain⟨h1,h2⟩:=h.row;refine⟨h1,?_⟩;rcases h2 with h2|⟨g,cap,cur,hv,hg,hh,r⟩
 ·exact Or.inl h2
 ·have hb:g<w.heap.size:=(h.lt g (by rw[hv];rfl)).2;exact Or.inr ⟨g,cap,cur,hv,hg,by rw[m.block g hb (hS g (by rw[hv];rfl))];exact hh,r⟩
theorem Own.ext (h:Own enc sz T B w v l)(m:Fp w w'):Own enc sz T B w' v l:=h.mod m (λ_ _ h=>h)
theorem Own.mono {B':Nat}(h:Own enc sz T B w v l)(hB:B'<=B):Own enc sz T B' w v l:=by
 obtain⟨h1,h2⟩:=h.row;refine⟨h1,?_⟩;rcases h2 with h2|⟨g,cap,cur,hv,hg,r⟩
 ·exact Or.inl h2
 ·exact Or.inr ⟨g,cap,cur,hv,Ae hB hg,r⟩
theorem Own.sl (h:Own enc sz T B w v l):Fv v l.length:=by
 obtain⟨_,h2⟩:=h.row;rcases h2 with⟨h2,h3⟩|⟨g,cap,cur,hv,hg,hh,hn,_⟩
 ·exact .inl ⟨h2,h3⟩
 ·exact .inr (.inl ⟨g,0,cap,hv,hn⟩)
theorem PT (henc:∀x,(enc x).length=sz):∀(l:List α) (i:Nat) (x:α),l[i]?=some x->∀j u,(enc x)[j]?=some u->(l.flatMap enc)[i*sz+j]?=some u:=by
 intro l
 induction l with
 | nil=>intro i x h;simp at h
 | cons y r ih=>
  intro i x h j u z;rw[AF]
  cases i with
  | zero=>
   simp at h;subst h;rw[Cw,A0,Bu]
   ·exact z
   ·exact(Ap.1 z).1
  | succ i=>
   have h':r[i]?=some x:=by simpa using h
   rw[BJ (by rw[henc,Bd];omega),henc];rw[show(i+1)*sz+j-sz=i*sz+j by rw[Bd];omega];exact ih i x h' j u z
theorem Own.arr (henc:∀x,(enc x).length=sz)(h:Own enc sz T B w v l):Fs enc sz w v l:=by
 refine⟨by rw[Aw];exact h.sl,λi cs hi=>?_⟩;rw[AG]at hi
 cases hx:l[i]? with
 | none=>rw[hx]at hi;cases hi
 | some x=>
  rw[hx]at hi;simp only [Cn,Al.injEq]at hi;subst hi;refine⟨henc x,λj u O=>?_⟩;obtain⟨_,h2⟩:=h.row;rcases h2 with⟨rfl,h3⟩|⟨g,cap,cur,rfl,hg,hh,hn,_⟩
  ·have:=Az h3;subst this;simp at hx
  ·have z:=h.row.cells (g:=g) rfl (i*sz+j) u (PT henc l i x hx j u O);have J:(⟨g,0,none⟩:Addr).add (i*sz+j)=⟨g,0+i*sz+j,none⟩:=by
    unfold Addr.add;split
    ·rename_i e;have h0:i*sz=0/\j=0:=by omega
     rw[h0.1,h0.2]
    ·simp [BR]
   rw[J]at z;simpa [base]using z
end
theorem Fv.one {v:Value}(h:Fv v n):v.oneCell'=true:=by
 rcases h with⟨rfl,_⟩|⟨b,o,c,rfl,_⟩|⟨_,a,c,rfl⟩<;>rfl
theorem Fv.cells {v:Value}(h:Fv v n):v.cells=⟨[v]⟩:=by
 rcases h with⟨rfl,_⟩|⟨b,o,c,rfl,_⟩|⟨_,a,c,rfl⟩<;>rfl
theorem Xu5 {v:Value}(h:v.oneCell'=true):v.cells=⟨[v]⟩:=by
 cases v<;>first|rfl|cases h
variable {α:Type}{l:List α}
theorem Own.base_ge {enc:α->List Value}{sz T B:Nat}{v:Value}(h:Own enc sz T B w v l)(hl:l≠[]):B<=(base v).1/\(base v).1<w.heap.size:=by
 rcases h.sl with⟨_,hn⟩|⟨b,o,c,rfl,_⟩|⟨hn,_⟩
 ·exact absurd (Az hn) hl
 ·exact h.lt b rfl
 ·exact absurd (Az hn) hl
def Ia (D:Nat):Nat->Prop:=λk=>D<=k
theorem Far.refl (D:Nat)(w:World):Mod (Ia D) w w:=Mod.refl _ _
variable {D:Nat}
theorem Far.trans (a b c:World)(h:Mod (Ia D) a b)(k:Mod (Ia D) b c):Mod (Ia D) a c:=Mod.trans h k (λ_ h=>h) (λ_ h _=>h)
theorem Far.of_ext {b:World}(h:Fp a b):Mod (Ia D) a b:=h.mono (λ_ h _=>h.elim)
theorem RX.far {anc:Bool}: RX (Mod (Ia D)) anc:=.inr λ_ _ h=>Far.of_ext h
theorem Fo.far {T:Nat}{cs:List Value}(h:Fo w b cs T)(m:Mod (Ia w.heap.size) w w'):Fo w' b cs T:=h.mod m (λg=>by have:=h.lt;unfold Ia at g;omega)
theorem Fs.far {enc:α->List Value}{sz:Nat}{v:Value}(h:Fs enc sz w v l)(hsz:0<sz)(m:Mod (Ia w.heap.size) w w'):Fs enc sz w' v l:=h.mod m (λz g=>by
 cases l with
 | nil=>exact z rfl
 | cons x r=>have:=h.blk hsz (x:=x) rfl;unfold Ia at g;omega)
theorem Far.own {enc:α->List Value}{sz T B:Nat}{v:Value}(h:Own enc sz T B w v l)(hD:D<=B):∀w',Mod (λk=>v.ownBlock=some k) w w'->Mod (Ia D) w w':=λw' m=>m.mono (λi hi _=>by have:=(h.lt i hi).1;unfold Ia;omega)
def Mx (P:Program)(e sz by':Nat):Bool:=match P.info? e with
 | some i=>i.size == sz && i.bytes == by' && AR 0 sz && (match i.zero with|some z=>z.cells.size == sz|none=>false)
 | none=>false
theorem Pm {P:Program}{e sz by':Nat}(h:Mx P e sz by'=true):∃i z,P.info? e=some i/\i.zero=some z/\i.size=sz/\i.bytes=by'/\z.cells.size=sz/\0<sz:=by
 unfold Mx at h
 cases hi:P.info? e with
 | none=>rw[hi]at h;cases h
 | some i=>
  rw[hi]at h;simp only [Aq,beq_iff_eq]at h;obtain⟨⟨⟨h1,h2⟩,h3⟩,h4⟩:=h
  cases hz:i.zero with
  | none=>rw[hz]at h4;cases h4
  | some z=>rw[hz]at h4;exact⟨i,z,rfl,hz,h1,h2,by simpa using h4,by simpa [Bi]using h3⟩
section
variable {P:Program}{n:Nat}{ds:List (Option Tmp)}{R:World->World->Prop}{r:List (Oper×Fl×Bool)}{K:FE->World->Prop}{E:FE}{w:World}
variable {d:Nat}{op:Op}{ty:TypeId}{pos:String}{af:Array Edge}{g:Option (Nat×Bool)}{anc:Bool}{v:Value}
variable {α:Type}{l:List α}
theorem PE {enc:α->List Value}(h:∀x∈l,∀u∈enc x,u.oneCell'=true):∀u∈l.flatMap enc,u.oneCell'=true:=by
 intro u hu;obtain⟨x,J,z⟩:=List.mem_flatMap.1 hu;exact h x J u z
theorem FF {enc:α->List Value}{sz:Nat}(henc:∀x,(enc x).length=sz):∀l:List α,(l.flatMap enc).length=l.length*sz:=by
 intro l
 induction l with
 | nil=>simp
 | cons x r ih=>simp [AF,ih,henc,Bd];omega
theorem Fs.flat {enc:α->List Value}{sz:Nat}(henc:∀x,(enc x).length=sz)(h:Fs enc sz w v l):∀j u,(l.flatMap enc)[j]?=some u->w.cell? ⟨(base v).1,(base v).2+j,none⟩=some u:=by
 intro j u J
 by_cases hsz:sz=0
 ·have Z:=FF henc l;rw[hsz,Nat.mul_zero]at Z;rw[Az Z]at J;simp at J
 have z:=(Ap.1 J).1;rw[FF henc]at z;have hq:j / sz<l.length:=DH (by rw[Bv];exact z);have O:l[j / sz]?=some l[j / sz]:=Au hq;have Y:j % sz<(enc l[j / sz]).length:=by rw[henc];exact Be _ Fb
 have e:j / sz*sz+j % sz=j:=by rw[Bv];exact Eu j sz
 have h1:=PT henc l _ _ O (j % sz) (enc l[j / sz])[j % sz] (Au Y);rw[e,J]at h1;have h2:=h.row O (j % sz) _ (Au Y);rw[show(base v).2+j / sz*sz+j % sz=(base v).2+j by omega]at h2;rw[h2,h1]
variable {e t:Nat}{x:Operand}
theorem HZ {enc:α->List Value}{s:Operand}{sz by' B:Nat}{vx:Value}{lx:List α}(hg:FT ds E g=true)(ht:IH P t=some (e,sz))(hE:Mx P e sz by'=true)(henc:∀x,(enc x).length=sz)(hown:Own enc sz e B w v l)(hax:Fs enc sz w vx lx)(hs:ev E s=v)(hx:ev E x=vx)(h1:∀x∈lx,∀u∈enc x,u.oneCell'=true)(hbytes:(l.length+lx.length)*by'<=140737488355328)(hby:1<=by')(hB:B<=w.heap.size)(hR:anc=true\/∀w',Mod (λk=>v.ownBlock=some k) w w'->R w w')(h:∀v' w',Own enc sz e B w' v' (l++lx)->Mod (λk=>v.ownBlock=some k) w w'->Dw P n ds R r K (FR E d v') w'):
  Dw P n ds R ((⟨some d,.call { callee:=.builtin .append,args:=#[s,x],argTypes:=#[t,t] },ty,pos,af,g⟩,.x,anc) :: r) K E w:=by
 obtain⟨hu,_⟩:=KX ht;obtain⟨i,z,hi,hz,J,O,hh,hp⟩:=Pm hE;have hf:l.length+lx.length<=maxLen:=by
  unfold maxLen;have:(l.length+lx.length)*1<=(l.length+lx.length)*by':=CB _ hby;omega
 have Z:∀w',Mod (λk=>v.ownBlock=some k) w w'->anc=false->R w w':=λw' hm e=>hR.elim (λh=>by rw[h]at e;cases e) (λh=>h _ hm);rcases hax.sl with⟨rfl,hl0⟩|⟨b,o,c,rfl,hc⟩|⟨hl0,⟨b,o,s0⟩,c,rfl⟩
 ·-- nothing is appended
  have Y:=Az hl0;subst Y;have hl:(Builtin.append_ #[t,t] ty #[v,.slice none 0 0]).run P w=.ok v w:=by
   rcases hown.sl with⟨rfl,hn⟩|⟨b,o,c,rfl,hn⟩|⟨hn,a,c,rfl⟩
   ·simp [Builtin.append_,run_underlying hu,sizeOf,typeInfo,hi,Builtin.lenOf,Builtin.firstCells]
   ·simp [Builtin.append_,run_underlying hu,sizeOf,typeInfo,hi,Builtin.lenOf,Builtin.firstCells,hn,storeCells]
   ·simp [Builtin.append_,run_underlying hu,sizeOf,typeInfo,hi,Builtin.lenOf,Builtin.firstCells,hn,storeCells]
  refine I1 (w':=w) (v:=v) hg ?_ (Z _ (Mod.refl _ _)) (h v w (by simpa using hown) (Mod.refl _ _));simp only [execOp,resolve,invoke,builtin,Sem.run_bind,Sem.run_pure,Result.andThen_ok,Ca,Am,Bf,hs,hx,hl]
 ·obtain⟨v',w',hr,h2,h3,h4⟩:=run_append_own (P:=P) w B t ty e i z sz by' hu hi hz J O hh hp v l.length (l.flatMap enc) hown.row ⟨b,o,none⟩ lx.length c (lx.flatMap enc) (FF henc lx)
   (λj u hj=>by
    have:=Fs.flat henc hax j u hj;have ha:(⟨b,o,none⟩:Addr).add j=⟨b,o+j,none⟩:=by
     unfold Addr.add;split
     ·rename_i e;simp [e]
     ·rfl
    rw[ha];exact this) (PE h1) hf hbytes hB
  refine I1 (w':=w') (v:=v') hg ?_ (Z _ ?_) (h v' w' ⟨by rw[Ad,Bb];exact h2⟩ ?_)
  ·simp only [execOp,resolve,invoke,builtin,Sem.run_bind,Sem.run_pure,Result.andThen_ok,Ca,Am,Bf,hs,hx,hr]
  ·exact Mod.of_grown h3
  ·exact Mod.of_grown h3
 ·have Y:=Az hl0;subst Y;obtain⟨v',w',hr,h2,h3,h4⟩:=run_append_own (P:=P) w B t ty e i z sz by' hu hi hz J O hh hp v l.length (l.flatMap enc) hown.row ⟨b,o,s0⟩ 0 c [] F5 (λj u hj=>by simp at hj) (λu hu=>by cases hu) hf hbytes hB;refine I1 (w':=w') (v:=v') hg ?_ (Z _ (Mod.of_grown h3)) (h v' w' ⟨by rw[Ad,Bb];exact h2⟩ (Mod.of_grown h3));simp only [execOp,resolve,invoke,builtin,Sem.run_bind,Sem.run_pure,Result.andThen_ok,Ca,Am,Bf,hs,hx,hr]
theorem X0t (zs:List Value)(sz:Nat)(hz:zs.length=sz)(hp:0<sz):∀(m j:Nat),j<m*sz->((An m zs).flatten)[j]?=zs[j % sz]?:=by
 intro m
 induction m with
 | zero=>intro j h;omega
 | succ m ih=>
  intro j h;rw[CR,Cx]
  by_cases hj:j<sz
  ·rw[Bu Fb,Br hj]
  ·rw[BJ Fb,hz,ih (j-sz) (by rw[Bd]at h;omega)];rw[show j % sz=(j-sz) % sz from(Nat.mod_eq_sub_mod Fb)]
theorem Tl (zs:List Value)(sz m:Nat)(hz:zs.length=sz)(hp:0<sz):(Ev (m*sz)).map (λx=>(⟨zs⟩:Array Value)[x % (⟨zs⟩:Array Value).size]!)=⟨(An m zs).flatten⟩:=by
 apply Es
 apply BB
 intro j
 by_cases hj:j<m*sz
 ·rw[X0t zs sz hz hp m j hj];have z:j % sz<zs.length:=by rw[hz];exact Be _ hp
  have hs:(⟨zs⟩:Array Value).size=sz:=hz;simp [hj,hs];rw[Au z];rfl
 ·have h2:((An m zs).flatten).length=m*sz:=by simp [hz]
  rw[Bh (by simp;omega),Bh (by rw[h2];omega)]
variable {m:Nat}{zs:List Value}
theorem Io {sz:Nat}{ps:List (Nat×Operand)}{cs:List Value}{pv:List (Nat×Value)}(hg:FT ds E g=true)(ht:IH P t=some (e,sz))(hm:AR 0 (m*sz)=true/\B3 (m*sz) 16777216=true)(hz:KW P e=some zs)(hzs:AM zs.length sz=true)(hv:Lg E ps pv)(hf:Hm (λi=>some (i*sz,sz)) ((An m zs).flatten) pv=some cs)(hR:RX R anc)(h:∀b w1,b=w.heap.size->Fp w w1->Fo w1 b cs e->Dw P n ds R r K (FR E d (.slice (some ⟨b,0,none⟩) m m)) w1):
  Dw P n ds R ((⟨some d,.buildSlice t m ps.toArray,ty,pos,af,g⟩,.x,anc) :: r) K E w:=by
 obtain⟨hu,i,hi,hs⟩:=KX ht;have J:=Lg.map hv;have h0:0<m*sz:=by simpa [Bi]using hm.1
 have hm':m*sz<=16777216:=by simpa [C7]using hm.2
 have O:zs.length=sz:=C6 hzs;have ha:0<sz:=Nat.pos_of_ne_zero (λe=>by rw[e]at h0;omega);obtain⟨z,hc,Y⟩:=OR (P:=P) (w:=w) hz;refine I1 (v:=.slice (some ⟨w.heap.size,0,none⟩) m m) (w':=w.alloc (.cells ⟨cs⟩ e)) hg ?_ (hR.use (Fp.alloc _ _)) (h _ _ rfl (Fp.alloc _ _) ?_)
 ·have h2:=T5 _ pv _ cs hf;have hb:¬ (m*sz > 2 ^ 24):=by omega
  have Z:¬ (m*sz=0):=by omega
  have e1:(Instr.buildSlice t m ⟨pv⟩).run P w=.ok (.slice (some ⟨w.heap.size,0,none⟩) m m) (w.alloc (.cells ⟨cs⟩ e)):=by
   unfold Instr.buildSlice;simp only [underlying,Sem.run_bind,run_program,Result.andThen_ok,hu,Sem.run_pure,sizeOf,typeInfo,hi,hs];rw[if_neg hb,if_neg Z];simp only [Sem.run_bind,Sem.run_pure,Result.andThen_ok,hc,Y];rw[Tl zs sz m O ha,h2];simp [newRow]
  have e2:(ps.toArray.map λ(i,x)=>(i,ev E x))=⟨pv⟩:=by
   rw[<-J];simp
  simp only [execOp];rw[e2];simp only [Sem.run_bind,e1,Result.andThen_ok,Sem.run_pure]
 ·show(w.heap.push _)[w.heap.size]?=_;simp
theorem IY {sz:Nat}(hg:FT ds E g=true)(ht:IH P t=some (e,sz))(hR:RX R anc)(h:∀b w1,b=w.heap.size->Fp w w1->Fo w1 b [] e->Dw P n ds R r K (FR E d (.slice (some ⟨b,0,none⟩) 0 0)) w1):
  Dw P n ds R ((⟨some d,.buildSlice t 0 #[],ty,pos,af,g⟩,.x,anc) :: r) K E w:=by
 obtain⟨hu,i,hi,hs⟩:=KX ht;refine I1 (v:=.slice (some ⟨w.heap.size,0,none⟩) 0 0) (w':=w.alloc (.cells ⟨[]⟩ e)) hg ?_ (hR.use (Fp.alloc _ _)) (h _ _ rfl (Fp.alloc _ _) ?_)
 ·have z:(Array.map (λx=>(default:Value)) (Ev 0))=⟨[]⟩:=by simp
  simp [execOp,Instr.buildSlice,underlying,hu,sizeOf,typeInfo,hi,Instr.fill,newRow,z]
 ·show(w.heap.push _)[w.heap.size]?=_;simp
variable {y:Operand}
theorem Mk {sz by':Nat}(hg:FT ds E g=true)(ht:IH P t=some (e,sz))(hE:Mx P e sz by'=true)(hz:KW P e=some zs)(hx:ev E x=I m)(hy:ev E y=I m)(hb:by'*m<=281474976710656)(hb1:m<=4611686018427387904)(hR:RX R anc)(h:∀b w1,b=w.heap.size->Fp w w1->Fo w1 b ((An m zs).flatten) e->Dw P n ds R r K (FR E d (.slice (some ⟨b,0,none⟩) m m)) w1):
  Dw P n ds R ((⟨some d,.makeSlice t x y,ty,pos,af,g⟩,.x,anc) :: r) K E w:=by
 obtain⟨hu,_⟩:=KX ht;obtain⟨i,z,hi,Z,J,hh,Y,hc⟩:=Pm hE;have O:z.cells=⟨zs⟩:=by
  unfold KW at hz;simp only [hi,Cm,Z,Cn,Al.injEq]at hz;rw[<-hz]
 have ha:zs.length=sz:=by rw[O]at Y;exact Y
 have hf:(i.bytes:Int)*(m:Int)<=281474976710656:=by
  rw[hh];have h:((by'*m:Nat):Int)<=281474976710656:=by omega
  rwa [DK]at h
 have hr:=run_make (P:=P) w t e i z hu hi Z .i64 .i64 m m Fb (Int.le_refl _) hf Fb;simp only [BQ]at hr;have e0:madeCells z.cells (m*i.size)=⟨(An m zs).flatten⟩:=by
  rw[O,J,<-Tl zs sz m ha hc];rfl
 rw[e0]at hr;refine I1 (v:=.slice (some ⟨w.heap.size,0,none⟩) m m) (w':=w.alloc (.cells ⟨(An m zs).flatten⟩ e)) hg ?_ (hR.use (Fp.alloc _ _)) (h _ _ rfl (Fp.alloc _ _) ?_)
 ·simp [execOp,hx,hy,hr]
 ·show(w.heap.push _)[w.heap.size]?=_;simp
theorem Fo.own {enc:α->List Value}{sz T b B:Nat}{cs:List Value}(h:Fo w b cs T)(hB:B<=b)(hcs:cs=l.flatMap enc)(henc:∀x,(enc x).length=sz)(hm:m=l.length)(hl:l.length<=4611686018427387904):Own enc sz T B w (.slice (some ⟨b,0,none⟩) m m) l:=by
 subst hcs;subst hm;refine⟨FF henc l,.inr ⟨b,l.length,⟨l.flatMap enc⟩,rfl,hB,h,Aa _,by unfold maxLen;omega,FF henc l,?_⟩⟩;show(l.flatMap enc).take (l.length*sz)=_;rw[<-FF henc l,AV]
theorem Fo.arr {enc:α->List Value}{sz T b:Nat}{cs:List Value}(h:Fo w b cs T)(hcs:cs=l.flatMap enc)(henc:∀x,(enc x).length=sz)(hm:m=l.length)(hl:l.length<=4611686018427387904):Fs enc sz w (.slice (some ⟨b,0,none⟩) m m) l:=
 (h.own (Ab _) hcs henc hm hl).arr henc
theorem JV {a:Operand}{T T' b o:Nat}{cs:List Value}(hg:FT ds E g=true)(ha:ev E a=Fg b o)(hx:ev E x=v)(hv:v.oneCell'=true)(hs:Mo P T=some 1)(hb:Fo w b cs T')(ho:o<cs.length)(hR:anc=true\/∀w',Mod (Fu b) w w'->R w w')(h:∀w1,Mod (Fu b) w w1->w1.heap.size=w.heap.size->Fo w1 b (cs.set o v) T'->Dw P n ds R r K E w1):Dw P n ds R ((⟨none,.store T a x,ty,pos,af,g⟩,.x,anc) :: r) K E w:=
 OA (vs:=[v]) hg ha hx (Xu5 hv) hs hb (by simp;omega) (by intro u hu;simp at hu;rw[hu];exact hv) hR h
def Hb (k:Nat)(v:Value)(lo hi:Nat):Value:=match v with
 | .slice (some a) _ c=>.slice (some (if c=lo then a else a.add (lo*k))) (hi-lo) (c-lo)
 | _=>.slice none 0 0
variable {dd:Option Tmp}
theorem H8 {lo hi:Option Operand}{T a b k:Nat}(hT:IH P T=some (e,k))(hv:Fv v m)(hx:ev E x=v)(hlo:MB E 0 lo a)(hhi:MB E m hi b)(h1:a<=b)(h2:b<=m):PV P ⟨dd,.slice T x lo hi none,ty,pos,af,g⟩ E (Hb k v a b):=λw=>by
 obtain⟨hu,i,Y,hs⟩:=KX hT;rcases hv with⟨rfl,rfl⟩|⟨bb,o,c,rfl,hc⟩|⟨rfl,ad,c,rfl⟩
 ·have O:b=0:=by omega
  have Z:a=0:=by omega
  subst O;subst Z;have z:(0:Int)<=((0:Nat):Int)/\((0:Nat):Int)<=((0:Nat):Int):=by omega
  have key:(Instr.sliceBounds true 0 0 (lo.map (ev E)) (hi.map (ev E)) none).run P w=.ok (0,0,0) w:=by
   unfold MB at hlo hhi
   cases lo<;>cases hi<;>simp only []at hlo hhi<;>simp only [Dj,Instr.sliceBounds,Sem.run_bind,Sem.run_pure,Result.andThen_ok, *] <;>
    simp only [MV z,Result.andThen_ok,BQ]<;>rfl
  have e1:(Instr.sliceAt T (.slice none 0 0) (lo.map (ev E)) (hi.map (ev E)) none).run P w=.ok (Hb k (.slice none 0 0) 0 0) w:=by
   simp [Instr.sliceAt,Instr.slice,underlying,hu,key,sizeOf,typeInfo,Y,Hb]
  simp only [execOp,hx,Dk,Sem.run_bind,e1];rfl
 ·have z:(0:Int)<=(b:Int)/\(b:Int)<=(c:Int):=by omega
  have J:(0:Int)<=(a:Int)/\(a:Int)<=(b:Int):=by omega
  have key:(Instr.sliceBounds true m c (lo.map (ev E)) (hi.map (ev E)) none).run P w=.ok (a,b,c) w:=by
   unfold MB at hlo hhi
   cases lo<;>cases hi<;>simp only []at hlo hhi<;>subst_vars<;>simp only [Dj,Instr.sliceBounds,Sem.run_bind,Sem.run_pure,Result.andThen_ok, *] <;>
    simp only [MV z,MV J,Result.andThen_ok,BQ]<;>rfl
  have ha:∀q,(⟨bb,o,none⟩:Addr).add q=⟨bb,o+q,none⟩:=λq=>by
   unfold Addr.add;split
   ·rename_i e;simp [e]
   ·rfl
  have e1:(Instr.sliceAt T (.slice (some ⟨bb,o,none⟩) m c) (lo.map (ev E)) (hi.map (ev E)) none).run P w=.ok (Hb k (.slice (some ⟨bb,o,none⟩) m c) a b) w:=by
   simp [Instr.sliceAt,Instr.slice,underlying,hu,key,sizeOf,typeInfo,Y,hs,Hb,ha];split<;>rfl
  simp only [execOp,hx,Dk,Sem.run_bind,e1];rfl
 ·have O:b=0:=by omega
  have Z:a=0:=by omega
  subst O;subst Z;have z:(0:Int)<=((0:Nat):Int)/\((0:Nat):Int)<=(c:Int):=by omega
  have J:(0:Int)<=((0:Nat):Int)/\((0:Nat):Int)<=((0:Nat):Int):=by omega
  have key:(Instr.sliceBounds true 0 c (lo.map (ev E)) (hi.map (ev E)) none).run P w=.ok (0,0,c) w:=by
   unfold MB at hlo hhi
   cases lo<;>cases hi<;>simp only []at hlo hhi<;>simp only [Dj,Instr.sliceBounds,Sem.run_bind,Sem.run_pure,Result.andThen_ok, *] <;>
    simp only [MV z,MV J,Result.andThen_ok,BQ]<;>rfl
  have e1:(Instr.sliceAt T (.slice (some ad) 0 c) (lo.map (ev E)) (hi.map (ev E)) none).run P w=.ok (Hb k (.slice (some ad) 0 c) 0 0) w:=by
   simp [Instr.sliceAt,Instr.slice,underlying,hu,key,sizeOf,typeInfo,Y,hs,Hb];split<;>rfl
  simp only [execOp,hx,Dk,Sem.run_bind,e1];rfl
theorem Fs.slice {enc:α->List Value}{k lo hi:Nat}(h:Fs enc k w v l)(h1:lo<=hi)(h2:hi<=l.length):Fs enc k w (Hb k v lo hi) ((l.take hi).drop lo):=by
 have J:∀b o q,(⟨b,o,none⟩:Addr).add q=⟨b,o+q,none⟩:=λb o q=>by
  unfold Addr.add;split
  ·rename_i e;simp [e]
  ·rfl
 rcases h.sl with⟨rfl,hl⟩|⟨b,o,c,rfl,hc⟩|⟨hl,a,c,rfl⟩
 ·have:=Az hl;subst this;simp [Hb];exact Fs.nil
 rotate_left
 ·have:=Az hl;subst this;have h3:hi=0:=by simpa using h2
  have h4:lo=0:=by omega
  subst h3;subst h4;exact⟨.inr (.inr ⟨rfl,_,_,rfl⟩),λi cs z=>by simp at z⟩
 ·refine⟨.inr (.inl ⟨b,(if c=lo then o else o+lo*k),c-lo,?_,?_⟩),λi cs z=>?_⟩
  ·simp only [Hb,Aw,List.length_drop,A7,J];rw[show min hi l.length=hi by omega]
   congr 2
   split<;>rfl
  ·simp;omega
  ·rw[AG,B4,Ba]at z;split at z
   ·rename_i hlt;have h3:=h.at' (lo+i) cs (by rw[AG];exact z);refine⟨h3.1,?_⟩;have O:¬ c=lo:=by omega
    have hb:base (Hb k (.slice (some ⟨b,o,none⟩) l.length c) lo hi)=(b,o+lo*k):=by simp [Hb,O,base,J]
    rw[hb];have h4:=h3.2;simp only [base]at h4 ⊢;rw[show o+lo*k+i*k=o+(lo+i)*k by rw[Cy];omega];exact h4
   ·cases z
@[reducible] def Fq (c:UInt8):List Value:=[.int .u8 c.toNat]
@[reducible] def G8 (s:Fh):List Value:=[S s]
@[reducible] def encI (n:Int):List Value:=[I n]
def Pn (P:Program)(T:TypeId):Bool:=match P.underlying T with
 | some (.slice e)=>(match P.underlying e with|some (.int .u8)=>true|_=>false)
 | _=>false
theorem Xkm (f:Value->ByteArray->Sem (ForInStep ByteArray))(hf:∀(c:UInt8) (s:ByteArray),(f (.int .u8 c.toNat) s).run P w=.ok (.yield (s.push c)) w) :
  ∀(l:Fh) (s:ByteArray),(forIn (l.map λc=>Value.int .u8 c.toNat) s f).run P w=.ok ⟨⟨s.data.toList++l⟩⟩ w:=by
 intro l
 induction l with
 | nil=>intro s;simp
 | cons c r ih=>
  intro s;simp only [Am,List.forIn_cons,Sem.run_bind,hf,Result.andThen_ok];rw[ih]
  congr 1
  simp [ByteArray.push]
theorem Nd {T U:Nat}{l:Fh}(hT:Pn P T=true)(hU:Kn P U=true)(ha:Fs Fq 1 w v l)(hx:ev E x=v):LV P ⟨dd,.convert T U x,ty,pos,af,g⟩ E w (S l):=by
 have O:P.underlying U=some .string:=by
  unfold Kn at hU;split at hU<;>first|assumption|cases hU
 obtain⟨e,hTe,hee⟩:∃e,P.underlying T=some (.slice e)/\P.underlying e=some (.int .u8):=by
  unfold Pn at hT;split at hT
  ·rename_i e he;split at hT
   ·rename_i h;exact⟨e,he,h⟩
   ·cases hT
  ·cases hT
 have key:(Conv.bytesToString v).run P w=.ok (S l) w:=by
  rcases ha.sl with⟨rfl,hl⟩|⟨b,o,c,rfl,Y⟩|⟨hl,a,c,rfl⟩
  ·have:=Az hl;subst this;simp [Conv.bytesToString];rfl
  rotate_left
  ·have:=Az hl;subst this;simp [Conv.bytesToString,loadCells,loadCellsFrom];rfl
  ·have z:=Px (P:=P) (w:=w) (b:=b) (o:=o) (l.map λc=>Value.int .u8 c.toNat) 0 #[] (λj u J=>by
    rw[AG]at J
    cases hx:l[j]? with
    | none=>rw[hx]at J;cases J
    | some y=>
     rw[hx]at J;have:=ha.row hx 0 _ rfl;simp only [base,DL,BZ]at this ⊢;simp only [Cn,Al.injEq]at J;rw[this,J])
   rw[Aw]at z;unfold Conv.bytesToString;simp only [loadCells,Sem.run_bind,z,Result.andThen_ok];rw[<-Array.forIn_toList];simp only [Array.toList_append,AB];have e0:(#[]:Array Value).toList++(List.map (λc:UInt8=>Value.int .u8 c.toNat) l).toArray.toList=l.map λc=>Value.int .u8 c.toNat:=by simp
   rw[Xkm _ (λc s=>by simp)];rfl
 unfold LV;have Y:(convert T U v).run P w=.ok (S l) w:=by
  rcases ha.sl with⟨rfl,_⟩|⟨b,o,c,rfl,_⟩|⟨_,a,c,rfl⟩<;>simp [convert,underlying,hTe,O,hee,key]
 simp only [execOp,hx,Sem.run_bind,Y,Result.andThen_ok,Sem.run_pure]
def X9n (P:Program)(T:TypeId):Bool:=match P.underlying T with|some .string|some .bool|some (.int _)=>true|_=>false
def PC (P:Program)(T:TypeId):Option (List TypeId):=match P.underlying T with
 | some (.struct fs)=>if P.stoodInHeld T || P.eqGuardType P.depth T then none else
  if (fs.toList.zipIdx.all λ (f, i) => f.name != "_" && f.offset == i && X9n P f.type) then some (fs.toList.map (·.type)) else none
 | _=>none
def Lm : List Value->List Value->Bool
 | .string a :: r,.string b :: s=>a.toList == b.toList && Lm r s
 | .bool a :: r,.bool b :: s=>a == b && Lm r s
 | .int _ a :: r,.int _ b :: s=>a == b && Lm r s
 | _,_=>true
def Mi (P:Program):List TypeId->List Value->Prop
 | [],[]=>True
 | t :: r,.string _ :: s=>P.underlying t=some .string/\Mi P r s
 | t :: r,.bool _ :: s=>P.underlying t=some .bool/\Mi P r s
 | t :: r,.int k _ :: s=>P.underlying t=some (.int k)/\Mi P r s
 | _,_=>False
theorem Xtr (d : Nat) (cs ds : List Value) : ∀ (fs : List Field) (k : Nat), (∀ j f, fs[j]? = some f → (f.name ≠ "_" ∧ f.offset = k + j)) → Mi P (fs.map (·.type)) (cs.drop k) → Mi P (fs.map (·.type)) (ds.drop k) →
  (Op.eqFields (d+1) ⟨cs⟩ ⟨ds⟩ fs).run P w=.ok (Lm (cs.drop k) (ds.drop k)) w:=by
 intro fs
 induction fs with
 | nil=>
  intro k _ h1 h2
  cases hc:cs.drop k with
  | nil=>cases hd:ds.drop k with
   | nil=>simp [Op.eqFields,Lm]
   | cons y s=>rw[hd]at h2;cases y<;>exact h2.elim
  | cons x r=>rw[hc]at h1;cases x<;>exact h1.elim
 | cons f fs ih=>
  intro k hf h1 h2;obtain⟨hn,ho⟩:=hf 0 f rfl;rw[BZ]at ho;have hf' : ∀ j f, fs[j]? = some f → (f.name ≠ "_" ∧ f.offset = k + 1 + j) := λ j f hj => by
   have:=hf (j+1) f (by simpa using hj);exact⟨this.1,by omega⟩
  cases hc:cs.drop k with
  | nil=>rw[hc]at h1;exact h1.elim
  | cons x rx=>
   cases hd:ds.drop k with
   | nil=>rw[hd]at h2;exact h2.elim
   | cons y ry=>
    rw[hc]at h1;rw[hd]at h2;have hcx:cs[k]?=some x:=by
     have:=congrArg (λl=>l[0]?) hc;simpa using this
    have hdy:ds[k]?=some y:=by
     have:=congrArg (λl=>l[0]?) hd;simpa using this
    have hc1:cs.drop (k+1)=rx:=by rw[<-DM,hc];rfl
    have hd1:ds.drop (k+1)=ry:=by rw[<-DM,hd];rfl
    have part_of:∀(l:List Value) (z:Value),l[k]?=some z->L6 P f.type=true->(part f.type ⟨l⟩ f.offset).run P w=.ok z w:=λl z hz h1=>by
     simp [part,Rh h1,ho,hz]
    unfold Op.eqFields;rw[if_pos hn]
    cases x<;>first|exact h1.elim|skip
    all_goals
     cases y<;>first|exact h2.elim|(exfalso;obtain⟨hk,_⟩:=h1;obtain⟨hk2,_⟩:=h2;rw[hk]at hk2;cases hk2;done)|skip
    all_goals
     obtain⟨hk,h1'⟩:=h1;obtain⟨hk2,h2'⟩:=h2;have h1o:L6 P f.type=true:=by unfold L6;rw[hk]
     have ih':=ih (k+1) hf' (by rw[hc1];exact h1') (by rw[hd1];exact h2');rw[hc1,hd1]at ih';simp only [Sem.run_bind,part_of cs _ hcx h1o,part_of ds _ hdy h1o,Result.andThen_ok]
    ·rw[run_equalIn_bool _ _ _ _ _ hk];simp only [Result.andThen_ok,Lm];rename_i a b
     by_cases e:a=b
     ·subst e;simp [ih']
     ·simp [e]
    ·rename_i k1 a k2 b;rw[hk]at hk2;have:k1=k2:=by simpa using hk2
     subst this;rw[run_equalIn_int _ _ _ _ _ _ _ hk];simp only [Result.andThen_ok,Lm]
     by_cases e:a=b
     ·subst e;simp [ih']
     ·simp [e]
    ·rw[run_equalIn_string _ _ _ _ _ hk];simp only [Result.andThen_ok,Lm];rename_i a b
     by_cases e:a.toList=b.toList
     ·simp [e,ih']
     ·simp [e]
variable {T:TypeId}{ts:List TypeId}
theorem YZ (h:PC P T=some ts):∃fs:Array Field,P.underlying T=some (.struct fs)/\P.fieldsOf T=fs/\P.stoodInHeld T=false/\P.eqGuardType P.depth T=false/\
  (∀ (j : Nat) (f : Field), fs.toList[j]? = some f → f.name ≠ "_" ∧ f.offset = j) ∧ fs.toList.map (·.type) = ts := by
 unfold PC at h;split at h
 ·rename_i fs hu;split at h
  ·cases h
  ·rename_i hn;simp only [BH,not_or,Cb]at hn;split at h
   ·rename_i ha;refine⟨fs,hu,by simp [Program.fieldsOf,hu],hn.1,hn.2,λj f hj=>?_,by simpa using h⟩;have:=AO.1 ha (f,j) (by
     rw[List.mem_iff_getElem?];exact⟨j,by simp [List.getElem?_zipIdx,hj]⟩)
    simp only [Aq,bne_iff_ne,beq_iff_eq]at this;exact⟨this.1.1,this.1.2⟩
   ·cases h
 ·cases h
theorem X55 {cs ds:List Value}(h:PC P T=some ts)(hc:Mi P ts cs)(hd:Mi P ts ds):(Op.equalIn 10000 T (.agg ⟨cs⟩) (.agg ⟨ds⟩)).run P w=.ok (Lm cs ds) w:=by
 obtain⟨fs,hu,z,O,_,Y,J⟩:=YZ h;rw[run_equalIn_struct _ 9999 T ⟨cs⟩ ⟨ds⟩ (by rw[z];exact hu) O,z];have:=Xtr (P:=P) (w:=w) 9998 cs ds fs.toList 0 (λj f h=>by have:=Y j f h;exact⟨this.1,by omega⟩) (by rw[J];simpa using hc) (by rw[J];simpa using hd);simpa using this
variable {U:TypeId}
theorem X9o {cs dss:List Value}(h:PC P T=some ts)(hx:ev E x=.agg ⟨cs⟩)(hy:ev E y=.agg ⟨dss⟩)(hc:Mi P ts cs)(hd:Mi P ts dss):PV P ⟨dd,.binOp .neq T x y U,ty,pos,af,g⟩ E (.bool (!Lm cs dss)):=λw=>by
 obtain⟨_,_,_,_,z,_⟩:=YZ h;refine Pd _ _ _ _ _ _ _ (λw=>by rw[hx,hy];exact run_eqGuard_agg _ _ _ _ _ _ _ z) ?_;rw[hx,hy,run_neq_struct,X55 h hc hd];rfl
variable {a b:Int}{k:IntKind}
theorem N8 (hx:ev E x=.int k a)(hy:ev E y=.int k b)(ha:0<=a)(hb:0<b):PV P ⟨dd,.binOp .rem T x y U,ty,pos,af,g⟩ E (.int k (a % b)):=λw=>by
 have h0:¬ b=0:=by omega
 simp [execOp,hx,hy,eqGuard,binOp,Op.intDiv,h0,Int.tmod_eq_emod_of_nonneg ha]
theorem Qa (hx:ev E x=.int k a)(hy:ev E y=.int k b)(ha:0<=a)(hb:0<b):PV P ⟨dd,.binOp .quo T x y U,ty,pos,af,g⟩ E (.int k (k.wrap (a / b))):=λw=>by
 have h0:¬ b=0:=by omega
 simp [execOp,hx,hy,eqGuard,binOp,Op.intDiv,h0,Int.tdiv_eq_ediv_of_nonneg ha]
def Lo (op:BinOp)(k:IntKind)(a b:Int):Int:=match op with
 | .and=>k.wrap (AK k.bits a &&& AK k.bits b).toNat
 | .or=>k.wrap (AK k.bits a ||| AK k.bits b).toNat
 | .xor=>k.wrap (AK k.bits a ^^^ AK k.bits b).toNat
 | .andNot=>k.wrap (AK k.bits a &&& ~~~ AK k.bits b).toNat
 | _=>0
theorem LN {op:BinOp}(hop:op=.and\/op=.or\/op=.xor\/op=.andNot)(hx:ev E x=.int k a)(hy:ev E y=.int k b):
  PV P ⟨dd,.binOp op T x y U,ty,pos,af,g⟩ E (.int k (Lo op k a b)):=λw=>by
 rcases hop with rfl|rfl|rfl|rfl<;>simp [execOp,hx,hy,eqGuard,binOp,Op.intBits,Lo]
theorem Ol {ky:IntKind}(hx:ev E x=.int k a)(hy:ev E y=.int ky b)(hb:0<=b):PV P ⟨dd,.binOp .shr T x y U,ty,pos,af,g⟩ E (.int k (a.fdiv (2 ^ (min b.toNat k.bits)))):=λw=>by
 have h0:¬ b<0:=by omega
 simp [execOp,hx,hy,eqGuard,binOp,Op.shift,h0]
theorem Ov {ky:IntKind}(hx:ev E x=.int k a)(hy:ev E y=.int ky b)(hb:0<=b):PV P ⟨dd,.binOp .shl T x y U,ty,pos,af,g⟩ E (.int k (k.wrap (a*2 ^ (min b.toNat k.bits)))):=λw=>by
 have h0:¬ b<0:=by omega
 simp [execOp,hx,hy,eqGuard,binOp,Op.shift,h0]
theorem Sr {ts:Array TypeId}(hx:ev E x=I a)(hy:ev E y=I b):PV P ⟨dd,.call { callee:=.builtin .max,args:=#[x,y],argTypes:=ts },ty,pos,af,g⟩ E (I (max a b)):=λw=>by
 have e:(if b > a then b else a)=max a b:=by split<;>omega
 simp [execOp,resolve,invoke,builtin,Builtin.max_,Builtin.max2,hx,hy,CC,e]
theorem Xu {ts:Array TypeId}(hx:ev E x=I a)(hy:ev E y=I b):PV P ⟨dd,.call { callee:=.builtin .min,args:=#[x,y],argTypes:=ts },ty,pos,af,g⟩ E (I (min a b)):=λw=>by
 have e:(if b<a then b else a)=min a b:=by split<;>omega
 simp [execOp,resolve,invoke,builtin,Builtin.min_,Builtin.min2,hx,hy,CC,e]
def O6 : Value->Bool
 | .slice none _ _=>true
 | _=>false
theorem Xpo {v:Value}(hv:Fv v m)(h:O6 v=true):v=.slice none 0 0/\m=0:=by
 rcases hv with⟨rfl,rfl⟩|⟨b,o,c,rfl,_⟩|⟨rfl,a,c,rfl⟩
 ·exact⟨rfl,rfl⟩
 ·cases h
 ·cases h
theorem PK {T U k:Nat}(hT:IH P T=some (e,k))(hv:Fv v m)(hx:ev E x=v)(hy:ev E y=.slice none 0 0):PV P ⟨dd,.binOp .eql T x y U,ty,pos,af,g⟩ E (.bool (O6 v)):=by
 rcases hv with⟨rfl,rfl⟩|⟨b,o,c,rfl,_⟩|⟨rfl,a,c,rfl⟩
 ·exact Rv hT hx hy
 ·have:=Rv (P:=P) (d:=dd) (ty:=ty) (pos:=pos) (af:=af) (g:=g) (U:=U) hT hx hy;simpa [O6]using this
 ·have:=Rv (P:=P) (d:=dd) (ty:=ty) (pos:=pos) (af:=af) (g:=g) (U:=U) hT hx hy;simpa [O6]using this
def GX (w:World)(F:Value->World->Prop):Ending->World->Prop:=λe w'=>∃v,e=.returned v/\Fp w w'/\F v w'
theorem XD {f:Nat}{az:List Operand}{ats:Array TypeId}{vs:List Value}{F:Value->World->Prop}(hg:FT ds E g=true)(hf:Hj P f=true)(hc:Calls P f vs.toArray w (GX w F))(ha:az.map (ev E)=vs)(hR:RX R anc)
  (h:∀v w1,Fp w w1->F v w1->Dw P n ds R r K (FR E d v) w1) :
  Dw P n ds R ((⟨some d,.call { callee:=.value (.func f),args:=az.toArray,argTypes:=ats },ty,pos,af,g⟩,.x,anc) :: r) K E w:=
 T6 hg hf ha hc λe w1 ⟨v,he,hx,hF⟩=>⟨v,he,hR.use hx,h v w1 hx hF⟩
end
theorem Jt.sub {cs:List Value}(k n:Nat)(h:Jt w b o cs):Jt w b (o+k) ((cs.drop k).take n):=λi v hi=>by
 rw[Ba]at hi;split at hi
 ·rw[B4]at hi;have:=h (k+i) v hi;rw[show o+k+i=o+(k+i) by omega];exact this
 ·cases hi
theorem Jt.at0 {cs:List Value}{v:Value}(h:Jt w b o cs)(hk:cs[0]?=some v):w.cell? ⟨b,o,none⟩=some v:=h 0 v hk
theorem Va : ∀(vs done cs:List Value),vs.length=cs.length->Gr (done++cs) done.length vs=done++vs
 | [],done,[],_=>rfl
 | v :: vs,done,c :: cs,h=>by
  have h':vs.length=cs.length:=by simpa using h
  have e:(done++c :: cs).set done.length v=(done++[v])++cs:=by simp
  rw[Gr,e];have:=Va vs (done++[v]) cs h';rw[Ad]at this;rw[show done.length+1=done.length + [v].length from rfl,this];simp
theorem W7 {vs cs:List Value}(h:vs.length=cs.length):Gr cs 0 vs=vs:=Va vs [] cs h
theorem NQ (f:α->Value)(q:List α)(r:Nat)(x:α):(q.map f).set (0+r*1) (f x)=(q.set r x).map f:=by
 rw[A0,DL,List.map_set]
theorem Fo.ne {b':Nat}{cs cs':List Value}{T':TypeId}(h:Fo w b cs T)(h':Fo w b' cs' T')(hT:AM T T'=false):b≠b':=by
 rintro rfl;unfold Fo at h h';rw[h]at h';simp only [Al.injEq,Obj.cells.injEq]at h';rw[h'.2.1]at hT;simp at hT
section
variable {α β:Type}{enc:α->List Value}{enc':β->List Value}{sz sz' B B':Nat}{T T':TypeId}{w:World}{v v':Value}{l:List α}{l':List β}
theorem Own.heap (h:Own enc sz T B w v l){k:Nat}(hk:v.ownBlock=some k):∃cs,w.heap[k]?=some (.cells cs T (0,0)):=by
 obtain⟨_,h2⟩:=h.row;rcases h2 with⟨rfl,_⟩|⟨g,cap,cur,rfl,_,hg,_⟩
 ·cases hk
 ·have:g=k:=Al.inj hk;subst this;exact⟨cur,hg⟩
theorem Own.ne_blk (h:Own enc sz T B w v l){b:Nat}{cs:List Value}(hb:Fo w b cs T')(hT:AM T T'=false):v.ownBlock≠some b:=λe=>by
 obtain⟨cs',z⟩:=h.heap e;unfold Fo at hb;rw[hb]at z;simp only [Al.injEq,Obj.cells.injEq]at z;rw[z.2.1]at hT;simp at hT
theorem Own.base_block (h:Own enc sz T B w v l)(hl:l≠[]):v.ownBlock=some (base v).1:=by
 rcases h.sl with⟨_,hn⟩|⟨b,o,c,rfl,_⟩|⟨hn,_⟩
 ·exact absurd (Az hn) hl
 ·rfl
 ·exact absurd (Az hn) hl
theorem Own.ne (h:Own enc sz T B w v l)(h':Own enc' sz' T' B' w v' l')(hT:AM T T'=false){k:Nat}(hk:v.ownBlock=some k):v'.ownBlock≠some k:=λe=>by
 obtain⟨cs,z⟩:=h.heap hk;obtain⟨cs',J⟩:=h'.heap e;rw[J]at z;simp only [Al.injEq,Obj.cells.injEq]at z;rw[z.2.1]at hT;simp at hT
end
theorem RX.mod {S:Nat->Prop}{anc:Bool} : RX (Mod S) anc:=.inr λ_ _ h=>h.mono (λ_ h _=>h.elim)
theorem HT {S:Nat->Prop}(w:World):Mod S w w:=Mod.refl S w
theorem Ir {S:Nat->Prop}(a b c:World)(h:Mod S a b)(k:Mod S b c):Mod S a c:=Mod.trans h k (λ_ h=>h) (λ_ h _=>h)
theorem Qx (h:Nat):(An h [I 0]).flatten=(An h 0).map λj:Nat=>I (j:Int):=by
 induction h with
 | zero=>rfl
 | succ h ih=>rw[CR,Cx,ih,CR];rfl
@[reducible] def Nu (j:Nat):List Value:=[I (j:Int)]
@[reducible] def Jy (j:Nat):List Value:=[.int .u32 j]
@[reducible] def G0 (q:List Nat):List Value:=q.map λj:Nat=>I (j:Int)
theorem Xu8 (q:List Nat):q.flatMap Nu=G0 q:=by
 induction q with
 | nil=>simp [G0]
 | cons x r ih=>rw[AF,ih];simp [G0]
theorem MN {q:List Nat}{i x:Nat}(h:q[i]?=some x):(G0 q)[0+i*1]?=some (I (x:Int)):=by
 rw[A0,DL,AG,h];rfl
section
variable {P:Program}{n:Nat}{ds:List (Option Tmp)}{R:World->World->Prop}{r:List (Oper×Fl×Bool)}{K:FE->World->Prop}{E:FE}{w:World}
variable {d:Nat}{op:Op}{ty:TypeId}{pos:String}{af:Array Edge}{g:Option (Nat×Bool)}{anc:Bool}{v:Value}
variable {vs:List Value}{x:Operand}
theorem OI {a:Operand}{T T' b m:Nat}{cs:List Value}(hg:FT ds E g=true)(ha:ev E a=Fg b 0)(hx:ev E x=.agg ⟨vs⟩)(hs:Mo P T=some m)(hm:vs.length=m)(hl:cs.length=m)(hb:Fo w b cs T')(h1:∀v∈vs,v.oneCell'=true)(hR:anc=true\/∀w',Mod (Fu b) w w'->R w w')(h:∀w1,Mod (Fu b) w w1->w1.heap.size=w.heap.size->Fo w1 b vs T'->Dw P n ds R r K E w1):Dw P n ds R ((⟨none,.store T a x,ty,pos,af,g⟩,.x,anc) :: r) K E w:=
 OA (v:=.agg ⟨vs⟩) hg ha hx rfl (by rw[hs,hm]) hb Fb h1 hR (λw1 h2 h3 h4=>h w1 h2 h3 (by rwa [W7 Fb]at h4))
variable {e:Nat}
theorem Rp {y:Operand}{T m i:Nat}{cs:List Value}{v:Value}{dd:Option Tmp}(hT:Po P T=some (m,e,1))(he:L6 P e=true)(hx:ev E x=.agg ⟨cs⟩)(hy:ev E y=I i)(hi:i<m)(hv:cs[i]?=some v):
  PV P ⟨dd,.index T x y,ty,pos,af,g⟩ E v:=λw=>by
 obtain⟨hu,f,z,hk⟩:=SX hT;have h0:(0:Int)<=(i:Int)/\(i:Int)<(m:Int):=by omega
 have hm:(i:Int)<(m:Int):=h0.2;simp [execOp,Instr.index,asIntOf,hx,hy,underlying,hu,hm,sizeOf,typeInfo,z,hk,part,Rh he,hv];omega
def Hi (S:Nat->Prop)(w:World)(F:Value->World->Prop):Ending->World->Prop:=λe w'=>∃v,e=.returned v/\Mod S w w'/\F v w'
theorem J8 {S:Nat->Prop}{f:Nat}{az:List Operand}{ats:Array TypeId}{F:Value->World->Prop}(hg:FT ds E g=true)(hf:Hj P f=true)(hc:Calls P f vs.toArray w (Hi S w F))(ha:az.map (ev E)=vs)(hR:anc=true\/∀w',Mod S w w'->R w w')(h:∀v w1,Mod S w w1->F v w1->Dw P n ds R r K (FR E d v) w1):
  Dw P n ds R ((⟨some d,.call { callee:=.value (.func f),args:=az.toArray,argTypes:=ats },ty,pos,af,g⟩,.x,anc) :: r) K E w:=
 T6 hg hf ha hc λe w1 ⟨v,he,hx,hF⟩=>⟨v,he,λe=>hR.elim (λh=>by rw[h]at e;cases e) (λh=>h _ hx),h v w1 hx hF⟩
theorem QT {t ty B:Nat}{i:TypeInfo}{z v':Value}{w':World}(ht:P.underlying t=some (.slice e))(hi:P.info? e=some i)(hz:i.zero=some z)(hzs:z.cells.size=i.size){m0:Nat}{xs:List Value}(hown:w.ownsRow B e i.size v m0 xs)(a:Addr)(m c:Nat)(news:List Value)(hl:news.length=m*i.size)(hnews:∀j u,news[j]?=some u->w.cell? (a.add j)=some u)(h1:∀u∈news,u.oneCell'=true)(h63:m0+m<=maxLen)(hbytes:(m0+m)*i.bytes<=140737488355328)(hr:(Builtin.append_ #[t,t] ty #[v,.slice (some a) m c]).run P w=.ok v' w'):
  v'.ownBlock=v.ownBlock\/v'.ownBlock=some w.heap.size:=by
 have hsmall:m0+m<=9223372036854775807:=by simp only [maxLen]at h63;omega
 rcases hown.2 with⟨rfl,rfl⟩|⟨g,cap,cur,rfl,hbg,hg,hnc,hcm,hcs,htake⟩
 ·by_cases hm:m=0
  ·subst hm;have hn:news=[]:=Az (by simpa using hl);subst hn;have e:(Builtin.append_ #[t,t] ty #[.slice none 0 0,.slice (some a) 0 c]).run P w=.ok (.slice none 0 0) w:=by
    simp [Builtin.append_,run_underlying ht,sizeOf,typeInfo,hi,Builtin.lenOf,Builtin.firstCells,loadCells,loadCellsFrom]
   rw[e]at hr;cases hr;exact .inl rfl
  ·have J:=run_append_nil (P:=P) w t ty e i z ht hi hz a m c news hl hnews Fb Fb (by have hb:=hbytes;simp only [A0]at hb;omega);rw[J]at hr;cases hr;exact .inr rfl
 ·by_cases hroom:m0+m<=cap
  ·have O:m0*i.size+news.length<=cur.size:=by rw[hl,hcs,<-Cy];exact AW _ hroom
   have J:=run_append_room (P:=P) w t ty e i ht hi g m0 cap cur hg a m c news hl hnews h1 hroom O;rw[J]at hr;cases hr;exact .inl rfl
  ·have holds:∀j u,xs[j]?=some u->w.cell? ((⟨g,0,none⟩:Addr).add j)=some u:=hown.cells (g:=g) rfl;have J:=run_append_grow (P:=P) w t ty e i z ht hi hz ⟨g,0,none⟩ m0 cap xs hown.1 holds a m c news hl hnews Fb Fb (growslice_fits Fb hbytes);rw[J]at hr;cases hr;exact .inr rfl
theorem LY {α:Type}{enc:α->List Value}{s:Operand}{t sz by' B:Nat}{vx:Value}{l lx:List α}(hg:FT ds E g=true)(ht:IH P t=some (e,sz))(hE:Mx P e sz by'=true)(henc:∀x,(enc x).length=sz)(hown:Own enc sz e B w v l)(hax:Fs enc sz w vx lx)(hs:ev E s=v)(hx:ev E x=vx)(h1:∀x∈lx,∀u∈enc x,u.oneCell'=true)(hbytes:(l.length+lx.length)*by'<=140737488355328)(hby:1<=by')(hB:B<=w.heap.size)(hR:anc=true\/∀w',Mod (λk=>v.ownBlock=some k) w w'->R w w')(h:∀v' w',Own enc sz e B w' v' (l++lx)->Mod (λk=>v.ownBlock=some k) w w'->(v'.ownBlock=v.ownBlock\/v'.ownBlock=some w.heap.size)->Dw P n ds R r K (FR E d v') w'):
  Dw P n ds R ((⟨some d,.call { callee:=.builtin .append,args:=#[s,x],argTypes:=#[t,t] },ty,pos,af,g⟩,.x,anc) :: r) K E w:=by
 obtain⟨hu,_⟩:=KX ht;obtain⟨i,z,hi,hz,J,O,hf,hq⟩:=Pm hE;have Z:l.length+lx.length<=maxLen:=by
  unfold maxLen;have:(l.length+lx.length)*1<=(l.length+lx.length)*by':=CB _ hby;omega
 have hl:∀w',Mod (λk=>v.ownBlock=some k) w w'->anc=false->R w w':=λw' hm e=>hR.elim (λh=>by rw[h]at e;cases e) (λh=>h _ hm);rcases hax.sl with⟨rfl,hl0⟩|⟨b,o,c,rfl,hc⟩|⟨hl0,⟨b,o,s0⟩,c,rfl⟩
 ·-- nothing is appended
  have hh:=Az hl0;subst hh;have hp:(Builtin.append_ #[t,t] ty #[v,.slice none 0 0]).run P w=.ok v w:=by
   rcases hown.sl with⟨rfl,hn⟩|⟨b,o,c,rfl,hn⟩|⟨hn,a,c,rfl⟩
   ·simp [Builtin.append_,run_underlying hu,sizeOf,typeInfo,hi,Builtin.lenOf,Builtin.firstCells]
   ·simp [Builtin.append_,run_underlying hu,sizeOf,typeInfo,hi,Builtin.lenOf,Builtin.firstCells,hn,storeCells]
   ·simp [Builtin.append_,run_underlying hu,sizeOf,typeInfo,hi,Builtin.lenOf,Builtin.firstCells,hn,storeCells]
  refine I1 (w':=w) (v:=v) hg ?_ (hl _ (Mod.refl _ _)) (h v w (by simpa using hown) (Mod.refl _ _) (.inl rfl));simp only [execOp,resolve,invoke,builtin,Sem.run_bind,Sem.run_pure,Result.andThen_ok,Ca,Am,Bf,hs,hx,hp]
 ·have Y:∀j u,(lx.flatMap enc)[j]?=some u->w.cell? ((⟨b,o,none⟩:Addr).add j)=some u:=(λj u hj=>by
   have:=Fs.flat henc hax j u hj;have ha:(⟨b,o,none⟩:Addr).add j=⟨b,o+j,none⟩:=by
    unfold Addr.add;split
    ·rename_i e;simp [e]
    ·rfl
   rw[ha];exact this)
  obtain⟨v',w',hr,h2,h3,h4⟩:=run_append_own (P:=P) w B t ty e i z sz by' hu hi hz J O hf hq v l.length (l.flatMap enc) hown.row ⟨b,o,none⟩ lx.length c (lx.flatMap enc) (FF henc lx)
   Y (PE h1) Z hbytes hB
  have hw:=QT (P:=P) hu hi hz (by rw[hf,J]) (by rw[J];exact hown.row) ⟨b,o,none⟩ lx.length c (lx.flatMap enc) (by rw[J];exact FF henc lx) Y (PE h1) Z (by rw[O];exact hbytes) hr;refine I1 (w':=w') (v:=v') hg ?_ (hl _ ?_) (h v' w' ⟨by rw[Ad,Bb];exact h2⟩ ?_ hw)
  ·simp only [execOp,resolve,invoke,builtin,Sem.run_bind,Sem.run_pure,Result.andThen_ok,Ca,Am,Bf,hs,hx,hr]
  ·exact Mod.of_grown h3
  ·exact Mod.of_grown h3
 ·have hh:=Az hl0;subst hh;obtain⟨v',w',hr,h2,h3,h4⟩:=run_append_own (P:=P) w B t ty e i z sz by' hu hi hz J O hf hq v l.length (l.flatMap enc) hown.row ⟨b,o,s0⟩ 0 c [] F5 (λj u hj=>by simp at hj) (λu hu=>by cases hu) Z hbytes hB;have hw:=QT (P:=P) hu hi hz (by rw[hf,J]) (by rw[J];exact hown.row) ⟨b,o,s0⟩ 0 c [] F5 (λj u hj=>by simp at hj) (λu hu=>by cases hu) Z (by rw[O];exact hbytes) hr;refine I1 (w':=w') (v:=v') hg ?_ (hl _ (Mod.of_grown h3)) (h v' w' ⟨by rw[Ad,Bb];exact h2⟩ (Mod.of_grown h3) hw);simp only [execOp,resolve,invoke,builtin,Sem.run_bind,Sem.run_pure,Result.andThen_ok,Ca,Am,Bf,hs,hx,hr]
end
end Go.Vc
namespace Go.Vc
open Go.RowKit Go.Maps
open Classical in
noncomputable def rdBy {α:Type} (av:α->Value) (v:Value):Option (DataW α×List MemPlace):=
 if h:∃a,v=av a then some (.held h.choose,[])else none
variable {α:Type}{av:α->Value}
theorem Sg (inj:∀a b,av a=av b->a=b)(a:α):rdBy av (av a)=some (.held a,[]):=by
 have h:∃b,av a=av b:=⟨a,rfl⟩;unfold rdBy;rw[dif_pos h,<-inj _ _ h.choose_spec]
theorem Xh {v:Value}{y:DataW α×List MemPlace}(h:rdBy av v=some y):∃a,v=av a/\y=(.held a,[]):=by
 unfold rdBy at h;split at h
 ·rename_i h1
  cases h
  exact⟨_,h1.choose_spec,rfl⟩
 ·cases h
structure MapK (P:Program){κ α:Type}(t k e:TypeId)(kv:κ->Value)(av:α->Value)(ok:κ->Prop):Prop where
 und:P.underlying t=some (.map k e)
 keyed:Keyed P k
 key:∀x,ok x->∃l,keyOf P k (kv x)=some l
 inv:∀v l,keyOf P k v=some l->∃x,v=kv x/\ok x
 kinj:∀x y,kv x=kv y->x=y
 ainj:∀a b,av a=av b->a=b
open Classical in
noncomputable def putF {κ α:Type} (f:κ->Option α) (x:κ) (a:α):κ->Option α:=λy=>if y=x then some a else f y
theorem Xu9 {κ:Type}(f:κ->Option α)(x:κ)(a:α):putF f x a x=some a:=by simp [putF]
theorem X56 {κ:Type}(f:κ->Option α)(x:κ)(a:α){y:κ}(h:y≠x):putF f x a y=f y:=by simp [putF,h]
def M7 {α:Type}(o:Option α)(z:DataW α):DataW α:=match o with
 | some a=>.held a
 | none=>z
def Xbf {κ α:Type}(P:Program)(k:TypeId)(kv:κ->Value)(av:α->Value)(w:World)(b n:Nat)(f:κ->Option α):Prop:=
 ∃D:DataW α,w.ownsMap P k (rdBy av) b n D/\∀x l,keyOf P k (kv x)=some l->∀z,D.atKey l z=M7 (f x) z
def Xa4 {κ α:Type}(P:Program)(k:TypeId)(kv:κ->Value)(av:α->Value)(w:World)(b r n:Nat)(f:κ->Option α)(left:κ->Prop)(cnt:Nat):Prop:=
 ∃(D:DataW α) (lf:Lit->Bool),w.ranges P k (rdBy av) b r n D lf cnt/\(∀x l,keyOf P k (kv x)=some l->∀z,D.atKey l z=M7 (f x) z)/\∀x l,keyOf P k (kv x)=some l->(lf l=true↔left x)
section
variable {P:Program}{κ α:Type}{t k e:TypeId}{kv:κ->Value}{av:α->Value}{ok:κ->Prop}{w w':World}{b n r cnt:Nat}{f:κ->Option α}{left:κ->Prop}
theorem World.ownsMap.mod {H:Type}{S:Nat->Prop}{R:Value->Option (DataW H×List MemPlace)}{D:DataW H}(h:w.ownsMap P k R b n D)(m:Mod S w w')(hb:¬ S b):w'.ownsMap P k R b n D:=by
 have J:=h.lt;obtain⟨es,z,h1,F,hs,O⟩:=h;exact⟨es,z,(m.block b J hb).trans h1,F,hs,O⟩
theorem Xbf.mod {S:Nat->Prop}(h:Xbf P k kv av w b n f)(m:Mod S w w')(hb:¬ S b):Xbf P k kv av w' b n f:=by
 obtain⟨D,h1,h2⟩:=h;exact⟨D,World.ownsMap.mod h1 m hb,h2⟩
theorem Xbf.ext (h:Xbf P k kv av w b n f)(m:Fp w w'):Xbf P k kv av w' b n f:=h.mod m (λh=>h)
theorem Xbf.lt (h:Xbf P k kv av w b n f):b<w.heap.size:=by
 obtain⟨D,h1,_⟩:=h;exact h1.lt
theorem Xbf.heap (h:Xbf P k kv av w b n f):∃es c,w.heap[b]?=some (.map es c):=by
 obtain⟨D,⟨es,c,h1,_⟩,_⟩:=h;exact⟨es,c,h1⟩
theorem Xbf.ne_blk (h:Xbf P k kv av w b n f){b':Nat}{cs:List Value}{T:TypeId}(hb:Fo w b' cs T):b'≠b:=by
 rintro rfl;obtain⟨es,c,h1⟩:=h.heap;unfold Fo at hb;rw[hb]at h1
 cases h1
theorem Xbf.ne_own (h:Xbf P k kv av w b n f){β:Type}{enc:β->List Value}{sz T B:Nat}{v:Value}{l:List β}(ho:Own enc sz T B w v l):v.ownBlock≠some b:=λe=>by
 obtain⟨cs,h1⟩:=ho.heap e;obtain⟨es,c,h2⟩:=h.heap;rw[h1]at h2
 cases h2
theorem Xa4.congr {left':κ->Prop}(h:Xa4 P k kv av w b r n f left cnt)(hl:∀x,left x↔left' x):Xa4 P k kv av w b r n f left' cnt:=by
 obtain⟨D,lf,h0,h2,h3⟩:=h;exact⟨D,lf,h0,h2,λx l z=>(h3 x l z).trans (hl x)⟩
theorem Xa4.mod {S:Nat->Prop}(h:Xa4 P k kv av w b r n f left cnt)(m:Mod S w w')(hb:¬ S b)(hr:¬ S r):Xa4 P k kv av w' b r n f left cnt:=by
 obtain⟨D,lf,h0,h2,h3⟩:=h;have ha:=h0.owns.lt;have Z:=h0.lt;obtain⟨es,z,J,O,c0,h1,F,hs,hD,Y,rest⟩:=h0;exact⟨D,lf,⟨es,z,J,O,c0,(m.block b ha hb).trans h1,F,hs,hD,(m.block r Z hr).trans Y,rest⟩,h2,h3⟩
theorem Xa4.ext (h:Xa4 P k kv av w b r n f left cnt)(m:Fp w w'):Xa4 P k kv av w' b r n f left cnt:=h.mod m (λh=>h) (λh=>h)
theorem Xa4.map (h:Xa4 P k kv av w b r n f left cnt):Xbf P k kv av w b n f:=by
 obtain⟨D,lf,h0,h2,h3⟩:=h;exact⟨D,h0.owns,h2⟩
theorem Xa4.lt (h:Xa4 P k kv av w b r n f left cnt):r<w.heap.size:=by
 obtain⟨D,lf,h0,h2,h3⟩:=h;exact h0.lt
theorem Xa4.heap (h:Xa4 P k kv av w b r n f left cnt):∃m s c J,w.heap[r]?=some (.mapIter m s c J):=by
 obtain⟨D,lf,⟨es,clock,since,seen,J,h1,F,hs,hD,z,rest⟩,_⟩:=h;exact⟨_,_,_,_,z⟩
theorem Xa4.ne_own (h:Xa4 P k kv av w b r n f left cnt){β:Type}{enc:β->List Value}{sz T B:Nat}{v:Value}{l:List β}(ho:Own enc sz T B w v l):v.ownBlock≠some r:=λe=>by
 obtain⟨cs,h1⟩:=ho.heap e;obtain⟨m,s,c,c0,h2⟩:=h.heap;rw[h1]at h2
 cases h2
theorem Xa4.ne_map (h:Xa4 P k kv av w b r n f left cnt){κ' α':Type}{k':TypeId}{kv':κ'->Value}{av':α'->Value}{b' n':Nat}{f':κ'->Option α'}(hm:Xbf P k' kv' av' w b' n' f'):b'≠r:=by
 rintro rfl;obtain⟨m,s,c,c0,h1⟩:=h.heap;obtain⟨es,cl,h2⟩:=hm.heap;rw[h1]at h2
 cases h2
theorem Xbf.made (M:MapK P t k e kv av ok):Xbf P k kv av (w.alloc (.map #[] 0)) w.heap.size 0 (λ_=>none):=
 ⟨.map [],World.ownsMap_made w P k _,λx l hl z=>rfl⟩
theorem QQ (M:MapK P t k e kv av ok){x y:κ}{lx ly:Lit}(hx:keyOf P k (kv x)=some lx)(hy:keyOf P k (kv y)=some ly)(h:y≠x):ly≠lx:=λe=>by
 subst e;exact h (M.kinj _ _ (M.keyed.inj hy hx))
theorem Xbf.update (M:MapK P t k e kv av ok)(h:Xbf P k kv av w b n f)(hn:n<maxLen){x:κ}(hx:ok x)(a:α) :
  ∃w',(Instr.mapUpdate t (.map (some b)) (kv x) (av a)).run P w=.ok () w'/\Xbf P k kv av w' b (n+1) (putF f x a)/\Mod (Fu b) w w'/\w'.heap.size=w.heap.size:=by
 obtain⟨D,h1,h2⟩:=h;obtain⟨l,O⟩:=M.key x hx;obtain⟨w',hr,ho,Y⟩:=h1.store M.keyed M.und hn O (Sg M.ainj a);refine⟨w',hr,⟨_,ho,λy ly J z=>?_⟩,?_,?_⟩
 ·by_cases e:y=x
  ·subst e;rw[O]at J
   cases J
   rw[Xu9,Maps.atKey_put_same h1.isMap (M.keyed.key O)];rfl
  ·rw[X56 _ _ _ e,Maps.atKey_put_other (QQ M O J e),h2 y ly J]
 ·have Z:=Y.grown;exact(Mod.of_grown Z).mono (λi hi _=>(Al.inj hi).symm)
 ·obtain⟨es,c,es',c',_,e⟩:=Y;rw[e];simp [ChangeMaps.setBlock]
theorem Xbf.look (M:MapK P t k e kv av ok)(h:Xbf P k kv av w b n f){z0:α}(hz:(zeroValue e).run P w=.ok (av z0) w){x:κ}(hx:ok x) :
  (Instr.lookup t (.map (some b)) (kv x) false).run P w=.ok (av ((f x).getD z0)) w:=by
 obtain⟨D,h1,h2⟩:=h;obtain⟨l,z⟩:=M.key x hx;obtain⟨v,ps,J,hv⟩:=h1.lookup M.keyed M.und hz (Sg M.ainj z0) z;rw[h2 x l z]at hv;obtain⟨a,rfl,e⟩:=Xh hv;rw[J]
 cases hf:f x with
 | none=>rw[hf]at e;simp only [M7,B5.injEq,DataW.held.injEq]at e;rw[e.1];rfl
 | some c=>rw[hf]at e;simp only [M7,B5.injEq,DataW.held.injEq]at e;rw[e.1];rfl
theorem Xbf.range (M:MapK P t k e kv av ok)(h:Xbf P k kv av w b n f) :
  ∃w' cnt,(Instr.range t (.map (some b))).run P w=.ok (Fg w.heap.size 0) w'/\Xa4 P k kv av w' b w.heap.size n f (λx=>(f x).isSome=true) cnt/\cnt<=n/\Fp w w'/\w'.heap.size=w.heap.size+1:=by
 obtain⟨D,h1,h2⟩:=h;obtain⟨w',hr,J,Z,hs⟩:=h1.range M.keyed M.und;refine⟨w',_,hr,⟨D,_,J,h2,λx l Y=>?_⟩,h1.size_le,Fp.of_grown Z,hs⟩
 cases hf:f x with
 | none=>
  have O:Maps.has D l=false:=Maps.has_false_of_atKey (λz=>by rw[h2 x l Y,hf];rfl);rw[O];simp [hf]
 | some c=>
  have O:Maps.has D l=true:=Maps.has_true_of_atKey (y:=.held c) (λz=>by rw[h2 x l Y,hf];rfl);rw[O];simp [hf]
theorem Xa4.next (M:MapK P t k e kv av ok)(h:Xa4 P k kv av w b r n f left cnt)(ty:TypeId) :
  ((∀x,ok x->¬ left x)/\(Instr.next (Fg r 0) false ty).run P w=.ok (.tuple #[.bool false]) w)\/
  ∃x a w' cnt',ok x/\left x/\f x=some a/\(Instr.next (Fg r 0) false ty).run P w=.ok (.tuple #[.bool true,kv x,av a]) w'/\
   Xa4 P k kv av w' b r n f (λy=>left y/\y≠x) cnt'/\cnt'<cnt/\Mod (Fu r) w w'/\w'.heap.size=w.heap.size/\(Instr.entry (Fg r 0)).run P w'=.ok (.tuple #[kv x,av a]) w':=by
 obtain⟨D,lf,h1,h2,h3⟩:=h;rcases h1.next M.keyed ty with⟨_,hl,hr⟩|⟨key,v,kl,y,w',cnt',hk,hlk,hv,hat,hr,hrg,hlt,hg,hs,hen⟩
 ·refine .inl ⟨λx J Y=>?_,hr⟩;obtain⟨l,Z⟩:=M.key x J;have:=(h3 x l Z).2 Y;rw[hl l]at this
  cases this
 ·obtain⟨x,rfl,J⟩:=M.inv key kl hk;obtain⟨a,rfl,e⟩:=Xh hv;refine .inr ⟨x,a,w',cnt',J,(h3 x kl hk).1 hlk,?_,hr,⟨D,_,hrg,h2,λy' O z=>?_⟩,hlt,(Mod.of_grown hg).mono (λi hi _=>(Al.inj hi).symm),hs,hen⟩
  ·have h4:=hat .nil;rw[h2 x kl hk,e]at h4
   cases hf:f x with
   | none=>rw[hf]at h4;simp [M7]at h4
   | some c=>rw[hf]at h4;simp only [M7,DataW.held.injEq]at h4;rw[h4]
  ·rw[Aq,h3 y' O z,BI];refine and_congr_right λ_=>?_
   by_cases e':y'=x
   ·subst e';rw[hk]at z
    cases z
    rw[WideAt.sameKey_self (M.keyed.key hk)];simp
   ·have:=QQ M hk z e';have h5:O.sameKey kl=false:=by
     cases hh:O.sameKey kl
     ·rfl
     ·exact absurd (WideAt.sameKey_eq hh) this
    simp [h5,e']
end
section
variable {P:Program}{N:Nat}{ds:List (Option Tmp)}{R:World->World->Prop}{rs:List (Oper×Fl×Bool)}{K:FE->World->Prop}{E:FE}{w:World}
variable {d:Nat}{op:Op}{ty:TypeId}{pos:String}{af:Array Edge}{g:Option (Nat×Bool)}{anc:Bool}{v:Value}
variable {κ α:Type}{t k e:TypeId}{kv:κ->Value}{av:α->Value}{ok:κ->Prop}{b n r cnt:Nat}{f:κ->Option α}{left:κ->Prop}
theorem Qz (M:MapK P t k e kv av ok)(hg:FT ds E g=true)(hR:RX R anc)
  (h:∀b w1,b=w.heap.size->Fp w w1->Xbf P k kv av w1 b 0 (λ_=>none)->Dw P N ds R rs K (FR E d (.map (some b))) w1):Dw P N ds R ((⟨some d,.makeMap t none,ty,pos,af,g⟩,.x,anc) :: rs) K E w:=by
 refine I1 (v:=.map (some w.heap.size)) (w':=w.alloc (.map #[] 0)) hg ?_ (hR.use (Fp.alloc _ _)) (h _ _ rfl (Fp.alloc _ _) (Xbf.made M));have e1:(Instr.makeMap t none).run P w=.ok (.map (some w.heap.size)) (w.alloc (.map #[] 0)):=run_makeMap t w;simp [execOp,e1]
variable {m:Operand}
theorem OM {x y:Operand}(M:MapK P t k e kv av ok){kx:κ}{a:α}(hg:FT ds E g=true)(hm:ev E m=.map (some b))(hx:ev E x=kv kx)(hy:ev E y=av a)(hmap:Xbf P k kv av w b n f)(hok:ok kx)(hn:n<maxLen)(hR:anc=true\/∀w',Mod (Fu b) w w'->R w w')(h:∀w1,Mod (Fu b) w w1->w1.heap.size=w.heap.size->Xbf P k kv av w1 b (n+1) (putF f kx a)->Dw P N ds R rs K E w1):
  Dw P N ds R ((⟨none,.mapUpdate t m x y,ty,pos,af,g⟩,.x,anc) :: rs) K E w:=by
 obtain⟨w',z,h1,h2,h3⟩:=hmap.update M hn hok a;refine Tn (w':=w') hg ?_ (λe=>hR.elim (λh=>by rw[h]at e;cases e) (λh=>h _ h2)) (h _ h2 h3 h1);simp [execOp,hm,hx,hy,z]
variable {dd:Option Tmp}
theorem Mq {x:Operand}(M:MapK P t k e kv av ok){kx:κ}{z0:α}(hm:ev E m=.map (some b))(hx:ev E x=kv kx)(hz:(zeroValue e).run P w=.ok (av z0) w)(hmap:Xbf P k kv av w b n f)(hok:ok kx):
  LV P ⟨dd,.lookup t m x false,ty,pos,af,g⟩ E w (av ((f kx).getD z0)):=by
 unfold LV;have:=hmap.look M hz hok;simp [execOp,hm,hx,this]
theorem Y0 (M:MapK P t k e kv av ok)(hg:FT ds E g=true)(hm:ev E m=.map (some b))(hmap:Xbf P k kv av w b n f)(hR:RX R anc)(h:∀r w1 cnt,r=w.heap.size->Fp w w1->cnt<=n->Xa4 P k kv av w1 b r n f (λx=>(f x).isSome=true) cnt->Dw P N ds R rs K (FR E d (Fg r 0)) w1):
  Dw P N ds R ((⟨some d,.range t m,ty,pos,af,g⟩,.x,anc) :: rs) K E w:=by
 obtain⟨w',cnt,z,h1,h2,h3,h4⟩:=hmap.range M;refine I1 (w':=w') (v:=Fg w.heap.size 0) hg ?_ (hR.use h3) (h _ _ _ rfl h3 h2 h1);simp [execOp,hm,z]
theorem XU {it:Operand}(M:MapK P t k e kv av ok)(hg:FT ds E g=true)(hit:ev E it=Fg r 0)(hrg:Xa4 P k kv av w b r n f left cnt)(hR:anc=true\/∀w',Mod (Fu r) w w'->R w w')
  (h0:(∀x,ok x->¬ left x)->Dw P N ds R rs K (FR E d (.tuple #[.bool false])) w)
  (h:∀x a w1 cnt',ok x->left x->f x=some a->Mod (Fu r) w w1->w1.heap.size=w.heap.size->cnt'<cnt->Xa4 P k kv av w1 b r n f (λy=>left y/\y≠x) cnt'->(Instr.entry (Fg r 0)).run P w1=.ok (.tuple #[kv x,av a]) w1->
   Dw P N ds R rs K (FR E d (.tuple #[.bool true,kv x,av a])) w1) :
  Dw P N ds R ((⟨some d,.next it false,ty,pos,af,g⟩,.x,anc) :: rs) K E w:=by
 rcases hrg.next M ty with⟨hl,hr⟩|⟨x,a,w',cnt',hx,hlx,hfx,hr,h1,hlt,h2,hs,hen⟩
 ·refine I1 (w':=w) (v:=.tuple #[.bool false]) hg ?_ (λe=>hR.elim (λh=>by rw[h]at e;cases e) (λh=>h _ (Mod.refl _ _))) (h0 hl);simp [execOp,hit,hr]
 ·refine I1 (w':=w') (v:=.tuple #[.bool true,kv x,av a]) hg ?_ (λe=>hR.elim (λh=>by rw[h]at e;cases e) (λh=>h _ h2)) (h x a w' cnt' hx hlx hfx h2 hs hlt h1 hen);simp [execOp,hit,hr]
theorem YJ {it:Operand}{u1 u2:Value}(hit:ev E it=v)(hen:(Instr.entry v).run P w=.ok (.tuple #[u1,u2]) w):LV P ⟨dd,.entry it,ty,pos,af,g⟩ E w (.tuple #[u1,u2]):=by
 unfold LV;simp [execOp,hit,hen]
end
theorem Fs.base_lt {enc:α->List Value}{sz:Nat}{w:World}{v:Value}{l:List α}(h:Fs enc sz w v l)(hsz:0<sz)(hl:l≠[]):(base v).1<w.heap.size:=by
 cases l with
 | nil=>exact absurd rfl hl
 | cons x r=>exact h.blk hsz (x:=x) rfl
theorem Ycj (x y:Fh)(h:S x=S y):x=y:=by
 simpa [S]using h
theorem Nj {P:Program}{t k e:TypeId}(hu:P.underlying t=some (.map k e))(hk:P.underlying k=some .string)(ha:∀a b,av a=av b->a=b):MapK P t k e S av (λs=>s.length<=maxLen):=
 ⟨hu,string_keyed hk,λx J=>⟨_,WideMaps.keyOf_string_mk hk (s:=⟨⟨x⟩⟩) J⟩,λv l z=>by
  simp only [keyOf,hk]at z
  cases v<;>simp [mapKey,hk]at z
  rename_i s;obtain⟨h1,rfl⟩:=z;exact⟨s.data.toList,rfl,h1⟩,Ycj,ha⟩
section
variable {P:Program}{N:Nat}{ds:List (Option Tmp)}{R:World->World->Prop}{rs:List (Oper×Fl×Bool)}{K:FE->World->Prop}{E:FE}{w:World}
variable {d:Nat}{op:Op}{ty:TypeId}{pos:String}{af:Array Edge}{g:Option (Nat×Bool)}{anc:Bool}{v:Value}
theorem X0v (w:World)(e:TypeId)(s:Fh)(c:Nat):Fs Fq 1 (Lib.bytesWorld w e ⟨⟨s⟩⟩) (.slice (some ⟨w.heap.size,0,none⟩) s.length (max c s.length)) s:=by
 refine⟨.inr (.inl ⟨_,0,_,by rw[Aw],by rw[Aw];omega⟩),λi cs hi=>?_⟩;rw[AG]at hi;obtain⟨x,J,rfl⟩:=Bp.1 hi;refine⟨rfl,λj u Y=>?_⟩;have z:=(Ap.1 J).1
 cases j with
 | succ j=>simp at Y
 | zero=>
  have e2:u=.int .u8 (x.toNat:Int):=by simpa using Y.symm
  rw[e2];have O:=Lib.bytesWorld_cell w e ⟨⟨s⟩⟩ i z;have Z:(⟨⟨s⟩⟩:ByteArray).data.toList.getD i 0=x:=by simp [List.getD,J]
  rw[Z]at O;simpa [base]using O
theorem KC {x:Operand}{T U e:Nat}{s:Fh}(hg:FT ds E g=true)(hT:Kn P T=true)(hU:P.underlying U=some (.slice e))(he:P.underlying e=some (.int .u8))(hx:ev E x=S s)(hR:RX R anc)
  (h:∀b c w1,b=w.heap.size->Fp w w1->Fs Fq 1 w1 (.slice (some ⟨b,0,none⟩) s.length c) s->Dw P N ds R rs K (FR E d (.slice (some ⟨b,0,none⟩) s.length c)) w1):Dw P N ds R ((⟨some d,.convert T U x,ty,pos,af,g⟩,.x,anc) :: rs) K E w:=by
 have O:P.underlying T=some .string:=by
  unfold Kn at hT;split at hT<;>first|assumption|cases hT
 have hr:=Lib.run_convert_string_bytes w T U e ⟨⟨s⟩⟩ O hU he;have z:Fp w (Lib.bytesWorld w e ⟨⟨s⟩⟩):=⟨rfl,rfl,rfl,by rw[Lib.bytesWorld_size];omega,λk hk _=>Lib.bytesWorld_at_old w e _ k hk⟩;have J:s.length<=grownCap w s.length 0 e:=by
  exact Nat.le_add_right _ _
 have Z:=X0v w e s (grownCap w s.length 0 e);rw[Nat.max_eq_left J]at Z;refine I1 (v:=.slice (some ⟨w.heap.size,0,none⟩) s.length (grownCap w s.length 0 e)) (w':=Lib.bytesWorld w e ⟨⟨s⟩⟩) hg ?_ (hR.use z) (h _ _ _ rfl z Z);have Y:(convert T U (S s)).run P w=.ok (.slice (some ⟨w.heap.size,0,none⟩) s.length (grownCap w s.length 0 e)) (Lib.bytesWorld w e ⟨⟨s⟩⟩):=hr;simp only [execOp,hx,Sem.run_bind,Y,Result.andThen_ok,Sem.run_pure,GF]
theorem Yck (l:Fh):l.flatMap Fq=l.map λc=>Value.int .u8 c.toNat:=by
 induction l with
 | nil=>rfl
 | cons x r ih=>rw[AF,ih];rfl
theorem Fs.row8 {v:Value}{l:Fh}(h:Fs Fq 1 w v l):Jt w (base v).1 (base v).2 (l.map λc=>Value.int .u8 c.toNat):=λi u hi=>by
 rw[<-Yck]at hi;exact Fs.flat (enc:=Fq) (sz:=1) (λ_=>rfl) h i u hi
end
@[reducible] def A8 (l:Fh):Value:=.agg ⟨l.map λc=>Value.int .u8 c.toNat⟩
end Go.Vc
namespace Go.Vc
open Go.RowKit
@[reducible] def b8 (c:UInt8):Value:=.int .u8 c.toNat
theorem OD (n:Int):IntKind.u8.wrap n=n % 256:=by simp [IntKind.wrap,IntKind.bits,IntKind.signed]
theorem Xvc {a b:UInt8} : ((a.toNat:Int)=b.toNat)↔a=b:=⟨λh=>Ew.1 Fb,λh=>by rw[h]⟩
theorem Xvd {a b:UInt8} : ((a.toNat:Int)<b.toNat)↔a<b:=by rw[CS];omega
section
variable {P:Program}{E:FE}{d:Option Tmp}{ty:TypeId}{pos:String}{af:Array Edge}{g:Option (Nat×Bool)}{w:World}{T U:TypeId}{x y:Operand}
variable {a b:UInt8}
theorem QP (hx:ev E x=b8 a)(hy:ev E y=b8 b):PV P ⟨d,.binOp .eql T x y U,ty,pos,af,g⟩ E (.bool (decide (a=b))):=by
 have:=WY (P:=P) (d:=d) (ty:=ty) (pos:=pos) (af:=af) (g:=g) (T:=T) (U:=U) hx hy;rwa [show decide ((a.toNat:Int)=b.toNat)=decide (a=b) from decide_eq_decide.2 Xvc]at this
theorem UI (hx:ev E x=b8 a)(hy:ev E y=b8 b):PV P ⟨d,.binOp .lss T x y U,ty,pos,af,g⟩ E (.bool (decide (a<b))):=by
 have:=Yt (P:=P) (d:=d) (ty:=ty) (pos:=pos) (af:=af) (g:=g) (T:=T) (U:=U) hx hy;rwa [show decide ((a.toNat:Int)<b.toNat)=decide (a<b) from decide_eq_decide.2 Xvd]at this
theorem Pq (a:UInt8):AK 8 (a.toNat:Int)=a.toBitVec:=by
 apply Ex
 rw[Ey];have:=a.toNat_lt;show((a.toNat:Int) % ((2 ^ 8:Nat):Int)).toNat=a.toNat;omega
theorem Tj (hx:ev E x=b8 a)(hy:ev E y=b8 b):PV P ⟨d,.binOp .and T x y U,ty,pos,af,g⟩ E (b8 (a &&& b)):=by
 have:=LN (P:=P) (dd:=d) (ty:=ty) (pos:=pos) (af:=af) (g:=g) (T:=T) (U:=U) (op:=.and) (.inl rfl) hx hy;rwa [show Lo .and .u8 (a.toNat:Int) b.toNat=((a &&& b).toNat:Int) by
  show IntKind.u8.wrap ((AK 8 (a.toNat:Int) &&& AK 8 (b.toNat:Int)).toNat:Int)=_;rw[Pq,Pq,OD];have:=(a &&& b).toNat_lt;show(((a &&& b).toNat:Int)) % 256=_;omega]at this
theorem PW (hx:ev E x=b8 a)(hy:ev E y=b8 b):PV P ⟨d,.binOp .or T x y U,ty,pos,af,g⟩ E (b8 (a ||| b)):=by
 have:=LN (P:=P) (dd:=d) (ty:=ty) (pos:=pos) (af:=af) (g:=g) (T:=T) (U:=U) (op:=.or) (.inr (.inl rfl)) hx hy;rwa [show Lo .or .u8 (a.toNat:Int) b.toNat=((a ||| b).toNat:Int) by
  show IntKind.u8.wrap ((AK 8 (a.toNat:Int) ||| AK 8 (b.toNat:Int)).toNat:Int)=_;rw[Pq,Pq,OD];have:=(a ||| b).toNat_lt;show(((a ||| b).toNat:Int)) % 256=_;omega]at this
theorem X0w (hx:ev E x=b8 a)(hT:(P.underlying T).isSome=true)(hU:HU P U=some .i64):PV P ⟨d,.convert T U x,ty,pos,af,g⟩ E (I a.toNat):=by
 have:=JS (P:=P) (d:=d) (ty:=ty) (pos:=pos) (af:=af) (g:=g) hx hT hU;rwa [KU (by have:=a.toNat_lt;unfold Fx;omega)]at this
theorem N2 {n:Nat}{k:IntKind}(hx:ev E x=.int k n)(hT:(P.underlying T).isSome=true)(hU:HU P U=some .u8):PV P ⟨d,.convert T U x,ty,pos,af,g⟩ E (b8 (AC n)):=by
 have:=JS (P:=P) (d:=d) (ty:=ty) (pos:=pos) (af:=af) (g:=g) hx hT hU;rwa [show IntKind.u8.wrap (n:Int)=((AC n).toNat:Int) by rw[OD];simp]at this
theorem QE {x y:Operand}{a:Fh}{i:Nat}{c:UInt8}(hT:Kn P T=true)(hx:ev E x=S a)(hy:ev E y=I i)(hi:a[i]?=some c):PV P ⟨d,.index T x y,ty,pos,af,g⟩ E (b8 c):=Sf hT hx hy hi
end
section
variable {P:Program}{n:Nat}{ds:List (Option Tmp)}{R:World->World->Prop}{r:List (Oper×Fl×Bool)}{K:FE->World->Prop}{E:FE}{w:World}
variable {d:Nat}{op:Op}{ty:TypeId}{pos:String}{af:Array Edge}{g:Option (Nat×Bool)}{anc:Bool}{v v':Value}
variable {x:Operand}
theorem dm (h:Dw P n ds R r K (FR E d v) w)(hg:FT ds E g=true:=by rfl)(hx:ev E x=v:=by conv=>lhs;whnf):Dw P n ds R ((⟨some d,.move x,ty,pos,af,g⟩,.p,anc) :: r) K E w:=W4 hg hx h
theorem da (h:Dw P n ds R r K (FR E d v) w)(hg:FT ds E g=true:=by rfl)(hx:ev E x=v:=by conv=>lhs;whnf):Dw P n ds R ((⟨some d,.assign x,ty,pos,af,g⟩,.p,anc) :: r) K E w:=Yds hg hx h
theorem dk {f:Fl}(h:Dw P n ds R r K (FR E d undef) w)(hg:FT ds E g=false:=by rfl):Dw P n ds R ((⟨some d,op,ty,pos,af,g⟩,f,anc) :: r) K E w:=Qs hg h
theorem dp (hv:PV P ⟨some d,op,ty,pos,af,g⟩ E v)(h:Dw P n ds R r K (FR E d v) w)(hg:FT ds E g=true:=by rfl):Dw P n ds R ((⟨some d,op,ty,pos,af,g⟩,.p,anc) :: r) K E w:=JK hg hv h
theorem dpw (hv:PV P ⟨some d,op,ty,pos,af,g⟩ E v')(h:Dw P n ds R r K (FR E d v) w)(hg:FT ds E g=true:=by rfl)(hn:v'=v:=by conv=>lhs;whnf):Dw P n ds R ((⟨some d,op,ty,pos,af,g⟩,.p,anc) :: r) K E w:=F3 hg hv hn h
theorem dq (hv:LV P ⟨some d,op,ty,pos,af,g⟩ E w v)(h:Dw P n ds (λa b=>a=b) r K (FR E d v) w)(hg:FT ds E g=true:=by rfl):Dw P n ds (λa b=>a=b) ((⟨some d,op,ty,pos,af,g⟩,.l,anc) :: r) K E w:=TK hg hv h
theorem dn {T:TypeId}{b:Bool}(h:Dw P n ds R r K (FR E d v) w)(hg:FT ds E g=true:=by rfl)(hx:ev E x=.bool b:=by rfl)(hn:Value.bool (!b)=v:=by conv=>lhs;whnf):Dw P n ds R ((⟨some d,.unOp .not T x,ty,pos,af,g⟩,.p,anc) :: r) K E w:=F3 hg (X9m hx) hn h
variable {a:Operand}
theorem dk' {c b:Operand}{t:Bool}{x y:Value}(h:Dw P n ds R r K (FR E d v) w)(hg:FT ds E g=true:=by rfl)(hc:ev E c=.bool t:=by rfl)(ha:ev E a=x:=by rfl)(hb:ev E b=y:=by rfl)(hn:(if t then x else y)=v:=by conv=>lhs;whnf):Dw P n ds R ((⟨some d,.pick c a b,ty,pos,af,g⟩,.p,anc) :: r) K E w:=F3 hg (X5x hc ha hb) hn h
def flOf : Op->Fl
 | .load .. | .lookup .. | .entry ..=>.l
 | .move .. | .assign .. | .pick .. | .nilCheck .. | .binOp .. | .unOp .. | .convert .. | .slice .. | .fieldAddr .. | .field .. | .indexAddr .. | .index .. | .extract .. | .build .. | .makeInterface .. | .makeFunc .. | .sliceToArrayPointer ..=>.p
 | .call c=>(match c.callee with | .builtin .len | .builtin .cap | .builtin .min | .builtin .max=>.p|_=>.x)
 | _=>.x
def OJ : List Oper->List Fl
 | []=>[]
 | o :: r=>flOf o.op :: OJ r
theorem Xni : ∀l:List Oper,(OJ l).length=l.length
 | []=>rfl
 | o :: r=>by simp [OJ,Xni r]
variable {Q:Exit->FE->World->Prop}
theorem wr {id:Nat}{l:List Oper}(h:Dw P n (l.map (·.dst)) (λa b=>a=b) (Ng l (OJ l)) (λE w=>Q .normal E w) E w):W P n (.region id l.toArray false) Q E w:=
 JM (OJ l) (by rw[Xni];simp) h
variable {t:Nat}
theorem ro {fn:Func}{R:Ending->World->Prop}(h:R (.returned v) w)(hr:fn.results=#[.tmp t]:=by rfl)(ht:Nat.blt t n=true:=by rfl)(hv:E t=v:=by conv=>lhs;whnf):JN P fn n R .ret E w:=X53 hr ht hv h
theorem rt {fn:Func}{s:Nat}{u:Value}{R:Ending->World->Prop}(h:R (.returned (.tuple #[v,u])) w)(hr:fn.results=#[.tmp t,.tmp s]:=by rfl)(ht:Nat.blt t n=true:=by rfl)(hs:Nat.blt s n=true:=by rfl)(hv:E t=v:=by conv=>lhs;whnf)(hu:E s=u:=by conv=>lhs;whnf):JN P fn n R .ret E w:=X54 hr ht hs hv hu h
variable {y:Code}
theorem wi {c:Operand}{x:Code}{p:Prop}[Decidable p](ht:p->W P n x Q E w)(hf:¬ p->W P n y Q E w)(hc:ev E c=.bool (decide p):=by rfl):W P n (.cond c x y) Q E w:=Ydr hc ht hf
theorem wc {c:Operand}{x:Code}{t:Bool}(ht:t=true->W P n x Q E w)(hf:t=false->W P n y Q E w)(hc:ev E c=.bool t:=by rfl):W P n (.cond c x y) Q E w:=Oi hc ht hf
variable {T m:Nat}
theorem di {y:Operand}{i:Nat}(e k:Nat)(hv:Fv v m)(hy:ev E y=I i)(hi:i<m)(h:Dw P n ds R r K (FR E d (Fg (base v).1 ((base v).2+i*k))) w)(hg:FT ds E g=true:=by rfl)(hx:ev E x=v:=by rfl)(hT:IH P T=some (e,k):=by kernel_rfl):Dw P n ds R ((⟨some d,.indexAddr T x y,ty,pos,af,g⟩,.p,anc) :: r) K E w:=JK hg (Ii hT hv hx hy hi) h
theorem dv (e k:Nat)(hv:Fv v m)(h:Dw P n ds R r K (FR E d (I m)) w)(hg:FT ds E g=true:=by rfl)(hx:ev E x=v:=by rfl)(hT:IH P T=some (e,k):=by kernel_rfl):Dw P n ds R ((⟨some d,.call { callee:=.builtin .len,args:=#[x],argTypes:=#[T] },ty,pos,af,g⟩,.p,anc) :: r) K E w:=JK hg (Pb hT hv hx) h
theorem dt {T:TypeId}{a:Fh}(hx:ev E x=S a)(h:Dw P n ds R r K (FR E d (I a.length)) w)(hg:FT ds E g=true:=by rfl)(hT:Kn P T=true:=by kernel_rfl):Dw P n ds R ((⟨some d,.call { callee:=.builtin .len,args:=#[x],argTypes:=#[T] },ty,pos,af,g⟩,.p,anc) :: r) K E w:=JK hg (X5z hT hx) h
variable {vs:List Value}
theorem dx {i:Nat}(hx:ev E x=.tuple ⟨vs⟩)(hv:vs[i]?=some v)(h:Dw P n ds R r K (FR E d v) w)(hg:FT ds E g=true:=by rfl):Dw P n ds R ((⟨some d,.extract x i,ty,pos,af,g⟩,.p,anc) :: r) K E w:=JK hg (Yg hx hv) h
theorem dz {a:Addr}(hx:ev E x=.pointer (some a))(h:Dw P n ds R r K (FR E d (.pointer (some a))) w)(hg:FT ds E g=true:=by rfl):Dw P n ds R ((⟨some d,.nilCheck x,ty,pos,af,g⟩,.p,anc) :: r) K E w:=JK hg (X50 hx) h
variable {ats:Array TypeId}{az:List Operand}{f:Nat}
theorem cP (hc:Calls P f vs.toArray w (Pure w v))(hR:RX R anc)(h:∀w1,Fp w w1->Dw P n ds R r K (FR E d v) w1)(hg:FT ds E g=true:=by rfl)(hf:Hj P f=true:=by kernel_rfl)(ha:az.map (ev E)=vs:=by rfl):Dw P n ds R ((⟨some d,.call { callee:=.value (.func f),args:=az.toArray,argTypes:=ats },ty,pos,af,g⟩,.x,anc) :: r) K E w:=X52 hg hf hc ha hR h
variable {F:Value->World->Prop}
theorem cG (hc:Calls P f vs.toArray w (GX w F))(hR:RX R anc)(h:∀v w1,Fp w w1->F v w1->Dw P n ds R r K (FR E d v) w1)(hg:FT ds E g=true:=by rfl)(hf:Hj P f=true:=by kernel_rfl)(ha:az.map (ev E)=vs:=by rfl):Dw P n ds R ((⟨some d,.call { callee:=.value (.func f),args:=az.toArray,argTypes:=ats },ty,pos,af,g⟩,.x,anc) :: r) K E w:=XD hg hf hc ha hR h
theorem cD {S:Nat->Prop}(hc:Calls P f vs.toArray w (Hi S w F))(hR:anc=true\/∀w',Mod S w w'->R w w')(h:∀v w1,Mod S w w1->F v w1->Dw P n ds R r K (FR E d v) w1)(hg:FT ds E g=true:=by rfl)(hf:Hj P f=true:=by kernel_rfl)(ha:az.map (ev E)=vs:=by rfl):Dw P n ds R ((⟨some d,.call { callee:=.value (.func f),args:=az.toArray,argTypes:=ats },ty,pos,af,g⟩,.x,anc) :: r) K E w:=J8 hg hf hc ha hR h
theorem de {K1:FE->World->Prop}(hK:∀E w,W P n y Q E w->K1 E w)(h:W P n y Q E w):Dw P n ds R [] K1 E w:=hK E w h
variable {b o:Nat}
theorem df (k:Nat)(hx:ev E x=Fg b o)(h:Dw P n ds R r K (FR E d (Fg b (o+k))) w)(hg:FT ds E g=true:=by rfl)(hT:Mh P T f=some k:=by kernel_rfl):Dw P n ds R ((⟨some d,.fieldAddr T x f,ty,pos,af,g⟩,.p,anc) :: r) K E w:=JK hg (Xuy hT hx) h
theorem dl (hx:ev E x=Fg b o)(hc:w.cell? ⟨b,o,none⟩=some v)(h:Dw P n ds (λa b=>a=b) r K (FR E d v) w)(hg:FT ds E g=true:=by rfl)(hT:L6 P T=true:=by kernel_rfl):Dw P n ds (λa b=>a=b) ((⟨some d,.load T x,ty,pos,af,g⟩,.l,anc) :: r) K E w:=TK hg (Nc hT hx hc) h
theorem dL (hx:ev E x=Fg b o)(hc:∀w',R w w'->w'.cell? ⟨b,o,none⟩=some v)(h:Dw P n ds R r K (FR E d v) w)(hg:FT ds E g=true:=by rfl)(hT:L6 P T=true:=by kernel_rfl):Dw P n ds R ((⟨some d,.load T x,ty,pos,af,g⟩,.l,anc) :: r) K E w:=Gd hg (λw' hR=>Nc hT hx (hc w' hR)) h
theorem pa {y:Operand}{T U:TypeId}{a b:Int}(hx:ev E x=I a)(hy:ev E y=I b)(h:Dw P n ds R r K (FR E d (I (a+b))) w)(hI:Fx (a+b):=by unfold Fx;omega)(hg:FT ds E g=true:=by rfl):Dw P n ds R ((⟨some d,.binOp .add T x y U,ty,pos,af,g⟩,.p,anc) :: r) K E w:=JK hg (GJ hx hy hI) h
theorem ps {y:Operand}{T U:TypeId}{a b:Int}(hx:ev E x=I a)(hy:ev E y=I b)(h:Dw P n ds R r K (FR E d (I (a-b))) w)(hI:Fx (a-b):=by unfold Fx;omega)(hg:FT ds E g=true:=by rfl):Dw P n ds R ((⟨some d,.binOp .sub T x y U,ty,pos,af,g⟩,.p,anc) :: r) K E w:=JK hg (Gz hx hy hI) h
theorem KK {T':Nat}{cs:List Value}(hb:Fo w b cs T')(h:∀w1,Mod (Fu b) w w1->w1.heap.size=w.heap.size->Fo w1 b (cs.set o v) T'->Dw P n ds R r K E w1)(hg:FT ds E g=true:=by rfl)(ha:ev E a=Fg b o:=by rfl)(hx:ev E x=v:=by conv=>lhs;whnf)(hv:v.oneCell'=true:=by rfl)(hs:Mo P T=some 1:=by kernel_rfl)(ho:o<cs.length:=by exact Nat.le_of_ble_eq_true rfl)(hR:anc=true\/∀w',Mod (Fu b) w w'->R w w':=by exact .inl rfl):Dw P n ds R ((⟨none,.store T a x,ty,pos,af,g⟩,.x,anc) :: r) K E w:=JV hg ha hx hv hs hb ho hR h
theorem stA {T':Nat}{cs:List Value}(hb:Fo w b cs T')(h:∀w1,Mod (Fu b) w w1->w1.heap.size=w.heap.size->Fo w1 b (Gr cs o vs) T'->Dw P n ds R r K E w1)(hg:FT ds E g=true:=by rfl)(ha:ev E a=Fg b o:=by rfl)(hx:ev E x=v:=by conv=>lhs;whnf)(hv:v.cells=⟨vs⟩:=by exact rfl)(hs:Mo P T=some vs.length:=by kernel_rfl)(ho:o+vs.length<=cs.length:=by exact Nat.le_of_ble_eq_true rfl)(h1:∀v∈vs,v.oneCell'=true:=by simp [Value.oneCell'])(hR:anc=true\/∀w',Mod (Fu b) w w'->R w w':=by exact .inl rfl):Dw P n ds R ((⟨none,.store T a x,ty,pos,af,g⟩,.x,anc) :: r) K E w:=OA hg ha hx hv hs hb ho h1 hR h
variable {pv:List (Nat×Value)}{zs:List Value}
theorem db {ps:List (Nat×Operand)}{cs:List Value}{pl:List (Nat×Nat)}(h:Dw P n ds R r K (FR E d (.agg ⟨cs⟩)) w)(hg:FT ds E g=true:=by rfl)(hz:KW P T=some zs:=by kernel_rfl)(hp:RY P T=some pl:=by kernel_rfl)(hv:Lg E ps pv:=by repeat' (first|exact trivial|refine⟨rfl,?_,?_⟩|(conv=>lhs;whnf)))(hf:Hm (λi=>pl[i]?) zs pv=some cs:=by rfl):Dw P n ds R ((⟨some d,.build T ps.toArray,ty,pos,af,g⟩,.p,anc) :: r) K E w:=JK hg (LI hz hp hv hf) h
theorem li {e sz:Nat}{ps:List (Nat×Operand)}{cs:List Value}(hR:RX R anc)(h:∀b w1,b=w.heap.size->Fp w w1->Fo w1 b cs e->Dw P n ds R r K (FR E d (.slice (some ⟨b,0,none⟩) m m)) w1)(hg:FT ds E g=true:=by rfl)(ht:IH P t=some (e,sz):=by kernel_rfl)(hm:Nat.blt 0 (m*sz)=true/\Nat.ble (m*sz) 16777216=true:=by exact⟨rfl,rfl⟩)(hz:KW P e=some zs:=by kernel_rfl)(hzs:Nat.beq zs.length sz=true:=by rfl)(hv:Lg E ps pv:=by repeat' (first|exact trivial|refine⟨rfl,?_,?_⟩|(conv=>lhs;whnf)))(hf:Hm (λi=>some (i*sz,sz)) ((List.replicate m zs).flatten) pv=some cs:=by rfl):Dw P n ds R ((⟨some d,.buildSlice t m ps.toArray,ty,pos,af,g⟩,.x,anc) :: r) K E w:=Io hg ht hm hz hzs hv hf hR h
end
section
variable {a b c w w':World}{i j:Nat}{S T:Nat->Prop}{cs:List Value}{t:TypeId}{α:Type}{enc:α->List Value}{sz B Ty:Nat}{v:Value}{l:List α}
theorem Fp.ge (h:Fp a b)(e:i=b.heap.size):a.heap.size<=i:=by have:=h.size;omega
theorem Mod.ge (h:Mod T a b)(e:i=b.heap.size):a.heap.size<=i:=by have:=h.size;omega
theorem Fo.ltb (h:Fo w j cs t)(e:i=w.heap.size):j<i:=by have:=h.lt;omega
theorem Own.ltb (h:Own enc sz Ty B w v l)(e:i=w.heap.size):∀k,v.ownBlock=some k->k<i:=λk hk=>by have:=(h.lt k hk).2;omega
theorem Fp.o1 (h:Fp a b)(k:Mod (Fu i) b c)(hi:a.heap.size<=i:=by omega):Fp a c:=h.own k (λj z=>by have:j=i:=z;omega)
theorem Mod.o1 (h:Mod T a b)(k:Mod (Fu i) b c)(hi:a.heap.size<=i:=by omega):Mod T a c:=h.own k (λj z hlt=>by have:j=i:=z;omega)
theorem Fo.mo (h:Fo w j cs t)(m:Mod (Fu i) w w')(hn:¬ Fu i j:=by first|assumption|(intro h;have h2:_=_:=h;omega)):Fo w' j cs t:=h.mod m hn
theorem FC (e:w'=w.drew):Fp w w':=by rw[e];exact Fp.drew _
end
class Up (w w':World) (p:Prop) (q:outParam Prop):Prop where
 u:Fp w w'->p->q
section
variable {w w':World}{G p1 p2 p3 p4 p5 p6 p7 p8 q1 q2 q3 q4 q5 q6 q7 q8:Prop}
instance {b : Nat} {cs:List Value} {T:TypeId} : Up w w' (Fo w b cs T) (Fo w' b cs T):=⟨λx h=>h.ext x⟩
instance {α : Type} {enc:α->List Value} {sz:Nat} {v:Value} {l:List α} : Up w w' (Fs enc sz w v l) (Fs enc sz w' v l):=⟨λx h=>h.ext x⟩
instance {α : Type} {enc:α->List Value} {sz T B:Nat} {v:Value} {l:List α} : Up w w' (Own enc sz T B w v l) (Own enc sz T B w' v l):=⟨λx h=>h.ext x⟩
instance {S : Nat->Prop} {a:World} : Up w w' (Mod S a w) (Mod S a w'):=⟨λx h=>h.ext x⟩
instance {a : World} : Up w w' (Fp a w) (Fp a w'):=⟨λx h=>Mod.ext h x⟩
instance {κ α:Type} {P:Program} {k:TypeId} {kv:κ->Value} {av:α->Value} {b n:Nat} {f:κ->Option α} : Up w w' (Xbf P k kv av w b n f) (Xbf P k kv av w' b n f):=⟨λx h=>h.ext x⟩
instance {P : Program} {κ α:Type} {k:TypeId} {kv:κ->Value} {av:α->Value} {b r n cnt:Nat} {f:κ->Option α} {left:κ->Prop} : Up w w' (Xa4 P k kv av w b r n f left cnt) (Xa4 P k kv av w' b r n f left cnt):=⟨λx h=>h.ext x⟩
theorem Fz (x:Fp w w')(a1:p1)(a2:p2)[h1:Up w w' p1 q1][h2:Up w w' p2 q2](k:q1->q2->G):G:=k (h1.u x a1) (h2.u x a2)
theorem FB (x:Fp w w')(a1:p1)(a2:p2)(a3:p3)[h1:Up w w' p1 q1][h2:Up w w' p2 q2][h3:Up w w' p3 q3](k:q1->q2->q3->G):G:=k (h1.u x a1) (h2.u x a2) (h3.u x a3)
theorem FP (x:Fp w w')(a1:p1)(a2:p2)(a3:p3)(a4:p4)[h1:Up w w' p1 q1][h2:Up w w' p2 q2][h3:Up w w' p3 q3][h4:Up w w' p4 q4](k:q1->q2->q3->q4->G):G:=k (h1.u x a1) (h2.u x a2) (h3.u x a3) (h4.u x a4)
theorem FV (x:Fp w w')(a1:p1)(a2:p2)(a3:p3)(a4:p4)(a5:p5)[h1:Up w w' p1 q1][h2:Up w w' p2 q2][h3:Up w w' p3 q3][h4:Up w w' p4 q4][h5:Up w w' p5 q5](k:q1->q2->q3->q4->q5->G):G:=k (h1.u x a1) (h2.u x a2) (h3.u x a3) (h4.u x a4) (h5.u x a5)
theorem H3 (x:Fp w w')(a1:p1)(a2:p2)(a3:p3)(a4:p4)(a5:p5)(a6:p6)[h1:Up w w' p1 q1][h2:Up w w' p2 q2][h3:Up w w' p3 q3][h4:Up w w' p4 q4][h5:Up w w' p5 q5][h6:Up w w' p6 q6](k:q1->q2->q3->q4->q5->q6->G):G:=k (h1.u x a1) (h2.u x a2) (h3.u x a3) (h4.u x a4) (h5.u x a5) (h6.u x a6)
theorem Lk (x:Fp w w')(a1:p1)(a2:p2)(a3:p3)(a4:p4)(a5:p5)(a6:p6)(a7:p7)[h1:Up w w' p1 q1][h2:Up w w' p2 q2][h3:Up w w' p3 q3][h4:Up w w' p4 q4][h5:Up w w' p5 q5][h6:Up w w' p6 q6][h7:Up w w' p7 q7](k:q1->q2->q3->q4->q5->q6->q7->G):G:=k (h1.u x a1) (h2.u x a2) (h3.u x a3) (h4.u x a4) (h5.u x a5) (h6.u x a6) (h7.u x a7)
theorem Jb (x:Fp w w')(a1:p1)(a2:p2)(a3:p3)(a4:p4)(a5:p5)(a6:p6)(a7:p7)(a8:p8)[h1:Up w w' p1 q1][h2:Up w w' p2 q2][h3:Up w w' p3 q3][h4:Up w w' p4 q4][h5:Up w w' p5 q5][h6:Up w w' p6 q6][h7:Up w w' p7 q7][h8:Up w w' p8 q8](k:q1->q2->q3->q4->q5->q6->q7->q8->G):G:=k (h1.u x a1) (h2.u x a2) (h3.u x a3) (h4.u x a4) (h5.u x a5) (h6.u x a6) (h7.u x a7) (h8.u x a8)
end
@[reducible] def GZ (f:Nat):Value:=.func (.func f) #[] #[]
section
variable {P:Program}{n:Nat}{ds:List (Option Tmp)}{R:World->World->Prop}{r:List (Oper×Fl×Bool)}{K:FE->World->Prop}{E:FE}{w:World}
variable {d:Nat}{op:Op}{ty:TypeId}{pos:String}{af:Array Edge}{g:Option (Nat×Bool)}{anc:Bool}{v:Value}
variable {ats:Array TypeId}{az:List Operand}{vs:List Value}
theorem X57 {f t:Nat}{R1:Ending->World->Prop}(hg:FT ds E g=true)(hv:E t=GZ f)(hf:Hj P f=true)(ha:az.map (ev E)=vs)(hc:Calls P f vs.toArray w R1)(h:∀e w1,R1 e w1->∃v,e=.returned v/\(anc=false->R w w1)/\Dw P n ds R r K (FR E d v) w1):
  Dw P n ds R ((⟨some d,.call { callee:=.value (.tmp t),args:=az.toArray,argTypes:=ats },ty,pos,af,g⟩,.x,anc) :: r) K E w:=by
 refine Ob hg λok=>?_;unfold Hj at hf
 cases hp:P.funcs[f]? with
 | none=>rw[hp]at hf;simp at hf
 | some fn=>
  rw[hp]at hf;simp only [Aq,BI]at hf;obtain⟨h1,h2⟩:=hf;have h3:fn.body≠none:=by cases hb:fn.body<;>simp [hb]at h2 ⊢
  have h1' : fn.name ≠ "runtime.NumGoroutine" := by simpa using h1
  have hr:(execOp (ev E) ⟨some d,.call { callee:=.value (.tmp t),args:=az.toArray,argTypes:=ats },ty,pos,af,g⟩).run P w=.ok (.enter f vs.toArray) w:=by
   simp [execOp,resolve,ev,hv,Deferred.ofValue,invoke,callFunc,program,Sem.run,hp,h1',h3,ha]
  unfold Oper.wp;rw[MH ok,hr];simp only [Oper.upon];refine Calls.mono hc λe w1 h1=>?_;obtain⟨v,rfl,hR,hd⟩:=h e w1 h1;exact⟨_,Jm _ _ _ _,hR,hd⟩
theorem LG {f t:Nat}(hg:FT ds E g=true)(hv:E t=GZ f)(hf:Hj P f=true)(hc:Calls P f vs.toArray w (Pure w v))(ha:az.map (ev E)=vs)(hR:RX R anc)(h:∀w1,Fp w w1->Dw P n ds R r K (FR E d v) w1):
  Dw P n ds R ((⟨some d,.call { callee:=.value (.tmp t),args:=az.toArray,argTypes:=ats },ty,pos,af,g⟩,.x,anc) :: r) K E w:=
 X57 hg hv hf ha hc λe w1 ⟨he,hx⟩=>⟨v,he,hR.use hx,h w1 hx⟩
end
section
variable {P:Program}{n:Nat}{E:FE}{w:World}{v:Value}
variable {R:Ending->World->Prop}
theorem Xvg {fn:Func}{t s q:Nat}{u x:Value}(hr:fn.results=#[.tmp t,.tmp s,.tmp q])(ht:AR t n=true)(hs:AR s n=true)(hq:AR q n=true)(hv:E t=v)(hu:E s=u)(hx:E q=x)(h:R (.returned (.tuple #[v,u,x])) w):JN P fn n R .ret E w:=by
 have O:t<n:=by simpa [Bi]using ht
 have z:s<n:=by simpa [Bi]using hs
 have J:q<n:=by simpa [Bi]using hq
 refine⟨.tuple #[v,u,x],?_,h⟩;simp [results,hr,Hv,O,hv,z,hu,J,hx]
theorem rt3 {fn:Func}{t s q:Nat}{u x:Value}(h:R (.returned (.tuple #[v,u,x])) w)(hr:fn.results=#[.tmp t,.tmp s,.tmp q]:=by rfl)(ht:Nat.blt t n=true:=by rfl)(hs:Nat.blt s n=true:=by rfl)(hq:Nat.blt q n=true:=by rfl)(hv:E t=v:=by conv=>lhs;whnf)(hu:E s=u:=by conv=>lhs;whnf)(hx:E q=x:=by conv=>lhs;whnf):JN P fn n R .ret E w:=Xvg hr ht hs hq hv hu hx h
end
end Go.Vc

namespace Go.Vc
open Go.RowKit
def Qw : IntKind->Bool
 | .u8=>false
 | _=>true
section
variable {P:Program}{n:Nat}{ds:List (Option Tmp)}{R:World->World->Prop}{r:List (Oper×Fl×Bool)}{K:FE->World->Prop}{E:FE}{w:World}{Q:Exit->FE->World->Prop}
variable {d:Nat}{op:Op}{ty:TypeId}{pos:String}{af:Array Edge}{g:Option (Nat×Bool)}{anc:Bool}{v v':Value}{id id':Nat}
theorem wS {x y:Code}(h:W P n x (Ih (λE w=>W P n y Q E w) Q) E w):W P n (.seq x y) Q E w:=
 TF λ_ J=>X3y h λe _ _ z=>by cases e<;>first|exact J _ _ z|exact z
theorem kN (h:K E w):Ih K Q .normal E w:=h
theorem kX (h:Q (.exit id) E w):Ih K Q (.exit id) E w:=h
theorem kR (h:Q .ret E w):Ih K Q .ret E w:=h
theorem bN (h:Q .normal E w):Nl id Q .normal E w:=h
theorem bR (h:Q .ret E w):Nl id Q .ret E w:=h
theorem bX (h:Q .normal E w):Nl id Q (.exit id) E w:=by
 have e:AM id id=true:=Ez id;show cond (AM id id) (Q .normal E w) (Q (.exit id) E w);rw[e];exact h
theorem bY (h:Q (.exit id') E w)(hn:Nat.beq id' id=false:=by decide):Nl id Q (.exit id') E w:=by
 show cond (Nat.beq id' id) (Q .normal E w) (Q (.exit id') E w);rw[hn];exact h
theorem oN (h:Q .normal E w):Mv Q .normal E w:=h
theorem oX (h:Q (.exit id) E w):Mv Q (.exit id) E w:=h
theorem oR (h:Q .ret E w):Mv Q .ret E w:=h
variable {t:Bool}
theorem wT {c:Operand}{x y:Code}(h:W P n x Q E w)(hc:ev E c=.bool t:=by(conv=>lhs;whnf)<;>fail)(ht:t=true:=by with_reducible rfl):W P n (.cond c x y) Q E w:=
 Oi hc (λ_=>h) (λe=>by rw[ht]at e;cases e)
theorem wF {c:Operand}{x y:Code}(h:W P n y Q E w)(hc:ev E c=.bool t:=by(conv=>lhs;whnf)<;>fail)(ht:t=false:=by with_reducible rfl):W P n (.cond c x y) Q E w:=
 Oi hc (λe=>by rw[ht]at e;cases e) (λ_=>h)
theorem dE (h:K E w):Dw P n ds R [] K E w:=h
variable {b o:Nat}{x:Operand}
theorem dF {T f:Nat}(h:Dw P n ds R r K (FR E d (Fg b (o+f))) w)(hx:ev E x=Fg b o:=by rfl)(hT:Mh P T f=some f:=by decide +kernel):Dw P n ds R ((⟨some d,.fieldAddr T x f,ty,pos,af,none⟩,.p,anc) :: r) K E w:=df f hx h rfl hT
theorem dZ {a:Addr}(h:Dw P n ds R r K (FR E d (.pointer (some a))) w)(hx:ev E x=.pointer (some a):=by rfl):Dw P n ds R ((⟨some d,.nilCheck x,ty,pos,af,none⟩,.p,anc) :: r) K E w:=dz hx h rfl
variable {vs:List Value}
theorem dX {i:Nat}(h:Dw P n ds R r K (FR E d v) w)(hx:ev E x=.tuple ⟨vs⟩:=by rfl)(hv:vs[i]?=some v:=by rfl):Dw P n ds R ((⟨some d,.extract x i,ty,pos,af,none⟩,.p,anc) :: r) K E w:=dx hx hv h rfl
theorem dA {T:Nat}{cs:List Value}{T':TypeId}(h:Dw P n ds (λa b=>a=b) r K (FR E d v) w)(hx:ev E x=Fg b o:=by rfl)(hb:Fo w b cs T':=by with_reducible assumption)(hv:cs[o]?=some v:=by rfl)(hT:L6 P T=true:=by decide +kernel):Dw P n ds (λa b=>a=b) ((⟨some d,.load T x,ty,pos,af,none⟩,.l,anc) :: r) K E w:=dl hx (hb.at hv) h rfl hT
theorem dAx {T:Nat}{cs:List Value}{T':TypeId}(h:Dw P n ds Fp r K (FR E d v) w)(hx:ev E x=Fg b o:=by rfl)(hb:Fo w b cs T':=by with_reducible assumption)(hv:cs[o]?=some v:=by rfl)(hT:L6 P T=true:=by decide +kernel):Dw P n ds Fp ((⟨some d,.load T x,ty,pos,af,none⟩,.l,anc) :: r) K E w:=dL hx (λ_ hR=>(hb.ext hR).at hv) h rfl hT
variable {T:TypeId}
theorem dT {a:Fh}(h:Dw P n ds R r K (FR E d (I a.length)) w)(hx:ev E x=S a:=by rfl)(hT:Kn P T=true:=by decide +kernel):Dw P n ds R ((⟨some d,.call { callee:=.builtin .len,args:=#[x],argTypes:=#[T] },ty,pos,af,none⟩,.p,anc) :: r) K E w:=dt hx h rfl hT
variable {U:TypeId}{a:Int}{k:IntKind}{y:Operand}
theorem bl {b:Int}(h:Dw P n ds R r K (FR E d (.bool (decide (a<b)))) w)(hx:ev E x=.int k a:=by rfl)(hy:ev E y=.int k b:=by rfl)(hk:Qw k=true:=by rfl):Dw P n ds R ((⟨some d,.binOp .lss T x y U,ty,pos,af,none⟩,.p,anc) :: r) K E w:=JK rfl (Yt hx hy) h
theorem bg {b:Int}(h:Dw P n ds R r K (FR E d (.bool (decide (b<a)))) w)(hx:ev E x=.int k a:=by rfl)(hy:ev E y=.int k b:=by rfl)(hk:Qw k=true:=by rfl):Dw P n ds R ((⟨some d,.binOp .gtr T x y U,ty,pos,af,none⟩,.p,anc) :: r) K E w:=JK rfl (X9l hx hy) h
theorem be {b:Int}(h:Dw P n ds R r K (FR E d (.bool (decide (a=b)))) w)(hx:ev E x=.int k a:=by rfl)(hy:ev E y=.int k b:=by rfl)(hk:Qw k=true:=by rfl):Dw P n ds R ((⟨some d,.binOp .eql T x y U,ty,pos,af,none⟩,.p,anc) :: r) K E w:=JK rfl (WY hx hy) h
theorem bn {b:Int}(h:Dw P n ds R r K (FR E d (.bool (decide (a≠b)))) w)(hx:ev E x=.int k a:=by rfl)(hy:ev E y=.int k b:=by rfl)(hk:Qw k=true:=by rfl):Dw P n ds R ((⟨some d,.binOp .neq T x y U,ty,pos,af,none⟩,.p,anc) :: r) K E w:=JK rfl (X34 hx hy) h
theorem bp {b:Int}(h:Dw P n ds R r K (FR E d (I (a+b))) w)(hx:ev E x=I a:=by rfl)(hy:ev E y=I b:=by rfl)(hI:Fx (a+b):=by unfold Fx;omega):Dw P n ds R ((⟨some d,.binOp .add T x y U,ty,pos,af,none⟩,.p,anc) :: r) K E w:=pa hx hy h hI rfl
theorem bm {b:Int}(h:Dw P n ds R r K (FR E d (I (a-b))) w)(hx:ev E x=I a:=by rfl)(hy:ev E y=I b:=by rfl)(hI:Fx (a-b):=by unfold Fx;omega):Dw P n ds R ((⟨some d,.binOp .sub T x y U,ty,pos,af,none⟩,.p,anc) :: r) K E w:=ps hx hy h hI rfl
theorem gm (h:Dw P n ds R r K (FR E d v) w)(hx:ev E x=v:=by conv=>lhs;whnf):Dw P n ds R ((⟨some d,.move x,ty,pos,af,none⟩,.p,anc) :: r) K E w:=dm h rfl hx
theorem ga (h:Dw P n ds R r K (FR E d v) w)(hx:ev E x=v:=by conv=>lhs;whnf):Dw P n ds R ((⟨some d,.assign x,ty,pos,af,none⟩,.p,anc) :: r) K E w:=da h rfl hx
theorem gt {b:Bool}(h:Dw P n ds R r K (FR E d v) w)(hx:ev E x=.bool b:=by rfl)(hn:Value.bool (!b)=v:=by conv=>lhs;whnf):Dw P n ds R ((⟨some d,.unOp .not T x,ty,pos,af,none⟩,.p,anc) :: r) K E w:=dn h rfl hx hn
theorem gt1 {b:Bool}(h:Dw P n ds R r K (FR E d (.bool false)) w)(hx:ev E x=.bool b:=by(conv=>lhs;whnf)<;>fail)(hb:b=true:=by with_reducible rfl):Dw P n ds R ((⟨some d,.unOp .not T x,ty,pos,af,none⟩,.p,anc) :: r) K E w:=dn h rfl hx (by rw[hb];rfl)
theorem gt0 {b:Bool}(h:Dw P n ds R r K (FR E d (.bool true)) w)(hx:ev E x=.bool b:=by(conv=>lhs;whnf)<;>fail)(hb:b=false:=by with_reducible rfl):Dw P n ds R ((⟨some d,.unOp .not T x,ty,pos,af,none⟩,.p,anc) :: r) K E w:=dn h rfl hx (by rw[hb];rfl)
theorem gi {c a b:Operand}{x y:Value}(h:Dw P n ds R r K (FR E d v) w)(hc:ev E c=.bool t:=by rfl)(ha:ev E a=x:=by rfl)(hb:ev E b=y:=by rfl)(hn:(if t then x else y)=v:=by conv=>lhs;whnf):Dw P n ds R ((⟨some d,.pick c a b,ty,pos,af,none⟩,.p,anc) :: r) K E w:=dk' h rfl hc ha hb hn
variable {f:Fl}
theorem Ydt {o:Option Tmp}(h:Dw P n ds R ((⟨o,op,ty,pos,af,none⟩,f,anc) :: r) K E w)(hg:FT ds E g=true):Dw P n ds R ((⟨o,op,ty,pos,af,g⟩,f,anc) :: r) K E w:=by
 cases f<;>(unfold Dw at h ⊢;rw[if_pos (show FT ds E none=true from rfl)]at h;rw[if_pos (show FT ds E (Oper.guard ⟨o,op,ty,pos,af,g⟩)=true from hg)];exact h)
variable {j s:Nat}{want:Bool}
theorem gd {o:Option Tmp}(h:Dw P n ds R ((⟨o,op,ty,pos,af,none⟩,f,anc) :: r) K E w)(hj:IE ds j=some s:=by rfl)(he:E s=.bool t:=by(conv=>lhs;whnf)<;>fail)(ht:t=want:=by with_reducible rfl):Dw P n ds R ((⟨o,op,ty,pos,af,some (j,want)⟩,f,anc) :: r) K E w:=
 Ydt h (by unfold FT;simp [hj,he,ht])
def nb : Value->Bool
 | .bool _=>false
 | _=>true
theorem PA (hj:IE ds j=some s)(he:E s=.bool t)(ht:t=!want):FT ds E (some (j,want))=false:=by
 unfold FT;cases want<;>simp [hj,he,ht]
theorem Ydu (hj:IE ds j=some s)(he:nb (E s)=true):FT ds E (some (j,want))=false:=by
 unfold FT;simp only [hj];revert he;cases E s<;>simp [nb]
theorem gs (h:Dw P n ds R r K (FR E d undef) w)(hj:IE ds j=some s:=by rfl)(he:E s=.bool t:=by(conv=>lhs;whnf)<;>fail)(ht:t=false:=by with_reducible rfl):Dw P n ds R ((⟨some d,op,ty,pos,af,some (j,true)⟩,f,anc) :: r) K E w:=Qs (PA hj he ht) h
theorem gs1 (h:Dw P n ds R r K (FR E d undef) w)(hj:IE ds j=some s:=by rfl)(he:E s=.bool t:=by(conv=>lhs;whnf)<;>fail)(ht:t=true:=by with_reducible rfl):Dw P n ds R ((⟨some d,op,ty,pos,af,some (j,false)⟩,f,anc) :: r) K E w:=Qs (PA hj he ht) h
theorem gs2 (h:Dw P n ds R r K (FR E d undef) w)(hj:IE ds j=some s:=by rfl)(he:nb (E s)=true:=by rfl):Dw P n ds R ((⟨some d,op,ty,pos,af,some (j,want)⟩,f,anc) :: r) K E w:=Qs (Ydu hj he) h
theorem gs3 (h:Dw P n ds R r K E w)(hj:IE ds j=some s:=by rfl)(he:E s=.bool t:=by(conv=>lhs;whnf)<;>fail)(ht:t=false:=by with_reducible rfl):Dw P n ds R ((⟨none,op,ty,pos,af,some (j,true)⟩,f,anc) :: r) K E w:=VT (PA hj he ht) h
theorem gs4 (h:Dw P n ds R r K E w)(hj:IE ds j=some s:=by rfl)(he:E s=.bool t:=by(conv=>lhs;whnf)<;>fail)(ht:t=true:=by with_reducible rfl):Dw P n ds R ((⟨none,op,ty,pos,af,some (j,false)⟩,f,anc) :: r) K E w:=VT (PA hj he ht) h
def Og (P:Program)(e:Nat):Nat:=match P.info? e with|some i=>i.bytes|none=>0
variable {e:Nat}
theorem Hf {α:Type}{enc:α->List Value}{s:Operand}{t sz B:Nat}{vx:Value}{l lx:List α}(hown:Own enc sz e B w v l)(hax:Fs enc sz w vx lx)(h:∀v' w',Own enc sz e B w' v' (l++lx)->Mod (λk=>v.ownBlock=some k) w w'->Dw P n ds R r K (FR E d v') w')(hg:FT ds E g=true:=by rfl)(hs:ev E s=v:=by rfl)(hx:ev E x=vx:=by rfl)(ht:IH P t=some (e,sz):=by kernel_rfl)(hE:(Mx P e sz (Og P e) && Nat.ble (Og P e) 127 && Nat.ble 1 (Og P e))=true:=by kernel_rfl)(henc:∀x,(enc x).length=sz:=by intro x;rfl)(h1:∀x∈lx,∀u∈enc x,u.oneCell'=true:=by(intro x _ u hu;simp at hu;repeat (first|(subst hu;rfl)|(rcases hu with hu|hu; (subst hu;rfl)))))(hb:l.length+lx.length<=1100000000000:=by first|omega|(simp;omega))(hB:B<=w.heap.size:=by first|exact Mod.size (by assumption)|omega)(hR:anc=true\/∀w',Mod (λk=>v.ownBlock=some k) w w'->R w w':=by exact .inl rfl):
  Dw P n ds R ((⟨some d,.call { callee:=.builtin .append,args:=#[s,x],argTypes:=#[t,t] },ty,pos,af,g⟩,.x,anc) :: r) K E w:=by
 simp only [Bool.and_eq_true,Nat.ble_eq]at hE;exact HZ hg ht hE.1.1 henc hown hax hs hx h1 (Nat.le_trans (Nat.mul_le_mul hb hE.1.2) Fj) hE.2 hB hR h
variable {T':Nat}
theorem G1 {α:Type}{enc:α->List Value}{s:Operand}{t sz B:Nat}{cs:List Value}{l:List α}(c:α)(hown:Own enc sz e B w v l)(hm:Fo w b cs T')(h:∀v' w',Own enc sz e B w' v' (l++[c])->Mod (λk=>v.ownBlock=some k) w w'->Dw P n ds R r K (FR E d v') w')(hg:FT ds E g=true:=by rfl)(hs:ev E s=v:=by rfl)(hx:ev E x=.slice (some ⟨b,0,none⟩) 1 1:=by rfl)(hcs:cs=[c].flatMap enc:=by rfl)(ht:IH P t=some (e,sz):=by kernel_rfl)(hE:(Mx P e sz (Og P e) && Nat.ble (Og P e) 127 && Nat.ble 1 (Og P e))=true:=by kernel_rfl)(henc:∀x,(enc x).length=sz:=by intro x;rfl)(h1:∀x∈[c],∀u∈enc x,u.oneCell'=true:=by(intro x _ u hu;simp at hu;repeat (first|(subst hu;rfl)|(rcases hu with hu|hu; (subst hu;rfl)))))(hb:l.length + [c].length<=1100000000000:=by first|(simp;omega)|omega)(hB:B<=w.heap.size:=by first|exact Mod.size (by assumption)|omega)(hR:anc=true\/∀w',Mod (λk=>v.ownBlock=some k) w w'->R w w':=by exact .inl rfl):
  Dw P n ds R ((⟨some d,.call { callee:=.builtin .append,args:=#[s,x],argTypes:=#[t,t] },ty,pos,af,g⟩,.x,anc) :: r) K E w:=
 Hf hown (hm.arr hcs henc rfl (Nat.le_of_ble_eq_true rfl)) h hg hs hx ht hE henc h1 hb hB hR
def flD (x:Nat):Fl:=match DN x 3 with|0=>.p|1=>.l|_=>.x
def pD : Nat->Nat->Nat->List (Nat×Fl×Bool)
 | 0,_,_=>[]
 | k+1,i,z=>cond (AM z 1) [] ((i,flD (DN z 10),B3 3 (DN z 10)) :: pD k (i+1) (Nat.div z 10))
def Pg : List (Nat×Fl×Bool)->List Nat
 | []=>[]
 | (i,.l,_) :: r=>i :: Pg r
 | _ :: r=>Pg r
theorem wd {l:List Oper}(z:Nat)(h:∀w1,Fp w w1->Dw P n (l.map (·.dst)) Fp (JL l (pD 99 0 z)) (λE w=>Q .normal E w) E w1)(hm:P.follows .mixedOrders=true:=by kernel_rfl)
  (hl:Nat.beq (pD 99 0 z).length l.length=true:=by kernel_rfl) (hp:Lu l.toArray (Pg (pD 99 0 z)) (pD 99 0 z) (Array.replicate l.length false)=true:=by kernel_rfl) (hs:Region.noSelect l.toArray=true:=by kernel_rfl):W P n (.region id l.toArray true) Q E w:=
 HM (R:=Fp) Fp.refl (λ_ _ _=>Fp.trans) hm (Pg (pD 99 0 z)) (pD 99 0 z) hl hp hs λw1 e=>h w1 (FC e)
theorem Ydv {c:Code}{G:Type}(sl:G->List (Nat×Value))(F:G->World->Prop)(μ:G->Nat)(g0:G)(hF0:F g0 w)
 (round:∀(E:FE) (g:G) (w:World),F g w->W P n c (Ih (λE' w'=>∃g',holds (sl g') E'/\F g' w'/\μ g'<μ g) Q) (MC (sl g) E) w)
 (h0:holds (sl g0) E:=by repeat (first|exact trivial|refine⟨rfl,?_⟩)):W P n (.loop c) Q E w:=U8 sl F μ g0 h0 hF0 round
theorem FJ {G:Type}{sl:G->List (Nat×Value)}{F:G->Prop}{μ:G->Nat}{m:Nat}(g':G)(hF:F g')(h0:holds (sl g') E:=by repeat (first|exact trivial|refine⟨rfl,?_⟩))(hm:μ g'<m:=by first|omega|(simp only [];omega)) :
 ∃g',holds (sl g') E/\F g'/\μ g'<m:=⟨g',h0,hF,hm⟩
variable {X:Ending->World->Prop}{az:List Value}{fn:Func}
theorem cW {f:FuncId}(hf:P.funcs[f]?=some fn)(h:W P fn.ntmps (fn.body.getD .skip) (JN P fn fn.ntmps X) (KZ az 0 (λ_=>undef)) w)(hb:fn.body.isSome=true)(hle:B3 az.length fn.ntmps=true)(ok:JD fn.ntmps (fn.body.getD .skip)=true):Calls P f az.toArray w X:=by
 cases hc:fn.body with
 | none=>rw[hc]at hb;cases hb
 | some c=>rw[hc]at h ok;exact X5v hf hc rfl hle ok h
theorem cE {f:FuncId}(hf:P.funcs[f]?=some fn)(h:Fp w w->W P fn.ntmps (fn.body.getD .skip) (JN P fn fn.ntmps X) (KZ az 0 (λ_=>undef)) w)(hb:fn.body.isSome=true:=by rfl)(hle:Nat.ble az.length fn.ntmps=true:=by rfl)(ok:JD fn.ntmps (fn.body.getD .skip)=true:=by kernel_rfl):Calls P f az.toArray w X:=cW hf (h (Fp.refl w)) hb hle ok
theorem cM {f:FuncId}(hf:P.funcs[f]?=some fn)(S:Nat->Prop)(h:Mod S w w->W P fn.ntmps (fn.body.getD .skip) (JN P fn fn.ntmps X) (KZ az 0 (λ_=>undef)) w)(hb:fn.body.isSome=true:=by rfl)(hle:Nat.ble az.length fn.ntmps=true:=by rfl)(ok:JD fn.ntmps (fn.body.getD .skip)=true:=by kernel_rfl):Calls P f az.toArray w X:=cW hf (h (Mod.refl S w)) hb hle ok
theorem aL {T:Nat}(cs:List Value)(h:∀b w1,b=w.heap.size->Fp w w1->Fo w1 b cs T->Dw P n ds R r K (FR E d (Fg b 0)) w1)(hR:RX R anc:=by exact RX.all)(hg:FT ds E g=true:=by rfl)(hz:KW P T=some cs:=by kernel_rfl):Dw P n ds R ((⟨some d,.alloc T,ty,pos,af,g⟩,.x,anc) :: r) K E w:=X51 hg hz hR h
def zL (P:Program)(e n:Nat):Bool:=match KW P e with|some zs=>AM zs.length n && AR 0 n && B3 n 16777216|none=>false
theorem lW {t:Nat}{cs:List Value}(hx:ev E x=v)(hv:v.cells=⟨cs⟩)(h:∀b w1,b=w.heap.size->Fp w w1->Fo w1 b cs e->Dw P n ds R r K (FR E d (.slice (some ⟨b,0,none⟩) 1 1)) w1)(hR:RX R anc)(hg:FT ds E g=true)(ht:IH P t=some (e,cs.length))(hz:zL P e cs.length=true):Dw P n ds R ((⟨some d,.buildSlice t 1 [(0,x)].toArray,ty,pos,af,g⟩,.x,anc) :: r) K E w:=by
 unfold zL at hz;split at hz
 ·rename_i zs z;simp only [Aq,Bi,C7]at hz;obtain⟨⟨h1,h2⟩,h3⟩:=hz;have h1:=C6 h1;refine Io (pv:=[(0,v)]) hg ht ⟨by simpa [Bi]using h2,by simpa [C7]using h3⟩ z (by rw[h1];exact Ez _) ⟨rfl,hx,trivial⟩ ?_ hR h;have hs:Gr zs 0 cs=cs:=W7 h1.symm;simp only [Hm,hv,List.replicate_one,Cx,List.flatten_nil,List.append_nil,Cw];rw[if_pos ⟨by simp,by simp [h1]⟩];exact congrArg some hs
 ·cases hz
theorem lA {t:Nat}{cs:List Value}(e:Nat)(hx:ev E x=.agg ⟨cs⟩)(h:∀b w1,b=w.heap.size->Fp w w1->Fo w1 b cs e->Dw P n ds R r K (FR E d (.slice (some ⟨b,0,none⟩) 1 1)) w1)(hR:RX R anc:=by exact RX.all)(hg:FT ds E g=true:=by rfl)(ht:IH P t=some (e,cs.length):=by kernel_rfl)(hz:zL P e cs.length=true:=by kernel_rfl):Dw P n ds R ((⟨some d,.buildSlice t 1 [(0,x)].toArray,ty,pos,af,g⟩,.x,anc) :: r) K E w:=lW hx rfl h hR hg ht hz
variable {cs':List Value}
theorem HG {a:Operand}{T:Nat}{cs:List Value}(hb:Fo w b cs T')(h:∀w1,Mod (Fu b) w w1->w1.heap.size=w.heap.size->Fo w1 b cs' T'->Dw P n ds R r K E w1)(hg:FT ds E g=true:=by rfl)(ha:ev E a=Fg b o:=by rfl)(hx:ev E x=v:=by conv=>lhs;whnf)(hv:v.oneCell'=true:=by rfl)(hs:Mo P T=some 1:=by kernel_rfl)(ho:o<cs.length:=by exact Nat.le_of_ble_eq_true rfl)(hR:anc=true\/∀w',Mod (Fu b) w w'->R w w':=by exact .inl rfl)(hc:cs.set o v=cs':=by first|(dsimp only [List.set];done)|(dsimp only [List.set];rfl)):Dw P n ds R ((⟨none,.store T a x,ty,pos,af,g⟩,.x,anc) :: r) K E w:=by
 subst hc;exact KK hb h hg ha hx hv hs ho hR
theorem Gc {a:Operand}{T:Nat}{cs:List Value}(hb:Fo w b cs T')(h:∀w1,Mod (Fu b) w w1->w1.heap.size=w.heap.size->Fo w1 b cs' T'->Dw P n ds R r K E w1)(hg:FT ds E g=true:=by rfl)(ha:ev E a=Fg b o:=by rfl)(hx:ev E x=v:=by conv=>lhs;whnf)(hv:v.cells=⟨vs⟩:=by exact rfl)(hs:Mo P T=some vs.length:=by kernel_rfl)(ho:o+vs.length<=cs.length:=by exact Nat.le_of_ble_eq_true rfl)(h1:∀v∈vs,v.oneCell'=true:=by simp [Value.oneCell'])(hR:anc=true\/∀w',Mod (Fu b) w w'->R w w':=by exact .inl rfl)(hc:Gr cs o vs=cs':=by first|(dsimp only [Gr,List.set];done)|(dsimp only [Gr,List.set];rfl)):Dw P n ds R ((⟨none,.store T a x,ty,pos,af,g⟩,.x,anc) :: r) K E w:=by
 subst hc;exact stA hb h hg ha hx hv hs ho h1 hR
end
theorem Fw {p:Prop}(h:p:=by
 first
 | assumption
 | (intro h;have h2:_=_:=h;omega)
 | (intro k hk h;have h2:k=_:=h;have h1:=(by assumption:∀k,_=some k->k<_) k hk;omega)
 | (intro k hk h;have h2:k=_:=h;have h1:=(Own.lt (by assumption) k hk).1;omega)
 | (intro k hk h;have h2:k=_:=h;have h1:=(Own.lt (by assumption) k hk).2;omega)
 | (intro z h;have h2:_=_:=h;have h1:=(by assumption:_≠[]->_<_) z;omega)
 | (intro h;exact Own.ne_blk (by assumption) (by assumption) rfl h)
 | (intro h;exact Own.ne_blk (by assumption) (by assumption) rfl h.symm)
 | (intro k hk e;exact Own.ne_blk (by assumption) (by assumption) rfl (hk.trans (congrArg some e)))
 | trivial
 | (intro k hk h;have h1:=(by assumption:∀k,_=some k->k<_) k hk;omega)
 | (intro k hk h;have h1:=(Own.lt (by assumption) k hk).1;omega)
 | (intro k hk h;omega)
 | omega):p:=h
theorem F4 {p:Prop}(h:p:=by
 first
 | (intro i hi z;exact hi)
 | (intro i hi;exact(Own.lt (by assumption) i hi).1)
 | (intro i hi;have J:i=_:=hi;omega)
 | (intro i hi z;have J:i=_:=hi;omega)
 | (intro i hi z;exact absurd z (Nat.not_lt.2 (Own.lt (by assumption) i hi).1))
 | (intro i hi;omega)
 | (intro i hi z;omega)):p:=h
structure Hd (p:Prop):Prop where
 o:p
variable {p q:Prop}
theorem go (k:p)(h:Hd p->q:=by
 intro k
 repeat (first
  | refine Go.Vc.gm ?_
  | refine Go.Vc.ga ?_
  | refine Go.Vc.dE ?_
  | refine Go.Vc.wr ?_
  | refine Go.Vc.wS ?_
  | with_reducible refine Go.Vc.kN ?_
  | refine Go.Vc.gd ?_
  | refine Go.Vc.gs ?_
  | refine Go.Vc.gs1 ?_
  | refine Go.Vc.gs2 ?_
  | refine Go.Vc.dZ ?_
  | refine Go.Vc.dF ?_
  | refine Go.Vc.dA ?_
  | refine Go.Vc.dX ?_
  | refine Go.Vc.gt1 ?_
  | refine Go.Vc.gt0 ?_
  | refine Go.Vc.gt ?_
  | refine Go.Vc.gi ?_
  | refine Go.Vc.dT ?_
  | refine Go.Vc.bl ?_
  | refine Go.Vc.be ?_
  | refine Go.Vc.bn ?_
  | refine Go.Vc.bg ?_
  | refine Go.Vc.bp ?_
  | refine Go.Vc.bm ?_
  | refine Go.Vc.gs3 ?_
  | refine Go.Vc.gs4 ?_
  | refine Go.Vc.Xi2 ?_
  | refine Go.Vc.Xm7 ?_
  | refine Go.Vc.Xm8 ?_
  | refine Go.Vc.Xur ?_
  | with_reducible refine Go.Vc.bX ?_
  | with_reducible refine Go.Vc.bY ?_
  | with_reducible refine Go.Vc.bN ?_
  | with_reducible refine Go.Vc.kX ?_
  | with_reducible refine Go.Vc.kR ?_
  | with_reducible refine Go.Vc.bR ?_
  | refine Go.Vc.Xi3 ?_
  | with_reducible refine Go.Vc.oN ?_
  | with_reducible refine Go.Vc.oX ?_
  | with_reducible refine Go.Vc.oR ?_
  | refine Go.Vc.dAx ?_
  | refine Go.Vc.Xut ?_
  | refine Go.Vc.Xuu ?_
  | refine Go.Vc.ro ?_
  | refine Go.Vc.rt ?_
  | refine Go.Vc.rt3 ?_)
 exact k.o):q:=h ⟨k⟩
section
variable {P:Program}{n:Nat}{ds:List (Option Tmp)}{R:World->World->Prop}{r:List (Oper×Fl×Bool)}{K:FE->World->Prop}{E:FE}{w:World}{Q:Exit->FE->World->Prop}
variable {d:Nat}{ty:TypeId}{pos:String}{af:Array Edge}{g:Option (Nat×Bool)}{anc:Bool}{v:Value}{q:Prop}
theorem Fk {c:Operand}{x y:Code}{p:Prop}[Decidable p](ht:p->W P n x Q E w)(hf:¬ p->W P n y Q E w)(hgo:Hd (W P n (.cond c x y) Q E w)->q:=by exact λk=>go k.o)(hc:ev E c=.bool (decide p):=by rfl):q:=hgo ⟨wi ht hf hc⟩
theorem FZ {c:Operand}{x y:Code}{t:Bool}(ht:t=true->W P n x Q E w)(hf:t=false->W P n y Q E w)(hgo:Hd (W P n (.cond c x y) Q E w)->q:=by exact λk=>go k.o)(hc:ev E c=.bool t:=by rfl):q:=hgo ⟨wc ht hf hc⟩
theorem ds1 {l:List (Oper×Fl×Bool)}(s:Nat){p:Prop}[Decidable p](ht:p->Dw P n ds R l K (FR E s (.bool true)) w)(hf:¬ p->Dw P n ds R l K (FR E s (.bool false)) w)(hgo:Hd (Dw P n ds R l K E w)->q:=by exact λk=>go k.o)(hb:E s=.bool (decide p):=by rfl):q:=hgo ⟨X0s s hb ht hf⟩
theorem FK {x y:Operand}{T m i:Nat}(e k:Nat)(hv:Fv v m)(hi:i<m)(h:Dw P n ds R r K (FR E d (Fg (base v).1 ((base v).2+i*k))) w)(hgo:Hd (Dw P n ds R ((⟨some d,.indexAddr T x y,ty,pos,af,g⟩,.p,anc) :: r) K E w)->q:=by exact λk=>go k.o)(hy:ev E y=I i:=by rfl)(hg:FT ds E g=true:=by rfl)(hx:ev E x=v:=by rfl)(hT:IH P T=some (e,k):=by kernel_rfl):q:=hgo ⟨di e k hv hy hi h hg hx hT⟩
theorem FL {x:Operand}{T m:Nat}(e k:Nat)(hv:Fv v m)(h:Dw P n ds R r K (FR E d (I m)) w)(hgo:Hd (Dw P n ds R ((⟨some d,.call { callee:=.builtin .len,args:=#[x],argTypes:=#[T] },ty,pos,af,g⟩,.p,anc) :: r) K E w)->q:=by exact λk=>go k.o)(hg:FT ds E g=true:=by rfl)(hx:ev E x=v:=by rfl)(hT:IH P T=some (e,k):=by kernel_rfl):q:=hgo ⟨dv e k hv h hg hx hT⟩
variable {ats:Array TypeId}{az:List Operand}{f:Nat}{vs:List Value}
theorem Gp (hc:Calls P f vs.toArray w (Pure w v))(h:∀w1,Fp w w1->Dw P n ds R r K (FR E d v) w1)(hgo:Hd (Dw P n ds R ((⟨some d,.call { callee:=.value (.func f),args:=az.toArray,argTypes:=ats },ty,pos,af,g⟩,.x,anc) :: r) K E w)->q:=by exact λk=>go k.o)(hR:RX R anc:=by exact RX.all)(hg:FT ds E g=true:=by rfl)(hf:Hj P f=true:=by kernel_rfl)(ha:az.map (ev E)=vs:=by rfl):q:=hgo ⟨cP hc hR h hg hf ha⟩
variable {F:Value->World->Prop}
theorem Ge (hc:Calls P f vs.toArray w (GX w F))(h:∀v w1,Fp w w1->F v w1->Dw P n ds R r K (FR E d v) w1)(hgo:Hd (Dw P n ds R ((⟨some d,.call { callee:=.value (.func f),args:=az.toArray,argTypes:=ats },ty,pos,af,g⟩,.x,anc) :: r) K E w)->q:=by exact λk=>go k.o)(hR:RX R anc:=by exact RX.all)(hg:FT ds E g=true:=by rfl)(hf:Hj P f=true:=by kernel_rfl)(ha:az.map (ev E)=vs:=by rfl):q:=hgo ⟨cG hc hR h hg hf ha⟩
theorem Gw {S:Nat->Prop}(hc:Calls P f vs.toArray w (Hi S w F))(h:∀v w1,Mod S w w1->F v w1->Dw P n ds R r K (FR E d v) w1)(hgo:Hd (Dw P n ds R ((⟨some d,.call { callee:=.value (.func f),args:=az.toArray,argTypes:=ats },ty,pos,af,g⟩,.x,anc) :: r) K E w)->q:=by exact λk=>go k.o)(hR:anc=true\/∀w',Mod S w w'->R w w':=by exact .inl rfl)(hg:FT ds E g=true:=by rfl)(hf:Hj P f=true:=by kernel_rfl)(ha:az.map (ev E)=vs:=by rfl):q:=hgo ⟨cD hc hR h hg hf ha⟩
theorem F9 {c:Code}{G:Type}(sl:G->List (Nat×Value))(F:G->World->Prop)(μ:G->Nat)(g0:G)(hF0:F g0 w)(round:∀(E:FE) (g:G) (w:World),F g w->W P n c (Ih (λE' w'=>∃g',holds (sl g') E'/\F g' w'/\μ g'<μ g) Q) (MC (sl g) E) w)
 (hgo:Hd (W P n (.loop c) Q E w)->q:=by exact λk=>go k.o) (h0:holds (sl g0) E:=by repeat (first|exact trivial|refine⟨rfl,?_⟩)):q:=hgo ⟨Ydv sl F μ g0 hF0 round h0⟩
theorem Gn {l:List Oper}{id:Nat}(z:Nat)(h:∀w1,Fp w w1->Dw P n (l.map (·.dst)) Fp (JL l (pD 99 0 z)) (λE w=>Q .normal E w) E w1)(hgo:Hd (W P n (.region id l.toArray true) Q E w)->q:=by exact λk=>go k.o)(hm:P.follows .mixedOrders=true:=by kernel_rfl)
 (hl:Nat.beq (pD 99 0 z).length l.length=true:=by kernel_rfl) (hp:Lu l.toArray (Pg (pD 99 0 z)) (pD 99 0 z) (Array.replicate l.length false)=true:=by kernel_rfl) (hs:Region.noSelect l.toArray=true:=by kernel_rfl):q:=hgo ⟨wd z h hm hl hp hs⟩
end
theorem gw (k:p)(h:Hd p->q:=by
 intro k
 repeat (first
  | refine Go.Vc.gm ?_
  | refine Go.Vc.ga ?_
  | refine Go.Vc.dE ?_
  | refine Go.Vc.wS ?_
  | with_reducible refine Go.Vc.kN ?_
  | refine Go.Vc.gd ?_
  | refine Go.Vc.gs ?_
  | refine Go.Vc.gs1 ?_
  | refine Go.Vc.gs2 ?_
  | refine Go.Vc.dZ ?_
  | refine Go.Vc.dF ?_
  | refine Go.Vc.dA ?_
  | refine Go.Vc.dX ?_
  | refine Go.Vc.gt1 ?_
  | refine Go.Vc.gt0 ?_
  | refine Go.Vc.gt ?_
  | refine Go.Vc.gi ?_
  | refine Go.Vc.dT ?_
  | refine Go.Vc.bl ?_
  | refine Go.Vc.be ?_
  | refine Go.Vc.bn ?_
  | refine Go.Vc.bg ?_
  | refine Go.Vc.bp ?_
  | refine Go.Vc.bm ?_
  | refine Go.Vc.gs3 ?_
  | refine Go.Vc.gs4 ?_
  | refine Go.Vc.Xi2 ?_
  | refine Go.Vc.Xm7 ?_
  | refine Go.Vc.Xm8 ?_
  | refine Go.Vc.Xur ?_
  | with_reducible refine Go.Vc.bX ?_
  | with_reducible refine Go.Vc.bY ?_
  | with_reducible refine Go.Vc.bN ?_
  | with_reducible refine Go.Vc.kX ?_
  | with_reducible refine Go.Vc.kR ?_
  | with_reducible refine Go.Vc.bR ?_
  | refine Go.Vc.Xi3 ?_
  | with_reducible refine Go.Vc.oN ?_
  | with_reducible refine Go.Vc.oX ?_
  | with_reducible refine Go.Vc.oR ?_
  | refine Go.Vc.dAx ?_
  | refine Go.Vc.Xut ?_
  | refine Go.Vc.Xuu ?_
  | refine Go.Vc.ro ?_
  | refine Go.Vc.rt ?_
  | refine Go.Vc.rt3 ?_)
 exact k.o):q:=h ⟨k⟩
theorem g0 (k:p)(h:Hd p->q:=by
 intro k
 repeat (first
  | refine Go.Vc.gm ?_
  | refine Go.Vc.ga ?_
  | refine Go.Vc.dE ?_
  | refine Go.Vc.wr ?_
  | with_reducible refine Go.Vc.kN ?_
  | refine Go.Vc.gd ?_
  | refine Go.Vc.gs ?_
  | refine Go.Vc.gs1 ?_
  | refine Go.Vc.gs2 ?_
  | refine Go.Vc.dZ ?_
  | refine Go.Vc.dF ?_
  | refine Go.Vc.dA ?_
  | refine Go.Vc.dX ?_
  | refine Go.Vc.gt1 ?_
  | refine Go.Vc.gt0 ?_
  | refine Go.Vc.gt ?_
  | refine Go.Vc.gi ?_
  | refine Go.Vc.dT ?_
  | refine Go.Vc.bl ?_
  | refine Go.Vc.be ?_
  | refine Go.Vc.bn ?_
  | refine Go.Vc.bg ?_
  | refine Go.Vc.bp ?_
  | refine Go.Vc.bm ?_
  | refine Go.Vc.gs3 ?_
  | refine Go.Vc.gs4 ?_
  | refine Go.Vc.Xi2 ?_
  | refine Go.Vc.Xm7 ?_
  | refine Go.Vc.Xm8 ?_
  | refine Go.Vc.Xur ?_
  | with_reducible refine Go.Vc.bX ?_
  | with_reducible refine Go.Vc.bY ?_
  | with_reducible refine Go.Vc.bN ?_
  | with_reducible refine Go.Vc.kX ?_
  | with_reducible refine Go.Vc.kR ?_
  | with_reducible refine Go.Vc.bR ?_
  | refine Go.Vc.Xi3 ?_
  | with_reducible refine Go.Vc.oN ?_
  | with_reducible refine Go.Vc.oX ?_
  | with_reducible refine Go.Vc.oR ?_
  | refine Go.Vc.dAx ?_
  | refine Go.Vc.Xut ?_
  | refine Go.Vc.Xuu ?_
  | refine Go.Vc.ro ?_
  | refine Go.Vc.rt ?_
  | refine Go.Vc.rt3 ?_)
 exact k.o):q:=h ⟨k⟩
theorem gn (k:p)(h:Hd p->q:=by
 intro k
 repeat (first
  | refine Go.Vc.gm ?_
  | refine Go.Vc.ga ?_
  | refine Go.Vc.dE ?_
  | refine Go.Vc.wr ?_
  | refine Go.Vc.wS ?_
  | with_reducible refine Go.Vc.kN ?_
  | refine Go.Vc.gd ?_
  | refine Go.Vc.gs ?_
  | refine Go.Vc.gs1 ?_
  | refine Go.Vc.gs2 ?_
  | refine Go.Vc.dZ ?_
  | refine Go.Vc.dF ?_
  | refine Go.Vc.dA ?_
  | refine Go.Vc.dX ?_
  | refine Go.Vc.gt1 ?_
  | refine Go.Vc.gt0 ?_
  | refine Go.Vc.gt ?_
  | refine Go.Vc.gi ?_
  | refine Go.Vc.dT ?_
  | refine Go.Vc.bl ?_
  | refine Go.Vc.be ?_
  | refine Go.Vc.bn ?_
  | refine Go.Vc.bg ?_
  | refine Go.Vc.gs3 ?_
  | refine Go.Vc.gs4 ?_
  | refine Go.Vc.Xi2 ?_
  | refine Go.Vc.Xm7 ?_
  | refine Go.Vc.Xm8 ?_
  | refine Go.Vc.Xur ?_
  | with_reducible refine Go.Vc.bX ?_
  | with_reducible refine Go.Vc.bY ?_
  | with_reducible refine Go.Vc.bN ?_
  | with_reducible refine Go.Vc.kX ?_
  | with_reducible refine Go.Vc.kR ?_
  | with_reducible refine Go.Vc.bR ?_
  | refine Go.Vc.Xi3 ?_
  | with_reducible refine Go.Vc.oN ?_
  | with_reducible refine Go.Vc.oX ?_
  | with_reducible refine Go.Vc.oR ?_
  | refine Go.Vc.dAx ?_
  | refine Go.Vc.Xut ?_
  | refine Go.Vc.Xuu ?_
  | refine Go.Vc.ro ?_
  | refine Go.Vc.rt ?_
  | refine Go.Vc.rt3 ?_)
 exact k.o):q:=h ⟨k⟩
theorem gc (k:p)(h:Hd p->q:=by
 intro k
 repeat (first
  | refine Go.Vc.dE ?_
  | refine Go.Vc.wr ?_
  | refine Go.Vc.wS ?_
  | with_reducible refine Go.Vc.kN ?_
  | refine Go.Vc.Xi2 ?_
  | refine Go.Vc.Xm7 ?_
  | refine Go.Vc.Xm8 ?_
  | refine Go.Vc.Xur ?_
  | with_reducible refine Go.Vc.bX ?_
  | with_reducible refine Go.Vc.bY ?_
  | with_reducible refine Go.Vc.bN ?_
  | with_reducible refine Go.Vc.kX ?_
  | with_reducible refine Go.Vc.kR ?_
  | with_reducible refine Go.Vc.bR ?_
  | refine Go.Vc.Xi3 ?_
  | with_reducible refine Go.Vc.oN ?_
  | with_reducible refine Go.Vc.oX ?_
  | with_reducible refine Go.Vc.oR ?_
  | refine Go.Vc.Xut ?_
  | refine Go.Vc.Xuu ?_)
 exact k.o):q:=h ⟨k⟩
end Go.Vc
namespace Go.Vc
@[reducible] def FW (f:Nat) (az:List Value) (w:World) (v:Value):Prop:=Calls Go.Proofs.Tryz.prog f az.toArray w (Pure w v)
@[reducible] def Gf (f:Nat) (az:List Value) (w:World) (F:Value->World->Prop):Prop:=Calls Go.Proofs.Tryz.prog f az.toArray w (GX w F)
@[reducible] def Gy (f:Nat) (az:List Value) (w:World) (S:Nat->Prop) (F:Value->World->Prop):Prop:=Calls Go.Proofs.Tryz.prog f az.toArray w (Hi S w F)
end Go.Vc
namespace Go.Sp
open Go.Vc
abbrev F0 (a b:Fh):Bool:=Op.bytesLess a b
theorem IC : ∀a:Fh,F0 a a=false
 | []=>rfl
 | c :: r=>by
  have:=IC r;simp only [F0]at this;simp [F0,Op.bytesLess,this]
theorem J9 : ∀a b c:Fh,F0 a b=true->F0 b c=true->F0 a c=true
 | _,[],_,h,_=>by simp [F0,Op.bytesLess]at h
 | _,_ :: _,[],_,h=>by simp [F0,Op.bytesLess]at h
 | [],_ :: _,_ :: _,_,_=>rfl
 | x :: a,y :: b,z :: c,h1,h2=>by
  have J:=J9 a b c;simp only [F0,Op.bytesLess,BH,Aq,decide_eq_true_eq,beq_iff_eq]at *;rcases h1 with h1|⟨rfl,h1⟩
  ·rcases h2 with h2|⟨rfl,h2⟩
   ·exact .inl (UInt8.lt_trans h1 h2)
   ·exact .inl h1
  ·rcases h2 with h2|⟨rfl,h2⟩
   ·exact .inl h2
   ·exact .inr ⟨rfl,J h1 h2⟩
theorem K5 : ∀a b:Fh,a=b\/F0 a b=true\/F0 b a=true
 | [],[]=>.inl rfl
 | [],_ :: _=>.inr (.inl rfl)
 | _ :: _,[]=>.inr (.inr rfl)
 | x :: a,y :: b=>by
  have z:=K5 a b;simp only [F0,Op.bytesLess,BH,Aq,decide_eq_true_eq,beq_iff_eq]at *
  by_cases h1:x<y
  ·exact .inr (.inl (.inl h1))
  ·by_cases h2:y<x
   ·exact .inr (.inr (.inl h2))
   ·have e:x=y:=UInt8.le_antisymm (Dl.1 h2) (Dl.1 h1);subst e;rcases z with rfl|h|h
    ·exact .inl rfl
    ·exact .inr (.inl (.inr ⟨rfl,h⟩))
    ·exact .inr (.inr (.inr ⟨rfl,h⟩))
theorem KR {a b:Fh}(h:F0 a b=true):F0 b a=false:=by
 cases hb:F0 b a with
 | false=>rfl
 | true=>have:=J9 a b a h hb;rw[IC]at this;cases this
theorem MZ {a b:Fh}(h:F0 a b=true):a≠b:=λe=>by rw[e,IC]at h;cases h
structure Cell where
 key:Fh
 val:Fh
 del:Bool
 seq:Int
deriving DecidableEq
@[reducible] def Cell.cs (c:Cell):List Value:=[S c.key,S c.val,B c.del,I c.seq]
@[reducible] def Cell.v (c:Cell):Value:=.agg ⟨c.cs⟩
def Cell.zero : Cell:=⟨[],[],false,0⟩
def less (a b:Cell):Bool:=if a.key≠b.key then F0 a.key b.key else decide (b.seq<a.seq)
theorem Xps (a:Cell):less a a=false:=by simp [less]
theorem J6 (a b:Cell):less a b=true↔(F0 a.key b.key=true\/(a.key=b.key/\b.seq<a.seq)):=by
 unfold less
 by_cases e:a.key=b.key
 ·simp [e,IC]
 ·rw[if_pos e];simp [e]
variable {a b:Cell}
theorem Om {c:Cell}(h1:less a b=true)(h2:less b c=true):less a c=true:=by
 rw[J6]at *;rcases h1 with h1|⟨e1,h1⟩
 ·rcases h2 with h2|⟨e2,h2⟩
  ·exact .inl (J9 _ _ _ h1 h2)
  ·exact .inl (e2▸h1)
 ·rcases h2 with h2|⟨e2,h2⟩
  ·exact .inl (e1▸h2)
  ·exact .inr ⟨e1.trans e2,by omega⟩
theorem Xts (h:less a b=true):less b a=false:=by
 cases hb:less b a with
 | false=>rfl
 | true=>have:=Om h hb;rw[Xps]at this;cases this
theorem RA (h1:less a b=false)(h2:less b a=false):a.key=b.key/\a.seq=b.seq:=by
 have n1:¬ less a b=true:=by rw[h1];decide
 have n2:¬ less b a=true:=by rw[h2];decide
 rw[J6,not_or]at n1 n2;rcases K5 a.key b.key with h|h|h
 ·refine⟨h,?_⟩;have m1:¬ b.seq<a.seq:=λx=>n1.2 ⟨h,x⟩;have m2:¬ a.seq<b.seq:=λx=>n2.2 ⟨h.symm,x⟩;omega
 ·exact absurd h n1.1
 ·exact absurd h n2.1
theorem Te (h1:a.key=b.key)(h2:a.seq=b.seq):less a b=false:=by simp [less,h1,h2]
def Gk (c:Cell):Bool:=decide (1<=c.key.length) && decide (c.key.length<=4096) && decide (c.val.length<=16384) && (!c.del || decide (c.val=[])) && decide (1<=c.seq) && decide (c.seq<=1099511627776)
def G5 (c:Cell):Nat:=c.key.length+c.val.length+16
def HE (l:List Cell):Nat:=(l.map G5).sum
def first (l:List Cell)(key:Fh)(seq:Int):Option Cell:=l.find? λc=>decide (c.key=key) && decide (c.seq<=seq)
def JT (frm to:Fh)(c:Cell):Bool:=!F0 c.key frm && (decide (to=[]) || F0 c.key to)
def scan (l:List Cell)(frm to:Fh):List Cell:=l.filter (JT frm to)
def pre (l:List Cell)(c:Cell):List Cell:=l.takeWhile (less · c)
def Iq (l:List Cell)(c:Cell):List Cell:=l.dropWhile (less · c)
theorem N5 (l:List Cell)(c:Cell):pre l c++Iq l c=l:=List.takeWhile_append_dropWhile ..
def has (l:List Cell)(c:Cell):Bool:=match Iq l c with
 | s :: _=>decide (s.key=c.key) && decide (s.seq=c.seq)
 | []=>false
def put (l:List Cell)(c:Cell):Bool×List Cell:=if !Gk c || has l c then(false,l)else(true,pre l c++c :: Iq l c)
def FO : List Cell->Prop:=List.Pairwise λa b=>less a b=true
theorem FO.put {l:List Cell}(h:FO l)(c:Cell):FO (put l c).2:=by
 unfold Sp.put;split
 ·exact h
 ·rename_i Y;simp only [BH,not_or,Cb]at Y;have Z:=N5 l c;have h':FO (pre l c++Iq l c):=by rw[Z];exact h
  have hp:∀x∈pre l c,less x c=true:=λx O=>(AO.1 (List.all_takeWhile (p:=λx=>less x c) (l:=l)) x O);have z:=Bj.1 h';have hs:∀x∈Iq l c,less c x=true:=by
   cases hsu:Iq l c with
   | nil=>intro x O;cases O
   | cons s r=>
    have hf:less s c=false:=by
     have:=List.head?_dropWhile_not (λx=>less x c) l;rw[show List.dropWhile (λx=>less x c) l=Iq l c from rfl,hsu]at this;simpa using this
    have J:less c s=true:=by
     cases J:less c s with
     | true=>rfl
     | false=>
      have ht:=RA hf J;have hh:has l c=true:=by unfold has;rw[hsu];simp [ht]
      rw[hh]at Y;cases Y.2
    intro x O;rcases Ah.1 O with rfl|O
    ·exact J
    ·have:=z.2.1;rw[hsu]at this;exact Om J (List.rel_of_pairwise_cons this O)
  refine Bj.2 ⟨z.1,List.pairwise_cons.2 ⟨hs,z.2.1⟩,λa ha b hb=>?_⟩;rcases Ah.1 hb with rfl|hb
  ·exact hp a ha
  ·exact z.2.2 a ha b hb
end Go.Sp
namespace Go.Sp
open Go.Vc (Fh)
def Hk : Nat->Nat->Fh
 | 0,_=>[]
 | k+1,u=>if u<128 then[AC u]else AC (u % 128+128) :: Hk k (u / 128)
def F6 (u:Nat):Fh:=Hk 10 u
def GG : Nat->Nat->Fh->Option (Nat×Fh)
 | _,_,[]=>none
 | i,u,c :: r=>if 9<=i\/(0<i/\c=0)then none else
  if c.toNat<128 then(if 4611686018427387904<u+c.toNat % 128*128 ^ i then none else some (u+c.toNat % 128*128 ^ i,r))
  else GG (i+1) (u+c.toNat % 128*128 ^ i) r
theorem Vg (n:Nat)(h:n<256):(AC n).toNat=n:=by
 rw[UInt8.toNat_ofNat'];exact Br h
theorem UD : ∀(k u:Nat),(Hk k u).length<=k
 | 0,u=>Aa _
 | k+1,u=>by
  unfold Hk;split
  ·simp
  ·have:=UD k (u / 128);simp;omega
theorem Un (k u:Nat):1<=(Hk (k+1) u).length:=by
 unfold Hk;split<;>simp
theorem Gq (u:Nat):(F6 u).length<=10:=UD _ _
theorem Yz : ∀(k i a u:Nat) (r:Fh),u<128 ^ k->i+k<=9->(0<k\/0<i)->(0<i->0<u)->a+u*128 ^ i<=4611686018427387904->GG i a (Hk k u++r)=some (a+u*128 ^ i,r)
 | 0,i,a,u,r,hu,hi,h0,hp,hm=>by
  have:u=0:=by simpa using hu
  subst this
  cases i with
  | zero=>omega
  | succ i=>exact absurd (hp (Nat.succ_pos _)) Fb
 | k+1,i,a,u,r,hu,hi,h0,hp,hm=>by
  unfold Hk;split
  ·rename_i h;rw[AY,AB];unfold GG;have e:(AC u).toNat=u:=Vg u Fb;have z:¬ (9<=i\/(0<i/\AC u=0)):=by
    rintro (h9|⟨h1,h2⟩)
    ·omega
    ·have:=congrArg E0 h2;rw[e]at this;have:=hp h1;simp at *;omega
   rw[if_neg z,e,if_pos h,Br h,if_neg Fb]
  ·rename_i h;rw[AY];unfold GG;have e:(AC (u % 128+128)).toNat=u % 128+128:=Vg _ Fb;have z:¬ (9<=i\/(0<i/\AC (u % 128+128)=0)):=by
    rintro (h9|⟨h1,h2⟩)
    ·omega
    ·have:=congrArg E0 h2;rw[e]at this;simp at this
   have e2:(u % 128+128) % 128=u % 128:=by omega
   have J:a+u % 128*128 ^ i+u / 128*128 ^ (i+1)=a+u*128 ^ i:=by
    have:u*128 ^ i=(u % 128+128*(u / 128))*128 ^ i:=by rw[Nat.mod_add_div]
    rw[this,Cy,CT,BR,Bv 128 (u / 128),Nat.mul_assoc (u / 128),Bv 128]
   rw[if_neg z,e,if_neg Fb,e2,Yz k (i+1) _ (u / 128) r (by rw[CT]at hu;omega) Fb Fb (by intro _;omega) (by rw[J];exact hm),J]
theorem Xvh {u:Nat}(r:Fh)(h:u<=4611686018427387904):GG 0 0 (F6 u++r)=some (u,r):=by
 have e:F6 u=Hk 9 u:=by
  have:∀(k u:Nat),u<128 ^ k->0<k->Hk (k+1) u=Hk k u:=by
   intro k
   induction k with
   | zero=>intro u _ h;omega
   | succ k ih=>
    intro u hu _;unfold Hk;split
    ·rfl
    ·rename_i h1;have hk:0<k:=by
      cases k with
      | zero=>simp at hu;omega
      | succ k=>omega
     rw[<-ih (u / 128) (by rw[CT]at hu;omega) hk]
  exact this 9 u (by
   have:(128:Nat) ^ 9=9223372036854775808:=by decide
   omega) Fj
 rw[e,Yz 9 0 0 u r (by
  have:(128:Nat) ^ 9=9223372036854775808:=by decide
  omega) Fb Fb Fb (by simp;exact h)]
 simp
def FA (p:Fh):Fh:=F6 p.length++p
def rawR (n:Nat)(s:Fh):Option (Fh×Fh):=if s.length<n then none else some (s.take n,s.drop n)
def rowR (s:Fh):Option (Fh×Fh):=(GG 0 0 s).bind λx=>rawR x.1 x.2
def Nf (v:UInt32):UInt32:=(v >>> 1) ^^^ (0xedb88320 &&& (0-(v &&& 1)))
def Lx : Nat->UInt32->UInt32
 | 0,v=>v
 | k+1,v=>Lx k (Nf v)
def Kz (v:UInt32)(c:UInt8):UInt32:=Lx 8 (v ^^^ c.toUInt32)
def Ij (l:Fh):UInt32 := ~~~(l.foldl Kz (~~~0))
def I3 (v:UInt32):Fh:=[v.toUInt8,(v >>> 8).toUInt8,(v >>> 16).toUInt8,(v >>> 24).toUInt8]
def HN (n:UInt32):Fh:=I3 n++I3 (Ij (I3 n))
def F7 (p:Fh):Fh:=(HN (AJ p.length)++p)++I3 (Ij (HN (AJ p.length)++p))
theorem N6 (v:UInt32):(I3 v).length=4:=rfl
theorem Ln (v:UInt32):(HN v).length=8:=rfl
theorem KA (p:Fh):(F7 p).length=p.length+12:=by
 unfold F7;simp only [Ad,Ln,N6];omega
end Go.Sp
namespace Go.Vc
open Go.RowKit
section
variable {P:Program}{E:FE}{w:World}{d:Option Tmp}{op:Op}{ty:TypeId}{pos:String}{af:Array Edge}{g:Option (Nat×Bool)}
def toU (P:Program)(S D n:Nat):Bool:=OO P S && (match P.underlying D with|some .unsafePointer=>true|_=>false) && (match P.info? (P.pointee S)with|some i=>!(i.size == 0)|none=>false)
end
def Ydw (P:Program)(e:Nat):Bool:=match P.info? e with
 | some i=>(i.size == 1) && (i.bytes == 1) && (match i.zero with|some (.int .u8 0)=>true|_=>false)
 | none=>false
section
variable {P:Program}{n:Nat}{ds:List (Option Tmp)}{R:World->World->Prop}{r:List (Oper×Fl×Bool)}{K:FE->World->Prop}{E:FE}{w:World}
variable {d:Nat}{op:Op}{ty:TypeId}{pos:String}{af:Array Edge}{g:Option (Nat×Bool)}{anc:Bool}{v:Value}
end
structure Bld (T e B:Nat)(b:Nat)(v:Value)(l:Fh)(w:World):Prop where
 blk:∃p,(p=.pointer none\/p=Fg b 0)/\Fo w b [p,v] T
 own:Own Fq 1 e B w v l
end Go.Vc
namespace Go.Proofs.YtiooodckiddpmaaGreatDoor
open Go.Vc Go.Sp
attribute [local irreducible] W XW Dw G9
structure Wr (B bw:Nat)(v:Value)(l:Fh)(w:World):Prop where
 m:Fo w bw [v] 142
 o:Vc.Own Fq 1 5 B w v l
@[reducible] def HR (bw:Nat) (v:Value):Nat->Prop:=λk=>k=bw\/v.ownBlock=some k
variable {bw:Nat}{w:World}
theorem Wr.mod {B:Nat}{v:Value}{l:Fh}{S:Nat->Prop}{w':World}(h:Wr B bw v l w)(m:Vc.Mod S w w')(hS:∀k,HR bw v k->¬ S k):Wr B bw v l w':=⟨h.m.mod m (hS bw (.inl rfl)),h.o.mod m (λk hk=>hS k (.inr hk))⟩
theorem Wr.ext {B:Nat}{v:Value}{l:Fh}{w':World}(h:Wr B bw v l w)(m:Fp w w'):Wr B bw v l w':=h.mod m (λ_ _ h=>h)
instance {B bw:Nat} {v:Value} {l:Fh} {w w':World} : Up w w' (Wr B bw v l w) (Wr B bw v l w'):=⟨λx h=>Wr.ext h x⟩
def HC (n:Int):Nat:=(max 0 (min n 4611686018427387904)).toNat
theorem Xx (n:Int):HC n<=4611686018427387904:=by unfold HC;omega
theorem Nz {a:Nat}(h:a<18446744073709551616):IntKind.u64.wrap (a:Int)=a:=by
 have e:IntKind.u64.wrap (a:Int)=(a:Int) % 18446744073709551616:=by unfold IntKind.wrap;simp [IntKind.bits,IntKind.signed]
 rw[e];omega
section
variable {P:Program}{E:FE}{dd:Option Tmp}{ty:TypeId}{pos:String}{af:Array Edge}{g:Option (Nat×Bool)}{x y:Operand}{T U:TypeId}
theorem X9p {n:Int}(hx:ev E x=I (max 0 (min n 4611686018427387904)))(hT:(P.underlying T).isSome=true)(hU:HU P U=some .u64):PV P ⟨dd,.convert T U x,ty,pos,af,g⟩ E (.int .u64 (HC n:Nat)):=by
 have:=JS (P:=P) (d:=dd) (ty:=ty) (pos:=pos) (af:=af) (g:=g) hx hT hU;rwa [show max 0 (min n 4611686018427387904)=((HC n:Nat):Int) by unfold HC;omega,Nz (by have:=Xx n;omega)]at this
theorem Wn {u:Nat}(hx:ev E x=.int .u64 u)(hy:ev E y=.int .u64 7):PV P ⟨dd,.binOp .shr T x y U,ty,pos,af,g⟩ E (.int .u64 (u / 128:Nat)):=by
 have:=Ol (P:=P) (dd:=dd) (ty:=ty) (pos:=pos) (af:=af) (g:=g) (T:=T) (U:=U) hx hy Fj;rwa [show((u:Int)).fdiv (2 ^ min (7:Int).toNat IntKind.u64.bits)=((u / 128:Nat):Int) by
  rw[show(2:Int) ^ min (7:Int).toNat IntKind.u64.bits=128 by decide,CU _ Fb];omega]at this
end
theorem R4 (u:Nat):AC u ||| 128=AC (u % 128+128):=by
 have h:∀c:Fin 256,AC c ||| 128=AC (c.1 % 128+128):=by decide +kernel
 have e:AC u=AC (u % 256):=by apply Ew.1;simp
 rw[e,h ⟨u % 256,Be _ Fj⟩]
 congr 1;simp only;omega
theorem Xvk {α β:Type}{l:List α}{k:Nat}{x:α}(f:α->List β)(h:l[k]?=some x):(l.take (k+1)).flatMap f=(l.take k).flatMap f++f x:=by
 rw[Bw,h,Bb];simp
def G4 (n:Int):Fh:=F6 (HC n)
theorem FF (ns:List Int)(k:Nat):((ns.take k).flatMap G4).length<=10*k:=by
 induction ns generalizing k with
 | nil=>simp
 | cons a r ih=>
  cases k with
  | zero=>simp
  | succ k=>rw[C0,AF,Ad];have:=Gq (HC a);have:=ih k;unfold G4 at *;omega
@[reducible] def H0 (w:World) (v v':Value):Prop:=v'.ownBlock=v.ownBlock\/∀k,v'.ownBlock=some k->w.heap.size<=k
theorem Qb {v v':Value}{i:Nat}(h:H0 w v v')(hi:v'.ownBlock=some i)(hlt:i<w.heap.size):HR bw v i:=by
 rcases h with e|e
 ·exact .inr (e▸hi)
 ·exact absurd (e i hi) Fb
theorem WT {α:Type}{l:List α}{v v':Value}{n:Nat}(h:H0 w v v')(hd:∀k,HR bw v k->l≠[]->n≠k)(hb:l≠[]->n<w.heap.size):l≠[]->¬ v'.ownBlock=some n:=by
 intro z e;rcases h with h|h
 ·exact hd n (.inr (h▸e)) z rfl
 ·have:=h n e;have:=hb z;omega
theorem R0 {v v1 v2:Value}{n:Nat}(h:H0 w v v1)(hs:v2.ownBlock=v1.ownBlock\/v2.ownBlock=some n)(hn:w.heap.size<=n):H0 w v v2:=by
 rcases hs with e|e
 ·rcases h with e1|e1
  ·exact .inl (e.trans e1)
  ·exact .inr (λk hk=>e1 k (e▸hk))
 ·exact .inr (λk hk=>by rw[e]at hk;cases hk;exact hn)
theorem VX {j u:Nat}{dn X:Fh}(hj:1<=j)(hu:u<128 ^ j)(h:128<=u)(e:dn++Hk j u=X):2<=j/\u / 128<128 ^ (j-1)/\(dn++[AC u ||| 128])++Hk (j-1) (u / 128)=X:=by
 obtain⟨j,rfl⟩:∃i,j=i+1:=⟨j-1,by omega⟩;unfold Hk at e;rw[if_neg Fb]at e;refine⟨?_,by rw[CT]at hu;simp;omega,by rw[R4,A3];exact e⟩
 cases j with
 | zero=>simp at hu;omega
 | succ j=>omega
theorem V3 {j u:Nat}{dn X:Fh}(hj:1<=j)(h:¬ 128<=u)(e:dn++Hk j u=X):dn++[AC u]=X:=by
 obtain⟨j,rfl⟩:∃i,j=i+1:=⟨j-1,by omega⟩;unfold Hk at e;rwa [if_pos Fb]at e
theorem X9q (B bw:Nat)(v:Value)(l:Fh)(p:Fh)(vp:Value)(w:World)(h:Wr B bw v l w)(hl:l.length<=1000000000)(hB:B<=w.heap.size)(hp:Fs Fq 1 w vp p)(hpl:p.length<=1000000000) :
  Gy 155 [Fg bw 0,vp] w (HR bw v) λu w'=>u=.tuple #[]/\∃v',Wr B bw v' (l++p) w'/\H0 w v v':=by
 refine cM Tryz.func155 (HR bw v) λO=>?_;obtain⟨hm,ho⟩:=h;have hne:=ho.ne_blk hm rfl;have z:H0 w v v:=.inl rfl;refine go ?_;refine dp (OX Fe rfl rfl) ?_;refine Fk (λc1=>?_) λc1=>?_
 ·refine go ?_;refine LY (lx:=p) (e:=5) (sz:=1) (by':=1) rfl Fe Fe Ff ho (hp) rfl rfl (by intro x _ u hu;simp at hu;rcases hu with rfl<;>rfl) (by simp;omega) Fj (Ae hB O.size) (.inl rfl) (λv2 w1 Y x1 Z=>?_);have J:=R0 z Z O.size;have hm:=hm.mod x1 Fw;have O:=O.own x1 (λi hi ha=>Qb z hi ha);have ho:=Y;have z:=J;clear J;have hne2:=ho.ne_blk hm rfl;refine go ?_;refine HG hm (λw2 x2 xs2 hm=>?_) (hv:=by exact Fv.one ho.sl);have ho:=ho.mod x2 Fw;have O:=O.own x2 F4;refine go ?_;refine HV (Hx rfl ?_);exact⟨_,rfl,O,rfl,v2,⟨hm,ho⟩,z⟩
 exact absurd c1 F5
theorem KT (B bw:Nat)(v:Value)(l:Fh)(ns:List Int)(vn:Value)(w:World)(h:Wr B bw v l w)(hl:l.length<=1000000000)(hB:B<=w.heap.size)(hn:Fs Vc.encI 1 w vn ns)(hnl:ns.length<=100000)(hnd:∀k,HR bw v k->ns≠[]->(base vn).1≠k) :
  Gy 79 [Fg bw 0,vn] w (HR bw v) λu w'=>u=.tuple #[]/\∃v',Wr B bw v' (l++ns.flatMap G4) w'/\H0 w v v':=by
 refine cM Tryz.func79 (HR bw v) λJ=>?_;obtain⟨hm,ho⟩:=h;have hc:=ho.ne_blk hm rfl;have z:H0 w v v:=.inl rfl;have ha:ns≠[]->(base vn).1<w.heap.size:=λe=>hn.base_lt Fj e;refine go ?_;refine dp (GS Fe rfl rfl) ?_;refine Fk (λc1=>?_) λc1=>?_
 ·exact absurd c1 F5
 refine FL 3 1 hn.sl ?_;refine F9 (G:=Nat×Value×Fh) (λ(k,vc,lc)=>[(0,Fg bw 0),(9,vn),(10,I ↑ns.length),(11,I ↑k)]) (λ(k,vc,lc) w'=>Mod (HR bw v) w w'/\Fs Vc.encI 1 w' vn ns/\k<=ns.length/\Fo w' bw [vc] 142/\Vc.Own Fq 1 5 B w' vc lc/\lc=l++(ns.take k).flatMap G4/\H0 w v vc) (λ(k,vc,lc)=>ns.length-k) (0,v,l) ⟨J,hn,Ab _,hm,ho,by simp,.inl rfl⟩ ?_;rintro _ ⟨k,vc,lc⟩ w1 ⟨J,hn,hk1,hm,ho,hlc,z⟩;refine Fk (λc2=>?_) λc2=>?_
 ·obtain⟨x,hk⟩:∃x,ns[k]?=some x:=F8;refine FK 3 1 hn.sl (hn.lt hk) ?_;refine dl rfl ((hn.row hk).at0 rfl) (go ?_);refine dp (Xu rfl rfl) (dp (Sr rfl rfl) (dp (X9p rfl Fe Fe) (F9 (G:=Nat×Nat×Value×Fh×Fh) (λ(j,u,vd,ld,dn)=>[(0,Fg bw 0),(6,.int .u64 ↑u),(9,vn),(10,I ↑ns.length),(11,I ↑k)]) (λ(j,u,vd,ld,dn) w'=>Mod (HR bw v) w w'/\Fs Vc.encI 1 w' vn ns/\1<=j/\u<128 ^ j/\Fo w' bw [vd] 142/\Vc.Own Fq 1 5 B w' vd ld/\ld=lc++dn/\dn++Hk j u=G4 x/\H0 w v vd) (λ(j,u,vd,ld,dn)=>j) (10,HC x,vc,lc,[]) ⟨J,hn,by omega,by have:=Xx x;omega,hm,ho,by simp,rfl,z⟩ ?_)));rintro _ ⟨j,u,vd,ld,dn⟩ w2 ⟨J,hn,hj,hju,hm,ho,hld,hdn,z⟩;refine go ?_;refine dp (HW rfl rfl) ?_;refine Fk (λc3=>?_) λc3=>?_
  ·have hc:=ho.ne_blk hm rfl;have hf:ld.length<=2001000020:=by
    have h1:=FF ns k;have h2:=Gq (HC x);have h3:=congrArg A5 hdn;rw[hld,hlc];unfold G4 at *;simp only [Ad]at *;omega
   refine go ?_;refine dp (N2 rfl Fe Fe) (dp (PW (b:=128) rfl rfl) (li (e:=5) (sz:=1) (zs:=[.int .u8 0]) (pv:=[(0,_)]) (cs:=[_]) RX.all (λb1 w3 e1 x3 m1=>?_)));have g1:=J.ge e1;have a1_hn:=Fs.base_lt hn Fj;have a1_hm:=hm.lt;have o1_ho:=ho.ltb e1;refine FP x3 hn hm ho J λhn hm ho J=>?_;refine LY (lx:=[AC u ||| 128]) (e:=5) (sz:=1) (by':=1) rfl Fe Fe Ff ho (m1.arr (enc:=Fq) (sz:=1) (l:=[AC u ||| 128]) rfl Ff rfl (Aj rfl)) rfl rfl (by intro x _ u hu;simp at hu;rcases hu with rfl<;>rfl) (by simp;omega) Fj (Ae hB J.size) (.inl rfl) (λv2 w4 Y x4 hg=>?_);have O:=R0 z hg J.size;have hn:=hn.mod x4 (by exact WT z hnd ha);have hm:=hm.mod x4 Fw;have J:=J.own x4 (λi hi Z=>Qb z hi Z);have ho:=Y;have z:=O;clear O;clear m1;have hh:=ho.ne_blk hm rfl;refine go ?_;refine HG hm (λw5 x5 xs5 hm=>?_) (hv:=by exact Fv.one ho.sl);have hn:=hn.mod x5 (λh e=>hnd bw (.inl rfl) h e);have ho:=ho.mod x5 Fw;have J:=J.own x5 F4;refine go ?_;refine dp (Wn rfl rfl) (go ?_);obtain⟨h2,h3,h4⟩:=VX hj hju Fb hdn;refine FJ (j-1,u / 128,v2,ld++[AC u ||| 128],dn++[AC u ||| 128]) ⟨J,hn,by omega,h3,hm,ho,by rw[hld,A3],h4,z⟩
  have hc:=ho.ne_blk hm rfl;have hf:ld.length<=2001000020:=by
   have h1:=FF ns k;have h2:=Gq (HC x);have h3:=congrArg A5 hdn;rw[hld,hlc];unfold G4 at *;simp only [Ad]at *;omega
  refine go ?_;refine dp (N2 rfl Fe Fe) (li (e:=5) (sz:=1) (zs:=[.int .u8 0]) (pv:=[(0,_)]) (cs:=[_]) RX.all (λb2 w6 e2 x6 m2=>?_));have g2:=J.ge e2;have a2_hn:=Fs.base_lt hn Fj;have a2_hm:=hm.lt;have o2_ho:=ho.ltb e2;refine FP x6 hn hm ho J λhn hm ho J=>?_;refine LY (lx:=[AC u]) (e:=5) (sz:=1) (by':=1) rfl Fe Fe Ff ho (m2.arr (enc:=Fq) (sz:=1) (l:=[AC u]) rfl Ff rfl (Aj rfl)) rfl rfl (by intro x _ u hu;simp at hu;rcases hu with rfl<;>rfl) (by simp;omega) Fj (Ae hB J.size) (.inl rfl) (λv2 w7 Y x7 hp=>?_);have O:=R0 z hp J.size;have hn:=hn.mod x7 (by exact WT z hnd ha);have hm:=hm.mod x7 Fw;have J:=J.own x7 (λi hi Z=>Qb z hi Z);have ho:=Y;have z:=O;clear O;clear m2;have hh:=ho.ne_blk hm rfl;refine go ?_;refine HG hm (λw8 x8 xs8 hm=>?_) (hv:=by exact Fv.one ho.sl);have hn:=hn.mod x8 (λh e=>hnd bw (.inl rfl) h e);have ho:=ho.mod x8 Fw;have J:=J.own x8 F4;refine go ?_;refine FJ (k+1,v2,ld++[AC u]) ⟨J,hn,by omega,hm,ho,?_,z⟩;rw[hld,hlc,Xvk G4 hk,<-V3 hj Fb hdn];simp only [A3]
 refine go ?_;refine HV (Hx rfl ?_);rw[Ar Fb]at hlc;subst hlc;exact⟨_,rfl,J,rfl,vc,⟨hm,ho⟩,z⟩
theorem Nt (p:Fh)(vp:Value)(w:World)(hp:Fs Fq 1 w vp p)(hpl:p.length<=2001000020) :
  Gf 87 [vp] w λu w'=>Vc.Own Fq 1 5 w.heap.size w' u p:=by
 refine cE Tryz.func87 λz=>go ?_;refine dp (PK (e:=5) (k:=1) Fe hp.sl rfl rfl) ?_;refine FZ (λO=>?_) λO=>?_
 ·refine go ?_;refine⟨_,rfl,z,?_⟩;have e:p.length=0:=by
   rcases hp.sl with⟨_,e⟩|⟨b,o,c,e,_⟩|⟨e,_⟩
   ·exact e
   ·rw[e]at O;simp [O6]at O
   ·exact e
  rw[Az e];exact Vc.Own.nil
 refine go ?_;refine IY (e:=5) (sz:=1) rfl Fe RX.all (λb1 w1 e1 x1 Y=>?_);have g1:=z.ge e1;have z:=z.trans x1;refine go ?_;have ho:=Y.own (enc:=Fq) (B:=w.heap.size) (l:=[]) (sz:=1) (m:=0) g1 rfl Ff rfl F5;refine Hf ho (hp.ext z) λvm w2 J Z=>?_;have z:=z.own Z F4;have ho:=J;refine go ?_;exact⟨_,rfl,z,ho⟩
theorem Od (B bw:Nat)(v:Value)(l:Fh)(w:World)(h:Wr B bw v l w)(hl:l.length<=2001000020) :
  Gf 81 [Fg bw 0] w λu w'=>Vc.Own Fq 1 5 w.heap.size w' u l:=by
 refine cE Tryz.func81 λz=>?_;obtain⟨hm,ho⟩:=h;refine go ?_;refine dp (GS Fe rfl rfl) ?_;refine Fk (λJ=>?_) λJ=>?_
 ·exact absurd J F5
 refine Ge (Nt l v _ ((ho.ext z).arr Ff) hl) λvo w1 O Y=>?_;have hsz1:=z.size;have z:=z.trans O;refine go ?_;exact⟨_,rfl,z,Y⟩
end Go.Proofs.YtiooodckiddpmaaGreatDoor
namespace Go.Vc
open Go.RowKit
@[reducible] def Ha (c:UInt32):Value:=.int .u32 c.toNat
theorem LW (n:Int):IntKind.u32.wrap n=n % 4294967296:=by simp [IntKind.wrap,IntKind.bits,IntKind.signed]
theorem MO (a:UInt32):AK 32 (a.toNat:Int)=a.toBitVec:=by
 apply Ex
 rw[Ey];have:=a.toNat_lt;show((a.toNat:Int) % ((2 ^ 32:Nat):Int)).toNat=a.toNat;omega
section
variable {P:Program}{E:FE}{d:Option Tmp}{ty:TypeId}{pos:String}{af:Array Edge}{g:Option (Nat×Bool)}{w:World}{T U:TypeId}{x y:Operand}
variable {a b:UInt32}
theorem RC (hx:ev E x=Ha a)(hy:ev E y=Ha b):PV P ⟨d,.binOp .and T x y U,ty,pos,af,g⟩ E (Ha (a &&& b)):=by
 have:=LN (P:=P) (dd:=d) (ty:=ty) (pos:=pos) (af:=af) (g:=g) (T:=T) (U:=U) (op:=.and) (.inl rfl) hx hy;rwa [show Lo .and .u32 (a.toNat:Int) b.toNat=((a &&& b).toNat:Int) by
  show IntKind.u32.wrap ((AK 32 (a.toNat:Int) &&& AK 32 (b.toNat:Int)).toNat:Int)=_;rw[MO,MO,LW];have:=(a &&& b).toNat_lt;show(((a &&& b).toNat:Int)) % 4294967296=_;omega]at this
theorem Pe (hx:ev E x=Ha a)(hy:ev E y=Ha b):PV P ⟨d,.binOp .or T x y U,ty,pos,af,g⟩ E (Ha (a ||| b)):=by
 have:=LN (P:=P) (dd:=d) (ty:=ty) (pos:=pos) (af:=af) (g:=g) (T:=T) (U:=U) (op:=.or) (.inr (.inl rfl)) hx hy;rwa [show Lo .or .u32 (a.toNat:Int) b.toNat=((a ||| b).toNat:Int) by
  show IntKind.u32.wrap ((AK 32 (a.toNat:Int) ||| AK 32 (b.toNat:Int)).toNat:Int)=_;rw[MO,MO,LW];have:=(a ||| b).toNat_lt;show(((a ||| b).toNat:Int)) % 4294967296=_;omega]at this
theorem NS (hx:ev E x=Ha a)(hy:ev E y=Ha b):PV P ⟨d,.binOp .xor T x y U,ty,pos,af,g⟩ E (Ha (a ^^^ b)):=by
 have:=LN (P:=P) (dd:=d) (ty:=ty) (pos:=pos) (af:=af) (g:=g) (T:=T) (U:=U) (op:=.xor) (.inr (.inr (.inl rfl))) hx hy;rwa [show Lo .xor .u32 (a.toNat:Int) b.toNat=((a ^^^ b).toNat:Int) by
  show IntKind.u32.wrap ((AK 32 (a.toNat:Int) ^^^ AK 32 (b.toNat:Int)).toNat:Int)=_;rw[MO,MO,LW];have:=(a ^^^ b).toNat_lt;show(((a ^^^ b).toNat:Int)) % 4294967296=_;omega]at this
theorem LB {k:IntKind}(hb:b.toNat<32)(hx:ev E x=Ha a)(hy:ev E y=.int k b.toNat):PV P ⟨d,.binOp .shr T x y U,ty,pos,af,g⟩ E (Ha (a >>> b)):=by
 have:=Ol (P:=P) (dd:=d) (ty:=ty) (pos:=pos) (af:=af) (g:=g) (T:=T) (U:=U) hx hy Fb;rwa [show((a.toNat:Int)).fdiv (2 ^ min ((b.toNat:Int)).toNat IntKind.u32.bits)=((a >>> b).toNat:Int) by
  rw[BQ,show min b.toNat IntKind.u32.bits=b.toNat by show min b.toNat 32=_;omega,UInt32.toNat_shiftRight,Br hb,Nat.shiftRight_eq_div_pow,CU _ (Int.le_of_lt (Int.pow_pos Fj))];simp]at this
theorem Oq {k:IntKind}(hb:b.toNat<32)(hx:ev E x=Ha a)(hy:ev E y=.int k b.toNat):PV P ⟨d,.binOp .shl T x y U,ty,pos,af,g⟩ E (Ha (a <<< b)):=by
 have:=Ov (P:=P) (dd:=d) (ty:=ty) (pos:=pos) (af:=af) (g:=g) (T:=T) (U:=U) hx hy Fb;rwa [show IntKind.u32.wrap ((a.toNat:Int)*2 ^ min ((b.toNat:Int)).toNat IntKind.u32.bits)=((a <<< b).toNat:Int) by
  rw[BQ,show min b.toNat IntKind.u32.bits=b.toNat by show min b.toNat 32=_;omega,UInt32.toNat_shiftLeft,Br hb,Nat.shiftLeft_eq,LW];simp]at this
theorem MF {c:UInt8}(hx:ev E x=b8 c)(hT:(P.underlying T).isSome=true)(hU:HU P U=some .u32):PV P ⟨d,.convert T U x,ty,pos,af,g⟩ E (Ha c.toUInt32):=by
 have:=JS (P:=P) (d:=d) (ty:=ty) (pos:=pos) (af:=af) (g:=g) hx hT hU;rwa [show IntKind.u32.wrap (c.toNat:Int)=(c.toUInt32.toNat:Int) by rw[LW];have:=c.toNat_lt;simp;omega]at this
theorem MQ {c:UInt32}(hx:ev E x=Ha c)(hT:(P.underlying T).isSome=true)(hU:HU P U=some .u8):PV P ⟨d,.convert T U x,ty,pos,af,g⟩ E (b8 c.toUInt8):=by
 have:=JS (P:=P) (d:=d) (ty:=ty) (pos:=pos) (af:=af) (g:=g) hx hT hU;rwa [show IntKind.u8.wrap (c.toNat:Int)=(c.toUInt8.toNat:Int) by rw[OD];simp]at this
theorem X59 {c:UInt32}(hx:ev E x=Ha c):PV P ⟨d,.unOp .neg T x,ty,pos,af,g⟩ E (Ha (0-c)):=λw=>by
 have e:IntKind.u32.wrap (-(c.toNat:Int))=((-c).toNat:Int):=by rw[LW,UInt32.toNat_neg];have:=c.toNat_lt;simp [UInt32.size];omega
 simp [execOp,hx,Op.unary,Op.intArith,e]
theorem Wv {c:UInt32}(hx:ev E x=Ha c):PV P ⟨d,.unOp .xor T x,ty,pos,af,g⟩ E (Ha (~~~c)):=λw=>by
 have e:Lo .xor .u32 4294967295 (c.toNat:Int)=((~~~c).toNat:Int):=by
  show IntKind.u32.wrap ((AK 32 ((4294967295:UInt32).toNat:Int) ^^^ AK 32 (c.toNat:Int)).toNat:Int)=_;rw[MO,MO,LW];have h:(4294967295:UInt32) ^^^ c = ~~~c:=by
   apply UInt32.toBitVec_inj.1
   simp;exact BitVec.allOnes_xor
  have:=((4294967295:UInt32) ^^^ c).toNat_lt;show((((4294967295:UInt32) ^^^ c).toNat:Int)) % 4294967296=_;rw[<-h];omega
 have e2:(if IntKind.u32.signed=true then(-1:Int)else IntKind.u32.max)=4294967295:=by decide
 simp [execOp,hx,Op.unary,Op.intBits,e2];simpa [Lo]using e
end
end Go.Vc
namespace Go.Proofs.YtiooodckiddpmaaGreatDoor
open Go.Vc Go.Sp
attribute [local irreducible] W XW Dw G9
theorem Xvm {j:Nat}{z X:UInt32}(hj:j<8)(h:Lx (8-j) z=X):Lx (8-(j+1)) (Nf z)=X:=by
 obtain⟨m,e⟩:∃m,8-j=m+1:=⟨7-j,by omega⟩;rw[e]at h;rw[show 8-(j+1)=m by omega];exact h
variable {i:Nat}
theorem Xvn {p:Fh}{c:UInt8}{v:UInt32}(h:p[i]?=some c):(p.take (i+1)).foldl Kz v=Kz ((p.take i).foldl Kz v) c:=by
 rw[Bw,h,BC];rfl
theorem Sq (p:Fh)(vp vr:Value)(w:World)(hr:Fs (λx:Value=>[x]) 1 w vr [vp])(hp:Fs Fq 1 w vp p)(hpl:p.length<=2001000020) :
  FW 159 [vr] w (Ha (Ij p)):=by
 refine cE Tryz.func159 λJ=>FL 82 1 hr.sl ?_;refine F9 (G:=Nat×UInt32) (λ(k,v)=>[(2,.int .u32 0),(3,Ha v),(8,vr),(9,I 1),(10,I ↑k)]) (λ(k,v) w'=>Fp w w'/\k<=1/\v=if k=0 then ~~~0 else p.foldl Kz (~~~0)) (λ(k,v)=>1-k) (0,~~~0) ⟨J,Ab _,rfl⟩ ?_;rintro _ ⟨k,v⟩ w1 ⟨J,hk1,hv⟩;refine Fk (λY=>?_) λY=>?_
 ·have O:[vp][k]?=some vp:=by
   have e:k=0:=by omega
   subst e;rfl
  refine FK 82 1 hr.sl (hr.lt O) ?_;refine dl rfl (((hr.ext J).row O).at0 rfl) (FL 5 1 hp.sl ?_);refine F9 (G:=Nat×UInt32) (λ(i,u)=>[(2,.int .u32 0),(3,Ha u),(8,vr),(9,I 1),(10,I ↑k),(14,vp),(15,I ↑p.length),(16,I ↑i)]) (λ(i,u) w'=>Fp w w'/\i<=p.length/\u=(p.take i).foldl Kz (~~~0)) (λ(i,u)=>p.length-i) (0,v) ⟨J,Ab _,by rw[if_pos (show k=0 by omega)]at hv;exact hv⟩ ?_;rintro _ ⟨i,u⟩ w2 ⟨J,hi1,hu⟩;refine Fk (λZ=>?_) λZ=>?_
  ·obtain⟨c,hk⟩:∃c,p[i]?=some c:=F8;refine FK 5 1 hp.sl (hp.lt hk) ?_;refine dl rfl (((hp.ext J).row hk).at0 rfl) (go ?_);refine dp (MF rfl Fe Fe) (dp (NS rfl rfl) (F9 (G:=Nat×UInt32) (λ(j,z)=>[(2,.int .u32 0),(3,Ha z),(8,vr),(9,I 1),(10,I ↑k),(14,vp),(15,I ↑p.length),(16,I ↑i),(24,I ↑j)]) (λ(j,z) w'=>Fp w w'/\j<=8/\Lx (8-j) z=Kz u c) (λ(j,z)=>8-j) (0,u ^^^ c.toUInt32) ⟨J,Ab _,rfl⟩ ?_));rintro _ ⟨j,z⟩ w3 ⟨J,hj1,hz⟩;refine Fk (λc3=>?_) λc3=>?_
   ·refine go ?_;refine dp (LB (b:=1) Fj rfl rfl) (go ?_);refine dp (RC (b:=1) rfl rfl) (dp (X59 rfl) (dp (RC (a:=0xedb88320) rfl rfl) (dp (NS rfl rfl) (go ?_))));refine FJ (j+1,Nf z) ⟨J,by omega,Xvm Fb hz⟩
   refine go ?_;rw[show 8-j=0 by omega]at hz;refine FJ (i+1,z) ⟨J,by omega,by rw[Xvn hk,<-hu];exact hz⟩
  refine go ?_;rw[Ar Fb]at hu;refine FJ (k+1,u) ⟨J,by omega,by rw[if_neg Fb];exact hu⟩
 refine gc ?_;refine dm ?_;refine dp (Wv rfl) (go ?_);refine⟨?_,J⟩;rw[show k=1 by omega,if_neg Fj]at hv;rw[hv];rfl
theorem Qu (v:UInt32)(w:World) :
  Gf 158 [Ha v] w λu w'=>∃b,u=.slice (some ⟨b,0,none⟩) 4 4/\w.heap.size<=b/\Fs Fq 1 w' u (I3 v):=by
 refine cE Tryz.func158 λz=>go ?_;refine dp (MQ rfl Fe Fe) (go ?_);refine dp (LB (b:=8) Fj rfl rfl) (dp (MQ rfl Fe Fe) (go ?_));refine dp (LB (b:=16) Fj rfl rfl) (dp (MQ rfl Fe Fe) (go ?_));refine dp (LB (b:=24) Fj rfl rfl) (dp (MQ rfl Fe Fe) (li (e:=5) (sz:=1) (zs:=[.int .u8 0]) (pv:=[(0,_),(1,_),(2,_),(3,_)]) (cs:=[_,_,_,_]) RX.all (λb1 w1 e1 O J=>?_)));have g1:=z.ge e1;have z:=z.trans O;refine go ?_;exact⟨_,rfl,z,b1,rfl,g1,J.arr (enc:=Fq) (sz:=1) (l:=I3 v) rfl Ff rfl (by rw[N6];decide)⟩
section
variable {P:Program}{E:FE}{dd:Option Tmp}{ty:TypeId}{pos:String}{af:Array Edge}{g:Option (Nat×Bool)}{x y:Operand}{T U:TypeId}
theorem and7 {u:Nat}(hu:u<18446744073709551616)(hx:ev E x=.int .u64 (u:Int))(hy:ev E y=.int .u64 127):PV P ⟨dd,.binOp .and T x y U,ty,pos,af,g⟩ E (.int .u64 ((u % 128:Nat):Int)):=by
 have:=LN (P:=P) (dd:=dd) (ty:=ty) (pos:=pos) (af:=af) (g:=g) (T:=T) (U:=U) (op:=.and) (.inl rfl) hx hy;have e:Lo .and .u64 (u:Int) 127=((u % 128:Nat):Int):=by
  show IntKind.u64.wrap (((AK 64 (u:Int) &&& AK 64 ((127:Nat):Int)).toNat:Nat):Int)=_;rw[CE,CE,BitVec.toNat_and,CF,CF,Br Fb,Br Fb,DO u 7,Nz Fb]
 rw[e]at this;exact this
end
theorem Ycl (u:Nat):AC (u % 128) ||| 128=AC u ||| 128:=by rw[R4,R4,Nat.mod_mod]
theorem My (n:Nat)(w:World)(hn:n<=4611686018427387904) :
  Gf 205 [I ↑n] w λu w'=>Vc.Own Fq 1 5 w.heap.size w' u (F6 n):=by
 refine cE Tryz.func205 λz=>?_;refine wS (g0 ?_);refine wS (g0 ?_);refine GK (G:=Unit) (λY=>[(2,.slice none 0 0),(3,.int .u64 ↑n)]) (λY w'=>Fp w w'/\True) ?_ ?_
 ·refine Fk (λc1=>?_) λc1=>?_
  ·omega
  refine Fk (λc2=>?_) λc2=>?_
  ·refine go ?_;refine F3 (v:=.int .u64 ↑n) rfl (JS (k:=.u64) rfl Fe Fe) (by show Value.int _ _=_;rw[Nz Fb]) (go ?_);exact⟨(),Mw,z,trivial⟩
  have O:n=0:=by omega
  subst O;refine go ?_;exact⟨(),Mw,z,trivial⟩
 rintro _ Y w1 ⟨z,htr⟩;refine F9 (G:=Nat×Nat×Value×Fh) (λ(j,u,vd,ld)=>[(2,.slice none 0 0),(3,.int .u64 ↑u),(4,vd)]) (λ(j,u,vd,ld) w'=>Fp w w'/\1<=j/\u<128 ^ j/\u<=4611686018427387904/\ld.length+j=10/\ld++Hk j u=F6 n/\Vc.Own Fq 1 5 w.heap.size w' vd ld) (λ(j,u,vd,ld)=>j) (10,n,.slice none 0 0,[]) ⟨z,by decide,by omega,hn,rfl,rfl,Vc.Own.nil⟩ ?_;rintro _ ⟨j,u,vd,ld⟩ w2 ⟨z,hj,hju,hu2,hll,hdn,ho⟩;refine go ?_;refine dp (HW rfl rfl) ?_;refine Fk (λc3=>?_) λc3=>?_
 ·refine go ?_;refine dp (and7 Fb rfl rfl) (dp (N2 (n:=u % 128) rfl Fe Fe) (dp (PW (b:=128) rfl rfl) (li (e:=5) (sz:=1) (zs:=[.int .u8 0]) (pv:=[(0,_)]) (cs:=[_]) RX.all (λb1 w3 e1 x3 m1=>?_))));have g1:=z.ge e1;have o1_ho:=ho.ltb e1;refine Fz x3 ho z λho z=>G1 (AC (u % 128) ||| 128) ho m1 λZ w4 J x4=>?_;have z:=z.own x4 F4;have ho:=J;clear m1;refine go ?_;refine dp (Wn rfl rfl) (go ?_);obtain⟨h2,h3,h4⟩:=VX hj hju Fb hdn;refine FJ (j-1,u / 128,Z,ld++[AC (u % 128) ||| 128]) ⟨z,by omega,h3,by omega,by simp;omega,by rw[Ycl];exact h4,ho⟩
 refine go ?_;refine dp (N2 (n:=u) rfl Fe Fe) (li (e:=5) (sz:=1) (zs:=[.int .u8 0]) (pv:=[(0,_)]) (cs:=[_]) RX.all (λb2 w5 e2 x5 m2=>?_));have g2:=z.ge e2;have o2_ho:=ho.ltb e2;refine Fz x5 ho z λho z=>G1 (AC u) ho m2 λZ w6 J x6=>?_;have z:=z.own x6 F4;have ho:=J;clear m2;refine go ?_;rw[V3 hj Fb hdn]at ho;exact⟨_,rfl,z,ho⟩
theorem Ns (p:Fh)(v:Value)(w:World)(hv:Fs Fq 1 w v p)(hl:p.length<=10000000000000) :
  Gf 206 [v] w λu w'=>Vc.Own Fq 1 5 w.heap.size w' u (FA p):=by
 refine cE Tryz.func206 λz=>?_;have hnl:=Gq p.length;refine FL 5 1 (hv.ext z).sl ?_;refine cG (My p.length _ Fb) RX.all λvn w1 x1 Y=>?_;have J:=z.size;have z:=z.trans x1;have ho:=Y.mono J;refine go ?_;refine HZ (lx:=p) (e:=5) (sz:=1) (by':=1) rfl Fe Fe Ff ho ((hv.ext z)) rfl rfl (by intro x _ u hu;simp at hu;rcases hu with rfl<;>rfl) (by simp;omega) Fj z.size (.inl rfl) (λv2 w2 O Z=>?_);have z:=z.own Z F4;have ho:=O;refine go ?_;exact⟨_,rfl,z,ho⟩
theorem Ry (v:UInt32)(w:World) :
  Gf 273 [Ha v] w λu w'=>Vc.Own Fq 1 5 w.heap.size w' u (I3 v):=by
 refine cE Tryz.func273 λz=>go ?_;refine dp (MQ rfl Fe Fe) (go ?_);refine dp (LB (b:=8) Fj rfl rfl) (dp (MQ rfl Fe Fe) (go ?_));refine dp (LB (b:=16) Fj rfl rfl) (dp (MQ rfl Fe Fe) (go ?_));refine dp (LB (b:=24) Fj rfl rfl) (dp (MQ rfl Fe Fe) (li (e:=5) (sz:=1) (zs:=[.int .u8 0]) (pv:=[(0,_),(1,_),(2,_),(3,_)]) (cs:=[_,_,_,_]) RX.all (λb1 w1 e1 O J=>?_)));have g1:=z.ge e1;have z:=z.trans O;refine go ?_;exact⟨_,rfl,z,J.own (enc:=Fq) (B:=w.heap.size) (l:=I3 v) (sz:=1) (m:=4) g1 rfl Ff rfl (by rw[N6];decide)⟩
theorem UQ (p:Fh)(vp:Value)(w:World)(hp:Fs Fq 1 w vp p)(hpl:p.length<=2001000020) :
  Gf 274 [vp] w λu _=>∃v:UInt32,u=Ha v:=by
 refine cE Tryz.func274 λJ=>F9 (G:=Nat×UInt32) (λ(i,u)=>[(0,vp),(2,.int .u32 0),(3,Ha u),(4,I ↑i)]) (λ(i,u) w'=>Fp w w'/\i<=p.length) (λ(i,u)=>p.length-i) (0,~~~0) ⟨J,Ab _⟩ ?_;rintro _ ⟨i,u⟩ w1 ⟨J,hi1⟩;refine FL 5 1 (hp.ext J).sl ?_;refine Fk (λO=>?_) λO=>?_
 ·obtain⟨c,hk⟩:∃c,p[i]?=some c:=F8;refine FK 5 1 hp.sl (hp.lt hk) ?_;refine dl rfl (((hp.ext J).row hk).at0 rfl) (dp (MF rfl Fe Fe) (dp (NS rfl rfl) (F9 (G:=Nat×UInt32) (λ(j,z)=>[(0,vp),(2,.int .u32 0),(3,Ha z),(4,I ↑i),(5,I ↑j)]) (λ(j,z) w'=>Fp w w'/\j<=8) (λ(j,z)=>8-j) (0,u ^^^ c.toUInt32) ⟨J,Ab _⟩ ?_)));rintro _ ⟨j,z⟩ w2 ⟨J,hj1⟩;refine Fk (λY=>?_) λY=>?_
  ·refine go ?_;refine dp (RC (b:=1) rfl rfl) ?_;refine Fk (λZ=>?_) λZ=>?_
   ·refine go ?_;refine dp (LB (b:=1) Fj rfl rfl) (dp (NS (b:=0xedb88320) rfl rfl) (go ?_));exact⟨(j+1,_),GC,⟨J,by omega⟩,by simp only [];omega⟩
   refine go ?_;refine dp (LB (b:=1) Fj rfl rfl) (go ?_);exact⟨(j+1,_),GC,⟨J,by omega⟩,by simp only [];omega⟩
  refine go ?_;exact FJ (i+1,z) ⟨J,by omega⟩
 refine gc ?_;refine dm ?_;refine dp (Wv rfl) (go ?_);exact⟨_,rfl,J,_,rfl⟩
variable {w:World}
theorem Qg {v v':Value}{bw:Nat}(h:H0 w v v')(hi:HR bw v' i)(hlt:i<w.heap.size):HR bw v i:=hi.elim .inl (λe=>Qb h e hlt)
theorem YS {w1:World}{v v1 v2:Value}(h:H0 w v v1)(h2:H0 w1 v1 v2)(hs:w.heap.size<=w1.heap.size):H0 w v v2:=by
 rcases h2 with e|e
 ·rcases h with e1|e1
  ·exact .inl (e.trans e1)
  ·exact .inr (λk hk=>e1 k (e▸hk))
 ·exact .inr (λk hk=>Ae hs (e k hk))
variable {n:Nat}
theorem QO (h:n<=4611686018427387904):G4 (n:Int)=F6 n:=by
 unfold G4;congr 1;unfold HC;omega
variable {k:Nat}
theorem X0x {qs:List (Value×Fh)}(h:∀q∈qs,q.2.length<=1000000):(((qs.take k).map (·.2)).flatMap FA).length<=1000010*k:=by
 induction qs generalizing k with
 | nil=>simp
 | cons a r ih=>
  cases k with
  | zero=>simp
  | succ k=>
   have h1:=ih (k:=k) (λq z=>h q (Ao _ z));have h2:=h a Ai;have h3:=Gq a.2.length;rw[C0,Am,AF,Ad];unfold FA at *;rw[Ad];omega
theorem Mb (B bw:Nat)(v:Value)(l:Fh)(qs:List (Value×Fh))(vr:Value)(w:World)(h:Wr B bw v l w)(hl:l.length<=800000000)(hB:B<=w.heap.size)(hr:Fs (λq:Value×Fh=>[q.1]) 1 w vr qs)(hq:∀q∈qs,Fs Fq 1 w q.1 q.2)(hq2:∀q∈qs,q.2.length<=1000000)(hql:qs.length<=100)(hdr:qs≠[]->¬ HR bw v (base vr).1)(hdq:∀q∈qs,q.2≠[]->¬ HR bw v (base q.1).1) :
  Gy 80 [Fg bw 0,vr] w (HR bw v) λu w'=>u=.tuple #[]/\∃v',Wr B bw v' (l++(qs.map (·.2)).flatMap FA) w'/\H0 w v v':=by
 refine cM Tryz.func80 (HR bw v) λz=>?_;obtain⟨hm,ho⟩:=h;refine FL 82 1 hr.sl ?_;refine F9 (G:=Nat×Value×Fh) (λ(k,vc,lc)=>[(0,Fg bw 0),(6,vr),(7,I ↑qs.length),(8,I ↑k)]) (λ(k,vc,lc) w'=>Mod (HR bw v) w w'/\k<=qs.length/\Fo w' bw [vc] 142/\Vc.Own Fq 1 5 B w' vc lc/\lc=l++((qs.take k).map (·.2)).flatMap FA/\H0 w v vc) (λ(k,vc,lc)=>qs.length-k) (0,v,l) ⟨z,Ab _,hm,ho,by simp,.inl rfl⟩ ?_;rintro _ ⟨k,vc,lc⟩ w1 ⟨z,hk1,hm,ho,hlc,J⟩;refine Fk (λc1=>?_) λc1=>?_
 ·obtain⟨q,hk⟩:∃q,qs[k]?=some q:=F8;have hlcl:lc.length<=900001000:=by
   rw[hlc];simp only [Ad];have h1:=X0x (k:=k) hq2;omega
  have hnl2:(G4 ↑q.2.length).length<=10:=Gq _;refine FK 82 1 hr.sl (hr.lt hk) ?_;refine dl rfl (((hr.mod z hdr).row hk).at0 rfl) (FL 5 1 ((hq q (Ag hk)).mod z (hdq q (Ag hk))).sl ?_);refine li (e:=3) (sz:=1) (zs:=[.int .i64 0]) (pv:=[(0,_)]) (cs:=[_]) RX.all (λb1 w2 e1 x2 m1=>?_);have g1:=z.ge e1;have a1_hm:=hm.lt;have O:=ho.ltb e1;refine FB x2 hm ho z λhm ho z=>cD (KT B bw vc lc [↑q.2.length] (.slice (some ⟨b1,0,none⟩) 1 1) _ ⟨hm,ho⟩ Fb (Ae hB z.size) (m1.arr (enc:=Vc.encI) (sz:=1) (l:=[↑q.2.length]) rfl Ff rfl F5) F5 (λk hk _ e=>by have e2:b1=k:=e;exact hk.elim (λh=>by omega) (λh=>by have:=O _ h;omega))) (.inl rfl) λu3 w3 x3 hf=>?_;have Z:=z.size;have z:=z.own x3 (λi hi Y=>Qg J hi Y);obtain⟨rfl,v2,⟨hm,ho⟩,hh⟩:=hf;have J:=YS J hh Z;refine Gw (X9q B bw v2 _ q.2 q.1 _ ⟨hm,ho⟩ (by simp;omega) (Ae hB z.size) ((hq q (Ag hk)).mod z (hdq q (Ag hk))) (by have:=hq2 q (Ag hk);omega)) λu4 w4 x4 hc=>?_;have ha:=z.size;have z:=z.own x4 (λi hi Y=>Qg J hi Y);obtain⟨rfl,v3,⟨hm,ho⟩,hg⟩:=hc;have J:=YS J hg ha;refine go ?_;refine⟨(k+1,v3,_),He,⟨z,by omega,hm,ho,?_,J⟩,by simp only [];omega⟩;rw[hlc,Bw,hk];have hq3:=hq2 q (Ag hk);simp [FA,QO (n:=q.2.length) Fb]
 refine go ?_;refine HV (Hx rfl ?_);rw[Ar Fb]at hlc;subst hlc;exact⟨_,rfl,z,rfl,vc,⟨hm,ho⟩,J⟩
structure Rd (br bb:Nat)(v:Value)(l:Fh)(bad:Bool)(w:World):Prop where
 m:Fo w br [v,B bad] 273
 a:Fs Fq 1 w v l
 n:l≠[]->(base v).1=bb/\bb≠br
variable {bad:Bool}{bb br:Nat}{l:Fh}{w':World}
theorem Rd.ext {v:Value}(h:Rd br bb v l bad w)(x:Fp w w'):Rd br bb v l bad w':=⟨h.m.ext x,h.a.ext x,h.n⟩
instance {br bb:Nat} {v:Value} {l:Fh} {bad:Bool} {w w':World} : Up w w' (Rd br bb v l bad w) (Rd br bb v l bad w'):=⟨λx h=>Rd.ext h x⟩
@[reducible] def NU (br bb:Nat) (l:Fh):Nat->Prop:=λk=>k=br\/(l≠[]/\k=bb)
theorem Rd.mod {v:Value}{S:Nat->Prop}(h:Rd br bb v l bad w)(x:Vc.Mod S w w')(hS:∀k,NU br bb l k->¬ S k):Rd br bb v l bad w':=
 ⟨h.m.mod x (hS _ (.inl rfl)),h.a.mod x (λz=>by rw[(h.n z).1];exact hS _ (.inr ⟨z,rfl⟩)),h.n⟩
theorem Rd.lt {v:Value}(h:Rd br bb v l bad w):∀k,NU br bb l k->k<w.heap.size:=by
 rintro k (rfl|⟨hl,rfl⟩)
 ·exact h.m.lt
 ·rw[<-(h.n hl).1];exact h.a.base_lt Fj hl
theorem IW {α:Type}{l:List α}{c:α}(h:l[k]?=some c):l.drop k=c :: l.drop (k+1):=by
 obtain⟨hk,rfl⟩:=Ap.1 h;exact List.drop_eq_getElem_cons hk
theorem GQ {α:Type}{l:List α}{c:α}(h:l[k]?=some c):l.take (k+1)=l.take k++[c]:=by
 obtain⟨hk,rfl⟩:=Ap.1 h;exact List.take_succ_eq_append_getElem hk
def Gs (l:Fh)(bad:Bool):Nat×Fh×Bool:=match GG 0 0 l with
 | some (n,r)=>(n,r,bad)
 | none=>(0,[],true)
def J7 (n:Int)(l:Fh)(bad:Bool):Fh×Fh×Bool:=if n<0\/(l.length:Int)<n then([],[],true)else(l.take n.toNat,l.drop n.toNat,bad)
def Ph (l:Fh)(bad:Bool):Fh×Fh×Bool:=J7 (Gs l bad).1 (Gs l bad).2.1 (Gs l bad).2.2
theorem NT (r:Fh)(bad:Bool)(h:n<=4611686018427387904):Gs (F6 n++r) bad=(n,r,bad):=by unfold Gs;rw[Xvh r h]
theorem P4 (p r:Fh)(bad:Bool)(h:p.length<=4611686018427387904):Ph (FA p++r) bad=(p,r,bad):=by
 unfold Ph FA;rw[A3,NT _ _ h];unfold J7;rw[if_neg (by simp;omega)];simp
variable {r:Fh}{u:Nat}
theorem X0y : GG i u l=some (n,r)->r.length<=l.length:=by
 induction l generalizing i u with
 | nil=>intro h;simp [GG]at h
 | cons c l ih=>
  intro h;unfold GG at h;split at h
  ·cases h
  ·split at h
   ·split at h
    ·cases h
    ·cases h;simp
   ·have:=ih h;simp;omega
theorem VS (l:Fh)(bad:Bool):(Gs l bad).2.1.length<=l.length:=by
 unfold Gs;split
 ·rename_i h;exact X0y h
 ·simp
theorem X6b : GG i u l=some (n,r)->n<=4611686018427387904:=by
 induction l generalizing i u with
 | nil=>intro h;simp [GG]at h
 | cons c l ih=>
  intro h;unfold GG at h;split at h
  ·cases h
  ·split at h
   ·split at h
    ·cases h
    ·cases h;omega
   ·exact ih h
theorem Xr (p:Fh)(vp:Value)(w:World)(hp:Fs Fq 1 w vp p)(hpl:p.length<=2001000020) :
  Gf 118 [vp] w λu w'=>∃br bb v,u=Fg br 0/\w.heap.size<=br/\(p≠[]->w.heap.size<=bb)/\Rd br bb v p false w':=by
 refine cE Tryz.func118 λz=>Ge (Nt p vp _ (hp.ext z) hpl) λY w1 x1 J=>?_;have hsz1:=z.size;have z:=z.trans x1;refine dp (LI (zs:=[.slice none 0 0,B false]) (pl:=[(0,1),(1,1)]) (pv:=[(0,?a3_0)]) (cs:=[?a3_0,B false]) Fe Fe ?h3 ?f3) ?k3
 case h3=>refine⟨rfl,?_,trivial⟩<;>(conv=>lhs;whnf)
 case f3=>rcases J.sl with⟨e,_⟩|⟨_,_,_,e,_⟩|⟨_,_,_,e⟩<;>rw[e]<;>rfl
 refine Gx rfl rfl rfl RX.all (λb1 w2 e1 x2 Z=>?_);have g1:=z.ge e1;have o1_hf:=J.ltb e1;refine Fz x2 J z λJ z=>go ?_;exact⟨_,rfl,z,b1,(base Y).1,Y,rfl,g1,λO=>(J.base_ge O).1,⟨Z,J.arr Ff,λO=>⟨rfl,λe=>J.ne_blk Z rfl (e▸J.base_block O)⟩⟩⟩
theorem X9r (br bb:Nat)(v:Value)(l:Fh)(bad:Bool)(w:World)(h:Rd br bb v l bad w) :
  FW 260 [Fg br 0] w (I ↑l.length):=by
 refine cE Tryz.func260 λz=>?_;obtain⟨hm,O,hn⟩:=h;refine go ?_;refine dp (GS Fe rfl rfl) ?_;refine Fk (λJ=>?_) λJ=>?_
 ·exact absurd J F5
 refine FL 5 1 (O.ext z).sl ?_;refine go ?_;exact⟨rfl,z⟩
theorem X38 (br bb:Nat)(v:Value)(l:Fh)(bad:Bool)(w:World)(h:Rd br bb v l bad w) :
  FW 120 [Fg br 0] w (B (!bad)):=by
 refine cE Tryz.func120 λJ=>?_;obtain⟨hm,ha,hn⟩:=h;refine go ?_;refine dp (OX Fe rfl rfl) ?_;refine ds1 5 (λz=>?_) λz=>?_
 ·refine go ?_;exact⟨rfl,J⟩
 exact absurd F5 z
theorem Nw (br bb:Nat)(v:Value)(l:Fh)(bad:Bool)(w:World)(h:Rd br bb v l bad w) :
  Gy 258 [Fg br 0] w (Fu br) λu w'=>u=.tuple #[]/\Rd br bb (.slice none 0 0) [] true w':=by
 refine cE Tryz.func258 λz=>?_;obtain⟨hm,ha,hn⟩:=h;refine go ?_;refine dp (OX Fe rfl rfl) ?_;refine Fk (λJ=>?_) λJ=>?_
 ·refine go ?_;refine HG hm (λw1 Y xs1 hm=>?_);have z:=(z.mod Y).mono (λi hi _=>(hi:(Fu br) i));refine go ?_;refine HG hm (λw2 O xs2 hm=>?_);have z:=z.own O F4;refine go ?_;refine HV (Hx rfl ?_);exact⟨_,rfl,z,rfl,⟨hm,Fs.nil,λh=>absurd rfl h⟩⟩
 exact absurd F5 J
theorem X6c (br bb:Nat)(v:Value)(l:Fh)(bad:Bool)(w:World)(h:Rd br bb v l bad w) :
  FW 188 [Fg br 0] w (B (!bad && decide (l.length=0))):=by
 refine cE Tryz.func188 λz=>?_;obtain⟨hm,J,hn⟩:=h;refine Gp (X38 br bb v l bad _ ⟨hm.ext z,J.ext z,hn⟩) λw1 Y=>?_;have z:=z.trans Y;refine go ?_;refine Il 5 rfl (λO=>?_) (λO=>?_)
 ·refine go ?_;refine dl rfl ((hm.ext z).at rfl) (dv 5 1 (J.ext z).sl (go ?_));refine⟨?_,z⟩
  cases bad<;>simp_all
 refine go ?_;refine⟨?_,z⟩
 cases bad<;>simp_all
section
variable {P:Program}{E:FE}{dd:Option Tmp}{ty:TypeId}{pos:String}{af:Array Edge}{g:Option (Nat×Bool)}{x y:Operand}{T U:TypeId}
theorem Vk {c:UInt8}(hx:ev E x=b8 (c &&& 127))(hT:(P.underlying T).isSome=true)(hU:HU P U=some .u64):PV P ⟨dd,.convert T U x,ty,pos,af,g⟩ E (.int .u64 ((c.toNat % 128:Nat):Int)):=by
 have:=JS (P:=P) (d:=dd) (ty:=ty) (pos:=pos) (af:=af) (g:=g) hx hT hU;have e:(c &&& 127).toNat=c.toNat % 128:=by
  rw[UInt8.toNat_and];exact DO c.toNat 7
 rw[e,Nz Fb]at this;exact this
variable {i:Nat}
theorem Ot (hi:i<9):128*128 ^ i<=9223372036854775808:=by
 have:(128:Nat) ^ i<=128 ^ 8:=Nat.pow_le_pow_right Fj Fb;have e:(128:Nat) ^ 8=72057594037927936:=by decide
 omega
theorem Vo {m:Nat}(hx:ev E x=.int .u64 (m:Nat))(hy:ev E y=I (7*(i:Int)))(hm:m<128)(hi:i<9):PV P ⟨dd,.binOp .shl T x y U,ty,pos,af,g⟩ E (.int .u64 ((m*128 ^ i:Nat):Int)):=by
 have:=Ov (P:=P) (dd:=dd) (ty:=ty) (pos:=pos) (af:=af) (g:=g) (T:=T) (U:=U) hx hy Fb;have e:(m:Int)*2 ^ min (7*(i:Int)).toNat IntKind.u64.bits=((m*128 ^ i:Nat):Int):=by
  have e1:min (7*(i:Int)).toNat IntKind.u64.bits=7*i:=by
   have:IntKind.u64.bits=64:=rfl;rw[this];omega
  rw[e1,Nat.pow_mul' 2 7 i |> λh=>(by rw[DK,Int.natCast_pow,show((128:Nat):Int)=2 ^ 7 by decide,<-Int.pow_mul]:((m*128 ^ i:Nat):Int)=(m:Int)*2 ^ (7*i))]
 rw[e,Nz]at this
 ·exact this
 ·have h1:=Ot hi;have:m*128 ^ i<128*128 ^ i:=E2 hm (Nat.pow_pos Fj);omega
theorem Y7 {u m:Nat}(hx:ev E x=.int .u64 (u:Nat))(hy:ev E y=.int .u64 ((m*128 ^ i:Nat):Int))(hu:u<128 ^ i)(hm:m<128)(hi:i<9):PV P ⟨dd,.binOp .or T x y U,ty,pos,af,g⟩ E (.int .u64 ((u+m*128 ^ i:Nat):Int)):=by
 have:=LN (P:=P) (dd:=dd) (ty:=ty) (pos:=pos) (af:=af) (g:=g) (T:=T) (U:=U) (op:=.or) (.inr (.inl rfl)) hx hy;have h1:=Ot hi;have h2:m*128 ^ i<128*128 ^ i:=E2 hm (Nat.pow_pos Fj);have h3:u ||| m*128 ^ i=u+m*128 ^ i:=by
  have e:(128:Nat) ^ i=2 ^ (7*i):=by rw[Nat.pow_mul]
  rw[e]at hu ⊢;rw[Nat.or_comm,Bv,<-Nat.two_pow_add_eq_or_of_lt hu,DE]
 have e:Lo .or .u64 (u:Int) ((m*128 ^ i:Nat):Int)=((u+m*128 ^ i:Nat):Int):=by
  show IntKind.u64.wrap (((AK 64 (u:Int) ||| AK 64 ((m*128 ^ i:Nat):Int)).toNat:Nat):Int)=_;rw[CE,CE,BitVec.toNat_or,CF,CF,Br Fb,Br Fb,h3,Nz Fb]
 rw[e]at this;exact this
end
theorem X0z (k:Nat)(v:Value)(a b:Nat):(base (Hb k v a b)).1=(base v).1:=by
 cases v with
 | slice p n c=>
  cases p with
  | none=>rfl
  | some a'=>
   unfold Hb;simp only [base];split
   ·rfl
   ·unfold Addr.add;split<;>rfl
 | _=>rfl
theorem S0 {m:Nat}{v:Value}{a b:Nat}(h:Fv v m):(Hb k v a b).oneCell'=true:=by
 rcases h with⟨rfl,_⟩|⟨_,_,_,rfl,_⟩|⟨_,_,_,rfl⟩<;>rfl
theorem Xvp (h:GG 0 0 l=none):Gs l bad=(0,[],true):=by unfold Gs;rw[h]
theorem Xvq (h:GG 0 0 l=some (n,r)):Gs l bad=(n,r,bad):=by unfold Gs;rw[h]
theorem Yu {c:UInt8}(h:9<=i\/(0<i/\c=0)):GG i u (c :: r)=none:=by unfold GG;rw[if_pos h]
theorem Qr {c:UInt8}(h:¬ (9<=i\/(0<i/\c=0)))(hc:c.toNat<128):GG i u (c :: r)=if 4611686018427387904<u+c.toNat % 128*128 ^ i then none else some (u+c.toNat % 128*128 ^ i,r):=by
 rw[GG.eq_def];simp only [];rw[if_neg h,if_pos hc]
theorem VA {c:UInt8}(h:¬ (9<=i\/(0<i/\c=0)))(hc:¬ c.toNat<128):GG i u (c :: r)=GG (i+1) (u+c.toNat % 128*128 ^ i) r:=by
 rw[GG.eq_def];simp only [];rw[if_neg h,if_neg hc]
theorem Yx {m:Nat}(hu:u<128 ^ i)(hm:m<128):u+m*128 ^ i<128 ^ (i+1):=by
 rw[CT];have:m*128 ^ i<=127*128 ^ i:=AW _ Fb;omega
theorem OU (h:GG 0 0 l=none)(hR:Rd br bb (.slice none 0 0) [] true w'):I 0=I ↑(Gs l bad).1/\∃v',Rd br bb v' (Gs l bad).2.1 (Gs l bad).2.2 w':=by
 rw[Xvp h];exact⟨rfl,_,hR⟩
theorem WP {v':Value}(h:GG 0 0 l=some (n,r))(hR:Rd br bb v' r bad w'):(.int .i64 (IntKind.i64.wrap (n:Int)))=I ↑(Gs l bad).1/\∃v',Rd br bb v' (Gs l bad).2.1 (Gs l bad).2.2 w':=by
 rw[Xvq h,KU (by have:=X6b h;unfold Fx;omega)];exact⟨rfl,_,hR⟩
theorem UV {v:Value}{lo hi:Nat}(h:Rd br bb v l bad w)(hx:Vc.Mod (Fu br) w w')(h1:lo<=hi)(h2:hi<=l.length):Fs Fq 1 w' (Hb 1 v lo hi) ((l.take hi).drop lo)/\((l.take hi).drop lo≠[]->(base (Hb 1 v lo hi)).1=bb/\bb≠br):=by
 have z:(l.take hi).drop lo≠[]->l≠[]:=λe e2=>e (by rw[e2];simp);have hb:(l.take hi).drop lo≠[]->(base (Hb 1 v lo hi)).1=bb/\bb≠br:=λe=>by rw[X0z];exact h.n (z e)
 exact⟨(h.a.slice h1 h2).mod hx (λe e2=>(hb e).2 ((hb e).1▸e2)),hb⟩
theorem RJ {v:Value}{lo:Nat}(h:Rd br bb v l bad w)(hx:Vc.Mod (Fu br) w w')(h1:lo<=l.length)(hm:Fo w' br [Hb 1 v lo l.length,B bad] 273):Rd br bb (Hb 1 v lo l.length) (l.drop lo) bad w':=by
 have:=UV h hx h1 (Aa _);rw[AV]at this;exact⟨hm,this.1,this.2⟩
theorem Uy {n:Int}(h:n<0\/(l.length:Int)<n):J7 n l bad=([],[],true):=by unfold J7;rw[if_pos h]
theorem Xvs {n:Int}(h:¬ (n<0\/(l.length:Int)<n)):J7 n l bad=(l.take n.toNat,l.drop n.toNat,bad):=by unfold J7;rw[if_neg h]
def JI : Nat->Fh->Bool->List Nat×Fh×Bool
 | 0,l,bad=>([],l,bad)
 | k+1,l,bad=>((Gs l bad).1 :: (JI k (Gs l bad).2.1 (Gs l bad).2.2).1,(JI k (Gs l bad).2.1 (Gs l bad).2.2).2)
def GW (Cs:Nat->List Value):List (Nat×Nat)->List Nat->Nat->List Value
 | (b,o) :: ps,n :: ns=>GW (λk=>if k=b then(Cs b).set o (I ↑n)else Cs k) ps ns
 | _,_=>Cs
theorem Yj (h:(Gs l bad).2.1≠[]):l≠[]:=by
 rintro rfl;exact h rfl
theorem LF {l':Fh}(h:l'≠[]->l≠[])(hk:NU br bb l' k):NU br bb l k:=hk.imp id λ⟨h1,h2⟩=>⟨h h1,h2⟩
theorem Yh (k:Nat)(l:Fh)(bad:Bool):JI (k+1) l bad=((Gs l bad).1 :: (JI k (Gs l bad).2.1 (Gs l bad).2.2).1,(JI k (Gs l bad).2.1 (Gs l bad).2.2).2):=rfl
theorem QF (br bb:Nat)(v:Value)(l:Fh)(bad:Bool)(w:World)(h:Rd br bb v l bad w)(hll:l.length<=2001000020) :
  Gy 187 [Fg br 0] w (Fu br) λu w'=>u=I ↑(Gs l bad).1/\∃v',Rd br bb v' (Gs l bad).2.1 (Gs l bad).2.2 w':=by
 refine cE Tryz.func187 λz=>?_;obtain⟨hm,ha,hn⟩:=h;have hc:Rd br bb v l bad w:=⟨hm,ha,hn⟩;refine go ?_;refine dp (GS Fe rfl rfl) ?_;refine Fk (λc1=>?_) λc1=>?_
 ·exact absurd c1 F5
 refine FL 5 1 (ha.ext z).sl ?_;refine F9 (G:=Nat×Nat) (λ(k,u)=>[(0,Fg br 0),(3,.int .u64 ↑u),(11,v),(12,I ↑l.length),(13,I ↑k)]) (λ(k,u) w'=>Fp w w'/\k<=l.length/\k<=9/\u<128 ^ k/\GG 0 0 l=GG k u (l.drop k)) (λ(k,u)=>l.length-k) (0,0) ⟨z,Ab _,Ab _,by simp,rfl⟩ ?_;rintro _ ⟨k,u⟩ w1 ⟨z,hk1,hk2,hu,hN⟩;refine Fk (λc2=>?_) λc2=>?_
 ·obtain⟨c,hk⟩:∃c,l[k]?=some c:=F8;have Z:=IW hk;refine go ?_;refine di 5 1 (ha.ext z).sl rfl ((ha.ext z).lt hk) (dl rfl (((ha.ext z).row hk).at0 rfl) (go ?_));refine dp (HW rfl rfl) ?_;refine ds1 20 (λc3=>?_) λc3=>?_
  ·refine go ?_;refine GD rfl (Gw (Nw br bb v l bad _ (hc.ext z)) λu2 w2 x2 hl=>?_);have hsz2:=z.size;have z:=(z.mod x2).mono (λi hi hf=>(hi:(Fu br) i));obtain⟨rfl,J⟩:=hl;refine go ?_;exact⟨_,rfl,z,OU (by rw[hN,Z];exact Yu (.inl Fb)) J⟩
  refine ds1 23 (λc4=>?_) λc4=>?_
  ·refine go ?_;refine dp (QP (b:=0) rfl rfl) ?_;refine Fk (λc5=>?_) λc5=>?_
   ·refine Gw (Nw br bb v l bad _ (hc.ext z)) λu3 w3 x3 hj=>?_;have hsz3:=z.size;have z:=(z.mod x3).mono (λi hi hf=>(hi:(Fu br) i));obtain⟨rfl,J⟩:=hj;refine go ?_;exact⟨_,rfl,z,OU (by rw[hN,Z];exact Yu (.inr ⟨by omega,c5⟩)) J⟩
   refine go ?_;refine dp (Tj (b:=127) rfl rfl) (dp (Vk rfl Fe Fe) (go ?_));refine dp (Kp rfl rfl (by unfold Fx;omega)) (dp (Vo rfl rfl (Be _ Fj) Fb) (dp (Y7 rfl rfl hu (Be _ Fj) Fb) (go ?_)));refine dp (UI (b:=128) rfl rfl) ?_;refine Fk (λc6=>?_) λc6=>?_
   ·have O:¬ (9<=k\/(0<k/\c=0)):=by
     rintro (h|⟨h,h2⟩)
     ·omega
     ·exact c5 h2
    have Y:=CS.1 c6;refine Fk (λc7=>?_) λc7=>?_
    ·refine Gw (Nw br bb v l bad _ (hc.ext z)) λu4 w4 x4 hg=>?_;have hsz4:=z.size;have z:=(z.mod x4).mono (λi hi hf=>(hi:(Fu br) i));obtain⟨rfl,J⟩:=hg;refine go ?_;exact⟨_,rfl,z,OU (by rw[hN,Z,Qr O Y,if_pos Fb]) J⟩
    refine go ?_;refine dl rfl ((hm.ext z).at rfl) (go ?_);refine dp (H8 (e:=5) (k:=1) Fe (ha.ext z).sl rfl rfl rfl (show k+1<=l.length by omega) (Aa _)) (go ?_);refine KK (hm.ext z) (λw5 x5 xs5 hm=>?_) (hv:=by exact S0 (k:=1) (a:=k+1) (b:=l.length) ha.sl);dsimp only [Gr,AN,AL,AU]at hm;have z:=(z.mod x5).mono (λi hi _=>(hi:(Fu br) i));refine go ?_;refine dp (JS (k:=.i64) rfl Fe Fe) (go ?_);exact⟨_,rfl,z,WP (by rw[hN,Z,Qr O Y,if_neg Fb]) (RJ hc z Fb hm)⟩
   have O:¬ (9<=k\/(0<k/\c=0)):=by
    rintro (h|⟨h,h2⟩)
    ·omega
    ·exact c5 h2
   have Y:¬ c.toNat<128:=λh=>c6 (CS.2 h);refine go ?_;refine⟨(k+1,_),GC,⟨z,by omega,by omega,Yx hu (Be _ Fj),by rw[hN,Z,VA O Y]⟩,by simp only [];omega⟩
  refine go ?_;refine GL rfl (go ?_);refine dp (Tj (b:=127) rfl rfl) (dp (Vk rfl Fe Fe) (go ?_));refine dp (Kp rfl rfl (by unfold Fx;omega)) (dp (Vo rfl rfl (Be _ Fj) Fb) (dp (Y7 rfl rfl hu (Be _ Fj) Fb) (go ?_)));refine dp (UI (b:=128) rfl rfl) ?_;refine Fk (λc8=>?_) λc8=>?_
  ·have O:¬ (9<=k\/(0<k/\c=0)):=by rintro (h|⟨h,_⟩)<;>omega
   have Y:=CS.1 c8;refine Fk (λc9=>?_) λc9=>?_
   ·refine Gw (Nw br bb v l bad _ (hc.ext z)) λu6 w6 x6 hp=>?_;have hsz6:=z.size;have z:=(z.mod x6).mono (λi hi hf=>(hi:(Fu br) i));obtain⟨rfl,J⟩:=hp;refine go ?_;exact⟨_,rfl,z,OU (by rw[hN,Z,Qr O Y,if_pos Fb]) J⟩
   refine go ?_;refine dl rfl ((hm.ext z).at rfl) (go ?_);refine dp (H8 (e:=5) (k:=1) Fe (ha.ext z).sl rfl rfl rfl (show k+1<=l.length by omega) (Aa _)) (go ?_);refine KK (hm.ext z) (λw7 x7 xs7 hm=>?_) (hv:=by exact S0 (k:=1) (a:=k+1) (b:=l.length) ha.sl);dsimp only [Gr,AN,AL,AU]at hm;have z:=(z.mod x7).mono (λi hi _=>(hi:(Fu br) i));refine go ?_;refine dp (JS (k:=.i64) rfl Fe Fe) (go ?_);exact⟨_,rfl,z,WP (by rw[hN,Z,Qr O Y,if_neg Fb]) (RJ hc z Fb hm)⟩
  have O:¬ (9<=k\/(0<k/\c=0)):=by rintro (h|⟨h,_⟩)<;>omega
  have Y:¬ c.toNat<128:=λh=>c8 (CS.2 h);refine go ?_;refine⟨(k+1,_),GC,⟨z,by omega,by omega,Yx hu (Be _ Fj),by rw[hN,Z,VA O Y]⟩,by simp only [];omega⟩
 refine Gw (Nw br bb v l bad _ (hc.ext z)) λu8 w8 x8 hh=>?_;have hsz8:=z.size;have z:=(z.mod x8).mono (λi hi hf=>(hi:(Fu br) i));obtain⟨rfl,J⟩:=hh;refine go ?_;exact⟨_,rfl,z,OU (by rw[hN,BD Fb];rfl) J⟩
theorem Ycm (br bb:Nat)(v:Value)(l:Fh)(bad:Bool)(n:Int)(w:World)(h:Rd br bb v l bad w)(hll:l.length<=2001000020) :
  Gy 194 [Fg br 0,I n] w (Fu br) λu w'=>Vc.Own Fq 1 5 w.heap.size w' u (J7 n l bad).1/\∃v',Rd br bb v' (J7 n l bad).2.1 (J7 n l bad).2.2 w':=by
 refine cE Tryz.func194 λz=>?_;obtain⟨hm,Z,hn⟩:=h;have J:Rd br bb v l bad w:=⟨hm,Z,hn⟩;refine go ?_;refine dp (GS Fe rfl rfl) ?_;refine ds1 8 (λc1=>?_) λc1=>?_
 ·exact absurd c1 F5
 refine ds1 12 (λc2=>?_) λc2=>?_
 ·refine go ?_;refine GD rfl (Gw (Nw br bb v l bad _ (J.ext z)) λu1 w1 x1 hh=>?_);have hsz1:=z.size;have z:=(z.mod x1).mono (λi hi hg=>(hi:(Fu br) i));obtain⟨rfl,Y⟩:=hh;refine go ?_;refine⟨_,rfl,z,?_⟩;rw[Uy Fb];exact⟨Vc.Own.nil,_,Y⟩
 refine FL 5 1 (Z.ext z).sl ?_;refine Fk (λc3=>?_) λc3=>?_
 ·refine Gw (Nw br bb v l bad _ (J.ext z)) λu2 w2 x2 hf=>?_;have hsz2:=z.size;have z:=(z.mod x2).mono (λi hi hg=>(hi:(Fu br) i));obtain⟨rfl,Y⟩:=hf;refine go ?_;refine⟨_,rfl,z,?_⟩;rw[Uy Fb];exact⟨Vc.Own.nil,_,Y⟩
 obtain⟨n,rfl⟩:∃m:Nat,n=↑m:=⟨n.toNat,by omega⟩;have hj:(↑n:Int).toNat=n:=BQ n;have O:n<=l.length:=by omega
 refine go ?_;refine dp (H8 (e:=5) (k:=1) Fe (Z.ext z).sl rfl rfl rfl (Ab _) O) ?_;have hc:=(UV (hi:=n) (lo:=0) J ((Vc.Mod.refl _ _).ext z) (Ab _) O).1;rw[List.drop_zero]at hc;refine cG (Nt (l.take n) _ _ hc (by rw[A7];omega)) RX.all λvo w3 x3 ho=>?_;have hsz3:=z.size;have z:=z.trans x3;refine go ?_;refine dl rfl ((hm.ext z).at rfl) (go ?_);refine dp (H8 (e:=5) (k:=1) Fe (Z.ext z).sl rfl rfl rfl O (Aa _)) (go ?_);refine KK (hm.ext z) (λw4 x4 xs4 hm=>?_) (hv:=by exact S0 (k:=1) (a:=n) (b:=l.length) Z.sl);dsimp only [Gr,AN,AL,AU]at hm;have ho:=ho.mod x4 (λk hk h=>by have h1:=(ho.lt k hk).1;have h2:k=br:=h;have h3:=J.m.lt;omega);have z:=(z.mod x4).mono (λi hi _=>(hi:(Fu br) i));refine go ?_;refine⟨_,rfl,z,?_⟩;rw[Xvs Fb,hj];exact⟨ho,_,RJ J z O hm⟩
theorem Pt (br bb:Nat)(v:Value)(l:Fh)(bad:Bool)(w:World)(h:Rd br bb v l bad w)(hll:l.length<=2001000020) :
  Gy 121 [Fg br 0] w (Fu br) λu w'=>Vc.Own Fq 1 5 w.heap.size w' u (Ph l bad).1/\∃v',Rd br bb v' (Ph l bad).2.1 (Ph l bad).2.2 w':=by
 refine cM Tryz.func121 (Fu br) λz=>Gw (QF br bb v l bad _ (h.ext (Fp.refl _)) hll) λu1 w1 x1 ha=>?_;have hsz1:=z.size;have z:=z.own x1 F4;obtain⟨rfl,v1,Y⟩:=ha;have J:=x1.size;refine cD (Ycm br bb v1 _ _ _ _ Y (Ae (VS l bad) hll)) (.inl rfl) λu2 w2 x2 Z=>?_;have hsz2:=z.size;have z:=z.own x2 F4;obtain⟨hO,v2,O⟩:=Z;refine go ?_;exact⟨_,rfl,z,hO.mono J,v2,O⟩
theorem YY (br bb:Nat)(v:Value)(l:Fh)(bad:Bool)(ps:List (Nat×Nat))(vn:Value)(Cs:Nat->List Value)(Ts:Nat->TypeId)(w:World)(hR0:Rd br bb v l bad w)(hll:l.length<=2001000020)(hv:Fs (λp:Nat×Nat=>[Fg p.1 p.2]) 1 w vn ps)(hpl:ps.length<=1000)(hB0:∀p∈ps,Fo w p.1 (Cs p.1) (Ts p.1)/\p.2<(Cs p.1).length)(hdis:∀p∈ps,¬ NU br bb l p.1)(hdv:ps≠[]->¬ ((base vn).1=br\/∃p∈ps,(base vn).1=p.1)) :
  Gy 119 [Fg br 0,vn] w (λk=>k=br\/∃p∈ps,k=p.1) λu w'=>u=.tuple #[]/\∃v',Rd br bb v' (JI ps.length l bad).2.1 (JI ps.length l bad).2.2 w'/\∀p∈ps,Fo w' p.1 (GW Cs ps (JI ps.length l bad).1 p.1) (Ts p.1):=by
 refine cM Tryz.func119 (λk=>k=br\/∃p∈ps,k=p.1) λz=>FL 197 1 (hv.mod z hdv).sl ?_;refine F9 (G:=Nat×Value×Fh×Bool×(Nat->List Value)) (λ(k,vc,lc,bc,Cc)=>[(0,Fg br 0),(7,vn),(8,I ↑ps.length),(9,I ↑k)]) (λ(k,vc,lc,bc,Cc) w'=>Mod (λk=>k=br\/∃p∈ps,k=p.1) w w'/\k<=ps.length/\Rd br bb vc lc bc w'/\(∀p∈ps,Fo w' p.1 (Cc p.1) (Ts p.1)/\p.2<(Cc p.1).length)/\lc.length<=l.length/\(lc≠[]->l≠[])/\GW Cs ps (JI ps.length l bad).1=GW Cc (ps.drop k) (JI (ps.length-k) lc bc).1/\(JI ps.length l bad).2=(JI (ps.length-k) lc bc).2) (λ(k,vc,lc,bc,Cc)=>ps.length-k) (0,v,l,bad,Cs) ⟨z,Ab _,hR0,hB0,Aa _,id,rfl,rfl⟩ ?_;rintro _ ⟨k,vc,lc,bc,Cc⟩ w1 ⟨z,hk1,hR,hB,hlen,hne,hW,hT⟩;refine Fk (λc1=>?_) λc1=>?_
 ·obtain⟨p,hk⟩:∃p,ps[k]?=some p:=F8;have hc:=IW hk;refine go ?_;refine di 197 1 (hv.mod z hdv).sl rfl ((hv.mod z hdv).lt hk) (dl rfl (((hv.mod z hdv).row hk).at0 rfl) (Gw (QF br bb vc lc bc _ hR Fb) λu2 w2 x2 hf=>?_));have hsz2:=z.size;have z:=z.own x2 F4;obtain⟨rfl,v1,hR⟩:=hf;have hB:∀p∈ps,Fo w2 p.1 (Cc p.1) (Ts p.1)/\p.2<(Cc p.1).length:=λp Y=>⟨(hB p Y).1.mod x2 (λh=>hdis p Y (.inl h)),(hB p Y).2⟩;refine go ?_;refine dp (OX Fe rfl rfl) ?_;refine Fk (λc2=>?_) λc2=>?_
  ·refine go ?_;obtain⟨hh,J⟩:=hB p (Ag hk);refine JV (b:=p.1) (o:=p.2) (v:=I ↑(Gs lc bc).1) rfl rfl rfl rfl Fe hh J (.inl rfl) (λw3 x3 xs3 ha=>?_);have z:=z.own x3 (λi hi hlt=>by have h2:i=p.1:=hi;exact .inr ⟨p,Ag hk,h2⟩);have hR:=hR.mod x3 (λk9 hg h9=>by have h2:k9=p.1:=h9;exact hdis p (Ag hk) (h2▸LF (λe=>hne (Yj e)) hg));have hB:∀q∈ps,Fo w3 q.1 (if q.1=p.1 then(Cc p.1).set p.2 (I ↑(Gs lc bc).1)else Cc q.1) (Ts q.1)/\q.2<(if q.1=p.1 then(Cc p.1).set p.2 (I ↑(Gs lc bc).1)else Cc q.1).length:=by
    intro q hq
    by_cases e:q.1=p.1
    ·have O:=(hB q hq).2;rw[if_pos e,e,A9];rw[e]at O;exact⟨ha,O⟩
    ·rw[if_neg e];exact⟨(hB q hq).1.mod x3 (λh=>e h),(hB q hq).2⟩
   refine go ?_;obtain⟨m,hm9⟩:∃m,ps.length-k=m+1:=⟨ps.length-k-1,by omega⟩;have Z:ps.length-(k+1)=m:=by omega
   refine FJ (k+1,v1,(Gs lc bc).2.1,(Gs lc bc).2.2,λq=>if q=p.1 then(Cc p.1).set p.2 (I ↑(Gs lc bc).1)else Cc q) ⟨z,by omega,hR,hB,Ae (VS lc bc) hlen,λe=>hne (Yj e),?_,?_⟩
   ·rw[hW,hc,hm9,Z,Yh];rfl
   ·rw[hT,hm9,Z,Yh]
  exact absurd F5 c2
 refine go ?_;refine HV (Hx rfl ?_);rw[show ps.length-k=0 by omega]at hW hT;refine⟨_,rfl,z,rfl,vc,by rw[hT];exact hR,λp Y=>?_⟩;rw[hW,BD Fb];exact(hB p Y).1
def NF (h:UInt32)(c:UInt8):UInt32:=(h ^^^ c.toUInt32)*16777619
def Nr (s:Fh):UInt32:=s.foldl NF 2166136261
def QJ (s:Fh):UInt32:=(Nr s >>> 17) ||| (Nr s <<< 15)
def O1 (s:Fh)(n i:Nat):Nat:=(Nr s+AJ i*QJ s).toNat % n
def JF (s:Fh)(n:Nat):List Nat:=(List.range 6).map (O1 s n)
section
variable {P:Program}{E:FE}{dd:Option Tmp}{ty:TypeId}{pos:String}{af:Array Edge}{g:Option (Nat×Bool)}{x y:Operand}{T U:TypeId}
theorem PX {a b:UInt32}(hx:ev E x=Ha a)(hy:ev E y=Ha b):PV P ⟨dd,.binOp .mul T x y U,ty,pos,af,g⟩ E (Ha (a*b)):=by
 have:=UC (P:=P) (d:=dd) (ty:=ty) (pos:=pos) (af:=af) (g:=g) (T:=T) (U:=U) hx hy;rwa [LW,show((a.toNat:Int)*(b.toNat:Int)) % 4294967296=((a*b).toNat:Int) by rw[UInt32.toNat_mul];omega]at this
theorem TX {a b:UInt32}(hx:ev E x=Ha a)(hy:ev E y=Ha b):PV P ⟨dd,.binOp .add T x y U,ty,pos,af,g⟩ E (Ha (a+b)):=by
 have:=X5y (P:=P) (d:=dd) (ty:=ty) (pos:=pos) (af:=af) (g:=g) (T:=T) (U:=U) hx hy;rwa [LW,show((a.toNat:Int)+(b.toNat:Int)) % 4294967296=((a+b).toNat:Int) by rw[UInt32.toNat_add];omega]at this
variable {n:Nat}
theorem OE (hx:ev E x=I n)(hT:(P.underlying T).isSome=true)(hU:HU P U=some .u32):PV P ⟨dd,.convert T U x,ty,pos,af,g⟩ E (Ha (AJ n)):=by
 have:=JS (P:=P) (d:=dd) (ty:=ty) (pos:=pos) (af:=af) (g:=g) hx hT hU;rwa [LW,show(n:Int) % 4294967296=((AJ n).toNat:Int) by rw[UInt32.toNat_ofNat'];omega]at this
theorem Lh {k:IntKind}(hn:n<18446744073709551616)(hx:ev E x=.int k n)(hT:(P.underlying T).isSome=true)(hU:HU P U=some .u64):PV P ⟨dd,.convert T U x,ty,pos,af,g⟩ E (.int .u64 (n:Int)):=by
 have:=JS (P:=P) (d:=dd) (ty:=ty) (pos:=pos) (af:=af) (g:=g) hx hT hU;rwa [Nz hn]at this
theorem LJ (hn:n<9223372036854775808)(hx:ev E x=.int .u64 (n:Int))(hT:(P.underlying T).isSome=true)(hU:HU P U=some .i64):PV P ⟨dd,.convert T U x,ty,pos,af,g⟩ E (I (n:Int)):=by
 have:=JS (P:=P) (d:=dd) (ty:=ty) (pos:=pos) (af:=af) (g:=g) hx hT hU;rwa [KU (by unfold Fx;omega)]at this
theorem X02 {a b:Nat}(hb:0<b)(hx:ev E x=.int .u64 (a:Int))(hy:ev E y=.int .u64 (b:Int)):PV P ⟨dd,.binOp .rem T x y U,ty,pos,af,g⟩ E (.int .u64 ((a % b:Nat):Int)):=by
 have:=N8 (P:=P) (dd:=dd) (ty:=ty) (pos:=pos) (af:=af) (g:=g) (T:=T) (U:=U) hx hy Fb Fb;rwa [show(a:Int) % (b:Int)=((a % b:Nat):Int) by omega]at this
end
theorem Xvw {s:Fh}{c:UInt8}(h:s[k]?=some c):(s.take (k+1)).foldl NF 2166136261=NF ((s.take k).foldl NF 2166136261) c:=by
 rw[GQ h,BC];rfl
theorem OZ (s:Fh)(n:Nat):(JF s n).length=6:=by simp [JF]
theorem Xtu {s:Fh}(h:i<6):(JF s n)[i]?=some (O1 s n i):=by simp [JF,h]
theorem X9s (s:Fh)(w:World)(hs:s.length<=1000000000) :
  FW 311 [S s] w (Ha (Nr s)):=by
 refine cE Tryz.func311 λz=>F9 (G:=Nat×UInt32) (λ(k,h)=>[(0,S s),(2,.int .u32 0),(3,Ha h),(6,I ↑s.length),(7,I ↑k)]) (λ(k,h) w'=>Fp w w'/\k<=s.length/\h=(s.take k).foldl NF 2166136261) (λ(k,h)=>s.length-k) (0,2166136261) ⟨z,Ab _,rfl⟩ ?_;rintro _ ⟨k,h⟩ w1 ⟨z,hk1,hh⟩;refine Fk (λJ=>?_) λJ=>?_
 ·obtain⟨c,hk⟩:∃c,s[k]?=some c:=F8;refine go ?_;refine dp (QE Fe rfl rfl hk) (dp (MF rfl Fe Fe) (dp (NS rfl rfl) (dp (PX (b:=16777619) rfl rfl) (go ?_))));refine FJ (k+1,NF h c) ⟨z,by omega,by rw[Xvw hk,<-hh]⟩
 refine go ?_;rw[Ar Fb]at hh;exact⟨by rw[hh];rfl,z⟩
theorem Xrq (s:Fh)(n:Nat)(w:World)(hs:s.length<=1000000000)(h0:0<n)(hn:n<=9223372036854775807) :
  FW 255 [S s,I ↑n] w (.agg ⟨G0 (JF s n)⟩):=by
 refine cE Tryz.func255 λz=>go ?_;refine aL [.int .i64 0,.int .i64 0,.int .i64 0,.int .i64 0,.int .i64 0,.int .i64 0] λb1 w1 e1 x1 J=>?_;have g1:=z.ge e1;have z:=z.trans x1;refine go ?_;refine aL [.int .i64 0,.int .i64 0,.int .i64 0,.int .i64 0,.int .i64 0,.int .i64 0] λZ w2 e2 x2 O=>?_;have g2:=z.ge e2;have n2_1:=J.ltb e2;refine Fz x2 J z λJ z=>Gp (X9s s _ hs) λw3 x3=>FB x3 J O z λJ O z=>?_;refine go ?_;refine dp (LB (b:=17) Fj rfl rfl) (go ?_);refine dp (Oq (b:=15) Fj rfl rfl) (dp (Pe rfl rfl) (F9 (G:=Nat×List Nat) (λ(k,q)=>[(1,I ↑n),(4,Fg b1 0),(5,Fg Z 0),(6,Ha (Nr s)),(7,Ha (QJ s)),(16,I ↑k)]) (λ(k,q) w'=>Fp w w'/\Fo w' b1 (G0 (An 6 0)) 322/\k<=6/\q.length=6/\q.take k=(JF s n).take k/\Fo w' Z (G0 q) 322) (λ(k,q)=>6-k) (0,An 6 0) ⟨z,J,Ab _,rfl,rfl,O⟩ ?_));rintro _ ⟨k,q⟩ w4 ⟨z,J,hk1,hq,hqk,O⟩;refine Fk (λc1=>?_) λc1=>?_
 ·refine go ?_;refine dp (OE rfl Fe Fe) (go ?_);refine dp (PX rfl rfl) (dp (TX rfl rfl) (dp (Lh (by have:=UInt32.toNat_lt (Nr s+AJ k*QJ s);omega) rfl Fe Fe) (go ?_)));refine dp (Lh Fb rfl Fe Fe) (dp (X02 h0 rfl rfl) (dp (LJ (n:=O1 s n k) (by have:=Be (Nr s+AJ k*QJ s).toNat h0;unfold O1;omega) rfl Fe Fe) (dp (La (m:=6) (e:=3) (k:=1) Fe rfl rfl Fb) (KK O (λw5 Y xs5 O=>?_) (hv:=by rfl) (ho:=by rw[Aw];omega)))));rw[NQ]at O;have J:=J.mo Y;have z:=z.o1 Y;refine go ?_;refine FJ (k+1,q.set k (O1 s n k)) ⟨z,J,by omega,by rw[A9];exact hq,?_,O⟩;rw[Bw,Bw,Xtu Fb,List.take_set_of_le (Aa _),hqk,List.getElem?_set_self Fb]
 refine go ?_;refine dq (Fy (k:=6) Fe rfl (by simp [hq]) O.row) ?_;refine OI (m:=6) (vs:=?u16) rfl rfl ?h16 Fe ?c16 ?d16 J ?n16 (.inl rfl) (λw6 x6 xs6 J=>?k16)
 case h16=>conv=>lhs;whnf
 case c16=>simp [hq]
 case d16=>rfl
 case n16=>simp [Value.oneCell']
 have z:=z.o1 x6;refine go ?_;refine NZ (k:=6) rfl rfl rfl Fe (by simp [hq]) J.row ?_;rw[Ar Fb,Ar (by rw[OZ];omega)]at hqk;exact⟨by rw[hqk],z⟩
end Go.Proofs.YtiooodckiddpmaaGreatDoor
namespace Go.Vc
open Go.RowKit
def Lb (r:Option Nat):Fence:={ Fence.wide with round:=r }
def N1 (o:Oper):Bool:=match o.op with
 | .defer ..=>false
 | _=>true
theorem Xns {o:Oper}(h:N1 o=true):∀c,o.op≠.defer c:=λc e=>by unfold N1 at h;rw[e]at h;cases h
def Kj (n:Nat):Code->Bool
 | .skip | .exit _ | .ret=>true
 | .region _ ops _=>ops.all (Jw n) && ops.all N1
 | .seq a b=>Kj n a && Kj n b
 | .cond c a b=>Nh n c && Kj n a && Kj n b
 | .block _ c=>Kj n c
 | .loop c=>Kj n c
 | .rangeFunc g ps a b=>Nh n g && ps.all (AR · n) && Kj n a && Kj n b
 | _=>false
def H1 (n:Nat)(E:FE)(ds:List Deferred):Act:=⟨Eo (n:=n) λi=>E i.val,ds⟩
def I8 (ds:List Deferred)(a:Act):Act:={ a with defers:=a.defers++ds }
theorem X03 (n:Nat)(E:FE)(ds:List Deferred):I8 ds (Hv n E)=H1 n E ds:=rfl
theorem NG (ds:List Deferred)(a:Act)(d:Option Tmp)(v:Value):(I8 ds a).put d v=I8 ds (a.put d v):=by cases d<;>rfl
theorem YG {n:Nat}{E:FE}{ds:List Deferred}{x:Operand}(h:Nh n x=true):(H1 n E ds).eval x=ev E x:=Ru h
abbrev QX := Exit->FE->List Deferred->World->Prop
def VO (n:Nat)(Q:QX):Exit->Act->World->Prop:=λe a w=>∃E ds,a=H1 n E ds/\Q e E ds w
def WX (r:Option Nat)(ds:List Deferred)(P:Program)(n:Nat)(c:Code)(Q:QX)(E:FE)(w:World):Prop:=
 Kj n c=true->c.wpIn (Lb r) 0 P (VO n Q) (H1 n E ds) w
def Qo (K:FE->List Deferred->World->Prop)(Q:QX):QX
 | .normal,E,ds,w=>K E ds w
 | e,E,ds,w=>Q e E ds w
def O8 (id:Nat)(Q:QX):QX
 | .exit id',E,ds,w=>cond (AM id' id) (Q .normal E ds w) (Q (.exit id') E ds w)
 | e,E,ds,w=>Q e E ds w
section
variable {r:Option Nat}{ds:List Deferred}{P:Program}{n:Nat}{Q:QX}{E:FE}{w:World}
variable {x y:Code}
theorem N7 (h:∀K:FE->List Deferred->World->Prop,(∀E ds w,WX r ds P n y Q E w->K E ds w)->WX r ds P n x (Qo K Q) E w):WX r ds P n (.seq x y) Q E w:=by
 intro ok;simp only [Kj,Aq]at ok;refine wpIn_seq (Go.wpIn_mono (h (λE ds w=>WX r ds P n y Q E w) (λ_ _ _ h=>h) ok.1) ?_);intro e a w' O;obtain⟨E',J,rfl,z⟩:=O
 cases e<;>first|exact z ok.2|exact⟨E',J,rfl,z⟩
theorem X9u (h:Q .ret E ds w):WX r ds P n .ret Q E w:=λ_=>wpIn_ret ⟨E,ds,rfl,h⟩
variable {id:Nat}
theorem X6d (h:Q (.exit id) E ds w):WX r ds P n (.exit id) Q E w:=λ_=>wpIn_exit ⟨E,ds,rfl,h⟩
theorem X6e {c:Operand}{t:Bool}(hc:ev E c=.bool t)(ht:t=true->WX r ds P n x Q E w)(hf:t=false->WX r ds P n y Q E w):WX r ds P n (.cond c x y) Q E w:=by
 intro ok;simp only [Kj,Aq]at ok;exact wpIn_cond_split (t:=t) (by rw[YG ok.1.1];exact hc) (λh=>ht h ok.1.2) (λh=>hf h ok.2)
theorem Xb {c:Code}(h:WX r ds P n c (O8 id Q) E w):WX r ds P n (.block id c) Q E w:=by
 intro ok;refine wpIn_block (Go.wpIn_mono (h ok) ?_);rintro e a w' ⟨E',d',rfl,hQ⟩
 cases e with
 | exit id'=>
  simp only [Exit.inBlock]
  by_cases hid:id'=id
  ·subst hid;simp only [if_true];refine⟨E',d',rfl,?_⟩;simpa [O8]using hQ
  ·simp only [hid,if_false];refine⟨E',d',rfl,?_⟩;simpa [O8,Qi hid]using hQ
 | _=>exact⟨E',d',rfl,hQ⟩
theorem X6f {c:Code}{G:Type}(sl:G->List (Nat×Value))(F:G->World->Prop)(μ:G->Nat)(g0:G)(h0:holds (sl g0) E)(hF0:F g0 w)
  (round:∀(E:FE) (g:G) (w:World),F g w->WX r ds P n c (Qo (λE' d' w'=>d'=ds/\∃Z,holds (sl Z) E'/\F Z w'/\μ Z<μ g) Q) (MC (sl g) E) w):WX r ds P n (.loop c) Q E w:=by
 intro ok;have hg:Kj n c=true:=ok
 -- the measure stands in the ghost: one loop rule a ghost at a time,by strong induction over machines
 intro b k cs hl hb hr;have key:∀(m:Nat) (E:FE) (g:G) (w:World),μ g=m->holds (sl g) E->F g w->
   ∃e a' w',VO n Q e a' w'/\ArrivesIn (Machine.fenced P (Lb r)) P (lone (b.atR (H1 n E ds) (.code c :: .inLoop c :: k)) cs w) b k cs e a' w':=by
  intro m
  induction m using DB with
  | _ m ih=>
   intro E g w hm hh hF;have ha:=round E g w hF hg;rw[RQ hh]at ha;obtain⟨e,a1,w1,⟨Y,d1,rfl,J⟩,z⟩:=ha b (.inLoop c :: k) cs hl hb hr
   cases e with
   | normal=>
    obtain⟨rfl,Z,hj,hp,hf⟩:=J;obtain⟨e2,a2,w2,hc,O⟩:=ih (μ Z) (hm▸hf) Y Z w1 rfl hj hp;exact⟨e2,a2,w2,hc,.of_steps (StepsIn.trans z (.one (fenced_calm hb hr rfl) stepR_inLoop)) O⟩
   | exit id=>exact⟨_,_,w1,⟨Y,d1,rfl,J⟩,.pass (x:=.inLoop c) rfl (λ_ _=>.inl F5) z⟩
   | goto l=>exact⟨_,_,w1,⟨Y,d1,rfl,J⟩,.pass (x:=.inLoop c) rfl (λ_ _=>.inl F5) z⟩
   | ret=>exact⟨_,_,w1,⟨Y,d1,rfl,J⟩,.pass (x:=.inLoop c) rfl (λ_ _=>.inl F5) z⟩
   | panic ch=>exact⟨_,_,w1,⟨Y,d1,rfl,J⟩,.pass (x:=.inLoop c) rfl (λ_ _=>.inl F5) z⟩
   | outgrown=>exact⟨_,_,w1,⟨Y,d1,rfl,J⟩,.pass (x:=.inLoop c) rfl (λ_ _=>.inl F5) z⟩
 obtain⟨e,a',w',J,z⟩:=key (μ g0) E g0 w rfl h0 hF0;exact⟨e,a',w',J,.of_steps (.one (fenced_calm hb hr rfl) stepR_loop) z⟩
variable {args:Array Value}
theorem Xnv {row:String}{R:Value->World->Prop}(h:Rows P row args w R):RowsIn (Lb r) 0 P row args w R:=λc cs _=>by
 obtain⟨v,w',hR,hs⟩:=h c cs;exact⟨v,w',hR,stepsIn_wide.2 hs⟩
variable {R:Ending->World->Prop}
theorem Y9 {m:Nat}{f:FuncId}(h:Calls P f args w R):CallsIn (Lb r) m P f args w R:=callsIn_wide.2 h
theorem X6g {o:Oper}(hd:N1 o=true){a:Act}{K0 K:Act->World->Prop}{Q0 Q:Exit->Act->World->Prop}(hK:∀a w,K0 a w->K (I8 ds a) w)(hQ:∀e a w,e≠.normal->¬ Q0 e a w)
  (h:o.wp P a w K0 Q0):o.wpIn (Lb r) 0 P (I8 ds a) w K Q:=by
 have hs:=Xns hd;unfold Oper.wp at h;unfold Oper.wpIn;refine⟨λ_ _=>trivial,?_⟩;rw[Oper.semAt_eq _ _ _ hs];have he:(I8 ds a).eval=a.eval:=rfl;rw[he]
 generalize hres:(execOp a.eval o).run P w=res at *
 cases res with
 | ok x w'=>
  cases x<;>simp only [Oper.upon,Oper.uponIn]at h ⊢
  case value v=>rw[NG];exact hK _ _ h
  case skip=>rw[NG];exact hK _ _ h
  case enter f args=>
   refine⟨λh=>by simp [Lb,Fence.wide]at h,Y9 (Calls.mono h λe w'' he=>?_)⟩
   cases e with
   | returned v=>show K ((I8 ds a).put o.dst v) w'';rw[NG];exact hK _ _ he
   | panicked c=>exact(hQ _ _ _ F5 he).elim
   | outgrown=>obtain⟨a',w0,z⟩:=he;exact(hQ _ _ _ F5 z).elim
  case row row args=>
   refine⟨λh=>by simp [Lb,Fence.wide]at h,Xnv (Rows.mono h λv w'' he=>?_)⟩;rw[NG];exact hK _ _ he
  case defer d=>
   have e:({ I8 ds a with defers:=d :: (I8 ds a).defers } : Act)=I8 ds { a with defers:=d :: a.defers }:=rfl;rw[e,NG];exact hK _ _ h
 | halt x w'=>
  cases x<;>simp only [Oper.upon]at h ⊢
  exact(hQ _ _ _ F5 h).elim
theorem WJ {ops:Array Oper}{Q0 Q1:Exit->Act->World->Prop}(hn:∀a w,Q0 .normal a w->Q1 .normal (I8 ds a) w)(hQ:∀e a w,e≠.normal->¬ Q0 e a w) :
  ∀(l:List Oper) (a:Act) (w:World),(∀o∈l,N1 o=true)->wpList P ops Q0 l a w->wpListIn (Lb r) 0 P ops Q1 l (I8 ds a) w
 | [],a,w,_,h=>hn _ _ h
 | o :: l,a,w,hd,h=>by
  have O:=WJ (ops:=ops) hn hQ l;have z:∀o∈l,N1 o=true:=λo h=>hd o (Ao _ h);unfold wpList at h;unfold wpListIn;have Y:(I8 ds a).tmps=a.tmps:=rfl;rw[Y];split
  ·rename_i J;rw[if_pos J]at h;rcases h with h|⟨_,a',w0,hf⟩
   ·exact X6g (hd o Ai) (λa w h=>O a w z h) hQ h
   ·exact(hQ _ _ _ F5 hf).elim
  ·rename_i J;rw[if_neg J]at h;refine⟨λ_ _=>trivial,?_⟩;rw[NG];exact O _ _ z h
theorem Ycn {K:FE->World->Prop} : ∀e a w,e≠.normal->¬ Ho n (nf K) e a w:=by
 rintro e a w he ⟨E,rfl,h⟩
 cases e<;>first|exact he rfl|exact h
theorem Pj {l:List Oper}(fs:List Fl)(hl:AM l.length fs.length=true)(h:Dw P n (l.map (·.dst)) (λa b=>a=b) (Ng l fs) (λE w=>Q .normal E ds w) E w):WX r ds P n (.region id l.toArray false) Q E w:=by
 intro ok;simp only [Kj,Aq]at ok;refine wpIn_region_list ?_;have h1:wpList P l.toArray (Ho n (nf λE w=>Q .normal E ds w)) l (Hv n E) w:=
  X3 (K:=λE w=>Q .normal E ds w) ok.1 (λ_ _ h=>h) _ fs E w (C6 hl) (λo ho=>Cv.1 ok.1 o (by simpa using ho)) (by simpa using h)
 rw[<-X03];refine WJ ?_ Ycn l _ _ (λo ho=>Cv.1 ok.2 o (by simpa using ho)) h1;rintro a w ⟨E',rfl,hq⟩;exact⟨E',ds,rfl,hq⟩
def DI (r:Option Nat)(P:Program)(n:Nat)(l:List (Option Tmp)):List (Oper×Fl)->(FE->World->Prop)->FE->World->Prop
 | [],K,E,w=>K E w
 | (o,.p) :: rs,K,E,w=>if FT l E o.guard=true then ∃v,PV P o E v/\DI r P n l rs K (GF E o.dst v) w else DI r P n l rs K (GF E o.dst undef) w
 | (o,.l) :: rs,K,E,w=>if FT l E o.guard=true then ∃v,LV P o E w v/\DI r P n l rs K (GF E o.dst v) w else DI r P n l rs K (GF E o.dst undef) w
 | (o,.x) :: rs,K,E,w=>if FT l E o.guard=true then(Jw n o=true->N1 o=true->o.wpIn (Lb r) 0 P (Hv n E) w (λa w'=>∃E',a=Hv n E'/\DI r P n l rs K E' w') (λ_ _ _=>False))else DI r P n l rs K (GF E o.dst undef) w
def mki : List Oper->List Fl->List (Oper×Fl)
 | o :: r,f :: fs=>(o,f) :: mki r fs
 | _,_=>[]
def Lz (E:FE):List Tmp->List Value->FE
 | p :: ps,v :: vs=>Lz (FR E p v) ps vs
 | _,_=>E
theorem Xa (ds:List Deferred):∀(ps:List Tmp) (vs:List Value) (E:FE),ps.length=vs.length->(ps.zip vs).foldl (λt (x:Tmp×Value)=>t.setIfInBounds x.1 x.2) (H1 n E ds).tmps=(H1 n (Lz E ps vs) []).tmps
 | [],[],E,_=>rfl
 | p :: ps,v :: vs,E,h=>by
  have h1:=Jm n E (some p) v;have h2:(H1 n E ds).tmps.setIfInBounds p v=(H1 n (FR E p v) ds).tmps:=congrArg Act.tmps h1;rw[List.zip_cons_cons,BS];show List.foldl _ ((H1 n E ds).tmps.setIfInBounds p v) _=_;rw[h2];exact Xa ds ps vs _ (by simpa using h)
 | [],_ :: _,_,h=>by simp at h
 | _ :: _,[],_,h=>by simp at h
theorem Xtv (ps:List Tmp)(vs:List Value)(h:ps.length=vs.length):(ps.toArray.zip vs.toArray).foldl (λt (x:Tmp×Value)=>t.setIfInBounds x.1 x.2) (H1 n E ds).tmps=(H1 n (Lz E ps vs) []).tmps:=by
 rw[<-Et,Array.toList_zip];exact Xa ds ps vs E h
theorem X05 {g:Operand}{ps:List Tmp}{assign body:Code}{gf N:Nat}{lb:Array Value}{args:Nat->List Value}
  (hg:ev E g=.func (.func gf) #[] lb) (hf:Hj P gf=true) (hlen:∀k,ps.length=(args k).length)
  (I:Nat->World->Prop) (A:Nat->FE->World->Prop) (h0:I 0 w)
  (hX:∀k W W',I k W->Fp W W'->I k W')
  (hL:∀k W l o o',I k W->w.heap.size<=l->W.heap[l]?=some o->o.isCells=false->I k (W.putObj l o'))
  (hAL:∀k E1 W l o o',A k E1 W->w.heap.size<=l->W.heap[l]?=some o->o.isCells=false->A k E1 (W.putObj l o'))
  (hit:∀l (J:Nat->World->Prop),(∀k W,J k W->I k W)->(∀k W W',J k W->Fp W W'->J k W')->
   (∀k W,J k W->k<N->YieldAt Fence.wide 0 P l (args k).toArray W λe W'=>e=.returned (.bool true)/\J (k+1) W')->
   ∀W,J 0 W->Calls P gf (#[.func (.yield l) #[] #[]]++lb) W λe W'=>(∃v,e=.returned v)/\J N W')
  (hassign:∀k l W,k<N->I k W->WX (some l) [] P n assign (λe E1 d1 W1=>e=.normal/\d1=[]/\Fp W W1/\A k E1 W1) (Lz E ps (args k)) W)
  (hbody:∀k l E1 W (keep:Nat->Prop),k<N->A k E1 W->(∀j,keep j->w.heap.size<=j/\∃o,W.heap[j]?=some o/\o.isCells=false)->
   WX (some l) [] P n body (λe _ d1 W'=>e=.normal/\I (k+1) W'/\∀j,keep j->W'.heap[j]?=W.heap[j]?) E1 W)
  (h:∀D W,w.heap.size<=D->I N W->W.heap[D]?=some (.deferred (some []))->Q .normal E ({ target:=.collected D,args:=#[] } :: ds) W) :
  WX none ds P n (.rangeFunc g ps.toArray assign body) Q E w:=by
 intro ok;simp only [Kj,Aq]at ok;obtain⟨⟨⟨okg,_⟩,oka⟩,okb⟩:=ok;have hgE:(H1 n E ds).eval g=.func (.func gf) #[] lb:=by rw[YG okg];exact hg
 unfold Hj at hf;have eg:∀args w,(callFunc gf args).run P w=.ok (.enter gf args) w:=by
  cases hp:P.funcs[gf]? with
  | none=>rw[hp]at hf;simp at hf
  | some fn=>
   rw[hp]at hf;simp only [Aq,BI]at hf;obtain⟨h1,h2⟩:=hf;have h3:fn.body≠none:=by cases hb:fn.body<;>simp [hb]at h2 ⊢
   have h1' : fn.name ≠ "runtime.NumGoroutine" := by simpa using h1
   intro args w;simp [callFunc,program,Sem.run,hp,h1',h3]
 refine wpIn_rangeFunc (F:=Lb none) ?_;intro fn hfn;rw[show(Lb none).round=none from rfl];obtain⟨rec,hrec⟩:∃rec:LoopState->Option Code->Loop,rec=λst pe=>{ state:=st,pending:=pe,fn,tmps:=(H1 n E ds).tmps,params:=ps.toArray,assign,body,defers:=w.heap.size }:=⟨_,rfl⟩;obtain⟨W1,hW1⟩:∃W1,(w.alloc (.deferred (some []))).alloc (.loop (rec .ready none))=W1:=⟨_,rfl⟩;have hL1:W1.heap[w.heap.size+1]?=some (.loop (rec .ready none)):=by
  rw[<-hW1];have:=World.alloc_heap_new (w.alloc (.deferred (some []))) (.loop (rec .ready none));rwa [World.size_alloc]at this
 have hK1:W1.heap[w.heap.size]?=some (.deferred (some [])):=by
  rw[<-hW1];exact(Below.heap_alloc _ _ _ F5).trans (World.alloc_heap_new w _)
 have hx1:Fp w W1:=by rw[<-hW1];exact(Fp.alloc _ _).trans (Fp.alloc _ _)
 have hI1:I 0 W1:=hX _ _ _ h0 hx1;refine⟨w.heap.size+1,[{ target:=.collected w.heap.size,args:=#[] }],W1,{ target:=.fn (.func gf) lb,args:=#[.func (.yield (w.heap.size+1)) #[] #[]] },W1,gf,
  #[.func (.yield (w.heap.size+1)) #[] #[]]++lb,W1,?_,?_,λ_ _=>trivial,?_,λh=>by simp [Lb,Fence.wide]at h,?_⟩
 ·rw[<-hW1,hrec];exact run_enterLoop_outer _ _ _ _ _
 ·simp only [resolve,hgE];simp [go_sem]
 ·simp [invoke,go_sem,eg]
 ·refine Y9 ((hit (w.heap.size+1) (λk W=>I k W/\W.heap[w.heap.size+1]?=some (.loop (rec .ready none))/\W.heap[w.heap.size]?=some (.deferred (some []))) (λ_ _ h=>h.1) ?_ ?_ W1 ⟨hI1,hL1,hK1⟩).mono ?_)
  ·rintro k W W' ⟨hi,hl,hk⟩ hx;have h1:=(BA.1 hl).1;have h2:=(BA.1 hk).1;exact⟨hX _ _ _ hi hx,by rw[hx.block _ h1 (λh=>h)];exact hl,by rw[hx.block _ h2 (λh=>h)];exact hk⟩
  ·rintro k W ⟨hi,hl,hk⟩ hkN;have hy:=run_yield (P:=P) (args:=(args k).toArray) hl (by rw[hrec];simp [hlen k]);rw[hrec]at hy;refine⟨fn,_,assign,body,hy,roundIn_of_wpIn (F:=Fence.wide) trivial ?_⟩;have e1:=Xtv (n:=n) (E:=E) (ds:=ds) ps (args k) (hlen k);have ha:=hassign k (w.heap.size+1) W hkN hi oka;have e2:({ tmps:=(ps.toArray.zip (args k).toArray).foldl (λtmps (x:Tmp×Value)=>tmps.setIfInBounds x.1 x.2) (H1 n E ds).tmps,defers:=[] } : Act)=H1 n (Lz E ps (args k)) []:=by rw[e1];rfl
   rw[e2];refine Go.wpIn_mono ha ?_;rintro e a W2 ⟨E1,d1,rfl,rfl,rfl,hx,hA⟩;have hlt1:=(BA.1 hl).1;have hlt2:=(BA.1 hk).1;have hl2:W2.heap[w.heap.size+1]?=some (.loop (rec .ready none)):=by rw[hx.block _ hlt1 (λh=>h)];exact hl
   have hk2:W2.heap[w.heap.size]?=some (.deferred (some [])):=by rw[hx.block _ hlt2 (λh=>h)];exact hk
   have hlt:w.heap.size+1<W2.heap.size:=(BA.1 hl2).1;refine⟨_,run_beginRound hl2 (by rw[hrec]),?_⟩;have hl3:(W2.putObj (w.heap.size+1) (.loop { rec .ready none with state:=.busy })).heap[w.heap.size+1]?=some (.loop { rec .ready none with state:=.busy }):=World.putObj_heap_same hlt;have hk3:(W2.putObj (w.heap.size+1) (.loop { rec .ready none with state:=.busy })).heap[w.heap.size]?=some (.deferred (some [])):=(World.putObj_heap_other Fb).trans hk2;have hA3:=hAL _ _ _ _ _ (.loop { rec .ready none with state:=.busy }) hA Fb hl2 rfl;have hb:=hbody k (w.heap.size+1) E1 _ (λj=>j=w.heap.size+1\/j=w.heap.size) hkN hA3 (by
    rintro j (rfl|rfl)
    ·exact⟨by omega,_,hl3,rfl⟩
    ·exact⟨by omega,_,hk3,rfl⟩) okb
   refine Go.wpIn_mono hb ?_;rintro e a3 W3 ⟨E3,d3,rfl,rfl,hI3,hkeep⟩;have hl4:=(hkeep _ (.inl rfl)).trans hl3;have hk4:=(hkeep _ (.inr rfl)).trans hk3;have hr:=run_endRound (P:=P) none hl4;refine⟨_,_,hr,rfl,hL _ _ _ _ _ hI3 Fb hl4 rfl,?_,(World.putObj_heap_other Fb).trans hk4⟩;rw[World.putObj_heap_same (BA.1 hl4).1,hrec];rfl
  ·rintro e W2 ⟨⟨v,rfl⟩,hi,hl,hk⟩;refine⟨none,_,by have:=run_endLoop (P:=P) hl (by rw[hrec];simp);rw[hrec]at this;exact this,E,_,rfl,?_⟩;exact h _ _ (Aa _) (hL _ _ _ _ _ hi Fb hl rfl) ((World.putObj_heap_other Fb).trans hk)
def Nk (P:Program)(fn:Func)(n:Nat)(R:Ending->World->Prop):QX
 | .normal,E,ds,w | .ret,E,ds,w=>LeavesInM Fence.wide 0 P fn (Hv n E).tmps R ds .returning w
 | _,_,_,_=>False
variable {fn:Func}
theorem Xvx (h:JN P fn n R .ret E w):Nk P fn n R .normal E [] w:=h
theorem Xvy {D:Nat}(hD:w.heap[D]?=some (.deferred (some [])))(h:JN P fn n R .ret E (w.putObj D (.deferred none))):Nk P fn n R .ret E [{ target:=.collected D,args:=#[] }] w:=
 ⟨by simp,.inl ⟨D,_,rfl,run_takeDeferred hD,h⟩⟩
theorem VN {f:FuncId}{c:Code}{az:List Value}(hf:P.funcs[f]?=some fn)(hb:fn.body=some c)(hn:fn.ntmps=n)(hle:B3 az.length n=true)(ok:Kj n c=true)(h:WX none [] P n c (Nk P fn n R) (KZ az 0 (λ_=>undef)) w):Calls P f az.toArray w R:=by
 have hle':az.length<=n:=by simpa [C7]using hle
 refine callsIn_wide.1 (callsIn_of_wp_marks (F:=Fence.wide) (n:=0) hf hb trivial ?_);have z:({ tmps:=az.toArray++Cl (fn.ntmps-az.toArray.size) undef,defers:=[] } : Act)=H1 n (KZ az 0 (λ_=>undef)) []:=by
  simp only [H1,hn]
  congr 1
  apply Dg
  ·simp;omega
  ·intro i h1 h2;simp only [Dh,WC,Ab,if_true,C8];rw[Ep]
   by_cases hi:i<az.length
   ·simp [hi]
   ·simp [hi]
 rw[z];refine Go.wpIn_mono (h ok) ?_;rintro e a w' ⟨E,d,rfl,hQ⟩
 cases e with
 | normal=>exact hQ
 | ret=>exact hQ
 | _=>exact hQ.elim
theorem Ydx {c:Operand}(hc:ev E c=.bool false)(h:WX r ds P n y Q E w):WX r ds P n (.cond c x y) Q E w:=X6e hc (λh=>by cases h) (λ_=>h)
theorem Pc {d:Option Tmp}{ty:TypeId}{pos:String}{af:Array Edge}{g:Option (Nat×Bool)}{f:Nat}{cs:List Operand}{vs:List Value}(hc:cs.map (ev E)=vs):PV P ⟨d,.makeFunc (.func f) #[] cs.toArray,ty,pos,af,g⟩ E (.func (.func f) #[] vs.toArray):=λw=>by
 subst hc;simp [execOp,Instr.makeFunc]
theorem Mod.putObj (W:World)(l:Nat)(o:Obj):Mod (Fu l) W (W.putObj l o):=⟨rfl,rfl,rfl,by simp,λk _ hk=>World.putObj_heap_other hk⟩
variable {b:Nat}
theorem Fo.cells {W:World}{T:Nat}{cs:List Value}(h:Fo W b cs T):∃o:Obj,W.heap[b]?=some o/\o.isCells=true:=⟨_,h,rfl⟩
theorem X06 {W:World}{l:Nat}{o:Obj}(hl:W.heap[l]?=some o)(ho:o.isCells=false)(h:∃o:Obj,W.heap[b]?=some o/\o.isCells=true):b≠l:=λe=>by
 obtain⟨o',h1,h2⟩:=h;subst e;rw[hl]at h1;cases h1;rw[ho]at h2;cases h2
theorem Fo.put {W:World}{T l:Nat}{cs:List Value}{o:Obj}(h:Fo W b cs T)(o':Obj)(hl:W.heap[l]?=some o)(ho:o.isCells=false):Fo (W.putObj l o') b cs T:=h.mod (Mod.putObj W l o') (X06 hl ho h.cells)
def Keeps (keep:Nat->Prop)(W0 W:World):Prop:=∀j,keep j->W.heap[j]?=W0.heap[j]?/\∃o,W.heap[j]?=some o/\o.isCells=false
section
variable {d:Option Tmp}{ty:TypeId}{pos:String}{af:Array Edge}{g:Option (Nat×Bool)}
end
end
@[reducible] def Js (f:Nat) (cs:List Value):Value:=.func (.func f) #[] cs.toArray
section
variable {P:Program}{n:Nat}{ds:List (Option Tmp)}{R:World->World->Prop}{r:List (Oper×Fl×Bool)}{K:FE->World->Prop}{E:FE}{w:World}
variable {d:Nat}{op:Op}{ty:TypeId}{pos:String}{af:Array Edge}{g:Option (Nat×Bool)}{anc:Bool}{v:Value}
variable {ats:Array TypeId}{az:List Operand}{f t:Nat}{vs:List Value}
theorem TO {cs:List Value}{R1:Ending->World->Prop}(hg:FT ds E g=true)(hv:E t=Js f cs)(hf:Hj P f=true)(ha:az.map (ev E)=vs)(hc:Calls P f (vs++cs).toArray w R1)(h:∀e w1,R1 e w1->∃v,e=.returned v/\(anc=false->R w w1)/\Dw P n ds R r K (FR E d v) w1):
  Dw P n ds R ((⟨some d,.call { callee:=.value (.tmp t),args:=az.toArray,argTypes:=ats },ty,pos,af,g⟩,.x,anc) :: r) K E w:=by
 refine Ob hg λok=>?_;unfold Hj at hf
 cases hp:P.funcs[f]? with
 | none=>rw[hp]at hf;simp at hf
 | some fn=>
  rw[hp]at hf;simp only [Aq,BI]at hf;obtain⟨h1,h2⟩:=hf;have h3:fn.body≠none:=by cases hb:fn.body<;>simp [hb]at h2 ⊢
  have h1' : fn.name ≠ "runtime.NumGoroutine" := by simpa using h1
  have hr:(execOp (ev E) ⟨some d,.call { callee:=.value (.tmp t),args:=az.toArray,argTypes:=ats },ty,pos,af,g⟩).run P w=.ok (.enter f (vs++cs).toArray) w:=by
   simp [execOp,resolve,ev,hv,Deferred.ofValue,invoke,callFunc,program,Sem.run,hp,h1',h3,ha]
  unfold Oper.wp;rw[MH ok,hr];simp only [Oper.upon];refine Calls.mono hc λe w1 h1=>?_;obtain⟨v,rfl,hR,hd⟩:=h e w1 h1;exact⟨_,Jm _ _ _ _,hR,hd⟩
theorem X07 {S:Nat->Prop}{cs:List Value}{F:Value->World->Prop}(hg:FT ds E g=true)(hv:E t=Js f cs)(hf:Hj P f=true)(hc:Calls P f (vs++cs).toArray w (Hi S w F))(ha:az.map (ev E)=vs)(hR:anc=true\/∀w',Mod S w w'->R w w')(h:∀v w1,Mod S w w1->F v w1->Dw P n ds R r K (FR E d v) w1):
  Dw P n ds R ((⟨some d,.call { callee:=.value (.tmp t),args:=az.toArray,argTypes:=ats },ty,pos,af,g⟩,.x,anc) :: r) K E w:=
 TO hg hv hf ha hc λe w1 ⟨v,he,hx,hF⟩=>⟨v,he,λe=>hR.elim (λh=>by rw[h]at e;cases e) (λh=>h _ hx),h v w1 hx hF⟩
theorem QN {cs:List Value}(hg:FT ds E g=true)(hv:E t=Js f cs)(hf:Hj P f=true)(hc:Calls P f (vs++cs).toArray w (Pure w v))(ha:az.map (ev E)=vs)(hR:RX R anc)(h:∀w1,Fp w w1->Dw P n ds R r K (FR E d v) w1):
  Dw P n ds R ((⟨some d,.call { callee:=.value (.tmp t),args:=az.toArray,argTypes:=ats },ty,pos,af,g⟩,.x,anc) :: r) K E w:=
 TO hg hv hf ha hc λe w1 ⟨he,hx⟩=>⟨v,he,hR.use hx,h w1 hx⟩
end
end Go.Vc
namespace Go.Vc
open Go.RowKit Go.Maps
def pO : Option Nat->Value
 | none=>.pointer none
 | some b=>Fg b 0
theorem SU : ∀a b,pO a=pO b->a=b
 | none,none,_=>rfl
 | none,some _,h=>by simp [pO]at h
 | some _,none,h=>by simp [pO]at h
 | some a,some b,h=>by
  have:a=b:=by simpa [pO]using h
  rw[this]
def AnyK (P:Program)(k:TypeId):Type:={v:Value // ∃l,keyOf P k v=some l}
theorem Ydy {P:Program}{k:TypeId}(hl:laidOutB P=true)(hrow:AR k P.types.size=true)(hka:P.keyTypeAt 2 k=true)(hwide:(match P.underlying k with|some (.array _ _)|some (.struct _)=>true|_=>false)=true):Keyed P k:=
 Keyed.of_law (deep_law_laid hl (m:=2) Fb (by simpa [Bi]using hrow) hka hwide)
def Gt (w:World)(b:Nat):Prop:=w.heap[b]?=some (.map #[] 0)
variable {b:Nat}{w:World}
theorem Gt.lt (h:Gt w b):b<w.heap.size:=(BA.1 h).1
variable {w':World}
theorem Gt.mod {S:Nat->Prop}(h:Gt w b)(x:Mod S w w')(hS:¬ S b):Gt w' b:=(x.block b h.lt hS).trans h
theorem Gt.ext (h:Gt w b)(x:Fp w w'):Gt w' b:=h.mod x (λh=>h)
instance {w w':World} {b:Nat} : Up w w' (Gt w b) (Gt w' b):=⟨λx h=>h.ext x⟩
theorem Gt.at {P:Program}{κ α:Type}{k:TypeId}{kv:κ->Value}{av:α->Value}(h:Gt w b):Xbf P k kv av w b 0 (λ_=>none):=
 ⟨.map [],⟨#[],0,h,⟨by simp,MapKept.stamped_empty 0,by simp⟩,Aa _,rfl⟩,λx l hl z=>rfl⟩
def HS (w:World)(v:Value):Prop:=v=.map none\/∃b,v=.map (some b)/\Gt w b
theorem HS.ext {v:Value}(h:HS w v)(x:Fp w w'):HS w' v:=h.imp id λ⟨b,e,hb⟩=>⟨b,e,hb.ext x⟩
theorem Gt.val (h:Gt w b):HS w (.map (some b)):=.inr ⟨b,rfl,h⟩
theorem HS.lt {v:Value}(h:HS w v)(e:v=.map (some b)):b<w.heap.size:=by
 rcases h with rfl|⟨b2,rfl,h⟩
 ·cases e
 ·cases e;exact h.lt
theorem Xv1 {v:Value}(h:HS w v):v.cells=⟨[v]⟩:=by
 rcases h with rfl|⟨b,rfl,_⟩<;>rfl
def PB (w:World)(r:Nat):Prop:=∃m c a,w.heap[r]?=some (.mapIter m c #[] a)/\(m=none\/∃b,m=some b/\Gt w b)
@[reducible] def Ji (f:Nat) (bs:List Value):Value:=.func (.func f) bs.toArray #[]
section
variable {P:Program}{n:Nat}{ds:List (Option Tmp)}{R:World->World->Prop}{r:List (Oper×Fl×Bool)}{K:FE->World->Prop}{E:FE}{w:World}
variable {d:Nat}{op:Op}{ty:TypeId}{pos:String}{af:Array Edge}{g:Option (Nat×Bool)}{anc:Bool}{v:Value}
variable {dd:Option Tmp}{f:Nat}{vs:List Value}
theorem SC {bs:List Operand}(hc:bs.map (ev E)=vs):PV P ⟨dd,.makeFunc (.func f) bs.toArray #[],ty,pos,af,g⟩ E (.func (.func f) vs.toArray #[]):=λw=>by
 simp [execOp,hc];rfl
theorem X09 {x y:Operand}{T:TypeId}{a:Fh}{c:UInt8}(hT:Kn P T=true)(hx:ev E x=S a)(hy:ev E y=.int .u8 0)(hi:a[0]?=some c):PV P ⟨dd,.index T x y,ty,pos,af,g⟩ E (.int .u8 c.toNat):=λw=>by
 have J:P.underlying T=some .string:=by
  unfold Kn at hT;split at hT<;>first|assumption|cases hT
 have e:(⟨⟨a⟩⟩:ByteArray)[(0:Int).toNat]?=some c:=by
  have z:0<a.length:=(Ap.1 hi).1;show(⟨⟨a⟩⟩:ByteArray)[0]?=some c;rw[getElem?_pos _ 0 z];exact hi▸(by rw[Au z];rfl)
 have e2:(⟨⟨a⟩⟩:ByteArray)[0]?=some c:=by simpa using e
 simp [execOp,Instr.index,asIntOf,hx,hy,underlying,J,e2]
theorem Wp {x:Operand}{T e k:Nat}(hT:IH P T=some (e,k))(hx:ev E x=.slice none 0 0):PV P ⟨dd,.call { callee:=.builtin .cap,args:=#[x],argTypes:=#[T] },ty,pos,af,g⟩ E (I 0):=λw=>by
 obtain⟨hu,_⟩:=KX hT;simp [execOp,resolve,invoke,builtin,Builtin.cap_,underlying,hu,hx,goInt]
variable {ats:Array TypeId}{az:List Operand}{bs:List Value}
theorem X6h {t:Nat}{R1:Ending->World->Prop}(hg:FT ds E g=true)(hv:E t=Ji f bs)(hf:Hj P f=true)(ha:az.map (ev E)=vs)(hc:Calls P f (bs++vs).toArray w R1)(h:∀e w1,R1 e w1->∃v,e=.returned v/\(anc=false->R w w1)/\Dw P n ds R r K (FR E d v) w1):
  Dw P n ds R ((⟨some d,.call { callee:=.value (.tmp t),args:=az.toArray,argTypes:=ats },ty,pos,af,g⟩,.x,anc) :: r) K E w:=by
 refine Ob hg λok=>?_;unfold Hj at hf
 cases hp:P.funcs[f]? with
 | none=>rw[hp]at hf;simp at hf
 | some fn=>
  rw[hp]at hf;simp only [Aq,BI]at hf;obtain⟨h1,h2⟩:=hf;have h3:fn.body≠none:=by cases hb:fn.body<;>simp [hb]at h2 ⊢
  have h1' : fn.name ≠ "runtime.NumGoroutine" := by simpa using h1
  have hr:(execOp (ev E) ⟨some d,.call { callee:=.value (.tmp t),args:=az.toArray,argTypes:=ats },ty,pos,af,g⟩).run P w=.ok (.enter f (bs++vs).toArray) w:=by
   simp [execOp,resolve,ev,hv,Deferred.ofValue,invoke,callFunc,program,Sem.run,hp,h1',h3,ha]
  unfold Oper.wp;rw[MH ok,hr];simp only [Oper.upon];refine Calls.mono hc λe w1 h1=>?_;obtain⟨v,rfl,hR,hd⟩:=h e w1 h1;exact⟨_,Jm _ _ _ _,hR,hd⟩
theorem X1a {t:Nat}(hg:FT ds E g=true)(hv:E t=Ji f bs)(hf:Hj P f=true)(hc:Calls P f (bs++vs).toArray w (Pure w v))(ha:az.map (ev E)=vs)(hR:RX R anc)(h:∀w1,Fp w w1->Dw P n ds R r K (FR E d v) w1):
  Dw P n ds R ((⟨some d,.call { callee:=.value (.tmp t),args:=az.toArray,argTypes:=ats },ty,pos,af,g⟩,.x,anc) :: r) K E w:=
 X6h hg hv hf ha hc λe w1 ⟨he,hx⟩=>⟨v,he,hR.use hx,h w1 hx⟩
theorem TC {t:TypeId}(hg:FT ds E g=true)(hR:RX R anc)
  (h:∀b w1,b=w.heap.size->Fp w w1->Gt w1 b->Dw P n ds R r K (FR E d (.map (some b))) w1):Dw P n ds R ((⟨some d,.makeMap t none,ty,pos,af,g⟩,.x,anc) :: r) K E w:=by
 refine I1 (v:=.map (some w.heap.size)) (w':=w.alloc (.map #[] 0)) hg ?_ (hR.use (Fp.alloc _ _)) (h _ _ rfl (Fp.alloc _ _) (World.alloc_heap_new w _));have e1:(Instr.makeMap t none).run P w=.ok (.map (some w.heap.size)) (w.alloc (.map #[] 0)):=run_makeMap t w;simp [execOp,e1]
def X4a (P:Program)(t:TypeId):Bool:=match P.underlying t with
 | some (.map _ _)=>true
 | _=>false
theorem X1b {t:TypeId}{m:Operand}{mv:Value}(hb:X4a P t=true)(hg:FT ds E g=true)(hm:ev E m=mv)(hv:HS w mv)(hR:RX R anc)
  (h:∀q w1,q=w.heap.size->Fp w w1->PB w1 q->Dw P n ds R r K (FR E d (Fg q 0)) w1) :
  Dw P n ds R ((⟨some d,.range t m,ty,pos,af,g⟩,.x,anc) :: r) K E w:=by
 obtain⟨k,e,hu⟩:∃k e,P.underlying t=some (.map k e):=by
  unfold X4a at hb;split at hb
  ·exact⟨_,_,by assumption⟩
  ·cases hb
 rcases hv with rfl|⟨b,rfl,hb⟩
 ·refine I1 (w':=w.alloc (.mapIter none 0 #[] 0)) (v:=Fg w.heap.size 0) hg ?_ (hR.use (Fp.alloc _ _)) (h _ _ rfl (Fp.alloc _ _) ⟨none,0,0,World.alloc_heap_new w _,.inl rfl⟩);simp [execOp,hm,run_range_nilMap w t k e hu]
 ·refine I1 (w':=w.alloc (.mapIter (some b) 0 #[] 0)) (v:=Fg w.heap.size 0) hg ?_ (hR.use (Fp.alloc _ _)) (h _ _ rfl (Fp.alloc _ _) ⟨some b,0,0,World.alloc_heap_new w _,.inr ⟨b,rfl,hb.ext (Fp.alloc _ _)⟩⟩);simp [execOp,hm,run_range_map w t k e b #[] 0 hu hb]
theorem Xv3 {q:Nat}(hi:PB w q):(Instr.next (Fg q 0) false ty).run P w=.ok (.tuple #[.bool false]) w:=by
 obtain⟨m,c,a,h1,h2⟩:=hi;rcases h2 with rfl|⟨b,rfl,hb⟩
 ·simp only [Instr.next,getObj,Sem.run_bind,Sem.run,h1,Result.andThen];rfl
 ·unfold Gt at hb;simp [Instr.next,getObj,Sem.run_bind,Sem.run,h1,hb,Result.andThen,choose,Question.forced]
theorem X6i {it:Operand}{q:Nat}(hg:FT ds E g=true)(hit:ev E it=Fg q 0)(hi:PB w q)(hR:RX R anc)(h:Dw P n ds R r K (FR E d (.tuple #[.bool false])) w) :
  Dw P n ds R ((⟨some d,.next it false,ty,pos,af,g⟩,.x,anc) :: r) K E w:=by
 refine I1 (w':=w) (v:=.tuple #[.bool false]) hg ?_ (hR.use (Fp.refl _)) h;simp [execOp,hit,Xv3 hi]
end
end Go.Vc
namespace Go.Vc
open Go.RowKit
section
variable {κ α β:Type}[DecidableEq κ]
def lk (l:List (κ×α))(x:κ):Option α:=(l.find? λp=>decide (p.1=x)).map (·.2)
def FG (l:List (κ×α))(x:κ)(a:α):List (κ×α):=if(lk l x).isSome then l.map (λp=>if p.1=x then(x,a)else p)else l++[(x,a)]
def G2 (l:List (κ×α))(x:κ):List (κ×α):=l.filter λp=>decide (p.1≠x)
theorem MY (x:κ):lk ([]:List (κ×α)) x=none:=rfl
theorem JO (p:κ×α)(l:List (κ×α))(x:κ):lk (p :: l) x=if p.1=x then some p.2 else lk l x:=by
 unfold lk
 by_cases h:p.1=x
 ·simp [h]
 ·simp [h]
variable {l:List (κ×α)}{x:κ}
theorem M5 : lk l x=none↔x∉l.map (·.1):=by
 induction l with
 | nil=>simp [MY]
 | cons p l ih=>
  rw[JO]
  by_cases h:p.1=x
  ·simp [h]
  ·rw[if_neg h,ih];have h2:¬ x=p.1:=λe=>h e.symm;simp [h2]
theorem Tc {a:α}(h:lk l x=some a):(x,a)∈l:=by
 induction l with
 | nil=>cases h
 | cons p l ih=>
  rw[JO]at h
  by_cases e:p.1=x
  ·rw[if_pos e]at h;cases h;subst e;exact Ai
  ·rw[if_neg e]at h;exact Ao _ (ih h)
theorem X9v {a:α}(hn:(l.map (·.1)).Nodup)(h:(x,a)∈l):lk l x=some a:=by
 induction l with
 | nil=>cases h
 | cons p l ih=>
  rw[Am,Bk]at hn;rw[JO];rcases Ah.1 h with rfl|h
  ·simp
  ·have:p.1≠x:=λe=>hn.1 (e▸Ay.2 ⟨_,h,rfl⟩);rw[if_neg this];exact ih hn.2 h
theorem Xv5 (l m:List (κ×α))(x:κ):lk (l++m) x=(lk l x).or (lk m x):=by
 induction l with
 | nil=>simp [MY]
 | cons p l ih=>
  rw[AY,JO,JO,ih];split<;>simp
theorem Pf (l:List (κ×α))(x:κ)(a:α)(y:κ):lk (FG l x a) y=if y=x then some a else lk l y:=by
 unfold FG;split
 ·rename_i h;have key:∀l:List (κ×α),lk (l.map (λp=>if p.1=x then(x,a)else p)) y=if y=x then(if(lk l x).isSome then some a else none)else lk l y:=by
   intro l
   induction l with
   | nil=>simp [MY]
   | cons p l ih=>
    rw[Am,JO,ih,JO,JO]
    by_cases e:p.1=x
    ·by_cases e2:y=x
     ·simp [e,e2]
     ·have z:¬ x=y:=λh=>e2 h.symm;simp [e,e2,z]
    ·by_cases e2:y=x
     ·simp [e,e2]
     ·simp [e,e2]
  rw[key,h];simp
 ·rename_i h;rw[Xv5,JO,MY];have h':lk l x=none:=by simpa using h
  by_cases e:y=x
  ·subst e;rw[h'];simp
  ·have z:¬ x=y:=λh=>e h.symm;simp [e,z]
theorem X6j (l:List (κ×α))(x:κ)(y:κ):lk (G2 l x) y=if y=x then none else lk l y:=by
 unfold G2
 induction l with
 | nil=>simp [MY]
 | cons p l ih=>
  rw[BF]
  by_cases e:p.1=x
  ·rw[if_neg (by simp [e]),ih,JO]
   by_cases e2:y=x
   ·simp [e2]
   ·have z:¬ p.1=y:=λh=>e2 (h▸e);simp [e2,z]
  ·rw[if_pos (by simp [e]),JO,ih,JO]
   by_cases e2:y=x
   ·have z:¬ p.1=y:=λh=>e (h.trans e2);simp [e2,z];intro h;exact absurd h e
   ·simp [e2]
theorem Xv6 (l:List (κ×α))(x:κ)(a:α):(FG l x a).map (·.1)=if(lk l x).isSome then l.map (·.1)else l.map (·.1)++[x]:=by
 unfold FG;split
 ·rw[List.map_map];refine List.map_congr_left λp _=>?_;simp only [Function.comp];split
  ·rename_i h;exact h.symm
  ·rfl
 ·simp
theorem S2 (x:κ)(a:α)(h:(l.map (·.1)).Nodup):((FG l x a).map (·.1)).Nodup:=by
 rw[Xv6];split
 ·exact h
 ·rename_i hn;have z:x∉l.map (·.1):=M5.1 (by simpa using hn);rw[List.nodup_append];exact⟨h,by simp,λa J b hb=>by simp at hb;subst hb;exact λe=>z (e▸J)⟩
theorem Rt (x:κ)(h:(l.map (·.1)).Nodup):((G2 l x).map (·.1)).Nodup:=by
 unfold G2;exact List.Nodup.sublist (CH _ List.filter_sublist) h
theorem Rx (l:List (κ×α))(x:κ)(a:α):(FG l x a).length=if(lk l x).isSome then l.length else l.length+1:=by
 unfold FG;split<;>simp
theorem Vw (h:(l.map (·.1)).Nodup):(G2 l x).length+(if(lk l x).isSome then 1 else 0)=l.length:=by
 unfold G2
 induction l with
 | nil=>simp [MY]
 | cons p l z=>
  rw[Am,Bk]at h;have z:=z h.2;rw[BF,JO]
  by_cases e:p.1=x
  ·have J:lk l x=none:=M5.2 (e▸h.1);rw[J]at z;simp [e]at z ⊢;exact z
  ·rw[if_pos (by simp [e]),if_neg e,AA,AA];omega
theorem Xv7 (h:lk l x=none):G2 l x=l:=by
 unfold G2;refine List.filter_eq_self.2 λp z=>?_;have:=M5.1 h;have:p.1≠x:=λe=>this (e▸Ay.2 ⟨p,z,rfl⟩);simp [this]
end
def Gl {κ α:Type}[DecidableEq κ](P:Program)(k:TypeId)(kv:κ->Value)(av:α->Value)(w:World)(b:Nat)(l:List (κ×α)):Prop:=
 (l.map (·.1)).Nodup/\∃D:DataW α,w.ownsMap P k (rdBy av) b l.length D/\Maps.size D=l.length/\∀x lx,keyOf P k (kv x)=some lx->∀z,D.atKey lx z=M7 (lk l x) z
theorem World.ownsMap.exact {H:Type}{P:Program}{k:TypeId}{R:Value->Option (DataW H×List MemPlace)}{w:World}{b n:Nat}{D:DataW H}(h:w.ownsMap P k R b n D){m:Nat}(hm:Maps.size D=m):w.ownsMap P k R b m D:=by
 obtain⟨es,z,hb,F,_,rfl⟩:=h;refine⟨es,z,hb,F,?_,rfl⟩;have e1:Maps.size (DataW.map ((es.toList.map (Go.WideElems.rg P k R)).foldr DataW.insert []))=es.size:=by simp [Maps.size,length_sorted]
 omega
section
variable {P:Program}{κ α:Type}[DecidableEq κ]{t k e:TypeId}{kv:κ->Value}{av:α->Value}{ok:κ->Prop}{w w':World}{b:Nat}{l:List (κ×α)}
theorem Gl.at (h:Gl P k kv av w b l):Xbf P k kv av w b l.length (lk l):=by
 obtain⟨_,D,h1,_,h3⟩:=h;exact⟨D,h1,h3⟩
theorem Gl.mod {S:Nat->Prop}(h:Gl P k kv av w b l)(m:Mod S w w')(hb:¬ S b):Gl P k kv av w' b l:=by
 obtain⟨h0,D,h1,h2,h3⟩:=h;exact⟨h0,D,World.ownsMap.mod h1 m hb,h2,h3⟩
theorem Gl.ext (h:Gl P k kv av w b l)(m:Fp w w'):Gl P k kv av w' b l:=h.mod m (λh=>h)
instance : Up w w' (Gl P k kv av w b l) (Gl P k kv av w' b l):=⟨λx h=>h.ext x⟩
theorem Gl.lt (h:Gl P k kv av w b l):b<w.heap.size:=h.at.lt
theorem Gl.nodup (h:Gl P k kv av w b l):(l.map (·.1)).Nodup:=h.1
theorem Gl.has (M:MapK P t k e kv av ok){D:DataW α}{x:κ}{lx:Lit}(hx:keyOf P k (kv x)=some lx)(h3:∀x lx,keyOf P k (kv x)=some lx->∀z,D.atKey lx z=M7 (lk l x) z):Maps.has D lx=(lk l x).isSome:=by
 cases e:lk l x with
 | none=>exact Maps.has_false_of_atKey λz=>by rw[h3 x lx hx z,e];rfl
 | some a=>exact Maps.has_true_of_atKey (y:=.held a) λz=>by rw[h3 x lx hx z,e];rfl
theorem WW {b:Nat}(ht:w.mapTurned w' b):Mod (Fu b) w w'/\w'.heap.size=w.heap.size:=by
 refine⟨(Mod.of_grown ht.grown).mono (λi hi _=>(Al.inj hi).symm),?_⟩;obtain⟨es,c,es',c',_,e⟩:=ht;rw[e];simp [ChangeMaps.setBlock]
theorem Gl.update (M:MapK P t k e kv av ok)(h:Gl P k kv av w b l)(hn:l.length<maxLen){x:κ}(hx:ok x)(a:α) :
  ∃w',(Instr.mapUpdate t (.map (some b)) (kv x) (av a)).run P w=.ok () w'/\Gl P k kv av w' b (FG l x a)/\Mod (Fu b) w w'/\w'.heap.size=w.heap.size:=by
 obtain⟨h0,D,h1,h2,h3⟩:=h;obtain⟨lx,J⟩:=M.key x hx;obtain⟨w',hr,ho,Z⟩:=h1.store M.keyed M.und hn J (Sg M.ainj a);have hs:Maps.size (D.put lx (.held a))=(FG l x a).length:=by
  rw[Maps.size_put (h1.tidy M.keyed),Gl.has M J h3,Rx,h2]
 refine⟨w',hr,⟨S2 x a h0,_,World.ownsMap.exact ho hs,hs,λy Y O z=>?_⟩,WW Z⟩;rw[Pf]
 by_cases e:y=x
 ·subst e;rw[J]at O
  cases O
  rw[if_pos rfl,Maps.atKey_put_same h1.isMap (M.keyed.key J)];rfl
 ·rw[if_neg e,Maps.atKey_put_other (QQ M J O e),h3 y Y O]
theorem Gl.drop (M:MapK P t k e kv av ok)(h:Gl P k kv av w b l){x:κ}(hx:ok x)(ty:TypeId) :
  ∃w',(Builtin.delete_ #[t,k] ty #[.map (some b),kv x]).run P w=.ok (.tuple #[]) w'/\Gl P k kv av w' b (G2 l x)/\Mod (Fu b) w w'/\w'.heap.size=w.heap.size:=by
 obtain⟨h0,D,h1,h2,h3⟩:=h;obtain⟨lx,O⟩:=M.key x hx;obtain⟨w',hr,ho,Z⟩:=h1.drop M.keyed M.und O ty;have hs:Maps.size (D.del lx)=(G2 l x).length:=by
  have h4:=Maps.size_del (h1.tidy M.keyed) (k:=lx);have h5:=Vw (x:=x) h0;rw[Gl.has M O h3,h2]at h4;omega
 refine⟨w',hr,⟨Rt x h0,_,World.ownsMap.exact ho hs,hs,λy Y J z=>?_⟩,WW Z⟩;rw[X6j]
 by_cases e:y=x
 ·subst e;rw[O]at J
  cases J
  rw[if_pos rfl,Maps.atKey_del_same];rfl
 ·rw[if_neg e,Maps.atKey_del_other (QQ M O J e),h3 y Y J]
variable {n:Nat}{E:FE}{ds:List (Option Tmp)}{R:World->World->Prop}{rs:List (Oper×Fl×Bool)}{K:FE->World->Prop}{d:Nat}{ty:TypeId}{pos:String}{af:Array Edge}{g:Option (Nat×Bool)}{anc:Bool}
variable {m:Operand}
theorem St {x y:Operand}(M:MapK P t k e kv av ok){kx:κ}{a:α}(hg:FT ds E g=true)(hm:ev E m=.map (some b))(hx:ev E x=kv kx)(hy:ev E y=av a)(hmap:Gl P k kv av w b l)(hok:ok kx)(hn:l.length<maxLen)(hR:anc=true\/∀w',Mod (Fu b) w w'->R w w')(h:∀w1,Mod (Fu b) w w1->w1.heap.size=w.heap.size->Gl P k kv av w1 b (FG l kx a)->Dw P n ds R rs K E w1):
  Dw P n ds R ((⟨none,.mapUpdate t m x y,ty,pos,af,g⟩,.x,anc) :: rs) K E w:=by
 obtain⟨w',z,h1,h2,h3⟩:=hmap.update M hn hok a;refine Tn (w':=w') hg ?_ (λe=>hR.elim (λh=>by rw[h]at e;cases e) (λh=>h _ h2)) (h _ h2 h3 h1);simp [execOp,hm,hx,hy,z]
variable {dd:Option Tmp}
theorem RT {x:Operand}(M:MapK P t k e kv av ok){kx:κ}(hg:FT ds E g=true)(hm:ev E m=.map (some b))(hx:ev E x=kv kx)(hmap:Gl P k kv av w b l)(hok:ok kx)(hR:anc=true\/∀w',Mod (Fu b) w w'->R w w')(h:∀w1,Mod (Fu b) w w1->w1.heap.size=w.heap.size->Gl P k kv av w1 b (G2 l kx)->Dw P n ds R rs K (GF E dd (.tuple #[])) w1):
  Dw P n ds R ((⟨dd,.call { callee:=.builtin .delete,args:=#[m,x],argTypes:=#[t,k] },ty,pos,af,g⟩,.x,anc) :: rs) K E w:=by
 obtain⟨w',z,h1,h2,h3⟩:=hmap.drop M hok ty;refine I1 (v:=.tuple #[]) (w':=w') hg ?_ (λe=>hR.elim (λh=>by rw[h]at e;cases e) (λh=>h _ h2)) (h _ h2 h3 h1);simp [execOp,resolve,invoke,builtin,hm,hx,z]
theorem X6k (M:MapK P t k e kv av ok)(hm:ev E m=.map (some b))(hmap:Gl P k kv av w b l):LV P ⟨dd,.call { callee:=.builtin .len,args:=#[m],argTypes:=#[t] },ty,pos,af,g⟩ E w (I l.length):=by
 obtain⟨h0,D,h1,h2,h3⟩:=hmap;have:=h1.len M.und ty;rw[h2]at this;unfold LV;simp [execOp,resolve,invoke,builtin,hm,this]
end
section
variable {α:Type}{enc:α->List Value}{sz T B:Nat}{w:World}{v:Value}{l:List α}
theorem Oa : ∀(vs:List Value) (o:Nat) (cs:List Value) (i:Nat),o+vs.length<=cs.length->(Gr cs o vs)[i]?=if o<=i/\i<o+vs.length then vs[i-o]? else cs[i]?
 | [],o,cs,i,h=>by simp [Gr];intro h1 h2;omega
 | x :: vs,o,cs,i,h=>by
  rw[Gr,Oa vs (o+1) (cs.set o x) i (by simp at h ⊢;omega)];simp only [AA]at h ⊢
  by_cases h1:i=o
  ·subst h1;rw[if_neg Fb,if_pos Fb,CI];simp;omega
  ·by_cases h2:o<=i/\i<o+(vs.length+1)
   ·rw[if_pos Fb,if_pos h2,show i-o=(i-(o+1))+1 by omega,List.getElem?_cons_succ]
   ·rw[if_neg Fb,if_neg h2,CI,if_neg (λe=>h1 e.symm)]
theorem X1c (henc:∀x,(enc x).length=sz):∀(l:List α) (i j:Nat) (x:α) (vs:List Value),i<l.length->enc x=Gr (enc (l.getD i x)) j vs->j+vs.length<=sz->
  (l.set i x).flatMap enc=Gr (l.flatMap enc) (i*sz+j) vs:=by
 intro l i j x vs hi hx hj
 apply BB
 intro m;have z:(l.flatMap enc).length=l.length*sz:=FF henc l;have hi':i*sz+sz<=l.length*sz:=by rw[<-Bd];exact AW _ hi
 rw[Oa _ _ _ _ (by rw[z];omega)]
 by_cases hm:m<l.length*sz
 ·have Y:0<sz:=by
   rcases Nat.eq_zero_or_pos sz with h|h
   ·rw[h]at hm;omega
   ·exact h
  have hq:m / sz<l.length:=DH (by rw[Bv];exact hm);have J:m / sz*sz+m % sz=m:=by have:=Eu m sz;rw[Bv]at this;exact this
  have hr:m % sz<sz:=Be _ Y;have at':∀(l:List α) (y:α),l[m / sz]?=some y->(l.flatMap enc)[m]?=(enc y)[m % sz]?:=by
   intro l y Z;have O:m % sz<(enc y).length:=by rw[henc];exact hr
   have:=PT henc l (m / sz) y Z (m % sz) _ (Au O);rw[J]at this;rw[this,Au O]
  by_cases hqi:m / sz=i
  ·have h1:(l.set i x)[m / sz]?=some x:=by rw[hqi,CI];simp [hi]
   rw[at' _ _ h1,hx,Oa _ _ _ _ (by rw[henc];exact hj)];have e1:l[m / sz]?=some (l.getD i x):=by rw[hqi,List.getD_eq_getElem?_getD,Au hi];rfl
   rw[at' _ _ e1];have e2:i*sz+m % sz=m:=by rw[<-hqi];exact J
   by_cases hc:j<=m % sz/\m % sz<j+vs.length
   ·rw[if_pos hc,if_pos Fb];congr 1;omega
   ·rw[if_neg hc,if_neg Fb]
  ·have h1:(l.set i x)[m / sz]?=l[m / sz]?:=by rw[CI,if_neg (λe=>hqi e.symm)]
   have Z:=Au hq;rw[at' _ _ (h1.trans Z),at' _ _ Z,if_neg];rintro ⟨h2,h3⟩
   apply hqi
   have:i*sz<=m:=by omega
   have h4:m<(i+1)*sz:=by rw[Bd];omega
   exact Nat.le_antisymm (Nat.lt_succ_iff.1 (DH (by rw[Bv];exact h4))) ((Nat.le_div_iff_mul_le Y).2 this)
 ·have hl2:((l.set i x).flatMap enc).length=l.length*sz:=by rw[FF henc,A9]
  rw[Bh Fb,if_neg Fb,Bh Fb]
theorem Own.cells (h:Own enc sz T B w v l)(hl:l≠[]):∃cs cap,v=.slice (some ⟨(base v).1,0,none⟩) l.length cap/\Fo w (base v).1 cs T/\cs.take (l.length*sz)=l.flatMap enc/\l.length*sz<=cs.length:=by
 obtain⟨h1,h2⟩:=h.row;rcases h2 with⟨_,h0⟩|⟨g,cap,cur,rfl,hB,hc,hn,hm,hs,ht⟩
 ·exact absurd (Az h0) hl
 ·refine⟨cur.toList,cap,rfl,?_,ht,?_⟩
  ·show w.heap[g]?=_;rw[hc]
  ·have e:cur.toList.length=cap*sz:=by simp [hs]
   rw[e];exact AW _ hn
variable {vs:List Value}
theorem Own.setEl (henc:∀x,(enc x).length=sz)(h:Own enc sz T B w v l){w1:World}{cs:List Value}{i j:Nat}{x:α}(hb:Fo w (base v).1 cs T)(hi:i<l.length)(hx:enc x=Gr (enc (l.getD i x)) j vs)(hj:j+vs.length<=sz)(hb1:Fo w1 (base v).1 (Gr cs (i*sz+j) vs) T):Own enc sz T B w1 v (l.set i x):=by
 obtain⟨h1,h2⟩:=h.row;have z:=X1c henc l i j x vs hi hx hj;refine⟨by rw[z,Sv,A9];exact h1,?_⟩;rcases h2 with⟨_,h0⟩|⟨g,cap,cur,rfl,hB,hc,hn,hm,hs,ht⟩
 ·omega
 ·refine .inr ⟨g,cap,⟨Gr cs (i*sz+j) vs⟩,by rw[A9],hB,hb1,by rw[A9];exact hn,hm,?_,?_⟩
  ·have e:cs=cur.toList:=by
    have:w.heap[g]?=some (.cells ⟨cs⟩ T (0,0)):=hb;rw[hc]at this;cases this;rfl
   simp only [List.size_toArray];rw[Sv,e];simp [hs]
  ·have e:cs=cur.toList:=by
    have:w.heap[g]?=some (.cells ⟨cs⟩ T (0,0)):=hb;rw[hc]at this;cases this;rfl
   have hlen:l.length*sz<=cs.length:=by
    have e2:cs.length=cap*sz:=by rw[e];simp [hs]
    rw[e2];exact AW _ hn
   have hfl:(l.flatMap enc).length=l.length*sz:=FF henc l;have hi':i*sz+sz<=l.length*sz:=by rw[<-Bd];exact AW _ hi
   rw[z,A9]
   apply BB
   intro m;simp only [Ba];rw[Oa _ _ _ _ Fb,Oa _ _ _ _ Fb,<-ht,<-e,Ba]
   by_cases hm2:m<l.length*sz
   ·simp [hm2]
   ·rw[if_neg hm2,if_neg Fb,if_neg hm2]
variable {P:Program}{n:Nat}{E:FE}{ds:List (Option Tmp)}{R:World->World->Prop}{rs:List (Oper×Fl×Bool)}{K:FE->World->Prop}{pos:String}{af:Array Edge}{g:Option (Nat×Bool)}{anc:Bool}{ty:TypeId}
theorem HO {a y:Operand}{T' i j:Nat}{u:Value}{x:α}(henc:∀x,(enc x).length=sz)(hg:FT ds E g=true)(hown:Own enc sz T B w v l)(ha:ev E a=Fg (base v).1 (i*sz+j))(hy:ev E y=u)(hv:u.cells=⟨vs⟩)(hs:Mo P T'=some vs.length)(hi:i<l.length)(hx:enc x=Gr (enc (l.getD i x)) j vs)(hj:j+vs.length<=sz)(h1:∀v∈vs,v.oneCell'=true)(hR:anc=true\/∀w',Mod (λk=>v.ownBlock=some k) w w'->R w w')(h:∀w1,Mod (λk=>v.ownBlock=some k) w w1->w1.heap.size=w.heap.size->Own enc sz T B w1 v (l.set i x)->Dw P n ds R rs K E w1):Dw P n ds R ((⟨none,.store T' a y,ty,pos,af,g⟩,.x,anc) :: rs) K E w:=by
 have Y:l≠[]:=by rintro rfl;simp at hi
 obtain⟨cs,cap,hv2,hb,ht,hlen⟩:=hown.cells Y;have O:v.ownBlock=some (base v).1:=hown.base_block Y;have hm:∀w',Mod (Fu (base v).1) w w'->Mod (λk=>v.ownBlock=some k) w w':=λw' m=>m.mono (λk hk _=>by have:k=(base v).1:=hk;rw[O,this]);have hi':i*sz+sz<=l.length*sz:=by rw[<-Bd];exact AW _ hi
 refine OA (v:=u) (vs:=vs) hg ha hy hv hs hb Fb h1 (hR.imp id λh w' m=>h w' (hm w' m)) (λw1 Z z J=>h w1 (hm w1 Z) z (hown.setEl henc hb hi hx hj J))
end
end Go.Vc
