/-
  A part of the proof.
-/
import Derived.WalkKit
import Derived.OrdersHeld
import Derived.Maps.OwnSet
import Derived.Maps.RangeWalk
import Derived.Maps.Views
import Derived.Lib.ConvBytes
import Derived.DeepKeys4
import Derived.KernelRfl
import Derived.Test.YtiooodckiddpmaaGreatDoorProg
import Derived.Lib.Builder
import Derived.Lib.UnsafeStr
import Derived.Laws.Externs
import Derived.Lib.AppendStr
import Derived.Test.YtiooodckiddpmaaGreatDoorChecked
import Derived.RangeFuncRecord
import Derived.RangeFuncOwn
import Derived.OrdersIn
import Derived.TacticsIn
open Nat renaming le_refl->Aa,zero_le->Ab,le_trans->Ae,le_of_ble_eq_true->An,zero_add->A5,beq->AM,blt->AS,mul_le_mul_right->AW,succ_mul->Be,mod_lt->Bf,blt_eq->Bm,lt_or_ge->Br,mod_eq_of_lt->Bv,mul_comm->B6,ble->B7,add_assoc->BV,add_zero->Ce,zero_mul->Cw,add_mul->Cx,eq_of_beq_eq_true->C6,ble_eq->C7,sub_zero->C8,mul_le_mul_left->CB,pow_succ->CU,strongRecOn->Dh,add_comm->DD,div_lt_of_lt_mul->DG,mul_one->DK,mod->DM,and_two_pow_sub_one_eq_mod->DN,div_add_mod->Er,beq_refl->Ew,mul_lt_mul_of_pos_right->Ez
open List renaming length_append->Ad,mem_singleton->Af,mem_of_getElem?->Ag,mem_cons->Ah,mem_cons_self->Ai,mem_cons_of_mem->Aj,map_cons->Ak,mem_map->Ao,replicate->Ap,getElem?_eq_getElem->Aq,getElem?_eq_some_iff->Ar,length_map->Au,take_of_length_le->Av,length_cons->Az,eq_nil_of_length_eq_zero->A0,append_assoc->A6,length->A9,flatMap_cons->AA,length_set->AB,length_take->AE,nil_append->AG,getElem?_map->AH,take->AP,all_eq_true->AQ,take_length->AT,set->AU,getElem?_take->AX,cons_append->AY,drop->AZ,nodup_cons->Ba,flatMap_append->Bc,map_nil->Bg,getElem?_eq_none->Bi,pairwise_append->Bw,take_add_one->Bx,getElem?_drop->B3,getElem?_append_left->B5,foldl_append->BA,foldl_cons->BE,ext_getElem?->BF,drop_of_length_le->BG,getElem?_set_self->BI,filter_cons->BJ,getElem?_append_right->BM,getD_eq_getElem?_getD->BO,map_toArray->Cf,flatten_cons->Cn,take_succ_cons->Co,foldlM->CC,getElem?_set->CH,replicate_succ->CS,length_replicate->CX,mapM_cons->DF,drop_drop->DL
open Option renaming some->Am,map_eq_some_iff->Bp,map_some->Cm,bind_some->Cu,bind_eq_some_iff->Di,map->Dj,map_none->Dk
open Bool renaming and_eq_true->Aw,or_eq_true->BL,not_eq_true'->BW,not_eq_true->Ch,false_or->Cv,not_true->C9
open UInt8 renaming ofNat->AC,lt_iff_toNat_lt->CT,not_lt->Dl,toBitVec_inj->DP,toNat_inj->Et,toNat->Ex
open UInt32 renaming ofNat->AJ
open BitVec renaming ofInt->AL,ofInt_natCast->CF,toNat_ofNat->CG,eq_of_toNat_eq->Eu,toNat_ofInt->Ev,toNat_and->Ey
open Prod renaming mk->B4
open Array renaming getElem?_eq_some_iff->BD,replicate->Cl,all_eq_true_iff_forall_mem->Ct,ext->Df,getElem_ofFn->Dg,mem_of_getElem?->DC,ofFn->Ek,getElem_append->El,getElem?_eq_none->En,ext'->Eo,foldl_toList->Ep,range->Es
open Int renaming toNat_natCast->BU,fdiv_eq_ediv_of_nonneg->CV,natCast_mul->DH
open List.Sublist renaming map->C0
set_option maxRecDepth 100000
set_option maxHeartbeats 4000000
set_option linter.unusedVariables false
set_option linter.defProp false
set_option linter.unusedSimpArgs false
variable {A:Type}{a:A}
def Qe : a = a /\ True := ⟨rfl, trivial⟩
def L9 {B:Type}{b : B}: a = a /\ b = b /\ True := ⟨rfl, rfl, trivial⟩
variable {C:Type}
def Kq {B:Type}{b : B}{c : C}: a = a /\ b = b /\ c = c /\ True := ⟨rfl, rfl, rfl, trivial⟩
variable {D:Type}{d:D}
def Hn {B:Type}{b : B}{c : C}: a = a /\ b = b /\ c = c /\ d = d /\ True := ⟨rfl, rfl, rfl, rfl, trivial⟩
variable {E:Type}{e:E}
def Hc {B:Type}{b : B}{c : C}: a = a /\ b = b /\ c = c /\ d = d /\ e = e /\ True := ⟨rfl, rfl, rfl, rfl, rfl, trivial⟩
variable {F:Type}{f:F}
def HW {B:Type}{b : B}{c : C}: a = a /\ b = b /\ c = c /\ d = d /\ e = e /\ f = f /\ True := ⟨rfl, rfl, rfl, rfl, rfl, rfl, trivial⟩
variable {G:Type}{g:G}
def Ho {B:Type}{b : B}{c : C}: a = a /\ b = b /\ c = c /\ d = d /\ e = e /\ f = f /\ g = g /\ True := ⟨rfl, rfl, rfl, rfl, rfl, rfl, rfl, trivial⟩
variable {H:Type}{h:H}
def PL {B:Type}{b : B}{c : C}: a = a /\ b = b /\ c = c /\ d = d /\ e = e /\ f = f /\ g = g /\ h = h /\ True := ⟨rfl, rfl, rfl, rfl, rfl, rfl, rfl, rfl, trivial⟩
def KZ {B I:Type}{b : B}{c : C}{i : I}: a = a /\ b = b /\ c = c /\ d = d /\ e = e /\ f = f /\ g = g /\ h = h /\ i = i /\ True := ⟨rfl, rfl, rfl, rfl, rfl, rfl, rfl, rfl, rfl, trivial⟩
def Lk {B I J:Type}{b : B}{c : C}{i : I}{j : J}: a = a /\ b = b /\ c = c /\ d = d /\ e = e /\ f = f /\ g = g /\ h = h /\ i = i /\ j = j /\ True := ⟨rfl, rfl, rfl, rfl, rfl, rfl, rfl, rfl, rfl, rfl, trivial⟩
def Ns {B I J K:Type}{b : B}{c : C}{i : I}{j : J}{k : K}: a = a /\ b = b /\ c = c /\ d = d /\ e = e /\ f = f /\ g = g /\ h = h /\ i = i /\ j = j /\ k = k /\ True := ⟨rfl, rfl, rfl, rfl, rfl, rfl, rfl, rfl, rfl, rfl, rfl, trivial⟩
variable {p:Prop}
def Fe (h : p := by omega): p := h
def Ff (h : p := by kernel_rfl): p := h
def Fo (h : p := by decide): p := h
def Fg (h : p := by intro x; rfl): p := h
def F0 (h : p := by simp): p := h
def Gx (h : p := by simp; omega): p := h
def FY (h : p := by show I _ = I _; first | rfl | (congr 1; omega)): p := h
def FH (h : p := by unfold Ge; omega): p := h
def F7 {α : Type} {l : List α} {i : Nat} (h : i < l.length := by omega) : ∃ x, l[i]? = some x := ⟨_, Aq h⟩
namespace Go.Vc
open Go.RowKit
abbrev FF := Nat->Value
def FW (E:FF)(d:Nat)(v:Value):FF:=λk=>cond (AM k d) v (E k)
def GL (E:FF):Option Tmp->Value->FF
 | some d,v=>FW E d v
 | none,_=>E
def ev (E:FF):Operand->Value
 | .tmp t=>E t
 | .const v=>v
 | .global g=>.pointer (some ⟨g,0,none⟩)
 | .func f=>.func (.func f) #[] #[]
def H1 (n:Nat)(E:FF):Act:=⟨Ek (n:=n) λi=>E i.val,[]⟩
def Xrl (E:FF)(d:Nat)(v:Value):FW E d v d=v:=by simp [FW]
variable {b:Nat}
def QW {a:Nat}(h:a≠b):AM a b=false:=by
 cases hb:AM a b with
 | false=>rfl
 | true=>exact absurd (C6 hb) h
variable {k:Nat}
def Wz (E:FF){d:Nat}(v:Value)(h:k≠d):FW E d v k=E k:=by simp [FW,QW h]
def TW (E:FF)(d:Nat)(v:Value)(h:E d=v):FW E d v=E:=by
 funext k
 by_cases hk:k=d
 ·subst hk;rw[Xrl,h]
 ·rw[Wz _ _ hk]
def N1 (n:Nat):Operand->Bool
 | .tmp t=>AS t n
 | _=>true
def X55 (n:Nat)(E:FF)(t:Nat)(h:t<n):(H1 n E).tmps[t]?=some (E t):=by
 simp [H1,h]
variable {E:FF}{n:Nat}
def TN {x:Operand}(h:N1 n x=true):(H1 n E).eval x=ev E x:=by
 cases x with
 | tmp t=>
  have r:t<n:=by simpa [N1,Bm]using h
  simp [Act.eval,ev,H1,r]
 | _=>rfl
def Jm (n:Nat)(E:FF)(d:Option Tmp)(v:Value):(H1 n E).put d v=H1 n (GL E d v):=by
 cases d with
 | none=>rfl
 | some d=>
  simp only [Act.put,GL,H1]
  congr 1
  apply Df
  ·simp
  ·intro i h1 h2;simp only [Array.size_setIfInBounds,Array.size_ofFn]at h1;rw[Array.getElem_setIfInBounds]
   ·simp only [Dg,FW]
    by_cases hi:d=i
    ·subst hi;simp
    ·simp only [hi,if_false];rw[QW (λe:i=d=>hi e.symm)];exact Dg ..
   ·simpa using h1
def JC (n:Nat)(o:Oper):Bool:=o.op.operands.all (N1 n) && (match o.dst with|some d=>AS d n|none=>true) && (match o.op with | .select ..=>false|_=>true)
def JO (n:Nat):Code->Bool
 | .skip | .exit _ | .ret | .label _=>true
 | .region _ ops _=>ops.all (JC n)
 | .seq a b=>JO n a && JO n b
 | .cond c a b=>N1 n c && JO n a && JO n b
 | .block _ c=>JO n c
 | .loop c=>JO n c
 | .scope c=>JO n c
 | .refuse ..=>true
 | _=>false
def MY {o:Oper}(h:JC n o=true):execOp (H1 n E).eval o=execOp (ev E) o:=by
 unfold JC at h;simp only [Aw]at h;obtain⟨⟨h1,_⟩,h3⟩:=h;refine execOp_congr o (λcs b e=>by rw[e]at h3;cases h3) λx r=>TN ?_;exact Ct.1 h1 x r
def Hv (n:Nat)(Q:Exit->FF->World->Prop):Exit->Act->World->Prop:=λe a w=>∃E,a=H1 n E/\Q e E w
def W (P:Program)(n:Nat)(c:Code)(Q:Exit->FF->World->Prop)(E:FF)(w:World):Prop:=
 JO n c=true->c.wp P (Hv n Q) (H1 n E) w
def Ix (K:FF->World->Prop)(Q:Exit->FF->World->Prop):Exit->FF->World->Prop
 | .normal,E,w=>K E w
 | e,E,w=>Q e E w
def NI (id:Nat)(Q:Exit->FF->World->Prop):Exit->FF->World->Prop
 | .exit id',E,w=>cond (AM id' id) (Q .normal E w) (Q (.exit id') E w)
 | e,E,w=>Q e E w
def Ms (Q:Exit->FF->World->Prop):Exit->FF->World->Prop
 | .goto _,_,_=>False
 | e,E,w=>Q e E w
section
variable {P:Program}{n:Nat}{Q:Exit->FF->World->Prop}{E:FF}{w:World}
def V3 {c:Code}{Q':Exit->FF->World->Prop}(h:W P n c Q E w)(hq:∀e E w,Q e E w->Q' e E w):W P n c Q' E w:=
 λok=>Code.wp_mono (λ_ _ _ ⟨E',he,hQ⟩=>⟨E',he,hq _ _ _ hQ⟩) (h ok)
variable {x y:Code}
def XC (h:∀K:FF->World->Prop,(∀E w,W P n y Q E w->K E w)->W P n x (Ix K Q) E w):W P n (.seq x y) Q E w:=by
 intro ok;simp only [JO,Aw]at ok;refine wp_seq (Code.wp_mono ?_ (h (λE w=>W P n y Q E w) (λ_ _ h=>h) ok.1));intro e a w' z;obtain⟨E',rfl,r⟩:=z
 cases e<;>first|exact r ok.2|exact⟨E',rfl,r⟩
def Xng (h:Q .normal E w):W P n .skip Q E w:=λ_=>wp_skip ⟨E,rfl,h⟩
def Xu6 (h:Q .ret E w):W P n .ret Q E w:=λ_=>wp_ret ⟨E,rfl,h⟩
def Xnh {id:Nat}(h:Q (.exit id) E w):W P n (.exit id) Q E w:=λ_=>wp_exit ⟨E,rfl,h⟩
def Ov {c:Operand}{t:Bool}(hc:ev E c=.bool t)(ht:t=true->W P n x Q E w)(hf:t=false->W P n y Q E w):W P n (.cond c x y) Q E w:=by
 intro ok;simp only [JO,Aw]at ok;refine wp_cond_split (t:=t) (by rw[TN ok.1.1];exact hc) (λh=>ht h ok.1.2) (λh=>hf h ok.2)
def Yd8 {c:Operand}{p:Prop}[Decidable p](hc:ev E c=.bool (decide p))(ht:p->W P n x Q E w)(hf:¬ p->W P n y Q E w):W P n (.cond c x y) Q E w:=
 Ov hc (λh=>ht (of_decide_eq_true h)) (λh=>hf (of_decide_eq_false h))
def Xjc {id:Nat}{c:Code}(h:W P n c (NI id Q) E w):W P n (.block id c) Q E w:=by
 intro ok;refine wp_block (Code.wp_mono ?_ (h ok));rintro e a w' ⟨E',rfl,hQ⟩
 cases e with
 | exit id'=>
  simp only [Exit.inBlock]
  by_cases hid:id'=id
  ·subst hid;simp only [if_true];refine⟨E',rfl,?_⟩;simpa [NI]using hQ
  ·simp only [hid,if_false];refine⟨E',rfl,?_⟩;simpa [NI,QW hid]using hQ
 | _=>exact⟨E',rfl,hQ⟩
def Xjd {c:Code}(h:W P n c (Ms Q) E w):W P n (.scope c) Q E w:=by
 intro ok;refine wp_scope_straight (Code.wp_mono ?_ (h ok));rintro e a w' ⟨E',rfl,hQ⟩
 cases e<;>first|exact⟨E',rfl,hQ⟩|exact hQ.elim
def MN : List (Nat×Value)->FF->FF
 | [],E=>E
 | (d,v) :: r,E=>FW (MN r E) d v
def holds : List (Nat×Value)->FF->Prop
 | [],_=>True
 | (d,v) :: r,E=>E d=v/\holds r E
def Te {l:List (Nat×Value)}{E:FF}(h:holds l E):MN l E=E:=by
 induction l with
 | nil=>rfl
 | cons x l ih=>
  obtain⟨d,v⟩:=x;simp only [holds]at h;simp only [MN,ih h.2];exact TW E d v h.1
def XR {c:Code}{G:Type}(sl:G->List (Nat×Value))(F:G->World->Prop)(μ:G->Nat)(g0:G)(h0:holds (sl g0) E)(hF0:F g0 w)
  (round:∀(E:FF) (g:G) (w:World),F g w->W P n c (Ix (λE' w'=>∃O,holds (sl O) E'/\F O w'/\μ O<μ g) Q) (MN (sl g) E) w):W P n (.loop c) Q E w:=by
 intro ok b k cs;have key:∀(m:Nat) (E:FF) (g:G) (w:World),μ g=m->holds (sl g) E->F g w->
   ∃e a' w',Hv n Q e a' w'/\Arrives P (lone (b.at (H1 n E) (.code c :: .inLoop c :: k)) cs w) b k cs e a' w':=by
  intro m
  induction m using Dh with
  | _ m ih=>
   intro E g w hm hh hF;have hr:=round E g w hF ok;rw[Te hh]at hr;obtain⟨e,a1,w1,⟨Y,rfl,z⟩,r⟩:=hr b (.inLoop c :: k) cs
   cases e with
   | normal=>
    obtain⟨O,Z,hf,ha⟩:=z;obtain⟨e2,a2,w2,hc,J⟩:=ih (μ O) (hm▸ha) Y O w1 rfl Z hf;exact⟨e2,a2,w2,hc,.of_steps (Steps.trans r (.one step_inLoop)) J⟩
   | exit id=>exact⟨_,_,w1,⟨Y,rfl,z⟩,.pass (x:=.inLoop c) rfl (λ_ _=>.inl F0) r⟩
   | goto l=>exact⟨_,_,w1,⟨Y,rfl,z⟩,.pass (x:=.inLoop c) rfl (λ_ _=>.inl F0) r⟩
   | ret=>exact⟨_,_,w1,⟨Y,rfl,z⟩,.pass (x:=.inLoop c) rfl (λ_ _=>.inl F0) r⟩
   | panic ch=>exact⟨_,_,w1,⟨Y,rfl,z⟩,.pass (x:=.inLoop c) rfl (λ_ _=>.inl F0) r⟩
   | outgrown=>exact⟨_,_,w1,⟨Y,rfl,z⟩,.pass (x:=.inLoop c) rfl (λ_ _=>.inl F0) r⟩
 obtain⟨e,a',w',z,r⟩:=key (μ g0) E g0 w rfl h0 hF0;exact⟨e,a',w',z,.of_steps (.one step_loop) r⟩
def Lu : List Value->Nat->FF->FF
 | [],_,E=>E
 | v :: r,k,E=>FW (Lu r (k+1) E) k v
def JN (P:Program)(fn:Func)(n:Nat)(R:Ending->World->Prop):Exit->FF->World->Prop
 | .normal,E,w | .ret,E,w=>∃v,(results fn (H1 n E).tmps).run P w=.ok v w/\R (.returned v) w
 | _,_,_=>False
def UT (l:List Value):∀(k i:Nat) (E:FF),Lu l k E i=if k<=i then(match l[i-k]? with|some v=>v|none=>E i)else E i:=by
 induction l with
 | nil=>intro k i E;simp [Lu]
 | cons v r ih=>
  intro k i E
  by_cases h:i=k
  ·subst h;simp [Lu,Xrl]
  ·rw[Lu,Wz _ _ h,ih]
   by_cases h1:k+1<=i
   ·have h2:k<=i:=by omega
    have h3:i-k=(i-(k+1))+1:=by omega
    simp [h1,h2,h3]
   ·have h2:¬ k<=i:=by omega
    simp [h1,h2]
def X56 {f:FuncId}{fn:Func}{c:Code}{az:List Value}{w:World}{R:Ending->World->Prop}
  (hf:P.funcs[f]?=some fn) (hb:fn.body=some c) (hn:fn.ntmps=n) (hle:B7 az.length n=true) (ok:JO n c=true)
  (h:W P n c (JN P fn n R) (Lu az 0 (λ_=>undef)) w):Calls P f az.toArray w R:=by
 have hle':az.length<=n:=by simpa [C7]using hle
 refine calls_of_wp hf hb ?_;have r:({ tmps:=az.toArray++Cl (fn.ntmps-az.toArray.size) undef,defers:=[] } : Act)=H1 n (Lu az 0 (λ_=>undef)):=by
  simp only [H1,hn]
  congr 1
  apply Df
  ·simp;omega
  ·intro i h1 h2;simp only [Dg,UT,Ab,if_true,C8];rw[El]
   by_cases hi:i<az.length
   ·simp [hi]
   ·simp [hi]
 rw[r];refine Code.wp_mono ?_ (h ok);rintro e a w' ⟨E,rfl,hQ⟩
 cases e with
 | normal=>obtain⟨v,h1,h2⟩:=hQ;exact⟨rfl,v,h1,h2⟩
 | ret=>obtain⟨v,h1,h2⟩:=hQ;exact⟨rfl,v,h1,h2⟩
 | _=>exact hQ.elim
end
inductive Fl where
 | p|l|x
def IP : List Oper->Nat->Oper
 | [],_=>default
 | o :: _,0=>o
 | _ :: r,k+1=>IP r k
def IW : List (Option Tmp)->Nat->Option Tmp
 | [],_=>none
 | o :: _,0=>o
 | _ :: r,k+1=>IW r k
def FU (ds:List (Option Tmp))(E:FF):Option (Nat×Bool)->Bool
 | none=>true
 | some (j,want)=>match IW ds j with
  | some d=>(match E d with | .bool b=>b == want|_=>false)
  | none=>false
def PV (P:Program)(o:Oper)(E:FF)(v:Value):Prop:=∀w,(execOp (ev E) o).run P w=.ok (.value v) w
def LV (P:Program)(o:Oper)(E:FF)(w:World)(v:Value):Prop:=(execOp (ev E) o).run P w=.ok (.value v) w
def XW (P:Program)(n:Nat)(o:Oper)(E:FF)(w:World)(K:FF->World->Prop):Prop:=
 JC n o=true->o.wp P (H1 n E) w (λa w'=>∃E',a=H1 n E'/\K E' w') (λ_ _ _=>False)
def Dw (P:Program)(n:Nat)(ds:List (Option Tmp))(R:World->World->Prop):List (Oper×Fl×Bool)->(FF->World->Prop)->FF->World->Prop
 | [],K,E,w=>K E w
 | (o,.p,_) :: r,K,E,w=>if FU ds E o.guard=true then ∃v,PV P o E v/\Dw P n ds R r K (GL E o.dst v) w else Dw P n ds R r K (GL E o.dst undef) w
 | (o,.l,_) :: r,K,E,w=>if FU ds E o.guard=true then ∃v,(∀w',R w w'->LV P o E w' v)/\Dw P n ds R r K (GL E o.dst v) w else Dw P n ds R r K (GL E o.dst undef) w
 | (o,.x,anc) :: r,K,E,w=>if FU ds E o.guard=true then XW P n o E w (λE' w'=>(anc=false->R w w')/\Dw P n ds R r K E' w')else Dw P n ds R r K (GL E o.dst undef) w
def nf (K:FF->World->Prop):Exit->FF->World->Prop
 | .normal,E,w=>K E w
 | _,_,_=>False
def X57 (l:List Oper):∀j,IW (l.map (·.dst)) j=(l[j]?).bind (·.dst):=by
 induction l with
 | nil=>intro j;rfl
 | cons o r ih=>intro j;cases j with
  | zero=>rfl
  | succ k=>simpa [IW]using ih k
def X4d (l:List Oper):∀j (o:Oper),l[j]?=some o->IP l j=o:=by
 induction l with
 | nil=>intro j o h;simp at h
 | cons o r ih=>intro j o' h;cases j with
  | zero=>simpa [IP]using h
  | succ k=>exact ih k o' (by simpa using h)
def Ps {ops:Array Oper}(o:Oper)(hok:ops.all (JC n)=true):
  Region.wanted o (yielded ops (H1 n E).tmps)=FU (ops.toList.map (·.dst)) E o.guard:=by
 unfold Region.wanted FU
 cases hg:o.guard with
 | none=>rfl
 | some jw=>
  obtain⟨j,want⟩:=jw;simp only [X57,Array.getElem?_toList,yielded]
  cases hj:ops[j]? with
  | none=>simp
  | some oj=>
   simp only [Cu]
   cases hd:oj.dst with
   | none=>simp
   | some d=>
    have h1:=Ct.1 hok oj (DC hj);have r:d<n:=by
     unfold JC at h1;simp only [hd,Aw]at h1;simpa [Bm]using h1.1.2
    simp only [Cu,X55 n E d r]
    cases E d<;>simp
variable {w:World}
def Oper.wp_monoQ {P:Program}{o:Oper}{a:Act}{K:Act->World->Prop}{Q:Exit->Act->World->Prop}(hh:o.wp P a w K (λ_ _ _=>False)):o.wp P a w K Q:=by
 unfold Oper.wp at *
 generalize (execOp a.eval o).run P w=r at *
 cases r with
 | ok n w'=>
  cases n<;>simp only [Oper.upon]at hh ⊢<;>first
   | exact hh
   | (
    refine Calls.mono hh (λe w'' he=>?_)
    cases e with
    | returned v=>exact he
    | panicked c=>exact he.elim
    | outgrown=>obtain⟨_,_,z⟩:=he;exact z.elim)
 | halt x w'=>cases x<;>simp only [Oper.upon]at hh ⊢
section
variable {P:Program}{n:Nat}{E:FF}{w:World}{ops:Array Oper}{R:World->World->Prop}
variable {o:Oper}
def YX {v:Value}(hok:JC n o=true)(h:LV P o E w v){K:Act->World->Prop}{Q:Exit->Act->World->Prop}(hK:K (H1 n (GL E o.dst v)) w):o.wp P (H1 n E) w K Q:=by
 unfold Oper.wp;rw[MY hok,h];simp only [Oper.upon,Jm];exact hK
def NB : List Oper->List Fl->List (Oper×Fl×Bool)
 | o :: r,f :: fs=>(o,f,true) :: NB r fs
 | _,_=>[]
variable {K:FF->World->Prop}
def X6 (hok:ops.all (JC n)=true){Q:Exit->FF->World->Prop}(hQ:∀E w,K E w->Q .normal E w):∀(l:List Oper) (fs:List Fl) (E:FF) (w:World),l.length=fs.length->(∀o∈l,JC n o=true)->
  Dw P n (ops.toList.map (·.dst)) (λa b=>a=b) (NB l fs) K E w->wpList P ops (Hv n Q) l (H1 n E) w:=by
 intro l
 induction l with
 | nil=>intro fs E w _ _ h;exact⟨E,rfl,hQ _ _ h⟩
 | cons o r ih=>
  intro fs E w hl ho h
  cases fs with
  | nil=>simp at hl
  | cons f fs=>
   have Y:r.length=fs.length:=by simpa using hl
   have Z:∀o∈r,JC n o=true:=λo h=>ho o (Aj _ h);have J:=ho o Ai;have z:∀v w,Dw P n (ops.toList.map (·.dst)) (λa b=>a=b) (NB r fs) K (GL E o.dst v) w->wpList P ops (Hv n Q) r ((H1 n E).put o.dst v) w:=λv w h=>by
    rw[Jm];exact ih fs _ w Y Z h
   unfold wpList;rw[Ps o hok]
   cases f<;>simp only [NB,Dw]at h<;>(split at h<;>rename_i O)
   ·rw[if_pos O];obtain⟨v,hv,hn⟩:=h;exact .inl (YX J (hv w) (by simpa [Jm]using z v w hn))
   ·rw[if_neg O];exact z _ _ h
   ·rw[if_pos O];obtain⟨v,hv,hn⟩:=h;exact .inl (YX J (hv w rfl) (by simpa [Jm]using z v w hn))
   ·rw[if_neg O];exact z _ _ h
   ·rw[if_pos O];refine .inl (Oper.wp_monoQ (Oper.wp_mono ?_ (h J)));rintro a w' ⟨E',rfl,_,hd⟩;exact ih fs E' w' Y Z hd
   ·rw[if_neg O];exact z _ _ h
variable {id:Nat}{l:List Oper}
def Ka {Q:Exit->FF->World->Prop}(fs:List Fl)(hl:AM l.length fs.length=true)(h:Dw P n (l.map (·.dst)) (λa b=>a=b) (NB l fs) (λE w=>Q .normal E w) E w):W P n (.region id l.toArray false) Q E w:=by
 intro ok;simp only [JO]at ok;refine wp_region_list ?_;exact X6 (K:=λE w=>Q .normal E w) ok (λ_ _ h=>h) _ fs E w (C6 hl) (λo ho=>Ct.1 ok o (by simpa using ho)) (by simpa using h)
def M5 (ops:Array Oper)(i k:Nat):Bool:=match ops[i]? with
 | some o=>o.after.any λe=>Region.binds .any e && e.on == k
 | none=>false
def Qo (ops:Array Oper)(ld:List Nat)(listed:Array Bool)(i:Nat):Prop:=∀k∈ld,listed.getD k false=true->k≠i->M5 ops i k=true
def MG (P:Program)(ops:Array Oper)(Q:Exit->Act->World->Prop)(R:World->World->Prop)(ld:List Nat):Nat->Array Bool->Act->World->Prop
 | 0,listed,a,w=>Region.ready .any ops listed=[]/\Q .normal a w
 | fuel+1,listed,a,w=>
  (Region.ready .any ops listed=[]->Q .normal a w)/\
  ∀i∈Region.ready .any ops listed,wpOp P ops Q i (λa' w'=>(R w w'\/Qo ops ld listed i)/\MG P ops Q R ld fuel (listed.setIfInBounds i true) a' w') a w
variable {Q:Exit->Act->World->Prop}{ld:List Nat}
def TR : ∀(fuel:Nat) (listed:Array Bool) (a:Act) (w:World),MG P ops Q R ld fuel listed a w->wpAny P .any ops Q fuel listed a w
 | 0,_,_,_,h=>h
 | fuel+1,_,_,_,h=>⟨h.1,λi hi=>wpOp_mono (λa' w' h'=>TR fuel _ a' w' h'.2) (h.2 i hi)⟩
def YieldsIf.mono {S S':World->Prop}{v:Value}{a:Act}(h:YieldsIf P ops S o v a)(hs:∀w,S' w->S w):YieldsIf P ops S' o v a:=
 h.imp (λ⟨h1,h2⟩=>⟨h1,λw r=>h2 w (hs w r)⟩) λh=>h
variable {i:Nat}
def MT {oi:Oper}{v:Value}{B:Bool}(hrefl:∀w,R w w)(htrans:∀a b c,R a b->R b c->R a c)(hB:B=true->i∈ld)(hi:ops[i]?=some oi)(hsel:∀(j:Nat) (o:Oper) cs b,ops[j]?=some o->o.op≠.select cs b)(hQ:∀c a w,Q (.panic c) (a.put oi.dst v) w->Q (.panic c) a w):
  ∀(fuel:Nat) (listed:Array Bool) (a:Act) (w:World),
   (∀j oj,ops[j]?=some oj->j≠i->listed.getD j true=false->(∀e∈oj.after,Region.binds .any e=true->e.on≠i)->oi.apart ops oj=true)->
   i∈Region.ready .any ops listed->YieldsIf P ops (λw'=>B=true->R w w') oi v a->
   MG P ops Q R ld fuel (listed.setIfInBounds i true) (a.put oi.dst v) w->MG P ops Q R ld (fuel+1) listed a w:=by
 intro fuel
 induction fuel with
 | zero=>
  intro listed a w _ Z hy H;refine⟨λh=>(by rw[h]at Z;cases Z),λj hj=>?_⟩
  by_cases hji:j=i
  ·subst hji;exact hy.wpOp hi (λ_=>hrefl w) ⟨.inl (hrefl w),H⟩
  ·have:=ready_mono hj hji;rw[H.1]at this
   cases this
 | succ fuel ih=>
  intro listed a w r Z hy H;refine⟨λh=>(by rw[h]at Z;cases Z),λj hj=>?_⟩
  by_cases hji:j=i
  ·subst hji;exact hy.wpOp hi (λ_=>hrefl w) ⟨.inl (hrefl w),H⟩
  ·have h1:=H.2 j (ready_mono hj hji);obtain⟨O,oj,J,hf⟩:=mem_ready.1 hj;have hx:listed.getD i false=false:=by
    have h0:=(mem_ready.1 Z).1;rcases Br i listed.size with h'|h'
    ·simp [h']at h0 ⊢;exact h0
    ·simp [En h']
   have hh:i<listed.size:=by
    have h0:=(mem_ready.1 Z).1;rcases Br i listed.size with h'|h'
    ·exact h'
    ·simp [En h']at h0
   have Y:∀e∈oj.after,Region.binds .any e=true->e.on≠i:=λe he hb h5=>by
    have h1:=hf e he hb;rw[h5,hx]at h1
    cases h1
   have h2:=wpOp_putIf J (r j oj J hji O Y) (λcs b=>hsel i oi cs b hi) (λcs b=>hsel j oj cs b J) hQ hy h1;have z:∀k ok,ops[k]?=some ok->k≠i->(listed.setIfInBounds j true).getD k true=false->
     (∀e∈ok.after,Region.binds .any e=true->e.on≠i)->oi.apart ops ok=true:=λk ok hk hq hg h6=>by
    refine r k ok hk hq ?_ h6
    by_cases hjk:j=k
    ·subst hjk;exact O
    ·rw[getD_set_ne true hjk]at hg;exact hg
   refine wpOp_mono (λa' w' h3=>?_) h2;obtain⟨hp,hc,ha⟩:=h3;have hR:B=true->R w w':=λhb=>hc.elim (λh=>h) λhA=>by
    have:=hA i (hB hb) (by simp [hh]) (λe=>hji e.symm);unfold M5 at this;simp only [J,Array.any_eq_true',Aw,beq_iff_eq]at this;obtain⟨e,he,ht,hw⟩:=this;exact absurd hw (Y e he ht)
   refine⟨hc.imp (λh=>h) λhA k hk hl hz=>hA k hk (getD_set_true hl) hz,?_⟩;refine ih (listed.setIfInBounds j true) a' w' z (ready_mono Z (Ne.symm hji)) (YieldsIf.mono hp λw'' h' hb=>htrans _ _ _ (hR hb) (h' hb)) ?_;rw[Array.setIfInBounds_comm _ _ hji];exact ha
def JM (l:List Oper):List (Nat×Fl×Bool)->List (Oper×Fl×Bool)
 | []=>[]
 | (i,f,b) :: r=>(IP l i,f,b) :: JM l r
def LB (ops:Array Oper)(ld:List Nat):List (Nat×Fl×Bool)->Array Bool->Bool
 | [],listed=>(Region.ready .any ops listed).isEmpty
 | (i,.x,anc) :: r,listed=>(Region.ready .any ops listed == [i]) && (!anc || ld.all λk=>!listed.getD k false || k == i || M5 ops i k) && LB ops ld r (listed.setIfInBounds i true)
 | (i,.p,_) :: r,listed=>(Region.ready .any ops listed).contains i && Region.free .any ops listed i && LB ops ld r (listed.setIfInBounds i true)
 | (i,.l,_) :: r,listed=>(Region.ready .any ops listed).contains i && Region.free .any ops listed i && ld.contains i && LB ops ld r (listed.setIfInBounds i true)
def QB {v:Value}{S:World->Prop}(hok:ops.all (JC n)=true)(hoo:JC n o=true)(hg:FU (ops.toList.map (·.dst)) E o.guard=true)(h:∀w,S w->LV P o E w v):
 YieldsIf P ops S o v (H1 n E):=.inl ⟨by rw[Ps o hok];exact hg,λw r=>by rw[MY hoo];exact h w r⟩
def Qx {S:World->Prop}(hok:ops.all (JC n)=true)(hg:¬ FU (ops.toList.map (·.dst)) E o.guard=true):YieldsIf P ops S o undef (H1 n E):=
 .inr ⟨by rw[Ps o hok];simpa using hg,rfl⟩
def Xnj (hrefl:∀w,R w w)(htrans:∀a b c,R a b->R b c->R a c)(hok:ops.all (JC n)=true)(hsel:Region.noSelect ops=true):
  ∀(π:List (Nat×Fl×Bool)) (listed:Array Bool) (E:FF) (w:World),LB ops ld π listed=true->
   Dw P n (ops.toList.map (·.dst)) R (JM ops.toList π) K E w->MG P ops (Hv n (nf K)) R ld π.length listed (H1 n E) w:=by
 intro π
 induction π with
 | nil=>intro listed E w hp h;exact⟨by simpa [LB]using hp,E,rfl,h⟩
 | cons x r ih=>
  intro listed E w hp h;obtain⟨i,f,anc⟩:=x;have hQ:∀(d:Option Tmp) (v:Value) c a w,Hv n (nf K) (.panic c) (a.put d v) w->Hv n (nf K) (.panic c) a w:=λ_ _ _ _ _ ⟨_,_,hf⟩=>hf.elim;have key:∀(O:Oper),ops[i]?=some O->IP ops.toList i=O/\JC n O=true:=λO hi=>
   ⟨X4d _ _ _ (by simpa using hi),Ct.1 hok O (DC hi)⟩
  cases f with
  | x=>
   simp only [LB,Aw]at hp;obtain⟨⟨hr,ha⟩,J⟩:=hp;have z:Region.ready .any ops listed=[i]:=by simpa using hr
   refine⟨λh0=>(by rw[h0]at z;cases z),λj hj=>?_⟩;rw[z,Af]at hj;subst hj;obtain⟨_,O,hi,_⟩:=mem_ready.1 (by rw[z];exact Af.2 rfl:j∈Region.ready .any ops listed);obtain⟨hn,Y⟩:=key O hi;simp only [JM,Dw,hn]at h;unfold wpOp;simp only [hi];rw[Ps O hok];split at h<;>rename_i Z
   ·rw[if_pos Z];refine .inl (Oper.wp_monoQ (Oper.wp_mono ?_ (h Y)));rintro a w' ⟨E',rfl,hR,hd⟩;refine⟨?_,ih _ E' w' J hd⟩
    cases anc with
    | false=>exact .inl (hR rfl)
    | true=>
     refine .inr λk hk hl hc=>?_;simp only [C9,Cv]at ha;have h1:=AQ.1 ha k hk;simp only [hl,C9,Cv,BL,beq_iff_eq]at h1;exact h1.resolve_left hc
   ·rw[if_neg Z,Jm];exact⟨.inl (hrefl w),ih _ _ w J h⟩
  | p=>
   simp only [LB,Aw]at hp;obtain⟨⟨hr,hf⟩,J⟩:=hp;have z:i∈Region.ready .any ops listed:=by simpa using hr
   obtain⟨_,O,hi,_⟩:=mem_ready.1 z;obtain⟨hn,Y⟩:=key O hi;simp only [JM,Dw,hn]at h;split at h<;>rename_i Z
   ·obtain⟨v,hv,hd⟩:=h;exact MT (B:=false) (v:=v) hrefl htrans (λh=>by cases h) hi (Region.noSelect_spec hsel) (hQ _ _) _ _ _ _ (Region.free_spec hi hf) z
     (QB hok Y Z λw _=>hv w) (by rw[Jm];exact ih _ _ w J hd)
   ·exact MT (B:=false) (v:=undef) hrefl htrans (λh=>by cases h) hi (Region.noSelect_spec hsel) (hQ _ _) _ _ _ _ (Region.free_spec hi hf) z
     (Qx hok Z) (by rw[Jm];exact ih _ _ w J h)
  | l=>
   simp only [LB,Aw]at hp;obtain⟨⟨⟨hr,hf⟩,hl⟩,J⟩:=hp;have z:i∈Region.ready .any ops listed:=by simpa using hr
   obtain⟨_,O,hi,_⟩:=mem_ready.1 z;obtain⟨hn,Y⟩:=key O hi;simp only [JM,Dw,hn]at h;split at h<;>rename_i Z
   ·obtain⟨v,hv,hd⟩:=h;exact MT (B:=true) (v:=v) hrefl htrans (λ_=>by simpa using hl) hi (Region.noSelect_spec hsel) (hQ _ _) _ _ _ _ (Region.free_spec hi hf) z
     (QB hok Y Z λw hw=>hv w (hw rfl)) (by rw[Jm];exact ih _ _ w J hd)
   ·exact MT (B:=true) (v:=undef) hrefl htrans (λ_=>by simpa using hl) hi (Region.noSelect_spec hsel) (hQ _ _) _ _ _ _ (Region.free_spec hi hf) z
     (Qx hok Z) (by rw[Jm];exact ih _ _ w J h)
def HP {Q:Exit->FF->World->Prop}(hrefl:∀w,R w w)(htrans:∀a b c,R a b->R b c->R a c)(hm:P.follows .mixedOrders=true)(ld:List Nat)(π:List (Nat×Fl×Bool))(hlen:AM π.length l.length=true)(hp:LB l.toArray ld π (Cl l.length false)=true)(hsel:Region.noSelect l.toArray=true)(h:∀w1,w1=w.drew->Dw P n (l.map (·.dst)) R (JM l π) (λE w=>Q .normal E w) E w1):W P n (.region id l.toArray true) Q E w:=by
 intro ok;simp only [JO]at ok;have h':=Xnj (P:=P) (ld:=ld) hrefl htrans ok hsel π (Cl l.length false) E w.drew hp (by simpa using h _ rfl);have r:π.length=l.length:=C6 hlen;rw[r]at h';refine Code.wp_mono (Q:=Hv n (nf λE w=>Q .normal E w)) ?_ (wp_region_any hm (by simpa using TR _ _ _ _ h'));rintro e a w' ⟨E',rfl,hq⟩
 cases e<;>first|exact⟨E',rfl,hq⟩|exact hq.elim
inductive Pl where
 | nil
 | stop
 /-- the next one,whatever else may come up -/
 | one (i:Nat) (f:Fl) (anc:Bool) (rest:Pl)
 /-- several effects may come up: a chain of 'alt' -/
 | fork (chain:Pl)
 /-- one of those that may come up,and what follows it;the others -/
 | alt (i:Nat) (anc:Bool) (sub:Pl) (others:Pl)
def Pl.heads : Pl->List Nat
 | .alt i _ _ o=>i :: o.heads
 | _=>[]
def Pl.ok : Pl->Bool
 | .alt ..=>false
 | .stop=>false
 | _=>true
def Pl.ok_spec {π:Pl}(h:π.ok=true):π.heads=[]/\π≠.stop:=by
 cases π<;>simp [Pl.ok,Pl.heads]at h ⊢
def GC (P:Program)(n:Nat)(l:List Oper)(ds:List (Option Tmp))(R:World->World->Prop):Pl->(FF->World->Prop)->FF->World->Prop
 | .nil,K,E,w=>K E w
 | .stop,_,_,_=>True
 | .one i .p _ rest,K,E,w=>if FU ds E (IP l i).guard=true then ∃v,PV P (IP l i) E v/\GC P n l ds R rest K (GL E (IP l i).dst v) w else GC P n l ds R rest K (GL E (IP l i).dst undef) w
 | .one i .l _ rest,K,E,w=>if FU ds E (IP l i).guard=true then ∃v,(∀w',R w w'->LV P (IP l i) E w' v)/\GC P n l ds R rest K (GL E (IP l i).dst v) w else GC P n l ds R rest K (GL E (IP l i).dst undef) w
 | .one i .x anc rest,K,E,w=>if FU ds E (IP l i).guard=true then XW P n (IP l i) E w (λE' w'=>(anc=false->R w w')/\GC P n l ds R rest K E' w')else GC P n l ds R rest K (GL E (IP l i).dst undef) w
 | .fork c,K,E,w=>GC P n l ds R c K E w
 | .alt i anc sub others,K,E,w=>(if FU ds E (IP l i).guard=true then XW P n (IP l i) E w (λE' w'=>(anc=false->R w w')/\GC P n l ds R sub K E' w')else GC P n l ds R sub K (GL E (IP l i).dst undef) w)/\
  GC P n l ds R others K E w
def MC (ops:Array Oper)(ld:List Nat)(listed:Array Bool)(i:Nat):Bool:=ld.all λk=>!listed.getD k false || k == i || M5 ops i k
def Kj (ops:Array Oper)(ld:List Nat):Pl->Nat->Array Bool->Bool
 | .nil,_,listed=>(Region.ready .any ops listed).isEmpty
 | .stop,_,_=>true
 | .one i .x anc r,fuel+1,listed=>(Region.ready .any ops listed == [i]) && (!anc || MC ops ld listed i) && r.ok && Kj ops ld r fuel (listed.setIfInBounds i true)
 | .one i .p _ r,fuel+1,listed=>(Region.ready .any ops listed).contains i && Region.free .any ops listed i && r.ok && Kj ops ld r fuel (listed.setIfInBounds i true)
 | .one i .l _ r,fuel+1,listed=>(Region.ready .any ops listed).contains i && Region.free .any ops listed i && ld.contains i && r.ok && Kj ops ld r fuel (listed.setIfInBounds i true)
 | .fork c,fuel,listed=>(Region.ready .any ops listed).all (λj=>c.heads.contains j) && !(Region.ready .any ops listed).isEmpty && Kj ops ld c fuel listed
 | .alt i anc sub others,fuel+1,listed=>(Region.ready .any ops listed).contains i && (!anc || MC ops ld listed i) && sub.ok && Kj ops ld sub fuel (listed.setIfInBounds i true) && Kj ops ld others (fuel+1) listed
 | _,_,_=>false
variable {anc:Bool}
def Xu7 {listed:Array Bool}(h:(!anc || MC ops ld listed i)=true)(ha:anc=true):Qo ops ld listed i:=by
 subst ha;simp only [C9,Cv]at h;intro k hk z r;have h1:=AQ.1 h k hk;simp only [z,C9,Cv,BL,beq_iff_eq]at h1;exact h1.resolve_left r
def Xl6 (hrefl:∀w,R w w)(htrans:∀a b c,R a b->R b c->R a c)(hok:ops.all (JC n)=true)(hsel:Region.noSelect ops=true):
  ∀(π:Pl) (fuel:Nat) (listed:Array Bool) (E:FF) (w:World),Kj ops ld π fuel listed=true->GC P n ops.toList (ops.toList.map (·.dst)) R π K E w->
   (π.heads=[]->π≠.stop->MG P ops (Hv n (nf K)) R ld fuel listed (H1 n E) w)/\
   (∀i∈π.heads,∃k,fuel=k+1/\wpOp P ops (Hv n (nf K)) i (λa' w'=>(R w w'\/Qo ops ld listed i)/\MG P ops (Hv n (nf K)) R ld k (listed.setIfInBounds i true) a' w') (H1 n E) w):=by
 have hQ:∀(d:Option Tmp) (v:Value) c a w,Hv n (nf K) (.panic c) (a.put d v) w->Hv n (nf K) (.panic c) a w:=λ_ _ _ _ _ ⟨_,_,hf⟩=>hf.elim;have key:∀(i:Nat) (Y:Oper),ops[i]?=some Y->IP ops.toList i=Y/\JC n Y=true:=λi Y hi=>
  ⟨X4d _ _ _ (by simpa using hi),Ct.1 hok Y (DC hi)⟩
 -- one effect
 have hy:∀(i:Nat) (anc:Bool) (rest:Pl) (fuel:Nat) (listed:Array Bool) (E:FF) (w:World),i∈Region.ready .any ops listed->(!anc || MC ops ld listed i)=true->
   (∀E' w',GC P n ops.toList (ops.toList.map (·.dst)) R rest K E' w'->MG P ops (Hv n (nf K)) R ld fuel (listed.setIfInBounds i true) (H1 n E') w')->
   (if FU (ops.toList.map (·.dst)) E (IP ops.toList i).guard=true then XW P n (IP ops.toList i) E w (λE' w'=>(anc=false->R w w')/\GC P n ops.toList (ops.toList.map (·.dst)) R rest K E' w')else GC P n ops.toList (ops.toList.map (·.dst)) R rest K (GL E (IP ops.toList i).dst undef) w)->
   wpOp P ops (Hv n (nf K)) i (λa' w'=>(R w w'\/Qo ops ld listed i)/\MG P ops (Hv n (nf K)) R ld fuel (listed.setIfInBounds i true) a' w') (H1 n E) w:=by
  intro i anc rest fuel listed E w hi ha ih h;obtain⟨_,Y,hx,_⟩:=mem_ready.1 hi;obtain⟨hn,Z⟩:=key i Y hx;rw[hn]at h;unfold wpOp;simp only [hx];rw[Ps Y hok];split at h<;>rename_i hg
  ·rw[if_pos hg];refine .inl (Oper.wp_monoQ (Oper.wp_mono ?_ (h Z)));rintro a w' ⟨E',rfl,hR,hd⟩;refine⟨?_,ih E' w' hd⟩
   cases anc with
   | false=>exact .inl (hR rfl)
   | true=>exact .inr (Xu7 ha rfl)
  ·rw[if_neg hg,Jm];exact⟨.inl (hrefl w),ih _ w h⟩
 intro π
 induction π with
 | nil=>
  intro fuel listed E w O h;refine⟨λ_ _=>?_,λi hi=>by cases hi⟩;simp only [Kj,List.isEmpty_iff]at O
  cases fuel with
  | zero=>exact⟨O,E,rfl,h⟩
  | succ k=>exact⟨λ_=>⟨E,rfl,h⟩,by rw[O];intro i hi;cases hi⟩
 | stop=>intro fuel listed E w _ _;exact⟨λ_ h=>absurd rfl h,λi hi=>by cases hi⟩
 | fork c ih=>
  intro fuel listed E w O h;simp only [Kj,Aw]at O;obtain⟨⟨ht,hh⟩,J⟩:=O;simp only [GC]at h;have hc:=(ih fuel listed E w J h).2;refine⟨λ_ _=>?_,λi hi=>by cases hi⟩;have hz:∀i∈Region.ready .any ops listed,i∈c.heads:=λi hi=>by simpa using AQ.1 ht i hi
  cases fuel with
  | zero=>
   cases hr:Region.ready .any ops listed with
   | nil=>rw[hr]at hh;simp at hh
   | cons i r=>
    obtain⟨k,hk,_⟩:=hc i (hz i (by rw[hr];exact Ai));omega
  | succ k=>
   refine⟨λh0=>by rw[h0]at hh;simp at hh,λi hi=>?_⟩;obtain⟨k',hk,hw⟩:=hc i (hz i hi);have:k'=k:=by omega
   subst this;exact hw
 | alt i anc sub others ihs iho=>
  intro fuel listed E w O h;refine⟨λh0=>by simp [Pl.heads]at h0,λj hj=>?_⟩
  cases fuel with
  | zero=>simp [Kj]at O
  | succ k=>
   simp only [Kj,Aw]at O;obtain⟨⟨⟨⟨hr,ha⟩,hq⟩,h6⟩,h5⟩:=O;simp only [GC]at h;rcases Ah.1 hj with rfl|hj'
   ·refine⟨k,rfl,hy j anc sub k listed E w (by simpa using hr) ha (λE' w' hd=>?_) h.1⟩;exact(ihs k _ E' w' h6 hd).1 (Pl.ok_spec hq).1 (Pl.ok_spec hq).2
   ·exact(iho (k+1) listed E w h5 h.2).2 j hj'
 | one i f anc rest ih=>
  intro fuel listed E w O h;refine⟨λ_ _=>?_,λj hj=>by cases hj⟩
  cases fuel with
  | zero=>cases f<;>simp [Kj]at O
  | succ k=>
   cases f with
   | x=>
    simp only [Kj,Aw]at O;obtain⟨⟨⟨hr,ha⟩,ho⟩,J⟩:=O;have z:Region.ready .any ops listed=[i]:=by simpa using hr
    simp only [GC]at h;refine⟨λh0=>(by rw[h0]at z;cases z),λj hj=>?_⟩;rw[z,Af]at hj;subst hj;exact hy j anc rest k listed E w (by rw[z];exact Af.2 rfl) ha (λE' w' hd=>(ih k _ E' w' J hd).1 (Pl.ok_spec ho).1 (Pl.ok_spec ho).2) h
   | p=>
    simp only [Kj,Aw]at O;obtain⟨⟨⟨hr,hf⟩,ho⟩,J⟩:=O;have z:i∈Region.ready .any ops listed:=by simpa using hr
    obtain⟨_,Y,hi,_⟩:=mem_ready.1 z;obtain⟨hn,Z⟩:=key i Y hi;simp only [GC,hn]at h;split at h<;>rename_i hg
    ·obtain⟨v,hv,hd⟩:=h;exact MT (B:=false) (v:=v) hrefl htrans (λh=>by cases h) hi (Region.noSelect_spec hsel) (hQ _ _) _ _ _ _ (Region.free_spec hi hf) z
      (QB hok Z hg λw _=>hv w) (by rw[Jm];exact(ih k _ _ w J hd).1 (Pl.ok_spec ho).1 (Pl.ok_spec ho).2)
    ·exact MT (B:=false) (v:=undef) hrefl htrans (λh=>by cases h) hi (Region.noSelect_spec hsel) (hQ _ _) _ _ _ _ (Region.free_spec hi hf) z
      (Qx hok hg) (by rw[Jm];exact(ih k _ _ w J h).1 (Pl.ok_spec ho).1 (Pl.ok_spec ho).2)
   | l=>
    simp only [Kj,Aw]at O;obtain⟨⟨⟨⟨hr,hf⟩,hl⟩,ho⟩,J⟩:=O;have z:i∈Region.ready .any ops listed:=by simpa using hr
    obtain⟨_,Y,hi,_⟩:=mem_ready.1 z;obtain⟨hn,Z⟩:=key i Y hi;simp only [GC,hn]at h;split at h<;>rename_i hg
    ·obtain⟨v,hv,hd⟩:=h;exact MT (B:=true) (v:=v) hrefl htrans (λ_=>by simpa using hl) hi (Region.noSelect_spec hsel) (hQ _ _) _ _ _ _ (Region.free_spec hi hf) z
      (QB hok Z hg λw hw=>hv w (hw rfl)) (by rw[Jm];exact(ih k _ _ w J hd).1 (Pl.ok_spec ho).1 (Pl.ok_spec ho).2)
    ·exact MT (B:=true) (v:=undef) hrefl htrans (λ_=>by simpa using hl) hi (Region.noSelect_spec hsel) (hQ _ _) _ _ _ _ (Region.free_spec hi hf) z
      (Qx hok hg) (by rw[Jm];exact(ih k _ _ w J h).1 (Pl.ok_spec ho).1 (Pl.ok_spec ho).2)
def KK {Q:Exit->FF->World->Prop}(hrefl:∀w,R w w)(htrans:∀a b c,R a b->R b c->R a c)(hm:P.follows .mixedOrders=true)(ld:List Nat)(π:Pl)(hp:(π.ok && Kj l.toArray ld π l.length (Cl l.length false))=true)(hsel:Region.noSelect l.toArray=true)(h:∀w1,w1=w.drew->GC P n l (l.map (·.dst)) R π (λE w=>Q .normal E w) E w1):W P n (.region id l.toArray true) Q E w:=by
 intro ok;simp only [JO]at ok;simp only [Aw]at hp;have h':=(Xl6 (P:=P) (ld:=ld) hrefl htrans ok hsel π l.length (Cl l.length false) E w.drew hp.2 (by simpa using h _ rfl)).1 (Pl.ok_spec hp.1).1 (Pl.ok_spec hp.1).2;refine Code.wp_mono (Q:=Hv n (nf λE w=>Q .normal E w)) ?_ (wp_region_any hm (by simpa using TR _ _ _ _ h'));rintro e a w' ⟨E',rfl,hq⟩
 cases e<;>first|exact⟨E',rfl,hq⟩|exact hq.elim
variable {ds:List (Option Tmp)}
def Xu8 {f:Fl}{rest:Pl}(h:Dw P n ds R [(IP l i,f,anc)] (λE' w'=>GC P n l ds R rest K E' w') E w):GC P n l ds R (.one i f anc rest) K E w:=by
 cases f<;>exact h
def Ji {c:Pl}(h:GC P n l ds R c K E w):GC P n l ds R (.fork c) K E w:=h
def Hk {sub others:Pl}(h:Dw P n ds R [(IP l i,.x,anc)] (λE' w'=>GC P n l ds R sub K E' w') E w)(ho:GC P n l ds R others K E w):GC P n l ds R (.alt i anc sub others) K E w:=⟨h,ho⟩
def Jh : GC P n l ds R .stop K E w:=trivial
def Xu9 (h:K E w):GC P n l ds R .nil K E w:=h
end
abbrev Fj := List UInt8
@[reducible] def S (l:Fj):Value:=.string ⟨⟨l⟩⟩
@[reducible] def I (n:Int):Value:=.int .i64 n
@[reducible] def B (b:Bool):Value:=.bool b
@[reducible] def Fh (b o:Nat):Value:=.pointer (some ⟨b,o,none⟩)
def Qt (l:Fj):(⟨⟨l⟩⟩:ByteArray).size=l.length:=rfl
def LP (P:Program)(T:TypeId):Bool:=match P.underlying T with
 | some (.struct _)|some (.array _ _)|none=>false
 | some _=>true
def LQ (P:Program)(T:TypeId):Option Nat:=match P.underlying T with
 | some (.struct _)|some (.array _ _)=>(P.info? T).map (·.size)
 | _=>none
def Mr (P:Program)(T f:Nat):Option Nat:=match P.underlying T with
 | some (.struct fs)=>match fs[f]? with
  | some x=>(P.info? x.type).bind λi=>if i.size=0 then none else some x.offset
  | none=>none
 | _=>none
def IS (P:Program)(T:TypeId):Option (TypeId×Nat):=match P.underlying T with
 | some (.slice e)=>(P.info? e).map λi=>(e,i.size)
 | _=>none
def P0 (P:Program)(T:TypeId):Option (Nat×TypeId×Nat):=match P.underlying T with
 | some (.array n e)=>(P.info? e).map λi=>(n,e,i.size)
 | _=>none
def Kr (P:Program)(T:TypeId):Bool:=match P.underlying T with|some .string=>true|_=>false
def YG (P:Program)(T:TypeId):Bool:=match P.underlying T with|some .bool=>true|_=>false
def P3 (P:Program)(T:TypeId):Bool:=match P.underlying T with|some (.pointer _)=>true|_=>false
def Ic (P:Program)(T:TypeId):Option IntKind:=match P.underlying T with|some (.int k)=>some k|_=>none
section
variable {P:Program}{E:FF}{d:Option Tmp}{ty:TypeId}{pos:String}{af:Array Edge}{g:Option (Nat×Bool)}{w:World}
variable {x:Operand}
def L8 {v:Value}(h:ev E x=v):PV P ⟨d,.move x,ty,pos,af,g⟩ E v:=λw=>by simp [execOp,h]
def Xvb {v:Value}(h:ev E x=v):PV P ⟨d,.assign x,ty,pos,af,g⟩ E v:=λw=>by simp [execOp,h]
def X58 {c a b:Operand}{t:Bool}{x y:Value}(hc:ev E c=.bool t)(ha:ev E a=x)(hb:ev E b=y):PV P ⟨d,.pick c a b,ty,pos,af,g⟩ E (if t then x else y):=λw=>by
 simp [execOp,hc,asBool,ha,hb]
variable {T U:TypeId}{a b:Int}{k:IntKind}{y:Operand}
def Px {op:BinOp}{c:Int}(hop:op=.add/\c=a+b\/op=.sub/\c=a-b\/op=.mul/\c=a*b)(hx:ev E x=.int k a)(hy:ev E y=.int k b):
  PV P ⟨d,.binOp op T x y U,ty,pos,af,g⟩ E (.int k (k.wrap c)):=λw=>by
 rcases hop with⟨rfl,rfl⟩|⟨rfl,rfl⟩|⟨rfl,rfl⟩<;>simp [execOp,hx,hy,eqGuard,binOp,Op.intArith]
def Ge (n:Int):Prop:=-9223372036854775808<=n/\n<=9223372036854775807
def Lj {n:Int}(h:Ge n):IntKind.i64.wrap n=n:=IntWalk.i64_in n h
def GK (hx:ev E x=I a)(hy:ev E y=I b)(h:Ge (a+b)):PV P ⟨d,.binOp .add T x y U,ty,pos,af,g⟩ E (I (a+b)):=by
 have:=Px (P:=P) (d:=d) (ty:=ty) (pos:=pos) (af:=af) (g:=g) (T:=T) (U:=U) (.inl ⟨rfl,rfl⟩) hx hy;rwa [Lj h]at this
def G7 (hx:ev E x=I a)(hy:ev E y=I b)(h:Ge (a-b)):PV P ⟨d,.binOp .sub T x y U,ty,pos,af,g⟩ E (I (a-b)):=by
 have:=Px (P:=P) (d:=d) (ty:=ty) (pos:=pos) (af:=af) (g:=g) (T:=T) (U:=U) (.inr (.inl ⟨rfl,rfl⟩)) hx hy;rwa [Lj h]at this
def Ks (hx:ev E x=I a)(hy:ev E y=I b)(h:Ge (a*b)):PV P ⟨d,.binOp .mul T x y U,ty,pos,af,g⟩ E (I (a*b)):=by
 have:=Px (P:=P) (d:=d) (ty:=ty) (pos:=pos) (af:=af) (g:=g) (T:=T) (U:=U) (.inr (.inr ⟨rfl,rfl⟩)) hx hy;rwa [Lj h]at this
def X59 (hx:ev E x=.int k a)(hy:ev E y=.int k b):PV P ⟨d,.binOp .add T x y U,ty,pos,af,g⟩ E (.int k (k.wrap (a+b))):=Px (.inl ⟨rfl,rfl⟩) hx hy
def Xp (hx:ev E x=.int k a)(hy:ev E y=.int k b):PV P ⟨d,.binOp .mul T x y U,ty,pos,af,g⟩ E (.int k (k.wrap (a*b))):=Px (.inr (.inr ⟨rfl,rfl⟩)) hx hy
def YI (hx:ev E x=.int k a)(hy:ev E y=.int k b):PV P ⟨d,.binOp .lss T x y U,ty,pos,af,g⟩ E (.bool (decide (a<b))):=λw=>by
 simp [execOp,hx,hy,eqGuard,binOp,Op.intCmp]
def IJ (hx:ev E x=.int k a)(hy:ev E y=.int k b):PV P ⟨d,.binOp .leq T x y U,ty,pos,af,g⟩ E (.bool (decide (a<=b))):=λw=>by
 simp [execOp,hx,hy,eqGuard,binOp,Op.intCmp]
def X9y (hx:ev E x=.int k a)(hy:ev E y=.int k b):PV P ⟨d,.binOp .gtr T x y U,ty,pos,af,g⟩ E (.bool (decide (b<a))):=λw=>by
 simp [execOp,hx,hy,eqGuard,binOp,Op.intCmp]
def HY (hx:ev E x=.int k a)(hy:ev E y=.int k b):PV P ⟨d,.binOp .geq T x y U,ty,pos,af,g⟩ E (.bool (decide (b<=a))):=λw=>by
 simp [execOp,hx,hy,eqGuard,binOp,Op.intCmp]
def Vl (hx:ev E x=.int k a)(hy:ev E y=.int k b):PV P ⟨d,.binOp .eql T x y U,ty,pos,af,g⟩ E (.bool (decide (a=b))):=λw=>by
 simp [execOp,hx,hy,eqGuard,binOp,Op.intCmp];exact(Bool.beq_eq_decide_eq a b)
def X4h (hx:ev E x=.int k a)(hy:ev E y=.int k b):PV P ⟨d,.binOp .neq T x y U,ty,pos,af,g⟩ E (.bool (decide (a≠b))):=λw=>by
 simp [execOp,hx,hy,eqGuard,binOp,Op.intCmp]
 by_cases h:a=b<;>simp [h]
def Kf {k':IntKind}(hx:ev E x=.int k' a)(hT:(P.underlying T).isSome=true)(hU:Ic P U=some k):PV P ⟨d,.convert T U x,ty,pos,af,g⟩ E (.int k (k.wrap a)):=λw=>by
 obtain⟨dT,r⟩:=Option.isSome_iff_exists.1 hT;have z:P.underlying U=some (.int k):=by
  unfold Ic at hU;split at hU
  ·rename_i h;cases hU;exact h
  ·cases hU
 simp [execOp,hx,convert,underlying,r,z,Conv.intToInt]
def KI {a b:Fj}(hx:ev E x=S a)(hy:ev E y=S b):PV P ⟨d,.binOp .eql T x y U,ty,pos,af,g⟩ E (.bool (decide (a=b))):=λw=>by
 simp [execOp,hx,hy,eqGuard,binOp,Op.stringOp]
 by_cases h:a=b<;>simp [h]
def Nk {a b:Fj}(hx:ev E x=S a)(hy:ev E y=S b):PV P ⟨d,.binOp .neq T x y U,ty,pos,af,g⟩ E (.bool (decide (a≠b))):=λw=>by
 simp [execOp,hx,hy,eqGuard,binOp,Op.stringOp]
 by_cases h:a=b<;>simp [h]
def MB {a b:Fj}(hx:ev E x=S a)(hy:ev E y=S b):PV P ⟨d,.binOp .lss T x y U,ty,pos,af,g⟩ E (.bool (Op.bytesLess a b)):=λw=>by
 simp [execOp,hx,hy,eqGuard,binOp,Op.stringOp]
def O5 {a b:Fj}(hx:ev E x=S a)(hy:ev E y=S b):PV P ⟨d,.binOp .geq T x y U,ty,pos,af,g⟩ E (.bool (!Op.bytesLess a b)):=λw=>by
 simp [execOp,hx,hy,eqGuard,binOp,Op.stringOp]
def I6 {a b:Fj}(hx:ev E x=S a)(hy:ev E y=S b)(h:a.length+b.length<=9223372036854775807):PV P ⟨d,.binOp .add T x y U,ty,pos,af,g⟩ E (S (a++b)):=λw=>by
 have h':¬ ((((⟨⟨a⟩⟩:ByteArray).size+(⟨⟨b⟩⟩:ByteArray).size:Nat):Int) > IntKind.i64.max):=by
  have e:IntKind.i64.max=9223372036854775807:=rfl;rw[e,Qt,Qt];omega
 have e:(⟨⟨a⟩⟩:ByteArray)++⟨⟨b⟩⟩=⟨⟨a++b⟩⟩:=by
  show ByteArray.append _ _=_;simp [ByteArray.append]
 have e2:(Op.stringOp .add ⟨⟨a⟩⟩ ⟨⟨b⟩⟩:Sem Value)=pure (S (a++b)):=by
  unfold Op.stringOp;simp only [];rw[if_neg h',e]
 simp only [execOp,hx,hy,eqGuard,binOp,e2];rfl
def X6a {a:Fj}(hT:Kr P T=true)(hx:ev E x=S a):PV P ⟨d,.call { callee:=.builtin .len,args:=#[x],argTypes:=#[T] },ty,pos,af,g⟩ E (I a.length):=λw=>by
 have r:P.underlying T=some .string:=by
  unfold Kr at hT;split at hT<;>first|assumption|cases hT
 simp [execOp,resolve,invoke,builtin,Builtin.len_,underlying,r,hx,goInt,Qt]
variable {i:Nat}
def TQ {a:Fj}{c:UInt8}(hT:Kr P T=true)(hx:ev E x=S a)(hy:ev E y=I i)(hi:a[i]?=some c):PV P ⟨d,.index T x y,ty,pos,af,g⟩ E (.int .u8 c.toNat):=λw=>by
 have z:P.underlying T=some .string:=by
  unfold Kr at hT;split at hT<;>first|assumption|cases hT
 have e:(⟨⟨a⟩⟩:ByteArray)[(i:Int).toNat]?=some c:=by
  rw[BU];have r:i<a.length:=(Ar.1 hi).1;rw[getElem?_pos _ i r];exact hi▸(by rw[Aq r];rfl)
 have e2:(⟨⟨a⟩⟩:ByteArray)[i]?=some c:=by simpa using e
 simp [execOp,Instr.index,asIntOf,hx,hy,underlying,z,e2]
def RZ (h:LP P T=true):(isAgg T).run P w=.ok false w:=by
 unfold LP at h;unfold isAgg underlying
 cases hu:P.underlying T with
 | none=>rw[hu]at h;simp at h
 | some u=>rw[hu]at h;cases u<;>simp [hu]at h ⊢
def MV {T k:Nat}(h:LQ P T=some k):(isAgg T).run P w=.ok true w/\(sizeOf T).run P w=.ok k w:=by
 unfold LQ at h;have key:∀u,P.underlying T=some u->(P.info? T).map (·.size)=some k->(u matches .struct _ | .array _ _)=true->(isAgg T).run P w=.ok true w/\(sizeOf T).run P w=.ok k w:=by
  intro u hu hk hm;obtain⟨i,hi,hs⟩:=Bp.1 hk
  constructor
  ·unfold isAgg underlying
   cases u<;>simp [hu]at hm ⊢
  ·simp [sizeOf,typeInfo,hi,hs]
 cases hu:P.underlying T with
 | none=>rw[hu]at h;simp at h
 | some u=>rw[hu]at h;cases u<;>simp at h<;>exact key _ hu (by simpa using h) rfl
def Xvd {T f o b k:Nat}(hT:Mr P T f=some k)(hx:ev E x=.pointer (some ⟨b,o,none⟩)):PV P ⟨d,.fieldAddr T x f,ty,pos,af,g⟩ E (.pointer (some ⟨b,o+k,none⟩)):=λw=>by
 unfold Mr at hT
 cases hu:P.underlying T with
 | none=>rw[hu]at hT;simp at hT
 | some u=>
  rw[hu]at hT
  cases u<;>simp at hT
  rename_i fs
  cases hf:fs[f]? with
  | none=>rw[hf]at hT;simp at hT
  | some fl=>
   rw[hf]at hT;simp only [Di]at hT;obtain⟨i,hi,hs⟩:=hT;have r:i.size≠0:=λe=>by rw[if_pos e]at hs;cases hs
   rw[if_neg r]at hs
   cases hs
   have z:(⟨b,o,none⟩:Addr).add fl.offset=⟨b,o+fl.offset,none⟩:=by
    unfold Addr.add;split
    ·rename_i e;simp [e]
    ·rfl
   simp [execOp,Instr.fieldAt,underlying,hu,hf,hx,Instr.sureAddr,fieldPlace,sizeOf,typeInfo,hi,r,z]
def base (v:Value):Nat×Nat:=match v with
 | .slice (some a) _ _=>(a.block,a.off)
 | _=>(0,0)
def Gq (v:Value)(n:Nat):Prop:=(v=.slice none 0 0/\n=0)\/(∃b o c,v=.slice (some ⟨b,o,none⟩) n c/\n<=c)\/(n=0/\∃a c,v=.slice (some a) 0 c)
variable {e:Nat}
def KY {T k:Nat}(h:IS P T=some (e,k)):P.underlying T=some (.slice e)/\∃i,P.info? e=some i/\i.size=k:=by
 unfold IS at h
 cases hu:P.underlying T with
 | none=>rw[hu]at h;simp at h
 | some u=>
  rw[hu]at h
  cases u<;>simp at h
  rename_i e';obtain⟨i,hi,rfl,rfl⟩:=h;exact⟨rfl,i,hi,rfl⟩
def Ua {T m k:Nat}(h:P0 P T=some (m,e,k)):P.underlying T=some (.array m e)/\∃i,P.info? e=some i/\i.size=k:=by
 unfold P0 at h
 cases hu:P.underlying T with
 | none=>rw[hu]at h;simp at h
 | some u=>
  rw[hu]at h
  cases u<;>simp at h
  rename_i e';obtain⟨i,hi,rfl,rfl,rfl⟩:=h;exact⟨rfl,i,hi,rfl⟩
variable {n:Nat}
def OM {T k:Nat}{v:Value}(hT:IS P T=some (e,k))(hv:Gq v n)(hx:ev E x=v):PV P ⟨d,.call { callee:=.builtin .len,args:=#[x],argTypes:=#[T] },ty,pos,af,g⟩ E (I n):=λw=>by
 obtain⟨hu,_⟩:=KY hT;rcases hv with⟨rfl,rfl⟩|⟨b,o,c,rfl,_⟩|⟨rfl,a,c,rfl⟩<;>simp [execOp,resolve,invoke,builtin,Builtin.len_,underlying,hu,hx,goInt]
def Ir {T k:Nat}{v:Value}(hT:IS P T=some (e,k))(hv:Gq v n)(hx:ev E x=v)(hy:ev E y=I i)(hi:i<n):
  PV P ⟨d,.indexAddr T x y,ty,pos,af,g⟩ E (Fh (base v).1 ((base v).2+i*k)):=λw=>by
 obtain⟨hu,f,z,hk⟩:=KY hT;rcases hv with⟨rfl,rfl⟩|⟨b,o,c,rfl,_⟩|⟨rfl,a,c,rfl⟩
 ·omega
 rotate_left
 ·omega
 ·have J:(⟨b,o,none⟩:Addr).add (i*k)=⟨b,o+i*k,none⟩:=by
   unfold Addr.add;split
   ·rename_i e;simp [e]
   ·rfl
  have r:(0:Int)<=(i:Int)/\(i:Int)<(n:Int):=by omega
  simp [execOp,Instr.indexAt,asIntOf,underlying,hu,hx,hy,sizeOf,typeInfo,z,hk,base,r,J];omega
def Ln {T k m b o:Nat}(hT:P0 P T=some (m,e,k))(hx:ev E x=Fh b o)(hy:ev E y=I i)(hi:i<m):
  PV P ⟨d,.indexAddr T x y,ty,pos,af,g⟩ E (Fh b (o+i*k)):=λw=>by
 obtain⟨hu,f,z,hk⟩:=Ua hT;have J:(⟨b,o,none⟩:Addr).add (i*k)=⟨b,o+i*k,none⟩:=by
  unfold Addr.add;split
  ·rename_i e;simp [e]
  ·rfl
 have r:(0:Int)<=(i:Int)/\(i:Int)<(m:Int):=by omega
 simp [execOp,Instr.indexAt,asIntOf,underlying,hu,hx,hy,sizeOf,typeInfo,z,hk,r,J,Instr.sureAddr];omega
def X6b {a:Addr}(hx:ev E x=.pointer (some a)):PV P ⟨d,.nilCheck x,ty,pos,af,g⟩ E (.pointer (some a)):=λw=>by
 simp [execOp,hx]
def X9z {b:Bool}(hx:ev E x=.bool b):PV P ⟨d,.unOp .not T x,ty,pos,af,g⟩ E (.bool (!b)):=λw=>by
 simp [execOp,hx,Op.unary]
def WP {vs:List Value}{v:Value}(hx:ev E x=.tuple ⟨vs⟩)(hv:vs[i]?=some v):PV P ⟨d,.extract x i,ty,pos,af,g⟩ E v:=λw=>by
 simp [execOp,hx,Instr.extract,hv]
def OI (op:BinOp)(T U:TypeId)(x y:Operand)(w:World)(v:Value)(hg:∀w,(eqGuard op T x y (ev E x) (ev E y)).run P w=.ok () w)(h:(binOp op T (ev E x) (ev E y)).run P w=.ok v w) :
  (execOp (ev E) ⟨d,.binOp op T x y U,ty,pos,af,g⟩).run P w=.ok (.value v) w:=by
 simp [execOp,hg,h]
def QV {a b:Bool}(hT:YG P T=true)(hx:ev E x=.bool a)(hy:ev E y=.bool b):PV P ⟨d,.binOp .eql T x y U,ty,pos,af,g⟩ E (.bool (decide (a=b))):=λw=>by
 have r:P.underlying T=some .bool:=by
  unfold YG at hT;split at hT<;>first|assumption|cases hT
 refine OI _ _ _ _ _ _ _ (λw=>by simp [hx,hy,eqGuard]) ?_;rw[hx,hy,run_eql_bool _ _ _ _ r]
 cases a<;>cases b<;>rfl
def WK (h:P3 P T=true):P.underlying T=some (.pointer (P.pointee T)):=by
 unfold P3 at h;split at h
 ·rename_i e he;simp [Program.pointee,he]
 ·cases h
def GY {a:Option Addr}(hT:P3 P T=true)(hx:ev E x=.pointer a)(hy:ev E y=.pointer none):PV P ⟨d,.binOp .eql T x y U,ty,pos,af,g⟩ E (.bool (decide (a=none))):=λw=>by
 refine OI _ _ _ _ _ _ _ (λw=>by simp [hx,hy,eqGuard]) ?_;rw[hx,hy,run_eql_pointer_nil _ _ _ (WK hT)]
 cases a<;>rfl
def OB {a:Option Addr}(hT:P3 P T=true)(hx:ev E x=.pointer a)(hy:ev E y=.pointer none):PV P ⟨d,.binOp .neq T x y U,ty,pos,af,g⟩ E (.bool (decide (a≠none))):=λw=>by
 refine OI _ _ _ _ _ _ _ (λw=>by simp [hx,hy,eqGuard]) ?_;rw[hx,hy,run_neq_pointer_nil _ _ _ (WK hT)]
 cases a<;>rfl
def X06 (w:World)(t e:TypeId)(a:Option Addr)(l c:Nat)(h:P.underlying t=some (.slice e)):(binOp .eql t (.slice a l c) (.slice none 0 0)).run P w=.ok (.bool a.isNone) w:=by
 have e1:(Op.equalIn (9999+1) t (.slice a l c) (.slice none 0 0)).run P w=.ok a.isNone w:=by
  rw[Op.equalIn]
  cases a<;>simp [underlying,h]
 simp only [binOp,Op.equal,Op.maxDepth,Sem.run_bind,e1];rfl
def S2 {T U k:Nat}{a:Option Addr}{c:Nat}(hT:IS P T=some (e,k))(hx:ev E x=.slice a n c)(hy:ev E y=.slice none 0 0):PV P ⟨d,.binOp .eql T x y U,ty,pos,af,g⟩ E (.bool (decide (a=none))):=λw=>by
 obtain⟨he,_⟩:=KY hT;refine OI _ _ _ _ _ _ _ (λw=>by simp [hx,hy,eqGuard]) ?_;rw[hx,hy,X06 _ _ _ _ _ _ he]
 cases a<;>rfl
def N8 {i:Int}{y:Nat}{c:BoundsCode}(h:0<=i/\i<=y)(w:World):(Instr.sliceBound (.int k i) y c).run P w=.ok i.toNat w:=by
 simp [Instr.sliceBound,asIntOf,h]
def Xvf (s:Fj)(a b:Nat):(⟨⟨s⟩⟩:ByteArray).extract a b=⟨⟨(s.take b).drop a⟩⟩:=by
 have h1:((⟨⟨s⟩⟩:ByteArray).extract a b).data=(#[].extract 0 0++(⟨s⟩:Array UInt8).extract a (a+(b-a))) ++ #[].extract (0+min (b-a) ((⟨s⟩:Array UInt8).size-a)) 0:=rfl
 apply ByteArray.ext
 rw[h1]
 apply Eo
 simp [List.drop_take]
def Nf (E:FF)(d:Nat)(x:Option Operand)(a:Nat):Prop:=match x with
 | some l=>ev E l=I a
 | none=>a=d
def SV {lo hi:Option Operand}{T a b:Nat}{s:Fj}(hT:Kr P T=true)(hx:ev E x=S s)(hlo:Nf E 0 lo a)(hhi:Nf E s.length hi b)(h1:a<=b)(h2:b<=s.length):
  PV P ⟨d,.slice T x lo hi none,ty,pos,af,g⟩ E (S ((s.take b).drop a)):=λw=>by
 have z:P.underlying T=some .string:=by
  unfold Kr at hT;split at hT<;>first|assumption|cases hT
 have J:(0:Int)<=(b:Int)/\(b:Int)<=(s.length:Int):=by omega
 have r:(0:Int)<=(a:Int)/\(a:Int)<=(b:Int):=by omega
 have key:(Instr.sliceBounds false s.length s.length (lo.map (ev E)) (hi.map (ev E)) none).run P w=.ok (a,b,s.length) w:=by
  unfold Nf at hlo hhi
  cases lo<;>cases hi<;>simp only []at hlo hhi<;>subst_vars<;>simp only [Dj,Instr.sliceBounds,Sem.run_bind,Sem.run_pure,Result.andThen_ok, *] <;>
   simp only [N8 J,N8 r,Result.andThen_ok,BU]<;>rfl
 have e1:(Instr.sliceAt T (.string ⟨⟨s⟩⟩) (lo.map (ev E)) (hi.map (ev E)) none).run P w=.ok (S ((s.take b).drop a)) w:=by
  simp [Instr.sliceAt,Instr.slice,underlying,z,Qt,key,Xvf]
 simp only [execOp,hx,Dk,Sem.run_bind,e1];rfl
end
structure Mod (S:Nat->Prop)(w w':World):Prop where
 os:w'.os=w.os
 tape:w'.tape=w.tape
 output:w'.output=w.output
 size:w.heap.size<=w'.heap.size
 block:∀k,k<w.heap.size->¬ S k->w'.heap[k]?=w.heap[k]?
def noB : Nat->Prop:=λ_=>False
abbrev Fq (w w':World):Prop:=Mod noB w w'
def Fv (b:Nat):Nat->Prop:=λk=>k=b
def Mod.refl (S:Nat->Prop)(w:World):Mod S w w:=⟨rfl,rfl,rfl,Aa _,λ_ _ _=>rfl⟩
def Fq.refl (w:World):Fq w w:=Mod.refl _ w
variable {U:Nat->Prop}{a:World}
def Mod.trans {S T:Nat->Prop}{b c:World}(h:Mod S a b)(k:Mod T b c)(hS:∀i,S i->U i)(hT:∀i,T i->i<a.heap.size->U i):Mod U a c:=
 ⟨k.os.trans h.os,k.tape.trans h.tape,k.output.trans h.output,Ae h.size k.size,λi hi J=>
  (k.block i (Nat.lt_of_lt_of_le hi h.size) (λr=>J (hT i r hi))).trans (h.block i hi (λz=>J (hS i z)))⟩
def Mod.ext {S:Nat->Prop}{b c:World}(h:Mod S a b)(k:Fq b c):Mod S a c:=h.trans k (λ_ h=>h) (λ_ h _=>h.elim)
def Fq.trans {b c:World}(h:Fq a b)(k:Fq b c):Fq a c:=Mod.ext h k
def Fq.mod {S:Nat->Prop}{b c:World}(h:Fq a b)(k:Mod S b c):Mod S a c:=Mod.trans h k (λ_ h=>h.elim) (λ_ h _=>h)
def Mod.mono {S:Nat->Prop}{b:World}(h:Mod S a b)(hS:∀i,S i->i<a.heap.size->U i):Mod U a b:=
 ⟨h.os,h.tape,h.output,h.size,λi hi r=>h.block i hi (λs=>r (hS i s hi))⟩
def Fq.own {S:Nat->Prop}{b c:World}(h:Fq a b)(k:Mod S b c)(hS:∀i,S i->a.heap.size<=i):Fq a c:=
 Mod.trans h k (λ_ h=>h) (λi h hi=>by have:=hS i h;omega)
def Mod.own {S T:Nat->Prop}{b c:World}(h:Mod T a b)(k:Mod S b c)(hS:∀i,S i->i<a.heap.size->T i):Mod T a c:=
 Mod.trans h k (λ_ h=>h) hS
def Fq.drew (w:World):Fq w w.drew:=⟨rfl,rfl,rfl,Aa _,λ_ _ _=>rfl⟩
def Fq.alloc (w:World)(o:Obj):Fq w (w.alloc o):=⟨rfl,rfl,rfl,by simp,λk hk _=>Below.heap_alloc _ _ _ hk⟩
variable {w':World}
def Fq.below (h:Fq w w'):Below w.heap.size w w':=⟨h.os,h.tape,h.output,h.size,λk hk=>h.block k hk (λh=>h)⟩
def Fq.of_below (h:Below w.heap.size w w'):Fq w w':=⟨h.os,h.tape,h.output,h.size,λk hk _=>h.block k hk⟩
def Fq.of_grown (h:w.grownBy w' none):Fq w w':=⟨h.os,h.tape,h.output,h.size,λk hk _=>h.block k hk F0⟩
def Mod.of_grown {r:Option Nat}(h:w.grownBy w' r):Mod (λk=>r=some k) w w':=⟨h.os,h.tape,h.output,h.size,λk hk hn=>h.block k hk (λe=>hn e.symm)⟩
variable {o:Nat}
def Mod.cell {S:Nat->Prop}(h:Mod S w w'){v:Value}(hc:w.cell? ⟨b,o,none⟩=some v)(hS:¬ S b):w'.cell? ⟨b,o,none⟩=some v:=by
 have hb:=World.block_lt_of_cell? (w:=w) (a:=⟨b,o,none⟩) hc;rw[World.cell?_of_block (w:=w) (h.block b hb hS)];exact hc
def Fp (w:World)(b:Nat)(cs:List Value)(T:TypeId):Prop:=w.heap[b]?=some (.cells ⟨cs⟩ T (0,0))
variable {T:TypeId}
def Fp.lt {cs:List Value}(h:Fp w b cs T):b<w.heap.size:=(BD.1 h).1
def Fp.mod {S:Nat->Prop}{cs:List Value}(h:Fp w b cs T)(m:Mod S w w')(hS:¬ S b):Fp w' b cs T:=by
 have r:=h.lt;unfold Fp at *;rw[m.block b r hS];exact h
def Fp.ext {cs:List Value}(h:Fp w b cs T)(m:Fq w w'):Fp w' b cs T:=h.mod m (λh=>h)
def Fp.at {w:World}{b k:Nat}{cs:List Value}{T:TypeId}{v:Value}(h:Fp w b cs T)(hk:cs[k]?=some v):w.cell? ⟨b,k,none⟩=some v:=by
 unfold Fp at h;simp [World.cell?,h];simpa using hk
def Fp.free {cs:List Value}(h:Fp w b cs T):w.frozen? ⟨b,k,none⟩=false:=by
 unfold Fp at h;simp [World.frozen?,h]
def Jy (w:World)(b o:Nat)(cs:List Value):Prop:=∀i v,cs[i]?=some v->w.cell? ⟨b,o+i,none⟩=some v
def Jy.mod {S:Nat->Prop}{cs:List Value}(h:Jy w b o cs)(m:Mod S w w')(hS:¬ S b):Jy w' b o cs:=λi v hi=>m.cell (h i v hi) hS
def Jy.at {cs:List Value}{v:Value}(h:Jy w b o cs)(hk:cs[k]?=some v):w.cell? ⟨b,o+k,none⟩=some v:=h k v hk
def Fp.row {cs:List Value}(h:Fp w b cs T):Jy w b 0 cs:=λi v hi=>by rw[A5];exact h.at hi
def Fp.part {cs:List Value}(o n:Nat)(h:Fp w b cs T):Jy w b o ((cs.drop o).take n):=λi v hi=>h.at (by
 rw[AX]at hi;split at hi
 ·rw[B3]at hi;exact hi
 ·cases hi)
structure Slc (sz:Nat)(w:World)(v:Value)(xs:List (List Value)):Prop where
 sl:Gq v xs.length
 at':∀i cs,xs[i]?=some cs->cs.length=sz/\Jy w (base v).1 ((base v).2+i*sz) cs
variable {xs:List (List Value)}
def Slc.mod {S:Nat->Prop}{sz:Nat}{v:Value}(h:Slc sz w v xs)(m:Mod S w w')(hS:xs≠[]->¬ S (base v).1):Slc sz w' v xs:=
 ⟨h.sl,λi cs hi=>⟨(h.at' i cs hi).1,(h.at' i cs hi).2.mod m (hS (λe=>by rw[e]at hi;simp at hi))⟩⟩
def Slc.ext {sz:Nat}{v:Value}(h:Slc sz w v xs)(m:Fq w w'):Slc sz w' v xs:=h.mod m (λ_ h=>h)
def Slc.row {sz:Nat}{v:Value}{i:Nat}{cs:List Value}(h:Slc sz w v xs)(hi:xs[i]?=some cs):Jy w (base v).1 ((base v).2+i*sz) cs:=(h.at' i cs hi).2
def Slc.nil (sz:Nat)(w:World):Slc sz w (.slice none 0 0) []:=⟨.inl ⟨rfl,rfl⟩,λi cs hi=>by simp at hi⟩
def Fu {α:Type}(enc:α->List Value)(sz:Nat)(w:World)(v:Value)(l:List α):Prop:=Slc sz w v (l.map enc)
section
variable {α:Type}{enc:α->List Value}{sz:Nat}{w w':World}{v:Value}{l:List α}
def Fu.sl (h:Fu enc sz w v l):Gq v l.length:=by have:=Slc.sl h;rwa [Au]at this
def Fu.row {i:Nat}{x:α}(h:Fu enc sz w v l)(hi:l[i]?=some x):Jy w (base v).1 ((base v).2+i*sz) (enc x):=Slc.row h (by rw[AH,hi];rfl)
def Fu.ext (h:Fu enc sz w v l)(m:Fq w w'):Fu enc sz w' v l:=Slc.ext h m
def Fu.mod {S:Nat->Prop}(h:Fu enc sz w v l)(m:Mod S w w')(hS:l≠[]->¬ S (base v).1):Fu enc sz w' v l:=Slc.mod h m (λe=>hS (λe2=>e (by rw[e2];rfl)))
def Fu.lt {i:Nat}{x:α}(h:Fu enc sz w v l)(hi:l[i]?=some x):i<l.length:=(Ar.1 hi).1
def Fu.nil : Fu enc sz w (.slice none 0 0) []:=Slc.nil sz w
def Fu.blk {x:α}(h:Fu enc sz w v l)(hsz:0<sz)(hi:l[0]?=some x):(base v).1<w.heap.size:=by
 obtain⟨h1,h2⟩:=Slc.at' h 0 (enc x) (by rw[AH,hi];rfl)
 cases he:enc x with
 | nil=>rw[he]at h1;simp at h1;omega
 | cons c r=>exact World.block_lt_of_cell? (w:=w) (a:=⟨_,_,none⟩) (h2 0 c (by rw[he];rfl))
end
section
variable {P:Program}{n:Nat}{ds:List (Option Tmp)}{R:World->World->Prop}{r:List (Oper×Fl×Bool)}{K:FF->World->Prop}{E:FF}{w:World}
variable {d:Nat}{op:Op}{ty:TypeId}{pos:String}{af:Array Edge}{g:Option (Nat×Bool)}{anc:Bool}{v:Value}
def Pr (h:K E w):Dw P n ds R [] K E w:=h
def JS (hg:FU ds E g=true)(hv:PV P ⟨some d,op,ty,pos,af,g⟩ E v)(h:Dw P n ds R r K (FW E d v) w):Dw P n ds R ((⟨some d,op,ty,pos,af,g⟩,.p,anc) :: r) K E w:=by
 unfold Dw;rw[if_pos hg];exact⟨v,hv,h⟩
def F3 {v':Value}(hg:FU ds E g=true)(hv:PV P ⟨some d,op,ty,pos,af,g⟩ E v')(hn:v'=v)(h:Dw P n ds R r K (FW E d v) w):Dw P n ds R ((⟨some d,op,ty,pos,af,g⟩,.p,anc) :: r) K E w:=
 JS hg (hn▸hv) h
variable {x:Operand}
def XI (hg:FU ds E g=true)(hx:ev E x=v)(h:Dw P n ds R r K (FW E d v) w):Dw P n ds R ((⟨some d,.move x,ty,pos,af,g⟩,.p,anc) :: r) K E w:=JS hg (L8 hx) h
def Yd9 (hg:FU ds E g=true)(hx:ev E x=v)(h:Dw P n ds R r K (FW E d v) w):Dw P n ds R ((⟨some d,.assign x,ty,pos,af,g⟩,.p,anc) :: r) K E w:=JS hg (Xvb hx) h
def Gh (hg:FU ds E g=true)(hv:∀w',R w w'->LV P ⟨some d,op,ty,pos,af,g⟩ E w' v)(h:Dw P n ds R r K (FW E d v) w):Dw P n ds R ((⟨some d,op,ty,pos,af,g⟩,.l,anc) :: r) K E w:=by
 unfold Dw;rw[if_pos hg];exact⟨v,hv,h⟩
def Rm {f:Fl}(hg:FU ds E g=false)(h:Dw P n ds R r K (FW E d undef) w):Dw P n ds R ((⟨some d,op,ty,pos,af,g⟩,f,anc) :: r) K E w:=by
 cases f<;>(unfold Dw;rw[if_neg (by rw[hg];decide)];exact h)
def XO {f:Fl}(hg:FU ds E g=false)(h:Dw P n ds R r K E w):Dw P n ds R ((⟨none,op,ty,pos,af,g⟩,f,anc) :: r) K E w:=by
 cases f<;>(unfold Dw;rw[if_neg (by rw[hg];decide)];exact h)
def Oa {o:Oper}(hg:FU ds E o.guard=true)(h:XW P n o E w (λE' w'=>(anc=false->R w w')/\Dw P n ds R r K E' w')):Dw P n ds R ((o,.x,anc) :: r) K E w:=by
 unfold Dw;rw[if_pos hg];exact h
variable {l:List (Oper×Fl×Bool)}
def IR (s:Nat){b:Bool}(hb:E s=.bool b)(ht:b=true->Dw P n ds R l K (FW E s (.bool true)) w)(hf:b=false->Dw P n ds R l K (FW E s (.bool false)) w):Dw P n ds R l K E w:=by
 cases b with
 | true=>have:=ht rfl;rwa [TW E s _ hb]at this
 | false=>have:=hf rfl;rwa [TW E s _ hb]at this
def X07 (s:Nat){p:Prop}[Decidable p](hb:E s=.bool (decide p))(ht:p->Dw P n ds R l K (FW E s (.bool true)) w)(hf:¬ p->Dw P n ds R l K (FW E s (.bool false)) w):Dw P n ds R l K E w:=
 IR s hb (λh=>ht (of_decide_eq_true h)) (λh=>hf (of_decide_eq_false h))
def RX (R:World->World->Prop)(anc:Bool):Prop:=anc=true\/∀w w',Fq w w'->R w w'
def RX.ext {anc:Bool} : RX Fq anc:=.inr λ_ _ h=>h
def RX.all : RX R true:=.inl rfl
variable {w':World}
def RX.use {anc:Bool}(h:RX R anc){w:World}(he:Fq w w'):anc=false->R w w':=λe=>h.elim (λh=>by rw[h]at e;cases e) (λh=>h _ _ he)
def IA {o:Oper}{v:Value}(hg:FU ds E o.guard=true)(hr:(execOp (ev E) o).run P w=.ok (.value v) w')(hR:anc=false->R w w')(h:Dw P n ds R r K (GL E o.dst v) w'):Dw P n ds R ((o,.x,anc) :: r) K E w:=by
 refine Oa hg λok=>?_;unfold Oper.wp;rw[MY ok,hr];exact⟨_,Jm _ _ _ _,hR,h⟩
def S9 {o:Oper}(hg:FU ds E o.guard=true)(hr:(execOp (ev E) o).run P w=.ok .skip w')(hR:anc=false->R w w')(h:Dw P n ds R r K (GL E o.dst undef) w'):Dw P n ds R ((o,.x,anc) :: r) K E w:=by
 refine Oa hg λok=>?_;unfold Oper.wp;rw[MY ok,hr];exact⟨_,Jm _ _ _ _,hR,h⟩
variable {T b o:Nat}{dd:Option Tmp}
def NE {v:Value}(hT:LP P T=true)(hx:ev E x=Fh b o)(hc:w.cell? ⟨b,o,none⟩=some v):LV P ⟨dd,.load T x,ty,pos,af,g⟩ E w v:=by
 unfold LV;simp [execOp,hx,Instr.loadAt,Instr.sureAddr,loadVar,RZ hT,hc]
def Qb : ∀(cs:List Value) (i:Nat) (z:Array Value),(∀j v,cs[j]?=some v->w.cell? ⟨b,o+i+j,none⟩=some v)->
  (loadCellsFrom ⟨b,o,none⟩ i cs.length z).run P w=.ok (z++cs.toArray) w:=by
 intro cs
 induction cs with
 | nil=>intro i z _;simp [loadCellsFrom]
 | cons v r ih=>
  intro i z h;have h0:w.cell? ⟨b,o+i,none⟩=some v:=by simpa using h 0 v rfl
  have O:(⟨b,o,none⟩:Addr).add i=⟨b,o+i,none⟩:=by
   unfold Addr.add;split
   ·rename_i e;simp [e]
   ·rfl
  have J:=ih (i+1) (z.push v) (λj u Y=>by have:=h (j+1) u (by simpa using Y);simpa [BV,DD 1 j]using this);simp [loadCellsFrom,O,h0,J]
variable {k:Nat}
def Fx {cs:List Value}(hT:LQ P T=some k)(hx:ev E x=Fh b o)(hl:cs.length=k)(hc:Jy w b o cs):LV P ⟨dd,.load T x,ty,pos,af,g⟩ E w (.agg ⟨cs⟩):=by
 unfold LV;have h1:=Qb (P:=P) (w:=w) (b:=b) (o:=o) cs 0 #[] (λj v z=>by rw[Ce];exact hc j v z);rw[hl]at h1;simp [execOp,hx,Instr.loadAt,Instr.sureAddr,loadVar,(MV hT).1,(MV hT).2,loadCells,h1]
def G1 {cs:List Value}(hg:FU ds E g=true)(hx:ev E x=v)(hv:v.cells=⟨cs⟩)(hR:RX R anc)(h:∀b w1,b=w.heap.size->Fq w w1->Fp w1 b cs T->Dw P n ds R r K (FW E d (Fh b 0)) w1):Dw P n ds R ((⟨some d,.box T x,ty,pos,af,g⟩,.x,anc) :: r) K E w:=by
 refine IA (v:=Fh w.heap.size 0) (w':=w.alloc (.cells ⟨cs⟩ T)) hg ?_ (hR.use (Fq.alloc _ _)) (h _ _ rfl (Fq.alloc _ _) ?_)
 ·simp [execOp,hx,Instr.box,newVar,newRow,hv,newObj,Sem.run]
 ·show(w.heap.push _)[w.heap.size]?=_;simp
def KX (P:Program)(T:TypeId):Option (List Value):=(P.info? T).bind λi=>i.zero.map λz=>z.cells.toList
def Pb {T:TypeId}{cs:List Value}(h:KX P T=some cs):∃z,(zeroValue T).run P w=.ok z w/\z.cells=⟨cs⟩:=by
 unfold KX at h
 cases hi:P.info? T with
 | none=>rw[hi]at h;simp at h
 | some i=>
  rw[hi]at h;simp only [Cu,Bp]at h;obtain⟨z,J,O⟩:=h;exact⟨z,by simp [zeroValue,typeInfo,hi,J],by rw[<-O]⟩
def X6c {cs:List Value}(hg:FU ds E g=true)(hz:KX P T=some cs)(hR:RX R anc)(h:∀b w1,b=w.heap.size->Fq w w1->Fp w1 b cs T->Dw P n ds R r K (FW E d (Fh b 0)) w1):Dw P n ds R ((⟨some d,.alloc T,ty,pos,af,g⟩,.x,anc) :: r) K E w:=by
 obtain⟨z,O,J⟩:=Pb (P:=P) (w:=w) hz;refine IA (v:=Fh w.heap.size 0) (w':=w.alloc (.cells ⟨cs⟩ T)) hg ?_ (hR.use (Fq.alloc _ _)) (h _ _ rfl (Fq.alloc _ _) ?_)
 ·simp [execOp,Instr.alloc,O,newVar,newRow,J,newObj,Sem.run]
 ·show(w.heap.push _)[w.heap.size]?=_;simp
def Gw : List Value->Nat->List Value->List Value
 | cs,_,[]=>cs
 | cs,o,v :: vs=>Gw (cs.set o v) (o+1) vs
def Fp.set {cs:List Value}{T:TypeId}(h:Fp w b cs T)(v:Value):Fp (w.setCell ⟨b,o,none⟩ v) b (cs.set o v) T:=by
 unfold Fp at *;simp only [World.setCell,Array.getElem?_modify,if_true,h,Cm,Option.isSome_none];simp
def Mod.setCell (b o:Nat)(v:Value):Mod (Fv b) w (w.setCell ⟨b,o,none⟩ v):=
 ⟨rfl,rfl,rfl,by simp,λk hk hn=>Below.heap_setCell _ _ _ _ hn⟩
def Y0 {T:TypeId}: ∀(vs:List Value) (i:Nat) (cs:List Value) (w:World),Fp w b cs T->o+i+vs.length<=cs.length->(∀v∈vs,v.oneCell'=true)->
  ∃w',(storeCells ⟨b,o,none⟩ vs i).run P w=.ok () w'/\Fp w' b (Gw cs (o+i) vs) T/\Mod (Fv b) w w'/\w'.heap.size=w.heap.size:=by
 intro vs
 induction vs with
 | nil=>intro i cs w h _ _;exact⟨w,by simp [storeCells],h,Mod.refl _ _,rfl⟩
 | cons v r ih=>
  intro i cs w h O h1;have J:o+i<cs.length:=by simp at O;omega
  have ha:(⟨b,o,none⟩:Addr).add i=⟨b,o+i,none⟩:=by
   unfold Addr.add;split
   ·rename_i e;simp [e]
   ·rfl
  have Z:w.cell? ⟨b,o+i,none⟩=some cs[o+i]:=h.at (by simp [J]);have Y:w.frozen? ⟨b,o+i,none⟩=false:=h.free;obtain⟨w',e1,e2,e3,e4⟩:=ih (i+1) (cs.set (o+i) v) (w.setCell ⟨b,o+i,none⟩ v) (h.set v) (by simp at O ⊢;omega) (λu hu=>h1 u (Aj _ hu));refine⟨w',?_,by simpa [Gw,BV]using e2,Mod.trans (Mod.setCell b (o+i) v) e3 (λ_ h=>h) (λ_ h _=>h),by simpa using e4⟩;have z:=h1 v Ai;rw[storeCells,Sem.run_bind,ha];have hs:(store ⟨b,o+i,none⟩ v).run P w=.ok () (w.setCell ⟨b,o+i,none⟩ v):=by
   cases v<;>simp [Value.oneCell']at z<;>simp [store,Sem.run,Z,Y]
  rw[hs];exact e1
def My (P:Program)(T:TypeId):Option Nat:=(P.info? T).map (·.size)
variable {vs:List Value}
def Pk {a:Operand}{T':Nat}{cs:List Value}(hg:FU ds E g=true)(ha:ev E a=Fh b o)(hx:ev E x=v)(hv:v.cells=⟨vs⟩)(hs:My P T=some vs.length)(hb:Fp w b cs T')(ho:o+vs.length<=cs.length)(h1:∀v∈vs,v.oneCell'=true)(hR:anc=true\/∀w',Mod (Fv b) w w'->R w w')(h:∀w1,Mod (Fv b) w w1->w1.heap.size=w.heap.size->Fp w1 b (Gw cs o vs) T'->Dw P n ds R r K E w1):Dw P n ds R ((⟨none,.store T a x,ty,pos,af,g⟩,.x,anc) :: r) K E w:=by
 obtain⟨w',e1,e2,O,Y⟩:=Y0 (P:=P) (b:=b) (o:=o) (T:=T') vs 0 cs w hb (by simpa using ho) h1;rw[Ce]at e2;refine S9 (w':=w') hg ?_ (λe=>hR.elim (λh=>by rw[h]at e;cases e) (λh=>h _ O)) (h _ O Y e2);unfold My at hs;obtain⟨i,hi,J⟩:=Bp.1 hs;have z:(storeCells ⟨b,o,none⟩ vs).run P w=.ok () w':=e1;simp [execOp,ha,hx,Instr.storeAt,Instr.sureAddr,storeVar,sizeOf,typeInfo,hi,J,hv,z]
def Sq (P:Program)(T:TypeId):Option (List (Nat×Nat)):=match P.underlying T with
 | some (.struct fs)=>fs.toList.mapM λf=>(P.info? f.type).map λi=>(f.offset,i.size)
 | _=>none
def Hs (pl:Nat->Option (Nat×Nat))(cs:List Value):List (Nat×Value)->Option (List Value)
 | []=>some cs
 | (i,v) :: r=>match pl i with
  | none=>none
  | some (off,size)=>if v.cells.size=size/\off+v.cells.size<=cs.length then Hs pl (Gw cs off v.cells.toList) r else none
def Xpv (off:Nat):∀(vs:List Value) (k:Nat) (cs:List Value),((vs.zipIdx k).foldl (λ(cs:Array Value) x=>cs.setIfInBounds (off+x.2) x.1) ⟨cs⟩)=⟨Gw cs (off+k) vs⟩:=by
 intro vs
 induction vs with
 | nil=>intro k cs;rfl
 | cons v r ih=>
  intro k cs;simp only [List.zipIdx_cons,BE,Gw];have e:(⟨cs⟩:Array Value).setIfInBounds (off+k) v=⟨cs.set (off+k) v⟩:=by simp
  rw[e,ih (k+1)];rfl
def RB : ∀(vs:List Value) (o:Nat) (cs:List Value),(Gw cs o vs).length=cs.length:=by
 intro vs
 induction vs with
 | nil=>intro o cs;rfl
 | cons v r ih=>intro o cs;simp [Gw,ih]
def RQ (pl:Nat->Option (Nat×Nat)):∀(ps:List (Nat×Value)) (zs cs:List Value),Hs pl zs ps=some cs->Instr.fill pl ⟨zs⟩ ps=some ⟨cs⟩:=by
 intro ps
 induction ps with
 | nil=>intro zs cs h;simp [Hs]at h;simp [Instr.fill,h]
 | cons p r ih=>
  intro zs cs h;obtain⟨i,v⟩:=p;simp only [Hs]at h
  cases hp:pl i with
  | none=>rw[hp]at h;cases h
  | some os=>
   obtain⟨off,size⟩:=os;rw[hp]at h;simp only []at h;split at h
   ·rename_i hc;have J:¬ ((decide (v.cells.size≠size) || decide (off+v.cells.size > (⟨zs⟩:Array Value).size))=true):=by
     have:(⟨zs⟩:Array Value).size=zs.length:=rfl;rw[this];simp;omega
    have e:(v.cells.zipIdx.foldl (λ(cs:Array Value) (x:Value×Nat)=>cs.setIfInBounds (off+x.2) x.1) ⟨zs⟩)=⟨Gw zs off v.cells.toList⟩:=by
     rw[<-Ep];have:=Xpv off v.cells.toList 0 zs;simpa using this
    simp only [Instr.fill,hp];rw[if_neg J];have z:=ih _ _ h;rw[<-e]at z;exact z
   ·cases h
def Ls (E:FF):List (Nat×Operand)->List (Nat×Value)->Prop
 | [],[]=>True
 | (i,x) :: r,(j,v) :: s=>i=j/\ev E x=v/\Ls E r s
 | _,_=>False
def Ls.map {E:FF} : ∀ {ps:List (Nat×Operand)} {pv:List (Nat×Value)},Ls E ps pv->ps.map (λp=>(p.1,ev E p.2))=pv
 | [],[],_=>rfl
 | [],_ :: _,h=>h.elim
 | _ :: _,[],h=>h.elim
 | (i,x) :: r,(j,v) :: s,h=>by
  obtain⟨h1,h2,h3⟩:=h;simp [h1,h2,Ls.map h3]
def Mh {ps:List (Nat×Operand)}{zs cs:List Value}{pl:List (Nat×Nat)}{pv:List (Nat×Value)}(hz:KX P T=some zs)(hp:Sq P T=some pl)(hv:Ls E ps pv)(hf:Hs (λi=>pl[i]?) zs pv=some cs):
  PV P ⟨dd,.build T ps.toArray,ty,pos,af,g⟩ E (.agg ⟨cs⟩):=λw=>by
 obtain⟨z,J,Y⟩:=Pb (P:=P) (w:=w) hz;have hm:=Ls.map hv;unfold Sq at hp
 cases hu:P.underlying T with
 | none=>rw[hu]at hp;cases hp
 | some u=>
  rw[hu]at hp
  cases u<;>simp only []at hp<;>try cases hp
  rename_i fs;have hc:∀(l:List Field) (pl:List (Nat×Nat)),(l.mapM λf=>(P.info? f.type).map λi=>(f.offset,i.size))=some pl->(l.mapM (λf=>(Functor.map (B4 f.offset) (sizeOf f.type):Sem (Nat×Nat)))).run P w=.ok pl w:=by
   intro l
   induction l with
   | nil=>intro pl h;simp at h;subst h;simp
   | cons f r ih=>
    intro pl h;simp only [DF,Option.bind_eq_bind,Di,Option.pure_def,Am.injEq]at h;obtain⟨x,hx,Z,ha,rfl⟩:=h;obtain⟨i,hi,rfl⟩:=Bp.1 hx;have O:=ih Z ha;rw[DF,Sem.run_bind];have e1:(Functor.map (B4 f.offset) (sizeOf f.type):Sem (Nat×Nat)).run P w=.ok (f.offset,i.size) w:=by simp [sizeOf,typeInfo,hi]
    rw[e1,Result.andThen_ok,Sem.run_bind,O];rfl
  have h1:(fs.mapM (λf=>(Functor.map (B4 f.offset) (sizeOf f.type):Sem (Nat×Nat)))).run P w=.ok pl.toArray w:=by
   rw[Array.mapM_eq_mapM_toList];simp [hc _ _ hp]
  have h2:=RQ (λi=>pl[i]?) pv zs cs hf;have e:(Array.map (λ(p:Nat×Operand)=>(p.1,ev E p.2)) ps.toArray).toList=pv:=by simpa using hm
  simp [execOp,Instr.build,J,Y,underlying,hu,h1,hm,h2]
def Hr (P:Program)(f:FuncId):Bool:=match P.funcs[f]? with
 | some fn => !(fn.name == "runtime.NumGoroutine") && fn.body.isSome
 | none=>false
variable {ats:Array TypeId}{az:List Operand}
def TU {f:Nat}{R1:Ending->World->Prop}(hg:FU ds E g=true)(hf:Hr P f=true)(ha:az.map (ev E)=vs)(hc:Calls P f vs.toArray w R1)(h:∀e w1,R1 e w1->∃v,e=.returned v/\(anc=false->R w w1)/\Dw P n ds R r K (FW E d v) w1):
  Dw P n ds R ((⟨some d,.call { callee:=.value (.func f),args:=az.toArray,argTypes:=ats },ty,pos,af,g⟩,.x,anc) :: r) K E w:=by
 refine Oa hg λok=>?_;unfold Hr at hf
 cases hp:P.funcs[f]? with
 | none=>rw[hp]at hf;simp at hf
 | some fn=>
  rw[hp]at hf;simp only [Aw,BW]at hf;obtain⟨h1,h2⟩:=hf;have h3:fn.body≠none:=by cases hb:fn.body<;>simp [hb]at h2 ⊢
  have h1' : fn.name ≠ "runtime.NumGoroutine" := by simpa using h1
  have hr:(execOp (ev E) ⟨some d,.call { callee:=.value (.func f),args:=az.toArray,argTypes:=ats },ty,pos,af,g⟩).run P w=.ok (.enter f vs.toArray) w:=by
   simp [execOp,resolve,ev,Deferred.ofValue,invoke,callFunc,program,Sem.run,hp,h1',h3,ha]
  unfold Oper.wp;rw[MY ok,hr];simp only [Oper.upon];refine Calls.mono hc λe w1 h1=>?_;obtain⟨v,rfl,hR,hd⟩:=h e w1 h1;exact⟨_,Jm _ _ _ _,hR,hd⟩
def Pure (w:World)(v:Value):Ending->World->Prop:=λe w'=>e=.returned v/\Fq w w'
def X6d {f:Nat}(hg:FU ds E g=true)(hf:Hr P f=true)(hc:Calls P f vs.toArray w (Pure w v))(ha:az.map (ev E)=vs)(hR:RX R anc)(h:∀w1,Fq w w1->Dw P n ds R r K (FW E d v) w1):
  Dw P n ds R ((⟨some d,.call { callee:=.value (.func f),args:=az.toArray,argTypes:=ats },ty,pos,af,g⟩,.x,anc) :: r) K E w:=
 TU hg hf ha hc λe w1 ⟨he,hx⟩=>⟨v,he,hR.use hx,h w1 hx⟩
def UH (hg:FU ds E g=true)(hv:LV P ⟨some d,op,ty,pos,af,g⟩ E w v)(h:Dw P n ds (λa b=>a=b) r K (FW E d v) w):Dw P n ds (λa b=>a=b) ((⟨some d,op,ty,pos,af,g⟩,.l,anc) :: r) K E w:=
 Gh hg (λw' e=>e▸hv) h
variable {fn:Func}{t:Nat}
def X6e {R:Ending->World->Prop}(hr:fn.results=#[.tmp t])(ht:AS t n=true)(hv:E t=v)(h:R (.returned v) w):JN P fn n R .ret E w:=by
 have z:t<n:=by simpa [Bm]using ht
 refine⟨v,?_,h⟩;simp [results,hr,H1,z,hv]
def X6f {s:Nat}{u:Value}{R:Ending->World->Prop}(hr:fn.results=#[.tmp t,.tmp s])(ht:AS t n=true)(hs:AS s n=true)(hv:E t=v)(hu:E s=u)(h:R (.returned (.tuple #[v,u])) w):JN P fn n R .ret E w:=by
 have J:t<n:=by simpa [Bm]using ht
 have z:s<n:=by simpa [Bm]using hs
 refine⟨.tuple #[v,u],?_,h⟩;simp [results,hr,H1,J,hv,z,hu]
def H6 {R:Ending->World->Prop}(hr:fn.results=#[])(h:R (.returned (.tuple #[])) w):JN P fn n R .ret E w:=by
 refine⟨.tuple #[],?_,h⟩;simp [results,hr]
def Ou {cs:List Value}{R:Ending->World->Prop}(hr:fn.results=#[.cell t T])(ht:AS t n=true)(hv:E t=Fh b 0)(hT:LQ P T=some k)(hl:cs.length=k)(hc:Jy w b 0 cs)(h:R (.returned (.agg ⟨cs⟩)) w):JN P fn n R .ret E w:=by
 have z:t<n:=by simpa [Bm]using ht
 have h1:=Qb (P:=P) (w:=w) (b:=b) (o:=0) cs 0 #[] (λj v J=>by rw[Ce];exact hc j v J);rw[hl]at h1;refine⟨.agg ⟨cs⟩,?_,h⟩;simp [results,hr,H1,z,hv,asAddr,loadVar,(MV hT).1,(MV hT).2,loadCells,h1]
def I5 {s:Nat}{u:Value}{cs:List Value}{R:Ending->World->Prop}(hr:fn.results=#[.cell t T,.tmp s])(ht:AS t n=true)(hs:AS s n=true)(hv:E t=Fh b 0)(hT:LQ P T=some k)(hl:cs.length=k)(hc:Jy w b 0 cs)(hu:E s=u)(h:R (.returned (.tuple #[.agg ⟨cs⟩,u])) w):JN P fn n R .ret E w:=by
 have J:t<n:=by simpa [Bm]using ht
 have z:s<n:=by simpa [Bm]using hs
 have h1:=Qb (P:=P) (w:=w) (b:=b) (o:=0) cs 0 #[] (λj v O=>by rw[Ce];exact hc j v O);rw[hl]at h1;refine⟨.tuple #[.agg ⟨cs⟩,u],?_,h⟩;simp [results,hr,H1,J,z,hv,hu,asAddr,loadVar,(MV hT).1,(MV hT).2,loadCells,h1]
def Ig {R:Ending->World->Prop}(h:JN P fn n R .ret E w):JN P fn n R .normal E w:=h
variable {Q:Exit->FF->World->Prop}{y:Code}
def GP {x:Code}{G:Type}(sl:G->List (Nat×Value))(F:G->World->Prop)(hx:W P n x (Ix (λE w=>∃g,holds (sl g) E/\F g w) Q) E w)(hy:∀(X:FF) (g:G) (w:World),F g w->W P n y Q (MN (sl g) X) w):W P n (.seq x y) Q E w:=by
 refine XC λK O=>V3 hx ?_;intro e E w h
 cases e<;>first|exact h|skip
 obtain⟨g,z,J⟩:=h;refine O _ _ ?_;have:=hy E g w J;rwa [Te z]at this
def GU {c:Operand}{x:Code}(hc:ev E c=.bool true)(h:W P n x Q E w):W P n (.cond c x y) Q E w:=Ov hc (λ_=>h) (λh=>by cases h)
def GS {c:Operand}{x:Code}(hc:ev E c=.bool false)(h:W P n y Q E w):W P n (.cond c x y) Q E w:=Ov hc (λh=>by cases h) (λ_=>h)
end
structure Own {α:Type}(enc:α->List Value)(sz T:Nat)(B:Nat)(w:World)(v:Value)(l:List α):Prop where
 row:w.ownsRow B T sz v l.length (l.flatMap enc)
section
variable {α:Type}{enc:α->List Value}{sz T B:Nat}{w w':World}{v:Value}{l:List α}
def Own.nil : Own enc sz T B w (.slice none 0 0) []:=⟨World.ownsRow_nil w B T sz⟩
def Own.lt (h:Own enc sz T B w v l):∀k,v.ownBlock=some k->B<=k/\k<w.heap.size:=h.row.lt
def Own.mod {S:Nat->Prop}(h:Own enc sz T B w v l)(m:Mod S w w')(hS:∀k,v.ownBlock=some k->¬ S k):Own enc sz T B w' v l:=by
 obtain⟨h1,h2⟩:=h.row;refine⟨h1,?_⟩;rcases h2 with h2|⟨g,cap,cur,hv,hg,hh,r⟩
 ·exact Or.inl h2
 ·have hb:g<w.heap.size:=(h.lt g (by rw[hv];rfl)).2;exact Or.inr ⟨g,cap,cur,hv,hg,by rw[m.block g hb (hS g (by rw[hv];rfl))];exact hh,r⟩
def Own.ext (h:Own enc sz T B w v l)(m:Fq w w'):Own enc sz T B w' v l:=h.mod m (λ_ _ h=>h)
def Own.mono {B':Nat}(h:Own enc sz T B w v l)(hB:B'<=B):Own enc sz T B' w v l:=by
 obtain⟨h1,h2⟩:=h.row;refine⟨h1,?_⟩;rcases h2 with h2|⟨g,cap,cur,hv,hg,r⟩
 ·exact Or.inl h2
 ·exact Or.inr ⟨g,cap,cur,hv,Ae hB hg,r⟩
def Own.sl (h:Own enc sz T B w v l):Gq v l.length:=by
 obtain⟨_,h2⟩:=h.row;rcases h2 with⟨h2,h3⟩|⟨g,cap,cur,hv,hg,hh,hn,_⟩
 ·exact .inl ⟨h2,h3⟩
 ·exact .inr (.inl ⟨g,0,cap,hv,hn⟩)
def Re (henc:∀x,(enc x).length=sz):∀(l:List α) (i:Nat) (x:α),l[i]?=some x->∀j u,(enc x)[j]?=some u->(l.flatMap enc)[i*sz+j]?=some u:=by
 intro l
 induction l with
 | nil=>intro i x h;simp at h
 | cons y r ih=>
  intro i x h j u z;rw[AA]
  cases i with
  | zero=>
   simp at h;subst h;rw[Cw,A5,B5]
   ·exact z
   ·exact(Ar.1 z).1
  | succ i=>
   have h':r[i]?=some x:=by simpa using h
   rw[BM (by rw[henc,Be];omega),henc];rw[show(i+1)*sz+j-sz=i*sz+j by rw[Be];omega];exact ih i x h' j u z
def Own.arr (henc:∀x,(enc x).length=sz)(h:Own enc sz T B w v l):Fu enc sz w v l:=by
 refine⟨by rw[Au];exact h.sl,λi cs hi=>?_⟩;rw[AH]at hi
 cases hx:l[i]? with
 | none=>rw[hx]at hi;cases hi
 | some x=>
  rw[hx]at hi;simp only [Cm,Am.injEq]at hi;subst hi;refine⟨henc x,λj u J=>?_⟩;obtain⟨_,h2⟩:=h.row;rcases h2 with⟨rfl,h3⟩|⟨g,cap,cur,rfl,hg,hh,hn,_⟩
  ·have:=A0 h3;subst this;simp at hx
  ·have z:=h.row.cells (g:=g) rfl (i*sz+j) u (Re henc l i x hx j u J);have O:(⟨g,0,none⟩:Addr).add (i*sz+j)=⟨g,0+i*sz+j,none⟩:=by
    unfold Addr.add;split
    ·rename_i e;have h0:i*sz=0/\j=0:=by omega
     rw[h0.1,h0.2]
    ·simp [BV]
   rw[O]at z;simpa [base]using z
end
def Gq.one {v:Value}(h:Gq v n):v.oneCell'=true:=by
 rcases h with⟨rfl,_⟩|⟨b,o,c,rfl,_⟩|⟨_,a,c,rfl⟩<;>rfl
def Gq.cells {v:Value}(h:Gq v n):v.cells=⟨[v]⟩:=by
 rcases h with⟨rfl,_⟩|⟨b,o,c,rfl,_⟩|⟨_,a,c,rfl⟩<;>rfl
def Xvk {v:Value}(h:v.oneCell'=true):v.cells=⟨[v]⟩:=by
 cases v<;>first|rfl|cases h
variable {α:Type}{l:List α}
def Own.base_ge {enc:α->List Value}{sz T B:Nat}{v:Value}(h:Own enc sz T B w v l)(hl:l≠[]):B<=(base v).1/\(base v).1<w.heap.size:=by
 rcases h.sl with⟨_,hn⟩|⟨b,o,c,rfl,_⟩|⟨hn,_⟩
 ·exact absurd (A0 hn) hl
 ·exact h.lt b rfl
 ·exact absurd (A0 hn) hl
def Im (D:Nat):Nat->Prop:=λk=>D<=k
def Far.refl (D:Nat)(w:World):Mod (Im D) w w:=Mod.refl _ _
variable {D:Nat}
def Far.trans (a b c:World)(h:Mod (Im D) a b)(k:Mod (Im D) b c):Mod (Im D) a c:=Mod.trans h k (λ_ h=>h) (λ_ h _=>h)
def Far.of_ext {b:World}(h:Fq a b):Mod (Im D) a b:=h.mono (λ_ h _=>h.elim)
def RX.far {anc:Bool}: RX (Mod (Im D)) anc:=.inr λ_ _ h=>Far.of_ext h
def Fp.far {T:Nat}{cs:List Value}(h:Fp w b cs T)(m:Mod (Im w.heap.size) w w'):Fp w' b cs T:=h.mod m (λg=>by have:=h.lt;unfold Im at g;omega)
def Fu.far {enc:α->List Value}{sz:Nat}{v:Value}(h:Fu enc sz w v l)(hsz:0<sz)(m:Mod (Im w.heap.size) w w'):Fu enc sz w' v l:=h.mod m (λz g=>by
 cases l with
 | nil=>exact z rfl
 | cons x r=>have:=h.blk hsz (x:=x) rfl;unfold Im at g;omega)
def Far.own {enc:α->List Value}{sz T B:Nat}{v:Value}(h:Own enc sz T B w v l)(hD:D<=B):∀w',Mod (λk=>v.ownBlock=some k) w w'->Mod (Im D) w w':=λw' m=>m.mono (λi hi _=>by have:=(h.lt i hi).1;unfold Im;omega)
def M4 (P:Program)(e sz by':Nat):Bool:=match P.info? e with
 | some i=>i.size == sz && i.bytes == by' && AS 0 sz && (match i.zero with|some z=>z.cells.size == sz|none=>false)
 | none=>false
def PE {P:Program}{e sz by':Nat}(h:M4 P e sz by'=true):∃i z,P.info? e=some i/\i.zero=some z/\i.size=sz/\i.bytes=by'/\z.cells.size=sz/\0<sz:=by
 unfold M4 at h
 cases hi:P.info? e with
 | none=>rw[hi]at h;cases h
 | some i=>
  rw[hi]at h;simp only [Aw,beq_iff_eq]at h;obtain⟨⟨⟨h1,h2⟩,h3⟩,h4⟩:=h
  cases hz:i.zero with
  | none=>rw[hz]at h4;cases h4
  | some z=>rw[hz]at h4;exact⟨i,z,rfl,hz,h1,h2,by simpa using h4,by simpa [Bm]using h3⟩
section
variable {P:Program}{n:Nat}{ds:List (Option Tmp)}{R:World->World->Prop}{r:List (Oper×Fl×Bool)}{K:FF->World->Prop}{E:FF}{w:World}
variable {d:Nat}{op:Op}{ty:TypeId}{pos:String}{af:Array Edge}{g:Option (Nat×Bool)}{anc:Bool}{v:Value}
variable {α:Type}{l:List α}
def Q2 {enc:α->List Value}(h:∀x∈l,∀u∈enc x,u.oneCell'=true):∀u∈l.flatMap enc,u.oneCell'=true:=by
 intro u hu;obtain⟨x,J,z⟩:=List.mem_flatMap.1 hu;exact h x J u z
def FG {enc:α->List Value}{sz:Nat}(henc:∀x,(enc x).length=sz):∀l:List α,(l.flatMap enc).length=l.length*sz:=by
 intro l
 induction l with
 | nil=>simp
 | cons x r ih=>simp [AA,ih,henc,Be];omega
def Fu.flat {enc:α->List Value}{sz:Nat}(henc:∀x,(enc x).length=sz)(h:Fu enc sz w v l):∀j u,(l.flatMap enc)[j]?=some u->w.cell? ⟨(base v).1,(base v).2+j,none⟩=some u:=by
 intro j u J
 by_cases hsz:sz=0
 ·have O:=FG henc l;rw[hsz,Nat.mul_zero]at O;rw[A0 O]at J;simp at J
 have z:=(Ar.1 J).1;rw[FG henc]at z;have hq:j / sz<l.length:=DG (by rw[B6];exact z);have Z:l[j / sz]?=some l[j / sz]:=Aq hq;have Y:j % sz<(enc l[j / sz]).length:=by rw[henc];exact Bf _ Fe
 have e:j / sz*sz+j % sz=j:=by rw[B6];exact Er j sz
 have h1:=Re henc l _ _ Z (j % sz) (enc l[j / sz])[j % sz] (Aq Y);rw[e,J]at h1;have h2:=h.row Z (j % sz) _ (Aq Y);rw[show(base v).2+j / sz*sz+j % sz=(base v).2+j by omega]at h2;rw[h2,h1]
variable {e t:Nat}{x:Operand}
def Ip {enc:α->List Value}{s:Operand}{sz by' B:Nat}{vx:Value}{lx:List α}(hg:FU ds E g=true)(ht:IS P t=some (e,sz))(hE:M4 P e sz by'=true)(henc:∀x,(enc x).length=sz)(hown:Own enc sz e B w v l)(hax:Fu enc sz w vx lx)(hs:ev E s=v)(hx:ev E x=vx)(h1:∀x∈lx,∀u∈enc x,u.oneCell'=true)(hbytes:(l.length+lx.length)*by'<=140737488355328)(hby:1<=by')(hB:B<=w.heap.size)(hR:anc=true\/∀w',Mod (λk=>v.ownBlock=some k) w w'->R w w')(h:∀v' w',Own enc sz e B w' v' (l++lx)->Mod (λk=>v.ownBlock=some k) w w'->Dw P n ds R r K (FW E d v') w'):
  Dw P n ds R ((⟨some d,.call { callee:=.builtin .append,args:=#[s,x],argTypes:=#[t,t] },ty,pos,af,g⟩,.x,anc) :: r) K E w:=by
 obtain⟨hu,_⟩:=KY ht;obtain⟨i,z,hi,hz,J,O,hl,hh⟩:=PE hE;have hp:l.length+lx.length<=maxLen:=by
  unfold maxLen;have:(l.length+lx.length)*1<=(l.length+lx.length)*by':=CB _ hby;omega
 have Z:∀w',Mod (λk=>v.ownBlock=some k) w w'->anc=false->R w w':=λw' hm e=>hR.elim (λh=>by rw[h]at e;cases e) (λh=>h _ hm);rcases hax.sl with⟨rfl,hl0⟩|⟨b,o,c,rfl,hc⟩|⟨hl0,⟨b,o,s0⟩,c,rfl⟩
 ·-- nothing is appended
  have Y:=A0 hl0;subst Y;have hf:(Builtin.append_ #[t,t] ty #[v,.slice none 0 0]).run P w=.ok v w:=by
   rcases hown.sl with⟨rfl,hn⟩|⟨b,o,c,rfl,hn⟩|⟨hn,a,c,rfl⟩
   ·simp [Builtin.append_,run_underlying hu,sizeOf,typeInfo,hi,Builtin.lenOf,Builtin.firstCells]
   ·simp [Builtin.append_,run_underlying hu,sizeOf,typeInfo,hi,Builtin.lenOf,Builtin.firstCells,hn,storeCells]
   ·simp [Builtin.append_,run_underlying hu,sizeOf,typeInfo,hi,Builtin.lenOf,Builtin.firstCells,hn,storeCells]
  refine IA (w':=w) (v:=v) hg ?_ (Z _ (Mod.refl _ _)) (h v w (by simpa using hown) (Mod.refl _ _));simp only [execOp,resolve,invoke,builtin,Sem.run_bind,Sem.run_pure,Result.andThen_ok,Cf,Ak,Bg,hs,hx,hf]
 ·obtain⟨v',w',hr,h2,h3,h4⟩:=run_append_own (P:=P) w B t ty e i z sz by' hu hi hz J O hl hh v l.length (l.flatMap enc) hown.row ⟨b,o,none⟩ lx.length c (lx.flatMap enc) (FG henc lx)
   (λj u hj=>by
    have:=Fu.flat henc hax j u hj;have ha:(⟨b,o,none⟩:Addr).add j=⟨b,o+j,none⟩:=by
     unfold Addr.add;split
     ·rename_i e;simp [e]
     ·rfl
    rw[ha];exact this) (Q2 h1) hp hbytes hB
  refine IA (w':=w') (v:=v') hg ?_ (Z _ ?_) (h v' w' ⟨by rw[Ad,Bc];exact h2⟩ ?_)
  ·simp only [execOp,resolve,invoke,builtin,Sem.run_bind,Sem.run_pure,Result.andThen_ok,Cf,Ak,Bg,hs,hx,hr]
  ·exact Mod.of_grown h3
  ·exact Mod.of_grown h3
 ·have Y:=A0 hl0;subst Y;obtain⟨v',w',hr,h2,h3,h4⟩:=run_append_own (P:=P) w B t ty e i z sz by' hu hi hz J O hl hh v l.length (l.flatMap enc) hown.row ⟨b,o,s0⟩ 0 c [] F0 (λj u hj=>by simp at hj) (λu hu=>by cases hu) hp hbytes hB;refine IA (w':=w') (v:=v') hg ?_ (Z _ (Mod.of_grown h3)) (h v' w' ⟨by rw[Ad,Bc];exact h2⟩ (Mod.of_grown h3));simp only [execOp,resolve,invoke,builtin,Sem.run_bind,Sem.run_pure,Result.andThen_ok,Cf,Ak,Bg,hs,hx,hr]
def X08 (zs:List Value)(sz:Nat)(hz:zs.length=sz)(hp:0<sz):∀(m j:Nat),j<m*sz->((Ap m zs).flatten)[j]?=zs[j % sz]?:=by
 intro m
 induction m with
 | zero=>intro j h;omega
 | succ m ih=>
  intro j h;rw[CS,Cn]
  by_cases hj:j<sz
  ·rw[B5 Fe,Bv hj]
  ·rw[BM Fe,hz,ih (j-sz) (by rw[Be]at h;omega)];rw[show j % sz=(j-sz) % sz from(Nat.mod_eq_sub_mod Fe)]
def Tx (zs:List Value)(sz m:Nat)(hz:zs.length=sz)(hp:0<sz):(Es (m*sz)).map (λx=>(⟨zs⟩:Array Value)[x % (⟨zs⟩:Array Value).size]!)=⟨(Ap m zs).flatten⟩:=by
 apply Eo
 apply BF
 intro j
 by_cases hj:j<m*sz
 ·rw[X08 zs sz hz hp m j hj];have z:j % sz<zs.length:=by rw[hz];exact Bf _ hp
  have hs:(⟨zs⟩:Array Value).size=sz:=hz;simp [hj,hs];rw[Aq z];rfl
 ·have h2:((Ap m zs).flatten).length=m*sz:=by simp [hz]
  rw[Bi Gx,Bi (by rw[h2];omega)]
variable {m:Nat}{zs:List Value}
def It {sz:Nat}{ps:List (Nat×Operand)}{cs:List Value}{pv:List (Nat×Value)}(hg:FU ds E g=true)(ht:IS P t=some (e,sz))(hm:AS 0 (m*sz)=true/\B7 (m*sz) 16777216=true)(hz:KX P e=some zs)(hzs:AM zs.length sz=true)(hv:Ls E ps pv)(hf:Hs (λi=>some (i*sz,sz)) ((Ap m zs).flatten) pv=some cs)(hR:RX R anc)(h:∀b w1,b=w.heap.size->Fq w w1->Fp w1 b cs e->Dw P n ds R r K (FW E d (.slice (some ⟨b,0,none⟩) m m)) w1):
  Dw P n ds R ((⟨some d,.buildSlice t m ps.toArray,ty,pos,af,g⟩,.x,anc) :: r) K E w:=by
 obtain⟨hu,i,hi,hs⟩:=KY ht;have O:=Ls.map hv;have h0:0<m*sz:=by simpa [Bm]using hm.1
 have hm':m*sz<=16777216:=by simpa [C7]using hm.2
 have J:zs.length=sz:=C6 hzs;have hc:0<sz:=Nat.pos_of_ne_zero (λe=>by rw[e]at h0;omega);obtain⟨z,Y,Z⟩:=Pb (P:=P) (w:=w) hz;refine IA (v:=.slice (some ⟨w.heap.size,0,none⟩) m m) (w':=w.alloc (.cells ⟨cs⟩ e)) hg ?_ (hR.use (Fq.alloc _ _)) (h _ _ rfl (Fq.alloc _ _) ?_)
 ·have h2:=RQ _ pv _ cs hf;have hb:¬ (m*sz > 2 ^ 24):=by omega
  have ha:¬ (m*sz=0):=by omega
  have e1:(Instr.buildSlice t m ⟨pv⟩).run P w=.ok (.slice (some ⟨w.heap.size,0,none⟩) m m) (w.alloc (.cells ⟨cs⟩ e)):=by
   unfold Instr.buildSlice;simp only [underlying,Sem.run_bind,run_program,Result.andThen_ok,hu,Sem.run_pure,sizeOf,typeInfo,hi,hs];rw[if_neg hb,if_neg ha];simp only [Sem.run_bind,Sem.run_pure,Result.andThen_ok,Y,Z];rw[Tx zs sz m J hc,h2];simp [newRow]
  have e2:(ps.toArray.map λ(i,x)=>(i,ev E x))=⟨pv⟩:=by
   rw[<-O];simp
  simp only [execOp];rw[e2];simp only [Sem.run_bind,e1,Result.andThen_ok,Sem.run_pure]
 ·show(w.heap.push _)[w.heap.size]?=_;simp
def Jx {sz:Nat}(hg:FU ds E g=true)(ht:IS P t=some (e,sz))(hR:RX R anc)(h:∀b w1,b=w.heap.size->Fq w w1->Fp w1 b [] e->Dw P n ds R r K (FW E d (.slice (some ⟨b,0,none⟩) 0 0)) w1):
  Dw P n ds R ((⟨some d,.buildSlice t 0 #[],ty,pos,af,g⟩,.x,anc) :: r) K E w:=by
 obtain⟨hu,i,hi,hs⟩:=KY ht;refine IA (v:=.slice (some ⟨w.heap.size,0,none⟩) 0 0) (w':=w.alloc (.cells ⟨[]⟩ e)) hg ?_ (hR.use (Fq.alloc _ _)) (h _ _ rfl (Fq.alloc _ _) ?_)
 ·have z:(Array.map (λx=>(default:Value)) (Es 0))=⟨[]⟩:=by simp
  simp [execOp,Instr.buildSlice,underlying,hu,sizeOf,typeInfo,hi,Instr.fill,newRow,z]
 ·show(w.heap.push _)[w.heap.size]?=_;simp
variable {y:Operand}
def Mu {sz by':Nat}(hg:FU ds E g=true)(ht:IS P t=some (e,sz))(hE:M4 P e sz by'=true)(hz:KX P e=some zs)(hx:ev E x=I m)(hy:ev E y=I m)(hb:by'*m<=281474976710656)(hb1:m<=4611686018427387904)(hR:RX R anc)(h:∀b w1,b=w.heap.size->Fq w w1->Fp w1 b ((Ap m zs).flatten) e->Dw P n ds R r K (FW E d (.slice (some ⟨b,0,none⟩) m m)) w1):
  Dw P n ds R ((⟨some d,.makeSlice t x y,ty,pos,af,g⟩,.x,anc) :: r) K E w:=by
 obtain⟨hu,_⟩:=KY ht;obtain⟨i,z,hi,Z,J,hf,Y,hh⟩:=PE hE;have O:z.cells=⟨zs⟩:=by
  unfold KX at hz;simp only [hi,Cu,Z,Cm,Am.injEq]at hz;rw[<-hz]
 have hc:zs.length=sz:=by rw[O]at Y;exact Y
 have ha:(i.bytes:Int)*(m:Int)<=281474976710656:=by
  rw[hf];have h:((by'*m:Nat):Int)<=281474976710656:=by omega
  rwa [DH]at h
 have hr:=run_make (P:=P) w t e i z hu hi Z .i64 .i64 m m Fe (Int.le_refl _) ha Fe;simp only [BU]at hr;have e0:madeCells z.cells (m*i.size)=⟨(Ap m zs).flatten⟩:=by
  rw[O,J,<-Tx zs sz m hc hh];rfl
 rw[e0]at hr;refine IA (v:=.slice (some ⟨w.heap.size,0,none⟩) m m) (w':=w.alloc (.cells ⟨(Ap m zs).flatten⟩ e)) hg ?_ (hR.use (Fq.alloc _ _)) (h _ _ rfl (Fq.alloc _ _) ?_)
 ·simp [execOp,hx,hy,hr]
 ·show(w.heap.push _)[w.heap.size]?=_;simp
def Fp.own {enc:α->List Value}{sz T b B:Nat}{cs:List Value}(h:Fp w b cs T)(hB:B<=b)(hcs:cs=l.flatMap enc)(henc:∀x,(enc x).length=sz)(hm:m=l.length)(hl:l.length<=4611686018427387904):Own enc sz T B w (.slice (some ⟨b,0,none⟩) m m) l:=by
 subst hcs;subst hm;refine⟨FG henc l,.inr ⟨b,l.length,⟨l.flatMap enc⟩,rfl,hB,h,Aa _,by unfold maxLen;omega,FG henc l,?_⟩⟩;show(l.flatMap enc).take (l.length*sz)=_;rw[<-FG henc l,AT]
def Fp.arr {enc:α->List Value}{sz T b:Nat}{cs:List Value}(h:Fp w b cs T)(hcs:cs=l.flatMap enc)(henc:∀x,(enc x).length=sz)(hm:m=l.length)(hl:l.length<=4611686018427387904):Fu enc sz w (.slice (some ⟨b,0,none⟩) m m) l:=
 (h.own (Ab _) hcs henc hm hl).arr henc
def Kc {a:Operand}{T T' b o:Nat}{cs:List Value}(hg:FU ds E g=true)(ha:ev E a=Fh b o)(hx:ev E x=v)(hv:v.oneCell'=true)(hs:My P T=some 1)(hb:Fp w b cs T')(ho:o<cs.length)(hR:anc=true\/∀w',Mod (Fv b) w w'->R w w')(h:∀w1,Mod (Fv b) w w1->w1.heap.size=w.heap.size->Fp w1 b (cs.set o v) T'->Dw P n ds R r K E w1):Dw P n ds R ((⟨none,.store T a x,ty,pos,af,g⟩,.x,anc) :: r) K E w:=
 Pk (vs:=[v]) hg ha hx (Xvk hv) hs hb Gx (by intro u hu;simp at hu;rw[hu];exact hv) hR h
def Hg (k:Nat)(v:Value)(lo hi:Nat):Value:=match v with
 | .slice (some a) _ c=>.slice (some (if c=lo then a else a.add (lo*k))) (hi-lo) (c-lo)
 | _=>.slice none 0 0
variable {dd:Option Tmp}
def HH {lo hi:Option Operand}{T a b k:Nat}(hT:IS P T=some (e,k))(hv:Gq v m)(hx:ev E x=v)(hlo:Nf E 0 lo a)(hhi:Nf E m hi b)(h1:a<=b)(h2:b<=m):PV P ⟨dd,.slice T x lo hi none,ty,pos,af,g⟩ E (Hg k v a b):=λw=>by
 obtain⟨hu,i,O,hs⟩:=KY hT;rcases hv with⟨rfl,rfl⟩|⟨bb,o,c,rfl,hc⟩|⟨rfl,ad,c,rfl⟩
 ·have Z:b=0:=by omega
  have Y:a=0:=by omega
  subst Z;subst Y;have z:(0:Int)<=((0:Nat):Int)/\((0:Nat):Int)<=((0:Nat):Int):=by omega
  have key:(Instr.sliceBounds true 0 0 (lo.map (ev E)) (hi.map (ev E)) none).run P w=.ok (0,0,0) w:=by
   unfold Nf at hlo hhi
   cases lo<;>cases hi<;>simp only []at hlo hhi<;>simp only [Dj,Instr.sliceBounds,Sem.run_bind,Sem.run_pure,Result.andThen_ok, *] <;>
    simp only [N8 z,Result.andThen_ok,BU]<;>rfl
  have e1:(Instr.sliceAt T (.slice none 0 0) (lo.map (ev E)) (hi.map (ev E)) none).run P w=.ok (Hg k (.slice none 0 0) 0 0) w:=by
   simp [Instr.sliceAt,Instr.slice,underlying,hu,key,sizeOf,typeInfo,O,Hg]
  simp only [execOp,hx,Dk,Sem.run_bind,e1];rfl
 ·have z:(0:Int)<=(b:Int)/\(b:Int)<=(c:Int):=by omega
  have J:(0:Int)<=(a:Int)/\(a:Int)<=(b:Int):=by omega
  have key:(Instr.sliceBounds true m c (lo.map (ev E)) (hi.map (ev E)) none).run P w=.ok (a,b,c) w:=by
   unfold Nf at hlo hhi
   cases lo<;>cases hi<;>simp only []at hlo hhi<;>subst_vars<;>simp only [Dj,Instr.sliceBounds,Sem.run_bind,Sem.run_pure,Result.andThen_ok, *] <;>
    simp only [N8 z,N8 J,Result.andThen_ok,BU]<;>rfl
  have ha:∀q,(⟨bb,o,none⟩:Addr).add q=⟨bb,o+q,none⟩:=λq=>by
   unfold Addr.add;split
   ·rename_i e;simp [e]
   ·rfl
  have e1:(Instr.sliceAt T (.slice (some ⟨bb,o,none⟩) m c) (lo.map (ev E)) (hi.map (ev E)) none).run P w=.ok (Hg k (.slice (some ⟨bb,o,none⟩) m c) a b) w:=by
   simp [Instr.sliceAt,Instr.slice,underlying,hu,key,sizeOf,typeInfo,O,hs,Hg,ha];split<;>rfl
  simp only [execOp,hx,Dk,Sem.run_bind,e1];rfl
 ·have Z:b=0:=by omega
  have Y:a=0:=by omega
  subst Z;subst Y;have z:(0:Int)<=((0:Nat):Int)/\((0:Nat):Int)<=(c:Int):=by omega
  have J:(0:Int)<=((0:Nat):Int)/\((0:Nat):Int)<=((0:Nat):Int):=by omega
  have key:(Instr.sliceBounds true 0 c (lo.map (ev E)) (hi.map (ev E)) none).run P w=.ok (0,0,c) w:=by
   unfold Nf at hlo hhi
   cases lo<;>cases hi<;>simp only []at hlo hhi<;>simp only [Dj,Instr.sliceBounds,Sem.run_bind,Sem.run_pure,Result.andThen_ok, *] <;>
    simp only [N8 z,N8 J,Result.andThen_ok,BU]<;>rfl
  have e1:(Instr.sliceAt T (.slice (some ad) 0 c) (lo.map (ev E)) (hi.map (ev E)) none).run P w=.ok (Hg k (.slice (some ad) 0 c) 0 0) w:=by
   simp [Instr.sliceAt,Instr.slice,underlying,hu,key,sizeOf,typeInfo,O,hs,Hg];split<;>rfl
  simp only [execOp,hx,Dk,Sem.run_bind,e1];rfl
def Fu.slice {enc:α->List Value}{k lo hi:Nat}(h:Fu enc k w v l)(h1:lo<=hi)(h2:hi<=l.length):Fu enc k w (Hg k v lo hi) ((l.take hi).drop lo):=by
 have J:∀b o q,(⟨b,o,none⟩:Addr).add q=⟨b,o+q,none⟩:=λb o q=>by
  unfold Addr.add;split
  ·rename_i e;simp [e]
  ·rfl
 rcases h.sl with⟨rfl,hl⟩|⟨b,o,c,rfl,hc⟩|⟨hl,a,c,rfl⟩
 ·have:=A0 hl;subst this;simp [Hg];exact Fu.nil
 rotate_left
 ·have:=A0 hl;subst this;have h3:hi=0:=by simpa using h2
  have h4:lo=0:=by omega
  subst h3;subst h4;exact⟨.inr (.inr ⟨rfl,_,_,rfl⟩),λi cs z=>by simp at z⟩
 ·refine⟨.inr (.inl ⟨b,(if c=lo then o else o+lo*k),c-lo,?_,?_⟩),λi cs z=>?_⟩
  ·simp only [Hg,Au,List.length_drop,AE,J];rw[show min hi l.length=hi by omega]
   congr 2
   split<;>rfl
  ·simp;omega
  ·rw[AH,B3,AX]at z;split at z
   ·rename_i hlt;have h3:=h.at' (lo+i) cs (by rw[AH];exact z);refine⟨h3.1,?_⟩;have O:¬ c=lo:=by omega
    have hb:base (Hg k (.slice (some ⟨b,o,none⟩) l.length c) lo hi)=(b,o+lo*k):=by simp [Hg,O,base,J]
    rw[hb];have h4:=h3.2;simp only [base]at h4 ⊢;rw[show o+lo*k+i*k=o+(lo+i)*k by rw[Cx];omega];exact h4
   ·cases z
@[reducible] def Fs (c:UInt8):List Value:=[.int .u8 c.toNat]
@[reducible] def GF (s:Fj):List Value:=[S s]
@[reducible] def encI (n:Int):List Value:=[I n]
def ON (P:Program)(T:TypeId):Bool:=match P.underlying T with
 | some (.slice e)=>(match P.underlying e with|some (.int .u8)=>true|_=>false)
 | _=>false
def Xkz (f:Value->ByteArray->Sem (ForInStep ByteArray))(hf:∀(c:UInt8) (s:ByteArray),(f (.int .u8 c.toNat) s).run P w=.ok (.yield (s.push c)) w) :
  ∀(l:Fj) (s:ByteArray),(forIn (l.map λc=>Value.int .u8 c.toNat) s f).run P w=.ok ⟨⟨s.data.toList++l⟩⟩ w:=by
 intro l
 induction l with
 | nil=>intro s;simp
 | cons c r ih=>
  intro s;simp only [Ak,List.forIn_cons,Sem.run_bind,hf,Result.andThen_ok];rw[ih]
  congr 1
  simp [ByteArray.push]
def Nz {T U:Nat}{l:Fj}(hT:ON P T=true)(hU:Kr P U=true)(ha:Fu Fs 1 w v l)(hx:ev E x=v):LV P ⟨dd,.convert T U x,ty,pos,af,g⟩ E w (S l):=by
 have O:P.underlying U=some .string:=by
  unfold Kr at hU;split at hU<;>first|assumption|cases hU
 obtain⟨e,hTe,hee⟩:∃e,P.underlying T=some (.slice e)/\P.underlying e=some (.int .u8):=by
  unfold ON at hT;split at hT
  ·rename_i e he;split at hT
   ·rename_i h;exact⟨e,he,h⟩
   ·cases hT
  ·cases hT
 have key:(Conv.bytesToString v).run P w=.ok (S l) w:=by
  rcases ha.sl with⟨rfl,hl⟩|⟨b,o,c,rfl,Y⟩|⟨hl,a,c,rfl⟩
  ·have:=A0 hl;subst this;simp [Conv.bytesToString];rfl
  rotate_left
  ·have:=A0 hl;subst this;simp [Conv.bytesToString,loadCells,loadCellsFrom];rfl
  ·have z:=Qb (P:=P) (w:=w) (b:=b) (o:=o) (l.map λc=>Value.int .u8 c.toNat) 0 #[] (λj u J=>by
    rw[AH]at J
    cases hx:l[j]? with
    | none=>rw[hx]at J;cases J
    | some y=>
     rw[hx]at J;have:=ha.row hx 0 _ rfl;simp only [base,DK,Ce]at this ⊢;simp only [Cm,Am.injEq]at J;rw[this,J])
   rw[Au]at z;unfold Conv.bytesToString;simp only [loadCells,Sem.run_bind,z,Result.andThen_ok];rw[<-Array.forIn_toList];simp only [Array.toList_append,AG];have e0:(#[]:Array Value).toList++(List.map (λc:UInt8=>Value.int .u8 c.toNat) l).toArray.toList=l.map λc=>Value.int .u8 c.toNat:=by simp
   rw[Xkz _ (λc s=>by simp)];rfl
 unfold LV;have Y:(convert T U v).run P w=.ok (S l) w:=by
  rcases ha.sl with⟨rfl,_⟩|⟨b,o,c,rfl,_⟩|⟨_,a,c,rfl⟩<;>simp [convert,underlying,hTe,O,hee,key]
 simp only [execOp,hx,Sem.run_bind,Y,Result.andThen_ok,Sem.run_pure]
def X90 (P:Program)(T:TypeId):Bool:=match P.underlying T with|some .string|some .bool|some (.int _)=>true|_=>false
def Rk (P:Program)(T:TypeId):Option (List TypeId):=match P.underlying T with
 | some (.struct fs)=>if P.stoodInHeld T || P.eqGuardType P.depth T then none else
  if (fs.toList.zipIdx.all λ (f, i) => f.name != "_" && f.offset == i && X90 P f.type) then some (fs.toList.map (·.type)) else none
 | _=>none
def Lt : List Value->List Value->Bool
 | .string a :: r,.string b :: s=>a.toList == b.toList && Lt r s
 | .bool a :: r,.bool b :: s=>a == b && Lt r s
 | .int _ a :: r,.int _ b :: s=>a == b && Lt r s
 | _,_=>true
def MH (P:Program):List TypeId->List Value->Prop
 | [],[]=>True
 | t :: r,.string _ :: s=>P.underlying t=some .string/\MH P r s
 | t :: r,.bool _ :: s=>P.underlying t=some .bool/\MH P r s
 | t :: r,.int k _ :: s=>P.underlying t=some (.int k)/\MH P r s
 | _,_=>False
def Xt6 (d : Nat) (cs ds : List Value) : ∀ (fs : List Field) (k : Nat), (∀ j f, fs[j]? = some f → (f.name ≠ "_" ∧ f.offset = k + j)) → MH P (fs.map (·.type)) (cs.drop k) → MH P (fs.map (·.type)) (ds.drop k) →
  (Op.eqFields (d+1) ⟨cs⟩ ⟨ds⟩ fs).run P w=.ok (Lt (cs.drop k) (ds.drop k)) w:=by
 intro fs
 induction fs with
 | nil=>
  intro k _ h1 h2
  cases hc:cs.drop k with
  | nil=>cases hd:ds.drop k with
   | nil=>simp [Op.eqFields,Lt]
   | cons y s=>rw[hd]at h2;cases y<;>exact h2.elim
  | cons x r=>rw[hc]at h1;cases x<;>exact h1.elim
 | cons f fs ih=>
  intro k hf h1 h2;obtain⟨hn,ho⟩:=hf 0 f rfl;rw[Ce]at ho;have hf' : ∀ j f, fs[j]? = some f → (f.name ≠ "_" ∧ f.offset = k + 1 + j) := λ j f hj => by
   have:=hf (j+1) f (by simpa using hj);exact⟨this.1,by omega⟩
  cases hc:cs.drop k with
  | nil=>rw[hc]at h1;exact h1.elim
  | cons x rx=>
   cases hd:ds.drop k with
   | nil=>rw[hd]at h2;exact h2.elim
   | cons y ry=>
    rw[hc]at h1;rw[hd]at h2;have hcx:cs[k]?=some x:=by
     have:=congrArg (λl=>l[0]?) hc;simpa using this
    have hdy:ds[k]?=some y:=by
     have:=congrArg (λl=>l[0]?) hd;simpa using this
    have hc1:cs.drop (k+1)=rx:=by rw[<-DL,hc];rfl
    have hd1:ds.drop (k+1)=ry:=by rw[<-DL,hd];rfl
    have part_of:∀(l:List Value) (z:Value),l[k]?=some z->LP P f.type=true->(part f.type ⟨l⟩ f.offset).run P w=.ok z w:=λl z hz h1=>by
     simp [part,RZ h1,ho,hz]
    unfold Op.eqFields;rw[if_pos hn]
    cases x<;>first|exact h1.elim|skip
    all_goals
     cases y<;>first|exact h2.elim|(exfalso;obtain⟨hk,_⟩:=h1;obtain⟨hk2,_⟩:=h2;rw[hk]at hk2;cases hk2;done)|skip
    all_goals
     obtain⟨hk,h1'⟩:=h1;obtain⟨hk2,h2'⟩:=h2;have h1o:LP P f.type=true:=by unfold LP;rw[hk]
     have ih':=ih (k+1) hf' (by rw[hc1];exact h1') (by rw[hd1];exact h2');rw[hc1,hd1]at ih';simp only [Sem.run_bind,part_of cs _ hcx h1o,part_of ds _ hdy h1o,Result.andThen_ok]
    ·rw[run_equalIn_bool _ _ _ _ _ hk];simp only [Result.andThen_ok,Lt];rename_i a b
     by_cases e:a=b
     ·subst e;simp [ih']
     ·simp [e]
    ·rename_i k1 a k2 b;rw[hk]at hk2;have:k1=k2:=by simpa using hk2
     subst this;rw[run_equalIn_int _ _ _ _ _ _ _ hk];simp only [Result.andThen_ok,Lt]
     by_cases e:a=b
     ·subst e;simp [ih']
     ·simp [e]
    ·rw[run_equalIn_string _ _ _ _ _ hk];simp only [Result.andThen_ok,Lt];rename_i a b
     by_cases e:a.toList=b.toList
     ·simp [e,ih']
     ·simp [e]
variable {T:TypeId}{ts:List TypeId}
def Vr (h:Rk P T=some ts):∃fs:Array Field,P.underlying T=some (.struct fs)/\P.fieldsOf T=fs/\P.stoodInHeld T=false/\P.eqGuardType P.depth T=false/\
  (∀ (j : Nat) (f : Field), fs.toList[j]? = some f → f.name ≠ "_" ∧ f.offset = j) ∧ fs.toList.map (·.type) = ts := by
 unfold Rk at h;split at h
 ·rename_i fs hu;split at h
  ·cases h
  ·rename_i hn;simp only [BL,not_or,Ch]at hn;split at h
   ·rename_i ha;refine⟨fs,hu,by simp [Program.fieldsOf,hu],hn.1,hn.2,λj f hj=>?_,by simpa using h⟩;have:=AQ.1 ha (f,j) (by
     rw[List.mem_iff_getElem?];exact⟨j,by simp [List.getElem?_zipIdx,hj]⟩)
    simp only [Aw,bne_iff_ne,beq_iff_eq]at this;exact⟨this.1.1,this.1.2⟩
   ·cases h
 ·cases h
def X6g {cs ds:List Value}(h:Rk P T=some ts)(hc:MH P ts cs)(hd:MH P ts ds):(Op.equalIn 10000 T (.agg ⟨cs⟩) (.agg ⟨ds⟩)).run P w=.ok (Lt cs ds) w:=by
 obtain⟨fs,hu,z,O,_,Y,J⟩:=Vr h;rw[run_equalIn_struct _ 9999 T ⟨cs⟩ ⟨ds⟩ (by rw[z];exact hu) O,z];have:=Xt6 (P:=P) (w:=w) 9998 cs ds fs.toList 0 (λj f h=>by have:=Y j f h;exact⟨this.1,by omega⟩) (by rw[J];simpa using hc) (by rw[J];simpa using hd);simpa using this
variable {U:TypeId}
def X91 {cs dss:List Value}(h:Rk P T=some ts)(hx:ev E x=.agg ⟨cs⟩)(hy:ev E y=.agg ⟨dss⟩)(hc:MH P ts cs)(hd:MH P ts dss):PV P ⟨dd,.binOp .neq T x y U,ty,pos,af,g⟩ E (.bool (!Lt cs dss)):=λw=>by
 obtain⟨_,_,_,_,z,_⟩:=Vr h;refine OI _ _ _ _ _ _ _ (λw=>by rw[hx,hy];exact run_eqGuard_agg _ _ _ _ _ _ _ z) ?_;rw[hx,hy,run_neq_struct,X6g h hc hd];rfl
variable {a b:Int}{k:IntKind}
def NJ (hx:ev E x=.int k a)(hy:ev E y=.int k b)(ha:0<=a)(hb:0<b):PV P ⟨dd,.binOp .rem T x y U,ty,pos,af,g⟩ E (.int k (a % b)):=λw=>by
 have h0:¬ b=0:=by omega
 simp [execOp,hx,hy,eqGuard,binOp,Op.intDiv,h0,Int.tmod_eq_emod_of_nonneg ha]
def QA (hx:ev E x=.int k a)(hy:ev E y=.int k b)(ha:0<=a)(hb:0<b):PV P ⟨dd,.binOp .quo T x y U,ty,pos,af,g⟩ E (.int k (k.wrap (a / b))):=λw=>by
 have h0:¬ b=0:=by omega
 simp [execOp,hx,hy,eqGuard,binOp,Op.intDiv,h0,Int.tdiv_eq_ediv_of_nonneg ha]
def Lo (op:BinOp)(k:IntKind)(a b:Int):Int:=match op with
 | .and=>k.wrap (AL k.bits a &&& AL k.bits b).toNat
 | .or=>k.wrap (AL k.bits a ||| AL k.bits b).toNat
 | .xor=>k.wrap (AL k.bits a ^^^ AL k.bits b).toNat
 | .andNot=>k.wrap (AL k.bits a &&& ~~~ AL k.bits b).toNat
 | _=>0
def Mj {op:BinOp}(hop:op=.and\/op=.or\/op=.xor\/op=.andNot)(hx:ev E x=.int k a)(hy:ev E y=.int k b):
  PV P ⟨dd,.binOp op T x y U,ty,pos,af,g⟩ E (.int k (Lo op k a b)):=λw=>by
 rcases hop with rfl|rfl|rfl|rfl<;>simp [execOp,hx,hy,eqGuard,binOp,Op.intBits,Lo]
def NV {ky:IntKind}(hx:ev E x=.int k a)(hy:ev E y=.int ky b)(hb:0<=b):PV P ⟨dd,.binOp .shr T x y U,ty,pos,af,g⟩ E (.int k (a.fdiv (2 ^ (min b.toNat k.bits)))):=λw=>by
 have h0:¬ b<0:=by omega
 simp [execOp,hx,hy,eqGuard,binOp,Op.shift,h0]
def OY {ky:IntKind}(hx:ev E x=.int k a)(hy:ev E y=.int ky b)(hb:0<=b):PV P ⟨dd,.binOp .shl T x y U,ty,pos,af,g⟩ E (.int k (k.wrap (a*2 ^ (min b.toNat k.bits)))):=λw=>by
 have h0:¬ b<0:=by omega
 simp [execOp,hx,hy,eqGuard,binOp,Op.shift,h0]
def R8 {ts:Array TypeId}(hx:ev E x=I a)(hy:ev E y=I b):PV P ⟨dd,.call { callee:=.builtin .max,args:=#[x,y],argTypes:=ts },ty,pos,af,g⟩ E (I (max a b)):=λw=>by
 have e:(if b > a then b else a)=max a b:=by split<;>omega
 simp [execOp,resolve,invoke,builtin,Builtin.max_,Builtin.max2,hx,hy,CC,e]
def XL {ts:Array TypeId}(hx:ev E x=I a)(hy:ev E y=I b):PV P ⟨dd,.call { callee:=.builtin .min,args:=#[x,y],argTypes:=ts },ty,pos,af,g⟩ E (I (min a b)):=λw=>by
 have e:(if b<a then b else a)=min a b:=by split<;>omega
 simp [execOp,resolve,invoke,builtin,Builtin.min_,Builtin.min2,hx,hy,CC,e]
def Pp : Value->Bool
 | .slice none _ _=>true
 | _=>false
def Xpy {v:Value}(hv:Gq v m)(h:Pp v=true):v=.slice none 0 0/\m=0:=by
 rcases hv with⟨rfl,rfl⟩|⟨b,o,c,rfl,_⟩|⟨rfl,a,c,rfl⟩
 ·exact⟨rfl,rfl⟩
 ·cases h
 ·cases h
def PO {T U k:Nat}(hT:IS P T=some (e,k))(hv:Gq v m)(hx:ev E x=v)(hy:ev E y=.slice none 0 0):PV P ⟨dd,.binOp .eql T x y U,ty,pos,af,g⟩ E (.bool (Pp v)):=by
 rcases hv with⟨rfl,rfl⟩|⟨b,o,c,rfl,_⟩|⟨rfl,a,c,rfl⟩
 ·exact S2 hT hx hy
 ·have:=S2 (P:=P) (d:=dd) (ty:=ty) (pos:=pos) (af:=af) (g:=g) (U:=U) hT hx hy;simpa [Pp]using this
 ·have:=S2 (P:=P) (d:=dd) (ty:=ty) (pos:=pos) (af:=af) (g:=g) (U:=U) hT hx hy;simpa [Pp]using this
def Hb (w:World)(F:Value->World->Prop):Ending->World->Prop:=λe w'=>∃v,e=.returned v/\Fq w w'/\F v w'
def UI {f:Nat}{az:List Operand}{ats:Array TypeId}{vs:List Value}{F:Value->World->Prop}(hg:FU ds E g=true)(hf:Hr P f=true)(hc:Calls P f vs.toArray w (Hb w F))(ha:az.map (ev E)=vs)(hR:RX R anc)
  (h:∀v w1,Fq w w1->F v w1->Dw P n ds R r K (FW E d v) w1) :
  Dw P n ds R ((⟨some d,.call { callee:=.value (.func f),args:=az.toArray,argTypes:=ats },ty,pos,af,g⟩,.x,anc) :: r) K E w:=
 TU hg hf ha hc λe w1 ⟨v,he,hx,hF⟩=>⟨v,he,hR.use hx,h v w1 hx hF⟩
end
def Jy.sub {cs:List Value}(k n:Nat)(h:Jy w b o cs):Jy w b (o+k) ((cs.drop k).take n):=λi v hi=>by
 rw[AX]at hi;split at hi
 ·rw[B3]at hi;have:=h (k+i) v hi;rw[show o+k+i=o+(k+i) by omega];exact this
 ·cases hi
def Jy.at0 {cs:List Value}{v:Value}(h:Jy w b o cs)(hk:cs[0]?=some v):w.cell? ⟨b,o,none⟩=some v:=h 0 v hk
def VN : ∀(vs done cs:List Value),vs.length=cs.length->Gw (done++cs) done.length vs=done++vs
 | [],done,[],_=>rfl
 | v :: vs,done,c :: cs,h=>by
  have h':vs.length=cs.length:=by simpa using h
  have e:(done++c :: cs).set done.length v=(done++[v])++cs:=by simp
  rw[Gw,e];have:=VN vs (done++[v]) cs h';rw[Ad]at this;rw[show done.length+1=done.length + [v].length from rfl,this];simp
def Vg {vs cs:List Value}(h:vs.length=cs.length):Gw cs 0 vs=vs:=VN vs [] cs h
def Ot (f:α->Value)(q:List α)(r:Nat)(x:α):(q.map f).set (0+r*1) (f x)=(q.set r x).map f:=by
 rw[A5,DK,List.map_set]
def Fp.ne {b':Nat}{cs cs':List Value}{T':TypeId}(h:Fp w b cs T)(h':Fp w b' cs' T')(hT:AM T T'=false):b≠b':=by
 rintro rfl;unfold Fp at h h';rw[h]at h';simp only [Am.injEq,Obj.cells.injEq]at h';rw[h'.2.1]at hT;simp at hT
section
variable {α β:Type}{enc:α->List Value}{enc':β->List Value}{sz sz' B B':Nat}{T T':TypeId}{w:World}{v v':Value}{l:List α}{l':List β}
def Own.heap (h:Own enc sz T B w v l){k:Nat}(hk:v.ownBlock=some k):∃cs,w.heap[k]?=some (.cells cs T (0,0)):=by
 obtain⟨_,h2⟩:=h.row;rcases h2 with⟨rfl,_⟩|⟨g,cap,cur,rfl,_,hg,_⟩
 ·cases hk
 ·have:g=k:=Am.inj hk;subst this;exact⟨cur,hg⟩
def Own.ne_blk (h:Own enc sz T B w v l){b:Nat}{cs:List Value}(hb:Fp w b cs T')(hT:AM T T'=false):v.ownBlock≠some b:=λe=>by
 obtain⟨cs',z⟩:=h.heap e;unfold Fp at hb;rw[hb]at z;simp only [Am.injEq,Obj.cells.injEq]at z;rw[z.2.1]at hT;simp at hT
def Own.base_block (h:Own enc sz T B w v l)(hl:l≠[]):v.ownBlock=some (base v).1:=by
 rcases h.sl with⟨_,hn⟩|⟨b,o,c,rfl,_⟩|⟨hn,_⟩
 ·exact absurd (A0 hn) hl
 ·rfl
 ·exact absurd (A0 hn) hl
def Own.ne (h:Own enc sz T B w v l)(h':Own enc' sz' T' B' w v' l')(hT:AM T T'=false){k:Nat}(hk:v.ownBlock=some k):v'.ownBlock≠some k:=λe=>by
 obtain⟨cs,z⟩:=h.heap hk;obtain⟨cs',J⟩:=h'.heap e;rw[J]at z;simp only [Am.injEq,Obj.cells.injEq]at z;rw[z.2.1]at hT;simp at hT
end
def RX.mod {S:Nat->Prop}{anc:Bool} : RX (Mod S) anc:=.inr λ_ _ h=>h.mono (λ_ h _=>h.elim)
def Ij {S:Nat->Prop}(w:World):Mod S w w:=Mod.refl S w
def I0 {S:Nat->Prop}(a b c:World)(h:Mod S a b)(k:Mod S b c):Mod S a c:=Mod.trans h k (λ_ h=>h) (λ_ h _=>h)
def Qq (h:Nat):(Ap h [I 0]).flatten=(Ap h 0).map λj:Nat=>I (j:Int):=by
 induction h with
 | zero=>rfl
 | succ h ih=>rw[CS,Cn,ih,CS];rfl
@[reducible] def N3 (j:Nat):List Value:=[I (j:Int)]
@[reducible] def JB (j:Nat):List Value:=[.int .u32 j]
@[reducible] def G6 (q:List Nat):List Value:=q.map λj:Nat=>I (j:Int)
def Xvn (q:List Nat):q.flatMap N3=G6 q:=by
 induction q with
 | nil=>simp [G6]
 | cons x r ih=>rw[AA,ih];simp [G6]
def MZ {q:List Nat}{i x:Nat}(h:q[i]?=some x):(G6 q)[0+i*1]?=some (I (x:Int)):=by
 rw[A5,DK,AH,h];rfl
section
variable {P:Program}{n:Nat}{ds:List (Option Tmp)}{R:World->World->Prop}{r:List (Oper×Fl×Bool)}{K:FF->World->Prop}{E:FF}{w:World}
variable {d:Nat}{op:Op}{ty:TypeId}{pos:String}{af:Array Edge}{g:Option (Nat×Bool)}{anc:Bool}{v:Value}
variable {vs:List Value}{x:Operand}
def OJ {a:Operand}{T T' b m:Nat}{cs:List Value}(hg:FU ds E g=true)(ha:ev E a=Fh b 0)(hx:ev E x=.agg ⟨vs⟩)(hs:My P T=some m)(hm:vs.length=m)(hl:cs.length=m)(hb:Fp w b cs T')(h1:∀v∈vs,v.oneCell'=true)(hR:anc=true\/∀w',Mod (Fv b) w w'->R w w')(h:∀w1,Mod (Fv b) w w1->w1.heap.size=w.heap.size->Fp w1 b vs T'->Dw P n ds R r K E w1):Dw P n ds R ((⟨none,.store T a x,ty,pos,af,g⟩,.x,anc) :: r) K E w:=
 Pk (v:=.agg ⟨vs⟩) hg ha hx rfl (by rw[hs,hm]) hb Fe h1 hR (λw1 h2 h3 h4=>h w1 h2 h3 (by rwa [Vg Fe]at h4))
variable {e:Nat}
def TY {y:Operand}{T m i:Nat}{cs:List Value}{v:Value}{dd:Option Tmp}(hT:P0 P T=some (m,e,1))(he:LP P e=true)(hx:ev E x=.agg ⟨cs⟩)(hy:ev E y=I i)(hi:i<m)(hv:cs[i]?=some v):
  PV P ⟨dd,.index T x y,ty,pos,af,g⟩ E v:=λw=>by
 obtain⟨hu,f,z,hk⟩:=Ua hT;have h0:(0:Int)<=(i:Int)/\(i:Int)<(m:Int):=by omega
 have hm:(i:Int)<(m:Int):=h0.2;simp [execOp,Instr.index,asIntOf,hx,hy,underlying,hu,hm,sizeOf,typeInfo,z,hk,part,RZ he,hv];omega
def Hp (S:Nat->Prop)(w:World)(F:Value->World->Prop):Ending->World->Prop:=λe w'=>∃v,e=.returned v/\Mod S w w'/\F v w'
def Jz {S:Nat->Prop}{f:Nat}{az:List Operand}{ats:Array TypeId}{F:Value->World->Prop}(hg:FU ds E g=true)(hf:Hr P f=true)(hc:Calls P f vs.toArray w (Hp S w F))(ha:az.map (ev E)=vs)(hR:anc=true\/∀w',Mod S w w'->R w w')(h:∀v w1,Mod S w w1->F v w1->Dw P n ds R r K (FW E d v) w1):
  Dw P n ds R ((⟨some d,.call { callee:=.value (.func f),args:=az.toArray,argTypes:=ats },ty,pos,af,g⟩,.x,anc) :: r) K E w:=
 TU hg hf ha hc λe w1 ⟨v,he,hx,hF⟩=>⟨v,he,λe=>hR.elim (λh=>by rw[h]at e;cases e) (λh=>h _ hx),h v w1 hx hF⟩
def RT {t ty B:Nat}{i:TypeInfo}{z v':Value}{w':World}(ht:P.underlying t=some (.slice e))(hi:P.info? e=some i)(hz:i.zero=some z)(hzs:z.cells.size=i.size){m0:Nat}{xs:List Value}(hown:w.ownsRow B e i.size v m0 xs)(a:Addr)(m c:Nat)(news:List Value)(hl:news.length=m*i.size)(hnews:∀j u,news[j]?=some u->w.cell? (a.add j)=some u)(h1:∀u∈news,u.oneCell'=true)(h63:m0+m<=maxLen)(hbytes:(m0+m)*i.bytes<=140737488355328)(hr:(Builtin.append_ #[t,t] ty #[v,.slice (some a) m c]).run P w=.ok v' w'):
  v'.ownBlock=v.ownBlock\/v'.ownBlock=some w.heap.size:=by
 have hsmall:m0+m<=9223372036854775807:=by simp only [maxLen]at h63;omega
 rcases hown.2 with⟨rfl,rfl⟩|⟨g,cap,cur,rfl,hbg,hg,hnc,hcm,hcs,htake⟩
 ·by_cases hm:m=0
  ·subst hm;have hn:news=[]:=A0 (by simpa using hl);subst hn;have e:(Builtin.append_ #[t,t] ty #[.slice none 0 0,.slice (some a) 0 c]).run P w=.ok (.slice none 0 0) w:=by
    simp [Builtin.append_,run_underlying ht,sizeOf,typeInfo,hi,Builtin.lenOf,Builtin.firstCells,loadCells,loadCellsFrom]
   rw[e]at hr;cases hr;exact .inl rfl
  ·have J:=run_append_nil (P:=P) w t ty e i z ht hi hz a m c news hl hnews Fe Fe (by have hb:=hbytes;simp only [A5]at hb;omega);rw[J]at hr;cases hr;exact .inr rfl
 ·by_cases hroom:m0+m<=cap
  ·have O:m0*i.size+news.length<=cur.size:=by rw[hl,hcs,<-Cx];exact AW _ hroom
   have J:=run_append_room (P:=P) w t ty e i ht hi g m0 cap cur hg a m c news hl hnews h1 hroom O;rw[J]at hr;cases hr;exact .inl rfl
  ·have holds:∀j u,xs[j]?=some u->w.cell? ((⟨g,0,none⟩:Addr).add j)=some u:=hown.cells (g:=g) rfl;have J:=run_append_grow (P:=P) w t ty e i z ht hi hz ⟨g,0,none⟩ m0 cap xs hown.1 holds a m c news hl hnews Fe Fe (growslice_fits Fe hbytes);rw[J]at hr;cases hr;exact .inr rfl
def LU {α:Type}{enc:α->List Value}{s:Operand}{t sz by' B:Nat}{vx:Value}{l lx:List α}(hg:FU ds E g=true)(ht:IS P t=some (e,sz))(hE:M4 P e sz by'=true)(henc:∀x,(enc x).length=sz)(hown:Own enc sz e B w v l)(hax:Fu enc sz w vx lx)(hs:ev E s=v)(hx:ev E x=vx)(h1:∀x∈lx,∀u∈enc x,u.oneCell'=true)(hbytes:(l.length+lx.length)*by'<=140737488355328)(hby:1<=by')(hB:B<=w.heap.size)(hR:anc=true\/∀w',Mod (λk=>v.ownBlock=some k) w w'->R w w')(h:∀v' w',Own enc sz e B w' v' (l++lx)->Mod (λk=>v.ownBlock=some k) w w'->(v'.ownBlock=v.ownBlock\/v'.ownBlock=some w.heap.size)->Dw P n ds R r K (FW E d v') w'):
  Dw P n ds R ((⟨some d,.call { callee:=.builtin .append,args:=#[s,x],argTypes:=#[t,t] },ty,pos,af,g⟩,.x,anc) :: r) K E w:=by
 obtain⟨hu,_⟩:=KY ht;obtain⟨i,z,hi,hz,J,O,Z,hq⟩:=PE hE;have hf:l.length+lx.length<=maxLen:=by
  unfold maxLen;have:(l.length+lx.length)*1<=(l.length+lx.length)*by':=CB _ hby;omega
 have hl:∀w',Mod (λk=>v.ownBlock=some k) w w'->anc=false->R w w':=λw' hm e=>hR.elim (λh=>by rw[h]at e;cases e) (λh=>h _ hm);rcases hax.sl with⟨rfl,hl0⟩|⟨b,o,c,rfl,hc⟩|⟨hl0,⟨b,o,s0⟩,c,rfl⟩
 ·-- nothing is appended
  have hh:=A0 hl0;subst hh;have hp:(Builtin.append_ #[t,t] ty #[v,.slice none 0 0]).run P w=.ok v w:=by
   rcases hown.sl with⟨rfl,hn⟩|⟨b,o,c,rfl,hn⟩|⟨hn,a,c,rfl⟩
   ·simp [Builtin.append_,run_underlying hu,sizeOf,typeInfo,hi,Builtin.lenOf,Builtin.firstCells]
   ·simp [Builtin.append_,run_underlying hu,sizeOf,typeInfo,hi,Builtin.lenOf,Builtin.firstCells,hn,storeCells]
   ·simp [Builtin.append_,run_underlying hu,sizeOf,typeInfo,hi,Builtin.lenOf,Builtin.firstCells,hn,storeCells]
  refine IA (w':=w) (v:=v) hg ?_ (hl _ (Mod.refl _ _)) (h v w (by simpa using hown) (Mod.refl _ _) (.inl rfl));simp only [execOp,resolve,invoke,builtin,Sem.run_bind,Sem.run_pure,Result.andThen_ok,Cf,Ak,Bg,hs,hx,hp]
 ·have Y:∀j u,(lx.flatMap enc)[j]?=some u->w.cell? ((⟨b,o,none⟩:Addr).add j)=some u:=(λj u hj=>by
   have:=Fu.flat henc hax j u hj;have ha:(⟨b,o,none⟩:Addr).add j=⟨b,o+j,none⟩:=by
    unfold Addr.add;split
    ·rename_i e;simp [e]
    ·rfl
   rw[ha];exact this)
  obtain⟨v',w',hr,h2,h3,h4⟩:=run_append_own (P:=P) w B t ty e i z sz by' hu hi hz J O Z hq v l.length (l.flatMap enc) hown.row ⟨b,o,none⟩ lx.length c (lx.flatMap enc) (FG henc lx)
   Y (Q2 h1) hf hbytes hB
  have hw:=RT (P:=P) hu hi hz (by rw[Z,J]) (by rw[J];exact hown.row) ⟨b,o,none⟩ lx.length c (lx.flatMap enc) (by rw[J];exact FG henc lx) Y (Q2 h1) hf (by rw[O];exact hbytes) hr;refine IA (w':=w') (v:=v') hg ?_ (hl _ ?_) (h v' w' ⟨by rw[Ad,Bc];exact h2⟩ ?_ hw)
  ·simp only [execOp,resolve,invoke,builtin,Sem.run_bind,Sem.run_pure,Result.andThen_ok,Cf,Ak,Bg,hs,hx,hr]
  ·exact Mod.of_grown h3
  ·exact Mod.of_grown h3
 ·have hh:=A0 hl0;subst hh;obtain⟨v',w',hr,h2,h3,h4⟩:=run_append_own (P:=P) w B t ty e i z sz by' hu hi hz J O Z hq v l.length (l.flatMap enc) hown.row ⟨b,o,s0⟩ 0 c [] F0 (λj u hj=>by simp at hj) (λu hu=>by cases hu) hf hbytes hB;have hw:=RT (P:=P) hu hi hz (by rw[Z,J]) (by rw[J];exact hown.row) ⟨b,o,s0⟩ 0 c [] F0 (λj u hj=>by simp at hj) (λu hu=>by cases hu) hf (by rw[O];exact hbytes) hr;refine IA (w':=w') (v:=v') hg ?_ (hl _ (Mod.of_grown h3)) (h v' w' ⟨by rw[Ad,Bc];exact h2⟩ (Mod.of_grown h3) hw);simp only [execOp,resolve,invoke,builtin,Sem.run_bind,Sem.run_pure,Result.andThen_ok,Cf,Ak,Bg,hs,hx,hr]
end
end Go.Vc
namespace Go.Vc
open Go.RowKit Go.Maps
open Classical in
noncomputable def rdBy {α:Type} (av:α->Value) (v:Value):Option (DataW α×List MemPlace):=
 if h:∃a,v=av a then some (.held h.choose,[])else none
variable {α:Type}{av:α->Value}
def TL (inj:∀a b,av a=av b->a=b)(a:α):rdBy av (av a)=some (.held a,[]):=by
 have h:∃b,av a=av b:=⟨a,rfl⟩;unfold rdBy;rw[dif_pos h,<-inj _ _ h.choose_spec]
def Xrr {v:Value}{y:DataW α×List MemPlace}(h:rdBy av v=some y):∃a,v=av a/\y=(.held a,[]):=by
 unfold rdBy at h;split at h
 ·rename_i h1
  cases h
  exact⟨_,h1.choose_spec,rfl⟩
 ·cases h
structure MapK (P:Program){κ α:Type}(t k e:TypeId)(kv:κ->Value)(av:α->Value)(ok:κ->Prop):Prop where
 und:P.underlying t=some (.map k e)
 keyed:Keyed P k
 key:∀x,ok x->∃l,keyOf P k (kv x)=some l
 inv:∀v l,keyOf P k v=some l->∃x,v=kv x/\ok x
 kinj:∀x y,kv x=kv y->x=y
 ainj:∀a b,av a=av b->a=b
open Classical in
noncomputable def putF {κ α:Type} (f:κ->Option α) (x:κ) (a:α):κ->Option α:=λy=>if y=x then some a else f y
def Xvo {κ:Type}(f:κ->Option α)(x:κ)(a:α):putF f x a x=some a:=by simp [putF]
def X6h {κ:Type}(f:κ->Option α)(x:κ)(a:α){y:κ}(h:y≠x):putF f x a y=f y:=by simp [putF,h]
def MR {α:Type}(o:Option α)(z:DataW α):DataW α:=match o with
 | some a=>.held a
 | none=>z
def Xbd {κ α:Type}(P:Program)(k:TypeId)(kv:κ->Value)(av:α->Value)(w:World)(b n:Nat)(f:κ->Option α):Prop:=
 ∃D:DataW α,w.ownsMap P k (rdBy av) b n D/\∀x l,keyOf P k (kv x)=some l->∀z,D.atKey l z=MR (f x) z
def Xa4 {κ α:Type}(P:Program)(k:TypeId)(kv:κ->Value)(av:α->Value)(w:World)(b r n:Nat)(f:κ->Option α)(left:κ->Prop)(cnt:Nat):Prop:=
 ∃(D:DataW α) (lf:Lit->Bool),w.ranges P k (rdBy av) b r n D lf cnt/\(∀x l,keyOf P k (kv x)=some l->∀z,D.atKey l z=MR (f x) z)/\∀x l,keyOf P k (kv x)=some l->(lf l=true↔left x)
section
variable {P:Program}{κ α:Type}{t k e:TypeId}{kv:κ->Value}{av:α->Value}{ok:κ->Prop}{w w':World}{b n r cnt:Nat}{f:κ->Option α}{left:κ->Prop}
def World.ownsMap.mod {H:Type}{S:Nat->Prop}{R:Value->Option (DataW H×List MemPlace)}{D:DataW H}(h:w.ownsMap P k R b n D)(m:Mod S w w')(hb:¬ S b):w'.ownsMap P k R b n D:=by
 have J:=h.lt;obtain⟨es,z,h1,F,hs,O⟩:=h;exact⟨es,z,(m.block b J hb).trans h1,F,hs,O⟩
def Xbd.mod {S:Nat->Prop}(h:Xbd P k kv av w b n f)(m:Mod S w w')(hb:¬ S b):Xbd P k kv av w' b n f:=by
 obtain⟨D,h1,h2⟩:=h;exact⟨D,World.ownsMap.mod h1 m hb,h2⟩
def Xbd.ext (h:Xbd P k kv av w b n f)(m:Fq w w'):Xbd P k kv av w' b n f:=h.mod m (λh=>h)
def Xbd.lt (h:Xbd P k kv av w b n f):b<w.heap.size:=by
 obtain⟨D,h1,_⟩:=h;exact h1.lt
def Xbd.heap (h:Xbd P k kv av w b n f):∃es c,w.heap[b]?=some (.map es c):=by
 obtain⟨D,⟨es,c,h1,_⟩,_⟩:=h;exact⟨es,c,h1⟩
def Xbd.ne_blk (h:Xbd P k kv av w b n f){b':Nat}{cs:List Value}{T:TypeId}(hb:Fp w b' cs T):b'≠b:=by
 rintro rfl;obtain⟨es,c,h1⟩:=h.heap;unfold Fp at hb;rw[hb]at h1
 cases h1
def Xbd.ne_own (h:Xbd P k kv av w b n f){β:Type}{enc:β->List Value}{sz T B:Nat}{v:Value}{l:List β}(ho:Own enc sz T B w v l):v.ownBlock≠some b:=λe=>by
 obtain⟨cs,h1⟩:=ho.heap e;obtain⟨es,c,h2⟩:=h.heap;rw[h1]at h2
 cases h2
def Xa4.congr {left':κ->Prop}(h:Xa4 P k kv av w b r n f left cnt)(hl:∀x,left x↔left' x):Xa4 P k kv av w b r n f left' cnt:=by
 obtain⟨D,lf,h0,h2,h3⟩:=h;exact⟨D,lf,h0,h2,λx l z=>(h3 x l z).trans (hl x)⟩
def Xa4.mod {S:Nat->Prop}(h:Xa4 P k kv av w b r n f left cnt)(m:Mod S w w')(hb:¬ S b)(hr:¬ S r):Xa4 P k kv av w' b r n f left cnt:=by
 obtain⟨D,lf,h0,h2,h3⟩:=h;have Z:=h0.owns.lt;have Y:=h0.lt;obtain⟨es,z,J,O,c0,h1,F,hs,hD,ha,rest⟩:=h0;exact⟨D,lf,⟨es,z,J,O,c0,(m.block b Z hb).trans h1,F,hs,hD,(m.block r Y hr).trans ha,rest⟩,h2,h3⟩
def Xa4.ext (h:Xa4 P k kv av w b r n f left cnt)(m:Fq w w'):Xa4 P k kv av w' b r n f left cnt:=h.mod m (λh=>h) (λh=>h)
def Xa4.map (h:Xa4 P k kv av w b r n f left cnt):Xbd P k kv av w b n f:=by
 obtain⟨D,lf,h0,h2,h3⟩:=h;exact⟨D,h0.owns,h2⟩
def Xa4.lt (h:Xa4 P k kv av w b r n f left cnt):r<w.heap.size:=by
 obtain⟨D,lf,h0,h2,h3⟩:=h;exact h0.lt
def Xa4.heap (h:Xa4 P k kv av w b r n f left cnt):∃m s c J,w.heap[r]?=some (.mapIter m s c J):=by
 obtain⟨D,lf,⟨es,clock,since,seen,J,h1,F,hs,hD,z,rest⟩,_⟩:=h;exact⟨_,_,_,_,z⟩
def Xa4.ne_own (h:Xa4 P k kv av w b r n f left cnt){β:Type}{enc:β->List Value}{sz T B:Nat}{v:Value}{l:List β}(ho:Own enc sz T B w v l):v.ownBlock≠some r:=λe=>by
 obtain⟨cs,h1⟩:=ho.heap e;obtain⟨m,s,c,c0,h2⟩:=h.heap;rw[h1]at h2
 cases h2
def Xa4.ne_map (h:Xa4 P k kv av w b r n f left cnt){κ' α':Type}{k':TypeId}{kv':κ'->Value}{av':α'->Value}{b' n':Nat}{f':κ'->Option α'}(hm:Xbd P k' kv' av' w b' n' f'):b'≠r:=by
 rintro rfl;obtain⟨m,s,c,c0,h1⟩:=h.heap;obtain⟨es,cl,h2⟩:=hm.heap;rw[h1]at h2
 cases h2
def Xbd.made (M:MapK P t k e kv av ok):Xbd P k kv av (w.alloc (.map #[] 0)) w.heap.size 0 (λ_=>none):=
 ⟨.map [],World.ownsMap_made w P k _,λx l hl z=>rfl⟩
def PH (M:MapK P t k e kv av ok){x y:κ}{lx ly:Lit}(hx:keyOf P k (kv x)=some lx)(hy:keyOf P k (kv y)=some ly)(h:y≠x):ly≠lx:=λe=>by
 subst e;exact h (M.kinj _ _ (M.keyed.inj hy hx))
def Xbd.update (M:MapK P t k e kv av ok)(h:Xbd P k kv av w b n f)(hn:n<maxLen){x:κ}(hx:ok x)(a:α) :
  ∃w',(Instr.mapUpdate t (.map (some b)) (kv x) (av a)).run P w=.ok () w'/\Xbd P k kv av w' b (n+1) (putF f x a)/\Mod (Fv b) w w'/\w'.heap.size=w.heap.size:=by
 obtain⟨D,h1,h2⟩:=h;obtain⟨l,O⟩:=M.key x hx;obtain⟨w',hr,ho,Y⟩:=h1.store M.keyed M.und hn O (TL M.ainj a);refine⟨w',hr,⟨_,ho,λy ly J z=>?_⟩,?_,?_⟩
 ·by_cases e:y=x
  ·subst e;rw[O]at J
   cases J
   rw[Xvo,Maps.atKey_put_same h1.isMap (M.keyed.key O)];rfl
  ·rw[X6h _ _ _ e,Maps.atKey_put_other (PH M O J e),h2 y ly J]
 ·have Z:=Y.grown;exact(Mod.of_grown Z).mono (λi hi _=>(Am.inj hi).symm)
 ·obtain⟨es,c,es',c',_,e⟩:=Y;rw[e];simp [ChangeMaps.setBlock]
def Xbd.look (M:MapK P t k e kv av ok)(h:Xbd P k kv av w b n f){z0:α}(hz:(zeroValue e).run P w=.ok (av z0) w){x:κ}(hx:ok x) :
  (Instr.lookup t (.map (some b)) (kv x) false).run P w=.ok (av ((f x).getD z0)) w:=by
 obtain⟨D,h1,h2⟩:=h;obtain⟨l,z⟩:=M.key x hx;obtain⟨v,ps,J,hv⟩:=h1.lookup M.keyed M.und hz (TL M.ainj z0) z;rw[h2 x l z]at hv;obtain⟨a,rfl,e⟩:=Xrr hv;rw[J]
 cases hf:f x with
 | none=>rw[hf]at e;simp only [MR,B4.injEq,DataW.held.injEq]at e;rw[e.1];rfl
 | some c=>rw[hf]at e;simp only [MR,B4.injEq,DataW.held.injEq]at e;rw[e.1];rfl
def Xbd.range (M:MapK P t k e kv av ok)(h:Xbd P k kv av w b n f) :
  ∃w' cnt,(Instr.range t (.map (some b))).run P w=.ok (Fh w.heap.size 0) w'/\Xa4 P k kv av w' b w.heap.size n f (λx=>(f x).isSome=true) cnt/\cnt<=n/\Fq w w'/\w'.heap.size=w.heap.size+1:=by
 obtain⟨D,h1,h2⟩:=h;obtain⟨w',hr,O,Z,hs⟩:=h1.range M.keyed M.und;refine⟨w',_,hr,⟨D,_,O,h2,λx l Y=>?_⟩,h1.size_le,Fq.of_grown Z,hs⟩
 cases hf:f x with
 | none=>
  have J:Maps.has D l=false:=Maps.has_false_of_atKey (λz=>by rw[h2 x l Y,hf];rfl);rw[J];simp [hf]
 | some c=>
  have J:Maps.has D l=true:=Maps.has_true_of_atKey (y:=.held c) (λz=>by rw[h2 x l Y,hf];rfl);rw[J];simp [hf]
def Xa4.next (M:MapK P t k e kv av ok)(h:Xa4 P k kv av w b r n f left cnt)(ty:TypeId) :
  ((∀x,ok x->¬ left x)/\(Instr.next (Fh r 0) false ty).run P w=.ok (.tuple #[.bool false]) w)\/
  ∃x a w' cnt',ok x/\left x/\f x=some a/\(Instr.next (Fh r 0) false ty).run P w=.ok (.tuple #[.bool true,kv x,av a]) w'/\
   Xa4 P k kv av w' b r n f (λy=>left y/\y≠x) cnt'/\cnt'<cnt/\Mod (Fv r) w w'/\w'.heap.size=w.heap.size/\(Instr.entry (Fh r 0)).run P w'=.ok (.tuple #[kv x,av a]) w':=by
 obtain⟨D,lf,h1,h2,h3⟩:=h;rcases h1.next M.keyed ty with⟨_,hl,hr⟩|⟨key,v,kl,y,w',cnt',hk,hlk,hv,hat,hr,hrg,hlt,hg,hs,hen⟩
 ·refine .inl ⟨λx Y J=>?_,hr⟩;obtain⟨l,O⟩:=M.key x Y;have:=(h3 x l O).2 J;rw[hl l]at this
  cases this
 ·obtain⟨x,rfl,Y⟩:=M.inv key kl hk;obtain⟨a,rfl,e⟩:=Xrr hv;refine .inr ⟨x,a,w',cnt',Y,(h3 x kl hk).1 hlk,?_,hr,⟨D,_,hrg,h2,λy' Z z=>?_⟩,hlt,(Mod.of_grown hg).mono (λi hi _=>(Am.inj hi).symm),hs,hen⟩
  ·have h4:=hat .nil;rw[h2 x kl hk,e]at h4
   cases hf:f x with
   | none=>rw[hf]at h4;simp [MR]at h4
   | some c=>rw[hf]at h4;simp only [MR,DataW.held.injEq]at h4;rw[h4]
  ·rw[Aw,h3 y' Z z,BW];refine and_congr_right λ_=>?_
   by_cases e':y'=x
   ·subst e';rw[hk]at z
    cases z
    rw[WideAt.sameKey_self (M.keyed.key hk)];simp
   ·have:=PH M hk z e';have h5:Z.sameKey kl=false:=by
     cases hh:Z.sameKey kl
     ·rfl
     ·exact absurd (WideAt.sameKey_eq hh) this
    simp [h5,e']
end
section
variable {P:Program}{N:Nat}{ds:List (Option Tmp)}{R:World->World->Prop}{rs:List (Oper×Fl×Bool)}{K:FF->World->Prop}{E:FF}{w:World}
variable {d:Nat}{op:Op}{ty:TypeId}{pos:String}{af:Array Edge}{g:Option (Nat×Bool)}{anc:Bool}{v:Value}
variable {κ α:Type}{t k e:TypeId}{kv:κ->Value}{av:α->Value}{ok:κ->Prop}{b n r cnt:Nat}{f:κ->Option α}{left:κ->Prop}
def Qd (M:MapK P t k e kv av ok)(hg:FU ds E g=true)(hR:RX R anc)
  (h:∀b w1,b=w.heap.size->Fq w w1->Xbd P k kv av w1 b 0 (λ_=>none)->Dw P N ds R rs K (FW E d (.map (some b))) w1):Dw P N ds R ((⟨some d,.makeMap t none,ty,pos,af,g⟩,.x,anc) :: rs) K E w:=by
 refine IA (v:=.map (some w.heap.size)) (w':=w.alloc (.map #[] 0)) hg ?_ (hR.use (Fq.alloc _ _)) (h _ _ rfl (Fq.alloc _ _) (Xbd.made M));have e1:(Instr.makeMap t none).run P w=.ok (.map (some w.heap.size)) (w.alloc (.map #[] 0)):=run_makeMap t w;simp [execOp,e1]
variable {m:Operand}
def OS {x y:Operand}(M:MapK P t k e kv av ok){kx:κ}{a:α}(hg:FU ds E g=true)(hm:ev E m=.map (some b))(hx:ev E x=kv kx)(hy:ev E y=av a)(hmap:Xbd P k kv av w b n f)(hok:ok kx)(hn:n<maxLen)(hR:anc=true\/∀w',Mod (Fv b) w w'->R w w')(h:∀w1,Mod (Fv b) w w1->w1.heap.size=w.heap.size->Xbd P k kv av w1 b (n+1) (putF f kx a)->Dw P N ds R rs K E w1):
  Dw P N ds R ((⟨none,.mapUpdate t m x y,ty,pos,af,g⟩,.x,anc) :: rs) K E w:=by
 obtain⟨w',z,h1,h2,h3⟩:=hmap.update M hn hok a;refine S9 (w':=w') hg ?_ (λe=>hR.elim (λh=>by rw[h]at e;cases e) (λh=>h _ h2)) (h _ h2 h3 h1);simp [execOp,hm,hx,hy,z]
variable {dd:Option Tmp}
def M9 {x:Operand}(M:MapK P t k e kv av ok){kx:κ}{z0:α}(hm:ev E m=.map (some b))(hx:ev E x=kv kx)(hz:(zeroValue e).run P w=.ok (av z0) w)(hmap:Xbd P k kv av w b n f)(hok:ok kx):
  LV P ⟨dd,.lookup t m x false,ty,pos,af,g⟩ E w (av ((f kx).getD z0)):=by
 unfold LV;have:=hmap.look M hz hok;simp [execOp,hm,hx,this]
def WV (M:MapK P t k e kv av ok)(hg:FU ds E g=true)(hm:ev E m=.map (some b))(hmap:Xbd P k kv av w b n f)(hR:RX R anc)(h:∀r w1 cnt,r=w.heap.size->Fq w w1->cnt<=n->Xa4 P k kv av w1 b r n f (λx=>(f x).isSome=true) cnt->Dw P N ds R rs K (FW E d (Fh r 0)) w1):
  Dw P N ds R ((⟨some d,.range t m,ty,pos,af,g⟩,.x,anc) :: rs) K E w:=by
 obtain⟨w',cnt,z,h1,h2,h3,h4⟩:=hmap.range M;refine IA (w':=w') (v:=Fh w.heap.size 0) hg ?_ (hR.use h3) (h _ _ _ rfl h3 h2 h1);simp [execOp,hm,z]
def WT {it:Operand}(M:MapK P t k e kv av ok)(hg:FU ds E g=true)(hit:ev E it=Fh r 0)(hrg:Xa4 P k kv av w b r n f left cnt)(hR:anc=true\/∀w',Mod (Fv r) w w'->R w w')
  (h0:(∀x,ok x->¬ left x)->Dw P N ds R rs K (FW E d (.tuple #[.bool false])) w)
  (h:∀x a w1 cnt',ok x->left x->f x=some a->Mod (Fv r) w w1->w1.heap.size=w.heap.size->cnt'<cnt->Xa4 P k kv av w1 b r n f (λy=>left y/\y≠x) cnt'->(Instr.entry (Fh r 0)).run P w1=.ok (.tuple #[kv x,av a]) w1->
   Dw P N ds R rs K (FW E d (.tuple #[.bool true,kv x,av a])) w1) :
  Dw P N ds R ((⟨some d,.next it false,ty,pos,af,g⟩,.x,anc) :: rs) K E w:=by
 rcases hrg.next M ty with⟨hl,hr⟩|⟨x,a,w',cnt',hx,hlx,hfx,hr,h1,hlt,h2,hs,hen⟩
 ·refine IA (w':=w) (v:=.tuple #[.bool false]) hg ?_ (λe=>hR.elim (λh=>by rw[h]at e;cases e) (λh=>h _ (Mod.refl _ _))) (h0 hl);simp [execOp,hit,hr]
 ·refine IA (w':=w') (v:=.tuple #[.bool true,kv x,av a]) hg ?_ (λe=>hR.elim (λh=>by rw[h]at e;cases e) (λh=>h _ h2)) (h x a w' cnt' hx hlx hfx h2 hs hlt h1 hen);simp [execOp,hit,hr]
def Xrt {it:Operand}{u1 u2:Value}(hit:ev E it=v)(hen:(Instr.entry v).run P w=.ok (.tuple #[u1,u2]) w):LV P ⟨dd,.entry it,ty,pos,af,g⟩ E w (.tuple #[u1,u2]):=by
 unfold LV;simp [execOp,hit,hen]
end
def Fu.base_lt {enc:α->List Value}{sz:Nat}{w:World}{v:Value}{l:List α}(h:Fu enc sz w v l)(hsz:0<sz)(hl:l≠[]):(base v).1<w.heap.size:=by
 cases l with
 | nil=>exact absurd rfl hl
 | cons x r=>exact h.blk hsz (x:=x) rfl
def Yc0 (x y:Fj)(h:S x=S y):x=y:=by
 simpa [S]using h
def NH {P:Program}{t k e:TypeId}(hu:P.underlying t=some (.map k e))(hk:P.underlying k=some .string)(ha:∀a b,av a=av b->a=b):MapK P t k e S av (λs=>s.length<=maxLen):=
 ⟨hu,string_keyed hk,λx J=>⟨_,WideMaps.keyOf_string_mk hk (s:=⟨⟨x⟩⟩) J⟩,λv l z=>by
  simp only [keyOf,hk]at z
  cases v<;>simp [mapKey,hk]at z
  rename_i s;obtain⟨h1,rfl⟩:=z;exact⟨s.data.toList,rfl,h1⟩,Yc0,ha⟩
section
variable {P:Program}{N:Nat}{ds:List (Option Tmp)}{R:World->World->Prop}{rs:List (Oper×Fl×Bool)}{K:FF->World->Prop}{E:FF}{w:World}
variable {d:Nat}{op:Op}{ty:TypeId}{pos:String}{af:Array Edge}{g:Option (Nat×Bool)}{anc:Bool}{v:Value}
def X1a (w:World)(e:TypeId)(s:Fj)(c:Nat):Fu Fs 1 (Lib.bytesWorld w e ⟨⟨s⟩⟩) (.slice (some ⟨w.heap.size,0,none⟩) s.length (max c s.length)) s:=by
 refine⟨.inr (.inl ⟨_,0,_,by rw[Au],by rw[Au];omega⟩),λi cs hi=>?_⟩;rw[AH]at hi;obtain⟨x,Y,rfl⟩:=Bp.1 hi;refine⟨rfl,λj u O=>?_⟩;have z:=(Ar.1 Y).1
 cases j with
 | succ j=>simp at O
 | zero=>
  have e2:u=.int .u8 (x.toNat:Int):=by simpa using O.symm
  rw[e2];have J:=Lib.bytesWorld_cell w e ⟨⟨s⟩⟩ i z;have Z:(⟨⟨s⟩⟩:ByteArray).data.toList.getD i 0=x:=by simp [List.getD,Y]
  rw[Z]at J;simpa [base]using J
def KF {x:Operand}{T U e:Nat}{s:Fj}(hg:FU ds E g=true)(hT:Kr P T=true)(hU:P.underlying U=some (.slice e))(he:P.underlying e=some (.int .u8))(hx:ev E x=S s)(hR:RX R anc)
  (h:∀b c w1,b=w.heap.size->Fq w w1->Fu Fs 1 w1 (.slice (some ⟨b,0,none⟩) s.length c) s->Dw P N ds R rs K (FW E d (.slice (some ⟨b,0,none⟩) s.length c)) w1):Dw P N ds R ((⟨some d,.convert T U x,ty,pos,af,g⟩,.x,anc) :: rs) K E w:=by
 have O:P.underlying T=some .string:=by
  unfold Kr at hT;split at hT<;>first|assumption|cases hT
 have hr:=Lib.run_convert_string_bytes w T U e ⟨⟨s⟩⟩ O hU he;have J:Fq w (Lib.bytesWorld w e ⟨⟨s⟩⟩):=⟨rfl,rfl,rfl,by rw[Lib.bytesWorld_size];omega,λk hk _=>Lib.bytesWorld_at_old w e _ k hk⟩;have z:s.length<=grownCap w s.length 0 e:=by
  exact Nat.le_add_right _ _
 have Z:=X1a w e s (grownCap w s.length 0 e);rw[Nat.max_eq_left z]at Z;refine IA (v:=.slice (some ⟨w.heap.size,0,none⟩) s.length (grownCap w s.length 0 e)) (w':=Lib.bytesWorld w e ⟨⟨s⟩⟩) hg ?_ (hR.use J) (h _ _ _ rfl J Z);have Y:(convert T U (S s)).run P w=.ok (.slice (some ⟨w.heap.size,0,none⟩) s.length (grownCap w s.length 0 e)) (Lib.bytesWorld w e ⟨⟨s⟩⟩):=hr;simp only [execOp,hx,Sem.run_bind,Y,Result.andThen_ok,Sem.run_pure,GL]
def Yc1 (l:Fj):l.flatMap Fs=l.map λc=>Value.int .u8 c.toNat:=by
 induction l with
 | nil=>rfl
 | cons x r ih=>rw[AA,ih];rfl
def Fu.row8 {v:Value}{l:Fj}(h:Fu Fs 1 w v l):Jy w (base v).1 (base v).2 (l.map λc=>Value.int .u8 c.toNat):=λi u hi=>by
 rw[<-Yc1]at hi;exact Fu.flat (enc:=Fs) (sz:=1) (λ_=>rfl) h i u hi
end
@[reducible] def A8 (l:Fj):Value:=.agg ⟨l.map λc=>Value.int .u8 c.toNat⟩
end Go.Vc
namespace Go.Vc
open Go.RowKit
@[reducible] def b8 (c:UInt8):Value:=.int .u8 c.toNat
def OF (n:Int):IntKind.u8.wrap n=n % 256:=by simp [IntKind.wrap,IntKind.bits,IntKind.signed]
def Xvr {a b:UInt8} : ((a.toNat:Int)=b.toNat)↔a=b:=⟨λh=>Et.1 Fe,λh=>by rw[h]⟩
def Xvs {a b:UInt8} : ((a.toNat:Int)<b.toNat)↔a<b:=by rw[CT];omega
section
variable {P:Program}{E:FF}{d:Option Tmp}{ty:TypeId}{pos:String}{af:Array Edge}{g:Option (Nat×Bool)}{w:World}{T U:TypeId}{x y:Operand}
variable {a b:UInt8}
def QG (hx:ev E x=b8 a)(hy:ev E y=b8 b):PV P ⟨d,.binOp .eql T x y U,ty,pos,af,g⟩ E (.bool (decide (a=b))):=by
 have:=Vl (P:=P) (d:=d) (ty:=ty) (pos:=pos) (af:=af) (g:=g) (T:=T) (U:=U) hx hy;rwa [show decide ((a.toNat:Int)=b.toNat)=decide (a=b) from decide_eq_decide.2 Xvr]at this
def WI (hx:ev E x=b8 a)(hy:ev E y=b8 b):PV P ⟨d,.binOp .lss T x y U,ty,pos,af,g⟩ E (.bool (decide (a<b))):=by
 have:=YI (P:=P) (d:=d) (ty:=ty) (pos:=pos) (af:=af) (g:=g) (T:=T) (U:=U) hx hy;rwa [show decide ((a.toNat:Int)<b.toNat)=decide (a<b) from decide_eq_decide.2 Xvs]at this
def QU (a:UInt8):AL 8 (a.toNat:Int)=a.toBitVec:=by
 apply Eu
 rw[Ev];have:=a.toNat_lt;show((a.toNat:Int) % ((2 ^ 8:Nat):Int)).toNat=a.toNat;omega
def RU (hx:ev E x=b8 a)(hy:ev E y=b8 b):PV P ⟨d,.binOp .and T x y U,ty,pos,af,g⟩ E (b8 (a &&& b)):=by
 have:=Mj (P:=P) (dd:=d) (ty:=ty) (pos:=pos) (af:=af) (g:=g) (T:=T) (U:=U) (op:=.and) (.inl rfl) hx hy;rwa [show Lo .and .u8 (a.toNat:Int) b.toNat=((a &&& b).toNat:Int) by
  show IntKind.u8.wrap ((AL 8 (a.toNat:Int) &&& AL 8 (b.toNat:Int)).toNat:Int)=_;rw[QU,QU,OF];have:=(a &&& b).toNat_lt;show(((a &&& b).toNat:Int)) % 256=_;omega]at this
def PZ (hx:ev E x=b8 a)(hy:ev E y=b8 b):PV P ⟨d,.binOp .or T x y U,ty,pos,af,g⟩ E (b8 (a ||| b)):=by
 have:=Mj (P:=P) (dd:=d) (ty:=ty) (pos:=pos) (af:=af) (g:=g) (T:=T) (U:=U) (op:=.or) (.inr (.inl rfl)) hx hy;rwa [show Lo .or .u8 (a.toNat:Int) b.toNat=((a ||| b).toNat:Int) by
  show IntKind.u8.wrap ((AL 8 (a.toNat:Int) ||| AL 8 (b.toNat:Int)).toNat:Int)=_;rw[QU,QU,OF];have:=(a ||| b).toNat_lt;show(((a ||| b).toNat:Int)) % 256=_;omega]at this
def X1b (hx:ev E x=b8 a)(hT:(P.underlying T).isSome=true)(hU:Ic P U=some .i64):PV P ⟨d,.convert T U x,ty,pos,af,g⟩ E (I a.toNat):=by
 have:=Kf (P:=P) (d:=d) (ty:=ty) (pos:=pos) (af:=af) (g:=g) hx hT hU;rwa [Lj (by have:=a.toNat_lt;unfold Ge;omega)]at this
def NN {n:Nat}{k:IntKind}(hx:ev E x=.int k n)(hT:(P.underlying T).isSome=true)(hU:Ic P U=some .u8):PV P ⟨d,.convert T U x,ty,pos,af,g⟩ E (b8 (AC n)):=by
 have:=Kf (P:=P) (d:=d) (ty:=ty) (pos:=pos) (af:=af) (g:=g) hx hT hU;rwa [show IntKind.u8.wrap (n:Int)=((AC n).toNat:Int) by rw[OF];simp]at this
def PY {x y:Operand}{a:Fj}{i:Nat}{c:UInt8}(hT:Kr P T=true)(hx:ev E x=S a)(hy:ev E y=I i)(hi:a[i]?=some c):PV P ⟨d,.index T x y,ty,pos,af,g⟩ E (b8 c):=TQ hT hx hy hi
end
section
variable {P:Program}{n:Nat}{ds:List (Option Tmp)}{R:World->World->Prop}{r:List (Oper×Fl×Bool)}{K:FF->World->Prop}{E:FF}{w:World}
variable {d:Nat}{op:Op}{ty:TypeId}{pos:String}{af:Array Edge}{g:Option (Nat×Bool)}{anc:Bool}{v v':Value}
variable {x:Operand}
def dm (h:Dw P n ds R r K (FW E d v) w)(hg:FU ds E g=true:=by rfl)(hx:ev E x=v:=by conv=>lhs;whnf):Dw P n ds R ((⟨some d,.move x,ty,pos,af,g⟩,.p,anc) :: r) K E w:=XI hg hx h
def da (h:Dw P n ds R r K (FW E d v) w)(hg:FU ds E g=true:=by rfl)(hx:ev E x=v:=by conv=>lhs;whnf):Dw P n ds R ((⟨some d,.assign x,ty,pos,af,g⟩,.p,anc) :: r) K E w:=Yd9 hg hx h
def dk {f:Fl}(h:Dw P n ds R r K (FW E d undef) w)(hg:FU ds E g=false:=by rfl):Dw P n ds R ((⟨some d,op,ty,pos,af,g⟩,f,anc) :: r) K E w:=Rm hg h
def dp (hv:PV P ⟨some d,op,ty,pos,af,g⟩ E v)(h:Dw P n ds R r K (FW E d v) w)(hg:FU ds E g=true:=by rfl):Dw P n ds R ((⟨some d,op,ty,pos,af,g⟩,.p,anc) :: r) K E w:=JS hg hv h
def dpw (hv:PV P ⟨some d,op,ty,pos,af,g⟩ E v')(h:Dw P n ds R r K (FW E d v) w)(hg:FU ds E g=true:=by rfl)(hn:v'=v:=by conv=>lhs;whnf):Dw P n ds R ((⟨some d,op,ty,pos,af,g⟩,.p,anc) :: r) K E w:=F3 hg hv hn h
def dq (hv:LV P ⟨some d,op,ty,pos,af,g⟩ E w v)(h:Dw P n ds (λa b=>a=b) r K (FW E d v) w)(hg:FU ds E g=true:=by rfl):Dw P n ds (λa b=>a=b) ((⟨some d,op,ty,pos,af,g⟩,.l,anc) :: r) K E w:=UH hg hv h
def dn {T:TypeId}{b:Bool}(h:Dw P n ds R r K (FW E d v) w)(hg:FU ds E g=true:=by rfl)(hx:ev E x=.bool b:=by rfl)(hn:Value.bool (!b)=v:=by conv=>lhs;whnf):Dw P n ds R ((⟨some d,.unOp .not T x,ty,pos,af,g⟩,.p,anc) :: r) K E w:=F3 hg (X9z hx) hn h
variable {a:Operand}
def dk' {c b:Operand}{t:Bool}{x y:Value}(h:Dw P n ds R r K (FW E d v) w)(hg:FU ds E g=true:=by rfl)(hc:ev E c=.bool t:=by rfl)(ha:ev E a=x:=by rfl)(hb:ev E b=y:=by rfl)(hn:(if t then x else y)=v:=by conv=>lhs;whnf):Dw P n ds R ((⟨some d,.pick c a b,ty,pos,af,g⟩,.p,anc) :: r) K E w:=F3 hg (X58 hc ha hb) hn h
def flOf : Op->Fl
 | .load .. | .lookup .. | .entry ..=>.l
 | .move .. | .assign .. | .pick .. | .nilCheck .. | .binOp .. | .unOp .. | .convert .. | .slice .. | .fieldAddr .. | .field .. | .indexAddr .. | .index .. | .extract .. | .build .. | .makeInterface .. | .makeFunc .. | .sliceToArrayPointer ..=>.p
 | .call c=>(match c.callee with | .builtin .len | .builtin .cap | .builtin .min | .builtin .max=>.p|_=>.x)
 | _=>.x
def OV : List Oper->List Fl
 | []=>[]
 | o :: r=>flOf o.op :: OV r
def UO : ∀l:List Oper,(OV l).length=l.length
 | []=>rfl
 | o :: r=>by simp [OV,UO r]
variable {Q:Exit->FF->World->Prop}
def wr {id:Nat}{l:List Oper}(h:Dw P n (l.map (·.dst)) (λa b=>a=b) (NB l (OV l)) (λE w=>Q .normal E w) E w):W P n (.region id l.toArray false) Q E w:=
 Ka (OV l) (by rw[UO];simp) h
variable {t:Nat}
def ro {fn:Func}{R:Ending->World->Prop}(h:R (.returned v) w)(hr:fn.results=#[.tmp t]:=by rfl)(ht:Nat.blt t n=true:=by rfl)(hv:E t=v:=by conv=>lhs;whnf):JN P fn n R .ret E w:=X6e hr ht hv h
def rt {fn:Func}{s:Nat}{u:Value}{R:Ending->World->Prop}(h:R (.returned (.tuple #[v,u])) w)(hr:fn.results=#[.tmp t,.tmp s]:=by rfl)(ht:Nat.blt t n=true:=by rfl)(hs:Nat.blt s n=true:=by rfl)(hv:E t=v:=by conv=>lhs;whnf)(hu:E s=u:=by conv=>lhs;whnf):JN P fn n R .ret E w:=X6f hr ht hs hv hu h
variable {y:Code}
def wi {c:Operand}{x:Code}{p:Prop}[Decidable p](ht:p->W P n x Q E w)(hf:¬ p->W P n y Q E w)(hc:ev E c=.bool (decide p):=by rfl):W P n (.cond c x y) Q E w:=Yd8 hc ht hf
def wc {c:Operand}{x:Code}{t:Bool}(ht:t=true->W P n x Q E w)(hf:t=false->W P n y Q E w)(hc:ev E c=.bool t:=by rfl):W P n (.cond c x y) Q E w:=Ov hc ht hf
variable {T m:Nat}
def di {y:Operand}{i:Nat}(e k:Nat)(hv:Gq v m)(hy:ev E y=I i)(hi:i<m)(h:Dw P n ds R r K (FW E d (Fh (base v).1 ((base v).2+i*k))) w)(hg:FU ds E g=true:=by rfl)(hx:ev E x=v:=by rfl)(hT:IS P T=some (e,k):=by kernel_rfl):Dw P n ds R ((⟨some d,.indexAddr T x y,ty,pos,af,g⟩,.p,anc) :: r) K E w:=JS hg (Ir hT hv hx hy hi) h
def dv (e k:Nat)(hv:Gq v m)(h:Dw P n ds R r K (FW E d (I m)) w)(hg:FU ds E g=true:=by rfl)(hx:ev E x=v:=by rfl)(hT:IS P T=some (e,k):=by kernel_rfl):Dw P n ds R ((⟨some d,.call { callee:=.builtin .len,args:=#[x],argTypes:=#[T] },ty,pos,af,g⟩,.p,anc) :: r) K E w:=JS hg (OM hT hv hx) h
def dt {T:TypeId}{a:Fj}(hx:ev E x=S a)(h:Dw P n ds R r K (FW E d (I a.length)) w)(hg:FU ds E g=true:=by rfl)(hT:Kr P T=true:=by kernel_rfl):Dw P n ds R ((⟨some d,.call { callee:=.builtin .len,args:=#[x],argTypes:=#[T] },ty,pos,af,g⟩,.p,anc) :: r) K E w:=JS hg (X6a hT hx) h
variable {vs:List Value}
def dx {i:Nat}(hx:ev E x=.tuple ⟨vs⟩)(hv:vs[i]?=some v)(h:Dw P n ds R r K (FW E d v) w)(hg:FU ds E g=true:=by rfl):Dw P n ds R ((⟨some d,.extract x i,ty,pos,af,g⟩,.p,anc) :: r) K E w:=JS hg (WP hx hv) h
def dz {a:Addr}(hx:ev E x=.pointer (some a))(h:Dw P n ds R r K (FW E d (.pointer (some a))) w)(hg:FU ds E g=true:=by rfl):Dw P n ds R ((⟨some d,.nilCheck x,ty,pos,af,g⟩,.p,anc) :: r) K E w:=JS hg (X6b hx) h
variable {ats:Array TypeId}{az:List Operand}{f:Nat}
def cP (hc:Calls P f vs.toArray w (Pure w v))(hR:RX R anc)(h:∀w1,Fq w w1->Dw P n ds R r K (FW E d v) w1)(hg:FU ds E g=true:=by rfl)(hf:Hr P f=true:=by kernel_rfl)(ha:az.map (ev E)=vs:=by rfl):Dw P n ds R ((⟨some d,.call { callee:=.value (.func f),args:=az.toArray,argTypes:=ats },ty,pos,af,g⟩,.x,anc) :: r) K E w:=X6d hg hf hc ha hR h
variable {F:Value->World->Prop}
def cG (hc:Calls P f vs.toArray w (Hb w F))(hR:RX R anc)(h:∀v w1,Fq w w1->F v w1->Dw P n ds R r K (FW E d v) w1)(hg:FU ds E g=true:=by rfl)(hf:Hr P f=true:=by kernel_rfl)(ha:az.map (ev E)=vs:=by rfl):Dw P n ds R ((⟨some d,.call { callee:=.value (.func f),args:=az.toArray,argTypes:=ats },ty,pos,af,g⟩,.x,anc) :: r) K E w:=UI hg hf hc ha hR h
def cD {S:Nat->Prop}(hc:Calls P f vs.toArray w (Hp S w F))(hR:anc=true\/∀w',Mod S w w'->R w w')(h:∀v w1,Mod S w w1->F v w1->Dw P n ds R r K (FW E d v) w1)(hg:FU ds E g=true:=by rfl)(hf:Hr P f=true:=by kernel_rfl)(ha:az.map (ev E)=vs:=by rfl):Dw P n ds R ((⟨some d,.call { callee:=.value (.func f),args:=az.toArray,argTypes:=ats },ty,pos,af,g⟩,.x,anc) :: r) K E w:=Jz hg hf hc ha hR h
def de {K1:FF->World->Prop}(hK:∀E w,W P n y Q E w->K1 E w)(h:W P n y Q E w):Dw P n ds R [] K1 E w:=hK E w h
variable {b o:Nat}
def df (k:Nat)(hx:ev E x=Fh b o)(h:Dw P n ds R r K (FW E d (Fh b (o+k))) w)(hg:FU ds E g=true:=by rfl)(hT:Mr P T f=some k:=by kernel_rfl):Dw P n ds R ((⟨some d,.fieldAddr T x f,ty,pos,af,g⟩,.p,anc) :: r) K E w:=JS hg (Xvd hT hx) h
def dl (hx:ev E x=Fh b o)(hc:w.cell? ⟨b,o,none⟩=some v)(h:Dw P n ds (λa b=>a=b) r K (FW E d v) w)(hg:FU ds E g=true:=by rfl)(hT:LP P T=true:=by kernel_rfl):Dw P n ds (λa b=>a=b) ((⟨some d,.load T x,ty,pos,af,g⟩,.l,anc) :: r) K E w:=UH hg (NE hT hx hc) h
def dL (hx:ev E x=Fh b o)(hc:∀w',R w w'->w'.cell? ⟨b,o,none⟩=some v)(h:Dw P n ds R r K (FW E d v) w)(hg:FU ds E g=true:=by rfl)(hT:LP P T=true:=by kernel_rfl):Dw P n ds R ((⟨some d,.load T x,ty,pos,af,g⟩,.l,anc) :: r) K E w:=Gh hg (λw' hR=>NE hT hx (hc w' hR)) h
def pa {y:Operand}{T U:TypeId}{a b:Int}(hx:ev E x=I a)(hy:ev E y=I b)(h:Dw P n ds R r K (FW E d (I (a+b))) w)(hI:Ge (a+b):=by unfold Ge;omega)(hg:FU ds E g=true:=by rfl):Dw P n ds R ((⟨some d,.binOp .add T x y U,ty,pos,af,g⟩,.p,anc) :: r) K E w:=JS hg (GK hx hy hI) h
def ps {y:Operand}{T U:TypeId}{a b:Int}(hx:ev E x=I a)(hy:ev E y=I b)(h:Dw P n ds R r K (FW E d (I (a-b))) w)(hI:Ge (a-b):=by unfold Ge;omega)(hg:FU ds E g=true:=by rfl):Dw P n ds R ((⟨some d,.binOp .sub T x y U,ty,pos,af,g⟩,.p,anc) :: r) K E w:=JS hg (G7 hx hy hI) h
def KW {T':Nat}{cs:List Value}(hb:Fp w b cs T')(h:∀w1,Mod (Fv b) w w1->w1.heap.size=w.heap.size->Fp w1 b (cs.set o v) T'->Dw P n ds R r K E w1)(hg:FU ds E g=true:=by rfl)(ha:ev E a=Fh b o:=by rfl)(hx:ev E x=v:=by conv=>lhs;whnf)(hv:v.oneCell'=true:=by rfl)(hs:My P T=some 1:=by kernel_rfl)(ho:o<cs.length:=by exact Nat.le_of_ble_eq_true rfl)(hR:anc=true\/∀w',Mod (Fv b) w w'->R w w':=by exact .inl rfl):Dw P n ds R ((⟨none,.store T a x,ty,pos,af,g⟩,.x,anc) :: r) K E w:=Kc hg ha hx hv hs hb ho hR h
def stA {T':Nat}{cs:List Value}(hb:Fp w b cs T')(h:∀w1,Mod (Fv b) w w1->w1.heap.size=w.heap.size->Fp w1 b (Gw cs o vs) T'->Dw P n ds R r K E w1)(hg:FU ds E g=true:=by rfl)(ha:ev E a=Fh b o:=by rfl)(hx:ev E x=v:=by conv=>lhs;whnf)(hv:v.cells=⟨vs⟩:=by exact rfl)(hs:My P T=some vs.length:=by kernel_rfl)(ho:o+vs.length<=cs.length:=by exact Nat.le_of_ble_eq_true rfl)(h1:∀v∈vs,v.oneCell'=true:=by simp [Value.oneCell'])(hR:anc=true\/∀w',Mod (Fv b) w w'->R w w':=by exact .inl rfl):Dw P n ds R ((⟨none,.store T a x,ty,pos,af,g⟩,.x,anc) :: r) K E w:=Pk hg ha hx hv hs hb ho h1 hR h
variable {pv:List (Nat×Value)}{zs:List Value}
def db {ps:List (Nat×Operand)}{cs:List Value}{pl:List (Nat×Nat)}(h:Dw P n ds R r K (FW E d (.agg ⟨cs⟩)) w)(hg:FU ds E g=true:=by rfl)(hz:KX P T=some zs:=by kernel_rfl)(hp:Sq P T=some pl:=by kernel_rfl)(hv:Ls E ps pv:=by repeat' (first|exact trivial|refine⟨rfl,?_,?_⟩|(conv=>lhs;whnf)))(hf:Hs (λi=>pl[i]?) zs pv=some cs:=by rfl):Dw P n ds R ((⟨some d,.build T ps.toArray,ty,pos,af,g⟩,.p,anc) :: r) K E w:=JS hg (Mh hz hp hv hf) h
def li {e sz:Nat}{ps:List (Nat×Operand)}{cs:List Value}(hR:RX R anc)(h:∀b w1,b=w.heap.size->Fq w w1->Fp w1 b cs e->Dw P n ds R r K (FW E d (.slice (some ⟨b,0,none⟩) m m)) w1)(hg:FU ds E g=true:=by rfl)(ht:IS P t=some (e,sz):=by kernel_rfl)(hm:Nat.blt 0 (m*sz)=true/\Nat.ble (m*sz) 16777216=true:=by exact⟨rfl,rfl⟩)(hz:KX P e=some zs:=by kernel_rfl)(hzs:Nat.beq zs.length sz=true:=by rfl)(hv:Ls E ps pv:=by repeat' (first|exact trivial|refine⟨rfl,?_,?_⟩|(conv=>lhs;whnf)))(hf:Hs (λi=>some (i*sz,sz)) ((List.replicate m zs).flatten) pv=some cs:=by rfl):Dw P n ds R ((⟨some d,.buildSlice t m ps.toArray,ty,pos,af,g⟩,.x,anc) :: r) K E w:=It hg ht hm hz hzs hv hf hR h
end
section
variable {a b c w w':World}{i j:Nat}{S T:Nat->Prop}{cs:List Value}{t:TypeId}{α:Type}{enc:α->List Value}{sz B Ty:Nat}{v:Value}{l:List α}
def Fq.ge (h:Fq a b)(e:i=b.heap.size):a.heap.size<=i:=by have:=h.size;omega
def Mod.ge (h:Mod T a b)(e:i=b.heap.size):a.heap.size<=i:=by have:=h.size;omega
def Fp.ltb (h:Fp w j cs t)(e:i=w.heap.size):j<i:=by have:=h.lt;omega
def Own.ltb (h:Own enc sz Ty B w v l)(e:i=w.heap.size):∀k,v.ownBlock=some k->k<i:=λk hk=>by have:=(h.lt k hk).2;omega
def Fq.o1 (h:Fq a b)(k:Mod (Fv i) b c)(hi:a.heap.size<=i:=by omega):Fq a c:=h.own k (λj z=>by have:j=i:=z;omega)
def Mod.o1 (h:Mod T a b)(k:Mod (Fv i) b c)(hi:a.heap.size<=i:=by omega):Mod T a c:=h.own k (λj z hlt=>by have:j=i:=z;omega)
def Fp.mo (h:Fp w j cs t)(m:Mod (Fv i) w w')(hn:¬ Fv i j:=by first|assumption|(intro h;have h2:_=_:=h;omega)):Fp w' j cs t:=h.mod m hn
def FE (e:w'=w.drew):Fq w w':=by rw[e];exact Fq.drew _
end
class Up (w w':World) (p:Prop) (q:outParam Prop):Prop where
 u:Fq w w'->p->q
section
variable {w w':World}{G p1 p2 p3 p4 p5 p6 p7 p8 q1 q2 q3 q4 q5 q6 q7 q8:Prop}
instance {b : Nat} {cs:List Value} {T:TypeId} : Up w w' (Fp w b cs T) (Fp w' b cs T):=⟨λx h=>h.ext x⟩
instance {α : Type} {enc:α->List Value} {sz:Nat} {v:Value} {l:List α} : Up w w' (Fu enc sz w v l) (Fu enc sz w' v l):=⟨λx h=>h.ext x⟩
instance {α : Type} {enc:α->List Value} {sz T B:Nat} {v:Value} {l:List α} : Up w w' (Own enc sz T B w v l) (Own enc sz T B w' v l):=⟨λx h=>h.ext x⟩
instance {S : Nat->Prop} {a:World} : Up w w' (Mod S a w) (Mod S a w'):=⟨λx h=>h.ext x⟩
instance {a : World} : Up w w' (Fq a w) (Fq a w'):=⟨λx h=>Mod.ext h x⟩
instance {κ α:Type} {P:Program} {k:TypeId} {kv:κ->Value} {av:α->Value} {b n:Nat} {f:κ->Option α} : Up w w' (Xbd P k kv av w b n f) (Xbd P k kv av w' b n f):=⟨λx h=>h.ext x⟩
instance {P : Program} {κ α:Type} {k:TypeId} {kv:κ->Value} {av:α->Value} {b r n cnt:Nat} {f:κ->Option α} {left:κ->Prop} : Up w w' (Xa4 P k kv av w b r n f left cnt) (Xa4 P k kv av w' b r n f left cnt):=⟨λx h=>h.ext x⟩
def Fy (x:Fq w w')(a1:p1)(a2:p2)[h1:Up w w' p1 q1][h2:Up w w' p2 q2](k:q1->q2->G):G:=k (h1.u x a1) (h2.u x a2)
def FC (x:Fq w w')(a1:p1)(a2:p2)(a3:p3)[h1:Up w w' p1 q1][h2:Up w w' p2 q2][h3:Up w w' p3 q3](k:q1->q2->q3->G):G:=k (h1.u x a1) (h2.u x a2) (h3.u x a3)
def FQ (x:Fq w w')(a1:p1)(a2:p2)(a3:p3)(a4:p4)[h1:Up w w' p1 q1][h2:Up w w' p2 q2][h3:Up w w' p3 q3][h4:Up w w' p4 q4](k:q1->q2->q3->q4->G):G:=k (h1.u x a1) (h2.u x a2) (h3.u x a3) (h4.u x a4)
def Ga (x:Fq w w')(a1:p1)(a2:p2)(a3:p3)(a4:p4)(a5:p5)[h1:Up w w' p1 q1][h2:Up w w' p2 q2][h3:Up w w' p3 q3][h4:Up w w' p4 q4][h5:Up w w' p5 q5](k:q1->q2->q3->q4->q5->G):G:=k (h1.u x a1) (h2.u x a2) (h3.u x a3) (h4.u x a4) (h5.u x a5)
def HB (x:Fq w w')(a1:p1)(a2:p2)(a3:p3)(a4:p4)(a5:p5)(a6:p6)[h1:Up w w' p1 q1][h2:Up w w' p2 q2][h3:Up w w' p3 q3][h4:Up w w' p4 q4][h5:Up w w' p5 q5][h6:Up w w' p6 q6](k:q1->q2->q3->q4->q5->q6->G):G:=k (h1.u x a1) (h2.u x a2) (h3.u x a3) (h4.u x a4) (h5.u x a5) (h6.u x a6)
def Lv (x:Fq w w')(a1:p1)(a2:p2)(a3:p3)(a4:p4)(a5:p5)(a6:p6)(a7:p7)[h1:Up w w' p1 q1][h2:Up w w' p2 q2][h3:Up w w' p3 q3][h4:Up w w' p4 q4][h5:Up w w' p5 q5][h6:Up w w' p6 q6][h7:Up w w' p7 q7](k:q1->q2->q3->q4->q5->q6->q7->G):G:=k (h1.u x a1) (h2.u x a2) (h3.u x a3) (h4.u x a4) (h5.u x a5) (h6.u x a6) (h7.u x a7)
def Jj (x:Fq w w')(a1:p1)(a2:p2)(a3:p3)(a4:p4)(a5:p5)(a6:p6)(a7:p7)(a8:p8)[h1:Up w w' p1 q1][h2:Up w w' p2 q2][h3:Up w w' p3 q3][h4:Up w w' p4 q4][h5:Up w w' p5 q5][h6:Up w w' p6 q6][h7:Up w w' p7 q7][h8:Up w w' p8 q8](k:q1->q2->q3->q4->q5->q6->q7->q8->G):G:=k (h1.u x a1) (h2.u x a2) (h3.u x a3) (h4.u x a4) (h5.u x a5) (h6.u x a6) (h7.u x a7) (h8.u x a8)
end
@[reducible] def Hf (f:Nat):Value:=.func (.func f) #[] #[]
section
variable {P:Program}{n:Nat}{ds:List (Option Tmp)}{R:World->World->Prop}{r:List (Oper×Fl×Bool)}{K:FF->World->Prop}{E:FF}{w:World}
variable {d:Nat}{op:Op}{ty:TypeId}{pos:String}{af:Array Edge}{g:Option (Nat×Bool)}{anc:Bool}{v:Value}
variable {ats:Array TypeId}{az:List Operand}{vs:List Value}
def X6i {f t:Nat}{R1:Ending->World->Prop}(hg:FU ds E g=true)(hv:E t=Hf f)(hf:Hr P f=true)(ha:az.map (ev E)=vs)(hc:Calls P f vs.toArray w R1)(h:∀e w1,R1 e w1->∃v,e=.returned v/\(anc=false->R w w1)/\Dw P n ds R r K (FW E d v) w1):
  Dw P n ds R ((⟨some d,.call { callee:=.value (.tmp t),args:=az.toArray,argTypes:=ats },ty,pos,af,g⟩,.x,anc) :: r) K E w:=by
 refine Oa hg λok=>?_;unfold Hr at hf
 cases hp:P.funcs[f]? with
 | none=>rw[hp]at hf;simp at hf
 | some fn=>
  rw[hp]at hf;simp only [Aw,BW]at hf;obtain⟨h1,h2⟩:=hf;have h3:fn.body≠none:=by cases hb:fn.body<;>simp [hb]at h2 ⊢
  have h1' : fn.name ≠ "runtime.NumGoroutine" := by simpa using h1
  have hr:(execOp (ev E) ⟨some d,.call { callee:=.value (.tmp t),args:=az.toArray,argTypes:=ats },ty,pos,af,g⟩).run P w=.ok (.enter f vs.toArray) w:=by
   simp [execOp,resolve,ev,hv,Deferred.ofValue,invoke,callFunc,program,Sem.run,hp,h1',h3,ha]
  unfold Oper.wp;rw[MY ok,hr];simp only [Oper.upon];refine Calls.mono hc λe w1 h1=>?_;obtain⟨v,rfl,hR,hd⟩:=h e w1 h1;exact⟨_,Jm _ _ _ _,hR,hd⟩
def Mm {f t:Nat}(hg:FU ds E g=true)(hv:E t=Hf f)(hf:Hr P f=true)(hc:Calls P f vs.toArray w (Pure w v))(ha:az.map (ev E)=vs)(hR:RX R anc)(h:∀w1,Fq w w1->Dw P n ds R r K (FW E d v) w1):
  Dw P n ds R ((⟨some d,.call { callee:=.value (.tmp t),args:=az.toArray,argTypes:=ats },ty,pos,af,g⟩,.x,anc) :: r) K E w:=
 X6i hg hv hf ha hc λe w1 ⟨he,hx⟩=>⟨v,he,hR.use hx,h w1 hx⟩
end
section
variable {P:Program}{n:Nat}{E:FF}{w:World}{v:Value}
variable {R:Ending->World->Prop}
def Xvv {fn:Func}{t s q:Nat}{u x:Value}(hr:fn.results=#[.tmp t,.tmp s,.tmp q])(ht:AS t n=true)(hs:AS s n=true)(hq:AS q n=true)(hv:E t=v)(hu:E s=u)(hx:E q=x)(h:R (.returned (.tuple #[v,u,x])) w):JN P fn n R .ret E w:=by
 have J:t<n:=by simpa [Bm]using ht
 have z:s<n:=by simpa [Bm]using hs
 have O:q<n:=by simpa [Bm]using hq
 refine⟨.tuple #[v,u,x],?_,h⟩;simp [results,hr,H1,J,hv,z,hu,O,hx]
def rt3 {fn:Func}{t s q:Nat}{u x:Value}(h:R (.returned (.tuple #[v,u,x])) w)(hr:fn.results=#[.tmp t,.tmp s,.tmp q]:=by rfl)(ht:Nat.blt t n=true:=by rfl)(hs:Nat.blt s n=true:=by rfl)(hq:Nat.blt q n=true:=by rfl)(hv:E t=v:=by conv=>lhs;whnf)(hu:E s=u:=by conv=>lhs;whnf)(hx:E q=x:=by conv=>lhs;whnf):JN P fn n R .ret E w:=Xvv hr ht hs hq hv hu hx h
end
end Go.Vc

namespace Go.Vc
open Go.RowKit
def QO : IntKind->Bool
 | .u8=>false
 | _=>true
section
variable {P:Program}{n:Nat}{ds:List (Option Tmp)}{R:World->World->Prop}{r:List (Oper×Fl×Bool)}{K:FF->World->Prop}{E:FF}{w:World}{Q:Exit->FF->World->Prop}
variable {d:Nat}{op:Op}{ty:TypeId}{pos:String}{af:Array Edge}{g:Option (Nat×Bool)}{anc:Bool}{v v':Value}{id id':Nat}
def wS {x y:Code}(h:W P n x (Ix (λE w=>W P n y Q E w) Q) E w):W P n (.seq x y) Q E w:=
 XC λ_ J=>V3 h λe _ _ z=>by cases e<;>first|exact J _ _ z|exact z
def kN (h:K E w):Ix K Q .normal E w:=h
def kX (h:Q (.exit id) E w):Ix K Q (.exit id) E w:=h
def kR (h:Q .ret E w):Ix K Q .ret E w:=h
def bN (h:Q .normal E w):NI id Q .normal E w:=h
def bR (h:Q .ret E w):NI id Q .ret E w:=h
def bX (h:Q .normal E w):NI id Q (.exit id) E w:=by
 have e:AM id id=true:=Ew id;show cond (AM id id) (Q .normal E w) (Q (.exit id) E w);rw[e];exact h
def bY (h:Q (.exit id') E w)(hn:Nat.beq id' id=false:=by decide):NI id Q (.exit id') E w:=by
 show cond (Nat.beq id' id) (Q .normal E w) (Q (.exit id') E w);rw[hn];exact h
def oN (h:Q .normal E w):Ms Q .normal E w:=h
def oX (h:Q (.exit id) E w):Ms Q (.exit id) E w:=h
def oR (h:Q .ret E w):Ms Q .ret E w:=h
variable {t:Bool}
def wT {c:Operand}{x y:Code}(h:W P n x Q E w)(hc:ev E c=.bool t:=by(conv=>lhs;whnf)<;>fail)(ht:t=true:=by with_reducible rfl):W P n (.cond c x y) Q E w:=
 Ov hc (λ_=>h) (λe=>by rw[ht]at e;cases e)
def wF {c:Operand}{x y:Code}(h:W P n y Q E w)(hc:ev E c=.bool t:=by(conv=>lhs;whnf)<;>fail)(ht:t=false:=by with_reducible rfl):W P n (.cond c x y) Q E w:=
 Ov hc (λe=>by rw[ht]at e;cases e) (λ_=>h)
def dE (h:K E w):Dw P n ds R [] K E w:=h
variable {b o:Nat}{x:Operand}
def dF {T f:Nat}(h:Dw P n ds R r K (FW E d (Fh b (o+f))) w)(hx:ev E x=Fh b o:=by rfl)(hT:Mr P T f=some f:=by decide +kernel):Dw P n ds R ((⟨some d,.fieldAddr T x f,ty,pos,af,none⟩,.p,anc) :: r) K E w:=df f hx h rfl hT
def dZ {a:Addr}(h:Dw P n ds R r K (FW E d (.pointer (some a))) w)(hx:ev E x=.pointer (some a):=by rfl):Dw P n ds R ((⟨some d,.nilCheck x,ty,pos,af,none⟩,.p,anc) :: r) K E w:=dz hx h rfl
variable {vs:List Value}
def dX {i:Nat}(h:Dw P n ds R r K (FW E d v) w)(hx:ev E x=.tuple ⟨vs⟩:=by rfl)(hv:vs[i]?=some v:=by rfl):Dw P n ds R ((⟨some d,.extract x i,ty,pos,af,none⟩,.p,anc) :: r) K E w:=dx hx hv h rfl
def dA {T:Nat}{cs:List Value}{T':TypeId}(h:Dw P n ds (λa b=>a=b) r K (FW E d v) w)(hx:ev E x=Fh b o:=by rfl)(hb:Fp w b cs T':=by with_reducible assumption)(hv:cs[o]?=some v:=by rfl)(hT:LP P T=true:=by decide +kernel):Dw P n ds (λa b=>a=b) ((⟨some d,.load T x,ty,pos,af,none⟩,.l,anc) :: r) K E w:=dl hx (hb.at hv) h rfl hT
def dAx {T:Nat}{cs:List Value}{T':TypeId}(h:Dw P n ds Fq r K (FW E d v) w)(hx:ev E x=Fh b o:=by rfl)(hb:Fp w b cs T':=by with_reducible assumption)(hv:cs[o]?=some v:=by rfl)(hT:LP P T=true:=by decide +kernel):Dw P n ds Fq ((⟨some d,.load T x,ty,pos,af,none⟩,.l,anc) :: r) K E w:=dL hx (λ_ hR=>(hb.ext hR).at hv) h rfl hT
variable {T:TypeId}
def dT {a:Fj}(h:Dw P n ds R r K (FW E d (I a.length)) w)(hx:ev E x=S a:=by rfl)(hT:Kr P T=true:=by decide +kernel):Dw P n ds R ((⟨some d,.call { callee:=.builtin .len,args:=#[x],argTypes:=#[T] },ty,pos,af,none⟩,.p,anc) :: r) K E w:=dt hx h rfl hT
variable {U:TypeId}{a:Int}{k:IntKind}{y:Operand}
def bl {b:Int}(h:Dw P n ds R r K (FW E d (.bool (decide (a<b)))) w)(hx:ev E x=.int k a:=by rfl)(hy:ev E y=.int k b:=by rfl)(hk:QO k=true:=by rfl):Dw P n ds R ((⟨some d,.binOp .lss T x y U,ty,pos,af,none⟩,.p,anc) :: r) K E w:=JS rfl (YI hx hy) h
def bg {b:Int}(h:Dw P n ds R r K (FW E d (.bool (decide (b<a)))) w)(hx:ev E x=.int k a:=by rfl)(hy:ev E y=.int k b:=by rfl)(hk:QO k=true:=by rfl):Dw P n ds R ((⟨some d,.binOp .gtr T x y U,ty,pos,af,none⟩,.p,anc) :: r) K E w:=JS rfl (X9y hx hy) h
def be {b:Int}(h:Dw P n ds R r K (FW E d (.bool (decide (a=b)))) w)(hx:ev E x=.int k a:=by rfl)(hy:ev E y=.int k b:=by rfl)(hk:QO k=true:=by rfl):Dw P n ds R ((⟨some d,.binOp .eql T x y U,ty,pos,af,none⟩,.p,anc) :: r) K E w:=JS rfl (Vl hx hy) h
def bn {b:Int}(h:Dw P n ds R r K (FW E d (.bool (decide (a≠b)))) w)(hx:ev E x=.int k a:=by rfl)(hy:ev E y=.int k b:=by rfl)(hk:QO k=true:=by rfl):Dw P n ds R ((⟨some d,.binOp .neq T x y U,ty,pos,af,none⟩,.p,anc) :: r) K E w:=JS rfl (X4h hx hy) h
def bp {b:Int}(h:Dw P n ds R r K (FW E d (I (a+b))) w)(hx:ev E x=I a:=by rfl)(hy:ev E y=I b:=by rfl)(hI:Ge (a+b):=by unfold Ge;omega):Dw P n ds R ((⟨some d,.binOp .add T x y U,ty,pos,af,none⟩,.p,anc) :: r) K E w:=pa hx hy h hI rfl
def bm {b:Int}(h:Dw P n ds R r K (FW E d (I (a-b))) w)(hx:ev E x=I a:=by rfl)(hy:ev E y=I b:=by rfl)(hI:Ge (a-b):=by unfold Ge;omega):Dw P n ds R ((⟨some d,.binOp .sub T x y U,ty,pos,af,none⟩,.p,anc) :: r) K E w:=ps hx hy h hI rfl
def gm (h:Dw P n ds R r K (FW E d v) w)(hx:ev E x=v:=by conv=>lhs;whnf):Dw P n ds R ((⟨some d,.move x,ty,pos,af,none⟩,.p,anc) :: r) K E w:=dm h rfl hx
def ga (h:Dw P n ds R r K (FW E d v) w)(hx:ev E x=v:=by conv=>lhs;whnf):Dw P n ds R ((⟨some d,.assign x,ty,pos,af,none⟩,.p,anc) :: r) K E w:=da h rfl hx
def gt {b:Bool}(h:Dw P n ds R r K (FW E d v) w)(hx:ev E x=.bool b:=by rfl)(hn:Value.bool (!b)=v:=by conv=>lhs;whnf):Dw P n ds R ((⟨some d,.unOp .not T x,ty,pos,af,none⟩,.p,anc) :: r) K E w:=dn h rfl hx hn
def gt1 {b:Bool}(h:Dw P n ds R r K (FW E d (.bool false)) w)(hx:ev E x=.bool b:=by(conv=>lhs;whnf)<;>fail)(hb:b=true:=by with_reducible rfl):Dw P n ds R ((⟨some d,.unOp .not T x,ty,pos,af,none⟩,.p,anc) :: r) K E w:=dn h rfl hx (by rw[hb];rfl)
def gt0 {b:Bool}(h:Dw P n ds R r K (FW E d (.bool true)) w)(hx:ev E x=.bool b:=by(conv=>lhs;whnf)<;>fail)(hb:b=false:=by with_reducible rfl):Dw P n ds R ((⟨some d,.unOp .not T x,ty,pos,af,none⟩,.p,anc) :: r) K E w:=dn h rfl hx (by rw[hb];rfl)
def gi {c a b:Operand}{x y:Value}(h:Dw P n ds R r K (FW E d v) w)(hc:ev E c=.bool t:=by rfl)(ha:ev E a=x:=by rfl)(hb:ev E b=y:=by rfl)(hn:(if t then x else y)=v:=by conv=>lhs;whnf):Dw P n ds R ((⟨some d,.pick c a b,ty,pos,af,none⟩,.p,anc) :: r) K E w:=dk' h rfl hc ha hb hn
variable {f:Fl}
def Yea {o:Option Tmp}(h:Dw P n ds R ((⟨o,op,ty,pos,af,none⟩,f,anc) :: r) K E w)(hg:FU ds E g=true):Dw P n ds R ((⟨o,op,ty,pos,af,g⟩,f,anc) :: r) K E w:=by
 cases f<;>(unfold Dw at h ⊢;rw[if_pos (show FU ds E none=true from rfl)]at h;rw[if_pos (show FU ds E (Oper.guard ⟨o,op,ty,pos,af,g⟩)=true from hg)];exact h)
variable {j s:Nat}{want:Bool}
def gd {o:Option Tmp}(h:Dw P n ds R ((⟨o,op,ty,pos,af,none⟩,f,anc) :: r) K E w)(hj:IW ds j=some s:=by rfl)(he:E s=.bool t:=by(conv=>lhs;whnf)<;>fail)(ht:t=want:=by with_reducible rfl):Dw P n ds R ((⟨o,op,ty,pos,af,some (j,want)⟩,f,anc) :: r) K E w:=
 Yea h (by unfold FU;simp [hj,he,ht])
def nb : Value->Bool
 | .bool _=>false
 | _=>true
def Qg (hj:IW ds j=some s)(he:E s=.bool t)(ht:t=!want):FU ds E (some (j,want))=false:=by
 unfold FU;cases want<;>simp [hj,he,ht]
def Yeb (hj:IW ds j=some s)(he:nb (E s)=true):FU ds E (some (j,want))=false:=by
 unfold FU;simp only [hj];revert he;cases E s<;>simp [nb]
def gs (h:Dw P n ds R r K (FW E d undef) w)(hj:IW ds j=some s:=by rfl)(he:E s=.bool t:=by(conv=>lhs;whnf)<;>fail)(ht:t=false:=by with_reducible rfl):Dw P n ds R ((⟨some d,op,ty,pos,af,some (j,true)⟩,f,anc) :: r) K E w:=Rm (Qg hj he ht) h
def gs1 (h:Dw P n ds R r K (FW E d undef) w)(hj:IW ds j=some s:=by rfl)(he:E s=.bool t:=by(conv=>lhs;whnf)<;>fail)(ht:t=true:=by with_reducible rfl):Dw P n ds R ((⟨some d,op,ty,pos,af,some (j,false)⟩,f,anc) :: r) K E w:=Rm (Qg hj he ht) h
def gs2 (h:Dw P n ds R r K (FW E d undef) w)(hj:IW ds j=some s:=by rfl)(he:nb (E s)=true:=by rfl):Dw P n ds R ((⟨some d,op,ty,pos,af,some (j,want)⟩,f,anc) :: r) K E w:=Rm (Yeb hj he) h
def gs3 (h:Dw P n ds R r K E w)(hj:IW ds j=some s:=by rfl)(he:E s=.bool t:=by(conv=>lhs;whnf)<;>fail)(ht:t=false:=by with_reducible rfl):Dw P n ds R ((⟨none,op,ty,pos,af,some (j,true)⟩,f,anc) :: r) K E w:=XO (Qg hj he ht) h
def gs4 (h:Dw P n ds R r K E w)(hj:IW ds j=some s:=by rfl)(he:E s=.bool t:=by(conv=>lhs;whnf)<;>fail)(ht:t=true:=by with_reducible rfl):Dw P n ds R ((⟨none,op,ty,pos,af,some (j,false)⟩,f,anc) :: r) K E w:=XO (Qg hj he ht) h
def O4 (P:Program)(e:Nat):Nat:=match P.info? e with|some i=>i.bytes|none=>0
variable {e:Nat}
def Ht {α:Type}{enc:α->List Value}{s:Operand}{t sz B:Nat}{vx:Value}{l lx:List α}(hown:Own enc sz e B w v l)(hax:Fu enc sz w vx lx)(h:∀v' w',Own enc sz e B w' v' (l++lx)->Mod (λk=>v.ownBlock=some k) w w'->Dw P n ds R r K (FW E d v') w')(hg:FU ds E g=true:=by rfl)(hs:ev E s=v:=by rfl)(hx:ev E x=vx:=by rfl)(ht:IS P t=some (e,sz):=by kernel_rfl)(hE:(M4 P e sz (O4 P e) && Nat.ble (O4 P e) 127 && Nat.ble 1 (O4 P e))=true:=by kernel_rfl)(henc:∀x,(enc x).length=sz:=by intro x;rfl)(h1:∀x∈lx,∀u∈enc x,u.oneCell'=true:=by(intro x _ u hu;simp at hu;repeat (first|(subst hu;rfl)|(rcases hu with hu|hu; (subst hu;rfl)))))(hb:l.length+lx.length<=1100000000000:=by first|omega|(simp;omega))(hB:B<=w.heap.size:=by first|exact Mod.size (by assumption)|omega)(hR:anc=true\/∀w',Mod (λk=>v.ownBlock=some k) w w'->R w w':=by exact .inl rfl):
  Dw P n ds R ((⟨some d,.call { callee:=.builtin .append,args:=#[s,x],argTypes:=#[t,t] },ty,pos,af,g⟩,.x,anc) :: r) K E w:=by
 simp only [Bool.and_eq_true,Nat.ble_eq]at hE;exact Ip hg ht hE.1.1 henc hown hax hs hx h1 (Nat.le_trans (Nat.mul_le_mul hb hE.1.2) Fo) hE.2 hB hR h
variable {T':Nat}
def G8 {α:Type}{enc:α->List Value}{s:Operand}{t sz B:Nat}{cs:List Value}{l:List α}(c:α)(hown:Own enc sz e B w v l)(hm:Fp w b cs T')(h:∀v' w',Own enc sz e B w' v' (l++[c])->Mod (λk=>v.ownBlock=some k) w w'->Dw P n ds R r K (FW E d v') w')(hg:FU ds E g=true:=by rfl)(hs:ev E s=v:=by rfl)(hx:ev E x=.slice (some ⟨b,0,none⟩) 1 1:=by rfl)(hcs:cs=[c].flatMap enc:=by rfl)(ht:IS P t=some (e,sz):=by kernel_rfl)(hE:(M4 P e sz (O4 P e) && Nat.ble (O4 P e) 127 && Nat.ble 1 (O4 P e))=true:=by kernel_rfl)(henc:∀x,(enc x).length=sz:=by intro x;rfl)(h1:∀x∈[c],∀u∈enc x,u.oneCell'=true:=by(intro x _ u hu;simp at hu;repeat (first|(subst hu;rfl)|(rcases hu with hu|hu; (subst hu;rfl)))))(hb:l.length + [c].length<=1100000000000:=by first|(simp;omega)|omega)(hB:B<=w.heap.size:=by first|exact Mod.size (by assumption)|omega)(hR:anc=true\/∀w',Mod (λk=>v.ownBlock=some k) w w'->R w w':=by exact .inl rfl):
  Dw P n ds R ((⟨some d,.call { callee:=.builtin .append,args:=#[s,x],argTypes:=#[t,t] },ty,pos,af,g⟩,.x,anc) :: r) K E w:=
 Ht hown (hm.arr hcs henc rfl (Nat.le_of_ble_eq_true rfl)) h hg hs hx ht hE henc h1 hb hB hR
def flD (x:Nat):Fl:=match DM x 3 with|0=>.p|1=>.l|_=>.x
def pD : Nat->Nat->Nat->List (Nat×Fl×Bool)
 | 0,_,_=>[]
 | k+1,i,z=>cond (AM z 1) [] ((i,flD (DM z 10),B7 3 (DM z 10)) :: pD k (i+1) (Nat.div z 10))
def OT : List (Nat×Fl×Bool)->List Nat
 | []=>[]
 | (i,.l,_) :: r=>i :: OT r
 | _ :: r=>OT r
def wd {l:List Oper}(z:Nat)(h:∀w1,Fq w w1->Dw P n (l.map (·.dst)) Fq (JM l (pD 99 0 z)) (λE w=>Q .normal E w) E w1)(hm:P.follows .mixedOrders=true:=by kernel_rfl)
  (hl:Nat.beq (pD 99 0 z).length l.length=true:=by kernel_rfl) (hp:LB l.toArray (OT (pD 99 0 z)) (pD 99 0 z) (Array.replicate l.length false)=true:=by kernel_rfl) (hs:Region.noSelect l.toArray=true:=by kernel_rfl):W P n (.region id l.toArray true) Q E w:=
 HP (R:=Fq) Fq.refl (λ_ _ _=>Fq.trans) hm (OT (pD 99 0 z)) (pD 99 0 z) hl hp hs λw1 e=>h w1 (FE e)
def Yec {c:Code}{G:Type}(sl:G->List (Nat×Value))(F:G->World->Prop)(μ:G->Nat)(g0:G)(hF0:F g0 w)
 (round:∀(E:FF) (g:G) (w:World),F g w->W P n c (Ix (λE' w'=>∃g',holds (sl g') E'/\F g' w'/\μ g'<μ g) Q) (MN (sl g) E) w)
 (h0:holds (sl g0) E:=by repeat (first|exact trivial|refine⟨rfl,?_⟩)):W P n (.loop c) Q E w:=XR sl F μ g0 h0 hF0 round
def FL {G:Type}{sl:G->List (Nat×Value)}{F:G->Prop}{μ:G->Nat}{m:Nat}(g':G)(hF:F g')(h0:holds (sl g') E:=by repeat (first|exact trivial|refine⟨rfl,?_⟩))(hm:μ g'<m:=by first|omega|(simp only [];omega)) :
 ∃g',holds (sl g') E/\F g'/\μ g'<m:=⟨g',h0,hF,hm⟩
variable {X:Ending->World->Prop}{az:List Value}{fn:Func}
def cW {f:FuncId}(hf:P.funcs[f]?=some fn)(h:W P fn.ntmps (fn.body.getD .skip) (JN P fn fn.ntmps X) (Lu az 0 (λ_=>undef)) w)(hb:fn.body.isSome=true)(hle:B7 az.length fn.ntmps=true)(ok:JO fn.ntmps (fn.body.getD .skip)=true):Calls P f az.toArray w X:=by
 cases hc:fn.body with
 | none=>rw[hc]at hb;cases hb
 | some c=>rw[hc]at h ok;exact X56 hf hc rfl hle ok h
def cE {f:FuncId}(hf:P.funcs[f]?=some fn)(h:Fq w w->W P fn.ntmps (fn.body.getD .skip) (JN P fn fn.ntmps X) (Lu az 0 (λ_=>undef)) w)(hb:fn.body.isSome=true:=by rfl)(hle:Nat.ble az.length fn.ntmps=true:=by rfl)(ok:JO fn.ntmps (fn.body.getD .skip)=true:=by kernel_rfl):Calls P f az.toArray w X:=cW hf (h (Fq.refl w)) hb hle ok
def cM {f:FuncId}(hf:P.funcs[f]?=some fn)(S:Nat->Prop)(h:Mod S w w->W P fn.ntmps (fn.body.getD .skip) (JN P fn fn.ntmps X) (Lu az 0 (λ_=>undef)) w)(hb:fn.body.isSome=true:=by rfl)(hle:Nat.ble az.length fn.ntmps=true:=by rfl)(ok:JO fn.ntmps (fn.body.getD .skip)=true:=by kernel_rfl):Calls P f az.toArray w X:=cW hf (h (Mod.refl S w)) hb hle ok
def aL {T:Nat}(cs:List Value)(h:∀b w1,b=w.heap.size->Fq w w1->Fp w1 b cs T->Dw P n ds R r K (FW E d (Fh b 0)) w1)(hR:RX R anc:=by exact RX.all)(hg:FU ds E g=true:=by rfl)(hz:KX P T=some cs:=by kernel_rfl):Dw P n ds R ((⟨some d,.alloc T,ty,pos,af,g⟩,.x,anc) :: r) K E w:=X6c hg hz hR h
def zL (P:Program)(e n:Nat):Bool:=match KX P e with|some zs=>AM zs.length n && AS 0 n && B7 n 16777216|none=>false
def lW {t:Nat}{cs:List Value}(hx:ev E x=v)(hv:v.cells=⟨cs⟩)(h:∀b w1,b=w.heap.size->Fq w w1->Fp w1 b cs e->Dw P n ds R r K (FW E d (.slice (some ⟨b,0,none⟩) 1 1)) w1)(hR:RX R anc)(hg:FU ds E g=true)(ht:IS P t=some (e,cs.length))(hz:zL P e cs.length=true):Dw P n ds R ((⟨some d,.buildSlice t 1 [(0,x)].toArray,ty,pos,af,g⟩,.x,anc) :: r) K E w:=by
 unfold zL at hz;split at hz
 ·rename_i zs z;simp only [Aw,Bm,C7]at hz;obtain⟨⟨h1,h2⟩,h3⟩:=hz;have h1:=C6 h1;refine It (pv:=[(0,v)]) hg ht ⟨by simpa [Bm]using h2,by simpa [C7]using h3⟩ z (by rw[h1];exact Ew _) ⟨rfl,hx,trivial⟩ ?_ hR h;have hs:Gw zs 0 cs=cs:=Vg h1.symm;simp only [Hs,hv,List.replicate_one,Cn,List.flatten_nil,List.append_nil,Cw];rw[if_pos ⟨by simp,by simp [h1]⟩];exact congrArg some hs
 ·cases hz
def lA {t:Nat}{cs:List Value}(e:Nat)(hx:ev E x=.agg ⟨cs⟩)(h:∀b w1,b=w.heap.size->Fq w w1->Fp w1 b cs e->Dw P n ds R r K (FW E d (.slice (some ⟨b,0,none⟩) 1 1)) w1)(hR:RX R anc:=by exact RX.all)(hg:FU ds E g=true:=by rfl)(ht:IS P t=some (e,cs.length):=by kernel_rfl)(hz:zL P e cs.length=true:=by kernel_rfl):Dw P n ds R ((⟨some d,.buildSlice t 1 [(0,x)].toArray,ty,pos,af,g⟩,.x,anc) :: r) K E w:=lW hx rfl h hR hg ht hz
variable {cs':List Value}
def HL {a:Operand}{T:Nat}{cs:List Value}(hb:Fp w b cs T')(h:∀w1,Mod (Fv b) w w1->w1.heap.size=w.heap.size->Fp w1 b cs' T'->Dw P n ds R r K E w1)(hg:FU ds E g=true:=by rfl)(ha:ev E a=Fh b o:=by rfl)(hx:ev E x=v:=by conv=>lhs;whnf)(hv:v.oneCell'=true:=by rfl)(hs:My P T=some 1:=by kernel_rfl)(ho:o<cs.length:=by exact Nat.le_of_ble_eq_true rfl)(hR:anc=true\/∀w',Mod (Fv b) w w'->R w w':=by exact .inl rfl)(hc:cs.set o v=cs':=by first|(dsimp only [List.set];done)|(dsimp only [List.set];rfl)):Dw P n ds R ((⟨none,.store T a x,ty,pos,af,g⟩,.x,anc) :: r) K E w:=by
 subst hc;exact KW hb h hg ha hx hv hs ho hR
def Gg {a:Operand}{T:Nat}{cs:List Value}(hb:Fp w b cs T')(h:∀w1,Mod (Fv b) w w1->w1.heap.size=w.heap.size->Fp w1 b cs' T'->Dw P n ds R r K E w1)(hg:FU ds E g=true:=by rfl)(ha:ev E a=Fh b o:=by rfl)(hx:ev E x=v:=by conv=>lhs;whnf)(hv:v.cells=⟨vs⟩:=by exact rfl)(hs:My P T=some vs.length:=by kernel_rfl)(ho:o+vs.length<=cs.length:=by exact Nat.le_of_ble_eq_true rfl)(h1:∀v∈vs,v.oneCell'=true:=by simp [Value.oneCell'])(hR:anc=true\/∀w',Mod (Fv b) w w'->R w w':=by exact .inl rfl)(hc:Gw cs o vs=cs':=by first|(dsimp only [Gw,List.set];done)|(dsimp only [Gw,List.set];rfl)):Dw P n ds R ((⟨none,.store T a x,ty,pos,af,g⟩,.x,anc) :: r) K E w:=by
 subst hc;exact stA hb h hg ha hx hv hs ho h1 hR
end
def Fw {p:Prop}(h:p:=by
 first
 | assumption
 | (intro h;have h2:_=_:=h;omega)
 | (intro k hk h;have h2:k=_:=h;have h1:=(by assumption:∀k,_=some k->k<_) k hk;omega)
 | (intro k hk h;have h2:k=_:=h;have h1:=(Own.lt (by assumption) k hk).1;omega)
 | (intro k hk h;have h2:k=_:=h;have h1:=(Own.lt (by assumption) k hk).2;omega)
 | (intro z h;have h2:_=_:=h;have h1:=(by assumption:_≠[]->_<_) z;omega)
 | (intro h;exact Own.ne_blk (by assumption) (by assumption) rfl h)
 | (intro h;exact Own.ne_blk (by assumption) (by assumption) rfl h.symm)
 | (intro k hk e;exact Own.ne_blk (by assumption) (by assumption) rfl (hk.trans (congrArg some e)))
 | trivial
 | (intro k hk h;have h1:=(by assumption:∀k,_=some k->k<_) k hk;omega)
 | (intro k hk h;have h1:=(Own.lt (by assumption) k hk).1;omega)
 | (intro k hk h;omega)
 | omega):p:=h
def F5 {p:Prop}(h:p:=by
 first
 | (intro i hi z;exact hi)
 | (intro i hi;exact(Own.lt (by assumption) i hi).1)
 | (intro i hi;have J:i=_:=hi;omega)
 | (intro i hi z;have J:i=_:=hi;omega)
 | (intro i hi z;exact absurd z (Nat.not_lt.2 (Own.lt (by assumption) i hi).1))
 | (intro i hi;omega)
 | (intro i hi z;omega)):p:=h
structure Hd (p:Prop):Prop where
 o:p
variable {p q:Prop}
def go (k:p)(h:Hd p->q:=by
 intro k
 repeat (first
  | refine Go.Vc.gm ?_
  | refine Go.Vc.ga ?_
  | refine Go.Vc.dE ?_
  | refine Go.Vc.wr ?_
  | refine Go.Vc.wS ?_
  | with_reducible refine Go.Vc.kN ?_
  | refine Go.Vc.gd ?_
  | refine Go.Vc.gs ?_
  | refine Go.Vc.gs1 ?_
  | refine Go.Vc.gs2 ?_
  | refine Go.Vc.dZ ?_
  | refine Go.Vc.dF ?_
  | refine Go.Vc.dA ?_
  | refine Go.Vc.dX ?_
  | refine Go.Vc.gt1 ?_
  | refine Go.Vc.gt0 ?_
  | refine Go.Vc.gt ?_
  | refine Go.Vc.gi ?_
  | refine Go.Vc.dT ?_
  | refine Go.Vc.bl ?_
  | refine Go.Vc.be ?_
  | refine Go.Vc.bn ?_
  | refine Go.Vc.bg ?_
  | refine Go.Vc.bp ?_
  | refine Go.Vc.bm ?_
  | refine Go.Vc.gs3 ?_
  | refine Go.Vc.gs4 ?_
  | refine Go.Vc.Xjc ?_
  | refine Go.Vc.Xng ?_
  | refine Go.Vc.Xnh ?_
  | refine Go.Vc.Xu6 ?_
  | with_reducible refine Go.Vc.bX ?_
  | with_reducible refine Go.Vc.bY ?_
  | with_reducible refine Go.Vc.bN ?_
  | with_reducible refine Go.Vc.kX ?_
  | with_reducible refine Go.Vc.kR ?_
  | with_reducible refine Go.Vc.bR ?_
  | refine Go.Vc.Xjd ?_
  | with_reducible refine Go.Vc.oN ?_
  | with_reducible refine Go.Vc.oX ?_
  | with_reducible refine Go.Vc.oR ?_
  | refine Go.Vc.dAx ?_
  | refine Go.Vc.Xu8 ?_
  | refine Go.Vc.Xu9 ?_
  | refine Go.Vc.ro ?_
  | refine Go.Vc.rt ?_
  | refine Go.Vc.rt3 ?_)
 exact k.o):q:=h ⟨k⟩
section
variable {P:Program}{n:Nat}{ds:List (Option Tmp)}{R:World->World->Prop}{r:List (Oper×Fl×Bool)}{K:FF->World->Prop}{E:FF}{w:World}{Q:Exit->FF->World->Prop}
variable {d:Nat}{ty:TypeId}{pos:String}{af:Array Edge}{g:Option (Nat×Bool)}{anc:Bool}{v:Value}{q:Prop}
def Fk {c:Operand}{x y:Code}{p:Prop}[Decidable p](ht:p->W P n x Q E w)(hf:¬ p->W P n y Q E w)(hgo:Hd (W P n (.cond c x y) Q E w)->q:=by exact λk=>go k.o)(hc:ev E c=.bool (decide p):=by rfl):q:=hgo ⟨wi ht hf hc⟩
def Gb {c:Operand}{x y:Code}{t:Bool}(ht:t=true->W P n x Q E w)(hf:t=false->W P n y Q E w)(hgo:Hd (W P n (.cond c x y) Q E w)->q:=by exact λk=>go k.o)(hc:ev E c=.bool t:=by rfl):q:=hgo ⟨wc ht hf hc⟩
def FJ {l:List (Oper×Fl×Bool)}(s:Nat){p:Prop}[Decidable p](ht:p->Dw P n ds R l K (FW E s (.bool true)) w)(hf:¬ p->Dw P n ds R l K (FW E s (.bool false)) w)(hgo:Hd (Dw P n ds R l K E w)->q:=by exact λk=>go k.o)(hb:E s=.bool (decide p):=by rfl):q:=hgo ⟨X07 s hb ht hf⟩
def FN {x y:Operand}{T m i:Nat}(e k:Nat)(hv:Gq v m)(hi:i<m)(h:Dw P n ds R r K (FW E d (Fh (base v).1 ((base v).2+i*k))) w)(hgo:Hd (Dw P n ds R ((⟨some d,.indexAddr T x y,ty,pos,af,g⟩,.p,anc) :: r) K E w)->q:=by exact λk=>go k.o)(hy:ev E y=I i:=by rfl)(hg:FU ds E g=true:=by rfl)(hx:ev E x=v:=by rfl)(hT:IS P T=some (e,k):=by kernel_rfl):q:=hgo ⟨di e k hv hy hi h hg hx hT⟩
def FM {x:Operand}{T m:Nat}(e k:Nat)(hv:Gq v m)(h:Dw P n ds R r K (FW E d (I m)) w)(hgo:Hd (Dw P n ds R ((⟨some d,.call { callee:=.builtin .len,args:=#[x],argTypes:=#[T] },ty,pos,af,g⟩,.p,anc) :: r) K E w)->q:=by exact λk=>go k.o)(hg:FU ds E g=true:=by rfl)(hx:ev E x=v:=by rfl)(hT:IS P T=some (e,k):=by kernel_rfl):q:=hgo ⟨dv e k hv h hg hx hT⟩
variable {ats:Array TypeId}{az:List Operand}{f:Nat}{vs:List Value}
def Gs (hc:Calls P f vs.toArray w (Pure w v))(h:∀w1,Fq w w1->Dw P n ds R r K (FW E d v) w1)(hgo:Hd (Dw P n ds R ((⟨some d,.call { callee:=.value (.func f),args:=az.toArray,argTypes:=ats },ty,pos,af,g⟩,.x,anc) :: r) K E w)->q:=by exact λk=>go k.o)(hR:RX R anc:=by exact RX.all)(hg:FU ds E g=true:=by rfl)(hf:Hr P f=true:=by kernel_rfl)(ha:az.map (ev E)=vs:=by rfl):q:=hgo ⟨cP hc hR h hg hf ha⟩
variable {F:Value->World->Prop}
def Gj (hc:Calls P f vs.toArray w (Hb w F))(h:∀v w1,Fq w w1->F v w1->Dw P n ds R r K (FW E d v) w1)(hgo:Hd (Dw P n ds R ((⟨some d,.call { callee:=.value (.func f),args:=az.toArray,argTypes:=ats },ty,pos,af,g⟩,.x,anc) :: r) K E w)->q:=by exact λk=>go k.o)(hR:RX R anc:=by exact RX.all)(hg:FU ds E g=true:=by rfl)(hf:Hr P f=true:=by kernel_rfl)(ha:az.map (ev E)=vs:=by rfl):q:=hgo ⟨cG hc hR h hg hf ha⟩
def Gz {S:Nat->Prop}(hc:Calls P f vs.toArray w (Hp S w F))(h:∀v w1,Mod S w w1->F v w1->Dw P n ds R r K (FW E d v) w1)(hgo:Hd (Dw P n ds R ((⟨some d,.call { callee:=.value (.func f),args:=az.toArray,argTypes:=ats },ty,pos,af,g⟩,.x,anc) :: r) K E w)->q:=by exact λk=>go k.o)(hR:anc=true\/∀w',Mod S w w'->R w w':=by exact .inl rfl)(hg:FU ds E g=true:=by rfl)(hf:Hr P f=true:=by kernel_rfl)(ha:az.map (ev E)=vs:=by rfl):q:=hgo ⟨cD hc hR h hg hf ha⟩
def F8 {c:Code}{G:Type}(sl:G->List (Nat×Value))(F:G->World->Prop)(μ:G->Nat)(g0:G)(hF0:F g0 w)(round:∀(E:FF) (g:G) (w:World),F g w->W P n c (Ix (λE' w'=>∃g',holds (sl g') E'/\F g' w'/\μ g'<μ g) Q) (MN (sl g) E) w)
 (hgo:Hd (W P n (.loop c) Q E w)->q:=by exact λk=>go k.o) (h0:holds (sl g0) E:=by repeat (first|exact trivial|refine⟨rfl,?_⟩)):q:=hgo ⟨Yec sl F μ g0 hF0 round h0⟩
def Gt {l:List Oper}{id:Nat}(z:Nat)(h:∀w1,Fq w w1->Dw P n (l.map (·.dst)) Fq (JM l (pD 99 0 z)) (λE w=>Q .normal E w) E w1)(hgo:Hd (W P n (.region id l.toArray true) Q E w)->q:=by exact λk=>go k.o)(hm:P.follows .mixedOrders=true:=by kernel_rfl)
 (hl:Nat.beq (pD 99 0 z).length l.length=true:=by kernel_rfl) (hp:LB l.toArray (OT (pD 99 0 z)) (pD 99 0 z) (Array.replicate l.length false)=true:=by kernel_rfl) (hs:Region.noSelect l.toArray=true:=by kernel_rfl):q:=hgo ⟨wd z h hm hl hp hs⟩
end
def gw (k:p)(h:Hd p->q:=by
 intro k
 repeat (first
  | refine Go.Vc.gm ?_
  | refine Go.Vc.ga ?_
  | refine Go.Vc.dE ?_
  | refine Go.Vc.wS ?_
  | with_reducible refine Go.Vc.kN ?_
  | refine Go.Vc.gd ?_
  | refine Go.Vc.gs ?_
  | refine Go.Vc.gs1 ?_
  | refine Go.Vc.gs2 ?_
  | refine Go.Vc.dZ ?_
  | refine Go.Vc.dF ?_
  | refine Go.Vc.dA ?_
  | refine Go.Vc.dX ?_
  | refine Go.Vc.gt1 ?_
  | refine Go.Vc.gt0 ?_
  | refine Go.Vc.gt ?_
  | refine Go.Vc.gi ?_
  | refine Go.Vc.dT ?_
  | refine Go.Vc.bl ?_
  | refine Go.Vc.be ?_
  | refine Go.Vc.bn ?_
  | refine Go.Vc.bg ?_
  | refine Go.Vc.bp ?_
  | refine Go.Vc.bm ?_
  | refine Go.Vc.gs3 ?_
  | refine Go.Vc.gs4 ?_
  | refine Go.Vc.Xjc ?_
  | refine Go.Vc.Xng ?_
  | refine Go.Vc.Xnh ?_
  | refine Go.Vc.Xu6 ?_
  | with_reducible refine Go.Vc.bX ?_
  | with_reducible refine Go.Vc.bY ?_
  | with_reducible refine Go.Vc.bN ?_
  | with_reducible refine Go.Vc.kX ?_
  | with_reducible refine Go.Vc.kR ?_
  | with_reducible refine Go.Vc.bR ?_
  | refine Go.Vc.Xjd ?_
  | with_reducible refine Go.Vc.oN ?_
  | with_reducible refine Go.Vc.oX ?_
  | with_reducible refine Go.Vc.oR ?_
  | refine Go.Vc.dAx ?_
  | refine Go.Vc.Xu8 ?_
  | refine Go.Vc.Xu9 ?_
  | refine Go.Vc.ro ?_
  | refine Go.Vc.rt ?_
  | refine Go.Vc.rt3 ?_)
 exact k.o):q:=h ⟨k⟩
def g0 (k:p)(h:Hd p->q:=by
 intro k
 repeat (first
  | refine Go.Vc.gm ?_
  | refine Go.Vc.ga ?_
  | refine Go.Vc.dE ?_
  | refine Go.Vc.wr ?_
  | with_reducible refine Go.Vc.kN ?_
  | refine Go.Vc.gd ?_
  | refine Go.Vc.gs ?_
  | refine Go.Vc.gs1 ?_
  | refine Go.Vc.gs2 ?_
  | refine Go.Vc.dZ ?_
  | refine Go.Vc.dF ?_
  | refine Go.Vc.dA ?_
  | refine Go.Vc.dX ?_
  | refine Go.Vc.gt1 ?_
  | refine Go.Vc.gt0 ?_
  | refine Go.Vc.gt ?_
  | refine Go.Vc.gi ?_
  | refine Go.Vc.dT ?_
  | refine Go.Vc.bl ?_
  | refine Go.Vc.be ?_
  | refine Go.Vc.bn ?_
  | refine Go.Vc.bg ?_
  | refine Go.Vc.bp ?_
  | refine Go.Vc.bm ?_
  | refine Go.Vc.gs3 ?_
  | refine Go.Vc.gs4 ?_
  | refine Go.Vc.Xjc ?_
  | refine Go.Vc.Xng ?_
  | refine Go.Vc.Xnh ?_
  | refine Go.Vc.Xu6 ?_
  | with_reducible refine Go.Vc.bX ?_
  | with_reducible refine Go.Vc.bY ?_
  | with_reducible refine Go.Vc.bN ?_
  | with_reducible refine Go.Vc.kX ?_
  | with_reducible refine Go.Vc.kR ?_
  | with_reducible refine Go.Vc.bR ?_
  | refine Go.Vc.Xjd ?_
  | with_reducible refine Go.Vc.oN ?_
  | with_reducible refine Go.Vc.oX ?_
  | with_reducible refine Go.Vc.oR ?_
  | refine Go.Vc.dAx ?_
  | refine Go.Vc.Xu8 ?_
  | refine Go.Vc.Xu9 ?_
  | refine Go.Vc.ro ?_
  | refine Go.Vc.rt ?_
  | refine Go.Vc.rt3 ?_)
 exact k.o):q:=h ⟨k⟩
def gn (k:p)(h:Hd p->q:=by
 intro k
 repeat (first
  | refine Go.Vc.gm ?_
  | refine Go.Vc.ga ?_
  | refine Go.Vc.dE ?_
  | refine Go.Vc.wr ?_
  | refine Go.Vc.wS ?_
  | with_reducible refine Go.Vc.kN ?_
  | refine Go.Vc.gd ?_
  | refine Go.Vc.gs ?_
  | refine Go.Vc.gs1 ?_
  | refine Go.Vc.gs2 ?_
  | refine Go.Vc.dZ ?_
  | refine Go.Vc.dF ?_
  | refine Go.Vc.dA ?_
  | refine Go.Vc.dX ?_
  | refine Go.Vc.gt1 ?_
  | refine Go.Vc.gt0 ?_
  | refine Go.Vc.gt ?_
  | refine Go.Vc.gi ?_
  | refine Go.Vc.dT ?_
  | refine Go.Vc.bl ?_
  | refine Go.Vc.be ?_
  | refine Go.Vc.bn ?_
  | refine Go.Vc.bg ?_
  | refine Go.Vc.gs3 ?_
  | refine Go.Vc.gs4 ?_
  | refine Go.Vc.Xjc ?_
  | refine Go.Vc.Xng ?_
  | refine Go.Vc.Xnh ?_
  | refine Go.Vc.Xu6 ?_
  | with_reducible refine Go.Vc.bX ?_
  | with_reducible refine Go.Vc.bY ?_
  | with_reducible refine Go.Vc.bN ?_
  | with_reducible refine Go.Vc.kX ?_
  | with_reducible refine Go.Vc.kR ?_
  | with_reducible refine Go.Vc.bR ?_
  | refine Go.Vc.Xjd ?_
  | with_reducible refine Go.Vc.oN ?_
  | with_reducible refine Go.Vc.oX ?_
  | with_reducible refine Go.Vc.oR ?_
  | refine Go.Vc.dAx ?_
  | refine Go.Vc.Xu8 ?_
  | refine Go.Vc.Xu9 ?_
  | refine Go.Vc.ro ?_
  | refine Go.Vc.rt ?_
  | refine Go.Vc.rt3 ?_)
 exact k.o):q:=h ⟨k⟩
def gc (k:p)(h:Hd p->q:=by
 intro k
 repeat (first
  | refine Go.Vc.dE ?_
  | refine Go.Vc.wr ?_
  | refine Go.Vc.wS ?_
  | with_reducible refine Go.Vc.kN ?_
  | refine Go.Vc.Xjc ?_
  | refine Go.Vc.Xng ?_
  | refine Go.Vc.Xnh ?_
  | refine Go.Vc.Xu6 ?_
  | with_reducible refine Go.Vc.bX ?_
  | with_reducible refine Go.Vc.bY ?_
  | with_reducible refine Go.Vc.bN ?_
  | with_reducible refine Go.Vc.kX ?_
  | with_reducible refine Go.Vc.kR ?_
  | with_reducible refine Go.Vc.bR ?_
  | refine Go.Vc.Xjd ?_
  | with_reducible refine Go.Vc.oN ?_
  | with_reducible refine Go.Vc.oX ?_
  | with_reducible refine Go.Vc.oR ?_
  | refine Go.Vc.Xu8 ?_
  | refine Go.Vc.Xu9 ?_)
 exact k.o):q:=h ⟨k⟩
end Go.Vc
namespace Go.Vc
@[reducible] def FX (f:Nat) (az:List Value) (w:World) (v:Value):Prop:=Calls Go.Proofs.Tryz.prog f az.toArray w (Pure w v)
@[reducible] def Gi (f:Nat) (az:List Value) (w:World) (F:Value->World->Prop):Prop:=Calls Go.Proofs.Tryz.prog f az.toArray w (Hb w F)
@[reducible] def G4 (f:Nat) (az:List Value) (w:World) (S:Nat->Prop) (F:Value->World->Prop):Prop:=Calls Go.Proofs.Tryz.prog f az.toArray w (Hp S w F)
end Go.Vc
namespace Go.Sp
open Go.Vc
abbrev F6 (a b:Fj):Bool:=Op.bytesLess a b
def IN : ∀a:Fj,F6 a a=false
 | []=>rfl
 | c :: r=>by
  have:=IN r;simp only [F6]at this;simp [F6,Op.bytesLess,this]
def Kg : ∀a b c:Fj,F6 a b=true->F6 b c=true->F6 a c=true
 | _,[],_,h,_=>by simp [F6,Op.bytesLess]at h
 | _,_ :: _,[],_,h=>by simp [F6,Op.bytesLess]at h
 | [],_ :: _,_ :: _,_,_=>rfl
 | x :: a,y :: b,z :: c,h1,h2=>by
  have J:=Kg a b c;simp only [F6,Op.bytesLess,BL,Aw,decide_eq_true_eq,beq_iff_eq]at *;rcases h1 with h1|⟨rfl,h1⟩
  ·rcases h2 with h2|⟨rfl,h2⟩
   ·exact .inl (UInt8.lt_trans h1 h2)
   ·exact .inl h1
  ·rcases h2 with h2|⟨rfl,h2⟩
   ·exact .inl h2
   ·exact .inr ⟨rfl,J h1 h2⟩
def KC : ∀a b:Fj,a=b\/F6 a b=true\/F6 b a=true
 | [],[]=>.inl rfl
 | [],_ :: _=>.inr (.inl rfl)
 | _ :: _,[]=>.inr (.inr rfl)
 | x :: a,y :: b=>by
  have z:=KC a b;simp only [F6,Op.bytesLess,BL,Aw,decide_eq_true_eq,beq_iff_eq]at *
  by_cases h1:x<y
  ·exact .inr (.inl (.inl h1))
  ·by_cases h2:y<x
   ·exact .inr (.inr (.inl h2))
   ·have e:x=y:=UInt8.le_antisymm (Dl.1 h2) (Dl.1 h1);subst e;rcases z with rfl|h|h
    ·exact .inl rfl
    ·exact .inr (.inl (.inr ⟨rfl,h⟩))
    ·exact .inr (.inr (.inr ⟨rfl,h⟩))
def KM {a b:Fj}(h:F6 a b=true):F6 b a=false:=by
 cases hb:F6 b a with
 | false=>rfl
 | true=>have:=Kg a b a h hb;rw[IN]at this;cases this
def N4 {a b:Fj}(h:F6 a b=true):a≠b:=λe=>by rw[e,IN]at h;cases h
structure Cell where
 key:Fj
 val:Fj
 del:Bool
 seq:Int
deriving DecidableEq
@[reducible] def Cell.cs (c:Cell):List Value:=[S c.key,S c.val,B c.del,I c.seq]
@[reducible] def Cell.v (c:Cell):Value:=.agg ⟨c.cs⟩
def Cell.zero : Cell:=⟨[],[],false,0⟩
def less (a b:Cell):Bool:=if a.key≠b.key then F6 a.key b.key else decide (b.seq<a.seq)
def Xp2 (a:Cell):less a a=false:=by simp [less]
def JG (a b:Cell):less a b=true↔(F6 a.key b.key=true\/(a.key=b.key/\b.seq<a.seq)):=by
 unfold less
 by_cases e:a.key=b.key
 ·simp [e,IN]
 ·rw[if_pos e];simp [e]
variable {a b:Cell}
def O2 {c:Cell}(h1:less a b=true)(h2:less b c=true):less a c=true:=by
 rw[JG]at *;rcases h1 with h1|⟨e1,h1⟩
 ·rcases h2 with h2|⟨e2,h2⟩
  ·exact .inl (Kg _ _ _ h1 h2)
  ·exact .inl (e2▸h1)
 ·rcases h2 with h2|⟨e2,h2⟩
  ·exact .inl (e1▸h2)
  ·exact .inr ⟨e1.trans e2,by omega⟩
def Xt7 (h:less a b=true):less b a=false:=by
 cases hb:less b a with
 | false=>rfl
 | true=>have:=O2 h hb;rw[Xp2]at this;cases this
def S7 (h1:less a b=false)(h2:less b a=false):a.key=b.key/\a.seq=b.seq:=by
 have n1:¬ less a b=true:=by rw[h1];decide
 have n2:¬ less b a=true:=by rw[h2];decide
 rw[JG,not_or]at n1 n2;rcases KC a.key b.key with h|h|h
 ·refine⟨h,?_⟩;have m1:¬ b.seq<a.seq:=λx=>n1.2 ⟨h,x⟩;have m2:¬ a.seq<b.seq:=λx=>n2.2 ⟨h.symm,x⟩;omega
 ·exact absurd h n1.1
 ·exact absurd h n2.1
def RJ (h1:a.key=b.key)(h2:a.seq=b.seq):less a b=false:=by simp [less,h1,h2]
def Gl (c:Cell):Bool:=decide (1<=c.key.length) && decide (c.key.length<=4096) && decide (c.val.length<=16384) && (!c.del || decide (c.val=[])) && decide (1<=c.seq) && decide (c.seq<=1099511627776)
def GB (c:Cell):Nat:=c.key.length+c.val.length+16
def HK (l:List Cell):Nat:=(l.map GB).sum
def first (l:List Cell)(key:Fj)(seq:Int):Option Cell:=l.find? λc=>decide (c.key=key) && decide (c.seq<=seq)
def KJ (frm to:Fj)(c:Cell):Bool:=!F6 c.key frm && (decide (to=[]) || F6 c.key to)
def scan (l:List Cell)(frm to:Fj):List Cell:=l.filter (KJ frm to)
def pre (l:List Cell)(c:Cell):List Cell:=l.takeWhile (less · c)
def Iq (l:List Cell)(c:Cell):List Cell:=l.dropWhile (less · c)
def NQ (l:List Cell)(c:Cell):pre l c++Iq l c=l:=List.takeWhile_append_dropWhile ..
def has (l:List Cell)(c:Cell):Bool:=match Iq l c with
 | s :: _=>decide (s.key=c.key) && decide (s.seq=c.seq)
 | []=>false
def put (l:List Cell)(c:Cell):Bool×List Cell:=if !Gl c || has l c then(false,l)else(true,pre l c++c :: Iq l c)
def FP : List Cell->Prop:=List.Pairwise λa b=>less a b=true
def FP.put {l:List Cell}(h:FP l)(c:Cell):FP (put l c).2:=by
 unfold Sp.put;split
 ·exact h
 ·rename_i Y;simp only [BL,not_or,Ch]at Y;have hf:=NQ l c;have h':FP (pre l c++Iq l c):=by rw[hf];exact h
  have hp:∀x∈pre l c,less x c=true:=λx O=>(AQ.1 (List.all_takeWhile (p:=λx=>less x c) (l:=l)) x O);have z:=Bw.1 h';have hs:∀x∈Iq l c,less c x=true:=by
   cases hsu:Iq l c with
   | nil=>intro x O;cases O
   | cons s r=>
    have Z:less s c=false:=by
     have:=List.head?_dropWhile_not (λx=>less x c) l;rw[show List.dropWhile (λx=>less x c) l=Iq l c from rfl,hsu]at this;simpa using this
    have J:less c s=true:=by
     cases J:less c s with
     | true=>rfl
     | false=>
      have ht:=S7 Z J;have hh:has l c=true:=by unfold has;rw[hsu];simp [ht]
      rw[hh]at Y;cases Y.2
    intro x O;rcases Ah.1 O with rfl|O
    ·exact J
    ·have:=z.2.1;rw[hsu]at this;exact O2 J (List.rel_of_pairwise_cons this O)
  refine Bw.2 ⟨z.1,List.pairwise_cons.2 ⟨hs,z.2.1⟩,λa ha b hb=>?_⟩;rcases Ah.1 hb with rfl|hb
  ·exact hp a ha
  ·exact z.2.2 a ha b hb
end Go.Sp
namespace Go.Sp
open Go.Vc (Fj)
def Hm : Nat->Nat->Fj
 | 0,_=>[]
 | k+1,u=>if u<128 then[AC u]else AC (u % 128+128) :: Hm k (u / 128)
def F4 (u:Nat):Fj:=Hm 10 u
def GN : Nat->Nat->Fj->Option (Nat×Fj)
 | _,_,[]=>none
 | i,u,c :: r=>if 9<=i\/(0<i/\c=0)then none else
  if c.toNat<128 then(if 4611686018427387904<u+c.toNat % 128*128 ^ i then none else some (u+c.toNat % 128*128 ^ i,r))
  else GN (i+1) (u+c.toNat % 128*128 ^ i) r
def Ox (n:Nat)(h:n<256):(AC n).toNat=n:=by
 rw[UInt8.toNat_ofNat'];exact Bv h
def Xrw : ∀(k u:Nat),(Hm k u).length<=k
 | 0,u=>Aa _
 | k+1,u=>by
  unfold Hm;split
  ·simp
  ·have:=Xrw k (u / 128);simp;omega
def Wv (k u:Nat):1<=(Hm (k+1) u).length:=by
 unfold Hm;split<;>simp
def Gk (u:Nat):(F4 u).length<=10:=Xrw _ _
def Vk : ∀(k i a u:Nat) (r:Fj),u<128 ^ k->i+k<=9->(0<k\/0<i)->(0<i->0<u)->a+u*128 ^ i<=4611686018427387904->GN i a (Hm k u++r)=some (a+u*128 ^ i,r)
 | 0,i,a,u,r,hu,hi,h0,hp,hm=>by
  have:u=0:=by simpa using hu
  subst this
  cases i with
  | zero=>omega
  | succ i=>exact absurd (hp (Nat.succ_pos _)) Fe
 | k+1,i,a,u,r,hu,hi,h0,hp,hm=>by
  unfold Hm;split
  ·rename_i h;rw[AY,AG];unfold GN;have e:(AC u).toNat=u:=Ox u Fe;have z:¬ (9<=i\/(0<i/\AC u=0)):=by
    rintro (h9|⟨h1,h2⟩)
    ·omega
    ·have:=congrArg Ex h2;rw[e]at this;have:=hp h1;simp at *;omega
   rw[if_neg z,e,if_pos h,Bv h,if_neg Fe]
  ·rename_i h;rw[AY];unfold GN;have e:(AC (u % 128+128)).toNat=u % 128+128:=Ox _ Fe;have z:¬ (9<=i\/(0<i/\AC (u % 128+128)=0)):=by
    rintro (h9|⟨h1,h2⟩)
    ·omega
    ·have:=congrArg Ex h2;rw[e]at this;simp at this
   have e2:(u % 128+128) % 128=u % 128:=by omega
   have J:a+u % 128*128 ^ i+u / 128*128 ^ (i+1)=a+u*128 ^ i:=by
    have:u*128 ^ i=(u % 128+128*(u / 128))*128 ^ i:=by rw[Nat.mod_add_div]
    rw[this,Cx,CU,BV,B6 128 (u / 128),Nat.mul_assoc (u / 128),B6 128]
   rw[if_neg z,e,if_neg Fe,e2,Vk k (i+1) _ (u / 128) r (by rw[CU]at hu;omega) Fe Fe (by intro _;omega) (by rw[J];exact hm),J]
def Xvw {u:Nat}(r:Fj)(h:u<=4611686018427387904):GN 0 0 (F4 u++r)=some (u,r):=by
 have e:F4 u=Hm 9 u:=by
  have:∀(k u:Nat),u<128 ^ k->0<k->Hm (k+1) u=Hm k u:=by
   intro k
   induction k with
   | zero=>intro u _ h;omega
   | succ k ih=>
    intro u hu _;unfold Hm;split
    ·rfl
    ·rename_i h1;have hk:0<k:=by
      cases k with
      | zero=>simp at hu;omega
      | succ k=>omega
     rw[<-ih (u / 128) (by rw[CU]at hu;omega) hk]
  exact this 9 u (by
   have:(128:Nat) ^ 9=9223372036854775808:=by decide
   omega) Fo
 rw[e,Vk 9 0 0 u r (by
  have:(128:Nat) ^ 9=9223372036854775808:=by decide
  omega) Fe Fe Fe (by simp;exact h)]
 simp
def FA (p:Fj):Fj:=F4 p.length++p
def rawR (n:Nat)(s:Fj):Option (Fj×Fj):=if s.length<n then none else some (s.take n,s.drop n)
def rowR (s:Fj):Option (Fj×Fj):=(GN 0 0 s).bind λx=>rawR x.1 x.2
def NC (v:UInt32):UInt32:=(v >>> 1) ^^^ (0xedb88320 &&& (0-(v &&& 1)))
def LG : Nat->UInt32->UInt32
 | 0,v=>v
 | k+1,v=>LG k (NC v)
def Kx (v:UInt32)(c:UInt8):UInt32:=LG 8 (v ^^^ c.toUInt32)
def I1 (l:Fj):UInt32 := ~~~(l.foldl Kx (~~~0))
def IG (v:UInt32):Fj:=[v.toUInt8,(v >>> 8).toUInt8,(v >>> 16).toUInt8,(v >>> 24).toUInt8]
def HS (n:UInt32):Fj:=IG n++IG (I1 (IG n))
def Fz (p:Fj):Fj:=(HS (AJ p.length)++p)++IG (I1 (HS (AJ p.length)++p))
def NG (v:UInt32):(IG v).length=4:=rfl
def Lx (v:UInt32):(HS v).length=8:=rfl
def J9 (p:Fj):(Fz p).length=p.length+12:=by
 unfold Fz;simp only [Ad,Lx,NG];omega
end Go.Sp
namespace Go.Vc
open Go.RowKit
section
variable {P:Program}{E:FF}{w:World}{d:Option Tmp}{op:Op}{ty:TypeId}{pos:String}{af:Array Edge}{g:Option (Nat×Bool)}
def toU (P:Program)(S D n:Nat):Bool:=P3 P S && (match P.underlying D with|some .unsafePointer=>true|_=>false) && (match P.info? (P.pointee S)with|some i=>!(i.size == 0)|none=>false)
end
def Yed (P:Program)(e:Nat):Bool:=match P.info? e with
 | some i=>(i.size == 1) && (i.bytes == 1) && (match i.zero with|some (.int .u8 0)=>true|_=>false)
 | none=>false
section
variable {P:Program}{n:Nat}{ds:List (Option Tmp)}{R:World->World->Prop}{r:List (Oper×Fl×Bool)}{K:FF->World->Prop}{E:FF}{w:World}
variable {d:Nat}{op:Op}{ty:TypeId}{pos:String}{af:Array Edge}{g:Option (Nat×Bool)}{anc:Bool}{v:Value}
end
structure Bld (T e B:Nat)(b:Nat)(v:Value)(l:Fj)(w:World):Prop where
 blk:∃p,(p=.pointer none\/p=Fh b 0)/\Fp w b [p,v] T
 own:Own Fs 1 e B w v l
end Go.Vc
namespace Go.Proofs.YtiooodckiddpmaaGreatDoor
open Go.Vc Go.Sp
attribute [local irreducible] W XW Dw GC
structure Wr (B bw:Nat)(v:Value)(l:Fj)(w:World):Prop where
 m:Fp w bw [v] 142
 o:Vc.Own Fs 1 5 B w v l
@[reducible] def HX (bw:Nat) (v:Value):Nat->Prop:=λk=>k=bw\/v.ownBlock=some k
variable {bw:Nat}{w:World}
def Wr.mod {B:Nat}{v:Value}{l:Fj}{S:Nat->Prop}{w':World}(h:Wr B bw v l w)(m:Vc.Mod S w w')(hS:∀k,HX bw v k->¬ S k):Wr B bw v l w':=⟨h.m.mod m (hS bw (.inl rfl)),h.o.mod m (λk hk=>hS k (.inr hk))⟩
def Wr.ext {B:Nat}{v:Value}{l:Fj}{w':World}(h:Wr B bw v l w)(m:Fq w w'):Wr B bw v l w':=h.mod m (λ_ _ h=>h)
instance {B bw:Nat} {v:Value} {l:Fj} {w w':World} : Up w w' (Wr B bw v l w) (Wr B bw v l w'):=⟨λx h=>h.ext x⟩
def HF (n:Int):Nat:=(max 0 (min n 4611686018427387904)).toNat
def WZ (n:Int):HF n<=4611686018427387904:=by unfold HF;omega
def Nt {a:Nat}(h:a<18446744073709551616):IntKind.u64.wrap (a:Int)=a:=by
 have e:IntKind.u64.wrap (a:Int)=(a:Int) % 18446744073709551616:=by unfold IntKind.wrap;simp [IntKind.bits,IntKind.signed]
 rw[e];omega
section
variable {P:Program}{E:FF}{dd:Option Tmp}{ty:TypeId}{pos:String}{af:Array Edge}{g:Option (Nat×Bool)}{x y:Operand}{T U:TypeId}
def X92 {n:Int}(hx:ev E x=I (max 0 (min n 4611686018427387904)))(hT:(P.underlying T).isSome=true)(hU:Ic P U=some .u64):PV P ⟨dd,.convert T U x,ty,pos,af,g⟩ E (.int .u64 (HF n:Nat)):=by
 have:=Kf (P:=P) (d:=dd) (ty:=ty) (pos:=pos) (af:=af) (g:=g) hx hT hU;rwa [show max 0 (min n 4611686018427387904)=((HF n:Nat):Int) by unfold HF;omega,Nt (by have:=WZ n;omega)]at this
def Xvy {u:Nat}(hx:ev E x=.int .u64 u)(hy:ev E y=.int .u64 7):PV P ⟨dd,.binOp .shr T x y U,ty,pos,af,g⟩ E (.int .u64 (u / 128:Nat)):=by
 have:=NV (P:=P) (dd:=dd) (ty:=ty) (pos:=pos) (af:=af) (g:=g) (T:=T) (U:=U) hx hy Fo;rwa [show((u:Int)).fdiv (2 ^ min (7:Int).toNat IntKind.u64.bits)=((u / 128:Nat):Int) by
  rw[show(2:Int) ^ min (7:Int).toNat IntKind.u64.bits=128 by decide,CV _ Fe];omega]at this
end
def SL (u:Nat):AC u ||| 128=AC (u % 128+128):=by
 have h:∀c:Fin 256,AC c ||| 128=AC (c.1 % 128+128):=by decide +kernel
 have e:AC u=AC (u % 256):=by apply Et.1;simp
 rw[e,h ⟨u % 256,Bf _ Fo⟩]
 congr 1;simp only;omega
def Xvz {α β:Type}{l:List α}{k:Nat}{x:α}(f:α->List β)(h:l[k]?=some x):(l.take (k+1)).flatMap f=(l.take k).flatMap f++f x:=by
 rw[Bx,h,Bc];simp
def GA (n:Int):Fj:=F4 (HF n)
def FG (ns:List Int)(k:Nat):((ns.take k).flatMap GA).length<=10*k:=by
 induction ns generalizing k with
 | nil=>simp
 | cons a r ih=>
  cases k with
  | zero=>simp
  | succ k=>rw[Co,AA,Ad];have:=Gk (HF a);have:=ih k;unfold GA at *;omega
@[reducible] def H9 (w:World) (v v':Value):Prop:=v'.ownBlock=v.ownBlock\/∀k,v'.ownBlock=some k->w.heap.size<=k
def Qs {v v':Value}{i:Nat}(h:H9 w v v')(hi:v'.ownBlock=some i)(hlt:i<w.heap.size):HX bw v i:=by
 rcases h with e|e
 ·exact .inr (e▸hi)
 ·exact absurd (e i hi) Fe
def XY {α:Type}{l:List α}{v v':Value}{n:Nat}(h:H9 w v v')(hd:∀k,HX bw v k->l≠[]->n≠k)(hb:l≠[]->n<w.heap.size):l≠[]->¬ v'.ownBlock=some n:=by
 intro z e;rcases h with h|h
 ·exact hd n (.inr (h▸e)) z rfl
 ·have:=h n e;have:=hb z;omega
def R6 {v v1 v2:Value}{n:Nat}(h:H9 w v v1)(hs:v2.ownBlock=v1.ownBlock\/v2.ownBlock=some n)(hn:w.heap.size<=n):H9 w v v2:=by
 rcases hs with e|e
 ·rcases h with e1|e1
  ·exact .inl (e.trans e1)
  ·exact .inr (λk hk=>e1 k (e▸hk))
 ·exact .inr (λk hk=>by rw[e]at hk;cases hk;exact hn)
def Xnt {j u:Nat}{dn X:Fj}(hj:1<=j)(hu:u<128 ^ j)(h:128<=u)(e:dn++Hm j u=X):2<=j/\u / 128<128 ^ (j-1)/\(dn++[AC u ||| 128])++Hm (j-1) (u / 128)=X:=by
 obtain⟨j,rfl⟩:∃i,j=i+1:=⟨j-1,by omega⟩;unfold Hm at e;rw[if_neg Fe]at e;refine⟨?_,by rw[CU]at hu;simp;omega,by rw[SL,A6];exact e⟩
 cases j with
 | zero=>simp at hu;omega
 | succ j=>omega
def WQ {j u:Nat}{dn X:Fj}(hj:1<=j)(h:¬ 128<=u)(e:dn++Hm j u=X):dn++[AC u]=X:=by
 obtain⟨j,rfl⟩:∃i,j=i+1:=⟨j-1,by omega⟩;unfold Hm at e;rwa [if_pos Fe]at e
def X93 (B bw:Nat)(v:Value)(l:Fj)(p:Fj)(vp:Value)(w:World)(h:Wr B bw v l w)(hl:l.length<=1000000000)(hB:B<=w.heap.size)(hp:Fu Fs 1 w vp p)(hpl:p.length<=1000000000) :
  G4 155 [Fh bw 0,vp] w (HX bw v) λu w'=>u=.tuple #[]/\∃v',Wr B bw v' (l++p) w'/\H9 w v v':=by
 refine cM Tryz.func155 (HX bw v) λO=>?_;obtain⟨hm,ho⟩:=h;have hne:=ho.ne_blk hm rfl;have z:H9 w v v:=.inl rfl;refine go ?_;refine dp (OB Ff rfl rfl) ?_;refine Fk (λc1=>?_) λc1=>?_
 ·refine go ?_;refine LU (lx:=p) (e:=5) (sz:=1) (by':=1) rfl Ff Ff Fg ho (hp) rfl rfl (by intro x _ u hu;simp at hu;rcases hu with rfl<;>rfl) Gx Fo (Ae hB O.size) (.inl rfl) (λv2 w1 Y x1 Z=>?_);have J:=R6 z Z O.size;have hm:=hm.mod x1 Fw;have O:=O.own x1 (λi hi ha=>Qs z hi ha);have ho:=Y;have z:=J;clear J;have hne2:=ho.ne_blk hm rfl;refine go ?_;refine HL hm (λw2 x2 xs2 hm=>?_) (hv:=by exact Gq.one ho.sl);have ho:=ho.mod x2 Fw;have O:=O.own x2 F5;refine go ?_;refine Ig (H6 rfl ?_);exact⟨_,rfl,O,rfl,v2,⟨hm,ho⟩,z⟩
 exact absurd c1 F0
def Lb (B bw:Nat)(v:Value)(l:Fj)(ns:List Int)(vn:Value)(w:World)(h:Wr B bw v l w)(hl:l.length<=1000000000)(hB:B<=w.heap.size)(hn:Fu Vc.encI 1 w vn ns)(hnl:ns.length<=100000)(hnd:∀k,HX bw v k->ns≠[]->(base vn).1≠k) :
  G4 79 [Fh bw 0,vn] w (HX bw v) λu w'=>u=.tuple #[]/\∃v',Wr B bw v' (l++ns.flatMap GA) w'/\H9 w v v':=by
 refine cM Tryz.func79 (HX bw v) λJ=>?_;obtain⟨hm,ho⟩:=h;have hg:=ho.ne_blk hm rfl;have z:H9 w v v:=.inl rfl;have hc:ns≠[]->(base vn).1<w.heap.size:=λe=>hn.base_lt Fo e;refine go ?_;refine dp (GY Ff rfl rfl) ?_;refine Fk (λc1=>?_) λc1=>?_
 ·exact absurd c1 F0
 refine FM 3 1 hn.sl ?_;refine F8 (G:=Nat×Value×Fj) (λ(k,vc,lc)=>[(0,Fh bw 0),(9,vn),(10,I ↑ns.length),(11,I ↑k)]) (λ(k,vc,lc) w'=>Mod (HX bw v) w w'/\Fu Vc.encI 1 w' vn ns/\k<=ns.length/\Fp w' bw [vc] 142/\Vc.Own Fs 1 5 B w' vc lc/\lc=l++(ns.take k).flatMap GA/\H9 w v vc) (λ(k,vc,lc)=>ns.length-k) (0,v,l) ⟨J,hn,Ab _,hm,ho,by simp,.inl rfl⟩ ?_;rintro _ ⟨k,vc,lc⟩ w1 ⟨J,hn,hk1,hm,ho,hlc,z⟩;refine Fk (λc2=>?_) λc2=>?_
 ·obtain⟨x,hk⟩:∃x,ns[k]?=some x:=F7;refine FN 3 1 hn.sl (hn.lt hk) ?_;refine dl rfl ((hn.row hk).at0 rfl) (go ?_);refine dp (XL rfl rfl) (dp (R8 rfl rfl) (dp (X92 rfl Ff Ff) (F8 (G:=Nat×Nat×Value×Fj×Fj) (λ(j,u,vd,ld,dn)=>[(0,Fh bw 0),(6,.int .u64 ↑u),(9,vn),(10,I ↑ns.length),(11,I ↑k)]) (λ(j,u,vd,ld,dn) w'=>Mod (HX bw v) w w'/\Fu Vc.encI 1 w' vn ns/\1<=j/\u<128 ^ j/\Fp w' bw [vd] 142/\Vc.Own Fs 1 5 B w' vd ld/\ld=lc++dn/\dn++Hm j u=GA x/\H9 w v vd) (λ(j,u,vd,ld,dn)=>j) (10,HF x,vc,lc,[]) ⟨J,hn,by omega,by have:=WZ x;omega,hm,ho,by simp,rfl,z⟩ ?_)));rintro _ ⟨j,u,vd,ld,dn⟩ w2 ⟨J,hn,hj,hju,hm,ho,hld,hdn,z⟩;refine go ?_;refine dp (HY rfl rfl) ?_;refine Fk (λc3=>?_) λc3=>?_
  ·have hg:=ho.ne_blk hm rfl;have hf:ld.length<=2001000020:=by
    have h1:=FG ns k;have h2:=Gk (HF x);have h3:=congrArg A9 hdn;rw[hld,hlc];unfold GA at *;simp only [Ad]at *;omega
   refine go ?_;refine dp (NN rfl Ff Ff) (dp (PZ (b:=128) rfl rfl) (li (e:=5) (sz:=1) (zs:=[.int .u8 0]) (pv:=[(0,_)]) (cs:=[_]) RX.all (λb1 w3 e1 x3 m1=>?_)));have g1:=J.ge e1;have a1_hn:=Fu.base_lt hn Fo;have a1_hm:=hm.lt;have o1_ho:=ho.ltb e1;refine FQ x3 hn hm ho J λhn hm ho J=>?_;refine LU (lx:=[AC u ||| 128]) (e:=5) (sz:=1) (by':=1) rfl Ff Ff Fg ho (m1.arr (enc:=Fs) (sz:=1) (l:=[AC u ||| 128]) rfl Fg rfl (An rfl)) rfl rfl (by intro x _ u hu;simp at hu;rcases hu with rfl<;>rfl) Gx Fo (Ae hB J.size) (.inl rfl) (λv2 w4 Y x4 hp=>?_);have O:=R6 z hp J.size;have hn:=hn.mod x4 (by exact XY z hnd hc);have hm:=hm.mod x4 Fw;have J:=J.own x4 (λi hi Z=>Qs z hi Z);have ho:=Y;have z:=O;clear O;clear m1;have hh:=ho.ne_blk hm rfl;refine go ?_;refine HL hm (λw5 x5 xs5 hm=>?_) (hv:=by exact Gq.one ho.sl);have hn:=hn.mod x5 (λh e=>hnd bw (.inl rfl) h e);have ho:=ho.mod x5 Fw;have J:=J.own x5 F5;refine go ?_;refine dp (Xvy rfl rfl) (go ?_);obtain⟨h2,h3,h4⟩:=Xnt hj hju Fe hdn;refine FL (j-1,u / 128,v2,ld++[AC u ||| 128],dn++[AC u ||| 128]) ⟨J,hn,by omega,h3,hm,ho,by rw[hld,A6],h4,z⟩
  have hg:=ho.ne_blk hm rfl;have hf:ld.length<=2001000020:=by
   have h1:=FG ns k;have h2:=Gk (HF x);have h3:=congrArg A9 hdn;rw[hld,hlc];unfold GA at *;simp only [Ad]at *;omega
  refine go ?_;refine dp (NN rfl Ff Ff) (li (e:=5) (sz:=1) (zs:=[.int .u8 0]) (pv:=[(0,_)]) (cs:=[_]) RX.all (λb2 w6 e2 x6 m2=>?_));have g2:=J.ge e2;have a2_hn:=Fu.base_lt hn Fo;have a2_hm:=hm.lt;have o2_ho:=ho.ltb e2;refine FQ x6 hn hm ho J λhn hm ho J=>?_;refine LU (lx:=[AC u]) (e:=5) (sz:=1) (by':=1) rfl Ff Ff Fg ho (m2.arr (enc:=Fs) (sz:=1) (l:=[AC u]) rfl Fg rfl (An rfl)) rfl rfl (by intro x _ u hu;simp at hu;rcases hu with rfl<;>rfl) Gx Fo (Ae hB J.size) (.inl rfl) (λv2 w7 Y x7 ha=>?_);have O:=R6 z ha J.size;have hn:=hn.mod x7 (by exact XY z hnd hc);have hm:=hm.mod x7 Fw;have J:=J.own x7 (λi hi Z=>Qs z hi Z);have ho:=Y;have z:=O;clear O;clear m2;have hh:=ho.ne_blk hm rfl;refine go ?_;refine HL hm (λw8 x8 xs8 hm=>?_) (hv:=by exact Gq.one ho.sl);have hn:=hn.mod x8 (λh e=>hnd bw (.inl rfl) h e);have ho:=ho.mod x8 Fw;have J:=J.own x8 F5;refine go ?_;refine FL (k+1,v2,ld++[AC u]) ⟨J,hn,by omega,hm,ho,?_,z⟩;rw[hld,hlc,Xvz GA hk,<-WQ hj Fe hdn];simp only [A6]
 refine go ?_;refine Ig (H6 rfl ?_);rw[Av Fe]at hlc;subst hlc;exact⟨_,rfl,J,rfl,vc,⟨hm,ho⟩,z⟩
def Ny (p:Fj)(vp:Value)(w:World)(hp:Fu Fs 1 w vp p)(hpl:p.length<=2001000020) :
  Gi 87 [vp] w λu w'=>Vc.Own Fs 1 5 w.heap.size w' u p:=by
 refine cE Tryz.func87 λz=>go ?_;refine dp (PO (e:=5) (k:=1) Ff hp.sl rfl rfl) ?_;refine Gb (λO=>?_) λO=>?_
 ·refine go ?_;refine⟨_,rfl,z,?_⟩;have e:p.length=0:=by
   rcases hp.sl with⟨_,e⟩|⟨b,o,c,e,_⟩|⟨e,_⟩
   ·exact e
   ·rw[e]at O;simp [Pp]at O
   ·exact e
  rw[A0 e];exact Vc.Own.nil
 refine go ?_;refine Jx (e:=5) (sz:=1) rfl Ff RX.all (λb1 w1 e1 Y Z=>?_);have g1:=z.ge e1;have z:=z.trans Y;refine go ?_;have ho:=Z.own (enc:=Fs) (B:=w.heap.size) (l:=[]) (sz:=1) (m:=0) g1 rfl Fg rfl F0;refine Ht ho (hp.ext z) λvm w2 J x2=>?_;have z:=z.own x2 F5;have ho:=J;refine go ?_;exact⟨_,rfl,z,ho⟩
def OA (B bw:Nat)(v:Value)(l:Fj)(w:World)(h:Wr B bw v l w)(hl:l.length<=2001000020) :
  Gi 81 [Fh bw 0] w λu w'=>Vc.Own Fs 1 5 w.heap.size w' u l:=by
 refine cE Tryz.func81 λz=>?_;obtain⟨hm,ho⟩:=h;refine go ?_;refine dp (GY Ff rfl rfl) ?_;refine Fk (λJ=>?_) λJ=>?_
 ·exact absurd J F0
 refine Gj (Ny l v _ ((ho.ext z).arr Fg) hl) λvo w1 Y O=>?_;have hsz1:=z.size;have z:=z.trans Y;refine go ?_;exact⟨_,rfl,z,O⟩
end Go.Proofs.YtiooodckiddpmaaGreatDoor
namespace Go.Vc
open Go.RowKit
@[reducible] def Hh (c:UInt32):Value:=.int .u32 c.toNat
def Mf (n:Int):IntKind.u32.wrap n=n % 4294967296:=by simp [IntKind.wrap,IntKind.bits,IntKind.signed]
def Ni (a:UInt32):AL 32 (a.toNat:Int)=a.toBitVec:=by
 apply Eu
 rw[Ev];have:=a.toNat_lt;show((a.toNat:Int) % ((2 ^ 32:Nat):Int)).toNat=a.toNat;omega
section
variable {P:Program}{E:FF}{d:Option Tmp}{ty:TypeId}{pos:String}{af:Array Edge}{g:Option (Nat×Bool)}{w:World}{T U:TypeId}{x y:Operand}
variable {a b:UInt32}
def Tt (hx:ev E x=Hh a)(hy:ev E y=Hh b):PV P ⟨d,.binOp .and T x y U,ty,pos,af,g⟩ E (Hh (a &&& b)):=by
 have:=Mj (P:=P) (dd:=d) (ty:=ty) (pos:=pos) (af:=af) (g:=g) (T:=T) (U:=U) (op:=.and) (.inl rfl) hx hy;rwa [show Lo .and .u32 (a.toNat:Int) b.toNat=((a &&& b).toNat:Int) by
  show IntKind.u32.wrap ((AL 32 (a.toNat:Int) &&& AL 32 (b.toNat:Int)).toNat:Int)=_;rw[Ni,Ni,Mf];have:=(a &&& b).toNat_lt;show(((a &&& b).toNat:Int)) % 4294967296=_;omega]at this
def Pf (hx:ev E x=Hh a)(hy:ev E y=Hh b):PV P ⟨d,.binOp .or T x y U,ty,pos,af,g⟩ E (Hh (a ||| b)):=by
 have:=Mj (P:=P) (dd:=d) (ty:=ty) (pos:=pos) (af:=af) (g:=g) (T:=T) (U:=U) (op:=.or) (.inr (.inl rfl)) hx hy;rwa [show Lo .or .u32 (a.toNat:Int) b.toNat=((a ||| b).toNat:Int) by
  show IntKind.u32.wrap ((AL 32 (a.toNat:Int) ||| AL 32 (b.toNat:Int)).toNat:Int)=_;rw[Ni,Ni,Mf];have:=(a ||| b).toNat_lt;show(((a ||| b).toNat:Int)) % 4294967296=_;omega]at this
def Om (hx:ev E x=Hh a)(hy:ev E y=Hh b):PV P ⟨d,.binOp .xor T x y U,ty,pos,af,g⟩ E (Hh (a ^^^ b)):=by
 have:=Mj (P:=P) (dd:=d) (ty:=ty) (pos:=pos) (af:=af) (g:=g) (T:=T) (U:=U) (op:=.xor) (.inr (.inr (.inl rfl))) hx hy;rwa [show Lo .xor .u32 (a.toNat:Int) b.toNat=((a ^^^ b).toNat:Int) by
  show IntKind.u32.wrap ((AL 32 (a.toNat:Int) ^^^ AL 32 (b.toNat:Int)).toNat:Int)=_;rw[Ni,Ni,Mf];have:=(a ^^^ b).toNat_lt;show(((a ^^^ b).toNat:Int)) % 4294967296=_;omega]at this
def LN {k:IntKind}(hb:b.toNat<32)(hx:ev E x=Hh a)(hy:ev E y=.int k b.toNat):PV P ⟨d,.binOp .shr T x y U,ty,pos,af,g⟩ E (Hh (a >>> b)):=by
 have:=NV (P:=P) (dd:=d) (ty:=ty) (pos:=pos) (af:=af) (g:=g) (T:=T) (U:=U) hx hy Fe;rwa [show((a.toNat:Int)).fdiv (2 ^ min ((b.toNat:Int)).toNat IntKind.u32.bits)=((a >>> b).toNat:Int) by
  rw[BU,show min b.toNat IntKind.u32.bits=b.toNat by show min b.toNat 32=_;omega,UInt32.toNat_shiftRight,Bv hb,Nat.shiftRight_eq_div_pow,CV _ (Int.le_of_lt (Int.pow_pos Fo))];simp]at this
def Py {k:IntKind}(hb:b.toNat<32)(hx:ev E x=Hh a)(hy:ev E y=.int k b.toNat):PV P ⟨d,.binOp .shl T x y U,ty,pos,af,g⟩ E (Hh (a <<< b)):=by
 have:=OY (P:=P) (dd:=d) (ty:=ty) (pos:=pos) (af:=af) (g:=g) (T:=T) (U:=U) hx hy Fe;rwa [show IntKind.u32.wrap ((a.toNat:Int)*2 ^ min ((b.toNat:Int)).toNat IntKind.u32.bits)=((a <<< b).toNat:Int) by
  rw[BU,show min b.toNat IntKind.u32.bits=b.toNat by show min b.toNat 32=_;omega,UInt32.toNat_shiftLeft,Bv hb,Nat.shiftLeft_eq,Mf];simp]at this
def Nn {c:UInt8}(hx:ev E x=b8 c)(hT:(P.underlying T).isSome=true)(hU:Ic P U=some .u32):PV P ⟨d,.convert T U x,ty,pos,af,g⟩ E (Hh c.toUInt32):=by
 have:=Kf (P:=P) (d:=d) (ty:=ty) (pos:=pos) (af:=af) (g:=g) hx hT hU;rwa [show IntKind.u32.wrap (c.toNat:Int)=(c.toUInt32.toNat:Int) by rw[Mf];have:=c.toNat_lt;simp;omega]at this
def MO {c:UInt32}(hx:ev E x=Hh c)(hT:(P.underlying T).isSome=true)(hU:Ic P U=some .u8):PV P ⟨d,.convert T U x,ty,pos,af,g⟩ E (b8 c.toUInt8):=by
 have:=Kf (P:=P) (d:=d) (ty:=ty) (pos:=pos) (af:=af) (g:=g) hx hT hU;rwa [show IntKind.u8.wrap (c.toNat:Int)=(c.toUInt8.toNat:Int) by rw[OF];simp]at this
def X6k {c:UInt32}(hx:ev E x=Hh c):PV P ⟨d,.unOp .neg T x,ty,pos,af,g⟩ E (Hh (0-c)):=λw=>by
 have e:IntKind.u32.wrap (-(c.toNat:Int))=((-c).toNat:Int):=by rw[Mf,UInt32.toNat_neg];have:=c.toNat_lt;simp [UInt32.size];omega
 simp [execOp,hx,Op.unary,Op.intArith,e]
def Wc {c:UInt32}(hx:ev E x=Hh c):PV P ⟨d,.unOp .xor T x,ty,pos,af,g⟩ E (Hh (~~~c)):=λw=>by
 have e:Lo .xor .u32 4294967295 (c.toNat:Int)=((~~~c).toNat:Int):=by
  show IntKind.u32.wrap ((AL 32 ((4294967295:UInt32).toNat:Int) ^^^ AL 32 (c.toNat:Int)).toNat:Int)=_;rw[Ni,Ni,Mf];have h:(4294967295:UInt32) ^^^ c = ~~~c:=by
   apply UInt32.toBitVec_inj.1
   simp;exact BitVec.allOnes_xor
  have:=((4294967295:UInt32) ^^^ c).toNat_lt;show((((4294967295:UInt32) ^^^ c).toNat:Int)) % 4294967296=_;rw[<-h];omega
 have e2:(if IntKind.u32.signed=true then(-1:Int)else IntKind.u32.max)=4294967295:=by decide
 simp [execOp,hx,Op.unary,Op.intBits,e2];simpa [Lo]using e
end
end Go.Vc
namespace Go.Proofs.YtiooodckiddpmaaGreatDoor
open Go.Vc Go.Sp
attribute [local irreducible] W XW Dw GC
def Xv1 {j:Nat}{z X:UInt32}(hj:j<8)(h:LG (8-j) z=X):LG (8-(j+1)) (NC z)=X:=by
 obtain⟨m,e⟩:∃m,8-j=m+1:=⟨7-j,by omega⟩;rw[e]at h;rw[show 8-(j+1)=m by omega];exact h
variable {i:Nat}
def Xv2 {p:Fj}{c:UInt8}{v:UInt32}(h:p[i]?=some c):(p.take (i+1)).foldl Kx v=Kx ((p.take i).foldl Kx v) c:=by
 rw[Bx,h,BA];rfl
def SD (p:Fj)(vp vr:Value)(w:World)(hr:Fu (λx:Value=>[x]) 1 w vr [vp])(hp:Fu Fs 1 w vp p)(hpl:p.length<=2001000020) :
  FX 159 [vr] w (Hh (I1 p)):=by
 refine cE Tryz.func159 λJ=>FM 82 1 hr.sl ?_;refine F8 (G:=Nat×UInt32) (λ(k,v)=>[(2,.int .u32 0),(3,Hh v),(8,vr),(9,I 1),(10,I ↑k)]) (λ(k,v) w'=>Fq w w'/\k<=1/\v=if k=0 then ~~~0 else p.foldl Kx (~~~0)) (λ(k,v)=>1-k) (0,~~~0) ⟨J,Ab _,rfl⟩ ?_;rintro _ ⟨k,v⟩ w1 ⟨J,hk1,hv⟩;refine Fk (λZ=>?_) λZ=>?_
 ·have O:[vp][k]?=some vp:=by
   have e:k=0:=by omega
   subst e;rfl
  refine FN 82 1 hr.sl (hr.lt O) ?_;refine dl rfl (((hr.ext J).row O).at0 rfl) (FM 5 1 hp.sl ?_);refine F8 (G:=Nat×UInt32) (λ(i,u)=>[(2,.int .u32 0),(3,Hh u),(8,vr),(9,I 1),(10,I ↑k),(14,vp),(15,I ↑p.length),(16,I ↑i)]) (λ(i,u) w'=>Fq w w'/\i<=p.length/\u=(p.take i).foldl Kx (~~~0)) (λ(i,u)=>p.length-i) (0,v) ⟨J,Ab _,by rw[if_pos (show k=0 by omega)]at hv;exact hv⟩ ?_;rintro _ ⟨i,u⟩ w2 ⟨J,hi1,hu⟩;refine Fk (λY=>?_) λY=>?_
  ·obtain⟨c,hk⟩:∃c,p[i]?=some c:=F7;refine FN 5 1 hp.sl (hp.lt hk) ?_;refine dl rfl (((hp.ext J).row hk).at0 rfl) (go ?_);refine dp (Nn rfl Ff Ff) (dp (Om rfl rfl) (F8 (G:=Nat×UInt32) (λ(j,z)=>[(2,.int .u32 0),(3,Hh z),(8,vr),(9,I 1),(10,I ↑k),(14,vp),(15,I ↑p.length),(16,I ↑i),(24,I ↑j)]) (λ(j,z) w'=>Fq w w'/\j<=8/\LG (8-j) z=Kx u c) (λ(j,z)=>8-j) (0,u ^^^ c.toUInt32) ⟨J,Ab _,rfl⟩ ?_));rintro _ ⟨j,z⟩ w3 ⟨J,hj1,hz⟩;refine Fk (λc3=>?_) λc3=>?_
   ·refine go ?_;refine dp (LN (b:=1) Fo rfl rfl) (go ?_);refine dp (Tt (b:=1) rfl rfl) (dp (X6k rfl) (dp (Tt (a:=0xedb88320) rfl rfl) (dp (Om rfl rfl) (go ?_))));refine FL (j+1,NC z) ⟨J,by omega,Xv1 Fe hz⟩
   refine go ?_;rw[show 8-j=0 by omega]at hz;refine FL (i+1,z) ⟨J,by omega,by rw[Xv2 hk,<-hu];exact hz⟩
  refine go ?_;rw[Av Fe]at hu;refine FL (k+1,u) ⟨J,by omega,by rw[if_neg Fe];exact hu⟩
 refine gc ?_;refine dm ?_;refine dp (Wc rfl) (go ?_);refine⟨?_,J⟩;rw[show k=1 by omega,if_neg Fo]at hv;rw[hv];rfl
def Q4 (v:UInt32)(w:World) :
  Gi 158 [Hh v] w λu w'=>∃b,u=.slice (some ⟨b,0,none⟩) 4 4/\w.heap.size<=b/\Fu Fs 1 w' u (IG v):=by
 refine cE Tryz.func158 λz=>go ?_;refine dp (MO rfl Ff Ff) (go ?_);refine dp (LN (b:=8) Fo rfl rfl) (dp (MO rfl Ff Ff) (go ?_));refine dp (LN (b:=16) Fo rfl rfl) (dp (MO rfl Ff Ff) (go ?_));refine dp (LN (b:=24) Fo rfl rfl) (dp (MO rfl Ff Ff) (li (e:=5) (sz:=1) (zs:=[.int .u8 0]) (pv:=[(0,_),(1,_),(2,_),(3,_)]) (cs:=[_,_,_,_]) RX.all (λb1 w1 e1 J O=>?_)));have g1:=z.ge e1;have z:=z.trans J;refine go ?_;exact⟨_,rfl,z,b1,rfl,g1,O.arr (enc:=Fs) (sz:=1) (l:=IG v) rfl Fg rfl (by rw[NG];decide)⟩
section
variable {P:Program}{E:FF}{dd:Option Tmp}{ty:TypeId}{pos:String}{af:Array Edge}{g:Option (Nat×Bool)}{x y:Operand}{T U:TypeId}
def and7 {u:Nat}(hu:u<18446744073709551616)(hx:ev E x=.int .u64 (u:Int))(hy:ev E y=.int .u64 127):PV P ⟨dd,.binOp .and T x y U,ty,pos,af,g⟩ E (.int .u64 ((u % 128:Nat):Int)):=by
 have:=Mj (P:=P) (dd:=dd) (ty:=ty) (pos:=pos) (af:=af) (g:=g) (T:=T) (U:=U) (op:=.and) (.inl rfl) hx hy;have e:Lo .and .u64 (u:Int) 127=((u % 128:Nat):Int):=by
  show IntKind.u64.wrap (((AL 64 (u:Int) &&& AL 64 ((127:Nat):Int)).toNat:Nat):Int)=_;rw[CF,CF,Ey,CG,CG,Bv Fe,Bv Fe,DN u 7,Nt Fe]
 rw[e]at this;exact this
end
def Yc2 (u:Nat):AC (u % 128) ||| 128=AC u ||| 128:=by rw[SL,SL,Nat.mod_mod]
def MF (n:Nat)(w:World)(hn:n<=4611686018427387904) :
  Gi 205 [I ↑n] w λu w'=>Vc.Own Fs 1 5 w.heap.size w' u (F4 n):=by
 refine cE Tryz.func205 λz=>?_;refine wS (g0 ?_);refine wS (g0 ?_);refine GP (G:=Unit) (λY=>[(2,.slice none 0 0),(3,.int .u64 ↑n)]) (λY w'=>Fq w w'/\True) ?_ ?_
 ·refine Fk (λc1=>?_) λc1=>?_
  ·omega
  refine Fk (λc2=>?_) λc2=>?_
  ·refine go ?_;refine F3 (v:=.int .u64 ↑n) rfl (Kf (k:=.u64) rfl Ff Ff) (by show Value.int _ _=_;rw[Nt Fe]) (go ?_);exact⟨(),L9,z,trivial⟩
  have O:n=0:=by omega
  subst O;refine go ?_;exact⟨(),L9,z,trivial⟩
 rintro _ Y w1 ⟨z,htr⟩;refine F8 (G:=Nat×Nat×Value×Fj) (λ(j,u,vd,ld)=>[(2,.slice none 0 0),(3,.int .u64 ↑u),(4,vd)]) (λ(j,u,vd,ld) w'=>Fq w w'/\1<=j/\u<128 ^ j/\u<=4611686018427387904/\ld.length+j=10/\ld++Hm j u=F4 n/\Vc.Own Fs 1 5 w.heap.size w' vd ld) (λ(j,u,vd,ld)=>j) (10,n,.slice none 0 0,[]) ⟨z,by decide,by omega,hn,rfl,rfl,Vc.Own.nil⟩ ?_;rintro _ ⟨j,u,vd,ld⟩ w2 ⟨z,hj,hju,hu2,hll,hdn,ho⟩;refine go ?_;refine dp (HY rfl rfl) ?_;refine Fk (λc3=>?_) λc3=>?_
 ·refine go ?_;refine dp (and7 Fe rfl rfl) (dp (NN (n:=u % 128) rfl Ff Ff) (dp (PZ (b:=128) rfl rfl) (li (e:=5) (sz:=1) (zs:=[.int .u8 0]) (pv:=[(0,_)]) (cs:=[_]) RX.all (λb1 w3 e1 x3 Z=>?_))));have g1:=z.ge e1;have o1_ho:=ho.ltb e1;refine Fy x3 ho z λho z=>G8 (AC (u % 128) ||| 128) ho Z λv2 w4 J x4=>?_;have z:=z.own x4 F5;have ho:=J;clear Z;refine go ?_;refine dp (Xvy rfl rfl) (go ?_);obtain⟨h2,h3,h4⟩:=Xnt hj hju Fe hdn;refine FL (j-1,u / 128,v2,ld++[AC (u % 128) ||| 128]) ⟨z,by omega,h3,by omega,by simp;omega,by rw[Yc2];exact h4,ho⟩
 refine go ?_;refine dp (NN (n:=u) rfl Ff Ff) (li (e:=5) (sz:=1) (zs:=[.int .u8 0]) (pv:=[(0,_)]) (cs:=[_]) RX.all (λb2 w5 e2 x5 m2=>?_));have g2:=z.ge e2;have o2_ho:=ho.ltb e2;refine Fy x5 ho z λho z=>G8 (AC u) ho m2 λv2 w6 J x6=>?_;have z:=z.own x6 F5;have ho:=J;clear m2;refine go ?_;rw[WQ hj Fe hdn]at ho;exact⟨_,rfl,z,ho⟩
def Nu (p:Fj)(v:Value)(w:World)(hv:Fu Fs 1 w v p)(hl:p.length<=10000000000000) :
  Gi 206 [v] w λu w'=>Vc.Own Fs 1 5 w.heap.size w' u (FA p):=by
 refine cE Tryz.func206 λz=>?_;have hnl:=Gk p.length;refine FM 5 1 (hv.ext z).sl ?_;refine cG (MF p.length _ Fe) RX.all λvn w1 Z Y=>?_;have O:=z.size;have z:=z.trans Z;have ho:=Y.mono O;refine go ?_;refine Ip (lx:=p) (e:=5) (sz:=1) (by':=1) rfl Ff Ff Fg ho ((hv.ext z)) rfl rfl (by intro x _ u hu;simp at hu;rcases hu with rfl<;>rfl) Gx Fo z.size (.inl rfl) (λv2 w2 J x2=>?_);have z:=z.own x2 F5;have ho:=J;refine go ?_;exact⟨_,rfl,z,ho⟩
def SP (v:UInt32)(w:World) :
  Gi 273 [Hh v] w λu w'=>Vc.Own Fs 1 5 w.heap.size w' u (IG v):=by
 refine cE Tryz.func273 λz=>go ?_;refine dp (MO rfl Ff Ff) (go ?_);refine dp (LN (b:=8) Fo rfl rfl) (dp (MO rfl Ff Ff) (go ?_));refine dp (LN (b:=16) Fo rfl rfl) (dp (MO rfl Ff Ff) (go ?_));refine dp (LN (b:=24) Fo rfl rfl) (dp (MO rfl Ff Ff) (li (e:=5) (sz:=1) (zs:=[.int .u8 0]) (pv:=[(0,_),(1,_),(2,_),(3,_)]) (cs:=[_,_,_,_]) RX.all (λb1 w1 e1 J O=>?_)));have g1:=z.ge e1;have z:=z.trans J;refine go ?_;exact⟨_,rfl,z,O.own (enc:=Fs) (B:=w.heap.size) (l:=IG v) (sz:=1) (m:=4) g1 rfl Fg rfl (by rw[NG];decide)⟩
def Xz (p:Fj)(vp:Value)(w:World)(hp:Fu Fs 1 w vp p)(hpl:p.length<=2001000020) :
  Gi 274 [vp] w λu _=>∃v:UInt32,u=Hh v:=by
 refine cE Tryz.func274 λJ=>F8 (G:=Nat×UInt32) (λ(i,u)=>[(0,vp),(2,.int .u32 0),(3,Hh u),(4,I ↑i)]) (λ(i,u) w'=>Fq w w'/\i<=p.length) (λ(i,u)=>p.length-i) (0,~~~0) ⟨J,Ab _⟩ ?_;rintro _ ⟨i,u⟩ w1 ⟨J,hi1⟩;refine FM 5 1 (hp.ext J).sl ?_;refine Fk (λY=>?_) λY=>?_
 ·obtain⟨c,hk⟩:∃c,p[i]?=some c:=F7;refine FN 5 1 hp.sl (hp.lt hk) ?_;refine dl rfl (((hp.ext J).row hk).at0 rfl) (dp (Nn rfl Ff Ff) (dp (Om rfl rfl) (F8 (G:=Nat×UInt32) (λ(j,z)=>[(0,vp),(2,.int .u32 0),(3,Hh z),(4,I ↑i),(5,I ↑j)]) (λ(j,z) w'=>Fq w w'/\j<=8) (λ(j,z)=>8-j) (0,u ^^^ c.toUInt32) ⟨J,Ab _⟩ ?_)));rintro _ ⟨j,z⟩ w2 ⟨J,hj1⟩;refine Fk (λO=>?_) λO=>?_
  ·refine go ?_;refine dp (Tt (b:=1) rfl rfl) ?_;refine Fk (λZ=>?_) λZ=>?_
   ·refine go ?_;refine dp (LN (b:=1) Fo rfl rfl) (dp (Om (b:=0xedb88320) rfl rfl) (go ?_));exact⟨(j+1,_),Hc,⟨J,by omega⟩,by simp only [];omega⟩
   refine go ?_;refine dp (LN (b:=1) Fo rfl rfl) (go ?_);exact⟨(j+1,_),Hc,⟨J,by omega⟩,by simp only [];omega⟩
  refine go ?_;exact FL (i+1,z) ⟨J,by omega⟩
 refine gc ?_;refine dm ?_;refine dp (Wc rfl) (go ?_);exact⟨_,rfl,J,_,rfl⟩
variable {w:World}
def QM {v v':Value}{bw:Nat}(h:H9 w v v')(hi:HX bw v' i)(hlt:i<w.heap.size):HX bw v i:=hi.elim .inl (λe=>Qs h e hlt)
def YD {w1:World}{v v1 v2:Value}(h:H9 w v v1)(h2:H9 w1 v1 v2)(hs:w.heap.size<=w1.heap.size):H9 w v v2:=by
 rcases h2 with e|e
 ·rcases h with e1|e1
  ·exact .inl (e.trans e1)
  ·exact .inr (λk hk=>e1 k (e▸hk))
 ·exact .inr (λk hk=>Ae hs (e k hk))
variable {n:Nat}
def Qw (h:n<=4611686018427387904):GA (n:Int)=F4 n:=by
 unfold GA;congr 1;unfold HF;omega
variable {k:Nat}
def X1c {qs:List (Value×Fj)}(h:∀q∈qs,q.2.length<=1000000):(((qs.take k).map (·.2)).flatMap FA).length<=1000010*k:=by
 induction qs generalizing k with
 | nil=>simp
 | cons a r ih=>
  cases k with
  | zero=>simp
  | succ k=>
   have h1:=ih (k:=k) (λq z=>h q (Aj _ z));have h2:=h a Ai;have h3:=Gk a.2.length;rw[Co,Ak,AA,Ad];unfold FA at *;rw[Ad];omega
def Mn (B bw:Nat)(v:Value)(l:Fj)(qs:List (Value×Fj))(vr:Value)(w:World)(h:Wr B bw v l w)(hl:l.length<=800000000)(hB:B<=w.heap.size)(hr:Fu (λq:Value×Fj=>[q.1]) 1 w vr qs)(hq:∀q∈qs,Fu Fs 1 w q.1 q.2)(hq2:∀q∈qs,q.2.length<=1000000)(hql:qs.length<=100)(hdr:qs≠[]->¬ HX bw v (base vr).1)(hdq:∀q∈qs,q.2≠[]->¬ HX bw v (base q.1).1) :
  G4 80 [Fh bw 0,vr] w (HX bw v) λu w'=>u=.tuple #[]/\∃v',Wr B bw v' (l++(qs.map (·.2)).flatMap FA) w'/\H9 w v v':=by
 refine cM Tryz.func80 (HX bw v) λz=>?_;obtain⟨hm,ho⟩:=h;refine FM 82 1 hr.sl ?_;refine F8 (G:=Nat×Value×Fj) (λ(k,vc,lc)=>[(0,Fh bw 0),(6,vr),(7,I ↑qs.length),(8,I ↑k)]) (λ(k,vc,lc) w'=>Mod (HX bw v) w w'/\k<=qs.length/\Fp w' bw [vc] 142/\Vc.Own Fs 1 5 B w' vc lc/\lc=l++((qs.take k).map (·.2)).flatMap FA/\H9 w v vc) (λ(k,vc,lc)=>qs.length-k) (0,v,l) ⟨z,Ab _,hm,ho,by simp,.inl rfl⟩ ?_;rintro _ ⟨k,vc,lc⟩ w1 ⟨z,hk1,hm,ho,hlc,J⟩;refine Fk (λc1=>?_) λc1=>?_
 ·obtain⟨q,hk⟩:∃q,qs[k]?=some q:=F7;have hlcl:lc.length<=900001000:=by
   rw[hlc];simp only [Ad];have h1:=X1c (k:=k) hq2;omega
  have hnl2:(GA ↑q.2.length).length<=10:=Gk _;refine FN 82 1 hr.sl (hr.lt hk) ?_;refine dl rfl (((hr.mod z hdr).row hk).at0 rfl) (FM 5 1 ((hq q (Ag hk)).mod z (hdq q (Ag hk))).sl ?_);refine li (e:=3) (sz:=1) (zs:=[.int .i64 0]) (pv:=[(0,_)]) (cs:=[_]) RX.all (λb1 w2 e1 x2 m1=>?_);have g1:=z.ge e1;have a1_hm:=hm.lt;have O:=ho.ltb e1;refine FC x2 hm ho z λhm ho z=>cD (Lb B bw vc lc [↑q.2.length] (.slice (some ⟨b1,0,none⟩) 1 1) _ ⟨hm,ho⟩ Fe (Ae hB z.size) (m1.arr (enc:=Vc.encI) (sz:=1) (l:=[↑q.2.length]) rfl Fg rfl F0) F0 (λk hk _ e=>by have e2:b1=k:=e;exact hk.elim (λh=>by omega) (λh=>by have:=O _ h;omega))) (.inl rfl) λu3 w3 x3 hg=>?_;have ha:=z.size;have z:=z.own x3 (λi hi Y=>QM J hi Y);obtain⟨rfl,v2,⟨hm,ho⟩,hh⟩:=hg;have J:=YD J hh ha;refine Gz (X93 B bw v2 _ q.2 q.1 _ ⟨hm,ho⟩ Gx (Ae hB z.size) ((hq q (Ag hk)).mod z (hdq q (Ag hk))) (by have:=hq2 q (Ag hk);omega)) λu4 w4 x4 hc=>?_;have Z:=z.size;have z:=z.own x4 (λi hi Y=>QM J hi Y);obtain⟨rfl,v3,⟨hm,ho⟩,hf⟩:=hc;have J:=YD J hf Z;refine go ?_;refine⟨(k+1,v3,_),Hn,⟨z,by omega,hm,ho,?_,J⟩,by simp only [];omega⟩;rw[hlc,Bx,hk];have hq3:=hq2 q (Ag hk);simp [FA,Qw (n:=q.2.length) Fe]
 refine go ?_;refine Ig (H6 rfl ?_);rw[Av Fe]at hlc;subst hlc;exact⟨_,rfl,z,rfl,vc,⟨hm,ho⟩,J⟩
structure Rd (br bb:Nat)(v:Value)(l:Fj)(bad:Bool)(w:World):Prop where
 m:Fp w br [v,B bad] 273
 a:Fu Fs 1 w v l
 n:l≠[]->(base v).1=bb/\bb≠br
variable {bad:Bool}{bb br:Nat}{l:Fj}{w':World}
def Rd.ext {v:Value}(h:Rd br bb v l bad w)(x:Fq w w'):Rd br bb v l bad w':=⟨h.m.ext x,h.a.ext x,h.n⟩
instance {br bb:Nat} {v:Value} {l:Fj} {bad:Bool} {w w':World} : Up w w' (Rd br bb v l bad w) (Rd br bb v l bad w'):=⟨λx h=>h.ext x⟩
@[reducible] def Oc (br bb:Nat) (l:Fj):Nat->Prop:=λk=>k=br\/(l≠[]/\k=bb)
def Rd.mod {v:Value}{S:Nat->Prop}(h:Rd br bb v l bad w)(x:Vc.Mod S w w')(hS:∀k,Oc br bb l k->¬ S k):Rd br bb v l bad w':=
 ⟨h.m.mod x (hS _ (.inl rfl)),h.a.mod x (λz=>by rw[(h.n z).1];exact hS _ (.inr ⟨z,rfl⟩)),h.n⟩
def Rd.lt {v:Value}(h:Rd br bb v l bad w):∀k,Oc br bb l k->k<w.heap.size:=by
 rintro k (rfl|⟨hl,rfl⟩)
 ·exact h.m.lt
 ·rw[<-(h.n hl).1];exact h.a.base_lt Fo hl
def Ja {α:Type}{l:List α}{c:α}(h:l[k]?=some c):l.drop k=c :: l.drop (k+1):=by
 obtain⟨hk,rfl⟩:=Ar.1 h;exact List.drop_eq_getElem_cons hk
def GW {α:Type}{l:List α}{c:α}(h:l[k]?=some c):l.take (k+1)=l.take k++[c]:=by
 obtain⟨hk,rfl⟩:=Ar.1 h;exact List.take_succ_eq_append_getElem hk
def Gu (l:Fj)(bad:Bool):Nat×Fj×Bool:=match GN 0 0 l with
 | some (n,r)=>(n,r,bad)
 | none=>(0,[],true)
def JA (n:Int)(l:Fj)(bad:Bool):Fj×Fj×Bool:=if n<0\/(l.length:Int)<n then([],[],true)else(l.take n.toNat,l.drop n.toNat,bad)
def OR (l:Fj)(bad:Bool):Fj×Fj×Bool:=JA (Gu l bad).1 (Gu l bad).2.1 (Gu l bad).2.2
def Od (r:Fj)(bad:Bool)(h:n<=4611686018427387904):Gu (F4 n++r) bad=(n,r,bad):=by unfold Gu;rw[Xvw r h]
def Qu (p r:Fj)(bad:Bool)(h:p.length<=4611686018427387904):OR (FA p++r) bad=(p,r,bad):=by
 unfold OR FA;rw[A6,Od _ _ h];unfold JA;rw[if_neg Gx];simp
variable {r:Fj}{u:Nat}
def X1d : GN i u l=some (n,r)->r.length<=l.length:=by
 induction l generalizing i u with
 | nil=>intro h;simp [GN]at h
 | cons c l ih=>
  intro h;unfold GN at h;split at h
  ·cases h
  ·split at h
   ·split at h
    ·cases h
    ·cases h;simp
   ·have:=ih h;simp;omega
def WF (l:Fj)(bad:Bool):(Gu l bad).2.1.length<=l.length:=by
 unfold Gu;split
 ·rename_i h;exact X1d h
 ·simp
def X6m : GN i u l=some (n,r)->n<=4611686018427387904:=by
 induction l generalizing i u with
 | nil=>intro h;simp [GN]at h
 | cons c l ih=>
  intro h;unfold GN at h;split at h
  ·cases h
  ·split at h
   ·split at h
    ·cases h
    ·cases h;omega
   ·exact ih h
def Wb (p:Fj)(vp:Value)(w:World)(hp:Fu Fs 1 w vp p)(hpl:p.length<=2001000020) :
  Gi 118 [vp] w λu w'=>∃br bb v,u=Fh br 0/\w.heap.size<=br/\(p≠[]->w.heap.size<=bb)/\Rd br bb v p false w':=by
 refine cE Tryz.func118 λJ=>Gj (Ny p vp _ (hp.ext J) hpl) λY w1 x1 z=>?_;have hsz1:=J.size;have J:=J.trans x1;refine dp (Mh (zs:=[.slice none 0 0,B false]) (pl:=[(0,1),(1,1)]) (pv:=[(0,?a3_0)]) (cs:=[?a3_0,B false]) Ff Ff ?h3 ?f3) ?k3
 case h3=>refine⟨rfl,?_,trivial⟩<;>(conv=>lhs;whnf)
 case f3=>rcases z.sl with⟨e,_⟩|⟨_,_,_,e,_⟩|⟨_,_,_,e⟩<;>rw[e]<;>rfl
 refine G1 rfl rfl rfl RX.all (λb1 w2 e1 x2 Z=>?_);have g1:=J.ge e1;have o1_hf:=z.ltb e1;refine Fy x2 z J λz J=>go ?_;exact⟨_,rfl,J,b1,(base Y).1,Y,rfl,g1,λO=>(z.base_ge O).1,⟨Z,z.arr Fg,λO=>⟨rfl,λe=>z.ne_blk Z rfl (e▸z.base_block O)⟩⟩⟩
def X94 (br bb:Nat)(v:Value)(l:Fj)(bad:Bool)(w:World)(h:Rd br bb v l bad w) :
  FX 260 [Fh br 0] w (I ↑l.length):=by
 refine cE Tryz.func260 λz=>?_;obtain⟨hm,O,hn⟩:=h;refine go ?_;refine dp (GY Ff rfl rfl) ?_;refine Fk (λJ=>?_) λJ=>?_
 ·exact absurd J F0
 refine FM 5 1 (O.ext z).sl ?_;refine go ?_;exact⟨rfl,z⟩
def WL (br bb:Nat)(v:Value)(l:Fj)(bad:Bool)(w:World)(h:Rd br bb v l bad w) :
  FX 120 [Fh br 0] w (B (!bad)):=by
 refine cE Tryz.func120 λJ=>?_;obtain⟨hm,ha,hn⟩:=h;refine go ?_;refine dp (OB Ff rfl rfl) ?_;refine FJ 5 (λz=>?_) λz=>?_
 ·refine go ?_;exact⟨rfl,J⟩
 exact absurd F0 z
def ND (br bb:Nat)(v:Value)(l:Fj)(bad:Bool)(w:World)(h:Rd br bb v l bad w) :
  G4 258 [Fh br 0] w (Fv br) λu w'=>u=.tuple #[]/\Rd br bb (.slice none 0 0) [] true w':=by
 refine cE Tryz.func258 λz=>?_;obtain⟨hm,ha,hn⟩:=h;refine go ?_;refine dp (OB Ff rfl rfl) ?_;refine Fk (λJ=>?_) λJ=>?_
 ·refine go ?_;refine HL hm (λw1 O xs1 hm=>?_);have z:=(z.mod O).mono (λi hi _=>(hi:(Fv br) i));refine go ?_;refine HL hm (λw2 Y xs2 hm=>?_);have z:=z.own Y F5;refine go ?_;refine Ig (H6 rfl ?_);exact⟨_,rfl,z,rfl,⟨hm,Fu.nil,λh=>absurd rfl h⟩⟩
 exact absurd F0 J
def X6n (br bb:Nat)(v:Value)(l:Fj)(bad:Bool)(w:World)(h:Rd br bb v l bad w) :
  FX 188 [Fh br 0] w (B (!bad && decide (l.length=0))):=by
 refine cE Tryz.func188 λz=>?_;obtain⟨hm,J,hn⟩:=h;refine Gs (WL br bb v l bad _ ⟨hm.ext z,J.ext z,hn⟩) λw1 O=>?_;have z:=z.trans O;refine go ?_;refine IR 5 rfl (λY=>?_) (λY=>?_)
 ·refine go ?_;refine dl rfl ((hm.ext z).at rfl) (dv 5 1 (J.ext z).sl (go ?_));refine⟨?_,z⟩
  cases bad<;>simp_all
 refine go ?_;refine⟨?_,z⟩
 cases bad<;>simp_all
section
variable {P:Program}{E:FF}{dd:Option Tmp}{ty:TypeId}{pos:String}{af:Array Edge}{g:Option (Nat×Bool)}{x y:Operand}{T U:TypeId}
def U4 {c:UInt8}(hx:ev E x=b8 (c &&& 127))(hT:(P.underlying T).isSome=true)(hU:Ic P U=some .u64):PV P ⟨dd,.convert T U x,ty,pos,af,g⟩ E (.int .u64 ((c.toNat % 128:Nat):Int)):=by
 have:=Kf (P:=P) (d:=dd) (ty:=ty) (pos:=pos) (af:=af) (g:=g) hx hT hU;have e:(c &&& 127).toNat=c.toNat % 128:=by
  rw[UInt8.toNat_and];exact DN c.toNat 7
 rw[e,Nt Fe]at this;exact this
variable {i:Nat}
def Pa (hi:i<9):128*128 ^ i<=9223372036854775808:=by
 have:(128:Nat) ^ i<=128 ^ 8:=Nat.pow_le_pow_right Fo Fe;have e:(128:Nat) ^ 8=72057594037927936:=by decide
 omega
def Vv {m:Nat}(hx:ev E x=.int .u64 (m:Nat))(hy:ev E y=I (7*(i:Int)))(hm:m<128)(hi:i<9):PV P ⟨dd,.binOp .shl T x y U,ty,pos,af,g⟩ E (.int .u64 ((m*128 ^ i:Nat):Int)):=by
 have:=OY (P:=P) (dd:=dd) (ty:=ty) (pos:=pos) (af:=af) (g:=g) (T:=T) (U:=U) hx hy Fe;have e:(m:Int)*2 ^ min (7*(i:Int)).toNat IntKind.u64.bits=((m*128 ^ i:Nat):Int):=by
  have e1:min (7*(i:Int)).toNat IntKind.u64.bits=7*i:=by
   have:IntKind.u64.bits=64:=rfl;rw[this];omega
  rw[e1,Nat.pow_mul' 2 7 i |> λh=>(by rw[DH,Int.natCast_pow,show((128:Nat):Int)=2 ^ 7 by decide,<-Int.pow_mul]:((m*128 ^ i:Nat):Int)=(m:Int)*2 ^ (7*i))]
 rw[e,Nt]at this
 ·exact this
 ·have h1:=Pa hi;have:m*128 ^ i<128*128 ^ i:=Ez hm (Nat.pow_pos Fo);omega
def YK {u m:Nat}(hx:ev E x=.int .u64 (u:Nat))(hy:ev E y=.int .u64 ((m*128 ^ i:Nat):Int))(hu:u<128 ^ i)(hm:m<128)(hi:i<9):PV P ⟨dd,.binOp .or T x y U,ty,pos,af,g⟩ E (.int .u64 ((u+m*128 ^ i:Nat):Int)):=by
 have:=Mj (P:=P) (dd:=dd) (ty:=ty) (pos:=pos) (af:=af) (g:=g) (T:=T) (U:=U) (op:=.or) (.inr (.inl rfl)) hx hy;have h1:=Pa hi;have h2:m*128 ^ i<128*128 ^ i:=Ez hm (Nat.pow_pos Fo);have h3:u ||| m*128 ^ i=u+m*128 ^ i:=by
  have e:(128:Nat) ^ i=2 ^ (7*i):=by rw[Nat.pow_mul]
  rw[e]at hu ⊢;rw[Nat.or_comm,B6,<-Nat.two_pow_add_eq_or_of_lt hu,DD]
 have e:Lo .or .u64 (u:Int) ((m*128 ^ i:Nat):Int)=((u+m*128 ^ i:Nat):Int):=by
  show IntKind.u64.wrap (((AL 64 (u:Int) ||| AL 64 ((m*128 ^ i:Nat):Int)).toNat:Nat):Int)=_;rw[CF,CF,BitVec.toNat_or,CG,CG,Bv Fe,Bv Fe,h3,Nt Fe]
 rw[e]at this;exact this
end
def X1e (k:Nat)(v:Value)(a b:Nat):(base (Hg k v a b)).1=(base v).1:=by
 cases v with
 | slice p n c=>
  cases p with
  | none=>rfl
  | some a'=>
   unfold Hg;simp only [base];split
   ·rfl
   ·unfold Addr.add;split<;>rfl
 | _=>rfl
def Td {m:Nat}{v:Value}{a b:Nat}(h:Gq v m):(Hg k v a b).oneCell'=true:=by
 rcases h with⟨rfl,_⟩|⟨_,_,_,rfl,_⟩|⟨_,_,_,rfl⟩<;>rfl
def Xv4 (h:GN 0 0 l=none):Gu l bad=(0,[],true):=by unfold Gu;rw[h]
def Xv5 (h:GN 0 0 l=some (n,r)):Gu l bad=(n,r,bad):=by unfold Gu;rw[h]
def Xo {c:UInt8}(h:9<=i\/(0<i/\c=0)):GN i u (c :: r)=none:=by unfold GN;rw[if_pos h]
def Rg {c:UInt8}(h:¬ (9<=i\/(0<i/\c=0)))(hc:c.toNat<128):GN i u (c :: r)=if 4611686018427387904<u+c.toNat % 128*128 ^ i then none else some (u+c.toNat % 128*128 ^ i,r):=by
 rw[GN.eq_def];simp only [];rw[if_neg h,if_pos hc]
def Ul {c:UInt8}(h:¬ (9<=i\/(0<i/\c=0)))(hc:¬ c.toNat<128):GN i u (c :: r)=GN (i+1) (u+c.toNat % 128*128 ^ i) r:=by
 rw[GN.eq_def];simp only [];rw[if_neg h,if_neg hc]
def YL {m:Nat}(hu:u<128 ^ i)(hm:m<128):u+m*128 ^ i<128 ^ (i+1):=by
 rw[CU];have:m*128 ^ i<=127*128 ^ i:=AW _ Fe;omega
def Pc (h:GN 0 0 l=none)(hR:Rd br bb (.slice none 0 0) [] true w'):I 0=I ↑(Gu l bad).1/\∃v',Rd br bb v' (Gu l bad).2.1 (Gu l bad).2.2 w':=by
 rw[Xv4 h];exact⟨rfl,_,hR⟩
def Xr2 {v':Value}(h:GN 0 0 l=some (n,r))(hR:Rd br bb v' r bad w'):(.int .i64 (IntKind.i64.wrap (n:Int)))=I ↑(Gu l bad).1/\∃v',Rd br bb v' (Gu l bad).2.1 (Gu l bad).2.2 w':=by
 rw[Xv5 h,Lj (by have:=X6m h;unfold Ge;omega)];exact⟨rfl,_,hR⟩
def Ya {v:Value}{lo hi:Nat}(h:Rd br bb v l bad w)(hx:Vc.Mod (Fv br) w w')(h1:lo<=hi)(h2:hi<=l.length):Fu Fs 1 w' (Hg 1 v lo hi) ((l.take hi).drop lo)/\((l.take hi).drop lo≠[]->(base (Hg 1 v lo hi)).1=bb/\bb≠br):=by
 have z:(l.take hi).drop lo≠[]->l≠[]:=λe e2=>e (by rw[e2];simp);have hb:(l.take hi).drop lo≠[]->(base (Hg 1 v lo hi)).1=bb/\bb≠br:=λe=>by rw[X1e];exact h.n (z e)
 exact⟨(h.a.slice h1 h2).mod hx (λe e2=>(hb e).2 ((hb e).1▸e2)),hb⟩
def RY {v:Value}{lo:Nat}(h:Rd br bb v l bad w)(hx:Vc.Mod (Fv br) w w')(h1:lo<=l.length)(hm:Fp w' br [Hg 1 v lo l.length,B bad] 273):Rd br bb (Hg 1 v lo l.length) (l.drop lo) bad w':=by
 have:=Ya h hx h1 (Aa _);rw[AT]at this;exact⟨hm,this.1,this.2⟩
def XD {n:Int}(h:n<0\/(l.length:Int)<n):JA n l bad=([],[],true):=by unfold JA;rw[if_pos h]
def Xv7 {n:Int}(h:¬ (n<0\/(l.length:Int)<n)):JA n l bad=(l.take n.toNat,l.drop n.toNat,bad):=by unfold JA;rw[if_neg h]
def JU : Nat->Fj->Bool->List Nat×Fj×Bool
 | 0,l,bad=>([],l,bad)
 | k+1,l,bad=>((Gu l bad).1 :: (JU k (Gu l bad).2.1 (Gu l bad).2.2).1,(JU k (Gu l bad).2.1 (Gu l bad).2.2).2)
def He (Cs:Nat->List Value):List (Nat×Nat)->List Nat->Nat->List Value
 | (b,o) :: ps,n :: ns=>He (λk=>if k=b then(Cs b).set o (I ↑n)else Cs k) ps ns
 | _,_=>Cs
def W7 (h:(Gu l bad).2.1≠[]):l≠[]:=by
 rintro rfl;exact h rfl
def LI {l':Fj}(h:l'≠[]->l≠[])(hk:Oc br bb l' k):Oc br bb l k:=hk.imp (λh=>h) λ⟨h1,h2⟩=>⟨h h1,h2⟩
def Xld (k:Nat)(l:Fj)(bad:Bool):JU (k+1) l bad=((Gu l bad).1 :: (JU k (Gu l bad).2.1 (Gu l bad).2.2).1,(JU k (Gu l bad).2.1 (Gu l bad).2.2).2):=rfl
def Qm (br bb:Nat)(v:Value)(l:Fj)(bad:Bool)(w:World)(h:Rd br bb v l bad w)(hll:l.length<=2001000020) :
  G4 187 [Fh br 0] w (Fv br) λu w'=>u=I ↑(Gu l bad).1/\∃v',Rd br bb v' (Gu l bad).2.1 (Gu l bad).2.2 w':=by
 refine cE Tryz.func187 λz=>?_;obtain⟨hm,ha,hn⟩:=h;have hc:Rd br bb v l bad w:=⟨hm,ha,hn⟩;refine go ?_;refine dp (GY Ff rfl rfl) ?_;refine Fk (λc1=>?_) λc1=>?_
 ·exact absurd c1 F0
 refine FM 5 1 (ha.ext z).sl ?_;refine F8 (G:=Nat×Nat) (λ(k,u)=>[(0,Fh br 0),(3,.int .u64 ↑u),(11,v),(12,I ↑l.length),(13,I ↑k)]) (λ(k,u) w'=>Fq w w'/\k<=l.length/\k<=9/\u<128 ^ k/\GN 0 0 l=GN k u (l.drop k)) (λ(k,u)=>l.length-k) (0,0) ⟨z,Ab _,Ab _,by simp,rfl⟩ ?_;rintro _ ⟨k,u⟩ w1 ⟨z,hk1,hk2,hu,hN⟩;refine Fk (λc2=>?_) λc2=>?_
 ·obtain⟨c,hk⟩:∃c,l[k]?=some c:=F7;have Z:=Ja hk;refine go ?_;refine di 5 1 (ha.ext z).sl rfl ((ha.ext z).lt hk) (dl rfl (((ha.ext z).row hk).at0 rfl) (go ?_));refine dp (HY rfl rfl) ?_;refine FJ 20 (λc3=>?_) λc3=>?_
  ·refine go ?_;refine GU rfl (Gz (ND br bb v l bad _ (hc.ext z)) λu2 w2 x2 hh=>?_);have hsz2:=z.size;have z:=(z.mod x2).mono (λi hi hf=>(hi:(Fv br) i));obtain⟨rfl,O⟩:=hh;refine go ?_;exact⟨_,rfl,z,Pc (by rw[hN,Z];exact Xo (.inl Fe)) O⟩
  refine FJ 23 (λc4=>?_) λc4=>?_
  ·refine go ?_;refine dp (QG (b:=0) rfl rfl) ?_;refine Fk (λc5=>?_) λc5=>?_
   ·refine Gz (ND br bb v l bad _ (hc.ext z)) λu3 w3 x3 hl=>?_;have hsz3:=z.size;have z:=(z.mod x3).mono (λi hi hf=>(hi:(Fv br) i));obtain⟨rfl,O⟩:=hl;refine go ?_;exact⟨_,rfl,z,Pc (by rw[hN,Z];exact Xo (.inr ⟨by omega,c5⟩)) O⟩
   refine go ?_;refine dp (RU (b:=127) rfl rfl) (dp (U4 rfl Ff Ff) (go ?_));refine dp (Ks rfl rfl FH) (dp (Vv rfl rfl (Bf _ Fo) Fe) (dp (YK rfl rfl hu (Bf _ Fo) Fe) (go ?_)));refine dp (WI (b:=128) rfl rfl) ?_;refine Fk (λc6=>?_) λc6=>?_
   ·have J:¬ (9<=k\/(0<k/\c=0)):=by
     rintro (h|⟨h,h2⟩)
     ·omega
     ·exact c5 h2
    have Y:=CT.1 c6;refine Fk (λc7=>?_) λc7=>?_
    ·refine Gz (ND br bb v l bad _ (hc.ext z)) λu4 w4 x4 hg=>?_;have hsz4:=z.size;have z:=(z.mod x4).mono (λi hi hf=>(hi:(Fv br) i));obtain⟨rfl,O⟩:=hg;refine go ?_;exact⟨_,rfl,z,Pc (by rw[hN,Z,Rg J Y,if_pos Fe]) O⟩
    refine go ?_;refine dl rfl ((hm.ext z).at rfl) (go ?_);refine dp (HH (e:=5) (k:=1) Ff (ha.ext z).sl rfl rfl rfl (show k+1<=l.length by omega) (Aa _)) (go ?_);refine KW (hm.ext z) (λw5 x5 xs5 hm=>?_) (hv:=by exact Td (k:=1) (a:=k+1) (b:=l.length) ha.sl);dsimp only [Gw,AU,AP,AZ]at hm;have z:=(z.mod x5).mono (λi hi _=>(hi:(Fv br) i));refine go ?_;refine dp (Kf (k:=.i64) rfl Ff Ff) (go ?_);exact⟨_,rfl,z,Xr2 (by rw[hN,Z,Rg J Y,if_neg Fe]) (RY hc z Fe hm)⟩
   have J:¬ (9<=k\/(0<k/\c=0)):=by
    rintro (h|⟨h,h2⟩)
    ·omega
    ·exact c5 h2
   have Y:¬ c.toNat<128:=λh=>c6 (CT.2 h);refine go ?_;refine⟨(k+1,_),Hc,⟨z,by omega,by omega,YL hu (Bf _ Fo),by rw[hN,Z,Ul J Y]⟩,by simp only [];omega⟩
  refine go ?_;refine GS rfl (go ?_);refine dp (RU (b:=127) rfl rfl) (dp (U4 rfl Ff Ff) (go ?_));refine dp (Ks rfl rfl FH) (dp (Vv rfl rfl (Bf _ Fo) Fe) (dp (YK rfl rfl hu (Bf _ Fo) Fe) (go ?_)));refine dp (WI (b:=128) rfl rfl) ?_;refine Fk (λc8=>?_) λc8=>?_
  ·have J:¬ (9<=k\/(0<k/\c=0)):=by rintro (h|⟨h,_⟩)<;>omega
   have Y:=CT.1 c8;refine Fk (λc9=>?_) λc9=>?_
   ·refine Gz (ND br bb v l bad _ (hc.ext z)) λu6 w6 x6 hj=>?_;have hsz6:=z.size;have z:=(z.mod x6).mono (λi hi hf=>(hi:(Fv br) i));obtain⟨rfl,O⟩:=hj;refine go ?_;exact⟨_,rfl,z,Pc (by rw[hN,Z,Rg J Y,if_pos Fe]) O⟩
   refine go ?_;refine dl rfl ((hm.ext z).at rfl) (go ?_);refine dp (HH (e:=5) (k:=1) Ff (ha.ext z).sl rfl rfl rfl (show k+1<=l.length by omega) (Aa _)) (go ?_);refine KW (hm.ext z) (λw7 x7 xs7 hm=>?_) (hv:=by exact Td (k:=1) (a:=k+1) (b:=l.length) ha.sl);dsimp only [Gw,AU,AP,AZ]at hm;have z:=(z.mod x7).mono (λi hi _=>(hi:(Fv br) i));refine go ?_;refine dp (Kf (k:=.i64) rfl Ff Ff) (go ?_);exact⟨_,rfl,z,Xr2 (by rw[hN,Z,Rg J Y,if_neg Fe]) (RY hc z Fe hm)⟩
  have J:¬ (9<=k\/(0<k/\c=0)):=by rintro (h|⟨h,_⟩)<;>omega
  have Y:¬ c.toNat<128:=λh=>c8 (CT.2 h);refine go ?_;refine⟨(k+1,_),Hc,⟨z,by omega,by omega,YL hu (Bf _ Fo),by rw[hN,Z,Ul J Y]⟩,by simp only [];omega⟩
 refine Gz (ND br bb v l bad _ (hc.ext z)) λu8 w8 x8 hp=>?_;have hsz8:=z.size;have z:=(z.mod x8).mono (λi hi hf=>(hi:(Fv br) i));obtain⟨rfl,O⟩:=hp;refine go ?_;exact⟨_,rfl,z,Pc (by rw[hN,BG Fe];rfl) O⟩
def Yc3 (br bb:Nat)(v:Value)(l:Fj)(bad:Bool)(n:Int)(w:World)(h:Rd br bb v l bad w)(hll:l.length<=2001000020) :
  G4 194 [Fh br 0,I n] w (Fv br) λu w'=>Vc.Own Fs 1 5 w.heap.size w' u (JA n l bad).1/\∃v',Rd br bb v' (JA n l bad).2.1 (JA n l bad).2.2 w':=by
 refine cE Tryz.func194 λz=>?_;obtain⟨hm,ha,hn⟩:=h;have J:Rd br bb v l bad w:=⟨hm,ha,hn⟩;refine go ?_;refine dp (GY Ff rfl rfl) ?_;refine FJ 8 (λc1=>?_) λc1=>?_
 ·exact absurd c1 F0
 refine FJ 12 (λc2=>?_) λc2=>?_
 ·refine go ?_;refine GU rfl (Gz (ND br bb v l bad _ (J.ext z)) λu1 w1 x1 hf=>?_);have hsz1:=z.size;have z:=(z.mod x1).mono (λi hi hh=>(hi:(Fv br) i));obtain⟨rfl,Y⟩:=hf;refine go ?_;refine⟨_,rfl,z,?_⟩;rw[XD Fe];exact⟨Vc.Own.nil,_,Y⟩
 refine FM 5 1 (ha.ext z).sl ?_;refine Fk (λc3=>?_) λc3=>?_
 ·refine Gz (ND br bb v l bad _ (J.ext z)) λu2 w2 x2 hc=>?_;have hsz2:=z.size;have z:=(z.mod x2).mono (λi hi hh=>(hi:(Fv br) i));obtain⟨rfl,Y⟩:=hc;refine go ?_;refine⟨_,rfl,z,?_⟩;rw[XD Fe];exact⟨Vc.Own.nil,_,Y⟩
 obtain⟨n,rfl⟩:∃m:Nat,n=↑m:=⟨n.toNat,by omega⟩;have hg:(↑n:Int).toNat=n:=BU n;have O:n<=l.length:=by omega
 refine go ?_;refine dp (HH (e:=5) (k:=1) Ff (ha.ext z).sl rfl rfl rfl (Ab _) O) ?_;have Z:=(Ya (hi:=n) (lo:=0) J ((Vc.Mod.refl _ _).ext z) (Ab _) O).1;rw[List.drop_zero]at Z;refine cG (Ny (l.take n) _ _ Z (by rw[AE];omega)) RX.all λvo w3 x3 ho=>?_;have hsz3:=z.size;have z:=z.trans x3;refine go ?_;refine dl rfl ((hm.ext z).at rfl) (go ?_);refine dp (HH (e:=5) (k:=1) Ff (ha.ext z).sl rfl rfl rfl O (Aa _)) (go ?_);refine KW (hm.ext z) (λw4 x4 xs4 hm=>?_) (hv:=by exact Td (k:=1) (a:=n) (b:=l.length) ha.sl);dsimp only [Gw,AU,AP,AZ]at hm;have ho:=ho.mod x4 (λk hk h=>by have h1:=(ho.lt k hk).1;have h2:k=br:=h;have h3:=J.m.lt;omega);have z:=(z.mod x4).mono (λi hi _=>(hi:(Fv br) i));refine go ?_;refine⟨_,rfl,z,?_⟩;rw[Xv7 Fe,hg];exact⟨ho,_,RY J z O hm⟩
def Qi (br bb:Nat)(v:Value)(l:Fj)(bad:Bool)(w:World)(h:Rd br bb v l bad w)(hll:l.length<=2001000020) :
  G4 121 [Fh br 0] w (Fv br) λu w'=>Vc.Own Fs 1 5 w.heap.size w' u (OR l bad).1/\∃v',Rd br bb v' (OR l bad).2.1 (OR l bad).2.2 w':=by
 refine cM Tryz.func121 (Fv br) λz=>Gz (Qm br bb v l bad _ (h.ext (Fq.refl _)) hll) λu1 w1 x1 O=>?_;have hsz1:=z.size;have z:=z.own x1 F5;obtain⟨rfl,v1,Z⟩:=O;have J:=x1.size;refine cD (Yc3 br bb v1 _ _ _ _ Z (Ae (WF l bad) hll)) (.inl rfl) λu2 w2 x2 Y=>?_;have hsz2:=z.size;have z:=z.own x2 F5;obtain⟨hO,v2,ha⟩:=Y;refine go ?_;exact⟨_,rfl,z,hO.mono J,v2,ha⟩
def Xv9 (br bb:Nat)(v:Value)(l:Fj)(bad:Bool)(ps:List (Nat×Nat))(vn:Value)(Cs:Nat->List Value)(Ts:Nat->TypeId)(w:World)(hR0:Rd br bb v l bad w)(hll:l.length<=2001000020)(hv:Fu (λp:Nat×Nat=>[Fh p.1 p.2]) 1 w vn ps)(hpl:ps.length<=1000)(hB0:∀p∈ps,Fp w p.1 (Cs p.1) (Ts p.1)/\p.2<(Cs p.1).length)(hdis:∀p∈ps,¬ Oc br bb l p.1)(hdv:ps≠[]->¬ ((base vn).1=br\/∃p∈ps,(base vn).1=p.1)) :
  G4 119 [Fh br 0,vn] w (λk=>k=br\/∃p∈ps,k=p.1) λu w'=>u=.tuple #[]/\∃v',Rd br bb v' (JU ps.length l bad).2.1 (JU ps.length l bad).2.2 w'/\∀p∈ps,Fp w' p.1 (He Cs ps (JU ps.length l bad).1 p.1) (Ts p.1):=by
 refine cM Tryz.func119 (λk=>k=br\/∃p∈ps,k=p.1) λz=>FM 197 1 (hv.mod z hdv).sl ?_;refine F8 (G:=Nat×Value×Fj×Bool×(Nat->List Value)) (λ(k,vc,lc,bc,Cc)=>[(0,Fh br 0),(7,vn),(8,I ↑ps.length),(9,I ↑k)]) (λ(k,vc,lc,bc,Cc) w'=>Mod (λk=>k=br\/∃p∈ps,k=p.1) w w'/\k<=ps.length/\Rd br bb vc lc bc w'/\(∀p∈ps,Fp w' p.1 (Cc p.1) (Ts p.1)/\p.2<(Cc p.1).length)/\lc.length<=l.length/\(lc≠[]->l≠[])/\He Cs ps (JU ps.length l bad).1=He Cc (ps.drop k) (JU (ps.length-k) lc bc).1/\(JU ps.length l bad).2=(JU (ps.length-k) lc bc).2) (λ(k,vc,lc,bc,Cc)=>ps.length-k) (0,v,l,bad,Cs) ⟨z,Ab _,hR0,hB0,Aa _,id,rfl,rfl⟩ ?_;rintro _ ⟨k,vc,lc,bc,Cc⟩ w1 ⟨z,hk1,hR,hB,hlen,hne,hW,hT⟩;refine Fk (λc1=>?_) λc1=>?_
 ·obtain⟨p,hk⟩:∃p,ps[k]?=some p:=F7;have hh:=Ja hk;refine go ?_;refine di 197 1 (hv.mod z hdv).sl rfl ((hv.mod z hdv).lt hk) (dl rfl (((hv.mod z hdv).row hk).at0 rfl) (Gz (Qm br bb vc lc bc _ hR Fe) λu2 w2 x2 hc=>?_));have hsz2:=z.size;have z:=z.own x2 F5;obtain⟨rfl,v1,hR⟩:=hc;have hB:∀p∈ps,Fp w2 p.1 (Cc p.1) (Ts p.1)/\p.2<(Cc p.1).length:=λp Y=>⟨(hB p Y).1.mod x2 (λh=>hdis p Y (.inl h)),(hB p Y).2⟩;refine go ?_;refine dp (OB Ff rfl rfl) ?_;refine Fk (λc2=>?_) λc2=>?_
  ·refine go ?_;obtain⟨hf,J⟩:=hB p (Ag hk);refine Kc (b:=p.1) (o:=p.2) (v:=I ↑(Gu lc bc).1) rfl rfl rfl rfl Ff hf J (.inl rfl) (λw3 x3 xs3 Z=>?_);have z:=z.own x3 (λi hi hlt=>by have h2:i=p.1:=hi;exact .inr ⟨p,Ag hk,h2⟩);have hR:=hR.mod x3 (λk9 hg h9=>by have h2:k9=p.1:=h9;exact hdis p (Ag hk) (h2▸LI (λe=>hne (W7 e)) hg));have hB:∀q∈ps,Fp w3 q.1 (if q.1=p.1 then(Cc p.1).set p.2 (I ↑(Gu lc bc).1)else Cc q.1) (Ts q.1)/\q.2<(if q.1=p.1 then(Cc p.1).set p.2 (I ↑(Gu lc bc).1)else Cc q.1).length:=by
    intro q hq
    by_cases e:q.1=p.1
    ·have O:=(hB q hq).2;rw[if_pos e,e,AB];rw[e]at O;exact⟨Z,O⟩
    ·rw[if_neg e];exact⟨(hB q hq).1.mod x3 (λh=>e h),(hB q hq).2⟩
   refine go ?_;obtain⟨m,hm9⟩:∃m,ps.length-k=m+1:=⟨ps.length-k-1,by omega⟩;have ha:ps.length-(k+1)=m:=by omega
   refine FL (k+1,v1,(Gu lc bc).2.1,(Gu lc bc).2.2,λq=>if q=p.1 then(Cc p.1).set p.2 (I ↑(Gu lc bc).1)else Cc q) ⟨z,by omega,hR,hB,Ae (WF lc bc) hlen,λe=>hne (W7 e),?_,?_⟩
   ·rw[hW,hh,hm9,ha,Xld];rfl
   ·rw[hT,hm9,ha,Xld]
  exact absurd F0 c2
 refine go ?_;refine Ig (H6 rfl ?_);rw[show ps.length-k=0 by omega]at hW hT;refine⟨_,rfl,z,rfl,vc,by rw[hT];exact hR,λp Y=>?_⟩;rw[hW,BG Fe];exact(hB p Y).1
def Oi (h:UInt32)(c:UInt8):UInt32:=(h ^^^ c.toUInt32)*16777619
def N5 (s:Fj):UInt32:=s.foldl Oi 2166136261
def PJ (s:Fj):UInt32:=(N5 s >>> 17) ||| (N5 s <<< 15)
def Po (s:Fj)(n i:Nat):Nat:=(N5 s+AJ i*PJ s).toNat % n
def JR (s:Fj)(n:Nat):List Nat:=(List.range 6).map (Po s n)
section
variable {P:Program}{E:FF}{dd:Option Tmp}{ty:TypeId}{pos:String}{af:Array Edge}{g:Option (Nat×Bool)}{x y:Operand}{T U:TypeId}
def Qk {a b:UInt32}(hx:ev E x=Hh a)(hy:ev E y=Hh b):PV P ⟨dd,.binOp .mul T x y U,ty,pos,af,g⟩ E (Hh (a*b)):=by
 have:=Xp (P:=P) (d:=dd) (ty:=ty) (pos:=pos) (af:=af) (g:=g) (T:=T) (U:=U) hx hy;rwa [Mf,show((a.toNat:Int)*(b.toNat:Int)) % 4294967296=((a*b).toNat:Int) by rw[UInt32.toNat_mul];omega]at this
def Wm {a b:UInt32}(hx:ev E x=Hh a)(hy:ev E y=Hh b):PV P ⟨dd,.binOp .add T x y U,ty,pos,af,g⟩ E (Hh (a+b)):=by
 have:=X59 (P:=P) (d:=dd) (ty:=ty) (pos:=pos) (af:=af) (g:=g) (T:=T) (U:=U) hx hy;rwa [Mf,show((a.toNat:Int)+(b.toNat:Int)) % 4294967296=((a+b).toNat:Int) by rw[UInt32.toNat_add];omega]at this
variable {n:Nat}
def Pi (hx:ev E x=I n)(hT:(P.underlying T).isSome=true)(hU:Ic P U=some .u32):PV P ⟨dd,.convert T U x,ty,pos,af,g⟩ E (Hh (AJ n)):=by
 have:=Kf (P:=P) (d:=dd) (ty:=ty) (pos:=pos) (af:=af) (g:=g) hx hT hU;rwa [Mf,show(n:Int) % 4294967296=((AJ n).toNat:Int) by rw[UInt32.toNat_ofNat'];omega]at this
def Lq {k:IntKind}(hn:n<18446744073709551616)(hx:ev E x=.int k n)(hT:(P.underlying T).isSome=true)(hU:Ic P U=some .u64):PV P ⟨dd,.convert T U x,ty,pos,af,g⟩ E (.int .u64 (n:Int)):=by
 have:=Kf (P:=P) (d:=dd) (ty:=ty) (pos:=pos) (af:=af) (g:=g) hx hT hU;rwa [Nt hn]at this
def Me (hn:n<9223372036854775808)(hx:ev E x=.int .u64 (n:Int))(hT:(P.underlying T).isSome=true)(hU:Ic P U=some .i64):PV P ⟨dd,.convert T U x,ty,pos,af,g⟩ E (I (n:Int)):=by
 have:=Kf (P:=P) (d:=dd) (ty:=ty) (pos:=pos) (af:=af) (g:=g) hx hT hU;rwa [Lj FH]at this
def X1h {a b:Nat}(hb:0<b)(hx:ev E x=.int .u64 (a:Int))(hy:ev E y=.int .u64 (b:Int)):PV P ⟨dd,.binOp .rem T x y U,ty,pos,af,g⟩ E (.int .u64 ((a % b:Nat):Int)):=by
 have:=NJ (P:=P) (dd:=dd) (ty:=ty) (pos:=pos) (af:=af) (g:=g) (T:=T) (U:=U) hx hy Fe Fe;rwa [show(a:Int) % (b:Int)=((a % b:Nat):Int) by omega]at this
end
def Xwb {s:Fj}{c:UInt8}(h:s[k]?=some c):(s.take (k+1)).foldl Oi 2166136261=Oi ((s.take k).foldl Oi 2166136261) c:=by
 rw[GW h,BA];rfl
def PA (s:Fj)(n:Nat):(JR s n).length=6:=by simp [JR]
def Xt9 {s:Fj}(h:i<6):(JR s n)[i]?=some (Po s n i):=by simp [JR,h]
def X95 (s:Fj)(w:World)(hs:s.length<=1000000000) :
  FX 311 [S s] w (Hh (N5 s)):=by
 refine cE Tryz.func311 λz=>F8 (G:=Nat×UInt32) (λ(k,h)=>[(0,S s),(2,.int .u32 0),(3,Hh h),(6,I ↑s.length),(7,I ↑k)]) (λ(k,h) w'=>Fq w w'/\k<=s.length/\h=(s.take k).foldl Oi 2166136261) (λ(k,h)=>s.length-k) (0,2166136261) ⟨z,Ab _,rfl⟩ ?_;rintro _ ⟨k,h⟩ w1 ⟨z,hk1,hh⟩;refine Fk (λJ=>?_) λJ=>?_
 ·obtain⟨c,hk⟩:∃c,s[k]?=some c:=F7;refine go ?_;refine dp (PY Ff rfl rfl hk) (dp (Nn rfl Ff Ff) (dp (Om rfl rfl) (dp (Qk (b:=16777619) rfl rfl) (go ?_))));refine FL (k+1,Oi h c) ⟨z,by omega,by rw[Xwb hk,<-hh]⟩
 refine go ?_;rw[Av Fe]at hh;exact⟨by rw[hh];rfl,z⟩
def XF (s:Fj)(n:Nat)(w:World)(hs:s.length<=1000000000)(h0:0<n)(hn:n<=9223372036854775807) :
  FX 255 [S s,I ↑n] w (.agg ⟨G6 (JR s n)⟩):=by
 refine cE Tryz.func255 λz=>go ?_;refine aL [.int .i64 0,.int .i64 0,.int .i64 0,.int .i64 0,.int .i64 0,.int .i64 0] λb1 w1 e1 x1 J=>?_;have g1:=z.ge e1;have z:=z.trans x1;refine go ?_;refine aL [.int .i64 0,.int .i64 0,.int .i64 0,.int .i64 0,.int .i64 0,.int .i64 0] λY w2 e2 x2 O=>?_;have g2:=z.ge e2;have n2_1:=J.ltb e2;refine Fy x2 J z λJ z=>Gs (X95 s _ hs) λw3 x3=>FC x3 J O z λJ O z=>?_;refine go ?_;refine dp (LN (b:=17) Fo rfl rfl) (go ?_);refine dp (Py (b:=15) Fo rfl rfl) (dp (Pf rfl rfl) (F8 (G:=Nat×List Nat) (λ(k,q)=>[(1,I ↑n),(4,Fh b1 0),(5,Fh Y 0),(6,Hh (N5 s)),(7,Hh (PJ s)),(16,I ↑k)]) (λ(k,q) w'=>Fq w w'/\Fp w' b1 (G6 (Ap 6 0)) 322/\k<=6/\q.length=6/\q.take k=(JR s n).take k/\Fp w' Y (G6 q) 322) (λ(k,q)=>6-k) (0,Ap 6 0) ⟨z,J,Ab _,rfl,rfl,O⟩ ?_));rintro _ ⟨k,q⟩ w4 ⟨z,J,hk1,hq,hqk,O⟩;refine Fk (λc1=>?_) λc1=>?_
 ·refine go ?_;refine dp (Pi rfl Ff Ff) (go ?_);refine dp (Qk rfl rfl) (dp (Wm rfl rfl) (dp (Lq (by have:=UInt32.toNat_lt (N5 s+AJ k*PJ s);omega) rfl Ff Ff) (go ?_)));refine dp (Lq Fe rfl Ff Ff) (dp (X1h h0 rfl rfl) (dp (Me (n:=Po s n k) (by have:=Bf (N5 s+AJ k*PJ s).toNat h0;unfold Po;omega) rfl Ff Ff) (dp (Ln (m:=6) (e:=3) (k:=1) Ff rfl rfl Fe) (KW O (λw5 Z xs5 O=>?_) (hv:=by rfl) (ho:=by rw[Au];omega)))));rw[Ot]at O;have J:=J.mo Z;have z:=z.o1 Z;refine go ?_;refine FL (k+1,q.set k (Po s n k)) ⟨z,J,by omega,by rw[AB];exact hq,?_,O⟩;rw[Bx,Bx,Xt9 Fe,List.take_set_of_le (Aa _),hqk,BI Fe]
 refine go ?_;refine dq (Fx (k:=6) Ff rfl (by simp [hq]) O.row) ?_;refine OJ (m:=6) (vs:=?u16) rfl rfl ?h16 Ff ?c16 ?d16 J ?n16 (.inl rfl) (λw6 x6 xs6 J=>?k16)
 case h16=>conv=>lhs;whnf
 case c16=>simp [hq]
 case d16=>rfl
 case n16=>simp [Value.oneCell']
 have z:=z.o1 x6;refine go ?_;refine Ou (k:=6) rfl rfl rfl Ff (by simp [hq]) J.row ?_;rw[Av Fe,Av (by rw[PA];omega)]at hqk;exact⟨by rw[hqk],z⟩
end Go.Proofs.YtiooodckiddpmaaGreatDoor
namespace Go.Vc
open Go.RowKit
def Ly (r:Option Nat):Fence:={ Fence.wide with round:=r }
def N6 (o:Oper):Bool:=match o.op with
 | .defer ..=>false
 | _=>true
def Xn1 {o:Oper}(h:N6 o=true):∀c,o.op≠.defer c:=λc e=>by unfold N6 at h;rw[e]at h;cases h
def KB (n:Nat):Code->Bool
 | .skip | .exit _ | .ret=>true
 | .region _ ops _=>ops.all (JC n) && ops.all N6
 | .seq a b=>KB n a && KB n b
 | .cond c a b=>N1 n c && KB n a && KB n b
 | .block _ c=>KB n c
 | .loop c=>KB n c
 | .rangeFunc g ps a b=>N1 n g && ps.all (AS · n) && KB n a && KB n b
 | _=>false
def H7 (n:Nat)(E:FF)(ds:List Deferred):Act:=⟨Ek (n:=n) λi=>E i.val,ds⟩
def IB (ds:List Deferred)(a:Act):Act:={ a with defers:=a.defers++ds }
def X1i (n:Nat)(E:FF)(ds:List Deferred):IB ds (H1 n E)=H7 n E ds:=rfl
def NY (ds:List Deferred)(a:Act)(d:Option Tmp)(v:Value):(IB ds a).put d v=IB ds (a.put d v):=by cases d<;>rfl
def Wy {n:Nat}{E:FF}{ds:List Deferred}{x:Operand}(h:N1 n x=true):(H7 n E ds).eval x=ev E x:=TN h
abbrev QX := Exit->FF->List Deferred->World->Prop
def Yw (n:Nat)(Q:QX):Exit->Act->World->Prop:=λe a w=>∃E ds,a=H7 n E ds/\Q e E ds w
def WX (r:Option Nat)(ds:List Deferred)(P:Program)(n:Nat)(c:Code)(Q:QX)(E:FF)(w:World):Prop:=
 KB n c=true->c.wpIn (Ly r) 0 P (Yw n Q) (H7 n E ds) w
def Si (K:FF->List Deferred->World->Prop)(Q:QX):QX
 | .normal,E,ds,w=>K E ds w
 | e,E,ds,w=>Q e E ds w
def Q9 (id:Nat)(Q:QX):QX
 | .exit id',E,ds,w=>cond (AM id' id) (Q .normal E ds w) (Q (.exit id') E ds w)
 | e,E,ds,w=>Q e E ds w
section
variable {r:Option Nat}{ds:List Deferred}{P:Program}{n:Nat}{Q:QX}{E:FF}{w:World}
variable {x y:Code}
def NR (h:∀K:FF->List Deferred->World->Prop,(∀E ds w,WX r ds P n y Q E w->K E ds w)->WX r ds P n x (Si K Q) E w):WX r ds P n (.seq x y) Q E w:=by
 intro ok;simp only [KB,Aw]at ok;refine wpIn_seq (Go.wpIn_mono (h (λE ds w=>WX r ds P n y Q E w) (λ_ _ _ h=>h) ok.1) ?_);intro e a w' J;obtain⟨E',O,rfl,z⟩:=J
 cases e<;>first|exact z ok.2|exact⟨E',O,rfl,z⟩
def X97 (h:Q .ret E ds w):WX r ds P n .ret Q E w:=λ_=>wpIn_ret ⟨E,ds,rfl,h⟩
variable {id:Nat}
def X6o (h:Q (.exit id) E ds w):WX r ds P n (.exit id) Q E w:=λ_=>wpIn_exit ⟨E,ds,rfl,h⟩
def X6p {c:Operand}{t:Bool}(hc:ev E c=.bool t)(ht:t=true->WX r ds P n x Q E w)(hf:t=false->WX r ds P n y Q E w):WX r ds P n (.cond c x y) Q E w:=by
 intro ok;simp only [KB,Aw]at ok;exact wpIn_cond_split (t:=t) (by rw[Wy ok.1.1];exact hc) (λh=>ht h ok.1.2) (λh=>hf h ok.2)
def Yn {c:Code}(h:WX r ds P n c (Q9 id Q) E w):WX r ds P n (.block id c) Q E w:=by
 intro ok;refine wpIn_block (Go.wpIn_mono (h ok) ?_);rintro e a w' ⟨E',d',rfl,hQ⟩
 cases e with
 | exit id'=>
  simp only [Exit.inBlock]
  by_cases hid:id'=id
  ·subst hid;simp only [if_true];refine⟨E',d',rfl,?_⟩;simpa [Q9]using hQ
  ·simp only [hid,if_false];refine⟨E',d',rfl,?_⟩;simpa [Q9,QW hid]using hQ
 | _=>exact⟨E',d',rfl,hQ⟩
def X6q {c:Code}{G:Type}(sl:G->List (Nat×Value))(F:G->World->Prop)(μ:G->Nat)(g0:G)(h0:holds (sl g0) E)(hF0:F g0 w)
  (round:∀(E:FF) (g:G) (w:World),F g w->WX r ds P n c (Si (λE' d' w'=>d'=ds/\∃Y,holds (sl Y) E'/\F Y w'/\μ Y<μ g) Q) (MN (sl g) E) w):WX r ds P n (.loop c) Q E w:=by
 intro ok;have hc:KB n c=true:=ok
 -- the measure stands in the ghost: one loop rule a ghost at a time,by strong induction over machines
 intro b k cs hp hb hr;have key:∀(m:Nat) (E:FF) (g:G) (w:World),μ g=m->holds (sl g) E->F g w->
   ∃e a' w',Yw n Q e a' w'/\ArrivesIn (Machine.fenced P (Ly r)) P (lone (b.atR (H7 n E ds) (.code c :: .inLoop c :: k)) cs w) b k cs e a' w':=by
  intro m
  induction m using Dh with
  | _ m ih=>
   intro E g w hm hh hF;have ha:=round E g w hF hc;rw[Te hh]at ha;obtain⟨e,a1,w1,⟨Z,d1,rfl,J⟩,z⟩:=ha b (.inLoop c :: k) cs hp hb hr
   cases e with
   | normal=>
    obtain⟨rfl,Y,hf,hl,hg⟩:=J;obtain⟨e2,a2,w2,hj,O⟩:=ih (μ Y) (hm▸hg) Z Y w1 rfl hf hl;exact⟨e2,a2,w2,hj,.of_steps (StepsIn.trans z (.one (fenced_calm hb hr rfl) stepR_inLoop)) O⟩
   | exit id=>exact⟨_,_,w1,⟨Z,d1,rfl,J⟩,.pass (x:=.inLoop c) rfl (λ_ _=>.inl F0) z⟩
   | goto l=>exact⟨_,_,w1,⟨Z,d1,rfl,J⟩,.pass (x:=.inLoop c) rfl (λ_ _=>.inl F0) z⟩
   | ret=>exact⟨_,_,w1,⟨Z,d1,rfl,J⟩,.pass (x:=.inLoop c) rfl (λ_ _=>.inl F0) z⟩
   | panic ch=>exact⟨_,_,w1,⟨Z,d1,rfl,J⟩,.pass (x:=.inLoop c) rfl (λ_ _=>.inl F0) z⟩
   | outgrown=>exact⟨_,_,w1,⟨Z,d1,rfl,J⟩,.pass (x:=.inLoop c) rfl (λ_ _=>.inl F0) z⟩
 obtain⟨e,a',w',J,z⟩:=key (μ g0) E g0 w rfl h0 hF0;exact⟨e,a',w',J,.of_steps (.one (fenced_calm hb hr rfl) stepR_loop) z⟩
variable {args:Array Value}
def Xn4 {row:String}{R:Value->World->Prop}(h:Rows P row args w R):RowsIn (Ly r) 0 P row args w R:=λc cs _=>by
 obtain⟨v,w',hR,hs⟩:=h c cs;exact⟨v,w',hR,stepsIn_wide.2 hs⟩
variable {R:Ending->World->Prop}
def Vz {m:Nat}{f:FuncId}(h:Calls P f args w R):CallsIn (Ly r) m P f args w R:=callsIn_wide.2 h
def X6r {o:Oper}(hd:N6 o=true){a:Act}{K0 K:Act->World->Prop}{Q0 Q:Exit->Act->World->Prop}(hK:∀a w,K0 a w->K (IB ds a) w)(hQ:∀e a w,e≠.normal->¬ Q0 e a w)
  (h:o.wp P a w K0 Q0):o.wpIn (Ly r) 0 P (IB ds a) w K Q:=by
 have hs:=Xn1 hd;unfold Oper.wp at h;unfold Oper.wpIn;refine⟨λ_ _=>trivial,?_⟩;rw[Oper.semAt_eq _ _ _ hs];have he:(IB ds a).eval=a.eval:=rfl;rw[he]
 generalize hres:(execOp a.eval o).run P w=res at *
 cases res with
 | ok x w'=>
  cases x<;>simp only [Oper.upon,Oper.uponIn]at h ⊢
  case value v=>rw[NY];exact hK _ _ h
  case skip=>rw[NY];exact hK _ _ h
  case enter f args=>
   refine⟨λh=>by simp [Ly,Fence.wide]at h,Vz (Calls.mono h λe w'' he=>?_)⟩
   cases e with
   | returned v=>show K ((IB ds a).put o.dst v) w'';rw[NY];exact hK _ _ he
   | panicked c=>exact(hQ _ _ _ F0 he).elim
   | outgrown=>obtain⟨a',w0,z⟩:=he;exact(hQ _ _ _ F0 z).elim
  case row row args=>
   refine⟨λh=>by simp [Ly,Fence.wide]at h,Xn4 (Rows.mono h λv w'' he=>?_)⟩;rw[NY];exact hK _ _ he
  case defer d=>
   have e:({ IB ds a with defers:=d :: (IB ds a).defers } : Act)=IB ds { a with defers:=d :: a.defers }:=rfl;rw[e,NY];exact hK _ _ h
 | halt x w'=>
  cases x<;>simp only [Oper.upon]at h ⊢
  exact(hQ _ _ _ F0 h).elim
def YN {ops:Array Oper}{Q0 Q1:Exit->Act->World->Prop}(hn:∀a w,Q0 .normal a w->Q1 .normal (IB ds a) w)(hQ:∀e a w,e≠.normal->¬ Q0 e a w) :
  ∀(l:List Oper) (a:Act) (w:World),(∀o∈l,N6 o=true)->wpList P ops Q0 l a w->wpListIn (Ly r) 0 P ops Q1 l (IB ds a) w
 | [],a,w,_,h=>hn _ _ h
 | o :: l,a,w,hd,h=>by
  have O:=YN (ops:=ops) hn hQ l;have z:∀o∈l,N6 o=true:=λo h=>hd o (Aj _ h);unfold wpList at h;unfold wpListIn;have Y:(IB ds a).tmps=a.tmps:=rfl;rw[Y];split
  ·rename_i J;rw[if_pos J]at h;rcases h with h|⟨_,a',w0,hf⟩
   ·exact X6r (hd o Ai) (λa w h=>O a w z h) hQ h
   ·exact(hQ _ _ _ F0 hf).elim
  ·rename_i J;rw[if_neg J]at h;refine⟨λ_ _=>trivial,?_⟩;rw[NY];exact O _ _ z h
def Yc4 {K:FF->World->Prop} : ∀e a w,e≠.normal->¬ Hv n (nf K) e a w:=by
 rintro e a w he ⟨E,rfl,h⟩
 cases e<;>first|exact he rfl|exact h
def PB {l:List Oper}(fs:List Fl)(hl:AM l.length fs.length=true)(h:Dw P n (l.map (·.dst)) (λa b=>a=b) (NB l fs) (λE w=>Q .normal E ds w) E w):WX r ds P n (.region id l.toArray false) Q E w:=by
 intro ok;simp only [KB,Aw]at ok;refine wpIn_region_list ?_;have h1:wpList P l.toArray (Hv n (nf λE w=>Q .normal E ds w)) l (H1 n E) w:=
  X6 (K:=λE w=>Q .normal E ds w) ok.1 (λ_ _ h=>h) _ fs E w (C6 hl) (λo ho=>Ct.1 ok.1 o (by simpa using ho)) (by simpa using h)
 rw[<-X1i];refine YN ?_ Yc4 l _ _ (λo ho=>Ct.1 ok.2 o (by simpa using ho)) h1;rintro a w ⟨E',rfl,hq⟩;exact⟨E',ds,rfl,hq⟩
def DI (r:Option Nat)(P:Program)(n:Nat)(l:List (Option Tmp)):List (Oper×Fl)->(FF->World->Prop)->FF->World->Prop
 | [],K,E,w=>K E w
 | (o,.p) :: rs,K,E,w=>if FU l E o.guard=true then ∃v,PV P o E v/\DI r P n l rs K (GL E o.dst v) w else DI r P n l rs K (GL E o.dst undef) w
 | (o,.l) :: rs,K,E,w=>if FU l E o.guard=true then ∃v,LV P o E w v/\DI r P n l rs K (GL E o.dst v) w else DI r P n l rs K (GL E o.dst undef) w
 | (o,.x) :: rs,K,E,w=>if FU l E o.guard=true then(JC n o=true->N6 o=true->o.wpIn (Ly r) 0 P (H1 n E) w (λa w'=>∃E',a=H1 n E'/\DI r P n l rs K E' w') (λ_ _ _=>False))else DI r P n l rs K (GL E o.dst undef) w
def mki : List Oper->List Fl->List (Oper×Fl)
 | o :: r,f :: fs=>(o,f) :: mki r fs
 | _,_=>[]
def LK (E:FF):List Tmp->List Value->FF
 | p :: ps,v :: vs=>LK (FW E p v) ps vs
 | _,_=>E
def Uj (ds:List Deferred):∀(ps:List Tmp) (vs:List Value) (E:FF),ps.length=vs.length->(ps.zip vs).foldl (λt (x:Tmp×Value)=>t.setIfInBounds x.1 x.2) (H7 n E ds).tmps=(H7 n (LK E ps vs) []).tmps
 | [],[],E,_=>rfl
 | p :: ps,v :: vs,E,h=>by
  have h1:=Jm n E (some p) v;have h2:(H7 n E ds).tmps.setIfInBounds p v=(H7 n (FW E p v) ds).tmps:=congrArg Act.tmps h1;rw[List.zip_cons_cons,BE];show List.foldl _ ((H7 n E ds).tmps.setIfInBounds p v) _=_;rw[h2];exact Uj ds ps vs _ (by simpa using h)
 | [],_ :: _,_,h=>by simp at h
 | _ :: _,[],_,h=>by simp at h
def Xua (ps:List Tmp)(vs:List Value)(h:ps.length=vs.length):(ps.toArray.zip vs.toArray).foldl (λt (x:Tmp×Value)=>t.setIfInBounds x.1 x.2) (H7 n E ds).tmps=(H7 n (LK E ps vs) []).tmps:=by
 rw[<-Ep,Array.toList_zip];exact Uj ds ps vs E h
def X1k {g:Operand}{ps:List Tmp}{assign body:Code}{gf N:Nat}{lb:Array Value}{args:Nat->List Value}
  (hg:ev E g=.func (.func gf) #[] lb) (hf:Hr P gf=true) (hlen:∀k,ps.length=(args k).length)
  (I:Nat->World->Prop) (A:Nat->FF->World->Prop) (h0:I 0 w)
  (hX:∀k W W',I k W->Fq W W'->I k W')
  (hL:∀k W l o o',I k W->w.heap.size<=l->W.heap[l]?=some o->o.isCells=false->I k (W.putObj l o'))
  (hAL:∀k E1 W l o o',A k E1 W->w.heap.size<=l->W.heap[l]?=some o->o.isCells=false->A k E1 (W.putObj l o'))
  (hit:∀l (J:Nat->World->Prop),(∀k W,J k W->I k W)->(∀k W W',J k W->Fq W W'->J k W')->
   (∀k W,J k W->k<N->YieldAt Fence.wide 0 P l (args k).toArray W λe W'=>e=.returned (.bool true)/\J (k+1) W')->
   ∀W,J 0 W->Calls P gf (#[.func (.yield l) #[] #[]]++lb) W λe W'=>(∃v,e=.returned v)/\J N W')
  (hassign:∀k l W,k<N->I k W->WX (some l) [] P n assign (λe E1 d1 W1=>e=.normal/\d1=[]/\Fq W W1/\A k E1 W1) (LK E ps (args k)) W)
  (hbody:∀k l E1 W (keep:Nat->Prop),k<N->A k E1 W->(∀j,keep j->w.heap.size<=j/\∃o,W.heap[j]?=some o/\o.isCells=false)->
   WX (some l) [] P n body (λe _ d1 W'=>e=.normal/\I (k+1) W'/\∀j,keep j->W'.heap[j]?=W.heap[j]?) E1 W)
  (h:∀D W,w.heap.size<=D->I N W->W.heap[D]?=some (.deferred (some []))->Q .normal E ({ target:=.collected D,args:=#[] } :: ds) W) :
  WX none ds P n (.rangeFunc g ps.toArray assign body) Q E w:=by
 intro ok;simp only [KB,Aw]at ok;obtain⟨⟨⟨okg,_⟩,oka⟩,okb⟩:=ok;have hgE:(H7 n E ds).eval g=.func (.func gf) #[] lb:=by rw[Wy okg];exact hg
 unfold Hr at hf;have eg:∀args w,(callFunc gf args).run P w=.ok (.enter gf args) w:=by
  cases hp:P.funcs[gf]? with
  | none=>rw[hp]at hf;simp at hf
  | some fn=>
   rw[hp]at hf;simp only [Aw,BW]at hf;obtain⟨h1,h2⟩:=hf;have h3:fn.body≠none:=by cases hb:fn.body<;>simp [hb]at h2 ⊢
   have h1' : fn.name ≠ "runtime.NumGoroutine" := by simpa using h1
   intro args w;simp [callFunc,program,Sem.run,hp,h1',h3]
 refine wpIn_rangeFunc (F:=Ly none) ?_;intro fn hfn;rw[show(Ly none).round=none from rfl];obtain⟨rec,hrec⟩:∃rec:LoopState->Option Code->Loop,rec=λst pe=>{ state:=st,pending:=pe,fn,tmps:=(H7 n E ds).tmps,params:=ps.toArray,assign,body,defers:=w.heap.size }:=⟨_,rfl⟩;obtain⟨W1,hW1⟩:∃W1,(w.alloc (.deferred (some []))).alloc (.loop (rec .ready none))=W1:=⟨_,rfl⟩;have hL1:W1.heap[w.heap.size+1]?=some (.loop (rec .ready none)):=by
  rw[<-hW1];have:=World.alloc_heap_new (w.alloc (.deferred (some []))) (.loop (rec .ready none));rwa [World.size_alloc]at this
 have hK1:W1.heap[w.heap.size]?=some (.deferred (some [])):=by
  rw[<-hW1];exact(Below.heap_alloc _ _ _ F0).trans (World.alloc_heap_new w _)
 have hx1:Fq w W1:=by rw[<-hW1];exact(Fq.alloc _ _).trans (Fq.alloc _ _)
 have hI1:I 0 W1:=hX _ _ _ h0 hx1;refine⟨w.heap.size+1,[{ target:=.collected w.heap.size,args:=#[] }],W1,{ target:=.fn (.func gf) lb,args:=#[.func (.yield (w.heap.size+1)) #[] #[]] },W1,gf,
  #[.func (.yield (w.heap.size+1)) #[] #[]]++lb,W1,?_,?_,λ_ _=>trivial,?_,λh=>by simp [Ly,Fence.wide]at h,?_⟩
 ·rw[<-hW1,hrec];exact run_enterLoop_outer _ _ _ _ _
 ·simp only [resolve,hgE];simp [go_sem]
 ·simp [invoke,go_sem,eg]
 ·refine Vz ((hit (w.heap.size+1) (λk W=>I k W/\W.heap[w.heap.size+1]?=some (.loop (rec .ready none))/\W.heap[w.heap.size]?=some (.deferred (some []))) (λ_ _ h=>h.1) ?_ ?_ W1 ⟨hI1,hL1,hK1⟩).mono ?_)
  ·rintro k W W' ⟨hi,hl,hk⟩ hx;have h1:=(BD.1 hl).1;have h2:=(BD.1 hk).1;exact⟨hX _ _ _ hi hx,by rw[hx.block _ h1 (λh=>h)];exact hl,by rw[hx.block _ h2 (λh=>h)];exact hk⟩
  ·rintro k W ⟨hi,hl,hk⟩ hkN;have hy:=run_yield (P:=P) (args:=(args k).toArray) hl (by rw[hrec];simp [hlen k]);rw[hrec]at hy;refine⟨fn,_,assign,body,hy,roundIn_of_wpIn (F:=Fence.wide) trivial ?_⟩;have e1:=Xua (n:=n) (E:=E) (ds:=ds) ps (args k) (hlen k);have ha:=hassign k (w.heap.size+1) W hkN hi oka;have e2:({ tmps:=(ps.toArray.zip (args k).toArray).foldl (λtmps (x:Tmp×Value)=>tmps.setIfInBounds x.1 x.2) (H7 n E ds).tmps,defers:=[] } : Act)=H7 n (LK E ps (args k)) []:=by rw[e1];rfl
   rw[e2];refine Go.wpIn_mono ha ?_;rintro e a W2 ⟨E1,d1,rfl,rfl,rfl,hx,hA⟩;have hlt1:=(BD.1 hl).1;have hlt2:=(BD.1 hk).1;have hl2:W2.heap[w.heap.size+1]?=some (.loop (rec .ready none)):=by rw[hx.block _ hlt1 (λh=>h)];exact hl
   have hk2:W2.heap[w.heap.size]?=some (.deferred (some [])):=by rw[hx.block _ hlt2 (λh=>h)];exact hk
   have hlt:w.heap.size+1<W2.heap.size:=(BD.1 hl2).1;refine⟨_,run_beginRound hl2 (by rw[hrec]),?_⟩;have hl3:(W2.putObj (w.heap.size+1) (.loop { rec .ready none with state:=.busy })).heap[w.heap.size+1]?=some (.loop { rec .ready none with state:=.busy }):=World.putObj_heap_same hlt;have hk3:(W2.putObj (w.heap.size+1) (.loop { rec .ready none with state:=.busy })).heap[w.heap.size]?=some (.deferred (some [])):=(World.putObj_heap_other Fe).trans hk2;have hA3:=hAL _ _ _ _ _ (.loop { rec .ready none with state:=.busy }) hA Fe hl2 rfl;have hb:=hbody k (w.heap.size+1) E1 _ (λj=>j=w.heap.size+1\/j=w.heap.size) hkN hA3 (by
    rintro j (rfl|rfl)
    ·exact⟨by omega,_,hl3,rfl⟩
    ·exact⟨by omega,_,hk3,rfl⟩) okb
   refine Go.wpIn_mono hb ?_;rintro e a3 W3 ⟨E3,d3,rfl,rfl,hI3,hkeep⟩;have hl4:=(hkeep _ (.inl rfl)).trans hl3;have hk4:=(hkeep _ (.inr rfl)).trans hk3;have hr:=run_endRound (P:=P) none hl4;refine⟨_,_,hr,rfl,hL _ _ _ _ _ hI3 Fe hl4 rfl,?_,(World.putObj_heap_other Fe).trans hk4⟩;rw[World.putObj_heap_same (BD.1 hl4).1,hrec];rfl
  ·rintro e W2 ⟨⟨v,rfl⟩,hi,hl,hk⟩;refine⟨none,_,by have:=run_endLoop (P:=P) hl (by rw[hrec];simp);rw[hrec]at this;exact this,E,_,rfl,?_⟩;exact h _ _ (Aa _) (hL _ _ _ _ _ hi Fe hl rfl) ((World.putObj_heap_other Fe).trans hk)
def NU (P:Program)(fn:Func)(n:Nat)(R:Ending->World->Prop):QX
 | .normal,E,ds,w | .ret,E,ds,w=>LeavesInM Fence.wide 0 P fn (H1 n E).tmps R ds .returning w
 | _,_,_,_=>False
variable {fn:Func}
def Xwc (h:JN P fn n R .ret E w):NU P fn n R .normal E [] w:=h
def Xwd {D:Nat}(hD:w.heap[D]?=some (.deferred (some [])))(h:JN P fn n R .ret E (w.putObj D (.deferred none))):NU P fn n R .ret E [{ target:=.collected D,args:=#[] }] w:=
 ⟨by simp,.inl ⟨D,_,rfl,run_takeDeferred hD,h⟩⟩
def Xu {f:FuncId}{c:Code}{az:List Value}(hf:P.funcs[f]?=some fn)(hb:fn.body=some c)(hn:fn.ntmps=n)(hle:B7 az.length n=true)(ok:KB n c=true)(h:WX none [] P n c (NU P fn n R) (Lu az 0 (λ_=>undef)) w):Calls P f az.toArray w R:=by
 have hle':az.length<=n:=by simpa [C7]using hle
 refine callsIn_wide.1 (callsIn_of_wp_marks (F:=Fence.wide) (n:=0) hf hb trivial ?_);have z:({ tmps:=az.toArray++Cl (fn.ntmps-az.toArray.size) undef,defers:=[] } : Act)=H7 n (Lu az 0 (λ_=>undef)) []:=by
  simp only [H7,hn]
  congr 1
  apply Df
  ·simp;omega
  ·intro i h1 h2;simp only [Dg,UT,Ab,if_true,C8];rw[El]
   by_cases hi:i<az.length
   ·simp [hi]
   ·simp [hi]
 rw[z];refine Go.wpIn_mono (h ok) ?_;rintro e a w' ⟨E,d,rfl,hQ⟩
 cases e with
 | normal=>exact hQ
 | ret=>exact hQ
 | _=>exact hQ.elim
def Yee {c:Operand}(hc:ev E c=.bool false)(h:WX r ds P n y Q E w):WX r ds P n (.cond c x y) Q E w:=X6p hc (λh=>by cases h) (λ_=>h)
def Pm {d:Option Tmp}{ty:TypeId}{pos:String}{af:Array Edge}{g:Option (Nat×Bool)}{f:Nat}{cs:List Operand}{vs:List Value}(hc:cs.map (ev E)=vs):PV P ⟨d,.makeFunc (.func f) #[] cs.toArray,ty,pos,af,g⟩ E (.func (.func f) #[] vs.toArray):=λw=>by
 subst hc;simp [execOp,Instr.makeFunc]
def Mod.putObj (W:World)(l:Nat)(o:Obj):Mod (Fv l) W (W.putObj l o):=⟨rfl,rfl,rfl,by simp,λk _ hk=>World.putObj_heap_other hk⟩
variable {b:Nat}
def Fp.cells {W:World}{T:Nat}{cs:List Value}(h:Fp W b cs T):∃o:Obj,W.heap[b]?=some o/\o.isCells=true:=⟨_,h,rfl⟩
def X1l {W:World}{l:Nat}{o:Obj}(hl:W.heap[l]?=some o)(ho:o.isCells=false)(h:∃o:Obj,W.heap[b]?=some o/\o.isCells=true):b≠l:=λe=>by
 obtain⟨o',h1,h2⟩:=h;subst e;rw[hl]at h1;cases h1;rw[ho]at h2;cases h2
def Fp.put {W:World}{T l:Nat}{cs:List Value}{o:Obj}(h:Fp W b cs T)(o':Obj)(hl:W.heap[l]?=some o)(ho:o.isCells=false):Fp (W.putObj l o') b cs T:=h.mod (Mod.putObj W l o') (X1l hl ho h.cells)
def Keeps (keep:Nat->Prop)(W0 W:World):Prop:=∀j,keep j->W.heap[j]?=W0.heap[j]?/\∃o,W.heap[j]?=some o/\o.isCells=false
section
variable {d:Option Tmp}{ty:TypeId}{pos:String}{af:Array Edge}{g:Option (Nat×Bool)}
end
end
@[reducible] def J2 (f:Nat) (cs:List Value):Value:=.func (.func f) #[] cs.toArray
section
variable {P:Program}{n:Nat}{ds:List (Option Tmp)}{R:World->World->Prop}{r:List (Oper×Fl×Bool)}{K:FF->World->Prop}{E:FF}{w:World}
variable {d:Nat}{op:Op}{ty:TypeId}{pos:String}{af:Array Edge}{g:Option (Nat×Bool)}{anc:Bool}{v:Value}
variable {ats:Array TypeId}{az:List Operand}{f t:Nat}{vs:List Value}
def Xwe {cs:List Value}{R1:Ending->World->Prop}(hg:FU ds E g=true)(hv:E t=J2 f cs)(hf:Hr P f=true)(ha:az.map (ev E)=vs)(hc:Calls P f (vs++cs).toArray w R1)(h:∀e w1,R1 e w1->∃v,e=.returned v/\(anc=false->R w w1)/\Dw P n ds R r K (FW E d v) w1):
  Dw P n ds R ((⟨some d,.call { callee:=.value (.tmp t),args:=az.toArray,argTypes:=ats },ty,pos,af,g⟩,.x,anc) :: r) K E w:=by
 refine Oa hg λok=>?_;unfold Hr at hf
 cases hp:P.funcs[f]? with
 | none=>rw[hp]at hf;simp at hf
 | some fn=>
  rw[hp]at hf;simp only [Aw,BW]at hf;obtain⟨h1,h2⟩:=hf;have h3:fn.body≠none:=by cases hb:fn.body<;>simp [hb]at h2 ⊢
  have h1' : fn.name ≠ "runtime.NumGoroutine" := by simpa using h1
  have hr:(execOp (ev E) ⟨some d,.call { callee:=.value (.tmp t),args:=az.toArray,argTypes:=ats },ty,pos,af,g⟩).run P w=.ok (.enter f (vs++cs).toArray) w:=by
   simp [execOp,resolve,ev,hv,Deferred.ofValue,invoke,callFunc,program,Sem.run,hp,h1',h3,ha]
  unfold Oper.wp;rw[MY ok,hr];simp only [Oper.upon];refine Calls.mono hc λe w1 h1=>?_;obtain⟨v,rfl,hR,hd⟩:=h e w1 h1;exact⟨_,Jm _ _ _ _,hR,hd⟩
def X1m {S:Nat->Prop}{cs:List Value}{F:Value->World->Prop}(hg:FU ds E g=true)(hv:E t=J2 f cs)(hf:Hr P f=true)(hc:Calls P f (vs++cs).toArray w (Hp S w F))(ha:az.map (ev E)=vs)(hR:anc=true\/∀w',Mod S w w'->R w w')(h:∀v w1,Mod S w w1->F v w1->Dw P n ds R r K (FW E d v) w1):
  Dw P n ds R ((⟨some d,.call { callee:=.value (.tmp t),args:=az.toArray,argTypes:=ats },ty,pos,af,g⟩,.x,anc) :: r) K E w:=
 Xwe hg hv hf ha hc λe w1 ⟨v,he,hx,hF⟩=>⟨v,he,λe=>hR.elim (λh=>by rw[h]at e;cases e) (λh=>h _ hx),h v w1 hx hF⟩
def Q6 {cs:List Value}(hg:FU ds E g=true)(hv:E t=J2 f cs)(hf:Hr P f=true)(hc:Calls P f (vs++cs).toArray w (Pure w v))(ha:az.map (ev E)=vs)(hR:RX R anc)(h:∀w1,Fq w w1->Dw P n ds R r K (FW E d v) w1):
  Dw P n ds R ((⟨some d,.call { callee:=.value (.tmp t),args:=az.toArray,argTypes:=ats },ty,pos,af,g⟩,.x,anc) :: r) K E w:=
 Xwe hg hv hf ha hc λe w1 ⟨he,hx⟩=>⟨v,he,hR.use hx,h w1 hx⟩
end
end Go.Vc
namespace Go.Vc
open Go.RowKit Go.Maps
def pO : Option Nat->Value
 | none=>.pointer none
 | some b=>Fh b 0
def Sh : ∀a b,pO a=pO b->a=b
 | none,none,_=>rfl
 | none,some _,h=>by simp [pO]at h
 | some _,none,h=>by simp [pO]at h
 | some a,some b,h=>by
  have:a=b:=by simpa [pO]using h
  rw[this]
def AnyK (P:Program)(k:TypeId):Type:={v:Value // ∃l,keyOf P k v=some l}
def Yef {P:Program}{k:TypeId}(hl:laidOutB P=true)(hrow:AS k P.types.size=true)(hka:P.keyTypeAt 2 k=true)(hwide:(match P.underlying k with|some (.array _ _)|some (.struct _)=>true|_=>false)=true):Keyed P k:=
 Keyed.of_law (deep_law_laid hl (m:=2) Fe (by simpa [Bm]using hrow) hka hwide)
def Gv (w:World)(b:Nat):Prop:=w.heap[b]?=some (.map #[] 0)
variable {b:Nat}{w:World}
def Gv.lt (h:Gv w b):b<w.heap.size:=(BD.1 h).1
variable {w':World}
def Gv.mod {S:Nat->Prop}(h:Gv w b)(x:Mod S w w')(hS:¬ S b):Gv w' b:=(x.block b h.lt hS).trans h
def Gv.ext (h:Gv w b)(x:Fq w w'):Gv w' b:=h.mod x (λh=>h)
instance {w w':World} {b:Nat} : Up w w' (Gv w b) (Gv w' b):=⟨λx h=>h.ext x⟩
def Gv.at {P:Program}{κ α:Type}{k:TypeId}{kv:κ->Value}{av:α->Value}(h:Gv w b):Xbd P k kv av w b 0 (λ_=>none):=
 ⟨.map [],⟨#[],0,h,⟨by simp,MapKept.stamped_empty 0,by simp⟩,Aa _,rfl⟩,λx l hl z=>rfl⟩
def Ib (w:World)(v:Value):Prop:=v=.map none\/∃b,v=.map (some b)/\Gv w b
def Ib.ext {v:Value}(h:Ib w v)(x:Fq w w'):Ib w' v:=h.imp (λh=>h) λ⟨b,e,hb⟩=>⟨b,e,hb.ext x⟩
def Gv.val (h:Gv w b):Ib w (.map (some b)):=.inr ⟨b,rfl,h⟩
def Ib.lt {v:Value}(h:Ib w v)(e:v=.map (some b)):b<w.heap.size:=by
 rcases h with rfl|⟨b2,rfl,h⟩
 ·cases e
 ·cases e;exact h.lt
def Xwg {v:Value}(h:Ib w v):v.cells=⟨[v]⟩:=by
 rcases h with rfl|⟨b,rfl,_⟩<;>rfl
def Qr (w:World)(r:Nat):Prop:=∃m c a,w.heap[r]?=some (.mapIter m c #[] a)/\(m=none\/∃b,m=some b/\Gv w b)
@[reducible] def Jr (f:Nat) (bs:List Value):Value:=.func (.func f) bs.toArray #[]
section
variable {P:Program}{n:Nat}{ds:List (Option Tmp)}{R:World->World->Prop}{r:List (Oper×Fl×Bool)}{K:FF->World->Prop}{E:FF}{w:World}
variable {d:Nat}{op:Op}{ty:TypeId}{pos:String}{af:Array Edge}{g:Option (Nat×Bool)}{anc:Bool}{v:Value}
variable {dd:Option Tmp}{f:Nat}{vs:List Value}
def TH {bs:List Operand}(hc:bs.map (ev E)=vs):PV P ⟨dd,.makeFunc (.func f) bs.toArray #[],ty,pos,af,g⟩ E (.func (.func f) vs.toArray #[]):=λw=>by
 simp [execOp,hc];rfl
def X1o {x y:Operand}{T:TypeId}{a:Fj}{c:UInt8}(hT:Kr P T=true)(hx:ev E x=S a)(hy:ev E y=.int .u8 0)(hi:a[0]?=some c):PV P ⟨dd,.index T x y,ty,pos,af,g⟩ E (.int .u8 c.toNat):=λw=>by
 have J:P.underlying T=some .string:=by
  unfold Kr at hT;split at hT<;>first|assumption|cases hT
 have e:(⟨⟨a⟩⟩:ByteArray)[(0:Int).toNat]?=some c:=by
  have z:0<a.length:=(Ar.1 hi).1;show(⟨⟨a⟩⟩:ByteArray)[0]?=some c;rw[getElem?_pos _ 0 z];exact hi▸(by rw[Aq z];rfl)
 have e2:(⟨⟨a⟩⟩:ByteArray)[0]?=some c:=by simpa using e
 simp [execOp,Instr.index,asIntOf,hx,hy,underlying,J,e2]
def XA {x:Operand}{T e k:Nat}(hT:IS P T=some (e,k))(hx:ev E x=.slice none 0 0):PV P ⟨dd,.call { callee:=.builtin .cap,args:=#[x],argTypes:=#[T] },ty,pos,af,g⟩ E (I 0):=λw=>by
 obtain⟨hu,_⟩:=KY hT;simp [execOp,resolve,invoke,builtin,Builtin.cap_,underlying,hu,hx,goInt]
variable {ats:Array TypeId}{az:List Operand}{bs:List Value}
def X6s {t:Nat}{R1:Ending->World->Prop}(hg:FU ds E g=true)(hv:E t=Jr f bs)(hf:Hr P f=true)(ha:az.map (ev E)=vs)(hc:Calls P f (bs++vs).toArray w R1)(h:∀e w1,R1 e w1->∃v,e=.returned v/\(anc=false->R w w1)/\Dw P n ds R r K (FW E d v) w1):
  Dw P n ds R ((⟨some d,.call { callee:=.value (.tmp t),args:=az.toArray,argTypes:=ats },ty,pos,af,g⟩,.x,anc) :: r) K E w:=by
 refine Oa hg λok=>?_;unfold Hr at hf
 cases hp:P.funcs[f]? with
 | none=>rw[hp]at hf;simp at hf
 | some fn=>
  rw[hp]at hf;simp only [Aw,BW]at hf;obtain⟨h1,h2⟩:=hf;have h3:fn.body≠none:=by cases hb:fn.body<;>simp [hb]at h2 ⊢
  have h1' : fn.name ≠ "runtime.NumGoroutine" := by simpa using h1
  have hr:(execOp (ev E) ⟨some d,.call { callee:=.value (.tmp t),args:=az.toArray,argTypes:=ats },ty,pos,af,g⟩).run P w=.ok (.enter f (bs++vs).toArray) w:=by
   simp [execOp,resolve,ev,hv,Deferred.ofValue,invoke,callFunc,program,Sem.run,hp,h1',h3,ha]
  unfold Oper.wp;rw[MY ok,hr];simp only [Oper.upon];refine Calls.mono hc λe w1 h1=>?_;obtain⟨v,rfl,hR,hd⟩:=h e w1 h1;exact⟨_,Jm _ _ _ _,hR,hd⟩
def X1p {t:Nat}(hg:FU ds E g=true)(hv:E t=Jr f bs)(hf:Hr P f=true)(hc:Calls P f (bs++vs).toArray w (Pure w v))(ha:az.map (ev E)=vs)(hR:RX R anc)(h:∀w1,Fq w w1->Dw P n ds R r K (FW E d v) w1):
  Dw P n ds R ((⟨some d,.call { callee:=.value (.tmp t),args:=az.toArray,argTypes:=ats },ty,pos,af,g⟩,.x,anc) :: r) K E w:=
 X6s hg hv hf ha hc λe w1 ⟨he,hx⟩=>⟨v,he,hR.use hx,h w1 hx⟩
def VA {t:TypeId}(hg:FU ds E g=true)(hR:RX R anc)
  (h:∀b w1,b=w.heap.size->Fq w w1->Gv w1 b->Dw P n ds R r K (FW E d (.map (some b))) w1):Dw P n ds R ((⟨some d,.makeMap t none,ty,pos,af,g⟩,.x,anc) :: r) K E w:=by
 refine IA (v:=.map (some w.heap.size)) (w':=w.alloc (.map #[] 0)) hg ?_ (hR.use (Fq.alloc _ _)) (h _ _ rfl (Fq.alloc _ _) (World.alloc_heap_new w _));have e1:(Instr.makeMap t none).run P w=.ok (.map (some w.heap.size)) (w.alloc (.map #[] 0)):=run_makeMap t w;simp [execOp,e1]
def X4n (P:Program)(t:TypeId):Bool:=match P.underlying t with
 | some (.map _ _)=>true
 | _=>false
def X1q {t:TypeId}{m:Operand}{mv:Value}(hb:X4n P t=true)(hg:FU ds E g=true)(hm:ev E m=mv)(hv:Ib w mv)(hR:RX R anc)
  (h:∀q w1,q=w.heap.size->Fq w w1->Qr w1 q->Dw P n ds R r K (FW E d (Fh q 0)) w1) :
  Dw P n ds R ((⟨some d,.range t m,ty,pos,af,g⟩,.x,anc) :: r) K E w:=by
 obtain⟨k,e,hu⟩:∃k e,P.underlying t=some (.map k e):=by
  unfold X4n at hb;split at hb
  ·exact⟨_,_,by assumption⟩
  ·cases hb
 rcases hv with rfl|⟨b,rfl,hb⟩
 ·refine IA (w':=w.alloc (.mapIter none 0 #[] 0)) (v:=Fh w.heap.size 0) hg ?_ (hR.use (Fq.alloc _ _)) (h _ _ rfl (Fq.alloc _ _) ⟨none,0,0,World.alloc_heap_new w _,.inl rfl⟩);simp [execOp,hm,run_range_nilMap w t k e hu]
 ·refine IA (w':=w.alloc (.mapIter (some b) 0 #[] 0)) (v:=Fh w.heap.size 0) hg ?_ (hR.use (Fq.alloc _ _)) (h _ _ rfl (Fq.alloc _ _) ⟨some b,0,0,World.alloc_heap_new w _,.inr ⟨b,rfl,hb.ext (Fq.alloc _ _)⟩⟩);simp [execOp,hm,run_range_map w t k e b #[] 0 hu hb]
def Xwi {q:Nat}(hi:Qr w q):(Instr.next (Fh q 0) false ty).run P w=.ok (.tuple #[.bool false]) w:=by
 obtain⟨m,c,a,h1,h2⟩:=hi;rcases h2 with rfl|⟨b,rfl,hb⟩
 ·simp only [Instr.next,getObj,Sem.run_bind,Sem.run,h1,Result.andThen];rfl
 ·unfold Gv at hb;simp [Instr.next,getObj,Sem.run_bind,Sem.run,h1,hb,Result.andThen,choose,Question.forced]
def X6t {it:Operand}{q:Nat}(hg:FU ds E g=true)(hit:ev E it=Fh q 0)(hi:Qr w q)(hR:RX R anc)(h:Dw P n ds R r K (FW E d (.tuple #[.bool false])) w) :
  Dw P n ds R ((⟨some d,.next it false,ty,pos,af,g⟩,.x,anc) :: r) K E w:=by
 refine IA (w':=w) (v:=.tuple #[.bool false]) hg ?_ (hR.use (Fq.refl _)) h;simp [execOp,hit,Xwi hi]
end
end Go.Vc
namespace Go.Vc
open Go.RowKit
section
variable {κ α β:Type}[DecidableEq κ]
def lk (l:List (κ×α))(x:κ):Option α:=(l.find? λp=>decide (p.1=x)).map (·.2)
def FB (l:List (κ×α))(x:κ)(a:α):List (κ×α):=if(lk l x).isSome then l.map (λp=>if p.1=x then(x,a)else p)else l++[(x,a)]
def G3 (l:List (κ×α))(x:κ):List (κ×α):=l.filter λp=>decide (p.1≠x)
def NF (x:κ):lk ([]:List (κ×α)) x=none:=rfl
def JT (p:κ×α)(l:List (κ×α))(x:κ):lk (p :: l) x=if p.1=x then some p.2 else lk l x:=by
 unfold lk
 by_cases h:p.1=x
 ·simp [h]
 ·simp [h]
variable {l:List (κ×α)}{x:κ}
def Nc : lk l x=none↔x∉l.map (·.1):=by
 induction l with
 | nil=>simp [NF]
 | cons p l ih=>
  rw[JT]
  by_cases h:p.1=x
  ·simp [h]
  ·rw[if_neg h,ih];have h2:¬ x=p.1:=λe=>h e.symm;simp [h2]
def Ro {a:α}(h:lk l x=some a):(x,a)∈l:=by
 induction l with
 | nil=>cases h
 | cons p l ih=>
  rw[JT]at h
  by_cases e:p.1=x
  ·rw[if_pos e]at h;cases h;subst e;exact Ai
  ·rw[if_neg e]at h;exact Aj _ (ih h)
def X98 {a:α}(hn:(l.map (·.1)).Nodup)(h:(x,a)∈l):lk l x=some a:=by
 induction l with
 | nil=>cases h
 | cons p l ih=>
  rw[Ak,Ba]at hn;rw[JT];rcases Ah.1 h with rfl|h
  ·simp
  ·have:p.1≠x:=λe=>hn.1 (e▸Ao.2 ⟨_,h,rfl⟩);rw[if_neg this];exact ih hn.2 h
def Xwj (l m:List (κ×α))(x:κ):lk (l++m) x=(lk l x).or (lk m x):=by
 induction l with
 | nil=>simp [NF]
 | cons p l ih=>
  rw[AY,JT,JT,ih];split<;>simp
def Np (l:List (κ×α))(x:κ)(a:α)(y:κ):lk (FB l x a) y=if y=x then some a else lk l y:=by
 unfold FB;split
 ·rename_i h;have key:∀l:List (κ×α),lk (l.map (λp=>if p.1=x then(x,a)else p)) y=if y=x then(if(lk l x).isSome then some a else none)else lk l y:=by
   intro l
   induction l with
   | nil=>simp [NF]
   | cons p l ih=>
    rw[Ak,JT,ih,JT,JT]
    by_cases e:p.1=x
    ·by_cases e2:y=x
     ·simp [e,e2]
     ·have z:¬ x=y:=λh=>e2 h.symm;simp [e,e2,z]
    ·by_cases e2:y=x
     ·simp [e,e2]
     ·simp [e,e2]
  rw[key,h];simp
 ·rename_i h;rw[Xwj,JT,NF];have h':lk l x=none:=by simpa using h
  by_cases e:y=x
  ·subst e;rw[h'];simp
  ·have z:¬ x=y:=λh=>e h.symm;simp [e,z]
def Rv (l:List (κ×α))(x:κ)(y:κ):lk (G3 l x) y=if y=x then none else lk l y:=by
 unfold G3
 induction l with
 | nil=>simp [NF]
 | cons p l ih=>
  rw[BJ]
  by_cases e:p.1=x
  ·rw[if_neg (by simp [e]),ih,JT]
   by_cases e2:y=x
   ·simp [e2]
   ·have z:¬ p.1=y:=λh=>e2 (h▸e);simp [e2,z]
  ·rw[if_pos (by simp [e]),JT,ih,JT]
   by_cases e2:y=x
   ·have z:¬ p.1=y:=λh=>e (h.trans e2);simp [e2,z];intro h;exact absurd h e
   ·simp [e2]
def Xwk (l:List (κ×α))(x:κ)(a:α):(FB l x a).map (·.1)=if(lk l x).isSome then l.map (·.1)else l.map (·.1)++[x]:=by
 unfold FB;split
 ·rw[List.map_map];refine List.map_congr_left λp _=>?_;simp only [Function.comp];split
  ·rename_i h;exact h.symm
  ·rfl
 ·simp
def PD (x:κ)(a:α)(h:(l.map (·.1)).Nodup):((FB l x a).map (·.1)).Nodup:=by
 rw[Xwk];split
 ·exact h
 ·rename_i hn;have z:x∉l.map (·.1):=Nc.1 (by simpa using hn);rw[List.nodup_append];exact⟨h,by simp,λa J b hb=>by simp at hb;subst hb;exact λe=>z (e▸J)⟩
def PP (x:κ)(h:(l.map (·.1)).Nodup):((G3 l x).map (·.1)).Nodup:=by
 unfold G3;exact List.Nodup.sublist (C0 _ List.filter_sublist) h
def Sl (l:List (κ×α))(x:κ)(a:α):(FB l x a).length=if(lk l x).isSome then l.length else l.length+1:=by
 unfold FB;split<;>simp
def VT (h:(l.map (·.1)).Nodup):(G3 l x).length+(if(lk l x).isSome then 1 else 0)=l.length:=by
 unfold G3
 induction l with
 | nil=>simp [NF]
 | cons p l z=>
  rw[Ak,Ba]at h;have z:=z h.2;rw[BJ,JT]
  by_cases e:p.1=x
  ·have J:lk l x=none:=Nc.2 (e▸h.1);rw[J]at z;simp [e]at z ⊢;exact z
  ·rw[if_pos (by simp [e]),if_neg e,Az,Az];omega
def Xwl (h:lk l x=none):G3 l x=l:=by
 unfold G3;refine List.filter_eq_self.2 λp z=>?_;have:=Nc.1 h;have:p.1≠x:=λe=>this (e▸Ao.2 ⟨p,z,rfl⟩);simp [this]
end
def Gr {κ α:Type}[DecidableEq κ](P:Program)(k:TypeId)(kv:κ->Value)(av:α->Value)(w:World)(b:Nat)(l:List (κ×α)):Prop:=
 (l.map (·.1)).Nodup/\∃D:DataW α,w.ownsMap P k (rdBy av) b l.length D/\Maps.size D=l.length/\∀x lx,keyOf P k (kv x)=some lx->∀z,D.atKey lx z=MR (lk l x) z
def World.ownsMap.exact {H:Type}{P:Program}{k:TypeId}{R:Value->Option (DataW H×List MemPlace)}{w:World}{b n:Nat}{D:DataW H}(h:w.ownsMap P k R b n D){m:Nat}(hm:Maps.size D=m):w.ownsMap P k R b m D:=by
 obtain⟨es,z,hb,F,_,rfl⟩:=h;refine⟨es,z,hb,F,?_,rfl⟩;have e1:Maps.size (DataW.map ((es.toList.map (Go.WideElems.rg P k R)).foldr DataW.insert []))=es.size:=by simp [Maps.size,length_sorted]
 omega
section
variable {P:Program}{κ α:Type}[DecidableEq κ]{t k e:TypeId}{kv:κ->Value}{av:α->Value}{ok:κ->Prop}{w w':World}{b:Nat}{l:List (κ×α)}
def Gr.at (h:Gr P k kv av w b l):Xbd P k kv av w b l.length (lk l):=by
 obtain⟨_,D,h1,_,h3⟩:=h;exact⟨D,h1,h3⟩
def Gr.mod {S:Nat->Prop}(h:Gr P k kv av w b l)(m:Mod S w w')(hb:¬ S b):Gr P k kv av w' b l:=by
 obtain⟨h0,D,h1,h2,h3⟩:=h;exact⟨h0,D,World.ownsMap.mod h1 m hb,h2,h3⟩
def Gr.ext (h:Gr P k kv av w b l)(m:Fq w w'):Gr P k kv av w' b l:=h.mod m (λh=>h)
instance : Up w w' (Gr P k kv av w b l) (Gr P k kv av w' b l):=⟨λx h=>h.ext x⟩
def Gr.lt (h:Gr P k kv av w b l):b<w.heap.size:=h.at.lt
def Gr.nodup (h:Gr P k kv av w b l):(l.map (·.1)).Nodup:=h.1
def Gr.has (M:MapK P t k e kv av ok){D:DataW α}{x:κ}{lx:Lit}(hx:keyOf P k (kv x)=some lx)(h3:∀x lx,keyOf P k (kv x)=some lx->∀z,D.atKey lx z=MR (lk l x) z):Maps.has D lx=(lk l x).isSome:=by
 cases e:lk l x with
 | none=>exact Maps.has_false_of_atKey λz=>by rw[h3 x lx hx z,e];rfl
 | some a=>exact Maps.has_true_of_atKey (y:=.held a) λz=>by rw[h3 x lx hx z,e];rfl
def Wp {b:Nat}(ht:w.mapTurned w' b):Mod (Fv b) w w'/\w'.heap.size=w.heap.size:=by
 refine⟨(Mod.of_grown ht.grown).mono (λi hi _=>(Am.inj hi).symm),?_⟩;obtain⟨es,c,es',c',_,e⟩:=ht;rw[e];simp [ChangeMaps.setBlock]
def Gr.update (M:MapK P t k e kv av ok)(h:Gr P k kv av w b l)(hn:l.length<maxLen){x:κ}(hx:ok x)(a:α) :
  ∃w',(Instr.mapUpdate t (.map (some b)) (kv x) (av a)).run P w=.ok () w'/\Gr P k kv av w' b (FB l x a)/\Mod (Fv b) w w'/\w'.heap.size=w.heap.size:=by
 obtain⟨h0,D,h1,h2,h3⟩:=h;obtain⟨lx,J⟩:=M.key x hx;obtain⟨w',Y,ho,Z⟩:=h1.store M.keyed M.und hn J (TL M.ainj a);have hs:Maps.size (D.put lx (.held a))=(FB l x a).length:=by
  rw[Maps.size_put (h1.tidy M.keyed),Gr.has M J h3,Sl,h2]
 refine⟨w',Y,⟨PD x a h0,_,World.ownsMap.exact ho hs,hs,λy ly O z=>?_⟩,Wp Z⟩;rw[Np]
 by_cases e:y=x
 ·subst e;rw[J]at O
  cases O
  rw[if_pos rfl,Maps.atKey_put_same h1.isMap (M.keyed.key J)];rfl
 ·rw[if_neg e,Maps.atKey_put_other (PH M J O e),h3 y ly O]
def Gr.drop (M:MapK P t k e kv av ok)(h:Gr P k kv av w b l){x:κ}(hx:ok x)(ty:TypeId) :
  ∃w',(Builtin.delete_ #[t,k] ty #[.map (some b),kv x]).run P w=.ok (.tuple #[]) w'/\Gr P k kv av w' b (G3 l x)/\Mod (Fv b) w w'/\w'.heap.size=w.heap.size:=by
 obtain⟨h0,D,h1,h2,h3⟩:=h;obtain⟨lx,O⟩:=M.key x hx;obtain⟨w',Y,ho,Z⟩:=h1.drop M.keyed M.und O ty;have hs:Maps.size (D.del lx)=(G3 l x).length:=by
  have h4:=Maps.size_del (h1.tidy M.keyed) (k:=lx);have h5:=VT (x:=x) h0;rw[Gr.has M O h3,h2]at h4;omega
 refine⟨w',Y,⟨PP x h0,_,World.ownsMap.exact ho hs,hs,λy ly J z=>?_⟩,Wp Z⟩;rw[Rv]
 by_cases e:y=x
 ·subst e;rw[O]at J
  cases J
  rw[if_pos rfl,Maps.atKey_del_same];rfl
 ·rw[if_neg e,Maps.atKey_del_other (PH M O J e),h3 y ly J]
variable {n:Nat}{E:FF}{ds:List (Option Tmp)}{R:World->World->Prop}{rs:List (Oper×Fl×Bool)}{K:FF->World->Prop}{d:Nat}{ty:TypeId}{pos:String}{af:Array Edge}{g:Option (Nat×Bool)}{anc:Bool}
variable {m:Operand}
def SH {x y:Operand}(M:MapK P t k e kv av ok){kx:κ}{a:α}(hg:FU ds E g=true)(hm:ev E m=.map (some b))(hx:ev E x=kv kx)(hy:ev E y=av a)(hmap:Gr P k kv av w b l)(hok:ok kx)(hn:l.length<maxLen)(hR:anc=true\/∀w',Mod (Fv b) w w'->R w w')(h:∀w1,Mod (Fv b) w w1->w1.heap.size=w.heap.size->Gr P k kv av w1 b (FB l kx a)->Dw P n ds R rs K E w1):
  Dw P n ds R ((⟨none,.mapUpdate t m x y,ty,pos,af,g⟩,.x,anc) :: rs) K E w:=by
 obtain⟨w',z,h1,h2,h3⟩:=hmap.update M hn hok a;refine S9 (w':=w') hg ?_ (λe=>hR.elim (λh=>by rw[h]at e;cases e) (λh=>h _ h2)) (h _ h2 h3 h1);simp [execOp,hm,hx,hy,z]
variable {dd:Option Tmp}
def Ss {x:Operand}(M:MapK P t k e kv av ok){kx:κ}(hg:FU ds E g=true)(hm:ev E m=.map (some b))(hx:ev E x=kv kx)(hmap:Gr P k kv av w b l)(hok:ok kx)(hR:anc=true\/∀w',Mod (Fv b) w w'->R w w')(h:∀w1,Mod (Fv b) w w1->w1.heap.size=w.heap.size->Gr P k kv av w1 b (G3 l kx)->Dw P n ds R rs K (GL E dd (.tuple #[])) w1):
  Dw P n ds R ((⟨dd,.call { callee:=.builtin .delete,args:=#[m,x],argTypes:=#[t,k] },ty,pos,af,g⟩,.x,anc) :: rs) K E w:=by
 obtain⟨w',z,h1,h2,h3⟩:=hmap.drop M hok ty;refine IA (v:=.tuple #[]) (w':=w') hg ?_ (λe=>hR.elim (λh=>by rw[h]at e;cases e) (λh=>h _ h2)) (h _ h2 h3 h1);simp [execOp,resolve,invoke,builtin,hm,hx,z]
def X6u (M:MapK P t k e kv av ok)(hm:ev E m=.map (some b))(hmap:Gr P k kv av w b l):LV P ⟨dd,.call { callee:=.builtin .len,args:=#[m],argTypes:=#[t] },ty,pos,af,g⟩ E w (I l.length):=by
 obtain⟨h0,D,h1,h2,h3⟩:=hmap;have:=h1.len M.und ty;rw[h2]at this;unfold LV;simp [execOp,resolve,invoke,builtin,hm,this]
end
section
variable {α:Type}{enc:α->List Value}{sz T B:Nat}{w:World}{v:Value}{l:List α}
def Ol : ∀(vs:List Value) (o:Nat) (cs:List Value) (i:Nat),o+vs.length<=cs.length->(Gw cs o vs)[i]?=if o<=i/\i<o+vs.length then vs[i-o]? else cs[i]?
 | [],o,cs,i,h=>by simp [Gw];intro h1 h2;omega
 | x :: vs,o,cs,i,h=>by
  rw[Gw,Ol vs (o+1) (cs.set o x) i (by simp at h ⊢;omega)];simp only [Az]at h ⊢
  by_cases h1:i=o
  ·subst h1;rw[if_neg Fe,if_pos Fe,CH];simp;omega
  ·by_cases h2:o<=i/\i<o+(vs.length+1)
   ·rw[if_pos Fe,if_pos h2,show i-o=(i-(o+1))+1 by omega,List.getElem?_cons_succ]
   ·rw[if_neg Fe,if_neg h2,CH,if_neg (λe=>h1 e.symm)]
def X1r (henc:∀x,(enc x).length=sz):∀(l:List α) (i j:Nat) (x:α) (vs:List Value),i<l.length->enc x=Gw (enc (l.getD i x)) j vs->j+vs.length<=sz->
  (l.set i x).flatMap enc=Gw (l.flatMap enc) (i*sz+j) vs:=by
 intro l i j x vs hi hx hj
 apply BF
 intro m;have Y:(l.flatMap enc).length=l.length*sz:=FG henc l;have hi':i*sz+sz<=l.length*sz:=by rw[<-Be];exact AW _ hi
 rw[Ol _ _ _ _ (by rw[Y];omega)]
 by_cases hm:m<l.length*sz
 ·have z:0<sz:=by
   rcases Nat.eq_zero_or_pos sz with h|h
   ·rw[h]at hm;omega
   ·exact h
  have hq:m / sz<l.length:=DG (by rw[B6];exact hm);have J:m / sz*sz+m % sz=m:=by have:=Er m sz;rw[B6]at this;exact this
  have hr:m % sz<sz:=Bf _ z;have at':∀(l:List α) (y:α),l[m / sz]?=some y->(l.flatMap enc)[m]?=(enc y)[m % sz]?:=by
   intro l y Z;have O:m % sz<(enc y).length:=by rw[henc];exact hr
   have:=Re henc l (m / sz) y Z (m % sz) _ (Aq O);rw[J]at this;rw[this,Aq O]
  by_cases hqi:m / sz=i
  ·have h1:(l.set i x)[m / sz]?=some x:=by rw[hqi,CH];simp [hi]
   rw[at' _ _ h1,hx,Ol _ _ _ _ (by rw[henc];exact hj)];have e1:l[m / sz]?=some (l.getD i x):=by rw[hqi,BO,Aq hi];rfl
   rw[at' _ _ e1];have e2:i*sz+m % sz=m:=by rw[<-hqi];exact J
   by_cases hc:j<=m % sz/\m % sz<j+vs.length
   ·rw[if_pos hc,if_pos Fe];congr 1;omega
   ·rw[if_neg hc,if_neg Fe]
  ·have h1:(l.set i x)[m / sz]?=l[m / sz]?:=by rw[CH,if_neg (λe=>hqi e.symm)]
   have Z:=Aq hq;rw[at' _ _ (h1.trans Z),at' _ _ Z,if_neg];rintro ⟨h2,h3⟩
   apply hqi
   have:i*sz<=m:=by omega
   have h4:m<(i+1)*sz:=by rw[Be];omega
   exact Nat.le_antisymm (Nat.lt_succ_iff.1 (DG (by rw[B6];exact h4))) ((Nat.le_div_iff_mul_le z).2 this)
 ·have hl2:((l.set i x).flatMap enc).length=l.length*sz:=by rw[FG henc,AB]
  rw[Bi Fe,if_neg Fe,Bi Fe]
def Own.cells (h:Own enc sz T B w v l)(hl:l≠[]):∃cs cap,v=.slice (some ⟨(base v).1,0,none⟩) l.length cap/\Fp w (base v).1 cs T/\cs.take (l.length*sz)=l.flatMap enc/\l.length*sz<=cs.length:=by
 obtain⟨h1,h2⟩:=h.row;rcases h2 with⟨_,h0⟩|⟨g,cap,cur,rfl,hB,hc,hn,hm,hs,ht⟩
 ·exact absurd (A0 h0) hl
 ·refine⟨cur.toList,cap,rfl,?_,ht,?_⟩
  ·show w.heap[g]?=_;rw[hc]
  ·have e:cur.toList.length=cap*sz:=by simp [hs]
   rw[e];exact AW _ hn
variable {vs:List Value}
def Own.setEl (henc:∀x,(enc x).length=sz)(h:Own enc sz T B w v l){w1:World}{cs:List Value}{i j:Nat}{x:α}(hb:Fp w (base v).1 cs T)(hi:i<l.length)(hx:enc x=Gw (enc (l.getD i x)) j vs)(hj:j+vs.length<=sz)(hb1:Fp w1 (base v).1 (Gw cs (i*sz+j) vs) T):Own enc sz T B w1 v (l.set i x):=by
 obtain⟨h1,h2⟩:=h.row;have z:=X1r henc l i j x vs hi hx hj;refine⟨by rw[z,RB,AB];exact h1,?_⟩;rcases h2 with⟨_,h0⟩|⟨g,cap,cur,rfl,hB,hc,hn,hm,hs,ht⟩
 ·omega
 ·refine .inr ⟨g,cap,⟨Gw cs (i*sz+j) vs⟩,by rw[AB],hB,hb1,by rw[AB];exact hn,hm,?_,?_⟩
  ·have e:cs=cur.toList:=by
    have:w.heap[g]?=some (.cells ⟨cs⟩ T (0,0)):=hb;rw[hc]at this;cases this;rfl
   simp only [List.size_toArray];rw[RB,e];simp [hs]
  ·have e:cs=cur.toList:=by
    have:w.heap[g]?=some (.cells ⟨cs⟩ T (0,0)):=hb;rw[hc]at this;cases this;rfl
   have hlen:l.length*sz<=cs.length:=by
    have e2:cs.length=cap*sz:=by rw[e];simp [hs]
    rw[e2];exact AW _ hn
   have hfl:(l.flatMap enc).length=l.length*sz:=FG henc l;have hi':i*sz+sz<=l.length*sz:=by rw[<-Be];exact AW _ hi
   rw[z,AB]
   apply BF
   intro m;simp only [AX];rw[Ol _ _ _ _ Fe,Ol _ _ _ _ Fe,<-ht,<-e,AX]
   by_cases hm2:m<l.length*sz
   ·simp [hm2]
   ·rw[if_neg hm2,if_neg Fe,if_neg hm2]
variable {P:Program}{n:Nat}{E:FF}{ds:List (Option Tmp)}{R:World->World->Prop}{rs:List (Oper×Fl×Bool)}{K:FF->World->Prop}{pos:String}{af:Array Edge}{g:Option (Nat×Bool)}{anc:Bool}{ty:TypeId}
def Ie {a y:Operand}{T' i j:Nat}{u:Value}{x:α}(henc:∀x,(enc x).length=sz)(hg:FU ds E g=true)(hown:Own enc sz T B w v l)(ha:ev E a=Fh (base v).1 (i*sz+j))(hy:ev E y=u)(hv:u.cells=⟨vs⟩)(hs:My P T'=some vs.length)(hi:i<l.length)(hx:enc x=Gw (enc (l.getD i x)) j vs)(hj:j+vs.length<=sz)(h1:∀v∈vs,v.oneCell'=true)(hR:anc=true\/∀w',Mod (λk=>v.ownBlock=some k) w w'->R w w')(h:∀w1,Mod (λk=>v.ownBlock=some k) w w1->w1.heap.size=w.heap.size->Own enc sz T B w1 v (l.set i x)->Dw P n ds R rs K E w1):Dw P n ds R ((⟨none,.store T' a y,ty,pos,af,g⟩,.x,anc) :: rs) K E w:=by
 have Y:l≠[]:=by rintro rfl;simp at hi
 obtain⟨cs,cap,hv2,hb,ht,hlen⟩:=hown.cells Y;have O:v.ownBlock=some (base v).1:=hown.base_block Y;have hm:∀w',Mod (Fv (base v).1) w w'->Mod (λk=>v.ownBlock=some k) w w':=λw' m=>m.mono (λk hk _=>by have:k=(base v).1:=hk;rw[O,this]);have hi':i*sz+sz<=l.length*sz:=by rw[<-Be];exact AW _ hi
 refine Pk (v:=u) (vs:=vs) hg ha hy hv hs hb Fe h1 (hR.imp (λh=>h) λh w' m=>h w' (hm w' m)) (λw1 Z J z=>h w1 (hm w1 Z) J (hown.setEl henc hb hi hx hj z))
end
end Go.Vc
namespace Go.Proofs.YtiooodckiddpmaaGreatDoor
open Go.Vc Go.Sp
attribute [local irreducible] W XW Dw GC
def X1s (x y z:UInt8)(h:x &&& z≠0):(x ||| y) &&& z≠0:=by
 intro e
 apply h
 have:((x ||| y) &&& z)=(x &&& z) ||| (y &&& z):=by
  apply DP.1;simp;ext i;simp;cases x.toBitVec[i]<;>cases y.toBitVec[i]<;>cases z.toBitVec[i]<;>rfl
 rw[this]at e;have e2:=congrArg UInt8.toBitVec e
 apply DP.1
 simp at e2 ⊢;exact e2.1
def X1t (x z:UInt8)(hz:z≠0):(x ||| z) &&& z≠0:=by
 have:(x ||| z) &&& z=z:=by
  apply DP.1;simp;ext i;simp;intro h;exact .inr h
 rw[this];exact hz
def X6v (m:Nat)(h:m<8):AC (2 ^ m)≠0:=by
 match m,h with
 | 0,_|1,_|2,_|3,_|4,_|5,_|6,_|7,_=>decide
def Jl (n:Nat):UInt8:=AC (2 ^ (n % 8))
def KT (b:Fj)(n:Nat):Fj:=b.set (n / 8) (b.getD (n / 8) 0 ||| Jl n)
def Kt (b:Fj)(n:Nat):Bool:=decide (b.getD (n / 8) 0 &&& Jl n≠0)
def Ob (b:Fj)(s:Fj):Fj:=(JR s (8*b.length)).foldl KT b
def I9 (k:Nat):Nat:=max 8 ((10*k+7) / 8)
def Jg (keys:List Fj):Fj:=keys.foldl Ob (Ap (I9 keys.length) 0)
def K9 (b:Fj)(s:Fj):Bool:=decide (b=[]) || (JR s (8*b.length)).all (Kt b)
def Yf (b:Fj)(n:Nat):(KT b n).length=b.length:=by unfold KT;rw[AB]
def VL (l:List Nat)(b:Fj):(l.foldl KT b).length=b.length:=by
 induction l generalizing b with
 | nil=>rfl
 | cons n r ih=>rw[BE,ih,Yf]
def SR (b:Fj)(s:Fj):(Ob b s).length=b.length:=VL _ _
def Un (l:List Fj)(b:Fj):(l.foldl Ob b).length=b.length:=by
 induction l generalizing b with
 | nil=>rfl
 | cons n r ih=>rw[BE,ih,SR]
def MI (keys:List Fj):(Jg keys).length=I9 keys.length:=by unfold Jg;rw[Un,CX]
variable {b:Fj}{n:Nat}
def X1u {m:Nat}(h:Kt b n=true):Kt (KT b m) n=true:=by
 unfold Kt KT at *;rw[decide_eq_true_eq]at *
 by_cases e:m / 8=n / 8
 ·rw[e]
  by_cases hl:n / 8<b.length
  ·rw[BO,BI hl];exact X1s _ _ _ h
  ·rw[List.set_eq_of_length_le Fe];exact h
 ·rw[BO,List.getElem?_set_ne e,<-BO];exact h
def X1v (h:n / 8<b.length):Kt (KT b n) n=true:=by
 unfold Kt KT;rw[decide_eq_true_eq,BO,BI h];exact X1t _ _ (X6v _ (Bf _ Fo))
def WM {l:List Nat}(h:Kt b n=true):Kt (l.foldl KT b) n=true:=by
 induction l generalizing b with
 | nil=>exact h
 | cons m r ih=>exact ih (X1u h)
def Xwo {l:List Nat}(hn:n∈l)(h:n / 8<b.length):Kt (l.foldl KT b) n=true:=by
 induction l generalizing b with
 | nil=>cases hn
 | cons m r ih=>
  rcases Ah.1 hn with rfl|hn
  ·rw[BE];exact WM (X1v h)
  ·rw[BE];exact ih hn (by rw[Yf];exact h)
def Xwp {l:List Fj}(h:Kt b n=true):Kt (l.foldl Ob b) n=true:=by
 induction l generalizing b with
 | nil=>exact h
 | cons m r ih=>exact ih (WM h)
def Uf {s:Fj}{m:Nat}(hm:0<m)(h:n∈JR s m):n<m:=by
 unfold JR at h;obtain⟨i,_,rfl⟩:=Ao.1 h;exact Bf _ hm
def X1w {keys:List Fj}{s:Fj}(h:s∈keys):K9 (Jg keys) s=true:=by
 have z:0<I9 keys.length:=by unfold I9;omega
 have key:∀(l:List Fj) (b:Fj),s∈l->0<b.length->∀n∈JR s (8*b.length),Kt (l.foldl Ob b) n=true:=by
  intro l
  induction l with
  | nil=>intro b h;cases h
  | cons k r ih=>
   intro b h hb n hn;rw[BE];rcases Ah.1 h with rfl|h
   ·exact Xwp (Xwo hn (by have:=Uf Fe hn;omega))
   ·exact ih _ h (by rw[SR];exact hb) n (by rw[SR];exact hn)
 unfold K9;rw[BL,AQ];refine .inr λn hn=>?_;rw[MI]at hn;exact key keys _ h (by rw[CX];exact z) n (by rw[CX];exact hn)
section
variable {P:Program}{E:FF}{dd:Option Tmp}{ty:TypeId}{pos:String}{af:Array Edge}{g:Option (Nat×Bool)}{x y:Operand}{T U:TypeId}
variable {a:Nat}{ky:IntKind}
def SJ (hx:ev E x=I ↑a)(hy:ev E y=.int ky 3):PV P ⟨dd,.binOp .shr T x y U,ty,pos,af,g⟩ E (I ↑(a / 8)):=by
 have:=NV (P:=P) (dd:=dd) (ty:=ty) (pos:=pos) (af:=af) (g:=g) (T:=T) (U:=U) hx hy Fo;rwa [show((a:Int)).fdiv (2 ^ min (3:Int).toNat IntKind.i64.bits)=((a / 8:Nat):Int) by
  rw[show(2:Int) ^ min (3:Int).toNat IntKind.i64.bits=8 by decide,CV _ Fe];omega]at this
def V8 (ha:a<=1000000000000000000)(hx:ev E x=I ↑a)(hy:ev E y=.int ky 3):PV P ⟨dd,.binOp .shl T x y U,ty,pos,af,g⟩ E (I ↑(8*a)):=by
 have:=OY (P:=P) (dd:=dd) (ty:=ty) (pos:=pos) (af:=af) (g:=g) (T:=T) (U:=U) hx hy Fo;rwa [show(a:Int)*2 ^ min (3:Int).toNat IntKind.i64.bits=((8*a:Nat):Int) by rw[show(2:Int) ^ min (3:Int).toNat IntKind.i64.bits=8 by decide];omega,Lj FH]at this
def W8 (ha:a<9223372036854775808)(hx:ev E x=I ↑a)(hy:ev E y=I 7):PV P ⟨dd,.binOp .and T x y U,ty,pos,af,g⟩ E (I ↑(a % 8)):=by
 have:=Mj (P:=P) (dd:=dd) (ty:=ty) (pos:=pos) (af:=af) (g:=g) (T:=T) (U:=U) (op:=.and) (.inl rfl) hx hy;have e:Lo .and .i64 (a:Int) 7=((a % 8:Nat):Int):=by
  show IntKind.i64.wrap (((AL 64 (a:Int) &&& AL 64 ((7:Nat):Int)).toNat:Nat):Int)=_;rw[CF,CF,Ey,CG,CG,Bv Fe,Bv Fe,show a &&& 7=a % 8 from DN a 3,Lj FH]
 rwa [e]at this
def RF {n:Nat}(hx:ev E x=.int .u8 1)(hy:ev E y=.int ky ((n % 8:Nat):Int)):PV P ⟨dd,.binOp .shl T x y U,ty,pos,af,g⟩ E (b8 (Jl n)):=by
 have:=OY (P:=P) (dd:=dd) (ty:=ty) (pos:=pos) (af:=af) (g:=g) (T:=T) (U:=U) hx hy Fe;have z:n % 8<8:=Bf _ Fo;have e:IntKind.u8.wrap ((1:Int)*2 ^ min (((n % 8:Nat):Int)).toNat IntKind.u8.bits)=((Jl n).toNat:Int):=by
  rw[OF];unfold Jl
  generalize n % 8=m at z
  match m,z with
  | 0,_|1,_|2,_|3,_|4,_|5,_|6,_|7,_=>decide
 rwa [e]at this
def U7 {ts:Array TypeId}(hx:ev E x=I 8)(hy:ev E y=I ↑a):PV P ⟨dd,.call { callee:=.builtin .max,args:=#[x,y],argTypes:=ts },ty,pos,af,g⟩ E (I ↑(max 8 a)):=by
 have:=R8 (P:=P) (dd:=dd) (ty:=ty) (pos:=pos) (af:=af) (g:=g) (ts:=ts) hx hy;rwa [show max (8:Int) (a:Int)=((max 8 a:Nat):Int) by omega]at this
end
def YP (m:Nat):(Ap m [Value.int .u8 0]).flatten=(Ap m (0:UInt8)).flatMap Fs:=by
 induction m with
 | zero=>rfl
 | succ k ih=>rw[CS,CS,Cn,AA,ih];rfl
def V5 {q:List Nat}{i x:Nat}(h:q[i]?=some x):(G6 q)[i]?=some (I ↑x):=by rw[AH,h];rfl
def SO {i:Nat}{c:UInt8}(h:b[i]?=some c):b.getD i 0=c:=by rw[BO,h];rfl
def X99 (b:Fj)(v:Value)(s:Fj)(w:World)(hv:Fu Fs 1 w v b)(hb:b.length<=1000000000)(hs:s.length<=1000000000) :
  FX 185 [v,S s] w (B (K9 b s)):=by
 refine cE Tryz.func185 λz=>FM 5 1 (hv.ext z).sl ?_;refine Fk (λc1=>?_) λc1=>?_
 ·refine go ?_;have e:b=[]:=A0 Fe;exact⟨by rw[e];rfl,z⟩
 have J:0<b.length:=by omega
 refine FM 5 1 (hv.ext z).sl ?_;refine dp (V8 Fe rfl rfl) (cP (XF s (8*b.length) _ hs Fe Fe) RX.all λw1 x1=>?_);have z:=z.trans x1;refine F8 (G:=Nat) (λk=>[(0,v),(14,.agg ⟨G6 (JR s (8*b.length))⟩),(15,I ↑k)]) (λk w'=>Fq w w'/\k<=6/\((JR s (8*b.length)).take k).all (Kt b)=true) (λk=>6-k) 0 ⟨z,Ab _,rfl⟩ ?_;rintro _ k w2 ⟨z,hk1,hA⟩;refine Fk (λZ=>?_) λZ=>?_
 ·obtain⟨x,hk⟩:∃x,(JR s (8*b.length))[k]?=some x:=⟨_,Aq (by rw[PA];omega)⟩;have hx8:=Uf Fe (Ag hk);obtain⟨c,hc⟩:∃c,b[x / 8]?=some c:=F7;refine go ?_;refine dp (TY (m:=6) (e:=3) Ff Ff rfl rfl Fe (V5 hk)) (Gt 10000010000 λw3 x3=>?_);have z:=z.trans x3;refine go ?_;refine dp (SJ rfl rfl) (di 5 1 hv.sl rfl (hv.lt hc) (dL rfl (λ_ hR=>(((hv.ext (z.trans hR)).row hc).at0 rfl)) (go ?_)));refine dp (W8 Fe rfl rfl) (dp (RF rfl rfl) (dp (RU rfl rfl) (dp (QG (b:=0) rfl rfl) ?_)));refine Fk (λY=>?_) λY=>?_
  ·refine go ?_;refine⟨?_,z⟩;have O:¬ b=[]:=λe=>by rw[e]at J;simp at J
   have:K9 b s=false:=by
    unfold K9;rw[decide_eq_false O,Cv,<-Ch,AQ];intro h;have:=h x (Ag hk);unfold Kt at this;rw[SO hc,decide_eq_true_eq]at this;exact this (by simpa using Y)
   rw[this]
  refine go ?_;refine FL (k+1) ⟨z,by omega,?_⟩;rw[GW hk,List.all_append,hA,List.all_cons,List.all_nil,Bool.true_and,Bool.and_true];unfold Kt;rw[SO hc];simpa using Y
 refine go ?_;refine⟨?_,z⟩;rw[Av (by rw[PA];omega)]at hA;unfold K9;rw[hA,Bool.or_true]
def X0 (l:List Fj)(v:Value)(w:World)(hv:Fu GF 1 w v l)(hl:l.length<=1000000)(hs:∀s∈l,s.length<=1000000000) :
  Gi 197 [v] w λu w'=>Vc.Own Fs 1 5 w.heap.size w' u (Jg l):=by
 refine cE Tryz.func197 λz=>?_;have hbn:I9 l.length<=10000008:=by unfold I9;omega
 refine FM 9 1 (hv.ext z).sl ?_;refine dp (Ks rfl rfl FH) (go ?_);refine F3 (v:=I ↑((10*l.length+7) / 8)) rfl (SJ (a:=10*l.length+7) rfl rfl) rfl (dp (U7 rfl rfl) (Mu (e:=5) (sz:=1) (by':=1) (zs:=[.int .u8 0]) rfl Ff Ff Ff rfl rfl Fe Fe RX.all (λb1 w1 e1 x1 m1=>?_)));have g1:=z.ge e1;have z:=z.trans x1;refine FM 9 1 (hv.ext z).sl ?_;refine F8 (G:=Nat×Fj) (λ(k,b)=>[(2,.slice none 0 0),(3,.slice (some ⟨b1,0,none⟩) (I9 l.length) (I9 l.length)),(15,v),(16,I ↑l.length),(17,I ↑k)]) (λ(k,b) w'=>Fq w w'/\k<=l.length/\Vc.Own Fs 1 5 w.heap.size w' (.slice (some ⟨b1,0,none⟩) (I9 l.length) (I9 l.length)) b/\b=(l.take k).foldl Ob (Ap (I9 l.length) 0)) (λ(k,b)=>l.length-k) (0,Ap (I9 l.length) 0) ⟨z,Ab _,m1.own (enc:=Fs) (sz:=1) (l:=Ap (I9 l.length) 0) g1 (YP _) Fg F0 Gx,rfl⟩ ?_;rintro _ ⟨k,b⟩ w2 ⟨z,hk1,ho,hb⟩;refine Fk (λZ=>?_) λZ=>?_
 ·obtain⟨s,hk⟩:∃s,l[k]?=some s:=F7;have J:b.length=I9 l.length:=by rw[hb,Un,CX]
  refine go ?_;refine di 9 1 (hv.ext z).sl rfl ((hv.ext z).lt hk) (dl rfl (((hv.ext z).row hk).at0 rfl) (go ?_));refine dv 5 1 (ho.arr Fg).sl (dp (V8 Fe rfl rfl) (cP (XF s (8*b.length) _ (hs s (Ag hk)) (by unfold I9 at J;omega) Fe) RX.all λw3 Y=>Fy Y ho z λho z=>F8 (G:=Nat×Fj) (λ(j,c0)=>[(2,.slice none 0 0),(3,.slice (some ⟨b1,0,none⟩) (I9 l.length) (I9 l.length)),(15,v),(16,I ↑l.length),(17,I ↑k),(25,.agg ⟨G6 (JR s (8*b.length))⟩),(26,I ↑j)]) (λ(j,c0) w'=>Fq w w'/\j<=6/\Vc.Own Fs 1 5 w.heap.size w' (.slice (some ⟨b1,0,none⟩) (I9 l.length) (I9 l.length)) c0/\c0=((JR s (8*b.length)).take j).foldl KT b) (λ(j,c0)=>6-j) (0,b) ⟨z,Ab _,ho,rfl⟩ ?_));rintro _ ⟨j,c0⟩ w4 ⟨z,hj1,ho,hcb⟩;refine Fk (λc2=>?_) λc2=>?_
  ·obtain⟨x,hj⟩:∃x,(JR s (8*b.length))[j]?=some x:=⟨_,Aq (by rw[PA];omega)⟩;have hclen:c0.length=b.length:=by rw[hcb,VL]
   have hx8:=Uf (by unfold I9 at J;omega) (Ag hj);obtain⟨c,hc⟩:∃c,c0[x / 8]?=some c:=F7;refine go ?_;refine dp (TY (m:=6) (e:=3) Ff Ff rfl rfl Fe (V5 hj)) (Gt 150000010000 λw5 x5=>Fy x5 ho z λho z=>?_);refine go ?_;refine dp (SJ rfl rfl) (di 5 1 (ho.arr Fg).sl rfl ((ho.arr Fg).lt hc) (dL rfl (λ_ hR=>((((ho.arr Fg).ext hR).row hc).at0 rfl)) (go ?_)));refine dp (W8 Fe rfl rfl) (dp (RF rfl rfl) (dp (PZ rfl rfl) (F3 (v:=Fh b1 (x / 8*1+0)) rfl (Ir (e:=5) (k:=1) Ff ho.sl rfl rfl Fe) (by show Fh b1 (0+x / 8*1)=_;rw[A5];rfl) (Ie (enc:=Fs) (sz:=1) (i:=x / 8) (j:=0) (x:=c ||| Jl x) (vs:=[b8 (c ||| Jl x)]) Fg rfl ho rfl rfl rfl Ff Fe rfl (Aa 1) (by intro v hv;rw[Af.1 hv];rfl) (.inl rfl) (λw6 x6 xs6 O=>?_)))));have z:=z.own x6 F5;have ho:=O;refine go ?_;refine FL (j+1,c0.set (x / 8) (c ||| Jl x)) ⟨z,by omega,ho,?_⟩;rw[GW hj,BA,<-hcb];show _=KT c0 x;unfold KT;rw[SO hc]
  refine go ?_;refine FL (k+1,c0) ⟨z,by omega,ho,?_⟩;rw[GW hk,BA,<-hb,hcb,Av (by rw[PA];omega)];rfl
 refine go ?_;rw[Av Fe]at hb;exact⟨_,rfl,z,by rw[hb]at ho;exact ho⟩
end Go.Proofs.YtiooodckiddpmaaGreatDoor
