/-
 A part of the proof: PiP TrQ SnA DlA CmP BtC VcZ VcY VcX EntA LyA LyB EmA.
-/
import Derived.Test.YtiooodckiddpmaaGreatDoorFkA
import Derived.Test.YtiooodckiddpmaaGreatDoorChecked
import Derived.KernelRfl
import Derived.Test.YtiooodckiddpmaaGreatDoorFkH
import Derived.Test.YtiooodckiddpmaaGreatDoorFkD
import Derived.Test.YtiooodckiddpmaaGreatDoorFkG
import Derived.Test.YtiooodckiddpmaaGreatDoorFkE
import Derived.Test.YtiooodckiddpmaaGreatDoorFkF
import Derived.ProofKit
import Derived.Deep.Slices
import Derived.Lib.SmallJoins
import Derived.HandedShaped
import Derived.SizedLaws
import Derived.Shelf.Vars
import Derived.Test.YtiooodckiddpmaaGreatDoorFkB
open Nat renaming le_refl->Aa,zero_le->Ad,le_trans->Ae,le_of_ble_eq_true->Ap,not_lt_zero->B3,add_assoc->BW,eq_zero_or_pos->Cl,sub_zero->Cx,lt_of_le_of_lt->DP
open List renaming length_append->Ab,take->Af,set->Ag,mem_singleton->Ah,drop->Ai,mem_cons->Aj,mem_of_getElem?->Ak,mem_cons_self->Al,mem_cons_of_mem->Am,length_map->An,getElem?_eq_some_iff->Ao,map_cons->Aq,mem_map->Ar,getElem?_eq_getElem->Av,replicate->Aw,take_of_length_le->Ax,mem_append->Ay,mem_filter->Az,length_take->A4,length->A7,length_cons->AB,map_append->AC,flatMap_cons->AD,nil_append->AE,getElem?_map->AH,getElem?_of_mem->AJ,take_length->AK,pairwise_cons->AO,append_nil->AP,take_append_drop->AT,all_eq_true->AU,getElem?_take->AV,sum_cons->AW,nodup_cons->AZ,flatMap_append->Bb,length_nil->Bc,getElem?_drop->Bf,filter_eq_self->Bm,pairwise_append->Bs,mem_append_right->Bt,filter_append->Bu,getElem?_append_left->Bw,length_filter_le->B0,filter_cons->B5,any_eq_true->B6,foldl_cons->B7,mem_append_left->BC,mem_map_of_mem->BD,drop_of_length_le->BH,nodup_nil->BS,cons->BV,mem_iff_getElem?->BZ,filter_sublist->Cb,drop_eq_nil_of_le->Cg,sum_append->Ch,take_left'->Ci,drop_left'->Cj,flatten_cons->C1,getElem?_cons_succ->CJ,find?_some->CM,getElem?_cons_zero->Db,dropWhile_cons->Di,takeWhile_cons->Dj,filter_eq_nil_iff->Dk,any_eq_false->Dp,flatMap_def->DN,getElem?_range->DO,filterMap_cons->Ex,foldr_cons->Ey
open Bool renaming and_eq_true->Au
open Option renaming some->A3,map_eq_some_iff->Bd
open List.Pairwise renaming nil->Bp,filter->C9,sublist->E8
open List.Sublist renaming map->C4,slnil->DQ
open List.Perm renaming append_left->DG,flatMap_right->Ez
set_option maxRecDepth 100000
set_option maxHeartbeats 4000000
set_option linter.unusedVariables false
set_option linter.unusedSimpArgs false
namespace Go.Proofs.YtiooodckiddpmaaGreatDoor
open Go.Vc Go.Sp
attribute [local irreducible] W XW Dw Gm
theorem S2 (a b:EC):EU a (I0 a b)=false/\EU b (I0 a b)=false:=by
 unfold I0;split
 ·rename_i h;exact⟨Jp h,HZ _⟩
 ·rename_i h;exact⟨HZ _,by simpa using h⟩
theorem S8 (a b:EC):EU (It a b) a=false/\EU (It a b) b=false:=by
 unfold It;split
 ·rename_i h;exact⟨Jp h,HZ _⟩
 ·rename_i h;exact⟨HZ _,by simpa using h⟩
theorem V6 : ∀(l:List Fi) (a:EC),EU a (Hr l a)=false/\∀f∈l,EU f.fst (Hr l a)=false
 | [],a=>⟨HZ _,λf z=>by cases z⟩
 | x :: r,a=>by
  obtain⟨h1,h2⟩:=V6 r (I0 a x.fst);have e:Hr (x :: r) a=Hr r (I0 a x.fst):=rfl;rw[e];refine⟨N7 h1 (S2 a x.fst).1,λf z=>?_⟩;rcases Aj.1 z with rfl|z
  ·exact N7 h1 (S2 a f.fst).2
  ·exact h2 f z
theorem TQ : ∀(l:List Fi) (a:EC),EU (Ht l a) a=false/\∀f∈l,EU (Ht l a) f.lst=false
 | [],a=>⟨HZ _,λf z=>by cases z⟩
 | x :: r,a=>by
  obtain⟨h1,h2⟩:=TQ r (It a x.lst);have e:Ht (x :: r) a=Ht r (It a x.lst):=rfl;rw[e];refine⟨N7 (S8 a x.lst).1 h1,λf z=>?_⟩;rcases Aj.1 z with rfl|z
  ·exact N7 (S8 a f.lst).2 h1
  ·exact h2 f z
theorem U0 {p q:Fi->Bool}(h:∀f,¬ (p f=true/\q f=true)):∀l:List Fi,(l.filter p).length+(l.filter q).length<=l.length
 | []=>Aa _
 | a :: r=>by
  have ih:=U0 h r;have ha:=h a;rw[B5,B5]
  cases hp:p a<;>cases hq:q a<;>simp_all<;>omega
theorem Wa {V:Vs}(hV:GI V=true){lev:Int}{l:List Fi}(hl:l≠[])(hs:∀f∈l,f∈V.fs/\f.lev=lev)(h0:0<=lev/\lev<=3)(hnd:(l.map (·.id)).Nodup)(hlen:l.length<=(FC V.fs lev).length)(hsrc:lev=0->∀f∈V.fs,f.lev=0->f∈l):PickP V (Ka V.fs l lev) (lev+1):=by
 have J:∀f,f∈HJ V.fs (lev+1) (Hr l (I4 l 0).fst) (Ht l (I4 l 0).lst)->f∈V.fs/\f.lev=lev+1:=λf z=>by
  obtain⟨h1,h2⟩:=Az.1 z;unfold Jj at h2;simp only [Au,decide_eq_true_eq]at h2;exact⟨h1,h2.1.1⟩
 have O:=(Ig hV).2.2.2.2.1;refine⟨?_,λf z=>?_,⟨by omega,by omega⟩,λe f z hc=>BC _ (hsrc EA f z hc),λf z hfl g Y Z h1 h2=>?_,?_,?_⟩
 ·cases l with
  | nil=>exact absurd rfl hl
  | cons a r=>exact⟨a,rfl,by rw[(hs a Al).2]⟩
 ·rcases Ay.1 z with z|z
  ·exact⟨(hs f z).1,.inl (by have:=(hs f z).2;omega)⟩
  ·exact⟨(J f z).1,.inr (J f z).2⟩
 ·rcases Ay.1 z with z|z
  ·refine Bt _ (Az.2 ⟨Y,?_⟩);unfold Jj;have a1:EU g.lst (Hr l (I4 l 0).fst)=false:=by
    cases e:EU g.lst (Hr l (I4 l 0).fst)with
    | false=>rfl
    | true=>rw[Xo e ((V6 l _).2 f z)]at h1;cases h1
   have a2:EU (Ht l (I4 l 0).lst) g.fst=false:=by
    cases e:EU (Ht l (I4 l 0).lst) g.fst with
    | false=>rfl
    | true=>rw[Oe ((TQ l _).2 f z) e]at h2;cases h2
   rw[decide_eq_true Z,a1,a2];rfl
  ·have:=(J f z).2;omega
 ·have h1:(HJ V.fs (lev+1) (Hr l (I4 l 0).fst) (Ht l (I4 l 0).lst)).length<=(FC V.fs (lev+1)).length:=by
   have e:HJ V.fs (lev+1) (Hr l (I4 l 0).fst) (Ht l (I4 l 0).lst)=(FC V.fs (lev+1)).filter (Jj (lev+1) (Hr l (I4 l 0).fst) (Ht l (I4 l 0).lst)):=by
    unfold HJ FC;rw[List.filter_filter]
    congr 1
    funext f
    unfold Jj
    by_cases e9:f.lev=lev+1<;>simp [e9]
   rw[e];exact B0 _ _
  have h2:(FC V.fs lev).length+(FC V.fs (lev+1)).length<=V.fs.length:=U0 (λf h=>by simp only [decide_eq_true_eq]at h;omega) V.fs;unfold Ka;rw[Ab];omega
 ·unfold Ka;rw[AC];refine List.nodup_append.2 ⟨hnd,List.Nodup.sublist (C4 _ Cb) O,λa ha b hb e=>?_⟩;obtain⟨f,z,rfl⟩:=Ar.1 ha;obtain⟨g,Y,rfl⟩:=Ar.1 hb;have e2:f=g:=Lt O (hs f z).1 (J g Y).1 e;have e3:=(hs f z).2;have e4:=(J g Y).2;rw[e2]at e3;omega
theorem Xu : ∀(l:List Fi) (o:Fi),Iz l o=o\/Iz l o∈l
 | [],o=>.inl rfl
 | x :: r,o=>by
  have e:Iz (x :: r) o=Iz r (if x.id<o.id then x else o):=rfl;rw[e];rcases Xu r (if x.id<o.id then x else o)with h|h
  ·rw[h];split
   ·exact .inr Al
   ·exact .inl rfl
  ·exact .inr (Am _ h)
theorem Xtr {l:List Fi}(h:l≠[]):GG l∈l:=by
 unfold GG;rcases Xu l (I4 l 0)with e|e
 ·rw[e]
  cases l with
  | nil=>exact absurd rfl h
  | cons a r=>exact Al
 ·exact e
theorem RL {fs:List Fi}{i:Int}{f:Fi} : f∈FC fs i↔f∈fs/\f.lev=i:=by unfold FC;rw[Az,decide_eq_true_eq]
theorem Yas {V:Vs}{p:List Fi}(hV:GI V=true)(h:IA V.fs=some p):∃lv:Nat,PickP V p ↑lv:=by
 have r:=(Ig hV).2.2.2.2.1;have one:∀lv:Nat,1<=lv->lv<=3->0<(FC V.fs ↑lv).length->PickP V (Ka V.fs [GG (FC V.fs ↑lv)] ↑lv) (↑lv+1):=λlv h1 h3 J=>by
  have hm:=Xtr (List.ne_nil_of_length_pos J);exact Wa hV EQ (λf z=>by rw[Ah.1 z];exact RL.1 hm) ⟨by omega,by omega⟩ EQ J (λe=>by omega)
 unfold IA at h;split at h
 ·rename_i h4;obtain rfl:=A3.inj h;exact⟨1,Wa hV (λe=>by rw[e]at h4;simp at h4) (λf z=>RL.1 z) ⟨by decide,by decide⟩ (List.Nodup.sublist (C4 _ Cb) r) (Aa _) (λ_ f z e=>RL.2 ⟨z,e⟩)⟩
 split at h
 ·rename_i h4;obtain rfl:=A3.inj h;exact⟨2,one 1 EK EK (DP (Ad _) h4)⟩
 split at h
 ·rename_i h4;obtain rfl:=A3.inj h;exact⟨3,one 2 EK EK (DP (Ad _) h4)⟩
 split at h
 ·rename_i h4;obtain rfl:=A3.inj h;exact⟨4,one 3 EK EK (DP (Ad _) h4)⟩
 ·cases h
theorem X09 (fs:List Fi):(IA fs).isSome=true↔4<=(FC fs 0).length\/4<(FC fs 1).length\/16<(FC fs 2).length\/64<(FC fs 3).length:=by
 unfold IA
 repeat' split
 all_goals simp<;>omega
theorem Xye {fs gs add:List Fi}(hp:gs.Perm (fs++add))(h:(IA fs).isSome=true):(IA gs).isSome=true:=by
 have r:∀i,(FC fs i).length<=(FC gs i).length:=λi=>by
  have h1:(FC gs i).Perm (FC (fs++add) i):=hp.filter _;rw[h1.length_eq];unfold FC;rw[Bu,Ab];omega
 rw[X09]at h ⊢;have:=r 0;have:=r 1;have:=r 2;have:=r 3;omega
def Fo (g:Cell->Nat)(l:List Cell):Nat:=(l.map g).sum
theorem Kb (g:Cell->Nat)(l m:List Cell):Fo g (l++m)=Fo g l+Fo g m:=by unfold Fo;rw[AC,Ch]
theorem Xyf {g:Cell->Nat}{l m:List Cell}(h:l.Perm m):Fo g l=Fo g m:=(h.map g).sum_nat
theorem Sc {g:Cell->Nat}{l m:List Cell}(h:l.Sublist m):Fo g l<=Fo g m:=by
 induction h with
 | slnil=>exact Aa _
 | cons a h ih=>unfold Fo at *;simp only [Aq,AW];omega
 | cons_cons a h ih=>unfold Fo at *;simp only [Aq,AW];omega
theorem Q8 : ∀(r:List Cell) (p:Cell),(IQ JG p r).Sublist r
 | [],_=>DQ
 | x :: r,p=>by
  unfold IQ;split
  ·exact(Q8 r x).cons x
  ·exact(Q8 r x).cons_cons x
theorem Qz {g:Cell->Nat}{l m:List Cell}(h:Mg l m):Fo g m<=Fo g l:=by
 obtain⟨l',z,_,rfl⟩:=h;rw[<-Xyf z];refine Sc ?_
 cases l' with
 | nil=>exact DQ
 | cons a r=>exact(Q8 r a).cons_cons a
theorem R3 {g:Cell->Nat}(ts:List Tb):Fo g (ts.flatMap (·.cs))=(ts.map λt=>Fo g t.cs).sum:=by
 induction ts with
 | nil=>rfl
 | cons t r ih=>rw[AD,Kb,ih];rfl
theorem Tc {α:Type}(g:α->Nat):∀l1 l2:List α,l1.Nodup->(∀x∈l1,x∈l2)->(l1.map g).sum<=(l2.map g).sum
 | [],l2,_,_=>Ad _
 | a :: r,l2,hn,hs=>by
  obtain⟨X,Y,rfl⟩:=List.append_of_mem (hs a Al);rw[AZ]at hn;have ih:=Tc g r (X++Y) hn.2 (λx z=>by
   rcases Ay.1 (hs x (Am _ z))with h|h
   ·exact BC _ h
   ·rcases Aj.1 h with rfl|h
    ·exact absurd z hn.1
    ·exact Bt _ h)
  simp only [Aq,AC,AW,Ch]at *;omega
theorem S7 {α:Type}(g:α->Nat)(p:α->Bool):∀l:List α,((l.filter p).map g).sum+((l.filter λx=>!p x).map g).sum=(l.map g).sum
 | []=>rfl
 | a :: r=>by
  have ih:=S7 g p r;simp only [B5,Aq,AW]
  cases p a<;>simp<;>omega
def NY (ts:List Tb)(p:List Fi):List Tb:=p.filterMap λf=>Hl ts (f.lev,f.id)
theorem U3 (ts:List Tb):∀p:List Fi,I5 ts p=(NY ts p).flatMap (·.cs)
 | []=>rfl
 | f :: r=>by
  have z:=U3 ts r;unfold I5 NY at *;rw[AD,Ex,z]
  cases Hl ts (f.lev,f.id)<;>rfl
theorem TK (ts:List Tb):∀p:List Fi,((NY ts p).map λt=>t.h.2).Sublist (p.map (·.id))
 | []=>DQ
 | f :: r=>by
  have z:=TK ts r;unfold NY at *;rw[Ex,Aq]
  cases e:Hl ts (f.lev,f.id)with
  | none=>exact z.cons _
  | some t=>
   have h2:t.h=(f.lev,f.id):=by unfold Hl at e;simpa using CM e
   simp only [Aq];rw[h2];exact z.cons_cons _
theorem SA {α β:Type}{f:α->β} : ∀ {l:List α},(l.map f).Nodup->l.Nodup
 | [],_=>BS
 | a :: r,h=>by
  rw[Aq,AZ]at h;exact AZ.2 ⟨λz=>h.1 (BD z),SA h.2⟩
section
variable {n lv:Int}{V V':Vs}{ts ts':List Tb}{mem m:List Cell}{p:List Fi}{M:List Rw}{g:Cell->Nat}
theorem Xqf (hn:(p.map (·.id)).Nodup):Fo g (I5 ts p)<=((ts.filter λt=>!kp p t).map λt=>Fo g t.cs).sum:=by
 rw[U3,R3];refine Tc _ _ _ (SA (List.Nodup.sublist (TK ts p) hn)) λt r=>?_;unfold NY at r;obtain⟨f,z,e⟩:=List.mem_filterMap.1 r;have h2:t.h=(f.lev,f.id):=by unfold Hl at e;simpa using CM e
 refine Az.2 ⟨OU e,?_⟩
 cases hk:kp p t with
 | false=>rfl
 | true=>exact absurd h2 (L4.1 hk f z)
theorem Xts (hm:Mg mem m)(h:∃tbs:List Tb,ts'=ts++tbs/\tbs.flatMap (·.cs)=m):Fo g (Fx [] ts')<=Fo g (Fx mem ts):=by
 obtain⟨tbs,rfl,h⟩:=h;have:=Qz (g:=g) hm;unfold Fx;rw[Bb,AE,Kb,Kb,h];omega
theorem Xtt (hm:Mg (I5 ts p) m)(hn:(p.map (·.id)).Nodup)(h:∃tbs:List Tb,ts'=ts.filter (kp p)++tbs/\tbs.flatMap (·.cs)=m.filter (HF V.fs lv)):Fo g (Fx [] ts')<=Fo g (Fx [] ts):=by
 obtain⟨tbs,rfl,h⟩:=h;have h1:=Qz (g:=g) hm;have h2:Fo g (m.filter (HF V.fs lv))<=Fo g m:=Sc Cb;have h3:=Xqf (g:=g) (ts:=ts) hn;have h4:=S7 (λt:Tb=>Fo g t.cs) (kp p) ts;unfold Fx;rw[Bb,AE,AE,Kb,h,R3,R3];omega
end
theorem X7i {m:List Cell}{c:Cell}(hc:Ge c=true)(hs:∀d∈m,d.key=c.key->d.seq<c.seq)(x:Cell):x∈(put m c).2↔x=c\/x∈m:=by
 have z:=M7 m c;have J:has m c=false:=by
  unfold has
  cases e:H2 m c with
  | nil=>rfl
  | cons d r=>
   have hd:d∈m:=by rw[<-z,e];simp
   cases h2:(decide (d.key=c.key) && decide (d.seq=c.seq))with
   | false=>exact h2
   | true=>
    simp only [Au,decide_eq_true_eq]at h2;have:=hs d hd h2.1;omega
 unfold put;rw[hc,J];show x∈pre m c++c :: H2 m c↔_;rw[Ay,Aj];have:x∈m↔x∈pre m c\/x∈H2 m c:=by rw[<-Ay,z]
 rw[this]
 constructor
 ·rintro (h|h|h)
  ·exact .inr (.inl h)
  ·exact .inl h
  ·exact .inr (.inr h)
 ·rintro (h|h|h)
  ·exact .inr (.inl h)
  ·exact .inl h
  ·exact .inr (.inr h)
theorem VP : ∀(cs m:List Cell),I3 cs->(∀c∈cs,Ge c=true)->(∀d∈m,∀c∈cs,d.key=c.key->d.seq<c.seq)->Fv m->Fv (Il m cs)/\∀x,x∈Il m cs↔x∈cs\/x∈m
 | [],m,_,_,_,hm=>⟨hm,λx=>by show x∈m↔_;simp⟩
 | c :: r,m,hk,hc,hs,hm=>by
  rw[I3,AO]at hk;have h1:=X7i (hc c Al) (λd hd=>hs d hd c Al);obtain⟨O,J⟩:=VP r (put m c).2 hk.2 (λx z=>hc x (Am _ z)) (λd hd x z he=>by
   rcases(h1 d).1 hd with rfl|hd
   ·have:=hk.1 x z;rw[he,HZ]at this;cases this
   ·exact hs d hd x (Am _ z) he) (Fv.put hm c)
  refine⟨O,λx=>?_⟩;show x∈Il (put m c).2 r↔_;rw[J,h1,Aj]
  constructor
  ·rintro (h|h|h)
   ·exact .inl (.inr h)
   ·exact .inl (.inl h)
   ·exact .inr h
  ·rintro ((h|h)|h)
   ·exact .inr (.inl h)
   ·exact .inl h
   ·exact .inr (.inr h)
def Jx (s:Int)(c:Cell):Cell:=⟨c.key,c.val,c.del,s⟩
theorem X1a (s:Int)(out:List Cell)(c:Cell):GJ (out.map (Jx s)) (Jx s c)=(GJ out c).map (Jx s):=by
 unfold GJ;rw[List.any_map,show((λx:Cell=>decide (x.key=(Jx s c).key)) ∘ Jx s)=λx=>decide (x.key=c.key) from rfl];split
 ·rfl
 ·rw[List.takeWhile_map,List.dropWhile_map,AC,Aq];rfl
theorem V5 (s:Int)(l:List Rw):F0 l s=(F0 l 1).map (Jx s):=by
 unfold F0
 induction l with
 | nil=>rfl
 | cons r l ih=>rw[Ey,Ey,ih,<-X1a];rfl
theorem WG (s:Int):∀(l:List Cell) (M:List Rw),(l.map (Jx s)).foldl Gg M=l.foldl Gg M
 | [],_=>rfl
 | c :: r,M=>by rw[Aq,B7,B7,WG s r];rfl
def ID (M:List Rw)(l:List Rw):List Rw:=(F0 l 1).foldl Gg M
theorem X7j {c:Rw}{s:Int}(h:Ge (c.cell 1)=true)(h1:1<=s)(h2:s<=1099511627776):Ge (c.cell s)=true:=by
 unfold Ge Rw.cell at *;simp only [Au,decide_eq_true_eq]at *;exact⟨⟨h.1.1,h1⟩,h2⟩
section
variable {n:Int}{V:Vs}{ts:List Tb}{mem:List Cell}{M:List Rw}{g:Cell->Nat}
theorem Sto.write (h:Sto n V ts mem)(hT:Sp.Told (Fx mem ts) M){l:List Rw}(hc:Ia l=0)(hn:0<=n/\n<1099511627776):Sto (n+1) V ts (Il mem (F0 l (n+1)))/\Sp.Told (Fx (Il mem (F0 l (n+1))) ts) (ID M l):=by
 obtain⟨_,_,_,h4⟩:=LI hc;have O:∀c∈F0 l (n+1),Ge c=true/\c.seq=n+1:=λc z=>by
  obtain⟨r,hr,rfl⟩:=R6 z;exact⟨X7j (h4 r hr) EA EA,rfl⟩
 have J:∀d∈Fx mem ts,∀c∈F0 l (n+1),d.key=c.key->d.seq<c.seq:=λd hd c z _=>by
  have:=(h.okc d hd).2;have:=(O c z).2;omega
 obtain⟨p1,Y⟩:=VP (F0 l (n+1)) mem (P0 l _) (λc z=>(O c z).1) (λd hd=>J d (GC.2 (.inl hd))) h.ms;refine⟨⟨h.isv,h.fwd,h.bwd,h.nod,h.up,λc z=>?_,p1,λc z t Z d hd hk=>?_,h.n2⟩,?_⟩
 ·rcases GC.1 z with z|z
  ·rcases(Y c).1 z with z|z
   ·have:=O c z;exact⟨this.1,by omega⟩
   ·have:=h.okc c (GC.2 (.inl z));exact⟨this.1,by omega⟩
  ·have:=h.okc c (GC.2 (.inr z));exact⟨this.1,by omega⟩
 ·rcases(Y c).1 z with z|z
  ·exact J d (GC.2 (.inr ⟨t,Z,hd⟩)) c z hk
  ·exact h.n1 c z t Z d hd hk
 ·have:=T6 (F0 l (n+1)) hT (P0 l _) J;rw[V5 (n+1) l,WG,<-V5 (n+1) l]at this;refine Q9 this λx=>?_;rw[Ay,GC,GC,Y]
  constructor
  ·rintro (h|h|h)
   ·exact .inl (.inl h)
   ·exact .inl (.inr h)
   ·exact .inr h
  ·rintro ((h|h)|h)
   ·exact .inl h
   ·exact .inr (.inl h)
   ·exact .inr (.inr h)
theorem X1b (m:List Cell)(c:Cell):Fo g (put m c).2<=Fo g m+g c:=by
 unfold put;split
 ·exact Nat.le_add_right _ _
 ·have:=congrArg (Fo g) (M7 m c);rw[Kb]at this;show Fo g (pre m c++c :: H2 m c)<=_;rw[Kb,show Fo g (c :: H2 m c)=g c+Fo g (H2 m c) by unfold Fo;simp];omega
theorem QA : ∀(cs m:List Cell),Fo g (Il m cs)<=Fo g m+Fo g cs
 | [],m=>Aa _
 | c :: r,m=>by
  have h1:=QA r (put m c).2;have h2:=X1b (g:=g) m c;show Fo g (Il (put m c).2 r)<=_;rw[show Fo g (c :: r)=g c+Fo g r by unfold Fo;simp];omega
end
structure QsE (B:Nat)(qs:List (Value×List Cell))(w:World):Prop where
 row:∀q∈qs,Vc.Own Cell.cs 4 79 B w q.1 q.2
section
variable {B B':Nat}{qs:List (Value×List Cell)}{w w':World}{S:Nat->Prop}
theorem QsE.ext (h:QsE B qs w)(x:EB w w'):QsE B qs w':=⟨λq r=>(h.row q r).ext x⟩
theorem QsE.mod (h:QsE B qs w)(m:Vc.Mod S w w')(hS:∀q∈qs,∀k,q.1.ownBlock=some k->¬ S k):QsE B qs w':=⟨λq r=>(h.row q r).mod m (hS q r)⟩
theorem QsE.ne {α:Type}{enc:α->List Value}{sz T:Nat}{v:Value}{l:List α}(h:QsE B qs w)(ho:Vc.Own enc sz T B' w v l)(hT:Nat.beq 79 T=false):∀q∈qs,∀k,q.1.ownBlock=some k->¬ v.ownBlock=some k:=λq r k hk=>(h.row q r).ne ho hT hk
theorem QsE.snoc {v:Value}{l:List Cell}(h:QsE B qs w)(ho:Vc.Own Cell.cs 4 79 B w v l):QsE B (qs++[(v,l)]) w:=⟨λq r=>(Ay.1 r).elim (h.row q) (λe=>by rw[Ah.1 e];exact ho)⟩
theorem QsE.lt (h:QsE B qs w):∀q∈qs,∀k,q.1.ownBlock=some k->k<w.heap.size:=λq r k hk=>((h.row q r).lt k hk).2
end
theorem WM {rem:List Tb}{t:Tb}(ht:t∈rem)(hnd:(rem.map (·.h)).Nodup):rem.Perm (t :: rem.filter λq=>decide (q.h≠t.h))/\((rem.filter λq=>decide (q.h≠t.h)).map (·.h)).Nodup/\∀y,(y∈rem.map (·.h)/\y≠t.h)↔y∈(rem.filter λq=>decide (q.h≠t.h)).map (·.h):=by
 refine⟨?_,List.Nodup.sublist (C4 _ Cb) hnd,λy=>?_⟩
 ·induction rem with
  | nil=>cases ht
  | cons a r ih=>
   rw[Aq,AZ]at hnd;rw[B5]
   by_cases e:a.h=t.h
   ·have O:a=t:=by
     rcases Aj.1 ht with e2|h2
     ·exact e2.symm
     ·exact absurd (by rw[e];exact BD h2) hnd.1
    rw[if_neg (by simp [e])];have:r.filter (λq=>decide (q.h≠t.h))=r:=Bm.2 λq z=>by
     have:q.h≠t.h:=λe2=>hnd.1 (by rw[e,<-e2];exact BD z);simpa using this
    rw[this,O]
   ·rw[if_pos (by simpa using e)];have J:t∈r:=(Aj.1 ht).resolve_left (λe2=>e (by rw[e2]));exact((ih J hnd.2).cons a).trans (List.Perm.swap t a _)
 ·simp only [Ar,Az,decide_eq_true_eq]
  constructor
  ·rintro ⟨⟨q,z,rfl⟩,hn⟩;exact⟨q,⟨z,hn⟩,rfl⟩
  ·rintro ⟨q,⟨z,hn⟩,rfl⟩;exact⟨⟨q,z,rfl⟩,hn⟩
def LB (most:Int)(l:List Rw):List Rw:=if most<1 then l else l.take most.toNat
theorem Xqg {m:List Cell}{k:Nat}{c:Cell}(h:m[k]?=some c):HT (m.take (k+1))=if c.del=true then HT (m.take k)else HT (m.take k)++[⟨c.key,c.val,false⟩]:=by
 unfold HT;rw[Gs h,Bu,AC]
 cases hd:c.del<;>simp [hd]
theorem Xyi (m:List Cell)(k:Nat):(HT (m.take k)).length<=m.length:=by
 unfold HT;rw[An];have h1:=B0 (λc:Cell=>!c.del) (m.take k);have h2:(m.take k).length<=m.length:=List.length_take_le' ..;omega
theorem Xtu {m:List Cell}{k:Nat}{most:Int}(h:((HT (m.take k)).length:Int)=most)(h1:1<=most):LB most (HT m)=HT (m.take k):=by
 have e:HT m=HT (m.take k)++HT (m.drop k):=by
  conv=>lhs;rw[<-AT k m]
  unfold HT;rw[Bu,AC]
 unfold LB;rw[if_neg EA,e,<-h,Int.toNat_natCast,List.take_left]
theorem Xyj {m:List Cell}{most:Int}(h:most<1\/((HT m).length:Int)<most):LB most (HT m)=HT m:=by
 unfold LB;split
 ·rfl
 ·exact Ax EA
theorem Ru {qs:List (Value×List Cell)}{L:List (List Cell)}(h:qs.map (·.2)=L):qs.flatMap (·.2)=L.flatten:=by rw[<-h,DN]
theorem VC {frm to:EC}{dn ts:List Tb}(h:dn.Perm ts)(mem:List Cell):((scan mem frm to :: dn.map λt=>scan t.cs frm to).flatten).length<=(Fx mem ts).length:=by
 have h1:∀dn:List Tb,((dn.map λt=>scan t.cs frm to).flatten).length<=(dn.flatMap (·.cs)).length:=by
  intro dn
  induction dn with
  | nil=>exact Aa _
  | cons t r ih=>
   have:(scan t.cs frm to).length<=t.cs.length:=B0 _ _;simp only [Aq,C1,AD,Ab];omega
 have h2:=h1 dn;have h3:(dn.flatMap (·.cs)).length=(ts.flatMap (·.cs)).length:=(Ez _ h).length_eq;have h4:(scan mem frm to).length<=mem.length:=B0 _ _;unfold Fx;simp only [C1,Ab];omega
theorem TJ {frm to:EC}{dn ts:List Tb}(h:dn.Perm ts)(mem:List Cell)(c:Cell):c∈(scan mem frm to :: dn.map λt=>scan t.cs frm to).flatten↔c∈scan (Fx mem ts) frm to:=by
 unfold scan;rw[C1,Ay,List.mem_flatten,Az,Az,GC]
 constructor
 ·rintro (⟨h1,h2⟩|⟨x,hx,hc⟩)
  ·exact⟨.inl h1,h2⟩
  ·obtain⟨t,r,rfl⟩:=Ar.1 hx;have:=Az.1 hc;exact⟨.inr ⟨t,h.mem_iff.1 r,this.1⟩,this.2⟩
 ·rintro ⟨h1|⟨t,r,h1⟩,h2⟩
  ·exact .inl ⟨h1,h2⟩
  ·exact .inr ⟨_,Ar.2 ⟨t,h.mem_iff.2 r,rfl⟩,Az.2 ⟨h1,h2⟩⟩
theorem T7 (κ:Nat->Nat)(bs bd bl bo bm:Nat)(vf:Value)(L:Led)(D:Dsk)(V:Vs)(ts:List Tb)(mem:List Cell)(dead:Bool)(frm to:EC)(most:Int)(w:World)(h:StE κ bs bd bl bo bm vf L D V ts mem dead w)(hnd:(ts.map (·.h)).Nodup)(hokh:∀t∈ts,Ju t.h)(hml:mem.length<=900000)(hms:∀c∈mem,c.seq<=4611686018427387904)(htl:ts.length<=900000)(hcl:(Fx mem ts).length<=9000000) :
  Calls Tryz.prog 21 [ED bs 0,S frm,S to,I most].toArray w (ER w (λu w'=>∃L m,(∀c,c∈L↔c∈scan (Fx mem ts) frm to)/\L.length<=(Fx mem ts).length/\Mg L m/\Vc.Own Rw.cs 3 48 w.heap.size w' u (LB most (HT m)))):=by
 refine cw Tryz.func21 ?_;have J:=EB.refl w;have hm:=h.m;have z:=h.mp.at;have yp:=h.mr;have xz:=h.tb;refine ws λ_ Z1=>wr (da (de Z1 (ws λ_ Z2=>ws λ_ Z3=>wr (dm ?_))));refine dp (Gj E9 rfl rfl) (de Z3 (wi (λc1=>?_) λc1=>?_))
 ·exact absurd c1 EQ
 refine EG (Z2 _ _ (ws λ_ Z4=>wr (dm ?_)));refine dz rfl (df 5 rfl (dl rfl ((hm.ext J).at rfl) (dm (dm ?_))));refine cG (yp.calls_scan frm to _ EA hms) RX.all λv0 w1 x1 hf=>?_;have hsz1:=J.size;have z:=z.ext x1;have J:=J.trans x1;refine Ib (e:=95) (sz:=1) (zs:=[.slice none 0 0]) (pv:=[(0,?a6_0)]) (cs:=[?a6_0]) rfl E9 ⟨rfl,rfl⟩ E9 rfl ?h6 ?f6 RX.all (λb1 w2 e1 x2 m1=>?k6)
 case h6=>refine⟨rfl,?_,trivial⟩<;>(conv=>lhs;whnf)
 case f6=>simp [Hw,Fe,Aw,hf.sl.cells]
 have g1:=J.ge e1;have n1_mp9:=z.lt;have o1_hoS:=hf.ltb e1;have z:=z.ext x2;have hf:=hf.ext x2;have J:=J.trans x2;refine da (de Z4 (ws λ_ Z5=>ws λ_ Z6=>wr (dm ?_)));refine dz rfl (df 4 rfl (dl rfl ((hm.ext J).at rfl) (Vu LL rfl rfl z RX.all (λb2 w3 hp e2 x3 hcn2 O=>?_))));have g2:=J.ge e2;have n2_1:=m1.ltb e2;have n2_mp9:=z.lt;have o2_hoS:=hf.ltb e2;have z:=z.ext x3;have hf:=hf.ext x3;have m1:=m1.ext x3;have J:=J.trans x3;refine de Z6 (EN ?_);refine Fk (G:=List Tb×List Tb×List (Value×List Cell)×Value×Nat) (λ(rem,dn,qs,vr,cnt)=>[(1,S frm),(2,S to),(3,I most),(8,.slice none 0 0),(9,vr),(29,ED b2 0)]) (λ(rem,dn,qs,vr,cnt) w'=>EB w w'/\Vc.Xbn Tryz.prog 104 Gi pO w' bo (ts.map Tb.kv).length (lk (ts.map Tb.kv))/\(dn++rem).Perm ts/\(rem.map (·.h)).Nodup/\qs.map (·.2)=(scan mem frm to :: dn.map λt=>scan t.cs frm to)/\Vc.Own IR 1 95 w.heap.size w' vr qs/\QsE w.heap.size qs w'/\Vc.Xbf Tryz.prog 104 Gi pO w' bo b2 (ts.map Tb.kv).length (lk (ts.map Tb.kv)) (λx=>x∈rem.map (·.h)) cnt) (λ(rem,dn,qs,vr,cnt)=>cnt) (ts,[],[(v0,scan mem frm to)],.slice (some ⟨b1,0,none⟩) 1 1,hp) ?_ ?_ ?_
 ·exact FSq
 ·exact⟨J,z,List.Perm.refl _,hnd,rfl,m1.own (enc:=IR) (B:=w.heap.size) (l:=[(v0,scan mem frm to)]) (sz:=1) (m:=1) g1 rfl EE rfl (Ap rfl),⟨λq hq=>by rw[Ah.1 hq];exact hf⟩,O.congr (λx=>by rw[Ny,Iq,Option.isSome_map];unfold Hl;rw[List.find?_isSome];simp)⟩
 intro X4 g4 w4 yj;obtain⟨rem,dn,qs,vr,cnt⟩:=g4;clear J z hf m1 O;obtain⟨J,z,hb,xi,hl,Z,hQ,O⟩:=yj;refine ws λ_ Z7=>wr ?_;refine Wm LL rfl rfl O (.inl rfl) (λx4=>?_) (λx a w5 hp hok yi xm hz xs5 ya h9 xr=>?_)
 ·have xy:rem=[]:=by
   cases rem with
   | nil=>rfl
   | cons q r=>exact absurd (Ar.2 ⟨q,Al,rfl⟩) (x4 q.h (hokh q (hb.mem_iff.1 EQ)))
  subst xy;rw[AP]at hb;have xh:=congrArg A7 hl;have xt:=hb.length_eq;simp only [An,AB]at xh;refine dx rfl rfl (de Z7 (ws λ_ Z8=>GB rfl (Ff (Z5 _ _ (ws λ_ Z9=>wr (da (de Z9 (ws λ_ xl=>ws λ_ x0=>wr (dm ?_)))))))));refine cG (Qj qs vr _ (Z.arr EE) (λq hq=>(hQ.row q hq).arr EE) EA (by rw[Ru hl];have:=VC (frm:=frm) (to:=to) hb mem;omega)) RX.all λvm w6 x6 yl=>?_;have xn:=J.size;have z:=z.ext x6;have Z:=Z.ext x6;have hQ:=hQ.ext x6;have O:=O.ext x6;have J:=J.trans x6;obtain⟨m,hy,xq⟩:=yl;have ha:=xq.mono xn;have xp:=(OM hy).1;rw[Ru hl]at xp hy;have h8:=VC (frm:=frm) (to:=to) hb mem;refine dv 79 4 (ha.arr EE).sl (dm (de x0 (EN ?_)));refine Fk (G:=Nat×Value) (λ(k,vl)=>[(3,I most),(8,.slice none 0 0),(12,vl),(42,vm),(43,I ↑m.length),(44,I ↑k)]) (λ(k,vl) w'=>EB w w'/\k<=m.length/\(most<1\/((HT (m.take k)).length:Int)<most)/\Vc.Own Rw.cs 3 48 w.heap.size w' vl (HT (m.take k))/\Vc.Own Cell.cs 4 79 w.heap.size w' vm m) (λ(k,vl)=>m.length-k) (0,.slice none 0 0) ?_ ?_ ?_
  ·exact FSq
  ·exact⟨J,Ad _,(by show most<1\/((0:Nat):Int)<most;omega),Vc.Own.nil,ha⟩
  intro X7 g7 w7 yk;obtain⟨k,vl⟩:=g7;clear J z Z hQ O ha;obtain⟨J,hk1,xe,Y,ha⟩:=yk;refine ws λ_ xw=>wr (dp (Fa rfl rfl) (de xw (ws λ_ yg=>wi (λc2=>?_) λc2=>?_)))
  ·obtain⟨c,hk⟩:∃c,m[k]?=some c:=Fq;have hc:=Xqg hk;have hrl:=Xyi m k;refine EG (yg _ _ (ws λ_ xj=>EN (ws λ_ x7=>wr (di 79 4 (ha.arr EE).sl rfl ((ha.arr EE).lt hk) (dq (Fb E9 rfl rfl ((ha.arr EE).row hk)) (FG (cs:=[S [],S [],B false,.int .i64 0]) rfl E9 RX.all (λb3 w8 e3 x8 m3=>?_)))))));have g3:=J.ge e3;have h7:=Y.ltb e3;have h5:=ha.ltb e3;have Y:=Y.ext x8;have ha:=ha.ext x8;have J:=J.trans x8;refine FM m3 (λw9 x9 xs9 m3=>?_);dsimp only [Fe,Ag,Af,Ai]at m3;have Y:=Y.mod x9 (by intro k hk h;have h1:=h7 k hk;have h2:k=b3:=h;omega);have ha:=ha.mod x9 (by intro k hk h;have h1:=h5 k hk;have h2:k=b3:=h;omega);have J:=J.o1 x9;refine de x7 (ws λ_ xx=>ws λ_ yd=>wr (df 2 rfl (dl rfl (m3.at rfl) (de yd (wc (λc3=>?_) λc3=>?_)))))
   ·refine Ff (xj _ _ (wr (pa rfl rfl (dm (EF (?_))))));rw[if_pos c3]at hc;exact⟨(k+1,vl),FSq,⟨J,by omega,by rw[hc];exact xe,by rw[hc];exact Y,ha⟩,by simp only [];omega⟩
   refine EG (xx _ _ (ws λ_ ym=>wr (dm ?_)));refine df 0 rfl (dl rfl (m3.at rfl) (df 1 rfl (dl rfl (m3.at rfl) (db (zs:=[S [],S [],B false]) (pl:=[(0,1),(1,1),(2,1)]) (pv:=[(0,_),(1,_)]) (cs:=[_,_,B false]) ?_))));refine li (e:=48) (sz:=3) (zs:=[S [],S [],B false]) (pv:=[(0,.agg ⟨[_,_,_]⟩)]) (cs:=[_,_,_]) RX.all (λb4 w10 e4 xa m4=>?_);have g4:=J.ge e4;have o4_hoR:=Y.ltb e4;have o4_hoM:=ha.ltb e4;have Y:=Y.ext xa;have ha:=ha.ext xa;have J:=J.trans xa;refine Gv (lx:=[⟨c.key,c.val,false⟩]) (e:=48) (sz:=3) (by':=40) rfl E9 E9 EE Y (m4.arr (enc:=Rw.cs) (sz:=3) (l:=[⟨c.key,c.val,false⟩]) rfl EE rfl (Ap rfl)) rfl rfl (by intro x _ u hu;simp at hu;rcases hu with rfl|rfl|rfl<;>rfl) (by simp;omega) EK J.size (.inl rfl) (λyn w11 xb xu=>?_);have ha:=ha.mod xu (by exact(λk hk=>ha.ne Y rfl hk));have J:=J.own xu (λi hi=>(Y.lt i hi).1);have Y:=xb;clear m4;refine da (de ym (ws λ_ ye=>wr (dm ?_)));refine dv 48 3 (Y.arr EE).sl (dm ?_);refine dp (G1 rfl rfl) (de ye (wi (λc4=>?_) λc4=>?_))
   ·refine Ff (xl _ _ (ws λ_ yc=>wr (dm (da (de yc (EH ?_))))));refine ro ?_;rw[if_neg (by rw[c3];decide)]at hc;rw[<-hc]at Y;have hr:=congrArg A7 hc;simp only [Ab,AB,Bc]at hr c4;rw[<-Xtu (k:=k+1) (m:=m) (most:=most) EA EA]at Y;exact⟨_,rfl,J,_,m,TJ hb mem,h8,hy,Y⟩
   refine EG (xj _ _ (wr (pa rfl rfl (dm (EF (?_))))));rw[if_neg (by rw[c3];decide)]at hc;rw[<-hc]at Y;have hr:=congrArg A7 hc;simp only [Ab,AB,Bc]at hr c4;exact⟨(k+1,yn),FSq,⟨J,by omega,by omega,Y,ha⟩,by simp only [];omega⟩
  refine Ff (xl _ _ (ws λ_ yf=>wr (dm (da (de yf (EH ?_))))));refine ro ?_;rw[Ax EA]at Y xe;rw[<-Xyj xe]at Y;exact⟨_,rfl,J,_,m,TJ hb mem,h8,hy,Y⟩
 have z:=z.mod hz (by exact λe=>O.ne_map z e);have Z:=Z.mod hz (by exact(λk hk e=>O.ne_own Z (hk.trans (congrArg some e))));have hQ:=hQ.mod hz (λq hq k hk e=>O.ne_own (hQ.row q hq) (hk.trans (congrArg some e)));have J:=J.own hz (λi hi=>by have yh:i=b2:=hi;subst yh;omega);have O:=h9;obtain⟨t,ht,rfl⟩:=Ar.1 yi;have xo:t∈ts:=hb.mem_iff.1 (Bt _ ht);rw[Ny,Iq,M4 hnd xo]at xm
 cases xm
 have hT:=xz t xo;obtain⟨xd,xv,xf⟩:=WM ht xi;have xh:=congrArg A7 hl;have xt:=hb.length_eq;simp only [An,AB,Ab]at xh xt;refine dx rfl rfl (de Z7 (ws λ_ yb=>GD rfl (EG (yb _ _ (EN (ws λ_ yo=>wr (dq (SN rfl xr) (EW (v:=ED t.bt 0) rfl (T2 rfl rfl) rfl (da (de yo (wr ?_)))))))))))
 iterate 4 refine dm ?_
 refine cG (Xm t.bt t.vl t.vb t.cs frm to _ (hT.ext J)) RX.all λvt w12 hj xk=>?_;have xg:=J.size;have z:=z.ext hj;have Z:=Z.ext hj;have hQ:=hQ.ext hj;have O:=O.ext hj;have J:=J.trans hj;have hg:=xk.mono xg;refine Ib (e:=95) (sz:=1) (zs:=[.slice none 0 0]) (pv:=[(0,?a32_0)]) (cs:=[?a32_0]) rfl E9 ⟨rfl,rfl⟩ E9 rfl ?h32 ?f32 RX.all (λb5 w13 e5 hh m5=>?k32)
 case h32=>refine⟨rfl,?_,trivial⟩<;>(conv=>lhs;whnf)
 case f32=>simp [Hw,Fe,Aw,hg.sl.cells]
 have g5:=J.ge e5;have n5_mp9:=z.lt;have n5_rg2:=O.lt;have n5_rg2m:=O.map.lt;have o5_hoQ:=Z.ltb e5;have a5_hQ:=hQ.lt;have z:=z.ext hh;have Z:=Z.ext hh;have hQ:=hQ.ext hh;have O:=O.ext hh;have hg:=hg.ext hh;have J:=J.trans hh;refine Gv (lx:=[(vt,scan t.cs frm to)]) (e:=95) (sz:=1) (by':=24) rfl E9 E9 EE Z (m5.arr (enc:=IR) (sz:=1) (l:=[(vt,scan t.cs frm to)]) rfl EE rfl (Ap rfl)) rfl rfl (by intro x x5 u hu;rw[Ah.1 x5]at hu;simp at hu;rw[hu];exact hg.sl.one) (by simp;omega) EK J.size (.inl rfl) (λvq w14 xc hw=>?_);have z:=z.mod hw (z.ne_own Z);have hQ:=hQ.mod hw (by exact hQ.ne Z rfl);have O:=O.mod hw (O.map.ne_own Z) (O.ne_own Z);have hg:=hg.mod hw (by exact(λk hk=>hg.ne Z rfl hk));have J:=J.own hw (λi hi=>(Z.lt i hi).1);have Z:=xc;clear m5;refine da (EF (?_));exact⟨(rem.filter (λq=>decide (q.h≠t.h)),dn++[t],qs++[(vt,scan t.cs frm to)],vq,hp),FSq,⟨J,z,by rw[List.append_assoc];exact(DG dn xd.symm).trans hb,xv,by rw[AC,hl,AC];rfl,Z,hQ.snoc hg,O.congr (λy=>xf y)⟩,ya⟩
theorem Xyl {fs:List Fi}{lv i:Nat}{c:Cell}(h1:lv<i)(h:0<(HJ fs ↑i c.key c.key).length):HF fs ↑lv c=true:=by
 obtain⟨f,J⟩:=List.exists_mem_of_length_pos h;obtain⟨z,r⟩:=Az.1 J;unfold Jj at r;simp only [Au,decide_eq_true_eq]at r;unfold HF;rw[Bool.or_eq_true];refine .inr (B6.2 ⟨f,z,?_⟩);rw[decide_eq_true (show(↑lv:Int)<f.lev by omega),r.1.2,r.2];rfl
theorem X1c {fs:List Fi}{lv:Nat}{c:Cell}(hd:c.del=true)(hlv:∀f∈fs,0<=f.lev/\f.lev<=4)(h:∀i:Nat,lv<i->i<5->¬ 0<(HJ fs ↑i c.key c.key).length):HF fs ↑lv c=false:=by
 unfold HF;rw[hd];rw[Bool.not_true,Bool.false_or,Dp];intro f z r;rw[Au,Au,decide_eq_true_eq]at r;have hr:=hlv f z;refine h f.lev.toNat EA EA (List.length_pos_of_mem (a:=f) (Az.2 ⟨z,?_⟩));unfold Jj;rw[decide_eq_true (show f.lev=↑f.lev.toNat by omega),r.2.1,r.2.2];rfl
theorem Xtv {fs:List Fi}{lv:Int}{c:Cell}(hd:c.del=false):HF fs lv c=true:=by unfold HF;rw[hd];rfl
theorem X7k (bs bd bl:Nat)(n:Int)(vf:Value)(bo bm:Nat)(dead:Bool)(fs:List Fi)(c:Cell)(lv:Nat)(w:World)(hs:EL w bs (He bd bl n vf bo bm dead) 90)(hv:EM Fi.cs 5 w vf fs)(hl:fs.length<=100000)(hlv:∀f∈fs,0<=f.lev/\f.lev<=4)(hl4:lv<=4) :
  Calls Tryz.prog 53 [ED bs 0,c.v,I ↑lv].toArray w (Pure w (B (HF fs ↑lv c))):=by
 refine cw Tryz.func53 ?_;have r:=EB.refl w;refine ws λ_ Z1=>wr (Gc rfl rfl rfl RX.all (λb1 w1 e1 x1 z=>?_));have g1:=r.ge e1;have r:=r.trans x1;refine da (de Z1 (ws λ_ Z2=>ws λ_ Z3=>wr ?_));refine df 2 rfl (dl rfl (z.at rfl) (dn (de Z3 ?_)));refine wc (λZ=>?_) λZ=>?_
 ·refine ws λ_ Z4=>wr (da (de Z4 (EH ?_)));refine ro ?_;exact⟨by rw[Xtv (by simpa using Z)],r⟩
 refine EG (Z2 _ _ (ws λ_ Z5=>ws λ_ Z6=>wr (dm ?_)));refine pa rfl rfl (da (de Z6 (EN ?_)));refine Fk (G:=Nat) (λi=>[(0,ED bs 0),(4,ED b1 0),(7,I ↑i)]) (λi w'=>EB w w'/\lv<i/\i<=5/\(∀j:Nat,lv<j->j<i->¬ 0<(HJ fs ↑j c.key c.key).length)/\EL w' b1 c.cs 79) (λi=>5-i) (lv+1) ?_ ?_ ?_
 ·exact Hj
 ·exact⟨r,by omega,by omega,λj h1 h2=>by omega,z⟩
 intro X2 g2 w2 J;revert J;revert g2;intro i J;clear r z;obtain⟨r,hb,hi2,hA,z⟩:=J;refine ws λ_ Z7=>ws λ_ Z8=>wr (dm ?_);refine dp (IM rfl rfl) (de Z8 (wi (λc2=>?_) λc2=>?_))
 ·refine EG (Z7 _ _ (ws λ_ Z9=>EN (ws λ_ hf=>F4 (R:=EB) EB.refl (λ_ _ _=>EB.trans) E9 [3,6,8] [(0,.p,false),(1,.p,false),(2,.p,false),(3,.l,false),(4,.p,false),(5,.p,false),(6,.l,false),(7,.p,false),(8,.l,false),(9,.x,true),(10,.p,false),(11,.p,false)] rfl E9 E9 (λw3 Y=>?_))));have x3:=EJ Y;clear Y;have z:=z.ext x3;have r:=r.trans x3;refine dm ?_;refine dz rfl (df 2 rfl (FK rfl (λw' O=>Fb E9 rfl rfl ((hs.ext (r.trans O)).part 2 2)) (dm ?_)));refine df 0 rfl (dL rfl (λ_ O=>((z.ext O).at rfl)) (df 0 rfl (dL rfl (λ_ O=>((z.ext O).at rfl)) (cG (Ou n fs vf ↑i c.key c.key _ (hv.ext r) hl) RX.all λvo w4 x4 hO=>?_))));have hsz4:=r.size;have z:=z.ext x4;have r:=r.trans x4;refine dv 62 5 (hO.arr EE).sl (dp (FY rfl rfl) (de hf (wi (λc3=>?_) λc3=>?_)))
  ·refine ws λ_ hc=>wr (da (de hc (EH ?_)));refine ro ?_;exact⟨by rw[Xyl hb EA],r⟩
  refine EG (Z9 _ _ (wr (dm ?_)));refine pa rfl rfl (da (EF (?_)));refine⟨i+1,Hj,⟨r,by omega,by omega,λj h1 h2=>?_,z⟩,by omega⟩
  by_cases e9:j=i
  ·subst e9;omega
  ·exact hA j h1 EA
 refine Ff (Z5 _ _ (ws λ_ ha=>wr (da (de ha (EH ?_)))));refine ro ?_;exact⟨by rw[X1c (by simpa using Z) hlv (λj h1 h2=>hA j h1 EA)],r⟩
theorem Yat (bs bd bl:Nat)(n:Int)(vf:Value)(bo bm:Nat)(dead:Bool)(fs:List Fi)(c:Cell)(lv:Nat)(b1 b2:Nat)(w:World)(hs:EL w bs (He bd bl n vf bo bm dead) 90)(hv:EM Fi.cs 5 w vf fs)(hl:fs.length<=100000)(hlv:∀f∈fs,0<=f.lev/\f.lev<=4)(hl4:lv<=4)(hb1:EL w b1 [ED bs 0] 28)(hb2:EL w b2 [I ↑lv] 3) :
  Calls Tryz.prog 52 [c.v,ED b1 0,ED b2 0].toArray w (Pure w (B (!HF fs ↑lv c))):=by
 refine cw Tryz.func52 ?_;have r:=EB.refl w;refine ws λ_ Z=>wr (Gc rfl rfl rfl RX.all (λb1 w1 e1 J O=>?_));have g1:=r.ge e1;have r:=r.trans J;refine da (de Z (ws λ_ z=>wr ?_));refine dl rfl ((hb1.ext r).at rfl) (dq (Fb (k:=4) E9 rfl rfl O.row) (dl rfl ((hb2.ext r).at rfl) (cP (X7k bs bd bl n vf bo bm dead fs c lv _ (hs.ext r) (hv.ext r) hl hlv hl4) RX.all λw2 Y=>?_)));have r:=r.trans Y;refine dn (da (de z (EH ?_)));refine ro ?_;exact⟨rfl,r⟩
theorem Yau (l:List Cell)(v:Value)(Bo f:Nat)(cs:List Value)(p:Cell->Bool)(w:World)(ho:Vc.Own Cell.cs 4 79 Bo w v l)(hl:l.length<=1000000)(hcb:GL Tryz.prog f=true)(hc:∀w2,Vc.Mod (λk=>v.ownBlock=some k) w w2->∀x∈l,Calls Tryz.prog f ([x.v]++cs).toArray w2 (Pure w2 (B (p x)))) :
  Calls Tryz.prog 51 [v,I1 f cs].toArray w (Fh (λk=>v.ownBlock=some k) w (λu w'=>Vc.Own Cell.cs 4 79 Bo w' u (l.filter λx=>!p x))):=by
 refine cw Tryz.func51 ?_;have r:=Vc.Mod.refl (λk=>v.ownBlock=some k) w;have hg:=ho.sl;refine ws λ_ Z1=>wr (da (de Z1 (ws λ_ Z2=>wr (dm (dm ?_)))));have ho2:=ho.mod r;refine cG (X6p l v f cs p _ (ho.arr EE) EA hcb (λw2 x2=>hc w2 (r.ext x2))) RX.all λu1 w1 x1 hw=>?_;have hsz1:=r.size;have ho:=ho.ext x1;have r:=r.ext x1;obtain⟨i0,rfl,ha⟩:=hw;refine da (de Z2 (ws λ_ Z3=>ws λ_ Z4=>wr (dm ?_)));refine dp (G1 rfl rfl) (de Z4 (wi (λc1=>?_) λc1=>?_))
 ·refine ws λ_ Z5=>wr (dm (da (de Z5 (EH ?_))));refine ro ?_;have e9:l.filter (λx=>!p x)=l:=Bm.2 λx h6=>by
   rcases ha with⟨_,h9⟩|⟨k9,e8,_⟩
   ·simpa using Dp.1 h9 x h6
   ·omega
  exact⟨_,rfl,r,by rw[e9];exact ho⟩
 obtain⟨k0,rfl,hk1,x0,hx0,hp0⟩:∃k:Nat,i0=↑k/\(l.take k).any p=false/\∃x,l[k]?=some x/\p x=true:=ha.elim (λh9=>absurd h9.1 (by simpa using c1)) (λh9=>h9);have hkl0:=(Ao.1 hx0).1;refine EG (Z3 _ _ (ws λ_ Z6=>ws λ_ Z7=>wr (dm ?_)));refine pa rfl rfl (da (de Z7 (EN ?_)));refine Fk (G:=Nat×Nat×List Cell) (λ(n,k,cur)=>[(0,v),(1,I1 f cs),(4,.slice none 0 0),(5,I ↑k),(6,I ↑n)]) (λ(n,k,cur) w'=>Mod (λk=>v.ownBlock=some k) w w'/\JR p l n k cur/\Vc.Own Cell.cs 4 79 Bo w' v cur) (λ(n,k,cur)=>l.length-n) (k0+1,k0,l) ?_ ?_ ?_
 ·exact FA
 ·exact⟨r,Yaf hx0 hp0 (λi y hi hy=>by cases e:p y with
  | false=>rfl
  | true=>exact absurd e (by have:=Dp.1 hk1 y (Ak (i:=i) (by rw[AV,if_pos hi];exact hy));exact this)),ho⟩
 intro X2 g2 w2 hq;obtain⟨n,k,cur⟩:=g2;clear r ho;obtain⟨r,Z,ho⟩:=hq;have hb:=Z.1;have hr2:=Z.2.1;have hr3:=Z.2.2.1;have hh:=JP ho (λe=>by rw[e]at hb;simp at hb;omega);refine ws λ_ Z8=>ws λ_ Z9=>wr (dm (dm ?_));refine dv 79 4 (ho.arr EE).sl (dp (Fa rfl rfl) (de Z9 (wi (λc2=>?_) λc2=>?_)))
 ·obtain⟨x,hk2⟩:∃x,l[n]?=some x:=Fq;have hk:cur[n]?=some x:=(Z.2.2.2.2 n (Aa n)).trans hk2;refine EG (Z8 _ _ (ws λ_ hf=>EN (ws λ_ h5=>wr (dm (dm ?_)))));refine di 79 4 (ho.arr EE).sl rfl ((ho.arr EE).lt hk) (dq (Fb E9 rfl rfl ((ho.arr EE).row hk)) (FG (cs:=[S [],S [],B false,.int .i64 0]) rfl E9 RX.all (λb1 w3 e1 x3 O=>?_)));have g1:=r.ge e1;have Y:=ho.ltb e1;have ho:=ho.ext x3;have r:=r.ext x3;refine FM O (λw4 x4 xs4 O=>?_);dsimp only [Fe,Ag,Af,Ai]at O;have ho:=ho.mod x4 (by intro k hk h;have h1:=Y k hk;have h2:k=b1:=h;omega);have r:=r.o1 x4;refine de h5 (ws λ_ hj=>wr (dm ?_));refine dq (Fb (k:=4) E9 rfl rfl O.row) (P6 (vs:=[x.v]) (cs:=cs) rfl rfl hcb (hc _ r x (Ak hk2)) rfl RX.all (λw5 x5=>?_));have ho:=ho.ext x5;have O:=O.ext x5;have r:=r.ext x5;refine dn (de hj ?_);refine wc (λc3=>?_) λc3=>?_
  ·refine ws λ_ ht=>wr (dm (dm ?_));refine dq (Fb (k:=4) E9 rfl rfl O.row) (EW (v:=ED (base v).1 (k*4+0)) rfl (HM (i:=k) (e:=79) (k:=4) E9 ho.sl rfl rfl EA) (by rw[hh];show ED _ (0+_)=_;rw[Nat.zero_add];rfl) ?_);refine H5 (enc:=Cell.cs) (sz:=4) (l:=cur) (i:=k) (j:=0) (x:=x) (vs:=x.cs) EE rfl ho rfl rfl rfl E9 EA rfl (Aa 4) (by intro v hv;simp at hv;rcases hv with rfl|rfl|rfl|rfl<;>rfl) (.inl rfl) (λw6 x6 xs6 J=>?_);have r:=r.own x6 (λi hi h8=>hi);have ho:=J;refine de ht (wr (dm ?_));refine pa rfl rfl (da (de hf (wr (dm ?_))));refine pa rfl rfl (da (EF (?_)));exact⟨(n+1,k+1,_),FA,⟨r,Xsf Z hk2 (by simpa using c3),ho⟩,by simp only [];omega⟩
  refine EG (hf _ _ (wr (dm ?_)));refine pa rfl rfl (da (EF (?_)));exact⟨(n+1,k,cur),FA,⟨r,Xxm Z hk2 (by simpa using c3),ho⟩,by simp only [];omega⟩
 refine Ff (Z6 _ _ (ws λ_ hp=>wr (dm (dm ?_))));refine dp (H8 (e:=79) (k:=4) (m:=cur.length) (a:=k) (b:=cur.length) E9 ho.sl rfl rfl rfl EA EA) ?_;refine VX (enc:=Cell.cs) (sz:=4) (e:=79) (l:=cur) (k:=k) (zs:=[S [],S [],B false,.int .i64 0]) EE rfl E9 E9 rfl EK (by intro z hz;simp at hz;rcases hz with rfl|rfl|rfl|rfl<;>rfl) ho rfl EA (.inl rfl) (λw7 x7 xs7 J=>?_);have r:=r.own x7 (λi hi h8=>hi);have ho:=J;refine de hp (ws λ_ h7=>wr (dm (dm ?_)));refine dp (H8 (e:=79) (k:=4) (m:=l.length) (a:=0) (b:=k) E9 hg rfl rfl rfl EA EA) (da (de h7 (EH ?_)));refine ro ?_;rw[Z.2.2.2.1,Ax EA]at ho;exact⟨_,rfl,r,ho⟩
def Ir (ts:List Tb)(f:Fi):List Cell:=match Hl ts (f.lev,f.id)with
 | some t=>t.cs
 | none=>[]
theorem PU (ts:List Tb)(p:List Fi):I5 ts p=(p.map (Ir ts)).flatten:=by rw[<-DN];rfl
theorem Oa {ts:List Tb}{f:Fi}{t:Tb}(h:Hl ts (f.lev,f.id)=some t):Ir ts f=t.cs:=by unfold Ir;rw[h]
theorem Xom {ts:List Tb}{h k:Int×Int}(hk:k≠h):Hl (ts.filter λq=>decide (q.h≠h)) k=Hl ts k:=by
 unfold Hl;rw[List.find?_filter]
 congr 1
 funext q
 by_cases e:q.h=k
 ·have:q.h≠h:=λe2=>hk (e.symm.trans e2);simp [e,hk]
 ·simp [e]
theorem Qs : ∀(p:List Fi) (ts:List Tb),(ts.map (·.h)).Nodup->(p.map λf=>(f.lev,f.id)).Nodup->(I5 ts p).length<=(ts.flatMap (·.cs)).length
 | [],ts,_,_=>Ad _
 | f :: r,ts,hn,hp=>by
  rw[Aq,AZ]at hp;have e:I5 ts (f :: r)=Ir ts f++I5 ts r:=rfl;rw[e,Ab]
  cases ht:Hl ts (f.lev,f.id)with
  | none=>
   have e2:Ir ts f=[]:=by unfold Ir;rw[ht]
   rw[e2];have:=Qs r ts hn hp.2;simpa using this
  | some t=>
   have z:=OU ht;have J:t.h=(f.lev,f.id):=by unfold Hl at ht;simpa using CM ht
   obtain⟨h1,h2,_⟩:=WM z hn;have h3:=Qs r _ h2 hp.2;have h4:I5 (ts.filter λq=>decide (q.h≠t.h)) r=I5 ts r:=by
    rw[PU,PU]
    congr 1
    apply List.map_congr_left
    intro g O;unfold Ir;rw[Xom (λZ=>hp.1 (by rw[<-J,<-Z];exact Ar.2 ⟨g,O,rfl⟩))]
   rw[h4]at h3;have Y:=(Ez (·.cs) h1).length_eq;rw[AD,Ab]at Y;rw[Oa ht];omega
theorem Xym (fs:List Fi):Ik fs []=fs:=by unfold Ik;exact Bm.2 λf _=>by simp
section
variable {n:Int}{V V':Vs}{ts ts':List Tb}{mem mem':List Cell}{L L':Led}{D D':Dsk}{dead dead' ok:Bool}{e:Int}
theorem Sto.tlen (h:Sto n V ts mem):ts.length<=(Fx mem ts).length:=by
 have:∀l:List Tb,(∀t∈l,t.cs≠[])->l.length<=(l.flatMap (·.cs)).length:=by
  intro l J
  induction l with
  | nil=>exact Ad _
  | cons t r ih=>
   have h1:=ih (λt z=>J t (Am _ z));have h2:=List.length_pos_iff.2 (J t Al);rw[AD,Ab,AB];omega
 have h1:=this ts (λt z=>by obtain⟨f,_,hv⟩:=h.bwd t z;exact hv.ne);unfold Fx;rw[Ab];omega
theorem Sto.okh (h:Sto n V ts mem):∀t∈ts,Ju t.h:=λt r=>by
 have h1:=h.lev r;obtain⟨f,z,hv⟩:=h.bwd t r;have h2:=LZ h.isv f z;rw[hv.h];exact⟨h2.2,h2.1⟩
theorem Sto.cellsB (h:Sto n V ts mem)(hn:n<=1099511627776):∀c∈Fx mem ts,c.key.length<=4096/\c.val.length<=16384/\c.seq<=4611686018427387904:=λc r=>by
 have h1:=(h.okc c r).1;have h2:=(h.okc c r).2;unfold Ge at h1;simp only [Au,decide_eq_true_eq]at h1;omega
theorem P1 {α β:Type}(f:α->β):∀ {l:List α},(l.map f).Nodup->l.Nodup
 | [],_=>BS
 | a :: r,h=>by
  rw[Aq,AZ]at h;exact AZ.2 ⟨λh2=>h.1 (BD h2),P1 f h.2⟩
theorem Xon {p:List Fi}(h:(p.map (·.id)).Nodup):(p.map λf=>(f.lev,f.id)).Nodup:=by
 have e:(p.map λf=>(f.lev,f.id)).map Prod.snd=p.map (·.id):=by rw[List.map_map];rfl
 rw[<-e]at h;exact P1 _ h
theorem QJ (h:Sto n V ts mem)(hf:Jy L D V ts mem false ok 0 L' D' V' ts' mem' dead') :
  dead'=false/\mem'=[]/\Sto n V' ts' []/\(∀c∈Fx [] ts',c∈Fx mem ts)/\(Fx [] ts').length<=(Fx mem ts).length/\((IA V.fs).isSome=true->(IA V'.fs).isSome=true)/\L'.last=L.last/\L'.ents.length<=L.ents.length/\(∀M,Sp.Told (Fx mem ts) M->Sp.Told (Fx [] ts') M)/\(∀g:Cell->Nat,Fo g (Fx [] ts')<=Fo g (Fx mem ts)):=by
 rcases hf with⟨h1,_⟩|⟨_,rfl,_,_,rfl,rfl,rfl,rfl,rfl,rfl⟩|⟨_,_,m,hm,r,h2⟩
 ·cases h1
 ·exact⟨rfl,rfl,h,λc r=>r,Aa _,λh=>h,rfl,Aa _,λM h=>h,λg=>Aa _⟩
 ·obtain⟨⟨h3,h4⟩,Z⟩:=Pp r;rcases Z with⟨Z,_⟩|⟨_,rfl,hs⟩
  ·exact absurd rfl Z
  ·rcases h2 with⟨h2,_⟩|⟨_,_,rfl⟩
   ·exact absurd rfl h2
   ·obtain⟨ha,O⟩:=O0 (Qa h.ms) hm;obtain⟨k1,tbs,k2,k3⟩:=hs.sto h (λf hf=>(by cases hf)) ha (λc r=>GC.2 (.inl ((O c).1 r).1)) (λu hu _ _ c r d hd hk=>h.n1 c ((O c).1 r).1 u hu d hd hk) (λt J _ hl=>by have:=(h.lev J).1;omega);have k0:ts.filter (kp [])=ts:=Bm.2 λt _=>rfl;rw[k0]at k2;have z:=OM hm;refine⟨rfl,rfl,k1,λc r=>?_,?_,λhp=>?_,h3,h4,λM hT=>(hs.flush h hm hT).2.1,λg=>?_⟩
    ·rw[k2]at r;rcases GC.1 r with r|⟨t,J,r⟩
     ·cases r
     ·rcases Ay.1 J with J|J
      ·exact GC.2 (.inr ⟨t,J,r⟩)
      ·exact GC.2 (.inl (z.2 c (by rw[<-k3];exact List.mem_flatMap.2 ⟨t,J,r⟩)))
    ·rw[k2];unfold Fx;rw[AE,Bb,k3,Ab,Ab];have:=z.1;omega
    ·obtain⟨fs',Y,_,rfl⟩:=hs.vs;rw[List.map_nil,Xym]at Y;exact Xye Y hp
    ·rw[k2];unfold Fx;rw[AE,Bb,k3,Kb,Kb];have:=Qz (g:=g) hm;omega
end
def Le (L:Led)(D:Dsk)(V:Vs)(ts:List Tb)(mem:List Cell)(dead did:Bool)(e:Int)(L':Led)(D':Dsk)(V':Vs)(ts':List Tb)(mem':List Cell)(dead':Bool):Prop:=
 (dead=true/\did=false/\e=9/\L'=L/\D'=D/\V'=V/\ts'=ts/\mem'=mem/\dead'=dead)\/
 (dead=false/\IA V.fs=none/\did=false/\e=0/\L'=L/\D'=D/\V'=V/\ts'=ts/\mem'=mem/\dead'=dead)\/
 (dead=false/\(IA V.fs).isSome=true/\∃ok e1 L1 D1 V1 ts1 mem1 dead1,Jy L D V ts mem false ok e1 L1 D1 V1 ts1 mem1 dead1/\
  ((e1≠0/\did=false/\e=e1/\L'=L1/\D'=D1/\V'=V1/\ts'=ts1/\mem'=mem1/\dead'=dead1)\/
   (e1=0/\∃(p:List Fi) (lv:Nat) (m:List Cell) (e2:Int) (D2:Dsk) (dead2:Bool),IA V1.fs=some p/\PickP V1 p ↑lv/\Mg (I5 ts1 p) m/\JZ L1 D1 V1 ts1 false (m.filter (HF V1.fs ↑lv)) ↑lv p e2 L' D2 V' ts' dead2/\mem'=[]/\
    ((e2≠0/\did=false/\e=e2/\D'=D2/\dead'=dead2)\/
     (e2=0/\D'=(D2.rem (p.map λf=>Gb f.id)).2/\(((D2.rem (p.map λf=>Gb f.id)).1≠0/\did=false/\e=(D2.rem (p.map λf=>Gb f.id)).1/\dead'=true)\/((D2.rem (p.map λf=>Gb f.id)).1=0/\did=true/\e=0/\dead'=dead2)))))))
section
variable {out:List Cell}{r:Rw}{seq:Int}{j:Nat}{d:Cell}
theorem T3 (h:out[j]?=some d)(hl:EU d.key r.key=true):(out.drop j).takeWhile (λx=>EU x.key r.key)=d :: (out.drop (j+1)).takeWhile (λx=>EU x.key r.key)/\(out.drop j).dropWhile (λx=>EU x.key r.key)=(out.drop (j+1)).dropWhile (λx=>EU x.key r.key):=by
 rw[HY h,Dj,Di];simp [hl]
theorem Uo (h:out[j]?=some d)(hl:EU d.key r.key=false):(out.drop j).takeWhile (λx=>EU x.key r.key)=[]/\(out.drop j).dropWhile (λx=>EU x.key r.key)=out.drop j:=by
 rw[HY h,Dj,Di];simp [hl]
theorem U6 (h:out.length<=j):(out.drop j).takeWhile (λx=>EU x.key r.key)=[]/\(out.drop j).dropWhile (λx=>EU x.key r.key)=out.drop j:=by
 rw[Cg h];exact⟨rfl,rfl⟩
theorem Sg (h:out[j]?=some d)(e:d.key=r.key):GJ out (r.cell seq)=out:=by
 unfold GJ;rw[if_pos (B6.2 ⟨d,Ak h,by simp [e,Rw.cell]⟩)]
theorem WC (hu:I3 out)(h1:out.takeWhile (λx=>EU x.key r.key)=out.take j)(h2:out.dropWhile (λx=>EU x.key r.key)=out.drop j)(h3:out.length<=j\/∃d,out[j]?=some d/\d.key≠r.key):GJ out (r.cell seq)=out.take j++r.cell seq :: out.drop j:=by
 have hn:¬ (out.any λx=>decide (x.key=(r.cell seq).key))=true:=by
  intro h;obtain⟨x,z,e⟩:=B6.1 h;have e:x.key=r.key:=of_decide_eq_true e;rw[<-AT j out]at z;rcases Ay.1 z with z|z
  ·rw[<-h1]at z;have:=AU.1 (List.all_takeWhile (p:=λx:Cell=>EU x.key r.key) (l:=out)) x z;rw[e,HZ]at this;cases this
  ·rcases h3 with h3|⟨d,hd,h3⟩
   ·rw[Cg h3]at z;cases z
   ·have J:EU d.key r.key=false:=by
     have:=List.head?_dropWhile_not (λx:Cell=>EU x.key r.key) out;rw[h2,HY hd]at this;simpa using this
    rw[HY hd]at z;rcases Aj.1 z with rfl|z
    ·exact h3 e
    ·have O:I3 (out.drop j):=E8 (List.drop_sublist _ _) hu;rw[HY hd]at O;have:=(AO.1 O).1 x z;rw[e,J]at this;cases this
 unfold GJ;rw[if_neg hn];show out.takeWhile (λx=>EU x.key r.key)++_ :: out.dropWhile (λx=>EU x.key r.key)=_;rw[h1,h2]
theorem Xqi {l:List Rw}{k:Nat}(h:l[k]?=some r):F0 (l.drop k) seq=GJ (F0 (l.drop (k+1)) seq) (r.cell seq):=by rw[HY h];rfl
end
theorem X1d (l:List Rw)(v:Value)(seq:Int)(w:World)(hv:EM Rw.cs 3 w v l)(hl:l.length<=100000) :
  Calls Tryz.prog 56 [v,I seq].toArray w (ER w (λu w'=>Vc.Own Cell.cs 4 79 w.heap.size w' u (F0 l seq))):=by
 refine cw Tryz.func56 ?_;have z:=EB.refl w;refine ws λ_ Z1=>wr (da (de Z1 (ws λ_ Z2=>wr (da (de Z2 (ws λ_ Z3=>ws λ_ Z4=>wr (dm ?_)))))));refine dv 48 3 (hv.ext z).sl (EW (v:=I (↑l.length-1-↑(0:Nat))) rfl (Ga rfl rfl (by unfold ET;omega)) (by show I _=I _;congr 1;omega) (da (de Z4 (EN ?_))));refine Fk (G:=Nat×Value) (λ(k,vo)=>[(0,v),(1,I seq),(4,.slice none 0 0),(5,vo),(6,I (↑l.length-1-↑k))]) (λ(k,vo) w'=>EB w w'/\k<=l.length/\Vc.Own Cell.cs 4 79 w.heap.size w' vo (F0 (l.drop (l.length-k)) seq)/\EM Cell.cs 4 w' vo (F0 (l.drop (l.length-k)) seq)) (λ(k,vo)=>l.length-k) (0,.slice none 0 0) ?_ ?_ ?_
 ·exact FA
 ·exact⟨z,Ad _,by rw[Cx,BH (Aa _)];exact Vc.Own.nil,by rw[Cx,BH (Aa _)];exact EM.nil⟩
 intro X1 g1 w1 xx;obtain⟨k,vo⟩:=g1;clear z;obtain⟨z,hk1,O,hA⟩:=xx;refine ws λ_ Z5=>ws λ_ Z6=>wr (dm ?_);refine dp (IB rfl rfl) (de Z6 (wi (λc1=>?_) λc1=>?_))
 ·obtain⟨r,hk⟩:∃r,l[l.length-1-k]?=some r:=Fq;have hr:=Xqi (seq:=seq) hk;rw[show l.length-1-k+1=l.length-k by omega,show l.length-1-k=l.length-(k+1) by omega]at hr;have xn:=MH (l.drop (l.length-k)) seq;have xj:=P0 (l.drop (l.length-k)) seq;rw[List.length_drop]at xn;refine EG (Z5 _ _ (ws λ_ Z7=>EN (ws λ_ Z8=>wr (da (de Z8 ?_)))));refine Hz (G:=Nat) (λj=>[(0,v),(1,I seq),(4,.slice none 0 0),(5,vo),(6,I (↑l.length-1-↑k)),(7,I ↑j)]) (λj w'=>EB w w'/\Vc.Own Cell.cs 4 79 w.heap.size w' vo (F0 (l.drop (l.length-k)) seq)/\EM Cell.cs 4 w' vo (F0 (l.drop (l.length-k)) seq)/\j<=(F0 (l.drop (l.length-k)) seq).length/\(F0 (l.drop (l.length-k)) seq).takeWhile (λx:Cell=>EU x.key r.key)=(F0 (l.drop (l.length-k)) seq).take j/\(F0 (l.drop (l.length-k)) seq).dropWhile (λx:Cell=>EU x.key r.key)=(F0 (l.drop (l.length-k)) seq).drop j) ?_ ?_
  ·refine EN ?_;refine Fk (G:=Nat) (λj=>[(0,v),(1,I seq),(4,.slice none 0 0),(5,vo),(6,I (↑l.length-1-↑k)),(7,I ↑j)]) (λj w'=>EB w w'/\Vc.Own Cell.cs 4 79 w.heap.size w' vo (F0 (l.drop (l.length-k)) seq)/\EM Cell.cs 4 w' vo (F0 (l.drop (l.length-k)) seq)/\j<=(F0 (l.drop (l.length-k)) seq).length/\(F0 (l.drop (l.length-k)) seq).takeWhile (λx:Cell=>EU x.key r.key)=(F0 (l.drop (l.length-k)) seq).take j++((F0 (l.drop (l.length-k)) seq).drop j).takeWhile (λx:Cell=>EU x.key r.key)/\(F0 (l.drop (l.length-k)) seq).dropWhile (λx:Cell=>EU x.key r.key)=((F0 (l.drop (l.length-k)) seq).drop j).dropWhile (λx:Cell=>EU x.key r.key)) (λj=>(F0 (l.drop (l.length-k)) seq).length-j) 0 ?_ ?_ ?_
   ·exact FSq
   ·exact⟨z,O,hA,Ad _,rfl,rfl⟩
   intro X2 g2 w2 xa;revert xa;revert g2;intro j xa;clear z O hA;obtain⟨z,O,hA,hb,ht,hg⟩:=xa;refine ws λ_ Z9=>ws λ_ xi=>F4 (R:=EB) EB.refl (λ_ _ _=>EB.trans) E9 [9,14] [(0,.p,false),(1,.p,false),(2,.p,false),(3,.p,false),(4,.p,false),(5,.p,false),(6,.p,false),(7,.p,false),(8,.p,false),(9,.l,false),(10,.p,false),(11,.p,false),(12,.p,false),(13,.p,false),(14,.l,false),(15,.p,false),(16,.p,false)] rfl E9 E9 (λw3 xg=>?_);have x3:=EJ xg;clear xg;have O:=O.ext x3;have hA:=hA.ext x3;have z:=z.trans x3
   iterate 2 refine dm ?_
   refine dv 79 4 hA.sl (dp (Fa rfl rfl) (dm ?_));refine Fz 20 rfl (λc2=>?_) (λc2=>?_)
   ·obtain⟨d,hd⟩:∃d,(F0 (l.drop (l.length-k)) seq)[j]?=some d:=Fq
    iterate 2 refine dm ?_
    refine di 79 4 hA.sl rfl (hA.lt hd) (df 0 rfl (dL rfl (λ_ hR=>(((hA.ext hR).row hd).at rfl)) (dm ?_)));refine EW (v:=I ↑(l.length-1-k)) rfl (KA rfl) (by show I _=I _;congr 1;omega) (di 48 3 hv.sl rfl (hv.lt hk) (df 0 rfl (dL rfl (λ_ hR=>(((hv.ext (z.trans hR)).row hk).at rfl)) (dp (Nf rfl rfl) (EO (de xi ?_))))));refine wc (λc3=>?_) λc3=>?_
    ·refine EG (Z9 _ _ (EN (wr (dm ?_))));refine pa rfl rfl (da (EF (?_)));refine⟨j+1,FSq,⟨z,O,hA,by omega,?_,?_⟩,by omega⟩
     ·rw[ht,(T3 hd c3).1,Gs hd];simp
     ·rw[hg,(T3 hd c3).2]
    refine Ff ?_;exact⟨j,FSq,z,O,hA,hb,by rw[ht,(Uo hd c3).1,AP],by rw[hg,(Uo hd c3).2]⟩
   iterate 11 refine dk ?_
   refine EO (de xi ?_);refine GB rfl (Ff ?_);exact⟨j,FSq,z,O,hA,hb,by rw[ht,(U6 EA).1,AP],by rw[hg,(U6 EA).2]⟩
  intro X4 g4 w4 xb;revert xb;revert g4;intro j xb;clear z O hA;obtain⟨z,O,hA,hb,ht,hg⟩:=xb;refine ws λ_ xk=>ws λ_ xe=>F4 (R:=EB) EB.refl (λ_ _ _=>EB.trans) E9 [9,14] [(0,.p,false),(1,.p,false),(2,.p,false),(3,.p,false),(4,.p,false),(5,.p,false),(6,.p,false),(7,.p,false),(8,.p,false),(9,.l,false),(10,.p,false),(11,.p,false),(12,.p,false),(13,.p,false),(14,.l,false),(15,.p,false),(16,.p,false)] rfl E9 E9 (λw5 xh=>?_);have x5:=EJ xh;clear xh;have O:=O.ext x5;have hA:=hA.ext x5;have z:=z.trans x5
  iterate 2 refine dm ?_
  refine dv 79 4 hA.sl (dp (Fa rfl rfl) (dm ?_));refine Fz 39 rfl (λc4=>?_) (λc4=>?_)
  ·obtain⟨d,hd⟩:∃d,(F0 (l.drop (l.length-k)) seq)[j]?=some d:=Fq
   iterate 2 refine dm ?_
   refine di 79 4 hA.sl rfl (hA.lt hd) (df 0 rfl (dL rfl (λ_ hR=>(((hA.ext hR).row hd).at rfl)) (dm ?_)));refine EW (v:=I ↑(l.length-1-k)) rfl (KA rfl) (by show I _=I _;congr 1;omega) (di 48 3 hv.sl rfl (hv.lt hk) (df 0 rfl (dL rfl (λ_ hR=>(((hv.ext (z.trans hR)).row hk).at rfl)) (dp (Mh rfl rfl) (EO (de xe ?_))))));refine wi (λc5=>?_) λc5=>?_
   ·refine Ff (Z7 _ _ (wr (dm ?_)));refine EW (v:=I (↑l.length-1-↑(k+1))) rfl (Ga rfl rfl (by unfold ET;omega)) (by show I _=I _;congr 1;omega) (da (EF (?_)));refine⟨(k+1,vo),FA,⟨z,by omega,?_,?_⟩,by simp only [];omega⟩
    ·rw[hr,Sg hd c5];exact O
    ·rw[hr,Sg hd c5];exact hA
   refine EG (xk _ _ (ws λ_ xo=>?_));have hf:=z;have hD:w.heap.size<=w5.heap.size:=z.size;have hh:=hA;have J:=O;have Z:=(hv.ext z);refine F4 (R:=Mod (Hs w5.heap.size)) (Far.refl _) Far.trans E9 [8] [(1,.p,false),(2,.p,false),(3,.p,false),(5,.p,false),(6,.p,false),(7,.p,false),(8,.l,false),(9,.p,false),(0,.x,false),(4,.x,false),(10,.x,true),(11,.x,false),(12,.x,false),(13,.p,false)] rfl E9 E9 (λw6 xf=>?_);have x6:=EJ xf;clear xf;have O:=O.ext x6;have hA:=hA.ext x6;have z:=z.trans x6;have hs:Mod (Hs w5.heap.size) w5 w6:=Far.of_ext x6
   iterate 2 refine dm ?_
   refine dp (H8 (e:=79) (k:=4) E9 hA.sl rfl rfl rfl EA EA) (dm ?_);refine EW (v:=I ↑(l.length-1-k)) rfl (KA rfl) (by show I _=I _;congr 1;omega) (di 48 3 hv.sl rfl (hv.lt hk) (FK rfl (λw' hR=>Fb E9 rfl rfl ((Z.far EK (hs.own hR (λ_ h _=>h))).row hk)) (dm ?_)));refine Me (e:=79) (sz:=4) rfl E9 RX.far (λb1 w7 e1 x7 m1=>?_);have g1:=z.ge e1;have o1_hO:=O.ltb e1;have a1_hA:=EM.base_lt hA EK;have xl:w5.heap.size<=b1:=by have:=hs.size;omega
   have O:=O.ext x7;have hA:=hA.ext x7;have z:=z.trans x7;have hs:=hs.ext x7;have ho:=m1.own (enc:=Cell.cs) (B:=w5.heap.size) (l:=[]) (sz:=4) (m:=0) xl rfl EE rfl (Ap rfl);refine Gv (e:=79) (sz:=4) (by':=48) rfl E9 E9 EE ho ((hA).slice (Ad _) hb) rfl rfl (by intro x _ u hu;simp at hu;rcases hu with rfl|rfl|rfl|rfl<;>rfl) (by simp;omega) EK hs.size (.inr (Far.own ho (Aa _))) (λvp w8 Y x8=>?_);have hs:=hs.own x8 (λi hi _=>by have:=(ho.lt i hi).1;unfold Hs;omega);have O:=O.mod x8 (by intro k9 h9 e9;have h8:=(J.lt k9 h9).2;have h7:=(ho.lt k9 e9).1;omega);have hA:=hA.mod x8 (by intro ha e9;have h8:=(J.lt _ (J.base_block ha)).2;have h7:=(ho.lt _ e9).1;omega);have z:=z.own x8 (λi hi=>(by have h1:=(ho.lt i hi).1;have:=hf.size;omega));have ho:=Y;refine cP (Tn r seq _) RX.all λw9 x9=>?_;have O:=O.ext x9;have hA:=hA.ext x9;have ho:=ho.ext x9;have z:=z.trans x9;have hs:=hs.ext x9;refine li (e:=79) (sz:=4) (zs:=[S [],S [],B false,.int .i64 0]) (pv:=[(0,.agg ⟨[_,_,_,_]⟩)]) (cs:=[_,_,_,_]) RX.far (λb2 w10 e2 hp m2=>?_);have g2:=z.ge e2;have o2_hO:=O.ltb e2;have a2_hA:=EM.base_lt hA EK;have gs2:w5.heap.size<=b2:=by have:=hs.size;omega
   have O:=O.ext hp;have hA:=hA.ext hp;have ho:=ho.ext hp;have z:=z.trans hp;have hs:=hs.ext hp;refine Gv (lx:=[r.cell seq]) (e:=79) (sz:=4) (by':=48) rfl E9 E9 EE ho (m2.arr (enc:=Cell.cs) (sz:=4) (l:=[r.cell seq]) rfl EE rfl (Ap rfl)) rfl rfl (by intro x _ u hu;simp at hu;rcases hu with rfl|rfl|rfl|rfl<;>rfl) (by simp;omega) EK hs.size (.inr (Far.own ho (Aa _))) (λvq w11 Y h5=>?_);have hs:=hs.own h5 (λi hi _=>by have:=(ho.lt i hi).1;unfold Hs;omega);have O:=O.mod h5 (by intro k9 h9 e9;have h8:=(J.lt k9 h9).2;have h7:=(ho.lt k9 e9).1;omega);have hA:=hA.mod h5 (by intro ha e9;have h8:=(J.lt _ (J.base_block ha)).2;have h7:=(ho.lt _ e9).1;omega);have z:=z.own h5 (λi hi=>(by have h1:=(ho.lt i hi).1;have:=hf.size;omega));have ho:=Y;clear m2;refine da ?_;clear hs hf hh J Z;refine de xo (wr (dm (dm (dm ?_))));refine dp (H8 (e:=79) (k:=4) E9 hA.sl rfl rfl rfl EA EA) ?_;have ho:=ho.mono hD;refine Gv (e:=79) (sz:=4) (by':=48) rfl E9 E9 EE ho ((hA).slice hb (Aa _)) rfl rfl (by intro x _ u hu;simp at hu;rcases hu with rfl|rfl|rfl|rfl<;>rfl) (by simp;omega) EK z.size (.inl rfl) (λvr xt Y xq=>?_);have z:=z.own xq (λi hi=>(ho.lt i hi).1);have ho:=Y;refine da (de Z7 (wr (dm ?_)));refine EW (v:=I (↑l.length-1-↑(k+1))) rfl (Ga rfl rfl (by unfold ET;omega)) (by show I _=I _;congr 1;omega) (da (EF (?_)));have xd:F0 (l.drop (l.length-(k+1))) seq=(F0 (l.drop (l.length-k)) seq).take j++[r.cell seq]++(F0 (l.drop (l.length-k)) seq).drop j:=by rw[hr,WC xj ht hg (.inr ⟨d,hd,c5⟩)];simp
   have hc:Vc.Own Cell.cs 4 79 w.heap.size xt vr ((F0 (l.drop (l.length-k)) seq).take j++[r.cell seq]++(F0 (l.drop (l.length-k)) seq).drop j):=by
    have:=ho;simpa using this
   rw[<-xd]at hc;exact⟨(k+1,vr),FA,⟨z,by omega,hc,hc.arr EE⟩,by simp only [];omega⟩
  iterate 11 refine dk ?_
  refine EO (de xe ?_);refine GB rfl (EG (xk _ _ (ws λ_ xm=>?_)));have hf:=z;have hD:w.heap.size<=w5.heap.size:=z.size;have hh:=hA;have J:=O;have Z:=(hv.ext z);refine F4 (R:=Mod (Hs w5.heap.size)) (Far.refl _) Far.trans E9 [8] [(1,.p,false),(2,.p,false),(3,.p,false),(5,.p,false),(6,.p,false),(7,.p,false),(8,.l,false),(9,.p,false),(0,.x,false),(4,.x,false),(10,.x,true),(11,.x,false),(12,.x,false),(13,.p,false)] rfl E9 E9 (λxu h6=>?_);have hy:=EJ h6;clear h6;have O:=O.ext hy;have hA:=hA.ext hy;have z:=z.trans hy;have hs:Mod (Hs w5.heap.size) w5 xu:=Far.of_ext hy
  iterate 2 refine dm ?_
  refine dp (H8 (e:=79) (k:=4) E9 hA.sl rfl rfl rfl EA EA) (dm ?_);refine EW (v:=I ↑(l.length-1-k)) rfl (KA rfl) (by show I _=I _;congr 1;omega) (di 48 3 hv.sl rfl (hv.lt hk) (FK rfl (λw' hR=>Fb E9 rfl rfl ((Z.far EK (hs.own hR (λ_ h _=>h))).row hk)) (dm ?_)));refine Me (e:=79) (sz:=4) rfl E9 RX.far (λb3 w14 e3 hz m3=>?_);have g3:=z.ge e3;have o3_hO:=O.ltb e3;have a3_hA:=EM.base_lt hA EK;have xr:w5.heap.size<=b3:=by have:=hs.size;omega
  have O:=O.ext hz;have hA:=hA.ext hz;have z:=z.trans hz;have hs:=hs.ext hz;have ho:=m3.own (enc:=Cell.cs) (B:=w5.heap.size) (l:=[]) (sz:=4) (m:=0) xr rfl EE rfl (Ap rfl);refine Gv (e:=79) (sz:=4) (by':=48) rfl E9 E9 EE ho ((hA).slice (Ad _) hb) rfl rfl (by intro x _ u hu;simp at hu;rcases hu with rfl|rfl|rfl|rfl<;>rfl) (by simp;omega) EK hs.size (.inr (Far.own ho (Aa _))) (λvp w15 Y hw=>?_);have hs:=hs.own hw (λi hi _=>by have:=(ho.lt i hi).1;unfold Hs;omega);have O:=O.mod hw (by intro k9 h9 e9;have h8:=(J.lt k9 h9).2;have h7:=(ho.lt k9 e9).1;omega);have hA:=hA.mod hw (by intro ha e9;have h8:=(J.lt _ (J.base_block ha)).2;have h7:=(ho.lt _ e9).1;omega);have z:=z.own hw (λi hi=>(by have h1:=(ho.lt i hi).1;have:=hf.size;omega));have ho:=Y;refine cP (Tn r seq _) RX.all λw16 hq=>?_;have O:=O.ext hq;have hA:=hA.ext hq;have ho:=ho.ext hq;have z:=z.trans hq;have hs:=hs.ext hq;refine li (e:=79) (sz:=4) (zs:=[S [],S [],B false,.int .i64 0]) (pv:=[(0,.agg ⟨[_,_,_,_]⟩)]) (cs:=[_,_,_,_]) RX.far (λb4 w17 e4 hj m4=>?_);have g4:=z.ge e4;have o4_hO:=O.ltb e4;have a4_hA:=EM.base_lt hA EK;have gs4:w5.heap.size<=b4:=by have:=hs.size;omega
  have O:=O.ext hj;have hA:=hA.ext hj;have ho:=ho.ext hj;have z:=z.trans hj;have hs:=hs.ext hj;refine Gv (lx:=[r.cell seq]) (e:=79) (sz:=4) (by':=48) rfl E9 E9 EE ho (m4.arr (enc:=Cell.cs) (sz:=4) (l:=[r.cell seq]) rfl EE rfl (Ap rfl)) rfl rfl (by intro x _ u hu;simp at hu;rcases hu with rfl|rfl|rfl|rfl<;>rfl) (by simp;omega) EK hs.size (.inr (Far.own ho (Aa _))) (λvq w18 Y xc=>?_);have O:=O.mod xc (by intro k9 h9 e9;have h8:=(J.lt k9 h9).2;have h7:=(ho.lt k9 e9).1;omega);have hA:=hA.mod xc (by intro ha e9;have h8:=(J.lt _ (J.base_block ha)).2;have h7:=(ho.lt _ e9).1;omega);have z:=z.own xc (λi hi=>(by have h1:=(ho.lt i hi).1;have:=hf.size;omega));have ho:=Y;clear m4;refine da ?_;clear hs hf hh J Z;refine de xm (wr (dm (dm (dm ?_))));refine dp (H8 (e:=79) (k:=4) E9 hA.sl rfl rfl rfl EA EA) ?_;have ho:=ho.mono hD;refine Gv (e:=79) (sz:=4) (by':=48) rfl E9 E9 EE ho ((hA).slice hb (Aa _)) rfl rfl (by intro x _ u hu;simp at hu;rcases hu with rfl|rfl|rfl|rfl<;>rfl) (by simp;omega) EK z.size (.inl rfl) (λvr xp Y xv=>?_);have z:=z.own xv (λi hi=>(ho.lt i hi).1);have ho:=Y;refine da (de Z7 (wr (dm ?_)));refine EW (v:=I (↑l.length-1-↑(k+1))) rfl (Ga rfl rfl (by unfold ET;omega)) (by show I _=I _;congr 1;omega) (da (EF (?_)));have xd:F0 (l.drop (l.length-(k+1))) seq=(F0 (l.drop (l.length-k)) seq).take j++[r.cell seq]++(F0 (l.drop (l.length-k)) seq).drop j:=by rw[hr,WC xj ht hg (.inl EA)];simp
  have hc:Vc.Own Cell.cs 4 79 w.heap.size xp vr ((F0 (l.drop (l.length-k)) seq).take j++[r.cell seq]++(F0 (l.drop (l.length-k)) seq).drop j):=by
   have:=ho;simpa using this
  rw[<-xd]at hc;exact⟨(k+1,vr),FA,⟨z,by omega,hc,hc.arr EE⟩,by simp only [];omega⟩
 refine Ff (Z3 _ _ (ws λ_ xw=>wr (dm (da (de xw (EH ?_))))));refine ro ?_;rw[show k=l.length by omega,Nat.sub_self,List.drop_zero]at O;exact⟨_,rfl,z,O⟩
end Go.Proofs.YtiooodckiddpmaaGreatDoor
namespace Go.Vc
open Go.ChangeShapes Go.WideShapes Go.ChangeAt Go.RowKit
section
variable {H:Type}{enc:TypeId×Value->H}{P:Program}{W W':World}{base:Nat}
def readB (P:Program)(t:TypeId):Bool:=P.readableRec t && decide (t<P.types.size)
theorem US (hl:laidOutB P=true)(z:EB W W'):∀ {ts:List TypeId} {vs:List Value} {ds:List (DataW H)} {ps:List MemPlace},ts.all (readB P)=true->DataW.TrodAll enc P W 0 (λ_=>true) true ts vs ds ps->
  (∀p∈ps,p.block<W.heap.size)->DataW.TrodAll enc P W' 0 (λb=>decide (b<W.heap.size)) true ts vs ds ps
 | [],[],[],_,_,h,_=>h
 | t :: ts,v :: vs,d :: ds,ps,hr,h,hlt=>by
  obtain⟨p,q,h1,h2,rfl⟩:=h;simp only [List.all_cons,Au]at hr;have J:P.readableRec t=true/\t<P.types.size:=by simpa [readB]using hr.1
  exact⟨p,q,Below.trod hl J.1 J.2 h1 z.below (λx z=>hlt x (by simp [z])),US hl z hr.2 h2 (λx z=>hlt x (by simp [z])),rfl⟩
 | [],[],_ :: _,_,_,h,_=>h.elim
 | [],_ :: _,_,_,_,h,_=>h.elim
 | _ :: _,[],_,_,_,h,_=>h.elim
 | _ :: _,_ :: _,[],_,_,h,_=>h.elim
theorem EB.kept (hx:EB W W')(may:MemPlace->Prop):W.keptBut W' may:=hx.below.frame may
theorem Xyp {f:Func}{s:ChangeSpec}{fresh handsOn:Bool}{args:Array Value}{ds gs:List (DataW H)}{before:List MemPlace}{tb:TypeId}(hl:laidOutB P=true)(hts:f.params.toList.all (readB P)=true)
  (hrt:f.resultTypes=#[tb]) (hb:P.underlying tb=some .bool) (hv:s.vars=[]) (hs:s.fn H ds={ results:=[.lit (.bool true)],args:=ds })
  (hW:DataW.Whole enc P f.params.toList s.vars false W args.toList ds gs before) (J:EB W W'):s.post enc P f false fresh handsOn false W args (.bool true) W':=by
 have z:=hW;obtain⟨p,q,hA,Y,rfl,hfz,hnd⟩:=hW;rw[hv]at Y;obtain⟨rfl,rfl⟩:=trodVars_none Y;have O:∀x∈p,x.block<W.heap.size:=λx J=>by have:=z.lt x (by simp [J]);simpa using this
 have e:s.fn H (ds++[])={ results:=[.lit (.bool true)],args:=ds }:=by rw[AP,hs]
 refine⟨ds,[],p++[],[],p,[],z,?_,?_,?_,J.kept _,λh=>by cases h⟩
 ·rw[e,hrt];exact trodAll_mk1 (shut_bool hb true)
 ·rw[e];exact US hl J hts hA O
 ·rw[e,hv];rfl
theorem Xyq {r:Reach}{b0:Nat}{t:TypeId}{k:IntKind}{v:Value}{d:DataW H}{ps:List MemPlace}{sp:Nat->Bool}{hd:Bool}(ht:P.underlying t=some (.int k))(hval:Value.okWide P W r b0 t v)(h:DataW.Trod enc P W base sp hd t v d ps) :
  ∃n:Int,v=.int k n/\(Lit.int k n).wf=true:=by
 obtain⟨n,h1,_,_,h2⟩:=open_int ht hval h;exact⟨n,h1,h2⟩
theorem Xyr {n:Int}(h:(Lit.int .i64 n).wf=true):ET n:=by
 have:IntKind.i64.min<=n/\n<=IntKind.i64.max:=by simpa [Lit.wf]using h
 simpa [ET,IntKind.min,IntKind.max,IntKind.signed,IntKind.bits]using this
inductive Kd where
 | s
 | b
 | i (k:IntKind)
def kdOf (P:Program)(t:TypeId):Option Kd:=match P.underlying t with
 | some .string=>some .s
 | some .bool=>some .b
 | some (.int k)=>some (.i k)
 | _=>none
def Vw (P:Program):List Field->Nat->Option (List Kd)
 | [],_=>some []
 | f :: r,o=>if f.offset == o && P.cellsOf f.type == 1 then(match kdOf P f.type,Vw P r (o+1)with
  | some k,some ks=>some (k :: ks)
  | _,_=>none)else none
def Yb9 (P:Program)(t:TypeId):Option (List Kd):=match P.underlying t with
 | some (.struct fs)=>Vw P fs.toList 0
 | _=>none
def QE : List Kd->List Value->Prop
 | [],[]=>True
 | .s :: r,v :: c=>(∃x:EC,v=S x/\x.length<=maxLen)/\QE r c
 | .b :: r,v :: c=>(∃x:Bool,v=.bool x)/\QE r c
 | .i k :: r,v :: c=>(∃x:Int,v=.int k x/\(Lit.int k x).wf=true)/\QE r c
 | _,_=>False
end
variable {H:Type}{enc:TypeId×Value->H}
theorem Xh7 {a:Assume}{C:Checked}{os:Os}{f:FuncId}{fn:Func}{s:ChangeSpec}{conds:List PathCond}{apart fresh handsOn again:Bool}{X:World->Array Value->Prop}
  (hX:∀(w w':World) (args:Array Value),w.heap=w'.heap->X w args->X w' args)
  (own:ownKnob C.prog.godebug=none) (started:os.Started) (noInit:C.prog.inits.idxOf? f=none) (hfn:C.prog.funcs[f]?=some fn)
  (witness:∃(w:World) (tape:Tape) (i:Input),w.os=os/\(w.forCall tape i).Shaped C.prog/\i.vars=[]/\Input.okWide C.prog (w.forCall tape i) .any w.heap.size f i/\
   ((s.pre enc C.prog fn conds apart (w.forCall tape i).memory i.args/\X (w.forCall tape i).memory i.args)/\sizedMet enc C.prog fn (OpenSpec.ofChange s) apart (w.forCall tape i).memory i.args)/\a.holds C.prog (lone (Frame.enter C.prog f i.args .normal) [] (w.forCall tape i)))
  (contract:∀(W:World) (base:Nat) (args:Array Value) (ds Z:List (DataW H)) (z:List MemPlace),
   (∀(j:Nat) t v,fn.params[j]?=some t->args[j]?=some v->Value.okWide C.prog W .any base t v)->
   DataW.Whole enc C.prog fn.params.toList s.vars apart W args.toList ds Z z->
   (DataW.weightsEach C.prog (fn.params.toList++s.plain.varTypes C.prog) (ds++Z)).all (·<=reachBytes)=true->X W args->W.ShapedOpen C.prog->
   Calls C.prog f args W λe W'=>∃v,e=.returned v/\s.post enc C.prog fn apart fresh handsOn again W args v W') :
  ReturnsInHanded a C os f .any (λw args=>(s.pre enc C.prog fn conds apart w args/\X w args)/\sizedMet enc C.prog fn (OpenSpec.ofChange s) apart w args) (s.post enc C.prog fn apart fresh handsOn again):=by
 refine returnsInHanded_of_calls own started noInit witness ?_;intro w tape i _ hb _ hf O _;obtain⟨_,_,_,hc,J,_,_,_,_,Y⟩:=hf;have e:hc=fn:=A3.inj (J.symm.trans hfn);subst e;obtain⟨⟨⟨ds,Z,z,hw,_⟩,hx⟩,hz⟩:=O;have ha:=DataW.Whole.of_heap (w':=w.forCall tape i) (by rfl) hw;refine(contract (w.forCall tape i) w.heap.size i.args ds Z z Y ha (hz.weights hw) (hX _ _ _ (by rfl) hx) hb).mono λe W' ⟨v,he,hp⟩=>?_;subst he;exact ChangeSpec.post_blind hp
section
variable {H:Type}{enc:TypeId×Value->H}{P:Program}{W W':World}{base:Nat}
theorem Xoo {α:Type}{Q:DataW H->α->Prop}{cenc:α->List Value}{good:α->Prop}{r:Reach}{b0:Nat}{t e sz:Nat}{v:Value}{d:DataW H}{ps:List MemPlace}{sp:Nat->Bool}{hd:Bool}(ht:P.underlying t=some (.slice e))(hc:P.cellsOf e=sz)
  (hdec:∀(n:Nat) (cs:List Value) (y:DataW H×List MemPlace),DataW.trod enc P W base sp hd n e cs=some y->cs.length=sz->∃x,cs=cenc x/\good x/\Q y.1 x)
  (hval:Value.okWide P W r b0 t v) (h:DataW.Trod enc P W base sp hd t v d ps):∃l:List α,EM cenc sz W v l/\(∀x∈l,good x)/\l.length<=maxLen/\(l.length=0\/∃el sp',d=.slice el sp'/\el.length=l.length/\∀(i:Nat) (x:α),l[i]?=some x->∃y,el[i]?=some y/\Q y x):=by
 obtain⟨oa,len,cap,rfl⟩:=okWide_slice ht hval;obtain⟨fuel,h⟩:=h;rcases Deep.open_slice ht h with⟨h1,_⟩|⟨a,len',cap',m,n,D,Pl,h1,_,hlc,hcm,hm,hdx,hel⟩
 ·have J:[Value.slice oa len cap]=[.slice none 0 0]:=by simpa [Value.cells]using h1
  simp only [BV.injEq,and_true]at J;rw[J];exact⟨[],EM.nil,λx hx=>(by cases hx),Ad _,.inl rfl⟩
 ·have J:[Value.slice oa len cap]=[.slice (some a) len' cap']:=by simpa [Value.cells]using h1
  simp only [BV.injEq,Value.slice.injEq,and_true]at J;obtain⟨rfl,rfl,rfl⟩:=J;have Z:a.spot=none:=by
   simp only [Value.okWide,ht,Cell.okWide,Cell.ok]at hval;exact hval.2.2.2.1
  obtain⟨b,o,spot⟩:=a;simp only at Z;subst Z;have hlm:len<=m:=by rw[hm];split<;>omega
  obtain⟨X,hX⟩:=Deep.choose_lt (α:=Option α) (n:=len) (p:=λi ox=>∃x,ox=some x/\W.cells? base ((⟨b,o,none⟩:Addr).add (i*P.cellsOf e)) (P.cellsOf e)=some (cenc x)/\good x/\Q (D i) x) (λi hi=>by
   obtain⟨hr,h2,h3⟩:=hel i EA;obtain⟨_,Y,_⟩:=World.cells?_some h2;obtain⟨x,rfl,hg⟩:=hdec n hr _ h3 (by rw[Y,hc]);exact⟨some x,x,rfl,h2,hg⟩)
  have hx:∀i,i<len->∃x,X i=some x/\W.cells? base ((⟨b,o,none⟩:Addr).add (i*P.cellsOf e)) (P.cellsOf e)=some (cenc x)/\good x/\Q (D i) x:=hX;have hf:∀k,k<=len->∃l:List α,l.length=k/\∀i,i<k->∃x,l[i]?=some x/\X i=some x:=by
   intro k
   induction k with
   | zero=>intro _;exact⟨[],rfl,λi hi=>absurd hi (B3 _)⟩
   | succ k ih=>
    intro hk;obtain⟨l,hl,O⟩:=ih EA;obtain⟨x,hb,_⟩:=hx k EA;refine⟨l++[x],by simp [hl],λi hi=>?_⟩
    by_cases hik:i<k
    ·obtain⟨y,h2,h3⟩:=O i hik;exact⟨y,by rw[Bw EA];exact h2,h3⟩
    ·have:i=k:=by omega
     subst this;exact⟨x,by rw[<-hl];simp,hb⟩
  obtain⟨l,hl,O⟩:=hf len (Aa _);refine⟨l,⟨.inr (.inl ⟨b,o,cap,by rw[An,hl],by rw[An,hl];exact hlc⟩),λi cs hi=>?_⟩,λx hp=>?_,by omega,.inr ⟨_,_,(Prod.mk.inj hdx).1,by simp [hl],λi x hi=>?_⟩⟩
  ·rw[AH]at hi;obtain⟨x,hb,rfl⟩:=Bd.1 hi;have hh:=(Ao.1 hb).1;obtain⟨y,h2,h3⟩:=O i EA;obtain⟨z,h4,h5,_⟩:=hx i EA;rw[h2]at hb;rw[h3]at h4
   cases hb;cases h4
   obtain⟨_,Y,hq⟩:=World.cells?_some h5;refine⟨by rw[Y,hc],λj u hj=>?_⟩;have hjl:=(Ao.1 hj).1;have:=hq j EA;rw[hj,Deep.add_add]at this;have ha:(⟨b,o,none⟩:Addr).add (i*P.cellsOf e+j)=⟨b,o+i*sz+j,none⟩:=by
    unfold Addr.add;split
    ·rename_i e0;have h0:i*sz=0/\j=0:=by rw[hc]at e0;omega
     rw[h0.1,h0.2];rfl
    ·rw[hc];simp [BW]
   rw[ha]at this;exact this
  ·obtain⟨i,hi⟩:=BZ.1 hp;have hh:=(Ao.1 hi).1;obtain⟨y,h2,h3⟩:=O i EA;obtain⟨z,h4,_,h5⟩:=hx i EA;rw[h2]at hi;rw[h3]at h4
   cases hi;cases h4
   exact h5.1
  ·have hh:=(Ao.1 hi).1;obtain⟨y,h2,h3⟩:=O i EA;obtain⟨z,h4,_,_,h5⟩:=hx i EA;rw[h2]at hi;rw[h3]at h4
   cases hi;cases h4
   exact⟨D i,by rw[AH,DO EA];rfl,h5⟩
theorem Xn {e:TypeId} : ∀ {l:List (DataW H)} {d:DataW H},d∈l->∀n∈d.weights P e,n∈DataW.weightsAll P e l
 | [],_,h,_,_=>by cases h
 | a :: l,d,h,n,hn=>by
  rw[DataW.weightsAll,Ay];rcases Aj.1 h with rfl|h
  ·exact .inl hn
  ·exact .inr (Xn h n hn)
end
end Go.Vc
namespace Go.Proofs.YtiooodckiddpmaaGreatDoor
open Go.Vc Go.Sp Go.ChangeShapes Go.WideShapes Go.ChangeAt Go.RowKit
open Go.Deep (oneCellFields hone_of)
structure Ac where
 k:Int
 n:Int
 key:EC
 to:EC
 l:List Rw
 v:Value
@[reducible] def Ac.cs (a:Ac):List Value:=[I a.k,I a.n,S a.key,S a.to,a.v]
structure AcOk (W:World)(a:Ac):Prop where
 v:EM Rw.cs 3 W a.v a.l
 hk:ET a.k
 hn:ET a.n
 key:a.key.length<=140737488355328
 to:a.to.length<=140737488355328
 len:a.l.length<=140737488355328
 row:∀r∈a.l,r.key.length<=140737488355328/\r.val.length<=140737488355328
theorem AcOk.ext {W W':World}{a:Ac}(h:AcOk W a)(x:EB W W'):AcOk W' a:=⟨h.v.ext x,h.hk,h.hn,h.key,h.to,h.len,h.row⟩
section
variable {H:Type}{enc:TypeId×Value->H}{P:Program}{W:World}{base:Nat}
theorem Xys {a:Addr}{v:Value}(h:W.cell? a=some v):a.spot=none:=by
 unfold World.cell? at h;split at h
 ·split at h
  ·cases h
  ·rename_i hs;simpa using hs
 ·cases h
theorem Xop {α:Type}{Q:DataW H->α->Prop}{cenc:α->List Value}{t e sz:Nat}{v:Value}{y:DataW H×List MemPlace}{sp:Nat->Bool}{hd:Bool}{n0:Nat}(ht:P.underlying t=some (.slice e))(hc:P.cellsOf e=sz)(hsz:0<sz)
  (hdec:∀(n:Nat) (cs:List Value) (y:DataW H×List MemPlace),DataW.trod enc P W base sp hd n e cs=some y->cs.length=sz->∃x,cs=cenc x/\Q y.1 x)
  (h:DataW.trod enc P W base sp hd n0 t [v]=some y):∃l:List α,EM cenc sz W v l/\(l=[]\/∃el sp',y.1=.slice el sp'/\el.length=l.length/\∀(i:Nat) (x:α),l[i]?=some x->∃d,el[i]?=some d/\Q d x):=by
 rcases Deep.open_slice ht h with⟨h1,_⟩|⟨a,len,cap,m,n,D,Pl,h1,_,hlc,hcm,hm,hdx,hel⟩
 ·simp only [BV.injEq,and_true]at h1;rw[h1];exact⟨[],EM.nil,.inl rfl⟩
 ·simp only [BV.injEq,and_true]at h1;subst h1;have hlm:len<=m:=by rw[hm];split<;>omega
  by_cases hl0:len=0
  ·subst hl0;exact⟨[],⟨.inr (.inr ⟨rfl,_,_,rfl⟩),λi cs hi=>by simp at hi⟩,.inl rfl⟩
  have O:a.spot=none:=by
   obtain⟨Z,h2,h3⟩:=hel 0 EA;obtain⟨_,J,hf⟩:=World.cells?_some h2;have h4:=hf 0 EA;have h5:Z[0]?=some Z[0]:=Av EA;rw[h5]at h4;have h6:(a.add (0*P.cellsOf e)).add 0=a:=by simp [Addr.add]
   rw[h6]at h4;exact Xys h4
  obtain⟨b,o,spot⟩:=a;simp only at O;subst O;obtain⟨X,hX⟩:=Deep.choose_lt (α:=Option α) (n:=len) (p:=λi ox=>∃x,ox=some x/\W.cells? base ((⟨b,o,none⟩:Addr).add (i*P.cellsOf e)) (P.cellsOf e)=some (cenc x)/\Q (D i) x) (λi hi=>by
   obtain⟨Z,h2,h3⟩:=hel i EA;obtain⟨_,J,_⟩:=World.cells?_some h2;obtain⟨x,rfl,hg⟩:=hdec n Z _ h3 (by rw[J,hc]);exact⟨some x,x,rfl,h2,hg⟩)
  have hx:∀i,i<len->∃x,X i=some x/\W.cells? base ((⟨b,o,none⟩:Addr).add (i*P.cellsOf e)) (P.cellsOf e)=some (cenc x)/\Q (D i) x:=hX;have hh:∀k,k<=len->∃l:List α,l.length=k/\∀i,i<k->∃x,l[i]?=some x/\X i=some x:=by
   intro k
   induction k with
   | zero=>intro _;exact⟨[],rfl,λi hi=>absurd hi (B3 _)⟩
   | succ k ih=>
    intro hk;obtain⟨l,hl,hb⟩:=ih EA;obtain⟨x,Y,_⟩:=hx k EA;refine⟨l++[x],by simp [hl],λi hi=>?_⟩
    by_cases hik:i<k
    ·obtain⟨y,h2,h3⟩:=hb i hik;exact⟨y,by rw[Bw EA];exact h2,h3⟩
    ·have:i=k:=by omega
     subst this;exact⟨x,by rw[<-hl];simp,Y⟩
  obtain⟨l,hl,hb⟩:=hh len (Aa _);refine⟨l,⟨.inr (.inl ⟨b,o,cap,by rw[An,hl],by rw[An,hl];exact hlc⟩),λi cs hi=>?_⟩,.inr ⟨_,_,congrArg Prod.fst hdx,by simp [hl],λi x hi=>?_⟩⟩
  ·rw[AH]at hi;obtain⟨x,Y,rfl⟩:=Bd.1 hi;have hp:=(Ao.1 Y).1;obtain⟨y,h2,h3⟩:=hb i EA;obtain⟨z,h4,h5,_⟩:=hx i EA;rw[h2]at Y;rw[h3]at h4
   cases Y;cases h4
   obtain⟨_,J,hf⟩:=World.cells?_some h5;refine⟨by rw[J,hc],λj u hj=>?_⟩;have hjl:=(Ao.1 hj).1;have:=hf j EA;rw[hj,Deep.add_add]at this;have ha:(⟨b,o,none⟩:Addr).add (i*P.cellsOf e+j)=⟨b,o+i*sz+j,none⟩:=by
    unfold Addr.add;split
    ·rename_i e0;have h0:i*sz=0/\j=0:=by rw[hc]at e0;omega
     rw[h0.1,h0.2];rfl
    ·rw[hc];simp [BW]
   rw[ha]at this;exact this
  ·have hp:=(Ao.1 hi).1;obtain⟨y,h2,h3⟩:=hb i EA;obtain⟨z,h4,_,h5⟩:=hx i EA;rw[h2]at hi;rw[h3]at h4
   cases hi;cases h4
   exact⟨D i,by rw[AH,DO EA];rfl,h5⟩
theorem Xoq {t:TypeId}{f0 f1 f2 f3 f4:Field}{fuel:Nat}{sp:Nat->Bool}{hd:Bool}{cs:List Value}{x:DataW H×List MemPlace}(ht:P.underlying t=some (.struct #[f0,f1,f2,f3,f4]))(h:DataW.trod enc P W base sp hd fuel t cs=some x) :
  ∃y0 y1 y2 y3 y4 n,x.1=.agg [y0.1,y1.1,y2.1,y3.1,y4.1]/\cs.length=P.cellsOf t/\DataW.trod enc P W base sp hd n f0.type ((cs.drop f0.offset).take (P.cellsOf f0.type))=some y0/\
   DataW.trod enc P W base sp hd n f1.type ((cs.drop f1.offset).take (P.cellsOf f1.type))=some y1/\DataW.trod enc P W base sp hd n f2.type ((cs.drop f2.offset).take (P.cellsOf f2.type))=some y2/\
   DataW.trod enc P W base sp hd n f3.type ((cs.drop f3.offset).take (P.cellsOf f3.type))=some y3/\DataW.trod enc P W base sp hd n f4.type ((cs.drop f4.offset).take (P.cellsOf f4.type))=some y4:=by
 obtain⟨xs,n,_,rfl,O,J,z⟩:=DataW.trod_struct ht h
 match xs,J with
 | [y0,y1,y2,y3,y4],_=>exact⟨y0,y1,y2,y3,y4,n,by simp,O,by simpa using z 0 f0 rfl,by simpa using z 1 f1 rfl,by simpa using z 2 f2 rfl,by simpa using z 3 f3 rfl,by simpa using z 4 f4 rfl⟩
theorem Xor {t:TypeId}{f0 f1 f2:Field}{fuel:Nat}{sp:Nat->Bool}{hd:Bool}{cs:List Value}{x:DataW H×List MemPlace}(ht:P.underlying t=some (.struct #[f0,f1,f2]))(h:DataW.trod enc P W base sp hd fuel t cs=some x) :
  ∃y0 y1 y2 n,x.1=.agg [y0.1,y1.1,y2.1]/\cs.length=P.cellsOf t/\DataW.trod enc P W base sp hd n f0.type ((cs.drop f0.offset).take (P.cellsOf f0.type))=some y0/\
   DataW.trod enc P W base sp hd n f1.type ((cs.drop f1.offset).take (P.cellsOf f1.type))=some y1/\DataW.trod enc P W base sp hd n f2.type ((cs.drop f2.offset).take (P.cellsOf f2.type))=some y2:=by
 obtain⟨xs,n,_,rfl,O,z,J⟩:=DataW.trod_struct ht h
 match xs,z with
 | [y0,y1,y2],_=>exact⟨y0,y1,y2,n,by simp,O,by simpa using J 0 f0 rfl,by simpa using J 1 f1 rfl,by simpa using J 2 f2 rfl⟩
theorem XK {t e:TypeId}{el sp':List (DataW H)}(ht:P.underlying t=some (.slice e))(hb:1<=P.bytesOf e)(h:∀x∈DataW.weights P t (.slice el sp'),x<=reachBytes):el.length<=reachBytes/\∀d∈el,∀x∈DataW.weights P e d,x<=reachBytes:=by
 rw[DataW.weights,ht]at h;simp only [Aj,Ay]at h;have h1:=h _ (.inl rfl);have h2:el.length*1<=(el.length+sp'.length)*P.bytesOf e:=Nat.mul_le_mul EA hb;exact⟨by omega,λd hd x z=>h x (.inr (.inl (Xn hd x z)))⟩
theorem Yb1 {e:TypeId}{f0 f1 f2:Field}{sp:Nat->Bool}{hd:Bool}(he:P.underlying e=some (.struct #[f0,f1,f2]))(hone:oneCellFields P #[f0,f1,f2]=true)(h0:P.underlying f0.type=some .string)(h1:P.underlying f1.type=some .string)(h2:P.underlying f2.type=some .bool) :
  ∀(n:Nat) (cs:List Value) (y:DataW H×List MemPlace),DataW.trod enc P W base sp hd n e cs=some y->cs.length=3->∃x:Rw,cs=x.cs/\((∀z∈y.1.weights P e,z<=reachBytes)->x.key.length<=140737488355328/\x.val.length<=140737488355328):=λn cs y h hl=>by
 obtain⟨y0,y1,y2,m,hy,_,t0,t1,t2⟩:=Xor he h;obtain⟨o0,k0⟩:=hone_of hone 0 f0 rfl;obtain⟨o1,k1⟩:=hone_of hone 1 f1 rfl;obtain⟨o2,k2⟩:=hone_of hone 2 f2 rfl
 match cs,hl with
 | [c0,c1,c2],_=>
  rw[o0,k0]at t0;rw[o1,k1]at t1;rw[o2,k2]at t2;simp only [Ai,Af]at t0 t1 t2;obtain⟨O,e0,Y,_⟩:=DataW.trod_string h0 t0;obtain⟨s1,e1,Z,_⟩:=DataW.trod_string h1 t1;obtain⟨b,e2,_⟩:=DataW.trod_bool h2 t2;simp only [BV.injEq,and_true]at e0 e1 e2;subst e0;subst e1;subst e2;have hrb:reachBytes=140737488351232:=rfl;refine⟨⟨O.data.toList,s1.data.toList,b⟩,rfl,λhw=>?_⟩;have J:∀(j:Nat) (u:TypeId) (d:DataW H),[f0.type,f1.type,f2.type][j]?=some u->[y0.1,y1.1,y2.1][j]?=some d->∀x∈d.weights P u,x<=reachBytes:=λj u d hj ha x hx=>by
   refine hw x ?_;rw[hy,DataW.weights,he];exact DataW.weights_mem_each hj ha x hx
  have b0:=J 0 _ _ rfl rfl O.data.toList.length (by rw[Y,DataW.weights];simp);have b1:=J 1 _ _ rfl rfl s1.data.toList.length (by rw[Z,DataW.weights];simp);exact⟨by show O.data.toList.length<=_;omega,by show s1.data.toList.length<=_;omega⟩
section
variable {e u:TypeId}{f0 f1 f2 f3 f4 g0 g1 g2:Field}{sp:Nat->Bool}{hd:Bool}(he:P.underlying e=some (.struct #[f0,f1,f2,f3,f4]))(hone:oneCellFields P #[f0,f1,f2,f3,f4]=true)(h0:P.underlying f0.type=some (.int .i64))(h1:P.underlying f1.type=some (.int .i64))(h2:P.underlying f2.type=some .string)(h3:P.underlying f3.type=some .string)
 (h4:P.underlying f4.type=some (.slice u)) (hu:P.underlying u=some (.struct #[g0,g1,g2])) (hone2:oneCellFields P #[g0,g1,g2]=true) (hcu:P.cellsOf u=3) (hbu:1<=P.bytesOf u) (k0:P.underlying g0.type=some .string) (k1:P.underlying g1.type=some .string) (k2:P.underlying g2.type=some .bool)
include he hone h0 h1 h2 h3 h4 hu hone2 hcu hbu k0 k1 k2
theorem Yb2 : ∀(n:Nat) (cs:List Value) (y:DataW H×List MemPlace),DataW.trod enc P W base sp hd n e cs=some y->cs.length=5->∃x:Ac,cs=x.cs/\((∀z∈y.1.weights P e,z<=reachBytes)->AcOk W x):=λn cs y h hl=>by
 obtain⟨y0,y1,y2,y3,y4,m,hy,_,t0,t1,t2,O,t4⟩:=Xoq he h;obtain⟨o0,q0⟩:=hone_of hone 0 f0 rfl;obtain⟨o1,q1⟩:=hone_of hone 1 f1 rfl;obtain⟨o2,q2⟩:=hone_of hone 2 f2 rfl;obtain⟨o3,q3⟩:=hone_of hone 3 f3 rfl;obtain⟨o4,q4⟩:=hone_of hone 4 f4 rfl
 match cs,hl with
 | [c0,c1,c2,c3,c4],_=>
  rw[o0,q0]at t0;rw[o1,q1]at t1;rw[o2,q2]at t2;rw[o3,q3]at O;rw[o4,q4]at t4;simp only [Ai,Af]at t0 t1 t2 O t4;obtain⟨a,e0,_,w0⟩:=DataW.trod_int h0 t0;obtain⟨b,e1,_,w1⟩:=DataW.trod_int h1 t1;obtain⟨s2,e2,Y,_⟩:=DataW.trod_string h2 t2;obtain⟨s3,e3,hf,_⟩:=DataW.trod_string h3 O;simp only [BV.injEq,and_true]at e0 e1 e2 e3;subst e0;subst e1;subst e2;subst e3;have hrb:reachBytes=140737488351232:=rfl;obtain⟨l,hl,hb⟩:=Xop (Q:=λd (x:Rw)=>(∀z∈d.weights P u,z<=reachBytes)->x.key.length<=140737488355328/\x.val.length<=140737488355328) (cenc:=Rw.cs) h4 hcu EK (Yb1 hu hone2 k0 k1 k2) t4;refine⟨⟨a,b,s2.data.toList,s3.data.toList,l,c4⟩,rfl,λhw=>?_⟩;have J:∀(j:Nat) (u:TypeId) (d:DataW H),[f0.type,f1.type,f2.type,f3.type,f4.type][j]?=some u->[y0.1,y1.1,y2.1,y3.1,y4.1][j]?=some d->∀x∈d.weights P u,x<=reachBytes:=λj u d hj Z x hx=>by
   refine hw x ?_;rw[hy,DataW.weights,he];exact DataW.weights_mem_each hj Z x hx
  have b2:=J 2 _ _ rfl rfl s2.data.toList.length (by rw[Y,DataW.weights];simp);have b3:=J 3 _ _ rfl rfl s3.data.toList.length (by rw[hf,DataW.weights];simp);have b4:l.length<=140737488355328/\∀r∈l,r.key.length<=140737488355328/\r.val.length<=140737488355328:=by
   rcases hb with rfl|⟨el,sp',e4,hel,hq⟩
   ·exact⟨by simp,λp hp=>by cases hp⟩
   ·obtain⟨z1,z2⟩:=XK h4 hbu (λx hx=>J 4 _ _ rfl rfl x (by rw[e4];exact hx));refine⟨by omega,λr hr=>?_⟩;obtain⟨i,hi⟩:=BZ.1 hr;obtain⟨d,ha,hc⟩:=hq i r hi;exact hc (z2 d (Ak ha))
  exact⟨hl,Xyr w0,Xyr w1,by show s2.data.toList.length<=_;omega,by show s3.data.toList.length<=_;omega,b4.1,b4.2⟩
theorem Xtw {r:Reach}{b0:Nat}{t:TypeId}{v:Value}{d:DataW H}{ps:List MemPlace}{ts:List TypeId}{ds:List (DataW H)}{j:Nat}(ht:P.underlying t=some (.slice e))(hce:P.cellsOf e=5)(hbe:1<=P.bytesOf e)
  (hval:Value.okWide P W r b0 t v) (h:DataW.Trod enc P W base sp hd t v d ps) (hz:(DataW.weightsEach P ts ds).all (·<=reachBytes)=true) (hj:ts[j]?=some t) (hdj:ds[j]?=some d) :
  ∃l:List Ac,EM Ac.cs 5 W v l/\l.length<=140737488355328/\∀a∈l,AcOk W a:=by
 obtain⟨l,hl,_,_,Z⟩:=Xoo (Q:=λ(d:DataW H) (x:Ac)=>(∀z∈d.weights P e,z<=reachBytes)->AcOk W x) (good:=λ_=>True) (cenc:=Ac.cs) ht hce (λn cs y h9 hc=>by
  obtain⟨x,q1,q2⟩:=Yb2 he hone h0 h1 h2 h3 h4 hu hone2 hcu hbu k0 k1 k2 n cs y h9 hc;exact⟨x,q1,trivial,q2⟩) hval h
 have hw:∀x∈d.weights P t,x<=reachBytes:=λx O=>by have:=AU.1 hz _ (DataW.weights_mem_each hj hdj x O);simpa using this
 have hrb:reachBytes=140737488351232:=rfl;refine⟨l,hl,?_⟩;rcases Z with Z|⟨el,sp',e4,hel,hq⟩
 ·have:=List.eq_nil_of_length_eq_zero Z;subst this;exact⟨by simp,λp hp=>by cases hp⟩
 ·obtain⟨z1,z2⟩:=XK ht hbe (λx O=>hw x (by rw[show d=_ from e4];exact O));refine⟨by omega,λa ha=>?_⟩;obtain⟨i,hi⟩:=BZ.1 ha;obtain⟨d',J,Y⟩:=hq i a hi;exact Y (z2 d' (Ak J))
end
end
end Go.Proofs.YtiooodckiddpmaaGreatDoor
namespace Go.Proofs.YtiooodckiddpmaaGreatDoor
open Go.Vc Go.Sp
attribute [local irreducible] W XW Dw Gm
theorem Wp (c d:Rw):Kt c.cs d.cs=decide (c=d):=by
 obtain⟨k,v,b⟩:=c;obtain⟨J,v',z⟩:=d;simp [Kt,Rw.cs]
 by_cases h:k=J<;>by_cases h2:v=v'<;>by_cases h3:b=z<;>simp [h,h2,h3]
def Hd (r:Rw):Nat:=1+r.key.length+r.val.length
def Hv (a:Ac):Nat:=a.key.length+a.to.length+(a.l.map Hd).sum
def KE (l:List Ac):Nat:=((l.take 60).map Hv).sum
theorem Pe {α:Type}(f:α->Nat){l:List α}{k:Nat}{x:α}(h:l[k]?=some x):((l.take (k+1)).map f).sum=((l.take k).map f).sum+f x:=by
 rw[Gs h,AC,Ch];simp
theorem NU {α:Type}(f:α->Nat)(l:List α){i j:Nat}(h:i<=j):((l.take i).map f).sum<=((l.take j).map f).sum:=by
 have e:l.take i=(l.take j).take i:=by rw[List.take_take,Nat.min_eq_left h]
 have:=congrArg (λm=>(m.map f).sum) (AT i (l.take j));simp only [AC,Ch]at this;rw[e];omega
theorem Vi {l:List Ac}{i k:Nat}{a:Ac}(hi:i<60)(ha:l[i]?=some a)(hk:k<=a.l.length):((l.take i).map Hv).sum+a.key.length+a.to.length+((a.l.take k).map Hd).sum<=KE l:=by
 have h1:=NU Hv l (show i+1<=60 by omega);rw[Pe Hv ha]at h1;have h2:=NU Hd a.l hk;rw[AK]at h2;unfold KE;have h3:Hv a=a.key.length+a.to.length+(a.l.map Hd).sum:=rfl;omega
def KL (M:List Rw):Prop:=M.Pairwise λa b=>EU a.key b.key=true
section
variable {M:List Rw}{c:Cell}{j:Nat}{d:Rw}
theorem Ml (hM:KL M)(hj:j<=M.length)(h1:∀i d,i<j->M[i]?=some d->EU d.key c.key=true)(h2:j=M.length\/∃d,M[j]?=some d/\EU d.key c.key=false) :
  M.filter (λr=>EU r.key c.key)=M.take j/\((∀d,M[j]?=some d->d.key≠c.key)->M.filter (λr=>EU c.key r.key)=M.drop j)/\(∀d,M[j]?=some d->d.key=c.key->M.filter (λr=>EU c.key r.key)=M.drop (j+1)):=by
 have hp:=List.pairwise_iff_getElem.1 hM;have hA:∀r∈M.take j,EU r.key c.key=true:=λr J=>by
  obtain⟨i,hi⟩:=AJ J;rw[AV]at hi;split at hi
  ·rename_i h;exact h1 i r h hi
  ·cases hi
 have hB:∀r∈M.drop j,EU r.key c.key=false:=λr J=>by
  obtain⟨i,hi⟩:=AJ J;rw[Bf]at hi;obtain⟨O,z⟩:=Ao.1 hi;rcases h2 with h2|⟨d,hd,h2⟩
  ·omega
  ·obtain⟨Z,Y⟩:=Ao.1 hd;rcases Cl i with h0|h0
   ·subst h0;simp only [Nat.add_zero]at z;rw[<-z,Y];exact h2
   ·have h3:=hp j (j+i) Z O EA;rw[z,Y]at h3
    cases e:EU r.key c.key with
    | false=>rfl
    | true=>rw[IZ _ _ _ h3 e]at h2;cases h2
 have ha:M=M.take j++M.drop j:=(AT j M).symm;refine⟨?_,λh3=>?_,λd hd h3=>?_⟩
 ·conv=>lhs;rw[ha]
  rw[Bu,Bm.2 hA,Dk.2 (λr J=>by rw[hB r J];decide),AP]
 ·conv=>lhs;rw[ha]
  rw[Bu,Dk.2 (λr J=>by rw[Jp (hA r J)];decide),AE];refine Bm.2 λr J=>?_;rcases Jm r.key c.key with e|e|e
  ·exfalso;obtain⟨i,hi⟩:=AJ J;rw[Bf]at hi;obtain⟨O,z⟩:=Ao.1 hi;rcases Cl i with h0|h0
   ·subst h0;exact h3 r hi e
   ·have hb:M[j]?=some (M[j]'EA):=Av _;have h4:=hp j (j+i) EA O EA;rw[z,e]at h4;have h5:=hB _ (Ak (i:=0) (by rw[Bf];exact hb));rw[h4]at h5;cases h5
  ·rw[hB r J]at e;cases e
  ·exact e
 ·obtain⟨Z,Y⟩:=Ao.1 hd
  conv=>lhs;rw[ha]
  rw[Bu,Dk.2 (λr J=>by rw[Jp (hA r J)];decide),AE,HY hd,B5,if_neg (by rw[h3,HZ];decide)];refine Bm.2 λr J=>?_;obtain⟨i,hi⟩:=AJ J;rw[Bf]at hi;obtain⟨O,z⟩:=Ao.1 hi;have h4:=hp j (j+1+i) Z O EA;rw[z,Y,h3]at h4;exact h4
theorem VM (hM:KL M)(c:Cell):KL (Gg M c):=by
 unfold Gg KL;refine Bs.2 ⟨C9 _ hM,Bs.2 ⟨?_,C9 _ hM,λx O y z=>?_⟩,λx O y z=>?_⟩
 ·split
  ·exact Bp
  ·exact List.pairwise_singleton _ _
 ·split at O
  ·cases O
  ·rw[Ah.1 O];exact(Az.1 z).2
 ·have J:=(Az.1 O).2;rcases Ay.1 z with z|z
  ·split at z
   ·cases z
   ·rw[Ah.1 z];exact J
  ·exact IZ _ _ _ J (Az.1 z).2
theorem X1e (hM:KL M)(c:Cell):(Gg M c).length<=M.length+1:=by
 have h1:∀M:List Rw,(M.filter λr=>EU r.key c.key).length+(M.filter λr=>EU c.key r.key).length<=M.length:=by
  intro M
  induction M with
  | nil=>exact Aa _
  | cons r q ih=>
   simp only [B5,AB]
   cases h:EU r.key c.key with
   | true=>rw[Jp h];simp;omega
   | false=>cases h2:EU c.key r.key<;>simp<;>omega
 have:=h1 M;unfold Gg;simp only [Ab];split<;>simp<;>omega
def IW (M:List Rw)(cs:List Cell):List Rw:=cs.foldl Gg M
theorem Xyu {cs:List Cell}{i:Nat}(h:cs[i]?=some c):IW M (cs.take (i+1))=Gg (IW M (cs.take i)) c:=by
 unfold IW;rw[Gs h,List.foldl_append];rfl
theorem TG : ∀(cs:List Cell) {M:List Rw},KL M->KL (IW M cs)
 | [],_,h=>h
 | c :: r,_,h=>TG r (VM h c)
theorem PY : ∀(cs:List Cell) {M:List Rw},KL M->(IW M cs).length<=M.length+cs.length
 | [],_,h=>Aa _
 | c :: r,M,h=>by
  have h1:=PY r (VM h c);have h2:=X1e h c;show(IW (Gg M c) r).length<=_;simp only [AB];omega
end
theorem X7m (l:List Ac)(v:Value)(w:World)(hv:EM Ac.cs 5 w v l)(hl:l.length<=140737488355328)(hok:∀a∈l,AcOk w a) :
  Calls Tryz.prog 11 [v].toArray w (Pure w (B (decide (60000<KE l)))):=by
 refine cw Tryz.func11 ?_;have z:=EB.refl w;refine ws λ_ Z1=>wr (da (de Z1 (ws λ_ Z2=>wr (da (de Z2 (ws λ_ Z3=>ws λ_ Z4=>wr (da (de Z4 (EN ?_)))))))));refine Fk (G:=Nat×Nat) (λ(i,n)=>[(0,v),(3,I ↑n),(4,I ↑i)]) (λ(i,n) w'=>EB w w'/\i<=l.length/\i<=60/\n=((l.take i).map Hv).sum/\n<=60000+i*281474976710656) (λ(i,n)=>l.length-i) (0,0) ?_ ?_ ?_
 ·exact Hj
 ·exact⟨z,Ad _,Ad _,rfl,Ad _⟩
 intro X1 g1 w1 hj;obtain⟨i,n⟩:=g1;clear z;obtain⟨z,hi1,hi2,hn,hnb⟩:=hj;refine ws λ_ Z5=>ws λ_ Z6=>wr (dm (dm ?_));refine dv 34 5 (hv.ext z).sl (dp (Fa rfl rfl) (dm ?_));refine Fz 10 rfl (λc1=>?_) (λc1=>?_)
 ·refine dm ?_;refine dp (Fa rfl rfl) (EO (de Z6 ?_));refine wi (λc2=>?_) λc2=>?_
  ·obtain⟨a,hk⟩:∃a,l[i]?=some a:=Fq;have J:=hok a (Ak hk);have O:=J.v;have q1:=J.key;have q2:=J.to;have q3:=J.len;refine EG (Z5 _ _ (ws λ_ Z7=>EN (ws λ_ Z8=>F4 (R:=EB) EB.refl (λ_ _ _=>EB.trans) E9 [5,12] [(0,.p,false),(1,.p,false),(2,.p,false),(3,.p,false),(4,.p,false),(5,.l,false),(6,.p,false),(7,.p,false),(8,.p,false),(9,.p,false),(10,.p,false),(11,.p,false),(12,.l,false),(13,.p,false),(14,.p,false),(15,.p,false)] rfl E9 E9 (λw2 Z=>?_))));have x2:=EJ Z;clear Z;have z:=z.trans x2
   iterate 3 refine dm ?_
   refine di 34 5 hv.sl rfl (hv.lt hk) (df 2 rfl (dL rfl (λ_ Y=>(((hv.ext (z.trans Y)).row hk).at rfl)) (dt rfl (pa rfl rfl (dm (dm ?_))))));refine di 34 5 hv.sl rfl (hv.lt hk) (df 3 rfl (dL rfl (λ_ Y=>(((hv.ext (z.trans Y)).row hk).at rfl)) (dt rfl (pa rfl rfl (da (de Z8 (ws λ_ Z9=>wr (da (de Z9 (EN ?_))))))))));refine Fk (G:=Nat×Nat) (λ(k,m)=>[(0,v),(3,I ↑m),(4,I ↑i),(5,I ↑k)]) (λ(k,m) w'=>EB w w'/\k<=a.l.length/\m=n+a.key.length+a.to.length+((a.l.take k).map Hd).sum/\m<=60000+(i+1)*281474976710656) (λ(k,m)=>a.l.length-k) (0,n+a.key.length+a.to.length) ?_ ?_ ?_
   ·exact FU
   ·exact⟨z,Ad _,by simp,by omega⟩
   intro X3 g3 w3 hg;obtain⟨k,m⟩:=g3;clear z;obtain⟨z,hk1,hm,hmb⟩:=hg;refine ws λ_ hz=>ws λ_ hh=>wr (dm (dm (dm ?_)));refine di 34 5 hv.sl rfl (hv.lt hk) (df 4 rfl (dl rfl (((hv.ext z).row hk).at rfl) (dv 48 3 (O.ext z).sl (dp (Fa rfl rfl) (de hh (wi (λc3=>?_) λc3=>?_))))))
   ·obtain⟨r,hr⟩:∃r,a.l[k]?=some r:=Fq;have q4:=J.row r (Ak hr);have hrs:=Pe Hd hr;have hrw:Hd r=1+r.key.length+r.val.length:=rfl;have hge:=Vi (k:=k+1) EA hk EA;refine EG (hz _ _ (ws λ_ hc=>EN (ws λ_ hp=>F4 (R:=EB) EB.refl (λ_ _ _=>EB.trans) E9 [6,10,17,21] [(0,.p,false),(1,.p,false),(2,.p,false),(3,.p,false),(4,.p,false),(5,.p,false),(6,.l,false),(7,.p,false),(8,.p,false),(9,.p,false),(10,.l,false),(11,.p,false),(12,.p,false),(13,.p,false),(14,.p,false),(15,.p,false),(16,.p,false),(17,.l,false),(18,.p,false),(19,.p,false),(20,.p,false),(21,.l,false),(22,.p,false),(23,.p,false),(24,.p,false)] rfl E9 E9 (λw4 ha=>?_))));have x4:=EJ ha;clear ha;have z:=z.trans x4;refine dm ?_;refine pa rfl rfl (dm (dm ?_));refine di 34 5 hv.sl rfl (hv.lt hk) (df 4 rfl (dL rfl (λ_ Y=>(((hv.ext (z.trans Y)).row hk).at rfl)) (dm ?_)));refine di 48 3 O.sl rfl (O.lt hr) (df 0 rfl (dL rfl (λ_ Y=>(((O.ext (z.trans Y)).row hr).at rfl)) (dt rfl (pa rfl rfl (dm (dm ?_))))));refine di 34 5 hv.sl rfl (hv.lt hk) (df 4 rfl (dL rfl (λ_ Y=>(((hv.ext (z.trans Y)).row hk).at rfl)) (dm ?_)));refine di 48 3 O.sl rfl (O.lt hr) (df 1 rfl (dL rfl (λ_ Y=>(((O.ext (z.trans Y)).row hr).at rfl)) (dt rfl (pa rfl rfl (da (de hp (ws λ_ hf=>wr (dm ?_))))))));refine dp (FY rfl rfl) (de hf (wi (λc4=>?_) λc4=>?_))
    ·refine ws λ_ ht=>wr (da (de ht (EH ?_)));refine ro ?_;refine⟨?_,z⟩;rw[decide_eq_true (show 60000<KE l by omega)]
    refine EG (hc _ _ (wr (dm ?_)));refine pa rfl rfl (da (EF (?_)));exact⟨(k+1,m+1+r.key.length+r.val.length),FU,⟨z,by omega,by omega,by omega⟩,by simp only [];omega⟩
   refine Ff (Z7 _ _ (wr (dm ?_)));refine pa rfl rfl (da (EF (?_)));have hq:k=a.l.length:=by omega
   subst hq;rw[AK]at hm;have hst:=Pe Hv hk;have haw:Hv a=a.key.length+a.to.length+(a.l.map Hd).sum:=rfl;exact⟨(i+1,m),Hj,⟨z,by omega,by omega,by omega,by omega⟩,by simp only [];omega⟩
  refine Ff (Z3 _ _ (ws λ_ hw=>wr (dm ?_)));refine dp (FY rfl rfl) (da (de hw (EH ?_)));refine ro ?_;have hy:i=60:=by omega
  subst hy;refine⟨?_,z⟩
  congr 2
  unfold KE;rw[<-hn];exact decide_eq_decide.2 EA
 refine dk (dk (EO (de Z6 ?_)));refine GB rfl (Ff (Z3 _ _ (ws λ_ hb=>wr (dm ?_))));refine dp (FY rfl rfl) (da (de hb (EH ?_)));refine ro ?_;have e:KE l=n:=by unfold KE;rw[hn,Ax (show l.length<=60 by omega),Ax (show l.length<=i by omega)]
 refine⟨?_,z⟩
 congr 2
 rw[e];exact decide_eq_decide.2 EA
theorem T9 (l m:List Rw)(v u:Value)(w:World)(hv:EM Rw.cs 3 w v l)(hu:EM Rw.cs 3 w u m)(hl:l.length<=1000000000)(hm:m.length<=1000000000) :
  Calls Tryz.prog 20 [v,u].toArray w (Pure w (B (decide (l=m)))):=by
 refine cw Tryz.func20 ?_;have z:=EB.refl w;refine ws λ_ Z1=>wr (da (de Z1 (ws λ_ Z2=>ws λ_ Z3=>wr (dm ?_))));refine dv 48 3 (hv.ext z).sl (dm ?_);refine dv 48 3 (hu.ext z).sl (dp (F8 rfl rfl) (de Z3 (wi (λc1=>?_) λc1=>?_)))
 ·refine ws λ_ Z4=>wr (da (de Z4 (EH ?_)));refine ro ?_;refine⟨?_,z⟩;rw[decide_eq_false (λe=>by rw[e]at c1;exact absurd rfl c1)]
 refine EG (Z2 _ _ (ws λ_ Z5=>ws λ_ Z6=>wr (da (de Z6 (EN ?_)))));refine Fk (G:=Nat) (λk=>[(0,v),(1,u),(5,I ↑k)]) (λk w'=>EB w w'/\k<=l.length/\l.length=m.length/\l.take k=m.take k) (λk=>l.length-k) 0 ?_ ?_ ?_
 ·exact Hj
 ·exact⟨z,Ad _,by omega,rfl⟩
 intro X1 g1 w1 O;revert O;revert g1;intro k O;clear z;obtain⟨z,hk1,hle,he⟩:=O;refine ws λ_ Z7=>ws λ_ Z8=>wr (dm (dm ?_));refine dv 48 3 (hv.ext z).sl (dp (Fa rfl rfl) (de Z8 (wi (λc2=>?_) λc2=>?_)))
 ·obtain⟨c,hk⟩:∃c,l[k]?=some c:=Fq;obtain⟨d,hk2⟩:∃d,m[k]?=some d:=Fq;refine EG (Z7 _ _ (ws λ_ Z9=>EN (ws λ_ hc=>F4 (R:=EB) EB.refl (λ_ _ _=>EB.trans) E9 [3,7] [(0,.p,false),(1,.p,false),(2,.p,false),(3,.l,false),(4,.p,false),(5,.p,false),(6,.p,false),(7,.l,false),(8,.p,false)] rfl E9 E9 (λw2 Y=>?_))));have x2:=EJ Y;clear Y;have z:=z.trans x2
  iterate 2 refine dm ?_
  refine di 48 3 hv.sl rfl (hv.lt hk) (FK rfl (λw' Z=>Fb E9 rfl rfl ((hv.ext (z.trans Z)).row hk)) (dm (dm ?_)));refine di 48 3 hu.sl rfl (hu.lt hk2) (FK rfl (λw' Z=>Fb E9 rfl rfl ((hu.ext (z.trans Z)).row hk2)) (dp (X8n (ts:=[9,9,4]) E9 rfl rfl ⟨by kernel_rfl,by kernel_rfl,by kernel_rfl,trivial⟩ ⟨by kernel_rfl,by kernel_rfl,by kernel_rfl,trivial⟩) (de hc (wc (λJ=>?_) λJ=>?_))))
  ·refine ws λ_ hb=>wr (da (de hb (EH ?_)));refine ro ?_;refine⟨?_,z⟩;rw[Wp]at J;simp at J;rw[decide_eq_false (λe=>by rw[e,hk2]at hk;cases hk;exact J rfl)]
  refine EG (Z9 _ _ (wr (dm ?_)));refine pa rfl rfl (da (EF (?_)));rw[Wp]at J;refine⟨k+1,Hj,⟨z,by omega,hle,?_⟩,by omega⟩;rw[Gs hk,Gs hk2,he];simp at J;rw[J]
 refine Ff (Z5 _ _ (ws λ_ ha=>wr (da (de ha (EH ?_)))));refine ro ?_;refine⟨?_,z⟩;rw[Ax EA,Ax EA]at he;rw[decide_eq_true he]
theorem Yb3 (M0:List Rw)(vm0:Value)(l:List Rw)(v:Value)(w:World)(hm0:EM Rw.cs 3 w vm0 M0)(hv:EM Rw.cs 3 w v l)(hl:l.length<=100000)(hml:M0.length<=1000000)(hup:KL M0) :
  Calls Tryz.prog 19 [vm0,v].toArray w (ER w (λu w'=>EM Rw.cs 3 w' u (ID M0 l)/\(u=vm0\/(ID M0 l≠[]->w.heap.size<=(base u).1)))):=by
 refine cw Tryz.func19 ?_;have O:=EB.refl w;have hA:=hm0;refine ws λ_ Z1=>wr (da (de Z1 (ws λ_ Z2=>wr (dm ?_))));refine cG (X1d l v 1 _ (hv.ext O) hl) RX.all λvc w1 x1 yh=>?_;have hsz1:=O.size;have hA:=hA.ext x1;have O:=O.trans x1;have J:=yh.arr EE;refine da (de Z2 (ws λ_ Z3=>ws λ_ Z4=>wr (da (de Z4 (EN ?_)))));refine Fk (G:=Nat×Value×List Rw) (λ(i,vm,M)=>[(0,vm),(1,v),(4,.slice none 0 0),(5,vc),(6,I ↑i)]) (λ(i,vm,M) w'=>EB w w'/\i<=(F0 l 1).length/\M=(IW M0 ((F0 l 1).take i))/\(vm=vm0\/(M≠[]->w.heap.size<=(base vm).1))/\EM Rw.cs 3 w' vm M/\EM Cell.cs 4 w' vc (F0 l 1)) (λ(i,vm,M)=>(F0 l 1).length-i) (0,vm0,M0) ?_ ?_ ?_
 ·exact FA
 ·exact⟨O,Ad _,rfl,.inl rfl,hA,J⟩
 intro X2 g2 w2 ye;obtain⟨i,vm,M⟩:=g2;clear O hA J;obtain⟨O,hi1,hM,hg,hA,J⟩:=ye;refine ws λ_ Z5=>ws λ_ Z6=>wr (dm (dm ?_));refine dv 79 4 J.sl (dp (Fa rfl rfl) (de Z6 (wi (λc1=>?_) λc1=>?_)))
 ·obtain⟨c,hc⟩:∃c,(F0 l 1)[i]?=some c:=Fq;have yl:=PY ((F0 l 1).take i) hup;have hy:=TG ((F0 l 1).take i) hup;rw[<-hM]at yl hy;have hcl:=MH l 1;have htl:((F0 l 1).take i).length<=(F0 l 1).length:=by rw[A4];omega
  have xc:=Xyu (M:=M0) hc;rw[<-hM]at xc;refine EG (Z5 _ _ (ws λ_ Z7=>EN (ws λ_ Z8=>wr (da (de Z8 ?_)))));refine Hz (G:=Nat) (λj=>[(0,vm),(1,v),(4,.slice none 0 0),(5,vc),(6,I ↑i),(7,I ↑j)]) (λj w'=>EB w w'/\EM Rw.cs 3 w' vm M/\EM Cell.cs 4 w' vc (F0 l 1)/\j<=M.length/\(∀i d,i<j->M[i]?=some d->EU d.key c.key=true)/\(j=M.length\/∃d,M[j]?=some d/\EU d.key c.key=false)) ?_ ?_
  ·refine EN ?_;refine Fk (G:=Nat) (λj=>[(0,vm),(1,v),(4,.slice none 0 0),(5,vc),(6,I ↑i),(7,I ↑j)]) (λj w'=>EB w w'/\EM Rw.cs 3 w' vm M/\EM Cell.cs 4 w' vc (F0 l 1)/\j<=M.length/\(∀i d,i<j->M[i]?=some d->EU d.key c.key=true)) (λj=>M.length-j) 0 ?_ ?_ ?_
   ·exact FSq
   ·exact⟨O,hA,J,Ad _,λi d h=>absurd h (B3 _)⟩
   intro X3 g3 w3 xp;revert xp;revert g3;intro j xp;clear O hA J;obtain⟨O,hA,J,hj,hh⟩:=xp;refine ws λ_ Z9=>ws λ_ xy=>F4 (R:=EB) EB.refl (λ_ _ _=>EB.trans) E9 [9,14] [(0,.p,false),(1,.p,false),(2,.p,false),(3,.p,false),(4,.p,false),(5,.p,false),(6,.p,false),(7,.p,false),(8,.p,false),(9,.l,false),(10,.p,false),(11,.p,false),(12,.p,false),(13,.p,false),(14,.l,false),(15,.p,false),(16,.p,false)] rfl E9 E9 (λw4 x5=>?_);have x4:=EJ x5;clear x5;have hA:=hA.ext x4;have J:=J.ext x4;have O:=O.trans x4
   iterate 2 refine dm ?_
   refine dv 48 3 hA.sl (dp (Fa rfl rfl) (dm ?_));refine Fz 21 rfl (λc2=>?_) (λc2=>?_)
   ·obtain⟨d,hd⟩:∃d,M[j]?=some d:=Fq
    iterate 2 refine dm ?_
    refine di 48 3 hA.sl rfl (hA.lt hd) (df 0 rfl (dL rfl (λ_ hR=>(((hA.ext hR).row hd).at rfl)) (dm (dm ?_))));refine di 79 4 J.sl rfl (J.lt hc) (df 0 rfl (dL rfl (λ_ hR=>(((J.ext hR).row hc).at rfl)) (dp (Nf rfl rfl) (EO (de xy ?_)))));refine wc (λc3=>?_) λc3=>?_
    ·refine EG (Z9 _ _ (EN (wr (dm ?_))));refine pa rfl rfl (da (EF (?_)));refine⟨j+1,FSq,⟨O,hA,J,by omega,λi9 d9 hi9 xw=>?_⟩,by omega⟩
     by_cases e9:i9=j
     ·subst e9;rw[hd]at xw;cases xw;exact c3
     ·exact hh i9 d9 EA xw
    refine Ff ?_;exact⟨j,FSq,O,hA,J,hj,hh,.inr ⟨d,hd,c3⟩⟩
   iterate 11 refine dk ?_
   refine EO (de xy ?_);refine GB rfl (Ff ?_);exact⟨j,FSq,O,hA,J,hj,hh,.inl EA⟩
  intro X5 g5 w5 xt;revert xt;revert g5;intro j xt;clear O hA J;obtain⟨O,hA,J,hj,hh,hz⟩:=xt;refine Hz (G:=Value×List Rw) (λ(vn,M1)=>[(0,vn),(1,v),(4,.slice none 0 0),(5,vc),(6,I ↑i),(7,I ↑j)]) (λ(vn,M1) w'=>EB w w'/\EM Cell.cs 4 w' vc (F0 l 1)/\M1=M.take j++M.filter (λr=>EU c.key r.key)/\(vn=vm0\/(M1≠[]->w.heap.size<=(base vn).1))/\EM Rw.cs 3 w' vn M1) ?_ ?_
  ·refine ws λ_ x0=>F4 (R:=EB) EB.refl (λ_ _ _=>EB.trans) E9 [9,14] [(0,.p,false),(1,.p,false),(2,.p,false),(3,.p,false),(4,.p,false),(5,.p,false),(6,.p,false),(7,.p,false),(8,.p,false),(9,.l,false),(10,.p,false),(11,.p,false),(12,.p,false),(13,.p,false),(14,.l,false),(15,.p,false),(16,.p,false)] rfl E9 E9 (λw6 xx=>?_);have x6:=EJ xx;clear xx;have hA:=hA.ext x6;have J:=J.ext x6;have O:=O.trans x6
   iterate 2 refine dm ?_
   refine dv 48 3 hA.sl (dp (Fa rfl rfl) (dm ?_));refine Fz 40 rfl (λc4=>?_) (λc4=>?_)
   ·obtain⟨d,hd⟩:∃d,M[j]?=some d:=Fq
    iterate 2 refine dm ?_
    refine di 48 3 hA.sl rfl (hA.lt hd) (df 0 rfl (dL rfl (λ_ hR=>(((hA.ext hR).row hd).at rfl)) (dm (dm ?_))));refine di 79 4 J.sl rfl (J.lt hc) (df 0 rfl (dL rfl (λ_ hR=>(((J.ext hR).row hc).at rfl)) (dp (Mh rfl rfl) (EO (de x0 ?_)))));refine wi (λc5=>?_) λc5=>?_
    ·have hjl:=(Ao.1 hd).1;have hf:=O;have hD:w.heap.size<=w6.heap.size:=O.size;have ha:=hA;have Z:=J;have hp:=(hv.ext O);refine F4 (R:=Mod (Hs w6.heap.size)) (Far.refl _) Far.trans E9 [] [(1,.p,false),(2,.p,false),(3,.p,false),(5,.p,false),(6,.p,false),(7,.p,false),(8,.p,false),(0,.x,true),(4,.x,true),(9,.x,true),(10,.p,false)] rfl E9 E9 (λw7 x3=>?_);have x7:=EJ x3;clear x3;have hA:=hA.ext x7;have J:=J.ext x7;have O:=O.trans x7;have hs:Mod (Hs w6.heap.size) w6 w7:=Far.of_ext x7
     iterate 2 refine dm ?_
     refine dp (H8 (e:=48) (k:=3) E9 hA.sl rfl rfl rfl EA EA) (dm (dm ?_));refine pa rfl rfl (dp (H8 (e:=48) (k:=3) (m:=M.length) (a:=j+1) (b:=M.length) E9 hA.sl rfl rfl rfl EA (Aa _)) (Me (e:=48) (sz:=3) rfl E9 RX.all (λb1 w8 e1 x8 m1=>?_)));have g1:=O.ge e1;have a1_hA:=EM.base_lt hA EK;have a1_hC:=EM.base_lt J EK;have yc:w6.heap.size<=b1:=by have:=hs.size;omega
     have hA:=hA.ext x8;have J:=J.ext x8;have O:=O.trans x8;have hs:=hs.ext x8;have ho:=m1.own (enc:=Rw.cs) (B:=w6.heap.size) (l:=[]) (sz:=3) (m:=0) yc rfl EE rfl (Ap rfl);refine Gv (e:=48) (sz:=3) (by':=40) rfl E9 E9 EE ho ((hA).slice (Ad _) hj) rfl rfl (by intro x _ u hu;simp at hu;rcases hu with rfl|rfl|rfl<;>rfl) (by simp;omega) EK hs.size (.inl rfl) (λvp w9 Y x9=>?_);have hs:=hs.own x9 (λi hi _=>by have:=(ho.lt i hi).1;unfold Hs;omega);have hA:=hA.mod x9 (by intro z e9;have h8:=EM.base_lt ha EK z;have h7:=(ho.lt _ e9).1;omega);have J:=J.mod x9 (by intro z e9;have h8:=EM.base_lt Z EK z;have h7:=(ho.lt _ e9).1;omega);have O:=O.own x9 (λi hi=>(by have h1:=(ho.lt i hi).1;have:=hf.size;omega));have ho:=Y;refine Gv (e:=48) (sz:=3) (by':=40) rfl E9 E9 EE ho ((hA).slice (lo:=j+1) (hi:=M.length) EA (Aa _)) rfl rfl (by intro x _ u hu;simp at hu;rcases hu with rfl|rfl|rfl<;>rfl) (by simp;omega) EK hs.size (.inl rfl) (λvq ya Y xj=>?_);have hs:=hs.own xj (λi hi _=>by have:=(ho.lt i hi).1;unfold Hs;omega);have hA:=hA.mod xj (by intro z e9;have h8:=EM.base_lt ha EK z;have h7:=(ho.lt _ e9).1;omega);have J:=J.mod xj (by intro z e9;have h8:=EM.base_lt Z EK z;have h7:=(ho.lt _ e9).1;omega);have O:=O.own xj (λi hi=>(by have h1:=(ho.lt i hi).1;have:=hf.size;omega));have ho:=Y;refine da ?_;clear hs hf ha Z hp;refine EF (?_);obtain⟨B9,hB9,ho9⟩:∃B9,w.heap.size<=B9/\Vc.Own Rw.cs 3 48 B9 ya vq (M.take j++M.drop (j+1)):=⟨_,hD,by
      have:=ho;simpa using this⟩
     rw[<-(Ml hy hj hh hz).2.2 d hd c5]at ho9;exact⟨(vq,_),FSq,O,J,rfl,.inr (λz=>Ae hB9 (ho9.base_ge z).1),ho9.arr EE⟩
    refine EG ?_;exact⟨(vm,M),FSq,O,J,by rw[(Ml hy hj hh hz).2.1 (λd9 h9=>by rw[hd]at h9;cases h9;exact c5),AT],hg,hA⟩
   iterate 11 refine dk ?_
   refine EO (de x0 ?_);refine GB rfl (EG ?_);exact⟨(vm,M),FSq,O,J,by rw[(Ml hy hj hh hz).2.1 (λd9 h9=>by have:=(Ao.1 h9).1;omega),AT],hg,hA⟩
  intro X11 yk hb xz;obtain⟨vn,M1⟩:=yk;clear O hA J;obtain⟨O,J,h6,yj,hA⟩:=xz;have h5:j<=M1.length:=by rw[h6,Ab,A4];omega
  have hM1l:M1.length<=2*M.length:=by rw[h6,Ab,A4];have:=B0 (λr:Rw=>EU c.key r.key) M;omega
  refine ws λ_ yb=>wr (dm (dm ?_));refine di 79 4 J.sl rfl (J.lt hc) (df 2 rfl (dl rfl ((J.row hc).at rfl) (dn (de yb ?_))));refine wc (λc6=>?_) λc6=>?_
  ·have ht:c.del=false:=by simpa using c6
   refine ws λ_ xv=>?_;have hf:=O;have hD:w.heap.size<=hb.heap.size:=O.size;have ha:=hA;have Z:=J;have hp:=(hv.ext O);refine L0 (R:=Mod (Hs hb.heap.size)) (Far.refl _) Far.trans E9 [9,14] (.one 1 .p false (.one 2 .p false (.one 3 .p false (.one 5 .p false (.one 6 .p false (.one 7 .p false (.one 8 .p false (.one 9 .l false (.one 10 .p false (.one 11 .p false (.one 12 .p false (.one 13 .p false (.one 14 .l false (.one 15 .p false (.fork (.alt 0 false (.fork (.alt 4 false (.one 16 .x false (.one 17 .x false (.one 18 .p false .nil))) (.alt 16 false (.one 4 .x false (.one 17 .x false (.one 18 .p false .nil))) .stop))) (.alt 16 false (.one 0 .x false (.one 4 .x false (.one 17 .x false (.one 18 .p false .nil)))) .stop))))))))))))))))) E9 E9 (λyi xo=>?_);have xk:=EJ xo;clear xo;have J:=J.ext xk;have hA:=hA.ext xk;have O:=O.trans xk;have hs:Mod (Hs hb.heap.size) hb yi:=Far.of_ext xk;refine EY (dm (EF ?_));refine EY (dm (EF ?_));refine EY (dp (H8 (e:=48) (k:=3) E9 hA.sl rfl rfl rfl EA EA) (EF (EY (dm (EF ?_)))));refine EY (dm (EF ?_));refine EY (di 79 4 J.sl rfl (J.lt hc) (EF (EY (df 0 rfl (EF (EY (dL rfl (λ_ hR=>(((Z.far EK (hs.own hR (λ_ h _=>h))).row hc).at rfl)) (EF (EY (dm (EF ?_)))))))))));refine EY (dm (EF ?_));refine EY (di 79 4 J.sl rfl (J.lt hc) (EF (EY (df 1 rfl (EF (EY (dL rfl (λ_ hR=>(((Z.far EK (hs.own hR (λ_ h _=>h))).row hc).at rfl)) (EF (EY (db (zs:=[S [],S [],B false]) (pl:=[(0,1),(1,1),(2,1)]) (pv:=[(0,_),(1,_)]) (cs:=[_,_,B false]) (EF ?_)))))))))));refine JE ?_;refine H6 ?_ ?_
   ·refine Me (e:=48) (sz:=3) rfl E9 RX.far (λb2 w13 e2 xi m2=>?_);have g2:=O.ge e2;have a2_hC:=EM.base_lt J EK;have a2_hA:=EM.base_lt hA EK;have x2:hb.heap.size<=b2:=by have:=hs.size;omega
    have J:=J.ext xi;have hA:=hA.ext xi;have O:=O.trans xi;have hs:=hs.ext xi;refine EF (JE ?_);refine H6 ?_ ?_
    ·have ho:=m2.own (enc:=Rw.cs) (B:=hb.heap.size) (l:=[]) (sz:=3) (m:=0) x2 rfl EE rfl (Ap rfl);refine Gv (e:=48) (sz:=3) (by':=40) rfl E9 E9 EE ho ((hA).slice (Ad _) h5) rfl rfl (by intro x _ u hu;simp at hu;rcases hu with rfl|rfl|rfl<;>rfl) (by simp;omega) EK hs.size (.inr (Far.own ho (Aa _))) (λvp w14 Y xm=>?_);have hs:=hs.own xm (λi hi _=>by have:=(ho.lt i hi).1;unfold Hs;omega);have J:=J.mod xm (by intro z e9;have h8:=EM.base_lt Z EK z;have h7:=(ho.lt _ e9).1;omega);have hA:=hA.mod xm (by intro z e9;have h8:=EM.base_lt ha EK z;have h7:=(ho.lt _ e9).1;omega);have O:=O.own xm (λi hi=>(by have h1:=(ho.lt i hi).1;have:=hf.size;omega));have ho:=Y;refine EF (EY (li (e:=48) (sz:=3) (zs:=[S [],S [],B false]) (pv:=[(0,.agg ⟨[_,_,_]⟩)]) (cs:=[_,_,_]) RX.far (λb3 w15 e3 xd m3=>?_)));have g3:=O.ge e3;have a3_hC:=EM.base_lt J EK;have a3_hA:=EM.base_lt hA EK;have o3_ho:=ho.ltb e3;have gs3:hb.heap.size<=b3:=by have:=hs.size;omega
     have J:=J.ext xd;have hA:=hA.ext xd;have ho:=ho.ext xd;have O:=O.trans xd;have hs:=hs.ext xd;refine EF (EY ?_);refine Gv (lx:=[⟨c.key,c.val,false⟩]) (e:=48) (sz:=3) (by':=40) rfl E9 E9 EE ho (m3.arr (enc:=Rw.cs) (sz:=3) (l:=[⟨c.key,c.val,false⟩]) rfl EE rfl (Ap rfl)) rfl rfl (by intro x _ u hu;simp at hu;rcases hu with rfl|rfl|rfl<;>rfl) (by simp;omega) EK hs.size (.inr (Far.own ho (Aa _))) (λvq w16 Y xn=>?_);have hs:=hs.own xn (λi hi _=>by have:=(ho.lt i hi).1;unfold Hs;omega);have J:=J.mod xn (by intro z e9;have h8:=EM.base_lt Z EK z;have h7:=(ho.lt _ e9).1;omega);have hA:=hA.mod xn (by intro z e9;have h8:=EM.base_lt ha EK z;have h7:=(ho.lt _ e9).1;omega);have O:=O.own xn (λi hi=>(by have h1:=(ho.lt i hi).1;have:=hf.size;omega));have ho:=Y;have hr:(F0 l 1)≠[]->(base vc).1<hb.heap.size:=λz=>EM.base_lt Z EK z;have hw:M1≠[]->(base vn).1<hb.heap.size:=λz=>EM.base_lt ha EK z;have hq:=hs.size;clear m3;refine EF (EY (da (EF ?_)));clear hs hf ha Z hp;refine Im (xv _ _ (wr (dm (dm (dm ?_)))));refine dp (H8 (e:=48) (k:=3) E9 hA.sl rfl rfl rfl EA EA) ?_;refine Gv (e:=48) (sz:=3) (by':=40) rfl E9 E9 EE ho ((hA).slice h5 (Aa _)) rfl rfl (by intro x _ u hu;simp at hu;rcases hu with rfl|rfl|rfl<;>rfl) (by simp;omega) EK hq (.inl rfl) (λvr ym Y xq=>?_);have J:=J.mod xq (by intro z e9;have h8:=hr z;have h7:=(ho.lt _ e9).1;omega);have hA:=hA.mod xq (by intro z e9;have h8:=hw z;have h7:=(ho.lt _ e9).1;omega);have O:=O.own xq (λi hi=>(Ae hD (ho.lt i hi).1));have ho:=Y;refine da (de Z7 (wr (dm ?_)));refine pa rfl rfl (da (EF (?_)));obtain⟨B9,hB9,ho9⟩:∃B9,w.heap.size<=B9/\Vc.Own Rw.cs 3 48 B9 ym vr (M1.take j++([⟨c.key,c.val,false⟩]++M1.drop j)):=⟨_,hD,by
      have:=ho;simpa using this⟩
     rw[h6,Ci (by rw[A4];omega),Cj (by rw[A4];omega),show M.take j++([⟨c.key,c.val,false⟩]++M.filter λr=>EU c.key r.key)=Gg M c by unfold Gg;rw[(Ml hy hj hh hz).1,if_neg (by rw[ht];decide)]]at ho9;exact⟨(i+1,vr,Gg M c),FA,⟨O,by omega,xc.symm,.inr (λz=>Ae hB9 (ho9.base_ge z).1),ho9.arr EE,J⟩,by simp only [];omega⟩
    refine H6 ?_ ?_
    ·refine li (e:=48) (sz:=3) (zs:=[S [],S [],B false]) (pv:=[(0,.agg ⟨[_,_,_]⟩)]) (cs:=[_,_,_]) RX.far (λb4 w18 e4 xb m4=>?_);have g4:=O.ge e4;have n4_2:=m2.ltb e4;have a4_hC:=EM.base_lt J EK;have a4_hA:=EM.base_lt hA EK;have gs4:hb.heap.size<=b4:=by have:=hs.size;omega
     have J:=J.ext xb;have hA:=hA.ext xb;have m2:=m2.ext xb;have O:=O.trans xb;have hs:=hs.ext xb;refine EF (EY ?_);have ho:=m2.own (enc:=Rw.cs) (B:=hb.heap.size) (l:=[]) (sz:=3) (m:=0) x2 rfl EE rfl (Ap rfl);refine Gv (e:=48) (sz:=3) (by':=40) rfl E9 E9 EE ho ((hA).slice (Ad _) h5) rfl rfl (by intro x _ u hu;simp at hu;rcases hu with rfl|rfl|rfl<;>rfl) (by simp;omega) EK hs.size (.inr (Far.own ho (Aa _))) (λvp w19 Y xf=>?_);have hs:=hs.own xf (λi hi _=>by have:=(ho.lt i hi).1;unfold Hs;omega);have J:=J.mod xf (by intro z e9;have h8:=EM.base_lt Z EK z;have h7:=(ho.lt _ e9).1;omega);have hA:=hA.mod xf (by intro z e9;have h8:=EM.base_lt ha EK z;have h7:=(ho.lt _ e9).1;omega);have m4:=m4.mod xf (by intro h;have h2:b2=b4:=A3.inj h;omega);have O:=O.own xf (λi hi=>(by have h1:=(ho.lt i hi).1;have:=hf.size;omega));have ho:=Y;refine EF (EY ?_);refine Gv (lx:=[⟨c.key,c.val,false⟩]) (e:=48) (sz:=3) (by':=40) rfl E9 E9 EE ho (m4.arr (enc:=Rw.cs) (sz:=3) (l:=[⟨c.key,c.val,false⟩]) rfl EE rfl (Ap rfl)) rfl rfl (by intro x _ u hu;simp at hu;rcases hu with rfl|rfl|rfl<;>rfl) (by simp;omega) EK hs.size (.inr (Far.own ho (Aa _))) (λvq w20 Y xg=>?_);have hs:=hs.own xg (λi hi _=>by have:=(ho.lt i hi).1;unfold Hs;omega);have J:=J.mod xg (by intro z e9;have h8:=EM.base_lt Z EK z;have h7:=(ho.lt _ e9).1;omega);have hA:=hA.mod xg (by intro z e9;have h8:=EM.base_lt ha EK z;have h7:=(ho.lt _ e9).1;omega);have O:=O.own xg (λi hi=>(by have h1:=(ho.lt i hi).1;have:=hf.size;omega));have ho:=Y;have hr:(F0 l 1)≠[]->(base vc).1<hb.heap.size:=λz=>EM.base_lt Z EK z;have hw:M1≠[]->(base vn).1<hb.heap.size:=λz=>EM.base_lt ha EK z;have hq:=hs.size;clear m4;refine EF (EY (da (EF ?_)));clear hs hf ha Z hp;refine Im (xv _ _ (wr (dm (dm (dm ?_)))));refine dp (H8 (e:=48) (k:=3) E9 hA.sl rfl rfl rfl EA EA) ?_;refine Gv (e:=48) (sz:=3) (by':=40) rfl E9 E9 EE ho ((hA).slice h5 (Aa _)) rfl rfl (by intro x _ u hu;simp at hu;rcases hu with rfl|rfl|rfl<;>rfl) (by simp;omega) EK hq (.inl rfl) (λvr yd Y xu=>?_);have J:=J.mod xu (by intro z e9;have h8:=hr z;have h7:=(ho.lt _ e9).1;omega);have hA:=hA.mod xu (by intro z e9;have h8:=hw z;have h7:=(ho.lt _ e9).1;omega);have O:=O.own xu (λi hi=>(Ae hD (ho.lt i hi).1));have ho:=Y;refine da (de Z7 (wr (dm ?_)));refine pa rfl rfl (da (EF (?_)));obtain⟨B9,hB9,ho9⟩:∃B9,w.heap.size<=B9/\Vc.Own Rw.cs 3 48 B9 yd vr (M1.take j++([⟨c.key,c.val,false⟩]++M1.drop j)):=⟨_,hD,by
      have:=ho;simpa using this⟩
     rw[h6,Ci (by rw[A4];omega),Cj (by rw[A4];omega),show M.take j++([⟨c.key,c.val,false⟩]++M.filter λr=>EU c.key r.key)=Gg M c by unfold Gg;rw[(Ml hy hj hh hz).1,if_neg (by rw[ht];decide)]]at ho9;exact⟨(i+1,vr,Gg M c),FA,⟨O,by omega,xc.symm,.inr (λz=>Ae hB9 (ho9.base_ge z).1),ho9.arr EE,J⟩,by simp only [];omega⟩
    exact J8
   refine H6 ?_ ?_
   ·refine li (e:=48) (sz:=3) (zs:=[S [],S [],B false]) (pv:=[(0,.agg ⟨[_,_,_]⟩)]) (cs:=[_,_,_]) RX.far (λb5 w22 e5 xl m5=>?_);have g5:=O.ge e5;have a5_hC:=EM.base_lt J EK;have a5_hA:=EM.base_lt hA EK;have gs5:hb.heap.size<=b5:=by have:=hs.size;omega
    have J:=J.ext xl;have hA:=hA.ext xl;have O:=O.trans xl;have hs:=hs.ext xl;refine EF (EY (Me (e:=48) (sz:=3) rfl E9 RX.far (λb6 w23 e6 xe m6=>?_)));have g6:=O.ge e6;have n6_5:=m5.ltb e6;have a6_hC:=EM.base_lt J EK;have a6_hA:=EM.base_lt hA EK;have yn:hb.heap.size<=b6:=by have:=hs.size;omega
    have J:=J.ext xe;have hA:=hA.ext xe;have m5:=m5.ext xe;have O:=O.trans xe;have hs:=hs.ext xe;refine EF (EY ?_);have ho:=m6.own (enc:=Rw.cs) (B:=hb.heap.size) (l:=[]) (sz:=3) (m:=0) yn rfl EE rfl (Ap rfl);refine Gv (e:=48) (sz:=3) (by':=40) rfl E9 E9 EE ho ((hA).slice (Ad _) h5) rfl rfl (by intro x _ u hu;simp at hu;rcases hu with rfl|rfl|rfl<;>rfl) (by simp;omega) EK hs.size (.inr (Far.own ho (Aa _))) (λvp w24 Y xa=>?_);have hs:=hs.own xa (λi hi _=>by have:=(ho.lt i hi).1;unfold Hs;omega);have J:=J.mod xa (by intro z e9;have h8:=EM.base_lt Z EK z;have h7:=(ho.lt _ e9).1;omega);have hA:=hA.mod xa (by intro z e9;have h8:=EM.base_lt ha EK z;have h7:=(ho.lt _ e9).1;omega);have m5:=m5.mod xa (by intro h;have h2:b6=b5:=A3.inj h;omega);have O:=O.own xa (λi hi=>(by have h1:=(ho.lt i hi).1;have:=hf.size;omega));have ho:=Y;refine EF (EY ?_);refine Gv (lx:=[⟨c.key,c.val,false⟩]) (e:=48) (sz:=3) (by':=40) rfl E9 E9 EE ho (m5.arr (enc:=Rw.cs) (sz:=3) (l:=[⟨c.key,c.val,false⟩]) rfl EE rfl (Ap rfl)) rfl rfl (by intro x _ u hu;simp at hu;rcases hu with rfl|rfl|rfl<;>rfl) (by simp;omega) EK hs.size (.inr (Far.own ho (Aa _))) (λvq w25 Y xh=>?_);have hs:=hs.own xh (λi hi _=>by have:=(ho.lt i hi).1;unfold Hs;omega);have J:=J.mod xh (by intro z e9;have h8:=EM.base_lt Z EK z;have h7:=(ho.lt _ e9).1;omega);have hA:=hA.mod xh (by intro z e9;have h8:=EM.base_lt ha EK z;have h7:=(ho.lt _ e9).1;omega);have O:=O.own xh (λi hi=>(by have h1:=(ho.lt i hi).1;have:=hf.size;omega));have ho:=Y;have hr:(F0 l 1)≠[]->(base vc).1<hb.heap.size:=λz=>EM.base_lt Z EK z;have hw:M1≠[]->(base vn).1<hb.heap.size:=λz=>EM.base_lt ha EK z;have hq:=hs.size;clear m5;refine EF (EY (da (EF ?_)));clear hs hf ha Z hp;refine Im (xv _ _ (wr (dm (dm (dm ?_)))));refine dp (H8 (e:=48) (k:=3) E9 hA.sl rfl rfl rfl EA EA) ?_;refine Gv (e:=48) (sz:=3) (by':=40) rfl E9 E9 EE ho ((hA).slice h5 (Aa _)) rfl rfl (by intro x _ u hu;simp at hu;rcases hu with rfl|rfl|rfl<;>rfl) (by simp;omega) EK hq (.inl rfl) (λvr yg Y xr=>?_);have J:=J.mod xr (by intro z e9;have h8:=hr z;have h7:=(ho.lt _ e9).1;omega);have hA:=hA.mod xr (by intro z e9;have h8:=hw z;have h7:=(ho.lt _ e9).1;omega);have O:=O.own xr (λi hi=>(Ae hD (ho.lt i hi).1));have ho:=Y;refine da (de Z7 (wr (dm ?_)));refine pa rfl rfl (da (EF (?_)));obtain⟨B9,hB9,ho9⟩:∃B9,w.heap.size<=B9/\Vc.Own Rw.cs 3 48 B9 yg vr (M1.take j++([⟨c.key,c.val,false⟩]++M1.drop j)):=⟨_,hD,by
     have:=ho;simpa using this⟩
    rw[h6,Ci (by rw[A4];omega),Cj (by rw[A4];omega),show M.take j++([⟨c.key,c.val,false⟩]++M.filter λr=>EU c.key r.key)=Gg M c by unfold Gg;rw[(Ml hy hj hh hz).1,if_neg (by rw[ht];decide)]]at ho9;exact⟨(i+1,vr,Gg M c),FA,⟨O,by omega,xc.symm,.inr (λz=>Ae hB9 (ho9.base_ge z).1),ho9.arr EE,J⟩,by simp only [];omega⟩
   exact J8
  have ht:c.del=true:=by simpa using c6
  refine EG (Z7 _ _ (wr (dm ?_)));refine pa rfl rfl (da (EF (?_)));have e9:M1=Gg M c:=by
   rw[h6];unfold Gg;rw[(Ml hy hj hh hz).1,if_pos ht];rfl
  subst e9;exact⟨(i+1,vn,Gg M c),FA,⟨O,by omega,xc.symm,yj,hA,J⟩,by simp only [];omega⟩
 refine Ff (Z3 _ _ (ws λ_ yf=>wr (dm (da (de yf (EH ?_))))));refine ro ?_;rw[Ax EA]at hM;rw[hM]at hA hg;exact⟨_,rfl,O,hA,hg⟩
end Go.Proofs.YtiooodckiddpmaaGreatDoor
namespace Go.Proofs.YtiooodckiddpmaaGreatDoor.Em
open Go.Vc Go.Sp
attribute [local irreducible] W XW Dw Gm
theorem Hn : MapK Tryz.prog 120 9 123 S pO (λs=>s.length<=maxLen):=Mq E9 E9 QP
theorem Yaw (w:World) :
  Calls Tryz.prog 262 [.slice none 0 0,I 0,I 0].toArray w (Pure w (.tuple #[])):=by
 refine cw Tryz.func262 ?_;have J:=EB.refl w;refine ws λ_ Z1=>wr (dm ?_);refine pa rfl rfl (da (de Z1 (EN ?_)));refine Fk (G:=Unit) (λO=>[(0,.slice none 0 0),(1,I 0),(2,I 0),(6,I (0+1))]) (λO w'=>EB w w'/\True) (λO=>0) () ?_ ?_ ?_
 ·exact FU
 ·exact⟨J,trivial⟩
 intro X1 g1 w1 z;revert z;revert g1;intro O z;clear J;obtain⟨J,htr⟩:=z;refine ws λ_ Z2=>ws λ_ Z=>wr (dm (dm ?_));refine dp (Fa rfl rfl) (de Z (wi (λY=>?_) λY=>?_))
 ·exact absurd Y EK
 refine Ff (HI (Hi rfl ?_));exact⟨rfl,J⟩
theorem X7n (w:World) :
  Calls Tryz.prog 272 [.int .u64 0].toArray w (Pure w (I 0)):=by
 refine cw Tryz.func272 ?_;have hx:=EB.refl w;refine ws λ_ Z1=>wr (da (de Z1 (ws λ_ Y=>ws λ_ Z3=>wr (dm ?_))));refine dp (IB rfl rfl) (de Z3 (wi (λz=>?_) λz=>?_))
 ·exact absurd z EK
 refine EG (Y _ _ (ws λ_ Z=>ws λ_ Z5=>wr (dm ?_)));refine dp (IB rfl rfl) (de Z5 (wi (λO=>?_) λO=>?_))
 ·exact absurd O EK
 refine EG (Z _ _ (ws λ_ Z6=>ws λ_ Z7=>wr (dm ?_)));refine dp (IB rfl rfl) (de Z7 (wi (λJ=>?_) λJ=>?_))
 ·exact absurd J EK
 refine EG (Z6 _ _ (ws λ_ Z8=>wr (dm (dm ?_))));refine dp (QN rfl E9 E9) (dp (Xzo (c:=0) E9 rfl rfl rfl) (dp (Xzd rfl E9 E9) (dp (Gx (a:=0) (b:=0) rfl rfl (by simp [ET])) (da (de Z8 (EH ?_))))));refine ro ?_;exact⟨rfl,hx⟩
theorem Yax (w:World) :
  Calls Tryz.prog 204 [.int .u64 0].toArray w (Pure w (I 0)):=by
 refine cw Tryz.func204 ?_;have z:=EB.refl w;refine ws λ_ Z=>wr (da (de Z (ws λ_ J=>?_)));refine GB rfl (EG (J _ _ (ws λ_ Y=>wr (dm ?_))));refine cP (X7n _) RX.all λw1 O=>?_;have z:=z.trans O;refine da (de Y (EH ?_));refine ro ?_;exact⟨rfl,z⟩
theorem Yay (w:World) :
  Calls Tryz.prog 203 [.slice none 0 0,I 0,I 0,I 0].toArray w (Pure w (.tuple #[])):=by
 refine cw Tryz.func203 ?_;have J:=EB.refl w;refine ws λ_ Z1=>wr (da (de Z1 (ws λ_ Z2=>wr (da (de Z2 (EN ?_))))));refine Fk (G:=Unit) (λO=>[(0,.slice none 0 0),(1,I 0),(2,I 0)]) (λO w'=>EB w w'/\True) (λO=>0) () ?_ ?_ ?_
 ·exact Hj
 ·exact⟨J,trivial⟩
 intro X1 g1 w1 z;revert z;revert g1;intro O z;clear J;obtain⟨J,htr⟩:=z;refine EN (ws λ_ Z3=>wr (dm (dm ?_)));refine ps rfl rfl (da (de Z3 (ws λ_ Z4=>ws λ_ Z5=>wr (dm ?_))));refine dp (IM rfl rfl) (de Z5 (wi (λY=>?_) λY=>?_))
 ·refine ws λ_ Z=>wr (dm (dm (dm ?_)));refine cP (Yaw _) RX.all λw2 x2=>?_;have J:=J.trans x2;refine de Z (EH (Hi rfl ?_));exact⟨rfl,J⟩
 exact absurd Y EK
theorem X7o (w:World) :
  Calls Tryz.prog 132 [.slice none 0 0].toArray w (Pure w (.tuple #[])):=by
 refine cw Tryz.func132 ?_;have z:=EB.refl w;refine ws λ_ Y=>wr (dm ?_);refine dv 9 1 (EM.nil (enc:=FT) (sz:=1) (w:=w)).sl (da (de Y (wr (dm (dm (dm ?_))))));refine dp (JB (k:=.u64) rfl E9 E9) (cP (Yax _) RX.all λw1 J=>?_);have z:=z.trans J;refine cP (Yay _) RX.all λw2 O=>?_;have z:=z.trans O;refine EF ((HI (Hi rfl ?_)));exact⟨rfl,z⟩
theorem X1f (b ly:Nat)(mv:Value)(J:Nat->World->Prop)(w:World)(hJ:∀k W,J k W->EL W b [mv] 120/\Hu W mv)(hE:∀k W W',J k W->EB W W'->J k W')(hj:J 0 w) :
  Calls Tryz.prog 133 [.func (.yield ly) #[] #[],ED b 0].toArray w (λe W'=>(∃v,e=.returned v)/\J 0 W'):=by
 refine TO Tryz.func133 rfl rfl rfl E9 ?_;have O:=EB.refl w;obtain⟨hb,hv⟩:=hJ _ _ hj;refine Mk λK1 Z1=>Nw [.l,.x] rfl (dl rfl ((hb.ext O).at rfl) (Xzq E9 rfl rfl (hv.ext O) RX.all (λb1 w1 e1 x1 z=>?_)));have g1:=O.ge e1;have O:=O.trans x1;refine EF (Z1 _ _ _ (XJ ?_));refine X45 (G:=Unit) (λZ=>[(0,.func (.yield ly) #[] #[]),(5,ED b1 0)]) (λZ w'=>EB w w'/\Pi w' b1/\True) (λZ=>0) () ?_ ?_ ?_
 ·exact KQ
 ·exact⟨O,z,trivial⟩
 intro X2 g2 w2 Y;revert Y;revert g2;intro Z Y;clear O z;obtain⟨O,z,htr⟩:=Y;refine Mk λK2 Z2=>Nw [.x,.p] rfl (X47 rfl rfl z RX.all (dx rfl rfl (EF (Z2 _ _ _ (Mk λK3 Z3=>Yce rfl (X43 ?_))))));dsimp only [Qd,Oz];refine Xu7 (Hi rfl ?_);exact⟨⟨_,rfl⟩,hE _ _ _ hj O⟩
theorem X7p (mv:Value)(w:World)(hv:Hu w mv) :
  Calls Tryz.prog 67 [mv].toArray w (ER w (λu w'=>∃b,u=I1 133 [ED b 0]/\EL w' b [mv] 120)):=by
 refine cw Tryz.func67 ?_;have z:=EB.refl w;refine ws λ_ Z=>wr (Gc rfl rfl (Xvb hv) RX.all (λb1 w1 e1 O Y=>?_));have g1:=z.ge e1;have z:=z.trans O;refine da (de Z (ws λ_ J=>wr ?_));refine dp (NR rfl) (da (de J (EH ?_)));refine ro ?_;exact⟨_,rfl,z,b1,rfl,Y⟩
theorem Xos (bk:Nat)(mv:Value)(w:World)(hk:EL w bk [mv] 120)(hv:Hu w mv) :
  Calls Tryz.prog 202 [.slice none 0 0,I1 133 [ED bk 0]].toArray w (Pure w (.slice none 0 0)):=by
 refine TO Tryz.func202 rfl rfl rfl E9 ?_;have z:=EB.refl w;refine Mk λK1 Z1=>Nw [.x,.p] rfl (Gc rfl rfl rfl RX.all (λb1 w1 e1 x1 O=>?_));have g1:=z.ge e1;have z:=z.trans x1;refine da ?_;refine EF (Z1 _ _ _ (Mk λK2 Z2=>Mk λK3 Z3=>Nw [.p] rfl (dm ?_)));refine EF (Z3 _ _ _ (XJ ?_));have ha:(EB w w1/\EL w1 b1 [.slice none 0 0] 58/\EL w1 bk [mv] 120/\Hu w1 mv):=⟨z,O,hk.ext z,hv.ext z⟩;have hx3:=z.size;have hbk:=hk.lt;have hb1:=O.lt;refine Xzk (gf:=133) (N:=0) (lb:=#[ED bk 0]) (args:=λk=>[S []]) rfl E9 (λ_=>rfl) (λk W=>(EB w W/\EL W b1 [.slice none 0 0] 58/\EL W bk [mv] 120/\Hu W mv)) (λk E1 W=>False) ha ?hX ?hL ?hAL ?hit ?assign ?body ?h
 case hX=>
  rintro k W W' ⟨h1,h2,h3,h4⟩ x;exact⟨h1.trans x,h2.ext x,h3.ext x,h4.ext x⟩
 case hL=>
  rintro k W l' o Y ⟨h1,h2,h3,h4⟩ hle hl ho;have:=z.size;exact⟨h1.own (Mod.putObj W l' Y) (λi hi=>by have hf:i=l':=hi;omega),h2.put Y hl ho,h3.put Y hl ho,h4.imp id λ⟨b,e,hb⟩=>⟨b,e,hb.mod (Mod.putObj W l' Y) (λe2=>by have e3:b=l':=e2;have h9:=hv.lt e;omega)⟩⟩
 case hAL=>exact λk E1 W l' o Y h=>h.elim
 case hit=>
  intro ly J Z hg hY W hj;exact X1f bk ly mv J W (λk W h=>⟨(Z k W h).2.2.1,(Z k W h).2.2.2⟩) hg hj
 case assign=>exact λk l W hk=>absurd hk (B3 k)
 case body=>exact λk l E1 W keep hk=>absurd hk (B3 k)
 case h=>
  intro D w8 hD hI hc;clear z O ha;obtain⟨z,O,-,-⟩:=hI;refine Z2 _ _ _ (Mk λK4 Z4=>Nw [.l,.p] rfl (dl rfl (O.at rfl) (da ?_)));refine EF (Z4 _ _ _ (X80 ?_));refine Xu8 hc (ro ?_);have hxs:=z.size;exact⟨rfl,z.own (Mod.putObj _ D _) (λi hi=>by have hf:i=D:=hi;omega)⟩
theorem Xtx (bk:Nat)(mv:Value)(w:World)(hk:EL w bk [mv] 120)(hv:Hu w mv) :
  Calls Tryz.prog 131 [I1 133 [ED bk 0]].toArray w (Pure w (.slice none 0 0)):=by
 refine cw Tryz.func131 ?_;have z:=EB.refl w;refine ws λ_ Y=>wr (da (de Y (ws λ_ J=>wr (dm ?_))));refine cP (Xos bk mv _ (hk.ext z) (hv.ext z)) RX.all λw1 O=>?_;have z:=z.trans O;refine da (de J (EH ?_));refine ro ?_;exact⟨rfl,z⟩
theorem Xyw (bk:Nat)(mv:Value)(w:World)(hk:EL w bk [mv] 120)(hv:Hu w mv) :
  Calls Tryz.prog 66 [I1 133 [ED bk 0]].toArray w (Pure w (.slice none 0 0)):=by
 refine cw Tryz.func66 ?_;have z:=EB.refl w;refine ws λ_ Z1=>wr (da (de Z1 (ws λ_ J=>wr (dm ?_))));refine cP (Xtx bk mv _ (hk.ext z) (hv.ext z)) RX.all λw1 Y=>?_;have z:=z.trans Y;refine da (de J (ws λ_ Z=>wr (dm ?_)));refine cP (X7o _) RX.all λw2 x2=>?_;have z:=z.trans x2;refine de Z (ws λ_ O=>wr (dm (da (de O (EH ?_)))));refine ro ?_;exact⟨rfl,z⟩
theorem Io (bd mf:Nat)(room:Int)(w:World)(hd:EL w bd [I room,.map (some mf),B false,I 0] 122)(hm:FL w mf) :
  Calls Tryz.prog 28 [ED bd 0].toArray w (Pure w (.slice none 0 0)):=by
 refine cw Tryz.func28 ?_;have z:=EB.refl w;refine ws λ_ Z1=>wr (da (de Z1 (ws λ_ Y=>ws λ_ Z3=>wr (dm ?_))));refine dp (Gj E9 rfl rfl) (de Z3 (wi (λO=>?_) λO=>?_))
 ·exact absurd O EQ
 refine EG (Y _ _ (ws λ_ Z=>wr (dm ?_)));refine dz rfl (df 1 rfl (dl rfl ((hd.ext z).at rfl) (cG (X7p (.map (some mf)) _ (hm.ext z).val) RX.all λu1 w1 x1 J=>?_)));have hsz1:=z.size;have z:=z.trans x1;obtain⟨bk,rfl,hk⟩:=J;refine cP (Xyw bk _ _ hk (hm.ext z).val) RX.all λw2 x2=>?_;have z:=z.trans x2;refine da (de Z (EH ?_));refine ro ?_;exact⟨rfl,z⟩
theorem X1g (s:EC)(w:World) :
  Calls Tryz.prog 201 [.slice none 0 0,S s].toArray w (Pure w (I (-1))):=by
 refine cw Tryz.func201 ?_;have J:=EB.refl w;refine ws λ_ Z1=>wr (da (de Z1 (ws λ_ Z=>ws λ_ Z3=>wr (dm ?_))));refine dv 9 1 (EM.nil (enc:=FT) (sz:=1) (w:=w)).sl (dm (de Z3 (EN ?_)));refine Fk (G:=Unit) (λO=>[(0,.slice none 0 0),(1,S s),(7,I 0),(8,I 0)]) (λO w'=>EB w w'/\True) (λO=>0) () ?_ ?_ ?_
 ·exact FU
 ·exact⟨J,trivial⟩
 intro X1 g1 w1 z;revert z;revert g1;intro O z;clear J;obtain⟨J,htr⟩:=z;refine ws λ_ Z4=>wr (dp (Fa rfl rfl) (de Z4 (ws λ_ Z5=>wi (λY=>?_) λY=>?_)))
 ·exact absurd Y EK
 refine Ff (Z _ _ (ws λ_ Z6=>wr (da (de Z6 (EH ?_)))));refine ro ?_;exact⟨rfl,J⟩
theorem Xqj (s:EC)(w:World) :
  Calls Tryz.prog 130 [.slice none 0 0,S s].toArray w (Pure w (B false)):=by
 refine cw Tryz.func130 ?_;have z:=EB.refl w;refine ws λ_ Y=>wr (da (de Y (ws λ_ J=>wr (dm (dm ?_)))));refine cP (X1g s _) RX.all λw1 O=>?_;have z:=z.trans O;refine dp (IB rfl rfl) (da (de J (EH ?_)));refine ro ?_;exact⟨rfl,z⟩
theorem I7 (bd mf:Nat)(room:Int)(s:EC)(w:World)(hd:EL w bd [I room,.map (some mf),B false,I 0] 122)(hm:FL w mf) :
  Calls Tryz.prog 189 [ED bd 0,S s].toArray w (Pure w (B false)):=by
 refine cw Tryz.func189 ?_;have z:=EB.refl w;refine ws λ_ Z=>wr (da (de Z (ws λ_ J=>wr (dm ?_))));refine cP (Io bd mf room _ (hd.ext z) (hm.ext z)) RX.all λw1 O=>?_;have z:=z.trans O;refine dm ?_;refine cP (Xqj s _) RX.all λw2 Y=>?_;have z:=z.trans Y;refine da (de J (EH ?_));refine ro ?_;exact⟨rfl,z⟩
theorem Hc (bd mf:Nat)(room:Int)(l:List EC)(v:Value)(w:World)(hd:EL w bd [I room,.map (some mf),B false,I 0] 122)(hm:FL w mf)(hv:EM FT 1 w v l)(hl:l.length<=1000) :
  Calls Tryz.prog 178 [ED bd 0,v].toArray w (Pure w (I 0)):=by
 refine cw Tryz.func178 ?_;have z:=EB.refl w;refine ws λ_ Z1=>wr (da (de Z1 (ws λ_ Z2=>ws λ_ Z3=>wr (dm ?_))));refine dv 9 1 hv.sl (dm (de Z3 (EN ?_)));refine Fk (G:=Nat) (λk=>[(0,ED bd 0),(8,v),(9,I ↑l.length),(10,I ↑k)]) (λk w'=>EB w w'/\k<=l.length) (λk=>l.length-k) 0 ?_ ?_ ?_
 ·exact FU
 ·exact⟨z,Ad _⟩
 intro X1 g1 w1 J;revert J;revert g1;intro k J;clear z;obtain⟨z,hk1⟩:=J;refine ws λ_ Z4=>wr (dp (Fa rfl rfl) (de Z4 (ws λ_ Z5=>wi (λZ=>?_) λZ=>?_)))
 ·obtain⟨s,hk⟩:∃s,l[k]?=some s:=Fq;refine EG (Z5 _ _ (ws λ_ Y=>EN (ws λ_ Z7=>wr (di 9 1 hv.sl rfl (hv.lt hk) (dl rfl (((hv.ext z).row hk).at0 rfl) (da (de Z7 (ws λ_ Z8=>ws λ_ Z9=>wr (dm (dm ?_))))))))));refine cP (I7 bd mf room s _ (hd.ext z) (hm.ext z)) RX.all λw2 x2=>?_;have z:=z.trans x2;refine dn (de Z9 ?_);refine GD rfl (Ff (Y _ _ (wr (pa rfl rfl (dm (EF (?_)))))));refine⟨k+1,FU,⟨z,by omega⟩,by omega⟩
 refine Ff (Z2 _ _ (ws λ_ O=>wr (da (de O (EH ?_)))));refine ro ?_;exact⟨rfl,z⟩
theorem Ih (bd mf:Nat)(room:Int)(s:EC)(w:World)(hd:EL w bd [I room,.map (some mf),B false,I 0] 122)(hm:FL w mf)(hs:s.length<=maxLen) :
  Calls Tryz.prog 190 [ED bd 0,S s].toArray w (Pure w (.tuple #[.slice none 0 0,I 7])):=by
 refine cw Tryz.func190 ?_;have J:=EB.refl w;have z:Vc.Xbn Tryz.prog 9 S pO w mf 0 (λ_=>none):=hm.at;refine ws λ_ Z1=>wr (da (da (de Z1 (ws λ_ Z2=>ws λ_ Z3=>wr (dm ?_)))));refine dp (Gj E9 rfl rfl) (dm ?_);refine Fz 8 rfl (λO=>?_) (λO=>?_)
 ·exact absurd O EQ
 refine dm ?_;refine dz rfl (df 1 rfl (dl rfl ((hd.ext J).at rfl) (dm ?_)));refine dq (Ly Hn (kx:=s) (z0:=none) rfl rfl E9 (z.ext J) hs) (dp (Gj E9 rfl rfl) (EO (de Z3 ?_)));refine wi (λY=>?_) λY=>?_
 ·refine ws λ_ Z=>wr (da (da (de Z (EH ?_))));refine rt ?_;exact⟨rfl,J⟩
 exact absurd rfl Y
theorem Ij (bd mf:Nat)(room:Int)(s:EC)(w:World)(hd:EL w bd [I room,.map (some mf),B false,I 0] 122)(hm:FL w mf)(hs:s.length<=maxLen) :
  Calls Tryz.prog 123 [ED bd 0,S s].toArray w (Pure w (.tuple #[.slice none 0 0,I 7])):=by
 refine cw Tryz.func123 ?_;have z:=EB.refl w;refine ws λ_ Z1=>wr (da (da (de Z1 (ws λ_ Y=>ws λ_ Z3=>wr (dm ?_)))));refine dp (Gj E9 rfl rfl) (de Z3 (wi (λJ=>?_) λJ=>?_))
 ·exact absurd J EQ
 refine EG (Y _ _ (ws λ_ Z=>wr (dm (dm ?_))));refine cP (Ih bd mf room s _ (hd.ext z) (hm.ext z) hs) RX.all λw1 x1=>?_;have z:=z.trans x1;refine dm ?_;refine dx rfl rfl (dx rfl rfl (da (da (de Z (ws λ_ Z5=>ws λ_ Z6=>wr (dm ?_))))));refine dp (F8 rfl rfl) (de Z6 (wi (λO=>?_) λO=>?_))
 ·refine ws λ_ Z7=>wr (dm (da (da (de Z7 (EH ?_)))));refine rt ?_;exact⟨rfl,z⟩
 exact absurd O EK
theorem Gl (bl bd:Nat)(w:World)(hl:EL w bl [ED bd 0,S [115],I 0,.slice none 0 0,.slice none 0 0,B false] 147) :
  Calls Tryz.prog 177 [ED bl 0].toArray w (Pure w (S [115,45,105,109,103])):=by
 refine cw Tryz.func177 ?_;have z:=EB.refl w;refine ws λ_ O=>wr (da (de O (ws λ_ J=>wr (dm ?_))));refine dz rfl (df 1 rfl (dl rfl ((hl.ext z).at rfl) (dp (Ji rfl rfl (by simp;done)) (da (de J (EH ?_))))));refine ro ?_;exact⟨rfl,z⟩
theorem FN (bl bd:Nat)(w:World)(hl:EL w bl [ED bd 0,S [115],I 0,.slice none 0 0,.slice none 0 0,B false] 147) :
  Calls Tryz.prog 84 [ED bl 0].toArray w (Pure w (S [115,45,108,111,103])):=by
 refine cw Tryz.func84 ?_;have z:=EB.refl w;refine ws λ_ O=>wr (da (de O (ws λ_ J=>wr (dm ?_))));refine dz rfl (df 1 rfl (dl rfl ((hl.ext z).at rfl) (dp (Ji rfl rfl (by simp;done)) (da (de J (EH ?_))))));refine ro ?_;exact⟨rfl,z⟩
theorem X1h (bl bd mf:Nat)(room:Int)(w:World)(hl:EL w bl [ED bd 0,S [115],I 0,.slice none 0 0,.slice none 0 0,B false] 147)(hd:EL w bd [I room,.map (some mf),B false,I 0] 122)(hm:FL w mf) :
  Calls Tryz.prog 115 [ED bl 0].toArray w (Pure w (I 0)):=by
 refine cw Tryz.func115 ?_;have z:=EB.refl w;refine ws λ_ Z1=>wr (da (de Z1 (ws λ_ Z2=>?_)));refine F4 (R:=EB) EB.refl (λ_ _ _=>EB.trans) E9 [3] [(0,.p,false),(1,.p,false),(2,.p,false),(3,.l,false),(4,.p,false),(5,.x,false),(6,.p,false),(7,.x,false),(8,.x,true),(9,.p,false)] rfl E9 E9 (λw1 J=>?_);have Y:=EJ J;clear J;have z:=z.trans Y;refine dm ?_;refine dz rfl (df 0 rfl (dL rfl (λ_ O=>((hl.ext (z.trans O)).at rfl)) (dm ?_)));refine cP (Gl bl bd _ (hl.ext z)) RX.ext λw2 x2=>?_;have z:=z.trans x2;refine dp (Ji rfl rfl (by simp;done)) (li (e:=9) (sz:=1) (zs:=[S []]) (pv:=[(0,_)]) (cs:=[_]) RX.ext (λb1 w3 e1 x3 Z=>?_));have g1:=z.ge e1;have z:=z.trans x3;refine cP (Hc bd mf room [[115,45,105,109,103]++[126]] _ _ (hd.ext z) (hm.ext z) (Z.arr (enc:=FT) (sz:=1) rfl EE rfl EQ) EQ) RX.all λw4 x4=>?_;have z:=z.trans x4;refine da (de Z2 (EH ?_));refine ro ?_;exact⟨rfl,z⟩
theorem X7q (bl bd mf:Nat)(room:Int)(w:World)(hl:EL w bl [ED bd 0,S [115],I 0,.slice none 0 0,.slice none 0 0,B false] 147)(hd:EL w bd [I room,.map (some mf),B false,I 0] 122)(hm:FL w mf) :
  Calls Tryz.prog 116 [ED bl 0].toArray w (Pure w (I 0)):=by
 refine cw Tryz.func116 ?_;have z:=EB.refl w;refine ws λ_ Z1=>wr (da (de Z1 (ws λ_ Y=>?_)));refine F4 (R:=EB) EB.refl (λ_ _ _=>EB.trans) E9 [3] [(0,.p,false),(1,.p,false),(2,.p,false),(3,.l,false),(4,.p,false),(5,.x,false),(6,.x,true),(7,.p,false),(8,.p,false),(9,.p,false),(10,.p,false),(11,.p,false)] rfl E9 E9 (λw1 J=>?_);have x1:=EJ J;clear J;have z:=z.trans x1;refine dm ?_;refine dz rfl (df 0 rfl (dL rfl (λ_ Z=>((hl.ext (z.trans Z)).at rfl)) (dm ?_)));refine cP (Gl bl bd _ (hl.ext z)) RX.ext λw2 x2=>?_;have z:=z.trans x2;refine cP (Ij bd mf room [115,45,105,109,103] _ (hd.ext z) (hm.ext z) EK) RX.all λw3 x3=>?_;have z:=z.trans x3;refine dm ?_;refine dx rfl rfl (dx rfl rfl (da (da (de Y (ws λ_ Z3=>ws λ_ Z4=>wr (dm ?_))))));refine dp (G1 rfl rfl) (de Z4 (wi (λO=>?_) λO=>?_))
 ·refine ws λ_ Z5=>wr (da (de Z5 (EH ?_)));refine ro ?_;exact⟨rfl,z⟩
 exact absurd rfl O
theorem Yb4 (bl bd mf:Nat)(room:Int)(w:World)(hl:EL w bl [ED bd 0,S [115],I 0,.slice none 0 0,.slice none 0 0,B false] 147)(hd:EL w bd [I room,.map (some mf),B false,I 0] 122)(hm:FL w mf) :
  Calls Tryz.prog 117 [ED bl 0].toArray w (Pure w (I 0)):=by
 refine cw Tryz.func117 ?_;have z:=EB.refl w;refine ws λ_ Z1=>wr (da (de Z1 (ws λ_ Z2=>ws λ_ Z3=>?_)));refine F4 (R:=EB) EB.refl (λ_ _ _=>EB.trans) E9 [3] [(0,.p,false),(1,.p,false),(2,.p,false),(3,.l,false),(4,.p,false),(5,.x,false),(6,.x,true),(7,.p,false)] rfl E9 E9 (λw1 J=>?_);have Y:=EJ J;clear J;have z:=z.trans Y;refine dm ?_;refine dz rfl (df 0 rfl (dL rfl (λ_ O=>((hl.ext (z.trans O)).at rfl)) (dm ?_)));refine cP (FN bl bd _ (hl.ext z)) RX.ext λw2 x2=>?_;have z:=z.trans x2;refine cP (I7 bd mf room [115,45,108,111,103] _ (hd.ext z) (hm.ext z)) RX.all λw3 x3=>?_;have z:=z.trans x3;refine dn (de Z3 ?_);refine GD rfl (ws λ_ Z=>wr (da (de Z (EH ?_))));refine ro ?_;exact⟨rfl,z⟩
theorem X1i (w:World) :
  Calls Tryz.prog 87 [.slice none 0 0].toArray w (Pure w (.slice none 0 0)):=by
 refine cw Tryz.func87 ?_;have Y:=EB.refl w;refine ws λ_ Z=>wr (da (de Z (ws λ_ Z2=>ws λ_ O=>wr (dm ?_))));refine dp (PA (e:=5) (k:=1) E9 (EM.nil (enc:=EP) (sz:=1) (w:=w)).sl rfl rfl) (de O (wc (λz=>?_) λz=>?_))
 ·refine ws λ_ J=>wr (da (de J (EH ?_)));refine ro ?_;exact⟨rfl,Y⟩
 exact absurd z EK
theorem TN (bl bd:Nat)(w:World)(hl:EL w bl [ED bd 0,S [115],I 0,.slice none 0 0,.slice none 0 0,B false] 147) :
  Calls Tryz.prog 60 [ED bl 0].toArray w (Pure w (.tuple #[I 0,.slice none 0 0])):=by
 refine cw Tryz.func60 ?_;have z:=EB.refl w;refine ws λ_ Z1=>wr (da (da (de Z1 (ws λ_ Z=>ws λ_ Z3=>wr (dm ?_)))));refine dp (Gj E9 rfl rfl) (de Z3 (wi (λY=>?_) λY=>?_))
 ·exact absurd Y EQ
 refine EG (Z _ _ (ws λ_ Z4=>F4 (R:=EB) EB.refl (λ_ _ _=>EB.trans) E9 [3,7] [(0,.p,false),(1,.p,false),(2,.p,false),(3,.l,false),(4,.p,false),(5,.p,false),(6,.p,false),(7,.l,false),(8,.x,false),(9,.p,false),(10,.p,false)] rfl E9 E9 (λw1 J=>?_)));have x1:=EJ J;clear J;have z:=z.trans x1;refine dm ?_;refine dz rfl (df 2 rfl (dL rfl (λ_ O=>((hl.ext (z.trans O)).at rfl)) (dm ?_)));refine dz rfl (df 3 rfl (dL rfl (λ_ O=>((hl.ext (z.trans O)).at rfl)) (cP (X1i _) RX.ext λw2 x2=>?_)));have z:=z.trans x2;refine da (da (de Z4 (EH ?_)));refine rt ?_;exact⟨rfl,z⟩
theorem G3 (bl bd:Nat)(w:World)(hl:EL w bl [ED bd 0,S [115],I 0,.slice none 0 0,.slice none 0 0,B false] 147) :
  Calls Tryz.prog 55 [ED bl 0].toArray w (Pure w (I 0)):=by
 refine cw Tryz.func55 ?_;have J:=EB.refl w;refine ws λ_ Z1=>wr (da (de Z1 (ws λ_ Z=>ws λ_ Z3=>wr (dm ?_))));refine dp (Gj E9 rfl rfl) (de Z3 (wi (λY=>?_) λY=>?_))
 ·exact absurd Y EQ
 refine EG (Z _ _ (ws λ_ Z4=>F4 (R:=EB) EB.refl (λ_ _ _=>EB.trans) E9 [3,7] [(0,.p,false),(1,.p,false),(2,.p,false),(3,.l,false),(4,.p,false),(5,.p,false),(6,.p,false),(7,.l,false),(8,.p,false),(9,.p,false),(10,.p,false)] rfl E9 E9 (λw1 z=>?_)));have x1:=EJ z;clear z;have J:=J.trans x1;refine dm ?_;refine dz rfl (df 2 rfl (dL rfl (λ_ O=>((hl.ext (J.trans O)).at rfl)) (dm ?_)));refine dz rfl (df 4 rfl (dL rfl (λ_ O=>((hl.ext (J.trans O)).at rfl)) (dv 82 1 (EM.nil (enc:=FT) (sz:=3) (w:=w)).sl (dp (Gx rfl rfl (by simp [ET])) (da (de Z4 (EH ?_)))))));refine ro ?_;exact⟨rfl,J⟩
theorem diskNew_w (room:Int)(w:World)(h0:0<=room)(h1:room<=1073741824) :
  Calls Tryz.prog 33 [I room].toArray w (ER w (λu w'=>∃bd mf,u=.tuple #[ED bd 0,I 0]/\EL w' bd [I room,.map (some mf),B false,I 0] 122/\FL w' mf/\w.heap.size<=bd/\w.heap.size<=mf)):=by
 refine cw Tryz.func33 ?_;have J:=EB.refl w;refine ws λ_ Z1=>wr (da (da (de Z1 (ws λ_ Z2=>ws λ_ Z3=>wr (dm ?_)))));refine dp (Fa rfl rfl) (dm ?_);refine Fz 6 rfl (λZ=>?_) (λZ=>?_)
 ·omega
 refine dm ?_;refine dp (FY rfl rfl) (EO (de Z3 ?_));refine wi (λc2=>?_) λc2=>?_
 ·omega
 refine EG (Z2 _ _ (ws λ_ Z4=>wr (dm ?_)));refine TR rfl RX.all (λb1 w1 e1 Y z=>?_);have g1:=J.ge e1;have J:=J.trans Y;refine db (zs:=[.int .i64 0,.map none,B false,.int .i64 0]) (pl:=[(0,1),(1,1),(2,1),(3,1)]) (pv:=[(0,_),(1,_)]) (cs:=[_,_,B false,.int .i64 0]) ?_;refine Gc rfl rfl rfl RX.all (λb2 w2 e2 O m2=>?_);have g2:=J.ge e2;have n2_mp1:=z.lt;have z:=z.ext O;have J:=J.trans O;refine da (da (de Z4 (EH ?_)));refine rt ?_;exact⟨_,rfl,J,b2,b1,rfl,m2,z,g2,g1⟩
theorem Xot (bd mf:Nat)(room:Int)(w:World)(hd:EL w bd [I room,.map (some mf),B false,I 0] 122)(hm:FL w mf) :
  Calls Tryz.prog 59 [ED bd 0,S [115]].toArray w (ER w (λu w'=>∃bl,u=.tuple #[ED bl 0,I 0]/\EL w' bl [ED bd 0,S [115],I 0,.slice none 0 0,.slice none 0 0,B false] 147/\w.heap.size<=bl)):=by
 refine cw Tryz.func59 ?_;have z:=EB.refl w;refine ws λ_ Z1=>wr (da (da (de Z1 (ws λ_ Z2=>ws λ_ Z3=>wr (dm ?_)))));refine dp (Gj E9 rfl rfl) (dm ?_);refine Fz 12 rfl (λc1=>?_) (λc1=>?_)
 ·exact absurd c1 EQ
 refine dm ?_;refine dt rfl (dp (Fa rfl rfl) (EO ?_));refine dm ?_;refine Fz 17 rfl (λc2=>?_) (λc2=>?_)
 ·exact absurd c2 EK
 refine dm ?_;refine dt rfl (dp (FY rfl rfl) (EO (de Z3 ?_)));refine wi (λc3=>?_) λc3=>?_
 ·exact absurd c3 EK
 refine EG (Z2 _ _ (ws λ_ Z4=>wr (dm (dm ?_))));refine db (zs:=[.pointer none,S [],.int .i64 0,.slice none 0 0,.slice none 0 0,B false]) (pl:=[(0,1),(1,1),(2,1),(3,1),(4,1),(5,1)]) (pv:=[(0,_),(1,_)]) (cs:=[_,_,.int .i64 0,.slice none 0 0,.slice none 0 0,B false]) ?_;refine Gc rfl rfl rfl RX.all (λb1 J e1 x1 O=>?_);have g1:=z.ge e1;have z:=z.trans x1;refine da (de Z4 (ws λ_ Z5=>ws λ_ Z6=>wr (dm ?_)));refine dp (Mv rfl) (dm ?_);refine dp (Mv rfl) (dm ?_);refine dp (Mv rfl) (li (e:=81) (sz:=1) (zs:=[.nilFunc]) (pv:=[(0,_),(1,_),(2,_)]) (cs:=[_,_,_]) RX.all (λb2 w2 e2 x2 Y=>?_));have g2:=z.ge e2;have n2_1:=O.ltb e2;have O:=O.ext x2;have z:=z.trans x2;refine dv 81 1 (Y.arr (enc:=λg:Value=>[g]) (sz:=1) (l:=[G6 115 [ED b1 0],G6 116 [ED b1 0],G6 117 [ED b1 0]]) rfl EE rfl EQ).sl (dm (de Z6 (EN ?_)));refine Fk (G:=Nat) (λk=>[(6,ED b1 0),(32,.slice (some ⟨b2,0,none⟩) 3 3),(33,I 3),(34,I ↑k)]) (λk w'=>EB w w'/\EL w' b1 [ED bd 0,S [115],I 0,.slice none 0 0,.slice none 0 0,B false] 147/\EL w' b2 [G6 115 [ED b1 0],G6 116 [ED b1 0],G6 117 [ED b1 0]] 81/\k<=3) (λk=>3-k) 0 ?_ ?_ ?_
 ·exact FU
 ·exact⟨z,O,Y,Ad _⟩
 intro X3 g3 w3 Z;revert Z;revert g3;intro k Z;clear z O Y;obtain⟨z,O,Y,hk1⟩:=Z;refine ws λ_ Z7=>wr (dp (Fa rfl rfl) (de Z7 (ws λ_ Z8=>wi (λc4=>?_) λc4=>?_)))
 ·obtain⟨g,hk⟩:∃g,[G6 115 [ED b1 0],G6 116 [ED b1 0],G6 117 [ED b1 0]][k]?=some g:=⟨_,Av (by simp;omega)⟩;obtain⟨f,rfl,hcb,hcall⟩:∃f,g=G6 f [ED b1 0]/\GL Tryz.prog f=true/\∀J,EL J b1 [ED bd 0,S [115],I 0,.slice none 0 0,.slice none 0 0,B false] 147->EL J bd [I room,.map (some mf),B false,I 0] 122->FL J mf->Calls Tryz.prog f ([ED b1 0]++[]).toArray J (Pure J (I 0)):=by
   match k,hk with
   | 0,hk=>simp only [Db,CJ,A3.injEq]at hk;exact⟨_,hk.symm,by kernel_rfl,λJ h1 h2 h3=>X1h b1 bd mf room J h1 h2 h3⟩
   | 1,hk=>simp only [Db,CJ,A3.injEq]at hk;exact⟨_,hk.symm,by kernel_rfl,λJ h1 h2 h3=>X7q b1 bd mf room J h1 h2 h3⟩
   | 2,hk=>simp only [Db,CJ,A3.injEq]at hk;exact⟨_,hk.symm,by kernel_rfl,λJ h1 h2 h3=>Yb4 b1 bd mf room J h1 h2 h3⟩
   | k+3,hk=>simp at hk
  refine EG (Z8 _ _ (ws λ_ Z9=>EN (ws λ_ hf=>wr (di 81 1 (Y.arr (enc:=λg:Value=>[g]) (sz:=1) (l:=[G6 115 [ED b1 0],G6 116 [ED b1 0],G6 117 [ED b1 0]]) rfl EE rfl EQ).sl rfl ((Y.arr (enc:=λg:Value=>[g]) (sz:=1) (l:=[G6 115 [ED b1 0],G6 116 [ED b1 0],G6 117 [ED b1 0]]) rfl EE rfl EQ).lt hk) (dl rfl (((Y.arr (enc:=λg:Value=>[g]) (sz:=1) (l:=[G6 115 [ED b1 0],G6 116 [ED b1 0],G6 117 [ED b1 0]]) rfl EE rfl EQ).row hk).at0 rfl) (da (de hf ?_)))))));refine ws λ_ hb=>wr (dm ?_);refine Xzp (vs:=[]) rfl rfl hcb (hcall _ O (hd.ext z) (hm.ext z)) rfl RX.all (λw4 x4=>?_);have O:=O.ext x4;have Y:=Y.ext x4;have z:=z.trans x4;refine da (de hb (ws λ_ ha=>wr (dm ?_)));refine dp (F8 rfl rfl) (de ha (wi (λc5=>?_) λc5=>?_))
  ·exact absurd rfl c5
  refine EG (Z9 _ _ (wr (pa rfl rfl (dm (EF (?_))))));refine⟨k+1,FU,⟨z,O,Y,by omega⟩,by omega⟩
 refine Ff (Z5 _ _ (ws λ_ hc=>wr (dm (da (da (de hc (EH ?_)))))));refine rt ?_;exact⟨_,rfl,z,b1,rfl,O,g1⟩
end Go.Proofs.YtiooodckiddpmaaGreatDoor.Em
