/-
  A part of the proof.
-/
import Derived.Test.YtiooodckiddpmaaGreatDoorQkC
import Derived.Test.YtiooodckiddpmaaGreatDoorQkA
import Derived.Test.YtiooodckiddpmaaGreatDoorChecked
import Derived.KernelRfl
import Derived.Test.YtiooodckiddpmaaGreatDoorQkB
import Derived.Lib.ItoaLen
open Nat renaming le_refl->Aa,zero_le->Ab,le_trans->Ae,le_of_ble_eq_true->An,lt_of_lt_of_le->Ay,zero_add->A5,lt_irrefl->A7,lt_of_lt_of_eq->AD,beq->AM,not_lt->AR,mod_lt->Bf,not_lt_zero->Bh,le_of_eq->Cb,sub_zero->C8,eq_zero_or_pos->CI,le_of_lt->D8,succ_le_succ->ER
open List renaming length_append->Ad,mem_singleton->Af,mem_of_getElem?->Ag,mem_cons->Ah,mem_cons_self->Ai,mem_cons_of_mem->Aj,map_cons->Ak,mem_append->Al,mem_map->Ao,replicate->Ap,getElem?_eq_getElem->Aq,getElem?_eq_some_iff->Ar,length_map->Au,take_of_length_le->Av,mem_filter->Ax,length_cons->Az,eq_nil_of_length_eq_zero->A0,map_append->A3,sum_cons->A4,append_assoc->A6,length->A9,length_set->AB,length_take->AE,nil_append->AG,getElem?_map->AH,append_nil->AI,getElem?_of_mem->AK,pairwise_cons->AN,take->AP,all_eq_true->AQ,take_length->AT,set->AU,take_append_drop->AV,drop->AZ,nodup_cons->Ba,mem_append_right->Bb,flatMap_append->Bc,length_drop->Bd,map_nil->Bg,getElem?_eq_none->Bi,length_filter_le->Bk,mem_append_left->Bl,filter_append->Bs,sum_append->Bt,pairwise_append->Bw,filter_eq_self->Bz,foldl_append->BA,any_eq_true->BB,mem_map_of_mem->BC,ext_getElem?->BF,drop_of_length_le->BG,getElem?_set_self->BI,getD_eq_getElem?_getD->BO,drop_eq_nil_of_le->BP,mem_flatMap->BX,getElem?_set_ne->Cj,not_mem_nil->Cp,mem_of_mem_take->Cr,mem_of_mem_drop->C3,pairwise_iff_getElem->C4,foldlM->CC,takeWhile_cons->CO,pairwise_singleton->Dd,find?_eq_none->Dx,dropWhile_cons->Dy,zip->D5,getElem?_zipWith->D6,elem_iff->D9,getElem?_zip_eq_some->Ea,mem_or_eq_of_mem_set->Ee,mem_of_mem_eraseIdx->Ef,dropLast_subset->EM,getElem?_append->EN,getElem?_eq_none_iff->EO,map_fst_zip->EP,length_zip->EQ,eraseIdx_eq_take_drop_succ->ES
open Option renaming some->Am,map_eq_some_iff->Bp,map_some->Cm
open Bool renaming and_eq_true->Aw,not_eq_true'->BW,false_eq_true->Cq
open Decidable renaming of_not_not->AF,byContradiction->AO
open UInt32 renaming ofNat->AJ
open List.Pairwise renaming nil->Bu,filter->CR,imp->Fa,sublist->Fb
open Prod renaming mk->B4,ext->Du
open Int renaming le_refl->Cg,lt_trichotomy->Eb
open List.Sublist renaming map->C0
set_option maxRecDepth 100000
set_option maxHeartbeats 4000000
set_option linter.unusedVariables false
set_option linter.defProp false
set_option linter.unusedSimpArgs false
namespace Go.Sp
open Go.Vc (Fj)
def JW (l:List Cell):Prop:=∀c∈l,∀d∈l,c.key=d.key->c.seq=d.seq->c=d
def Kn (l:List Cell)(c:Cell):Prop:=c∈l/\∀d∈l,d.key=c.key->d.seq<=c.seq
def SE (k:Fj):∀l:List Cell,(∀c∈l,c.key≠k)\/∃c,Kn l c/\c.key=k
 | []=>.inl λc z=>by cases z
 | a :: r=>by
  by_cases e:a.key=k
  ·right;rcases SE k r with h|⟨c,h,hk⟩
   ·refine⟨a,⟨Ai,λd hd he=>?_⟩,e⟩;rcases Ah.1 hd with rfl|hd
    ·exact Cg _
    ·exact absurd (he.trans e) (h d hd)
   ·by_cases hs:a.seq<=c.seq
    ·refine⟨c,⟨Aj _ h.1,λd hd he=>?_⟩,hk⟩;rcases Ah.1 hd with rfl|hd
     ·exact hs
     ·exact h.2 d hd he
    ·refine⟨a,⟨Ai,λd hd he=>?_⟩,e⟩;rcases Ah.1 hd with rfl|hd
     ·exact Cg _
     ·have:=h.2 d hd (he.trans (e.trans hk.symm));omega
  ·rcases SE k r with h|⟨c,h,hk⟩
   ·left;intro c z;rcases Ah.1 z with rfl|z
    ·exact e
    ·exact h c z
   ·right;refine⟨c,⟨Aj _ h.1,λd hd he=>?_⟩,hk⟩;rcases Ah.1 hd with rfl|hd
    ·exact absurd (he.trans hk) e
    ·exact h.2 d hd he
def U6 {α:Type}{lt:α->α->Bool}(hi:∀x,lt x x=false)(ha:∀x y,lt x y=true->lt y x=false):∀l m:List α,(l.Pairwise λx y=>lt x y=true)->(m.Pairwise λx y=>lt x y=true)->(∀x,x∈l↔x∈m)->l=m
 | [],[],_,_,_=>rfl
 | [],b :: m,_,_,h=>by have:=(h b).2 Ai;cases this
 | a :: l,[],_,_,h=>by have:=(h a).1 Ai;cases this
 | a :: l,b :: m,hl,hm,h=>by
  rw[AN]at hl hm;have e:a=b:=by
   rcases Ah.1 ((h a).1 Ai)with e|h1
   ·exact e
   ·rcases Ah.1 ((h b).2 Ai)with e|h2
    ·exact e.symm
    ·have:=ha _ _ (hm.1 a h1);rw[hl.1 b h2]at this;cases this
  subst e
  congr 1
  refine U6 hi ha l m hl.2 hm.2 λx=>⟨λr=>?_,λr=>?_⟩
  ·rcases Ah.1 ((h x).1 (Aj _ r))with rfl|h1
   ·have:=hl.1 x r;rw[hi]at this;cases this
   ·exact h1
  ·rcases Ah.1 ((h x).2 (Aj _ r))with rfl|h1
   ·have:=hm.1 x r;rw[hi]at this;cases this
   ·exact h1
def KL (a b:Cell):Bool:=decide (a.key=b.key)
def Mg (l m:List Cell):Prop:=∃l':List Cell,l'.Perm l/\Up less l'/\m=Ki KL l'
def X24 {x p:Cell}(h:less x p=false)(hk:¬ x.key=p.key):F6 p.key x.key=true:=by
 rcases KC x.key p.key with e|e|e
 ·exact absurd e hk
 ·have:less x p=true:=(JG x p).2 (.inl e);rw[this]at h;cases h
 ·exact e
def XS {x p:Cell}(h:less x p=false)(hk:x.key=p.key):x.seq<=p.seq:=by
 refine Int.not_lt.1 λr=>?_;have:less x p=true:=(JG x p).2 (.inr ⟨hk,r⟩);rw[this]at h;cases h
def V6 : ∀(r:List Cell) (p:Cell),Up less (p :: r)->JW (p :: r)->(J1 (JZ KL p r)/\(∀c∈JZ KL p r,F6 p.key c.key=true))/\∀c,c∈JZ KL p r↔(c.key≠p.key/\Kn r c)
 | [],p,_,_=>⟨⟨Bu,λc z=>(by cases z)⟩,λc=>⟨λz=>(by cases z),λz=>(by cases z.2.1)⟩⟩
 | x :: r,p,hu,hq=>by
  have Y:Up less (x :: r):=(AN.1 hu).2;have ha:=(AN.1 hu).1 x Ai;obtain⟨⟨i1,Z⟩,i3⟩:=V6 r x Y (λc z d hd=>hq c (Aj _ z) d (Aj _ hd));have H:∀c:Cell,c.key≠x.key->(Kn (x :: r) c↔Kn r c):=λc z=>by
   constructor
   ·rintro ⟨h1,h2⟩;rcases Ah.1 h1 with rfl|h1
    ·exact absurd rfl z
    ·exact⟨h1,λd hd=>h2 d (Aj _ hd)⟩
   ·rintro ⟨h1,h2⟩;refine⟨Aj _ h1,λd hd he=>?_⟩;rcases Ah.1 hd with rfl|hd
    ·exact absurd he.symm z
    ·exact h2 d hd he
  unfold JZ
  by_cases e:x.key=p.key
  ·rw[if_pos (show KL x p=true by simpa [KL]using e)];refine⟨⟨i1,λc z=>e▸Z c z⟩,λc=>?_⟩;rw[i3 c,<-e]
   constructor
   ·rintro ⟨h1,h2⟩;exact⟨h1,(H c h1).2 h2⟩
   ·rintro ⟨h1,h2⟩;exact⟨h1,(H c h1).1 h2⟩
  ·rw[if_neg (show¬ KL x p=true by simpa [KL]using e)];have J:=X24 ha e;refine⟨⟨AN.2 ⟨Z,i1⟩,λc z=>?_⟩,λc=>?_⟩
   ·rcases Ah.1 z with rfl|z
    ·exact J
    ·exact Kg _ _ _ J (Z c z)
   ·have O:Kn (x :: r) x:=⟨Ai,λd hd he=>by
     rcases Ah.1 hd with rfl|hd
     ·exact Cg _
     ·exact XS ((AN.1 Y).1 d hd) he⟩
    constructor
    ·intro z;rcases Ah.1 z with rfl|z
     ·exact⟨e,O⟩
     ·have h1:=(i3 c).1 z;exact⟨λe2=>(by have:=Kg _ _ _ J (Z c z);rw[e2,IN]at this;cases this),(H c h1.1).2 h1.2⟩
    ·rintro ⟨h1,h2⟩
     by_cases e2:c.key=x.key
     ·have:c=x:=hq c (Aj _ h2.1) x (Aj _ Ai) e2 (by
       have g1:=h2.2 x Ai e2.symm;have g2:=O.2 c h2.1 e2;omega)
      rw[this];exact Ai
     ·exact Aj _ ((i3 c).2 ⟨e2,(H c e2).1 h2⟩)
variable {l m:List Cell}
def PU (hq:JW l)(h:Mg l m):J1 m/\∀c,c∈m↔Kn l c:=by
 obtain⟨l',H,hu,rfl⟩:=h;have Z:∀c,Kn l c↔Kn l' c:=λc=>by
  unfold Kn
  constructor
  ·rintro ⟨h1,h2⟩;exact⟨H.mem_iff.2 h1,λd hd=>h2 d (H.mem_iff.1 hd)⟩
  ·rintro ⟨h1,h2⟩;exact⟨H.mem_iff.1 h1,λd hd=>h2 d (H.mem_iff.2 hd)⟩
 have O:JW l':=λc z d hd=>hq c (H.mem_iff.1 z) d (H.mem_iff.1 hd)
 suffices hs:J1 (Ki KL l')/\∀c,c∈Ki KL l'↔Kn l' c from⟨hs.1,λc=>(hs.2 c).trans (Z c).symm⟩
 clear Z H hq
 cases l' with
 | nil=>exact⟨Bu,λc=>⟨λz=>(by cases z),λz=>(by cases z.1)⟩⟩
 | cons x r=>
  obtain⟨⟨i1,i2⟩,Y⟩:=V6 r x hu O;refine⟨AN.2 ⟨i2,i1⟩,λc=>?_⟩;have J:Kn (x :: r) x:=⟨Ai,λd hd he=>by
   rcases Ah.1 hd with rfl|hd
   ·exact Cg _
   ·exact XS ((AN.1 hu).1 d hd) he⟩
  unfold Ki
  constructor
  ·intro z;rcases Ah.1 z with rfl|z
   ·exact J
   ·have h1:=(Y c).1 z;refine⟨Aj _ h1.2.1,λd hd he=>?_⟩;rcases Ah.1 hd with rfl|hd
    ·exact absurd he.symm h1.1
    ·exact h1.2.2 d hd he
  ·intro h2
   by_cases e2:c.key=x.key
   ·have:c=x:=O c h2.1 x Ai e2 (by
     have g1:=h2.2 x Ai e2.symm;have g2:=J.2 c h2.1 e2;omega)
    rw[this];exact Ai
   ·refine Aj _ ((Y c).2 ⟨e2,?_⟩);rcases Ah.1 h2.1 with rfl|h1
    ·exact absurd rfl e2
    ·exact⟨h1,λd hd=>h2.2 d (Aj _ hd)⟩
def Told (l:List Cell)(M:List Rw):Prop:=(M.Pairwise λa b=>F6 a.key b.key=true)/\∀r,r∈M↔∃c,Kn l c/\c.del=false/\r=⟨c.key,c.val,false⟩
variable {M:List Rw}
def X8g {M':List Rw}(h:Told l M)(h':Told l M'):M=M':=
 U6 (lt:=λa b:Rw=>F6 a.key b.key) (λx=>IN _) (λx y=>KM) M M' h.1 h'.1 λr=>(h.2 r).trans (h'.2 r).symm
def IE (m:List Cell):List Rw:=(m.filter λc=>!c.del).map λc=>⟨c.key,c.val,false⟩
def X8h (hq:JW l)(h:Mg l m):Told l (IE m):=by
 obtain⟨h1,h2⟩:=PU hq h;refine⟨?_,λr=>?_⟩
 ·unfold IE;rw[List.pairwise_map];exact Fa (λh=>h) (CR _ h1)
 ·unfold IE;simp only [Ao,Ax,BW]
  constructor
  ·rintro ⟨c,⟨hc,hd⟩,rfl⟩;exact⟨c,(h2 c).1 hc,hd,rfl⟩
  ·rintro ⟨c,hc,hd,rfl⟩;exact⟨c,⟨(h2 c).2 hc,hd⟩,rfl⟩
variable {l':List Cell}
def QI (h:Told l M)(hs:∀c∈l',c∈l)(hk:∀c,Kn l c->c∈l'\/(c.del=true/\∀d∈l',d.key≠c.key)):Told l' M:=by
 refine⟨h.1,λr=>?_⟩;rw[h.2 r]
 constructor
 ·rintro ⟨c,hc,hd,rfl⟩;rcases hk c hc with h1|⟨h1,_⟩
  ·exact⟨c,⟨h1,λd hd he=>hc.2 d (hs d hd) he⟩,hd,rfl⟩
  ·rw[h1]at hd;cases hd
 ·rintro ⟨c,hc,hd,rfl⟩;rcases SE c.key l with h1|⟨t,ht,htk⟩
  ·exact absurd rfl (h1 c (hs c hc.1))
  ·rcases hk t ht with h2|⟨_,h2⟩
   ·refine⟨c,⟨hs c hc.1,λd hd he=>?_⟩,hd,rfl⟩;have g1:=ht.2 d hd (he.trans htk.symm);have g2:=hc.2 t h2 htk;omega
   ·exact absurd htk.symm (h2 c hc.1)
def Ia (M:List Rw)(c:Cell):List Rw:=(M.filter λr=>F6 r.key c.key)++((if c.del then[]else[⟨c.key,c.val,false⟩])++M.filter λr=>F6 c.key r.key)
def Xy3 {c:Cell}(h:Told l M)(hn:∀d∈l,d.key=c.key->d.seq<c.seq):Told (c :: l) (Ia M c):=by
 have H:∀d:Cell,Kn (c :: l) d↔(d=c\/(d.key≠c.key/\Kn l d)):=λd=>by
  constructor
  ·rintro ⟨h1,h2⟩;rcases Ah.1 h1 with rfl|h1
   ·exact .inl rfl
   ·refine .inr ⟨λe=>?_,h1,λx z=>h2 x (Aj _ z)⟩;have g1:=h2 c Ai e.symm;have g2:=hn d h1 e;omega
  ·rintro (rfl|⟨h1,h2⟩)
   ·refine⟨Ai,λx z he=>?_⟩;rcases Ah.1 z with rfl|z
    ·exact Cg _
    ·have:=hn x z he;omega
   ·refine⟨Aj _ h2.1,λx z he=>?_⟩;rcases Ah.1 z with rfl|z
    ·exact absurd he.symm h1
    ·exact h2.2 x z he
 refine⟨?_,λr=>?_⟩
 ·unfold Ia;refine Bw.2 ⟨CR _ h.1,Bw.2 ⟨?_,CR _ h.1,λx z y J=>?_⟩,λx z y J=>?_⟩
  ·split
   ·exact Bu
   ·exact Dd _ _
  ·split at z
   ·cases z
   ·rw[Af.1 z];exact(Ax.1 J).2
  ·have O:=(Ax.1 z).2;rcases Al.1 J with J|J
   ·split at J
    ·cases J
    ·rw[Af.1 J];exact O
   ·exact Kg _ _ _ O (Ax.1 J).2
 ·have Y:r∈Ia M c↔((r∈M/\r.key≠c.key)\/(c.del=false/\r=⟨c.key,c.val,false⟩)):=by
   unfold Ia;simp only [Al,Ax]
   constructor
   ·rintro (⟨h1,h2⟩|h1|⟨h1,h2⟩)
    ·exact .inl ⟨h1,N4 h2⟩
    ·split at h1
     ·cases h1
     ·rename_i Z;exact .inr ⟨by simpa using Z,Af.1 h1⟩
    ·exact .inl ⟨h1,(N4 h2).symm⟩
   ·rintro (⟨h1,h2⟩|⟨h1,rfl⟩)
    ·rcases KC r.key c.key with e|e|e
     ·exact absurd e h2
     ·exact .inl ⟨h1,e⟩
     ·exact .inr (.inr ⟨h1,e⟩)
    ·right;left;rw[if_neg (by rw[h1];decide)];exact Af.2 rfl
  rw[Y,h.2 r]
  constructor
  ·rintro (⟨⟨d,hd,h1,rfl⟩,h2⟩|⟨h1,rfl⟩)
   ·exact⟨d,(H d).2 (.inr ⟨h2,hd⟩),h1,rfl⟩
   ·exact⟨c,(H c).2 (.inl rfl),h1,rfl⟩
  ·rintro ⟨d,hd,h1,rfl⟩;rcases(H d).1 hd with rfl|⟨h2,h3⟩
   ·exact .inr ⟨h1,rfl⟩
   ·exact .inl ⟨⟨d,h3,h1,rfl⟩,h2⟩
def Xlu (h:Told l M)(he:∀c,c∈l↔c∈l'):Told l' M:=
 QI h (λc r=>(he c).2 r) λc r=>.inl ((he c).1 r.1)
def Y3 : ∀(cs:List Cell) {l:List Cell} {M:List Rw},Told l M->J1 cs->(∀d∈l,∀c∈cs,d.key=c.key->d.seq<c.seq)->Told (cs++l) (cs.foldl Ia M)
 | [],l,M,h,_,_=>h
 | c :: cs,l,M,h,hk,hn=>by
  rw[J1,AN]at hk;have h1:=Xy3 (c:=c) h (λd hd=>hn d hd c Ai);have h2:=Y3 cs h1 hk.2 λd hd x r he=>by
   rcases Ah.1 hd with rfl|hd
   ·have:=hk.1 x r;rw[he,IN]at this;cases this
   ·exact hn d hd x (Aj _ r) he
  refine Xlu h2 λx=>?_;simp only [Al,Ah]
  constructor
  ·rintro (h|h|h)
   ·exact .inl (.inr h)
   ·exact .inl (.inl h)
   ·exact .inr h
  ·rintro ((h|h)|h)
   ·exact .inr (.inl h)
   ·exact .inl h
   ·exact .inr (.inr h)
end Go.Sp
namespace Go.Vc
open Go.RowKit
section
variable {α:Type}{enc:α->List Value}{sz T B:Nat}{w:World}
variable {P:Program}{n:Nat}{E:FF}{ds:List (Option Tmp)}{R:World->World->Prop}{rs:List (Oper×Fl×Bool)}{K:FF->World->Prop}{d:Nat}{pos:String}{af:Array Edge}{g:Option (Nat×Bool)}{anc:Bool}{ty:TypeId}
def Xy4 {s x:Operand}{t ti e by' m:Nat}(henc:∀x,(enc x).length=sz)(hg:FU ds E g=true)(ht:IS P t=some (e,sz))(hE:M4 P e sz by'=true)(hti:Ic P ti=some .i64)
  (hs:ev E s=.slice none 0 0) (hx:ev E x=I ↑m) (hm:0<m) (hbytes:m*by'<=140737488355328) (hby:1<=by') (hB:B<=w.heap.size) (hR:RX R anc)
  (h:∀v' w',Gq v' m->Own enc sz e B w' (Hg sz v' 0 0) []->Fq w w'->Dw P n ds R rs K (FW E d v') w') :
  Dw P n ds R ((⟨some d,.call { callee:=.builtin .append,args:=#[s,x],argTypes:=#[t,ti] },ty,pos,af,g⟩,.x,anc) :: rs) K E w:=by
 obtain⟨hu,_⟩:=KY ht;obtain⟨i,z,hi,hz,H,r,hj,hf⟩:=PE hE;have Z:P.underlying ti=some (.int .i64):=by
  unfold Ic at hti;split at hti
  ·rename_i k hk;cases hti;exact hk
  ·cases hti
 have hml:m<=140737488355328:=by have:=Nat.mul_le_mul_left m hby;omega
 have hh:IntKind.i64.wrap (m:Int)=m:=Lj FH;have h0:¬ ((m:Int)<0):=by omega
 have J:¬ (281474976710656<(m:Int)*(i.bytes:Int)):=by
  rw[r];have:((m*by':Nat):Int)<=140737488355328:=by omega
  rw[Int.natCast_mul]at this;omega
 have hn:m≠0:=by omega
 have hq:¬ (9223372036854775807<(m:Int)):=by omega
 have hl:¬ (281474976710656<Builtin.nextslicecap m 0*i.bytes):=by rw[nextslicecap_zero hm,r];omega
 have hc:¬ m*i.size=0:=by rw[H];exact Nat.ne_of_gt (Nat.mul_pos hm hf)
 have O:¬ i.size=0:=by omega
 have ha:grownCap w m 0 e<=maxLen:=grownCap_le_maxLen w m 0 e (by unfold maxLen;omega);have hp:=grownCap_ge w m 0 e;have hr:(Builtin.append_ #[t,ti] ty #[.slice none 0 0,I ↑m]).run P w=.ok (.slice (some ⟨w.heap.size,0,none⟩) m (grownCap w m 0 e)) (w.drew.alloc (.cells (Builtin.zeroCells z.cells m++Builtin.zeroCells z.cells (grownCap w m 0 e-m)) e)):=by
  simp [Builtin.append_,run_underlying hu,run_underlying Z,sizeOf,typeInfo,zeroValue,hi,hz,hn,hq,hl,Question.forced,run_firstCells_none,newRow,grownCap,asInt,asIntOf,hh,h0,J,hc,O]
 have Y:Fq w (w.drew.alloc (.cells (Builtin.zeroCells z.cells m++Builtin.zeroCells z.cells (grownCap w m 0 e-m)) e)):=Fq.trans (Fq.drew _) (Fq.alloc _ _);refine IA (v:=.slice (some ⟨w.heap.size,0,none⟩) m (grownCap w m 0 e)) (w':=_) hg ?_ (hR.use Y) (h _ _ (.inr (.inl ⟨_,_,_,rfl,hp⟩)) ?_ Y)
 ·simp only [execOp,resolve,invoke,builtin,Sem.run_bind,Sem.run_pure,Result.andThen_ok,List.map_toArray,Ak,Bg,hs,hx,hr]
 ·refine⟨by simp,.inr ⟨w.heap.size,grownCap w m 0 e,Builtin.zeroCells z.cells m++Builtin.zeroCells z.cells (grownCap w m 0 e-m),?_,hB,?_,Ab _,ha,?_,by simp⟩⟩
  ·simp [Hg,Addr.add]
  ·exact heap_alloc_new w.drew _
  ·simp only [Array.size_append,size_zeroCells,hj,<-Nat.add_mul]
   congr 1;omega
end
end Go.Vc
namespace Go.Proofs.YtiooodckiddpmaaGreatDoor
open Go.Vc Go.Sp
attribute [local irreducible] W XW Dw GC
def JP (a b:Cell):Int:=if less a b=true then -1 else if less b a=true then 1 else 0
def Xy5 : FZ JP=less:=by
 funext a b
 unfold FZ JP
 cases h:less a b with
 | true=>simp
 | false=>
  cases h2:less b a with
  | true=>simp
  | false=>simp
def X25 : Ord less:=⟨λx y z h1 h2=>(by
 cases h:less z x with
 | false=>rfl
 | true=>
  cases h3:less x y with
  | true=>rw[O2 h h3]at h2;cases h2
  | false=>
   have r:=S7 h1 h3;have:=JG z x;rw[h]at this;have h4:less z y=true:=(JG z y).2 (by
    rcases this.1 rfl with e|⟨e1,e2⟩
    ·exact .inl (by rw[r.1];exact e)
    ·exact .inr ⟨e1.trans r.1.symm,by omega⟩)
   rw[h4]at h2;cases h2),λx y h=>Xt7 h⟩
def X8i : Ord (FZ JP):=Xy5▸X25
@[reducible] def Lh (q:Value×List Cell):List Value:=[q.1]
variable {k:Nat}
def Xc {qs:List (Value×List Cell)}{q:Value×List Cell}(h:qs[k]?=some q):(qs.take (k+1)).flatMap (·.2)=(qs.take k).flatMap (·.2)++q.2:=by
 obtain⟨hk,rfl⟩:=Ar.1 h;rw[List.take_succ_eq_append_getElem hk,Bc];simp
def SY (qs:List (Value×List Cell))(k:Nat):((qs.take k).flatMap (·.2)).length<=(qs.flatMap (·.2)).length:=by
 have h:=congrArg (λm=>(m.flatMap (·.2)).length) (AV k qs);simp only [Bc,Ad]at h;omega
variable {l:List Cell}
def Yd {cur:List Cell}{i n:Nat}(hc:cur.length=l.length)(he:∀j,n<=j+1->cur[j]?=l[j]?)(hi:n<=k+i+1):((cur.take l.length).drop k)[i]?=l[k+i]?:=by
 rw[<-hc,AT,List.getElem?_drop,he _ hi]
def Ydq (a b:Cell)(w:World) :
  FX 98 [a.v,b.v] w (I (JP a b)):=by
 refine cE Tryz.func98 λr=>go ?_;refine G1 rfl rfl rfl RX.all (λb1 w1 e1 Z z=>?_);have g1:=r.ge e1;have r:=r.trans Z;refine G1 rfl rfl rfl RX.all (λb2 w2 e2 x2 J=>?_);have g2:=r.ge e2;have n2_1:=z.ltb e2;refine Fy x2 z r λz r=>go ?_;refine dq (Fx (k:=4) Ff rfl rfl z.row) (dq (Fx (k:=4) Ff rfl rfl J.row) (cP (Oj a b _) RX.all λw3 Y=>FC Y z J r λz J r=>?_));refine Gb (λH=>?_) λH=>?_
 ·refine go ?_;refine⟨?_,r⟩;unfold JP;rw[if_pos H]
 refine go ?_;refine dq (Fx (k:=4) Ff rfl rfl J.row) (dq (Fx (k:=4) Ff rfl rfl z.row) (cP (Oj b a _) RX.all λw4 x4=>?_));have r:=r.trans x4;refine Gb (λO=>?_) λO=>?_
 ·refine go ?_;refine⟨?_,r⟩;unfold JP;rw[if_neg (by rw[H];decide),if_pos O]
 refine go ?_;refine⟨?_,r⟩;unfold JP;rw[if_neg (by rw[H];decide),if_neg (by rw[O];decide)]
def Ydr (a b:Cell)(w:World) :
  FX 101 [a.v,b.v] w (B (KL a b)):=by
 refine cE Tryz.func101 λr=>go ?_;refine G1 rfl rfl rfl RX.all (λb1 w1 e1 H z=>?_);have g1:=r.ge e1;have r:=r.trans H;refine G1 rfl rfl rfl RX.all (λb2 w2 e2 J m2=>?_);have g2:=r.ge e2;have n2_1:=z.ltb e2;refine Fy J z r λz r=>go ?_;refine dp (KI rfl rfl) (go ?_);exact⟨rfl,r⟩
def X8j (n:Nat)(w:World)(hn:n<=10000000) :
  Gi 179 [.slice none 0 0,I ↑n] w λu w'=>Vc.Own Cell.cs 4 79 w.heap.size w' u []:=by
 refine cE Tryz.func179 λr=>?_;refine Fk (λJ=>?_) λJ=>?_
 ·omega
 refine go ?_;refine dp (XA (e:=79) (k:=4) Ff rfl) (go ?_);refine dp (OM (e:=79) (k:=4) (n:=0) Ff (.inl ⟨rfl,rfl⟩) rfl) (F3 (v:=I 0) rfl (G7 (a:=0) (b:=0) rfl rfl FH) rfl (F3 (v:=I ↑n) rfl (G7 rfl rfl FH) FY ?_));refine Fk (λH=>?_) λH=>?_
 ·refine go ?_;refine dp (XA (e:=79) (k:=4) Ff rfl) (F3 (v:=.slice none 0 0) rfl (HH (e:=79) (k:=4) (m:=0) (a:=0) (b:=0) Ff (.inl ⟨rfl,rfl⟩) rfl rfl rfl (Aa 0) (Aa 0)) rfl (go ?_));refine Xy4 (enc:=Cell.cs) (sz:=4) (e:=79) (m:=n) (by':=48) (B:=w.heap.size) Fg rfl Ff Ff Ff rfl rfl Fe Fe Fo r.size RX.all (λva w1 z ho O=>?_);have r:=r.trans O;refine go ?_;refine dp (OM (e:=79) (k:=4) (n:=0) Ff (.inl ⟨rfl,rfl⟩) rfl) (dp (HH (e:=79) (k:=4) (a:=0) (b:=0) Ff z rfl rfl rfl (Aa 0) (Ab _)) (go ?_));exact⟨_,rfl,r,ho⟩
 refine go ?_;exact⟨_,rfl,r,Vc.Own.nil⟩
def Xy7 (qs:List (Value×List Cell))(v:Value)(w:World)(hv:Fu Lh 1 w v qs)(hq:∀q∈qs,Fu Cell.cs 4 w q.1 q.2)(hl:qs.length<=1000000)(htot:(qs.flatMap (·.2)).length<=10000000) :
  Gi 96 [v] w λu w'=>Vc.Own Cell.cs 4 79 w.heap.size w' u (qs.flatMap (·.2)):=by
 refine cE Tryz.func96 λr=>FM 95 1 (hv.ext r).sl ?_;refine F8 (G:=Nat) (λk=>[(0,v),(2,.slice none 0 0),(3,I ↑((qs.take k).flatMap (·.2)).length),(9,v),(10,I ↑qs.length),(11,I ↑k)]) (λk w'=>Fq w w'/\k<=qs.length) (λk=>qs.length-k) 0 ⟨r,Ab _⟩ ?_;rintro _ k w1 ⟨r,hk1⟩;refine Fk (λc1=>?_) λc1=>?_
 ·obtain⟨q,hk⟩:∃q,qs[k]?=some q:=F7;have J:=hq q (Ag hk);have H:=Xc hk;have ha:=SY qs (k+1);have z:=congrArg A9 H;rw[Ad]at z;refine FN 95 1 hv.sl (hv.lt hk) ?_;refine dl rfl (((hv.ext r).row hk).at0 rfl) (FM 79 4 J.sl ?_);refine F3 (v:=I ↑((qs.take (k+1)).flatMap (·.2)).length) rfl (GK rfl rfl FH) FY ?_;refine Fk (λc2=>?_) λc2=>?_
  ·omega
  refine go ?_;exact FL (k+1) ⟨r,by omega⟩
 refine Gj (X8j ((qs.take k).flatMap (·.2)).length _ (Ae (SY qs k) htot)) λvg w2 x2 Z=>?_;have Y:=r.size;have r:=r.trans x2;have ho:=Z.mono Y;refine FM 95 1 (hv.ext r).sl ?_;refine F8 (G:=Nat×Value) (λ(j,vb)=>[(2,.slice none 0 0),(6,vb),(25,v),(26,I ↑qs.length),(27,I ↑j)]) (λ(j,vb) w'=>Fq w w'/\j<=qs.length/\Vc.Own Cell.cs 4 79 w.heap.size w' vb ((qs.take j).flatMap (·.2))) (λ(j,vb)=>qs.length-j) (0,vg) ⟨r,Ab _,by simpa using ho⟩ ?_;rintro _ ⟨j,vb⟩ w3 ⟨r,hj1,ho⟩;refine Fk (λc3=>?_) λc3=>?_
 ·obtain⟨q,hk⟩:∃q,qs[j]?=some q:=F7;have J:=hq q (Ag hk);have H:=Xc hk;have ha:=SY qs (j+1);have z:=congrArg A9 H;rw[Ad]at z;refine FN 95 1 hv.sl (hv.lt hk) ?_;refine dl rfl (((hv.ext r).row hk).at0 rfl) (go ?_);refine Ht ho (J.ext r) λvp w4 O x4=>?_;have r:=r.own x4 F5;have ho:=O;refine go ?_;rw[<-H]at ho;exact FL (j+1,vp) ⟨r,by omega,ho⟩
 refine go ?_;rw[Av Fe]at ho;exact⟨_,rfl,r,ho⟩
def X8k (l:List Cell)(v:Value)(Bo f:Nat)(p:Cell->Cell->Bool)(w:World)(ho:Vc.Own Cell.cs 4 79 Bo w v l)(hl:l.length<=10000000)(hcb:Hr Tryz.prog f=true)(hc:∀w2 x y,Calls Tryz.prog f [Cell.v x,Cell.v y].toArray w2 (Pure w2 (B (p x y)))) :
  G4 100 [v,Hf f] w (λk=>v.ownBlock=some k) λu w'=>Vc.Own Cell.cs 4 79 Bo w' u (Ki p l)/\u.ownBlock=v.ownBlock:=by
 refine cM Tryz.func100 (λk=>v.ownBlock=some k) λr=>?_;have J:=ho.sl;refine go ?_;refine dv 79 4 (ho.arr Fg).sl ?_;refine Fk (λc1=>?_) λc1=>?_
 ·refine go ?_;exact⟨_,rfl,r,by rw[Xqy Fe];exact ho,rfl⟩
 refine F8 (G:=Nat) (λk=>[(0,v),(1,Hf f),(5,I ↑k)]) (λk w'=>Mod (λk=>v.ownBlock=some k) w w'/\1<=k/\k<=l.length/\Ki p (l.take k)=l.take k/\Vc.Own Cell.cs 4 79 Bo w' v l) (λk=>l.length-k) 1 ⟨r,Aa _,by omega,WE p l,ho⟩ ?_;rintro _ k w1 ⟨r,hk1,hkl,hcn,ho⟩;refine go ?_;refine dv 79 4 (ho.arr Fg).sl ?_;refine Fk (λc2=>?_) λc2=>?_
 ·obtain⟨x,hxk⟩:∃x,l[k]?=some x:=F7;obtain⟨y,hyk⟩:∃x,l[k-1]?=some x:=F7;refine Gt 151000010000 λw2 x2=>Fy x2 ho r λho r=>?_;refine go ?_;refine di 79 4 (ho.arr Fg).sl rfl ((ho.arr Fg).lt hxk) (Gh rfl (λw' hR=>Fx Ff rfl rfl (((ho.arr Fg).ext hR).row hxk)) (gn ?_));refine F3 (v:=I ↑(k-1)) rfl (G7 rfl rfl FH) FY (di 79 4 (ho.arr Fg).sl rfl ((ho.arr Fg).lt hyk) (Gh rfl (λw' hR=>Fx Ff rfl rfl (((ho.arr Fg).ext hR).row hyk)) (Mm (vs:=[x.v,y.v]) rfl rfl hcb (hc _ x y) rfl RX.all (λw3 x3=>Fy x3 ho r λho r=>?_))));refine Gb (λc3=>?_) λc3=>?_
  ·refine go ?_;refine dp (HH (e:=79) (k:=4) (m:=l.length) (a:=k) (b:=l.length) Ff J rfl rfl rfl Fe Fe) (F8 (G:=Nat×Nat×List Cell) (λ(i,k2,cur)=>[(0,v),(1,Hf f),(5,I ↑k2),(6,Hg 4 v k l.length),(7,I ↑i)]) (λ(i,k2,cur) w'=>Mod (λk=>v.ownBlock=some k) w w'/\1<=i/\Le p l (k+i) k2 cur/\Vc.Own Cell.cs 4 79 Bo w' v cur) (λ(i,k2,cur)=>l.length-(k+i)) (1,k,l) ⟨r,Aa _,Ybs Fe hcn hxk hyk c3,ho⟩ ?_);rintro _ ⟨i,k2,cur⟩ w4 ⟨r,hi1,hr,ho⟩;have O:=hr.1;have hr2:=hr.2.1;have hr3:=hr.2.2.1;have hlen9:((cur.take l.length).drop k).length=l.length-k:=by rw[Bd,AE];omega
   refine go ?_;refine dv 79 4 ((ho.arr Fg).slice (lo:=k) (hi:=l.length) Fe Fe).sl ?_;refine Fk (λc4=>?_) λc4=>?_
   ·obtain⟨x,hxl⟩:∃x,l[k+i]?=some x:=F7;obtain⟨y,hyl⟩:∃x,l[k+i-1]?=some x:=F7;have Y:((cur.take l.length).drop k)[i]?=some x:=(Yd O hr.2.2.2.2 Fe).trans hxl;have Z:((cur.take l.length).drop k)[i-1]?=some y:=(Yd O hr.2.2.2.2 Fe).trans (by rw[<-hyl];congr 1;omega);have ha:=Kz ho (λe=>by rw[e]at O;simp at O;omega);refine Gt 1051000010000 λw5 x5=>Fy x5 ho r λho r=>?_;refine go ?_;refine di 79 4 ((ho.arr Fg).slice (lo:=k) (hi:=l.length) Fe Fe).sl rfl (((ho.arr Fg).slice (lo:=k) (hi:=l.length) Fe Fe).lt Y) (Gh rfl (λw' hR=>Fx Ff rfl rfl ((((ho.arr Fg).slice (lo:=k) (hi:=l.length) Fe Fe).ext hR).row Y)) (gn ?_));refine F3 (v:=I ↑(i-1)) rfl (G7 rfl rfl FH) FY (di 79 4 ((ho.arr Fg).slice (lo:=k) (hi:=l.length) Fe Fe).sl rfl (((ho.arr Fg).slice (lo:=k) (hi:=l.length) Fe Fe).lt Z) (Gh rfl (λw' hR=>Fx Ff rfl rfl ((((ho.arr Fg).slice (lo:=k) (hi:=l.length) Fe Fe).ext hR).row Z)) (Mm (vs:=[x.v,y.v]) rfl rfl hcb (hc _ x y) rfl RX.all (λw6 x6=>Fy x6 ho r λho r=>?_))));refine Gb (λc5=>?_) λc5=>?_
    ·refine go ?_;refine di 79 4 ((ho.arr Fg).slice (lo:=k) (hi:=l.length) Fe Fe).sl rfl (((ho.arr Fg).slice (lo:=k) (hi:=l.length) Fe Fe).lt Y) (dq (Fx Ff rfl rfl (((ho.arr Fg).slice (lo:=k) (hi:=l.length) Fe Fe).row Y)) (F3 (v:=Fh (base v).1 (k2*4+0)) rfl (Ir (i:=k2) (e:=79) (k:=4) Ff ho.sl rfl rfl Fe) (by rw[ha];show Fh _ (0+_)=_;rw[A5];rfl) ?_));refine Ie (enc:=Cell.cs) (sz:=4) (l:=cur) (i:=k2) (j:=0) (x:=x) (vs:=x.cs) Fg rfl ho rfl rfl rfl Ff Fe rfl (Aa 4) (by intro v hv;simp at hv;rcases hv with rfl|rfl|rfl|rfl<;>rfl) (.inl rfl) (λw7 x7 xs7 H=>?_);have r:=r.own x7 F5;have ho:=H;refine go ?_;exact⟨(i+1,k2+1,_),Hc,⟨r,by omega,Xtc hr hxl hyl (by simpa using c5),ho⟩,by simp only [];omega⟩
    refine go ?_;exact⟨(i+1,k2,cur),Hc,⟨r,by omega,Xyv hr hxl hyl (by simpa using c5),ho⟩,by simp only [];omega⟩
   refine go ?_;refine dp (HH (e:=79) (k:=4) (m:=cur.length) (a:=k2) (b:=cur.length) Ff ho.sl rfl rfl rfl Fe Fe) ?_;refine Yv (enc:=Cell.cs) (sz:=4) (e:=79) (l:=cur) (k:=k2) (zs:=[S [],S [],B false,.int .i64 0]) Fg rfl Ff Ff rfl Fo (by intro z hz;simp at hz;rcases hz with rfl|rfl|rfl|rfl<;>rfl) ho rfl Fe (.inl rfl) (λw8 x8 xs8 H=>?_);have r:=r.own x8 F5;have ho:=H;refine go ?_;refine dp (HH (e:=79) (k:=4) (m:=l.length) (a:=0) (b:=k2) Ff J rfl rfl rfl Fe Fe) (go ?_);rw[hr.2.2.2.1,Av Fe]at ho;exact⟨_,rfl,r,ho,Xoy J⟩
  refine go ?_;exact FL (k+1) ⟨r,by omega,by omega,by rw[Rq Fe hxk hyk,if_neg (by rw[c3];decide),hcn,List.take_add_one,hxk];rfl,ho⟩
 refine go ?_;rw[Av Fe]at hcn;exact⟨_,rfl,r,by rw[hcn];exact ho,rfl⟩
def TC (qs:List (Value×List Cell))(v:Value)(w:World)(hv:Fu Lh 1 w v qs)(hq:∀q∈qs,Fu Cell.cs 4 w q.1 q.2)(hl:qs.length<=1000000)(htot:(qs.flatMap (·.2)).length<=10000000) :
  Gi 45 [v] w λu w'=>∃m,Mg (qs.flatMap (·.2)) m/\Vc.Own Cell.cs 4 79 w.heap.size w' u m:=by
 refine cE Tryz.func45 λr=>Gj (Xy7 qs v _ (hv.ext r) (λq h=>(hq q h).ext r) hl htot) λvb w1 x1 O=>?_;have z:=r.size;have r:=r.trans x1;have ho:=O.mono z;refine Gz (Ybx _ vb w.heap.size 98 JP _ ho htot Ff (λw2 x y=>Ydq x y w2) X8i) λu2 w2 x2 Y=>?_;have hsz2:=r.size;have r:=r.own x2 F5;obtain⟨rfl,l2,ho,H,J⟩:=Y;rw[Xy5]at J;refine Gz (X8k l2 vb w.heap.size 101 KL _ ho (by have:=H.length_eq;omega) Ff (λw2 x y=>Ydr x y w2)) λvr w3 x3 Z=>?_;have hsz3:=r.size;have r:=r.own x3 F5;obtain⟨ho,_⟩:=Z;refine go ?_;exact⟨_,rfl,r,_,⟨l2,H,J,rfl⟩,ho⟩
def J4 (s:List (List Cell)×Nat)(c:Cell):List (List Cell)×Nat:=if s.1=[]\/4096<s.2+GB c then(s.1++[[c]],GB c)else(s.1.dropLast++[s.1.getLastD []++[c]],s.2+GB c)
def Jb (l:List Cell)(k:Nat):List (List Cell)×Nat:=(l.take k).foldl J4 ([],0)
def Gc (l:List Cell):List (List Cell):=(l.foldl J4 ([],0)).1
def Pu {c:Cell}(h:l[k]?=some c):Jb l (k+1)=J4 (Jb l k) c:=by
 unfold Jb;rw[GW h,BA];rfl
def Tn (h:l.length<=k):(Jb l k).1=Gc l:=by unfold Jb Gc;rw[Av h]
def Xq4 (s:List (List Cell)×Nat)(c:Cell):(J4 s c).1.flatten=s.1.flatten++[c]/\(J4 s c).1.length<=s.1.length+1:=by
 unfold J4;split
 ·simp
 ·rename_i h;rw[not_or]at h;rcases List.eq_nil_or_concat s.1 with e|⟨a,b,e⟩
  ·exact absurd e h.1
  ·rw[e];simp
def NW (l:List Cell):∀k,k<=l.length->(Jb l k).1.flatten=l.take k/\(Jb l k).1.length<=k
 | 0,_=>⟨rfl,Aa _⟩
 | k+1,h=>by
  have r:=NW l k Fe;have hk:l[k]?=some l[k]:=Aq Fe;have h2:=Xq4 (Jb l k) l[k];rw[Pu hk,h2.1,r.1,<-GW hk];exact⟨rfl,by omega⟩
def PN (l:List Cell):(Gc l).flatten=l:=by
 rw[<-Tn (Aa l.length),(NW l _ (Aa _)).1,AT]
variable {sg:List Cell}{ss:List (List Cell)}
def Yb3 (h:ss.flatten=l)(hs:sg∈ss):sg.length<=l.length:=by
 subst h;rw[List.length_flatten]
 induction ss with
 | nil=>cases hs
 | cons a r ih=>
  simp only [Ak,A4];rcases Ah.1 hs with rfl|hs
  ·omega
  ·have:=ih hs;omega
def Y9 (hc:∀c∈l,GB c<=30000):∀k,k<=l.length->(Jb l k).2<=30000
 | 0,_=>Ab _
 | k+1,h=>by
  have hk:l[k]?=some l[k]:=Aq Fe;rw[Pu hk];have:=hc l[k] (List.getElem_mem _);unfold J4;split
  ·exact this
  ·rename_i h2;rw[not_or]at h2;show(Jb l k).2+GB l[k]<=30000;omega
variable {s:List (List Cell)×Nat}
def Xup {c:Cell}(h:(∀g∈s.1,g.length<=4096)/\(s.1.getLastD []).length<=s.2):(∀g∈(J4 s c).1,g.length<=4096)/\((J4 s c).1.getLastD []).length<=(J4 s c).2:=by
 have z:1<=GB c:=by unfold GB;omega
 unfold J4;split
 ·refine⟨λg r=>?_,by simpa using z⟩;rcases Al.1 r with r|r
  ·exact h.1 g r
  ·rw[Af.1 r];simp
 ·rename_i h2;rw[not_or]at h2;have h3:=h.2;have h4:(s.1.getLastD []++[c]).length<=s.2+GB c:=by rw[Ad,List.length_singleton];omega
  refine⟨λg r=>?_,by simpa using h4⟩;rcases Al.1 r with r|r
  ·exact h.1 g (EM _ r)
  ·rw[Af.1 r];omega
def IY (l:List Cell):∀g∈Gc l,g.length<=4096:=by
 unfold Gc
 suffices hs:∀(l:List Cell) (s:List (List Cell)×Nat),(∀g∈s.1,g.length<=4096)/\(s.1.getLastD []).length<=s.2->∀g∈(l.foldl J4 s).1,g.length<=4096 from hs l _ ⟨λg z=>(by cases z),Aa _⟩
 intro l
 induction l with
 | nil=>exact λs h=>h.1
 | cons c r ih=>exact λs h=>ih _ (Xup h)
def Xy {c:Cell}(h:s.1=[]\/4096<s.2+GB c):J4 s c=(s.1++[[]++[c]],0+GB c):=by unfold J4;rw[if_pos h,A5];rfl
def Xuq {s:List Cell}{z:Nat}{c:Cell}(h:¬ 4096<z+GB c):J4 (ss++[s],z) c=(ss++[s++[c]],z+GB c):=by
 unfold J4;rw[if_neg (by rw[not_or];exact⟨by simp,h⟩)];simp
structure Md where
 f:Fi
 vl:Value
 vb:Value
@[reducible] def Md.cs (m:Md):List Value:=[I m.f.id,I m.f.lev,I m.f.size,S m.f.fst,S m.f.lst,m.vl,m.vb]
@[reducible] def Md.v (m:Md):Value:=.agg ⟨m.cs⟩
structure MdR (w:World)(v:Value)(l:List Md):Prop where
 row:∀ {i:Nat} {x:Md},l[i]?=some x->Jy w (base v).1 (i*7+0) x.cs
section
variable {b0 B B1:Nat}{lv next:Int}{w w':World}{v va:Value}{S:Nat->Prop}
variable {l:List Md}
def TZ (h:Vc.Own Md.cs 7 161 B w v l):MdR w v l:=⟨λ {i x} hi=>by
 have h2:=(h.arr Fg).row hi;rw[Kz h (λe=>by rw[e]at hi;simp at hi),A5]at h2;exact h2⟩
def QJ {α:Type}(ys:List α)(x z:α):(ys++[x]).getD ys.length z=x:=by simp
def Q5 {α:Type}(ys:List α)(x z:α):(ys++[x]).set ys.length z=ys++[z]:=by simp
def Nb (b0:Nat)(lv next:Int)(i:Nat)(x:Md)(sg:List Cell)(w:World):Prop:=x.f.id=next+↑i/\x.f.lev=lv/\x.f.size=0/\x.f.fst=(GH sg 0).key/\x.f.lst=(GH sg (sg.length-1)).key/\x.vb=.slice none 0 0/\sg≠[]/\Vc.Own Cell.cs 4 79 b0 w x.vl sg
variable {i:Nat}{sg:List Cell}
def Nb.mod {x:Md}(h:Nb b0 lv next i x sg w)(m:Vc.Mod S w w')(hS:∀k,x.vl.ownBlock=some k->¬ S k):Nb b0 lv next i x sg w':=by
 obtain⟨h1,h2,h3,h4,r,H,J,z⟩:=h;exact⟨h1,h2,h3,h4,r,H,J,z.mod m hS⟩
def JL (b0 B1:Nat)(lv next:Int)(ys:List Md)(ss:List (List Cell))(w:World):Prop:=ys.length=ss.length/\∀i x sg,ys[i]?=some x->ss[i]?=some sg->Nb b0 lv next i x sg w/\∀k,x.vl.ownBlock=some k->k<B1
variable {ss:List (List Cell)}{ys:List Md}
def JL.mod (h:JL b0 B1 lv next ys ss w)(m:Vc.Mod S w w')(hS:∀x∈ys,∀k,x.vl.ownBlock=some k->¬ S k):JL b0 B1 lv next ys ss w':=
 ⟨h.1,λi x sg r hs=>⟨(h.2 i x sg r hs).1.mod m (hS x (Ag r)),(h.2 i x sg r hs).2⟩⟩
def JL.ext (h:JL b0 B1 lv next ys ss w)(m:Fq w w'):JL b0 B1 lv next ys ss w':=h.mod m (λ_ _ _ _ h=>h)
instance {ys : List Md} {ss:List (List Cell)} : Up w w' (JL b0 B1 lv next ys ss w) (JL b0 B1 lv next ys ss w'):=⟨λx h=>h.ext x⟩
def JL.at (h:JL b0 B1 lv next ys ss w){x:Md}(hx:x∈ys):∃i sg,Nb b0 lv next i x sg w/\∀k,x.vl.ownBlock=some k->k<B1:=by
 obtain⟨i,hi⟩:=AK hx;have r:=(Ar.1 hi).1;exact⟨i,_,h.2 i x _ hi (Aq (by rw[<-h.1];exact r))⟩
def JL.ne (h:JL b0 B1 lv next ys ss w)(ho:Vc.Own Md.cs 7 161 B w va l):∀x∈ys,∀k,x.vl.ownBlock=some k->¬ va.ownBlock=some k:=λx r k hk=>by
 obtain⟨i,sg,z,_⟩:=h.at r;exact z.2.2.2.2.2.2.2.ne ho rfl hk
variable {s:List Cell}
def JL.sep {vl:Value}(h:JL b0 B1 lv next ys ss w)(hl:Vc.Own Cell.cs 4 79 B1 w vl s):∀x∈ys,∀k,x.vl.ownBlock=some k->¬ vl.ownBlock=some k:=λx r k hk e=>by
 obtain⟨i,sg,_,h2⟩:=h.at r;have h3:=h2 k hk;have h4:=(hl.lt k e).1;omega
def K7 (b0:Nat)(lv next:Int)(xs:List Md)(R:List (List Cell))(w:World):Prop:=(xs=[]/\R=[])\/∃ys x ss s B1,xs=ys++[x]/\R=ss++[s]/\(b0<=B1/\Sz B1 w)/\JL b0 B1 lv next ys ss w/\Nb b0 lv next ys.length x s w/\Vc.Own Cell.cs 4 79 B1 w x.vl s
variable {R:List (List Cell)}{xs:List Md}
def K7.mod (h:K7 b0 lv next xs R w)(m:Vc.Mod S w w')(hS:∀x∈xs,∀k,x.vl.ownBlock=some k->¬ S k):K7 b0 lv next xs R w':=by
 rcases h with h|⟨ys,x,ss,s,B1,rfl,h2,h3,h4,h5,h6⟩
 ·exact .inl h
 ·exact .inr ⟨ys,x,ss,s,B1,rfl,h2,⟨h3.1,h3.2.mod m trivial⟩,h4.mod m (λz r=>hS z (Bl _ r)),h5.mod m (hS x F0),h6.mod m (hS x F0)⟩
def K7.lt (h:K7 b0 lv next xs R w):∀x∈xs,∀k,x.vl.ownBlock=some k->k<w.heap.size:=by
 rcases h with⟨rfl,_⟩|⟨ys,x,ss,s,B1,rfl,h2,h3,h4,h5,h6⟩
 ·intro x J;cases J
 ·intro z r k hk;rcases Al.1 r with r|r
  ·obtain⟨i,sg,H,_⟩:=h4.at r;exact(H.2.2.2.2.2.2.2.lt k hk).2
  ·rw[Af.1 r]at hk;exact(h6.lt k hk).2
def K7.ext (h:K7 b0 lv next xs R w)(m:Fq w w'):K7 b0 lv next xs R w':=h.imp (λh=>h) λ⟨ys,x,ss,s,B1,h1,h2,h3,h4,h5,h6⟩=>⟨ys,x,ss,s,B1,h1,h2,⟨h3.1,h3.2.ext m⟩,h4.ext m,h5.mod m (λ_ _ h=>h),h6.ext m⟩
instance {xs : List Md} {R:List (List Cell)} : Up w w' (K7 b0 lv next xs R w) (K7 b0 lv next xs R w'):=⟨λx h=>h.ext x⟩
def K7.len (h:K7 b0 lv next xs R w):xs.length=R.length:=by
 rcases h with⟨rfl,rfl⟩|⟨ys,x,ss,s,B1,rfl,rfl,h3,h4,h5,h6⟩
 ·rfl
 ·simp [h4.1]
def K7.all (h:K7 b0 lv next xs R w)(hs:b0<=w.heap.size):∃Bn,b0<=Bn/\Sz Bn w/\JL b0 Bn lv next xs R w:=by
 refine⟨w.heap.size,hs,⟨Aa _⟩,?_⟩;rcases h with⟨rfl,rfl⟩|⟨ys,x,ss,s,B1,rfl,rfl,h3,h4,h5,h6⟩
 ·exact⟨rfl,λi x sg O=>by simp at O⟩
 ·refine⟨by simp [h4.1],λi z sg r hs=>?_⟩;have J:Nb b0 lv next i z sg w:=by
   rw[EN]at r hs;rw[<-h4.1]at hs;split at r
   ·rename_i hi;rw[if_pos hi]at hs;exact(h4.2 i z sg r hs).1
   ·rename_i hi;rw[if_neg hi]at hs;have H:i-ys.length=0:=by
     rcases CI (i-ys.length)with e|e
     ·exact e
     ·rw[Bi Gx]at r;cases r
    rw[H]at r hs;simp at r hs;subst r;subst hs;rw[show i=ys.length by omega];exact h5
  exact⟨J,λk hk=>(J.2.2.2.2.2.2.2.lt k hk).2⟩
def Ll (lv next:Int)(j:Nat)(sg:List Cell):Fi:=⟨next+↑j,lv,↑(Fz (FT sg)).length,(GH sg 0).key,(GH sg (sg.length-1)).key⟩
def JF (b0 B2:Nat)(lv next:Int)(i:Nat)(xs:List Md)(ss:List (List Cell))(w:World):Prop:=xs.length=ss.length/\∀j x sg,xs[j]?=some x->ss[j]?=some sg->(j<i->x.f=Ll lv next j sg/\IV sg=0/\Fu Fs 1 w x.vb (Fz (FT sg))/\B2<=(base x.vb).1/\x.vl.oneCell'=true)/\(i<=j->Nb b0 lv next j x sg w)
variable {B2:Nat}
def JF.mod (h:JF b0 B2 lv next i xs ss w)(ho:Vc.Own Md.cs 7 161 B w va l)(hv:∀k,va.ownBlock=some k->k<B2)(m:Vc.Mod (λk=>va.ownBlock=some k) w w'):JF b0 B2 lv next i xs ss w':=
 ⟨h.1,λj x sg H hs=>⟨λr=>by
  obtain⟨h1,h2,h3,h4,J⟩:=(h.2 j x sg H hs).1 r;exact⟨h1,h2,h3.mod m (λ_ e=>by have:=hv _ e;omega),h4,J⟩,λr=>by
  have z:=(h.2 j x sg H hs).2 r;exact z.mod m (λk hk=>z.2.2.2.2.2.2.2.ne ho rfl hk)⟩⟩
def JF.ext (h:JF b0 B2 lv next i xs ss w)(m:Fq w w'):JF b0 B2 lv next i xs ss w':=
 ⟨h.1,λj x sg z hs=>⟨λr=>by
  obtain⟨h1,h2,h3,h4,H⟩:=(h.2 j x sg z hs).1 r;exact⟨h1,h2,h3.ext m,h4,H⟩,λr=>((h.2 j x sg z hs).2 r).mod m (λ_ _ h=>h)⟩⟩
instance {B2 i:Nat} {xs:List Md} {ss:List (List Cell)} : Up w w' (JF b0 B2 lv next i xs ss w) (JF b0 B2 lv next i xs ss w'):=⟨λx h=>h.ext x⟩
def JF.zero (h:JL b0 B1 lv next xs ss w):JF b0 B2 lv next 0 xs ss w:=⟨h.1,λj x sg r hs=>⟨λz=>absurd z (Bh j),λ_=>(h.2 j x sg r hs).1⟩⟩
def JF.step {x:Md}{vb:Value}(h:JF b0 B2 lv next i xs ss w)(hx:xs[i]?=some x)(hs:ss[i]?=some sg)(hb:IV sg=0)(ha:Fu Fs 1 w vb (Fz (FT sg)))(hg:B2<=(base vb).1):
  JF b0 B2 lv next (i+1) (xs.set i ⟨⟨x.f.id,x.f.lev,↑(Fz (FT sg)).length,x.f.fst,x.f.lst⟩,x.vl,vb⟩) ss w:=by
 refine⟨by rw[AB];exact h.1,λj z sz H r=>?_⟩;have J:=(Ar.1 hx).1
 by_cases e:i=j
 ·subst e;rw[BI J]at H;rw[hs]at r
  cases H;cases r
  obtain⟨h1,h2,h3,h4,O,h6,h7,Y⟩:=(h.2 i x sg hx hs).2 (Aa _);exact⟨λ_=>⟨by unfold Ll;rw[h1,h2,h4,O],hb,ha,hg,Y.sl.one⟩,λhh=>by omega⟩
 ·rw[Cj e]at H;exact⟨λZ=>(h.2 j z sz H r).1 Fe,λZ=>(h.2 j z sz H r).2 Fe⟩
def L7 (b0:Nat)(lv next:Int)(xs:List Md)(ss:List (List Cell))(w:World):Prop:=xs.length=ss.length/\∀j x sg,xs[j]?=some x->ss[j]?=some sg->x.f=Ll lv next j sg/\IV sg=0/\Fu Fs 1 w x.vb (Fz (FT sg))/\b0<=(base x.vb).1/\x.vl.oneCell'=true
def JF.fin (h:JF b0 B2 lv next i xs ss w)(hi:xs.length<=i)(hb:b0<=B2):L7 b0 lv next xs ss w:=⟨h.1,λj x sg r hs=>by
 have hil:=(Ar.1 r).1;obtain⟨h1,h2,h3,h4,z⟩:=(h.2 j x sg r hs).1 Fe;exact⟨h1,h2,h3,Ae hb h4,z⟩⟩
def Xm (s:List Cell)(c:Cell):GH (s++[c]) ((s++[c]).length-1)=c:=by
 unfold GH;simp
def Yds (hs:s≠[])(c:Cell):GH (s++[c]) 0=GH s 0:=by
 cases s with
 | nil=>exact absurd rfl hs
 | cons a r=>rfl
end
def X8l (l:List Cell)(v:Value)(lv next:Int)(w:World)(hv:Fu Cell.cs 4 w v l)(hl0:l.length<=60000)(hc9:∀c∈l,c.key.length<=4096/\c.val.length<=16384)(hlv:0<=lv/\lv<=100)(hnx:0<=next/\next<=1099511627776) :
  Gi 90 [v,I lv,I next] w λu w'=>(∃sg∈Gc l,IV sg≠0/\u=.tuple #[.slice none 0 0,I (IV sg)])\/∃va xs,u=.tuple #[va,I 0]/\Vc.Own Md.cs 7 161 w.heap.size w' va xs/\L7 w.heap.size lv next xs (Gc l) w':=by
 refine cE Tryz.func90 λH=>FM 79 4 (hv.ext H).sl ?_;refine F8 (G:=Nat×List Md×Value) (λ(k,xs,va)=>[(1,I lv),(2,I next),(6,.slice none 0 0),(7,I 0),(8,va),(9,I ↑(Jb l k).2),(18,v),(19,I ↑l.length),(20,I ↑k)]) (λ(k,xs,va) w'=>Fq w w'/\k<=l.length/\(Jb l k).2<=30000/\Vc.Own Md.cs 7 161 w.heap.size w' va xs/\K7 w.heap.size lv next xs (Jb l k).1 w') (λ(k,xs,va)=>l.length-k) (0,[],.slice none 0 0) ⟨H,Ab _,Ab _,Vc.Own.nil,.inl ⟨rfl,rfl⟩⟩ ?_;rintro _ ⟨k,xs,va⟩ w1 ⟨H,hk1,hz1,ho,hI⟩;refine Fk (λc1=>?_) λc1=>?_
 ·obtain⟨c,hk⟩:∃c,l[k]?=some c:=F7;have hcs:=hc9 c (Ag hk);have hcz:GB c<=30000:=by unfold GB;omega
  have xp:=hI.len;have hrl:=(NW l k hk1).2;refine FN 79 4 hv.sl (hv.lt hk) ?_;refine dq (Fx Ff rfl rfl ((hv.ext H).row hk)) (aL [S [],S [],B false,.int .i64 0] λb1 w2 e1 x2 Z=>?_);have g1:=H.ge e1;have o1_ho:=ho.ltb e1;have hh:=hI.lt;refine FC x2 ho hI H λho hI H=>Gg Z (λw3 x3 xs3 Z=>?_);have ho:=ho.mod x3 Fw;have hI:=hI.mod x3 (λx9 ha k9 xr e9=>by have h2:k9=b1:=e9;have h8:=hh x9 ha k9 xr;omega);have H:=H.o1 x3;refine go ?_;refine dq (Fx (k:=4) Ff rfl rfl Z.row) (cP (Rt c _ Fe Fe) RX.all λw4 x4=>FQ x4 ho hI Z H λho hI Z H=>g0 ?_);refine GP (G:=List Md×Md×List (List Cell)×List Cell×Value×Nat×Nat) (λ(ys,x,ss,s,va,z,B1)=>[(1,I lv),(2,I next),(6,.slice none 0 0),(7,I 0),(8,va),(9,I ↑z),(11,Fh b1 0),(12,I ↑(GB c)),(18,v),(19,I ↑l.length),(20,I ↑k)]) (λ(ys,x,ss,s,va,z,B1) w'=>Fq w w'/\Fp w' b1 c.cs 79/\Jb l (k+1)=(ss++[s++[c]],z+GB c)/\w.heap.size<=B1/\z<=60000/\Sz B1 w'/\Vc.Own Md.cs 7 161 w.heap.size w' va (ys++[x])/\JL w.heap.size B1 lv next ys ss w'/\Vc.Own Cell.cs 4 79 B1 w' x.vl s/\x.f.id=next+↑ys.length/\x.f.lev=lv/\x.f.size=0/\x.f.fst=(GH (s++[c]) 0).key/\x.vb=.slice none 0 0/\ys.length<=k/\x.vl.ownBlock≠some b1) ?_ ?_
  ·refine go ?_;refine dv 161 7 (ho.arr Fg).sl ?_;refine FJ 29 (λc2=>?_) λc2=>?_
   ·obtain⟨Bn,h5,r,O⟩:=hI.all H.size;have hg:Jb l (k+1)=((Jb l k).1++[[]++[c]],0+GB c):=by rw[Pu hk,Xy (.inl (A0 Fe))]
    refine go ?_;refine GU rfl (go ?_);refine dv 161 7 (ho.arr Fg).sl (go ?_);refine db (zs:=[.int .i64 0,.int .i64 0,.int .i64 0,S [],S []]) (pl:=[(0,1),(1,1),(2,1),(3,1),(4,1)]) (pv:=[(0,_),(1,_),(3,_)]) (cs:=[_,_,.int .i64 0,_,S []]) ?_;refine db (zs:=[.int .i64 0,.int .i64 0,.int .i64 0,S [],S [],.slice none 0 0,.slice none 0 0]) (pl:=[(0,5),(5,1),(6,1)]) (pv:=[(0,.agg ⟨[_,_,_,_,_]⟩)]) (cs:=[_,_,_,_,_,.slice none 0 0,.slice none 0 0]) ?_;refine lA 161 rfl λb2 w5 e2 x5 m2=>?_;have g2:=H.ge e2;have n2_1:=Z.ltb e2;have o2_ho:=ho.ltb e2;refine Ga x5 ho Z O r H λho Z O r H=>?_;refine G8 (⟨⟨next+↑xs.length,lv,0,c.key,[]⟩,.slice none 0 0,.slice none 0 0⟩) ho m2 (λvn w6 J x6=>?_) (h1:=(by intro x ha u hu;rw[Af.1 ha]at hu;simp at hu;rcases hu with rfl|rfl|rfl|rfl|rfl|rfl|rfl<;>rfl));have Z:=Z.mod x6 Fw;have O:=O.mod x6 (by exact O.ne ho);have r:=r.mod x6 Fw;have H:=H.own x6 F5;have ho:=J;clear m2;refine go ?_;exact⟨(xs,⟨⟨next+↑xs.length,lv,0,c.key,[]⟩,.slice none 0 0,.slice none 0 0⟩,(Jb l k).1,[],vn,0,Bn),Ns,H,Z,hg,h5,Ab _,r,ho,O,Vc.Own.nil,rfl,rfl,rfl,rfl,rfl,by omega,by simp [Value.ownBlock]⟩
   refine Fk (λc3=>?_) λc3=>?_
   ·obtain⟨Bn,h5,r,O⟩:=hI.all H.size;have hg:Jb l (k+1)=((Jb l k).1++[[]++[c]],0+GB c):=by rw[Pu hk,Xy (.inr Fe)]
    refine go ?_;refine dv 161 7 (ho.arr Fg).sl (go ?_);refine db (zs:=[.int .i64 0,.int .i64 0,.int .i64 0,S [],S []]) (pl:=[(0,1),(1,1),(2,1),(3,1),(4,1)]) (pv:=[(0,_),(1,_),(3,_)]) (cs:=[_,_,.int .i64 0,_,S []]) ?_;refine db (zs:=[.int .i64 0,.int .i64 0,.int .i64 0,S [],S [],.slice none 0 0,.slice none 0 0]) (pl:=[(0,5),(5,1),(6,1)]) (pv:=[(0,.agg ⟨[_,_,_,_,_]⟩)]) (cs:=[_,_,_,_,_,.slice none 0 0,.slice none 0 0]) ?_;refine lA 161 rfl λb3 w7 e3 x7 m3=>?_;have g3:=H.ge e3;have n3_1:=Z.ltb e3;have o3_ho:=ho.ltb e3;refine Ga x7 ho Z O r H λho Z O r H=>?_;refine G8 (⟨⟨next+↑xs.length,lv,0,c.key,[]⟩,.slice none 0 0,.slice none 0 0⟩) ho m3 (λvn w8 J x8=>?_) (h1:=(by intro x ha u hu;rw[Af.1 ha]at hu;simp at hu;rcases hu with rfl|rfl|rfl|rfl|rfl|rfl|rfl<;>rfl));have Z:=Z.mod x8 Fw;have O:=O.mod x8 (by exact O.ne ho);have r:=r.mod x8 Fw;have H:=H.own x8 F5;have ho:=J;clear m3;refine go ?_;exact⟨(xs,⟨⟨next+↑xs.length,lv,0,c.key,[]⟩,.slice none 0 0,.slice none 0 0⟩,(Jb l k).1,[],vn,0,Bn),Ns,H,Z,hg,h5,Ab _,r,ho,O,Vc.Own.nil,rfl,rfl,rfl,rfl,rfl,by omega,by simp [Value.ownBlock]⟩
   rcases hI with⟨rfl,_⟩|⟨ys,x,ss,s,B1,rfl,hR,⟨hb1,r⟩,O,hL,Y⟩
   ·simp at c2
   have hq:x.vl.ownBlock≠some b1:=λe=>by have:=hh x F0 b1 e;omega
   refine go ?_;exact⟨(ys,x,ss,s,va,(Jb l k).2,B1),Ns,H,Z,by rw[Pu hk,show Jb l k=(ss++[s],(Jb l k).2) from Du hR rfl,Xuq Fe],hb1,by omega,r,ho,O,Y,hL.1,hL.2.1,hL.2.2.1,by rw[Yds hL.2.2.2.2.2.2.1];exact hL.2.2.2.1,hL.2.2.2.2.2.1,by simp at xp;omega,hq⟩
  rintro _ ⟨ys,x,ss,s,va,z,B1⟩ w9 ⟨H,Z,hR2,hb1,hz9,r,ho,O,Y,q1,q2,q3,q4,q5,q6,hq⟩;have xe:(ys++[x])[ys.length]?=some x:=by simp
  have xi:s.length<=60000:=by
   have h9:=(NW l (k+1) Fe).1;rw[hR2]at h9;have h8:=Yb3 h9 (show s++[c]∈ss++[s++[c]] by simp);rw[Ad,AE]at h8;omega
  refine go ?_;refine dv 161 7 (ho.arr Fg).sl (F3 (v:=I ↑ys.length) rfl (G7 rfl rfl (by unfold Ge;simp;omega)) (by show I _=I _;congr 1;simp) (F3 (v:=Fh (base va).1 (ys.length*7+0)) rfl (Ir (i:=ys.length) (e:=161) (k:=7) Ff ho.sl rfl rfl (by simp;done)) (by rw[Kz ho F0];show Fh _ (0+_)=_;rw[A5];rfl) (go ?_)));refine KK (R:=Mod (λk=>va.ownBlock=some k\/x.vl.ownBlock=some k)) Ij I0 Ff [6,10] (.one 0 .p false (.one 1 .p false (.one 2 .p false (.one 3 .p false (.one 4 .p false (.one 6 .l false (.one 9 .p false (.one 10 .l false (.fork (.alt 5 false (.one 7 .x false (.one 8 .x false (.one 11 .p false (.one 12 .p false (.one 13 .x false (.one 14 .p false (.one 15 .p false (.one 16 .p false (.one 17 .x true .nil))))))))) (.alt 7 false (.one 5 .x false (.one 8 .x false (.one 11 .p false (.one 12 .p false (.one 13 .x false (.one 14 .p false (.one 15 .p false (.one 16 .p false (.one 17 .x true .nil))))))))) .stop))))))))))) Ff Ff (λxm xc=>?_);have xw:=FE xc;clear xc;refine HB xw Z ho O Y r H λZ ho O Y r H=>go ?_;refine df 5 (rfl) (go ?_);refine Gh rfl (λw' hR=>Fx (k:=4) Ff rfl rfl (Z.mod hR (λe=>e.elim (λe=>ho.ne_blk Z rfl e) hq)).row) (go ?_);refine dL rfl (λ_ hR=>((Z.mod hR (λe=>e.elim (λe=>ho.ne_blk Z rfl e) hq)).at rfl)) (go ?_);refine Ji ?_;refine Hk ?_ ?_
  ·refine IA (v:=x.vl) (w':=xm) rfl (NE Ff rfl (((TZ ho).row xe).at rfl)) (λ_=>Ij _) (go ?_);refine lA 79 rfl (λb4 w11 e4 xk m4=>?_) (hR:=RX.mod);have g4:=H.ge e4;have o4_ho:=ho.ltb e4;have o4_hl:=Y.ltb e4;refine Ga xk ho O Y r H λho O Y r H=>go ?_;refine G8 c Y m4 (λvp w12 hj ht=>?_) (h1:=(by intro x ha u hu;rw[Af.1 ha]at hu;simp at hu;rcases hu with rfl|rfl|rfl|rfl<;>rfl)) (hb:=(by have:=xi;simp;omega)) (hB:=r.le) (hR:=(.inr (λw9 h9=>h9.mono (λi hi _=>.inr hi))));have ho:=ho.mod ht (by exact(λk hk=>ho.ne Y rfl hk));have O:=O.mod ht (by exact O.sep Y);have r:=r.mod ht Fw;have H:=H.own ht (λi hi=>(Ae hb1 (Y.lt i hi).1));have Y:=hj;clear m4;refine go ?_;refine df 5 (rfl) (go ?_);refine Ie (enc:=Md.cs) (sz:=7) (l:=(ys++[x])) (i:=ys.length) (j:=5) (x:=⟨x.f,vp,x.vb⟩) (vs:=[vp]) Fg rfl ho rfl rfl (by exact Y.sl.cells) Ff (by simp;done) (by rw[QJ];rfl) (An rfl) (by intro u hu;rw[Af.1 hu];exact Y.sl.one) (.inr (λw9 h9=>h9.mono (λi hi _=>.inl hi))) (λw13 hr xs13 J=>?_);have O:=O.mod hr (O.ne ho);have Y:=Y.mod hr (λk hk=>Y.ne ho rfl hk);have r:=r.mod hr trivial;have H:=H.own hr F5;have ho:=J;rw[Q5]at ho;refine go ?_;refine Ie (enc:=Md.cs) (sz:=7) (l:=(ys++[⟨x.f,vp,x.vb⟩])) (i:=ys.length) (j:=4) (x:=⟨⟨x.f.id,x.f.lev,x.f.size,x.f.fst,c.key⟩,vp,x.vb⟩) (vs:=[S c.key]) Fg rfl ho rfl rfl rfl Ff (by simp;done) (by rw[QJ];rfl) (An rfl) (by intro u hu;rw[Af.1 hu];rfl) (.inl rfl) (λw14 hw xs14 J=>?_);have O:=O.mod hw (O.ne ho);have Y:=Y.mod hw (λk hk=>Y.ne ho rfl hk);have r:=r.mod hw trivial;have H:=H.own hw F5;have ho:=J;rw[Q5]at ho;refine go ?_;have xd:=Y9 (l:=l) (λc hc=>by have:=hc9 c hc;unfold GB;omega) (k+1) Fe;refine⟨(k+1,ys++[⟨⟨x.f.id,x.f.lev,x.f.size,x.f.fst,c.key⟩,vp,x.vb⟩],va),?_,⟨H,by omega,xd,ho,.inr ⟨ys,_,ss,s++[c],B1,rfl,by rw[hR2],⟨hb1,r⟩,O,⟨q1,q2,q3,q4,by rw[Xm],q5,by simp,Y.mono hb1⟩,Y⟩⟩,by simp only [];omega⟩;dsimp only;rw[hR2];exact KZ
  refine Hk ?_ ?_
  ·refine lA 79 rfl (λb5 xq e5 xl m5=>?_) (hR:=RX.mod);have g5:=H.ge e5;have o5_ho:=ho.ltb e5;have o5_hl:=Y.ltb e5;refine Ga xl ho O Y r H λho O Y r H=>go ?_;refine IA (v:=x.vl) (w':=xq) rfl (NE Ff rfl (((TZ ho).row xe).at rfl)) (λ_=>Ij _) (go ?_);refine G8 c Y m5 (λvp w16 hj h6=>?_) (h1:=(by intro x ha u hu;rw[Af.1 ha]at hu;simp at hu;rcases hu with rfl|rfl|rfl|rfl<;>rfl)) (hb:=(by have:=xi;simp;omega)) (hB:=r.le) (hR:=(.inr (λw9 h9=>h9.mono (λi hi _=>.inr hi))));have ho:=ho.mod h6 (by exact(λk hk=>ho.ne Y rfl hk));have O:=O.mod h6 (by exact O.sep Y);have r:=r.mod h6 Fw;have H:=H.own h6 (λi hi=>(Ae hb1 (Y.lt i hi).1));have Y:=hj;clear m5;refine go ?_;refine df 5 (rfl) (go ?_);refine Ie (enc:=Md.cs) (sz:=7) (l:=(ys++[x])) (i:=ys.length) (j:=5) (x:=⟨x.f,vp,x.vb⟩) (vs:=[vp]) Fg rfl ho rfl rfl (by exact Y.sl.cells) Ff (by simp;done) (by rw[QJ];rfl) (An rfl) (by intro u hu;rw[Af.1 hu];exact Y.sl.one) (.inr (λw9 h9=>h9.mono (λi hi _=>.inl hi))) (λw17 xa xs17 J=>?_);have O:=O.mod xa (O.ne ho);have Y:=Y.mod xa (λk hk=>Y.ne ho rfl hk);have r:=r.mod xa trivial;have H:=H.own xa F5;have ho:=J;rw[Q5]at ho;refine go ?_;refine Ie (enc:=Md.cs) (sz:=7) (l:=(ys++[⟨x.f,vp,x.vb⟩])) (i:=ys.length) (j:=4) (x:=⟨⟨x.f.id,x.f.lev,x.f.size,x.f.fst,c.key⟩,vp,x.vb⟩) (vs:=[S c.key]) Fg rfl ho rfl rfl rfl Ff (by simp;done) (by rw[QJ];rfl) (An rfl) (by intro u hu;rw[Af.1 hu];rfl) (.inl rfl) (λw18 h7 xs18 J=>?_);have O:=O.mod h7 (O.ne ho);have Y:=Y.mod h7 (λk hk=>Y.ne ho rfl hk);have r:=r.mod h7 trivial;have H:=H.own h7 F5;have ho:=J;rw[Q5]at ho;refine go ?_;have xd:=Y9 (l:=l) (λc hc=>by have:=hc9 c hc;unfold GB;omega) (k+1) Fe;refine⟨(k+1,ys++[⟨⟨x.f.id,x.f.lev,x.f.size,x.f.fst,c.key⟩,vp,x.vb⟩],va),?_,⟨H,by omega,xd,ho,.inr ⟨ys,_,ss,s++[c],B1,rfl,by rw[hR2],⟨hb1,r⟩,O,⟨q1,q2,q3,q4,by rw[Xm],q5,by simp,Y.mono hb1⟩,Y⟩⟩,by simp only [];omega⟩;dsimp only;rw[hR2];exact KZ
  exact Jh
 have hnx9:xs.length<=60000:=by have h8:=hI.len;have h9:=(NW l k hk1).2;omega
 obtain⟨Bn,h5,_,O⟩:=hI.all H.size;rw[Tn Fe]at O;obtain⟨B2,hB2,hvf,hS,hP⟩:∃B2,w.heap.size<=B2/\(∀k,va.ownBlock=some k->k<B2)/\Sz B2 _/\JF w.heap.size B2 lv next 0 xs (Gc l) _:=⟨_,H.size,λk hk=>(ho.lt k hk).2,⟨Aa _⟩,JF.zero O⟩;clear O;refine go ?_;refine dv 161 7 (ho.arr Fg).sl (F8 (G:=Nat×List Md) (λ(i,ms)=>[(8,va),(72,va),(73,I ↑xs.length),(74,I ↑i)]) (λ(i,ms) w'=>Fq w w'/\i<=xs.length/\ms.length=xs.length/\Vc.Own Md.cs 7 161 w.heap.size w' va ms/\JF w.heap.size B2 lv next i ms (Gc l) w'/\Sz B2 w') (λ(i,ms)=>xs.length-i) (0,xs) ⟨H,Ab _,rfl,ho,hP,hS⟩ ?_);rintro _ ⟨i,ms⟩ w19 ⟨H,hi1,hml,ho,hP,hS⟩;refine Fk (λc4=>?_) λc4=>?_
 ·obtain⟨x,hk⟩:∃x,ms[i]?=some x:=F7;obtain⟨sg,hsi⟩:∃sg,(Gc l)[i]?=some sg:=⟨_,Aq (by have:=hP.1;omega)⟩;have xt:=(hP.2 i x sg hk hsi).2 (Aa _);have hsl9:=IY l _ (Ag hsi);have xh:ms≠[]:=λe=>by rw[e]at hk;simp at hk
  refine go ?_;refine F3 (v:=Fh (base va).1 (i*7+0)) rfl (Ir (i:=i) (e:=161) (k:=7) Ff ho.sl rfl rfl Fe) (by rw[Kz ho xh];show Fh _ (0+_)=_;rw[A5];rfl) (go ?_);refine df 5 (rfl) (dl rfl (((TZ ho).row hk).at rfl) ?_);have xv:=hS.le;refine cG (Yc sg x.vl _ ((xt.2.2.2.2.2.2.2.ext (Fq.refl _)).arr Fg) Fe) RX.all λu20 w20 xu xf=>?_;have hsz20:=H.size;refine FQ xu ho hP hS H λho hP hS H=>?_;obtain⟨xb,rfl,xn⟩:=xf;refine Fk (λc5=>?_) λc5=>?_
  ·refine go ?_;exact⟨_,rfl,H,.inl ⟨sg,Ag hsi,c5,rfl⟩⟩
  have xj:IV sg=0:=AF c5;obtain⟨hf,xo⟩:=xn xj;have xg:=Ae xv xo;refine FM 5 1 hf.sl ?_;refine go ?_;refine df 6 (rfl) ?_;refine Ie (enc:=Md.cs) (sz:=7) (l:=ms) (i:=i) (j:=6) (x:=⟨x.f,x.vl,xb⟩) (vs:=[xb]) Fg rfl ho rfl rfl (by exact hf.sl.cells) Ff (by omega) (by rw[BO,hk];rfl) (An rfl) (by intro u hu;rw[Af.1 hu];exact hf.sl.one) (.inl rfl) (λw21 hz xs21 J=>?_);have hP:=hP.mod ho hvf hz;have hf:=hf.mod hz (λ_ e=>by have:=hvf _ e;omega);have hS:=hS.mod hz trivial;have H:=H.own hz F5;have ho:=J;refine go ?_;refine Ie (enc:=Md.cs) (sz:=7) (l:=(ms.set i ⟨x.f,x.vl,xb⟩)) (i:=i) (j:=2) (x:=⟨⟨x.f.id,x.f.lev,↑(Fz (FT sg)).length,x.f.fst,x.f.lst⟩,x.vl,xb⟩) (vs:=[I ↑(Fz (FT sg)).length]) Fg rfl ho rfl rfl rfl Ff (by simp;omega) (by rw[BO,BI Fe];rfl) (An rfl) (by intro u hu;rw[Af.1 hu];rfl) (.inl rfl) (λw22 hp xs22 J=>?_);have hP:=hP.mod ho hvf hp;have hf:=hf.mod hp (λ_ e=>by have:=hvf _ e;omega);have hS:=hS.mod hp trivial;have H:=H.own hp F5;have ho:=J;rw[List.set_set]at ho;refine go ?_;exact⟨(i+1,_),Hn,⟨H,by omega,by rw[AB];exact hml,ho,hP.step hk hsi xj hf xg,hS⟩,by simp only [];omega⟩
 refine go ?_;exact⟨_,rfl,H,.inr ⟨va,ms,rfl,ho,hP.fin Fe hB2⟩⟩
@[reducible] def Yeh (q:Md×Fj):List Value:=q.1.cs
def Iy : List (Int×Fj)->Dsk->Int×Dsk
 | [],D=>(0,D)
 | q :: r,D=>if(D.save (GJ q.1) q.2).1≠0 then D.save (GJ q.1) q.2 else Iy r (D.save (GJ q.1) q.2).2
variable {D:Dsk}{qs:List (Int×Fj)}
def YA {q:Int×Fj}(h:qs[k]?=some q)(he:(D.save (GJ q.1) q.2).1≠0):Iy (qs.drop k) D=D.save (GJ q.1) q.2:=by
 rw[Ja h];unfold Iy;rw[if_pos he]
def Xti {q:Int×Fj}(h:qs[k]?=some q)(he:(D.save (GJ q.1) q.2).1=0):Iy (qs.drop k) D=Iy (qs.drop (k+1)) (D.save (GJ q.1) q.2).2:=by
 rw[Ja h];rw[Iy.eq_2,if_neg (by rw[he];decide)]
variable {n:Int}
def TA (h:Ge n):(Lib.itoa n).length<=21:=Lib.itoa_length_le n h.1 (by have:=h.2;omega)
def Xo4 (h:Ge n):(GJ n).length<=22:=by have:=TA h;unfold GJ;simp;omega
def X8m (κ:Nat->Nat)(bs bd bl bo bm:Nat)(vf:Value)(L:Led)(D:Dsk)(V:Vs)(ts:List Tb)(mem:List Cell)(dead:Bool)(qs:List (Md×Fj))(va:Value)(w:World)(h:StE κ bs bd bl bo bm vf L D V ts mem dead w)(hg:GV w)(hgs:∀k,Mv k->κ k=0)(ha:Fu Md.cs 7 w va (qs.map (·.1)))(hal:qs.length<=60000)(hak:qs≠[]->κ (base va).1=0)(hq:∀q∈qs,Fu Fs 1 w q.1.vb q.2/\q.2.length<=2001000020/\Ge q.1.f.id/\(q.2≠[]->κ (base q.1.vb).1=0)/\q.1.vl.oneCell'=true) :
  G4 93 [Fh bs 0,va] w (λk=>κ k=1) λu w'=>u=I (Iy (qs.map λq=>(q.1.f.id,q.2)) D).1/\∃κ',(∀k,k<w.heap.size->κ' k=κ k)/\StE κ' bs bd bl bo bm vf L (Iy (qs.map λq=>(q.1.f.id,q.2)) D).2 V ts mem dead w':=by
 refine cM Tryz.func93 (λk=>κ k=1) λr=>?_;have z:=h;have hlt0:=h.lt;have hmlen:(qs.map (·.1)).length=qs.length:=Au _;refine go ?_;refine dv 161 7 (ha.mod r (λhl e=>by have e2:κ (base va).1=1:=e;rw[hak (by rintro rfl;exact hl rfl)]at e2;cases e2)).sl (F8 (G:=Nat×(Nat->Nat)×Dsk) (λ(k,κ1,D1)=>[(0,Fh bs 0),(8,va),(9,I ↑(qs.map (·.1)).length),(10,I ↑k)]) (λ(k,κ1,D1) w'=>Mod (λk=>κ k=1) w w'/\k<=qs.length/\Iy (qs.map λq=>(q.1.f.id,q.2)) D=Iy ((qs.map λq=>(q.1.f.id,q.2)).drop k) D1/\(∀k,k<w.heap.size->κ1 k=κ k)/\StE κ1 bs bd bl bo bm vf L D1 V ts mem dead w') (λ(k,κ1,D1)=>qs.length-k) (0,κ,D) ⟨r,Ab _,rfl,λ_ _=>rfl,z⟩ ?_);rintro _ ⟨k,κ1,D1⟩ w1 ⟨r,hk1,hsv,hmv,z⟩;refine Fk (λc1=>?_) λc1=>?_
 ·obtain⟨q,hk⟩:∃q,qs[k]?=some q:=F7;obtain⟨hc,h5,hf,hz,xc⟩:=hq q (Ag hk);have h7:(qs.map (·.1))[k]?=some q.1:=by simp [hk]
  have hh:((qs.map λq=>(q.1.f.id,q.2)))[k]?=some (q.1.f.id,q.2):=by simp [hk]
  have hnl:=Xo4 hf;have hil:=TA hf;refine FN 161 7 ha.sl (ha.lt h7) ?_;refine dq (Fx Ff rfl rfl ((ha.mod r (λhl e=>by have e2:κ (base va).1=1:=e;rw[hak (by rintro rfl;exact hl rfl)]at e2;cases e2)).row h7)) (aL [.int .i64 0,.int .i64 0,.int .i64 0,S [],S [],.slice none 0 0,.slice none 0 0] λb1 w2 e1 x2 m1=>?_);have g1:=r.ge e1;have J:=z.lt;refine Fy x2 z r λz r=>?_;refine Gg m1 (λw3 x3 xs3 m1=>?_) (h1:=by(intro u hu;simp only [Ah,Cp,or_false]at hu;rcases hu with e|e|e|e|e|e|e<;>subst e<;>first|rfl|exact xc|exact hc.sl.one));have z:=z.mod x3 (λk9 h9 e9=>by have h2:k9=b1:=e9;have h8:=J k9 h9;omega);have r:=r.o1 x3;refine go ?_;refine KK (R:=Mod (λk=>κ1 k=1)) Ij I0 Ff [3,6,9] (.one 0 .p false (.one 1 .p false (.one 2 .p false (.one 3 .l false (.one 4 .p false (.one 5 .p false (.one 6 .l false (.one 8 .p false (.one 9 .l false (.fork (.alt 7 false (.one 10 .x false (.one 11 .x false (.one 12 .p false .nil))) (.alt 10 false (.one 7 .x false (.one 11 .x false (.one 12 .p false .nil))) .stop)))))))))))) Ff Ff (λw4 hy=>?_);have x4:=FE hy;clear hy;refine FC x4 z m1 r λz m1 r=>go ?_;refine dL rfl (λ_ hR=>((z.m.mod hR (λe=>by have e2:κ1 bs=1:=e;rw[z.k0]at e2;cases e2)).at rfl)) (go ?_);refine dL rfl (λ_ hR=>((m1.mod hR (λe=>by have e2:κ1 b1=1:=e;have:=J b1 (by rw[e2];decide);omega)).at rfl)) (go ?_);refine df 6 (rfl) (go ?_);refine dL rfl (λ_ hR=>((m1.mod hR (λe=>by have e2:κ1 b1=1:=e;have:=J b1 (by rw[e2];decide);omega)).at rfl)) (go ?_);refine Ji ?_;refine Hk ?_ ?_
  ·refine cP (Tz q.1.f.id _ (hg.mod r (λk hk e=>by have e2:κ k=1:=e;rw[hgs k hk]at e2;cases e2)) hf Fe) RX.mod λw5 x5=>Fy x5 z r λz r=>go ?_;refine It (e:=82) (sz:=1) (zs:=[.slice none 0 0]) (pv:=[(0,?a6_0)]) (cs:=[?a6_0]) rfl Ff ⟨rfl,rfl⟩ Ff rfl ?h6 ?f6 RX.mod (λb2 w6 e2 x6 m2=>?k6)
   case h6=>refine⟨rfl,?_,trivial⟩<;>(conv=>lhs;whnf)
   case f6=>simp [Hs,Gw,Ap,hc.sl.cells]
   have g2:=r.ge e2;have a2_hS:=z.lt;refine Fy x6 z r λz r=>go ?_;have Z:=r.size;obtain⟨F,hD,O,Y⟩:=z.ld.disk;refine Jz rfl Ff (S3 F bd D1 (GJ q.1.f.id) q.2 q.1.vb _ _ hD (m2.arr (enc:=λx:Value=>[x]) (sz:=1) (l:=[q.1.vb]) rfl Fg rfl F0) (hc.mod r (λhl e=>by have e2:κ (base q.1.vb).1=1:=e;rw[hz hl]at e2;cases e2)) h5 Fe) rfl (.inr λw9 h9=>h9.mono (λi hi _=>O i hi)) (λu7 w7 x7 xb=>?_);have hsz7:=r.size;have r:=r.own x7 (λi hi hj=>(by have e1:=O i hi;rw[<-hmv i hj];exact e1));obtain⟨rfl,hp⟩:=xb;have hr:=z.ledger (x7.mono (λi hi _=>O i hi)) (Y _ _ x7 hp);have H:=λk (hk:k<w.heap.size)=>(Nj (κ:=κ1) (i:=1) (w':=w7) (Ay hk Z)).trans (hmv k hk);have z:=hr;refine Fk (λc2=>?_) λc2=>?_
   ·refine go ?_;rw[hsv,YA hh c2];exact⟨_,rfl,r,rfl,_,H,z⟩
   refine go ?_;exact⟨(k+1,_,_),Hn,⟨r,by omega,by rw[hsv,Xti hh (AF (by exact c2))],H,z⟩,by simp only [];omega⟩
  refine Hk ?_ ?_
  ·refine It (e:=82) (sz:=1) (zs:=[.slice none 0 0]) (pv:=[(0,?a13_0)]) (cs:=[?a13_0]) rfl Ff ⟨rfl,rfl⟩ Ff rfl ?h13 ?f13 RX.mod (λb3 w8 e3 x8 m3=>?k13)
   case h13=>refine⟨rfl,?_,trivial⟩<;>(conv=>lhs;whnf)
   case f13=>simp [Hs,Gw,Ap,hc.sl.cells]
   have g3:=r.ge e3;have a3_hS:=z.lt;refine Fy x8 z r λz r=>go ?_;refine cP (Tz q.1.f.id _ (hg.mod r (λk hk e=>by have e2:κ k=1:=e;rw[hgs k hk]at e2;cases e2)) hf Fe) RX.mod λw9 x9=>FC x9 z m3 r λz m3 r=>go ?_;have Z:=r.size;obtain⟨F,hD,O,Y⟩:=z.ld.disk;refine Jz rfl Ff (S3 F bd D1 (GJ q.1.f.id) q.2 q.1.vb _ _ hD (m3.arr (enc:=λx:Value=>[x]) (sz:=1) (l:=[q.1.vb]) rfl Fg rfl F0) (hc.mod r (λhl e=>by have e2:κ (base q.1.vb).1=1:=e;rw[hz hl]at e2;cases e2)) h5 Fe) rfl (.inr λw9 h9=>h9.mono (λi hi _=>O i hi)) (λu10 xa ht hw=>?_);have hsz10:=r.size;have r:=r.own ht (λi hi hj=>(by have e1:=O i hi;rw[<-hmv i hj];exact e1));obtain⟨rfl,hp⟩:=hw;have hr:=z.ledger (ht.mono (λi hi _=>O i hi)) (Y _ _ ht hp);have H:=λk (hk:k<w.heap.size)=>(Nj (κ:=κ1) (i:=1) (w':=xa) (Ay hk Z)).trans (hmv k hk);have z:=hr;refine Fk (λc3=>?_) λc3=>?_
   ·refine go ?_;rw[hsv,YA hh c3];exact⟨_,rfl,r,rfl,_,H,z⟩
   refine go ?_;exact⟨(k+1,_,_),Hn,⟨r,by omega,by rw[hsv,Xti hh (AF (by exact c3))],H,z⟩,by simp only [];omega⟩
  exact Jh
 refine go ?_;rw[hsv,BG (by rw[Au];simp at c1;omega)];exact⟨_,rfl,r,rfl,_,hmv,z⟩
def K5 (κ:Nat->Nat)(bt:Nat)(vl vb:Value):Nat->Nat:=λk=>if k=bt\/k=(base vl).1\/k=(base vb).1 then 6 else κ k
def Xur (tbs:List Tb):∀ts:List Tb,(tbs.foldl Hx ts).length<=ts.length+tbs.length:=by
 induction tbs with
 | nil=>intro ts;exact Aa _
 | cons t r ih=>
  intro ts;have h1:=ih (Hx ts t);have h2:(Hx ts t).length<=ts.length+1:=by unfold Hx;split<;>simp
  show((r.foldl Hx (Hx ts t)).length<=_);simp only [Az];omega
def Mt (ts:List Tb)(gone:List Fi):List Tb:=gone.foldl (λts f=>Ko ts (f.lev,f.id)) ts
variable {f:Fi}{ts:List Tb}
def Xq5 {gone:List Fi}{j:Nat}(h:gone[j]?=some f):Mt ts (gone.take (j+1))=Ko (Mt ts (gone.take j)) (f.lev,f.id):=by unfold Mt;rw[GW h,BA];rfl
section
variable {κ:Nat->Nat}{bs bd bl bo bm:Nat}{vf:Value}{L:Led}{D:Dsk}{V:Vs}{ts:List Tb}{mem:List Cell}{dead:Bool}{w w':World}
def StE.addT {t:Tb}(h:StE κ bs bd bl bo bm vf L D V ts mem dead w)(hT:TblE t.bt t.vl t.vb t.cs w)(hn:∀k,Kv t.bt t.vl t.vb k->κ k=0)(m:Vc.Mod (Fv bo) w w')(hm:Gr Tryz.prog 104 GM pO w' bo (FB (ts.map Tb.kv) t.h (some t.bt))):StE (K5 κ t.bt t.vl t.vb) bs bd bl bo bm vf L D V (Hx ts t) mem dead w':=by
 have o:∀k,κ k≠0->K5 κ t.bt t.vl t.vb k=κ k:=λk hk=>by
  unfold K5;rw[if_neg];intro e;exact hk (hn k e)
 have z:=h.relab o (λk hk=>by
  unfold K5 at hk;split at hk
  ·rename_i e;exact hT.lt k e
  ·exact h.lt k hk)
 refine z.setMap m (by rw[X8e];exact hm) λq r=>?_;rcases X2y r with rfl|r
 ·exact⟨hT,λk hk=>by unfold K5;rw[if_pos hk]⟩
 ·exact⟨z.tb q r,z.k6 q r⟩
def StE.subT {x:Int×Int}(h:StE κ bs bd bl bo bm vf L D V ts mem dead w)(m:Vc.Mod (Fv bo) w w')(hm:Gr Tryz.prog 104 GM pO w' bo (G3 (ts.map Tb.kv) x)):StE κ bs bd bl bo bm vf L D V (Ko ts x) mem dead w':=
 h.setMap m (by rw[X8f];exact hm) λq r=>⟨h.tb q (Ax.1 r).1,h.k6 q (Ax.1 r).1⟩
end
def X8n (κ:Nat->Nat)(bs bd bl bo bm:Nat)(vf:Value)(L:Led)(D:Dsk)(V:Vs)(ts:List Tb)(mem:List Cell)(dead:Bool)(V':Vs)(vf':Value)(qs:List (Md×List Cell))(va:Value)(gone:List Fi)(vg:Value)(w:World)(h:StE κ bs bd bl bo bm vf L D V ts mem dead w)(hvf:Fu Fi.cs 5 w vf' V'.fs)(hvk:V'.fs≠[]->κ (base vf').1=0)(ha:Fu Md.cs 7 w va (qs.map (·.1)))(hal:qs.length<=60000)(hak:qs≠[]->κ (base va).1=0)(hq:∀q∈qs,Fu Fs 1 w q.1.vb (Fz (FT q.2))/\IV q.2=0/\Ge q.1.f.id/\Ge q.1.f.lev/\(Fz (FT q.2)≠[]->κ (base q.1.vb).1=0)/\q.1.vl.oneCell'=true)(hg:Fu Fi.cs 5 w vg gone)(hgl:gone.length<=40000)(hgk:gone≠[]->κ (base vg).1=0)(hgi:∀f∈gone,Ge f.id/\Ge f.lev)(htl:ts.length<=1000000) :
  G4 95 [Fh bs 0,.agg ⟨[I V'.next,vf']⟩,va,vg] w (λk=>κ k≠0) λu w'=>u=I 0/\∃κ' ts',(∀k,k<w.heap.size->(V'.fs≠[]->k≠(base vf').1)->κ' k=κ k)/\(∃tbs:List Tb,tbs.map (λt=>(t.h,t.cs))=qs.map (λq=>((q.1.f.lev,q.1.f.id),q.2))/\ts'=Mt (tbs.foldl Hx ts) gone)/\StE κ' bs bd bl bo bm vf' L D V' ts' mem dead w':=by
 refine cM Tryz.func95 (λk=>κ k≠0) λz=>?_;have r:=h;have hmlen:(qs.map (·.1)).length=qs.length:=Au _;refine go ?_;refine G1 rfl rfl rfl RX.all (λb1 w1 e1 x1 H=>?_);have g1:=z.ge e1;have a1_hS:=r.lt;refine Fy x1 r z λr z=>go ?_;refine dv 161 7 (ha.mod z (λJ e=>e (hak (by rintro rfl;exact J rfl)))).sl (F8 (G:=Nat×(Nat->Nat)×List Tb) (λ(k,κ1,tbs)=>[(0,Fh bs 0),(3,vg),(5,Fh b1 0),(15,va),(16,I ↑(qs.map (·.1)).length),(17,I ↑k)]) (λ(k,κ1,tbs) w'=>Mod (λk=>κ k≠0) w w'/\k<=qs.length/\tbs.length=k/\tbs.map (λt=>(t.h,t.cs))=(qs.take k).map (λq=>((q.1.f.lev,q.1.f.id),q.2))/\(∀k,k<w.heap.size->κ1 k=κ k)/\StE κ1 bs bd bl bo bm vf L D V (tbs.foldl Hx ts) mem dead w'/\Fp w' b1 [I V'.next,vf'] 56) (λ(k,κ1,tbs)=>qs.length-k) (0,κ,[]) ⟨z,Ab _,rfl,rfl,λ_ _=>rfl,r,H⟩ ?_);rintro _ ⟨k,κ1,tbs⟩ w2 ⟨z,hk1,htl9,htb,hmv,r,H⟩;refine Fk (λc1=>?_) λc1=>?_
 ·obtain⟨q,hk⟩:∃q,qs[k]?=some q:=F7;obtain⟨xa,xj,xi,h6,xn,xk⟩:=hq q (Ag hk);have xd:(qs.map (·.1))[k]?=some q.1:=by simp [hk]
  have hwsz:=z.size;refine FN 161 7 ha.sl (ha.lt xd) ?_;refine dq (Fx Ff rfl rfl ((ha.mod z (λJ e=>e (hak (by rintro rfl;exact J rfl)))).row xd)) (aL [.int .i64 0,.int .i64 0,.int .i64 0,S [],S [],.slice none 0 0,.slice none 0 0] λb2 w3 e2 x3 m2=>?_);have g2:=z.ge e2;have n2_1:=H.ltb e2;have hj:=r.lt;refine FC x3 r H z λr H z=>?_;refine Gg m2 (λw4 x4 xs4 m2=>?_) (h1:=by(intro u hu;simp only [Ah,Cp,or_false]at hu;rcases hu with e|e|e|e|e|e|e<;>subst e<;>first|rfl|exact xk|exact xa.sl.one));have r:=r.mod x4 (λk9 h9 e9=>by have h2:k9=b2:=e9;have h8:=hj k9 h9;omega);have H:=H.mo x4;have z:=z.o1 x4;refine go ?_;refine df 6 (rfl) (go ?_);have h5:=r.lt;refine cG (Ya0 q.2 q.1.vb _ (xa.mod z (λJ e=>e (xn J))) xj) RX.all λu5 w5 x5 xf=>?_;have hsz5:=z.size;refine FQ x5 r H m2 z λr H m2 z=>?_;obtain⟨bt,vl,hc,rfl,hT,hy⟩:=xf;have xl:∀k,Kv bt vl hc k->κ1 k=0:=λk hk=>AO λh9=>by have h1:=hy k hk;have h2:=h5 k h9;omega
  refine Fk (λc2=>?_) λc2=>?_
  ·exact absurd rfl c2
  refine go ?_;refine HP (R:=Mod (Fv bo)) Ij I0 Ff [3,6,9] [(0,.p,false),(1,.p,false),(2,.p,false),(3,.l,false),(4,.p,false),(5,.p,false),(6,.l,false),(7,.p,false),(8,.p,false),(9,.l,false),(10,.p,false),(11,.p,false),(12,.x,true)] rfl Ff Ff (λw6 xc=>?_);have x6:=FE xc;clear xc;refine Ga x6 r H m2 hT z λr H m2 hT z=>go ?_;refine df 4 (rfl) (dL rfl (λ_ hR=>((r.m.mod hR (λe=>r.mp.at.ne_blk r.m e)).at rfl)) (go ?_));refine dL rfl (λ_ hR=>((m2.mod hR (λe=>r.mp.at.ne_blk m2 e)).at rfl)) (go ?_);refine dL rfl (λ_ hR=>((m2.mod hR (λe=>r.mp.at.ne_blk m2 e)).at rfl)) (db (zs:=[.int .i64 0,.int .i64 0]) (pl:=[(0,1),(1,1)]) (pv:=[(0,_),(1,_)]) (cs:=[_,_]) ?_);refine go ?_;refine SH Og (kx:=(q.1.f.lev,q.1.f.id)) (a:=some bt) rfl rfl rfl rfl r.mp ⟨h6,xi⟩ (by have:=Xur tbs ts;rw[Au];unfold maxLen;omega) (.inl rfl) (λw7 x7 xs7 Y=>?_);have Z:=r.addT (t:=⟨(q.1.f.lev,q.1.f.id),bt,vl,hc,q.2⟩) hT xl x7 Y;clear hT;have hr:=H.mod x7 (λe=>r.mp.at.ne_blk H e);have z:=z.own x7 (λi hi h7=>by have O:i=bo:=hi;rw[O,h.k2];decide);have r:=Z;have xb:∀k,k<w.heap.size->K5 κ1 bt vl hc k=κ k:=λk hk=>by
   unfold K5;rw[if_neg (λe=>by have:=hy k e;omega)];exact hmv k hk
  have H:=hr;refine go ?_;exact⟨(k+1,_,tbs++[⟨(q.1.f.lev,q.1.f.id),bt,vl,hc,q.2⟩]),HW,⟨z,by omega,by simp [htl9],by rw[A3,htb,GW hk,A3];rfl,xb,by rw[BA];exact r,H⟩,by simp only [];omega⟩
 have xh:k=qs.length:=by omega
 subst xh;rw[AT]at htb;refine FM 62 5 (hg.mod z (λJ e=>e (hgk J))).sl ?_;refine F8 (G:=Nat) (λj=>[(0,Fh bs 0),(5,Fh b1 0),(45,vg),(46,I ↑gone.length),(47,I ↑j)]) (λj w'=>Mod (λk=>κ k≠0) w w'/\j<=gone.length/\StE κ1 bs bd bl bo bm vf L D V (Mt (tbs.foldl Hx ts) (gone.take j)) mem dead w'/\Fp w' b1 [I V'.next,vf'] 56) (λj=>gone.length-j) 0 ⟨z,Ab _,r,H⟩ ?_;rintro _ j w8 ⟨z,hj1,r,H⟩;refine Fk (λc3=>?_) λc3=>?_
 ·obtain⟨f,hk⟩:∃f,gone[j]?=some f:=F7;obtain⟨hw,hz⟩:=hgi f (Ag hk);refine FN 62 5 hg.sl (hg.lt hk) ?_;refine dq (Fx Ff rfl rfl ((hg.mod z (λJ e=>e (hgk J))).row hk)) (aL [.int .i64 0,.int .i64 0,.int .i64 0,S [],S []] λb3 w9 e3 x9 m3=>?_);have g3:=z.ge e3;have n3_1:=H.ltb e3;have ht:=r.lt;refine FC x9 r H z λr H z=>Gg m3 (λw10 hp xs10 m3=>?_);have r:=r.mod hp (λk9 h9 e9=>by have h2:k9=b3:=e9;have h8:=ht k9 h9;omega);have H:=H.mo hp;have z:=z.o1 hp;refine go ?_;refine HP (R:=Mod (Fv bo)) Ij I0 Ff [3,5,7] [(0,.p,false),(1,.p,false),(2,.p,false),(3,.l,false),(4,.p,false),(5,.l,false),(6,.p,false),(7,.l,false),(8,.p,false),(9,.x,false)] rfl Ff Ff (λw11 hf=>?_);have xg:=FE hf;clear hf;refine FQ xg r H m3 z λr H m3 z=>go ?_;refine df 4 (rfl) (dL rfl (λ_ hR=>((r.m.mod hR (λe=>r.mp.at.ne_blk r.m e)).at rfl)) (go ?_));refine dL rfl (λ_ hR=>((m3.mod hR (λe=>r.mp.at.ne_blk m3 e)).at rfl)) (go ?_);refine dL rfl (λ_ hR=>((m3.mod hR (λe=>r.mp.at.ne_blk m3 e)).at rfl)) (db (zs:=[.int .i64 0,.int .i64 0]) (pl:=[(0,1),(1,1)]) (pv:=[(0,_),(1,_)]) (cs:=[_,_]) ?_);refine Ss Og (kx:=(f.lev,f.id)) rfl rfl rfl r.mp ⟨hz,hw⟩ (.inr λ_ h=>h) (λw12 hh xs12 Y=>?_);have Z:=r.subT hh Y;have hr:=H.mod hh (λe=>r.mp.at.ne_blk H e);have z:=z.own hh (λi hi h7=>by have O:i=bo:=hi;rw[O,h.k2];decide);have r:=Z;have H:=hr;refine go ?_;rw[<-Xq5 hk]at r;exact FL (j+1) ⟨z,by omega,r,H⟩
 refine go ?_;refine dq (Fx (k:=2) Ff rfl rfl H.row) (go ?_);refine Pk (v:=.agg ⟨[I V'.next,vf']⟩) (vs:=[I V'.next,vf']) rfl rfl rfl rfl Ff r.m (An rfl) (by intro u hu;rcases Ah.1 hu with e|hu;subst e;rfl;rw[Af.1 hu];exact hvf.sl.one) (.inl rfl) (λw13 xe xs13 Y=>?_);have Z:=r.setV (V':=V') (vf':=vf') xe Y (hvf.mod z (λJ e=>e (hvk J))) (λJ=>(hmv _ (hvf.base_lt Fo J)).trans (hvk J));have z:=z.own xe (λi hi h7=>by have O:i=bs:=hi;rw[O,h.k0];decide);have r:=Z;refine go ?_;rw[Av Fe]at r;refine⟨_,rfl,z,rfl,_,_,?_,⟨tbs,htb,rfl⟩,r⟩;intro k hk xm;split
 ·exact hmv k hk
 ·rename_i h9;unfold LJ;rw[if_neg (xm h9)];exact hmv k hk
def Nl (D:Dsk)(i:Int)(p:Fj):Int×Dsk:=if(D.save Led.img (Led.ent i p)).1=0 then(D.save Led.img (Led.ent i p)).2.rems [Led.logn]else D.save Led.img (Led.ent i p)
variable {L:Led}{i:Int}{p:Fj}
def X8o (h:L.dead=true):L.write D i p=(9,L,D):=by unfold Led.write;rw[if_pos h]
def Yx (h:L.dead=false)(h2:i<L.last\/1099511627776<i):L.write D i p=(1,L,D):=by unfold Led.write;rw[if_neg (by rw[h];decide),if_pos h2]
def X8p (h:L.dead=false)(h2:¬ (i<L.last\/1099511627776<i))(h3:524288<p.length):L.write D i p=(5,L,D):=by unfold Led.write;rw[if_neg (by rw[h];decide),if_neg h2,if_pos h3]
def Yb4 (h:L.dead=false)(h2:¬ (i<L.last\/1099511627776<i))(h3:¬ 524288<p.length)(h4:(Nl D i p).1≠0):L.write D i p=((Nl D i p).1,{ L with dead:=true },(Nl D i p).2):=by unfold Led.write;rw[if_neg (by rw[h];decide),if_neg h2,if_neg h3];exact if_pos h4
def X8q (h:L.dead=false)(h2:¬ (i<L.last\/1099511627776<i))(h3:¬ 524288<p.length)(h4:¬ (Nl D i p).1≠0):L.write D i p=(0,⟨i,p,[],false⟩,(Nl D i p).2):=by unfold Led.write;rw[if_neg (by rw[h];decide),if_neg h2,if_neg h3];exact if_neg h4
def LedE.image {G:Nat->Prop}{bl bd:Nat}{vd ve vp:Value}{vs:List (Value×Fj)}{w0 w':World}(h:LedE G bl bd vd ve vs L w0)(hs:w0.heap.size<=w'.heap.size)(hm:Fp w' bl [Fh bd 0,S [115],I i,vp,.slice none 0 0,B false] 147)(ha:Fu Fs 1 w' vp p)(hf:p≠[]->w0.heap.size<=(base vp).1)(h0:0<=i)(h1:i<=1099511627776)(hp:p.length<=524288):
  LedE (FV G w0 w') bl bd vp (.slice none 0 0) [] ⟨i,p,[],false⟩ w':=by
 refine⟨hm,ha,Vc.Own.nil,rfl,(λq r=>by cases r),λk hk=>?_,λk hk=>?_,Jq h.lt hs,h0,h1,hp,(λq r=>by cases r),(by simpa [Led.last]using h1)⟩
 ·rcases hk with rfl|hk|hk|⟨q,r,_⟩
  ·exact .inl (h.inG _ (.inl rfl))
  ·cases hk
  ·obtain⟨z,rfl⟩:=hk;exact .inr ⟨hf z,ha.base_lt Fo z⟩
  ·cases r
 ·rcases hk with hk|⟨q,r,_⟩
  ·obtain⟨z,rfl⟩:=hk;refine⟨λe=>?_,λe=>by cases e⟩;have h1:=hf z;have h2:=h.lt bl (h.inG bl (.inl rfl));rw[e]at h1;omega
  ·cases r
def X8r (H:Nat->Prop)(bl bd:Nat)(L:Led)(D:Dsk)(ix:Int)(p:Fj)(vp:Value)(w:World)(h:LD H bl bd L D w)(hp:Fu Fs 1 w vp p)(hpl:p.length<=1000000)(hpH:p≠[]->¬ H (base vp).1) :
  G4 94 [Fh bl 0,I ix,vp] w H λu w'=>u=I (L.write D ix p).1/\LD (FV H w w') bl bd (L.write D ix p).2.1 (L.write D ix p).2.2 w':=by
 refine cE Tryz.func94 λr=>?_;have hh:=h;obtain⟨F,G,vd,ve,vs,hA,z,ha,Z,hc⟩:=h;have J:=z.m;have hla:=z.la;have hb0:=z.b0;have hl0:0<=L.last:=by unfold Led.last;omega
 have Y:=z.lt;have hblt:=J.lt;have xp:=Gk (HF ix);have hbl1:([ix].flatMap GA).length<=10:=by simpa [GA]using xp
 have helen:=N7 ix p;refine go ?_;refine dp (GY Ff rfl rfl) ?_;refine Fk (λc1=>?_) λc1=>?_
 ·exact absurd c1 F0
 refine Gb (λc2=>?_) λc2=>?_
 ·refine go ?_;rw[X8o c2];exact⟨_,rfl,r.mono (λ_ h _=>h.elim),rfl,hh.grow r⟩
 refine Gs (HC G bl bd vd ve vs L _ z) λw1 x1=>FQ x1 J z hA r λJ z hA r=>?_;refine FJ 22 (λc3=>?_) λc3=>?_
 ·refine go ?_;refine GU rfl (go ?_);rw[Yx c2 Fe];exact⟨_,rfl,r.mono (λ_ h _=>h.elim),rfl,hh.grow r⟩
 refine Fk (λc4=>?_) λc4=>?_
 ·refine go ?_;rw[Yx c2 Fe];exact⟨_,rfl,r.mono (λ_ h _=>h.elim),rfl,hh.grow r⟩
 have h6:¬ (ix<L.last\/1099511627776<ix):=by omega
 refine FM 5 1 hp.sl ?_;refine Fk (λc5=>?_) λc5=>?_
 ·refine go ?_;rw[X8p c2 h6 Fe];exact⟨_,rfl,r.mono (λ_ h _=>h.elim),rfl,hh.grow r⟩
 have hj:¬ 524288<p.length:=by omega
 refine go ?_;refine aL [.slice none 0 0] λb1 w2 e1 x2 m1=>?_;have g1:=r.ge e1;have a1_hl:=J.lt;have a1_hE:=z.lt;have a1_hA:=hA.lt;refine FQ x2 J z hA r λJ z hA r=>go ?_;refine li (e:=3) (sz:=1) (zs:=[.int .i64 0]) (pv:=[(0,_)]) (cs:=[_]) RX.all (λb2 w3 e2 x3 m2=>?_);have g2:=r.ge e2;have n2_1:=m1.ltb e2;have a2_hl:=J.lt;have a2_hE:=z.lt;have a2_hA:=hA.lt;refine Ga x3 J z hA m1 r λJ z hA m1 r=>?_;have O:Wr w.heap.size b1 (.slice none 0 0) [] w3:=⟨m1,Vc.Own.nil⟩;refine cD (Lb w.heap.size b1 (.slice none 0 0) [] [ix] (.slice (some ⟨b2,0,none⟩) 1 1) _ O F0 r.size (m2.arr (enc:=Vc.encI) (sz:=1) (l:=[ix]) rfl Fg rfl F0) F0 (λk hk _ e=>hk.elim (λh=>by have e2:b2=k:=e;omega) (λh=>by cases h))) (.inl rfl) λu4 w4 x4 xt=>?_;have hsz4:=r.size;have J:=J.mod x4 (λh=>by have h8:=O.ge g1 h;omega);have z:=z.mod x4 (λk hk h=>by have h9:=Y k hk;have h8:=O.ge g1 h;omega);have hA:=hA.mod x4 (λk hk h=>by have h9:=hc k (Z k (.inl hk));have h8:=O.ge g1 h;omega);have r:=r.own x4 (λi hi=>O.ge g1 hi);obtain⟨rfl,v2,O,hg2⟩:=xt;refine go ?_;refine It (e:=82) (sz:=1) (zs:=[.slice none 0 0]) (pv:=[(0,?a27_0)]) (cs:=[?a27_0]) rfl Ff ⟨rfl,rfl⟩ Ff rfl ?h27 ?f27 RX.all (λb3 w5 e3 x5 m3=>?k27)
 case h27=>refine⟨rfl,?_,trivial⟩<;>(conv=>lhs;whnf)
 case f27=>simp [Hs,Gw,Ap,hp.sl.cells]
 have g3:=r.ge e3;have a3_hl:=J.lt;have a3_hE:=z.lt;have a3_hA:=hA.lt;have hf:=O.lt;refine Ga x5 J z hA O r λJ z hA O r=>cD (Mn w.heap.size b1 v2 _ [(vp,p)] (.slice (some ⟨b3,0,none⟩) 1 1) _ O (by rw[AG];omega) r.size (Lp m3) (λq h=>by rw[Af.1 h];exact hp.ext r) (λq h=>by rw[Af.1 h];exact hpl) F0 (λ_ h=>A7 b3 (AD (hf _ h) e3.symm)) (λq h J h2=>by rw[Af.1 h]at J h2;have h8:=hp.base_lt Fo J;have h7:=O.ge g1 h2;exact absurd (Ay h8 h7) (A7 _))) (.inl rfl) λu6 w6 x6 xl=>?_;have hsz6:=r.size;have J:=J.mod x6 (λh=>by have h8:=O.ge g1 h;omega);have z:=z.mod x6 (λk hk h=>by have h9:=Y k hk;have h8:=O.ge g1 h;omega);have hA:=hA.mod x6 (λk hk h=>by have h9:=hc k (Z k (.inl hk));have h8:=O.ge g1 h;omega);have r:=r.own x6 (λi hi=>O.ge g1 hi);obtain⟨rfl,v3,O,hg3⟩:=xl;refine g0 ?_;refine GP (G:=(Nat->Prop)×Dsk×Int) (λ(F1,D1,e1)=>[(0,Fh bl 0),(1,I ix),(2,vp),(6,I 0),(8,I e1)]) (λ(F1,D1,e1) w'=>Mod H w w'/\GG F1 bd D1 w'/\LedE G bl bd vd ve vs L w'/\(∀k,F1 k->F k\/w.heap.size<=k)/\Fp w' bl [Fh bd 0,S [115],I L.base,vd,ve,B L.dead] 147/\D.save Led.img (Led.ent ix p)=(e1,D1)) ?_ ?_
 ·refine wd 10522201000 λw7 x7=>Ga x7 J z hA O r λJ z hA O r=>go ?_;refine cP (HJ G bl bd vd ve vs L _ z) RX.ext λw8 x8=>Ga x8 J z hA O r λJ z hA O r=>cG (OA w.heap.size b1 v3 _ _ O (by simp only [AG,Ad,Ak,Bg,List.flatMap_cons,List.flatMap_nil,AI,FA,GA]at *;have h5:=Gk p.length;omega)) RX.ext λvo w9 x9 hB=>?_;have hsz9:=r.size;refine FQ x9 J z hA r λJ z hA r=>?_;rw[show([]++[ix].flatMap GA)++List.flatMap FA ([(vp,p)].map (λq:Value×Fj=>q.2))=Led.ent ix p by rw[AG];exact Wk Fe Fe]at hB;refine It (e:=82) (sz:=1) (zs:=[.slice none 0 0]) (pv:=[(0,?a30_0)]) (cs:=[?a30_0]) rfl Ff ⟨rfl,rfl⟩ Ff rfl ?h30 ?f30 RX.ext (λb4 w10 e4 xu m4=>?k30)
  case h30=>refine⟨rfl,?_,trivial⟩<;>(conv=>lhs;whnf)
  case f30=>simp [Hs,Gw,Ap,hB.sl.cells]
  have g4:=r.ge e4;have a4_hl:=J.lt;have a4_hE:=z.lt;have a4_hA:=hA.lt;have o4_hB:=hB.ltb e4;refine Ga xu J z hA hB r λJ z hA hB r=>cD (S3 F bd D Led.img (Led.ent ix p) vo _ _ hA (m4.arr (enc:=λx:Value=>[x]) (sz:=1) (l:=[vo]) rfl Fg rfl F0) (hB.arr Fg) Fe Fo) (.inl rfl) λu11 w11 hq xi=>?_;have hz:=r.size;have J:=J.mod hq (λh=>ha bl h (z.inG bl (.inl rfl)));have z:=z.mod hq (λk hk h=>ha k h hk);have r:=(r.mod hq).mono (λi hi hc=>(Z i (.inl hi):H i));obtain⟨rfl,hA⟩:=xi;have xg:=hz;refine go ?_;exact⟨(_,_,_),Hc,r,hA,z,Nh xg,J,rfl⟩
 rintro _ ⟨F1,D1,e1⟩ w12 ⟨r,hA,z,hsub1,J,hR1⟩;have hs1:=r.size;refine GP (G:=(Nat->Prop)×Dsk×Int) (λ(F2,D2,e)=>[(0,Fh bl 0),(1,I ix),(2,vp),(6,I 0),(8,I e)]) (λ(F2,D2,e) w'=>Mod H w w'/\GG F2 bd D2 w'/\LedE G bl bd vd ve vs L w'/\(∀k,F2 k->F k\/w.heap.size<=k)/\Fp w' bl [Fh bd 0,S [115],I L.base,vd,ve,B L.dead] 147/\Nl D ix p=(e,D2)) ?_ ?_
 ·refine Fk (λc6=>?_) λc6=>?_
  ·refine wd 1052201000 λw13 xo=>FQ xo hA z J r λhA z J r=>go ?_;refine cP (Ha G bl bd vd ve vs L _ z) RX.ext λw14 xq=>FQ xq hA z J r λhA z J r=>li (e:=9) (sz:=1) (zs:=[S []]) (pv:=[(0,_)]) (cs:=[_]) RX.ext (λb5 w15 e5 xm m5=>?_);have g5:=r.ge e5;have hw:=hA.lt;have a5_hE:=z.lt;have a5_hl:=J.lt;refine FQ xm hA z J r λhA z J r=>cD (IF F1 bd D1 [Led.logn] _ _ hA (Ma m5) F0 (λ_ hF=>A7 b5 (AD (hw _ hF) e5.symm))) (.inl rfl) λu16 w16 xc xd=>?_;have hsz16:=r.size;have z:=z.mod xc (λk hk h=>(hsub1 _ h).elim (λh=>ha _ h hk) (λh=>by have h9:=Y _ hk;omega));have J:=J.mod xc (λh=>(hsub1 _ h).elim (λh=>ha _ h (z.inG bl (.inl rfl))) (λh=>by have h9:=Y _ (z.inG bl (.inl rfl));omega));have r:=r.own xc (λi hi hc=>Z i (.inl ((hsub1 i hi).resolve_right Fe)));obtain⟨rfl,hA⟩:=xd;refine go ?_;exact⟨(_,_,_),Hc,r,hA,z,λk hk=>hk.elim (hsub1 k) (λh9=>.inr Fe),J,by unfold Nl;rw[hR1,if_pos c6]⟩
  refine go ?_;exact⟨(F1,D1,e1),Hc,r,hA,z,hsub1,J,by unfold Nl;rw[hR1,if_neg c6]⟩
 rintro _ ⟨F2,D2,e⟩ w17 ⟨r,hA,z,hsub,J,hR⟩;have hsw:=r.size;refine Gz (X4v G bl bd vd ve vs L e _ z) λu18 xv xk xh=>?_;have hsz18:=r.size;have hA:=hA.mod xk (λk hk e9=>by have e8:k=bl:=e9;subst e8;exact(hsub _ hk).elim (λh=>ha _ h (z.inG _ (.inl rfl))) (λh=>by have h9:=Y _ (z.inG _ (.inl rfl));omega));have r:=r.own xk (λi hi hc=>(by have e2:i=bl:=hi;rw[e2];exact Z bl (.inr (z.inG bl (.inl rfl)))));obtain⟨rfl,z⟩:=xh;refine Fk (λc7=>?_) λc7=>?_
 ·have hy:e=0:=c7;have hr:{ L with dead:=L.dead || decide (e≠0) } = L:=by rw[c2,hy];cases L;simp at c2 ⊢;exact c2
  rw[hr]at z;have J:=z.m;have xr:=hA.lt;have xj:=r.size;refine Gj (Ny p vp _ (hp.mod r hpH) Fe) λvc w19 xe hC=>?_;have hsz19:=r.size;refine FC xe hA J r λhA J r=>?_;have hne3:=hC.ne_blk J rfl;refine go ?_;refine HL J (λw20 xb xs20 J=>?_) (hv:=by rfl);have hA:=hA.mod xb (λk hk e9=>by have e8:k=bl:=e9;subst e8;exact(hsub _ hk).elim (λh=>ha _ h (z.inG _ (.inl rfl))) (λh=>by have h9:=Y _ (z.inG _ (.inl rfl));omega));have hC:=hC.mod xb Fw;have r:=r.own xb (λi hi _=>(by have e2:i=bl:=hi;rw[e2];exact Z bl (.inr (z.inG bl (.inl rfl)))));refine go ?_;refine HL J (λw21 xa xs21 J=>?_) (hv:=by exact hC.sl.one);have hA:=hA.mod xa (λk hk e9=>by have e8:k=bl:=e9;subst e8;exact(hsub _ hk).elim (λh=>ha _ h (z.inG _ (.inl rfl))) (λh=>by have h9:=Y _ (z.inG _ (.inl rfl));omega));have hC:=hC.mod xa Fw;have r:=r.own xa (λi hi _=>(by have e2:i=bl:=hi;rw[e2];exact Z bl (.inr (z.inG bl (.inl rfl)))));refine go ?_;refine HL J (λxf ht xs22 J=>?_) (hv:=by rfl);have hA:=hA.mod ht (λk hk e9=>by have e8:k=bl:=e9;subst e8;exact(hsub _ hk).elim (λh=>ha _ h (z.inG _ (.inl rfl))) (λh=>by have h9:=Y _ (z.inG _ (.inl rfl));omega));have hC:=hC.mod ht Fw;have r:=r.own ht (λi hi _=>(by have e2:i=bl:=hi;rw[e2];exact Z bl (.inr (z.inG bl (.inl rfl)))));refine go ?_;have hs22:=xe.size;rw[c2]at J;have xn:=z.image (w':=xf) (i:=ix) (p:=p) Fe J (hC.arr Fg) (λhn=>(hC.base_ge hn).1) Fe Fe Fe;refine⟨_,rfl,r,?_⟩;rw[X8q c2 h6 hj (by rw[hR,hy];simp),hR,hy];refine⟨rfl,F2,FV G xv xf,vc,_,_,hA,xn,λk hk hg=>?_,λk hk=>hk.elim (λh=>(hsub k h).elim (λh2=>.inl (Z k (.inl h2))) (λh2=>.inr ⟨h2,hA.lt k h⟩)) (λh=>?_),Jq hc r.size⟩
  ·rcases hg with hg|hg
   ·exact(hsub k hk).elim (λh=>ha k h hg) (λh=>by have:=Y k hg;omega)
   ·have:=xr k hk;omega
  ·rcases h with h|h
   ·exact .inl (Z k (.inr h))
   ·exact .inr ⟨Ae xj h.1,h.2⟩
 refine go ?_;have hr:{ L with dead:=L.dead || decide (e≠0) } = { L with dead:=true }:=by rw[c2];simp [show¬ e=0 from c7]
 rw[hr]at z;refine⟨_,rfl,r,?_⟩;rw[Yb4 c2 h6 hj (by rw[hR];exact c7),hR];exact⟨rfl,F2,G,vd,ve,vs,hA,z,λk hk hg=>(hsub k hk).elim (λh=>ha k h hg) (λh=>by have:=Y k hg;omega),λk hk=>hk.elim (λh=>(hsub k h).elim (λh2=>.inl (Z k (.inl h2))) (λh2=>.inr ⟨h2,hA.lt k h⟩)) (λh=>.inl (Z k (.inr h))),Jq hc r.size⟩
def Gf (lv next:Int)(ss:List (List Cell)):List Fi:=ss.zipIdx.map λp=>Ll lv next p.2 p.1
def Il (next:Int)(ss:List (List Cell)):List (Int×Fj):=ss.zipIdx.map λp=>(next+↑p.2,Fz (FT p.1))
def Mi (lv next:Int)(ss:List (List Cell)):List ((Int×Int)×List Cell):=ss.zipIdx.map λp=>((lv,next+↑p.2),p.1)
def Kh (b0 B1:Nat)(lv next:Int)(xs:List Md)(ss:List (List Cell))(w:World):Prop:=L7 b0 lv next xs ss w/\∀x∈xs,(base x.vb).1<B1
section
variable {b0 B1:Nat}{lv next:Int}{xs:List Md}{ss:List (List Cell)}{w w':World}{S:Nat->Prop}
def Kh.mod (h:Kh b0 B1 lv next xs ss w)(m:Vc.Mod S w w')(hS:∀k,b0<=k->k<B1->¬ S k):Kh b0 B1 lv next xs ss w':=
 ⟨⟨h.1.1,λj x sg r hs=>by
  obtain⟨h1,h2,h3,h4,z⟩:=h.1.2 j x sg r hs;exact⟨h1,h2,h3.mod m (λ_=>hS _ h4 (h.2 x (Ag r))),h4,z⟩⟩,h.2⟩
def Kh.ext (h:Kh b0 B1 lv next xs ss w)(m:Fq w w'):Kh b0 B1 lv next xs ss w':=h.mod m (λ_ _ _ h=>h)
instance : Up w w' (Kh b0 B1 lv next xs ss w) (Kh b0 B1 lv next xs ss w'):=⟨λx h=>h.ext x⟩
def L7.up (h:L7 b0 lv next xs ss w):Kh b0 w.heap.size lv next xs ss w:=⟨h,λx z=>by
 obtain⟨i,hi⟩:=AK z;have r:=(Ar.1 hi).1;obtain⟨h1,h2,h3,h4,h5⟩:=h.2 i x _ hi (Aq (by rw[<-h.1];exact r));exact h3.base_lt Fo (λe=>by have:=J9 (FT (ss[i]'(by rw[<-h.1];exact r)));rw[e]at this;simp at this)⟩
def Mz {α:Type}(l:List α)(i:Nat):l.zipIdx[i]?=l[i]?.map λx=>(x,i):=by
 rw[List.getElem?_zipIdx];simp
def L7.files (h:L7 b0 lv next xs ss w):xs.map (·.f)=Gf lv next ss/\(xs.zip (ss.map λsg=>Fz (FT sg))).map (λq=>(q.1.f.id,q.2))=Il next ss/\(xs.zip ss).map (λq=>((q.1.f.lev,q.1.f.id),q.2))=Mi lv next ss:=by
 have z:∀i x,xs[i]?=some x->∃sg,ss[i]?=some sg/\x.f=Ll lv next i sg:=λi x hi=>by
  have J:=(Ar.1 hi).1;have hs:ss[i]?=some (ss[i]'(by rw[<-h.1];exact J)):=Aq _;exact⟨_,hs,(h.2 i x _ hi hs).1⟩
 have r:∀i,xs[i]?=none->ss[i]?=none:=λi hi=>by
  rw[EO]at *;rw[<-h.1];exact hi
 refine⟨?_,?_,?_⟩
 ·apply BF
  intro i;unfold Gf;rw[AH,AH,Mz]
  cases hi:xs[i]? with
  | none=>rw[r i hi];rfl
  | some x=>obtain⟨sg,hs,H⟩:=z i x hi;rw[hs];simp [H]
 ·apply BF
  intro i;unfold Il;rw[AH,AH,Mz]
  cases hi:xs[i]? with
  | none=>rw[r i hi];simp [D5,D6,hi]
  | some x=>obtain⟨sg,hs,H⟩:=z i x hi;simp [D5,D6,hi,hs,H,Ll]
 ·apply BF
  intro i;unfold Mi;rw[AH,AH,Mz]
  cases hi:xs[i]? with
  | none=>rw[r i hi];simp [D5,D6,hi]
  | some x=>obtain⟨sg,hs,H⟩:=z i x hi;simp [D5,D6,hi,hs,H,Ll]
end
def Lf (L:Led)(D:Dsk)(V:Vs)(ts:List Tb)(dead:Bool)(l:List Cell)(lv:Int)(gone:List Fi)(e:Int)(L':Led)(D':Dsk)(V':Vs)(ts':List Tb)(dead':Bool):Prop:=
 (e≠0/\L'=L/\D'=D/\V'=V/\ts'=ts/\dead'=dead/\((∃sg∈Gc l,IV sg≠0)\/Lr V (gone.map (·.id)) (Gf lv V.next (Gc l))=false\/∃fs',fs'.Perm (Je V.fs (gone.map (·.id))++Gf lv V.next (Gc l))/\Up (FZ HM) fs'/\(H2 ⟨HV V.next (Gf lv V.next (Gc l)),fs'⟩=false\/262144<(Ii ⟨HV V.next (Gf lv V.next (Gc l)),fs'⟩).length)))\/
 ((∀sg∈Gc l,IV sg=0)/\Lr V (gone.map (·.id)) (Gf lv V.next (Gc l))=true/\∃fs',fs'.Perm (Je V.fs (gone.map (·.id))++Gf lv V.next (Gc l))/\Up (FZ HM) fs'/\H2 ⟨HV V.next (Gf lv V.next (Gc l)),fs'⟩=true/\(Ii ⟨HV V.next (Gf lv V.next (Gc l)),fs'⟩).length<=262144/\
  (((Iy (Il V.next (Gc l)) D).1≠0/\e=(Iy (Il V.next (Gc l)) D).1/\L'=L/\D'=(Iy (Il V.next (Gc l)) D).2/\V'=V/\ts'=ts/\dead'=true)\/
   ((Iy (Il V.next (Gc l)) D).1=0/\L'=(L.write (Iy (Il V.next (Gc l)) D).2 L.last (Ii ⟨HV V.next (Gf lv V.next (Gc l)),fs'⟩)).2.1/\D'=(L.write (Iy (Il V.next (Gc l)) D).2 L.last (Ii ⟨HV V.next (Gf lv V.next (Gc l)),fs'⟩)).2.2/\
    (((L.write (Iy (Il V.next (Gc l)) D).2 L.last (Ii ⟨HV V.next (Gf lv V.next (Gc l)),fs'⟩)).1≠0/\e=(L.write (Iy (Il V.next (Gc l)) D).2 L.last (Ii ⟨HV V.next (Gf lv V.next (Gc l)),fs'⟩)).1/\V'=V/\ts'=ts/\dead'=true)\/
     ((L.write (Iy (Il V.next (Gc l)) D).2 L.last (Ii ⟨HV V.next (Gf lv V.next (Gc l)),fs'⟩)).1=0/\e=0/\V'=⟨HV V.next (Gf lv V.next (Gc l)),fs'⟩/\dead'=dead/\∃tbs:List Tb,tbs.map (λt=>(t.h,t.cs))=Mi lv V.next (Gc l)/\ts'=Mt (tbs.foldl Hx ts) gone)))))
def Nw {v:Vs}(h:H2 v=true):∀f∈v.fs,Ge f.id/\Ge f.lev:=λf r=>by
 obtain⟨h1,h2,h3,h4,_⟩:=Jc h;have z:=h4 f r;simp only [IL,Aw,decide_eq_true_eq]at z;exact⟨⟨by omega,by omega⟩,⟨by omega,by omega⟩⟩
variable {b0:Nat}{lv:Int}{w:World}{xs:List Md}
def L7.mono {b:Nat}{next:Int}(h:L7 b0 lv next xs ss w)(hb:b<=b0):L7 b lv next xs ss w:=⟨h.1,λj x sg z hs=>by
 obtain⟨h1,h2,h3,h4,r⟩:=h.2 j x sg z hs;exact⟨h1,h2,h3,Ae hb h4,r⟩⟩
def Xus (l:List Cell):(Gc l).length<=l.length:=by
 rw[<-Tn (Aa l.length)];exact(NW l _ (Aa _)).2
def X26 {next:Int}(hn:0<=next/\next<=1099511627776)(hl:ss.length<=100000):∀f∈Gf lv next ss,Ge f.id:=λf r=>by
 unfold Gf at r;obtain⟨p,z,rfl⟩:=Ao.1 r;obtain⟨i,hi⟩:=AK z;rw[Mz]at hi;obtain⟨sg,hs,rfl⟩:=Bp.1 hi;have:=(Ar.1 hs).1;show Ge (next+↑i);unfold Ge;omega
def Xy8 (h:IV sg=0):(Fz (FT sg)).length<=1048588:=by
 have h1:=(NM h).2.2.2;unfold HQ at h1;rw[J9];split at h1
 ·cases h1
 ·omega
def Kh.zip {B1:Nat}{next:Int}(h:Kh b0 B1 lv next xs ss w)(hn:0<=next/\next<=1099511627776)(hlv:0<=lv/\lv<=100)(hl:ss.length<=100000):∀q∈xs.zip ss,Fu Fs 1 w q.1.vb (Fz (FT q.2))/\IV q.2=0/\Ge q.1.f.id/\Ge q.1.f.lev/\(b0<=(base q.1.vb).1/\(base q.1.vb).1<B1)/\q.1.vl.oneCell'=true:=λq r=>by
 obtain⟨i,hi⟩:=AK r;rw[Ea]at hi;obtain⟨h1,h2,h3,h4,z⟩:=h.1.2 i q.1 q.2 hi.1 hi.2;have:=(Ar.1 hi.2).1;rw[h1];exact⟨h3,h2,by show Ge (next+↑i);unfold Ge;omega,by show Ge lv;unfold Ge;omega,⟨h4,h.2 _ (Ag hi.1)⟩,z⟩
def Kh.zip2 {B1:Nat}{next:Int}(h:Kh b0 B1 lv next xs ss w)(hn:0<=next/\next<=1099511627776)(hlv:0<=lv/\lv<=100)(hl:ss.length<=100000):∀q∈xs.zip (ss.map λsg=>Fz (FT sg)),Fu Fs 1 w q.1.vb q.2/\q.2.length<=2001000020/\Ge q.1.f.id/\(b0<=(base q.1.vb).1/\(base q.1.vb).1<B1)/\q.1.vl.oneCell'=true:=λq r=>by
 obtain⟨i,hi⟩:=AK r;rw[Ea,AH]at hi;obtain⟨sg,hs,he⟩:=Bp.1 hi.2;obtain⟨h1,h2,h3,h4,z,H⟩:=h.zip hn hlv hl (q.1,sg) (Ag (i:=i) (by rw[Ea];exact⟨hi.1,hs⟩));rw[<-he];have h9:(Fz (FT sg)).length<=1048588:=Xy8 h2;exact⟨h1,by omega,h3,z,H⟩
def LD.calls_last {H:Nat->Prop}{bl bd:Nat}(h:LD H bl bd L D w):Calls Tryz.prog 55 [Fh bl 0].toArray w (Pure w (I L.last)):=by
 obtain⟨F,G,vd,ve,vs,h1,h2,_⟩:=h;exact HC G bl bd vd ve vs L w h2
def Xo5 (κ:Nat->Nat)(bs bd bl bo bm:Nat)(vf:Value)(L:Led)(D:Dsk)(V:Vs)(ts:List Tb)(mem:List Cell)(dead:Bool)(l:List Cell)(vc:Value)(lv:Int)(gone:List Fi)(vg:Value)(w:World)(h:StE κ bs bd bl bo bm vf L D V ts mem dead w)(hc:Fu Cell.cs 4 w vc l)(hll:l.length<=60000)(hc9:∀c∈l,c.key.length<=4096/\c.val.length<=16384)(hlv:0<=lv/\lv<=100)(hg:Fu Fi.cs 5 w vg gone)(hgl:gone.length<=30000)(hgk:gone≠[]->κ (base vg).1=0)(hgi:∀f∈gone,Ge f.id/\Ge f.lev)(hV:H2 V=true)(hgv:GV w)(hgvs:∀k,Mv k->κ k=0)(htl:ts.length<=900000)(hck:l≠[]->κ (base vc).1=0) :
  G4 44 [Fh bs 0,vc,I lv,vg] w (λk=>κ k≠0) λu w'=>∃e κ' vf' L' D' V' ts' dead',u=I e/\(∀k,k<w.heap.size->κ' k=κ k)/\StE κ' bs bd bl bo bm vf' L' D' V' ts' mem dead' w'/\Lf L D V ts dead l lv gone e L' D' V' ts' dead':=by
 refine cM Tryz.func44 (λk=>κ k≠0) λJ=>?_;have O:=h;obtain⟨hn1,hn2,hvl,hvo,_⟩:=Jc hV;have yi:=Nw hV;have hsgl:=Xus l;have hh:∀k,w.heap.size<=k->κ k=0:=λk hk=>AO λh9=>by have:=h.lt k h9;omega
 have hwid:∀k,w.heap.size<=k->¬ Fv bs k:=λk hk e=>by have e2:k=bs:=e;have h1:=hh k hk;rw[e2,h.k0]at h1;cases h1
 refine go ?_;refine dl rfl (O.m.at rfl) (cG (X8l l vc lv V.next _ (hc.mod J (λhl e=>e (hck hl))) hll hc9 hlv Fe) RX.all λu1 w1 x1 y7=>?_);have xo:=J.size;refine Fy x1 O J λO J=>?_;obtain⟨va,e1,hu,hmk⟩:∃va e1,u1=.tuple #[va,I e1]/\((e1≠0/\∃sg∈Gc l,IV sg≠0)\/(e1=0/\∃xs,Vc.Own Md.cs 7 161 w.heap.size w1 va xs/\L7 w.heap.size lv V.next xs (Gc l) w1)):=by
  rcases y7 with⟨sg,h1,h2,h3⟩|⟨va,xs,h1,h2,h3⟩
  ·exact⟨_,_,h3,.inl ⟨h2,sg,h1,h2⟩⟩
  ·exact⟨_,_,h1,.inr ⟨rfl,xs,h2.mono xo,h3.mono xo⟩⟩
 subst hu;refine Fk (λc1=>?_) λc1=>?_
 ·refine go ?_;rcases hmk with⟨_,h9⟩|⟨h9,_⟩
  ·exact⟨_,rfl,J,e1,κ,vf,L,D,V,ts,dead,rfl,λ_ _=>rfl,O,.inl ⟨c1,rfl,rfl,rfl,rfl,rfl,.inl h9⟩⟩
  ·exact absurd h9 c1
 rcases hmk with⟨h9,_⟩|⟨h9,xs,r,hMF⟩
 ·exact absurd h9 c1
 obtain⟨yg,yw,yk⟩:=hMF.files;have xb:∀sg∈Gc l,IV sg=0:=λsg hs=>by
  obtain⟨i,hi⟩:=AK hs;have xq:=(Ar.1 hi).1;exact(hMF.2 i _ sg (Aq (by rw[hMF.1];exact xq)) hi).2.1
 have hxl:=hMF.1;obtain⟨B1,hB1,H,hG⟩:∃B1,w.heap.size<=B1/\Sz B1 _/\Kh w.heap.size B1 lv V.next xs (Gc l) _:=⟨_,J.size,⟨Aa _⟩,hMF.up⟩;refine FM 62 5 (hg.mod J (λhl e=>e (hgk hl))).sl ?_;refine F8 (G:=Nat×Value) (λ(k,vi)=>[(0,Fh bs 0),(3,vg),(8,I 0),(9,va),(10,I e1),(11,vi),(36,vg),(37,I ↑gone.length),(38,I ↑k)]) (λ(k,vi) w'=>Mod (λk=>κ k≠0) w w'/\StE κ bs bd bl bo bm vf L D V ts mem dead w'/\Vc.Own Md.cs 7 161 w.heap.size w' va xs/\Kh w.heap.size B1 lv V.next xs (Gc l) w'/\Sz B1 w'/\k<=gone.length/\Vc.Own Vc.encI 1 3 B1 w' vi ((gone.take k).map (·.id))) (λ(k,vi)=>gone.length-k) (0,.slice none 0 0) ⟨J,O,r,hG,H,Ab _,Vc.Own.nil⟩ ?_;rintro _ ⟨k,vi⟩ w2 ⟨J,O,r,hG,H,hk1,Y⟩;refine Fk (λc2=>?_) λc2=>?_
 ·obtain⟨f,hk⟩:∃f,gone[k]?=some f:=F7;refine FN 62 5 hg.sl (hg.lt hk) ?_;refine dq (Fx Ff rfl rfl ((hg.mod J (λhl e=>e (hgk hl))).row hk)) (aL [.int .i64 0,.int .i64 0,.int .i64 0,S [],S []] λb1 w3 e1 x3 m1=>?_);have g1:=J.ge e1;have a1_hS:=O.lt;have o1_hoM:=r.ltb e1;have xi:=H.le;have o1_ho1:=Y.ltb e1;refine HB x3 O r hG H Y J λO r hG H Y J=>Gg m1 (λw4 x4 xs4 m1=>?_);have O:=O.mod x4 (λk9 h9 e9=>by have h2:k9=b1:=e9;have h8:=h.lt;have h7:=hh k9 Fe;exact h9 h7);have r:=r.mod x4 Fw;have hG:=hG.mod x4 (λk9 _ h9 e9=>by have h2:k9=b1:=e9;have h8:=xi;omega);have H:=H.mod x4 trivial;have Y:=Y.mod x4 Fw;have J:=J.o1 x4;refine go ?_;refine li (e:=3) (sz:=1) (zs:=[.int .i64 0]) (pv:=[(0,_)]) (cs:=[_]) RX.all (λb2 w5 e2 x5 m2=>?_);have g2:=J.ge e2;have a2_hS:=O.lt;have o2_hoM:=r.ltb e2;have a2_hSz:=H.le;have o2_ho1:=Y.ltb e2;refine HB x5 O r hG H Y J λO r hG H Y J=>G8 f.id Y m2 (λy5 w6 xw x6=>?_) (h1:=(by intro x yl u hu;rw[Af.1 yl]at hu;simp at hu;rw[hu];rfl)) (hB:=H.le);have O:=O.mod x6 (by exact(λk hk e=>hk (hh k (Ae hB1 (Y.lt k e).1))));have r:=r.mod x6 (by exact(λk hk=>r.ne Y rfl hk));have hG:=hG.mod x6 (by exact(λk _ h2 e=>absurd (Y.lt k e).1 (Nat.not_le.2 h2)));have H:=H.mod x6 Fw;have J:=J.own x6 (λi hi xd=>(by have:=(Y.lt i hi).1;omega));have Y:=xw;clear m2;refine go ?_;rw[show(gone.take k).map (·.id)++[f.id]=(gone.take (k+1)).map (·.id) by rw[GW hk,A3];rfl]at Y;exact FL (k+1,y5) ⟨J,O,r,hG,H,by omega,Y⟩
 rw[Av Fe]at Y;refine go ?_;refine dv 161 7 (r.arr Fg).sl (F8 (G:=Nat×Value) (λ(k,vad)=>[(0,Fh bs 0),(3,vg),(8,I 0),(9,va),(10,I e1),(11,vi),(14,vad),(48,va),(49,I ↑xs.length),(50,I ↑k)]) (λ(k,vad) w'=>Mod (λk=>κ k≠0) w w'/\StE κ bs bd bl bo bm vf L D V ts mem dead w'/\Vc.Own Md.cs 7 161 w.heap.size w' va xs/\Kh w.heap.size B1 lv V.next xs (Gc l) w'/\Sz B1 w'/\Vc.Own Vc.encI 1 3 B1 w' vi (gone.map (·.id))/\k<=xs.length/\Vc.Own Fi.cs 5 62 B1 w' vad ((xs.take k).map (·.f))) (λ(k,vad)=>xs.length-k) (0,.slice none 0 0) ⟨J,O,r,hG,H,Y,Ab _,Vc.Own.nil⟩ ?_);rintro _ ⟨k,vad⟩ w7 ⟨J,O,r,hG,H,Y,hk1,ha⟩;refine Fk (λc3=>?_) λc3=>?_
 ·obtain⟨x,hk⟩:∃x,xs[k]?=some x:=F7;obtain⟨sg,hsg⟩:∃sg,(Gc l)[k]?=some sg:=F7;obtain⟨_,_,yq,_,yu⟩:=hG.1.2 k x sg hk hsg;refine go ?_;refine di 161 7 (r.arr Fg).sl rfl ((r.arr Fg).lt hk) (dq (Fx Ff rfl rfl ((r.arr Fg).row hk)) (aL [.int .i64 0,.int .i64 0,.int .i64 0,S [],S [],.slice none 0 0,.slice none 0 0] λb3 w8 e3 x8 m3=>?_));have g3:=J.ge e3;have a3_hS:=O.lt;have o3_hoM:=r.ltb e3;have xh:=H.le;have o3_ho1:=Y.ltb e3;have o3_ho2:=ha.ltb e3;refine Lv x8 O r hG H Y ha J λO r hG H Y ha J=>?_;refine Gg m3 (λw9 x9 xs9 m3=>?_) (h1:=by(intro u hu;simp only [Ah,Cp,or_false]at hu;rcases hu with e|e|e|e|e|e|e<;>subst e<;>first|rfl|exact yu|exact yq.sl.one));have O:=O.mod x9 (λk9 h9 e9=>by have h2:k9=b3:=e9;have h8:=h.lt;have h7:=hh k9 Fe;exact h9 h7);have r:=r.mod x9 Fw;have hG:=hG.mod x9 (λk9 _ h9 e9=>by have h2:k9=b3:=e9;have h8:=xh;omega);have H:=H.mod x9 trivial;have Y:=Y.mod x9 Fw;have ha:=ha.mod x9 Fw;have J:=J.o1 x9;refine gc ?_;refine dm ?_;refine df 0 rfl (dq (LV.to (v':=x.f.v) (Fx Ff rfl rfl (m3.part 0 5)) rfl) (lA 62 rfl λb4 w10 e4 y6 m4=>?_));have g4:=J.ge e4;have a4_hS:=O.lt;have o4_hoM:=r.ltb e4;have a4_hSz:=H.le;have o4_ho1:=Y.ltb e4;have o4_ho2:=ha.ltb e4;refine Lv y6 O r hG H Y ha J λO r hG H Y ha J=>G8 x.f ha m4 (λyt w11 xt hy=>?_) (hB:=H.le);have O:=O.mod hy (by exact(λk hk e=>hk (hh k (Ae hB1 (ha.lt k e).1))));have r:=r.mod hy (by exact(λk hk=>r.ne ha rfl hk));have hG:=hG.mod hy (by exact(λk _ h2 e=>absurd (ha.lt k e).1 (Nat.not_le.2 h2)));have H:=H.mod hy Fw;have Y:=Y.mod hy (by exact(λk hk=>Y.ne ha rfl hk));have J:=J.own hy (λi hi xd=>(by have:=(ha.lt i hi).1;omega));have ha:=xt;clear m4;refine go ?_;rw[show(xs.take k).map (·.f)++[x.f]=(xs.take (k+1)).map (·.f) by rw[GW hk,A3];rfl]at ha;exact FL (k+1,yt) ⟨J,O,r,hG,H,Y,by omega,ha⟩
 rw[Av Fe]at ha;refine go ?_;refine dq (Fx Ff rfl rfl (O.m.part 2 2)) (Gj (X23 V.next V.fs vf (gone.map (·.id)) vi (xs.map (·.f)) vad _ O.vs Fe (λf hf=>(yi f hf).1) (Y.arr Fg) (by rw[Au];omega) (ha.arr Fg) (by rw[Au];omega) (by rw[yg];exact X26 Fe Fe)) λyz y3 yy xm=>?_);have xr:=J.size;refine Ga yy O r hG H J λO r hG H J=>?_;rw[yg]at xm;obtain⟨n2,vx,e2,fs2,hu,Z,hch⟩:∃n2 vx e2 fs2,yz=.tuple #[.agg ⟨[I n2,vx]⟩,I e2]/\Vc.Own Fi.cs 5 62 w.heap.size y3 vx fs2/\((e2≠0/\(Lr V (gone.map (·.id)) (Gf lv V.next (Gc l))=false\/∃fs',fs'.Perm (Je V.fs (gone.map (·.id))++(Gf lv V.next (Gc l)))/\Up (FZ HM) fs'/\H2 ⟨HV V.next (Gf lv V.next (Gc l)),fs'⟩=false))\/(e2=0/\Lr V (gone.map (·.id)) (Gf lv V.next (Gc l))=true/\fs2.Perm (Je V.fs (gone.map (·.id))++(Gf lv V.next (Gc l)))/\Up (FZ HM) fs2/\H2 ⟨HV V.next (Gf lv V.next (Gc l)),fs2⟩=true/\n2=HV V.next (Gf lv V.next (Gc l)))):=by
  rcases xm with⟨h1,h2⟩|⟨h1,fs',h2,h3,⟨h4,h5⟩|⟨h4,vx,h5,h6⟩⟩
  ·exact⟨_,_,_,[],h2,Vc.Own.nil,.inl ⟨by decide,.inl h1⟩⟩
  ·exact⟨_,_,_,[],h5,Vc.Own.nil,.inl ⟨by decide,.inr ⟨fs',h2,h3,h4⟩⟩⟩
  ·exact⟨_,_,_,fs',h5,h6.mono xr,.inr ⟨rfl,h1,h2,h3,h4,rfl⟩⟩
 subst hu;refine go ?_;refine aL [.int .i64 0,.slice none 0 0] λb5 w13 e5 yx m5=>?_;have g5:=J.ge e5;have a5_hS:=O.lt;have o5_hoM:=r.ltb e5;have xj:=H.le;have o5_hoV:=Z.ltb e5;refine HB yx O r hG H Z J λO r hG H Z J=>Gg m5 (λw14 hz xs14 m5=>?_) (h1:=by(intro u hu;rcases Ah.1 hu with e|hu;subst e;rfl;rw[Af.1 hu];exact Z.sl.one));have O:=O.mod hz (λk9 h9 e9=>by have h2:k9=b5:=e9;have h8:=h.lt;have h7:=hh k9 Fe;exact h9 h7);have r:=r.mod hz Fw;have hG:=hG.mod hz (λk9 _ h9 e9=>by have h2:k9=b5:=e9;have h8:=xj;omega);have H:=H.mod hz trivial;have Z:=Z.mod hz Fw;have J:=J.o1 hz;refine Fk (λc4=>?_) λc4=>?_
 ·refine go ?_;rcases hch with⟨_,h9|⟨fs3,p1,p2,p3⟩⟩|⟨h9,_⟩
  ·exact⟨_,rfl,J,5,κ,vf,L,D,V,ts,dead,rfl,λ_ _=>rfl,O,.inl ⟨by decide,rfl,rfl,rfl,rfl,rfl,.inr (.inl h9)⟩⟩
  ·exact⟨_,rfl,J,5,κ,vf,L,D,V,ts,dead,rfl,λ_ _=>rfl,O,.inl ⟨by decide,rfl,rfl,rfl,rfl,rfl,.inr (.inr ⟨fs3,p1,p2,.inl p3⟩)⟩⟩
  ·exact absurd h9 c4
 rcases hch with⟨h9,_⟩|⟨h9,hck1,hcp,hcu,hV2,hn9⟩
 ·exact absurd h9 c4
 subst hn9;have xy:=Nw hV2;obtain⟨_,_,xz,_⟩:=Jc hV2;refine go ?_;refine dq (Fx (k:=2) Ff rfl rfl m5.row) (cG (X2o (HV V.next (Gf lv V.next (Gc l))) fs2 vx _ (Z.arr Fg) (by have:fs2.length<=1024:=xz;omega) (λf hf=>(xy f hf).1)) RX.all λu15 yv ym x0=>?_);have xu:=J.size;refine Lv ym O r hG H Z m5 J λO r hG H Z m5 J=>?_;obtain⟨vp,rfl,xp⟩:=x0;rw[if_pos hV2]at xp;have hp:=xp.mono xu;refine go ?_;refine dv 5 1 (hp.arr Fg).sl ?_;refine Fk (λc5=>?_) λc5=>?_
 ·refine go ?_;exact⟨_,rfl,J,5,κ,vf,L,D,V,ts,dead,rfl,λ_ _=>rfl,O,.inl ⟨by decide,rfl,rfl,rfl,rfl,rfl,.inr (.inr ⟨fs2,hcp,hcu,.inr Fe⟩)⟩⟩
 refine go ?_;obtain⟨NK,hNK⟩:∃z,z=yv.heap.size:=⟨_,rfl⟩;have hNw:w.heap.size<=NK:=by rw[hNK];exact J.size
 have yc:Ii ⟨HV V.next (Gf lv V.next (Gc l)),fs2⟩≠[]->(base vp).1<NK/\w.heap.size<=(base vp).1:=λhl=>by rw[hNK];exact⟨(hp.base_ge hl).2,(hp.base_ge hl).1⟩
 have xf:fs2≠[]->(base vx).1<NK/\w.heap.size<=(base vx).1:=λhl=>by rw[hNK];exact⟨(Z.base_ge hl).2,(Z.base_ge hl).1⟩
 have xe:xs≠[]->(base va).1<NK/\w.heap.size<=(base va).1:=λhl=>by rw[hNK];exact⟨(r.base_ge hl).2,(r.base_ge hl).1⟩
 have hBN:B1<=NK:=by rw[hNK];exact H.le
 have hmN:b5<NK:=by rw[hNK];exact m5.lt
 have y8:(xs.zip ((Gc l).map λsg=>Fz (FT sg))).map (·.1)=xs:=EP (by rw[Au];omega);have xg:∀k,w.heap.size<=k->¬ κ k=1:=λk hk e=>by rw[hh k hk]at e;cases e
 refine Jz rfl Ff (X8m κ bs bd bl bo bm vf L D V ts mem dead (xs.zip ((Gc l).map λsg=>Fz (FT sg))) va _ O (hgv.mod J (λk hk e=>e (hgvs k hk))) hgvs (by rw[y8];exact r.arr Fg) (by rw[EQ];omega) (λhl=>hh _ (xe (by rintro rfl;simp at hl)).2) (λq hq=>by
  obtain⟨g1,g2,g3,g4,g5⟩:=hG.zip2 Fe hlv Fe q hq;exact⟨g1,g2,g3,λ_=>hh _ g4.1,g5⟩)) rfl (.inl rfl) (λu16 y2 hw xl=>?_)
 have hsz16:=J.size;have r:=r.mod hw (by exact(λk hk e=>xg k (r.lt k hk).1 e));have hG:=hG.mod hw (by exact(λk h1 _ e=>xg k h1 e));have Z:=Z.mod hw (by exact(λk hk e=>xg k (Z.lt k hk).1 e));have m5:=m5.mod hw (by exact(λe=>xg _ Fe e));have hp:=hp.mod hw (by exact(λk hk e=>xg k (hp.lt k hk).1 e));have J:=J.own hw F5;rw[yw,<-hNK]at xl;obtain⟨rfl,κ1,hr,xv⟩:=xl;have O:=xv;have ht:Sz NK y2:=⟨by rw[hNK];exact hw.size⟩;refine Fk (λc6=>?_) λc6=>?_
 ·refine Gz (Qa bs bd bl V.next vf bo bm dead (Iy (Il V.next (Gc l)) D).1 _ O.m) λu17 w17 yj yh=>?_;have hsz17:=J.size;have J:=J.own yj (λi hi xd=>(by have e1:i=bs:=hi;rw[e1,h.k0];decide));obtain⟨rfl,xx⟩:=yh;have xc:=O.head yj xx;have O:=xc;refine go ?_;exact⟨_,rfl,J,_,κ1,vf,_,_,V,ts,_,rfl,λk hk=>hr k Fe,O,.inr ⟨xb,hck1,fs2,hcp,hcu,hV2,by omega,.inl ⟨c6,rfl,rfl,rfl,rfl,rfl,by simp [c6]⟩⟩⟩
 refine go ?_;refine HP (R:=Mod (λk=>κ1 k=1)) Ij I0 Ff [3,7] [(0,.p,false),(1,.p,false),(2,.p,false),(3,.l,false),(4,.p,false),(5,.p,false),(6,.p,false),(7,.l,false),(9,.p,false),(8,.x,false),(10,.x,false),(11,.p,false)] rfl Ff Ff (λw18 xn=>?_);have y4:=FE xn;clear xn;refine Jj y4 r hG Z m5 hp O ht J λr hG Z m5 hp O ht J=>go ?_;refine dL rfl (λ_ hR=>((O.m.mod hR (λe=>by have e2:κ1 bs=1:=e;rw[O.k0]at e2;cases e2)).at rfl)) (go ?_);refine dL rfl (λ_ hR=>((O.m.mod hR (λe=>by have e2:κ1 bs=1:=e;rw[O.k0]at e2;cases e2)).at rfl)) (go ?_);refine cP (O.ld.calls_last) RX.mod λw19 y0=>Jj y0 r hG Z m5 hp O ht J λr hG Z m5 hp O ht J=>?_;have yf:=ht.le;refine Jz rfl Ff (X8r _ bl bd L (Iy (Il V.next (Gc l)) D).2 L.last (Ii ⟨HV V.next (Gf lv V.next (Gc l)),fs2⟩) vp _ O.ld (hp.arr Fg) Fe (λhl e=>by have e1:κ1 (base vp).1=1:=e;rw[hr _ (yc hl).1,hh _ (yc hl).2]at e1;cases e1)) rfl (.inr λw9 h9=>h9) (λu20 yp xa ya=>?_);have hsz20:=J.size;have J:=J.own xa (λi hi xd=>(by have e1:κ1 i=1:=hi;rw[<-hr i Fe,e1];decide));obtain⟨rfl,xq⟩:=ya;have xc:=O.ledger xa xq;have hj:=λk (hk:k<NK)=>(Nj (κ:=κ1) (i:=1) (w':=yp) (Ay hk yf)).trans (hr k hk);have xk:∀k,w.heap.size<=k->k<NK->¬ κ1 k=1:=λk h1 h2 e=>by rw[hr k h2,hh k h1]at e;cases e
 have r:=r.arr Fg |>.mod xa (λhl=>xk _ (xe hl).2 (xe hl).1);have Z:=Z.arr Fg |>.mod xa (λhl=>xk _ (xf hl).2 (xf hl).1);have hG:=hG.mod xa (λk h1 h2=>xk k h1 Fe);have m5:=m5.mod xa (λe=>xk _ Fe Fe e);have O:=xc;refine Fk (λc7=>?_) λc7=>?_
 ·refine Gz (Qa bs bd bl V.next vf bo bm dead (L.write (Iy (Il V.next (Gc l)) D).2 L.last (Ii ⟨HV V.next (Gf lv V.next (Gc l)),fs2⟩)).1 _ O.m) λu21 w21 ye x7=>?_;have hsz21:=J.size;have J:=J.own ye (λi hi xd=>(by have e1:i=bs:=hi;rw[e1,h.k0];decide));obtain⟨rfl,xx⟩:=x7;have xc:=O.head ye xx;have O:=xc;refine go ?_;exact⟨_,rfl,J,_,_,vf,_,_,V,ts,_,rfl,λk hk=>hj k Fe,O,.inr ⟨xb,hck1,fs2,hcp,hcu,hV2,by omega,.inr ⟨AF c6,rfl,rfl,.inl ⟨c7,rfl,rfl,rfl,by simp [c7]⟩⟩⟩⟩
 refine go ?_;refine dq (Fx (k:=2) Ff rfl rfl m5.row) (go ?_);have y9:(xs.zip (Gc l)).map (·.1)=xs:=EP Fe;have x2:=J.size;refine Jz rfl Ff (X8n _ bs bd bl bo bm vf _ _ V ts mem dead ⟨HV V.next (Gf lv V.next (Gc l)),fs2⟩ vx (xs.zip (Gc l)) va gone vg _ O Z (λhl=>(hj _ (xf hl).1).trans (hh _ (xf hl).2)) (by rw[y9];exact r) (by rw[EQ];omega) (λhl=>(hj _ (xe (by rintro rfl;simp at hl)).1).trans (hh _ (xe (by rintro rfl;simp at hl)).2)) (λq hq=>by
  obtain⟨g1,g2,g3,g4,g5,g6⟩:=hG.zip Fe hlv Fe q hq;exact⟨g1,g2,g3,g4,λ_=>(hj _ Fe).trans (hh _ g5.1),g6⟩) (hg.mod J (λhl e=>e (hgk hl))) Fe (λhl=>(hj _ (by have:=hg.base_lt Fo hl;omega)).trans (hgk hl)) hgi Fe) rfl (.inl rfl) (λu22 w22 yo yb=>?_)
 have hsz22:=J.size;have J:=J.own yo (λi hi xd=>(by rw[<-hj i Fe];exact hi));obtain⟨rfl,κ3,yr,yd,⟨tbs,y1,yn⟩,xv⟩:=yb;have O:=xv;refine go ?_;exact⟨_,rfl,J,0,κ3,vx,_,_,_,yr,dead,rfl,λk hk=>(yd k (Ay hk x2) (λhl e=>by have:=(xf hl).2;omega)).trans (hj k Fe),O,.inr ⟨xb,hck1,fs2,hcp,hcu,hV2,by omega,.inr ⟨AF c6,rfl,rfl,.inr ⟨AF c7,rfl,rfl,rfl,tbs,y1.trans yk,yn⟩⟩⟩⟩
def Rp (L:Led)(D:Dsk)(mem:List Cell)(dead:Bool)(l:List Rw)(e:Int)(L':Led)(D':Dsk)(mem':List Cell)(dead':Bool):Prop:=
 (dead=true/\e=9/\L'=L/\D'=D/\mem'=mem/\dead'=dead)\/(dead=false/\I4 l≠0/\e=I4 l/\L'=L/\D'=D/\mem'=mem/\dead'=dead)\/
 (dead=false/\I4 l=0/\L'=(L.append D (G2 l)).2.2.1/\D'=(L.append D (G2 l)).2.2.2/\(((L.append D (G2 l)).2.1≠0/\e=(L.append D (G2 l)).2.1/\mem'=mem/\dead'=true)\/((L.append D (G2 l)).2.1=0/\e=0/\mem'=JJ mem (Gp l (L.append D (G2 l)).1)/\dead'=false)))
def KS (L:Led)(D:Dsk)(V:Vs)(ts:List Tb)(mem:List Cell)(dead ok:Bool)(e:Int)(L':Led)(D':Dsk)(V':Vs)(ts':List Tb)(mem':List Cell)(dead':Bool):Prop:=
 (dead=true/\ok=false/\e=9/\L'=L/\D'=D/\V'=V/\ts'=ts/\mem'=mem/\dead'=dead)\/(dead=false/\mem=[]/\ok=false/\e=0/\L'=L/\D'=D/\V'=V/\ts'=ts/\mem'=mem/\dead'=dead)\/
 (dead=false/\mem≠[]/\∃m,Mg mem m/\Lf L D V ts dead m 0 [] e L' D' V' ts' dead'/\((e≠0/\ok=false/\mem'=mem)\/(e=0/\ok=true/\mem'=[])))
def V4 (h:∀c∈l,GB c<=20496):HK l<=l.length*20496:=by
 induction l with
 | nil=>simp [HK]
 | cons c r ih=>
  have h1:=h c Ai;have h2:=ih (λx z=>h x (Aj _ z));unfold HK at *;simp only [Ak,A4,Az]at *;omega
def Xq6 {l:List Rw}{seq:Int}(h:I4 l=0):HK (Gp l seq)<=10500000:=by
 obtain⟨h1,h2,h3,h4⟩:=O7 h;have h5:=P4 l seq;have h6:=V4 (l:=Gp l seq) (λc z=>by
  obtain⟨r,H,rfl⟩:=RP z;have:=Pd (h4 r H);unfold GB Rw.cell;simp only [];omega)
 omega
def Xy9 {α:Type}(eq:α->α->Bool):∀l:List α,(Ki eq l).length<=l.length/\∀x∈Ki eq l,x∈l:=by
 have h:∀(r:List α) (p:α),(JZ eq p r).length<=r.length/\∀x∈JZ eq p r,x∈r:=by
  intro r
  induction r with
  | nil=>intro p;exact⟨Aa _,λx z=>z⟩
  | cons a r ih=>
   intro p;unfold JZ;have:=ih a;split
   ·exact⟨Nat.le_succ_of_le this.1,λx z=>Aj _ (this.2 x z)⟩
   ·exact⟨ER this.1,λx z=>(Ah.1 z).elim (λe=>e▸Ai) (λh=>Aj _ (this.2 x h))⟩
 intro l
 cases l with
 | nil=>exact⟨Aa _,λx z=>z⟩
 | cons a r=>exact⟨ER (h r a).1,λx z=>(Ah.1 z).elim (λe=>e▸Ai) (λH=>Aj _ ((h r a).2 x H))⟩
def NT {m:List Cell}(h:Mg l m):m.length<=l.length/\∀c∈m,c∈l:=by
 obtain⟨l',r,hu,rfl⟩:=h;have:=Xy9 KL l';exact⟨by rw[<-r.length_eq];exact this.1,λc z=>r.mem_iff.1 (this.2 c z)⟩
section
variable {κ:Nat->Nat}{bs bd bl bo bm:Nat}{vf:Value}{L:Led}{D:Dsk}{V:Vs}{ts:List Tb}{mem:List Cell}{dead:Bool}{w w':World}
def StE.setM {bm':Nat}{mem':List Cell}{F:Nat->Prop}(h:StE κ bs bd bl bo bm vf L D V ts mem dead w)(m:Vc.Mod (Fv bs) w w')(hm:Fp w' bs (Iu bd bl V.next vf bo bm' dead) 90)(hM:Gd F w bm' mem')(hF:∀k,F k->κ k=0)[DecidablePred F]:StE (λk=>if F k then 3 else κ k) bs bd bl bo bm' vf L D V ts mem' dead w':=by
 have r:=h.relab (κ':=λk=>if F k then 3 else κ k) (λk hk=>if_neg (λe=>hk (hF k e))) (λk hk=>by
  by_cases e:F k
  ·exact hM.lt k e
  ·rw[if_neg e]at hk;exact h.lt k hk)
 have o:∀k,(if F k then 3 else κ k)≠5->¬ Fv bs k:=λk hk e=>hk (by have e2:k=bs:=e;rw[e2];exact r.k0);exact⟨hm,r.ld.mod m (λk hk=>o k (by rw[hk];decide)),r.mp.mod m (o _ (by rw[r.k2];decide)),(Gd.mod hM m (λk hk=>o k (by rw[if_pos hk];decide))).to (λk hk=>if_pos hk) (λk hk=>Ay (r.lt k (by rw[hk];decide)) m.size),r.vs.mod m (λH=>o _ (by rw[r.k4 H];decide)),λt z=>(r.tb t z).mod m (λk hk=>o k (by rw[r.k6 t z k hk];decide)),r.k0,r.k2,r.k4,r.k6,λk hk=>Ay (r.lt k hk) m.size⟩
end
def Rr (κ:Nat->Nat)(bs bd bl bo bm:Nat)(vf:Value)(L:Led)(D:Dsk)(V:Vs)(ts:List Tb)(mem:List Cell)(dead:Bool)(l:List Rw)(v:Value)(w:World)(h:StE κ bs bd bl bo bm vf L D V ts mem dead w)(hv:Fu Rw.cs 3 w v l)(hl:l.length<=100000)(hvk:l≠[]->κ (base v).1=0)(hml:mem.length<=600000)(hcnt:L.ents.length<=900000)(hmz:HK mem<=100000000000) :
  G4 14 [Fh bs 0,v] w (λk=>κ k≠0) λu w'=>∃e κ' L' D' mem' dead',u=I e/\(∀k,k<w.heap.size->κ' k=κ k)/\StE κ' bs bd bl bo bm vf L' D' V ts mem' dead' w'/\Rp L D mem dead l e L' D' mem' dead':=by
 refine cM Tryz.func14 (λk=>κ k≠0) λz=>?_;have H:=h;have hy:∀k,w.heap.size<=k->κ k=0:=λk hk=>AO λh9=>by have:=h.lt k h9;omega
 refine Gs (Ug bs bd bl V.next vf bo bm dead _ H.m) λw1 x1=>Fy x1 H z λH z=>?_;refine Fk (λc1=>?_) λc1=>?_
 ·refine go ?_;have ht:dead=true:=by cases dead with|true=>rfl|false=>exact absurd rfl c1
  subst ht;exact⟨_,rfl,z,9,κ,L,D,mem,true,rfl,λ_ _=>rfl,H,.inl ⟨rfl,rfl,rfl,rfl,rfl,rfl⟩⟩
 have hz:dead=false:=by cases dead with|false=>rfl|true=>exact absurd Fo c1
 subst hz;refine Gj (X2j l v _ (hv.mod z (λhl e=>e (hvk hl))) Fe) λu2 w2 x2 hq=>?_;have hf:=z.size;refine Fy x2 H z λH z=>?_;obtain⟨vb,rfl,hg⟩:=hq;have Z:=hg.mono hf;refine Fk (λc2=>?_) λc2=>?_
 ·refine go ?_;exact⟨_,rfl,z,_,κ,L,D,mem,false,rfl,λ_ _=>rfl,H,.inr (.inl ⟨rfl,c2,rfl,rfl,rfl,rfl,rfl⟩)⟩
 have J:I4 l=0:=AF c2;rw[if_pos J]at Z;obtain⟨hr1,hr2,hr3,hw⟩:=O7 J;have hbl9:=OD l;have hnl9:=Gk l.length;have h8:(G2 l).length<=1000000:=by unfold G2;rw[Ad];omega
 refine go ?_;refine dl rfl (H.m.at rfl) (go ?_);have hc:=z.size;refine cD (X13 _ bl bd L D (G2 l) vb _ H.ld (Z.arr Fg) h8 Fe (λhl e=>by have e1:κ (base vb).1=1:=e;rw[hy _ (Z.base_ge hl).1]at e1;cases e1)) (.inl rfl) λu3 w3 x3 h6=>?_;have hsz3:=z.size;have z:=z.own x3 F5;obtain⟨rfl,hj⟩:=h6;have O:=H.ledger x3 hj;have Y:∀k,k<w.heap.size->IT κ 1 _ _ k=κ k:=λk hk=>Nj (κ:=κ) (i:=1) (w':=w3) (Ay hk hc);have H:=O;refine Fk (λc3=>?_) λc3=>?_
 ·refine Gz (Qa bs bd bl V.next vf bo bm false (L.append D (G2 l)).2.1 _ H.m) λu4 w4 x4 hh=>?_;have hsz4:=z.size;have z:=z.own x4 (λi hi xa=>(by have e1:i=bs:=hi;rw[e1,h.k0];decide));obtain⟨rfl,hp⟩:=hh;have O:=H.head x4 hp;have H:=O;refine go ?_;exact⟨_,rfl,z,_,_,_,_,mem,_,rfl,Y,H,.inr (.inr ⟨rfl,J,rfl,rfl,.inl ⟨c3,rfl,rfl,by simp [c3]⟩⟩)⟩
 refine go ?_;have hlt9:=H.lt;have ha:=z.size;refine cD (Ybj _ bs bd bl V.next vf bo bm false mem l v (L.append D (G2 l)).1 _ H.m H.mr (by rw[H.k0];decide) (hv.mod z (λhl e=>e (hvk hl))) Fe (λr hr=>by have:=Pd (hw r hr);omega) Fe (by have:=Xq6 (seq:=(L.append D (G2 l)).1) J;omega)) (.inl rfl) λu5 w5 x5 h5=>?_;have hsz5:=z.size;have z:=z.own x5 (λi hi xa=>(by rw[<-Y i Fe];have e1:=hi;rw[e1];decide));obtain⟨rfl,h7⟩:=h5;have O:=H.setMem x5 h7;have H:=O;refine go ?_;exact⟨_,rfl,z,0,_,_,_,_,false,rfl,λk hk=>(Nj (Ay hk ha)).trans (Y k hk),H,.inr (.inr ⟨rfl,J,rfl,rfl,.inr ⟨AF c3,rfl,rfl,rfl⟩⟩)⟩
def Rs (κ:Nat->Nat)(bs bd bl bo bm:Nat)(vf:Value)(L:Led)(D:Dsk)(V:Vs)(ts:List Tb)(mem:List Cell)(dead:Bool)(w:World)(h:StE κ bs bd bl bo bm vf L D V ts mem dead w)(hml:mem.length<=60000)(hmc:∀c∈mem,c.key.length<=4096/\c.val.length<=16384/\c.seq<=4611686018427387904)(hV:H2 V=true)(hgv:GV w)(hgvs:∀k,Mv k->κ k=0)(htl:ts.length<=900000) :
  G4 15 [Fh bs 0] w (λk=>κ k≠0) λu w'=>∃ok e κ' bm' vf' L' D' V' ts' mem' dead',u=.tuple #[B ok,I e]/\(∀k,k<w.heap.size->κ' k=κ k)/\StE κ' bs bd bl bo bm' vf' L' D' V' ts' mem' dead' w'/\KS L D V ts mem dead ok e L' D' V' ts' mem' dead':=by
 refine cM Tryz.func15 (λk=>κ k≠0) λr=>?_;have H:=h;have xj:∀k,w.heap.size<=k->κ k=0:=λk hk=>AO λh9=>by have:=h.lt k h9;omega
 refine Gs (Ug bs bd bl V.next vf bo bm dead _ H.m) λw1 x1=>Fy x1 H r λH r=>?_;refine FJ 10 (λc1=>?_) λc1=>?_
 ·refine go ?_;refine GU rfl (go ?_);have xf:dead=true:=by cases dead with|true=>rfl|false=>exact absurd rfl c1
  subst xf;exact⟨_,rfl,r,false,9,κ,bm,vf,L,D,V,ts,mem,true,rfl,λ_ _=>rfl,H,.inl ⟨rfl,rfl,rfl,rfl,rfl,rfl,rfl,rfl,rfl⟩⟩
 have h8:dead=false:=by cases dead with|false=>rfl|true=>exact absurd Fo c1
 subst h8;refine go ?_;refine df 5 (rfl) (dl rfl (H.m.at rfl) (cP (H.mr.calls_len _ Fe) RX.all λw2 x2=>Fy x2 H r λH r=>?_));refine Fk (λc2=>?_) λc2=>?_
 ·refine go ?_;exact⟨_,rfl,r,false,0,κ,bm,vf,L,D,V,ts,mem,false,rfl,λ_ _=>rfl,H,.inr (.inl ⟨rfl,A0 Fe,rfl,rfl,rfl,rfl,rfl,rfl,rfl,rfl⟩)⟩
 refine go ?_;refine df 5 (rfl) (dl rfl (H.m.at rfl) (cG (H.mr.calls_all _ Fe (λc hc=>(hmc c hc).2.2)) RX.all λva w3 x3 hy=>?_));have hh:=r.size;refine Fy x3 H r λH r=>?_;have J:=hy.mono hh;refine It (e:=95) (sz:=1) (zs:=[.slice none 0 0]) (pv:=[(0,?a20_0)]) (cs:=[?a20_0]) rfl Ff ⟨rfl,rfl⟩ Ff rfl ?h20 ?f20 RX.all (λb1 w4 e1 x4 m1=>?k20)
 case h20=>refine⟨rfl,?_,trivial⟩<;>(conv=>lhs;whnf)
 case f20=>simp [Hs,Gw,Ap,J.sl.cells]
 have g1:=r.ge e1;have a1_hS:=H.lt;have o1_hoA:=J.ltb e1;refine FC x4 H J r λH J r=>cG (TC [(va,mem)] _ _ (m1.arr (enc:=Lh) (sz:=1) (l:=[(va,mem)]) rfl Fg rfl F0) (λq hq=>by rw[Af.1 hq];exact J.arr Fg) F0 Gx) RX.all λvm w5 x5 h7=>?_;have hr:=r.size;refine Fy x5 H r λH r=>?_;obtain⟨m,ht,hp⟩:=h7;have Z:Mg mem m:=by simpa using ht
 have hg:=hp.mono hr;have hz:=NT Z;have h6:=r.size;refine cD (Xo5 κ bs bd bl bo bm vf L D V ts mem false m vm 0 [] (.slice none 0 0) _ H (hg.arr Fg) Fe (λc hc=>⟨(hmc c (hz.2 c hc)).1,(hmc c (hz.2 c hc)).2.1⟩) Fo ((Vc.Own.nil (enc:=Fi.cs) (sz:=5) (T:=0) (B:=0)).arr Fg) Fo (λh9=>absurd rfl h9) (λf hf=>by cases hf) hV (hgv.mod r (λk hk e=>e (hgvs k hk))) hgvs htl (λhl=>xj _ (hg.base_ge hl).1)) (.inl rfl) λu6 w6 x6 xa=>?_;have hsz6:=r.size;have r:=r.own x6 F5;obtain⟨e1,κ1,hj,L1,D1,V1,ts1,dead1,rfl,xg,xd,hw⟩:=xa;have H:=xd;have O:∀k,k<w.heap.size->κ1 k=κ k:=λk hk=>xg k (Ay hk h6);refine Fk (λc3=>?_) λc3=>?_
 ·refine go ?_;exact⟨_,rfl,r,false,e1,κ1,bm,hj,L1,D1,V1,ts1,mem,dead1,rfl,O,H,.inr (.inr ⟨rfl,λe=>c2 (by rw[e];rfl),m,Z,hw,.inl ⟨c3,rfl,rfl⟩⟩)⟩
 refine go ?_;have Y:=H.lt;obtain⟨N0,hN0⟩:∃z,z=w6.heap.size:=⟨_,rfl⟩;have h5:w.heap.size<=N0:=by rw[hN0];exact r.size
 rw[<-hN0]at Y;refine cG (Ydn [] (.slice none 0 0) _ ((Vc.Own.nil (enc:=JB) (sz:=1) (T:=0) (B:=0)).arr Fg) Fo) RX.all λu7 w7 x7 xi=>?_;have hsz7:=r.size;refine Fy x7 H r λH r=>?_;obtain⟨bm2,rfl,ha⟩:=xi;rw[<-hN0]at ha;have xk:∀k,N0<=k/\k<w7.heap.size->κ1 k=0:=λk hk=>AO λh9=>by have:=Y k h9;omega
 refine go ?_;refine df 5 (rfl) (Kc rfl rfl rfl rfl Ff H.m (An rfl) (.inl rfl) (λw8 x8 xs8 xc=>?_));have xh:=H.setM x8 xc ha xk;have r:=r.own x8 (λi hi hlt=>by have xb:i=bs:=hi;rw[xb,h.k0];decide);have H:=xh;refine go ?_;have xe:e1=0:=AF c3;subst xe;exact⟨_,rfl,r,true,0,_,bm2,hj,L1,D1,V1,ts1,[],dead1,rfl,λk hk=>(if_neg (λe=>absurd (Ay hk h5) (AR.2 e.1))).trans (O k hk),H,.inr (.inr ⟨rfl,λe=>c2 (by rw[e];rfl),m,Z,hw,.inr ⟨rfl,rfl,rfl⟩⟩)⟩
def FR (mem:List Cell)(ts:List Tb):List Cell:=mem++ts.flatMap (·.cs)
def Hu {mem:List Cell}{c:Cell}: c∈FR mem ts↔c∈mem\/∃t∈ts,c∈t.cs:=by unfold FR;rw[Al,BX]
def M0 {α β:Type}{f:α->β} : ∀ {l:List α},(l.map f).Nodup->∀ {x y:α},x∈l->y∈l->f x=f y->x=y
 | [],_,_,_,hx,_,_=>by cases hx
 | a :: r,h,x,y,hx,hy,e=>by
  rw[Ak,Ba]at h;rcases Ah.1 hx with ex|hx2
  ·rcases Ah.1 hy with ey|hy2
   ·rw[ex,ey]
   ·exact absurd (by rw[<-ex,e];exact BC hy2) h.1
  ·rcases Ah.1 hy with ey|hy2
   ·exact absurd (by rw[<-ey,<-e];exact BC hx2) h.1
   ·exact M0 h.2 hx2 hy2 e
def X5u {a b c:Fj}(h1:F6 a b=true)(h2:F6 c b=false):F6 a c=true:=by
 rcases KC a c with e|e|e
 ·rw[e,h2]at h1;cases h1
 ·exact e
 ·rw[Kg _ _ _ e h1]at h2;cases h2
def Pz {a b c:Fj}(h1:F6 b a=false)(h2:F6 b c=true):F6 a c=true:=by
 rcases KC a c with e|e|e
 ·rw[e,h2]at h1;cases h1
 ·exact e
 ·rw[Kg _ _ _ h2 e]at h1;cases h1
def Oz (a b:Fi):Prop:=a.lev<b.lev\/(a.lev=b.lev/\((a.lev=0/\a.id<b.id)\/(0<a.lev/\F6 a.lst b.fst=true)))
def X8s (h:IL n f=true):F6 f.lst f.fst=false:=by
 unfold IL at h;simp only [Aw,BW]at h;exact h.2
def Yb5 {a b:Fi}(ha:IL n a=true)(h:Jd a b=true):Oz a b:=by
 have h0:=(KQ ha).2.2.1;unfold Jd at h;split at h
 ·rename_i e;exact .inr ⟨e.2,.inr ⟨e.1,h⟩⟩
 ·rename_i e;rcases(TE a b).1 h with h|⟨h1,⟨h2,h3⟩|⟨h2,h3⟩⟩
  ·exact .inl h
  ·exact .inr ⟨h1,.inl ⟨h2,h3⟩⟩
  ·exact absurd ⟨by omega,h1⟩ e
def X27 {a b c:Fi}(hb:F6 b.lst b.fst=false)(h1:Oz a b)(h2:Oz b c):Oz a c:=by
 rcases h1 with h1|⟨h1,h1'|h1'⟩
 ·rcases h2 with h2|⟨h2,_⟩
  ·exact .inl Fe
  ·exact .inl Fe
 ·rcases h2 with h2|⟨h2,h2'|h2'⟩
  ·exact .inl Fe
  ·exact .inr ⟨by omega,.inl ⟨h1'.1,by omega⟩⟩
  ·omega
 ·rcases h2 with h2|⟨h2,h2'|h2'⟩
  ·exact .inl Fe
  ·omega
  ·exact .inr ⟨by omega,.inr ⟨h1'.1,Kg _ _ _ (X5u h1'.2 hb) h2'.2⟩⟩
def Vu {n:Int} : ∀ {fs:List Fi},(∀f∈fs,IL n f=true)->KN fs=true->fs.Pairwise Oz
 | [],_,_=>Bu
 | [a],_,_=>Dd _ _
 | a :: b :: r,ho,h=>by
  unfold KN at h;rw[Aw]at h;have J:=Vu (λf O=>ho f (Aj _ O)) h.2;have z:=Yb5 (ho a Ai) h.1;refine AN.2 ⟨λx H=>?_,J⟩;rcases Ah.1 H with rfl|H
  ·exact z
  ·exact X27 (X8s (ho b F0)) z ((AN.1 J).1 x H)
def Yb6 {V:Vs}(h:H2 V=true):V.fs.Pairwise Oz:=by
 obtain⟨_,_,_,h4,_,r⟩:=Jc h;exact Vu h4 r
def SN {α:Type}{R:α->α->Prop}{l:List α}(h:l.Pairwise R){x y:α}(hx:x∈l)(hy:y∈l):x=y\/R x y\/R y x:=by
 induction l with
 | nil=>cases hx
 | cons a r ih=>
  rw[AN]at h;rcases Ah.1 hx with ex|hx2
  ·rcases Ah.1 hy with ey|hy2
   ·exact .inl (ex.trans ey.symm)
   ·exact .inr (.inl (ex▸h.1 y hy2))
  ·rcases Ah.1 hy with ey|hy2
   ·exact .inr (.inr (ey▸h.1 x hx2))
   ·exact ih h.2 hx2 hy2
def Xzc {V:Vs}(h:H2 V=true){g:Fi}(hf:f∈V.fs)(hg:g∈V.fs)(hl:f.lev=g.lev)(h0:0<f.lev):f=g\/F6 f.lst g.fst=true\/F6 g.lst f.fst=true:=by
 rcases SN (Yb6 h) hf hg with e|e|e
 ·exact .inl e
 ·rcases e with e|⟨_,e|e⟩
  ·omega
  ·omega
  ·exact .inr (.inl e.2)
 ·rcases e with e|⟨_,e|e⟩
  ·omega
  ·omega
  ·exact .inr (.inr e.2)
structure TV (t:Tb)(f:Fi):Prop where
 h:t.h=(f.lev,f.id)
 ne:t.cs≠[]
 fst:f.fst=(GH t.cs 0).key
 lst:f.lst=(GH t.cs (t.cs.length-1)).key
def cAt_at {i:Nat}{c:Cell}(h:l[i]?=some c):GH l i=c:=by unfold GH;rw[h];rfl
def X8t (hu:J1 l){c:Cell}(hc:c∈l):F6 c.key (GH l 0).key=false/\F6 (GH l (l.length-1)).key c.key=false:=by
 obtain⟨i,hi⟩:=AK hc;obtain⟨h1,rfl⟩:=Ar.1 hi;have r:=C4.1 hu;rw[cAt_at (Aq (show 0<l.length by omega)),cAt_at (Aq (show l.length-1<l.length by omega))]
 constructor
 ·rcases CI i with rfl|h0
  ·exact IN _
  ·exact KM (r 0 i Fe h1 h0)
 ·by_cases e:i=l.length-1
  ·subst e;exact IN _
  ·exact KM (r i (l.length-1) h1 Fe Fe)
def TV.rng {t:Tb}(h:TV t f)(hu:J1 t.cs){c:Cell}(hc:c∈t.cs):F6 c.key f.fst=false/\F6 f.lst c.key=false:=by
 rw[h.fst,h.lst];exact X8t hu hc
def UR (t u:Tb):Prop:=t.h.1<u.h.1\/(t.h.1=0/\u.h.1=0/\u.h.2<t.h.2)
structure Sto (n:Int)(V:Vs)(ts:List Tb)(mem:List Cell):Prop where
 isv:H2 V=true
 fwd:∀f∈V.fs,∃t∈ts,TV t f
 bwd:∀t∈ts,∃f∈V.fs,TV t f
 nod:(ts.map (·.h)).Nodup
 up:∀t∈ts,J1 t.cs
 okc:∀c∈FR mem ts,Gl c=true/\c.seq<=n
 ms:FP mem
 n1:∀c∈mem,∀t∈ts,∀d∈t.cs,d.key=c.key->d.seq<c.seq
 n2:∀t∈ts,∀u∈ts,UR t u->∀c∈t.cs,∀d∈u.cs,d.key=c.key->d.seq<c.seq
def RC (h:FP l):JW l:=λc r d hd hk hs=>by
 rcases SN h r hd with e|e|e
 ·exact e
 ·rw[RJ hk hs]at e;cases e
 ·rw[RJ hk.symm hs.symm]at e;cases e
def Vw (h:J1 l){c d:Cell}(hc:c∈l)(hd:d∈l)(hk:c.key=d.key):c=d:=by
 rcases SN h hc hd with e|e|e
 ·exact e
 ·exact absurd hk (N4 e)
 ·exact absurd hk.symm (N4 e)
section
variable {n:Int}{V:Vs}{ts:List Tb}{mem:List Cell}
def Sto.lev (h:Sto n V ts mem){t:Tb}(ht:t∈ts):0<=t.h.1/\t.h.1<=4/\1<=t.h.2/\t.h.2<V.next:=by
 obtain⟨f,r,hv⟩:=h.bwd t ht;have:=KQ ((Jc h.isv).2.2.2.1 f r);rw[hv.h];exact⟨this.2.2.1,this.2.2.2.1,this.1,this.2.1⟩
def Sto.apart (h:Sto n V ts mem){t u:Tb}(ht:t∈ts)(hu:u∈ts)(hl:t.h.1=u.h.1)(h0:0<t.h.1){c d:Cell}(hc:c∈t.cs)(hd:d∈u.cs)(hk:d.key=c.key):t=u:=by
 obtain⟨f,J,hv⟩:=h.bwd t ht;obtain⟨g,O,r⟩:=h.bwd u hu;obtain⟨z,Y⟩:=hv.rng (h.up t ht) hc;obtain⟨b1,H⟩:=r.rng (h.up u hu) hd;rw[hk]at b1 H;have e1:t.h.1=f.lev:=by rw[hv.h]
 have e2:u.h.1=g.lev:=by rw[r.h]
 rcases Xzc h.isv J O Fe Fe with e|e|e
 ·refine M0 h.nod ht hu ?_;rw[hv.h,r.h,e]
 ·rw[Pz Y e]at b1;cases b1
 ·rw[Pz H e]at z;cases z
def Sto.uniq (h:Sto n V ts mem):JW (FR mem ts):=λc r d hd hk hs=>by
 rcases Hu.1 r with r|⟨t,ht,r⟩
 ·rcases Hu.1 hd with hd|⟨u,hu,hd⟩
  ·exact RC h.ms c r d hd hk hs
  ·have:=h.n1 c r u hu d hd hk.symm;omega
 ·rcases Hu.1 hd with hd|⟨u,hu,hd⟩
  ·have:=h.n1 d hd t ht c r hk;omega
  ·by_cases e:t=u
   ·subst e;exact Vw (h.up t ht) r hd hk
   ·have l1:=h.lev ht;have l2:=h.lev hu;have z:t.h≠u.h:=λe2=>e (M0 h.nod ht hu e2);rcases Eb t.h.1 u.h.1 with g|g|g
    ·have:=h.n2 t ht u hu (.inl g) c r d hd hk.symm;omega
    ·by_cases g0:0<t.h.1
     ·exact absurd (h.apart ht hu g g0 r hd hk.symm) e
     ·rcases Eb t.h.2 u.h.2 with k|k|k
      ·have:=h.n2 u hu t ht (.inr ⟨by omega,by omega,k⟩) d hd c r hk;omega
      ·exact absurd (Du g k) z
      ·have:=h.n2 t ht u hu (.inr ⟨by omega,by omega,k⟩) c r d hd hk.symm;omega
    ·have:=h.n2 u hu t ht (.inl g) d hd c r hk;omega
end
def Xut {h:Int×Int}(hn:∀t∈ts,t.h≠h):HO ts h=none:=by
 unfold HO;rw[Dx];intro t r;simpa using hn t r
def OE (hn:(ts.map (·.h)).Nodup){t:Tb}(ht:t∈ts):HO ts t.h=some t:=by
 cases e:HO ts t.h with
 | none=>
  unfold HO at e;rw[Dx]at e;have:=e t ht;simp at this
 | some u=>
  have h1:=Qh e;have h2:u.h=t.h:=by unfold HO at e;simpa using List.find?_some e
  rw[M0 hn h1 ht h2]
def Sd : ∀(tbs ts:List Tb),(∀t∈tbs,∀u∈ts,u.h≠t.h)->(tbs.map (·.h)).Nodup->tbs.foldl Hx ts=ts++tbs
 | [],ts,_,_=>by simp
 | t :: r,ts,h,hn=>by
  rw[Ak,Ba]at hn;have e:Hx ts t=ts++[t]:=by
   unfold Hx;rw[Xut (λu hu=>h t Ai u hu)];rfl
  rw[List.foldl_cons,e,Sd r (ts++[t]) (λq z u hu=>?_) hn.2]
  ·simp
  ·rcases Al.1 hu with hu|hu
   ·exact h q (Aj _ z) u hu
   ·rw[Af.1 hu];exact λe2=>hn.1 (by rw[e2];exact BC z)
def kp (gone:List Fi)(t:Tb):Bool:=gone.all λf=>decide (t.h≠(f.lev,f.id))
def R3 : ∀(gone:List Fi) (ts:List Tb),Mt ts gone=ts.filter (kp gone)
 | [],ts=>by
  exact(Bz.2 λt _=>rfl).symm
 | f :: r,ts=>by
  show Mt (Ko ts (f.lev,f.id)) r=_;rw[R3 r,Ko,List.filter_filter]
  congr 1
  funext t
  show(kp r t && decide (t.h≠(f.lev,f.id)))=(decide (t.h≠(f.lev,f.id)) && kp r t);rw[Bool.and_comm]
def Ml {gone:List Fi}{t:Tb} : kp gone t=true↔∀f∈gone,t.h≠(f.lev,f.id):=by
 unfold kp;simp
def Xze (s:List (List Cell)×Nat)(c:Cell)(h:∀g∈s.1,g≠[]):∀g∈(J4 s c).1,g≠[]:=by
 unfold J4;split
 ·intro g r;rcases Al.1 r with r|r
  ·exact h g r
  ·rw[Af.1 r];simp
 ·intro g r;rcases Al.1 r with r|r
  ·exact h g (EM _ r)
  ·rw[Af.1 r];simp
def Uq (l:List Cell):∀g∈Gc l,g≠[]:=by
 unfold Gc
 suffices hs:∀(l:List Cell) (s:List (List Cell)×Nat),(∀g∈s.1,g≠[])->∀g∈(l.foldl J4 s).1,g≠[] from hs l _ (λg z=>by cases z)
 intro l
 induction l with
 | nil=>exact λs h=>h
 | cons c r ih=>exact λs h=>ih _ (Xze s c h)
structure ChS (V:Vs)(ts:List Tb)(l:List Cell)(lv:Int)(gone:List Fi)(V':Vs)(ts':List Tb):Prop where
 ok:Lr V (gone.map (·.id)) (Gf lv V.next (Gc l))=true
 vs:∃fs',fs'.Perm (Je V.fs (gone.map (·.id))++Gf lv V.next (Gc l))/\H2 ⟨HV V.next (Gf lv V.next (Gc l)),fs'⟩=true/\V'=⟨HV V.next (Gf lv V.next (Gc l)),fs'⟩
 tb:∃tbs:List Tb,tbs.map (λt=>(t.h,t.cs))=Mi lv V.next (Gc l)/\ts'=Mt (tbs.foldl Hx ts) gone
def Xlw (L:Led)(D:Dsk)(p:Fj):(L.write D L.last p).2.1.last=L.last/\(L.write D L.last p).2.1.ents.length<=L.ents.length:=by
 unfold Led.write;split
 ·exact⟨rfl,Aa _⟩
 split
 ·exact⟨rfl,Aa _⟩
 split
 ·exact⟨rfl,Aa _⟩
 dsimp only
 repeat' split
 all_goals first|exact⟨rfl,Aa _⟩|exact⟨by unfold Led.last;simp,Ab _⟩
def O0 {L':Led}{D':Dsk}{V V':Vs}{ts':List Tb}{dead dead':Bool}{e:Int}{gone:List Fi}(h:Lf L D V ts dead l lv gone e L' D' V' ts' dead'):
  (L'.last=L.last/\L'.ents.length<=L.ents.length)/\((e≠0/\V'=V/\ts'=ts)\/(e=0/\dead'=dead/\ChS V ts l lv gone V' ts')):=by
 rcases h with⟨h1,rfl,_,h2,h3,_⟩|⟨_,hok,fs',hp,_,hv,_,⟨h1,rfl,rfl,_,h2,h3,_⟩|⟨_,rfl,_,⟨h1,rfl,h2,h3,_⟩|⟨_,h1,h2,h3,h4⟩⟩⟩
 ·exact⟨⟨rfl,Aa _⟩,.inl ⟨h1,h2,h3⟩⟩
 ·exact⟨⟨rfl,Aa _⟩,.inl ⟨h1,h2,h3⟩⟩
 ·exact⟨Xlw _ _ _,.inl ⟨h1,h2,h3⟩⟩
 ·exact⟨Xlw _ _ _,.inr ⟨h1,h3,hok,⟨fs',hp,hv,h2⟩,h4⟩⟩
variable {tbs:List Tb}
def PT {next:Int}(h:tbs.map (λt=>(t.h,t.cs))=Mi lv next ss):
  tbs.length=ss.length/\(∀(i:Nat) (t:Tb),tbs[i]?=some t->t.h=(lv,next+↑i)/\ss[i]?=some t.cs)/\(∀(i:Nat) (sg:List Cell),ss[i]?=some sg->∃t,tbs[i]?=some t/\t.h=(lv,next+↑i)/\t.cs=sg):=by
 have z:tbs.length=ss.length:=by
  have:=congrArg A9 h;unfold Mi at this;simpa using this
 have r:∀(i:Nat) (t:Tb),tbs[i]?=some t->t.h=(lv,next+↑i)/\ss[i]?=some t.cs:=λi t hi=>by
  have h1:=congrArg (λl=>l[i]?) h;unfold Mi at h1;simp only [AH,Mz,hi,Cm]at h1
  cases hs:ss[i]? with
  | none=>rw[hs]at h1;simp at h1
  | some sg=>
   rw[hs]at h1;simp only [Cm,Am.injEq,B4.injEq]at h1;exact⟨h1.1,by rw[h1.2]⟩
 refine⟨z,r,λi sg hi=>?_⟩;have hil:=(Ar.1 hi).1;have h1:tbs[i]?=some (tbs[i]'Fe):=Aq _;obtain⟨h2,h3⟩:=r i _ h1;rw[hi]at h3;exact⟨_,h1,h2,(Am.inj h3).symm⟩
def Xuu {next:Int}(h:tbs.map (λt=>(t.h,t.cs))=Mi lv next ss):tbs.flatMap (·.cs)=ss.flatten:=by
 obtain⟨hl,h1,_⟩:=PT h;rw[List.flatMap_def]
 congr 1
 apply BF
 intro i;rw[AH]
 cases hi:tbs[i]? with
 | none=>rw[EO]at hi;rw[Bi Fe];rfl
 | some t=>rw[(h1 i t hi).2];rfl
def X8u {next:Int}(h:f∈Gf lv next ss):∃(i:Nat) (sg:List Cell),ss[i]?=some sg/\f=Ll lv next i sg:=by
 unfold Gf at h;obtain⟨p,r,rfl⟩:=Ao.1 h;obtain⟨i,hi⟩:=AK r;rw[Mz]at hi;obtain⟨sg,hs,rfl⟩:=Bp.1 hi;exact⟨i,sg,hs,rfl⟩
def X28 {next:Int}{i:Nat}(h:ss[i]?=some sg):Ll lv next i sg∈Gf lv next ss:=by
 unfold Gf;refine Ao.2 ⟨(sg,i),Ag (i:=i) ?_,rfl⟩;rw[Mz,h];rfl
section
variable {n lv:Int}{V V':Vs}{ts ts':List Tb}{mem l:List Cell}{gone:List Fi}
def ChS.sto (h:Sto n V ts mem)(c:ChS V ts l lv gone V' ts')(hg:∀f∈gone,f∈V.fs)(hlu:J1 l)(hl:∀c∈l,c∈FR mem ts)
  (hA:∀u∈ts,kp gone u=true->(lv<u.h.1\/(lv=0/\u.h.1=0))->∀c∈l,∀d∈u.cs,d.key=c.key->d.seq<c.seq)
  (hB:∀t∈ts,kp gone t=true->t.h.1<lv->∀c∈t.cs,∀d∈l,d.key=c.key->d.seq<c.seq) :
  Sto n V' ts' []/\∃tbs:List Tb,ts'=ts.filter (kp gone)++tbs/\tbs.flatMap (·.cs)=l:=by
 obtain⟨hok,⟨fs',hp,hv,rfl⟩,tbs,hz,xd⟩:=c;obtain⟨htl,hq,h9⟩:=PT hz;have J:=Xuu hz;rw[PN]at J;have O:∀t∈tbs,t.h.1=lv/\V.next<=t.h.2/\∃i:Nat,t.h.2=V.next+↑i/\(Gc l)[i]?=some t.cs:=λt r=>by
  obtain⟨i,hi⟩:=AK r;obtain⟨h1,h2⟩:=hq i t hi;rw[h1];exact⟨rfl,by show V.next<=V.next+↑i;omega,i,rfl,h2⟩
 have hy:∀t∈tbs,∀u∈ts,u.h≠t.h:=λt r u hu e=>by
  have h1:=(O t r).2.1;have h2:=(h.lev hu).2.2.2;rw[e]at h2;omega
 have h6:(tbs.map (·.h)).Nodup:=by
  rw[List.Nodup,C4];intro i j hi hj hij e;simp only [Au]at hi hj;simp only [List.getElem_map]at e;rw[(hq i _ (Aq hi)).1,(hq j _ (Aq hj)).1]at e;have:=(B4.inj e).2;omega
 have xa:∀t∈tbs,kp gone t=true:=λt r=>Ml.2 λf Y e=>by
  have h1:=(O t r).2.1;have h2:=(KQ ((Jc h.isv).2.2.2.1 f (hg f Y))).2.1;rw[e]at h1;have h3:V.next<=f.id:=h1;omega
 have Z:ts'=ts.filter (kp gone)++tbs:=by
  rw[xd,Sd tbs ts hy h6,R3,Bs,Bz.2 xa]
 refine⟨?_,tbs,Z,J⟩;have z:∀t,t∈ts'↔(t∈ts/\kp gone t=true)\/t∈tbs:=λt=>by rw[Z,Al,Ax]
 have xe:(Gc l).flatten=l:=PN l;have hw:∀t∈tbs,∀c∈t.cs,c∈l:=λt r c H=>by rw[<-J];exact BX.2 ⟨t,r,H⟩
 have h7:=(Jc h.isv).2.2.2.2.1;have hx:(Gc l).flatten.Pairwise λa b=>F6 a.key b.key=true:=by rw[xe];exact hlu
 rw[List.pairwise_flatten]at hx;have hh:∀f∈V.fs,∀t∈ts,TV t f->(kp gone t=true↔f.id∉gone.map (·.id)):=λf Y t r hv=>by
  rw[Ml]
  constructor
  ·intro h1 h2;obtain⟨g,hr,xg⟩:=Ao.1 h2;have:g=f:=M0 h7 (hg g hr) Y xg;exact h1 g hr (by rw[hv.h,this])
  ·intro h1 g hr e;refine h1 (Ao.2 ⟨g,hr,?_⟩);rw[hv.h]at e;exact(B4.inj e).2.symm
 refine⟨hv,λf Y=>?_,λt r=>?_,?_,λt r=>?_,λc H=>?_,Bu,λc H=>(by cases H),λt r u hu hn c H d hd hk=>?_⟩
 ·rcases Al.1 (hp.mem_iff.1 Y)with Y|Y
  ·unfold Je at Y;obtain⟨h5,h8⟩:=Ax.1 Y;obtain⟨t,r,hv⟩:=h.fwd f h5;exact⟨t,(z t).2 (.inl ⟨r,(hh f h5 t r hv).2 (by simpa using h8)⟩),hv⟩
  ·obtain⟨i,sg,hs,rfl⟩:=X8u Y;obtain⟨t,r,h1,h2⟩:=h9 i sg hs;exact⟨t,(z t).2 (.inr (Ag r)),h1,by rw[h2];exact Uq l sg (Ag hs),by rw[h2];rfl,by rw[h2];rfl⟩
 ·rcases(z t).1 r with⟨r,hk⟩|r
  ·obtain⟨f,Y,hv⟩:=h.bwd t r;refine⟨f,hp.mem_iff.2 (Bl _ ?_),hv⟩;unfold Je;refine Ax.2 ⟨Y,?_⟩;simpa using(hh f Y t r hv).1 hk
  ·obtain⟨i,hi⟩:=AK r;obtain⟨h1,h2⟩:=hq i t hi;exact⟨Ll lv V.next i t.cs,hp.mem_iff.2 (Bb _ (X28 h2)),h1,Uq l _ (Ag h2),rfl,rfl⟩
 ·rw[Z,A3];refine List.nodup_append.2 ⟨List.Nodup.sublist (C0 _ List.filter_sublist) h.nod,h6,λa ha b hb e=>?_⟩;obtain⟨u,hu,rfl⟩:=Ao.1 ha;obtain⟨t,r,rfl⟩:=Ao.1 hb;exact hy t r u (Ax.1 hu).1 e
 ·rcases(z t).1 r with⟨r,_⟩|r
  ·exact h.up t r
  ·obtain⟨_,_,i,_,h2⟩:=O t r;exact hx.1 _ (Ag h2)
 ·rcases Hu.1 H with H|⟨t,r,H⟩
  ·cases H
  ·rcases(z t).1 r with⟨r,_⟩|r
   ·exact h.okc c (Hu.2 (.inr ⟨t,r,H⟩))
   ·exact h.okc c (hl c (hw t r c H))
 ·rcases(z t).1 r with⟨r,hkt⟩|r
  ·rcases(z u).1 hu with⟨hu,hku⟩|hu
   ·exact h.n2 t r u hu hn c H d hd hk
   ·obtain⟨g1,g2,_⟩:=O u hu;have g3:=h.lev r;rcases hn with hn|⟨_,_,hn⟩
    ·exact hB t r hkt Fe c H d (hw u hu d hd) hk
    ·omega
  ·obtain⟨g1,g2,i,g4,g5⟩:=O t r;rcases(z u).1 hu with⟨hu,hku⟩|hu
   ·refine hA u hu hku ?_ c (hw t r c H) d hd hk;rcases hn with hn|⟨hn1,hn2,_⟩
    ·exact .inl Fe
    ·exact .inr ⟨by omega,hn2⟩
   ·obtain⟨k1,k2,j,k4,k5⟩:=O u hu;rcases hn with hn|⟨_,_,hn⟩
    ·omega
    ·have xb:j<i:=by omega
     obtain⟨hi,xc⟩:=Ar.1 g5;obtain⟨hj,xf⟩:=Ar.1 k5;have:=C4.1 hx.2 j i hj hi xb d (by rw[xf];exact hd) c (by rw[xc];exact H);exact absurd hk (N4 this)
def ChS.flush {m:List Cell}{M:List Rw}(h:Sto n V ts mem)(hm:Mg mem m)(c:ChS V ts m 0 [] V' ts')(hT:Sp.Told (FR mem ts) M):Sto n V' ts' []/\Sp.Told (FR [] ts') M/\(∃tbs:List Tb,ts'=ts++tbs/\tbs.flatMap (·.cs)=m):=by
 obtain⟨O,H⟩:=PU (RC h.ms) hm;obtain⟨h1,tbs,h2,h3⟩:=c.sto h (λf Y=>(by cases Y)) O (λc r=>Hu.2 (.inl ((H c).1 r).1)) (λu hu _ _ c r d hd hk=>h.n1 c ((H c).1 r).1 u hu d hd hk) (λt z _ hl=>by have:=(h.lev z).1;omega);have h4:ts.filter (kp [])=ts:=Bz.2 λt _=>rfl;rw[h4]at h2;refine⟨h1,QI hT (λc r=>?_) (λc r=>.inl ?_),tbs,h2,h3⟩
 ·rcases Hu.1 r with r|⟨t,z,r⟩
  ·cases r
  ·rw[h2]at z;rcases Al.1 z with z|z
   ·exact Hu.2 (.inr ⟨t,z,r⟩)
   ·refine Hu.2 (.inl ((H c).1 ?_).1);rw[<-h3];exact BX.2 ⟨t,z,r⟩
 ·rcases Hu.1 r.1 with hc1|⟨t,z,hc1⟩
  ·have:c∈m:=(H c).2 ⟨hc1,λd hd=>r.2 d (Hu.2 (.inl hd))⟩;rw[<-h3]at this;obtain⟨t,z,J⟩:=BX.1 this;exact Hu.2 (.inr ⟨t,by rw[h2];exact Bb _ z,J⟩)
  ·exact Hu.2 (.inr ⟨t,by rw[h2];exact Bl _ z,hc1⟩)
end
structure PickP (V:Vs)(p:List Fi)(lv:Int):Prop where
 hd:∃f,p[0]?=some f/\f.lev+1=lv
 sub:∀f∈p,f∈V.fs/\(f.lev=lv-1\/f.lev=lv)
 lo:1<=lv/\lv<=4
 src:lv=1->∀f∈V.fs,f.lev=0->f∈p
 ovr:∀f∈p,f.lev=lv-1->∀g∈V.fs,g.lev=lv->F6 g.lst f.fst=false->F6 f.lst g.fst=false->g∈p
 len:p.length<=V.fs.length
 nod:(p.map (·.id)).Nodup
def Js (ts:List Tb)(p:List Fi):List Cell:=p.flatMap λf=>match HO ts (f.lev,f.id)with
 | some t=>t.cs
 | none=>[]
def I7 (fs:List Fi)(lv:Int)(c:Cell):Bool:=!c.del || fs.any λf=>decide (lv<f.lev) && (!F6 f.lst c.key && !F6 c.key f.fst)
section
variable {n lv:Int}{V V':Vs}{ts ts':List Tb}{m:List Cell}{p:List Fi}{M:List Rw}
def Ry (h:Sto n V ts [])(hp:∀f∈p,f∈V.fs){c:Cell} : c∈Js ts p↔∃t∈ts,kp p t=false/\c∈t.cs:=by
 unfold Js;rw[BX]
 constructor
 ·rintro ⟨f,r,hc⟩;obtain⟨t,z,hv⟩:=h.fwd f (hp f r);rw[<-hv.h,OE h.nod z]at hc;refine⟨t,z,?_,hc⟩
  cases hk:kp p t with
  | false=>rfl
  | true=>exact absurd hv.h (Ml.1 hk f r)
 ·rintro ⟨t,z,hk,hc⟩;have:¬ ∀f∈p,t.h≠(f.lev,f.id):=λh2=>by rw[Ml.2 h2]at hk;cases hk
  obtain⟨f,r⟩:=Classical.not_forall.1 this;rw[Classical.not_imp]at r;have e:=Classical.not_not.1 r.2;refine⟨f,r.1,?_⟩;rw[<-e,OE h.nod z];exact hc
def Xf (h:Sto n V ts [])(hp:PickP V p lv){t:Tb}(ht:t∈ts)(hk:kp p t=false):∃f∈p,TV t f/\(t.h.1=lv-1\/t.h.1=lv):=by
 have:¬ ∀f∈p,t.h≠(f.lev,f.id):=λh2=>by rw[Ml.2 h2]at hk;cases hk
 obtain⟨f,r⟩:=Classical.not_forall.1 this;rw[Classical.not_imp]at r;have e:=Classical.not_not.1 r.2;obtain⟨g,H,hv⟩:=h.bwd t ht;have z:=(Jc h.isv).2.2.2.2.1;have e2:f=g:=M0 z (hp.sub f r.1).1 H (by have:=hv.h;rw[e]at this;exact(B4.inj this).2);subst e2;have:=(hp.sub f r.1).2;refine⟨f,r.1,hv,?_⟩;rw[hv.h];exact this
def VV (h:Sto n V ts [])(hp:PickP V p lv){t u:Tb}(ht:t∈ts)(hkt:kp p t=false)(hu:u∈ts)(hku:kp p u=true){c d:Cell}(hc:c∈t.cs)(hd:d∈u.cs)(hk:d.key=c.key):lv<u.h.1\/UR u t:=by
 obtain⟨f,Z,hv,z⟩:=Xf h hp ht hkt;obtain⟨g,O,H⟩:=h.bwd u hu;have e1:t.h.1=f.lev:=by rw[hv.h]
 have e2:u.h.1=g.lev:=by rw[H.h]
 have r:g∉p:=λh2=>Ml.1 hku g h2 H.h;have hlo:=hp.lo;rcases Eb lv u.h.1 with q|q|q
 ·exact .inl q
 ·exfalso;rcases z with z|z
  ·obtain⟨J,a2⟩:=hv.rng (h.up t ht) hc;obtain⟨b1,Y⟩:=H.rng (h.up u hu) hd;rw[hk]at b1 Y;exact r (hp.ovr f Z Fe g O Fe (by
    cases e:F6 g.lst f.fst with
    | false=>rfl
    | true=>rw[Pz Y e]at J;cases J) (by
    cases e:F6 f.lst g.fst with
    | false=>rfl
    | true=>rw[Pz a2 e]at b1;cases b1))
  ·have:=h.apart ht hu Fe Fe hc hd hk;rw[this,hku]at hkt;cases hkt
 ·right
  by_cases q2:u.h.1<t.h.1
  ·exact .inl q2
  ·exfalso
   by_cases q3:lv=1
   ·exact r (hp.src q3 g O (by have:=h.lev hu;omega))
   ·have:=h.apart ht hu Fe Fe hc hd hk;rw[this,hku]at hkt;cases hkt
def ChS.merge (h:Sto n V ts [])(hp:PickP V p lv)(hm:Mg (Js ts p) m)(c:ChS V ts (m.filter (I7 V.fs lv)) lv p V' ts')(hT:Sp.Told (FR [] ts) M) :
  Sto n V' ts' []/\Sp.Told (FR [] ts') M/\(∃tbs:List Tb,ts'=ts.filter (kp p)++tbs/\tbs.flatMap (·.cs)=m.filter (I7 V.fs lv)):=by
 have hy:∀f∈p,f∈V.fs:=λf hf=>(hp.sub f hf).1;have hj:∀c,c∈Js ts p↔∃t∈ts,kp p t=false/\c∈t.cs:=λc=>Ry h hy;have Y:∀c∈Js ts p,c∈FR [] ts:=λc r=>by
  obtain⟨t,z,_,h2⟩:=(hj c).1 r;exact Hu.2 (.inr ⟨t,z,h2⟩)
 have hq:JW (Js ts p):=λc r d hd=>h.uniq c (Y c r) d (Y d hd);obtain⟨hz,hx⟩:=PU hq hm;have hlo:=hp.lo;have hr:∀c∈m.filter (I7 V.fs lv),∃t∈ts,kp p t=false/\c∈t.cs:=λc r=>(hj c).1 ((hx c).1 (Ax.1 r).1).1;obtain⟨h1,tbs,h2,h3⟩:=c.sto h hy (CR _ hz) (λc r=>by
  obtain⟨t,z,_,H⟩:=hr c r;exact Hu.2 (.inr ⟨t,z,H⟩)) (λu hu Z hl c r d hd hk=>by
  obtain⟨t,z,O,H⟩:=hr c r;obtain⟨f,hf,hv,hlt⟩:=Xf h hp z O;exact h.n2 t z u hu (.inl (by rcases hl with hl|hl<;>omega)) c H d hd hk) (λt z O hl c r d hd hk=>by
  obtain⟨u,hu,Z,J⟩:=hr d hd;rcases VV h hp hu Z z O J r hk.symm with q|q
  ·omega
  ·exact h.n2 t z u hu q c r d J hk)
 refine⟨h1,QI hT (λc r=>?_) (λc r=>?_),tbs,h2,h3⟩
 ·rcases Hu.1 r with r|⟨t,z,r⟩
  ·cases r
  ·rw[h2]at z;rcases Al.1 z with z|z
   ·exact Hu.2 (.inr ⟨t,(Ax.1 z).1,r⟩)
   ·have:c∈m.filter (I7 V.fs lv):=by rw[<-h3];exact BX.2 ⟨t,z,r⟩
    exact Y c ((hx c).1 (Ax.1 this).1).1
 ·rcases Hu.1 r.1 with hc1|⟨t,z,H⟩
  ·cases hc1
  ·cases O:kp p t with
   | true=>exact .inl (Hu.2 (.inr ⟨t,by rw[h2];exact Bl _ (Ax.2 ⟨z,O⟩),H⟩))
   | false=>
    have h5:c∈Js ts p:=(hj c).2 ⟨t,z,O,H⟩;have hh:c∈m:=(hx c).2 ⟨h5,λd hd=>r.2 d (Y d hd)⟩
    by_cases hs:I7 V.fs lv c=true
    ·have:c∈m.filter (I7 V.fs lv):=Ax.2 ⟨hh,hs⟩;rw[<-h3]at this;obtain⟨u,hu,hcu⟩:=BX.1 this;exact .inl (Hu.2 (.inr ⟨u,by rw[h2];exact Bb _ hu,hcu⟩))
    ·right;have ha:I7 V.fs lv c=false:=by simpa using hs
     unfold I7 at ha;rw[Bool.or_eq_false_iff]at ha;refine⟨by simpa using ha.1,λd hd hk=>?_⟩;rcases Hu.1 hd with hd|⟨u,hu,J⟩
     ·cases hd
     ·rw[h2]at hu;rcases Al.1 hu with hu|hu
      ·obtain⟨hu,Z⟩:=Ax.1 hu;rcases VV h hp z O hu Z H J hk with q|q
       ·obtain⟨g,hg,hw⟩:=h.bwd u hu;obtain⟨b1,b2⟩:=hw.rng (h.up u hu) J;have h9:=List.any_eq_false.1 ha.2 g hg;rw[hk]at b1 b2;have e2:u.h.1=g.lev:=by rw[hw.h]
        rw[b1,b2,decide_eq_true (show lv<g.lev by omega)]at h9;exact h9 rfl
       ·have g1:=h.n2 u hu t z q d J c H hk.symm;have g2:=r.2 d (Hu.2 (.inr ⟨u,hu,J⟩)) hk;omega
      ·have:d∈m.filter (I7 V.fs lv):=by rw[<-h3];exact BX.2 ⟨u,hu,J⟩
       obtain⟨q1,q2⟩:=Ax.1 this;rw[Vw hz q1 hh hk]at q2;exact hs q2
end
section
variable {P:Program}{E:FF}{d:Option Tmp}{ty:TypeId}{pos:String}{af:Array Edge}{g:Option (Nat×Bool)}
def Jv (a b:Fj):Fj:=if F6 b a=true then b else a
def Jw (a b:Fj):Fj:=if F6 a b=true then b else a
variable {ts:Array TypeId}
def Xa {x y:Operand}{a b:Fj}(hx:ev E x=S a)(hy:ev E y=S b):PV P ⟨d,.call { callee:=.builtin .min,args:=#[x,y],argTypes:=ts },ty,pos,af,g⟩ E (S (Jv a b)):=λw=>by
 have h:=Ya4 a b
 cases h2:Op.bytesLess b a with
 | true=>rw[h2]at h;simp [execOp,resolve,invoke,builtin,Builtin.min_,Builtin.min2,hx,hy,CC,Op.stringOp,Jv,F6,h2,h,asBool]
 | false=>rw[h2]at h;simp [execOp,resolve,invoke,builtin,Builtin.min_,Builtin.min2,hx,hy,CC,Op.stringOp,Jv,F6,h2,h,asBool]
def Yp {x y:Operand}{a b:Fj}(hx:ev E x=S a)(hy:ev E y=S b):PV P ⟨d,.call { callee:=.builtin .max,args:=#[x,y],argTypes:=ts },ty,pos,af,g⟩ E (S (Jw a b)):=λw=>by
 cases h2:Op.bytesLess a b with
 | true=>simp [execOp,resolve,invoke,builtin,Builtin.max_,Builtin.max2,hx,hy,CC,Op.stringOp,Jw,F6,h2,asBool]
 | false=>simp [execOp,resolve,invoke,builtin,Builtin.max_,Builtin.max2,hx,hy,CC,Op.stringOp,Jw,F6,h2,asBool]
end
def PM {P:Program}{E:FF}{dd:Option Tmp}{ty:TypeId}{pos:String}{af:Array Edge}{g:Option (Nat×Bool)}{T m e:Nat}{ps:List (Nat×Operand)}{zs cs:List Value}{pv:List (Nat×Value)}(hz:KX P T=some zs)(hT:P0 P T=some (m,e,k))(hv:Ls E ps pv)(hf:Hs (λi=>some (i*k,k)) zs pv=some cs):
  PV P ⟨dd,.build T ps.toArray,ty,pos,af,g⟩ E (.agg ⟨cs⟩):=λw=>by
 obtain⟨z,r,J⟩:=Pb (P:=P) (w:=w) hz;have hm:=Ls.map hv;obtain⟨hu,f,H,hk⟩:=Ua hT;have h2:=RQ (λi=>some (i*k,k)) pv zs cs hf;simp [execOp,Instr.build,r,J,underlying,hu,sizeOf,typeInfo,H,hk,hm,h2]
def Gn (fs:List Fi)(i:Int):List Fi:=fs.filter λf=>decide (f.lev=i)
variable {fs:List Fi}
def Ud (h:fs[k]?=some f)(i:Int):Gn (fs.take (k+1)) i=Gn (fs.take k) i++(if f.lev=i then[f]else[]):=by
 unfold Gn;rw[GW h,Bs]
 by_cases e:f.lev=i<;>simp [e]
def Va (fs:List Fi)(k:Nat)(i:Int):(Gn (fs.take k) i).length<=fs.length:=by
 unfold Gn;have h1:=Bk (λf:Fi=>decide (f.lev=i)) (fs.take k);have h2:(fs.take k).length<=fs.length:=List.length_take_le' ..;omega
def HR (fs:List Fi):List Nat:=(List.range 5).map λi:Nat=>(Gn fs (i:Int)).length
def NP (fs:List Fi){i:Nat}(h:i<5):(HR fs)[i]?=some (Gn fs ↑i).length:=by
 unfold HR;rw[AH,List.getElem?_range h];rfl
def Xzi {lv:Nat}(h:fs[k]?=some f)(he:f.lev=↑lv)(hl:lv<5):(HR (fs.take k)).set lv ((Gn (fs.take k) ↑lv).length+1)=HR (fs.take (k+1)):=by
 apply BF
 intro i
 by_cases hi:i<5
 ·rw[NP _ hi]
  by_cases e:lv=i
  ·subst e;rw[BI (by unfold HR;simpa using hl),Ud h,if_pos he];simp
  ·rw[Cj e,NP _ hi,Ud h,if_neg Fe];simp
 ·rw[Bi (by simp [HR];omega),Bi (by simp [HR];omega)]
def Pt (fs:List Fi)(F:Int×Int->Option Fi):Prop:=∀(i:Int) (j:Nat),F (i,↑j)=(Gn fs i)[j]?
def Ydt : Pt [] (λ_=>none):=λi j=>rfl
def X29 {F:Int×Int->Option Fi}(h:fs[k]?=some f)(hF:Pt (fs.take k) F):Pt (fs.take (k+1)) (putF F (f.lev,↑(Gn (fs.take k) f.lev).length) f):=λi j=>by
 rw[Ud h];unfold putF
 by_cases e:f.lev=i
 ·subst e;rw[if_pos rfl]
  by_cases e2:j=(Gn (fs.take k) f.lev).length
  ·subst e2;simp
  ·rw[if_neg Gx,hF,EN];split
   ·rfl
   ·rw[Bi Fe,Bi Gx]
 ·rw[if_neg (by simp;exact λe2=>absurd e2.symm e),if_neg e,AI,hF]
def X8v (a b:Fi)(h:Fi.v a=Fi.v b):a=b:=by
 obtain⟨a1,a2,a3,a4,a5⟩:=a;obtain⟨b1,b2,b3,b4,b5⟩:=b;simp [Fi.v]at h;obtain⟨rfl,rfl,rfl,rfl,rfl⟩:=h;rfl
def OL : MapK Tryz.prog 177 181 62 GM Fi.v Km:=Sf (i:=3) Ff Ff (Xui Ff Ff Ff) Ff Ff Ff Ff Ff Ff X8v
def X3a (n:Int)(fs:List Fi)(vf:Value)(w:World)(hv:Fu Fi.cs 5 w vf fs)(hl:fs.length<=100000)(hlv:∀f∈fs,0<=f.lev/\f.lev<=4) :
  Gi 104 [.agg ⟨[I n,vf]⟩] w λu w'=>∃b F,u=.tuple #[.agg ⟨G6 (HR fs)⟩,.map (some b)]/\Pt fs F/\Vc.Xbd Tryz.prog 181 GM Fi.v w' b fs.length F:=by
 refine cE Tryz.func104 λH=>go ?_;refine G1 rfl rfl rfl RX.all (λb1 w1 e1 x1 J=>?_);have g1:=H.ge e1;have H:=H.trans x1;refine aL [.int .i64 0,.int .i64 0,.int .i64 0,.int .i64 0,.int .i64 0] λb2 w2 e2 x2 O=>?_;have g2:=H.ge e2;have n2_1:=J.ltb e2;refine Fy x2 J H λJ H=>go ?_;refine aL [.int .i64 0,.int .i64 0,.int .i64 0,.int .i64 0,.int .i64 0] λb3 w3 e3 x3 Y=>?_;have g3:=H.ge e3;have n3_1:=J.ltb e3;have n3_2:=O.ltb e3;refine FC x3 J O H λJ O H=>go ?_;refine Qd OL rfl RX.all (λb4 w4 e4 x4 r=>?_);have g4:=H.ge e4;have n4_1:=J.ltb e4;have n4_2:=O.ltb e4;have n4_3:=Y.ltb e4;refine FQ x4 J O Y H λJ O Y H=>FM 62 5 (hv.ext H).sl ?_;refine F8 (G:=Nat×(Int×Int->Option Fi)) (λ(k,F)=>[(2,Fh b2 0),(3,.map none),(4,Fh b3 0),(5,.map (some b4)),(10,vf),(11,I ↑fs.length),(12,I ↑k)]) (λ(k,F) w'=>Fq w w'/\Fp w' b1 [I n,vf] 56/\Fp w' b2 [I 0,I 0,I 0,I 0,I 0] 176/\k<=fs.length/\Pt (fs.take k) F/\Fp w' b3 (G6 (HR (fs.take k))) 176/\Vc.Xbd Tryz.prog 181 GM Fi.v w' b4 k F) (λ(k,F)=>fs.length-k) (0,λ_=>none) ⟨H,J,O,Ab _,Ydt,Y,r⟩ ?_;rintro _ ⟨k,F⟩ w5 ⟨H,J,O,hk1,hPl,Y,r⟩;refine Fk (λc1=>?_) λc1=>?_
 ·obtain⟨f,hk⟩:∃f,fs[k]?=some f:=F7;have hlf:=hlv f (Ag hk);obtain⟨lv,hle⟩:∃lv:Nat,f.lev=↑lv:=⟨f.lev.toNat,by omega⟩;have hc:lv<5:=by omega
  have hh:=NP (fs.take k) hc;have hxl:=Va fs k ↑lv;have hq:=Xzi hk hle hc;have hp:=X29 hk hPl;rw[hle]at hp;refine FN 62 5 hv.sl (hv.lt hk) ?_;refine dq (Fx Ff rfl rfl ((hv.ext H).row hk)) (aL [.int .i64 0,.int .i64 0,.int .i64 0,S [],S []] λb5 w6 e5 x6 Z=>?_);have g5:=H.ge e5;have n5_1:=J.ltb e5;have n5_2:=O.ltb e5;have n5_3:=Y.ltb e5;have n5_mp4:=r.lt;refine Ga x6 J O Y r H λJ O Y r H=>Gg Z (λw7 x7 xs7 Z=>?_);have J:=J.mo x7;have O:=O.mo x7;have Y:=Y.mo x7;have r:=r.mod x7 Fw;have H:=H.o1 x7;refine go ?_;refine HP (R:=Mod (Fv b4)) Ij I0 Ff [2,4,6,8] [(0,.p,false),(1,.p,false),(2,.l,false),(3,.p,false),(4,.l,false),(5,.p,false),(6,.l,false),(7,.p,false),(8,.l,false),(9,.x,true)] rfl Ff Ff (λw8 hg=>?_);have x8:=FE hg;clear hg;refine HB x8 J O Y r Z H λJ O Y r Z H=>go ?_;refine Gh rfl (λw' hR=>LV.to (NE Ff rfl ((Z.mod hR (λe=>r.ne_blk Z e)).at rfl)) (congrArg (λz=>I z) hle)) (go ?_);refine Gh rfl (λw' hR=>LV.to (NE Ff rfl ((Z.mod hR (λe=>r.ne_blk Z e)).at rfl)) (congrArg (λz=>I z) hle)) (dp (Ln (m:=5) (e:=3) (k:=1) Ff rfl rfl Fe) (dL rfl (λ_ hR=>((Y.mod hR (λe=>r.ne_blk Y e)).at (MZ hh))) (F3 (v:=GM (↑lv,↑(Gn (fs.take k) ↑lv).length)) rfl (PM (zs:=[I 0,I 0]) (m:=2) (e:=3) (k:=1) (pv:=[(0,I ↑lv),(1,I ↑(Gn (fs.take k) ↑lv).length)]) (cs:=[I ↑lv,I ↑(Gn (fs.take k) ↑lv).length]) Ff Ff Hn rfl) rfl (Gh rfl (λw' hR=>Fx (k:=5) Ff rfl rfl (Z.mod hR (λe=>r.ne_blk Z e)).row) ?_))));refine OS OL (kx:=(↑lv,↑(Gn (fs.take k) ↑lv).length)) (a:=f) rfl rfl rfl rfl r ⟨by unfold Ge;omega,by unfold Ge;omega⟩ (by unfold maxLen;omega) (.inl rfl) (λw9 x9 xs9 hf=>?_);have J:=J.mod x9 Fw;have O:=O.mod x9 Fw;have Y:=Y.mod x9 Fw;have Z:=Z.mod x9 Fw;have H:=H.own x9 F5;have r:=hf;refine gc ?_;refine df 1 rfl (dq (LV.to (NE Ff rfl (Z.at rfl)) (congrArg (λz=>I z) hle)) (dp (Ln (m:=5) (e:=3) (k:=1) Ff rfl rfl Fe) (dl rfl (Y.at (MZ hh)) (F3 (v:=I ↑((Gn (fs.take k) ↑lv).length+1)) rfl (GK rfl rfl FH) (by show I _=I _;congr 1) (dp (Ln (m:=5) (e:=3) (k:=1) Ff rfl rfl Fe) (KW Y (λw10 ha xs10 Y=>?_) (hv:=by rfl) (ho:=by rw[Au];simp only [HR,Au,List.length_range];omega)))))));rw[Ot]at Y;have J:=J.mo ha;have O:=O.mo ha;have r:=r.mod ha Fw;have H:=H.o1 ha;refine go ?_;exact⟨(k+1,_),Ho,⟨H,J,O,by omega,hp,by rw[<-hq];exact Y,r⟩,by simp only [];omega⟩
 refine go ?_;refine dq (Fx (k:=5) Ff rfl (by rw[Au];simp [HR]) Y.row) (go ?_);refine OJ (m:=5) (vs:=?u9) rfl rfl ?h9 Ff ?c9 ?d9 O ?n9 (.inl rfl) (λw11 hj xs11 O=>?k9)
 case h9=>conv=>lhs;whnf
 case c9=>rw[Au];simp [HR]
 case d9=>rfl
 case n9=>simp [Value.oneCell']
 have r:=r.mod hj Fw;have H:=H.o1 hj;refine go ?_;refine I5 (u:=?v11) rfl rfl rfl rfl Ff rfl O.row ?h11 ?k11
 case h11=>conv=>lhs;whnf
 have hr:k=fs.length:=by omega
 subst hr;rw[AT]at hPl;exact⟨_,rfl,H,b4,F,by rw[AT],hPl,r⟩
end Go.Proofs.YtiooodckiddpmaaGreatDoor

namespace Go.Proofs.YtiooodckiddpmaaGreatDoor
open Go.Vc Go.Sp
attribute [local irreducible] W XW Dw GC
section
variable {P:Program}{E:FF}{ty:TypeId}{pos:String}{af:Array Edge}{g:Option (Nat×Bool)}
end
variable {α:Type}{l:List α}
def Rb {m q:List α}(h:∀x∈m,x∈l)(hc:∀x∈q,x∈l):∀x∈m++q,x∈l:=λx r=>(Al.1 r).elim (h x) (hc x)
def Li (fs:List Fi):Prop:=4<=HA fs 0\/4<HA fs 1\/16<HA fs 2\/64<HA fs 3
def LS (fs:List Fi)(k q:Nat):Prop:=HA fs 0<4/\((k=1/\q=1)\/(k=2/\q=4/\HA fs 1<=4)\/(k=3/\q=16/\HA fs 1<=4/\HA fs 2<=16)\/(k=4/\q=64/\HA fs 1<=4/\HA fs 2<=16/\HA fs 3<=64))
variable {fs:List Fi}{k q:Nat}
def LS.le (h:LS fs k q):k<=4/\q<=64:=by have h2:=h.2;omega
def LS.step (h:LS fs k q)(hk:k<4)(hc:(fs.filter λf=>decide (f.lev=↑k)).length<=4*q):LS fs (k+1) (4*q):=by
 obtain⟨h0,⟨rfl,rfl⟩|⟨rfl,rfl,h1⟩|⟨rfl,rfl,h1,h2⟩|⟨rfl,rfl,h1,h2,h3⟩⟩:=h
 ·exact⟨h0,.inr (.inl ⟨rfl,rfl,hc⟩)⟩
 ·exact⟨h0,.inr (.inr (.inl ⟨rfl,rfl,h1,hc⟩))⟩
 ·exact⟨h0,.inr (.inr (.inr ⟨rfl,rfl,h1,h2,hc⟩))⟩
 ·exact absurd hk Fo
def LS.hit (h:LS fs k q)(hk:k<4)(hc:4*q<(fs.filter λf=>decide (f.lev=↑k)).length):Li fs:=by
 obtain⟨h0,⟨rfl,rfl⟩|⟨rfl,rfl,h1⟩|⟨rfl,rfl,h1,h2⟩|⟨rfl,rfl,h1,h2,h3⟩⟩:=h
 ·exact .inr (.inl hc)
 ·exact .inr (.inr (.inl hc))
 ·exact .inr (.inr (.inr hc))
 ·exact absurd hk Fo
def LS.no (h:LS fs k q)(hk:¬ k<4):¬ Li fs:=by
 obtain⟨h0,⟨rfl,rfl⟩|⟨rfl,rfl,h1⟩|⟨rfl,rfl,h1,h2⟩|⟨rfl,rfl,h1,h2,h3⟩⟩:=h
 ·exact absurd Fo hk
 ·exact absurd Fo hk
 ·exact absurd Fo hk
 ·intro r;unfold Li at r;omega
variable {i:Nat}
def RM {p:Fi->Bool}{f:Fi}(h:(fs.filter p)[i]?=some f):f∈fs:=(Ax.1 (Ag h)).1
def X3b (n:Int)(fs:List Fi)(vf:Value)(s:Fj)(w:World)(hv:Fu Fi.cs 5 w vf fs)(hl:fs.length<=100000000) :
  Gi 213 [.agg ⟨[I n,vf]⟩,S s] w λu w'=>∃m,Vc.Own Fi.cs 5 62 w.heap.size w' u m/\m.length<=500000000/\∀f∈m,f∈fs:=by
 refine cE Tryz.func213 λr=>go ?_;refine G1 rfl rfl rfl RX.all (λb1 w1 e1 x1 H=>?_);have g1:=r.ge e1;have r:=r.trans x1;refine go ?_;refine dq (Fx (k:=2) Ff rfl rfl H.row) (Gj (Oe n fs vf 0 s s _ (hv.ext r) hl) λZ w2 x2 hj=>?_);have hg:=r.size;refine Fy x2 H r λH r=>?_;obtain⟨z,ht,zl,zm⟩:=hj;have O:=ht.mono hg;obtain⟨B9,hB9⟩:∃B9,B9=w2.heap.size:=⟨_,rfl⟩;have ha:w.heap.size<=B9:=by rw[hB9];exact r.size
 have hh:∀k,Z.ownBlock=some k->k<B9:=λk hk=>by rw[hB9];exact(O.lt k hk).2
 have J:Sz B9 w2:=⟨Cb hB9⟩;refine go ?_;refine dv 62 5 (O.arr Fg).sl (F8 (G:=Nat×Value×List Fi) (λ(i,vm,m)=>[(1,S s),(2,Fh b1 0),(4,.slice none 0 0),(5,Z),(6,vm),(7,I (↑i-1))]) (λ(i,vm,m) w'=>Fq w w'/\Fp w' b1 [I n,vf] 56/\Vc.Own Fi.cs 5 62 w.heap.size w' Z z/\Sz B9 w'/\i<=z.length/\m.length+i<=z.length/\(∀f∈m,f∈fs)/\Vc.Own Fi.cs 5 62 B9 w' vm m) (λ(i,vm,m)=>i) (z.length,.slice none 0 0,[]) ⟨r,H,O,J,Aa _,by simp,λc hc=>(by cases hc),Vc.Own.nil⟩ ?_);rintro _ ⟨i,vm,m⟩ w3 ⟨r,H,O,J,hi1,hml,hm,ho⟩;refine go ?_;refine dp (HY rfl rfl) ?_;refine Fk (λc1=>?_) λc1=>?_
 ·have hi0:0<i:=by omega
  obtain⟨f,hk⟩:∃f,z[i-1]?=some f:=F7;refine gc ?_
  iterate 2 refine dm ?_
  refine XI (v:=I ↑(i-1)) rfl FY (di 62 5 (O.arr Fg).sl rfl ((O.arr Fg).lt hk) (dq (Fx Ff rfl rfl ((O.arr Fg).row hk)) (lA 62 rfl λb2 w4 e2 x4 m2=>?_)));have g2:=r.ge e2;have n2_1:=H.ltb e2;have o2_hz:=O.ltb e2;have a2_hS:=J.le;have o2_ho:=ho.ltb e2;refine Ga x4 H O J ho r λH O J ho r=>G8 f ho m2 (λv2 w5 Y x5=>?_) (hB:=J.le);have H:=H.mod x5 Fw;have O:=O.mod x5 (by exact(λk hk e=>by have h1:=(ho.lt k e).1;have h2:=hh k hk;omega));have J:=J.mod x5 Fw;have r:=r.own x5 (λi hi=>(Ae ha (ho.lt i hi).1));have ho:=Y;clear m2;refine gn ?_;refine F3 (v:=I (↑(i-1)-1)) rfl (G7 rfl rfl FH) FY (go ?_);exact FL (i-1,v2,m++[f]) ⟨r,H,O,J,by omega,by simp;omega,M6 hm (zm f (Ag hk)),ho⟩
 refine F8 (G:=Nat×Value×List Fi) (λ(k,vm,m)=>[(1,S s),(2,Fh b1 0),(4,.slice none 0 0),(6,vm),(8,I ↑k)]) (λ(k,vm,m) w'=>Fq w w'/\Fp w' b1 [I n,vf] 56/\Sz B9 w'/\1<=k/\k<=5/\m.length<=100000000*k/\(∀f∈m,f∈fs)/\Vc.Own Fi.cs 5 62 B9 w' vm m) (λ(k,vm,m)=>5-k) (1,vm,m) ⟨r,H,J,by omega,by omega,by omega,hm,ho⟩ ?_;rintro _ ⟨k,vm,m⟩ w6 ⟨r,H,J,hk1,hk5,hml,hm,ho⟩;refine go ?_;refine dp (IJ rfl rfl) ?_;refine Fk (λc2=>?_) λc2=>?_
 ·refine go ?_;refine dq (Fx (k:=2) Ff rfl rfl H.row) (Gj (Oe n fs vf _ s s _ (hv.ext r) hl) λvhq w7 x7 hp=>?_);have hf:=r.size;refine FQ x7 H J ho r λH J ho r=>?_;obtain⟨q,hr,ql,qm⟩:=hp;have hq:=hr.mono hf;refine Ht ho (hq.arr Fg) (λv3 w8 Y x8=>?_) (hB:=J.le);have H:=H.mod x8 Fw;have J:=J.mod x8 Fw;have r:=r.own x8 (λi hi=>(Ae ha (ho.lt i hi).1));have ho:=Y;refine go ?_;exact FL (k+1,v3,m++q) ⟨r,H,J,by omega,by omega,by simp;omega,Rb hm qm,ho⟩
 refine go ?_;exact⟨_,rfl,r,m,ho.mono ha,by omega,hm⟩
def Xzj (n:Int)(fs:List Fi)(vf:Value)(w:World)(hv:Fu Fi.cs 5 w vf fs)(hl:fs.length<=100000000)(hs:∀f∈fs,f.fst.length<=140737488355328/\f.lst.length<=140737488355328) :
  Gi 142 [.agg ⟨[I n,vf]⟩] w λu w'=>∃(vm:Value) (m:List Fi) (b:Bool),u=.tuple #[vm,B b]/\Vc.Own Fi.cs 5 62 w.heap.size w' vm m/\m.length<=2*fs.length+1/\(∀f∈m,f∈fs)/\(b=true↔QT n fs/\Li fs)/\(b=true->m≠[]):=by
 refine cE Tryz.func142 λr=>go ?_;refine G1 rfl rfl rfl RX.all (λb1 w1 e1 x1 z=>?_);have g1:=r.ge e1;have r:=r.trans x1;refine go ?_;refine dq (Fx (k:=2) Ff rfl rfl z.row) (cG (Rl n fs vf _ (hv.ext r) hl hs) RX.all λu2 w2 x2 xo=>?_);have hsz2:=r.size;refine Fy x2 z r λz r=>?_;obtain⟨b9,rfl,hg⟩:=xo;refine Gb (λc1=>?_) λc1=>?_
 ·have hbf:b9=false:=by simpa using c1
  refine go ?_;exact⟨_,rfl,r,.slice none 0 0,[],false,rfl,Vc.Own.nil,by simp,λc hc=>(by cases hc),⟨λe=>(by cases e),λh=>(by have:=hg.2 h.1;simp_all)⟩,λe=>(by cases e)⟩
 have hw:b9=true:=by simpa using c1
 have hzl:=Bk (λf:Fi=>decide (f.lev=0)) fs;refine go ?_;refine dq (Fx (k:=2) Ff rfl rfl z.row) (cG (W6 n fs vf 0 _ (hv.ext r) hl) RX.all λh7 w3 x3 xv=>?_);have xb:=r.size;refine Fy x3 z r λz r=>?_;have O:=xv.mono xb;refine go ?_;refine dv 62 5 (O.arr Fg).sl (dp (HY rfl rfl) ?_);refine Fk (λc2=>?_) λc2=>?_
 ·obtain⟨f0,hk0⟩:∃x,(fs.filter λf=>decide (f.lev=0))[0]?=some x:=F7;refine Gt 10010001000 λw4 x4=>FC x4 z O r λz O r=>?_;refine go ?_;refine di 62 5 (O.arr Fg).sl rfl ((O.arr Fg).lt hk0) (go ?_);refine dL rfl (λ_ hR=>((((O.arr Fg).ext hR).row hk0).at rfl)) (go ?_);refine di 62 5 (O.arr Fg).sl rfl ((O.arr Fg).lt hk0) (go ?_);refine dL rfl (λ_ hR=>((((O.arr Fg).ext hR).row hk0).at rfl)) (F8 (G:=Nat×Fj×Fj) (λ(i,fr,to)=>[(1,Fh b1 0),(2,.slice none 0 0),(3,.bool false),(4,h7),(5,S fr),(6,S to),(7,I ↑i)]) (λ(i,fr,to) w'=>Fq w w'/\Fp w' b1 [I n,vf] 56/\Vc.Own Fi.cs 5 62 w.heap.size w' h7 (fs.filter λf=>decide (f.lev=0))/\i<=(fs.filter λf=>decide (f.lev=0)).length) (λ(i,fr,to)=>(fs.filter λf=>decide (f.lev=0)).length-i) (0,f0.fst,f0.lst) ⟨r,z,O,Ab _⟩ ?_);rintro _ ⟨i,fr,to⟩ w5 ⟨r,z,O,hi1⟩;refine go ?_;refine dv 62 5 (O.arr Fg).sl ?_;refine Fk (λc3=>?_) λc3=>?_
  ·obtain⟨g,hk⟩:∃x,(fs.filter λf=>decide (f.lev=0))[i]?=some x:=F7;refine Gt 10001000000100000 λw6 x6=>FC x6 z O r λz O r=>?_;refine go ?_;refine di 62 5 (O.arr Fg).sl rfl ((O.arr Fg).lt hk) (go ?_);refine dL rfl (λ_ hR=>((((O.arr Fg).ext hR).row hk).at rfl)) (dp (Xa rfl rfl) (go ?_));refine di 62 5 (O.arr Fg).sl rfl ((O.arr Fg).lt hk) (go ?_);refine dL rfl (λ_ hR=>((((O.arr Fg).ext hR).row hk).at rfl)) (dp (Yp rfl rfl) (go ?_));exact⟨(i+1,_,_),Ho,⟨r,z,O,by omega⟩,by simp only [];omega⟩
  refine go ?_;refine dq (Fx (k:=2) Ff rfl rfl z.row) (Gj (Oe n fs vf 1 fr to _ (hv.ext r) hl) λxi w7 x7 xu=>?_);have xa:=r.size;refine FC x7 z O r λz O r=>?_;obtain⟨q,Z,ql,qm⟩:=xu;have hq:=Z.mono xa;refine Ht O (hq.arr Fg) λxj w8 xd x8=>?_;have z:=z.mod x8 Fw
  try have hq:=hq.mod x8 (by first|assumption|(intro h;have h1:=(O.lt _ h).1;omega))
  have r:=r.own x8 F5;have O:=xd;refine go ?_;refine⟨_,rfl,r,xj,_,true,rfl,O,by simp;omega,Rb (λx Y=>(Ax.1 Y).1) qm,⟨λ_=>⟨hg.1 hw,.inl (by show 4<=(fs.filter λf=>decide (f.lev=0)).length;omega)⟩,λ_=>rfl⟩,λ_ e=>?_⟩;have e8:=(List.append_eq_nil_iff.1 e).1;rw[e8]at c2;simp at c2
 refine F8 (G:=Nat×Nat) (λ(k,q)=>[(1,Fh b1 0),(8,I ↑q),(9,I ↑k)]) (λ(k,q) w'=>Fq w w'/\Fp w' b1 [I n,vf] 56/\LS fs k q) (λ(k,q)=>4-k) (1,1) ⟨r,z,⟨by show(fs.filter λf=>decide (f.lev=0)).length<4;omega,.inl ⟨rfl,rfl⟩⟩⟩ ?_;rintro _ ⟨k,q⟩ w9 ⟨r,z,hF⟩;refine Fk (λc4=>?_) λc4=>?_
 ·refine go ?_;refine F3 (v:=I ↑(4*q)) rfl (Ks rfl rfl (by have:=hF.le;unfold Ge;omega)) FY (go ?_);refine dq (Fx (k:=2) Ff rfl rfl z.row) (Gj (W6 n fs vf ↑k _ (hv.ext r) hl) λhj w10 xr xc=>?_);have h5:=r.size;refine Fy xr z r λz r=>?_;have H:=xc.mono h5;refine go ?_;refine dv 62 5 (H.arr Fg).sl (go ?_);refine dp (IJ rfl rfl) ?_;refine Fk (λc5=>?_) λc5=>?_
  ·refine go ?_;exact FL (k+1,4*q) ⟨r,z,hF.step Fe Fe⟩
  obtain⟨f0,hk0⟩:∃x,(fs.filter λf=>decide (f.lev=↑k))[0]?=some x:=F7;have hll:=Bk (λf:Fi=>decide (f.lev=↑k)) fs;refine go ?_;refine di 62 5 (H.arr Fg).sl rfl ((H.arr Fg).lt hk0) (dq (Fx Ff rfl rfl ((H.arr Fg).row hk0)) (aL [.int .i64 0,.int .i64 0,.int .i64 0,S [],S []] λb2 w11 e2 xk J=>?_));have g2:=r.ge e2;have n2_1:=z.ltb e2;have o2_hl9:=H.ltb e2;refine FC xk z H r λz H r=>Gg J (λw12 hp xs12 J=>?_)
  try have z:=z.mo hp
  have H:=H.mod hp Fw;have r:=r.o1 hp;refine F8 (G:=Nat×Fi) (λ(j,f)=>[(1,Fh b1 0),(8,I ↑(4*q)),(9,I ↑k),(10,hj),(11,Fh b2 0),(12,I ↑j)]) (λ(j,f) w'=>Fq w w'/\Fp w' b1 [I n,vf] 56/\Vc.Own Fi.cs 5 62 w.heap.size w' hj (fs.filter λf=>decide (f.lev=↑k))/\j<=(fs.filter λf=>decide (f.lev=↑k)).length/\f∈fs/\Fp w' b2 f.cs 62) (λ(j,f)=>(fs.filter λf=>decide (f.lev=↑k)).length-j) (0,f0) ⟨r,z,H,Ab _,RM hk0,J⟩ ?_;rintro _ ⟨j,f⟩ w13 ⟨r,z,H,hj1,hfm,J⟩;refine go ?_;refine dv 62 5 (H.arr Fg).sl ?_;refine Fk (λc6=>?_) λc6=>?_
  ·obtain⟨g,hk⟩:∃x,(fs.filter λf=>decide (f.lev=↑k))[j]?=some x:=F7;refine Gt 101010000 λw14 xl=>FQ xl z H J r λz H J r=>?_;refine go ?_;refine di 62 5 (H.arr Fg).sl rfl ((H.arr Fg).lt hk) (go ?_);refine dL rfl (λ_ hR=>((((H.arr Fg).ext hR).row hk).at rfl)) ?_;refine Fk (λc7=>?_) λc7=>?_
   ·refine go ?_;refine di 62 5 (H.arr Fg).sl rfl ((H.arr Fg).lt hk) (dq (Fx Ff rfl rfl ((H.arr Fg).row hk)) (Gg J (λw15 hr xs15 J=>?_)))
    try have z:=z.mo hr
    have H:=H.mod hr Fw;have r:=r.o1 hr;refine go ?_;exact⟨(j+1,_),HW,⟨r,z,H,by omega,by first|exact hfm|exact RM hk,J⟩,by simp only [];omega⟩
   refine go ?_;exact⟨(j+1,_),HW,⟨r,z,H,by omega,by first|exact hfm|exact RM hk,J⟩,by simp only [];omega⟩
  refine go ?_;refine KK (R:=Mod (λk=>k≠b1/\k≠b2)) Ij I0 Ff [0,2,6,8] (.one 0 .l false (.one 2 .l false (.one 3 .p false (.one 4 .p false (.one 5 .p false (.one 6 .l false (.one 7 .p false (.one 8 .l false (.fork (.alt 1 false (.one 9 .x false (.one 10 .x false (.one 11 .p false (.one 12 .p false .nil)))) (.alt 9 false (.one 1 .x false (.one 10 .x false (.one 11 .p false (.one 12 .p false .nil)))) .stop))))))))))) Ff Ff (λw16 hh=>?_);have xp:=FE hh;clear hh;refine FC xp z J r λz J r=>go ?_;refine Gh rfl (λw' hR=>Fx (k:=5) Ff rfl rfl (J.mod hR (λh=>h.2 rfl)).row) (go ?_);refine Gh rfl (λw' hR=>Fx (k:=2) Ff rfl rfl (z.mod hR (λh=>h.1 rfl)).row) (go ?_);refine dL rfl (λ_ hR=>((J.mod hR (λh=>h.2 rfl)).at rfl)) (go ?_);refine dL rfl (λ_ hR=>((J.mod hR (λh=>h.2 rfl)).at rfl)) (go ?_);refine Ji ?_;refine Hk ?_ ?_
  ·refine lA 62 rfl (λb3 w17 e3 xt m3=>?_) (hR:=RX.mod);have g3:=r.ge e3;have n3_1:=z.ltb e3;have n3_2:=J.ltb e3;refine FC xt z J r λz J r=>go ?_;refine cG (Oe n fs vf _ _ _ _ (hv.ext r) hl) RX.mod λxi w18 xg xe=>?_;have h6:=r.size;refine FQ xg z J m3 r λz J m3 r=>?_;obtain⟨q,Z,ql,qm⟩:=xe;have hq:=Z.mono h6;have xq:=xg.size;refine go ?_;have ho:=m3.own (enc:=Fi.cs) (B:=w.heap.size) (l:=[f]) (sz:=5) (m:=1) g3 rfl Fg rfl (An rfl);refine Ht ho (hq.arr Fg) (λhy w19 ha hf=>?_) (hR:=(.inr λw9 h9=>h9.mono (λk hk _=>by have h8:b3=k:=Am.inj hk;have h1:=z.lt;have h2:=J.lt;exact⟨by omega,by omega⟩)));have z:=z.mod hf Fw
   try have J:=J.mod hf (by first|(intro h;have h2:b3=b2:=Am.inj h;omega)|(intro h;have h1:=(ho.lt _ h).1;omega)|(intro h;have h1:=o2_ho _ h;omega)|(intro h;exact ho.ne_blk J rfl h))
   try have hq:=hq.mod hf (by first|assumption|(intro h;have h1:=(ho.lt _ h).1;omega))
   have r:=r.own hf F5;have ho:=ha;refine go ?_;exact⟨_,rfl,r,hy,_,true,rfl,ho,by simp;omega,Rb (λx Y=>by rw[Af.1 Y];exact hfm) qm,⟨λ_=>⟨hg.1 hw,hF.hit Fe Fe⟩,λ_=>rfl⟩,λ_ e=>by cases e⟩
  refine Hk ?_ ?_
  ·refine cG (Oe n fs vf _ _ _ _ (hv.ext r) hl) RX.mod λxi w20 xf xh=>?_;have ht:=r.size;refine FC xf z J r λz J r=>?_;obtain⟨q,Z,ql,qm⟩:=xh;have hq:=Z.mono ht;have xq:=xf.size;refine go ?_;refine lA 62 rfl (λb4 w21 e4 xm m4=>?_) (hR:=RX.mod);have g4:=r.ge e4;have n4_1:=z.ltb e4;have n4_2:=J.ltb e4;refine FQ xm z J hq r λz J hq r=>go ?_;have ho:=m4.own (enc:=Fi.cs) (B:=w.heap.size) (l:=[f]) (sz:=5) (m:=1) g4 rfl Fg rfl (An rfl);refine Ht ho (hq.arr Fg) (λhy w22 ha xn=>?_) (hR:=(.inr λw9 h9=>h9.mono (λk hk _=>by have h8:b4=k:=Am.inj hk;have h1:=z.lt;have h2:=J.lt;exact⟨by omega,by omega⟩)));have r:=r.own xn F5;have ho:=ha;refine go ?_;exact⟨_,rfl,r,hy,_,true,rfl,ho,by simp;omega,Rb (λx Y=>by rw[Af.1 Y];exact hfm) qm,⟨λ_=>⟨hg.1 hw,hF.hit Fe Fe⟩,λ_=>rfl⟩,λ_ e=>by cases e⟩
  exact Jh
 refine go ?_;exact⟨_,rfl,r,.slice none 0 0,[],false,rfl,Vc.Own.nil,by simp,λc hc=>(by cases hc),⟨λe=>(by cases e),λh=>absurd h.2 (hF.no Fe)⟩,λe=>(by cases e)⟩
section
variable {out:List Cell}{r:Rw}{seq:Int}{j:Nat}{d:Cell}
def WR (h:out[j]?=some d)(hl:F6 d.key r.key=true):(out.drop j).takeWhile (λx=>F6 x.key r.key)=d :: (out.drop (j+1)).takeWhile (λx=>F6 x.key r.key)/\(out.drop j).dropWhile (λx=>F6 x.key r.key)=(out.drop (j+1)).dropWhile (λx=>F6 x.key r.key):=by
 rw[Ja h,CO,Dy];simp [hl]
def VK (h:out[j]?=some d)(hl:F6 d.key r.key=false):(out.drop j).takeWhile (λx=>F6 x.key r.key)=[]/\(out.drop j).dropWhile (λx=>F6 x.key r.key)=out.drop j:=by
 rw[Ja h,CO,Dy];simp [hl]
def Yz (h:out.length<=j):(out.drop j).takeWhile (λx=>F6 x.key r.key)=[]/\(out.drop j).dropWhile (λx=>F6 x.key r.key)=out.drop j:=by
 rw[BP h];exact⟨rfl,rfl⟩
def Ws (h:out[j]?=some d)(e:d.key=r.key):Hw out (r.cell seq)=out:=by
 unfold Hw;rw[if_pos (BB.2 ⟨d,Ag h,by simp [e,Rw.cell]⟩)]
def Xtm (hu:J1 out)(h1:out.takeWhile (λx=>F6 x.key r.key)=out.take j)(h2:out.dropWhile (λx=>F6 x.key r.key)=out.drop j)(h3:out.length<=j\/∃d,out[j]?=some d/\d.key≠r.key):Hw out (r.cell seq)=out.take j++r.cell seq :: out.drop j:=by
 have hn:¬ (out.any λx=>decide (x.key=(r.cell seq).key))=true:=by
  intro h;obtain⟨x,z,e⟩:=BB.1 h;have e:x.key=r.key:=of_decide_eq_true e;rw[<-AV j out]at z;rcases Al.1 z with z|z
  ·rw[<-h1]at z;have:=AQ.1 (List.all_takeWhile (p:=λx:Cell=>F6 x.key r.key) (l:=out)) x z;rw[e,IN]at this;cases this
  ·rcases h3 with h3|⟨d,hd,h3⟩
   ·rw[BP h3]at z;cases z
   ·have H:F6 d.key r.key=false:=by
     have:=List.head?_dropWhile_not (λx:Cell=>F6 x.key r.key) out;rw[h2,Ja hd]at this;simpa using this
    rw[Ja hd]at z;rcases Ah.1 z with rfl|z
    ·exact h3 e
    ·have J:J1 (out.drop j):=Fb (List.drop_sublist _ _) hu;rw[Ja hd]at J;have:=(AN.1 J).1 x z;rw[e,H]at this;cases this
 unfold Hw;rw[if_neg hn];show out.takeWhile (λx=>F6 x.key r.key)++_ :: out.dropWhile (λx=>F6 x.key r.key)=_;rw[h1,h2]
def Xq8 {l:List Rw}{k:Nat}(h:l[k]?=some r):Gp (l.drop k) seq=Hw (Gp (l.drop (k+1)) seq) (r.cell seq):=by rw[Ja h];rfl
end
def X3c (l:List Rw)(v:Value)(seq:Int)(w:World)(hv:Fu Rw.cs 3 w v l)(hl:l.length<=100000) :
  Gi 56 [v,I seq] w λu w'=>Vc.Own Cell.cs 4 79 w.heap.size w' u (Gp l seq):=by
 refine cE Tryz.func56 λz=>FM 48 3 (hv.ext z).sl ?_;refine F3 (v:=I (↑l.length-1-↑(0:Nat))) rfl (G7 rfl rfl FH) FY (F8 (G:=Nat×Value) (λ(k,vo)=>[(0,v),(1,I seq),(4,.slice none 0 0),(5,vo),(6,I (↑l.length-1-↑k))]) (λ(k,vo) w'=>Fq w w'/\k<=l.length/\Vc.Own Cell.cs 4 79 w.heap.size w' vo (Gp (l.drop (l.length-k)) seq)/\Fu Cell.cs 4 w' vo (Gp (l.drop (l.length-k)) seq)) (λ(k,vo)=>l.length-k) (0,.slice none 0 0) ⟨z,Ab _,by rw[C8,BG (Aa _)];exact Vc.Own.nil,by rw[C8,BG (Aa _)];exact Fu.nil⟩ ?_);rintro _ ⟨k,vo⟩ w1 ⟨z,hk1,J,hA⟩;refine go ?_;refine dp (HY rfl rfl) ?_;refine Fk (λc1=>?_) λc1=>?_
 ·obtain⟨r,hk⟩:∃r,l[l.length-1-k]?=some r:=F7;have hf:=Xq8 (seq:=seq) hk;rw[show l.length-1-k+1=l.length-k by omega,show l.length-1-k=l.length-(k+1) by omega]at hf;have xf:=P4 (l.drop (l.length-k)) seq;have hy:=Q7 (l.drop (l.length-k)) seq;rw[Bd]at xf;refine g0 ?_;refine wS (g0 ?_);refine wS (g0 ?_);refine GP (G:=Nat) (λj=>[(0,v),(1,I seq),(4,.slice none 0 0),(5,vo),(6,I (↑l.length-1-↑k)),(7,I ↑j)]) (λj w'=>Fq w w'/\Vc.Own Cell.cs 4 79 w.heap.size w' vo (Gp (l.drop (l.length-k)) seq)/\Fu Cell.cs 4 w' vo (Gp (l.drop (l.length-k)) seq)/\j<=(Gp (l.drop (l.length-k)) seq).length/\(Gp (l.drop (l.length-k)) seq).takeWhile (λx:Cell=>F6 x.key r.key)=(Gp (l.drop (l.length-k)) seq).take j/\(Gp (l.drop (l.length-k)) seq).dropWhile (λx:Cell=>F6 x.key r.key)=(Gp (l.drop (l.length-k)) seq).drop j) ?_ ?_
  ·refine F8 (G:=Nat) (λj=>[(0,v),(1,I seq),(4,.slice none 0 0),(5,vo),(6,I (↑l.length-1-↑k)),(7,I ↑j)]) (λj w'=>Fq w w'/\Vc.Own Cell.cs 4 79 w.heap.size w' vo (Gp (l.drop (l.length-k)) seq)/\Fu Cell.cs 4 w' vo (Gp (l.drop (l.length-k)) seq)/\j<=(Gp (l.drop (l.length-k)) seq).length/\(Gp (l.drop (l.length-k)) seq).takeWhile (λx:Cell=>F6 x.key r.key)=(Gp (l.drop (l.length-k)) seq).take j++((Gp (l.drop (l.length-k)) seq).drop j).takeWhile (λx:Cell=>F6 x.key r.key)/\(Gp (l.drop (l.length-k)) seq).dropWhile (λx:Cell=>F6 x.key r.key)=((Gp (l.drop (l.length-k)) seq).drop j).dropWhile (λx:Cell=>F6 x.key r.key)) (λj=>(Gp (l.drop (l.length-k)) seq).length-j) 0 ⟨z,J,hA,Ab _,rfl,rfl⟩ ?_;rintro _ j w2 ⟨z,J,hA,hj1,ht,hdw⟩;refine Gt 100100001000000000 λw3 x3=>FC x3 J hA z λJ hA z=>?_;refine FM 79 4 hA.sl ?_;refine FJ 20 (λc2=>?_) λc2=>?_
   ·obtain⟨d,hd⟩:∃d,(Gp (l.drop (l.length-k)) seq)[j]?=some d:=F7;refine FN 79 4 hA.sl (hA.lt hd) ?_;refine go ?_;refine dL rfl (λ_ hR=>(((hA.ext hR).row hd).at rfl)) (dm ?_);refine F3 (v:=I ↑(l.length-1-k)) rfl (L8 rfl) FY (di 48 3 hv.sl rfl (hv.lt hk) (go ?_));refine dL rfl (λ_ hR=>(((hv.ext (z.trans hR)).row hk).at rfl)) (dp (MB rfl rfl) ?_);refine Gb (λc3=>?_) λc3=>?_
    ·refine go ?_;refine FL (j+1) ⟨z,J,hA,by omega,?_,?_⟩
     ·rw[ht,(WR hd c3).1,GW hd];simp
     ·rw[hdw,(WR hd c3).2]
    refine go ?_;exact⟨j,HW,z,J,hA,hj1,by rw[ht,(VK hd c3).1,AI],by rw[hdw,(VK hd c3).2]⟩
   refine go ?_;refine GS rfl (go ?_);exact⟨j,HW,z,J,hA,hj1,by rw[ht,(Yz Fe).1,AI],by rw[hdw,(Yz Fe).2]⟩
  rintro _ j w4 ⟨z,J,hA,hj1,ht,hdw⟩;refine Gt 100100001000000000 λw5 x5=>FC x5 J hA z λJ hA z=>?_;refine FM 79 4 hA.sl ?_;refine FJ 39 (λc4=>?_) λc4=>?_
  ·obtain⟨d,hd⟩:∃d,(Gp (l.drop (l.length-k)) seq)[j]?=some d:=F7;refine FN 79 4 hA.sl (hA.lt hd) ?_;refine go ?_;refine dL rfl (λ_ hR=>(((hA.ext hR).row hd).at rfl)) (dm ?_);refine F3 (v:=I ↑(l.length-1-k)) rfl (L8 rfl) FY (di 48 3 hv.sl rfl (hv.lt hk) (go ?_));refine dL rfl (λ_ hR=>(((hv.ext (z.trans hR)).row hk).at rfl)) (dp (KI rfl rfl) ?_);refine Fk (λc5=>?_) λc5=>?_
   ·refine gn ?_;refine F3 (v:=I (↑l.length-1-↑(k+1))) rfl (G7 rfl rfl FH) FY (go ?_);refine FL (k+1,vo) ⟨z,by omega,?_,?_⟩
    ·rw[hf,Ws hd c5];exact J
    ·rw[hf,Ws hd c5];exact hA
   refine go ?_;have ha:=z;have hD:w.heap.size<=w5.heap.size:=z.size;have hg:=hA;have H:=J;have Y:=(hv.ext z);refine HP (R:=Mod (Im w5.heap.size)) (Far.refl _) Far.trans Ff [8] [(1,.p,false),(2,.p,false),(3,.p,false),(5,.p,false),(6,.p,false),(7,.p,false),(8,.l,false),(9,.p,false),(0,.x,false),(4,.x,false),(10,.x,true),(11,.x,false),(12,.x,false),(13,.p,false)] rfl Ff Ff (λw6 hw=>?_);have x6:=FE hw;clear hw;refine FC x6 J hA z λJ hA z=>?_;have hs:Mod (Im w5.heap.size) w5 w6:=Far.of_ext x6;refine go ?_;refine dp (HH (e:=79) (k:=4) Ff hA.sl rfl rfl rfl Fe Fe) (dm ?_);refine F3 (v:=I ↑(l.length-1-k)) rfl (L8 rfl) FY (di 48 3 hv.sl rfl (hv.lt hk) (Gh rfl (λw' hR=>Fx Ff rfl rfl ((Y.far Fo (hs.own hR (λ_ h _=>h))).row hk)) (go ?_)));refine Jx (e:=79) (sz:=4) rfl Ff RX.far (λb1 w7 e1 x7 m1=>?_);have g1:=z.ge e1;have o1_hO:=J.ltb e1;have a1_hA:=Fu.base_lt hA Fo;have gs1:w5.heap.size<=b1:=by have:=hs.size;omega
   refine FQ x7 J hA z hs λJ hA z hs=>?_;have ho:=m1.own (enc:=Cell.cs) (B:=w5.heap.size) (l:=[]) (sz:=4) (m:=0) gs1 rfl Fg rfl (An rfl);refine Ip (e:=79) (sz:=4) (by':=48) rfl Ff Ff Fg ho ((hA).slice (Ab _) hj1) rfl rfl (by intro x _ u hu;simp at hu;rcases hu with rfl|rfl|rfl|rfl<;>rfl) Gx Fo hs.size (.inr (Far.own ho (Aa _))) (λvp w8 O x8=>?_);have hs:=hs.own x8 F5;have J:=J.mod x8 (by intro k9 h9 e9;have h8:=(H.lt k9 h9).2;have h7:=(ho.lt k9 e9).1;omega);have hA:=hA.mod x8 (by intro Z e9;have h8:=(H.lt _ (H.base_block Z)).2;have h7:=(ho.lt _ e9).1;omega);have z:=z.own x8 (λi hi=>(by have h1:=(ho.lt i hi).1;have:=ha.size;omega));have ho:=O;refine cP (SA r seq _) RX.all λw9 x9=>Ga x9 J hA ho z hs λJ hA ho z hs=>lA 79 rfl (λb2 w10 e2 xg m2=>?_) (hR:=RX.far);have g2:=z.ge e2;have o2_hO:=J.ltb e2;have a2_hA:=Fu.base_lt hA Fo;have gs2:w5.heap.size<=b2:=by have:=hs.size;omega
   refine Ga xg J hA ho z hs λJ hA ho z hs=>G8 (r.cell seq) ho m2 (λvq w11 O hh=>?_) (hR:=(.inr (Far.own ho (Aa _))));have hs:=hs.own hh F5;have J:=J.mod hh (by intro k9 h9 e9;have h8:=(H.lt k9 h9).2;have h7:=(ho.lt k9 e9).1;omega);have hA:=hA.mod hh (by intro Z e9;have h8:=(H.lt _ (H.base_block Z)).2;have h7:=(ho.lt _ e9).1;omega);have z:=z.own hh (λi hi=>(by have h1:=(ho.lt i hi).1;have:=ha.size;omega));have ho:=O;clear m2;refine go ?_;clear hs ha hg H Y;refine go ?_;refine dp (HH (e:=79) (k:=4) Ff hA.sl rfl rfl rfl Fe Fe) ?_;have ho:=ho.mono hD;refine Ip (e:=79) (sz:=4) (by':=48) rfl Ff Ff Fg ho ((hA).slice hj1 (Aa _)) rfl rfl (by intro x _ u hu;simp at hu;rcases hu with rfl|rfl|rfl|rfl<;>rfl) Gx Fo z.size (.inl rfl) (λvr xd O h5=>?_);have z:=z.own h5 F5;have ho:=O;refine gn ?_;refine F3 (v:=I (↑l.length-1-↑(k+1))) rfl (G7 rfl rfl FH) FY (go ?_);have hq:Gp (l.drop (l.length-(k+1))) seq=(Gp (l.drop (l.length-k)) seq).take j++[r.cell seq]++(Gp (l.drop (l.length-k)) seq).drop j:=by rw[hf,Xtm hy ht hdw (.inr ⟨d,hd,c5⟩)];simp
   have hc:Vc.Own Cell.cs 4 79 w.heap.size xd vr ((Gp (l.drop (l.length-k)) seq).take j++[r.cell seq]++(Gp (l.drop (l.length-k)) seq).drop j):=by
    have:=ho;simpa using this
   rw[<-hq]at hc;exact FL (k+1,vr) ⟨z,by omega,hc,hc.arr Fg⟩
  refine go ?_;refine GS rfl (go ?_);have ha:=z;have hD:w.heap.size<=w5.heap.size:=z.size;have hg:=hA;have H:=J;have Y:=(hv.ext z);refine HP (R:=Mod (Im w5.heap.size)) (Far.refl _) Far.trans Ff [8] [(1,.p,false),(2,.p,false),(3,.p,false),(5,.p,false),(6,.p,false),(7,.p,false),(8,.l,false),(9,.p,false),(0,.x,false),(4,.x,false),(10,.x,true),(11,.x,false),(12,.x,false),(13,.p,false)] rfl Ff Ff (λxe hp=>?_);have hz:=FE hp;clear hp;refine FC hz J hA z λJ hA z=>?_;have hs:Mod (Im w5.heap.size) w5 xe:=Far.of_ext hz;refine go ?_;refine dp (HH (e:=79) (k:=4) Ff hA.sl rfl rfl rfl Fe Fe) (dm ?_);refine F3 (v:=I ↑(l.length-1-k)) rfl (L8 rfl) FY (di 48 3 hv.sl rfl (hv.lt hk) (Gh rfl (λw' hR=>Fx Ff rfl rfl ((Y.far Fo (hs.own hR (λ_ h _=>h))).row hk)) (go ?_)));refine Jx (e:=79) (sz:=4) rfl Ff RX.far (λb3 w14 e3 h6 m3=>?_);have g3:=z.ge e3;have o3_hO:=J.ltb e3;have a3_hA:=Fu.base_lt hA Fo;have gs3:w5.heap.size<=b3:=by have:=hs.size;omega
  refine FQ h6 J hA z hs λJ hA z hs=>?_;have ho:=m3.own (enc:=Cell.cs) (B:=w5.heap.size) (l:=[]) (sz:=4) (m:=0) gs3 rfl Fg rfl (An rfl);refine Ip (e:=79) (sz:=4) (by':=48) rfl Ff Ff Fg ho ((hA).slice (Ab _) hj1) rfl rfl (by intro x _ u hu;simp at hu;rcases hu with rfl|rfl|rfl|rfl<;>rfl) Gx Fo hs.size (.inr (Far.own ho (Aa _))) (λvp w15 O hj=>?_);have hs:=hs.own hj F5;have J:=J.mod hj (by intro k9 h9 e9;have h8:=(H.lt k9 h9).2;have h7:=(ho.lt k9 e9).1;omega);have hA:=hA.mod hj (by intro Z e9;have h8:=(H.lt _ (H.base_block Z)).2;have h7:=(ho.lt _ e9).1;omega);have z:=z.own hj (λi hi=>(by have h1:=(ho.lt i hi).1;have:=ha.size;omega));have ho:=O;refine cP (SA r seq _) RX.all λw16 xc=>Ga xc J hA ho z hs λJ hA ho z hs=>lA 79 rfl (λb4 w17 e4 xh m4=>?_) (hR:=RX.far);have g4:=z.ge e4;have o4_hO:=J.ltb e4;have a4_hA:=Fu.base_lt hA Fo;have gs4:w5.heap.size<=b4:=by have:=hs.size;omega
  refine Ga xh J hA ho z hs λJ hA ho z hs=>G8 (r.cell seq) ho m4 (λvq w18 O hr=>?_) (hR:=(.inr (Far.own ho (Aa _))));have J:=J.mod hr (by intro k9 h9 e9;have h8:=(H.lt k9 h9).2;have h7:=(ho.lt k9 e9).1;omega);have hA:=hA.mod hr (by intro Z e9;have h8:=(H.lt _ (H.base_block Z)).2;have h7:=(ho.lt _ e9).1;omega);have z:=z.own hr (λi hi=>(by have h1:=(ho.lt i hi).1;have:=ha.size;omega));have ho:=O;clear m4;refine go ?_;clear hs ha hg H Y;refine go ?_;refine dp (HH (e:=79) (k:=4) Ff hA.sl rfl rfl rfl Fe Fe) ?_;have ho:=ho.mono hD;refine Ip (e:=79) (sz:=4) (by':=48) rfl Ff Ff Fg ho ((hA).slice hj1 (Aa _)) rfl rfl (by intro x _ u hu;simp at hu;rcases hu with rfl|rfl|rfl|rfl<;>rfl) Gx Fo z.size (.inl rfl) (λvr xb O xa=>?_);have z:=z.own xa F5;have ho:=O;refine gn ?_;refine F3 (v:=I (↑l.length-1-↑(k+1))) rfl (G7 rfl rfl FH) FY (go ?_);have hq:Gp (l.drop (l.length-(k+1))) seq=(Gp (l.drop (l.length-k)) seq).take j++[r.cell seq]++(Gp (l.drop (l.length-k)) seq).drop j:=by rw[hf,Xtm hy ht hdw (.inl Fe)];simp
  have hc:Vc.Own Cell.cs 4 79 w.heap.size xb vr ((Gp (l.drop (l.length-k)) seq).take j++[r.cell seq]++(Gp (l.drop (l.length-k)) seq).drop j):=by
   have:=ho;simpa using this
  rw[<-hq]at hc;exact FL (k+1,vr) ⟨z,by omega,hc,hc.arr Fg⟩
 refine go ?_;rw[show k=l.length by omega,Nat.sub_self,List.drop_zero]at J;exact⟨_,rfl,z,J⟩
def Ru (p:Fj)(v:Value)(w:World)(hv:Fu Fs 1 w v p)(hl:p.length<=10000000000000) :
  Gi 207 [v] w λu w'=>∃vb e l,u=.tuple #[vb,I e]/\Vc.Own Fs 1 5 w.heap.size w' vb l/\l.length<=p.length+12:=by
 refine cE Tryz.func207 λz=>FM 5 1 (hv.ext z).sl ?_;refine Fk (λc1=>?_) λc1=>?_
 ·refine go ?_;exact⟨_,rfl,z,_,_,[],rfl,Vc.Own.nil,Ab _⟩
 refine FM 5 1 (hv.ext z).sl ?_;refine dp (Pi (n:=p.length) rfl Ff Ff) (cG (SP (AJ p.length) _) RX.all λv1 w1 x1 Z=>?_);have J:=z.size;have z:=z.trans x1;have ho:=Z.mono J;have hfl:=NG (AJ p.length);refine Gj (Xz _ v1 _ (ho.arr Fg) Fe) λu2 w2 x2 O=>?_;have hsz2:=z.size;refine Fy x2 ho z λho z=>?_;obtain⟨s1,rfl⟩:=O;have hs1:=NG s1;refine cG (SP s1 _) RX.all λv2 w3 x3 hq=>?_;have hsz3:=z.size;refine Fy x3 ho z λho z=>Ht ho (hq.arr Fg) λv3 w4 H x4=>?_;have z:=z.own x4 F5;have ho:=H;refine go ?_;refine Ht ho (hv.ext z) λv4 w5 H x5=>?_;have z:=z.own x5 F5;have ho:=H;refine Gj (Xz _ v4 _ (ho.arr Fg) Gx) λu6 w6 x6 Y=>?_;have hsz6:=z.size;refine Fy x6 ho z λho z=>?_;obtain⟨s2,rfl⟩:=Y;have hs2:=NG s2;refine cG (SP s2 _) RX.all λv5 w7 x7 hq=>?_;have hsz7:=z.size;refine Fy x7 ho z λho z=>Ht ho (hq.arr Fg) λv6 w8 H x8=>?_;have z:=z.own x8 F5;have ho:=H;refine go ?_;exact⟨_,rfl,z,_,_,_,rfl,ho,by simp;omega⟩
def Xzn (l:List Rw)(v:Value)(w:World)(hv:Fu Rw.cs 3 w v l)(hl:l.length<=100000)(hks:∀r∈l,r.key.length<=1000000/\r.val.length<=1000000) :
  Gi 134 [v] w λu w'=>∃vb,u=.tuple #[vb,I (I4 l)]/\Vc.Own Fs 1 5 w.heap.size w' vb (if I4 l=0 then G2 l else[]):=by
 refine cE Tryz.func134 λz=>?_;have hn0:=Gk 0;have hn1:=Gk 1;have hnn:=Gk l.length;refine Gs (X2k l v _ (hv.ext z) Fe (λr hr=>by have:=hks r hr;omega)) λw1 x1=>?_;have z:=z.trans x1;refine Fk (λc1=>?_) λc1=>?_
 ·refine go ?_;rw[if_neg c1];exact⟨_,rfl,z,_,rfl,Vc.Own.nil⟩
 have hE:I4 l=0:=AF c1;obtain⟨hl1,hl2,hz,O⟩:=O7 hE;refine FM 48 3 (hv.ext z).sl ?_;refine cG (MF l.length _ Fe) RX.all λv1 w2 x2 hf=>?_;have Y:=z.size;have z:=z.trans x2;have ho:=hf.mono Y;refine F8 (G:=Nat×Value) (λ(k,vc)=>[(0,v),(2,.slice none 0 0),(3,I 0),(5,vc),(6,I ↑k)]) (λ(k,vc) w'=>Fq w w'/\k<=l.length/\Vc.Own Fs 1 5 w.heap.size w' vc (F4 l.length++(l.take k).flatMap Hi)) (λ(k,vc)=>l.length-k) (0,v1) ⟨z,Ab _,by simpa using ho⟩ ?_;rintro _ ⟨k,vc⟩ w3 ⟨z,hk1,ho⟩;refine FM 48 3 (hv.ext z).sl ?_;refine Fk (λc2=>?_) λc2=>?_
 ·obtain⟨r,hk⟩:∃r,l[k]?=some r:=F7;have hrs:=Pd (O r (Ag hk));have hbl:=Sa l k;have hr1:(FA r.key).length<=10+r.key.length:=by unfold FA;have:=Gk r.key.length;simp;omega
  have hr2:(FA r.val).length<=10+r.val.length:=by unfold FA;have:=Gk r.val.length;simp;omega
  refine gw ?_;refine Ka [.p,.p,.p,.p,.p,.l,.x,.x,.x,.p] rfl (FN 48 3 hv.sl (hv.lt hk) ?_);refine go ?_;refine dl rfl (((hv.ext z).row hk).at rfl) (KF (e:=5) rfl Ff Ff Ff rfl RX.all (λb1 cap1 w4 e1 x4 ha=>?_));have g1:=z.ge e1;have o1_ho:=ho.ltb e1;refine Fy x4 ho z λho z=>cG (Nu r.key _ _ ha Fe) RX.all λvq w5 x5 J=>?_;have hsz5:=z.size;refine Fy x5 ho z λho z=>Ht ho (J.arr Fg) (λv2 w6 H x6=>?_) (hb:=(by simp only [Ad];omega));have z:=z.own x6 F5;have ho:=H;refine FN 48 3 hv.sl (hv.lt hk) ?_;refine go ?_;refine dl rfl (((hv.ext z).row hk).at rfl) ?_;refine Gb (λc3=>?_) λc3=>?_
  ·refine Gj (MF 1 _ Fe) λvn w7 x7 J=>?_;have hsz7:=z.size;refine Fy x7 ho z λho z=>Ht ho (J.arr Fg) (λv3 w8 H x8=>?_) (hb:=(by simp only [Ad];omega));have z:=z.own x8 F5;have ho:=H;refine go ?_;refine FL (k+1,v3) ⟨z,by omega,?_⟩;rw[Ri hk,show Hi r=FA r.key++(if r.del then F4 1 else F4 0++FA r.val) from rfl,c3];simpa only [A6,AI,if_true,if_false,Cq]using ho
  refine Gj (MF 0 _ Fe) λvn w9 x9 J=>?_;have hsz9:=z.size;refine Fy x9 ho z λho z=>Ht ho (J.arr Fg) (λv4 w10 H hh=>?_) (hb:=(by simp only [Ad];omega));have z:=z.own hh F5;have ho:=H;refine gw ?_;refine Ka [.p,.p,.p,.p,.p,.l,.x,.x,.x,.p] rfl (FN 48 3 hv.sl (hv.lt hk) ?_);refine go ?_;refine dl rfl (((hv.ext z).row hk).at rfl) (KF (e:=5) rfl Ff Ff Ff rfl RX.all (λb2 cap2 w11 e2 hc hg=>?_));have g2:=z.ge e2;have o2_ho:=ho.ltb e2;refine Fy hc ho z λho z=>cG (Nu r.val _ _ hg Fe) RX.all λvq w12 Z J=>?_;have hsz12:=z.size;refine Fy Z ho z λho z=>Ht ho (J.arr Fg) (λv5 w13 H hj=>?_) (hb:=(by simp only [Ad];omega));have z:=z.own hj F5;have ho:=H;refine go ?_;refine FL (k+1,v5) ⟨z,by omega,?_⟩;rw[Ri hk,show Hi r=FA r.key++(if r.del then F4 1 else F4 0++FA r.val) from rfl,c3];simpa only [A6,AI,if_true,if_false,Cq]using ho
 refine go ?_;rw[show k=l.length by omega,AT]at ho;rw[if_pos hE,hE];exact⟨_,rfl,z,_,rfl,ho⟩
def Nv (n:Int)(w:World)(h0:0<=n)(hn:n<=4611686018427387904):Calls Tryz.prog 205 [I n].toArray w (Hb w (λu w'=>∃r,Vc.Own Fs 1 5 w.heap.size w' u r/\r.length<=10)):=by
 obtain⟨m,rfl⟩:∃m:Nat,n=m:=⟨n.toNat,by omega⟩;refine(MF m w Fe).mono ?_;rintro e w' ⟨v,he,hx,ho⟩;exact⟨v,he,hx,_,ho,Gk _⟩
def P9 (p:Fj)(v:Value)(w:World)(hv:Fu Fs 1 w v p)(hl:p.length<=10000000000000):Calls Tryz.prog 206 [v].toArray w (Hb w (λu w'=>∃r,Vc.Own Fs 1 5 w.heap.size w' u r/\r.length<=p.length+10)):=by
 refine(Nu p v w hv hl).mono ?_;rintro e w' ⟨u,he,hx,ho⟩;refine⟨u,he,hx,_,ho,?_⟩;have:=Gk p.length;unfold FA;rw[Ad];omega
def MQ {c:Cell}(h:Gl c=true):c.key.length<=4096/\c.val.length<=16384/\1<=c.seq/\c.seq<=1099511627776:=by
 have h1:=KH h;exact⟨h1.1,h1.2.1,h1.2.2.2.1,h1.2.2.2.2.1⟩
def Xzo (l:List Cell)(v:Value)(w:World)(hv:Fu Cell.cs 4 w v l)(hl:l.length<=1000000000000) :
  Gi 277 [v] w λu _=>∃e:Int,u=I e/\(e=0->∀c∈l,Gl c=true):=by
 refine cE Tryz.func277 λz=>F8 (G:=Nat) (λk=>[(0,v),(3,I ↑k)]) (λk w'=>Fq w w'/\k<=l.length/\∀c∈l.take k,Gl c=true) (λk=>l.length-k) 0 ⟨z,Ab _,λc O=>(by cases O)⟩ ?_;rintro _ k w1 ⟨z,hk1,hA⟩;refine FM 79 4 (hv.ext z).sl ?_;refine Fk (λY=>?_) λY=>?_
 ·obtain⟨c,hk⟩:∃c,l[k]?=some c:=F7;refine FN 79 4 hv.sl (hv.lt hk) ?_;refine dq (Fx Ff rfl rfl ((hv.ext z).row hk)) (cP (RH c _) RX.all λw2 x2=>?_);have z:=z.trans x2;refine Gb (λJ=>?_) λJ=>?_
  ·refine go ?_;exact⟨_,rfl,z,1,rfl,λe=>(by cases e)⟩
  refine go ?_;exact⟨k+1,L9,⟨z,by omega,λx H=>by
   rw[GW hk]at H;rcases Al.1 H with h9|h9
   ·exact hA x h9
   ·rw[Af.1 h9];simpa using J⟩,by omega⟩
 refine F8 (G:=Nat) (λk=>[(0,v),(4,I ↑k)]) (λk w'=>Fq w w'/\1<=k) (λk=>l.length-k) 1 ⟨z,Aa _⟩ ?_;rintro _ k w3 ⟨z,hk2⟩;refine FM 79 4 (hv.ext z).sl ?_;refine Fk (λc3=>?_) λc3=>?_
 ·obtain⟨c,hk⟩:∃c,l[k]?=some c:=F7;obtain⟨d,hkd⟩:∃d,l[k-1]?=some d:=F7;refine Gt 105100010000 λw4 x4=>?_;have z:=z.trans x4;refine gn ?_;refine F3 (v:=I ↑(k-1)) rfl (G7 rfl rfl FH) FY (di 79 4 hv.sl rfl (hv.lt hkd) (Gh rfl (λw' hR=>Fx Ff rfl rfl ((hv.ext (z.trans hR)).row hkd)) (FN 79 4 hv.sl (hv.lt hk) ?_)));refine Gh rfl (λw' hR=>Fx Ff rfl rfl ((hv.ext (z.trans hR)).row hk)) (cP (Rz d c _) RX.all λw5 x5=>?_);have z:=z.trans x5;refine Gb (λZ=>?_) λZ=>?_
  ·refine go ?_;exact⟨_,rfl,z,11,rfl,λe=>(by cases e)⟩
  refine go ?_;exact FL (k+1) ⟨z,by omega⟩
 refine go ?_;rw[Av Fe]at hA;exact⟨_,rfl,z,0,rfl,λ_=>hA⟩
def Xzp (a b:Fj)(w:World)(ha:a.length<=1000000000)(hb:b.length<=1000000000) :
  Gi 318 [S a,S b] w λu _=>∃n:Nat,u=I ↑n/\n<=b.length:=by
 refine cE Tryz.func318 λz=>F8 (G:=Nat) (λk=>[(0,S a),(1,S b),(4,I 0),(5,I ↑k)]) (λk w'=>Fq w w'/\k<=b.length) (λk=>b.length-k) 0 ⟨z,Ab _⟩ ?_;rintro _ k w1 ⟨z,hk1⟩;refine Gt 10000000000000000000 λw2 Y=>?_;have z:=z.trans Y;refine FJ 10 (λJ=>?_) λJ=>?_
 ·refine FJ 16 (λH=>?_) λH=>?_
  ·obtain⟨x,hka⟩:∃x,a[k]?=some x:=F7;obtain⟨y,hkb⟩:∃y,b[k]?=some y:=F7;refine go ?_;refine dp (PY Ff rfl rfl hka) (go ?_);refine dp (PY Ff rfl rfl hkb) (dp (QG rfl rfl) ?_);refine Fk (λO=>?_) λO=>?_
   ·refine go ?_;exact FL (k+1) ⟨z,by omega⟩
   refine go ?_;exact⟨_,rfl,z,k,rfl,hk1⟩
  refine go ?_;refine GS rfl (go ?_);exact⟨_,rfl,z,k,rfl,hk1⟩
 refine go ?_;refine GS rfl (go ?_);exact⟨_,rfl,z,k,rfl,hk1⟩
def X8w (l:List Cell)(v:Value)(w:World)(hv:Fu Cell.cs 4 w v l)(hl:l.length<=5000) :
  Gi 279 [v] w λu w'=>∃vb e bs,u=.tuple #[vb,I e]/\Vc.Own Fs 1 5 w.heap.size w' vb bs/\bs.length<=l.length*30000:=by
 refine cE Tryz.func279 λz=>Gj (Xzo l v _ (hv.ext z) Fe) λu1 w1 x1 xd=>?_;have hsz1:=z.size;have z:=z.trans x1;obtain⟨e9,rfl,xg⟩:=xd;refine Fk (λc1=>?_) λc1=>?_
 ·refine go ?_;exact⟨_,rfl,z,_,_,[],rfl,Vc.Own.nil,Ab _⟩
 have ha:=xg (AF c1);refine F8 (G:=Nat×Value×Fj) (λ(k,vc,bs)=>[(0,v),(2,.slice none 0 0),(3,I 0),(5,vc),(6,I ↑k)]) (λ(k,vc,bs) w'=>Fq w w'/\k<=l.length/\bs.length<=k*30000/\Vc.Own Fs 1 5 w.heap.size w' vc bs) (λ(k,vc,bs)=>l.length-k) (0,.slice none 0 0,[]) ⟨z,Ab _,Aa _,Vc.Own.nil⟩ ?_;rintro _ ⟨k,vc,bs⟩ w2 ⟨z,hk1,hbz,ho⟩;refine FM 79 4 (hv.ext z).sl ?_;refine Fk (λc2=>?_) λc2=>?_
 ·obtain⟨c,hk⟩:∃c,l[k]?=some c:=F7;obtain⟨hb1,hb2,hb3,hb4⟩:=MQ (ha c (Ag hk));refine g0 ?_;refine wS (g0 ?_);refine wS (g0 ?_);refine GP (G:=Nat) (λq=>[(0,v),(2,.slice none 0 0),(3,I 0),(5,vc),(6,I ↑k),(7,I ↑q)]) (λq w'=>Fq w w'/\Vc.Own Fs 1 5 w.heap.size w' vc bs/\q<=c.key.length) ?_ ?_
  ·refine go ?_;refine F3 (v:=I ↑(k % 4)) rfl (NJ rfl rfl Fe Fo) FY ?_;refine Fk (λc3=>?_) λc3=>?_
   ·obtain⟨d,hkd⟩:∃d,l[k-1]?=some d:=F7;have hbd:=MQ (ha d (Ag hkd));refine wd 10510000100000 λw3 x3=>Fy x3 ho z λho z=>gn ?_;refine F3 (v:=I ↑(k-1)) rfl (G7 rfl rfl FH) FY (di 79 4 hv.sl rfl (hv.lt hkd) (go ?_));refine dL rfl (λ_ hR=>(((hv.ext (z.trans hR)).row hkd).at rfl)) (FN 79 4 hv.sl (hv.lt hk) ?_);refine go ?_;refine dL rfl (λ_ hR=>(((hv.ext (z.trans hR)).row hk).at rfl)) (cG (Xzp d.key c.key _ Fe Fe) RX.all λu4 w4 x4 h7=>?_);have hsz4:=z.size;refine Fy x4 ho z λho z=>?_;obtain⟨q,rfl,h8⟩:=h7;refine go ?_;exact⟨q,HW,z,ho,h8⟩
   refine go ?_;exact⟨0,HW,z,ho,Ab _⟩
  rintro _ q w5 ⟨z,ho,hqc⟩;refine Gj (Nv (↑q) _ Fe Fe) λvq w6 x6 hr=>?_;have hsz6:=z.size;refine Fy x6 ho z λho z=>?_;obtain⟨Y,Z,O⟩:=hr;refine Ht ho (Z.arr Fg) λv1 w7 H x7=>?_;have z:=z.own x7 F5;have ho:=H;obtain⟨bs,hbx⟩:∃bx,bx=bs++Y:=⟨_,rfl⟩;rw[<-hbx]at ho;have J:=congrArg A9 hbx;rw[Ad]at J;refine gw ?_;refine Ka [.p,.p,.p,.p,.p,.l,.p,.p,.x,.x,.x,.p] rfl (FN 79 4 hv.sl (hv.lt hk) ?_);refine go ?_;refine dl rfl (((hv.ext z).row hk).at rfl) (go ?_);refine dpw (SV Ff rfl rfl rfl hqc (Aa _)) ?_;refine KF (e:=5) rfl Ff Ff Ff rfl RX.all (λb1 cap1 w8 e1 x8 xa=>?_);have g1:=z.ge e1;have o1_ho:=ho.ltb e1;refine Fy x8 ho z λho z=>cG (P9 _ _ _ xa (by simp;omega)) RX.all λvq w9 x9 hj=>?_;have hsz9:=z.size;refine Fy x9 ho z λho z=>?_;obtain⟨Y,Z,O⟩:=hj;have h6:Y.length<=c.key.length+10:=by simp only [Bd,AE]at O;omega
  refine Ht ho (Z.arr Fg) λv2 w10 H xc=>?_;have z:=z.own xc F5;have ho:=H;obtain⟨bs,hbx⟩:∃bx,bx=bs++Y:=⟨_,rfl⟩;rw[<-hbx]at ho;have J:=congrArg A9 hbx;rw[Ad]at J;refine FN 79 4 hv.sl (hv.lt hk) ?_;refine go ?_;refine dl rfl (((hv.ext z).row hk).at rfl) (cG (Nv c.seq _ Fe Fe) RX.all λvq w11 hy hh=>?_);have hsz11:=z.size;refine Fy hy ho z λho z=>?_;obtain⟨Y,Z,O⟩:=hh;refine Ht ho (Z.arr Fg) λv3 w12 H hp=>?_;have z:=z.own hp F5;have ho:=H;obtain⟨bs,hbx⟩:∃bx,bx=bs++Y:=⟨_,rfl⟩;rw[<-hbx]at ho;have J:=congrArg A9 hbx;rw[Ad]at J;refine FN 79 4 hv.sl (hv.lt hk) ?_;refine go ?_;refine dl rfl (((hv.ext z).row hk).at rfl) ?_;refine Gb (λc4=>?_) λc4=>?_
  ·refine Gj (Nv 1 _ Fe Fe) λvq w13 xe hc=>?_;have hsz13:=z.size;refine Fy xe ho z λho z=>?_;obtain⟨Y,Z,O⟩:=hc;refine Ht ho (Z.arr Fg) λv4 w14 H ht=>?_;have z:=z.own ht F5;have ho:=H;obtain⟨bs,hbx⟩:∃bx,bx=bs++Y:=⟨_,rfl⟩;rw[<-hbx]at ho;have J:=congrArg A9 hbx;rw[Ad]at J;refine go ?_;exact⟨(k+1,v4,_),Hc,⟨z,by omega,by omega,ho⟩,by simp only [];omega⟩
  refine Gj (Nv 0 _ Fe Fe) λvq w15 hw hf=>?_;have hsz15:=z.size;refine Fy hw ho z λho z=>?_;obtain⟨Y,Z,O⟩:=hf;refine Ht ho (Z.arr Fg) λv5 w16 H h9=>?_;have z:=z.own h9 F5;have ho:=H;obtain⟨bs,hbx⟩:∃bx,bx=bs++Y:=⟨_,rfl⟩;rw[<-hbx]at ho;have J:=congrArg A9 hbx;rw[Ad]at J;refine gw ?_;refine Ka [.p,.p,.p,.p,.p,.l,.x,.x,.x,.p] rfl (FN 79 4 hv.sl (hv.lt hk) ?_);refine go ?_;refine dl rfl (((hv.ext z).row hk).at rfl) (KF (e:=5) rfl Ff Ff Ff rfl RX.all (λb2 cap2 w17 e2 xf h5=>?_));have g2:=z.ge e2;have o2_ho:=ho.ltb e2;refine Fy xf ho z λho z=>cG (P9 _ _ _ h5 (by omega)) RX.all λvq w18 xb hg=>?_;have hsz18:=z.size;refine Fy xb ho z λho z=>?_;obtain⟨Y,Z,O⟩:=hg;have h6:Y.length<=c.val.length+10:=by omega
  refine Ht ho (Z.arr Fg) λv6 w19 H hz=>?_;have z:=z.own hz F5;have ho:=H;obtain⟨bs,hbx⟩:∃bx,bx=bs++Y:=⟨_,rfl⟩;rw[<-hbx]at ho;have J:=congrArg A9 hbx;rw[Ad]at J;refine go ?_;exact⟨(k+1,v6,_),Hc,⟨z,by omega,by omega,ho⟩,by simp only [];omega⟩
 refine go ?_;exact⟨_,rfl,z,_,_,bs,rfl,ho,by omega⟩
section
variable {P:Program}{E:FF}{dd:Option Tmp}{ty:TypeId}{pos:String}{af:Array Edge}{g:Option (Nat×Bool)}{x y:Operand}{T U:TypeId}
def X8x {a:UInt32}{n:Nat}(h0:0<n)(hn:n<4294967296)(hx:ev E x=Hh a)(hy:ev E y=Hh (AJ n)):PV P ⟨dd,.binOp .rem T x y U,ty,pos,af,g⟩ E (.int .u32 ((a.toNat % n:Nat):Int)):=by
 have e:(AJ n).toNat=n:=by rw[UInt32.toNat_ofNat'];exact Nat.mod_eq_of_lt hn
 have:=NJ (P:=P) (dd:=dd) (ty:=ty) (pos:=pos) (af:=af) (g:=g) (T:=T) (U:=U) hx hy Fe (by rw[e];omega);rwa [e,show((a.toNat:Nat):Int) % (n:Int)=((a.toNat % n:Nat):Int) by omega]at this
def Yb7 {n:Nat}(hn:n<4294967296)(hx:ev E x=.int .u32 (n:Int))(hT:(P.underlying T).isSome=true)(hU:Ic P U=some .i64):PV P ⟨dd,.convert T U x,ty,pos,af,g⟩ E (I ↑n):=by
 have:=Kf (P:=P) (d:=dd) (ty:=ty) (pos:=pos) (af:=af) (g:=g) hx hT hU;rwa [Lj FH]at this
end
def Nq {a:Nat}(h:a<=9223372036854775807):IntKind.i64.wrap ((a:Int) / 8)=((a / 8:Nat):Int):=by rw[Lj FH];omega
@[reducible] def JV (q:Value×List Cell):List Value:=[q.1]
structure RcE (B:Nat)(qs:List (Value×List Cell))(w:World):Prop where
 row:∀q∈qs,Vc.Own Cell.cs 4 79 B w q.1 q.2
section
variable {B B':Nat}{qs:List (Value×List Cell)}{S:Nat->Prop}{w w':World}
def RcE.ext (h:RcE B qs w)(x:Fq w w'):RcE B qs w':=⟨λq z=>(h.row q z).ext x⟩
instance : Up w w' (RcE B qs w) (RcE B qs w'):=⟨λx h=>h.ext x⟩
def RcE.mod (h:RcE B qs w)(m:Vc.Mod S w w')(hS:∀q∈qs,∀k,q.1.ownBlock=some k->¬ S k):RcE B qs w':=⟨λq z=>(h.row q z).mod m (hS q z)⟩
def RcE.ne {α:Type}{enc:α->List Value}{sz T:Nat}{v:Value}{l:List α}(h:RcE B qs w)(ho:Vc.Own enc sz T B' w v l)(hT:AM 79 T=false):∀q∈qs,∀k,q.1.ownBlock=some k->¬ v.ownBlock=some k:=λq z k hk=>(h.row q z).ne ho hT hk
def RcE.snoc {v:Value}{l:List Cell}(h:RcE B qs w)(ho:Vc.Own Cell.cs 4 79 B w v l):RcE B (qs++[(v,l)]) w:=⟨λq z=>(Al.1 z).elim (h.row q) (λe=>by rw[Af.1 e];exact ho)⟩
def RcE.lt (h:RcE B qs w):∀q∈qs,∀k,q.1.ownBlock=some k->B<=k/\k<w.heap.size:=λq z k hk=>(h.row q z).lt k hk
end
def Jf (l:List Cell)(qs:List (Value×List Cell)):Prop:=∀q∈qs,q.2≠[]/\q.2.length<=l.length/\∀c∈q.2,c∈l
def Jf.snoc {l:List Cell}{qs:List (Value×List Cell)}{v:Value}{s:List Cell}(h:Jf l qs)(h1:s≠[])(h2:s.length<=l.length)(h3:∀c∈s,c∈l):Jf l (qs++[(v,s)]):=λq z=>(Al.1 z).elim (h q) (λe=>by rw[Af.1 e];exact⟨h1,h2,h3⟩)
def X8y (s:Fj)(w:World)(hs:s.length<=1000000000) :
  Gi 334 [S s] w λu _=>∃h:UInt32,u=Hh h:=by
 refine cE Tryz.func334 λz=>F8 (G:=Nat×UInt32) (λ(k,h)=>[(0,S s),(2,.int .u32 0),(3,Hh h),(4,I ↑k)]) (λ(k,h) w'=>Fq w w'/\k<=s.length) (λ(k,h)=>s.length-k) (0,2166136261) ⟨z,Ab _⟩ ?_;rintro _ ⟨k,h⟩ w1 ⟨z,hk1⟩;refine Fk (λH=>?_) λH=>?_
 ·obtain⟨c,hk⟩:∃c,s[k]?=some c:=F7;refine go ?_;refine dp (PY Ff rfl rfl hk) (dp (Nn rfl Ff Ff) (dp (Om rfl rfl) (dp (Qk (b:=16777619) rfl rfl) (go ?_))));exact⟨(k+1,_),Hn,⟨z,by omega⟩,by simp only [];omega⟩
 refine go ?_;exact⟨_,rfl,z,h,rfl⟩
def Yb8 (s:Fj)(i n:Nat)(w:World)(hs:s.length<=1000000000)(h0:0<n)(hn:n<4294967296) :
  Gi 319 [S s,I ↑i,I ↑n] w λu _=>∃q:Nat,u=I ↑q/\q<n:=by
 refine cE Tryz.func319 λz=>Gj (X8y s _ hs) λu1 w1 J H=>?_;have hsz1:=z.size;have z:=z.trans J;obtain⟨h,rfl⟩:=H;refine go ?_;refine dp (LN (b:=17) Fo rfl rfl) (go ?_);refine dp (Py (b:=15) Fo rfl rfl) (dp (Pf rfl rfl) (go ?_));refine dp (Pi rfl Ff Ff) (go ?_);refine dp (Qk rfl rfl) (dp (Wm rfl rfl) (go ?_));refine dp (Pi rfl Ff Ff) (dp (X8x h0 hn rfl rfl) (dp (Yb7 (Nat.lt_trans (Bf _ h0) hn) rfl Ff Ff) (go ?_)));exact⟨_,rfl,z,_,rfl,Bf _ h0⟩
def X8z (l:List Fj)(v:Value)(w:World)(hv:Fu GF 1 w v l)(hl:l.length<=1000000)(hs:∀s∈l,s.length<=1000000000) :
  Gi 280 [v] w λu w'=>∃bs,Vc.Own Fs 1 5 w.heap.size w' u bs/\bs.length<=8+2*l.length:=by
 refine cE Tryz.func280 λH=>?_;obtain⟨N9,hN9⟩:∃z,z=max 8 ((10*l.length+7) / 8):=⟨_,rfl⟩;have hn1:8<=N9/\N9<=8+2*l.length:=by omega
 refine FM 9 1 (hv.ext H).sl ?_;refine F3 (v:=I ↑(10*l.length)) rfl (Ks rfl rfl FH) FY (F3 (v:=I ↑(10*l.length+7)) rfl (GK rfl rfl FH) FY (F3 (v:=I ↑((10*l.length+7) / 8)) rfl (QA rfl rfl Fe Fo) (by show I _=I _;rw[Nq Fe]) (F3 (v:=I ↑N9) rfl (U7 rfl rfl) (by show I _=I _;rw[hN9]) (Mu (e:=5) (sz:=1) (by':=1) (zs:=[.int .u8 0]) rfl Ff Ff Ff rfl rfl Fe Fe RX.all (λb1 w1 e1 Z m1=>?_)))));have g1:=H.ge e1;have H:=H.trans Z;refine F8 (G:=Nat×Fj) (λ(k,b)=>[(0,v),(2,.slice none 0 0),(3,.slice (some ⟨b1,0,none⟩) N9 N9),(4,I ↑k)]) (λ(k,b) w'=>Fq w w'/\k<=l.length/\b.length=N9/\Vc.Own Fs 1 5 w.heap.size w' (.slice (some ⟨b1,0,none⟩) N9 N9) b) (λ(k,b)=>l.length-k) (0,Ap N9 0) ⟨H,Ab _,List.length_replicate,m1.own (enc:=Fs) (sz:=1) (l:=Ap N9 0) g1 (YP _) Fg F0 Gx⟩ ?_;rintro _ ⟨k,b⟩ w2 ⟨H,hk1,hbl,ho⟩;refine FM 9 1 (hv.ext H).sl ?_;refine Fk (λY=>?_) λY=>?_
 ·obtain⟨s,hk⟩:∃s,l[k]?=some s:=F7;refine F8 (G:=Nat×Fj) (λ(j,b)=>[(0,v),(2,.slice none 0 0),(3,.slice (some ⟨b1,0,none⟩) N9 N9),(4,I ↑k),(5,I ↑j)]) (λ(j,b) w'=>Fq w w'/\j<=6/\b.length=N9/\Vc.Own Fs 1 5 w.heap.size w' (.slice (some ⟨b1,0,none⟩) N9 N9) b) (λ(j,b)=>6-j) (0,b) ⟨H,Ab _,hbl,ho⟩ ?_;rintro _ ⟨j,b⟩ w3 ⟨H,hj1,hbl,ho⟩;refine Fk (λc2=>?_) λc2=>?_
  ·refine FN 9 1 hv.sl (hv.lt hk) ?_;refine dl rfl (((hv.ext H).row hk).at0 rfl) (go ?_);refine dv 5 1 (ho.arr Fg).sl (F3 (v:=I ↑(8*N9)) rfl (Ks rfl rfl FH) FY (cG (Yb8 s j (8*N9) _ (hs s (Ag hk)) Fe Fe) RX.all λu4 w4 x4 O=>?_));have hsz4:=H.size;refine Fy x4 ho H λho H=>?_;obtain⟨q,rfl,hq⟩:=O;obtain⟨c,hc⟩:∃c,b[q / 8]?=some c:=F7;refine go ?_;refine F3 (v:=I ↑(q / 8)) rfl (QA rfl rfl Fe Fo) (by show I _=I _;rw[Nq Fe]) (go ?_);refine F3 (v:=I ↑(q / 8)) rfl (QA rfl rfl Fe Fo) (by show I _=I _;rw[Nq Fe]) (di 5 1 (ho.arr Fg).sl rfl ((ho.arr Fg).lt hc) (dl rfl (((ho.arr Fg).row hc).at0 rfl) (go ?_)));refine F3 (v:=I ↑(q % 8)) rfl (NJ rfl rfl Fe Fo) FY (dp (Lq Fe rfl Ff Ff) (dp (RF rfl rfl) (dp (PZ rfl rfl) (F3 (v:=Fh b1 (q / 8*1+0)) rfl (Ir (e:=5) (k:=1) Ff ho.sl rfl rfl Fe) (by show Fh b1 (0+q / 8*1)=_;rw[A5];rfl) (Ie (enc:=Fs) (sz:=1) (i:=q / 8) (j:=0) (x:=c ||| Jl q) (vs:=[b8 (c ||| Jl q)]) Fg rfl ho rfl rfl rfl Ff Fe rfl (Aa 1) (by intro v hv;rw[Af.1 hv];rfl) (.inl rfl) (λw5 x5 xs5 J=>?_))))));have H:=H.own x5 F5;have ho:=J;refine go ?_;exact⟨(j+1,_),Hc,⟨H,by omega,by rw[AB];exact hbl,ho⟩,by simp only [];omega⟩
  refine go ?_;exact FL (k+1,b) ⟨H,by omega,hbl,ho⟩
 refine go ?_;exact⟨_,rfl,H,b,ho,by omega⟩
def Xzq (l:List Cell)(v:Value)(w:World)(hv:Fu Cell.cs 4 w v l)(hl:l.length<=1000000000000)(hs:∀c∈l,c.key.length<=1000000/\c.val.length<=1000000) :
  Gi 216 [v] w λu w'=>∃qs,Vc.Own JV 1 95 w.heap.size w' u qs/\RcE w.heap.size qs w'/\Jf l qs/\qs.length<=l.length:=by
 refine cE Tryz.func216 λH=>F8 (G:=Nat×Nat×Value×List Cell×Value×List (Value×List Cell)×Nat) (λ(k,N,vn,m,vq,qs,z)=>[(0,v),(2,.slice none 0 0),(3,vq),(4,vn),(5,I ↑z),(6,I ↑k)]) (λ(k,N,vn,m,vq,qs,z) w'=>Fq w w'/\k<=l.length/\qs.length+m.length<=k/\m.length<=k/\z<=m.length*3000000/\(∀c∈m,c∈l)/\Jf l qs/\(∀q∈qs,∀k,q.1.ownBlock=some k->k<N)/\w.heap.size<=N/\Vc.Own JV 1 95 w.heap.size w' vq qs/\Vc.Own Cell.cs 4 79 N w' vn m/\RcE w.heap.size qs w'/\Sz N w') (λ(k,N,vn,m,vq,qs,z)=>l.length-k) (0,w.heap.size,.slice none 0 0,[],.slice none 0 0,[],0) ⟨H,Ab _,Aa _,Aa _,Aa _,λc hc=>(by cases hc),λq hq=>(by cases hq),λq hq=>(by cases hq),Aa _,Vc.Own.nil,Vc.Own.nil,⟨λq hq=>(by cases hq)⟩,⟨H.size⟩⟩ ?_;rintro _ ⟨k,N,vn,m,vq,qs,z⟩ w1 ⟨H,hk1,hql,hml,hzl,hm,hsg,hqlt,hwN,ho,hn,J,O⟩;refine FM 79 4 (hv.ext H).sl ?_;refine Fk (λc1=>?_) λc1=>?_
 ·obtain⟨c,hk⟩:∃c,l[k]?=some c:=F7;have hh:=Ag hk;have hsc:=hs c hh;have hsz9:GB c=c.key.length+c.val.length+16:=rfl;refine FN 79 4 hv.sl (hv.lt hk) ?_;refine dq (Fx Ff rfl rfl ((hv.ext H).row hk)) (cP (Xj c _ Fe Fe) RX.all λw2 x2=>Ga x2 ho hn J O H λho hn J O H=>g0 ?_);refine GP (G:=Nat×Value×List Cell×Value×List (Value×List Cell)×Nat) (λ(N,vn,m,vq,qs,z)=>[(0,v),(2,.slice none 0 0),(3,vq),(4,vn),(5,I ↑z),(6,I ↑k),(7,I ↑(GB c))]) (λ(N,vn,m,vq,qs,z) w'=>Fq w w'/\qs.length+m.length<=k/\m.length<=k/\z<=m.length*3000000/\(∀c∈m,c∈l)/\Jf l qs/\(∀q∈qs,∀k,q.1.ownBlock=some k->k<N)/\w.heap.size<=N/\Vc.Own JV 1 95 w.heap.size w' vq qs/\Vc.Own Cell.cs 4 79 N w' vn m/\RcE w.heap.size qs w'/\Sz N w') ?_ ?_
  ·refine go ?_;refine dv 79 4 (hn.arr Fg).sl ?_;refine FJ 22 (λc2=>?_) λc2=>?_
   ·have hf:m≠[]:=λe=>by rw[e]at c2;simp at c2
    refine Fk (λc3=>?_) λc3=>?_
    ·refine go ?_;refine It (e:=95) (sz:=1) (zs:=[.slice none 0 0]) (pv:=[(0,?a18_0)]) (cs:=[?a18_0]) rfl Ff ⟨rfl,rfl⟩ Ff rfl ?h18 ?f18 RX.all (λb1 w3 e1 x3 m1=>?k18)
     case h18=>refine⟨rfl,?_,trivial⟩<;>(conv=>lhs;whnf)
     case f18=>simp [Hs,Gw,Ap,hn.sl.cells]
     have g1:=H.ge e1;have o1_ho:=ho.ltb e1;have o1_hn:=hn.ltb e1;have q1_hQ:=J.lt;have a1_hz:=O.le;refine Ga x3 ho hn J O H λho hn J O H=>G8 (vn,m) ho m1 (λha w4 Y x4=>?_) (h1:=(by intro x Z u hu;rw[Af.1 Z]at hu;rw[Af.1 hu];exact hn.sl.one));have hn:=hn.mod x4 (by exact(λk hk=>hn.ne ho rfl hk));have J:=J.mod x4 (by exact J.ne ho rfl);have O:=O.mod x4 Fw;have H:=H.own x4 F5;have ho:=Y;clear m1;refine go ?_;exact⟨(_,.slice none 0 0,[],ha,qs++[(vn,m)],0),Ho,H,by simp;omega,Ab _,Aa _,λc hc=>(by cases hc),hsg.snoc hf Fe hm,λq hq k hk=>(Al.1 hq).elim (λh9=>(J.lt q h9 k hk).2) (λh9=>by rw[Af.1 h9]at hk;exact(hn.lt k hk).2),H.size,ho,Vc.Own.nil,J.snoc (hn.mono hwN),⟨Aa _⟩⟩
    refine go ?_;exact⟨(N,vn,m,vq,qs,z),Ho,H,hql,hml,hzl,hm,hsg,hqlt,hwN,ho,hn,J,O⟩
   refine go ?_;refine GS rfl (go ?_);exact⟨(N,vn,m,vq,qs,z),Ho,H,hql,hml,hzl,hm,hsg,hqlt,hwN,ho,hn,J,O⟩
  rintro _ ⟨N,vn,m,vq,qs,z⟩ w5 ⟨H,hql,hml,hzl,hm,hsg,hqlt,hwN,ho,hn,J,O⟩;refine FN 79 4 hv.sl (hv.lt hk) ?_;refine dq (Fx Ff rfl rfl ((hv.ext H).row hk)) (lA 79 rfl λb2 w6 e2 x6 m2=>?_);have g2:=H.ge e2;have o2_ho:=ho.ltb e2;have o2_hn:=hn.ltb e2;have q2_hQ:=J.lt;have a2_hz:=O.le;refine Ga x6 ho hn J O H λho hn J O H=>G8 c hn m2 (λhj w7 hg x7=>?_) (hB:=O.le);have ho:=ho.mod x7 (by exact(λk hk=>ho.ne hn rfl hk));have J:=J.mod x7 (by exact(λq9 hp k hk e=>by have h1:=hqlt q9 hp k hk;have h2:=(hn.lt k e).1;omega));have O:=O.mod x7 Fw;have H:=H.own x7 (λi hi=>(by have:=(hn.lt i hi).1;omega));have hn:=hg;clear m2;refine go ?_;exact FL (k+1,N,hj,m++[c],vq,qs,z+GB c) ⟨H,by omega,by simp;omega,by simp;omega,by simp;omega,M6 hm hh,hsg,hqlt,hwN,ho,hn,J,O⟩
 refine g0 ?_;refine GP (G:=Value×List (Value×List Cell)) (λ(vq,qs)=>[(2,.slice none 0 0),(3,vq)]) (λ(vq,qs) w'=>Fq w w'/\qs.length<=l.length/\Jf l qs/\Vc.Own JV 1 95 w.heap.size w' vq qs/\RcE w.heap.size qs w') ?_ ?_
 ·refine go ?_;refine dv 79 4 (hn.arr Fg).sl ?_;refine Fk (λc4=>?_) λc4=>?_
  ·refine go ?_;refine It (e:=95) (sz:=1) (zs:=[.slice none 0 0]) (pv:=[(0,?a36_0)]) (cs:=[?a36_0]) rfl Ff ⟨rfl,rfl⟩ Ff rfl ?h36 ?f36 RX.all (λb3 w8 e3 x8 m3=>?k36)
   case h36=>refine⟨rfl,?_,trivial⟩<;>(conv=>lhs;whnf)
   case f36=>simp [Hs,Gw,Ap,hn.sl.cells]
   have g3:=H.ge e3;have o3_ho:=ho.ltb e3;have o3_hn:=hn.ltb e3;have q3_hQ:=J.lt;refine FQ x8 ho hn J H λho hn J H=>G8 (vn,m) ho m3 (λha w9 Y x9=>?_) (h1:=(by intro x Z u hu;rw[Af.1 Z]at hu;rw[Af.1 hu];exact hn.sl.one));have hn:=hn.mod x9 (by exact(λk hk=>hn.ne ho rfl hk));have J:=J.mod x9 (by exact J.ne ho rfl);have H:=H.own x9 F5;have ho:=Y;clear m3;refine go ?_;exact⟨(ha,qs++[(vn,m)]),L9,H,by simp;omega,hsg.snoc (λe=>by rw[e]at c4;simp at c4) Fe hm,ho,J.snoc (hn.mono hwN)⟩
  refine go ?_;exact⟨(vq,qs),L9,H,by omega,hsg,ho,J⟩
 rintro _ ⟨vq,qs⟩ w10 ⟨H,hql,hsg,ho,J⟩;refine go ?_;exact⟨_,rfl,H,qs,ho,J,hsg,hql⟩
def Xzr (l:List Cell)(v:Value)(w:World)(hv:Fu Cell.cs 4 w v l)(hl:l.length<=1000000000000)(hs:∀c∈l,c.key.length<=1000000/\c.val.length<=1000000) :
  Gi 278 [v] w λu w'=>∃qs,Vc.Own JV 1 95 w.heap.size w' u qs/\RcE w.heap.size qs w'/\Jf l qs/\qs.length<=l.length:=by
 refine cE Tryz.func278 λH=>F8 (G:=Nat×Nat×Value×List Cell×Value×List (Value×List Cell)×Nat) (λ(k,N,vn,m,vq,qs,z)=>[(0,v),(2,.slice none 0 0),(3,vq),(4,vn),(5,I ↑z),(6,I ↑k)]) (λ(k,N,vn,m,vq,qs,z) w'=>Fq w w'/\k<=l.length/\qs.length+m.length<=k/\m.length<=k/\z<=m.length*3000000/\(∀c∈m,c∈l)/\Jf l qs/\(∀q∈qs,∀k,q.1.ownBlock=some k->k<N)/\w.heap.size<=N/\Vc.Own JV 1 95 w.heap.size w' vq qs/\Vc.Own Cell.cs 4 79 N w' vn m/\RcE w.heap.size qs w'/\Sz N w') (λ(k,N,vn,m,vq,qs,z)=>l.length-k) (0,w.heap.size,.slice none 0 0,[],.slice none 0 0,[],0) ⟨H,Ab _,Aa _,Aa _,Aa _,λc hc=>(by cases hc),λq hq=>(by cases hq),λq hq=>(by cases hq),Aa _,Vc.Own.nil,Vc.Own.nil,⟨λq hq=>(by cases hq)⟩,⟨H.size⟩⟩ ?_;rintro _ ⟨k,N,vn,m,vq,qs,z⟩ w1 ⟨H,hk1,hql,hml,hzl,hm,hsg,hqlt,hwN,ho,hn,J,O⟩;refine FM 79 4 (hv.ext H).sl ?_;refine Fk (λc1=>?_) λc1=>?_
 ·obtain⟨c,hk⟩:∃c,l[k]?=some c:=F7;have hh:=Ag hk;have hsc:=hs c hh;have hsz9:GB c=c.key.length+c.val.length+16:=rfl;refine FN 79 4 hv.sl (hv.lt hk) ?_;refine dq (Fx Ff rfl rfl ((hv.ext H).row hk)) (cP (Xj c _ Fe Fe) RX.all λw2 x2=>Ga x2 ho hn J O H λho hn J O H=>g0 ?_);refine GP (G:=Nat×Value×List Cell×Value×List (Value×List Cell)×Nat) (λ(N,vn,m,vq,qs,z)=>[(0,v),(2,.slice none 0 0),(3,vq),(4,vn),(5,I ↑z),(6,I ↑k),(7,I ↑(GB c))]) (λ(N,vn,m,vq,qs,z) w'=>Fq w w'/\qs.length+m.length<=k/\m.length<=k/\z<=m.length*3000000/\(∀c∈m,c∈l)/\Jf l qs/\(∀q∈qs,∀k,q.1.ownBlock=some k->k<N)/\w.heap.size<=N/\Vc.Own JV 1 95 w.heap.size w' vq qs/\Vc.Own Cell.cs 4 79 N w' vn m/\RcE w.heap.size qs w'/\Sz N w') ?_ ?_
  ·refine go ?_;refine dv 79 4 (hn.arr Fg).sl ?_;refine FJ 22 (λc2=>?_) λc2=>?_
   ·have hf:m≠[]:=λe=>by rw[e]at c2;simp at c2
    refine Fk (λc3=>?_) λc3=>?_
    ·refine go ?_;refine It (e:=95) (sz:=1) (zs:=[.slice none 0 0]) (pv:=[(0,?a18_0)]) (cs:=[?a18_0]) rfl Ff ⟨rfl,rfl⟩ Ff rfl ?h18 ?f18 RX.all (λb1 w3 e1 x3 m1=>?k18)
     case h18=>refine⟨rfl,?_,trivial⟩<;>(conv=>lhs;whnf)
     case f18=>simp [Hs,Gw,Ap,hn.sl.cells]
     have g1:=H.ge e1;have o1_ho:=ho.ltb e1;have o1_hn:=hn.ltb e1;have q1_hQ:=J.lt;have a1_hz:=O.le;refine Ga x3 ho hn J O H λho hn J O H=>G8 (vn,m) ho m1 (λha w4 Y x4=>?_) (h1:=(by intro x Z u hu;rw[Af.1 Z]at hu;rw[Af.1 hu];exact hn.sl.one));have hn:=hn.mod x4 (by exact(λk hk=>hn.ne ho rfl hk));have J:=J.mod x4 (by exact J.ne ho rfl);have O:=O.mod x4 Fw;have H:=H.own x4 F5;have ho:=Y;clear m1;refine go ?_;exact⟨(_,.slice none 0 0,[],ha,qs++[(vn,m)],0),Ho,H,by simp;omega,Ab _,Aa _,λc hc=>(by cases hc),hsg.snoc hf Fe hm,λq hq k hk=>(Al.1 hq).elim (λh9=>(J.lt q h9 k hk).2) (λh9=>by rw[Af.1 h9]at hk;exact(hn.lt k hk).2),H.size,ho,Vc.Own.nil,J.snoc (hn.mono hwN),⟨Aa _⟩⟩
    refine go ?_;exact⟨(N,vn,m,vq,qs,z),Ho,H,hql,hml,hzl,hm,hsg,hqlt,hwN,ho,hn,J,O⟩
   refine go ?_;refine GS rfl (go ?_);exact⟨(N,vn,m,vq,qs,z),Ho,H,hql,hml,hzl,hm,hsg,hqlt,hwN,ho,hn,J,O⟩
  rintro _ ⟨N,vn,m,vq,qs,z⟩ w5 ⟨H,hql,hml,hzl,hm,hsg,hqlt,hwN,ho,hn,J,O⟩;refine FN 79 4 hv.sl (hv.lt hk) ?_;refine dq (Fx Ff rfl rfl ((hv.ext H).row hk)) (lA 79 rfl λb2 w6 e2 x6 m2=>?_);have g2:=H.ge e2;have o2_ho:=ho.ltb e2;have o2_hn:=hn.ltb e2;have q2_hQ:=J.lt;have a2_hz:=O.le;refine Ga x6 ho hn J O H λho hn J O H=>G8 c hn m2 (λhj w7 hg x7=>?_) (hB:=O.le);have ho:=ho.mod x7 (by exact(λk hk=>ho.ne hn rfl hk));have J:=J.mod x7 (by exact(λq9 hp k hk e=>by have h1:=hqlt q9 hp k hk;have h2:=(hn.lt k e).1;omega));have O:=O.mod x7 Fw;have H:=H.own x7 (λi hi=>(by have:=(hn.lt i hi).1;omega));have hn:=hg;clear m2;refine go ?_;exact FL (k+1,N,hj,m++[c],vq,qs,z+GB c) ⟨H,by omega,by simp;omega,by simp;omega,by simp;omega,M6 hm hh,hsg,hqlt,hwN,ho,hn,J,O⟩
 refine g0 ?_;refine GP (G:=Value×List (Value×List Cell)) (λ(vq,qs)=>[(2,.slice none 0 0),(3,vq)]) (λ(vq,qs) w'=>Fq w w'/\qs.length<=l.length/\Jf l qs/\Vc.Own JV 1 95 w.heap.size w' vq qs/\RcE w.heap.size qs w') ?_ ?_
 ·refine go ?_;refine dv 79 4 (hn.arr Fg).sl ?_;refine Fk (λc4=>?_) λc4=>?_
  ·refine go ?_;refine It (e:=95) (sz:=1) (zs:=[.slice none 0 0]) (pv:=[(0,?a36_0)]) (cs:=[?a36_0]) rfl Ff ⟨rfl,rfl⟩ Ff rfl ?h36 ?f36 RX.all (λb3 w8 e3 x8 m3=>?k36)
   case h36=>refine⟨rfl,?_,trivial⟩<;>(conv=>lhs;whnf)
   case f36=>simp [Hs,Gw,Ap,hn.sl.cells]
   have g3:=H.ge e3;have o3_ho:=ho.ltb e3;have o3_hn:=hn.ltb e3;have q3_hQ:=J.lt;refine FQ x8 ho hn J H λho hn J H=>G8 (vn,m) ho m3 (λha w9 Y x9=>?_) (h1:=(by intro x Z u hu;rw[Af.1 Z]at hu;rw[Af.1 hu];exact hn.sl.one));have hn:=hn.mod x9 (by exact(λk hk=>hn.ne ho rfl hk));have J:=J.mod x9 (by exact J.ne ho rfl);have H:=H.own x9 F5;have ho:=Y;clear m3;refine go ?_;exact⟨(ha,qs++[(vn,m)]),L9,H,by simp;omega,hsg.snoc (λe=>by rw[e]at c4;simp at c4) Fe hm,ho,J.snoc (hn.mono hwN)⟩
  refine go ?_;exact⟨(vq,qs),L9,H,by omega,hsg,ho,J⟩
 rintro _ ⟨vq,qs⟩ w10 ⟨H,hql,hsg,ho,J⟩;refine go ?_;exact⟨_,rfl,H,qs,ho,J,hsg,hql⟩
def X3d (l:List Cell)(v:Value)(w:World)(hv:Fu Cell.cs 4 w v l)(hl:l.length<=1000000000000) :
  Gi 217 [v] w λu w'=>∃vb e bs,u=.tuple #[vb,I e]/\Vc.Own Fs 1 5 w.heap.size w' vb bs/\bs.length<=900000000000/\(e=0->l.length<=4096/\∀c∈l,Gl c=true):=by
 refine cE Tryz.func217 λz=>FM 79 4 (hv.ext z).sl ?_;refine FJ 16 (λc1=>?_) λc1=>?_
 ·refine go ?_;refine GU rfl (go ?_);exact⟨_,rfl,z,_,1,[],rfl,Vc.Own.nil,Ab _,λe=>(by cases e)⟩
 refine FM 79 4 (hv.ext z).sl ?_;refine Fk (λc2=>?_) λc2=>?_
 ·refine go ?_;exact⟨_,rfl,z,_,1,[],rfl,Vc.Own.nil,Ab _,λe=>(by cases e)⟩
 refine Gj (Xzo l v _ (hv.ext z) Fe) λu1 w1 x1 yu=>?_;have hsz1:=z.size;have z:=z.trans x1;obtain⟨e9,rfl,yv⟩:=yu;refine Fk (λc3=>?_) λc3=>?_
 ·refine go ?_;exact⟨_,rfl,z,_,e9,[],rfl,Vc.Own.nil,Ab _,λe=>absurd e c3⟩
 have hf:=yv (AF c3);refine Gj (Xzr l v _ (hv.ext z) Fe (λc hc=>by have:=MQ (hf c hc);omega)) λvR w2 x2 yc=>?_;have hz:=z.size;have z:=z.trans x2;obtain⟨qs,yo,yd,yg,hql⟩:=yc;have hR:=yo.mono hz;have J:RcE w.heap.size qs _:=⟨λq hq=>(yd.row q hq).mono hz⟩;have H:=hR.arr Fg;refine FM 95 1 H.sl ?_;refine cG (Nv (↑qs.length) _ Fe Fe) RX.all λvc w3 x3 xy=>?_;have xm:=z.size;refine FQ x3 H hR J z λH hR J z=>?_;obtain⟨bs,yq,yi⟩:=xy;have ho:=yq.mono xm;refine F8 (G:=Nat×Value×Fj) (λ(k,vc,bs)=>[(0,v),(2,.slice none 0 0),(3,I 0),(5,vR),(6,vc),(7,I ↑k)]) (λ(k,vc,bs) w'=>Fq w w'/\Vc.Own JV 1 95 w.heap.size w' vR qs/\RcE w.heap.size qs w'/\k<=qs.length/\bs.length<=10+k*130000000/\Vc.Own Fs 1 5 w.heap.size w' vc bs) (λ(k,vc,bs)=>qs.length-k) (0,vc,bs) ⟨z,hR,J,Ab _,by omega,ho⟩ ?_;rintro _ ⟨k,vc,bs⟩ w4 ⟨z,hR,J,hk1,yi,ho⟩;have H:=hR.arr Fg;refine FM 95 1 H.sl ?_;refine Fk (λc4=>?_) λc4=>?_
 ·obtain⟨q,hkq⟩:∃q,qs[k]?=some q:=F7;have xa:=Ag hkq;obtain⟨yk,hq2,x4⟩:=yg q xa;have hq0:=List.length_pos_iff.2 yk;obtain⟨c,hkl⟩:∃c,q.2[q.2.length-1]?=some c:=F7;obtain⟨hb1,hb2,hb3,hb4⟩:=MQ (hf c (x4 c (Ag hkl)));have hg:=(J.row q xa).arr Fg;refine g0 ?_;refine wS (g0 ?_);refine GP (G:=Nat) (λbL=>[(0,v),(2,.slice none 0 0),(3,I 0),(5,vR),(6,vc),(7,I ↑k),(8,Fh bL 0)]) (λbL w'=>Fq w w'/\Vc.Own JV 1 95 w.heap.size w' vR qs/\RcE w.heap.size qs w'/\Vc.Own Fs 1 5 w.heap.size w' vc bs/\Fp w' bL c.cs 79) ?_ ?_
  ·have yl:=z;have hD:w.heap.size<=w4.heap.size:=z.size;have xt:=J;have xf:=hR;have ha:=H;have xj:=ho;have hw:=hg;have xq:=(hv.ext z);refine HP (R:=Mod (Im w4.heap.size)) (Far.refl _) Far.trans Ff [3,7,11] [(0,.p,false),(1,.p,false),(2,.p,false),(3,.l,false),(4,.p,false),(5,.p,false),(6,.p,false),(7,.l,false),(8,.p,false),(9,.p,false),(10,.p,false),(11,.l,false),(12,.x,false),(13,.x,true)] rfl Ff Ff (λw5 xg=>?_);have x5:=FE xg;clear xg;refine HB x5 hR J H ho hg z λhR J H ho hg z=>?_;have hs:Mod (Im w4.heap.size) w4 w5:=Far.of_ext x5;refine FN 95 1 H.sl (H.lt hkq) ?_;refine dL rfl (λ_ hR=>(((ha.far Fo (hs.own hR (λ_ h _=>h))).row hkq).at0 rfl)) (FN 95 1 H.sl (H.lt hkq) ?_);refine dL rfl (λ_ hR=>(((ha.far Fo (hs.own hR (λ_ h _=>h))).row hkq).at0 rfl)) (dv 79 4 hg.sl (F3 (v:=I ↑(q.2.length-1)) rfl (G7 rfl rfl FH) FY (di 79 4 hg.sl rfl (hg.lt hkl) (Gh rfl (λw' hR=>Fx Ff rfl rfl ((hw.far Fo (hs.own hR (λ_ h _=>h))).row hkl)) (aL [S [],S [],B false,.int .i64 0] (λb1 w6 e1 x6 m1=>?_) (hR:=RX.far))))));have g1:=z.ge e1;have o1_hR:=hR.ltb e1;have h6:=J.lt;have a1_hRa:=Fu.base_lt H Fo;have o1_ho:=ho.ltb e1;have gs1:w4.heap.size<=b1:=by have:=hs.size;omega
   refine HB x6 hR J H ho z hs λhR J H ho z hs=>Gg m1 (λw7 x7 xs7 m1=>?_);have hR:=hR.mod x7 Fw;have J:=J.mod x7 (λq9 yb k hk e=>by have h2:k=b1:=e;have h1:=(h6 q9 yb k hk).2;omega);have H:=H.mod x7 Fw;have ho:=ho.mod x7 Fw;have z:=z.o1 x7;clear hs yl xt xf ha xj hw xq;refine go ?_;exact⟨b1,Ho,z,hR,J,ho,m1⟩
  rintro _ bL w8 ⟨z,hR,J,ho,mL⟩;have H:=hR.arr Fg;refine FN 95 1 H.sl (H.lt hkq) ?_;refine dl rfl ((H.row hkq).at0 rfl) ?_;have ye:=ho.lt;refine cG (X8w q.2 q.1 _ ((J.row q xa).arr Fg) Fe) RX.all λu9 w9 x9 yh=>?_;have hsz9:=z.size;refine Ga x9 hR J ho mL z λhR J ho mL z=>?_;obtain⟨hh,e8,b9,rfl,hB,xr⟩:=yh;have hb8:b9.length<=4096*30000:=Ae xr (Nat.mul_le_mul_right _ Fe);have hd:∀k,hh.ownBlock=some k->¬ vc.ownBlock=some k:=λk hk e=>by have h9:=(hB.lt k hk).1;have h8:=(ye k e).2;omega
  refine gw ?_;refine Ka [.p,.p,.l,.x,.x,.x,.p] rfl (go ?_);refine KF (e:=5) rfl Ff Ff Ff rfl RX.all (λb2 cap2 w10 e2 yr yj=>?_);have g2:=z.ge e2;have o2_hR:=hR.ltb e2;have q2_hQ:=J.lt;have o2_ho:=ho.ltb e2;have a2_mL:=mL.lt;refine HB yr hR J ho mL hB z λhR J ho mL hB z=>cG (P9 _ _ _ yj (by omega)) RX.all λvq w11 xw xp=>?_;have hsz11:=z.size;refine HB xw hR J ho mL hB z λhR J ho mL hB z=>?_;obtain⟨r9,hq,hy⟩:=xp;have hr8:r9.length<=c.key.length+10:=by omega
  refine LU (lx:=r9) (e:=5) (sz:=1) (by':=1) rfl Ff Ff Fg ho ((hq.arr Fg)) rfl rfl (by intro x _ u hu;simp at hu;rcases hu with rfl<;>rfl) Fe Fo z.size (.inl rfl) (λv1 w12 O hj h5=>?_);have hr:=h5;have h7:=hB.lt;have hR:=hR.mod hj (by exact(λk hk=>hR.ne ho rfl hk));have J:=J.mod hj (by exact J.ne ho rfl);have mL:=mL.mod hj Fw;have hB:=hB.mod hj Fw;have z:=z.own hj F5;have ho:=O;obtain⟨bs,hbx⟩:∃bx,bx=bs++r9:=⟨_,rfl⟩;rw[<-hbx]at ho;have Y:=congrArg A9 hbx;rw[Ad]at Y;have hd:∀k,hh.ownBlock=some k->¬ v1.ownBlock=some k:=λk hk e=>hr.elim (λe9=>hd k hk (e9.symm.trans e)) (λe9=>by have h9:=(h7 k hk).2;have h8:=Am.inj (e9.symm.trans e);omega);refine Gj (Nv c.seq _ Fe Fe) λvq w13 yf xd=>?_;have hsz13:=z.size;refine HB yf hR J ho mL hB z λhR J ho mL hB z=>?_;obtain⟨r9,hq,hy⟩:=xd;refine LU (lx:=r9) (e:=5) (sz:=1) (by':=1) rfl Ff Ff Fg ho ((hq.arr Fg)) rfl rfl (by intro x _ u hu;simp at hu;rcases hu with rfl<;>rfl) Fe Fo z.size (.inl rfl) (λv2 w14 O hp xb=>?_);have hr:=xb;have h7:=hB.lt;have hR:=hR.mod hp (by exact(λk hk=>hR.ne ho rfl hk));have J:=J.mod hp (by exact J.ne ho rfl);have mL:=mL.mod hp Fw;have hB:=hB.mod hp Fw;have z:=z.own hp F5;have ho:=O;obtain⟨bs,hbx⟩:∃bx,bx=bs++r9:=⟨_,rfl⟩;rw[<-hbx]at ho;have Y:=congrArg A9 hbx;rw[Ad]at Y;have hd:∀k,hh.ownBlock=some k->¬ v2.ownBlock=some k:=λk hk e=>hr.elim (λe9=>hd k hk (e9.symm.trans e)) (λe9=>by have h9:=(h7 k hk).2;have h8:=Am.inj (e9.symm.trans e);omega);refine Gj (P9 _ hh _ (hB.arr Fg) Fe) λvq w15 xx xe=>?_;have hsz15:=z.size;refine HB xx hR J ho mL hB z λhR J ho mL hB z=>?_;obtain⟨r9,hq,hy⟩:=xe;refine Ht ho (hq.arr Fg) λv3 w16 O ht=>?_;have hR:=hR.mod ht (by exact(λk hk=>hR.ne ho rfl hk));have J:=J.mod ht (by exact J.ne ho rfl);have mL:=mL.mod ht Fw;have hB:=hB.mod ht Fw;have z:=z.own ht F5;have ho:=O;obtain⟨bs,hbx⟩:∃bx,bx=bs++r9:=⟨_,rfl⟩;rw[<-hbx]at ho;have Y:=congrArg A9 hbx;rw[Ad]at Y;refine go ?_;exact⟨(k+1,v3,_),HW,⟨z,hR,J,by omega,by omega,ho⟩,by simp only [];omega⟩
 refine F8 (G:=Nat×Value×List Fj) (λ(k,vk,ks)=>[(0,v),(2,.slice none 0 0),(3,I 0),(6,vc),(11,vk),(12,I ↑k)]) (λ(k,vk,ks) w'=>Fq w w'/\Vc.Own Fs 1 5 w.heap.size w' vc bs/\k<=l.length/\ks.length<=k/\(∀s∈ks,s.length<=4096)/\Vc.Own GF 1 9 w.heap.size w' vk ks) (λ(k,vk,ks)=>l.length-k) (0,.slice none 0 0,[]) ⟨z,ho,Ab _,Aa _,λs hs=>(by cases hs),Vc.Own.nil⟩ ?_;rintro _ ⟨k,vk,ks⟩ w17 ⟨z,ho,hk2,hkl2,hks,Z⟩;refine FM 79 4 (hv.ext z).sl ?_;refine Fk (λc5=>?_) λc5=>?_
 ·obtain⟨c,hk⟩:∃c,l[k]?=some c:=F7;have hbc:=MQ (hf c (Ag hk));refine g0 ?_;refine wS (g0 ?_);refine GP (G:=Bool) (λbb=>[(0,v),(2,.slice none 0 0),(3,I 0),(6,vc),(11,vk),(12,I ↑k),(93,.bool bb)]) (λbb w'=>Fq w w'/\Vc.Own Fs 1 5 w.heap.size w' vc bs/\Vc.Own GF 1 9 w.heap.size w' vk ks/\True) ?_ ?_
  ·refine wd 10010000010000000 λw18 yp=>FC yp ho Z z λho Z z=>?_;refine FJ 80 (λc6=>?_) λc6=>?_
   ·refine go ?_;exact⟨_,Ho,z,ho,Z,trivial⟩
   obtain⟨d,hkd⟩:∃d,l[k-1]?=some d:=F7;refine FN 79 4 hv.sl (hv.lt hk) ?_;refine go ?_;refine dL rfl (λ_ hR=>(((hv.ext (z.trans hR)).row hk).at rfl)) (gn ?_);refine F3 (v:=I ↑(k-1)) rfl (G7 rfl rfl FH) FY (di 79 4 hv.sl rfl (hv.lt hkd) (go ?_));refine dL rfl (λ_ hR=>(((hv.ext (z.trans hR)).row hkd).at rfl)) (dp (Nk rfl rfl) (go ?_));exact⟨_,Ho,z,ho,Z,trivial⟩
  rintro _ bb w19 ⟨z,ho,Z,htr⟩;refine wc (λc7=>?_) λc7=>?_
  ·refine FN 79 4 hv.sl (hv.lt hk) ?_;refine go ?_;refine dl rfl (((hv.ext z).row hk).at rfl) (li (e:=9) (sz:=1) (zs:=[S []]) (pv:=[(0,_)]) (cs:=[_]) RX.all (λb3 w20 e3 yn m3=>?_));have g3:=z.ge e3;have o3_ho:=ho.ltb e3;have o3_hS:=Z.ltb e3;refine FC yn ho Z z λho Z z=>G8 c.key Z m3 λxz w21 xh xo=>?_;have ho:=ho.mod xo (λk hk=>ho.ne Z rfl hk);have z:=z.own xo F5;have Z:=xh;clear m3;refine go ?_;exact FL (k+1,xz,ks++[c.key]) ⟨z,ho,by omega,by simp;omega,λs hs=>(Al.1 hs).elim (hks s) (λh9=>by rw[Af.1 h9];omega),Z⟩
  refine go ?_;exact FL (k+1,vk,ks) ⟨z,ho,by omega,by omega,hks,Z⟩
 refine FM 79 4 (hv.ext z).sl ?_;refine cG (Nv (↑l.length) _ Fe Fe) RX.all λvq w22 ya xk=>?_;have hsz22:=z.size;refine FC ya ho Z z λho Z z=>?_;obtain⟨r9,hq,hy⟩:=xk;refine Ht ho (hq.arr Fg) λv6 w23 O xl=>?_;have Z:=Z.mod xl (by exact(λk hk=>Z.ne ho rfl hk));have z:=z.own xl F5;have ho:=O;obtain⟨bs,hbx⟩:∃bx,bx=bs++r9:=⟨_,rfl⟩;rw[<-hbx]at ho;have Y:=congrArg A9 hbx;rw[Ad]at Y;refine Gj (X8z ks vk _ (Z.arr Fg) Fe (λs hs=>by have:=hks s hs;omega)) λhh w24 x0 xu=>?_;have hsz24:=z.size;refine Fy x0 ho z λho z=>?_;obtain⟨b9,hB,xr⟩:=xu;refine cG (P9 _ hh _ (hB.arr Fg) Fe) RX.all λvq w25 yt xi=>?_;have hsz25:=z.size;refine Fy yt ho z λho z=>?_;obtain⟨r9,hq,hy⟩:=xi;refine Ht ho (hq.arr Fg) λv7 w26 O xv=>?_;have z:=z.own xv F5;have ho:=O;obtain⟨bs,hbx⟩:∃bx,bx=bs++r9:=⟨_,rfl⟩;rw[<-hbx]at ho;have Y:=congrArg A9 hbx;rw[Ad]at Y;refine Gj (Ru bs v7 _ (ho.arr Fg) Fe) λu27 w27 ym xn=>?_;have xc:=z.size;have z:=z.trans ym;obtain⟨vz,ez,bz,rfl,hZ,hz9⟩:=xn;have x8:=xc;refine go ?_;exact⟨_,rfl,z,_,ez,bz,rfl,hZ.mono x8,by omega,λ_=>⟨by omega,hf⟩⟩
structure Rf where
 nm:Fj
 v:Value
 n:Nat
 la:Int
@[reducible] def Rf.cs (f:Rf):List Value:=[S f.nm,f.v,I f.la]
structure RfE (L:List Rf)(w:World):Prop where
 row:∀f∈L,∃bs:Fj,Vc.Own Fs 1 5 0 w f.v bs/\bs.length=f.n
def Gy (L:List Rf):Nat:=(L.map (·.n)).sum
section
variable {L:List Rf}{w w':World}{S:Nat->Prop}{f:Rf}{i:Nat}
def RfE.mod (h:RfE L w)(m:Vc.Mod S w w')(hS:∀f∈L,∀k,f.v.ownBlock=some k->¬ S k):RfE L w':=⟨λf z=>by
 obtain⟨bs,h1,h2⟩:=h.row f z;exact⟨bs,h1.mod m (hS f z),h2⟩⟩
def RfE.ne {α:Type}{enc:α->List Value}{sz T B:Nat}{v:Value}{l:List α}(h:RfE L w)(ho:Vc.Own enc sz T B w v l)(hT:AM 5 T=false):∀f∈L,∀k,f.v.ownBlock=some k->¬ v.ownBlock=some k:=λf z k hk=>by
 obtain⟨bs,h1,h2⟩:=h.row f z;exact h1.ne ho hT hk
def RfE.ne_blk {b T:Nat}{cs:List Value}(h:RfE L w)(hb:Fp w b cs T)(hT:AM 5 T=false):∀f∈L,∀k,f.v.ownBlock=some k->¬ k=b:=λf z k hk e=>by
 obtain⟨bs,h1,h2⟩:=h.row f z;exact h1.ne_blk hb hT (by rw[hk,e])
def RfE.lt (h:RfE L w):∀f∈L,∀k,f.v.ownBlock=some k->k<w.heap.size:=λf z k hk=>by
 obtain⟨bs,h1,h2⟩:=h.row f z;exact(h1.lt k hk).2
def RfE.one (h:RfE L w)(hf:f∈L):f.v.oneCell'=true:=by
 obtain⟨bs,h1,h2⟩:=h.row f hf;exact h1.sl.one
def X80 (h:L[i]?=some f):Gy (L.take (i+1))=Gy (L.take i)+f.n:=by unfold Gy;rw[GW h,A3,Bt];simp
def X81 (i:Nat):Gy (L.take i)<=Gy L:=by
 have h:=congrArg Gy (AV i L);unfold Gy at *;rw[A3,Bt]at h;omega
end
structure D3 (G:Nat->Prop)(bx:Nat)(room:Int)(vL:Value)(L:List Rf)(left:Int)(w:World):Prop where
 m:Fp w bx [I room,vL,I left] 138
 o:Vc.Own Rf.cs 3 226 0 w vL L
 e:RfE L w
 g0:G bx
 gL:∀k,vL.ownBlock=some k->G k
 gf:∀f∈L,∀k,f.v.ownBlock=some k->G k
 nl:∀f∈L,f.nm.length<=64
 r1:0<=room/\room<=1073741824
 us:(Gy L:Int)<=room
 le:L.length<=4096
 lf:-1<=left/\left<=9223372036854775807
section
variable {G G':Nat->Prop}{bx:Nat}{room left left':Int}{vL:Value}{L:List Rf}{w w':World}{S:Nat->Prop}
def D3.mod (h:D3 G bx room vL L left w)(m:Vc.Mod S w w')(hS:∀k,G k->¬ S k):D3 G bx room vL L left w':=⟨h.m.mod m (hS bx h.g0),h.o.mod m (λk hk=>hS k (h.gL k hk)),h.e.mod m (λf z k hk=>hS k (h.gf f z k hk)),h.g0,h.gL,h.gf,h.nl,h.r1,h.us,h.le,h.lf⟩
def D3.ext (h:D3 G bx room vL L left w)(m:Fq w w'):D3 G bx room vL L left w':=h.mod m (λ_ _ h=>h)
instance : Up w w' (D3 G bx room vL L left w) (D3 G bx room vL L left w'):=⟨λx h=>h.ext x⟩
def D3.wide (h:D3 G bx room vL L left w)(hG:∀k,G k->G' k):D3 G' bx room vL L left w:=⟨h.m,h.o,h.e,hG bx h.g0,λk hk=>hG k (h.gL k hk),λf z k hk=>hG k (h.gf f z k hk),h.nl,h.r1,h.us,h.le,h.lf⟩
def D3.bit (h:D3 G bx room vL L left w)(m:Vc.Mod (Fv bx) w w')(hm:Fp w' bx [I room,vL,I left'] 138)(hl:-1<=left'/\left'<=9223372036854775807):D3 G bx room vL L left' w':=
 ⟨hm,h.o.mod m (λk hk e=>h.o.ne_blk h.m rfl (by rw[hk,show k=bx from e])),h.e.mod m (λf z k hk e=>h.e.ne_blk h.m rfl f z k hk e),h.g0,h.gL,h.gf,h.nl,h.r1,h.us,h.le,hl⟩
end
def HI (L:List Rf)(s:Fj):Nat:=(L.takeWhile λf=>F6 f.nm s).length
def LM (L:List Rf)(s:Fj):Bool:=decide (L[HI L s]?.map (·.nm)=some s)
def Vi (L:List Rf)(s:Fj):HI L s<=L.length:=(List.takeWhile_sublist _).length_le
variable {L:List Rf}{s:Fj}
def O6 (h:LM L s=true):HI L s<L.length:=by
 unfold LM at h
 by_cases h9:HI L s<L.length
 ·exact h9
 ·rw[Bi Fe]at h;simp at h
variable {f:Rf}
def Ydu (hi:L[i]?=some f)(h:L.takeWhile (λf=>F6 f.nm s)=L.take i++(L.drop i).takeWhile (λf=>F6 f.nm s))(hf:F6 f.nm s=true):L.takeWhile (λf=>F6 f.nm s)=L.take (i+1)++(L.drop (i+1)).takeWhile (λf=>F6 f.nm s):=by
 rw[h,Ja hi,CO,if_pos hf,GW hi,A6];rfl
def Uv (hl:i<=L.length)(h:L.takeWhile (λf=>F6 f.nm s)=L.take i++(L.drop i).takeWhile (λf=>F6 f.nm s))(hf:∀f,L[i]?=some f->F6 f.nm s=false):HI L s=i:=by
 have e:(L.drop i).takeWhile (λf=>F6 f.nm s)=[]:=by
  by_cases h9:i<L.length
  ·have hk:L[i]?=some L[i]:=Aq h9;rw[Ja hk,CO,if_neg (by rw[hf _ hk];decide)]
  ·rw[BG Fe];rfl
 unfold HI;rw[h,e,AI,AE];omega
def Ql (G:Nat->Prop)(bx:Nat)(room:Int)(vL:Value)(L:List Rf)(left:Int)(l:List Fj)(v:Value)(w:World)(h:D3 G bx room vL L left w)(hv:Fu GF 1 w v l)(hl:l.length<=100) :
  Gi 226 [Fh bx 0,v] w λu _=>∃e:Int,u=I e/\(e=0->∀s∈l,s.length<=64):=by
 refine cE Tryz.func226 λz=>?_;have hm:=h.m;have hbxl:=hm.lt;have hla:=h.o.arr Fg;have hle:=h.le;refine Fk (λJ=>?_) λJ=>?_
 ·refine go ?_;exact⟨_,rfl,z,9,rfl,λe=>(by cases e)⟩
 refine F8 (G:=Nat) (λk=>[(1,v),(5,I ↑k)]) (λk w'=>Fq w w'/\k<=l.length/\∀s∈l.take k,s.length<=64) (λk=>l.length-k) 0 ⟨z,Ab _,λs hs=>(by cases hs)⟩ ?_;rintro _ k w1 ⟨z,hk1,hA⟩;refine FM 9 1 (hv.ext z).sl ?_;refine Fk (λY=>?_) λY=>?_
 ·obtain⟨s,hk⟩:∃s,l[k]?=some s:=F7;refine FN 9 1 hv.sl (hv.lt hk) ?_;refine dl rfl (((hv.ext z).row hk).at0 rfl) ?_;refine FJ 23 (λZ=>?_) λZ=>?_
  ·refine go ?_;refine GU rfl (go ?_);exact⟨_,rfl,z,1,rfl,λe=>(by cases e)⟩
  refine FN 9 1 hv.sl (hv.lt hk) ?_;refine dl rfl (((hv.ext z).row hk).at0 rfl) ?_;refine Fk (λO=>?_) λO=>?_
  ·refine go ?_;exact⟨_,rfl,z,1,rfl,λe=>(by cases e)⟩
  refine go ?_;exact⟨k+1,L9,⟨z,by omega,λx H=>by
   rw[GW hk]at H;rcases Al.1 H with h9|h9
   ·exact hA x h9
   ·rw[Af.1 h9];omega⟩,by omega⟩
 refine go ?_;rw[Av Fe]at hA;exact⟨_,rfl,z,0,rfl,λ_=>hA⟩
def GX (G:Nat->Prop)(bx:Nat)(room:Int)(vL:Value)(L:List Rf)(left:Int)(s:Fj)(w:World)(h:D3 G bx room vL L left w) :
  FX 227 [Fh bx 0,S s] w (.tuple #[I ↑(HI L s),B (LM L s)]):=by
 refine cE Tryz.func227 λz=>?_;have hm:=h.m;have hbxl:=hm.lt;have H:=h.o.arr Fg;have hle:=h.le;refine wS (g0 ?_);refine wS (g0 ?_);refine GP (G:=Unit) (λZ=>[(0,Fh bx 0),(1,S s),(4,I 0),(5,.bool false),(6,I ↑(HI L s))]) (λZ w'=>Fq w w'/\True) ?_ ?_
 ·refine F8 (G:=Nat) (λi=>[(0,Fh bx 0),(1,S s),(4,I 0),(5,.bool false),(6,I ↑i)]) (λi w'=>Fq w w'/\i<=L.length/\L.takeWhile (λf=>F6 f.nm s)=L.take i++(L.drop i).takeWhile (λf=>F6 f.nm s)) (λi=>L.length-i) 0 ⟨z,Ab _,rfl⟩ ?_;rintro _ i w1 ⟨z,hi1,hin⟩;refine go ?_;refine dl rfl ((hm.ext z).at rfl) (dv 226 3 (H.ext z).sl ?_);refine FJ 14 (λc1=>?_) λc1=>?_
  ·obtain⟨f,hk⟩:∃f,L[i]?=some f:=F7;refine go ?_;refine dl rfl ((hm.ext z).at rfl) (FN 226 3 H.sl (H.lt hk) ?_);refine go ?_;refine dl rfl (((H.ext z).row hk).at rfl) (go ?_);refine dp (MB rfl rfl) ?_;refine Gb (λY=>?_) λY=>?_
   ·refine go ?_;exact FL (i+1) ⟨z,by omega,Ydu hk hin Y⟩
   refine go ?_;have J:HI L s=i:=Uv hi1 hin (λf9 O=>by rw[hk]at O;rw[<-Am.inj O];simpa using Y);rw[J];exact⟨(),Hc,z,trivial⟩
  refine go ?_;refine GS rfl (go ?_);have J:HI L s=i:=Uv hi1 hin (λf9 O=>absurd (Ar.1 O).1 Fe);rw[J];exact⟨(),Hc,z,trivial⟩
 rintro _ Z w2 ⟨z,htr⟩;refine Gt 10000010001000000100000 λw3 x3=>?_;have z:=z.trans x3;refine go ?_;refine dL rfl (λ_ hR=>((hm.ext (z.trans hR)).at rfl)) (dv 226 3 (H.ext z).sl ?_);refine FJ 36 (λc3=>?_) λc3=>?_
 ·obtain⟨f,hk⟩:∃f,L[HI L s]?=some f:=F7;refine go ?_;refine dL rfl (λ_ hR=>((hm.ext (z.trans hR)).at rfl)) (FN 226 3 H.sl (H.lt hk) ?_);refine go ?_;refine dL rfl (λ_ hR=>(((H.ext (z.trans hR)).row hk).at rfl)) (go ?_);refine dp (KI rfl rfl) (go ?_);refine⟨?_,z⟩;unfold LM;rw[hk];simp
 refine go ?_;refine⟨?_,z⟩;rw[show LM L s=false by unfold LM;rw[Bi Fe];simp]
def X82 (G:Nat->Prop)(bx:Nat)(room:Int)(vL:Value)(L:List Rf)(left:Int)(w:World)(h:D3 G bx room vL L left w) :
  FX 275 [Fh bx 0] w (I ↑(Gy L)):=by
 refine cE Tryz.func275 λH=>?_;have hm:=h.m;have hbxl:=hm.lt;have z:=h.o.arr Fg;have hle:=h.le;refine F8 (G:=Nat) (λi=>[(0,Fh bx 0),(2,I 0),(3,I ↑(Gy (L.take i))),(4,I ↑i)]) (λi w'=>Fq w w'/\i<=L.length) (λi=>L.length-i) 0 ⟨H,Ab _⟩ ?_;rintro _ i w1 ⟨H,hi1⟩;refine go ?_;refine dl rfl ((hm.ext H).at rfl) (dv 226 3 (z.ext H).sl ?_);refine Fk (λY=>?_) λY=>?_
 ·obtain⟨f,hk⟩:∃f,L[i]?=some f:=F7;obtain⟨bs,O,J⟩:=h.e.row f (Ag hk);have hs1:=X80 hk;have hs2:=X81 (L:=L) (i+1);have hus:=h.us;have hr1:=h.r1;refine go ?_;refine dl rfl ((hm.ext H).at rfl) (FN 226 3 z.sl (z.lt hk) ?_);refine go ?_;refine dl rfl (((z.ext H).row hk).at rfl) (F3 (v:=I ↑f.n) rfl (OM (e:=5) (k:=1) Ff ((O.ext H).arr Fg).sl rfl) (by rw[J]) (F3 (v:=I ↑(Gy (L.take (i+1)))) rfl (GK rfl rfl FH) FY (go ?_)));exact FL (i+1) ⟨H,by omega⟩
 refine go ?_;rw[Av Fe];exact⟨rfl,H⟩
def OC (G:Nat->Prop)(bx:Nat)(room:Int)(vL:Value)(L:List Rf)(left:Int)(w:World)(h:D3 G bx room vL L left w) :
  G4 229 [Fh bx 0] w (Fv bx) λu w'=>u=I 0/\∃left',D3 G bx room vL L left' w':=by
 refine cE Tryz.func229 λz=>?_;have hm:=h.m;have hlf:=h.lf;refine Fk (λH=>?_) λH=>?_
 ·refine go ?_;refine HL hm (λw1 J xs1 hm=>?_);have z:=(z.mod J).mono (λi hi _=>(hi:(Fv bx) i));refine go ?_;exact⟨_,rfl,z,rfl,_,h.bit z hm Fe⟩
 refine go ?_;exact⟨_,rfl,z.mono (λ_ h _=>h.elim),rfl,_,h.ext z⟩
def Nx (G:Nat->Prop)(bx:Nat)(w:World):Prop:=(∃room vL L left,D3 G bx room vL L left w)/\∀k,G k->k<w.heap.size
variable {w:World}
def RfE.one0 {j:Nat}(h:RfE L w)(hf:f∈(L.take i).drop j):f.v.oneCell'=true:=h.one (Cr (C3 hf))
section
variable {G:Nat->Prop}{bx:Nat}{room left left':Int}{vL v':Value}{L L':List Rf}{w w':World}
def D3.new (h:D3 G bx room vL L left w)(m:Vc.Mod (Fv bx) w w')(hm:Fp w' bx [I room,v',I left'] 138){B:Nat}(ho:Vc.Own Rf.cs 3 226 B w' v' L')(hs:∀f∈L',f.nm.length<=64/\((∃g∈L,f.v=g.v/\f.n=g.n)\/(f.v=.slice none 0 0/\f.n=0)))(hu:(Gy L':Int)<=room)(hl:L'.length<=4096)(hl2:-1<=left'/\left'<=9223372036854775807) :
  D3 (λk=>G k\/B<=k) bx room v' L' left' w':=by
 have he:=h.e.mod m (h.e.ne_blk h.m rfl);refine⟨hm,ho.mono (Ab _),⟨λf z=>?_⟩,.inl h.g0,λk hk=>.inr (ho.lt k hk).1,λf z k hk=>?_,λf z=>(hs f z).1,h.r1,hu,hl,hl2⟩
 ·rcases(hs f z).2 with⟨g,hg,e1,e2⟩|⟨e1,e2⟩
  ·rw[e1,e2];exact he.row g hg
  ·rw[e1,e2];exact⟨[],Vc.Own.nil,rfl⟩
 ·rcases(hs f z).2 with⟨g,hg,e1,e2⟩|⟨e1,e2⟩
  ·rw[e1]at hk;exact .inl (h.gf g hg k hk)
  ·rw[e1]at hk;cases hk
def D3.fin (h:D3 (λk=>G k\/w.heap.size<=k) bx room vL L left w')(hlt:∀k,G k->k<w.heap.size)(hs:w.heap.size<=w'.heap.size):Nx (FV G w w') bx w':=by
 have go:∀k,(G k\/w.heap.size<=k)->k<w'.heap.size->FV G w w' k:=λk hk H=>hk.imp (λh=>h) (λe=>⟨e,H⟩);exact⟨⟨_,_,_,_,h.m,h.o,h.e,go _ h.g0 h.m.lt,λk hk=>go k (h.gL k hk) (h.o.lt k hk).2,λf z k hk=>go k (h.gf f z k hk) (h.e.lt f z k hk),h.nl,h.r1,h.us,h.le,h.lf⟩,Jq hlt hs⟩
def D3.fin0 (h:D3 G bx room vL L left w')(hlt:∀k,G k->k<w.heap.size)(hs:w.heap.size<=w'.heap.size):Nx (FV G w w') bx w':=(h.wide (λ_ h=>.inl h)).fin hlt hs
variable {i:Nat}
def D3.setF {f x:Rf}(h:D3 G bx room vL L left w)(m:Vc.Mod (λk=>vL.ownBlock=some k) w w')(ho:Vc.Own Rf.cs 3 226 0 w' vL (L.set i x))(J:L[i]?=some f)(hn:x.nm=f.nm)(hx:∃bs:Fj,Vc.Own Fs 1 5 0 w' x.v bs/\bs.length=x.n)(hg:∀k,x.v.ownBlock=some k->G k)(hu:(Gy (L.set i x):Int)<=room):D3 G bx room vL (L.set i x) left w':=by
 have he:=h.e.mod m (λf J k hk e=>h.e.ne h.o rfl f J k hk e);have H:=Ag J;refine⟨h.m.mod m (λe=>h.o.ne_blk h.m rfl e),ho,⟨λg z=>?_⟩,h.g0,h.gL,λg z k hk=>?_,λg z=>?_,h.r1,hu,by rw[AB];exact h.le,h.lf⟩
 ·rcases Ee z with h9|h9
  ·exact he.row g h9
  ·rw[h9];exact hx
 ·rcases Ee z with h9|h9
  ·exact h.gf g h9 k hk
  ·rw[h9]at hk;exact hg k hk
 ·rcases Ee z with h9|h9
  ·exact h.nl g h9
  ·rw[h9,hn];exact h.nl f H
def Wj {f x:Rf}(h:L[i]?=some f):Gy (L.set i x)+f.n=Gy L+x.n:=by
 have z:=(Ar.1 h).1;have h1:L=L.take i++f :: L.drop (i+1):=by rw[<-Ja h,AV]
 have h2:L.set i x=L.take i++x :: L.drop (i+1):=by rw[List.set_eq_take_append_cons_drop,if_pos z]
 have e1:=congrArg Gy h1;have e2:=congrArg Gy h2;unfold Gy at *;simp only [A3,Bt,Ak,A4]at e1 e2;omega
def Oq {f:Rf}(h:L[i]?=some f):Gy (L.eraseIdx i)+f.n=Gy L/\(L.eraseIdx i).length+1=L.length:=by
 have hl:=(Ar.1 h).1;have h1:L=L.take i++f :: L.drop (i+1):=by rw[<-Ja h,AV]
 have e1:=congrArg Gy h1;rw[ES];unfold Gy at *;simp only [A3,Bt,Ak,A4]at e1 ⊢;refine⟨by omega,?_⟩;simp only [Ad,AE,Bd];omega
end
def UG {x:Rf}(h:L[i]?=some f):L.getD i x=f:=by rw[BO,h];rfl
def Sj (G:Nat->Prop)(bx:Nat)(room:Int)(vL:Value)(L:List Rf)(left:Int)(s:Fj)(w:World)(h:D3 G bx room vL L left w) :
  G4 228 [Fh bx 0,S s] w (Fv bx) λu w'=>u=.tuple #[]/\∃vL',D3 (λk=>G k\/w.heap.size<=k) bx room vL' (if LM L s then L.eraseIdx (HI L s)else L) left w':=by
 refine cE Tryz.func228 λz=>?_;have hm:=h.m;have hbxl:=hm.lt;have O:=h.o.arr Fg;have hle:=h.le;refine Gs (GX G bx room vL L left s _ (h.ext z)) λw1 x1=>?_;have z:=z.trans x1;refine Gb (λc1=>?_) λc1=>?_
 ·have Y:=O6 c1;obtain⟨f,hk⟩:∃f,L[HI L s]?=some f:=⟨_,Aq Y⟩;have ha:=z;have hD:w.heap.size<=w1.heap.size:=z.size;have hc:=(O.ext z);have J:=(hm.ext z);refine HP (R:=Mod (Im w1.heap.size)) (Far.refl _) Far.trans Ff [5,12] [(0,.p,false),(2,.p,false),(3,.p,false),(4,.p,false),(5,.l,false),(6,.p,false),(7,.p,false),(9,.p,false),(10,.p,false),(11,.p,false),(12,.l,false),(13,.p,false),(14,.p,false),(15,.p,false),(1,.x,false),(8,.x,false),(16,.x,false),(17,.p,false),(18,.p,false),(19,.x,true)] rfl Ff Ff (λw2 hf=>?_);have x2:=FE hf;clear hf;have z:=z.trans x2;have hs:Mod (Im w1.heap.size) w1 w2:=Far.of_ext x2;refine go ?_;refine dL rfl (λ_ hR=>((J.far (hs.own hR (λ_ h _=>h))).at rfl)) (go ?_);refine dp (HH (e:=226) (k:=3) Ff O.sl rfl rfl rfl (Ab _) (D8 Y)) (go ?_);refine dL rfl (λ_ hR=>((J.far (hs.own hR (λ_ h _=>h))).at rfl)) (gn ?_);refine F3 (v:=I ↑(HI L s+1)) rfl (GK rfl rfl FH) FY (dp (HH (e:=226) (k:=3) Ff O.sl rfl rfl rfl Y (Aa _)) (Jx (e:=226) (sz:=3) rfl Ff RX.far (λb1 w3 e1 x3 m1=>?_)));have g1:=z.ge e1;have gs1:w1.heap.size<=b1:=by have:=hs.size;omega
  refine Fy x3 z hs λz hs=>?_;have ho:=m1.own (enc:=Rf.cs) (B:=w1.heap.size) (l:=[]) (sz:=3) (m:=0) gs1 rfl Fg rfl (An rfl);refine Ip (e:=226) (sz:=3) (by':=48) rfl Ff Ff Fg ho (((O.ext z)).slice (Ab _) (D8 Y)) rfl rfl (by intro x Z u hu;have h7:=h.e.one0 Z;simp at hu;rcases hu with rfl|rfl|rfl;rfl;exact h7;rfl) Gx Fo hs.size (.inr (Far.own ho (Aa _))) (λv1 w4 H x4=>?_);have hs:=hs.own x4 F5;have z:=z.own x4 (λi hi=>(by have h1:=(ho.lt i hi).1;have:=ha.size;omega));have ho:=H;refine Ip (e:=226) (sz:=3) (by':=48) rfl Ff Ff Fg ho (((O.ext z)).slice Y (Aa _)) rfl rfl (by intro x Z u hu;have h7:=h.e.one0 Z;simp at hu;rcases hu with rfl|rfl|rfl;rfl;exact h7;rfl) Gx Fo hs.size (.inr (Far.own ho (Aa _))) (λv2 w5 H x5=>?_);have z:=z.own x5 (λi hi=>(by have h1:=(ho.lt i hi).1;have:=ha.size;omega));have ho:=H;refine go ?_;refine KW (hm.ext z) (λw6 x6 xs6 hm=>?_) (hv:=by exact Gq.one ho.sl);dsimp only [Gw,AU,AP,AZ]at hm;have ho:=ho.mod x6 Fw;have z:=(z.mod x6).mono (λi hi _=>(hi:(Fv bx) i));clear hs ha hc J;refine go ?_;refine Ig (H6 rfl ?_);rw[if_pos c1];have he:=Oq hk;have hh:Vc.Own Rf.cs 3 226 w.heap.size w6 v2 (L.eraseIdx (HI L s)):=by rw[ES];simpa using ho.mono hD
  exact⟨_,rfl,z,rfl,v2,h.new z hm hh (λg hg=>⟨h.nl g (Ef hg),.inl ⟨g,Ef hg,rfl,rfl⟩⟩) (by have:=h.us;omega) (by have:=h.le;omega) h.lf⟩
 refine go ?_;refine Ig (H6 rfl ?_);rw[if_neg (by rw[c1];decide)];exact⟨_,rfl,z.mono (λ_ h _=>h.elim),rfl,vL,(h.ext z).wide (λ_ h=>.inl h)⟩
def G0 (w:World)(ts:List Nat)(k:Nat):Prop:=∃cs T,Fp w k cs T/\ts.elem T=true
@[reducible] def GT (G:Nat->Prop) (ts:List Nat) (w:World) (k:Nat):Prop:=G k/\G0 w ts k
variable {T:Nat}{ts:List Nat}
def Fp.noTy {b:Nat}{cs:List Value}(h:Fp w b cs T)(hT:ts.elem T=false):¬ G0 w ts b:=λ⟨_,_,h1,h2⟩=>by
 unfold Fp at h h1;rw[h]at h1;simp only [Am.injEq,Obj.cells.injEq]at h1;rw[<-h1.2.1,hT]at h2
 cases h2
def KU {enc:α->List Value}{sz B:Nat}{v:Value}(h:Vc.Own enc sz T B w v l)(hT:ts.elem T=true)(hk:v.ownBlock=some k):G0 w ts k:=by
 obtain⟨cs,z⟩:=h.heap hk;exact⟨_,_,by unfold Fp;rw[z],hT⟩
def H4 {enc:α->List Value}{sz B:Nat}{v:Value}(h:Vc.Own enc sz T B w v l)(hT:ts.elem T=false)(hk:v.ownBlock=some k):¬ G0 w ts k:=by
 obtain⟨cs,z⟩:=h.heap hk;exact Fp.noTy (cs:=cs.toList) (by unfold Fp;rw[z]) hT
variable {w':World}
def G0.back {S:Nat->Prop}(h:G0 w' ts k)(m:Vc.Mod S w w')(hS:S k->G0 w ts k)(hk:k<w.heap.size):G0 w ts k:=by
 by_cases h9:S k
 ·exact hS h9
 ·obtain⟨cs,T,h1,h2⟩:=h;unfold Fp at h1;rw[m.block k hk h9]at h1;exact⟨cs,T,h1,h2⟩
variable {G:Nat->Prop}{bx:Nat}{room:Int}{vL:Value}
def D3.inX {left:Int}(h:D3 G bx room vL L left w)(hi:Fv bx i):GT G [138,226] w i:=by
 rw[show i=bx from hi];exact⟨h.g0,_,_,h.m,by decide⟩
def D3.inL {left:Int}(h:D3 G bx room vL L left w)(hi:vL.ownBlock=some i):GT G [138,226] w i:=⟨h.gL i hi,KU h.o Fo hi⟩
def X83 (G:Nat->Prop)(bx:Nat)(room:Int)(vL:Value)(L:List Rf)(left:Int)(s:Fj)(w:World)(h:D3 G bx room vL L left w)(J:∀k,G k->k<w.heap.size) :
  G4 145 [Fh bx 0,S s] w (GT G [138,226] w) λu w'=>∃e:Int,u=I e/\Nx (FV G w w') bx w':=by
 refine cM Tryz.func145 (GT G [138,226] w) λz=>?_;have H:=h;have hle:=h.le;have hus:=h.us;have hr1:=h.r1;refine go ?_;refine li (e:=9) (sz:=1) (zs:=[S []]) (pv:=[(0,_)]) (cs:=[_]) RX.all (λb1 w1 e1 x1 m1=>?_);have g1:=z.ge e1;refine Fy x1 H z λH z=>cG (Ql G bx room vL L left [s] _ _ H (Ma m1) (An rfl)) RX.all λu2 w2 x2 Z=>?_;have hsz2:=z.size;refine Fy x2 H z λH z=>?_;obtain⟨e9,rfl,he9⟩:=Z;refine Fk (λc1=>?_) λc1=>?_
 ·refine go ?_;exact⟨_,rfl,z,e9,rfl,H.fin0 J z.size⟩
 refine Gs (GX G bx room vL L left s _ H) λw3 x3=>Fy x3 H z λH z=>?_;refine Gb (λc2=>?_) λc2=>?_
 ·refine go ?_;exact⟨_,rfl,z,7,rfl,H.fin0 J z.size⟩
 refine go ?_;have O:=z.size;refine cD (Sj G bx room vL L left s _ H) (.inl rfl) λu4 w4 x4 Y=>?_;have hsz4:=z.size;have z:=z.own x4 (λi hi J=>(h.inX hi));obtain⟨rfl,vL2,hc⟩:=Y;have H:=hc.wide (G':=λk=>G k\/w.heap.size<=k) (λk hk=>hk.imp (λh=>h) (λe=>Ae O e));refine Gz (OC _ bx room _ _ _ _ H) λu5 w5 x5 ha=>?_;have hsz5:=z.size;have z:=z.own x5 (λi hi J=>(h.inX hi));obtain⟨rfl,left2,H⟩:=ha;refine go ?_;exact⟨_,rfl,z,0,rfl,H.fin J z.size⟩
def X84 (G:Nat->Prop)(bx:Nat)(room:Int)(vL:Value)(L:List Rf)(left:Int)(s:Fj)(w:World)(h:D3 G bx room vL L left w)(O:∀k,G k->k<w.heap.size) :
  G4 209 [Fh bx 0,S s] w (GT G [138,226] w) λu w'=>∃e:Int,u=I e/\Nx (FV G w w') bx w':=by
 refine cM Tryz.func209 (GT G [138,226] w) λH=>?_;have z:=h;have hle:=h.le;have hus:=h.us;have hr1:=h.r1;refine go ?_;refine li (e:=9) (sz:=1) (zs:=[S []]) (pv:=[(0,_)]) (cs:=[_]) RX.all (λb1 w1 e1 x1 m1=>?_);have g1:=H.ge e1;refine Fy x1 z H λz H=>cG (Ql G bx room vL L left [s] _ _ z (Ma m1) (An rfl)) RX.all λu2 w2 x2 ha=>?_;have hsz2:=H.size;refine Fy x2 z H λz H=>?_;obtain⟨e9,rfl,he9⟩:=ha;refine Fk (λc1=>?_) λc1=>?_
 ·refine go ?_;exact⟨_,rfl,H,e9,rfl,z.fin0 O H.size⟩
 refine Gs (GX G bx room vL L left s _ z) λw3 x3=>Fy x3 z H λz H=>?_;refine Gb (λc2=>?_) λc2=>?_
 ·refine go ?_;exact⟨_,rfl,H,7,rfl,z.fin0 O H.size⟩
 have J:HI L s<L.length:=O6 (by simpa using c2);have hq:L≠[]:=λe=>by rw[e]at J;exact absurd J (Bh _)
 obtain⟨f,hk⟩:∃f,L[HI L s]?=some f:=⟨_,Aq J⟩;have Y:=Ag hk;obtain⟨bs,hc,hp⟩:=z.e.row f Y;refine Gt 150001000100001000 λw4 x4=>Fy x4 z H λz H=>?_;refine go ?_;refine dL rfl (λ_ hR=>((z.m.ext hR).at rfl)) (go ?_);refine dL rfl (λ_ hR=>((z.m.ext hR).at rfl)) (go ?_);refine di 226 3 (z.o.arr Fg).sl rfl ((z.o.arr Fg).lt hk) (go ?_);refine dL rfl (λ_ hR=>((((z.o.arr Fg).ext hR).row hk).at rfl)) (F3 (v:=I ↑f.n) rfl (OM (e:=5) (k:=1) Ff (hc.arr Fg).sl rfl) (by rw[hp]) (F3 (v:=Fh (base vL).1 (HI L s*3+0)) rfl (Ir (e:=226) (k:=3) Ff z.o.sl rfl rfl J) (by show Fh _ _=Fh _ _;rw[Kz z.o hq];congr 1;omega) (go ?_)));refine Ie (enc:=Rf.cs) (sz:=3) (l:=L) (i:=HI L s) (j:=2) (x:=⟨f.nm,f.v,f.n,↑f.n⟩) (vs:=[I ↑f.n]) Fg rfl z.o rfl rfl rfl Ff J (by rw[UG hk];rfl) (An rfl) (by intro v hv;rw[Af.1 hv];rfl) (.inl rfl) (λw5 x5 xs5 Z=>?_);have hg:=Wj (x:=⟨f.nm,f.v,f.n,↑f.n⟩) hk;have hl:=z.setF x5 Z hk rfl ((z.e.mod x5 (λf hf k hk e=>z.e.ne z.o rfl f hf k hk e)).row f Y) (λk hj=>z.gf f Y k hj) (by dsimp only at hg;omega);have H:=H.own x5 (λi hi _=>h.inL hi);have z:=hl;refine Gz (OC _ bx room _ _ _ _ z) λu6 w6 x6 hh=>?_;have hsz6:=H.size;have H:=H.own x6 (λi hi O=>(h.inX hi));obtain⟨rfl,left2,z⟩:=hh;refine go ?_;exact⟨_,rfl,H,0,rfl,z.fin0 O H.size⟩
def D3.modge {S:Nat->Prop}{left:Int}(h:D3 G bx room vL L left w)(m:Vc.Mod S w w')(hS:∀k,S k->w.heap.size<=k):D3 G bx room vL L left w':=
 ⟨h.m.mod m (λe=>by have h1:=hS _ e;have h2:=h.m.lt;omega),h.o.mod m (λk hk e=>by have h1:=hS _ e;have h2:=(h.o.lt k hk).2;omega),h.e.mod m (λf z k hk e=>by have h1:=hS _ e;have h2:=h.e.lt f z k hk;omega),h.g0,h.gL,h.gf,h.nl,h.r1,h.us,h.le,h.lf⟩
def S0 (L:List Rf)(i:Nat)(x:Rf):Gy (L.take i++[x]++L.drop i)=Gy L+x.n:=by
 have h1:=congrArg Gy (AV i L);unfold Gy at *;simp only [A3,Bt,Ak,A4,Bg,List.sum_nil]at *;omega
def VI {x:Rf}(h:f∈L.take i++[x]++L.drop i):f∈L\/f=x:=by
 rcases Al.1 h with h|h
 ·rcases Al.1 h with h|h
  ·exact .inl (Cr h)
  ·exact .inr (Af.1 h)
 ·exact .inl (C3 h)
def IZ (G:Nat->Prop)(bx:Nat)(room:Int)(vL:Value)(L:List Rf)(left:Int)(s:Fj)(w:World)(h:D3 G bx room vL L left w) :
  Gi 232 [Fh bx 0,S s] w λu _=>∃(vb:Value) (e:Int),u=.tuple #[vb,I e]:=by
 refine cE Tryz.func232 λH=>?_;have z:=h;have hle:=h.le;have hus:=h.us;have hr1:=h.r1;refine Gs (GX G bx room vL L left s _ z) λw1 x1=>Fy x1 z H λz H=>?_;refine Gb (λZ=>?_) λZ=>?_
 ·refine go ?_;exact⟨_,rfl,H,_,_,rfl⟩
 have J:HI L s<L.length:=O6 (by simpa using Z);have hne:L≠[]:=λe=>by rw[e]at J;exact absurd J (Bh _)
 obtain⟨f,hk⟩:∃f,L[HI L s]?=some f:=⟨_,Aq J⟩;have O:=Ag hk;obtain⟨bs,hb9,hbl⟩:=z.e.row f O;have hse:=(Oq hk).1;refine go ?_;refine Jx (e:=5) (sz:=1) rfl Ff RX.all (λb1 w2 e1 x2 m1=>?_);have g1:=H.ge e1;refine Fy x2 z H λz H=>go ?_;refine dl rfl (z.m.at rfl) (go ?_);refine di 226 3 (z.o.arr Fg).sl rfl ((z.o.arr Fg).lt hk) (go ?_);refine dl rfl (((z.o.arr Fg).row hk).at rfl) ?_;have ho:=m1.own (enc:=Fs) (B:=w.heap.size) (l:=[]) (sz:=1) (m:=0) g1 rfl Fg rfl F0;obtain⟨bs2,Y,hbl2⟩:=z.e.row f O;refine Ip (e:=5) (sz:=1) (by':=1) rfl Ff Ff Fg ho ((Y.arr Fg)) rfl rfl (by intro x _ u hu;simp at hu;rcases hu with rfl<;>rfl) Gx Fo H.size (.inl rfl) (λvq w3 ho_n x3=>?_);have H:=H.own x3 F5;refine go ?_;exact⟨_,rfl,H,_,_,rfl⟩
def Xzv (G:Nat->Prop)(bx:Nat)(room:Int)(vL:Value)(L:List Rf)(left:Int)(s p:Fj)(v:Value)(w:World)(h:D3 G bx room vL L left w)(H:∀k,G k->k<w.heap.size)(hv:Vc.Own Fs 1 5 0 w v p)(hpl:p.length<=10000000000000) :
  G4 208 [Fh bx 0,S s,v] w (GT G [138,226] w) λu w'=>∃e:Int,u=I e/\Nx (FV G w w') bx w':=by
 refine cM Tryz.func208 (GT G [138,226] w) λz=>?_;have hd:=h;have hle:=h.le;have hus:=h.us;have hr1:=h.r1;have hz:=hv.lt;have hvb:∀k,v.ownBlock=some k->¬ Fv bx k:=λk hk e=>hv.ne_blk h.m rfl (by rw[<-show k=bx from e];exact hk);refine go ?_;refine li (e:=9) (sz:=1) (zs:=[S []]) (pv:=[(0,_)]) (cs:=[_]) RX.all (λb1 w1 e1 x1 m1=>?_);have g1:=z.ge e1;have o1_hv:=hv.ltb e1;refine FC x1 hd hv z λhd hv z=>cG (Ql G bx room vL L left [s] _ _ hd (Ma m1) (An rfl)) RX.all λu2 w2 x2 xo=>?_;have hsz2:=z.size;refine FC x2 hd hv z λhd hv z=>?_;obtain⟨e9,rfl,x6⟩:=xo;refine Fk (λc1=>?_) λc1=>?_
 ·refine go ?_;exact⟨_,rfl,z,e9,rfl,hd.fin0 H z.size⟩
 have h0:e9=0:=AF c1;refine Gs (GX G bx room vL L left s _ hd) λw3 x3=>FC x3 hd hv z λhd hv z=>?_;refine g0 ?_;refine GP (G:=Unit) (λuu=>[(0,Fh bx 0),(1,S s),(2,v),(8,I ↑(HI L s)),(9,B (LM L s))]) (λuu w'=>Mod (GT G [138,226] w) w w'/\D3 G bx room vL L left w'/\Vc.Own Fs 1 5 0 w' v p/\(Gy L:Int)+p.length<=room/\(LM L s=false->L.length<4096)) ?_ ?_
 ·refine go ?_;refine HP (R:=Fq) Fq.refl (λ_ _ _=>Fq.trans) Ff [8,17] [(0,.p,false),(2,.p,false),(3,.p,false),(5,.p,false),(6,.p,false),(7,.p,false),(8,.l,false),(1,.x,false),(4,.p,false),(9,.p,false),(10,.p,false),(11,.p,false),(12,.p,false),(13,.p,false),(14,.p,false),(15,.p,false),(16,.p,false),(17,.l,false),(18,.p,false),(19,.p,false),(20,.p,false),(21,.p,false)] rfl Ff Ff (λw4 xg=>?_);have x4:=FE xg;clear xg;refine FC x4 hd hv z λhd hv z=>go ?_;refine dv 5 1 (hv.arr Fg).sl (go ?_);refine dL rfl (λ_ hR=>((hd.m.ext hR).at rfl)) (cP (X82 G bx room vL L left _ hd) RX.ext λw5 x5=>FC x5 hd hv z λhd hv z=>?_);refine FJ 34 (λc2=>?_) λc2=>?_
  ·refine go ?_;refine GU rfl (go ?_);exact⟨_,rfl,z,6,rfl,hd.fin0 H z.size⟩
  refine go ?_;refine IR 37 rfl (λc3=>?_) (λc3=>?_)
  ·refine go ?_;refine dL rfl (λ_ hR=>((hd.m.ext hR).at rfl)) (dv 226 3 (hd.o.arr Fg).sl (dp (HY rfl rfl) ?_));refine Fk (λc4=>?_) λc4=>?_
   ·refine go ?_;exact⟨_,rfl,z,6,rfl,hd.fin0 H z.size⟩
   refine go ?_;exact⟨(),Hc,z,hd,hv,by omega,λ_=>by omega⟩
  refine go ?_;refine GS rfl (go ?_);exact⟨(),Hc,z,hd,hv,by omega,λh9=>absurd h9 (by simpa using c3)⟩
 rintro _ uu w6 ⟨z,hd,hv,h7a,h7b⟩;refine GP (G:=Value×List Rf) (λ(v2,L2)=>[(0,Fh bx 0),(2,v),(8,I ↑(HI L s))]) (λ(v2,L2) w'=>Mod (GT G [138,226] w) w w'/\Vc.Own Fs 1 5 0 w' v p/\D3 (λk=>G k\/w.heap.size<=k) bx room v2 L2 left w'/\HI L s<L2.length/\(Gy L2:Int)+p.length<=room) ?_ ?_
 ·refine Gb (λc5=>?_) λc5=>?_
  ·have xn:LM L s=false:=by simpa using c5
   have hl9:=h7b xn;have hl:=Vi L s;refine go ?_;refine Jx (e:=226) (sz:=3) rfl Ff RX.all (λb2 w7 e2 x7 m2=>?_);have g2:=z.ge e2;have o2_hv:=hv.ltb e2;refine FC x7 hd hv z λhd hv z=>go ?_;refine dl rfl (hd.m.at rfl) (go ?_);refine dp (HH (e:=226) (k:=3) Ff (hd.o.arr Fg).sl rfl rfl rfl (Ab _) hl) ?_;have hn:=m2.own (enc:=Rf.cs) (B:=w.heap.size) (l:=[]) (sz:=3) (m:=0) g2 rfl Fg rfl (An rfl);refine Ip (e:=226) (sz:=3) (by':=48) rfl Ff Ff Fg hn ((hd.o.arr Fg).slice (Ab _) hl) rfl rfl (by intro x hc u hu;have h7:=h.e.one0 hc;simp at hu;rcases hu with rfl|rfl|rfl;rfl;exact h7;rfl) Gx Fo z.size (.inl rfl) (λv1 w8 Y x8=>?_);have hd:=hd.mod x8 (by exact(λk hk e=>by have h1:=(hn.lt k e).1;have h2:=H k hk;omega));have hv:=hv.mod x8 (by exact(λk hk e=>by have h1:=(hn.lt k e).1;have h2:=(hz k hk).2;omega));have z:=z.own x8 F5;have hn:=Y;refine go ?_;refine db (zs:=[S [],.slice none 0 0,.int .i64 0]) (pl:=[(0,1),(1,1),(2,1)]) (pv:=[(0,_)]) (cs:=[_,.slice none 0 0,.int .i64 0]) ?_;refine lA 226 rfl λb3 w9 e3 x9 m3=>?_;have g3:=z.ge e3;have o3_hv:=hv.ltb e3;refine FQ x9 hd hv hn z λhd hv hn z=>?_;refine G8 ⟨s,.slice none 0 0,0,0⟩ hn m3 (λv2 w10 Y h6=>?_) (h1:=(by intro x hc u hu;rw[Af.1 hc]at hu;simp [Rf.cs]at hu;rcases hu with rfl|rfl|rfl<;>rfl));have hd:=hd.mod h6 (by exact(λk hk e=>by have h1:=(hn.lt k e).1;have h2:=H k hk;omega));have hv:=hv.mod h6 (by exact(λk hk e=>by have h1:=(hn.lt k e).1;have h2:=(hz k hk).2;omega));have z:=z.own h6 F5;have hn:=Y;clear m3;refine go ?_;refine dl rfl (hd.m.at rfl) (go ?_);refine dp (HH (e:=226) (k:=3) Ff (hd.o.arr Fg).sl rfl rfl rfl hl (Aa _)) (Ip (e:=226) (sz:=3) (by':=48) rfl Ff Ff Fg hn ((hd.o.arr Fg).slice hl (Aa _)) rfl rfl (by intro x hc u hu;have h7:=h.e.one0 hc;simp at hu;rcases hu with rfl|rfl|rfl;rfl;exact h7;rfl) Gx Fo z.size (.inl rfl) (λv3 w11 Y ht=>?_));have hd:=hd.mod ht (by exact(λk hk e=>by have h1:=(hn.lt k e).1;have h2:=H k hk;omega));have hv:=hv.mod ht (by exact(λk hk e=>by have h1:=(hn.lt k e).1;have h2:=(hz k hk).2;omega));have z:=z.own ht F5;have hn:=Y;refine go ?_;refine Kc (b:=bx) (o:=1) (v:=?v46) rfl rfl ?h46 ?n46 Ff (hd.m) ?o46 (.inl rfl) (λx0 hj xs12 xc=>?k46)
   case h46=>conv=>lhs;whnf
   case n46=>exact hn.sl.one
   case o46=>exact An rfl
   have hv:=hv.mod hj Fw;have z:=z.own hj (λi hi H=>(h.inX hi));dsimp only [Gw,AU,AP,AZ]at xc;have xu:Vc.Own Rf.cs 3 226 w.heap.size x0 v3 (L.take (HI L s)++[⟨s,.slice none 0 0,0,0⟩]++L.drop (HI L s)):=by
    have h9:=hn.mod hj (λk hk e=>by have h1:=(hn.lt k hk).1;have h2:=H bx h.g0;have h3:k=bx:=e;omega);simpa using h9
   have xt:=hd.new hj xc xu (λf hf=>(VI hf).elim (λh9=>⟨h.nl f h9,.inl ⟨f,h9,rfl,rfl⟩⟩) (λh9=>by rw[h9];exact⟨x6 h0 s Ai,.inr ⟨rfl,rfl⟩⟩)) (by rw[S0];show((Gy L+0:Nat):Int)<=room;omega) Gx h.lf;have hd:=xt;refine go ?_;exact⟨(v3,(L.take (HI L s)++[⟨s,.slice none 0 0,0,0⟩]++L.drop (HI L s))),Kq,z,hv,hd,by simp;omega,by rw[S0];show((Gy L+0:Nat):Int)+_<=room;omega⟩
  refine go ?_;exact⟨(vL,L),Kq,z,hv,hd.wide (λ_ h=>.inl h),O6 (by simpa using c5),h7a⟩
 rintro _ ⟨v2,L2⟩ w13 ⟨z,hv,hd,hil2,hus2⟩;have xz:=hd.m;have J:=hd.o.arr Fg;have xa:L2≠[]:=λe=>by rw[e]at hil2;exact absurd hil2 (Bh _)
 obtain⟨f,hk⟩:∃f,L2[HI L s]?=some f:=⟨_,Aq hil2⟩;have xk:=Ag hk;obtain⟨bs,xe,xl⟩:=hd.e.row f xk;have hse:=(Oq hk).1;refine go ?_;have xd:=z;have hD:w.heap.size<=w13.heap.size:=z.size;have O:=hd;have ha:=J;have Z:=xz;have hg:=hv;refine HP (R:=Mod (Im w13.heap.size)) (Far.refl _) Far.trans Ff [3,9,13] [(0,.p,false),(1,.p,false),(2,.p,false),(3,.l,false),(4,.p,false),(6,.p,false),(7,.p,false),(8,.p,false),(9,.l,false),(10,.p,false),(11,.p,false),(12,.p,false),(13,.l,false),(15,.p,false),(5,.x,false),(14,.x,false),(16,.x,false),(17,.p,false),(18,.p,false),(19,.x,true)] rfl Ff Ff (λxv hp=>?_);have xb:=FE hp;clear hp;refine FQ xb hv hd J z λhv hd J z=>?_;have hs:Mod (Im w13.heap.size) w13 xv:=Far.of_ext xb;refine go ?_;refine dL rfl (λ_ hR=>((Z.far (hs.own hR (λ_ h _=>h))).at rfl)) (go ?_);refine dL rfl (λ_ hR=>((Z.far (hs.own hR (λ_ h _=>h))).at rfl)) (FN 226 3 J.sl (J.lt hk) ?_);refine go ?_;refine dL rfl (λ_ hR=>(((ha.far Fo (hs.own hR (λ_ h _=>h))).row hk).at rfl)) (go ?_);refine Jx (e:=5) (sz:=1) rfl Ff RX.far (λb4 w15 e4 xj m4=>?_);have g4:=z.ge e4;have o4_hv:=hv.ltb e4;have gs4:w13.heap.size<=b4:=by have:=hs.size;omega
 refine FQ xj hv hd z hs λhv hd z hs=>?_;have hq:=m4.own (enc:=Fs) (B:=w13.heap.size) (l:=[]) (sz:=1) (m:=0) gs4 rfl Fg rfl (An rfl);refine Ht (lx:=bs) hq ((xe.mod hs (λk hk e=>by have h1:=(xe.lt k hk).2;unfold Im at e;omega)).arr Fg) (λvq1 w16 hh xh=>?_) (hR:=(.inr (Far.own hq (Aa _))));have hs:=hs.own xh F5;have z:=z.own xh (λi hi H=>(by have:=(hq.lt i hi).1;omega));have hq:=hh;refine Ht (lx:=p) hq ((hg.mod hs (λk hk e=>by have h1:=(hg.lt k hk).2;unfold Im at e;omega)).arr Fg) (λhy w17 hh xi=>?_) (hR:=(.inr (Far.own hq (Aa _))));have hs:=hs.own xi F5;have z:=z.own xi (λi hi H=>(by have:=(hq.lt i hi).1;omega));have hq:=hh;refine F3 (v:=Fh (base v2).1 (HI L s*3+0)) rfl (Ir (e:=226) (k:=3) Ff O.o.sl rfl rfl hil2) (by show Fh _ _=Fh _ _;rw[Kz O.o xa];congr 1;omega) (go ?_);have hw:=O.modge hs (λk hk=>hk);have xm:=hq.lt;refine Ie (enc:=Rf.cs) (sz:=3) (l:=L2) (i:=HI L s) (j:=1) (x:=⟨f.nm,hy,f.n+p.length,f.la⟩) (vs:=[hy]) Fg rfl hw.o rfl rfl (hq.sl.cells) Ff hil2 (by rw[UG hk];rfl) (An rfl) (by intro v hv;rw[Af.1 hv];exact hq.sl.one) (.inl rfl) (λw18 h5 xs18 xf=>?_);have xp:=Wj (x:=⟨f.nm,hy,f.n+p.length,f.la⟩) hk;have xq:=hq.mod h5 (λk hk e=>hq.ne hw.o rfl hk e);have xx:=hw.setF h5 xf hk rfl ⟨_,xq.mono (Ab _),by simp [xl]⟩ (λk xr=>.inr (Ae hD (xm k xr).1)) (by dsimp only at xp;omega);have z:=z.own h5 (λi hi hr=>by have h7:=O.inL hi;exact⟨h7.1.elim (λh=>h) (λh9=>absurd hr (AR.2 h9)),h7.2.back xd (λh9=>h9.2) hr⟩);have xy:=xx;clear hs xd O ha Z hg;refine Gz (OC _ bx room _ _ _ _ xy) λu19 w19 xw h8=>?_;have hsz19:=z.size;have z:=z.own xw (λi hi H=>(h.inX hi));obtain⟨rfl,left2,hd⟩:=h8;refine go ?_;exact⟨_,rfl,z,0,rfl,hd.fin H z.size⟩
section
variable {G:Nat->Prop}{bx:Nat}{room left left':Int}{vL v':Value}{L L':List Rf}{w w':World}
def D3.put {x:Rf}(h:D3 G bx room vL L left w)(m:Vc.Mod (Fv bx) w w')(hm:Fp w' bx [I room,v',I left] 138){B:Nat}(ho:Vc.Own Rf.cs 3 226 B w' v' L')(hB:∀k,B<=k->G k)(hs:∀f∈L',f∈L\/f=x)(hx:∃bs:Fj,Vc.Own Fs 1 5 0 w' x.v bs/\bs.length=x.n)(hg:∀k,x.v.ownBlock=some k->G k)(hn:x.nm.length<=64)(hu:(Gy L':Int)<=room)(hl:L'.length<=4096) :
  D3 G bx room v' L' left w':=by
 have he:=h.e.mod m (h.e.ne_blk h.m rfl);refine⟨hm,ho.mono (Ab _),⟨λf z=>?_⟩,h.g0,λk hk=>hB k (ho.lt k hk).1,λf z k hk=>?_,λf z=>?_,h.r1,hu,hl,h.lf⟩
 ·rcases hs f z with h9|h9
  ·exact he.row f h9
  ·rw[h9];exact hx
 ·rcases hs f z with h9|h9
  ·exact h.gf f h9 k hk
  ·rw[h9]at hk;exact hg k hk
 ·rcases hs f z with h9|h9
  ·exact h.nl f h9
  ·rw[h9];exact hn
def D3.cut (h:D3 G bx room vL L left w){B:Nat}(hB:B=w.heap.size):D3 (λk=>G k/\k<B) bx room vL L left w:=by
 subst hB;exact⟨h.m,h.o,h.e,⟨h.g0,h.m.lt⟩,λk hk=>⟨h.gL k hk,(h.o.lt k hk).2⟩,λf z k hk=>⟨h.gf f z k hk,h.e.lt f z k hk⟩,h.nl,h.r1,h.us,h.le,h.lf⟩
def D3.less {c:Bool}{i:Nat}(h:D3 G bx room vL (if c then L.eraseIdx i else L) left w)(hi:c=true->i<L.length):∃L2,(∀f∈L2,f∈L)/\Gy L2<=Gy L/\L2.length<=L.length/\D3 G bx room vL L2 left w:=by
 refine⟨_,λf z=>?_,?_,?_,h⟩<;>cases c
 ·exact z
 ·exact Ef z
 ·exact Aa _
 ·have H:=Oq (Aq (hi rfl));show Gy (L.eraseIdx i)<=_;omega
 ·exact Aa _
 ·have H:=Oq (Aq (hi rfl));show(L.eraseIdx i).length<=_;omega
end
def Xzw (G:Nat->Prop)(bx:Nat)(room:Int)(vL:Value)(L:List Rf)(left:Int)(s t:Fj)(w:World)(h:D3 G bx room vL L left w)(O:∀k,G k->k<w.heap.size) :
  G4 321 [Fh bx 0,S s,S t] w (GT G [138,226] w) λu w'=>∃e:Int,u=I e/\Nx (FV G w w') bx w':=by
 refine cM Tryz.func321 (GT G [138,226] w) λJ=>?_;have z:=h;have hle:=h.le;have hus:=h.us;have hr1:=h.r1;refine go ?_;refine li (e:=9) (sz:=1) (zs:=[S []]) (pv:=[(0,_),(1,_)]) (cs:=[_,_]) RX.all (λb1 w1 e1 x1 m1=>?_);have g1:=J.ge e1;refine Fy x1 z J λz J=>cG (Ql G bx room vL L left [s,t] _ _ z (Xxa m1) (An rfl)) RX.all λu2 w2 x2 xi=>?_;have hsz2:=J.size;refine Fy x2 z J λz J=>?_;obtain⟨e9,rfl,xr⟩:=xi;refine Fk (λc1=>?_) λc1=>?_
 ·refine go ?_;exact⟨_,rfl,J,e9,rfl,z.fin0 O J.size⟩
 have h0:e9=0:=AF c1;refine Gs (GX G bx room vL L left s _ z) λw3 x3=>Fy x3 z J λz J=>?_;refine Gb (λc2=>?_) λc2=>?_
 ·refine go ?_;exact⟨_,rfl,J,7,rfl,z.fin0 O J.size⟩
 have xg:LM L s=true:=by simpa using c2
 have hr:HI L s<L.length:=O6 (by simpa using c2);have hne:L≠[]:=λe=>by rw[e]at hr;exact absurd hr (Bh _)
 obtain⟨f,hk⟩:∃f,L[HI L s]?=some f:=⟨_,Aq hr⟩;have ha:=Ag hk;obtain⟨bs,H,xf⟩:=z.e.row f ha;have h6:=z.e.one ha;have hvb:∀k,f.v.ownBlock=some k->¬ Fv bx k:=λk hk e=>h.e.ne_blk h.m rfl f ha k hk e;refine go ?_;refine dp (KI rfl rfl) ?_;refine Fk (λc3=>?_) λc3=>?_
 ·refine Gz (OC _ bx room _ _ _ _ z) λu4 w4 x4 xh=>?_;have hsz4:=J.size;have H:=H.mod x4 Fw;have J:=J.own x4 (λi hi O=>(h.inX hi));obtain⟨rfl,hw,z⟩:=xh;refine go ?_;exact⟨_,rfl,J,0,rfl,z.fin0 O J.size⟩
 refine go ?_;refine dl rfl (z.m.at rfl) (go ?_);refine di 226 3 (z.o.arr Fg).sl rfl ((z.o.arr Fg).lt hk) (dq (Fx Ff rfl rfl ((z.o.arr Fg).row hk)) (aL [S [],.slice none 0 0,.int .i64 0] λb2 w5 e2 x5 Z=>?_));have g2:=J.ge e2;refine FC x5 z H J λz H J=>Gg Z (λw6 x6 xs6 Z=>?_) (h1:=by intro u hu;simp at hu;rcases hu with rfl|rfl|rfl;rfl;exact h6;rfl);have z:=z.mod x6 (λk hk e=>by have h1:=O k hk;have h2:k=b2:=e;omega);have H:=H.mod x6 Fw;have J:=J.o1 x6;refine go ?_;refine HL Z (λw7 x7 xs7 Z=>?_) (hv:=by rfl);have z:=z.mod x7 (λk hk e=>by have h1:=O k hk;have h2:k=b2:=e;omega);have H:=H.mod x7 Fw;have J:=J.o1 x7;refine go ?_;have h5:=J.size;have hnb2:¬ Fv bx b2:=λe=>by have h1:=O bx h.g0;have h2:b2=bx:=e;omega
 refine cD (Sj _ bx room vL L left s _ z) (.inl rfl) λu8 w8 x8 xn=>?_;have hsz8:=J.size;have H:=H.mod x8 Fw;have Z:=Z.mod x8 Fw;have J:=J.own x8 (λi hi O=>(h.inX hi));obtain⟨rfl,xq,hp⟩:=xn;rw[if_pos xg]at hp;have z:=hp.wide (G':=λk=>G k\/w.heap.size<=k) (λk hk=>hk.imp (λh=>h) (λe=>Ae h5 e));have hse:=Oq hk;refine go ?_;have ht:=J.size;refine cD (Sj _ bx room xq _ left t _ z) (.inl rfl) λu9 w9 x9 xb=>?_;have hsz9:=J.size;have H:=H.mod x9 Fw;have Z:=Z.mod x9 Fw;have J:=J.own x9 (λi hi O=>(h.inX hi));obtain⟨rfl,xc,hp⟩:=xb;obtain⟨L2,hs2,hsu2,hle2,xa⟩:=hp.less (λh9=>O6 h9);have z:=xa.wide (G':=λk=>G k\/w.heap.size<=k) (λk hk=>hk.elim (λh=>h) (λe=>.inr (Ae ht e)));have hl:=Vi L2 t;refine Gs (GX _ bx room xc L2 left t _ z) λhz xk=>FQ xk H Z z J λH Z z J=>?_;have hb2l:=Z.lt;obtain⟨B9,hB9⟩:∃B9,B9=hz.heap.size:=⟨_,rfl⟩;have xo:w.heap.size<=B9:=by rw[hB9];exact J.size
 have z:=z.cut hB9;have hS:Sz B9 hz:=⟨Cb hB9⟩;refine go ?_;refine Jx (e:=226) (sz:=3) rfl Ff RX.all (λb3 w11 e3 xd m3=>?_);have g3:=J.ge e3;have n3_2:=Z.ltb e3;refine Ga xd H Z z hS J λH Z z hS J=>go ?_;refine dl rfl (z.m.at rfl) (go ?_);refine dp (HH (e:=226) (k:=3) Ff (z.o.arr Fg).sl rfl rfl rfl (Ab _) hl) ?_;have hn:=m3.own (enc:=Rf.cs) (B:=B9) (l:=[]) (sz:=3) (m:=0) Fe rfl Fg rfl (An rfl);refine Ip (e:=226) (sz:=3) (by':=48) rfl Ff Ff Fg hn ((z.o.arr Fg).slice (Ab _) hl) rfl rfl (by intro x hg u hu;have h7:=z.e.one (Cr (C3 hg));simp at hu;rcases hu with rfl|rfl|rfl;rfl;exact h7;rfl) Gx Fo hS.le (.inl rfl) (λv1 w12 Y hc=>?_);have H:=H.mod hc (by exact(λk hk e=>by have h1:=(hn.lt k e).1;have h2:=O k (h.gf f ha k hk);omega));have Z:=Z.mod hc (by intro h;have h2:b3=b2:=Am.inj h;omega);have z:=z.mod hc (by exact(λk hk e=>by have h1:=(hn.lt k e).1;have h2:k<B9:=hk.2;omega));have hS:=hS.mod hc Fw;have J:=J.own hc (λi hi O=>(by have:=(hn.lt i hi).1;omega));have hn:=Y;refine go ?_;refine dq (Fx (k:=3) Ff rfl rfl Z.row) (lA 226 rfl λb4 w13 e4 xl m4=>?_);have g4:=J.ge e4;refine Ga xl H z hS hn J λH z hS hn J=>G8 ⟨t,f.v,f.n,f.la⟩ hn m4 (λv2 w14 Y hh=>?_) (h1:=(by intro x hg u hu;rw[Af.1 hg]at hu;simp [Rf.cs]at hu;rcases hu with rfl|rfl|rfl;rfl;exact h6;rfl)) (hB:=hS.le);have H:=H.mod hh (by exact(λk hk e=>by have h1:=(hn.lt k e).1;have h2:=O k (h.gf f ha k hk);omega));have z:=z.mod hh (by exact(λk hk e=>by have h1:=(hn.lt k e).1;have h2:k<B9:=hk.2;omega));have hS:=hS.mod hh Fw;have J:=J.own hh (λi hi O=>(by have:=(hn.lt i hi).1;omega));have hn:=Y;clear m4;refine go ?_;refine dl rfl (z.m.at rfl) (go ?_);refine dp (HH (e:=226) (k:=3) Ff (z.o.arr Fg).sl rfl rfl rfl hl (Aa _)) (Ip (e:=226) (sz:=3) (by':=48) rfl Ff Ff Fg hn ((z.o.arr Fg).slice hl (Aa _)) rfl rfl (by intro x hg u hu;have h7:=z.e.one (Cr (C3 hg));simp at hu;rcases hu with rfl|rfl|rfl;rfl;exact h7;rfl) Gx Fo hS.le (.inl rfl) (λv3 w15 Y hq=>?_));have H:=H.mod hq (by exact(λk hk e=>by have h1:=(hn.lt k e).1;have h2:=O k (h.gf f ha k hk);omega));have z:=z.mod hq (by exact(λk hk e=>by have h1:=(hn.lt k e).1;have h2:k<B9:=hk.2;omega));have J:=J.own hq (λi hi O=>(by have:=(hn.lt i hi).1;omega));have hn:=Y;refine go ?_;refine Kc (b:=bx) (o:=1) (v:=?v49) rfl rfl ?h49 ?n49 Ff (z.m) ?o49 (.inl rfl) (λxj hj xs16 hy=>?k49)
 case h49=>conv=>lhs;whnf
 case n49=>exact hn.sl.one
 case o49=>exact An rfl
 have H:=H.mod hj Fw;have J:=J.own hj (λi hi O=>(h.inX hi));dsimp only [Gw,AU,AP,AZ]at hy;have xm:Vc.Own Rf.cs 3 226 B9 xj v3 (L2.take (HI L2 t)++[⟨t,f.v,f.n,f.la⟩]++L2.drop (HI L2 t)):=by
  have h9:=hn.mod hj (λk hk e=>by have h1:=(hn.lt k hk).1;have h2:=O bx h.g0;have h3:k=bx:=e;omega);simpa using h9
 have xe:=(z.wide (G':=λk=>G k\/w.heap.size<=k) (λk hk=>hk.1)).put hj hy xm (λk hk=>.inr (Ae xo hk)) (λf hf=>VI hf) ⟨bs,H,xf⟩ (λk hk=>.inl (h.gf f ha k hk)) (xr h0 t (Aj _ Ai)) (by rw[S0];show((Gy L2+f.n:Nat):Int)<=room;omega) Gx;have z:=xe;refine Gz (OC _ bx room _ _ _ _ z) λu17 w17 xp h8=>?_;have hsz17:=J.size;have J:=J.own xp (λi hi O=>(h.inX hi));obtain⟨rfl,hw,z⟩:=h8;refine go ?_;exact⟨_,rfl,J,0,rfl,z.fin O J.size⟩
def DX (G:Nat->Prop)(w0:World)(bx:Nat)(w:World):Prop:=(∀k,G k->k<w0.heap.size)/\w0.heap.size<=w.heap.size/\∃room vL L left,D3 (FV G w0 w) bx room vL L left w
section
variable {G:Nat->Prop}{bx:Nat}{w0 w w' w'':World}{ts:List Nat}
def GZ (h:w.heap.size<=w'.heap.size)(k:Nat)(hk:FV G w0 w k):FV G w0 w' k:=hk.imp (λh=>h) (λe=>⟨e.1,Ay e.2 h⟩)
def DX.lt (h:DX G w0 bx w):∀k,FV G w0 w k->k<w.heap.size:=Jq h.1 h.2.1
def DX.ext (h:DX G w0 bx w)(x:Fq w w'):DX G w0 bx w':=by
 obtain⟨h1,h2,room,vL,L,left,z⟩:=h;exact⟨h1,Ae h2 x.size,room,vL,L,left,(z.ext x).wide (GZ x.size)⟩
instance : Up w w' (DX G w0 bx w) (DX G w0 bx w'):=⟨λx h=>h.ext x⟩
def D3.modS {S:Nat->Prop}{G':Nat->Prop}{room left:Int}{vL:Value}{L:List Rf}(h:D3 G' bx room vL L left w)(m:Vc.Mod S w w')(hS:∀k,G0 w [138,226,5] k->¬ S k):D3 G' bx room vL L left w':=
 ⟨h.m.mod m (hS bx ⟨_,_,h.m,by decide⟩),h.o.mod m (λk hk=>hS k (KU h.o Fo hk)),h.e.mod m (λf z k hk=>by
  obtain⟨bs,h1,h2⟩:=h.e.row f z;exact hS k (KU h1 Fo hk)),h.g0,h.gL,h.gf,h.nl,h.r1,h.us,h.le,h.lf⟩
variable {us:List Nat}
def G0.ne {w:World}{ts:List Nat}{k:Nat}(h:G0 w ts k)(h9:ts.all (λt=>!us.elem t)=true):¬ G0 w us k:=by
 obtain⟨cs,T,h1,h2⟩:=h;refine Fp.noTy h1 ?_;have h3:=AQ.1 h9 T (D9.1 h2);simpa using h3
def DX.mod {S:Nat->Prop}(h:DX G w0 bx w)(m:Vc.Mod S w w')(hS:∀k,G0 w [138,226,5] k->¬ S k):DX G w0 bx w':=by
 obtain⟨h1,h2,room,vL,L,left,z⟩:=h;exact⟨h1,Ae h2 m.size,room,vL,L,left,(z.modS m hS).wide (GZ m.size)⟩
def DX.up (hG:∀k,G k->k<w0.heap.size)(hs:w0.heap.size<=w.heap.size)(hz:w.heap.size<=w'.heap.size)(h:Nx (FV (FV G w0 w) w w') bx w'):DX G w0 bx w':=by
 obtain⟨⟨room,vL,L,left,z⟩,_⟩:=h;exact⟨hG,Ae hs hz,room,vL,L,left,z.wide (λk hk=>hk.elim (GZ hz k) (λe=>.inr ⟨Ae hs e.1,e.2⟩))⟩
def GT.back {i:Nat}(m:Vc.Mod (GT (FV G w0 w) ts w) w w')(h:GT (FV G w0 w') us w' i)(hi:i<w.heap.size)(hu:us.all ts.elem=true):GT (FV G w0 w) ts w i:=by
 have h1:G0 w' ts i:=by
  obtain⟨cs,T,h1,h2⟩:=h.2;exact⟨cs,T,h1,AQ.1 hu T (D9.1 h2)⟩
 exact⟨h.1.imp (λh=>h) (λe=>⟨e.1,hi⟩),h1.back m (λz=>z.2) hi⟩
def J6 (G:Nat->Prop)(w0:World)(bx:Nat)(s:Fj)(w:World)(h:DX G w0 bx w):Calls Tryz.prog 145 #[Fh bx 0,S s] w (Hp (GT (FV G w0 w) [138,226] w) w (λu w'=>∃e:Int,u=I e/\DX G w0 bx w')):=by
 have H:=h.lt;obtain⟨h1,h2,room,vL,L,left,z⟩:=h;exact Calls.mono (X83 _ bx room vL L left s w z H) λe w' ⟨u,e1,m,e9,hu,hd⟩=>⟨u,e1,m,e9,hu,.up h1 h2 m.size hd⟩
def Ng (G:Nat->Prop)(w0:World)(bx:Nat)(s:Fj)(w:World)(h:DX G w0 bx w):Calls Tryz.prog 209 #[Fh bx 0,S s] w (Hp (GT (FV G w0 w) [138,226] w) w (λu w'=>∃e:Int,u=I e/\DX G w0 bx w')):=by
 have H:=h.lt;obtain⟨h1,h2,room,vL,L,left,z⟩:=h;exact Calls.mono (X84 _ bx room vL L left s w z H) λe w' ⟨u,e1,m,e9,hu,hd⟩=>⟨u,e1,m,e9,hu,.up h1 h2 m.size hd⟩
def drename (G:Nat->Prop)(w0:World)(bx:Nat)(s t:Fj)(w:World)(h:DX G w0 bx w):Calls Tryz.prog 321 #[Fh bx 0,S s,S t] w (Hp (GT (FV G w0 w) [138,226] w) w (λu w'=>∃e:Int,u=I e/\DX G w0 bx w')):=by
 have H:=h.lt;obtain⟨h1,h2,room,vL,L,left,z⟩:=h;exact Calls.mono (Xzw _ bx room vL L left s t w z H) λe w' ⟨u,e1,m,e9,hu,hd⟩=>⟨u,e1,m,e9,hu,.up h1 h2 m.size hd⟩
def KD (G:Nat->Prop)(w0:World)(bx:Nat)(s p:Fj)(v:Value)(w:World)(h:DX G w0 bx w)(hv:Vc.Own Fs 1 5 0 w v p)(hp:p.length<=10000000000000):Calls Tryz.prog 208 #[Fh bx 0,S s,v] w (Hp (GT (FV G w0 w) [138,226] w) w (λu w'=>∃e:Int,u=I e/\DX G w0 bx w')):=by
 have H:=h.lt;obtain⟨h1,h2,room,vL,L,left,z⟩:=h;exact Calls.mono (Xzv _ bx room vL L left s p v w z H hv hp) λe w' ⟨u,e1,m,e9,hu,hd⟩=>⟨u,e1,m,e9,hu,.up h1 h2 m.size hd⟩
def MP (G:Nat->Prop)(w0:World)(bx:Nat)(s:Fj)(w:World)(h:DX G w0 bx w):Calls Tryz.prog 232 #[Fh bx 0,S s] w (Hb w (λu _=>∃(vb:Value) (e:Int),u=.tuple #[vb,I e])):=by
 obtain⟨h1,h2,room,vL,L,left,z⟩:=h;exact IZ _ bx room vL L left s w z
end
def J7 (G:Nat->Prop)(w0:World)(bx:Nat)(s:Fj)(w:World)(h:DX G w0 bx w) :
  Gi 320 [Fh bx 0,S s] w λu _=>∃b,u=B b:=by
 refine cE Tryz.func320 λz=>?_;have J:=h;refine Gj (MP G w0 bx s _ J) λu1 w1 O H=>?_;have hsz1:=z.size;have z:=z.trans O;obtain⟨vb1,e1,rfl⟩:=H;refine go ?_;exact⟨_,rfl,z,_,rfl⟩
def X3e (G:Nat->Prop)(w0:World)(bx:Nat)(s p:Fj)(v:Value)(w:World)(h:DX G w0 bx w)(hv:Vc.Own Fs 1 5 0 w v p)(hpl:p.length<=10000000000000)(hsl:s.length<=1000) :
  G4 282 [Fh bx 0,S s,v] w (GT (FV G w0 w) [138,226] w) λu w'=>∃e:Int,u=I e/\DX G w0 bx w':=by
 refine cM Tryz.func282 (GT (FV G w0 w) [138,226] w) λz=>?_;have H:=h;refine wS (g0 ?_);refine GP (G:=Unit) (λuu=>[(0,Fh bx 0),(1,S s),(2,v)]) (λuu w'=>Mod (GT (FV G w0 w) [138,226] w) w w'/\DX G w0 bx w'/\Vc.Own Fs 1 5 0 w' v p/\True) ?_ ?_
 ·refine go ?_;refine dp (I6 rfl rfl (by simp;omega)) (cG (J7 G w0 bx (s++[126]) _ H) RX.all λu1 w1 x1 hf=>?_);have hsz1:=z.size;refine FC x1 H hv z λH hv z=>?_;obtain⟨b9,rfl⟩:=hf;refine Gb (λc1=>?_) λc1=>?_
  ·refine go ?_;refine dp (I6 rfl rfl (by simp;omega)) (cD (J6 G w0 bx (s++[126]) _ H) (.inl rfl) λu2 w2 x2 Z=>?_);have hsz2:=z.size;have hv:=hv.mod x2 (by exact(λk hk e=>H4 hv Fo hk e.2));have z:=z.own x2 (λi hi J=>(GT.back z hi J Fo));obtain⟨e2,rfl,H⟩:=Z;refine Fk (λc2=>?_) λc2=>?_
   ·refine go ?_;exact⟨_,rfl,z,_,rfl,H⟩
   refine go ?_;exact⟨(),Kq,z,H,hv,trivial⟩
  refine go ?_;exact⟨(),Kq,z,H,hv,trivial⟩
 rintro _ uu w3 ⟨z,H,hv,htr⟩;refine go ?_;refine dp (I6 rfl rfl (by simp;omega)) (Gz (KD G w0 bx (s++[126]) p v _ H hv hpl) λu4 w4 x4 Y=>?_);have hsz4:=z.size;have hv:=hv.mod x4 (by exact(λk hk e=>H4 hv Fo hk e.2));have z:=z.own x4 (λi hi J=>(GT.back z hi J Fo));obtain⟨e4,rfl,H⟩:=Y;refine g0 ?_;refine GP (G:=Int) (λO=>[(0,Fh bx 0),(1,S s),(8,I O)]) (λO w'=>Mod (GT (FV G w0 w) [138,226] w) w w'/\Vc.Own Fs 1 5 0 w' v p/\DX G w0 bx w'/\True) ?_ ?_
 ·refine Fk (λc3=>?_) λc3=>?_
  ·refine go ?_;refine dp (I6 rfl rfl (by simp;omega)) (cD (Ng G w0 bx (s++[126]) _ H) (.inl rfl) λu5 w5 x5 hc=>?_);have hsz5:=z.size;have hv:=hv.mod x5 (by exact(λk hk e=>H4 hv Fo hk e.2));have z:=z.own x5 (λi hi J=>(GT.back z hi J Fo));obtain⟨e5,rfl,H⟩:=hc;refine go ?_;exact⟨_,Kq,z,hv,H,trivial⟩
  refine go ?_;exact⟨_,Kq,z,hv,H,trivial⟩
 rintro _ O w6 ⟨z,hv,H,htr⟩;refine GP (G:=Int) (λO=>[(8,I O)]) (λO w'=>Mod (GT (FV G w0 w) [138,226] w) w w'/\Vc.Own Fs 1 5 0 w' v p/\DX G w0 bx w'/\True) ?_ ?_
 ·refine Fk (λc4=>?_) λc4=>?_
  ·refine go ?_;refine dp (I6 rfl rfl (by simp;omega)) (Gz (drename G w0 bx (s++[126]) s _ H) λu7 w7 x7 ha=>?_);have hsz7:=z.size;have hv:=hv.mod x7 (by exact(λk hk e=>H4 hv Fo hk e.2));have z:=z.own x7 (λi hi J=>(GT.back z hi J Fo));obtain⟨e7,rfl,H⟩:=ha;refine go ?_;exact⟨_,Qe,z,hv,H,trivial⟩
  refine go ?_;exact⟨_,Qe,z,hv,H,trivial⟩
 rintro _ O w8 ⟨z,hv,H,htr⟩;refine go ?_;exact⟨_,rfl,z,_,rfl,H⟩
def WO (G:Nat->Prop)(w0:World)(bx:Nat)(s p:Fj)(v:Value)(w:World)(h:DX G w0 bx w)(hv:Fu Fs 1 w v p)(hpl:p.length<=1000000000000)(hsl:s.length<=900) :
  G4 220 [Fh bx 0,S s,v] w (GT (FV G w0 w) [138,226] w) λu w'=>∃e:Int,u=I e/\DX G w0 bx w':=by
 refine cM Tryz.func220 (GT (FV G w0 w) [138,226] w) λz=>?_;have H:=h;refine go ?_;refine dp (GY Ff rfl rfl) ?_;refine FJ 11 (λc1=>?_) λc1=>?_
 ·refine go ?_;refine GU rfl (go ?_);exact⟨_,rfl,z,_,rfl,H⟩
 refine FJ 16 (λc2=>?_) λc2=>?_
 ·refine go ?_;refine GU rfl (go ?_);exact⟨_,rfl,z,_,rfl,H⟩
 refine Fk (λc3=>?_) λc3=>?_
 ·refine go ?_;exact⟨_,rfl,z,_,rfl,H⟩
 refine Gj (Ru p v _ hv Fe) λu1 w1 x1 J=>?_;have hsz1:=z.size;refine Fy x1 H z λH z=>?_;obtain⟨vz,ez,Z,rfl,hZ,hz9⟩:=J;refine Fk (λc4=>?_) λc4=>?_
 ·refine go ?_;exact⟨_,rfl,z,_,rfl,H⟩
 refine Gz (X3e G w0 bx s Z vz _ H (hZ.mono (Ab _)) Fe Fe) λu2 w2 x2 O=>?_;have hsz2:=z.size;have z:=z.own x2 (λi hi Y=>(GT.back z hi Y Fo));obtain⟨e2,rfl,H⟩:=O;refine go ?_;exact⟨_,rfl,z,_,rfl,H⟩
structure SzD (G:Nat->Prop)(w0:World)(B:Nat)(bx:Nat)(w:World):Prop where
 le:B<=w.heap.size
 lo:∀k,G k->k<w0.heap.size
 hs:w0.heap.size<=B
 d:∃room vL L left,D3 (λk=>G k\/(w0.heap.size<=k/\k<B)) bx room vL L left w
section
variable {G:Nat->Prop}{bx B:Nat}{w0 w w':World}
def DX.sz (h:DX G w0 bx w):SzD G w0 w.heap.size bx w:=⟨Aa _,h.1,h.2.1,h.2.2⟩
def SzD.dx (h:SzD G w0 B bx w):DX G w0 bx w:=by
 obtain⟨room,vL,L,left,z⟩:=h.d;exact⟨h.lo,Ae h.hs h.le,room,vL,L,left,z.wide (λk hk=>hk.imp (λh=>h) (λe=>⟨e.1,Ay e.2 h.le⟩))⟩
def SzD.ext (h:SzD G w0 B bx w)(x:Fq w w'):SzD G w0 B bx w':=by
 obtain⟨room,vL,L,left,z⟩:=h.d;exact⟨Ae h.le x.size,h.lo,h.hs,room,vL,L,left,z.ext x⟩
instance : Up w w' (SzD G w0 B bx w) (SzD G w0 B bx w'):=⟨λx h=>h.ext x⟩
def SzD.mod {S:Nat->Prop}(h:SzD G w0 B bx w)(m:Vc.Mod S w w')(hS:∀k,k<B->G0 w [138,226,5] k->¬ S k):SzD G w0 B bx w':=by
 obtain⟨room,vL,L,left,z⟩:=h.d;have hb:∀k,(G k\/(w0.heap.size<=k/\k<B))->k<B:=λk hk=>hk.elim (λe=>Ay (h.lo k e) h.hs) (λe=>e.2);exact⟨Ae h.le m.size,h.lo,h.hs,room,vL,L,left,z.m.mod m (hS bx (hb _ z.g0) ⟨_,_,z.m,by decide⟩),z.o.mod m (λk hk=>hS k (hb _ (z.gL k hk)) (KU z.o Fo hk)),z.e.mod m (λf H k hk=>by
  obtain⟨bs,h1,h2⟩:=z.e.row f H;exact hS k (hb _ (z.gf f H k hk)) (KU h1 Fo hk)),z.g0,z.gL,z.gf,z.nl,z.r1,z.us,z.le,z.lf⟩
end
def G0.blk {b:Nat}{cs:List Value}(h:Fp w b cs T)(hT:ts.elem T=false):∀k,G0 w ts k->¬ Fv b k:=λk hk e=>Fp.noTy h hT (by rw[<-show k=b from e];exact hk)
structure LE (G:Nat->Prop)(w0:World)(bl bx idx:Nat)(vD vL:Value)(dead:Bool)(LL:List Value)(w:World):Prop where
 d:DX G w0 bx w
 m:Fp w bl [Fh bx 0,S [115],I ↑idx,vD,vL,B dead] 135
 o:Vc.Own JE 1 82 0 w vL LL
 gb:FV G w0 w bl
 gv:∀k,vL.ownBlock=some k->FV G w0 w k
 bd:idx+LL.length<=1099511627776
def LX (G:Nat->Prop)(w0:World)(bl bx:Nat)(w:World):Prop:=∃idx vD vL dead LL,LE G w0 bl bx idx vD vL dead LL w
variable {w0:World}
def LX.ext {bl:Nat}(h:LX G w0 bl bx w)(x:Fq w w'):LX G w0 bl bx w':=by
 obtain⟨idx,vD,vL,dead,LL,h⟩:=h;exact⟨idx,vD,vL,dead,LL,h.d.ext x,h.m.ext x,h.o.ext x,GZ x.size _ h.gb,λk hk=>GZ x.size _ (h.gv k hk),h.bd⟩
instance {G : Nat->Prop} {bl bx:Nat} {w0 w w':World} : Up w w' (LX G w0 bl bx w) (LX G w0 bl bx w'):=⟨λx h=>h.ext x⟩
def Iw (G:Nat->Prop)(w0:World)(bl bx idx:Nat)(vD vL:Value)(dead:Bool)(LL:List Value)(w:World)(h:LE G w0 bl bx idx vD vL dead LL w) :
  FX 31 [Fh bl 0] w (I ↑(idx+LL.length)):=by
 refine cE Tryz.func31 λz=>?_;have hm:=h.m;have H:=h.o;have hbd:=h.bd;refine Gt 100010001000 λw1 J=>?_;have z:=z.trans J;refine go ?_;refine dL rfl (λ_ hR=>((hm.ext (z.trans hR)).at rfl)) (go ?_);refine dL rfl (λ_ hR=>((hm.ext (z.trans hR)).at rfl)) (dv 82 1 ((H.ext z).arr Fg).sl (F3 (v:=I ↑(idx+LL.length)) rfl (GK rfl rfl FH) FY (go ?_)));exact⟨rfl,z⟩
def Xq (G:Nat->Prop)(w0:World)(bl bx idx:Nat)(vD vL:Value)(dead:Bool)(LL:List Value)(e:Int)(w:World)(h:LE G w0 bl bx idx vD vL dead LL w) :
  G4 210 [Fh bl 0,I e] w (Fv bl) λu w'=>u=I e/\LE G w0 bl bx idx vD vL (dead || decide (e≠0)) LL w':=by
 refine cM Tryz.func210 (Fv bl) λH=>?_;have hD:=h.d.sz;have hm:=h.m;have Z:=h.o;have hbd:=h.bd;refine Fk (λJ=>?_) λJ=>?_
 ·refine go ?_;refine Kc (b:=bl) (o:=5) (v:=?v4) rfl rfl ?h4 ?n4 Ff (hm) ?o4 (.inl rfl) (λw1 Y xs1 z=>?k4)
  case h4=>conv=>lhs;whnf
  case n4=>rfl
  case o4=>exact An rfl
  have H:=H.own Y F5;dsimp only [Gw,AU,AP,AZ]at z;have O:=hD.mod Y (λk _=>G0.blk hm Fo k);have ha:=Z.mod Y (λk hk e=>Z.ne_blk hm rfl (by rw[hk];exact congrArg some e));refine go ?_;exact⟨_,rfl,H,rfl,O.dx,by simpa [J]using z,ha,GZ H.size _ h.gb,λk hk=>GZ H.size _ (h.gv k hk),h.bd⟩
 refine go ?_;have z:=hm;exact⟨_,rfl,H,rfl,hD.dx,by simpa [J]using z,Z,GZ H.size _ h.gb,λk hk=>GZ H.size _ (h.gv k hk),h.bd⟩
def X85 (G:Nat->Prop)(w0:World)(bl bx idx:Nat)(vD vL:Value)(dead:Bool)(LL:List Value)(s:Fj)(w:World)(h:LE G w0 bl bx idx vD vL dead LL w) :
  Gi 230 [Fh bl 0,S s] w λu _=>∃b,u=B b:=by
 refine cE Tryz.func230 λz=>?_;have J:=h.d.sz;have hm:=h.m;have hL:=h.o;have hbd:=h.bd;refine Gj (MP G w0 bx s _ J.dx) λu1 w1 O H=>?_;have hsz1:=z.size;have z:=z.trans O;obtain⟨vb1,e1,rfl⟩:=H;refine go ?_;exact⟨_,rfl,z,_,rfl⟩
variable {LL:List Value}{dead:Bool}{idx:Nat}{vD:Value}
def LE.up {bl:Nat}{w1:World}{d2:Bool}(h:LE G w0 bl bx idx vD vL dead LL w)(hs:w.heap.size<=w1.heap.size)(hD:DX G w0 bx w1)(hm:Fp w1 bl [Fh bx 0,S [115],I ↑idx,vD,vL,B d2] 135)(hL:Vc.Own JE 1 82 0 w1 vL LL):LE G w0 bl bx idx vD vL d2 LL w1:=⟨hD,hm,hL,GZ hs _ h.gb,λk hk=>GZ hs _ (h.gv k hk),h.bd⟩
def LE.inB {bl:Nat}(h:LE G w0 bl bx idx vD vL dead LL w)(hi:Fv bl i):GT (FV G w0 w) [138,226,135,82] w i:=by
 rw[show i=bl from hi];exact⟨h.gb,_,_,h.m,by decide⟩
def LE.inL {bl:Nat}(h:LE G w0 bl bx idx vD vL dead LL w)(hi:vL.ownBlock=some i):GT (FV G w0 w) [138,226,135,82] w i:=⟨h.gv i hi,KU h.o Fo hi⟩
def Xuv (G:Nat->Prop)(w0:World)(bl bx idx:Nat)(vD vL:Value)(dead:Bool)(LL:List Value)(p:Fj)(v:Value)(w:World)(h:LE G w0 bl bx idx vD vL dead LL w)(hv:Vc.Own Fs 1 5 0 w v p)(hpl:p.length<=1000000000000) :
  G4 135 [Fh bl 0,v] w (GT (FV G w0 w) [138,226,135,82] w) λu w'=>∃(n:Nat) (e:Int),u=.tuple #[I ↑n,I e]/\(e=0->1<=n/\n<=1099511627776)/\LX G w0 bl bx w':=by
 refine cM Tryz.func135 (GT (FV G w0 w) [138,226,135,82] w) λz=>?_;have J:=h.d.sz;have hm:=h.m;have H:=h.o;have hbd:=h.bd;have xf:=hv.lt;have hn1:=Gk (idx+LL.length+1);have hn2:=Gk p.length;refine Gs (Iw G w0 bl bx idx vD vL dead LL _ (h.up z.size J.dx hm H)) λw1 x1=>Ga x1 J hm H hv z λJ hm H hv z=>?_;refine F3 (v:=I ↑(idx+LL.length+1)) rfl (GK rfl rfl FH) FY ?_;refine Gb (λc1=>?_) λc1=>?_
 ·refine go ?_;exact⟨_,rfl,z,0,9,rfl,λe=>(by cases e),⟨_,_,_,_,_,h.up z.size J.dx hm H⟩⟩
 refine go ?_;refine dv 5 1 (hv.arr Fg).sl ?_;refine FJ 22 (λc2=>?_) λc2=>?_
 ·refine go ?_;refine GU rfl (go ?_);exact⟨_,rfl,z,0,5,rfl,λe=>(by cases e),⟨_,_,_,_,_,h.up z.size J.dx hm H⟩⟩
 refine Fk (λc3=>?_) λc3=>?_
 ·refine go ?_;exact⟨_,rfl,z,0,5,rfl,λe=>(by cases e),⟨_,_,_,_,_,h.up z.size J.dx hm H⟩⟩
 refine Gj (MF (idx+LL.length+1) _ Fe) λvn w2 x2 xj=>?_;have hr:=z.size;refine Ga x2 J hm H hv z λJ hm H hv z=>?_;have hN:=xj.mono hr;refine Gj (Nu p v _ (hv.arr Fg) Fe) λvp w3 x3 hP=>?_;have hsz3:=z.size;refine HB x3 J hm H hv hN z λJ hm H hv hN z=>Ht hN (hP.arr Fg) (λv2 w4 hl x4=>?_) (hb:=(by simp [FA]at *;omega));have J:=J.mod x4 (by exact(λk hk ht e=>by have h1:=(hN.lt k e).1;omega));have hm:=hm.mod x4 Fw;have H:=H.mod x4 (by exact(λk hk e=>hN.ne H rfl e hk));have hv:=hv.mod x4 (by exact(λk hk e=>by have h1:=(hN.lt k e).1;have h2:=(xf k hk).2;omega));have z:=z.own x4 F5;have hN:=hl;refine cG (Ru (F4 (idx+LL.length+1)++FA p) v2 _ (hN.arr Fg) (by simp [FA]at *;omega)) RX.all λu5 w5 x5 xd=>?_;have hsz5:=z.size;refine Ga x5 J hm H hv z λJ hm H hv z=>?_;obtain⟨vz,ez,bz,rfl,hZ,hz9⟩:=xd;refine go ?_;refine HP (R:=Mod (λk=>k≠bl)) Ij I0 Ff [3,7] [(0,.p,false),(1,.p,false),(2,.p,false),(3,.l,false),(4,.p,false),(5,.p,false),(6,.p,false),(7,.l,false),(8,.p,false),(9,.p,false),(10,.x,false),(11,.p,false)] rfl Ff Ff (λw6 h6=>?_);have x6:=FE h6;clear h6;refine HB x6 J hm H hv hZ z λJ hm H hv hZ z=>go ?_;refine dL rfl (λ_ hR=>((hm.mod hR (λh=>h rfl)).at rfl)) (go ?_);refine dL rfl (λ_ hR=>((hm.mod hR (λh=>h rfl)).at rfl)) (dp (I6 rfl rfl (by simp;done)) (go ?_));refine Jz rfl Ff (KD G w0 bx ([115]++[45,108,111,103]) bz vz _ J.dx (hZ.mono (Ab _)) (by simp [FA]at *;omega)) rfl (.inr λ_ h=>h.mono (λk hk _ e=>G0.blk hm Fo k hk.2 e)) (λu7 w7 x7 xg=>?_);have hsz7:=z.size;have hm:=hm.mod x7 (by exact(λe=>Fp.noTy hm Fo e.2));have H:=H.mod x7 (by exact(λk hk e=>H4 H Fo hk e.2));have hv:=hv.mod x7 (by exact(λk hk e=>H4 hv Fo hk e.2));have z:=z.own x7 (λi hi O=>(GT.back z hi O Fo));obtain⟨e7,rfl,h7⟩:=xg;have J:=h7.sz;refine g0 ?_;refine GP (G:=Int) (λe9=>[(0,Fh bl 0),(1,v),(4,I 0),(5,I 0),(6,I ↑(idx+LL.length+1)),(9,I e9)]) (λe9 w'=>Mod (GT (FV G w0 w) [138,226,135,82] w) w w'/\Fp w' bl [Fh bx 0,S [115],I ↑idx,vD,vL,B dead] 135/\Vc.Own JE 1 82 0 w' vL LL/\Vc.Own Fs 1 5 0 w' v p/\DX G w0 bx w') ?_ ?_
 ·refine Fk (λc4=>?_) λc4=>?_
  ·refine HP (R:=Mod (λk=>k≠bl)) Ij I0 Ff [3,7] [(0,.p,false),(1,.p,false),(2,.p,false),(3,.l,false),(4,.p,false),(5,.p,false),(6,.p,false),(7,.l,false),(8,.p,false),(9,.x,false),(10,.p,false)] rfl Ff Ff (λw8 hj=>?_);have x8:=FE hj;clear hj;refine Ga x8 hm H hv J z λhm H hv J z=>go ?_;refine dL rfl (λ_ hR=>((hm.mod hR (λh=>h rfl)).at rfl)) (go ?_);refine dL rfl (λ_ hR=>((hm.mod hR (λh=>h rfl)).at rfl)) (dp (I6 rfl rfl (by simp;done)) (Jz rfl Ff (Ng G w0 bx ([115]++[45,108,111,103]) _ J.dx) rfl (.inr λ_ h=>h.mono (λk hk _ e=>G0.blk hm Fo k hk.2 e)) (λu9 w9 x9 xa=>?_)));have hc:=z.size;have hm:=hm.mod x9 (by exact(λe=>Fp.noTy hm Fo e.2));have H:=H.mod x9 (by exact(λk hk e=>H4 H Fo hk e.2));have hv:=hv.mod x9 (by exact(λk hk e=>H4 hv Fo hk e.2));have z:=z.own x9 (λi hi O=>(GT.back z hi O Fo));obtain⟨e9,rfl,h8⟩:=xa;have J:=h8.sz;refine go ?_;exact⟨_,HW,z,hm,H,hv,J.dx⟩
  refine go ?_;exact⟨_,HW,z,hm,H,hv,J.dx⟩
 rintro _ e9 w10 ⟨z,hm,H,hv,hDx⟩;have J:=hDx.sz;refine Gz (Xq G w0 bl bx idx vD vL dead LL e9 _ (h.up z.size J.dx hm H)) λu11 w11 hp h5=>?_;have hsz11:=z.size;have hv:=hv.mod hp Fw;have z:=z.own hp (λi hi O=>(h.inB hi));obtain⟨rfl,hE⟩:=h5;have J:=hE.d.sz;have hm:=hE.m;have H:=hE.o;refine Fk (λc5=>?_) λc5=>?_
 ·refine go ?_;exact⟨_,rfl,z,0,e9,rfl,λe=>(by exact absurd e (by assumption)),⟨_,_,_,_,_,h.up z.size J.dx hm H⟩⟩
 refine go ?_;refine HP (R:=Mod (λk=>k≠bl)) Ij I0 Ff [4] [(0,.p,false),(1,.p,false),(2,.p,false),(3,.p,false),(4,.l,false),(6,.p,false),(5,.x,false),(7,.x,false),(8,.x,false),(9,.x,true),(10,.p,false),(11,.p,false),(12,.x,true)] rfl Ff Ff (λw12 ha=>?_);have xb:=FE ha;clear ha;refine Ga xb hv J hm H z λhv J hm H z=>go ?_;refine dL rfl (λ_ hR=>((hm.mod hR (λh=>h rfl)).at rfl)) (go ?_);refine Jx (e:=5) (sz:=1) rfl Ff RX.mod (λb1 w13 e1 xh m1=>?_);have g1:=z.ge e1;have o1_hv:=hv.ltb e1;have a1_hD:=J.le;have a1_hm:=hm.lt;have o1_hL:=H.ltb e1;refine Ga xh hv J hm H z λhv J hm H z=>?_;have Y:=m1.own (enc:=Fs) (B:=b1) (l:=[]) (sz:=1) (m:=0) (Aa _) rfl Fg rfl (An rfl);refine Ht Y (hv.arr Fg) (λvc w14 hz Z=>?_) (hB:=(D8 m1.lt)) (hR:=(.inr λw9 h9=>h9.mono (λk hk _ e=>Y.ne_blk hm rfl (by rw[hk,e]))));have J:=J.mod Z (by exact(λk hk ht e=>by have h1:=(Y.lt k e).1;omega));have hm:=hm.mod Z Fw;have H:=H.mod Z (by exact(λk hk e=>Y.ne H rfl e hk));have z:=z.own Z (λi hi O=>(by have:=(Y.lt i hi).1;omega));have Y:=hz;refine It (e:=82) (sz:=1) (zs:=[.slice none 0 0]) (pv:=[(0,?a45_0)]) (cs:=[?a45_0]) rfl Ff ⟨rfl,rfl⟩ Ff rfl ?h45 ?f45 RX.mod (λb2 w15 e2 xe m2=>?k45)
 case h45=>refine⟨rfl,?_,trivial⟩<;>(conv=>lhs;whnf)
 case f45=>simp [Hs,Gw,Ap,Y.sl.cells]
 have g2:=z.ge e2;have a2_hD:=J.le;have a2_hm:=hm.lt;have o2_hL:=H.ltb e2;refine Ga xe J hm H Y z λJ hm H Y z=>?_;refine LU (lx:=[vc]) (e:=82) (sz:=1) (by':=24) rfl Ff Ff Fg H (m2.arr (enc:=JE) (sz:=1) (l:=[vc]) rfl Fg rfl (An rfl)) rfl rfl (by intro x xc u hu;rw[Af.1 xc]at hu;rw[Af.1 hu];exact Y.sl.one) Gx Fo (Ab _) (.inr λw9 h9=>h9.mono (λk hk _ e=>H.ne_blk hm rfl (by rw[hk,e]))) (λxi w16 hq hg hf=>?_);have hy:=hf;have hc:=z.size;have J:=J.mod hg (by exact(λk hk ht e=>H4 H Fo e ht));have hm:=hm.mod hg Fw;have z:=z.own hg (λi hi O=>(h.inL hi));have H:=hq;clear m2;refine go ?_;refine Kc (b:=bl) (o:=4) (v:=?v46) rfl rfl ?h46 ?n46 Ff (hm) ?o46 (.inl rfl) (λw17 hh xs17 hw=>?k46)
 case h46=>conv=>lhs;whnf
 case n46=>exact H.sl.one
 case o46=>exact An rfl
 have z:=z.own hh (λi hi O=>(h.inB hi));dsimp only [Gw,AU,AP,AZ]at hw;have J:=J.mod hh (λk _=>G0.blk hm Fo k);have H:=H.mod hh Fw;have hLlt:=H.lt;refine go ?_;refine⟨_,rfl,z,idx+LL.length+1,0,rfl,λ_=>⟨by omega,by omega⟩,idx,vD,xi,_,LL++[vc],J.dx,hw,H,GZ z.size _ h.gb,λk hk=>?_,by simp;omega⟩;rcases hy with e|e
 ·exact GZ z.size _ (h.gv k (by rw[<-e];exact hk))
 ·exact .inr ⟨by rw[hk]at e;cases e;exact Ae h.d.2.1 hc,(H.lt k hk).2⟩
def Xzy (G:Nat->Prop)(w0:World)(bl bx idx:Nat)(vD vL:Value)(dead:Bool)(LL:List Value)(n:Nat)(p:Fj)(v:Value)(w:World)(h:LE G w0 bl bx idx vD vL dead LL w)(hv:Vc.Own Fs 1 5 0 w v p)(hnn:n<=1099511627776)(hpl:p.length<=100000000000) :
  G4 221 [Fh bl 0,I ↑n,v] w (GT (FV G w0 w) [138,226,135,82] w) λu w'=>∃e:Int,u=I e/\LX G w0 bl bx w':=by
 refine cM Tryz.func221 (GT (FV G w0 w) [138,226,135,82] w) λz=>?_;have H:=h.d.sz;have hm:=h.m;have J:=h.o;have hbd:=h.bd;have xa:=hv.lt;have hn1:=Gk n;have hn2:=Gk p.length;refine Gb (λc1=>?_) λc1=>?_
 ·refine go ?_;exact⟨_,rfl,z,_,rfl,⟨_,_,_,_,_,h.up z.size H.dx hm J⟩⟩
 refine Gs (Iw G w0 bl bx idx vD vL dead LL _ (h.up z.size H.dx hm J)) λw1 x1=>Ga x1 H hm J hv z λH hm J hv z=>?_;refine FJ 18 (λc2=>?_) λc2=>?_
 ·refine go ?_;refine GU rfl (go ?_);exact⟨_,rfl,z,_,rfl,⟨_,_,_,_,_,h.up z.size H.dx hm J⟩⟩
 refine Fk (λc3=>?_) λc3=>?_
 ·refine go ?_;exact⟨_,rfl,z,_,rfl,⟨_,_,_,_,_,h.up z.size H.dx hm J⟩⟩
 refine go ?_;refine dv 5 1 (hv.arr Fg).sl ?_;refine Fk (λc4=>?_) λc4=>?_
 ·refine go ?_;exact⟨_,rfl,z,_,rfl,⟨_,_,_,_,_,h.up z.size H.dx hm J⟩⟩
 refine go ?_;refine HP (R:=Mod (λk=>k≠bl)) Ij I0 Ff [3,7] [(0,.p,false),(1,.p,false),(2,.p,false),(3,.l,false),(4,.p,false),(5,.p,false),(6,.p,false),(7,.l,false),(8,.p,false),(9,.p,false),(11,.p,false),(10,.x,false),(12,.x,false),(13,.x,false),(14,.x,false),(15,.p,false)] rfl Ff Ff (λw2 hq=>?_);have x2:=FE hq;clear hq;refine Ga x2 H hm J hv z λH hm J hv z=>go ?_;refine dL rfl (λ_ hR=>((hm.mod hR (λh=>h rfl)).at rfl)) (go ?_);refine dL rfl (λ_ hR=>((hm.mod hR (λh=>h rfl)).at rfl)) (dp (I6 rfl rfl (by simp;done)) (go ?_));refine cG (MF n _ Fe) RX.mod λvn w3 x3 xc=>?_;have hl:=z.size;refine Ga x3 H hm J hv z λH hm J hv z=>?_;have hN:=xc.mono hl;refine cG (Nu p v _ (hv.arr Fg) Fe) RX.mod λvp w4 x4 hP=>?_;have hsz4:=z.size;refine HB x4 H hm J hv hN z λH hm J hv hN z=>Ht hN (hP.arr Fg) (λv2 w5 hf x5=>?_) (hb:=(by simp [FA]at *;omega)) (hR:=(.inr λw9 h9=>h9.mono (λk hk _ e=>hN.ne_blk hm rfl (by rw[hk,e]))));have H:=H.mod x5 (by exact(λk hk ht e=>by have h1:=(hN.lt k e).1;omega));have hm:=hm.mod x5 Fw;have J:=J.mod x5 (by exact(λk hk e=>hN.ne J rfl e hk));have hv:=hv.mod x5 (by exact(λk hk e=>by have h1:=(hN.lt k e).1;have h2:=(xa k hk).2;omega));have z:=z.own x5 F5;have hN:=hf;refine Jz rfl Ff (WO G w0 bx ([115]++[45,105,109,103]) (F4 n++FA p) v2 _ H.dx (hN.arr Fg) (by simp [FA]at *;omega) (An rfl)) rfl (.inr λ_ h=>h.mono (λk hk _ e=>G0.blk hm Fo k hk.2 e)) (λu6 w6 x6 h8=>?_);have hsz6:=z.size;have hm:=hm.mod x6 (by exact(λe=>Fp.noTy hm Fo e.2));have J:=J.mod x6 (by exact(λk hk e=>H4 J Fo hk e.2));have hv:=hv.mod x6 (by exact(λk hk e=>H4 hv Fo hk e.2));have z:=z.own x6 (λi hi O=>(GT.back z hi O Fo));obtain⟨e6,rfl,hp⟩:=h8;have H:=hp.sz;refine g0 ?_;refine GP (G:=Int) (λe9=>[(0,Fh bl 0),(1,I ↑n),(2,v),(6,I 0),(7,I e9)]) (λe9 w'=>Mod (GT (FV G w0 w) [138,226,135,82] w) w w'/\Fp w' bl [Fh bx 0,S [115],I ↑idx,vD,vL,B dead] 135/\Vc.Own JE 1 82 0 w' vL LL/\Vc.Own Fs 1 5 0 w' v p/\DX G w0 bx w') ?_ ?_
 ·refine FJ 43 (λc5=>?_) λc5=>?_
  ·refine go ?_;refine dp (I6 rfl rfl (by simp;done)) (cG (X85 G w0 bl bx idx vD vL dead LL ([115]++[45,108,111,103]) _ (h.up z.size H.dx hm J)) RX.all λu7 w7 x7 xb=>?_);have hsz7:=z.size;refine Ga x7 hm J hv H z λhm J hv H z=>?_;obtain⟨b9,rfl⟩:=xb;refine Gb (λc6=>?_) λc6=>?_
   ·refine HP (R:=Mod (λk=>k≠bl)) Ij I0 Ff [3,7] [(0,.p,false),(1,.p,false),(2,.p,false),(3,.l,false),(4,.p,false),(5,.p,false),(6,.p,false),(7,.l,false),(8,.p,false),(9,.x,false),(10,.p,false)] rfl Ff Ff (λw8 hc=>?_);have x8:=FE hc;clear hc;refine Ga x8 hm J hv H z λhm J hv H z=>go ?_;refine dL rfl (λ_ hR=>((hm.mod hR (λh=>h rfl)).at rfl)) (go ?_);refine dL rfl (λ_ hR=>((hm.mod hR (λh=>h rfl)).at rfl)) (dp (I6 rfl rfl (by simp;done)) (Jz rfl Ff (J6 G w0 bx ([115]++[45,108,111,103]) _ H.dx) rfl (.inr λ_ h=>h.mono (λk hk _ e=>G0.blk hm Fo k hk.2 e)) (λu9 w9 x9 h6=>?_)));have hsz9:=z.size;have hm:=hm.mod x9 (by exact(λe=>Fp.noTy hm Fo e.2));have J:=J.mod x9 (by exact(λk hk e=>H4 J Fo hk e.2));have hv:=hv.mod x9 (by exact(λk hk e=>H4 hv Fo hk e.2));have z:=z.own x9 (λi hi O=>(GT.back z hi O Fo));obtain⟨e9,rfl,h5⟩:=h6;have H:=h5.sz;refine go ?_;exact⟨_,Hc,z,hm,J,hv,H.dx⟩
   refine go ?_;exact⟨_,Hc,z,hm,J,hv,H.dx⟩
  refine go ?_;refine GS rfl (go ?_);exact⟨_,Hc,z,hm,J,hv,H.dx⟩
 rintro _ e9 w10 ⟨z,hm,J,hv,hDx⟩;have H:=hDx.sz;refine Gz (Xq G w0 bl bx idx vD vL dead LL e9 _ (h.up z.size H.dx hm J)) λu11 w11 hg hy=>?_;have hsz11:=z.size;have hv:=hv.mod hg Fw;have z:=z.own hg (λi hi O=>(h.inB hi));obtain⟨rfl,hE⟩:=hy;have H:=hE.d.sz;have hm:=hE.m;have J:=hE.o;refine Fk (λc7=>?_) λc7=>?_
 ·refine go ?_;exact⟨_,rfl,z,_,rfl,⟨_,_,_,_,_,h.up z.size H.dx hm J⟩⟩
 refine go ?_;refine Jx (e:=5) (sz:=1) rfl Ff RX.all (λb1 w12 e1 h7 m1=>?_);have g1:=z.ge e1;have o1_hv:=hv.ltb e1;have a1_hD:=H.le;have a1_hm:=hm.lt;have o1_hL:=J.ltb e1;refine Ga h7 hv H hm J z λhv H hm J z=>go ?_;have hC:=m1.own (enc:=Fs) (B:=b1) (l:=[]) (sz:=1) (m:=0) (Aa _) rfl Fg rfl (An rfl);refine Ht hC (hv.arr Fg) (λvc w13 hw Y=>?_) (hB:=(D8 m1.lt));have H:=H.mod Y (by exact(λk hk ht e=>by have h1:=(hC.lt k e).1;omega));have hm:=hm.mod Y Fw;have J:=J.mod Y (by exact(λk hk e=>hC.ne J rfl e hk));have z:=z.own Y (λi hi O=>(by have:=(hC.lt i hi).1;omega));have hC:=hw;refine go ?_;refine Kc (b:=bl) (o:=2) (v:=?v46) rfl rfl ?h46 ?n46 Ff (hm) ?o46 (.inl rfl) (λw14 hh xs14 ha=>?k46)
 case h46=>conv=>lhs;whnf
 case n46=>rfl
 case o46=>exact An rfl
 have z:=z.own hh (λi hi O=>(h.inB hi));dsimp only [Gw,AU,AP,AZ]at ha;have H:=H.mod hh (λk _=>G0.blk hm Fo k);refine go ?_;refine Kc (b:=bl) (o:=3) (v:=?v47) rfl rfl ?h47 ?n47 Ff (ha) ?o47 (.inl rfl) (λw15 hj xs15 Z=>?k47)
 case h47=>conv=>lhs;whnf
 case n47=>exact hC.sl.one
 case o47=>exact An rfl
 have z:=z.own hj (λi hi O=>(h.inB hi));dsimp only [Gw,AU,AP,AZ]at Z;have H:=H.mod hj (λk _=>G0.blk ha Fo k);refine go ?_;refine Kc (b:=bl) (o:=4) (v:=?v48) rfl rfl ?h48 ?n48 Ff (Z) ?o48 (.inl rfl) (λw16 hz xs16 hr=>?k48)
 case h48=>conv=>lhs;whnf
 case n48=>rfl
 case o48=>exact An rfl
 have z:=z.own hz (λi hi O=>(h.inB hi));dsimp only [Gw,AU,AP,AZ]at hr;have H:=H.mod hz (λk _=>G0.blk Z Fo k);refine go ?_;exact⟨_,rfl,z,0,rfl,n,vc,.slice none 0 0,_,[],H.dx,hr,Vc.Own.nil,GZ z.size _ h.gb,λk hk=>(by cases hk),by simp;omega⟩
end Go.Proofs.YtiooodckiddpmaaGreatDoor
