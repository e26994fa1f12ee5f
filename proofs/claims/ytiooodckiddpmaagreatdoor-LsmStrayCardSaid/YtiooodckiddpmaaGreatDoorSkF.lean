/-
 A part of the proof: SpBat2 VcSk IterF BtB LsC LsD LsE LsF LsG SpStab SpSt2 SpMg VcCl StA.
-/
import Derived.Test.YtiooodckiddpmaaGreatDoorSkD
import Derived.Lib.Bytealg
import Derived.Test.YtiooodckiddpmaaGreatDoorSkA
import Derived.Shelf.SlSortCmp.WholeK
import Derived.Shelf.SlSortCmp.NoneTotal
import Derived.Sort.OwnSorted
import Derived.Shelf.SlGeneric
import Derived.Ground.SlsfProg
import Derived.Test.YtiooodckiddpmaaGreatDoorProg
import Derived.Test.YtiooodckiddpmaaGreatDoorChecked
import Derived.KernelRfl
import Derived.Test.YtiooodckiddpmaaGreatDoorSkB
import Derived.Test.YtiooodckiddpmaaGreatDoorSkE
open List renaming length_append->Aa,take->Ad,set->Af,drop->Ag,mem_singleton->Ah,mem_cons->Aj,mem_of_getElem?->Ak,mem_cons_self->Al,mem_cons_of_mem->Am,map_cons->An,getElem?_eq_some_iff->Ap,getElem?_eq_getElem->Ar,mem_append->Aw,replicate->Ax,take_of_length_le->Ay,eq_nil_of_length_eq_zero->A4,length_take->A5,append_assoc->A7,flatMap_cons->AB,length->AC,nil_append->AE,length_set->AF,length_cons->AG,map_append->AH,getElem?_of_mem->AM,append_nil->AO,pairwise_cons->AQ,cons_append->AT,getElem?_take->AW,take_append_drop->Bc,map_map->Bf,length_drop->Bh,length_nil->Bi,getElem?_eq_none->Bm,pairwise_append->Bs,getElem?_append_left->Bt,getElem?_drop->Bz,take_add_one->B3,ext_getElem?->BA,getElem?_set_self->BB,getElem?_append_right->BE,any_eq_true->BK,cons->BW,drop_of_length_le->BZ,getElem?_set_ne->Cb,sum_append->Cd,pairwise_iff_getElem->Ce,take_succ_cons->Cg,mem_iff_getElem?->Ci,drop_eq_nil_of_le->Cr,take_take->Cu,take_left'->C9,drop_left'->CA,take_append->Dj,eq_nil_or_concat->Dm,take_set_of_le->D5,concat_eq_append->DH,perm_middle->DK,getElem?_take_of_lt->Ek,set_cons_zero->El,set_comm->Eo,perm_append_singleton->Ep
open Nat renaming le_of_ble_eq_true->Av,le_refl->Ab,zero_le->Ae,le_trans->Ai,lt_of_lt_of_le->Az,zero_add->A9,mul_le_mul_right->AS,succ_mul->AZ,mod_lt->Bd,min_eq_left->Bg,lt_or_ge->Bk,mul_comm->Bu,not_lt_zero->B6,add_sub_cancel->BS,add_zero->BX,mul_assoc->Cp,eq_or_lt_of_le->Cv,zero_mul->Cz,eq_zero_or_pos->C5,sub_zero->CS,sub_self->DG,lt_trichotomy->Er
open Option renaming some->A0,bind_some->Cl,isSome_iff_exists->Cy
open List.Pairwise renaming nil->Bp,imp₂->E8
open Array renaming getElem?_eq_some_iff->B8,getElem?_toList->Ds,getElem?_modify->Du
open UInt8 renaming not_lt->CV
open List.Perm renaming append_left->En
set_option maxRecDepth 100000
set_option maxHeartbeats 4000000
set_option linter.unusedVariables false
set_option linter.unusedSimpArgs false
namespace Go.Sp
open Go.Vc (EC I S B)
def IR : List Rw->List Rw
 | []=>[]
 | r :: t=>if(t.any λq=>decide (q.key=r.key))=true then IR t else r :: IR t
theorem Xwv {l:List Rw}{r:Rw}(h:r∈IR l):r∈l:=by
 induction l with
 | nil=>cases h
 | cons q t ih=>
  unfold IR at h;split at h
  ·exact Am _ (ih h)
  ·rcases Aj.1 h with rfl|h
   ·exact Al
   ·exact Am _ (ih h)
theorem Xww (l:List Rw):(IR l).length<=l.length:=by
 induction l with
 | nil=>exact Ab _
 | cons q t ih=>unfold IR;split<;>simp only [AG]<;>omega
theorem Xny (l:List Rw)(seq:Int)(x:Cell):x∈G0 l seq↔x∈(IR l).map (·.cell seq):=by
 induction l with
 | nil=>exact Iff.rfl
 | cons r t ih=>
  show x∈HD (G0 t seq) (r.cell seq)↔_;rw[Po];unfold IR;split
  ·rename_i h;obtain⟨q,z,e⟩:=BK.1 h;obtain⟨c,Y,e2⟩:=Xta (seq:=seq) z;have O:q.key=r.key:=by simpa using e
   exact⟨λh2=>h2.elim ih.1 λh3=>absurd (e2.trans O) (h3.2 c Y),λh2=>.inl (ih.2 h2)⟩
  ·rename_i h;have hn:∀y∈G0 t seq,y.key≠(r.cell seq).key:=λy J e=>by
    obtain⟨q,z,rfl⟩:=Rl J;exact h (BK.2 ⟨q,z,decide_eq_true (show q.key=r.key from e)⟩)
   rw[An,Aj];exact⟨λh2=>h2.elim (λh3=>.inr (ih.1 h3)) (λh3=>.inl h3.1),λh2=>h2.elim (λh3=>.inr ⟨h3,hn⟩) (λh3=>.inl (ih.2 h3))⟩
theorem Xtd (l:List Rw):(IR l).Pairwise λa b=>a.key≠b.key:=by
 induction l with
 | nil=>exact Bp
 | cons r t ih=>
  unfold IR;split
  ·exact ih
  ·rename_i h;exact AQ.2 ⟨λq z e=>h (BK.2 ⟨q,Xwv z,by simp [e]⟩),ih⟩
theorem X98 {l m:List Cell}(hl:IQ l)(hm:IQ m)(h:∀x,x∈l↔x∈m):l=m:=by
 induction l generalizing m with
 | nil=>
  cases m with
  | nil=>rfl
  | cons b m=>exact absurd ((h b).2 Al) ER
 | cons a l ih=>
  cases m with
  | nil=>exact absurd ((h a).1 Al) ER
  | cons b m=>
   have r:=AQ.1 hl;have z:=AQ.1 hm;have e:a=b:=by
    rcases Aj.1 ((h a).1 Al)with h1|h1
    ·exact h1
    ·rcases Aj.1 ((h b).2 Al)with h2|h2
     ·exact h2.symm
     ·have h3:=z.1 a h1;have h4:=r.1 b h2;rw[K9 h4]at h3;cases h3
   subst e;rw[ih r.2 z.2 λx=>?_]
   constructor
   ·intro J;rcases Aj.1 ((h x).1 (Am _ J))with h1|h1
    ·have:=r.1 x J;rw[h1,I1]at this;cases this
    ·exact h1
   ·intro J;rcases Aj.1 ((h x).2 (Am _ J))with h1|h1
    ·have:=z.1 x J;rw[h1,I1]at this;cases this
    ·exact h1
theorem SH : ∀a b:EC,(Go.Lib.compareBytes a b<0)↔Fg a b=true
 | [],[]=>by simp [Go.Lib.compareBytes,Fg,Op.bytesLess]
 | [],_ :: _=>by simp [Go.Lib.compareBytes,Fg,Op.bytesLess]
 | _ :: _,[]=>by simp [Go.Lib.compareBytes,Fg,Op.bytesLess]
 | x :: a,y :: b=>by
  have r:=SH a b;unfold Go.Lib.compareBytes;simp only [Fg,Op.bytesLess,Bool.or_eq_true,Bool.and_eq_true,decide_eq_true_eq,beq_iff_eq]at *
  by_cases h1:x<y
  ·simp [h1]
  ·rw[if_neg h1]
   by_cases h2:y<x
   ·rw[if_pos h2];exact⟨λh=>by simp at h,λh=>h.elim (λh=>absurd h h1) λh=>by
     rw[h.1]at h2;exact absurd h2 (UInt8.lt_irrefl _)⟩
   ·rw[if_neg h2,r];have e:x=y:=UInt8.le_antisymm (CV.1 h2) (CV.1 h1);exact⟨λh=>.inr ⟨e,h⟩,λh=>h.elim (λh=>absurd h h1) (·.2)⟩
def LI (l:List Rw)(k:Nat):Rw:=l[k]?.getD ⟨[],[],false⟩
def Kf (l:List Rw):Nat->EC->Option Int
 | 0=>λ_=>none
 | k+1=>λs=>if(LI l k).key=s then some (k:Int)else Kf l k s
theorem TH (l:List Rw)(s:EC):∀n,(Kf l n s=none->∀i,i<n->(LI l i).key≠s)/\∀j,Kf l n s=some j->∃m:Nat,j=m/\m<n/\(LI l m).key=s/\∀i,m<i->i<n->(LI l i).key≠s
 | 0=>⟨λ_ i hi=>by omega,λj h=>by simp [Kf]at h⟩
 | n+1=>by
  obtain⟨h1,h2⟩:=TH l s n;unfold Kf
  by_cases e:(LI l n).key=s
  ·simp only [if_pos e];exact⟨λh=>by simp at h,λj h=>⟨n,(A0.inj h).symm,by omega,e,λi hi r=>by omega⟩⟩
  ·simp only [if_neg e];refine⟨λh i hi=>?_,λj h=>?_⟩
   ·by_cases e2:i=n
    ·rw[e2];exact e
    ·exact h1 h i EB
   ·obtain⟨m,e1,hm,e2,z⟩:=h2 j h;refine⟨m,e1,by omega,e2,λi hi r=>?_⟩
    by_cases e4:i=n
    ·rw[e4];exact e
    ·exact z i hi EB
theorem Oy {l:List Rw}{k:Nat}{r:Rw}(h:l[k]?=some r):LI l k=r:=by unfold LI;rw[h];rfl
theorem X0k {l:List Rw}{k:Nat}{s:EC} : ((l.drop (k+1)).any λq=>decide (q.key=s))=true↔∃i,k<i/\i<l.length/\(LI l i).key=s:=by
 rw[BK]
 constructor
 ·rintro ⟨q,hq,e⟩;obtain⟨i,hi⟩:=Ci.1 hq;rw[Bz]at hi;exact⟨k+1+i,by omega,(Ap.1 hi).1,by rw[Oy hi];simpa using e⟩
 ·rintro ⟨i,h1,h2,h3⟩;have e:l[i]?=some l[i]:=Ar h2;refine⟨l[i],Ci.2 ⟨i-(k+1),by rw[Bz,show k+1+(i-(k+1))=i by omega];exact e⟩,?_⟩;rw[Oy e]at h3;simpa using h3
theorem X6h {l:List Rw}{k:Nat}{r:Rw}(h:l[k]?=some r):((Kf l l.length r.key).getD 0=(k:Int))↔((l.drop (k+1)).any λq=>decide (q.key=r.key))=false:=by
 have hk:=(Ap.1 h).1;obtain⟨h1,h2⟩:=TH l r.key l.length
 cases e:Kf l l.length r.key with
 | none=>exact absurd (by rw[Oy h]) (h1 e k hk)
 | some j=>
  obtain⟨m,rfl,hm,e2,z⟩:=h2 j e;rw[<-Bool.not_eq_true,X0k];simp only [Option.getD_some]
  constructor
  ·rintro e4 ⟨i,h4,h5,h6⟩;exact z i EB h5 h6
  ·intro h4
   by_cases e5:m=k
   ·rw[e5]
   ·by_cases e6:m<k
    ·exact absurd (by rw[Oy h]) (z k e6 hk)
    ·exact absurd ⟨m,by omega,hm,e2⟩ h4
theorem Xwx {l:List Rw}{k:Nat}{r:Rw}(h:l[k]?=some r):IR (l.drop k)=if((l.drop (k+1)).any λq=>decide (q.key=r.key))=true then IR (l.drop (k+1))else r :: IR (l.drop (k+1)):=by
 obtain⟨hk,rfl⟩:=Ap.1 h;rw[List.drop_eq_getElem_cons hk];rfl
end Go.Sp
namespace Go.Vc
open Go.RowKit Go.Proofs Go.Shelf Go.Sort
theorem Xj5 {w:World}{g:Nat}{cur:Array Value}{e:TypeId}{vs:List Value}(hb:w.heap[g]?=some (.cells cur e (0,0)))(ht:cur.toList.take vs.length=vs):Holds id w g 0 vs.toArray:=by
 intro j z;have r:j<vs.length:=by simpa using z
 refine⟨?_,by simp [World.frozen?,hb]⟩;have h1:(cur.toList.take vs.length)[j]?=vs[j]?:=by rw[ht]
 rw[Ek r]at h1;simp only [World.cell?,hb,A9];simp only [Option.isSome_none,Bool.false_eq_true,if_false];rw[<-Ds,h1];simp [r]
theorem Xn0 {w:World}{g n:Nat}{os:Array Obj}{cur:Array Value}{e:TypeId}{fr:Nat×Nat}(d:Array Value)(hb:w.heap[g]?=some (.cells cur e fr)) :
  (grow (putRow id (Sort.ahead w n) g 0 d) os).heap[g]?=some (.cells (putCells id 0 d cur) e fr):=by
 have r:g<w.heap.size:=(B8.1 hb).1;rw[heap_grow_old _ _ (by simpa using r)];simp [putRow,mapBlock,Sort.ahead,Du,hb,onCells]
theorem Xj6 {w:World}{g n:Nat}{os:Array Obj}(d:Array Value):w.grownBy (grow (putRow id (Sort.ahead w n) g 0 d) os) (some g):=by
 refine⟨rfl,rfl,rfl,by simp,λk hk r=>?_⟩;rw[heap_grow_old _ _ (by simpa using hk)];have:g≠k:=λe=>r (by rw[e]);simp [putRow,mapBlock,Sort.ahead,Du,this]
theorem Xkq (cur:Array Value)(vs:List Value)(h:vs.length<=cur.size):(putCells id 0 vs.toArray cur).toList.take vs.length=vs:=by
 apply BA
 intro j
 by_cases hj:j<vs.length
 ·rw[Ek hj,Ds];simp [putCells,hj,show j<cur.size by omega]
 ·rw[List.getElem?_take_eq_none EB,Bm EB]
theorem T8 {α:Type}[Inhabited α]{enc:α->List Value}{k:Nat}(hk:∀x,(enc x).length=k)(d:Array α):flatK enc k d=(d.toList.flatMap enc).toArray:=by
 have J:(d.toList.flatMap enc).length=d.size*k:=by rw[Fj hk];simp
 apply Array.ext
 ·simp [J]
 ·intro t h1 h2;have O:t<d.size*k:=by simpa using h1
  have Y:0<k:=by
   rcases C5 k with e|e
   ·subst e;simp at O
   ·exact e
  have z:t / k<d.size:=by rw[Nat.div_lt_iff_lt_mul Y];exact O
  have e1:=get_flatK enc k d t O;rw[getElem!_pos _ t h1]at e1;rw[e1];have key:∀(l:List α) (t:Nat) (z:t / k<l.length),(l.flatMap enc)[t]?=(enc (l[t / k]'z))[t % k]?:=by
   intro l
   induction l with
   | nil=>intro t z;simp at z
   | cons a r ih=>
    intro t z;rw[AB]
    by_cases hlt:t<k
    ·have Z:t / k=0:=Nat.div_eq_of_lt hlt;rw[Bt (by rw[hk];exact hlt)];simp only [Z,List.getElem_cons_zero,Nat.mod_eq_of_lt hlt]
    ·have Z:t / k=(t-k) / k+1:=by
      have:t=(t-k)+k:=by omega
      rw[this,Nat.add_div_right _ Y];simp
     have e2:t % k=(t-k) % k:=by
      have:t=(t-k)+k:=by omega
      rw[this,Nat.add_mod_right];simp
     rw[BE (by rw[hk];omega),hk,ih (t-k) (by rw[Z]at z;simpa using z)];simp only [Z,List.getElem_cons_succ,e2]
  have h3:=key d.toList t (by simpa using z);have h4:t % k<(enc (d.toList[t / k]'(by simpa using z))).length:=by rw[hk];exact Bd _ Y
  rw[Ar h4]at h3;have h5:(d.toList.flatMap enc)[t]'(by rw[J];exact O)=(enc (d.toList[t / k]'(by simpa using z)))[t % k]:=by
   have:=Ar (l:=d.toList.flatMap enc) (i:=t) (by rw[J];exact O);rw[this]at h3;exact A0.inj h3
  simp only [List.getElem_toArray];rw[h5,getElem!_pos d (t / k) z];simp only [Array.getElem_toList];rw[getElem!_pos _ (t % k) (by rw[hk];exact Bd _ Y)]
theorem X6i {P:Program}{ρ:Ren}{α:Type}[Inhabited α](L:SlLaysF0.n6 P ρ)(k:Nat)(aE:∀w,(isAgg (ρ.t 24)).run P w=.ok true w)(zE:∀w,(Go.sizeOf (ρ.t 24)).run P w=.ok k w)(enc:α->List Value)(hk:∀x,(enc x).length=k)(h1:∀x,∀v∈enc x,v.oneCell'=true)(cf:α->α->Int)(hO:SWO (ltOf cf))(g:Nat)(cb:Array Value)
  (eg:∀args w,(callFunc g args).run P w=.ok (.enter g args) w) (hcmp:∀(x y:α) (W:World),Calls P g (#[.agg (enc x).toArray,.agg (enc y).toArray]++cb) W λe w'=>e=.returned (.int .i64 (cf x y))/\∃q os',w'=grow (W.drewN q) os')
  {T B:Nat} {w:World} {v:Value} {l:List α} (ho:Own enc k T B w v l) (hl:l.length<4611686018427387904) :
  Calls P (ρ.f 6) [v,.func (.func g) #[] cb].toArray w (Ff (λk=>v.ownBlock=some k) w λu w'=>u=.tuple #[]/\∃l',l'.Perm l/\l'.Pairwise (λx y=>ltOf cf y x=false)/\Own enc k T B w' v l'):=by
 rcases ho.row.2 with⟨rfl,hn⟩|⟨b,cap,cur,rfl,hB,hb,hnc,hcm,hcs,ht⟩
 ·have:=A4 hn;subst this;refine(AnyF.slices_SortFunc_none L none 0 _ w).mono ?_;rintro e w' ⟨rfl,rfl⟩;exact⟨_,rfl,Mod.refl _ _,rfl,[],List.Perm.refl _,Bp,ho⟩
 ·have hg:(l.flatMap enc).length=l.length*k:=Fj hk l;have hH:HoldsK enc k w b 0 l.toArray:=by
   show Holds id w b 0 (flatK enc k l.toArray);rw[T8 hk];exact Xj5 hb (by rw[hg];exact ht)
  have Y:=(B8.1 hb).1;have hc:CmpLays P g cb enc k cf b 0 l.toArray.size w:=λm os dk _ x y=>hcmp x y _;have hs:=AnyQ.slices_SortFunc L k aE zE enc hk h1 cf hO g cb b 0 cap l.toArray w eg hc hH Y (by simpa using hl);refine Calls.mono hs ?_;rintro e w' ⟨rfl,d',n,os,hp,hsd,rfl⟩;have O:d'.size=l.length:=by rw[hp.1];simp
  have J:d'.toList.Perm l:=by
   have:=hp.2.2;simpa [Array.extract_eq_self_of_le,O]using this
  have z:d'.toList.length=l.length:=by simpa using O
  have r:(d'.toList.flatMap enc).length=l.length*k:=by rw[Fj hk,z]
  refine⟨_,rfl,Mod.of_grown (Xj6 _),rfl,d'.toList,J,?_,⟨?_⟩⟩
  ·rw[Ce];intro i j hi hj hf;have ha:i<d'.size:=by simpa using hi
   have Z:j<d'.size:=by simpa using hj
   have:=hsd i j (Ae _) hf (by simpa [O]using Z);rw[getElem!_pos d' i ha,getElem!_pos d' j Z]at this;simpa using this
  ·show(grow (putRow id (Sort.ahead w n) b 0 (flatK enc k d')) os).ownsRow B T k _ _ _;rw[T8 hk,z];exact⟨by rw[r],.inr ⟨b,cap,_,rfl,hB,Xn0 _ hb,hnc,hcm,by simp [putCells,hcs],by rw[<-r];exact Xkq cur _ (by rw[r,hcs];exact AS _ hnc)⟩⟩
end Go.Vc
namespace Go.Proofs
open Go.Shelf
def Tryz.sortF164_ren : Go.Shelf.Ren:=⟨λ|6=>164|15=>204|14=>241|28=>271|29=>272|20=>252|21=>291|22=>292|23=>293|24=>294|25=>295|26=>296|27=>297|46=>324|47=>314|48=>315|49=>325|50=>326|57=>336|n=>n,λ|22=>95|24=>79|25=>169|3=>3|39=>237|0=>0|53=>174|55=>236|4=>4|46=>331|45=>330|50=>302|5=>5|9=>9|66=>355|70=>197|76=>368|77=>211|n=>n,λ|n=>n⟩
theorem Tryz.sortF164 : Go.Proofs.SlLaysF0.n6 Tryz.prog Tryz.sortF164_ren:={
 mixed:=by kernel_rfl
 f6:=⟨Tryz.f164.name,by decide,Tryz.func164.trans (congrArg some EA)⟩
 f14:=⟨Tryz.f241.name,by decide,Tryz.func241.trans (congrArg some EA)⟩
 f15:=Tryz.func204.trans (congrArg some EA)
 f20:=⟨Tryz.f252.name,by decide,Tryz.func252.trans (congrArg some EA)⟩
 f21:=⟨Tryz.f291.name,by decide,Tryz.func291.trans (congrArg some EA)⟩
 f22:=⟨Tryz.f292.name,by decide,Tryz.func292.trans (congrArg some EA)⟩
 f23:=⟨Tryz.f293.name,by decide,Tryz.func293.trans (congrArg some EA)⟩
 f24:=⟨Tryz.f294.name,by decide,Tryz.func294.trans (congrArg some EA)⟩
 f25:=⟨Tryz.f295.name,by decide,Tryz.func295.trans (congrArg some EA)⟩
 f26:=⟨Tryz.f296.name,by decide,Tryz.func296.trans (congrArg some EA)⟩
 f27:=⟨Tryz.f297.name,by decide,Tryz.func297.trans (congrArg some EA)⟩
 f28:=Tryz.func271.trans (congrArg some EA)
 f29:=Tryz.func272.trans (congrArg some EA)
 f46:=⟨Tryz.f324.name,by decide,Tryz.func324.trans (congrArg some EA)⟩
 f47:=Tryz.func314.trans (congrArg some EA)
 f48:=Tryz.func315.trans (congrArg some EA)
 f49:=⟨Tryz.f325.name,by decide,Tryz.func325.trans (congrArg some EA)⟩
 f50:=⟨Tryz.f326.name,by decide,Tryz.func326.trans (congrArg some EA)⟩
 f57:=⟨Tryz.f336.name,by decide,Tryz.func336.trans (congrArg some EA)⟩
 t0:=Tryz.underlying0
 a0:=Tryz.isAgg0
 z0:=Tryz.sizeOf0
 v0:=Tryz.zeroValue0
 t3:=Tryz.underlying3
 a3:=Tryz.isAgg3
 z3:=Tryz.sizeOf3
 v3:=Tryz.zeroValue3
 t4:=Tryz.underlying4
 a4:=Tryz.isAgg4
 z4:=Tryz.sizeOf4
 v4:=Tryz.zeroValue4
 t5:=Tryz.underlying5
 a5:=Tryz.isAgg5
 z5:=Tryz.sizeOf5
 v5:=Tryz.zeroValue5
 t9:=Tryz.underlying9
 a9:=Tryz.isAgg9
 z9:=Tryz.sizeOf9
 v9:=Tryz.zeroValue9
 t22:=Tryz.underlying95
 a22:=Tryz.isAgg95
 z22:=Tryz.sizeOf95
 v22:=Tryz.zeroValue95
 t25:=Tryz.underlying169
 a25:=Tryz.isAgg169
 z25:=Tryz.sizeOf169
 v25:=Tryz.zeroValue169
 t39:=Tryz.underlying237
 a39:=Tryz.isAgg237
 z39:=Tryz.sizeOf237
 v39:=Tryz.zeroValue237
 t45:=Tryz.underlying330
 a45:=Tryz.isAgg330
 z45:=Tryz.sizeOf330
 v45:=Tryz.zeroValue330
 t46:=Tryz.underlying331
 a46:=Tryz.isAgg331
 z46:=Tryz.sizeOf331
 v46:=Tryz.zeroValue331
 t50:=Tryz.underlying302
 a50:=Tryz.isAgg302
 z50:=Tryz.sizeOf302
 v50:=Tryz.zeroValue302
 t53:=Tryz.underlying174
 a53:=Tryz.isAgg174
 z53:=Tryz.sizeOf174
 v53:=Tryz.zeroValue174
 t55:=Tryz.underlying236
 a55:=Tryz.isAgg236
 z55:=Tryz.sizeOf236
 v55:=Tryz.zeroValue236
 t66:=Tryz.underlying355
 a66:=Tryz.isAgg355
 z66:=Tryz.sizeOf355
 v66:=Tryz.zeroValue355
 t70:=Tryz.underlying197
 a70:=Tryz.isAgg197
 z70:=Tryz.sizeOf197
 v70:=Tryz.zeroValue197
 t76:=Tryz.underlying368
 a76:=Tryz.isAgg368
 z76:=Tryz.sizeOf368
 v76:=Tryz.zeroValue368
 t77:=Tryz.underlying211
 a77:=Tryz.isAgg211
 z77:=Tryz.sizeOf211
 v77:=Tryz.zeroValue211 }
end Go.Proofs
namespace Go.Proofs.YtiooodckiddpmaaGreatDoor
open Go.Vc Go.Sp
attribute [local irreducible] W XW Dw Gs
section
open Go.Shelf Go.RowKit Go.Lib Go.Sort
theorem X99 : Tryz.f165.ntmps=10:=by kernel_rfl
theorem Xkr (x y:Cell)(W:World):Calls Tryz.prog 165 #[.agg x.cs.toArray,.agg y.cs.toArray] W λe w'=>e=.returned (.int .i64 (Lib.compareBytes x.key y.key))/\∃q os',w'=grow (W.drewN q) os':=by
 have z:=λW'=>Tryz.strings_Compare ⟨⟨x.key⟩⟩ ⟨⟨y.key⟩⟩ W';change ∀W',Calls Tryz.prog 166 _ _ _ at z
 generalize Lib.compareBytes x.key y.key=r at z ⊢
 go_enter Tryz.func165,X99
 go_wp2_with (go_at_call 166;refine(z _).mono ?_;rintro e w' ⟨rfl,rfl⟩)
 go_ret
 exact⟨rfl,0,_,by rw[alloc_eq_grow,alloc_eq_grow,grow_grow];rfl⟩
@[reducible] def PC (x y:Cell):Int:=Lib.compareBytes x.key y.key
theorem PW (x y:Cell):ltOf PC x y=Fg x.key y.key:=by
 unfold ltOf PC;rw[Bool.eq_iff_iff,decide_eq_true_iff];exact SH x.key y.key
theorem X6j : SWO (ltOf PC) where
 irrefl x:=by rw[PW,I1]
 trans x y z h1 h2:=by rw[PW]at *;exact Jl _ _ _ h1 h2
 ntrans x y z h1 h2:=by
  rw[PW]at *;rcases JK x.key z.key with h|h|h
  ·rw[h,I1]
  ·rcases JK y.key z.key with h3|h3|h3
   ·rw[h3]at h1;exact h1
   ·rw[h3]at h2;cases h2
   ·rw[Jl _ _ _ h h3]at h1;cases h1
  ·exact K9 h
instance : Inhabited Cell:=⟨Cell.zero⟩
theorem Xpx {T B:Nat}{w:World}{v:Value}{l:List Cell}(ho:Vc.Own Cell.cs 4 T B w v l)(hl:l.length<4611686018427387904) :
  Calls Tryz.prog 164 [v,.func (.func 165) #[] #[]].toArray w (Ff (λk=>v.ownBlock=some k) w λu w'=>u=.tuple #[]/\∃l',l'.Perm l/\l'.Pairwise (λx y=>Fg y.key x.key=false)/\Vc.Own Cell.cs 4 T B w' v l'):=by
 have h:=X6i Tryz.sortF164 4 (λw=>(Ml (k:=4) (T:=79) EA).1) (λw=>(Ml (k:=4) (T:=79) EA).2) Cell.cs (λ_=>rfl) (λx v hv=>by simp at hv;rcases hv with rfl|rfl|rfl|rfl<;>rfl) PC X6j 165 #[] (enters_of Tryz.func165 EA rfl) (λx y W=>Xkr x y W) ho hl;refine Calls.mono h ?_;rintro e w' ⟨u,he,hm,hu,l',h1,h2,h3⟩;exact⟨u,he,hm,hu,l',h1,h2.imp (λ {a b} hab=>by rw[PW]at hab;exact hab),h3⟩
end
theorem X0l {rows:List Rw}{seq:Int}{l':List Cell}(h1:l'.Perm ((IR rows).map (·.cell seq)))(h2:l'.Pairwise (λx y=>Fg y.key x.key=false)):l'=G0 rows seq:=by
 have hk:l'.Pairwise λa b=>a.key≠b.key:=by
  have h:((IR rows).map (·.cell seq)).Pairwise λa b=>a.key≠b.key:=List.pairwise_map.2 ((Xtd rows).imp (λ {a b} hab=>hab));exact h.perm h1.symm (λ {a b} hab=>hab.symm)
 refine X98 (E8 (λa b (ha:Fg b.key a.key=false) (hb:a.key≠b.key)=>?_) h2 hk) (R6 rows seq) λx=>by rw[Xny,h1.mem_iff]
 rcases JK a.key b.key with h|h|h
 ·exact absurd h hb
 ·exact h
 ·rw[ha]at h;cases h
theorem Yb7 (a b:Int)(h:I a=I b):a=b:=by simpa using h
theorem RV : MapK Tryz.prog 242 9 3 S Vc.I (λs=>s.length<=maxLen):=ML EA EA Yb7
theorem Xwy (l:List Rw)(k:Nat)(r:Rw)(h:l[k]?=some r):putF (Kf l k) r.key (k:Int)=Kf l (k+1):=by
 funext s
 show(putF (Kf l k) r.key (k:Int)) s=if(LI l k).key=s then some (k:Int)else Kf l k s
 unfold putF;rw[Oy h]
 by_cases e:s=r.key
 ·rw[if_pos e,if_pos e.symm]
 ·rw[if_neg e,if_neg (λe2=>e e2.symm)]
theorem X0m (l:List Rw)(v:Value)(seq:Int)(w:World)(hv:EQ Rw.cs 3 w v l)(hl:l.length<=100000)(hks:∀r∈l,r.key.length<=1000000) :
  Calls Tryz.prog 88 [v,I seq].toArray w (ES w (λu w'=>Vc.Own Cell.cs 4 79 w.heap.size w' u (G0 l seq))):=by
 refine cw Tryz.func88 ?_;have J:=ED.refl w;refine ws λ_ Z1=>wr (da (de Z1 (ws λ_ Z2=>wr ?_)));refine Px RV rfl RX.all (λb1 w1 e1 x1 z=>?_);have g1:=J.ge e1;have J:=J.trans x1;refine da (de Z2 (ws λ_ Z3=>ws λ_ Z4=>wr (dm ?_)));refine dv 48 3 (hv.ext J).sl (dm (de Z4 (EM ?_)));refine Fq (G:=Nat) (λk=>[(0,v),(1,I seq),(4,.slice none 0 0),(5,.map (some b1)),(12,v),(13,I ↑l.length),(14,I ↑k)]) (λk w'=>ED w w'/\k<=l.length/\Vc.Xbq Tryz.prog 9 S Vc.I w' b1 k (Kf l k)) (λk=>l.length-k) 0 ?_ ?_ ?_
 ·exact Gb
 ·exact⟨J,Ae _,z⟩
 intro X2 g2 w2 hb;revert hb;revert g2;intro k hb;clear J z;obtain⟨J,xe,z⟩:=hb;refine ws λ_ Z5=>wr (dp (Fb rfl rfl) (de Z5 (ws λ_ Z6=>wi (λc1=>?_) λc1=>?_)))
 ·obtain⟨r,hk⟩:∃r,l[k]?=some r:=Fw;refine EI (Z6 _ _ (ws λ_ Z7=>EM (ws λ_ Z8=>wr (dm ?_))));refine di 48 3 (hv.ext J).sl rfl ((hv.ext J).lt hk) (dq (Fe EA rfl rfl ((hv.ext J).row hk)) (FP (cs:=[S [],S [],B false]) rfl EA RX.all (λb2 w3 e2 x3 m2=>?_)));have g2:=J.ge e2;have n2_mp1:=z.lt;have z:=z.ext x3;have J:=J.trans x3;refine da ?_;refine FY m2 (λw4 x4 xs4 m2=>?_);dsimp only [EY,Af,Ad,Ag]at m2;have z:=z.mod x4 (by intro h;have h2:_=b2:=h;omega);have J:=J.o1 x4;refine de Z8 (wr (dm ?_));refine df 0 rfl (dl rfl (m2.at rfl) (dm ?_));refine Ou RV (kx:=r.key) (a:=(k:Int)) rfl rfl rfl rfl z (by have:=hks r (Ak hk);unfold maxLen;omega) (by unfold maxLen;omega) (.inl rfl) (λw5 x5 xs5 hc=>?_);have J:=J.own x5 (λi hi=>by have hy:i=b1:=hi;subst hy;omega);have z:=hc;refine de Z7 (wr (pa rfl rfl (dm (EH (?_)))));refine⟨k+1,Gb,⟨J,by omega,?_⟩,by omega⟩;rw[Xwy l k r hk]at z;exact z
 refine Fk (Z3 _ _ (ws λ_ Z9=>wr (da (de Z9 (ws λ_ xa=>ws λ_ xg=>wr (dm ?_))))));refine dv 48 3 (hv.ext J).sl (dm (de xg (EM ?_)));refine Fq (G:=Nat×Value×List Cell) (λ(k,va,O)=>[(1,I seq),(4,.slice none 0 0),(5,.map (some b1)),(8,va),(24,v),(25,I ↑l.length),(26,I ↑k)]) (λ(k,va,O) w'=>ED w w'/\k<=l.length/\O.length<=k/\O++(IR (l.drop k)).map (·.cell seq)=(IR l).map (·.cell seq)/\Vc.Own Cell.cs 4 79 w.heap.size w' va O/\Vc.Xbq Tryz.prog 9 S Vc.I w' b1 l.length (Kf l l.length)) (λ(k,va,O)=>l.length-k) (0,.slice none 0 0,[]) ?_ ?_ ?_
 ·exact Gb
 ·exact⟨J,Ae _,Ab _,rfl,Vc.Own.nil,by rw[show k=l.length by omega]at z;exact z⟩
 intro X6 g6 w6 hz;obtain⟨k,va,O⟩:=g6;clear J z;obtain⟨J,xe,hal,Y,ho,z⟩:=hz;refine ws λ_ h9=>wr (dp (Fb rfl rfl) (de h9 (ws λ_ h6=>wi (λc2=>?_) λc2=>?_)))
 ·obtain⟨r,hk⟩:∃r,l[k]?=some r:=Fw;have hh:=Xwx hk;have ht:=X6h hk;refine EI (h6 _ _ (ws λ_ hg=>EM (ws λ_ hw=>wr (dm ?_))));refine di 48 3 (hv.ext J).sl rfl ((hv.ext J).lt hk) (dq (Fe EA rfl rfl ((hv.ext J).row hk)) (FP (cs:=[S [],S [],B false]) rfl EA RX.all (λb3 w7 e3 x7 m3=>?_)));have g3:=J.ge e3;have n3_mp1:=z.lt;have Z:=ho.ltb e3;have ho:=ho.ext x7;have z:=z.ext x7;have J:=J.trans x7;refine da ?_;refine FY m3 (λw8 x8 xs8 m3=>?_);dsimp only [EY,Af,Ad,Ag]at m3;have ho:=ho.mod x8 (by intro k hk h;have h1:=Z k hk;have h2:k=b3:=h;omega);have z:=z.mod x8 (by intro h;have h2:_=b3:=h;omega);have J:=J.o1 x8;refine de hw (ws λ_ h7=>wr (dm ?_));refine df 0 rfl (dl rfl (m3.at rfl) (dq (L5 RV (kx:=r.key) (z0:=0) rfl rfl EA z (by have:=hks r (Ak hk);unfold maxLen;omega)) (dm ?_)));refine dp (GB rfl rfl) (de h7 (wi (λc3=>?_) λc3=>?_))
  ·refine wr (dm ?_);refine dq (Fe (k:=3) EA rfl rfl m3.row) (dm ?_);refine cP (Yb r seq _) RX.all λw9 x9=>?_;have ho:=ho.ext x9;have z:=z.ext x9;have J:=J.trans x9;refine li (e:=79) (sz:=4) (zs:=[S [],S [],B false,.int .i64 0]) (pv:=[(0,.agg ⟨[_,_,_,_]⟩)]) (cs:=[_,_,_,_]) RX.all (λb4 w10 e4 ha m4=>?_);have g4:=J.ge e4;have n4_mp1:=z.lt;have o4_ho:=ho.ltb e4;have ho:=ho.ext ha;have z:=z.ext ha;have J:=J.trans ha;refine Hy (lx:=[r.cell seq]) (e:=79) (sz:=4) (by':=48) rfl EA EA EF ho (m4.arr (enc:=Cell.cs) (sz:=4) (l:=[r.cell seq]) rfl EF rfl (Nat.le_of_ble_eq_true rfl)) rfl rfl (by intro x _ u hu;simp at hu;rcases hu with rfl|rfl|rfl|rfl<;>rfl) (by simp;omega) EN J.size (.inl rfl) (λxc w11 hj hr=>?_);have z:=z.mod hr (z.ne_own ho);have J:=J.own hr (λi hi=>(ho.lt i hi).1);have ho:=hj;clear m4;refine da (de hg (wr ?_));refine pa rfl rfl (dm (EH (?_)));refine⟨(k+1,xc,O++[r.cell seq]),Gb,⟨J,by omega,by simp;omega,?_,ho,z⟩,by simp only [];omega⟩;rw[<-Y,hh,if_neg (by rw[ht.1 c3];decide)];simp
  refine EI (hg _ _ (wr (pa rfl rfl (dm (EH (?_))))));refine⟨(k+1,va,O),Gb,⟨J,by omega,by omega,?_,ho,z⟩,by simp only [];omega⟩;have hq:((l.drop (k+1)).any λq=>decide (q.key=r.key))=true:=by
   cases e:((l.drop (k+1)).any λq=>decide (q.key=r.key))with
   | true=>rfl
   | false=>exact absurd (ht.2 e) c3
  rw[<-Y,hh,if_pos hq]
 have xf:k=l.length:=by omega
 rw[xf,BZ (Ab _),show IR ([]:List Rw)=[] from rfl,List.map_nil,AO]at Y;have hll:=Xww l;refine Fk (xa _ _ (ws λ_ xd=>wr (dm ?_)));refine cD (Xpx ho (by rw[Y,List.length_map];omega)) (.inl rfl) λu12 w12 h8 hf=>?_;have hsz12:=J.size;have J:=J.own h8 (λi hi=>(ho.lt i hi).1);obtain⟨rfl,l',hp,h5,ho⟩:=hf;refine de xd (ws λ_ xb=>wr (dm (da (de xb (EJ ?_)))));refine ro ?_;exact⟨_,rfl,J,by rw[X0l (Y▸hp) h5]at ho;exact ho⟩
def Iu (m:List Cell)(cs:List Cell):List Cell:=cs.foldl (λm c=>(put m c).2) m
theorem X0n (l:List Cell)(c:Cell):(put l c).2.length<=l.length+1/\He (put l c).2<=He l+Gt c:=by
 unfold put;split
 ·simp only;omega
 ·simp only;have h:=MK l c;have h1:=congrArg AC h;have h2:=congrArg He h;unfold He at *;simp only [Aa,AH,Cd,AG,An,List.sum_cons]at *;omega
theorem Xwz (m:List Cell)(cs:List Cell):(Iu m cs).length<=m.length+cs.length/\He (Iu m cs)<=He m+He cs:=by
 induction cs generalizing m with
 | nil=>exact⟨Ab _,by show He m<=He m+He [];omega⟩
 | cons c r ih=>
  have h1:=ih (put m c).2;have h2:=X0n m c;have e:He (c :: r)=Gt c+He r:=by simp [He]
  show(Iu (put m c).2 r).length<=_/\He (Iu (put m c).2 r)<=_;rw[e,AG];omega
theorem Xpy (cs:List Cell)(k:Nat):He (cs.take k)<=He cs:=by
 have h:=congrArg He (Bc k cs);unfold He at *;rw[AH,Cd]at h;omega
theorem FG.to {F G:Nat->Prop}{w:World}{bm:Nat}{l:List Cell}(h:FG F w bm l)(hs:∀k,F k->G k)(hl:∀k,G k->k<w.heap.size):FG G w bm l:=by
 obtain⟨va,vd,a,nx,dr,L,h1,h2,h3,h4,h5⟩:=h;exact⟨va,vd,a,nx,dr,L,h1,h2,h3,λk hk=>hs k (h4 k hk),hl⟩
theorem X6l {m cs:List Cell}{k:Nat}{c:Cell}(h:cs[k]?=some c):Iu m (cs.take (k+1))=(put (Iu m (cs.take k)) c).2:=by
 unfold Iu;rw[G1 h,List.foldl_append];rfl
theorem Un (F:Nat->Prop)(bs bd bl:Nat)(n:Int)(vf:Value)(bo bm:Nat)(dead:Bool)(mem:List Cell)(l:List Rw)(v:Value)(seq:Int)(w:World)(hs:EK w bs (H3 bd bl n vf bo bm dead) 90)(hM0:FG F w bm mem)(hFs:¬ F bs)(hv:EQ Rw.cs 3 w v l)(hl:l.length<=100000)(hks:∀r∈l,r.key.length<=1000000)(hml:mem.length<=700000)(hmz:He mem+He (G0 l seq)<=1000000000000) :
  Calls Tryz.prog 42 [EE bs 0,v,I seq].toArray w (Ff F w (λu w'=>u=.tuple #[]/\FG (NI F w w') w' bm (Iu mem (G0 l seq)))):=by
 refine cw Tryz.func42 ?_;have J:=Vc.Mod.refl F w;have z:=hM0;have hf:=hM0.lt;have hh:=hs.lt;have hcl:=Py l seq;refine ws λ_ Z1=>wr (dm (dm ?_));refine cG (X0m l v seq _ hv hl hks) RX.all λvc w1 x1 hp=>?_;have ha:=J.size;have hs:=hs.ext x1;have z:=z.ext x1;have J:=J.ext x1;have O:=hp.mono ha;have hq:=Ai ha x1.size;have Z:Sz w1.heap.size w1:=⟨Ab _⟩;have hy:=λk9 h9=>(O.lt k9 h9).2;refine dv 79 4 (O.arr EF).sl (dm (de Z1 (EM ?_)));refine Fq (G:=Nat×(Nat->Prop)) (λ(k,Fc)=>[(0,EE bs 0),(10,vc),(11,I ↑(G0 l seq).length),(12,I ↑k)]) (λ(k,Fc) w'=>Mod F w w'/\k<=(G0 l seq).length/\FG Fc w' bm (Iu mem ((G0 l seq).take k))/\(∀j,Fc j->F j\/w1.heap.size<=j)/\EK w' bs (H3 bd bl n vf bo bm dead) 90/\Vc.Own Cell.cs 4 79 w.heap.size w' vc (G0 l seq)/\Sz w1.heap.size w') (λ(k,Fc)=>(G0 l seq).length-k) (0,F) ?_ ?_ ?_
 ·exact Gc
 ·exact⟨J,Ae _,z,λ_ h=>.inl h,hs,O,Z⟩
 intro X2 g2 w2 hw;obtain⟨k,Fc⟩:=g2;clear J hs z O Z;obtain⟨J,hk1,z,Y,hs,O,Z⟩:=hw;have hSr:=Z.le;refine ws λ_ Z2=>wr (dp (Fb rfl rfl) (de Z2 (ws λ_ Z3=>wi (λc1=>?_) λc1=>?_)))
 ·obtain⟨c,hk⟩:∃c,(G0 l seq)[k]?=some c:=Fw;have hpz:=Xwz mem ((G0 l seq).take k);have hst:=Xpy (G0 l seq) k;have hlt9:((G0 l seq).take k).length<=(G0 l seq).length:=by rw[A5];omega
  refine EI (Z3 _ _ (ws λ_ Z4=>EM (ws λ_ Z5=>wr (di 79 4 (O.arr EF).sl rfl ((O.arr EF).lt hk) (dq (Fe EA rfl rfl ((O.arr EF).row hk)) (FP (cs:=[S [],S [],B false,.int .i64 0]) rfl EA RX.all (λb1 w3 e1 x3 m1=>?_)))))));have g1:=J.ge e1;have hb:=z.lt;have o1_hM:=z.lt;have a1_hs:=hs.lt;have hc:=O.ltb e1;have a1_hS:=Z.le;have z:=z.ext x3;have hs:=hs.ext x3;have O:=O.ext x3;have Z:=Z.ext x3;have J:=J.ext x3;refine FY m1 (λw4 x4 xs4 m1=>?_);dsimp only [EY,Af,Ad,Ag]at m1;have z:=z.mod x4 (λk9 h9 e=>by have h2:k9=b1:=e;have h8:=hb k9 h9;omega);have hs:=hs.mod x4 (by intro h;have h2:_=b1:=h;omega);have O:=O.mod x4 (by intro k hk h;have h1:=hc k hk;have h2:k=b1:=h;omega);have Z:=Z.mod x4 trivial;have J:=J.o1 x4;refine de Z5 (F9 (R:=ED) ED.refl (λ_ _ _=>ED.trans) EA [3,4] [(0,.p,false),(1,.p,false),(2,.p,false),(3,.l,false),(4,.l,false),(5,.x,true)] rfl EA EA (λw5 hg=>?_));have x5:=EL hg;clear hg;have z:=z.ext x5;have hs:=hs.ext x5;have O:=O.ext x5;have Z:=Z.ext x5;have m1:=m1.ext x5;have J:=J.ext x5;refine dm ?_;refine dz rfl (df 5 rfl (dL rfl (λ_ hR=>((hs.ext hR).at rfl)) (FW rfl (λw' hR=>Fe (k:=4) EA rfl rfl (m1.ext hR).row) ?_)));have ht:=Z.le;refine cD (z.calls_put c _ EB EB) (.inl rfl) λu6 w6 x6 hr=>?_;have hsz6:=J.size;have hs:=hs.mod x6 (λh9=>(Y _ h9).elim hFs (λh=>by have:=hh;omega));have O:=O.mod x6 (λk9 h9 e9=>(Y _ e9).elim (λh=>by have:=hf _ h;have:=(O.lt k9 h9).1;omega) (λh=>by have:=hy k9 h9;omega));have Z:=Z.mod x6 trivial;have J:=J.own x6 (λi hi hlt=>((Y i hi).resolve_right (λh=>by have:=hq;omega)));obtain⟨rfl,z⟩:=hr;refine de Z4 (wr (pa rfl rfl (dm (EH (?_)))));rw[<-X6l hk]at z;exact⟨(k+1,_),Gc,⟨J,by omega,z,λj hj=>hj.elim (Y j) (λh=>.inr (Ai ht h.1)),hs,O,Z⟩,by simp only [];omega⟩
 refine Fk (HH (Hh rfl ?_));rw[Ay EB]at z;refine⟨_,rfl,J,rfl,?_⟩;exact z.to (λj hj=>(Y j hj).elim .inl (λh=>.inr ⟨by omega,z.lt j hj⟩)) (λj hj=>hj.elim (λh=>Az (hf j h) J.size) (·.2))
theorem X0o (l:List Fi)(v:Value)(w:World)(hv:EQ Fi.cs 5 w v l)(hl:l.length<=100000) :
  Calls Tryz.prog 65 [v].toArray w (ES w (λu w'=>Vc.Own Fi.cs 5 62 w.heap.size w' u l)):=by
 refine cw Tryz.func65 ?_;have r:=ED.refl w;refine ws λ_ Z1=>wr (da (de Z1 (ws λ_ Y=>ws λ_ Z3=>wr (dm ?_))));refine dp (NA (e:=62) (k:=5) EA hv.sl rfl rfl) (de Z3 (wc (λJ=>?_) λJ=>?_))
 ·refine ws λ_ Z=>wr (da (de Z (EJ ?_)));refine ro ?_;have e:l=[]:=by
   rcases hv.sl with⟨_,e⟩|⟨b,o,c,e,_⟩|⟨e,_⟩
   ·exact A4 e
   ·rw[e]at J;simp [Nd]at J
   ·exact A4 e
  subst e;exact⟨_,rfl,r,Vc.Own.nil⟩
 refine EI (Y _ _ (ws λ_ Z5=>wr (Qb (e:=62) (sz:=5) rfl EA RX.all (λb1 w1 e1 x1 m1=>?_))));have g1:=r.ge e1;have r:=r.trans x1;refine dm ?_;have ho:=m1.own (enc:=Fi.cs) (B:=w.heap.size) (l:=[]) (sz:=5) (m:=0) g1 rfl EF rfl ER;refine Hy (lx:=l) (e:=62) (sz:=5) (by':=56) rfl EA EA EF ho ((hv.ext r)) rfl rfl (by intro x _ u hu;simp at hu;rcases hu with rfl|rfl|rfl|rfl|rfl<;>rfl) (by simp;omega) EN r.size (.inl rfl) (λvp w2 z O=>?_);have r:=r.own O (λi hi=>(ho.lt i hi).1);have ho:=z;refine da (de Z5 (EJ ?_));refine ro ?_;exact⟨_,rfl,r,by simpa using ho⟩
theorem Yaa (bs bd bl:Nat)(n:Int)(vf:Value)(bo bm:Nat)(dead:Bool)(G:Nat->Prop)(vd ve:Value)(vs:List (Value×EC))(L:Led)(w:World)(hs:EK w bs (H3 bd bl n vf bo bm dead) 90)(hE:LedE G bl bd vd ve vs L w) :
  Calls Tryz.prog 17 [EE bs 0].toArray w (Pure w (I L.last)):=by
 refine cw Tryz.func17 ?_;have r:=ED.refl w;refine ws λ_ Y=>wr (da (de Y (ws λ_ J=>ws λ_ Z3=>wr (dm ?_))));refine dp (Gi EA rfl rfl) (de Z3 (wi (λz=>?_) λz=>?_))
 ·exact absurd z ER
 refine EI (J _ _ (ws λ_ O=>wr (dm ?_)));refine dz rfl (df 1 rfl (dl rfl ((hs.ext r).at rfl) (cP (GC G bl bd vd ve vs L _ (hE.ext r)) RX.all λw1 Z=>?_)));have r:=r.trans Z;refine da (de O (EJ ?_));refine ro ?_;exact⟨rfl,r⟩
theorem MV : MapK Tryz.prog 87 104 102 Gz pO KG:=Qj (i:=3) EA EA (UF EA EA EA) EA EA EA EA EA EA Qc
structure Tb where
 h:Int×Int
 bt:Nat
 vl:Value
 vb:Value
 cs:List Cell
def H5 (ts:List Tb)(h:Int×Int):Option Tb:=ts.find? λt=>decide (t.h=h)
def Ja (ts:List Tb)(h:Int×Int):Option (Option Nat):=(H5 ts h).map λt=>some t.bt
def Ll (ts:List Tb)(key:EC):List Fi->Option Cell
 | []=>none
 | f :: r=>match(H5 ts (f.lev,f.id)).bind λt=>first t.cs key 1099511627776 with
  | some c=>some c
  | none=>Ll ts key r
def Ky (mem:List Cell)(fs:List Fi)(ts:List Tb)(key:EC):Option Cell:=match first mem key 1099511627776 with
 | some c=>some c
 | none=>Ll ts key (JY fs key)
theorem Xtf {mem:List Cell}{fs:List Fi}{ts:List Tb}{key:EC}{c:Cell}(h:first mem key 1099511627776=some c):Ky mem fs ts key=some c:=by unfold Ky;rw[h]
theorem Rt {mem:List Cell}{fs:List Fi}{ts:List Tb}{key:EC}(h:first mem key 1099511627776=none):Ky mem fs ts key=Ll ts key (JY fs key):=by unfold Ky;rw[h]
theorem ON {ts:List Tb}{h:Int×Int}{t:Tb}(e:H5 ts h=some t):t∈ts:=List.mem_of_find?_eq_some e
theorem Yf {ts:List Tb}{key:EC}{fs:List Fi}{k:Nat}{f:Fi}{t:Tb}{c:Cell}(h:fs[k]?=some f)(ht:H5 ts (f.lev,f.id)=some t)(hc:first t.cs key 1099511627776=some c):Ll ts key (fs.drop k)=some c:=by
 rw[Jd h];unfold Ll;rw[ht,Cl,hc]
theorem S3 {ts:List Tb}{key:EC}{fs:List Fi}{k:Nat}{f:Fi}{t:Tb}(h:fs[k]?=some f)(ht:H5 ts (f.lev,f.id)=some t)(hc:first t.cs key 1099511627776=none):Ll ts key (fs.drop k)=Ll ts key (fs.drop (k+1)):=by
 rw[Jd h,Ll.eq_2,ht,Cl,hc]
theorem LV.to {P:Program}{o:Oper}{E:Fh}{w:World}{v v':Value}(h:LV P o E w v)(e:v=v'):LV P o E w v':=e▸h
theorem Vz {ts:List Tb}{h:Int×Int}{t:Tb}(e:H5 ts h=some t):pO ((Ja ts h).getD none)=EE t.bt 0:=by unfold Ja;rw[e];rfl
theorem Xw2 {fs:List Fi}{key:EC}{f:Fi}(h:f∈JY fs key):f∈fs:=by
 unfold JY HS at h;simp only [Aw,List.mem_reverse,List.mem_filter]at h;rcases h with(((h|h)|h)|h)|h<;>exact h.1
theorem X6m (bs bd bl:Nat)(n:Int)(vf:Value)(bo bm no:Nat)(dead:Bool)(F:Nat->Prop)(mem:List Cell)(fs:List Fi)(ts:List Tb)(key:EC)(w:World)(hs:EK w bs (H3 bd bl n vf bo bm dead) 90)(hM:FG F w bm mem)(hml:mem.length<=900000)(hf:EQ Fi.cs 5 w vf fs)(hfl:fs.length<=100000)(mo:Vc.Xbq Tryz.prog 104 Gz pO w bo no (Ja ts))(htb:∀t∈ts,TblE t.bt t.vl t.vb t.cs w)(hfs:∀f∈fs,(∃t,H5 ts (f.lev,f.id)=some t)/\EU f.lev/\EU f.id)(hkl:key.length<=1000000000) :
  Calls Tryz.prog 58 [EE bs 0,S key].toArray w (Pure w (.tuple #[((Ky mem fs ts key).getD Cell.zero).v,B (Ky mem fs ts key).isSome])):=by
 refine cw Tryz.func58 ?_;have r:=ED.refl w;refine ws λ_ Z1=>wr (FP (cs:=[S [],S [],B false,.int .i64 0]) rfl EA RX.all (λb1 w1 e1 x1 z=>?_));have g1:=r.ge e1;have r:=r.trans x1;refine da (de Z1 (ws λ_ Z2=>ws λ_ Z3=>wr (dm ?_)));refine dz rfl (df 5 rfl (dl rfl ((hs.ext r).at rfl) (dm ?_)));refine cP (hM.ext r |>.calls_get key 1099511627776 _ hml) RX.all λw2 x2=>?_;have z:=z.ext x2;have r:=r.trans x2;refine dm ?_;refine dx rfl rfl (dx rfl rfl (FP (cs:=[S [],S [],B false,.int .i64 0]) rfl EA RX.all (λb2 w3 e2 x3 m2=>?_)));have g2:=r.ge e2;have n2_1:=z.ltb e2;have z:=z.ext x3;have r:=r.trans x3;refine FY m2 (λw4 x4 xs4 m2=>?_);dsimp only [EY,Af,Ad,Ag]at m2;have z:=z.mo x4;have r:=r.o1 x4;refine da (de Z3 (ws λ_ Z4=>wr (dm (de Z4 ?_))));refine wc (λc1=>?_) λc1=>?_
 ·refine ws λ_ Z5=>wr (dq (Fe (k:=4) EA rfl rfl m2.row) (FY z (λw5 x5 xs5 z=>?_)));dsimp only [EY,Af,Ad,Ag]at z;have r:=r.o1 x5;refine da (de Z5 (EJ ?_));refine IH (u:=?v10) rfl rfl rfl rfl EA rfl z.row ?h10 ?k10
  case h10=>conv=>lhs;whnf
  obtain⟨c,O⟩:=Cy.1 c1;rw[Xtf O,O];exact⟨rfl,r⟩
 have Y:first mem key 1099511627776=none:=by simpa using c1
 refine EI (Z2 _ _ (ws λ_ Z6=>ws λ_ Z7=>wr (dm ?_)));refine dz rfl (df 2 rfl (dq (Fe EA rfl rfl ((hs.ext r).part 2 2)) (dm ?_)));refine cG (X58 n fs vf key _ (hf.ext r) hfl) RX.all λvo w6 x6 xg=>?_;have h6:=r.size;have z:=z.ext x6;have r:=r.trans x6;have J:=xg.mono h6;refine dv 62 5 (J.arr EF).sl (dm (de Z7 (EM ?_)));refine Fq (G:=Nat) (λk=>[(0,EE bs 0),(1,S key),(4,EE b1 0),(28,vo),(29,I ↑(JY fs key).length),(30,I ↑k)]) (λk w'=>ED w w'/\EK w' b1 Cell.zero.cs 79/\Vc.Own Fi.cs 5 62 w.heap.size w' vo (JY fs key)/\k<=(JY fs key).length/\Ll ts key (JY fs key)=Ll ts key ((JY fs key).drop k)) (λk=>(JY fs key).length-k) 0 ?_ ?_ ?_
 ·exact G2
 ·exact⟨r,z,J,Ae _,rfl⟩
 intro X7 g7 w7 hj;revert hj;revert g7;intro k hj;clear r z m2 J;obtain⟨r,z,J,hk1,Z⟩:=hj;refine ws λ_ Z8=>wr (dp (Fb rfl rfl) (de Z8 (ws λ_ Z9=>wi (λc2=>?_) λc2=>?_)))
 ·obtain⟨f,hk⟩:∃f,(JY fs key)[k]?=some f:=Fw;have hr:=hfs f (Xw2 (Ak hk));obtain⟨t,ht⟩:=hr.1;have hT:=htb t (ON ht);have xf:=VP fs key 4;rw[Yc]at xf;refine EI (Z9 _ _ (ws λ_ h8=>EM (ws λ_ xj=>wr (di 62 5 (J.arr EF).sl rfl ((J.arr EF).lt hk) (dq (Fe EA rfl rfl ((J.arr EF).row hk)) (FP (cs:=[.int .i64 0,.int .i64 0,.int .i64 0,S [],S []]) rfl EA RX.all (λb3 w8 e3 x8 m3=>?_)))))));have g3:=r.ge e3;have n3_1:=z.ltb e3;have hz:=J.ltb e3;have z:=z.ext x8;have J:=J.ext x8;have r:=r.trans x8;refine FY m3 (λw9 x9 xs9 m3=>?_);dsimp only [EY,Af,Ad,Ag]at m3;have z:=z.mo x9;have J:=J.mod x9 (by intro k hk h;have h1:=hz k hk;have h2:k=b3:=h;omega);have r:=r.o1 x9;refine de xj (ws λ_ h7=>Lb (R:=ED) ED.refl (λ_ _ _=>ED.trans) EA [3,5,7,9] (.one 0 .p false (.one 1 .p false (.one 2 .p false (.one 3 .l false (.one 4 .p false (.one 5 .l false (.one 6 .p false (.one 7 .l false (.one 8 .p false (.one 9 .l false (.one 10 .p false (.fork (.alt 11 false (.one 12 .p false (.one 13 .p false (.one 14 .p false (.one 15 .x false (.one 16 .x true (.one 17 .p false .nil)))))) (.alt 15 false (.one 11 .x false (.one 12 .p false (.one 13 .p false (.one 14 .p false (.one 16 .x true (.one 17 .p false .nil)))))) .stop)))))))))))))) EA EA (λw10 hg=>?_));have hb:=EL hg;clear hg;have z:=z.ext hb;have J:=J.ext hb;have m3:=m3.ext hb;have r:=r.trans hb;refine EX (dm (EH ?_));refine EX (dz rfl (EH (EX (df 4 rfl (EH (EX (dL rfl (λ_ hR=>((hs.ext (r.trans hR)).at rfl)) (EH (EX (df 1 rfl (EH (EX (dL rfl (λ_ hR=>((m3.ext hR).at rfl)) ?_)))))))))))));refine EH (EX (df 0 rfl (EH (EX (dL rfl (λ_ hR=>((m3.ext hR).at rfl)) (EH (EX (db (zs:=[.int .i64 0,.int .i64 0]) (pl:=[(0,1),(1,1)]) (pv:=[(0,_),(1,_)]) (cs:=[_,_]) (EH ?_)))))))));refine EX (FW (v:=EE t.bt 0) rfl (λw' hR=>LV.to (L5 MV (kx:=(f.lev,f.id)) (z0:=none) rfl rfl EA (mo.ext (r.trans hR)) ⟨hr.2.1,hr.2.2⟩) (Vz ht)) (EH (EX (dm (EH ?_)))));refine Ju ?_;refine H6 ?_ ?_
  ·refine cP (VT t.bt t.vl t.vb t.cs key 1099511627776 _ (hT.ext r) hkl) RX.ext λw11 h5=>?_;have z:=z.ext h5;have J:=J.ext h5;have r:=r.trans h5;refine EH (EX (dm (EH ?_)));refine EX (dx rfl rfl (EH (EX (dx rfl rfl (EH (EX (FP (cs:=[S [],S [],B false,.int .i64 0]) rfl EA RX.ext (λb4 w12 e4 hp m4=>?_))))))));have g4:=r.ge e4;have n4_1:=z.ltb e4;have hw:=J.ltb e4;have z:=z.ext hp;have J:=J.ext hp;have r:=r.trans hp;refine EH (EX (FY m4 (λw13 hh xs13 m4=>?_)));dsimp only [EY,Af,Ad,Ag]at m4;have z:=z.mo hh;have J:=J.mod hh (by intro k hk h;have h1:=hw k hk;have h2:k=b4:=h;omega);have r:=r.o1 hh;refine EH (EX (da (EH ?_)));refine Ii (h7 _ _ (ws λ_ xc=>wr (dm (de xc ?_))));refine wc (λc3=>?_) λc3=>?_
   ·refine ws λ_ xb=>wr (dq (Fe (k:=4) EA rfl rfl m4.row) (FY z (λw14 xi xs14 z=>?_)));dsimp only [EY,Af,Ad,Ag]at z;have r:=r.o1 xi;refine da (de xb (EJ ?_));refine IH (u:=?v24) rfl rfl rfl rfl EA rfl z.row ?h24 ?k24
    case h24=>conv=>lhs;whnf
    obtain⟨c,O⟩:=Cy.1 c3;rw[Rt Y,Z,Yf hk ht O,O];exact⟨rfl,r⟩
   refine EI (h8 _ _ (wr (pa rfl rfl (dm (EH (?_))))));have O:first t.cs key 1099511627776=none:=by simpa using c3
   exact⟨k+1,G2,⟨r,z,J,by omega,by rw[Z,S3 hk ht O]⟩,by omega⟩
  refine H6 ?_ ?_
  ·refine FP (cs:=[S [],S [],B false,.int .i64 0]) rfl EA RX.ext (λb5 w15 e5 hy m5=>?_);have g5:=r.ge e5;have n5_1:=z.ltb e5;have hl:=J.ltb e5;have z:=z.ext hy;have J:=J.ext hy;have r:=r.trans hy;refine EH (EX (cP (VT t.bt t.vl t.vb t.cs key 1099511627776 _ (hT.ext r) hkl) RX.ext λw16 ha=>?_));have z:=z.ext ha;have J:=J.ext ha;have m5:=m5.ext ha;have r:=r.trans ha;refine EH (EX (dm (EH ?_)));refine EX (dx rfl rfl (EH (EX (dx rfl rfl (EH (EX (FY m5 (λw17 hq xs17 m5=>?_))))))));dsimp only [EY,Af,Ad,Ag]at m5;have z:=z.mo hq;have J:=J.mod hq (by intro k hk h;have h1:=hl k hk;have h2:k=b5:=h;omega);have r:=r.o1 hq;refine EH (EX (da (EH ?_)));refine Ii (h7 _ _ (ws λ_ xa=>wr (dm (de xa ?_))));refine wc (λc4=>?_) λc4=>?_
   ·refine ws λ_ xd=>wr (dq (Fe (k:=4) EA rfl rfl m5.row) (FY z (λw18 h9 xs18 z=>?_)));dsimp only [EY,Af,Ad,Ag]at z;have r:=r.o1 h9;refine da (de xd (EJ ?_));refine IH (u:=?v32) rfl rfl rfl rfl EA rfl z.row ?h32 ?k32
    case h32=>conv=>lhs;whnf
    obtain⟨c,O⟩:=Cy.1 c4;rw[Rt Y,Z,Yf hk ht O,O];exact⟨rfl,r⟩
   refine EI (h8 _ _ (wr (pa rfl rfl (dm (EH (?_))))));have O:first t.cs key 1099511627776=none:=by simpa using c4
   exact⟨k+1,G2,⟨r,z,J,by omega,by rw[Z,S3 hk ht O]⟩,by omega⟩
  exact Jv
 refine Fk (Z6 _ _ (ws λ_ xh=>wr (db (zs:=[S [],S [],B false,.int .i64 0]) (pl:=[(0,1),(1,1),(2,1),(3,1)]) (pv:=[]) (cs:=[S [],S [],B false,.int .i64 0]) ?_)));refine FY z (λw19 xe xs19 z=>?_);dsimp only [EY,Af,Ad,Ag]at z;have r:=r.o1 xe;refine da (de xh (EJ ?_));refine IH (u:=?v37) rfl rfl rfl rfl EA rfl z.row ?h37 ?k37
 case h37=>conv=>lhs;whnf
 rw[Rt Y,Z,BZ EB];exact⟨rfl,r⟩
def JD (o:Option Cell):EC×Bool:=match o with
 | some c=>if c.del=true then([],false)else(c.val,true)
 | none=>([],false)
theorem Xw3 {o:Option Cell}(h:o.isSome=false):JD o=([],false):=by cases o with|none=>rfl|some c=>cases h
theorem X0p {o:Option Cell}(h:o.isSome=true)(h2:(o.getD Cell.zero).del=true):JD o=([],false):=by
 cases o with
 | none=>cases h
 | some c=>exact if_pos h2
theorem X0q {o:Option Cell}(h:o.isSome=true)(h2:(o.getD Cell.zero).del=false):JD o=((o.getD Cell.zero).val,true):=by
 cases o with
 | none=>cases h
 | some c=>exact if_neg (by rw[show c.del=false from h2];decide)
theorem Yab (bs bd bl:Nat)(n:Int)(vf:Value)(bo bm no:Nat)(dead:Bool)(F:Nat->Prop)(mem:List Cell)(fs:List Fi)(ts:List Tb)(key:EC)(w:World)(hs:EK w bs (H3 bd bl n vf bo bm dead) 90)(hM:FG F w bm mem)(hml:mem.length<=900000)(hf:EQ Fi.cs 5 w vf fs)(hfl:fs.length<=100000)(mo:Vc.Xbq Tryz.prog 104 Gz pO w bo no (Ja ts))(htb:∀t∈ts,TblE t.bt t.vl t.vb t.cs w)(hfs:∀f∈fs,(∃t,H5 ts (f.lev,f.id)=some t)/\EU f.lev/\EU f.id)(hkl:key.length<=1000000000) :
  Calls Tryz.prog 22 [EE bs 0,S key].toArray w (Pure w (.tuple #[S (JD (Ky mem fs ts key)).1,B (JD (Ky mem fs ts key)).2])):=by
 refine cw Tryz.func22 ?_;have r:=ED.refl w;refine ws λ_ Z1=>wr (da (da (de Z1 (ws λ_ Z2=>ws λ_ Z3=>wr (dm ?_)))));refine dp (Gi EA rfl rfl) (de Z3 (wi (λZ=>?_) λZ=>?_))
 ·exact absurd Z ER
 refine EI (Z2 _ _ (ws λ_ Z4=>wr (dm (dm ?_))));refine cP (X6m bs bd bl n vf bo bm no dead F mem fs ts key _ (hs.ext r) (hM.ext r) hml (hf.ext r) hfl (mo.ext r) (λt ht=>(htb t ht).ext r) hfs hkl) RX.all λw1 x1=>?_;have r:=r.trans x1;refine dm ?_;refine dx rfl rfl (dx rfl rfl (FP (cs:=[S [],S [],B false,.int .i64 0]) rfl EA RX.all (λb1 w2 e1 x2 z=>?_)));have g1:=r.ge e1;have r:=r.trans x2;refine FY z (λw3 x3 xs3 z=>?_);dsimp only [EY,Af,Ad,Ag]at z;have r:=r.o1 x3;refine da (de Z4 (ws λ_ Z5=>ws λ_ Y=>wr (dm ?_)));refine dn (dm ?_);refine I5 18 rfl (λJ=>?_) (λJ=>?_)
 ·refine dk (dk (EP (de Y ?_)));refine GS rfl (ws λ_ Z7=>wr (da (da (de Z7 (EJ ?_)))));refine rt ?_;rw[Xw3 (by simpa using J)];exact⟨rfl,r⟩
 refine df 2 rfl (dl rfl (z.at rfl) (EP (de Y ?_)));refine wc (λO=>?_) λO=>?_
 ·refine ws λ_ Z8=>wr (da (da (de Z8 (EJ ?_))));refine rt ?_;rw[X0p (by simpa using J) O];exact⟨rfl,r⟩
 refine EI (Z5 _ _ (ws λ_ Z9=>wr (df 1 rfl (dl rfl (z.at rfl) (da (da (de Z9 (EJ ?_))))))));refine rt ?_;rw[X0q (by simpa using J) O];exact⟨rfl,r⟩
@[reducible] def Tb.kv (t:Tb):(Int×Int)×Option Nat:=(t.h,some t.bt)
theorem RU (ts:List Tb)(h:Int×Int):lk (ts.map Tb.kv) h=Ja ts h:=by
 unfold Ja H5
 induction ts with
 | nil=>rfl
 | cons t r ih=>
  rw[An,IJ,List.find?_cons]
  by_cases e:t.h=h
  ·simp [e]
  ·simp only [e,decide_false,if_false];exact ih
structure StE (κ:Nat->Nat)(bs bd bl bo bm:Nat)(vf:Value)(L:Led)(D:Dsk)(V:Vs)(ts:List Tb)(mem:List Cell)(dead:Bool)(w:World):Prop where
 m:EK w bs (H3 bd bl V.next vf bo bm dead) 90
 ld:LD (λk=>κ k=1) bl bd L D w
 mp:FE Tryz.prog 104 Gz pO w bo (ts.map Tb.kv)
 mr:FG (λk=>κ k=3) w bm mem
 vs:EQ Fi.cs 5 w vf V.fs
 tb:∀t∈ts,TblE t.bt t.vl t.vb t.cs w
 k0:κ bs=5
 k2:κ bo=2
 k4:V.fs≠[]->κ (base vf).1=4
 k6:∀t∈ts,∀k,IY t.bt t.vl t.vb k->κ k=6
 lt:∀k,κ k≠0->k<w.heap.size
def HP (κ:Nat->Nat)(i:Nat)(w w':World):Nat->Nat:=λk=>if w.heap.size<=k/\k<w'.heap.size then i else κ k
theorem Ln {κ:Nat->Nat}{i:Nat}{w w':World}{k:Nat}(h:k<w.heap.size):HP κ i w w' k=κ k:=by unfold HP;rw[if_neg EB]
theorem XQ {κ:Nat->Nat}{i:Nat}{w w':World}{k:Nat}(h:w.heap.size<=k)(h2:k<w'.heap.size):HP κ i w w' k=i:=by unfold HP;rw[if_pos ⟨h,h2⟩]
section
variable {κ:Nat->Nat}{bs bd bl bo bm:Nat}{vf:Value}{L:Led}{D:Dsk}{V:Vs}{ts:List Tb}{mem:List Cell}{dead:Bool}{w w':World}{S:Nat->Prop}
theorem StE.mod (h:StE κ bs bd bl bo bm vf L D V ts mem dead w)(m:Vc.Mod S w w')(hS:∀k,κ k≠0->¬ S k):StE κ bs bd bl bo bm vf L D V ts mem dead w':=
 ⟨h.m.mod m (hS _ (by rw[h.k0];decide)),h.ld.mod m (λk hk=>hS k (by rw[hk];decide)),h.mp.mod m (hS _ (by rw[h.k2];decide)),FG.mod h.mr m (λk hk=>hS k (by rw[hk];decide)),
  h.vs.mod m (λz=>hS _ (by rw[h.k4 z];decide)),λt r=>(h.tb t r).mod m (λk hk=>hS k (by rw[h.k6 t r k hk];decide)),h.k0,h.k2,h.k4,h.k6,λk hk=>Az (h.lt k hk) m.size⟩
theorem StE.ext (h:StE κ bs bd bl bo bm vf L D V ts mem dead w)(x:ED w w'):StE κ bs bd bl bo bm vf L D V ts mem dead w':=h.mod x (λ_ _ h=>h)
theorem StE.updLt (h:StE κ bs bd bl bo bm vf L D V ts mem dead w)(hs:w.heap.size<=w'.heap.size){i:Nat} : ∀k,HP κ i w w' k≠0->k<w'.heap.size:=λk hk=>by
 unfold HP at hk;split at hk
 ·omega
 ·exact Az (h.lt k hk) hs
theorem StE.ledger {L':Led}{D':Dsk}(h:StE κ bs bd bl bo bm vf L D V ts mem dead w)(m:Vc.Mod (λk=>κ k=1) w w')(r:LD (Gx (λk=>κ k=1) w w') bl bd L' D' w'):StE (HP κ 1 w w') bs bd bl bo bm vf L' D' V ts mem dead w':=by
 have hs:=m.size;have o:∀k,κ k≠0->HP κ 1 w w' k=κ k:=λk hk=>Ln (h.lt k hk);refine⟨h.m.mod m (by rw[h.k0];decide),r.wide (λk hk=>hk.elim (λe=>(o k (by rw[e];decide)).trans e) (λe=>XQ e.1 e.2)) (λk hk=>h.updLt hs k (by rw[hk];decide)),h.mp.mod m (by rw[h.k2];decide),
  (FG.mod h.mr m (λk hk e=>by rw[hk]at e;cases e)).to (λk hk=>(o k (by rw[hk];decide)).trans hk) (λk hk=>h.updLt hs k (by rw[hk];decide)),h.vs.mod m (λr=>by rw[h.k4 r];decide),λt z=>(h.tb t z).mod m (λk hk=>by rw[h.k6 t z k hk];decide),
  (o _ (by rw[h.k0];decide)).trans h.k0,(o _ (by rw[h.k2];decide)).trans h.k2,λr=>(o _ (by rw[h.k4 r];decide)).trans (h.k4 r),λt z k hk=>(o k (by rw[h.k6 t z k hk];decide)).trans (h.k6 t z k hk),h.updLt hs⟩
theorem StE.setMem {mem':List Cell}(h:StE κ bs bd bl bo bm vf L D V ts mem dead w)(m:Vc.Mod (λk=>κ k=3) w w')(r:FG (NI (λk=>κ k=3) w w') w' bm mem'):StE (HP κ 3 w w') bs bd bl bo bm vf L D V ts mem' dead w':=by
 have hs:=m.size;have o:∀k,κ k≠0->HP κ 3 w w' k=κ k:=λk hk=>Ln (h.lt k hk);refine⟨h.m.mod m (by rw[h.k0];decide),(h.ld.mod m (λk hk e=>by rw[hk]at e;cases e)).wide (λk hk=>(o k (by rw[hk];decide)).trans hk) (λk hk=>h.updLt hs k (by rw[hk];decide)),h.mp.mod m (by rw[h.k2];decide),
  r.to (λk hk=>hk.elim (λe=>(o k (by rw[e];decide)).trans e) (λe=>XQ e.1 e.2)) (λk hk=>h.updLt hs k (by rw[hk];decide)),h.vs.mod m (λr=>by rw[h.k4 r];decide),λt z=>(h.tb t z).mod m (λk hk=>by rw[h.k6 t z k hk];decide),
  (o _ (by rw[h.k0];decide)).trans h.k0,(o _ (by rw[h.k2];decide)).trans h.k2,λr=>(o _ (by rw[h.k4 r];decide)).trans (h.k4 r),λt z k hk=>(o k (by rw[h.k6 t z k hk];decide)).trans (h.k6 t z k hk),h.updLt hs⟩
theorem StE.head {dead':Bool}(h:StE κ bs bd bl bo bm vf L D V ts mem dead w)(m:Vc.Mod (ET bs) w w')(hm:EK w' bs (H3 bd bl V.next vf bo bm dead') 90):StE κ bs bd bl bo bm vf L D V ts mem dead' w':=by
 have hs:=m.size;have o:∀k,κ k≠5->¬ ET bs k:=λk hk e=>hk (by have e2:k=bs:=e;rw[e2];exact h.k0);exact⟨hm,h.ld.mod m (λk hk=>o k (by rw[hk];decide)),h.mp.mod m (o _ (by rw[h.k2];decide)),FG.mod h.mr m (λk hk=>o k (by rw[hk];decide)),h.vs.mod m (λz=>o _ (by rw[h.k4 z];decide)),λt r=>(h.tb t r).mod m (λk hk=>o k (by rw[h.k6 t r k hk];decide)),h.k0,h.k2,h.k4,h.k6,λk hk=>Az (h.lt k hk) hs⟩
end
section
variable {κ:Nat->Nat}{bs bd bl bo bm:Nat}{vf:Value}{L:Led}{D:Dsk}{V:Vs}{ts:List Tb}{mem:List Cell}{dead:Bool}{w w':World}{S:Nat->Prop}
theorem StE.relab {κ':Nat->Nat}(h:StE κ bs bd bl bo bm vf L D V ts mem dead w)(o:∀k,κ k≠0->κ' k=κ k)(r:∀k,κ' k≠0->k<w.heap.size):StE κ' bs bd bl bo bm vf L D V ts mem dead w:=
 ⟨h.m,h.ld.wide (λk hk=>(o k (by rw[hk];decide)).trans hk) (λk hk=>r k (by rw[hk];decide)),h.mp,h.mr.to (λk hk=>(o k (by rw[hk];decide)).trans hk) (λk hk=>r k (by rw[hk];decide)),h.vs,h.tb,(o _ (by rw[h.k0];decide)).trans h.k0,(o _ (by rw[h.k2];decide)).trans h.k2,
  λr=>(o _ (by rw[h.k4 r];decide)).trans (h.k4 r),λt z k hk=>(o k (by rw[h.k6 t z k hk];decide)).trans (h.k6 t z k hk),r⟩
def G9 (ts:List Tb)(t:Tb):List Tb:=if(H5 ts t.h).isSome then ts.map (λq=>if q.h=t.h then t else q)else ts++[t]
def J1 (ts:List Tb)(h:Int×Int):List Tb:=ts.filter λt=>decide (t.h≠h)
theorem X6n (ts:List Tb)(t:Tb):(G9 ts t).map Tb.kv=EZ (ts.map Tb.kv) t.h (some t.bt):=by
 unfold G9 EZ;rw[RU];unfold Ja;rw[Option.isSome_map];split
 ·rw[Bf,Bf]
  apply List.map_congr_left
  intro q _;simp only [Function.comp];split<;>simp_all
 ·simp
theorem X6o (ts:List Tb)(h:Int×Int):(J1 ts h).map Tb.kv=FR (ts.map Tb.kv) h:=by
 unfold J1 FR;rw[List.filter_map];rfl
theorem X0r {ts:List Tb}{t q:Tb}(h:q∈G9 ts t):q=t\/q∈ts:=by
 unfold G9 at h;split at h
 ·obtain⟨z,r,e⟩:=List.mem_map.1 h;split at e
  ·exact .inl e.symm
  ·exact .inr (e▸r)
 ·rcases Aw.1 h with h|h
  ·exact .inr h
  ·exact .inl (Ah.1 h)
theorem StE.setMap {ts':List Tb}(h:StE κ bs bd bl bo bm vf L D V ts mem dead w)(m:Vc.Mod (ET bo) w w')(hm:FE Tryz.prog 104 Gz pO w' bo (ts'.map Tb.kv))(ht:∀t∈ts',TblE t.bt t.vl t.vb t.cs w/\∀k,IY t.bt t.vl t.vb k->κ k=6):StE κ bs bd bl bo bm vf L D V ts' mem dead w':=by
 have o:∀k,κ k≠2->¬ ET bo k:=λk hk e=>hk (by have e2:k=bo:=e;rw[e2];exact h.k2);exact⟨h.m.mod m (o _ (by rw[h.k0];decide)),h.ld.mod m (λk hk=>o k (by rw[hk];decide)),hm,FG.mod h.mr m (λk hk=>o k (by rw[hk];decide)),h.vs.mod m (λr=>o _ (by rw[h.k4 r];decide)),λt h1=>(ht t h1).1.mod m (λk hk=>o k (by rw[(ht t h1).2 k hk];decide)),h.k0,h.k2,h.k4,λt h1=>(ht t h1).2,λk hk=>Az (h.lt k hk) m.size⟩
def IL (κ:Nat->Nat)(b i:Nat):Nat->Nat:=λk=>if k=b then i else κ k
theorem StE.setV {V':Vs}{vf':Value}(h:StE κ bs bd bl bo bm vf L D V ts mem dead w)(m:Vc.Mod (ET bs) w w')(hm:EK w' bs (H3 bd bl V'.next vf' bo bm dead) 90)(ha:EQ Fi.cs 5 w vf' V'.fs)(hk:V'.fs≠[]->κ (base vf').1=0):StE (if V'.fs=[]then κ else IL κ (base vf').1 4) bs bd bl bo bm vf' L D V' ts mem dead w':=by
 have o:∀k,κ k≠5->¬ ET bs k:=λk hk e=>hk (by have e2:k=bs:=e;rw[e2];exact h.k0);have h1:∀κ',(∀k,κ k≠0->κ' k=κ k)->(∀k,κ' k≠0->k<w.heap.size)->(V'.fs≠[]->κ' (base vf').1=4)->StE κ' bs bd bl bo bm vf' L D V' ts mem dead w':=λκ' e1 e2 J=>by
  have z:=h.relab e1 e2;have o:∀k,κ' k≠5->¬ ET bs k:=λk hk e=>hk (by have e2:k=bs:=e;rw[e2];exact z.k0);exact⟨hm,z.ld.mod m (λk hk=>o k (by rw[hk];decide)),z.mp.mod m (o _ (by rw[z.k2];decide)),FG.mod z.mr m (λk hk=>o k (by rw[hk];decide)),ha.mod m (λY=>o _ (by rw[J Y];decide)),λt O=>(z.tb t O).mod m (λk hk=>o k (by rw[z.k6 t O k hk];decide)),z.k0,z.k2,J,z.k6,λk hk=>Az (z.lt k hk) m.size⟩
 split
 ·rename_i e;exact h1 κ (λ_ _=>rfl) h.lt (λhn=>absurd e hn)
 ·rename_i e;refine h1 _ (λk r=>?_) (λk r=>?_) (λ_=>by unfold IL;rw[if_pos rfl])
  ·unfold IL;rw[if_neg];intro e2;rw[e2,hk e]at r;exact r rfl
  ·unfold IL at r;split at r
   ·rename_i e2;rw[e2];exact ha.base_lt EN e
   ·exact h.lt k r
end
theorem LD.disk {H:Nat->Prop}{bl bd:Nat}{L:Led}{D:Dsk}{w:World}(h:LD H bl bd L D w):∃F:Nat->Prop,FSq F bd D w/\(∀k,F k->H k)/\∀(D':Dsk) (w':World),Vc.Mod F w w'->FSq (Gx F w w') bd D' w'->LD (Gx H w w') bl bd L D' w':=by
 obtain⟨F,G,vd,ve,vs,h1,h2,h3,h4,z⟩:=h;refine⟨F,h1,λk hk=>h4 k (.inl hk),λD' w' m hd=>?_⟩;refine⟨Gx F w w',G,vd,ve,vs,hd,h2.mod m (λk hk J=>h3 k J hk),λk hk r=>hk.elim (λe=>h3 k e r) (λe=>by have:=h2.lt k r;omega),λk hk=>hk.elim (λe=>e.elim (λe=>.inl (h4 k (.inl e))) .inr) (λe=>.inl (h4 k (.inr e))),HT z m.size⟩
end Go.Proofs.YtiooodckiddpmaaGreatDoor
namespace Go.Sp
open Go.Vc
variable {α:Type}
structure Ord (lt:α->α->Bool):Prop where
 tr:∀x y z,lt y x=false->lt z y=false->lt z x=false
 az:∀x y,lt x y=true->lt y x=false
def Up (lt:α->α->Bool)(l:List α):Prop:=l.Pairwise λx y=>lt y x=false
theorem TM {X Y:List α}{i:Nat}{x:α}(h:X.length<=i):(X++Y)[i]?=Y[i-X.length]?:=BE h
theorem Qh {X Y:List α}{i:Nat}{x:α}(h:X.length<=i):(X++Y).set i x=X++Y.set (i-X.length) x:=List.set_append_right _ _ h
theorem SX (X M Y:List α)(x y:α):((X++x :: (M++y :: Y)).set X.length y).set (X.length+1+M.length) x=X++y :: (M++x :: Y):=by
 rw[Qh (Ab _),DG,El,Qh EB,show X.length+1+M.length-X.length=M.length+1 by omega,List.set_cons_succ,Qh (Ab _),DG,El]
theorem Sf (X Y:List α)(x y:α):((X++x :: y :: Y).set X.length y).set (X.length+1) x=X++y :: x :: Y:=SX X [] Y x y
theorem Up.left {lt:α->α->Bool}{A B:List α}(h:Up lt (A++B)):Up lt A:=(Bs.1 h).1
theorem Up.right {lt:α->α->Bool}{A B:List α}(h:Up lt (A++B)):Up lt B:=(Bs.1 h).2.1
theorem Up.app {lt:α->α->Bool}{A B:List α}(ha:Up lt A)(hb:Up lt B)(h:∀x∈A,∀y∈B,lt y x=false):Up lt (A++B):=Bs.2 ⟨ha,hb,h⟩
theorem Up.at {lt:α->α->Bool}{A:List α}(h:Up lt A){i j:Nat}{x y:α}(hi:A[i]?=some x)(hj:A[j]?=some y)(hij:i<j):lt y x=false:=by
 obtain⟨h1,rfl⟩:=Ap.1 hi;obtain⟨h2,rfl⟩:=Ap.1 hj;exact Ce.1 h i j h1 h2 hij
theorem Ord.refl {lt:α->α->Bool}(O:Ord lt)(x:α):lt x x=false:=by
 cases h:lt x x with
 | false=>rfl
 | true=>have:=O.az x x h;rw[h]at this;exact this
theorem Up.le {lt:α->α->Bool}(O:Ord lt){A:List α}(h:Up lt A){i j:Nat}{x y:α}(hi:A[i]?=some x)(hj:A[j]?=some y)(hij:i<=j):lt y x=false:=by
 rcases Bk i j with h1|h1
 ·exact h.at hi hj h1
 ·have:i=j:=by omega
  subst this;rw[hi]at hj;cases hj;exact O.refl _
theorem X0s {lt:α->α->Bool}(O:Ord lt){A B:List α}(hA:Up lt A)(hB:Up lt B){s t:Nat}(hs:s<=A.length)(ht:t<=B.length)
  (h1:s=0\/t=B.length\/∃x y,A[s-1]?=some x/\B[t]?=some y/\lt y x=false) (h2:s=A.length\/t=0\/∃x y,A[s]?=some x/\B[t-1]?=some y/\lt y x=true) :
  ∀x∈A.take s++B.take t,∀y∈A.drop s++B.drop t,lt y x=false:=by
 intro x J y z;rcases Aw.1 J with J|J
 ·obtain⟨i,hi⟩:=AM J;rw[AW]at hi;split at hi
  ·rename_i Y;rcases Aw.1 z with z|z
   ·obtain⟨j,r⟩:=AM z;rw[Bz]at r;exact hA.at hi r EB
   ·obtain⟨j,r⟩:=AM z;rw[Bz]at r;have Z:=(Ap.1 r).1;rcases h1 with h|h|⟨a,b,ha,hb,hab⟩
    ·omega
    ·omega
    ·exact O.tr _ _ _ (hA.le O hi ha EB) (O.tr _ _ _ hab (hB.le O hb r EB))
  ·cases hi
 ·obtain⟨i,hi⟩:=AM J;rw[AW]at hi;split at hi
  ·rename_i Y;rcases Aw.1 z with z|z
   ·obtain⟨j,r⟩:=AM z;rw[Bz]at r;have Z:=(Ap.1 r).1;rcases h2 with h|h|⟨a,b,ha,hb,hab⟩
    ·omega
    ·omega
    ·exact O.tr _ _ _ (hB.le O hi hb EB) (O.tr _ _ _ (O.az _ _ hab) (hA.le O ha r EB))
   ·obtain⟨j,r⟩:=AM z;rw[Bz]at r;exact hB.at hi r EB
  ·cases hi
theorem UT {lt:α->α->Bool}(O:Ord lt){B:List α}{x:α}(hB:Up lt B){t:Nat}(ht:t<=B.length)(h1:t=B.length\/∃y,B[t]?=some y/\lt y x=false)(h2:t=0\/∃y,B[t-1]?=some y/\lt x y=false):Up lt (B.take t++x :: B.drop t):=by
 have Y:Up lt (B.take t++B.drop t):=by rw[Bc];exact hB
 refine Up.app Y.left (AQ.2 ⟨λy J=>?_,Y.right⟩) λz hz y J=>?_
 ·obtain⟨j,r⟩:=AM J;rw[Bz]at r;have hjl:=(Ap.1 r).1;rcases h1 with h|⟨b,hb,hbx⟩
  ·omega
  ·exact O.tr _ _ _ hbx (hB.le O hb r EB)
 ·obtain⟨i,hi⟩:=AM hz;rw[AW]at hi;split at hi
  ·rename_i hlt;have Z:lt x z=false:=by
    rcases h2 with h|⟨b,hb,hbx⟩
    ·omega
    ·exact O.tr _ _ _ (hB.le O hi hb EB) hbx
   rcases Aj.1 J with rfl|J
   ·exact Z
   ·obtain⟨j,r⟩:=AM J;rw[Bz]at r;exact hB.at hi r EB
  ·cases hi
def Ha (lt:α->α->Bool)(l:List α)(a b:Nat):Prop:=Up lt ((l.take b).drop a)
theorem Yac (l:List α){a b:Nat}(hab:a<=b):l.take a++(l.take b).drop a++l.drop b=l:=by
 have e:l.take a=(l.take b).take a:=by rw[Cu,Bg hab]
 rw[e,Bc,Bc]
variable {α:Type}
def GA (lt:α->α->Bool)(a b:Nat)(l l':List α):Prop:=∃P M M' Q:List α,l=P++(M++Q)/\l'=P++(M'++Q)/\P.length=a/\a+M.length=b/\M'.Perm M/\Up lt M'
theorem KI (l:List α){a b:Nat}(hab:a<=b)(hb:b<=l.length):∃P M Q:List α,l=P++(M++Q)/\P.length=a/\a+M.length=b:=by
 refine⟨l.take a,(l.take b).drop a,l.drop b,?_,?_,?_⟩
 ·have:=Yac l hab;rw[A7]at this;exact this.symm
 ·rw[A5];omega
 ·rw[Bh,A5];omega
theorem Kp {P P' X X':List α}(h:P++X=P'++X')(hl:P.length=P'.length):P=P'/\X=X':=List.append_inj h hl
theorem GA.len {lt:α->α->Bool}{a b:Nat}{l l':List α}(h:GA lt a b l l'):l'.length=l.length/\a<=b/\b<=l.length:=by
 obtain⟨P,M,M',Q,rfl,rfl,h1,h2,h3,_⟩:=h;have:=h3.length_eq;simp only [Aa];omega
theorem GA.perm {lt:α->α->Bool}{a b:Nat}{l l':List α}(h:GA lt a b l l'):l'.Perm l:=by
 obtain⟨P,M,M',Q,rfl,rfl,h1,h2,h3,_⟩:=h;exact En _ (h3.append_right _)
theorem GA.one {lt:α->α->Bool}{a b:Nat}(l:List α)(hab:a<=b)(hb:b<=l.length)(h1:b<=a+1):GA lt a b l l:=by
 obtain⟨P,M,Q,e,h2,h3⟩:=KI l hab hb;refine⟨P,M,M,Q,e,e,h2,h3,.refl _,?_⟩;rcases M with _|⟨x,_|⟨y,M⟩⟩
 ·exact Bp
 ·exact List.pairwise_singleton _ _
 ·simp at h3;omega
def Jb (lt:α->α->Bool)(a i j:Nat)(l cur:List α):Prop:=∃(P M A B Q:List α) (x:α),l=P++(M++(x :: Q))/\cur=P++(A++(x :: (B++Q)))/\P.length=a/\a+M.length=i/\a+A.length=j/\(A++B).Perm M/\Up lt (A++B)/\∀y∈B,lt x y=true
theorem Jb.len {lt:α->α->Bool}{a i j:Nat}{l cur:List α}(h:Jb lt a i j l cur):cur.length=l.length/\a<=j/\j<=i/\i<l.length:=by
 obtain⟨P,M,A,B,Q,x,rfl,rfl,h1,h2,h3,h4,_,_⟩:=h;have:=h4.length_eq;simp only [Aa,AG]at *;omega
theorem XB {lt:α->α->Bool}{a i:Nat}{l cur:List α}(h:GA lt a i l cur)(hi:i<l.length):Jb lt a i i l cur:=by
 obtain⟨P,M,M',Q,rfl,rfl,h1,h2,h3,h4⟩:=h;rcases Q with _|⟨x,Q⟩
 ·simp only [Aa,Bi]at hi;omega
 ·exact⟨P,M,M',[],Q,x,rfl,rfl,h1,h2,by rw[h3.length_eq];exact h2,by rw[AO];exact h3,by rw[AO];exact h4,by intro y r;cases r⟩
theorem Km {P A R:List α}{x:α}{j:Nat}(h:P.length+A.length=j):(P++(A++(x :: R)))[j]?=some x:=by
 rw[TM (x:=x) EB,TM (x:=x) EB,show j-P.length-A.length=0 by omega];rfl
theorem U4 {lt:α->α->Bool}{a i j:Nat}{l cur:List α}{x z:α}(h:Jb lt a i j l cur)(hj:a<j)(hx:cur[j]?=some x)(hz:cur[j-1]?=some z)(hlt:lt x z=true):Jb lt a i (j-1) l ((cur.set j z).set (j-1) x):=by
 obtain⟨P,M,A,B,Q,r,e1,e2,h1,h2,h3,h4,Y,O⟩:=h;rcases Dm A with rfl|⟨A',z',rfl⟩
 ·simp at h3;omega
 ·simp only [DH,Aa,AG,Bi]at *;have ex:r=x:=by
   rw[e2,Km (by simp;omega)]at hx;exact A0.inj hx
  have Z:z'=z:=by
   rw[e2,A7,AT,AE,Km EB]at hz;exact A0.inj hz
  subst ex;subst Z;refine⟨P,M,A',z' :: B,Q,r,e1,?_,h1,h2,by omega,by simpa using h4,by simpa using Y,λy J=>(Aj.1 J).elim (λe=>e▸hlt) (O y)⟩;have:=Sf (P++A') (B++Q) z' r;rw[e2];rw[Eo _ _ EB];have ej:j=(P++A').length+1:=by simp;omega
  rw[ej,BS];simpa using this
theorem PM {lt:α->α->Bool}(O:Ord lt){a i j:Nat}{l cur:List α}(h:Jb lt a i j l cur)(hs:j=a\/∃x z,cur[j]?=some x/\cur[j-1]?=some z/\lt x z=false):GA lt a (i+1) l cur:=by
 obtain⟨P,M,A,B,Q,x,e1,e2,h1,h2,h3,h4,J,h6⟩:=h;refine⟨P,M++[x],A++x :: B,Q,by rw[e1];simp,by rw[e2];simp,h1,by simp;omega,?_,?_⟩
 ·exact DK.trans ((List.Perm.cons x h4).trans (Ep x M).symm)
 ·have Z:∀y∈B,lt y x=false:=λy r=>O.az _ _ (h6 y r);refine Up.app J.left (AQ.2 ⟨Z,J.right⟩) λy r w Y=>?_;rcases Aj.1 Y with rfl|Y
  ·rcases hs with rfl|⟨x',z,hx,hz,hlt⟩
   ·have:A=[]:=A4 EB;subst this;cases r
   ·rcases Dm A with rfl|⟨A',z',rfl⟩
    ·cases r
    ·simp only [DH,Aa,AG,Bi]at *;have ex:w=x':=by rw[e2,Km (by simp;omega)]at hx;exact A0.inj hx
     have ez:z'=z:=by rw[e2,A7,AT,AE,Km EB]at hz;exact A0.inj hz
     subst ex;subst ez;rcases Aw.1 r with r|r
     ·exact O.tr _ _ _ ((Bs.1 J.left).2.2 y r z' ER) hlt
     ·rw[Ah.1 r];exact hlt
  ·exact(Bs.1 J).2.2 y r w Y
def Mk (a b n:Nat)(l l':List α):Prop:=∃P U M V Q:List α,l=P++(U++(M++(V++Q)))/\l'=P++(V++(M++(U++Q)))/\P.length=a/\U.length=n/\V.length=n/\a+n+M.length=b
def LM (a b n i:Nat)(l cur:List α):Prop:=∃P U1 U2 M V1 V2 Q:List α,l=P++((U1++U2)++(M++((V1++V2)++Q)))/\cur=P++(V1++(U2++(M++(U1++(V2++Q)))))/\P.length=a/\U1.length=i/\V1.length=i/\i+U2.length=n/\i+V2.length=n/\a+n+M.length=b
theorem LM.len {a b n i:Nat}{l cur:List α}(h:LM a b n i l cur):cur.length=l.length/\b+n<=l.length/\a+n<=b/\i<=n:=by
 obtain⟨P,U1,U2,M,V1,V2,Q,rfl,rfl,h1,h2,h3,h4,h5,h6⟩:=h;simp only [Aa];omega
theorem Tm {a b n:Nat}{l:List α}(h1:a+n<=b)(h2:b+n<=l.length):LM a b n 0 l l:=by
 obtain⟨P,X,R,e,O,hX⟩:=KI l (a:=a) (b:=b) EB EB;obtain⟨V,_,Q,e2,hV,_⟩:=KI R (a:=n) (b:=n) (Ab _) (by have:=congrArg AC e;simp only [Aa]at this;omega);rename_i Z J;have r:Z=[]:=A4 EB;subst r;obtain⟨U,_,M,z,hU,_⟩:=KI X (a:=n) (b:=n) (Ab _) EB;rename_i Z J;have r:Z=[]:=A4 EB;subst r;have hm:=congrArg AC z;simp only [Aa,Bi]at hm;refine⟨P,[],U,M,[],V,Q,?_,?_,O,rfl,rfl,by omega,by omega,by omega⟩<;>rw[e,e2,z]<;>simp
theorem XX {a b n i:Nat}{l cur:List α}{x y:α}(h:LM a b n i l cur)(hi:i<n)(hx:cur[a+i]?=some x)(hy:cur[b+i]?=some y):LM a b n (i+1) l ((cur.set (a+i) y).set (b+i) x):=by
 obtain⟨P,U1,U2,M,V1,V2,Q,e1,e2,h1,h2,h3,h4,r,z⟩:=h;rcases U2 with _|⟨x',U2⟩
 ·simp at h4;omega
 rcases V2 with _|⟨y',V2⟩
 ·simp at r;omega
 simp only [AG]at h4 r;have O:x'=x:=by rw[e2,AT,Km EB]at hx;exact A0.inj hx
 have J:y'=y:=by
  have:cur=(P++(V1++(x' :: U2)))++((M++U1)++(y' :: (V2++Q))):=by rw[e2];simp
  rw[this,Km (by simp;omega)]at hy;exact A0.inj hy
 subst O;subst J;refine⟨P,U1++[x'],U2,M,V1++[y'],V2,Q,by rw[e1];simp,?_,h1,by simp;omega,by simp;omega,by omega,by omega,z⟩;have:=SX (P++V1) (U2++(M++U1)) (V2++Q) x' y';rw[e2,show a+i=(P++V1).length by simp;omega,show b+i=(P++V1).length+1+(U2++(M++U1)).length by simp;omega];simpa using this
theorem WF {a b n:Nat}{l cur:List α}(h:LM a b n n l cur):Mk a b n l cur:=by
 obtain⟨P,U1,U2,M,V1,V2,Q,e1,e2,h1,h2,h3,h4,h5,z⟩:=h;have r:U2=[]:=A4 EB;have J:V2=[]:=A4 EB;subst r;subst J;exact⟨P,U1,M,V1,Q,by rw[e1];simp,by rw[e2];simp,h1,h2,h3,z⟩
theorem Mk.at {a b n:Nat}{l l' P U M V Q:List α}(h:Mk a b n l l')(e:l=P++(U++(M++(V++Q))))(h1:P.length=a)(h2:U.length=n)(h3:V.length=n)(h4:a+n+M.length=b):l'=P++(V++(M++(U++Q))):=by
 obtain⟨P',U',M',V',Q',r,rfl,g1,g2,g3,g4⟩:=h;rw[e]at r;obtain⟨J,b1⟩:=Kp r EB;obtain⟨O,Z⟩:=Kp b1 EB;obtain⟨a3,Y⟩:=Kp Z EB;obtain⟨a4,z⟩:=Kp Y EB;rw[J,O,a3,a4,z]
def I4 (m i j:Nat)(T cur:List α):Prop:=∃P X Y Q:List α,cur=P++(X++(Y++Q))/\X.length=i/\Y.length=j/\P.length+i=m/\T=P++(Y++(X++Q))
theorem I4.len {m i j:Nat}{T cur:List α}(h:I4 m i j T cur):cur.length=T.length/\i<=m/\m+j<=T.length:=by
 obtain⟨P,X,Y,Q,rfl,h1,h2,h3,rfl⟩:=h;simp only [Aa];omega
theorem J6 (l:List α){a:Nat}(h:a<=l.length):∃P Q:List α,l=P++Q/\P.length=a:=⟨l.take a,l.drop a,(Bc _ _).symm,by rw[A5];omega⟩
theorem TL {m i j:Nat}{T cur cur':List α}(h:I4 m i j T cur)(hij:j<i)(hs:Mk (m-i) m j cur cur'):I4 m (i-j) j T cur':=by
 obtain⟨P,X,Y,Q,e1,h1,h2,h3,e2⟩:=h;obtain⟨r,J,rfl,z⟩:=J6 X (a:=j) EB;rw[Aa]at h1;have:=hs.at (P:=P) (U:=r) (M:=J) (V:=Y) (Q:=Q) (by rw[e1];simp) EB z h2 EB;exact⟨P++Y,J,r,Q,by rw[this];simp,by omega,z,by simp;omega,by rw[e2];simp⟩
theorem Wp {m i j:Nat}{T cur cur':List α}(h:I4 m i j T cur)(hij:i<j)(hs:Mk (m-i) (m+j-i) i cur cur'):I4 m i (j-i) T cur':=by
 obtain⟨P,X,Y,Q,e1,h1,h2,h3,e2⟩:=h;obtain⟨r,z,rfl,hY⟩:=J6 Y (a:=j-i) EB;rw[Aa]at h2;have:=hs.at (P:=P) (U:=X) (M:=r) (V:=z) (Q:=Q) (by rw[e1];simp) EB h1 EB EB;exact⟨P,z,r,X++Q,by rw[this],by omega,by omega,h3,by rw[e2];simp⟩
theorem T0 {m i:Nat}{T cur cur':List α}(h:I4 m i i T cur)(hs:Mk (m-i) m i cur cur'):cur'=T:=by
 obtain⟨P,X,Y,Q,e1,h1,h2,h3,e2⟩:=h;have:=hs.at (P:=P) (U:=X) (M:=[]) (V:=Y) (Q:=Q) (by rw[e1];simp) EB h1 h2 (by simp;omega);rw[this,e2];simp
def Rot (a m b:Nat)(l l':List α):Prop:=∃P U V Q:List α,l=P++(U++(V++Q))/\l'=P++(V++(U++Q))/\P.length=a/\a+U.length=m/\m+V.length=b
theorem NL (l:List α){a m b:Nat}(ham:a<=m)(hmb:m<=b)(hb:b<=l.length):∃P U V Q:List α,l=P++(U++(V++Q))/\P.length=a/\a+U.length=m/\m+V.length=b:=by
 obtain⟨P,M,Q,e,h1,h2⟩:=KI l (Ai ham hmb) hb;obtain⟨U,V,e2,h3⟩:=J6 M (a:=m-a) EB;have:=congrArg AC e2;rw[Aa]at this;exact⟨P,U,V,Q,by rw[e,e2];simp,h1,by omega,by omega⟩
def Iv (l:List α)(a m b:Nat):List α:=l.take a++((l.take b).drop m++((l.take m).drop a++l.drop b))
theorem WU {P U V Q:List α}{a m b:Nat}(h1:P.length=a)(h2:a+U.length=m)(h3:m+V.length=b):Iv (P++(U++(V++Q))) a m b=P++(V++(U++Q)):=by
 subst h1;subst h2;subst h3;unfold Iv;have e1:(P++(U++(V++Q))).take P.length=P:=C9 rfl;have e2:(P++(U++(V++Q))).take (P.length+U.length)=P++U:=by rw[<-A7];exact C9 ER
 have z:(P++(U++(V++Q))).take (P.length+U.length+V.length)=P++(U++V):=by
  rw[show P++(U++(V++Q))=(P++(U++V))++Q by simp];exact C9 (by simp;omega)
 have O:(P++(U++(V++Q))).drop (P.length+U.length+V.length)=Q:=by
  rw[show P++(U++(V++Q))=(P++(U++V))++Q by simp];exact CA (by simp;omega)
 have J:(P++U).drop P.length=U:=CA rfl;have r:(P++(U++V)).drop (P.length+U.length)=V:=by rw[<-A7];exact CA ER
 rw[e1,e2,z,O,J,r]
theorem OH {l:List α}{a m b:Nat}(ham:a<=m)(hmb:m<=b)(hb:b<=l.length):I4 m (m-a) (b-m) (Iv l a m b) l:=by
 obtain⟨P,U,V,Q,e,h1,h2,h3⟩:=NL l ham hmb hb;exact⟨P,U,V,Q,e,by omega,by omega,by omega,by rw[e];exact WU h1 h2 h3⟩
def SM (lt:α->α->Bool)(a m b:Nat)(l:List α):Prop:=∃P A B Q:List α,l=P++(A++(B++Q))/\P.length=a/\a+A.length=m/\m+B.length=b/\Up lt A/\Up lt B
theorem Re {lt:α->α->Bool}{P M Q:List α}{a b:Nat}(h1:P.length=a)(h2:a+M.length=b):Ha lt (P++(M++Q)) a b↔Up lt M:=by
 subst h1;subst h2;unfold Ha;have e1:(P++(M++Q)).take (P.length+M.length)=P++M:=by rw[<-A7];exact C9 ER
 rw[e1,CA rfl]
theorem WI {lt:α->α->Bool}{a m b:Nat}{l:List α}(ham:a<=m)(hmb:m<=b)(hb:b<=l.length)(h1:Ha lt l a m)(h2:Ha lt l m b):SM lt a m b l:=by
 obtain⟨P,A,B,Q,rfl,e1,e2,r⟩:=NL l ham hmb hb;refine⟨P,A,B,Q,rfl,e1,e2,r,(Re e1 e2).1 h1,?_⟩;rw[<-A7]at h2;exact(Re (by simp;omega) r).1 h2
theorem GA.up {lt:α->α->Bool}{a b:Nat}{l l':List α}(h:GA lt a b l l'):Ha lt l' a b:=by
 obtain⟨P,M,M',Q,rfl,rfl,h1,h2,h3,h4⟩:=h;exact(Re h1 (by rw[h3.length_eq];exact h2)).2 h4
theorem GA.keep {lt:α->α->Bool}{a b c d:Nat}{l l':List α}(h:GA lt a b l l')(hcd:d<=a\/b<=c)(hu:Ha lt l c d):Ha lt l' c d:=by
 obtain⟨P,M,M',Q,rfl,rfl,h1,h2,h3,h4⟩:=h;have r:=h3.length_eq;unfold Ha at *;rcases hcd with h|h
 ·rw[List.take_append_of_le_length EB]at hu ⊢;exact hu
 ·have e:∀N:List α,N.length=M.length->((P++(N++Q)).take d).drop c=(Q.take (d-b)).drop (c-b):=by
   intro N hN;rw[<-A7,Dj,List.drop_append];have:((P++N).take d).drop c=[]:=Cr (by rw[A5,Aa];omega);rw[this,AE,A5,Aa];rcases Bk d (P.length+N.length)with h9|h9
   ·rw[show d-(P.length+N.length)=0 by omega,show d-b=0 by omega];simp
   ·rw[show c-min d (P.length+N.length)=c-b by omega,show d-(P.length+N.length)=d-b by omega]
  rw[e M rfl]at hu;rw[e M' r];exact hu
def LR (a k:Nat)(l cur:List α):Prop:=∃(P B R:List α) (x:α),l=P++(x :: (B++R))/\cur=P++(B++(x :: R))/\P.length=a/\a+B.length=k
theorem LR.len {a k:Nat}{l cur:List α}(h:LR a k l cur):cur.length=l.length/\a<=k/\k<l.length:=by
 obtain⟨P,B,R,x,rfl,rfl,h1,h2⟩:=h;simp only [Aa,AG];omega
theorem XD {a:Nat}{l:List α}(h:a<l.length):LR a a l l:=by
 obtain⟨P,Q,rfl,r⟩:=J6 l (a:=a) EB;rcases Q with _|⟨x,Q⟩
 ·simp at h;omega
 ·exact⟨P,[],Q,x,rfl,rfl,r,rfl⟩
theorem Xh {a k:Nat}{l cur:List α}{x y:α}(h:LR a k l cur)(hx:cur[k]?=some x)(hy:cur[k+1]?=some y):LR a (k+1) l ((cur.set k y).set (k+1) x):=by
 obtain⟨P,B,R,r,e1,e2,h1,h2⟩:=h;have z:r=x:=by rw[e2,Km EB]at hx;exact A0.inj hx
 subst z;rcases R with _|⟨y',R⟩
 ·exfalso;rw[e2,Bm (by simp;omega)]at hy;cases hy
 ·have J:y'=y:=by
   have:cur=(P++B)++([r]++(y' :: R)):=by rw[e2];simp
   rw[this,Km (by simp;omega)]at hy;exact A0.inj hy
  subst J;refine⟨P,B++[y'],R,r,by rw[e1];simp,?_,h1,by simp;omega⟩;have:=Sf (P++B) R r y';rw[e2,show k=(P++B).length by simp;omega];simpa using this
def LU (m k:Nat)(l cur:List α):Prop:=∃(P A R:List α) (x:α),l=P++(A++(x :: R))/\cur=P++(x :: (A++R))/\P.length=k/\k+A.length=m
theorem LU.len {m k:Nat}{l cur:List α}(h:LU m k l cur):cur.length=l.length/\k<=m/\m<l.length:=by
 obtain⟨P,B,R,x,rfl,rfl,h1,h2⟩:=h;simp only [Aa,AG];omega
theorem Tj {m:Nat}{l:List α}(h:m<l.length):LU m m l l:=by
 obtain⟨P,Q,rfl,r⟩:=J6 l (a:=m) EB;rcases Q with _|⟨x,Q⟩
 ·simp at h;omega
 ·exact⟨P,[],Q,x,rfl,rfl,r,rfl⟩
theorem UR {m k:Nat}{l cur:List α}{x y:α}(h:LU m k l cur)(hk:0<k)(hx:cur[k]?=some x)(hy:cur[k-1]?=some y):LU m (k-1) l ((cur.set k y).set (k-1) x):=by
 obtain⟨P,A,R,r,e1,e2,h1,h2⟩:=h;have z:r=x:=by rw[e2,show P++(r :: (A++R))=P++([]++(r :: (A++R))) from rfl,Km (by simpa using h1)]at hx;exact A0.inj hx
 subst z;rcases Dm P with rfl|⟨P',y',rfl⟩
 ·simp at h1;omega
 ·simp only [DH,Aa,AG,Bi]at *;have J:y'=y:=by
   rw[e2,show P'++[y']++(r :: (A++R))=P'++([]++(y' :: (r :: (A++R)))) by simp,Km (by simp;omega)]at hy;exact A0.inj hy
  subst J;refine⟨P',y' :: A,R,r,by rw[e1];simp,?_,by omega,by simp;omega⟩;have:=Sf P' (A++R) y' r;rw[e2,Eo _ _ EB,show k=P'.length+1 by omega,BS];simp;done
theorem U5 {lt:α->α->Bool}(O:Ord lt){a m b i:Nat}{l cur:List α}(h:SM lt a m b l)(hm:m=a+1)(hi:m<=i)(hib:i<=b)(hc:LR a (i-1) l cur)
  (h1:i=b\/∃x y,l[a]?=some x/\l[i]?=some y/\lt y x=false) (h2:i=m\/∃x y,l[a]?=some x/\l[i-1]?=some y/\lt y x=true):GA lt a b l cur:=by
 obtain⟨P,A,B,Q,rfl,g1,g2,g3,g4,g5⟩:=h;rcases A with _|⟨x,_|⟨x2,A⟩⟩
 ·simp at g2;omega
 ·obtain⟨P',B',R,x',e1,e2,f1,f2⟩:=hc;obtain⟨r1,r2⟩:=Kp e1 EB;simp only [AT,AE,BW.injEq]at r2;obtain⟨rfl,r2⟩:=r2;subst r1;have Z:i-m<=B.length:=by omega
  have Y:B'=B.take (i-m)/\R=B.drop (i-m)++Q:=by
   have r3:B.take (i-m)++(B.drop (i-m)++Q)=B'++R:=by rw[<-A7,Bc];exact r2
   have J:=Kp r3 (by rw[A5];omega);exact⟨J.1.symm,J.2.symm⟩
  have r:(P++([x]++(B++Q)))[a]?=some x:=by
   rw[show P++([x]++(B++Q))=P++([]++(x :: (B++Q))) from rfl];exact Km (by simpa using g1)
  have z:∀k,k<B.length->(P++([x]++(B++Q)))[m+k]?=B[k]?:=by
   intro k hk;rw[<-A7,BE (by simp;omega),show m+k-(P++[x]).length=k by simp;omega,Bt hk]
  refine⟨P,[x]++B,B.take (i-m)++x :: B.drop (i-m),Q,by simp,by rw[e2,Y.1,Y.2];simp,g1,by simp;omega,?_,?_⟩
  ·refine DK.trans ?_;rw[Bc];exact .refl _
  ·refine UT O g5 Z ?_ ?_
   ·rcases h1 with h|⟨x1,y,q1,q2,q3⟩
    ·left;omega
    ·rcases Bk (i-m) B.length with h9|h9
     ·right;rw[r]at q1;cases q1
      have:=z (i-m) h9;rw[show m+(i-m)=i by omega,q2]at this;exact⟨y,this.symm,q3⟩
     ·left;omega
   ·rcases h2 with h|⟨x1,y,q1,q2,q3⟩
    ·left;omega
    ·right;rw[r]at q1;cases q1
     rcases Cv hi with h9|h9
     ·exfalso;rw[show i-1=a by omega,r]at q2;cases q2
      rw[O.refl]at q3;cases q3
     ·have:=z (i-m-1) EB;rw[show m+(i-m-1)=i-1 by omega,q2]at this;exact⟨y,this.symm,O.az _ _ q3⟩
 ·simp at g2;omega
theorem VU {lt:α->α->Bool}(O:Ord lt){a m b i:Nat}{l cur:List α}(h:SM lt a m b l)(hm:b=m+1)(hi:a<=i)(hib:i<=m)(hc:LU m i l cur)
  (h1:i=m\/∃x y,l[m]?=some x/\l[i]?=some y/\lt x y=true) (h2:i=a\/∃x y,l[m]?=some x/\l[i-1]?=some y/\lt x y=false):GA lt a b l cur:=by
 obtain⟨P,A,B,Q,rfl,g1,g2,z,g4,g5⟩:=h;rcases B with _|⟨x,_|⟨x2,B⟩⟩
 ·simp at z;omega
 ·obtain⟨P',A',R,x',e1,e2,f1,f2⟩:=hc;have Y:i-a<=A.length:=by omega
  have e3:(P++A.take (i-a))++(A.drop (i-a)++(x :: Q))=P'++(A'++(x' :: R)):=by
   rw[<-e1,A7,<-A7 (A.take _),Bc];rfl
  obtain⟨r1,r2⟩:=Kp e3 (by simp;omega);obtain⟨Z,J⟩:=Kp r2 (by rw[Bh];omega);simp only [BW.injEq]at J;obtain⟨rfl,rfl⟩:=J;have r:(P++(A++([x]++Q)))[m]?=some x:=Km EB;have hA:∀k,k<A.length->(P++(A++([x]++Q)))[a+k]?=A[k]?:=by
   intro k hk;rw[BE EB,show a+k-P.length=k by omega,Bt hk]
  refine⟨P,A++[x],A.take (i-a)++x :: A.drop (i-a),Q,by simp,by rw[e2,<-r1,<-Z];simp,g1,by simp;omega,?_,?_⟩
  ·refine DK.trans ?_;rw[Bc];exact(Ep x A).symm
  ·refine UT O g4 Y ?_ ?_
   ·rcases h1 with h|⟨x1,y,q1,q2,q3⟩
    ·left;omega
    ·right;rw[r]at q1;cases q1
     rcases Bk (i-a) A.length with h9|h9
     ·have:=hA (i-a) h9;rw[show a+(i-a)=i by omega,q2]at this;exact⟨y,this.symm,O.az _ _ q3⟩
     ·exfalso;rw[show i=m by omega,r]at q2;cases q2
      rw[O.refl]at q3;cases q3
   ·rcases Cv hi with h9|h9
    ·left;omega
    rcases h2 with h|⟨x1,y,q1,q2,q3⟩
    ·left;omega
    ·right;rw[r]at q1;cases q1
     have:=hA (i-a-1) EB;rw[show a+(i-a-1)=i-1 by omega,q2]at this;exact⟨y,this.symm,q3⟩
 ·simp at z;omega
def KX (lt:α->α->Bool)(a m b start e:Nat)(l l2:List α):Prop:=∃P A1 A2 B1 B2 Q:List α,l=P++((A1++A2)++((B1++B2)++Q))/\P.length=a/\a+A1.length=start/\start+A2.length=m/\m+B1.length=e/\e+B2.length=b/\Up lt (A1++A2)/\Up lt (B1++B2)/\l2=P++((A1++B1)++((A2++B2)++Q))/\∀x∈A1++B1,∀y∈A2++B2,lt y x=false
theorem T7 {lt:α->α->Bool}(O:Ord lt){a m b s e:Nat}{l l2:List α}(h:SM lt a m b l)(hs1:a<=s)(hs2:s<=m)(he1:m<=e)(he2:e<=b)
  (h1:s=a\/e=b\/∃x y,l[s-1]?=some x/\l[e]?=some y/\lt y x=false) (h2:s=m\/e=m\/∃x y,l[s]?=some x/\l[e-1]?=some y/\lt y x=true)
  (h3:(s<m/\m<e->l2=Iv l s m e)/\(¬ (s<m/\m<e)->l2=l)):KX lt a m b s e l l2:=by
 obtain⟨P,A,B,Q,rfl,g1,g2,g3,J,Y⟩:=h;obtain⟨A1,A2,rfl,k1⟩:=J6 A (a:=s-a) EB;obtain⟨B1,B2,rfl,k2⟩:=J6 B (a:=e-m) EB;have hAl:(A1++A2).length=A1.length+A2.length:=Aa;have hBl:(B1++B2).length=B1.length+B2.length:=Aa;have hA:∀k,k<(A1++A2).length->(P++((A1++A2)++((B1++B2)++Q)))[a+k]?=(A1++A2)[k]?:=by
  intro k hk;rw[BE EB,show a+k-P.length=k by omega,Bt hk]
 have z:∀k,k<(B1++B2).length->(P++((A1++A2)++((B1++B2)++Q)))[m+k]?=(B1++B2)[k]?:=by
  intro k hk;rw[BE EB,BE EB,show m+k-P.length-(A1++A2).length=k by omega,Bt hk]
 have r:=X0s O J Y (s:=s-a) (t:=e-m) EB EB (by
  rcases h1 with h|h|⟨x,y,q1,q2,q3⟩
  ·left;omega
  ·right;left;omega
  ·rcases Cv hs1 with h9|h9
   ·left;omega
   rcases Cv he2 with h8|h8
   ·right;left;omega
   have r1:=hA (s-a-1) EB;have r2:=z (e-m) EB;rw[show a+(s-a-1)=s-1 by omega,q1]at r1;rw[show m+(e-m)=e by omega,q2]at r2;exact .inr (.inr ⟨x,y,r1.symm,r2.symm,q3⟩)) (by
  rcases h2 with h|h|⟨x,y,q1,q2,q3⟩
  ·left;omega
  ·right;left;omega
  ·rcases Cv hs2 with h9|h9
   ·left;omega
   rcases Cv he1 with h8|h8
   ·right;left;omega
   have r1:=hA (s-a) EB;have r2:=z (e-m-1) EB;rw[show a+(s-a)=s by omega,q1]at r1;rw[show m+(e-m-1)=e-1 by omega,q2]at r2;exact .inr (.inr ⟨x,y,r1.symm,r2.symm,q3⟩))
 rw[C9 k1,C9 k2,CA k1,CA k2]at r;refine⟨P,A1,A2,B1,B2,Q,rfl,g1,by omega,by omega,by omega,by omega,J,Y,?_,r⟩
 by_cases hc:s<m/\m<e
 ·rw[h3.1 hc];rw[show P++((A1++A2)++((B1++B2)++Q))=(P++A1)++(A2++(B1++(B2++Q))) by simp,WU (by simp;omega) EB EB];simp
 ·rw[h3.2 hc];rcases Bk s m with h9|h9
  ·have:B1=[]:=A4 EB;subst this;simp
  ·have:A2=[]:=A4 EB;subst this;simp
theorem Xi {lt:α->α->Bool}{a m b s e mid:Nat}{l l2:List α}(h:KX lt a m b s e l l2)(hm:s+e=mid+m):SM lt a s mid l2:=by
 obtain⟨P,A1,A2,B1,B2,Q,rfl,h1,h2,h3,h4,h5,z,r,rfl,h8⟩:=h;exact⟨P,A1,B1,(A2++B2)++Q,by simp,h1,h2,by omega,z.left,r.left⟩
theorem OT {lt:α->α->Bool}{a m b s e mid:Nat}{l l2:List α}(h:KX lt a m b s e l l2)(hm:s+e=mid+m)(hn:¬ (a<s/\s<mid)):GA lt a mid l2 l2:=by
 obtain⟨P,A1,A2,B1,B2,Q,rfl,h1,h2,h3,h4,h5,z,r,rfl,h8⟩:=h;refine⟨P,A1++B1,A1++B1,(A2++B2)++Q,by simp,by simp,h1,by simp;omega,.refl _,?_⟩;rcases Bk a s with h9|h9
 ·have:B1=[]:=A4 EB;subst this;rw[AO];exact z.left
 ·have:A1=[]:=A4 EB;subst this;exact r.left
theorem Sl {lt:α->α->Bool}{a m b s e mid:Nat}{l l2 l3:List α}(h:KX lt a m b s e l l2)(hm:s+e=mid+m)(h3:GA lt a mid l2 l3):∃P A1 A2 B1 B2 X Q:List α,l=P++((A1++A2)++((B1++B2)++Q))/\P.length=a/\a+(A1.length+B1.length)=mid/\mid+A2.length=e/\e+B2.length=b/\Up lt A2/\Up lt B2/\l3=P++(X++(A2++(B2++Q)))/\X.Perm (A1++B1)/\Up lt X/\∀x∈X,∀y∈A2++B2,lt y x=false:=by
 obtain⟨P,A1,A2,B1,B2,Q,rfl,h1,h2,h4,h5,h6,J,O,rfl,z⟩:=h;obtain⟨P',M,M',Q',e1,rfl,f1,f2,f3,f4⟩:=h3;obtain⟨r1,r2⟩:=Kp e1 EB;obtain⟨Y,Z⟩:=Kp r2 (by simp;omega);subst r1;subst Y;subst Z;exact⟨P,A1,A2,B1,B2,M',Q,rfl,h1,by omega,by omega,by omega,J.right,O.right,by simp,f3,f4,λx r=>z x (f3.mem_iff.1 r)⟩
theorem Xa {lt:α->α->Bool}{a m b s e mid:Nat}{l l2 l3:List α}(h:KX lt a m b s e l l2)(hm:s+e=mid+m)(h3:GA lt a mid l2 l3):SM lt mid e b l3:=by
 obtain⟨P,A1,A2,B1,B2,X,Q,rfl,h1,h2,h4,h5,z,r,rfl,J,h9,h10⟩:=Sl h hm h3;have:=J.length_eq;rw[Aa]at this;exact⟨P++X,A2,B2,Q,by simp,by simp;omega,by omega,by omega,z,r⟩
theorem PZ {lt:α->α->Bool}{a m b s e mid:Nat}{l l2 l3:List α}(h:KX lt a m b s e l l2)(hm:s+e=mid+m)(h3:GA lt a mid l2 l3)(hn:¬ (mid<e/\e<b)):GA lt mid b l3 l3:=by
 obtain⟨P,A1,A2,B1,B2,X,Q,rfl,h1,h2,h4,h5,z,r,rfl,J,h9,h10⟩:=Sl h hm h3;have:=J.length_eq;rw[Aa]at this;refine⟨P++X,A2++B2,A2++B2,Q,by simp,by simp,by simp;omega,by simp;omega,.refl _,?_⟩;rcases Bk mid e with h11|h11
 ·have:B2=[]:=A4 EB;subst this;rw[AO];exact z
 ·have:A2=[]:=A4 EB;subst this;exact r
theorem Nc {lt:α->α->Bool}{a m b s e mid:Nat}{l l2 l3 l4:List α}(h:KX lt a m b s e l l2)(hm:s+e=mid+m)(h3:GA lt a mid l2 l3)(h4:GA lt mid b l3 l4):GA lt a b l l4:=by
 obtain⟨P,A1,A2,B1,B2,X,Q,rfl,h1,h2,h5,h6,h7,h8,rfl,O,J,r⟩:=Sl h hm h3;have z:=O.length_eq;rw[Aa]at z;obtain⟨P',M,M',Q',e1,rfl,f1,f2,f3,f4⟩:=h4;rw[show P++(X++(A2++(B2++Q)))=(P++X)++((A2++B2)++Q) by simp]at e1;obtain⟨r1,r2⟩:=Kp e1 (by simp;omega);obtain⟨r3,r4⟩:=Kp r2 (by simp;omega);subst r1;subst r3;subst r4;refine⟨P,(A1++A2)++(B1++B2),X++M',Q,by simp,by simp,h1,by simp;omega,?_,?_⟩
 ·refine(List.Perm.append O f3).trans ?_;have:(B1++A2).Perm (A2++B1):=List.perm_append_comm;rw[A7 A1,A7 A1];refine En A1 ?_;rw[<-A7,<-A7];exact this.append_right B2
 ·exact Up.app J f4 λx Y y Z=>r x Y y (f3.mem_iff.1 Z)
def M2 (lt:α->α->Bool)(s j:Nat)(cur:List α):Prop:=(∀k,k<j->Ha lt cur (k*(2*s)) ((k+1)*(2*s)))/\∀k,2*j<=k->Ha lt cur (k*s) ((k+1)*s)
theorem OK {lt:α->α->Bool}{l:List α}{a b c:Nat}(h:Ha lt l a b)(hb:l.length<=b)(hc:l.length<=c):Ha lt l a c:=by
 unfold Ha at *;rw[Ay hb]at h;rw[Ay hc];exact h
theorem TD {lt:α->α->Bool}{l:List α}{a b:Nat}(h:l.length<=a):Ha lt l a b:=by
 unfold Ha;rw[Cr (by rw[A5];omega)];exact Bp
theorem X0u {lt:α->α->Bool}{l:List α}{b:Nat}(h:Ha lt l 0 b)(hb:l.length<=b):Up lt l:=by
 unfold Ha at h;rw[Ay hb]at h;exact h
theorem VO {lt:α->α->Bool}{s j:Nat}{cur cur':List α}(h:M2 lt s j cur)(hs:GA lt (j*(2*s)) ((j+1)*(2*s)) cur cur'):M2 lt s (j+1) cur':=by
 refine⟨λk hk=>?_,λk hk=>?_⟩
 ·rcases Bk k j with h9|h9
  ·exact hs.keep (.inl (AS _ h9)) (h.1 k h9)
  ·have:k=j:=by omega
   subst this;exact hs.up
 ·refine hs.keep (.inr ?_) (h.2 k EB);rw[<-Cp,Bu (j+1) 2];exact AS _ hk
theorem Xx {lt:α->α->Bool}{s j:Nat}{cur:List α}(h:M2 lt s j cur)(hl:(j+1)*(2*s)<=cur.length):SM lt (j*(2*s)) (j*(2*s)+s) ((j+1)*(2*s)) cur:=by
 have e1:j*(2*s)=(2*j)*s:=by rw[<-Cp,Bu j 2]
 have e2:j*(2*s)+s=(2*j+1)*s:=by rw[e1];exact(AZ _ _).symm
 have r:(j+1)*(2*s)=(2*j+1+1)*s:=by rw[<-Cp,Bu (j+1) 2];rfl
 have g1:=h.2 (2*j) (Ab _);have g2:=h.2 (2*j+1) EB;rw[<-e1,<-e2]at g1;rw[<-e2,<-r]at g2;refine WI EB ?_ hl g1 g2;rw[e2,r];exact AS _ EB
theorem VI {lt:α->α->Bool}{s j:Nat}{cur:List α}(h:M2 lt s j cur)(hl:cur.length<(j+1)*(2*s))(hm:j*(2*s)+s<cur.length):SM lt (j*(2*s)) (j*(2*s)+s) cur.length cur:=by
 have e1:j*(2*s)=(2*j)*s:=by rw[<-Cp,Bu j 2]
 have e2:j*(2*s)+s=(2*j+1)*s:=by rw[e1];exact(AZ _ _).symm
 have r:(j+1)*(2*s)=(2*j+1+1)*s:=by rw[<-Cp,Bu (j+1) 2];rfl
 have g1:=h.2 (2*j) (Ab _);have g2:=h.2 (2*j+1) EB;rw[<-e1,<-e2]at g1;rw[<-e2,<-r]at g2;exact WI EB EB (Ab _) g1 (OK g2 EB (Ab _))
theorem PS {lt:α->α->Bool}{s j:Nat}{cur cur':List α}(h:M2 lt s j cur)(hl:cur.length<(j+1)*(2*s))(hj:j*(2*s)<=cur.length)(hs:(j*(2*s)+s<cur.length->GA lt (j*(2*s)) cur.length cur cur')/\(cur.length<=j*(2*s)+s->cur'=cur)):M2 lt (2*s) 0 cur':=by
 refine⟨λk hk=>absurd hk (B6 k),λk _=>?_⟩;have e1:j*(2*s)=(2*j)*s:=by rw[<-Cp,Bu j 2]
 have e2:j*(2*s)+s=(2*j+1)*s:=by rw[e1];exact(AZ _ _).symm
 have hlen:cur'.length=cur.length:=by
  rcases Bk (j*(2*s)+s) cur.length with h9|h9
  ·exact(hs.1 h9).len.1
  ·rw[hs.2 h9]
 rcases Er k j with h9|rfl|h9
 ·rcases Bk (j*(2*s)+s) cur.length with h8|h8
  ·exact(hs.1 h8).keep (.inl (AS _ h9)) (h.1 k h9)
  ·rw[hs.2 h8];exact h.1 k h9
 ·rcases Bk (k*(2*s)+s) cur.length with h8|h8
  ·exact OK (hs.1 h8).up EB EB
  ·rw[hs.2 h8];have g1:=h.2 (2*k) (Ab _);rw[<-e1,<-e2]at g1;exact OK g1 h8 EB
 ·refine TD ?_;have:(j+1)*(2*s)<=k*(2*s):=AS _ h9;omega
def I2 (lt:α->α->Bool)(s j:Nat)(cur:List α):Prop:=∀k,k<j->Ha lt cur (k*s) ((k+1)*s)
theorem U3 {lt:α->α->Bool}{s j:Nat}{cur cur':List α}(h:I2 lt s j cur)(hs:GA lt (j*s) ((j+1)*s) cur cur'):I2 lt s (j+1) cur':=by
 intro k hk;rcases Bk k j with h9|h9
 ·exact hs.keep (.inl (AS _ h9)) (h k h9)
 ·have:k=j:=by omega
  subst this;exact hs.up
theorem UO {lt:α->α->Bool}{s j:Nat}{cur cur':List α}(h:I2 lt s j cur)(hl:cur.length<(j+1)*s)(hj:j*s<=cur.length)(hs:GA lt (j*s) cur.length cur cur'):M2 lt s 0 cur':=by
 refine⟨λk hk=>absurd hk (B6 k),λk _=>?_⟩;have hlen:=hs.len.1;rcases Er k j with h9|rfl|h9
 ·exact hs.keep (.inl (AS _ h9)) (h k h9)
 ·exact OK hs.up EB EB
 ·refine TD ?_;have:(j+1)*s<=k*s:=AS _ h9;omega
theorem TZ {lt:α->α->Bool}{s:Nat}{cur:List α}(h:M2 lt s 0 cur)(hl:cur.length<=s):Up lt cur:=by
 have:=h.2 0 EB;rw[Cz]at this;exact X0u this EB
section
variable {α:Type}
def Je (eq:α->α->Bool):α->List α->List α
 | _,[]=>[]
 | p,x :: r=>if eq x p=true then Je eq x r else x :: Je eq x r
def Jp (eq:α->α->Bool):List α->List α
 | []=>[]
 | x :: r=>x :: Je eq x r
theorem TT (eq:α->α->Bool)(x:α):∀(l:List α) (p:α),Je eq p (l++[x])=Je eq p l++(if eq x (l.getLast?.getD p)=true then[]else[x])
 | [],p=>by simp only [AE,Je,List.getLast?_nil,Option.getD_none];by_cases h:eq x p=true<;>simp [h]
 | y :: r,p=>by
  have e:(y :: r).getLast?.getD p=r.getLast?.getD y:=by
   cases r with
   | nil=>rfl
   | cons z r=>simp [List.getLast?_cons]
  rw[AT,Je,Je,TT eq x r y,e];split<;>simp
theorem PD {eq:α->α->Bool}{l:List α}{k:Nat}{x y:α}(hk:0<k)(hx:l[k]?=some x)(hy:l[k-1]?=some y):Jp eq (l.take (k+1))=if eq x y=true then Jp eq (l.take k)else Jp eq (l.take k)++[x]:=by
 rw[B3,hx];simp only [Option.toList_some];rcases l with _|⟨a,r⟩
 ·simp at hx
 obtain⟨k,rfl⟩:∃m,k=m+1:=⟨k-1,by omega⟩;simp only [Cg,AT,Jp];rw[TT];have e:(r.take k).getLast?.getD a=y:=by
  have z:=(Ap.1 hx).1;simp only [AG]at z;simp only [BS]at hy;rcases C5 k with rfl|hk2
  ·simp at hy ⊢;exact hy
  ·obtain⟨k,rfl⟩:∃m,k=m+1:=⟨k-1,by omega⟩;simp only [List.getElem?_cons_succ]at hy;rw[List.getLast?_eq_getElem?,A5,show min (k+1) r.length-1=k by omega,AW,if_pos EB,hy];rfl
 rw[e];split<;>simp
theorem Xp (eq:α->α->Bool)(l:List α):Jp eq (l.take 1)=l.take 1:=by
 cases l with
 | nil=>rfl
 | cons x r=>rfl
theorem Xp1 {eq:α->α->Bool}{l:List α}(h:l.length<2):Jp eq l=l:=by
 have:=Xp eq l;rwa [Ay EB]at this
def Kj (eq:α->α->Bool)(l:List α)(n k:Nat)(cur:List α):Prop:=cur.length=l.length/\k<n/\n<=l.length/\cur.take k=Jp eq (l.take n)/\∀i,n<=i+1->cur[i]?=l[i]?
theorem Yai {eq:α->α->Bool}{l:List α}{k:Nat}{x y:α}(hk:0<k)(hc:Jp eq (l.take k)=l.take k)(hx:l[k]?=some x)(hy:l[k-1]?=some y)(he:eq x y=true):Kj eq l (k+1) k l:=
 ⟨rfl,by omega,(Ap.1 hx).1,by rw[PD hk hx hy,if_pos he,hc],λ_ _=>rfl⟩
theorem Xxb {eq:α->α->Bool}{l:List α}{n k:Nat}{cur:List α}{x y:α}(h:Kj eq l n k cur)(hx:l[n]?=some x)(hy:l[n-1]?=some y)(he:eq x y=true):Kj eq l (n+1) k cur:=by
 obtain⟨h1,h2,h3,h4,r⟩:=h;exact⟨h1,by omega,(Ap.1 hx).1,by rw[PD EB hx hy,if_pos he,h4],λi hi=>r i EB⟩
theorem Xr9 {eq:α->α->Bool}{l:List α}{n k:Nat}{cur:List α}{x y:α}(h:Kj eq l n k cur)(hx:l[n]?=some x)(hy:l[n-1]?=some y)(he:¬ eq x y=true):Kj eq l (n+1) (k+1) (cur.set k x):=by
 obtain⟨h1,h2,h3,h4,r⟩:=h;refine⟨by rw[AF,h1],by omega,(Ap.1 hx).1,?_,λi hi=>by rw[Cb EB,r i EB]⟩;rw[PD EB hx hy,if_neg he,<-h4,B3,D5 (Ab k),BB EB];rfl
def Kb (p:α->Bool)(l:List α)(n k:Nat)(cur:List α):Prop:=cur.length=l.length/\k<n/\n<=l.length/\cur.take k=(l.take n).filter (λx=>!p x)/\∀i,n<=i->cur[i]?=l[i]?
theorem Q9 {p:α->Bool}{l:List α}{n:Nat}{x:α}(hx:l[n]?=some x):(l.take (n+1)).filter p=if p x=true then(l.take n).filter p++[x]else(l.take n).filter p:=by
 rw[B3,hx,List.filter_append];split<;>simp [*]
theorem Yaj {p:α->Bool}{l:List α}{k:Nat}{x:α}(hx:l[k]?=some x)(hp:p x=true)(hn:∀i y,i<k->l[i]?=some y->p y=false):Kb p l (k+1) k l:=by
 refine⟨rfl,by omega,(Ap.1 hx).1,?_,λ_ _=>rfl⟩;rw[Q9 hx,if_neg (by simp [hp])];refine(List.filter_eq_self.2 λy z=>?_).symm;obtain⟨i,hi⟩:=AM z;rw[AW]at hi;split at hi
 ·rename_i r;simp [hn i y r hi]
 ·cases hi
theorem Xxc {p:α->Bool}{l:List α}{n k:Nat}{cur:List α}{x:α}(h:Kb p l n k cur)(hx:l[n]?=some x)(hp:p x=true):Kb p l (n+1) k cur:=by
 obtain⟨h1,h2,h3,h4,r⟩:=h;exact⟨h1,by omega,(Ap.1 hx).1,by rw[Q9 hx,if_neg (by simp [hp]),h4],λi hi=>r i EB⟩
theorem Xsa {p:α->Bool}{l:List α}{n k:Nat}{cur:List α}{x:α}(h:Kb p l n k cur)(hx:l[n]?=some x)(hp:p x=false):Kb p l (n+1) (k+1) (cur.set k x):=by
 obtain⟨h1,h2,h3,h4,r⟩:=h;refine⟨by rw[AF,h1],by omega,(Ap.1 hx).1,?_,λi hi=>by rw[Cb EB,r i EB]⟩;rw[Q9 hx,if_pos (by simp [hp]),<-h4,B3,D5 (Ab k),BB EB];rfl
end
end Go.Sp
namespace Go.Vc
open Go.RowKit
section
variable {α:Type}{enc:α->List Value}{sz T B:Nat}{w w':World}{v:Value}{l:List α}
theorem QY (henc:∀x,(enc x).length=sz):∀(l:List α) (k:Nat),(l.flatMap enc).take (k*sz)=(l.take k).flatMap enc
 | [],k=>by simp
 | x :: r,0=>by simp
 | x :: r,k+1=>by
  rw[Cg,AB,AB,AZ,Nat.add_comm,Dj,henc,Ay (by rw[henc];omega),Nat.add_sub_cancel_left,QY henc r k]
theorem Own.cut (henc:∀x,(enc x).length=sz)(h:Own enc sz T B w v l){k:Nat}(hk:k<=l.length):Own enc sz T B w (G7 sz v 0 k) (l.take k):=by
 obtain⟨h1,h2⟩:=h.row;refine⟨by rw[Fj henc],?_⟩;rcases h2 with⟨rfl,h0⟩|⟨g,cap,cur,rfl,hB,hc,hn,hm,hs,ht⟩
 ·have:l=[]:=A4 h0;subst this;exact .inl ⟨rfl,by simp⟩
 ·refine .inr ⟨g,cap,cur,?_,hB,hc,by rw[A5];omega,hm,hs,?_⟩
  ·simp only [G7,Cz,CS,Addr.add,BX,ite_self,A5,Bg hk]
  ·rw[A5,Bg hk,<-QY henc,<-ht,Cu,Bg (AS _ hk)]
theorem Xn4 {v:Value}{k sz n:Nat}(hv:Gd v n):(G7 sz v 0 k).ownBlock=v.ownBlock:=by
 rcases hv with⟨rfl,_⟩|⟨b,o,c,rfl,_⟩|⟨_,a,c,rfl⟩
 ·rfl
 ·simp [G7,Value.ownBlock,Addr.add]
 ·simp [G7,Value.ownBlock,Addr.add]
variable {P:Program}{n:Nat}{E:Fh}{ds:List (Option Tmp)}{R:World->World->Prop}{rs:List (Oper×Fl×Bool)}{K:Fh->World->Prop}{pos:String}{af:Array Edge}{g:Option (Nat×Bool)}{anc:Bool}{ty:TypeId}
theorem Te {dd:Option Tmp}{x:Operand}{t e k:Nat}{zs:List Value}(henc:∀x,(enc x).length=sz)(hg:FK ds E g=true)(ht:IC P t=some (e,sz))(hz:KK P e=some zs)(hzs:zs.length=sz)(hsz:0<sz)(hz1:∀z∈zs,z.oneCell'=true)
  (hown:Own enc sz T B w v l) (hx:ev E x=G7 sz v k l.length) (hk:k<=l.length) (hR:anc=true\/∀w',Mod (λk=>v.ownBlock=some k) w w'->R w w')
  (h:∀r,Mod (λk=>v.ownBlock=some k) w r->r.heap.size=w.heap.size->Own enc sz T B r (G7 sz v 0 k) (l.take k)->Dw P n ds R rs K (Gu E dd (.tuple #[])) r) :
  Dw P n ds R ((⟨dd,.call { callee:=.builtin .clear,args:=#[x],argTypes:=#[t] },ty,pos,af,g⟩,.x,anc) :: rs) K E w:=by
 obtain⟨hu,i,hi,hs⟩:=JL ht;obtain⟨z,hh,ha⟩:=O3 (w:=w) hz;have O:∃r,(Builtin.clear_ #[t] ty #[G7 sz v k l.length]).run P w=.ok (.tuple #[]) r/\Mod (λk=>v.ownBlock=some k) w r/\r.heap.size=w.heap.size/\Own enc sz T B r (G7 sz v 0 k) (l.take k):=by
  rcases Cv hk with hk2|hk2
  ·refine⟨w,?_,Mod.refl _ _,rfl,hown.cut henc hk⟩;rcases hown.sl with⟨rfl,_⟩|⟨b,o,c,rfl,_⟩|⟨_,a,c,rfl⟩<;>simp [Builtin.clear_,G7,hk2,underlying,hu]
  ·have hl:l≠[]:=by rintro rfl;simp at hk2
   have hob:v.ownBlock=some (base v).1:=hown.base_block hl;obtain⟨r1,r2⟩:=hown.row;rcases r2 with⟨_,h0⟩|⟨b,cap,cur,rfl,hB,hc,hn,hm,hcs,htk⟩
   ·exact absurd (A4 h0) hl
   have hb:EK w b cur.toList T:=by show w.heap[b]?=_;rw[hc]
   have Y:cur.toList.length=cap*sz:=by simp [hcs]
   have hlen:l.length*sz<=cur.toList.length:=by rw[Y];exact AS _ hn
   subst hzs;have Z:(Builtin.zeroCells z.cells (l.length-k)).toList=(Ax (l.length-k) zs).flatten:=by
    rw[ha];unfold Builtin.zeroCells;exact congrArg Array.toList (Sn zs zs.length (l.length-k) rfl hsz)
   have hvl:((Ax (l.length-k) zs).flatten).length=(l.length-k)*zs.length:=by simp [List.length_flatten,List.map_replicate,List.sum_replicate_nat]
   have hkl:k*zs.length+(l.length-k)*zs.length=l.length*zs.length:=by rw[<-Nat.add_mul];congr 1;omega
   obtain⟨r,e1,e2,e3,e4⟩:=TX (P:=P) (b:=b) (o:=k*zs.length) (T:=T) ((Ax (l.length-k) zs).flatten) 0 cur.toList w hb EB (λu hu=>by
    obtain⟨q,hq,J⟩:=List.mem_flatten.1 hu;rw[List.eq_of_mem_replicate hq]at J;exact hz1 u J)
   obtain⟨m,hm2⟩:∃m,l.length-k=m+1:=⟨l.length-k-1,by omega⟩;have hj:G7 zs.length (.slice (some ⟨b,0,none⟩) l.length cap) k l.length=.slice (some ⟨b,k*zs.length,none⟩) (m+1) (cap-k):=by
    simp only [G7,Addr.add,A9,hm2];rw[if_neg EB]
    by_cases hk0:k*zs.length=0
    ·rw[if_pos hk0,hk0]
    ·rw[if_neg hk0]
   refine⟨r,?_,e3.mono (λi hi _=>by have:i=b:=hi;rw[this];rfl),e4,?_⟩
   ·have hf:(storeCells ⟨b,k*zs.length,none⟩ (Builtin.zeroCells z.cells (m+1)).toList).run P w=.ok () r:=by rw[<-hm2,Z];exact e1
    rw[hj];simp [Builtin.clear_,underlying,hu,hh,hf]
   ·refine⟨by rw[Fj henc],.inr ⟨b,cap,⟨EY cur.toList (k*zs.length+0) ((Ax (l.length-k) zs).flatten)⟩,?_,hB,e2,by rw[A5];omega,hm,by simp only [List.size_toArray];rw[Su,Y],?_⟩⟩
    ·simp only [G7,Cz,CS,Addr.add,BX,ite_self,A5,Bg hk]
    ·rw[A5,Bg hk,<-QY henc,<-htk,Cu,Bg (AS _ hk)]
     apply BA
     intro i;simp only [AW];split
     ·rw[MY _ _ _ _ EB,if_neg EB]
     ·rfl
 obtain⟨r,hr,h1,h2,h3⟩:=O;refine HM (v:=.tuple #[]) (w':=r) hg ?_ (λe=>hR.elim (λh=>by rw[h]at e;cases e) (λh=>h _ h1)) (h _ h1 h2 h3);simp [execOp,resolve,invoke,builtin,hx,hr]
end
end Go.Vc
namespace Go.Proofs.YtiooodckiddpmaaGreatDoor
open Go.Vc Go.Sp
attribute [local irreducible] W XW Dw Gs
theorem Mh {P:Program}{E:Fh}{dd:Option Tmp}{ty:TypeId}{pos:String}{af:Array Edge}{g:Option (Nat×Bool)}{x y:Operand}{T U:TypeId}{u:Nat}{ky:IntKind}(hx:ev E x=.int .u64 u)(hy:ev E y=.int ky 1):PV P ⟨dd,.binOp .shr T x y U,ty,pos,af,g⟩ E (.int .u64 (u / 2:Nat)):=by
 have:=N4 (P:=P) (dd:=dd) (ty:=ty) (pos:=pos) (af:=af) (g:=g) (T:=T) (U:=U) hx hy EN;rwa [show((u:Int)).fdiv (2 ^ min (1:Int).toNat IntKind.u64.bits)=((u / 2:Nat):Int) by
  rw[show(2:Int) ^ min (1:Int).toNat IntKind.u64.bits=2 by decide,Int.fdiv_eq_ediv_of_nonneg _ EB];omega]at this
def Fz {α:Type}(c:α->α->Int)(x y:α):Bool:=decide (c x y<0)
theorem Kh {α:Type}{enc:α->List Value}{sz T B:Nat}{w:World}{v:Value}{l:List α}(h:Vc.Own enc sz T B w v l)(hl:l≠[]):(base v).2=0:=by
 obtain⟨cs,cap,e,_⟩:=h.cells hl;rw[e];rfl
theorem Tt (l:List Cell)(v:Value)(Bo f:Nat)(c:Cell->Cell->Int)(w:World)(ho:Vc.Own Cell.cs 4 79 Bo w v l)(hl:l.length<=10000000)(hcb:GM Tryz.prog f=true)(hc:∀w2 x y,Calls Tryz.prog f [Cell.v x,Cell.v y].toArray w2 (Pure w2 (I (c x y))))(O:Ord (Fz c))(a b:Nat)(hab:a<=b)(hb:b<=l.length) :
  Calls Tryz.prog 252 [v,I ↑a,I ↑b,G8 f].toArray w (Ff (λk=>v.ownBlock=some k) w (λu w'=>u=.tuple #[]/\∃l',Vc.Own Cell.cs 4 79 Bo w' v l'/\GA (Fz c) a b l l')):=by
 refine cw Tryz.func252 ?_;have J:=Vc.Mod.refl (λk=>v.ownBlock=some k) w;refine ws λ_ Z1=>wr (dm ?_);refine pa rfl rfl (da (de Z1 (EM ?_)));refine Fq (G:=Nat×List Cell) (λ(i,cur)=>[(0,v),(1,I ↑a),(2,I ↑b),(3,G8 f),(8,I ↑i)]) (λ(i,cur) w'=>Mod (λk=>v.ownBlock=some k) w w'/\a+1<=i/\GA (Fz c) a (min i b) l cur/\Vc.Own Cell.cs 4 79 Bo w' v cur) (λ(i,cur)=>b-i) (a+1,l) ?_ ?_ ?_
 ·exact FN
 ·exact⟨J,Ab _,GA.one l EB EB EB,ho⟩
 intro X1 g1 w1 ht;obtain⟨i,cur⟩:=g1;clear J ho;obtain⟨J,hi1,hs,ho⟩:=ht;refine ws λ_ Z2=>ws λ_ Z3=>wr (dm (dm ?_));refine dp (Fb rfl rfl) (de Z3 (wi (λc1=>?_) λc1=>?_))
 ·have hq:GA (Fz c) a i l cur:=by rw[Bg EB]at hs;exact hs
  refine EI (Z2 _ _ (ws λ_ Z4=>EM (ws λ_ Z5=>wr (dm (da (de Z5 (EM ?_)))))));refine Fq (G:=Nat×List Cell) (λ(j,r)=>[(0,v),(1,I ↑a),(2,I ↑b),(3,G8 f),(8,I ↑i),(9,I ↑j)]) (λ(j,r) w'=>Mod (λk=>v.ownBlock=some k) w w'/\Jb (Fz c) a i j l r/\Vc.Own Cell.cs 4 79 Bo w' v r) (λ(j,r)=>j) (i,cur) ?_ ?_ ?_
  ·exact G2
  ·exact⟨J,XB hq EB,ho⟩
  intro X2 g2 w2 hr;obtain⟨j,r⟩:=g2;clear J ho;obtain⟨J,hj,ho⟩:=hr;refine ws λ_ Z6=>ws λ_ Z7=>F9 (R:=ED) ED.refl (λ_ _ _=>ED.trans) EA [8,13] [(0,.p,false),(1,.p,false),(2,.p,false),(3,.p,false),(4,.p,false),(5,.p,false),(6,.p,false),(7,.p,false),(8,.l,false),(9,.p,false),(10,.p,false),(11,.p,false),(12,.p,false),(13,.l,false),(14,.x,true),(15,.p,false),(16,.p,false)] rfl EA EA (λw3 hg=>?_);have x3:=EL hg;clear hg;have ho:=ho.ext x3;have J:=J.ext x3
  iterate 2 refine dm ?_
  refine dp (Gg rfl rfl) (dm ?_);refine F4 21 rfl (λc2=>?_) (λc2=>?_)
  ·have hp:=hj.len;obtain⟨x,hxj⟩:∃x,r[j]?=some x:=Fw;obtain⟨z,hzj⟩:∃x,r[j-1]?=some x:=Fw;have hf:=Kh ho (λe=>by rw[e]at hxj;simp at hxj)
   iterate 3 refine dm ?_
   refine di 79 4 (ho.arr EF).sl rfl ((ho.arr EF).lt hxj) (FW rfl (λw' hR=>Fe EA rfl rfl (((ho.arr EF).ext hR).row hxj)) (dm (dm ?_)));refine EW (v:=I ↑(j-1)) rfl (Gr rfl rfl (by unfold EU;omega)) (by show I _=I _;congr 1;omega) (di 79 4 (ho.arr EF).sl rfl ((ho.arr EF).lt hzj) (FW rfl (λw' hR=>Fe EA rfl rfl (((ho.arr EF).ext hR).row hzj)) (KZ (vs:=[x.v,z.v]) rfl rfl hcb (hc _ x z) rfl RX.all (λw4 x4=>?_))));have ho:=ho.ext x4;have J:=J.ext x4;refine dp (Fb rfl rfl) (EP (de Z7 ?_));refine wi (λc3=>?_) λc3=>?_
   ·have ha:Fz c x z=true:=by simpa [Fz]using c3
    refine EI (Z6 _ _ (ws λ_ Z8=>EM (F9 (R:=ED) ED.refl (λ_ _ _=>ED.trans) EA [9,13] [(0,.p,false),(1,.p,false),(2,.p,false),(3,.p,false),(4,.p,false),(5,.p,false),(6,.p,false),(7,.p,false),(8,.p,false),(9,.l,false),(10,.p,false),(11,.p,false),(12,.p,false),(13,.l,false),(14,.p,false),(15,.x,true),(16,.p,false),(17,.x,true)] rfl EA EA (λw5 hh=>?_))));have x5:=EL hh;clear hh;have ho:=ho.ext x5;have J:=J.ext x5
    iterate 4 refine dm ?_
    refine EW (v:=I ↑(j-1)) rfl (Gr rfl rfl (by unfold EU;omega)) (by show I _=I _;congr 1;omega) (dm (dm ?_));refine EW (v:=I ↑(j-1)) rfl (Gr rfl rfl (by unfold EU;omega)) (by show I _=I _;congr 1;omega) (di 79 4 (ho.arr EF).sl rfl ((ho.arr EF).lt hzj) (FW rfl (λw' hR=>Fe EA rfl rfl (((ho.arr EF).ext hR).row hzj)) (dm (dm ?_))));refine di 79 4 (ho.arr EF).sl rfl ((ho.arr EF).lt hxj) (FW rfl (λw' hR=>Fe EA rfl rfl (((ho.arr EF).ext hR).row hxj)) (EW (v:=EE (base v).1 (j*4+0)) rfl (HY (i:=j) (e:=79) (k:=4) EA ho.sl rfl rfl (by omega)) (by rw[hf];show EE _ (0+_)=_;rw[A9];rfl) ?_));refine HJ (enc:=Cell.cs) (sz:=4) (l:=r) (i:=j) (j:=0) (x:=z) (vs:=z.cs) EF rfl ho rfl rfl rfl EA (by omega) rfl (Ab 4) (by intro v hv;simp at hv;rcases hv with rfl|rfl|rfl|rfl<;>rfl) (.inl rfl) (λw6 x6 xs6 Y=>?_);have J:=J.own x6 (λi hi ha=>hi);have ho:=Y;refine EW (v:=EE (base v).1 ((j-1)*4+0)) rfl (HY (i:=(j-1)) (e:=79) (k:=4) EA ho.sl rfl rfl (by rw[AF];omega)) (by rw[hf];show EE _ (0+_)=_;rw[A9];rfl) ?_;refine HJ (enc:=Cell.cs) (sz:=4) (l:=(r.set j z)) (i:=(j-1)) (j:=0) (x:=x) (vs:=x.cs) EF rfl ho rfl rfl rfl EA (by rw[AF];omega) rfl (Ab 4) (by intro v hv;simp at hv;rcases hv with rfl|rfl|rfl|rfl<;>rfl) (.inl rfl) (λw7 x7 xs7 Y=>?_);have J:=J.own x7 (λi hi ha=>hi);have ho:=Y;refine de Z8 (wr (dm ?_));refine EW (v:=I ↑(j-1)) rfl (Gr rfl rfl (by unfold EU;omega)) (by show I _=I _;congr 1;omega) (da (EH (?_)));exact⟨(j-1,_),G2,⟨J,U4 hj EB hxj hzj ha,ho⟩,by simp only [];omega⟩
   have Z:GA (Fz c) a (i+1) l r:=PM O hj (.inr ⟨x,z,hxj,hzj,by simpa [Fz]using c3⟩);refine Fk (Z4 _ _ (wr (dm ?_)));refine pa rfl rfl (da (EH (?_)));exact⟨(i+1,r),FN,⟨J,by omega,by rw[Bg EB];exact Z,ho⟩,by simp only [];omega⟩
  have hp:=hj.len;have Z:GA (Fz c) a (i+1) l r:=PM O hj (.inl EB)
  iterate 12 refine dk ?_
  refine EP (de Z7 ?_);refine Hf rfl (Fk (Z4 _ _ (wr (dm ?_))));refine pa rfl rfl (da (EH (?_)));exact⟨(i+1,r),FN,⟨J,by omega,by rw[Bg EB];exact Z,ho⟩,by simp only [];omega⟩
 refine Fk (HH (Hh rfl ?_));rw[Nat.min_eq_right EB]at hs;exact⟨_,rfl,J,rfl,cur,ho,hs⟩
theorem St (l:List Cell)(v:Value)(Bo f:Nat)(w:World)(ho:Vc.Own Cell.cs 4 79 Bo w v l)(hl:l.length<=10000000)(a b n:Nat)(h1:a+n<=b)(h2:b+n<=l.length) :
  Calls Tryz.prog 328 [v,I ↑a,I ↑b,I ↑n,G8 f].toArray w (Ff (λk=>v.ownBlock=some k) w (λu w'=>u=.tuple #[]/\∃l',Vc.Own Cell.cs 4 79 Bo w' v l'/\Mk a b n l l')):=by
 refine cw Tryz.func328 ?_;have r:=Vc.Mod.refl (λk=>v.ownBlock=some k) w;refine ws λ_ Z1=>wr (da (de Z1 (EM ?_)));refine Fq (G:=Nat×List Cell) (λ(i,cur)=>[(0,v),(1,I ↑a),(2,I ↑b),(3,I ↑n),(10,I ↑i)]) (λ(i,cur) w'=>Mod (λk=>v.ownBlock=some k) w w'/\LM a b n i l cur/\Vc.Own Cell.cs 4 79 Bo w' v cur) (λ(i,cur)=>n-i) (0,l) ?_ ?_ ?_
 ·exact FN
 ·exact⟨r,Tm h1 h2,ho⟩
 intro X1 g1 w1 hb;obtain⟨i,cur⟩:=g1;clear r ho;obtain⟨r,Y,ho⟩:=hb;refine ws λ_ Z2=>ws λ_ Z3=>wr (dm (dm ?_));refine dp (Fb rfl rfl) (de Z3 (wi (λc1=>?_) λc1=>?_))
 ·have Z:=Y.len;obtain⟨x,hxi⟩:∃x,cur[a+i]?=some x:=Fw;obtain⟨y,hyi⟩:∃x,cur[b+i]?=some x:=Fw;have J:=Kh ho (λe=>by rw[e]at hxi;simp at hxi);refine EI (Z2 _ _ (ws λ_ Z4=>EM (F9 (R:=ED) ED.refl (λ_ _ _=>ED.trans) EA [13,19] [(0,.p,false),(1,.p,false),(2,.p,false),(3,.p,false),(4,.p,false),(5,.p,false),(6,.p,false),(7,.p,false),(8,.p,false),(9,.p,false),(10,.p,false),(11,.p,false),(12,.p,false),(13,.l,false),(14,.p,false),(15,.p,false),(16,.p,false),(17,.p,false),(18,.p,false),(19,.l,false),(20,.p,false),(21,.x,true),(22,.p,false),(23,.x,true)] rfl EA EA (λw2 O=>?_))));have x2:=EL O;clear O;have ho:=ho.ext x2;have r:=r.ext x2
  iterate 3 refine dm ?_
  refine EW (v:=I ↑(a+i)) rfl (Gy rfl rfl (by unfold EU;omega)) rfl (dm (dm (dm ?_)));refine EW (v:=I ↑(b+i)) rfl (Gy rfl rfl (by unfold EU;omega)) rfl (dm (dm (dm ?_)));refine EW (v:=I ↑(b+i)) rfl (Gy rfl rfl (by unfold EU;omega)) rfl (di 79 4 (ho.arr EF).sl rfl ((ho.arr EF).lt hyi) (FW rfl (λw' hR=>Fe EA rfl rfl (((ho.arr EF).ext hR).row hyi)) (dm (dm (dm ?_)))));refine EW (v:=I ↑(a+i)) rfl (Gy rfl rfl (by unfold EU;omega)) rfl (di 79 4 (ho.arr EF).sl rfl ((ho.arr EF).lt hxi) (FW rfl (λw' hR=>Fe EA rfl rfl (((ho.arr EF).ext hR).row hxi)) (EW (v:=EE (base v).1 ((a+i)*4+0)) rfl (HY (i:=(a+i)) (e:=79) (k:=4) EA ho.sl rfl rfl (by omega)) (by rw[J];show EE _ (0+_)=_;rw[A9];rfl) ?_)));refine HJ (enc:=Cell.cs) (sz:=4) (l:=cur) (i:=(a+i)) (j:=0) (x:=y) (vs:=y.cs) EF rfl ho rfl rfl rfl EA (by omega) rfl (Ab 4) (by intro v hv;simp at hv;rcases hv with rfl|rfl|rfl|rfl<;>rfl) (.inl rfl) (λw3 x3 xs3 z=>?_);have r:=r.own x3 (λi hi ha=>hi);have ho:=z;refine EW (v:=EE (base v).1 ((b+i)*4+0)) rfl (HY (i:=(b+i)) (e:=79) (k:=4) EA ho.sl rfl rfl (by rw[AF];omega)) (by rw[J];show EE _ (0+_)=_;rw[A9];rfl) ?_;refine HJ (enc:=Cell.cs) (sz:=4) (l:=(cur.set (a+i) y)) (i:=(b+i)) (j:=0) (x:=x) (vs:=x.cs) EF rfl ho rfl rfl rfl EA (by rw[AF];omega) rfl (Ab 4) (by intro v hv;simp at hv;rcases hv with rfl|rfl|rfl|rfl<;>rfl) (.inl rfl) (λw4 x4 xs4 z=>?_);have r:=r.own x4 (λi hi ha=>hi);have ho:=z;refine de Z4 (wr (dm ?_));refine pa rfl rfl (da (EH (?_)));exact⟨(i+1,_),FN,⟨r,XX Y EB hxi hyi,ho⟩,by simp only [];omega⟩
 refine Fk (HH (Hh rfl ?_));have Z:=Y.len;rw[show i=n by omega]at Y;exact⟨_,rfl,r,rfl,cur,ho,WF Y⟩
theorem Yak (l:List Cell)(v:Value)(Bo f:Nat)(w:World)(ho:Vc.Own Cell.cs 4 79 Bo w v l)(hl:l.length<=10000000)(a m b:Nat)(h1:a<m)(h2:m<b)(h3:b<=l.length) :
  Calls Tryz.prog 306 [v,I ↑a,I ↑m,I ↑b,G8 f].toArray w (Ff (λk=>v.ownBlock=some k) w (λu w'=>u=.tuple #[]/\∃l',Vc.Own Cell.cs 4 79 Bo w' v l'/\l'=Iv l a m b)):=by
 refine cw Tryz.func306 ?_;have z:=Vc.Mod.refl (λk=>v.ownBlock=some k) w;refine ws λ_ Z1=>wr (dm (dm ?_));refine EW (v:=I ↑(m-a)) rfl (Gr rfl rfl (by unfold EU;omega)) (by show I _=I _;congr 1;omega) (da (de Z1 (ws λ_ Z2=>wr (dm (dm ?_)))));refine EW (v:=I ↑(b-m)) rfl (Gr rfl rfl (by unfold EU;omega)) (by show I _=I _;congr 1;omega) (da (de Z2 (ws λ_ Z3=>EM ?_)));refine Fq (G:=Nat×Nat×List Cell) (λ(i,j,cur)=>[(0,v),(2,I ↑m),(4,G8 f),(10,I ↑i),(11,I ↑j)]) (λ(i,j,cur) w'=>Mod (λk=>v.ownBlock=some k) w w'/\0<i/\0<j/\cur.length=l.length/\I4 m i j (Iv l a m b) cur/\Vc.Own Cell.cs 4 79 Bo w' v cur) (λ(i,j,cur)=>i+j) (m-a,b-m,l) ?_ ?_ ?_
 ·exact FN
 ·exact⟨z,by omega,by omega,rfl,OH EB EB h3,ho⟩
 intro X1 g1 w1 hj;obtain⟨i,j,cur⟩:=g1;clear z ho;obtain⟨z,hh,hg,Z,Y,ho⟩:=hj;refine ws λ_ Z4=>ws λ_ Z5=>wr (dm (dm ?_));refine dp (FH rfl rfl) (de Z5 (wi (λc1=>?_) λc1=>?_))
 ·have hb:=Y.len;refine EI (Z4 _ _ (EM (ws λ_ Z6=>wr (dm (dm ?_)))));refine dp (Gg rfl rfl) (de Z6 (wi (λc2=>?_) λc2=>?_))
  ·refine ws λ_ Z7=>wr (dm (dm (dm ?_)));refine EW (v:=I ↑(m-i)) rfl (Gr rfl rfl (by unfold EU;omega)) (by show I _=I _;congr 1;omega) (dm (dm (dm ?_)));refine cD (St cur v Bo f _ ho EB (m-i) m j EB EB) (.inl rfl) λu2 w2 x2 hp=>?_;have hsz2:=z.size;have z:=z.own x2 (λi hi ha=>hi);obtain⟨rfl,r,ho,O⟩:=hp;refine de Z7 (wr (dm (dm ?_)));refine EW (v:=I ↑(i-j)) rfl (Gr rfl rfl (by unfold EU;omega)) (by show I _=I _;congr 1;omega) (da (EH (?_)));have J:=TL Y EB O;exact⟨(i-j,j,r),FN,⟨z,by omega,hg,(J.len.1.trans (Y.len.1.symm.trans Z)),J,ho⟩,by simp only [];omega⟩
  refine ws λ_ Z8=>wr (dm (dm (dm ?_)));refine EW (v:=I ↑(m-i)) rfl (Gr rfl rfl (by unfold EU;omega)) (by show I _=I _;congr 1;omega) (dm (dm ?_));refine EW (v:=I ↑(m+j)) rfl (Gy rfl rfl (by unfold EU;omega)) rfl (dm ?_);refine EW (v:=I ↑(m+j-i)) rfl (Gr rfl rfl (by unfold EU;omega)) (by show I _=I _;congr 1;omega) (dm (dm ?_));refine cD (St cur v Bo f _ ho EB (m-i) (m+j-i) i EB EB) (.inl rfl) λu3 w3 x3 hq=>?_;have hsz3:=z.size;have z:=z.own x3 (λi hi ha=>hi);obtain⟨rfl,r,ho,O⟩:=hq;refine de Z8 (wr (dm (dm ?_)));refine EW (v:=I ↑(j-i)) rfl (Gr rfl rfl (by unfold EU;omega)) (by show I _=I _;congr 1;omega) (da (EH (?_)));have J:=Wp Y EB O;exact⟨(i,j-i,r),FN,⟨z,hh,by omega,(J.len.1.trans (Y.len.1.symm.trans Z)),J,ho⟩,by simp only [];omega⟩
 have hb:=Y.len;have hf:i=j:=by omega
 subst hf;refine Fk (Z3 _ _ (wr (dm (dm (dm ?_)))));refine EW (v:=I ↑(m-i)) rfl (Gr rfl rfl (by unfold EU;omega)) (by show I _=I _;congr 1;omega) (dm (dm (dm ?_)));refine cD (St cur v Bo f _ ho EB (m-i) m i EB EB) (.inl rfl) λu4 w4 x4 hc=>?_;have hsz4:=z.size;have z:=z.own x4 (λi hi ha=>hi);obtain⟨rfl,r,ho,O⟩:=hc;refine EH ((HH (Hh rfl ?_)));exact⟨_,rfl,z,rfl,r,ho,T0 Y O⟩
def SR (v:Value)(Bo f:Nat)(c:Cell->Cell->Int)(N:Nat):Prop:=∀(l:List Cell) (w:World) (a m b:Nat),b-a<N->Vc.Own Cell.cs 4 79 Bo w v l->l.length<=10000000->a<m->m<b->b<=l.length->SM (Fz c) a m b l->Calls Tryz.prog 253 [v,I ↑a,I ↑m,I ↑b,G8 f].toArray w (Ff (λk=>v.ownBlock=some k) w (λu w'=>u=.tuple #[]/\∃l',Vc.Own Cell.cs 4 79 Bo w' v l'/\GA (Fz c) a b l l'))
theorem Yal (l:List Cell)(v:Value)(Bo f:Nat)(c:Cell->Cell->Int)(w:World)(ho:Vc.Own Cell.cs 4 79 Bo w v l)(hl:l.length<=10000000)(hcb:GM Tryz.prog f=true)(hc:∀w2 x y,Calls Tryz.prog f [Cell.v x,Cell.v y].toArray w2 (Pure w2 (I (c x y))))(O:Ord (Fz c))(a m b:Nat)(ham:a<m)(hmb:m<b)(hb:b<=l.length)(hsm:SM (Fz c) a m b l)(ih:SR v Bo f c (b-a)) :
  Calls Tryz.prog 253 [v,I ↑a,I ↑m,I ↑b,G8 f].toArray w (Ff (λk=>v.ownBlock=some k) w (λu w'=>u=.tuple #[]/\∃l',Vc.Own Cell.cs 4 79 Bo w' v l'/\GA (Fz c) a b l l')):=by
 refine cw Tryz.func253 ?_;have z:=Vc.Mod.refl (λk=>v.ownBlock=some k) w;refine ws λ_ Z1=>ws λ_ Z2=>wr (dm (dm ?_));refine ps rfl rfl (dp (GB rfl rfl) (de Z2 (wi (λc1=>?_) λc1=>?_)))
 ·have h8:m=a+1:=by omega
  refine ws λ_ Z3=>wr (dm (da (de Z3 (ws λ_ Z4=>wr (dm (da (de Z4 (ws λ_ Z5=>EM ?_))))))));refine Fq (G:=Nat×Nat) (λ(i,j)=>[(0,v),(1,I ↑a),(2,I ↑m),(3,I ↑b),(4,G8 f),(10,I ↑i),(11,I ↑j)]) (λ(i,j) w'=>Mod (λk=>v.ownBlock=some k) w w'/\m<=i/\i<=j/\j<=b/\(j=b\/∃x y,l[a]?=some x/\l[j]?=some y/\Fz c y x=false)/\(i=m\/∃x y,l[a]?=some x/\l[i-1]?=some y/\Fz c y x=true)/\Vc.Own Cell.cs 4 79 Bo w' v l) (λ(i,j)=>j-i) (m,b) ?_ ?_ ?_
  ·exact Gb
  ·exact⟨z,Ab _,by omega,Ab _,.inl rfl,.inl rfl,ho⟩
  intro X1 g1 w1 zn;obtain⟨i,j⟩:=g1;clear z ho;obtain⟨z,hi,y4,hr,ht,hg,ho⟩:=zn;refine ws λ_ Z6=>ws λ_ Z7=>wr (dm (dm ?_));refine dp (Fb rfl rfl) (de Z7 (wi (λc2=>?_) λc2=>?_))
  ·obtain⟨x,hxa⟩:∃x,l[a]?=some x:=Fw;obtain⟨y,hyh⟩:∃x,l[(i+j) / 2]?=some x:=Fw;refine EI (Z6 _ _ (EM (ws λ_ Z8=>wr (dm (dm ?_)))));refine EW (v:=I ↑(i+j)) rfl (Gy rfl rfl (by unfold EU;omega)) rfl (EW (v:=.int .u64 ↑(i+j)) rfl (KC (n:=i+j) (k:=.i64) EB rfl EA EA) rfl (dp (Mh (u:=i+j) rfl rfl) (dp (Lk (n:=(i+j) / 2) EB rfl EA EA) (da (de Z8 (ws λ_ Z9=>?_))))));refine F9 (R:=ED) ED.refl (λ_ _ _=>ED.trans) EA [4,8] [(0,.p,false),(1,.p,false),(2,.p,false),(3,.p,false),(4,.l,false),(5,.p,false),(6,.p,false),(7,.p,false),(8,.l,false),(9,.x,true),(10,.p,false)] rfl EA EA (λw2 xm=>?_);have x2:=EL xm;clear xm;have ho:=ho.ext x2;have z:=z.ext x2
   iterate 3 refine dm ?_
   refine di 79 4 (ho.arr EF).sl rfl ((ho.arr EF).lt hyh) (FW rfl (λw' hR=>Fe EA rfl rfl (((ho.arr EF).ext hR).row hyh)) (dm (dm ?_)));refine di 79 4 (ho.arr EF).sl rfl ((ho.arr EF).lt hxa) (FW rfl (λw' hR=>Fe EA rfl rfl (((ho.arr EF).ext hR).row hxa)) (KZ (vs:=[y.v,x.v]) rfl rfl hcb (hc _ y x) rfl RX.all (λw3 x3=>?_)));have ho:=ho.ext x3;have z:=z.ext x3;refine dp (Fb rfl rfl) (de Z9 (wi (λc3=>?_) λc3=>?_))
   ·have J:Fz c y x=true:=by simpa [Fz]using c3
    refine wr (dm ?_);refine pa rfl rfl (da (EH (?_)));exact⟨((i+j) / 2+1,j),Gb,⟨z,by omega,by omega,hr,ht,.inr ⟨x,y,hxa,by rw[BS];exact hyh,J⟩,ho⟩,by simp only [];omega⟩
   have J:Fz c y x=false:=by simpa [Fz]using c3
   refine wr (dm (da (EH (?_))));exact⟨(i,(i+j) / 2),Gb,⟨z,hi,by omega,by omega,.inr ⟨x,y,hxa,hyh,J⟩,hg,ho⟩,by simp only [];omega⟩
  refine Fk (Z5 _ _ (ws λ_ zb=>ws λ_ yy=>wr (dm (da (de yy (EM ?_))))));refine Fq (G:=Nat×List Cell) (λ(k,cur)=>[(0,v),(1,I ↑a),(2,I ↑m),(3,I ↑b),(4,G8 f),(10,I ↑i),(13,I ↑k)]) (λ(k,cur) w'=>Mod (λk=>v.ownBlock=some k) w w'/\LR a k l cur/\k<=i-1/\Vc.Own Cell.cs 4 79 Bo w' v cur) (λ(k,cur)=>i-k) (a,l) ?_ ?_ ?_
  ·exact Gb
  ·exact⟨z,XD EB,by omega,ho⟩
  intro X4 g4 w4 za;obtain⟨k,cur⟩:=g4;clear z ho;obtain⟨z,hk,yc,ho⟩:=za;refine ws λ_ y9=>ws λ_ y5=>wr (dm (dm ?_));refine ps rfl rfl (dp (Fb rfl rfl) (de y5 (wi (λc4=>?_) λc4=>?_)))
  ·have xa:=hk.len;obtain⟨x,hxk⟩:∃x,cur[k]?=some x:=Fw;obtain⟨y,hyk⟩:∃x,cur[k+1]?=some x:=Fw;have hz:=Kh ho (λe=>by rw[e]at hxk;simp at hxk);refine EI (y9 _ _ (ws λ_ x1=>EM (F9 (R:=ED) ED.refl (λ_ _ _=>ED.trans) EA [9,13] [(0,.p,false),(1,.p,false),(2,.p,false),(3,.p,false),(4,.p,false),(5,.p,false),(6,.p,false),(7,.p,false),(8,.p,false),(9,.l,false),(10,.p,false),(11,.p,false),(12,.p,false),(13,.l,false),(14,.p,false),(15,.x,true),(16,.p,false),(17,.x,true)] rfl EA EA (λw5 xl=>?_))));have x5:=EL xl;clear xl;have ho:=ho.ext x5;have z:=z.ext x5
   iterate 4 refine dm ?_
   refine EW (v:=I ↑(k+1)) rfl (Gy rfl rfl (by unfold EU;omega)) rfl (dm (dm ?_));refine EW (v:=I ↑(k+1)) rfl (Gy rfl rfl (by unfold EU;omega)) rfl (di 79 4 (ho.arr EF).sl rfl ((ho.arr EF).lt hyk) (FW rfl (λw' hR=>Fe EA rfl rfl (((ho.arr EF).ext hR).row hyk)) (dm (dm ?_))));refine di 79 4 (ho.arr EF).sl rfl ((ho.arr EF).lt hxk) (FW rfl (λw' hR=>Fe EA rfl rfl (((ho.arr EF).ext hR).row hxk)) (EW (v:=EE (base v).1 (k*4+0)) rfl (HY (i:=k) (e:=79) (k:=4) EA ho.sl rfl rfl (by omega)) (by rw[hz];show EE _ (0+_)=_;rw[A9];rfl) ?_));refine HJ (enc:=Cell.cs) (sz:=4) (l:=cur) (i:=k) (j:=0) (x:=y) (vs:=y.cs) EF rfl ho rfl rfl rfl EA (by omega) rfl (Ab 4) (by intro v hv;simp at hv;rcases hv with rfl|rfl|rfl|rfl<;>rfl) (.inl rfl) (λw6 x6 xs6 hf=>?_);have z:=z.own x6 (λi hi J=>hi);have ho:=hf;refine EW (v:=EE (base v).1 ((k+1)*4+0)) rfl (HY (i:=(k+1)) (e:=79) (k:=4) EA ho.sl rfl rfl (by rw[AF];omega)) (by rw[hz];show EE _ (0+_)=_;rw[A9];rfl) ?_;refine HJ (enc:=Cell.cs) (sz:=4) (l:=(cur.set k y)) (i:=(k+1)) (j:=0) (x:=x) (vs:=x.cs) EF rfl ho rfl rfl rfl EA (by rw[AF];omega) rfl (Ab 4) (by intro v hv;simp at hv;rcases hv with rfl|rfl|rfl|rfl<;>rfl) (.inl rfl) (λw7 x7 xs7 hf=>?_);have z:=z.own x7 (λi hi J=>hi);have ho:=hf;refine de x1 (wr (dm ?_));refine pa rfl rfl (da (EH (?_)));exact⟨(k+1,_),Gb,⟨z,Xh hk hxk hyk,by omega,ho⟩,by simp only [];omega⟩
  refine Fk (zb _ _ (EJ (Hh rfl ?_)));have xa:=hk.len;have:k=i-1:=by omega
  subst this;have hq:i=j:=by omega
  subst hq;exact⟨_,rfl,z,rfl,cur,ho,U5 O hsm h8 hi hr hk ht hg⟩
 refine EI (Z1 _ _ (ws λ_ xw=>ws λ_ y8=>wr (dm (dm ?_))));refine ps rfl rfl (dp (GB rfl rfl) (de y8 (wi (λc5=>?_) λc5=>?_)))
 ·have h8:b=m+1:=by omega
  refine ws λ_ zj=>wr (dm (da (de zj (ws λ_ yd=>wr (dm (da (de yd (ws λ_ ym=>EM ?_))))))));refine Fq (G:=Nat×Nat) (λ(i,j)=>[(0,v),(1,I ↑a),(2,I ↑m),(3,I ↑b),(4,G8 f),(14,I ↑i),(15,I ↑j)]) (λ(i,j) w'=>Mod (λk=>v.ownBlock=some k) w w'/\a<=i/\i<=j/\j<=m/\(j=m\/∃x y,l[m]?=some x/\l[j]?=some y/\Fz c x y=true)/\(i=a\/∃x y,l[m]?=some x/\l[i-1]?=some y/\Fz c x y=false)/\Vc.Own Cell.cs 4 79 Bo w' v l) (λ(i,j)=>j-i) (a,m) ?_ ?_ ?_
  ·exact Gb
  ·exact⟨z,Ab _,by omega,Ab _,.inl rfl,.inl rfl,ho⟩
  intro X8 g8 w8 xv;obtain⟨i,j⟩:=g8;clear z ho;obtain⟨z,hi,y4,hr,ht,hg,ho⟩:=xv;refine ws λ_ zd=>ws λ_ ze=>wr (dm (dm ?_));refine dp (Fb rfl rfl) (de ze (wi (λc6=>?_) λc6=>?_))
  ·obtain⟨x,hxm⟩:∃x,l[m]?=some x:=Fw;obtain⟨y,hyh⟩:∃x,l[(i+j) / 2]?=some x:=Fw;refine EI (zd _ _ (EM (ws λ_ zc=>wr (dm (dm ?_)))));refine EW (v:=I ↑(i+j)) rfl (Gy rfl rfl (by unfold EU;omega)) rfl (EW (v:=.int .u64 ↑(i+j)) rfl (KC (n:=i+j) (k:=.i64) EB rfl EA EA) rfl (dp (Mh (u:=i+j) rfl rfl) (dp (Lk (n:=(i+j) / 2) EB rfl EA EA) (da (de zc (ws λ_ zh=>?_))))));refine F9 (R:=ED) ED.refl (λ_ _ _=>ED.trans) EA [4,8] [(0,.p,false),(1,.p,false),(2,.p,false),(3,.p,false),(4,.l,false),(5,.p,false),(6,.p,false),(7,.p,false),(8,.l,false),(9,.x,true),(10,.p,false),(11,.p,false)] rfl EA EA (λw9 xk=>?_);have x9:=EL xk;clear xk;have ho:=ho.ext x9;have z:=z.ext x9
   iterate 3 refine dm ?_
   refine di 79 4 (ho.arr EF).sl rfl ((ho.arr EF).lt hxm) (FW rfl (λw' hR=>Fe EA rfl rfl (((ho.arr EF).ext hR).row hxm)) (dm (dm ?_)));refine di 79 4 (ho.arr EF).sl rfl ((ho.arr EF).lt hyh) (FW rfl (λw' hR=>Fe EA rfl rfl (((ho.arr EF).ext hR).row hyh)) (KZ (vs:=[x.v,y.v]) rfl rfl hcb (hc _ x y) rfl RX.all (λw10 xh=>?_)));have ho:=ho.ext xh;have z:=z.ext xh;refine dp (Fb rfl rfl) (dn (de zh ?_));refine wc (λc7=>?_) λc7=>?_
   ·have J:Fz c x y=false:=by simpa [Fz]using c7
    refine wr (dm ?_);refine pa rfl rfl (da (EH (?_)));exact⟨((i+j) / 2+1,j),Gb,⟨z,by omega,by omega,hr,ht,.inr ⟨x,y,hxm,by rw[BS];exact hyh,J⟩,ho⟩,by simp only [];omega⟩
   have J:Fz c x y=true:=by simpa [Fz]using c7
   refine wr (dm (da (EH (?_))));exact⟨(i,(i+j) / 2),Gb,⟨z,hi,by omega,by omega,.inr ⟨x,y,hxm,hyh,J⟩,hg,ho⟩,by simp only [];omega⟩
  refine Fk (ym _ _ (ws λ_ x0=>ws λ_ zo=>wr (dm (da (de zo (EM ?_))))));refine Fq (G:=Nat×List Cell) (λ(k,cur)=>[(0,v),(1,I ↑a),(2,I ↑m),(3,I ↑b),(4,G8 f),(14,I ↑i),(17,I ↑k)]) (λ(k,cur) w'=>Mod (λk=>v.ownBlock=some k) w w'/\LU m k l cur/\i<=k/\Vc.Own Cell.cs 4 79 Bo w' v cur) (λ(k,cur)=>k) (m,l) ?_ ?_ ?_
  ·exact Gb
  ·exact⟨z,Tj EB,by omega,ho⟩
  intro X11 yx w11 xi;obtain⟨k,cur⟩:=yx;clear z ho;obtain⟨z,hk,yc,ho⟩:=xi;refine ws λ_ yp=>ws λ_ zg=>wr (dm (dm ?_));refine dp (Gg rfl rfl) (de zg (wi (λc8=>?_) λc8=>?_))
  ·have xa:=hk.len;obtain⟨x,hxk⟩:∃x,cur[k]?=some x:=Fw;obtain⟨y,hyk⟩:∃x,cur[k-1]?=some x:=Fw;have hz:=Kh ho (λe=>by rw[e]at hxk;simp at hxk);refine EI (yp _ _ (ws λ_ yi=>EM (F9 (R:=ED) ED.refl (λ_ _ _=>ED.trans) EA [9,13] [(0,.p,false),(1,.p,false),(2,.p,false),(3,.p,false),(4,.p,false),(5,.p,false),(6,.p,false),(7,.p,false),(8,.p,false),(9,.l,false),(10,.p,false),(11,.p,false),(12,.p,false),(13,.l,false),(14,.p,false),(15,.x,true),(16,.p,false),(17,.x,true)] rfl EA EA (λw12 h6=>?_))));have xe:=EL h6;clear h6;have ho:=ho.ext xe;have z:=z.ext xe
   iterate 4 refine dm ?_
   refine EW (v:=I ↑(k-1)) rfl (Gr rfl rfl (by unfold EU;omega)) (by show I _=I _;congr 1;omega) (dm (dm ?_));refine EW (v:=I ↑(k-1)) rfl (Gr rfl rfl (by unfold EU;omega)) (by show I _=I _;congr 1;omega) (di 79 4 (ho.arr EF).sl rfl ((ho.arr EF).lt hyk) (FW rfl (λw' hR=>Fe EA rfl rfl (((ho.arr EF).ext hR).row hyk)) (dm (dm ?_))));refine di 79 4 (ho.arr EF).sl rfl ((ho.arr EF).lt hxk) (FW rfl (λw' hR=>Fe EA rfl rfl (((ho.arr EF).ext hR).row hxk)) (EW (v:=EE (base v).1 (k*4+0)) rfl (HY (i:=k) (e:=79) (k:=4) EA ho.sl rfl rfl (by omega)) (by rw[hz];show EE _ (0+_)=_;rw[A9];rfl) ?_));refine HJ (enc:=Cell.cs) (sz:=4) (l:=cur) (i:=k) (j:=0) (x:=y) (vs:=y.cs) EF rfl ho rfl rfl rfl EA (by omega) rfl (Ab 4) (by intro v hv;simp at hv;rcases hv with rfl|rfl|rfl|rfl<;>rfl) (.inl rfl) (λw13 x8 xs13 hf=>?_);have z:=z.own x8 (λi hi J=>hi);have ho:=hf;refine EW (v:=EE (base v).1 ((k-1)*4+0)) rfl (HY (i:=(k-1)) (e:=79) (k:=4) EA ho.sl rfl rfl (by rw[AF];omega)) (by rw[hz];show EE _ (0+_)=_;rw[A9];rfl) ?_;refine HJ (enc:=Cell.cs) (sz:=4) (l:=(cur.set k y)) (i:=(k-1)) (j:=0) (x:=x) (vs:=x.cs) EF rfl ho rfl rfl rfl EA (by rw[AF];omega) rfl (Ab 4) (by intro v hv;simp at hv;rcases hv with rfl|rfl|rfl|rfl<;>rfl) (.inl rfl) (λw14 yo xs14 hf=>?_);have z:=z.own yo (λi hi J=>hi);have ho:=hf;refine de yi (wr (dm ?_));refine EW (v:=I ↑(k-1)) rfl (Gr rfl rfl (by unfold EU;omega)) (by show I _=I _;congr 1;omega) (da (EH (?_)));exact⟨(k-1,_),Gb,⟨z,UR hk EB hxk hyk,by omega,ho⟩,by simp only [];omega⟩
  refine Fk (x0 _ _ (EJ (Hh rfl ?_)));have xa:=hk.len;have:k=i:=by omega
  subst this;have hq:k=j:=by omega
  subst hq;exact⟨_,rfl,z,rfl,cur,ho,VU O hsm h8 hi hr hk ht hg⟩
 have ham2:a+2<=m:=by omega
 have hmb2:m+2<=b:=by omega
 refine EI (xw _ _ (ws λ_ ya=>wr (dm (dm ?_))));refine EW (v:=I ↑(a+b)) rfl (Gy rfl rfl (by unfold EU;omega)) rfl (EW (v:=.int .u64 ↑(a+b)) rfl (KC (n:=a+b) (k:=.i64) EB rfl EA EA) rfl (dp (Mh (u:=a+b) rfl rfl) (dp (Lk (n:=(a+b) / 2) EB rfl EA EA) (da (de ya (ws λ_ yn=>wr (dm (dm ?_))))))));refine EW (v:=I ↑((a+b) / 2+m)) rfl (Gy rfl rfl (by unfold EU;omega)) rfl (da (de yn (ws λ_ yj=>wr (da (da (de yj ?_))))));refine Hz (G:=Nat×Nat) (λ(s0,r0)=>[(0,v),(1,I ↑a),(2,I ↑m),(3,I ↑b),(4,G8 f),(18,I ↑((a+b) / 2)),(19,I ↑((a+b) / 2+m)),(20,I ↑s0),(21,I ↑r0)]) (λ(s0,r0) w'=>Mod (λk=>v.ownBlock=some k) w w'/\a<=s0/\s0<=r0/\r0<=m/\(s0=a\/(a+b) / 2+m-s0=b)/\(r0=m\/(a+b) / 2+m-r0=m)/\(a+b) / 2+m-s0<=b/\m<=(a+b) / 2+m-r0/\Vc.Own Cell.cs 4 79 Bo w' v l) ?_ ?_
 ·refine ws λ_ xz=>wr (dm (dm ?_));refine dp (Gg rfl rfl) (de xz (wi (λc9=>?_) λc9=>?_))
  ·have yk:(a+b) / 2<m:=by omega
   refine ws λ_ yw=>wr (dm (dm ?_));refine EW (v:=I ↑((a+b) / 2+m-b)) rfl (Gr rfl rfl (by unfold EU;omega)) (by show I _=I _;congr 1;omega) (da (de yw (wr (dm (da (EH (?_)))))));exact⟨((a+b) / 2+m-b,(a+b) / 2),Ji,z,by omega,by omega,by omega,.inr EB,.inr EB,by omega,by omega,ho⟩
  have yk:m<=(a+b) / 2:=by omega
  refine ws λ_ yr=>wr (dm (da (de yr (wr (dm (da (EH (?_))))))));exact⟨(a,m),Ji,z,by omega,by omega,by omega,.inl rfl,.inl rfl,by omega,by omega,ho⟩
 intro X15 ye w15 xn;obtain⟨s0,r0⟩:=ye;clear z ho;obtain⟨z,q0,q1,q2,q3,q4,q5,q6,ho⟩:=xn;refine ws λ_ yv=>wr (dm ?_);refine EW (v:=I ↑((a+b) / 2+m-1)) rfl (Gr rfl rfl (by unfold EU;omega)) (by show I _=I _;congr 1;omega) (da (de yv (ws λ_ xx=>EM ?_)));refine Fq (G:=Nat×Nat) (λ(s,r)=>[(0,v),(1,I ↑a),(2,I ↑m),(3,I ↑b),(4,G8 f),(18,I ↑((a+b) / 2)),(19,I ↑((a+b) / 2+m)),(20,I ↑s),(21,I ↑r),(22,I ↑((a+b) / 2+m-1))]) (λ(s,r) w'=>Mod (λk=>v.ownBlock=some k) w w'/\s0<=s/\s<=r/\r<=r0/\(s=s0\/∃x y,l[s-1]?=some x/\l[(a+b) / 2+m-s]?=some y/\Fz c y x=false)/\(r=r0\/∃x y,l[r]?=some x/\l[(a+b) / 2+m-1-r]?=some y/\Fz c y x=true)/\Vc.Own Cell.cs 4 79 Bo w' v l) (λ(s,r)=>r-s) (s0,r0) ?_ ?_ ?_
 ·exact Ig
 ·exact⟨z,Ab _,q1,Ab _,.inl rfl,.inl rfl,ho⟩
 intro X16 yh w16 xg;obtain⟨s,r⟩:=yh;clear z ho;obtain⟨z,y2,hsr1,y0,hg,xc,ho⟩:=xg;refine ws λ_ y7=>ws λ_ x4=>wr (dm (dm ?_));refine dp (Fb rfl rfl) (de x4 (wi (λyt=>?_) λyt=>?_))
 ·obtain⟨y,hyh⟩:∃x,l[(a+b) / 2+m-1-(s+r) / 2]?=some x:=Fw;obtain⟨x,hxc⟩:∃x,l[(s+r) / 2]?=some x:=Fw;refine EI (y7 _ _ (EM (ws λ_ yl=>wr (dm (dm ?_)))));refine EW (v:=I ↑(s+r)) rfl (Gy rfl rfl (by unfold EU;omega)) rfl (EW (v:=.int .u64 ↑(s+r)) rfl (KC (n:=s+r) (k:=.i64) EB rfl EA EA) rfl (dp (Mh (u:=s+r) rfl rfl) (dp (Lk (n:=(s+r) / 2) EB rfl EA EA) (da (de yl (ws λ_ zi=>?_))))));refine F9 (R:=ED) ED.refl (λ_ _ _=>ED.trans) EA [6,10] [(0,.p,false),(1,.p,false),(2,.p,false),(3,.p,false),(4,.p,false),(5,.p,false),(6,.l,false),(7,.p,false),(8,.p,false),(9,.p,false),(10,.l,false),(11,.x,true),(12,.p,false),(13,.p,false)] rfl EA EA (λw17 h5=>?_);have xp:=EL h5;clear h5;have ho:=ho.ext xp;have z:=z.ext xp
  iterate 4 refine dm ?_
  refine EW (v:=I ↑((a+b) / 2+m-1-(s+r) / 2)) rfl (Gr rfl rfl (by unfold EU;omega)) (by show I _=I _;congr 1;omega) (di 79 4 (ho.arr EF).sl rfl ((ho.arr EF).lt hyh) (FW rfl (λw' hR=>Fe EA rfl rfl (((ho.arr EF).ext hR).row hyh)) (dm (dm ?_))));refine di 79 4 (ho.arr EF).sl rfl ((ho.arr EF).lt hxc) (FW rfl (λw' hR=>Fe EA rfl rfl (((ho.arr EF).ext hR).row hxc)) (KZ (vs:=[y.v,x.v]) rfl rfl hcb (hc _ y x) rfl RX.all (λw18 xb=>?_)));have ho:=ho.ext xb;have z:=z.ext xb;refine dp (Fb rfl rfl) (dn (de zi ?_));refine wc (λh7=>?_) λh7=>?_
  ·have J:Fz c y x=false:=by simpa [Fz]using h7
   refine wr (dm ?_);refine pa rfl rfl (da (EH (?_)));exact⟨((s+r) / 2+1,r),Ig,⟨z,by omega,by omega,y0,.inr ⟨x,y,by rw[BS];exact hxc,by rw[<-hyh];congr 1;omega,J⟩,xc,ho⟩,by simp only [];omega⟩
  have J:Fz c y x=true:=by simpa [Fz]using h7
  refine wr (dm (da (EH (?_))));exact⟨(s,(s+r) / 2),Ig,⟨z,y2,by omega,by omega,hg,.inr ⟨x,y,hxc,hyh,J⟩,ho⟩,by simp only [];omega⟩
 have yg:s=r:=by omega
 subst yg;have h9:∀l2,((s<m/\m<(a+b) / 2+m-s->l2=Iv l s m ((a+b) / 2+m-s))/\(¬ (s<m/\m<(a+b) / 2+m-s)->l2=l))->KX (Fz c) a m b s ((a+b) / 2+m-s) l l2:=λl2 h2=>T7 O hsm EB EB EB EB (by
  rcases hg with e|e
  ·rcases q3 with e3|e3
   ·exact .inl EB
   ·exact .inr (.inl (by rw[e];exact e3))
  ·exact .inr (.inr e)) (by
  rcases xc with e|e
  ·rcases q4 with e4|e4
   ·exact .inl EB
   ·exact .inr (.inl (by rw[e];exact e4))
  ·obtain⟨x,y,e1,e2,e3⟩:=e;exact .inr (.inr ⟨x,y,e1,by rw[<-e2];congr 1;omega,e3⟩)) h2
 have Z:s+((a+b) / 2+m-s)=(a+b) / 2+m:=by omega
 refine Fk (xx _ _ (ws λ_ y1=>wr (dm (dm ?_))));refine EW (v:=I ↑((a+b) / 2+m-s)) rfl (Gr rfl rfl (by unfold EU;omega)) (by show I _=I _;congr 1;omega) (da (de y1 ?_));refine Hz (G:=List Cell) (λl2=>[(0,v),(1,I ↑a),(3,I ↑b),(4,G8 f),(18,I ↑((a+b) / 2)),(20,I ↑s),(24,I ↑((a+b) / 2+m-s))]) (λl2 w'=>Mod (λk=>v.ownBlock=some k) w w'/\KX (Fz c) a m b s ((a+b) / 2+m-s) l l2/\l2.length=l.length/\Vc.Own Cell.cs 4 79 Bo w' v l2) ?_ ?_
 ·refine ws λ_ xj=>wr (dm (dm ?_));refine dp (Fb rfl rfl) (dm ?_);refine F4 181 rfl (λzf=>?_) (λzf=>?_)
  ·iterate 2 refine dm ?_
   refine dp (Fb rfl rfl) (EP (de xj ?_));refine wi (λyz=>?_) λyz=>?_
   ·refine wr (dm (dm (dm (dm (dm ?_)))));refine cD (Yak l v Bo f _ ho hl s m ((a+b) / 2+m-s) EB EB EB) (.inl rfl) λu19 w19 yf xq=>?_;have hsz19:=z.size;have z:=z.own yf (λi hi J=>hi);obtain⟨rfl,hh,ho,xf⟩:=xq;have Y:=h9 hh ⟨λ_=>xf,λh=>absurd ⟨by omega,by omega⟩ h⟩;have hj:hh.length=l.length:=by rw[xf];have:=(OH (l:=l) (a:=s) (m:=m) (b:=(a+b) / 2+m-s) EB EB EB).len.1;omega
    refine EH (?_);exact⟨_,Gb,z,Y,hj,ho⟩
   have Y:=h9 l ⟨λh=>absurd h.2 EB,λ_=>rfl⟩;have hj:l.length=l.length:=rfl;refine EI ?_;exact⟨_,Gb,z,Y,hj,ho⟩
  have Y:=h9 l ⟨λh=>absurd h.1 EB,λ_=>rfl⟩;have hj:l.length=l.length:=rfl;refine dk (dk (dk (EP (de xj ?_))));refine Hf rfl (EI ?_);exact⟨_,Gb,z,Y,hj,ho⟩
 intro X20 yb w20 hy;revert hy;revert yb;intro l2 hy;clear z ho;obtain⟨z,Y,hj,ho⟩:=hy;refine Hz (G:=List Cell) (λl3=>[(0,v),(3,I ↑b),(4,G8 f),(18,I ↑((a+b) / 2)),(24,I ↑((a+b) / 2+m-s))]) (λl3 w'=>Mod (λk=>v.ownBlock=some k) w w'/\GA (Fz c) a ((a+b) / 2) l2 l3/\Vc.Own Cell.cs 4 79 Bo w' v l3) ?_ ?_
 ·refine ws λ_ xr=>wr (dm (dm ?_));refine dp (Fb rfl rfl) (dm ?_);refine F4 195 rfl (λyu=>?_) (λyu=>?_)
  ·iterate 2 refine dm ?_
   refine dp (Fb rfl rfl) (EP (de xr ?_));refine wi (λy3=>?_) λy3=>?_
   ·refine wr (dm (dm (dm (dm (dm ?_)))));refine cD (ih l2 _ a s ((a+b) / 2) EB ho EB EB EB EB (Xi Y Z)) (.inl rfl) λu21 w21 y6 xo=>?_;have hsz21:=z.size;have z:=z.own y6 (λi hi J=>hi);obtain⟨rfl,hh,ho,ha⟩:=xo;refine EH (?_);exact⟨_,FN,z,ha,ho⟩
   have ha:=OT Y Z (λh=>absurd h.2 EB);refine EI ?_;exact⟨_,FN,z,ha,ho⟩
  have ha:=OT Y Z (λh=>absurd h.1 EB);refine dk (dk (dk (EP (de xr ?_))));refine Hf rfl (EI ?_);exact⟨_,FN,z,ha,ho⟩
 intro X22 zl w22 hw;revert hw;revert zl;intro l3 hw;clear z ho;obtain⟨z,ha,ho⟩:=hw;refine ws λ_ xu=>wr (dm (dm ?_));refine dp (Fb rfl rfl) (dm ?_);refine F4 209 rfl (λyq=>?_) (λyq=>?_)
 ·iterate 2 refine dm ?_
  refine dp (Fb rfl rfl) (EP (de xu ?_));refine wi (λzk=>?_) λzk=>?_
  ·refine wr (dm (dm (dm (dm (dm ?_)))));refine cD (ih l3 _ ((a+b) / 2) ((a+b) / 2+m-s) b EB ho (by have:=ha.len.1;omega) EB EB (by have:=ha.len.1;omega) (Xa Y Z ha)) (.inl rfl) λu23 w23 xy xd=>?_;have hsz23:=z.size;have z:=z.own xy (λi hi J=>hi);obtain⟨rfl,hh,ho,zm⟩:=xd;have hp:=Nc Y Z ha zm;refine EH ((HH (Hh rfl ?_)));exact⟨_,rfl,z,rfl,_,ho,hp⟩
  have hp:=Nc Y Z ha (PZ Y Z ha (λh=>absurd h.2 EB));refine EI (HH (Hh rfl ?_));exact⟨_,rfl,z,rfl,_,ho,hp⟩
 have hp:=Nc Y Z ha (PZ Y Z ha (λh=>absurd h.1 EB));refine dk (dk (dk (EP (de xu ?_))));refine Hf rfl (EI (HH (Hh rfl ?_)));exact⟨_,rfl,z,rfl,_,ho,hp⟩
theorem Qy (v:Value)(Bo f:Nat)(c:Cell->Cell->Int)(hcb:GM Tryz.prog f=true)(hc:∀r x y,Calls Tryz.prog f [Cell.v x,Cell.v y].toArray r (Pure r (I (c x y))))(O:Ord (Fz c)):∀N,SR v Bo f c N
 | 0=>λ_ _ _ _ _ h=>absurd h (B6 _)
 | N+1=>λl w a m b hN ho hl J Y Z z=>Yal l v Bo f c w ho hl hcb hc O a m b J Y Z z (λl2 r a2 m2 b2 hN2=>Qy v Bo f c hcb hc O N l2 r a2 m2 b2 EB)
theorem Yam (l:List Cell)(v:Value)(Bo f:Nat)(c:Cell->Cell->Int)(w:World)(ho:Vc.Own Cell.cs 4 79 Bo w v l)(hl:l.length<=10000000)(hcb:GM Tryz.prog f=true)(hc:∀w2 x y,Calls Tryz.prog f [Cell.v x,Cell.v y].toArray w2 (Pure w2 (I (c x y))))(O:Ord (Fz c)) :
  Calls Tryz.prog 180 [v,I ↑l.length,G8 f].toArray w (Ff (λk=>v.ownBlock=some k) w (λu w'=>u=.tuple #[]/\∃l',Vc.Own Cell.cs 4 79 Bo w' v l'/\l'.Perm l/\Up (Fz c) l')):=by
 refine cw Tryz.func180 ?_;have z:=Vc.Mod.refl (λk=>v.ownBlock=some k) w;refine ws λ_ Z1=>wr (da (de Z1 (ws λ_ Z2=>wr (dm (da (da (de Z2 (ws λ_ Z3=>EM ?_))))))));refine Fq (G:=Nat×List Cell) (λ(j,cur)=>[(0,v),(1,I ↑l.length),(2,G8 f),(6,I 20),(7,I ↑(j*20)),(8,I ↑(j*20+20))]) (λ(j,cur) w'=>Mod (λk=>v.ownBlock=some k) w w'/\j*20<=l.length/\I2 (Fz c) 20 j cur/\cur.Perm l/\Vc.Own Cell.cs 4 79 Bo w' v cur) (λ(j,cur)=>l.length-j*20) (0,l) ?_ ?_ ?_
 ·exact G2
 ·exact⟨z,Ae _,λk hk=>absurd hk (B6 k),.refl _,ho⟩
 intro X1 g1 w1 xf;obtain⟨j,cur⟩:=g1;clear z ho;obtain⟨z,hj,hI,hp,ho⟩:=xf;refine ws λ_ Z4=>ws λ_ Z5=>wr (dm (dm ?_));refine dp (IG rfl rfl) (de Z5 (wi (λc1=>?_) λc1=>?_))
 ·have hf:=hp.length_eq;refine EI (Z4 _ _ (EM (ws λ_ Z6=>wr (dm (dm (dm (dm ?_)))))));refine cD (Tt cur v Bo f c _ ho EB hcb hc O (j*20) (j*20+20) EB EB) (.inl rfl) λu2 w2 x2 h8=>?_;have hsz2:=z.size;have z:=z.own x2 (λi hi hh=>hi);obtain⟨rfl,Z,ho,J⟩:=h8;refine de Z6 (ws λ_ Z7=>wr (EW (v:=I ↑((j+1)*20)) rfl (MB rfl) (by show I _=I _;congr 1;omega) (da (de Z7 (wr (dm (dm ?_)))))));refine EW (v:=I ↑((j+1)*20+20)) rfl (Gy rfl rfl (by unfold EU;omega)) (by show I _=I _;congr 1;omega) (da (EH (?_)));exact⟨(j+1,_),G2,⟨z,by omega,U3 hI (by rw[AZ];exact J),J.perm.trans hp,ho⟩,by simp only [];omega⟩
 have hf:=hp.length_eq;refine Fk (Z3 _ _ (ws λ_ Z8=>wr (dm (dm (dm (dm ?_))))));refine cD (Tt cur v Bo f c _ ho EB hcb hc O (j*20) l.length EB EB) (.inl rfl) λu3 w3 x3 xh=>?_;have hsz3:=z.size;have z:=z.own x3 (λi hi hh=>hi);obtain⟨rfl,Z,ho,J⟩:=xh;refine de Z8 (EM ?_);refine Fq (G:=Nat×List Cell) (λ(s,cur)=>[(0,v),(1,I ↑l.length),(2,G8 f),(6,I ↑s)]) (λ(s,cur) w'=>Mod (λk=>v.ownBlock=some k) w w'/\20<=s/\s<=40+2*l.length/\M2 (Fz c) s 0 cur/\cur.Perm l/\Vc.Own Cell.cs 4 79 Bo w' v cur) (λ(s,cur)=>l.length-s) (20,Z) ?_ ?_ ?_
 ·exact Gc
 ·exact⟨z,Ab _,by omega,UO hI EB EB (by rw[hf];exact J),J.perm.trans hp,ho⟩
 intro X4 g4 w4 h7;obtain⟨s,cur⟩:=g4;clear z ho;obtain⟨z,hs,hs2,hM,hp,ho⟩:=h7;refine ws λ_ Z9=>ws λ_ xa=>wr (dm (dm ?_));refine dp (Fb rfl rfl) (de xa (wi (λc2=>?_) λc2=>?_))
 ·have hf:=hp.length_eq;refine EI (Z9 _ _ (EM (ws λ_ xg=>wr (dm ?_))));refine EW (v:=I ↑(0+2*s)) rfl (Ku rfl rfl (by unfold EU;omega)) (by show I _=I _;congr 1;omega) (da (da (de xg (ws λ_ h6=>EM ?_))));refine Fq (G:=Nat×Nat×List Cell) (λ(j,q,r)=>[(0,v),(1,I ↑l.length),(2,G8 f),(6,I ↑s),(7,I ↑q),(8,I ↑(q+2*s))]) (λ(j,q,r) w'=>Mod (λk=>v.ownBlock=some k) w w'/\q=j*(2*s)/\q<=l.length/\M2 (Fz c) s j r/\r.Perm l/\Vc.Own Cell.cs 4 79 Bo w' v r) (λ(j,q,r)=>l.length-q) (0,0,cur) ?_ ?_ ?_
  ·exact G2
  ·exact⟨z,by omega,Ae _,hM,hp,ho⟩
  intro X5 g5 w5 xc;obtain⟨j,q,r⟩:=g5;clear z ho;obtain⟨z,hq,hql,hb,hg,ho⟩:=xc;refine ws λ_ hy=>ws λ_ hw=>wr (dm (dm ?_));refine dp (IG rfl rfl) (de hw (wi (λc3=>?_) λc3=>?_))
  ·have ha:=hg.length_eq;have Y:(j+1)*(2*s)=q+2*s:=by rw[hq];exact AZ _ _
   refine EI (hy _ _ (EM (ws λ_ ht=>wr (dm (dm (dm (dm ?_)))))));refine EW (v:=I ↑(q+s)) rfl (Gy rfl rfl (by unfold EU;omega)) rfl (dm (dm ?_));refine cD (Qy v Bo f c hcb hc O ((q+2*s)-q+1) r _ q (q+s) (q+2*s) EB ho EB EB EB EB (by have h9:=Xx hb (by rw[Y];omega);rw[Y,<-hq]at h9;exact h9)) (.inl rfl) λu6 w6 x6 xd=>?_;have hsz6:=z.size;have z:=z.own x6 (λi hi hh=>hi);obtain⟨rfl,Z,ho,J⟩:=xd;refine de ht (ws λ_ h5=>wr (EW (v:=I ↑(q+2*s)) rfl (MB rfl) (by show I _=I _;rfl) (da (de h5 (wr (dm (dm ?_)))))));refine EW (v:=I ↑(2*s)) rfl (Ku rfl rfl (by unfold EU;omega)) (by show I _=I _;rfl) (EW (v:=I ↑(q+2*s+2*s)) rfl (Gy rfl rfl (by unfold EU;omega)) rfl (da (EH (?_))));exact⟨(j+1,q+2*s,_),G2,⟨z,Y.symm,by omega,VO hb (by rw[Y,<-hq];exact J),J.perm.trans hg,ho⟩,by simp only [];omega⟩
  have ha:=hg.length_eq;have Y:(j+1)*(2*s)=q+2*s:=by rw[hq];exact AZ _ _
  refine Fk (h6 _ _ (ws λ_ hr=>ws λ_ xb=>wr (dm (dm ?_))));refine EW (v:=I ↑(q+s)) rfl (Gy rfl rfl (by unfold EU;omega)) rfl (da (de xb (ws λ_ xe=>wr (dm (dm ?_)))));refine dp (Fb rfl rfl) (de xe (wi (λc4=>?_) λc4=>?_))
  ·refine wr (dm (dm (dm (dm (dm ?_)))));refine cD (Qy v Bo f c hcb hc O (l.length-q+1) r _ q (q+s) l.length EB ho EB EB EB EB (by have h9:=VI hb (by rw[Y];omega) (by rw[<-hq];omega);rw[<-hq,ha]at h9;exact h9)) (.inl rfl) λu7 w7 x7 hz=>?_;have hsz7:=z.size;have z:=z.own x7 (λi hi hh=>hi);obtain⟨rfl,Z,ho,J⟩:=hz;refine de hr (wr (dm ?_));refine EW (v:=I ↑(2*s)) rfl (Ku rfl rfl (by unfold EU;omega)) (by show I _=I _;congr 1;omega) (da (EH (?_)));exact⟨(2*s,_),Gc,⟨z,by omega,by omega,PS hb (by rw[Y];omega) (by rw[<-hq];omega) ⟨λ_=>by rw[<-hq,ha];exact J,λh=>absurd h (by rw[<-hq];omega)⟩,J.perm.trans hg,ho⟩,by simp only [];omega⟩
  refine EI (hr _ _ (wr (dm ?_)));refine EW (v:=I ↑(2*s)) rfl (Ku rfl rfl (by unfold EU;omega)) (by show I _=I _;congr 1;omega) (da (EH (?_)));exact⟨(2*s,_),Gc,⟨z,by omega,by omega,PS hb (by rw[Y];omega) (by rw[<-hq];omega) ⟨λh=>absurd h (by rw[<-hq];omega),λ_=>rfl⟩,hg,ho⟩,by simp only [];omega⟩
 have hf:=hp.length_eq;refine Fk (HH (Hh rfl ?_));have hf:=hp.length_eq;exact⟨_,rfl,z,rfl,cur,ho,hp,TZ hM EB⟩
theorem Yan (l:List Cell)(v:Value)(Bo f:Nat)(c:Cell->Cell->Int)(w:World)(ho:Vc.Own Cell.cs 4 79 Bo w v l)(hl:l.length<=10000000)(hcb:GM Tryz.prog f=true)(hc:∀w2 x y,Calls Tryz.prog f [Cell.v x,Cell.v y].toArray w2 (Pure w2 (I (c x y))))(O:Ord (Fz c)) :
  Calls Tryz.prog 97 [v,G8 f].toArray w (Ff (λk=>v.ownBlock=some k) w (λu w'=>u=.tuple #[]/\∃l',Vc.Own Cell.cs 4 79 Bo w' v l'/\l'.Perm l/\Up (Fz c) l')):=by
 refine cw Tryz.func97 ?_;have z:=Vc.Mod.refl (λk=>v.ownBlock=some k) w;refine wr (dm (dm ?_));refine dv 79 4 (ho.arr EF).sl (dm ?_);refine cD (Yam l v Bo f c _ ho hl hcb hc O) (.inl rfl) λu1 w1 Z J=>?_;have hsz1:=z.size;have z:=z.own Z (λi hi hlt=>hi);obtain⟨rfl,r,ho,Y,hu⟩:=J;refine EH ((HH (Hh rfl ?_)));exact⟨_,rfl,z,rfl,r,ho,Y,hu⟩
end Go.Proofs.YtiooodckiddpmaaGreatDoor
