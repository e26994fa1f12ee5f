/-
  A part of the proof.
-/
import Derived.Test.YtiooodckiddpmaaGreatDoorQkA
import Derived.Test.YtiooodckiddpmaaGreatDoorChecked
import Derived.KernelRfl
import Derived.Shelf.Small.Bits
import Derived.Shelf.Small.Strs
import Derived.Shelf.Small.Wraps
import Derived.Shelf.Strconv.Itoa0
import Derived.Shelf.Strconv.Itoa1
import Derived.Shelf.LaysM
import Derived.Shelf.Strconv.Itoa2
import Derived.Shelf.Strconv.Itoa3
import Derived.Shelf.Strings.Prefix
import Derived.Shelf.Slices.Turned
import Derived.Ground.Names2Prog
import Derived.Shelf.Slices.SearchI
import Derived.Shelf.Bytes.SlSearch0
import Derived.Ground.SlbCloneProg
import Derived.Shelf.Bytes.SlClone
import Derived.Ground.SlbNamesProg
import Derived.Shelf.Bytes.SlJoin
import Derived.Ground.SlgnProg
import Derived.Shelf.SlicesE.Clone
import Derived.Shelf.Bytes.SlEqualAll
import Derived.Shelf.Bytes.Small
import Derived.Test.YtiooodckiddpmaaGreatDoorProg
import Derived.Shelf.SlGeneric
import Derived.Shelf.SlIter.Nil
import Derived.Ground.GgzProg
import Derived.Shelf.Sort.Plain
import Derived.Shelf.Slices.In.SortNone
import Derived.Lib.Bytealg
open Nat renaming le_refl->Aa,zero_le->Ab,le_trans->Ae,lt_of_lt_of_le->Ay,zero_add->A5,lt_irrefl->A7,lt_of_lt_of_eq->AD,mod_eq_of_lt->Bv,le_of_eq->Cb,zero_mul->Cw,add_mul->Cx,mul_le_mul_left->CB,shiftLeft_eq->Dn,or_comm->Dp,two_pow_add_eq_or_of_lt->Dq,zero_lt_one->E7
open List renaming length_append->Ad,mem_singleton->Af,mem_of_getElem?->Ag,mem_cons->Ah,mem_cons_self->Ai,mem_cons_of_mem->Aj,map_cons->Ak,mem_append->Al,mem_map->Ao,replicate->Ap,getElem?_eq_getElem->Aq,getElem?_eq_some_iff->Ar,length_map->Au,take_of_length_le->Av,mem_filter->Ax,length_cons->Az,eq_nil_of_length_eq_zero->A0,map_append->A3,sum_cons->A4,append_assoc->A6,length->A9,flatMap_cons->AA,length_take->AE,nil_append->AG,getElem?_map->AH,append_nil->AI,pairwise_cons->AN,take->AP,all_eq_true->AQ,take_length->AT,take_append_drop->AV,getElem?_take->AX,nodup_cons->Ba,mem_append_right->Bb,flatMap_append->Bc,length_drop->Bd,map_nil->Bg,length_nil->Bj,length_filter_le->Bk,map_map->Bq,filter_append->Bs,sum_append->Bt,pairwise_append->Bw,take_add_one->Bx,filter_eq_self->Bz,any_eq_true->BB,drop_of_length_le->BG,range->BH,filter_cons->BJ,map_congr_left->BN,getD_eq_getElem?_getD->BO,drop_eq_nil_of_le->BP,flatMap->BQ,drop_zero->BY,filter_sublist->BZ,map_toArray->Cf,mem_iff_getElem?->Ci,flatMap_nil->Ck,take_succ_cons->Co,not_mem_nil->Cp,drop_eq_getElem_cons->Cz,length_singleton->C2,takeWhile_append_dropWhile->CD,all_append->CJ,find?_cons->CK,getElem_mem->CL,length_pos_iff->CM,pairwise_map->CZ,size_toArray->Dr,take_append_of_le_length->DS,take_left->DT,mem_range->DU,range_succ->E0,drop_append_of_le_length->E4,map_id->E5,length_mergeSort->E6,map_eq_cons_iff->E8
open Option renaming some->Am,map_eq_some_iff->Bp,map_some->Cm,isSome_map->Db,getD_some->DQ
open Bool renaming and_eq_true->Aw,not_eq_true'->BW,false_eq_true->Cq,true_and->C1,eq_iff_iff->Dv
open Decidable renaming of_not_not->AF
open UInt32 renaming ofNat->AJ,toNat_shiftLeft->Dm,toNat_or->DR,toNat_inj->E2
open List.Pairwise renaming nil->Bu,imp_of_mem->EY
open Prod renaming mk->B4,ext->Du
open List.Sublist renaming map->C0
set_option maxRecDepth 100000
set_option maxHeartbeats 4000000
set_option linter.unusedVariables false
set_option linter.defProp false
set_option linter.unusedSimpArgs false
namespace Go.Proofs.YtiooodckiddpmaaGreatDoor
open Go.Vc Go.Sp
attribute [local irreducible] W XW Dw GC
variable {a b:Cell}
def Xqd (h:Op.bytesLess a.key b.key=true):less a b=true:=(JG a b).2 (.inl h)
def Xqe (h:Op.bytesLess a.key b.key=false)(e:a.key=b.key):less a b=decide (b.seq<a.seq):=by simp [less,e]
def Xqf (h:Op.bytesLess a.key b.key=false)(e:¬ a.key=b.key):less a b=false:=by simp [less,e,F6,h]
def Th {l:List Cell}{k:Nat}{c:Cell}{key:Fj}{seq:Int}(h:l[k]?=some c):first (l.drop k) key seq=if(decide (c.key=key) && decide (c.seq<=seq))=true then some c else first (l.drop (k+1)) key seq:=by
 obtain⟨hk,rfl⟩:=Ar.1 h;rw[Cz hk];unfold first
 rw[CK];split<;>simp [*]
def Oj (a b:Cell)(w:World) :
  FX 99 [a.v,b.v] w (B (less a b)):=by
 refine cE Tryz.func99 λr=>go ?_;refine G1 rfl rfl rfl RX.all (λb1 w1 e1 J z=>?_);have g1:=r.ge e1;have r:=r.trans J;refine G1 rfl rfl rfl RX.all (λb2 w2 e2 O m2=>?_);have g2:=r.ge e2;have n2_1:=z.ltb e2;refine Fy O z r λz r=>go ?_;refine dp (Nk rfl rfl) ?_;refine Fk (λH=>?_) λH=>?_
 ·refine go ?_;refine dp (MB rfl rfl) (go ?_);refine⟨?_,r⟩;simp [less, *]
 refine go ?_;refine⟨?_,r⟩;simp [less, *]
def Rz (a b:Cell)(w:World) :
  FX 215 [a.v,b.v] w (B (less a b)):=by
 refine cE Tryz.func215 λr=>go ?_;refine G1 rfl rfl rfl RX.all (λb1 w1 e1 O z=>?_);have g1:=r.ge e1;have r:=r.trans O;refine G1 rfl rfl rfl RX.all (λb2 w2 e2 Y m2=>?_);have g2:=r.ge e2;have n2_1:=z.ltb e2;refine Fy Y z r λz r=>go ?_;refine dp (MB rfl rfl) (go ?_);refine IR 10 rfl (λJ=>?_) (λJ=>?_)
 ·refine go ?_;refine⟨?_,r⟩;simp only [Ending.returned.injEq,Value.bool.injEq]
  symm
  exact Xqd (by assumption)
 refine go ?_;refine dp (KI rfl rfl) ?_;refine FJ 16 (λH=>?_) λH=>?_
 ·refine go ?_;refine⟨?_,r⟩;simp only [Ending.returned.injEq,Value.bool.injEq]
  symm
  exact Xqe (by assumption) (by assumption)
 refine go ?_;refine⟨?_,r⟩;simp only [Ending.returned.injEq,Value.bool.injEq]
 symm
 exact Xqf (by assumption) (by assumption)
def Sw (c:Cell)(w:World) :
  FX 153 [c.v] w (B (Gl c)):=by
 refine cE Tryz.func153 λr=>go ?_;refine G1 rfl rfl rfl RX.all (λb1 w1 e1 Y m1=>?_);have g1:=r.ge e1;have r:=r.trans Y;refine go ?_;refine dp (HY rfl rfl) ?_;refine FJ 7 (λJ=>?_) λJ=>?_
 ·refine go ?_;refine dp (IJ rfl rfl) ?_;refine FJ 13 (λz=>?_) λz=>?_
  ·refine go ?_;refine dp (IJ rfl rfl) ?_;refine FJ 19 (λZ=>?_) λZ=>?_
   ·refine go ?_;refine IR 23 rfl (λO=>?_) (λO=>?_)
    ·refine go ?_;refine dp (HY rfl rfl) ?_;refine FJ 34 (λH=>?_) λH=>?_
     ·refine go ?_;refine dp (IJ rfl rfl) (go ?_);refine⟨?_,r⟩;simp only [Ending.returned.injEq,Value.bool.injEq];simp [Gl, *];omega
     refine go ?_;refine⟨?_,r⟩;simp only [Ending.returned.injEq,Value.bool.injEq];simp [Gl, *]
    refine go ?_;refine dp (KI rfl rfl) ?_;refine FJ 29 (λc6=>?_) λc6=>?_
    ·refine go ?_;refine dp (HY rfl rfl) ?_;refine FJ 34 (λc7=>?_) λc7=>?_
     ·refine go ?_;refine dp (IJ rfl rfl) (go ?_);refine⟨?_,r⟩;simp only [Ending.returned.injEq,Value.bool.injEq];simp [Gl, *];omega
     refine go ?_;refine⟨?_,r⟩;simp only [Ending.returned.injEq,Value.bool.injEq];simp [Gl, *]
    refine go ?_;refine⟨?_,r⟩;simp only [Ending.returned.injEq,Value.bool.injEq];simp [Gl, *]
   refine go ?_;refine⟨?_,r⟩;simp only [Ending.returned.injEq,Value.bool.injEq];simp [Gl, *];omega
  refine go ?_;refine⟨?_,r⟩;simp only [Ending.returned.injEq,Value.bool.injEq];simp [Gl, *];omega
 refine go ?_;refine⟨?_,r⟩;simp only [Ending.returned.injEq,Value.bool.injEq];simp [Gl, *];omega
def RH (c:Cell)(w:World) :
  FX 36 [c.v] w (B (Gl c)):=by
 refine cE Tryz.func36 λr=>go ?_;refine G1 rfl rfl rfl RX.all (λb1 w1 e1 Y m1=>?_);have g1:=r.ge e1;have r:=r.trans Y;refine go ?_;refine dp (HY rfl rfl) ?_;refine FJ 7 (λJ=>?_) λJ=>?_
 ·refine go ?_;refine dp (IJ rfl rfl) ?_;refine FJ 13 (λz=>?_) λz=>?_
  ·refine go ?_;refine dp (IJ rfl rfl) ?_;refine FJ 19 (λZ=>?_) λZ=>?_
   ·refine go ?_;refine IR 23 rfl (λO=>?_) (λO=>?_)
    ·refine go ?_;refine dp (HY rfl rfl) ?_;refine FJ 34 (λH=>?_) λH=>?_
     ·refine go ?_;refine dp (IJ rfl rfl) (go ?_);refine⟨?_,r⟩;simp only [Ending.returned.injEq,Value.bool.injEq];simp [Gl, *];omega
     refine go ?_;refine⟨?_,r⟩;simp only [Ending.returned.injEq,Value.bool.injEq];simp [Gl, *]
    refine go ?_;refine dp (KI rfl rfl) ?_;refine FJ 29 (λc6=>?_) λc6=>?_
    ·refine go ?_;refine dp (HY rfl rfl) ?_;refine FJ 34 (λc7=>?_) λc7=>?_
     ·refine go ?_;refine dp (IJ rfl rfl) (go ?_);refine⟨?_,r⟩;simp only [Ending.returned.injEq,Value.bool.injEq];simp [Gl, *];omega
     refine go ?_;refine⟨?_,r⟩;simp only [Ending.returned.injEq,Value.bool.injEq];simp [Gl, *]
    refine go ?_;refine⟨?_,r⟩;simp only [Ending.returned.injEq,Value.bool.injEq];simp [Gl, *]
   refine go ?_;refine⟨?_,r⟩;simp only [Ending.returned.injEq,Value.bool.injEq];simp [Gl, *];omega
  refine go ?_;refine⟨?_,r⟩;simp only [Ending.returned.injEq,Value.bool.injEq];simp [Gl, *];omega
 refine go ?_;refine⟨?_,r⟩;simp only [Ending.returned.injEq,Value.bool.injEq];simp [Gl, *];omega
def Rt (c:Cell)(w:World)(hk:c.key.length<=1000000000)(hv:c.val.length<=1000000000) :
  FX 169 [c.v] w (I (GB c)):=by
 refine cE Tryz.func169 λr=>go ?_;refine G1 rfl rfl rfl RX.all (λb1 w1 e1 z m1=>?_);have g1:=r.ge e1;have r:=r.trans z;refine go ?_;refine⟨?_,r⟩;simp [GB]
def Xj (c:Cell)(w:World)(hk:c.key.length<=1000000000)(hv:c.val.length<=1000000000) :
  FX 276 [c.v] w (I (GB c)):=by
 refine cE Tryz.func276 λr=>go ?_;refine G1 rfl rfl rfl RX.all (λb1 w1 e1 z m1=>?_);have g1:=r.ge e1;have r:=r.trans z;refine go ?_;refine⟨?_,r⟩;simp [GB]
def Yh (l:List Cell)(v:Value)(key:Fj)(seq:Int)(w:World)(hv:Fu Cell.cs 4 w v l)(hl:l.length<=1000000000) :
  FX 212 [v,S key,I seq] w (.tuple #[((first l key seq).getD Cell.zero).v,B (first l key seq).isSome]):=by
 refine cE Tryz.func212 λr=>go ?_;refine aL [S [],S [],B false,.int .i64 0] λb1 w1 e1 O z=>?_;have g1:=r.ge e1;have r:=r.trans O;refine F8 (G:=Nat) (λk=>[(0,v),(1,S key),(2,I seq),(6,Fh b1 0),(8,I ↑k)]) (λk w'=>Fq w w'/\Fp w' b1 [S [],S [],B false,I 0] 79/\k<=l.length/\first (l.drop k) key seq=first l key seq) (λk=>l.length-k) 0 ⟨r,z,Ab _,rfl⟩ ?_;rintro _ k w2 ⟨r,z,hk1,hk2⟩;refine FM 79 4 hv.sl ?_;refine Fk (λJ=>?_) λJ=>?_
 ·obtain⟨c,hk⟩:∃c,l[k]?=some c:=F7;refine FN 79 4 hv.sl (hv.lt hk) ?_;refine go ?_;refine dl rfl (((hv.ext r).row hk).at rfl) (go ?_);refine dp (KI rfl rfl) ?_;refine FJ 22 (λZ=>?_) λZ=>?_
  ·refine FN 79 4 hv.sl (hv.lt hk) ?_;refine go ?_;refine dl rfl (((hv.ext r).row hk).at rfl) (go ?_);refine dp (IJ rfl rfl) ?_;refine Fk (λc3=>?_) λc3=>?_
   ·refine FN 79 4 hv.sl (hv.lt hk) ?_;refine dq (Fx Ff rfl rfl ((hv.ext r).row hk)) (Gg z (λw3 H xs3 z=>?_));have r:=r.o1 H;refine go ?_;refine I5 (u:=?v17) rfl rfl rfl rfl Ff rfl z.row ?h17 ?k17
    case h17=>conv=>lhs;whnf
    refine⟨?_,r⟩;rw[<-hk2];rw[Th hk];simp [*];done
   refine go ?_;refine FL (k+1) ⟨r,z,by omega,?_⟩;rw[<-hk2,Th hk];simp [*]
  refine go ?_;refine GS rfl (go ?_);refine FL (k+1) ⟨r,z,by omega,?_⟩;rw[<-hk2,Th hk];simp [*]
 refine go ?_;refine db (zs:=[S [],S [],B false,.int .i64 0]) (pl:=[(0,1),(1,1),(2,1),(3,1)]) (pv:=[]) (cs:=[S [],S [],B false,.int .i64 0]) ?_;refine Gg z (λw4 Y xs4 z=>?_);have r:=r.o1 Y;refine go ?_;refine I5 (u:=?v26) rfl rfl rfl rfl Ff rfl z.row ?h26 ?k26
 case h26=>conv=>lhs;whnf
 refine⟨?_,r⟩;rw[<-hk2];rw[BP Fe];rfl
end Go.Proofs.YtiooodckiddpmaaGreatDoor
namespace Go.Sp
open Go.Vc (Fj)
def Kl : Fj->Fj->Nat
 | a :: r,b :: s=>if a=b then Kl r s+1 else 0
 | _,_=>0
def Sc : ∀(a b:Fj),Kl a b<=a.length/\Kl a b<=b.length/\a.take (Kl a b)=b.take (Kl a b)
 | [],b=>by simp [Kl]
 | a :: r,[]=>by simp [Kl]
 | a :: r,b :: s=>by
  have:=Sc r s;unfold Kl;split
  ·rename_i h;subst h;simp only [Az,Co];exact⟨by omega,by omega,by rw[this.2.2]⟩
  ·simp
variable {k:Nat}
def Xoa {a b:Fj}{x y:UInt8}(hx:a[k]?=some x)(hy:b[k]?=some y):Kl (a.drop k) (b.drop k)=if x=y then Kl (a.drop (k+1)) (b.drop (k+1))+1 else 0:=by
 obtain⟨h1,rfl⟩:=Ar.1 hx;obtain⟨h2,rfl⟩:=Ar.1 hy;rw[Cz h1,Cz h2];rfl
def VB {a b:Fj}(h:a.length<=k\/b.length<=k):Kl (a.drop k) (b.drop k)=0:=by
 rcases h with h|h
 ·rw[BP h];cases b.drop k<;>rfl
 ·rw[BP h];cases a.drop k<;>rfl
def KR : List Cell->Bool
 | a :: b :: r=>less a b && KR (b :: r)
 | _=>true
def Hq (l:List Cell):Int:=if(l.all Gl)=true then(if KR l=true then 0 else 11)else 1
variable {l:List Cell}
def Vm (h:KR l=true){a b:Cell}(ha:l[k]?=some a)(hb:l[k+1]?=some b):less a b=true:=by
 induction l generalizing k with
 | nil=>cases ha
 | cons x r ih=>
  cases r with
  | nil=>simp at hb
  | cons y r=>
   unfold KR at h;rw[Aw]at h
   cases k with
   | zero=>simp at ha hb;subst ha hb;exact h.1
   | succ k=>exact ih h.2 (by simpa using ha) (by simpa using hb)
def X1x (h:∀(k:Nat) (a b:Cell),l[k]?=some a->l[k+1]?=some b->less a b=true):KR l=true:=by
 induction l with
 | nil=>rfl
 | cons x r ih=>
  cases r with
  | nil=>rfl
  | cons y r=>
   unfold KR;rw[h 0 x y rfl rfl,C1];exact ih (λk a b z hb=>h (k+1) a b (by simpa using z) (by simpa using hb))
def Mk : Hq l=0↔(∀c∈l,Gl c=true)/\KR l=true:=by
 unfold Hq;split
 ·rename_i h;rw[AQ]at h;split
  ·rename_i h2;exact⟨λ_=>⟨h,h2⟩,λ_=>rfl⟩
  ·rename_i h2;exact⟨λe=>by simp at e,λe=>absurd e.2 h2⟩
 ·rename_i h;exact⟨λe=>by simp at e,λe=>absurd (AQ.2 e.1) h⟩
def LA (d:Bool):Nat:=if d then 1 else 0
def JX (n:Nat)(c:Cell):Fj:=F4 n++FA (c.key.drop n)++(F4 c.seq.toNat++F4 (LA c.del))++(if c.del then[]else FA c.val)
def H8 (l:List Cell)(k:Nat):Nat:=if k % 4=0 then 0 else Kl (l[k-1]?.getD Cell.zero).key (l[k]?.getD Cell.zero).key
def JI (l:List Cell)(k:Nat):Fj:=JX (H8 l k) (l[k]?.getD Cell.zero)
def H0 (l:List Cell):Fj:=(BH l.length).flatMap (JI l)
def IU (l:List Cell)(k:Nat):Fj:=((BH l.length).drop k).flatMap (JI l)
def Yaa (l:List Cell):IU l 0=H0 l:=rfl
def Tp (h:k<l.length):IU l k=JI l k++IU l (k+1):=by
 unfold IU;rw[Cz (by simpa using h),AA];simp
def Sn (h:l.length<=k):IU l k=[]:=by
 unfold IU;rw[BP (by simpa using h)];rfl
def Qy (h:k<l.length):(BH (k+1)).flatMap (JI l)=(BH k).flatMap (JI l)++JI l k:=by
 rw[E0,Bc];simp
def S8 {c:Cell}(h:l[k]?=some c):H8 l k<=c.key.length:=by
 unfold H8;rw[h];split
 ·omega
 ·exact(Sc _ _).2.1
def Xwy {c:Cell}(h:l[k]?=some c):∀p:Fj,p=(if k=0 then[]else(l[k-1]?.getD Cell.zero).key)->H8 l k<=p.length/\p.take (H8 l k)++c.key.drop (H8 l k)=c.key:=by
 intro p r;unfold H8;rw[h];split
 ·rename_i h4;simp
 ·rename_i h4;rw[if_neg (by rintro rfl;simp at h4)]at r;subst r;have:=Sc (l[k-1]?.getD Cell.zero).key c.key;simp only [DQ];exact⟨this.1,by rw[this.2.2,AV]⟩
def Xwz (n:Nat){c:Cell}(h:Gl c=true):(JX n c).length<=50+c.key.length+c.val.length:=by
 unfold JX FA;have h1:=Gk n;have h2:=Gk (c.key.drop n).length;have h3:=Gk c.seq.toNat;have h4:=Gk (LA c.del);have h5:=Gk c.val.length;split<;>simp only [Ad,Bd,Bj]at *<;>omega
def Xob (n:Nat)(c:Cell):1<=(JX n c).length:=by
 unfold JX F4;have:1<=(Hm 10 n).length:=Wv 9 n;simp only [Ad];omega
def Tm (h:∀c∈l,Gl c=true)(k:Nat)(hk:k<=l.length):((BH k).flatMap (JI l)).length<=20600*k:=by
 induction k with
 | zero=>simp
 | succ k ih=>
  rw[Qy Fe,Ad];have:=ih Fe;have r:l[k]?=some l[k]:=Aq Fe;have hi:=h l[k] (CL ..);have:=Xwz (H8 l k) hi;have e:JI l k=JX (H8 l k) l[k]:=by unfold JI;rw[r];rfl
  simp only [Gl,Aw,decide_eq_true_eq]at hi;rw[e];omega
def Qf (h:∀c∈l,Gl c=true):(H0 l).length<=20600*l.length:=Tm h l.length (Aa _)
end Go.Sp
namespace Go.Proofs.YtiooodckiddpmaaGreatDoor
open Go.Vc Go.Sp
attribute [local irreducible] W XW Dw GC
variable {k:Nat}{l:List Cell}
def Xub {a b:Cell}(hk:1<=k)(h1:l[k-1]?=some a)(h2:l[k]?=some b):KR (l.drop (k-1))=(less a b && KR (l.drop k)):=by
 obtain⟨i,rfl⟩:∃i,k=i+1:=⟨k-1,by omega⟩;simp only [Nat.add_sub_cancel]at *;rw[Ja h1,Ja h2];rfl
def Xw0 (h:l.length<=k):KR (l.drop (k-1))=true:=by
 have r:(l.drop (k-1)).length<=1:=by rw[Bd];omega
 match hd:l.drop (k-1),r with
 | [],_=>rfl
 | [a],_=>rfl
def X1y {c:Cell}(h:l[k]?=some c):(l.take (k+1)).all Gl=((l.take k).all Gl && Gl c):=by
 rw[GW h,CJ];simp
def X6x {c:Cell}(h:l[k]?=some c)(hc:Gl c=false):Hq l=1:=by
 unfold Hq;rw[if_neg];intro h2;rw[AQ]at h2;rw[h2 c (Ag h)]at hc
 cases hc
def KH {c:Cell}(h:Gl c=true):c.key.length<=4096/\c.val.length<=16384/\1<=c.key.length/\1<=c.seq/\c.seq<=1099511627776/\(c.del=true->c.val=[]):=by
 simp only [Gl,Aw,Bool.or_eq_true,decide_eq_true_eq]at h;refine⟨by omega,by omega,by omega,by omega,by omega,λhd=>?_⟩;obtain⟨⟨⟨_,h4⟩,_⟩,_⟩:=h;rcases h4 with h4|h4
 ·rw[hd]at h4;cases h4
 ·exact h4
def Wu {n:Int}(h:1<=n)(h2:n<=1099511627776):HF n=n.toNat:=by unfold HF;omega
def X1z (a b:Fj)(w:World)(ha:a.length<=1000000000)(hb:b.length<=1000000000) :
  FX 300 [S a,S b] w (I ↑(Kl a b)):=by
 refine cE Tryz.func300 λr=>F8 (G:=Nat) (λk=>[(0,S a),(1,S b),(4,I 0),(5,I ↑k)]) (λk w'=>Fq w w'/\k<=a.length/\k<=b.length/\Kl (a.drop k) (b.drop k)+k=Kl a b) (λk=>a.length-k) 0 ⟨r,Ab _,Ab _,rfl⟩ ?_;rintro _ k w1 ⟨r,hka,hkb,hsh⟩;refine Gt 10000000000000000000 λw2 Y=>?_;have r:=r.trans Y;refine FJ 10 (λO=>?_) λO=>?_
 ·refine FJ 16 (λJ=>?_) λJ=>?_
  ·obtain⟨x,hk1⟩:∃x,a[k]?=some x:=F7;obtain⟨y,hk2⟩:∃y,b[k]?=some y:=F7;have z:=Xoa hk1 hk2;refine go ?_;refine dp (TQ Ff rfl rfl hk1) (go ?_);refine dp (TQ Ff rfl rfl hk2) (dp (QG rfl rfl) ?_);refine Fk (λH=>?_) λH=>?_
   ·refine go ?_;refine FL (k+1) ⟨r,by omega,by omega,?_⟩;rw[z,if_pos (by simpa using H)]at hsh;omega
   refine go ?_;refine⟨?_,r⟩;rw[z,if_neg (by simpa using H)]at hsh;rw[<-hsh,A5]
  refine go ?_;refine GS rfl (go ?_);refine⟨?_,r⟩;rw[VB (.inr Fe)]at hsh;rw[<-hsh,A5]
 refine go ?_;refine GS rfl (go ?_);refine⟨?_,r⟩;rw[VB (.inl Fe)]at hsh;rw[<-hsh,A5]
def Yab (d:Bool)(w:World) :
  FX 301 [B d] w (I ↑(LA d)):=by
 refine cE Tryz.func301 λz=>?_;refine Gb (λr=>?_) λr=>?_
 ·refine go ?_;refine⟨?_,z⟩;rw[r];rfl
 refine go ?_;refine⟨?_,z⟩;rw[r];rfl
def X6y (l:List Cell)(v:Value)(w:World)(hv:Fu Cell.cs 4 w v l)(hl:l.length<=30000) :
  FX 299 [v] w (I (Hq l)):=by
 refine cE Tryz.func299 λr=>FM 79 4 (hv.ext r).sl ?_;refine F8 (G:=Nat) (λk=>[(0,v),(6,v),(7,I ↑l.length),(8,I ↑k)]) (λk w'=>Fq w w'/\k<=l.length/\(l.take k).all Gl=true) (λk=>l.length-k) 0 ⟨r,Ab _,rfl⟩ ?_;rintro _ k w1 ⟨r,hk1,hA⟩;refine Fk (λZ=>?_) λZ=>?_
 ·obtain⟨c,hk⟩:∃c,l[k]?=some c:=F7;refine go ?_;refine di 79 4 (hv.ext r).sl rfl ((hv.ext r).lt hk) (dq (Fx Ff rfl rfl ((hv.ext r).row hk)) (aL [S [],S [],B false,.int .i64 0] λb1 w2 e1 x2 J=>?_));have g1:=r.ge e1;have r:=r.trans x2;refine Gg J (λw3 Y xs3 J=>?_);have r:=r.o1 Y;refine go ?_;refine dq (Fx (k:=4) Ff rfl rfl J.row) (cP (Sw c _) RX.all λw4 x4=>?_);have r:=r.trans x4;refine Gb (λO=>?_) λO=>?_
  ·refine go ?_;refine⟨?_,r⟩;rw[X6x hk (by simpa using O)]
  refine go ?_;refine FL (k+1) ⟨r,by omega,?_⟩;rw[X1y hk,hA];simpa using O
 refine F8 (G:=Nat) (λk=>[(0,v),(5,I ↑k)]) (λk w'=>Fq w w'/\1<=k/\KR l=KR (l.drop (k-1))/\l.all Gl=true) (λk=>l.length-k) 1 ⟨r,Aa _,rfl,by rw[Av Fe]at hA;exact hA⟩ ?_;rintro _ k w5 ⟨r,hk0,hr,hA⟩;refine FM 79 4 (hv.ext r).sl ?_;refine Fk (λc3=>?_) λc3=>?_
 ·obtain⟨c,hk⟩:∃c,l[k]?=some c:=F7;obtain⟨x,hk1⟩:∃x,l[k-1]?=some x:=F7;have H:=Xub hk0 hk1 hk;refine Gt 105100010000 λw6 x6=>?_;have r:=r.trans x6;refine gn ?_;refine F3 (v:=I ↑(k-1)) rfl (G7 rfl rfl FH) FY (di 79 4 (hv.ext r).sl rfl ((hv.ext r).lt hk1) (Gh rfl (λw' hR=>Fx Ff rfl rfl (((hv.ext r).ext hR).row hk1)) (go ?_)));refine di 79 4 (hv.ext r).sl rfl ((hv.ext r).lt hk) (Gh rfl (λw' hR=>Fx Ff rfl rfl (((hv.ext r).ext hR).row hk)) (cP (Oj x c _) RX.all λw7 x7=>?_));have r:=r.trans x7;refine Gb (λz=>?_) λz=>?_
  ·refine go ?_;refine⟨?_,r⟩;simp only [BW]at z;unfold Hq;rw[if_pos hA,hr,H,z];rfl
  refine go ?_;refine FL (k+1) ⟨r,by omega,?_,hA⟩;rw[hr,H];simp at z;rw[z];rfl
 refine go ?_;refine⟨?_,r⟩;unfold Hq;rw[if_pos hA,hr,Xw0 Fe];rfl
end Go.Proofs.YtiooodckiddpmaaGreatDoor
namespace Go.Proofs
open Go.Shelf
def Tryz.lays125_ren : Go.Shelf.Ren:=⟨λ|125=>204|128=>271|129=>272|n=>n,λ|46=>237|3=>3|51=>174|53=>236|4=>4|5=>5|9=>9|n=>n,λ|n=>n⟩
def Tryz.lays106_ren : Go.Shelf.Ren:=⟨λ|106=>166|213=>242|265=>298|n=>n,λ|9=>9|3=>3|n=>n,λ|n=>n⟩
def Tryz.lays106 : Go.Proofs.Lays.n106 Tryz.prog Tryz.lays106_ren:={
 mixed:=by kernel_rfl
 f106:=Tryz.func166.trans (congrArg some Ff)
 f213:=Tryz.func242.trans (congrArg some Ff)
 f265:=Tryz.func298.trans (congrArg some Ff)
 t3:=Tryz.underlying3
 a3:=Tryz.isAgg3
 z3:=Tryz.sizeOf3
 v3:=Tryz.zeroValue3
 t9:=Tryz.underlying9
 a9:=Tryz.isAgg9
 z9:=Tryz.sizeOf9
 v9:=Tryz.zeroValue9 }
open Go.RowKit in
def Tryz.strings_Compare (a b:ByteArray)(w:World) :
 Calls Tryz.prog 166 #[.string a,.string b] w λe w'=>e=.returned (.int .i64 (Lib.compareBytes a.data.toList b.data.toList))/\w'=w:=Any.strings_Compare Tryz.lays106 a b w
def Tryz.lays122_ren : Go.Shelf.Ren:=⟨λ|122=>247|215=>304|n=>n,λ|3=>3|4=>4|n=>n,λ|n=>n⟩
def Tryz.laysM171_ren : Go.Shelf.Ren:=⟨λ|171=>106|243=>183|246=>254|283=>307|284=>308|285=>309|286=>310|129=>272|317=>329|318=>330|319=>331|320=>332|337=>338|338=>339|n=>n,λ|3=>3|9=>9|2=>2|4=>4|171=>350|0=>0|53=>236|37=>82|5=>5|173=>352|212=>366|51=>174|20=>20|213=>367|46=>237|232=>371|233=>372|n=>n,λ|17=>1|18=>2|19=>3|n=>n⟩
def Tryz.laysM171 : Go.Proofs.LaysM.n171 Tryz.prog Tryz.laysM171_ren:={
 mixed:=by kernel_rfl
 f129:=Tryz.func272.trans (congrArg some Ff)
 f171:=Tryz.func106.trans (congrArg some Ff)
 f243:=Tryz.func183.trans (congrArg some Ff)
 f246:=Tryz.func254.trans (congrArg some Ff)
 f283:=Tryz.func307.trans (congrArg some Ff)
 f284:=Tryz.func308.trans (congrArg some Ff)
 f285:=Tryz.func309.trans (congrArg some Ff)
 f286:=Tryz.func310.trans (congrArg some Ff)
 f317:=Tryz.func329.trans (congrArg some Ff)
 f318:=Tryz.func330.trans (congrArg some Ff)
 f319:=Tryz.func331.trans (congrArg some Ff)
 f320:=Tryz.func332.trans (congrArg some Ff)
 f337:=Tryz.func338.trans (congrArg some Ff)
 f338:=Tryz.func339.trans (congrArg some Ff)
 t0:=Tryz.underlying0
 a0:=Tryz.isAgg0
 z0:=Tryz.sizeOf0
 v0:=Tryz.zeroValue0
 t2:=Tryz.underlying2
 a2:=Tryz.isAgg2
 z2:=Tryz.sizeOf2
 v2:=Tryz.zeroValue2
 t3:=Tryz.underlying3
 a3:=Tryz.isAgg3
 z3:=Tryz.sizeOf3
 v3:=Tryz.zeroValue3
 t4:=Tryz.underlying4
 a4:=Tryz.isAgg4
 z4:=Tryz.sizeOf4
 v4:=Tryz.zeroValue4
 t5:=Tryz.underlying5
 a5:=Tryz.isAgg5
 z5:=Tryz.sizeOf5
 v5:=Tryz.zeroValue5
 t9:=Tryz.underlying9
 a9:=Tryz.isAgg9
 z9:=Tryz.sizeOf9
 v9:=Tryz.zeroValue9
 t20:=Tryz.underlying20
 a20:=Tryz.isAgg20
 z20:=Tryz.sizeOf20
 v20:=Tryz.zeroValue20
 t37:=Tryz.underlying82
 a37:=Tryz.isAgg82
 z37:=Tryz.sizeOf82
 v37:=Tryz.zeroValue82
 t46:=Tryz.underlying237
 a46:=Tryz.isAgg237
 z46:=Tryz.sizeOf237
 v46:=Tryz.zeroValue237
 t51:=Tryz.underlying174
 a51:=Tryz.isAgg174
 z51:=Tryz.sizeOf174
 v51:=Tryz.zeroValue174
 t53:=Tryz.underlying236
 a53:=Tryz.isAgg236
 z53:=Tryz.sizeOf236
 v53:=Tryz.zeroValue236
 t171:=Tryz.underlying350
 a171:=Tryz.isAgg350
 z171:=Tryz.sizeOf350
 v171:=Tryz.zeroValue350
 t173:=Tryz.underlying352
 a173:=Tryz.isAgg352
 z173:=Tryz.sizeOf352
 v173:=Tryz.zeroValue352
 t212:=Tryz.underlying366
 a212:=Tryz.isAgg366
 z212:=Tryz.sizeOf366
 v212:=Tryz.zeroValue366
 t213:=Tryz.underlying367
 a213:=Tryz.isAgg367
 z213:=Tryz.sizeOf367
 t232:=Tryz.underlying371
 a232:=Tryz.isAgg371
 z232:=Tryz.sizeOf371
 v232:=Tryz.zeroValue371
 t233:=Tryz.underlying372
 a233:=Tryz.isAgg372
 z233:=Tryz.sizeOf372
 v233:=Tryz.zeroValue372
 g17:=by kernel_rfl
 g18:=by kernel_rfl
 g19:=by kernel_rfl
 i0:=by kernel_rfl
 i2:=by kernel_rfl
 i3:=by kernel_rfl
 i4:=by kernel_rfl
 i5:=by kernel_rfl
 i9:=by kernel_rfl
 i20:=by kernel_rfl
 i37:=by kernel_rfl
 i46:=by kernel_rfl
 i51:=by kernel_rfl
 i53:=by kernel_rfl
 i171:=by kernel_rfl
 i173:=by kernel_rfl
 i212:=by kernel_rfl
 i232:=by kernel_rfl
 i233:=by kernel_rfl
 m17:=by kernel_rfl
 m18:=by kernel_rfl
 m19:=by kernel_rfl }
open Go.RowKit Go.Sort Go.Lib in
def Tryz.strconv_Itoa (n : Int) (h0 : -9223372036854775808 ≤ n) (h1 : n ≤ 9223372036854775807) (w : World) (htab : Lib.TabIs Tryz.prog w "internal/strconv.uint64pow10" .u64 Lib.pow10Tab) :
 Calls Tryz.prog 106 #[.int .i64 n] w λe w'=>e=.returned (.string ⟨(Lib.itoa n).toArray⟩)/\∃k os,w'=grow (w.drewN k) os:=Any.strconv_Itoa Tryz.laysM171 n h0 h1 w htab
def Tryz.lays99_ren : Go.Shelf.Ren:=⟨λ|99=>129|206=>200|n=>n,λ|9=>9|4=>4|3=>3|n=>n,λ|n=>n⟩
def Tryz.lays107_ren : Go.Shelf.Ren:=⟨λ|107=>171|108=>244|n=>n,λ|28=>159|3=>3|4=>4|0=>0|n=>n,λ|n=>n⟩
def Tryz.lays110_ren : Go.Shelf.Ren:=⟨λ|110=>130|109=>201|n=>n,λ|31=>58|9=>9|4=>4|3=>3|0=>0|n=>n,λ|n=>n⟩
def Tryz.lays110 : Go.Proofs.Lays.n110 Tryz.prog Tryz.lays110_ren:={
 mixed:=by kernel_rfl
 f109:=Tryz.func201.trans (congrArg some Ff)
 f110:=Tryz.func130.trans (congrArg some Ff)
 t0:=Tryz.underlying0
 a0:=Tryz.isAgg0
 z0:=Tryz.sizeOf0
 v0:=Tryz.zeroValue0
 t3:=Tryz.underlying3
 a3:=Tryz.isAgg3
 z3:=Tryz.sizeOf3
 v3:=Tryz.zeroValue3
 t4:=Tryz.underlying4
 a4:=Tryz.isAgg4
 z4:=Tryz.sizeOf4
 v4:=Tryz.zeroValue4
 t9:=Tryz.underlying9
 a9:=Tryz.isAgg9
 z9:=Tryz.sizeOf9
 v9:=Tryz.zeroValue9
 t31:=Tryz.underlying58
 a31:=Tryz.isAgg58
 z31:=Tryz.sizeOf58
 v31:=Tryz.zeroValue58 }
open Go.Lib in
def Tryz.slices_Contains_string (b off n c:Nat)(zs:List ByteArray)(x:ByteArray)(w:World)(hz:n<=zs.length)(hbig:n<=9223372036854775807)(hc:∀j,j<zs.length->w.cell? ⟨b,off+j,none⟩=some (.string (zs.getD j ByteArray.empty))) :
 Calls Tryz.prog 130 #[.slice (some ⟨b,off,none⟩) n c,.string x] w λe w'=>e=.returned (.bool (Lib.containsS (zs.take n) x))/\w'=w:=Any.slices_Contains_string Tryz.lays110 b off n c zs x w hz hbig hc
open Go.Lib in
def Tryz.slices_Contains_string_empty (a:Option Addr)(c:Nat)(x:ByteArray)(w:World) :
 Calls Tryz.prog 130 #[.slice a 0 c,.string x] w λe w'=>e=.returned (.bool false)/\w'=w:=Any.slices_Contains_string_empty Tryz.lays110 a c x w
def Tryz.laysSlJ14_ren : Go.Shelf.Ren:=⟨λ|14=>240|15=>290|n=>n,λ|26=>133|22=>82|3=>3|4=>4|0=>0|9=>9|20=>20|5=>5|n=>n,λ|n=>n⟩
def Tryz.laysSlJ14 : Go.Proofs.SlLaysJ.n14 Tryz.prog Tryz.laysSlJ14_ren:={
 mixed:=by kernel_rfl
 f14:=Tryz.func240.trans (congrArg some Ff)
 f15:=Tryz.func290.trans (congrArg some Ff)
 t0:=Tryz.underlying0
 a0:=Tryz.isAgg0
 z0:=Tryz.sizeOf0
 v0:=Tryz.zeroValue0
 t3:=Tryz.underlying3
 a3:=Tryz.isAgg3
 z3:=Tryz.sizeOf3
 v3:=Tryz.zeroValue3
 t4:=Tryz.underlying4
 a4:=Tryz.isAgg4
 z4:=Tryz.sizeOf4
 v4:=Tryz.zeroValue4
 t9:=Tryz.underlying9
 a9:=Tryz.isAgg9
 z9:=Tryz.sizeOf9
 v9:=Tryz.zeroValue9
 t20:=Tryz.underlying20
 a20:=Tryz.isAgg20
 z20:=Tryz.sizeOf20
 v20:=Tryz.zeroValue20
 t22:=Tryz.underlying82
 a22:=Tryz.isAgg82
 z22:=Tryz.sizeOf82
 v22:=Tryz.zeroValue82
 t26:=Tryz.underlying133
 a26:=Tryz.isAgg133
 z26:=Tryz.sizeOf133
 v26:=Tryz.zeroValue133
 t5:=Tryz.underlying5
 z5:=Tryz.sizeOf5
 i5:=by kernel_rfl }
open Go.RowKit Go.Lib in
def Tryz.bytes_Join_many (b o n c:Nat)(vs:List Value)(ls:List (List UInt8))(sv:Value)(sep:List UInt8)(w:World)(hn:ls.length=n)(h2:2<=n)(hP:Lib.PartsAt w ⟨b,o,none⟩ vs ls)(hcap:n<=c)(hS:Lib.HoldsBytes w sv sep)(hn47:n<=140737488355328)(hlen:Lib.lens ls+sep.length*(n-1)<=140737488355328) :
 Calls Tryz.prog 240 #[.slice (some ⟨b,o,none⟩) n c,sv] w λe w'=>∃v',e=.returned v'/\Lib.FreshBytes w.heap.size w' v' (Lib.join ls sep)/\Below w.heap.size w w':=Any.bytes_Join_many Tryz.laysSlJ14 b o n c vs ls sv sep w hn h2 hP hcap hS hn47 hlen
open Go.RowKit Go.Lib in
def Tryz.bytes_Join_none (p:Option Addr)(c:Nat)(sv:Value)(w:World) :
 Calls Tryz.prog 240 #[.slice p 0 c,sv] w λe w'=>e=.returned (.slice (some ⟨w.heap.size,0,none⟩) 0 0)/\w'=w.alloc (.cells #[] 5):=Any.bytes_Join_none Tryz.laysSlJ14 p c sv w
open Go.RowKit Go.Lib in
def Tryz.bytes_Join_one (b o c:Nat)(ad0:Addr)(c0:Nat)(l0:List UInt8)(sv:Value)(w:World)(hcell:w.cell? ⟨b,o,none⟩=some (.slice (some ad0) l0.length c0))(hc:∀(i:Nat) x,l0[i]?=some x->w.cell? (ad0.add i)=some (.int .u8 (x.toNat:Int)))(h0:0<l0.length)(hs:l0.length<=140737488355328) :
 Calls Tryz.prog 240 #[.slice (some ⟨b,o,none⟩) 1 c,sv] w λe w'=>∃v',e=.returned v'/\Lib.FreshBytes w.heap.size w' v' l0/\Below w.heap.size w w':=Any.bytes_Join_one Tryz.laysSlJ14 b o c ad0 c0 l0 sv w hcell hc h0 hs
open Go.RowKit Go.Lib in
def Tryz.bytes_Join_one_empty (b o c:Nat)(p0:Option Addr)(c0:Nat)(sv:Value)(w:World)(hcell:w.cell? ⟨b,o,none⟩=some (.slice p0 0 c0)) :
 Calls Tryz.prog 240 #[.slice (some ⟨b,o,none⟩) 1 c,sv] w λe w'=>e=.returned (.slice none 0 0)/\w'=w:=Any.bytes_Join_one_empty Tryz.laysSlJ14 b o c p0 c0 sv w hcell
def Tryz.laysSlE041_f102_ren : Go.Shelf.Ren:=⟨λ|41=>102|n=>n,λ|22=>153|23=>174|4=>4|n=>n,λ|n=>n⟩
end Go.Proofs
namespace Go.Proofs.YtiooodckiddpmaaGreatDoor
open Go.Vc Go.Sp
attribute [local irreducible] W XW Dw GC
def Q8 (a b c d:UInt8):UInt32:=((a.toUInt32 ||| (b.toUInt32 <<< 8)) ||| (c.toUInt32 <<< 16)) ||| (d.toUInt32 <<< 24)
def GI : Fj->UInt32
 | a :: b :: c :: d :: _=>Q8 a b c d
 | _=>0
def X6z (a b c d:UInt8):(Q8 a b c d).toNat=a.toNat+b.toNat*256+c.toNat*65536+d.toNat*16777216:=by
 unfold Q8;have J:=a.toNat_lt;have hb:=b.toNat_lt;have hc:=c.toNat_lt;have hd:=d.toNat_lt;have H:(b.toUInt32 <<< 8).toNat=2 ^ 8*b.toNat:=by
  rw[Dm];simp [Dn];omega
 have r:(c.toUInt32 <<< 16).toNat=2 ^ 16*c.toNat:=by
  rw[Dm];simp [Dn];omega
 have z:(d.toUInt32 <<< 24).toNat=2 ^ 24*d.toNat:=by
  rw[Dm];simp [Dn];omega
 rw[DR,DR,DR,H,r,z,UInt8.toNat_toUInt32];rw[Dp,Dp _ (2 ^ 16*_),Dp a.toNat];rw[<-Dq (i:=8) J,<-Dq (i:=16) Fe,<-Dq (i:=24) Fe];omega
def Xw1 (v:UInt32):Q8 v.toUInt8 (v >>> 8).toUInt8 (v >>> 16).toUInt8 (v >>> 24).toUInt8=v:=by
 apply E2.1
 rw[X6z];have hv:=v.toNat_lt;simp only [UInt32.toNat_toUInt8,UInt32.toNat_shiftRight];simp [Nat.shiftRight_eq_div_pow];omega
def Xj1 (v:UInt32)(r:Fj):GI (IG v++r)=v:=Xw1 v
def NO (b o i:Nat):(⟨b,o,none⟩:Addr).add i=⟨b,o+i,none⟩:=by
 unfold Addr.add;split
 ·rename_i e;simp [e]
 ·rfl
def QK {B:Nat}{w:World}{v:Value}{l:Fj}(h:Lib.FreshBytes B w v l):Fu Fs 1 w v l/\B<=(base v).1:=by
 obtain⟨g,cap,zs,rfl,hB,Z,hc,hz,hr,hb,r,_⟩:=h;refine⟨⟨.inr (.inl ⟨g,0,cap,by rw[Au],by rw[Au];exact Z⟩),λi cs hi=>?_⟩,hB⟩;rw[AH]at hi;obtain⟨x,O,rfl⟩:=Bp.1 hi;have z:i<l.length:=(Ar.1 O).1;refine⟨rfl,λj u J=>?_⟩;have H:j=0:=by
  have:=(Ar.1 J).1;simp at this;exact this
 subst H;simp only [List.getElem?_cons_zero,Am.injEq]at J;subst J;have h1:=r i Fe;have h2:(Lib.bytesOf (zs.take l.length))[i]?=some x:=by rw[hb];exact O
 unfold Lib.bytesOf at h2;rw[AH,AX,if_pos z,Aq Fe]at h2;simp only [Cm,Am.injEq]at h2;have h3:zs.getD i 0=zs[i]'Fe:=by rw[BO,Aq Fe];rfl
 have h4:=hr (zs[i]'Fe) (CL _);have Y:(x.toNat:Int)=zs[i]'Fe:=by
  rw[<-h2];have h6:(zs[i]'Fe).toNat<256:=by omega
  simp [Bv h6];omega
 rw[h3,<-Y]at h1;simpa [base]using h1
def X60 {w:World}{q:Value×Fj}(h:Fu Fs 1 w q.1 q.2):Lib.HoldsBytes w q.1 q.2:=by
 rcases h.sl with⟨e,e2⟩|⟨b,o,c,e,_⟩|⟨e2,a,c,e⟩
 ·exact⟨none,0,by rw[e,e2],λ_=>A0 e2,λa h=>by cases h⟩
 ·refine⟨some ⟨b,o,none⟩,c,e,(λh=>by cases h),λa z i x r=>?_⟩
  cases z
  rw[NO];have:=Fu.row8 h;rw[e]at this;exact this i _ (by rw[AH,r];rfl)
 ·exact⟨some a,c,by rw[e,e2],(λh=>by cases h),λa' z i x r=>by rw[A0 e2]at r;simp at r⟩
def Xw2 (qs:List (Value×Fj)):Lib.lens (qs.map (·.2))=(qs.flatMap (·.2)).length:=by
 unfold Lib.lens
 induction qs with
 | nil=>rfl
 | cons q r ih=>rw[AA,Ad,<-ih];simp
def Xw3 (qs:List (Value×Fj)):Lib.join (qs.map (·.2)) []=qs.flatMap (·.2):=by
 cases qs with
 | nil=>rfl
 | cons q r=>
  rw[Ak,Lib.join_cons,AA]
  congr 1
  unfold Lib.joinTail
  induction r with
  | nil=>rfl
  | cons a r ih=>simp at ih ⊢;exact ih
def X61 (qs:List (Value×Fj))(vr:Value)(w:World)(hr:Fu (λq:Value×Fj=>[q.1]) 1 w vr qs)(hq:∀q∈qs,Fu Fs 1 w q.1 q.2)(hlen:(qs.flatMap (·.2)).length<=2001000020)(hql:qs.length<=1000000) :
  Calls Tryz.prog 240 [vr,.slice none 0 0].toArray w (Hb w (λu w'=>Fu Fs 1 w' u (qs.flatMap (·.2))/\(qs.flatMap (·.2)≠[]->w.heap.size<=(base u).1))):=by
 have cell:∀b o c,vr=.slice (some ⟨b,o,none⟩) qs.length c->∀(i:Nat) q,qs[i]?=some q->w.cell? ⟨b,o+i,none⟩=some q.1:=by
  intro b o c e i q hi;have:=hr.row hi;rw[e]at this;have h0:=this 0 q.1 rfl;simpa [base]using h0
 have empty:qs.length=0->∀p c,vr=.slice p 0 c->Calls Tryz.prog 240 [vr,.slice none 0 0].toArray w (Hb w (λu w'=>Fu Fs 1 w' u (qs.flatMap (·.2))/\(qs.flatMap (·.2)≠[]->w.heap.size<=(base u).1))):=by
  intro h0 p c e;have hn:qs=[]:=A0 h0;subst hn;subst e;refine(Tryz.bytes_Join_none p c (.slice none 0 0) w).mono ?_;rintro e w' ⟨rfl,rfl⟩;exact⟨_,rfl,Fq.alloc _ _,⟨.inr (.inr ⟨rfl,_,_,rfl⟩),λi cs hi=>by simp at hi⟩,λh=>absurd rfl h⟩
 rcases hr.sl with⟨e,h0⟩|⟨b,o,c,e,hc⟩|⟨h0,a,c,e⟩
 ·exact empty h0 _ _ e
 ·rcases Nat.lt_or_ge 1 qs.length with h2|h1
  ·subst e;refine(Tryz.bytes_Join_many b o qs.length c (qs.map (·.1)) (qs.map (·.2)) (.slice none 0 0) [] w F0 h2 ⟨by simp,λi v hi=>?_,λi v l hv Z=>?_⟩ hc ⟨none,0,rfl,λ_=>rfl,λa h=>by cases h⟩ Fe (by rw[Xw2,Bj,Cw];omega)).mono ?_
   ·rw[AH]at hi;obtain⟨q,z,rfl⟩:=Bp.1 hi;rw[NO];exact cell b o c rfl i q z
   ·rw[AH]at hv Z;obtain⟨q,z,rfl⟩:=Bp.1 hv;rw[z]at Z
    cases Z
    exact X60 (hq q (Ag z))
   ·rintro e w' ⟨v',rfl,hf,hb⟩;rw[Xw3]at hf;exact⟨_,rfl,Fq.of_below hb,(QK hf).1,λ_=>(QK hf).2⟩
  ·rcases Nat.eq_zero_or_pos qs.length with h0|h0
   ·exact empty h0 _ _ (h0▸e)
   ·obtain⟨q,rfl⟩:∃q,qs=[q]:=List.length_eq_one_iff.1 Fe;have r:=cell b o c e 0 q rfl;subst e;have H:=hq q Ai;have Y:[q].flatMap (·.2)=q.2:=by simp
    rw[Y]at hlen ⊢
    by_cases hz:q.2=[]
    ·have hv:∃O c0,q.1=.slice O 0 c0:=by
      rcases H.sl with⟨e,_⟩|⟨b',o',J,e,_⟩|⟨_,a',J,e⟩
      ·exact⟨_,_,e⟩
      ·rw[hz]at e;exact⟨_,_,e⟩
      ·exact⟨_,_,e⟩
     obtain⟨O,c0,e⟩:=hv;refine(Tryz.bytes_Join_one_empty b o c O c0 (.slice none 0 0) w (by rw[<-e];exact r)).mono ?_;rintro e w' ⟨rfl,rfl⟩;rw[hz];exact⟨_,rfl,Fq.refl _,Fu.nil,λh=>absurd rfl h⟩
    ·have hp:=CM.2 hz;have hv:∃b' o' J,q.1=.slice (some ⟨b',o',none⟩) q.2.length J:=by
      rcases H.sl with⟨_,e⟩|⟨b',o',J,e,_⟩|⟨e,_⟩
      ·omega
      ·exact⟨_,_,_,e⟩
      ·omega
     obtain⟨b',o',J,e⟩:=hv;refine(Tryz.bytes_Join_one b o c ⟨b',o',none⟩ J q.2 (.slice none 0 0) w (by rw[<-e];exact r) (λi x hx=>?_) hp Fe).mono ?_
     ·rw[NO];have:=Fu.row8 H;rw[e]at this;exact this i _ (by rw[AH,hx];rfl)
     ·rintro e w' ⟨v',rfl,hf,hb⟩;exact⟨_,rfl,Fq.of_below hb,(QK hf).1,λ_=>(QK hf).2⟩
 ·exact empty h0 _ _ e
section
variable {P:Program}{E:FF}{dd:Option Tmp}{ty:TypeId}{pos:String}{af:Array Edge}{g:Option (Nat×Bool)}{x y:Operand}{T U:TypeId}
def Vf {c:UInt32}(hx:ev E x=Hh c)(hT:(P.underlying T).isSome=true)(hU:Ic P U=some .i64):PV P ⟨dd,.convert T U x,ty,pos,af,g⟩ E (I ↑c.toNat):=by
 have:=Kf (P:=P) (d:=dd) (ty:=ty) (pos:=pos) (af:=af) (g:=g) hx hT hU;rwa [Lj (by have:=c.toNat_lt;unfold Ge;omega)]at this
end
def GQ (b:Fj):Fj×Int×Int:=
 if b.length<8 then([],0,2)else if b.take 8≠HS (GI b)then([],0,4)else if 1048576<(GI b).toNat then([],0,5)else if(b.length:Int)-8-4<(GI b).toNat then([],0,2)
 else if GI (b.drop (8+(GI b).toNat))≠I1 (b.take (8+(GI b).toNat))then([],0,4)else((b.take (8+(GI b).toNat)).drop 8,(8+(GI b).toNat:Nat)+4,0)
def Jk (b:Fj):Fj×Int:=if(GQ b).2.2=0/\(GQ b).2.1≠b.length then([],3)else((GQ b).1,(GQ b).2.2)
def Xw4 (p r:Fj)(h:p.length<=1048576):GQ (Fz p++r)=(p,((p.length+12:Nat):Int),0):=by
 have hn:(AJ p.length).toNat=p.length:=by rw[UInt32.toNat_ofNat'];exact Bv Fe
 have H:Fz p++r=HS (AJ p.length)++(p++(IG (I1 (HS (AJ p.length)++p))++r)):=by unfold Fz;simp only [A6]
 have J:GI (Fz p++r)=AJ p.length:=by
  rw[H];unfold HS;rw[A6];exact Xj1 _ _
 have z:(Fz p++r).length=p.length+12+r.length:=by rw[Ad,J9]
 have Y:(Fz p++r).take 8=HS (AJ p.length):=by rw[H,DS (by rw[Lx];omega),Av (by rw[Lx];omega)]
 have O:(Fz p++r).take (8+p.length)=HS (AJ p.length)++p:=by
  rw[H,<-A6,DS (by rw[Ad,Lx];omega),Av (by rw[Ad,Lx];omega)]
 have hd:(Fz p++r).drop (8+p.length)=IG (I1 (HS (AJ p.length)++p))++r:=by
  rw[H,<-A6,E4 (by rw[Ad,Lx];omega),BG (by rw[Ad,Lx];omega),AG]
 unfold GQ;rw[J,hn,z,Y,O,hd,Xj1,if_neg Fe,if_neg (λh=>h rfl),if_neg Fe,if_neg Fe,if_neg (λh=>h rfl)];rw[E4 (by rw[Lx];omega),BG (by rw[Lx];omega),AG];simp only [B4.injEq,and_true,true_and];omega
def We (p:Fj)(h:p.length<=1048576):Jk (Fz p)=(p,0):=by
 have e:=Xw4 p [] h;rw[AI]at e;unfold Jk;rw[e,if_neg (by simp [J9])]
variable {b:Fj}
def Yac (h:b.length<8):GQ b=([],0,2):=by unfold GQ;rw[if_pos h]
def Yad (h:¬ b.length<8)(h2:b.take 8≠HS (GI b)):GQ b=([],0,4):=by unfold GQ;rw[if_neg h,if_pos h2]
def Yae (h:¬ b.length<8)(h2:b.take 8=HS (GI b))(h3:1048576<(GI b).toNat):GQ b=([],0,5):=by unfold GQ;rw[if_neg h,if_neg (λe=>e h2),if_pos h3]
def Yaf (h:¬ b.length<8)(h2:b.take 8=HS (GI b))(h3:¬ 1048576<(GI b).toNat)(h4:(b.length:Int)-8-4<(GI b).toNat):GQ b=([],0,2):=by unfold GQ;rw[if_neg h,if_neg (λe=>e h2),if_neg h3,if_pos h4]
def Yag (h:¬ b.length<8)(h2:b.take 8=HS (GI b))(h3:¬ 1048576<(GI b).toNat)(h4:¬ (b.length:Int)-8-4<(GI b).toNat)(h5:GI (b.drop (8+(GI b).toNat))≠I1 (b.take (8+(GI b).toNat))):GQ b=([],0,4):=by unfold GQ;rw[if_neg h,if_neg (λe=>e h2),if_neg h3,if_neg h4,if_pos h5]
def Yah (h:¬ b.length<8)(h2:b.take 8=HS (GI b))(h3:¬ 1048576<(GI b).toNat)(h4:¬ (b.length:Int)-8-4<(GI b).toNat)(h5:GI (b.drop (8+(GI b).toNat))=I1 (b.take (8+(GI b).toNat))):
 GQ b=((b.take (8+(GI b).toNat)).drop 8,((8+(GI b).toNat:Nat):Int)+4,0):=by unfold GQ;rw[if_neg h,if_neg (λe=>e h2),if_neg h3,if_neg h4,if_neg (λe=>e h5)]
def X4p {a b:UInt32} : ((a.toNat:Int)≠(b.toNat:Int))↔a≠b:=by
 exact⟨λh e=>h (by rw[e]),λh e=>h (E2.1 Fe)⟩
def Ux (p:Fj)(vp:Value)(w:World)(hp:Fu Fs 1 w vp p)(hl:4<=p.length) :
  FX 312 [vp] w (Hh (GI p)):=by
 refine cE Tryz.func312 λz=>?_;obtain⟨b0,b1,b2,b3,r,rfl⟩:∃b0 b1 b2 b3 r,p=b0 :: b1 :: b2 :: b3 :: r:=by
  match p,hl with
  | b0 :: b1 :: b2 :: b3 :: r,_=>exact⟨b0,b1,b2,b3,r,rfl⟩
 refine Gt 100001000001000001000100 λw1 H=>?_;have z:=z.trans H;refine go ?_;refine di 5 1 hp.sl rfl (hp.lt (i:=0) (x:=b0) rfl) (dL rfl (λ_ hR=>(((hp.ext (z.trans hR)).row (i:=0) (x:=b0) rfl).at0 rfl)) (dp (Nn rfl Ff Ff) (go ?_)));refine di 5 1 hp.sl rfl (hp.lt (i:=1) (x:=b1) rfl) (dL rfl (λ_ hR=>(((hp.ext (z.trans hR)).row (i:=1) (x:=b1) rfl).at0 rfl)) (dp (Nn rfl Ff Ff) (dp (Py (b:=8) Fo rfl rfl) (dp (Pf rfl rfl) (go ?_)))));refine di 5 1 hp.sl rfl (hp.lt (i:=2) (x:=b2) rfl) (dL rfl (λ_ hR=>(((hp.ext (z.trans hR)).row (i:=2) (x:=b2) rfl).at0 rfl)) (dp (Nn rfl Ff Ff) (dp (Py (b:=16) Fo rfl rfl) (dp (Pf rfl rfl) (go ?_)))));refine di 5 1 hp.sl rfl (hp.lt (i:=3) (x:=b3) rfl) (dL rfl (λ_ hR=>(((hp.ext (z.trans hR)).row (i:=3) (x:=b3) rfl).at0 rfl)) (dp (Nn rfl Ff Ff) (dp (Py (b:=24) Fo rfl rfl) (dp (Pf rfl rfl) (go ?_)))));exact⟨rfl,z⟩
def P8 (qs:List (Value×Fj))(vr:Value)(w:World)(hr:Fu (λq:Value×Fj=>[q.1]) 1 w vr qs)(hq:∀q∈qs,Fu Fs 1 w q.1 q.2)(hlen:(qs.flatMap (·.2)).length<=2001000020)(hql:qs.length<=1000000) :
  Gi 156 [vr] w λu w'=>Fu Fs 1 w' u (qs.flatMap (·.2))/\(qs.flatMap (·.2)≠[]->w.heap.size<=(base u).1):=by
 refine cE Tryz.func156 λr=>Gj (X61 qs vr _ (hr.ext r) (λq h=>(hq q h).ext r) hlen hql) λu1 w1 J z=>?_;have H:=r.size;have r:=r.trans J;refine go ?_;exact⟨_,rfl,r,z.1,λh=>Ae H (z.2 h)⟩
def Wo (n:UInt32)(w:World) :
  Gi 157 [Hh n] w λu w'=>Fu Fs 1 w' u (HS n)/\(HS n≠[]->w.heap.size<=(base u).1):=by
 refine cE Tryz.func157 λz=>Gj (Q4 _ _) λu1 w1 x1 hh=>?_;have hsz1:=z.size;have z:=z.trans x1;obtain⟨J,rfl,hge4,r⟩:=hh;refine Gj (Q4 _ _) λu2 w2 x2 hc=>?_;have hsz2:=z.size;refine Fy x2 r z λr z=>?_;obtain⟨Z,rfl,hge6,H⟩:=hc;refine li (e:=82) (sz:=1) (zs:=[.slice none 0 0]) (pv:=[(0,_)]) (cs:=[_]) RX.all (λb1 w3 e1 x3 m1=>?_);have g1:=z.ge e1;have a1_ha4:=Fu.base_lt r Fo;refine FC x3 r H z λr H z=>cP (SD (IG n) (Value.slice (some ⟨Z,0,none⟩) 4 4) _ _ (m1.arr (enc:=λx:Value=>[x]) (sz:=1) (l:=[Value.slice (some ⟨Z,0,none⟩) 4 4]) rfl Fg rfl F0) H (by simp [IG])) RX.all λw4 x4=>Fy x4 r z λr z=>cG (Q4 _ _) RX.all λu5 w5 x5 hf=>?_;have hsz5:=z.size;refine Fy x5 r z λr z=>?_;obtain⟨O,rfl,hge9,Y⟩:=hf;refine li (e:=82) (sz:=1) (zs:=[.slice none 0 0]) (pv:=[(0,_),(1,_)]) (cs:=[_,_]) RX.all (λb2 w6 e2 x6 m2=>?_);have g2:=z.ge e2;have a2_ha4:=Fu.base_lt r Fo;refine FC x6 r Y z λr Y z=>?_;refine cG (P8 [(Value.slice (some ⟨J,0,none⟩) 4 4,IG n),(Value.slice (some ⟨O,0,none⟩) 4 4,IG (I1 (IG n)))] _ _ (m2.arr (enc:=λq:Value×Fj=>[q.1]) (sz:=1) (l:=[(Value.slice (some ⟨J,0,none⟩) 4 4,IG n),(Value.slice (some ⟨O,0,none⟩) 4 4,IG (I1 (IG n)))]) rfl Fg rfl F0) (by intro q h;simp only [Ah,Cp,or_false]at h;rcases h with rfl|rfl<;>first|exact r|exact Y) (by simp [IG]) F0) RX.all λu7 w7 x7 hg=>?_;have ha:=z.size;have z:=z.trans x7;have hJ:=hg;have hj:=ha;refine go ?_;have e:BQ (λq:Value×Fj=>q.2) [(Value.slice (some ⟨J,0,none⟩) 4 4,IG n),(Value.slice (some ⟨O,0,none⟩) 4 4,IG (I1 (IG n)))]=HS n:=by simp [HS]
 rw[e]at hJ;exact⟨_,rfl,z,hJ.1,λh=>Ae hj (hJ.2 h)⟩
def Yc6 (p:Fj)(vp vr:Value)(w:World)(hr:Fu (λx:Value=>[x]) 1 w vr [vp])(hp:Fu Fs 1 w vp p)(hpl:p.length<=2001000020) :
  Gi 82 [vr] w λu w'=>(1048576<p.length/\u=.tuple #[.slice none 0 0,I 5])\/(p.length<=1048576/\∃v,u=.tuple #[v,I 0]/\Fu Fs 1 w' v (Fz p)/\w.heap.size<=(base v).1):=by
 refine cE Tryz.func82 λr=>FM 82 1 hr.sl ?_;refine F8 (G:=Nat×Nat) (λ(k,n)=>[(0,vr),(2,.slice none 0 0),(3,I 0),(4,I ↑n),(8,vr),(9,I 1),(10,I ↑k)]) (λ(k,n) w'=>Fq w w'/\k<=1/\n=if k=0 then 0 else p.length) (λ(k,n)=>1-k) (0,0) ⟨r,Ab _,rfl⟩ ?_;rintro _ ⟨k,n⟩ w1 ⟨r,hk1,hn⟩;refine Fk (λc1=>?_) λc1=>?_
 ·have Z:[vp][k]?=some vp:=by
   have e:k=0:=by omega
   subst e;rfl
  have hn0:n=0:=by rw[hn,if_pos Fe]
  refine FN 82 1 hr.sl (hr.lt Z) ?_;refine dl rfl (((hr.ext r).row Z).at0 rfl) (FM 5 1 (hp.ext r).sl ?_);refine go ?_;refine FL (k+1,n+p.length) ⟨r,by omega,by rw[if_neg Fe];omega⟩
 rw[if_neg Fe]at hn;subst hn;refine Fk (λc2=>?_) λc2=>?_
 ·refine go ?_;exact⟨_,rfl,r,.inl ⟨by omega,rfl⟩⟩
 refine go ?_;refine dp (Pi rfl Ff Ff) (cG (Wo _ _) RX.all λuh w2 x2 ha=>?_);have hsz2:=r.size;have r:=r.trans x2;have J:=ha.1;refine Gj (P8 [(vp,p)] vr _ (hr.ext r) (by intro q h;simp only [Ah,Cp,or_false]at h;rw[h];exact hp.ext r) Gx F0) λup w3 x3 hf=>?_;have hsz3:=r.size;refine Fy x3 J r λJ r=>?_;have hP:=hf.1;rw[show BQ (λq:Value×Fj=>q.2) [(vp,p)]=p by simp]at hP;refine It (e:=82) (sz:=1) (zs:=[.slice none 0 0]) (pv:=[(0,?a17_0),(1,?a17_1)]) (cs:=[?a17_0,?a17_1]) rfl Ff ⟨rfl,rfl⟩ Ff rfl ?h17 ?f17 RX.all (λb1 w4 e1 x4 m1=>?k17)
 case h17=>refine⟨rfl,?_,rfl,?_,trivial⟩<;>(conv=>lhs;whnf)
 case f17=>simp [Hs,Gw,Ap,J.sl.cells,hP.sl.cells]
 have g1:=r.ge e1;have a1_hH:=Fu.base_lt J Fo;refine FC x4 J hP r λJ hP r=>?_;refine cG (P8 [(uh,HS (AJ p.length)),(up,p)] _ _ (m1.arr (enc:=λq:Value×Fj=>[q.1]) (sz:=1) (l:=[(uh,HS (AJ p.length)),(up,p)]) rfl Fg rfl F0) (by intro q h;simp only [Ah,Cp,or_false]at h;rcases h with rfl|rfl<;>first|exact J|exact hP) (by simp [Lx];omega) F0) RX.all λub w5 x5 hc=>?_;have hsz5:=r.size;have r:=r.trans x5;have hB:=hc.1;rw[show BQ (λq:Value×Fj=>q.2) [(uh,HS (AJ p.length)),(up,p)]=HS (AJ p.length)++p by simp]at hB;refine go ?_;refine It (e:=82) (sz:=1) (zs:=[.slice none 0 0]) (pv:=[(0,?a21_0)]) (cs:=[?a21_0]) rfl Ff ⟨rfl,rfl⟩ Ff rfl ?h21 ?f21 RX.all (λb2 w6 e2 x6 m2=>?k21)
 case h21=>refine⟨rfl,?_,trivial⟩<;>(conv=>lhs;whnf)
 case f21=>simp [Hs,Gw,Ap,hB.sl.cells]
 have g2:=r.ge e2;refine Fy x6 hB r λhB r=>cP (SD (HS (AJ p.length)++p) ub _ _ (m2.arr (enc:=λx:Value=>[x]) (sz:=1) (l:=[ub]) rfl Fg rfl F0) hB (by simp [Lx];omega)) RX.all λw7 x7=>Fy x7 hB r λhB r=>cG (Q4 _ _) RX.all λu8 w8 x8 hj=>?_;have hsz8:=r.size;refine Fy x8 hB r λhB r=>?_;obtain⟨H,rfl,hge32,z⟩:=hj;refine It (e:=82) (sz:=1) (zs:=[.slice none 0 0]) (pv:=[(0,?a22_0),(1,?a22_1)]) (cs:=[?a22_0,?a22_1]) rfl Ff ⟨rfl,rfl⟩ Ff rfl ?h22 ?f22 RX.all (λb3 w9 e3 x9 m3=>?k22)
 case h22=>refine⟨rfl,?_,rfl,?_,trivial⟩<;>(conv=>lhs;whnf)
 case f22=>simp [Hs,Gw,Ap,hB.sl.cells,z.sl.cells]
 have g3:=r.ge e3;refine FC x9 hB z r λhB z r=>?_;refine cG (P8 [(ub,HS (AJ p.length)++p),(Value.slice (some ⟨H,0,none⟩) 4 4,IG (I1 (HS (AJ p.length)++p)))] _ _ (m3.arr (enc:=λq:Value×Fj=>[q.1]) (sz:=1) (l:=[(ub,HS (AJ p.length)++p),(Value.slice (some ⟨H,0,none⟩) 4 4,IG (I1 (HS (AJ p.length)++p)))]) rfl Fg rfl F0) (by intro q h;simp only [Ah,Cp,or_false]at h;rcases h with rfl|rfl<;>first|exact hB|exact z) (by simp [Lx,NG];omega) F0) RX.all λu10 w10 hg Y=>?_;have O:=r.size;have r:=r.trans hg;have hJ:=Y;have hh:=O;refine go ?_;have e:BQ (λq:Value×Fj=>q.2) [(ub,HS (AJ p.length)++p),(Value.slice (some ⟨H,0,none⟩) 4 4,IG (I1 (HS (AJ p.length)++p)))]=Fz p:=by simp [Fz]
 rw[e]at hJ;exact⟨_,rfl,r,.inr ⟨by omega,_,rfl,hJ.1,Ae hh (hJ.2 (λh=>by have:=J9 p;rw[h]at this;simp at this))⟩⟩
def SG (p q:Fj)(vp vq:Value)(w:World)(hp:Fu Fs 1 w vp p)(hq:Fu Fs 1 w vq q) :
  FX 122 [vp,vq] w (B (decide (p=q))):=by
 refine cE Tryz.func122 λr=>gw ?_;refine wr (gw ?_);refine Ka [.p,.l,.p,.l,.p,.p] rfl (go ?_);refine dq (Nz Ff Ff ((hp.ext r)) rfl) (go ?_);refine dq (Nz Ff Ff ((hq.ext r)) rfl) (dp (KI rfl rfl) (go ?_));exact⟨rfl,r⟩
def Yc7 (b:Fj)(vb:Value)(w:World)(hb:Fu Fs 1 w vb b)(hbl:b.length<=2001000020) :
  Gi 259 [vb] w λu w'=>∃v,u=.tuple #[v,I (GQ b).2.1,I (GQ b).2.2]/\Vc.Own Fs 1 5 w.heap.size w' v (GQ b).1:=by
 refine cE Tryz.func259 λr=>FM 5 1 (hb.ext r).sl ?_;refine Fk (λc1=>?_) λc1=>?_
 ·refine go ?_;rw[Yac Fe];exact⟨_,rfl,r,_,rfl,Vc.Own.nil⟩
 have J:¬ b.length<8:=by omega
 refine Gs (Ux b vb _ (hb.ext r) Fe) λw1 x1=>?_;have r:=r.trans x1;refine Gt 10055000 λw2 x2=>?_;have r:=r.trans x2;refine go ?_;refine dp (HH (e:=5) (k:=1) Ff (hb.ext r).sl rfl rfl rfl (Ab _) (show(8:Nat)<=b.length by omega)) (Gj (Wo (GI b) _) λu3 w3 x3 Z=>?_);have hsz3:=r.size;have r:=r.trans x3;have hH:=Z.1;refine cP (SG (b.take 8) (HS (GI b)) _ _ _ (((by have:=hb.slice (lo:=0) (hi:=8) Fe Fe;rwa [BY]at this):Fu Fs 1 w (Hg 1 vb 0 8) (b.take 8)).ext r) hH) RX.all λw4 x4=>?_;have r:=r.trans x4;refine Gb (λO=>?_) λO=>?_
 ·refine go ?_;rw[Yad J (by simpa using O)];exact⟨_,rfl,r,_,rfl,Vc.Own.nil⟩
 have h2:b.take 8=HS (GI b):=by simpa using O
 refine Fk (λc3=>?_) λc3=>?_
 ·refine go ?_;rw[Yae J h2 Fe];exact⟨_,rfl,r,_,rfl,Vc.Own.nil⟩
 refine FM 5 1 (hb.ext r).sl ?_;refine go ?_;refine dp (Vf rfl Ff Ff) ?_;refine Fk (λc4=>?_) λc4=>?_
 ·refine go ?_;rw[Yaf J h2 Fe Fe];exact⟨_,rfl,r,_,rfl,Vc.Own.nil⟩
 have hn8:8+(GI b).toNat+4<=b.length:=by omega
 have H:Fu Fs 1 w (Hg 1 vb 0 (8+(GI b).toNat)) (b.take (8+(GI b).toNat)):=by
  have:=hb.slice (lo:=0) (hi:=8+(GI b).toNat) Fe Fe;rwa [BY]at this
 have z:(b.take (8+(GI b).toNat)).length=8+(GI b).toNat:=by rw[AE];omega
 have hD:Fu Fs 1 w (Hg 1 vb (b.take (8+(GI b).toNat)).length b.length) (b.drop (8+(GI b).toNat)):=by
  rw[z];have:=hb.slice (lo:=8+(GI b).toNat) (hi:=b.length) Fe Fe;rwa [AT]at this
 refine go ?_;refine dp (Vf rfl Ff Ff) (go ?_);refine dp (HH (e:=5) (k:=1) Ff (hb.ext r).sl rfl rfl rfl (Ab _) (show 8+(GI b).toNat<=b.length by omega)) (FM 5 1 (H.ext r).sl ?_);refine dp (HH (e:=5) (k:=1) Ff (hb.ext r).sl rfl rfl rfl (show(b.take (8+(GI b).toNat)).length<=b.length by rw[z];omega) (Aa _)) (cP (Ux (b.drop (8+(GI b).toNat)) (Hg 1 vb (b.take (8+(GI b).toNat)).length b.length) _ (hD.ext r) (by rw[Bd];omega)) RX.all λw5 x5=>?_);have r:=r.trans x5;refine go ?_;refine It (e:=82) (sz:=1) (zs:=[.slice none 0 0]) (pv:=[(0,?a34_0)]) (cs:=[?a34_0]) rfl Ff ⟨rfl,rfl⟩ Ff rfl ?h34 ?f34 RX.all (λb1 w6 e1 x6 m1=>?k34)
 case h34=>refine⟨rfl,?_,trivial⟩<;>(conv=>lhs;whnf)
 case f34=>rcases hb.sl with⟨e,_⟩|⟨_,_,_,e,_⟩|⟨_,_,_,e⟩<;>rw[e]<;>rfl
 have g1:=r.ge e1;have r:=r.trans x6;refine cP (SD (b.take (8+(GI b).toNat)) (Hg 1 vb 0 (8+(GI b).toNat)) _ _ (m1.arr (enc:=λx:Value=>[x]) (sz:=1) (l:=[Hg 1 vb 0 (8+(GI b).toNat)]) rfl Fg rfl F0) (H.ext r) Fe) RX.all λw7 x7=>?_;have r:=r.trans x7;refine Fk (λY=>?_) λY=>?_
 ·refine go ?_;rw[Yag J h2 Fe Fe (X4p.1 Y)];exact⟨_,rfl,r,_,rfl,Vc.Own.nil⟩
 refine go ?_;refine dp (HH (e:=5) (k:=1) Ff (H.ext r).sl rfl rfl rfl (show(8:Nat)<=(b.take (8+(GI b).toNat)).length by omega) (Aa _)) (cG (Ny _ _ _ ((by have:=H.slice (lo:=8) (hi:=(b.take (8+(GI b).toNat)).length) Fe Fe;rwa [AT]at this:Fu Fs 1 w (Hg 1 (Hg 1 vb 0 (8+(GI b).toNat)) 8 (b.take (8+(GI b).toNat)).length) ((b.take (8+(GI b).toNat)).drop 8)).ext r) (by rw[Bd];omega)) RX.all λu8 w8 x8 hO=>?_);have hsz8:=r.size;have r:=r.trans x8;refine FM 5 1 (H.ext r).sl ?_;refine go ?_;rw[Yah J h2 Fe Fe (AF λh=>Y (X4p.2 h))];exact⟨_,rfl,r,_,by rw[z],hO.mono Fe⟩
def Yc8 (b:Fj)(vb:Value)(w:World)(hb:Fu Fs 1 w vb b)(hbl:b.length<=2001000020) :
  Gi 195 [vb] w λu w'=>∃v,u=.tuple #[v,I (Jk b).2]/\Vc.Own Fs 1 5 w.heap.size w' v (Jk b).1:=by
 refine cE Tryz.func195 λr=>Gj (Yc7 b vb _ (hb.ext r) hbl) λu1 w1 Y H=>?_;have hsz1:=r.size;have r:=r.trans Y;obtain⟨vd,rfl,O⟩:=H;refine FJ 15 (λJ=>?_) λJ=>?_
 ·refine FM 5 1 (hb.ext r).sl ?_;refine Fk (λz=>?_) λz=>?_
  ·refine go ?_;rw[show Jk b=([],3) from if_pos ⟨J,z⟩];exact⟨_,rfl,r,_,rfl,Vc.Own.nil⟩
  refine go ?_;rw[show Jk b=((GQ b).1,(GQ b).2.2) from if_neg (λh=>z h.2)];exact⟨_,rfl,r,_,rfl,O⟩
 refine go ?_;refine GS rfl (go ?_);rw[show Jk b=((GQ b).1,(GQ b).2.2) from if_neg (λh=>J h.1)];exact⟨_,rfl,r,_,rfl,O⟩
end Go.Proofs.YtiooodckiddpmaaGreatDoor
namespace Go.Sp
open Go.Vc
structure Fil where
 data:Fj
 lasts:Nat
deriving DecidableEq
structure Dsk where
 room:Int
 fused:Bool
 left:Int
 fs:List (Fj×Fil)
namespace Dsk
def may (D:Dsk)(names:List Fj):Int:=if D.fused=true/\D.left=0 then 9 else if names.all (λs=>decide (1<=s.length) && decide (s.length<=64))then 0 else 1
def tick (D:Dsk):Dsk:=if D.fused then { D with left:=D.left-1 } else D
def used (D:Dsk):Nat:=(D.fs.map λp=>p.2.data.length).sum
def full (D:Dsk)(name p:Fj):Bool:=decide (D.room-D.used<p.length) || ((lk D.fs name).isNone && decide (4096<=D.fs.length))
def old (D:Dsk)(name:Fj):Fil:=(lk D.fs name).getD ⟨[],0⟩
def app (D:Dsk)(name p:Fj):Int×Dsk:=
 if D.may [name]≠0 then(D.may [name],D)else if D.full name p then(6,D)
 else(0,tick { D with fs:=FB D.fs name ⟨(D.old name).data++p,(D.old name).lasts⟩ })
def each (a:Fj->Dsk->Dsk):List Fj->Dsk->Int×Dsk
 | [],D=>(0,D)
 | n :: r,D=>if D.may [n]≠0 then(D.may [n],D)else if(lk D.fs n).isNone then(7,D)else each a r (tick (a n D))
def lastsA (n:Fj)(D:Dsk):Dsk:={ D with fs:=FB D.fs n ⟨(D.old n).data,(D.old n).data.length⟩ }
def gone (n:Fj)(D:Dsk):Dsk:={ D with fs:=G3 D.fs n }
def sync (names:List Fj)(D:Dsk):Int×Dsk:=each lastsA names D
def rem (names:List Fj)(D:Dsk):Int×Dsk:=each gone names D
def ren (D:Dsk)(a b:Fj):Int×Dsk:=
 if D.may [a,b]≠0 then(D.may [a,b],D)else match lk D.fs a with
 | none=>(7,D)
 | some f=>(0,tick { D with fs:=FB (G3 D.fs a) b f })
def read (D:Dsk)(name:Fj):Option Fj:=(lk D.fs name).map (·.data)
def names (D:Dsk):List Fj:=(D.fs.map (·.1)).mergeSort (λx y=>decide (x<=y))
def has (D:Dsk)(name:Fj):Bool:=(lk D.fs name).isSome
def readE (D:Dsk)(name:Fj):Int:=if D.has name then 0 else 7
def readB (D:Dsk)(name:Fj):Fj:=(D.read name).getD []
def sh (name:Fj):Fj:=name++[126]
def save2 (D:Dsk)(name p:Fj):Int×Dsk:=
 if(D.app (sh name) (Fz p)).1≠0 then D.app (sh name) (Fz p)else
 if((D.app (sh name) (Fz p)).2.sync [sh name]).1≠0 then(D.app (sh name) (Fz p)).2.sync [sh name]else((D.app (sh name) (Fz p)).2.sync [sh name]).2.ren (sh name) name
def save (D:Dsk)(name p:Fj):Int×Dsk:=
 if name.length<1\/60<name.length then(1,D)else if 1048576<p.length then(5,D)else
 if D.has (sh name)then(if(D.rem [sh name]).1≠0 then D.rem [sh name]else save2 (D.rem [sh name]).2 name p)else save2 D name p
def rems : List Fj->Dsk->Int×Dsk
 | [],D=>(0,D)
 | n :: r,D=>if D.has n then(if(D.rem [n]).1≠0 then D.rem [n]else rems r (D.rem [n]).2)else rems r D
end Dsk
structure Led where
 base:Int
 data:Fj
 ents:List Fj
 dead:Bool
namespace Led
def last (L:Led):Int:=L.base+L.ents.length
def img : Fj:=[115,45,105,109,103]
def logn : Fj:=[115,45,108,111,103]
def ent (i:Int)(p:Fj):Fj:=F4 i.toNat++FA p
def append (L:Led)(D:Dsk)(p:Fj):Int×Int×Led×Dsk:=
 if L.dead then(0,9,L,D)else if 65536<p.length\/1099511627776<=L.last then(0,5,L,D)else
 let r1:=D.app logn (Fz (ent (L.last+1) p))
 let r2:Int×Dsk:=if r1.1=0 then r1.2.sync [logn]else r1
 if r2.1≠0 then(0,r2.1,{ L with dead:=true },r2.2)else(L.last+1,0,{ L with ents:=L.ents++[p] },r2.2)
def write (L:Led)(D:Dsk)(i:Int)(p:Fj):Int×Led×Dsk:=
 if L.dead then(9,L,D)else if i<L.last\/1099511627776<i then(1,L,D)else if 524288<p.length then(5,L,D)else
 let r1:=D.save img (ent i p)
 let r2:Int×Dsk:=if r1.1=0 then r1.2.rems [logn]else r1
 if r2.1≠0 then(r2.1,{ L with dead:=true },r2.2)else(0,⟨i,p,[],false⟩,r2.2)
end Led
namespace Dsk
structure Wf (D:Dsk):Prop where
 room0:0<=D.room
 room1:D.room<=1073741824
 used:(D.used:Int)<=D.room
 left0:0<=D.left
 left1:D.left<=9223372036854775807
 name:∀p∈D.fs,1<=p.1.length/\p.1.length<=64
 lasts:∀p∈D.fs,p.2.lasts<=p.2.data.length
 nd:(D.fs.map (·.1)).Nodup
 cnt:D.fs.length<=4096
end Dsk
def JD (l:List (Fj×Fil)):Nat:=(l.map λp=>p.2.data.length).sum
def N2 (D:Dsk):D.used=JD D.fs:=rfl
def Ku (l:List (Fj×Fil))(n:Fj):Fil:=(lk l n).getD ⟨[],0⟩
variable {α:Type}
def Xuc (l:List α)(p:α->Prop)[DecidablePred p](f:α->Nat)(c:Nat)(h:l.Pairwise λa b=>¬ (p a/\p b))(x:α)(hx:x∈l)(hp:p x):(l.map λa=>if p a then c else f a).sum+f x=(l.map f).sum+c:=by
 induction l with
 | nil=>cases hx
 | cons a r ih=>
  rw[AN]at h;rw[Ak,Ak,A4,A4];rcases Ah.1 hx with rfl|hx
  ·rw[if_pos hp];have:r.map (λa=>if p a then c else f a)=r.map f:=BN λb hb=>if_neg λz=>h.1 b hb ⟨hp,z⟩;rw[this];omega
  ·rw[if_neg λH=>h.1 x hx ⟨H,hp⟩];have:=ih h.2 hx;omega
variable {l:List (Fj×Fil)}
def Xoe (hn:(l.map (·.1)).Nodup)(n:Fj)(f:Fil):JD (FB l n f)+(Ku l n).data.length=JD l+f.data.length:=by
 unfold JD Ku FB
 cases h:lk l n with
 | none=>simp
 | some g=>
  have hm:=Ro h;simp only [Option.isSome_some,if_true,DQ];have r:l.Pairwise λa b=>¬ (a.1=n/\b.1=n):=by
   have:=CZ.1 hn;exact this.imp λh h2=>h (h2.1.trans h2.2.symm)
  have:=Xuc l (λp=>p.1=n) (λp=>p.2.data.length) f.data.length r (n,g) hm rfl;rw[Bq];have e:(l.map ((λp:Fj×Fil=>p.2.data.length) ∘ λp=>if p.1=n then(n,f)else p))=l.map λp=>if p.1=n then f.data.length else p.2.data.length:=BN λp _=>by
   simp only [Function.comp];split<;>rfl
  rw[e];exact this
def Xof (l:List (Fj×Fil))(n:Fj):JD (G3 l n)<=JD l:=by
 unfold JD G3
 induction l with
 | nil=>simp
 | cons p l ih=>
  rw[BJ];split
  ·simp only [Ak,A4];omega
  ·simp only [Ak,A4];omega
def Xog (hn:(l.map (·.1)).Nodup)(n:Fj):JD (G3 l n)+(Ku l n).data.length=JD l:=by
 unfold JD Ku G3
 induction l with
 | nil=>simp [NF]
 | cons p l r=>
  rw[Ak,Ba]at hn;have r:=r hn.2;rw[BJ,JT]
  by_cases e:p.1=n
  ·have z:lk l n=none:=Nc.2 (e▸hn.1);rw[z]at r;simp [e]at r ⊢;omega
  ·rw[if_pos (by simp [e]),if_neg e,Ak,A4,Ak,A4];omega
def Xse {p:Fj×Fil}(h:p∈l):p.2.data.length<=JD l:=by
 unfold JD
 induction l with
 | nil=>cases h
 | cons q l ih=>
  rw[Ak,A4];rcases Ah.1 h with rfl|h
  ·omega
  ·have:=ih h;omega
def OP {l:List (Fj×α)}{n:Fj}{a:α}{p:Fj×α}(h:p∈FB l n a):p=(n,a)\/p∈l:=by
 unfold FB at h;split at h
 ·obtain⟨q,r,rfl⟩:=Ao.1 h;split
  ·exact .inl rfl
  ·exact .inr r
 ·rcases Al.1 h with h|h
  ·exact .inr h
  ·exact .inl (Af.1 h)
def OK (l:List (Fj×α))(n:Fj)(a b:α):FB (FB l n a) n b=FB l n b:=by
 have h1:(lk (FB l n a) n).isSome=true:=by rw[Np];simp
 rw[FB.eq_def (FB l n a),if_pos h1];unfold FB;split
 ·rename_i h;rw[Bq];refine BN λp _=>?_;simp only [Function.comp]
  by_cases e:p.1=n
  ·simp [e]
  ·simp [e]
 ·rename_i h;have hn:lk l n=none:=by simpa using h
  rw[A3]
  congr 1
  ·conv=>rhs;rw[<-E5 l]
   refine BN λp r=>?_;have:p.1≠n:=λe=>Nc.1 hn (e▸Ao.2 ⟨p,r,rfl⟩);simp [this]
  ·simp
namespace Dsk
variable {D:Dsk}
def Wf.data (h:D.Wf){p:Fj×Fil}(hp:p∈D.fs):p.2.data.length<=1073741824:=by
 have h1:=Xse hp;have h2:=h.used;have h3:=h.room1;rw[N2]at h2;omega
def Wf.tick (h:D.Wf)(hl:¬ (D.fused=true/\D.left=0)):D.tick.Wf:=by
 unfold Dsk.tick;split
 ·rename_i r;have h0:D.left≠0:=λe=>hl ⟨r,e⟩;exact⟨h.room0,h.room1,h.used,by have:=h.left0;simp only;omega,by have:=h.left1;simp only;omega,h.name,h.lasts,h.nd,h.cnt⟩
 ·exact h
def Wf.set (h:D.Wf){n:Fj}{f:Fil}(hn:1<=n.length/\n.length<=64)(hl:f.lasts<=f.data.length)(hr:(D.used:Int)+f.data.length<=D.room+(D.old n).data.length)(hc:(lk D.fs n).isSome=true\/D.fs.length<4096):Wf { D with fs:=FB D.fs n f }:=by
 refine⟨h.room0,h.room1,?_,h.left0,h.left1,λp r=>?_,λp r=>?_,PD n f h.nd,?_⟩
 ·have:=Xoe h.nd n f;have e:D.old n=Ku D.fs n:=rfl;rw[e]at hr;rw[N2]at hr ⊢;simp only;omega
 ·rcases OP r with rfl|r
  ·exact hn
  ·exact h.name p r
 ·rcases OP r with rfl|r
  ·exact hl
  ·exact h.lasts p r
 ·simp only;rw[Sl];have:=h.cnt;split
  ·exact this
  ·rename_i h2;rcases hc with h3|h3
   ·exact absurd h3 h2
   ·omega
def Wf.gone (h:D.Wf)(n:Fj):(D.gone n).Wf:=by
 refine⟨h.room0,h.room1,?_,h.left0,h.left1,λp r=>h.name p (Ax.1 r).1,λp r=>h.lasts p (Ax.1 r).1,PP n h.nd,Ae (Bk ..) h.cnt⟩;have h1:=Xof D.fs n;have h2:=h.used;rw[N2]at h2 ⊢;simp only [Dsk.gone];omega
def may_names {names:List Fj}(h:D.may names=0):∀s∈names,1<=s.length/\s.length<=64:=by
 unfold Dsk.may at h;split at h
 ·cases h
 ·split at h
  ·rename_i h2;intro s hs;simpa using AQ.1 h2 s hs
  ·cases h
def may_live {names:List Fj}(h:D.may names=0):¬ (D.fused=true/\D.left=0):=by
 unfold Dsk.may at h;split at h
 ·cases h
 ·assumption
end Dsk
end Go.Sp
namespace Go.Vc
open Go.RowKit
structure OwnC {α:Type}(enc:α->List Value)(sz T:Nat)(B:Nat)(w:World)(v:Value)(l:List α):Prop where
 len:(l.flatMap enc).length=l.length*sz
 row:(v=.slice none 0 0/\l.length=0)\/∃g cap cur,v=.slice (some ⟨g,0,none⟩) l.length cap/\B<=g/\w.heap[g]?=some (.cells cur T (0,0))/\l.length<=cap/\cap<=maxLen/\cap*sz<=cur.size/\cur.toList.take (l.length*sz)=l.flatMap enc
section
variable {α:Type}{enc:α->List Value}{sz T B:Nat}{w w':World}{v:Value}{l:List α}
def OwnC.nil : OwnC enc sz T B w (.slice none 0 0) []:=⟨by simp,.inl ⟨rfl,rfl⟩⟩
def Own.c (h:Own enc sz T B w v l):OwnC enc sz T B w v l:=by
 obtain⟨h1,h2⟩:=h.row;refine⟨h1,h2.imp (λh=>h) ?_⟩;rintro ⟨g,cap,cur,a,b,c,d,e,f,k⟩;exact⟨g,cap,cur,a,b,c,d,e,Cb f.symm,k⟩
def OwnC.lt (h:OwnC enc sz T B w v l):∀k,v.ownBlock=some k->B<=k/\k<w.heap.size:=by
 intro k hk;rcases h.row with⟨rfl,_⟩|⟨g,cap,cur,rfl,hb,hg,_⟩
 ·cases hk
 ·cases hk
  exact⟨hb,(Array.getElem?_eq_some_iff.1 hg).1⟩
def OwnC.mod {S:Nat->Prop}(h:OwnC enc sz T B w v l)(m:Mod S w w')(hS:∀k,v.ownBlock=some k->¬ S k):OwnC enc sz T B w' v l:=by
 refine⟨h.len,?_⟩;rcases h.row with h2|⟨g,cap,cur,hv,hg,hh,r⟩
 ·exact Or.inl h2
 ·have hb:g<w.heap.size:=(h.lt g (by rw[hv];rfl)).2;exact Or.inr ⟨g,cap,cur,hv,hg,by rw[m.block g hb (hS g (by rw[hv];rfl))];exact hh,r⟩
def OwnC.sl (h:OwnC enc sz T B w v l):Gq v l.length:=by
 rcases h.row with⟨h2,h3⟩|⟨g,cap,cur,hv,hg,hh,hn,_⟩
 ·exact .inl ⟨h2,h3⟩
 ·exact .inr (.inl ⟨g,0,cap,hv,hn⟩)
def OwnC.cellsAt (h:OwnC enc sz T B w v l){g:Nat}(hg:v.ownBlock=some g):∀j u,(l.flatMap enc)[j]?=some u->w.cell? ((⟨g,0,none⟩:Addr).add j)=some u:=by
 intro j u hu;rcases h.row with⟨rfl,_⟩|⟨g',cap,cur,rfl,_,hgg,_,_,_,htake⟩
 ·cases hg
 ·cases hg
  have r:(⟨g',0,none⟩:Addr).add j=⟨g',j,none⟩:=by
   unfold Addr.add;split
   ·rename_i e;rw[e]
   ·simp
  rw[r,cell_of_row w g' j cur T (0,0) hgg];rw[<-htake,AX]at hu;split at hu
  ·simpa using hu
  ·cases hu
def OwnC.arr (henc:∀x,(enc x).length=sz)(h:OwnC enc sz T B w v l):Fu enc sz w v l:=by
 refine⟨by rw[Au];exact h.sl,λi cs hi=>?_⟩;rw[AH]at hi
 cases hx:l[i]? with
 | none=>rw[hx]at hi;cases hi
 | some x=>
  rw[hx]at hi;simp only [Cm,Am.injEq]at hi;subst hi;refine⟨henc x,λj u z=>?_⟩;rcases h.row with⟨rfl,h3⟩|⟨g,cap,cur,rfl,hg,hh,hn,_⟩
  ·have:=A0 h3;subst this;simp at hx
  ·have r:=h.cellsAt (g:=g) rfl (i*sz+j) u (Re henc l i x hx j u z);have H:(⟨g,0,none⟩:Addr).add (i*sz+j)=⟨g,0+i*sz+j,none⟩:=by
    unfold Addr.add;split
    ·rename_i e;have h0:i*sz=0/\j=0:=by omega
     rw[h0.1,h0.2]
    ·simp [Nat.add_assoc]
   rw[H]at r;simpa [base]using r
def OwnC.heap (h:OwnC enc sz T B w v l){k:Nat}(hk:v.ownBlock=some k):∃cs,w.heap[k]?=some (.cells cs T (0,0)):=by
 rcases h.row with⟨rfl,_⟩|⟨g,cap,cur,rfl,_,hg,_⟩
 ·cases hk
 ·cases hk
  exact⟨cur,hg⟩
def OwnC.ne_blk {T':Nat}(h:OwnC enc sz T B w v l){b:Nat}{cs:List Value}(hb:Fp w b cs T')(hT:Nat.beq T T'=false):v.ownBlock≠some b:=λe=>by
 obtain⟨cs',r⟩:=h.heap e;unfold Fp at hb;rw[hb]at r;simp only [Am.injEq,Obj.cells.injEq]at r;rw[r.2.1]at hT;simp at hT
def Xbd.ne_ownC {P:Program}{κ δ:Type}[DecidableEq κ]{k:Nat}{kv:κ->Value}{av:δ->Value}{b n:Nat}{f:κ->Option δ}(h:Vc.Xbd P k kv av w b n f)(ho:OwnC enc sz T B w v l):v.ownBlock≠some b:=λe=>by
 obtain⟨cs,h1⟩:=ho.heap e;obtain⟨es,c,h2⟩:=h.heap;rw[h1]at h2
 cases h2
def slM (v:Value)(n:Nat):Value:=match v with
 | .slice (some a) _ _=>.slice (some a) n n
 | _=>.slice none 0 0
end
section
variable {P:Program}{n:Nat}{E:FF}{ds:List (Option Tmp)}{R:World->World->Prop}{r:List (Oper×Fl×Bool)}{K:FF->World->Prop}{w:World}{d:Tmp}{ty:TypeId}{pos:String}{af:Array Edge}{g:Option (Nat×Bool)}{anc:Bool}{v:Value}
def Xqj {α:Type}{enc:α->List Value}{t e sz B:Nat}{i:TypeInfo}{z:Value}{l lx:List α}(ht:P.underlying t=some (.slice e))(hi:P.info? e=some i)(hz:i.zero=some z)(hsize:i.size=sz)(hzs:z.cells.size=sz)(hsz:0<sz)
  (henc:∀x,(enc x).length=sz) (hown:OwnC enc sz e B w v l) (a:Addr) (c:Nat) (hnews:∀j u,(lx.flatMap enc)[j]?=some u->w.cell? (a.add j)=some u) (h1:∀u∈lx.flatMap enc,u.oneCell'=true)
  (h63:l.length+lx.length<=maxLen) (hbytes:(l.length+lx.length)*i.bytes<=140737488355328) (hB:B<=w.heap.size) :
  ∃v' w',(Builtin.append_ #[t,t] ty #[v,.slice (some a) lx.length c]).run P w=.ok v' w'/\OwnC enc sz e B w' v' (l++lx)/\w.grownBy w' v.ownBlock/\(v'.ownBlock=v.ownBlock\/v'.ownBlock=some w.heap.size):=by
 subst hsize;have hsmall:l.length+lx.length<=9223372036854775807:=by unfold maxLen at h63;omega
 have J:=FG henc (l++lx);have Z:=FG henc l;have H:=FG henc lx;have O:(l++lx).length=l.length+lx.length:=Ad;rcases hown.row with⟨rfl,hl0⟩|⟨g,cap,cur,rfl,hBg,hg,hnc,hcm,hcs,htake⟩
 ·have hl:=A0 hl0;subst hl;obtain⟨v',w',Y,h2,h3,_⟩:=run_append_own (P:=P) w B t ty e i z i.size i.bytes ht hi hz rfl rfl hzs hsz (.slice none 0 0) 0 [] (World.ownsRow_nil w B e i.size) a lx.length c (lx.flatMap enc) H hnews h1 (by simpa using h63) (by simpa using hbytes) hB;have hw:=RT (P:=P) ht hi hz hzs (World.ownsRow_nil w B e i.size) a lx.length c (lx.flatMap enc) H hnews h1 (by simpa using h63) (by simpa using hbytes) Y;exact⟨v',w',Y,Own.c ⟨by simpa using h2⟩,h3,hw⟩
 by_cases hroom:l.length+lx.length<=cap
 ·have ha:l.length*i.size+(lx.flatMap enc).length<=cur.size:=by
   rw[H,<-Cx];exact Ae (Nat.mul_le_mul_right _ hroom) hcs
  have Y:=run_append_room (P:=P) w t ty e i ht hi g l.length cap cur hg a lx.length c (lx.flatMap enc) H hnews h1 hroom ha;refine⟨_,_,Y,⟨J,.inr ⟨g,cap,_,by rw[O],hBg,setRow_heap w g cur _ e _ hg,by omega,hcm,?_,?_⟩⟩,⟨rfl,rfl,rfl,by simp,λk _ hk=>setRow_other w g k _ (λe=>hk (by simp [Value.ownBlock,e]))⟩,.inl rfl⟩
  ·simp only [Dr,Ad,AE,Bd,Array.length_toList];omega
  ·rw[htake,Bc,<-J,Bc];exact DT
 ·have Y:=run_append_grow (P:=P) w t ty e i z ht hi hz ⟨g,0,none⟩ l.length cap (l.flatMap enc) Z (hown.cellsAt (g:=g) rfl) a lx.length c (lx.flatMap enc) H hnews Fe Fe (growslice_fits Fe hbytes);have hc:=grownCap_ge w (l.length+lx.length) cap e;refine⟨_,_,Y,⟨J,.inr ⟨w.heap.size,_,_,by rw[O],hB,heap_alloc_new w.drew _,by rw[O];exact hc,grownCap_le_maxLen w _ cap e h63,?_,?_⟩⟩,⟨rfl,rfl,rfl,by simp,λk hk _=>heap_alloc_old w.drew _ hk⟩,.inr rfl⟩
  ·refine Cb ?_;simp only [Array.size_append,Dr,size_zeroCells,hzs,Z,H,<-Cx]
   congr 1
   omega
  ·rw[Bc]at J ⊢;simp only [Array.toList_append,A6];rw[<-A6,<-J];exact DT
def VH {α:Type}{enc:α->List Value}{s x:Operand}{t e sz by' B:Nat}{vx:Value}{l lx:List α}(hg:FU ds E g=true)(ht:IS P t=some (e,sz))(hE:M4 P e sz by'=true)
  (henc:∀x,(enc x).length=sz) (hown:OwnC enc sz e B w v l) (hax:Fu enc sz w vx lx) (hs:ev E s=v) (hx:ev E x=vx) (h1:∀x∈lx,∀u∈enc x,u.oneCell'=true)
  (hbytes:(l.length+lx.length)*by'<=140737488355328) (hby:1<=by') (hB:B<=w.heap.size) (hR:anc=true\/∀w',Mod (λk=>v.ownBlock=some k) w w'->R w w')
  (h:∀v' w',OwnC enc sz e B w' v' (l++lx)->Mod (λk=>v.ownBlock=some k) w w'->(v'.ownBlock=v.ownBlock\/v'.ownBlock=some w.heap.size)->Dw P n ds R r K (FW E d v') w') :
  Dw P n ds R ((⟨some d,.call { callee:=.builtin .append,args:=#[s,x],argTypes:=#[t,t] },ty,pos,af,g⟩,.x,anc) :: r) K E w:=by
 obtain⟨hu,_⟩:=KY ht;obtain⟨i,z,hi,hz,O,Z,hl,hh⟩:=PE hE;have hp:l.length+lx.length<=maxLen:=by
  unfold maxLen;have:(l.length+lx.length)*1<=(l.length+lx.length)*by':=CB _ hby;omega
 have hf:∀w',Mod (λk=>v.ownBlock=some k) w w'->anc=false->R w w':=λw' hm e=>hR.elim (λh=>by rw[h]at e;cases e) (λh=>h _ hm);have go:∀(a:Addr) (c:Nat),vx=.slice (some a) lx.length c->(∀j u,(lx.flatMap enc)[j]?=some u->w.cell? (a.add j)=some u)->Dw P n ds R ((⟨some d,.call { callee:=.builtin .append,args:=#[s,x],argTypes:=#[t,t] },ty,pos,af,g⟩,.x,anc) :: r) K E w:=by
  intro a c hv J;obtain⟨v',w',hr,h2,h3,hw⟩:=Xqj (ty:=ty) hu hi hz O hl hh henc hown a c J (Q2 h1) hp (by rw[Z];exact hbytes) hB;refine IA (w':=w') (v:=v') hg ?_ (hf _ (Mod.of_grown h3)) (h v' w' h2 (Mod.of_grown h3) hw);simp only [execOp,resolve,invoke,builtin,Sem.run_bind,Sem.run_pure,Result.andThen_ok,Cf,Ak,Bg,hs,hx,hv,hr]
 rcases hax.sl with⟨hv,hl0⟩|⟨b,o,c,hv,hc⟩|⟨hl0,a,c,hv⟩
 ·have H:=A0 hl0;subst H;subst hv;have Y:(Builtin.append_ #[t,t] ty #[v,.slice none 0 0]).run P w=.ok v w:=by
   rcases hown.sl with⟨rfl,hn⟩|⟨b,o,c,rfl,hn⟩|⟨hn,a,c,rfl⟩
   ·simp [Builtin.append_,run_underlying hu,sizeOf,typeInfo,hi,Builtin.lenOf,Builtin.firstCells]
   ·simp [Builtin.append_,run_underlying hu,sizeOf,typeInfo,hi,Builtin.lenOf,Builtin.firstCells,hn,storeCells]
   ·simp [Builtin.append_,run_underlying hu,sizeOf,typeInfo,hi,Builtin.lenOf,Builtin.firstCells,hn,storeCells]
  refine IA (w':=w) (v:=v) hg ?_ (hf _ (Mod.refl _ _)) (h v w (by simpa using hown) (Mod.refl _ _) (.inl rfl));simp only [execOp,resolve,invoke,builtin,Sem.run_bind,Sem.run_pure,Result.andThen_ok,Cf,Ak,Bg,hs,hx,Y]
 ·subst hv;refine go ⟨b,o,none⟩ c rfl (λj u hj=>?_);have:=Fu.flat henc hax j u hj;have ha:(⟨b,o,none⟩:Addr).add j=⟨b,o+j,none⟩:=by
   unfold Addr.add;split
   ·rename_i e;simp [e]
   ·rfl
  rw[ha];exact this
 ·have H:=A0 hl0;subst H;exact go a c hv (λj u hj=>by simp at hj)
end
end Go.Vc
namespace Go.Proofs.YtiooodckiddpmaaGreatDoor
open Go.Vc Go.Sp
attribute [local irreducible] W XW Dw GC
def HU : MapK Tryz.prog 120 9 123 S pO (λs=>s.length<=maxLen):=NH Ff Ff Sh
def FV (F:Nat->Prop)(w w':World):Nat->Prop:=λk=>F k\/(w.heap.size<=k/\k<w'.heap.size)
variable {F:Nat->Prop}{w w':World}
def Jq (h:∀k,F k->k<w.heap.size)(hs:w.heap.size<=w'.heap.size):∀k,FV F w w' k->k<w'.heap.size:=λk hk=>hk.elim (λh1=>Ay (h k h1) hs) (·.2)
structure Fm where
 name:Fj
 b:Nat
 v:Value
 f:Fil
@[reducible] def Fm.kv (e:Fm):Fj×Option Nat:=(e.name,some e.b)
@[reducible] def Fm.df (e:Fm):Fj×Fil:=(e.name,e.f)
@[reducible] def Fm.foot (e:Fm):Nat->Prop:=λk=>k=e.b\/e.v.ownBlock=some k
def fe (es:List Fm)(s:Fj):Option Fm:=es.find? λe=>decide (e.name=s)
def OW (es:List Fm)(s:Fj):lk (es.map Fm.kv) s=(fe es s).map λe=>some e.b:=by
 induction es with
 | nil=>rfl
 | cons e r ih=>
  rw[Ak,JT];unfold fe at ih ⊢;rw[CK]
  by_cases h:e.name=s
  ·simp [h]
  ·simp [h];exact ih
def Yai (es:List Fm)(s:Fj):lk (es.map Fm.df) s=(fe es s).map (·.f):=by
 induction es with
 | nil=>rfl
 | cons e r ih=>
  rw[Ak,JT];unfold fe at ih ⊢;rw[CK]
  by_cases h:e.name=s
  ·simp [h]
  ·simp [h];exact ih
variable {e:Fm}{es:List Fm}{s:Fj}
def Pg (h:fe es s=some e):e∈es/\e.name=s:=⟨List.mem_of_find?_eq_some h,by simpa using List.find?_some h⟩
structure DiskE (F:Nat->Prop)(bd mf:Nat)(es:List Fm)(D:Dsk)(w:World):Prop where
 m:Fp w bd [I D.room,.map (some mf),B D.fused,I D.left] 122
 map:Gr Tryz.prog 9 S pO w mf (es.map Fm.kv)
 fs:D.fs=es.map Fm.df
 el:∀e∈es,Fp w e.b [e.v,I ↑e.f.lasts] 125/\Vc.OwnC Fs 1 5 0 w e.v e.f.data
 ap:es.Pairwise (λa b=>∀k,a.foot k->¬ b.foot k)
 inF:∀k,(k=bd\/k=mf\/∃e∈es,e.foot k)->F k
 lt:∀k,F k->k<w.heap.size
 wf:D.Wf
def GG (F:Nat->Prop)(bd:Nat)(D:Dsk)(w:World):Prop:=∃mf es,DiskE F bd mf es D w
section
variable {F S:Nat->Prop}{bd mf:Nat}{es:List Fm}{D:Dsk}{w w':World}
def DiskE.mod (h:DiskE F bd mf es D w)(m:Vc.Mod S w w')(hS:∀k,F k->¬ S k):DiskE F bd mf es D w':=
 ⟨h.m.mod m (hS _ (h.inF _ (.inl rfl))),h.map.mod m (hS _ (h.inF _ (.inr (.inl rfl)))),h.fs,λe he=>⟨(h.el e he).1.mod m (hS _ (h.inF _ (.inr (.inr ⟨e,he,.inl rfl⟩)))),(h.el e he).2.mod m (λk hk=>hS _ (h.inF _ (.inr (.inr ⟨e,he,.inr hk⟩))))⟩,
  h.ap,h.inF,λk hk=>Ay (h.lt k hk) m.size,h.wf⟩
def DiskE.ext (h:DiskE F bd mf es D w)(x:Fq w w'):DiskE F bd mf es D w':=h.mod x (λ_ _ h=>h)
instance : Up w w' (DiskE F bd mf es D w) (DiskE F bd mf es D w'):=⟨λx h=>h.ext x⟩
variable {G:Nat->Prop}
def DiskE.wide (h:DiskE F bd mf es D w)(hG:∀k,F k->G k)(hl:∀k,G k->k<w.heap.size):DiskE G bd mf es D w:=⟨h.m,h.map,h.fs,h.el,h.ap,λk hk=>hG k (h.inF k hk),hl,h.wf⟩
def DiskE.grow (h:DiskE F bd mf es D w)(x:Fq w w'):DiskE (FV F w w') bd mf es D w':=(h.ext x).wide (λ_ h=>.inl h) (Jq h.lt x.size)
def GG.mod (h:GG F bd D w)(m:Vc.Mod S w w')(hS:∀k,F k->¬ S k):GG F bd D w':=by
 obtain⟨mf,es,h⟩:=h;exact⟨mf,es,h.mod m hS⟩
def GG.ext (h:GG F bd D w)(x:Fq w w'):GG F bd D w':=h.mod x (λ_ _ h=>h)
instance : Up w w' (GG F bd D w) (GG F bd D w'):=⟨λx h=>h.ext x⟩
def GG.lt (h:GG F bd D w):∀k,F k->k<w.heap.size:=by obtain⟨_,_,h⟩:=h;exact h.lt
def GG.wf (h:GG F bd D w):D.Wf:=by obtain⟨_,_,h⟩:=h;exact h.wf
def GG.wide (h:GG F bd D w)(hG:∀k,F k->G k)(hl:∀k,G k->k<w.heap.size):GG G bd D w:=by obtain⟨mf,es,h⟩:=h;exact⟨mf,es,h.wide hG hl⟩
def GG.grow (h:GG F bd D w)(x:Fq w w'):GG (FV F w w') bd D w':=by obtain⟨mf,es,h⟩:=h;exact⟨mf,es,h.grow x⟩
def DiskE.look (h:DiskE F bd mf es D w)(s:Fj):lk D.fs s=(fe es s).map (·.f):=by rw[h.fs];exact Yai es s
def DiskE.nd (h:DiskE F bd mf es D w):(es.map (·.name)).Nodup:=by
 have:=h.map.nodup;rwa [Bq]at this
variable {e:Fm}
def DiskE.name (h:DiskE F bd mf es D w)(he:e∈es):1<=e.name.length/\e.name.length<=64:=h.wf.name (e.name,e.f) (by rw[h.fs];exact Ao.2 ⟨e,he,rfl⟩)
def DiskE.data (h:DiskE F bd mf es D w)(he:e∈es):e.f.data.length<=1073741824:=h.wf.data (p:=(e.name,e.f)) (by rw[h.fs];exact Ao.2 ⟨e,he,rfl⟩)
def DiskE.lasts (h:DiskE F bd mf es D w)(he:e∈es):e.f.lasts<=e.f.data.length:=h.wf.lasts (e.name,e.f) (by rw[h.fs];exact Ao.2 ⟨e,he,rfl⟩)
def DiskE.fe_in (h:DiskE F bd mf es D w)(he:e∈es):fe es e.name=some e:=by
 have hn:=h.nd;clear h
 induction es with
 | nil=>cases he
 | cons a r ih=>
  rw[Ak,Ba]at hn;unfold fe at ih ⊢;rw[CK];rcases Ah.1 he with rfl|he
  ·simp
  ·have:a.name≠e.name:=λe2=>hn.1 (e2▸Ao.2 ⟨e,he,rfl⟩);simp [this];exact ih he hn.2
def DiskE.head {D':Dsk}(h:DiskE F bd mf es D w)(m:Vc.Mod (Fv bd) w w')(hm:Fp w' bd [I D'.room,.map (some mf),B D'.fused,I D'.left] 122)(hf:D'.fs=D.fs)(hw:D'.Wf):DiskE F bd mf es D' w':=by
 have z:∀e∈es,e.b≠bd/\e.v.ownBlock≠some bd:=λe he=>⟨(h.el e he).1.ne h.m rfl,(h.el e he).2.ne_blk h.m rfl⟩;exact⟨hm,h.map.mod m (λe=>h.map.at.ne_blk h.m (Eq.symm e)),hf.trans h.fs,λe he=>⟨(h.el e he).1.mod m (z e he).1,(h.el e he).2.mod m (λk hk e2=>(z e he).2 (e2▸hk))⟩,h.ap,h.inF,λk hk=>Ay (h.lt k hk) m.size,hw⟩
end
variable {D:Dsk}{l:List Fj}
def Yc9 (h1:D.fused=true)(h2:D.left=0):D.may l=9:=by unfold Dsk.may;rw[if_pos ⟨h1,h2⟩]
def VR (h1:¬ (D.fused=true/\D.left=0))(hs:s∈l)(h:¬ (1<=s.length/\s.length<=64)):D.may l=1:=by
 unfold Dsk.may;rw[if_neg h1,if_neg];intro h2;exact h (by simpa using AQ.1 h2 s hs)
def VG (h1:¬ (D.fused=true/\D.left=0))(h:∀s∈l,1<=s.length/\s.length<=64):D.may l=0:=by
 unfold Dsk.may;rw[if_neg h1,if_pos (AQ.2 λs hs=>by simpa using h s hs)]
def Tf : (fe es s).isSome=true↔s∈es.map (·.name):=by
 unfold fe;rw[List.find?_isSome];simp
variable {n:Fj}
def Xw6 {rem:List Fm}{y:Fj}: (y∈rem.map (·.name)/\y≠n)↔y∈(rem.filter λq=>decide (q.name≠n)).map (·.name):=by
 simp only [Ao,Ax,decide_eq_true_eq]
 constructor
 ·rintro ⟨⟨e,he,rfl⟩,hn⟩;exact⟨e,⟨he,hn⟩,rfl⟩
 ·rintro ⟨e,⟨he,hn⟩,rfl⟩;exact⟨⟨e,he,rfl⟩,hn⟩
def Xw7 {rem:List Fm}(he:e∈rem)(hnd:(rem.map (·.name)).Nodup):(rem.map (·.f.data.length)).sum=e.f.data.length+((rem.filter λq=>decide (q.name≠e.name)).map (·.f.data.length)).sum/\(rem.filter λq=>decide (q.name≠e.name)).length<rem.length/\((rem.filter λq=>decide (q.name≠e.name)).map (·.name)).Nodup:=by
 refine⟨?_,?_,List.Nodup.sublist (C0 _ BZ) hnd⟩
 ·induction rem with
  | nil=>cases he
  | cons a r z=>
   rw[Ak,Ba]at hnd;rw[BJ];rcases Ah.1 he with rfl|he
   ·have:r.filter (λq=>decide (q.name≠e.name))=r:=Bz.2 λq H=>by
     have:q.name≠e.name:=λe2=>hnd.1 (e2▸Ao.2 ⟨q,H,rfl⟩);simp [this]
    rw[this];simp
   ·have:a.name≠e.name:=λe2=>hnd.1 (e2▸Ao.2 ⟨e,he,rfl⟩);have z:=z he hnd.2;simp only [this,ne_eq,not_false_eq_true,decide_true,if_true,Ak,A4]at z ⊢;omega
 ·refine Nat.lt_of_le_of_ne (Bk ..) λh=>?_;have:=Bz.1 (List.Sublist.eq_of_length BZ h) e he;simp at this
def RI (bd mf:Nat)(D:Dsk)(l:List Fj)(v:Value)(w:World)(hd:Fp w bd [I D.room,.map (some mf),B D.fused,I D.left] 122)(hv:Fu GF 1 w v l)(hl:l.length<=1000000) :
  FX 160 [Fh bd 0,v] w (I (D.may l)):=by
 refine cE Tryz.func160 λz=>?_;refine wS (g0 ?_);refine GP (G:=Unit) (λY=>[(1,v)]) (λY w'=>Fq w w'/\¬ (D.fused=true/\D.left=0)) ?_ ?_
 ·refine go ?_;refine dp (GY Ff rfl rfl) ?_;refine Fk (λZ=>?_) λZ=>?_
  ·exact absurd Z F0
  refine go ?_;refine IR 15 rfl (λJ=>?_) (λJ=>?_)
  ·refine Fk (λO=>?_) λO=>?_
   ·refine go ?_;exact⟨by rw[Yc9 J O],z⟩
   refine go ?_;exact⟨(),Qe,z,λh=>O h.2⟩
  refine go ?_;refine GS rfl (go ?_);exact⟨(),Qe,z,λh=>by rw[J]at h;cases h.1⟩
 rintro _ Y w1 ⟨z,hlv⟩;refine FM 9 1 hv.sl ?_;refine F8 (G:=Nat) (λk=>[(22,v),(23,I ↑l.length),(24,I ↑k)]) (λk w'=>Fq w w'/\k<=l.length/\∀s∈l.take k,1<=s.length/\s.length<=64) (λk=>l.length-k) 0 ⟨z,Ab _,by simp⟩ ?_;rintro _ k w2 ⟨z,hk1,hA⟩;refine Fk (λc4=>?_) λc4=>?_
 ·obtain⟨s,hk⟩:∃s,l[k]?=some s:=F7;refine FN 9 1 hv.sl (hv.lt hk) ?_;refine dl rfl (((hv.ext z).row hk).at0 rfl) ?_;refine FJ 31 (λc5=>?_) λc5=>?_
  ·refine go ?_;refine GU rfl (go ?_);exact⟨by rw[VR hlv (Ag hk) Fe],z⟩
  refine Fk (λc6=>?_) λc6=>?_
  ·refine go ?_;exact⟨by rw[VR hlv (Ag hk) Fe],z⟩
  refine go ?_;refine FL (k+1) ⟨z,by omega,λq H=>?_⟩;rw[GW hk]at H;rcases Al.1 H with H|H
  ·exact hA q H
  ·rw[Af.1 H];omega
 refine go ?_;rw[Av Fe]at hA;exact⟨by rw[VG hlv hA],z⟩
def QN (F:Nat->Prop)(bd mf:Nat)(es:List Fm)(D:Dsk)(w:World)(h:DiskE F bd mf es D w)(hlv:¬ (D.fused=true/\D.left=0)) :
  G4 162 [Fh bd 0] w (Fv bd) λu w'=>u=I 0/\DiskE F bd mf es D.tick w':=by
 refine cE Tryz.func162 λz=>?_;have hd:=h.m;have hl0:=h.wf.left0;have hl1:=h.wf.left1;refine Gb (λH=>?_) λH=>?_
 ·have hl2:D.left≠0:=λe=>hlv ⟨H,e⟩;refine go ?_;refine HL hd (λw1 J xs1 hd=>?_);have z:=(z.mod J).mono (λi hi _=>(hi:(Fv bd) i));refine go ?_;refine⟨_,rfl,z,rfl,h.head z ?_ ?_ (h.wf.tick hlv)⟩
  ·rw[show D.tick={ D with left:=D.left-1 } from if_pos H];exact hd
  ·rw[show D.tick={ D with left:=D.left-1 } from if_pos H]
 refine go ?_;have e:D.tick=D:=if_neg (by rw[H];decide);rw[e];exact⟨_,rfl,(Vc.Mod.refl _ _).ext z,rfl,h.ext z⟩
def Yal (F:Nat->Prop)(bd mf:Nat)(es:List Fm)(D:Dsk)(w:World)(h:DiskE F bd mf es D w) :
  FX 161 [Fh bd 0] w (I ↑D.used):=by
 refine cE Tryz.func161 λz=>?_;have hd:=h.m;have hf:=h.map.at;have hub:D.used<=1073741824:=by have:=h.wf.used;have:=h.wf.room1;omega
 refine go ?_;refine dp (OB Ff rfl rfl) ?_;refine Fk (λc1=>?_) λc1=>?_
 ·refine go ?_;refine WV HU rfl rfl hf RX.all (λb1 w1 ha e1 x1 hcn1 H=>?_);have g1:=z.ge e1;have z:=z.trans x1;refine F8 (G:=List Fm×Nat×Nat) (λ(rem,n,cnt)=>[(2,I 0),(3,I ↑n),(12,Fh b1 0)]) (λ(rem,n,cnt) w'=>Fq w w'/\Vc.Xa4 Tryz.prog 9 S pO w' mf b1 (es.map Fm.kv).length (lk (es.map Fm.kv)) (λx=>x∈rem.map (·.name)) cnt/\n+(rem.map (·.f.data.length)).sum=D.used/\(rem.map (·.name)).Nodup/\∀e∈rem,e∈es) (λ(rem,n,cnt)=>cnt) (es,0,ha) ⟨z,H.congr (λx=>by rw[OW,Db];exact Tf),(by rw[N2,h.fs,JD,Bq,A5];rfl),h.nd,λe he=>he⟩ ?_;rintro _ ⟨rem,n,cnt⟩ w2 ⟨z,H,hsum,hnd,hin⟩;refine go ?_;refine WT HU rfl rfl H (.inl rfl) (λhj=>?_) (λx a w3 Z hok hg hc hl xs3 hw J Y=>?_)
  ·refine go ?_;refine GS rfl (go ?_);have hr:rem=[]:=by
    cases rem with
    | nil=>rfl
    | cons q r=>exact absurd (Ao.2 ⟨q,Ai,rfl⟩) (hj q.name (by have:=h.name (hin q Ai);unfold maxLen;omega))
   subst hr;simp only [Bg,List.sum_nil,Nat.add_zero]at hsum;exact⟨by rw[hsum],z⟩
  have z:=z.own hl F5;have H:=J;obtain⟨e,he,rfl⟩:=Ao.1 hg;have ht:=h.fe_in (hin e he);rw[OW,ht]at hc
  cases hc
  have hp:=(h.el e (hin e he)).1;have hh:=(h.el e (hin e he)).2.arr Fg;have hmem:=h.data (hin e he);obtain⟨hperm,hlen,O⟩:=Xw7 he hnd;refine go ?_;refine GU rfl (go ?_);refine dq (Xrt rfl Y) (go ?_);refine dl rfl ((hp.ext z).at rfl) (dv 5 1 (hh.ext z).sl (go ?_));refine⟨(rem.filter (λq=>decide (q.name≠e.name)),n+e.f.data.length,Z),Kq,⟨z,H.congr (λy=>?_),by omega,O,λq hq=>hin q (Ax.1 hq).1⟩,hw⟩;exact Xw6
 exact absurd c1 F0
def HZ (es:List Fm)(n:Fj)(e:Fm):List Fm:=if(fe es n).isSome then es.map (λq=>if q.name=n then e else q)else es++[e]
def X64 (h:e.name=n):(HZ es n e).map Fm.kv=FB (es.map Fm.kv) n (some e.b):=by
 unfold HZ FB;rw[OW,Db];split
 ·rw[Bq,Bq];refine BN λq _=>?_;simp only [Function.comp];split<;>simp [h]
 ·simp [h]
def X65 (h:e.name=n):(HZ es n e).map Fm.df=FB (es.map Fm.df) n e.f:=by
 unfold HZ FB;rw[Yai,Db];split
 ·rw[Bq,Bq];refine BN λq _=>?_;simp only [Function.comp];split<;>simp [h]
 ·simp [h]
def U0 {q:Fm}(h:q∈HZ es n e):q=e\/(q∈es/\q.name≠n):=by
 unfold HZ at h;split at h
 ·obtain⟨a,z,rfl⟩:=Ao.1 h;split
  ·exact .inl rfl
  ·rename_i hn;exact .inr ⟨z,hn⟩
 ·rename_i hn;rcases Al.1 h with h|h
  ·refine .inr ⟨h,λe2=>hn ?_⟩;rw[Tf];exact e2▸Ao.2 ⟨q,h,rfl⟩
  ·exact .inl (Af.1 h)
def Xoi : e∈HZ es n e:=by
 unfold HZ;split
 ·rename_i h;obtain⟨q,z⟩:=Option.isSome_iff_exists.1 h;obtain⟨h1,h2⟩:=Pg z;exact Ao.2 ⟨q,h1,by simp [h2]⟩
 ·exact Bb _ (Af.2 rfl)
def IK (a b:Fm):Prop:=∀k,a.foot k->¬ b.foot k
def IK.symm {a b:Fm}(h:IK a b):IK b a:=λk h1 h2=>h k h2 h1
def TJ (h:es.Pairwise IK){a b:Fm}(ha:a∈es)(hb:b∈es)(hn:a.name≠b.name):IK a b:=by
 induction es with
 | nil=>cases ha
 | cons q r ih=>
  rw[AN]at h;rcases Ah.1 ha with e1|ha
  ·rcases Ah.1 hb with e2|hb
   ·exact absurd (by rw[e1,e2]) hn
   ·rw[e1];exact h.1 b hb
  ·rcases Ah.1 hb with e2|hb
   ·rw[e2];exact(h.1 a ha).symm
   ·exact ih h.2 ha hb
def Yam (h:es.Pairwise IK)(hnd:(es.map (·.name)).Nodup)(he:∀q∈es,q.name≠n->IK e q):(HZ es n e).Pairwise IK:=by
 unfold HZ;split
 ·rw[CZ];refine EY (λ {a b} z hb hab=>?_) (h.and (CZ.1 hnd))
  by_cases h1:a.name=n
  ·by_cases h2:b.name=n
   ·exact absurd (h1.trans h2.symm) hab.2
   ·rw[if_pos h1,if_neg h2];exact he b hb h2
  ·by_cases h2:b.name=n
   ·rw[if_neg h1,if_pos h2];exact(he a z h1).symm
   ·rw[if_neg h1,if_neg h2];exact hab.1
 ·rename_i hn;refine Bw.2 ⟨h,List.pairwise_singleton ..,λa z b hb=>?_⟩;rw[Af.1 hb];exact(he a z (λe2=>hn (by rw[Tf];exact e2▸Ao.2 ⟨a,z,rfl⟩))).symm
section
variable {F Sx:Nat->Prop}{bd mf:Nat}{es:List Fm}{D:Dsk}{w w':World}
variable {e:Fm}
def DiskE.foot_bd (h:DiskE F bd mf es D w)(he:e∈es):¬ e.foot bd:=λhk=>hk.elim (λe2=>(h.el e he).1.ne h.m rfl e2.symm) (λe2=>(h.el e he).2.ne_blk h.m rfl e2)
def DiskE.foot_mf (h:DiskE F bd mf es D w)(he:e∈es):¬ e.foot mf:=λhk=>hk.elim (λe2=>h.map.at.ne_blk (h.el e he).1 e2.symm) (λe2=>h.map.at.ne_ownC (h.el e he).2 e2)
def DiskE.bd_mf (h:DiskE F bd mf es D w):bd≠mf:=h.map.at.ne_blk h.m
def DiskE.foot_F (h:DiskE F bd mf es D w)(he:e∈es){k:Nat}(hk:e.foot k):F k:=h.inF k (.inr (.inr ⟨e,he,hk⟩))
def DiskE.put {n:Fj}(h:DiskE F bd mf es D w)(hen:e.name=n)(m:Vc.Mod Sx w w')(hS:∀k,Sx k->k<w.heap.size->k=mf\/∃q∈es,q.name=n/\q.foot k)(hm:Gr Tryz.prog 9 S pO w' mf (FB (es.map Fm.kv) n (some e.b)))(hb:Fp w' e.b [e.v,I ↑e.f.lasts] 125)(ho:Vc.OwnC Fs 1 5 0 w' e.v e.f.data)(hd:∀k,e.foot k->w.heap.size<=k\/(F k/\∀q∈es,q.name≠n->¬ q.foot k))(hw:Dsk.Wf { D with fs:=FB D.fs n e.f }):DiskE (FV F w w') bd mf (HZ es n e) { D with fs:=FB D.fs n e.f } w':=by
 have O:∀q∈es,q.name≠n->∀k,q.foot k->¬ Sx k:=λq z H k hk hs=>by
  rcases hS k hs (h.lt k (h.foot_F z hk))with rfl|⟨q2,hq2,hn2,J⟩
  ·exact h.foot_mf z hk
  ·exact TJ h.ap z hq2 (λe2=>H (e2.trans hn2)) k hk J
 refine⟨h.m.mod m (λhs=>?_),by rw[X64 hen];exact hm,by simp only;rw[X65 hen,h.fs],λq z=>?_,Yam h.ap h.nd λq z H k hk J=>?_,λk hk=>?_,Jq h.lt m.size,hw⟩
 ·rcases hS bd hs h.m.lt with e2|⟨q,z,_,hk⟩
  ·exact h.bd_mf e2
  ·exact h.foot_bd z hk
 ·rcases U0 z with rfl|⟨z,H⟩
  ·exact⟨hb,ho⟩
  ·exact⟨(h.el q z).1.mod m (O q z H _ (.inl rfl)),(h.el q z).2.mod m (λk hk=>O q z H k (.inr hk))⟩
 ·rcases hd k hk with h1|⟨_,h1⟩
  ·have:=h.lt k (h.foot_F z J);omega
  ·exact h1 q z H J
 ·rcases hk with rfl|rfl|⟨q,z,hk⟩
  ·exact .inl (h.inF _ (.inl rfl))
  ·exact .inl (h.inF _ (.inr (.inl rfl)))
  ·rcases U0 z with rfl|⟨z,_⟩
   ·rcases hd k hk with h1|⟨h1,_⟩
    ·refine .inr ⟨h1,?_⟩;rcases hk with rfl|hk
     ·exact hb.lt
     ·exact(ho.lt k hk).2
    ·exact .inl h1
   ·exact .inl (h.foot_F z hk)
def DiskE.take {n:Fj}(h:DiskE F bd mf es D w)(m:Vc.Mod (Fv mf) w w')(hm:Gr Tryz.prog 9 S pO w' mf (G3 (es.map Fm.kv) n)):DiskE F bd mf (es.filter λe=>decide (e.name≠n)) (D.gone n) w':=by
 have z:∀ {β:Type} (g:Fm->Fj×β),(∀e,(g e).1=e.name)->G3 (es.map g) n=(es.filter λe=>decide (e.name≠n)).map g:=by
  intro β g J;unfold G3;rw[List.filter_map]
  congr 1
  refine List.filter_congr λe _=>?_;simp [J]
 refine⟨h.m.mod m (λe=>h.bd_mf e),by rw[<-z Fm.kv (λ_=>rfl)];exact hm,by show G3 D.fs n=_;rw[h.fs,z Fm.df (λ_=>rfl)],λe he=>?_,h.ap.sublist BZ,λk hk=>?_,λk hk=>Ay (h.lt k hk) m.size,h.wf.gone n⟩
 ·have he:=(Ax.1 he).1;exact⟨(h.el e he).1.mod m (λe2=>h.foot_mf he (.inl (Eq.symm e2))),(h.el e he).2.mod m (λk hk e2=>by have H:k=mf:=e2;exact h.foot_mf he (.inr (H▸hk)))⟩
 ·refine h.inF k (hk.imp (λh=>h) (Or.imp (λh=>h) λ⟨e,he,hk⟩=>⟨e,(Ax.1 he).1,hk⟩))
def Xw8 {κ α:Type}[DecidableEq κ]{l:List (κ×α)}{n:κ}{a:α}(hn:(l.map (·.1)).Nodup)(h:lk l n=some a):FB l n a=l:=by
 unfold FB;rw[h,if_pos (by rfl)]
 conv=>rhs;rw[<-E5 l]
 refine BN λp z=>?_;split
 ·rename_i e;have h2:=X98 hn (x:=p.1) (a:=p.2) z;rw[e,h]at h2
  cases h2
  exact Du e.symm rfl
 ·rfl
def DiskE.self (h:DiskE F bd mf es D w)(he:e∈es):FB (es.map Fm.kv) e.name (some e.b)=es.map Fm.kv:=Xw8 h.map.nodup (by rw[OW,h.fe_in he];rfl)
def DiskE.file {v:Value}{f:Fil}(h:DiskE F bd mf es D w)(he:e∈es)(m:Vc.Mod Sx w w')(hS:∀k,Sx k->k<w.heap.size->e.foot k)(hb:Fp w' e.b [v,I ↑f.lasts] 125)(ho:Vc.OwnC Fs 1 5 0 w' v f.data)(hv:v.ownBlock=e.v.ownBlock\/∀k,v.ownBlock=some k->w.heap.size<=k)(hw:Dsk.Wf { D with fs:=FB D.fs e.name f }):DiskE (FV F w w') bd mf (HZ es e.name ⟨e.name,e.b,v,f⟩) { D with fs:=FB D.fs e.name f } w':=by
 refine h.put (e:=⟨e.name,e.b,v,f⟩) rfl m (λk hk H=>.inr ⟨e,he,rfl,hS k hk H⟩) ?_ hb ho (λk hk=>?_) hw
 ·rw[h.self he]
  by_cases hs:mf<w.heap.size
  ·exact h.map.mod m (λhk=>h.foot_mf he (hS mf hk hs))
  ·exact absurd h.map.lt hs
 ·have old:e.foot k->w.heap.size<=k\/(F k/\∀q∈es,q.name≠e.name->¬ q.foot k):=λhk=>.inr ⟨h.foot_F he hk,λq O z J=>TJ h.ap O he z k J hk⟩;rcases hk with rfl|hk
  ·exact old (.inl rfl)
  ·rcases hv with e2|e2
   ·exact old (.inr (e2▸hk))
   ·exact .inl (e2 k hk)
end
def MA : Option Fm->Option Addr
 | none=>none
 | some e=>some ⟨e.b,0,none⟩
variable {o:Option Fm}
def Pw : MA o=none↔o=none:=by cases o<;>simp [MA]
def Q3 (h:¬ MA o=none):∃e,o=some e:=by
 cases o with
 | none=>exact absurd rfl h
 | some e=>exact⟨e,rfl⟩
section
variable {E:FF}{dd:Option Tmp}{ty:TypeId}{pos:String}{af:Array Edge}{g:Option (Nat×Bool)}{x y:Operand}{w:World}{mf n:Nat}{es:List Fm}{s:Fj}
def Pj {m:Operand}(hm:ev E m=.map (some mf))(hx:ev E x=S s)(h:Vc.Xbd Tryz.prog 9 S pO w mf n (lk (es.map Fm.kv)))(hok:s.length<=maxLen) :
  LV Tryz.prog ⟨dd,.lookup 120 m x false,ty,pos,af,g⟩ E w (.pointer (MA (fe es s))):=by
 have:=M9 (P:=Tryz.prog) (dd:=dd) (ty:=ty) (pos:=pos) (af:=af) (g:=g) HU (kx:=s) (z0:=none) hm hx Ff h hok;rw[OW]at this
 cases e:fe es s<;>(rw[e]at this;exact this)
end
def KG (bd:Nat)(l:List Nat)(w:World):Prop:=∀b∈l,Fp w b [Fh bd 0] 26
variable {bd:Nat}
def KG.mod {l:List Nat}{S:Nat->Prop}(h:KG bd l w)(m:Vc.Mod S w w')(hS:∀b∈l,¬ S b):KG bd l w':=λb hb=>(h b hb).mod m (hS b hb)
def KG.ext {l:List Nat}(h:KG bd l w)(m:Fq w w'):KG bd l w':=h.mod m (λ_ _ h=>h)
instance {bd : Nat} {l:List Nat} {w w':World} : Up w w' (KG bd l w) (KG bd l w'):=⟨λx h=>h.ext x⟩
def Dsk.each_nil (a:Fj->Dsk->Dsk)(D:Dsk):Dsk.each a [] D=(0,D):=rfl
variable {a:Fj->Dsk->Dsk}{r:List Fj}
def Dsk.each_may (h:D.may [s]≠0):Dsk.each a (s :: r) D=(D.may [s],D):=by unfold Dsk.each;rw[if_pos h]
def Dsk.each_none (h:D.may [s]=0)(h2:lk D.fs s=none):Dsk.each a (s :: r) D=(7,D):=by unfold Dsk.each;rw[if_neg (λe=>e h),if_pos (by rw[h2];rfl)]
variable {f:Fil}
def Dsk.each_some (h:D.may [s]=0)(h2:lk D.fs s=some f):Dsk.each a (s :: r) D=Dsk.each a r (Dsk.tick (a s D)):=by rw[Dsk.each.eq_def];simp only [];rw[if_neg (λe=>e h),if_neg (by rw[h2];simp)]
def DiskE.old {mf:Nat}(h:DiskE F bd mf es D w)(he:e∈es):D.old e.name=e.f:=by unfold Dsk.old;rw[h.look,h.fe_in he];rfl
variable {b:Nat}
def Ma (h:Fp w b [S s] 9):Fu GF 1 w (.slice (some ⟨b,0,none⟩) 1 1) [s]:=h.arr (enc:=GF) (sz:=1) (l:=[s]) rfl Fg rfl F0
def X67 (F:Nat->Prop)(bd mf:Nat)(es:List Fm)(D:Dsk)(e:Fm)(w:World)(h:DiskE F bd mf es D w)(he:e∈es) :
  G4 163 [S e.name,Fh e.b 0] w F λu w'=>GG (FV F w w') bd (Dsk.lastsA e.name D) w':=by
 refine cE Tryz.func163 λO=>?_;have hb:=(h.el e he).1;have H:=(h.el e he).2;have ho:=H.arr Fg;have J:=H.ne_blk hb rfl;have z:=h.old he;refine FM 5 1 (ho.ext O).sl ?_;refine go ?_;refine HL hb (λw1 Y xs1 hb=>?_) (hv:=by rfl);have O:=(O.mod Y).mono (λi hi _=>(h.foot_F he (.inl hi):F i));refine go ?_;refine Ig (H6 rfl (⟨_,rfl,O,?_⟩));have:=h.file (v:=e.v) (f:=⟨e.f.data,e.f.data.length⟩) he Y (λk hk _=>.inl hk) hb (H.mod Y (λk hk e2=>J (by have Z:k=e.b:=e2;rw[hk,Z]))) (.inl rfl) (h.wf.set (h.name he) (Aa _) (by rw[z];have:=h.wf.used;simp only;omega) (.inl (by rw[h.look,h.fe_in he];rfl)));unfold Dsk.lastsA;rw[z];exact⟨_,_,this⟩
def Yan (F:Nat->Prop)(bd mf:Nat)(es:List Fm)(D:Dsk)(e:Fm)(bx:Nat)(w:World)(h:DiskE F bd mf es D w)(he:e∈es)(hbx:Fp w bx [Fh bd 0] 26) :
  G4 110 [S e.name,Fh e.b 0,Fh bx 0] w F λu w'=>GG (FV F w w') bd (Dsk.gone e.name D) w':=by
 refine cE Tryz.func110 λz=>?_;have hd:=h.m;refine go ?_;refine Ss (l:=es.map Fm.kv) HU rfl rfl rfl (h.map.ext z) (by have:=(h.name he).2;unfold maxLen;omega) (.inl rfl) (λw9 J xs9 O=>?_);have H:=h.ext z;have z:=(z.mod J).mono (λi hi _=>(h.inF i (.inr (.inl hi)):F i));refine go ?_;refine Ig (H6 rfl ?_);exact⟨_,rfl,z,mf,_,(H.take J O).wide (λ_ h=>.inl h) (Jq h.lt z.size)⟩
def Us (F:Nat->Prop)(bd:Nat)(D:Dsk)(l:List Fj)(v:Value)(a:Fj->Dsk->Dsk)(gf:Nat)(cs:List Value)(bxs:List Nat)(w:World)(h:GG F bd D w)(hv:Fu GF 1 w v l)(hl:l.length<=100000)(hdv:l≠[]->¬ F (base v).1)(hcb:Hr Tryz.prog gf=true)(ha:∀n D,(a n D).fused=D.fused/\(a n D).left=D.left)(hX0:KG bd bxs w)(hxF:∀b∈bxs,¬ F b)(hg:∀(F:Nat->Prop) (mf:Nat) (es:List Fm) (D:Dsk) (w:World) (e:Fm),DiskE F bd mf es D w->e∈es->KG bd bxs w->Calls Tryz.prog gf ([S e.name,Fh e.b 0]++cs).toArray w (Hp F w (λ_ w'=>GG (FV F w w') bd (a e.name D) w'))) :
  G4 109 [Fh bd 0,v,J2 gf cs] w F λu w'=>u=I (Dsk.each a l D).1/\GG (FV F w w') bd ((Dsk.each a l D).2) w':=by
 refine cM Tryz.func109 F λH=>?_;have hf:∀b∈bxs,¬ (F b\/w.heap.size<=b):=λb hb h=>h.elim (hxF b hb) (λh2=>by have:=(hX0 b hb).lt;omega);refine go ?_;refine dp (GY Ff rfl rfl) ?_;refine Fk (λc1=>?_) λc1=>?_
 ·exact absurd c1 F0
 refine FM 9 1 (hv.mod H hdv).sl ?_;refine F8 (G:=Nat×(Nat->Prop)×Dsk) (λ(k,Fc,Dc)=>[(0,Fh bd 0),(2,J2 gf cs),(13,v),(14,I ↑l.length),(15,I ↑k)]) (λ(k,Fc,Dc) w'=>Mod F w w'/\k<=l.length/\GG Fc bd Dc w'/\KG bd bxs w'/\(∀i,F i->Fc i)/\(∀i,Fc i->F i\/w.heap.size<=i)/\Dsk.each a l D=Dsk.each a (l.drop k) Dc) (λ(k,Fc,Dc)=>l.length-k) (0,F,D) ⟨H,Ab _,h,hX0,λ_ h=>h,λ_ h=>.inl h,rfl⟩ ?_;rintro _ ⟨k,Fc,Dc⟩ w1 ⟨H,hk1,⟨mf,es,z⟩,J,hsup,hsub,hev⟩;have hd:=z.m;refine Fk (λc2=>?_) λc2=>?_
 ·obtain⟨s,hk⟩:∃s,l[k]?=some s:=F7;have Z:=Ja hk;refine go ?_;refine di 9 1 (hv.mod H hdv).sl rfl ((hv.mod H hdv).lt hk) (dl rfl (((hv.mod H hdv).row hk).at0 rfl) (go ?_));refine li (e:=9) (sz:=1) (zs:=[S []]) (pv:=[(0,_)]) (cs:=[_]) RX.all (λb1 w2 e1 x2 m1=>?_);have g1:=H.ge e1;refine FQ x2 z hd J H λz hd J H=>cP (RI bd mf Dc [s] _ _ hd (Ma m1) F0) RX.all λw3 x3=>FQ x3 z hd J H λz hd J H=>?_;refine Fk (λc3=>?_) λc3=>?_
  ·refine go ?_;refine⟨_,rfl,H,?_⟩;rw[hev,Z,Dsk.each_may c3];exact⟨rfl,mf,es,z.wide (λi hi=>(hsub i hi).imp (λh=>h) (λh4=>⟨h4,z.lt i hi⟩)) (Jq h.lt H.size)⟩
  have O:Dc.may [s]=0:=AF c3;have hp:s.length<=maxLen:=by
   have:=(Dsk.may_names O s F0).2;unfold maxLen;omega
  have hh:=z.map.at;refine go ?_;refine dq (Pj rfl rfl hh hp) (go ?_);refine dp (GY Ff rfl rfl) ?_;refine Fk (λc4=>?_) λc4=>?_
  ·have Y:lk Dc.fs s=none:=by rw[z.look,Pw.1 c4];rfl
   refine go ?_;refine⟨_,rfl,H,?_⟩;rw[hev,Z,Dsk.each_none O Y];exact⟨rfl,mf,es,z.wide (λi hi=>(hsub i hi).imp (λh=>h) (λh4=>⟨h4,z.lt i hi⟩)) (Jq h.lt H.size)⟩
  obtain⟨e,he⟩:=Q3 c4;rw[he];have Y:lk Dc.fs s=some e.f:=by rw[z.look,he];rfl
  refine go ?_;have hc:¬ ((a s Dc).fused=true/\(a s Dc).left=0):=by rw[(ha s Dc).1,(ha s Dc).2];exact Dsk.may_live O
  obtain⟨hw,hr⟩:=Pg he;subst hr;refine X1m (vs:=[S e.name,Fh e.b 0]) rfl rfl hcb (hg Fc mf es Dc _ e z hw J) rfl (.inl rfl) (λu4 w4 x4 hj=>?_);have hlt9:=z.lt;have hszw:=H.size;have J:=J.mod x4 (λb hb hk=>hf b hb (hsub b hk));have H:=H.own x4 (λi hi ht=>(hsub i hi).resolve_right Fe);have hsz9:=x4.size;obtain⟨mf,es,z⟩:=hj;have hd:=z.m;have hM9:=z;refine Gz (QN _ bd mf es (a e.name Dc) _ z hc) λu5 w5 x5 hq=>?_;have hsz5:=H.size;have J:=J.mod x5 (λb hb hk=>hf b hb (by have e2:b=bd:=hk;have h3:=z.inF bd (.inl rfl);rw[e2];exact h3.elim (λh4=>hsub bd h4) (λh4=>.inr Fe)));have H:=H.own x5 (λi hi ht=>(by have e2:i=bd:=hi;have h3:=z.inF bd (.inl rfl);rw[e2];exact h3.elim (λh4=>(hsub bd h4).resolve_right Fe) (λh4=>by omega)));obtain⟨rfl,z⟩:=hq;refine go ?_;refine⟨(k+1,_,Dsk.tick (a e.name Dc)),Hc,⟨H,by omega,⟨mf,es,z⟩,J,λi hi=>.inl (hsup i hi),λi hi=>hi.elim (hsub i) (λh4=>.inr Fe),?_⟩,by simp only [];omega⟩;rw[hev,Z,Dsk.each_some O Y]
 refine go ?_;refine⟨_,rfl,H,?_⟩;rw[hev,BG Fe,Dsk.each_nil];exact⟨rfl,mf,es,z.wide (λi hi=>(hsub i hi).imp (λh=>h) (λh4=>⟨h4,z.lt i hi⟩)) (Jq h.lt H.size)⟩
def GG.to {G:Nat->Prop}(h:GG G bd D w')(hG:∀k,G k->F k\/w.heap.size<=k)(hF:∀k,F k->k<w'.heap.size):GG (FV F w w') bd D w':=
 h.wide (λk hk=>(hG k hk).imp (λh=>h) λh1=>⟨h1,h.lt k hk⟩) (λk hk=>hk.elim (hF k) (·.2))
def KG.nil : KG bd [] w:=λb h=>by cases h
variable {w1 w2:World}
def Nh (h:w.heap.size<=w1.heap.size):∀k,FV F w1 w2 k->F k\/w.heap.size<=k:=λk hk=>hk.imp (λh=>h) λh1=>Ae h h1.1
section
variable {F:Nat->Prop}{bd mf:Nat}{es:List Fm}{D:Dsk}{w:World}
def DiskE.len (h:DiskE F bd mf es D w):es.length<=4096:=by
 have:=h.wf.cnt;rwa [h.fs,Au]at this
def DiskE.ren {b:Fj}{e:Fm}{w1:World}(h:DiskE F bd mf es D w)(he:e∈es)(hb:1<=b.length/\b.length<=64)(h1:DiskE F bd mf (es.filter λq=>decide (q.name≠e.name)) (D.gone e.name) w1)(hs1:w1.heap.size=w.heap.size)(x:Vc.Mod (Fv mf) w w1){w2:World}(m:Vc.Mod (Fv mf) w1 w2)
  (hm:Gr Tryz.prog 9 S pO w2 mf (FB ((es.filter λq=>decide (q.name≠e.name)).map Fm.kv) b (some e.b))):DiskE (FV F w1 w2) bd mf (HZ (es.filter λq=>decide (q.name≠e.name)) b ⟨b,e.b,e.v,e.f⟩) { D with fs:=FB (G3 D.fs e.name) b e.f } w2:=by
 have J:¬ mf=e.b:=λe2=>h.foot_mf he (.inl e2);have O:∀k,e.v.ownBlock=some k->¬ k=mf:=λk hk e2=>h.foot_mf he (.inr (e2▸hk));refine h1.put (n:=b) (e:=⟨b,e.b,e.v,e.f⟩) rfl m (λk hk _=>.inl hk) hm (((h.el e he).1.mod x (λe2=>J e2.symm)).mod m (λe2=>J e2.symm)) (((h.el e he).2.mod x (λk hk e2=>O k hk e2)).mod m (λk hk e2=>O k hk e2)) (λk hk=>.inr ⟨h.foot_F he hk,λq hq hqn Y=>?_⟩) ?_
 ·have H:=Ax.1 hq;exact TJ h.ap H.1 he (by simpa using H.2) k Y hk
 ·have hw:=h.wf.gone e.name;have z:(Ku D.fs e.name)=e.f:=h.old he;have hu:=Xog h.wf.nd e.name;rw[z]at hu;refine hw.set (n:=b) (f:=e.f) hb (h.lasts he) ?_ ?_
  ·have h2:=h.wf.used;rw[N2]at h2;rw[N2];have Z:JD (D.gone e.name).fs=JD (G3 D.fs e.name):=rfl;rw[Z];show(_:Int)<=D.room+_;omega
  ·refine .inr ?_;have h3:=VT (x:=e.name) h.wf.nd;rw[h.look,h.fe_in he]at h3;have:=h.wf.cnt;simp at h3;show(G3 D.fs e.name).length<4096;omega
end
def Xw9 {a b:Fj}(h:D.may [a,b]≠0):D.ren a b=(D.may [a,b],D):=by unfold Dsk.ren;rw[if_pos h]
def Xud {a b:Fj}(h:D.may [a,b]=0)(h2:lk D.fs a=none):D.ren a b=(7,D):=by unfold Dsk.ren;rw[if_neg (λe=>e h),h2]
def Xue {a b:Fj}(h:D.may [a,b]=0)(h2:lk D.fs a=some f):D.ren a b=(0,Dsk.tick { D with fs:=FB (G3 D.fs a) b f }):=by unfold Dsk.ren;rw[if_neg (λe=>e h),h2]
def Xxa {t:Fj}(h:Fp w b [S s,S t] 9):Fu GF 1 w (.slice (some ⟨b,0,none⟩) 2 2) [s,t]:=h.arr (enc:=GF) (sz:=1) (l:=[s,t]) rfl Fg rfl F0
def X4s (F:Nat->Prop)(bd:Nat)(D:Dsk)(l:List Fj)(v:Value)(w:World)(h:GG F bd D w)(hv:Fu GF 1 w v l)(hl:l.length<=100000)(hdv:l≠[]->¬ F (base v).1) :
  G4 85 [Fh bd 0,v] w F λu w'=>u=I (D.sync l).1/\GG (FV F w w') bd ((D.sync l).2) w':=by
 refine cE Tryz.func85 λz=>Gz (Us F bd D l v Dsk.lastsA 163 [] [] _ (h.ext z) (hv.ext z) hl hdv Ff (λn D=>⟨rfl,rfl⟩) KG.nil (λb h=>by cases h) (λF mf es D w e O he _=>X67 F bd mf es D e w O he)) λu1 w1 J H=>?_;have hsz1:=z.size;have z:=(z.mod J).mono (λi hi hlt=>(hi:F i));obtain⟨rfl,Y⟩:=H;refine go ?_;exact⟨_,rfl,z,rfl,Y⟩
def S5 (F:Nat->Prop)(bd:Nat)(D:Dsk)(l:List Fj)(v:Value)(w:World)(h:GG F bd D w)(hv:Fu GF 1 w v l)(hl:l.length<=100000)(hdv:l≠[]->¬ F (base v).1) :
  G4 54 [Fh bd 0,v] w F λu w'=>u=I (D.rem l).1/\GG (FV F w w') bd ((D.rem l).2) w':=by
 refine cE Tryz.func54 λz=>go ?_;refine G1 rfl rfl rfl RX.all (λb1 w1 e1 O Y=>?_);have g1:=z.ge e1;have z:=z.trans O;refine go ?_;refine dp (Pm rfl) (cD (Us F bd D l v Dsk.gone 110 [Fh b1 0] [b1] _ (h.ext z) (hv.ext z) hl hdv Ff (λn D=>⟨rfl,rfl⟩) (λb hb=>by rw[Af.1 hb];exact Y) (λb hb=>by rw[Af.1 hb];intro hF;have:=h.lt _ hF;omega) (λF mf es D w e hE he hB=>Yan F bd mf es D e b1 w hE he (hB b1 F0))) (.inl rfl) λu2 w2 Z J=>?_);have H:=z.size;have z:=(z.mod Z).mono (λi hi hlt=>(hi:F i));obtain⟨rfl,hD⟩:=J;refine go ?_;exact⟨_,rfl,z,rfl,hD.to (Nh H) (λk hk=>Ay (h.lt k hk) z.size)⟩
def K8 (F:Nat->Prop)(bd:Nat)(D:Dsk)(s:Fj)(w:World)(h:GG F bd D w)(hok:s.length<=maxLen) :
  Gi 190 [Fh bd 0,S s] w λu w'=>∃v,u=.tuple #[v,I (D.readE s)]/\Vc.Own Fs 1 5 w.heap.size w' v (D.readB s):=by
 refine cE Tryz.func190 λY=>?_;obtain⟨mf,es,z⟩:=h;have hd:=z.m;have Z:=z.map.at;refine go ?_;refine dp (GY Ff rfl rfl) ?_;refine FJ 8 (λc1=>?_) λc1=>?_
 ·exact absurd c1 F0
 refine go ?_;refine dq (Pj rfl rfl Z hok) (dp (GY Ff rfl rfl) ?_);refine Fk (λc2=>?_) λc2=>?_
 ·refine go ?_;have J:lk D.fs s=none:=by rw[z.look,Pw.1 c2];rfl
  rw[show D.readE s=7 by unfold Dsk.readE Dsk.has;rw[J];rfl,show D.readB s=[] by unfold Dsk.readB Dsk.read;rw[J];rfl];exact⟨_,rfl,Y,_,rfl,Vc.Own.nil⟩
 obtain⟨e,he⟩:=Q3 c2;have J:D.read s=some e.f.data:=by unfold Dsk.read;rw[z.look,he];rfl
 have O:=(Pg he).1;have hfb:=(z.el e O).1;have ha:=(z.el e O).2.arr Fg;have hdl:=z.data O;refine go ?_;refine dq (Pj rfl rfl Z hok) ?_;rw[he];refine Gj (Ny e.f.data e.v _ (ha.ext Y) Fe) λu1 w1 x1 hO=>?_;have hsz1:=Y.size;have Y:=Y.trans x1;refine go ?_;have H:lk D.fs s=some e.f:=by rw[z.look,he];rfl
 rw[show D.readE s=0 by unfold Dsk.readE Dsk.has;rw[H];rfl,show D.readB s=e.f.data by unfold Dsk.readB Dsk.read;rw[H];rfl];exact⟨_,rfl,Y,_,rfl,hO⟩
def Yda (F:Nat->Prop)(bd:Nat)(D:Dsk)(a b:Fj)(w:World)(h:GG F bd D w) :
  G4 251 [Fh bd 0,S a,S b] w F λu w'=>u=I (D.ren a b).1/\GG (FV F w w') bd ((D.ren a b).2) w':=by
 refine cM Tryz.func251 F λH=>?_;obtain⟨mf,es,z⟩:=h;have O:=z.lt;have hd:=z.m;have J:=z.map.at;refine go ?_;refine li (e:=9) (sz:=1) (zs:=[S []]) (pv:=[(0,_),(1,_)]) (cs:=[_,_]) RX.all (λb1 w1 e1 x1 m1=>?_);have g1:=H.ge e1;have a1_hE:=z.lt;have a1_hd:=hd.lt;refine FQ x1 z hd J H λz hd J H=>cP (RI bd mf D [a,b] _ _ hd (Xxa m1) F0) RX.all λw2 x2=>FQ x2 z hd J H λz hd J H=>?_;refine Fk (λc1=>?_) λc1=>?_
 ·refine go ?_;refine⟨_,rfl,H,?_⟩;rw[Xw9 c1];exact⟨rfl,mf,es,z.wide (λi hi=>.inl hi) (Jq O H.size)⟩
 have Y:D.may [a,b]=0:=AF c1;have hj:=Dsk.may_names Y b F0;have hp:a.length<=maxLen:=by
  have:=(Dsk.may_names Y a F0).2;unfold maxLen;omega
 refine go ?_;refine dq (Pj rfl rfl J hp) (go ?_);refine dp (GY Ff rfl rfl) ?_;refine Fk (λc2=>?_) λc2=>?_
 ·refine go ?_;refine⟨_,rfl,H,?_⟩;rw[Xud Y (by rw[z.look,Pw.1 c2];rfl)];exact⟨rfl,mf,es,z.wide (λi hi=>.inl hi) (Jq O H.size)⟩
 obtain⟨e,he⟩:=Q3 c2;rw[he];have hl:lk D.fs a=some e.f:=by rw[z.look,he];rfl
 obtain⟨hc,hq⟩:=Pg he;subst hq;refine go ?_;refine Ss (l:=es.map Fm.kv) HU rfl rfl rfl z.map (by have:=(z.name hc).2;unfold maxLen;omega) (.inl rfl) (λw8 x8 ht hM=>?_);have Z:=z.take x8 hM;have H:=H.own x8 (λi hi _=>z.inF i (.inr (.inl hi)));have ha:=H.size;have hd:=Z.m;refine go ?_;refine SH (l:=(es.filter λq=>decide (q.name≠e.name)).map Fm.kv) (kx:=b) (a:=some e.b) HU rfl rfl rfl rfl Z.map (by unfold maxLen;omega) (by have:=Z.len;rw[Au];unfold maxLen;omega) (.inl rfl) (λw9 x9 xs9 hh=>?_);have hr:=z.ren hc hj Z ht x8 x9 hh;have H:=H.own x9 (λi hi _=>z.inF i (.inr (.inl hi)));refine Gz (QN _ bd mf _ _ _ hr (Dsk.may_live Y)) λu3 w3 x3 hg=>?_;have hsz3:=H.size;have H:=H.own x3 (λi hi hlt=>(by have e2:i=bd:=hi;rw[e2];exact z.inF bd (.inl rfl)));obtain⟨rfl,hf⟩:=hg;refine go ?_;refine⟨_,rfl,H,?_⟩;rw[Xue Y hl];exact⟨rfl,GG.to ⟨_,_,hf⟩ (Nh ha) (λk hk=>Ay (O k hk) H.size)⟩
variable {p:Fj}
def Xxb (h:D.may [n]≠0):D.app n p=(D.may [n],D):=by unfold Dsk.app;rw[if_pos h]
def Wx (h:D.may [n]=0)(h2:D.full n p=true):D.app n p=(6,D):=by unfold Dsk.app;rw[if_neg (λe=>e h),if_pos h2]
def XN (h:D.may [n]=0)(h2:D.full n p=false):D.app n p=(0,Dsk.tick { D with fs:=FB D.fs n ⟨(D.old n).data++p,(D.old n).lasts⟩ }):=by unfold Dsk.app;rw[if_neg (λe=>e h),if_neg (by rw[h2];decide)]
def Yao (h:D.room-↑D.used<↑p.length):D.full n p=true:=by unfold Dsk.full;simp [h]
def Yap (h2:lk D.fs n=none)(h:4096<=D.fs.length):D.full n p=true:=by unfold Dsk.full;simp [h2,h]
def Wa (h:¬ D.room-↑D.used<↑p.length)(h2:lk D.fs n=none->¬ 4096<=D.fs.length):D.full n p=false:=by
 unfold Dsk.full;rw[decide_eq_false h,Bool.false_or]
 cases e:lk D.fs n with
 | none=>simp [h2 e]
 | some f=>rfl
def DiskE.fresh {mf:Nat}(h:DiskE F bd mf es D w)(hn:1<=n.length/\n.length<=64)(hno:fe es n=none)(hc:D.fs.length<4096)(x:Fq w w1)(m1:Fp w1 b [.slice none 0 0,I 0] 125)(hb:w.heap.size<=b)(m:Vc.Mod (Fv mf) w1 w2)(hm:Gr Tryz.prog 9 S pO w2 mf (FB (es.map Fm.kv) n (some b))):DiskE (FV F w w2) bd mf (HZ es n ⟨n,b,.slice none 0 0,⟨[],0⟩⟩) { D with fs:=FB D.fs n ⟨[],0⟩ } w2:=by
 have z:¬ b=mf:=λe=>by have:=h.map.lt;omega
 refine h.put (e:=⟨n,b,.slice none 0 0,⟨[],0⟩⟩) rfl (Fq.mod x m) (λk hk _=>.inl hk) hm (m1.mod m z) OwnC.nil (λk hk=>.inl ?_) ?_
 ·rcases hk with rfl|hk
  ·exact hb
  ·cases hk
 ·refine h.wf.set (n:=n) (f:=⟨[],0⟩) hn (Aa _) ?_ (.inr hc);have h2:=h.wf.used;have h3:D.old n=⟨[],0⟩:=by unfold Dsk.old;rw[h.look,hno];rfl
  rw[h3];simpa using h2
def Xsi (h:lk D.fs n=none):D.old n=⟨[],0⟩:=by unfold Dsk.old;rw[h];rfl
def YZ (h:lk D.fs n=some f):D.old n=f:=by unfold Dsk.old;rw[h];rfl
def SS (F:Nat->Prop)(bd:Nat)(D:Dsk)(n:Fj)(qs:List (Value×Fj))(vr:Value)(w:World)(h:GG F bd D w)(hr:Fu (λq:Value×Fj=>[q.1]) 1 w vr qs)(hq:∀q∈qs,Fu Fs 1 w q.1 q.2)(hql:(qs.flatMap (·.2)).length<=1001000020)(hqn:qs.length<=1000000) :
  G4 83 [Fh bd 0,S n,vr] w F λu w'=>u=I (D.app n (qs.flatMap (·.2))).1/\GG (FV F w w') bd ((D.app n (qs.flatMap (·.2))).2) w':=by
 refine cE Tryz.func83 λH=>?_;obtain⟨mf,es,z⟩:=h;have Z:=z.lt;have hd:=z.m;have hf:=z.map.at;have Y:=z.map;have hub0:=z.wf.room1;have hud0:=z.wf.used;have hr00:=z.wf.room0;refine go ?_;refine li (e:=9) (sz:=1) (zs:=[S []]) (pv:=[(0,_)]) (cs:=[_]) RX.all (λb1 w1 e1 x1 m1=>?_);have g1:=H.ge e1;have a1_hE:=z.lt;have a1_hd:=hd.lt;refine Ga x1 z hd hf Y H λz hd hf Y H=>cP (RI bd mf D [n] _ _ hd (Ma m1) F0) RX.all λw2 x2=>Ga x2 z hd hf Y H λz hd hf Y H=>?_;refine Fk (λc1=>?_) λc1=>?_
 ·refine go ?_;refine⟨_,rfl,H.mono (λ_ h _=>h.elim),?_⟩;rw[Xxb c1];exact⟨rfl,mf,es,z.wide (λi hi=>.inl hi) (Jq Z H.size)⟩
 have ha:D.may [n]=0:=AF c1;have h8:=Dsk.may_names ha n F0;have xf:n.length<=maxLen:=by unfold maxLen;omega
 refine Gj (P8 qs vr _ (hr.ext H) (λq h=>(hq q h).ext H) Fe hqn) λup w3 x3 xd=>?_;have xk:=H.size;refine Ga x3 z hd hf Y H λz hd hf Y H=>?_;have hJ:=xd.1;have xw:(qs.flatMap (·.2))≠[]->w.heap.size<=(base up).1:=λe=>Ae xk (xd.2 e);refine go ?_;refine dq (Pj rfl rfl hf xf) (Gt 10001100000000020100000 λw4 x4=>Ga x4 z hd Y hJ H λz hd Y hJ H=>?_);refine FM 5 1 hJ.sl ?_;refine go ?_;refine cP (Yal F bd mf es D _ z) RX.ext λw5 x5=>Ga x5 z hd Y hJ H λz hd Y hJ H=>?_;refine FJ 35 (λc2=>?_) λc2=>?_
 ·refine go ?_;refine GU rfl (go ?_);refine⟨_,rfl,H.mono (λ_ h _=>h.elim),?_⟩;rw[Wx ha (Yao c2)];exact⟨rfl,mf,es,z.wide (λi hi=>.inl hi) (Jq Z H.size)⟩
 refine go ?_;refine dp (GY Ff rfl rfl) ?_;refine FJ 38 (λc3=>?_) λc3=>?_
 ·refine go ?_;refine Gh rfl (λw' hR=>X6u HU rfl (Y.ext hR)) (dp (HY rfl rfl) ?_);refine Fk (λc4=>?_) λc4=>?_
  ·refine go ?_;refine⟨_,rfl,H.mono (λ_ h _=>h.elim),?_⟩;rw[Wx ha (Yap (by rw[z.look,Pw.1 c3];rfl) (by rw[z.fs,Au];rw[Au]at c4;omega))];exact⟨rfl,mf,es,z.wide (λi hi=>.inl hi) (Jq Z H.size)⟩
  refine g0 ?_;refine GP (G:=(Nat->Prop)×List Fm×Dsk×Fm) (λ(F2,e2,D2,e)=>[(0,Fh bd 0),(6,I 0),(8,up),(9,Fh e.b 0)]) (λ(F2,e2,D2,e) w'=>Mod F w w'/\DiskE F2 bd mf e2 D2 w'/\e∈e2/\(∀i,F i->F2 i)/\(∀i,F2 i->F i\/w.heap.size<=i)/\Fu Fs 1 w' up (qs.flatMap (·.2))/\D2.fused=D.fused/\D2.left=D.left/\e.f.data.length+((qs.flatMap (·.2))).length<=1073741824/\Dsk.Wf { D2 with fs:=FB D2.fs e.name ⟨e.f.data++(qs.flatMap (·.2)),e.f.lasts⟩ }/\D.app n (qs.flatMap (·.2))=(0,Dsk.tick { D2 with fs:=FB D2.fs e.name ⟨e.f.data++(qs.flatMap (·.2)),e.f.lasts⟩ })) ?_ ?_
  ·refine go ?_;refine dp (GY Ff rfl rfl) ?_;refine Fk (λc5=>?_) λc5=>?_
   ·have xm:fe es n=none:=Pw.1 c3;have hc:lk D.fs n=none:=by rw[z.look,xm];rfl
    have xj:D.fs.length<4096:=by rw[z.fs,Au];rw[Au]at c4;omega
    have xx:=z;have xt:=H.size;have xo:=z.wf.room1;have xv:=z.wf.used;have xi:Dsk.Wf { D with fs:=FB (FB D.fs n ⟨[],0⟩) n ⟨[]++qs.flatMap (·.2),0⟩ }:=by
     rw[OK];refine z.wf.set h8 (Ab _) ?_ (.inr xj);rw[Xsi hc];simp only [AG,Bj];omega
    refine go ?_;refine db (zs:=[.slice none 0 0,.int .i64 0]) (pl:=[(0,1),(1,1)]) (pv:=[]) (cs:=[.slice none 0 0,.int .i64 0]) ?_;refine G1 rfl rfl rfl RX.all (λb2 w6 e2 x6 m2=>?_);have g2:=H.ge e2;have a2_hE:=z.lt;have a2_hd:=hd.lt;have a2_hJ:=Fu.base_lt hJ Fo;refine Ga x6 z hd Y hJ H λz hd Y hJ H=>go ?_;refine SH (l:=es.map Fm.kv) (kx:=n) (a:=some b2) HU rfl rfl rfl rfl Y xf (by have:=z.len;rw[Au];unfold maxLen;omega) (.inl rfl) (λw9 x9 xr xp=>?_);have xl:=xx.fresh h8 xm xj x6 m2 (Cb e2.symm) x9 xp;have H:=(H.mod x9).mono (λi hi _=>(z.inF i (.inr (.inl hi)):F i));have hJ:=hJ.mod x9 (λhl e=>by have e2:(base up).1=mf:=e;have h3:=xw hl;have h4:=z.inF mf (.inr (.inl rfl));have h5:=Z mf h4;omega);have hd:=xl.m;refine go ?_;refine⟨(FV F _ _,HZ es n ⟨n,b2,.slice none 0 0,⟨[],0⟩⟩,{ D with fs:=FB D.fs n ⟨[],0⟩ },⟨n,b2,.slice none 0 0,⟨[],0⟩⟩),Hn,H,xl,Xoi,λi h=>.inl h,Nh xt,hJ,rfl,rfl,(by simp only [Bj];omega),xi,?_⟩;rw[XN ha (Wa c2 (λ_=>by omega)),Xsi hc];simp only [OK]
   exact absurd c3 c5
  rintro _ ⟨F2,e2,D2,e⟩ w7 ⟨H,z,O,hsup,hsub,hJ,hfu,hle,hbl,hwf2,happ⟩;have hd:=z.m;have J:=(z.el e O).1;have ho:=(z.el e O).2;have xz:=ho.ne_blk J rfl;have hj:¬ (D2.fused=true/\D2.left=0):=by rw[hfu,hle];exact Dsk.may_live ha
  have hz:=H.size;refine go ?_;refine VH (lx:=(qs.flatMap (·.2))) (e:=5) (sz:=1) (by':=1) rfl Ff Ff Fg ho (hJ) rfl rfl (by intro x _ u hu;simp at hu;rcases hu with rfl<;>rfl) Fe Fo (Ab _) (.inl rfl) (λv2 w8 ht x8 xg=>?_);have hp:=xg;have hw:=x8;have J:=J.mod x8 Fw;have H:=H.own x8 (λi hi xa=>(hsub i (z.foot_F O (.inr hi))).resolve_right Fe);have ho:=ht;have hh:=ho.ne_blk J rfl;refine go ?_;refine HL J (λw9 x9 xr J=>?_) (hv:=by exact ho.sl.one);have ho:=ho.mod x9 (λk hk h=>hh (by have h2:k=e.b:=h;rw[hk,h2]));have H:=H.own x9 (λi hi _=>(hsub i (z.foot_F O (.inl hi))).resolve_right Fe);refine go ?_;have hg:=x9;refine go ?_;have h6:=z.file (v:=v2) (f:=⟨e.f.data++qs.flatMap (·.2),e.f.lasts⟩) O ((hw.mono (λi hi _=>.inr hi)).own hg (λi hi _=>.inl hi)) (λk hk _=>hk) J ho (hp.imp (λh=>h) (λe2 k hk=>by rw[e2]at hk;cases hk;exact Aa _)) hwf2;have xe:=Ae hw.size hg.size;refine cD (QN _ bd mf _ _ _ h6 hj) (.inl rfl) λu10 w10 xy xn=>?_;have hsz10:=H.size;have H:=H.own xy (λi hi xa=>(hsub i (z.inF i (.inl hi))).resolve_right Fe);obtain⟨rfl,xb⟩:=xn;refine go ?_;refine⟨_,rfl,H,?_⟩;rw[happ];exact⟨rfl,GG.to (G:=FV F2 _ _) ⟨_,_,xb⟩ (λk hk=>hk.elim (hsub k) (λh=>.inr (Ae hz h.1))) (λk hk=>Ay (Z k hk) H.size)⟩
 refine go ?_;refine GS rfl (g0 ?_);refine GP (G:=(Nat->Prop)×List Fm×Dsk×Fm) (λ(F2,e2,D2,e)=>[(0,Fh bd 0),(6,I 0),(8,up),(9,Fh e.b 0)]) (λ(F2,e2,D2,e) w'=>Mod F w w'/\DiskE F2 bd mf e2 D2 w'/\e∈e2/\(∀i,F i->F2 i)/\(∀i,F2 i->F i\/w.heap.size<=i)/\Fu Fs 1 w' up (qs.flatMap (·.2))/\D2.fused=D.fused/\D2.left=D.left/\e.f.data.length+((qs.flatMap (·.2))).length<=1073741824/\Dsk.Wf { D2 with fs:=FB D2.fs e.name ⟨e.f.data++(qs.flatMap (·.2)),e.f.lasts⟩ }/\D.app n (qs.flatMap (·.2))=(0,Dsk.tick { D2 with fs:=FB D2.fs e.name ⟨e.f.data++(qs.flatMap (·.2)),e.f.lasts⟩ })) ?_ ?_
 ·refine go ?_;refine dp (GY Ff rfl rfl) ?_;refine Fk (λc6=>?_) λc6=>?_
  ·exact absurd c6 c3
  obtain⟨e,he⟩:=Q3 c6;rw[he];have hc:lk D.fs n=some e.f:=by rw[z.look,he];rfl
  obtain⟨O,xq⟩:=Pg he;subst xq;have xo:=z.wf.room1;have xv:=z.wf.used;have hel:e.f.data.length<=D.used:=Xse (p:=(e.name,e.f)) (by rw[z.fs];exact Ao.2 ⟨e,O,rfl⟩);have xh:Dsk.Wf { D with fs:=FB D.fs e.name ⟨e.f.data++qs.flatMap (·.2),e.f.lasts⟩ }:=by
   refine z.wf.set h8 (by have:=z.lasts O;simp only [Ad];omega) ?_ (.inl (by rw[hc];rfl));rw[YZ hc];simp only [Ad];omega
  refine go ?_;refine⟨(F,es,D,e),Hn,H.mono (λ_ h _=>h.elim),z,O,λi h=>h,λi h=>.inl h,hJ,rfl,rfl,Fe,xh,?_⟩;rw[XN ha (Wa c2 (λh=>by rw[hc]at h;cases h)),YZ hc]
 rintro _ ⟨F2,e2,D2,e⟩ w11 ⟨H,z,O,hsup,hsub,hJ,hfu,hle,hbl,hwf2,happ⟩;have hd:=z.m;have J:=(z.el e O).1;have ho:=(z.el e O).2;have xz:=ho.ne_blk J rfl;have hj:¬ (D2.fused=true/\D2.left=0):=by rw[hfu,hle];exact Dsk.may_live ha
 have hz:=H.size;refine go ?_;refine VH (lx:=(qs.flatMap (·.2))) (e:=5) (sz:=1) (by':=1) rfl Ff Ff Fg ho (hJ) rfl rfl (by intro x _ u hu;simp at hu;rcases hu with rfl<;>rfl) Fe Fo (Ab _) (.inl rfl) (λv2 w12 ht h9 hy=>?_);have hp:=hy;have hw:=h9;have J:=J.mod h9 Fw;have H:=H.own h9 (λi hi xa=>(hsub i (z.foot_F O (.inr hi))).resolve_right Fe);have ho:=ht;have hh:=ho.ne_blk J rfl;refine go ?_;refine HL J (λw13 h7 xs13 J=>?_) (hv:=by exact ho.sl.one);have ho:=ho.mod h7 (λk hk h=>hh (by have h2:k=e.b:=h;rw[hk,h2]));have H:=H.own h7 (λi hi _=>(hsub i (z.foot_F O (.inl hi))).resolve_right Fe);refine go ?_;have hg:=h7;refine go ?_;have h6:=z.file (v:=v2) (f:=⟨e.f.data++qs.flatMap (·.2),e.f.lasts⟩) O ((hw.mono (λi hi _=>.inr hi)).own hg (λi hi _=>.inl hi)) (λk hk _=>hk) J ho (hp.imp (λh=>h) (λe2 k hk=>by rw[e2]at hk;cases hk;exact Aa _)) hwf2;have xe:=Ae hw.size hg.size;refine cD (QN _ bd mf _ _ _ h6 hj) (.inl rfl) λu14 w14 xu xc=>?_;have hsz14:=H.size;have H:=H.own xu (λi hi xa=>(hsub i (z.inF i (.inl hi))).resolve_right Fe);obtain⟨rfl,xb⟩:=xc;refine go ?_;refine⟨_,rfl,H,?_⟩;rw[happ];exact⟨rfl,GG.to (G:=FV F2 _ _) ⟨_,_,xb⟩ (λk hk=>hk.elim (hsub k) (λh=>.inr (Ae hz h.1))) (λk hk=>Ay (Z k hk) H.size)⟩
def TM {i:Nat}(h:FV F w1 w2 i)(hi:i<w1.heap.size):F i:=h.resolve_right (λh2=>by omega)
def Xxc : (decide (D.readE s=0))=D.has s:=by unfold Dsk.readE;cases D.has s<;>rfl
def XZ (h:n.length<1\/60<n.length):D.save n p=(1,D):=by unfold Dsk.save;rw[if_pos h]
def Yaq (h:¬ (n.length<1\/60<n.length))(h2:1048576<p.length):D.save n p=(5,D):=by unfold Dsk.save;rw[if_neg h,if_pos h2]
def Yar (h:¬ (n.length<1\/60<n.length))(h2:¬ 1048576<p.length)(h3:D.has (Dsk.sh n)=true)(h4:(D.rem [Dsk.sh n]).1≠0):D.save n p=D.rem [Dsk.sh n]:=by unfold Dsk.save;rw[if_neg h,if_neg h2,if_pos h3,if_pos h4]
def Yas (h:¬ (n.length<1\/60<n.length))(h2:¬ 1048576<p.length)(h3:D.has (Dsk.sh n)=true)(h4:¬ (D.rem [Dsk.sh n]).1≠0):D.save n p=Dsk.save2 (D.rem [Dsk.sh n]).2 n p:=by unfold Dsk.save;rw[if_neg h,if_neg h2,if_pos h3,if_neg h4]
def Yat (h:¬ (n.length<1\/60<n.length))(h2:¬ 1048576<p.length)(h3:D.has (Dsk.sh n)=false):D.save n p=Dsk.save2 D n p:=by unfold Dsk.save;rw[if_neg h,if_neg h2,if_neg (by rw[h3];decide)]
def X7a (h:(D.app (Dsk.sh n) (Fz p)).1≠0):Dsk.save2 D n p=D.app (Dsk.sh n) (Fz p):=by unfold Dsk.save2;rw[if_pos h]
def X7b (h:¬ (D.app (Dsk.sh n) (Fz p)).1≠0)(h2:((D.app (Dsk.sh n) (Fz p)).2.sync [Dsk.sh n]).1≠0):Dsk.save2 D n p=(D.app (Dsk.sh n) (Fz p)).2.sync [Dsk.sh n]:=by unfold Dsk.save2;rw[if_neg h,if_pos h2]
def X7c (h:¬ (D.app (Dsk.sh n) (Fz p)).1≠0)(h2:¬ ((D.app (Dsk.sh n) (Fz p)).2.sync [Dsk.sh n]).1≠0):Dsk.save2 D n p=((D.app (Dsk.sh n) (Fz p)).2.sync [Dsk.sh n]).2.ren (Dsk.sh n) n:=by unfold Dsk.save2;rw[if_neg h,if_neg h2]
def Lp {v:Value}(h:Fp w b [v] 82):Fu (λq:Value×Fj=>[q.1]) 1 w (.slice (some ⟨b,0,none⟩) 1 1) [(v,p)]:=h.arr (enc:=λq:Value×Fj=>[q.1]) (sz:=1) (l:=[(v,p)]) rfl Fg rfl F0
def Qn (h:GG F bd D w)(hb:w.heap.size<=b):¬ F b:=λz=>by have:=h.lt _ z;omega
def Yeg (D:Dsk)(s:Fj):Fj×Int:=if D.readE s≠0 then([],D.readE s)else if(Jk (D.readB s)).2≠0 then([],3)else((Jk (D.readB s)).1,0)
def HQ (p:Fj):Int:=if 1048576<p.length then 5 else 0
def T7 (p:Fj)(vp vr:Value)(w:World)(hr:Fu (λx:Value=>[x]) 1 w vr [vp])(hp:Fu Fs 1 w vp p)(hpl:p.length<=2001000020) :
  Calls Tryz.prog 82 [vr].toArray w (Hb w (λu w'=>∃v,u=.tuple #[v,I (HQ p)]/\(HQ p=0->Fu Fs 1 w' v (Fz p)/\w.heap.size<=(base v).1))):=by
 refine(Yc6 p vp vr w hr hp hpl).mono ?_;rintro e w' ⟨u,rfl,hx,h|⟨h1,v,rfl,h2,h3⟩⟩
 ·obtain⟨h1,rfl⟩:=h;have H:HQ p=5:=if_pos h1;exact⟨_,rfl,hx,_,by rw[H],λz=>by rw[H]at z;cases z⟩
 ·have z:HQ p=0:=if_neg Fe;exact⟨_,rfl,hx,_,by rw[z],λ_=>⟨h2,h3⟩⟩
def WU (h:HQ p=0):¬ 1048576<p.length:=λh2=>by rw[show HQ p=5 from if_pos h2]at h;cases h
def WG (h:HQ p≠0):1048576<p.length:=by
 unfold HQ at h;split at h
 ·assumption
 ·exact absurd rfl h
def X7d (F:Nat->Prop)(bd:Nat)(D:Dsk)(s:Fj)(w:World)(h:GG F bd D w)(hok:s.length<=maxLen) :
  FX 250 [Fh bd 0,S s] w (B (D.has s)):=by
 refine cE Tryz.func250 λz=>Gj (K8 F bd D s _ (h.ext z) hok) λu1 w1 J H=>?_;have hsz1:=z.size;have z:=z.trans J;obtain⟨vr,rfl,hO⟩:=H;refine go ?_;exact⟨by rw[<-Xxc],z⟩
def S3 (F:Nat->Prop)(bd:Nat)(D:Dsk)(n p:Fj)(vp vr:Value)(w:World)(h:GG F bd D w)(hr:Fu (λx:Value=>[x]) 1 w vr [vp])(hp:Fu Fs 1 w vp p)(hpl:p.length<=2001000020)(hnl:n.length<=140737488355327) :
  G4 176 [Fh bd 0,S n,vr] w F λu w'=>u=I (D.save n p).1/\GG (FV F w w') bd ((D.save n p).2) w':=by
 refine cE Tryz.func176 λz=>?_;have ht:Fz p≠[]:=λh=>by have:=J9 p;rw[h]at this;simp at this
 refine go ?_;refine dp (GY Ff rfl rfl) ?_;refine FJ 14 (λc1=>?_) λc1=>?_
 ·exact absurd c1 F0
 refine FJ 19 (λc2=>?_) λc2=>?_
 ·refine go ?_;refine GU rfl (go ?_);rw[XZ Fe];exact⟨_,rfl,z.mono (λ_ h _=>h.elim),rfl,h.grow z⟩
 refine Fk (λc3=>?_) λc3=>?_
 ·refine go ?_;rw[XZ Fe];exact⟨_,rfl,z.mono (λ_ h _=>h.elim),rfl,h.grow z⟩
 refine Gj (T7 p vp vr _ (hr.ext z) (hp.ext z) hpl) λu1 w1 x1 hy=>?_;have ha:=z.size;have z:=z.trans x1;obtain⟨vb,rfl,hE⟩:=hy;refine Fk (λc4=>?_) λc4=>?_
 ·refine go ?_;rw[Yaq Fe (WG c4),show HQ p=5 from if_pos (WG c4)];exact⟨_,rfl,z.mono (λ_ h _=>h.elim),rfl,h.grow z⟩
 have O:HQ p=0:=AF c4;have hB:=(hE O).1;have hl:=Ae ha (hE O).2;have Z:¬ (n.length<1\/60<n.length):=by omega
 have J:=WU O;refine g0 ?_;refine GP (G:=(Nat->Prop)×Dsk) (λ(Fc,Dc)=>[(0,Fh bd 0),(1,S n),(7,vb)]) (λ(Fc,Dc) w'=>Mod F w w'/\GG Fc bd Dc w'/\(∀k,Fc k->F k\/w.heap.size<=k)/\Fu Fs 1 w' vb (Fz p)/\D.save n p=Dsk.save2 Dc n p) ?_ ?_
 ·refine go ?_;refine dp (I6 rfl rfl (by simp;omega)) (cP (X7d F bd D (n++[126]) _ (h.ext z) (by simp;unfold maxLen;omega)) RX.all λw2 x2=>Fy x2 hB z λhB z=>?_);refine Gb (λc5=>?_) λc5=>?_
  ·refine go ?_;refine dp (I6 rfl rfl (by simp;omega)) (li (e:=9) (sz:=1) (zs:=[S []]) (pv:=[(0,_)]) (cs:=[_]) RX.all (λb1 w3 e1 x3 m1=>?_));have g1:=z.ge e1;have a1_hB:=Fu.base_lt hB Fo;refine Fy x3 hB z λhB z=>cD (S5 F bd D [n++[126]] _ _ (h.ext z) (Ma m1) F0 (λ_=>Qn h g1)) (.inl rfl) λu4 w4 x4 hq=>?_;have hf:=z.size;have hB:=hB.mod x4 (λ_=>Qn h hl);have z:=(z.mod x4).mono (λi hi Y=>(hi:F i));obtain⟨rfl,hA⟩:=hq;have H:=hf;refine Fk (λc6=>?_) λc6=>?_
   ·refine go ?_;rw[Yar Z J c5 c6];exact⟨_,rfl,z,rfl,hA.to (Nh H) (λk hk=>Ay (h.lt k hk) z.size)⟩
   refine go ?_;exact⟨(_,_),Kq,z,hA,Nh H,hB,Yas Z J c5 c6⟩
  refine go ?_;exact⟨(F,D),Kq,z.mono (λ_ h _=>h.elim),h.ext z,λ_ h=>.inl h,hB,Yat Z J c5⟩
 rintro _ ⟨Fc,Dc⟩ w5 ⟨z,hA,hsub,hB,hsv⟩;have hsw:=z.size;have hBl:=hB.base_lt Fo ht;refine go ?_;refine dp (I6 rfl rfl (by simp;omega)) (go ?_);refine It (e:=82) (sz:=1) (zs:=[.slice none 0 0]) (pv:=[(0,?a35_0)]) (cs:=[?a35_0]) rfl Ff ⟨rfl,rfl⟩ Ff rfl ?h35 ?f35 RX.all (λb2 w6 e2 x6 m2=>?k35)
 case h35=>refine⟨rfl,?_,trivial⟩<;>(conv=>lhs;whnf)
 case f35=>simp [Hs,Gw,Ap,hB.sl.cells]
 have g2:=z.ge e2;have a2_hB:=Fu.base_lt hB Fo;refine FC x6 hB hA z λhB hA z=>cD (SS Fc bd Dc (n++[126]) [(vb,Fz p)] _ _ hA (Lp m2) (by intro q h;rw[Af.1 h];exact hB) (by simp [J9];omega) F0) (.inl rfl) λu7 w7 x7 hg=>?_;have hsz7:=z.size;have z:=z.own x7 (λi hi Y=>(hsub i hi).resolve_right Fe);rw[show BQ (λq:Value×Fj=>q.2) [(vb,Fz p)]=Fz p by simp]at hg;obtain⟨rfl,hA⟩:=hg;have hj:=hA;refine Fk (λc7=>?_) λc7=>?_
 ·refine go ?_;rw[hsv,X7a c7];exact⟨_,rfl,z,rfl,hA.to (λk hk=>(λhk=>hk.elim (hsub k) (λh9=>.inr Fe)) hk) (λk hk=>Ay (h.lt k hk) z.size)⟩
 refine go ?_;refine dp (I6 rfl rfl (by simp;omega)) (li (e:=9) (sz:=1) (zs:=[S []]) (pv:=[(0,_)]) (cs:=[_]) RX.all (λb3 w8 e3 x8 m3=>?_));have g3:=z.ge e3;refine Fy x8 hA z λhA z=>cD (X4s _ bd _ [n++[126]] _ _ hA (Ma m3) F0 (λ_=>Qn hj (Cb e3.symm))) (.inl rfl) λu9 w9 x9 hh=>?_;have hsz9:=z.size;have z:=z.own x9 (λi hi Y=>(hsub i (TM hi Fe)).resolve_right Fe);obtain⟨rfl,hA⟩:=hh;refine Fk (λc8=>?_) λc8=>?_
 ·refine go ?_;rw[hsv,X7b c7 c8];exact⟨_,rfl,z,rfl,hA.to (λk hk=>(λhk=>hk.elim (λhk=>hk.elim (hsub k) (λh9=>.inr Fe)) (λh9=>.inr Fe)) hk) (λk hk=>Ay (h.lt k hk) z.size)⟩
 refine go ?_;refine dp (I6 rfl rfl (by simp;omega)) (Gz (Yda _ bd _ (n++[126]) n _ hA) λu10 w10 hw hc=>?_);have hsz10:=z.size;have z:=z.own hw (λi hi Y=>(hsub i (TM (TM hi Fe) Fe)).resolve_right Fe);obtain⟨rfl,hA⟩:=hc;refine go ?_;rw[hsv,X7c c7 c8];exact⟨_,rfl,z,rfl,hA.to (λk hk=>(λhk=>hk.elim (λhk=>hk.elim (λhk=>hk.elim (hsub k) (λh9=>.inr Fe)) (λh9=>.inr Fe)) (λh9=>.inr Fe)) hk) (λk hk=>Ay (h.lt k hk) z.size)⟩
end Go.Proofs.YtiooodckiddpmaaGreatDoor
namespace Go.Proofs
open Go.Shelf
def Tryz.keys67_ren : Go.Shelf.Ren:=⟨λ|7=>67|10=>133|n=>n,λ|23=>120|26=>9|3=>123|28=>129|0=>0|27=>128|33=>208|4=>4|n=>n,λ|n=>n⟩
def Tryz.keys67 : Go.Proofs.SlLaysZ.n7 Tryz.prog Tryz.keys67_ren:={
 mixed:=by kernel_rfl
 f7:=⟨Tryz.f67.name,by decide,Tryz.func67.trans (congrArg some Ff)⟩
 f10:=⟨Tryz.f133.name,by decide,Tryz.func133.trans (congrArg some Ff)⟩
 t0:=Tryz.underlying0
 a0:=Tryz.isAgg0
 z0:=Tryz.sizeOf0
 v0:=Tryz.zeroValue0
 t4:=Tryz.underlying4
 a4:=Tryz.isAgg4
 z4:=Tryz.sizeOf4
 v4:=Tryz.zeroValue4
 t23:=Tryz.underlying120
 a23:=Tryz.isAgg120
 z23:=Tryz.sizeOf120
 v23:=Tryz.zeroValue120
 t26:=Tryz.underlying9
 a26:=Tryz.isAgg9
 z26:=Tryz.sizeOf9
 v26:=Tryz.zeroValue9
 t27:=Tryz.underlying128
 a27:=Tryz.isAgg128
 z27:=Tryz.sizeOf128
 v27:=Tryz.zeroValue128
 t28:=Tryz.underlying129
 a28:=Tryz.isAgg129
 z28:=Tryz.sizeOf129
 v28:=Tryz.zeroValue129
 t33:=Tryz.underlying208
 a33:=Tryz.isAgg208
 z33:=Tryz.sizeOf208
 v33:=Tryz.zeroValue208 }
def Tryz.sorted66_ren : Go.Shelf.Ren:=⟨λ|6=>66|8=>131|9=>132|11=>202|13=>204|12=>203|23=>271|24=>272|14=>262|15=>263|16=>264|17=>265|18=>266|19=>267|20=>268|21=>269|22=>270|25=>313|26=>314|27=>315|28=>316|29=>317|30=>305|31=>333|n=>n,λ|26=>9|28=>129|24=>58|0=>0|3=>3|37=>237|48=>174|50=>236|4=>4|40=>331|39=>330|45=>302|5=>5|9=>9|51=>355|55=>197|57=>368|58=>211|33=>208|n=>n,λ|n=>n⟩
def Tryz.sorted66 : Go.Proofs.SlLaysZ.n6 Tryz.prog Tryz.sorted66_ren:={
 mixed:=by kernel_rfl
 f6:=⟨Tryz.f66.name,by decide,Tryz.func66.trans (congrArg some Ff)⟩
 f8:=⟨Tryz.f131.name,by decide,Tryz.func131.trans (congrArg some Ff)⟩
 f11:=⟨Tryz.f202.name,by decide,Tryz.func202.trans (congrArg some Ff)⟩
 t0:=Tryz.underlying0
 a0:=Tryz.isAgg0
 z0:=Tryz.sizeOf0
 v0:=Tryz.zeroValue0
 t24:=Tryz.underlying58
 a24:=Tryz.isAgg58
 z24:=Tryz.sizeOf58
 v24:=Tryz.zeroValue58
 t26:=Tryz.underlying9
 a26:=Tryz.isAgg9
 z26:=Tryz.sizeOf9
 v26:=Tryz.zeroValue9
 t28:=Tryz.underlying129
 a28:=Tryz.isAgg129
 z28:=Tryz.sizeOf129
 v28:=Tryz.zeroValue129
 i26:=by kernel_rfl }
def Tryz.lays190_ren : Go.Shelf.Ren:=⟨λ|190=>132|125=>204|258=>203|128=>271|129=>272|302=>262|303=>263|304=>264|305=>265|306=>266|307=>267|308=>268|309=>269|310=>270|333=>313|329=>314|330=>315|334=>316|335=>317|336=>305|344=>333|n=>n,λ|31=>58|9=>9|3=>3|46=>237|0=>0|51=>174|53=>236|4=>4|183=>331|182=>330|131=>302|5=>5|218=>355|222=>197|228=>368|229=>211|n=>n,λ|n=>n⟩
def Tryz.lays190 : Go.Proofs.Lays.n190 Tryz.prog Tryz.lays190_ren:={
 mixed:=by kernel_rfl
 f125:=Tryz.func204.trans (congrArg some Ff)
 f128:=Tryz.func271.trans (congrArg some Ff)
 f129:=Tryz.func272.trans (congrArg some Ff)
 f190:=Tryz.func132.trans (congrArg some Ff)
 f258:=Tryz.func203.trans (congrArg some Ff)
 f302:=Tryz.func262.trans (congrArg some Ff)
 f303:=Tryz.func263.trans (congrArg some Ff)
 f304:=Tryz.func264.trans (congrArg some Ff)
 f305:=Tryz.func265.trans (congrArg some Ff)
 f306:=Tryz.func266.trans (congrArg some Ff)
 f307:=Tryz.func267.trans (congrArg some Ff)
 f308:=Tryz.func268.trans (congrArg some Ff)
 f309:=Tryz.func269.trans (congrArg some Ff)
 f310:=Tryz.func270.trans (congrArg some Ff)
 f329:=Tryz.func314.trans (congrArg some Ff)
 f330:=Tryz.func315.trans (congrArg some Ff)
 f333:=Tryz.func313.trans (congrArg some Ff)
 f334:=Tryz.func316.trans (congrArg some Ff)
 f335:=Tryz.func317.trans (congrArg some Ff)
 f336:=Tryz.func305.trans (congrArg some Ff)
 f344:=Tryz.func333.trans (congrArg some Ff)
 t0:=Tryz.underlying0
 a0:=Tryz.isAgg0
 z0:=Tryz.sizeOf0
 v0:=Tryz.zeroValue0
 t3:=Tryz.underlying3
 a3:=Tryz.isAgg3
 z3:=Tryz.sizeOf3
 v3:=Tryz.zeroValue3
 t4:=Tryz.underlying4
 a4:=Tryz.isAgg4
 z4:=Tryz.sizeOf4
 v4:=Tryz.zeroValue4
 t5:=Tryz.underlying5
 a5:=Tryz.isAgg5
 z5:=Tryz.sizeOf5
 v5:=Tryz.zeroValue5
 t9:=Tryz.underlying9
 a9:=Tryz.isAgg9
 z9:=Tryz.sizeOf9
 v9:=Tryz.zeroValue9
 t31:=Tryz.underlying58
 a31:=Tryz.isAgg58
 z31:=Tryz.sizeOf58
 v31:=Tryz.zeroValue58
 t46:=Tryz.underlying237
 a46:=Tryz.isAgg237
 z46:=Tryz.sizeOf237
 v46:=Tryz.zeroValue237
 t51:=Tryz.underlying174
 a51:=Tryz.isAgg174
 z51:=Tryz.sizeOf174
 v51:=Tryz.zeroValue174
 t53:=Tryz.underlying236
 a53:=Tryz.isAgg236
 z53:=Tryz.sizeOf236
 v53:=Tryz.zeroValue236
 t131:=Tryz.underlying302
 a131:=Tryz.isAgg302
 z131:=Tryz.sizeOf302
 v131:=Tryz.zeroValue302
 t182:=Tryz.underlying330
 a182:=Tryz.isAgg330
 z182:=Tryz.sizeOf330
 v182:=Tryz.zeroValue330
 t183:=Tryz.underlying331
 a183:=Tryz.isAgg331
 z183:=Tryz.sizeOf331
 v183:=Tryz.zeroValue331
 t218:=Tryz.underlying355
 a218:=Tryz.isAgg355
 z218:=Tryz.sizeOf355
 v218:=Tryz.zeroValue355
 t222:=Tryz.underlying197
 a222:=Tryz.isAgg197
 z222:=Tryz.sizeOf197
 v222:=Tryz.zeroValue197
 t228:=Tryz.underlying368
 a228:=Tryz.isAgg368
 z228:=Tryz.sizeOf368
 v228:=Tryz.zeroValue368
 t229:=Tryz.underlying211
 a229:=Tryz.isAgg211
 z229:=Tryz.sizeOf211
 v229:=Tryz.zeroValue211 }
open Go.Sort Go.RowKit in
def Tryz.slices_Sort_string (blk off cap:Nat)(ss:List (List UInt8))(w:World)(hH:Holds encStr w blk off ss.toArray)(hblk:blk<w.heap.size)(hsz:ss.length<4611686018427387904) :
 Calls Tryz.prog 132 #[.slice (some ⟨blk,off,none⟩) ss.length cap] w λe w'=>
  e=.returned (.tuple #[])/\∃n os,w'=grow (putRow encStr (Sort.ahead w n) blk off (ss.mergeSort λx y=>decide (x<=y)).toArray) os:=Any.slices_Sort_string Tryz.lays190 blk off cap ss w hH hblk hsz
open Go.RowKit Go.Sort in
def Tryz.slices_Sort_string_none (p:Option Addr)(cap:Nat)(w:World) :
 Calls Tryz.prog 132 #[.slice p 0 cap] w λe w'=>e=.returned (.tuple #[])/\w'=w:=Any.slices_Sort_string_none Tryz.lays190 p cap w
end Go.Proofs
namespace Go.Proofs.YtiooodckiddpmaaGreatDoor
open Go.Vc Go.Sp
attribute [local irreducible] W XW Dw GC
def keys_in (mb:Option Nat)(W:World):CallsIn Fence.wide 5 Tryz.prog 67 #[.map mb] W λe w'=>e=.returned (.func (.func 133) #[] #[.pointer (some ⟨W.heap.size,0,none⟩)])/\w'=W.alloc (.cells #[.map mb] 120):=
 AnyZ.keys_in Tryz.keys67 Fence.wide 5 trivial rfl mb W
def X10 (m:Nat):AnyZ.SortsIn Tryz.prog Tryz.sorted66_ren Fence.wide m:=
 ⟨λblk off cap ss W J z H=>callsIn_wide.2 (Tryz.slices_Sort_string blk off cap ss W J z H),λp cap W=>callsIn_wide.2 (Tryz.slices_Sort_string_none p cap W)⟩
def Xql {H:Type}(b nn:Nat)(D0:DataW H)(R:Value->Option (DataW H×List MemPlace))(w:World)(hown:w.ownsMap Tryz.prog 9 R b nn D0)(hmax:Maps.size D0<=maxLen)(hbytes:Maps.size D0*16<=140737488355328) :
  CallsIn Fence.wide 5 Tryz.prog 66 #[.func (.func 133) #[] #[.pointer (some ⟨w.heap.size,0,none⟩)]] (w.alloc (.cells #[.map (some b)] 120)) λe w'=>∃(v:Value) (ss:List (List UInt8)),e=.returned v/\ss.Perm (strKeys D0)/\
   w'.ownsRow (w.alloc (.cells #[.map (some b)] 120)).heap.size 9 1 v ss.length ((ss.mergeSort (λx y=>decide (x<=y))).map encStr)/\(v=.slice none 0 0↔ss=[])/\Go.RowKit.Below (w.alloc (.cells #[.map (some b)] 120)).heap.size (w.alloc (.cells #[.map (some b)] 120)) w':=by
 have O:=hown.lt;have J:SeqGives Fence.wide 2 Tryz.prog 133 #[.pointer (some ⟨w.heap.size,0,none⟩)] encStr (λss=>ss.Perm (strKeys D0)) (Maps.size D0) (w.alloc (.cells #[.map (some b)] 120)):=
  AnyZ.keys_gives (ρ:=Tryz.keys67_ren) { Tryz.keys67 with } Fence.wide _ trivial rfl Fe w.heap.size b nn D0 _ F0 F0 (by
   obtain⟨es,z,hb,Y,hs,Z⟩:=hown;exact⟨es,z,(Go.RowKit.Below.heap_alloc _ _ b O).trans hb,Y,hs,Z⟩)
 exact AnyZ.sorted_in Tryz.sorted66 Fence.wide 5 trivial trivial trivial trivial rfl Fe (X10 _) (enters_of Tryz.func132 Ff rfl) 133 #[.pointer (some ⟨w.heap.size,0,none⟩)] trivial (enters_of Tryz.func133 Ff rfl) _ _ hmax hbytes _ J
variable {w:World}
def Xxh {α:Type}{av:α->Value}{b:Nat}{l:List (Fj×α)}(h:Gr Tryz.prog 9 S av w b l)(hl:∀p∈l,p.1.length<=maxLen):∃D:DataW α,w.ownsMap Tryz.prog 9 (rdBy av) b l.length D/\Maps.size D=l.length/\(l.map (·.1)).Perm (strKeys D):=by
 obtain⟨h0,D,h1,h2,h3⟩:=h;have hk:Tryz.prog.underlying 9=some .string:=by kernel_rfl
 have K:=Go.Maps.string_keyed hk;refine⟨D,h1,h2,?_⟩;obtain⟨es,hD,ha,_⟩:=h1.entries K;obtain⟨hc,J,Y⟩:=h1.keysOf;obtain rfl:es=hc:=by rw[hD]at J;simpa using J
 subst hD;refine perm_strKeys ha (λp H=>by obtain⟨v,hv⟩:=Y p H;obtain⟨x,_,Z,_⟩:=Maps.keyOf_str hk hv;exact⟨x,Z⟩) h0 (λx=>?_)
 by_cases Z:x.length<=maxLen
 ·have O:keyOf Tryz.prog 9 (S x)=some (.string x):=WideMaps.keyOf_string_mk hk (s:=⟨⟨x⟩⟩) Z
  cases e:lk l x with
  | none=>
   have:=Maps.has_false_of_atKey (D:=.map es) (k:=.string x) λz=>by rw[h3 x _ O z,e];rfl
   rw[this];exact⟨λhm=>absurd hm (Nc.1 e),λhm=>by cases hm⟩
  | some a=>
   have:=Maps.has_true_of_atKey (D:=.map es) (k:=.string x) (y:=.held a) λz=>by rw[h3 x _ O z,e];rfl
   rw[this];exact⟨λ_=>rfl,λ_=>Ao.2 ⟨_,Ro e,rfl⟩⟩
 ·constructor
  ·intro hm;obtain⟨p,H,rfl⟩:=Ao.1 hm;exact absurd (hl p H) Z
  ·intro hm;have h5:x∈strKeys (.map es:DataW α):=by
    unfold Go.Maps.has at hm;show x∈es.map λp=>strOf p.1;obtain⟨p,H,hs⟩:=BB.1 hm;obtain⟨y,hy⟩:∃y,p.1=.string y:=by obtain⟨v,hv⟩:=Y p H;obtain⟨y,_,hy,_⟩:=Maps.keyOf_str hk hv;exact⟨y,hy⟩
    refine Ao.2 ⟨p,H,?_⟩;rw[hy]at hs ⊢;simpa [Lit.sameKey,strOf]using hs
   exact absurd (strKeys_le h1 hk x h5) Z
def Yau (mf:Nat)(w:World):Calls Tryz.prog 67 [.map (some mf)].toArray w (Hb w (λu w'=>u=J2 133 [Fh w.heap.size 0]/\w'=w.alloc (.cells #[.map (some mf)] 120))):=by
 refine(callsIn_wide.1 (keys_in (some mf) w)).mono ?_;rintro e w' ⟨rfl,rfl⟩;exact⟨_,rfl,Fq.alloc _ _,rfl,rfl⟩
def Xxi (mf:Nat)(l:List (Fj×Option Nat))(w:World)(h:Gr Tryz.prog 9 S pO w mf l)(hl:∀p∈l,p.1.length<=maxLen)(hn:l.length<=1000000) :
  Calls Tryz.prog 66 [J2 133 [Fh w.heap.size 0]].toArray (w.alloc (.cells #[.map (some mf)] 120)) (Hb (w.alloc (.cells #[.map (some mf)] 120)) (λu w'=>Vc.Own GF 1 9 w.heap.size w' u ((l.map (·.1)).mergeSort (λx y=>decide (x<=y))))):=by
 obtain⟨D,h1,h2,h3⟩:=Xxh h hl;refine(callsIn_wide.1 (Xql mf l.length D (rdBy pO) w h1 (by rw[h2];unfold maxLen;omega) (by rw[h2];omega))).mono ?_;rintro e w' ⟨v,ss,rfl,hS,hrow,_,hb⟩;refine⟨v,rfl,Fq.of_below hb,⟨?_⟩⟩;have e1:ss.mergeSort (λx y=>decide (x<=y))=(l.map (·.1)).mergeSort (λx y=>decide (x<=y)):=mergeSort_of_perm (hS.trans h3.symm);rw[e1]at hrow;have e2:ss.length=((l.map (·.1)).mergeSort (λx y=>decide (x<=y))).length:=by rw[<-e1,E6]
 have z:((l.map (·.1)).mergeSort (λx y=>decide (x<=y))).flatMap GF=((l.map (·.1)).mergeSort (λx y=>decide (x<=y))).map encStr:=by
  generalize (l.map (·.1)).mergeSort (λx y=>decide (x<=y))=q
  induction q with
  | nil=>rfl
  | cons a r ih=>rw[AA,Ak,ih];rfl
 rw[z,<-e2];exact ownsRow_base_a hrow F0
def J5 (F:Nat->Prop)(bd:Nat)(D:Dsk)(w:World)(h:GG F bd D w) :
  Gi 28 [Fh bd 0] w λu w'=>Vc.Own GF 1 9 w.heap.size w' u D.names:=by
 refine cE Tryz.func28 λz=>?_;obtain⟨mf,es,H⟩:=h;have hd:=H.m;have Y:=H.map;refine go ?_;refine dp (GY Ff rfl rfl) ?_;refine Fk (λO=>?_) λO=>?_
 ·exact absurd O F0
 refine Gj (Yau mf _) λu1 w1 x1 J=>?_;have hsz1:=z.size;have z:=z.trans x1;obtain⟨rfl,rfl⟩:=J;refine cG (Xxi mf (es.map Fm.kv) _ Y (λp hp=>by obtain⟨e,he,rfl⟩:=Ao.1 hp;have:=(H.name he).2;unfold maxLen;simp only;omega) (by have:=H.len;rw[Au];omega)) RX.all λu2 w2 x2 Z=>?_;have hsz2:=z.size;have z:=z.trans x2;refine go ?_;refine⟨_,rfl,z,?_⟩;rw[show D.names=((es.map Fm.kv).map (·.1)).mergeSort (λx y=>decide (x<=y)) by unfold Dsk.names;rw[H.fs,Bq,Bq];rfl];exact Z
def Xmh {a b:Fj}(h:(⟨⟨a⟩⟩:ByteArray)=⟨⟨b⟩⟩):a=b:=by simpa using h
def Xuf (l:List Fj)(s:Fj)(v:Value)(w:World)(hv:Fu GF 1 w v l)(hl:l.length<=1000000):Calls Tryz.prog 130 [v,S s].toArray w (Vc.Pure w (B (decide (s∈l)))):=by
 have none:l.length=0->∀a c,v=.slice a 0 c->Calls Tryz.prog 130 [v,S s].toArray w (Vc.Pure w (B (decide (s∈l)))):=by
  intro h0 a c e;have hn:l=[]:=A0 h0;subst hn;subst e;refine(Tryz.slices_Contains_string_empty a c ⟨⟨s⟩⟩ w).mono ?_;rintro e w' ⟨rfl,rfl⟩;exact⟨by simp,Fq.refl _⟩
 rcases hv.sl with⟨e,h0⟩|⟨b,o,c,e,hc⟩|⟨h0,a,c,e⟩
 ·exact none h0 _ _ e
 ·subst e;refine(Tryz.slices_Contains_string b o l.length c (l.map λx=>(⟨⟨x⟩⟩:ByteArray)) ⟨⟨s⟩⟩ w F0 Fe (λj z=>?_)).mono ?_
  ·rw[Au]at z;have:=(hv.row (Aq z)) 0 _ rfl;simpa [base,List.getD,Aq z]using this
  ·rintro e w' ⟨rfl,rfl⟩;refine⟨?_,Fq.refl _⟩
   congr 2
   rw[Dv,Lib.containsS_iff,Av F0,decide_eq_true_eq,Ao];exact⟨λ⟨x,hx,e⟩=>Xmh e▸hx,λh=>⟨s,h,rfl⟩⟩
 ·exact none h0 _ _ e
def Xxj (D:Dsk)(s:Fj):decide (s∈D.names)=D.has s:=by
 rw[Dv,decide_eq_true_eq];unfold Dsk.names Dsk.has;rw[(List.mergeSort_perm _ _).mem_iff]
 cases e:lk D.fs s with
 | none=>exact⟨λh=>absurd h (Nc.1 e),λh=>by cases h⟩
 | some f=>exact⟨λ_=>rfl,λ_=>Ao.2 ⟨_,Ro e,rfl⟩⟩
variable {D:Dsk}
def Xxk (h:D.Wf):D.names.length<=1000000:=by
 unfold Dsk.names;rw[E6,Au];have:=h.cnt;omega
variable {r:List Fj}{s:Fj}
def X11 (h:D.has s=false):Dsk.rems (s :: r) D=Dsk.rems r D:=by rw[Dsk.rems.eq_def];simp [h]
def X12 (h:D.has s=true)(h2:(D.rem [s]).1≠0):Dsk.rems (s :: r) D=D.rem [s]:=by rw[Dsk.rems.eq_def];simp [h,h2]
def X7e (h:D.has s=true)(h2:(D.rem [s]).1=0):Dsk.rems (s :: r) D=Dsk.rems r (D.rem [s]).2:=by rw[Dsk.rems.eq_def];simp [h,h2]
def KO (F:Nat->Prop)(bd:Nat)(D:Dsk)(s:Fj)(w:World)(h:GG F bd D w) :
  FX 189 [Fh bd 0,S s] w (B (D.has s)):=by
 refine cE Tryz.func189 λz=>Gj (J5 F bd D _ (h.ext z)) λu1 w1 J H=>?_;have hsz1:=z.size;have z:=z.trans J;refine Gs (Xuf D.names s _ _ (H.arr Fg) (Xxk h.wf)) λw2 O=>?_;have z:=z.trans O;refine go ?_;exact⟨by rw[Xxj],z⟩
def IF (F:Nat->Prop)(bd:Nat)(D:Dsk)(l:List Fj)(v:Value)(w:World)(h:GG F bd D w)(hv:Fu GF 1 w v l)(hl:l.length<=100000)(hdv:l≠[]->¬ F (base v).1) :
  G4 178 [Fh bd 0,v] w F λu w'=>u=I (Dsk.rems l D).1/\GG (FV F w w') bd ((Dsk.rems l D).2) w':=by
 refine cM Tryz.func178 F λz=>?_;have H:=h.lt;refine FM 9 1 (hv.mod z hdv).sl ?_;refine F8 (G:=Nat×(Nat->Prop)×Dsk) (λ(k,Fc,Dc)=>[(0,Fh bd 0),(8,v),(9,I ↑l.length),(10,I ↑k)]) (λ(k,Fc,Dc) w'=>Mod F w w'/\k<=l.length/\GG Fc bd Dc w'/\(∀i,Fc i->F i\/w.heap.size<=i)/\Dsk.rems l D=Dsk.rems (l.drop k) Dc) (λ(k,Fc,Dc)=>l.length-k) (0,F,D) ⟨z,Ab _,h,λ_ h=>.inl h,rfl⟩ ?_;rintro _ ⟨k,Fc,Dc⟩ w1 ⟨z,hk1,hA,hsub,hev⟩;have hszk:=z.size;refine Fk (λc1=>?_) λc1=>?_
 ·obtain⟨s,hk⟩:∃s,l[k]?=some s:=F7;have J:=Ja hk;refine go ?_;refine di 9 1 (hv.mod z hdv).sl rfl ((hv.mod z hdv).lt hk) (dl rfl (((hv.mod z hdv).row hk).at0 rfl) (Gs (KO Fc bd Dc s _ hA) λw2 x2=>Fy x2 hA z λhA z=>?_));refine Gb (λZ=>?_) λZ=>?_
  ·refine go ?_;refine FL (k+1,Fc,Dc) ⟨z,by omega,hA,hsub,?_⟩;rw[hev,J,X11 (by simpa using Z)]
  have hh:Dc.has s=true:=by simpa using Z
  refine go ?_;have Y:=hA;refine go ?_;refine li (e:=9) (sz:=1) (zs:=[S []]) (pv:=[(0,_)]) (cs:=[_]) RX.all (λb1 w3 e1 x3 m1=>?_);have g1:=z.ge e1;refine Fy x3 hA z λhA z=>cD (S5 Fc bd Dc [s] _ _ hA (Ma m1) F0 (λ_=>Qn Y (Cb e1.symm))) (.inl rfl) λu4 w4 x4 O=>?_;have hsz4:=z.size;have z:=z.own x4 (λi hi hlt=>(hsub i hi).resolve_right Fe);obtain⟨rfl,hA⟩:=O;refine Fk (λc3=>?_) λc3=>?_
  ·refine go ?_;refine⟨_,rfl,z,?_⟩;rw[hev,J,X12 hh c3];exact⟨rfl,hA.to (λi hi=>hi.elim (hsub i) (λh9=>.inr Fe)) (λk hk=>Ay (H k hk) z.size)⟩
  refine go ?_;refine⟨(k+1,_,(Dc.rem [s]).2),Hn,⟨z,by omega,hA,λi hi=>hi.elim (hsub i) (λh9=>.inr Fe),?_⟩,by simp only [];omega⟩;rw[hev,J,X7e hh (AF c3)]
 refine go ?_;refine⟨_,rfl,z,?_⟩;rw[hev,BG Fe];exact⟨rfl,hA.to hsub (λk hk=>Ay (H k hk) z.size)⟩
@[reducible] def JE (v:Value):List Value:=[v]
@[reducible] def nz (l:Fj) (v:Value) (k:Nat):Prop:=l≠[]/\k=(base v).1
@[reducible] def M7 (vd:Value) (vs:List (Value×Fj)) (data:Fj) (k:Nat):Prop:=nz data vd k\/∃q∈vs,nz q.2 q.1 k
structure LedE (G:Nat->Prop)(bl bd:Nat)(vd ve:Value)(vs:List (Value×Fj))(L:Led)(w:World):Prop where
 m:Fp w bl [Fh bd 0,S [115],I L.base,vd,ve,B L.dead] 147
 d:Fu Fs 1 w vd L.data
 e:Vc.Own JE 1 82 0 w ve (vs.map (·.1))
 es:vs.map (·.2)=L.ents
 el:∀q∈vs,Fu Fs 1 w q.1 q.2
 inG:∀k,(k=bl\/ve.ownBlock=some k\/M7 vd vs L.data k)->G k
 sep:∀k,M7 vd vs L.data k->k≠bl/\ve.ownBlock≠some k
 lt:∀k,G k->k<w.heap.size
 b0:0<=L.base
 b1:L.base<=1099511627776
 dl:L.data.length<=524288
 pl:∀p∈L.ents,p.length<=65536
 la:L.last<=1099511627776
section
variable {G Sx:Nat->Prop}{bl bd:Nat}{vd ve:Value}{vs:List (Value×Fj)}{L:Led}{w w':World}
def LedE.mod (h:LedE G bl bd vd ve vs L w)(m:Vc.Mod Sx w w')(hS:∀k,G k->¬ Sx k):LedE G bl bd vd ve vs L w':=
 ⟨h.m.mod m (hS _ (h.inG _ (.inl rfl))),h.d.mod m (λz=>hS _ (h.inG _ (.inr (.inr (.inl ⟨z,rfl⟩))))),h.e.mod m (λk hk=>hS _ (h.inG _ (.inr (.inl hk)))),h.es,λq H=>(h.el q H).mod m (λz=>hS _ (h.inG _ (.inr (.inr (.inr ⟨q,H,z,rfl⟩))))),
  h.inG,h.sep,λk hk=>Ay (h.lt k hk) m.size,h.b0,h.b1,h.dl,h.pl,h.la⟩
def LedE.ext (h:LedE G bl bd vd ve vs L w)(m:Fq w w'):LedE G bl bd vd ve vs L w':=h.mod m (λ_ _ h=>h)
instance : Up w w' (LedE G bl bd vd ve vs L w) (LedE G bl bd vd ve vs L w'):=⟨λx h=>h.ext x⟩
def LedE.len (h:LedE G bl bd vd ve vs L w):vs.length=L.ents.length:=by rw[<-h.es,Au]
def LedE.lenB (h:LedE G bl bd vd ve vs L w):L.ents.length<=1099511627776:=by have h1:=h.la;have h2:=h.b0;unfold Led.last at h1;omega
def LedE.earr (h:LedE G bl bd vd ve vs L w):Fu JE 1 w ve (vs.map (·.1)):=h.e.arr Fg
def LedE.head {L':Led}(h:LedE G bl bd vd ve vs L w)(m:Vc.Mod (Fv bl) w w')(hm:Fp w' bl [Fh bd 0,S [115],I L'.base,vd,ve,B L'.dead] 147)(hb:L'.base=L.base)(hd:L'.data=L.data)(he:L'.ents=L.ents):LedE G bl bd vd ve vs L' w':=by
 have H:=h.e.ne_blk h.m rfl;refine⟨hm,by rw[hd];exact h.d.mod m (λz e=>(h.sep _ (.inl ⟨z,rfl⟩)).1 e),h.e.mod m (λk hk e=>H (by have e2:k=bl:=e;rw[hk,e2])),h.es.trans he.symm,λq J=>(h.el q J).mod m (λz e=>(h.sep _ (.inr ⟨q,J,z,rfl⟩)).1 e),
  by rw[hd];exact h.inG,by rw[hd];exact h.sep,λk hk=>Ay (h.lt k hk) m.size,hb▸h.b0,hb▸h.b1,hd▸h.dl,he▸h.pl,by unfold Led.last;rw[hb,he];exact h.la⟩
end
def LD (H:Nat->Prop)(bl bd:Nat)(L:Led)(D:Dsk)(w:World):Prop:=∃(F G:Nat->Prop) (vd ve:Value) (vs:List (Value×Fj)),GG F bd D w/\LedE G bl bd vd ve vs L w/\(∀k,F k->¬ G k)/\(∀k,F k\/G k->H k)/\∀k,H k->k<w.heap.size
variable {H:Nat->Prop}{L:Led}{bd:Nat}{w':World}
def LD.mod {Sx:Nat->Prop}{bl:Nat}(h:LD H bl bd L D w)(m:Vc.Mod Sx w w')(hS:∀k,H k->¬ Sx k):LD H bl bd L D w':=by
 obtain⟨F,G,vd,ve,vs,h1,h2,h3,h4,z⟩:=h;exact⟨F,G,vd,ve,vs,h1.mod m (λk hk=>hS k (h4 k (.inl hk))),h2.mod m (λk hk=>hS k (h4 k (.inr hk))),h3,h4,λk hk=>Ay (z k hk) m.size⟩
def LD.ext {bl:Nat}(h:LD H bl bd L D w)(m:Fq w w'):LD H bl bd L D w':=h.mod m (λ_ _ h=>h)
instance {H : Nat->Prop} {bl bd:Nat} {L:Led} {D:Dsk} {w w':World} : Up w w' (LD H bl bd L D w) (LD H bl bd L D w'):=⟨λx h=>h.ext x⟩
def LD.lt {bl:Nat}(h:LD H bl bd L D w):∀k,H k->k<w.heap.size:=by obtain⟨_,_,_,_,_,_,_,_,_,z⟩:=h;exact z
def LD.wide {H':Nat->Prop}{bl:Nat}(h:LD H bl bd L D w)(hG:∀k,H k->H' k)(hl:∀k,H' k->k<w.heap.size):LD H' bl bd L D w:=by
 obtain⟨F,G,vd,ve,vs,h1,h2,h3,h4,h5⟩:=h;exact⟨F,G,vd,ve,vs,h1,h2,h3,λk hk=>hG k (h4 k hk),hl⟩
def LD.grow {bl:Nat}(h:LD H bl bd L D w)(x:Fq w w'):LD (FV H w w') bl bd L D w':=(h.ext x).wide (λ_ h=>.inl h) (Jq h.lt x.size)
def HJ (G:Nat->Prop)(bl bd:Nat)(vd ve:Value)(vs:List (Value×Fj))(L:Led)(w:World)(h:LedE G bl bd vd ve vs L w) :
  FX 177 [Fh bl 0] w (S Led.img):=by
 refine cE Tryz.func177 λz=>?_;have hl:=h.m;refine go ?_;refine dp (I6 rfl rfl (by simp;done)) (go ?_);exact⟨rfl,z⟩
def Ha (G:Nat->Prop)(bl bd:Nat)(vd ve:Value)(vs:List (Value×Fj))(L:Led)(w:World)(h:LedE G bl bd vd ve vs L w) :
  FX 84 [Fh bl 0] w (S Led.logn):=by
 refine cE Tryz.func84 λz=>?_;have hl:=h.m;refine go ?_;refine dp (I6 rfl rfl (by simp;done)) (go ?_);exact⟨rfl,z⟩
def HC (G:Nat->Prop)(bl bd:Nat)(vd ve:Value)(vs:List (Value×Fj))(L:Led)(w:World)(h:LedE G bl bd vd ve vs L w) :
  FX 55 [Fh bl 0] w (I L.last):=by
 refine cE Tryz.func55 λz=>?_;have Y:=h.m;have hlb:=h.lenB;have hb1:=h.b1;have hb0:=h.b0;have J:=h.len;refine go ?_;refine dp (GY Ff rfl rfl) ?_;refine Fk (λO=>?_) λO=>?_
 ·exact absurd O F0
 refine Gt 100010001000 λw1 Z=>?_;have z:=z.trans Z;refine go ?_;refine dL rfl (λ_ hR=>((Y.ext (z.trans hR)).at rfl)) (go ?_);refine dL rfl (λ_ hR=>((Y.ext (z.trans hR)).at rfl)) (dv 82 1 (h.earr.ext z).sl (dp (GK rfl rfl (by unfold Ge;simp;omega)) (go ?_)));exact⟨by unfold Led.last;rw[<-J];simp,z⟩
def X4v (G:Nat->Prop)(bl bd:Nat)(vd ve:Value)(vs:List (Value×Fj))(L:Led)(e:Int)(w:World)(h:LedE G bl bd vd ve vs L w) :
  G4 86 [Fh bl 0,I e] w (Fv bl) λu w'=>u=I e/\LedE G bl bd vd ve vs { L with dead:=L.dead || decide (e≠0) } w':=by
 refine cE Tryz.func86 λz=>?_;have J:=h.m;refine go ?_;refine IR 10 rfl (λO=>?_) (λO=>?_)
 ·refine go ?_;refine HL J (λw1 Y xs1 J=>?_);have z:=(z.mod Y).mono (λi hi _=>(hi:(Fv bl) i));refine go ?_;refine⟨_,rfl,z,rfl,h.head z ?_ rfl rfl rfl⟩;simpa [O]using J
 refine go ?_;refine HL J (λw2 Z xs2 J=>?_);have z:=(z.mod Z).mono (λi hi _=>(hi:(Fv bl) i));refine go ?_;refine⟨_,rfl,z,rfl,h.head z ?_ rfl rfl rfl⟩;simpa [O]using J
end Go.Proofs.YtiooodckiddpmaaGreatDoor

namespace Go.Proofs.YtiooodckiddpmaaGreatDoor
open Go.Vc Go.Sp
attribute [local irreducible] W XW Dw GC
variable {D:Dsk}{L:Led}{p:Fj}
def Vt (h:L.dead=true):L.append D p=(0,9,L,D):=by unfold Led.append;rw[if_pos h]
def R4 (h:L.dead=false)(h2:65536<p.length\/1099511627776<=L.last):L.append D p=(0,5,L,D):=by unfold Led.append;rw[if_neg (by rw[h];decide),if_pos h2]
def IH (L:Led)(D:Dsk)(p:Fj):Int×Dsk:=if(D.app Led.logn (Fz (Led.ent (L.last+1) p))).1=0 then(D.app Led.logn (Fz (Led.ent (L.last+1) p))).2.sync [Led.logn]else D.app Led.logn (Fz (Led.ent (L.last+1) p))
def UF (h:L.dead=false)(h2:¬ (65536<p.length\/1099511627776<=L.last))(h3:(IH L D p).1≠0):L.append D p=(0,(IH L D p).1,{ L with dead:=true },(IH L D p).2):=by unfold Led.append;rw[if_neg (by rw[h];decide),if_neg h2];exact if_pos h3
def QR (h:L.dead=false)(h2:¬ (65536<p.length\/1099511627776<=L.last))(h3:¬ (IH L D p).1≠0):L.append D p=(L.last+1,0,{ L with ents:=L.ents++[p] },(IH L D p).2):=by unfold Led.append;rw[if_neg (by rw[h];decide),if_neg h2];exact if_neg h3
variable {bw:Nat}{w:World}
def Wr.lt {B:Nat}{v:Value}{l:Fj}(h:Wr B bw v l w):∀k,HX bw v k->k<w.heap.size:=λk hk=>hk.elim (λe=>e▸h.m.lt) (λe=>(h.o.lt k e).2)
variable {k:Nat}
def Wr.ge {B:Nat}{v:Value}{l:Fj}(h:Wr B bw v l w)(hb:B<=bw)(hk:HX bw v k):B<=k:=hk.elim (λe=>e▸hb) (λe=>(h.o.lt k e).1)
def N7 (i:Int)(p:Fj):(Led.ent i p).length<=p.length+20:=by
 unfold Led.ent FA;have h1:=Gk i.toNat;have h2:=Gk p.length;simp only [Ad];omega
def Wk {i:Int}(h0:0<=i)(h1:i<=1099511627777):[i].flatMap GA++[p].flatMap FA=Led.ent i p:=by
 simp [Led.ent,GA,HF]
 congr 1;omega
variable {w':World}
def LedE.add {G:Nat->Prop}{bl bd:Nat}{vd ve ve2 vp:Value}{vs:List (Value×Fj)}{w0:World}{Sx:Nat->Prop}(h:LedE G bl bd vd ve vs L w)(J:L.last<1099511627776)(hp:p.length<=65536)(hd:L.dead=false)(hw0:w0.heap.size<=w.heap.size)(h0:∀k,G k->k<w0.heap.size)(m:Vc.Mod Sx w w')(hS:∀k,Sx k->k=bl\/ve.ownBlock=some k\/w.heap.size<=k)(hm:Fp w' bl [Fh bd 0,S [115],I L.base,vd,ve2,B L.dead] 147)(he:Vc.Own JE 1 82 0 w' ve2 (vs.map (·.1)++[vp]))(hv:ve2.ownBlock=ve.ownBlock\/∀k,ve2.ownBlock=some k->w0.heap.size<=k)(ha:Fu Fs 1 w' vp p)(hf:p≠[]->w0.heap.size<=(base vp).1)(hu:p≠[]->ve2.ownBlock≠some (base vp).1):LedE (FV G w0 w') bl bd vd ve2 (vs++[(vp,p)]) { L with ents:=L.ents++[p] } w':=by
 have hn:∀k,M7 vd vs L.data k->¬ Sx k:=λk hk hs=>by
  have h1:=h.sep k hk;have h2:=h.lt k (h.inG k (.inr (.inr hk)));rcases hS k hs with e|e|e
  ·exact h1.1 e
  ·exact h1.2 e
  ·omega
 refine⟨hm,h.d.mod m (λJ=>hn _ (.inl ⟨J,rfl⟩)),by rw[A3];exact he,by rw[A3,h.es];rfl,λq z=>?_,λk hk=>?_,λk hk=>?_,Jq h0 (Ae hw0 m.size),h.b0,h.b1,h.dl,λq z=>?_,?_⟩
 ·rcases Al.1 z with z|z
  ·exact(h.el q z).mod m (λJ=>hn _ (.inr ⟨q,z,J,rfl⟩))
  ·rw[Af.1 z];exact ha
 ·rcases hk with rfl|hk|hk|⟨q,z,hk⟩
  ·exact .inl (h.inG _ (.inl rfl))
  ·rcases hv with e|e
   ·exact .inl (h.inG _ (.inr (.inl (e▸hk))))
   ·exact .inr ⟨e k hk,(he.lt k hk).2⟩
  ·exact .inl (h.inG _ (.inr (.inr (.inl hk))))
  ·rcases Al.1 z with z|z
   ·exact .inl (h.inG _ (.inr (.inr (.inr ⟨q,z,hk⟩))))
   ·rw[Af.1 z]at hk;obtain⟨J,rfl⟩:=hk;exact .inr ⟨hf J,ha.base_lt Fo J⟩
 ·have old:M7 vd vs L.data k->k≠bl/\ve2.ownBlock≠some k:=λhk=>⟨(h.sep k hk).1,λe=>by
   rcases hv with e2|e2
   ·exact(h.sep k hk).2 (e2▸e)
   ·have h1:=e2 k e;have h2:=h0 k (h.inG k (.inr (.inr hk)));omega⟩
  rcases hk with hk|⟨q,z,hk⟩
  ·exact old (.inl hk)
  ·rcases Al.1 z with z|z
   ·exact old (.inr ⟨q,z,hk⟩)
   ·rw[Af.1 z]at hk;obtain⟨J,rfl⟩:=hk;refine⟨λe=>?_,hu J⟩;have h1:=hf J;have h2:=h0 bl (h.inG bl (.inl rfl));rw[e]at h1;omega
 ·rcases Al.1 z with z|z
  ·exact h.pl q z
  ·rw[Af.1 z];exact hp
 ·unfold Led.last at J ⊢;simp only [Ad,C2];omega
def X13 (H:Nat->Prop)(bl bd:Nat)(L:Led)(D:Dsk)(p:Fj)(vp:Value)(w:World)(h:LD H bl bd L D w)(hp:Fu Fs 1 w vp p)(hpl:p.length<=1000000)(hcnt:L.ents.length<=1000000)(hpH:p≠[]->¬ H (base vp).1) :
  G4 40 [Fh bl 0,vp] w H λu w'=>u=.tuple #[I (L.append D p).1,I (L.append D p).2.1]/\LD (FV H w w') bl bd (L.append D p).2.2.1 (L.append D p).2.2.2 w':=by
 refine cE Tryz.func40 λz=>?_;have xf:=h;obtain⟨F,G,vd,ve,vs,hA,J,hf,hc,hh⟩:=h;have O:=J.m;have hla:=J.la;have hb0:=J.b0;have hl0:0<=L.last:=by unfold Led.last;omega
 have ha:=J.lt;have hblt:=O.lt;have yh:=Gk (HF (L.last+1));have hbl1:([L.last+1].flatMap GA).length<=10:=by simpa [GA]using yh
 have helen:=N7 (L.last+1) p;refine go ?_;refine dp (GY Ff rfl rfl) ?_;refine Fk (λc1=>?_) λc1=>?_
 ·exact absurd c1 F0
 refine Gb (λc2=>?_) λc2=>?_
 ·refine go ?_;rw[Vt c2];exact⟨_,rfl,z.mono (λ_ h _=>h.elim),rfl,xf.grow z⟩
 refine FM 5 1 hp.sl ?_;refine FJ 21 (λc3=>?_) λc3=>?_
 ·refine go ?_;refine GU rfl (go ?_);rw[R4 c2 Fe];exact⟨_,rfl,z.mono (λ_ h _=>h.elim),rfl,xf.grow z⟩
 refine Gs (HC G bl bd vd ve vs L _ J) λw1 x1=>FQ x1 O J hA z λO J hA z=>?_;refine dp (HY rfl rfl) ?_;refine Fk (λc4=>?_) λc4=>?_
 ·refine go ?_;rw[R4 c2 Fe];exact⟨_,rfl,z.mono (λ_ h _=>h.elim),rfl,xf.grow z⟩
 have xv:¬ (65536<p.length\/1099511627776<=L.last):=by omega
 refine go ?_;refine aL [.slice none 0 0] λb1 w2 e1 x2 m1=>?_;have g1:=z.ge e1;have a1_hl:=O.lt;have a1_hE:=J.lt;have a1_hA:=hA.lt;refine FQ x2 O J hA z λO J hA z=>Gs (HC G bl bd vd ve vs L _ J) λw3 x3=>Ga x3 O J hA m1 z λO J hA m1 z=>?_;refine go ?_;refine li (e:=3) (sz:=1) (zs:=[.int .i64 0]) (pv:=[(0,_)]) (cs:=[_]) RX.all (λb2 w4 e2 x4 m2=>?_);have g2:=z.ge e2;have n2_1:=m1.ltb e2;have a2_hl:=O.lt;have a2_hE:=J.lt;have a2_hA:=hA.lt;refine Ga x4 O J hA m1 z λO J hA m1 z=>?_;have Y:Wr w.heap.size b1 (.slice none 0 0) [] w4:=⟨m1,Vc.Own.nil⟩;refine cD (Lb w.heap.size b1 (.slice none 0 0) [] [L.last+1] (.slice (some ⟨b2,0,none⟩) 1 1) _ Y F0 z.size (m2.arr (enc:=Vc.encI) (sz:=1) (l:=[L.last+1]) rfl Fg rfl F0) F0 (λk hk _ e=>hk.elim (λh=>by have e2:b2=k:=e;omega) (λh=>by cases h))) (.inl rfl) λu5 w5 x5 yi=>?_;have hsz5:=z.size;have O:=O.mod x5 (λh=>by have h8:=Y.ge g1 h;omega);have J:=J.mod x5 (λk hk h=>by have h9:=ha k hk;have h8:=Y.ge g1 h;omega);have hA:=hA.mod x5 (λk hk h=>by have h9:=hh k (hc k (.inl hk));have h8:=Y.ge g1 h;omega);have z:=z.own x5 (λi hi=>Y.ge g1 hi);obtain⟨rfl,v2,Y,hg2⟩:=yi;refine go ?_;refine It (e:=82) (sz:=1) (zs:=[.slice none 0 0]) (pv:=[(0,?a26_0)]) (cs:=[?a26_0]) rfl Ff ⟨rfl,rfl⟩ Ff rfl ?h26 ?f26 RX.all (λb3 w6 e3 x6 m3=>?k26)
 case h26=>refine⟨rfl,?_,trivial⟩<;>(conv=>lhs;whnf)
 case f26=>simp [Hs,Gw,Ap,hp.sl.cells]
 have g3:=z.ge e3;have a3_hl:=O.lt;have a3_hE:=J.lt;have a3_hA:=hA.lt;have ht:=Y.lt;refine Ga x6 O J hA Y z λO J hA Y z=>cD (Mn w.heap.size b1 v2 _ [(vp,p)] (.slice (some ⟨b3,0,none⟩) 1 1) _ Y (by rw[AG];omega) z.size (Lp m3) (λq h=>by rw[Af.1 h];exact hp.ext z) (λq h=>by rw[Af.1 h];exact hpl) F0 (λ_ h=>A7 b3 (AD (ht _ h) e3.symm)) (λq h O h2=>by rw[Af.1 h]at O h2;have h8:=hp.base_lt Fo O;have h7:=Y.ge g1 h2;exact absurd (Ay h8 h7) (A7 _))) (.inl rfl) λu7 w7 x7 yo=>?_;have hsz7:=z.size;have O:=O.mod x7 (λh=>by have h8:=Y.ge g1 h;omega);have J:=J.mod x7 (λk hk h=>by have h9:=ha k hk;have h8:=Y.ge g1 h;omega);have hA:=hA.mod x7 (λk hk h=>by have h9:=hh k (hc k (.inl hk));have h8:=Y.ge g1 h;omega);have z:=z.own x7 (λi hi=>Y.ge g1 hi);obtain⟨rfl,v3,Y,hg3⟩:=yo;refine Gj (OA w.heap.size b1 v3 _ _ Y (by simp only [AG,Ad,Ak,Bg,AA,Ck,AI,FA,GA]at *;have h5:=Gk p.length;omega)) λvo w8 x8 hB=>?_;have hsz8:=z.size;refine FQ x8 O J hA z λO J hA z=>?_;rw[show([]++[L.last+1].flatMap GA)++BQ FA ([(vp,p)].map (λq:Value×Fj=>q.2))=Led.ent (L.last+1) p by rw[AG];exact Wk Fe Fe]at hB;refine It (e:=82) (sz:=1) (zs:=[.slice none 0 0]) (pv:=[(0,?a27_0)]) (cs:=[?a27_0]) rfl Ff ⟨rfl,rfl⟩ Ff rfl ?h27 ?f27 RX.all (λb4 w9 e4 x9 m4=>?k27)
 case h27=>refine⟨rfl,?_,trivial⟩<;>(conv=>lhs;whnf)
 case f27=>simp [Hs,Gw,Ap,hB.sl.cells]
 have g4:=z.ge e4;have a4_hl:=O.lt;have a4_hE:=J.lt;have a4_hA:=hA.lt;have o4_hB:=hB.ltb e4;refine Ga x9 O J hA hB z λO J hA hB z=>cG (T7 (Led.ent (L.last+1) p) vo _ _ (m4.arr (enc:=λx:Value=>[x]) (sz:=1) (l:=[vo]) rfl Fg rfl F0) (hB.arr Fg) Fe) RX.all λu10 w10 yq xx=>?_;have xg:=z.size;refine FQ yq O J hA z λO J hA z=>?_;obtain⟨vb,rfl,xq⟩:=xx;have xc:HQ (Led.ent (L.last+1) p)=0:=if_neg Fe;have Z:=(xq xc).1;have hBf:=Ae xg (xq xc).2;refine g0 ?_;refine GP (G:=(Nat->Prop)×Dsk×Int) (λ(F1,D1,e1)=>[(0,Fh bl 0),(1,vp),(4,I 0),(5,I 0),(8,I e1)]) (λ(F1,D1,e1) w'=>Mod H w w'/\GG F1 bd D1 w'/\LedE G bl bd vd ve vs L w'/\(∀k,F1 k->F k\/w.heap.size<=k)/\Fp w' bl [Fh bd 0,S [115],I L.base,vd,ve,B L.dead] 147/\D.app Led.logn (Fz (Led.ent (L.last+1) p))=(e1,D1)) ?_ ?_
 ·refine Fk (λc5=>?_) λc5=>?_
  ·refine KK (R:=Fq) Fq.refl (λ_ _ _=>Fq.trans) Ff [3] (.one 0 .p false (.one 1 .p false (.one 2 .p false (.one 3 .l false (.one 4 .p false (.one 6 .p false (.fork (.alt 5 false (.one 7 .x false (.one 8 .x true (.one 9 .p false .nil))) (.alt 7 false (.one 5 .x false (.one 8 .x true (.one 9 .p false .nil))) .stop))))))))) Ff Ff (λw11 hz=>?_);have yb:=FE hz;clear hz;refine Ga yb O J hA Z z λO J hA Z z=>go ?_;refine Ji ?_;refine Hk ?_ ?_
   ·refine cP (Ha G bl bd vd ve vs L _ J) RX.ext λw12 yg=>Ga yg O J hA Z z λO J hA Z z=>go ?_;refine It (e:=82) (sz:=1) (zs:=[.slice none 0 0]) (pv:=[(0,?a35_0)]) (cs:=[?a35_0]) rfl Ff ⟨rfl,rfl⟩ Ff rfl ?h35 ?f35 RX.ext (λb5 w13 e5 ye m5=>?k35)
    case h35=>refine⟨rfl,?_,trivial⟩<;>(conv=>lhs;whnf)
    case f35=>simp [Hs,Gw,Ap,Z.sl.cells]
    have g5:=z.ge e5;have a5_hl:=O.lt;have a5_hE:=J.lt;have a5_hA:=hA.lt;have a5_hB2:=Fu.base_lt Z Fo;refine Ga ye O J hA Z z λO J hA Z z=>Gz (SS F bd D Led.logn [(vb,Fz (Led.ent (L.last+1) p))] _ _ hA (Lp m5) (by intro q h;rw[Af.1 h];exact Z) (by simp [J9];omega) F0) λu14 w14 xj hy=>?_;have xn:=z.size;have O:=O.mod xj (λh=>hf bl h (J.inG bl (.inl rfl)));have J:=J.mod xj (λk hk h=>hf k h hk);have z:=(z.mod xj).mono (λi hi hh=>(hc i (.inl hi):H i));rw[show BQ (λq:Value×Fj=>q.2) [(vb,Fz (Led.ent (L.last+1) p))]=Fz (Led.ent (L.last+1) p) by simp]at hy;obtain⟨rfl,hA⟩:=hy;have hq:=xn;refine go ?_;exact⟨(_,_,_),Hc,z,hA,J,Nh hq,O,rfl⟩
   refine Hk ?_ ?_
   ·refine It (e:=82) (sz:=1) (zs:=[.slice none 0 0]) (pv:=[(0,?a37_0)]) (cs:=[?a37_0]) rfl Ff ⟨rfl,rfl⟩ Ff rfl ?h37 ?f37 RX.ext (λb6 w15 e6 yc m6=>?k37)
    case h37=>refine⟨rfl,?_,trivial⟩<;>(conv=>lhs;whnf)
    case f37=>simp [Hs,Gw,Ap,Z.sl.cells]
    have g6:=z.ge e6;have a6_hl:=O.lt;have a6_hE:=J.lt;have a6_hA:=hA.lt;have a6_hB2:=Fu.base_lt Z Fo;refine Ga yc O J hA Z z λO J hA Z z=>go ?_;refine cP (Ha G bl bd vd ve vs L _ J) RX.ext λw16 yn=>HB yn O J hA Z m6 z λO J hA Z m6 z=>Gz (SS F bd D Led.logn [(vb,Fz (Led.ent (L.last+1) p))] _ _ hA (Lp m6) (by intro q h;rw[Af.1 h];exact Z) (by simp [J9];omega) F0) λu17 w17 xm h6=>?_;have xe:=z.size;have O:=O.mod xm (λh=>hf bl h (J.inG bl (.inl rfl)));have J:=J.mod xm (λk hk h=>hf k h hk);have z:=(z.mod xm).mono (λi hi hh=>(hc i (.inl hi):H i));rw[show BQ (λq:Value×Fj=>q.2) [(vb,Fz (Led.ent (L.last+1) p))]=Fz (Led.ent (L.last+1) p) by simp]at h6;obtain⟨rfl,hA⟩:=h6;have hq:=xe;refine go ?_;exact⟨(_,_,_),Hc,z,hA,J,Nh hq,O,rfl⟩
   exact Jh
  exact absurd xc c5
 rintro _ ⟨F1,D1,e1⟩ w18 ⟨z,hA,J,hsub1,O,hR1⟩;have hs1:=z.size;refine GP (G:=(Nat->Prop)×Dsk×Int) (λ(F2,D2,e)=>[(0,Fh bl 0),(1,vp),(4,I 0),(5,I 0),(8,I e)]) (λ(F2,D2,e) w'=>Mod H w w'/\GG F2 bd D2 w'/\LedE G bl bd vd ve vs L w'/\(∀k,F2 k->F k\/w.heap.size<=k)/\Fp w' bl [Fh bd 0,S [115],I L.base,vd,ve,B L.dead] 147/\IH L D p=(e,D2)) ?_ ?_
 ·refine Fk (λc6=>?_) λc6=>?_
  ·refine wd 1052201000 λw19 yj=>FQ yj hA J O z λhA J O z=>go ?_;refine cP (Ha G bl bd vd ve vs L _ J) RX.ext λw20 ym=>FQ ym hA J O z λhA J O z=>li (e:=9) (sz:=1) (zs:=[S []]) (pv:=[(0,_)]) (cs:=[_]) RX.ext (λb7 w21 e7 yk m7=>?_);have g7:=z.ge e7;have xl:=hA.lt;have a7_hE:=J.lt;have a7_hl:=O.lt;refine FQ yk hA J O z λhA J O z=>cD (X4s F1 bd D1 [Led.logn] _ _ hA (Ma m7) F0 (λ_ hF=>A7 b7 (AD (xl _ hF) e7.symm))) (.inl rfl) λu22 w22 xd xu=>?_;have hsz22:=z.size;have J:=J.mod xd (λk hk h=>(hsub1 _ h).elim (λh=>hf _ h hk) (λh=>by have h9:=ha _ hk;omega));have O:=O.mod xd (λh=>(hsub1 _ h).elim (λh=>hf _ h (J.inG bl (.inl rfl))) (λh=>by have h9:=ha _ (J.inG bl (.inl rfl));omega));have z:=z.own xd (λi hi hh=>hc i (.inl ((hsub1 i hi).resolve_right Fe)));obtain⟨rfl,hA⟩:=xu;refine go ?_;exact⟨(_,_,_),Hc,z,hA,J,λk hk=>hk.elim (hsub1 k) (λh9=>.inr Fe),O,by unfold IH;rw[hR1,if_pos c6]⟩
  refine go ?_;exact⟨(F1,D1,e1),Hc,z,hA,J,hsub1,O,by unfold IH;rw[hR1,if_neg c6]⟩
 rintro _ ⟨F2,D2,e⟩ w23 ⟨z,hA,J,hsub,O,hR⟩;have hsw:=z.size;refine Gz (X4v G bl bd vd ve vs L e _ J) λu24 xt xp x0=>?_;have hsz24:=z.size;have hA:=hA.mod xp (λk hk e9=>by have e8:k=bl:=e9;subst e8;exact(hsub _ hk).elim (λh=>hf _ h (J.inG _ (.inl rfl))) (λh=>by have h9:=ha _ (J.inG _ (.inl rfl));omega));have z:=z.own xp (λi hi hh=>(by have e2:i=bl:=hi;rw[e2];exact hc bl (.inr (J.inG bl (.inl rfl)))));obtain⟨rfl,J⟩:=x0;refine Fk (λc7=>?_) λc7=>?_
 ·refine go ?_;have xb:{ L with dead:=L.dead || decide (e≠0) } = { L with dead:=true }:=by rw[c2];simp [c7]
  rw[xb]at J;refine⟨_,rfl,z,?_⟩;rw[UF c2 xv (by rw[hR];exact c7),hR];exact⟨rfl,F2,G,vd,ve,vs,hA,J,λk hk hg=>(hsub k hk).elim (λh=>hf k h hg) (λh=>by have:=ha k hg;omega),λk hk=>hk.elim (λh=>(hsub k h).elim (λh2=>.inl (hc k (.inl h2))) (λh2=>.inr ⟨h2,hA.lt k h⟩)) (λh=>.inl (hc k (.inr h))),Jq hh z.size⟩
 have yd:e=0:=AF c7;have xb:{ L with dead:=L.dead || decide (e≠0) } = L:=by rw[c2,yd];cases L;simp at c2 ⊢;exact c2
 rw[xb]at J;have O:=J.m;have ho:=J.e;have yl:=hA.lt;have xz:=z.size;refine Gt 1500522010000 λw25 hw=>FQ hw hA O ho z λhA O ho z=>?_;refine go ?_;refine cG (Ny p vp _ (hp.mod z hpH) Fe) RX.ext λvc w26 xa hC=>?_;have hsz26:=z.size;refine FQ xa hA O ho z λhA O ho z=>?_;refine It (e:=82) (sz:=1) (zs:=[.slice none 0 0]) (pv:=[(0,?a53_0)]) (cs:=[?a53_0]) rfl Ff ⟨rfl,rfl⟩ Ff rfl ?h53 ?f53 RX.ext (λb8 w27 e8 xk m8=>?k53)
 case h53=>refine⟨rfl,?_,trivial⟩<;>(conv=>lhs;whnf)
 case f53=>simp [Hs,Gw,Ap,hC.sl.cells]
 have g8:=z.ge e8;have a8_hA:=hA.lt;have a8_hl:=O.lt;have o8_ho:=ho.ltb e8;have o8_hC:=hC.ltb e8;refine Ga xk hA O ho hC z λhA O ho hC z=>?_;refine LU (lx:=[vc]) (e:=82) (sz:=1) (by':=24) rfl Ff Ff Fg ho (m8.arr (enc:=JE) (sz:=1) (l:=[vc]) rfl Fg rfl (Nat.le_of_ble_eq_true rfl)) rfl rfl (by intro x ya u hu;rw[Af.1 ya]at hu;rw[Af.1 hu];exact hC.sl.one) (by have:=J.len;simp;omega) Fo (Ab _) (.inl rfl) (λv2 w28 xy hj xi=>?_);have xw:=xi;have yp:=hj;have hA:=hA.mod hj (by exact(λk hk e=>(hsub _ hk).elim (λh=>hf _ h (J.inG k (.inr (.inl e)))) (λh=>by have h9:=ha _ (J.inG k (.inr (.inl e)));omega)));have O:=O.mod hj Fw;have hC:=hC.mod hj (by exact(λk hk e=>hC.ne ho rfl hk e));have z:=z.own hj (λi hi hh=>hc i (.inr (J.inG i (.inr (.inl hi)))));have ho:=xy;have hne2:=ho.ne_blk O rfl;have hne3:=hC.ne_blk O rfl;clear m8;refine go ?_;refine HL O (λyf hr xs29 O=>?_) (hv:=by exact Gq.one ho.sl);have hA:=hA.mod hr (λk hk e9=>by have e8:k=bl:=e9;subst e8;exact(hsub _ hk).elim (λh=>hf _ h (J.inG _ (.inl rfl))) (λh=>by have h9:=ha _ (J.inG _ (.inl rfl));omega));have ho:=ho.mod hr Fw;have hC:=hC.mod hr Fw;have z:=z.own hr (λi hi _=>(by have e2:i=bl:=hi;rw[e2];exact hc bl (.inr (J.inG bl (.inl rfl)))));refine go ?_;have mB:=((Fq.mod ((hw.trans xa).trans xk) yp).mono (λk hk _=>(.inl hk:ve.ownBlock=some k\/k=bl))).own hr (λk hk _=>.inr hk);have xr:=Ae hw.size (Ae xa.size xk.size);have xo:=J.add (w0:=xt) (p:=p) Fe Fe c2 (Aa _) J.lt mB (λk hk=>hk.elim (λh=>.inr (.inl h)) .inl) O ho (xw.imp (λh=>h) (λe2 k hk=>by rw[e2]at hk;cases hk;exact xr)) (hC.arr Fg) (λhn=>Ae hw.size (hC.base_ge hn).1) (λhn e=>hC.ne ho rfl (hC.base_block hn) e);refine cP (HC _ bl bd vd v2 _ _ _ xo) RX.all λw30 xh=>Fy xh hA z λhA z=>go ?_;refine⟨_,rfl,z,?_⟩;rw[QR c2 xv (by rw[hR];exact c7),hR];refine⟨?_,F2,FV G xt yf,vd,v2,_,hA,xo.ext xh,λk hk hg=>?_,λk hk=>hk.elim (λh=>(hsub k h).elim (λh2=>.inl (hc k (.inl h2))) (λh2=>.inr ⟨h2,hA.lt k h⟩)) (λh=>?_),Jq hh z.size⟩
 ·have e9:Led.last { L with ents:=L.ents++[p] } = L.last+1:=by unfold Led.last;simp only [Ad,C2];omega
  rw[e9]
 ·rcases hg with hg|hg
  ·exact(hsub k hk).elim (λh=>hf k h hg) (λh=>by have:=ha k hg;omega)
  ·have:=yl k hk;omega
 ·rcases h with h|h
  ·exact .inl (hc k (.inr h))
  ·exact .inr ⟨Ae xz h.1,Ay h.2 xh.size⟩
variable {b:Nat}
def Ra {v v2:Value}(hg:H9 w v v2)(h:¬ HX bw v b)(hlt:b<w.heap.size):¬ HX bw v2 b:=λh2=>h (QM hg h2 hlt)
variable {A:Fj}{n:Nat}
def O3 (h:n<=4611686018427387904):A++[(n:Int)].flatMap GA=A++F4 n:=by simp [Qw h]
def Ydb {s:Int}{g:Nat}(h1:1<=s)(h2:s<=1099511627776)(h:g<=4611686018427387904):A++[s,(g:Int)].flatMap GA=A++(F4 s.toNat++F4 g):=by
 simp only [AA,Ck,AI,Qw h];unfold GA;rw[Wu h1 h2]
def K6 {v:Value}: A++BQ FA (List.map (λq:Value×Fj=>q.2) [(v,p)])=A++FA p:=by simp
def XE (d:Bool):LA d<=1:=by cases d<;>decide
variable {N:Nat}
def PQ (h:A.length<=N):(A++F4 n).length<=N+10:=by rw[Ad];have:=Gk n;omega
def PX {M:Nat}(h:A.length<=N)(hp:p.length<=M):(A++FA p).length<=N+M+10:=by rw[Ad];unfold FA;rw[Ad];have:=Gk p.length;omega
variable {m:Nat}
def X15 (h:A.length<=N):(A++(F4 m++F4 n)).length<=N+20:=by rw[Ad,Ad];have:=Gk m;have:=Gk n;omega
variable {l:List Cell}
def TD {c:Cell}(h:l[k]?=some c):JI l k=JX (H8 l k) c:=by unfold JI;rw[h];rfl
def X7f {c x:Cell}(h:l[k]?=some c)(h2:l[k-1]?=some x)(h4:k % 4≠0):Kl x.key c.key=H8 l k:=by unfold H8;rw[if_neg h4,h,h2];rfl
def Yav {k:Nat}(h4:k % 4=0):(0:Nat)=H8 l k:=by unfold H8;rw[if_pos h4]
def X16 (k:Nat)(h:k=l.length):(BH k).flatMap (JI l)=H0 l:=by rw[h];rfl
def SC (l:List Cell)(v:Value)(w:World)(hv:Fu Cell.cs 4 w v l)(hl:l.length<=30000) :
  Gi 243 [v] w λu w'=>∃vb,u=.tuple #[vb,I (Hq l)]/\Vc.Own Fs 1 5 w.heap.size w' vb (if Hq l=0 then H0 l else[]):=by
 refine cE Tryz.func243 λJ=>Gs (X6y l v _ (hv.ext J) hl) λw1 x1=>?_;have J:=J.trans x1;refine Fk (λc1=>?_) λc1=>?_
 ·refine go ?_;rw[if_neg c1];exact⟨_,rfl,J,_,rfl,Vc.Own.nil⟩
 have hE:Hq l=0:=AF c1;obtain⟨ha,hRis⟩:=Mk.1 hE;refine go ?_;refine aL [.slice none 0 0] λb1 w2 e1 x2 m1=>?_;have g1:=J.ge e1;have J:=J.trans x2;refine FM 79 4 (hv.ext J).sl ?_;refine F8 (G:=Nat×Value) (λ(k,vc)=>[(0,v),(2,.slice none 0 0),(3,I 0),(5,Fh b1 0),(14,v),(15,I ↑l.length),(16,I ↑k)]) (λ(k,vc) w'=>Fq w w'/\k<=l.length/\Wr w.heap.size b1 vc ((BH k).flatMap (JI l)) w') (λ(k,vc)=>l.length-k) (0,.slice none 0 0) ⟨J,Ab _,⟨m1,Vc.Own.nil⟩⟩ ?_;rintro _ ⟨k,vc⟩ w3 ⟨J,hk1,z⟩;refine Fk (λc2=>?_) λc2=>?_
 ·obtain⟨c,hk⟩:∃c,l[k]?=some c:=F7;have xc:=Tm ha k Fe;have hcs:=KH (ha c (Ag hk));have hng:=XE c.del;refine go ?_;refine di 79 4 (hv.ext J).sl rfl ((hv.ext J).lt hk) (dq (Fx Ff rfl rfl ((hv.ext J).row hk)) (aL [S [],S [],B false,.int .i64 0] λb2 w4 e2 x4 O=>?_));have g2:=J.ge e2;have hc:=z.lt;refine Fy x4 z J λz J=>go ?_;refine Gg O (λw5 x5 xs5 O=>?_);have z:=z.mod x5 (λk hk h=>by have h2:k=b2:=h;subst h2;exact A7 _ (AD (hc _ hk) e2.symm));have J:=J.o1 x5;refine g0 ?_;refine wS (g0 ?_);refine GP (G:=Nat) (λn=>[(0,v),(2,.slice none 0 0),(3,I 0),(5,Fh b1 0),(6,I ↑k),(7,Fh b2 0),(8,I ↑n),(14,v),(15,I ↑l.length),(16,I ↑k)]) (λn w'=>Fq w w'/\Wr w.heap.size b1 vc ((BH k).flatMap (JI l)) w'/\Fp w' b2 c.cs 79/\n=H8 l k) ?_ ?_
  ·refine go ?_;refine dp (NJ rfl rfl Fe Fe) ?_;refine Fk (λc3=>?_) λc3=>?_
   ·obtain⟨x,hk1⟩:∃x,l[k-1]?=some x:=F7;have hcx:=KH (ha x (Ag hk1));refine wd 10510100000 λw6 x6=>FC x6 z O J λz O J=>gn ?_;refine F3 (v:=I ↑(k-1)) rfl (G7 rfl rfl FH) FY (di 79 4 (hv.ext J).sl rfl ((hv.ext J).lt hk1) (go ?_));refine dL rfl (λ_ hR=>((((hv.ext J).ext hR).row hk1).at rfl)) (Gs (X1z x.key c.key _ Fe Fe) λw7 x7=>FC x7 z O J λz O J=>?_);refine go ?_;exact⟨_,Lk,J,z,O,X7f hk hk1 Fe⟩
   refine go ?_;exact⟨0,Lk,J,z,O,Yav Fe⟩
  rintro _ n w8 ⟨J,z,O,hn⟩;refine go ?_;refine li (e:=3) (sz:=1) (zs:=[.int .i64 0]) (pv:=[(0,_)]) (cs:=[_]) RX.all (λb3 w9 e3 x9 m3=>?_);have g3:=J.ge e3;have n3_2:=O.ltb e3;have ht:=z.lt;refine FC x9 z O J λz O J=>?_;have xu:=hn▸S8 hk;have Z:=O.lt;have Y:¬ HX b1 vc b2:=λh9=>(A7 b2 (AD (hc _ h9) e2.symm));refine cD (Lb w.heap.size b1 vc _ [↑n] (.slice (some ⟨b3,0,none⟩) 1 1) _ z (Ae xc Fe) J.size (m3.arr (enc:=Vc.encI) (sz:=1) (l:=[↑n]) rfl Fg rfl F0) F0 (λk9 h9 _ h8=>by have h5:b3=k9:=h8;subst h5;exact(A7 b3 (AD (ht _ h9) e3.symm)))) (.inl rfl) λu10 w10 xf xd=>?_;have hsz10:=J.size;have O:=O.mod xf Y;have J:=J.own xf (λi hi=>z.ge g1 hi);obtain⟨rfl,v2,z,hg⟩:=xd;rw[O3 Fe]at z;have hh:=PQ (n:=n) xc;have Y:=Ra hg Y Z;refine gw ?_;refine Ka [.p,.l,.p,.p,.x,.x,.x] rfl (go ?_);refine F3 (v:=S (c.key.drop n)) rfl (SV (b:=c.key.length) Ff rfl rfl rfl xu (Aa _)) (by rw[AT]) (KF (e:=5) rfl Ff Ff Ff rfl RX.all (λb4 xb w11 e4 xm hz=>?_));have g4:=J.ge e4;have n4_2:=O.ltb e4;have hw:=z.lt;refine FC xm O z J λO z J=>li (e:=82) (sz:=1) (zs:=[.slice none 0 0]) (pv:=[(0,_)]) (cs:=[_]) RX.all (λb5 w12 e5 xk m5=>?_);have g5:=J.ge e5;have n5_2:=O.ltb e5;have hq:=z.lt;refine FQ xk O z hz J λO z hz J=>?_;have Z:=O.lt;refine cD (Mn w.heap.size b1 v2 _ [(.slice (some ⟨b4,0,none⟩) (c.key.drop n).length xb,c.key.drop n)] (.slice (some ⟨b5,0,none⟩) 1 1) _ z (Ae hh Fe) J.size (Lp m5) (λq h=>by rw[Af.1 h];exact hz) (λq h=>by rw[Af.1 h];exact(by rw[Bd];omega)) F0 (λ_ h9=>(A7 b5 (AD (hq _ h9) e5.symm))) (λq h hl h9=>by rw[Af.1 h]at hl h9;exact(A7 b4 (AD (hw _ h9) e4.symm)))) (.inl rfl) λu13 w13 xg xa=>?_;have hsz13:=J.size;have O:=O.mod xg Y;have J:=J.own xg (λi hi=>z.ge g1 hi);obtain⟨rfl,v3,z,hg⟩:=xa;rw[K6]at z;have hf:=PX (p:=c.key.drop n) (M:=4096) hh (by rw[Bd];omega);have Y:=Ra hg Y Z;refine go ?_;refine HP (R:=Mod (HX b1 v3)) Ij I0 Ff [1,3] [(0,.p,false),(1,.l,false),(2,.p,false),(3,.l,false),(4,.x,false),(5,.x,false),(6,.x,false)] rfl Ff Ff (λw14 hy=>?_);have xl:=FE hy;clear hy;refine FC xl O z J λO z J=>go ?_;refine dL rfl (λ_ hR=>((O.mod hR Y).at rfl)) (go ?_);refine dL rfl (λ_ hR=>((O.mod hR Y).at rfl)) (cP (Yab c.del _) RX.mod λw15 xp=>FC xp O z J λO z J=>li (e:=3) (sz:=1) (zs:=[.int .i64 0]) (pv:=[(0,_),(1,_)]) (cs:=[_,_]) RX.mod (λb6 w16 e6 xr m6=>?_));have g6:=J.ge e6;have n6_2:=O.ltb e6;have hp:=z.lt;refine FC xr O z J λO z J=>?_;have Z:=O.lt;refine Jz rfl Ff (Lb w.heap.size b1 v3 _ [c.seq,↑(LA c.del)] (.slice (some ⟨b6,0,none⟩) 2 2) _ z (Ae hf Fe) J.size (m6.arr (enc:=Vc.encI) (sz:=1) (l:=[c.seq,↑(LA c.del)]) rfl Fg rfl F0) F0 (λk9 h9 _ h8=>by have h5:b6=k9:=h8;subst h5;exact(A7 b6 (AD (hp _ h9) e6.symm)))) rfl (.inr λ_ h=>h) (λu17 w17 xj xi=>?_);have hsz17:=J.size;have O:=O.mod xj Y;have J:=J.own xj (λi hi=>z.ge g1 hi);obtain⟨rfl,v4,z,hg⟩:=xi;rw[Ydb Fe Fe Fe]at z;have h7:=X15 (m:=c.seq.toNat) (n:=LA c.del) hf;refine Gb (λc4=>?_) λc4=>?_
  ·refine Ka [.p,.l,.x,.x,.x] rfl (go ?_);refine KF (e:=5) rfl Ff Ff Ff rfl RX.all (λb7 xe w18 e7 xt h6=>?_);have g7:=J.ge e7;have n7_2:=O.ltb e7;have hr:=z.lt;refine FC xt O z J λO z J=>li (e:=82) (sz:=1) (zs:=[.slice none 0 0]) (pv:=[(0,_)]) (cs:=[_]) RX.all (λb8 w19 e8 xn m8=>?_);have g8:=J.ge e8;have n8_2:=O.ltb e8;have hj:=z.lt;refine FQ xn O z h6 J λO z h6 J=>?_;have Z:=O.lt;refine cD (Mn w.heap.size b1 v4 _ [(.slice (some ⟨b7,0,none⟩) c.val.length xe,c.val)] (.slice (some ⟨b8,0,none⟩) 1 1) _ z (Ae h7 Fe) J.size (Lp m8) (λq h=>by rw[Af.1 h];exact h6) (λq h=>by rw[Af.1 h];exact(show c.val.length<=1000000 by omega)) F0 (λ_ h9=>(A7 b8 (AD (hj _ h9) e8.symm))) (λq h hl h9=>by rw[Af.1 h]at hl h9;exact(A7 b7 (AD (hr _ h9) e7.symm)))) (.inl rfl) λu20 w20 xq xh=>?_;have hsz20:=J.size;have J:=J.own xq (λi hi=>z.ge g1 hi);obtain⟨rfl,v5,z,hg⟩:=xh;rw[K6]at z;have hln57:=trivial;refine go ?_;refine FL (k+1,v5) ⟨J,by omega,?_⟩;rw[Qy Fe,TD hk,<-hn];unfold JX;have hd:c.del=false:=by simpa using c4
   rw[hd]at z ⊢;simpa only [A6,AI,if_true,if_false,Cq]using z
  refine go ?_;refine FL (k+1,v4) ⟨J,by omega,?_⟩;rw[Qy Fe,TD hk,<-hn];unfold JX;have hd:c.del=true:=by simpa using c4
  rw[hd]at z ⊢;simpa only [A6,AI,if_true,if_false,Cq]using z
 refine Gj (OA w.heap.size b1 vc _ _ z (by have:=Tm ha k Fe;omega)) λvo w21 xo hB=>?_;have hsz21:=J.size;have J:=J.trans xo;refine go ?_;rw[X16 k Fe]at hB;rw[if_pos hE,hE];exact⟨_,rfl,J,_,rfl,hB.mono Fe⟩
variable {o:Nat}
def QH {br:Nat}: (k=br\/∃p∈[((b,o):Nat×Nat)],k=p.1)↔(k=br\/k=b):=by simp
variable {b' o':Nat}
def Xi {br:Nat}: (k=br\/∃p∈[((b,o):Nat×Nat),(b',o')],k=p.1)↔(k=br\/k=b\/k=b'):=by simp
def X7g (r:Fj)(h:n<=4611686018427387904):JU 1 (F4 n++r) false=([n],r,false):=by
 unfold JU;rw[Od r false h];rfl
def X7h (r:Fj)(h:n<=4611686018427387904)(h2:m<=4611686018427387904):JU 2 (F4 n++(F4 m++r)) false=([n,m],r,false):=by
 unfold JU;rw[Od _ false h];unfold JU;rw[Od _ false h2];rfl
def Yu (n:Nat)(c:Cell)(r:Fj):JX n c++r=F4 n++(FA (c.key.drop n)++(F4 c.seq.toNat++(F4 (LA c.del)++((if c.del then[]else FA c.val)++r)))):=by unfold JX;simp only [A6]
def X17 (n:Nat)(c:Cell)(r:Fj):JX n c++r≠[]:=λe=>by
 have h:=Xob n c;have h2:=congrArg A9 e;rw[Ad,Bj]at h2;omega
variable {Cs:Nat->List Value}
def X7i : He Cs [(b,o)] [n] b=(Cs b).set o (I ↑n):=by unfold He;unfold He;rw[if_pos rfl]
def X18 (h:b≠b'):He Cs [(b,o),(b',o')] [n,m] b=(Cs b).set o (I ↑n):=by unfold He;unfold He;unfold He;rw[if_neg h,if_pos rfl]
def X19 (h:b≠b'):He Cs [(b,o),(b',o')] [n,m] b'=(Cs b').set o' (I ↑m):=by unfold He;unfold He;unfold He;rw[if_pos rfl,if_neg (λe=>h e.symm)]
def X7j (d:Bool):decide (¬ (↑(LA d):Int)=0)=d:=by cases d<;>rfl
def OO {α:Type}{a b:α}{P:α->Prop}(h1:P a)(h2:P b):∀p∈[a,b],P p:=λp z=>by
 rcases Ah.1 z with rfl|z
 ·exact h1
 ·rw[Af.1 z];exact h2
def X7k {s:Nat}(h:Fp w s [Fh b o] 197):Fu (λp:Nat×Nat=>[Fh p.1 p.2]) 1 w (.slice (some ⟨s,0,none⟩) 1 1) [(b,o)]:=h.arr (enc:=λp:Nat×Nat=>[Fh p.1 p.2]) (sz:=1) (l:=[(b,o)]) rfl Fg rfl F0
def X7l {s:Nat}(h:Fp w s [Fh b o,Fh b' o'] 197):Fu (λp:Nat×Nat=>[Fh p.1 p.2]) 1 w (.slice (some ⟨s,0,none⟩) 2 2) [(b,o),(b',o')]:=h.arr (enc:=λp:Nat×Nat=>[Fh p.1 p.2]) (sz:=1) (l:=[(b,o),(b',o')]) rfl Fg rfl F0
def Yaw (br bb:Nat)(v:Value)(n:Nat)(c:Cell)(rest ahead:Fj)(w:World)(h:Rd br bb v (JX n c++rest) false w)(hll:(JX n c++rest).length<=2001000020)(hc:Gl c=true)(hn:n<=c.key.length)(hna:n<=ahead.length)(hah:ahead.length<=1000000)(he:ahead.take n++c.key.drop n=c.key) :
  G4 261 [Fh br 0,S ahead] w (Fv br) λu w'=>u=c.v/\∃v',Rd br bb v' rest false w':=by
 refine cM Tryz.func261 (Fv br) λJ=>?_;have hR:=h;have Z:=X17 n c rest;have O:=h.lt;have hbr:=h.m.lt;rw[Yu]at hR;have h6:=KH hc;have hng:=XE c.del;rw[Yu]at hll;have hy:=hll;rw[Ad]at hy;refine go ?_;refine aL [S [],S [],B false,.int .i64 0] λb1 w1 e1 x1 z=>?_;have g1:=J.ge e1;have a1_hR:=hR.lt;refine Fy x1 hR J λhR J=>go ?_;refine aL [.int .i64 0] λb2 w2 e2 x2 m2=>?_;have g2:=J.ge e2;have n2_1:=z.ltb e2;have a2_hR:=hR.lt;refine FC x2 hR z J λhR z J=>aL [.int .i64 0] λb3 w3 e3 x3 Y=>?_;have g3:=J.ge e3;have n3_1:=z.ltb e3;have n3_2:=m2.ltb e3;have a3_hR:=hR.lt;refine FQ x3 hR z m2 J λhR z m2 J=>go ?_;refine li (e:=197) (sz:=1) (zs:=[.pointer none]) (pv:=[(0,_)]) (cs:=[_]) RX.all (λb4 w4 e4 x4 m4=>?_);have g4:=J.ge e4;have n4_1:=z.ltb e4;have n4_2:=m2.ltb e4;have n4_3:=Y.ltb e4;have a4_hR:=hR.lt;refine Ga x4 hR z m2 Y J λhR z m2 Y J=>cD (Xv9 br bb v _ false [(b2,0)] (.slice (some ⟨b4,0,none⟩) 1 1) (λ_=>[I 0]) (λ_=>3) _ hR (by rw[Ad];omega) (X7k m4) F0 (λp hp=>by rw[Af.1 hp];exact⟨m2,E7⟩) (λp hp h9=>by rw[Af.1 hp]at h9;have h8:=O _ (LI (λ_=>Z) h9);have h7:b2<w.heap.size:=h8;omega) (λ_ h9=>by have h2:b4=br\/b4=b2:=QH.1 h9;omega)) (.inl rfl) λu5 w5 x5 hz=>?_;have hsz5:=J.size;have z:=z.mod x5 (λh9=>by have h2:b1=br\/b1=b2:=QH.1 h9;omega);have Y:=Y.mod x5 (λh9=>by have h2:b3=br\/b3=b2:=QH.1 h9;omega);have J:=J.own x5 (λi hi xa=>(show i=br from by have h2:=QH.1 hi;omega));obtain⟨rfl,v1,hR,hf⟩:=hz;have m2:=hf (b2,0) Ai;rw[show[((b2,0):Nat×Nat)].length=1 from rfl,X7g _ Fe]at hR m2;rw[show((b2,0):Nat×Nat).1=b2 from rfl,X7i]at m2;refine go ?_;have hb5:=z.lt;refine cD (Qi br bb v1 _ false _ hR (by simp only [Ad]at *;omega)) (.inl rfl) λu6 w6 x6 h5=>?_;have hsz6:=J.size;have z:=z.mod x6 Fw;have Y:=Y.mod x6 Fw;have m2:=m2.mod x6 Fw;have J:=J.own x6 F5;obtain⟨hO,v2,hR⟩:=h5;rw[Qu _ _ _ (by rw[Bd];omega)]at hO hR;dsimp only at hO hR;refine Fk (λc1=>?_) λc1=>?_
 ·omega
 refine Gt 150010010 λw7 x7=>HB x7 z Y m2 hO hR J λz Y m2 hO hR J=>?_;refine go ?_;refine F3 (v:=S (ahead.take n)) rfl (SV (a:=0) Ff rfl rfl rfl (Ab _) hna) (by rw[BY]) (go ?_);refine Gh rfl (λw' hR=>Nz Ff Ff ((hO.ext hR).arr Fg) rfl) (F3 (v:=S c.key) rfl (I6 rfl rfl Gx) (by rw[he]) (go ?_));refine HL z (λw8 x8 xs8 z=>?_) (hv:=by rfl);have Y:=Y.mo x8;have hR:=hR.mod x8 (λk hk e=>by have h2:k=b1:=e;have h8:=O _ (LI (λ_=>Z) hk);omega);have J:=J.o1 x8;refine go ?_;refine li (e:=197) (sz:=1) (zs:=[.pointer none]) (pv:=[(0,_),(1,_)]) (cs:=[_,_]) RX.all (λb5 w9 e5 x9 m5=>?_);have g5:=J.ge e5;have n5_1:=z.ltb e5;have n5_3:=Y.ltb e5;have a5_hR:=hR.lt;refine FQ x9 z Y hR J λz Y hR J=>?_;refine cD (Xv9 br bb v2 _ false [(b1,3),(b3,0)] (.slice (some ⟨b5,0,none⟩) 2 2) (λk=>if k=b1 then[S c.key,S [],B false,I 0]else[I 0]) (λk=>if k=b1 then 79 else 3) _ hR (by simp only [Ad]at *;omega) (X7l m5) F0 (OO (P:=λp:Nat×Nat=>Fp _ p.1 (if p.1=b1 then _ else _) (if p.1=b1 then _ else _)/\p.2<(if p.1=b1 then _ else _:List Value).length) (by rw[if_pos rfl,if_pos rfl];exact⟨z,(by decide:3<4)⟩) (by rw[if_neg Fe,if_neg Fe];exact⟨Y,E7⟩)) (OO (P:=λp:Nat×Nat=>¬ Oc br bb _ p.1) (λh9=>by have h8:=O _ (LI (λ_=>Z) h9);have h7:b1<w.heap.size:=h8;omega) (λh9=>by have h8:=O _ (LI (λ_=>Z) h9);have h7:b3<w.heap.size:=h8;omega)) (λ_ h9=>by have h2:b5=br\/b5=b1\/b5=b3:=Xi.1 h9;omega)) (.inl rfl) λu10 w10 xb ht=>?_;have hsz10:=J.size;have J:=J.own xb (λi hi xa=>(show i=br from by have h2:=Xi.1 hi;omega));obtain⟨rfl,v3,hR,hf⟩:=ht;have ha:b1≠b3:=by omega
 have z:=hf (b1,3) Ai;have Y:=hf (b3,0) (Aj _ Ai);rw[show[((b1,3):Nat×Nat),(b3,0)].length=2 from rfl,X7h _ Fe Fe]at hR z Y;dsimp only at hR z Y;rw[X18 ha,if_pos rfl,if_pos rfl]at z;rw[X19 ha,if_neg (λe=>ha e.symm),if_neg (λe=>ha e.symm)]at Y;dsimp only [List.set]at z Y;rw[show((c.seq.toNat:Nat):Int)=c.seq by omega]at z;refine gc ?_;refine dl rfl (Y.at rfl) (F3 (v:=B c.del) rfl (X4h rfl rfl) (by show B _=B _;congr 1;exact X7j _) (go ?_));refine HL z (λw11 hh xs11 z=>?_) (hv:=by rfl);have hR:=hR.mod hh (λk hk e=>by have h2:k=b1:=e;have h8:=O _ (LI (λ_=>Z) hk);omega);have Y:=Y.mo hh;have J:=J.o1 hh;refine Gb (λc2=>?_) λc2=>?_
 ·refine Ka [.p,.x,.l,.p,.x] rfl (go ?_);have hb6:=z.lt;refine cD (Qi br bb v3 _ false _ hR (by simp only [Ad]at *;omega)) (.inl rfl) λu12 w12 hg hl=>?_;have hsz12:=J.size;have z:=z.mod hg Fw;have Y:=Y.mod hg Fw;have J:=J.own hg F5;have hd:c.del=false:=by simpa using c2
  obtain⟨hj,v4,hR⟩:=hl;rw[hd,if_neg Fo,Qu _ _ _ Fe]at hj hR;dsimp only at hj hR;refine dq (Nz Ff Ff (hj.arr Fg) rfl) (go ?_);refine HL z (λw13 hw xs13 z=>?_) (hv:=by rfl);have hR:=hR.mod hw (λk hk e=>by have h2:k=b1:=e;have h8:=O _ (LI (λ_=>Z) hk);omega);have J:=J.o1 hw;refine go ?_;refine dq (Fx (k:=4) Ff rfl rfl z.row) (Gg z (λw14 hq xs14 z=>?_));have hR:=hR.mod hq (λk hk e=>by have h2:k=b1:=e;have h8:=O _ (LI (λ_=>Z) hk);omega);have J:=J.o1 hq;refine go ?_;refine Ou (k:=4) rfl rfl rfl Ff rfl z.row ?_;have e0:c=⟨c.key,c.val,false,c.seq⟩:=by rw[<-hd]
  rw[hd]at z;refine⟨_,rfl,J,by rw[e0],v4,hR⟩
 refine go ?_;refine dq (Fx (k:=4) Ff rfl rfl z.row) (Gg z (λw15 hr xs15 z=>?_));have hR:=hR.mod hr (λk hk e=>by have h2:k=b1:=e;have h8:=O _ (LI (λ_=>Z) hk);omega);have J:=J.o1 hr;refine go ?_;refine Ou (k:=4) rfl rfl rfl Ff rfl z.row ?_;have hd:c.del=true:=by simpa using c2
 have e0:c=⟨c.key,[],true,c.seq⟩:=by rw[<-hd,<-h6.2.2.2.2.2 hd]
 rw[hd,if_pos rfl,AG]at hR;exact⟨_,rfl,J,by rw[e0],v3,hR⟩
structure Sz (n:Nat)(w:World):Prop where
 le:n<=w.heap.size
def Sz.ext (h:Sz n w)(x:Fq w w'):Sz n w':=⟨Ae h.le x.size⟩
instance {n : Nat} {w w':World} : Up w w' (Sz n w) (Sz n w'):=⟨λx h=>h.ext x⟩
def Sz.mod {S:Nat->Prop}(h:Sz n w)(x:Vc.Mod S w w')(_:True):Sz n w':=⟨Ae h.le x.size⟩
def Uh : 0<(IU l k).length↔k<l.length:=by
 by_cases h:k<l.length
 ·rw[Tp h,Ad];have:=Xob (H8 l k) (l[k]?.getD Cell.zero);unfold JI;exact⟨λ_=>h,λ_=>by omega⟩
 ·rw[Sn Fe];exact⟨λh2=>by simp at h2,λh2=>absurd h2 h⟩
def X2a (k:Nat):(IU l k).length<=(H0 l).length:=by
 by_cases h:k<=l.length
 ·induction k with
  | zero=>exact Aa _
  | succ k ih=>
   have:=ih Fe;rw[Tp Fe,Ad]at this;omega
 ·rw[Sn Fe];exact Ab _
def X2b (h:∀c∈l,Gl c=true)(k:Nat):(if k=0 then([]:Fj)else(l[k-1]?.getD Cell.zero).key).length<=4096:=by
 split
 ·simp
 ·cases e:l[k-1]? with
  | none=>simp [Cell.zero]
  | some c=>exact(KH (h c (Ag e))).1
def X2c (h:H0 l=[]):l=[]:=by
 cases l with
 | nil=>rfl
 | cons a r=>
  have:=(Uh (l:=a :: r) (k:=0)).2 F0;rw[Yaa,h]at this;simp at this
def X2d (l:List Cell)(v:Value)(w:World)(hv:Fu Fs 1 w v (H0 l))(hl:l.length<=30000)(hE:Hq l=0) :
  Gi 196 [v] w λu w'=>∃vb,u=.tuple #[vb,I 0]/\Vc.Own Cell.cs 4 79 w.heap.size w' vb l:=by
 refine cE Tryz.func196 λz=>?_;obtain⟨Y,hRis⟩:=Mk.1 hE;have hbl:=Qf Y;refine Gj (Wb (H0 l) v _ (hv.ext z) Fe) λu1 w1 x1 xb=>?_;have hh:=z.size;have z:=z.trans x1;obtain⟨br,bb,h6,rfl,gbr,gbb,hR⟩:=xb;have J:Sz w1.heap.size w1:=⟨Aa _⟩;have hg:=hR.lt;have hj:=Ae hh x1.size;refine F8 (G:=Nat×Value×Value) (λ(k,vc,vl)=>[(0,v),(4,Fh br 0),(5,vl)]) (λ(k,vc,vl) w'=>Fq w w'/\k<=l.length/\Rd br bb vc (IU l k) false w'/\Vc.Own Cell.cs 4 79 w1.heap.size w' vl (l.take k)/\Sz w1.heap.size w') (λ(k,vc,vl)=>l.length-k) (0,h6,.slice none 0 0) ⟨z,Ab _,hR,Vc.Own.nil,J⟩ ?_;rintro _ ⟨k,vc,vl⟩ w2 ⟨z,hk9,hR,ho,J⟩;refine Gs (X94 br bb vc (IU l k) false _ hR) λw3 x3=>FQ x3 hR ho J z λhR ho J z=>?_;refine Fk (λc1=>?_) λc1=>?_
 ·have htl:(l.take k).length=k:=by rw[AE];omega
  have O:k<l.length:=by have:=(Uh (l:=l) (k:=k)).1 Fe;exact this
  have ht:H0 l≠[]:=λe=>by rw[X2c e]at O;simp at O
  obtain⟨c,hk⟩:∃c,l[k]?=some c:=⟨_,Aq O⟩;have ha:=Y c (Ag hk);have hcs:=KH ha;refine g0 ?_;refine wS (g0 ?_);refine GP (G:=Fj) (λp=>[(0,v),(4,Fh br 0),(5,vl),(6,S p)]) (λp w'=>Fq w w'/\Rd br bb vc (IU l k) false w'/\Vc.Own Cell.cs 4 79 w1.heap.size w' vl (l.take k)/\Sz w1.heap.size w'/\p=if k=0 then[]else(l[k-1]?.getD Cell.zero).key) ?_ ?_
  ·refine go ?_;refine dv 79 4 (ho.arr Fg).sl ?_;refine Fk (λc2=>?_) λc2=>?_
   ·obtain⟨x,hk0⟩:∃x,l[k-1]?=some x:=F7;have hc:(l.take k)[k-1]?=some x:=by rw[AX,if_pos Fe];exact hk0
    refine go ?_;refine dv 79 4 (ho.arr Fg).sl (F3 (v:=I ↑(k-1)) rfl (G7 rfl rfl FH) FY (di 79 4 (ho.arr Fg).sl rfl ((ho.arr Fg).lt hc) (go ?_)));refine dl rfl (((ho.arr Fg).row hc).at rfl) (go ?_);exact⟨_,Hn,z,hR,ho,J,by rw[if_neg Fe,hk0];rfl⟩
   refine go ?_;exact⟨_,Hn,z,hR,ho,J,by rw[if_pos Fe]⟩
  rintro _ p w4 ⟨z,hR,ho,J,hp⟩;refine go ?_;have hf:=Xwy hk p hp;have hpl:=hp▸X2b Y k;have h5:=X2a (l:=l) k;rw[Tp O,TD hk]at hR h5;refine cD (Yaw br bb vc (H8 l k) c (IU l (k+1)) p _ hR Fe ha (S8 hk) hf.1 Fe hf.2) (.inl rfl) λu5 w5 x5 hy=>?_;have hsz5:=z.size;have ho:=ho.mod x5 (λk9 h9 e=>ho.ne_blk hR.m rfl (by rw[h9];exact congrArg some e));have J:=J.mod x5 trivial;have z:=z.own x5 F5;obtain⟨rfl,xc,hR⟩:=hy;refine aL [S [],S [],B false,.int .i64 0] λb1 w6 e1 x6 m1=>?_;have g1:=z.ge e1;have o1_ho:=ho.ltb e1;have a1_hS:=J.le;have Z:=hR.lt;refine FQ x6 ho J hR z λho J hR z=>Gg m1 (λw7 x7 xs7 m1=>?_);have ho:=ho.mod x7 Fw;have J:=J.mod x7 trivial;have hR:=hR.mod x7 (λk9 h9 e=>by have h2:k9=b1:=e;have h8:=Z k9 h9;omega);have z:=z.o1 x7;refine Fk (λc3=>?_) λc3=>?_
  ·omega
  refine go ?_;refine dq (Fx (k:=4) Ff rfl rfl m1.row) (lA 79 rfl λb2 w8 e2 x8 m2=>?_);have g2:=z.ge e2;have o2_ho:=ho.ltb e2;have a2_hS:=J.le;have a2_hR:=hR.lt;refine FQ x8 ho J hR z λho J hR z=>G8 c ho m2 (λxd w9 hq x9=>?_) (hB:=J.le);have J:=J.mod x9 Fw;have hR:=hR.mod x9 (by intro k9 h9 e9;have h8:=hg k9 (LI (λ_=>ht) h9);have h7:=(ho.lt k9 e9).1;omega);have z:=z.own x9 (λi hi=>(Ae hj (ho.lt i hi).1));have ho:=hq;clear m2;refine go ?_;refine FL (k+1,xc,xd) ⟨z,by omega,hR,?_,J⟩;rw[GW hk];exact ho
 have O:l.length<=k:=by
  have h9:=(Uh (l:=l) (k:=k)).2;omega
 have hkl2:k=l.length:=by omega
 refine go ?_;rw[Av O]at ho;rw[Sn O]at hR;refine cG (SC l vl _ (ho.arr Fg) hl) RX.all λu10 w10 xa hr=>?_;have hsz10:=z.size;refine FC xa hR ho z λhR ho z=>?_;obtain⟨vb,rfl,hB⟩:=hr;rw[if_pos hE]at hB;refine Gs (X6n br bb vc [] false _ hR) λw11 hz=>FC hz ho hB z λho hB z=>?_;refine go ?_;refine IR 44 rfl (λc4=>?_) (λc4=>?_)
 ·simp at c4
 refine FJ 48 (λc5=>?_) λc5=>?_
 ·exact absurd hE c5
 refine Gs (SG (H0 l) (H0 l) vb v _ (hB.arr Fg) (hv.ext z)) λw12 hw=>Fy hw ho z λho z=>?_;refine Gb (λc6=>?_) λc6=>?_
 ·simp at c6
 refine go ?_;exact⟨_,rfl,z,vl,rfl,ho.mono hj⟩
end Go.Proofs.YtiooodckiddpmaaGreatDoor
namespace Go.Sp
open Go.Vc (Fj)
def GH (l:List Cell)(k:Nat):Cell:=l[k]?.getD Cell.zero
variable {k:Nat}{l:List Cell}
def cAt_at {c:Cell}(h:l[k]?=some c):GH l k=c:=by unfold GH;rw[h];rfl
def Kw (l:List Cell)(k:Nat):Bool:=decide (k=0) || decide ((GH l (k-1)).key≠(GH l k).key)
def LZ (l:List Cell)(k:Nat):List Fj:=((BH k).filter (Kw l)).map λi=>(GH l i).key
def HN (l:List Cell):List Fj:=LZ l l.length
def Xuh (l:List Cell)(k:Nat):LZ l (k+1)=if Kw l k=true then LZ l k++[(GH l k).key]else LZ l k:=by
 unfold LZ;rw[E0,Bs];split
 ·rename_i h;simp [h]
 ·rename_i h;simp [h]
def M1 (l:List Cell)(k:Nat):(LZ l k).length<=k:=by
 unfold LZ;rw[Au];exact Ae (Bk _ _) F0
def YM (l:List Cell):∀(i k:Nat),i<k->(GH l i).key∈LZ l k
 | 0,k,h=>Ao.2 ⟨0,Ax.2 ⟨DU.2 h,rfl⟩,rfl⟩
 | i+1,k,h=>by
  by_cases e:Kw l (i+1)=true
  ·exact Ao.2 ⟨i+1,Ax.2 ⟨DU.2 h,e⟩,rfl⟩
  ·have z:=YM l i k Fe;unfold Kw at e;simp at e;rw[<-e];exact z
def Xxm {c:Cell}(h:c∈l):c.key∈HN l:=by
 obtain⟨i,hi⟩:=Ci.1 h;have:=YM l i l.length (Ar.1 hi).1;rwa [cAt_at hi]at this
def WJ (hk:k<=l.length){s:Fj}(h:s∈LZ l k):∃c∈l,c.key=s:=by
 obtain⟨i,hi,rfl⟩:=Ao.1 h;have hi2:=DU.1 (Ax.1 hi).1;have e:l[i]?=some l[i]:=Aq Fe;exact⟨l[i],CL ..,by rw[cAt_at e]⟩
def Gm (l:List Cell):Nat->List (Nat×Nat)×Nat×Nat
 | 0=>([],0,0)
 | k+1=>if k=0 then([],0,GB (GH l 0))else if 512<(Gm l k).2.2+GB (GH l k)then((Gm l k).1++[((Gm l k).2.1,k)],k,GB (GH l k))else((Gm l k).1,(Gm l k).2.1,(Gm l k).2.2+GB (GH l k))
def Kb (l:List Cell)(k:Nat):List (Nat×Nat):=if k=0 then[]else(Gm l k).1++[((Gm l k).2.1,k)]
def GO (l:List Cell):List (Nat×Nat):=Kb l l.length
def GR : Nat->List (Nat×Nat)->Nat->Prop
 | a,[],b=>a=b
 | a,p :: r,b=>p.1=a/\a<p.2/\p.2<=a+32/\GR p.2 r b
variable {a b:Nat}
def GR.append {c:Nat}{l m:List (Nat×Nat)}(h:GR a l b)(h2:GR b m c):GR a (l++m) c:=by
 induction l generalizing a with
 | nil=>rw[show a=b from h];exact h2
 | cons p r ih=>exact⟨h.1,h.2.1,h.2.2.1,ih h.2.2.2⟩
def GR.le {l:List (Nat×Nat)}(h:GR a l b):a+l.length<=b:=by
 induction l generalizing a with
 | nil=>have e:a=b:=h;simp;omega
 | cons p r ih=>
  have:=ih h.2.2.2;have:=h.2.1;simp;omega
variable {p:Nat×Nat}
def GR.mem {l:List (Nat×Nat)}(h:GR a l b)(hp:p∈l):a<=p.1/\p.1<p.2/\p.2<=p.1+32/\p.2<=b:=by
 induction l generalizing a with
 | nil=>cases hp
 | cons q r ih=>
  rcases Ah.1 hp with rfl|hp
  ·have:=h.2.2.2.le;have:=h.1;have:=h.2.1;have:=h.2.2.1;exact⟨by omega,by omega,by omega,by omega⟩
  ·have:=ih h.2.2.2 hp;have:=h.2.1;exact⟨by omega,by omega,by omega,by omega⟩
def X2e (l:List Cell)(k:Nat):GR 0 (Gm l (k+1)).1 (Gm l (k+1)).2.1/\(Gm l (k+1)).2.1<k+1/\16*(k+1-(Gm l (k+1)).2.1)<=(Gm l (k+1)).2.2/\((Gm l (k+1)).2.2<=512\/k+1=(Gm l (k+1)).2.1+1):=by
 induction k with
 | zero=>
  unfold Gm;rw[if_pos rfl];exact⟨rfl,Nat.one_pos,by unfold GB;simp,.inr rfl⟩
 | succ k ih=>
  obtain⟨h1,h2,h3,h4⟩:=ih;rw[Gm.eq_2,if_neg Fe];split
  ·refine⟨h1.append ⟨rfl,h2,?_,rfl⟩,by show k+1<k+1+1;omega,by show 16*(k+1+1-(k+1))<=GB _;unfold GB;omega,.inr rfl⟩;rcases h4 with h4|h4<;>omega
  ·rename_i hn;refine⟨h1,by show(Gm l (k+1)).2.1<k+1+1;omega,?_,?_⟩
   ·show 16*(k+1+1-(Gm l (k+1)).2.1)<=(Gm l (k+1)).2.2+GB _;unfold GB;omega
   ·left;show(Gm l (k+1)).2.2+GB _<=512;omega
def MW (l:List Cell)(k:Nat):GR 0 (Kb l k) k:=by
 cases k with
 | zero=>rfl
 | succ k=>
  obtain⟨h1,h2,h3,h4⟩:=X2e l k;unfold Kb;rw[if_neg Fe];refine h1.append ⟨rfl,h2,?_,rfl⟩;show k+1<=_;rcases h4 with h4|h4<;>omega
def QD (l:List Cell)(k:Nat):(Kb l k).length<=k:=by have:=(MW l k).le;omega
def HT (l:List Cell)(p:Nat×Nat):List Cell:=(l.take p.2).drop p.1
def IY (h:p.2<=p.1+32):(HT l p).length<=32:=by
 unfold HT;rw[Bd,AE];omega
def Tj {ps:List (Nat×Nat)}(h:GR a ps b):ps.flatMap (HT l)=(l.take b).drop a:=by
 induction ps generalizing a with
 | nil=>
  have e:a=b:=h;subst e;rw[BP (by rw[AE];omega)];rfl
 | cons p r ih=>
  have hle:=h.2.2.2.le;rw[AA,ih h.2.2.2];unfold HT;rw[h.1];have hb:p.2<=b:=by omega
  have e1:l.take p.2=(l.take b).take p.2:=by rw[List.take_take,Nat.min_eq_left hb]
  have e2:(l.take b).drop a=((l.take b).drop a).take (p.2-a)++((l.take b).drop a).drop (p.2-a):=(AV _ _).symm;have h3:=h.2.1;rw[e2,List.drop_drop,show a+(p.2-a)=p.2 by omega,e1,List.drop_take]
def OQ {c:Cell}(h:c∈HT l p):c∈l:=List.mem_of_mem_take (List.mem_of_mem_drop h)
def Wg {c:Cell}(h:(HT l p)[k]?=some c):l[p.1+k]?=some c:=by
 unfold HT at h;rw[List.getElem?_drop,AX]at h;split at h
 ·exact h
 ·cases h
def S6 (h:Hq l=0)(p:Nat×Nat):Hq (HT l p)=0:=by
 obtain⟨h1,h2⟩:=Mk.1 h;exact Mk.2 ⟨λc z=>h1 c (OQ z),X1x λk a b J hb=>Vm h2 (Wg J) (by have:=Wg hb;rwa [show p.1+(k+1)=p.1+k+1 by omega]at this)⟩
def Jn (l:List Cell)(p:Nat×Nat):Fj:=FA (GH l (p.2-1)).key++F4 (GH l (p.2-1)).seq.toNat++FA (H0 (HT l p))
end Go.Sp
namespace Go.Proofs.YtiooodckiddpmaaGreatDoor
open Go.Vc Go.Sp
attribute [local irreducible] W XW Dw GC
@[reducible] def Ld (p:Nat×Nat):List Value:=[I ↑p.1,I ↑p.2]
variable {k:Nat}{l:List Cell}
def Vh : Kb l (k+1)=(Gm l (k+1)).1++[((Gm l (k+1)).2.1,k+1)]:=by unfold Kb;rw[if_neg Fe]
def Xxn : Kb l k=[]↔k=0:=by
 unfold Kb;split
 ·rename_i h;exact⟨λ_=>h,λ_=>rfl⟩
 ·rename_i h;exact⟨λe=>by simp at e,λe=>absurd e h⟩
def Uk (h:k=0\/512<(Gm l k).2.2+GB (GH l k)):Gm l (k+1)=(Kb l k,k,GB (GH l k)):=by
 rw[Gm.eq_2];unfold Kb
 by_cases e:k=0
 ·subst e;rfl
 ·rw[if_neg e,if_pos (h.resolve_left e),if_neg e]
def X7m (h:k≠0)(h2:¬ 512<(Gm l k).2.2+GB (GH l k)):Gm l (k+1)=((Gm l k).1,(Gm l k).2.1,(Gm l k).2.2+GB (GH l k)):=by
 rw[Gm.eq_2,if_neg h,if_neg h2]
def WD (l:List Cell)(hl:∀c∈l,GB c<=1000000)(k:Nat):(Gm l k).2.2<=1000512:=by
 have z:∀k,GB (GH l k)<=1000000:=λk=>by
  unfold GH
  cases e:l[k]? with
  | none=>simp [Cell.zero,GB]
  | some c=>exact hl c (Ag e)
 cases k with
 | zero=>simp [Gm]
 | succ k=>
  rw[Gm.eq_2];have:=z k;have:=z 0;split
  ·simp only;omega
  ·split<;>simp only<;>omega
def X7n {α:Type}{l:List α}{a b:α} : (l++[a]).set l.length b=l++[b]:=by simp
def W5 (l:List Cell)(v:Value)(w:World)(hv:Fu Cell.cs 4 w v l)(hl:l.length<=30000) :
  Gi 198 [v] w λu w'=>Vc.Own GF 1 9 w.heap.size w' u (HN l):=by
 refine cE Tryz.func198 λz=>FM 79 4 hv.sl ?_;refine F8 (G:=Nat×Value) (λ(k,vm)=>[(0,v),(2,.slice none 0 0),(3,vm),(6,v),(7,I ↑l.length),(8,I ↑k)]) (λ(k,vm) w'=>Fq w w'/\k<=l.length/\Vc.Own GF 1 9 w.heap.size w' vm (LZ l k)) (λ(k,vm)=>l.length-k) (0,.slice none 0 0) ⟨z,Ab _,Vc.Own.nil⟩ ?_;rintro _ ⟨k,vm⟩ w1 ⟨z,hk9,ho⟩;refine Fk (λc1=>?_) λc1=>?_
 ·obtain⟨c,hk⟩:∃c,l[k]?=some c:=F7;have hlk:=M1 l k;have O:=Xuh l k;rw[cAt_at hk]at O;refine FN 79 4 hv.sl (hv.lt hk) ?_;refine dq (Fx Ff rfl rfl ((hv.ext z).row hk)) (aL [S [],S [],B false,.int .i64 0] λb1 w2 e1 x2 Y=>?_);have g1:=z.ge e1;have o1_ho:=ho.ltb e1;refine Fy x2 ho z λho z=>go ?_;refine Gg Y (λw3 x3 xs3 Y=>?_);have ho:=ho.mod x3 Fw;have z:=z.o1 x3;refine Gt 10010100000000 λw4 x4=>FC x4 ho Y z λho Y z=>?_;refine FJ 15 (λc2=>?_) λc2=>?_
  ·refine go ?_;refine GU rfl (go ?_);refine li (e:=9) (sz:=1) (zs:=[S []]) (pv:=[(0,_)]) (cs:=[_]) RX.all (λb2 w5 e2 x5 m2=>?_);have g2:=z.ge e2;have n2_1:=Y.ltb e2;have o2_ho:=ho.ltb e2;refine FC x5 ho Y z λho Y z=>G8 c.key ho m2 λZ w6 J x6=>?_;have Y:=Y.mod x6 Fw;have z:=z.own x6 F5;have ho:=J;clear m2;refine go ?_;refine FL (k+1,Z) ⟨z,by omega,?_⟩;rw[O,if_pos (by unfold Kw;simp;omega)];exact ho
  obtain⟨x,hk1⟩:∃x,l[k-1]?=some x:=F7;refine gn ?_;refine F3 (v:=I ↑(k-1)) rfl (G7 rfl rfl FH) FY (di 79 4 hv.sl rfl (hv.lt hk1) (go ?_));refine dL rfl (λ_ hR=>(((hv.ext (z.trans hR)).row hk1).at rfl)) (go ?_);refine dp (Nk rfl rfl) ?_;refine Fk (λc3=>?_) λc3=>?_
  ·refine go ?_;refine li (e:=9) (sz:=1) (zs:=[S []]) (pv:=[(0,_)]) (cs:=[_]) RX.all (λb3 w7 e3 x7 m3=>?_);have g3:=z.ge e3;have o3_ho:=ho.ltb e3;refine Fy x7 ho z λho z=>G8 c.key ho m3 λZ w8 J x8=>?_;have z:=z.own x8 F5;have ho:=J;clear m3;refine go ?_;refine FL (k+1,Z) ⟨z,by omega,?_⟩;rw[O,if_pos (by unfold Kw;rw[cAt_at hk1,cAt_at hk];simp [c3])];exact ho
  refine go ?_;refine FL (k+1,vm) ⟨z,by omega,?_⟩;have ha:¬ k=0:=by omega
  rw[O,if_neg (by unfold Kw;rw[cAt_at hk1,cAt_at hk];simp [ha];simpa using c3)];exact ho
 refine go ?_;rw[show k=l.length by omega]at ho;exact⟨_,rfl,z,ho⟩
def UN (l:List Cell)(v:Value)(w:World)(hv:Fu Cell.cs 4 w v l)(hl:l.length<=30000)(hsz9:∀c∈l,GB c<=1000000)(hkv:∀c∈l,c.key.length<=1000000000/\c.val.length<=1000000000) :
  Gi 199 [v] w λu w'=>Vc.Own Ld 2 284 w.heap.size w' u (GO l):=by
 refine cE Tryz.func199 λz=>FM 79 4 hv.sl ?_;refine F8 (G:=Nat×Value) (λ(k,vp)=>[(0,v),(2,.slice none 0 0),(3,vp),(4,I ↑(Gm l k).2.2),(8,v),(9,I ↑l.length),(10,I ↑k)]) (λ(k,vp) w'=>Fq w w'/\k<=l.length/\Vc.Own Ld 2 284 w.heap.size w' vp (Kb l k)) (λ(k,vp)=>l.length-k) (0,.slice none 0 0) ⟨z,Ab _,Vc.Own.nil⟩ ?_;rintro _ ⟨k,vp⟩ w1 ⟨z,hk9,ho⟩;refine Fk (λc1=>?_) λc1=>?_
 ·obtain⟨c,hk⟩:∃c,l[k]?=some c:=F7;have hrl:=WD l hsz9 k;have hsc:=hsz9 c (Ag hk);have hf:=hkv c (Ag hk);have hpl:=QD l k;have Z:=Xxn (l:=l) (k:=k);refine FN 79 4 hv.sl (hv.lt hk) ?_;refine dq (Fx Ff rfl rfl ((hv.ext z).row hk)) (aL [S [],S [],B false,.int .i64 0] λb1 w2 e1 x2 m1=>?_);have g1:=z.ge e1;have o1_ho:=ho.ltb e1;refine Fy x2 ho z λho z=>go ?_;refine Gg m1 (λw3 x3 xs3 m1=>?_);have ho:=ho.mod x3 Fw;have z:=z.o1 x3;refine go ?_;refine dq (Fx (k:=4) Ff rfl rfl m1.row) (cP (Rt c _ hf.1 hf.2) RX.all λw4 x4=>Fy x4 ho z λho z=>g0 ?_);refine GP (G:=Value×List (Nat×Nat)×Nat×Nat×Nat) (λ(va,fr,f,e,s0)=>[(0,v),(2,.slice none 0 0),(3,va),(4,I ↑s0),(5,I ↑k),(7,I ↑(GB c)),(8,v),(9,I ↑l.length),(10,I ↑k)]) (λ(va,fr,f,e,s0) w'=>Fq w w'/\Vc.Own Ld 2 284 w.heap.size w' va (fr++[(f,e)])/\(fr,f,s0+GB c)=Gm l (k+1)) ?_ ?_
  ·refine go ?_;refine dv 284 2 (ho.arr Fg).sl ?_;refine FJ 20 (λc2=>?_) λc2=>?_
   ·refine go ?_;refine GU rfl (go ?_);refine db (zs:=[.int .i64 0,.int .i64 0]) (pl:=[(0,1),(1,1)]) (pv:=[(0,_),(1,_)]) (cs:=[_,_]) ?_;refine lA 284 rfl λb2 w5 e2 x5 m2=>?_;have g2:=z.ge e2;have o2_ho:=ho.ltb e2;refine Fy x5 ho z λho z=>G8 (k,k) ho m2 λY w6 J x6=>?_;have z:=z.own x6 F5;have ho:=J;clear m2;refine go ?_;have O:k=0:=by
     have:(Kb l k).length=0:=by omega
     exact Z.1 (A0 this)
    exact⟨(Y,Kb l k,k,k,0),KZ,z,ho,by rw[Uk (.inl O),cAt_at hk,A5]⟩
   refine Fk (λc3=>?_) λc3=>?_
   ·refine go ?_;refine db (zs:=[.int .i64 0,.int .i64 0]) (pl:=[(0,1),(1,1)]) (pv:=[(0,_),(1,_)]) (cs:=[_,_]) ?_;refine lA 284 rfl λb3 w7 e3 x7 m3=>?_;have g3:=z.ge e3;have o3_ho:=ho.ltb e3;refine Fy x7 ho z λho z=>G8 (k,k) ho m3 λY w8 J x8=>?_;have z:=z.own x8 F5;have ho:=J;clear m3;refine go ?_;exact⟨(Y,Kb l k,k,k,0),KZ,z,ho,by rw[Uk (.inr (by rw[cAt_at hk];omega)),cAt_at hk,A5]⟩
   refine go ?_;have O:k≠0:=λe=>by rw[Z.2 e]at c2;simp at c2
   exact⟨(vp,(Gm l k).1,(Gm l k).2.1,k,(Gm l k).2.2),KZ,z,by rw[show Kb l k=_ from if_neg O]at ho;exact ho,by rw[X7m O (by rw[cAt_at hk];omega),cAt_at hk]⟩
  rintro _ ⟨va,fr,f,e,s0⟩ w9 ⟨z,ho,hrn⟩;have hg:=congrArg (λt:List (Nat×Nat)×Nat×Nat=>t.2.2) hrn;simp only at hg;have hrl1:=WD l hsz9 (k+1);have hj:=congrArg (λt:List (Nat×Nat)×Nat×Nat=>t.1.length) hrn;simp only at hj;have ha:=QD l (k+1);rw[Vh,Ad,C2]at ha;obtain⟨cs9,cap9,hc,_⟩:=ho.cells F0;refine gn ?_;refine F3 (v:=I ↑(Gm l (k+1)).2.2) rfl (GK rfl rfl FH) FY (go ?_);refine dv 284 2 (ho.arr Fg).sl (F3 (v:=I ↑fr.length) rfl (G7 rfl rfl (by unfold Ge;simp;omega)) (by show I _=I _;congr 1;simp) (gn ?_));refine F3 (v:=I ↑(k+1)) rfl (GK rfl rfl FH) (by show I _=I _;congr 1) (F3 (v:=Fh (base va).1 (fr.length*2)) rfl (Ir (e:=284) (k:=2) Ff ho.sl rfl rfl F0) (by rw[hc];show Fh _ (0+_)=_;rw[A5]) (go ?_));refine Ie (enc:=Ld) (sz:=2) (i:=fr.length) (j:=1) (x:=(f,k+1)) (vs:=[I ↑(k+1)]) Fg rfl ho rfl rfl rfl Ff F0 (by rw[BO,List.getElem?_concat_length];rfl) (Aa 2) (by intro v hv;rw[Af.1 hv];rfl) (.inl rfl) (λw10 hh xs10 J=>?_);have z:=z.own hh F5;have ho:=J;rw[X7n]at ho;refine go ?_;refine FL (k+1,va) ⟨z,by omega,?_⟩;rw[Vh,<-hrn];exact ho
 refine go ?_;rw[show k=l.length by omega]at ho;exact⟨_,rfl,z,ho⟩
def FT (l:List Cell):Fj:=F4 (GO l).length++(GO l).flatMap (Jn l)++F4 l.length++FA (Jg (HN l))
def IV (l:List Cell):Int:=if l.length<1\/4096<l.length then 1 else if Hq l≠0 then Hq l else HQ (FT l)
def Y8 (h:l.length<1\/4096<l.length):IV l=1:=if_pos h
def X7o (h:¬ (l.length<1\/4096<l.length))(h2:Hq l≠0):IV l=Hq l:=by unfold IV;rw[if_neg h,if_pos h2]
def Vb (h:¬ (l.length<1\/4096<l.length))(h2:Hq l=0):IV l=HQ (FT l):=by unfold IV;rw[if_neg h,if_neg (λe=>e h2)]
def X8 (h:∀c∈l,Gl c=true):(∀c∈l,GB c<=1000000)/\∀c∈l,c.key.length<=1000000000/\c.val.length<=1000000000:=by
 refine⟨λc z=>?_,λc z=>?_⟩
 ·have:=KH (h c z);unfold GB;omega
 ·have:=KH (h c z);omega
def Yax {A:Fj}{s:Int}(h1:1<=s)(h2:s<=1099511627776):A++[s].flatMap GA=A++F4 s.toNat:=by
 simp only [AA,Ck,AI];unfold GA;rw[Wu h1 h2]
def X5 {a b:Nat}{ps:List (Nat×Nat)}(h:GR a ps b)(k:Nat):∃c,GR a (ps.take k) c/\c<=b:=by
 induction ps generalizing a k with
 | nil=>exact⟨a,by simp;rfl,Cb h⟩
 | cons p r ih=>
  cases k with
  | zero=>exact⟨a,rfl,by have:=GR.le (l:=p :: r) h;simp at this;omega⟩
  | succ k=>
   obtain⟨c,h1,h2⟩:=ih h.2.2.2 k;exact⟨c,⟨h.1,h.2.1,h.2.2.1,h1⟩,h2⟩
def X7p (h:∀c∈l,Gl c=true)(k:Nat):(GH l k).key.length<=4096:=by
 unfold GH
 cases e:l[k]? with
 | none=>simp [Cell.zero]
 | some c=>exact(KH (h c (Ag e))).1
def Xxs (h:∀c∈l,Gl c=true){p:Nat×Nat}(hp:p.1<p.2):(Jn l p).length<=25000*(p.2-p.1):=by
 unfold Jn FA;have h1:=X7p h (p.2-1);have h2:=Gk (GH l (p.2-1)).key.length;have h3:=Gk (GH l (p.2-1)).seq.toNat;have h4:=Gk (H0 (HT l p)).length;have h5:=Qf (l:=HT l p) (λc z=>h c (OQ z));have J:(HT l p).length<=p.2-p.1:=by unfold HT;rw[Bd,AE];omega
 have h7:20600*(HT l p).length<=20600*(p.2-p.1):=CB _ J;simp only [Ad];omega
def Xxt (h:∀c∈l,Gl c=true){a b:Nat}{ps:List (Nat×Nat)}(hc:GR a ps b):(ps.flatMap (Jn l)).length+25000*a<=25000*b:=by
 induction ps generalizing a with
 | nil=>have e:a=b:=hc;subst e;simp
 | cons p r ih=>
  have h1:=ih hc.2.2.2;have h2:=Xxs h (p:=p) (by have:=hc.1;have:=hc.2.1;omega);have h3:=hc.1;have h4:=hc.2.1;rw[AA,Ad];omega
def Ta (h:∀c∈l,Gl c=true)(k:Nat):(((GO l).take k).flatMap (Jn l)).length<=25000*l.length:=by
 obtain⟨c,h1,h2⟩:=X5 (MW l l.length) k;have:=Xxt h h1;have:25000*c<=25000*l.length:=CB _ h2;show(((Kb l l.length).take k).flatMap (Jn l)).length<=_;omega
def PR {w:World}{v v2:Value}{bw:Nat}{Q:Nat->Prop}(hg:H9 w v v2)(h:∀k,Q k->¬ HX bw v k)(hlt:∀k,Q k->k<w.heap.size):∀k,Q k->¬ HX bw v2 k:=λk hk h2=>h k hk (QM hg h2 (hlt k hk))
def Ur (h:∀c∈l,Gl c=true)(hl:l.length<=4096):(FT l).length<=25000*l.length+6000:=by
 unfold FT;have h1:=Ta h (GO l).length;rw[AT]at h1;have h2:=Gk (GO l).length;have h3:=Gk l.length;have h4:(Jg (HN l)).length<=5130:=by rw[MI];have:=M1 l l.length;unfold I9;unfold HN;omega
 have h5:=Gk (Jg (HN l)).length;unfold FA;simp only [Ad];omega
def Yc (l:List Cell)(v:Value)(w:World)(hv:Fu Cell.cs 4 w v l)(hl:l.length<=30000) :
  Gi 170 [v] w λu w'=>∃vb,u=.tuple #[vb,I (IV l)]/\(IV l=0->Fu Fs 1 w' vb (Fz (FT l))/\w.heap.size<=(base vb).1):=by
 refine cE Tryz.func170 λJ=>FM 79 4 (hv.ext J).sl ?_;refine FJ 16 (λc1=>?_) λc1=>?_
 ·refine go ?_;refine GU rfl (go ?_);rw[Y8 (.inl Fe)];exact⟨_,rfl,J,_,rfl,λe=>by simp at e⟩
 refine FM 79 4 (hv.ext J).sl ?_;refine Fk (λc2=>?_) λc2=>?_
 ·refine go ?_;rw[Y8 (.inr Fe)];exact⟨_,rfl,J,_,rfl,λe=>by simp at e⟩
 refine Gj (SC l v _ (hv.ext J) hl) λu1 w1 x1 y2=>?_;have hsz1:=J.size;have J:=J.trans x1;obtain⟨vb0,rfl,_⟩:=y2;refine Fk (λc3=>?_) λc3=>?_
 ·refine go ?_;rw[X7o Fe c3];exact⟨_,rfl,J,_,rfl,λe=>absurd e c3⟩
 have hE:Hq l=0:=AF c3;obtain⟨ha,hRis⟩:=Mk.1 hE;obtain⟨xw,yz⟩:=X8 ha;have yj:=QD l l.length;have hpN:(GO l).length<=l.length:=yj;refine go ?_;refine aL [.slice none 0 0] λb1 w2 e1 x2 m1=>?_;have g1:=J.ge e1;have J:=J.trans x2;refine Gj (UN l v _ (hv.ext J) hl xw yz) λvp w3 x3 ym=>?_;have xz:=J.size;refine Fy x3 m1 J λm1 J=>?_;have Z:=ym.mono xz;refine go ?_;refine dv 284 2 (Z.arr Fg).sl (li (e:=3) (sz:=1) (zs:=[.int .i64 0]) (pv:=[(0,_)]) (cs:=[_]) RX.all (λb2 w4 e2 x4 m2=>?_));have g2:=J.ge e2;have n2_1:=m1.ltb e2;have o2_hP:=Z.ltb e2;refine FC x4 m1 Z J λm1 Z J=>?_;have z:Wr w.heap.size b1 (.slice none 0 0) [] w4:=⟨m1,Vc.Own.nil⟩;have xr:∀Y,vp.ownBlock=some Y->¬ HX b1 (.slice none 0 0) Y:=λY O h=>h.elim (λe=>Z.ne_blk m1 rfl (e▸O)) (λe=>by cases e);have xq:=λY O=>(Z.lt Y O).2;refine cD (Lb w.heap.size b1 (.slice none 0 0) _ [↑(GO l).length] (.slice (some ⟨b2,0,none⟩) 1 1) _ z (Ae (Aa 0:([]:Fj).length<=0) Fe) J.size (m2.arr (enc:=Vc.encI) (sz:=1) (l:=[↑(GO l).length]) rfl Fg rfl F0) F0 (λY O _ ht=>by have hp:b2=Y:=ht;subst hp;exact(O.elim (λh=>by omega) (λh=>by cases h)))) (.inl rfl) λu5 w5 x5 yt=>?_;have hsz5:=J.size;have Z:=Z.mod x5 xr;have J:=J.own x5 (λi hi=>z.ge g1 hi);obtain⟨rfl,v1,z,hf⟩:=yt;rw[O3 Fe,AG]at z;have hln34:=trivial;have xj:=PR hf xr xq;refine go ?_;refine dv 284 2 (Z.arr Fg).sl (F8 (G:=Nat×Value) (λ(k,vc)=>[(0,v),(2,.slice none 0 0),(3,I 0),(6,Fh b1 0),(35,vp),(36,I ↑(GO l).length),(37,I ↑k)]) (λ(k,vc) w'=>Fq w w'/\k<=(GO l).length/\Wr w.heap.size b1 vc (F4 (GO l).length++((GO l).take k).flatMap (Jn l)) w'/\Vc.Own Ld 2 284 w.heap.size w' vp (GO l)/\(∀Y,vp.ownBlock=some Y->¬ HX b1 vc Y)) (λ(k,vc)=>(GO l).length-k) (0,v1) ⟨J,Ab _,by simpa using z,Z,xj⟩ ?_);rintro _ ⟨k,vc⟩ w6 ⟨J,hk9,z,Z,xj⟩;refine Fk (λc4=>?_) λc4=>?_
 ·obtain⟨p,hkp⟩:∃p,(GO l)[k]?=some p:=F7;have yh:=(MW l l.length).mem (Ag hkp);obtain⟨c,hk⟩:∃c,l[p.2-1]?=some c:=F7;have hcs:=KH (ha c (Ag hk));have hsl:=IY (l:=l) yh.2.2.1;have hsb:=Qf (l:=HT l p) (λc hc=>ha c (OQ hc));have ye:=Ta ha k;have y0:=Gk (GO l).length;have xf:(F4 (GO l).length++((GO l).take k).flatMap (Jn l)).length<=25000*l.length+10:=by rw[Ad];omega
  refine go ?_;refine di 284 2 (Z.arr Fg).sl rfl ((Z.arr Fg).lt hkp) (dq (Fx Ff rfl rfl ((Z.arr Fg).row hkp)) (aL [.int .i64 0,.int .i64 0] λb3 w7 e3 x7 m3=>?_));have g3:=J.ge e3;have hh:=z.lt;have o3_hP:=Z.ltb e3;refine FC x7 z Z J λz Z J=>Gg m3 (λw8 x8 xs8 m3=>?_);have z:=z.mod x8 (λY O h=>by have h2:Y=b3:=h;subst h2;exact A7 _ (AD (hh _ O) e3.symm));have Z:=Z.mod x8 Fw;have J:=J.o1 x8;refine gn ?_;refine F3 (v:=I ↑(p.2-1)) rfl (G7 rfl rfl FH) FY (di 79 4 (hv.ext J).sl rfl ((hv.ext J).lt hk) (dq (Fx Ff rfl rfl ((hv.ext J).row hk)) (aL [S [],S [],B false,.int .i64 0] λb4 w9 e4 x9 m4=>?_)));have g4:=J.ge e4;have n4_3:=m3.ltb e4;have hj:=z.lt;have o4_hP:=Z.ltb e4;refine FQ x9 z Z m3 J λz Z m3 J=>Gg m4 (λw10 xe xs10 m4=>?_);have z:=z.mod xe (λY O h=>by have h2:Y=b4:=h;subst h2;exact A7 _ (AD (hj _ O) e4.symm));have Z:=Z.mod xe Fw;have m3:=m3.mo xe;have J:=J.o1 xe;refine go ?_;refine dp (HH (e:=79) (k:=4) Ff (hv.ext J).sl rfl rfl rfl Fe Fe) ?_;have hq:=z.lt;refine cG (SC (HT l p) (Hg 4 v p.1 p.2) _ ((hv.ext J).slice Fe Fe) Fe) RX.all λu11 xm yf ya=>?_;have hsz11:=J.size;refine Ga yf z Z m3 m4 J λz Z m3 m4 J=>?_;obtain⟨xn,rfl,hB⟩:=ya;rw[if_pos (S6 hE p)]at hB;have hEs:=S6 hE p;have hQ:∀Y,(λY=>Y=b3\/Y=b4\/xn.ownBlock=some Y\/vp.ownBlock=some Y) Y->¬ HX b1 vc Y:=λY O h=>by
   rcases O with O|O|O|O
   ·rw[O]at h;exact A7 _ (AD (hh _ h) e3.symm)
   ·rw[O]at h;exact A7 _ (AD (hj _ h) e4.symm)
   ·have h8:=hq _ h;have h7:=(hB.lt _ O).1;omega
   ·exact xj Y O h
  have xh:∀Y,(λY=>Y=b3\/Y=b4\/xn.ownBlock=some Y\/vp.ownBlock=some Y) Y->Y<xm.heap.size:=λY O=>by
   rcases O with O|O|O|O
   ·rw[O];exact m3.lt
   ·rw[O];exact m4.lt
   ·exact(hB.lt _ O).2
   ·exact(Z.lt _ O).2
  have hS:Sz xm.heap.size xm:=⟨Aa _⟩;refine gw ?_;refine Ka [.p,.l,.x,.x,.x] rfl (go ?_);refine KF (e:=5) rfl Ff Ff Ff rfl RX.all (λb5 xo w12 e5 yr xk=>?_);have g5:=J.ge e5;have n5_4:=m4.ltb e5;have xa:=z.lt;have o5_hP:=Z.ltb e5;have a5_hS:=hS.le;refine HB yr z Z m4 hB hS J λz Z m4 hB hS J=>li (e:=82) (sz:=1) (zs:=[.slice none 0 0]) (pv:=[(0,_)]) (cs:=[_]) RX.all (λb6 w13 e6 yo m6=>?_);have g6:=J.ge e6;have n6_4:=m4.ltb e6;have h6:=z.lt;have o6_hP:=Z.ltb e6;have a6_hS:=hS.le;refine Lv yo z Z m4 hB hS xk J λz Z m4 hB hS xk J=>?_;have hg:=λY O=>Ay (xh Y O) hS.le;refine cD (Mn w.heap.size b1 vc _ [(.slice (some ⟨b5,0,none⟩) c.key.length xo,c.key)] (.slice (some ⟨b6,0,none⟩) 1 1) _ z (Ae xf Fe) J.size (Lp m6) (λq h=>by rw[Af.1 h];exact xk) (λq h=>by rw[Af.1 h];exact(show c.key.length<=1000000 by omega)) F0 (λ_ O=>(A7 b6 (AD (h6 _ O) e6.symm))) (λq h hl O=>by rw[Af.1 h]at hl O;exact(A7 b5 (AD (xa _ O) e5.symm)))) (.inl rfl) λu14 w14 hw xt=>?_;have hsz14:=J.size;have Z:=Z.mod hw Fw;have m4:=m4.mod hw (hQ _ (.inr (.inl rfl)));have hB:=hB.mod hw (λY O=>hQ Y (.inr (.inr (.inl O))));have hS:=hS.mod hw trivial;have J:=J.own hw (λi hi=>z.ge g1 hi);obtain⟨rfl,v2,z,hf⟩:=xt;rw[K6]at z;have hz:=PX (p:=c.key) (M:=4096) xf Fe;have hQ:=PR hf hQ hg;refine go ?_;refine li (e:=3) (sz:=1) (zs:=[.int .i64 0]) (pv:=[(0,_)]) (cs:=[_]) RX.all (λb7 w15 e7 yg m7=>?_);have g7:=J.ge e7;have o7_hP:=Z.ltb e7;have a7_hS:=hS.le;have xb:=z.lt;refine Ga yg Z hB hS z J λZ hB hS z J=>?_;have hg:=λY O=>Ay (xh Y O) hS.le;refine cD (Lb w.heap.size b1 v2 _ [c.seq] (.slice (some ⟨b7,0,none⟩) 1 1) _ z (Ae hz Fe) J.size (m7.arr (enc:=Vc.encI) (sz:=1) (l:=[c.seq]) rfl Fg rfl F0) F0 (λY O _ ht=>by have hp:b7=Y:=ht;subst hp;exact(A7 b7 (AD (xb _ O) e7.symm)))) (.inl rfl) λu16 w16 xc xp=>?_;have hsz16:=J.size;have Z:=Z.mod xc (λY O=>hQ Y (.inr (.inr (.inr O))));have hB:=hB.mod xc (λY O=>hQ Y (.inr (.inr (.inl O))));have hS:=hS.mod xc trivial;have J:=J.own xc (λi hi=>z.ge g1 hi);obtain⟨rfl,v3,z,hf⟩:=xp;rw[Yax Fe Fe]at z;have xi:=PQ (n:=c.seq.toNat) hz;have hQ:=PR hf hQ hg;refine go ?_;refine It (e:=82) (sz:=1) (zs:=[.slice none 0 0]) (pv:=[(0,?a39_0)]) (cs:=[?a39_0]) rfl Ff ⟨rfl,rfl⟩ Ff rfl ?h39 ?f39 RX.all (λb8 w17 e8 y4 m8=>?k39)
  case h39=>refine⟨rfl,?_,trivial⟩<;>(conv=>lhs;whnf)
  case f39=>simp [Hs,Gw,Ap,hB.sl.cells]
  have g8:=J.ge e8;have o8_hP:=Z.ltb e8;have a8_hS:=hS.le;have h5:=z.lt;refine Ga y4 Z hB hS z J λZ hB hS z J=>?_;have hg:=λY O=>Ay (xh Y O) hS.le;refine cD (Mn w.heap.size b1 v3 _ [(xn,H0 (HT l p))] (.slice (some ⟨b8,0,none⟩) 1 1) _ z (Ae xi Fe) J.size (Lp m8) (λq h=>by rw[Af.1 h];exact(hB.arr Fg)) (λq h=>by rw[Af.1 h];exact(show(H0 (HT l p)).length<=1000000 by omega)) F0 (λ_ O=>(A7 b8 (AD (h5 _ O) e8.symm))) (λq h hl O=>by rw[Af.1 h]at hl O;exact hQ _ (.inr (.inr (.inl (hB.base_block hl)))) O)) (.inl rfl) λu18 w18 yc x6=>?_;have hsz18:=J.size;have Z:=Z.mod yc (λY O=>hQ Y (.inr (.inr (.inr O))));have J:=J.own yc (λi hi=>z.ge g1 hi);obtain⟨rfl,v4,z,hf⟩:=x6;rw[K6]at z;have hln68:=trivial;have hQ:=PR hf hQ hg;refine go ?_;refine FL (k+1,v4) ⟨J,by omega,?_,Z,λY O=>hQ Y (.inr (.inr (.inr O)))⟩;have yn:Jn l p=FA c.key++F4 c.seq.toNat++FA (H0 (HT l p)):=by unfold Jn;rw[cAt_at hk]
  rw[GW hkp,Bc,AA,Ck,yn];simpa only [A6,AI]using z
 have ye:=Ta ha k;have y0:=Gk (GO l).length;have xg:(F4 (GO l).length++((GO l).take k).flatMap (Jn l)).length<=25000*l.length+10:=by rw[Ad];omega
 refine FM 79 4 (hv.ext J).sl ?_;refine li (e:=3) (sz:=1) (zs:=[.int .i64 0]) (pv:=[(0,_)]) (cs:=[_]) RX.all (λb9 w19 e9 yu m9=>?_);have g9:=J.ge e9;have xd:=z.lt;refine Fy yu z J λz J=>cD (Lb w.heap.size b1 vc _ [↑l.length] (.slice (some ⟨b9,0,none⟩) 1 1) _ z (Ae xg Fe) J.size (m9.arr (enc:=Vc.encI) (sz:=1) (l:=[↑l.length]) rfl Fg rfl F0) F0 (λY O _ ht=>by have hp:b9=Y:=ht;subst hp;exact(A7 b9 (AD (xd _ O) e9.symm)))) (.inl rfl) λu20 w20 yy xy=>?_;have hsz20:=J.size;have J:=J.own yy (λi hi=>z.ge g1 hi);obtain⟨rfl,v5,z,hf⟩:=xy;rw[O3 Fe]at z;have hr:=PQ (n:=l.length) xg;refine Gj (W5 l v _ (hv.ext J) hl) λvK w21 yw Z0=>?_;have xl:=J.size;refine Fy yw z J λz J=>?_;have hK:=Z0.mono xl;have hq:=z.lt;refine cG (X0 (HN l) vK _ (hK.arr Fg) (by have:=M1 l l.length;unfold HN;omega) (λs9 O=>by obtain⟨c9,yl,rfl⟩:=WJ (Aa _) O;have:=KH (ha c9 yl);omega)) RX.all λvM w22 yk hM=>?_;have hsz22:=J.size;refine Fy yk z J λz J=>?_;refine It (e:=82) (sz:=1) (zs:=[.slice none 0 0]) (pv:=[(0,?a44_0)]) (cs:=[?a44_0]) rfl Ff ⟨rfl,rfl⟩ Ff rfl ?h44 ?f44 RX.all (λyb w23 xv yp y3=>?k44)
 case h44=>refine⟨rfl,?_,trivial⟩<;>(conv=>lhs;whnf)
 case f44=>simp [Hs,Gw,Ap,hM.sl.cells]
 have g10:=J.ge xv;have hy:=z.lt;refine FC yp z hM J λz hM J=>cD (Mn w.heap.size b1 v5 _ [(vM,Jg (HN l))] (.slice (some ⟨yb,0,none⟩) 1 1) _ z (Ae hr Fe) J.size (Lp y3) (λq h=>by rw[Af.1 h];exact(hM.arr Fg)) (λq h=>by rw[Af.1 h];exact(show(Jg (HN l)).length<=1000000 by rw[MI];have:=M1 l l.length;unfold I9 HN;omega)) F0 (λ_ O=>(A7 yb (AD (hy _ O) xv.symm))) (λq h hl O=>by rw[Af.1 h]at hl O;exact(by have h8:(base vM).1<_:=hq _ O;have h7:=(hM.base_ge hl).1;omega))) (.inl rfl) λu24 w24 yi xu=>?_;have hsz24:=J.size;have J:=J.own yi (λi hi=>z.ge g1 hi);obtain⟨rfl,v6,z,hf⟩:=xu;rw[K6]at z;have hln78:=PX (p:=Jg (HN l)) (M:=1000000) hr (by rw[MI];have:=M1 l l.length;unfold I9 HN;omega);refine Gj (OA w.heap.size b1 v6 _ _ z Fe) λvo w25 y1 hO=>?_;have hsz25:=J.size;have J:=J.trans y1;rw[show k=(GO l).length by omega,AT]at hO;change Vc.Own Fs 1 _ _ _ vo (FT l)at hO;refine It (e:=82) (sz:=1) (zs:=[.slice none 0 0]) (pv:=[(0,?a45_0)]) (cs:=[?a45_0]) rfl Ff ⟨rfl,rfl⟩ Ff rfl ?h45 ?f45 RX.all (λb11 w26 yq yd yv=>?k45)
 case h45=>refine⟨rfl,?_,trivial⟩<;>(conv=>lhs;whnf)
 case f45=>simp [Hs,Gw,Ap,hO.sl.cells]
 have g11:=J.ge yq;refine Fy yd hO J λhO J=>cG (T7 (FT l) vo _ _ (yv.arr (enc:=λx:Value=>[x]) (sz:=1) (l:=[vo]) rfl Fg rfl F0) (hO.arr Fg) (by have:=Ur ha Fe;omega)) RX.all λu27 w27 yx x0=>?_;have hsz27:=J.size;have J:=J.trans yx;obtain⟨vb,rfl,xx⟩:=x0;refine go ?_;rw[Vb Fe hE];exact⟨_,rfl,J,_,rfl,λe=>⟨(xx e).1,by have:=(xx e).2;omega⟩⟩
end Go.Proofs.YtiooodckiddpmaaGreatDoor
namespace Go.Vc
open Go.RowKit Go.Maps
@[reducible] def GM (p:Int×Int):Value:=.agg ⟨[I p.1,I p.2]⟩
def Km (p:Int×Int):Prop:=Ge p.1/\Ge p.2
def X2f (x y:Int×Int)(h:GM x=GM y):x=y:=by
 simp [GM]at h;exact Du h.1 h.2
variable {P:Program}{e:Nat}
def UJ {d:Nat}(he:P.underlying e=some (.int .i64)){n:Int}(hn:Ge n):P.keyLits (d+1) e [I n]=some [.int .i64 n]:=by
 have z:(Lit.int .i64 n).wf=true:=by
  unfold Ge at hn;simp [Lit.wf,IntKind.min,IntKind.max,IntKind.signed,IntKind.bits];omega
 simp [Program.keyLits,he,z]
def Xfo {d:Nat}(he:P.underlying e=some (.int .i64)){cs:List Value}{l:List Lit}(h:P.keyLits (d+1) e cs=some l):∃n:Int,cs=[I n]/\Ge n:=by
 unfold Program.keyLits at h;rw[he]at h
 match cs,h with
 | [.int q' n],h=>
  simp only []at h;split at h
  ·rename_i J;obtain⟨rfl,z⟩:=J;refine⟨n,rfl,?_⟩;have hw':-9223372036854775808<=n/\n<=9223372036854775807:=by simpa [Lit.wf,IntKind.min,IntKind.max,IntKind.signed,IntKind.bits]using z
   unfold Ge;omega
  ·cases h
def Tv (P:Program)(k i:Nat):Prop:=∀d cs,P.keyLits (d+1) k cs=if cs.length=2 then((P.keyLits d i (cs.take 1)).bind λa=>(P.keyLits d i ((cs.drop 1).take 1)).bind λb=>some [a,b]).map List.flatten else none
variable {i k:Nat}
def Xui (hk:P.underlying k=some (.array 2 i))(hc:P.cellsOf k=2)(hi:P.cellsOf i=1):Tv P k i:=λd cs=>by
 rw[Program.keyLits.eq_def];simp only [hk,hc,hi];rfl
def XJ (hs : (match P.underlying k with | some (.struct fs) => decide (fs.toList.map (λ f => (f.type, f.offset)) = [(i, 0), (i, 1)]) && fs.all (·.name != "_") | _ => false) = true)(hc : P.cellsOf k = 2)(hi : P.cellsOf i = 1): Tv P k i := λ d cs => by
 split at hs
 ·rename_i fs hk;rw[Aw,decide_eq_true_eq]at hs;obtain⟨hf,ha⟩:=hs;rw[Program.keyLits.eq_def];simp only [hk,hc,ha,and_true];obtain⟨f0,r0,h0,h1,h2⟩:=E8.1 hf;obtain⟨f1,r1,h3,h4,h5⟩:=E8.1 h2;have h6:=List.map_eq_nil_iff.1 h5;subst h6 h3;rw[h0];simp only [B4.injEq]at h1 h4;simp only [List.mapM_cons,List.mapM_nil,h1.1,h1.2,h4.1,h4.2,hi,Cw,BY,Option.bind_eq_bind,Option.pure_def,Option.bind_some]
  cases P.keyLits d i (AP 1 cs)<;>cases P.keyLits d i (AP 1 (List.drop 1 cs))<;>rfl
 ·cases hs
def Sf {α:Type}{t:Nat}{av:α->Value}(hl:laidOutB P=true)(hu:P.underlying t=some (.map k e))(hL:Tv P k i)(hi:P.underlying i=some (.int .i64))(hc:P.cellsOf k=2)(hwide:(match P.underlying k with|some (.array _ _)|some (.struct _)=>true|_=>false)=true)(hkt:P.keyType k=true)(hka:P.keyTypeAt 2 k=true)(hrow:Nat.blt k P.types.size=true)(ha:∀a b,av a=av b->a=b):MapK P t k e GM av Km:=by
 have Y:k<P.types.size:=by simpa [Nat.blt_eq]using hrow
 obtain⟨d,hd⟩:∃d,P.types.size=d+1:=⟨P.types.size-1,by omega⟩;have hg:∀v,keyOf P k v=if P.keyType k && v.formed P k then(P.keyLits (P.types.size+1) k v.cells.toList).map λls=>.string (keyBytes ls)else none:=λv=>by
  unfold keyOf;split at hwide
  ·rename_i h;rw[h]
  ·rename_i h;rw[h]
  ·cases hwide
 have J:∀cs:Array Value,(Value.agg cs).formed P k=decide (cs.size=2):=λcs=>by
  split at hwide
  ·rename_i h;simp [Value.formed,h,hc];rfl
  ·rename_i h;simp [Value.formed,h,hc];rfl
  ·cases hwide
 have O:∀v:Value,v.formed P k=true->∃cs,v=.agg cs:=λv Z=>by
  split at hwide
  ·rename_i h;cases v<;>simp [Value.formed,h]at Z;exact⟨_,rfl⟩
  ·rename_i h;cases v<;>simp [Value.formed,h]at Z;exact⟨_,rfl⟩
  ·cases hwide
 refine⟨hu,Keyed.of_law (deep_law_laid hl (m:=2) Fe Y hka hwide),λx hx=>?_,λv l hv=>?_,X2f,ha⟩
 ·refine⟨.string (keyBytes ([[.int .i64 x.1],[.int .i64 x.2]].flatten)),?_⟩;rw[hg,hkt,J,hd,hL];simp only [Value.cells,Az,Bj,if_true,Co,List.take_zero,List.drop_succ_cons,BY,UJ hi hx.1,UJ hi hx.2];rfl
 ·rw[hg,hkt,C1]at hv;split at hv
  ·rename_i Z;obtain⟨cs,rfl⟩:=O v Z;rw[J,decide_eq_true_eq]at Z;simp only [hd,Value.cells,Bp]at hv;obtain⟨ls,z,_⟩:=hv;rw[hL]at z;split at z
   ·simp only [Bp,Option.bind_eq_some_iff]at z;obtain⟨_,⟨a,hA,b,hB,_⟩,_⟩:=z;obtain⟨n,h1,hn⟩:=Xfo hi hA;obtain⟨m,h2,hm⟩:=Xfo hi hB;refine⟨(n,m),?_,hn,hm⟩;show Value.agg cs=.agg ⟨_⟩
    congr 1
    apply Array.toList_inj.1
    have hlen:cs.toList.length=2:=by simpa using Z
    rw[<-AV 1 cs.toList,h1];have:cs.toList.drop 1=(cs.toList.drop 1).take 1:=by rw[Av Gx]
    rw[this,h2];rfl
   ·cases z
  ·cases hv
def mapI {α:Type}{t k e:TypeId}{av:α->Value}(hu:P.underlying t=some (.map k e))(hk:P.underlying k=some (.int .i64))(ha:∀a b,av a=av b->a=b):MapK P t k e I av Ge:=
 ⟨hu,int_keyed hk,λx O=>⟨.int .i64 x,by
  have J:(Lit.int .i64 x).wf=true:=by
   unfold Ge at O;simp [Lit.wf,IntKind.min,IntKind.max,IntKind.signed,IntKind.bits];omega
  simp [keyOf,hk,mapKey,J]⟩,λv l z=>by
  simp only [keyOf,hk]at z
  cases v<;>simp [mapKey,hk]at z
  rename_i q n;obtain⟨⟨rfl,J⟩,rfl⟩:=z;refine⟨n,rfl,?_⟩;have hw':-9223372036854775808<=n/\n<=9223372036854775807:=by simpa [Lit.wf,IntKind.min,IntKind.max,IntKind.signed,IntKind.bits]using J
  unfold Ge;omega,λx y h=>by simpa using h,ha⟩
end Go.Vc
namespace Go.Proofs.YtiooodckiddpmaaGreatDoor
open Go.Vc Go.Sp
attribute [local irreducible] W XW Dw GC
def Yay (a b:Bool)(h:Value.bool a=.bool b):a=b:=by simpa using h
def UK : MapK Tryz.prog 183 284 4 GM B Km:=Sf (i:=3) Ff Ff (XJ Ff Ff Ff) Ff Ff Ff Ff Ff Ff Yay
structure TblE (bt:Nat)(vl vb:Value)(l:List Cell)(w:World):Prop where
 m:∃vp,Fp w bt [vl,vp,vb] 185
 a:Fu Cell.cs 4 w vl l
 b:Fu Fs 1 w vb (Jg (HN l))
 ok:IV l=0
@[reducible] def Kv (bt:Nat) (vl vb:Value):Nat->Prop:=λk=>k=bt\/k=(base vl).1\/k=(base vb).1
variable {l:List Cell}
def NM (h:IV l=0):1<=l.length/\l.length<=4096/\Hq l=0/\HQ (FT l)=0:=by
 unfold IV at h;split at h
 ·simp at h
 ·split at h
  ·rename_i h2;exact absurd h h2
  ·rename_i h1 h2;exact⟨by omega,by omega,AF h2,h⟩
variable {bt:Nat}{vb vl:Value}{w:World}
def TblE.mod {S:Nat->Prop}{w':World}(h:TblE bt vl vb l w)(x:Vc.Mod S w w')(hS:∀k,Kv bt vl vb k->¬ S k):TblE bt vl vb l w':=by
 obtain⟨⟨vp,h1⟩,h2,h3,h4⟩:=h;exact⟨⟨vp,h1.mod x (hS _ (.inl rfl))⟩,h2.mod x (λ_=>hS _ (.inr (.inl rfl))),h3.mod x (λ_=>hS _ (.inr (.inr rfl))),h4⟩
def TblE.ext {w':World}(h:TblE bt vl vb l w)(x:Fq w w'):TblE bt vl vb l w':=h.mod x (λ_ _ h=>h)
instance {bt : Nat} {vl vb:Value} {l:List Cell} {w w':World} : Up w w' (TblE bt vl vb l w) (TblE bt vl vb l w'):=⟨λx h=>h.ext x⟩
def TblE.lt (h:TblE bt vl vb l w):∀k,Kv bt vl vb k->k<w.heap.size:=by
 obtain⟨⟨vp,h1⟩,h2,h3,h4⟩:=h;have hb:=NM h4;rintro k (rfl|rfl|rfl)
 ·exact h1.lt
 ·exact h2.base_lt Fo (λe=>by rw[e]at hb;simp at hb)
 ·exact h3.base_lt Fo (λe=>by have z:=MI (HN l);rw[e]at z;unfold I9 at z;simp at z;omega)
def Xok {α β:Type}(f:α->List β)(l:List α)(k:Nat):((l.drop k).flatMap f).length<=(l.flatMap f).length:=by
 have h:=congrArg (λm=>(m.flatMap f).length) (AV k l);simp only [Bc,Ad]at h;omega
def Xqn (l:List Cell)(k:Nat):(((GO l).take k).flatMap (HT l)).length<=l.length:=by
 obtain⟨c,h1,h2⟩:=X5 (MW l l.length) k;unfold GO;rw[Tj h1,Bd,AE];omega
def Xxv (l:List Cell):(GO l).flatMap (HT l)=l:=by
 unfold GO;rw[Tj (MW l l.length)];simp
def VU (l:List Cell):FT l=F4 (GO l).length++(((GO l).flatMap (Jn l))++(F4 l.length++FA (Jg (HN l)))):=by unfold FT;simp only [A6]
def Ya0 (l:List Cell)(v:Value)(w:World)(hv:Fu Fs 1 w v (Fz (FT l)))(hb:IV l=0) :
  Gi 124 [v] w λu w'=>∃bt vl vb,u=.tuple #[Fh bt 0,I 0]/\TblE bt vl vb l w'/\∀k,Kv bt vl vb k->w.heap.size<=k:=by
 refine cE Tryz.func124 λz=>?_;obtain⟨xd,hl2,hE,xj⟩:=NM hb;obtain⟨ha,hRis⟩:=Mk.1 hE;obtain⟨hy,yh⟩:=X8 ha;have htl:=WU xj;have xk:=QD l l.length;have hpN:(GO l).length<=l.length:=xk;have hmk:(Jg (HN l)).length<=5130:=by rw[MI];have:=M1 l l.length;unfold I9;unfold HN;omega
 have xy:(Fz (FT l)).length<=2001000020:=by rw[J9];omega
 have h5:=congrArg A9 (VU l);simp only [Ad]at h5;have xa:F4 (GO l).length++(((GO l).flatMap (Jn l))++(F4 l.length++FA (Jg (HN l))))≠[]:=λe=>by
  have Z:=congrArg A9 e;have h8:1<=(F4 (GO l).length).length:=Wv 9 _;rw[Ad,Bj]at Z;omega
 refine Gj (Yc8 (Fz (FT l)) v _ (hv.ext z) xy) λu1 w1 x1 yk=>?_;have hsz1:=z.size;have z:=z.trans x1;obtain⟨vo,rfl,hV⟩:=yk;rw[We _ Fe]at hV;refine Fk (λc1=>?_) λc1=>?_
 ·rw[We _ Fe]at c1;simp at c1
 refine Gj (Wb (FT l) vo _ (hV.arr Fg) Fe) λu2 w2 x2 xn=>?_;have hj:=z.size;have z:=z.trans x2;obtain⟨br,bb,xt,rfl,xp,gbb,hR⟩:=xn;have hbr:w.heap.size<=br:=Ae hj xp;have hh:=hR.lt;rw[VU]at hR hh;have xl:=Ae hj x2.size;have hS:Sz w2.heap.size w2:=⟨Aa _⟩;refine Gz (Qm br bb xt _ false _ hR (by simp only [Ad];omega)) λu3 w3 x3 xi=>?_;have hsz3:=z.size;have hS:=hS.mod x3 trivial;have z:=z.own x3 F5;obtain⟨hl,x0,hR⟩:=xi;rw[Od _ _ Fe]at hl hR;dsimp only at hl hR;subst hl;refine F8 (G:=Nat×Value×Value) (λ(k,vc,vl)=>[(0,v),(5,I (Jk (Fz (FT l))).2),(6,Fh br 0),(7,vl),(25,I ↑(GO l).length),(26,I ↑k)]) (λ(k,vc,vl) w'=>Fq w w'/\k<=(GO l).length/\Rd br bb vc ((((GO l).drop k).flatMap (Jn l))++(F4 l.length++FA (Jg (HN l)))) false w'/\Vc.Own Cell.cs 4 79 w2.heap.size w' vl (((GO l).take k).flatMap (HT l))/\Sz w2.heap.size w') (λ(k,vc,vl)=>(GO l).length-k) (0,x0,.slice none 0 0) ⟨z,Ab _,hR,Vc.Own.nil,hS⟩ ?_;rintro _ ⟨k,vc,vl⟩ w4 ⟨z,hk9,hR,ho,hS⟩;refine Fk (λc2=>?_) λc2=>?_
 ·obtain⟨p,hkp⟩:∃p,(GO l)[k]?=some p:=F7;have hw:=(MW l l.length).mem (Ag hkp);obtain⟨c,hk⟩:∃c,l[p.2-1]?=some c:=F7;have hcs:=KH (ha c (Ag hk));have hsl:=IY (l:=l) hw.2.2.1;have hsb:=Qf (l:=HT l p) (λc hc=>ha c (OQ hc));have hfd:=Xok (Jn l) (GO l) k;have hfs:=Xqn l k;have h6:((((GO l).drop k).flatMap (Jn l))++(F4 l.length++FA (Jg (HN l))))=(FA c.key++(F4 c.seq.toNat++(FA (H0 (HT l p))++(((GO l).drop (k+1)).flatMap (Jn l)++(F4 l.length++FA (Jg (HN l))))))):=by rw[Ja hkp,AA];unfold Jn;rw[cAt_at hk];simp only [A6]
  have yj:=congrArg A9 h6;simp only [Ad]at yj;refine go ?_;rw[h6]at hR;refine cD (Qi br bb vc _ false _ hR (by simp only [Ad];omega)) (.inl rfl) λu5 w5 x5 x4=>?_;have hsz5:=z.size;have ho:=ho.mod x5 (λk9 Z e=>ho.ne_blk hR.m rfl (by rw[Z];exact congrArg some e));have hS:=hS.mod x5 trivial;have z:=z.own x5 F5;obtain⟨_,xw,hR⟩:=x4;rw[Qu _ _ _ Fe]at hR;dsimp only at hR;refine Gz (Qm br bb xw _ false _ hR (by simp only [Ad];omega)) λu6 w6 x6 xe=>?_;have hsz6:=z.size;have ho:=ho.mod x6 (λk9 Z e=>ho.ne_blk hR.m rfl (by rw[Z];exact congrArg some e));have hS:=hS.mod x6 trivial;have z:=z.own x6 F5;obtain⟨rfl,xh,hR⟩:=xe;rw[Od _ _ Fe]at hR;dsimp only at hR;refine Gz (Qi br bb xh _ false _ hR (by simp only [Ad];omega)) λuB w7 x7 yg=>?_;have hsz7:=z.size;have ho:=ho.mod x7 (λk9 Z e=>ho.ne_blk hR.m rfl (by rw[Z];exact congrArg some e));have hS:=hS.mod x7 trivial;have z:=z.own x7 F5;obtain⟨hB,hz,hR⟩:=yg;rw[Qu _ _ _ Fe]at hB hR;dsimp only at hB hR;refine cG (X2d (HT l p) uB _ (hB.arr Fg) Fe (S6 hE p)) RX.all λu8 w8 x8 xv=>?_;have hsz8:=z.size;refine FQ x8 ho hS hR z λho hS hR z=>?_;obtain⟨vC,rfl,hC⟩:=xv;refine Gs (WL br bb hz _ false _ hR) λw9 x9=>Ga x9 ho hS hR hC z λho hS hR hC z=>?_;refine go ?_;refine IR 41 rfl (λc3=>?_) (λc3=>?_)
  ·simp at c3
  refine Fk (λc4=>?_) λc4=>?_
  ·exact absurd rfl c4
  refine go ?_;refine Ht ho (hC.arr Fg) (λxx w10 xb ht=>?_) (hB:=hS.le);have hS:=hS.mod ht Fw;have hR:=hR.mod ht (by intro k9 Z e9;have h8:=hh k9 (LI (λ_=>xa) Z);have h7:=(ho.lt k9 e9).1;omega);have z:=z.own ht (λi hi=>(Ae xl (ho.lt i hi).1));have ho:=xb;refine go ?_;refine FL (k+1,hz,xx) ⟨z,by omega,hR,?_,hS⟩;rw[GW hkp,Bc,AA,Ck,AI];exact ho
 have ym:k=(GO l).length:=by omega
 rw[ym,AT,Xxv]at ho;have O:=ho;refine Gj (Yc l vl _ (O.arr Fg) Fe) λu11 w11 xf xc=>?_;have hsz11:=z.size;refine FC xf hR O z λhR O z=>?_;obtain⟨yi,rfl,xo⟩:=xc;have ye:=(xo hb).1;refine FJ 56 (λc5=>?_) λc5=>?_
 ·exact absurd hb c5
 refine Gs (SG (Fz (FT l)) (Fz (FT l)) yi v _ ye (hv.ext z)) λw12 xz=>FC xz hR O z λhR O z=>?_;refine Gb (λc6=>?_) λc6=>?_
 ·simp at c6
 refine go ?_;refine Qd UK rfl RX.all (λb1 w13 e1 xu J=>?_);have g1:=z.ge e1;have a1_hR:=hR.lt;have o1_hL:=O.ltb e1;refine FC xu hR O z λhR O z=>Gj (W5 l vl _ (O.arr Fg) Fe) λvK w14 ya hK=>?_;have hsz14:=z.size;refine FQ ya hR O J z λhR O J z=>cG (X0 (HN l) vK _ (hK.arr Fg) (by have:=M1 l l.length;unfold HN;omega) (λs9 Z=>by obtain⟨c9,xq,rfl⟩:=WJ (Aa _) Z;have:=KH (ha c9 xq);omega)) RX.all λvM w15 xg yc=>?_;have hq:=z.size;refine FQ xg hR O J z λhR O J z=>?_;have Y:=yc.mono hq;refine dp (Mh (zs:=[.slice none 0 0,.map none,.slice none 0 0]) (pl:=[(0,1),(1,1),(2,1)]) (pv:=[(0,?a40_0),(1,?a40_1),(2,?a40_2)]) (cs:=[?a40_0,?a40_1,?a40_2]) Ff Ff ?h40 ?f40) ?k40
 case h40=>refine⟨rfl,?_,rfl,?_,rfl,?_,trivial⟩<;>(conv=>lhs;whnf)
 case f40=>rcases O.sl with⟨e,_⟩|⟨_,_,_,e,_⟩|⟨_,_,_,e⟩<;>rcases Y.sl with⟨e2,_⟩|⟨_,_,_,e2,_⟩|⟨_,_,_,e2⟩<;>rw[e,e2]<;>rfl
 refine G1 rfl rfl rfl RX.all (λb2 w16 e2 yf m2=>?_);have g2:=z.ge e2;have n2_mp1:=J.lt;have a2_hR:=hR.lt;have o2_hL:=O.ltb e2;have o2_hM:=Y.ltb e2;refine Ga yf hR O J Y z λhR O J Y z=>Gj (UN l vl _ (O.arr Fg) Fe hy yh) λvP w17 yn xr=>?_;have hp:=z.size;refine HB yn hR O J Y m2 z λhR O J Y m2 z=>?_;have hP:=xr.mono hp;refine dv 284 2 (hP.arr Fg).sl (F8 (G:=Nat×(Int×Int->Option Bool)) (λ(k,fm)=>[(11,Fh b2 0),(70,vP),(71,I ↑(GO l).length),(72,I ↑k)]) (λ(k,fm) w'=>Fq w w'/\Vc.Own Cell.cs 4 79 w2.heap.size w' vl l/\Vc.Own Fs 1 5 w.heap.size w' vM (Jg (HN l))/\Fp w' b2 [vl,.map (some b1),vM] 185/\Vc.Own Ld 2 284 w.heap.size w' vP (GO l)/\k<=(GO l).length/\Vc.Xbd Tryz.prog 284 GM B w' b1 k fm) (λ(k,fm)=>(GO l).length-k) (0,λ_=>none) ⟨z,O,Y,m2,hP,Ab _,J⟩ ?_);rintro _ ⟨k,fm⟩ w18 ⟨z,O,Y,m2,hP,hk9,J⟩;refine Fk (λc7=>?_) λc7=>?_
 ·obtain⟨p,hkp⟩:∃p,(GO l)[k]?=some p:=F7;have hw:=(MW l l.length).mem (Ag hkp);refine go ?_;refine di 284 2 (hP.arr Fg).sl rfl ((hP.arr Fg).lt hkp) (dq (Fx Ff rfl rfl ((hP.arr Fg).row hkp)) (aL [.int .i64 0,.int .i64 0] λb3 w19 e3 yb m3=>?_));have g3:=z.ge e3;have n3_2:=m2.ltb e3;have n3_mp1:=J.lt;have o3_hL:=O.ltb e3;have o3_hM:=Y.ltb e3;have o3_hP:=hP.ltb e3;refine HB yb O Y m2 hP J z λO Y m2 hP J z=>Gg m3 (λw20 hf xs20 m3=>?_);have O:=O.mod hf Fw;have Y:=Y.mod hf Fw;have m2:=m2.mo hf;have hP:=hP.mod hf Fw;have J:=J.mod hf Fw;have z:=z.o1 hf;refine Gt 1511000 λw21 yd=>Lv yd O Y m2 hP J m3 z λO Y m2 hP J m3 z=>?_;refine go ?_;refine Gh rfl (λw' hR=>Fx (k:=2) Ff rfl rfl (m3.ext hR).row) ?_;refine OS UK (kx:=((p.1:Int),(p.2:Int))) (a:=true) rfl rfl rfl rfl J (by unfold Km Ge;constructor<;>simp<;>omega) (by unfold maxLen;omega) (.inl rfl) (λw22 hg xs22 hr=>?_);have O:=O.mod hg (by exact(λk hk e=>J.ne_own O (hk.trans (congrArg some e))));have Y:=Y.mod hg (by exact(λk hk e=>J.ne_own Y (hk.trans (congrArg some e))));have m2:=m2.mod hg Fw;have hP:=hP.mod hg (by exact(λk hk e=>J.ne_own hP (hk.trans (congrArg some e))));have z:=z.own hg F5;have J:=hr;refine go ?_;exact⟨(k+1,_),Hn,⟨z,O,Y,m2,hP,by omega,J⟩,by simp only [];omega⟩
 refine go ?_;have yl:l≠[]:=λe=>by rw[e]at xd;simp at xd
 have xm:Jg (HN l)≠[]:=λe=>by have Z:=MI (HN l);rw[e]at Z;unfold I9 at Z;simp at Z;omega
 exact⟨_,rfl,z,b2,vl,vM,rfl,⟨⟨_,m2⟩,O.arr Fg,Y.arr Fg,hb⟩,λk9 Z=>by
  rcases Z with Z|Z|Z
  ·omega
  ·have:=(O.base_ge yl).1;omega
  ·have:=(Y.base_ge xm).1;omega⟩
variable {frm:Fj}
def Nd {k:Nat}{c:Cell}{to:Fj}(h:l[k]?=some c):scan (l.take (k+1)) frm to=if KJ frm to c=true then scan (l.take k) frm to++[c]else scan (l.take k) frm to:=by
 obtain⟨hk,rfl⟩:=Ar.1 h;rw[List.take_succ_eq_append_getElem hk];unfold scan;rw[Bs]
 by_cases hi:KJ frm to l[k]=true
 ·rw[if_pos hi];simp [hi]
 ·rw[if_neg hi];simp [hi]
def XX (l:List Cell)(k:Nat)(frm to:Fj):(scan (l.take k) frm to).length<=l.length:=by
 have h1:=Bk (KJ frm to) (l.take k);have h2:(l.take k).length<=l.length:=List.length_take_le' ..;exact Ae h1 h2
def Yj {c:Cell}{to:Fj}(h:(!Op.bytesLess c.key frm)=true)(e:to=[]):KJ frm to c=true:=by simp [KJ,F6,h,e]
def UX {c:Cell}{to:Fj}(h:(!Op.bytesLess c.key frm)=true)(e:Op.bytesLess c.key to=true):KJ frm to c=true:=by simp [KJ,F6,h,e]
def Xe {c:Cell}{to:Fj}(h:(!Op.bytesLess c.key frm)=false):¬ KJ frm to c=true:=by simp [KJ,F6,h]
def Xw {c:Cell}{to:Fj}(e:¬ to=[])(h:Op.bytesLess c.key to=false):¬ KJ frm to c=true:=by simp [KJ,F6,h,e]
def weight (l:List Cell):Nat:=(l.map λc=>c.key.length+c.val.length).sum
def light (l:List Cell):Prop:=l.length<=201/\weight l<=6000
def Xxx (l:List Cell)(v:Value)(frm to:Fj)(w:World)(hv:Fu Cell.cs 4 w v l)(hl:l.length<=1000000000) :
  Gi 138 [v,S frm,S to] w λv' w'=>Vc.Own Cell.cs 4 79 w.heap.size w' v' (scan l frm to):=by
 refine cE Tryz.func138 λz=>F8 (G:=Nat×Value) (λ(k,vm)=>[(0,v),(1,S frm),(2,S to),(6,.slice none 0 0),(7,vm),(8,I ↑k)]) (λ(k,vm) w'=>Fq w w'/\k<=l.length/\Vc.Own Cell.cs 4 79 w.heap.size w' vm (scan (l.take k) frm to)) (λ(k,vm)=>l.length-k) (0,.slice none 0 0) ⟨z,Ab _,Vc.Own.nil⟩ ?_;rintro _ ⟨k,vm⟩ w1 ⟨z,hk1,ho⟩;have hlen:=XX l k frm to;refine FM 79 4 hv.sl ?_;refine Fk (λc1=>?_) λc1=>?_
 ·obtain⟨c,hk⟩:∃c,l[k]?=some c:=F7;refine FN 79 4 hv.sl (hv.lt hk) ?_;refine go ?_;refine dl rfl (((hv.ext z).row hk).at rfl) (go ?_);refine dp (O5 rfl rfl) (go ?_);refine IR 22 rfl (λc2=>?_) (λc2=>?_)
  ·refine go ?_;refine dp (KI rfl rfl) ?_;refine FJ 25 (λc3=>?_) λc3=>?_
   ·refine go ?_;refine GU rfl (FN 79 4 hv.sl (hv.lt hk) ?_);refine dq (Fx Ff rfl rfl ((hv.ext z).row hk)) (lA 79 rfl λb1 w2 e1 x2 Y=>?_);have g1:=z.ge e1;have o1_ho:=ho.ltb e1;refine Fy x2 ho z λho z=>G8 c ho Y λO w3 J x3=>?_;have z:=z.own x3 F5;have ho:=J;clear Y;refine go ?_;refine⟨(k+1,_),HW,⟨z,by omega,?_⟩,by simp only [];omega⟩;rw[Nd hk];rw[if_pos (Yj ‹_› ‹_›)];exact ho
   refine FN 79 4 hv.sl (hv.lt hk) ?_;refine go ?_;refine dl rfl (((hv.ext z).row hk).at rfl) (go ?_);refine dp (MB rfl rfl) ?_;refine Gb (λc4=>?_) λc4=>?_
   ·refine FN 79 4 hv.sl (hv.lt hk) ?_;refine dq (Fx Ff rfl rfl ((hv.ext z).row hk)) (lA 79 rfl λb2 w4 e2 x4 Z=>?_);have g2:=z.ge e2;have o2_ho:=ho.ltb e2;refine Fy x4 ho z λho z=>G8 c ho Z λO w5 J x5=>?_;have z:=z.own x5 F5;have ho:=J;clear Z;refine go ?_;refine⟨(k+1,_),HW,⟨z,by omega,?_⟩,by simp only [];omega⟩;rw[Nd hk];rw[if_pos (UX ‹_› ‹_›)];exact ho
   refine go ?_;refine⟨(k+1,_),HW,⟨z,by omega,?_⟩,by simp only [];omega⟩;rw[Nd hk];rw[if_neg (Xw ‹_› ‹_›)];exact ho
  refine go ?_;refine GS rfl (go ?_);refine⟨(k+1,_),HW,⟨z,by omega,?_⟩,by simp only [];omega⟩;rw[Nd hk];rw[if_neg (Xe ‹_›)];exact ho
 refine go ?_;exact⟨_,rfl,z,by rw[Av Fe]at ho;exact ho⟩
variable {i:Nat}
def UC (h:KR l=true){j:Nat}(hij:i<j)(hj:j<l.length):less (GH l i) (GH l j)=true:=by
 induction j with
 | zero=>omega
 | succ j ih=>
  have e1:l[j]?=some l[j]:=Aq Fe;have e2:l[j+1]?=some l[j+1]:=Aq hj;have h1:=Vm h e1 e2;rw[<-cAt_at e1,<-cAt_at e2]at h1
  by_cases e:i=j
  ·rw[e];exact h1
  ·exact O2 (ih Fe Fe) h1
variable {key:Fj}{seq:Int}
def first_none (h:∀c∈l,¬ (c.key=key/\c.seq<=seq)):first l key seq=none:=by
 unfold first
 rw[List.find?_eq_none];intro c z;have:=h c z;simp only [Aw,decide_eq_true_eq];exact this
def first_at {c:Cell}(hc:l[i]?=some c)(h1:c.key=key)(h2:c.seq<=seq)(h:∀j,j<i->¬ ((GH l j).key=key/\(GH l j).seq<=seq)):first l key seq=some c:=by
 obtain⟨hi,rfl⟩:=Ar.1 hc;unfold first
 rw[List.find?_eq_some_iff_getElem];refine⟨by simp [h1,h2],i,hi,rfl,λj J=>?_⟩;have e:l[j]?=some l[j]:=Aq Fe;have:=h j J;rw[cAt_at e]at this;simp only [BW,Bool.and_eq_false_iff,decide_eq_false_iff_not]
 by_cases e2:l[j].key=key
 ·exact .inr (λz=>this ⟨e2,z⟩)
 ·exact .inl e2
def YT {a:Cell}(h:less a ⟨key,[],false,seq⟩=true):¬ (a.key=key/\a.seq<=seq):=by
 rw[JG]at h;rintro ⟨e,h2⟩;rcases h with h|⟨_,h⟩
 ·rw[e,IN]at h;cases h
 ·simp only at h;omega
def YR (hr:KR l=true)(h1:∀j,j<i->less (GH l j) ⟨key,[],false,seq⟩=true)(h2:i<l.length->less (GH l i) ⟨key,[],false,seq⟩=false)(h3:i=l.length\/(i<l.length/\(GH l i).key≠key)):first l key seq=none:=by
 refine first_none λc Y=>?_;obtain⟨j,O⟩:=Ci.1 Y;have J:=(Ar.1 O).1;rw[<-cAt_at O]
 by_cases e:j<i
 ·exact YT (h1 j e)
 ·rcases h3 with h3|⟨h3,h4⟩
  ·omega
  ·rintro ⟨e2,e3⟩;have hk:=h2 h3;have hgt:F6 key (GH l i).key=true:=by
    rcases KC key (GH l i).key with h|h|h
    ·exact absurd h.symm h4
    ·exact h
    ·have:less (GH l i) ⟨key,[],false,seq⟩=true:=(JG _ _).2 (.inl h);rw[this]at hk;cases hk
   by_cases e4:j=i
   ·rw[e4]at e2;exact h4 e2
   ·have z:=UC hr (show i<j by omega) J;rw[JG]at z;rcases z with z|⟨z,_⟩
    ·rw[e2]at z;rw[KM hgt]at z;cases z
    ·rw[e2]at z;exact h4 z
def X7s {c:Cell}(hc:l[i]?=some c)(h1:∀j,j<i->less (GH l j) ⟨key,[],false,seq⟩=true)(h2:less c ⟨key,[],false,seq⟩=false)(h3:c.key=key):first l key seq=some c:=by
 refine first_at hc h3 ?_ λj z=>YT (h1 j z);have n:¬ less c ⟨key,[],false,seq⟩=true:=by rw[h2];decide
 rw[JG,not_or]at n;have n2:=n.2;simp only [h3,true_and]at n2;omega
def X2g (h:K9 (Jg (HN l)) key=false):first l key seq=none:=by
 refine first_none λc z e=>?_;have:=X1w (Xxm z);rw[e.1,h]at this
 cases this
def X7t {P:Program}{E:FF}{dd:Option Tmp}{ty:TypeId}{pos:String}{af:Array Edge}{g:Option (Nat×Bool)}{x y:Operand}{T U:TypeId}{u:Nat}{ky:IntKind}(hx:ev E x=.int .u64 u)(hy:ev E y=.int ky 1):PV P ⟨dd,.binOp .shr T x y U,ty,pos,af,g⟩ E (.int .u64 (u / 2:Nat)):=by
 have:=NV (P:=P) (dd:=dd) (ty:=ty) (pos:=pos) (af:=af) (g:=g) (T:=T) (U:=U) hx hy Fo;rwa [show((u:Int)).fdiv (2 ^ min (1:Int).toNat IntKind.u64.bits)=((u / 2:Nat):Int) by
  rw[show(2:Int) ^ min (1:Int).toNat IntKind.u64.bits=2 by decide,Int.fdiv_eq_ediv_of_nonneg _ Fe];omega]at this
def X2h (n f:Nat)(cs:List Value)(p:Nat->Bool)(w:World)(hn:n<=1000000)(hcb:Hr Tryz.prog f=true)(hc:∀w2,Fq w w2->∀i,i<n->Calls Tryz.prog f ([I ↑i]++cs).toArray w2 (Pure w2 (B (p i))))(hmo:∀i j,i<=j->j<n->p i=true->p j=true) :
  Gi 256 [I ↑n,J2 f cs] w λu _=>∃i:Nat,u=I ↑i/\i<=n/\(∀j,j<i->p j=false)/\(i<n->p i=true):=by
 refine cE Tryz.func256 λz=>F8 (G:=Nat×Nat) (λ(lo,hi)=>[(1,J2 f cs),(4,I 0),(5,I ↑lo),(6,I ↑hi)]) (λ(lo,hi) w'=>Fq w w'/\lo<=hi/\hi<=n/\(∀j,j<lo->p j=false)/\(hi<n->p hi=true)) (λ(lo,hi)=>hi-lo) (0,n) ⟨z,Ab _,Aa _,(λj h=>by omega),(λh=>by omega)⟩ ?_;rintro _ ⟨lo,hi⟩ w1 ⟨z,h1,h2,h3,h4⟩;refine Fk (λO=>?_) λO=>?_
 ·refine go ?_;refine F3 (v:=.int .u64 ↑(lo+hi)) rfl (Lq (n:=lo+hi) (k:=.i64) Fe rfl Ff Ff) rfl (dp (X7t (u:=lo+hi) rfl rfl) (dp (Me (n:=(lo+hi) / 2) Fe rfl Ff Ff) (go ?_)));refine Q6 (vs:=[I ↑((lo+hi) / 2)]) (cs:=cs) rfl rfl hcb (hc _ z ((lo+hi) / 2) Fe) rfl RX.all (λw2 Z=>?_);have z:=z.trans Z;refine Gb (λJ=>?_) λJ=>?_
  ·refine go ?_;refine FL ((lo+hi) / 2+1,hi) ⟨z,by omega,h2,λj hj=>?_,h4⟩
   cases e:p j with
   | false=>rfl
   | true=>have Y:=hmo j ((lo+hi) / 2) Fe Fe e;rw[Y]at J;simp at J
  refine go ?_;refine FL (lo,(lo+hi) / 2) ⟨z,by omega,by omega,h3,λ_=>by simpa using J⟩
 refine go ?_;exact⟨_,rfl,z,lo,rfl,by omega,h3,λh=>by rw[show lo=hi by omega];exact h4 Fe⟩
def Ydc (bt:Nat)(vl vb:Value)(l:List Cell)(key:Fj)(seq:Int)(i b3 b4 b5:Nat)(w:World)(hT:TblE bt vl vb l w)(h3:Fp w b3 [Fh bt 0] 102)(h4:Fp w b4 [S key] 9)(h5:Fp w b5 [I seq] 3)(hi:i<l.length) :
  FX 257 [I ↑i,Fh b3 0,Fh b4 0,Fh b5 0] w (B (!less (GH l i) ⟨key,[],false,seq⟩)):=by
 refine cE Tryz.func257 λz=>?_;obtain⟨⟨vp,hm⟩,O,hb,J⟩:=hT;obtain⟨hl1,hl2,hE,hen⟩:=NM J;obtain⟨hAll,hRis⟩:=Mk.1 hE;obtain⟨c,hk⟩:∃c,l[i]?=some c:=⟨_,Aq hi⟩;refine Gt 10020111001001 λw1 Y=>?_;have z:=z.trans Y;refine dL rfl (λ_ hR=>((h3.ext (z.trans hR)).at rfl)) (go ?_);refine dL rfl (λ_ hR=>((hm.ext (z.trans hR)).at rfl)) (go ?_);refine di 79 4 (O.ext z).sl rfl ((O.ext z).lt hk) (Gh rfl (λw' hR=>Fx Ff rfl rfl (((O.ext z).ext hR).row hk)) (dL rfl (λ_ hR=>((h4.ext (z.trans hR)).at rfl)) (dL rfl (λ_ hR=>((h5.ext (z.trans hR)).at rfl)) (db (zs:=[S [],S [],B false,.int .i64 0]) (pl:=[(0,1),(1,1),(2,1),(3,1)]) (pv:=[(0,_),(3,_)]) (cs:=[_,S [],B false,_]) ?_))));refine cP (Oj c ⟨key,[],false,seq⟩ _) RX.ext λw2 Z=>?_;have z:=z.trans Z;refine go ?_;rw[cAt_at hk];exact⟨rfl,z⟩
def Ydd (bt:Nat)(vl vb:Value)(l:List Cell)(key:Fj)(seq:Int)(w:World)(hT:TblE bt vl vb l w) :
  Gi 186 [Fh bt 0,S key,I seq] w λu _=>∃i:Nat,u=I ↑i/\i<=l.length/\(∀j,j<i->less (GH l j) ⟨key,[],false,seq⟩=true)/\(i<l.length->less (GH l i) ⟨key,[],false,seq⟩=false):=by
 refine cE Tryz.func186 λz=>?_;have hl:=hT;obtain⟨⟨vp,hm⟩,ha,hb,hh⟩:=hT;obtain⟨hl1,hl2,hE,hen⟩:=NM hh;obtain⟨hAll,Y⟩:=Mk.1 hE;refine go ?_;refine G1 rfl rfl rfl RX.all (λb1 w1 e1 x1 J=>?_);have g1:=z.ge e1;have z:=z.trans x1;refine G1 rfl rfl rfl RX.all (λb2 w2 e2 O Z=>?_);have g2:=z.ge e2;have n2_1:=J.ltb e2;refine Fy O J z λJ z=>G1 rfl rfl rfl RX.all (λb3 w3 e3 x3 m3=>?_);have g3:=z.ge e3;have n3_1:=J.ltb e3;have n3_2:=Z.ltb e3;refine FC x3 J Z z λJ Z z=>go ?_;refine dl rfl ((hm.ext z).at rfl) (dv 79 4 (ha.ext z).sl (dp (Pm rfl) ?_));refine UI rfl Ff (X2h l.length 257 [Fh b1 0,Fh b2 0,Fh b3 0] (λi=>!less (GH l i) ⟨key,[],false,seq⟩) _ Fe Ff (λw2 O i hi=>Ydc bt vl vb l key seq i _ _ _ w2 (hl.ext (z.trans O)) (J.ext O) (Z.ext O) (m3.ext O) hi) (λi j hij hj h=>by
  cases e:less (GH l j) ⟨key,[],false,seq⟩with
  | false=>rfl
  | true=>
   by_cases e2:i=j
   ·rw[e2,e]at h;simp at h
   ·rw[O2 (UC Y (show i<j by omega) hj) e]at h;simp at h)) rfl RX.all (λu4 w4 x4 hc=>?_)
 have hsz4:=z.size;have z:=z.trans x4;obtain⟨i,rfl,hp,hg,hf⟩:=hc;refine go ?_;exact⟨_,rfl,z,i,rfl,hp,λj hj=>by simpa using hg j hj,λh=>by simpa using hf h⟩
def Vj (bt:Nat)(vl vb:Value)(l:List Cell)(key:Fj)(seq:Int)(w:World)(hT:TblE bt vl vb l w)(hkl:key.length<=1000000000) :
  FX 114 [Fh bt 0,S key,I seq] w (.tuple #[((first l key seq).getD Cell.zero).v,B (first l key seq).isSome]):=by
 refine cE Tryz.func114 λz=>?_;have hl:=hT;obtain⟨⟨vp,hm⟩,Z,hb,hj⟩:=hT;obtain⟨hl1,hl2,hE,hen⟩:=NM hj;obtain⟨hAll,O⟩:=Mk.1 hE;refine go ?_;refine aL [S [],S [],B false,.int .i64 0] λb1 w1 e1 x1 J=>?_;have g1:=z.ge e1;have z:=z.trans x1;refine go ?_;refine dp (GY Ff rfl rfl) ?_;refine FJ 11 (λc1=>?_) λc1=>?_
 ·exact absurd c1 F0
 refine go ?_;refine dl rfl ((hm.ext z).at rfl) (Gs (X99 (Jg (HN l)) vb key _ (hb.ext z) (by rw[MI];have:=M1 l l.length;unfold I9 HN;omega) hkl) λw2 x2=>Fy x2 J z λJ z=>?_);refine Gb (λc2=>?_) λc2=>?_
 ·refine go ?_;refine db (zs:=[S [],S [],B false,.int .i64 0]) (pl:=[(0,1),(1,1),(2,1),(3,1)]) (pv:=[]) (cs:=[S [],S [],B false,.int .i64 0]) ?_;refine Gg J (λw3 x3 xs3 J=>?_);have z:=z.o1 x3;refine go ?_;refine I5 (u:=?v11) rfl rfl rfl rfl Ff rfl J.row ?h11 ?k11
  case h11=>conv=>lhs;whnf
  rw[X2g (by simpa using c2)];exact⟨rfl,z⟩
 refine Gj (Ydd bt vl vb l key seq _ (hl.ext z)) λu4 w4 x4 hh=>?_;have hsz4:=z.size;refine Fy x4 J z λJ z=>?_;obtain⟨i,rfl,hi1,hc,Y⟩:=hh;refine go ?_;refine dl rfl ((hm.ext z).at rfl) (dv 79 4 (Z.ext z).sl ?_);refine FJ 32 (λc3=>?_) λc3=>?_
 ·refine go ?_;refine GU rfl (go ?_);refine db (zs:=[S [],S [],B false,.int .i64 0]) (pl:=[(0,1),(1,1),(2,1),(3,1)]) (pv:=[]) (cs:=[S [],S [],B false,.int .i64 0]) ?_;refine Gg J (λw5 x5 xs5 J=>?_);have z:=z.o1 x5;refine go ?_;refine I5 (u:=?v23) rfl rfl rfl rfl Ff rfl J.row ?h23 ?k23
  case h23=>conv=>lhs;whnf
  rw[YR O hc Y (.inl Fe)];exact⟨rfl,z⟩
 have hf:i<l.length:=by omega
 obtain⟨c,hk⟩:∃c,l[i]?=some c:=⟨_,Aq hf⟩;have hg:=Y hf;rw[cAt_at hk]at hg;refine go ?_;refine dl rfl ((hm.ext z).at rfl) (go ?_);refine di 79 4 (Z.ext z).sl rfl ((Z.ext z).lt hk) (go ?_);refine dl rfl (((Z.ext z).row hk).at rfl) (go ?_);refine dp (Nk rfl rfl) ?_;refine Fk (λc4=>?_) λc4=>?_
 ·refine go ?_;refine db (zs:=[S [],S [],B false,.int .i64 0]) (pl:=[(0,1),(1,1),(2,1),(3,1)]) (pv:=[]) (cs:=[S [],S [],B false,.int .i64 0]) ?_;refine Gg J (λw6 x6 xs6 J=>?_);have z:=z.o1 x6;refine go ?_;refine I5 (u:=?v31) rfl rfl rfl rfl Ff rfl J.row ?h31 ?k31
  case h31=>conv=>lhs;whnf
  rw[YR O hc Y (.inr ⟨hf,by rw[cAt_at hk];exact c4⟩)];exact⟨rfl,z⟩
 refine go ?_;refine dl rfl ((hm.ext z).at rfl) (go ?_);refine di 79 4 (Z.ext z).sl rfl ((Z.ext z).lt hk) (dq (Fx Ff rfl rfl ((Z.ext z).row hk)) (Gg J (λw7 x7 xs7 J=>?_)));have z:=z.o1 x7;refine go ?_;refine I5 (u:=?v36) rfl rfl rfl rfl Ff rfl J.row ?h36 ?k36
 case h36=>conv=>lhs;whnf
 rw[X7s hk hc hg (AF c4)];exact⟨rfl,z⟩
def UB (bt:Nat)(vl vb:Value)(l:List Cell)(frm to:Fj)(w:World)(hT:TblE bt vl vb l w) :
  Gi 49 [Fh bt 0,S frm,S to] w λv' w'=>Vc.Own Cell.cs 4 79 w.heap.size w' v' (scan l frm to):=by
 refine cE Tryz.func49 λz=>?_;have hT0:=hT;obtain⟨⟨vp,hm⟩,Z,hb,hf⟩:=hT;obtain⟨hl1,hl2,hE,hen⟩:=NM hf;obtain⟨hAll,hRis⟩:=Mk.1 hE;refine go ?_;refine dp (GY Ff rfl rfl) ?_;refine Fk (λc1=>?_) λc1=>?_
 ·exact absurd c1 F0
 refine FM 79 4 (Z.ext z).sl ?_;refine F8 (G:=Nat×Value) (λ(k,vm)=>[(1,S frm),(2,S to),(6,.slice none 0 0),(7,vm),(15,vl),(16,I ↑l.length),(17,I ↑k)]) (λ(k,vm) w'=>Fq w w'/\k<=l.length/\Vc.Own Cell.cs 4 79 w.heap.size w' vm (scan (l.take k) frm to)) (λ(k,vm)=>l.length-k) (0,.slice none 0 0) ⟨z,Ab _,Vc.Own.nil⟩ ?_;rintro _ ⟨k,vm⟩ w1 ⟨z,hk1,ho⟩;refine Fk (λc2=>?_) λc2=>?_
 ·obtain⟨c,hk⟩:∃c,l[k]?=some c:=F7;have hlen:=XX l k frm to;refine go ?_;refine di 79 4 (Z.ext z).sl rfl ((Z.ext z).lt hk) (dq (Fx Ff rfl rfl ((Z.ext z).row hk)) (aL [S [],S [],B false,.int .i64 0] λb1 w2 e1 x2 O=>?_));have g1:=z.ge e1;have Y:=ho.ltb e1;refine Fy x2 ho z λho z=>Gg O (λw3 x3 xs3 O=>?_);have ho:=ho.mod x3 Fw;have z:=z.o1 x3;refine go ?_;refine dp (O5 rfl rfl) (go ?_);refine IR 25 rfl (λc3=>?_) (λc3=>?_)
  ·refine go ?_;refine dp (KI rfl rfl) ?_;refine FJ 28 (λc4=>?_) λc4=>?_
   ·refine go ?_;refine GU rfl (go ?_);refine dq (Fx (k:=4) Ff rfl rfl O.row) (lA 79 rfl λb2 w4 e2 x4 m2=>?_);have g2:=z.ge e2;have n2_1:=O.ltb e2;have o2_ho:=ho.ltb e2;refine FC x4 ho O z λho O z=>G8 c ho m2 λhc w5 J x5=>?_;have O:=O.mod x5 (by intro h;have h1:=Y _ h;omega);have z:=z.own x5 F5;have ho:=J;clear m2;refine go ?_;refine⟨(k+1,_),Ho,⟨z,by omega,?_⟩,by simp only [];omega⟩;rw[Nd hk];rw[if_pos (Yj ‹_› ‹_›)];exact ho
   refine go ?_;refine dp (MB rfl rfl) ?_;refine Gb (λc5=>?_) λc5=>?_
   ·refine go ?_;refine dq (Fx (k:=4) Ff rfl rfl O.row) (lA 79 rfl λb3 w6 e3 x6 m3=>?_);have g3:=z.ge e3;have o3_ho:=ho.ltb e3;refine Fy x6 ho z λho z=>G8 c ho m3 λhc w7 J x7=>?_;have z:=z.own x7 F5;have ho:=J;clear m3;refine go ?_;refine⟨(k+1,_),Ho,⟨z,by omega,?_⟩,by simp only [];omega⟩;rw[Nd hk];rw[if_pos (UX ‹_› ‹_›)];exact ho
   refine go ?_;refine⟨(k+1,_),Ho,⟨z,by omega,?_⟩,by simp only [];omega⟩;rw[Nd hk];rw[if_neg (Xw ‹_› ‹_›)];exact ho
  refine go ?_;refine GS rfl (go ?_);refine⟨(k+1,_),Ho,⟨z,by omega,?_⟩,by simp only [];omega⟩;rw[Nd hk];rw[if_neg (Xe ‹_›)];exact ho
 refine go ?_;exact⟨_,rfl,z,by rw[Av Fe]at ho;exact ho⟩
end Go.Proofs.YtiooodckiddpmaaGreatDoor
namespace Go.Sp
open Go.Vc (Fj I S B)
structure Rw where
 key:Fj
 val:Fj
 del:Bool
deriving DecidableEq
@[reducible] def Rw.cs (r:Rw):List Value:=[S r.key,S r.val,B r.del]
@[reducible] def Rw.v (r:Rw):Value:=.agg ⟨r.cs⟩
def Rw.cell (r:Rw)(seq:Int):Cell:=⟨r.key,r.val,r.del,seq⟩
def IX (l:List Rw):Nat:=(l.map λr=>r.key.length+r.val.length).sum
def I4 (l:List Rw):Int:=if l.length=0 then 1 else if(l.all λr=>Gl (r.cell 1))=true then(if 512<l.length\/32768<IX l then 5 else 0)else 1
variable {k:Nat}{l:List Rw}{r:Rw}
def TG (h:l[k]?=some r):IX (l.take (k+1))=IX (l.take k)+(r.key.length+r.val.length):=by
 unfold IX;rw[Bx,h,A3,Bt];simp
def Ya1 (l:List Rw)(k:Nat):IX (l.take k)<=IX l:=by
 have h:=congrArg IX (AV k l);unfold IX at *;rw[A3,Bt]at h;omega
def XM (h:l[k]?=some r):((l.take (k+1)).all λr=>Gl (r.cell 1))=(((l.take k).all λr=>Gl (r.cell 1)) && Gl (r.cell 1)):=by
 rw[Bx,h,CJ];simp
def VJ (h:l[k]?=some r)(hc:Gl (r.cell 1)=false):I4 l=1:=by
 unfold I4;split
 ·rfl
 ·rw[if_neg];intro h2;rw[AQ]at h2;have:=h2 r (Ag h);rw[hc]at this;cases this
def Yg (h:l.length=0):I4 l=1:=if_pos h
def Rh (h:l.length≠0)(h2:(l.all λr=>Gl (r.cell 1))=true)(h3:512<l.length\/32768<IX l):I4 l=5:=by unfold I4;rw[if_neg h,if_pos h2,if_pos h3]
def Xs (h:l.length≠0)(h2:(l.all λr=>Gl (r.cell 1))=true)(h3:¬ (512<l.length\/32768<IX l)):I4 l=0:=by unfold I4;rw[if_neg h,if_pos h2,if_neg h3]
def O7 (h:I4 l=0):1<=l.length/\l.length<=512/\IX l<=32768/\∀r∈l,Gl (r.cell 1)=true:=by
 unfold I4 at h;split at h
 ·simp at h
 ·split at h
  ·rename_i h1 h2;rw[AQ]at h2;split at h
   ·simp at h
   ·exact⟨by omega,by omega,by omega,h2⟩
  ·simp at h
def Hi (r:Rw):Fj:=FA r.key++(if r.del then F4 1 else F4 0++FA r.val)
def G2 (l:List Rw):Fj:=F4 l.length++l.flatMap Hi
def X2i (r:Rw):(Hi r).length<=30+(r.key.length+r.val.length):=by
 unfold Hi FA;have h1:=Gk r.key.length;have h2:=Gk 1;have h3:=Gk 0;have h4:=Gk r.val.length;split<;>simp only [Ad]<;>omega
def OD (l:List Rw):(l.flatMap Hi).length<=30*l.length+IX l:=by
 induction l with
 | nil=>simp
 | cons r t ih=>
  have:=X2i r;have e:IX (r :: t)=(r.key.length+r.val.length)+IX t:=by simp [IX]
  rw[AA,Ad,e,Az];omega
def Sa (l:List Rw)(k:Nat):((l.take k).flatMap Hi).length<=30*l.length+IX l:=by
 have h1:=OD (l.take k);have h2:=Ya1 l k;have h3:(l.take k).length<=l.length:=by rw[AE];omega
 omega
def Hw (out:List Cell)(c:Cell):List Cell:=if(out.any λx=>decide (x.key=c.key))=true then out else(out.takeWhile λx=>F6 x.key c.key)++c :: (out.dropWhile λx=>F6 x.key c.key)
def Gp (l:List Rw)(seq:Int):List Cell:=l.foldr (λr out=>Hw out (r.cell seq)) []
def J1 (l:List Cell):Prop:=l.Pairwise λa b=>F6 a.key b.key=true
variable {out:List Cell}
def X7u {c:Cell}(h:J1 out):J1 (Hw out c):=by
 unfold Hw;split
 ·exact h
 ·rename_i hn;have Z:∀x∈out,x.key≠c.key:=λx z e=>hn (BB.2 ⟨x,z,by simp [e]⟩);have O:(out.takeWhile λx=>F6 x.key c.key)++(out.dropWhile λx=>F6 x.key c.key)=out:=CD ..;have h':J1 ((out.takeWhile λx=>F6 x.key c.key)++(out.dropWhile λx=>F6 x.key c.key)):=by rw[O];exact h
  have hp:∀x∈(out.takeWhile λx=>F6 x.key c.key),F6 x.key c.key=true:=λx z=>(AQ.1 (List.all_takeWhile (p:=λx=>F6 x.key c.key) (l:=out)) x z);have h2:=Bw.1 h';have hs:∀x∈(out.dropWhile λx=>F6 x.key c.key),F6 c.key x.key=true:=by
   cases hsu:(out.dropWhile λx=>F6 x.key c.key)with
   | nil=>intro x z;cases z
   | cons s r=>
    have hc:F6 s.key c.key=false:=by
     have:=List.head?_dropWhile_not (λx=>F6 x.key c.key) out;rw[hsu]at this;simpa using this
    have Y:s∈out:=by rw[<-O,hsu];simp
    have J:F6 c.key s.key=true:=by
     rcases KC c.key s.key with h|h|h
     ·exact absurd h.symm (Z s Y)
     ·exact h
     ·rw[hc]at h;cases h
    intro x z;rcases Ah.1 z with rfl|z
    ·exact J
    ·have:=h2.2.1;rw[hsu]at this;exact Kg _ _ _ J (List.rel_of_pairwise_cons this z)
  refine Bw.2 ⟨h2.1,AN.2 ⟨hs,h2.2.1⟩,λa ha b hb=>?_⟩;rcases Ah.1 hb with rfl|hb
  ·exact hp a ha
  ·exact h2.2.2 a ha b hb
def Q7 (l:List Rw)(seq:Int):J1 (Gp l seq):=by
 induction l with
 | nil=>exact Bu
 | cons r t ih=>exact X7u ih
def Rc {c x:Cell}: x∈Hw out c↔x∈out\/(x=c/\∀y∈out,y.key≠c.key):=by
 unfold Hw;have z:(out.takeWhile λx=>F6 x.key c.key)++(out.dropWhile λx=>F6 x.key c.key)=out:=CD ..;split
 ·rename_i h;obtain⟨y,O,e⟩:=BB.1 h;exact⟨.inl,λh2=>h2.elim (λh=>h) λh3=>absurd (by simpa using e) (h3.2 y O)⟩
 ·rename_i hn;have J:∀x∈out,x.key≠c.key:=λx Y e=>hn (BB.2 ⟨x,Y,by simp [e]⟩);rw[Al,Ah]
  constructor
  ·rintro (h|h|h)
   ·exact .inl (by rw[<-z];exact List.mem_append_left _ h)
   ·exact .inr ⟨h,J⟩
   ·exact .inl (by rw[<-z];exact Bb _ h)
  ·rintro (h|⟨h,_⟩)
   ·rw[<-z]at h;rcases Al.1 h with h|h
    ·exact .inl h
    ·exact .inr (.inr h)
   ·exact .inr (.inl h)
def RP {seq:Int}{c:Cell}(h:c∈Gp l seq):∃r∈l,c=r.cell seq:=by
 induction l with
 | nil=>cases h
 | cons r t ih=>
  rcases Rc.1 h with h|⟨h,_⟩
  ·obtain⟨q,z,e⟩:=ih h;exact⟨q,Aj _ z,e⟩
  ·exact⟨r,Ai,h⟩
def Xuj {seq:Int}(h:r∈l):∃c∈Gp l seq,c.key=r.key:=by
 induction l with
 | nil=>cases h
 | cons q t ih=>
  by_cases e:∃c∈Gp t seq,c.key=r.key
  ·obtain⟨c,z,e⟩:=e;exact⟨c,Rc.2 (.inl z),e⟩
  ·rcases Ah.1 h with rfl|h
   ·exact⟨_,Rc.2 (.inr ⟨rfl,λy J e2=>e ⟨y,J,e2⟩⟩),rfl⟩
   ·exact absurd (ih h) e
def P4 (l:List Rw)(seq:Int):(Gp l seq).length<=l.length:=by
 induction l with
 | nil=>exact Aa _
 | cons r t ih=>
  show(Hw (Gp t seq) (r.cell seq)).length<=_;unfold Hw;split
  ·simp;omega
  ·have:=congrArg A9 (CD (p:=λx:Cell=>F6 x.key (r.cell seq).key) (l:=Gp t seq));simp only [Ad,Az]at *;omega
end Go.Sp
namespace Go.Proofs.YtiooodckiddpmaaGreatDoor
open Go.Vc Go.Sp
attribute [local irreducible] W XW Dw GC
def Pd {r:Rw}(h:Gl (r.cell 1)=true):r.key.length<=4096/\r.val.length<=16384/\1<=r.key.length/\(r.del=true->r.val=[]):=by
 have:=KH h;exact⟨this.1,this.2.1,this.2.2.1,this.2.2.2.2.2⟩
def Ri {l:List Rw}{k:Nat}{r:Rw}(h:l[k]?=some r):(l.take (k+1)).flatMap Hi=(l.take k).flatMap Hi++Hi r:=by
 rw[GW h,Bc];simp
def Ya2 {l:List Rw}{k:Nat}(h:∀r∈l,r.key.length+r.val.length<=1000000000000)(hk:k<=1000000):IX (l.take k)<=1000000000000*k:=by
 induction k with
 | zero=>simp [IX]
 | succ k ih=>
  have:=ih Fe
  cases e:l[k]? with
  | none=>rw[Bx,e];simp;omega
  | some r=>rw[TG e];have:=h r (Ag e);omega
def X7 (r:Rw)(seq:Int)(w:World) :
  FX 154 [r.v,I seq] w (r.cell seq).v:=by
 refine cE Tryz.func154 λz=>go ?_;refine G1 rfl rfl rfl RX.all (λb1 w1 e1 Z J=>?_);have g1:=z.ge e1;have z:=z.trans Z;refine aL [S [],S [],B false,.int .i64 0] λb2 w2 e2 x2 O=>?_;have g2:=z.ge e2;have n2_1:=J.ltb e2;refine Fy x2 J z λJ z=>go ?_;refine db (zs:=[S [],S [],B false,.int .i64 0]) (pl:=[(0,1),(1,1),(2,1),(3,1)]) (pv:=[(0,_),(1,_),(2,_),(3,_)]) (cs:=[_,_,_,_]) ?_;refine Gg O (λw3 Y xs3 O=>?_);have z:=z.o1 Y;refine go ?_;refine Ou (k:=4) rfl rfl rfl Ff rfl O.row ?_;exact⟨rfl,z⟩
def SA (r:Rw)(seq:Int)(w:World) :
  FX 37 [r.v,I seq] w (r.cell seq).v:=by
 refine cE Tryz.func37 λz=>go ?_;refine G1 rfl rfl rfl RX.all (λb1 w1 e1 Z J=>?_);have g1:=z.ge e1;have z:=z.trans Z;refine aL [S [],S [],B false,.int .i64 0] λb2 w2 e2 x2 O=>?_;have g2:=z.ge e2;have n2_1:=J.ltb e2;refine Fy x2 J z λJ z=>go ?_;refine db (zs:=[S [],S [],B false,.int .i64 0]) (pl:=[(0,1),(1,1),(2,1),(3,1)]) (pv:=[(0,_),(1,_),(2,_),(3,_)]) (cs:=[_,_,_,_]) ?_;refine Gg O (λw3 Y xs3 O=>?_);have z:=z.o1 Y;refine go ?_;refine Ou (k:=4) rfl rfl rfl Ff rfl O.row ?_;exact⟨rfl,z⟩
def X7v (l:List Rw)(v:Value)(w:World)(hv:Fu Rw.cs 3 w v l)(hl:l.length<=1000000) :
  FX 78 [v] w (I (I4 l)):=by
 refine cE Tryz.func78 λJ=>FM 48 3 (hv.ext J).sl ?_;refine Fk (λc1=>?_) λc1=>?_
 ·refine go ?_;refine⟨?_,J⟩;rw[Yg Fe]
 refine FM 48 3 (hv.ext J).sl ?_;refine F8 (G:=Nat×Nat) (λ(k,z)=>[(0,v),(3,I ↑z),(9,v),(10,I ↑l.length),(11,I ↑k)]) (λ(k,z) w'=>Fq w w'/\k<=l.length/\z<=32769/\z=min (IX (l.take k)) 32769/\((l.take k).all λr=>Gl (r.cell 1))=true) (λ(k,z)=>l.length-k) (0,0) ⟨J,Ab _,by omega,rfl,rfl⟩ ?_;rintro _ ⟨k,z⟩ w1 ⟨J,hk1,hz0,hz,hA⟩;refine Fk (λc2=>?_) λc2=>?_
 ·obtain⟨r,hk⟩:∃r,l[k]?=some r:=F7;refine go ?_;refine di 48 3 (hv.ext J).sl rfl ((hv.ext J).lt hk) (dq (Fx Ff rfl rfl ((hv.ext J).row hk)) (aL [S [],S [],B false] λb1 w2 e1 x2 O=>?_));have g1:=J.ge e1;have J:=J.trans x2;refine Gg O (λw3 x3 xs3 O=>?_);have J:=J.o1 x3;refine go ?_;refine dq (Fx (k:=3) Ff rfl rfl O.row) (cP (X7 r 1 _) RX.all λw4 x4=>Fy x4 O J λO J=>cP (Sw (r.cell 1) _) RX.all λw5 x5=>Fy x5 O J λO J=>?_);refine Gb (λZ=>?_) λZ=>?_
  ·refine go ?_;refine⟨?_,J⟩;rw[VJ hk (by simpa using Z)]
  have Y:Gl (r.cell 1)=true:=by simpa using Z
  have hrs:=Pd Y;refine go ?_;refine F3 (v:=I ↑(min (z+r.key.length+r.val.length) 32769)) rfl (XL rfl rfl) FY (go ?_);refine FL (k+1,min (z+r.key.length+r.val.length) 32769) ⟨J,by omega,Nat.min_le_right _ _,?_,?_⟩
  ·rw[TG hk,hz];omega
  ·rw[XM hk,hA,Y];rfl
 refine FM 48 3 (hv.ext J).sl ?_;refine FJ 33 (λc4=>?_) λc4=>?_
 ·refine go ?_;refine GU rfl (go ?_);rw[Av Fe]at hz hA;refine⟨?_,J⟩;rw[Rh Fe hA Fe]
 refine Fk (λc5=>?_) λc5=>?_
 ·refine go ?_;rw[Av Fe]at hz hA;refine⟨?_,J⟩;rw[Rh Fe hA Fe]
 refine go ?_;rw[Av Fe]at hz hA;refine⟨?_,J⟩;rw[Xs Fe hA Fe]
def X2j (l:List Rw)(v:Value)(w:World)(hv:Fu Rw.cs 3 w v l)(hl:l.length<=1000000) :
  Gi 39 [v] w λu w'=>∃vb,u=.tuple #[vb,I (I4 l)]/\Vc.Own Fs 1 5 w.heap.size w' vb (if I4 l=0 then G2 l else[]):=by
 refine cE Tryz.func39 λJ=>Gs (X7v l v _ (hv.ext J) hl) λw1 x1=>?_;have J:=J.trans x1;refine Fk (λc1=>?_) λc1=>?_
 ·refine go ?_;rw[if_neg c1];exact⟨_,rfl,J,_,rfl,Vc.Own.nil⟩
 have hE:I4 l=0:=AF c1;obtain⟨hl1,hl2,hz,xg⟩:=O7 hE;refine go ?_;refine aL [.slice none 0 0] λb1 w2 e1 x2 m1=>?_;have g1:=J.ge e1;have J:=J.trans x2;refine FM 48 3 (hv.ext J).sl ?_;refine li (e:=3) (sz:=1) (zs:=[.int .i64 0]) (pv:=[(0,_)]) (cs:=[_]) RX.all (λb2 w3 e2 x3 m2=>?_);have g2:=J.ge e2;have n2_1:=m1.ltb e2;refine Fy x3 m1 J λm1 J=>?_;have z:Wr w.heap.size b1 (.slice none 0 0) [] w3:=⟨m1,Vc.Own.nil⟩;refine cD (Lb w.heap.size b1 (.slice none 0 0) _ [↑l.length] (.slice (some ⟨b2,0,none⟩) 1 1) _ z (Ae (Aa 0:([]:Fj).length<=0) Fe) J.size (m2.arr (enc:=Vc.encI) (sz:=1) (l:=[↑l.length]) rfl Fg rfl F0) F0 (λk9 Y _ hj=>by have hh:b2=k9:=hj;subst hh;exact(Y.elim (λh=>by omega) (λh=>by cases h)))) (.inl rfl) λu4 w4 x4 xo=>?_;have hsz4:=J.size;have J:=J.own x4 (λi hi=>z.ge g1 hi);obtain⟨rfl,v1,z,hg⟩:=xo;rw[O3 Fe,AG]at z;have hln16:=trivial;refine FM 48 3 (hv.ext J).sl ?_;refine F8 (G:=Nat×Value) (λ(k,vc)=>[(0,v),(2,.slice none 0 0),(3,I 0),(5,Fh b1 0),(17,v),(18,I ↑l.length),(19,I ↑k)]) (λ(k,vc) w'=>Fq w w'/\k<=l.length/\Wr w.heap.size b1 vc (F4 l.length++(l.take k).flatMap Hi) w') (λ(k,vc)=>l.length-k) (0,v1) ⟨J,Ab _,by simpa using z⟩ ?_;rintro _ ⟨k,vc⟩ w5 ⟨J,hk1,z⟩;refine Fk (λc2=>?_) λc2=>?_
 ·obtain⟨r,hk⟩:∃r,l[k]?=some r:=F7;have hrs:=Pd (xg r (Ag hk));have xn:=Sa l k;have xp:=Gk l.length;have h5:(F4 l.length++(l.take k).flatMap Hi).length<=60000:=by rw[Ad];omega
  refine go ?_;refine di 48 3 (hv.ext J).sl rfl ((hv.ext J).lt hk) (dq (Fx Ff rfl rfl ((hv.ext J).row hk)) (aL [S [],S [],B false] λb3 w6 e3 x6 O=>?_));have g3:=J.ge e3;have hf:=z.lt;refine Fy x6 z J λz J=>Gg O (λw7 x7 xs7 O=>?_);have z:=z.mod x7 (λk9 Y h=>by have h2:k9=b3:=h;subst h2;exact A7 _ (AD (hf _ Y) e3.symm));have J:=J.o1 x7;refine gw ?_;refine Ka [.p,.l,.x,.x,.x] rfl (go ?_);refine KF (e:=5) rfl Ff Ff Ff rfl RX.all (λb4 xd w8 e4 x8 h6=>?_);have g4:=J.ge e4;have n4_3:=O.ltb e4;have hy:=z.lt;refine FC x8 z O J λz O J=>li (e:=82) (sz:=1) (zs:=[.slice none 0 0]) (pv:=[(0,_)]) (cs:=[_]) RX.all (λb5 w9 e5 x9 m5=>?_);have g5:=J.ge e5;have n5_3:=O.ltb e5;have hr:=z.lt;refine FQ x9 z O h6 J λz O h6 J=>?_;have ha:¬ HX b1 vc b3:=λY=>(A7 b3 (AD (hf _ Y) e3.symm));have Z:=O.lt;refine cD (Mn w.heap.size b1 vc _ [(.slice (some ⟨b4,0,none⟩) r.key.length xd,r.key)] (.slice (some ⟨b5,0,none⟩) 1 1) _ z (Ae h5 Fe) J.size (Lp m5) (λq h=>by rw[Af.1 h];exact h6) (λq h=>by rw[Af.1 h];exact(show r.key.length<=1000000 by omega)) F0 (λ_ Y=>(A7 b5 (AD (hr _ Y) e5.symm))) (λq h hl Y=>by rw[Af.1 h]at hl Y;exact(A7 b4 (AD (hy _ Y) e4.symm)))) (.inl rfl) λu10 w10 xi xf=>?_;have hsz10:=J.size;have O:=O.mod xi ha;have J:=J.own xi (λi hi=>z.ge g1 hi);obtain⟨rfl,v2,z,hg⟩:=xf;rw[K6]at z;have hc:=PX (p:=r.key) (M:=4096) h5 Fe;have ha:=Ra hg ha Z;refine Gb (λc3=>?_) λc3=>?_
  ·refine go ?_;refine li (e:=3) (sz:=1) (zs:=[.int .i64 0]) (pv:=[(0,_)]) (cs:=[_]) RX.all (λb6 w11 e6 xk m6=>?_);have g6:=J.ge e6;have n6_3:=O.ltb e6;have hq:=z.lt;refine FC xk O z J λO z J=>?_;have Z:=O.lt;refine cD (Lb w.heap.size b1 v2 _ [((1:Nat):Int)] (.slice (some ⟨b6,0,none⟩) 1 1) _ z (Ae hc Fe) J.size (m6.arr (enc:=Vc.encI) (sz:=1) (l:=[((1:Nat):Int)]) rfl Fg rfl F0) F0 (λk9 Y _ hj=>by have hh:b6=k9:=hj;subst hh;exact(A7 b6 (AD (hq _ Y) e6.symm)))) (.inl rfl) λu12 w12 xa xb=>?_;have hsz12:=J.size;have O:=O.mod xa ha;have J:=J.own xa (λi hi=>z.ge g1 hi);obtain⟨rfl,v3,z,hg⟩:=xb;rw[O3 Fe]at z;have hln31:=trivial;have ha:=Ra hg ha Z;refine go ?_;refine FL (k+1,v3) ⟨J,by omega,?_⟩;rw[Ri hk,show Hi r=FA r.key++(if r.del then F4 1 else F4 0++FA r.val) from rfl,c3];simpa only [A6,AI,if_true,if_false,Cq]using z
  refine go ?_;refine li (e:=3) (sz:=1) (zs:=[.int .i64 0]) (pv:=[(0,_)]) (cs:=[_]) RX.all (λb7 w13 e7 xr m7=>?_);have g7:=J.ge e7;have n7_3:=O.ltb e7;have ht:=z.lt;refine FC xr O z J λO z J=>?_;have Z:=O.lt;refine cD (Lb w.heap.size b1 v2 _ [((0:Nat):Int)] (.slice (some ⟨b7,0,none⟩) 1 1) _ z (Ae hc Fe) J.size (m7.arr (enc:=Vc.encI) (sz:=1) (l:=[((0:Nat):Int)]) rfl Fg rfl F0) F0 (λk9 Y _ hj=>by have hh:b7=k9:=hj;subst hh;exact(A7 b7 (AD (ht _ Y) e7.symm)))) (.inl rfl) λu14 w14 xc xe=>?_;have hsz14:=J.size;have O:=O.mod xc ha;have J:=J.own xc (λi hi=>z.ge g1 hi);obtain⟨rfl,v3,z,hg⟩:=xe;rw[O3 Fe]at z;have h8:=PQ (n:=0) hc;refine gw ?_;refine Ka [.p,.l,.x,.x,.x] rfl (go ?_);refine KF (e:=5) rfl Ff Ff Ff rfl RX.all (λb8 xh w15 e8 xl h7=>?_);have g8:=J.ge e8;have n8_3:=O.ltb e8;have hp:=z.lt;refine FC xl O z J λO z J=>li (e:=82) (sz:=1) (zs:=[.slice none 0 0]) (pv:=[(0,_)]) (cs:=[_]) RX.all (λb9 w16 e9 xm m9=>?_);have g9:=J.ge e9;have n9_3:=O.ltb e9;have hw:=z.lt;refine FQ xm O z h7 J λO z h7 J=>?_;have Z:=O.lt;refine cD (Mn w.heap.size b1 v3 _ [(.slice (some ⟨b8,0,none⟩) r.val.length xh,r.val)] (.slice (some ⟨b9,0,none⟩) 1 1) _ z (Ae h8 Fe) J.size (Lp m9) (λq h=>by rw[Af.1 h];exact h7) (λq h=>by rw[Af.1 h];exact(show r.val.length<=1000000 by omega)) F0 (λ_ Y=>(A7 b9 (AD (hw _ Y) e9.symm))) (λq h hl Y=>by rw[Af.1 h]at hl Y;exact(A7 b8 (AD (hp _ Y) e8.symm)))) (.inl rfl) λu17 w17 xt xj=>?_;have hsz17:=J.size;have J:=J.own xt (λi hi=>z.ge g1 hi);obtain⟨rfl,v4,z,hg⟩:=xj;rw[K6]at z;have hln38:=trivial;refine go ?_;refine FL (k+1,v4) ⟨J,by omega,?_⟩;rw[Ri hk,show Hi r=FA r.key++(if r.del then F4 1 else F4 0++FA r.val) from rfl,c3];simpa only [A6,AI,if_true,if_false,Cq]using z
 have xn:=Sa l k;have xp:=Gk l.length;have hln1:(F4 l.length++(l.take k).flatMap Hi).length<=60000:=by rw[Ad];omega
 refine Gj (OA w.heap.size b1 vc _ _ z Fe) λvo w18 xq hB=>?_;have hsz18:=J.size;have J:=J.trans xq;refine go ?_;rw[show k=l.length by omega,AT]at hB;rw[if_pos hE,hE];exact⟨_,rfl,J,_,rfl,hB.mono Fe⟩
def X2k (l:List Rw)(v:Value)(w:World)(hv:Fu Rw.cs 3 w v l)(hl:l.length<=1000000)(hks:∀r∈l,r.key.length+r.val.length<=1000000000000) :
  FX 13 [v] w (I (I4 l)):=by
 refine cE Tryz.func13 λz=>FM 48 3 (hv.ext z).sl ?_;refine Fk (λc1=>?_) λc1=>?_
 ·refine go ?_;refine⟨?_,z⟩;rw[Yg Fe]
 refine F8 (G:=Nat) (λk=>[(0,v),(3,I ↑k)]) (λk w'=>Fq w w'/\k<=l.length/\((l.take k).all λr=>Gl (r.cell 1))=true) (λk=>l.length-k) 0 ⟨z,Ab _,rfl⟩ ?_;rintro _ k w1 ⟨z,hk1,hA⟩;refine FM 48 3 (hv.ext z).sl ?_;refine Fk (λc2=>?_) λc2=>?_
 ·obtain⟨r,hk⟩:∃r,l[k]?=some r:=F7;refine go ?_;refine di 48 3 (hv.ext z).sl rfl ((hv.ext z).lt hk) (dq (Fx Ff rfl rfl ((hv.ext z).row hk)) (cP (SA r 1 _) RX.all λw2 x2=>?_));have z:=z.trans x2;refine cP (RH (r.cell 1) _) RX.all λw3 Z=>?_;have z:=z.trans Z;refine Gb (λO=>?_) λO=>?_
  ·refine go ?_;refine⟨?_,z⟩;rw[VJ hk (by simpa using O)]
  have J:Gl (r.cell 1)=true:=by simpa using O
  refine go ?_;refine FL (k+1) ⟨z,by omega,?_⟩;rw[XM hk,hA,J];rfl
 refine FM 48 3 (hv.ext z).sl ?_;refine Fk (λc4=>?_) λc4=>?_
 ·refine go ?_;rw[Av Fe]at hA;refine⟨?_,z⟩;rw[Rh Fe hA Fe]
 refine F8 (G:=Nat) (λk=>[(0,v),(4,I ↑(IX (l.take k))),(5,I ↑k)]) (λk w'=>Fq w w'/\k<=l.length/\(l.all λr=>Gl (r.cell 1))=true) (λk=>l.length-k) 0 ⟨z,Ab _,by rw[Av Fe]at hA;exact hA⟩ ?_;rintro _ k w4 ⟨z,hk1,hA⟩;refine FM 48 3 (hv.ext z).sl ?_;refine Fk (λc5=>?_) λc5=>?_
 ·obtain⟨r,hk⟩:∃r,l[k]?=some r:=F7;have hrk:=hks r (Ag hk);have hrz:=TG hk;have hrm:=Ya2 (l:=l) (k:=k) hks Fe;refine Gt 10001000000100000 λw5 x5=>?_;have z:=z.trans x5;refine go ?_;refine di 48 3 (hv.ext z).sl rfl ((hv.ext z).lt hk) (go ?_);refine dL rfl (λ_ hR=>((((hv.ext z).ext hR).row hk).at rfl)) (go ?_);refine di 48 3 (hv.ext z).sl rfl ((hv.ext z).lt hk) (go ?_);refine dL rfl (λ_ hR=>((((hv.ext z).ext hR).row hk).at rfl)) (gn ?_);refine F3 (v:=I ↑(IX (l.take (k+1)))) rfl (GK rfl rfl FH) FY (go ?_);exact FL (k+1) ⟨z,by omega,hA⟩
 refine Fk (λY=>?_) λY=>?_
 ·refine go ?_;rw[Av Fe]at Y;refine⟨?_,z⟩;rw[Rh Fe hA Fe]
 refine go ?_;rw[Av Fe]at Y;refine⟨?_,z⟩;rw[Xs Fe hA Fe]
end Go.Proofs.YtiooodckiddpmaaGreatDoor
namespace Go.Sp
open Go.Vc (Fj I S B)
structure Fi where
 id:Int
 lev:Int
 size:Int
 fst:Fj
 lst:Fj
deriving DecidableEq
@[reducible] def Fi.cs (f:Fi):List Value:=[I f.id,I f.lev,I f.size,S f.fst,S f.lst]
@[reducible] def Fi.v (f:Fi):Value:=.agg ⟨f.cs⟩
def Fi.zero : Fi:=⟨0,0,0,[],[]⟩
structure Vs where
 next:Int
 fs:List Fi
deriving DecidableEq
def Hz (a b:Int):Int:=if a<b then -1 else if b<a then 1 else 0
def Iv (a b:Fj):Int:=if F6 a b=true then -1 else if F6 b a=true then 1 else 0
def HM (a b:Fi):Int:=if a.lev=0/\b.lev=0 then Hz a.id b.id else if Hz a.lev b.lev≠0 then Hz a.lev b.lev else Iv a.fst b.fst
def Jd (a b:Fi):Bool:=if 0<a.lev/\a.lev=b.lev then F6 a.lst b.fst else decide (HM a b<0)
def Mo (s:Fj):Bool:=decide (1<=s.length) && decide (s.length<=4096)
def IL (n:Int)(f:Fi):Bool:=decide (1<=f.id) && decide (f.id<n) && decide (0<=f.lev) && decide (f.lev<=4) && decide (1<=f.size) && decide (f.size<=1048576) && Mo f.fst && Mo f.lst && !F6 f.lst f.fst
def KN : List Fi->Bool
 | a :: b :: r=>Jd a b && KN (b :: r)
 | _=>true
def H2 (v:Vs):Bool:=decide (1<=v.next) && decide (v.next<=1099511627776) && decide (v.fs.length<=1024) && v.fs.all (IL v.next) && decide ((v.fs.map (·.id)).Nodup) && KN v.fs
def Ke (lev:Int)(frm to:Fj)(f:Fi):Bool:=decide (f.lev=lev) && !F6 f.lst frm && !F6 to f.fst
def IM (fs:List Fi)(lev:Int)(frm to:Fj):List Fi:=fs.filter (Ke lev frm to)
def La (fs:List Fi)(key:Fj):List Fi:=(IM fs 0 key key).reverse++IM fs 1 key key++IM fs 2 key key++IM fs 3 key key++IM fs 4 key key
def Qc {fs:List Fi}{k:Nat}{f:Fi}{lev:Int}{frm to:Fj}(h:fs[k]?=some f):IM (fs.take (k+1)) lev frm to=if Ke lev frm to f=true then IM (fs.take k) lev frm to++[f]else IM (fs.take k) lev frm to:=by
 unfold IM;rw[Bx,h,Bs];split
 ·rename_i h;simp [h]
 ·rename_i h;simp [h]
def O9 (fs:List Fi)(lev:Int)(frm to:Fj):(IM fs lev frm to).length<=fs.length:=Bk _ _
def Xk1 (fs:List Fi)(k:Nat)(lev:Int)(frm to:Fj):(IM (fs.take k) lev frm to).length<=fs.length:=by
 have:=O9 (fs.take k) lev frm to;rw[AE]at this;omega
end Go.Sp
namespace Go.Proofs.YtiooodckiddpmaaGreatDoor
open Go.Vc Go.Sp
attribute [local irreducible] W XW Dw GC
def W4 (a b:Fj):(!Op.bytesLess a b && !a == b)=Op.bytesLess b a:=by
 rcases KC a b with h|h|h
 ·subst h;have:=IN a;simp only [F6]at this;simp [this]
 ·have h2:=KM h;simp only [F6]at h h2;simp [h,h2]
 ·have h2:=KM h;have h3:=N4 h;simp only [F6]at h h2;simp [h,h2];exact λe=>h3 e.symm
def Ya4 (a b:Fj):(Op.bytesLess a b || a == b)=!Op.bytesLess b a:=by
 rw[<-W4 a b];cases Op.bytesLess a b<;>cases(a == b)<;>rfl
section
variable {P:Program}{E:FF}{d:Option Tmp}{ty:TypeId}{pos:String}{af:Array Edge}{g:Option (Nat×Bool)}
def Wd {x y:Operand}{T U:TypeId}{a b:Fj}(hx:ev E x=S a)(hy:ev E y=S b):PV P ⟨d,.binOp .gtr T x y U,ty,pos,af,g⟩ E (.bool (Op.bytesLess b a)):=λw=>by
 rw[<-W4];simp [execOp,hx,hy,eqGuard,binOp,Op.stringOp]
def TT {x y:Operand}{T U:TypeId}{a b:Fj}(hx:ev E x=S a)(hy:ev E y=S b):PV P ⟨d,.binOp .leq T x y U,ty,pos,af,g⟩ E (.bool (!Op.bytesLess b a)):=λw=>by
 rw[<-Ya4];simp [execOp,hx,hy,eqGuard,binOp,Op.stringOp]
end
def Xx5 {a b:Fi}(h1:a.lev=0)(h2:b.lev=0):HM a b=Hz a.id b.id:=by unfold HM;rw[if_pos ⟨h1,h2⟩]
def VP {a b:Fi}(h:¬ (a.lev=0/\b.lev=0)):HM a b=if Hz a.lev b.lev≠0 then Hz a.lev b.lev else Iv a.fst b.fst:=by unfold HM;rw[if_neg h]
variable {a b:Fj}
def X7w (h:F6 a b=true):Iv a b=-1:=if_pos h
def X7x (h:F6 a b=false)(h2:F6 b a=true):Iv a b=1:=by unfold Iv;rw[if_neg (by rw[h];decide),if_pos h2]
def X7y (h:F6 a b=false)(h2:F6 b a=false):Iv a b=0:=by unfold Iv;rw[if_neg (by rw[h];decide),if_neg (by rw[h2];decide)]
def Mp : List Int->Int
 | a :: r=>if a≠0 then a else Mp r
 | []=>0
def P7 (a b:Int):Mp [a,b]=if a≠0 then a else b:=by
 unfold Mp;unfold Mp;unfold Mp;split
 ·rfl
 ·split<;>simp_all
def YU {l:List Int}{k:Nat}{x:Int}(h:l[k]?=some x):Mp (l.drop k)=if x≠0 then x else Mp (l.drop (k+1)):=by rw[Ja h];rfl
def WB (x:Int)(w:World) :
  FX 304 [I x] w (B false):=by
 refine cE Tryz.func304 λz=>go ?_;exact⟨by simp,z⟩
def VD (x:Fj)(w:World) :
  FX 305 [S x] w (B false):=by
 refine cE Tryz.func305 λz=>go ?_;refine dp (Nk rfl rfl) (go ?_);exact⟨by simp,z⟩
def TO (x y:Int)(w:World) :
  FX 247 [I x,I y] w (I (Hz x y)):=by
 refine cE Tryz.func247 λz=>Gs (WB x _) λw1 Z=>?_;have z:=z.trans Z;refine Gs (WB y _) λw2 x2=>?_;have z:=z.trans x2;refine Gb (λO=>?_) λO=>?_
 ·cases O
 refine Gb (λJ=>?_) λJ=>?_
 ·cases J
 refine Fk (λc3=>?_) λc3=>?_
 ·refine go ?_;refine⟨?_,z⟩;unfold Hz;rw[if_pos Fe];done
 refine Fk (λY=>?_) λY=>?_
 ·refine go ?_;refine⟨?_,z⟩;unfold Hz;rw[if_neg Fe,if_pos Fe];done
 refine go ?_;refine⟨?_,z⟩;unfold Hz;rw[if_neg Fe,if_neg Fe]
def XH (x y:Fj)(w:World) :
  FX 249 [S x,S y] w (I (Iv x y)):=by
 refine cE Tryz.func249 λz=>Gs (VD x _) λw1 x1=>?_;have z:=z.trans x1;refine Gs (VD y _) λw2 x2=>?_;have z:=z.trans x2;refine Gb (λZ=>?_) λZ=>?_
 ·cases Z
 refine Gb (λY=>?_) λY=>?_
 ·cases Y
 refine go ?_;refine dp (MB rfl rfl) ?_;refine Gb (λJ=>?_) λJ=>?_
 ·refine go ?_;rw[X7w J];exact⟨rfl,z⟩
 refine go ?_;refine dp (Wd rfl rfl) ?_;refine Gb (λO=>?_) λO=>?_
 ·refine go ?_;rw[X7x J O];exact⟨rfl,z⟩
 refine go ?_;rw[X7y J O];exact⟨rfl,z⟩
def Ya5 (l:List Int)(v:Value)(w:World)(hv:Fu Vc.encI 1 w v l)(hl:l.length<=1000000) :
  FX 248 [v] w (I (Mp l)):=by
 refine cE Tryz.func248 λz=>FM 3 1 hv.sl ?_;refine F8 (G:=Nat) (λk=>[(3,I 0),(6,v),(7,I ↑l.length),(8,I ↑k)]) (λk w'=>Fq w w'/\k<=l.length/\Mp l=Mp (l.drop k)) (λk=>l.length-k) 0 ⟨z,Ab _,rfl⟩ ?_;rintro _ k w1 ⟨z,hk1,ho⟩;refine Fk (λO=>?_) λO=>?_
 ·obtain⟨x,hk⟩:∃x,l[k]?=some x:=F7;refine FN 3 1 hv.sl (hv.lt hk) ?_;refine dl rfl (((hv.ext z).row hk).at0 rfl) ?_;refine Fk (λJ=>?_) λJ=>?_
  ·refine go ?_;refine⟨?_,z⟩;rw[ho,YU hk,if_pos J]
  refine go ?_;refine FL (k+1) ⟨z,by omega,?_⟩;rw[ho,YU hk,if_neg (λe=>e (AF J))]
 refine go ?_;refine⟨?_,z⟩;rw[ho,BP Fe];rfl
def Xh (s:Fj)(w:World) :
  FX 181 [S s] w (B (Mo s)):=by
 refine cE Tryz.func181 λz=>go ?_;refine dp (HY rfl rfl) ?_;refine FJ 6 (λJ=>?_) λJ=>?_
 ·refine go ?_;refine dp (IJ rfl rfl) (go ?_);refine⟨?_,z⟩;simp only [Ending.returned.injEq,Value.bool.injEq];unfold Mo;rw[decide_eq_true (show 1<=s.length by omega),C1];exact decide_eq_decide.2 Fe
 refine go ?_;refine⟨?_,z⟩;simp only [Ending.returned.injEq,Value.bool.injEq];unfold Mo;rw[decide_eq_false (show¬ 1<=s.length by omega)];rfl
def T1 (a b:Fi)(w:World) :
  FX 175 [a.v,b.v] w (I (HM a b)):=by
 refine cE Tryz.func175 λz=>go ?_;refine G1 rfl rfl rfl RX.all (λb1 w1 e1 x1 J=>?_);have g1:=z.ge e1;have z:=z.trans x1;refine G1 rfl rfl rfl RX.all (λb2 w2 e2 x2 O=>?_);have g2:=z.ge e2;have n2_1:=J.ltb e2;refine Fy x2 J z λJ z=>?_;refine FJ 8 (λc1=>?_) λc1=>?_
 ·refine Fk (λc2=>?_) λc2=>?_
  ·refine Gs (TO a.id b.id _) λw3 x3=>FC x3 J O z λJ O z=>?_;refine go ?_;refine⟨?_,z⟩;rw[Xx5 Fe Fe];done
  refine go ?_;refine HP (R:=Fq) Fq.refl (λ_ _ _=>Fq.trans) Ff [1,3,6,8] [(0,.p,false),(1,.l,false),(2,.p,false),(3,.l,false),(5,.p,false),(6,.l,false),(7,.p,false),(8,.l,false),(4,.x,false),(9,.x,false),(10,.x,false),(11,.x,false),(12,.p,false)] rfl Ff Ff (λw4 Y=>?_);have x4:=FE Y;clear Y;refine FC x4 J O z λJ O z=>go ?_;refine cP (TO a.lev b.lev _) RX.ext λw5 x5=>FC x5 J O z λJ O z=>cP (XH a.fst b.fst _) RX.ext λw6 x6=>FC x6 J O z λJ O z=>li (e:=3) (sz:=1) (zs:=[.int .i64 0]) (pv:=[(0,_),(1,_)]) (cs:=[_,_]) RX.ext (λb3 w7 e3 x7 m3=>?_);have g3:=z.ge e3;have n3_1:=J.ltb e3;have n3_2:=O.ltb e3;refine FC x7 J O z λJ O z=>cP (Ya5 [Hz a.lev b.lev,Iv a.fst b.fst] _ _ (m3.arr (enc:=Vc.encI) (l:=[Hz a.lev b.lev,Iv a.fst b.fst]) rfl Fg rfl F0) F0) RX.ext λw8 x8=>FC x8 J O z λJ O z=>go ?_;refine⟨?_,z⟩;rw[VP Fe,P7]
 refine go ?_;refine GS rfl (go ?_);refine HP (R:=Fq) Fq.refl (λ_ _ _=>Fq.trans) Ff [1,3,6,8] [(0,.p,false),(1,.l,false),(2,.p,false),(3,.l,false),(5,.p,false),(6,.l,false),(7,.p,false),(8,.l,false),(4,.x,false),(9,.x,false),(10,.x,false),(11,.x,false),(12,.p,false)] rfl Ff Ff (λw9 Z=>?_);have x9:=FE Z;clear Z;refine FC x9 J O z λJ O z=>go ?_;refine cP (TO a.lev b.lev _) RX.ext λw10 hf=>?_;have z:=z.trans hf;refine cP (XH a.fst b.fst _) RX.ext λw11 hc=>?_;have z:=z.trans hc;refine li (e:=3) (sz:=1) (zs:=[.int .i64 0]) (pv:=[(0,_),(1,_)]) (cs:=[_,_]) RX.ext (λb4 w12 e4 ha m4=>?_);have g4:=z.ge e4;have z:=z.trans ha;refine cP (Ya5 [Hz a.lev b.lev,Iv a.fst b.fst] _ _ (m4.arr (enc:=Vc.encI) (l:=[Hz a.lev b.lev,Iv a.fst b.fst]) rfl Fg rfl F0) F0) RX.ext λw13 hg=>?_;have z:=z.trans hg;refine go ?_;refine⟨?_,z⟩;rw[VP Fe,P7]
def Ya7 (a b:Fi)(w:World) :
  FX 182 [a.v,b.v] w (B (Jd a b)):=by
 refine cE Tryz.func182 λz=>go ?_;refine G1 rfl rfl rfl RX.all (λb1 w1 e1 x1 J=>?_);have g1:=z.ge e1;have z:=z.trans x1;refine G1 rfl rfl rfl RX.all (λb2 w2 e2 x2 O=>?_);have g2:=z.ge e2;have n2_1:=J.ltb e2;refine Fy x2 J z λJ z=>?_;refine FJ 8 (λZ=>?_) λZ=>?_
 ·refine Fk (λc2=>?_) λc2=>?_
  ·refine go ?_;refine dp (MB rfl rfl) (go ?_);refine⟨?_,z⟩;unfold Jd;rw[if_pos Fe];done
  refine go ?_;refine dq (Fx (k:=5) Ff rfl rfl J.row) (dq (Fx (k:=5) Ff rfl rfl O.row) (cP (T1 a b _) RX.all λw3 Y=>FC Y J O z λJ O z=>go ?_));refine⟨?_,z⟩;unfold Jd;rw[if_neg Fe]
 refine go ?_;refine GS rfl (go ?_);refine dq (Fx (k:=5) Ff rfl rfl J.row) (dq (Fx (k:=5) Ff rfl rfl O.row) (cP (T1 a b _) RX.all λw4 x4=>?_));have z:=z.trans x4;refine go ?_;refine⟨?_,z⟩;unfold Jd;rw[if_neg Fe]
def LR (a b:Fi):Bool:=if a.lev≠b.lev then decide (a.lev<b.lev)else if a.lev=0 then decide (a.id<b.id)else F6 a.fst b.fst
def IC (f:Fi)(next:Int):Bool:=decide (1<=f.id) && decide (f.id<next) && decide (0<=f.lev) && decide (f.lev<=4) && decide (1<=f.size) && decide (f.size<=1048576) && (decide (1<=f.fst.length) && decide (f.fst.length<=4096)) && (decide (1<=f.lst.length) && decide (f.lst.length<=4096)) && !F6 f.lst f.fst
def rAt (next:Int)(fs:List Fi)(i:Nat)(f:Fi):Prop:=IC f next=true/\(∀j g,j<i->fs[j]?=some g->g.id≠f.id)/\∀g,0<i->fs[i-1]?=some g->LR g f=true/\¬ (0<f.lev/\g.lev=f.lev/\F6 g.lst f.fst=false)
def QT (next:Int)(fs:List Fi):Prop:=(1<=next/\next<=1099511627776/\fs.length<=1024)/\∀i f,fs[i]?=some f->rAt next fs i f
def HA (fs:List Fi)(n:Int):Nat:=(fs.filter λf=>decide (f.lev=n)).length
def M6 {α:Type}{m l:List α}{c:α}(h:∀x∈m,x∈l)(hc:c∈l):∀x∈m++[c],x∈l:=λx J=>(Al.1 J).elim (h x) (λz=>by rw[Af.1 z];exact hc)
def Xl (a b:List Cell)(va vb:Value)(w:World)(ha:Fu Cell.cs 4 w va a)(hb:Fu Cell.cs 4 w vb b)(hl:a.length+b.length<=1000000000000) :
  Gi 139 [va,vb] w λu w'=>∃m,Vc.Own Cell.cs 4 79 w.heap.size w' u m/\m.length<=a.length+b.length/\∀c∈m,c∈a\/c∈b:=by
 refine cE Tryz.func139 λz=>F8 (G:=Nat×Nat×Value×List Cell) (λ(i,k,vm,m)=>[(0,va),(1,vb),(4,.slice none 0 0),(5,vm),(6,I ↑i),(7,I ↑k)]) (λ(i,k,vm,m) w'=>Fq w w'/\i<=a.length/\k<=b.length/\m.length=i+k/\(∀c∈m,c∈a\/c∈b)/\Vc.Own Cell.cs 4 79 w.heap.size w' vm m) (λ(i,k,vm,m)=>a.length+b.length-i-k) (0,0,.slice none 0 0,[]) ⟨z,Ab _,Ab _,rfl,λc hc=>(by cases hc),Vc.Own.nil⟩ ?_;rintro _ ⟨i,k,vm,m⟩ w1 ⟨z,hi1,hk1,hml,hm,ho⟩;refine GP (G:=Unit) (λuu=>[(0,va),(1,vb),(4,.slice none 0 0),(5,vm),(6,I ↑i),(7,I ↑k)]) (λuu w'=>Fq w w'/\Vc.Own Cell.cs 4 79 w.heap.size w' vm m/\(i<a.length\/k<b.length)) ?_ ?_
 ·refine FM 79 4 (ha.ext z).sl ?_;refine FJ 12 (λc1=>?_) λc1=>?_
  ·refine go ?_;refine GU rfl (go ?_);exact⟨(),HW,z,ho,by omega⟩
  refine FM 79 4 (hb.ext z).sl ?_;refine Fk (λc2=>?_) λc2=>?_
  ·refine go ?_;exact⟨(),HW,z,ho,by omega⟩
  refine go ?_;exact⟨_,rfl,z,m,ho,by omega,hm⟩
 rintro _ uu w2 ⟨z,ho,hik⟩;refine g0 ?_;refine GP (G:=Bool) (λbb=>[(0,va),(1,vb),(4,.slice none 0 0),(5,vm),(6,I ↑i),(7,I ↑k),(38,.bool bb)]) (λbb w'=>Fq w w'/\Vc.Own Cell.cs 4 79 w.heap.size w' vm m/\(bb=true->i<a.length)/\(bb=false->k<b.length)) ?_ ?_
 ·refine wd 1005100010000000000000 λw3 x3=>Fy x3 ho z λho z=>FM 79 4 (hb.ext z).sl ?_;refine FJ 22 (λc3=>?_) λc3=>?_
  ·refine go ?_;exact⟨true,Ho,z,ho,λ_=>by omega,λe=>(by cases e)⟩
  refine FM 79 4 (ha.ext z).sl ?_;refine FJ 27 (λc4=>?_) λc4=>?_
  ·obtain⟨c,hka⟩:∃c,a[i]?=some c:=F7;obtain⟨d,hkb⟩:∃d,b[k]?=some d:=F7;refine FN 79 4 ha.sl (ha.lt hka) ?_;refine Gh rfl (λw' hR=>Fx Ff rfl rfl ((ha.ext (z.trans hR)).row hka)) (FN 79 4 hb.sl (hb.lt hkb) ?_);refine Gh rfl (λw' hR=>Fx Ff rfl rfl ((hb.ext (z.trans hR)).row hkb)) (cP (Rz c d _) RX.all λw4 x4=>Fy x4 ho z λho z=>go ?_);exact⟨_,Ho,z,ho,λ_=>by omega,λ_=>by omega⟩
  refine go ?_;exact⟨false,Ho,z,ho,λe=>(by cases e),λ_=>by omega⟩
 rintro _ bb w5 ⟨z,ho,hbt,hbf⟩;refine wc (λY=>?_) λY=>?_
 ·have hi9:=hbt Y;obtain⟨c,hka⟩:∃c,a[i]?=some c:=F7;refine FN 79 4 ha.sl (ha.lt hka) ?_;refine dq (Fx Ff rfl rfl ((ha.ext z).row hka)) (lA 79 rfl λb1 w6 e1 x6 m1=>?_);have g1:=z.ge e1;have o1_ho:=ho.ltb e1;refine Fy x6 ho z λho z=>G8 c ho m1 λv2 w7 J x7=>?_;have z:=z.own x7 F5;have ho:=J;clear m1;refine go ?_;exact FL (i+1,k,v2,m++[c]) ⟨z,by omega,hk1,by rw[Ad,hml,C2];omega,λx O=>(Al.1 O).elim (hm x) (λZ=>by rw[Af.1 Z];exact .inl (Ag hka)),ho⟩
 have hk9:=hbf (by simpa using Y);obtain⟨d,hkb⟩:∃d,b[k]?=some d:=F7;refine FN 79 4 hb.sl (hb.lt hkb) ?_;refine dq (Fx Ff rfl rfl ((hb.ext z).row hkb)) (lA 79 rfl λb2 w8 e2 x8 m2=>?_);have g2:=z.ge e2;have o2_ho:=ho.ltb e2;refine Fy x8 ho z λho z=>G8 d ho m2 λv3 w9 J x9=>?_;have z:=z.own x9 F5;have ho:=J;clear m2;refine go ?_;exact FL (i,k+1,v3,m++[d]) ⟨z,hi1,by omega,by rw[Ad,hml,C2];omega,λx O=>(Al.1 O).elim (hm x) (λZ=>by rw[Af.1 Z];exact .inr (Ag hkb)),ho⟩
def Tw (l:List Cell)(v:Value)(w:World)(hv:Fu Cell.cs 4 w v l)(hl:l.length<=1000000000000) :
  Gi 140 [v] w λu w'=>∃m,Vc.Own Cell.cs 4 79 w.heap.size w' u m/\m.length<=l.length/\(∀c∈m,c∈l)/\(l≠[]->m≠[]):=by
 refine cE Tryz.func140 λz=>F8 (G:=Nat×Value×List Cell) (λ(k,vm,m)=>[(0,v),(2,.slice none 0 0),(3,vm),(4,I ↑k)]) (λ(k,vm,m) w'=>Fq w w'/\k<=l.length/\m.length<=k/\(∀c∈m,c∈l)/\(0<k->m≠[])/\Vc.Own Cell.cs 4 79 w.heap.size w' vm m) (λ(k,vm,m)=>l.length-k) (0,.slice none 0 0,[]) ⟨z,Ab _,Aa _,λc hc=>(by cases hc),λh=>absurd h (A7 0),Vc.Own.nil⟩ ?_;rintro _ ⟨k,vm,m⟩ w1 ⟨z,hk1,hml,hm,hmn,ho⟩;refine FM 79 4 (hv.ext z).sl ?_;refine Fk (λc1=>?_) λc1=>?_
 ·obtain⟨c,hk⟩:∃c,l[k]?=some c:=F7;have O:=Ag hk;refine g0 ?_;refine wS (g0 ?_);refine GP (G:=Bool) (λbb=>[(0,v),(2,.slice none 0 0),(3,vm),(4,I ↑k),(28,.bool bb)]) (λbb w'=>Fq w w'/\Vc.Own Cell.cs 4 79 w.heap.size w' vm m/\(bb=false->m≠[])) ?_ ?_
  ·refine wd 1001000010000000000 λw2 x2=>Fy x2 ho z λho z=>go ?_;refine dv 79 4 (ho.arr Fg).sl ?_;refine FJ 14 (λZ=>?_) λZ=>?_
   ·refine go ?_;exact⟨true,Hc,z,ho,λe=>(by cases e)⟩
   obtain⟨d,hkl⟩:∃d,m[m.length-1]?=some d:=F7;refine go ?_;refine dv 79 4 (ho.arr Fg).sl (F3 (v:=I ↑(m.length-1)) rfl (G7 rfl rfl FH) FY (di 79 4 (ho.arr Fg).sl rfl ((ho.arr Fg).lt hkl) (go ?_)));refine dL rfl (λ_ hR=>((((ho.arr Fg).ext hR).row hkl).at rfl)) (FN 79 4 hv.sl (hv.lt hk) ?_);refine go ?_;refine dL rfl (λ_ hR=>(((hv.ext (z.trans hR)).row hk).at rfl)) (dp (Nk rfl rfl) (go ?_));exact⟨_,Hc,z,ho,λ_ e=>Z (by rw[e];rfl)⟩
  rintro _ bb w3 ⟨z,ho,hbf⟩;refine wc (λc3=>?_) λc3=>?_
  ·refine FN 79 4 hv.sl (hv.lt hk) ?_;refine dq (Fx Ff rfl rfl ((hv.ext z).row hk)) (lA 79 rfl λb1 w4 e1 x4 Y=>?_);have g1:=z.ge e1;have o1_ho:=ho.ltb e1;refine Fy x4 ho z λho z=>G8 c ho Y λv2 w5 J x5=>?_;have z:=z.own x5 F5;have ho:=J;clear Y;refine go ?_;exact FL (k+1,v2,m++[c]) ⟨z,by omega,by simp;omega,M6 hm O,λ_=>by simp,ho⟩
  refine go ?_;exact FL (k+1,vm,m) ⟨z,by omega,by omega,hm,λ_=>hbf (by simpa using c3),ho⟩
 refine go ?_;exact⟨_,rfl,z,m,ho,by omega,hm,λh=>hmn (by have:=CM.2 h;omega)⟩
def Oe (n:Int)(fs:List Fi)(vf:Value)(lev:Int)(frm to:Fj)(w:World)(hv:Fu Fi.cs 5 w vf fs)(hl:fs.length<=100000000) :
  Gi 224 [.agg ⟨[I n,vf]⟩,I lev,S frm,S to] w λu w'=>∃m,Vc.Own Fi.cs 5 62 w.heap.size w' u m/\m.length<=fs.length/\∀f∈m,f∈fs:=by
 refine cE Tryz.func224 λz=>go ?_;refine G1 rfl rfl rfl RX.all (λb1 w1 e1 x1 J=>?_);have g1:=z.ge e1;have z:=z.trans x1;refine F8 (G:=Nat×Value×List Fi) (λ(k,vm,m)=>[(1,I lev),(2,S frm),(3,S to),(4,Fh b1 0),(8,.slice none 0 0),(9,vm),(10,I ↑k)]) (λ(k,vm,m) w'=>Fq w w'/\Fp w' b1 [I n,vf] 56/\k<=fs.length/\m.length<=k/\(∀f∈m,f∈fs)/\Vc.Own Fi.cs 5 62 w.heap.size w' vm m) (λ(k,vm,m)=>fs.length-k) (0,.slice none 0 0,[]) ⟨z,J,Ab _,Aa _,λc hc=>(by cases hc),Vc.Own.nil⟩ ?_;rintro _ ⟨k,vm,m⟩ w2 ⟨z,J,hk1,hml,hm,ho⟩;refine FM 62 5 (hv.ext z).sl ?_;refine Fk (λc1=>?_) λc1=>?_
 ·obtain⟨f,hk⟩:∃f,fs[k]?=some f:=F7;have ha:=Ag hk;refine FN 62 5 hv.sl (hv.lt hk) ?_;refine dq (Fx Ff rfl rfl ((hv.ext z).row hk)) (aL [.int .i64 0,.int .i64 0,.int .i64 0,S [],S []] λb2 w3 e2 x3 O=>?_);have g2:=z.ge e2;have n2_1:=J.ltb e2;have o2_ho:=ho.ltb e2;refine FC x3 J ho z λJ ho z=>Gg O (λw4 x4 xs4 O=>?_);have J:=J.mo x4;have ho:=ho.mod x4 Fw;have z:=z.o1 x4;refine g0 ?_;refine GP (G:=Bool) (λbb=>[(1,I lev),(2,S frm),(3,S to),(4,Fh b1 0),(8,.slice none 0 0),(9,vm),(10,I ↑k),(11,Fh b2 0),(39,.bool bb)]) (λbb w'=>Fq w w'/\Fp w' b1 [I n,vf] 56/\Vc.Own Fi.cs 5 62 w.heap.size w' vm m/\Fp w' b2 f.cs 62) ?_ ?_
  ·refine FJ 28 (λc2=>?_) λc2=>?_
   ·refine go ?_;refine dp (O5 rfl rfl) (go ?_);refine IR 34 rfl (λc3=>?_) (λc3=>?_)
    ·refine go ?_;refine dp (TT rfl rfl) (go ?_);exact⟨_,KZ,z,J,ho,O⟩
    refine go ?_;exact⟨_,KZ,z,J,ho,O⟩
   refine go ?_;exact⟨_,KZ,z,J,ho,O⟩
  rintro _ bb w5 ⟨z,J,ho,O⟩;refine wc (λc4=>?_) λc4=>?_
  ·refine go ?_;refine dq (Fx (k:=5) Ff rfl rfl O.row) (lA 62 rfl λb3 w6 Z x6 m3=>?_);have g3:=z.ge Z;have n3_1:=J.ltb Z;have o3_ho:=ho.ltb Z;refine FC x6 J ho z λJ ho z=>G8 f ho m3 λv2 w7 Y x7=>?_;have J:=J.mod x7 Fw;have z:=z.own x7 F5;have ho:=Y;clear m3;refine go ?_;exact FL (k+1,v2,m++[f]) ⟨z,J,by omega,by simp;omega,M6 hm ha,ho⟩
  refine go ?_;exact FL (k+1,vm,m) ⟨z,J,by omega,by omega,hm,ho⟩
 refine go ?_;exact⟨_,rfl,z,m,ho,by omega,hm⟩
def W6 (n:Int)(fs:List Fi)(vf:Value)(lev:Int)(w:World)(hv:Fu Fi.cs 5 w vf fs)(hl:fs.length<=100000000) :
  Gi 223 [.agg ⟨[I n,vf]⟩,I lev] w λu w'=>Vc.Own Fi.cs 5 62 w.heap.size w' u (fs.filter λf=>decide (f.lev=lev)):=by
 refine cE Tryz.func223 λz=>go ?_;refine G1 rfl rfl rfl RX.all (λb1 w1 e1 x1 J=>?_);have g1:=z.ge e1;have z:=z.trans x1;refine F8 (G:=Nat×Value) (λ(k,vm)=>[(1,I lev),(2,Fh b1 0),(4,.slice none 0 0),(5,vm),(6,I ↑k)]) (λ(k,vm) w'=>Fq w w'/\Fp w' b1 [I n,vf] 56/\k<=fs.length/\Vc.Own Fi.cs 5 62 w.heap.size w' vm ((fs.take k).filter λf=>decide (f.lev=lev))) (λ(k,vm)=>fs.length-k) (0,.slice none 0 0) ⟨z,J,Ab _,Vc.Own.nil⟩ ?_;rintro _ ⟨k,vm⟩ w2 ⟨z,J,hk1,ho⟩;refine FM 62 5 (hv.ext z).sl ?_;refine Fk (λc1=>?_) λc1=>?_
 ·obtain⟨f,hk⟩:∃f,fs[k]?=some f:=F7;have hle:=Bk (λf:Fi=>decide (f.lev=lev)) (fs.take k);rw[AE]at hle;refine FN 62 5 hv.sl (hv.lt hk) ?_;refine go ?_;refine dl rfl (((hv.ext z).row hk).at rfl) ?_;refine Fk (λY=>?_) λY=>?_
  ·refine FN 62 5 hv.sl (hv.lt hk) ?_;refine dq (Fx Ff rfl rfl ((hv.ext z).row hk)) (lA 62 rfl λb2 w3 e2 x3 m2=>?_);have g2:=z.ge e2;have n2_1:=J.ltb e2;have o2_ho:=ho.ltb e2;refine FC x3 J ho z λJ ho z=>G8 f ho m2 λv2 w4 O Z=>?_;have J:=J.mod Z Fw;have z:=z.own Z F5;have ho:=O;clear m2;refine go ?_;exact FL (k+1,v2) ⟨z,J,by omega,by rw[GW hk,Bs,List.filter_cons_of_pos (by simpa using Y)];exact ho⟩
  refine go ?_;exact FL (k+1,vm) ⟨z,J,by omega,by rw[GW hk,Bs,List.filter_cons_of_neg (by simpa using Y),List.filter_nil,AI];exact ho⟩
 refine go ?_;rw[Av Fe]at ho;exact⟨_,rfl,z,ho⟩
def Vo (s:Fj)(w:World)(hs:s.length<=140737488355328) :
  FX 322 [S s] w (B (decide (1<=s.length) && decide (s.length<=4096))):=by
 refine cE Tryz.func322 λz=>go ?_;refine dp (HY rfl rfl) ?_;refine FJ 6 (λJ=>?_) λJ=>?_
 ·refine go ?_;refine dp (IJ rfl rfl) (go ?_);refine⟨?_,z⟩;simp only [Ending.returned.injEq,Value.bool.injEq]
  by_cases h1:1<=s.length<;>by_cases h2:s.length<=4096<;>simp [h1,h2]<;>omega
 refine go ?_;refine⟨?_,z⟩;simp only [Ending.returned.injEq,Value.bool.injEq]
 by_cases h1:1<=s.length<;>by_cases h2:s.length<=4096<;>simp [h1,h2]<;>omega
def Ya9 (f:Fi)(next:Int)(w:World)(hs:f.fst.length<=140737488355328/\f.lst.length<=140737488355328) :
  FX 283 [f.v,I next] w (B (IC f next)):=by
 refine cE Tryz.func283 λz=>go ?_;refine G1 rfl rfl rfl RX.all (λb1 w1 e1 x1 J=>?_);have g1:=z.ge e1;have z:=z.trans x1;refine go ?_;refine dp (HY rfl rfl) ?_;refine FJ 8 (λZ=>?_) λZ=>?_
 ·refine FJ 14 (λc2=>?_) λc2=>?_
  ·refine go ?_;refine dp (HY rfl rfl) ?_;refine FJ 19 (λc3=>?_) λc3=>?_
   ·refine go ?_;refine dp (IJ rfl rfl) ?_;refine FJ 24 (λc4=>?_) λc4=>?_
    ·refine go ?_;refine dp (HY rfl rfl) ?_;refine FJ 29 (λc5=>?_) λc5=>?_
     ·refine go ?_;refine dp (IJ rfl rfl) ?_;refine FJ 34 (λc6=>?_) λc6=>?_
      ·refine Gs (Vo f.fst _ hs.1) λw2 x2=>Fy x2 J z λJ z=>?_;refine go ?_;refine IR 39 rfl (λc7=>?_) (λc7=>?_)
       ·refine Gs (Vo f.lst _ hs.2) λw3 O=>Fy O J z λJ z=>?_;refine go ?_;refine IR 44 rfl (λY=>?_) (λY=>?_)
        ·refine go ?_;refine dp (TT rfl rfl) (go ?_);refine⟨?_,z⟩;simp only [Ending.returned.injEq,Value.bool.injEq];simp [IC, *]
        refine go ?_;refine⟨?_,z⟩;simp only [Ending.returned.injEq,Value.bool.injEq];simp [IC, *]
       refine go ?_;refine⟨?_,z⟩;simp only [Ending.returned.injEq,Value.bool.injEq];simp [IC, *]
      refine go ?_;refine⟨?_,z⟩;simp only [Ending.returned.injEq,Value.bool.injEq];simp [IC, *]
     refine go ?_;refine⟨?_,z⟩;simp only [Ending.returned.injEq,Value.bool.injEq];simp [IC, *]
    refine go ?_;refine⟨?_,z⟩;simp only [Ending.returned.injEq,Value.bool.injEq];simp [IC, *]
   refine go ?_;refine⟨?_,z⟩;simp only [Ending.returned.injEq,Value.bool.injEq];simp [IC, *]
  refine go ?_;refine⟨?_,z⟩;simp only [Ending.returned.injEq,Value.bool.injEq];simp [IC, *]
 refine go ?_;refine⟨?_,z⟩;simp only [Ending.returned.injEq,Value.bool.injEq];simp [IC, *]
def Vd (f g:Fi)(w:World) :
  FX 281 [f.v,g.v] w (B (LR f g)):=by
 refine cE Tryz.func281 λz=>go ?_;refine G1 rfl rfl rfl RX.all (λb1 w1 e1 Z J=>?_);have g1:=z.ge e1;have z:=z.trans Z;refine G1 rfl rfl rfl RX.all (λb2 w2 e2 x2 m2=>?_);have g2:=z.ge e2;have n2_1:=J.ltb e2;refine Fy x2 J z λJ z=>?_;refine Fk (λY=>?_) λY=>?_
 ·refine go ?_;refine⟨?_,z⟩;simp only [Ending.returned.injEq,Value.bool.injEq];simp [LR, *]
 refine Fk (λO=>?_) λO=>?_
 ·refine go ?_;refine⟨?_,z⟩;simp only [Ending.returned.injEq,Value.bool.injEq];simp [LR, *];omega
 refine go ?_;refine dp (MB rfl rfl) (go ?_);refine⟨?_,z⟩;simp only [Ending.returned.injEq,Value.bool.injEq];simp [LR, *]
end Go.Proofs.YtiooodckiddpmaaGreatDoor
