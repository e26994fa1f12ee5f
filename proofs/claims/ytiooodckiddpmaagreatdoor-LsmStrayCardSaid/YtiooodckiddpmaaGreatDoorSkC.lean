/-
 A part of the proof: OcF SpDsk SpDk2 VcOc DkA DkB DkC DkD KpA Iter ShelfS DkE LgA LgB.
-/
import Derived.Test.YtiooodckiddpmaaGreatDoorSkA
import Derived.Test.YtiooodckiddpmaaGreatDoorChecked
import Derived.KernelRfl
import Derived.Test.YtiooodckiddpmaaGreatDoorSkB
import Derived.Shelf.SlGeneric
import Derived.Shelf.SlIter.Nil
import Derived.Ground.GgzProg
import Derived.Test.YtiooodckiddpmaaGreatDoorProg
import Derived.Shelf.Small.Bits
import Derived.Shelf.Small.Strs
import Derived.Shelf.Small.Wraps
import Derived.Shelf.Strconv.Itoa0
import Derived.Shelf.Strconv.Itoa1
import Derived.Shelf.LaysM
import Derived.Shelf.Strconv.Itoa2
import Derived.Shelf.Strconv.Itoa3
import Derived.Shelf.Sort.Plain
import Derived.Shelf.Strings.Prefix
import Derived.Shelf.Slices.Turned
import Derived.Ground.Names2Prog
import Derived.Shelf.Slices.SearchI
import Derived.Shelf.Slices.In.SortNone
import Derived.Shelf.Bytes.SlSearch0
import Derived.Ground.SlbCloneProg
import Derived.Shelf.Bytes.SlClone
import Derived.Ground.SlbNamesProg
import Derived.Shelf.Bytes.SlJoin
import Derived.Ground.SlgnProg
import Derived.Shelf.SlicesE.Clone
import Derived.Shelf.Bytes.SlEqualAll
import Derived.Shelf.Bytes.Small
open List renaming length_append->Aa,take->Ad,set->Af,drop->Ag,mem_singleton->Ah,mem_cons->Aj,mem_of_getElem?->Ak,mem_cons_self->Al,map_cons->An,length_map->Ao,getElem?_eq_some_iff->Ap,mem_map->Aq,getElem?_eq_getElem->Ar,mem_append->Aw,replicate->Ax,take_of_length_le->Ay,mem_filter->A3,eq_nil_of_length_eq_zero->A4,length_take->A5,append_assoc->A7,flatMap_cons->AB,getElem?_map->AD,nil_append->AE,take_length->AI,pairwise_cons->AQ,flatMap_append->AU,nodup_cons->AV,getElem?_take->AW,sum_cons->AX,all_eq_true->AY,map_nil->Be,map_map->Bf,length_drop->Bh,length_nil->Bi,map_congr_left->Bv,filter_eq_self->B5,filter_cons->BC,flatMap->BH,length_filter_le->BI,map_toArray->BY,drop_of_length_le->BZ,filter_sublist->Ca,drop_zero->Ch,not_mem_nil->Ct,pairwise_map->CN,find?_cons->CO,size_toArray->Dd,take_append_of_le_length->Dh,map_id->Di,drop_append_of_le_length->D8,take_left->Ec,length_mergeSort->Ed
open Nat renaming le_of_ble_eq_true->Av,le_refl->Ab,zero_le->Ae,le_trans->Ai,lt_of_lt_of_le->Az,mul_le_mul_right->AS,min_eq_left->Bg,mod_eq_of_lt->B0,le_of_eq->BJ,add_mul->Co,shiftLeft_eq->CX,or_comm->CY,two_pow_add_eq_or_of_lt->CZ
open Option renaming some->A0,map_eq_some_iff->Bb,map_some->Br,map_none->Cn,isSome_map->CQ
open Decidable renaming of_not_not->AK
open UInt32 renaming ofNat->AL,toNat_shiftLeft->CW,toNat_or->D7,toNat_inj->Eb
open Int renaming toNat_natCast->B7
open List.Sublist renaming map->C3
open Bool renaming eq_iff_iff->Dk
open List.Pairwise renaming imp_of_mem->E7
set_option maxRecDepth 100000
set_option maxHeartbeats 4000000
set_option linter.unusedVariables false
set_option linter.unusedSimpArgs false
namespace Go.Proofs.YtiooodckiddpmaaGreatDoor
open Go.Vc Go.Sp
attribute [local irreducible] W XW Dw Gs
def P2 (a b c d:UInt8):UInt32:=((a.toUInt32 ||| (b.toUInt32 <<< 8)) ||| (c.toUInt32 <<< 16)) ||| (d.toUInt32 <<< 24)
def Gp : EC->UInt32
 | a :: b :: c :: d :: _=>P2 a b c d
 | _=>0
theorem X49 (a b c d:UInt8):(P2 a b c d).toNat=a.toNat+b.toNat*256+c.toNat*65536+d.toNat*16777216:=by
 unfold P2;have J:=a.toNat_lt;have hb:=b.toNat_lt;have hc:=c.toNat_lt;have hd:=d.toNat_lt;have O:(b.toUInt32 <<< 8).toNat=2 ^ 8*b.toNat:=by
  rw[CW];simp [CX];omega
 have z:(c.toUInt32 <<< 16).toNat=2 ^ 16*c.toNat:=by
  rw[CW];simp [CX];omega
 have r:(d.toUInt32 <<< 24).toNat=2 ^ 24*d.toNat:=by
  rw[CW];simp [CX];omega
 rw[D7,D7,D7,O,z,r,UInt8.toNat_toUInt32];rw[CY,CY _ (2 ^ 16*_),CY a.toNat];rw[<-CZ (i:=8) J,<-CZ (i:=16) EB,<-CZ (i:=24) EB];omega
theorem Xvi (v:UInt32):P2 v.toUInt8 (v >>> 8).toUInt8 (v >>> 16).toUInt8 (v >>> 24).toUInt8=v:=by
 apply Eb.1
 rw[X49];have hv:=v.toNat_lt;simp only [UInt32.toNat_toUInt8,UInt32.toNat_shiftRight];simp [Nat.shiftRight_eq_div_pow];omega
theorem Q7 (v:UInt32)(r:EC):Gp (Ia v++r)=v:=Xvi v
theorem M9 (b o i:Nat):(⟨b,o,none⟩:Addr).add i=⟨b,o+i,none⟩:=by
 unfold Addr.add;split
 ·rename_i e;simp [e]
 ·rfl
theorem PT {B:Nat}{w:World}{v:Value}{l:EC}(h:Lib.FreshBytes B w v l):EQ EO 1 w v l/\B<=(base v).1:=by
 obtain⟨g,cap,zs,rfl,Z,hl,hc,hz,hr,hb,r,_⟩:=h;refine⟨⟨.inr (.inl ⟨g,0,cap,by rw[Ao],by rw[Ao];exact hl⟩),λi cs hi=>?_⟩,Z⟩;rw[AD]at hi;obtain⟨x,Y,rfl⟩:=Bb.1 hi;have z:i<l.length:=(Ap.1 Y).1;refine⟨rfl,λj u J=>?_⟩;have O:j=0:=by
  have:=(Ap.1 J).1;simp at this;exact this
 subst O;simp only [List.getElem?_cons_zero,A0.injEq]at J;subst J;have h1:=r i EB;have h2:(Lib.bytesOf (zs.take l.length))[i]?=some x:=by rw[hb];exact Y
 unfold Lib.bytesOf at h2;rw[AD,AW,if_pos z,Ar EB]at h2;simp only [Br,A0.injEq]at h2;have h3:zs.getD i 0=zs[i]'EB:=by rw[List.getD_eq_getElem?_getD,Ar EB];rfl
 have h4:=hr (zs[i]'EB) (List.getElem_mem _);have h5:(x.toNat:Int)=zs[i]'EB:=by
  rw[<-h2];have h6:(zs[i]'EB).toNat<256:=by omega
  simp [B0 h6];omega
 rw[h3,<-h5]at h1;simpa [base]using h1
theorem X5a {w:World}{q:Value×EC}(h:EQ EO 1 w q.1 q.2):Lib.HoldsBytes w q.1 q.2:=by
 rcases h.sl with⟨e,e2⟩|⟨b,o,c,e,_⟩|⟨e2,a,c,e⟩
 ·exact⟨none,0,by rw[e,e2],λ_=>A4 e2,λa h=>by cases h⟩
 ·refine⟨some ⟨b,o,none⟩,c,e,(λh=>by cases h),λa z i x r=>?_⟩
  cases z
  rw[M9];have:=EQ.row8 h;rw[e]at this;exact this i _ (by rw[AD,r];rfl)
 ·exact⟨some a,c,by rw[e,e2],(λh=>by cases h),λa' z i x r=>by rw[A4 e2]at r;simp at r⟩
theorem Xvj (qs:List (Value×EC)):Lib.lens (qs.map (·.2))=(qs.flatMap (·.2)).length:=by
 unfold Lib.lens
 induction qs with
 | nil=>rfl
 | cons q r ih=>rw[AB,Aa,<-ih];simp
theorem Xvk (qs:List (Value×EC)):Lib.join (qs.map (·.2)) []=qs.flatMap (·.2):=by
 cases qs with
 | nil=>rfl
 | cons q r=>
  rw[An,Lib.join_cons,AB]
  congr 1
  unfold Lib.joinTail
  induction r with
  | nil=>rfl
  | cons a r ih=>simp at ih ⊢;exact ih
theorem X5b (qs:List (Value×EC))(vr:Value)(w:World)(hr:EQ (λq:Value×EC=>[q.1]) 1 w vr qs)(hq:∀q∈qs,EQ EO 1 w q.1 q.2)(hlen:(qs.flatMap (·.2)).length<=2001000020)(hql:qs.length<=1000000) :
  Calls Tryz.prog 240 [vr,.slice none 0 0].toArray w (ES w (λu w'=>EQ EO 1 w' u (qs.flatMap (·.2))/\(qs.flatMap (·.2)≠[]->w.heap.size<=(base u).1))):=by
 have cell:∀b o c,vr=.slice (some ⟨b,o,none⟩) qs.length c->∀(i:Nat) q,qs[i]?=some q->w.cell? ⟨b,o+i,none⟩=some q.1:=by
  intro b o c e i q hi;have:=hr.row hi;rw[e]at this;have h0:=this 0 q.1 rfl;simpa [base]using h0
 have empty:qs.length=0->∀p c,vr=.slice p 0 c->Calls Tryz.prog 240 [vr,.slice none 0 0].toArray w (ES w (λu w'=>EQ EO 1 w' u (qs.flatMap (·.2))/\(qs.flatMap (·.2)≠[]->w.heap.size<=(base u).1))):=by
  intro h0 p c e;have hn:qs=[]:=A4 h0;subst hn;subst e;refine(Tryz.bytes_Join_none p c (.slice none 0 0) w).mono ?_;rintro e w' ⟨rfl,rfl⟩;exact⟨_,rfl,ED.alloc _ _,⟨.inr (.inr ⟨rfl,_,_,rfl⟩),λi cs hi=>by simp at hi⟩,λh=>absurd rfl h⟩
 rcases hr.sl with⟨e,h0⟩|⟨b,o,c,e,hc⟩|⟨h0,a,c,e⟩
 ·exact empty h0 _ _ e
 ·rcases Nat.lt_or_ge 1 qs.length with h2|h1
  ·subst e;refine(Tryz.bytes_Join_many b o qs.length c (qs.map (·.1)) (qs.map (·.2)) (.slice none 0 0) [] w ER h2 ⟨by simp,λi v hi=>?_,λi v l hv hl=>?_⟩ hc ⟨none,0,rfl,λ_=>rfl,λa h=>by cases h⟩ EB (by rw[Xvj,Bi,Nat.zero_mul];omega)).mono ?_
   ·rw[AD]at hi;obtain⟨q,z,rfl⟩:=Bb.1 hi;rw[M9];exact cell b o c rfl i q z
   ·rw[AD]at hv hl;obtain⟨q,z,rfl⟩:=Bb.1 hv;rw[z]at hl
    cases hl
    exact X5a (hq q (Ak z))
   ·rintro e w' ⟨v',rfl,hf,hb⟩;rw[Xvk]at hf;exact⟨_,rfl,ED.of_below hb,(PT hf).1,λ_=>(PT hf).2⟩
  ·rcases Nat.eq_zero_or_pos qs.length with h0|h0
   ·exact empty h0 _ _ (h0▸e)
   ·obtain⟨q,rfl⟩:∃q,qs=[q]:=List.length_eq_one_iff.1 EB;have r:=cell b o c e 0 q rfl;subst e;have J:=hq q Al;have ha:[q].flatMap (·.2)=q.2:=by simp
    rw[ha]at hlen ⊢
    by_cases hz:q.2=[]
    ·have hv:∃p0 c0,q.1=.slice p0 0 c0:=by
      rcases J.sl with⟨e,_⟩|⟨Y,Z,O,e,_⟩|⟨_,a',O,e⟩
      ·exact⟨_,_,e⟩
      ·rw[hz]at e;exact⟨_,_,e⟩
      ·exact⟨_,_,e⟩
     obtain⟨p0,c0,e⟩:=hv;refine(Tryz.bytes_Join_one_empty b o c p0 c0 (.slice none 0 0) w (by rw[<-e];exact r)).mono ?_;rintro e w' ⟨rfl,rfl⟩;rw[hz];exact⟨_,rfl,ED.refl _,EQ.nil,λh=>absurd rfl h⟩
    ·have hp:=List.length_pos_iff.2 hz;have hv:∃Y Z O,q.1=.slice (some ⟨Y,Z,none⟩) q.2.length O:=by
      rcases J.sl with⟨_,e⟩|⟨Y,Z,O,e,_⟩|⟨e,_⟩
      ·omega
      ·exact⟨_,_,_,e⟩
      ·omega
     obtain⟨Y,Z,O,e⟩:=hv;refine(Tryz.bytes_Join_one b o c ⟨Y,Z,none⟩ O q.2 (.slice none 0 0) w (by rw[<-e];exact r) (λi x hx=>?_) hp EB).mono ?_
     ·rw[M9];have:=EQ.row8 J;rw[e]at this;exact this i _ (by rw[AD,hx];rfl)
     ·rintro e w' ⟨v',rfl,hf,hb⟩;exact⟨_,rfl,ED.of_below hb,(PT hf).1,λ_=>(PT hf).2⟩
 ·exact empty h0 _ _ e
section
variable {P:Program}{E:Fh}{dd:Option Tmp}{ty:TypeId}{pos:String}{af:Array Edge}{g:Option (Nat×Bool)}{x y:Operand}{T U:TypeId}
theorem Ua {c:UInt32}(hx:ev E x=GP c)(hT:(P.underlying T).isSome=true)(hU:HG P U=some .i64):PV P ⟨dd,.convert T U x,ty,pos,af,g⟩ E (I ↑c.toNat):=by
 have:=JO (P:=P) (d:=dd) (ty:=ty) (pos:=pos) (af:=af) (g:=g) hx hT hU;rwa [KB (by have:=c.toNat_lt;unfold EU;omega)]at this
end
def Ge (b:EC):EC×Int×Int:=
 if b.length<8 then([],0,2)else if b.take 8≠Hq (Gp b)then([],0,4)else if 1048576<(Gp b).toNat then([],0,5)else if(b.length:Int)-8-4<(Gp b).toNat then([],0,2)
 else if Gp (b.drop (8+(Gp b).toNat))≠HI (b.take (8+(Gp b).toNat))then([],0,4)else((b.take (8+(Gp b).toNat)).drop 8,(8+(Gp b).toNat:Nat)+4,0)
def HO (b:EC):EC×Int:=if(Ge b).2.2=0/\(Ge b).2.1≠b.length then([],3)else((Ge b).1,(Ge b).2.2)
theorem S9 (p r:EC)(h:p.length<=1048576):Ge (EG p++r)=(p,((p.length+12:Nat):Int),0):=by
 have hn:(AL p.length).toNat=p.length:=by rw[UInt32.toNat_ofNat'];exact B0 EB
 have J:EG p++r=Hq (AL p.length)++(p++(Ia (HI (Hq (AL p.length)++p))++r)):=by unfold EG;simp only [A7]
 have Y:Gp (EG p++r)=AL p.length:=by
  rw[J];unfold Hq;rw[A7];exact Q7 _ _
 have z:(EG p++r).length=p.length+12+r.length:=by rw[Aa,Jm]
 have Z:(EG p++r).take 8=Hq (AL p.length):=by rw[J,Dh (by rw[JE];omega),Ay (by rw[JE];omega)]
 have O:(EG p++r).take (8+p.length)=Hq (AL p.length)++p:=by
  rw[J,<-A7,Dh (by rw[Aa,JE];omega),Ay (by rw[Aa,JE];omega)]
 have hd:(EG p++r).drop (8+p.length)=Ia (HI (Hq (AL p.length)++p))++r:=by
  rw[J,<-A7,D8 (by rw[Aa,JE];omega),BZ (by rw[Aa,JE];omega),AE]
 unfold Ge;rw[Y,hn,z,Z,O,hd,Q7,if_neg EB,if_neg (λh=>h rfl),if_neg EB,if_neg EB,if_neg (λh=>h rfl)];rw[D8 (by rw[JE];omega),BZ (by rw[JE];omega),AE];simp only [Prod.mk.injEq,and_true,true_and];omega
theorem Pz (p:EC)(h:p.length<=1048576):HO (EG p)=(p,0):=by
 have e:=S9 p [] h;rw[List.append_nil]at e;unfold HO;rw[e,if_neg (by simp [Jm])]
theorem X82 {b:EC}(h:b.length<8):Ge b=([],0,2):=by unfold Ge;rw[if_pos h]
theorem X83 {b:EC}(h:¬ b.length<8)(h2:b.take 8≠Hq (Gp b)):Ge b=([],0,4):=by unfold Ge;rw[if_neg h,if_pos h2]
theorem X84 {b:EC}(h:¬ b.length<8)(h2:b.take 8=Hq (Gp b))(h3:1048576<(Gp b).toNat):Ge b=([],0,5):=by unfold Ge;rw[if_neg h,if_neg (λe=>e h2),if_pos h3]
theorem X85 {b:EC}(h:¬ b.length<8)(h2:b.take 8=Hq (Gp b))(h3:¬ 1048576<(Gp b).toNat)(h4:(b.length:Int)-8-4<(Gp b).toNat):Ge b=([],0,2):=by unfold Ge;rw[if_neg h,if_neg (λe=>e h2),if_neg h3,if_pos h4]
theorem X86 {b:EC}(h:¬ b.length<8)(h2:b.take 8=Hq (Gp b))(h3:¬ 1048576<(Gp b).toNat)(h4:¬ (b.length:Int)-8-4<(Gp b).toNat)(h5:Gp (b.drop (8+(Gp b).toNat))≠HI (b.take (8+(Gp b).toNat))):Ge b=([],0,4):=by unfold Ge;rw[if_neg h,if_neg (λe=>e h2),if_neg h3,if_neg h4,if_pos h5]
theorem X87 {b:EC}(h:¬ b.length<8)(h2:b.take 8=Hq (Gp b))(h3:¬ 1048576<(Gp b).toNat)(h4:¬ (b.length:Int)-8-4<(Gp b).toNat)(h5:Gp (b.drop (8+(Gp b).toNat))=HI (b.take (8+(Gp b).toNat))) :
 Ge b=((b.take (8+(Gp b).toNat)).drop 8,((8+(Gp b).toNat:Nat):Int)+4,0):=by unfold Ge;rw[if_neg h,if_neg (λe=>e h2),if_neg h3,if_neg h4,if_neg (λe=>e h5)]
theorem W8 {a b:UInt32} : ((a.toNat:Int)≠(b.toNat:Int))↔a≠b:=by
 exact⟨λh e=>h (by rw[e]),λh e=>h (Eb.1 EB)⟩
theorem WK (p:EC)(vp:Value)(w:World)(hp:EQ EO 1 w vp p)(hl:4<=p.length) :
  Calls Tryz.prog 312 [vp].toArray w (Pure w (GP (Gp p))):=by
 refine cw Tryz.func312 ?_;have z:=ED.refl w;obtain⟨b0,b1,b2,b3,r,rfl⟩:∃b0 b1 b2 b3 r,p=b0 :: b1 :: b2 :: b3 :: r:=by
  match p,hl with
  | b0 :: b1 :: b2 :: b3 :: r,_=>exact⟨b0,b1,b2,b3,r,rfl⟩
 refine ws λ_ Z1=>wr (da (de Z1 (ws λ_ Y=>?_)));refine F9 (R:=ED) ED.refl (λ_ _ _=>ED.trans) EA [2,6,12,18] [(0,.p,false),(1,.p,false),(2,.l,false),(3,.p,false),(4,.p,false),(5,.p,false),(6,.l,false),(7,.p,false),(8,.p,false),(9,.p,false),(10,.p,false),(11,.p,false),(12,.l,false),(13,.p,false),(14,.p,false),(15,.p,false),(16,.p,false),(17,.p,false),(18,.l,false),(19,.p,false),(20,.p,false),(21,.p,false),(22,.p,false)] rfl EA EA (λw1 O=>?_);have Z:=EL O;clear O;have z:=z.trans Z;refine dm ?_;refine di 5 1 hp.sl rfl (hp.lt (i:=0) (x:=b0) rfl) (dL rfl (λ_ J=>(((hp.ext (z.trans J)).row (i:=0) (x:=b0) rfl).at0 rfl)) (dp (Nz rfl EA EA) (dm ?_)));refine di 5 1 hp.sl rfl (hp.lt (i:=1) (x:=b1) rfl) (dL rfl (λ_ J=>(((hp.ext (z.trans J)).row (i:=1) (x:=b1) rfl).at0 rfl)) (dp (Nz rfl EA EA) (dp (OR (b:=8) EN rfl rfl) (dp (OU rfl rfl) (dm ?_)))));refine di 5 1 hp.sl rfl (hp.lt (i:=2) (x:=b2) rfl) (dL rfl (λ_ J=>(((hp.ext (z.trans J)).row (i:=2) (x:=b2) rfl).at0 rfl)) (dp (Nz rfl EA EA) (dp (OR (b:=16) EN rfl rfl) (dp (OU rfl rfl) (dm ?_)))));refine di 5 1 hp.sl rfl (hp.lt (i:=3) (x:=b3) rfl) (dL rfl (λ_ J=>(((hp.ext (z.trans J)).row (i:=3) (x:=b3) rfl).at0 rfl)) (dp (Nz rfl EA EA) (dp (OR (b:=24) EN rfl rfl) (dp (OU rfl rfl) (da (de Y (EJ ?_)))))));refine ro ?_;exact⟨rfl,z⟩
theorem Oo (qs:List (Value×EC))(vr:Value)(w:World)(hr:EQ (λq:Value×EC=>[q.1]) 1 w vr qs)(hq:∀q∈qs,EQ EO 1 w q.1 q.2)(hlen:(qs.flatMap (·.2)).length<=2001000020)(hql:qs.length<=1000000) :
  Calls Tryz.prog 156 [vr].toArray w (ES w (λu w'=>EQ EO 1 w' u (qs.flatMap (·.2))/\(qs.flatMap (·.2)≠[]->w.heap.size<=(base u).1))):=by
 refine cw Tryz.func156 ?_;have r:=ED.refl w;refine ws λ_ Y=>wr (da (de Y (ws λ_ O=>wr (dm ?_))));refine cG (X5b qs vr _ (hr.ext r) (λq h=>(hq q h).ext r) hlen hql) RX.all λu1 w1 Z z=>?_;have J:=r.size;have r:=r.trans Z;refine da (de O (EJ ?_));refine ro ?_;exact⟨_,rfl,r,z.1,λh=>Ai J (z.2 h)⟩
theorem W4 (n:UInt32)(w:World) :
  Calls Tryz.prog 157 [GP n].toArray w (ES w (λu w'=>EQ EO 1 w' u (Hq n)/\(Hq n≠[]->w.heap.size<=(base u).1))):=by
 refine cw Tryz.func157 ?_;have z:=ED.refl w;refine ws λ_ Z1=>wr (da (de Z1 (ws λ_ Z2=>wr (dm ?_))));refine cG (Pf _ _) RX.all λu1 w1 x1 hg=>?_;have hsz1:=z.size;have z:=z.trans x1;obtain⟨O,rfl,hge4,r⟩:=hg;refine dm ?_;refine cG (Pf _ _) RX.all λu2 w2 x2 hj=>?_;have hsz2:=z.size;have r:=r.ext x2;have z:=z.trans x2;obtain⟨ha,rfl,hge6,Y⟩:=hj;refine li (e:=82) (sz:=1) (zs:=[.slice none 0 0]) (pv:=[(0,_)]) (cs:=[_]) RX.all (λb1 w3 e1 x3 m1=>?_);have g1:=z.ge e1;have a1_ha4:=EQ.base_lt r EN;have r:=r.ext x3;have Y:=Y.ext x3;have z:=z.trans x3;refine cP (QO (Ia n) (Value.slice (some ⟨ha,0,none⟩) 4 4) _ _ (m1.arr (enc:=λx:Value=>[x]) (sz:=1) (l:=[Value.slice (some ⟨ha,0,none⟩) 4 4]) rfl EF rfl ER) Y (by simp [Ia])) RX.all λw4 x4=>?_;have r:=r.ext x4;have z:=z.trans x4;refine cG (Pf _ _) RX.all λu5 w5 x5 hc=>?_;have hsz5:=z.size;have r:=r.ext x5;have z:=z.trans x5;obtain⟨J,rfl,hge9,Z⟩:=hc;refine li (e:=82) (sz:=1) (zs:=[.slice none 0 0]) (pv:=[(0,_),(1,_)]) (cs:=[_,_]) RX.all (λb2 w6 e2 x6 m2=>?_);have g2:=z.ge e2;have a2_ha4:=EQ.base_lt r EN;have r:=r.ext x6;have Z:=Z.ext x6;have z:=z.trans x6;refine cG (Oo [(Value.slice (some ⟨O,0,none⟩) 4 4,Ia n),(Value.slice (some ⟨J,0,none⟩) 4 4,Ia (HI (Ia n)))] _ _ (m2.arr (enc:=λq:Value×EC=>[q.1]) (sz:=1) (l:=[(Value.slice (some ⟨O,0,none⟩) 4 4,Ia n),(Value.slice (some ⟨J,0,none⟩) 4 4,Ia (HI (Ia n)))]) rfl EF rfl ER) (by intro q h;simp only [Aj,Ct,or_false]at h;rcases h with rfl|rfl<;>first|exact r|exact Z) (by simp [Ia]) ER) RX.all λu7 w7 x7 hh=>?_;have hb:=z.size;have z:=z.trans x7;have hJ:=hh;have hf:=hb;refine da (de Z2 (EJ ?_));refine ro ?_;have e:BH (λq:Value×EC=>q.2) [(Value.slice (some ⟨O,0,none⟩) 4 4,Ia n),(Value.slice (some ⟨J,0,none⟩) 4 4,Ia (HI (Ia n)))]=Hq n:=by simp [Hq]
 rw[e]at hJ;exact⟨_,rfl,z,hJ.1,λh=>Ai hf (hJ.2 h)⟩
theorem Ybs (p:EC)(vp vr:Value)(w:World)(hr:EQ (λx:Value=>[x]) 1 w vr [vp])(hp:EQ EO 1 w vp p)(hpl:p.length<=2001000020) :
  Calls Tryz.prog 82 [vr].toArray w (ES w (λu w'=>(1048576<p.length/\u=.tuple #[.slice none 0 0,I 5])\/(p.length<=1048576/\∃v,u=.tuple #[v,I 0]/\EQ EO 1 w' v (EG p)/\w.heap.size<=(base v).1))):=by
 refine cw Tryz.func82 ?_;have r:=ED.refl w;refine ws λ_ Z1=>wr (da (da (de Z1 (ws λ_ Z2=>wr (da (de Z2 (ws λ_ Z3=>ws λ_ Z4=>wr (dm ?_))))))));refine dv 82 1 hr.sl (dm (de Z4 (EM ?_)));refine Fq (G:=Nat×Nat) (λ(k,n)=>[(0,vr),(2,.slice none 0 0),(3,I 0),(4,I ↑n),(8,vr),(9,I 1),(10,I ↑k)]) (λ(k,n) w'=>ED w w'/\k<=1/\n=if k=0 then 0 else p.length) (λ(k,n)=>1-k) (0,0) ?_ ?_ ?_
 ·exact Gb
 ·exact⟨r,Ae _,rfl⟩
 intro X1 g1 w1 hw;obtain⟨k,n⟩:=g1;clear r;obtain⟨r,hk1,hn⟩:=hw;refine ws λ_ Z5=>wr (dp (Fb rfl rfl) (de Z5 (ws λ_ Z6=>wi (λc1=>?_) λc1=>?_)))
 ·have ha:[vp][k]?=some vp:=by
   have e:k=0:=by omega
   subst e;rfl
  have hn0:n=0:=by rw[hn,if_pos EB]
  refine EI (Z6 _ _ (ws λ_ Z7=>EM (ws λ_ Z8=>wr (di 82 1 hr.sl rfl (hr.lt ha) (dl rfl (((hr.ext r).row ha).at0 rfl) (da (de Z8 (wr (dm (dm ?_))))))))));refine dv 5 1 (hp.ext r).sl (pa rfl rfl (da (de Z7 (wr ?_))));refine pa rfl rfl (dm (EH (?_)));refine⟨(k+1,n+p.length),Gb,⟨r,by omega,by rw[if_neg EB];omega⟩,by simp only [];omega⟩
 rw[if_neg EB]at hn;subst hn;refine Fk (Z3 _ _ (ws λ_ Z9=>ws λ_ hj=>wr (dm ?_)));refine dp (Gg rfl rfl) (de hj (wi (λc2=>?_) λc2=>?_))
 ·refine ws λ_ hy=>wr (da (da (de hy (EJ ?_))));refine rt ?_;exact⟨_,rfl,r,.inl ⟨by omega,rfl⟩⟩
 refine EI (Z9 _ _ (ws λ_ hg=>wr (dm ?_)));refine dp (SV rfl EA EA) (cG (W4 _ _) RX.all λuh w2 x2 hh=>?_);have hsz2:=r.size;have r:=r.trans x2;have Y:=hh.1;refine dm ?_;refine cG (Oo [(vp,p)] vr _ (hr.ext r) (by intro q h;simp only [Aj,Ct,or_false]at h;rw[h];exact hp.ext r) (by simp;omega) ER) RX.all λup w3 x3 hz=>?_;have hsz3:=r.size;have Y:=Y.ext x3;have r:=r.trans x3;have hP:=hz.1;rw[show BH (λq:Value×EC=>q.2) [(vp,p)]=p by simp]at hP;refine It (e:=82) (sz:=1) (zs:=[.slice none 0 0]) (pv:=[(0,?a17_0),(1,?a17_1)]) (cs:=[?a17_0,?a17_1]) rfl EA ⟨rfl,rfl⟩ EA rfl ?h17 ?f17 RX.all (λb1 w4 e1 x4 m1=>?k17)
 case h17=>refine⟨rfl,?_,rfl,?_,trivial⟩<;>(conv=>lhs;whnf)
 case f17=>simp [H7,EY,Ax,Y.sl.cells,hP.sl.cells]
 have g1:=r.ge e1;have a1_hH:=EQ.base_lt Y EN;have Y:=Y.ext x4;have hP:=hP.ext x4;have r:=r.trans x4;refine cG (Oo [(uh,Hq (AL p.length)),(up,p)] _ _ (m1.arr (enc:=λq:Value×EC=>[q.1]) (sz:=1) (l:=[(uh,Hq (AL p.length)),(up,p)]) rfl EF rfl ER) (by intro q h;simp only [Aj,Ct,or_false]at h;rcases h with rfl|rfl<;>first|exact Y|exact hP) (by simp [JE];omega) ER) RX.all λub w5 x5 hl=>?_;have hsz5:=r.size;have r:=r.trans x5;have J:=hl.1;rw[show BH (λq:Value×EC=>q.2) [(uh,Hq (AL p.length)),(up,p)]=Hq (AL p.length)++p by simp]at J;refine da (de hg (ws λ_ hf=>wr (dm (dm ?_))));refine It (e:=82) (sz:=1) (zs:=[.slice none 0 0]) (pv:=[(0,?a21_0)]) (cs:=[?a21_0]) rfl EA ⟨rfl,rfl⟩ EA rfl ?h21 ?f21 RX.all (λb2 w6 e2 x6 m2=>?k21)
 case h21=>refine⟨rfl,?_,trivial⟩<;>(conv=>lhs;whnf)
 case f21=>simp [H7,EY,Ax,J.sl.cells]
 have g2:=r.ge e2;have J:=J.ext x6;have r:=r.trans x6;refine cP (QO (Hq (AL p.length)++p) ub _ _ (m2.arr (enc:=λx:Value=>[x]) (sz:=1) (l:=[ub]) rfl EF rfl ER) J (by simp [JE];omega)) RX.all λw7 x7=>?_;have J:=J.ext x7;have r:=r.trans x7;refine cG (Pf _ _) RX.all λu8 w8 x8 hc=>?_;have hsz8:=r.size;have J:=J.ext x8;have r:=r.trans x8;obtain⟨O,rfl,hge32,z⟩:=hc;refine It (e:=82) (sz:=1) (zs:=[.slice none 0 0]) (pv:=[(0,?a22_0),(1,?a22_1)]) (cs:=[?a22_0,?a22_1]) rfl EA ⟨rfl,rfl⟩ EA rfl ?h22 ?f22 RX.all (λb3 w9 e3 x9 m3=>?k22)
 case h22=>refine⟨rfl,?_,rfl,?_,trivial⟩<;>(conv=>lhs;whnf)
 case f22=>simp [H7,EY,Ax,J.sl.cells,z.sl.cells]
 have g3:=r.ge e3;have J:=J.ext x9;have z:=z.ext x9;have r:=r.trans x9;refine cG (Oo [(ub,Hq (AL p.length)++p),(Value.slice (some ⟨O,0,none⟩) 4 4,Ia (HI (Hq (AL p.length)++p)))] _ _ (m3.arr (enc:=λq:Value×EC=>[q.1]) (sz:=1) (l:=[(ub,Hq (AL p.length)++p),(Value.slice (some ⟨O,0,none⟩) 4 4,Ia (HI (Hq (AL p.length)++p)))]) rfl EF rfl ER) (by intro q h;simp only [Aj,Ct,or_false]at h;rcases h with rfl|rfl<;>first|exact J|exact z) (by simp [JE,RD];omega) ER) RX.all λu10 w10 ht hb=>?_;have Z:=r.size;have r:=r.trans ht;have hJ:=hb;have hq:=Z;refine da (da (de hf (EJ ?_)));refine rt ?_;have e:BH (λq:Value×EC=>q.2) [(ub,Hq (AL p.length)++p),(Value.slice (some ⟨O,0,none⟩) 4 4,Ia (HI (Hq (AL p.length)++p)))]=EG p:=by simp [EG]
 rw[e]at hJ;exact⟨_,rfl,r,.inr ⟨by omega,_,rfl,hJ.1,Ai hq (hJ.2 (λh=>by have:=Jm p;rw[h]at this;simp at this))⟩⟩
theorem Ow (p q:EC)(vp vq:Value)(w:World)(hp:EQ EO 1 w vp p)(hq:EQ EO 1 w vq q) :
  Calls Tryz.prog 122 [vp,vq].toArray w (Pure w (B (decide (p=q)))):=by
 refine cw Tryz.func122 ?_;have r:=ED.refl w;refine ws λ_ z=>wr (da (de z (ws λ_ J=>KW [.p,.l,.p,.l,.p,.p] rfl (dm ?_))));refine dq (Kq EA EA ((hp.ext r)) rfl) (dm ?_);refine dq (Kq EA EA ((hq.ext r)) rfl) (dp (MU rfl rfl) (da (de J (EJ ?_))));refine ro ?_;exact⟨rfl,r⟩
theorem Wg (b:EC)(vb:Value)(w:World)(hb:EQ EO 1 w vb b)(hbl:b.length<=2001000020) :
  Calls Tryz.prog 259 [vb].toArray w (ES w (λu w'=>∃v,u=.tuple #[v,I (Ge b).2.1,I (Ge b).2.2]/\Vc.Own EO 1 5 w.heap.size w' v (Ge b).1)):=by
 refine cw Tryz.func259 ?_;have r:=ED.refl w;refine ws λ_ Z1=>wr (da (da (da (de Z1 (ws λ_ Z2=>ws λ_ Z3=>wr (dm ?_))))));refine dv 5 1 (hb.ext r).sl (dp (Fb rfl rfl) (de Z3 (wi (λc1=>?_) λc1=>?_)))
 ·refine ws λ_ Z4=>wr (da (da (da (de Z4 (EJ ?_)))));refine Ni ?_;rw[X82 EB];exact⟨_,rfl,r,_,rfl,Vc.Own.nil⟩
 have O:¬ b.length<8:=by omega
 refine EI (Z2 _ _ (ws λ_ Z5=>wr (dm ?_)));refine cP (WK b vb _ (hb.ext r) EB) RX.all λw1 x1=>?_;have r:=r.trans x1;refine da (de Z5 (ws λ_ Z6=>EM (ws λ_ Z7=>?_)));refine F9 (R:=ED) ED.refl (λ_ _ _=>ED.trans) EA [] [(0,.p,false),(1,.p,false),(2,.p,false),(3,.x,true),(4,.x,true),(5,.p,false),(6,.p,false)] rfl EA EA (λw2 J=>?_);have x2:=EL J;clear J;have r:=r.trans x2;refine dm ?_;refine dp (IS (e:=5) (k:=1) EA (hb.ext r).sl rfl rfl rfl (Ae _) (show(8:Nat)<=b.length by omega)) (dm ?_);refine cG (W4 (Gp b) _) RX.all λu3 w3 x3 hp=>?_;have hsz3:=r.size;have r:=r.trans x3;have hH:=hp.1;refine cP (Ow (b.take 8) (Hq (Gp b)) _ _ _ (((by have:=hb.slice (lo:=0) (hi:=8) EB EB;rwa [Ch]at this):EQ EO 1 w (G7 1 vb 0 8) (b.take 8)).ext r) hH) RX.all λw4 x4=>?_;have r:=r.trans x4;refine dn (da (de Z7 ?_));refine wc (λc2=>?_) λc2=>?_
 ·refine ws λ_ Z8=>wr (da (da (da (de Z8 (EJ ?_)))));refine Ni ?_;rw[X83 O (by simpa using c2)];exact⟨_,rfl,r,_,rfl,Vc.Own.nil⟩
 have h2:b.take 8=Hq (Gp b):=by simpa using c2
 refine ws λ_ Z9=>wr (dm ?_);refine dp (Gg rfl rfl) (da (de Z9 ?_));refine wi (λc3=>?_) λc3=>?_
 ·refine ws λ_ hl=>wr (da (da (da (de hl (EJ ?_)))));refine Ni ?_;rw[X84 O h2 EB];exact⟨_,rfl,r,_,rfl,Vc.Own.nil⟩
 refine ws λ_ hj=>wr (dm ?_);refine dv 5 1 (hb.ext r).sl (ps rfl rfl (ps rfl rfl (dm ?_)));refine dp (Ua rfl EA EA) (dp (Fb rfl rfl) (da (de hj ?_)));refine wi (λc4=>?_) λc4=>?_
 ·refine ws λ_ hh=>wr (da (da (da (de hh (EJ ?_)))));refine Ni ?_;rw[X85 O h2 EB EB];exact⟨_,rfl,r,_,rfl,Vc.Own.nil⟩
 have hn8:8+(Gp b).toNat+4<=b.length:=by omega
 have Y:EQ EO 1 w (G7 1 vb 0 (8+(Gp b).toNat)) (b.take (8+(Gp b).toNat)):=by
  have:=hb.slice (lo:=0) (hi:=8+(Gp b).toNat) EB EB;rwa [Ch]at this
 have z:(b.take (8+(Gp b).toNat)).length=8+(Gp b).toNat:=by rw[A5];omega
 have hD:EQ EO 1 w (G7 1 vb (b.take (8+(Gp b).toNat)).length b.length) (b.drop (8+(Gp b).toNat)):=by
  rw[z];have:=hb.slice (lo:=8+(Gp b).toNat) (hi:=b.length) EB EB;rwa [AI]at this
 refine EI (Z6 _ _ (ws λ_ hc=>wr (dm (dm ?_))));refine dp (Ua rfl EA EA) (pa rfl rfl (dp (IS (e:=5) (k:=1) EA (hb.ext r).sl rfl rfl rfl (Ae _) (show 8+(Gp b).toNat<=b.length by omega)) (da (de hc (ws λ_ ha=>ws λ_ Z=>wr (dm (dm ?_)))))));refine dv 5 1 (Y.ext r).sl (dp (IS (e:=5) (k:=1) EA (hb.ext r).sl rfl rfl rfl (show(b.take (8+(Gp b).toNat)).length<=b.length by rw[z];omega) (Ab _)) (cP (WK (b.drop (8+(Gp b).toNat)) (G7 1 vb (b.take (8+(Gp b).toNat)).length b.length) _ (hD.ext r) (by rw[Bh];omega)) RX.all λw5 x5=>?_));have r:=r.trans x5;refine dm ?_;refine It (e:=82) (sz:=1) (zs:=[.slice none 0 0]) (pv:=[(0,?a34_0)]) (cs:=[?a34_0]) rfl EA ⟨rfl,rfl⟩ EA rfl ?h34 ?f34 RX.all (λb1 w6 e1 x6 m1=>?k34)
 case h34=>refine⟨rfl,?_,trivial⟩<;>(conv=>lhs;whnf)
 case f34=>rcases hb.sl with⟨e,_⟩|⟨_,_,_,e,_⟩|⟨_,_,_,e⟩<;>rw[e]<;>rfl
 have g1:=r.ge e1;have r:=r.trans x6;refine cP (QO (b.take (8+(Gp b).toNat)) (G7 1 vb 0 (8+(Gp b).toNat)) _ _ (m1.arr (enc:=λx:Value=>[x]) (sz:=1) (l:=[G7 1 vb 0 (8+(Gp b).toNat)]) rfl EF rfl ER) (Y.ext r) EB) RX.all λw7 x7=>?_;have r:=r.trans x7;refine dp (FH rfl rfl) (de Z (wi (λc5=>?_) λc5=>?_))
 ·refine ws λ_ hg=>wr (da (da (da (de hg (EJ ?_)))));refine Ni ?_;rw[X86 O h2 EB EB (W8.1 c5)];exact⟨_,rfl,r,_,rfl,Vc.Own.nil⟩
 refine EI (ha _ _ (ws λ_ hf=>wr (dm ?_)));refine dp (IS (e:=5) (k:=1) EA (Y.ext r).sl rfl rfl rfl (show(8:Nat)<=(b.take (8+(Gp b).toNat)).length by omega) (Ab _)) (cG (L7 _ _ _ ((by have:=Y.slice (lo:=8) (hi:=(b.take (8+(Gp b).toNat)).length) EB EB;rwa [AI]at this:EQ EO 1 w (G7 1 (G7 1 vb 0 (8+(Gp b).toNat)) 8 (b.take (8+(Gp b).toNat)).length) ((b.take (8+(Gp b).toNat)).drop 8)).ext r) (by rw[Bh];omega)) RX.all λu8 w8 x8 hO=>?_);have hsz8:=r.size;have r:=r.trans x8;refine dm ?_;refine dv 5 1 (Y.ext r).sl (pa rfl rfl (da (da (da (de hf (EJ ?_))))));refine Ni ?_;rw[X87 O h2 EB EB (AK λh=>c5 (W8.2 h))];exact⟨_,rfl,r,_,by rw[z],hO.mono EB⟩
theorem WB (b:EC)(vb:Value)(w:World)(hb:EQ EO 1 w vb b)(hbl:b.length<=2001000020) :
  Calls Tryz.prog 195 [vb].toArray w (ES w (λu w'=>∃v,u=.tuple #[v,I (HO b).2]/\Vc.Own EO 1 5 w.heap.size w' v (HO b).1)):=by
 refine cw Tryz.func195 ?_;have r:=ED.refl w;refine ws λ_ Z1=>wr (da (da (de Z1 (ws λ_ Z2=>wr (dm ?_)))));refine cG (Wg b vb _ (hb.ext r) hbl) RX.all λu1 w1 x1 O=>?_;have hsz1:=r.size;have r:=r.trans x1;obtain⟨vd,rfl,Y⟩:=O;refine dm ?_;refine dx rfl rfl (dx rfl rfl (dx rfl rfl (da (da (da (de Z2 (ws λ_ Z3=>ws λ_ Z=>wr (dm ?_))))))));refine dp (GB rfl rfl) (dm ?_);refine F4 15 rfl (λJ=>?_) (λJ=>?_)
 ·iterate 2 refine dm ?_
  refine dv 5 1 (hb.ext r).sl (dp (FH rfl rfl) (EP (de Z ?_)));refine wi (λz=>?_) λz=>?_
  ·refine ws λ_ Z5=>wr (da (da (de Z5 (EJ ?_))));refine rt ?_;rw[show HO b=([],3) from if_pos ⟨J,z⟩];exact⟨_,rfl,r,_,rfl,Vc.Own.nil⟩
  refine EI (Z3 _ _ (ws λ_ Z6=>wr (dm (dm (da (da (de Z6 (EJ ?_))))))));refine rt ?_;rw[show HO b=((Ge b).1,(Ge b).2.2) from if_neg (λh=>z h.2)];exact⟨_,rfl,r,_,rfl,Y⟩
 refine dk (dk (dk (dk (EP (de Z ?_)))));refine Hf rfl (EI (Z3 _ _ (ws λ_ Z7=>wr (dm (dm (da (da (de Z7 (EJ ?_)))))))));refine rt ?_;rw[show HO b=((Ge b).1,(Ge b).2.2) from if_neg (λh=>J h.1)];exact⟨_,rfl,r,_,rfl,Y⟩
end Go.Proofs.YtiooodckiddpmaaGreatDoor
namespace Go.Sp
open Go.Vc
structure Fil where
 data:EC
 lasts:Nat
deriving DecidableEq
structure Dsk where
 room:Int
 fused:Bool
 left:Int
 fs:List (EC×Fil)
namespace Dsk
def may (D:Dsk)(names:List EC):Int:=if D.fused=true/\D.left=0 then 9 else if names.all (λs=>decide (1<=s.length) && decide (s.length<=64))then 0 else 1
def tick (D:Dsk):Dsk:=if D.fused then { D with left:=D.left-1 } else D
def used (D:Dsk):Nat:=(D.fs.map λp=>p.2.data.length).sum
def full (D:Dsk)(name p:EC):Bool:=decide (D.room-D.used<p.length) || ((lk D.fs name).isNone && decide (4096<=D.fs.length))
def old (D:Dsk)(name:EC):Fil:=(lk D.fs name).getD ⟨[],0⟩
def app (D:Dsk)(name p:EC):Int×Dsk:=
 if D.may [name]≠0 then(D.may [name],D)else if D.full name p then(6,D)
 else(0,tick { D with fs:=EZ D.fs name ⟨(D.old name).data++p,(D.old name).lasts⟩ })
def each (a:EC->Dsk->Dsk):List EC->Dsk->Int×Dsk
 | [],D=>(0,D)
 | n :: r,D=>if D.may [n]≠0 then(D.may [n],D)else if(lk D.fs n).isNone then(7,D)else each a r (tick (a n D))
def lastsA (n:EC)(D:Dsk):Dsk:={ D with fs:=EZ D.fs n ⟨(D.old n).data,(D.old n).data.length⟩ }
def gone (n:EC)(D:Dsk):Dsk:={ D with fs:=FR D.fs n }
def sync (names:List EC)(D:Dsk):Int×Dsk:=each lastsA names D
def rem (names:List EC)(D:Dsk):Int×Dsk:=each gone names D
def ren (D:Dsk)(a b:EC):Int×Dsk:=
 if D.may [a,b]≠0 then(D.may [a,b],D)else match lk D.fs a with
 | none=>(7,D)
 | some f=>(0,tick { D with fs:=EZ (FR D.fs a) b f })
def read (D:Dsk)(name:EC):Option EC:=(lk D.fs name).map (·.data)
def names (D:Dsk):List EC:=(D.fs.map (·.1)).mergeSort (λx y=>decide (x<=y))
def has (D:Dsk)(name:EC):Bool:=(lk D.fs name).isSome
def readE (D:Dsk)(name:EC):Int:=if D.has name then 0 else 7
def readB (D:Dsk)(name:EC):EC:=(D.read name).getD []
def sh (name:EC):EC:=name++[126]
def save2 (D:Dsk)(name p:EC):Int×Dsk:=
 if(D.app (sh name) (EG p)).1≠0 then D.app (sh name) (EG p)else
 if((D.app (sh name) (EG p)).2.sync [sh name]).1≠0 then(D.app (sh name) (EG p)).2.sync [sh name]else((D.app (sh name) (EG p)).2.sync [sh name]).2.ren (sh name) name
def save (D:Dsk)(name p:EC):Int×Dsk:=
 if name.length<1\/60<name.length then(1,D)else if 1048576<p.length then(5,D)else
 if D.has (sh name)then(if(D.rem [sh name]).1≠0 then D.rem [sh name]else save2 (D.rem [sh name]).2 name p)else save2 D name p
def rems : List EC->Dsk->Int×Dsk
 | [],D=>(0,D)
 | n :: r,D=>if D.has n then(if(D.rem [n]).1≠0 then D.rem [n]else rems r (D.rem [n]).2)else rems r D
end Dsk
structure Led where
 base:Int
 data:EC
 ents:List EC
 dead:Bool
namespace Led
def last (L:Led):Int:=L.base+L.ents.length
def img : EC:=[115,45,105,109,103]
def logn : EC:=[115,45,108,111,103]
def ent (i:Int)(p:EC):EC:=EV i.toNat++Fs p
def append (L:Led)(D:Dsk)(p:EC):Int×Int×Led×Dsk:=
 if L.dead then(0,9,L,D)else if 65536<p.length\/1099511627776<=L.last then(0,5,L,D)else
 let r1:=D.app logn (EG (ent (L.last+1) p))
 let r2:Int×Dsk:=if r1.1=0 then r1.2.sync [logn]else r1
 if r2.1≠0 then(0,r2.1,{ L with dead:=true },r2.2)else(L.last+1,0,{ L with ents:=L.ents++[p] },r2.2)
def write (L:Led)(D:Dsk)(i:Int)(p:EC):Int×Led×Dsk:=
 if L.dead then(9,L,D)else if i<L.last\/1099511627776<i then(1,L,D)else if 524288<p.length then(5,L,D)else
 let r1:=D.save img (ent i p)
 let r2:Int×Dsk:=if r1.1=0 then r1.2.rems [logn]else r1
 if r2.1≠0 then(r2.1,{ L with dead:=true },r2.2)else(0,⟨i,p,[],false⟩,r2.2)
end Led
namespace Dsk
structure Wf (D:Dsk):Prop where
 room0:0<=D.room
 room1:D.room<=1073741824
 used:(D.used:Int)<=D.room
 left0:0<=D.left
 left1:D.left<=9223372036854775807
 name:∀p∈D.fs,1<=p.1.length/\p.1.length<=64
 lasts:∀p∈D.fs,p.2.lasts<=p.2.data.length
 nd:(D.fs.map (·.1)).Nodup
 cnt:D.fs.length<=4096
end Dsk
def Jg (l:List (EC×Fil)):Nat:=(l.map λp=>p.2.data.length).sum
theorem M8 (D:Dsk):D.used=Jg D.fs:=rfl
def J5 (l:List (EC×Fil))(n:EC):Fil:=(lk l n).getD ⟨[],0⟩
theorem Xs4 {α:Type}(l:List α)(p:α->Prop)[DecidablePred p](f:α->Nat)(c:Nat)(h:l.Pairwise λa b=>¬ (p a/\p b))(x:α)(hx:x∈l)(hp:p x):(l.map λa=>if p a then c else f a).sum+f x=(l.map f).sum+c:=by
 induction l with
 | nil=>cases hx
 | cons a r ih=>
  rw[AQ]at h;rw[An,An,AX,AX];rcases Aj.1 hx with rfl|hx
  ·rw[if_pos hp];have:r.map (λa=>if p a then c else f a)=r.map f:=Bv λb O=>if_neg λz=>h.1 b O ⟨hp,z⟩;rw[this];omega
  ·rw[if_neg λJ=>h.1 x hx ⟨J,hp⟩];have:=ih h.2 hx;omega
theorem WP {l:List (EC×Fil)}(hn:(l.map (·.1)).Nodup)(n:EC)(f:Fil):Jg (EZ l n f)+(J5 l n).data.length=Jg l+f.data.length:=by
 unfold Jg J5 EZ
 cases h:lk l n with
 | none=>simp
 | some g=>
  have hm:=P0 h;simp only [Option.isSome_some,if_true,Option.getD_some];have r:l.Pairwise λa b=>¬ (a.1=n/\b.1=n):=by
   have:=CN.1 hn;exact this.imp λh h2=>h (h2.1.trans h2.2.symm)
  have:=Xs4 l (λp=>p.1=n) (λp=>p.2.data.length) f.data.length r (n,g) hm rfl;rw[Bf];have e:(l.map ((λp:EC×Fil=>p.2.data.length) ∘ λp=>if p.1=n then(n,f)else p))=l.map λp=>if p.1=n then f.data.length else p.2.data.length:=Bv λp _=>by
   simp only [Function.comp];split<;>rfl
  rw[e];exact this
theorem TN (l:List (EC×Fil))(n:EC):Jg (FR l n)<=Jg l:=by
 unfold Jg FR
 induction l with
 | nil=>simp
 | cons p l ih=>
  rw[BC];split
  ·simp only [An,AX];omega
  ·simp only [An,AX];omega
theorem Xnm {l:List (EC×Fil)}(hn:(l.map (·.1)).Nodup)(n:EC):Jg (FR l n)+(J5 l n).data.length=Jg l:=by
 unfold Jg J5 FR
 induction l with
 | nil=>simp [Mp]
 | cons p l r=>
  rw[An,AV]at hn;have r:=r hn.2;rw[BC,IJ]
  by_cases e:p.1=n
  ·have z:lk l n=none:=LK.2 (e▸hn.1);rw[z]at r;simp [e]at r ⊢;omega
  ·rw[if_pos (by simp [e]),if_neg e,An,AX,An,AX];omega
theorem T9 {l:List (EC×Fil)}{p:EC×Fil}(h:p∈l):p.2.data.length<=Jg l:=by
 unfold Jg
 induction l with
 | nil=>cases h
 | cons q l ih=>
  rw[An,AX];rcases Aj.1 h with rfl|h
  ·omega
  ·have:=ih h;omega
theorem Od {α:Type}{l:List (EC×α)}{n:EC}{a:α}{p:EC×α}(h:p∈EZ l n a):p=(n,a)\/p∈l:=by
 unfold EZ at h;split at h
 ·obtain⟨q,r,rfl⟩:=Aq.1 h;split
  ·exact .inl rfl
  ·exact .inr r
 ·rcases Aw.1 h with h|h
  ·exact .inr h
  ·exact .inl (Ah.1 h)
theorem N8 {α:Type}(l:List (EC×α))(n:EC)(a b:α):EZ (EZ l n a) n b=EZ l n b:=by
 have h1:(lk (EZ l n a) n).isSome=true:=by rw[ID];simp
 rw[EZ.eq_def (EZ l n a),if_pos h1];unfold EZ;split
 ·rename_i h;rw[Bf];refine Bv λp _=>?_;simp only [Function.comp]
  by_cases e:p.1=n
  ·simp [e]
  ·simp [e]
 ·rename_i h;have hn:lk l n=none:=by simpa using h
  rw[List.map_append]
  congr 1
  ·conv=>rhs;rw[<-Di l]
   refine Bv λp r=>?_;have:p.1≠n:=λe=>LK.1 hn (e▸Aq.2 ⟨p,r,rfl⟩);simp [this]
  ·simp
namespace Dsk
variable {D:Dsk}
theorem Wf.data (h:D.Wf){p:EC×Fil}(hp:p∈D.fs):p.2.data.length<=1073741824:=by
 have h1:=T9 hp;have h2:=h.used;have h3:=h.room1;rw[M8]at h2;omega
theorem Wf.tick (h:D.Wf)(hl:¬ (D.fused=true/\D.left=0)):D.tick.Wf:=by
 unfold Dsk.tick;split
 ·rename_i r;have h0:D.left≠0:=λe=>hl ⟨r,e⟩;exact⟨h.room0,h.room1,h.used,by have:=h.left0;simp only;omega,by have:=h.left1;simp only;omega,h.name,h.lasts,h.nd,h.cnt⟩
 ·exact h
theorem Wf.set (h:D.Wf){n:EC}{f:Fil}(hn:1<=n.length/\n.length<=64)(hl:f.lasts<=f.data.length)(hr:(D.used:Int)+f.data.length<=D.room+(D.old n).data.length)(hc:(lk D.fs n).isSome=true\/D.fs.length<4096):Wf { D with fs:=EZ D.fs n f }:=by
 refine⟨h.room0,h.room1,?_,h.left0,h.left1,λp r=>?_,λp r=>?_,Mu n f h.nd,?_⟩
 ·have:=WP h.nd n f;have e:D.old n=J5 D.fs n:=rfl;rw[e]at hr;rw[M8]at hr ⊢;simp only;omega
 ·rcases Od r with rfl|r
  ·exact hn
  ·exact h.name p r
 ·rcases Od r with rfl|r
  ·exact hl
  ·exact h.lasts p r
 ·simp only;rw[RL];have:=h.cnt;split
  ·exact this
  ·rename_i h2;rcases hc with h3|h3
   ·exact absurd h3 h2
   ·omega
theorem Wf.gone (h:D.Wf)(n:EC):(D.gone n).Wf:=by
 refine⟨h.room0,h.room1,?_,h.left0,h.left1,λp r=>h.name p (A3.1 r).1,λp r=>h.lasts p (A3.1 r).1,Pq n h.nd,Ai (BI ..) h.cnt⟩;have h1:=TN D.fs n;have h2:=h.used;rw[M8]at h2 ⊢;simp only [Dsk.gone];omega
theorem may_names {names:List EC}(h:D.may names=0):∀s∈names,1<=s.length/\s.length<=64:=by
 unfold Dsk.may at h;split at h
 ·cases h
 ·split at h
  ·rename_i h2;intro s hs;simpa using AY.1 h2 s hs
  ·cases h
theorem may_live {names:List EC}(h:D.may names=0):¬ (D.fused=true/\D.left=0):=by
 unfold Dsk.may at h;split at h
 ·cases h
 ·assumption
end Dsk
end Go.Sp
namespace Go.Vc
open Go.RowKit
structure OwnC {α:Type}(enc:α->List Value)(sz T:Nat)(B:Nat)(w:World)(v:Value)(l:List α):Prop where
 len:(l.flatMap enc).length=l.length*sz
 row:(v=.slice none 0 0/\l.length=0)\/∃g cap cur,v=.slice (some ⟨g,0,none⟩) l.length cap/\B<=g/\w.heap[g]?=some (.cells cur T (0,0))/\l.length<=cap/\cap<=maxLen/\cap*sz<=cur.size/\cur.toList.take (l.length*sz)=l.flatMap enc
section
variable {α:Type}{enc:α->List Value}{sz T B:Nat}{w w':World}{v:Value}{l:List α}
theorem OwnC.nil : OwnC enc sz T B w (.slice none 0 0) []:=⟨by simp,.inl ⟨rfl,rfl⟩⟩
theorem Own.c (h:Own enc sz T B w v l):OwnC enc sz T B w v l:=by
 obtain⟨h1,h2⟩:=h.row;refine⟨h1,h2.imp id ?_⟩;rintro ⟨g,cap,cur,a,b,c,d,e,f,k⟩;exact⟨g,cap,cur,a,b,c,d,e,BJ f.symm,k⟩
theorem OwnC.lt (h:OwnC enc sz T B w v l):∀k,v.ownBlock=some k->B<=k/\k<w.heap.size:=by
 intro k hk;rcases h.row with⟨rfl,_⟩|⟨g,cap,cur,rfl,hb,hg,_⟩
 ·cases hk
 ·cases hk
  exact⟨hb,(Array.getElem?_eq_some_iff.1 hg).1⟩
theorem OwnC.mod {S:Nat->Prop}(h:OwnC enc sz T B w v l)(m:Mod S w w')(hS:∀k,v.ownBlock=some k->¬ S k):OwnC enc sz T B w' v l:=by
 refine⟨h.len,?_⟩;rcases h.row with h2|⟨g,cap,cur,hv,hg,hh,r⟩
 ·exact Or.inl h2
 ·have z:g<w.heap.size:=(h.lt g (by rw[hv];rfl)).2;exact Or.inr ⟨g,cap,cur,hv,hg,by rw[m.block g z (hS g (by rw[hv];rfl))];exact hh,r⟩
theorem OwnC.ext (h:OwnC enc sz T B w v l)(m:ED w w'):OwnC enc sz T B w' v l:=h.mod m (λ_ _ h=>h)
theorem OwnC.sl (h:OwnC enc sz T B w v l):Gd v l.length:=by
 rcases h.row with⟨h2,h3⟩|⟨g,cap,cur,hv,hg,hh,hn,_⟩
 ·exact .inl ⟨h2,h3⟩
 ·exact .inr (.inl ⟨g,0,cap,hv,hn⟩)
theorem OwnC.cellsAt (h:OwnC enc sz T B w v l){g:Nat}(hg:v.ownBlock=some g):∀j u,(l.flatMap enc)[j]?=some u->w.cell? ((⟨g,0,none⟩:Addr).add j)=some u:=by
 intro j u hu;rcases h.row with⟨rfl,_⟩|⟨g',cap,cur,rfl,_,hgg,_,_,_,htake⟩
 ·cases hg
 ·cases hg
  have r:(⟨g',0,none⟩:Addr).add j=⟨g',j,none⟩:=by
   unfold Addr.add;split
   ·rename_i e;rw[e]
   ·simp
  rw[r,cell_of_row w g' j cur T (0,0) hgg];rw[<-htake,AW]at hu;split at hu
  ·simpa using hu
  ·cases hu
theorem OwnC.arr (henc:∀x,(enc x).length=sz)(h:OwnC enc sz T B w v l):EQ enc sz w v l:=by
 refine⟨by rw[Ao];exact h.sl,λi cs hi=>?_⟩;rw[AD]at hi
 cases hx:l[i]? with
 | none=>rw[hx]at hi;cases hi
 | some x=>
  rw[hx]at hi;simp only [Br,A0.injEq]at hi;subst hi;refine⟨henc x,λj u z=>?_⟩;rcases h.row with⟨rfl,h3⟩|⟨g,cap,cur,rfl,hg,hh,hn,_⟩
  ·have:=A4 h3;subst this;simp at hx
  ·have r:=h.cellsAt (g:=g) rfl (i*sz+j) u (PU henc l i x hx j u z);have J:(⟨g,0,none⟩:Addr).add (i*sz+j)=⟨g,0+i*sz+j,none⟩:=by
    unfold Addr.add;split
    ·rename_i e;have h0:i*sz=0/\j=0:=by omega
     rw[h0.1,h0.2]
    ·simp [Nat.add_assoc]
   rw[J]at r;simpa [base]using r
theorem OwnC.heap (h:OwnC enc sz T B w v l){k:Nat}(hk:v.ownBlock=some k):∃cs,w.heap[k]?=some (.cells cs T (0,0)):=by
 rcases h.row with⟨rfl,_⟩|⟨g,cap,cur,rfl,_,hg,_⟩
 ·cases hk
 ·cases hk
  exact⟨cur,hg⟩
theorem OwnC.ne_blk {T':Nat}(h:OwnC enc sz T B w v l){b:Nat}{cs:List Value}(hb:EK w b cs T')(hT:Nat.beq T T'=false):v.ownBlock≠some b:=λe=>by
 obtain⟨cs',r⟩:=h.heap e;unfold EK at hb;rw[hb]at r;simp only [A0.injEq,Obj.cells.injEq]at r;rw[r.2.1]at hT;simp at hT
theorem Xbq.ne_ownC {P:Program}{κ δ:Type}[DecidableEq κ]{k:Nat}{kv:κ->Value}{av:δ->Value}{b n:Nat}{f:κ->Option δ}(h:Vc.Xbq P k kv av w b n f)(ho:OwnC enc sz T B w v l):v.ownBlock≠some b:=λe=>by
 obtain⟨cs,h1⟩:=ho.heap e;obtain⟨es,c,h2⟩:=h.heap;rw[h1]at h2
 cases h2
def Jh (v:Value)(n:Nat):Value:=match v with
 | .slice (some a) _ _=>.slice (some a) n n
 | _=>.slice none 0 0
theorem Xe (henc:∀x,(enc x).length=sz):∀(l:List α) (k:Nat),(l.flatMap enc).take (k*sz)=(l.take k).flatMap enc
 | [],k=>by simp
 | x :: r,0=>by simp
 | x :: r,k+1=>by
  rw[List.take_succ_cons,AB,AB,Nat.succ_mul,Nat.add_comm,List.take_append,henc,Ay (by rw[henc];omega),Nat.add_sub_cancel_left,Xe henc r k]
theorem OwnC.cut (henc:∀x,(enc x).length=sz)(h:OwnC enc sz T B w v l){k:Nat}(hk:k<=l.length):OwnC enc sz T B w (Jh v k) (l.take k):=by
 refine⟨by rw[Fj henc],?_⟩;rcases h.row with⟨rfl,h0⟩|⟨g,cap,cur,rfl,hB,hc,hn,hm,hs,ht⟩
 ·have:l=[]:=A4 h0;subst this;exact .inl ⟨rfl,by simp⟩
 ·refine .inr ⟨g,k,cur,?_,hB,hc,by rw[A5];omega,by omega,Ai (AS _ EB) hs,?_⟩
  ·simp only [Jh,A5,Bg hk]
  ·rw[A5,Bg hk,<-Xe henc,<-ht,List.take_take,Bg (AS _ hk)]
theorem S1 {n k:Nat}(hv:Gd v n):(Jh v k).ownBlock=v.ownBlock:=by
 rcases hv with⟨rfl,_⟩|⟨b,o,c,rfl,_⟩|⟨_,a,c,rfl⟩<;>rfl
end
section
variable {P:Program}{n:Nat}{E:Fh}{ds:List (Option Tmp)}{R:World->World->Prop}{r:List (Oper×Fl×Bool)}{K:Fh->World->Prop}{w:World}{d:Tmp}{ty:TypeId}{pos:String}{af:Array Edge}{g:Option (Nat×Bool)}{anc:Bool}{v:Value}
theorem Wu {x y z:Operand}{T e k m b:Nat}{dd:Option Tmp}(hT:IC P T=some (e,k))(hv:Gd v m)(hx:ev E x=v)(hy:ev E y=I b)(hz:ev E z=I b)(h2:b<=m):PV P ⟨dd,.slice T x none (some y) (some z),ty,pos,af,g⟩ E (Jh v b):=λw=>by
 obtain⟨hu,i,Y,hs⟩:=JL hT;rcases hv with⟨rfl,rfl⟩|⟨bb,o,c,rfl,hc⟩|⟨rfl,ad,c,rfl⟩
 ·have Z:b=0:=by omega
  have J:(0:Int)<=(b:Int)/\(b:Int)<=((0:Nat):Int):=by omega
  have O:(0:Int)<=(b:Int)/\(b:Int)<=(b:Int):=by omega
  have key:(Instr.sliceBounds true 0 0 none (some (I (b:Int))) (some (I (b:Int)))).run P w=.ok (0,b,b) w:=by
   simp only [Instr.sliceBounds,Sem.run_bind,Sem.run_pure,Result.andThen_ok,JX J,JX O,B7]
  have e1:(Instr.sliceAt T (.slice none 0 0) none (some (I (b:Int))) (some (I (b:Int)))).run P w=.ok (Jh (.slice none 0 0) b) w:=by
   simp [Instr.sliceAt,Instr.slice,underlying,hu,key,sizeOf,typeInfo,Y,Jh];exact Z
  simp only [execOp,hx,Cn,Br,hy,hz,Sem.run_bind,e1];rfl
 ·have J:(0:Int)<=(b:Int)/\(b:Int)<=(c:Int):=by omega
  have O:(0:Int)<=(b:Int)/\(b:Int)<=(b:Int):=by omega
  have key:(Instr.sliceBounds true m c none (some (I (b:Int))) (some (I (b:Int)))).run P w=.ok (0,b,b) w:=by
   simp only [Instr.sliceBounds,Sem.run_bind,Sem.run_pure,Result.andThen_ok,JX J,JX O,B7]
  have ha:(⟨bb,o,none⟩:Addr).add 0=⟨bb,o,none⟩:=by unfold Addr.add;rfl
  have e1:(Instr.sliceAt T (.slice (some ⟨bb,o,none⟩) m c) none (some (I (b:Int))) (some (I (b:Int)))).run P w=.ok (Jh (.slice (some ⟨bb,o,none⟩) m c) b) w:=by
   simp [Instr.sliceAt,Instr.slice,underlying,hu,key,sizeOf,typeInfo,Y,hs,Jh,ha]
  simp only [execOp,hx,Cn,Br,hy,hz,Sem.run_bind,e1];rfl
 ·have Z:b=0:=by omega
  have J:(0:Int)<=(b:Int)/\(b:Int)<=(c:Int):=by omega
  have O:(0:Int)<=(b:Int)/\(b:Int)<=(b:Int):=by omega
  have key:(Instr.sliceBounds true 0 c none (some (I (b:Int))) (some (I (b:Int)))).run P w=.ok (0,b,b) w:=by
   simp only [Instr.sliceBounds,Sem.run_bind,Sem.run_pure,Result.andThen_ok,JX J,JX O,B7]
  have e1:(Instr.sliceAt T (.slice (some ad) 0 c) none (some (I (b:Int))) (some (I (b:Int)))).run P w=.ok (Jh (.slice (some ad) 0 c) b) w:=by
   simp [Instr.sliceAt,Instr.slice,underlying,hu,key,sizeOf,typeInfo,Y,hs,Jh];exact λh9=>absurd Z h9
  simp only [execOp,hx,Cn,Br,hy,hz,Sem.run_bind,e1];rfl
theorem Xpl {α:Type}{enc:α->List Value}{t e sz B:Nat}{i:TypeInfo}{z:Value}{l lx:List α}(ht:P.underlying t=some (.slice e))(hi:P.info? e=some i)(hz:i.zero=some z)(hsize:i.size=sz)(hzs:z.cells.size=sz)(hsz:0<sz)
  (henc:∀x,(enc x).length=sz) (hown:OwnC enc sz e B w v l) (a:Addr) (c:Nat) (hnews:∀j u,(lx.flatMap enc)[j]?=some u->w.cell? (a.add j)=some u) (h1:∀u∈lx.flatMap enc,u.oneCell'=true)
  (h63:l.length+lx.length<=maxLen) (hbytes:(l.length+lx.length)*i.bytes<=140737488355328) (hB:B<=w.heap.size) :
  ∃v' w',(Builtin.append_ #[t,t] ty #[v,.slice (some a) lx.length c]).run P w=.ok v' w'/\OwnC enc sz e B w' v' (l++lx)/\w.grownBy w' v.ownBlock/\(v'.ownBlock=v.ownBlock\/v'.ownBlock=some w.heap.size):=by
 subst hsize;have hsmall:l.length+lx.length<=9223372036854775807:=by unfold maxLen at h63;omega
 have O:=Fj henc (l++lx);have hb:=Fj henc l;have J:=Fj henc lx;have Y:(l++lx).length=l.length+lx.length:=Aa;rcases hown.row with⟨rfl,hl0⟩|⟨g,cap,cur,rfl,hBg,hg,hnc,hcm,hcs,htake⟩
 ·have hl:=A4 hl0;subst hl;obtain⟨v',w',Z,h2,h3,_⟩:=run_append_own (P:=P) w B t ty e i z i.size i.bytes ht hi hz rfl rfl hzs hsz (.slice none 0 0) 0 [] (World.ownsRow_nil w B e i.size) a lx.length c (lx.flatMap enc) J hnews h1 (by simpa using h63) (by simpa using hbytes) hB;have hw:=RE (P:=P) ht hi hz hzs (World.ownsRow_nil w B e i.size) a lx.length c (lx.flatMap enc) J hnews h1 (by simpa using h63) (by simpa using hbytes) Z;exact⟨v',w',Z,Own.c ⟨by simpa using h2⟩,h3,hw⟩
 by_cases hroom:l.length+lx.length<=cap
 ·have ha:l.length*i.size+(lx.flatMap enc).length<=cur.size:=by
   rw[J,<-Co];exact Ai (AS _ hroom) hcs
  have Z:=run_append_room (P:=P) w t ty e i ht hi g l.length cap cur hg a lx.length c (lx.flatMap enc) J hnews h1 hroom ha;refine⟨_,_,Z,⟨O,.inr ⟨g,cap,_,by rw[Y],hBg,setRow_heap w g cur _ e _ hg,by omega,hcm,?_,?_⟩⟩,⟨rfl,rfl,rfl,by simp,λk _ hk=>setRow_other w g k _ (λe=>hk (by simp [Value.ownBlock,e]))⟩,.inl rfl⟩
  ·simp only [Dd,Aa,A5,Bh,Array.length_toList];omega
  ·rw[htake,AU,<-O,AU];exact Ec
 ·have Z:=run_append_grow (P:=P) w t ty e i z ht hi hz ⟨g,0,none⟩ l.length cap (l.flatMap enc) hb (hown.cellsAt (g:=g) rfl) a lx.length c (lx.flatMap enc) J hnews EB EB (growslice_fits EB hbytes);have hc:=grownCap_ge w (l.length+lx.length) cap e;refine⟨_,_,Z,⟨O,.inr ⟨w.heap.size,_,_,by rw[Y],hB,heap_alloc_new w.drew _,by rw[Y];exact hc,grownCap_le_maxLen w _ cap e h63,?_,?_⟩⟩,⟨rfl,rfl,rfl,by simp,λk hk _=>heap_alloc_old w.drew _ hk⟩,.inr rfl⟩
  ·refine BJ ?_;simp only [Array.size_append,Dd,size_zeroCells,hzs,hb,J,<-Co]
   congr 1
   omega
  ·rw[AU]at O ⊢;simp only [Array.toList_append,A7];rw[<-A7,<-O];exact Ec
theorem VK {α:Type}{enc:α->List Value}{s x:Operand}{t e sz by' B:Nat}{vx:Value}{l lx:List α}(hg:FK ds E g=true)(ht:IC P t=some (e,sz))(hE:M5 P e sz by'=true)
  (henc:∀x,(enc x).length=sz) (hown:OwnC enc sz e B w v l) (hax:EQ enc sz w vx lx) (hs:ev E s=v) (hx:ev E x=vx) (h1:∀x∈lx,∀u∈enc x,u.oneCell'=true)
  (hbytes:(l.length+lx.length)*by'<=140737488355328) (hby:1<=by') (hB:B<=w.heap.size) (hR:anc=true\/∀w',Mod (λk=>v.ownBlock=some k) w w'->R w w')
  (h:∀v' w',OwnC enc sz e B w' v' (l++lx)->Mod (λk=>v.ownBlock=some k) w w'->(v'.ownBlock=v.ownBlock\/v'.ownBlock=some w.heap.size)->Dw P n ds R r K (FT E d v') w') :
  Dw P n ds R ((⟨some d,.call { callee:=.builtin .append,args:=#[s,x],argTypes:=#[t,t] },ty,pos,af,g⟩,.x,anc) :: r) K E w:=by
 obtain⟨hu,_⟩:=JL ht;obtain⟨i,z,hi,hz,O,hb,hh,hp⟩:=Ov hE;have hl:l.length+lx.length<=maxLen:=by
  unfold maxLen;have:(l.length+lx.length)*1<=(l.length+lx.length)*by':=Nat.mul_le_mul_left _ hby;omega
 have Z:∀w',Mod (λk=>v.ownBlock=some k) w w'->anc=false->R w w':=λw' hm e=>hR.elim (λh=>by rw[h]at e;cases e) (λh=>h _ hm);have go:∀(a:Addr) (c:Nat),vx=.slice (some a) lx.length c->(∀j u,(lx.flatMap enc)[j]?=some u->w.cell? (a.add j)=some u)->Dw P n ds R ((⟨some d,.call { callee:=.builtin .append,args:=#[s,x],argTypes:=#[t,t] },ty,pos,af,g⟩,.x,anc) :: r) K E w:=by
  intro a c hv J;obtain⟨v',w',hr,h2,h3,hw⟩:=Xpl (ty:=ty) hu hi hz O hh hp henc hown a c J (PQ h1) hl (by rw[hb];exact hbytes) hB;refine HM (w':=w') (v:=v') hg ?_ (Z _ (Mod.of_grown h3)) (h v' w' h2 (Mod.of_grown h3) hw);simp only [execOp,resolve,invoke,builtin,Sem.run_bind,Sem.run_pure,Result.andThen_ok,BY,An,Be,hs,hx,hv,hr]
 rcases hax.sl with⟨hv,hl0⟩|⟨b,o,c,hv,hc⟩|⟨hl0,a,c,hv⟩
 ·have Y:=A4 hl0;subst Y;subst hv;have hf:(Builtin.append_ #[t,t] ty #[v,.slice none 0 0]).run P w=.ok v w:=by
   rcases hown.sl with⟨rfl,hn⟩|⟨b,o,c,rfl,hn⟩|⟨hn,a,c,rfl⟩
   ·simp [Builtin.append_,run_underlying hu,sizeOf,typeInfo,hi,Builtin.lenOf,Builtin.firstCells]
   ·simp [Builtin.append_,run_underlying hu,sizeOf,typeInfo,hi,Builtin.lenOf,Builtin.firstCells,hn,storeCells]
   ·simp [Builtin.append_,run_underlying hu,sizeOf,typeInfo,hi,Builtin.lenOf,Builtin.firstCells,hn,storeCells]
  refine HM (w':=w) (v:=v) hg ?_ (Z _ (Mod.refl _ _)) (h v w (by simpa using hown) (Mod.refl _ _) (.inl rfl));simp only [execOp,resolve,invoke,builtin,Sem.run_bind,Sem.run_pure,Result.andThen_ok,BY,An,Be,hs,hx,hf]
 ·subst hv;refine go ⟨b,o,none⟩ c rfl (λj u hj=>?_);have:=EQ.flat henc hax j u hj;have ha:(⟨b,o,none⟩:Addr).add j=⟨b,o+j,none⟩:=by
   unfold Addr.add;split
   ·rename_i e;simp [e]
   ·rfl
  rw[ha];exact this
 ·have Y:=A4 hl0;subst Y;exact go a c hv (λj u hj=>by simp at hj)
end
end Go.Vc
namespace Go.Proofs.YtiooodckiddpmaaGreatDoor
open Go.Vc Go.Sp
attribute [local irreducible] W XW Dw Gs
theorem GR : MapK Tryz.prog 120 9 123 S pO (λs=>s.length<=maxLen):=ML EA EA Qc
def Gx (F:Nat->Prop)(w w':World):Nat->Prop:=λk=>F k\/(w.heap.size<=k/\k<w'.heap.size)
theorem HT {F:Nat->Prop}{w w':World}(h:∀k,F k->k<w.heap.size)(hs:w.heap.size<=w'.heap.size):∀k,Gx F w w' k->k<w'.heap.size:=λk hk=>hk.elim (λh1=>Az (h k h1) hs) (·.2)
structure Fm where
 name:EC
 b:Nat
 v:Value
 f:Fil
@[reducible] def Fm.kv (e:Fm):EC×Option Nat:=(e.name,some e.b)
@[reducible] def Fm.df (e:Fm):EC×Fil:=(e.name,e.f)
@[reducible] def Fm.foot (e:Fm):Nat->Prop:=λk=>k=e.b\/e.v.ownBlock=some k
def fe (es:List Fm)(s:EC):Option Fm:=es.find? λe=>decide (e.name=s)
theorem M1 (es:List Fm)(s:EC):lk (es.map Fm.kv) s=(fe es s).map λe=>some e.b:=by
 induction es with
 | nil=>rfl
 | cons e r ih=>
  rw[An,IJ];unfold fe at ih ⊢;rw[CO]
  by_cases h:e.name=s
  ·simp [h]
  ·simp [h];exact ih
theorem TS (es:List Fm)(s:EC):lk (es.map Fm.df) s=(fe es s).map (·.f):=by
 induction es with
 | nil=>rfl
 | cons e r ih=>
  rw[An,IJ];unfold fe at ih ⊢;rw[CO]
  by_cases h:e.name=s
  ·simp [h]
  ·simp [h];exact ih
theorem Nw {es:List Fm}{s:EC}{e:Fm}(h:fe es s=some e):e∈es/\e.name=s:=⟨List.mem_of_find?_eq_some h,by simpa using List.find?_some h⟩
structure DiskE (F:Nat->Prop)(bd mf:Nat)(es:List Fm)(D:Dsk)(w:World):Prop where
 m:EK w bd [I D.room,.map (some mf),B D.fused,I D.left] 122
 map:FE Tryz.prog 9 S pO w mf (es.map Fm.kv)
 fs:D.fs=es.map Fm.df
 el:∀e∈es,EK w e.b [e.v,I ↑e.f.lasts] 125/\Vc.OwnC EO 1 5 0 w e.v e.f.data
 ap:es.Pairwise (λa b=>∀k,a.foot k->¬ b.foot k)
 inF:∀k,(k=bd\/k=mf\/∃e∈es,e.foot k)->F k
 lt:∀k,F k->k<w.heap.size
 wf:D.Wf
def FSq (F:Nat->Prop)(bd:Nat)(D:Dsk)(w:World):Prop:=∃mf es,DiskE F bd mf es D w
section
variable {F S:Nat->Prop}{bd mf:Nat}{es:List Fm}{D:Dsk}{w w':World}
theorem DiskE.mod (h:DiskE F bd mf es D w)(m:Vc.Mod S w w')(hS:∀k,F k->¬ S k):DiskE F bd mf es D w':=
 ⟨h.m.mod m (hS _ (h.inF _ (.inl rfl))),h.map.mod m (hS _ (h.inF _ (.inr (.inl rfl)))),h.fs,λe he=>⟨(h.el e he).1.mod m (hS _ (h.inF _ (.inr (.inr ⟨e,he,.inl rfl⟩)))),(h.el e he).2.mod m (λk hk=>hS _ (h.inF _ (.inr (.inr ⟨e,he,.inr hk⟩))))⟩,
  h.ap,h.inF,λk hk=>Az (h.lt k hk) m.size,h.wf⟩
theorem DiskE.ext (h:DiskE F bd mf es D w)(x:ED w w'):DiskE F bd mf es D w':=h.mod x (λ_ _ h=>h)
theorem DiskE.wide {G:Nat->Prop}(h:DiskE F bd mf es D w)(hG:∀k,F k->G k)(hl:∀k,G k->k<w.heap.size):DiskE G bd mf es D w:=⟨h.m,h.map,h.fs,h.el,h.ap,λk hk=>hG k (h.inF k hk),hl,h.wf⟩
theorem DiskE.grow (h:DiskE F bd mf es D w)(x:ED w w'):DiskE (Gx F w w') bd mf es D w':=(h.ext x).wide (λ_ h=>.inl h) (HT h.lt x.size)
theorem FSq.mod (h:FSq F bd D w)(m:Vc.Mod S w w')(hS:∀k,F k->¬ S k):FSq F bd D w':=by
 obtain⟨mf,es,h⟩:=h;exact⟨mf,es,h.mod m hS⟩
theorem FSq.ext (h:FSq F bd D w)(x:ED w w'):FSq F bd D w':=h.mod x (λ_ _ h=>h)
theorem FSq.lt (h:FSq F bd D w):∀k,F k->k<w.heap.size:=by obtain⟨_,_,h⟩:=h;exact h.lt
theorem FSq.wf (h:FSq F bd D w):D.Wf:=by obtain⟨_,_,h⟩:=h;exact h.wf
theorem FSq.wide {G:Nat->Prop}(h:FSq F bd D w)(hG:∀k,F k->G k)(hl:∀k,G k->k<w.heap.size):FSq G bd D w:=by obtain⟨mf,es,h⟩:=h;exact⟨mf,es,h.wide hG hl⟩
theorem FSq.grow (h:FSq F bd D w)(x:ED w w'):FSq (Gx F w w') bd D w':=by obtain⟨mf,es,h⟩:=h;exact⟨mf,es,h.grow x⟩
theorem DiskE.look (h:DiskE F bd mf es D w)(s:EC):lk D.fs s=(fe es s).map (·.f):=by rw[h.fs];exact TS es s
theorem DiskE.nd (h:DiskE F bd mf es D w):(es.map (·.name)).Nodup:=by
 have:=h.map.nodup;rwa [Bf]at this
theorem DiskE.name (h:DiskE F bd mf es D w){e:Fm}(he:e∈es):1<=e.name.length/\e.name.length<=64:=h.wf.name (e.name,e.f) (by rw[h.fs];exact Aq.2 ⟨e,he,rfl⟩)
theorem DiskE.data (h:DiskE F bd mf es D w){e:Fm}(he:e∈es):e.f.data.length<=1073741824:=h.wf.data (p:=(e.name,e.f)) (by rw[h.fs];exact Aq.2 ⟨e,he,rfl⟩)
theorem DiskE.lasts (h:DiskE F bd mf es D w){e:Fm}(he:e∈es):e.f.lasts<=e.f.data.length:=h.wf.lasts (e.name,e.f) (by rw[h.fs];exact Aq.2 ⟨e,he,rfl⟩)
theorem DiskE.fe_in (h:DiskE F bd mf es D w){e:Fm}(he:e∈es):fe es e.name=some e:=by
 have hn:=h.nd;clear h
 induction es with
 | nil=>cases he
 | cons a r ih=>
  rw[An,AV]at hn;unfold fe at ih ⊢;rw[CO];rcases Aj.1 he with rfl|he
  ·simp
  ·have:a.name≠e.name:=λe2=>hn.1 (e2▸Aq.2 ⟨e,he,rfl⟩);simp [this];exact ih he hn.2
theorem DiskE.head {D':Dsk}(h:DiskE F bd mf es D w)(m:Vc.Mod (ET bd) w w')(hm:EK w' bd [I D'.room,.map (some mf),B D'.fused,I D'.left] 122)(hf:D'.fs=D.fs)(hw:D'.Wf):DiskE F bd mf es D' w':=by
 have z:∀e∈es,e.b≠bd/\e.v.ownBlock≠some bd:=λe he=>⟨(h.el e he).1.ne h.m rfl,(h.el e he).2.ne_blk h.m rfl⟩;exact⟨hm,h.map.mod m (λe=>h.map.at.ne_blk h.m (Eq.symm e)),hf.trans h.fs,λe he=>⟨(h.el e he).1.mod m (z e he).1,(h.el e he).2.mod m (λk hk e2=>(z e he).2 (e2▸hk))⟩,h.ap,h.inF,λk hk=>Az (h.lt k hk) m.size,hw⟩
end
theorem Ybt {D:Dsk}{l:List EC}(h1:D.fused=true)(h2:D.left=0):D.may l=9:=by unfold Dsk.may;rw[if_pos ⟨h1,h2⟩]
theorem Vh {D:Dsk}{l:List EC}{s:EC}(h1:¬ (D.fused=true/\D.left=0))(hs:s∈l)(h:¬ (1<=s.length/\s.length<=64)):D.may l=1:=by
 unfold Dsk.may;rw[if_neg h1,if_neg];intro h2;exact h (by simpa using AY.1 h2 s hs)
theorem Ur {D:Dsk}{l:List EC}(h1:¬ (D.fused=true/\D.left=0))(h:∀s∈l,1<=s.length/\s.length<=64):D.may l=0:=by
 unfold Dsk.may;rw[if_neg h1,if_pos (AY.2 λs hs=>by simpa using h s hs)]
theorem NX {es:List Fm}{s:EC} : (fe es s).isSome=true↔s∈es.map (·.name):=by
 unfold fe;rw[List.find?_isSome];simp
theorem NT {rem:List Fm}{n y:EC} : (y∈rem.map (·.name)/\y≠n)↔y∈(rem.filter λq=>decide (q.name≠n)).map (·.name):=by
 simp only [Aq,A3,decide_eq_true_eq]
 constructor
 ·rintro ⟨⟨e,he,rfl⟩,hn⟩;exact⟨e,⟨he,hn⟩,rfl⟩
 ·rintro ⟨e,⟨he,hn⟩,rfl⟩;exact⟨⟨e,he,rfl⟩,hn⟩
theorem SZ {rem:List Fm}{e:Fm}(he:e∈rem)(hnd:(rem.map (·.name)).Nodup):(rem.map (·.f.data.length)).sum=e.f.data.length+((rem.filter λq=>decide (q.name≠e.name)).map (·.f.data.length)).sum/\(rem.filter λq=>decide (q.name≠e.name)).length<rem.length/\((rem.filter λq=>decide (q.name≠e.name)).map (·.name)).Nodup:=by
 refine⟨?_,?_,List.Nodup.sublist (C3 _ Ca) hnd⟩
 ·induction rem with
  | nil=>cases he
  | cons a r z=>
   rw[An,AV]at hnd;rw[BC];rcases Aj.1 he with rfl|he
   ·have:r.filter (λq=>decide (q.name≠e.name))=r:=B5.2 λq J=>by
     have:q.name≠e.name:=λe2=>hnd.1 (e2▸Aq.2 ⟨q,J,rfl⟩);simp [this]
    rw[this];simp
   ·have:a.name≠e.name:=λe2=>hnd.1 (e2▸Aq.2 ⟨e,he,rfl⟩);have z:=z he hnd.2;simp only [this,ne_eq,not_false_eq_true,decide_true,if_true,An,AX]at z ⊢;omega
 ·refine Nat.lt_of_le_of_ne (BI ..) λh=>?_;have:=B5.1 (List.Sublist.eq_of_length Ca h) e he;simp at this
theorem OM (bd mf:Nat)(D:Dsk)(l:List EC)(v:Value)(w:World)(hd:EK w bd [I D.room,.map (some mf),B D.fused,I D.left] 122)(hv:EQ FU 1 w v l)(hl:l.length<=1000000) :
  Calls Tryz.prog 160 [EE bd 0,v].toArray w (Pure w (I (D.may l))):=by
 refine cw Tryz.func160 ?_;have z:=ED.refl w;refine ws λ_ Z1=>wr (da (de Z1 ?_));refine Hz (G:=Unit) (λuu=>[(1,v)]) (λuu w'=>ED w w'/\¬ (D.fused=true/\D.left=0)) ?_ ?_
 ·refine EM (ws λ_ Z2=>wr (dm ?_));refine dp (Gi EA rfl rfl) (da (de Z2 ?_));refine wi (λc1=>?_) λc1=>?_
  ·exact absurd c1 ER
  refine ws λ_ Z3=>wr (dm ?_);refine dz rfl (df 2 rfl (dl rfl ((hd.ext z).at rfl) (dm ?_)));refine I5 15 rfl (λc2=>?_) (λc2=>?_)
  ·refine dm ?_;refine dz rfl (df 3 rfl (dl rfl ((hd.ext z).at rfl) (dp (GB rfl rfl) (EP ?_))));refine da (de Z3 ?_);refine wi (λc3=>?_) λc3=>?_
   ·refine ws λ_ Z4=>wr (da (de Z4 (EJ ?_)));refine ro ?_;exact⟨by rw[Ybt c2 c3],z⟩
   refine EI ?_;exact⟨(),P8,z,λh=>c3 h.2⟩
  refine dk (dk (dk (dk (dk (EP ?_)))));refine da (de Z3 ?_);refine Hf rfl (EI ?_);exact⟨(),P8,z,λh=>by rw[c2]at h;cases h.1⟩
 intro X1 g1 w1 Y;revert Y;revert g1;intro uu Y;clear z;obtain⟨z,O⟩:=Y;refine ws λ_ Z5=>ws λ_ Z6=>wr (dm ?_);refine dv 9 1 hv.sl (dm (de Z6 (EM ?_)));refine Fq (G:=Nat) (λk=>[(22,v),(23,I ↑l.length),(24,I ↑k)]) (λk w'=>ED w w'/\k<=l.length/\∀s∈l.take k,1<=s.length/\s.length<=64) (λk=>l.length-k) 0 ?_ ?_ ?_
 ·exact Hd
 ·exact⟨z,Ae _,by simp⟩
 intro X2 g2 w2 J;revert J;revert g2;intro k J;clear z;obtain⟨z,hk1,hA⟩:=J;refine ws λ_ Z7=>wr (dp (Fb rfl rfl) (de Z7 (ws λ_ Z8=>wi (λc4=>?_) λc4=>?_)))
 ·obtain⟨s,hk⟩:∃s,l[k]?=some s:=Fw;refine EI (Z8 _ _ (ws λ_ Z9=>EM (ws λ_ hg=>wr (di 9 1 hv.sl rfl (hv.lt hk) (dl rfl (((hv.ext z).row hk).at0 rfl) (da (de hg (ws λ_ ha=>wr (dm ?_)))))))));refine dt rfl (dp (Fb rfl rfl) (dm ?_));refine F4 31 rfl (λc5=>?_) (λc5=>?_)
  ·refine dk (dk (dk (EP (de ha ?_))));refine GS rfl (ws λ_ hf=>wr (da (de hf (EJ ?_))));refine ro ?_;exact⟨by rw[Vh O (Ak hk) EB],z⟩
  refine dm ?_;refine dt rfl (dp (Gg rfl rfl) (EP (de ha ?_)));refine wi (λc6=>?_) λc6=>?_
  ·refine ws λ_ hc=>wr (da (de hc (EJ ?_)));refine ro ?_;exact⟨by rw[Vh O (Ak hk) EB],z⟩
  refine EI (Z9 _ _ (wr (pa rfl rfl (dm (EH (?_))))));refine⟨k+1,Hd,⟨z,by omega,λq Z=>?_⟩,by omega⟩;rw[G1 hk]at Z;rcases Aw.1 Z with Z|Z
  ·exact hA q Z
  ·rw[Ah.1 Z];omega
 refine Fk (Z5 _ _ (ws λ_ hb=>wr (da (de hb (EJ ?_)))));refine ro ?_;rw[Ay EB]at hA;exact⟨by rw[Ur O hA],z⟩
theorem O7 (F:Nat->Prop)(bd mf:Nat)(es:List Fm)(D:Dsk)(w:World)(h:DiskE F bd mf es D w)(hlv:¬ (D.fused=true/\D.left=0)) :
  Calls Tryz.prog 162 [EE bd 0].toArray w (Ff (ET bd) w (λu w'=>u=I 0/\DiskE F bd mf es D.tick w')):=by
 refine cw Tryz.func162 ?_;have z:=ED.refl w;have hd:=h.m;have hl0:=h.wf.left0;have hl1:=h.wf.left1;refine ws λ_ Z=>wr (da (de Z (ws λ_ O=>ws λ_ Z3=>wr (dm ?_))));refine dz rfl (df 2 rfl (dl rfl ((hd.ext z).at rfl) (de Z3 (wc (λJ=>?_) λJ=>?_))))
 ·have hl2:D.left≠0:=λe=>hlv ⟨J,e⟩;refine wr (dm ?_);refine dz rfl (df 3 rfl (dl rfl ((hd.ext z).at rfl) (ps rfl rfl (dz rfl (df 3 rfl (G4 (hd.ext z) (λw1 x1 xs1 hd=>?_)))))));dsimp only [EY,Af,Ad,Ag]at hd;have z:=(z.mod x1).mono (λi hi _=>(hi:(ET bd) i));refine de O (ws λ_ Y=>wr (da (de Y (EJ ?_))));refine ro ?_;refine⟨_,rfl,z,rfl,h.head z ?_ ?_ (h.wf.tick hlv)⟩
  ·rw[show D.tick={ D with left:=D.left-1 } from if_pos J];exact hd
  ·rw[show D.tick={ D with left:=D.left-1 } from if_pos J]
 refine EI (O _ _ (ws λ_ Z5=>wr (da (de Z5 (EJ ?_)))));refine ro ?_;have e:D.tick=D:=if_neg (by rw[J];decide);rw[e];exact⟨_,rfl,(Vc.Mod.refl _ _).ext z,rfl,h.ext z⟩
theorem X9d (F:Nat->Prop)(bd mf:Nat)(es:List Fm)(D:Dsk)(w:World)(h:DiskE F bd mf es D w) :
  Calls Tryz.prog 161 [EE bd 0].toArray w (Pure w (I ↑D.used)):=by
 refine cw Tryz.func161 ?_;have z:=ED.refl w;have hd:=h.m;have hh:=h.map.at;have hub:D.used<=1073741824:=by have:=h.wf.used;have:=h.wf.room1;omega
 refine ws λ_ Z1=>wr (da (de Z1 (ws λ_ Z2=>wr (da (de Z2 (ws λ_ Z3=>ws λ_ Z4=>wr (dm ?_)))))));refine dp (Nt EA rfl rfl) (de Z4 (wi (λc1=>?_) λc1=>?_))
 ·refine ws λ_ Z5=>wr (dm ?_);refine dz rfl (df 1 rfl (dl rfl ((hd.ext z).at rfl) (S2 GR rfl rfl hh RX.all (λb1 w1 hc e1 x1 hcn1 O=>?_))));have g1:=z.ge e1;have z:=z.trans x1;refine de Z5 (EM ?_);refine Fq (G:=List Fm×Nat×Nat) (λ(rem,n,cnt)=>[(2,I 0),(3,I ↑n),(12,EE b1 0)]) (λ(rem,n,cnt) w'=>ED w w'/\Vc.Xb2 Tryz.prog 9 S pO w' mf b1 (es.map Fm.kv).length (lk (es.map Fm.kv)) (λx=>x∈rem.map (·.name)) cnt/\n+(rem.map (·.f.data.length)).sum=D.used/\(rem.map (·.name)).Nodup/\∀e∈rem,e∈es) (λ(rem,n,cnt)=>cnt) (es,0,hc) ?_ ?_ ?_
  ·exact Hd
  ·exact⟨z,O.congr (λx=>by rw[M1,CQ];exact NX),(by rw[M8,h.fs,Jg,Bf,Nat.zero_add];rfl),h.nd,λe he=>he⟩
  intro X2 g2 w2 hw;obtain⟨rem,n,cnt⟩:=g2;clear z O;obtain⟨z,O,Y,ht,J⟩:=hw;refine ws λ_ Z6=>wr ?_;refine Uh GR rfl rfl O (.inl rfl) (λh7=>?_) (λx a w3 hf hok hl hg h5 xs3 hz Z hb=>?_)
  ·refine dx rfl rfl (de Z6 (ws λ_ Z7=>Hf rfl (Fk (Z3 _ _ (ws λ_ Z8=>wr (dm (da (de Z8 (EJ ?_)))))))));refine ro ?_;have hr:rem=[]:=by
    cases rem with
    | nil=>rfl
    | cons q r=>exact absurd (Aq.2 ⟨q,Al,rfl⟩) (h7 q.name (by have:=h.name (J q Al);unfold maxLen;omega))
   subst hr;simp only [Be,List.sum_nil,Nat.add_zero]at Y;exact⟨by rw[Y],z⟩
  have z:=z.own h5 (λi hi=>by have hj:i=b1:=hi;subst hj;omega);have O:=Z;obtain⟨e,he,rfl⟩:=Aq.1 hl;have hy:=h.fe_in (J e he);rw[M1,hy]at hg
  cases hg
  have h6:=(h.el e (J e he)).1;have hp:=(h.el e (J e he)).2.arr EF;have hmem:=h.data (J e he);obtain⟨hperm,hlen,ha⟩:=SZ he ht;refine dx rfl rfl (de Z6 (ws λ_ Z9=>GS rfl (EI (Z9 _ _ (EM (ws λ_ h8=>wr (dq (Xg rfl hb) (dx rfl rfl (da (de h8 (wr ?_)))))))))))
  iterate 2 refine dm ?_
  refine dz rfl (df 0 rfl (dl rfl ((h6.ext z).at rfl) (dv 5 1 (hp.ext z).sl (pa rfl rfl (da (EH (?_)))))));refine⟨(rem.filter (λq=>decide (q.name≠e.name)),n+e.f.data.length,hf),Hd,⟨z,O.congr (λy=>?_),by omega,ha,λq hq=>J q (A3.1 hq).1⟩,hz⟩;exact NT
 exact absurd c1 ER
def GX (es:List Fm)(n:EC)(e:Fm):List Fm:=if(fe es n).isSome then es.map (λq=>if q.name=n then e else q)else es++[e]
theorem X5c {es:List Fm}{n:EC}{e:Fm}(h:e.name=n):(GX es n e).map Fm.kv=EZ (es.map Fm.kv) n (some e.b):=by
 unfold GX EZ;rw[M1,CQ];split
 ·rw[Bf,Bf];refine Bv λq _=>?_;simp only [Function.comp];split<;>simp [h]
 ·simp [h]
theorem TF {es:List Fm}{n:EC}{e:Fm}(h:e.name=n):(GX es n e).map Fm.df=EZ (es.map Fm.df) n e.f:=by
 unfold GX EZ;rw[TS,CQ];split
 ·rw[Bf,Bf];refine Bv λq _=>?_;simp only [Function.comp];split<;>simp [h]
 ·simp [h]
theorem TG {es:List Fm}{n:EC}{e q:Fm}(h:q∈GX es n e):q=e\/(q∈es/\q.name≠n):=by
 unfold GX at h;split at h
 ·obtain⟨a,z,rfl⟩:=Aq.1 h;split
  ·exact .inl rfl
  ·rename_i hn;exact .inr ⟨z,hn⟩
 ·rename_i hn;rcases Aw.1 h with h|h
  ·refine .inr ⟨h,λe2=>hn ?_⟩;rw[NX];exact e2▸Aq.2 ⟨q,h,rfl⟩
  ·exact .inl (Ah.1 h)
theorem Xnp {es:List Fm}{n:EC}{e:Fm} : e∈GX es n e:=by
 unfold GX;split
 ·rename_i h;obtain⟨q,z⟩:=Option.isSome_iff_exists.1 h;obtain⟨h1,h2⟩:=Nw z;exact Aq.2 ⟨q,h1,by simp [h2]⟩
 ·exact List.mem_append_right _ (Ah.2 rfl)
def HX (a b:Fm):Prop:=∀k,a.foot k->¬ b.foot k
theorem HX.symm {a b:Fm}(h:HX a b):HX b a:=λk h1 h2=>h k h2 h1
theorem QG {es:List Fm}(h:es.Pairwise HX){a b:Fm}(ha:a∈es)(hb:b∈es)(hn:a.name≠b.name):HX a b:=by
 induction es with
 | nil=>cases ha
 | cons q r ih=>
  rw[AQ]at h;rcases Aj.1 ha with e1|ha
  ·rcases Aj.1 hb with e2|hb
   ·exact absurd (by rw[e1,e2]) hn
   ·rw[e1];exact h.1 b hb
  ·rcases Aj.1 hb with e2|hb
   ·rw[e2];exact(h.1 a ha).symm
   ·exact ih h.2 ha hb
theorem X9e {es:List Fm}{n:EC}{e:Fm}(h:es.Pairwise HX)(hnd:(es.map (·.name)).Nodup)(he:∀q∈es,q.name≠n->HX e q):(GX es n e).Pairwise HX:=by
 unfold GX;split
 ·rw[CN];refine E7 (λ {a b} z J hab=>?_) (h.and (CN.1 hnd))
  by_cases h1:a.name=n
  ·by_cases h2:b.name=n
   ·exact absurd (h1.trans h2.symm) hab.2
   ·rw[if_pos h1,if_neg h2];exact he b J h2
  ·by_cases h2:b.name=n
   ·rw[if_neg h1,if_pos h2];exact(he a z h1).symm
   ·rw[if_neg h1,if_neg h2];exact hab.1
 ·rename_i hn;refine List.pairwise_append.2 ⟨h,List.pairwise_singleton ..,λa z b J=>?_⟩;rw[Ah.1 J];exact(he a z (λe2=>hn (by rw[NX];exact e2▸Aq.2 ⟨a,z,rfl⟩))).symm
section
variable {F Sx:Nat->Prop}{bd mf:Nat}{es:List Fm}{D:Dsk}{w w':World}
theorem DiskE.foot_bd (h:DiskE F bd mf es D w){e:Fm}(he:e∈es):¬ e.foot bd:=λhk=>hk.elim (λe2=>(h.el e he).1.ne h.m rfl e2.symm) (λe2=>(h.el e he).2.ne_blk h.m rfl e2)
theorem DiskE.foot_mf (h:DiskE F bd mf es D w){e:Fm}(he:e∈es):¬ e.foot mf:=λhk=>hk.elim (λe2=>h.map.at.ne_blk (h.el e he).1 e2.symm) (λe2=>h.map.at.ne_ownC (h.el e he).2 e2)
theorem DiskE.bd_mf (h:DiskE F bd mf es D w):bd≠mf:=h.map.at.ne_blk h.m
theorem DiskE.foot_F (h:DiskE F bd mf es D w){e:Fm}(he:e∈es){k:Nat}(hk:e.foot k):F k:=h.inF k (.inr (.inr ⟨e,he,hk⟩))
theorem DiskE.put {n:EC}{e:Fm}(h:DiskE F bd mf es D w)(hen:e.name=n)(m:Vc.Mod Sx w w')(hS:∀k,Sx k->k<w.heap.size->k=mf\/∃q∈es,q.name=n/\q.foot k)
  (hm:FE Tryz.prog 9 S pO w' mf (EZ (es.map Fm.kv) n (some e.b))) (hb:EK w' e.b [e.v,I ↑e.f.lasts] 125) (ho:Vc.OwnC EO 1 5 0 w' e.v e.f.data)
  (hd:∀k,e.foot k->w.heap.size<=k\/(F k/\∀q∈es,q.name≠n->¬ q.foot k)) (hw:Dsk.Wf { D with fs:=EZ D.fs n e.f }):DiskE (Gx F w w') bd mf (GX es n e) { D with fs:=EZ D.fs n e.f } w':=by
 have Y:∀q∈es,q.name≠n->∀k,q.foot k->¬ Sx k:=λq z J k hk hs=>by
  rcases hS k hs (h.lt k (h.foot_F z hk))with rfl|⟨q2,hq2,hn2,O⟩
  ·exact h.foot_mf z hk
  ·exact QG h.ap z hq2 (λe2=>J (e2.trans hn2)) k hk O
 refine⟨h.m.mod m (λhs=>?_),by rw[X5c hen];exact hm,by simp only;rw[TF hen,h.fs],λq z=>?_,X9e h.ap h.nd λq z J k hk O=>?_,λk hk=>?_,HT h.lt m.size,hw⟩
 ·rcases hS bd hs h.m.lt with e2|⟨q,z,_,hk⟩
  ·exact h.bd_mf e2
  ·exact h.foot_bd z hk
 ·rcases TG z with rfl|⟨z,J⟩
  ·exact⟨hb,ho⟩
  ·exact⟨(h.el q z).1.mod m (Y q z J _ (.inl rfl)),(h.el q z).2.mod m (λk hk=>Y q z J k (.inr hk))⟩
 ·rcases hd k hk with h1|⟨_,h1⟩
  ·have:=h.lt k (h.foot_F z O);omega
  ·exact h1 q z J O
 ·rcases hk with rfl|rfl|⟨q,z,hk⟩
  ·exact .inl (h.inF _ (.inl rfl))
  ·exact .inl (h.inF _ (.inr (.inl rfl)))
  ·rcases TG z with rfl|⟨z,_⟩
   ·rcases hd k hk with h1|⟨h1,_⟩
    ·refine .inr ⟨h1,?_⟩;rcases hk with rfl|hk
     ·exact hb.lt
     ·exact(ho.lt k hk).2
    ·exact .inl h1
   ·exact .inl (h.foot_F z hk)
theorem DiskE.take {n:EC}(h:DiskE F bd mf es D w)(m:Vc.Mod (ET mf) w w')(hm:FE Tryz.prog 9 S pO w' mf (FR (es.map Fm.kv) n)):DiskE F bd mf (es.filter λe=>decide (e.name≠n)) (D.gone n) w':=by
 have z:∀ {β:Type} (g:Fm->EC×β),(∀e,(g e).1=e.name)->FR (es.map g) n=(es.filter λe=>decide (e.name≠n)).map g:=by
  intro β g O;unfold FR;rw[List.filter_map]
  congr 1
  refine List.filter_congr λe _=>?_;simp [O]
 refine⟨h.m.mod m (λe=>h.bd_mf e),by rw[<-z Fm.kv (λ_=>rfl)];exact hm,by show FR D.fs n=_;rw[h.fs,z Fm.df (λ_=>rfl)],λe he=>?_,h.ap.sublist Ca,λk hk=>?_,λk hk=>Az (h.lt k hk) m.size,h.wf.gone n⟩
 ·have he:=(A3.1 he).1;exact⟨(h.el e he).1.mod m (λe2=>h.foot_mf he (.inl (Eq.symm e2))),(h.el e he).2.mod m (λk hk e2=>by have J:k=mf:=e2;exact h.foot_mf he (.inr (J▸hk)))⟩
 ·refine h.inF k (hk.imp id (Or.imp id λ⟨e,he,hk⟩=>⟨e,(A3.1 he).1,hk⟩))
theorem Xvo {κ α:Type}[DecidableEq κ]{l:List (κ×α)}{n:κ}{a:α}(hn:(l.map (·.1)).Nodup)(h:lk l n=some a):EZ l n a=l:=by
 unfold EZ;rw[h,if_pos (by rfl)]
 conv=>rhs;rw[<-Di l]
 refine Bv λp z=>?_;split
 ·rename_i e;have h2:=X8y hn (x:=p.1) (a:=p.2) z;rw[e,h]at h2
  cases h2
  exact Prod.ext e.symm rfl
 ·rfl
theorem DiskE.self (h:DiskE F bd mf es D w){e:Fm}(he:e∈es):EZ (es.map Fm.kv) e.name (some e.b)=es.map Fm.kv:=Xvo h.map.nodup (by rw[M1,h.fe_in he];rfl)
theorem DiskE.file {e:Fm}{v:Value}{f:Fil}(h:DiskE F bd mf es D w)(he:e∈es)(m:Vc.Mod Sx w w')(hS:∀k,Sx k->k<w.heap.size->e.foot k)(hb:EK w' e.b [v,I ↑f.lasts] 125)(ho:Vc.OwnC EO 1 5 0 w' v f.data)
  (hv:v.ownBlock=e.v.ownBlock\/∀k,v.ownBlock=some k->w.heap.size<=k) (hw:Dsk.Wf { D with fs:=EZ D.fs e.name f }):DiskE (Gx F w w') bd mf (GX es e.name ⟨e.name,e.b,v,f⟩) { D with fs:=EZ D.fs e.name f } w':=by
 refine h.put (e:=⟨e.name,e.b,v,f⟩) rfl m (λk hk z=>.inr ⟨e,he,rfl,hS k hk z⟩) ?_ hb ho (λk hk=>?_) hw
 ·rw[h.self he]
  by_cases hs:mf<w.heap.size
  ·exact h.map.mod m (λhk=>h.foot_mf he (hS mf hk hs))
  ·exact absurd h.map.lt hs
 ·have old:e.foot k->w.heap.size<=k\/(F k/\∀q∈es,q.name≠e.name->¬ q.foot k):=λhk=>.inr ⟨h.foot_F he hk,λq Y O J=>QG h.ap Y he O k J hk⟩;rcases hk with rfl|hk
  ·exact old (.inl rfl)
  ·rcases hv with e2|e2
   ·exact old (.inr (e2▸hk))
   ·exact .inl (e2 k hk)
end
def Ly : Option Fm->Option Addr
 | none=>none
 | some e=>some ⟨e.b,0,none⟩
theorem NM {o:Option Fm} : Ly o=none↔o=none:=by cases o<;>simp [Ly]
theorem PR {o:Option Fm}(h:¬ Ly o=none):∃e,o=some e:=by
 cases o with
 | none=>exact absurd rfl h
 | some e=>exact⟨e,rfl⟩
section
variable {E:Fh}{dd:Option Tmp}{ty:TypeId}{pos:String}{af:Array Edge}{g:Option (Nat×Bool)}{x y:Operand}{w:World}{mf n:Nat}{es:List Fm}{s:EC}
theorem Np {m:Operand}(hm:ev E m=.map (some mf))(hx:ev E x=S s)(h:Vc.Xbq Tryz.prog 9 S pO w mf n (lk (es.map Fm.kv)))(hok:s.length<=maxLen) :
  LV Tryz.prog ⟨dd,.lookup 120 m x false,ty,pos,af,g⟩ E w (.pointer (Ly (fe es s))):=by
 have:=L5 (P:=Tryz.prog) (dd:=dd) (ty:=ty) (pos:=pos) (af:=af) (g:=g) GR (kx:=s) (z0:=none) hm hx EA h hok;rw[M1]at this
 cases e:fe es s<;>(rw[e]at this;exact this)
end
def Kn (bd:Nat)(l:List Nat)(w:World):Prop:=∀b∈l,EK w b [EE bd 0] 26
theorem Kn.mod {bd:Nat}{l:List Nat}{S:Nat->Prop}{w w':World}(h:Kn bd l w)(m:Vc.Mod S w w')(hS:∀b∈l,¬ S b):Kn bd l w':=λb z=>(h b z).mod m (hS b z)
theorem Kn.ext {bd:Nat}{l:List Nat}{w w':World}(h:Kn bd l w)(m:ED w w'):Kn bd l w':=h.mod m (λ_ _ h=>h)
theorem Dsk.each_nil (a:EC->Dsk->Dsk)(D:Dsk):Dsk.each a [] D=(0,D):=rfl
theorem Dsk.each_may {a:EC->Dsk->Dsk}{s:EC}{r:List EC}{D:Dsk}(h:D.may [s]≠0):Dsk.each a (s :: r) D=(D.may [s],D):=by unfold Dsk.each;rw[if_pos h]
theorem Dsk.each_none {a:EC->Dsk->Dsk}{s:EC}{r:List EC}{D:Dsk}(h:D.may [s]=0)(h2:lk D.fs s=none):Dsk.each a (s :: r) D=(7,D):=by unfold Dsk.each;rw[if_neg (λe=>e h),if_pos (by rw[h2];rfl)]
theorem Dsk.each_some {a:EC->Dsk->Dsk}{s:EC}{r:List EC}{D:Dsk}{f:Fil}(h:D.may [s]=0)(h2:lk D.fs s=some f):Dsk.each a (s :: r) D=Dsk.each a r (Dsk.tick (a s D)):=by rw[Dsk.each.eq_def];simp only [];rw[if_neg (λe=>e h),if_neg (by rw[h2];simp)]
theorem DiskE.old {F:Nat->Prop}{bd mf:Nat}{es:List Fm}{D:Dsk}{w:World}(h:DiskE F bd mf es D w){e:Fm}(he:e∈es):D.old e.name=e.f:=by unfold Dsk.old;rw[h.look,h.fe_in he];rfl
theorem K6 {s:EC}{w:World}{b:Nat}(h:EK w b [S s] 9):EQ FU 1 w (.slice (some ⟨b,0,none⟩) 1 1) [s]:=h.arr (enc:=FU) (sz:=1) (l:=[s]) rfl EF rfl ER
theorem X5e (F:Nat->Prop)(bd mf:Nat)(es:List Fm)(D:Dsk)(e:Fm)(w:World)(h:DiskE F bd mf es D w)(he:e∈es) :
  Calls Tryz.prog 163 [S e.name,EE e.b 0].toArray w (Ff F w (λu w'=>FSq (Gx F w w') bd (Dsk.lastsA e.name D) w')):=by
 refine cw Tryz.func163 ?_;have O:=ED.refl w;have Y:=(h.el e he).1;have J:=(h.el e he).2;have ho:=J.arr EF;have Z:=J.ne_blk Y rfl;have z:=h.old he;refine wr (dm (dm ?_));refine dz rfl (df 0 rfl (dl rfl ((Y.ext O).at rfl) (dv 5 1 (ho.ext O).sl (dz rfl (df 1 rfl (G4 (Y.ext O) (λw1 x1 xs1 Y=>?_) (hv:=by rfl)))))));dsimp only [EY,Af,Ad,Ag]at Y;have O:=(O.mod x1).mono (λi hi _=>(h.foot_F he (.inl hi):F i));refine EH ((HH (Hh rfl (⟨_,rfl,O,?_⟩))));have:=h.file (v:=e.v) (f:=⟨e.f.data,e.f.data.length⟩) he x1 (λk hk _=>.inl hk) Y (J.mod x1 (λk hk e2=>Z (by have e3:k=e.b:=e2;rw[hk,e3]))) (.inl rfl) (h.wf.set (h.name he) (Ab _) (by rw[z];have:=h.wf.used;simp only;omega) (.inl (by rw[h.look,h.fe_in he];rfl)));unfold Dsk.lastsA;rw[z];exact⟨_,_,this⟩
theorem X9f (F:Nat->Prop)(bd mf:Nat)(es:List Fm)(D:Dsk)(e:Fm)(bx:Nat)(w:World)(h:DiskE F bd mf es D w)(he:e∈es)(hbx:EK w bx [EE bd 0] 26) :
  Calls Tryz.prog 110 [S e.name,EE e.b 0,EE bx 0].toArray w (Ff F w (λu w'=>FSq (Gx F w w') bd (Dsk.gone e.name D) w')):=by
 refine cw Tryz.func110 ?_;have z:=ED.refl w;have hd:=h.m;refine wr (dl rfl ((hbx.ext z).at rfl) (dz rfl (df 1 rfl (dl rfl ((hd.ext z).at rfl) (dm ?_)))));refine RY (l:=es.map Fm.kv) GR rfl rfl rfl (h.map.ext z) (by have:=(h.name he).2;unfold maxLen;omega) (.inl rfl) (λw9 x9 xs9 O=>?_);have J:=h.ext z;have z:=(z.mod x9).mono (λi hi _=>(h.inF i (.inr (.inl hi)):F i));refine EH ((HH (Hh rfl ?_)));exact⟨_,rfl,z,mf,_,(J.take x9 O).wide (λ_ h=>.inl h) (HT h.lt z.size)⟩
theorem SS (F:Nat->Prop)(bd:Nat)(D:Dsk)(l:List EC)(v:Value)(a:EC->Dsk->Dsk)(gf:Nat)(cs:List Value)(bxs:List Nat)(w:World)(h:FSq F bd D w)(hv:EQ FU 1 w v l)(hl:l.length<=100000)(hdv:l≠[]->¬ F (base v).1)(hcb:GM Tryz.prog gf=true)(ha:∀n D,(a n D).fused=D.fused/\(a n D).left=D.left)(hX0:Kn bd bxs w)(hxF:∀b∈bxs,¬ F b)(hg:∀(F:Nat->Prop) (mf:Nat) (es:List Fm) (D:Dsk) (w:World) (e:Fm),DiskE F bd mf es D w->e∈es->Kn bd bxs w->Calls Tryz.prog gf ([S e.name,EE e.b 0]++cs).toArray w (Ff F w (λ_ w'=>FSq (Gx F w w') bd (a e.name D) w'))) :
  Calls Tryz.prog 109 [EE bd 0,v,I7 gf cs].toArray w (Ff F w (λu w'=>u=I (Dsk.each a l D).1/\FSq (Gx F w w') bd ((Dsk.each a l D).2) w')):=by
 refine cw Tryz.func109 ?_;have J:=Vc.Mod.refl F w;have hp:∀b∈bxs,¬ (F b\/w.heap.size<=b):=λb hb h=>h.elim (hxF b hb) (λh2=>by have:=(hX0 b hb).lt;omega);refine ws λ_ Z1=>wr (da (de Z1 (ws λ_ Z2=>ws λ_ Z3=>wr (dm ?_))));refine dp (Gi EA rfl rfl) (de Z3 (wi (λc1=>?_) λc1=>?_))
 ·exact absurd c1 ER
 refine EI (Z2 _ _ (ws λ_ Z4=>ws λ_ Z5=>wr (dm ?_)));refine dv 9 1 (hv.mod J hdv).sl (dm (de Z5 (EM ?_)));refine Fq (G:=Nat×(Nat->Prop)×Dsk) (λ(k,Fc,Y)=>[(0,EE bd 0),(2,I7 gf cs),(13,v),(14,I ↑l.length),(15,I ↑k)]) (λ(k,Fc,Y) w'=>Mod F w w'/\k<=l.length/\FSq Fc bd Y w'/\Kn bd bxs w'/\(∀i,F i->Fc i)/\(∀i,Fc i->F i\/w.heap.size<=i)/\Dsk.each a l D=Dsk.each a (l.drop k) Y) (λ(k,Fc,Y)=>l.length-k) (0,F,D) ?_ ?_ ?_
 ·exact FN
 ·exact⟨J,Ae _,h,hX0,λ_ h=>h,λ_ h=>.inl h,rfl⟩
 intro X1 g1 w1 xg;obtain⟨k,Fc,Y⟩:=g1;clear J;obtain⟨J,hk1,⟨mf,es,O⟩,Z,hq,z,hf⟩:=xg;have hd:=O.m;refine ws λ_ Z6=>wr (dp (Fb rfl rfl) (de Z6 (ws λ_ Z7=>wi (λc2=>?_) λc2=>?_)))
 ·obtain⟨s,hk⟩:∃s,l[k]?=some s:=Fw;have hh:=Jd hk;refine EI (Z7 _ _ (ws λ_ Z8=>EM (ws λ_ Z9=>wr (di 9 1 (hv.mod J hdv).sl rfl ((hv.mod J hdv).lt hk) (dl rfl (((hv.mod J hdv).row hk).at0 rfl) (da (de Z9 (ws λ_ h9=>ws λ_ xh=>wr (dm (dm ?_))))))))));refine li (e:=9) (sz:=1) (zs:=[S []]) (pv:=[(0,_)]) (cs:=[_]) RX.all (λb1 w2 e1 x2 m1=>?_);have g1:=J.ge e1;have O:=O.ext x2;have hd:=hd.ext x2;have Z:=Z.ext x2;have J:=J.ext x2;refine cP (OM bd mf Y [s] _ _ hd (K6 m1) ER) RX.all λw3 x3=>?_;have O:=O.ext x3;have hd:=hd.ext x3;have Z:=Z.ext x3;have J:=J.ext x3;refine da (de xh (ws λ_ xi=>wr (dm ?_)));refine dp (FH rfl rfl) (de xi (wi (λc3=>?_) λc3=>?_))
  ·refine ws λ_ h7=>wr (dm (da (de h7 (EJ ?_))));refine ro ?_;refine⟨_,rfl,J,?_⟩;rw[hf,hh,Dsk.each_may c3];exact⟨rfl,mf,es,O.wide (λi hi=>(z i hi).imp id (λh4=>⟨h4,O.lt i hi⟩)) (HT h.lt J.size)⟩
  have hc:Y.may [s]=0:=AK c3;have h6:s.length<=maxLen:=by
   have:=(Dsk.may_names hc s ER).2;unfold maxLen;omega
  have ht:=O.map.at;refine EI (h9 _ _ (ws λ_ h5=>wr (dm ?_)));refine dz rfl (df 1 rfl (dl rfl (hd.at rfl) (dm ?_)));refine dq (Np rfl rfl ht h6) (da (de h5 (ws λ_ hw=>ws λ_ h8=>wr (dm ?_))));refine dp (Gi EA rfl rfl) (de h8 (wi (λc4=>?_) λc4=>?_))
  ·have hj:lk Y.fs s=none:=by rw[O.look,NM.1 c4];rfl
   refine ws λ_ xe=>wr (da (de xe (EJ ?_)));refine ro ?_;refine⟨_,rfl,J,?_⟩;rw[hf,hh,Dsk.each_none hc hj];exact⟨rfl,mf,es,O.wide (λi hi=>(z i hi).imp id (λh4=>⟨h4,O.lt i hi⟩)) (HT h.lt J.size)⟩
  obtain⟨e,he⟩:=PR c4;rw[he];have hj:lk Y.fs s=some e.f:=by rw[O.look,he];rfl
  refine EI (hw _ _ (ws λ_ xa=>wr (dm (dm (dm ?_)))));have hr:¬ ((a s Y).fused=true/\(a s Y).left=0):=by rw[(ha s Y).1,(ha s Y).2];exact Dsk.may_live hc
  obtain⟨xd,hz⟩:=Nw he;subst hz;refine Xzj (vs:=[S e.name,EE e.b 0]) rfl rfl hcb (hg Fc mf es Y _ e O xd Z) rfl (.inl rfl) (λu4 w4 x4 hy=>?_);have hlt9:=O.lt;have hszw:=J.size;have Z:=Z.mod x4 (λb hb hk=>hp b hb (z b hk));have J:=J.own x4 (λi hi xf=>(z i hi).resolve_right EB);have hsz9:=x4.size;obtain⟨mf,es,O⟩:=hy;have hd:=O.m;have hM9:=O;refine de xa (wr (dm ?_));refine cD (O7 _ bd mf es (a e.name Y) _ O hr) (.inl rfl) λu5 w5 x5 xb=>?_;have hsz5:=J.size;have Z:=Z.mod x5 (λb hb hk=>hp b hb (by have e2:b=bd:=hk;have h3:=O.inF bd (.inl rfl);rw[e2];exact h3.elim (λh4=>z bd h4) (λh4=>.inr EB)));have J:=J.own x5 (λi hi xf=>(by have e2:i=bd:=hi;have h3:=O.inF bd (.inl rfl);rw[e2];exact h3.elim (λh4=>(z bd h4).resolve_right EB) (λh4=>by omega)));obtain⟨rfl,O⟩:=xb;refine de Z8 (wr (pa rfl rfl (dm (EH (?_)))));refine⟨(k+1,_,Dsk.tick (a e.name Y)),FN,⟨J,by omega,⟨mf,es,O⟩,Z,λi hi=>.inl (hq i hi),λi hi=>hi.elim (z i) (λh4=>.inr EB),?_⟩,by simp only [];omega⟩;rw[hf,hh,Dsk.each_some hc hj]
 refine Fk (Z4 _ _ (ws λ_ xc=>wr (da (de xc (EJ ?_)))));refine ro ?_;refine⟨_,rfl,J,?_⟩;rw[hf,BZ EB,Dsk.each_nil];exact⟨rfl,mf,es,O.wide (λi hi=>(z i hi).imp id (λh4=>⟨h4,O.lt i hi⟩)) (HT h.lt J.size)⟩
theorem FSq.to {F G:Nat->Prop}{bd:Nat}{D:Dsk}{w w':World}(h:FSq G bd D w')(hG:∀k,G k->F k\/w.heap.size<=k)(hF:∀k,F k->k<w'.heap.size):FSq (Gx F w w') bd D w':=
 h.wide (λk hk=>(hG k hk).imp id λh1=>⟨h1,h.lt k hk⟩) (λk hk=>hk.elim (hF k) (·.2))
theorem Kn.nil {bd:Nat}{w:World} : Kn bd [] w:=λb h=>by cases h
theorem Lx {F:Nat->Prop}{w w1 w2:World}(h:w.heap.size<=w1.heap.size):∀k,Gx F w1 w2 k->F k\/w.heap.size<=k:=λk hk=>hk.imp id λh1=>Ai h h1.1
section
variable {F:Nat->Prop}{bd mf:Nat}{es:List Fm}{D:Dsk}{w:World}
theorem DiskE.len (h:DiskE F bd mf es D w):es.length<=4096:=by
 have:=h.wf.cnt;rwa [h.fs,Ao]at this
theorem DiskE.ren {b:EC}{e:Fm}{w1:World}(h:DiskE F bd mf es D w)(he:e∈es)(hb:1<=b.length/\b.length<=64)(h1:DiskE F bd mf (es.filter λq=>decide (q.name≠e.name)) (D.gone e.name) w1)(hs1:w1.heap.size=w.heap.size)(x:Vc.Mod (ET mf) w w1){w2:World}(m:Vc.Mod (ET mf) w1 w2)
  (hm:FE Tryz.prog 9 S pO w2 mf (EZ ((es.filter λq=>decide (q.name≠e.name)).map Fm.kv) b (some e.b))):DiskE (Gx F w1 w2) bd mf (GX (es.filter λq=>decide (q.name≠e.name)) b ⟨b,e.b,e.v,e.f⟩) { D with fs:=EZ (FR D.fs e.name) b e.f } w2:=by
 have J:¬ mf=e.b:=λe2=>h.foot_mf he (.inl e2);have O:∀k,e.v.ownBlock=some k->¬ k=mf:=λk hk e2=>h.foot_mf he (.inr (e2▸hk));refine h1.put (n:=b) (e:=⟨b,e.b,e.v,e.f⟩) rfl m (λk hk _=>.inl hk) hm (((h.el e he).1.mod x (λe2=>J e2.symm)).mod m (λe2=>J e2.symm)) (((h.el e he).2.mod x (λk hk e2=>O k hk e2)).mod m (λk hk e2=>O k hk e2)) (λk hk=>.inr ⟨h.foot_F he hk,λq hq hqn Z=>?_⟩) ?_
 ·have z:=A3.1 hq;exact QG h.ap z.1 he (by simpa using z.2) k Z hk
 ·have hw:=h.wf.gone e.name;have Y:(J5 D.fs e.name)=e.f:=h.old he;have hu:=Xnm h.wf.nd e.name;rw[Y]at hu;refine hw.set (n:=b) (f:=e.f) hb (h.lasts he) ?_ ?_
  ·have h2:=h.wf.used;rw[M8]at h2;rw[M8];have e3:Jg (D.gone e.name).fs=Jg (FR D.fs e.name):=rfl;rw[e3];show(_:Int)<=D.room+_;omega
  ·refine .inr ?_;have h3:=Vx (x:=e.name) h.wf.nd;rw[h.look,h.fe_in he]at h3;have:=h.wf.cnt;simp at h3;show(FR D.fs e.name).length<4096;omega
end
theorem Xvp {D:Dsk}{a b:EC}(h:D.may [a,b]≠0):D.ren a b=(D.may [a,b],D):=by unfold Dsk.ren;rw[if_pos h]
theorem Xs5 {D:Dsk}{a b:EC}(h:D.may [a,b]=0)(h2:lk D.fs a=none):D.ren a b=(7,D):=by unfold Dsk.ren;rw[if_neg (λe=>e h),h2]
theorem Xs6 {D:Dsk}{a b:EC}{f:Fil}(h:D.may [a,b]=0)(h2:lk D.fs a=some f):D.ren a b=(0,Dsk.tick { D with fs:=EZ (FR D.fs a) b f }):=by unfold Dsk.ren;rw[if_neg (λe=>e h),h2]
theorem X5f {s t:EC}{w:World}{b:Nat}(h:EK w b [S s,S t] 9):EQ FU 1 w (.slice (some ⟨b,0,none⟩) 2 2) [s,t]:=h.arr (enc:=FU) (sz:=1) (l:=[s,t]) rfl EF rfl ER
theorem RI (F:Nat->Prop)(bd:Nat)(D:Dsk)(l:List EC)(v:Value)(w:World)(h:FSq F bd D w)(hv:EQ FU 1 w v l)(hl:l.length<=100000)(hdv:l≠[]->¬ F (base v).1) :
  Calls Tryz.prog 85 [EE bd 0,v].toArray w (Ff F w (λu w'=>u=I (D.sync l).1/\FSq (Gx F w w') bd ((D.sync l).2) w')):=by
 refine cw Tryz.func85 ?_;have z:=ED.refl w;refine ws λ_ Z1=>wr (da (de Z1 (ws λ_ Z=>wr (dm (dm ?_)))));refine cD (SS F bd D l v Dsk.lastsA 163 [] [] _ (h.ext z) (hv.ext z) hl hdv EA (λn D=>⟨rfl,rfl⟩) Kn.nil (λb h=>by cases h) (λF mf es D w e Y he _=>X5e F bd mf es D e w Y he)) (.inl rfl) λu1 w1 x1 J=>?_;have hsz1:=z.size;have z:=(z.mod x1).mono (λi hi _=>(hi:F i));obtain⟨rfl,O⟩:=J;refine da (de Z (EJ ?_));refine ro ?_;exact⟨_,rfl,z,rfl,O⟩
theorem O2 (F:Nat->Prop)(bd:Nat)(D:Dsk)(l:List EC)(v:Value)(w:World)(h:FSq F bd D w)(hv:EQ FU 1 w v l)(hl:l.length<=100000)(hdv:l≠[]->¬ F (base v).1) :
  Calls Tryz.prog 54 [EE bd 0,v].toArray w (Ff F w (λu w'=>u=I (D.rem l).1/\FSq (Gx F w w') bd ((D.rem l).2) w')):=by
 refine cw Tryz.func54 ?_;have z:=ED.refl w;refine ws λ_ Z1=>wr (Gn rfl rfl rfl RX.all (λb1 w1 e1 x1 Z=>?_));have g1:=z.ge e1;have z:=z.trans x1;refine da (de Z1 (ws λ_ Z2=>wr ?_));refine dl rfl (Z.at rfl) (dm ?_);refine dp (Ob rfl) (cD (SS F bd D l v Dsk.gone 110 [EE b1 0] [b1] _ (h.ext z) (hv.ext z) hl hdv EA (λn D=>⟨rfl,rfl⟩) (λb O=>by rw[Ah.1 O];exact Z) (λb O=>by rw[Ah.1 O];intro hF;have:=h.lt _ hF;omega) (λF mf es D w e hE he hB=>X9f F bd mf es D e b1 w hE he (hB b1 ER))) (.inl rfl) λu2 w2 x2 Y=>?_);have J:=z.size;have z:=(z.mod x2).mono (λi hi _=>(hi:F i));obtain⟨rfl,hD⟩:=Y;refine da (de Z2 (EJ ?_));refine ro ?_;exact⟨_,rfl,z,rfl,hD.to (Lx J) (λk hk=>Az (h.lt k hk) z.size)⟩
theorem Il (F:Nat->Prop)(bd:Nat)(D:Dsk)(s:EC)(w:World)(h:FSq F bd D w)(hok:s.length<=maxLen) :
  Calls Tryz.prog 190 [EE bd 0,S s].toArray w (ES w (λu w'=>∃v,u=.tuple #[v,I (D.readE s)]/\Vc.Own EO 1 5 w.heap.size w' v (D.readB s))):=by
 refine cw Tryz.func190 ?_;have z:=ED.refl w;obtain⟨mf,es,O⟩:=h;have hd:=O.m;have ha:=O.map.at;refine ws λ_ Z1=>wr (da (da (de Z1 (ws λ_ Z2=>ws λ_ Z3=>wr (dm ?_)))));refine dp (Gi EA rfl rfl) (dm ?_);refine F4 8 rfl (λc1=>?_) (λc1=>?_)
 ·exact absurd c1 ER
 refine dm ?_;refine dz rfl (df 1 rfl (dl rfl ((hd.ext z).at rfl) (dm ?_)));refine dq (Np rfl rfl (ha.ext z) hok) (dp (Gi EA rfl rfl) (EP (de Z3 ?_)));refine wi (λc2=>?_) λc2=>?_
 ·refine ws λ_ Z4=>wr (da (da (de Z4 (EJ ?_))));refine rt ?_;have Z:lk D.fs s=none:=by rw[O.look,NM.1 c2];rfl
  rw[show D.readE s=7 by unfold Dsk.readE Dsk.has;rw[Z];rfl,show D.readB s=[] by unfold Dsk.readB Dsk.read;rw[Z];rfl];exact⟨_,rfl,z,_,rfl,Vc.Own.nil⟩
 obtain⟨e,he⟩:=PR c2;have Z:D.read s=some e.f.data:=by unfold Dsk.read;rw[O.look,he];rfl
 have Y:=(Nw he).1;have hb:=(O.el e Y).1;have hc:=(O.el e Y).2.arr EF;have hdl:=O.data Y;refine EI (Z2 _ _ (ws λ_ Z5=>wr (dm ?_)));refine dz rfl (df 1 rfl (dl rfl ((hd.ext z).at rfl) (dm ?_)));refine dq (Np rfl rfl (ha.ext z) hok) ?_;rw[he];refine dz rfl (df 0 rfl (dl rfl ((hb.ext z).at rfl) (cG (L7 e.f.data e.v _ (hc.ext z) EB) RX.all λu1 w1 x1 hO=>?_)));have hsz1:=z.size;have z:=z.trans x1;refine da (da (de Z5 (EJ ?_)));refine rt ?_;have J:lk D.fs s=some e.f:=by rw[O.look,he];rfl
 rw[show D.readE s=0 by unfold Dsk.readE Dsk.has;rw[J];rfl,show D.readB s=e.f.data by unfold Dsk.readB Dsk.read;rw[J];rfl];exact⟨_,rfl,z,_,rfl,hO⟩
theorem Ybu (F:Nat->Prop)(bd:Nat)(D:Dsk)(a b:EC)(w:World)(h:FSq F bd D w) :
  Calls Tryz.prog 251 [EE bd 0,S a,S b].toArray w (Ff F w (λu w'=>u=I (D.ren a b).1/\FSq (Gx F w w') bd ((D.ren a b).2) w')):=by
 refine cw Tryz.func251 ?_;have z:=Vc.Mod.refl F w;obtain⟨mf,es,J⟩:=h;have O:=J.lt;have hd:=J.m;have Y:=J.map.at;refine ws λ_ Z1=>wr (da (de Z1 (ws λ_ Z2=>ws λ_ Z3=>wr (dm (dm (dm ?_))))));refine li (e:=9) (sz:=1) (zs:=[S []]) (pv:=[(0,_),(1,_)]) (cs:=[_,_]) RX.all (λb1 w1 e1 x1 m1=>?_);have g1:=z.ge e1;have a1_hE:=J.lt;have a1_hd:=hd.lt;have J:=J.ext x1;have hd:=hd.ext x1;have Y:=Y.ext x1;have z:=z.ext x1;refine cP (OM bd mf D [a,b] _ _ hd (X5f m1) ER) RX.all λw2 x2=>?_;have J:=J.ext x2;have hd:=hd.ext x2;have Y:=Y.ext x2;have z:=z.ext x2;refine da (de Z3 (ws λ_ Z4=>wr (dm ?_)));refine dp (FH rfl rfl) (de Z4 (wi (λc1=>?_) λc1=>?_))
 ·refine ws λ_ Z5=>wr (dm (da (de Z5 (EJ ?_))));refine ro ?_;refine⟨_,rfl,z,?_⟩;rw[Xvp c1];exact⟨rfl,mf,es,J.wide (λi hi=>.inl hi) (HT O z.size)⟩
 have Z:D.may [a,b]=0:=AK c1;have hy:=Dsk.may_names Z b ER;have hh:a.length<=maxLen:=by
  have:=(Dsk.may_names Z a ER).2;unfold maxLen;omega
 refine EI (Z2 _ _ (ws λ_ Z6=>wr (dm ?_)));refine dz rfl (df 1 rfl (dl rfl (hd.at rfl) (dm ?_)));refine dq (Np rfl rfl Y hh) (da (de Z6 (ws λ_ Z7=>ws λ_ Z8=>wr (dm ?_))));refine dp (Gi EA rfl rfl) (de Z8 (wi (λc2=>?_) λc2=>?_))
 ·refine ws λ_ Z9=>wr (da (de Z9 (EJ ?_)));refine ro ?_;refine⟨_,rfl,z,?_⟩;rw[Xs5 Z (by rw[J.look,NM.1 c2];rfl)];exact⟨rfl,mf,es,J.wide (λi hi=>.inl hi) (HT O z.size)⟩
 obtain⟨e,he⟩:=PR c2;rw[he];have hp:lk D.fs a=some e.f:=by rw[J.look,he];rfl
 obtain⟨hc,hg⟩:=Nw he;subst hg;refine EI (Z7 _ _ (ws λ_ hw=>wr (dm ?_)));refine dz rfl (df 1 rfl (dl rfl (hd.at rfl) (dm ?_)));refine RY (l:=es.map Fm.kv) GR rfl rfl rfl J.map (by have:=(J.name hc).2;unfold maxLen;omega) (.inl rfl) (λw8 x8 ht hM=>?_);have ha:=J.take x8 hM;have z:=z.own x8 (λi hi _=>J.inF i (.inr (.inl hi)));have hb:=z.size;have hd:=ha.m;refine de hw (ws λ_ hr=>wr (dm ?_));refine dz rfl (df 1 rfl (dl rfl (hd.at rfl) (dm (dm ?_))));refine PI (l:=(es.filter λq=>decide (q.name≠e.name)).map Fm.kv) (kx:=b) (a:=some e.b) GR rfl rfl rfl rfl ha.map (by unfold maxLen;omega) (by have:=ha.len;rw[Ao];unfold maxLen;omega) (.inl rfl) (λw9 x9 xs9 hj=>?_);have hl:=J.ren hc hy ha ht x8 x9 hj;have z:=z.own x9 (λi hi _=>J.inF i (.inr (.inl hi)));refine de hr (ws λ_ hq=>wr (dm ?_));refine cD (O7 _ bd mf _ _ _ hl (Dsk.may_live Z)) (.inl rfl) λu3 w3 x3 hf=>?_;have hsz3:=z.size;have z:=z.own x3 (λi hi hlt=>(by have e2:i=bd:=hi;rw[e2];exact J.inF bd (.inl rfl)));obtain⟨rfl,hz⟩:=hf;refine da (de hq (EJ ?_));refine ro ?_;refine⟨_,rfl,z,?_⟩;rw[Xs6 Z hp];exact⟨rfl,FSq.to ⟨_,_,hz⟩ (Lx hb) (λk hk=>Az (O k hk) z.size)⟩
theorem Xvs {D:Dsk}{n p:EC}(h:D.may [n]≠0):D.app n p=(D.may [n],D):=by unfold Dsk.app;rw[if_pos h]
theorem XV {D:Dsk}{n p:EC}(h:D.may [n]=0)(h2:D.full n p=true):D.app n p=(6,D):=by unfold Dsk.app;rw[if_neg (λe=>e h),if_pos h2]
theorem Xu {D:Dsk}{n p:EC}(h:D.may [n]=0)(h2:D.full n p=false):D.app n p=(0,Dsk.tick { D with fs:=EZ D.fs n ⟨(D.old n).data++p,(D.old n).lasts⟩ }):=by unfold Dsk.app;rw[if_neg (λe=>e h),if_neg (by rw[h2];decide)]
theorem X9g {D:Dsk}{n p:EC}(h:D.room-↑D.used<↑p.length):D.full n p=true:=by unfold Dsk.full;simp [h]
theorem X9h {D:Dsk}{n p:EC}(h2:lk D.fs n=none)(h:4096<=D.fs.length):D.full n p=true:=by unfold Dsk.full;simp [h2,h]
theorem Vj {D:Dsk}{n p:EC}(h:¬ D.room-↑D.used<↑p.length)(h2:lk D.fs n=none->¬ 4096<=D.fs.length):D.full n p=false:=by
 unfold Dsk.full;rw[decide_eq_false h,Bool.false_or]
 cases e:lk D.fs n with
 | none=>simp [h2 e]
 | some f=>rfl
theorem DiskE.fresh {F:Nat->Prop}{bd mf b:Nat}{es:List Fm}{D:Dsk}{w w1 w2:World}{n:EC}(h:DiskE F bd mf es D w)(hn:1<=n.length/\n.length<=64)(hno:fe es n=none)(hc:D.fs.length<4096)(x:ED w w1)(m1:EK w1 b [.slice none 0 0,I 0] 125)(hb:w.heap.size<=b)
  (m:Vc.Mod (ET mf) w1 w2) (hm:FE Tryz.prog 9 S pO w2 mf (EZ (es.map Fm.kv) n (some b))):DiskE (Gx F w w2) bd mf (GX es n ⟨n,b,.slice none 0 0,⟨[],0⟩⟩) { D with fs:=EZ D.fs n ⟨[],0⟩ } w2:=by
 have z:¬ b=mf:=λe=>by have:=h.map.lt;omega
 refine h.put (e:=⟨n,b,.slice none 0 0,⟨[],0⟩⟩) rfl (ED.mod x m) (λk hk _=>.inl hk) hm (m1.mod m z) OwnC.nil (λk hk=>.inl ?_) ?_
 ·rcases hk with rfl|hk
  ·exact hb
  ·cases hk
 ·refine h.wf.set (n:=n) (f:=⟨[],0⟩) hn (Ab _) ?_ (.inr hc);have h2:=h.wf.used;have h3:D.old n=⟨[],0⟩:=by unfold Dsk.old;rw[h.look,hno];rfl
  rw[h3];simpa using h2
theorem VY {D:Dsk}{n:EC}(h:lk D.fs n=none):D.old n=⟨[],0⟩:=by unfold Dsk.old;rw[h];rfl
theorem Xk {D:Dsk}{n:EC}{f:Fil}(h:lk D.fs n=some f):D.old n=f:=by unfold Dsk.old;rw[h];rfl
theorem Si (F:Nat->Prop)(bd:Nat)(D:Dsk)(n:EC)(qs:List (Value×EC))(vr:Value)(w:World)(h:FSq F bd D w)(hr:EQ (λq:Value×EC=>[q.1]) 1 w vr qs)(hq:∀q∈qs,EQ EO 1 w q.1 q.2)(hql:(qs.flatMap (·.2)).length<=1001000020)(hqn:qs.length<=1000000) :
  Calls Tryz.prog 83 [EE bd 0,S n,vr].toArray w (Ff F w (λu w'=>u=I (D.app n (qs.flatMap (·.2))).1/\FSq (Gx F w w') bd ((D.app n (qs.flatMap (·.2))).2) w')):=by
 refine cw Tryz.func83 ?_;have J:=ED.refl w;obtain⟨mf,es,z⟩:=h;have hb:=z.lt;have hd:=z.m;have hc:=z.map.at;have Y:=z.map;have hub0:=z.wf.room1;have hud0:=z.wf.used;have hr00:=z.wf.room0;refine ws λ_ Z1=>wr (da (de Z1 (ws λ_ Z2=>ws λ_ Z3=>wr (dm (dm ?_)))));refine li (e:=9) (sz:=1) (zs:=[S []]) (pv:=[(0,_)]) (cs:=[_]) RX.all (λb1 w1 e1 x1 m1=>?_);have g1:=J.ge e1;have a1_hE:=z.lt;have a1_hd:=hd.lt;have z:=z.ext x1;have hd:=hd.ext x1;have hc:=hc.ext x1;have Y:=Y.ext x1;have J:=J.trans x1;refine cP (OM bd mf D [n] _ _ hd (K6 m1) ER) RX.all λw2 x2=>?_;have z:=z.ext x2;have hd:=hd.ext x2;have hc:=hc.ext x2;have Y:=Y.ext x2;have J:=J.trans x2;refine da (de Z3 (ws λ_ Z4=>wr (dm ?_)));refine dp (FH rfl rfl) (de Z4 (wi (λc1=>?_) λc1=>?_))
 ·refine ws λ_ Z5=>wr (dm (da (de Z5 (EJ ?_))));refine ro ?_;refine⟨_,rfl,J.mono (λ_ h _=>h.elim),?_⟩;rw[Xvs c1];exact⟨rfl,mf,es,z.wide (λi hi=>.inl hi) (HT hb J.size)⟩
 have hg:D.may [n]=0:=AK c1;have xb:=Dsk.may_names hg n ER;have xq:n.length<=maxLen:=by unfold maxLen;omega
 refine EI (Z2 _ _ (ws λ_ Z6=>wr (dm ?_)));refine cG (Oo qs vr _ (hr.ext J) (λq h=>(hq q h).ext J) EB hqn) RX.all λup w3 x3 xp=>?_;have xj:=J.size;have z:=z.ext x3;have hd:=hd.ext x3;have hc:=hc.ext x3;have Y:=Y.ext x3;have J:=J.trans x3;have hJ:=xp.1;have yq:(qs.flatMap (·.2))≠[]->w.heap.size<=(base up).1:=λe=>Ai xj (xp.2 e);refine da (de Z6 (ws λ_ Z7=>wr (dm ?_)));refine dz rfl (df 1 rfl (dl rfl (hd.at rfl) (dm ?_)));refine dq (Np rfl rfl hc xq) (da (de Z7 (ws λ_ Z8=>ws λ_ Z9=>?_)));refine F9 (R:=ED) ED.refl (λ_ _ _=>ED.trans) EA [5,17,18] [(0,.p,false),(1,.p,false),(2,.p,false),(3,.p,false),(4,.p,false),(5,.l,false),(6,.p,false),(7,.x,false),(8,.p,false),(9,.p,false),(10,.p,false),(11,.p,false),(12,.p,false),(13,.p,false),(14,.p,false),(15,.p,false),(16,.p,false),(17,.l,false),(18,.l,false),(19,.p,false),(20,.p,false),(21,.p,false)] rfl EA EA (λw4 xu=>?_);have x4:=EL xu;clear xu;have z:=z.ext x4;have hd:=hd.ext x4;have Y:=Y.ext x4;have hJ:=hJ.ext x4;have J:=J.trans x4;refine dm ?_;refine dv 5 1 hJ.sl (dm ?_);refine dz rfl (df 0 rfl (dL rfl (λ_ hR=>((hd.ext hR).at rfl)) (dm ?_)));refine cP (X9d F bd mf es D _ z) RX.ext λw5 x5=>?_;have z:=z.ext x5;have hd:=hd.ext x5;have Y:=Y.ext x5;have hJ:=hJ.ext x5;have J:=J.trans x5;refine ps rfl rfl (dp (Gg rfl rfl) (dm ?_));refine F4 35 rfl (λc2=>?_) (λc2=>?_)
 ·iterate 10 refine dk ?_
  refine EP (de Z9 ?_);refine GS rfl (ws λ_ ym=>wr (da (de ym (EJ ?_))));refine ro ?_;refine⟨_,rfl,J.mono (λ_ h _=>h.elim),?_⟩;rw[XV hg (X9g c2)];exact⟨rfl,mf,es,z.wide (λi hi=>.inl hi) (HT hb J.size)⟩
 refine dm ?_;refine dp (Gi EA rfl rfl) (dm ?_);refine F4 38 rfl (λc3=>?_) (λc3=>?_)
 ·refine dm ?_;refine dz rfl (df 1 rfl (dL rfl (λ_ hR=>((hd.ext hR).at rfl)) (FW rfl (λw' hR=>X44 GR rfl (Y.ext hR)) (dp (IA rfl rfl) (EP ?_)))));refine EP (de Z9 ?_);refine wi (λc4=>?_) λc4=>?_
  ·refine ws λ_ yg=>wr (da (de yg (EJ ?_)));refine ro ?_;refine⟨_,rfl,J.mono (λ_ h _=>h.elim),?_⟩;rw[XV hg (X9h (by rw[z.look,NM.1 c3];rfl) (by rw[z.fs,Ao];rw[Ao]at c4;omega))];exact⟨rfl,mf,es,z.wide (λi hi=>.inl hi) (HT hb J.size)⟩
  refine EI (Z8 _ _ ?_);refine Hz (G:=(Nat->Prop)×List Fm×Dsk×Fm) (λ(F2,e2,D2,e)=>[(0,EE bd 0),(6,I 0),(8,up),(9,EE e.b 0)]) (λ(F2,e2,D2,e) w'=>Mod F w w'/\DiskE F2 bd mf e2 D2 w'/\e∈e2/\(∀i,F i->F2 i)/\(∀i,F2 i->F i\/w.heap.size<=i)/\EQ EO 1 w' up (qs.flatMap (·.2))/\D2.fused=D.fused/\D2.left=D.left/\e.f.data.length+((qs.flatMap (·.2))).length<=1073741824/\Dsk.Wf { D2 with fs:=EZ D2.fs e.name ⟨e.f.data++(qs.flatMap (·.2)),e.f.lasts⟩ }/\D.app n (qs.flatMap (·.2))=(0,Dsk.tick { D2 with fs:=EZ D2.fs e.name ⟨e.f.data++(qs.flatMap (·.2)),e.f.lasts⟩ })) ?_ ?_
  ·refine ws λ_ yl=>wr (dm ?_);refine dp (Gi EA rfl rfl) (de yl (wi (λc5=>?_) λc5=>?_))
   ·have xo:fe es n=none:=NM.1 c3;have hf:lk D.fs n=none:=by rw[z.look,xo];rfl
    have xv:D.fs.length<4096:=by rw[z.fs,Ao];rw[Ao]at c4;omega
    have x7:=z;have x0:=J.size;have yr:=z.wf.room1;have yn:=z.wf.used;have xw:Dsk.Wf { D with fs:=EZ (EZ D.fs n ⟨[],0⟩) n ⟨[]++qs.flatMap (·.2),0⟩ }:=by
     rw[N8];refine z.wf.set xb (Ae _) ?_ (.inr xv);rw[VY hf];simp only [AE,Bi];omega
    refine ws λ_ yi=>wr (db (zs:=[.slice none 0 0,.int .i64 0]) (pl:=[(0,1),(1,1)]) (pv:=[]) (cs:=[.slice none 0 0,.int .i64 0]) ?_);refine Gn rfl rfl rfl RX.all (λb2 w6 e2 x6 m2=>?_);have g2:=J.ge e2;have a2_hE:=z.lt;have a2_hd:=hd.lt;have a2_hJ:=EQ.base_lt hJ EN;have z:=z.ext x6;have hd:=hd.ext x6;have Y:=Y.ext x6;have hJ:=hJ.ext x6;have J:=J.trans x6;refine da (de yi (wr (dm ?_)));refine dz rfl (df 1 rfl (dl rfl (hd.at rfl) (dm (dm ?_))));refine PI (l:=es.map Fm.kv) (kx:=n) (a:=some b2) GR rfl rfl rfl rfl Y xq (by have:=z.len;rw[Ao];unfold maxLen;omega) (.inl rfl) (λw9 x9 yp yj=>?_);have xr:=x7.fresh xb xo xv x6 m2 (BJ e2.symm) x9 yj;have J:=(J.mod x9).mono (λi hi _=>(z.inF i (.inr (.inl hi)):F i));have hJ:=hJ.mod x9 (λhl e=>by have e2:(base up).1=mf:=e;have h3:=yq hl;have h4:=z.inF mf (.inr (.inl rfl));have h5:=hb mf h4;omega);have hd:=xr.m;refine EH ((⟨(Gx F _ _,GX es n ⟨n,b2,.slice none 0 0,⟨[],0⟩⟩,{ D with fs:=EZ D.fs n ⟨[],0⟩ },⟨n,b2,.slice none 0 0,⟨[],0⟩⟩),Gc,J,xr,Xnp,λi h=>.inl h,Lx x0,hJ,rfl,rfl,(by simp only [Bi];omega),xw,?_⟩));rw[Xu hg (Vj c2 (λ_=>by omega)),VY hf];simp only [N8]
   exact absurd c3 c5
  intro X7 g7 w7 ya;obtain⟨F2,e2,D2,e⟩:=g7;clear J z hd hc Y m1 hJ;obtain⟨J,z,Z,xi,ha,hJ,h7,hle,yb,ht,hp⟩:=ya;have hd:=z.m;have O:=(z.el e Z).1;have ho:=(z.el e Z).2;have xg:=ho.ne_blk O rfl;have hz:¬ (D2.fused=true/\D2.left=0):=by rw[h7,hle];exact Dsk.may_live hg
  have xf:=J.size;refine ws λ_ xz=>wr (dm (dm ?_));refine dz rfl (df 0 rfl (dl rfl (O.at rfl) (dm ?_)));refine VK (lx:=(qs.flatMap (·.2))) (e:=5) (sz:=1) (by':=1) rfl EA EA EF ho (hJ) rfl rfl (by intro x _ u hu;simp at hu;rcases hu with rfl<;>rfl) EB EN (Ae _) (.inl rfl) (λv2 w8 hy x8 xx=>?_);have hj:=xx;have h6:=x8;have O:=O.mod x8 (by exact xg);have J:=J.own x8 (λi hi xc=>(ha i (z.foot_F Z (.inr hi))).resolve_right EB);have ho:=hy;have hh:=ho.ne_blk O rfl;refine dz rfl (df 0 rfl (G4 O (λw9 x9 yp O=>?_) (hv:=by exact ho.sl.one)));dsimp only [EY,Af,Ad,Ag]at O;have ho:=ho.mod x9 (λk hk h=>hh (by have h2:k=e.b:=h;rw[hk,h2]));have J:=J.own x9 (λi hi _=>(ha i (z.foot_F Z (.inl hi))).resolve_right EB);refine de xz (ws λ_ xy=>wr ?_);have hw:=x9;refine dm ?_;have xd:=z.file (v:=v2) (f:=⟨e.f.data++qs.flatMap (·.2),e.f.lasts⟩) Z ((h6.mono (λi hi _=>.inr hi)).own hw (λi hi _=>.inl hi)) (λk hk _=>hk) O ho (hj.imp id (λe2 k hk=>by rw[e2]at hk;cases hk;exact Ab _)) ht;have xl:=Ai h6.size hw.size;refine cD (O7 _ bd mf _ _ _ xd hz) (.inl rfl) λu10 w10 yd xk=>?_;have hsz10:=J.size;have J:=J.own yd (λi hi xc=>(ha i (z.inF i (.inl hi))).resolve_right EB);obtain⟨rfl,xa⟩:=xk;refine da (de xy (EJ ?_));refine ro ?_;refine⟨_,rfl,J,?_⟩;rw[hp];exact⟨rfl,FSq.to (G:=Gx F2 _ _) ⟨_,_,xa⟩ (λk hk=>hk.elim (ha k) (λh=>.inr (Ai xf h.1))) (λk hk=>Az (hb k hk) J.size)⟩
 refine dk (dk (dk (dk (dk (dk (EP ?_))))));refine EP (de Z9 ?_);refine Hf rfl (EI (Z8 _ _ ?_));refine Hz (G:=(Nat->Prop)×List Fm×Dsk×Fm) (λ(F2,e2,D2,e)=>[(0,EE bd 0),(6,I 0),(8,up),(9,EE e.b 0)]) (λ(F2,e2,D2,e) w'=>Mod F w w'/\DiskE F2 bd mf e2 D2 w'/\e∈e2/\(∀i,F i->F2 i)/\(∀i,F2 i->F i\/w.heap.size<=i)/\EQ EO 1 w' up (qs.flatMap (·.2))/\D2.fused=D.fused/\D2.left=D.left/\e.f.data.length+((qs.flatMap (·.2))).length<=1073741824/\Dsk.Wf { D2 with fs:=EZ D2.fs e.name ⟨e.f.data++(qs.flatMap (·.2)),e.f.lasts⟩ }/\D.app n (qs.flatMap (·.2))=(0,Dsk.tick { D2 with fs:=EZ D2.fs e.name ⟨e.f.data++(qs.flatMap (·.2)),e.f.lasts⟩ })) ?_ ?_
 ·refine ws λ_ yk=>wr (dm ?_);refine dp (Gi EA rfl rfl) (de yk (wi (λc6=>?_) λc6=>?_))
  ·exact absurd c6 c3
  obtain⟨e,he⟩:=PR c6;rw[he];have hf:lk D.fs n=some e.f:=by rw[z.look,he];rfl
  obtain⟨Z,yh⟩:=Nw he;subst yh;have yr:=z.wf.room1;have yn:=z.wf.used;have hel:e.f.data.length<=D.used:=T9 (p:=(e.name,e.f)) (by rw[z.fs];exact Aq.2 ⟨e,Z,rfl⟩);have xh:Dsk.Wf { D with fs:=EZ D.fs e.name ⟨e.f.data++qs.flatMap (·.2),e.f.lasts⟩ }:=by
   refine z.wf.set xb (by have:=z.lasts Z;simp only [Aa];omega) ?_ (.inl (by rw[hf];rfl));rw[Xk hf];simp only [Aa];omega
  refine EI (⟨(F,es,D,e),Gc,J.mono (λ_ h _=>h.elim),z,Z,λi h=>h,λi h=>.inl h,hJ,rfl,rfl,EB,xh,?_⟩);rw[Xu hg (Vj c2 (λh=>by rw[hf]at h;cases h)),Xk hf]
 intro X11 yf w11 xm;obtain⟨F2,e2,D2,e⟩:=yf;clear J z hd hc Y m1 hJ;obtain⟨J,z,Z,xi,ha,hJ,h7,hle,yb,ht,hp⟩:=xm;have hd:=z.m;have O:=(z.el e Z).1;have ho:=(z.el e Z).2;have xg:=ho.ne_blk O rfl;have hz:¬ (D2.fused=true/\D2.left=0):=by rw[h7,hle];exact Dsk.may_live hg
 have xf:=J.size;refine ws λ_ yo=>wr (dm (dm ?_));refine dz rfl (df 0 rfl (dl rfl (O.at rfl) (dm ?_)));refine VK (lx:=(qs.flatMap (·.2))) (e:=5) (sz:=1) (by':=1) rfl EA EA EF ho (hJ) rfl rfl (by intro x _ u hu;simp at hu;rcases hu with rfl<;>rfl) EB EN (Ae _) (.inl rfl) (λv2 w12 hy h9 xe=>?_);have hj:=xe;have h6:=h9;have O:=O.mod h9 (by exact xg);have J:=J.own h9 (λi hi xc=>(ha i (z.foot_F Z (.inr hi))).resolve_right EB);have ho:=hy;have hh:=ho.ne_blk O rfl;refine dz rfl (df 0 rfl (G4 O (λw13 h8 xs13 O=>?_) (hv:=by exact ho.sl.one)));dsimp only [EY,Af,Ad,Ag]at O;have ho:=ho.mod h8 (λk hk h=>hh (by have h2:k=e.b:=h;rw[hk,h2]));have J:=J.own h8 (λi hi _=>(ha i (z.foot_F Z (.inl hi))).resolve_right EB);refine de yo (ws λ_ yc=>wr ?_);have hw:=h8;refine dm ?_;have xd:=z.file (v:=v2) (f:=⟨e.f.data++qs.flatMap (·.2),e.f.lasts⟩) Z ((h6.mono (λi hi _=>.inr hi)).own hw (λi hi _=>.inl hi)) (λk hk _=>hk) O ho (hj.imp id (λe2 k hk=>by rw[e2]at hk;cases hk;exact Ab _)) ht;have xl:=Ai h6.size hw.size;refine cD (O7 _ bd mf _ _ _ xd hz) (.inl rfl) λu14 w14 ye xn=>?_;have hsz14:=J.size;have J:=J.own ye (λi hi xc=>(ha i (z.inF i (.inl hi))).resolve_right EB);obtain⟨rfl,xa⟩:=xn;refine da (de yc (EJ ?_));refine ro ?_;refine⟨_,rfl,J,?_⟩;rw[hp];exact⟨rfl,FSq.to (G:=Gx F2 _ _) ⟨_,_,xa⟩ (λk hk=>hk.elim (ha k) (λh=>.inr (Ai xf h.1))) (λk hk=>Az (hb k hk) J.size)⟩
theorem OW {F:Nat->Prop}{w1 w2:World}{i:Nat}(h:Gx F w1 w2 i)(hi:i<w1.heap.size):F i:=h.resolve_right (λh2=>by omega)
theorem Xvt {D:Dsk}{s:EC} : (decide (D.readE s=0))=D.has s:=by unfold Dsk.readE;cases D.has s<;>rfl
theorem Th {D:Dsk}{n p:EC}(h:n.length<1\/60<n.length):D.save n p=(1,D):=by unfold Dsk.save;rw[if_pos h]
theorem X9i {D:Dsk}{n p:EC}(h:¬ (n.length<1\/60<n.length))(h2:1048576<p.length):D.save n p=(5,D):=by unfold Dsk.save;rw[if_neg h,if_pos h2]
theorem X9j {D:Dsk}{n p:EC}(h:¬ (n.length<1\/60<n.length))(h2:¬ 1048576<p.length)(h3:D.has (Dsk.sh n)=true)(h4:(D.rem [Dsk.sh n]).1≠0):D.save n p=D.rem [Dsk.sh n]:=by unfold Dsk.save;rw[if_neg h,if_neg h2,if_pos h3,if_pos h4]
theorem X9k {D:Dsk}{n p:EC}(h:¬ (n.length<1\/60<n.length))(h2:¬ 1048576<p.length)(h3:D.has (Dsk.sh n)=true)(h4:¬ (D.rem [Dsk.sh n]).1≠0):D.save n p=Dsk.save2 (D.rem [Dsk.sh n]).2 n p:=by unfold Dsk.save;rw[if_neg h,if_neg h2,if_pos h3,if_neg h4]
theorem X9l {D:Dsk}{n p:EC}(h:¬ (n.length<1\/60<n.length))(h2:¬ 1048576<p.length)(h3:D.has (Dsk.sh n)=false):D.save n p=Dsk.save2 D n p:=by unfold Dsk.save;rw[if_neg h,if_neg h2,if_neg (by rw[h3];decide)]
theorem X5h {D:Dsk}{n p:EC}(h:(D.app (Dsk.sh n) (EG p)).1≠0):Dsk.save2 D n p=D.app (Dsk.sh n) (EG p):=by unfold Dsk.save2;rw[if_pos h]
theorem X5i {D:Dsk}{n p:EC}(h:¬ (D.app (Dsk.sh n) (EG p)).1≠0)(h2:((D.app (Dsk.sh n) (EG p)).2.sync [Dsk.sh n]).1≠0):Dsk.save2 D n p=(D.app (Dsk.sh n) (EG p)).2.sync [Dsk.sh n]:=by unfold Dsk.save2;rw[if_neg h,if_pos h2]
theorem X5j {D:Dsk}{n p:EC}(h:¬ (D.app (Dsk.sh n) (EG p)).1≠0)(h2:¬ ((D.app (Dsk.sh n) (EG p)).2.sync [Dsk.sh n]).1≠0):Dsk.save2 D n p=((D.app (Dsk.sh n) (EG p)).2.sync [Dsk.sh n]).2.ren (Dsk.sh n) n:=by unfold Dsk.save2;rw[if_neg h,if_neg h2]
theorem K5 {v:Value}{p:EC}{w:World}{b:Nat}(h:EK w b [v] 82):EQ (λq:Value×EC=>[q.1]) 1 w (.slice (some ⟨b,0,none⟩) 1 1) [(v,p)]:=h.arr (enc:=λq:Value×EC=>[q.1]) (sz:=1) (l:=[(v,p)]) rfl EF rfl ER
theorem Oe {F:Nat->Prop}{bd:Nat}{D:Dsk}{w:World}(h:FSq F bd D w){b:Nat}(hb:w.heap.size<=b):¬ F b:=λz=>by have:=h.lt _ z;omega
def Lv (D:Dsk)(s:EC):EC×Int:=if D.readE s≠0 then([],D.readE s)else if(HO (D.readB s)).2≠0 then([],3)else((HO (D.readB s)).1,0)
theorem WS {D:Dsk}{s:EC}(h:D.readE s≠0):Lv D s=([],D.readE s):=if_pos h
theorem X5k {D:Dsk}{s:EC}(h:D.readE s=0)(h2:(HO (D.readB s)).2≠0):Lv D s=([],3):=by unfold Lv;rw[if_neg (λe=>e h),if_pos h2]
theorem Ve {D:Dsk}{s:EC}(h:D.readE s=0)(h2:(HO (D.readB s)).2=0):Lv D s=((HO (D.readB s)).1,0):=by unfold Lv;rw[if_neg (λe=>e h),if_neg (λe=>e h2)]
theorem Ud {D:Dsk}(h:D.Wf)(s:EC):(D.readB s).length<=2001000020:=by
 unfold Dsk.readB Dsk.read
 cases e:lk D.fs s with
 | none=>simp
 | some f=>have:=h.data (P0 e);simp at this ⊢;omega
def Hu (p:EC):Int:=if 1048576<p.length then 5 else 0
theorem RT (p:EC)(vp vr:Value)(w:World)(hr:EQ (λx:Value=>[x]) 1 w vr [vp])(hp:EQ EO 1 w vp p)(hpl:p.length<=2001000020) :
  Calls Tryz.prog 82 [vr].toArray w (ES w (λu w'=>∃v,u=.tuple #[v,I (Hu p)]/\(Hu p=0->EQ EO 1 w' v (EG p)/\w.heap.size<=(base v).1))):=by
 refine(Ybs p vp vr w hr hp hpl).mono ?_;rintro e w' ⟨u,rfl,hx,h|⟨h1,v,rfl,h2,h3⟩⟩
 ·obtain⟨h1,rfl⟩:=h;have J:Hu p=5:=if_pos h1;exact⟨_,rfl,hx,_,by rw[J],λz=>by rw[J]at z;cases z⟩
 ·have z:Hu p=0:=if_neg EB;exact⟨_,rfl,hx,_,by rw[z],λ_=>⟨h2,h3⟩⟩
theorem XO {p:EC}(h:Hu p=0):¬ 1048576<p.length:=λh2=>by rw[show Hu p=5 from if_pos h2]at h;cases h
theorem Vv {p:EC}(h:Hu p≠0):1048576<p.length:=by
 unfold Hu at h;split at h
 ·assumption
 ·exact absurd rfl h
theorem X5l (F:Nat->Prop)(bd:Nat)(D:Dsk)(s:EC)(w:World)(h:FSq F bd D w)(hok:s.length<=maxLen) :
  Calls Tryz.prog 250 [EE bd 0,S s].toArray w (Pure w (B (D.has s))):=by
 refine cw Tryz.func250 ?_;have z:=ED.refl w;refine ws λ_ Z=>wr (da (de Z (ws λ_ Y=>wr (dm (dm ?_)))));refine cG (Il F bd D s _ (h.ext z) hok) RX.all λu1 w1 x1 J=>?_;have hsz1:=z.size;have z:=z.trans x1;obtain⟨vr,rfl,hO⟩:=J;refine dm ?_;refine dx rfl rfl (dx rfl rfl (da (da (de Y (ws λ_ O=>wr (dm ?_))))));refine dp (GB rfl rfl) (da (de O (EJ ?_)));refine ro ?_;exact⟨by rw[<-Xvt],z⟩
theorem Ir (F:Nat->Prop)(bd:Nat)(D:Dsk)(s:EC)(w:World)(h:FSq F bd D w)(hok:s.length<=maxLen) :
  Calls Tryz.prog 123 [EE bd 0,S s].toArray w (ES w (λu w'=>∃v,u=.tuple #[v,I (Lv D s).2]/\Vc.Own EO 1 5 w.heap.size w' v (Lv D s).1)):=by
 refine cw Tryz.func123 ?_;have z:=ED.refl w;have hf:=Ud h.wf s;refine ws λ_ Z1=>wr (da (da (de Z1 (ws λ_ Z2=>ws λ_ Z3=>wr (dm ?_)))));refine dp (Gi EA rfl rfl) (de Z3 (wi (λc1=>?_) λc1=>?_))
 ·exact absurd c1 ER
 refine EI (Z2 _ _ (ws λ_ Z4=>wr (dm (dm ?_))));refine cG (Il F bd D s _ (h.ext z) hok) RX.all λu1 w1 x1 Z=>?_;have hsz1:=z.size;have z:=z.trans x1;obtain⟨vr,rfl,hO⟩:=Z;refine dm ?_;refine dx rfl rfl (dx rfl rfl (da (da (de Z4 (ws λ_ Z5=>ws λ_ Z6=>wr (dm ?_))))));refine dp (FH rfl rfl) (de Z6 (wi (λJ=>?_) λJ=>?_))
 ·refine ws λ_ Z7=>wr (dm (da (da (de Z7 (EJ ?_)))));refine rt ?_;rw[WS J];exact⟨_,rfl,z,_,rfl,Vc.Own.nil⟩
 refine EI (Z5 _ _ (ws λ_ Z8=>wr (dm ?_)));refine cG (WB (D.readB s) vr _ (hO.arr EF) hf) RX.all λu2 w2 x2 hc=>?_;have hsz2:=z.size;have z:=z.trans x2;obtain⟨vo,rfl,hP⟩:=hc;refine dm ?_;refine dx rfl rfl (dx rfl rfl (da (da (de Z8 (ws λ_ Z9=>ws λ_ O=>wr (dm ?_))))));refine dp (FH rfl rfl) (de O (wi (λY=>?_) λY=>?_))
 ·refine ws λ_ ha=>wr (da (da (de ha (EJ ?_))));refine rt ?_;rw[X5k (AK J) Y];exact⟨_,rfl,z,_,rfl,Vc.Own.nil⟩
 refine EI (Z9 _ _ (ws λ_ hb=>wr (dm (da (da (de hb (EJ ?_)))))));refine rt ?_;rw[Ve (AK J) (AK Y)];exact⟨_,rfl,z,_,rfl,hP.mono EB⟩
theorem Qn (F:Nat->Prop)(bd:Nat)(D:Dsk)(n p:EC)(vp vr:Value)(w:World)(h:FSq F bd D w)(hr:EQ (λx:Value=>[x]) 1 w vr [vp])(hp:EQ EO 1 w vp p)(hpl:p.length<=2001000020)(hnl:n.length<=140737488355327) :
  Calls Tryz.prog 176 [EE bd 0,S n,vr].toArray w (Ff F w (λu w'=>u=I (D.save n p).1/\FSq (Gx F w w') bd ((D.save n p).2) w')):=by
 refine cw Tryz.func176 ?_;have z:=ED.refl w;have h6:EG p≠[]:=λh=>by have:=Jm p;rw[h]at this;simp at this
 refine ws λ_ Z1=>wr (da (de Z1 (ws λ_ Z2=>ws λ_ Z3=>wr (dm ?_))));refine dp (Gi EA rfl rfl) (dm ?_);refine F4 14 rfl (λc1=>?_) (λc1=>?_)
 ·exact absurd c1 ER
 refine dm ?_;refine dt rfl (dp (Fb rfl rfl) (EP ?_));refine dm ?_;refine F4 19 rfl (λc2=>?_) (λc2=>?_)
 ·refine dk (dk (dk (EP (de Z3 ?_))));refine GS rfl (ws λ_ Z4=>wr (da (de Z4 (EJ ?_))));refine ro ?_;rw[Th EB];exact⟨_,rfl,z.mono (λ_ h _=>h.elim),rfl,h.grow z⟩
 refine dm ?_;refine dt rfl (dp (Gg rfl rfl) (EP (de Z3 ?_)));refine wi (λc3=>?_) λc3=>?_
 ·refine ws λ_ Z5=>wr (da (de Z5 (EJ ?_)));refine ro ?_;rw[Th EB];exact⟨_,rfl,z.mono (λ_ h _=>h.elim),rfl,h.grow z⟩
 refine EI (Z2 _ _ (ws λ_ Z6=>wr (dm ?_)));refine cG (RT p vp vr _ (hr.ext z) (hp.ext z) hpl) RX.all λu1 w1 x1 xh=>?_;have hh:=z.size;have z:=z.trans x1;obtain⟨vb,rfl,hE⟩:=xh;refine dm ?_;refine dx rfl rfl (dx rfl rfl (da (da (de Z6 (ws λ_ Z7=>ws λ_ Z8=>wr (dm ?_))))));refine dp (FH rfl rfl) (de Z8 (wi (λc4=>?_) λc4=>?_))
 ·refine ws λ_ Z9=>wr (dm (da (de Z9 (EJ ?_))));refine ro ?_;rw[X9i EB (Vv c4),show Hu p=5 from if_pos (Vv c4)];exact⟨_,rfl,z.mono (λ_ h _=>h.elim),rfl,h.grow z⟩
 have hc:Hu p=0:=AK c4;have O:=(hE hc).1;have hy:=Ai hh (hE hc).2;have Z:¬ (n.length<1\/60<n.length):=by omega
 have hb:=XO hc;refine EI (Z7 _ _ ?_);refine Hz (G:=(Nat->Prop)×Dsk) (λ(Fc,Dc)=>[(0,EE bd 0),(1,S n),(7,vb)]) (λ(Fc,Dc) w'=>Mod F w w'/\FSq Fc bd Dc w'/\(∀k,Fc k->F k\/w.heap.size<=k)/\EQ EO 1 w' vb (EG p)/\D.save n p=Dsk.save2 Dc n p) ?_ ?_
 ·refine ws λ_ xb=>wr (dm (dm ?_));refine dp (II rfl rfl (by simp;omega)) (cP (X5l F bd D (n++[126]) _ (h.ext z) (by simp;unfold maxLen;omega)) RX.all λw2 x2=>?_);have O:=O.ext x2;have z:=z.trans x2;refine de xb (wc (λc5=>?_) λc5=>?_)
  ·refine ws λ_ xk=>wr (dm (dm ?_));refine dp (II rfl rfl (by simp;omega)) (li (e:=9) (sz:=1) (zs:=[S []]) (pv:=[(0,_)]) (cs:=[_]) RX.all (λb1 w3 e1 x3 m1=>?_));have g1:=z.ge e1;have a1_hB:=EQ.base_lt O EN;have O:=O.ext x3;have z:=z.trans x3;refine cD (O2 F bd D [n++[126]] _ _ (h.ext z) (K6 m1) ER (λ_=>Oe h g1)) (.inl rfl) λu4 w4 x4 hw=>?_;have hf:=z.size;have O:=O.mod x4 (λ_=>Oe h hy);have z:=(z.mod x4).mono (λi hi _=>(hi:F i));obtain⟨rfl,hA⟩:=hw;have Y:=hf;refine da (de xk (ws λ_ xl=>wr (dm ?_)));refine dp (FH rfl rfl) (de xl (wi (λc6=>?_) λc6=>?_))
   ·refine ws λ_ h5=>wr (dm (da (de h5 (EJ ?_))));refine ro ?_;rw[X9j Z hb c5 c6];exact⟨_,rfl,z,rfl,hA.to (Lx Y) (λk hk=>Az (h.lt k hk) z.size)⟩
   refine EI ?_;exact⟨(_,_),Hd,z,hA,Lx Y,O,X9k Z hb c5 c6⟩
  refine EI ?_;exact⟨(F,D),Hd,z.mono (λ_ h _=>h.elim),h.ext z,λ_ h=>.inl h,O,X9l Z hb c5⟩
 intro X5 g5 w5 xd;obtain⟨Fc,Dc⟩:=g5;clear z O;obtain⟨z,hA,J,O,ha⟩:=xd;have hsw:=z.size;have hBl:=O.base_lt EN h6;refine ws λ_ hz=>ws λ_ ht=>wr (dm (dm ?_));refine dp (II rfl rfl (by simp;omega)) (dm ?_);refine It (e:=82) (sz:=1) (zs:=[.slice none 0 0]) (pv:=[(0,?a35_0)]) (cs:=[?a35_0]) rfl EA ⟨rfl,rfl⟩ EA rfl ?h35 ?f35 RX.all (λb2 w6 e2 x6 m2=>?k35)
 case h35=>refine⟨rfl,?_,trivial⟩<;>(conv=>lhs;whnf)
 case f35=>simp [H7,EY,Ax,O.sl.cells]
 have g2:=z.ge e2;have a2_hB:=EQ.base_lt O EN;have O:=O.ext x6;have hA:=hA.ext x6;have z:=z.ext x6;refine cD (Si Fc bd Dc (n++[126]) [(vb,EG p)] _ _ hA (K5 m2) (by intro q h;rw[Ah.1 h];exact O) (by simp [Jm];omega) ER) (.inl rfl) λu7 w7 x7 hg=>?_;have hsz7:=z.size;have z:=z.own x7 (λi hi hl=>(J i hi).resolve_right EB);rw[show BH (λq:Value×EC=>q.2) [(vb,EG p)]=EG p by simp]at hg;obtain⟨rfl,hA⟩:=hg;have xa:=hA;refine da (de ht (ws λ_ h7=>wr (dm ?_)));refine dp (FH rfl rfl) (de h7 (wi (λc7=>?_) λc7=>?_))
 ·refine ws λ_ xj=>wr (dm (da (de xj (EJ ?_))));refine ro ?_;rw[ha,X5h c7];exact⟨_,rfl,z,rfl,hA.to (λk hk=>(λhk=>hk.elim (J k) (λh9=>.inr EB)) hk) (λk hk=>Az (h.lt k hk) z.size)⟩
 refine EI (hz _ _ (ws λ_ xc=>ws λ_ xi=>wr (dm (dm ?_))));refine dp (II rfl rfl (by simp;omega)) (li (e:=9) (sz:=1) (zs:=[S []]) (pv:=[(0,_)]) (cs:=[_]) RX.all (λb3 w8 e3 x8 m3=>?_));have g3:=z.ge e3;have hA:=hA.ext x8;have z:=z.ext x8;refine cD (RI _ bd _ [n++[126]] _ _ hA (K6 m3) ER (λ_=>Oe xa (BJ e3.symm))) (.inl rfl) λu9 w9 x9 hq=>?_;have hsz9:=z.size;have z:=z.own x9 (λi hi hl=>(J i (OW hi EB)).resolve_right EB);obtain⟨rfl,hA⟩:=hq;refine da (de xi (ws λ_ xe=>wr (dm ?_)));refine dp (FH rfl rfl) (de xe (wi (λc8=>?_) λc8=>?_))
 ·refine ws λ_ xg=>wr (dm (da (de xg (EJ ?_))));refine ro ?_;rw[ha,X5i c7 c8];exact⟨_,rfl,z,rfl,hA.to (λk hk=>(λhk=>hk.elim (λhk=>hk.elim (J k) (λh9=>.inr EB)) (λh9=>.inr EB)) hk) (λk hk=>Az (h.lt k hk) z.size)⟩
 refine EI (xc _ _ (ws λ_ xf=>wr (dm (dm ?_))));refine dp (II rfl rfl (by simp;omega)) (dm ?_);refine cD (Ybu _ bd _ (n++[126]) n _ hA) (.inl rfl) λu10 w10 h8 hj=>?_;have hsz10:=z.size;have z:=z.own h8 (λi hi hl=>(J i (OW (OW hi EB) EB)).resolve_right EB);obtain⟨rfl,hA⟩:=hj;refine da (de xf (EJ ?_));refine ro ?_;rw[ha,X5j c7 c8];exact⟨_,rfl,z,rfl,hA.to (λk hk=>(λhk=>hk.elim (λhk=>hk.elim (λhk=>hk.elim (J k) (λh9=>.inr EB)) (λh9=>.inr EB)) (λh9=>.inr EB)) hk) (λk hk=>Az (h.lt k hk) z.size)⟩
end Go.Proofs.YtiooodckiddpmaaGreatDoor
namespace Go.Proofs
open Go.Shelf
def Tryz.keys67_ren : Go.Shelf.Ren:=⟨λ|7=>67|10=>133|n=>n,λ|23=>120|26=>9|3=>123|28=>129|0=>0|27=>128|33=>208|4=>4|n=>n,λ|n=>n⟩
theorem Tryz.keys67 : Go.Proofs.SlLaysZ.n7 Tryz.prog Tryz.keys67_ren:={
 mixed:=by kernel_rfl
 f7:=⟨Tryz.f67.name,by decide,Tryz.func67.trans (congrArg some EA)⟩
 f10:=⟨Tryz.f133.name,by decide,Tryz.func133.trans (congrArg some EA)⟩
 t0:=Tryz.underlying0
 a0:=Tryz.isAgg0
 z0:=Tryz.sizeOf0
 v0:=Tryz.zeroValue0
 t4:=Tryz.underlying4
 a4:=Tryz.isAgg4
 z4:=Tryz.sizeOf4
 v4:=Tryz.zeroValue4
 t23:=Tryz.underlying120
 a23:=Tryz.isAgg120
 z23:=Tryz.sizeOf120
 v23:=Tryz.zeroValue120
 t26:=Tryz.underlying9
 a26:=Tryz.isAgg9
 z26:=Tryz.sizeOf9
 v26:=Tryz.zeroValue9
 t27:=Tryz.underlying128
 a27:=Tryz.isAgg128
 z27:=Tryz.sizeOf128
 v27:=Tryz.zeroValue128
 t28:=Tryz.underlying129
 a28:=Tryz.isAgg129
 z28:=Tryz.sizeOf129
 v28:=Tryz.zeroValue129
 t33:=Tryz.underlying208
 a33:=Tryz.isAgg208
 z33:=Tryz.sizeOf208
 v33:=Tryz.zeroValue208 }
def Tryz.sorted66_ren : Go.Shelf.Ren:=⟨λ|6=>66|8=>131|9=>132|11=>202|13=>204|12=>203|23=>271|24=>272|14=>262|15=>263|16=>264|17=>265|18=>266|19=>267|20=>268|21=>269|22=>270|25=>313|26=>314|27=>315|28=>316|29=>317|30=>305|31=>333|n=>n,λ|26=>9|28=>129|24=>58|0=>0|3=>3|37=>237|48=>174|50=>236|4=>4|40=>331|39=>330|45=>302|5=>5|9=>9|51=>355|55=>197|57=>368|58=>211|33=>208|n=>n,λ|n=>n⟩
theorem Tryz.sorted66 : Go.Proofs.SlLaysZ.n6 Tryz.prog Tryz.sorted66_ren:={
 mixed:=by kernel_rfl
 f6:=⟨Tryz.f66.name,by decide,Tryz.func66.trans (congrArg some EA)⟩
 f8:=⟨Tryz.f131.name,by decide,Tryz.func131.trans (congrArg some EA)⟩
 f11:=⟨Tryz.f202.name,by decide,Tryz.func202.trans (congrArg some EA)⟩
 t0:=Tryz.underlying0
 a0:=Tryz.isAgg0
 z0:=Tryz.sizeOf0
 v0:=Tryz.zeroValue0
 t24:=Tryz.underlying58
 a24:=Tryz.isAgg58
 z24:=Tryz.sizeOf58
 v24:=Tryz.zeroValue58
 t26:=Tryz.underlying9
 a26:=Tryz.isAgg9
 z26:=Tryz.sizeOf9
 v26:=Tryz.zeroValue9
 t28:=Tryz.underlying129
 a28:=Tryz.isAgg129
 z28:=Tryz.sizeOf129
 v28:=Tryz.zeroValue129
 i26:=by kernel_rfl }
def Tryz.lays190_ren : Go.Shelf.Ren:=⟨λ|190=>132|125=>204|258=>203|128=>271|129=>272|302=>262|303=>263|304=>264|305=>265|306=>266|307=>267|308=>268|309=>269|310=>270|333=>313|329=>314|330=>315|334=>316|335=>317|336=>305|344=>333|n=>n,λ|31=>58|9=>9|3=>3|46=>237|0=>0|51=>174|53=>236|4=>4|183=>331|182=>330|131=>302|5=>5|218=>355|222=>197|228=>368|229=>211|n=>n,λ|n=>n⟩
theorem Tryz.lays190 : Go.Proofs.Lays.n190 Tryz.prog Tryz.lays190_ren:={
 mixed:=by kernel_rfl
 f125:=Tryz.func204.trans (congrArg some EA)
 f128:=Tryz.func271.trans (congrArg some EA)
 f129:=Tryz.func272.trans (congrArg some EA)
 f190:=Tryz.func132.trans (congrArg some EA)
 f258:=Tryz.func203.trans (congrArg some EA)
 f302:=Tryz.func262.trans (congrArg some EA)
 f303:=Tryz.func263.trans (congrArg some EA)
 f304:=Tryz.func264.trans (congrArg some EA)
 f305:=Tryz.func265.trans (congrArg some EA)
 f306:=Tryz.func266.trans (congrArg some EA)
 f307:=Tryz.func267.trans (congrArg some EA)
 f308:=Tryz.func268.trans (congrArg some EA)
 f309:=Tryz.func269.trans (congrArg some EA)
 f310:=Tryz.func270.trans (congrArg some EA)
 f329:=Tryz.func314.trans (congrArg some EA)
 f330:=Tryz.func315.trans (congrArg some EA)
 f333:=Tryz.func313.trans (congrArg some EA)
 f334:=Tryz.func316.trans (congrArg some EA)
 f335:=Tryz.func317.trans (congrArg some EA)
 f336:=Tryz.func305.trans (congrArg some EA)
 f344:=Tryz.func333.trans (congrArg some EA)
 t0:=Tryz.underlying0
 a0:=Tryz.isAgg0
 z0:=Tryz.sizeOf0
 v0:=Tryz.zeroValue0
 t3:=Tryz.underlying3
 a3:=Tryz.isAgg3
 z3:=Tryz.sizeOf3
 v3:=Tryz.zeroValue3
 t4:=Tryz.underlying4
 a4:=Tryz.isAgg4
 z4:=Tryz.sizeOf4
 v4:=Tryz.zeroValue4
 t5:=Tryz.underlying5
 a5:=Tryz.isAgg5
 z5:=Tryz.sizeOf5
 v5:=Tryz.zeroValue5
 t9:=Tryz.underlying9
 a9:=Tryz.isAgg9
 z9:=Tryz.sizeOf9
 v9:=Tryz.zeroValue9
 t31:=Tryz.underlying58
 a31:=Tryz.isAgg58
 z31:=Tryz.sizeOf58
 v31:=Tryz.zeroValue58
 t46:=Tryz.underlying237
 a46:=Tryz.isAgg237
 z46:=Tryz.sizeOf237
 v46:=Tryz.zeroValue237
 t51:=Tryz.underlying174
 a51:=Tryz.isAgg174
 z51:=Tryz.sizeOf174
 v51:=Tryz.zeroValue174
 t53:=Tryz.underlying236
 a53:=Tryz.isAgg236
 z53:=Tryz.sizeOf236
 v53:=Tryz.zeroValue236
 t131:=Tryz.underlying302
 a131:=Tryz.isAgg302
 z131:=Tryz.sizeOf302
 v131:=Tryz.zeroValue302
 t182:=Tryz.underlying330
 a182:=Tryz.isAgg330
 z182:=Tryz.sizeOf330
 v182:=Tryz.zeroValue330
 t183:=Tryz.underlying331
 a183:=Tryz.isAgg331
 z183:=Tryz.sizeOf331
 v183:=Tryz.zeroValue331
 t218:=Tryz.underlying355
 a218:=Tryz.isAgg355
 z218:=Tryz.sizeOf355
 v218:=Tryz.zeroValue355
 t222:=Tryz.underlying197
 a222:=Tryz.isAgg197
 z222:=Tryz.sizeOf197
 v222:=Tryz.zeroValue197
 t228:=Tryz.underlying368
 a228:=Tryz.isAgg368
 z228:=Tryz.sizeOf368
 v228:=Tryz.zeroValue368
 t229:=Tryz.underlying211
 a229:=Tryz.isAgg211
 z229:=Tryz.sizeOf211
 v229:=Tryz.zeroValue211 }
open Go.Sort Go.RowKit in
theorem Tryz.slices_Sort_string (blk off cap:Nat)(ss:List (List UInt8))(w:World)(hH:Holds encStr w blk off ss.toArray)(hblk:blk<w.heap.size)(hsz:ss.length<4611686018427387904) :
 Calls Tryz.prog 132 #[.slice (some ⟨blk,off,none⟩) ss.length cap] w λe w'=>
  e=.returned (.tuple #[])/\∃n os,w'=grow (putRow encStr (Sort.ahead w n) blk off (ss.mergeSort λx y=>decide (x<=y)).toArray) os:=Any.slices_Sort_string Tryz.lays190 blk off cap ss w hH hblk hsz
open Go.RowKit Go.Sort in
theorem Tryz.slices_Sort_string_none (p:Option Addr)(cap:Nat)(w:World) :
 Calls Tryz.prog 132 #[.slice p 0 cap] w λe w'=>e=.returned (.tuple #[])/\w'=w:=Any.slices_Sort_string_none Tryz.lays190 p cap w
end Go.Proofs
namespace Go.Proofs.YtiooodckiddpmaaGreatDoor
open Go.Vc Go.Sp
attribute [local irreducible] W XW Dw Gs
theorem keys_in (mb:Option Nat)(W:World):CallsIn Fence.wide 5 Tryz.prog 67 #[.map mb] W λe w'=>e=.returned (.func (.func 133) #[] #[.pointer (some ⟨W.heap.size,0,none⟩)])/\w'=W.alloc (.cells #[.map mb] 120):=
 AnyZ.keys_in Tryz.keys67 Fence.wide 5 trivial rfl mb W
theorem Xzy (m:Nat):AnyZ.SortsIn Tryz.prog Tryz.sorted66_ren Fence.wide m:=
 ⟨λblk off cap ss W O z J=>callsIn_wide.2 (Tryz.slices_Sort_string blk off cap ss W O z J),λp cap W=>callsIn_wide.2 (Tryz.slices_Sort_string_none p cap W)⟩
theorem Xpn {H:Type}(b nn:Nat)(D0:DataW H)(R:Value->Option (DataW H×List MemPlace))(w:World)(hown:w.ownsMap Tryz.prog 9 R b nn D0)(hmax:Maps.size D0<=maxLen)(hbytes:Maps.size D0*16<=140737488355328) :
  CallsIn Fence.wide 5 Tryz.prog 66 #[.func (.func 133) #[] #[.pointer (some ⟨w.heap.size,0,none⟩)]] (w.alloc (.cells #[.map (some b)] 120)) λe w'=>∃(v:Value) (ss:List (List UInt8)),e=.returned v/\ss.Perm (strKeys D0)/\
   w'.ownsRow (w.alloc (.cells #[.map (some b)] 120)).heap.size 9 1 v ss.length ((ss.mergeSort (λx y=>decide (x<=y))).map encStr)/\(v=.slice none 0 0↔ss=[])/\Go.RowKit.Below (w.alloc (.cells #[.map (some b)] 120)).heap.size (w.alloc (.cells #[.map (some b)] 120)) w':=by
 have O:=hown.lt;have J:SeqGives Fence.wide 2 Tryz.prog 133 #[.pointer (some ⟨w.heap.size,0,none⟩)] encStr (λss=>ss.Perm (strKeys D0)) (Maps.size D0) (w.alloc (.cells #[.map (some b)] 120)):=
  AnyZ.keys_gives (ρ:=Tryz.keys67_ren) { Tryz.keys67 with } Fence.wide _ trivial rfl EB w.heap.size b nn D0 _ ER ER (by
   obtain⟨es,z,Y,Z,hs,hD⟩:=hown;exact⟨es,z,(Go.RowKit.Below.heap_alloc _ _ b O).trans Y,Z,hs,hD⟩)
 exact AnyZ.sorted_in Tryz.sorted66 Fence.wide 5 trivial trivial trivial trivial rfl EB (Xzy _) (enters_of Tryz.func132 EA rfl) 133 #[.pointer (some ⟨w.heap.size,0,none⟩)] trivial (enters_of Tryz.func133 EA rfl) _ _ hmax hbytes _ J
theorem Xv0 {α:Type}{av:α->Value}{w:World}{b:Nat}{l:List (EC×α)}(h:FE Tryz.prog 9 S av w b l)(hl:∀p∈l,p.1.length<=maxLen):∃D:DataW α,w.ownsMap Tryz.prog 9 (rdBy av) b l.length D/\Maps.size D=l.length/\(l.map (·.1)).Perm (strKeys D):=by
 obtain⟨h0,D,h1,h2,h3⟩:=h;have hk:Tryz.prog.underlying 9=some .string:=by kernel_rfl
 have K:=Go.Maps.string_keyed hk;refine⟨D,h1,h2,?_⟩;obtain⟨es,hD,hb,_⟩:=h1.entries K;obtain⟨hc,Z,Y⟩:=h1.keysOf;obtain rfl:es=hc:=by rw[hD]at Z;simpa using Z
 subst hD;refine perm_strKeys hb (λp J=>by obtain⟨v,hv⟩:=Y p J;obtain⟨x,_,O,_⟩:=Maps.keyOf_str hk hv;exact⟨x,O⟩) h0 (λx=>?_)
 by_cases O:x.length<=maxLen
 ·have ha:keyOf Tryz.prog 9 (S x)=some (.string x):=WideMaps.keyOf_string_mk hk (s:=⟨⟨x⟩⟩) O
  cases e:lk l x with
  | none=>
   have:=Maps.has_false_of_atKey (D:=.map es) (k:=.string x) λz=>by rw[h3 x _ ha z,e];rfl
   rw[this];exact⟨λhm=>absurd hm (LK.1 e),λhm=>by cases hm⟩
  | some a=>
   have:=Maps.has_true_of_atKey (D:=.map es) (k:=.string x) (y:=.held a) λz=>by rw[h3 x _ ha z,e];rfl
   rw[this];exact⟨λ_=>rfl,λ_=>Aq.2 ⟨_,P0 e,rfl⟩⟩
 ·constructor
  ·intro hm;obtain⟨p,J,rfl⟩:=Aq.1 hm;exact absurd (hl p J) O
  ·intro hm;have h5:x∈strKeys (.map es:DataW α):=by
    unfold Go.Maps.has at hm;show x∈es.map λp=>strOf p.1;obtain⟨p,J,hs⟩:=List.any_eq_true.1 hm;obtain⟨y,hy⟩:∃y,p.1=.string y:=by obtain⟨v,hv⟩:=Y p J;obtain⟨y,_,hy,_⟩:=Maps.keyOf_str hk hv;exact⟨y,hy⟩
    refine Aq.2 ⟨p,J,?_⟩;rw[hy]at hs ⊢;simpa [Lit.sameKey,strOf]using hs
   exact absurd (strKeys_le h1 hk x h5) O
theorem X9m (mf:Nat)(w:World):Calls Tryz.prog 67 [.map (some mf)].toArray w (ES w (λu w'=>u=I7 133 [EE w.heap.size 0]/\w'=w.alloc (.cells #[.map (some mf)] 120))):=by
 refine(callsIn_wide.1 (keys_in (some mf) w)).mono ?_;rintro e w' ⟨rfl,rfl⟩;exact⟨_,rfl,ED.alloc _ _,rfl,rfl⟩
theorem Xv1 (mf:Nat)(l:List (EC×Option Nat))(w:World)(h:FE Tryz.prog 9 S pO w mf l)(hl:∀p∈l,p.1.length<=maxLen)(hn:l.length<=1000000) :
  Calls Tryz.prog 66 [I7 133 [EE w.heap.size 0]].toArray (w.alloc (.cells #[.map (some mf)] 120)) (ES (w.alloc (.cells #[.map (some mf)] 120)) (λu w'=>Vc.Own FU 1 9 w.heap.size w' u ((l.map (·.1)).mergeSort (λx y=>decide (x<=y))))):=by
 obtain⟨D,h1,h2,h3⟩:=Xv0 h hl;refine(callsIn_wide.1 (Xpn mf l.length D (rdBy pO) w h1 (by rw[h2];unfold maxLen;omega) (by rw[h2];omega))).mono ?_;rintro e w' ⟨v,ss,rfl,hS,hrow,_,hb⟩;refine⟨v,rfl,ED.of_below hb,⟨?_⟩⟩;have e1:ss.mergeSort (λx y=>decide (x<=y))=(l.map (·.1)).mergeSort (λx y=>decide (x<=y)):=mergeSort_of_perm (hS.trans h3.symm);rw[e1]at hrow;have e2:ss.length=((l.map (·.1)).mergeSort (λx y=>decide (x<=y))).length:=by rw[<-e1,Ed]
 have z:((l.map (·.1)).mergeSort (λx y=>decide (x<=y))).flatMap FU=((l.map (·.1)).mergeSort (λx y=>decide (x<=y))).map encStr:=by
  generalize (l.map (·.1)).mergeSort (λx y=>decide (x<=y))=q
  induction q with
  | nil=>rfl
  | cons a r ih=>rw[AB,An,ih];rfl
 rw[z,<-e2];exact ownsRow_base_a hrow ER
theorem Hj (F:Nat->Prop)(bd:Nat)(D:Dsk)(w:World)(h:FSq F bd D w) :
  Calls Tryz.prog 28 [EE bd 0].toArray w (ES w (λu w'=>Vc.Own FU 1 9 w.heap.size w' u D.names)):=by
 refine cw Tryz.func28 ?_;have z:=ED.refl w;obtain⟨mf,es,J⟩:=h;have hd:=J.m;have hM:=J.map;refine ws λ_ Z1=>wr (da (de Z1 (ws λ_ Z2=>ws λ_ Z3=>wr (dm ?_))));refine dp (Gi EA rfl rfl) (de Z3 (wi (λY=>?_) λY=>?_))
 ·exact absurd Y ER
 refine EI (Z2 _ _ (ws λ_ Z4=>wr (dm ?_)));refine dz rfl (df 1 rfl (dl rfl ((hd.ext z).at rfl) (cG (X9m mf _) RX.all λu1 w1 x1 O=>?_)));have hsz1:=z.size;have z:=z.trans x1;obtain⟨rfl,rfl⟩:=O;refine cG (Xv1 mf (es.map Fm.kv) _ hM (λp hp=>by obtain⟨e,he,rfl⟩:=Aq.1 hp;have:=(J.name he).2;unfold maxLen;simp only;omega) (by have:=J.len;rw[Ao];omega)) RX.all λu2 w2 x2 Z=>?_;have hsz2:=z.size;have z:=z.trans x2;refine da (de Z4 (EJ ?_));refine ro ?_;refine⟨_,rfl,z,?_⟩;rw[show D.names=((es.map Fm.kv).map (·.1)).mergeSort (λx y=>decide (x<=y)) by unfold Dsk.names;rw[J.fs,Bf,Bf];rfl];exact Z
theorem Xl1 {a b:EC}(h:(⟨⟨a⟩⟩:ByteArray)=⟨⟨b⟩⟩):a=b:=by simpa using h
theorem S0 (l:List EC)(s:EC)(v:Value)(w:World)(hv:EQ FU 1 w v l)(hl:l.length<=1000000):Calls Tryz.prog 130 [v,S s].toArray w (Vc.Pure w (B (decide (s∈l)))):=by
 have none:l.length=0->∀a c,v=.slice a 0 c->Calls Tryz.prog 130 [v,S s].toArray w (Vc.Pure w (B (decide (s∈l)))):=by
  intro h0 a c e;have hn:l=[]:=A4 h0;subst hn;subst e;refine(Tryz.slices_Contains_string_empty a c ⟨⟨s⟩⟩ w).mono ?_;rintro e w' ⟨rfl,rfl⟩;exact⟨by simp,ED.refl _⟩
 rcases hv.sl with⟨e,h0⟩|⟨b,o,c,e,hc⟩|⟨h0,a,c,e⟩
 ·exact none h0 _ _ e
 ·subst e;refine(Tryz.slices_Contains_string b o l.length c (l.map λx=>(⟨⟨x⟩⟩:ByteArray)) ⟨⟨s⟩⟩ w ER EB (λj z=>?_)).mono ?_
  ·rw[Ao]at z;have:=(hv.row (Ar z)) 0 _ rfl;simpa [base,List.getD,Ar z]using this
  ·rintro e w' ⟨rfl,rfl⟩;refine⟨?_,ED.refl _⟩
   congr 2
   rw[Dk,Lib.containsS_iff,Ay ER,decide_eq_true_eq,Aq];exact⟨λ⟨x,hx,e⟩=>Xl1 e▸hx,λh=>⟨s,h,rfl⟩⟩
 ·exact none h0 _ _ e
theorem RJ (D:Dsk)(s:EC):decide (s∈D.names)=D.has s:=by
 rw[Dk,decide_eq_true_eq];unfold Dsk.names Dsk.has;rw[(List.mergeSort_perm _ _).mem_iff]
 cases e:lk D.fs s with
 | none=>exact⟨λh=>absurd h (LK.1 e),λh=>by cases h⟩
 | some f=>exact⟨λ_=>rfl,λ_=>Aq.2 ⟨_,P0 e,rfl⟩⟩
theorem QE {D:Dsk}(h:D.Wf):D.names.length<=1000000:=by
 unfold Dsk.names;rw[Ed,Ao];have:=h.cnt;omega
theorem S4 {s:EC}{r:List EC}{D:Dsk}(h:D.has s=false):Dsk.rems (s :: r) D=Dsk.rems r D:=by rw[Dsk.rems.eq_def];simp [h]
theorem Xzz {s:EC}{r:List EC}{D:Dsk}(h:D.has s=true)(h2:(D.rem [s]).1≠0):Dsk.rems (s :: r) D=D.rem [s]:=by rw[Dsk.rems.eq_def];simp [h,h2]
theorem X5m {s:EC}{r:List EC}{D:Dsk}(h:D.has s=true)(h2:(D.rem [s]).1=0):Dsk.rems (s :: r) D=Dsk.rems r (D.rem [s]).2:=by rw[Dsk.rems.eq_def];simp [h,h2]
theorem I8 (F:Nat->Prop)(bd:Nat)(D:Dsk)(s:EC)(w:World)(h:FSq F bd D w) :
  Calls Tryz.prog 189 [EE bd 0,S s].toArray w (Pure w (B (D.has s))):=by
 refine cw Tryz.func189 ?_;have z:=ED.refl w;refine ws λ_ Z=>wr (da (de Z (ws λ_ J=>wr (dm ?_))));refine cG (Hj F bd D _ (h.ext z)) RX.all λu1 w1 x1 O=>?_;have hsz1:=z.size;have z:=z.trans x1;refine dm ?_;refine cP (S0 D.names s _ _ (O.arr EF) (QE h.wf)) RX.all λw2 Y=>?_;have z:=z.trans Y;refine da (de J (EJ ?_));refine ro ?_;exact⟨by rw[RJ],z⟩
theorem Hr (F:Nat->Prop)(bd:Nat)(D:Dsk)(l:List EC)(v:Value)(w:World)(h:FSq F bd D w)(hv:EQ FU 1 w v l)(hl:l.length<=100000)(hdv:l≠[]->¬ F (base v).1) :
  Calls Tryz.prog 178 [EE bd 0,v].toArray w (Ff F w (λu w'=>u=I (Dsk.rems l D).1/\FSq (Gx F w w') bd ((Dsk.rems l D).2) w')):=by
 refine cw Tryz.func178 ?_;have z:=Vc.Mod.refl F w;have Z:=h.lt;refine ws λ_ Z1=>wr (da (de Z1 (ws λ_ Z2=>ws λ_ Z3=>wr (dm ?_))));refine dv 9 1 (hv.mod z hdv).sl (dm (de Z3 (EM ?_)));refine Fq (G:=Nat×(Nat->Prop)×Dsk) (λ(k,Fc,O)=>[(0,EE bd 0),(8,v),(9,I ↑l.length),(10,I ↑k)]) (λ(k,Fc,O) w'=>Mod F w w'/\k<=l.length/\FSq Fc bd O w'/\(∀i,Fc i->F i\/w.heap.size<=i)/\Dsk.rems l D=Dsk.rems (l.drop k) O) (λ(k,Fc,O)=>l.length-k) (0,F,D) ?_ ?_ ?_
 ·exact Gc
 ·exact⟨z,Ae _,h,λ_ h=>.inl h,rfl⟩
 intro X1 g1 w1 hj;obtain⟨k,Fc,O⟩:=g1;clear z;obtain⟨z,hk1,hA,J,Y⟩:=hj;have hszk:=z.size;refine ws λ_ Z4=>wr (dp (Fb rfl rfl) (de Z4 (ws λ_ Z5=>wi (λc1=>?_) λc1=>?_)))
 ·obtain⟨s,hk⟩:∃s,l[k]?=some s:=Fw;have ha:=Jd hk;refine EI (Z5 _ _ (ws λ_ Z6=>EM (ws λ_ Z7=>wr (di 9 1 (hv.mod z hdv).sl rfl ((hv.mod z hdv).lt hk) (dl rfl (((hv.mod z hdv).row hk).at0 rfl) (da (de Z7 (ws λ_ Z8=>ws λ_ Z9=>wr (dm (dm ?_))))))))));refine cP (I8 Fc bd O s _ hA) RX.all λw2 x2=>?_;have hA:=hA.ext x2;have z:=z.ext x2;refine dn (de Z9 ?_);refine wc (λc2=>?_) λc2=>?_
  ·refine Fk (Z6 _ _ (wr (pa rfl rfl (dm (EH (?_))))));refine⟨(k+1,Fc,O),Gc,⟨z,by omega,hA,J,?_⟩,by simp only [];omega⟩;rw[Y,ha,S4 (by simpa using c2)]
  have hh:O.has s=true:=by simpa using c2
  refine EI (Z8 _ _ (ws λ_ hq=>wr ?_));have hc:=hA
  iterate 2 refine dm ?_
  refine li (e:=9) (sz:=1) (zs:=[S []]) (pv:=[(0,_)]) (cs:=[_]) RX.all (λb1 w3 e1 x3 m1=>?_);have g1:=z.ge e1;have hA:=hA.ext x3;have z:=z.ext x3;refine cD (O2 Fc bd O [s] _ _ hA (K6 m1) ER (λ_=>Oe hc (BJ e1.symm))) (.inl rfl) λu4 w4 x4 hb=>?_;have hsz4:=z.size;have z:=z.own x4 (λi hi hlt=>(J i hi).resolve_right EB);obtain⟨rfl,hA⟩:=hb;refine da (de hq (ws λ_ hp=>wr (dm ?_)));refine dp (FH rfl rfl) (de hp (wi (λc3=>?_) λc3=>?_))
  ·refine ws λ_ hg=>wr (dm (da (de hg (EJ ?_))));refine ro ?_;refine⟨_,rfl,z,?_⟩;rw[Y,ha,Xzz hh c3];exact⟨rfl,hA.to (λi hi=>hi.elim (J i) (λh9=>.inr EB)) (λk hk=>Az (Z k hk) z.size)⟩
  refine EI (Z6 _ _ (wr (pa rfl rfl (dm (EH (?_))))));refine⟨(k+1,_,(O.rem [s]).2),Gc,⟨z,by omega,hA,λi hi=>hi.elim (J i) (λh9=>.inr EB),?_⟩,by simp only [];omega⟩;rw[Y,ha,X5m hh (AK c3)]
 refine Fk (Z2 _ _ (ws λ_ hf=>wr (da (de hf (EJ ?_)))));refine ro ?_;refine⟨_,rfl,z,?_⟩;rw[Y,BZ EB];exact⟨rfl,hA.to J (λk hk=>Az (Z k hk) z.size)⟩
@[reducible] def KM (v:Value):List Value:=[v]
@[reducible] def nz (l:EC) (v:Value) (k:Nat):Prop:=l≠[]/\k=(base v).1
@[reducible] def KH (vd:Value) (vs:List (Value×EC)) (data:EC) (k:Nat):Prop:=nz data vd k\/∃q∈vs,nz q.2 q.1 k
structure LedE (G:Nat->Prop)(bl bd:Nat)(vd ve:Value)(vs:List (Value×EC))(L:Led)(w:World):Prop where
 m:EK w bl [EE bd 0,S [115],I L.base,vd,ve,B L.dead] 147
 d:EQ EO 1 w vd L.data
 e:Vc.Own KM 1 82 0 w ve (vs.map (·.1))
 es:vs.map (·.2)=L.ents
 el:∀q∈vs,EQ EO 1 w q.1 q.2
 inG:∀k,(k=bl\/ve.ownBlock=some k\/KH vd vs L.data k)->G k
 sep:∀k,KH vd vs L.data k->k≠bl/\ve.ownBlock≠some k
 lt:∀k,G k->k<w.heap.size
 b0:0<=L.base
 b1:L.base<=1099511627776
 dl:L.data.length<=524288
 pl:∀p∈L.ents,p.length<=65536
 la:L.last<=1099511627776
section
variable {G Sx:Nat->Prop}{bl bd:Nat}{vd ve:Value}{vs:List (Value×EC)}{L:Led}{w w':World}
theorem LedE.mod (h:LedE G bl bd vd ve vs L w)(m:Vc.Mod Sx w w')(hS:∀k,G k->¬ Sx k):LedE G bl bd vd ve vs L w':=
 ⟨h.m.mod m (hS _ (h.inG _ (.inl rfl))),h.d.mod m (λz=>hS _ (h.inG _ (.inr (.inr (.inl ⟨z,rfl⟩))))),h.e.mod m (λk hk=>hS _ (h.inG _ (.inr (.inl hk)))),h.es,λq J=>(h.el q J).mod m (λz=>hS _ (h.inG _ (.inr (.inr (.inr ⟨q,J,z,rfl⟩))))),
  h.inG,h.sep,λk hk=>Az (h.lt k hk) m.size,h.b0,h.b1,h.dl,h.pl,h.la⟩
theorem LedE.ext (h:LedE G bl bd vd ve vs L w)(m:ED w w'):LedE G bl bd vd ve vs L w':=h.mod m (λ_ _ h=>h)
theorem LedE.wide {G':Nat->Prop}(h:LedE G bl bd vd ve vs L w)(hG:∀k,G k->G' k)(hl:∀k,G' k->k<w.heap.size):LedE G' bl bd vd ve vs L w:=⟨h.m,h.d,h.e,h.es,h.el,λk hk=>hG k (h.inG k hk),h.sep,hl,h.b0,h.b1,h.dl,h.pl,h.la⟩
theorem LedE.len (h:LedE G bl bd vd ve vs L w):vs.length=L.ents.length:=by rw[<-h.es,Ao]
theorem LedE.lenB (h:LedE G bl bd vd ve vs L w):L.ents.length<=1099511627776:=by have h1:=h.la;have h2:=h.b0;unfold Led.last at h1;omega
theorem LedE.earr (h:LedE G bl bd vd ve vs L w):EQ KM 1 w ve (vs.map (·.1)):=h.e.arr EF
theorem LedE.head {L':Led}(h:LedE G bl bd vd ve vs L w)(m:Vc.Mod (ET bl) w w')(hm:EK w' bl [EE bd 0,S [115],I L'.base,vd,ve,B L'.dead] 147)(hb:L'.base=L.base)(hd:L'.data=L.data)(he:L'.ents=L.ents):LedE G bl bd vd ve vs L' w':=by
 have z:=h.e.ne_blk h.m rfl;refine⟨hm,by rw[hd];exact h.d.mod m (λJ e=>(h.sep _ (.inl ⟨J,rfl⟩)).1 e),h.e.mod m (λk hk e=>z (by have e2:k=bl:=e;rw[hk,e2])),h.es.trans he.symm,λq O=>(h.el q O).mod m (λJ e=>(h.sep _ (.inr ⟨q,O,J,rfl⟩)).1 e),
  by rw[hd];exact h.inG,by rw[hd];exact h.sep,λk hk=>Az (h.lt k hk) m.size,hb▸h.b0,hb▸h.b1,hd▸h.dl,he▸h.pl,by unfold Led.last;rw[hb,he];exact h.la⟩
end
def LD (H:Nat->Prop)(bl bd:Nat)(L:Led)(D:Dsk)(w:World):Prop:=∃(F G:Nat->Prop) (vd ve:Value) (vs:List (Value×EC)),FSq F bd D w/\LedE G bl bd vd ve vs L w/\(∀k,F k->¬ G k)/\(∀k,F k\/G k->H k)/\∀k,H k->k<w.heap.size
theorem LD.mod {H Sx:Nat->Prop}{bl bd:Nat}{L:Led}{D:Dsk}{w w':World}(h:LD H bl bd L D w)(m:Vc.Mod Sx w w')(hS:∀k,H k->¬ Sx k):LD H bl bd L D w':=by
 obtain⟨F,G,vd,ve,vs,h1,h2,h3,h4,z⟩:=h;exact⟨F,G,vd,ve,vs,h1.mod m (λk hk=>hS k (h4 k (.inl hk))),h2.mod m (λk hk=>hS k (h4 k (.inr hk))),h3,h4,λk hk=>Az (z k hk) m.size⟩
theorem LD.ext {H:Nat->Prop}{bl bd:Nat}{L:Led}{D:Dsk}{w w':World}(h:LD H bl bd L D w)(m:ED w w'):LD H bl bd L D w':=h.mod m (λ_ _ h=>h)
theorem LD.lt {H:Nat->Prop}{bl bd:Nat}{L:Led}{D:Dsk}{w:World}(h:LD H bl bd L D w):∀k,H k->k<w.heap.size:=by obtain⟨_,_,_,_,_,_,_,_,_,z⟩:=h;exact z
theorem LD.wide {H H':Nat->Prop}{bl bd:Nat}{L:Led}{D:Dsk}{w:World}(h:LD H bl bd L D w)(hG:∀k,H k->H' k)(hl:∀k,H' k->k<w.heap.size):LD H' bl bd L D w:=by
 obtain⟨F,G,vd,ve,vs,h1,h2,h3,h4,h5⟩:=h;exact⟨F,G,vd,ve,vs,h1,h2,h3,λk hk=>hG k (h4 k hk),hl⟩
theorem LD.grow {H:Nat->Prop}{bl bd:Nat}{L:Led}{D:Dsk}{w w':World}(h:LD H bl bd L D w)(x:ED w w'):LD (Gx H w w') bl bd L D w':=(h.ext x).wide (λ_ h=>.inl h) (HT h.lt x.size)
theorem Gq (G:Nat->Prop)(bl bd:Nat)(vd ve:Value)(vs:List (Value×EC))(L:Led)(w:World)(h:LedE G bl bd vd ve vs L w) :
  Calls Tryz.prog 177 [EE bl 0].toArray w (Pure w (S Led.img)):=by
 refine cw Tryz.func177 ?_;have z:=ED.refl w;have Y:=h.m;refine ws λ_ J=>wr (da (de J (ws λ_ O=>wr (dm ?_))));refine dz rfl (df 1 rfl (dl rfl ((Y.ext z).at rfl) (dp (II rfl rfl (by simp;done)) (da (de O (EJ ?_))))));refine ro ?_;exact⟨rfl,z⟩
theorem FB (G:Nat->Prop)(bl bd:Nat)(vd ve:Value)(vs:List (Value×EC))(L:Led)(w:World)(h:LedE G bl bd vd ve vs L w) :
  Calls Tryz.prog 84 [EE bl 0].toArray w (Pure w (S Led.logn)):=by
 refine cw Tryz.func84 ?_;have z:=ED.refl w;have Y:=h.m;refine ws λ_ J=>wr (da (de J (ws λ_ O=>wr (dm ?_))));refine dz rfl (df 1 rfl (dl rfl ((Y.ext z).at rfl) (dp (II rfl rfl (by simp;done)) (da (de O (EJ ?_))))));refine ro ?_;exact⟨rfl,z⟩
theorem GC (G:Nat->Prop)(bl bd:Nat)(vd ve:Value)(vs:List (Value×EC))(L:Led)(w:World)(h:LedE G bl bd vd ve vs L w) :
  Calls Tryz.prog 55 [EE bl 0].toArray w (Pure w (I L.last)):=by
 refine cw Tryz.func55 ?_;have z:=ED.refl w;have hl:=h.m;have hlb:=h.lenB;have hb1:=h.b1;have hb0:=h.b0;have O:=h.len;refine ws λ_ Z1=>wr (da (de Z1 (ws λ_ Z2=>ws λ_ Z3=>wr (dm ?_))));refine dp (Gi EA rfl rfl) (de Z3 (wi (λZ=>?_) λZ=>?_))
 ·exact absurd Z ER
 refine EI (Z2 _ _ (ws λ_ Z4=>F9 (R:=ED) ED.refl (λ_ _ _=>ED.trans) EA [3,7] [(0,.p,false),(1,.p,false),(2,.p,false),(3,.l,false),(4,.p,false),(5,.p,false),(6,.p,false),(7,.l,false),(8,.p,false),(9,.p,false),(10,.p,false)] rfl EA EA (λw1 J=>?_)));have x1:=EL J;clear J;have z:=z.trans x1;refine dm ?_;refine dz rfl (df 2 rfl (dL rfl (λ_ Y=>((hl.ext (z.trans Y)).at rfl)) (dm ?_)));refine dz rfl (df 4 rfl (dL rfl (λ_ Y=>((hl.ext (z.trans Y)).at rfl)) (dv 82 1 (h.earr.ext z).sl (dp (Gy rfl rfl (by unfold EU;simp;omega)) (da (de Z4 (EJ ?_)))))));refine ro ?_;exact⟨by unfold Led.last;rw[<-O];simp,z⟩
theorem X5n (G:Nat->Prop)(bl bd:Nat)(vd ve:Value)(vs:List (Value×EC))(L:Led)(w:World)(h:LedE G bl bd vd ve vs L w) :
  Calls Tryz.prog 60 [EE bl 0].toArray w (ES w (λu w'=>∃v,u=.tuple #[I L.base,v]/\Vc.Own EO 1 5 w.heap.size w' v L.data)):=by
 refine cw Tryz.func60 ?_;have z:=ED.refl w;have Z:=h.m;have hdl:=h.dl;refine ws λ_ Z1=>wr (da (da (de Z1 (ws λ_ Z2=>ws λ_ Z3=>wr (dm ?_)))));refine dp (Gi EA rfl rfl) (de Z3 (wi (λY=>?_) λY=>?_))
 ·exact absurd Y ER
 refine EI (Z2 _ _ (ws λ_ Z4=>F9 (R:=ED) ED.refl (λ_ _ _=>ED.trans) EA [3,7] [(0,.p,false),(1,.p,false),(2,.p,false),(3,.l,false),(4,.p,false),(5,.p,false),(6,.p,false),(7,.l,false),(8,.x,false),(9,.p,false),(10,.p,false)] rfl EA EA (λw1 J=>?_)));have x1:=EL J;clear J;have z:=z.trans x1;refine dm ?_;refine dz rfl (df 2 rfl (dL rfl (λ_ O=>((Z.ext (z.trans O)).at rfl)) (dm ?_)));refine dz rfl (df 3 rfl (dL rfl (λ_ O=>((Z.ext (z.trans O)).at rfl)) (cG (L7 L.data vd _ (h.d.ext z) EB) RX.ext λu2 w2 x2 hO=>?_)));have hsz2:=z.size;have z:=z.trans x2;refine da (da (de Z4 (EJ ?_)));refine rt ?_;exact⟨_,rfl,z,_,rfl,hO.mono EB⟩
theorem UW (G:Nat->Prop)(bl bd:Nat)(vd ve:Value)(vs:List (Value×EC))(L:Led)(e:Int)(w:World)(h:LedE G bl bd vd ve vs L w) :
  Calls Tryz.prog 86 [EE bl 0,I e].toArray w (Ff (ET bl) w (λu w'=>u=I e/\LedE G bl bd vd ve vs { L with dead:=L.dead || decide (e≠0) } w')):=by
 refine cw Tryz.func86 ?_;have z:=ED.refl w;have J:=h.m;refine ws λ_ Z1=>wr (da (de Z1 (ws λ_ Y=>wr (dm (dm ?_)))));refine dz rfl (df 5 rfl (dl rfl ((J.ext z).at rfl) (dm ?_)));refine I5 10 rfl (λO=>?_) (λO=>?_)
 ·refine dk (dk (EP ?_));refine dz rfl (df 5 rfl (G4 (J.ext z) (λw1 x1 xs1 J=>?_)));dsimp only [EY,Af,Ad,Ag]at J;have z:=(z.mod x1).mono (λi hi _=>(hi:(ET bl) i));refine de Y (ws λ_ Z3=>wr (dm (da (de Z3 (EJ ?_)))));refine ro ?_;refine⟨_,rfl,z,rfl,h.head z ?_ rfl rfl rfl⟩;simpa [O]using J
 refine dm ?_;refine dp (FH rfl rfl) (EP ?_);refine dz rfl (df 5 rfl (G4 (J.ext z) (λw2 Z xs2 J=>?_)));dsimp only [EY,Af,Ad,Ag]at J;have z:=(z.mod Z).mono (λi hi _=>(hi:(ET bl) i));refine de Y (ws λ_ Z4=>wr (dm (da (de Z4 (EJ ?_)))));refine ro ?_;refine⟨_,rfl,z,rfl,h.head z ?_ rfl rfl rfl⟩;simpa [O]using J
end Go.Proofs.YtiooodckiddpmaaGreatDoor
