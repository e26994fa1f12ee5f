/-
 A part of the proof: DkA DkB DkC DkD KpA Iter ShelfS DkE LgA LgB FsA LgC LgD LgE BlA.
-/
import Derived.Test.YtiooodckiddpmaaGreatDoorFkA
import Derived.Test.YtiooodckiddpmaaGreatDoorChecked
import Derived.KernelRfl
import Derived.Test.YtiooodckiddpmaaGreatDoorFkB
import Derived.Shelf.SlGeneric
import Derived.Shelf.SlIter.Nil
import Derived.Ground.GgzProg
import Derived.Test.YtiooodckiddpmaaGreatDoorProg
import Derived.Shelf.Small.Bits
import Derived.Shelf.Small.Strs
import Derived.Shelf.Small.Wraps
import Derived.Shelf.Strconv.Itoa0
import Derived.Shelf.Strconv.Itoa1
import Derived.Shelf.LaysM
import Derived.Shelf.Strconv.Itoa2
import Derived.Shelf.Strconv.Itoa3
import Derived.Shelf.Sort.Plain
import Derived.Shelf.Strings.Prefix
import Derived.Shelf.Slices.Turned
import Derived.Ground.Names2Prog
import Derived.Shelf.Slices.SearchI
import Derived.Shelf.Slices.In.SortNone
import Derived.Shelf.Bytes.SlSearch0
import Derived.Ground.SlbCloneProg
import Derived.Shelf.Bytes.SlClone
import Derived.Ground.SlbNamesProg
import Derived.Shelf.Bytes.SlJoin
import Derived.Ground.SlgnProg
import Derived.Shelf.SlicesE.Clone
import Derived.Shelf.Bytes.SlEqualAll
import Derived.Shelf.Bytes.Small
open Nat renaming le_refl->Aa,zero_le->Ad,le_trans->Ae,le_of_ble_eq_true->Ap,lt_of_lt_of_le->A0,lt_irrefl->A6,lt_of_lt_of_eq->AF,not_lt->Bi,le_of_eq->Cd
open List renaming length_append->Ab,take->Af,set->Ag,mem_singleton->Ah,drop->Ai,mem_cons->Aj,mem_of_getElem?->Ak,mem_cons_self->Al,length_map->An,map_cons->Aq,mem_map->Ar,getElem?_eq_getElem->Av,replicate->Aw,take_of_length_le->Ax,mem_append->Ay,mem_filter->Az,length->A7,map_append->AC,flatMap_cons->AD,nil_append->AE,getElem?_map->AH,take_length->AK,append_nil->AP,all_eq_true->AU,nodup_cons->AZ,flatMap_append->Bb,length_nil->Bc,map_map->Be,map_nil->Bk,filter_eq_self->Bm,take_add_one->B4,drop_of_length_le->BH,flatMap->BI,map_congr_left->BJ,filter_sublist->Cb,flatMap_nil->Ce,pairwise_map->CK,find?_cons->CL,length_singleton->D8,length_mergeSort->Ec
open Decidable renaming of_not_not->AI,byContradiction->AL
open UInt32 renaming ofNat->AQ
open List.Sublist renaming map->C4
open Option renaming isSome_map->CN
open Bool renaming eq_iff_iff->De
open List.Pairwise renaming imp_of_mem->E5
set_option maxRecDepth 100000
set_option maxHeartbeats 4000000
set_option linter.unusedVariables false
set_option linter.unusedSimpArgs false
namespace Go.Proofs.YtiooodckiddpmaaGreatDoor
open Go.Vc Go.Sp
attribute [local irreducible] W XW Dw Gm
theorem Hn : MapK Tryz.prog 120 9 123 S pO (λs=>s.length<=maxLen):=Mq E9 E9 QP
def G2 (F:Nat->Prop)(w w':World):Nat->Prop:=λk=>F k\/(w.heap.size<=k/\k<w'.heap.size)
theorem HV {F:Nat->Prop}{w w':World}(h:∀k,F k->k<w.heap.size)(hs:w.heap.size<=w'.heap.size):∀k,G2 F w w' k->k<w'.heap.size:=λk hk=>hk.elim (λh1=>A0 (h k h1) hs) (·.2)
structure Fm where
 name:EC
 b:Nat
 v:Value
 f:Fil
@[reducible] def Fm.kv (e:Fm):EC×Option Nat:=(e.name,some e.b)
@[reducible] def Fm.df (e:Fm):EC×Fil:=(e.name,e.f)
@[reducible] def Fm.foot (e:Fm):Nat->Prop:=λk=>k=e.b\/e.v.ownBlock=some k
def fe (es:List Fm)(s:EC):Option Fm:=es.find? λe=>decide (e.name=s)
theorem NE (es:List Fm)(s:EC):lk (es.map Fm.kv) s=(fe es s).map λe=>some e.b:=by
 induction es with
 | nil=>rfl
 | cons e r ih=>
  rw[Aq,Jb];unfold fe at ih ⊢;rw[CL]
  by_cases h:e.name=s
  ·simp [h]
  ·simp [h];exact ih
theorem V4 (es:List Fm)(s:EC):lk (es.map Fm.df) s=(fe es s).map (·.f):=by
 induction es with
 | nil=>rfl
 | cons e r ih=>
  rw[Aq,Jb];unfold fe at ih ⊢;rw[CL]
  by_cases h:e.name=s
  ·simp [h]
  ·simp [h];exact ih
theorem NX {es:List Fm}{s:EC}{e:Fm}(h:fe es s=some e):e∈es/\e.name=s:=⟨List.mem_of_find?_eq_some h,by simpa using List.find?_some h⟩
structure DiskE (F:Nat->Prop)(bd mf:Nat)(es:List Fm)(D:Dsk)(w:World):Prop where
 m:EL w bd [I D.room,.map (some mf),B D.fused,I D.left] 122
 map:F9 Tryz.prog 9 S pO w mf (es.map Fm.kv)
 fs:D.fs=es.map Fm.df
 el:∀e∈es,EL w e.b [e.v,I ↑e.f.lasts] 125/\Vc.Own EP 1 5 0 w e.v e.f.data
 ap:es.Pairwise (λa b=>∀k,a.foot k->¬ b.foot k)
 inF:∀k,(k=bd\/k=mf\/∃e∈es,e.foot k)->F k
 lt:∀k,F k->k<w.heap.size
 wf:D.Wf
def FV (F:Nat->Prop)(bd:Nat)(D:Dsk)(w:World):Prop:=∃mf es,DiskE F bd mf es D w
section
variable {F S:Nat->Prop}{bd mf:Nat}{es:List Fm}{D:Dsk}{w w':World}
theorem DiskE.mod (h:DiskE F bd mf es D w)(m:Vc.Mod S w w')(hS:∀k,F k->¬ S k):DiskE F bd mf es D w':=
 ⟨h.m.mod m (hS _ (h.inF _ (.inl rfl))),h.map.mod m (hS _ (h.inF _ (.inr (.inl rfl)))),h.fs,λe he=>⟨(h.el e he).1.mod m (hS _ (h.inF _ (.inr (.inr ⟨e,he,.inl rfl⟩)))),(h.el e he).2.mod m (λk hk=>hS _ (h.inF _ (.inr (.inr ⟨e,he,.inr hk⟩))))⟩,
  h.ap,h.inF,λk hk=>A0 (h.lt k hk) m.size,h.wf⟩
theorem DiskE.ext (h:DiskE F bd mf es D w)(x:EB w w'):DiskE F bd mf es D w':=h.mod x (λ_ _ h=>h)
theorem DiskE.wide {G:Nat->Prop}(h:DiskE F bd mf es D w)(hG:∀k,F k->G k)(hl:∀k,G k->k<w.heap.size):DiskE G bd mf es D w:=⟨h.m,h.map,h.fs,h.el,h.ap,λk hk=>hG k (h.inF k hk),hl,h.wf⟩
theorem DiskE.grow (h:DiskE F bd mf es D w)(x:EB w w'):DiskE (G2 F w w') bd mf es D w':=(h.ext x).wide (λ_ h=>.inl h) (HV h.lt x.size)
theorem FV.mod (h:FV F bd D w)(m:Vc.Mod S w w')(hS:∀k,F k->¬ S k):FV F bd D w':=by
 obtain⟨mf,es,h⟩:=h;exact⟨mf,es,h.mod m hS⟩
theorem FV.ext (h:FV F bd D w)(x:EB w w'):FV F bd D w':=h.mod x (λ_ _ h=>h)
theorem FV.lt (h:FV F bd D w):∀k,F k->k<w.heap.size:=by obtain⟨_,_,h⟩:=h;exact h.lt
theorem FV.wf (h:FV F bd D w):D.Wf:=by obtain⟨_,_,h⟩:=h;exact h.wf
theorem FV.wide {G:Nat->Prop}(h:FV F bd D w)(hG:∀k,F k->G k)(hl:∀k,G k->k<w.heap.size):FV G bd D w:=by obtain⟨mf,es,h⟩:=h;exact⟨mf,es,h.wide hG hl⟩
theorem FV.grow (h:FV F bd D w)(x:EB w w'):FV (G2 F w w') bd D w':=by obtain⟨mf,es,h⟩:=h;exact⟨mf,es,h.grow x⟩
theorem DiskE.look (h:DiskE F bd mf es D w)(s:EC):lk D.fs s=(fe es s).map (·.f):=by rw[h.fs];exact V4 es s
theorem DiskE.nd (h:DiskE F bd mf es D w):(es.map (·.name)).Nodup:=by
 have:=h.map.nodup;rwa [Be]at this
theorem DiskE.name (h:DiskE F bd mf es D w){e:Fm}(he:e∈es):1<=e.name.length/\e.name.length<=64:=h.wf.name (e.name,e.f) (by rw[h.fs];exact Ar.2 ⟨e,he,rfl⟩)
theorem DiskE.data (h:DiskE F bd mf es D w){e:Fm}(he:e∈es):e.f.data.length<=1073741824:=h.wf.data (p:=(e.name,e.f)) (by rw[h.fs];exact Ar.2 ⟨e,he,rfl⟩)
theorem DiskE.lasts (h:DiskE F bd mf es D w){e:Fm}(he:e∈es):e.f.lasts<=e.f.data.length:=h.wf.lasts (e.name,e.f) (by rw[h.fs];exact Ar.2 ⟨e,he,rfl⟩)
theorem DiskE.fe_in (h:DiskE F bd mf es D w){e:Fm}(he:e∈es):fe es e.name=some e:=by
 have hn:=h.nd;clear h
 induction es with
 | nil=>cases he
 | cons a r ih=>
  rw[Aq,AZ]at hn;unfold fe at ih ⊢;rw[CL];rcases Aj.1 he with rfl|he
  ·simp
  ·have:a.name≠e.name:=λe2=>hn.1 (e2▸Ar.2 ⟨e,he,rfl⟩);simp [this];exact ih he hn.2
theorem DiskE.head {D':Dsk}(h:DiskE F bd mf es D w)(m:Vc.Mod (ES bd) w w')(hm:EL w' bd [I D'.room,.map (some mf),B D'.fused,I D'.left] 122)(hf:D'.fs=D.fs)(hw:D'.Wf):DiskE F bd mf es D' w':=by
 have r:∀e∈es,e.b≠bd/\e.v.ownBlock≠some bd:=λe he=>⟨(h.el e he).1.ne h.m rfl,(h.el e he).2.ne_blk h.m rfl⟩;exact⟨hm,h.map.mod m (λe=>h.map.at.ne_blk h.m (Eq.symm e)),hf.trans h.fs,λe he=>⟨(h.el e he).1.mod m (r e he).1,(h.el e he).2.mod m (λk hk e2=>(r e he).2 (e2▸hk))⟩,h.ap,h.inF,λk hk=>A0 (h.lt k hk) m.size,hw⟩
end
theorem Ybf {D:Dsk}{l:List EC}(h1:D.fused=true)(h2:D.left=0):D.may l=9:=by unfold Dsk.may;rw[if_pos ⟨h1,h2⟩]
theorem Se {D:Dsk}{l:List EC}{s:EC}(h1:¬ (D.fused=true/\D.left=0))(hs:s∈l)(h:¬ (1<=s.length/\s.length<=64)):D.may l=1:=by
 unfold Dsk.may;rw[if_neg h1,if_neg];intro h2;exact h (by simpa using AU.1 h2 s hs)
theorem Vb {D:Dsk}{l:List EC}(h1:¬ (D.fused=true/\D.left=0))(h:∀s∈l,1<=s.length/\s.length<=64):D.may l=0:=by
 unfold Dsk.may;rw[if_neg h1,if_pos (AU.2 λs hs=>by simpa using h s hs)]
theorem Qr {es:List Fm}{s:EC} : (fe es s).isSome=true↔s∈es.map (·.name):=by
 unfold fe;rw[List.find?_isSome];simp
theorem Xvj {rem:List Fm}{n y:EC} : (y∈rem.map (·.name)/\y≠n)↔y∈(rem.filter λq=>decide (q.name≠n)).map (·.name):=by
 simp only [Ar,Az,decide_eq_true_eq]
 constructor
 ·rintro ⟨⟨e,he,rfl⟩,hn⟩;exact⟨e,⟨he,hn⟩,rfl⟩
 ·rintro ⟨e,⟨he,hn⟩,rfl⟩;exact⟨⟨e,he,rfl⟩,hn⟩
theorem Xvk {rem:List Fm}{e:Fm}(he:e∈rem)(hnd:(rem.map (·.name)).Nodup):(rem.map (·.f.data.length)).sum=e.f.data.length+((rem.filter λq=>decide (q.name≠e.name)).map (·.f.data.length)).sum/\(rem.filter λq=>decide (q.name≠e.name)).length<rem.length/\((rem.filter λq=>decide (q.name≠e.name)).map (·.name)).Nodup:=by
 refine⟨?_,?_,List.Nodup.sublist (C4 _ Cb) hnd⟩
 ·induction rem with
  | nil=>cases he
  | cons a r z=>
   rw[Aq,AZ]at hnd;rw[List.filter_cons];rcases Aj.1 he with rfl|he
   ·have:r.filter (λq=>decide (q.name≠e.name))=r:=Bm.2 λq J=>by
     have:q.name≠e.name:=λe2=>hnd.1 (e2▸Ar.2 ⟨q,J,rfl⟩);simp [this]
    rw[this];simp
   ·have:a.name≠e.name:=λe2=>hnd.1 (e2▸Ar.2 ⟨e,he,rfl⟩);have z:=z he hnd.2;simp only [this,ne_eq,not_false_eq_true,decide_true,if_true,Aq,List.sum_cons]at z ⊢;omega
 ·refine Nat.lt_of_le_of_ne (List.length_filter_le ..) λh=>?_;have:=Bm.1 (List.Sublist.eq_of_length Cb h) e he;simp at this
theorem QY (bd mf:Nat)(D:Dsk)(l:List EC)(v:Value)(w:World)(hd:EL w bd [I D.room,.map (some mf),B D.fused,I D.left] 122)(hv:EM FT 1 w v l)(hl:l.length<=1000000) :
  Calls Tryz.prog 160 [ED bd 0,v].toArray w (Pure w (I (D.may l))):=by
 refine cw Tryz.func160 ?_;have r:=EB.refl w;refine ws λ_ Z1=>wr (da (de Z1 ?_));refine Hz (G:=Unit) (λuu=>[(1,v)]) (λuu w'=>EB w w'/\¬ (D.fused=true/\D.left=0)) ?_ ?_
 ·refine EN (ws λ_ Z2=>wr (dm ?_));refine dp (Gj E9 rfl rfl) (da (de Z2 ?_));refine wi (λc1=>?_) λc1=>?_
  ·exact absurd c1 EQ
  refine ws λ_ Z3=>wr (dm ?_);refine dz rfl (df 2 rfl (dl rfl ((hd.ext r).at rfl) (dm ?_)));refine I8 15 rfl (λc2=>?_) (λc2=>?_)
  ·refine dm ?_;refine dz rfl (df 3 rfl (dl rfl ((hd.ext r).at rfl) (dp (G1 rfl rfl) (EO ?_))));refine da (de Z3 ?_);refine wi (λc3=>?_) λc3=>?_
   ·refine ws λ_ Z4=>wr (da (de Z4 (EH ?_)));refine ro ?_;exact⟨by rw[Ybf c2 c3],r⟩
   refine EG ?_;exact⟨(),Sv,r,λh=>c3 h.2⟩
  refine dk (dk (dk (dk (dk (EO ?_)))));refine da (de Z3 ?_);refine GB rfl (EG ?_);exact⟨(),Sv,r,λh=>by rw[c2]at h;cases h.1⟩
 intro X1 g1 w1 O;revert O;revert g1;intro uu O;clear r;obtain⟨r,J⟩:=O;refine ws λ_ Z5=>ws λ_ Z6=>wr (dm ?_);refine dv 9 1 hv.sl (dm (de Z6 (EN ?_)));refine Fk (G:=Nat) (λk=>[(22,v),(23,I ↑l.length),(24,I ↑k)]) (λk w'=>EB w w'/\k<=l.length/\∀s∈l.take k,1<=s.length/\s.length<=64) (λk=>l.length-k) 0 ?_ ?_ ?_
 ·exact Hj
 ·exact⟨r,Ad _,by simp⟩
 intro X2 g2 w2 z;revert z;revert g2;intro k z;clear r;obtain⟨r,hk1,hA⟩:=z;refine ws λ_ Z7=>wr (dp (Fa rfl rfl) (de Z7 (ws λ_ Z8=>wi (λc4=>?_) λc4=>?_)))
 ·obtain⟨s,hk⟩:∃s,l[k]?=some s:=Fq;refine EG (Z8 _ _ (ws λ_ Z9=>EN (ws λ_ hf=>wr (di 9 1 hv.sl rfl (hv.lt hk) (dl rfl (((hv.ext r).row hk).at0 rfl) (da (de hf (ws λ_ Z=>wr (dm ?_)))))))));refine dt rfl (dp (Fa rfl rfl) (dm ?_));refine Fz 31 rfl (λc5=>?_) (λc5=>?_)
  ·refine dk (dk (dk (EO (de Z ?_))));refine GD rfl (ws λ_ ha=>wr (da (de ha (EH ?_))));refine ro ?_;exact⟨by rw[Se J (Ak hk) EA],r⟩
  refine dm ?_;refine dt rfl (dp (FY rfl rfl) (EO (de Z ?_)));refine wi (λc6=>?_) λc6=>?_
  ·refine ws λ_ hc=>wr (da (de hc (EH ?_)));refine ro ?_;exact⟨by rw[Se J (Ak hk) EA],r⟩
  refine EG (Z9 _ _ (wr (pa rfl rfl (dm (EF (?_))))));refine⟨k+1,Hj,⟨r,by omega,λq Y=>?_⟩,by omega⟩;rw[Gs hk]at Y;rcases Ay.1 Y with Y|Y
  ·exact hA q Y
  ·rw[Ah.1 Y];omega
 refine Ff (Z5 _ _ (ws λ_ hb=>wr (da (de hb (EH ?_)))));refine ro ?_;rw[Ax EA]at hA;exact⟨by rw[Vb J hA],r⟩
theorem Pa (F:Nat->Prop)(bd mf:Nat)(es:List Fm)(D:Dsk)(w:World)(h:DiskE F bd mf es D w)(hlv:¬ (D.fused=true/\D.left=0)) :
  Calls Tryz.prog 162 [ED bd 0].toArray w (Fh (ES bd) w (λu w'=>u=I 0/\DiskE F bd mf es D.tick w')):=by
 refine cw Tryz.func162 ?_;have r:=EB.refl w;have hd:=h.m;have hl0:=h.wf.left0;have hl1:=h.wf.left1;refine ws λ_ Z1=>wr (da (de Z1 (ws λ_ J=>ws λ_ Y=>wr (dm ?_))));refine dz rfl (df 2 rfl (dl rfl ((hd.ext r).at rfl) (de Y (wc (λz=>?_) λz=>?_))))
 ·have hl2:D.left≠0:=λe=>hlv ⟨z,e⟩;refine wr (dm ?_);refine dz rfl (df 3 rfl (dl rfl ((hd.ext r).at rfl) (ps rfl rfl (dz rfl (df 3 rfl (G5 (hd.ext r) (λw1 O xs1 hd=>?_)))))));dsimp only [Fe,Ag,Af,Ai]at hd;have r:=(r.mod O).mono (λi hi _=>(hi:(ES bd) i));refine de J (ws λ_ Z4=>wr (da (de Z4 (EH ?_))));refine ro ?_;refine⟨_,rfl,r,rfl,h.head r ?_ ?_ (h.wf.tick hlv)⟩
  ·rw[show D.tick={ D with left:=D.left-1 } from if_pos z];exact hd
  ·rw[show D.tick={ D with left:=D.left-1 } from if_pos z]
 refine EG (J _ _ (ws λ_ Z=>wr (da (de Z (EH ?_)))));refine ro ?_;have e:D.tick=D:=if_neg (by rw[z];decide);rw[e];exact⟨_,rfl,(Vc.Mod.refl _ _).ext r,rfl,h.ext r⟩
theorem X85 (F:Nat->Prop)(bd mf:Nat)(es:List Fm)(D:Dsk)(w:World)(h:DiskE F bd mf es D w) :
  Calls Tryz.prog 161 [ED bd 0].toArray w (Pure w (I ↑D.used)):=by
 refine cw Tryz.func161 ?_;have J:=EB.refl w;have hd:=h.m;have hw:=h.map.at;have hub:D.used<=1073741824:=by have:=h.wf.used;have:=h.wf.room1;omega
 refine ws λ_ Z1=>wr (da (de Z1 (ws λ_ Z2=>wr (da (de Z2 (ws λ_ Z3=>ws λ_ Z4=>wr (dm ?_)))))));refine dp (Ng E9 rfl rfl) (de Z4 (wi (λc1=>?_) λc1=>?_))
 ·refine ws λ_ Z5=>wr (dm ?_);refine dz rfl (df 1 rfl (dl rfl ((hd.ext J).at rfl) (Vu Hn rfl rfl hw RX.all (λb1 w1 hg e1 x1 hcn1 z=>?_))));have g1:=J.ge e1;have J:=J.trans x1;refine de Z5 (EN ?_);refine Fk (G:=List Fm×Nat×Nat) (λ(rem,n,cnt)=>[(2,I 0),(3,I ↑n),(12,ED b1 0)]) (λ(rem,n,cnt) w'=>EB w w'/\Vc.Xbf Tryz.prog 9 S pO w' mf b1 (es.map Fm.kv).length (lk (es.map Fm.kv)) (λx=>x∈rem.map (·.name)) cnt/\n+(rem.map (·.f.data.length)).sum=D.used/\(rem.map (·.name)).Nodup/\∀e∈rem,e∈es) (λ(rem,n,cnt)=>cnt) (es,0,hg) ?_ ?_ ?_
  ·exact Hj
  ·exact⟨J,z.congr (λx=>by rw[NE,CN];exact Qr),(by rw[Mt,h.fs,IJ,Be,Nat.zero_add];rfl),h.nd,λe he=>he⟩
  intro X2 g2 w2 hh;obtain⟨rem,n,cnt⟩:=g2;clear J z;obtain⟨J,z,Y,hp,O⟩:=hh;refine ws λ_ Z6=>wr ?_;refine Wm Hn rfl rfl z (.inl rfl) (λhl=>?_) (λx a w3 ha hok h6 hc hj xs3 h5 Z hb=>?_)
  ·refine dx rfl rfl (de Z6 (ws λ_ Z7=>GB rfl (Ff (Z3 _ _ (ws λ_ Z8=>wr (dm (da (de Z8 (EH ?_)))))))));refine ro ?_;have hz:rem=[]:=by
    cases rem with
    | nil=>rfl
    | cons q r=>exact absurd (Ar.2 ⟨q,Al,rfl⟩) (hl q.name (by have:=h.name (O q Al);unfold maxLen;omega))
   subst hz;simp only [Bk,List.sum_nil,Nat.add_zero]at Y;exact⟨by rw[Y],J⟩
  have J:=J.own hj (λi hi=>by have ht:i=b1:=hi;subst ht;omega);have z:=Z;obtain⟨e,he,rfl⟩:=Ar.1 h6;have hr:=h.fe_in (O e he);rw[NE,hr]at hc
  cases hc
  have hy:=(h.el e (O e he)).1;have h8:=(h.el e (O e he)).2.arr EE;have hmem:=h.data (O e he);obtain⟨hperm,hlen,hf⟩:=Xvk he hp;refine dx rfl rfl (de Z6 (ws λ_ Z9=>GD rfl (EG (Z9 _ _ (EN (ws λ_ h7=>wr (dq (SN rfl hb) (dx rfl rfl (da (de h7 (wr ?_)))))))))))
  iterate 2 refine dm ?_
  refine dz rfl (df 0 rfl (dl rfl ((hy.ext J).at rfl) (dv 5 1 (h8.ext J).sl (pa rfl rfl (da (EF (?_)))))));refine⟨(rem.filter (λq=>decide (q.name≠e.name)),n+e.f.data.length,ha),Hj,⟨J,z.congr (λy=>?_),by omega,hf,λq hq=>O q (Az.1 hq).1⟩,h5⟩;exact Xvj
 exact absurd c1 EQ
def Hp (es:List Fm)(n:EC)(e:Fm):List Fm:=if(fe es n).isSome then es.map (λq=>if q.name=n then e else q)else es++[e]
theorem X5a {es:List Fm}{n:EC}{e:Fm}(h:e.name=n):(Hp es n e).map Fm.kv=EX (es.map Fm.kv) n (some e.b):=by
 unfold Hp EX;rw[NE,CN];split
 ·rw[Be,Be];refine BJ λq _=>?_;simp only [Function.comp];split<;>simp [h]
 ·simp [h]
theorem X5b {es:List Fm}{n:EC}{e:Fm}(h:e.name=n):(Hp es n e).map Fm.df=EX (es.map Fm.df) n e.f:=by
 unfold Hp EX;rw[V4,CN];split
 ·rw[Be,Be];refine BJ λq _=>?_;simp only [Function.comp];split<;>simp [h]
 ·simp [h]
theorem Wj {es:List Fm}{n:EC}{e q:Fm}(h:q∈Hp es n e):q=e\/(q∈es/\q.name≠n):=by
 unfold Hp at h;split at h
 ·obtain⟨a,r,rfl⟩:=Ar.1 h;split
  ·exact .inl rfl
  ·rename_i hn;exact .inr ⟨r,hn⟩
 ·rename_i hn;rcases Ay.1 h with h|h
  ·refine .inr ⟨h,λe2=>hn ?_⟩;rw[Qr];exact e2▸Ar.2 ⟨q,h,rfl⟩
  ·exact .inl (Ah.1 h)
theorem Xnj {es:List Fm}{n:EC}{e:Fm} : e∈Hp es n e:=by
 unfold Hp;split
 ·rename_i h;obtain⟨q,r⟩:=Option.isSome_iff_exists.1 h;obtain⟨h1,h2⟩:=NX r;exact Ar.2 ⟨q,h1,by simp [h2]⟩
 ·exact List.mem_append_right _ (Ah.2 rfl)
def HK (a b:Fm):Prop:=∀k,a.foot k->¬ b.foot k
theorem HK.symm {a b:Fm}(h:HK a b):HK b a:=λk h1 h2=>h k h2 h1
theorem PO {es:List Fm}(h:es.Pairwise HK){a b:Fm}(ha:a∈es)(hb:b∈es)(hn:a.name≠b.name):HK a b:=by
 induction es with
 | nil=>cases ha
 | cons q r ih=>
  rw[List.pairwise_cons]at h;rcases Aj.1 ha with e1|ha
  ·rcases Aj.1 hb with e2|hb
   ·exact absurd (by rw[e1,e2]) hn
   ·rw[e1];exact h.1 b hb
  ·rcases Aj.1 hb with e2|hb
   ·rw[e2];exact(h.1 a ha).symm
   ·exact ih h.2 ha hb
theorem X86 {es:List Fm}{n:EC}{e:Fm}(h:es.Pairwise HK)(hnd:(es.map (·.name)).Nodup)(he:∀q∈es,q.name≠n->HK e q):(Hp es n e).Pairwise HK:=by
 unfold Hp;split
 ·rw[CK];refine E5 (λ {a b} r z hab=>?_) (h.and (CK.1 hnd))
  by_cases h1:a.name=n
  ·by_cases h2:b.name=n
   ·exact absurd (h1.trans h2.symm) hab.2
   ·rw[if_pos h1,if_neg h2];exact he b z h2
  ·by_cases h2:b.name=n
   ·rw[if_neg h1,if_pos h2];exact(he a r h1).symm
   ·rw[if_neg h1,if_neg h2];exact hab.1
 ·rename_i hn;refine List.pairwise_append.2 ⟨h,List.pairwise_singleton ..,λa r b z=>?_⟩;rw[Ah.1 z];exact(he a r (λe2=>hn (by rw[Qr];exact e2▸Ar.2 ⟨a,r,rfl⟩))).symm
section
variable {F Sx:Nat->Prop}{bd mf:Nat}{es:List Fm}{D:Dsk}{w w':World}
theorem DiskE.foot_bd (h:DiskE F bd mf es D w){e:Fm}(he:e∈es):¬ e.foot bd:=λhk=>hk.elim (λe2=>(h.el e he).1.ne h.m rfl e2.symm) (λe2=>(h.el e he).2.ne_blk h.m rfl e2)
theorem DiskE.foot_mf (h:DiskE F bd mf es D w){e:Fm}(he:e∈es):¬ e.foot mf:=λhk=>hk.elim (λe2=>h.map.at.ne_blk (h.el e he).1 e2.symm) (λe2=>h.map.at.ne_own (h.el e he).2 e2)
theorem DiskE.bd_mf (h:DiskE F bd mf es D w):bd≠mf:=h.map.at.ne_blk h.m
theorem DiskE.foot_F (h:DiskE F bd mf es D w){e:Fm}(he:e∈es){k:Nat}(hk:e.foot k):F k:=h.inF k (.inr (.inr ⟨e,he,hk⟩))
theorem DiskE.put {n:EC}{e:Fm}(h:DiskE F bd mf es D w)(hen:e.name=n)(m:Vc.Mod Sx w w')(hS:∀k,Sx k->k<w.heap.size->k=mf\/∃q∈es,q.name=n/\q.foot k)
  (hm:F9 Tryz.prog 9 S pO w' mf (EX (es.map Fm.kv) n (some e.b))) (hb:EL w' e.b [e.v,I ↑e.f.lasts] 125) (ho:Vc.Own EP 1 5 0 w' e.v e.f.data)
  (hd:∀k,e.foot k->w.heap.size<=k\/(F k/\∀q∈es,q.name≠n->¬ q.foot k)) (hw:Dsk.Wf { D with fs:=EX D.fs n e.f }):DiskE (G2 F w w') bd mf (Hp es n e) { D with fs:=EX D.fs n e.f } w':=by
 have O:∀q∈es,q.name≠n->∀k,q.foot k->¬ Sx k:=λq r z k hk hs=>by
  rcases hS k hs (h.lt k (h.foot_F r hk))with rfl|⟨q2,hq2,hn2,J⟩
  ·exact h.foot_mf r hk
  ·exact PO h.ap r hq2 (λe2=>z (e2.trans hn2)) k hk J
 refine⟨h.m.mod m (λhs=>?_),by rw[X5a hen];exact hm,by simp only;rw[X5b hen,h.fs],λq r=>?_,X86 h.ap h.nd λq r z k hk J=>?_,λk hk=>?_,HV h.lt m.size,hw⟩
 ·rcases hS bd hs h.m.lt with e2|⟨q,r,_,hk⟩
  ·exact h.bd_mf e2
  ·exact h.foot_bd r hk
 ·rcases Wj r with rfl|⟨r,z⟩
  ·exact⟨hb,ho⟩
  ·exact⟨(h.el q r).1.mod m (O q r z _ (.inl rfl)),(h.el q r).2.mod m (λk hk=>O q r z k (.inr hk))⟩
 ·rcases hd k hk with h1|⟨_,h1⟩
  ·have:=h.lt k (h.foot_F r J);omega
  ·exact h1 q r z J
 ·rcases hk with rfl|rfl|⟨q,r,hk⟩
  ·exact .inl (h.inF _ (.inl rfl))
  ·exact .inl (h.inF _ (.inr (.inl rfl)))
  ·rcases Wj r with rfl|⟨r,_⟩
   ·rcases hd k hk with h1|⟨h1,_⟩
    ·refine .inr ⟨h1,?_⟩;rcases hk with rfl|hk
     ·exact hb.lt
     ·exact(ho.lt k hk).2
    ·exact .inl h1
   ·exact .inl (h.foot_F r hk)
theorem DiskE.take {n:EC}(h:DiskE F bd mf es D w)(m:Vc.Mod (ES mf) w w')(hm:F9 Tryz.prog 9 S pO w' mf (FO (es.map Fm.kv) n)):DiskE F bd mf (es.filter λe=>decide (e.name≠n)) (D.gone n) w':=by
 have r:∀ {β:Type} (g:Fm->EC×β),(∀e,(g e).1=e.name)->FO (es.map g) n=(es.filter λe=>decide (e.name≠n)).map g:=by
  intro β g z;unfold FO;rw[List.filter_map]
  congr 1
  refine List.filter_congr λe _=>?_;simp [z]
 refine⟨h.m.mod m (λe=>h.bd_mf e),by rw[<-r Fm.kv (λ_=>rfl)];exact hm,by show FO D.fs n=_;rw[h.fs,r Fm.df (λ_=>rfl)],λe he=>?_,h.ap.sublist Cb,λk hk=>?_,λk hk=>A0 (h.lt k hk) m.size,h.wf.gone n⟩
 ·have he:=(Az.1 he).1;exact⟨(h.el e he).1.mod m (λe2=>h.foot_mf he (.inl (Eq.symm e2))),(h.el e he).2.mod m (λk hk e2=>by have J:k=mf:=e2;exact h.foot_mf he (.inr (J▸hk)))⟩
 ·refine h.inF k (hk.imp id (Or.imp id λ⟨e,he,hk⟩=>⟨e,(Az.1 he).1,hk⟩))
theorem Xvl {κ α:Type}[DecidableEq κ]{l:List (κ×α)}{n:κ}{a:α}(hn:(l.map (·.1)).Nodup)(h:lk l n=some a):EX l n a=l:=by
 unfold EX;rw[h,if_pos (by rfl)]
 conv=>rhs;rw[<-List.map_id l]
 refine BJ λp r=>?_;split
 ·rename_i e;have h2:=X81 hn (x:=p.1) (a:=p.2) r;rw[e,h]at h2
  cases h2
  exact Prod.ext e.symm rfl
 ·rfl
theorem DiskE.self (h:DiskE F bd mf es D w){e:Fm}(he:e∈es):EX (es.map Fm.kv) e.name (some e.b)=es.map Fm.kv:=Xvl h.map.nodup (by rw[NE,h.fe_in he];rfl)
theorem DiskE.file {e:Fm}{v:Value}{f:Fil}(h:DiskE F bd mf es D w)(he:e∈es)(m:Vc.Mod Sx w w')(hS:∀k,Sx k->k<w.heap.size->e.foot k)(hb:EL w' e.b [v,I ↑f.lasts] 125)(ho:Vc.Own EP 1 5 0 w' v f.data)
  (hv:v.ownBlock=e.v.ownBlock\/∀k,v.ownBlock=some k->w.heap.size<=k) (hw:Dsk.Wf { D with fs:=EX D.fs e.name f }):DiskE (G2 F w w') bd mf (Hp es e.name ⟨e.name,e.b,v,f⟩) { D with fs:=EX D.fs e.name f } w':=by
 refine h.put (e:=⟨e.name,e.b,v,f⟩) rfl m (λk hk z=>.inr ⟨e,he,rfl,hS k hk z⟩) ?_ hb ho (λk hk=>?_) hw
 ·rw[h.self he]
  by_cases hs:mf<w.heap.size
  ·exact h.map.mod m (λhk=>h.foot_mf he (hS mf hk hs))
  ·exact absurd h.map.lt hs
 ·have old:e.foot k->w.heap.size<=k\/(F k/\∀q∈es,q.name≠e.name->¬ q.foot k):=λhk=>.inr ⟨h.foot_F he hk,λq O J r=>PO h.ap O he J k r hk⟩;rcases hk with rfl|hk
  ·exact old (.inl rfl)
  ·rcases hv with e2|e2
   ·exact old (.inr (e2▸hk))
   ·exact .inl (e2 k hk)
end
def Lk : Option Fm->Option Addr
 | none=>none
 | some e=>some ⟨e.b,0,none⟩
theorem Nv {o:Option Fm} : Lk o=none↔o=none:=by cases o<;>simp [Lk]
theorem PE {o:Option Fm}(h:¬ Lk o=none):∃e,o=some e:=by
 cases o with
 | none=>exact absurd rfl h
 | some e=>exact⟨e,rfl⟩
section
variable {E:Fg}{dd:Option Tmp}{ty:TypeId}{pos:String}{af:Array Edge}{g:Option (Nat×Bool)}{x y:Operand}{w:World}{mf n:Nat}{es:List Fm}{s:EC}
theorem NV {m:Operand}(hm:ev E m=.map (some mf))(hx:ev E x=S s)(h:Vc.Xbn Tryz.prog 9 S pO w mf n (lk (es.map Fm.kv)))(hok:s.length<=maxLen) :
  LV Tryz.prog ⟨dd,.lookup 120 m x false,ty,pos,af,g⟩ E w (.pointer (Lk (fe es s))):=by
 have:=Ly (P:=Tryz.prog) (dd:=dd) (ty:=ty) (pos:=pos) (af:=af) (g:=g) Hn (kx:=s) (z0:=none) hm hx E9 h hok;rw[NE]at this
 cases e:fe es s<;>(rw[e]at this;exact this)
end
def Kn (bd:Nat)(l:List Nat)(w:World):Prop:=∀b∈l,EL w b [ED bd 0] 26
theorem Kn.mod {bd:Nat}{l:List Nat}{S:Nat->Prop}{w w':World}(h:Kn bd l w)(m:Vc.Mod S w w')(hS:∀b∈l,¬ S b):Kn bd l w':=λb r=>(h b r).mod m (hS b r)
theorem Kn.ext {bd:Nat}{l:List Nat}{w w':World}(h:Kn bd l w)(m:EB w w'):Kn bd l w':=h.mod m (λ_ _ h=>h)
theorem Dsk.each_nil (a:EC->Dsk->Dsk)(D:Dsk):Dsk.each a [] D=(0,D):=rfl
theorem Dsk.each_may {a:EC->Dsk->Dsk}{s:EC}{r:List EC}{D:Dsk}(h:D.may [s]≠0):Dsk.each a (s :: r) D=(D.may [s],D):=by unfold Dsk.each;rw[if_pos h]
theorem Dsk.each_none {a:EC->Dsk->Dsk}{s:EC}{r:List EC}{D:Dsk}(h:D.may [s]=0)(h2:lk D.fs s=none):Dsk.each a (s :: r) D=(7,D):=by unfold Dsk.each;rw[if_neg (λe=>e h),if_pos (by rw[h2];rfl)]
theorem Dsk.each_some {a:EC->Dsk->Dsk}{s:EC}{r:List EC}{D:Dsk}{f:Fil}(h:D.may [s]=0)(h2:lk D.fs s=some f):Dsk.each a (s :: r) D=Dsk.each a r (Dsk.tick (a s D)):=by rw[Dsk.each.eq_def];simp only [];rw[if_neg (λe=>e h),if_neg (by rw[h2];simp)]
theorem DiskE.old {F:Nat->Prop}{bd mf:Nat}{es:List Fm}{D:Dsk}{w:World}(h:DiskE F bd mf es D w){e:Fm}(he:e∈es):D.old e.name=e.f:=by unfold Dsk.old;rw[h.look,h.fe_in he];rfl
theorem Lx {s:EC}{w:World}{b:Nat}(h:EL w b [S s] 9):EM FT 1 w (.slice (some ⟨b,0,none⟩) 1 1) [s]:=h.arr (enc:=FT) (sz:=1) (l:=[s]) rfl EE rfl EQ
theorem X5d (F:Nat->Prop)(bd mf:Nat)(es:List Fm)(D:Dsk)(e:Fm)(w:World)(h:DiskE F bd mf es D w)(he:e∈es) :
  Calls Tryz.prog 163 [S e.name,ED e.b 0].toArray w (Fh F w (λu w'=>FV (G2 F w w') bd (Dsk.lastsA e.name D) w')):=by
 refine cw Tryz.func163 ?_;have J:=EB.refl w;have O:=(h.el e he).1;have z:=(h.el e he).2;have ho:=z.arr EE;have Y:=z.ne_blk O rfl;have r:=h.old he;refine wr (dm (dm ?_));refine dz rfl (df 0 rfl (dl rfl ((O.ext J).at rfl) (dv 5 1 (ho.ext J).sl (dz rfl (df 1 rfl (G5 (O.ext J) (λw1 Z xs1 O=>?_) (hv:=by rfl)))))));dsimp only [Fe,Ag,Af,Ai]at O;have J:=(J.mod Z).mono (λi hi _=>(h.foot_F he (.inl hi):F i));refine EF ((HI (Hi rfl (⟨_,rfl,J,?_⟩))));have:=h.file (v:=e.v) (f:=⟨e.f.data,e.f.data.length⟩) he Z (λk hk _=>.inl hk) O (z.mod Z (λk hk e2=>Y (by have e3:k=e.b:=e2;rw[hk,e3]))) (.inl rfl) (h.wf.set (h.name he) (Aa _) (by rw[r];have:=h.wf.used;simp only;omega) (.inl (by rw[h.look,h.fe_in he];rfl)));unfold Dsk.lastsA;rw[r];exact⟨_,_,this⟩
theorem X87 (F:Nat->Prop)(bd mf:Nat)(es:List Fm)(D:Dsk)(e:Fm)(bx:Nat)(w:World)(h:DiskE F bd mf es D w)(he:e∈es)(hbx:EL w bx [ED bd 0] 26) :
  Calls Tryz.prog 110 [S e.name,ED e.b 0,ED bx 0].toArray w (Fh F w (λu w'=>FV (G2 F w w') bd (Dsk.gone e.name D) w')):=by
 refine cw Tryz.func110 ?_;have r:=EB.refl w;have hd:=h.m;refine wr (dl rfl ((hbx.ext r).at rfl) (dz rfl (df 1 rfl (dl rfl ((hd.ext r).at rfl) (dm ?_)))));refine QL (l:=es.map Fm.kv) Hn rfl rfl rfl (h.map.ext r) (by have:=(h.name he).2;unfold maxLen;omega) (.inl rfl) (λw9 J xs9 O=>?_);have z:=h.ext r;have r:=(r.mod J).mono (λi hi _=>(h.inF i (.inr (.inl hi)):F i));refine EF ((HI (Hi rfl ?_)));exact⟨_,rfl,r,mf,_,(z.take J O).wide (λ_ h=>.inl h) (HV h.lt r.size)⟩
theorem W7 (F:Nat->Prop)(bd:Nat)(D:Dsk)(l:List EC)(v:Value)(a:EC->Dsk->Dsk)(gf:Nat)(cs:List Value)(bxs:List Nat)(w:World)(h:FV F bd D w)(hv:EM FT 1 w v l)(hl:l.length<=100000)(hdv:l≠[]->¬ F (base v).1)(hcb:GL Tryz.prog gf=true)(ha:∀n D,(a n D).fused=D.fused/\(a n D).left=D.left)(hX0:Kn bd bxs w)(hxF:∀b∈bxs,¬ F b)(hg:∀(F:Nat->Prop) (mf:Nat) (es:List Fm) (D:Dsk) (w:World) (e:Fm),DiskE F bd mf es D w->e∈es->Kn bd bxs w->Calls Tryz.prog gf ([S e.name,ED e.b 0]++cs).toArray w (Fh F w (λ_ w'=>FV (G2 F w w') bd (a e.name D) w'))) :
  Calls Tryz.prog 109 [ED bd 0,v,I1 gf cs].toArray w (Fh F w (λu w'=>u=I (Dsk.each a l D).1/\FV (G2 F w w') bd ((Dsk.each a l D).2) w')):=by
 refine cw Tryz.func109 ?_;have z:=Vc.Mod.refl F w;have hq:∀b∈bxs,¬ (F b\/w.heap.size<=b):=λb hb h=>h.elim (hxF b hb) (λh2=>by have:=(hX0 b hb).lt;omega);refine ws λ_ Z1=>wr (da (de Z1 (ws λ_ Z2=>ws λ_ Z3=>wr (dm ?_))));refine dp (Gj E9 rfl rfl) (de Z3 (wi (λc1=>?_) λc1=>?_))
 ·exact absurd c1 EQ
 refine EG (Z2 _ _ (ws λ_ Z4=>ws λ_ Z5=>wr (dm ?_)));refine dv 9 1 (hv.mod z hdv).sl (dm (de Z5 (EN ?_)));refine Fk (G:=Nat×(Nat->Prop)×Dsk) (λ(k,Fc,O)=>[(0,ED bd 0),(2,I1 gf cs),(13,v),(14,I ↑l.length),(15,I ↑k)]) (λ(k,Fc,O) w'=>Mod F w w'/\k<=l.length/\FV Fc bd O w'/\Kn bd bxs w'/\(∀i,F i->Fc i)/\(∀i,Fc i->F i\/w.heap.size<=i)/\Dsk.each a l D=Dsk.each a (l.drop k) O) (λ(k,Fc,O)=>l.length-k) (0,F,D) ?_ ?_ ?_
 ·exact FA
 ·exact⟨z,Ad _,h,hX0,λ_ h=>h,λ_ h=>.inl h,rfl⟩
 intro X1 g1 w1 xh;obtain⟨k,Fc,O⟩:=g1;clear z;obtain⟨z,hk1,⟨mf,es,J⟩,Y,hp,r,hc⟩:=xh;have hd:=J.m;refine ws λ_ Z6=>wr (dp (Fa rfl rfl) (de Z6 (ws λ_ Z7=>wi (λc2=>?_) λc2=>?_)))
 ·obtain⟨s,hk⟩:∃s,l[k]?=some s:=Fq;have hh:=HY hk;refine EG (Z7 _ _ (ws λ_ Z8=>EN (ws λ_ Z9=>wr (di 9 1 (hv.mod z hdv).sl rfl ((hv.mod z hdv).lt hk) (dl rfl (((hv.mod z hdv).row hk).at0 rfl) (da (de Z9 (ws λ_ xa=>ws λ_ xb=>wr (dm (dm ?_))))))))));refine li (e:=9) (sz:=1) (zs:=[S []]) (pv:=[(0,_)]) (cs:=[_]) RX.all (λb1 w2 e1 x2 m1=>?_);have g1:=z.ge e1;have J:=J.ext x2;have hd:=hd.ext x2;have Y:=Y.ext x2;have z:=z.ext x2;refine cP (QY bd mf O [s] _ _ hd (Lx m1) EQ) RX.all λw3 x3=>?_;have J:=J.ext x3;have hd:=hd.ext x3;have Y:=Y.ext x3;have z:=z.ext x3;refine da (de xb (ws λ_ hw=>wr (dm ?_)));refine dp (F8 rfl rfl) (de hw (wi (λc3=>?_) λc3=>?_))
  ·refine ws λ_ h6=>wr (dm (da (de h6 (EH ?_))));refine ro ?_;refine⟨_,rfl,z,?_⟩;rw[hc,hh,Dsk.each_may c3];exact⟨rfl,mf,es,J.wide (λi hi=>(r i hi).imp id (λh4=>⟨h4,J.lt i hi⟩)) (HV h.lt z.size)⟩
  have Z:O.may [s]=0:=AI c3;have h5:s.length<=maxLen:=by
   have:=(Dsk.may_names Z s EQ).2;unfold maxLen;omega
  have h7:=J.map.at;refine EG (xa _ _ (ws λ_ hy=>wr (dm ?_)));refine dz rfl (df 1 rfl (dl rfl (hd.at rfl) (dm ?_)));refine dq (NV rfl rfl h7 h5) (da (de hy (ws λ_ xf=>ws λ_ h8=>wr (dm ?_))));refine dp (Gj E9 rfl rfl) (de h8 (wi (λc4=>?_) λc4=>?_))
  ·have hf:lk O.fs s=none:=by rw[J.look,Nv.1 c4];rfl
   refine ws λ_ hr=>wr (da (de hr (EH ?_)));refine ro ?_;refine⟨_,rfl,z,?_⟩;rw[hc,hh,Dsk.each_none Z hf];exact⟨rfl,mf,es,J.wide (λi hi=>(r i hi).imp id (λh4=>⟨h4,J.lt i hi⟩)) (HV h.lt z.size)⟩
  obtain⟨e,he⟩:=PE c4;rw[he];have hf:lk O.fs s=some e.f:=by rw[J.look,he];rfl
  refine EG (xf _ _ (ws λ_ xc=>wr (dm (dm (dm ?_)))));have hj:¬ ((a s O).fused=true/\(a s O).left=0):=by rw[(ha s O).1,(ha s O).2];exact Dsk.may_live Z
  obtain⟨h9,xd⟩:=NX he;subst xd;refine Xzm (vs:=[S e.name,ED e.b 0]) rfl rfl hcb (hg Fc mf es O _ e J h9 Y) rfl (.inl rfl) (λu4 w4 x4 xe=>?_);have hlt9:=J.lt;have hszw:=z.size;have Y:=Y.mod x4 (λb hb hk=>hq b hb (r b hk));have z:=z.own x4 (λi hi xg=>(r i hi).resolve_right EA);have hsz9:=x4.size;obtain⟨mf,es,J⟩:=xe;have hd:=J.m;have hM9:=J;refine de xc (wr (dm ?_));refine cD (Pa _ bd mf es (a e.name O) _ J hj) (.inl rfl) λu5 w5 x5 ht=>?_;have hsz5:=z.size;have Y:=Y.mod x5 (λb hb hk=>hq b hb (by have e2:b=bd:=hk;have h3:=J.inF bd (.inl rfl);rw[e2];exact h3.elim (λh4=>r bd h4) (λh4=>.inr EA)));have z:=z.own x5 (λi hi xg=>(by have e2:i=bd:=hi;have h3:=J.inF bd (.inl rfl);rw[e2];exact h3.elim (λh4=>(r bd h4).resolve_right EA) (λh4=>by omega)));obtain⟨rfl,J⟩:=ht;refine de Z8 (wr (pa rfl rfl (dm (EF (?_)))));refine⟨(k+1,_,Dsk.tick (a e.name O)),FA,⟨z,by omega,⟨mf,es,J⟩,Y,λi hi=>.inl (hp i hi),λi hi=>hi.elim (r i) (λh4=>.inr EA),?_⟩,by simp only [];omega⟩;rw[hc,hh,Dsk.each_some Z hf]
 refine Ff (Z4 _ _ (ws λ_ hz=>wr (da (de hz (EH ?_)))));refine ro ?_;refine⟨_,rfl,z,?_⟩;rw[hc,BH EA,Dsk.each_nil];exact⟨rfl,mf,es,J.wide (λi hi=>(r i hi).imp id (λh4=>⟨h4,J.lt i hi⟩)) (HV h.lt z.size)⟩
theorem FV.to {F G:Nat->Prop}{bd:Nat}{D:Dsk}{w w':World}(h:FV G bd D w')(hG:∀k,G k->F k\/w.heap.size<=k)(hF:∀k,F k->k<w'.heap.size):FV (G2 F w w') bd D w':=
 h.wide (λk hk=>(hG k hk).imp id λh1=>⟨h1,h.lt k hk⟩) (λk hk=>hk.elim (hF k) (·.2))
theorem Kn.nil {bd:Nat}{w:World} : Kn bd [] w:=λb h=>by cases h
theorem LN {F:Nat->Prop}{w w1 w2:World}(h:w.heap.size<=w1.heap.size):∀k,G2 F w1 w2 k->F k\/w.heap.size<=k:=λk hk=>hk.imp id λh1=>Ae h h1.1
section
variable {F:Nat->Prop}{bd mf:Nat}{es:List Fm}{D:Dsk}{w:World}
theorem DiskE.len (h:DiskE F bd mf es D w):es.length<=4096:=by
 have:=h.wf.cnt;rwa [h.fs,An]at this
theorem DiskE.ren {b:EC}{e:Fm}{w1:World}(h:DiskE F bd mf es D w)(he:e∈es)(hb:1<=b.length/\b.length<=64)(h1:DiskE F bd mf (es.filter λq=>decide (q.name≠e.name)) (D.gone e.name) w1)(hs1:w1.heap.size=w.heap.size)(x:Vc.Mod (ES mf) w w1){w2:World}(m:Vc.Mod (ES mf) w1 w2)
  (hm:F9 Tryz.prog 9 S pO w2 mf (EX ((es.filter λq=>decide (q.name≠e.name)).map Fm.kv) b (some e.b))):DiskE (G2 F w1 w2) bd mf (Hp (es.filter λq=>decide (q.name≠e.name)) b ⟨b,e.b,e.v,e.f⟩) { D with fs:=EX (FO D.fs e.name) b e.f } w2:=by
 have z:¬ mf=e.b:=λe2=>h.foot_mf he (.inl e2);have r:∀k,e.v.ownBlock=some k->¬ k=mf:=λk hk e2=>h.foot_mf he (.inr (e2▸hk));refine h1.put (n:=b) (e:=⟨b,e.b,e.v,e.f⟩) rfl m (λk hk _=>.inl hk) hm (((h.el e he).1.mod x (λe2=>z e2.symm)).mod m (λe2=>z e2.symm)) (((h.el e he).2.mod x (λk hk e2=>r k hk e2)).mod m (λk hk e2=>r k hk e2)) (λk hk=>.inr ⟨h.foot_F he hk,λq Z hqn Y=>?_⟩) ?_
 ·have J:=Az.1 Z;exact PO h.ap J.1 he (by simpa using J.2) k Y hk
 ·have hw:=h.wf.gone e.name;have O:(J4 D.fs e.name)=e.f:=h.old he;have hu:=Xnh h.wf.nd e.name;rw[O]at hu;refine hw.set (n:=b) (f:=e.f) hb (h.lasts he) ?_ ?_
  ·have h2:=h.wf.used;rw[Mt]at h2;rw[Mt];have e3:IJ (D.gone e.name).fs=IJ (FO D.fs e.name):=rfl;rw[e3];show(_:Int)<=D.room+_;omega
  ·refine .inr ?_;have h3:=TX (x:=e.name) h.wf.nd;rw[h.look,h.fe_in he]at h3;have:=h.wf.cnt;simp at h3;show(FO D.fs e.name).length<4096;omega
end
theorem Xvm {D:Dsk}{a b:EC}(h:D.may [a,b]≠0):D.ren a b=(D.may [a,b],D):=by unfold Dsk.ren;rw[if_pos h]
theorem Xs9 {D:Dsk}{a b:EC}(h:D.may [a,b]=0)(h2:lk D.fs a=none):D.ren a b=(7,D):=by unfold Dsk.ren;rw[if_neg (λe=>e h),h2]
theorem Xta {D:Dsk}{a b:EC}{f:Fil}(h:D.may [a,b]=0)(h2:lk D.fs a=some f):D.ren a b=(0,Dsk.tick { D with fs:=EX (FO D.fs a) b f }):=by unfold Dsk.ren;rw[if_neg (λe=>e h),h2]
theorem X5e {s t:EC}{w:World}{b:Nat}(h:EL w b [S s,S t] 9):EM FT 1 w (.slice (some ⟨b,0,none⟩) 2 2) [s,t]:=h.arr (enc:=FT) (sz:=1) (l:=[s,t]) rfl EE rfl EQ
theorem Xr (F:Nat->Prop)(bd:Nat)(D:Dsk)(l:List EC)(v:Value)(w:World)(h:FV F bd D w)(hv:EM FT 1 w v l)(hl:l.length<=100000)(hdv:l≠[]->¬ F (base v).1) :
  Calls Tryz.prog 85 [ED bd 0,v].toArray w (Fh F w (λu w'=>u=I (D.sync l).1/\FV (G2 F w w') bd ((D.sync l).2) w')):=by
 refine cw Tryz.func85 ?_;have r:=EB.refl w;refine ws λ_ Z1=>wr (da (de Z1 (ws λ_ Z=>wr (dm (dm ?_)))));refine cD (W7 F bd D l v Dsk.lastsA 163 [] [] _ (h.ext r) (hv.ext r) hl hdv E9 (λn D=>⟨rfl,rfl⟩) Kn.nil (λb h=>by cases h) (λF mf es D w e Y he _=>X5d F bd mf es D e w Y he)) (.inl rfl) λu1 w1 J z=>?_;have hsz1:=r.size;have r:=(r.mod J).mono (λi hi _=>(hi:F i));obtain⟨rfl,O⟩:=z;refine da (de Z (EH ?_));refine ro ?_;exact⟨_,rfl,r,rfl,O⟩
theorem P5 (F:Nat->Prop)(bd:Nat)(D:Dsk)(l:List EC)(v:Value)(w:World)(h:FV F bd D w)(hv:EM FT 1 w v l)(hl:l.length<=100000)(hdv:l≠[]->¬ F (base v).1) :
  Calls Tryz.prog 54 [ED bd 0,v].toArray w (Fh F w (λu w'=>u=I (D.rem l).1/\FV (G2 F w w') bd ((D.rem l).2) w')):=by
 refine cw Tryz.func54 ?_;have r:=EB.refl w;refine ws λ_ Z1=>wr (Gc rfl rfl rfl RX.all (λb1 w1 e1 x1 Y=>?_));have g1:=r.ge e1;have r:=r.trans x1;refine da (de Z1 (ws λ_ Z2=>wr ?_));refine dl rfl (Y.at rfl) (dm ?_);refine dp (NR rfl) (cD (W7 F bd D l v Dsk.gone 110 [ED b1 0] [b1] _ (h.ext r) (hv.ext r) hl hdv E9 (λn D=>⟨rfl,rfl⟩) (λb O=>by rw[Ah.1 O];exact Y) (λb O=>by rw[Ah.1 O];intro hF;have:=h.lt _ hF;omega) (λF mf es D w e hE he Z=>X87 F bd mf es D e b1 w hE he (Z b1 EQ))) (.inl rfl) λu2 w2 x2 J=>?_);have z:=r.size;have r:=(r.mod x2).mono (λi hi _=>(hi:F i));obtain⟨rfl,hD⟩:=J;refine da (de Z2 (EH ?_));refine ro ?_;exact⟨_,rfl,r,rfl,hD.to (LN z) (λk hk=>A0 (h.lt k hk) r.size)⟩
theorem Ih (F:Nat->Prop)(bd:Nat)(D:Dsk)(s:EC)(w:World)(h:FV F bd D w)(hok:s.length<=maxLen) :
  Calls Tryz.prog 190 [ED bd 0,S s].toArray w (ER w (λu w'=>∃v,u=.tuple #[v,I (D.readE s)]/\Vc.Own EP 1 5 w.heap.size w' v (D.readB s))):=by
 refine cw Tryz.func190 ?_;have r:=EB.refl w;obtain⟨mf,es,J⟩:=h;have hd:=J.m;have Z:=J.map.at;refine ws λ_ Z1=>wr (da (da (de Z1 (ws λ_ Z2=>ws λ_ Z3=>wr (dm ?_)))));refine dp (Gj E9 rfl rfl) (dm ?_);refine Fz 8 rfl (λc1=>?_) (λc1=>?_)
 ·exact absurd c1 EQ
 refine dm ?_;refine dz rfl (df 1 rfl (dl rfl ((hd.ext r).at rfl) (dm ?_)));refine dq (NV rfl rfl (Z.ext r) hok) (dp (Gj E9 rfl rfl) (EO (de Z3 ?_)));refine wi (λc2=>?_) λc2=>?_
 ·refine ws λ_ Z4=>wr (da (da (de Z4 (EH ?_))));refine rt ?_;have O:lk D.fs s=none:=by rw[J.look,Nv.1 c2];rfl
  rw[show D.readE s=7 by unfold Dsk.readE Dsk.has;rw[O];rfl,show D.readB s=[] by unfold Dsk.readB Dsk.read;rw[O];rfl];exact⟨_,rfl,r,_,rfl,Vc.Own.nil⟩
 obtain⟨e,he⟩:=PE c2;have O:D.read s=some e.f.data:=by unfold Dsk.read;rw[J.look,he];rfl
 have Y:=(NX he).1;have ha:=(J.el e Y).1;have hb:=(J.el e Y).2.arr EE;have hdl:=J.data Y;refine EG (Z2 _ _ (ws λ_ Z5=>wr (dm ?_)));refine dz rfl (df 1 rfl (dl rfl ((hd.ext r).at rfl) (dm ?_)));refine dq (NV rfl rfl (Z.ext r) hok) ?_;rw[he];refine dz rfl (df 0 rfl (dl rfl ((ha.ext r).at rfl) (cG (Lp e.f.data e.v _ (hb.ext r) EA) RX.all λu1 w1 x1 hO=>?_)));have hsz1:=r.size;have r:=r.trans x1;refine da (da (de Z5 (EH ?_)));refine rt ?_;have z:lk D.fs s=some e.f:=by rw[J.look,he];rfl
 rw[show D.readE s=0 by unfold Dsk.readE Dsk.has;rw[z];rfl,show D.readB s=e.f.data by unfold Dsk.readB Dsk.read;rw[z];rfl];exact⟨_,rfl,r,_,rfl,hO⟩
theorem Ybg (F:Nat->Prop)(bd:Nat)(D:Dsk)(a b:EC)(w:World)(h:FV F bd D w) :
  Calls Tryz.prog 251 [ED bd 0,S a,S b].toArray w (Fh F w (λu w'=>u=I (D.ren a b).1/\FV (G2 F w w') bd ((D.ren a b).2) w')):=by
 refine cw Tryz.func251 ?_;have z:=Vc.Mod.refl F w;obtain⟨mf,es,r⟩:=h;have J:=r.lt;have hd:=r.m;have O:=r.map.at;refine ws λ_ Z1=>wr (da (de Z1 (ws λ_ Z2=>ws λ_ Z3=>wr (dm (dm (dm ?_))))));refine li (e:=9) (sz:=1) (zs:=[S []]) (pv:=[(0,_),(1,_)]) (cs:=[_,_]) RX.all (λb1 w1 e1 x1 m1=>?_);have g1:=z.ge e1;have a1_hE:=r.lt;have a1_hd:=hd.lt;have r:=r.ext x1;have hd:=hd.ext x1;have O:=O.ext x1;have z:=z.ext x1;refine cP (QY bd mf D [a,b] _ _ hd (X5e m1) EQ) RX.all λw2 x2=>?_;have r:=r.ext x2;have hd:=hd.ext x2;have O:=O.ext x2;have z:=z.ext x2;refine da (de Z3 (ws λ_ Z4=>wr (dm ?_)));refine dp (F8 rfl rfl) (de Z4 (wi (λc1=>?_) λc1=>?_))
 ·refine ws λ_ Z5=>wr (dm (da (de Z5 (EH ?_))));refine ro ?_;refine⟨_,rfl,z,?_⟩;rw[Xvm c1];exact⟨rfl,mf,es,r.wide (λi hi=>.inl hi) (HV J z.size)⟩
 have Y:D.may [a,b]=0:=AI c1;have hp:=Dsk.may_names Y b EQ;have ht:a.length<=maxLen:=by
  have:=(Dsk.may_names Y a EQ).2;unfold maxLen;omega
 refine EG (Z2 _ _ (ws λ_ Z6=>wr (dm ?_)));refine dz rfl (df 1 rfl (dl rfl (hd.at rfl) (dm ?_)));refine dq (NV rfl rfl O ht) (da (de Z6 (ws λ_ Z7=>ws λ_ Z8=>wr (dm ?_))));refine dp (Gj E9 rfl rfl) (de Z8 (wi (λc2=>?_) λc2=>?_))
 ·refine ws λ_ Z9=>wr (da (de Z9 (EH ?_)));refine ro ?_;refine⟨_,rfl,z,?_⟩;rw[Xs9 Y (by rw[r.look,Nv.1 c2];rfl)];exact⟨rfl,mf,es,r.wide (λi hi=>.inl hi) (HV J z.size)⟩
 obtain⟨e,he⟩:=PE c2;rw[he];have hl:lk D.fs a=some e.f:=by rw[r.look,he];rfl
 obtain⟨ha,hj⟩:=NX he;subst hj;refine EG (Z7 _ _ (ws λ_ hy=>wr (dm ?_)));refine dz rfl (df 1 rfl (dl rfl (hd.at rfl) (dm ?_)));refine QL (l:=es.map Fm.kv) Hn rfl rfl rfl r.map (by have:=(r.name ha).2;unfold maxLen;omega) (.inl rfl) (λw8 x8 hq hM=>?_);have Z:=r.take x8 hM;have z:=z.own x8 (λi hi _=>r.inF i (.inr (.inl hi)));have hb:=z.size;have hd:=Z.m;refine de hy (ws λ_ hg=>wr (dm ?_));refine dz rfl (df 1 rfl (dl rfl (hd.at rfl) (dm (dm ?_))));refine Pq (l:=(es.filter λq=>decide (q.name≠e.name)).map Fm.kv) (kx:=b) (a:=some e.b) Hn rfl rfl rfl rfl Z.map (by unfold maxLen;omega) (by have:=Z.len;rw[An];unfold maxLen;omega) (.inl rfl) (λw9 x9 xs9 hr=>?_);have hh:=r.ren ha hp Z hq x8 x9 hr;have z:=z.own x9 (λi hi _=>r.inF i (.inr (.inl hi)));refine de hg (ws λ_ hc=>wr (dm ?_));refine cD (Pa _ bd mf _ _ _ hh (Dsk.may_live Y)) (.inl rfl) λu3 w3 x3 hw=>?_;have hsz3:=z.size;have z:=z.own x3 (λi hi hlt=>(by have e2:i=bd:=hi;rw[e2];exact r.inF bd (.inl rfl)));obtain⟨rfl,hf⟩:=hw;refine da (de hc (EH ?_));refine ro ?_;refine⟨_,rfl,z,?_⟩;rw[Xta Y hl];exact⟨rfl,FV.to ⟨_,_,hf⟩ (LN hb) (λk hk=>A0 (J k hk) z.size)⟩
theorem Xvn {D:Dsk}{n p:EC}(h:D.may [n]≠0):D.app n p=(D.may [n],D):=by unfold Dsk.app;rw[if_pos h]
theorem TU {D:Dsk}{n p:EC}(h:D.may [n]=0)(h2:D.full n p=true):D.app n p=(6,D):=by unfold Dsk.app;rw[if_neg (λe=>e h),if_pos h2]
theorem WU {D:Dsk}{n p:EC}(h:D.may [n]=0)(h2:D.full n p=false):D.app n p=(0,Dsk.tick { D with fs:=EX D.fs n ⟨(D.old n).data++p,(D.old n).lasts⟩ }):=by unfold Dsk.app;rw[if_neg (λe=>e h),if_neg (by rw[h2];decide)]
theorem X88 {D:Dsk}{n p:EC}(h:D.room-↑D.used<↑p.length):D.full n p=true:=by unfold Dsk.full;simp [h]
theorem X89 {D:Dsk}{n p:EC}(h2:lk D.fs n=none)(h:4096<=D.fs.length):D.full n p=true:=by unfold Dsk.full;simp [h2,h]
theorem Xs {D:Dsk}{n p:EC}(h:¬ D.room-↑D.used<↑p.length)(h2:lk D.fs n=none->¬ 4096<=D.fs.length):D.full n p=false:=by
 unfold Dsk.full;rw[decide_eq_false h,Bool.false_or]
 cases e:lk D.fs n with
 | none=>simp [h2 e]
 | some f=>rfl
theorem DiskE.fresh {F:Nat->Prop}{bd mf b:Nat}{es:List Fm}{D:Dsk}{w w1 w2:World}{n:EC}(h:DiskE F bd mf es D w)(hn:1<=n.length/\n.length<=64)(hno:fe es n=none)(hc:D.fs.length<4096)(x:EB w w1)(m1:EL w1 b [.slice none 0 0,I 0] 125)(hb:w.heap.size<=b)
  (m:Vc.Mod (ES mf) w1 w2) (hm:F9 Tryz.prog 9 S pO w2 mf (EX (es.map Fm.kv) n (some b))):DiskE (G2 F w w2) bd mf (Hp es n ⟨n,b,.slice none 0 0,⟨[],0⟩⟩) { D with fs:=EX D.fs n ⟨[],0⟩ } w2:=by
 have r:¬ b=mf:=λe=>by have:=h.map.lt;omega
 refine h.put (e:=⟨n,b,.slice none 0 0,⟨[],0⟩⟩) rfl (EB.mod x m) (λk hk _=>.inl hk) hm (m1.mod m r) Vc.Own.nil (λk hk=>.inl ?_) ?_
 ·rcases hk with rfl|hk
  ·exact hb
  ·cases hk
 ·refine h.wf.set (n:=n) (f:=⟨[],0⟩) hn (Aa _) ?_ (.inr hc);have h2:=h.wf.used;have h3:D.old n=⟨[],0⟩:=by unfold Dsk.old;rw[h.look,hno];rfl
  rw[h3];simpa using h2
theorem Wk {D:Dsk}{n:EC}(h:lk D.fs n=none):D.old n=⟨[],0⟩:=by unfold Dsk.old;rw[h];rfl
theorem Xi {D:Dsk}{n:EC}{f:Fil}(h:lk D.fs n=some f):D.old n=f:=by unfold Dsk.old;rw[h];rfl
theorem Rq (F:Nat->Prop)(bd:Nat)(D:Dsk)(n:EC)(qs:List (Value×EC))(vr:Value)(w:World)(h:FV F bd D w)(hr:EM (λq:Value×EC=>[q.1]) 1 w vr qs)(hq:∀q∈qs,EM EP 1 w q.1 q.2)(hql:(qs.flatMap (·.2)).length<=1001000020)(hqn:qs.length<=1000000) :
  Calls Tryz.prog 83 [ED bd 0,S n,vr].toArray w (Fh F w (λu w'=>u=I (D.app n (qs.flatMap (·.2))).1/\FV (G2 F w w') bd ((D.app n (qs.flatMap (·.2))).2) w')):=by
 refine cw Tryz.func83 ?_;have z:=EB.refl w;obtain⟨mf,es,r⟩:=h;have ha:=r.lt;have hd:=r.m;have hb:=r.map.at;have O:=r.map;have hub0:=r.wf.room1;have hud0:=r.wf.used;have hr00:=r.wf.room0;refine ws λ_ Z1=>wr (da (de Z1 (ws λ_ Z2=>ws λ_ Z3=>wr (dm (dm ?_)))));refine li (e:=9) (sz:=1) (zs:=[S []]) (pv:=[(0,_)]) (cs:=[_]) RX.all (λb1 w1 e1 x1 m1=>?_);have g1:=z.ge e1;have a1_hE:=r.lt;have a1_hd:=hd.lt;have r:=r.ext x1;have hd:=hd.ext x1;have hb:=hb.ext x1;have O:=O.ext x1;have z:=z.trans x1;refine cP (QY bd mf D [n] _ _ hd (Lx m1) EQ) RX.all λw2 x2=>?_;have r:=r.ext x2;have hd:=hd.ext x2;have hb:=hb.ext x2;have O:=O.ext x2;have z:=z.trans x2;refine da (de Z3 (ws λ_ Z4=>wr (dm ?_)));refine dp (F8 rfl rfl) (de Z4 (wi (λc1=>?_) λc1=>?_))
 ·refine ws λ_ Z5=>wr (dm (da (de Z5 (EH ?_))));refine ro ?_;refine⟨_,rfl,z.mono (λ_ h _=>h.elim),?_⟩;rw[Xvn c1];exact⟨rfl,mf,es,r.wide (λi hi=>.inl hi) (HV ha z.size)⟩
 have hf:D.may [n]=0:=AI c1;have h7:=Dsk.may_names hf n EQ;have xu:n.length<=maxLen:=by unfold maxLen;omega
 refine EG (Z2 _ _ (ws λ_ Z6=>wr (dm ?_)));refine cG (Nz qs vr _ (hr.ext z) (λq h=>(hq q h).ext z) EA hqn) RX.all λup w3 x3 xv=>?_;have xh:=z.size;have r:=r.ext x3;have hd:=hd.ext x3;have hb:=hb.ext x3;have O:=O.ext x3;have z:=z.trans x3;have hJ:=xv.1;have yj:(qs.flatMap (·.2))≠[]->w.heap.size<=(base up).1:=λe=>Ae xh (xv.2 e);refine da (de Z6 (ws λ_ Z7=>wr (dm ?_)));refine dz rfl (df 1 rfl (dl rfl (hd.at rfl) (dm ?_)));refine dq (NV rfl rfl hb xu) (da (de Z7 (ws λ_ Z8=>ws λ_ Z9=>?_)));refine F4 (R:=EB) EB.refl (λ_ _ _=>EB.trans) E9 [5,17,18] [(0,.p,false),(1,.p,false),(2,.p,false),(3,.p,false),(4,.p,false),(5,.l,false),(6,.p,false),(7,.x,false),(8,.p,false),(9,.p,false),(10,.p,false),(11,.p,false),(12,.p,false),(13,.p,false),(14,.p,false),(15,.p,false),(16,.p,false),(17,.l,false),(18,.l,false),(19,.p,false),(20,.p,false),(21,.p,false)] rfl E9 E9 (λw4 xt=>?_);have x4:=EJ xt;clear xt;have r:=r.ext x4;have hd:=hd.ext x4;have O:=O.ext x4;have hJ:=hJ.ext x4;have z:=z.trans x4;refine dm ?_;refine dv 5 1 hJ.sl (dm ?_);refine dz rfl (df 0 rfl (dL rfl (λ_ hR=>((hd.ext hR).at rfl)) (dm ?_)));refine cP (X85 F bd mf es D _ r) RX.ext λw5 x5=>?_;have r:=r.ext x5;have hd:=hd.ext x5;have O:=O.ext x5;have hJ:=hJ.ext x5;have z:=z.trans x5;refine ps rfl rfl (dp (FY rfl rfl) (dm ?_));refine Fz 35 rfl (λc2=>?_) (λc2=>?_)
 ·iterate 10 refine dk ?_
  refine EO (de Z9 ?_);refine GD rfl (ws λ_ x0=>wr (da (de x0 (EH ?_))));refine ro ?_;refine⟨_,rfl,z.mono (λ_ h _=>h.elim),?_⟩;rw[TU hf (X88 c2)];exact⟨rfl,mf,es,r.wide (λi hi=>.inl hi) (HV ha z.size)⟩
 refine dm ?_;refine dp (Gj E9 rfl rfl) (dm ?_);refine Fz 38 rfl (λc3=>?_) (λc3=>?_)
 ·refine dm ?_;refine dz rfl (df 1 rfl (dL rfl (λ_ hR=>((hd.ext hR).at rfl)) (FK rfl (λw' hR=>X48 Hn rfl (O.ext hR)) (dp (IB rfl rfl) (EO ?_)))));refine EO (de Z9 ?_);refine wi (λc4=>?_) λc4=>?_
  ·refine ws λ_ ya=>wr (da (de ya (EH ?_)));refine ro ?_;refine⟨_,rfl,z.mono (λ_ h _=>h.elim),?_⟩;rw[TU hf (X89 (by rw[r.look,Nv.1 c3];rfl) (by rw[r.fs,An];rw[An]at c4;omega))];exact⟨rfl,mf,es,r.wide (λi hi=>.inl hi) (HV ha z.size)⟩
  refine EG (Z8 _ _ ?_);refine Hz (G:=(Nat->Prop)×List Fm×Dsk×Fm) (λ(F2,e2,D2,e)=>[(0,ED bd 0),(6,I 0),(8,up),(9,ED e.b 0)]) (λ(F2,e2,D2,e) w'=>Mod F w w'/\DiskE F2 bd mf e2 D2 w'/\e∈e2/\(∀i,F i->F2 i)/\(∀i,F2 i->F i\/w.heap.size<=i)/\EM EP 1 w' up (qs.flatMap (·.2))/\D2.fused=D.fused/\D2.left=D.left/\e.f.data.length+((qs.flatMap (·.2))).length<=1073741824/\Dsk.Wf { D2 with fs:=EX D2.fs e.name ⟨e.f.data++(qs.flatMap (·.2)),e.f.lasts⟩ }/\D.app n (qs.flatMap (·.2))=(0,Dsk.tick { D2 with fs:=EX D2.fs e.name ⟨e.f.data++(qs.flatMap (·.2)),e.f.lasts⟩ })) ?_ ?_
  ·refine ws λ_ xw=>wr (dm ?_);refine dp (Gj E9 rfl rfl) (de xw (wi (λc5=>?_) λc5=>?_))
   ·have xl:fe es n=none:=Nv.1 c3;have hc:lk D.fs n=none:=by rw[r.look,xl];rfl
    have xr:D.fs.length<4096:=by rw[r.fs,An];rw[An]at c4;omega
    have yo:=r;have yk:=z.size;have yp:=r.wf.room1;have yg:=r.wf.used;have xo:Dsk.Wf { D with fs:=EX (EX D.fs n ⟨[],0⟩) n ⟨[]++qs.flatMap (·.2),0⟩ }:=by
     rw[MN];refine r.wf.set h7 (Ad _) ?_ (.inr xr);rw[Wk hc];simp only [AE,Bc];omega
    refine ws λ_ yh=>wr (db (zs:=[.slice none 0 0,.int .i64 0]) (pl:=[(0,1),(1,1)]) (pv:=[]) (cs:=[.slice none 0 0,.int .i64 0]) ?_);refine Gc rfl rfl rfl RX.all (λb2 w6 e2 x6 m2=>?_);have g2:=z.ge e2;have a2_hE:=r.lt;have a2_hd:=hd.lt;have a2_hJ:=EM.base_lt hJ EK;have r:=r.ext x6;have hd:=hd.ext x6;have O:=O.ext x6;have hJ:=hJ.ext x6;have z:=z.trans x6;refine da (de yh (wr (dm ?_)));refine dz rfl (df 1 rfl (dl rfl (hd.at rfl) (dm (dm ?_))));refine Pq (l:=es.map Fm.kv) (kx:=n) (a:=some b2) Hn rfl rfl rfl rfl O xu (by have:=r.len;rw[An];unfold maxLen;omega) (.inl rfl) (λw9 x9 yb xy=>?_);have xi:=yo.fresh h7 xl xr x6 m2 (Cd e2.symm) x9 xy;have z:=(z.mod x9).mono (λi hi _=>(r.inF i (.inr (.inl hi)):F i));have hJ:=hJ.mod x9 (λhl e=>by have e2:(base up).1=mf:=e;have h3:=yj hl;have h4:=r.inF mf (.inr (.inl rfl));have h5:=ha mf h4;omega);have hd:=xi.m;refine EF ((⟨(G2 F _ _,Hp es n ⟨n,b2,.slice none 0 0,⟨[],0⟩⟩,{ D with fs:=EX D.fs n ⟨[],0⟩ },⟨n,b2,.slice none 0 0,⟨[],0⟩⟩),FU,z,xi,Xnj,λi h=>.inl h,LN yk,hJ,rfl,rfl,(by simp only [Bc];omega),xo,?_⟩));rw[WU hf (Xs c2 (λ_=>by omega)),Wk hc];simp only [MN]
   exact absurd c3 c5
  intro X7 g7 w7 yi;obtain⟨F2,e2,D2,e⟩:=g7;clear z r hd hb O m1 hJ;obtain⟨z,r,Y,xn,Z,hJ,h9,hle,yc,hy,hw⟩:=yi;have hd:=r.m;have J:=(r.el e Y).1;have ho:=(r.el e Y).2;have xb:=ho.ne_blk J rfl;have hg:¬ (D2.fused=true/\D2.left=0):=by rw[h9,hle];exact Dsk.may_live hf
  have xf:=z.size;refine ws λ_ xx=>wr (dm (dm ?_));refine dz rfl (df 0 rfl (dl rfl (J.at rfl) (dm ?_)));refine KG (lx:=(qs.flatMap (·.2))) (e:=5) (sz:=1) (by':=1) rfl E9 E9 EE ho (hJ) rfl rfl (by intro x _ u hu;simp at hu;rcases hu with rfl<;>rfl) EA EK (Ad _) (.inl rfl) (λv2 w8 hj x8 xm=>?_);have ht:=xm;have hz:=x8;have J:=J.mod x8 (by exact xb);have z:=z.own x8 (λi hi xc=>(Z i (r.foot_F Y (.inr hi))).resolve_right EA);have ho:=hj;have hp:=ho.ne_blk J rfl;refine dz rfl (df 0 rfl (G5 J (λw9 x9 yb J=>?_) (hv:=by exact ho.sl.one)));dsimp only [Fe,Ag,Af,Ai]at J;have ho:=ho.mod x9 (λk hk h=>hp (by have h2:k=e.b:=h;rw[hk,h2]));have z:=z.own x9 (λi hi _=>(Z i (r.foot_F Y (.inl hi))).resolve_right EA);refine de xx (ws λ_ yd=>wr ?_);have hh:=x9;refine dm ?_;have xa:=r.file (v:=v2) (f:=⟨e.f.data++qs.flatMap (·.2),e.f.lasts⟩) Y ((hz.mono (λi hi _=>.inr hi)).own hh (λi hi _=>.inl hi)) (λk hk _=>hk) J ho (ht.imp id (λe2 k hk=>by rw[e2]at hk;cases hk;exact Aa _)) hy;have xp:=Ae hz.size hh.size;refine cD (Pa _ bd mf _ _ _ xa hg) (.inl rfl) λu10 w10 x7 xg=>?_;have hsz10:=z.size;have z:=z.own x7 (λi hi xc=>(Z i (r.inF i (.inl hi))).resolve_right EA);obtain⟨rfl,xe⟩:=xg;refine da (de yd (EH ?_));refine ro ?_;refine⟨_,rfl,z,?_⟩;rw[hw];exact⟨rfl,FV.to (G:=G2 F2 _ _) ⟨_,_,xe⟩ (λk hk=>hk.elim (Z k) (λh=>.inr (Ae xf h.1))) (λk hk=>A0 (ha k hk) z.size)⟩
 refine dk (dk (dk (dk (dk (dk (EO ?_))))));refine EO (de Z9 ?_);refine GB rfl (EG (Z8 _ _ ?_));refine Hz (G:=(Nat->Prop)×List Fm×Dsk×Fm) (λ(F2,e2,D2,e)=>[(0,ED bd 0),(6,I 0),(8,up),(9,ED e.b 0)]) (λ(F2,e2,D2,e) w'=>Mod F w w'/\DiskE F2 bd mf e2 D2 w'/\e∈e2/\(∀i,F i->F2 i)/\(∀i,F2 i->F i\/w.heap.size<=i)/\EM EP 1 w' up (qs.flatMap (·.2))/\D2.fused=D.fused/\D2.left=D.left/\e.f.data.length+((qs.flatMap (·.2))).length<=1073741824/\Dsk.Wf { D2 with fs:=EX D2.fs e.name ⟨e.f.data++(qs.flatMap (·.2)),e.f.lasts⟩ }/\D.app n (qs.flatMap (·.2))=(0,Dsk.tick { D2 with fs:=EX D2.fs e.name ⟨e.f.data++(qs.flatMap (·.2)),e.f.lasts⟩ })) ?_ ?_
 ·refine ws λ_ xz=>wr (dm ?_);refine dp (Gj E9 rfl rfl) (de xz (wi (λc6=>?_) λc6=>?_))
  ·exact absurd c6 c3
  obtain⟨e,he⟩:=PE c6;rw[he];have hc:lk D.fs n=some e.f:=by rw[r.look,he];rfl
  obtain⟨Y,yn⟩:=NX he;subst yn;have yp:=r.wf.room1;have yg:=r.wf.used;have hel:e.f.data.length<=D.used:=VW (p:=(e.name,e.f)) (by rw[r.fs];exact Ar.2 ⟨e,Y,rfl⟩);have xj:Dsk.Wf { D with fs:=EX D.fs e.name ⟨e.f.data++qs.flatMap (·.2),e.f.lasts⟩ }:=by
   refine r.wf.set h7 (by have:=r.lasts Y;simp only [Ab];omega) ?_ (.inl (by rw[hc];rfl));rw[Xi hc];simp only [Ab];omega
  refine EG (⟨(F,es,D,e),FU,z.mono (λ_ h _=>h.elim),r,Y,λi h=>h,λi h=>.inl h,hJ,rfl,rfl,EA,xj,?_⟩);rw[WU hf (Xs c2 (λh=>by rw[hc]at h;cases h)),Xi hc]
 intro X11 ye w11 xk;obtain⟨F2,e2,D2,e⟩:=ye;clear z r hd hb O m1 hJ;obtain⟨z,r,Y,xn,Z,hJ,h9,hle,yc,hy,hw⟩:=xk;have hd:=r.m;have J:=(r.el e Y).1;have ho:=(r.el e Y).2;have xb:=ho.ne_blk J rfl;have hg:¬ (D2.fused=true/\D2.left=0):=by rw[h9,hle];exact Dsk.may_live hf
 have xf:=z.size;refine ws λ_ yf=>wr (dm (dm ?_));refine dz rfl (df 0 rfl (dl rfl (J.at rfl) (dm ?_)));refine KG (lx:=(qs.flatMap (·.2))) (e:=5) (sz:=1) (by':=1) rfl E9 E9 EE ho (hJ) rfl rfl (by intro x _ u hu;simp at hu;rcases hu with rfl<;>rfl) EA EK (Ad _) (.inl rfl) (λv2 w12 hj h8 xd=>?_);have ht:=xd;have hz:=h8;have J:=J.mod h8 (by exact xb);have z:=z.own h8 (λi hi xc=>(Z i (r.foot_F Y (.inr hi))).resolve_right EA);have ho:=hj;have hp:=ho.ne_blk J rfl;refine dz rfl (df 0 rfl (G5 J (λw13 h6 xs13 J=>?_) (hv:=by exact ho.sl.one)));dsimp only [Fe,Ag,Af,Ai]at J;have ho:=ho.mod h6 (λk hk h=>hp (by have h2:k=e.b:=h;rw[hk,h2]));have z:=z.own h6 (λi hi _=>(Z i (r.foot_F Y (.inl hi))).resolve_right EA);refine de yf (ws λ_ ym=>wr ?_);have hh:=h6;refine dm ?_;have xa:=r.file (v:=v2) (f:=⟨e.f.data++qs.flatMap (·.2),e.f.lasts⟩) Y ((hz.mono (λi hi _=>.inr hi)).own hh (λi hi _=>.inl hi)) (λk hk _=>hk) J ho (ht.imp id (λe2 k hk=>by rw[e2]at hk;cases hk;exact Aa _)) hy;have xp:=Ae hz.size hh.size;refine cD (Pa _ bd mf _ _ _ xa hg) (.inl rfl) λu14 w14 yl xq=>?_;have hsz14:=z.size;have z:=z.own yl (λi hi xc=>(Z i (r.inF i (.inl hi))).resolve_right EA);obtain⟨rfl,xe⟩:=xq;refine da (de ym (EH ?_));refine ro ?_;refine⟨_,rfl,z,?_⟩;rw[hw];exact⟨rfl,FV.to (G:=G2 F2 _ _) ⟨_,_,xe⟩ (λk hk=>hk.elim (Z k) (λh=>.inr (Ae xf h.1))) (λk hk=>A0 (ha k hk) z.size)⟩
theorem OX {F:Nat->Prop}{w1 w2:World}{i:Nat}(h:G2 F w1 w2 i)(hi:i<w1.heap.size):F i:=h.resolve_right (λh2=>by omega)
theorem Xvo {D:Dsk}{s:EC} : (decide (D.readE s=0))=D.has s:=by unfold Dsk.readE;cases D.has s<;>rfl
theorem Wz {D:Dsk}{n p:EC}(h:n.length<1\/60<n.length):D.save n p=(1,D):=by unfold Dsk.save;rw[if_pos h]
theorem X9a {D:Dsk}{n p:EC}(h:¬ (n.length<1\/60<n.length))(h2:1048576<p.length):D.save n p=(5,D):=by unfold Dsk.save;rw[if_neg h,if_pos h2]
theorem X9b {D:Dsk}{n p:EC}(h:¬ (n.length<1\/60<n.length))(h2:¬ 1048576<p.length)(h3:D.has (Dsk.sh n)=true)(h4:(D.rem [Dsk.sh n]).1≠0):D.save n p=D.rem [Dsk.sh n]:=by unfold Dsk.save;rw[if_neg h,if_neg h2,if_pos h3,if_pos h4]
theorem X9c {D:Dsk}{n p:EC}(h:¬ (n.length<1\/60<n.length))(h2:¬ 1048576<p.length)(h3:D.has (Dsk.sh n)=true)(h4:¬ (D.rem [Dsk.sh n]).1≠0):D.save n p=Dsk.save2 (D.rem [Dsk.sh n]).2 n p:=by unfold Dsk.save;rw[if_neg h,if_neg h2,if_pos h3,if_neg h4]
theorem X9d {D:Dsk}{n p:EC}(h:¬ (n.length<1\/60<n.length))(h2:¬ 1048576<p.length)(h3:D.has (Dsk.sh n)=false):D.save n p=Dsk.save2 D n p:=by unfold Dsk.save;rw[if_neg h,if_neg h2,if_neg (by rw[h3];decide)]
theorem X5g {D:Dsk}{n p:EC}(h:(D.app (Dsk.sh n) (EI p)).1≠0):Dsk.save2 D n p=D.app (Dsk.sh n) (EI p):=by unfold Dsk.save2;rw[if_pos h]
theorem X5h {D:Dsk}{n p:EC}(h:¬ (D.app (Dsk.sh n) (EI p)).1≠0)(h2:((D.app (Dsk.sh n) (EI p)).2.sync [Dsk.sh n]).1≠0):Dsk.save2 D n p=(D.app (Dsk.sh n) (EI p)).2.sync [Dsk.sh n]:=by unfold Dsk.save2;rw[if_neg h,if_pos h2]
theorem X5i {D:Dsk}{n p:EC}(h:¬ (D.app (Dsk.sh n) (EI p)).1≠0)(h2:¬ ((D.app (Dsk.sh n) (EI p)).2.sync [Dsk.sh n]).1≠0):Dsk.save2 D n p=((D.app (Dsk.sh n) (EI p)).2.sync [Dsk.sh n]).2.ren (Dsk.sh n) n:=by unfold Dsk.save2;rw[if_neg h,if_neg h2]
theorem Kk {v:Value}{p:EC}{w:World}{b:Nat}(h:EL w b [v] 82):EM (λq:Value×EC=>[q.1]) 1 w (.slice (some ⟨b,0,none⟩) 1 1) [(v,p)]:=h.arr (enc:=λq:Value×EC=>[q.1]) (sz:=1) (l:=[(v,p)]) rfl EE rfl EQ
theorem NN {F:Nat->Prop}{bd:Nat}{D:Dsk}{w:World}(h:FV F bd D w){b:Nat}(hb:w.heap.size<=b):¬ F b:=λr=>by have:=h.lt _ r;omega
def Lf (D:Dsk)(s:EC):EC×Int:=if D.readE s≠0 then([],D.readE s)else if(HB (D.readB s)).2≠0 then([],3)else((HB (D.readB s)).1,0)
theorem UE {D:Dsk}{s:EC}(h:D.readE s≠0):Lf D s=([],D.readE s):=if_pos h
theorem X5j {D:Dsk}{s:EC}(h:D.readE s=0)(h2:(HB (D.readB s)).2≠0):Lf D s=([],3):=by unfold Lf;rw[if_neg (λe=>e h),if_pos h2]
theorem S4 {D:Dsk}{s:EC}(h:D.readE s=0)(h2:(HB (D.readB s)).2=0):Lf D s=((HB (D.readB s)).1,0):=by unfold Lf;rw[if_neg (λe=>e h),if_neg (λe=>e h2)]
theorem Tk {D:Dsk}(h:D.Wf)(s:EC):(D.readB s).length<=2001000020:=by
 unfold Dsk.readB Dsk.read
 cases e:lk D.fs s with
 | none=>simp
 | some f=>have:=h.data (Ox e);simp at this ⊢;omega
def Hh (p:EC):Int:=if 1048576<p.length then 5 else 0
theorem Q7 (p:EC)(vp vr:Value)(w:World)(hr:EM (λx:Value=>[x]) 1 w vr [vp])(hp:EM EP 1 w vp p)(hpl:p.length<=2001000020) :
  Calls Tryz.prog 82 [vr].toArray w (ER w (λu w'=>∃v,u=.tuple #[v,I (Hh p)]/\(Hh p=0->EM EP 1 w' v (EI p)/\w.heap.size<=(base v).1))):=by
 refine(Ybd p vp vr w hr hp hpl).mono ?_;rintro e w' ⟨u,rfl,hx,h|⟨h1,v,rfl,h2,h3⟩⟩
 ·obtain⟨h1,rfl⟩:=h;have z:Hh p=5:=if_pos h1;exact⟨_,rfl,hx,_,by rw[z],λr=>by rw[z]at r;cases r⟩
 ·have r:Hh p=0:=if_neg EA;exact⟨_,rfl,hx,_,by rw[r],λ_=>⟨h2,h3⟩⟩
theorem SG {p:EC}(h:Hh p=0):¬ 1048576<p.length:=λh2=>by rw[show Hh p=5 from if_pos h2]at h;cases h
theorem Xk {p:EC}(h:Hh p≠0):1048576<p.length:=by
 unfold Hh at h;split at h
 ·assumption
 ·exact absurd rfl h
theorem X5k (F:Nat->Prop)(bd:Nat)(D:Dsk)(s:EC)(w:World)(h:FV F bd D w)(hok:s.length<=maxLen) :
  Calls Tryz.prog 250 [ED bd 0,S s].toArray w (Pure w (B (D.has s))):=by
 refine cw Tryz.func250 ?_;have r:=EB.refl w;refine ws λ_ Z=>wr (da (de Z (ws λ_ J=>wr (dm (dm ?_)))));refine cG (Ih F bd D s _ (h.ext r) hok) RX.all λu1 w1 O z=>?_;have hsz1:=r.size;have r:=r.trans O;obtain⟨vr,rfl,hO⟩:=z;refine dm ?_;refine dx rfl rfl (dx rfl rfl (da (da (de J (ws λ_ Y=>wr (dm ?_))))));refine dp (G1 rfl rfl) (da (de Y (EH ?_)));refine ro ?_;exact⟨by rw[<-Xvo],r⟩
theorem Ij (F:Nat->Prop)(bd:Nat)(D:Dsk)(s:EC)(w:World)(h:FV F bd D w)(hok:s.length<=maxLen) :
  Calls Tryz.prog 123 [ED bd 0,S s].toArray w (ER w (λu w'=>∃v,u=.tuple #[v,I (Lf D s).2]/\Vc.Own EP 1 5 w.heap.size w' v (Lf D s).1)):=by
 refine cw Tryz.func123 ?_;have r:=EB.refl w;have J:=Tk h.wf s;refine ws λ_ Z1=>wr (da (da (de Z1 (ws λ_ Z2=>ws λ_ Z3=>wr (dm ?_)))));refine dp (Gj E9 rfl rfl) (de Z3 (wi (λc1=>?_) λc1=>?_))
 ·exact absurd c1 EQ
 refine EG (Z2 _ _ (ws λ_ Z4=>wr (dm (dm ?_))));refine cG (Ih F bd D s _ (h.ext r) hok) RX.all λu1 w1 x1 Z=>?_;have hsz1:=r.size;have r:=r.trans x1;obtain⟨vr,rfl,hO⟩:=Z;refine dm ?_;refine dx rfl rfl (dx rfl rfl (da (da (de Z4 (ws λ_ Z5=>ws λ_ Z6=>wr (dm ?_))))));refine dp (F8 rfl rfl) (de Z6 (wi (λz=>?_) λz=>?_))
 ·refine ws λ_ Z7=>wr (dm (da (da (de Z7 (EH ?_)))));refine rt ?_;rw[UE z];exact⟨_,rfl,r,_,rfl,Vc.Own.nil⟩
 refine EG (Z5 _ _ (ws λ_ Z8=>wr (dm ?_)));refine cG (SS (D.readB s) vr _ (hO.arr EE) J) RX.all λu2 w2 x2 Y=>?_;have hsz2:=r.size;have r:=r.trans x2;obtain⟨vo,rfl,hP⟩:=Y;refine dm ?_;refine dx rfl rfl (dx rfl rfl (da (da (de Z8 (ws λ_ Z9=>ws λ_ hc=>wr (dm ?_))))));refine dp (F8 rfl rfl) (de hc (wi (λO=>?_) λO=>?_))
 ·refine ws λ_ hb=>wr (da (da (de hb (EH ?_))));refine rt ?_;rw[X5j (AI z) O];exact⟨_,rfl,r,_,rfl,Vc.Own.nil⟩
 refine EG (Z9 _ _ (ws λ_ ha=>wr (dm (da (da (de ha (EH ?_)))))));refine rt ?_;rw[S4 (AI z) (AI O)];exact⟨_,rfl,r,_,rfl,hP.mono EA⟩
theorem QK (F:Nat->Prop)(bd:Nat)(D:Dsk)(n p:EC)(vp vr:Value)(w:World)(h:FV F bd D w)(hr:EM (λx:Value=>[x]) 1 w vr [vp])(hp:EM EP 1 w vp p)(hpl:p.length<=2001000020)(hnl:n.length<=140737488355327) :
  Calls Tryz.prog 176 [ED bd 0,S n,vr].toArray w (Fh F w (λu w'=>u=I (D.save n p).1/\FV (G2 F w w') bd ((D.save n p).2) w')):=by
 refine cw Tryz.func176 ?_;have r:=EB.refl w;have xf:EI p≠[]:=λh=>by have:=Jz p;rw[h]at this;simp at this
 refine ws λ_ Z1=>wr (da (de Z1 (ws λ_ Z2=>ws λ_ Z3=>wr (dm ?_))));refine dp (Gj E9 rfl rfl) (dm ?_);refine Fz 14 rfl (λc1=>?_) (λc1=>?_)
 ·exact absurd c1 EQ
 refine dm ?_;refine dt rfl (dp (Fa rfl rfl) (EO ?_));refine dm ?_;refine Fz 19 rfl (λc2=>?_) (λc2=>?_)
 ·refine dk (dk (dk (EO (de Z3 ?_))));refine GD rfl (ws λ_ Z4=>wr (da (de Z4 (EH ?_))));refine ro ?_;rw[Wz EA];exact⟨_,rfl,r.mono (λ_ h _=>h.elim),rfl,h.grow r⟩
 refine dm ?_;refine dt rfl (dp (FY rfl rfl) (EO (de Z3 ?_)));refine wi (λc3=>?_) λc3=>?_
 ·refine ws λ_ Z5=>wr (da (de Z5 (EH ?_)));refine ro ?_;rw[Wz EA];exact⟨_,rfl,r.mono (λ_ h _=>h.elim),rfl,h.grow r⟩
 refine EG (Z2 _ _ (ws λ_ Z6=>wr (dm ?_)));refine cG (Q7 p vp vr _ (hr.ext r) (hp.ext r) hpl) RX.all λu1 w1 x1 h7=>?_;have hf:=r.size;have r:=r.trans x1;obtain⟨vb,rfl,hE⟩:=h7;refine dm ?_;refine dx rfl rfl (dx rfl rfl (da (da (de Z6 (ws λ_ Z7=>ws λ_ Z8=>wr (dm ?_))))));refine dp (F8 rfl rfl) (de Z8 (wi (λc4=>?_) λc4=>?_))
 ·refine ws λ_ Z9=>wr (dm (da (de Z9 (EH ?_))));refine ro ?_;rw[X9a EA (Xk c4),show Hh p=5 from if_pos (Xk c4)];exact⟨_,rfl,r.mono (λ_ h _=>h.elim),rfl,h.grow r⟩
 have Z:Hh p=0:=AI c4;have J:=(hE Z).1;have xh:=Ae hf (hE Z).2;have hb:¬ (n.length<1\/60<n.length):=by omega
 have Y:=SG Z;refine EG (Z7 _ _ ?_);refine Hz (G:=(Nat->Prop)×Dsk) (λ(Fc,Dc)=>[(0,ED bd 0),(1,S n),(7,vb)]) (λ(Fc,Dc) w'=>Mod F w w'/\FV Fc bd Dc w'/\(∀k,Fc k->F k\/w.heap.size<=k)/\EM EP 1 w' vb (EI p)/\D.save n p=Dsk.save2 Dc n p) ?_ ?_
 ·refine ws λ_ xa=>wr (dm (dm ?_));refine dp (Ji rfl rfl (by simp;omega)) (cP (X5k F bd D (n++[126]) _ (h.ext r) (by simp;unfold maxLen;omega)) RX.all λw2 x2=>?_);have J:=J.ext x2;have r:=r.trans x2;refine de xa (wc (λc5=>?_) λc5=>?_)
  ·refine ws λ_ xd=>wr (dm (dm ?_));refine dp (Ji rfl rfl (by simp;omega)) (li (e:=9) (sz:=1) (zs:=[S []]) (pv:=[(0,_)]) (cs:=[_]) RX.all (λb1 w3 e1 x3 m1=>?_));have g1:=r.ge e1;have a1_hB:=EM.base_lt J EK;have J:=J.ext x3;have r:=r.trans x3;refine cD (P5 F bd D [n++[126]] _ _ (h.ext r) (Lx m1) EQ (λ_=>NN h g1)) (.inl rfl) λu4 w4 x4 xi=>?_;have hg:=r.size;have J:=J.mod x4 (λ_=>NN h xh);have r:=(r.mod x4).mono (λi hi _=>(hi:F i));obtain⟨rfl,hA⟩:=xi;have O:=hg;refine da (de xd (ws λ_ hw=>wr (dm ?_)));refine dp (F8 rfl rfl) (de hw (wi (λc6=>?_) λc6=>?_))
   ·refine ws λ_ h6=>wr (dm (da (de h6 (EH ?_))));refine ro ?_;rw[X9b hb Y c5 c6];exact⟨_,rfl,r,rfl,hA.to (LN O) (λk hk=>A0 (h.lt k hk) r.size)⟩
   refine EG ?_;exact⟨(_,_),Hj,r,hA,LN O,J,X9c hb Y c5 c6⟩
  refine EG ?_;exact⟨(F,D),Hj,r.mono (λ_ h _=>h.elim),h.ext r,λ_ h=>.inl h,J,X9d hb Y c5⟩
 intro X5 g5 w5 xe;obtain⟨Fc,Dc⟩:=g5;clear r J;obtain⟨r,hA,z,J,ha⟩:=xe;have hsw:=r.size;have hBl:=J.base_lt EK xf;refine ws λ_ hy=>ws λ_ xj=>wr (dm (dm ?_));refine dp (Ji rfl rfl (by simp;omega)) (dm ?_);refine Ib (e:=82) (sz:=1) (zs:=[.slice none 0 0]) (pv:=[(0,?a35_0)]) (cs:=[?a35_0]) rfl E9 ⟨rfl,rfl⟩ E9 rfl ?h35 ?f35 RX.all (λb2 w6 e2 x6 m2=>?k35)
 case h35=>refine⟨rfl,?_,trivial⟩<;>(conv=>lhs;whnf)
 case f35=>simp [Hw,Fe,Aw,J.sl.cells]
 have g2:=r.ge e2;have a2_hB:=EM.base_lt J EK;have J:=J.ext x6;have hA:=hA.ext x6;have r:=r.ext x6;refine cD (Rq Fc bd Dc (n++[126]) [(vb,EI p)] _ _ hA (Kk m2) (by intro q h;rw[Ah.1 h];exact J) (by simp [Jz];omega) EQ) (.inl rfl) λu7 w7 x7 hh=>?_;have hsz7:=r.size;have r:=r.own x7 (λi hi hj=>(z i hi).resolve_right EA);rw[show BI (λq:Value×EC=>q.2) [(vb,EI p)]=EI p by simp]at hh;obtain⟨rfl,hA⟩:=hh;have hl:=hA;refine da (de xj (ws λ_ h8=>wr (dm ?_)));refine dp (F8 rfl rfl) (de h8 (wi (λc7=>?_) λc7=>?_))
 ·refine ws λ_ ht=>wr (dm (da (de ht (EH ?_))));refine ro ?_;rw[ha,X5g c7];exact⟨_,rfl,r,rfl,hA.to (λk hk=>(λhk=>hk.elim (z k) (λh9=>.inr EA)) hk) (λk hk=>A0 (h.lt k hk) r.size)⟩
 refine EG (hy _ _ (ws λ_ xg=>ws λ_ hz=>wr (dm (dm ?_))));refine dp (Ji rfl rfl (by simp;omega)) (li (e:=9) (sz:=1) (zs:=[S []]) (pv:=[(0,_)]) (cs:=[_]) RX.all (λb3 w8 e3 x8 m3=>?_));have g3:=r.ge e3;have hA:=hA.ext x8;have r:=r.ext x8;refine cD (Xr _ bd _ [n++[126]] _ _ hA (Lx m3) EQ (λ_=>NN hl (Cd e3.symm))) (.inl rfl) λu9 w9 x9 xc=>?_;have hsz9:=r.size;have r:=r.own x9 (λi hi hj=>(z i (OX hi EA)).resolve_right EA);obtain⟨rfl,hA⟩:=xc;refine da (de hz (ws λ_ hq=>wr (dm ?_)));refine dp (F8 rfl rfl) (de hq (wi (λc8=>?_) λc8=>?_))
 ·refine ws λ_ h5=>wr (dm (da (de h5 (EH ?_))));refine ro ?_;rw[ha,X5h c7 c8];exact⟨_,rfl,r,rfl,hA.to (λk hk=>(λhk=>hk.elim (λhk=>hk.elim (z k) (λh9=>.inr EA)) (λh9=>.inr EA)) hk) (λk hk=>A0 (h.lt k hk) r.size)⟩
 refine EG (xg _ _ (ws λ_ xk=>wr (dm (dm ?_))));refine dp (Ji rfl rfl (by simp;omega)) (dm ?_);refine cD (Ybg _ bd _ (n++[126]) n _ hA) (.inl rfl) λu10 w10 xb hc=>?_;have hsz10:=r.size;have r:=r.own xb (λi hi hj=>(z i (OX (OX hi EA) EA)).resolve_right EA);obtain⟨rfl,hA⟩:=hc;refine da (de xk (EH ?_));refine ro ?_;rw[ha,X5i c7 c8];exact⟨_,rfl,r,rfl,hA.to (λk hk=>(λhk=>hk.elim (λhk=>hk.elim (λhk=>hk.elim (z k) (λh9=>.inr EA)) (λh9=>.inr EA)) (λh9=>.inr EA)) hk) (λk hk=>A0 (h.lt k hk) r.size)⟩
end Go.Proofs.YtiooodckiddpmaaGreatDoor
namespace Go.Proofs
open Go.Shelf
def Tryz.keys67_ren : Go.Shelf.Ren:=⟨λ|7=>67|10=>133|n=>n,λ|23=>120|26=>9|3=>123|28=>129|0=>0|27=>128|33=>208|4=>4|n=>n,λ|n=>n⟩
theorem Tryz.keys67 : Go.Proofs.SlLaysZ.n7 Tryz.prog Tryz.keys67_ren:={
 mixed:=by kernel_rfl
 f7:=⟨Tryz.f67.name,by decide,Tryz.func67.trans (congrArg some E9)⟩
 f10:=⟨Tryz.f133.name,by decide,Tryz.func133.trans (congrArg some E9)⟩
 t0:=Tryz.underlying0
 a0:=Tryz.isAgg0
 z0:=Tryz.sizeOf0
 v0:=Tryz.zeroValue0
 t4:=Tryz.underlying4
 a4:=Tryz.isAgg4
 z4:=Tryz.sizeOf4
 v4:=Tryz.zeroValue4
 t23:=Tryz.underlying120
 a23:=Tryz.isAgg120
 z23:=Tryz.sizeOf120
 v23:=Tryz.zeroValue120
 t26:=Tryz.underlying9
 a26:=Tryz.isAgg9
 z26:=Tryz.sizeOf9
 v26:=Tryz.zeroValue9
 t27:=Tryz.underlying128
 a27:=Tryz.isAgg128
 z27:=Tryz.sizeOf128
 v27:=Tryz.zeroValue128
 t28:=Tryz.underlying129
 a28:=Tryz.isAgg129
 z28:=Tryz.sizeOf129
 v28:=Tryz.zeroValue129
 t33:=Tryz.underlying208
 a33:=Tryz.isAgg208
 z33:=Tryz.sizeOf208
 v33:=Tryz.zeroValue208 }
def Tryz.sorted66_ren : Go.Shelf.Ren:=⟨λ|6=>66|8=>131|9=>132|11=>202|13=>204|12=>203|23=>271|24=>272|14=>262|15=>263|16=>264|17=>265|18=>266|19=>267|20=>268|21=>269|22=>270|25=>313|26=>314|27=>315|28=>316|29=>317|30=>305|31=>333|n=>n,λ|26=>9|28=>129|24=>58|0=>0|3=>3|37=>237|48=>174|50=>236|4=>4|40=>331|39=>330|45=>302|5=>5|9=>9|51=>355|55=>197|57=>368|58=>211|33=>208|n=>n,λ|n=>n⟩
theorem Tryz.sorted66 : Go.Proofs.SlLaysZ.n6 Tryz.prog Tryz.sorted66_ren:={
 mixed:=by kernel_rfl
 f6:=⟨Tryz.f66.name,by decide,Tryz.func66.trans (congrArg some E9)⟩
 f8:=⟨Tryz.f131.name,by decide,Tryz.func131.trans (congrArg some E9)⟩
 f11:=⟨Tryz.f202.name,by decide,Tryz.func202.trans (congrArg some E9)⟩
 t0:=Tryz.underlying0
 a0:=Tryz.isAgg0
 z0:=Tryz.sizeOf0
 v0:=Tryz.zeroValue0
 t24:=Tryz.underlying58
 a24:=Tryz.isAgg58
 z24:=Tryz.sizeOf58
 v24:=Tryz.zeroValue58
 t26:=Tryz.underlying9
 a26:=Tryz.isAgg9
 z26:=Tryz.sizeOf9
 v26:=Tryz.zeroValue9
 t28:=Tryz.underlying129
 a28:=Tryz.isAgg129
 z28:=Tryz.sizeOf129
 v28:=Tryz.zeroValue129
 i26:=by kernel_rfl }
def Tryz.lays190_ren : Go.Shelf.Ren:=⟨λ|190=>132|125=>204|258=>203|128=>271|129=>272|302=>262|303=>263|304=>264|305=>265|306=>266|307=>267|308=>268|309=>269|310=>270|333=>313|329=>314|330=>315|334=>316|335=>317|336=>305|344=>333|n=>n,λ|31=>58|9=>9|3=>3|46=>237|0=>0|51=>174|53=>236|4=>4|183=>331|182=>330|131=>302|5=>5|218=>355|222=>197|228=>368|229=>211|n=>n,λ|n=>n⟩
theorem Tryz.lays190 : Go.Proofs.Lays.n190 Tryz.prog Tryz.lays190_ren:={
 mixed:=by kernel_rfl
 f125:=Tryz.func204.trans (congrArg some E9)
 f128:=Tryz.func271.trans (congrArg some E9)
 f129:=Tryz.func272.trans (congrArg some E9)
 f190:=Tryz.func132.trans (congrArg some E9)
 f258:=Tryz.func203.trans (congrArg some E9)
 f302:=Tryz.func262.trans (congrArg some E9)
 f303:=Tryz.func263.trans (congrArg some E9)
 f304:=Tryz.func264.trans (congrArg some E9)
 f305:=Tryz.func265.trans (congrArg some E9)
 f306:=Tryz.func266.trans (congrArg some E9)
 f307:=Tryz.func267.trans (congrArg some E9)
 f308:=Tryz.func268.trans (congrArg some E9)
 f309:=Tryz.func269.trans (congrArg some E9)
 f310:=Tryz.func270.trans (congrArg some E9)
 f329:=Tryz.func314.trans (congrArg some E9)
 f330:=Tryz.func315.trans (congrArg some E9)
 f333:=Tryz.func313.trans (congrArg some E9)
 f334:=Tryz.func316.trans (congrArg some E9)
 f335:=Tryz.func317.trans (congrArg some E9)
 f336:=Tryz.func305.trans (congrArg some E9)
 f344:=Tryz.func333.trans (congrArg some E9)
 t0:=Tryz.underlying0
 a0:=Tryz.isAgg0
 z0:=Tryz.sizeOf0
 v0:=Tryz.zeroValue0
 t3:=Tryz.underlying3
 a3:=Tryz.isAgg3
 z3:=Tryz.sizeOf3
 v3:=Tryz.zeroValue3
 t4:=Tryz.underlying4
 a4:=Tryz.isAgg4
 z4:=Tryz.sizeOf4
 v4:=Tryz.zeroValue4
 t5:=Tryz.underlying5
 a5:=Tryz.isAgg5
 z5:=Tryz.sizeOf5
 v5:=Tryz.zeroValue5
 t9:=Tryz.underlying9
 a9:=Tryz.isAgg9
 z9:=Tryz.sizeOf9
 v9:=Tryz.zeroValue9
 t31:=Tryz.underlying58
 a31:=Tryz.isAgg58
 z31:=Tryz.sizeOf58
 v31:=Tryz.zeroValue58
 t46:=Tryz.underlying237
 a46:=Tryz.isAgg237
 z46:=Tryz.sizeOf237
 v46:=Tryz.zeroValue237
 t51:=Tryz.underlying174
 a51:=Tryz.isAgg174
 z51:=Tryz.sizeOf174
 v51:=Tryz.zeroValue174
 t53:=Tryz.underlying236
 a53:=Tryz.isAgg236
 z53:=Tryz.sizeOf236
 v53:=Tryz.zeroValue236
 t131:=Tryz.underlying302
 a131:=Tryz.isAgg302
 z131:=Tryz.sizeOf302
 v131:=Tryz.zeroValue302
 t182:=Tryz.underlying330
 a182:=Tryz.isAgg330
 z182:=Tryz.sizeOf330
 v182:=Tryz.zeroValue330
 t183:=Tryz.underlying331
 a183:=Tryz.isAgg331
 z183:=Tryz.sizeOf331
 v183:=Tryz.zeroValue331
 t218:=Tryz.underlying355
 a218:=Tryz.isAgg355
 z218:=Tryz.sizeOf355
 v218:=Tryz.zeroValue355
 t222:=Tryz.underlying197
 a222:=Tryz.isAgg197
 z222:=Tryz.sizeOf197
 v222:=Tryz.zeroValue197
 t228:=Tryz.underlying368
 a228:=Tryz.isAgg368
 z228:=Tryz.sizeOf368
 v228:=Tryz.zeroValue368
 t229:=Tryz.underlying211
 a229:=Tryz.isAgg211
 z229:=Tryz.sizeOf211
 v229:=Tryz.zeroValue211 }
open Go.Sort Go.RowKit in
theorem Tryz.slices_Sort_string (blk off cap:Nat)(ss:List (List UInt8))(w:World)(hH:Holds encStr w blk off ss.toArray)(hblk:blk<w.heap.size)(hsz:ss.length<4611686018427387904) :
 Calls Tryz.prog 132 #[.slice (some ⟨blk,off,none⟩) ss.length cap] w λe w'=>
  e=.returned (.tuple #[])/\∃n os,w'=grow (putRow encStr (Sort.ahead w n) blk off (ss.mergeSort λx y=>decide (x<=y)).toArray) os:=Any.slices_Sort_string Tryz.lays190 blk off cap ss w hH hblk hsz
open Go.RowKit Go.Sort in
theorem Tryz.slices_Sort_string_none (p:Option Addr)(cap:Nat)(w:World) :
 Calls Tryz.prog 132 #[.slice p 0 cap] w λe w'=>e=.returned (.tuple #[])/\w'=w:=Any.slices_Sort_string_none Tryz.lays190 p cap w
end Go.Proofs
namespace Go.Proofs.YtiooodckiddpmaaGreatDoor
open Go.Vc Go.Sp
attribute [local irreducible] W XW Dw Gm
theorem keys_in (mb:Option Nat)(W:World):CallsIn Fence.wide 5 Tryz.prog 67 #[.map mb] W λe w'=>e=.returned (.func (.func 133) #[] #[.pointer (some ⟨W.heap.size,0,none⟩)])/\w'=W.alloc (.cells #[.map mb] 120):=
 AnyZ.keys_in Tryz.keys67 Fence.wide 5 trivial rfl mb W
theorem Xzt (m:Nat):AnyZ.SortsIn Tryz.prog Tryz.sorted66_ren Fence.wide m:=
 ⟨λblk off cap ss W J r z=>callsIn_wide.2 (Tryz.slices_Sort_string blk off cap ss W J r z),λp cap W=>callsIn_wide.2 (Tryz.slices_Sort_string_none p cap W)⟩
theorem Xpm {H:Type}(b nn:Nat)(D0:DataW H)(R:Value->Option (DataW H×List MemPlace))(w:World)(hown:w.ownsMap Tryz.prog 9 R b nn D0)(hmax:Maps.size D0<=maxLen)(hbytes:Maps.size D0*16<=140737488355328) :
  CallsIn Fence.wide 5 Tryz.prog 66 #[.func (.func 133) #[] #[.pointer (some ⟨w.heap.size,0,none⟩)]] (w.alloc (.cells #[.map (some b)] 120)) λe w'=>∃(v:Value) (ss:List (List UInt8)),e=.returned v/\ss.Perm (strKeys D0)/\
   w'.ownsRow (w.alloc (.cells #[.map (some b)] 120)).heap.size 9 1 v ss.length ((ss.mergeSort (λx y=>decide (x<=y))).map encStr)/\(v=.slice none 0 0↔ss=[])/\Go.RowKit.Below (w.alloc (.cells #[.map (some b)] 120)).heap.size (w.alloc (.cells #[.map (some b)] 120)) w':=by
 have J:=hown.lt;have z:SeqGives Fence.wide 2 Tryz.prog 133 #[.pointer (some ⟨w.heap.size,0,none⟩)] encStr (λss=>ss.Perm (strKeys D0)) (Maps.size D0) (w.alloc (.cells #[.map (some b)] 120)):=
  AnyZ.keys_gives (ρ:=Tryz.keys67_ren) { Tryz.keys67 with } Fence.wide _ trivial rfl EA w.heap.size b nn D0 _ EQ EQ (by
   obtain⟨es,r,Y,Z,hs,O⟩:=hown;exact⟨es,r,(Go.RowKit.Below.heap_alloc _ _ b J).trans Y,Z,hs,O⟩)
 exact AnyZ.sorted_in Tryz.sorted66 Fence.wide 5 trivial trivial trivial trivial rfl EA (Xzt _) (enters_of Tryz.func132 E9 rfl) 133 #[.pointer (some ⟨w.heap.size,0,none⟩)] trivial (enters_of Tryz.func133 E9 rfl) _ _ hmax hbytes _ z
theorem Xvv {α:Type}{av:α->Value}{w:World}{b:Nat}{l:List (EC×α)}(h:F9 Tryz.prog 9 S av w b l)(hl:∀p∈l,p.1.length<=maxLen):∃D:DataW α,w.ownsMap Tryz.prog 9 (rdBy av) b l.length D/\Maps.size D=l.length/\(l.map (·.1)).Perm (strKeys D):=by
 obtain⟨h0,D,h1,h2,h3⟩:=h;have hk:Tryz.prog.underlying 9=some .string:=by kernel_rfl
 have K:=Go.Maps.string_keyed hk;refine⟨D,h1,h2,?_⟩;obtain⟨es,hD,ha,_⟩:=h1.entries K;obtain⟨hb,Z,O⟩:=h1.keysOf;obtain rfl:es=hb:=by rw[hD]at Z;simpa using Z
 subst hD;refine perm_strKeys ha (λp r=>by obtain⟨v,hv⟩:=O p r;obtain⟨x,_,Y,_⟩:=Maps.keyOf_str hk hv;exact⟨x,Y⟩) h0 (λx=>?_)
 by_cases Y:x.length<=maxLen
 ·have J:keyOf Tryz.prog 9 (S x)=some (.string x):=WideMaps.keyOf_string_mk hk (s:=⟨⟨x⟩⟩) Y
  cases e:lk l x with
  | none=>
   have:=Maps.has_false_of_atKey (D:=.map es) (k:=.string x) λz=>by rw[h3 x _ J z,e];rfl
   rw[this];exact⟨λhm=>absurd hm (L8.1 e),λhm=>by cases hm⟩
  | some a=>
   have:=Maps.has_true_of_atKey (D:=.map es) (k:=.string x) (y:=.held a) λz=>by rw[h3 x _ J z,e];rfl
   rw[this];exact⟨λ_=>rfl,λ_=>Ar.2 ⟨_,Ox e,rfl⟩⟩
 ·constructor
  ·intro hm;obtain⟨p,r,rfl⟩:=Ar.1 hm;exact absurd (hl p r) Y
  ·intro hm;have h5:x∈strKeys (.map es:DataW α):=by
    unfold Go.Maps.has at hm;show x∈es.map λp=>strOf p.1;obtain⟨p,r,hs⟩:=List.any_eq_true.1 hm;obtain⟨y,hy⟩:∃y,p.1=.string y:=by obtain⟨v,hv⟩:=O p r;obtain⟨y,_,hy,_⟩:=Maps.keyOf_str hk hv;exact⟨y,hy⟩
    refine Ar.2 ⟨p,r,?_⟩;rw[hy]at hs ⊢;simpa [Lit.sameKey,strOf]using hs
   exact absurd (strKeys_le h1 hk x h5) Y
theorem X9e (mf:Nat)(w:World):Calls Tryz.prog 67 [.map (some mf)].toArray w (ER w (λu w'=>u=I1 133 [ED w.heap.size 0]/\w'=w.alloc (.cells #[.map (some mf)] 120))):=by
 refine(callsIn_wide.1 (keys_in (some mf) w)).mono ?_;rintro e w' ⟨rfl,rfl⟩;exact⟨_,rfl,EB.alloc _ _,rfl,rfl⟩
theorem Xvw (mf:Nat)(l:List (EC×Option Nat))(w:World)(h:F9 Tryz.prog 9 S pO w mf l)(hl:∀p∈l,p.1.length<=maxLen)(hn:l.length<=1000000) :
  Calls Tryz.prog 66 [I1 133 [ED w.heap.size 0]].toArray (w.alloc (.cells #[.map (some mf)] 120)) (ER (w.alloc (.cells #[.map (some mf)] 120)) (λu w'=>Vc.Own FT 1 9 w.heap.size w' u ((l.map (·.1)).mergeSort (λx y=>decide (x<=y))))):=by
 obtain⟨D,h1,h2,h3⟩:=Xvv h hl;refine(callsIn_wide.1 (Xpm mf l.length D (rdBy pO) w h1 (by rw[h2];unfold maxLen;omega) (by rw[h2];omega))).mono ?_;rintro e w' ⟨v,ss,rfl,hS,hrow,_,hb⟩;refine⟨v,rfl,EB.of_below hb,⟨?_⟩⟩;have e1:ss.mergeSort (λx y=>decide (x<=y))=(l.map (·.1)).mergeSort (λx y=>decide (x<=y)):=mergeSort_of_perm (hS.trans h3.symm);rw[e1]at hrow;have e2:ss.length=((l.map (·.1)).mergeSort (λx y=>decide (x<=y))).length:=by rw[<-e1,Ec]
 have z:((l.map (·.1)).mergeSort (λx y=>decide (x<=y))).flatMap FT=((l.map (·.1)).mergeSort (λx y=>decide (x<=y))).map encStr:=by
  generalize (l.map (·.1)).mergeSort (λx y=>decide (x<=y))=q
  induction q with
  | nil=>rfl
  | cons a r ih=>rw[AD,Aq,ih];rfl
 rw[z,<-e2];exact ownsRow_base_a hrow EQ
theorem Io (F:Nat->Prop)(bd:Nat)(D:Dsk)(w:World)(h:FV F bd D w) :
  Calls Tryz.prog 28 [ED bd 0].toArray w (ER w (λu w'=>Vc.Own FT 1 9 w.heap.size w' u D.names)):=by
 refine cw Tryz.func28 ?_;have r:=EB.refl w;obtain⟨mf,es,z⟩:=h;have hd:=z.m;have hM:=z.map;refine ws λ_ Z1=>wr (da (de Z1 (ws λ_ Z2=>ws λ_ Z=>wr (dm ?_))));refine dp (Gj E9 rfl rfl) (de Z (wi (λO=>?_) λO=>?_))
 ·exact absurd O EQ
 refine EG (Z2 _ _ (ws λ_ Z4=>wr (dm ?_)));refine dz rfl (df 1 rfl (dl rfl ((hd.ext r).at rfl) (cG (X9e mf _) RX.all λu1 w1 Y J=>?_)));have hsz1:=r.size;have r:=r.trans Y;obtain⟨rfl,rfl⟩:=J;refine cG (Xvw mf (es.map Fm.kv) _ hM (λp hp=>by obtain⟨e,he,rfl⟩:=Ar.1 hp;have:=(z.name he).2;unfold maxLen;simp only;omega) (by have:=z.len;rw[An];omega)) RX.all λu2 w2 x2 hO=>?_;have hsz2:=r.size;have r:=r.trans x2;refine da (de Z4 (EH ?_));refine ro ?_;refine⟨_,rfl,r,?_⟩;rw[show D.names=((es.map Fm.kv).map (·.1)).mergeSort (λx y=>decide (x<=y)) by unfold Dsk.names;rw[z.fs,Be,Be];rfl];exact hO
theorem Xly {a b:EC}(h:(⟨⟨a⟩⟩:ByteArray)=⟨⟨b⟩⟩):a=b:=by simpa using h
theorem Xe (l:List EC)(s:EC)(v:Value)(w:World)(hv:EM FT 1 w v l)(hl:l.length<=1000000):Calls Tryz.prog 130 [v,S s].toArray w (Vc.Pure w (B (decide (s∈l)))):=by
 have none:l.length=0->∀a c,v=.slice a 0 c->Calls Tryz.prog 130 [v,S s].toArray w (Vc.Pure w (B (decide (s∈l)))):=by
  intro h0 a c e;have hn:l=[]:=List.eq_nil_of_length_eq_zero h0;subst hn;subst e;refine(Tryz.slices_Contains_string_empty a c ⟨⟨s⟩⟩ w).mono ?_;rintro e w' ⟨rfl,rfl⟩;exact⟨by simp,EB.refl _⟩
 rcases hv.sl with⟨e,h0⟩|⟨b,o,c,e,hc⟩|⟨h0,a,c,e⟩
 ·exact none h0 _ _ e
 ·subst e;refine(Tryz.slices_Contains_string b o l.length c (l.map λx=>(⟨⟨x⟩⟩:ByteArray)) ⟨⟨s⟩⟩ w EQ EA (λj r=>?_)).mono ?_
  ·rw[An]at r;have:=(hv.row (Av r)) 0 _ rfl;simpa [base,List.getD,Av r]using this
  ·rintro e w' ⟨rfl,rfl⟩;refine⟨?_,EB.refl _⟩
   congr 2
   rw[De,Lib.containsS_iff,Ax EQ,decide_eq_true_eq,Ar];exact⟨λ⟨x,hx,e⟩=>Xly e▸hx,λh=>⟨s,h,rfl⟩⟩
 ·exact none h0 _ _ e
theorem Uh (D:Dsk)(s:EC):decide (s∈D.names)=D.has s:=by
 rw[De,decide_eq_true_eq];unfold Dsk.names Dsk.has;rw[(List.mergeSort_perm _ _).mem_iff]
 cases e:lk D.fs s with
 | none=>exact⟨λh=>absurd h (L8.1 e),λh=>by cases h⟩
 | some f=>exact⟨λ_=>rfl,λ_=>Ar.2 ⟨_,Ox e,rfl⟩⟩
theorem Vq {D:Dsk}(h:D.Wf):D.names.length<=1000000:=by
 unfold Dsk.names;rw[Ec,An];have:=h.cnt;omega
theorem WA {s:EC}{r:List EC}{D:Dsk}(h:D.has s=false):Dsk.rems (s :: r) D=Dsk.rems r D:=by rw[Dsk.rems.eq_def];simp [h]
theorem Xzu {s:EC}{r:List EC}{D:Dsk}(h:D.has s=true)(h2:(D.rem [s]).1≠0):Dsk.rems (s :: r) D=D.rem [s]:=by rw[Dsk.rems.eq_def];simp [h,h2]
theorem X5l {s:EC}{r:List EC}{D:Dsk}(h:D.has s=true)(h2:(D.rem [s]).1=0):Dsk.rems (s :: r) D=Dsk.rems r (D.rem [s]).2:=by rw[Dsk.rems.eq_def];simp [h,h2]
theorem I7 (F:Nat->Prop)(bd:Nat)(D:Dsk)(s:EC)(w:World)(h:FV F bd D w) :
  Calls Tryz.prog 189 [ED bd 0,S s].toArray w (Pure w (B (D.has s))):=by
 refine cw Tryz.func189 ?_;have r:=EB.refl w;refine ws λ_ Z=>wr (da (de Z (ws λ_ z=>wr (dm ?_))));refine cG (Io F bd D _ (h.ext r)) RX.all λu1 w1 J O=>?_;have hsz1:=r.size;have r:=r.trans J;refine dm ?_;refine cP (Xe D.names s _ _ (O.arr EE) (Vq h.wf)) RX.all λw2 Y=>?_;have r:=r.trans Y;refine da (de z (EH ?_));refine ro ?_;exact⟨by rw[Uh],r⟩
theorem Hc (F:Nat->Prop)(bd:Nat)(D:Dsk)(l:List EC)(v:Value)(w:World)(h:FV F bd D w)(hv:EM FT 1 w v l)(hl:l.length<=100000)(hdv:l≠[]->¬ F (base v).1) :
  Calls Tryz.prog 178 [ED bd 0,v].toArray w (Fh F w (λu w'=>u=I (Dsk.rems l D).1/\FV (G2 F w w') bd ((Dsk.rems l D).2) w')):=by
 refine cw Tryz.func178 ?_;have r:=Vc.Mod.refl F w;have Y:=h.lt;refine ws λ_ Z1=>wr (da (de Z1 (ws λ_ Z2=>ws λ_ Z3=>wr (dm ?_))));refine dv 9 1 (hv.mod r hdv).sl (dm (de Z3 (EN ?_)));refine Fk (G:=Nat×(Nat->Prop)×Dsk) (λ(k,Z,J)=>[(0,ED bd 0),(8,v),(9,I ↑l.length),(10,I ↑k)]) (λ(k,Z,J) w'=>Mod F w w'/\k<=l.length/\FV Z bd J w'/\(∀i,Z i->F i\/w.heap.size<=i)/\Dsk.rems l D=Dsk.rems (l.drop k) J) (λ(k,Z,J)=>l.length-k) (0,F,D) ?_ ?_ ?_
 ·exact FU
 ·exact⟨r,Ad _,h,λ_ h=>.inl h,rfl⟩
 intro X1 g1 w1 hq;obtain⟨k,Z,J⟩:=g1;clear r;obtain⟨r,hk1,hA,z,O⟩:=hq;have hszk:=r.size;refine ws λ_ Z4=>wr (dp (Fa rfl rfl) (de Z4 (ws λ_ Z5=>wi (λc1=>?_) λc1=>?_)))
 ·obtain⟨s,hk⟩:∃s,l[k]?=some s:=Fq;have ha:=HY hk;refine EG (Z5 _ _ (ws λ_ Z6=>EN (ws λ_ Z7=>wr (di 9 1 (hv.mod r hdv).sl rfl ((hv.mod r hdv).lt hk) (dl rfl (((hv.mod r hdv).row hk).at0 rfl) (da (de Z7 (ws λ_ Z8=>ws λ_ Z9=>wr (dm (dm ?_))))))))));refine cP (I7 Z bd J s _ hA) RX.all λw2 x2=>?_;have hA:=hA.ext x2;have r:=r.ext x2;refine dn (de Z9 ?_);refine wc (λc2=>?_) λc2=>?_
  ·refine Ff (Z6 _ _ (wr (pa rfl rfl (dm (EF (?_))))));refine⟨(k+1,Z,J),FU,⟨r,by omega,hA,z,?_⟩,by simp only [];omega⟩;rw[O,ha,WA (by simpa using c2)]
  have hh:J.has s=true:=by simpa using c2
  refine EG (Z8 _ _ (ws λ_ hp=>wr ?_));have hj:=hA
  iterate 2 refine dm ?_
  refine li (e:=9) (sz:=1) (zs:=[S []]) (pv:=[(0,_)]) (cs:=[_]) RX.all (λb1 w3 e1 x3 m1=>?_);have g1:=r.ge e1;have hA:=hA.ext x3;have r:=r.ext x3;refine cD (P5 Z bd J [s] _ _ hA (Lx m1) EQ (λ_=>NN hj (Cd e1.symm))) (.inl rfl) λu4 w4 x4 hg=>?_;have hsz4:=r.size;have r:=r.own x4 (λi hi hlt=>(z i hi).resolve_right EA);obtain⟨rfl,hA⟩:=hg;refine da (de hp (ws λ_ hc=>wr (dm ?_)));refine dp (F8 rfl rfl) (de hc (wi (λc3=>?_) λc3=>?_))
  ·refine ws λ_ hb=>wr (dm (da (de hb (EH ?_))));refine ro ?_;refine⟨_,rfl,r,?_⟩;rw[O,ha,Xzu hh c3];exact⟨rfl,hA.to (λi hi=>hi.elim (z i) (λh9=>.inr EA)) (λk hk=>A0 (Y k hk) r.size)⟩
  refine EG (Z6 _ _ (wr (pa rfl rfl (dm (EF (?_))))));refine⟨(k+1,_,(J.rem [s]).2),FU,⟨r,by omega,hA,λi hi=>hi.elim (z i) (λh9=>.inr EA),?_⟩,by simp only [];omega⟩;rw[O,ha,X5l hh (AI c3)]
 refine Ff (Z2 _ _ (ws λ_ hf=>wr (da (de hf (EH ?_)))));refine ro ?_;refine⟨_,rfl,r,?_⟩;rw[O,BH EA];exact⟨rfl,hA.to z (λk hk=>A0 (Y k hk) r.size)⟩
@[reducible] def K6 (v:Value):List Value:=[v]
@[reducible] def nz (l:EC) (v:Value) (k:Nat):Prop:=l≠[]/\k=(base v).1
@[reducible] def KD (vd:Value) (vs:List (Value×EC)) (data:EC) (k:Nat):Prop:=nz data vd k\/∃q∈vs,nz q.2 q.1 k
structure LedE (G:Nat->Prop)(bl bd:Nat)(vd ve:Value)(vs:List (Value×EC))(L:Led)(w:World):Prop where
 m:EL w bl [ED bd 0,S [115],I L.base,vd,ve,B L.dead] 147
 d:EM EP 1 w vd L.data
 e:Vc.Own K6 1 82 0 w ve (vs.map (·.1))
 es:vs.map (·.2)=L.ents
 el:∀q∈vs,EM EP 1 w q.1 q.2
 inG:∀k,(k=bl\/ve.ownBlock=some k\/KD vd vs L.data k)->G k
 sep:∀k,KD vd vs L.data k->k≠bl/\ve.ownBlock≠some k
 lt:∀k,G k->k<w.heap.size
 b0:0<=L.base
 b1:L.base<=1099511627776
 dl:L.data.length<=524288
 pl:∀p∈L.ents,p.length<=65536
 la:L.last<=1099511627776
section
variable {G Sx:Nat->Prop}{bl bd:Nat}{vd ve:Value}{vs:List (Value×EC)}{L:Led}{w w':World}
theorem LedE.mod (h:LedE G bl bd vd ve vs L w)(m:Vc.Mod Sx w w')(hS:∀k,G k->¬ Sx k):LedE G bl bd vd ve vs L w':=
 ⟨h.m.mod m (hS _ (h.inG _ (.inl rfl))),h.d.mod m (λr=>hS _ (h.inG _ (.inr (.inr (.inl ⟨r,rfl⟩))))),h.e.mod m (λk hk=>hS _ (h.inG _ (.inr (.inl hk)))),h.es,λq z=>(h.el q z).mod m (λr=>hS _ (h.inG _ (.inr (.inr (.inr ⟨q,z,r,rfl⟩))))),
  h.inG,h.sep,λk hk=>A0 (h.lt k hk) m.size,h.b0,h.b1,h.dl,h.pl,h.la⟩
theorem LedE.ext (h:LedE G bl bd vd ve vs L w)(m:EB w w'):LedE G bl bd vd ve vs L w':=h.mod m (λ_ _ h=>h)
theorem LedE.len (h:LedE G bl bd vd ve vs L w):vs.length=L.ents.length:=by rw[<-h.es,An]
theorem LedE.lenB (h:LedE G bl bd vd ve vs L w):L.ents.length<=1099511627776:=by have h1:=h.la;have h2:=h.b0;unfold Led.last at h1;omega
theorem LedE.earr (h:LedE G bl bd vd ve vs L w):EM K6 1 w ve (vs.map (·.1)):=h.e.arr EE
theorem LedE.head {L':Led}(h:LedE G bl bd vd ve vs L w)(m:Vc.Mod (ES bl) w w')(hm:EL w' bl [ED bd 0,S [115],I L'.base,vd,ve,B L'.dead] 147)(hb:L'.base=L.base)(hd:L'.data=L.data)(he:L'.ents=L.ents):LedE G bl bd vd ve vs L' w':=by
 have r:=h.e.ne_blk h.m rfl;refine⟨hm,by rw[hd];exact h.d.mod m (λz e=>(h.sep _ (.inl ⟨z,rfl⟩)).1 e),h.e.mod m (λk hk e=>r (by have e2:k=bl:=e;rw[hk,e2])),h.es.trans he.symm,λq J=>(h.el q J).mod m (λz e=>(h.sep _ (.inr ⟨q,J,z,rfl⟩)).1 e),
  by rw[hd];exact h.inG,by rw[hd];exact h.sep,λk hk=>A0 (h.lt k hk) m.size,hb▸h.b0,hb▸h.b1,hd▸h.dl,he▸h.pl,by unfold Led.last;rw[hb,he];exact h.la⟩
end
def LD (H:Nat->Prop)(bl bd:Nat)(L:Led)(D:Dsk)(w:World):Prop:=∃(F G:Nat->Prop) (vd ve:Value) (vs:List (Value×EC)),FV F bd D w/\LedE G bl bd vd ve vs L w/\(∀k,F k->¬ G k)/\(∀k,F k\/G k->H k)/\∀k,H k->k<w.heap.size
theorem LD.mod {H Sx:Nat->Prop}{bl bd:Nat}{L:Led}{D:Dsk}{w w':World}(h:LD H bl bd L D w)(m:Vc.Mod Sx w w')(hS:∀k,H k->¬ Sx k):LD H bl bd L D w':=by
 obtain⟨F,G,vd,ve,vs,h1,h2,h3,h4,r⟩:=h;exact⟨F,G,vd,ve,vs,h1.mod m (λk hk=>hS k (h4 k (.inl hk))),h2.mod m (λk hk=>hS k (h4 k (.inr hk))),h3,h4,λk hk=>A0 (r k hk) m.size⟩
theorem LD.ext {H:Nat->Prop}{bl bd:Nat}{L:Led}{D:Dsk}{w w':World}(h:LD H bl bd L D w)(m:EB w w'):LD H bl bd L D w':=h.mod m (λ_ _ h=>h)
theorem LD.lt {H:Nat->Prop}{bl bd:Nat}{L:Led}{D:Dsk}{w:World}(h:LD H bl bd L D w):∀k,H k->k<w.heap.size:=by obtain⟨_,_,_,_,_,_,_,_,_,r⟩:=h;exact r
theorem LD.wide {H H':Nat->Prop}{bl bd:Nat}{L:Led}{D:Dsk}{w:World}(h:LD H bl bd L D w)(hG:∀k,H k->H' k)(hl:∀k,H' k->k<w.heap.size):LD H' bl bd L D w:=by
 obtain⟨F,G,vd,ve,vs,h1,h2,h3,h4,h5⟩:=h;exact⟨F,G,vd,ve,vs,h1,h2,h3,λk hk=>hG k (h4 k hk),hl⟩
theorem LD.grow {H:Nat->Prop}{bl bd:Nat}{L:Led}{D:Dsk}{w w':World}(h:LD H bl bd L D w)(x:EB w w'):LD (G2 H w w') bl bd L D w':=(h.ext x).wide (λ_ h=>.inl h) (HV h.lt x.size)
theorem Gl (G:Nat->Prop)(bl bd:Nat)(vd ve:Value)(vs:List (Value×EC))(L:Led)(w:World)(h:LedE G bl bd vd ve vs L w) :
  Calls Tryz.prog 177 [ED bl 0].toArray w (Pure w (S Led.img)):=by
 refine cw Tryz.func177 ?_;have r:=EB.refl w;have J:=h.m;refine ws λ_ O=>wr (da (de O (ws λ_ z=>wr (dm ?_))));refine dz rfl (df 1 rfl (dl rfl ((J.ext r).at rfl) (dp (Ji rfl rfl (by simp;done)) (da (de z (EH ?_))))));refine ro ?_;exact⟨rfl,r⟩
theorem FN (G:Nat->Prop)(bl bd:Nat)(vd ve:Value)(vs:List (Value×EC))(L:Led)(w:World)(h:LedE G bl bd vd ve vs L w) :
  Calls Tryz.prog 84 [ED bl 0].toArray w (Pure w (S Led.logn)):=by
 refine cw Tryz.func84 ?_;have r:=EB.refl w;have J:=h.m;refine ws λ_ O=>wr (da (de O (ws λ_ z=>wr (dm ?_))));refine dz rfl (df 1 rfl (dl rfl ((J.ext r).at rfl) (dp (Ji rfl rfl (by simp;done)) (da (de z (EH ?_))))));refine ro ?_;exact⟨rfl,r⟩
theorem G3 (G:Nat->Prop)(bl bd:Nat)(vd ve:Value)(vs:List (Value×EC))(L:Led)(w:World)(h:LedE G bl bd vd ve vs L w) :
  Calls Tryz.prog 55 [ED bl 0].toArray w (Pure w (I L.last)):=by
 refine cw Tryz.func55 ?_;have r:=EB.refl w;have Z:=h.m;have hlb:=h.lenB;have hb1:=h.b1;have hb0:=h.b0;have O:=h.len;refine ws λ_ Z1=>wr (da (de Z1 (ws λ_ Z2=>ws λ_ Z3=>wr (dm ?_))));refine dp (Gj E9 rfl rfl) (de Z3 (wi (λY=>?_) λY=>?_))
 ·exact absurd Y EQ
 refine EG (Z2 _ _ (ws λ_ Z4=>F4 (R:=EB) EB.refl (λ_ _ _=>EB.trans) E9 [3,7] [(0,.p,false),(1,.p,false),(2,.p,false),(3,.l,false),(4,.p,false),(5,.p,false),(6,.p,false),(7,.l,false),(8,.p,false),(9,.p,false),(10,.p,false)] rfl E9 E9 (λw1 z=>?_)));have x1:=EJ z;clear z;have r:=r.trans x1;refine dm ?_;refine dz rfl (df 2 rfl (dL rfl (λ_ J=>((Z.ext (r.trans J)).at rfl)) (dm ?_)));refine dz rfl (df 4 rfl (dL rfl (λ_ J=>((Z.ext (r.trans J)).at rfl)) (dv 82 1 (h.earr.ext r).sl (dp (Gx rfl rfl (by unfold ET;simp;omega)) (da (de Z4 (EH ?_)))))));refine ro ?_;exact⟨by unfold Led.last;rw[<-O];simp,r⟩
theorem X5m (G:Nat->Prop)(bl bd:Nat)(vd ve:Value)(vs:List (Value×EC))(L:Led)(w:World)(h:LedE G bl bd vd ve vs L w) :
  Calls Tryz.prog 60 [ED bl 0].toArray w (ER w (λu w'=>∃v,u=.tuple #[I L.base,v]/\Vc.Own EP 1 5 w.heap.size w' v L.data)):=by
 refine cw Tryz.func60 ?_;have r:=EB.refl w;have Y:=h.m;have hdl:=h.dl;refine ws λ_ Z1=>wr (da (da (de Z1 (ws λ_ Z2=>ws λ_ Z3=>wr (dm ?_)))));refine dp (Gj E9 rfl rfl) (de Z3 (wi (λO=>?_) λO=>?_))
 ·exact absurd O EQ
 refine EG (Z2 _ _ (ws λ_ Z4=>F4 (R:=EB) EB.refl (λ_ _ _=>EB.trans) E9 [3,7] [(0,.p,false),(1,.p,false),(2,.p,false),(3,.l,false),(4,.p,false),(5,.p,false),(6,.p,false),(7,.l,false),(8,.x,false),(9,.p,false),(10,.p,false)] rfl E9 E9 (λw1 z=>?_)));have Z:=EJ z;clear z;have r:=r.trans Z;refine dm ?_;refine dz rfl (df 2 rfl (dL rfl (λ_ J=>((Y.ext (r.trans J)).at rfl)) (dm ?_)));refine dz rfl (df 3 rfl (dL rfl (λ_ J=>((Y.ext (r.trans J)).at rfl)) (cG (Lp L.data vd _ (h.d.ext r) EA) RX.ext λu2 w2 x2 hO=>?_)));have hsz2:=r.size;have r:=r.trans x2;refine da (da (de Z4 (EH ?_)));refine rt ?_;exact⟨_,rfl,r,_,rfl,hO.mono EA⟩
theorem VY (G:Nat->Prop)(bl bd:Nat)(vd ve:Value)(vs:List (Value×EC))(L:Led)(e:Int)(w:World)(h:LedE G bl bd vd ve vs L w) :
  Calls Tryz.prog 86 [ED bl 0,I e].toArray w (Fh (ES bl) w (λu w'=>u=I e/\LedE G bl bd vd ve vs { L with dead:=L.dead || decide (e≠0) } w')):=by
 refine cw Tryz.func86 ?_;have r:=EB.refl w;have z:=h.m;refine ws λ_ Z1=>wr (da (de Z1 (ws λ_ O=>wr (dm (dm ?_)))));refine dz rfl (df 5 rfl (dl rfl ((z.ext r).at rfl) (dm ?_)));refine I8 10 rfl (λJ=>?_) (λJ=>?_)
 ·refine dk (dk (EO ?_));refine dz rfl (df 5 rfl (G5 (z.ext r) (λw1 Y xs1 z=>?_)));dsimp only [Fe,Ag,Af,Ai]at z;have r:=(r.mod Y).mono (λi hi _=>(hi:(ES bl) i));refine de O (ws λ_ Z=>wr (dm (da (de Z (EH ?_)))));refine ro ?_;refine⟨_,rfl,r,rfl,h.head r ?_ rfl rfl rfl⟩;simpa [J]using z
 refine dm ?_;refine dp (F8 rfl rfl) (EO ?_);refine dz rfl (df 5 rfl (G5 (z.ext r) (λw2 x2 xs2 z=>?_)));dsimp only [Fe,Ag,Af,Ai]at z;have r:=(r.mod x2).mono (λi hi _=>(hi:(ES bl) i));refine de O (ws λ_ Z4=>wr (dm (da (de Z4 (EH ?_)))));refine ro ?_;refine⟨_,rfl,r,rfl,h.head r ?_ rfl rfl rfl⟩;simpa [J]using z
@[reducible] def Lu (q:Value×EC):List Value:=[q.1]
structure RsE (B:Nat)(qs:List (Value×EC))(w:World):Prop where
 row:∀q∈qs,Vc.Own EP 1 5 B w q.1 q.2
section
variable {B B':Nat}{qs:List (Value×EC)}{S:Nat->Prop}{w w':World}
theorem RsE.ext (h:RsE B qs w)(x:EB w w'):RsE B qs w':=⟨λq r=>(h.row q r).ext x⟩
theorem RsE.mod (h:RsE B qs w)(m:Vc.Mod S w w')(hS:∀q∈qs,∀k,q.1.ownBlock=some k->¬ S k):RsE B qs w':=⟨λq r=>(h.row q r).mod m (hS q r)⟩
theorem RsE.ne {α:Type}{enc:α->List Value}{sz T:Nat}{v:Value}{l:List α}(h:RsE B qs w)(ho:Vc.Own enc sz T B' w v l)(hT:Nat.beq 5 T=false):∀q∈qs,∀k,q.1.ownBlock=some k->¬ v.ownBlock=some k:=λq r k hk=>(h.row q r).ne ho hT hk
theorem RsE.snoc {v:Value}{l:EC}(h:RsE B qs w)(ho:Vc.Own EP 1 5 B w v l):RsE B (qs++[(v,l)]) w:=⟨λq r=>(Ay.1 r).elim (h.row q) (λe=>by rw[Ah.1 e];exact ho)⟩
theorem RsE.lt (h:RsE B qs w):∀q∈qs,∀k,q.1.ownBlock=some k->B<=k/\k<w.heap.size:=λq r k hk=>(h.row q r).lt k hk
end
section
variable {ps:List EC}{k:Nat}{p:EC}
theorem Vh (ps:List EC)(k:Nat):ps.flatMap EI=(ps.take k).flatMap EI++(ps.drop k).flatMap EI:=by rw[<-Bb,List.take_append_drop]
theorem WJ (h:ps[k]?=some p):((ps.take (k+1)).flatMap EI).length=((ps.take k).flatMap EI).length+(p.length+12):=by
 rw[Gs h,Bb,Ab];simp [Jz]
theorem Xvx (ps:List EC)(k:Nat):(ps.flatMap EI).drop ((ps.take k).flatMap EI).length=(ps.drop k).flatMap EI:=by
 rw[Vh ps k,List.drop_left]
theorem X5n (ps:List EC)(k:Nat):((ps.take k).flatMap EI).length<=(ps.flatMap EI).length:=by
 rw[Vh ps k,Ab];omega
theorem X5o (h:((ps.take k).flatMap EI).length<(ps.flatMap EI).length):k<ps.length:=AL λhn=>by
 rw[Ax EA]at h;omega
theorem X5p (h:¬ ((ps.take k).flatMap EI).length<(ps.flatMap EI).length)(hk:k<=ps.length):k=ps.length:=AL λhn=>by
 have h1:ps[k]?=some ps[k]:=Av EA;have h2:=WJ h1;have h3:=X5n ps (k+1);omega
end
theorem X5q (ps:List EC)(v:Value)(w:World)(hv:EM EP 1 w v (ps.flatMap EI))(hp:∀p∈ps,p.length<=1048576)(hbl:(ps.flatMap EI).length<=2001000020)(hpl:ps.length<=1000000) :
  Calls Tryz.prog 191 [v].toArray w (ER w (λu w'=>∃vr qs,u=.tuple #[vr,I ↑(ps.flatMap EI).length]/\qs.map (·.2)=ps/\Vc.Own Lu 1 82 w.heap.size w' vr qs/\RsE w.heap.size qs w')):=by
 refine cw Tryz.func191 ?_;have J:=EB.refl w;refine ws λ_ Z1=>wr (da (da (de Z1 (ws λ_ Z2=>wr (da (de Z2 (ws λ_ Z3=>wr (da (de Z3 (ws λ_ Z4=>EN ?_))))))))));refine Fk (G:=Nat×List (Value×EC)×Value) (λ(k,qs,vr)=>[(0,v),(2,.slice none 0 0),(3,I 0),(4,vr),(5,I ↑((ps.take k).flatMap EI).length)]) (λ(k,qs,vr) w'=>EB w w'/\k<=ps.length/\qs.map (·.2)=ps.take k/\Vc.Own Lu 1 82 w.heap.size w' vr qs/\RsE w.heap.size qs w') (λ(k,qs,vr)=>ps.length-k) (0,[],.slice none 0 0) ?_ ?_ ?_
 ·exact FA
 ·exact⟨J,Ad _,rfl,Vc.Own.nil,⟨λq hq=>(by cases hq)⟩⟩
 intro X1 g1 w1 h5;obtain⟨k,qs,vr⟩:=g1;clear J;obtain⟨J,hl,Y,r,Z⟩:=h5;refine ws λ_ Z5=>ws λ_ Z6=>wr (dm (dm ?_));refine dv 5 1 (hv.ext J).sl (dp (Fa rfl rfl) (de Z6 (wi (λc1=>?_) λc1=>?_)))
 ·have hkl:=X5o (ps:=ps) (k:=k) EA;obtain⟨p,hk⟩:∃p,ps[k]?=some p:=Fq;have hh:=hp p (Ak hk);have hst:=WJ hk;have hc:(ps.flatMap EI).drop ((ps.take k).flatMap EI).length=EI p++(ps.drop (k+1)).flatMap EI:=by rw[Xvx,HY hk,AD]
  have hA:EM EP 1 w (Gz 1 v ((ps.take k).flatMap EI).length (ps.flatMap EI).length) (EI p++(ps.drop (k+1)).flatMap EI):=by
   have:=hv.slice (lo:=((ps.take k).flatMap EI).length) (hi:=(ps.flatMap EI).length) EA (Aa _);rwa [AK,hc]at this
  have hy:=congrArg A7 hc;rw[List.length_drop]at hy;have hr:=congrArg A7 Y;rw[An,List.length_take]at hr;refine EG (Z5 _ _ (EN (ws λ_ Z7=>wr (dm (dm ?_)))));refine dp (H8 (e:=5) (k:=1) E9 (hv.ext J).sl rfl rfl rfl (show((ps.take k).flatMap EI).length<=(ps.flatMap EI).length by omega) (Aa _)) (cG (SB _ _ _ (hA.ext J) EA) RX.all λu2 w2 x2 hw=>?_);have hf:=J.size;have r:=r.ext x2;have Z:=Z.ext x2;have J:=J.trans x2;obtain⟨vp,hb,O⟩:=hw;rw[Sm p _ hh]at hb O;dsimp only at hb O;subst hb;have z:Vc.Own EP 1 5 w.heap.size w2 vp p:=O.mono hf;refine dm ?_;refine dx rfl rfl (dx rfl rfl (dx rfl rfl (da (da (da (de Z7 (ws λ_ Z8=>ws λ_ Z9=>wr (dm ?_))))))));refine dp (F8 rfl rfl) (de Z9 (wi (λc2=>?_) λc2=>?_))
  ·exact absurd rfl c2
  refine EG (Z8 _ _ (ws λ_ hj=>wr (dm (dm ?_))));refine Ib (e:=82) (sz:=1) (zs:=[.slice none 0 0]) (pv:=[(0,?a16_0)]) (cs:=[?a16_0]) rfl E9 ⟨rfl,rfl⟩ E9 rfl ?h16 ?f16 RX.all (λb1 w3 e1 x3 m1=>?k16)
  case h16=>refine⟨rfl,?_,trivial⟩<;>(conv=>lhs;whnf)
  case f16=>simp [Hw,Fe,Aw,z.sl.cells]
  have g1:=J.ge e1;have o1_hoQ:=r.ltb e1;have o1_hoP:=z.ltb e1;have r:=r.ext x3;have Z:=Z.ext x3;have z:=z.ext x3;have J:=J.trans x3;refine Gv (lx:=[(vp,p)]) (e:=82) (sz:=1) (by':=24) rfl E9 E9 EE r (m1.arr (enc:=Lu) (sz:=1) (l:=[(vp,p)]) rfl EE rfl (Ap rfl)) rfl rfl (by intro x ht u hu;rw[Ah.1 ht]at hu;rw[Ah.1 hu];exact z.sl.one) (by simp;omega) EK J.size (.inl rfl) (λhz w4 ha x4=>?_);have Z:=Z.mod x4 (by exact Z.ne r rfl);have z:=z.mod x4 (by exact(λk hk=>z.ne r rfl hk));have J:=J.own x4 (λi hi=>(r.lt i hi).1);have r:=ha;clear m1;refine da (de hj (wr (dm (dm ?_))));refine EW (v:=I ↑((ps.take (k+1)).flatMap EI).length) rfl (Gx rfl rfl (by unfold ET;omega)) (by show I _=I _;congr 1;omega) (da (EF (?_)));exact⟨(k+1,qs++[(vp,p)],hz),FA,⟨J,by omega,by rw[AC,Y,Gs hk];rfl,r,Z.snoc z⟩,by simp only [];omega⟩
 have h6:=X5p (ps:=ps) (k:=k) EA hl;subst h6;refine Ff (Z4 _ _ (ws λ_ hg=>wr (dm (dm (da (da (de hg (EH ?_))))))));refine rt ?_;rw[AK]at Y;exact⟨_,rfl,J,vr,qs,by rw[AK],Y,r,Z⟩
theorem Qf {L:Led}{D:Dsk}{p:EC}(h:L.dead=true):L.append D p=(0,9,L,D):=by unfold Led.append;rw[if_pos h]
theorem O1 {L:Led}{D:Dsk}{p:EC}(h:L.dead=false)(h2:65536<p.length\/1099511627776<=L.last):L.append D p=(0,5,L,D):=by unfold Led.append;rw[if_neg (by rw[h];decide),if_pos h2]
def Ho (L:Led)(D:Dsk)(p:EC):Int×Dsk:=if(D.app Led.logn (EI (Led.ent (L.last+1) p))).1=0 then(D.app Led.logn (EI (Led.ent (L.last+1) p))).2.sync [Led.logn]else D.app Led.logn (EI (Led.ent (L.last+1) p))
theorem Q5 {L:Led}{D:Dsk}{p:EC}(h:L.dead=false)(h2:¬ (65536<p.length\/1099511627776<=L.last))(h3:(Ho L D p).1≠0):L.append D p=(0,(Ho L D p).1,{ L with dead:=true },(Ho L D p).2):=by unfold Led.append;rw[if_neg (by rw[h];decide),if_neg h2];exact if_pos h3
theorem Pv {L:Led}{D:Dsk}{p:EC}(h:L.dead=false)(h2:¬ (65536<p.length\/1099511627776<=L.last))(h3:¬ (Ho L D p).1≠0):L.append D p=(L.last+1,0,{ L with ents:=L.ents++[p] },(Ho L D p).2):=by unfold Led.append;rw[if_neg (by rw[h];decide),if_neg h2];exact if_neg h3
theorem Wr.lt {B bw:Nat}{v:Value}{l:EC}{w:World}(h:Wr B bw v l w):∀k,Hq bw v k->k<w.heap.size:=λk hk=>hk.elim (λe=>e▸h.m.lt) (λe=>(h.o.lt k e).2)
theorem Wr.ge {B bw:Nat}{v:Value}{l:EC}{w:World}(h:Wr B bw v l w)(hb:B<=bw){k:Nat}(hk:Hq bw v k):B<=k:=hk.elim (λe=>e▸hb) (λe=>(h.o.lt k e).1)
theorem M3 (i:Int)(p:EC):(Led.ent i p).length<=p.length+20:=by
 unfold Led.ent Fp;have h1:=Gd i.toNat;have h2:=Gd p.length;simp only [Ab];omega
theorem WV {i:Int}{p:EC}(h0:0<=i)(h1:i<=1099511627777):[i].flatMap FX++[p].flatMap Fp=Led.ent i p:=by
 simp [Led.ent,FX,Ha]
 congr 1;omega
theorem LedE.add {G:Nat->Prop}{bl bd:Nat}{vd ve ve2 vp:Value}{vs:List (Value×EC)}{L:Led}{w0 w w':World}{Sx:Nat->Prop}{p:EC}(h:LedE G bl bd vd ve vs L w)(z:L.last<1099511627776)(hp:p.length<=65536)(hd:L.dead=false)(hw0:w0.heap.size<=w.heap.size)(h0:∀k,G k->k<w0.heap.size)
  (m:Vc.Mod Sx w w') (hS:∀k,Sx k->k=bl\/ve.ownBlock=some k\/w.heap.size<=k) (hm:EL w' bl [ED bd 0,S [115],I L.base,vd,ve2,B L.dead] 147) (he:Vc.Own K6 1 82 0 w' ve2 (vs.map (·.1)++[vp])) (hv:ve2.ownBlock=ve.ownBlock\/∀k,ve2.ownBlock=some k->w0.heap.size<=k)
  (ha:EM EP 1 w' vp p) (hf:p≠[]->w0.heap.size<=(base vp).1) (hu:p≠[]->ve2.ownBlock≠some (base vp).1):LedE (G2 G w0 w') bl bd vd ve2 (vs++[(vp,p)]) { L with ents:=L.ents++[p] } w':=by
 have hn:∀k,KD vd vs L.data k->¬ Sx k:=λk hk hs=>by
  have h1:=h.sep k hk;have h2:=h.lt k (h.inG k (.inr (.inr hk)));rcases hS k hs with e|e|e
  ·exact h1.1 e
  ·exact h1.2 e
  ·omega
 refine⟨hm,h.d.mod m (λz=>hn _ (.inl ⟨z,rfl⟩)),by rw[AC];exact he,by rw[AC,h.es];rfl,λq r=>?_,λk hk=>?_,λk hk=>?_,HV h0 (Ae hw0 m.size),h.b0,h.b1,h.dl,λq r=>?_,?_⟩
 ·rcases Ay.1 r with r|r
  ·exact(h.el q r).mod m (λz=>hn _ (.inr ⟨q,r,z,rfl⟩))
  ·rw[Ah.1 r];exact ha
 ·rcases hk with rfl|hk|hk|⟨q,r,hk⟩
  ·exact .inl (h.inG _ (.inl rfl))
  ·rcases hv with e|e
   ·exact .inl (h.inG _ (.inr (.inl (e▸hk))))
   ·exact .inr ⟨e k hk,(he.lt k hk).2⟩
  ·exact .inl (h.inG _ (.inr (.inr (.inl hk))))
  ·rcases Ay.1 r with r|r
   ·exact .inl (h.inG _ (.inr (.inr (.inr ⟨q,r,hk⟩))))
   ·rw[Ah.1 r]at hk;obtain⟨z,rfl⟩:=hk;exact .inr ⟨hf z,ha.base_lt EK z⟩
 ·have old:KD vd vs L.data k->k≠bl/\ve2.ownBlock≠some k:=λhk=>⟨(h.sep k hk).1,λe=>by
   rcases hv with e2|e2
   ·exact(h.sep k hk).2 (e2▸e)
   ·have h1:=e2 k e;have h2:=h0 k (h.inG k (.inr (.inr hk)));omega⟩
  rcases hk with hk|⟨q,r,hk⟩
  ·exact old (.inl hk)
  ·rcases Ay.1 r with r|r
   ·exact old (.inr ⟨q,r,hk⟩)
   ·rw[Ah.1 r]at hk;obtain⟨z,rfl⟩:=hk;refine⟨λe=>?_,hu z⟩;have h1:=hf z;have h2:=h0 bl (h.inG bl (.inl rfl));rw[e]at h1;omega
 ·rcases Ay.1 r with r|r
  ·exact h.pl q r
  ·rw[Ah.1 r];exact hp
 ·unfold Led.last at z ⊢;simp only [Ab,D8];omega
theorem Xzv (H:Nat->Prop)(bl bd:Nat)(L:Led)(D:Dsk)(p:EC)(vp:Value)(w:World)(h:LD H bl bd L D w)(hp:EM EP 1 w vp p)(hpl:p.length<=1000000)(hcnt:L.ents.length<=1000000)(hpH:p≠[]->¬ H (base vp).1) :
  Calls Tryz.prog 40 [ED bl 0,vp].toArray w (Fh H w (λu w'=>u=.tuple #[I (L.append D p).1,I (L.append D p).2.1]/\LD (G2 H w w') bl bd (L.append D p).2.2.1 (L.append D p).2.2.2 w')):=by
 refine cw Tryz.func40 ?_;have r:=EB.refl w;have xu:=h;obtain⟨F,G,vd,ve,vs,hA,z,hb,ha,hj⟩:=h;have J:=z.m;have hla:=z.la;have hb0:=z.b0;have hl0:0<=L.last:=by unfold Led.last;omega
 have Z:=z.lt;have hblt:=J.lt;have yw:=Gd (Ha (L.last+1));have hbl1:([L.last+1].flatMap FX).length<=10:=by simpa [FX]using yw
 have helen:=M3 (L.last+1) p;refine ws λ_ Z1=>wr (da (da (de Z1 (ws λ_ Z2=>EN (ws λ_ Z3=>wr (dm ?_))))));refine dp (Gj E9 rfl rfl) (da (de Z3 ?_));refine wi (λc1=>?_) λc1=>?_
 ·exact absurd c1 EQ
 refine ws λ_ Z4=>wr (dm ?_);refine dz rfl (df 5 rfl (dl rfl (J.at rfl) (da (de Z4 ?_))));refine wc (λc2=>?_) λc2=>?_
 ·refine ws λ_ Z5=>wr (da (da (de Z5 (EH ?_))));refine rt ?_;rw[Qf c2];exact⟨_,rfl,r.mono (λ_ h _=>h.elim),rfl,xu.grow r⟩
 refine ws λ_ Z6=>wr (dm ?_);refine dv 5 1 hp.sl (dp (FY rfl rfl) (dm ?_));refine Fz 21 rfl (λc3=>?_) (λc3=>?_)
 ·refine dk (dk (dk (EO ?_)));refine da (de Z6 ?_);refine GD rfl (ws λ_ Z7=>wr (da (da (de Z7 (EH ?_)))));refine rt ?_;rw[O1 c2 EA];exact⟨_,rfl,r.mono (λ_ h _=>h.elim),rfl,xu.grow r⟩
 refine dm ?_;refine cP (G3 G bl bd vd ve vs L _ z) RX.all λw1 x1=>?_;have J:=J.ext x1;have z:=z.ext x1;have hA:=hA.ext x1;have r:=r.trans x1;refine dp (IB rfl rfl) (EO ?_);refine da (de Z6 ?_);refine wi (λc4=>?_) λc4=>?_
 ·refine ws λ_ Z8=>wr (da (da (de Z8 (EH ?_))));refine rt ?_;rw[O1 c2 EA];exact⟨_,rfl,r.mono (λ_ h _=>h.elim),rfl,xu.grow r⟩
 have ye:¬ (65536<p.length\/1099511627776<=L.last):=by omega
 refine EG (Z2 _ _ (ws λ_ Z9=>wr (FG (cs:=[.slice none 0 0]) rfl E9 RX.all (λb1 w2 e1 x2 m1=>?_))));have g1:=r.ge e1;have a1_hl:=J.lt;have a1_hE:=z.lt;have a1_hA:=hA.lt;have J:=J.ext x2;have z:=z.ext x2;have hA:=hA.ext x2;have r:=r.trans x2;refine de Z9 (ws λ_ yv=>wr (dm ?_));refine cP (G3 G bl bd vd ve vs L _ z) RX.all λw3 x3=>?_;have J:=J.ext x3;have z:=z.ext x3;have hA:=hA.ext x3;have m1:=m1.ext x3;have r:=r.trans x3;refine pa rfl rfl (li (e:=3) (sz:=1) (zs:=[.int .i64 0]) (pv:=[(0,_)]) (cs:=[_]) RX.all (λb2 w4 e2 x4 m2=>?_));have g2:=r.ge e2;have n2_1:=m1.ltb e2;have a2_hl:=J.lt;have a2_hE:=z.lt;have a2_hA:=hA.lt;have J:=J.ext x4;have z:=z.ext x4;have hA:=hA.ext x4;have m1:=m1.ext x4;have r:=r.trans x4;have O:Wr w.heap.size b1 (.slice none 0 0) [] w4:=⟨m1,Vc.Own.nil⟩;refine cD (JQ w.heap.size b1 (.slice none 0 0) [] [L.last+1] (.slice (some ⟨b2,0,none⟩) 1 1) _ O EQ r.size (m2.arr (enc:=Vc.encI) (sz:=1) (l:=[L.last+1]) rfl EE rfl EQ) EQ (λk hk _ e=>hk.elim (λh=>by have e2:b2=k:=e;omega) (λh=>by cases h))) (.inl rfl) λu5 w5 x5 y5=>?_;have hsz5:=r.size;have J:=J.mod x5 (λh=>by have h8:=O.ge g1 h;omega);have z:=z.mod x5 (λk hk h=>by have h9:=Z k hk;have h8:=O.ge g1 h;omega);have hA:=hA.mod x5 (λk hk h=>by have h9:=hj k (ha k (.inl hk));have h8:=O.ge g1 h;omega);have r:=r.own x5 (λi hi=>O.ge g1 hi);obtain⟨rfl,v2,O,hg2⟩:=y5;refine de yv (ws λ_ yy=>wr (dm ?_));refine Ib (e:=82) (sz:=1) (zs:=[.slice none 0 0]) (pv:=[(0,?a26_0)]) (cs:=[?a26_0]) rfl E9 ⟨rfl,rfl⟩ E9 rfl ?h26 ?f26 RX.all (λb3 w6 e3 x6 m3=>?k26)
 case h26=>refine⟨rfl,?_,trivial⟩<;>(conv=>lhs;whnf)
 case f26=>simp [Hw,Fe,Aw,hp.sl.cells]
 have g3:=r.ge e3;have a3_hl:=J.lt;have a3_hE:=z.lt;have a3_hA:=hA.lt;have xe:=O.lt;have J:=J.ext x6;have z:=z.ext x6;have hA:=hA.ext x6;have O:=O.ext x6;have r:=r.trans x6;refine cD (KO w.heap.size b1 v2 _ [(vp,p)] (.slice (some ⟨b3,0,none⟩) 1 1) _ O (by rw[AE];omega) r.size (Kk m3) (λq h=>by rw[Ah.1 h];exact hp.ext r) (λq h=>by rw[Ah.1 h];exact hpl) EQ (λ_ h=>A6 b3 (AF (xe _ h) e3.symm)) (λq h J h2=>by rw[Ah.1 h]at J h2;have h8:=hp.base_lt EK J;have h7:=O.ge g1 h2;exact absurd (A0 h8 h7) (A6 _))) (.inl rfl) λu7 w7 x7 yt=>?_;have hsz7:=r.size;have J:=J.mod x7 (λh=>by have h8:=O.ge g1 h;omega);have z:=z.mod x7 (λk hk h=>by have h9:=Z k hk;have h8:=O.ge g1 h;omega);have hA:=hA.mod x7 (λk hk h=>by have h9:=hj k (ha k (.inl hk));have h8:=O.ge g1 h;omega);have r:=r.own x7 (λi hi=>O.ge g1 hi);obtain⟨rfl,v3,O,hg3⟩:=yt;refine de yy (ws λ_ yq=>wr (cG (MK w.heap.size b1 v3 _ _ O (by simp only [AE,Ab,Aq,Bk,AD,Ce,AP,Fp,FX]at *;have h5:=Gd p.length;omega)) RX.all λvo w8 x8 hB=>?_));have hsz8:=r.size;have J:=J.ext x8;have z:=z.ext x8;have hA:=hA.ext x8;have r:=r.trans x8;rw[show([]++[L.last+1].flatMap FX)++BI Fp ([(vp,p)].map (λq:Value×EC=>q.2))=Led.ent (L.last+1) p by rw[AE];exact WV EA EA]at hB;refine Ib (e:=82) (sz:=1) (zs:=[.slice none 0 0]) (pv:=[(0,?a27_0)]) (cs:=[?a27_0]) rfl E9 ⟨rfl,rfl⟩ E9 rfl ?h27 ?f27 RX.all (λb4 w9 e4 x9 m4=>?k27)
 case h27=>refine⟨rfl,?_,trivial⟩<;>(conv=>lhs;whnf)
 case f27=>simp [Hw,Fe,Aw,hB.sl.cells]
 have g4:=r.ge e4;have a4_hl:=J.lt;have a4_hE:=z.lt;have a4_hA:=hA.lt;have o4_hB:=hB.ltb e4;have J:=J.ext x9;have z:=z.ext x9;have hA:=hA.ext x9;have hB:=hB.ext x9;have r:=r.trans x9;refine cG (Q7 (Led.ent (L.last+1) p) vo _ _ (m4.arr (enc:=λx:Value=>[x]) (sz:=1) (l:=[vo]) rfl EE rfl EQ) (hB.arr EE) EA) RX.all λu10 w10 xf x0=>?_;have xw:=r.size;have J:=J.ext xf;have z:=z.ext xf;have hA:=hA.ext xf;have r:=r.trans xf;obtain⟨vb,rfl,ym⟩:=x0;have xq:Hh (Led.ent (L.last+1) p)=0:=if_neg EA;have Y:=(ym xq).1;have hBf:=Ae xw (ym xq).2;refine dm ?_;refine dx rfl rfl (dx rfl rfl (da (da (de yq ?_))));refine Hz (G:=(Nat->Prop)×Dsk×Int) (λ(F1,D1,e1)=>[(0,ED bl 0),(1,vp),(4,I 0),(5,I 0),(8,I e1)]) (λ(F1,D1,e1) w'=>Mod H w w'/\FV F1 bd D1 w'/\LedE G bl bd vd ve vs L w'/\(∀k,F1 k->F k\/w.heap.size<=k)/\EL w' bl [ED bd 0,S [115],I L.base,vd,ve,B L.dead] 147/\D.app Led.logn (EI (Led.ent (L.last+1) p))=(e1,D1)) ?_ ?_
 ·refine ws λ_ y7=>wr (dm ?_);refine dp (G1 rfl rfl) (de y7 (wi (λc5=>?_) λc5=>?_))
  ·refine L0 (R:=EB) EB.refl (λ_ _ _=>EB.trans) E9 [3] (.one 0 .p false (.one 1 .p false (.one 2 .p false (.one 3 .l false (.one 4 .p false (.one 6 .p false (.fork (.alt 5 false (.one 7 .x false (.one 8 .x true (.one 9 .p false .nil))) (.alt 7 false (.one 5 .x false (.one 8 .x true (.one 9 .p false .nil))) .stop))))))))) E9 E9 (λw11 xl=>?_);have xa:=EJ xl;clear xl;have J:=J.ext xa;have z:=z.ext xa;have hA:=hA.ext xa;have Y:=Y.ext xa;have r:=r.trans xa;refine EY (dm (EF ?_));refine EY (dz rfl (EF (EY (df 0 rfl (EF (EY (dL rfl (λ_ hR=>((J.ext hR).at rfl)) (EF (EY (dm (EF ?_)))))))))));refine EY (dm (EF ?_));refine JE ?_;refine H6 ?_ ?_
   ·refine cP (FN G bl bd vd ve vs L _ z) RX.ext λw12 hy=>?_;have J:=J.ext hy;have z:=z.ext hy;have hA:=hA.ext hy;have Y:=Y.ext hy;have r:=r.trans hy;refine EF (EY ?_);refine Ib (e:=82) (sz:=1) (zs:=[.slice none 0 0]) (pv:=[(0,?a35_0)]) (cs:=[?a35_0]) rfl E9 ⟨rfl,rfl⟩ E9 rfl ?h35 ?f35 RX.ext (λb5 w13 e5 hw m5=>?k35)
    case h35=>refine⟨rfl,?_,trivial⟩<;>(conv=>lhs;whnf)
    case f35=>simp [Hw,Fe,Aw,Y.sl.cells]
    have g5:=r.ge e5;have a5_hl:=J.lt;have a5_hE:=z.lt;have a5_hA:=hA.lt;have a5_hB2:=EM.base_lt Y EK;have J:=J.ext hw;have z:=z.ext hw;have hA:=hA.ext hw;have Y:=Y.ext hw;have r:=r.trans hw;refine EF (EY (cD (Rq F bd D Led.logn [(vb,EI (Led.ent (L.last+1) p))] _ _ hA (Kk m5) (by intro q h;rw[Ah.1 h];exact Y) (by simp [Jz];omega) EQ) (.inl rfl) λu14 w14 xz xm=>?_));have xo:=r.size;have J:=J.mod xz (λh=>hb bl h (z.inG bl (.inl rfl)));have z:=z.mod xz (λk hk h=>hb k h hk);have r:=(r.mod xz).mono (λi hi _=>(ha i (.inl hi):H i));rw[show BI (λq:Value×EC=>q.2) [(vb,EI (Led.ent (L.last+1) p))]=EI (Led.ent (L.last+1) p) by simp]at xm;obtain⟨rfl,hA⟩:=xm;have h6:=xo;refine EF (EY (da (EF ?_)));refine Im ?_;exact⟨(_,_,_),FA,r,hA,z,LN h6,J,rfl⟩
   refine H6 ?_ ?_
   ·refine Ib (e:=82) (sz:=1) (zs:=[.slice none 0 0]) (pv:=[(0,?a37_0)]) (cs:=[?a37_0]) rfl E9 ⟨rfl,rfl⟩ E9 rfl ?h37 ?f37 RX.ext (λb6 w15 e6 hz m6=>?k37)
    case h37=>refine⟨rfl,?_,trivial⟩<;>(conv=>lhs;whnf)
    case f37=>simp [Hw,Fe,Aw,Y.sl.cells]
    have g6:=r.ge e6;have a6_hl:=J.lt;have a6_hE:=z.lt;have a6_hA:=hA.lt;have a6_hB2:=EM.base_lt Y EK;have J:=J.ext hz;have z:=z.ext hz;have hA:=hA.ext hz;have Y:=Y.ext hz;have r:=r.trans hz;refine EF (EY (cP (FN G bl bd vd ve vs L _ z) RX.ext λw16 ht=>?_));have J:=J.ext ht;have z:=z.ext ht;have hA:=hA.ext ht;have Y:=Y.ext ht;have m6:=m6.ext ht;have r:=r.trans ht;refine EF (EY (cD (Rq F bd D Led.logn [(vb,EI (Led.ent (L.last+1) p))] _ _ hA (Kk m6) (by intro q h;rw[Ah.1 h];exact Y) (by simp [Jz];omega) EQ) (.inl rfl) λu17 w17 xp xk=>?_));have xy:=r.size;have J:=J.mod xp (λh=>hb bl h (z.inG bl (.inl rfl)));have z:=z.mod xp (λk hk h=>hb k h hk);have r:=(r.mod xp).mono (λi hi _=>(ha i (.inl hi):H i));rw[show BI (λq:Value×EC=>q.2) [(vb,EI (Led.ent (L.last+1) p))]=EI (Led.ent (L.last+1) p) by simp]at xk;obtain⟨rfl,hA⟩:=xk;have h6:=xy;refine EF (EY (da (EF ?_)));refine Im ?_;exact⟨(_,_,_),FA,r,hA,z,LN h6,J,rfl⟩
   exact J8
  exact absurd xq c5
 intro X18 yz w18 yn;obtain⟨F1,D1,e1⟩:=yz;clear r J z hA O hB m4 Y;obtain⟨r,hA,z,hf,J,yl⟩:=yn;have hs1:=r.size;refine Hz (G:=(Nat->Prop)×Dsk×Int) (λ(F2,D2,e)=>[(0,ED bl 0),(1,vp),(4,I 0),(5,I 0),(8,I e)]) (λ(F2,D2,e) w'=>Mod H w w'/\FV F2 bd D2 w'/\LedE G bl bd vd ve vs L w'/\(∀k,F2 k->F k\/w.heap.size<=k)/\EL w' bl [ED bd 0,S [115],I L.base,vd,ve,B L.dead] 147/\Ho L D p=(e,D2)) ?_ ?_
 ·refine ws λ_ yr=>wr (dm ?_);refine dp (G1 rfl rfl) (de yr (wi (λc6=>?_) λc6=>?_))
  ·refine F4 (R:=EB) EB.refl (λ_ _ _=>EB.trans) E9 [3] [(0,.p,false),(1,.p,false),(2,.p,false),(3,.l,false),(4,.p,false),(5,.x,false),(6,.x,false),(7,.x,true),(8,.p,false)] rfl E9 E9 (λw19 xn=>?_);have xi:=EJ xn;clear xn;have hA:=hA.ext xi;have z:=z.ext xi;have J:=J.ext xi;have r:=r.ext xi;refine dm ?_;refine dz rfl (df 0 rfl (dL rfl (λ_ hR=>((J.ext hR).at rfl)) (dm ?_)));refine cP (FN G bl bd vd ve vs L _ z) RX.ext λw20 xd=>?_;have hA:=hA.ext xd;have z:=z.ext xd;have J:=J.ext xd;have r:=r.ext xd;refine li (e:=9) (sz:=1) (zs:=[S []]) (pv:=[(0,_)]) (cs:=[_]) RX.ext (λb7 w21 e7 xg m7=>?_);have g7:=r.ge e7;have xv:=hA.lt;have a7_hE:=z.lt;have a7_hl:=J.lt;have hA:=hA.ext xg;have z:=z.ext xg;have J:=J.ext xg;have r:=r.ext xg;refine cD (Xr F1 bd D1 [Led.logn] _ _ hA (Lx m7) EQ (λ_ hF=>A6 b7 (AF (xv _ hF) e7.symm))) (.inl rfl) λu22 w22 xx yp=>?_;have hsz22:=r.size;have z:=z.mod xx (λk hk h=>(hf _ h).elim (λh=>hb _ h hk) (λh=>by have h9:=Z _ hk;omega));have J:=J.mod xx (λh=>(hf _ h).elim (λh=>hb _ h (z.inG bl (.inl rfl))) (λh=>by have h9:=Z _ (z.inG bl (.inl rfl));omega));have r:=r.own xx (λi hi hj=>ha i (.inl ((hf i hi).resolve_right EA)));obtain⟨rfl,hA⟩:=yp;refine da (EF (?_));exact⟨(_,_,_),FA,r,hA,z,λk hk=>hk.elim (hf k) (λh9=>.inr EA),J,by unfold Ho;rw[yl,if_pos c6]⟩
  refine EG ?_;exact⟨(F1,D1,e1),FA,r,hA,z,hf,J,by unfold Ho;rw[yl,if_neg c6]⟩
 intro X23 y0 w23 yg;obtain⟨F2,D2,e⟩:=y0;clear r hA z J;obtain⟨r,hA,z,hc,J,hR⟩:=yg;have hsw:=r.size;refine ws λ_ y3=>ws λ_ yu=>wr (dm (dm ?_));refine cD (VY G bl bd vd ve vs L e _ z) (.inl rfl) λu24 yb yc yj=>?_;have hsz24:=r.size;have hA:=hA.mod yc (λk hk e9=>by have e8:k=bl:=e9;subst e8;exact(hc _ hk).elim (λh=>hb _ h (z.inG _ (.inl rfl))) (λh=>by have h9:=Z _ (z.inG _ (.inl rfl));omega));have r:=r.own yc (λi hi hj=>(by have e2:i=bl:=hi;rw[e2];exact ha bl (.inr (z.inG bl (.inl rfl)))));obtain⟨rfl,z⟩:=yj;refine dp (F8 rfl rfl) (de yu (wi (λc7=>?_) λc7=>?_))
 ·refine ws λ_ y4=>wr (dm (da (da (de y4 (EH ?_)))));refine rt ?_;have xt:{ L with dead:=L.dead || decide (e≠0) } = { L with dead:=true }:=by rw[c2];simp [c7]
  rw[xt]at z;refine⟨_,rfl,r,?_⟩;rw[Q5 c2 ye (by rw[hR];exact c7),hR];exact⟨rfl,F2,G,vd,ve,vs,hA,z,λk hk hg=>(hc k hk).elim (λh=>hb k h hg) (λh=>by have:=Z k hg;omega),λk hk=>hk.elim (λh=>(hc k h).elim (λh2=>.inl (ha k (.inl h2))) (λh2=>.inr ⟨h2,hA.lt k h⟩)) (λh=>.inl (ha k (.inr h))),HV hj r.size⟩
 have y2:e=0:=AI c7;have xt:{ L with dead:=L.dead || decide (e≠0) } = L:=by rw[c2,y2];cases L;simp at c2 ⊢;exact c2
 rw[xt]at z;have J:=z.m;have ho:=z.e;have yx:=hA.lt;have yf:=r.size;refine EG (y3 _ _ (ws λ_ y9=>F4 (R:=EB) EB.refl (λ_ _ _=>EB.trans) E9 [4] [(0,.p,false),(1,.p,false),(2,.p,false),(3,.p,false),(4,.l,false),(5,.p,false),(6,.x,false),(7,.x,false),(8,.x,true),(9,.p,false),(10,.p,false),(11,.x,true)] rfl E9 E9 (λw25 xj=>?_)));have hh:=EJ xj;clear xj;have hA:=hA.ext hh;have J:=J.ext hh;have ho:=ho.ext hh;have r:=r.ext hh
 iterate 2 refine dm ?_
 refine dz rfl (df 4 rfl (dL rfl (λ_ hR=>((J.ext hR).at rfl)) (dm ?_)));refine cG (Lp p vp _ (hp.mod r hpH) EA) RX.ext λvc w26 hr hC=>?_;have hsz26:=r.size;have hA:=hA.ext hr;have J:=J.ext hr;have ho:=ho.ext hr;have r:=r.ext hr;refine Ib (e:=82) (sz:=1) (zs:=[.slice none 0 0]) (pv:=[(0,?a53_0)]) (cs:=[?a53_0]) rfl E9 ⟨rfl,rfl⟩ E9 rfl ?h53 ?f53 RX.ext (λb8 w27 e8 hq m8=>?k53)
 case h53=>refine⟨rfl,?_,trivial⟩<;>(conv=>lhs;whnf)
 case f53=>simp [Hw,Fe,Aw,hC.sl.cells]
 have g8:=r.ge e8;have a8_hA:=hA.lt;have a8_hl:=J.lt;have o8_ho:=ho.ltb e8;have o8_hC:=hC.ltb e8;have hA:=hA.ext hq;have J:=J.ext hq;have ho:=ho.ext hq;have hC:=hC.ext hq;have r:=r.ext hq;refine KG (lx:=[vc]) (e:=82) (sz:=1) (by':=24) rfl E9 E9 EE ho (m8.arr (enc:=K6) (sz:=1) (l:=[vc]) rfl EE rfl (Ap rfl)) rfl rfl (by intro x y1 u hu;rw[Ah.1 y1]at hu;rw[Ah.1 hu];exact hC.sl.one) (by have:=z.len;simp;omega) EK (Ad _) (.inl rfl) (λv2 w28 yd xb xr=>?_);have yi:=xr;have za:=xb;have hA:=hA.mod xb (by exact(λk hk e=>(hc _ hk).elim (λh=>hb _ h (z.inG k (.inr (.inl e)))) (λh=>by have h9:=Z _ (z.inG k (.inr (.inl e)));omega)));have J:=J.mod xb (by exact ho.ne_blk J rfl);have hC:=hC.mod xb (by exact(λk hk e=>hC.ne ho rfl hk e));have r:=r.own xb (λi hi hj=>ha i (.inr (z.inG i (.inr (.inl hi)))));have ho:=yd;have yh:=ho.ne_blk J rfl;have yk:=hC.ne_blk J rfl;clear m8;refine dz rfl (df 4 rfl (G5 J (λy8 xc xs29 J=>?_) (hv:=by exact FW.one ho.sl)));dsimp only [Fe,Ag,Af,Ai]at J;have hA:=hA.mod xc (λk hk e9=>by have e8:k=bl:=e9;subst e8;exact(hc _ hk).elim (λh=>hb _ h (z.inG _ (.inl rfl))) (λh=>by have h9:=Z _ (z.inG _ (.inl rfl));omega));have ho:=ho.mod xc (λk hk h=>yh (by have h2:k=bl:=h;rw[hk,h2]));have hC:=hC.mod xc (λk hk h=>yk (by have h2:k=bl:=h;rw[hk,h2]));have r:=r.own xc (λi hi _=>(by have e2:i=bl:=hi;rw[e2];exact ha bl (.inr (z.inG bl (.inl rfl)))));refine de y9 (ws λ_ y6=>wr (dm ?_));have mB:=((EB.mod ((hh.trans hr).trans hq) za).mono (λk hk _=>(.inl hk:ve.ownBlock=some k\/k=bl))).own xc (λk hk _=>.inr hk);have ya:=Ae hh.size (Ae hr.size hq.size);have yo:=z.add (w0:=yb) (p:=p) EA EA c2 (Aa _) z.lt mB (λk hk=>hk.elim (λh=>.inr (.inl h)) .inl) J ho (yi.imp id (λe2 k hk=>by rw[e2]at hk;cases hk;exact ya)) (hC.arr EE) (λhn=>Ae hh.size (hC.base_ge hn).1) (λhn e=>hC.ne ho rfl (hC.base_block hn) e);refine cP (G3 _ bl bd vd v2 _ _ _ yo) RX.all λw30 xh=>?_;have hA:=hA.ext xh;have r:=r.ext xh;refine da (da (de y6 (EH ?_)));refine rt ?_;refine⟨_,rfl,r,?_⟩;rw[Pv c2 ye (by rw[hR];exact c7),hR];refine⟨?_,F2,G2 G yb y8,vd,v2,_,hA,yo.ext xh,λk hk hg=>?_,λk hk=>hk.elim (λh=>(hc k h).elim (λh2=>.inl (ha k (.inl h2))) (λh2=>.inr ⟨h2,hA.lt k h⟩)) (λh=>?_),HV hj r.size⟩
 ·have e9:Led.last { L with ents:=L.ents++[p] } = L.last+1:=by unfold Led.last;simp only [Ab,D8];omega
  rw[e9]
 ·rcases hg with hg|hg
  ·exact(hc k hk).elim (λh=>hb k h hg) (λh=>by have:=Z k hg;omega)
  ·have:=yx k hk;omega
 ·rcases h with h|h
  ·exact .inl (ha k (.inr h))
  ·exact .inr ⟨Ae yf h.1,A0 h.2 xh.size⟩
def LJ (D:Dsk)(i:Int)(p:EC):Int×Dsk:=if(D.save Led.img (Led.ent i p)).1=0 then(D.save Led.img (Led.ent i p)).2.rems [Led.logn]else D.save Led.img (Led.ent i p)
theorem X5r {L:Led}{D:Dsk}{i:Int}{p:EC}(h:L.dead=true):L.write D i p=(9,L,D):=by unfold Led.write;rw[if_pos h]
theorem WN {L:Led}{D:Dsk}{i:Int}{p:EC}(h:L.dead=false)(h2:i<L.last\/1099511627776<i):L.write D i p=(1,L,D):=by unfold Led.write;rw[if_neg (by rw[h];decide),if_pos h2]
theorem X5s {L:Led}{D:Dsk}{i:Int}{p:EC}(h:L.dead=false)(h2:¬ (i<L.last\/1099511627776<i))(h3:524288<p.length):L.write D i p=(5,L,D):=by unfold Led.write;rw[if_neg (by rw[h];decide),if_neg h2,if_pos h3]
theorem X9f {L:Led}{D:Dsk}{i:Int}{p:EC}(h:L.dead=false)(h2:¬ (i<L.last\/1099511627776<i))(h3:¬ 524288<p.length)(h4:(LJ D i p).1≠0):L.write D i p=((LJ D i p).1,{ L with dead:=true },(LJ D i p).2):=by unfold Led.write;rw[if_neg (by rw[h];decide),if_neg h2,if_neg h3];exact if_pos h4
theorem X5t {L:Led}{D:Dsk}{i:Int}{p:EC}(h:L.dead=false)(h2:¬ (i<L.last\/1099511627776<i))(h3:¬ 524288<p.length)(h4:¬ (LJ D i p).1≠0):L.write D i p=(0,⟨i,p,[],false⟩,(LJ D i p).2):=by unfold Led.write;rw[if_neg (by rw[h];decide),if_neg h2,if_neg h3];exact if_neg h4
theorem LedE.image {G:Nat->Prop}{bl bd:Nat}{vd ve vp:Value}{vs:List (Value×EC)}{L:Led}{w0 w':World}{i:Int}{p:EC}(h:LedE G bl bd vd ve vs L w0)(hs:w0.heap.size<=w'.heap.size)(hm:EL w' bl [ED bd 0,S [115],I i,vp,.slice none 0 0,B false] 147)(ha:EM EP 1 w' vp p)(hf:p≠[]->w0.heap.size<=(base vp).1)(h0:0<=i)(h1:i<=1099511627776)(hp:p.length<=524288) :
  LedE (G2 G w0 w') bl bd vp (.slice none 0 0) [] ⟨i,p,[],false⟩ w':=by
 refine⟨hm,ha,Vc.Own.nil,rfl,(λq r=>by cases r),λk hk=>?_,λk hk=>?_,HV h.lt hs,h0,h1,hp,(λq r=>by cases r),(by simpa [Led.last]using h1)⟩
 ·rcases hk with rfl|hk|hk|⟨q,r,_⟩
  ·exact .inl (h.inG _ (.inl rfl))
  ·cases hk
  ·obtain⟨z,rfl⟩:=hk;exact .inr ⟨hf z,ha.base_lt EK z⟩
  ·cases r
 ·rcases hk with hk|⟨q,r,_⟩
  ·obtain⟨z,rfl⟩:=hk;refine⟨λe=>?_,λe=>by cases e⟩;have h1:=hf z;have h2:=h.lt bl (h.inG bl (.inl rfl));rw[e]at h1;omega
  ·cases r
theorem X5u (H:Nat->Prop)(bl bd:Nat)(L:Led)(D:Dsk)(ix:Int)(p:EC)(vp:Value)(w:World)(h:LD H bl bd L D w)(hp:EM EP 1 w vp p)(hpl:p.length<=1000000)(hpH:p≠[]->¬ H (base vp).1) :
  Calls Tryz.prog 94 [ED bl 0,I ix,vp].toArray w (Fh H w (λu w'=>u=I (L.write D ix p).1/\LD (G2 H w w') bl bd (L.write D ix p).2.1 (L.write D ix p).2.2 w')):=by
 refine cw Tryz.func94 ?_;have r:=EB.refl w;have ht:=h;obtain⟨F,G,vd,ve,vs,hA,z,hc,ha,hf⟩:=h;have J:=z.m;have hla:=z.la;have hb0:=z.b0;have hl0:0<=L.last:=by unfold Led.last;omega
 have Y:=z.lt;have hblt:=J.lt;have yb:=Gd (Ha ix);have hbl1:([ix].flatMap FX).length<=10:=by simpa [FX]using yb
 have helen:=M3 ix p;refine ws λ_ Z1=>wr (da (de Z1 (ws λ_ Z2=>EN (ws λ_ Z3=>wr (dm ?_)))));refine dp (Gj E9 rfl rfl) (da (de Z3 ?_));refine wi (λc1=>?_) λc1=>?_
 ·exact absurd c1 EQ
 refine ws λ_ Z4=>wr (dm ?_);refine dz rfl (df 5 rfl (dl rfl (J.at rfl) (da (de Z4 ?_))));refine wc (λc2=>?_) λc2=>?_
 ·refine ws λ_ Z5=>wr (da (de Z5 (EH ?_)));refine ro ?_;rw[X5r c2];exact⟨_,rfl,r.mono (λ_ h _=>h.elim),rfl,ht.grow r⟩
 refine ws λ_ Z6=>wr (dm (dm ?_));refine cP (G3 G bl bd vd ve vs L _ z) RX.all λw1 x1=>?_;have J:=J.ext x1;have z:=z.ext x1;have hA:=hA.ext x1;have r:=r.trans x1;refine dp (Fa rfl rfl) (dm ?_);refine Fz 22 rfl (λc3=>?_) (λc3=>?_)
 ·refine dk (dk (EO ?_));refine da (de Z6 ?_);refine GD rfl (ws λ_ Z7=>wr (da (de Z7 (EH ?_))));refine ro ?_;rw[WN c2 EA];exact⟨_,rfl,r.mono (λ_ h _=>h.elim),rfl,ht.grow r⟩
 refine dm ?_;refine dp (FY rfl rfl) (EO ?_);refine da (de Z6 ?_);refine wi (λc4=>?_) λc4=>?_
 ·refine ws λ_ Z8=>wr (da (de Z8 (EH ?_)));refine ro ?_;rw[WN c2 EA];exact⟨_,rfl,r.mono (λ_ h _=>h.elim),rfl,ht.grow r⟩
 have xc:¬ (ix<L.last\/1099511627776<ix):=by omega
 refine ws λ_ Z9=>wr (dm ?_);refine dv 5 1 hp.sl (dp (FY rfl rfl) (da (de Z9 ?_)));refine wi (λc5=>?_) λc5=>?_
 ·refine ws λ_ ya=>wr (da (de ya (EH ?_)));refine ro ?_;rw[X5s c2 xc EA];exact⟨_,rfl,r.mono (λ_ h _=>h.elim),rfl,ht.grow r⟩
 have xa:¬ 524288<p.length:=by omega
 refine EG (Z2 _ _ (ws λ_ yd=>wr (FG (cs:=[.slice none 0 0]) rfl E9 RX.all (λb1 w2 e1 x2 m1=>?_))));have g1:=r.ge e1;have a1_hl:=J.lt;have a1_hE:=z.lt;have a1_hA:=hA.lt;have J:=J.ext x2;have z:=z.ext x2;have hA:=hA.ext x2;have r:=r.trans x2;refine de yd (ws λ_ xy=>wr (dm ?_));refine li (e:=3) (sz:=1) (zs:=[.int .i64 0]) (pv:=[(0,_)]) (cs:=[_]) RX.all (λb2 w3 e2 x3 m2=>?_);have g2:=r.ge e2;have n2_1:=m1.ltb e2;have a2_hl:=J.lt;have a2_hE:=z.lt;have a2_hA:=hA.lt;have J:=J.ext x3;have z:=z.ext x3;have hA:=hA.ext x3;have m1:=m1.ext x3;have r:=r.trans x3;have O:Wr w.heap.size b1 (.slice none 0 0) [] w3:=⟨m1,Vc.Own.nil⟩;refine cD (JQ w.heap.size b1 (.slice none 0 0) [] [ix] (.slice (some ⟨b2,0,none⟩) 1 1) _ O EQ r.size (m2.arr (enc:=Vc.encI) (sz:=1) (l:=[ix]) rfl EE rfl EQ) EQ (λk hk _ e=>hk.elim (λh=>by have e2:b2=k:=e;omega) (λh=>by cases h))) (.inl rfl) λu4 w4 x4 yl=>?_;have hsz4:=r.size;have J:=J.mod x4 (λh=>by have h8:=O.ge g1 h;omega);have z:=z.mod x4 (λk hk h=>by have h9:=Y k hk;have h8:=O.ge g1 h;omega);have hA:=hA.mod x4 (λk hk h=>by have h9:=hf k (ha k (.inl hk));have h8:=O.ge g1 h;omega);have r:=r.own x4 (λi hi=>O.ge g1 hi);obtain⟨rfl,v2,O,hg2⟩:=yl;refine de xy (ws λ_ yh=>wr (dm ?_));refine Ib (e:=82) (sz:=1) (zs:=[.slice none 0 0]) (pv:=[(0,?a27_0)]) (cs:=[?a27_0]) rfl E9 ⟨rfl,rfl⟩ E9 rfl ?h27 ?f27 RX.all (λb3 w5 e3 x5 m3=>?k27)
 case h27=>refine⟨rfl,?_,trivial⟩<;>(conv=>lhs;whnf)
 case f27=>simp [Hw,Fe,Aw,hp.sl.cells]
 have g3:=r.ge e3;have a3_hl:=J.lt;have a3_hE:=z.lt;have a3_hA:=hA.lt;have hr:=O.lt;have J:=J.ext x5;have z:=z.ext x5;have hA:=hA.ext x5;have O:=O.ext x5;have r:=r.trans x5;refine cD (KO w.heap.size b1 v2 _ [(vp,p)] (.slice (some ⟨b3,0,none⟩) 1 1) _ O (by rw[AE];omega) r.size (Kk m3) (λq h=>by rw[Ah.1 h];exact hp.ext r) (λq h=>by rw[Ah.1 h];exact hpl) EQ (λ_ h=>A6 b3 (AF (hr _ h) e3.symm)) (λq h J h2=>by rw[Ah.1 h]at J h2;have h8:=hp.base_lt EK J;have h7:=O.ge g1 h2;exact absurd (A0 h8 h7) (A6 _))) (.inl rfl) λu6 w6 x6 yi=>?_;have hsz6:=r.size;have J:=J.mod x6 (λh=>by have h8:=O.ge g1 h;omega);have z:=z.mod x6 (λk hk h=>by have h9:=Y k hk;have h8:=O.ge g1 h;omega);have hA:=hA.mod x6 (λk hk h=>by have h9:=hf k (ha k (.inl hk));have h8:=O.ge g1 h;omega);have r:=r.own x6 (λi hi=>O.ge g1 hi);obtain⟨rfl,v3,O,hg3⟩:=yi;refine de yh ?_;refine Hz (G:=(Nat->Prop)×Dsk×Int) (λ(F1,D1,e1)=>[(0,ED bl 0),(1,I ix),(2,vp),(6,I 0),(8,I e1)]) (λ(F1,D1,e1) w'=>Mod H w w'/\FV F1 bd D1 w'/\LedE G bl bd vd ve vs L w'/\(∀k,F1 k->F k\/w.heap.size<=k)/\EL w' bl [ED bd 0,S [115],I L.base,vd,ve,B L.dead] 147/\D.save Led.img (Led.ent ix p)=(e1,D1)) ?_ ?_
 ·refine F4 (R:=EB) EB.refl (λ_ _ _=>EB.trans) E9 [3] [(0,.p,false),(1,.p,false),(2,.p,false),(3,.l,false),(4,.p,false),(5,.x,false),(6,.x,false),(7,.x,false),(8,.x,true),(9,.p,false)] rfl E9 E9 (λw7 xq=>?_);have x7:=EJ xq;clear xq;have J:=J.ext x7;have z:=z.ext x7;have hA:=hA.ext x7;have O:=O.ext x7;have r:=r.trans x7;refine dm ?_;refine dz rfl (df 0 rfl (dL rfl (λ_ hR=>((J.ext hR).at rfl)) (dm ?_)));refine cP (Gl G bl bd vd ve vs L _ z) RX.ext λw8 x8=>?_;have J:=J.ext x8;have z:=z.ext x8;have hA:=hA.ext x8;have O:=O.ext x8;have r:=r.trans x8;refine cG (MK w.heap.size b1 v3 _ _ O (by simp only [AE,Ab,Aq,Bk,AD,Ce,AP,Fp,FX]at *;have h5:=Gd p.length;omega)) RX.ext λvo w9 x9 hB=>?_;have hsz9:=r.size;have J:=J.ext x9;have z:=z.ext x9;have hA:=hA.ext x9;have r:=r.trans x9;rw[show([]++[ix].flatMap FX)++BI Fp ([(vp,p)].map (λq:Value×EC=>q.2))=Led.ent ix p by rw[AE];exact WV EA EA]at hB;refine Ib (e:=82) (sz:=1) (zs:=[.slice none 0 0]) (pv:=[(0,?a30_0)]) (cs:=[?a30_0]) rfl E9 ⟨rfl,rfl⟩ E9 rfl ?h30 ?f30 RX.ext (λb4 w10 e4 hh m4=>?k30)
  case h30=>refine⟨rfl,?_,trivial⟩<;>(conv=>lhs;whnf)
  case f30=>simp [Hw,Fe,Aw,hB.sl.cells]
  have g4:=r.ge e4;have a4_hl:=J.lt;have a4_hE:=z.lt;have a4_hA:=hA.lt;have o4_hB:=hB.ltb e4;have J:=J.ext hh;have z:=z.ext hh;have hA:=hA.ext hh;have hB:=hB.ext hh;have r:=r.trans hh;refine cD (QK F bd D Led.img (Led.ent ix p) vo _ _ hA (m4.arr (enc:=λx:Value=>[x]) (sz:=1) (l:=[vo]) rfl EE rfl EQ) (hB.arr EE) EA EK) (.inl rfl) λu11 w11 xj xv=>?_;have xi:=r.size;have J:=J.mod xj (λh=>hc bl h (z.inG bl (.inl rfl)));have z:=z.mod xj (λk hk h=>hc k h hk);have r:=(r.mod xj).mono (λi hi _=>(ha i (.inl hi):H i));obtain⟨rfl,hA⟩:=xv;have xw:=xi;refine da (EF (?_));exact⟨(_,_,_),FA,r,hA,z,LN xw,J,rfl⟩
 intro X12 ym w12 xl;obtain⟨F1,D1,e1⟩:=ym;clear r J z hA O;obtain⟨r,hA,z,hb,J,xu⟩:=xl;have hs1:=r.size;refine Hz (G:=(Nat->Prop)×Dsk×Int) (λ(F2,D2,e)=>[(0,ED bl 0),(1,I ix),(2,vp),(6,I 0),(8,I e)]) (λ(F2,D2,e) w'=>Mod H w w'/\FV F2 bd D2 w'/\LedE G bl bd vd ve vs L w'/\(∀k,F2 k->F k\/w.heap.size<=k)/\EL w' bl [ED bd 0,S [115],I L.base,vd,ve,B L.dead] 147/\LJ D ix p=(e,D2)) ?_ ?_
 ·refine ws λ_ xz=>wr (dm ?_);refine dp (G1 rfl rfl) (de xz (wi (λc6=>?_) λc6=>?_))
  ·refine F4 (R:=EB) EB.refl (λ_ _ _=>EB.trans) E9 [3] [(0,.p,false),(1,.p,false),(2,.p,false),(3,.l,false),(4,.p,false),(5,.x,false),(6,.x,false),(7,.x,true),(8,.p,false)] rfl E9 E9 (λw13 h6=>?_);have hq:=EJ h6;clear h6;have hA:=hA.ext hq;have z:=z.ext hq;have J:=J.ext hq;have r:=r.ext hq;refine dm ?_;refine dz rfl (df 0 rfl (dL rfl (λ_ hR=>((J.ext hR).at rfl)) (dm ?_)));refine cP (FN G bl bd vd ve vs L _ z) RX.ext λw14 hz=>?_;have hA:=hA.ext hz;have z:=z.ext hz;have J:=J.ext hz;have r:=r.ext hz;refine li (e:=9) (sz:=1) (zs:=[S []]) (pv:=[(0,_)]) (cs:=[_]) RX.ext (λb5 w15 e5 hw m5=>?_);have g5:=r.ge e5;have xd:=hA.lt;have a5_hE:=z.lt;have a5_hl:=J.lt;have hA:=hA.ext hw;have z:=z.ext hw;have J:=J.ext hw;have r:=r.ext hw;refine cD (Hc F1 bd D1 [Led.logn] _ _ hA (Lx m5) EQ (λ_ hF=>A6 b5 (AF (xd _ hF) e5.symm))) (.inl rfl) λu16 w16 xk xx=>?_;have hsz16:=r.size;have z:=z.mod xk (λk hk h=>(hb _ h).elim (λh=>hc _ h hk) (λh=>by have h9:=Y _ hk;omega));have J:=J.mod xk (λh=>(hb _ h).elim (λh=>hc _ h (z.inG bl (.inl rfl))) (λh=>by have h9:=Y _ (z.inG bl (.inl rfl));omega));have r:=r.own xk (λi hi hf=>ha i (.inl ((hb i hi).resolve_right EA)));obtain⟨rfl,hA⟩:=xx;refine da (EF (?_));exact⟨(_,_,_),FA,r,hA,z,λk hk=>hk.elim (hb k) (λh9=>.inr EA),J,by unfold LJ;rw[xu,if_pos c6]⟩
  refine EG ?_;exact⟨(F1,D1,e1),FA,r,hA,z,hb,J,by unfold LJ;rw[xu,if_neg c6]⟩
 intro X17 ye w17 xt;obtain⟨F2,D2,e⟩:=ye;clear r hA z J;obtain⟨r,hA,z,Z,J,hR⟩:=xt;have hsw:=r.size;refine ws λ_ xp=>ws λ_ x0=>wr (dm (dm ?_));refine cD (VY G bl bd vd ve vs L e _ z) (.inl rfl) λu18 yg xo xr=>?_;have hsz18:=r.size;have hA:=hA.mod xo (λk hk e9=>by have e8:k=bl:=e9;subst e8;exact(Z _ hk).elim (λh=>hc _ h (z.inG _ (.inl rfl))) (λh=>by have h9:=Y _ (z.inG _ (.inl rfl));omega));have r:=r.own xo (λi hi hf=>(by have e2:i=bl:=hi;rw[e2];exact ha bl (.inr (z.inG bl (.inl rfl)))));obtain⟨rfl,z⟩:=xr;refine dp (G1 rfl rfl) (de x0 (wi (λc7=>?_) λc7=>?_))
 ·have xe:e=0:=c7;have xf:{ L with dead:=L.dead || decide (e≠0) } = L:=by rw[c2,xe];cases L;simp at c2 ⊢;exact c2
  rw[xf]at z;have J:=z.m;have yc:=hA.lt;have xm:=r.size;refine wr (dm (dm (dm (dm (dm ?_)))));refine cG (Lp p vp _ (hp.mod r hpH) EA) RX.all λvc w19 hy hC=>?_;have hsz19:=r.size;have hA:=hA.ext hy;have J:=J.ext hy;have r:=r.ext hy;have hj:=hC.ne_blk J rfl;refine dz rfl (df 2 rfl (G5 J (λw20 xb xs20 J=>?_) (hv:=by rfl)));dsimp only [Fe,Ag,Af,Ai]at J;have hA:=hA.mod xb (λk hk e9=>by have e8:k=bl:=e9;subst e8;exact(Z _ hk).elim (λh=>hc _ h (z.inG _ (.inl rfl))) (λh=>by have h9:=Y _ (z.inG _ (.inl rfl));omega));have hC:=hC.mod xb (λk hk h=>hj (by have h2:k=bl:=h;rw[hk,h2]));have r:=r.own xb (λi hi _=>(by have e2:i=bl:=hi;rw[e2];exact ha bl (.inr (z.inG bl (.inl rfl)))));refine dz rfl (df 3 rfl (G5 J (λw21 xg xs21 J=>?_) (hv:=by exact hC.sl.one)));dsimp only [Fe,Ag,Af,Ai]at J;have hA:=hA.mod xg (λk hk e9=>by have e8:k=bl:=e9;subst e8;exact(Z _ hk).elim (λh=>hc _ h (z.inG _ (.inl rfl))) (λh=>by have h9:=Y _ (z.inG _ (.inl rfl));omega));have hC:=hC.mod xg (λk hk h=>hj (by have h2:k=bl:=h;rw[hk,h2]));have r:=r.own xg (λi hi _=>(by have e2:i=bl:=hi;rw[e2];exact ha bl (.inr (z.inG bl (.inl rfl)))));refine dz rfl (df 4 rfl (G5 J (λxn xh xs22 J=>?_) (hv:=by rfl)));dsimp only [Fe,Ag,Af,Ai]at J;have hA:=hA.mod xh (λk hk e9=>by have e8:k=bl:=e9;subst e8;exact(Z _ hk).elim (λh=>hc _ h (z.inG _ (.inl rfl))) (λh=>by have h9:=Y _ (z.inG _ (.inl rfl));omega));have hC:=hC.mod xh (λk hk h=>hj (by have h2:k=bl:=h;rw[hk,h2]));have r:=r.own xh (λi hi _=>(by have e2:i=bl:=hi;rw[e2];exact ha bl (.inr (z.inG bl (.inl rfl)))));refine de xp (ws λ_ yf=>wr (dm (da (de yf (EH ?_)))));refine ro ?_;have hs22:=hy.size;rw[c2]at J;have yk:=z.image (w':=xn) (i:=ix) (p:=p) EA J (hC.arr EE) (λhn=>(hC.base_ge hn).1) EA EA EA;refine⟨_,rfl,r,?_⟩;rw[X5t c2 xc xa (by rw[hR,xe];simp),hR,xe];refine⟨rfl,F2,G2 G yg xn,vc,_,_,hA,yk,λk hk hg=>?_,λk hk=>hk.elim (λh=>(Z k h).elim (λh2=>.inl (ha k (.inl h2))) (λh2=>.inr ⟨h2,hA.lt k h⟩)) (λh=>?_),HV hf r.size⟩
  ·rcases hg with hg|hg
   ·exact(Z k hk).elim (λh=>hc k h hg) (λh=>by have:=Y k hg;omega)
   ·have:=yc k hk;omega
  ·rcases h with h|h
   ·exact .inl (ha k (.inr h))
   ·exact .inr ⟨Ae xm h.1,h.2⟩
 refine EG (xp _ _ (ws λ_ yj=>wr (dm (da (de yj (EH ?_))))));refine ro ?_;have xf:{ L with dead:=L.dead || decide (e≠0) } = { L with dead:=true }:=by rw[c2];simp [show¬ e=0 from c7]
 rw[xf]at z;refine⟨_,rfl,r,?_⟩;rw[X9f c2 xc xa (by rw[hR];exact c7),hR];exact⟨rfl,F2,G,vd,ve,vs,hA,z,λk hk hg=>(Z k hk).elim (λh=>hc k h hg) (λh=>by have:=Y k hg;omega),λk hk=>hk.elim (λh=>(Z k h).elim (λh2=>.inl (ha k (.inl h2))) (λh2=>.inr ⟨h2,hA.lt k h⟩)) (λh=>.inl (ha k (.inr h))),HV hf r.size⟩
theorem W5 (i:Int)(p:EC):Led.ent i p=EV i.toNat++(Fp p++[]):=by unfold Led.ent;rw[AP]
theorem Ybh (G:Nat->Prop)(bl bd:Nat)(vd ve:Value)(vs:List (Value×EC))(L:Led)(k:Nat)(p:EC)(w:World)(h:LedE G bl bd vd ve vs L w)(hk:L.ents[k]?=some p) :
  Calls Tryz.prog 127 [ED bl 0,I (L.base+1+↑k)].toArray w (ER w (λu w'=>∃v,u=.tuple #[v,I 0]/\Vc.Own EP 1 5 w.heap.size w' v p)):=by
 refine cw Tryz.func127 ?_;have r:=EB.refl w;have Z:=h.m;obtain⟨q,hq,hqp⟩:∃q,vs[k]?=some q/\q.2=p:=by
  have h9:=hk;rw[<-h.es,AH]at h9;obtain⟨q,h8,h7⟩:=Option.map_eq_some_iff.1 h9;exact⟨q,h8,h7⟩
 have z:(vs.map (·.1))[k]?=some q.1:=by rw[AH,hq];rfl
 have Y:EM EP 1 w q.1 p:=hqp▸h.el q (Ak hq);have hpl:=h.pl p (Ak hk);have hkl:=(List.getElem?_eq_some_iff.1 hk).1;have hla:=h.la;have hb0:=h.b0;have hb1:=h.b1;have hlb:=h.lenB;have hle:L.last=L.base+↑L.ents.length:=rfl;refine ws λ_ Z1=>wr (da (da (de Z1 (ws λ_ Z2=>ws λ_ Z3=>wr (dm ?_)))));refine dp (Gj E9 rfl rfl) (dm ?_);refine Fz 8 rfl (λc1=>?_) (λc1=>?_)
 ·exact absurd c1 EQ
 iterate 2 refine dm ?_
 refine dz rfl (df 2 rfl (dl rfl ((Z.ext r).at rfl) (dp (IM rfl rfl) (EO ?_))));refine dm ?_;refine Fz 16 rfl (λc2=>?_) (λc2=>?_)
 ·omega
 iterate 2 refine dm ?_
 refine cP (G3 G bl bd vd ve vs L _ (h.ext r)) RX.all λw1 x1=>?_;have r:=r.trans x1;refine dp (FY rfl rfl) (EO (de Z3 ?_));refine wi (λc3=>?_) λc3=>?_
 ·omega
 refine EG (Z2 _ _ (ws λ_ Z4=>F4 (R:=EB) EB.refl (λ_ _ _=>EB.trans) E9 [3,8,12] [(0,.p,false),(1,.p,false),(2,.p,false),(3,.l,false),(4,.p,false),(5,.p,false),(6,.p,false),(7,.p,false),(8,.l,false),(9,.p,false),(10,.p,false),(11,.p,false),(12,.l,false),(13,.x,false),(14,.p,false),(15,.p,false)] rfl E9 E9 (λw2 O=>?_)));have x2:=EJ O;clear O;have r:=r.trans x2;refine dm ?_;refine dz rfl (df 4 rfl (dL rfl (λ_ J=>((Z.ext (r.trans J)).at rfl)) (dm (dm ?_))));refine dz rfl (df 2 rfl (dL rfl (λ_ J=>((Z.ext (r.trans J)).at rfl)) (ps rfl rfl (EW (v:=I ↑k) rfl (Ga rfl rfl (by unfold ET;omega)) (by show I _=I _;congr 1;omega) (di 82 1 (h.earr.ext r).sl rfl ((h.earr.ext r).lt z) (dL rfl (λ_ J=>((((h.earr.ext r).ext J).row z).at0 rfl)) (cG (Lp p q.1 _ (Y.ext r) EA) RX.ext λu3 w3 x3 hO=>?_)))))));have hsz3:=r.size;have r:=r.trans x3;refine da (da (de Z4 (EH ?_)));refine rt ?_;exact⟨_,rfl,r,_,rfl,hO.mono EA⟩
theorem X5v (G:Nat->Prop)(bt bl bd:Nat)(vd ve:Value)(vs:List (Value×EC))(L:Led)(last:Int)(p:EC)(vp:Value)(w:World)(h:LedE G bl bd vd ve vs L w)(r:EL w bt [ED bl 0,I last] 270)(hbG:¬ G bt)(hp:EM EP 1 w vp (Led.ent (L.last+1) p))(hpl:p.length<=65536)(hll:L.last<1099511627776)(hd:L.dead=false)(hla:last=-1\/last=L.last) :
  Calls Tryz.prog 192 [ED bt 0,vp].toArray w (Fh (λk=>k=bt\/G k) w (λu w'=>u=B true/\EL w' bt [ED bl 0,I (L.last+1)] 270/\∃ve' vs',LedE (G2 G w w') bl bd vd ve' vs' { L with ents:=L.ents++[p] } w')):=by
 refine cw Tryz.func192 ?_;have J:=Vc.Mod.refl (λk=>k=bt\/G k) w;have Y:=h;have z:=h.m;have hq:=h.lt;have hj:=h.inG bl (.inl rfl);have hbne:bt≠bl:=λe=>hbG (e▸hj);have hblt:=z.lt;have hbtl:=r.lt;have hb0:=h.b0;have hle:L.last=L.base+↑L.ents.length:=rfl;have hnl:=Gd (L.last+1).toNat;have helen:=M3 (L.last+1) p;have xa:=W5 (L.last+1) p;have h7:=congrArg A7 xa;simp only [Ab]at h7;refine ws λ_ Z1=>wr (da (de Z1 (ws λ_ Z2=>wr (dm ?_))));refine cG (MM (Led.ent (L.last+1) p) vp _ hp EA) RX.all λu1 w1 x1 xf=>?_;have hz:=J.size;have r:=r.ext x1;have Y:=Y.ext x1;have z:=z.ext x1;have J:=J.ext x1;obtain⟨br,bb,xe,rfl,xi,gbb,Z⟩:=xf;have hbrw:w.heap.size<=br:=Ae hz xi;rw[xa]at Z;refine da (de Z2 (ws λ_ Z3=>wr (dm ?_)));refine cD (KW br bb xe _ false _ Z (by simp only [Ab];omega)) (.inl rfl) λu2 w2 x2 xn=>?_;have hsz2:=J.size;have r:=r.mod x2 (λh9=>by have h2:bt=br:=h9;omega);have Y:=Y.mod x2 (λk hk h9=>by have h2:k=br:=h9;have h8:=hq k hk;omega);have z:=z.mod x2 (λh9=>by have h2:bl=br:=h9;omega);have J:=J.own x2 (λi hi hh=>absurd hh (Bi.2 ((by have h2:i=br:=hi;omega))));obtain⟨hg,xm,Z⟩:=xn;rw[JK _ _ EA]at hg Z;dsimp only at hg Z;rw[show(((L.last+1).toNat:Nat):Int)=L.last+1 by omega]at hg;subst hg;refine dm ?_;refine cD (KI br bb xm _ false _ Z (by simp only [Ab];omega)) (.inl rfl) λvB w3 x3 xp=>?_;have hy:=J.size;have r:=r.mod x3 (λh9=>by have h2:bt=br:=h9;omega);have Y:=Y.mod x3 (λk hk h9=>by have h2:k=br:=h9;have h8:=hq k hk;omega);have z:=z.mod x3 (λh9=>by have h2:bl=br:=h9;omega);have J:=J.own x3 (λi hi hh=>absurd hh (Bi.2 ((by have h2:i=br:=hi;omega))));obtain⟨hw,xh,Z⟩:=xp;rw[K8 _ _ _ EA]at hw Z;dsimp only at hw Z;have O:=hw.mono hy;refine da (da (de Z3 ?_));refine Hz (G:=Unit) (λuu=>[(0,ED bt 0),(6,I (L.last+1)),(7,vB)]) (λuu w'=>Mod (λk=>k=bt\/G k) w w'/\EL w' bt [ED bl 0,I last] 270/\LedE G bl bd vd ve vs L w'/\EL w' bl [ED bd 0,S [115],I L.base,vd,ve,B L.dead] 147/\Vc.Own EP 1 5 w.heap.size w' vB p) ?_ ?_
 ·refine ws λ_ Z4=>wr (dm ?_);refine cP (PQ br bb xh [] false _ Z) RX.all λw4 x4=>?_;have r:=r.ext x4;have Y:=Y.ext x4;have z:=z.ext x4;have Z:=Z.ext x4;have O:=O.ext x4;have J:=J.ext x4;refine dn (dm ?_);refine I8 17 rfl (λc1=>?_) (λc1=>?_)
  ·simp at c1
  refine dm ?_;refine dp (Fa rfl rfl) (EO ?_);refine dm ?_;refine Fz 21 rfl (λc2=>?_) (λc2=>?_)
  ·omega
  refine dm ?_;refine dp (FY rfl rfl) (EO ?_);refine dm ?_;refine Fz 25 rfl (λc3=>?_) (λc3=>?_)
  ·omega
  refine dm ?_;refine dz rfl (df 1 rfl (dl rfl (r.at rfl) (dp (IB rfl rfl) (dm ?_))));refine Fz 31 rfl (λc4=>?_) (λc4=>?_)
  ·iterate 2 refine dm ?_
   refine dz rfl (df 1 rfl (dl rfl (r.at rfl) (pa rfl rfl (dp (F8 rfl rfl) (EO ?_)))));refine EO (de Z4 ?_);refine wi (λc5=>?_) λc5=>?_
   ·omega
   refine EG ?_;exact⟨(),Hj,J,r,Y,z,O⟩
  refine dk (dk (dk (dk (dk (dk (dk (EO ?_)))))));refine EO (de Z4 ?_);refine GB rfl (EG ?_);exact⟨(),Hj,J,r,Y,z,O⟩
 intro X5 g5 w5 hr;revert hr;revert g5;intro uu hr;clear J r Y z Z O;obtain⟨J,r,Y,z,O⟩:=hr;refine ws λ_ Z5=>wr (dm (dm ?_));refine dz rfl (df 1 rfl (G5 r (λw6 x6 xs6 r=>?_) (hv:=by rfl)));dsimp only [Fe,Ag,Af,Ai]at r;have Y:=Y.mod x6 (λk hk e=>by have h2:k=bt:=e;exact hbG (h2▸hk));have z:=z.mod x6 (by intro h;have h2:_=bt:=h;omega);have O:=O.mod x6 (λk hk h=>by have h1:=(O.lt k hk).1;have h2:k=bt:=h;omega);have J:=J.own x6 (λi hi _=>(by exact .inl hi));refine de Z5 (ws λ_ Z6=>ws λ_ Z7=>wr (dm (dm ?_)));refine dz rfl (df 0 rfl (dl rfl (r.at rfl) (dz rfl (df 2 rfl (dl rfl (z.at rfl) (dp (IM rfl rfl) (de Z7 (wi (λc6=>?_) λc6=>?_))))))))
 ·omega
 refine EG (Z6 _ _ (ws λ_ Z8=>ws λ_ Z9=>wr (dm (dm ?_))));refine dz rfl (df 0 rfl (dl rfl (r.at rfl) (cP (G3 G bl bd vd ve vs L _ Y) RX.all λw7 x7=>?_)));have r:=r.ext x7;have Y:=Y.ext x7;have z:=z.ext x7;have O:=O.ext x7;have J:=J.ext x7;refine pa rfl rfl (dp (F8 rfl rfl) (de Z9 (wi (λc7=>?_) λc7=>?_)))
 ·omega
 have ho:=Y.e;have ha:=Y;have xb:=J.size;refine EG (Z8 _ _ (ws λ_ xg=>F4 (R:=Mod (λk=>ve.ownBlock=some k)) J0 JY E9 [3,7,10] [(0,.p,false),(1,.p,false),(2,.p,false),(3,.l,false),(4,.p,false),(5,.p,false),(6,.p,false),(7,.l,false),(8,.p,false),(9,.p,false),(10,.l,false),(11,.p,false),(12,.x,false),(13,.x,false),(14,.p,false),(15,.p,false),(16,.x,true)] rfl E9 E9 (λw8 h5=>?_)));have x8:=EJ h5;clear h5;have r:=r.ext x8;have z:=z.ext x8;have O:=O.ext x8;have ho:=ho.ext x8;have J:=J.ext x8;refine dm ?_;refine dz rfl (df 0 rfl (dL rfl (λ_ Z=>((r.mod Z (λe=>hbG (ha.inG _ (.inr (.inl e))))).at rfl)) (dm ?_)));refine dz rfl (df 0 rfl (dL rfl (λ_ Z=>((r.mod Z (λe=>hbG (ha.inG _ (.inr (.inl e))))).at rfl)) (dz rfl (df 4 rfl (dL rfl (λ_ Z=>((z.mod Z (ho.ne_blk z rfl)).at rfl)) (dm ?_))))));refine Ib (e:=82) (sz:=1) (zs:=[.slice none 0 0]) (pv:=[(0,?a35_0)]) (cs:=[?a35_0]) rfl E9 ⟨rfl,rfl⟩ E9 rfl ?h35 ?f35 RX.mod (λb1 w9 e1 x9 m1=>?k35)
 case h35=>refine⟨rfl,?_,trivial⟩<;>(conv=>lhs;whnf)
 case f35=>simp [Hw,Fe,Aw,O.sl.cells]
 have g1:=J.ge e1;have a1_hb:=r.lt;have a1_hl:=z.lt;have o1_hB:=O.ltb e1;have o1_ho:=ho.ltb e1;have r:=r.ext x9;have z:=z.ext x9;have O:=O.ext x9;have ho:=ho.ext x9;have J:=J.ext x9;refine KG (lx:=[vB]) (e:=82) (sz:=1) (by':=24) rfl E9 E9 EE ho (m1.arr (enc:=K6) (sz:=1) (l:=[vB]) rfl EE rfl (Ap rfl)) rfl rfl (by intro x xl u hu;rw[Ah.1 xl]at hu;rw[Ah.1 hu];exact O.sl.one) (by have:=Y.len;simp;omega) EK (Ad _) (.inr λ_ h=>h) (λv2 w10 h6 hc ht=>?_);have xd:=ht;have xo:=hc;have r:=r.mod hc (by exact(λe=>hbG (ha.inG _ (.inr (.inl e)))));have z:=z.mod hc (by exact ho.ne_blk z rfl);have O:=O.mod hc (by exact(λk hk e=>O.ne ho rfl hk e));have J:=J.own hc (λi hi hh=>.inr (ha.inG i (.inr (.inl hi))));have ho:=h6;have xc:=ho.ne_blk z rfl;clear m1;refine dz rfl (df 4 rfl (G5 z (λw11 hf xs11 z=>?_) (hv:=by exact FW.one ho.sl)));dsimp only [Fe,Ag,Af,Ai]at z;have r:=r.mod hf (by assumption);have O:=O.mod hf (λk hk h=>by have h1:=(O.lt k hk).1;have h2:k=bl:=h;omega);have ho:=ho.mod hf (λk hk h=>xc (by have h2:k=bl:=h;rw[hk,h2]));have J:=J.own hf (λi hi _=>(by exact .inr (by have e2:i=bl:=hi;rw[e2];exact hj)));refine de xg (ws λ_ xj=>wr (da (de xj (EH ?_))));refine ro ?_;have mB:=((EB.mod (x8.trans x9) xo).mono (λk hk _=>(.inl hk:ve.ownBlock=some k\/k=bl))).own hf (λk hk _=>.inr hk);have xk:=ha.add (w0:=w) (p:=p) hll hpl hd xb h.lt mB (λk hk=>hk.elim (λh=>.inr (.inl h)) .inl) z ho (xd.imp id (λe2 k hk=>by rw[e2]at hk;cases hk;exact Ae xb (Ae x8.size x9.size))) (O.arr EE) (λhn=>(O.base_ge hn).1) (λhn e=>O.ne ho rfl (O.base_block hn) e);exact⟨_,rfl,J,rfl,r,_,_,xk⟩
def Nl (h:UInt32)(c:UInt8):UInt32:=(h ^^^ c.toUInt32)*16777619
def Mm (s:EC):UInt32:=s.foldl Nl 2166136261
def OC (s:EC):UInt32:=(Mm s >>> 17) ||| (Mm s <<< 15)
def NS (s:EC)(n i:Nat):Nat:=(Mm s+AQ i*OC s).toNat % n
def IU (s:EC)(n:Nat):List Nat:=(List.range 6).map (NS s n)
section
variable {P:Program}{E:Fg}{dd:Option Tmp}{ty:TypeId}{pos:String}{af:Array Edge}{g:Option (Nat×Bool)}{x y:Operand}{T U:TypeId}
theorem Uw {a b:UInt32}(hx:ev E x=GM a)(hy:ev E y=GM b):PV P ⟨dd,.binOp .mul T x y U,ty,pos,af,g⟩ E (GM (a*b)):=by
 have:=UV (P:=P) (d:=dd) (ty:=ty) (pos:=pos) (af:=af) (g:=g) (T:=T) (U:=U) hx hy;rwa [KY,show((a.toNat:Int)*(b.toNat:Int)) % 4294967296=((a*b).toNat:Int) by rw[UInt32.toNat_mul];omega]at this
theorem X5w {a b:UInt32}(hx:ev E x=GM a)(hy:ev E y=GM b):PV P ⟨dd,.binOp .add T x y U,ty,pos,af,g⟩ E (GM (a+b)):=by
 have:=X4m (P:=P) (d:=dd) (ty:=ty) (pos:=pos) (af:=af) (g:=g) (T:=T) (U:=U) hx hy;rwa [KY,show((a.toNat:Int)+(b.toNat:Int)) % 4294967296=((a+b).toNat:Int) by rw[UInt32.toNat_add];omega]at this
theorem K5 {n:Nat}{k:IntKind}(hn:n<18446744073709551616)(hx:ev E x=.int k n)(hT:(P.underlying T).isSome=true)(hU:H3 P U=some .u64):PV P ⟨dd,.convert T U x,ty,pos,af,g⟩ E (.int .u64 (n:Int)):=by
 have:=JB (P:=P) (d:=dd) (ty:=ty) (pos:=pos) (af:=af) (g:=g) hx hT hU;rwa [NJ hn]at this
theorem La {n:Nat}(hn:n<9223372036854775808)(hx:ev E x=.int .u64 (n:Int))(hT:(P.underlying T).isSome=true)(hU:H3 P U=some .i64):PV P ⟨dd,.convert T U x,ty,pos,af,g⟩ E (I (n:Int)):=by
 have:=JB (P:=P) (d:=dd) (ty:=ty) (pos:=pos) (af:=af) (g:=g) hx hT hU;rwa [KT (by unfold ET;omega)]at this
theorem Xzx {a b:Nat}(hb:0<b)(hx:ev E x=.int .u64 (a:Int))(hy:ev E y=.int .u64 (b:Int)):PV P ⟨dd,.binOp .rem T x y U,ty,pos,af,g⟩ E (.int .u64 ((a % b:Nat):Int)):=by
 have:=Qi (P:=P) (dd:=dd) (ty:=ty) (pos:=pos) (af:=af) (g:=g) (T:=T) (U:=U) hx hy EA EA;rwa [show(a:Int) % (b:Int)=((a % b:Nat):Int) by omega]at this
end
theorem Xvz {s:EC}{k:Nat}{c:UInt8}(h:s[k]?=some c):(s.take (k+1)).foldl Nl 2166136261=Nl ((s.take k).foldl Nl 2166136261) c:=by
 rw[Gs h,List.foldl_append];rfl
theorem Ob (s:EC)(n:Nat):(IU s n).length=6:=by simp [IU]
theorem Xtc {s:EC}{n i:Nat}(h:i<6):(IU s n)[i]?=some (NS s n i):=by simp [IU,h]
theorem X9g (s:EC)(w:World)(hs:s.length<=1000000000) :
  Calls Tryz.prog 311 [S s].toArray w (Pure w (GM (Mm s))):=by
 refine cw Tryz.func311 ?_;have r:=EB.refl w;refine ws λ_ Z1=>wr (da (de Z1 (ws λ_ Z2=>wr (da (de Z2 (ws λ_ Z=>ws λ_ Z4=>wr (dm ?_)))))));refine dt rfl (dm (de Z4 (EN ?_)));refine Fk (G:=Nat×UInt32) (λ(k,h)=>[(0,S s),(2,.int .u32 0),(3,GM h),(6,I ↑s.length),(7,I ↑k)]) (λ(k,h) w'=>EB w w'/\k<=s.length/\h=(s.take k).foldl Nl 2166136261) (λ(k,h)=>s.length-k) (0,2166136261) ?_ ?_ ?_
 ·exact FA
 ·exact⟨r,Ad _,rfl⟩
 intro X1 g1 w1 J;obtain⟨k,h⟩:=g1;clear r;obtain⟨r,hk1,z⟩:=J;refine ws λ_ Z5=>wr (dp (Fa rfl rfl) (de Z5 (ws λ_ O=>wi (λY=>?_) λY=>?_)))
 ·obtain⟨c,hk⟩:∃c,s[k]?=some c:=Fq;refine EG (O _ _ (ws λ_ Z7=>EN (ws λ_ Z8=>wr (dm (da (de Z8 (wr (dm (dm (dm ?_))))))))));refine dp (Xze E9 rfl rfl hk) (dp (Na rfl E9 E9) (dp (RE rfl rfl) (dp (Uw (b:=16777619) rfl rfl) (da (de Z7 (wr ?_))))));refine pa rfl rfl (dm (EF (?_)));refine⟨(k+1,Nl h c),FA,⟨r,by omega,by rw[Xvz hk,<-z]⟩,by simp only [];omega⟩
 refine Ff (Z _ _ (ws λ_ Z9=>wr (dm (da (de Z9 (EH ?_))))));refine ro ?_;rw[Ax EA]at z;exact⟨by rw[z];rfl,r⟩
theorem Wc (s:EC)(n:Nat)(w:World)(hs:s.length<=1000000000)(h0:0<n)(hn:n<=9223372036854775807) :
  Calls Tryz.prog 255 [S s,I ↑n].toArray w (Pure w (.agg ⟨FP (IU s n)⟩)):=by
 refine cw Tryz.func255 ?_;have r:=EB.refl w;refine ws λ_ Z1=>wr (FG (cs:=[.int .i64 0,.int .i64 0,.int .i64 0,.int .i64 0,.int .i64 0,.int .i64 0]) rfl E9 RX.all (λb1 w1 e1 x1 z=>?_));have g1:=r.ge e1;have r:=r.trans x1;refine de Z1 (ws λ_ Z2=>wr (FG (cs:=[.int .i64 0,.int .i64 0,.int .i64 0,.int .i64 0,.int .i64 0,.int .i64 0]) rfl E9 RX.all (λb2 w2 e2 x2 J=>?_)));have g2:=r.ge e2;have n2_1:=z.ltb e2;have z:=z.ext x2;have r:=r.trans x2;refine de Z2 (ws λ_ Z3=>wr (dm ?_));refine cP (X9g s _ hs) RX.all λw3 x3=>?_;have z:=z.ext x3;have J:=J.ext x3;have r:=r.trans x3;refine da (de Z3 (ws λ_ Z4=>wr (dm ?_)));refine dp (NA (b:=17) EK rfl rfl) (dm ?_);refine dp (OJ (b:=15) EK rfl rfl) (dp (Py rfl rfl) (da (de Z4 (ws λ_ Z5=>ws λ_ Z6=>wr (dm (de Z6 (EN ?_)))))));refine Fk (G:=Nat×List Nat) (λ(k,q)=>[(1,I ↑n),(4,ED b1 0),(5,ED b2 0),(6,GM (Mm s)),(7,GM (OC s)),(16,I ↑k)]) (λ(k,q) w'=>EB w w'/\EL w' b1 (FP (Aw 6 0)) 322/\k<=6/\q.length=6/\q.take k=(IU s n).take k/\EL w' b2 (FP q) 322) (λ(k,q)=>6-k) (0,Aw 6 0) ?_ ?_ ?_
 ·exact FSq
 ·exact⟨r,z,Ad _,rfl,rfl,J⟩
 intro X4 g4 w4 Z;obtain⟨k,q⟩:=g4;clear r z J;obtain⟨r,z,hk1,Y,O,J⟩:=Z;refine ws λ_ Z7=>wr (dp (Fa rfl rfl) (de Z7 (ws λ_ Z8=>wi (λc1=>?_) λc1=>?_)))
 ·refine EG (Z8 _ _ (ws λ_ Z9=>EN (ws λ_ hb=>wr (dm (da (de hb (wr (dm (dm (dm ?_))))))))));refine dp (Ut rfl E9 E9) (dm ?_);refine dp (Uw rfl rfl) (dp (X5w rfl rfl) (dp (K5 (by have:=UInt32.toNat_lt (Mm s+AQ k*OC s);omega) rfl E9 E9) (dm ?_)));refine dp (K5 EA rfl E9 E9) (dp (Xzx h0 rfl rfl) (dp (La (n:=NS s n k) (by have:=Nat.mod_lt (Mm s+AQ k*OC s).toNat h0;unfold NS;omega) rfl E9 E9) (dp (Kh (m:=6) (e:=3) (k:=1) E9 rfl rfl EA) (G5 J (λw5 x5 xs5 J=>?_) (hv:=by rfl) (ho:=by rw[An];omega)))));rw[Nn]at J;have z:=z.mo x5;have r:=r.o1 x5;refine de Z9 (wr (pa rfl rfl (dm (EF (?_)))));refine⟨(k+1,q.set k (NS s n k)),FSq,⟨r,z,by omega,by rw[List.length_set];exact Y,?_,J⟩,by simp only [];omega⟩;rw[B4,B4,Xtc EA,List.take_set_of_le (Aa _),O,List.getElem?_set_self EA]
 refine Ff (Z5 _ _ (ws λ_ ha=>wr (dq (Fb (k:=6) E9 rfl (by simp [Y]) J.row) ?_)));refine NZ (m:=6) (vs:=?u16) rfl rfl ?h16 E9 ?c16 ?d16 z ?n16 (.inl rfl) (λw6 x6 xs6 z=>?k16)
 case h16=>conv=>lhs;whnf
 case c16=>simp [Y]
 case d16=>rfl
 case n16=>simp [Value.oneCell']
 have r:=r.o1 x6;refine de ha (EH (MR (k:=6) rfl rfl rfl E9 (by simp [Y]) z.row ?_));rw[Ax EA,Ax (by rw[Ob];omega)]at O;exact⟨by rw[O],r⟩
end Go.Proofs.YtiooodckiddpmaaGreatDoor
