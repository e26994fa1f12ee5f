/-
 A part of the proof: OcA VcO OcB OcC OcD OcE BlA VcI VcQ VcL VcP BlB MemA SpBlk BkA Shelf VcT.
-/
import Derived.Test.YtiooodckiddpmaaGreatDoorSkA
import Derived.Test.YtiooodckiddpmaaGreatDoorChecked
import Derived.KernelRfl
import Derived.RangeFuncRecord
import Derived.RangeFuncOwn
import Derived.OrdersIn
import Derived.TacticsIn
import Derived.Maps.OwnSet
import Derived.Shelf.Small.Bits
import Derived.Shelf.Small.Strs
import Derived.Shelf.Small.Wraps
import Derived.Shelf.Strconv.Itoa0
import Derived.Shelf.Strconv.Itoa1
import Derived.Shelf.LaysM
import Derived.Shelf.Strconv.Itoa2
import Derived.Shelf.Strconv.Itoa3
import Derived.Shelf.Strings.Prefix
import Derived.Shelf.Slices.Turned
import Derived.Ground.Names2Prog
import Derived.Shelf.Slices.SearchI
import Derived.Shelf.Bytes.SlSearch0
import Derived.Ground.SlbCloneProg
import Derived.Shelf.Bytes.SlClone
import Derived.Ground.SlbNamesProg
import Derived.Shelf.Bytes.SlJoin
import Derived.Ground.SlgnProg
import Derived.Shelf.SlicesE.Clone
import Derived.Shelf.Bytes.SlEqualAll
import Derived.Shelf.Bytes.Small
import Derived.Test.YtiooodckiddpmaaGreatDoorProg
open List renaming length_append->Aa,take->Ad,set->Af,drop->Ag,mem_cons->Aj,mem_of_getElem?->Ak,mem_cons_self->Al,mem_cons_of_mem->Am,map_cons->An,getElem?_eq_some_iff->Ap,mem_map->Aq,getElem?_eq_getElem->Ar,replicate->Ax,take_of_length_le->Ay,eq_nil_of_length_eq_zero->A4,append_assoc->A7,flatMap_cons->AB,length->AC,length_set->AF,length_cons->AG,flatMap_append->AU,nodup_cons->AV,getElem?_take->AW,all_eq_true->AY,length_drop->Bh,getElem?_eq_none->Bm,take_add_one->B3,foldl_append->B4,foldl_cons->B9,ext_getElem?->BA,getElem?_set_self->BB,filter_cons->BC,range->BF,getD_eq_getElem?_getD->BR,drop_of_length_le->BZ,take_succ_cons->Cg,drop_eq_nil_of_le->Cr,getElem?_set->C4,all_append->C6,replicate_succ->CG,drop_eq_getElem_cons->CK,length_replicate->De
open Nat renaming le_refl->Ab,zero_le->Ae,le_trans->Ai,le_of_ble_eq_true->Av,zero_add->A9,blt->AR,mul_le_mul_right->AS,succ_mul->AZ,mod_lt->Bd,beq->Bj,blt_eq->Bq,mul_comm->Bu,mod_eq_of_lt->B0,pow_succ->CI,div_lt_of_lt_mul->Dx,and_two_pow_sub_one_eq_mod->DZ,mul_lt_mul_of_pos_right->Ea
open Bool renaming and_eq_true->Au,or_eq_true->BM,not_eq_true'->BO,true_and->Cq
open UInt8 renaming ofNat->AJ,lt_iff_toNat_lt->CH,toBitVec_inj->D6
open UInt32 renaming ofNat->AL
open BitVec renaming ofInt->AN,ofInt_natCast->Da,toNat_ofNat->Db
open Int renaming toNat_natCast->B7,fdiv_eq_ediv_of_nonneg->CJ
open Array renaming getElem?_eq_some_iff->B8,all_eq_true_iff_forall_mem->Ck
open List.Sublist renaming map->C3
set_option maxRecDepth 100000
set_option maxHeartbeats 4000000
set_option linter.unusedVariables false
set_option linter.unusedSimpArgs false
namespace Go.Proofs.YtiooodckiddpmaaGreatDoor
open Go.Vc Go.Sp
attribute [local irreducible] W XW Dw Gs
structure Wr (B bw:Nat)(v:Value)(l:EC)(w:World):Prop where
 m:EK w bw [v] 142
 o:Vc.Own EO 1 5 B w v l
@[reducible] def H2 (bw:Nat) (v:Value):Nat->Prop:=λk=>k=bw\/v.ownBlock=some k
theorem Wr.mod {B bw:Nat}{v:Value}{l:EC}{S:Nat->Prop}{w w':World}(h:Wr B bw v l w)(m:Vc.Mod S w w')(hS:∀k,H2 bw v k->¬ S k):Wr B bw v l w':=⟨h.m.mod m (hS bw (.inl rfl)),h.o.mod m (λk hk=>hS k (.inr hk))⟩
theorem Wr.ext {B bw:Nat}{v:Value}{l:EC}{w w':World}(h:Wr B bw v l w)(m:ED w w'):Wr B bw v l w':=h.mod m (λ_ _ h=>h)
def Hn (n:Int):Nat:=(max 0 (min n 4611686018427387904)).toNat
theorem Tk (n:Int):Hn n<=4611686018427387904:=by unfold Hn;omega
theorem Oi {a:Nat}(h:a<18446744073709551616):IntKind.u64.wrap (a:Int)=a:=by
 have e:IntKind.u64.wrap (a:Int)=(a:Int) % 18446744073709551616:=by unfold IntKind.wrap;simp [IntKind.bits,IntKind.signed]
 rw[e];omega
section
variable {P:Program}{E:Fh}{dd:Option Tmp}{ty:TypeId}{pos:String}{af:Array Edge}{g:Option (Nat×Bool)}{x y:Operand}{T U:TypeId}
theorem X8s {n:Int}(hx:ev E x=I (max 0 (min n 4611686018427387904)))(hT:(P.underlying T).isSome=true)(hU:HG P U=some .u64):PV P ⟨dd,.convert T U x,ty,pos,af,g⟩ E (.int .u64 (Hn n:Nat)):=by
 have:=JO (P:=P) (d:=dd) (ty:=ty) (pos:=pos) (af:=af) (g:=g) hx hT hU;rwa [show max 0 (min n 4611686018427387904)=((Hn n:Nat):Int) by unfold Hn;omega,Oi (by have:=Tk n;omega)]at this
theorem X4t {u:Nat}(hx:ev E x=.int .u64 u)(hy:ev E y=.int .u64 7):PV P ⟨dd,.binOp .shr T x y U,ty,pos,af,g⟩ E (.int .u64 (u / 128:Nat)):=by
 have:=N4 (P:=P) (dd:=dd) (ty:=ty) (pos:=pos) (af:=af) (g:=g) (T:=T) (U:=U) hx hy EN;rwa [show((u:Int)).fdiv (2 ^ min (7:Int).toNat IntKind.u64.bits)=((u / 128:Nat):Int) by
  rw[show(2:Int) ^ min (7:Int).toNat IntKind.u64.bits=128 by decide,CJ _ EB];omega]at this
end
theorem Ybo (u:Nat):AJ u ||| 128=AJ (u % 128+128):=by
 have h:∀c:Fin 256,AJ c ||| 128=AJ (c.1 % 128+128):=by decide +kernel
 have e:AJ u=AJ (u % 256):=by apply UInt8.toNat_inj.1;simp
 rw[e,h ⟨u % 256,Bd _ EN⟩]
 congr 1;simp only;omega
theorem Xuh {α β:Type}{l:List α}{k:Nat}{x:α}(f:α->List β)(h:l[k]?=some x):(l.take (k+1)).flatMap f=(l.take k).flatMap f++f x:=by
 rw[B3,h,AU];simp
def Gf (n:Int):EC:=EV (Hn n)
theorem Fj (ns:List Int)(k:Nat):((ns.take k).flatMap Gf).length<=10*k:=by
 induction ns generalizing k with
 | nil=>simp
 | cons a r ih=>
  cases k with
  | zero=>simp
  | succ k=>rw[Cg,AB,Aa];have:=Gj (Hn a);have:=ih k;unfold Gf at *;omega
@[reducible] def GZ (w:World) (v v':Value):Prop:=v'.ownBlock=v.ownBlock\/∀k,v'.ownBlock=some k->w.heap.size<=k
theorem PG {w:World}{v v':Value}{bw i:Nat}(h:GZ w v v')(hi:v'.ownBlock=some i)(hlt:i<w.heap.size):H2 bw v i:=by
 rcases h with e|e
 ·exact .inr (e▸hi)
 ·exact absurd (e i hi) EB
theorem Uu {α:Type}{l:List α}{w:World}{v v':Value}{bw n:Nat}(h:GZ w v v')(hd:∀k,H2 bw v k->l≠[]->n≠k)(hb:l≠[]->n<w.heap.size):l≠[]->¬ v'.ownBlock=some n:=by
 intro r e;rcases h with h|h
 ·exact hd n (.inr (h▸e)) r rfl
 ·have:=h n e;have:=hb r;omega
theorem Sv {w:World}{v v1 v2:Value}{n:Nat}(h:GZ w v v1)(hs:v2.ownBlock=v1.ownBlock\/v2.ownBlock=some n)(hn:w.heap.size<=n):GZ w v v2:=by
 rcases hs with e|e
 ·rcases h with e1|e1
  ·exact .inl (e.trans e1)
  ·exact .inr (λk hk=>e1 k (e▸hk))
 ·exact .inr (λk hk=>by rw[e]at hk;cases hk;exact hn)
theorem Xui {j u:Nat}{dn X:EC}(hj:1<=j)(hu:u<128 ^ j)(h:128<=u)(e:dn++GL j u=X):2<=j/\u / 128<128 ^ (j-1)/\(dn++[AJ u ||| 128])++GL (j-1) (u / 128)=X:=by
 obtain⟨j,rfl⟩:∃i,j=i+1:=⟨j-1,by omega⟩;unfold GL at e;rw[if_neg EB]at e;refine⟨?_,by rw[CI]at hu;simp;omega,by rw[Ybo,A7];exact e⟩
 cases j with
 | zero=>simp at hu;omega
 | succ j=>omega
theorem Xuj {j u:Nat}{dn X:EC}(hj:1<=j)(h:¬ 128<=u)(e:dn++GL j u=X):dn++[AJ u]=X:=by
 obtain⟨j,rfl⟩:∃i,j=i+1:=⟨j-1,by omega⟩;unfold GL at e;rwa [if_pos EB]at e
theorem X8t (B bw:Nat)(v:Value)(l:EC)(p:EC)(vp:Value)(w:World)(h:Wr B bw v l w)(hl:l.length<=1000000000)(hB:B<=w.heap.size)(hp:EQ EO 1 w vp p)(hpl:p.length<=1000000000) :
  Calls Tryz.prog 155 [EE bw 0,vp].toArray w (Ff (H2 bw v) w (λu w'=>u=.tuple #[]/\∃v',Wr B bw v' (l++p) w'/\GZ w v v')):=by
 refine cw Tryz.func155 ?_;have J:=Vc.Mod.refl (H2 bw v) w;obtain⟨hm,ho⟩:=h;have ha:=ho.ne_blk hm rfl;have r:GZ w v v:=.inl rfl;refine ws λ_ Z1=>wr (dm ?_);refine dp (Nt EA rfl rfl) (de Z1 (wi (λc1=>?_) λc1=>?_))
 ·refine wr (dm (dm ?_));refine dz rfl (df 0 rfl (dl rfl (hm.at rfl) (dm ?_)));refine LP (lx:=p) (e:=5) (sz:=1) (by':=1) rfl EA EA EF ho (hp) rfl rfl (by intro x _ u hu;simp at hu;rcases hu with rfl<;>rfl) (by simp;omega) EN (Ai hB J.size) (.inl rfl) (λv2 w1 Y x1 O=>?_);have z:=Sv r O J.size;have hm:=hm.mod x1 (by exact ha);have J:=J.own x1 (λi hi hb=>PG r hi hb);have ho:=Y;have r:=z;clear z;have Z:=ho.ne_blk hm rfl;refine dz rfl (df 0 rfl (G4 hm (λw2 x2 xs2 hm=>?_) (hv:=by exact Gd.one ho.sl)));dsimp only [EY,Af,Ad,Ag]at hm;have ho:=ho.mod x2 (by intro k hk e;have h2:k=bw:=e;exact Z (h2▸hk));have J:=J.own x2 (λi hi _=>Or.inl hi);refine EH ((HH (Hh rfl ?_)));exact⟨_,rfl,J,rfl,v2,⟨hm,ho⟩,r⟩
 exact absurd c1 ER
theorem JZ (B bw:Nat)(v:Value)(l:EC)(ns:List Int)(vn:Value)(w:World)(h:Wr B bw v l w)(hl:l.length<=1000000000)(hB:B<=w.heap.size)(hn:EQ Vc.encI 1 w vn ns)(hnl:ns.length<=100000)(hnd:∀k,H2 bw v k->ns≠[]->(base vn).1≠k) :
  Calls Tryz.prog 79 [EE bw 0,vn].toArray w (Ff (H2 bw v) w (λu w'=>u=.tuple #[]/\∃v',Wr B bw v' (l++ns.flatMap Gf) w'/\GZ w v v')):=by
 refine cw Tryz.func79 ?_;have z:=Vc.Mod.refl (H2 bw v) w;obtain⟨hm,ho⟩:=h;have hc:=ho.ne_blk hm rfl;have r:GZ w v v:=.inl rfl;have hg:ns≠[]->(base vn).1<w.heap.size:=λe=>hn.base_lt EN e;refine ws λ_ Z1=>ws λ_ Z2=>wr (dm ?_);refine dp (Gi EA rfl rfl) (de Z2 (wi (λc1=>?_) λc1=>?_))
 ·exact absurd c1 ER
 refine EI (Z1 _ _ (ws λ_ Z3=>wr (dm ?_)));refine dv 3 1 hn.sl (dm (de Z3 (EM ?_)));refine Fq (G:=Nat×Value×EC) (λ(k,vc,lc)=>[(0,EE bw 0),(9,vn),(10,I ↑ns.length),(11,I ↑k)]) (λ(k,vc,lc) w'=>Mod (H2 bw v) w w'/\EQ Vc.encI 1 w' vn ns/\k<=ns.length/\EK w' bw [vc] 142/\Vc.Own EO 1 5 B w' vc lc/\lc=l++(ns.take k).flatMap Gf/\GZ w v vc) (λ(k,vc,lc)=>ns.length-k) (0,v,l) ?_ ?_ ?_
 ·exact Gc
 ·exact⟨z,hn,Ae _,hm,ho,by simp,.inl rfl⟩
 intro X1 g1 w1 hy;obtain⟨k,vc,lc⟩:=g1;clear z hn;obtain⟨z,hn,hk1,hm,ho,O,r⟩:=hy;refine ws λ_ Z4=>wr (dp (Fb rfl rfl) (de Z4 (ws λ_ Z5=>wi (λc2=>?_) λc2=>?_)))
 ·obtain⟨x,hk⟩:∃x,ns[k]?=some x:=Fw;refine EI (Z5 _ _ (ws λ_ Z6=>EM (ws λ_ Z7=>wr (di 3 1 hn.sl rfl (hn.lt hk) (dl rfl ((hn.row hk).at0 rfl) (da (de Z7 (ws λ_ Z8=>wr (dm ?_)))))))));refine dp (Rn rfl rfl) (dp (NN rfl rfl) (dp (X8s rfl EA EA) (da (de Z8 (ws λ_ Z9=>EM ?_)))));refine Fq (G:=Nat×Nat×Value×EC×EC) (λ(j,u,vd,ld,dn)=>[(0,EE bw 0),(6,.int .u64 ↑u),(9,vn),(10,I ↑ns.length),(11,I ↑k)]) (λ(j,u,vd,ld,dn) w'=>Mod (H2 bw v) w w'/\EQ Vc.encI 1 w' vn ns/\1<=j/\u<128 ^ j/\EK w' bw [vd] 142/\Vc.Own EO 1 5 B w' vd ld/\ld=lc++dn/\dn++GL j u=Gf x/\GZ w v vd) (λ(j,u,vd,ld,dn)=>j) (10,Hn x,vc,lc,[]) ?_ ?_ ?_
  ·exact FN
  ·exact⟨z,hn,by omega,by have:=Tk x;omega,hm,ho,by simp,rfl,r⟩
  intro X2 g2 w2 ht;obtain⟨j,u,vd,ld,dn⟩:=g2;clear z hn hm ho;obtain⟨z,hn,hj,hw,hm,ho,ha,hb,r⟩:=ht;refine ws λ_ hr=>ws λ_ hz=>wr (dm ?_);refine dp (IA rfl rfl) (de hz (wi (λc3=>?_) λc3=>?_))
  ·have hc:=ho.ne_blk hm rfl;have hh:ld.length<=2001000020:=by
    have h1:=Fj ns k;have h2:=Gj (Hn x);have h3:=congrArg AC hb;rw[ha,O];unfold Gf at *;simp only [Aa]at *;omega
   refine EI (hr _ _ (ws λ_ h5=>EM (wr (dm (dm ?_)))));refine dz rfl (df 0 rfl (dl rfl (hm.at rfl) (dm ?_)));refine dp (O6 rfl EA EA) (dp (XI (b:=128) rfl rfl) (li (e:=5) (sz:=1) (zs:=[.int .u8 0]) (pv:=[(0,_)]) (cs:=[_]) RX.all (λb1 w3 e1 x3 m1=>?_)));have g1:=z.ge e1;have a1_hn:=EQ.base_lt hn EN;have a1_hm:=hm.lt;have o1_ho:=ho.ltb e1;have hn:=hn.ext x3;have hm:=hm.ext x3;have ho:=ho.ext x3;have z:=z.ext x3;refine LP (lx:=[AJ u ||| 128]) (e:=5) (sz:=1) (by':=1) rfl EA EA EF ho (m1.arr (enc:=EO) (sz:=1) (l:=[AJ u ||| 128]) rfl EF rfl (Av rfl)) rfl rfl (by intro x _ u hu;simp at hu;rcases hu with rfl<;>rfl) (by simp;omega) EN (Ai hB z.size) (.inl rfl) (λv2 w4 Z x4 hq=>?_);have J:=Sv r hq z.size;have hn:=hn.mod x4 (by exact Uu r hnd hg);have hm:=hm.mod x4 (by exact hc);have z:=z.own x4 (λi hi hf=>PG r hi hf);have ho:=Z;have r:=J;clear J;clear m1;have Y:=ho.ne_blk hm rfl;refine dz rfl (df 0 rfl (G4 hm (λw5 x5 xs5 hm=>?_) (hv:=by exact Gd.one ho.sl)));dsimp only [EY,Af,Ad,Ag]at hm;have hn:=hn.mod x5 (λh e=>hnd bw (.inl rfl) h e);have ho:=ho.mod x5 (by intro k hk e;have h2:k=bw:=e;exact Y (h2▸hk));have z:=z.own x5 (λi hi _=>Or.inl hi);refine de h5 (wr (dm ?_));refine dp (X4t rfl rfl) (da (EH (?_)));obtain⟨h2,h3,h4⟩:=Xui hj hw EB hb;refine⟨(j-1,u / 128,v2,ld++[AJ u ||| 128],dn++[AJ u ||| 128]),FN,⟨z,hn,by omega,h3,hm,ho,by rw[ha,A7],h4,r⟩,by simp only [];omega⟩
  have hc:=ho.ne_blk hm rfl;have hh:ld.length<=2001000020:=by
   have h1:=Fj ns k;have h2:=Gj (Hn x);have h3:=congrArg AC hb;rw[ha,O];unfold Gf at *;simp only [Aa]at *;omega
  refine Fk (Z9 _ _ (wr (dm (dm ?_))));refine dz rfl (df 0 rfl (dl rfl (hm.at rfl) (dm ?_)));refine dp (O6 rfl EA EA) (li (e:=5) (sz:=1) (zs:=[.int .u8 0]) (pv:=[(0,_)]) (cs:=[_]) RX.all (λb2 w6 e2 x6 m2=>?_));have g2:=z.ge e2;have a2_hn:=EQ.base_lt hn EN;have a2_hm:=hm.lt;have o2_ho:=ho.ltb e2;have hn:=hn.ext x6;have hm:=hm.ext x6;have ho:=ho.ext x6;have z:=z.ext x6;refine LP (lx:=[AJ u]) (e:=5) (sz:=1) (by':=1) rfl EA EA EF ho (m2.arr (enc:=EO) (sz:=1) (l:=[AJ u]) rfl EF rfl (Av rfl)) rfl rfl (by intro x _ u hu;simp at hu;rcases hu with rfl<;>rfl) (by simp;omega) EN (Ai hB z.size) (.inl rfl) (λv2 w7 Z x7 hp=>?_);have J:=Sv r hp z.size;have hn:=hn.mod x7 (by exact Uu r hnd hg);have hm:=hm.mod x7 (by exact hc);have z:=z.own x7 (λi hi hf=>PG r hi hf);have ho:=Z;have r:=J;clear J;clear m2;have Y:=ho.ne_blk hm rfl;refine dz rfl (df 0 rfl (G4 hm (λw8 x8 xs8 hm=>?_) (hv:=by exact Gd.one ho.sl)));dsimp only [EY,Af,Ad,Ag]at hm;have hn:=hn.mod x8 (λh e=>hnd bw (.inl rfl) h e);have ho:=ho.mod x8 (by intro k hk e;have h2:k=bw:=e;exact Y (h2▸hk));have z:=z.own x8 (λi hi _=>Or.inl hi);refine de Z6 (wr (pa rfl rfl (dm (EH (?_)))));refine⟨(k+1,v2,ld++[AJ u]),Gc,⟨z,hn,by omega,hm,ho,?_,r⟩,by simp only [];omega⟩;rw[ha,O,Xuh Gf hk,<-Xuj hj EB hb];simp only [A7]
 refine Fk (HH (Hh rfl ?_));rw[Ay EB]at O;subst O;exact⟨_,rfl,z,rfl,vc,⟨hm,ho⟩,r⟩
theorem L7 (p:EC)(vp:Value)(w:World)(hp:EQ EO 1 w vp p)(hpl:p.length<=2001000020) :
  Calls Tryz.prog 87 [vp].toArray w (ES w (λu w'=>Vc.Own EO 1 5 w.heap.size w' u p)):=by
 refine cw Tryz.func87 ?_;have r:=ED.refl w;refine ws λ_ Z1=>wr (da (de Z1 (ws λ_ Y=>ws λ_ Z3=>wr (dm ?_))));refine dp (NA (e:=5) (k:=1) EA hp.sl rfl rfl) (de Z3 (wc (λJ=>?_) λJ=>?_))
 ·refine ws λ_ Z=>wr (da (de Z (EJ ?_)));refine ro ?_;refine⟨_,rfl,r,?_⟩;have e:p.length=0:=by
   rcases hp.sl with⟨_,e⟩|⟨b,o,c,e,_⟩|⟨e,_⟩
   ·exact e
   ·rw[e]at J;simp [Nd]at J
   ·exact e
  rw[A4 e];exact Vc.Own.nil
 refine EI (Y _ _ (ws λ_ Z5=>wr (Qb (e:=5) (sz:=1) rfl EA RX.all (λb1 w1 e1 x1 m1=>?_))));have g1:=r.ge e1;have r:=r.trans x1;refine dm ?_;have ho:=m1.own (enc:=EO) (B:=w.heap.size) (l:=[]) (sz:=1) (m:=0) g1 rfl EF rfl ER;refine Hy (lx:=p) (e:=5) (sz:=1) (by':=1) rfl EA EA EF ho ((hp.ext r)) rfl rfl (by intro x _ u hu;simp at hu;rcases hu with rfl<;>rfl) (by simp;omega) EN r.size (.inl rfl) (λvm w2 z O=>?_);have r:=r.own O (λi hi=>(ho.lt i hi).1);have ho:=z;refine da (de Z5 (EJ ?_));refine ro ?_;exact⟨_,rfl,r,ho⟩
theorem N3 (B bw:Nat)(v:Value)(l:EC)(w:World)(h:Wr B bw v l w)(hl:l.length<=2001000020) :
  Calls Tryz.prog 81 [EE bw 0].toArray w (ES w (λu w'=>Vc.Own EO 1 5 w.heap.size w' u l)):=by
 refine cw Tryz.func81 ?_;have r:=ED.refl w;obtain⟨hm,ho⟩:=h;refine ws λ_ Z=>wr (da (de Z (ws λ_ O=>ws λ_ J=>wr (dm ?_))));refine dp (Gi EA rfl rfl) (de J (wi (λz=>?_) λz=>?_))
 ·exact absurd z ER
 refine EI (O _ _ (ws λ_ Y=>wr (dm ?_)));refine dz rfl (df 0 rfl (dl rfl ((hm.ext r).at rfl) (cG (L7 l v _ ((ho.ext r).arr EF) hl) RX.all λvo w1 x1 hf=>?_)));have hsz1:=r.size;have r:=r.trans x1;refine da (de Y (EJ ?_));refine ro ?_;exact⟨_,rfl,r,hf⟩
end Go.Proofs.YtiooodckiddpmaaGreatDoor
namespace Go.Vc
open Go.RowKit
@[reducible] def GP (c:UInt32):Value:=.int .u32 c.toNat
theorem Lf (n:Int):IntKind.u32.wrap n=n % 4294967296:=by simp [IntKind.wrap,IntKind.bits,IntKind.signed]
theorem LY (a:UInt32):AN 32 (a.toNat:Int)=a.toBitVec:=by
 apply BitVec.eq_of_toNat_eq
 rw[BitVec.toNat_ofInt];have:=a.toNat_lt;show((a.toNat:Int) % ((2 ^ 32:Nat):Int)).toNat=a.toNat;omega
section
variable {P:Program}{E:Fh}{d:Option Tmp}{ty:TypeId}{pos:String}{af:Array Edge}{g:Option (Nat×Bool)}{w:World}{T U:TypeId}{x y:Operand}
theorem Vq {a b:UInt32}(hx:ev E x=GP a)(hy:ev E y=GP b):PV P ⟨d,.binOp .and T x y U,ty,pos,af,g⟩ E (GP (a &&& b)):=by
 have:=Lw (P:=P) (dd:=d) (ty:=ty) (pos:=pos) (af:=af) (g:=g) (T:=T) (U:=U) (op:=.and) (.inl rfl) hx hy;rwa [show KL .and .u32 (a.toNat:Int) b.toNat=((a &&& b).toNat:Int) by
  show IntKind.u32.wrap ((AN 32 (a.toNat:Int) &&& AN 32 (b.toNat:Int)).toNat:Int)=_;rw[LY,LY,Lf];have:=(a &&& b).toNat_lt;show(((a &&& b).toNat:Int)) % 4294967296=_;omega]at this
theorem OU {a b:UInt32}(hx:ev E x=GP a)(hy:ev E y=GP b):PV P ⟨d,.binOp .or T x y U,ty,pos,af,g⟩ E (GP (a ||| b)):=by
 have:=Lw (P:=P) (dd:=d) (ty:=ty) (pos:=pos) (af:=af) (g:=g) (T:=T) (U:=U) (op:=.or) (.inr (.inl rfl)) hx hy;rwa [show KL .or .u32 (a.toNat:Int) b.toNat=((a ||| b).toNat:Int) by
  show IntKind.u32.wrap ((AN 32 (a.toNat:Int) ||| AN 32 (b.toNat:Int)).toNat:Int)=_;rw[LY,LY,Lf];have:=(a ||| b).toNat_lt;show(((a ||| b).toNat:Int)) % 4294967296=_;omega]at this
theorem Q6 {a b:UInt32}(hx:ev E x=GP a)(hy:ev E y=GP b):PV P ⟨d,.binOp .xor T x y U,ty,pos,af,g⟩ E (GP (a ^^^ b)):=by
 have:=Lw (P:=P) (dd:=d) (ty:=ty) (pos:=pos) (af:=af) (g:=g) (T:=T) (U:=U) (op:=.xor) (.inr (.inr (.inl rfl))) hx hy;rwa [show KL .xor .u32 (a.toNat:Int) b.toNat=((a ^^^ b).toNat:Int) by
  show IntKind.u32.wrap ((AN 32 (a.toNat:Int) ^^^ AN 32 (b.toNat:Int)).toNat:Int)=_;rw[LY,LY,Lf];have:=(a ^^^ b).toNat_lt;show(((a ^^^ b).toNat:Int)) % 4294967296=_;omega]at this
theorem Om {a b:UInt32}{k:IntKind}(hb:b.toNat<32)(hx:ev E x=GP a)(hy:ev E y=.int k b.toNat):PV P ⟨d,.binOp .shr T x y U,ty,pos,af,g⟩ E (GP (a >>> b)):=by
 have:=N4 (P:=P) (dd:=d) (ty:=ty) (pos:=pos) (af:=af) (g:=g) (T:=T) (U:=U) hx hy EB;rwa [show((a.toNat:Int)).fdiv (2 ^ min ((b.toNat:Int)).toNat IntKind.u32.bits)=((a >>> b).toNat:Int) by
  rw[B7,show min b.toNat IntKind.u32.bits=b.toNat by show min b.toNat 32=_;omega,UInt32.toNat_shiftRight,B0 hb,Nat.shiftRight_eq_div_pow,CJ _ (Int.le_of_lt (Int.pow_pos EN))];simp]at this
theorem OR {a b:UInt32}{k:IntKind}(hb:b.toNat<32)(hx:ev E x=GP a)(hy:ev E y=.int k b.toNat):PV P ⟨d,.binOp .shl T x y U,ty,pos,af,g⟩ E (GP (a <<< b)):=by
 have:=Og (P:=P) (dd:=d) (ty:=ty) (pos:=pos) (af:=af) (g:=g) (T:=T) (U:=U) hx hy EB;rwa [show IntKind.u32.wrap ((a.toNat:Int)*2 ^ min ((b.toNat:Int)).toNat IntKind.u32.bits)=((a <<< b).toNat:Int) by
  rw[B7,show min b.toNat IntKind.u32.bits=b.toNat by show min b.toNat 32=_;omega,UInt32.toNat_shiftLeft,B0 hb,Nat.shiftLeft_eq,Lf];simp]at this
theorem Nz {c:UInt8}(hx:ev E x=b8 c)(hT:(P.underlying T).isSome=true)(hU:HG P U=some .u32):PV P ⟨d,.convert T U x,ty,pos,af,g⟩ E (GP c.toUInt32):=by
 have:=JO (P:=P) (d:=d) (ty:=ty) (pos:=pos) (af:=af) (g:=g) hx hT hU;rwa [show IntKind.u32.wrap (c.toNat:Int)=(c.toUInt32.toNat:Int) by rw[Lf];have:=c.toNat_lt;simp;omega]at this
theorem OY {c:UInt32}(hx:ev E x=GP c)(hT:(P.underlying T).isSome=true)(hU:HG P U=some .u8):PV P ⟨d,.convert T U x,ty,pos,af,g⟩ E (b8 c.toUInt8):=by
 have:=JO (P:=P) (d:=d) (ty:=ty) (pos:=pos) (af:=af) (g:=g) hx hT hU;rwa [show IntKind.u8.wrap (c.toNat:Int)=(c.toUInt8.toNat:Int) by rw[Oc];simp]at this
theorem X4u {c:UInt32}(hx:ev E x=GP c):PV P ⟨d,.unOp .neg T x,ty,pos,af,g⟩ E (GP (0-c)):=λw=>by
 have e:IntKind.u32.wrap (-(c.toNat:Int))=((-c).toNat:Int):=by rw[Lf,UInt32.toNat_neg];have:=c.toNat_lt;simp [UInt32.size];omega
 simp [execOp,hx,Op.unary,Op.intArith,e]
theorem X4v {c:UInt32}(hx:ev E x=GP c):PV P ⟨d,.unOp .xor T x,ty,pos,af,g⟩ E (GP (~~~c)):=λw=>by
 have e:KL .xor .u32 4294967295 (c.toNat:Int)=((~~~c).toNat:Int):=by
  show IntKind.u32.wrap ((AN 32 ((4294967295:UInt32).toNat:Int) ^^^ AN 32 (c.toNat:Int)).toNat:Int)=_;rw[LY,LY,Lf];have h:(4294967295:UInt32) ^^^ c = ~~~c:=by
   apply UInt32.toBitVec_inj.1
   simp;exact BitVec.allOnes_xor
  have:=((4294967295:UInt32) ^^^ c).toNat_lt;show((((4294967295:UInt32) ^^^ c).toNat:Int)) % 4294967296=_;rw[<-h];omega
 have e2:(if IntKind.u32.signed=true then(-1:Int)else IntKind.u32.max)=4294967295:=by decide
 simp [execOp,hx,Op.unary,Op.intBits,e2];simpa [KL]using e
end
end Go.Vc
namespace Go.Proofs.YtiooodckiddpmaaGreatDoor
open Go.Vc Go.Sp
attribute [local irreducible] W XW Dw Gs
theorem Xul {j:Nat}{z X:UInt32}(hj:j<8)(h:KS (8-j) z=X):KS (8-(j+1)) (MC z)=X:=by
 obtain⟨m,e⟩:∃m,8-j=m+1:=⟨7-j,by omega⟩;rw[e]at h;rw[show 8-(j+1)=m by omega];exact h
theorem Xum {p:EC}{i:Nat}{c:UInt8}{v:UInt32}(h:p[i]?=some c):(p.take (i+1)).foldl JC v=JC ((p.take i).foldl JC v) c:=by
 rw[B3,h,B4];rfl
theorem QO (p:EC)(vp vr:Value)(w:World)(hr:EQ (λx:Value=>[x]) 1 w vr [vp])(hp:EQ EO 1 w vp p)(hpl:p.length<=2001000020) :
  Calls Tryz.prog 159 [vr].toArray w (Pure w (GP (HI p))):=by
 refine cw Tryz.func159 ?_;have r:=ED.refl w;refine ws λ_ Z1=>wr (da (de Z1 (ws λ_ Z2=>wr (da (de Z2 (ws λ_ Z3=>ws λ_ Z4=>wr (dm ?_)))))));refine dv 82 1 hr.sl (dm (de Z4 (EM ?_)));refine Fq (G:=Nat×UInt32) (λ(k,v)=>[(2,.int .u32 0),(3,GP v),(8,vr),(9,I 1),(10,I ↑k)]) (λ(k,v) w'=>ED w w'/\k<=1/\v=if k=0 then ~~~0 else p.foldl JC (~~~0)) (λ(k,v)=>1-k) (0,~~~0) ?_ ?_ ?_
 ·exact FN
 ·exact⟨r,Ae _,rfl⟩
 intro X1 g1 w1 hq;obtain⟨k,v⟩:=g1;clear r;obtain⟨r,hk1,hv⟩:=hq;refine ws λ_ Z5=>wr (dp (Fb rfl rfl) (de Z5 (ws λ_ Z6=>wi (λc1=>?_) λc1=>?_)))
 ·have J:[vp][k]?=some vp:=by
   have e:k=0:=by omega
   subst e;rfl
  refine EI (Z6 _ _ (ws λ_ Z7=>EM (ws λ_ Z8=>wr (di 82 1 hr.sl rfl (hr.lt J) (dl rfl (((hr.ext r).row J).at0 rfl) (da (de Z8 (ws λ_ Z9=>wr (dm ?_)))))))));refine dv 5 1 hp.sl (dm (de Z9 (EM ?_)));refine Fq (G:=Nat×UInt32) (λ(i,u)=>[(2,.int .u32 0),(3,GP u),(8,vr),(9,I 1),(10,I ↑k),(14,vp),(15,I ↑p.length),(16,I ↑i)]) (λ(i,u) w'=>ED w w'/\i<=p.length/\u=(p.take i).foldl JC (~~~0)) (λ(i,u)=>p.length-i) (0,v) ?_ ?_ ?_
  ·exact KV
  ·exact⟨r,Ae _,by rw[if_pos (show k=0 by omega)]at hv;exact hv⟩
  intro X2 g2 w2 hh;obtain⟨i,u⟩:=g2;clear r;obtain⟨r,hi1,hu⟩:=hh;refine ws λ_ hw=>wr (dp (Fb rfl rfl) (de hw (ws λ_ ht=>wi (λc2=>?_) λc2=>?_)))
  ·obtain⟨c,hk⟩:∃c,p[i]?=some c:=Fw;refine EI (ht _ _ (ws λ_ hl=>EM (ws λ_ hc=>wr (di 5 1 hp.sl rfl (hp.lt hk) (dl rfl (((hp.ext r).row hk).at0 rfl) (da (de hc (ws λ_ ha=>wr (dm (dm ?_))))))))));refine dp (Nz rfl EA EA) (dp (Q6 rfl rfl) (da (de ha (ws λ_ Y=>wr (dm (de Y (EM ?_)))))));refine Fq (G:=Nat×UInt32) (λ(j,z)=>[(2,.int .u32 0),(3,GP z),(8,vr),(9,I 1),(10,I ↑k),(14,vp),(15,I ↑p.length),(16,I ↑i),(24,I ↑j)]) (λ(j,z) w'=>ED w w'/\j<=8/\KS (8-j) z=JC u c) (λ(j,z)=>8-j) (0,u ^^^ c.toUInt32) ?_ ?_ ?_
   ·exact Ji
   ·exact⟨r,Ae _,rfl⟩
   intro X3 g3 w3 Z;obtain⟨j,z⟩:=g3;clear r;obtain⟨r,hj1,O⟩:=Z;refine ws λ_ hj=>wr (dp (Fb rfl rfl) (de hj (ws λ_ hg=>wi (λc3=>?_) λc3=>?_)))
   ·refine EI (hg _ _ (ws λ_ hf=>EM (wr (dm ?_))));refine dp (Om (b:=1) EN rfl rfl) (dm ?_);refine dp (Vq (b:=1) rfl rfl) (dp (X4u rfl) (dp (Vq (a:=0xedb88320) rfl rfl) (dp (Q6 rfl rfl) (da (de hf (wr ?_))))));refine pa rfl rfl (dm (EH (?_)));refine⟨(j+1,MC z),Ji,⟨r,by omega,Xul EB O⟩,by simp only [];omega⟩
   refine Fk (hl _ _ (wr (pa rfl rfl (dm (EH (?_))))));rw[show 8-j=0 by omega]at O;refine⟨(i+1,z),KV,⟨r,by omega,by rw[Xum hk,<-hu];exact O⟩,by simp only [];omega⟩
  refine Fk (Z7 _ _ (wr (pa rfl rfl (dm (EH (?_))))));rw[Ay EB]at hu;refine⟨(k+1,u),FN,⟨r,by omega,by rw[if_neg EB];exact hu⟩,by simp only [];omega⟩
 refine Fk (Z3 _ _ (ws λ_ hb=>wr (dm ?_)));refine dp (X4v rfl) (da (de hb (EJ ?_)));refine ro ?_;refine⟨?_,r⟩;rw[show k=1 by omega,if_neg EN]at hv;rw[hv];rfl
theorem Pf (v:UInt32)(w:World) :
  Calls Tryz.prog 158 [GP v].toArray w (ES w (λu w'=>∃b,u=.slice (some ⟨b,0,none⟩) 4 4/\w.heap.size<=b/\EQ EO 1 w' u (Ia v))):=by
 refine cw Tryz.func158 ?_;have r:=ED.refl w;refine ws λ_ O=>wr (da (de O (ws λ_ z=>wr (dm ?_))));refine dp (OY rfl EA EA) (dm ?_);refine dp (Om (b:=8) EN rfl rfl) (dp (OY rfl EA EA) (dm ?_));refine dp (Om (b:=16) EN rfl rfl) (dp (OY rfl EA EA) (dm ?_));refine dp (Om (b:=24) EN rfl rfl) (dp (OY rfl EA EA) (li (e:=5) (sz:=1) (zs:=[.int .u8 0]) (pv:=[(0,_),(1,_),(2,_),(3,_)]) (cs:=[_,_,_,_]) RX.all (λb1 w1 e1 Y J=>?_)));have g1:=r.ge e1;have r:=r.trans Y;refine da (de z (EJ ?_));refine ro ?_;exact⟨_,rfl,r,b1,rfl,g1,J.arr (enc:=EO) (sz:=1) (l:=Ia v) rfl EF rfl (by rw[RD];decide)⟩
theorem Ps {w:World}{v v':Value}{bw i:Nat}(h:GZ w v v')(hi:H2 bw v' i)(hlt:i<w.heap.size):H2 bw v i:=hi.elim .inl (λe=>PG h e hlt)
theorem SE {w w1:World}{v v1 v2:Value}(h:GZ w v v1)(h2:GZ w1 v1 v2)(hs:w.heap.size<=w1.heap.size):GZ w v v2:=by
 rcases h2 with e|e
 ·rcases h with e1|e1
  ·exact .inl (e.trans e1)
  ·exact .inr (λk hk=>e1 k (e▸hk))
 ·exact .inr (λk hk=>Ai hs (e k hk))
theorem P6 {n:Nat}(h:n<=4611686018427387904):Gf (n:Int)=EV n:=by
 unfold Gf;congr 1;unfold Hn;omega
theorem Xza {qs:List (Value×EC)}{k:Nat}(h:∀q∈qs,q.2.length<=1000000):(((qs.take k).map (·.2)).flatMap Fs).length<=1000010*k:=by
 induction qs generalizing k with
 | nil=>simp
 | cons a r ih=>
  cases k with
  | zero=>simp
  | succ k=>
   have h1:=ih (k:=k) (λq z=>h q (Am _ z));have h2:=h a Al;have h3:=Gj a.2.length;rw[Cg,An,AB,Aa];unfold Fs at *;rw[Aa];omega
theorem Lc (B bw:Nat)(v:Value)(l:EC)(qs:List (Value×EC))(vr:Value)(w:World)(h:Wr B bw v l w)(hl:l.length<=800000000)(hB:B<=w.heap.size)(hr:EQ (λq:Value×EC=>[q.1]) 1 w vr qs)(hq:∀q∈qs,EQ EO 1 w q.1 q.2)(hq2:∀q∈qs,q.2.length<=1000000)(hql:qs.length<=100)(hdr:qs≠[]->¬ H2 bw v (base vr).1)(hdq:∀q∈qs,q.2≠[]->¬ H2 bw v (base q.1).1) :
  Calls Tryz.prog 80 [EE bw 0,vr].toArray w (Ff (H2 bw v) w (λu w'=>u=.tuple #[]/\∃v',Wr B bw v' (l++(qs.map (·.2)).flatMap Fs) w'/\GZ w v v')):=by
 refine cw Tryz.func80 ?_;have r:=Vc.Mod.refl (H2 bw v) w;obtain⟨hm,ho⟩:=h;refine ws λ_ Z1=>wr (dm ?_);refine dv 82 1 hr.sl (dm (de Z1 (EM ?_)));refine Fq (G:=Nat×Value×EC) (λ(k,O,Z)=>[(0,EE bw 0),(6,vr),(7,I ↑qs.length),(8,I ↑k)]) (λ(k,O,Z) w'=>Mod (H2 bw v) w w'/\k<=qs.length/\EK w' bw [O] 142/\Vc.Own EO 1 5 B w' O Z/\Z=l++((qs.take k).map (·.2)).flatMap Fs/\GZ w v O) (λ(k,O,Z)=>qs.length-k) (0,v,l) ?_ ?_ ?_
 ·exact Gc
 ·exact⟨r,Ae _,hm,ho,by simp,.inl rfl⟩
 intro X1 g1 w1 hj;obtain⟨k,O,Z⟩:=g1;clear r;obtain⟨r,hk1,hm,ho,J,z⟩:=hj;refine ws λ_ Z2=>wr (dp (Fb rfl rfl) (de Z2 (ws λ_ Z3=>wi (λc1=>?_) λc1=>?_)))
 ·obtain⟨q,hk⟩:∃q,qs[k]?=some q:=Fw;have hlcl:Z.length<=900001000:=by
   rw[J];simp only [Aa];have h1:=Xza (k:=k) hq2;omega
  have hnl2:(Gf ↑q.2.length).length<=10:=Gj _;refine EI (Z3 _ _ (ws λ_ Z4=>EM (ws λ_ Z5=>wr (di 82 1 hr.sl rfl (hr.lt hk) (dl rfl (((hr.mod r hdr).row hk).at0 rfl) (da (de Z5 (ws λ_ Z6=>wr (dm (dm ?_))))))))));refine dv 5 1 ((hq q (Ak hk)).mod r (hdq q (Ak hk))).sl (li (e:=3) (sz:=1) (zs:=[.int .i64 0]) (pv:=[(0,_)]) (cs:=[_]) RX.all (λb1 w2 e1 x2 m1=>?_));have g1:=r.ge e1;have a1_hm:=hm.lt;have Y:=ho.ltb e1;have hm:=hm.ext x2;have ho:=ho.ext x2;have r:=r.ext x2;refine cD (JZ B bw O Z [↑q.2.length] (.slice (some ⟨b1,0,none⟩) 1 1) _ ⟨hm,ho⟩ EB (Ai hB r.size) (m1.arr (enc:=Vc.encI) (sz:=1) (l:=[↑q.2.length]) rfl EF rfl ER) ER (λk hk _ e=>by have e2:b1=k:=e;exact hk.elim (λh=>by omega) (λh=>by have:=Y _ h;omega))) (.inl rfl) λu3 w3 x3 hp=>?_;have hc:=r.size;have r:=r.own x3 (λi hi ha=>Ps z hi ha);obtain⟨rfl,v2,⟨hm,ho⟩,hh⟩:=hp;have z:=SE z hh hc;refine de Z6 (wr (dm (dm ?_)));refine cD (X8t B bw v2 _ q.2 q.1 _ ⟨hm,ho⟩ (by simp;omega) (Ai hB r.size) ((hq q (Ak hk)).mod r (hdq q (Ak hk))) (by have:=hq2 q (Ak hk);omega)) (.inl rfl) λu4 w4 x4 hf=>?_;have hb:=r.size;have r:=r.own x4 (λi hi ha=>Ps z hi ha);obtain⟨rfl,v3,⟨hm,ho⟩,hg⟩:=hf;have z:=SE z hg hb;refine de Z4 (wr (pa rfl rfl (dm (EH (?_)))));refine⟨(k+1,v3,_),Gc,⟨r,by omega,hm,ho,?_,z⟩,by simp only [];omega⟩;rw[J,B3,hk];have hq3:=hq2 q (Ak hk);simp [Fs,P6 (n:=q.2.length) EB]
 refine Fk (HH (Hh rfl ?_));rw[Ay EB]at J;subst J;exact⟨_,rfl,r,rfl,O,⟨hm,ho⟩,z⟩
structure Rd (br bb:Nat)(v:Value)(l:EC)(bad:Bool)(w:World):Prop where
 m:EK w br [v,B bad] 273
 a:EQ EO 1 w v l
 n:l≠[]->(base v).1=bb/\bb≠br
theorem Rd.ext {br bb:Nat}{v:Value}{l:EC}{bad:Bool}{w w':World}(h:Rd br bb v l bad w)(x:ED w w'):Rd br bb v l bad w':=⟨h.m.ext x,h.a.ext x,h.n⟩
@[reducible] def Mc (br bb:Nat) (l:EC):Nat->Prop:=λk=>k=br\/(l≠[]/\k=bb)
theorem Rd.mod {br bb:Nat}{v:Value}{l:EC}{bad:Bool}{S:Nat->Prop}{w w':World}(h:Rd br bb v l bad w)(x:Vc.Mod S w w')(hS:∀k,Mc br bb l k->¬ S k):Rd br bb v l bad w':=
 ⟨h.m.mod x (hS _ (.inl rfl)),h.a.mod x (λr=>by rw[(h.n r).1];exact hS _ (.inr ⟨r,rfl⟩)),h.n⟩
theorem Rd.lt {br bb:Nat}{v:Value}{l:EC}{bad:Bool}{w:World}(h:Rd br bb v l bad w):∀k,Mc br bb l k->k<w.heap.size:=by
 rintro k (rfl|⟨hl,rfl⟩)
 ·exact h.m.lt
 ·rw[<-(h.n hl).1];exact h.a.base_lt EN hl
theorem Jd {α:Type}{l:List α}{k:Nat}{c:α}(h:l[k]?=some c):l.drop k=c :: l.drop (k+1):=by
 obtain⟨hk,rfl⟩:=Ap.1 h;exact CK hk
theorem G1 {α:Type}{l:List α}{k:Nat}{c:α}(h:l[k]?=some c):l.take (k+1)=l.take k++[c]:=by
 obtain⟨hk,rfl⟩:=Ap.1 h;exact List.take_succ_eq_append_getElem hk
def FQ (l:EC)(bad:Bool):Nat×EC×Bool:=match Gv 0 0 l with
 | some (n,r)=>(n,r,bad)
 | none=>(0,[],true)
def IF (n:Int)(l:EC)(bad:Bool):EC×EC×Bool:=if n<0\/(l.length:Int)<n then([],[],true)else(l.take n.toNat,l.drop n.toNat,bad)
def NW (l:EC)(bad:Bool):EC×EC×Bool:=IF (FQ l bad).1 (FQ l bad).2.1 (FQ l bad).2.2
theorem JG {n:Nat}(r:EC)(bad:Bool)(h:n<=4611686018427387904):FQ (EV n++r) bad=(n,r,bad):=by unfold FQ;rw[Xuf r h]
theorem Ks (p r:EC)(bad:Bool)(h:p.length<=4611686018427387904):NW (Fs p++r) bad=(p,r,bad):=by
 unfold NW Fs;rw[A7,JG _ _ h];unfold IF;rw[if_neg (by simp;omega)];simp
theorem Xzb {i u:Nat}{l r:EC}{n:Nat} : Gv i u l=some (n,r)->r.length<=l.length:=by
 induction l generalizing i u with
 | nil=>intro h;simp [Gv]at h
 | cons c l ih=>
  intro h;unfold Gv at h;split at h
  ·cases h
  ·split at h
   ·split at h
    ·cases h
    ·cases h;simp
   ·have:=ih h;simp;omega
theorem Uv (l:EC)(bad:Bool):(FQ l bad).2.1.length<=l.length:=by
 unfold FQ;split
 ·rename_i h;exact Xzb h
 ·simp
theorem X4x {i u:Nat}{l r:EC}{n:Nat} : Gv i u l=some (n,r)->n<=4611686018427387904:=by
 induction l generalizing i u with
 | nil=>intro h;simp [Gv]at h
 | cons c l ih=>
  intro h;unfold Gv at h;split at h
  ·cases h
  ·split at h
   ·split at h
    ·cases h
    ·cases h;omega
   ·exact ih h
theorem M6 (p:EC)(vp:Value)(w:World)(hp:EQ EO 1 w vp p)(hpl:p.length<=2001000020) :
  Calls Tryz.prog 118 [vp].toArray w (ES w (λu w'=>∃br bb v,u=EE br 0/\w.heap.size<=br/\(p≠[]->w.heap.size<=bb)/\Rd br bb v p false w')):=by
 refine cw Tryz.func118 ?_;have r:=ED.refl w;refine ws λ_ Z1=>wr (da (de Z1 (ws λ_ Z2=>wr (dm ?_))));refine cG (L7 p vp _ (hp.ext r) hpl) RX.all λY w1 x1 z=>?_;have hsz1:=r.size;have r:=r.trans x1;refine dp (M4 (zs:=[.slice none 0 0,B false]) (pl:=[(0,1),(1,1)]) (pv:=[(0,?a3_0)]) (cs:=[?a3_0,B false]) EA EA ?h3 ?f3) ?k3
 case h3=>refine⟨rfl,?_,trivial⟩<;>(conv=>lhs;whnf)
 case f3=>rcases z.sl with⟨e,_⟩|⟨_,_,_,e,_⟩|⟨_,_,_,e⟩<;>rw[e]<;>rfl
 refine Gn rfl rfl rfl RX.all (λb1 w2 e1 O Z=>?_);have g1:=r.ge e1;have o1_hf:=z.ltb e1;have z:=z.ext O;have r:=r.trans O;refine da (de Z2 (EJ ?_));refine ro ?_;exact⟨_,rfl,r,b1,(base Y).1,Y,rfl,g1,λJ=>(z.base_ge J).1,⟨Z,z.arr EF,λJ=>⟨rfl,λe=>z.ne_blk Z rfl (e▸z.base_block J)⟩⟩⟩
theorem X8u (br bb:Nat)(v:Value)(l:EC)(bad:Bool)(w:World)(h:Rd br bb v l bad w) :
  Calls Tryz.prog 260 [EE br 0].toArray w (Pure w (I ↑l.length)):=by
 refine cw Tryz.func260 ?_;have r:=ED.refl w;obtain⟨hm,Z,hn⟩:=h;refine ws λ_ Y=>wr (da (de Y (ws λ_ J=>ws λ_ Z3=>wr (dm ?_))));refine dp (Gi EA rfl rfl) (de Z3 (wi (λz=>?_) λz=>?_))
 ·exact absurd z ER
 refine EI (J _ _ (ws λ_ O=>wr (dm ?_)));refine dz rfl (df 0 rfl (dl rfl ((hm.ext r).at rfl) (dv 5 1 (Z.ext r).sl (da (de O (EJ ?_))))));refine ro ?_;exact⟨rfl,r⟩
theorem Pd (br bb:Nat)(v:Value)(l:EC)(bad:Bool)(w:World)(h:Rd br bb v l bad w) :
  Calls Tryz.prog 120 [EE br 0].toArray w (Pure w (B (!bad))):=by
 refine cw Tryz.func120 ?_;have r:=ED.refl w;obtain⟨hm,ha,hn⟩:=h;refine ws λ_ J=>wr (da (de J (ws λ_ O=>wr (dm ?_))));refine dp (Nt EA rfl rfl) (dm ?_);refine F4 5 rfl (λz=>?_) (λz=>?_)
 ·refine dm ?_;refine dz rfl (df 1 rfl (dl rfl ((hm.ext r).at rfl) (dn ?_)));refine EP ?_;refine da (de O (EJ ?_));refine ro ?_;exact⟨rfl,r⟩
 exact absurd ER z
theorem My (br bb:Nat)(v:Value)(l:EC)(bad:Bool)(w:World)(h:Rd br bb v l bad w) :
  Calls Tryz.prog 258 [EE br 0].toArray w (Ff (ET br) w (λu w'=>u=.tuple #[]/\Rd br bb (.slice none 0 0) [] true w')):=by
 refine cw Tryz.func258 ?_;have r:=ED.refl w;obtain⟨hm,ha,hn⟩:=h;refine ws λ_ O=>wr (dm ?_);refine dp (Nt EA rfl rfl) (de O (wi (λz=>?_) λz=>?_))
 ·refine wr (dm (dm ?_));refine dz rfl (df 0 rfl (G4 hm (λw1 Y xs1 hm=>?_)));dsimp only [EY,Af,Ad,Ag]at hm;have r:=(r.mod Y).mono (λi hi _=>(hi:(ET br) i));refine dz rfl (df 1 rfl (G4 hm (λw2 J xs2 hm=>?_)));dsimp only [EY,Af,Ad,Ag]at hm;have r:=r.own J (λi hi _=>hi);refine EH ((HH (Hh rfl ?_)));exact⟨_,rfl,r,rfl,⟨hm,EQ.nil,λh=>absurd rfl h⟩⟩
 exact absurd ER z
theorem PB (br bb:Nat)(v:Value)(l:EC)(bad:Bool)(w:World)(h:Rd br bb v l bad w) :
  Calls Tryz.prog 188 [EE br 0].toArray w (Pure w (B (!bad && decide (l.length=0)))):=by
 refine cw Tryz.func188 ?_;have r:=ED.refl w;obtain⟨hm,J,hn⟩:=h;refine ws λ_ O=>wr (da (de O (ws λ_ z=>wr (dm ?_))));refine cP (Pd br bb v l bad _ ⟨hm.ext r,J.ext r,hn⟩) RX.all λw1 Y=>?_;have r:=r.trans Y;refine dm ?_;refine I5 5 rfl (λZ=>?_) (λZ=>?_)
 ·refine dm ?_;refine dz rfl (df 0 rfl (dl rfl ((hm.ext r).at rfl) (dv 5 1 (J.ext r).sl (dp (GB rfl rfl) (EP ?_)))));refine da (de z (EJ ?_));refine ro ?_;refine⟨?_,r⟩
  cases bad<;>simp_all
 refine dk (dk (dk (dk (dk (dk (EP ?_))))));refine da (de z (EJ ?_));refine ro ?_;refine⟨?_,r⟩
 cases bad<;>simp_all
section
variable {P:Program}{E:Fh}{dd:Option Tmp}{ty:TypeId}{pos:String}{af:Array Edge}{g:Option (Nat×Bool)}{x y:Operand}{T U:TypeId}
theorem Xc {c:UInt8}(hx:ev E x=b8 (c &&& 127))(hT:(P.underlying T).isSome=true)(hU:HG P U=some .u64):PV P ⟨dd,.convert T U x,ty,pos,af,g⟩ E (.int .u64 ((c.toNat % 128:Nat):Int)):=by
 have:=JO (P:=P) (d:=dd) (ty:=ty) (pos:=pos) (af:=af) (g:=g) hx hT hU;have e:(c &&& 127).toNat=c.toNat % 128:=by
  rw[UInt8.toNat_and];exact DZ c.toNat 7
 rw[e,Oi EB]at this;exact this
theorem O9 {i:Nat}(hi:i<9):128*128 ^ i<=9223372036854775808:=by
 have:(128:Nat) ^ i<=128 ^ 8:=Nat.pow_le_pow_right EN EB;have e:(128:Nat) ^ 8=72057594037927936:=by decide
 omega
theorem U8 {m i:Nat}(hx:ev E x=.int .u64 (m:Nat))(hy:ev E y=I (7*(i:Int)))(hm:m<128)(hi:i<9):PV P ⟨dd,.binOp .shl T x y U,ty,pos,af,g⟩ E (.int .u64 ((m*128 ^ i:Nat):Int)):=by
 have:=Og (P:=P) (dd:=dd) (ty:=ty) (pos:=pos) (af:=af) (g:=g) (T:=T) (U:=U) hx hy EB;have e:(m:Int)*2 ^ min (7*(i:Int)).toNat IntKind.u64.bits=((m*128 ^ i:Nat):Int):=by
  have e1:min (7*(i:Int)).toNat IntKind.u64.bits=7*i:=by
   have:IntKind.u64.bits=64:=rfl;rw[this];omega
  rw[e1,Nat.pow_mul' 2 7 i |> λh=>(by rw[Int.natCast_mul,Int.natCast_pow,show((128:Nat):Int)=2 ^ 7 by decide,<-Int.pow_mul]:((m*128 ^ i:Nat):Int)=(m:Int)*2 ^ (7*i))]
 rw[e,Oi]at this
 ·exact this
 ·have h1:=O9 hi;have:m*128 ^ i<128*128 ^ i:=Ea hm (Nat.pow_pos EN);omega
theorem UD {u m i:Nat}(hx:ev E x=.int .u64 (u:Nat))(hy:ev E y=.int .u64 ((m*128 ^ i:Nat):Int))(hu:u<128 ^ i)(hm:m<128)(hi:i<9):PV P ⟨dd,.binOp .or T x y U,ty,pos,af,g⟩ E (.int .u64 ((u+m*128 ^ i:Nat):Int)):=by
 have:=Lw (P:=P) (dd:=dd) (ty:=ty) (pos:=pos) (af:=af) (g:=g) (T:=T) (U:=U) (op:=.or) (.inr (.inl rfl)) hx hy;have h1:=O9 hi;have h2:m*128 ^ i<128*128 ^ i:=Ea hm (Nat.pow_pos EN);have h3:u ||| m*128 ^ i=u+m*128 ^ i:=by
  have e:(128:Nat) ^ i=2 ^ (7*i):=by rw[Nat.pow_mul]
  rw[e]at hu ⊢;rw[Nat.or_comm,Bu,<-Nat.two_pow_add_eq_or_of_lt hu,Nat.add_comm]
 have e:KL .or .u64 (u:Int) ((m*128 ^ i:Nat):Int)=((u+m*128 ^ i:Nat):Int):=by
  show IntKind.u64.wrap (((AN 64 (u:Int) ||| AN 64 ((m*128 ^ i:Nat):Int)).toNat:Nat):Int)=_;rw[Da,Da,BitVec.toNat_or,Db,Db,B0 EB,B0 EB,h3,Oi EB]
 rw[e]at this;exact this
end
theorem Xzc (k:Nat)(v:Value)(a b:Nat):(base (G7 k v a b)).1=(base v).1:=by
 cases v with
 | slice p n c=>
  cases p with
  | none=>rfl
  | some a'=>
   unfold G7;simp only [base];split
   ·rfl
   ·unfold Addr.add;split<;>rfl
 | _=>rfl
theorem Sq {k m:Nat}{v:Value}{a b:Nat}(h:Gd v m):(G7 k v a b).oneCell'=true:=by
 rcases h with⟨rfl,_⟩|⟨_,_,_,rfl,_⟩|⟨_,_,_,rfl⟩<;>rfl
theorem Xuo {l:EC}{bad:Bool}(h:Gv 0 0 l=none):FQ l bad=(0,[],true):=by unfold FQ;rw[h]
theorem Xup {l r:EC}{n:Nat}{bad:Bool}(h:Gv 0 0 l=some (n,r)):FQ l bad=(n,r,bad):=by unfold FQ;rw[h]
theorem UI {i u:Nat}{c:UInt8}{r:EC}(h:9<=i\/(0<i/\c=0)):Gv i u (c :: r)=none:=by unfold Gv;rw[if_pos h]
theorem Pp {i u:Nat}{c:UInt8}{r:EC}(h:¬ (9<=i\/(0<i/\c=0)))(hc:c.toNat<128):Gv i u (c :: r)=if 4611686018427387904<u+c.toNat % 128*128 ^ i then none else some (u+c.toNat % 128*128 ^ i,r):=by
 rw[Gv.eq_def];simp only [];rw[if_neg h,if_pos hc]
theorem Xq {i u:Nat}{c:UInt8}{r:EC}(h:¬ (9<=i\/(0<i/\c=0)))(hc:¬ c.toNat<128):Gv i u (c :: r)=Gv (i+1) (u+c.toNat % 128*128 ^ i) r:=by
 rw[Gv.eq_def];simp only [];rw[if_neg h,if_neg hc]
theorem WD {i u m:Nat}(hu:u<128 ^ i)(hm:m<128):u+m*128 ^ i<128 ^ (i+1):=by
 rw[CI];have:m*128 ^ i<=127*128 ^ i:=AS _ EB;omega
theorem NE {br bb:Nat}{l:EC}{bad:Bool}{w':World}(h:Gv 0 0 l=none)(hR:Rd br bb (.slice none 0 0) [] true w'):I 0=I ↑(FQ l bad).1/\∃v',Rd br bb v' (FQ l bad).2.1 (FQ l bad).2.2 w':=by
 rw[Xuo h];exact⟨rfl,_,hR⟩
theorem Wq {br bb:Nat}{l r:EC}{bad:Bool}{v':Value}{w':World}{n:Nat}(h:Gv 0 0 l=some (n,r))(hR:Rd br bb v' r bad w'):(.int .i64 (IntKind.i64.wrap (n:Int)))=I ↑(FQ l bad).1/\∃v',Rd br bb v' (FQ l bad).2.1 (FQ l bad).2.2 w':=by
 rw[Xup h,KB (by have:=X4x h;unfold EU;omega)];exact⟨rfl,_,hR⟩
theorem TU {br bb:Nat}{v:Value}{l:EC}{bad:Bool}{w w':World}{lo hi:Nat}(h:Rd br bb v l bad w)(hx:Vc.Mod (ET br) w w')(h1:lo<=hi)(h2:hi<=l.length):EQ EO 1 w' (G7 1 v lo hi) ((l.take hi).drop lo)/\((l.take hi).drop lo≠[]->(base (G7 1 v lo hi)).1=bb/\bb≠br):=by
 have r:(l.take hi).drop lo≠[]->l≠[]:=λe e2=>e (by rw[e2];simp);have z:(l.take hi).drop lo≠[]->(base (G7 1 v lo hi)).1=bb/\bb≠br:=λe=>by rw[Xzc];exact h.n (r e)
 exact⟨(h.a.slice h1 h2).mod hx (λe e2=>(z e).2 ((z e).1▸e2)),z⟩
theorem Ry {br bb:Nat}{v:Value}{l:EC}{bad:Bool}{w w':World}{lo:Nat}(h:Rd br bb v l bad w)(hx:Vc.Mod (ET br) w w')(h1:lo<=l.length)(hm:EK w' br [G7 1 v lo l.length,B bad] 273):Rd br bb (G7 1 v lo l.length) (l.drop lo) bad w':=by
 have:=TU h hx h1 (Ab _);rw[List.take_length]at this;exact⟨hm,this.1,this.2⟩
theorem S8 {n:Int}{l:EC}{bad:Bool}(h:n<0\/(l.length:Int)<n):IF n l bad=([],[],true):=by unfold IF;rw[if_pos h]
theorem Xur {n:Int}{l:EC}{bad:Bool}(h:¬ (n<0\/(l.length:Int)<n)):IF n l bad=(l.take n.toNat,l.drop n.toNat,bad):=by unfold IF;rw[if_neg h]
def IT : Nat->EC->Bool->List Nat×EC×Bool
 | 0,l,bad=>([],l,bad)
 | k+1,l,bad=>((FQ l bad).1 :: (IT k (FQ l bad).2.1 (FQ l bad).2.2).1,(IT k (FQ l bad).2.1 (FQ l bad).2.2).2)
def Gw (Cs:Nat->List Value):List (Nat×Nat)->List Nat->Nat->List Value
 | (b,o) :: ps,n :: ns=>Gw (λk=>if k=b then(Cs b).set o (I ↑n)else Cs k) ps ns
 | _,_=>Cs
theorem Wt {l:EC}{bad:Bool}(h:(FQ l bad).2.1≠[]):l≠[]:=by
 rintro rfl;exact h rfl
theorem Ib {br bb:Nat}{l l':EC}(h:l'≠[]->l≠[]){k:Nat}(hk:Mc br bb l' k):Mc br bb l k:=hk.imp id λ⟨h1,h2⟩=>⟨h h1,h2⟩
theorem QB (k:Nat)(l:EC)(bad:Bool):IT (k+1) l bad=((FQ l bad).1 :: (IT k (FQ l bad).2.1 (FQ l bad).2.2).1,(IT k (FQ l bad).2.1 (FQ l bad).2.2).2):=rfl
theorem KE (br bb:Nat)(v:Value)(l:EC)(bad:Bool)(w:World)(h:Rd br bb v l bad w)(hll:l.length<=2001000020) :
  Calls Tryz.prog 187 [EE br 0].toArray w (Ff (ET br) w (λu w'=>u=I ↑(FQ l bad).1/\∃v',Rd br bb v' (FQ l bad).2.1 (FQ l bad).2.2 w')):=by
 refine cw Tryz.func187 ?_;have r:=ED.refl w;obtain⟨hm,ha,hn⟩:=h;have Z:Rd br bb v l bad w:=⟨hm,ha,hn⟩;refine ws λ_ Z1=>wr (da (de Z1 (ws λ_ Z2=>ws λ_ Z3=>wr (dm ?_))));refine dp (Gi EA rfl rfl) (de Z3 (wi (λc1=>?_) λc1=>?_))
 ·exact absurd c1 ER
 refine EI (Z2 _ _ (ws λ_ Z4=>wr (da (de Z4 (ws λ_ Z5=>ws λ_ Z6=>wr (dm ?_))))));refine dz rfl (df 0 rfl (dl rfl ((hm.ext r).at rfl) (dv 5 1 (ha.ext r).sl (dm (de Z6 (EM ?_))))));refine Fq (G:=Nat×Nat) (λ(k,u)=>[(0,EE br 0),(3,.int .u64 ↑u),(11,v),(12,I ↑l.length),(13,I ↑k)]) (λ(k,u) w'=>ED w w'/\k<=l.length/\k<=9/\u<128 ^ k/\Gv 0 0 l=Gv k u (l.drop k)) (λ(k,u)=>l.length-k) (0,0) ?_ ?_ ?_
 ·exact FN
 ·exact⟨r,Ae _,Ae _,by simp,rfl⟩
 intro X1 g1 w1 xk;obtain⟨k,u⟩:=g1;clear r;obtain⟨r,hk1,hk2,hu,hN⟩:=xk;refine ws λ_ Z7=>wr (dp (Fb rfl rfl) (de Z7 (ws λ_ Z8=>wi (λc2=>?_) λc2=>?_)))
 ·obtain⟨c,hk⟩:∃c,l[k]?=some c:=Fw;have Y:=Jd hk;refine EI (Z8 _ _ (ws λ_ Z9=>EM (ws λ_ hz=>wr (dm ?_))));refine di 5 1 (ha.ext r).sl rfl ((ha.ext r).lt hk) (dl rfl (((ha.ext r).row hk).at0 rfl) (da (da (de hz (ws λ_ hc=>ws λ_ hb=>wr (dm ?_))))));refine dp (IA rfl rfl) (dm ?_);refine F4 20 rfl (λc3=>?_) (λc3=>?_)
  ·refine dk (dk (dk (dk (dk (dk (EP (de hb ?_)))))));refine GS rfl (Fk (Z5 _ _ (ws λ_ hq=>wr (dm ?_))));refine cD (My br bb v l bad _ (Z.ext r)) (.inl rfl) λu2 w2 x2 hy=>?_;have hsz2:=r.size;have r:=(r.mod x2).mono (λi hi _=>(hi:(ET br) i));obtain⟨rfl,J⟩:=hy;refine de hq (ws λ_ hp=>wr (da (de hp (EJ ?_))));refine ro ?_;exact⟨_,rfl,r,NE (by rw[hN,Y];exact UI (.inl EB)) J⟩
  refine dm ?_;refine dp (Gg rfl rfl) (dm ?_);refine F4 23 rfl (λc4=>?_) (λc4=>?_)
  ·refine dm ?_;refine dp (OX (b:=0) rfl rfl) (EP ?_);refine EP (de hb ?_);refine wi (λc5=>?_) λc5=>?_
   ·refine Fk (Z5 _ _ (ws λ_ hg=>wr (dm ?_)));refine cD (My br bb v l bad _ (Z.ext r)) (.inl rfl) λu3 w3 x3 xl=>?_;have hsz3:=r.size;have r:=(r.mod x3).mono (λi hi _=>(hi:(ET br) i));obtain⟨rfl,J⟩:=xl;refine de hg (ws λ_ ht=>wr (da (de ht (EJ ?_))));refine ro ?_;exact⟨_,rfl,r,NE (by rw[hN,Y];exact UI (.inr ⟨by omega,c5⟩)) J⟩
   refine EI (hc _ _ (ws λ_ xg=>wr (dm (dm ?_))));refine dp (QF (b:=127) rfl rfl) (dp (Xc rfl EA EA) (dm ?_));refine dp (Ku rfl rfl (by unfold EU;omega)) (dp (U8 rfl rfl (Bd _ EN) EB) (dp (UD rfl rfl hu (Bd _ EN) EB) (da (de xg (ws λ_ h5=>wr (dm ?_))))));refine dp (UP (b:=128) rfl rfl) (de h5 (wi (λc6=>?_) λc6=>?_))
   ·have O:¬ (9<=k\/(0<k/\c=0)):=by
     rintro (h|⟨h,h2⟩)
     ·omega
     ·exact c5 h2
    have z:=CH.1 c6;refine ws λ_ xe=>ws λ_ h7=>wr (dm ?_);refine dp (Gg rfl rfl) (de h7 (wi (λc7=>?_) λc7=>?_))
    ·refine Fk (Z5 _ _ (ws λ_ h8=>wr (dm ?_)));refine cD (My br bb v l bad _ (Z.ext r)) (.inl rfl) λu4 w4 x4 hh=>?_;have hsz4:=r.size;have r:=(r.mod x4).mono (λi hi _=>(hi:(ET br) i));obtain⟨rfl,J⟩:=hh;refine de h8 (ws λ_ h6=>wr (da (de h6 (EJ ?_))));refine ro ?_;exact⟨_,rfl,r,NE (by rw[hN,Y,Pp O z,if_pos EB]) J⟩
    refine EI (xe _ _ (ws λ_ xb=>wr (dm (dm ?_))));refine dz rfl (df 0 rfl (dl rfl ((hm.ext r).at rfl) (dm ?_)));refine pa rfl rfl (dp (IS (e:=5) (k:=1) EA (ha.ext r).sl rfl rfl rfl (show k+1<=l.length by omega) (Ab _)) (dz rfl (df 0 rfl (G4 (hm.ext r) (λw5 x5 xs5 hm=>?_) (hv:=by exact Sq (k:=1) (a:=k+1) (b:=l.length) ha.sl)))));dsimp only [EY,Af,Ad,Ag]at hm;have r:=(r.mod x5).mono (λi hi _=>(hi:(ET br) i));refine de xb (ws λ_ hl=>wr (dm ?_));refine dp (JO (k:=.i64) rfl EA EA) (da (de hl (EJ ?_)));refine ro ?_;exact⟨_,rfl,r,Wq (by rw[hN,Y,Pp O z,if_neg EB]) (Ry Z r EB hm)⟩
   have O:¬ (9<=k\/(0<k/\c=0)):=by
    rintro (h|⟨h,h2⟩)
    ·omega
    ·exact c5 h2
   have z:¬ c.toNat<128:=λh=>c6 (CH.2 h);refine EI (Z9 _ _ (wr (pa rfl rfl (dm (EH (?_))))));refine⟨(k+1,_),FN,⟨r,by omega,by omega,WD hu (Bd _ EN),by rw[hN,Y,Xq O z]⟩,by simp only [];omega⟩
  refine dk (dk (EP ?_));refine EP (de hb ?_);refine Hf rfl (EI (hc _ _ (ws λ_ hw=>wr (dm (dm ?_)))));refine dp (QF (b:=127) rfl rfl) (dp (Xc rfl EA EA) (dm ?_));refine dp (Ku rfl rfl (by unfold EU;omega)) (dp (U8 rfl rfl (Bd _ EN) EB) (dp (UD rfl rfl hu (Bd _ EN) EB) (da (de hw (ws λ_ xh=>wr (dm ?_))))));refine dp (UP (b:=128) rfl rfl) (de xh (wi (λc8=>?_) λc8=>?_))
  ·have O:¬ (9<=k\/(0<k/\c=0)):=by rintro (h|⟨h,_⟩)<;>omega
   have z:=CH.1 c8;refine ws λ_ xa=>ws λ_ xc=>wr (dm ?_);refine dp (Gg rfl rfl) (de xc (wi (λc9=>?_) λc9=>?_))
   ·refine Fk (Z5 _ _ (ws λ_ hr=>wr (dm ?_)));refine cD (My br bb v l bad _ (Z.ext r)) (.inl rfl) λu6 w6 x6 h9=>?_;have hsz6:=r.size;have r:=(r.mod x6).mono (λi hi _=>(hi:(ET br) i));obtain⟨rfl,J⟩:=h9;refine de hr (ws λ_ xf=>wr (da (de xf (EJ ?_))));refine ro ?_;exact⟨_,rfl,r,NE (by rw[hN,Y,Pp O z,if_pos EB]) J⟩
   refine EI (xa _ _ (ws λ_ xd=>wr (dm (dm ?_))));refine dz rfl (df 0 rfl (dl rfl ((hm.ext r).at rfl) (dm ?_)));refine pa rfl rfl (dp (IS (e:=5) (k:=1) EA (ha.ext r).sl rfl rfl rfl (show k+1<=l.length by omega) (Ab _)) (dz rfl (df 0 rfl (G4 (hm.ext r) (λw7 x7 xs7 hm=>?_) (hv:=by exact Sq (k:=1) (a:=k+1) (b:=l.length) ha.sl)))));dsimp only [EY,Af,Ad,Ag]at hm;have r:=(r.mod x7).mono (λi hi _=>(hi:(ET br) i));refine de xd (ws λ_ hj=>wr (dm ?_));refine dp (JO (k:=.i64) rfl EA EA) (da (de hj (EJ ?_)));refine ro ?_;exact⟨_,rfl,r,Wq (by rw[hN,Y,Pp O z,if_neg EB]) (Ry Z r EB hm)⟩
  have O:¬ (9<=k\/(0<k/\c=0)):=by rintro (h|⟨h,_⟩)<;>omega
  have z:¬ c.toNat<128:=λh=>c8 (CH.2 h);refine EI (Z9 _ _ (wr (pa rfl rfl (dm (EH (?_))))));refine⟨(k+1,_),FN,⟨r,by omega,by omega,WD hu (Bd _ EN),by rw[hN,Y,Xq O z]⟩,by simp only [];omega⟩
 refine Fk (Z5 _ _ (ws λ_ xj=>wr (dm ?_)));refine cD (My br bb v l bad _ (Z.ext r)) (.inl rfl) λu8 w8 x8 hf=>?_;have hsz8:=r.size;have r:=(r.mod x8).mono (λi hi _=>(hi:(ET br) i));obtain⟨rfl,J⟩:=hf;refine de xj (ws λ_ xi=>wr (da (de xi (EJ ?_))));refine ro ?_;exact⟨_,rfl,r,NE (by rw[hN,BZ EB];rfl) J⟩
theorem Ybp (br bb:Nat)(v:Value)(l:EC)(bad:Bool)(n:Int)(w:World)(h:Rd br bb v l bad w)(hll:l.length<=2001000020) :
  Calls Tryz.prog 194 [EE br 0,I n].toArray w (Ff (ET br) w (λu w'=>Vc.Own EO 1 5 w.heap.size w' u (IF n l bad).1/\∃v',Rd br bb v' (IF n l bad).2.1 (IF n l bad).2.2 w')):=by
 refine cw Tryz.func194 ?_;have r:=ED.refl w;obtain⟨hm,Y,hn⟩:=h;have z:Rd br bb v l bad w:=⟨hm,Y,hn⟩;refine ws λ_ Z1=>wr (da (de Z1 (ws λ_ Z2=>ws λ_ Z3=>wr (dm ?_))));refine dp (Gi EA rfl rfl) (dm ?_);refine F4 8 rfl (λc1=>?_) (λc1=>?_)
 ·exact absurd c1 ER
 refine dm ?_;refine dp (Fb rfl rfl) (EP ?_);refine dm ?_;refine F4 12 rfl (λc2=>?_) (λc2=>?_)
 ·refine dk (dk (dk (dk (dk (dk (dk (EP (de Z3 ?_))))))));refine GS rfl (ws λ_ Z4=>wr (dm ?_));refine cD (My br bb v l bad _ (z.ext r)) (.inl rfl) λu1 w1 x1 hb=>?_;have hsz1:=r.size;have r:=(r.mod x1).mono (λi hi _=>(hi:(ET br) i));obtain⟨rfl,O⟩:=hb;refine de Z4 (ws λ_ Z5=>wr (da (de Z5 (EJ ?_))));refine ro ?_;refine⟨_,rfl,r,?_⟩;rw[S8 EB];exact⟨Vc.Own.nil,_,O⟩
 iterate 2 refine dm ?_
 refine dz rfl (df 0 rfl (dl rfl ((hm.ext r).at rfl) (dv 5 1 (Y.ext r).sl (dp (Gg rfl rfl) (EP (de Z3 ?_))))));refine wi (λc3=>?_) λc3=>?_
 ·refine ws λ_ Z6=>wr (dm ?_);refine cD (My br bb v l bad _ (z.ext r)) (.inl rfl) λu2 w2 x2 hc=>?_;have hsz2:=r.size;have r:=(r.mod x2).mono (λi hi _=>(hi:(ET br) i));obtain⟨rfl,O⟩:=hc;refine de Z6 (ws λ_ Z7=>wr (da (de Z7 (EJ ?_))));refine ro ?_;refine⟨_,rfl,r,?_⟩;rw[S8 EB];exact⟨Vc.Own.nil,_,O⟩
 obtain⟨n,rfl⟩:∃m:Nat,n=↑m:=⟨n.toNat,by omega⟩;have hg:(↑n:Int).toNat=n:=B7 n;have J:n<=l.length:=by omega
 refine EI (Z2 _ _ (ws λ_ Z8=>wr (dm ?_)));refine dz rfl (df 0 rfl (dl rfl ((hm.ext r).at rfl) (dm ?_)));refine dp (IS (e:=5) (k:=1) EA (Y.ext r).sl rfl rfl rfl (Ae _) J) ?_;have Z:=(TU (hi:=n) (lo:=0) z ((Vc.Mod.refl _ _).ext r) (Ae _) J).1;rw[List.drop_zero]at Z;refine cG (L7 (l.take n) _ _ Z (by rw[List.length_take];omega)) RX.all λvo w3 x3 ho=>?_;have hsz3:=r.size;have r:=r.trans x3;refine da (de Z8 (ws λ_ Z9=>wr (dm (dm ?_))));refine dz rfl (df 0 rfl (dl rfl ((hm.ext r).at rfl) (dm ?_)));refine dp (IS (e:=5) (k:=1) EA (Y.ext r).sl rfl rfl rfl J (Ab _)) (dz rfl (df 0 rfl (G4 (hm.ext r) (λw4 x4 xs4 hm=>?_) (hv:=by exact Sq (k:=1) (a:=n) (b:=l.length) Y.sl))));dsimp only [EY,Af,Ad,Ag]at hm;have ho:=ho.mod x4 (λk hk h=>by have h1:=(ho.lt k hk).1;have h2:k=br:=h;have h3:=z.m.lt;omega);have r:=(r.mod x4).mono (λi hi _=>(hi:(ET br) i));refine de Z9 (ws λ_ hf=>wr (dm (da (de hf (EJ ?_)))));refine ro ?_;refine⟨_,rfl,r,?_⟩;rw[Xur EB,hg];exact⟨ho,_,Ry z r J hm⟩
theorem Kx (br bb:Nat)(v:Value)(l:EC)(bad:Bool)(w:World)(h:Rd br bb v l bad w)(hll:l.length<=2001000020) :
  Calls Tryz.prog 121 [EE br 0].toArray w (Ff (ET br) w (λu w'=>Vc.Own EO 1 5 w.heap.size w' u (NW l bad).1/\∃v',Rd br bb v' (NW l bad).2.1 (NW l bad).2.2 w')):=by
 refine cw Tryz.func121 ?_;have r:=Vc.Mod.refl (ET br) w;refine ws λ_ Z1=>wr (da (de Z1 (ws λ_ Z2=>wr (dm (dm ?_)))));refine cD (KE br bb v l bad _ (h.ext (ED.refl _)) hll) (.inl rfl) λu1 w1 x1 O=>?_;have hsz1:=r.size;have r:=r.own x1 (λi hi Y=>hi);obtain⟨rfl,v1,Z⟩:=O;have z:=x1.size;refine cD (Ybp br bb v1 _ _ _ _ Z (Ai (Uv l bad) hll)) (.inl rfl) λu2 w2 x2 ha=>?_;have hsz2:=r.size;have r:=r.own x2 (λi hi Y=>hi);obtain⟨hO,v2,J⟩:=ha;refine da (de Z2 (EJ ?_));refine ro ?_;exact⟨_,rfl,r,hO.mono z,v2,J⟩
theorem PH (br bb:Nat)(v:Value)(l:EC)(bad:Bool)(ps:List (Nat×Nat))(vn:Value)(Cs:Nat->List Value)(Ts:Nat->TypeId)(w:World)(hR0:Rd br bb v l bad w)(hll:l.length<=2001000020)(hv:EQ (λp:Nat×Nat=>[EE p.1 p.2]) 1 w vn ps)(hpl:ps.length<=1000)(hB0:∀p∈ps,EK w p.1 (Cs p.1) (Ts p.1)/\p.2<(Cs p.1).length)(hdis:∀p∈ps,¬ Mc br bb l p.1)(hdv:ps≠[]->¬ ((base vn).1=br\/∃p∈ps,(base vn).1=p.1)) :
  Calls Tryz.prog 119 [EE br 0,vn].toArray w (Ff (λk=>k=br\/∃p∈ps,k=p.1) w (λu w'=>u=.tuple #[]/\∃v',Rd br bb v' (IT ps.length l bad).2.1 (IT ps.length l bad).2.2 w'/\∀p∈ps,EK w' p.1 (Gw Cs ps (IT ps.length l bad).1 p.1) (Ts p.1))):=by
 refine cw Tryz.func119 ?_;have z:=Vc.Mod.refl (λk=>k=br\/∃p∈ps,k=p.1) w;refine ws λ_ Z1=>wr (dm ?_);refine dv 197 1 (hv.mod z hdv).sl (dm (de Z1 (EM ?_)));refine Fq (G:=Nat×Value×EC×Bool×(Nat->List Value)) (λ(k,vc,r,O,J)=>[(0,EE br 0),(7,vn),(8,I ↑ps.length),(9,I ↑k)]) (λ(k,vc,r,O,J) w'=>Mod (λk=>k=br\/∃p∈ps,k=p.1) w w'/\k<=ps.length/\Rd br bb vc r O w'/\(∀p∈ps,EK w' p.1 (J p.1) (Ts p.1)/\p.2<(J p.1).length)/\r.length<=l.length/\(r≠[]->l≠[])/\Gw Cs ps (IT ps.length l bad).1=Gw J (ps.drop k) (IT (ps.length-k) r O).1/\(IT ps.length l bad).2=(IT (ps.length-k) r O).2) (λ(k,vc,r,O,J)=>ps.length-k) (0,v,l,bad,Cs) ?_ ?_ ?_
 ·exact Gc
 ·exact⟨z,Ae _,hR0,hB0,Ab _,id,rfl,rfl⟩
 intro X1 g1 w1 ht;obtain⟨k,vc,r,O,J⟩:=g1;clear z;obtain⟨z,hk1,hR,Y,ha,hb,hW,hT⟩:=ht;refine ws λ_ Z2=>wr (dp (Fb rfl rfl) (de Z2 (ws λ_ Z3=>wi (λc1=>?_) λc1=>?_)))
 ·obtain⟨p,hk⟩:∃p,ps[k]?=some p:=Fw;have hh:=Jd hk;refine EI (Z3 _ _ (ws λ_ Z4=>EM (ws λ_ Z5=>wr (di 197 1 (hv.mod z hdv).sl rfl ((hv.mod z hdv).lt hk) (dl rfl (((hv.mod z hdv).row hk).at0 rfl) (da (de Z5 (ws λ_ Z6=>wr (dm ?_)))))))));refine cD (KE br bb vc r O _ hR EB) (.inl rfl) λu2 w2 x2 hw=>?_;have hsz2:=z.size;have z:=z.own x2 (λi hi hr=>.inl hi);obtain⟨rfl,v1,hR⟩:=hw;have Y:∀p∈ps,EK w2 p.1 (J p.1) (Ts p.1)/\p.2<(J p.1).length:=λp hp=>⟨(Y p hp).1.mod x2 (λh=>hdis p hp (.inl h)),(Y p hp).2⟩;refine da (de Z6 (ws λ_ Z7=>wr (dm ?_)));refine dp (Nt EA rfl rfl) (de Z7 (wi (λc2=>?_) λc2=>?_))
  ·refine wr (dm (dm ?_));refine dz rfl ?_;obtain⟨hl,Z⟩:=Y p (Ak hk);refine MH (b:=p.1) (o:=p.2) (v:=I ↑(FQ r O).1) rfl rfl rfl rfl EA hl Z (.inl rfl) (λw3 x3 xs3 hc=>?_);have z:=z.own x3 (λi hi hr=>by have h2:i=p.1:=hi;exact .inr ⟨p,Ak hk,h2⟩);have hR:=hR.mod x3 (λk9 hj h9=>by have h2:k9=p.1:=h9;exact hdis p (Ak hk) (h2▸Ib (λe=>hb (Wt e)) hj));have Y:∀q∈ps,EK w3 q.1 (if q.1=p.1 then(J p.1).set p.2 (I ↑(FQ r O).1)else J q.1) (Ts q.1)/\q.2<(if q.1=p.1 then(J p.1).set p.2 (I ↑(FQ r O).1)else J q.1).length:=by
    intro q hq
    by_cases e:q.1=p.1
    ·have hg:=(Y q hq).2;rw[if_pos e,e,AF];rw[e]at hg;exact⟨hc,hg⟩
    ·rw[if_neg e];exact⟨(Y q hq).1.mod x3 (λh=>e h),(Y q hq).2⟩
   refine de Z4 (wr (pa rfl rfl (dm (EH (?_)))));obtain⟨m,hm9⟩:∃m,ps.length-k=m+1:=⟨ps.length-k-1,by omega⟩;have hf:ps.length-(k+1)=m:=by omega
   refine⟨(k+1,v1,(FQ r O).2.1,(FQ r O).2.2,λq=>if q=p.1 then(J p.1).set p.2 (I ↑(FQ r O).1)else J q),Gc,⟨z,by omega,hR,Y,Ai (Uv r O) ha,λe=>hb (Wt e),?_,?_⟩,by simp only [];omega⟩
   ·rw[hW,hh,hm9,hf,QB];rfl
   ·rw[hT,hm9,hf,QB]
  exact absurd ER c2
 refine Fk (HH (Hh rfl ?_));rw[show ps.length-k=0 by omega]at hW hT;refine⟨_,rfl,z,rfl,vc,by rw[hT];exact hR,λp hp=>?_⟩;rw[hW,BZ EB];exact(Y p hp).1
def Nq (h:UInt32)(c:UInt8):UInt32:=(h ^^^ c.toUInt32)*16777619
def MD (s:EC):UInt32:=s.foldl Nq 2166136261
def PL (s:EC):UInt32:=(MD s >>> 17) ||| (MD s <<< 15)
def NU (s:EC)(n i:Nat):Nat:=(MD s+AL i*PL s).toNat % n
def IX (s:EC)(n:Nat):List Nat:=(BF 6).map (NU s n)
section
variable {P:Program}{E:Fh}{dd:Option Tmp}{ty:TypeId}{pos:String}{af:Array Edge}{g:Option (Nat×Bool)}{x y:Operand}{T U:TypeId}
theorem UK {a b:UInt32}(hx:ev E x=GP a)(hy:ev E y=GP b):PV P ⟨dd,.binOp .mul T x y U,ty,pos,af,g⟩ E (GP (a*b)):=by
 have:=T5 (P:=P) (d:=dd) (ty:=ty) (pos:=pos) (af:=af) (g:=g) (T:=T) (U:=U) hx hy;rwa [Lf,show((a.toNat:Int)*(b.toNat:Int)) % 4294967296=((a*b).toNat:Int) by rw[UInt32.toNat_mul];omega]at this
theorem X4y {a b:UInt32}(hx:ev E x=GP a)(hy:ev E y=GP b):PV P ⟨dd,.binOp .add T x y U,ty,pos,af,g⟩ E (GP (a+b)):=by
 have:=X4k (P:=P) (d:=dd) (ty:=ty) (pos:=pos) (af:=af) (g:=g) (T:=T) (U:=U) hx hy;rwa [Lf,show((a.toNat:Int)+(b.toNat:Int)) % 4294967296=((a+b).toNat:Int) by rw[UInt32.toNat_add];omega]at this
theorem SV {n:Nat}(hx:ev E x=I n)(hT:(P.underlying T).isSome=true)(hU:HG P U=some .u32):PV P ⟨dd,.convert T U x,ty,pos,af,g⟩ E (GP (AL n)):=by
 have:=JO (P:=P) (d:=dd) (ty:=ty) (pos:=pos) (af:=af) (g:=g) hx hT hU;rwa [Lf,show(n:Int) % 4294967296=((AL n).toNat:Int) by rw[UInt32.toNat_ofNat'];omega]at this
theorem KC {n:Nat}{k:IntKind}(hn:n<18446744073709551616)(hx:ev E x=.int k n)(hT:(P.underlying T).isSome=true)(hU:HG P U=some .u64):PV P ⟨dd,.convert T U x,ty,pos,af,g⟩ E (.int .u64 (n:Int)):=by
 have:=JO (P:=P) (d:=dd) (ty:=ty) (pos:=pos) (af:=af) (g:=g) hx hT hU;rwa [Oi hn]at this
theorem Lk {n:Nat}(hn:n<9223372036854775808)(hx:ev E x=.int .u64 (n:Int))(hT:(P.underlying T).isSome=true)(hU:HG P U=some .i64):PV P ⟨dd,.convert T U x,ty,pos,af,g⟩ E (I (n:Int)):=by
 have:=JO (P:=P) (d:=dd) (ty:=ty) (pos:=pos) (af:=af) (g:=g) hx hT hU;rwa [KB (by unfold EU;omega)]at this
theorem Xze {a b:Nat}(hb:0<b)(hx:ev E x=.int .u64 (a:Int))(hy:ev E y=.int .u64 (b:Int)):PV P ⟨dd,.binOp .rem T x y U,ty,pos,af,g⟩ E (.int .u64 ((a % b:Nat):Int)):=by
 have:=Ot (P:=P) (dd:=dd) (ty:=ty) (pos:=pos) (af:=af) (g:=g) (T:=T) (U:=U) hx hy EB EB;rwa [show(a:Int) % (b:Int)=((a % b:Nat):Int) by omega]at this
end
theorem Xuu {s:EC}{k:Nat}{c:UInt8}(h:s[k]?=some c):(s.take (k+1)).foldl Nq 2166136261=Nq ((s.take k).foldl Nq 2166136261) c:=by
 rw[G1 h,B4];rfl
theorem NB (s:EC)(n:Nat):(IX s n).length=6:=by simp [IX]
theorem Xs0 {s:EC}{n i:Nat}(h:i<6):(IX s n)[i]?=some (NU s n i):=by simp [IX,h]
theorem X8v (s:EC)(w:World)(hs:s.length<=1000000000) :
  Calls Tryz.prog 311 [S s].toArray w (Pure w (GP (MD s))):=by
 refine cw Tryz.func311 ?_;have r:=ED.refl w;refine ws λ_ Z1=>wr (da (de Z1 (ws λ_ Z2=>wr (da (de Z2 (ws λ_ Z3=>ws λ_ Z4=>wr (dm ?_)))))));refine dt rfl (dm (de Z4 (EM ?_)));refine Fq (G:=Nat×UInt32) (λ(k,h)=>[(0,S s),(2,.int .u32 0),(3,GP h),(6,I ↑s.length),(7,I ↑k)]) (λ(k,h) w'=>ED w w'/\k<=s.length/\h=(s.take k).foldl Nq 2166136261) (λ(k,h)=>s.length-k) (0,2166136261) ?_ ?_ ?_
 ·exact FN
 ·exact⟨r,Ae _,rfl⟩
 intro X1 g1 w1 J;obtain⟨k,h⟩:=g1;clear r;obtain⟨r,hk1,z⟩:=J;refine ws λ_ Z5=>wr (dp (Fb rfl rfl) (de Z5 (ws λ_ Y=>wi (λZ=>?_) λZ=>?_)))
 ·obtain⟨c,hk⟩:∃c,s[k]?=some c:=Fw;refine EI (Y _ _ (ws λ_ Z7=>EM (ws λ_ O=>wr (dm (da (de O (wr (dm (dm (dm ?_))))))))));refine dp (Xy9 EA rfl rfl hk) (dp (Nz rfl EA EA) (dp (Q6 rfl rfl) (dp (UK (b:=16777619) rfl rfl) (da (de Z7 (wr ?_))))));refine pa rfl rfl (dm (EH (?_)));refine⟨(k+1,Nq h c),FN,⟨r,by omega,by rw[Xuu hk,<-z]⟩,by simp only [];omega⟩
 refine Fk (Z3 _ _ (ws λ_ Z9=>wr (dm (da (de Z9 (EJ ?_))))));refine ro ?_;rw[Ay EB]at z;exact⟨by rw[z];rfl,r⟩
theorem Vg (s:EC)(n:Nat)(w:World)(hs:s.length<=1000000000)(h0:0<n)(hn:n<=9223372036854775807) :
  Calls Tryz.prog 255 [S s,I ↑n].toArray w (Pure w (.agg ⟨Ga (IX s n)⟩)):=by
 refine cw Tryz.func255 ?_;have r:=ED.refl w;refine ws λ_ Z1=>wr (FP (cs:=[.int .i64 0,.int .i64 0,.int .i64 0,.int .i64 0,.int .i64 0,.int .i64 0]) rfl EA RX.all (λb1 w1 e1 x1 z=>?_));have g1:=r.ge e1;have r:=r.trans x1;refine de Z1 (ws λ_ Z2=>wr (FP (cs:=[.int .i64 0,.int .i64 0,.int .i64 0,.int .i64 0,.int .i64 0,.int .i64 0]) rfl EA RX.all (λb2 w2 e2 x2 J=>?_)));have g2:=r.ge e2;have n2_1:=z.ltb e2;have z:=z.ext x2;have r:=r.trans x2;refine de Z2 (ws λ_ Z3=>wr (dm ?_));refine cP (X8v s _ hs) RX.all λw3 Z=>?_;have z:=z.ext Z;have J:=J.ext Z;have r:=r.trans Z;refine da (de Z3 (ws λ_ Z4=>wr (dm ?_)));refine dp (Om (b:=17) EN rfl rfl) (dm ?_);refine dp (OR (b:=15) EN rfl rfl) (dp (OU rfl rfl) (da (de Z4 (ws λ_ Z5=>ws λ_ Z6=>wr (dm (de Z6 (EM ?_)))))));refine Fq (G:=Nat×List Nat) (λ(k,q)=>[(1,I ↑n),(4,EE b1 0),(5,EE b2 0),(6,GP (MD s)),(7,GP (PL s)),(16,I ↑k)]) (λ(k,q) w'=>ED w w'/\EK w' b1 (Ga (Ax 6 0)) 322/\k<=6/\q.length=6/\q.take k=(IX s n).take k/\EK w' b2 (Ga q) 322) (λ(k,q)=>6-k) (0,Ax 6 0) ?_ ?_ ?_
 ·exact G2
 ·exact⟨r,z,Ae _,rfl,rfl,J⟩
 intro X4 g4 w4 ha;obtain⟨k,q⟩:=g4;clear r z J;obtain⟨r,z,hk1,Y,O,J⟩:=ha;refine ws λ_ Z7=>wr (dp (Fb rfl rfl) (de Z7 (ws λ_ Z8=>wi (λc1=>?_) λc1=>?_)))
 ·refine EI (Z8 _ _ (ws λ_ Z9=>EM (ws λ_ hc=>wr (dm (da (de hc (wr (dm (dm (dm ?_))))))))));refine dp (SV rfl EA EA) (dm ?_);refine dp (UK rfl rfl) (dp (X4y rfl rfl) (dp (KC (by have:=UInt32.toNat_lt (MD s+AL k*PL s);omega) rfl EA EA) (dm ?_)));refine dp (KC EB rfl EA EA) (dp (Xze h0 rfl rfl) (dp (Lk (n:=NU s n k) (by have:=Bd (MD s+AL k*PL s).toNat h0;unfold NU;omega) rfl EA EA) (dp (Ko (m:=6) (e:=3) (k:=1) EA rfl rfl EB) (G4 J (λw5 x5 xs5 J=>?_) (hv:=by rfl) (ho:=by rw[List.length_map];omega)))));rw[MR]at J;have z:=z.mo x5;have r:=r.o1 x5;refine de Z9 (wr (pa rfl rfl (dm (EH (?_)))));refine⟨(k+1,q.set k (NU s n k)),G2,⟨r,z,by omega,by rw[AF];exact Y,?_,J⟩,by simp only [];omega⟩;rw[B3,B3,Xs0 EB,List.take_set_of_le (Ab _),O,BB EB]
 refine Fk (Z5 _ _ (ws λ_ hb=>wr (dq (Fe (k:=6) EA rfl (by simp [Y]) J.row) ?_)));refine Ox (m:=6) (vs:=?u16) rfl rfl ?h16 EA ?c16 ?d16 z ?n16 (.inl rfl) (λw6 x6 xs6 z=>?k16)
 case h16=>conv=>lhs;whnf
 case c16=>simp [Y]
 case d16=>rfl
 case n16=>simp [Value.oneCell']
 have r:=r.o1 x6;refine de hb (EJ (Nu (k:=6) rfl rfl rfl EA (by simp [Y]) z.row ?_));rw[Ay EB,Ay (by rw[NB];omega)]at O;exact⟨by rw[O],r⟩
end Go.Proofs.YtiooodckiddpmaaGreatDoor
namespace Go.Vc
open Go.RowKit
def Kv (r:Option Nat):Fence:={ Fence.wide with round:=r }
def Ms (o:Oper):Bool:=match o.op with
 | .defer ..=>false
 | _=>true
theorem Xm8 {o:Oper}(h:Ms o=true):∀c,o.op≠.defer c:=λc e=>by unfold Ms at h;rw[e]at h;cases h
def J9 (n:Nat):Code->Bool
 | .skip | .exit _ | .ret=>true
 | .region _ ops _=>ops.all (IK n) && ops.all Ms
 | .seq a b=>J9 n a && J9 n b
 | .cond c a b=>MO n c && J9 n a && J9 n b
 | .block _ c=>J9 n c
 | .loop c=>J9 n c
 | .rangeFunc g ps a b=>MO n g && ps.all (AR · n) && J9 n a && J9 n b
 | _=>false
def Hb (n:Nat)(E:Fh)(ds:List Deferred):Act:=⟨Array.ofFn (n:=n) λi=>E i.val,ds⟩
def HN (ds:List Deferred)(a:Act):Act:={ a with defers:=a.defers++ds }
theorem Xzf (n:Nat)(E:Fh)(ds:List Deferred):HN ds (GU n E)=Hb n E ds:=rfl
theorem Nj (ds:List Deferred)(a:Act)(d:Option Tmp)(v:Value):(HN ds a).put d v=HN ds (a.put d v):=by cases d<;>rfl
theorem XN {n:Nat}{E:Fh}{ds:List Deferred}{x:Operand}(h:MO n x=true):(Hb n E ds).eval x=ev E x:=Qp h
abbrev QX := Exit->Fh->List Deferred->World->Prop
def Wb (n:Nat)(Q:QX):Exit->Act->World->Prop:=λe a w=>∃E ds,a=Hb n E ds/\Q e E ds w
def WX (r:Option Nat)(ds:List Deferred)(P:Program)(n:Nat)(c:Code)(Q:QX)(E:Fh)(w:World):Prop:=
 J9 n c=true->c.wpIn (Kv r) 0 P (Wb n Q) (Hb n E ds) w
def Qd (K:Fh->List Deferred->World->Prop)(Q:QX):QX
 | .normal,E,ds,w=>K E ds w
 | e,E,ds,w=>Q e E ds w
def OB (id:Nat)(Q:QX):QX
 | .exit id',E,ds,w=>cond (Bj id' id) (Q .normal E ds w) (Q (.exit id') E ds w)
 | e,E,ds,w=>Q e E ds w
section
variable {r:Option Nat}{ds:List Deferred}{P:Program}{n:Nat}{Q:QX}{E:Fh}{w:World}
theorem MF {x y:Code}(h:∀K:Fh->List Deferred->World->Prop,(∀E ds w,WX r ds P n y Q E w->K E ds w)->WX r ds P n x (Qd K Q) E w):WX r ds P n (.seq x y) Q E w:=by
 intro ok;simp only [J9,Au]at ok;refine wpIn_seq (Go.wpIn_mono (h (λE ds w=>WX r ds P n y Q E w) (λ_ _ _ h=>h) ok.1) ?_);intro e a w' O;obtain⟨E',J,rfl,z⟩:=O
 cases e<;>first|exact z ok.2|exact⟨E',J,rfl,z⟩
theorem X8x (h:Q .ret E ds w):WX r ds P n .ret Q E w:=λ_=>wpIn_ret ⟨E,ds,rfl,h⟩
theorem X4z {id:Nat}(h:Q (.exit id) E ds w):WX r ds P n (.exit id) Q E w:=λ_=>wpIn_exit ⟨E,ds,rfl,h⟩
theorem X40 {c:Operand}{x y:Code}{t:Bool}(hc:ev E c=.bool t)(ht:t=true->WX r ds P n x Q E w)(hf:t=false->WX r ds P n y Q E w):WX r ds P n (.cond c x y) Q E w:=by
 intro ok;simp only [J9,Au]at ok;exact wpIn_cond_split (t:=t) (by rw[XN ok.1.1];exact hc) (λh=>ht h ok.1.2) (λh=>hf h ok.2)
theorem Wd {id:Nat}{c:Code}(h:WX r ds P n c (OB id Q) E w):WX r ds P n (.block id c) Q E w:=by
 intro ok;refine wpIn_block (Go.wpIn_mono (h ok) ?_);rintro e a w' ⟨E',d',rfl,hQ⟩
 cases e with
 | exit id'=>
  simp only [Exit.inBlock]
  by_cases hid:id'=id
  ·subst hid;simp only [if_true];refine⟨E',d',rfl,?_⟩;simpa [OB]using hQ
  ·simp only [hid,if_false];refine⟨E',d',rfl,?_⟩;simpa [OB,Pk hid]using hQ
 | _=>exact⟨E',d',rfl,hQ⟩
theorem X41 {c:Code}{G:Type}(sl:G->List (Nat×Value))(F:G->World->Prop)(μ:G->Nat)(g0:G)(h0:holds (sl g0) E)(hF0:F g0 w)
  (round:∀(E:Fh) (g:G) (w:World),F g w->WX r ds P n c (Qd (λE' d' w'=>d'=ds/\∃g',holds (sl g') E'/\F g' w'/\μ g'<μ g) Q) (N5 (sl g) E) w):WX r ds P n (.loop c) Q E w:=by
 intro ok;have hf:J9 n c=true:=ok
 -- the measure stands in the ghost: one loop rule a ghost at a time,by strong induction over machines
 intro b k cs hj hb hr;have key:∀(m:Nat) (E:Fh) (g:G) (w:World),μ g=m->holds (sl g) E->F g w->
   ∃e a' w',Wb n Q e a' w'/\ArrivesIn (Machine.fenced P (Kv r)) P (lone (b.atR (Hb n E ds) (.code c :: .inLoop c :: k)) cs w) b k cs e a' w':=by
  intro m
  induction m using Nat.strongRecOn with
  | _ m ih=>
   intro E g w hm hh hF;have ha:=round E g w hF hf;rw[Qt hh]at ha;obtain⟨e,a1,Y,⟨Z,d1,rfl,J⟩,z⟩:=ha b (.inLoop c :: k) cs hj hb hr
   cases e with
   | normal=>
    obtain⟨rfl,g',hg,hl,hp⟩:=J;obtain⟨e2,a2,w2,hc,O⟩:=ih (μ g') (hm▸hp) Z g' Y rfl hg hl;exact⟨e2,a2,w2,hc,.of_steps (StepsIn.trans z (.one (fenced_calm hb hr rfl) stepR_inLoop)) O⟩
   | exit id=>exact⟨_,_,Y,⟨Z,d1,rfl,J⟩,.pass (x:=.inLoop c) rfl (λ_ _=>.inl ER) z⟩
   | goto l=>exact⟨_,_,Y,⟨Z,d1,rfl,J⟩,.pass (x:=.inLoop c) rfl (λ_ _=>.inl ER) z⟩
   | ret=>exact⟨_,_,Y,⟨Z,d1,rfl,J⟩,.pass (x:=.inLoop c) rfl (λ_ _=>.inl ER) z⟩
   | panic ch=>exact⟨_,_,Y,⟨Z,d1,rfl,J⟩,.pass (x:=.inLoop c) rfl (λ_ _=>.inl ER) z⟩
   | outgrown=>exact⟨_,_,Y,⟨Z,d1,rfl,J⟩,.pass (x:=.inLoop c) rfl (λ_ _=>.inl ER) z⟩
 obtain⟨e,a',w',J,z⟩:=key (μ g0) E g0 w rfl h0 hF0;exact⟨e,a',w',J,.of_steps (.one (fenced_calm hb hr rfl) stepR_loop) z⟩
theorem Xnb {row:String}{args:Array Value}{R:Value->World->Prop}(h:Rows P row args w R):RowsIn (Kv r) 0 P row args w R:=λc cs _=>by
 obtain⟨v,w',z,hs⟩:=h c cs;exact⟨v,w',z,stepsIn_wide.2 hs⟩
theorem VC {m:Nat}{f:FuncId}{args:Array Value}{R:Ending->World->Prop}(h:Calls P f args w R):CallsIn (Kv r) m P f args w R:=callsIn_wide.2 h
theorem X42 {o:Oper}(hd:Ms o=true){a:Act}{K0 K:Act->World->Prop}{Q0 Q:Exit->Act->World->Prop}(hK:∀a w,K0 a w->K (HN ds a) w)(hQ:∀e a w,e≠.normal->¬ Q0 e a w)
  (h:o.wp P a w K0 Q0):o.wpIn (Kv r) 0 P (HN ds a) w K Q:=by
 have hs:=Xm8 hd;unfold Oper.wp at h;unfold Oper.wpIn;refine⟨λ_ _=>trivial,?_⟩;rw[Oper.semAt_eq _ _ _ hs];have he:(HN ds a).eval=a.eval:=rfl;rw[he]
 generalize hres:(execOp a.eval o).run P w=res at *
 cases res with
 | ok x w'=>
  cases x<;>simp only [Oper.upon,Oper.uponIn]at h ⊢
  case value v=>rw[Nj];exact hK _ _ h
  case skip=>rw[Nj];exact hK _ _ h
  case enter f args=>
   refine⟨λh=>by simp [Kv,Fence.wide]at h,VC (Calls.mono h λe z he=>?_)⟩
   cases e with
   | returned v=>show K ((HN ds a).put o.dst v) z;rw[Nj];exact hK _ _ he
   | panicked c=>exact(hQ _ _ _ ER he).elim
   | outgrown=>obtain⟨a',w0,J⟩:=he;exact(hQ _ _ _ ER J).elim
  case row row args=>
   refine⟨λh=>by simp [Kv,Fence.wide]at h,Xnb (Rows.mono h λv z he=>?_)⟩;rw[Nj];exact hK _ _ he
  case defer d=>
   have e:({ HN ds a with defers:=d :: (HN ds a).defers } : Act)=HN ds { a with defers:=d :: a.defers }:=rfl;rw[e,Nj];exact hK _ _ h
 | halt x w'=>
  cases x<;>simp only [Oper.upon]at h ⊢
  exact(hQ _ _ _ ER h).elim
theorem Wl {ops:Array Oper}{Q0 Q1:Exit->Act->World->Prop}(hn:∀a w,Q0 .normal a w->Q1 .normal (HN ds a) w)(hQ:∀e a w,e≠.normal->¬ Q0 e a w) :
  ∀(l:List Oper) (a:Act) (w:World),(∀o∈l,Ms o=true)->wpList P ops Q0 l a w->wpListIn (Kv r) 0 P ops Q1 l (HN ds a) w
 | [],a,w,_,h=>hn _ _ h
 | o :: l,a,w,hd,h=>by
  have O:=Wl (ops:=ops) hn hQ l;have z:∀o∈l,Ms o=true:=λo h=>hd o (Am _ h);unfold wpList at h;unfold wpListIn;have Y:(HN ds a).tmps=a.tmps:=rfl;rw[Y];split
  ·rename_i J;rw[if_pos J]at h;rcases h with h|⟨_,a',w0,hf⟩
   ·exact X42 (hd o Al) (λa w h=>O a w z h) hQ h
   ·exact(hQ _ _ _ ER hf).elim
  ·rename_i J;rw[if_neg J]at h;refine⟨λ_ _=>trivial,?_⟩;rw[Nj];exact O _ _ z h
theorem Ybq {K:Fh->World->Prop} : ∀e a w,e≠.normal->¬ GJ n (nf K) e a w:=by
 rintro e a w he ⟨E,rfl,h⟩
 cases e<;>first|exact he rfl|exact h
theorem NQ {id:Nat}{l:List Oper}(fs:List Fl)(hl:Bj l.length fs.length=true)
  (h:Dw P n (l.map (·.dst)) (λa b=>a=b) (Mr l fs) (λE w=>Q .normal E ds w) E w):WX r ds P n (.region id l.toArray false) Q E w:=by
 intro ok;simp only [J9,Au]at ok;refine wpIn_region_list ?_;have h1:wpList P l.toArray (GJ n (nf λE w=>Q .normal E ds w)) l (GU n E) w:=
  We (K:=λE w=>Q .normal E ds w) ok.1 (λ_ _ h=>h) _ fs E w (Nat.eq_of_beq_eq_true hl) (λo ho=>Ck.1 ok.1 o (by simpa using ho)) (by simpa using h)
 rw[<-Xzf];refine Wl ?_ Ybq l _ _ (λo ho=>Ck.1 ok.2 o (by simpa using ho)) h1;rintro a w ⟨E',rfl,hq⟩;exact⟨E',ds,rfl,hq⟩
def DI (r:Option Nat)(P:Program)(n:Nat)(l:List (Option Tmp)):List (Oper×Fl)->(Fh->World->Prop)->Fh->World->Prop
 | [],K,E,w=>K E w
 | (o,.p) :: rs,K,E,w=>if FK l E o.guard=true then ∃v,PV P o E v/\DI r P n l rs K (Gu E o.dst v) w else DI r P n l rs K (Gu E o.dst undef) w
 | (o,.l) :: rs,K,E,w=>if FK l E o.guard=true then ∃v,LV P o E w v/\DI r P n l rs K (Gu E o.dst v) w else DI r P n l rs K (Gu E o.dst undef) w
 | (o,.x) :: rs,K,E,w=>if FK l E o.guard=true then(IK n o=true->Ms o=true->o.wpIn (Kv r) 0 P (GU n E) w (λa w'=>∃E',a=GU n E'/\DI r P n l rs K E' w') (λ_ _ _=>False))else DI r P n l rs K (Gu E o.dst undef) w
def mki : List Oper->List Fl->List (Oper×Fl)
 | o :: r,f :: fs=>(o,f) :: mki r fs
 | _,_=>[]
def KT (E:Fh):List Tmp->List Value->Fh
 | p :: ps,v :: vs=>KT (FT E p v) ps vs
 | _,_=>E
theorem Us (ds:List Deferred):∀(ps:List Tmp) (vs:List Value) (E:Fh),ps.length=vs.length->(ps.zip vs).foldl (λt (x:Tmp×Value)=>t.setIfInBounds x.1 x.2) (Hb n E ds).tmps=(Hb n (KT E ps vs) []).tmps
 | [],[],E,_=>rfl
 | p :: ps,v :: vs,E,h=>by
  have h1:=Iy n E (some p) v;have h2:(Hb n E ds).tmps.setIfInBounds p v=(Hb n (FT E p v) ds).tmps:=congrArg Act.tmps h1;rw[List.zip_cons_cons,B9];show List.foldl _ ((Hb n E ds).tmps.setIfInBounds p v) _=_;rw[h2];exact Us ds ps vs _ (by simpa using h)
 | [],_ :: _,_,h=>by simp at h
 | _ :: _,[],_,h=>by simp at h
theorem Xs1 (ps:List Tmp)(vs:List Value)(h:ps.length=vs.length):(ps.toArray.zip vs.toArray).foldl (λt (x:Tmp×Value)=>t.setIfInBounds x.1 x.2) (Hb n E ds).tmps=(Hb n (KT E ps vs) []).tmps:=by
 rw[<-Array.foldl_toList,Array.toList_zip];exact Us ds ps vs E h
theorem Xzh {g:Operand}{ps:List Tmp}{assign body:Code}{gf N:Nat}{lb:Array Value}{args:Nat->List Value}
  (hg:ev E g=.func (.func gf) #[] lb) (hf:GM P gf=true) (hlen:∀k,ps.length=(args k).length)
  (I:Nat->World->Prop) (A:Nat->Fh->World->Prop) (h0:I 0 w)
  (hX:∀k W W',I k W->ED W W'->I k W')
  (hL:∀k W l o o',I k W->w.heap.size<=l->W.heap[l]?=some o->o.isCells=false->I k (W.putObj l o'))
  (hAL:∀k E1 W l o o',A k E1 W->w.heap.size<=l->W.heap[l]?=some o->o.isCells=false->A k E1 (W.putObj l o'))
  (hit:∀l (J:Nat->World->Prop),(∀k W,J k W->I k W)->(∀k W W',J k W->ED W W'->J k W')->
   (∀k W,J k W->k<N->YieldAt Fence.wide 0 P l (args k).toArray W λe W'=>e=.returned (.bool true)/\J (k+1) W')->
   ∀W,J 0 W->Calls P gf (#[.func (.yield l) #[] #[]]++lb) W λe W'=>(∃v,e=.returned v)/\J N W')
  (hassign:∀k l W,k<N->I k W->WX (some l) [] P n assign (λe E1 d1 W1=>e=.normal/\d1=[]/\ED W W1/\A k E1 W1) (KT E ps (args k)) W)
  (hbody:∀k l E1 W (keep:Nat->Prop),k<N->A k E1 W->(∀j,keep j->w.heap.size<=j/\∃o,W.heap[j]?=some o/\o.isCells=false)->
   WX (some l) [] P n body (λe _ d1 W'=>e=.normal/\I (k+1) W'/\∀j,keep j->W'.heap[j]?=W.heap[j]?) E1 W)
  (h:∀D W,w.heap.size<=D->I N W->W.heap[D]?=some (.deferred (some []))->Q .normal E ({ target:=.collected D,args:=#[] } :: ds) W) :
  WX none ds P n (.rangeFunc g ps.toArray assign body) Q E w:=by
 intro ok;simp only [J9,Au]at ok;obtain⟨⟨⟨okg,_⟩,oka⟩,okb⟩:=ok;have hgE:(Hb n E ds).eval g=.func (.func gf) #[] lb:=by rw[XN okg];exact hg
 unfold GM at hf;have eg:∀args w,(callFunc gf args).run P w=.ok (.enter gf args) w:=by
  cases hp:P.funcs[gf]? with
  | none=>rw[hp]at hf;simp at hf
  | some fn=>
   rw[hp]at hf;simp only [Au,BO]at hf;obtain⟨h1,h2⟩:=hf;have h3:fn.body≠none:=by cases hb:fn.body<;>simp [hb]at h2 ⊢
   have h1' : fn.name ≠ "runtime.NumGoroutine" := by simpa using h1
   intro args w;simp [callFunc,program,Sem.run,hp,h1',h3]
 refine wpIn_rangeFunc (F:=Kv none) ?_;intro fn hfn;rw[show(Kv none).round=none from rfl];obtain⟨rec,hrec⟩:∃rec:LoopState->Option Code->Loop,rec=λst pe=>{ state:=st,pending:=pe,fn,tmps:=(Hb n E ds).tmps,params:=ps.toArray,assign,body,defers:=w.heap.size }:=⟨_,rfl⟩;obtain⟨W1,hW1⟩:∃W1,(w.alloc (.deferred (some []))).alloc (.loop (rec .ready none))=W1:=⟨_,rfl⟩;have hL1:W1.heap[w.heap.size+1]?=some (.loop (rec .ready none)):=by
  rw[<-hW1];have:=World.alloc_heap_new (w.alloc (.deferred (some []))) (.loop (rec .ready none));rwa [World.size_alloc]at this
 have hK1:W1.heap[w.heap.size]?=some (.deferred (some [])):=by
  rw[<-hW1];exact(Below.heap_alloc _ _ _ ER).trans (World.alloc_heap_new w _)
 have hx1:ED w W1:=by rw[<-hW1];exact(ED.alloc _ _).trans (ED.alloc _ _)
 have hI1:I 0 W1:=hX _ _ _ h0 hx1;refine⟨w.heap.size+1,[{ target:=.collected w.heap.size,args:=#[] }],W1,{ target:=.fn (.func gf) lb,args:=#[.func (.yield (w.heap.size+1)) #[] #[]] },W1,gf,
  #[.func (.yield (w.heap.size+1)) #[] #[]]++lb,W1,?_,?_,λ_ _=>trivial,?_,λh=>by simp [Kv,Fence.wide]at h,?_⟩
 ·rw[<-hW1,hrec];exact run_enterLoop_outer _ _ _ _ _
 ·simp only [resolve,hgE];simp [go_sem]
 ·simp [invoke,go_sem,eg]
 ·refine VC ((hit (w.heap.size+1) (λk W=>I k W/\W.heap[w.heap.size+1]?=some (.loop (rec .ready none))/\W.heap[w.heap.size]?=some (.deferred (some []))) (λ_ _ h=>h.1) ?_ ?_ W1 ⟨hI1,hL1,hK1⟩).mono ?_)
  ·rintro k W W' ⟨hi,hl,hk⟩ hx;have h1:=(B8.1 hl).1;have h2:=(B8.1 hk).1;exact⟨hX _ _ _ hi hx,by rw[hx.block _ h1 (λh=>h)];exact hl,by rw[hx.block _ h2 (λh=>h)];exact hk⟩
  ·rintro k W ⟨hi,hl,hk⟩ hkN;have hy:=run_yield (P:=P) (args:=(args k).toArray) hl (by rw[hrec];simp [hlen k]);rw[hrec]at hy;refine⟨fn,_,assign,body,hy,roundIn_of_wpIn (F:=Fence.wide) trivial ?_⟩;have e1:=Xs1 (n:=n) (E:=E) (ds:=ds) ps (args k) (hlen k);have ha:=hassign k (w.heap.size+1) W hkN hi oka;have e2:({ tmps:=(ps.toArray.zip (args k).toArray).foldl (λtmps (x:Tmp×Value)=>tmps.setIfInBounds x.1 x.2) (Hb n E ds).tmps,defers:=[] } : Act)=Hb n (KT E ps (args k)) []:=by rw[e1];rfl
   rw[e2];refine Go.wpIn_mono ha ?_;rintro e a W2 ⟨E1,d1,rfl,rfl,rfl,hx,hA⟩;have hlt1:=(B8.1 hl).1;have hlt2:=(B8.1 hk).1;have hl2:W2.heap[w.heap.size+1]?=some (.loop (rec .ready none)):=by rw[hx.block _ hlt1 (λh=>h)];exact hl
   have hk2:W2.heap[w.heap.size]?=some (.deferred (some [])):=by rw[hx.block _ hlt2 (λh=>h)];exact hk
   have hlt:w.heap.size+1<W2.heap.size:=(B8.1 hl2).1;refine⟨_,run_beginRound hl2 (by rw[hrec]),?_⟩;have hl3:(W2.putObj (w.heap.size+1) (.loop { rec .ready none with state:=.busy })).heap[w.heap.size+1]?=some (.loop { rec .ready none with state:=.busy }):=World.putObj_heap_same hlt;have hk3:(W2.putObj (w.heap.size+1) (.loop { rec .ready none with state:=.busy })).heap[w.heap.size]?=some (.deferred (some [])):=(World.putObj_heap_other EB).trans hk2;have hA3:=hAL _ _ _ _ _ (.loop { rec .ready none with state:=.busy }) hA EB hl2 rfl;have hb:=hbody k (w.heap.size+1) E1 _ (λj=>j=w.heap.size+1\/j=w.heap.size) hkN hA3 (by
    rintro j (rfl|rfl)
    ·exact⟨by omega,_,hl3,rfl⟩
    ·exact⟨by omega,_,hk3,rfl⟩) okb
   refine Go.wpIn_mono hb ?_;rintro e a3 W3 ⟨E3,d3,rfl,rfl,hI3,hkeep⟩;have hl4:=(hkeep _ (.inl rfl)).trans hl3;have hk4:=(hkeep _ (.inr rfl)).trans hk3;have hr:=run_endRound (P:=P) none hl4;refine⟨_,_,hr,rfl,hL _ _ _ _ _ hI3 EB hl4 rfl,?_,(World.putObj_heap_other EB).trans hk4⟩;rw[World.putObj_heap_same (B8.1 hl4).1,hrec];rfl
  ·rintro e W2 ⟨⟨v,rfl⟩,hi,hl,hk⟩;refine⟨none,_,by have:=run_endLoop (P:=P) hl (by rw[hrec];simp);rw[hrec]at this;exact this,E,_,rfl,?_⟩;exact h _ _ (Ab _) (hL _ _ _ _ _ hi EB hl rfl) ((World.putObj_heap_other EB).trans hk)
def Mt (P:Program)(fn:Func)(n:Nat)(R:Ending->World->Prop):QX
 | .normal,E,ds,w | .ret,E,ds,w=>LeavesInM Fence.wide 0 P fn (GU n E).tmps R ds .returning w
 | _,_,_,_=>False
theorem Xuv {fn:Func}{R:Ending->World->Prop}(h:Jt P fn n R .ret E w):Mt P fn n R .normal E [] w:=h
theorem Xuw {fn:Func}{R:Ending->World->Prop}{D:Nat}(hD:w.heap[D]?=some (.deferred (some [])))(h:Jt P fn n R .ret E (w.putObj D (.deferred none))):Mt P fn n R .ret E [{ target:=.collected D,args:=#[] }] w:=
 ⟨by simp,.inl ⟨D,_,rfl,run_takeDeferred hD,h⟩⟩
theorem Ul {f:FuncId}{fn:Func}{c:Code}{az:List Value}{R:Ending->World->Prop}
  (hf:P.funcs[f]?=some fn) (hb:fn.body=some c) (hn:fn.ntmps=n) (hle:Nat.ble az.length n=true) (ok:J9 n c=true)
  (h:WX none [] P n c (Mt P fn n R) (La az 0 (λ_=>undef)) w):Calls P f az.toArray w R:=by
 have hle':az.length<=n:=by simpa [Nat.ble_eq]using hle
 refine callsIn_wide.1 (callsIn_of_wp_marks (F:=Fence.wide) (n:=0) hf hb trivial ?_);have z:({ tmps:=az.toArray++Array.replicate (fn.ntmps-az.toArray.size) undef,defers:=[] } : Act)=Hb n (La az 0 (λ_=>undef)) []:=by
  simp only [Hb,hn]
  congr 1
  apply Array.ext
  ·simp;omega
  ·intro i h1 h2;simp only [Array.getElem_ofFn,Xv,Ae,if_true,Nat.sub_zero];rw[Array.getElem_append]
   by_cases hi:i<az.length
   ·simp [hi]
   ·simp [hi]
 rw[z];refine Go.wpIn_mono (h ok) ?_;rintro e a w' ⟨E,d,rfl,hQ⟩
 cases e with
 | normal=>exact hQ
 | ret=>exact hQ
 | _=>exact hQ.elim
theorem Ycw {c:Operand}{x y:Code}(hc:ev E c=.bool false)(h:WX r ds P n y Q E w):WX r ds P n (.cond c x y) Q E w:=X40 hc (λh=>by cases h) (λ_=>h)
theorem Ob {d:Option Tmp}{ty:TypeId}{pos:String}{af:Array Edge}{g:Option (Nat×Bool)}{f:Nat}{cs:List Operand}{vs:List Value}(hc:cs.map (ev E)=vs):PV P ⟨d,.makeFunc (.func f) #[] cs.toArray,ty,pos,af,g⟩ E (.func (.func f) #[] vs.toArray):=λw=>by
 subst hc;simp [execOp,Instr.makeFunc]
theorem Mod.putObj (W:World)(l:Nat)(o:Obj):Mod (ET l) W (W.putObj l o):=⟨rfl,rfl,rfl,by simp,λk _ hk=>World.putObj_heap_other hk⟩
theorem EK.cells {W:World}{b T:Nat}{cs:List Value}(h:EK W b cs T):∃o:Obj,W.heap[b]?=some o/\o.isCells=true:=⟨_,h,rfl⟩
theorem Xzi {W:World}{l b:Nat}{o:Obj}(hl:W.heap[l]?=some o)(ho:o.isCells=false)(h:∃o:Obj,W.heap[b]?=some o/\o.isCells=true):b≠l:=λe=>by
 obtain⟨o',h1,h2⟩:=h;subst e;rw[hl]at h1;cases h1;rw[ho]at h2;cases h2
theorem EK.put {W:World}{b T l:Nat}{cs:List Value}{o:Obj}(h:EK W b cs T)(o':Obj)(hl:W.heap[l]?=some o)(ho:o.isCells=false):EK (W.putObj l o') b cs T:=h.mod (Mod.putObj W l o') (Xzi hl ho h.cells)
def Keeps (keep:Nat->Prop)(W0 W:World):Prop:=∀j,keep j->W.heap[j]?=W0.heap[j]?/\∃o,W.heap[j]?=some o/\o.isCells=false
section
variable {d:Option Tmp}{ty:TypeId}{pos:String}{af:Array Edge}{g:Option (Nat×Bool)}
end
end
@[reducible] def I7 (f:Nat) (cs:List Value):Value:=.func (.func f) #[] cs.toArray
section
variable {P:Program}{n:Nat}{ds:List (Option Tmp)}{R:World->World->Prop}{r:List (Oper×Fl×Bool)}{K:Fh->World->Prop}{E:Fh}{w:World}
variable {d:Nat}{op:Op}{ty:TypeId}{pos:String}{af:Array Edge}{g:Option (Nat×Bool)}{anc:Bool}{v:Value}
theorem Ux {f t:Nat}{az:List Operand}{ats:Array TypeId}{vs cs:List Value}{R1:Ending->World->Prop}(hg:FK ds E g=true)(hv:E t=I7 f cs)(hf:GM P f=true)(ha:az.map (ev E)=vs)(hc:Calls P f (vs++cs).toArray w R1)
  (h:∀e w1,R1 e w1->∃v,e=.returned v/\(anc=false->R w w1)/\Dw P n ds R r K (FT E d v) w1) :
  Dw P n ds R ((⟨some d,.call { callee:=.value (.tmp t),args:=az.toArray,argTypes:=ats },ty,pos,af,g⟩,.x,anc) :: r) K E w:=by
 refine MS hg λok=>?_;unfold GM at hf
 cases hp:P.funcs[f]? with
 | none=>rw[hp]at hf;simp at hf
 | some fn=>
  rw[hp]at hf;simp only [Au,BO]at hf;obtain⟨h1,h2⟩:=hf;have h3:fn.body≠none:=by cases hb:fn.body<;>simp [hb]at h2 ⊢
  have h1' : fn.name ≠ "runtime.NumGoroutine" := by simpa using h1
  have hr:(execOp (ev E) ⟨some d,.call { callee:=.value (.tmp t),args:=az.toArray,argTypes:=ats },ty,pos,af,g⟩).run P w=.ok (.enter f (vs++cs).toArray) w:=by
   simp [execOp,resolve,ev,hv,Deferred.ofValue,invoke,callFunc,program,Sem.run,hp,h1',h3,ha]
  unfold Oper.wp;rw[Mi ok,hr];simp only [Oper.upon];refine Calls.mono hc λe w1 h1=>?_;obtain⟨v,rfl,hR,hd⟩:=h e w1 h1;exact⟨_,Iy _ _ _ _,hR,hd⟩
theorem Xzj {S:Nat->Prop}{f t:Nat}{az:List Operand}{ats:Array TypeId}{vs cs:List Value}{F:Value->World->Prop}(hg:FK ds E g=true)(hv:E t=I7 f cs)(hf:GM P f=true)(hc:Calls P f (vs++cs).toArray w (Ff S w F))(ha:az.map (ev E)=vs)
  (hR:anc=true\/∀w',Mod S w w'->R w w') (h:∀v z,Mod S w z->F v z->Dw P n ds R r K (FT E d v) z) :
  Dw P n ds R ((⟨some d,.call { callee:=.value (.tmp t),args:=az.toArray,argTypes:=ats },ty,pos,af,g⟩,.x,anc) :: r) K E w:=
 Ux hg hv hf ha hc λe z ⟨v,he,hx,hF⟩=>⟨v,he,λe=>hR.elim (λh=>by rw[h]at e;cases e) (λh=>h _ hx),h v z hx hF⟩
theorem PP {f t:Nat}{az:List Operand}{ats:Array TypeId}{vs cs:List Value}(hg:FK ds E g=true)(hv:E t=I7 f cs)(hf:GM P f=true)(hc:Calls P f (vs++cs).toArray w (Pure w v))(ha:az.map (ev E)=vs)(hR:RX R anc)
  (h:∀z,ED w z->Dw P n ds R r K (FT E d v) z) :
  Dw P n ds R ((⟨some d,.call { callee:=.value (.tmp t),args:=az.toArray,argTypes:=ats },ty,pos,af,g⟩,.x,anc) :: r) K E w:=
 Ux hg hv hf ha hc λe z ⟨he,hx⟩=>⟨v,he,hR.use hx,h z hx⟩
end
end Go.Vc
namespace Go.Vc
open Go.RowKit Go.Maps
def pO : Option Nat->Value
 | none=>.pointer none
 | some b=>EE b 0
theorem Qc : ∀a b,pO a=pO b->a=b
 | none,none,_=>rfl
 | none,some _,h=>by simp [pO]at h
 | some _,none,h=>by simp [pO]at h
 | some a,some b,h=>by
  have:a=b:=by simpa [pO]using h
  rw[this]
def AnyK (P:Program)(k:TypeId):Type:={v:Value // ∃l,keyOf P k v=some l}
theorem Ycx {P:Program}{k:TypeId}(hl:laidOutB P=true)(hrow:AR k P.types.size=true)(hka:P.keyTypeAt 2 k=true)(hwide:(match P.underlying k with|some (.array _ _)|some (.struct _)=>true|_=>false)=true):Keyed P k:=
 Keyed.of_law (deep_law_laid hl (m:=2) EB (by simpa [Bq]using hrow) hka hwide)
def FV (w:World)(b:Nat):Prop:=w.heap[b]?=some (.map #[] 0)
theorem FV.lt {w:World}{b:Nat}(h:FV w b):b<w.heap.size:=(B8.1 h).1
theorem FV.mod {S:Nat->Prop}{w w':World}{b:Nat}(h:FV w b)(x:Mod S w w')(hS:¬ S b):FV w' b:=(x.block b h.lt hS).trans h
theorem FV.ext {w w':World}{b:Nat}(h:FV w b)(x:ED w w'):FV w' b:=h.mod x (λh=>h)
theorem FV.at {P:Program}{κ α:Type}{k:TypeId}{kv:κ->Value}{av:α->Value}{w:World}{b:Nat}(h:FV w b):Xbq P k kv av w b 0 (λ_=>none):=
 ⟨.map [],⟨#[],0,h,⟨by simp,MapKept.stamped_empty 0,by simp⟩,Ab _,rfl⟩,λx l hl z=>rfl⟩
def H4 (w:World)(v:Value):Prop:=v=.map none\/∃b,v=.map (some b)/\FV w b
theorem H4.ext {w w':World}{v:Value}(h:H4 w v)(x:ED w w'):H4 w' v:=h.imp id λ⟨b,e,hb⟩=>⟨b,e,hb.ext x⟩
theorem FV.val {w:World}{b:Nat}(h:FV w b):H4 w (.map (some b)):=.inr ⟨b,rfl,h⟩
theorem H4.lt {w:World}{v:Value}(h:H4 w v){b:Nat}(e:v=.map (some b)):b<w.heap.size:=by
 rcases h with rfl|⟨b2,rfl,h⟩
 ·cases e
 ·cases e;exact h.lt
theorem Xuz {w:World}{v:Value}(h:H4 w v):v.cells=⟨[v]⟩:=by
 rcases h with rfl|⟨b,rfl,_⟩<;>rfl
def Pb (w:World)(r:Nat):Prop:=∃m c a,w.heap[r]?=some (.mapIter m c #[] a)/\(m=none\/∃b,m=some b/\FV w b)
@[reducible] def GG (f:Nat) (bs:List Value):Value:=.func (.func f) bs.toArray #[]
section
variable {P:Program}{n:Nat}{ds:List (Option Tmp)}{R:World->World->Prop}{r:List (Oper×Fl×Bool)}{K:Fh->World->Prop}{E:Fh}{w:World}
variable {d:Nat}{op:Op}{ty:TypeId}{pos:String}{af:Array Edge}{g:Option (Nat×Bool)}{anc:Bool}{v:Value}
theorem Mo {dd:Option Tmp}{f:Nat}{bs:List Operand}{vs:List Value}(hc:bs.map (ev E)=vs):PV P ⟨dd,.makeFunc (.func f) bs.toArray #[],ty,pos,af,g⟩ E (.func (.func f) vs.toArray #[]):=λw=>by
 simp [execOp,hc];rfl
theorem Xzl {dd:Option Tmp}{x y:Operand}{T:TypeId}{a:EC}{c:UInt8}(hT:JQ P T=true)(hx:ev E x=S a)(hy:ev E y=.int .u8 0)(hi:a[0]?=some c):PV P ⟨dd,.index T x y,ty,pos,af,g⟩ E (.int .u8 c.toNat):=λw=>by
 have J:P.underlying T=some .string:=by
  unfold JQ at hT;split at hT<;>first|assumption|cases hT
 have e:(⟨⟨a⟩⟩:ByteArray)[(0:Int).toNat]?=some c:=by
  have z:0<a.length:=(Ap.1 hi).1;show(⟨⟨a⟩⟩:ByteArray)[0]?=some c;rw[getElem?_pos _ 0 z];exact hi▸(by rw[Ar z];rfl)
 have e2:(⟨⟨a⟩⟩:ByteArray)[0]?=some c:=by simpa using e
 simp [execOp,Instr.index,asIntOf,hx,hy,underlying,J,e2]
theorem UV {dd:Option Tmp}{x:Operand}{T e k:Nat}(hT:IC P T=some (e,k))(hx:ev E x=.slice none 0 0):PV P ⟨dd,.call { callee:=.builtin .cap,args:=#[x],argTypes:=#[T] },ty,pos,af,g⟩ E (I 0):=λw=>by
 obtain⟨hu,_⟩:=JL hT;simp [execOp,resolve,invoke,builtin,Builtin.cap_,underlying,hu,hx,goInt]
theorem Rk {f t:Nat}{az:List Operand}{ats:Array TypeId}{vs bs:List Value}{R1:Ending->World->Prop}(hg:FK ds E g=true)(hv:E t=GG f bs)(hf:GM P f=true)(ha:az.map (ev E)=vs)(hc:Calls P f (bs++vs).toArray w R1)
  (h:∀e w1,R1 e w1->∃v,e=.returned v/\(anc=false->R w w1)/\Dw P n ds R r K (FT E d v) w1) :
  Dw P n ds R ((⟨some d,.call { callee:=.value (.tmp t),args:=az.toArray,argTypes:=ats },ty,pos,af,g⟩,.x,anc) :: r) K E w:=by
 refine MS hg λok=>?_;unfold GM at hf
 cases hp:P.funcs[f]? with
 | none=>rw[hp]at hf;simp at hf
 | some fn=>
  rw[hp]at hf;simp only [Au,BO]at hf;obtain⟨h1,h2⟩:=hf;have h3:fn.body≠none:=by cases hb:fn.body<;>simp [hb]at h2 ⊢
  have h1' : fn.name ≠ "runtime.NumGoroutine" := by simpa using h1
  have hr:(execOp (ev E) ⟨some d,.call { callee:=.value (.tmp t),args:=az.toArray,argTypes:=ats },ty,pos,af,g⟩).run P w=.ok (.enter f (bs++vs).toArray) w:=by
   simp [execOp,resolve,ev,hv,Deferred.ofValue,invoke,callFunc,program,Sem.run,hp,h1',h3,ha]
  unfold Oper.wp;rw[Mi ok,hr];simp only [Oper.upon];refine Calls.mono hc λe w1 h1=>?_;obtain⟨v,rfl,hR,hd⟩:=h e w1 h1;exact⟨_,Iy _ _ _ _,hR,hd⟩
theorem Xzm {f t:Nat}{az:List Operand}{ats:Array TypeId}{vs bs:List Value}(hg:FK ds E g=true)(hv:E t=GG f bs)(hf:GM P f=true)(hc:Calls P f (bs++vs).toArray w (Pure w v))(ha:az.map (ev E)=vs)(hR:RX R anc)
  (h:∀z,ED w z->Dw P n ds R r K (FT E d v) z) :
  Dw P n ds R ((⟨some d,.call { callee:=.value (.tmp t),args:=az.toArray,argTypes:=ats },ty,pos,af,g⟩,.x,anc) :: r) K E w:=
 Rk hg hv hf ha hc λe z ⟨he,hx⟩=>⟨v,he,hR.use hx,h z hx⟩
theorem Wv {t:TypeId}(hg:FK ds E g=true)(hR:RX R anc)
  (h:∀b w1,b=w.heap.size->ED w w1->FV w1 b->Dw P n ds R r K (FT E d (.map (some b))) w1):Dw P n ds R ((⟨some d,.makeMap t none,ty,pos,af,g⟩,.x,anc) :: r) K E w:=by
 refine HM (v:=.map (some w.heap.size)) (w':=w.alloc (.map #[] 0)) hg ?_ (hR.use (ED.alloc _ _)) (h _ _ rfl (ED.alloc _ _) (World.alloc_heap_new w _));have e1:(Instr.makeMap t none).run P w=.ok (.map (some w.heap.size)) (w.alloc (.map #[] 0)):=run_makeMap t w;simp [execOp,e1]
def Xn (P:Program)(t:TypeId):Bool:=match P.underlying t with
 | some (.map _ _)=>true
 | _=>false
theorem Xzn {t:TypeId}{m:Operand}{mv:Value}(hb:Xn P t=true)(hg:FK ds E g=true)(hm:ev E m=mv)(hv:H4 w mv)(hR:RX R anc)
  (h:∀q w1,q=w.heap.size->ED w w1->Pb w1 q->Dw P n ds R r K (FT E d (EE q 0)) w1) :
  Dw P n ds R ((⟨some d,.range t m,ty,pos,af,g⟩,.x,anc) :: r) K E w:=by
 obtain⟨k,e,hu⟩:∃k e,P.underlying t=some (.map k e):=by
  unfold Xn at hb;split at hb
  ·exact⟨_,_,by assumption⟩
  ·cases hb
 rcases hv with rfl|⟨b,rfl,hb⟩
 ·refine HM (w':=w.alloc (.mapIter none 0 #[] 0)) (v:=EE w.heap.size 0) hg ?_ (hR.use (ED.alloc _ _)) (h _ _ rfl (ED.alloc _ _) ⟨none,0,0,World.alloc_heap_new w _,.inl rfl⟩);simp [execOp,hm,run_range_nilMap w t k e hu]
 ·refine HM (w':=w.alloc (.mapIter (some b) 0 #[] 0)) (v:=EE w.heap.size 0) hg ?_ (hR.use (ED.alloc _ _)) (h _ _ rfl (ED.alloc _ _) ⟨some b,0,0,World.alloc_heap_new w _,.inr ⟨b,rfl,hb.ext (ED.alloc _ _)⟩⟩);simp [execOp,hm,run_range_map w t k e b #[] 0 hu hb]
theorem Xu1 {q:Nat}(hi:Pb w q):(Instr.next (EE q 0) false ty).run P w=.ok (.tuple #[.bool false]) w:=by
 obtain⟨m,c,a,h1,h2⟩:=hi;rcases h2 with rfl|⟨b,rfl,hb⟩
 ·simp only [Instr.next,getObj,Sem.run_bind,Sem.run,h1,Result.andThen];rfl
 ·unfold FV at hb;simp [Instr.next,getObj,Sem.run_bind,Sem.run,h1,hb,Result.andThen,choose,Question.forced]
theorem X43 {it:Operand}{q:Nat}(hg:FK ds E g=true)(hit:ev E it=EE q 0)(hi:Pb w q)(hR:RX R anc)(h:Dw P n ds R r K (FT E d (.tuple #[.bool false])) w) :
  Dw P n ds R ((⟨some d,.next it false,ty,pos,af,g⟩,.x,anc) :: r) K E w:=by
 refine HM (w':=w) (v:=.tuple #[.bool false]) hg ?_ (hR.use (ED.refl _)) h;simp [execOp,hit,Xu1 hi]
end
end Go.Vc
namespace Go.Vc
open Go.RowKit
section
variable {κ α β:Type}[DecidableEq κ]
def lk (l:List (κ×α))(x:κ):Option α:=(l.find? λp=>decide (p.1=x)).map (·.2)
def EZ (l:List (κ×α))(x:κ)(a:α):List (κ×α):=if(lk l x).isSome then l.map (λp=>if p.1=x then(x,a)else p)else l++[(x,a)]
def FR (l:List (κ×α))(x:κ):List (κ×α):=l.filter λp=>decide (p.1≠x)
theorem Mp (x:κ):lk ([]:List (κ×α)) x=none:=rfl
theorem IJ (p:κ×α)(l:List (κ×α))(x:κ):lk (p :: l) x=if p.1=x then some p.2 else lk l x:=by
 unfold lk
 by_cases h:p.1=x
 ·simp [h]
 ·simp [h]
theorem LK {l:List (κ×α)}{x:κ} : lk l x=none↔x∉l.map (·.1):=by
 induction l with
 | nil=>simp [Mp]
 | cons p l ih=>
  rw[IJ]
  by_cases h:p.1=x
  ·simp [h]
  ·rw[if_neg h,ih];have h2:¬ x=p.1:=λe=>h e.symm;simp [h2]
theorem P0 {l:List (κ×α)}{x:κ}{a:α}(h:lk l x=some a):(x,a)∈l:=by
 induction l with
 | nil=>cases h
 | cons p l ih=>
  rw[IJ]at h
  by_cases e:p.1=x
  ·rw[if_pos e]at h;cases h;subst e;exact Al
  ·rw[if_neg e]at h;exact Am _ (ih h)
theorem X8y {l:List (κ×α)}{x:κ}{a:α}(hn:(l.map (·.1)).Nodup)(h:(x,a)∈l):lk l x=some a:=by
 induction l with
 | nil=>cases h
 | cons p l ih=>
  rw[An,AV]at hn;rw[IJ];rcases Aj.1 h with rfl|h
  ·simp
  ·have:p.1≠x:=λe=>hn.1 (e▸Aq.2 ⟨_,h,rfl⟩);rw[if_neg this];exact ih hn.2 h
theorem Xu2 (l m:List (κ×α))(x:κ):lk (l++m) x=(lk l x).or (lk m x):=by
 induction l with
 | nil=>simp [Mp]
 | cons p l ih=>
  rw[List.cons_append,IJ,IJ,ih];split<;>simp
theorem ID (l:List (κ×α))(x:κ)(a:α)(y:κ):lk (EZ l x a) y=if y=x then some a else lk l y:=by
 unfold EZ;split
 ·rename_i h;have key:∀l:List (κ×α),lk (l.map (λp=>if p.1=x then(x,a)else p)) y=if y=x then(if(lk l x).isSome then some a else none)else lk l y:=by
   intro l
   induction l with
   | nil=>simp [Mp]
   | cons p l ih=>
    rw[An,IJ,ih,IJ,IJ]
    by_cases e:p.1=x
    ·by_cases e2:y=x
     ·simp [e,e2]
     ·have z:¬ x=y:=λh=>e2 h.symm;simp [e,e2,z]
    ·by_cases e2:y=x
     ·simp [e,e2]
     ·simp [e,e2]
  rw[key,h];simp
 ·rename_i h;rw[Xu2,IJ,Mp];have h':lk l x=none:=by simpa using h
  by_cases e:y=x
  ·subst e;rw[h'];simp
  ·have z:¬ x=y:=λh=>e h.symm;simp [e,z]
theorem KY (l:List (κ×α))(x:κ)(y:κ):lk (FR l x) y=if y=x then none else lk l y:=by
 unfold FR
 induction l with
 | nil=>simp [Mp]
 | cons p l ih=>
  rw[BC]
  by_cases e:p.1=x
  ·rw[if_neg (by simp [e]),ih,IJ]
   by_cases e2:y=x
   ·simp [e2]
   ·have z:¬ p.1=y:=λh=>e2 (h▸e);simp [e2,z]
  ·rw[if_pos (by simp [e]),IJ,ih,IJ]
   by_cases e2:y=x
   ·have z:¬ p.1=y:=λh=>e (h.trans e2);simp [e2,z];intro h;exact absurd h e
   ·simp [e2]
theorem Xu3 (l:List (κ×α))(x:κ)(a:α):(EZ l x a).map (·.1)=if(lk l x).isSome then l.map (·.1)else l.map (·.1)++[x]:=by
 unfold EZ;split
 ·rw[List.map_map];refine List.map_congr_left λp _=>?_;simp only [Function.comp];split
  ·rename_i h;exact h.symm
  ·rfl
 ·simp
theorem Mu {l:List (κ×α)}(x:κ)(a:α)(h:(l.map (·.1)).Nodup):((EZ l x a).map (·.1)).Nodup:=by
 rw[Xu3];split
 ·exact h
 ·rename_i hn;have J:x∉l.map (·.1):=LK.1 (by simpa using hn);rw[List.nodup_append];exact⟨h,by simp,λa O b z=>by simp at z;subst z;exact λe=>J (e▸O)⟩
theorem Pq {l:List (κ×α)}(x:κ)(h:(l.map (·.1)).Nodup):((FR l x).map (·.1)).Nodup:=by
 unfold FR;exact List.Nodup.sublist (C3 _ List.filter_sublist) h
theorem RL (l:List (κ×α))(x:κ)(a:α):(EZ l x a).length=if(lk l x).isSome then l.length else l.length+1:=by
 unfold EZ;split<;>simp
theorem Vx {l:List (κ×α)}{x:κ}(h:(l.map (·.1)).Nodup):(FR l x).length+(if(lk l x).isSome then 1 else 0)=l.length:=by
 unfold FR
 induction l with
 | nil=>simp [Mp]
 | cons p l z=>
  rw[An,AV]at h;have z:=z h.2;rw[BC,IJ]
  by_cases e:p.1=x
  ·have J:lk l x=none:=LK.2 (e▸h.1);rw[J]at z;simp [e]at z ⊢;exact z
  ·rw[if_pos (by simp [e]),if_neg e,AG,AG];omega
theorem Xu4 {l:List (κ×α)}{x:κ}(h:lk l x=none):FR l x=l:=by
 unfold FR;refine List.filter_eq_self.2 λp z=>?_;have:=LK.1 h;have:p.1≠x:=λe=>this (e▸Aq.2 ⟨p,z,rfl⟩);simp [this]
end
def FE {κ α:Type}[DecidableEq κ](P:Program)(k:TypeId)(kv:κ->Value)(av:α->Value)(w:World)(b:Nat)(l:List (κ×α)):Prop:=
 (l.map (·.1)).Nodup/\∃D:DataW α,w.ownsMap P k (rdBy av) b l.length D/\Maps.size D=l.length/\∀x lx,keyOf P k (kv x)=some lx->∀z,D.atKey lx z=LQ (lk l x) z
theorem World.ownsMap.exact {H:Type}{P:Program}{k:TypeId}{R:Value->Option (DataW H×List MemPlace)}{w:World}{b n:Nat}{D:DataW H}(h:w.ownsMap P k R b n D){m:Nat}(hm:Maps.size D=m):w.ownsMap P k R b m D:=by
 obtain⟨es,z,J,F,_,rfl⟩:=h;refine⟨es,z,J,F,?_,rfl⟩;have e1:Maps.size (DataW.map ((es.toList.map (Go.WideElems.rg P k R)).foldr DataW.insert []))=es.size:=by simp [Maps.size,length_sorted]
 omega
section
variable {P:Program}{κ α:Type}[DecidableEq κ]{t k e:TypeId}{kv:κ->Value}{av:α->Value}{ok:κ->Prop}{w w':World}{b:Nat}{l:List (κ×α)}
theorem FE.at (h:FE P k kv av w b l):Xbq P k kv av w b l.length (lk l):=by
 obtain⟨_,D,h1,_,h3⟩:=h;exact⟨D,h1,h3⟩
theorem FE.mod {S:Nat->Prop}(h:FE P k kv av w b l)(m:Mod S w w')(hb:¬ S b):FE P k kv av w' b l:=by
 obtain⟨h0,D,h1,h2,h3⟩:=h;exact⟨h0,D,World.ownsMap.mod h1 m hb,h2,h3⟩
theorem FE.ext (h:FE P k kv av w b l)(m:ED w w'):FE P k kv av w' b l:=h.mod m (λh=>h)
theorem FE.lt (h:FE P k kv av w b l):b<w.heap.size:=h.at.lt
theorem FE.nodup (h:FE P k kv av w b l):(l.map (·.1)).Nodup:=h.1
theorem FE.made (M:MapK P t k e kv av ok):FE P k kv av (w.alloc (.map #[] 0)) w.heap.size ([]:List (κ×α)):=
 ⟨by simp,.map [],World.ownsMap_made w P k _,rfl,λx l hl z=>rfl⟩
theorem FE.has (M:MapK P t k e kv av ok){D:DataW α}{x:κ}{lx:Lit}(hx:keyOf P k (kv x)=some lx)(h3:∀x lx,keyOf P k (kv x)=some lx->∀z,D.atKey lx z=LQ (lk l x) z):Maps.has D lx=(lk l x).isSome:=by
 cases e:lk l x with
 | none=>exact Maps.has_false_of_atKey λz=>by rw[h3 x lx hx z,e];rfl
 | some a=>exact Maps.has_true_of_atKey (y:=.held a) λz=>by rw[h3 x lx hx z,e];rfl
theorem SA {b:Nat}(ht:w.mapTurned w' b):Mod (ET b) w w'/\w'.heap.size=w.heap.size:=by
 refine⟨(Mod.of_grown ht.grown).mono (λi hi _=>(Option.some.inj hi).symm),?_⟩;obtain⟨es,c,es',c',_,e⟩:=ht;rw[e];simp [ChangeMaps.setBlock]
theorem FE.update (M:MapK P t k e kv av ok)(h:FE P k kv av w b l)(hn:l.length<maxLen){x:κ}(hx:ok x)(a:α) :
  ∃w',(Instr.mapUpdate t (.map (some b)) (kv x) (av a)).run P w=.ok () w'/\FE P k kv av w' b (EZ l x a)/\Mod (ET b) w w'/\w'.heap.size=w.heap.size:=by
 obtain⟨h0,D,h1,h2,h3⟩:=h;obtain⟨lx,J⟩:=M.key x hx;obtain⟨w',hr,ho,Y⟩:=h1.store M.keyed M.und hn J (R5 M.ainj a);have hs:Maps.size (D.put lx (.held a))=(EZ l x a).length:=by
  rw[Maps.size_put (h1.tidy M.keyed),FE.has M J h3,RL,h2]
 refine⟨w',hr,⟨Mu x a h0,_,World.ownsMap.exact ho hs,hs,λy Z O z=>?_⟩,SA Y⟩;rw[ID]
 by_cases e:y=x
 ·subst e;rw[J]at O
  cases O
  rw[if_pos rfl,Maps.atKey_put_same h1.isMap (M.keyed.key J)];rfl
 ·rw[if_neg e,Maps.atKey_put_other (OS M J O e),h3 y Z O]
theorem FE.drop (M:MapK P t k e kv av ok)(h:FE P k kv av w b l){x:κ}(hx:ok x)(ty:TypeId) :
  ∃w',(Builtin.delete_ #[t,k] ty #[.map (some b),kv x]).run P w=.ok (.tuple #[]) w'/\FE P k kv av w' b (FR l x)/\Mod (ET b) w w'/\w'.heap.size=w.heap.size:=by
 obtain⟨h0,D,h1,h2,h3⟩:=h;obtain⟨lx,J⟩:=M.key x hx;obtain⟨w',hr,ho,Y⟩:=h1.drop M.keyed M.und J ty;have hs:Maps.size (D.del lx)=(FR l x).length:=by
  have h4:=Maps.size_del (h1.tidy M.keyed) (k:=lx);have h5:=Vx (x:=x) h0;rw[FE.has M J h3,h2]at h4;omega
 refine⟨w',hr,⟨Pq x h0,_,World.ownsMap.exact ho hs,hs,λy Z O z=>?_⟩,SA Y⟩;rw[KY]
 by_cases e:y=x
 ·subst e;rw[J]at O
  cases O
  rw[if_pos rfl,Maps.atKey_del_same];rfl
 ·rw[if_neg e,Maps.atKey_del_other (OS M J O e),h3 y Z O]
variable {n:Nat}{E:Fh}{ds:List (Option Tmp)}{R:World->World->Prop}{rs:List (Oper×Fl×Bool)}{K:Fh->World->Prop}{d:Nat}{ty:TypeId}{pos:String}{af:Array Edge}{g:Option (Nat×Bool)}{anc:Bool}
theorem Xs2 (M:MapK P t k e kv av ok)(hg:FK ds E g=true)(hR:RX R anc)
  (h:∀b w1,b=w.heap.size->ED w w1->FE P k kv av w1 b ([]:List (κ×α))->Dw P n ds R rs K (FT E d (.map (some b))) w1):Dw P n ds R ((⟨some d,.makeMap t none,ty,pos,af,g⟩,.x,anc) :: rs) K E w:=by
 refine HM (v:=.map (some w.heap.size)) (w':=w.alloc (.map #[] 0)) hg ?_ (hR.use (ED.alloc _ _)) (h _ _ rfl (ED.alloc _ _) (FE.made M));have e1:(Instr.makeMap t none).run P w=.ok (.map (some w.heap.size)) (w.alloc (.map #[] 0)):=run_makeMap t w;simp [execOp,e1]
theorem PI {m x y:Operand}(M:MapK P t k e kv av ok){kx:κ}{a:α}(hg:FK ds E g=true)(hm:ev E m=.map (some b))(hx:ev E x=kv kx)(hy:ev E y=av a)(hmap:FE P k kv av w b l)(hok:ok kx)(hn:l.length<maxLen)
  (hR:anc=true\/∀w',Mod (ET b) w w'->R w w') (h:∀w1,Mod (ET b) w w1->w1.heap.size=w.heap.size->FE P k kv av w1 b (EZ l kx a)->Dw P n ds R rs K E w1) :
  Dw P n ds R ((⟨none,.mapUpdate t m x y,ty,pos,af,g⟩,.x,anc) :: rs) K E w:=by
 obtain⟨w',z,h1,h2,h3⟩:=hmap.update M hn hok a;refine Qg (w':=w') hg ?_ (λe=>hR.elim (λh=>by rw[h]at e;cases e) (λh=>h _ h2)) (h _ h2 h3 h1);simp [execOp,hm,hx,hy,z]
theorem RY {dd:Option Tmp}{m x:Operand}(M:MapK P t k e kv av ok){kx:κ}(hg:FK ds E g=true)(hm:ev E m=.map (some b))(hx:ev E x=kv kx)(hmap:FE P k kv av w b l)(hok:ok kx)
  (hR:anc=true\/∀w',Mod (ET b) w w'->R w w') (h:∀w1,Mod (ET b) w w1->w1.heap.size=w.heap.size->FE P k kv av w1 b (FR l kx)->Dw P n ds R rs K (Gu E dd (.tuple #[])) w1) :
  Dw P n ds R ((⟨dd,.call { callee:=.builtin .delete,args:=#[m,x],argTypes:=#[t,k] },ty,pos,af,g⟩,.x,anc) :: rs) K E w:=by
 obtain⟨w',z,h1,h2,h3⟩:=hmap.drop M hok ty;refine HM (v:=.tuple #[]) (w':=w') hg ?_ (λe=>hR.elim (λh=>by rw[h]at e;cases e) (λh=>h _ h2)) (h _ h2 h3 h1);simp [execOp,resolve,invoke,builtin,hm,hx,z]
theorem X44 {dd:Option Tmp}{m:Operand}(M:MapK P t k e kv av ok)(hm:ev E m=.map (some b))(hmap:FE P k kv av w b l):LV P ⟨dd,.call { callee:=.builtin .len,args:=#[m],argTypes:=#[t] },ty,pos,af,g⟩ E w (I l.length):=by
 obtain⟨h0,D,h1,h2,h3⟩:=hmap;have:=h1.len M.und ty;rw[h2]at this;unfold LV;simp [execOp,resolve,invoke,builtin,hm,this]
end
section
variable {α:Type}{enc:α->List Value}{sz T B:Nat}{w:World}{v:Value}{l:List α}
theorem MY : ∀(vs:List Value) (o:Nat) (cs:List Value) (i:Nat),o+vs.length<=cs.length->(EY cs o vs)[i]?=if o<=i/\i<o+vs.length then vs[i-o]? else cs[i]?
 | [],o,cs,i,h=>by simp [EY];intro h1 h2;omega
 | x :: vs,o,cs,i,h=>by
  rw[EY,MY vs (o+1) (cs.set o x) i (by simp at h ⊢;omega)];simp only [AG]at h ⊢
  by_cases h1:i=o
  ·subst h1;rw[if_neg EB,if_pos EB,C4];simp;omega
  ·by_cases h2:o<=i/\i<o+(vs.length+1)
   ·rw[if_pos EB,if_pos h2,show i-o=(i-(o+1))+1 by omega,List.getElem?_cons_succ]
   ·rw[if_neg EB,if_neg h2,C4,if_neg (λe=>h1 e.symm)]
theorem Xzo (henc:∀x,(enc x).length=sz):∀(l:List α) (i j:Nat) (x:α) (vs:List Value),i<l.length->enc x=EY (enc (l.getD i x)) j vs->j+vs.length<=sz->
  (l.set i x).flatMap enc=EY (l.flatMap enc) (i*sz+j) vs:=by
 intro l i j x vs hi hx hj
 apply BA
 intro m;have J:(l.flatMap enc).length=l.length*sz:=Fj henc l;have hi':i*sz+sz<=l.length*sz:=by rw[<-AZ];exact AS _ hi
 rw[MY _ _ _ _ (by rw[J];omega)]
 by_cases hm:m<l.length*sz
 ·have Y:0<sz:=by
   rcases Nat.eq_zero_or_pos sz with h|h
   ·rw[h]at hm;omega
   ·exact h
  have hq:m / sz<l.length:=Dx (by rw[Bu];exact hm);have z:m / sz*sz+m % sz=m:=by have:=Nat.div_add_mod m sz;rw[Bu]at this;exact this
  have hr:m % sz<sz:=Bd _ Y;have at':∀(l:List α) (y:α),l[m / sz]?=some y->(l.flatMap enc)[m]?=(enc y)[m % sz]?:=by
   intro l y Z;have O:m % sz<(enc y).length:=by rw[henc];exact hr
   have:=PU henc l (m / sz) y Z (m % sz) _ (Ar O);rw[z]at this;rw[this,Ar O]
  by_cases hqi:m / sz=i
  ·have h1:(l.set i x)[m / sz]?=some x:=by rw[hqi,C4];simp [hi]
   rw[at' _ _ h1,hx,MY _ _ _ _ (by rw[henc];exact hj)];have e1:l[m / sz]?=some (l.getD i x):=by rw[hqi,BR,Ar hi];rfl
   rw[at' _ _ e1];have e2:i*sz+m % sz=m:=by rw[<-hqi];exact z
   by_cases hc:j<=m % sz/\m % sz<j+vs.length
   ·rw[if_pos hc,if_pos EB];congr 1;omega
   ·rw[if_neg hc,if_neg EB]
  ·have h1:(l.set i x)[m / sz]?=l[m / sz]?:=by rw[C4,if_neg (λe=>hqi e.symm)]
   have Z:=Ar hq;rw[at' _ _ (h1.trans Z),at' _ _ Z,if_neg];rintro ⟨h2,h3⟩
   apply hqi
   have:i*sz<=m:=by omega
   have h4:m<(i+1)*sz:=by rw[AZ];omega
   exact Nat.le_antisymm (Nat.lt_succ_iff.1 (Dx (by rw[Bu];exact h4))) ((Nat.le_div_iff_mul_le Y).2 this)
 ·have hl2:((l.set i x).flatMap enc).length=l.length*sz:=by rw[Fj henc,AF]
  rw[Bm EB,if_neg EB,Bm EB]
theorem Own.cells (h:Own enc sz T B w v l)(hl:l≠[]):∃cs cap,v=.slice (some ⟨(base v).1,0,none⟩) l.length cap/\EK w (base v).1 cs T/\cs.take (l.length*sz)=l.flatMap enc/\l.length*sz<=cs.length:=by
 obtain⟨h1,h2⟩:=h.row;rcases h2 with⟨_,h0⟩|⟨g,cap,cur,rfl,hB,hc,hn,hm,hs,ht⟩
 ·exact absurd (A4 h0) hl
 ·refine⟨cur.toList,cap,rfl,?_,ht,?_⟩
  ·show w.heap[g]?=_;rw[hc]
  ·have e:cur.toList.length=cap*sz:=by simp [hs]
   rw[e];exact AS _ hn
theorem Own.setEl (henc:∀x,(enc x).length=sz)(h:Own enc sz T B w v l){w1:World}{cs:List Value}{i j:Nat}{x:α}{vs:List Value}(hb:EK w (base v).1 cs T)(hi:i<l.length)(hx:enc x=EY (enc (l.getD i x)) j vs)(hj:j+vs.length<=sz)
  (hb1:EK w1 (base v).1 (EY cs (i*sz+j) vs) T):Own enc sz T B w1 v (l.set i x):=by
 obtain⟨h1,h2⟩:=h.row;have z:=Xzo henc l i j x vs hi hx hj;refine⟨by rw[z,Su,AF];exact h1,?_⟩;rcases h2 with⟨_,h0⟩|⟨g,cap,cur,rfl,hB,hc,hn,hm,hs,ht⟩
 ·omega
 ·refine .inr ⟨g,cap,⟨EY cs (i*sz+j) vs⟩,by rw[AF],hB,hb1,by rw[AF];exact hn,hm,?_,?_⟩
  ·have e:cs=cur.toList:=by
    have:w.heap[g]?=some (.cells ⟨cs⟩ T (0,0)):=hb;rw[hc]at this;cases this;rfl
   simp only [List.size_toArray];rw[Su,e];simp [hs]
  ·have e:cs=cur.toList:=by
    have:w.heap[g]?=some (.cells ⟨cs⟩ T (0,0)):=hb;rw[hc]at this;cases this;rfl
   have hlen:l.length*sz<=cs.length:=by
    have e2:cs.length=cap*sz:=by rw[e];simp [hs]
    rw[e2];exact AS _ hn
   have hfl:(l.flatMap enc).length=l.length*sz:=Fj henc l;have hi':i*sz+sz<=l.length*sz:=by rw[<-AZ];exact AS _ hi
   rw[z,AF]
   apply BA
   intro m;simp only [AW];rw[MY _ _ _ _ EB,MY _ _ _ _ EB,<-ht,<-e,AW]
   by_cases hm2:m<l.length*sz
   ·simp [hm2]
   ·rw[if_neg hm2,if_neg EB,if_neg hm2]
variable {P:Program}{n:Nat}{E:Fh}{ds:List (Option Tmp)}{R:World->World->Prop}{rs:List (Oper×Fl×Bool)}{K:Fh->World->Prop}{pos:String}{af:Array Edge}{g:Option (Nat×Bool)}{anc:Bool}{ty:TypeId}
theorem HJ {a y:Operand}{T' i j:Nat}{u:Value}{x:α}{vs:List Value}(henc:∀x,(enc x).length=sz)(hg:FK ds E g=true)(hown:Own enc sz T B w v l)(ha:ev E a=EE (base v).1 (i*sz+j))(hy:ev E y=u)(hv:u.cells=⟨vs⟩)(hs:Mq P T'=some vs.length)
  (hi:i<l.length) (hx:enc x=EY (enc (l.getD i x)) j vs) (hj:j+vs.length<=sz) (h1:∀v∈vs,v.oneCell'=true) (hR:anc=true\/∀w',Mod (λk=>v.ownBlock=some k) w w'->R w w')
  (h:∀z,Mod (λk=>v.ownBlock=some k) w z->z.heap.size=w.heap.size->Own enc sz T B z v (l.set i x)->Dw P n ds R rs K E z):Dw P n ds R ((⟨none,.store T' a y,ty,pos,af,g⟩,.x,anc) :: rs) K E w:=by
 have hl:l≠[]:=by rintro rfl;simp at hi
 obtain⟨cs,cap,hv2,Z,ht,hlen⟩:=hown.cells hl;have Y:v.ownBlock=some (base v).1:=hown.base_block hl;have hm:∀w',Mod (ET (base v).1) w w'->Mod (λk=>v.ownBlock=some k) w w':=λw' m=>m.mono (λk hk _=>by have:k=(base v).1:=hk;rw[Y,this]);have hi':i*sz+sz<=l.length*sz:=by rw[<-AZ];exact AS _ hi
 refine Lg (v:=u) (vs:=vs) hg ha hy hv hs Z EB h1 (hR.imp id λh w' m=>h w' (hm w' m)) (λz m1 J O=>h z (hm z m1) J (hown.setEl henc Z hi hx hj O))
end
end Go.Vc
namespace Go.Proofs.YtiooodckiddpmaaGreatDoor
open Go.Vc Go.Sp
attribute [local irreducible] W XW Dw Gs
theorem Xzp (x y z:UInt8)(h:x &&& z≠0):(x ||| y) &&& z≠0:=by
 intro e
 apply h
 have:((x ||| y) &&& z)=(x &&& z) ||| (y &&& z):=by
  apply D6.1;simp;ext i;simp;cases x.toBitVec[i]<;>cases y.toBitVec[i]<;>cases z.toBitVec[i]<;>rfl
 rw[this]at e;have e2:=congrArg UInt8.toBitVec e
 apply D6.1
 simp at e2 ⊢;exact e2.1
theorem Xzq (x z:UInt8)(hz:z≠0):(x ||| z) &&& z≠0:=by
 have:(x ||| z) &&& z=z:=by
  apply D6.1;simp;ext i;simp;intro h;exact .inr h
 rw[this];exact hz
theorem X45 (m:Nat)(h:m<8):AJ (2 ^ m)≠0:=by
 match m,h with
 | 0,_|1,_|2,_|3,_|4,_|5,_|6,_|7,_=>decide
def IW (n:Nat):UInt8:=AJ (2 ^ (n % 8))
def Kk (b:EC)(n:Nat):EC:=b.set (n / 8) (b.getD (n / 8) 0 ||| IW n)
def JA (b:EC)(n:Nat):Bool:=decide (b.getD (n / 8) 0 &&& IW n≠0)
def N7 (b:EC)(s:EC):EC:=(IX s (8*b.length)).foldl Kk b
def HQ (k:Nat):Nat:=max 8 ((10*k+7) / 8)
def Ix (keys:List EC):EC:=keys.foldl N7 (Ax (HQ keys.length) 0)
def J3 (b:EC)(s:EC):Bool:=decide (b=[]) || (IX s (8*b.length)).all (JA b)
theorem Vd (b:EC)(n:Nat):(Kk b n).length=b.length:=by unfold Kk;rw[AF]
theorem Tw (l:List Nat)(b:EC):(l.foldl Kk b).length=b.length:=by
 induction l generalizing b with
 | nil=>rfl
 | cons n r ih=>rw[B9,ih,Vd]
theorem Qs (b:EC)(s:EC):(N7 b s).length=b.length:=Tw _ _
theorem Tq (l:List EC)(b:EC):(l.foldl N7 b).length=b.length:=by
 induction l generalizing b with
 | nil=>rfl
 | cons n r ih=>rw[B9,ih,Qs]
theorem Ma (keys:List EC):(Ix keys).length=HQ keys.length:=by unfold Ix;rw[Tq,De]
theorem Xzr {b:EC}{n m:Nat}(h:JA b n=true):JA (Kk b m) n=true:=by
 unfold JA Kk at *;rw[decide_eq_true_eq]at *
 by_cases e:m / 8=n / 8
 ·rw[e]
  by_cases hl:n / 8<b.length
  ·rw[BR,BB hl];exact Xzp _ _ _ h
  ·rw[List.set_eq_of_length_le EB];exact h
 ·rw[BR,List.getElem?_set_ne e,<-BR];exact h
theorem Xzs {b:EC}{n:Nat}(h:n / 8<b.length):JA (Kk b n) n=true:=by
 unfold JA Kk;rw[decide_eq_true_eq,BR,BB h];exact Xzq _ _ (X45 _ (Bd _ EN))
theorem VD {l:List Nat}{b:EC}{n:Nat}(h:JA b n=true):JA (l.foldl Kk b) n=true:=by
 induction l generalizing b with
 | nil=>exact h
 | cons m r ih=>exact ih (Xzr h)
theorem Xu6 {l:List Nat}{b:EC}{n:Nat}(hn:n∈l)(h:n / 8<b.length):JA (l.foldl Kk b) n=true:=by
 induction l generalizing b with
 | nil=>cases hn
 | cons m r ih=>
  rcases Aj.1 hn with rfl|hn
  ·rw[B9];exact VD (Xzs h)
  ·rw[B9];exact ih hn (by rw[Vd];exact h)
theorem Xu7 {l:List EC}{b:EC}{n:Nat}(h:JA b n=true):JA (l.foldl N7 b) n=true:=by
 induction l generalizing b with
 | nil=>exact h
 | cons m r ih=>exact ih (VD h)
theorem Rz {s:EC}{m n:Nat}(hm:0<m)(h:n∈IX s m):n<m:=by
 unfold IX at h;obtain⟨i,_,rfl⟩:=Aq.1 h;exact Bd _ hm
theorem Xzt {keys:List EC}{s:EC}(h:s∈keys):J3 (Ix keys) s=true:=by
 have J:0<HQ keys.length:=by unfold HQ;omega
 have key:∀(l:List EC) (b:EC),s∈l->0<b.length->∀n∈IX s (8*b.length),JA (l.foldl N7 b) n=true:=by
  intro l
  induction l with
  | nil=>intro b h;cases h
  | cons k r ih=>
   intro b h z n hn;rw[B9];rcases Aj.1 h with rfl|h
   ·exact Xu7 (Xu6 hn (by have:=Rz EB hn;omega))
   ·exact ih _ h (by rw[Qs];exact z) n (by rw[Qs];exact hn)
 unfold J3;rw[BM,AY];refine .inr λn hn=>?_;rw[Ma]at hn;exact key keys _ h (by rw[De];exact J) n (by rw[De];exact hn)
section
variable {P:Program}{E:Fh}{dd:Option Tmp}{ty:TypeId}{pos:String}{af:Array Edge}{g:Option (Nat×Bool)}{x y:Operand}{T U:TypeId}
theorem Sc {a:Nat}{ky:IntKind}(hx:ev E x=I ↑a)(hy:ev E y=.int ky 3):PV P ⟨dd,.binOp .shr T x y U,ty,pos,af,g⟩ E (I ↑(a / 8)):=by
 have:=N4 (P:=P) (dd:=dd) (ty:=ty) (pos:=pos) (af:=af) (g:=g) (T:=T) (U:=U) hx hy EN;rwa [show((a:Int)).fdiv (2 ^ min (3:Int).toNat IntKind.i64.bits)=((a / 8:Nat):Int) by
  rw[show(2:Int) ^ min (3:Int).toNat IntKind.i64.bits=8 by decide,CJ _ EB];omega]at this
theorem SQ {a:Nat}{ky:IntKind}(ha:a<=1000000000000000000)(hx:ev E x=I ↑a)(hy:ev E y=.int ky 3):PV P ⟨dd,.binOp .shl T x y U,ty,pos,af,g⟩ E (I ↑(8*a)):=by
 have:=Og (P:=P) (dd:=dd) (ty:=ty) (pos:=pos) (af:=af) (g:=g) (T:=T) (U:=U) hx hy EN;rwa [show(a:Int)*2 ^ min (3:Int).toNat IntKind.i64.bits=((8*a:Nat):Int) by rw[show(2:Int) ^ min (3:Int).toNat IntKind.i64.bits=8 by decide];omega,KB (by unfold EU;omega)]at this
theorem V4 {a:Nat}(ha:a<9223372036854775808)(hx:ev E x=I ↑a)(hy:ev E y=I 7):PV P ⟨dd,.binOp .and T x y U,ty,pos,af,g⟩ E (I ↑(a % 8)):=by
 have:=Lw (P:=P) (dd:=dd) (ty:=ty) (pos:=pos) (af:=af) (g:=g) (T:=T) (U:=U) (op:=.and) (.inl rfl) hx hy;have e:KL .and .i64 (a:Int) 7=((a % 8:Nat):Int):=by
  show IntKind.i64.wrap (((AN 64 (a:Int) &&& AN 64 ((7:Nat):Int)).toNat:Nat):Int)=_;rw[Da,Da,BitVec.toNat_and,Db,Db,B0 EB,B0 EB,show a &&& 7=a % 8 from DZ a 3,KB (by unfold EU;omega)]
 rwa [e]at this
theorem TC {n:Nat}{ky:IntKind}(hx:ev E x=.int .u8 1)(hy:ev E y=.int ky ((n % 8:Nat):Int)):PV P ⟨dd,.binOp .shl T x y U,ty,pos,af,g⟩ E (b8 (IW n)):=by
 have:=Og (P:=P) (dd:=dd) (ty:=ty) (pos:=pos) (af:=af) (g:=g) (T:=T) (U:=U) hx hy EB;have z:n % 8<8:=Bd _ EN;have e:IntKind.u8.wrap ((1:Int)*2 ^ min (((n % 8:Nat):Int)).toNat IntKind.u8.bits)=((IW n).toNat:Int):=by
  rw[Oc];unfold IW
  generalize n % 8=m at z
  match m,z with
  | 0,_|1,_|2,_|3,_|4,_|5,_|6,_|7,_=>decide
 rwa [e]at this
theorem X46 {a:Nat}{ts:Array TypeId}(hx:ev E x=I 8)(hy:ev E y=I ↑a):PV P ⟨dd,.call { callee:=.builtin .max,args:=#[x,y],argTypes:=ts },ty,pos,af,g⟩ E (I ↑(max 8 a)):=by
 have:=NN (P:=P) (dd:=dd) (ty:=ty) (pos:=pos) (af:=af) (g:=g) (ts:=ts) hx hy;rwa [show max (8:Int) (a:Int)=((max 8 a:Nat):Int) by omega]at this
end
theorem Xva (m:Nat):(Ax m [Value.int .u8 0]).flatten=(Ax m (0:UInt8)).flatMap EO:=by
 induction m with
 | zero=>rfl
 | succ k ih=>rw[CG,CG,List.flatten_cons,AB,ih];rfl
theorem UA {q:List Nat}{i x:Nat}(h:q[i]?=some x):(Ga q)[i]?=some (I ↑x):=by rw[List.getElem?_map,h];rfl
theorem Se {b:EC}{i:Nat}{c:UInt8}(h:b[i]?=some c):b.getD i 0=c:=by rw[BR,h];rfl
theorem X8z (b:EC)(v:Value)(s:EC)(w:World)(hv:EQ EO 1 w v b)(hb:b.length<=1000000000)(hs:s.length<=1000000000) :
  Calls Tryz.prog 185 [v,S s].toArray w (Pure w (B (J3 b s))):=by
 refine cw Tryz.func185 ?_;have z:=ED.refl w;refine ws λ_ Z1=>wr (da (de Z1 (ws λ_ Z2=>ws λ_ Z3=>wr (dm ?_))));refine dv 5 1 (hv.ext z).sl (dp (GB rfl rfl) (de Z3 (wi (λc1=>?_) λc1=>?_)))
 ·refine ws λ_ Z4=>wr (da (de Z4 (EJ ?_)));refine ro ?_;have e:b=[]:=A4 EB;exact⟨by rw[e];rfl,z⟩
 have O:0<b.length:=by omega
 refine EI (Z2 _ _ (ws λ_ Z5=>ws λ_ Z6=>wr (dm (dm ?_))));refine dv 5 1 (hv.ext z).sl (dp (SQ EB rfl rfl) (cP (Vg s (8*b.length) _ hs EB EB) RX.all λw1 x1=>?_));have z:=z.trans x1;refine dm (de Z6 (EM ?_));refine Fq (G:=Nat) (λk=>[(0,v),(14,.agg ⟨Ga (IX s (8*b.length))⟩),(15,I ↑k)]) (λk w'=>ED w w'/\k<=6/\((IX s (8*b.length)).take k).all (JA b)=true) (λk=>6-k) 0 ?_ ?_ ?_
 ·exact Hd
 ·exact⟨z,Ae _,rfl⟩
 intro X2 g2 w2 J;revert J;revert g2;intro k J;clear z;obtain⟨z,hk1,hA⟩:=J;refine ws λ_ Z7=>wr (dp (Fb rfl rfl) (de Z7 (ws λ_ Z8=>wi (λc2=>?_) λc2=>?_)))
 ·obtain⟨x,hk⟩:∃x,(IX s (8*b.length))[k]?=some x:=⟨_,Ar (by rw[NB];omega)⟩;have hx8:=Rz EB (Ak hk);obtain⟨c,hc⟩:∃c,b[x / 8]?=some c:=Fw;refine EI (Z8 _ _ (ws λ_ Z9=>EM (ws λ_ hg=>wr (dp (Rv (m:=6) (e:=3) EA EA rfl rfl EB (UA hk)) (da (de hg (ws λ_ hf=>?_)))))));refine F9 (R:=ED) ED.refl (λ_ _ _=>ED.trans) EA [4] [(0,.p,false),(1,.p,false),(2,.p,false),(3,.p,false),(4,.l,false),(5,.p,false),(6,.p,false),(7,.p,false),(8,.p,false),(9,.p,false)] rfl EA EA (λw3 Y=>?_);have x3:=EL Y;clear Y;have z:=z.trans x3
  iterate 2 refine dm ?_
  refine dp (Sc rfl rfl) (di 5 1 hv.sl rfl (hv.lt hc) (dL rfl (λ_ hR=>(((hv.ext (z.trans hR)).row hc).at0 rfl)) (dm ?_)));refine dp (V4 EB rfl rfl) (dp (TC rfl rfl) (dp (QF rfl rfl) (dp (OX (b:=0) rfl rfl) (de hf (wi (λc3=>?_) λc3=>?_)))))
  ·refine ws λ_ hh=>wr (da (de hh (EJ ?_)));refine ro ?_;refine⟨?_,z⟩;have ha:¬ b=[]:=λe=>by rw[e]at O;simp at O
   have:J3 b s=false:=by
    unfold J3;rw[decide_eq_false ha,Bool.false_or,<-Bool.not_eq_true,AY];intro h;have:=h x (Ak hk);unfold JA at this;rw[Se hc,decide_eq_true_eq]at this;exact this (by simpa using c3)
   rw[this]
  refine EI (Z9 _ _ (wr (pa rfl rfl (dm (EH (?_))))));refine⟨k+1,Hd,⟨z,by omega,?_⟩,by omega⟩;rw[G1 hk,C6,hA,List.all_cons,List.all_nil,Cq,Bool.and_true];unfold JA;rw[Se hc];simpa using c3
 refine Fk (Z5 _ _ (ws λ_ Z=>wr (da (de Z (EJ ?_)))));refine ro ?_;refine⟨?_,z⟩;rw[Ay (by rw[NB];omega)]at hA;unfold J3;rw[hA,Bool.or_true]
theorem UY (l:List EC)(v:Value)(w:World)(hv:EQ FU 1 w v l)(hl:l.length<=1000000)(hs:∀s∈l,s.length<=1000000000) :
  Calls Tryz.prog 197 [v].toArray w (ES w (λu w'=>Vc.Own EO 1 5 w.heap.size w' u (Ix l))):=by
 refine cw Tryz.func197 ?_;have z:=ED.refl w;have hbn:HQ l.length<=10000008:=by unfold HQ;omega
 refine ws λ_ Z1=>wr (da (de Z1 (ws λ_ Z2=>wr (dm ?_))));refine dv 9 1 (hv.ext z).sl (dp (Ku rfl rfl (by unfold EU;omega)) (pa rfl rfl (EW (v:=I ↑((10*l.length+7) / 8)) rfl (Sc (a:=10*l.length+7) rfl rfl) rfl (dp (X46 rfl rfl) (LN (e:=5) (sz:=1) (by':=1) (zs:=[.int .u8 0]) rfl EA EA EA rfl rfl EB EB RX.all (λb1 w1 e1 x1 m1=>?_))))));have g1:=z.ge e1;have z:=z.trans x1;refine da (de Z2 (ws λ_ Z3=>ws λ_ Z4=>wr (dm ?_)));refine dv 9 1 (hv.ext z).sl (dm (de Z4 (EM ?_)));refine Fq (G:=Nat×EC) (λ(k,b)=>[(2,.slice none 0 0),(3,.slice (some ⟨b1,0,none⟩) (HQ l.length) (HQ l.length)),(15,v),(16,I ↑l.length),(17,I ↑k)]) (λ(k,b) w'=>ED w w'/\k<=l.length/\Vc.Own EO 1 5 w.heap.size w' (.slice (some ⟨b1,0,none⟩) (HQ l.length) (HQ l.length)) b/\b=(l.take k).foldl N7 (Ax (HQ l.length) 0)) (λ(k,b)=>l.length-k) (0,Ax (HQ l.length) 0) ?_ ?_ ?_
 ·exact FN
 ·exact⟨z,Ae _,m1.own (enc:=EO) (sz:=1) (l:=Ax (HQ l.length) 0) g1 (Xva _) EF ER (by simp;omega),rfl⟩
 intro X2 g2 w2 hh;obtain⟨k,b⟩:=g2;clear z m1;obtain⟨z,hk1,ho,hb⟩:=hh;refine ws λ_ Z5=>wr (dp (Fb rfl rfl) (de Z5 (ws λ_ Z6=>wi (λc1=>?_) λc1=>?_)))
 ·obtain⟨s,hk⟩:∃s,l[k]?=some s:=Fw;have J:b.length=HQ l.length:=by rw[hb,Tq,De]
  refine EI (Z6 _ _ (ws λ_ Z7=>EM (ws λ_ Z8=>wr (di 9 1 (hv.ext z).sl rfl ((hv.ext z).lt hk) (dl rfl (((hv.ext z).row hk).at0 rfl) (da (de Z8 (ws λ_ Z9=>wr (dm (dm ?_))))))))));refine dv 5 1 (ho.arr EF).sl (dp (SQ EB rfl rfl) (cP (Vg s (8*b.length) _ (hs s (Ak hk)) (by unfold HQ at J;omega) EB) RX.all λw3 x3=>?_));have ho:=ho.ext x3;have z:=z.trans x3;refine dm (de Z9 (EM ?_));refine Fq (G:=Nat×EC) (λ(j,O)=>[(2,.slice none 0 0),(3,.slice (some ⟨b1,0,none⟩) (HQ l.length) (HQ l.length)),(15,v),(16,I ↑l.length),(17,I ↑k),(25,.agg ⟨Ga (IX s (8*b.length))⟩),(26,I ↑j)]) (λ(j,O) w'=>ED w w'/\j<=6/\Vc.Own EO 1 5 w.heap.size w' (.slice (some ⟨b1,0,none⟩) (HQ l.length) (HQ l.length)) O/\O=((IX s (8*b.length)).take j).foldl Kk b) (λ(j,O)=>6-j) (0,b) ?_ ?_ ?_
  ·exact Gb
  ·exact⟨z,Ae _,ho,rfl⟩
  intro X4 g4 w4 hq;obtain⟨j,O⟩:=g4;clear z ho;obtain⟨z,hj1,ho,Y⟩:=hq;refine ws λ_ ht=>wr (dp (Fb rfl rfl) (de ht (ws λ_ hr=>wi (λc2=>?_) λc2=>?_)))
  ·obtain⟨x,hj⟩:∃x,(IX s (8*b.length))[j]?=some x:=⟨_,Ar (by rw[NB];omega)⟩;have hclen:O.length=b.length:=by rw[Y,Tw]
   have hx8:=Rz (by unfold HQ at J;omega) (Ak hj);obtain⟨c,hc⟩:∃c,O[x / 8]?=some c:=Fw;refine EI (hr _ _ (ws λ_ hp=>EM (ws λ_ hg=>wr (dp (Rv (m:=6) (e:=3) EA EA rfl rfl EB (UA hj)) (da (de hg ?_))))));refine F9 (R:=ED) ED.refl (λ_ _ _=>ED.trans) EA [4] [(0,.p,false),(1,.p,false),(2,.p,false),(3,.p,false),(4,.l,false),(5,.p,false),(6,.p,false),(7,.p,false),(8,.p,false),(9,.p,false),(10,.x,true)] rfl EA EA (λw5 ha=>?_);have x5:=EL ha;clear ha;have ho:=ho.ext x5;have z:=z.trans x5
   iterate 2 refine dm ?_
   refine dp (Sc rfl rfl) (di 5 1 (ho.arr EF).sl rfl ((ho.arr EF).lt hc) (dL rfl (λ_ hR=>((((ho.arr EF).ext hR).row hc).at0 rfl)) (dm ?_)));refine dp (V4 EB rfl rfl) (dp (TC rfl rfl) (dp (XI rfl rfl) (EW (v:=EE b1 (x / 8*1+0)) rfl (HY (e:=5) (k:=1) EA ho.sl rfl rfl EB) (by show EE b1 (0+x / 8*1)=_;rw[A9];rfl) (HJ (enc:=EO) (sz:=1) (i:=x / 8) (j:=0) (x:=c ||| IW x) (vs:=[b8 (c ||| IW x)]) EF rfl ho rfl rfl rfl EA EB rfl (Ab 1) (by intro v hv;rw[List.mem_singleton.1 hv];rfl) (.inl rfl) (λw6 x6 xs6 Z=>?_)))));have z:=z.own x6 (λi hi=>(ho.lt i hi).1);have ho:=Z;refine de hp (wr (pa rfl rfl (dm (EH (?_)))));refine⟨(j+1,O.set (x / 8) (c ||| IW x)),Gb,⟨z,by omega,ho,?_⟩,by simp only [];omega⟩;rw[G1 hj,B4,<-Y];show _=Kk O x;unfold Kk;rw[Se hc]
  refine Fk (Z7 _ _ (wr (pa rfl rfl (dm (EH (?_))))));refine⟨(k+1,O),FN,⟨z,by omega,ho,?_⟩,by simp only [];omega⟩;rw[G1 hk,B4,<-hb,Y,Ay (by rw[NB];omega)];rfl
 refine Fk (Z3 _ _ (ws λ_ hf=>wr (dm (da (de hf (EJ ?_))))));refine ro ?_;rw[Ay EB]at hb;exact⟨_,rfl,z,by rw[hb]at ho;exact ho⟩
theorem Ns (a b:Cell)(w:World) :
  Calls Tryz.prog 99 [a.v,b.v].toArray w (Pure w (B (Fa a b))):=by
 refine cw Tryz.func99 ?_;have z:=ED.refl w;refine ws λ_ Z1=>wr (Gn rfl rfl rfl RX.all (λb1 w1 e1 x1 J=>?_));have g1:=z.ge e1;have z:=z.trans x1;refine Gn rfl rfl rfl RX.all (λb2 w2 e2 Y O=>?_);have g2:=z.ge e2;have n2_1:=J.ltb e2;have J:=J.ext Y;have z:=z.trans Y;refine da (de Z1 (ws λ_ Z2=>ws λ_ Z3=>wr ?_));refine df 0 rfl (dl rfl (J.at rfl) (df 0 rfl (dl rfl (O.at rfl) (dp (Me rfl rfl) (de Z3 (wi (λZ=>?_) λZ=>?_))))))
 ·refine ws λ_ Z4=>wr (df 0 rfl (dl rfl (J.at rfl) (df 0 rfl (dl rfl (O.at rfl) (dp (OL rfl rfl) (da (de Z4 (EJ ?_))))))));refine ro ?_;refine⟨?_,z⟩;simp [Fa, *]
 refine EI (Z2 _ _ (ws λ_ Z5=>wr (df 3 rfl (dl rfl (J.at rfl) (df 3 rfl (dl rfl (O.at rfl) (dp (Gg rfl rfl) (da (de Z5 (EJ ?_))))))))));refine ro ?_;refine⟨?_,z⟩;simp [Fa, *]
theorem Ri (c:Cell)(w:World) :
  Calls Tryz.prog 153 [c.v].toArray w (Pure w (B (Gl c))):=by
 refine cw Tryz.func153 ?_;have z:=ED.refl w;refine ws λ_ Z1=>wr (Gn rfl rfl rfl RX.all (λb1 w1 e1 x1 J=>?_));have g1:=z.ge e1;have z:=z.trans x1;refine da (de Z1 (ws λ_ O=>wr ?_));refine df 0 rfl (dl rfl (J.at rfl) (dt rfl (dp (IA rfl rfl) (dm ?_))));refine F4 7 rfl (λc1=>?_) (λc1=>?_)
 ·refine df 0 rfl (dl rfl (J.at rfl) (dt rfl (dp (IG rfl rfl) (EP ?_))));refine dm ?_;refine F4 13 rfl (λc2=>?_) (λc2=>?_)
  ·refine df 1 rfl (dl rfl (J.at rfl) (dt rfl (dp (IG rfl rfl) (EP ?_))));refine dm ?_;refine F4 19 rfl (λc3=>?_) (λc3=>?_)
   ·refine df 2 rfl (dl rfl (J.at rfl) (dn (dm ?_)));refine I5 23 rfl (λc4=>?_) (λc4=>?_)
    ·refine dk (dk (dk (EP ?_)));refine EP ?_;refine dm ?_;refine df 3 rfl (dl rfl (J.at rfl) (dp (IA rfl rfl) (EP ?_)));refine dm ?_;refine F4 34 rfl (λY=>?_) (λY=>?_)
     ·refine df 3 rfl (dl rfl (J.at rfl) (dp (IG rfl rfl) (EP ?_)));refine da (de O (EJ ?_));refine ro ?_;refine⟨?_,z⟩;simp only [Ending.returned.injEq,Value.bool.injEq];simp [Gl, *];omega
     refine dk (dk (dk (EP ?_)));refine da (de O (EJ ?_));refine ro ?_;refine⟨?_,z⟩;simp only [Ending.returned.injEq,Value.bool.injEq];simp [Gl, *]
    refine df 1 rfl (dl rfl (J.at rfl) (dp (MU rfl rfl) (EP ?_)));refine EP ?_;refine dm ?_;refine F4 29 rfl (λc6=>?_) (λc6=>?_)
    ·refine df 3 rfl (dl rfl (J.at rfl) (dp (IA rfl rfl) (EP ?_)));refine dm ?_;refine F4 34 rfl (λZ=>?_) (λZ=>?_)
     ·refine df 3 rfl (dl rfl (J.at rfl) (dp (IG rfl rfl) (EP ?_)));refine da (de O (EJ ?_));refine ro ?_;refine⟨?_,z⟩;simp only [Ending.returned.injEq,Value.bool.injEq];simp [Gl, *];omega
     refine dk (dk (dk (EP ?_)));refine da (de O (EJ ?_));refine ro ?_;refine⟨?_,z⟩;simp only [Ending.returned.injEq,Value.bool.injEq];simp [Gl, *]
    refine dk (dk (dk (EP ?_)));refine dm ?_;refine dk (dk (dk (EP ?_)));refine da (de O (EJ ?_));refine ro ?_;refine⟨?_,z⟩;simp only [Ending.returned.injEq,Value.bool.injEq];simp [Gl, *]
   refine dk (dk (dk (dk (dk (dk (dk (dk (EP ?_))))))));refine dm ?_;refine dk (dk (dk (EP ?_)));refine dm ?_;refine dk (dk (dk (EP ?_)));refine da (de O (EJ ?_));refine ro ?_;refine⟨?_,z⟩;simp only [Ending.returned.injEq,Value.bool.injEq];simp [Gl, *];omega
  refine dk (dk (dk (dk (EP ?_))));refine dm ?_;refine dk (dk (dk (dk (dk (dk (dk (dk (EP ?_))))))));refine dm ?_;refine dk (dk (dk (EP ?_)));refine dm ?_;refine dk (dk (dk (EP ?_)));refine da (de O (EJ ?_));refine ro ?_;refine⟨?_,z⟩;simp only [Ending.returned.injEq,Value.bool.injEq];simp [Gl, *];omega
 refine dk (dk (dk (dk (EP ?_))));refine dm ?_;refine dk (dk (dk (dk (EP ?_))));refine dm ?_;refine dk (dk (dk (dk (dk (dk (dk (dk (EP ?_))))))));refine dm ?_;refine dk (dk (dk (EP ?_)));refine dm ?_;refine dk (dk (dk (EP ?_)));refine da (de O (EJ ?_));refine ro ?_;refine⟨?_,z⟩;simp only [Ending.returned.injEq,Value.bool.injEq];simp [Gl, *];omega
theorem Qv (c:Cell)(w:World)(hk:c.key.length<=1000000000)(hv:c.val.length<=1000000000) :
  Calls Tryz.prog 169 [c.v].toArray w (Pure w (I (Gt c))):=by
 refine cw Tryz.func169 ?_;have z:=ED.refl w;refine ws λ_ Y=>wr (Gn rfl rfl rfl RX.all (λb1 w1 e1 Z J=>?_));have g1:=z.ge e1;have z:=z.trans Z;refine da (de Y (ws λ_ O=>wr ?_));refine df 0 rfl (dl rfl (J.at rfl) (dt rfl (df 1 rfl (dl rfl (J.at rfl) (dt rfl (pa rfl rfl (pa rfl rfl (da (de O (EJ ?_))))))))));refine ro ?_;refine⟨?_,z⟩;simp [Gt]
end Go.Proofs.YtiooodckiddpmaaGreatDoor
namespace Go.Sp
open Go.Vc (EC)
def Jn : EC->EC->Nat
 | a :: r,b :: s=>if a=b then Jn r s+1 else 0
 | _,_=>0
theorem Qx : ∀(a b:EC),Jn a b<=a.length/\Jn a b<=b.length/\a.take (Jn a b)=b.take (Jn a b)
 | [],b=>by simp [Jn]
 | a :: r,[]=>by simp [Jn]
 | a :: r,b :: s=>by
  have:=Qx r s;unfold Jn;split
  ·rename_i h;subst h;simp only [AG,Cg];exact⟨by omega,by omega,by rw[this.2.2]⟩
  ·simp
theorem Xng {a b:EC}{k:Nat}{x y:UInt8}(hx:a[k]?=some x)(hy:b[k]?=some y):Jn (a.drop k) (b.drop k)=if x=y then Jn (a.drop (k+1)) (b.drop (k+1))+1 else 0:=by
 obtain⟨h1,rfl⟩:=Ap.1 hx;obtain⟨h2,rfl⟩:=Ap.1 hy;rw[CK h1,CK h2];rfl
theorem Vt {a b:EC}{k:Nat}(h:a.length<=k\/b.length<=k):Jn (a.drop k) (b.drop k)=0:=by
 rcases h with h|h
 ·rw[Cr h];cases b.drop k<;>rfl
 ·rw[Cr h];cases a.drop k<;>rfl
def JJ : List Cell->Bool
 | a :: b :: r=>Fa a b && JJ (b :: r)
 | _=>true
def GH (l:List Cell):Int:=if(l.all Gl)=true then(if JJ l=true then 0 else 11)else 1
theorem Um {l:List Cell}(h:JJ l=true){k:Nat}{a b:Cell}(ha:l[k]?=some a)(hb:l[k+1]?=some b):Fa a b=true:=by
 induction l generalizing k with
 | nil=>cases ha
 | cons x r ih=>
  cases r with
  | nil=>simp at hb
  | cons y r=>
   unfold JJ at h;rw[Au]at h
   cases k with
   | zero=>simp at ha hb;subst ha hb;exact h.1
   | succ k=>exact ih h.2 (by simpa using ha) (by simpa using hb)
theorem Xzu {l:List Cell}(h:∀(k:Nat) (a b:Cell),l[k]?=some a->l[k+1]?=some b->Fa a b=true):JJ l=true:=by
 induction l with
 | nil=>rfl
 | cons x r ih=>
  cases r with
  | nil=>rfl
  | cons y r=>
   unfold JJ;rw[h 0 x y rfl rfl,Cq];exact ih (λk a b z J=>h (k+1) a b (by simpa using z) (by simpa using J))
theorem K7 {l:List Cell} : GH l=0↔(∀c∈l,Gl c=true)/\JJ l=true:=by
 unfold GH;split
 ·rename_i h;rw[AY]at h;split
  ·rename_i h2;exact⟨λ_=>⟨h,h2⟩,λ_=>rfl⟩
  ·rename_i h2;exact⟨λe=>by simp at e,λe=>absurd e.2 h2⟩
 ·rename_i h;exact⟨λe=>by simp at e,λe=>absurd (AY.2 e.1) h⟩
def Kl (d:Bool):Nat:=if d then 1 else 0
def JM (n:Nat)(c:Cell):EC:=EV n++Fs (c.key.drop n)++(EV c.seq.toNat++EV (Kl c.del))++(if c.del then[]else Fs c.val)
def Hm (l:List Cell)(k:Nat):Nat:=if k % 4=0 then 0 else Jn (l[k-1]?.getD Cell.zero).key (l[k]?.getD Cell.zero).key
def Jw (l:List Cell)(k:Nat):EC:=JM (Hm l k) (l[k]?.getD Cell.zero)
def Hl (l:List Cell):EC:=(BF l.length).flatMap (Jw l)
def Ih (l:List Cell)(k:Nat):EC:=((BF l.length).drop k).flatMap (Jw l)
theorem X80 (l:List Cell):Ih l 0=Hl l:=rfl
theorem QV {l:List Cell}{k:Nat}(h:k<l.length):Ih l k=Jw l k++Ih l (k+1):=by
 unfold Ih;rw[CK (by simpa using h),AB];simp
theorem R8 {l:List Cell}{k:Nat}(h:l.length<=k):Ih l k=[]:=by
 unfold Ih;rw[Cr (by simpa using h)];rfl
theorem Sy {l:List Cell}{k:Nat}(h:k<l.length):(BF (k+1)).flatMap (Jw l)=(BF k).flatMap (Jw l)++Jw l k:=by
 rw[List.range_succ,AU];simp
theorem Tx {l:List Cell}{k:Nat}{c:Cell}(h:l[k]?=some c):Hm l k<=c.key.length:=by
 unfold Hm;rw[h];split
 ·omega
 ·exact(Qx _ _).2.1
theorem Xve {l:List Cell}{k:Nat}{c:Cell}(h:l[k]?=some c):∀p:EC,p=(if k=0 then[]else(l[k-1]?.getD Cell.zero).key)->Hm l k<=p.length/\p.take (Hm l k)++c.key.drop (Hm l k)=c.key:=by
 intro p z;unfold Hm;rw[h];split
 ·rename_i h4;simp
 ·rename_i h4;rw[if_neg (by rintro rfl;simp at h4)]at z;subst z;have:=Qx (l[k-1]?.getD Cell.zero).key c.key;simp only [Option.getD_some];exact⟨this.1,by rw[this.2.2,List.take_append_drop]⟩
theorem Xvf (n:Nat){c:Cell}(h:Gl c=true):(JM n c).length<=50+c.key.length+c.val.length:=by
 unfold JM Fs;have h1:=Gj n;have h2:=Gj (c.key.drop n).length;have h3:=Gj c.seq.toNat;have h4:=Gj (Kl c.del);have h5:=Gj c.val.length;split<;>simp only [Aa,Bh,List.length_nil]at *<;>omega
theorem SJ (n:Nat)(c:Cell):1<=(JM n c).length:=by
 unfold JM EV;have:1<=(GL 10 n).length:=NC 9 n;simp only [Aa];omega
theorem Qq {l:List Cell}(h:∀c∈l,Gl c=true)(k:Nat)(hk:k<=l.length):((BF k).flatMap (Jw l)).length<=20600*k:=by
 induction k with
 | zero=>simp
 | succ k ih=>
  rw[Sy EB,Aa];have:=ih EB;have z:l[k]?=some l[k]:=Ar EB;have hi:=h l[k] (List.getElem_mem ..);have:=Xvf (Hm l k) hi;have e:Jw l k=JM (Hm l k) l[k]:=by unfold Jw;rw[z];rfl
  simp only [Gl,Au,decide_eq_true_eq]at hi;rw[e];omega
theorem Pg {l:List Cell}(h:∀c∈l,Gl c=true):(Hl l).length<=20600*l.length:=Qq h l.length (Ab _)
end Go.Sp
namespace Go.Proofs.YtiooodckiddpmaaGreatDoor
open Go.Vc Go.Sp
attribute [local irreducible] W XW Dw Gs
theorem Xs3 {l:List Cell}{k:Nat}{a b:Cell}(hk:1<=k)(h1:l[k-1]?=some a)(h2:l[k]?=some b):JJ (l.drop (k-1))=(Fa a b && JJ (l.drop k)):=by
 obtain⟨i,rfl⟩:∃i,k=i+1:=⟨k-1,by omega⟩;simp only [Nat.add_sub_cancel]at *;rw[Jd h1,Jd h2];rfl
theorem Xvg {l:List Cell}{k:Nat}(h:l.length<=k):JJ (l.drop (k-1))=true:=by
 have z:(l.drop (k-1)).length<=1:=by rw[Bh];omega
 match hd:l.drop (k-1),z with
 | [],_=>rfl
 | [a],_=>rfl
theorem Xzv {l:List Cell}{k:Nat}{c:Cell}(h:l[k]?=some c):(l.take (k+1)).all Gl=((l.take k).all Gl && Gl c):=by
 rw[G1 h,C6];simp
theorem X47 {l:List Cell}{k:Nat}{c:Cell}(h:l[k]?=some c)(hc:Gl c=false):GH l=1:=by
 unfold GH;rw[if_neg];intro h2;rw[AY]at h2;rw[h2 c (Ak h)]at hc
 cases hc
theorem Ka {c:Cell}(h:Gl c=true):c.key.length<=4096/\c.val.length<=16384/\1<=c.key.length/\1<=c.seq/\c.seq<=1099511627776/\(c.del=true->c.val=[]):=by
 simp only [Gl,Au,BM,decide_eq_true_eq]at h;refine⟨by omega,by omega,by omega,by omega,by omega,λhd=>?_⟩;obtain⟨⟨⟨_,h4⟩,_⟩,_⟩:=h;rcases h4 with h4|h4
 ·rw[hd]at h4;cases h4
 ·exact h4
theorem Va {n:Int}(h:1<=n)(h2:n<=1099511627776):Hn n=n.toNat:=by unfold Hn;omega
theorem Xzw (a b:EC)(w:World)(ha:a.length<=1000000000)(hb:b.length<=1000000000) :
  Calls Tryz.prog 300 [S a,S b].toArray w (Pure w (I ↑(Jn a b))):=by
 refine cw Tryz.func300 ?_;have J:=ED.refl w;refine ws λ_ Z1=>wr (da (de Z1 (ws λ_ Z2=>wr (da (de Z2 (ws λ_ Z3=>EM ?_))))));refine Fq (G:=Nat) (λk=>[(0,S a),(1,S b),(4,I 0),(5,I ↑k)]) (λk w'=>ED w w'/\k<=a.length/\k<=b.length/\Jn (a.drop k) (b.drop k)+k=Jn a b) (λk=>a.length-k) 0 ?_ ?_ ?_
 ·exact Gc
 ·exact⟨J,Ae _,Ae _,rfl⟩
 intro X1 g1 w1 O;revert O;revert g1;intro k O;clear J;obtain⟨J,hka,hkb,z⟩:=O;refine ws λ_ Z4=>ws λ_ Z5=>F9 (R:=ED) ED.refl (λ_ _ _=>ED.trans) EA [] [(0,.p,false),(1,.p,false),(2,.p,false),(3,.p,false),(4,.p,false),(5,.p,false),(6,.p,false),(7,.p,false),(8,.p,false),(9,.p,false),(10,.p,false),(11,.p,false),(12,.p,false),(13,.p,false),(14,.p,false),(15,.p,false),(16,.p,false),(17,.p,false),(18,.p,false)] rfl EA EA (λw2 Z=>?_);have x2:=EL Z;clear Z;have J:=J.trans x2
 iterate 2 refine dm ?_
 refine dt rfl (dp (Fb rfl rfl) (dm ?_));refine F4 10 rfl (λc1=>?_) (λc1=>?_)
 ·iterate 2 refine dm ?_
  refine dt rfl (dp (Fb rfl rfl) (EP ?_));refine dm ?_;refine F4 16 rfl (λc2=>?_) (λc2=>?_)
  ·obtain⟨x,hk1⟩:∃x,a[k]?=some x:=Fw;obtain⟨y,hk2⟩:∃y,b[k]?=some y:=Fw;have Y:=Xng hk1 hk2
   iterate 2 refine dm ?_
   refine dp (Pe EA rfl rfl hk1) (dm (dm ?_));refine dp (Pe EA rfl rfl hk2) (dp (OX rfl rfl) (EP (de Z5 ?_)));refine wi (λc3=>?_) λc3=>?_
   ·refine EI (Z4 _ _ (EM (wr (dm ?_))));refine pa rfl rfl (da (EH (?_)));refine⟨k+1,Gc,⟨J,by omega,by omega,?_⟩,by omega⟩;rw[Y,if_pos (by simpa using c3)]at z;omega
   refine Fk (Z3 _ _ (ws λ_ Z6=>wr (dm (da (de Z6 (EJ ?_))))));refine ro ?_;refine⟨?_,J⟩;rw[Y,if_neg (by simpa using c3)]at z;rw[<-z,A9]
  refine dk (dk (dk (dk (dk (dk (dk (EP (de Z5 ?_))))))));refine Hf rfl (Fk (Z3 _ _ (ws λ_ Z7=>wr (dm (da (de Z7 (EJ ?_)))))));refine ro ?_;refine⟨?_,J⟩;rw[Vt (.inr EB)]at z;rw[<-z,A9]
 refine dk (dk (dk (dk (EP ?_))));refine dm ?_;refine dk (dk (dk (dk (dk (dk (dk (EP (de Z5 ?_))))))));refine Hf rfl (Fk (Z3 _ _ (ws λ_ Z8=>wr (dm (da (de Z8 (EJ ?_)))))));refine ro ?_;refine⟨?_,J⟩;rw[Vt (.inl EB)]at z;rw[<-z,A9]
theorem X81 (d:Bool)(w:World) :
  Calls Tryz.prog 301 [B d].toArray w (Pure w (I ↑(Kl d))):=by
 refine cw Tryz.func301 ?_;have J:=ED.refl w;refine ws λ_ Z1=>wr (da (de Z1 (ws λ_ Y=>ws λ_ Z3=>wr (dm (de Z3 ?_)))));refine wc (λz=>?_) λz=>?_
 ·refine ws λ_ Z=>wr (da (de Z (EJ ?_)));refine ro ?_;refine⟨?_,J⟩;rw[z];rfl
 refine EI (Y _ _ (ws λ_ O=>wr (da (de O (EJ ?_)))));refine ro ?_;refine⟨?_,J⟩;rw[z];rfl
theorem X48 (l:List Cell)(v:Value)(w:World)(hv:EQ Cell.cs 4 w v l)(hl:l.length<=30000) :
  Calls Tryz.prog 299 [v].toArray w (Pure w (I (GH l))):=by
 refine cw Tryz.func299 ?_;have z:=ED.refl w;refine ws λ_ Z1=>wr (da (de Z1 (ws λ_ Z2=>ws λ_ Z3=>wr (dm ?_))));refine dv 79 4 (hv.ext z).sl (dm (de Z3 (EM ?_)));refine Fq (G:=Nat) (λk=>[(0,v),(6,v),(7,I ↑l.length),(8,I ↑k)]) (λk w'=>ED w w'/\k<=l.length/\(l.take k).all Gl=true) (λk=>l.length-k) 0 ?_ ?_ ?_
 ·exact Gc
 ·exact⟨z,Ae _,rfl⟩
 intro X1 g1 w1 Y;revert Y;revert g1;intro k Y;clear z;obtain⟨z,J,hA⟩:=Y;refine ws λ_ Z4=>wr (dp (Fb rfl rfl) (de Z4 (ws λ_ Z5=>wi (λc1=>?_) λc1=>?_)))
 ·obtain⟨c,hk⟩:∃c,l[k]?=some c:=Fw;refine EI (Z5 _ _ (ws λ_ Z6=>EM (ws λ_ Z7=>wr (di 79 4 (hv.ext z).sl rfl ((hv.ext z).lt hk) (dq (Fe EA rfl rfl ((hv.ext z).row hk)) (FP (cs:=[S [],S [],B false,.int .i64 0]) rfl EA RX.all (λb1 w2 e1 x2 m1=>?_)))))));have g1:=z.ge e1;have z:=z.trans x2;refine FY m1 (λw3 x3 xs3 m1=>?_);dsimp only [EY,Af,Ad,Ag]at m1;have z:=z.o1 x3;refine de Z7 (ws λ_ Z8=>wr (dq (Fe (k:=4) EA rfl rfl m1.row) (cP (Ri c _) RX.all λw4 x4=>?_)));have z:=z.trans x4;refine dn (de Z8 ?_);refine wc (λc2=>?_) λc2=>?_
  ·refine ws λ_ Z9=>wr (da (de Z9 (EJ ?_)));refine ro ?_;refine⟨?_,z⟩;rw[X47 hk (by simpa using c2)]
  refine EI (Z6 _ _ (wr (pa rfl rfl (dm (EH (?_))))));refine⟨k+1,Gc,⟨z,by omega,?_⟩,by omega⟩;rw[Xzv hk,hA];simpa using c2
 refine Fk (Z2 _ _ (ws λ_ ht=>ws λ_ hq=>wr (da (de hq (EM ?_)))));refine Fq (G:=Nat) (λk=>[(0,v),(5,I ↑k)]) (λk w'=>ED w w'/\1<=k/\JJ l=JJ (l.drop (k-1))/\l.all Gl=true) (λk=>l.length-k) 1 ?_ ?_ ?_
 ·exact Lo
 ·exact⟨z,Ab _,rfl,by rw[Ay EB]at hA;exact hA⟩
 intro X5 g5 w5 O;revert O;revert g5;intro k O;clear z;obtain⟨z,hb,hr,hA⟩:=O;refine ws λ_ hp=>ws λ_ hg=>wr (dm (dm ?_));refine dv 79 4 (hv.ext z).sl (dp (Fb rfl rfl) (de hg (wi (λc3=>?_) λc3=>?_)))
 ·obtain⟨c,hk⟩:∃c,l[k]?=some c:=Fw;obtain⟨x,J⟩:∃x,l[k-1]?=some x:=Fw;have Z:=Xs3 hb J hk;refine EI (hp _ _ (ws λ_ hf=>EM (ws λ_ hc=>F9 (R:=ED) ED.refl (λ_ _ _=>ED.trans) EA [4,8] [(0,.p,false),(1,.p,false),(2,.p,false),(3,.p,false),(4,.l,false),(5,.p,false),(6,.p,false),(7,.p,false),(8,.l,false),(9,.x,true),(10,.p,false)] rfl EA EA (λw6 ha=>?_))));have x6:=EL ha;clear ha;have z:=z.trans x6
  iterate 2 refine dm ?_
  refine EW (v:=I ↑(k-1)) rfl (Gr rfl rfl (by unfold EU;omega)) (by show I _=I _;congr 1;omega) (di 79 4 (hv.ext z).sl rfl ((hv.ext z).lt J) (FW rfl (λw' hR=>Fe EA rfl rfl (((hv.ext z).ext hR).row J)) (dm (dm ?_))));refine di 79 4 (hv.ext z).sl rfl ((hv.ext z).lt hk) (FW rfl (λw' hR=>Fe EA rfl rfl (((hv.ext z).ext hR).row hk)) (cP (Ns x c _) RX.all λw7 x7=>?_));have z:=z.trans x7;refine dn (de hc ?_);refine wc (λc4=>?_) λc4=>?_
  ·refine ws λ_ hj=>wr (da (de hj (EJ ?_)));refine ro ?_;refine⟨?_,z⟩;simp only [BO]at c4;unfold GH;rw[if_pos hA,hr,Z,c4];rfl
  refine EI (hf _ _ (wr (dm ?_)));refine pa rfl rfl (da (EH (?_)));refine⟨k+1,Lo,⟨z,by omega,?_,hA⟩,by omega⟩;rw[hr,Z];simp at c4;rw[c4];rfl
 refine Fk (ht _ _ (ws λ_ hh=>wr (da (de hh (EJ ?_)))));refine ro ?_;refine⟨?_,z⟩;unfold GH;rw[if_pos hA,hr,Xvg EB];rfl
end Go.Proofs.YtiooodckiddpmaaGreatDoor
namespace Go.Proofs
open Go.Shelf
def Tryz.lays125_ren : Go.Shelf.Ren:=⟨λ|125=>204|128=>271|129=>272|n=>n,λ|46=>237|3=>3|51=>174|53=>236|4=>4|5=>5|9=>9|n=>n,λ|n=>n⟩
def Tryz.lays106_ren : Go.Shelf.Ren:=⟨λ|106=>166|213=>242|265=>298|n=>n,λ|9=>9|3=>3|n=>n,λ|n=>n⟩
theorem Tryz.lays106 : Go.Proofs.Lays.n106 Tryz.prog Tryz.lays106_ren:={
 mixed:=by kernel_rfl
 f106:=Tryz.func166.trans (congrArg some EA)
 f213:=Tryz.func242.trans (congrArg some EA)
 f265:=Tryz.func298.trans (congrArg some EA)
 t3:=Tryz.underlying3
 a3:=Tryz.isAgg3
 z3:=Tryz.sizeOf3
 v3:=Tryz.zeroValue3
 t9:=Tryz.underlying9
 a9:=Tryz.isAgg9
 z9:=Tryz.sizeOf9
 v9:=Tryz.zeroValue9 }
open Go.RowKit in
theorem Tryz.strings_Compare (a b:ByteArray)(w:World) :
 Calls Tryz.prog 166 #[.string a,.string b] w λe w'=>e=.returned (.int .i64 (Lib.compareBytes a.data.toList b.data.toList))/\w'=w:=Any.strings_Compare Tryz.lays106 a b w
def Tryz.lays122_ren : Go.Shelf.Ren:=⟨λ|122=>247|215=>304|n=>n,λ|3=>3|4=>4|n=>n,λ|n=>n⟩
def Tryz.laysM171_ren : Go.Shelf.Ren:=⟨λ|171=>106|243=>183|246=>254|283=>307|284=>308|285=>309|286=>310|129=>272|317=>329|318=>330|319=>331|320=>332|337=>338|338=>339|n=>n,λ|3=>3|9=>9|2=>2|4=>4|171=>350|0=>0|53=>236|37=>82|5=>5|173=>352|212=>366|51=>174|20=>20|213=>367|46=>237|232=>371|233=>372|n=>n,λ|17=>1|18=>2|19=>3|n=>n⟩
theorem Tryz.laysM171 : Go.Proofs.LaysM.n171 Tryz.prog Tryz.laysM171_ren:={
 mixed:=by kernel_rfl
 f129:=Tryz.func272.trans (congrArg some EA)
 f171:=Tryz.func106.trans (congrArg some EA)
 f243:=Tryz.func183.trans (congrArg some EA)
 f246:=Tryz.func254.trans (congrArg some EA)
 f283:=Tryz.func307.trans (congrArg some EA)
 f284:=Tryz.func308.trans (congrArg some EA)
 f285:=Tryz.func309.trans (congrArg some EA)
 f286:=Tryz.func310.trans (congrArg some EA)
 f317:=Tryz.func329.trans (congrArg some EA)
 f318:=Tryz.func330.trans (congrArg some EA)
 f319:=Tryz.func331.trans (congrArg some EA)
 f320:=Tryz.func332.trans (congrArg some EA)
 f337:=Tryz.func338.trans (congrArg some EA)
 f338:=Tryz.func339.trans (congrArg some EA)
 t0:=Tryz.underlying0
 a0:=Tryz.isAgg0
 z0:=Tryz.sizeOf0
 v0:=Tryz.zeroValue0
 t2:=Tryz.underlying2
 a2:=Tryz.isAgg2
 z2:=Tryz.sizeOf2
 v2:=Tryz.zeroValue2
 t3:=Tryz.underlying3
 a3:=Tryz.isAgg3
 z3:=Tryz.sizeOf3
 v3:=Tryz.zeroValue3
 t4:=Tryz.underlying4
 a4:=Tryz.isAgg4
 z4:=Tryz.sizeOf4
 v4:=Tryz.zeroValue4
 t5:=Tryz.underlying5
 a5:=Tryz.isAgg5
 z5:=Tryz.sizeOf5
 v5:=Tryz.zeroValue5
 t9:=Tryz.underlying9
 a9:=Tryz.isAgg9
 z9:=Tryz.sizeOf9
 v9:=Tryz.zeroValue9
 t20:=Tryz.underlying20
 a20:=Tryz.isAgg20
 z20:=Tryz.sizeOf20
 v20:=Tryz.zeroValue20
 t37:=Tryz.underlying82
 a37:=Tryz.isAgg82
 z37:=Tryz.sizeOf82
 v37:=Tryz.zeroValue82
 t46:=Tryz.underlying237
 a46:=Tryz.isAgg237
 z46:=Tryz.sizeOf237
 v46:=Tryz.zeroValue237
 t51:=Tryz.underlying174
 a51:=Tryz.isAgg174
 z51:=Tryz.sizeOf174
 v51:=Tryz.zeroValue174
 t53:=Tryz.underlying236
 a53:=Tryz.isAgg236
 z53:=Tryz.sizeOf236
 v53:=Tryz.zeroValue236
 t171:=Tryz.underlying350
 a171:=Tryz.isAgg350
 z171:=Tryz.sizeOf350
 v171:=Tryz.zeroValue350
 t173:=Tryz.underlying352
 a173:=Tryz.isAgg352
 z173:=Tryz.sizeOf352
 v173:=Tryz.zeroValue352
 t212:=Tryz.underlying366
 a212:=Tryz.isAgg366
 z212:=Tryz.sizeOf366
 v212:=Tryz.zeroValue366
 t213:=Tryz.underlying367
 a213:=Tryz.isAgg367
 z213:=Tryz.sizeOf367
 t232:=Tryz.underlying371
 a232:=Tryz.isAgg371
 z232:=Tryz.sizeOf371
 v232:=Tryz.zeroValue371
 t233:=Tryz.underlying372
 a233:=Tryz.isAgg372
 z233:=Tryz.sizeOf372
 v233:=Tryz.zeroValue372
 g17:=by kernel_rfl
 g18:=by kernel_rfl
 g19:=by kernel_rfl
 i0:=by kernel_rfl
 i2:=by kernel_rfl
 i3:=by kernel_rfl
 i4:=by kernel_rfl
 i5:=by kernel_rfl
 i9:=by kernel_rfl
 i20:=by kernel_rfl
 i37:=by kernel_rfl
 i46:=by kernel_rfl
 i51:=by kernel_rfl
 i53:=by kernel_rfl
 i171:=by kernel_rfl
 i173:=by kernel_rfl
 i212:=by kernel_rfl
 i232:=by kernel_rfl
 i233:=by kernel_rfl
 m17:=by kernel_rfl
 m18:=by kernel_rfl
 m19:=by kernel_rfl }
open Go.RowKit Go.Sort Go.Lib in
theorem Tryz.strconv_Itoa (n : Int) (h0 : -9223372036854775808 ≤ n) (h1 : n ≤ 9223372036854775807) (w : World) (htab : Lib.TabIs Tryz.prog w "internal/strconv.uint64pow10" .u64 Lib.pow10Tab) :
 Calls Tryz.prog 106 #[.int .i64 n] w λe w'=>e=.returned (.string ⟨(Lib.itoa n).toArray⟩)/\∃k os,w'=grow (w.drewN k) os:=Any.strconv_Itoa Tryz.laysM171 n h0 h1 w htab
def Tryz.lays99_ren : Go.Shelf.Ren:=⟨λ|99=>129|206=>200|n=>n,λ|9=>9|4=>4|3=>3|n=>n,λ|n=>n⟩
theorem Tryz.lays99 : Go.Proofs.Lays.n99 Tryz.prog Tryz.lays99_ren:={
 mixed:=by kernel_rfl
 f99:=Tryz.func129.trans (congrArg some EA)
 f206:=Tryz.func200.trans (congrArg some EA)
 t3:=Tryz.underlying3
 a3:=Tryz.isAgg3
 z3:=Tryz.sizeOf3
 v3:=Tryz.zeroValue3
 t4:=Tryz.underlying4
 a4:=Tryz.isAgg4
 z4:=Tryz.sizeOf4
 v4:=Tryz.zeroValue4
 t9:=Tryz.underlying9
 a9:=Tryz.isAgg9
 z9:=Tryz.sizeOf9
 v9:=Tryz.zeroValue9 }
open Go.RowKit Go.Lib in
theorem Tryz.strings_HasPrefix (s p:ByteArray)(w:World) :
 Calls Tryz.prog 129 #[.string s,.string p] w λe w'=>e=.returned (.bool (Lib.hasPrefix s.data.toList p.data.toList))/\w'=w:=Any.strings_HasPrefix Tryz.lays99 s p w
def Tryz.lays107_ren : Go.Shelf.Ren:=⟨λ|107=>171|108=>244|n=>n,λ|28=>159|3=>3|4=>4|0=>0|n=>n,λ|n=>n⟩
def Tryz.lays110_ren : Go.Shelf.Ren:=⟨λ|110=>130|109=>201|n=>n,λ|31=>58|9=>9|4=>4|3=>3|0=>0|n=>n,λ|n=>n⟩
theorem Tryz.lays110 : Go.Proofs.Lays.n110 Tryz.prog Tryz.lays110_ren:={
 mixed:=by kernel_rfl
 f109:=Tryz.func201.trans (congrArg some EA)
 f110:=Tryz.func130.trans (congrArg some EA)
 t0:=Tryz.underlying0
 a0:=Tryz.isAgg0
 z0:=Tryz.sizeOf0
 v0:=Tryz.zeroValue0
 t3:=Tryz.underlying3
 a3:=Tryz.isAgg3
 z3:=Tryz.sizeOf3
 v3:=Tryz.zeroValue3
 t4:=Tryz.underlying4
 a4:=Tryz.isAgg4
 z4:=Tryz.sizeOf4
 v4:=Tryz.zeroValue4
 t9:=Tryz.underlying9
 a9:=Tryz.isAgg9
 z9:=Tryz.sizeOf9
 v9:=Tryz.zeroValue9
 t31:=Tryz.underlying58
 a31:=Tryz.isAgg58
 z31:=Tryz.sizeOf58
 v31:=Tryz.zeroValue58 }
open Go.Lib in
theorem Tryz.slices_Contains_string (b off n c:Nat)(zs:List ByteArray)(x:ByteArray)(w:World)(hz:n<=zs.length)(hbig:n<=9223372036854775807)(hc:∀j,j<zs.length->w.cell? ⟨b,off+j,none⟩=some (.string (zs.getD j ByteArray.empty))) :
 Calls Tryz.prog 130 #[.slice (some ⟨b,off,none⟩) n c,.string x] w λe w'=>e=.returned (.bool (Lib.containsS (zs.take n) x))/\w'=w:=Any.slices_Contains_string Tryz.lays110 b off n c zs x w hz hbig hc
open Go.Lib in
theorem Tryz.slices_Contains_string_empty (a:Option Addr)(c:Nat)(x:ByteArray)(w:World) :
 Calls Tryz.prog 130 #[.slice a 0 c,.string x] w λe w'=>e=.returned (.bool false)/\w'=w:=Any.slices_Contains_string_empty Tryz.lays110 a c x w
def Tryz.laysSlJ14_ren : Go.Shelf.Ren:=⟨λ|14=>240|15=>290|n=>n,λ|26=>133|22=>82|3=>3|4=>4|0=>0|9=>9|20=>20|5=>5|n=>n,λ|n=>n⟩
theorem Tryz.laysSlJ14 : Go.Proofs.SlLaysJ.n14 Tryz.prog Tryz.laysSlJ14_ren:={
 mixed:=by kernel_rfl
 f14:=Tryz.func240.trans (congrArg some EA)
 f15:=Tryz.func290.trans (congrArg some EA)
 t0:=Tryz.underlying0
 a0:=Tryz.isAgg0
 z0:=Tryz.sizeOf0
 v0:=Tryz.zeroValue0
 t3:=Tryz.underlying3
 a3:=Tryz.isAgg3
 z3:=Tryz.sizeOf3
 v3:=Tryz.zeroValue3
 t4:=Tryz.underlying4
 a4:=Tryz.isAgg4
 z4:=Tryz.sizeOf4
 v4:=Tryz.zeroValue4
 t9:=Tryz.underlying9
 a9:=Tryz.isAgg9
 z9:=Tryz.sizeOf9
 v9:=Tryz.zeroValue9
 t20:=Tryz.underlying20
 a20:=Tryz.isAgg20
 z20:=Tryz.sizeOf20
 v20:=Tryz.zeroValue20
 t22:=Tryz.underlying82
 a22:=Tryz.isAgg82
 z22:=Tryz.sizeOf82
 v22:=Tryz.zeroValue82
 t26:=Tryz.underlying133
 a26:=Tryz.isAgg133
 z26:=Tryz.sizeOf133
 v26:=Tryz.zeroValue133
 t5:=Tryz.underlying5
 z5:=Tryz.sizeOf5
 i5:=by kernel_rfl }
open Go.RowKit Go.Lib in
theorem Tryz.bytes_Join_many (b o n c:Nat)(vs:List Value)(ls:List (List UInt8))(sv:Value)(sep:List UInt8)(w:World)(hn:ls.length=n)(h2:2<=n)(hP:Lib.PartsAt w ⟨b,o,none⟩ vs ls)(hcap:n<=c)(hS:Lib.HoldsBytes w sv sep)(hn47:n<=140737488355328)(hlen:Lib.lens ls+sep.length*(n-1)<=140737488355328) :
 Calls Tryz.prog 240 #[.slice (some ⟨b,o,none⟩) n c,sv] w λe w'=>∃v',e=.returned v'/\Lib.FreshBytes w.heap.size w' v' (Lib.join ls sep)/\Below w.heap.size w w':=Any.bytes_Join_many Tryz.laysSlJ14 b o n c vs ls sv sep w hn h2 hP hcap hS hn47 hlen
open Go.RowKit Go.Lib in
theorem Tryz.bytes_Join_none (p:Option Addr)(c:Nat)(sv:Value)(w:World) :
 Calls Tryz.prog 240 #[.slice p 0 c,sv] w λe w'=>e=.returned (.slice (some ⟨w.heap.size,0,none⟩) 0 0)/\w'=w.alloc (.cells #[] 5):=Any.bytes_Join_none Tryz.laysSlJ14 p c sv w
open Go.RowKit Go.Lib in
theorem Tryz.bytes_Join_one (b o c:Nat)(ad0:Addr)(c0:Nat)(l0:List UInt8)(sv:Value)(w:World)(hcell:w.cell? ⟨b,o,none⟩=some (.slice (some ad0) l0.length c0))(hc:∀(i:Nat) x,l0[i]?=some x->w.cell? (ad0.add i)=some (.int .u8 (x.toNat:Int)))(h0:0<l0.length)(hs:l0.length<=140737488355328) :
 Calls Tryz.prog 240 #[.slice (some ⟨b,o,none⟩) 1 c,sv] w λe w'=>∃v',e=.returned v'/\Lib.FreshBytes w.heap.size w' v' l0/\Below w.heap.size w w':=Any.bytes_Join_one Tryz.laysSlJ14 b o c ad0 c0 l0 sv w hcell hc h0 hs
open Go.RowKit Go.Lib in
theorem Tryz.bytes_Join_one_empty (b o c:Nat)(p0:Option Addr)(c0:Nat)(sv:Value)(w:World)(hcell:w.cell? ⟨b,o,none⟩=some (.slice p0 0 c0)) :
 Calls Tryz.prog 240 #[.slice (some ⟨b,o,none⟩) 1 c,sv] w λe w'=>e=.returned (.slice none 0 0)/\w'=w:=Any.bytes_Join_one_empty Tryz.laysSlJ14 b o c p0 c0 sv w hcell
def Tryz.laysSlE041_f102_ren : Go.Shelf.Ren:=⟨λ|41=>102|n=>n,λ|22=>153|23=>174|4=>4|n=>n,λ|n=>n⟩
end Go.Proofs
namespace Go.Vc
open Go.RowKit
section
variable {P:Program}{n:Nat}{E:Fh}{w:World}{v:Value}
theorem Xvh {fn:Func}{t s q:Nat}{u x:Value}{R:Ending->World->Prop}(hr:fn.results=#[.tmp t,.tmp s,.tmp q])(ht:AR t n=true)(hs:AR s n=true)(hq:AR q n=true)(hv:E t=v)(hu:E s=u)(hx:E q=x)(h:R (.returned (.tuple #[v,u,x])) w):Jt P fn n R .ret E w:=by
 have J:t<n:=by simpa [Bq]using ht
 have z:s<n:=by simpa [Bq]using hs
 have O:q<n:=by simpa [Bq]using hq
 refine⟨.tuple #[v,u,x],?_,h⟩;simp [results,hr,GU,J,hv,z,hu,O,hx]
theorem Ni {fn:Func}{t s q:Nat}{u x:Value}{R:Ending->World->Prop}(h:R (.returned (.tuple #[v,u,x])) w)(hr:fn.results=#[.tmp t,.tmp s,.tmp q]:=by rfl)(ht:AR t n=true:=by rfl)(hs:AR s n=true:=by rfl)(hq:AR q n=true:=by rfl)
 (hv:E t=v:=by conv=>lhs;whnf) (hu:E s=u:=by conv=>lhs;whnf) (hx:E q=x:=by conv=>lhs;whnf):Jt P fn n R .ret E w:=Xvh hr ht hs hq hv hu hx h
end
end Go.Vc
