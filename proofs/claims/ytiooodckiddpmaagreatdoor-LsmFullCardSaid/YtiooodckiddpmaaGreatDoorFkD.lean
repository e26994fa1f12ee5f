/-
 A part of the proof: BlB MemA SpBlk BkA BkB BkC BkD SpTbl TbA TbB VcR TbC MemB TbD SpBat.
-/
import Derived.Test.YtiooodckiddpmaaGreatDoorFkA
import Derived.Test.YtiooodckiddpmaaGreatDoorChecked
import Derived.KernelRfl
import Derived.Test.YtiooodckiddpmaaGreatDoorFkC
import Derived.Test.YtiooodckiddpmaaGreatDoorFkB
open Nat renaming le_refl->Aa,zero_le->Ad,le_trans->Ae,le_of_ble_eq_true->Ap,lt_of_lt_of_le->A0,lt_irrefl->A6,zero_add->A9,lt_of_lt_of_eq->AF,mod_lt->Bg,mod_eq_of_lt->B8,mul_le_mul_left->CD,zero_lt_one->DC
open List renaming length_append->Ab,take->Af,set->Ag,mem_singleton->Ah,drop->Ai,mem_cons->Aj,mem_of_getElem?->Ak,mem_cons_self->Al,mem_cons_of_mem->Am,getElem?_eq_some_iff->Ao,mem_map->Ar,getElem?_eq_getElem->Av,replicate->Aw,take_of_length_le->Ax,mem_append->Ay,mem_filter->Az,length_take->A4,eq_nil_of_length_eq_zero->A5,length->A7,append_assoc->AA,length_cons->AB,map_append->AC,flatMap_cons->AD,nil_append->AE,take_length->AK,append_nil->AP,take_append_drop->AT,all_eq_true->AU,getElem?_take->AV,flatMap_append->Bb,length_nil->Bc,length_drop->Bh,pairwise_append->Bs,filter_append->Bu,foldl_append->Bz,length_filter_le->B0,take_add_one->B4,any_eq_true->B6,foldl_cons->B7,getElem?_set_self->BB,range->BL,getD_eq_getElem?_getD->BQ,mem_iff_getElem?->BZ,drop_zero->Ca,flatMap_nil->Ce,drop_eq_nil_of_le->Cg,sum_append->Ch,take_succ_cons->Cr,takeWhile_append_dropWhile->C3,all_append->C6,replicate_succ->CE,drop_eq_getElem_cons->CI,getElem_mem->Dd,length_replicate->Df,mem_range->DD,range_succ->Ed,map_eq_cons_iff->Ee
open Bool renaming and_eq_true->Au,or_eq_true->BE,not_eq_true'->BO,true_and->Cu,false_eq_true->C7
open Decidable renaming of_not_not->AI
open BitVec renaming ofInt->AM,ofInt_natCast->CZ,toNat_ofNat->Da
open UInt8 renaming ofNat->AN,toBitVec_inj->DB
open Option renaming map_eq_some_iff->Bd
open List.Pairwise renaming nil->Bp
open Int renaming fdiv_eq_ediv_of_nonneg->CH
set_option maxRecDepth 100000
set_option maxHeartbeats 4000000
set_option linter.unusedVariables false
set_option linter.unusedSimpArgs false
namespace Go.Proofs.YtiooodckiddpmaaGreatDoor
open Go.Vc Go.Sp
attribute [local irreducible] W XW Dw Gm
theorem Xzy (x y z:UInt8)(h:x &&& z≠0):(x ||| y) &&& z≠0:=by
 intro e
 apply h
 have:((x ||| y) &&& z)=(x &&& z) ||| (y &&& z):=by
  apply DB.1;simp;ext i;simp;cases x.toBitVec[i]<;>cases y.toBitVec[i]<;>cases z.toBitVec[i]<;>rfl
 rw[this]at e;have e2:=congrArg UInt8.toBitVec e
 apply DB.1
 simp at e2 ⊢;exact e2.1
theorem Xzz (x z:UInt8)(hz:z≠0):(x ||| z) &&& z≠0:=by
 have:(x ||| z) &&& z=z:=by
  apply DB.1;simp;ext i;simp;intro h;exact .inr h
 rw[this];exact hz
theorem X5x (m:Nat)(h:m<8):AN (2 ^ m)≠0:=by
 match m,h with
 | 0,_|1,_|2,_|3,_|4,_|5,_|6,_|7,_=>decide
def IN (n:Nat):UInt8:=AN (2 ^ (n % 8))
def JN (b:EC)(n:Nat):EC:=b.set (n / 8) (b.getD (n / 8) 0 ||| IN n)
def J5 (b:EC)(n:Nat):Bool:=decide (b.getD (n / 8) 0 &&& IN n≠0)
def Nq (b:EC)(s:EC):EC:=(IU s (8*b.length)).foldl JN b
def HC (k:Nat):Nat:=max 8 ((10*k+7) / 8)
def Iw (keys:List EC):EC:=keys.foldl Nq (Aw (HC keys.length) 0)
def Jn (b:EC)(s:EC):Bool:=decide (b=[]) || (IU s (8*b.length)).all (J5 b)
theorem Ss (b:EC)(n:Nat):(JN b n).length=b.length:=by unfold JN;rw[List.length_set]
theorem Tq (l:List Nat)(b:EC):(l.foldl JN b).length=b.length:=by
 induction l generalizing b with
 | nil=>rfl
 | cons n r ih=>rw[B7,ih,Ss]
theorem R5 (b:EC)(s:EC):(Nq b s).length=b.length:=Tq _ _
theorem U4 (l:List EC)(b:EC):(l.foldl Nq b).length=b.length:=by
 induction l generalizing b with
 | nil=>rfl
 | cons n r ih=>rw[B7,ih,R5]
theorem LF (keys:List EC):(Iw keys).length=HC keys.length:=by unfold Iw;rw[U4,Df]
theorem Xz0 {b:EC}{n m:Nat}(h:J5 b n=true):J5 (JN b m) n=true:=by
 unfold J5 JN at *;rw[decide_eq_true_eq]at *
 by_cases e:m / 8=n / 8
 ·rw[e]
  by_cases hl:n / 8<b.length
  ·rw[BQ,BB hl];exact Xzy _ _ _ h
  ·rw[List.set_eq_of_length_le EA];exact h
 ·rw[BQ,List.getElem?_set_ne e,<-BQ];exact h
theorem Xz1 {b:EC}{n:Nat}(h:n / 8<b.length):J5 (JN b n) n=true:=by
 unfold J5 JN;rw[decide_eq_true_eq,BQ,BB h];exact Xzz _ _ (X5x _ (Bg _ EK))
theorem TA {l:List Nat}{b:EC}{n:Nat}(h:J5 b n=true):J5 (l.foldl JN b) n=true:=by
 induction l generalizing b with
 | nil=>exact h
 | cons m r ih=>exact ih (Xz0 h)
theorem Xv0 {l:List Nat}{b:EC}{n:Nat}(hn:n∈l)(h:n / 8<b.length):J5 (l.foldl JN b) n=true:=by
 induction l generalizing b with
 | nil=>cases hn
 | cons m r ih=>
  rcases Aj.1 hn with rfl|hn
  ·rw[B7];exact TA (Xz1 h)
  ·rw[B7];exact ih hn (by rw[Ss];exact h)
theorem Xv1 {l:List EC}{b:EC}{n:Nat}(h:J5 b n=true):J5 (l.foldl Nq b) n=true:=by
 induction l generalizing b with
 | nil=>exact h
 | cons m r ih=>exact ih (TA h)
theorem RT {s:EC}{m n:Nat}(hm:0<m)(h:n∈IU s m):n<m:=by
 unfold IU at h;obtain⟨i,_,rfl⟩:=Ar.1 h;exact Bg _ hm
theorem Xz2 {keys:List EC}{s:EC}(h:s∈keys):Jn (Iw keys) s=true:=by
 have J:0<HC keys.length:=by unfold HC;omega
 have key:∀(l:List EC) (b:EC),s∈l->0<b.length->∀n∈IU s (8*b.length),J5 (l.foldl Nq b) n=true:=by
  intro l
  induction l with
  | nil=>intro b h;cases h
  | cons k r ih=>
   intro b h z n hn;rw[B7];rcases Aj.1 h with rfl|h
   ·exact Xv1 (Xv0 hn (by have:=RT EA hn;omega))
   ·exact ih _ h (by rw[R5];exact z) n (by rw[R5];exact hn)
 unfold Jn;rw[BE,AU];refine .inr λn hn=>?_;rw[LF]at hn;exact key keys _ h (by rw[Df];exact J) n (by rw[Df];exact hn)
section
variable {P:Program}{E:Fg}{dd:Option Tmp}{ty:TypeId}{pos:String}{af:Array Edge}{g:Option (Nat×Bool)}{x y:Operand}{T U:TypeId}
theorem Re {a:Nat}{ky:IntKind}(hx:ev E x=I ↑a)(hy:ev E y=.int ky 3):PV P ⟨dd,.binOp .shr T x y U,ty,pos,af,g⟩ E (I ↑(a / 8)):=by
 have:=MT (P:=P) (dd:=dd) (ty:=ty) (pos:=pos) (af:=af) (g:=g) (T:=T) (U:=U) hx hy EK;rwa [show((a:Int)).fdiv (2 ^ min (3:Int).toNat IntKind.i64.bits)=((a / 8:Nat):Int) by
  rw[show(2:Int) ^ min (3:Int).toNat IntKind.i64.bits=8 by decide,CH _ EA];omega]at this
theorem T8 {a:Nat}{ky:IntKind}(ha:a<=1000000000000000000)(hx:ev E x=I ↑a)(hy:ev E y=.int ky 3):PV P ⟨dd,.binOp .shl T x y U,ty,pos,af,g⟩ E (I ↑(8*a)):=by
 have:=NH (P:=P) (dd:=dd) (ty:=ty) (pos:=pos) (af:=af) (g:=g) (T:=T) (U:=U) hx hy EK;rwa [show(a:Int)*2 ^ min (3:Int).toNat IntKind.i64.bits=((8*a:Nat):Int) by rw[show(2:Int) ^ min (3:Int).toNat IntKind.i64.bits=8 by decide];omega,KT (by unfold ET;omega)]at this
theorem VE {a:Nat}(ha:a<9223372036854775808)(hx:ev E x=I ↑a)(hy:ev E y=I 7):PV P ⟨dd,.binOp .and T x y U,ty,pos,af,g⟩ E (I ↑(a % 8)):=by
 have:=Lz (P:=P) (dd:=dd) (ty:=ty) (pos:=pos) (af:=af) (g:=g) (T:=T) (U:=U) (op:=.and) (.inl rfl) hx hy;have e:Kw .and .i64 (a:Int) 7=((a % 8:Nat):Int):=by
  show IntKind.i64.wrap (((AM 64 (a:Int) &&& AM 64 ((7:Nat):Int)).toNat:Nat):Int)=_;rw[CZ,CZ,BitVec.toNat_and,Da,Da,B8 EA,B8 EA,show a &&& 7=a % 8 from Nat.and_two_pow_sub_one_eq_mod a 3,KT (by unfold ET;omega)]
 rwa [e]at this
theorem Uc {n:Nat}{ky:IntKind}(hx:ev E x=.int .u8 1)(hy:ev E y=.int ky ((n % 8:Nat):Int)):PV P ⟨dd,.binOp .shl T x y U,ty,pos,af,g⟩ E (b8 (IN n)):=by
 have:=NH (P:=P) (dd:=dd) (ty:=ty) (pos:=pos) (af:=af) (g:=g) (T:=T) (U:=U) hx hy EA;have r:n % 8<8:=Bg _ EK;have e:IntKind.u8.wrap ((1:Int)*2 ^ min (((n % 8:Nat):Int)).toNat IntKind.u8.bits)=((IN n).toNat:Int):=by
  rw[N6];unfold IN
  generalize n % 8=m at r
  match m,r with
  | 0,_|1,_|2,_|3,_|4,_|5,_|6,_|7,_=>decide
 rwa [e]at this
theorem X5y {a:Nat}{ts:Array TypeId}(hx:ev E x=I 8)(hy:ev E y=I ↑a):PV P ⟨dd,.call { callee:=.builtin .max,args:=#[x,y],argTypes:=ts },ty,pos,af,g⟩ E (I ↑(max 8 a)):=by
 have:=Q4 (P:=P) (dd:=dd) (ty:=ty) (pos:=pos) (af:=af) (g:=g) (ts:=ts) hx hy;rwa [show max (8:Int) (a:Int)=((max 8 a:Nat):Int) by omega]at this
end
theorem Xv4 (m:Nat):(Aw m [Value.int .u8 0]).flatten=(Aw m (0:UInt8)).flatMap EP:=by
 induction m with
 | zero=>rfl
 | succ k ih=>rw[CE,CE,List.flatten_cons,AD,ih];rfl
theorem UI {q:List Nat}{i x:Nat}(h:q[i]?=some x):(FP q)[i]?=some (I ↑x):=by rw[List.getElem?_map,h];rfl
theorem Qg {b:EC}{i:Nat}{c:UInt8}(h:b[i]?=some c):b.getD i 0=c:=by rw[BQ,h];rfl
theorem X9h (b:EC)(v:Value)(s:EC)(w:World)(hv:EM EP 1 w v b)(hb:b.length<=1000000000)(hs:s.length<=1000000000) :
  Calls Tryz.prog 185 [v,S s].toArray w (Pure w (B (Jn b s))):=by
 refine cw Tryz.func185 ?_;have r:=EB.refl w;refine ws λ_ Z1=>wr (da (de Z1 (ws λ_ Z2=>ws λ_ Z3=>wr (dm ?_))));refine dv 5 1 (hv.ext r).sl (dp (G1 rfl rfl) (de Z3 (wi (λc1=>?_) λc1=>?_)))
 ·refine ws λ_ Z4=>wr (da (de Z4 (EH ?_)));refine ro ?_;have e:b=[]:=A5 EA;exact⟨by rw[e];rfl,r⟩
 have J:0<b.length:=by omega
 refine EG (Z2 _ _ (ws λ_ Z5=>ws λ_ Z6=>wr (dm (dm ?_))));refine dv 5 1 (hv.ext r).sl (dp (T8 EA rfl rfl) (cP (Wc s (8*b.length) _ hs EA EA) RX.all λw1 x1=>?_));have r:=r.trans x1;refine dm (de Z6 (EN ?_));refine Fk (G:=Nat) (λk=>[(0,v),(14,.agg ⟨FP (IU s (8*b.length))⟩),(15,I ↑k)]) (λk w'=>EB w w'/\k<=6/\((IU s (8*b.length)).take k).all (J5 b)=true) (λk=>6-k) 0 ?_ ?_ ?_
 ·exact Hj
 ·exact⟨r,Ad _,rfl⟩
 intro X2 g2 w2 z;revert z;revert g2;intro k z;clear r;obtain⟨r,hk1,hA⟩:=z;refine ws λ_ Z7=>wr (dp (Fa rfl rfl) (de Z7 (ws λ_ Z8=>wi (λc2=>?_) λc2=>?_)))
 ·obtain⟨x,hk⟩:∃x,(IU s (8*b.length))[k]?=some x:=⟨_,Av (by rw[Ob];omega)⟩;have hx8:=RT EA (Ak hk);obtain⟨c,hc⟩:∃c,b[x / 8]?=some c:=Fq;refine EG (Z8 _ _ (ws λ_ Z9=>EN (ws λ_ hg=>wr (dp (Rm (m:=6) (e:=3) E9 E9 rfl rfl EA (UI hk)) (da (de hg (ws λ_ Z=>?_)))))));refine F4 (R:=EB) EB.refl (λ_ _ _=>EB.trans) E9 [4] [(0,.p,false),(1,.p,false),(2,.p,false),(3,.p,false),(4,.l,false),(5,.p,false),(6,.p,false),(7,.p,false),(8,.p,false),(9,.p,false)] rfl E9 E9 (λw3 O=>?_);have x3:=EJ O;clear O;have r:=r.trans x3
  iterate 2 refine dm ?_
  refine dp (Re rfl rfl) (di 5 1 hv.sl rfl (hv.lt hc) (dL rfl (λ_ hR=>(((hv.ext (r.trans hR)).row hc).at0 rfl)) (dm ?_)));refine dp (VE EA rfl rfl) (dp (Uc rfl rfl) (dp (Ql rfl rfl) (dp (Qn (b:=0) rfl rfl) (de Z (wi (λc3=>?_) λc3=>?_)))))
  ·refine ws λ_ Y=>wr (da (de Y (EH ?_)));refine ro ?_;refine⟨?_,r⟩;have ha:¬ b=[]:=λe=>by rw[e]at J;simp at J
   have:Jn b s=false:=by
    unfold Jn;rw[decide_eq_false ha,Bool.false_or,<-Bool.not_eq_true,AU];intro h;have:=h x (Ak hk);unfold J5 at this;rw[Qg hc,decide_eq_true_eq]at this;exact this (by simpa using c3)
   rw[this]
  refine EG (Z9 _ _ (wr (pa rfl rfl (dm (EF (?_))))));refine⟨k+1,Hj,⟨r,by omega,?_⟩,by omega⟩;rw[Gs hk,C6,hA,List.all_cons,List.all_nil,Cu,Bool.and_true];unfold J5;rw[Qg hc];simpa using c3
 refine Ff (Z5 _ _ (ws λ_ hf=>wr (da (de hf (EH ?_)))));refine ro ?_;refine⟨?_,r⟩;rw[Ax (by rw[Ob];omega)]at hA;unfold Jn;rw[hA,Bool.or_true]
theorem VT (l:List EC)(v:Value)(w:World)(hv:EM FT 1 w v l)(hl:l.length<=1000000)(hs:∀s∈l,s.length<=1000000000) :
  Calls Tryz.prog 197 [v].toArray w (ER w (λu w'=>Vc.Own EP 1 5 w.heap.size w' u (Iw l))):=by
 refine cw Tryz.func197 ?_;have r:=EB.refl w;have hbn:HC l.length<=10000008:=by unfold HC;omega
 refine ws λ_ Z1=>wr (da (de Z1 (ws λ_ Z2=>wr (dm ?_))));refine dv 9 1 (hv.ext r).sl (dp (Ko rfl rfl (by unfold ET;omega)) (pa rfl rfl (EW (v:=I ↑((10*l.length+7) / 8)) rfl (Re (a:=10*l.length+7) rfl rfl) rfl (dp (X5y rfl rfl) (LS (e:=5) (sz:=1) (by':=1) (zs:=[.int .u8 0]) rfl E9 E9 E9 rfl rfl EA EA RX.all (λb1 w1 e1 x1 m1=>?_))))));have g1:=r.ge e1;have r:=r.trans x1;refine da (de Z2 (ws λ_ Z3=>ws λ_ Z4=>wr (dm ?_)));refine dv 9 1 (hv.ext r).sl (dm (de Z4 (EN ?_)));refine Fk (G:=Nat×EC) (λ(k,b)=>[(2,.slice none 0 0),(3,.slice (some ⟨b1,0,none⟩) (HC l.length) (HC l.length)),(15,v),(16,I ↑l.length),(17,I ↑k)]) (λ(k,b) w'=>EB w w'/\k<=l.length/\Vc.Own EP 1 5 w.heap.size w' (.slice (some ⟨b1,0,none⟩) (HC l.length) (HC l.length)) b/\b=(l.take k).foldl Nq (Aw (HC l.length) 0)) (λ(k,b)=>l.length-k) (0,Aw (HC l.length) 0) ?_ ?_ ?_
 ·exact FA
 ·exact⟨r,Ad _,m1.own (enc:=EP) (sz:=1) (l:=Aw (HC l.length) 0) g1 (Xv4 _) EE EQ (by simp;omega),rfl⟩
 intro X2 g2 w2 hh;obtain⟨k,b⟩:=g2;clear r m1;obtain⟨r,hk1,ho,hb⟩:=hh;refine ws λ_ Z5=>wr (dp (Fa rfl rfl) (de Z5 (ws λ_ Z6=>wi (λc1=>?_) λc1=>?_)))
 ·obtain⟨s,hk⟩:∃s,l[k]?=some s:=Fq;have z:b.length=HC l.length:=by rw[hb,U4,Df]
  refine EG (Z6 _ _ (ws λ_ Z7=>EN (ws λ_ Z8=>wr (di 9 1 (hv.ext r).sl rfl ((hv.ext r).lt hk) (dl rfl (((hv.ext r).row hk).at0 rfl) (da (de Z8 (ws λ_ Z9=>wr (dm (dm ?_))))))))));refine dv 5 1 (ho.arr EE).sl (dp (T8 EA rfl rfl) (cP (Wc s (8*b.length) _ (hs s (Ak hk)) (by unfold HC at z;omega) EA) RX.all λw3 x3=>?_));have ho:=ho.ext x3;have r:=r.trans x3;refine dm (de Z9 (EN ?_));refine Fk (G:=Nat×EC) (λ(j,J)=>[(2,.slice none 0 0),(3,.slice (some ⟨b1,0,none⟩) (HC l.length) (HC l.length)),(15,v),(16,I ↑l.length),(17,I ↑k),(25,.agg ⟨FP (IU s (8*b.length))⟩),(26,I ↑j)]) (λ(j,J) w'=>EB w w'/\j<=6/\Vc.Own EP 1 5 w.heap.size w' (.slice (some ⟨b1,0,none⟩) (HC l.length) (HC l.length)) J/\J=((IU s (8*b.length)).take j).foldl JN b) (λ(j,J)=>6-j) (0,b) ?_ ?_ ?_
  ·exact FQ
  ·exact⟨r,Ad _,ho,rfl⟩
  intro X4 g4 w4 ha;obtain⟨j,J⟩:=g4;clear r ho;obtain⟨r,hj1,ho,O⟩:=ha;refine ws λ_ hr=>wr (dp (Fa rfl rfl) (de hr (ws λ_ hp=>wi (λc2=>?_) λc2=>?_)))
  ·obtain⟨x,hj⟩:∃x,(IU s (8*b.length))[j]?=some x:=⟨_,Av (by rw[Ob];omega)⟩;have hclen:J.length=b.length:=by rw[O,Tq]
   have hx8:=RT (by unfold HC at z;omega) (Ak hj);obtain⟨c,hc⟩:∃c,J[x / 8]?=some c:=Fq;refine EG (hp _ _ (ws λ_ hf=>EN (ws λ_ hq=>wr (dp (Rm (m:=6) (e:=3) E9 E9 rfl rfl EA (UI hj)) (da (de hq ?_))))));refine F4 (R:=EB) EB.refl (λ_ _ _=>EB.trans) E9 [4] [(0,.p,false),(1,.p,false),(2,.p,false),(3,.p,false),(4,.l,false),(5,.p,false),(6,.p,false),(7,.p,false),(8,.p,false),(9,.p,false),(10,.x,true)] rfl E9 E9 (λw5 Z=>?_);have x5:=EJ Z;clear Z;have ho:=ho.ext x5;have r:=r.trans x5
   iterate 2 refine dm ?_
   refine dp (Re rfl rfl) (di 5 1 (ho.arr EE).sl rfl ((ho.arr EE).lt hc) (dL rfl (λ_ hR=>((((ho.arr EE).ext hR).row hc).at0 rfl)) (dm ?_)));refine dp (VE EA rfl rfl) (dp (Uc rfl rfl) (dp (UN rfl rfl) (EW (v:=ED b1 (x / 8*1+0)) rfl (HM (e:=5) (k:=1) E9 ho.sl rfl rfl EA) (by show ED b1 (0+x / 8*1)=_;rw[A9];rfl) (H5 (enc:=EP) (sz:=1) (i:=x / 8) (j:=0) (x:=c ||| IN x) (vs:=[b8 (c ||| IN x)]) EE rfl ho rfl rfl rfl E9 EA rfl (Aa 1) (by intro v hv;rw[Ah.1 hv];rfl) (.inl rfl) (λw6 x6 xs6 Y=>?_)))));have r:=r.own x6 (λi hi=>(ho.lt i hi).1);have ho:=Y;refine de hf (wr (pa rfl rfl (dm (EF (?_)))));refine⟨(j+1,J.set (x / 8) (c ||| IN x)),FQ,⟨r,by omega,ho,?_⟩,by simp only [];omega⟩;rw[Gs hj,Bz,<-O];show _=JN J x;unfold JN;rw[Qg hc]
  refine Ff (Z7 _ _ (wr (pa rfl rfl (dm (EF (?_))))));refine⟨(k+1,J),FA,⟨r,by omega,ho,?_⟩,by simp only [];omega⟩;rw[Gs hk,Bz,<-hb,O,Ax (by rw[Ob];omega)];rfl
 refine Ff (Z3 _ _ (ws λ_ hg=>wr (dm (da (de hg (EH ?_))))));refine ro ?_;rw[Ax EA]at hb;exact⟨_,rfl,r,by rw[hb]at ho;exact ho⟩
theorem MS (a b:Cell)(w:World) :
  Calls Tryz.prog 99 [a.v,b.v].toArray w (Pure w (B (EZ a b))):=by
 refine cw Tryz.func99 ?_;have r:=EB.refl w;refine ws λ_ Z1=>wr (Gc rfl rfl rfl RX.all (λb1 w1 e1 Y z=>?_));have g1:=r.ge e1;have r:=r.trans Y;refine Gc rfl rfl rfl RX.all (λb2 w2 e2 O J=>?_);have g2:=r.ge e2;have n2_1:=z.ltb e2;have z:=z.ext O;have r:=r.trans O;refine da (de Z1 (ws λ_ Z2=>ws λ_ Z3=>wr ?_));refine df 0 rfl (dl rfl (z.at rfl) (df 0 rfl (dl rfl (J.at rfl) (dp (LR rfl rfl) (de Z3 (wi (λZ=>?_) λZ=>?_))))))
 ·refine ws λ_ Z4=>wr (df 0 rfl (dl rfl (z.at rfl) (df 0 rfl (dl rfl (J.at rfl) (dp (Nf rfl rfl) (da (de Z4 (EH ?_))))))));refine ro ?_;refine⟨?_,r⟩;simp [EZ, *]
 refine EG (Z2 _ _ (ws λ_ Z5=>wr (df 3 rfl (dl rfl (z.at rfl) (df 3 rfl (dl rfl (J.at rfl) (dp (FY rfl rfl) (da (de Z5 (EH ?_))))))))));refine ro ?_;refine⟨?_,r⟩;simp [EZ, *]
theorem Qk (c:Cell)(w:World) :
  Calls Tryz.prog 153 [c.v].toArray w (Pure w (B (Ge c))):=by
 refine cw Tryz.func153 ?_;have r:=EB.refl w;refine ws λ_ Z1=>wr (Gc rfl rfl rfl RX.all (λb1 w1 e1 O z=>?_));have g1:=r.ge e1;have r:=r.trans O;refine da (de Z1 (ws λ_ J=>wr ?_));refine df 0 rfl (dl rfl (z.at rfl) (dt rfl (dp (IB rfl rfl) (dm ?_))));refine Fz 7 rfl (λY=>?_) (λY=>?_)
 ·refine df 0 rfl (dl rfl (z.at rfl) (dt rfl (dp (IM rfl rfl) (EO ?_))));refine dm ?_;refine Fz 13 rfl (λc2=>?_) (λc2=>?_)
  ·refine df 1 rfl (dl rfl (z.at rfl) (dt rfl (dp (IM rfl rfl) (EO ?_))));refine dm ?_;refine Fz 19 rfl (λZ=>?_) (λZ=>?_)
   ·refine df 2 rfl (dl rfl (z.at rfl) (dn (dm ?_)));refine I8 23 rfl (λc4=>?_) (λc4=>?_)
    ·refine dk (dk (dk (EO ?_)));refine EO ?_;refine dm ?_;refine df 3 rfl (dl rfl (z.at rfl) (dp (IB rfl rfl) (EO ?_)));refine dm ?_;refine Fz 34 rfl (λc5=>?_) (λc5=>?_)
     ·refine df 3 rfl (dl rfl (z.at rfl) (dp (IM rfl rfl) (EO ?_)));refine da (de J (EH ?_));refine ro ?_;refine⟨?_,r⟩;simp only [Ending.returned.injEq,Value.bool.injEq];simp [Ge, *];omega
     refine dk (dk (dk (EO ?_)));refine da (de J (EH ?_));refine ro ?_;refine⟨?_,r⟩;simp only [Ending.returned.injEq,Value.bool.injEq];simp [Ge, *]
    refine df 1 rfl (dl rfl (z.at rfl) (dp (Mh rfl rfl) (EO ?_)));refine EO ?_;refine dm ?_;refine Fz 29 rfl (λc6=>?_) (λc6=>?_)
    ·refine df 3 rfl (dl rfl (z.at rfl) (dp (IB rfl rfl) (EO ?_)));refine dm ?_;refine Fz 34 rfl (λc7=>?_) (λc7=>?_)
     ·refine df 3 rfl (dl rfl (z.at rfl) (dp (IM rfl rfl) (EO ?_)));refine da (de J (EH ?_));refine ro ?_;refine⟨?_,r⟩;simp only [Ending.returned.injEq,Value.bool.injEq];simp [Ge, *];omega
     refine dk (dk (dk (EO ?_)));refine da (de J (EH ?_));refine ro ?_;refine⟨?_,r⟩;simp only [Ending.returned.injEq,Value.bool.injEq];simp [Ge, *]
    refine dk (dk (dk (EO ?_)));refine dm ?_;refine dk (dk (dk (EO ?_)));refine da (de J (EH ?_));refine ro ?_;refine⟨?_,r⟩;simp only [Ending.returned.injEq,Value.bool.injEq];simp [Ge, *]
   refine dk (dk (dk (dk (dk (dk (dk (dk (EO ?_))))))));refine dm ?_;refine dk (dk (dk (EO ?_)));refine dm ?_;refine dk (dk (dk (EO ?_)));refine da (de J (EH ?_));refine ro ?_;refine⟨?_,r⟩;simp only [Ending.returned.injEq,Value.bool.injEq];simp [Ge, *];omega
  refine dk (dk (dk (dk (EO ?_))));refine dm ?_;refine dk (dk (dk (dk (dk (dk (dk (dk (EO ?_))))))));refine dm ?_;refine dk (dk (dk (EO ?_)));refine dm ?_;refine dk (dk (dk (EO ?_)));refine da (de J (EH ?_));refine ro ?_;refine⟨?_,r⟩;simp only [Ending.returned.injEq,Value.bool.injEq];simp [Ge, *];omega
 refine dk (dk (dk (dk (EO ?_))));refine dm ?_;refine dk (dk (dk (dk (EO ?_))));refine dm ?_;refine dk (dk (dk (dk (dk (dk (dk (dk (EO ?_))))))));refine dm ?_;refine dk (dk (dk (EO ?_)));refine dm ?_;refine dk (dk (dk (EO ?_)));refine da (de J (EH ?_));refine ro ?_;refine⟨?_,r⟩;simp only [Ending.returned.injEq,Value.bool.injEq];simp [Ge, *];omega
theorem QI (c:Cell)(w:World)(hk:c.key.length<=1000000000)(hv:c.val.length<=1000000000) :
  Calls Tryz.prog 169 [c.v].toArray w (Pure w (I (Gn c))):=by
 refine cw Tryz.func169 ?_;have r:=EB.refl w;refine ws λ_ Y=>wr (Gc rfl rfl rfl RX.all (λb1 w1 e1 O z=>?_));have g1:=r.ge e1;have r:=r.trans O;refine da (de Y (ws λ_ J=>wr ?_));refine df 0 rfl (dl rfl (z.at rfl) (dt rfl (df 1 rfl (dl rfl (z.at rfl) (dt rfl (pa rfl rfl (pa rfl rfl (da (de J (EH ?_))))))))));refine ro ?_;refine⟨?_,r⟩;simp [Gn]
end Go.Proofs.YtiooodckiddpmaaGreatDoor
namespace Go.Sp
open Go.Vc (EC)
def Jh : EC->EC->Nat
 | a :: r,b :: s=>if a=b then Jh r s+1 else 0
 | _,_=>0
theorem Qw : ∀(a b:EC),Jh a b<=a.length/\Jh a b<=b.length/\a.take (Jh a b)=b.take (Jh a b)
 | [],b=>by simp [Jh]
 | a :: r,[]=>by simp [Jh]
 | a :: r,b :: s=>by
  have:=Qw r s;unfold Jh;split
  ·rename_i h;subst h;simp only [AB,Cr];exact⟨by omega,by omega,by rw[this.2.2]⟩
  ·simp
theorem Xnr {a b:EC}{k:Nat}{x y:UInt8}(hx:a[k]?=some x)(hy:b[k]?=some y):Jh (a.drop k) (b.drop k)=if x=y then Jh (a.drop (k+1)) (b.drop (k+1))+1 else 0:=by
 obtain⟨h1,rfl⟩:=Ao.1 hx;obtain⟨h2,rfl⟩:=Ao.1 hy;rw[CI h1,CI h2];rfl
theorem S5 {a b:EC}{k:Nat}(h:a.length<=k\/b.length<=k):Jh (a.drop k) (b.drop k)=0:=by
 rcases h with h|h
 ·rw[Cg h];cases b.drop k<;>rfl
 ·rw[Cg h];cases a.drop k<;>rfl
def JI : List Cell->Bool
 | a :: b :: r=>EZ a b && JI (b :: r)
 | _=>true
def G8 (l:List Cell):Int:=if(l.all Ge)=true then(if JI l=true then 0 else 11)else 1
theorem T0 {l:List Cell}(h:JI l=true){k:Nat}{a b:Cell}(ha:l[k]?=some a)(hb:l[k+1]?=some b):EZ a b=true:=by
 induction l generalizing k with
 | nil=>cases ha
 | cons x r ih=>
  cases r with
  | nil=>simp at hb
  | cons y r=>
   unfold JI at h;rw[Au]at h
   cases k with
   | zero=>simp at ha hb;subst ha hb;exact h.1
   | succ k=>exact ih h.2 (by simpa using ha) (by simpa using hb)
theorem Xz3 {l:List Cell}(h:∀(k:Nat) (a b:Cell),l[k]?=some a->l[k+1]?=some b->EZ a b=true):JI l=true:=by
 induction l with
 | nil=>rfl
 | cons x r ih=>
  cases r with
  | nil=>rfl
  | cons y r=>
   unfold JI;rw[h 0 x y rfl rfl,Cu];exact ih (λk a b J z=>h (k+1) a b (by simpa using J) (by simpa using z))
theorem Ki {l:List Cell} : G8 l=0↔(∀c∈l,Ge c=true)/\JI l=true:=by
 unfold G8;split
 ·rename_i h;rw[AU]at h;split
  ·rename_i h2;exact⟨λ_=>⟨h,h2⟩,λ_=>rfl⟩
  ·rename_i h2;exact⟨λe=>by simp at e,λe=>absurd e.2 h2⟩
 ·rename_i h;exact⟨λe=>by simp at e,λe=>absurd (AU.2 e.1) h⟩
def Kc (d:Bool):Nat:=if d then 1 else 0
def J6 (n:Nat)(c:Cell):EC:=EV n++Fp (c.key.drop n)++(EV c.seq.toNat++EV (Kc c.del))++(if c.del then[]else Fp c.val)
def Hb (l:List Cell)(k:Nat):Nat:=if k % 4=0 then 0 else Jh (l[k-1]?.getD Cell.zero).key (l[k]?.getD Cell.zero).key
def Jv (l:List Cell)(k:Nat):EC:=J6 (Hb l k) (l[k]?.getD Cell.zero)
def GU (l:List Cell):EC:=(BL l.length).flatMap (Jv l)
def HQ (l:List Cell)(k:Nat):EC:=((BL l.length).drop k).flatMap (Jv l)
theorem X9i (l:List Cell):HQ l 0=GU l:=rfl
theorem QV {l:List Cell}{k:Nat}(h:k<l.length):HQ l k=Jv l k++HQ l (k+1):=by
 unfold HQ;rw[CI (by simpa using h),AD];simp
theorem RC {l:List Cell}{k:Nat}(h:l.length<=k):HQ l k=[]:=by
 unfold HQ;rw[Cg (by simpa using h)];rfl
theorem PT {l:List Cell}{k:Nat}(h:k<l.length):(BL (k+1)).flatMap (Jv l)=(BL k).flatMap (Jv l)++Jv l k:=by
 rw[Ed,Bb];simp
theorem UL {l:List Cell}{k:Nat}{c:Cell}(h:l[k]?=some c):Hb l k<=c.key.length:=by
 unfold Hb;rw[h];split
 ·omega
 ·exact(Qw _ _).2.1
theorem Xv8 {l:List Cell}{k:Nat}{c:Cell}(h:l[k]?=some c):∀p:EC,p=(if k=0 then[]else(l[k-1]?.getD Cell.zero).key)->Hb l k<=p.length/\p.take (Hb l k)++c.key.drop (Hb l k)=c.key:=by
 intro p r;unfold Hb;rw[h];split
 ·rename_i h4;simp
 ·rename_i h4;rw[if_neg (by rintro rfl;simp at h4)]at r;subst r;have:=Qw (l[k-1]?.getD Cell.zero).key c.key;simp only [Option.getD_some];exact⟨this.1,by rw[this.2.2,AT]⟩
theorem Xv9 (n:Nat){c:Cell}(h:Ge c=true):(J6 n c).length<=50+c.key.length+c.val.length:=by
 unfold J6 Fp;have h1:=Gd n;have h2:=Gd (c.key.drop n).length;have h3:=Gd c.seq.toNat;have h4:=Gd (Kc c.del);have h5:=Gd c.val.length;split<;>simp only [Ab,Bh,Bc]at *<;>omega
theorem U5 (n:Nat)(c:Cell):1<=(J6 n c).length:=by
 unfold J6 EV;have:1<=(GK 10 n).length:=Nx 9 n;simp only [Ab];omega
theorem Rr {l:List Cell}(h:∀c∈l,Ge c=true)(k:Nat)(hk:k<=l.length):((BL k).flatMap (Jv l)).length<=20600*k:=by
 induction k with
 | zero=>simp
 | succ k ih=>
  rw[PT EA,Ab];have:=ih EA;have r:l[k]?=some l[k]:=Av EA;have hi:=h l[k] (Dd ..);have:=Xv9 (Hb l k) hi;have e:Jv l k=J6 (Hb l k) l[k]:=by unfold Jv;rw[r];rfl
  simp only [Ge,Au,decide_eq_true_eq]at hi;rw[e];omega
theorem OH {l:List Cell}(h:∀c∈l,Ge c=true):(GU l).length<=20600*l.length:=Rr h l.length (Aa _)
end Go.Sp
namespace Go.Proofs.YtiooodckiddpmaaGreatDoor
open Go.Vc Go.Sp
attribute [local irreducible] W XW Dw Gm
theorem Xtd {l:List Cell}{k:Nat}{a b:Cell}(hk:1<=k)(h1:l[k-1]?=some a)(h2:l[k]?=some b):JI (l.drop (k-1))=(EZ a b && JI (l.drop k)):=by
 obtain⟨i,rfl⟩:∃i,k=i+1:=⟨k-1,by omega⟩;simp only [Nat.add_sub_cancel]at *;rw[HY h1,HY h2];rfl
theorem Xwa {l:List Cell}{k:Nat}(h:l.length<=k):JI (l.drop (k-1))=true:=by
 have r:(l.drop (k-1)).length<=1:=by rw[Bh];omega
 match hd:l.drop (k-1),r with
 | [],_=>rfl
 | [a],_=>rfl
theorem Xz4 {l:List Cell}{k:Nat}{c:Cell}(h:l[k]?=some c):(l.take (k+1)).all Ge=((l.take k).all Ge && Ge c):=by
 rw[Gs h,C6];simp
theorem X5z {l:List Cell}{k:Nat}{c:Cell}(h:l[k]?=some c)(hc:Ge c=false):G8 l=1:=by
 unfold G8;rw[if_neg];intro h2;rw[AU]at h2;rw[h2 c (Ak h)]at hc
 cases hc
theorem JM {c:Cell}(h:Ge c=true):c.key.length<=4096/\c.val.length<=16384/\1<=c.key.length/\1<=c.seq/\c.seq<=1099511627776/\(c.del=true->c.val=[]):=by
 simp only [Ge,Au,BE,decide_eq_true_eq]at h;refine⟨by omega,by omega,by omega,by omega,by omega,λhd=>?_⟩;obtain⟨⟨⟨_,h4⟩,_⟩,_⟩:=h;rcases h4 with h4|h4
 ·rw[hd]at h4;cases h4
 ·exact h4
theorem VB {n:Int}(h:1<=n)(h2:n<=1099511627776):Ha n=n.toNat:=by unfold Ha;omega
theorem Xz5 (a b:EC)(w:World)(ha:a.length<=1000000000)(hb:b.length<=1000000000) :
  Calls Tryz.prog 300 [S a,S b].toArray w (Pure w (I ↑(Jh a b))):=by
 refine cw Tryz.func300 ?_;have z:=EB.refl w;refine ws λ_ Z1=>wr (da (de Z1 (ws λ_ Z2=>wr (da (de Z2 (ws λ_ Z3=>EN ?_))))));refine Fk (G:=Nat) (λk=>[(0,S a),(1,S b),(4,I 0),(5,I ↑k)]) (λk w'=>EB w w'/\k<=a.length/\k<=b.length/\Jh (a.drop k) (b.drop k)+k=Jh a b) (λk=>a.length-k) 0 ?_ ?_ ?_
 ·exact FU
 ·exact⟨z,Ad _,Ad _,rfl⟩
 intro X1 g1 w1 J;revert J;revert g1;intro k J;clear z;obtain⟨z,hka,hkb,r⟩:=J;refine ws λ_ Z4=>ws λ_ Z5=>F4 (R:=EB) EB.refl (λ_ _ _=>EB.trans) E9 [] [(0,.p,false),(1,.p,false),(2,.p,false),(3,.p,false),(4,.p,false),(5,.p,false),(6,.p,false),(7,.p,false),(8,.p,false),(9,.p,false),(10,.p,false),(11,.p,false),(12,.p,false),(13,.p,false),(14,.p,false),(15,.p,false),(16,.p,false),(17,.p,false),(18,.p,false)] rfl E9 E9 (λw2 O=>?_);have x2:=EJ O;clear O;have z:=z.trans x2
 iterate 2 refine dm ?_
 refine dt rfl (dp (Fa rfl rfl) (dm ?_));refine Fz 10 rfl (λc1=>?_) (λc1=>?_)
 ·iterate 2 refine dm ?_
  refine dt rfl (dp (Fa rfl rfl) (EO ?_));refine dm ?_;refine Fz 16 rfl (λc2=>?_) (λc2=>?_)
  ·obtain⟨x,hk1⟩:∃x,a[k]?=some x:=Fq;obtain⟨y,hk2⟩:∃y,b[k]?=some y:=Fq;have Y:=Xnr hk1 hk2
   iterate 2 refine dm ?_
   refine dp (RB E9 rfl rfl hk1) (dm (dm ?_));refine dp (RB E9 rfl rfl hk2) (dp (Qn rfl rfl) (EO (de Z5 ?_)));refine wi (λZ=>?_) λZ=>?_
   ·refine EG (Z4 _ _ (EN (wr (dm ?_))));refine pa rfl rfl (da (EF (?_)));refine⟨k+1,FU,⟨z,by omega,by omega,?_⟩,by omega⟩;rw[Y,if_pos (by simpa using Z)]at r;omega
   refine Ff (Z3 _ _ (ws λ_ Z6=>wr (dm (da (de Z6 (EH ?_))))));refine ro ?_;refine⟨?_,z⟩;rw[Y,if_neg (by simpa using Z)]at r;rw[<-r,A9]
  refine dk (dk (dk (dk (dk (dk (dk (EO (de Z5 ?_))))))));refine GB rfl (Ff (Z3 _ _ (ws λ_ Z7=>wr (dm (da (de Z7 (EH ?_)))))));refine ro ?_;refine⟨?_,z⟩;rw[S5 (.inr EA)]at r;rw[<-r,A9]
 refine dk (dk (dk (dk (EO ?_))));refine dm ?_;refine dk (dk (dk (dk (dk (dk (dk (EO (de Z5 ?_))))))));refine GB rfl (Ff (Z3 _ _ (ws λ_ Z8=>wr (dm (da (de Z8 (EH ?_)))))));refine ro ?_;refine⟨?_,z⟩;rw[S5 (.inl EA)]at r;rw[<-r,A9]
theorem X9j (d:Bool)(w:World) :
  Calls Tryz.prog 301 [B d].toArray w (Pure w (I ↑(Kc d))):=by
 refine cw Tryz.func301 ?_;have z:=EB.refl w;refine ws λ_ Z1=>wr (da (de Z1 (ws λ_ J=>ws λ_ Y=>wr (dm (de Y ?_)))));refine wc (λr=>?_) λr=>?_
 ·refine ws λ_ O=>wr (da (de O (EH ?_)));refine ro ?_;refine⟨?_,z⟩;rw[r];rfl
 refine EG (J _ _ (ws λ_ Z=>wr (da (de Z (EH ?_)))));refine ro ?_;refine⟨?_,z⟩;rw[r];rfl
theorem X50 (l:List Cell)(v:Value)(w:World)(hv:EM Cell.cs 4 w v l)(hl:l.length<=30000) :
  Calls Tryz.prog 299 [v].toArray w (Pure w (I (G8 l))):=by
 refine cw Tryz.func299 ?_;have r:=EB.refl w;refine ws λ_ Z1=>wr (da (de Z1 (ws λ_ Z2=>ws λ_ Z3=>wr (dm ?_))));refine dv 79 4 (hv.ext r).sl (dm (de Z3 (EN ?_)));refine Fk (G:=Nat) (λk=>[(0,v),(6,v),(7,I ↑l.length),(8,I ↑k)]) (λk w'=>EB w w'/\k<=l.length/\(l.take k).all Ge=true) (λk=>l.length-k) 0 ?_ ?_ ?_
 ·exact FU
 ·exact⟨r,Ad _,rfl⟩
 intro X1 g1 w1 O;revert O;revert g1;intro k O;clear r;obtain⟨r,z,hA⟩:=O;refine ws λ_ Z4=>wr (dp (Fa rfl rfl) (de Z4 (ws λ_ Z5=>wi (λc1=>?_) λc1=>?_)))
 ·obtain⟨c,hk⟩:∃c,l[k]?=some c:=Fq;refine EG (Z5 _ _ (ws λ_ Z6=>EN (ws λ_ Z7=>wr (di 79 4 (hv.ext r).sl rfl ((hv.ext r).lt hk) (dq (Fb E9 rfl rfl ((hv.ext r).row hk)) (FG (cs:=[S [],S [],B false,.int .i64 0]) rfl E9 RX.all (λb1 w2 e1 x2 m1=>?_)))))));have g1:=r.ge e1;have r:=r.trans x2;refine FM m1 (λw3 x3 xs3 m1=>?_);dsimp only [Fe,Ag,Af,Ai]at m1;have r:=r.o1 x3;refine de Z7 (ws λ_ Z8=>wr (dq (Fb (k:=4) E9 rfl rfl m1.row) (cP (Qk c _) RX.all λw4 x4=>?_)));have r:=r.trans x4;refine dn (de Z8 ?_);refine wc (λc2=>?_) λc2=>?_
  ·refine ws λ_ Z9=>wr (da (de Z9 (EH ?_)));refine ro ?_;refine⟨?_,r⟩;rw[X5z hk (by simpa using c2)]
  refine EG (Z6 _ _ (wr (pa rfl rfl (dm (EF (?_))))));refine⟨k+1,FU,⟨r,by omega,?_⟩,by omega⟩;rw[Xz4 hk,hA];simpa using c2
 refine Ff (Z2 _ _ (ws λ_ ht=>ws λ_ hg=>wr (da (de hg (EN ?_)))));refine Fk (G:=Nat) (λk=>[(0,v),(5,I ↑k)]) (λk w'=>EB w w'/\1<=k/\JI l=JI (l.drop (k-1))/\l.all Ge=true) (λk=>l.length-k) 1 ?_ ?_ ?_
 ·exact KQ
 ·exact⟨r,Aa _,rfl,by rw[Ax EA]at hA;exact hA⟩
 intro X5 g5 w5 J;revert J;revert g5;intro k J;clear r;obtain⟨r,hq,hr,hA⟩:=J;refine ws λ_ hc=>ws λ_ hh=>wr (dm (dm ?_));refine dv 79 4 (hv.ext r).sl (dp (Fa rfl rfl) (de hh (wi (λc3=>?_) λc3=>?_)))
 ·obtain⟨c,hk⟩:∃c,l[k]?=some c:=Fq;obtain⟨x,z⟩:∃x,l[k-1]?=some x:=Fq;have ha:=Xtd hq z hk;refine EG (hc _ _ (ws λ_ hf=>EN (ws λ_ hj=>F4 (R:=EB) EB.refl (λ_ _ _=>EB.trans) E9 [4,8] [(0,.p,false),(1,.p,false),(2,.p,false),(3,.p,false),(4,.l,false),(5,.p,false),(6,.p,false),(7,.p,false),(8,.l,false),(9,.x,true),(10,.p,false)] rfl E9 E9 (λw6 Z=>?_))));have x6:=EJ Z;clear Z;have r:=r.trans x6
  iterate 2 refine dm ?_
  refine EW (v:=I ↑(k-1)) rfl (Ga rfl rfl (by unfold ET;omega)) (by show I _=I _;congr 1;omega) (di 79 4 (hv.ext r).sl rfl ((hv.ext r).lt z) (FK rfl (λw' hR=>Fb E9 rfl rfl (((hv.ext r).ext hR).row z)) (dm (dm ?_))));refine di 79 4 (hv.ext r).sl rfl ((hv.ext r).lt hk) (FK rfl (λw' hR=>Fb E9 rfl rfl (((hv.ext r).ext hR).row hk)) (cP (MS x c _) RX.all λw7 x7=>?_));have r:=r.trans x7;refine dn (de hj ?_);refine wc (λY=>?_) λY=>?_
  ·refine ws λ_ hp=>wr (da (de hp (EH ?_)));refine ro ?_;refine⟨?_,r⟩;simp only [BO]at Y;unfold G8;rw[if_pos hA,hr,ha,Y];rfl
  refine EG (hf _ _ (wr (dm ?_)));refine pa rfl rfl (da (EF (?_)));refine⟨k+1,KQ,⟨r,by omega,?_,hA⟩,by omega⟩;rw[hr,ha];simp at Y;rw[Y];rfl
 refine Ff (ht _ _ (ws λ_ hb=>wr (da (de hb (EH ?_)))));refine ro ?_;refine⟨?_,r⟩;unfold G8;rw[if_pos hA,hr,Xwa EA];rfl
theorem PI {w:World}{v v2:Value}{bw b:Nat}(hg:GO w v v2)(h:¬ Hq bw v b)(hlt:b<w.heap.size):¬ Hq bw v2 b:=λh2=>h (Pd hg h2 hlt)
theorem Nh {A:EC}{n:Nat}(h:n<=4611686018427387904):A++[(n:Int)].flatMap FX=A++EV n:=by simp [PH h]
theorem Ybj {A:EC}{s:Int}{g:Nat}(h1:1<=s)(h2:s<=1099511627776)(h:g<=4611686018427387904):A++[s,(g:Int)].flatMap FX=A++(EV s.toNat++EV g):=by
 simp only [AD,Ce,AP,PH h];unfold FX;rw[VB h1 h2]
theorem Js {A p:EC}{v:Value} : A++List.flatMap Fp (List.map (λq:Value×EC=>q.2) [(v,p)])=A++Fp p:=by simp
theorem Rc (d:Bool):Kc d<=1:=by cases d<;>decide
theorem OQ {A:EC}{n N:Nat}(h:A.length<=N):(A++EV n).length<=N+10:=by rw[Ab];have:=Gd n;omega
theorem Pt {A p:EC}{N M:Nat}(h:A.length<=N)(hp:p.length<=M):(A++Fp p).length<=N+M+10:=by rw[Ab];unfold Fp;rw[Ab];have:=Gd p.length;omega
theorem Xz7 {A:EC}{m n N:Nat}(h:A.length<=N):(A++(EV m++EV n)).length<=N+20:=by rw[Ab,Ab];have:=Gd m;have:=Gd n;omega
theorem PM {l:List Cell}{k:Nat}{c:Cell}(h:l[k]?=some c):Jv l k=J6 (Hb l k) c:=by unfold Jv;rw[h];rfl
theorem X51 {l:List Cell}{k:Nat}{c x:Cell}(h:l[k]?=some c)(h2:l[k-1]?=some x)(h4:k % 4≠0):Jh x.key c.key=Hb l k:=by unfold Hb;rw[if_neg h4,h,h2];rfl
theorem X9k {l:List Cell}{k:Nat}(h4:k % 4=0):(0:Nat)=Hb l k:=by unfold Hb;rw[if_pos h4]
theorem Xz8 {l:List Cell}(k:Nat)(h:k=l.length):(BL k).flatMap (Jv l)=GU l:=by rw[h];rfl
theorem Qu (l:List Cell)(v:Value)(w:World)(hv:EM Cell.cs 4 w v l)(hl:l.length<=30000) :
  Calls Tryz.prog 243 [v].toArray w (ER w (λu w'=>∃vb,u=.tuple #[vb,I (G8 l)]/\Vc.Own EP 1 5 w.heap.size w' vb (if G8 l=0 then GU l else[]))):=by
 refine cw Tryz.func243 ?_;have z:=EB.refl w;refine ws λ_ Z1=>wr (da (da (de Z1 (ws λ_ Z2=>ws λ_ Z3=>wr (dm ?_)))));refine cP (X50 l v _ (hv.ext z) hl) RX.all λw1 x1=>?_;have z:=z.trans x1;refine da (de Z3 (ws λ_ Z4=>wr (dm ?_)));refine dp (F8 rfl rfl) (de Z4 (wi (λc1=>?_) λc1=>?_))
 ·refine ws λ_ Z5=>wr (dm (da (da (de Z5 (EH ?_)))));refine rt ?_;rw[if_neg c1];exact⟨_,rfl,z,_,rfl,Vc.Own.nil⟩
 have hE:G8 l=0:=AI c1;obtain⟨hb,hRis⟩:=Ki.1 hE;refine EG (Z2 _ _ (ws λ_ Z6=>wr (FG (cs:=[.slice none 0 0]) rfl E9 RX.all (λb1 w2 e1 x2 m1=>?_))));have g1:=z.ge e1;have z:=z.trans x2;refine de Z6 (ws λ_ Z7=>ws λ_ Z8=>wr (dm ?_));refine dv 79 4 (hv.ext z).sl (dm (de Z8 (EN ?_)));refine Fk (G:=Nat×Value) (λ(k,vc)=>[(0,v),(2,.slice none 0 0),(3,I 0),(5,ED b1 0),(14,v),(15,I ↑l.length),(16,I ↑k)]) (λ(k,vc) w'=>EB w w'/\k<=l.length/\Wr w.heap.size b1 vc ((BL k).flatMap (Jv l)) w') (λ(k,vc)=>l.length-k) (0,.slice none 0 0) ?_ ?_ ?_
 ·exact FQ
 ·exact⟨z,Ad _,⟨m1,Vc.Own.nil⟩⟩
 intro X3 g3 w3 xy;obtain⟨k,vc⟩:=g3;clear z m1;obtain⟨z,hc,r⟩:=xy;refine ws λ_ Z9=>wr (dp (Fa rfl rfl) (de Z9 (ws λ_ x0=>wi (λc2=>?_) λc2=>?_)))
 ·obtain⟨c,hk⟩:∃c,l[k]?=some c:=Fq;have xr:=Rr hb k EA;have hcs:=JM (hb c (Ak hk));have hng:=Rc c.del;refine EG (x0 _ _ (ws λ_ xq=>EN (ws λ_ xw=>wr (dm ?_))));refine di 79 4 (hv.ext z).sl rfl ((hv.ext z).lt hk) (dq (Fb E9 rfl rfl ((hv.ext z).row hk)) (FG (cs:=[S [],S [],B false,.int .i64 0]) rfl E9 RX.all (λb2 w4 e2 x4 J=>?_)));have g2:=z.ge e2;have ha:=r.lt;have r:=r.ext x4;have z:=z.trans x4;refine da ?_;refine FM J (λw5 x5 xs5 J=>?_);dsimp only [Fe,Ag,Af,Ai]at J;have r:=r.mod x5 (λk hk h=>by have h2:k=b2:=h;subst h2;exact A6 _ (AF (ha _ hk) e2.symm));have z:=z.o1 x5;refine de xw (ws λ_ yd=>wr (da (de yd ?_)));refine Hz (G:=Nat) (λn=>[(0,v),(2,.slice none 0 0),(3,I 0),(5,ED b1 0),(6,I ↑k),(7,ED b2 0),(8,I ↑n),(14,v),(15,I ↑l.length),(16,I ↑k)]) (λn w'=>EB w w'/\Wr w.heap.size b1 vc ((BL k).flatMap (Jv l)) w'/\EL w' b2 c.cs 79/\n=Hb l k) ?_ ?_
  ·refine ws λ_ xx=>wr (dm ?_);refine dp (Qi rfl rfl EA EA) (dp (F8 rfl rfl) (de xx (wi (λc3=>?_) λc3=>?_)))
   ·obtain⟨x,hc⟩:∃x,l[k-1]?=some x:=Fq;have hcx:=JM (hb x (Ak hc));refine F4 (R:=EB) EB.refl (λ_ _ _=>EB.trans) E9 [5,7] [(0,.p,false),(1,.p,false),(2,.p,false),(3,.p,false),(4,.p,false),(5,.l,false),(6,.p,false),(7,.l,false),(8,.x,true),(9,.p,false)] rfl E9 E9 (λw6 xm=>?_);have x6:=EJ xm;clear xm;have r:=r.ext x6;have J:=J.ext x6;have z:=z.trans x6
    iterate 2 refine dm ?_
    refine EW (v:=I ↑(k-1)) rfl (Ga rfl rfl (by unfold ET;omega)) (by show I _=I _;congr 1;omega) (di 79 4 (hv.ext z).sl rfl ((hv.ext z).lt hc) (df 0 rfl (dL rfl (λ_ hR=>((((hv.ext z).ext hR).row hc).at rfl)) (df 0 rfl (dL rfl (λ_ hR=>((J.ext hR).at rfl)) (cP (Xz5 x.key c.key _ EA EA) RX.all λw7 x7=>?_))))));have r:=r.ext x7;have J:=J.ext x7;have z:=z.trans x7;refine da (EF (?_));exact⟨_,HS,z,r,J,X51 hk hc EA⟩
   refine EG ?_;exact⟨0,HS,z,r,J,X9k EA⟩
  intro X8 g8 w8 xa;revert xa;revert g8;intro n xa;clear z r J;obtain⟨z,r,J,hn⟩:=xa;refine ws λ_ x3=>wr (dm ?_);refine li (e:=3) (sz:=1) (zs:=[.int .i64 0]) (pv:=[(0,_)]) (cs:=[_]) RX.all (λb3 w9 e3 x9 m3=>?_);have g3:=z.ge e3;have n3_2:=J.ltb e3;have hp:=r.lt;have r:=r.ext x9;have J:=J.ext x9;have z:=z.trans x9;have yc:=hn▸UL hk;have Y:=J.lt;have O:¬ Hq b1 vc b2:=λZ=>(A6 b2 (AF (ha _ Z) e2.symm));refine cD (JQ w.heap.size b1 vc _ [↑n] (.slice (some ⟨b3,0,none⟩) 1 1) _ r (Ae xr EA) z.size (m3.arr (enc:=Vc.encI) (sz:=1) (l:=[↑n]) rfl EE rfl EQ) EQ (λk9 Z _ xd=>by have h8:b3=k9:=xd;subst h8;exact(A6 b3 (AF (hp _ Z) e3.symm)))) (.inl rfl) λu10 w10 xo xi=>?_;have hsz10:=z.size;have J:=J.mod xo O;have z:=z.own xo (λi hi=>r.ge g1 hi);obtain⟨rfl,v2,r,hf⟩:=xi;rw[Nh EA]at r;have hg:=OQ (n:=n) xr;have O:=PI hf O Y;refine de x3 (ws λ_ xz=>KR [.p,.l,.p,.p,.x,.x,.x] rfl (df 0 rfl (dl rfl (J.at rfl) (dm ?_))));refine EW (v:=S (c.key.drop n)) rfl (Xz (b:=c.key.length) E9 rfl rfl rfl yc (Aa _)) (by rw[AK]) (Mu (e:=5) rfl E9 E9 E9 rfl RX.all (λb4 xp w11 e4 xg xf=>?_));have g4:=z.ge e4;have n4_2:=J.ltb e4;have hw:=r.lt;have J:=J.ext xg;have r:=r.ext xg;have z:=z.trans xg;refine li (e:=82) (sz:=1) (zs:=[.slice none 0 0]) (pv:=[(0,_)]) (cs:=[_]) RX.all (λb5 w12 e5 hr m5=>?_);have g5:=z.ge e5;have n5_2:=J.ltb e5;have hz:=r.lt;have J:=J.ext hr;have r:=r.ext hr;have xf:=xf.ext hr;have z:=z.trans hr;have Y:=J.lt;refine cD (KO w.heap.size b1 v2 _ [(.slice (some ⟨b4,0,none⟩) (c.key.drop n).length xp,c.key.drop n)] (.slice (some ⟨b5,0,none⟩) 1 1) _ r (Ae hg EA) z.size (Kk m5) (λq h=>by rw[Ah.1 h];exact xf) (λq h=>by rw[Ah.1 h];exact(by rw[Bh];omega)) EQ (λ_ Z=>(A6 b5 (AF (hz _ Z) e5.symm))) (λq h hl Z=>by rw[Ah.1 h]at hl Z;exact(A6 b4 (AF (hw _ Z) e4.symm)))) (.inl rfl) λu13 w13 xl xt=>?_;have hsz13:=z.size;have J:=J.mod xl O;have z:=z.own xl (λi hi=>r.ge g1 hi);obtain⟨rfl,v3,r,hf⟩:=xt;rw[Js]at r;have hh:=Pt (p:=c.key.drop n) (M:=4096) hg (by rw[Bh];omega);have O:=PI hf O Y;refine de xz (ws λ_ x8=>F4 (R:=Mod (Hq b1 v3)) J0 JY E9 [1,3] [(0,.p,false),(1,.l,false),(2,.p,false),(3,.l,false),(4,.x,false),(5,.x,false),(6,.x,false)] rfl E9 E9 (λw14 h5=>?_));have xe:=EJ h5;clear h5;have J:=J.ext xe;have r:=r.ext xe;have z:=z.trans xe;refine df 3 rfl (dL rfl (λ_ hR=>((J.mod hR O).at rfl)) (df 2 rfl (dL rfl (λ_ hR=>((J.mod hR O).at rfl)) (cP (X9j c.del _) RX.mod λw15 xc=>?_))));have J:=J.ext xc;have r:=r.ext xc;have z:=z.trans xc;refine li (e:=3) (sz:=1) (zs:=[.int .i64 0]) (pv:=[(0,_),(1,_)]) (cs:=[_,_]) RX.mod (λb6 w16 e6 xh m6=>?_);have g6:=z.ge e6;have n6_2:=J.ltb e6;have hq:=r.lt;have J:=J.ext xh;have r:=r.ext xh;have z:=z.trans xh;have Y:=J.lt;refine JT rfl E9 (JQ w.heap.size b1 v3 _ [c.seq,↑(Kc c.del)] (.slice (some ⟨b6,0,none⟩) 2 2) _ r (Ae hh EA) z.size (m6.arr (enc:=Vc.encI) (sz:=1) (l:=[c.seq,↑(Kc c.del)]) rfl EE rfl EQ) EQ (λk9 Z _ xd=>by have h8:b6=k9:=xd;subst h8;exact(A6 b6 (AF (hq _ Z) e6.symm)))) rfl (.inr λ_ h=>h) (λu17 w17 xn xu=>?_);have hsz17:=z.size;have J:=J.mod xn O;have z:=z.own xn (λi hi=>r.ge g1 hi);obtain⟨rfl,v4,r,hf⟩:=xu;rw[Ybj EA EA EA]at r;have h6:=Xz7 (m:=c.seq.toNat) (n:=Kc c.del) hh;refine de x8 (ws λ_ ye=>wr (df 2 rfl (dl rfl (J.at rfl) (dn (de ye ?_)))));refine wc (λc4=>?_) λc4=>?_
  ·refine KR [.p,.l,.x,.x,.x] rfl (df 1 rfl (dl rfl (J.at rfl) (Mu (e:=5) rfl E9 E9 E9 rfl RX.all (λb7 xj w18 e7 xb h7=>?_))));have g7:=z.ge e7;have n7_2:=J.ltb e7;have hj:=r.lt;have J:=J.ext xb;have r:=r.ext xb;have z:=z.trans xb;refine li (e:=82) (sz:=1) (zs:=[.slice none 0 0]) (pv:=[(0,_)]) (cs:=[_]) RX.all (λb8 w19 e8 hy m8=>?_);have g8:=z.ge e8;have n8_2:=J.ltb e8;have ht:=r.lt;have J:=J.ext hy;have r:=r.ext hy;have h7:=h7.ext hy;have z:=z.trans hy;have Y:=J.lt;refine cD (KO w.heap.size b1 v4 _ [(.slice (some ⟨b7,0,none⟩) c.val.length xj,c.val)] (.slice (some ⟨b8,0,none⟩) 1 1) _ r (Ae h6 EA) z.size (Kk m8) (λq h=>by rw[Ah.1 h];exact h7) (λq h=>by rw[Ah.1 h];exact(show c.val.length<=1000000 by omega)) EQ (λ_ Z=>(A6 b8 (AF (ht _ Z) e8.symm))) (λq h hl Z=>by rw[Ah.1 h]at hl Z;exact(A6 b7 (AF (hj _ Z) e7.symm)))) (.inl rfl) λu20 w20 xv xk=>?_;have hsz20:=z.size;have z:=z.own xv (λi hi=>r.ge g1 hi);obtain⟨rfl,v5,r,hf⟩:=xk;rw[Js]at r;have hln57:=trivial;refine de xq (wr (pa rfl rfl (dm (EF (?_)))));refine⟨(k+1,v5),FQ,⟨z,by omega,?_⟩,by simp only [];omega⟩;rw[PT EA,PM hk,<-hn];unfold J6;have hd:c.del=false:=by simpa using c4
   rw[hd]at r ⊢;simpa only [AA,AP,if_true,if_false,C7]using r
  refine EG (xq _ _ (wr (pa rfl rfl (dm (EF (?_))))));refine⟨(k+1,v4),FQ,⟨z,by omega,?_⟩,by simp only [];omega⟩;rw[PT EA,PM hk,<-hn];unfold J6;have hd:c.del=true:=by simpa using c4
  rw[hd]at r ⊢;simpa only [AA,AP,if_true,if_false,C7]using r
 refine Ff (Z7 _ _ (ws λ_ ya=>wr (cG (MK w.heap.size b1 vc _ _ r (by have:=Rr hb k EA;omega)) RX.all λvo w21 yb hB=>?_)));have hsz21:=z.size;have z:=z.trans yb;refine da (da (de ya (EH ?_)));refine rt ?_;rw[Xz8 k EA]at hB;rw[if_pos hE,hE];exact⟨_,rfl,z,_,rfl,hB.mono EA⟩
theorem PD {br b k o:Nat} : (k=br\/∃p∈[((b,o):Nat×Nat)],k=p.1)↔(k=br\/k=b):=by simp
theorem Oo {br b b' k o o':Nat} : (k=br\/∃p∈[((b,o):Nat×Nat),(b',o')],k=p.1)↔(k=br\/k=b\/k=b'):=by simp
theorem X52 {n:Nat}(r:EC)(h:n<=4611686018427387904):IH 1 (EV n++r) false=([n],r,false):=by
 unfold IH;rw[JK r false h];rfl
theorem Ro {n m:Nat}(r:EC)(h:n<=4611686018427387904)(h2:m<=4611686018427387904):IH 2 (EV n++(EV m++r)) false=([n,m],r,false):=by
 unfold IH;rw[JK _ false h];unfold IH;rw[JK _ false h2];rfl
theorem Ue (n:Nat)(c:Cell)(r:EC):J6 n c++r=EV n++(Fp (c.key.drop n)++(EV c.seq.toNat++(EV (Kc c.del)++((if c.del then[]else Fp c.val)++r)))):=by unfold J6;simp only [AA]
theorem Xz9 (n:Nat)(c:Cell)(r:EC):J6 n c++r≠[]:=λe=>by
 have h:=U5 n c;have h2:=congrArg A7 e;rw[Ab,Bc]at h2;omega
theorem X53 {b o n:Nat}{Cs:Nat->List Value} : Gq Cs [(b,o)] [n] b=(Cs b).set o (I ↑n):=by unfold Gq;unfold Gq;rw[if_pos rfl]
theorem TW {b b' o o' n m:Nat}{Cs:Nat->List Value}(h:b≠b'):Gq Cs [(b,o),(b',o')] [n,m] b=(Cs b).set o (I ↑n):=by unfold Gq;unfold Gq;unfold Gq;rw[if_neg h,if_pos rfl]
theorem Ug {b b' o o' n m:Nat}{Cs:Nat->List Value}(h:b≠b'):Gq Cs [(b,o),(b',o')] [n,m] b'=(Cs b').set o' (I ↑m):=by unfold Gq;unfold Gq;unfold Gq;rw[if_pos rfl,if_neg (λe=>h e.symm)]
theorem OG (d:Bool):decide (¬ (↑(Kc d):Int)=0)=d:=by cases d<;>rfl
theorem LU {α:Type}{a b:α}{P:α->Prop}(h1:P a)(h2:P b):∀p∈[a,b],P p:=λp r=>by
 rcases Aj.1 r with rfl|r
 ·exact h1
 ·rw[Ah.1 r];exact h2
theorem X54 {b o s:Nat}{w:World}(h:EL w s [ED b o] 197):EM (λp:Nat×Nat=>[ED p.1 p.2]) 1 w (.slice (some ⟨s,0,none⟩) 1 1) [(b,o)]:=h.arr (enc:=λp:Nat×Nat=>[ED p.1 p.2]) (sz:=1) (l:=[(b,o)]) rfl EE rfl EQ
theorem S1 {b o b' o' s:Nat}{w:World}(h:EL w s [ED b o,ED b' o'] 197):EM (λp:Nat×Nat=>[ED p.1 p.2]) 1 w (.slice (some ⟨s,0,none⟩) 2 2) [(b,o),(b',o')]:=h.arr (enc:=λp:Nat×Nat=>[ED p.1 p.2]) (sz:=1) (l:=[(b,o),(b',o')]) rfl EE rfl EQ
theorem X9l (br bb:Nat)(v:Value)(n:Nat)(c:Cell)(rest ahead:EC)(w:World)(h:Rd br bb v (J6 n c++rest) false w)(hll:(J6 n c++rest).length<=2001000020)(hc:Ge c=true)(hn:n<=c.key.length)(hna:n<=ahead.length)(hah:ahead.length<=1000000)(he:ahead.take n++c.key.drop n=c.key) :
  Calls Tryz.prog 261 [ED br 0,S ahead].toArray w (Fh (ES br) w (λu w'=>u=c.v/\∃v',Rd br bb v' rest false w')):=by
 refine cw Tryz.func261 ?_;have J:=Vc.Mod.refl (ES br) w;have z:=h;have ha:=Xz9 n c rest;have O:=h.lt;have hbr:=h.m.lt;rw[Ue]at z;have xg:=JM hc;have hng:=Rc c.del;rw[Ue]at hll;have xe:=hll;rw[Ab]at xe;refine ws λ_ Z1=>wr (FG (cs:=[S [],S [],B false,.int .i64 0]) rfl E9 RX.all (λb1 w1 e1 x1 r=>?_));have g1:=J.ge e1;have a1_hR:=z.lt;have z:=z.ext x1;have J:=J.ext x1;refine de Z1 (ws λ_ Z2=>wr (FG (cs:=[.int .i64 0]) rfl E9 RX.all (λb2 w2 e2 x2 m2=>?_)));have g2:=J.ge e2;have n2_1:=r.ltb e2;have a2_hR:=z.lt;have z:=z.ext x2;have r:=r.ext x2;have J:=J.ext x2;refine FG (cs:=[.int .i64 0]) rfl E9 RX.all (λb3 w3 e3 x3 Y=>?_);have g3:=J.ge e3;have n3_1:=r.ltb e3;have n3_2:=m2.ltb e3;have a3_hR:=z.lt;have z:=z.ext x3;have r:=r.ext x3;have m2:=m2.ext x3;have J:=J.ext x3;refine de Z2 (ws λ_ Z3=>wr (dm ?_));refine li (e:=197) (sz:=1) (zs:=[.pointer none]) (pv:=[(0,_)]) (cs:=[_]) RX.all (λb4 w4 e4 x4 m4=>?_);have g4:=J.ge e4;have n4_1:=r.ltb e4;have n4_2:=m2.ltb e4;have n4_3:=Y.ltb e4;have a4_hR:=z.lt;have z:=z.ext x4;have r:=r.ext x4;have m2:=m2.ext x4;have Y:=Y.ext x4;have J:=J.ext x4;refine cD (ON br bb v _ false [(b2,0)] (.slice (some ⟨b4,0,none⟩) 1 1) (λ_=>[I 0]) (λ_=>3) _ z (by rw[Ab];omega) (X54 m4) EQ (λp hp=>by rw[Ah.1 hp];exact⟨m2,DC⟩) (λp hp Z=>by rw[Ah.1 hp]at Z;have h8:=O _ (HW (λ_=>ha) Z);have h7:b2<w.heap.size:=h8;omega) (λ_ Z=>by have h2:b4=br\/b4=b2:=PD.1 Z;omega)) (.inl rfl) λu5 w5 x5 h5=>?_;have hsz5:=J.size;have r:=r.mod x5 (λZ=>by have h2:b1=br\/b1=b2:=PD.1 Z;omega);have Y:=Y.mod x5 (λZ=>by have h2:b3=br\/b3=b2:=PD.1 Z;omega);have J:=J.own x5 (λi hi hl=>(show i=br from by have h2:=PD.1 hi;omega));obtain⟨rfl,v1,z,hf⟩:=h5;have m2:=hf (b2,0) Al;rw[show[((b2,0):Nat×Nat)].length=1 from rfl,X52 _ EA]at z m2;rw[show((b2,0):Nat×Nat).1=b2 from rfl,X53]at m2;refine de Z3 (ws λ_ Z4=>wr (dm ?_));have hb5:=r.lt;refine cD (KI br bb v1 _ false _ z (by simp only [Ab]at *;omega)) (.inl rfl) λu6 w6 x6 xf=>?_;have hsz6:=J.size;have r:=r.mod x6 (λZ=>by have h2:_=br:=Z;omega);have Y:=Y.mod x6 (λZ=>by have h2:_=br:=Z;omega);have m2:=m2.mod x6 (λZ=>by have h2:_=br:=Z;omega);have J:=J.own x6 (λi hi hl=>hi);obtain⟨hO,v2,z⟩:=xf;rw[K8 _ _ _ (by rw[Bh];omega)]at hO z;dsimp only at hO z;refine da (de Z4 (ws λ_ Z5=>ws λ_ Z6=>wr ?_));refine dl rfl (m2.at rfl) (dm ?_);refine dt rfl (dp (FY rfl rfl) (de Z6 (wi (λc1=>?_) λc1=>?_)))
 ·omega
 refine EG (Z5 _ _ (ws λ_ Z7=>F4 (R:=EB) EB.refl (λ_ _ _=>EB.trans) E9 [1,4] [(0,.p,false),(1,.l,false),(2,.p,false),(3,.p,false),(4,.l,false),(5,.p,false),(6,.p,false),(7,.x,true)] rfl E9 E9 (λw7 hz=>?_)));have x7:=EJ hz;clear hz;have r:=r.ext x7;have Y:=Y.ext x7;have m2:=m2.ext x7;have hO:=hO.ext x7;have z:=z.ext x7;have J:=J.ext x7;refine dm ?_;refine dL rfl (λ_ z=>((m2.ext z).at rfl)) (EW (v:=S (ahead.take n)) rfl (Xz (a:=0) E9 rfl rfl rfl (Ad _) hna) (by rw[Ca]) (dm ?_));refine FK rfl (λw' z=>L5 E9 E9 ((hO.ext z).arr EE) rfl) (EW (v:=S c.key) rfl (Ji rfl rfl (by simp;omega)) (by rw[he]) (df 0 rfl (G5 r (λw8 x8 xs8 r=>?_) (hv:=by rfl))));dsimp only [Fe,Ag,Af,Ai]at r;have Y:=Y.mo x8;have z:=z.mod x8 (λk hk e=>by have h2:k=b1:=e;have h8:=O _ (HW (λ_=>ha) hk);omega);have J:=J.o1 x8;refine de Z7 (ws λ_ Z8=>wr (dm ?_));refine df 3 rfl (li (e:=197) (sz:=1) (zs:=[.pointer none]) (pv:=[(0,_),(1,_)]) (cs:=[_,_]) RX.all (λb5 w9 e5 x9 m5=>?_));have g5:=J.ge e5;have n5_1:=r.ltb e5;have n5_3:=Y.ltb e5;have a5_hR:=z.lt;have r:=r.ext x9;have Y:=Y.ext x9;have z:=z.ext x9;have J:=J.ext x9;refine cD (ON br bb v2 _ false [(b1,3),(b3,0)] (.slice (some ⟨b5,0,none⟩) 2 2) (λk=>if k=b1 then[S c.key,S [],B false,I 0]else[I 0]) (λk=>if k=b1 then 79 else 3) _ z (by simp only [Ab]at *;omega) (S1 m5) EQ (LU (P:=λp:Nat×Nat=>EL _ p.1 (if p.1=b1 then _ else _) (if p.1=b1 then _ else _)/\p.2<(if p.1=b1 then _ else _:List Value).length) (by rw[if_pos rfl,if_pos rfl];exact⟨r,(by decide:3<4)⟩) (by rw[if_neg EA,if_neg EA];exact⟨Y,DC⟩)) (LU (P:=λp:Nat×Nat=>¬ LW br bb _ p.1) (λZ=>by have h8:=O _ (HW (λ_=>ha) Z);have h7:b1<w.heap.size:=h8;omega) (λZ=>by have h8:=O _ (HW (λ_=>ha) Z);have h7:b3<w.heap.size:=h8;omega)) (λ_ Z=>by have h2:b5=br\/b5=b1\/b5=b3:=Oo.1 Z;omega)) (.inl rfl) λu10 w10 xc hq=>?_;have hsz10:=J.size;have J:=J.own xc (λi hi hl=>(show i=br from by have h2:=Oo.1 hi;omega));obtain⟨rfl,v3,z,hf⟩:=hq;have hb:b1≠b3:=by omega
 have r:=hf (b1,3) Al;have Y:=hf (b3,0) (Am _ Al);rw[show[((b1,3):Nat×Nat),(b3,0)].length=2 from rfl,Ro _ EA EA]at z r Y;dsimp only at z r Y;rw[TW hb,if_pos rfl,if_pos rfl]at r;rw[Ug hb,if_neg (λe=>hb e.symm),if_neg (λe=>hb e.symm)]at Y;dsimp only [Ag]at r Y;rw[show((c.seq.toNat:Nat):Int)=c.seq by omega]at r;refine de Z8 (ws λ_ Z9=>ws λ_ xb=>wr (dl rfl (Y.at rfl) (EW (v:=B c.del) rfl (F8 rfl rfl) (by show B _=B _;congr 1;exact OG _) (df 2 rfl (G5 r (λw11 hh xs11 r=>?_) (hv:=by rfl))))));dsimp only [Fe,Ag,Af,Ai]at r;have z:=z.mod hh (λk hk e=>by have h2:k=b1:=e;have h8:=O _ (HW (λ_=>ha) hk);omega);have Y:=Y.mo hh;have J:=J.o1 hh;refine de xb (ws λ_ xd=>wr (df 2 rfl (dl rfl (r.at rfl) (dn (de xd ?_)))));refine wc (λc2=>?_) λc2=>?_
 ·refine KR [.p,.x,.l,.p,.x] rfl (dm ?_);have hb6:=r.lt;refine cD (KI br bb v3 _ false _ z (by simp only [Ab]at *;omega)) (.inl rfl) λu12 w12 hg hw=>?_;have hsz12:=J.size;have r:=r.mod hg (λZ=>by have h2:_=br:=Z;omega);have Y:=Y.mod hg (λZ=>by have h2:_=br:=Z;omega);have J:=J.own hg (λi hi hl=>hi);have hd:c.del=false:=by simpa using c2
  obtain⟨hj,v4,z⟩:=hw;rw[hd,if_neg EK,K8 _ _ _ EA]at hj z;dsimp only at hj z;refine dq (L5 E9 E9 (hj.arr EE) rfl) (df 1 rfl (G5 r (λw13 ht xs13 r=>?_) (hv:=by rfl)));dsimp only [Fe,Ag,Af,Ai]at r;have z:=z.mod ht (λk hk e=>by have h2:k=b1:=e;have h8:=O _ (HW (λ_=>ha) hk);omega);have J:=J.o1 ht;refine de Z9 (ws λ_ h6=>wr (dq (Fb (k:=4) E9 rfl rfl r.row) (FM r (λw14 hy xs14 r=>?_))));dsimp only [Fe,Ag,Af,Ai]at r;have z:=z.mod hy (λk hk e=>by have h2:k=b1:=e;have h8:=O _ (HW (λ_=>ha) hk);omega);have J:=J.o1 hy;refine de h6 (EH (MR (k:=4) rfl rfl rfl E9 rfl r.row ?_));have e0:c=⟨c.key,c.val,false,c.seq⟩:=by rw[<-hd]
  rw[hd]at r;refine⟨_,rfl,J,by rw[e0],v4,z⟩
 refine EG (Z9 _ _ (ws λ_ xa=>wr (dq (Fb (k:=4) E9 rfl rfl r.row) (FM r (λw15 hr xs15 r=>?_)))));dsimp only [Fe,Ag,Af,Ai]at r;have z:=z.mod hr (λk hk e=>by have h2:k=b1:=e;have h8:=O _ (HW (λ_=>ha) hk);omega);have J:=J.o1 hr;refine de xa (EH (MR (k:=4) rfl rfl rfl E9 rfl r.row ?_));have hd:c.del=true:=by simpa using c2
 have e0:c=⟨c.key,[],true,c.seq⟩:=by rw[<-hd,<-xg.2.2.2.2.2 hd]
 rw[hd,if_pos rfl,AE]at z;exact⟨_,rfl,J,by rw[e0],v3,z⟩
structure Sz (n:Nat)(w:World):Prop where
 le:n<=w.heap.size
theorem Sz.ext {n:Nat}{w w':World}(h:Sz n w)(x:EB w w'):Sz n w':=⟨Ae h.le x.size⟩
theorem Sz.mod {n:Nat}{w w':World}{S:Nat->Prop}(h:Sz n w)(x:Vc.Mod S w w')(_:True):Sz n w':=⟨Ae h.le x.size⟩
theorem Sa {l:List Cell}{k:Nat} : 0<(HQ l k).length↔k<l.length:=by
 by_cases h:k<l.length
 ·rw[QV h,Ab];have:=U5 (Hb l k) (l[k]?.getD Cell.zero);unfold Jv;exact⟨λ_=>h,λ_=>by omega⟩
 ·rw[RC EA];exact⟨λh2=>by simp at h2,λh2=>absurd h2 h⟩
theorem X0a {l:List Cell}(k:Nat):(HQ l k).length<=(GU l).length:=by
 by_cases h:k<=l.length
 ·induction k with
  | zero=>exact Aa _
  | succ k ih=>
   have:=ih EA;rw[QV EA,Ab]at this;omega
 ·rw[RC EA];exact Ad _
theorem X0b {l:List Cell}(h:∀c∈l,Ge c=true)(k:Nat):(if k=0 then([]:EC)else(l[k-1]?.getD Cell.zero).key).length<=4096:=by
 split
 ·simp
 ·cases e:l[k-1]? with
  | none=>simp [Cell.zero]
  | some c=>exact(JM (h c (Ak e))).1
theorem X0c {l:List Cell}(h:GU l=[]):l=[]:=by
 cases l with
 | nil=>rfl
 | cons a r=>
  have:=(Sa (l:=a :: r) (k:=0)).2 EQ;rw[X9i,h]at this;simp at this
theorem X0d (l:List Cell)(v:Value)(w:World)(hv:EM EP 1 w v (GU l))(hl:l.length<=30000)(hE:G8 l=0) :
  Calls Tryz.prog 196 [v].toArray w (ER w (λu w'=>∃vb,u=.tuple #[vb,I 0]/\Vc.Own Cell.cs 4 79 w.heap.size w' vb l)):=by
 refine cw Tryz.func196 ?_;have r:=EB.refl w;obtain⟨Y,hRis⟩:=Ki.1 hE;have hbl:=OH Y;refine ws λ_ Z1=>wr (da (da (de Z1 (ws λ_ Z2=>wr (dm ?_)))));refine cG (MM (GU l) v _ (hv.ext r) EA) RX.all λu1 w1 x1 xh=>?_;have hq:=r.size;have r:=r.trans x1;obtain⟨br,bb,xg,rfl,gbr,gbb,z⟩:=xh;have J:Sz w1.heap.size w1:=⟨Aa _⟩;have hw:=z.lt;have hj:=Ae hq x1.size;refine da (de Z2 (ws λ_ Z3=>wr (da (de Z3 (ws λ_ Z4=>EN ?_)))));refine Fk (G:=Nat×Value×Value) (λ(k,Z,vl)=>[(0,v),(4,ED br 0),(5,vl)]) (λ(k,Z,vl) w'=>EB w w'/\k<=l.length/\Rd br bb Z (HQ l k) false w'/\Vc.Own Cell.cs 4 79 w1.heap.size w' vl (l.take k)/\Sz w1.heap.size w') (λ(k,Z,vl)=>l.length-k) (0,xg,.slice none 0 0) ?_ ?_ ?_
 ·exact Hj
 ·exact⟨r,Ad _,z,Vc.Own.nil,J⟩
 intro X2 g2 w2 xd;obtain⟨k,Z,vl⟩:=g2;clear r z J;obtain⟨r,hk9,z,ho,J⟩:=xd;refine ws λ_ Z5=>ws λ_ Z6=>wr (dm ?_);refine cP (X8q br bb Z (HQ l k) false _ z) RX.all λw3 x3=>?_;have z:=z.ext x3;have ho:=ho.ext x3;have J:=J.ext x3;have r:=r.trans x3;refine dp (FY rfl rfl) (de Z6 (wi (λc1=>?_) λc1=>?_))
 ·have htl:(l.take k).length=k:=by rw[A4];omega
  have O:k<l.length:=by have:=(Sa (l:=l) (k:=k)).1 EA;exact this
  have h5:GU l≠[]:=λe=>by rw[X0c e]at O;simp at O
  obtain⟨c,hk⟩:∃c,l[k]?=some c:=⟨_,Av O⟩;have hz:=Y c (Ak hk);have hcs:=JM hz;refine EG (Z5 _ _ (EN (ws λ_ Z7=>wr (da (de Z7 ?_)))));refine Hz (G:=EC) (λp=>[(0,v),(4,ED br 0),(5,vl),(6,S p)]) (λp w'=>EB w w'/\Rd br bb Z (HQ l k) false w'/\Vc.Own Cell.cs 4 79 w1.heap.size w' vl (l.take k)/\Sz w1.heap.size w'/\p=if k=0 then[]else(l[k-1]?.getD Cell.zero).key) ?_ ?_
  ·refine ws λ_ Z8=>wr (dm ?_);refine dv 79 4 (ho.arr EE).sl (dp (FY rfl rfl) (de Z8 (wi (λc2=>?_) λc2=>?_)))
   ·obtain⟨x,hk0⟩:∃x,l[k-1]?=some x:=Fq;have hr:(l.take k)[k-1]?=some x:=by rw[AV,if_pos EA];exact hk0
    refine wr (dm (dm ?_));refine dv 79 4 (ho.arr EE).sl (EW (v:=I ↑(k-1)) rfl (Ga rfl rfl (by unfold ET;omega)) (by show I _=I _;congr 1;omega) (di 79 4 (ho.arr EE).sl rfl ((ho.arr EE).lt hr) (df 0 rfl (dl rfl (((ho.arr EE).row hr).at rfl) (da (EF (?_)))))));exact⟨_,FU,r,z,ho,J,by rw[if_neg EA,hk0];rfl⟩
   refine EG ?_;exact⟨_,FU,r,z,ho,J,by rw[if_pos EA]⟩
  intro X4 g4 w4 hf;revert hf;revert g4;intro p hf;clear r z ho J;obtain⟨r,z,ho,J,hp⟩:=hf;refine ws λ_ Z9=>wr (dm (dm ?_));have h6:=Xv8 hk p hp;have hpl:=hp▸X0b Y k;have xl:=X0a (l:=l) k;rw[QV O,PM hk]at z xl;refine cD (X9l br bb Z (Hb l k) c (HQ l (k+1)) p _ z EA hz (UL hk) h6.1 EA h6.2) (.inl rfl) λu5 w5 x5 xa=>?_;have hsz5:=r.size;have ho:=ho.mod x5 (λk9 h9 e=>ho.ne_blk z.m rfl (by rw[h9];exact congrArg some e));have J:=J.mod x5 trivial;have r:=r.own x5 (λi hi=>(by have h2:i=br:=hi;omega));obtain⟨rfl,xj,z⟩:=xa;refine FG (cs:=[S [],S [],B false,.int .i64 0]) rfl E9 RX.all (λb1 w6 e1 x6 m1=>?_);have g1:=r.ge e1;have ha:=ho.ltb e1;have a1_hS:=J.le;have hb:=z.lt;have ho:=ho.ext x6;have J:=J.ext x6;have z:=z.ext x6;have r:=r.trans x6;refine FM m1 (λw7 x7 xs7 m1=>?_);dsimp only [Fe,Ag,Af,Ai]at m1;have ho:=ho.mod x7 (by intro k hk h;have h1:=ha k hk;have h2:k=b1:=h;omega);have J:=J.mod x7 trivial;have z:=z.mod x7 (λk9 h9 e=>by have h2:k9=b1:=e;have h8:=hb k9 h9;omega);have r:=r.o1 x7;refine de Z9 (ws λ_ xi=>ws λ_ xk=>wr (df 0 rfl (dl rfl (m1.at rfl) (dt rfl (dp (FY rfl rfl) (de xk (wi (λc3=>?_) λc3=>?_)))))))
  ·omega
  refine EG (xi _ _ (wr (dm ?_)));refine dq (Fb (k:=4) E9 rfl rfl m1.row) (li (e:=79) (sz:=4) (zs:=[S [],S [],B false,.int .i64 0]) (pv:=[(0,.agg ⟨[_,_,_,_]⟩)]) (cs:=[_,_,_,_]) RX.all (λb2 w8 e2 x8 m2=>?_));have g2:=r.ge e2;have o2_ho:=ho.ltb e2;have a2_hS:=J.le;have a2_hR:=z.lt;have ho:=ho.ext x8;have J:=J.ext x8;have z:=z.ext x8;have r:=r.trans x8;refine Gv (lx:=[c]) (e:=79) (sz:=4) (by':=48) rfl E9 E9 EE ho (m2.arr (enc:=Cell.cs) (sz:=4) (l:=[c]) rfl EE rfl (Ap rfl)) rfl rfl (by intro x _ u hu;simp at hu;rcases hu with rfl|rfl|rfl|rfl<;>rfl) (by simp;omega) EK J.le (.inl rfl) (λxe w9 ht x9=>?_);have J:=J.mod x9 (by trivial);have z:=z.mod x9 (by intro k9 h9 e9;have h8:=hw k9 (HW (λ_=>h5) h9);have h7:=(ho.lt k9 e9).1;omega);have r:=r.own x9 (λi hi=>(Ae hj (ho.lt i hi).1));have ho:=ht;clear m2;refine da (EF (?_));refine⟨(k+1,xj,xe),Hj,⟨r,by omega,z,?_,J⟩,by simp only [];omega⟩;rw[Gs hk];exact ho
 have O:l.length<=k:=by
  have h9:=(Sa (l:=l) (k:=k)).2;omega
 have hkl2:k=l.length:=by omega
 refine Ff (Z4 _ _ (ws λ_ xb=>ws λ_ xf=>wr (dm ?_)));rw[Ax O]at ho;rw[RC O]at z;refine cG (Qu l vl _ (ho.arr EE) hl) RX.all λu10 w10 hc hh=>?_;have hsz10:=r.size;have z:=z.ext hc;have ho:=ho.ext hc;have r:=r.trans hc;obtain⟨vb,rfl,hB⟩:=hh;rw[if_pos hE]at hB;refine dm ?_;refine dx rfl rfl (dx rfl rfl (da (da (de xf (ws λ_ xc=>wr (dm ?_))))));refine cP (PQ br bb Z [] false _ z) RX.all λw11 hg=>?_;have ho:=ho.ext hg;have hB:=hB.ext hg;have r:=r.trans hg;refine dn (dm ?_);refine I8 44 rfl (λc4=>?_) (λc4=>?_)
 ·simp at c4
 refine dm ?_;refine dp (F8 rfl rfl) (EO ?_);refine dm ?_;refine Fz 48 rfl (λc5=>?_) (λc5=>?_)
 ·exact absurd hE c5
 iterate 2 refine dm ?_
 refine cP (Oh (GU l) (GU l) vb v _ (hB.arr EE) (hv.ext r)) RX.all λw12 hy=>?_;have ho:=ho.ext hy;have r:=r.trans hy;refine dn ?_;refine EO (de xc ?_);refine wc (λc6=>?_) λc6=>?_
 ·simp at c6
 refine EG (xb _ _ (ws λ_ xm=>wr (dm (da (da (de xm (EH ?_)))))));refine rt ?_;exact⟨_,rfl,r,vl,rfl,ho.mono hj⟩
end Go.Proofs.YtiooodckiddpmaaGreatDoor
namespace Go.Sp
open Go.Vc (EC)
def FZ (l:List Cell)(k:Nat):Cell:=l[k]?.getD Cell.zero
theorem Fw {l:List Cell}{k:Nat}{c:Cell}(h:l[k]?=some c):FZ l k=c:=by unfold FZ;rw[h];rfl
def Jq (l:List Cell)(k:Nat):Bool:=decide (k=0) || decide ((FZ l (k-1)).key≠(FZ l k).key)
def KZ (l:List Cell)(k:Nat):List EC:=((BL k).filter (Jq l)).map λi=>(FZ l i).key
def Hx (l:List Cell):List EC:=KZ l l.length
theorem Xtf (l:List Cell)(k:Nat):KZ l (k+1)=if Jq l k=true then KZ l k++[(FZ l k).key]else KZ l k:=by
 unfold KZ;rw[Ed,Bu];split
 ·rename_i h;simp [h]
 ·rename_i h;simp [h]
theorem LP (l:List Cell)(k:Nat):(KZ l k).length<=k:=by
 unfold KZ;rw[List.length_map];exact Ae (B0 _ _) EQ
theorem Vg (l:List Cell):∀(i k:Nat),i<k->(FZ l i).key∈KZ l k
 | 0,k,h=>Ar.2 ⟨0,Az.2 ⟨DD.2 h,rfl⟩,rfl⟩
 | i+1,k,h=>by
  by_cases e:Jq l (i+1)=true
  ·exact Ar.2 ⟨i+1,Az.2 ⟨DD.2 h,e⟩,rfl⟩
  ·have r:=Vg l i k EA;unfold Jq at e;simp at e;rw[<-e];exact r
theorem Xwc {l:List Cell}{c:Cell}(h:c∈l):c.key∈Hx l:=by
 obtain⟨i,hi⟩:=BZ.1 h;have:=Vg l i l.length (Ao.1 hi).1;rwa [Fw hi]at this
theorem S3 {l:List Cell}{k:Nat}(hk:k<=l.length){s:EC}(h:s∈KZ l k):∃c∈l,c.key=s:=by
 obtain⟨i,hi,rfl⟩:=Ar.1 h;have hi2:=DD.1 (Az.1 hi).1;have e:l[i]?=some l[i]:=Av EA;exact⟨l[i],Dd ..,by rw[Fw e]⟩
def FE (l:List Cell):Nat->List (Nat×Nat)×Nat×Nat
 | 0=>([],0,0)
 | k+1=>if k=0 then([],0,Gn (FZ l 0))else if 512<(FE l k).2.2+Gn (FZ l k)then((FE l k).1++[((FE l k).2.1,k)],k,Gn (FZ l k))else((FE l k).1,(FE l k).2.1,(FE l k).2.2+Gn (FZ l k))
def Jg (l:List Cell)(k:Nat):List (Nat×Nat):=if k=0 then[]else(FE l k).1++[((FE l k).2.1,k)]
def Gw (l:List Cell):List (Nat×Nat):=Jg l l.length
def Gu : Nat->List (Nat×Nat)->Nat->Prop
 | a,[],b=>a=b
 | a,p :: r,b=>p.1=a/\a<p.2/\p.2<=a+32/\Gu p.2 r b
theorem Gu.append {a b c:Nat}{l m:List (Nat×Nat)}(h:Gu a l b)(h2:Gu b m c):Gu a (l++m) c:=by
 induction l generalizing a with
 | nil=>rw[show a=b from h];exact h2
 | cons p r ih=>exact⟨h.1,h.2.1,h.2.2.1,ih h.2.2.2⟩
theorem Gu.le {a b:Nat}{l:List (Nat×Nat)}(h:Gu a l b):a+l.length<=b:=by
 induction l generalizing a with
 | nil=>have e:a=b:=h;simp;omega
 | cons p r ih=>
  have:=ih h.2.2.2;have:=h.2.1;simp;omega
theorem Gu.mem {a b:Nat}{l:List (Nat×Nat)}(h:Gu a l b){p:Nat×Nat}(hp:p∈l):a<=p.1/\p.1<p.2/\p.2<=p.1+32/\p.2<=b:=by
 induction l generalizing a with
 | nil=>cases hp
 | cons q r ih=>
  rcases Aj.1 hp with rfl|hp
  ·have:=h.2.2.2.le;have:=h.1;have:=h.2.1;have:=h.2.2.1;exact⟨by omega,by omega,by omega,by omega⟩
  ·have:=ih h.2.2.2 hp;have:=h.2.1;exact⟨by omega,by omega,by omega,by omega⟩
theorem X0e (l:List Cell)(k:Nat):Gu 0 (FE l (k+1)).1 (FE l (k+1)).2.1/\(FE l (k+1)).2.1<k+1/\16*(k+1-(FE l (k+1)).2.1)<=(FE l (k+1)).2.2/\((FE l (k+1)).2.2<=512\/k+1=(FE l (k+1)).2.1+1):=by
 induction k with
 | zero=>
  unfold FE;rw[if_pos rfl];exact⟨rfl,Nat.one_pos,by unfold Gn;simp,.inr rfl⟩
 | succ k ih=>
  obtain⟨h1,h2,h3,h4⟩:=ih;rw[FE.eq_2,if_neg EA];split
  ·refine⟨h1.append ⟨rfl,h2,?_,rfl⟩,by show k+1<k+1+1;omega,by show 16*(k+1+1-(k+1))<=Gn _;unfold Gn;omega,.inr rfl⟩;rcases h4 with h4|h4<;>omega
  ·rename_i hn;refine⟨h1,by show(FE l (k+1)).2.1<k+1+1;omega,?_,?_⟩
   ·show 16*(k+1+1-(FE l (k+1)).2.1)<=(FE l (k+1)).2.2+Gn _;unfold Gn;omega
   ·left;show(FE l (k+1)).2.2+Gn _<=512;omega
theorem Mj (l:List Cell)(k:Nat):Gu 0 (Jg l k) k:=by
 cases k with
 | zero=>rfl
 | succ k=>
  obtain⟨h1,h2,h3,h4⟩:=X0e l k;unfold Jg;rw[if_neg EA];refine h1.append ⟨rfl,h2,?_,rfl⟩;show k+1<=_;rcases h4 with h4|h4<;>omega
theorem OL (l:List Cell)(k:Nat):(Jg l k).length<=k:=by have:=(Mj l k).le;omega
def HO (l:List Cell)(p:Nat×Nat):List Cell:=(l.take p.2).drop p.1
theorem WZ {l:List Cell}{p:Nat×Nat}(h:p.2<=p.1+32):(HO l p).length<=32:=by
 unfold HO;rw[Bh,A4];omega
theorem SP {l:List Cell}{a b:Nat}{ps:List (Nat×Nat)}(h:Gu a ps b):ps.flatMap (HO l)=(l.take b).drop a:=by
 induction ps generalizing a with
 | nil=>
  have e:a=b:=h;subst e;rw[Cg (by rw[A4];omega)];rfl
 | cons p r ih=>
  have hle:=h.2.2.2.le;rw[AD,ih h.2.2.2];unfold HO;rw[h.1];have z:p.2<=b:=by omega
  have e1:l.take p.2=(l.take b).take p.2:=by rw[List.take_take,Nat.min_eq_left z]
  have e2:(l.take b).drop a=((l.take b).drop a).take (p.2-a)++((l.take b).drop a).drop (p.2-a):=(AT _ _).symm;have h3:=h.2.1;rw[e2,List.drop_drop,show a+(p.2-a)=p.2 by omega,e1,List.drop_take]
theorem Pm {l:List Cell}{p:Nat×Nat}{c:Cell}(h:c∈HO l p):c∈l:=List.mem_of_mem_take (List.mem_of_mem_drop h)
theorem WW {l:List Cell}{p:Nat×Nat}{k:Nat}{c:Cell}(h:(HO l p)[k]?=some c):l[p.1+k]?=some c:=by
 unfold HO at h;rw[List.getElem?_drop,AV]at h;split at h
 ·exact h
 ·cases h
theorem PZ {l:List Cell}(h:G8 l=0)(p:Nat×Nat):G8 (HO l p)=0:=by
 obtain⟨h1,h2⟩:=Ki.1 h;exact Ki.2 ⟨λc r=>h1 c (Pm r),Xz3 λk a b J z=>T0 h2 (WW J) (by have:=WW z;rwa [show p.1+(k+1)=p.1+k+1 by omega]at this)⟩
def IL (l:List Cell)(p:Nat×Nat):EC:=Fp (FZ l (p.2-1)).key++EV (FZ l (p.2-1)).seq.toNat++Fp (GU (HO l p))
end Go.Sp
namespace Go.Proofs.YtiooodckiddpmaaGreatDoor
open Go.Vc Go.Sp
attribute [local irreducible] W XW Dw Gm
@[reducible] def Ja (p:Nat×Nat):List Value:=[I ↑p.1,I ↑p.2]
theorem Sn {l:List Cell}{k:Nat} : Jg l (k+1)=(FE l (k+1)).1++[((FE l (k+1)).2.1,k+1)]:=by unfold Jg;rw[if_neg EA]
theorem Xwe {l:List Cell}{k:Nat} : Jg l k=[]↔k=0:=by
 unfold Jg;split
 ·rename_i h;exact⟨λ_=>h,λ_=>rfl⟩
 ·rename_i h;exact⟨λe=>by simp at e,λe=>absurd e h⟩
theorem SU {l:List Cell}{k:Nat}(h:k=0\/512<(FE l k).2.2+Gn (FZ l k)):FE l (k+1)=(Jg l k,k,Gn (FZ l k)):=by
 rw[FE.eq_2];unfold Jg
 by_cases e:k=0
 ·subst e;rfl
 ·rw[if_neg e,if_pos (h.resolve_left e),if_neg e]
theorem X55 {l:List Cell}{k:Nat}(h:k≠0)(h2:¬ 512<(FE l k).2.2+Gn (FZ l k)):FE l (k+1)=((FE l k).1,(FE l k).2.1,(FE l k).2.2+Gn (FZ l k)):=by
 rw[FE.eq_2,if_neg h,if_neg h2]
theorem Th (l:List Cell)(hl:∀c∈l,Gn c<=1000000)(k:Nat):(FE l k).2.2<=1000512:=by
 have r:∀k,Gn (FZ l k)<=1000000:=λk=>by
  unfold FZ
  cases e:l[k]? with
  | none=>simp [Cell.zero,Gn]
  | some c=>exact hl c (Ak e)
 cases k with
 | zero=>simp [FE]
 | succ k=>
  rw[FE.eq_2];have:=r k;have:=r 0;split
  ·simp only;omega
  ·split<;>simp only<;>omega
theorem X56 {α:Type}{l:List α}{a b:α} : (l++[a]).set l.length b=l++[b]:=by simp
theorem Sy (l:List Cell)(v:Value)(w:World)(hv:EM Cell.cs 4 w v l)(hl:l.length<=30000) :
  Calls Tryz.prog 198 [v].toArray w (ER w (λu w'=>Vc.Own FT 1 9 w.heap.size w' u (Hx l))):=by
 refine cw Tryz.func198 ?_;have r:=EB.refl w;refine ws λ_ Z1=>wr (da (de Z1 (ws λ_ Z2=>wr (da (de Z2 (ws λ_ Z3=>ws λ_ Z4=>wr (dm ?_)))))));refine dv 79 4 hv.sl (dm (de Z4 (EN ?_)));refine Fk (G:=Nat×Value) (λ(k,vm)=>[(0,v),(2,.slice none 0 0),(3,vm),(6,v),(7,I ↑l.length),(8,I ↑k)]) (λ(k,vm) w'=>EB w w'/\k<=l.length/\Vc.Own FT 1 9 w.heap.size w' vm (KZ l k)) (λ(k,vm)=>l.length-k) (0,.slice none 0 0) ?_ ?_ ?_
 ·exact FSq
 ·exact⟨r,Ad _,Vc.Own.nil⟩
 intro X1 g1 w1 hb;obtain⟨k,vm⟩:=g1;clear r;obtain⟨r,hk9,ho⟩:=hb;refine ws λ_ Z5=>wr (dp (Fa rfl rfl) (de Z5 (ws λ_ Z6=>wi (λc1=>?_) λc1=>?_)))
 ·obtain⟨c,hk⟩:∃c,l[k]?=some c:=Fq;have hlk:=LP l k;have Y:=Xtf l k;rw[Fw hk]at Y;refine EG (Z6 _ _ (ws λ_ Z7=>EN (ws λ_ Z8=>wr (dm ?_))));refine di 79 4 hv.sl rfl (hv.lt hk) (dq (Fb E9 rfl rfl ((hv.ext r).row hk)) (FG (cs:=[S [],S [],B false,.int .i64 0]) rfl E9 RX.all (λb1 w2 e1 x2 z=>?_)));have g1:=r.ge e1;have J:=ho.ltb e1;have ho:=ho.ext x2;have r:=r.trans x2;refine da ?_;refine FM z (λw3 x3 xs3 z=>?_);dsimp only [Fe,Ag,Af,Ai]at z;have ho:=ho.mod x3 (by intro k hk h;have h1:=J k hk;have h2:k=b1:=h;omega);have r:=r.o1 x3;refine de Z8 (ws λ_ Z9=>F4 (R:=EB) EB.refl (λ_ _ _=>EB.trans) E9 [8,10] [(0,.p,false),(1,.p,false),(2,.p,false),(3,.p,false),(4,.p,false),(5,.p,false),(6,.p,false),(7,.p,false),(8,.l,false),(9,.p,false),(10,.l,false),(11,.p,false),(12,.p,false)] rfl E9 E9 (λw4 ha=>?_));have x4:=EJ ha;clear ha;have ho:=ho.ext x4;have z:=z.ext x4;have r:=r.trans x4;refine dm ?_;refine dp (G1 rfl rfl) (dm ?_);refine Fz 15 rfl (λc2=>?_) (λc2=>?_)
  ·iterate 9 refine dk ?_
   refine EO (de Z9 ?_);refine GD rfl (wr (dm ?_));refine df 0 rfl (dl rfl (z.at rfl) (li (e:=9) (sz:=1) (zs:=[S []]) (pv:=[(0,_)]) (cs:=[_]) RX.all (λb2 w5 e2 x5 m2=>?_)));have g2:=r.ge e2;have n2_1:=z.ltb e2;have o2_ho:=ho.ltb e2;have ho:=ho.ext x5;have z:=z.ext x5;have r:=r.trans x5;refine Gv (lx:=[c.key]) (e:=9) (sz:=1) (by':=16) rfl E9 E9 EE ho (m2.arr (enc:=FT) (sz:=1) (l:=[c.key]) rfl EE rfl (Ap rfl)) rfl rfl (by intro x _ u hu;simp at hu;rcases hu with rfl<;>rfl) (by simp;omega) EK r.size (.inl rfl) (λZ w6 O x6=>?_);have z:=z.mod x6 (by intro h;have h1:=J _ h;omega);have r:=r.own x6 (λi hi=>(ho.lt i hi).1);have ho:=O;clear m2;refine da (de Z7 (wr ?_));refine pa rfl rfl (dm (EF (?_)));refine⟨(k+1,Z),FSq,⟨r,by omega,?_⟩,by simp only [];omega⟩;rw[Y,if_pos (by unfold Jq;simp;omega)];exact ho
  obtain⟨x,hk1⟩:∃x,l[k-1]?=some x:=Fq
  iterate 2 refine dm ?_
  refine EW (v:=I ↑(k-1)) rfl (Ga rfl rfl (by unfold ET;omega)) (by show I _=I _;congr 1;omega) (di 79 4 hv.sl rfl (hv.lt hk1) (df 0 rfl (dL rfl (λ_ hR=>(((hv.ext (r.trans hR)).row hk1).at rfl)) (df 0 rfl (dL rfl (λ_ hR=>((z.ext hR).at rfl)) (dp (LR rfl rfl) (EO (de Z9 ?_))))))));refine wi (λc3=>?_) λc3=>?_
  ·refine wr (dm ?_);refine df 0 rfl (dl rfl (z.at rfl) (li (e:=9) (sz:=1) (zs:=[S []]) (pv:=[(0,_)]) (cs:=[_]) RX.all (λb3 w7 e3 x7 m3=>?_)));have g3:=r.ge e3;have o3_ho:=ho.ltb e3;have ho:=ho.ext x7;have r:=r.trans x7;refine Gv (lx:=[c.key]) (e:=9) (sz:=1) (by':=16) rfl E9 E9 EE ho (m3.arr (enc:=FT) (sz:=1) (l:=[c.key]) rfl EE rfl (Ap rfl)) rfl rfl (by intro x _ u hu;simp at hu;rcases hu with rfl<;>rfl) (by simp;omega) EK r.size (.inl rfl) (λZ w8 O x8=>?_);have r:=r.own x8 (λi hi=>(ho.lt i hi).1);have ho:=O;clear m3;refine da (de Z7 (wr ?_));refine pa rfl rfl (dm (EF (?_)));refine⟨(k+1,Z),FSq,⟨r,by omega,?_⟩,by simp only [];omega⟩;rw[Y,if_pos (by unfold Jq;rw[Fw hk1,Fw hk];simp [c3])];exact ho
  refine EG (Z7 _ _ (wr (pa rfl rfl (dm (EF (?_))))));refine⟨(k+1,vm),FSq,⟨r,by omega,?_⟩,by simp only [];omega⟩;have hf:¬ k=0:=by omega
  rw[Y,if_neg (by unfold Jq;rw[Fw hk1,Fw hk];simp [hf];simpa using c3)];exact ho
 refine Ff (Z3 _ _ (ws λ_ hc=>wr (dm (da (de hc (EH ?_))))));refine ro ?_;rw[show k=l.length by omega]at ho;exact⟨_,rfl,r,ho⟩
theorem WO (l:List Cell)(v:Value)(w:World)(hv:EM Cell.cs 4 w v l)(hl:l.length<=30000)(hsz9:∀c∈l,Gn c<=1000000)(hkv:∀c∈l,c.key.length<=1000000000/\c.val.length<=1000000000) :
  Calls Tryz.prog 199 [v].toArray w (ER w (λu w'=>Vc.Own Ja 2 284 w.heap.size w' u (Gw l))):=by
 refine cw Tryz.func199 ?_;have r:=EB.refl w;refine ws λ_ Z1=>wr (da (de Z1 (ws λ_ Z2=>wr (da (de Z2 (ws λ_ Z3=>wr (da (de Z3 (ws λ_ Z4=>ws λ_ Z5=>?_)))))))));refine wr (dm ?_);refine dv 79 4 hv.sl (dm (de Z5 (EN ?_)));refine Fk (G:=Nat×Value) (λ(k,vp)=>[(0,v),(2,.slice none 0 0),(3,vp),(4,I ↑(FE l k).2.2),(8,v),(9,I ↑l.length),(10,I ↑k)]) (λ(k,vp) w'=>EB w w'/\k<=l.length/\Vc.Own Ja 2 284 w.heap.size w' vp (Jg l k)) (λ(k,vp)=>l.length-k) (0,.slice none 0 0) ?_ ?_ ?_
 ·exact FQ
 ·exact⟨r,Ad _,Vc.Own.nil⟩
 intro X1 g1 w1 h6;obtain⟨k,vp⟩:=g1;clear r;obtain⟨r,hk9,ho⟩:=h6;refine ws λ_ Z6=>wr (dp (Fa rfl rfl) (de Z6 (ws λ_ Z7=>wi (λc1=>?_) λc1=>?_)))
 ·obtain⟨c,hk⟩:∃c,l[k]?=some c:=Fq;have hrl:=Th l hsz9 k;have hsc:=hsz9 c (Ak hk);have hg:=hkv c (Ak hk);have hpl:=OL l k;have hh:=Xwe (l:=l) (k:=k);refine EG (Z7 _ _ (ws λ_ Z8=>EN (ws λ_ Z9=>wr (dm ?_))));refine di 79 4 hv.sl rfl (hv.lt hk) (dq (Fb E9 rfl rfl ((hv.ext r).row hk)) (FG (cs:=[S [],S [],B false,.int .i64 0]) rfl E9 RX.all (λb1 w2 e1 x2 m1=>?_)));have g1:=r.ge e1;have O:=ho.ltb e1;have ho:=ho.ext x2;have r:=r.trans x2;refine da ?_;refine FM m1 (λw3 x3 xs3 m1=>?_);dsimp only [Fe,Ag,Af,Ai]at m1;have ho:=ho.mod x3 (by intro k hk h;have h1:=O k hk;have h2:k=b1:=h;omega);have r:=r.o1 x3;refine de Z9 (ws λ_ hy=>wr (dq (Fb (k:=4) E9 rfl rfl m1.row) (cP (QI c _ hg.1 hg.2) RX.all λw4 x4=>?_)));have ho:=ho.ext x4;have r:=r.trans x4;refine da (de hy ?_);refine Hz (G:=Value×List (Nat×Nat)×Nat×Nat×Nat) (λ(va,Z,f,e,s0)=>[(0,v),(2,.slice none 0 0),(3,va),(4,I ↑s0),(5,I ↑k),(7,I ↑(Gn c)),(8,v),(9,I ↑l.length),(10,I ↑k)]) (λ(va,Z,f,e,s0) w'=>EB w w'/\Vc.Own Ja 2 284 w.heap.size w' va (Z++[(f,e)])/\(Z,f,s0+Gn c)=FE l (k+1)) ?_ ?_
  ·refine ws λ_ hf=>wr (dm ?_);refine dv 284 2 (ho.arr EE).sl (dp (G1 rfl rfl) (dm ?_));refine Fz 20 rfl (λc2=>?_) (λc2=>?_)
   ·refine dk (dk (dk (dk (EO (de hf ?_)))));refine GD rfl (ws λ_ hj=>wr (dm (dm (dm ?_))));refine db (zs:=[.int .i64 0,.int .i64 0]) (pl:=[(0,1),(1,1)]) (pv:=[(0,_),(1,_)]) (cs:=[_,_]) ?_;refine li (e:=284) (sz:=2) (zs:=[.int .i64 0,.int .i64 0]) (pv:=[(0,.agg ⟨[_,_]⟩)]) (cs:=[_,_]) RX.all (λb2 w5 e2 x5 m2=>?_);have g2:=r.ge e2;have o2_ho:=ho.ltb e2;have ho:=ho.ext x5;have r:=r.trans x5;refine Gv (lx:=[(k,k)]) (e:=284) (sz:=2) (by':=16) rfl E9 E9 EE ho (m2.arr (enc:=Ja) (sz:=2) (l:=[(k,k)]) rfl EE rfl (Ap rfl)) rfl rfl (by intro x _ u hu;simp at hu;rcases hu with rfl|rfl<;>rfl) (by simp;omega) EK r.size (.inl rfl) (λha w6 z x6=>?_);have r:=r.own x6 (λi hi=>(ho.lt i hi).1);have ho:=z;clear m2;refine da (de hj (wr (da (EF (?_)))));have J:k=0:=by
     have:(Jg l k).length=0:=by omega
     exact hh.1 (A5 this)
    exact⟨(ha,Jg l k,k,k,0),Je,r,ho,by rw[SU (.inl J),Fw hk,A9]⟩
   iterate 2 refine dm ?_
   refine pa rfl rfl (dp (FY rfl rfl) (EO (de hf ?_)));refine wi (λc3=>?_) λc3=>?_
   ·refine ws λ_ ht=>wr (dm (dm (dm ?_)));refine db (zs:=[.int .i64 0,.int .i64 0]) (pl:=[(0,1),(1,1)]) (pv:=[(0,_),(1,_)]) (cs:=[_,_]) ?_;refine li (e:=284) (sz:=2) (zs:=[.int .i64 0,.int .i64 0]) (pv:=[(0,.agg ⟨[_,_]⟩)]) (cs:=[_,_]) RX.all (λb3 w7 e3 x7 m3=>?_);have g3:=r.ge e3;have o3_ho:=ho.ltb e3;have ho:=ho.ext x7;have r:=r.trans x7;refine Gv (lx:=[(k,k)]) (e:=284) (sz:=2) (by':=16) rfl E9 E9 EE ho (m3.arr (enc:=Ja) (sz:=2) (l:=[(k,k)]) rfl EE rfl (Ap rfl)) rfl rfl (by intro x _ u hu;simp at hu;rcases hu with rfl|rfl<;>rfl) (by simp;omega) EK r.size (.inl rfl) (λha w8 z x8=>?_);have r:=r.own x8 (λi hi=>(ho.lt i hi).1);have ho:=z;clear m3;refine da (de ht (wr (da (EF (?_)))));exact⟨(ha,Jg l k,k,k,0),Je,r,ho,by rw[SU (.inr (by rw[Fw hk];omega)),Fw hk,A9]⟩
   refine EG ?_;have J:k≠0:=λe=>by rw[hh.2 e]at c2;simp at c2
   exact⟨(vp,(FE l k).1,(FE l k).2.1,k,(FE l k).2.2),Je,r,by rw[show Jg l k=_ from if_neg J]at ho;exact ho,by rw[X55 J (by rw[Fw hk];omega),Fw hk]⟩
  intro X9 g9 w9 hw;obtain⟨va,Z,f,e,s0⟩:=g9;clear r ho m1;obtain⟨r,ho,Y⟩:=hw;have hq:=congrArg (λt:List (Nat×Nat)×Nat×Nat=>t.2.2) Y;simp only at hq;have hrl1:=Th l hsz9 (k+1);have hr:=congrArg (λt:List (Nat×Nat)×Nat×Nat=>t.1.length) Y;simp only at hr;have hb:=OL l (k+1);rw[Sn,Ab,List.length_singleton]at hb;obtain⟨cs9,cap9,hc,_⟩:=ho.cells EQ;refine ws λ_ hp=>wr (dm (dm ?_));refine EW (v:=I ↑(FE l (k+1)).2.2) rfl (Gx rfl rfl (by unfold ET;omega)) (by show I _=I _;congr 1;omega) (da (de hp (wr (dm (dm ?_)))));refine dv 284 2 (ho.arr EE).sl (EW (v:=I ↑Z.length) rfl (Ga rfl rfl (by unfold ET;simp;omega)) (by show I _=I _;congr 1;simp) (dm ?_));refine EW (v:=I ↑(k+1)) rfl (Gx rfl rfl (by unfold ET;omega)) (by show I _=I _;congr 1) (EW (v:=ED (base va).1 (Z.length*2)) rfl (HM (e:=284) (k:=2) E9 ho.sl rfl rfl EQ) (by rw[hc];show ED _ (0+_)=_;rw[A9]) (df 1 rfl ?_));refine H5 (enc:=Ja) (sz:=2) (i:=Z.length) (j:=1) (x:=(f,k+1)) (vs:=[I ↑(k+1)]) EE rfl ho rfl rfl rfl E9 EQ (by rw[BQ,List.getElem?_concat_length];rfl) (Aa 2) (by intro v hv;rw[Ah.1 hv];rfl) (.inl rfl) (λw10 hz xs10 z=>?_);have r:=r.own hz (λi hi=>(ho.lt i hi).1);have ho:=z;rw[X56]at ho;refine de Z8 (wr (pa rfl rfl (dm (EF (?_)))));refine⟨(k+1,va),FQ,⟨r,by omega,?_⟩,by simp only [];omega⟩;rw[Sn,<-Y];exact ho
 refine Ff (Z4 _ _ (ws λ_ h5=>wr (dm (da (de h5 (EH ?_))))));refine ro ?_;rw[show k=l.length by omega]at ho;exact⟨_,rfl,r,ho⟩
def Fy (l:List Cell):EC:=EV (Gw l).length++(Gw l).flatMap (IL l)++EV l.length++Fp (Iw (Hx l))
def H7 (l:List Cell):Int:=if l.length<1\/4096<l.length then 1 else if G8 l≠0 then G8 l else Hh (Fy l)
theorem Xg {l:List Cell}(h:l.length<1\/4096<l.length):H7 l=1:=if_pos h
theorem X57 {l:List Cell}(h:¬ (l.length<1\/4096<l.length))(h2:G8 l≠0):H7 l=G8 l:=by unfold H7;rw[if_neg h,if_pos h2]
theorem Sk {l:List Cell}(h:¬ (l.length<1\/4096<l.length))(h2:G8 l=0):H7 l=Hh (Fy l):=by unfold H7;rw[if_neg h,if_neg (λe=>e h2)]
theorem Um {l:List Cell}(h:∀c∈l,Ge c=true):(∀c∈l,Gn c<=1000000)/\∀c∈l,c.key.length<=1000000000/\c.val.length<=1000000000:=by
 refine⟨λc r=>?_,λc r=>?_⟩
 ·have:=JM (h c r);unfold Gn;omega
 ·have:=JM (h c r);omega
theorem X9m {A:EC}{s:Int}(h1:1<=s)(h2:s<=1099511627776):A++[s].flatMap FX=A++EV s.toNat:=by
 simp only [AD,Ce,AP];unfold FX;rw[VB h1 h2]
theorem Uk {a b:Nat}{ps:List (Nat×Nat)}(h:Gu a ps b)(k:Nat):∃c,Gu a (ps.take k) c/\c<=b:=by
 induction ps generalizing a k with
 | nil=>exact⟨a,by simp;rfl,Nat.le_of_eq h⟩
 | cons p r ih=>
  cases k with
  | zero=>exact⟨a,rfl,by have:=Gu.le (l:=p :: r) h;simp at this;omega⟩
  | succ k=>
   obtain⟨c,h1,h2⟩:=ih h.2.2.2 k;exact⟨c,⟨h.1,h.2.1,h.2.2.1,h1⟩,h2⟩
theorem X58 {l:List Cell}(h:∀c∈l,Ge c=true)(k:Nat):(FZ l k).key.length<=4096:=by
 unfold FZ
 cases e:l[k]? with
 | none=>simp [Cell.zero]
 | some c=>exact(JM (h c (Ak e))).1
theorem Xwj {l:List Cell}(h:∀c∈l,Ge c=true){p:Nat×Nat}(hp:p.1<p.2):(IL l p).length<=25000*(p.2-p.1):=by
 unfold IL Fp;have h1:=X58 h (p.2-1);have h2:=Gd (FZ l (p.2-1)).key.length;have h3:=Gd (FZ l (p.2-1)).seq.toNat;have h4:=Gd (GU (HO l p)).length;have h5:=OH (l:=HO l p) (λc r=>h c (Pm r));have z:(HO l p).length<=p.2-p.1:=by unfold HO;rw[Bh,A4];omega
 have h7:20600*(HO l p).length<=20600*(p.2-p.1):=CD _ z;simp only [Ab];omega
theorem Xwk {l:List Cell}(h:∀c∈l,Ge c=true){a b:Nat}{ps:List (Nat×Nat)}(hc:Gu a ps b):(ps.flatMap (IL l)).length+25000*a<=25000*b:=by
 induction ps generalizing a with
 | nil=>have e:a=b:=hc;subst e;simp
 | cons p r ih=>
  have h1:=ih hc.2.2.2;have h2:=Xwj h (p:=p) (by have:=hc.1;have:=hc.2.1;omega);have h3:=hc.1;have h4:=hc.2.1;rw[AD,Ab];omega
theorem Qo {l:List Cell}(h:∀c∈l,Ge c=true)(k:Nat):(((Gw l).take k).flatMap (IL l)).length<=25000*l.length:=by
 obtain⟨c,h1,h2⟩:=Uk (Mj l l.length) k;have:=Xwk h h1;have:25000*c<=25000*l.length:=CD _ h2;show(((Jg l l.length).take k).flatMap (IL l)).length<=_;omega
theorem OR {w:World}{v v2:Value}{bw:Nat}{Q:Nat->Prop}(hg:GO w v v2)(h:∀k,Q k->¬ Hq bw v k)(hlt:∀k,Q k->k<w.heap.size):∀k,Q k->¬ Hq bw v2 k:=λk hk h2=>h k hk (Pd hg h2 (hlt k hk))
theorem Su {l:List Cell}(h:∀c∈l,Ge c=true)(hl:l.length<=4096):(Fy l).length<=25000*l.length+6000:=by
 unfold Fy;have h1:=Qo h (Gw l).length;rw[AK]at h1;have h2:=Gd (Gw l).length;have h3:=Gd l.length;have h4:(Iw (Hx l)).length<=5130:=by rw[LF];have:=LP l l.length;unfold HC;unfold Hx;omega
 have h5:=Gd (Iw (Hx l)).length;unfold Fp;simp only [Ab];omega
theorem SR (l:List Cell)(v:Value)(w:World)(hv:EM Cell.cs 4 w v l)(hl:l.length<=30000) :
  Calls Tryz.prog 170 [v].toArray w (ER w (λu w'=>∃vb,u=.tuple #[vb,I (H7 l)]/\(H7 l=0->EM EP 1 w' vb (EI (Fy l))/\w.heap.size<=(base vb).1))):=by
 refine cw Tryz.func170 ?_;have z:=EB.refl w;refine ws λ_ Z1=>wr (da (da (de Z1 (ws λ_ Z2=>ws λ_ Z3=>wr (dm ?_)))));refine dv 79 4 (hv.ext z).sl (dp (Fa rfl rfl) (dm ?_));refine Fz 16 rfl (λc1=>?_) (λc1=>?_)
 ·refine dk (dk (dk (EO (de Z3 ?_))));refine GD rfl (ws λ_ Z4=>wr (da (da (de Z4 (EH ?_)))));refine rt ?_;rw[Xg (.inl EA)];exact⟨_,rfl,z,_,rfl,λe=>by simp at e⟩
 refine dm ?_;refine dv 79 4 (hv.ext z).sl (dp (FY rfl rfl) (EO (de Z3 ?_)));refine wi (λc2=>?_) λc2=>?_
 ·refine ws λ_ Z5=>wr (da (da (de Z5 (EH ?_))));refine rt ?_;rw[Xg (.inr EA)];exact⟨_,rfl,z,_,rfl,λe=>by simp at e⟩
 refine EG (Z2 _ _ (ws λ_ Z6=>ws λ_ Z7=>wr (dm ?_)));refine cG (Qu l v _ (hv.ext z) hl) RX.all λu1 w1 x1 yw=>?_;have hsz1:=z.size;have z:=z.trans x1;obtain⟨vb0,rfl,_⟩:=yw;refine dm ?_;refine dx rfl rfl (dx rfl rfl (da (da (de Z7 (ws λ_ Z8=>wr (dm ?_))))));refine dp (F8 rfl rfl) (de Z8 (wi (λc3=>?_) λc3=>?_))
 ·refine ws λ_ Z9=>wr (dm (da (da (de Z9 (EH ?_)))));refine rt ?_;rw[X57 EA c3];exact⟨_,rfl,z,_,rfl,λe=>absurd e c3⟩
 have hE:G8 l=0:=AI c3;obtain⟨Z,hRis⟩:=Ki.1 hE;obtain⟨yf,zl⟩:=Um Z;have zf:=OL l l.length;have hpN:(Gw l).length<=l.length:=zf;refine EG (Z6 _ _ (ws λ_ y0=>wr (FG (cs:=[.slice none 0 0]) rfl E9 RX.all (λb1 w2 e1 x2 m1=>?_))));have g1:=z.ge e1;have z:=z.trans x2;refine de y0 (ws λ_ y1=>wr (dm ?_));refine cG (WO l v _ (hv.ext z) hl yf zl) RX.all λvp w3 x3 zj=>?_;have xv:=z.size;have m1:=m1.ext x3;have z:=z.trans x3;have Y:=zj.mono xv;refine da (de y1 (ws λ_ yq=>wr (dm ?_)));refine dv 284 2 (Y.arr EE).sl (li (e:=3) (sz:=1) (zs:=[.int .i64 0]) (pv:=[(0,_)]) (cs:=[_]) RX.all (λb2 w4 e2 x4 m2=>?_));have g2:=z.ge e2;have n2_1:=m1.ltb e2;have o2_hP:=Y.ltb e2;have m1:=m1.ext x4;have Y:=Y.ext x4;have z:=z.trans x4;have r:Wr w.heap.size b1 (.slice none 0 0) [] w4:=⟨m1,Vc.Own.nil⟩;have ym:∀O,vp.ownBlock=some O->¬ Hq b1 (.slice none 0 0) O:=λO J h=>h.elim (λe=>Y.ne_blk m1 rfl (e▸J)) (λe=>by cases e);have xy:=λO J=>(Y.lt O J).2;refine cD (JQ w.heap.size b1 (.slice none 0 0) _ [↑(Gw l).length] (.slice (some ⟨b2,0,none⟩) 1 1) _ r (Ae (Aa 0:([]:EC).length<=0) EA) z.size (m2.arr (enc:=Vc.encI) (sz:=1) (l:=[↑(Gw l).length]) rfl EE rfl EQ) EQ (λO J _ hz=>by have ht:b2=O:=hz;subst ht;exact(J.elim (λh=>by omega) (λh=>by cases h)))) (.inl rfl) λu5 w5 x5 y9=>?_;have hsz5:=z.size;have Y:=Y.mod x5 ym;have z:=z.own x5 (λi hi=>r.ge g1 hi);obtain⟨rfl,v1,r,ha⟩:=y9;rw[Nh EA,AE]at r;have hln34:=trivial;have xo:=OR ha ym xy;refine de yq (ws λ_ zd=>ws λ_ yr=>wr (dm ?_));refine dv 284 2 (Y.arr EE).sl (dm (de yr (EN ?_)));refine Fk (G:=Nat×Value) (λ(k,vc)=>[(0,v),(2,.slice none 0 0),(3,I 0),(6,ED b1 0),(35,vp),(36,I ↑(Gw l).length),(37,I ↑k)]) (λ(k,vc) w'=>EB w w'/\k<=(Gw l).length/\Wr w.heap.size b1 vc (EV (Gw l).length++((Gw l).take k).flatMap (IL l)) w'/\Vc.Own Ja 2 284 w.heap.size w' vp (Gw l)/\(∀O,vp.ownBlock=some O->¬ Hq b1 vc O)) (λ(k,vc)=>(Gw l).length-k) (0,v1) ?_ ?_ ?_
 ·exact FQ
 ·exact⟨z,Ad _,by simpa using r,Y,xo⟩
 intro X6 g6 w6 zh;obtain⟨k,vc⟩:=g6;clear z Y r;obtain⟨z,hk9,r,Y,xo⟩:=zh;refine ws λ_ y3=>wr (dp (Fa rfl rfl) (de y3 (ws λ_ yx=>wi (λc4=>?_) λc4=>?_)))
 ·obtain⟨p,hkp⟩:∃p,(Gw l)[k]?=some p:=Fq;have y2:=(Mj l l.length).mem (Ak hkp);obtain⟨c,hk⟩:∃c,l[p.2-1]?=some c:=Fq;have hcs:=JM (Z c (Ak hk));have hsl:=WZ (l:=l) y2.2.2.1;have hsb:=OH (l:=HO l p) (λc hc=>Z c (Pm hc));have yy:=Qo Z k;have y4:=Gd (Gw l).length;have xj:(EV (Gw l).length++((Gw l).take k).flatMap (IL l)).length<=25000*l.length+10:=by rw[Ab];omega
  refine EG (yx _ _ (ws λ_ y8=>EN (ws λ_ ze=>wr (di 284 2 (Y.arr EE).sl rfl ((Y.arr EE).lt hkp) (dq (Fb E9 rfl rfl ((Y.arr EE).row hkp)) (FG (cs:=[.int .i64 0,.int .i64 0]) rfl E9 RX.all (λb3 w7 e3 x7 m3=>?_)))))));have g3:=z.ge e3;have hg:=r.lt;have xp:=Y.ltb e3;have r:=r.ext x7;have Y:=Y.ext x7;have z:=z.trans x7;refine FM m3 (λw8 x8 xs8 m3=>?_);dsimp only [Fe,Ag,Af,Ai]at m3;have r:=r.mod x8 (λO J h=>by have h2:O=b3:=h;subst h2;exact A6 _ (AF (hg _ J) e3.symm));have Y:=Y.mod x8 (by intro k hk h;have h1:=xp k hk;have h2:k=b3:=h;omega);have z:=z.o1 x8;refine de ze (ws λ_ zb=>wr (dm ?_));refine df 1 rfl (dl rfl (m3.at rfl) (EW (v:=I ↑(p.2-1)) rfl (Ga rfl rfl (by unfold ET;omega)) (by show I _=I _;congr 1;omega) (di 79 4 (hv.ext z).sl rfl ((hv.ext z).lt hk) (dq (Fb E9 rfl rfl ((hv.ext z).row hk)) (FG (cs:=[S [],S [],B false,.int .i64 0]) rfl E9 RX.all (λb4 w9 e4 x9 m4=>?_))))));have g4:=z.ge e4;have n4_3:=m3.ltb e4;have hh:=r.lt;have xq:=Y.ltb e4;have r:=r.ext x9;have Y:=Y.ext x9;have m3:=m3.ext x9;have z:=z.trans x9;refine FM m4 (λw10 xe xs10 m4=>?_);dsimp only [Fe,Ag,Af,Ai]at m4;have r:=r.mod xe (λO J h=>by have h2:O=b4:=h;subst h2;exact A6 _ (AF (hh _ J) e4.symm));have Y:=Y.mod xe (by intro k hk h;have h1:=xq k hk;have h2:k=b4:=h;omega);have m3:=m3.mo xe;have z:=z.o1 xe;refine de zb (ws λ_ y7=>wr (dm ?_));refine df 0 rfl (dl rfl (m3.at rfl) (df 1 rfl (dl rfl (m3.at rfl) (dp (H8 (e:=79) (k:=4) E9 (hv.ext z).sl rfl rfl rfl EA EA) ?_))));have hr:=r.lt;refine cG (Qu (HO l p) (Gz 4 v p.1 p.2) _ ((hv.ext z).slice EA EA) EA) RX.all λu11 xu xa yh=>?_;have hsz11:=z.size;have r:=r.ext xa;have Y:=Y.ext xa;have m3:=m3.ext xa;have m4:=m4.ext xa;have z:=z.trans xa;obtain⟨xk,rfl,hB⟩:=yh;rw[if_pos (PZ hE p)]at hB;have hEs:=PZ hE p;have hQ:∀O,(λO=>O=b3\/O=b4\/xk.ownBlock=some O\/vp.ownBlock=some O) O->¬ Hq b1 vc O:=λO J h=>by
   rcases J with J|J|J|J
   ·rw[J]at h;exact A6 _ (AF (hg _ h) e3.symm)
   ·rw[J]at h;exact A6 _ (AF (hh _ h) e4.symm)
   ·have h8:=hr _ h;have h7:=(hB.lt _ J).1;omega
   ·exact xo O J h
  have xm:∀O,(λO=>O=b3\/O=b4\/xk.ownBlock=some O\/vp.ownBlock=some O) O->O<xu.heap.size:=λO J=>by
   rcases J with J|J|J|J
   ·rw[J];exact m3.lt
   ·rw[J];exact m4.lt
   ·exact(hB.lt _ J).2
   ·exact(Y.lt _ J).2
  have hS:Sz xu.heap.size xu:=⟨Aa _⟩;refine dm ?_;refine dx rfl rfl (dx rfl rfl (da (da (de y7 (ws λ_ zc=>KR [.p,.l,.x,.x,.x] rfl ?_)))));refine df 0 rfl (dl rfl (m4.at rfl) (Mu (e:=5) rfl E9 E9 E9 rfl RX.all (λb5 xz w12 e5 hj xn=>?_)));have g5:=z.ge e5;have n5_4:=m4.ltb e5;have xh:=r.lt;have o5_hP:=Y.ltb e5;have a5_hS:=hS.le;have r:=r.ext hj;have Y:=Y.ext hj;have m4:=m4.ext hj;have hB:=hB.ext hj;have hS:=hS.ext hj;have z:=z.trans hj;refine li (e:=82) (sz:=1) (zs:=[.slice none 0 0]) (pv:=[(0,_)]) (cs:=[_]) RX.all (λb6 w13 e6 hf m6=>?_);have g6:=z.ge e6;have n6_4:=m4.ltb e6;have xc:=r.lt;have o6_hP:=Y.ltb e6;have a6_hS:=hS.le;have r:=r.ext hf;have Y:=Y.ext hf;have m4:=m4.ext hf;have hB:=hB.ext hf;have hS:=hS.ext hf;have xn:=xn.ext hf;have z:=z.trans hf;have hb:=λO J=>A0 (xm O J) hS.le;refine cD (KO w.heap.size b1 vc _ [(.slice (some ⟨b5,0,none⟩) c.key.length xz,c.key)] (.slice (some ⟨b6,0,none⟩) 1 1) _ r (Ae xj EA) z.size (Kk m6) (λq h=>by rw[Ah.1 h];exact xn) (λq h=>by rw[Ah.1 h];exact(show c.key.length<=1000000 by omega)) EQ (λ_ J=>(A6 b6 (AF (xc _ J) e6.symm))) (λq h hl J=>by rw[Ah.1 h]at hl J;exact(A6 b5 (AF (xh _ J) e5.symm)))) (.inl rfl) λu14 w14 h6 yj=>?_;have hsz14:=z.size;have Y:=Y.mod h6 (λO J=>hQ O (.inr (.inr (.inr J))));have m4:=m4.mod h6 (hQ _ (.inr (.inl rfl)));have hB:=hB.mod h6 (λO J=>hQ O (.inr (.inr (.inl J))));have hS:=hS.mod h6 trivial;have z:=z.own h6 (λi hi=>r.ge g1 hi);obtain⟨rfl,v2,r,ha⟩:=yj;rw[Js]at r;have h5:=Pt (p:=c.key) (M:=4096) xj EA;have hQ:=OR ha hQ hb;refine de zc (ws λ_ y5=>wr (df 3 rfl (dl rfl (m4.at rfl) (li (e:=3) (sz:=1) (zs:=[.int .i64 0]) (pv:=[(0,_)]) (cs:=[_]) RX.all (λb7 w15 e7 hy m7=>?_)))));have g7:=z.ge e7;have o7_hP:=Y.ltb e7;have a7_hS:=hS.le;have xb:=r.lt;have Y:=Y.ext hy;have hB:=hB.ext hy;have hS:=hS.ext hy;have r:=r.ext hy;have z:=z.trans hy;have hb:=λO J=>A0 (xm O J) hS.le;refine cD (JQ w.heap.size b1 v2 _ [c.seq] (.slice (some ⟨b7,0,none⟩) 1 1) _ r (Ae h5 EA) z.size (m7.arr (enc:=Vc.encI) (sz:=1) (l:=[c.seq]) rfl EE rfl EQ) EQ (λO J _ hz=>by have ht:b7=O:=hz;subst ht;exact(A6 b7 (AF (xb _ J) e7.symm)))) (.inl rfl) λu16 w16 xg yk=>?_;have hsz16:=z.size;have Y:=Y.mod xg (λO J=>hQ O (.inr (.inr (.inr J))));have hB:=hB.mod xg (λO J=>hQ O (.inr (.inr (.inl J))));have hS:=hS.mod xg trivial;have z:=z.own xg (λi hi=>r.ge g1 hi);obtain⟨rfl,v3,r,ha⟩:=yk;rw[X9m EA EA]at r;have xl:=OQ (n:=c.seq.toNat) h5;have hQ:=OR ha hQ hb;refine de y5 (wr (dm ?_));refine Ib (e:=82) (sz:=1) (zs:=[.slice none 0 0]) (pv:=[(0,?a39_0)]) (cs:=[?a39_0]) rfl E9 ⟨rfl,rfl⟩ E9 rfl ?h39 ?f39 RX.all (λb8 w17 e8 hq m8=>?k39)
  case h39=>refine⟨rfl,?_,trivial⟩<;>(conv=>lhs;whnf)
  case f39=>simp [Hw,Fe,Aw,hB.sl.cells]
  have g8:=z.ge e8;have o8_hP:=Y.ltb e8;have a8_hS:=hS.le;have xf:=r.lt;have Y:=Y.ext hq;have hB:=hB.ext hq;have hS:=hS.ext hq;have r:=r.ext hq;have z:=z.trans hq;have hb:=λO J=>A0 (xm O J) hS.le;refine cD (KO w.heap.size b1 v3 _ [(xk,GU (HO l p))] (.slice (some ⟨b8,0,none⟩) 1 1) _ r (Ae xl EA) z.size (Kk m8) (λq h=>by rw[Ah.1 h];exact(hB.arr EE)) (λq h=>by rw[Ah.1 h];exact(show(GU (HO l p)).length<=1000000 by omega)) EQ (λ_ J=>(A6 b8 (AF (xf _ J) e8.symm))) (λq h hl J=>by rw[Ah.1 h]at hl J;exact hQ _ (.inr (.inr (.inl (hB.base_block hl)))) J)) (.inl rfl) λu18 w18 x6 yb=>?_;have hsz18:=z.size;have Y:=Y.mod x6 (λO J=>hQ O (.inr (.inr (.inr J))));have z:=z.own x6 (λi hi=>r.ge g1 hi);obtain⟨rfl,v4,r,ha⟩:=yb;rw[Js]at r;have hln68:=trivial;have hQ:=OR ha hQ hb;refine de y8 (wr (pa rfl rfl (dm (EF (?_)))));refine⟨(k+1,v4),FQ,⟨z,by omega,?_,Y,λO J=>hQ O (.inr (.inr (.inr J)))⟩,by simp only [];omega⟩;have y6:IL l p=Fp c.key++EV c.seq.toNat++Fp (GU (HO l p)):=by unfold IL;rw[Fw hk]
  rw[Gs hkp,Bb,AD,Ce,y6];simpa only [AA,AP]using r
 have yy:=Qo Z k;have y4:=Gd (Gw l).length;have xi:(EV (Gw l).length++((Gw l).take k).flatMap (IL l)).length<=25000*l.length+10:=by rw[Ab];omega
 refine Ff (zd _ _ (ws λ_ zi=>wr (dm ?_)));refine dv 79 4 (hv.ext z).sl (li (e:=3) (sz:=1) (zs:=[.int .i64 0]) (pv:=[(0,_)]) (cs:=[_]) RX.all (λb9 w19 e9 yl m9=>?_));have g9:=z.ge e9;have xd:=r.lt;have r:=r.ext yl;have z:=z.trans yl;refine cD (JQ w.heap.size b1 vc _ [↑l.length] (.slice (some ⟨b9,0,none⟩) 1 1) _ r (Ae xi EA) z.size (m9.arr (enc:=Vc.encI) (sz:=1) (l:=[↑l.length]) rfl EE rfl EQ) EQ (λO J _ hz=>by have ht:b9=O:=hz;subst ht;exact(A6 b9 (AF (xd _ J) e9.symm)))) (.inl rfl) λu20 w20 yp xw=>?_;have hsz20:=z.size;have z:=z.own yp (λi hi=>r.ge g1 hi);obtain⟨rfl,v5,r,ha⟩:=xw;rw[Nh EA]at r;have hw:=OQ (n:=l.length) xi;refine de zi (ws λ_ zg=>wr (dm ?_));refine cG (Sy l v _ (hv.ext z) hl) RX.all λvK w21 ye Z0=>?_;have xr:=z.size;have r:=r.ext ye;have z:=z.trans ye;have hK:=Z0.mono xr;have hr:=r.lt;refine cG (VT (Hx l) vK _ (hK.arr EE) (by have:=LP l l.length;unfold Hx;omega) (λs9 J=>by obtain⟨c9,yo,rfl⟩:=S3 (Aa _) J;have:=JM (Z c9 yo);omega)) RX.all λvM w22 yg hM=>?_;have hsz22:=z.size;have r:=r.ext yg;have z:=z.trans yg;refine Ib (e:=82) (sz:=1) (zs:=[.slice none 0 0]) (pv:=[(0,?a44_0)]) (cs:=[?a44_0]) rfl E9 ⟨rfl,rfl⟩ E9 rfl ?h44 ?f44 RX.all (λyd w23 xx xt yu=>?k44)
 case h44=>refine⟨rfl,?_,trivial⟩<;>(conv=>lhs;whnf)
 case f44=>simp [Hw,Fe,Aw,hM.sl.cells]
 have g10:=z.ge xx;have hp:=r.lt;have r:=r.ext xt;have hM:=hM.ext xt;have z:=z.trans xt;refine cD (KO w.heap.size b1 v5 _ [(vM,Iw (Hx l))] (.slice (some ⟨yd,0,none⟩) 1 1) _ r (Ae hw EA) z.size (Kk yu) (λq h=>by rw[Ah.1 h];exact(hM.arr EE)) (λq h=>by rw[Ah.1 h];exact(show(Iw (Hx l)).length<=1000000 by rw[LF];have:=LP l l.length;unfold HC Hx;omega)) EQ (λ_ J=>(A6 yd (AF (hp _ J) xx.symm))) (λq h hl J=>by rw[Ah.1 h]at hl J;exact(by have h8:(base vM).1<_:=hr _ J;have h7:=(hM.base_ge hl).1;omega))) (.inl rfl) λu24 w24 yv yc=>?_;have hsz24:=z.size;have z:=z.own yv (λi hi=>r.ge g1 hi);obtain⟨rfl,v6,r,ha⟩:=yc;rw[Js]at r;have hln78:=Pt (p:=Iw (Hx l)) (M:=1000000) hw (by rw[LF];have:=LP l l.length;unfold HC Hx;omega);refine de zg (ws λ_ zk=>wr (cG (MK w.heap.size b1 v6 _ _ r EA) RX.all λvo w25 yt hO=>?_));have hsz25:=z.size;have z:=z.trans yt;rw[show k=(Gw l).length by omega,AK]at hO;change Vc.Own EP 1 _ _ _ vo (Fy l)at hO;refine Ib (e:=82) (sz:=1) (zs:=[.slice none 0 0]) (pv:=[(0,?a45_0)]) (cs:=[?a45_0]) rfl E9 ⟨rfl,rfl⟩ E9 rfl ?h45 ?f45 RX.all (λb11 w26 yz x0 yn=>?k45)
 case h45=>refine⟨rfl,?_,trivial⟩<;>(conv=>lhs;whnf)
 case f45=>simp [Hw,Fe,Aw,hO.sl.cells]
 have g11:=z.ge yz;have hO:=hO.ext x0;have z:=z.trans x0;refine cG (Q7 (Fy l) vo _ _ (yn.arr (enc:=λx:Value=>[x]) (sz:=1) (l:=[vo]) rfl EE rfl EQ) (hO.arr EE) (by have:=Su Z EA;omega)) RX.all λu27 w27 za ya=>?_;have hsz27:=z.size;have z:=z.trans za;obtain⟨vb,rfl,yi⟩:=ya;refine dx rfl rfl (dx rfl rfl (da (da (de zk (EH ?_)))));refine rt ?_;rw[Sk EA hE];exact⟨_,rfl,z,_,rfl,λe=>⟨(yi e).1,by have:=(yi e).2;omega⟩⟩
end Go.Proofs.YtiooodckiddpmaaGreatDoor
namespace Go.Vc
open Go.RowKit Go.Maps
@[reducible] def Gi (p:Int×Int):Value:=.agg ⟨[I p.1,I p.2]⟩
def Ju (p:Int×Int):Prop:=ET p.1/\ET p.2
theorem X0f (x y:Int×Int)(h:Gi x=Gi y):x=y:=by
 simp [Gi]at h;exact Prod.ext h.1 h.2
theorem WD {P:Program}{e d:Nat}(he:P.underlying e=some (.int .i64)){n:Int}(hn:ET n):P.keyLits (d+1) e [I n]=some [.int .i64 n]:=by
 have r:(Lit.int .i64 n).wf=true:=by
  unfold ET at hn;simp [Lit.wf,IntKind.min,IntKind.max,IntKind.signed,IntKind.bits];omega
 simp [Program.keyLits,he,r]
theorem VQ {P:Program}{e d:Nat}(he:P.underlying e=some (.int .i64)){cs:List Value}{l:List Lit}(h:P.keyLits (d+1) e cs=some l):∃n:Int,cs=[I n]/\ET n:=by
 unfold Program.keyLits at h;rw[he]at h
 match cs,h with
 | [.int q' n],h=>
  simp only []at h;split at h
  ·rename_i r;obtain⟨rfl,z⟩:=r;refine⟨n,rfl,?_⟩;have hw':-9223372036854775808<=n/\n<=9223372036854775807:=by simpa [Lit.wf,IntKind.min,IntKind.max,IntKind.signed,IntKind.bits]using z
   unfold ET;omega
  ·cases h
def QT (P:Program)(k i:Nat):Prop:=∀d cs,P.keyLits (d+1) k cs=if cs.length=2 then((P.keyLits d i (cs.take 1)).bind λa=>(P.keyLits d i ((cs.drop 1).take 1)).bind λb=>some [a,b]).map List.flatten else none
theorem Xtg {P:Program}{k i:Nat}(hk:P.underlying k=some (.array 2 i))(hc:P.cellsOf k=2)(hi:P.cellsOf i=1):QT P k i:=λd cs=>by
 rw[Program.keyLits.eq_def];simp only [hk,hc,hi];rfl
theorem U7 {P : Program} {k i : Nat} (hs : (match P.underlying k with | some (.struct fs) => decide (fs.toList.map (λ f => (f.type, f.offset)) = [(i, 0), (i, 1)]) && fs.all (·.name != "_") | _ => false) = true) (hc : P.cellsOf k = 2) (hi : P.cellsOf i = 1) : QT P k i := λ d cs => by
 split at hs
 ·rename_i fs hk;rw[Au,decide_eq_true_eq]at hs;obtain⟨hf,ha⟩:=hs;rw[Program.keyLits.eq_def];simp only [hk,hc,ha,and_true];obtain⟨f0,r0,h0,h1,h2⟩:=Ee.1 hf;obtain⟨f1,r1,h3,h4,h5⟩:=Ee.1 h2;have h6:=List.map_eq_nil_iff.1 h5;subst h6 h3;rw[h0];simp only [Prod.mk.injEq]at h1 h4;simp only [List.mapM_cons,List.mapM_nil,h1.1,h1.2,h4.1,h4.2,hi,Nat.zero_mul,Ca,Option.bind_eq_bind,Option.pure_def,Option.bind_some]
  cases P.keyLits d i (Af 1 cs)<;>cases P.keyLits d i (Af 1 (Ai 1 cs))<;>rfl
 ·cases hs
theorem PR {P:Program}{α:Type}{t k e i:Nat}{av:α->Value}(hl:laidOutB P=true)(hu:P.underlying t=some (.map k e))(hL:QT P k i)(hi:P.underlying i=some (.int .i64))(hc:P.cellsOf k=2)
  (hwide:(match P.underlying k with|some (.array _ _)|some (.struct _)=>true|_=>false)=true) (hkt:P.keyType k=true) (hka:P.keyTypeAt 2 k=true) (hrow:Nat.blt k P.types.size=true)
  (ha:∀a b,av a=av b->a=b):MapK P t k e Gi av Ju:=by
 have O:k<P.types.size:=by simpa [Nat.blt_eq]using hrow
 obtain⟨d,hd⟩:∃d,P.types.size=d+1:=⟨P.types.size-1,by omega⟩;have Z:∀v,keyOf P k v=if P.keyType k && v.formed P k then(P.keyLits (P.types.size+1) k v.cells.toList).map λls=>.string (keyBytes ls)else none:=λv=>by
  unfold keyOf;split at hwide
  ·rename_i h;rw[h]
  ·rename_i h;rw[h]
  ·cases hwide
 have z:∀cs:Array Value,(Value.agg cs).formed P k=decide (cs.size=2):=λcs=>by
  split at hwide
  ·rename_i h;simp [Value.formed,h,hc];rfl
  ·rename_i h;simp [Value.formed,h,hc];rfl
  ·cases hwide
 have J:∀v:Value,v.formed P k=true->∃cs,v=.agg cs:=λv Y=>by
  split at hwide
  ·rename_i h;cases v<;>simp [Value.formed,h]at Y;exact⟨_,rfl⟩
  ·rename_i h;cases v<;>simp [Value.formed,h]at Y;exact⟨_,rfl⟩
  ·cases hwide
 refine⟨hu,Keyed.of_law (deep_law_laid hl (m:=2) EA O hka hwide),λx hx=>?_,λv l hv=>?_,X0f,ha⟩
 ·refine⟨.string (keyBytes ([[.int .i64 x.1],[.int .i64 x.2]].flatten)),?_⟩;rw[Z,hkt,z,hd,hL];simp only [Value.cells,AB,Bc,if_true,Cr,List.take_zero,List.drop_succ_cons,Ca,WD hi hx.1,WD hi hx.2];rfl
 ·rw[Z,hkt,Cu]at hv;split at hv
  ·rename_i Y;obtain⟨cs,rfl⟩:=J v Y;rw[z,decide_eq_true_eq]at Y;simp only [hd,Value.cells,Bd]at hv;obtain⟨ls,r,_⟩:=hv;rw[hL]at r;split at r
   ·simp only [Bd,Option.bind_eq_some_iff]at r;obtain⟨_,⟨a,hA,b,hB,_⟩,_⟩:=r;obtain⟨n,h1,hn⟩:=VQ hi hA;obtain⟨m,h2,hm⟩:=VQ hi hB;refine⟨(n,m),?_,hn,hm⟩;show Value.agg cs=.agg ⟨_⟩
    congr 1
    apply Array.toList_inj.1
    have hlen:cs.toList.length=2:=by simpa using Y
    rw[<-AT 1 cs.toList,h1];have:cs.toList.drop 1=(cs.toList.drop 1).take 1:=by rw[Ax (by simp;omega)]
    rw[this,h2];rfl
   ·cases r
  ·cases hv
theorem mapI {P:Program}{α:Type}{t k e:TypeId}{av:α->Value}(hu:P.underlying t=some (.map k e))(hk:P.underlying k=some (.int .i64))(ha:∀a b,av a=av b->a=b):MapK P t k e I av ET:=
 ⟨hu,int_keyed hk,λx J=>⟨.int .i64 x,by
  have r:(Lit.int .i64 x).wf=true:=by
   unfold ET at J;simp [Lit.wf,IntKind.min,IntKind.max,IntKind.signed,IntKind.bits];omega
  simp [keyOf,hk,mapKey,r]⟩,λv l z=>by
  simp only [keyOf,hk]at z
  cases v<;>simp [mapKey,hk]at z
  rename_i q n;obtain⟨⟨rfl,r⟩,rfl⟩:=z;refine⟨n,rfl,?_⟩;have hw':-9223372036854775808<=n/\n<=9223372036854775807:=by simpa [Lit.wf,IntKind.min,IntKind.max,IntKind.signed,IntKind.bits]using r
  unfold ET;omega,λx y h=>by simpa using h,ha⟩
end Go.Vc
namespace Go.Proofs.YtiooodckiddpmaaGreatDoor
open Go.Vc Go.Sp
attribute [local irreducible] W XW Dw Gm
theorem Tu (a b:Bool)(h:Value.bool a=.bool b):a=b:=by simpa using h
theorem Wx : MapK Tryz.prog 183 284 4 Gi B Ju:=PR (i:=3) E9 E9 (U7 E9 E9 E9) E9 E9 E9 E9 E9 E9 Tu
structure TblE (bt:Nat)(vl vb:Value)(l:List Cell)(w:World):Prop where
 m:∃vp,EL w bt [vl,vp,vb] 185
 a:EM Cell.cs 4 w vl l
 b:EM EP 1 w vb (Iw (Hx l))
 ok:H7 l=0
@[reducible] def IS (bt:Nat) (vl vb:Value):Nat->Prop:=λk=>k=bt\/k=(base vl).1\/k=(base vb).1
theorem L6 {l:List Cell}(h:H7 l=0):1<=l.length/\l.length<=4096/\G8 l=0/\Hh (Fy l)=0:=by
 unfold H7 at h;split at h
 ·simp at h
 ·split at h
  ·rename_i h2;exact absurd h h2
  ·rename_i h1 h2;exact⟨by omega,by omega,AI h2,h⟩
theorem TblE.mod {bt:Nat}{vl vb:Value}{l:List Cell}{S:Nat->Prop}{w w':World}(h:TblE bt vl vb l w)(x:Vc.Mod S w w')(hS:∀k,IS bt vl vb k->¬ S k):TblE bt vl vb l w':=by
 obtain⟨⟨vp,h1⟩,h2,h3,h4⟩:=h;exact⟨⟨vp,h1.mod x (hS _ (.inl rfl))⟩,h2.mod x (λ_=>hS _ (.inr (.inl rfl))),h3.mod x (λ_=>hS _ (.inr (.inr rfl))),h4⟩
theorem TblE.ext {bt:Nat}{vl vb:Value}{l:List Cell}{w w':World}(h:TblE bt vl vb l w)(x:EB w w'):TblE bt vl vb l w':=h.mod x (λ_ _ h=>h)
theorem TblE.lt {bt:Nat}{vl vb:Value}{l:List Cell}{w:World}(h:TblE bt vl vb l w):∀k,IS bt vl vb k->k<w.heap.size:=by
 obtain⟨⟨vp,h1⟩,h2,h3,h4⟩:=h;have z:=L6 h4;rintro k (rfl|rfl|rfl)
 ·exact h1.lt
 ·exact h2.base_lt EK (λe=>by rw[e]at z;simp at z)
 ·exact h3.base_lt EK (λe=>by have r:=LF (Hx l);rw[e]at r;unfold HC at r;simp at r;omega)
theorem RJ {α β:Type}(f:α->List β)(l:List α)(k:Nat):((l.drop k).flatMap f).length<=(l.flatMap f).length:=by
 have h:=congrArg (λm=>(m.flatMap f).length) (AT k l);simp only [Bb,Ab]at h;omega
theorem Xpu (l:List Cell)(k:Nat):(((Gw l).take k).flatMap (HO l)).length<=l.length:=by
 obtain⟨c,h1,h2⟩:=Uk (Mj l l.length) k;unfold Gw;rw[SP h1,Bh,A4];omega
theorem Xwm (l:List Cell):(Gw l).flatMap (HO l)=l:=by
 unfold Gw;rw[SP (Mj l l.length)];simp
theorem V8 (l:List Cell):Fy l=EV (Gw l).length++(((Gw l).flatMap (IL l))++(EV l.length++Fp (Iw (Hx l)))):=by unfold Fy;simp only [AA]
theorem UU (l:List Cell)(v:Value)(w:World)(hv:EM EP 1 w v (EI (Fy l)))(hb:H7 l=0) :
  Calls Tryz.prog 124 [v].toArray w (ER w (λu w'=>∃bt vl vb,u=.tuple #[ED bt 0,I 0]/\TblE bt vl vb l w'/\∀k,IS bt vl vb k->w.heap.size<=k)):=by
 refine cw Tryz.func124 ?_;have r:=EB.refl w;obtain⟨xo,hl2,hE,y7⟩:=L6 hb;obtain⟨hf,hRis⟩:=Ki.1 hE;obtain⟨xl,ze⟩:=Um hf;have htl:=SG y7;have y5:=OL l l.length;have hpN:(Gw l).length<=l.length:=y5;have hmk:(Iw (Hx l)).length<=5130:=by rw[LF];have:=LP l l.length;unfold HC;unfold Hx;omega
 have yh:(EI (Fy l)).length<=2001000020:=by rw[Jz];omega
 have xr:=congrArg A7 (V8 l);simp only [Ab]at xr;have xq:EV (Gw l).length++(((Gw l).flatMap (IL l))++(EV l.length++Fp (Iw (Hx l))))≠[]:=λe=>by
  have h9:=congrArg A7 e;have h8:1<=(EV (Gw l).length).length:=Nx 9 _;rw[Ab,Bc]at h9;omega
 refine ws λ_ Z1=>wr (da (da (de Z1 (ws λ_ Z2=>wr (dm ?_)))));refine cG (SS (EI (Fy l)) v _ (hv.ext r) yh) RX.all λu1 w1 x1 x0=>?_;have hsz1:=r.size;have r:=r.trans x1;obtain⟨vo,rfl,hV⟩:=x0;rw[Pz _ EA]at hV;refine dm ?_;refine dx rfl rfl (dx rfl rfl (da (da (de Z2 (ws λ_ Z3=>ws λ_ Z4=>wr (dm ?_))))));refine dp (F8 rfl rfl) (de Z4 (wi (λc1=>?_) λc1=>?_))
 ·rw[Pz _ EA]at c1;simp at c1
 refine EG (Z3 _ _ (ws λ_ Z5=>wr (dm ?_)));refine cG (MM (Fy l) vo _ (hV.arr EE) EA) RX.all λu2 w2 x2 za=>?_;have hw:=r.size;have r:=r.trans x2;obtain⟨br,bb,yu,rfl,y2,gbb,z⟩:=za;have hbr:w.heap.size<=br:=Ae hw y2;have ht:=z.lt;rw[V8]at z ht;have yn:=Ae hw x2.size;have Z:Sz w2.heap.size w2:=⟨Aa _⟩;refine da (de Z5 (ws λ_ Z6=>wr (da (de Z6 (ws λ_ Z7=>ws λ_ Z8=>wr (dm ?_))))));refine cD (KW br bb yu _ false _ z (by simp only [Ab];omega)) (.inl rfl) λu3 w3 x3 zf=>?_;have hsz3:=r.size;have Z:=Z.mod x3 trivial;have r:=r.own x3 (λi hi=>(by have h2:i=br:=hi;omega));obtain⟨xg,y9,z⟩:=zf;rw[JK _ _ EA]at xg z;dsimp only at xg z;subst xg;refine dm (de Z8 (EN ?_));refine Fk (G:=Nat×Value×Value) (λ(k,vc,vl)=>[(0,v),(5,I (HB (EI (Fy l))).2),(6,ED br 0),(7,vl),(25,I ↑(Gw l).length),(26,I ↑k)]) (λ(k,vc,vl) w'=>EB w w'/\k<=(Gw l).length/\Rd br bb vc ((((Gw l).drop k).flatMap (IL l))++(EV l.length++Fp (Iw (Hx l)))) false w'/\Vc.Own Cell.cs 4 79 w2.heap.size w' vl (((Gw l).take k).flatMap (HO l))/\Sz w2.heap.size w') (λ(k,vc,vl)=>(Gw l).length-k) (0,y9,.slice none 0 0) ?_ ?_ ?_
 ·exact FSq
 ·exact⟨r,Ad _,z,Vc.Own.nil,Z⟩
 intro X4 g4 w4 y0;obtain⟨k,vc,vl⟩:=g4;clear r Z z;obtain⟨r,yb,z,ho,Z⟩:=y0;refine ws λ_ Z9=>wr (dp (Fa rfl rfl) (de Z9 (ws λ_ yc=>wi (λc2=>?_) λc2=>?_)))
 ·obtain⟨p,hkp⟩:∃p,(Gw l)[k]?=some p:=Fq;have xk:=(Mj l l.length).mem (Ak hkp);obtain⟨c,hk⟩:∃c,l[p.2-1]?=some c:=Fq;have hcs:=JM (hf c (Ak hk));have hsl:=WZ (l:=l) xk.2.2.1;have hsb:=OH (l:=HO l p) (λc hc=>hf c (Pm hc));have hfd:=RJ (IL l) (Gw l) k;have hfs:=Xpu l k;have xm:((((Gw l).drop k).flatMap (IL l))++(EV l.length++Fp (Iw (Hx l))))=(Fp c.key++(EV c.seq.toNat++(Fp (GU (HO l p))++(((Gw l).drop (k+1)).flatMap (IL l)++(EV l.length++Fp (Iw (Hx l))))))):=by rw[HY hkp,AD];unfold IL;rw[Fw hk];simp only [AA]
  have y1:=congrArg A7 xm;simp only [Ab]at y1;refine EG (yc _ _ (ws λ_ yi=>EN (ws λ_ xv=>wr (dm ?_))));rw[xm]at z;refine cD (KI br bb vc _ false _ z (by simp only [Ab];omega)) (.inl rfl) λu5 w5 x5 yp=>?_;have hsz5:=r.size;have ho:=ho.mod x5 (λk9 h9 e=>ho.ne_blk z.m rfl (by rw[h9];exact congrArg some e));have Z:=Z.mod x5 trivial;have r:=r.own x5 (λi hi=>(by have h2:i=br:=hi;omega));obtain⟨_,yg,z⟩:=yp;rw[K8 _ _ _ EA]at z;dsimp only at z;refine de xv (ws λ_ yt=>wr (dm ?_));refine cD (KW br bb yg _ false _ z (by simp only [Ab];omega)) (.inl rfl) λu6 w6 x6 y3=>?_;have hsz6:=r.size;have ho:=ho.mod x6 (λk9 h9 e=>ho.ne_blk z.m rfl (by rw[h9];exact congrArg some e));have Z:=Z.mod x6 trivial;have r:=r.own x6 (λi hi=>(by have h2:i=br:=hi;omega));obtain⟨rfl,yd,z⟩:=y3;rw[JK _ _ EA]at z;dsimp only at z;refine de yt (ws λ_ xw=>wr (dm ?_));refine cD (KI br bb yd _ false _ z (by simp only [Ab];omega)) (.inl rfl) λuB w7 x7 xz=>?_;have hsz7:=r.size;have ho:=ho.mod x7 (λk9 h9 e=>ho.ne_blk z.m rfl (by rw[h9];exact congrArg some e));have Z:=Z.mod x7 trivial;have r:=r.own x7 (λi hi=>(by have h2:i=br:=hi;omega));obtain⟨hB,xt,z⟩:=xz;rw[K8 _ _ _ EA]at hB z;dsimp only at hB z;refine cG (X0d (HO l p) uB _ (hB.arr EE) EA (PZ hE p)) RX.all λu8 w8 x8 ye=>?_;have hsz8:=r.size;have ho:=ho.ext x8;have Z:=Z.ext x8;have z:=z.ext x8;have r:=r.trans x8;obtain⟨vC,rfl,hC⟩:=ye;refine dm ?_;refine dx rfl rfl (dx rfl rfl (da (da (de xw (ws λ_ yk=>ws λ_ x4=>wr (dm ?_))))));refine cP (P7 br bb xt _ false _ z) RX.all λw9 x9=>?_;have ho:=ho.ext x9;have Z:=Z.ext x9;have z:=z.ext x9;have hC:=hC.ext x9;have r:=r.trans x9;refine dn (dm ?_);refine I8 41 rfl (λc3=>?_) (λc3=>?_)
  ·simp at c3
  refine dm ?_;refine dp (F8 rfl rfl) (EO (de x4 ?_));refine wi (λc4=>?_) λc4=>?_
  ·exact absurd rfl c4
  refine EG (yk _ _ (wr (dm (dm ?_))));refine Gv (lx:=(HO l p)) (e:=79) (sz:=4) (by':=48) rfl E9 E9 EE ho ((hC.arr EE)) rfl rfl (by intro x _ u hu;simp at hu;rcases hu with rfl|rfl|rfl|rfl<;>rfl) EA EK Z.le (.inl rfl) (λxy w10 xj xa=>?_);have Z:=Z.mod xa (by trivial);have z:=z.mod xa (by intro k9 h9 e9;have h8:=ht k9 (HW (λ_=>xq) h9);have h7:=(ho.lt k9 e9).1;omega);have r:=r.own xa (λi hi=>(Ae yn (ho.lt i hi).1));have ho:=xj;refine da (de yi (wr ?_));refine pa rfl rfl (dm (EF (?_)));refine⟨(k+1,xt,xy),FSq,⟨r,by omega,z,?_,Z⟩,by simp only [];omega⟩;rw[Gs hkp,Bb,AD,Ce,AP];exact ho
 have yx:k=(Gw l).length:=by omega
 rw[yx,AK,Xwm]at ho;have O:=ho;refine Ff (Z7 _ _ (ws λ_ yo=>wr (dm ?_)));refine cG (SR l vl _ (O.arr EE) EA) RX.all λu11 w11 xf xn=>?_;have hsz11:=r.size;have z:=z.ext xf;have O:=O.ext xf;have r:=r.trans xf;obtain⟨yy,rfl,yw⟩:=xn;have xi:=(yw hb).1;refine dm ?_;refine dx rfl rfl (dx rfl rfl (da (da (de yo (ws λ_ y4=>ws λ_ yq=>wr (dm ?_))))));refine dp (F8 rfl rfl) (dm ?_);refine Fz 56 rfl (λc5=>?_) (λc5=>?_)
 ·exact absurd hb c5
 iterate 2 refine dm ?_
 refine cP (Oh (EI (Fy l)) (EI (Fy l)) yy v _ xi (hv.ext r)) RX.all λw12 xb=>?_;have z:=z.ext xb;have O:=O.ext xb;have r:=r.trans xb;refine dn ?_;refine EO (de yq ?_);refine wc (λc6=>?_) λc6=>?_
 ·simp at c6
 refine EG (y4 _ _ (ws λ_ ym=>wr (dm ?_)));refine Oy Wx rfl RX.all (λb1 w13 e1 hz J=>?_);have g1:=r.ge e1;have a1_hR:=z.lt;have o1_hL:=O.ltb e1;have z:=z.ext hz;have O:=O.ext hz;have r:=r.trans hz;refine dm ?_;refine cG (Sy l vl _ (O.arr EE) EA) RX.all λvK w14 hr hK=>?_;have hsz14:=r.size;have z:=z.ext hr;have O:=O.ext hr;have J:=J.ext hr;have r:=r.trans hr;refine cG (VT (Hx l) vK _ (hK.arr EE) (by have:=LP l l.length;unfold Hx;omega) (λs9 h9=>by obtain⟨c9,xu,rfl⟩:=S3 (Aa _) h9;have:=JM (hf c9 xu);omega)) RX.all λvM w15 hq xx=>?_;have xh:=r.size;have z:=z.ext hq;have O:=O.ext hq;have J:=J.ext hq;have r:=r.trans hq;have Y:=xx.mono xh;refine dp (Nk (zs:=[.slice none 0 0,.map none,.slice none 0 0]) (pl:=[(0,1),(1,1),(2,1)]) (pv:=[(0,?a40_0),(1,?a40_1),(2,?a40_2)]) (cs:=[?a40_0,?a40_1,?a40_2]) E9 E9 ?h40 ?f40) ?k40
 case h40=>refine⟨rfl,?_,rfl,?_,rfl,?_,trivial⟩<;>(conv=>lhs;whnf)
 case f40=>rcases O.sl with⟨e,_⟩|⟨_,_,_,e,_⟩|⟨_,_,_,e⟩<;>rcases Y.sl with⟨e2,_⟩|⟨_,_,_,e2,_⟩|⟨_,_,_,e2⟩<;>rw[e,e2]<;>rfl
 refine Gc rfl rfl rfl RX.all (λb2 w16 e2 hp m2=>?_);have g2:=r.ge e2;have n2_mp1:=J.lt;have a2_hR:=z.lt;have o2_hL:=O.ltb e2;have o2_hM:=Y.ltb e2;have z:=z.ext hp;have O:=O.ext hp;have J:=J.ext hp;have Y:=Y.ext hp;have r:=r.trans hp;refine da (de ym (ws λ_ yr=>ws λ_ yl=>wr (dm ?_)));refine cG (WO l vl _ (O.arr EE) EA xl ze) RX.all λvP w17 hh zc=>?_;have xe:=r.size;have z:=z.ext hh;have O:=O.ext hh;have J:=J.ext hh;have Y:=Y.ext hh;have m2:=m2.ext hh;have r:=r.trans hh;have hP:=zc.mono xe;refine dv 284 2 (hP.arr EE).sl (dm (de yl (EN ?_)));refine Fk (G:=Nat×(Int×Int->Option Bool)) (λ(k,fm)=>[(11,ED b2 0),(70,vP),(71,I ↑(Gw l).length),(72,I ↑k)]) (λ(k,fm) w'=>EB w w'/\Vc.Own Cell.cs 4 79 w2.heap.size w' vl l/\Vc.Own EP 1 5 w.heap.size w' vM (Iw (Hx l))/\EL w' b2 [vl,.map (some b1),vM] 185/\Vc.Own Ja 2 284 w.heap.size w' vP (Gw l)/\k<=(Gw l).length/\Vc.Xbn Tryz.prog 284 Gi B w' b1 k fm) (λ(k,fm)=>(Gw l).length-k) (0,λ_=>none) ?_ ?_ ?_
 ·exact FU
 ·exact⟨r,O,Y,m2,hP,Ad _,J⟩
 intro X18 yj w18 xp;obtain⟨k,fm⟩:=yj;clear r z Z O xi J hK Y m2 hP;obtain⟨r,O,Y,m2,hP,yb,J⟩:=xp;refine ws λ_ y8=>wr (dp (Fa rfl rfl) (de y8 (ws λ_ y6=>wi (λc7=>?_) λc7=>?_)))
 ·obtain⟨p,hkp⟩:∃p,(Gw l)[k]?=some p:=Fq;have xk:=(Mj l l.length).mem (Ak hkp);refine EG (y6 _ _ (ws λ_ zd=>EN (ws λ_ yf=>wr (di 284 2 (hP.arr EE).sl rfl ((hP.arr EE).lt hkp) (dq (Fb E9 rfl rfl ((hP.arr EE).row hkp)) (FG (cs:=[.int .i64 0,.int .i64 0]) rfl E9 RX.all (λb3 w19 e3 hj m3=>?_)))))));have g3:=r.ge e3;have n3_2:=m2.ltb e3;have n3_mp1:=J.lt;have h6:=O.ltb e3;have h5:=Y.ltb e3;have xd:=hP.ltb e3;have O:=O.ext hj;have Y:=Y.ext hj;have m2:=m2.ext hj;have hP:=hP.ext hj;have J:=J.ext hj;have r:=r.trans hj;refine FM m3 (λw20 hg xs20 m3=>?_);dsimp only [Fe,Ag,Af,Ai]at m3;have O:=O.mod hg (by intro k hk h;have h1:=h6 k hk;have h2:k=b3:=h;omega);have Y:=Y.mod hg (by intro k hk h;have h1:=h5 k hk;have h2:k=b3:=h;omega);have m2:=m2.mo hg;have hP:=hP.mod hg (by intro k hk h;have h1:=xd k hk;have h2:k=b3:=h;omega);have J:=J.mod hg (by intro h;have h2:_=b3:=h;omega);have r:=r.o1 hg;refine de yf (F4 (R:=EB) EB.refl (λ_ _ _=>EB.trans) E9 [3,4] [(0,.p,false),(1,.p,false),(2,.p,false),(3,.l,false),(4,.l,false),(5,.x,true)] rfl E9 E9 (λw21 hy=>?_));have ha:=EJ hy;clear hy;have O:=O.ext ha;have Y:=Y.ext ha;have m2:=m2.ext ha;have hP:=hP.ext ha;have J:=J.ext ha;have m3:=m3.ext ha;have r:=r.trans ha;refine dm ?_;refine dz rfl (df 1 rfl (dL rfl (λ_ z=>((m2.ext z).at rfl)) (FK rfl (λw' z=>Fb (k:=2) E9 rfl rfl (m3.ext z).row) ?_)));refine NW Wx (kx:=((p.1:Int),(p.2:Int))) (a:=true) rfl rfl rfl rfl J (by unfold Ju ET;constructor<;>simp<;>omega) (by unfold maxLen;omega) (.inl rfl) (λw22 hl xs22 xc=>?_);have O:=O.mod hl (by exact(λk hk e=>J.ne_own O (hk.trans (congrArg some e))));have Y:=Y.mod hl (by exact(λk hk e=>J.ne_own Y (hk.trans (congrArg some e))));have m2:=m2.mod hl (by exact λe=>J.ne_blk m2 e);have hP:=hP.mod hl (by exact(λk hk e=>J.ne_own hP (hk.trans (congrArg some e))));have r:=r.own hl (λi hi=>by have yv:i=b1:=hi;subst yv;omega);have J:=xc;refine de zd (wr (pa rfl rfl (dm (EF (?_)))));exact⟨(k+1,_),FU,⟨r,O,Y,m2,hP,by omega,J⟩,by simp only [];omega⟩
 refine Ff (yr _ _ (ws λ_ ya=>wr (dm (da (da (de ya (EH ?_)))))));refine rt ?_;have yz:l≠[]:=λe=>by rw[e]at xo;simp at xo
 have zb:Iw (Hx l)≠[]:=λe=>by have h9:=LF (Hx l);rw[e]at h9;unfold HC at h9;simp at h9;omega
 exact⟨_,rfl,r,b2,vl,vM,rfl,⟨⟨_,m2⟩,O.arr EE,Y.arr EE,hb⟩,λk9 h9=>by
  rcases h9 with h9|h9|h9
  ·omega
  ·have:=(O.base_ge yz).1;omega
  ·have:=(Y.base_ge zb).1;omega⟩
theorem P3 {l:List Cell}{k:Nat}{c:Cell}{frm to:EC}(h:l[k]?=some c):scan (l.take (k+1)) frm to=if JC frm to c=true then scan (l.take k) frm to++[c]else scan (l.take k) frm to:=by
 obtain⟨hk,rfl⟩:=Ao.1 h;rw[List.take_succ_eq_append_getElem hk];unfold scan;rw[Bu]
 by_cases hi:JC frm to l[k]=true
 ·rw[if_pos hi];simp [hi]
 ·rw[if_neg hi];simp [hi]
theorem Xnu (l:List Cell)(k:Nat)(frm to:EC):(scan (l.take k) frm to).length<=l.length:=by
 have h1:=B0 (JC frm to) (l.take k);have h2:(l.take k).length<=l.length:=List.length_take_le' ..;exact Ae h1 h2
theorem Xit {c:Cell}{frm to:EC}(h:(!Op.bytesLess c.key frm)=true)(e:to=[]):JC frm to c=true:=by simp [JC,EU,h,e]
theorem Xg6 {c:Cell}{frm to:EC}(h:(!Op.bytesLess c.key frm)=true)(e:Op.bytesLess c.key to=true):JC frm to c=true:=by simp [JC,EU,h,e]
theorem Xiu {c:Cell}{frm to:EC}(h:(!Op.bytesLess c.key frm)=false):¬ JC frm to c=true:=by simp [JC,EU,h]
theorem Xiv {c:Cell}{frm to:EC}(e:¬ to=[])(h:Op.bytesLess c.key to=false):¬ JC frm to c=true:=by simp [JC,EU,h,e]
def weight (l:List Cell):Nat:=(l.map λc=>c.key.length+c.val.length).sum
def light (l:List Cell):Prop:=l.length<=201/\weight l<=6000
theorem VH {l:List Cell}(h:JI l=true){i j:Nat}(hij:i<j)(hj:j<l.length):EZ (FZ l i) (FZ l j)=true:=by
 induction j with
 | zero=>omega
 | succ j ih=>
  have e1:l[j]?=some l[j]:=Av EA;have e2:l[j+1]?=some l[j+1]:=Av hj;have h1:=T0 h e1 e2;rw[<-Fw e1,<-Fw e2]at h1
  by_cases e:i=j
  ·rw[e];exact h1
  ·exact MI (ih EA EA) h1
theorem first_none {l:List Cell}{key:EC}{seq:Int}(h:∀c∈l,¬ (c.key=key/\c.seq<=seq)):first l key seq=none:=by
 unfold first
 rw[List.find?_eq_none];intro c r;have:=h c r;simp only [Au,decide_eq_true_eq];exact this
theorem first_at {l:List Cell}{key:EC}{seq:Int}{i:Nat}{c:Cell}(hc:l[i]?=some c)(h1:c.key=key)(h2:c.seq<=seq)(h:∀j,j<i->¬ ((FZ l j).key=key/\(FZ l j).seq<=seq)):first l key seq=some c:=by
 obtain⟨hi,rfl⟩:=Ao.1 hc;unfold first
 rw[List.find?_eq_some_iff_getElem];refine⟨by simp [h1,h2],i,hi,rfl,λj r=>?_⟩;have e:l[j]?=some l[j]:=Av EA;have:=h j r;rw[Fw e]at this;simp only [BO,Bool.and_eq_false_iff,decide_eq_false_iff_not]
 by_cases e2:l[j].key=key
 ·exact .inr (λz=>this ⟨e2,z⟩)
 ·exact .inl e2
theorem Ux {a:Cell}{key:EC}{seq:Int}(h:EZ a ⟨key,[],false,seq⟩=true):¬ (a.key=key/\a.seq<=seq):=by
 rw[IT]at h;rintro ⟨e,h2⟩;rcases h with h|⟨_,h⟩
 ·rw[e,HZ]at h;cases h
 ·simp only at h;omega
theorem TD {l:List Cell}(hr:JI l=true){key:EC}{seq:Int}{i:Nat}(h1:∀j,j<i->EZ (FZ l j) ⟨key,[],false,seq⟩=true)(h2:i<l.length->EZ (FZ l i) ⟨key,[],false,seq⟩=false)(h3:i=l.length\/(i<l.length/\(FZ l i).key≠key)):first l key seq=none:=by
 refine first_none λc O=>?_;obtain⟨j,J⟩:=BZ.1 O;have z:=(Ao.1 J).1;rw[<-Fw J]
 by_cases e:j<i
 ·exact Ux (h1 j e)
 ·rcases h3 with h3|⟨h3,h4⟩
  ·omega
  ·rintro ⟨e2,e3⟩;have hk:=h2 h3;have hgt:EU key (FZ l i).key=true:=by
    rcases Jm key (FZ l i).key with h|h|h
    ·exact absurd h.symm h4
    ·exact h
    ·have:EZ (FZ l i) ⟨key,[],false,seq⟩=true:=(IT _ _).2 (.inl h);rw[this]at hk;cases hk
   by_cases e4:j=i
   ·rw[e4]at e2;exact h4 e2
   ·have r:=VH hr (show i<j by omega) z;rw[IT]at r;rcases r with r|⟨r,_⟩
    ·rw[e2]at r;rw[Jp hgt]at r;cases r
    ·rw[e2]at r;exact h4 r
theorem X6b {l:List Cell}{key:EC}{seq:Int}{i:Nat}{c:Cell}(hc:l[i]?=some c)(h1:∀j,j<i->EZ (FZ l j) ⟨key,[],false,seq⟩=true)(h2:EZ c ⟨key,[],false,seq⟩=false)(h3:c.key=key):first l key seq=some c:=by
 refine first_at hc h3 ?_ λj r=>Ux (h1 j r);have n:¬ EZ c ⟨key,[],false,seq⟩=true:=by rw[h2];decide
 rw[IT,not_or]at n;have n2:=n.2;simp only [h3,true_and]at n2;omega
theorem X0g {l:List Cell}{key:EC}{seq:Int}(h:Jn (Iw (Hx l)) key=false):first l key seq=none:=by
 refine first_none λc r e=>?_;have:=Xz2 (Xwc r);rw[e.1,h]at this
 cases this
theorem X6c {P:Program}{E:Fg}{dd:Option Tmp}{ty:TypeId}{pos:String}{af:Array Edge}{g:Option (Nat×Bool)}{x y:Operand}{T U:TypeId}{u:Nat}{ky:IntKind}(hx:ev E x=.int .u64 u)(hy:ev E y=.int ky 1):PV P ⟨dd,.binOp .shr T x y U,ty,pos,af,g⟩ E (.int .u64 (u / 2:Nat)):=by
 have:=MT (P:=P) (dd:=dd) (ty:=ty) (pos:=pos) (af:=af) (g:=g) (T:=T) (U:=U) hx hy EK;rwa [show((u:Int)).fdiv (2 ^ min (1:Int).toNat IntKind.u64.bits)=((u / 2:Nat):Int) by
  rw[show(2:Int) ^ min (1:Int).toNat IntKind.u64.bits=2 by decide,CH _ EA];omega]at this
theorem X0h (n f:Nat)(cs:List Value)(p:Nat->Bool)(w:World)(hn:n<=1000000)(hcb:GL Tryz.prog f=true)(hc:∀J,EB w J->∀i,i<n->Calls Tryz.prog f ([I ↑i]++cs).toArray J (Pure J (B (p i))))(hmo:∀i j,i<=j->j<n->p i=true->p j=true) :
  Calls Tryz.prog 256 [I ↑n,I1 f cs].toArray w (ER w (λu _=>∃i:Nat,u=I ↑i/\i<=n/\(∀j,j<i->p j=false)/\(i<n->p i=true))):=by
 refine cw Tryz.func256 ?_;have r:=EB.refl w;refine ws λ_ Z1=>wr (da (de Z1 (ws λ_ Z2=>wr (dm (da (da (de Z2 (ws λ_ Z3=>EN ?_))))))));refine Fk (G:=Nat×Nat) (λ(lo,hi)=>[(1,I1 f cs),(4,I 0),(5,I ↑lo),(6,I ↑hi)]) (λ(lo,hi) w'=>EB w w'/\lo<=hi/\hi<=n/\(∀j,j<lo->p j=false)/\(hi<n->p hi=true)) (λ(lo,hi)=>hi-lo) (0,n) ?_ ?_ ?_
 ·exact FU
 ·exact⟨r,Ad _,Aa _,(λj h=>by omega),(λh=>by omega)⟩
 intro X1 g1 w1 O;obtain⟨lo,hi⟩:=g1;clear r;obtain⟨r,h1,h2,h3,h4⟩:=O;refine ws λ_ Z4=>ws λ_ Z5=>wr (dm (dm ?_));refine dp (Fa rfl rfl) (de Z5 (wi (λZ=>?_) λZ=>?_))
 ·refine EG (Z4 _ _ (EN (ws λ_ Y=>wr (dm (dm ?_)))));refine pa rfl rfl (EW (v:=.int .u64 ↑(lo+hi)) rfl (K5 (n:=lo+hi) (k:=.i64) EA rfl E9 E9) rfl (dp (X6c (u:=lo+hi) rfl rfl) (dp (La (n:=(lo+hi) / 2) EA rfl E9 E9) (da (de Y (ws λ_ Z7=>wr (dm (dm ?_))))))));refine P6 (vs:=[I ↑((lo+hi) / 2)]) (cs:=cs) rfl rfl hcb (hc _ r ((lo+hi) / 2) EA) rfl RX.all (λJ x2=>?_);have r:=r.trans x2;refine dn (de Z7 ?_);refine wc (λz=>?_) λz=>?_
  ·refine wr (dm ?_);refine pa rfl rfl (da (EF (?_)));refine⟨((lo+hi) / 2+1,hi),FU,⟨r,by omega,h2,λj hj=>?_,h4⟩,by simp only [];omega⟩
   cases e:p j with
   | false=>rfl
   | true=>have h9:=hmo j ((lo+hi) / 2) EA EA e;rw[h9]at z;simp at z
  refine wr (dm (da (EF (?_))));refine⟨(lo,(lo+hi) / 2),FU,⟨r,by omega,by omega,h3,λ_=>by simpa using z⟩,by simp only [];omega⟩
 refine Ff (Z3 _ _ (ws λ_ Z8=>wr (dm (da (de Z8 (EH ?_))))));refine ro ?_;exact⟨_,rfl,r,lo,rfl,by omega,h3,λh=>by rw[show lo=hi by omega];exact h4 EA⟩
theorem Ybk (bt:Nat)(vl vb:Value)(l:List Cell)(key:EC)(seq:Int)(i b3 b4 b5:Nat)(w:World)(hT:TblE bt vl vb l w)(h3:EL w b3 [ED bt 0] 102)(h4:EL w b4 [S key] 9)(h5:EL w b5 [I seq] 3)(hi:i<l.length) :
  Calls Tryz.prog 257 [I ↑i,ED b3 0,ED b4 0,ED b5 0].toArray w (Pure w (B (!EZ (FZ l i) ⟨key,[],false,seq⟩))):=by
 refine cw Tryz.func257 ?_;have r:=EB.refl w;obtain⟨⟨vp,hm⟩,O,hb,Y⟩:=hT;obtain⟨hl1,hl2,hE,hen⟩:=L6 Y;obtain⟨hAll,hRis⟩:=Ki.1 hE;obtain⟨c,hk⟩:∃c,l[i]?=some c:=⟨_,Av hi⟩;refine ws λ_ Z1=>wr (da (de Z1 (ws λ_ Z2=>?_)));refine F4 (R:=EB) EB.refl (λ_ _ _=>EB.trans) E9 [0,3,6,7,8] [(0,.l,false),(1,.p,false),(2,.p,false),(3,.l,false),(4,.p,false),(5,.p,false),(6,.l,false),(7,.l,false),(8,.l,false),(9,.p,false),(10,.x,false),(11,.p,false),(12,.p,false)] rfl E9 E9 (λw1 J=>?_);have Z:=EJ J;clear J;have r:=r.trans Z;refine dL rfl (λ_ z=>((h3.ext (r.trans z)).at rfl)) (dz rfl (df 0 rfl (dL rfl (λ_ z=>((hm.ext (r.trans z)).at rfl)) (dm ?_))));refine di 79 4 (O.ext r).sl rfl ((O.ext r).lt hk) (FK rfl (λw' z=>Fb E9 rfl rfl (((O.ext r).ext z).row hk)) (dL rfl (λ_ z=>((h4.ext (r.trans z)).at rfl)) (dL rfl (λ_ z=>((h5.ext (r.trans z)).at rfl)) (db (zs:=[S [],S [],B false,.int .i64 0]) (pl:=[(0,1),(1,1),(2,1),(3,1)]) (pv:=[(0,_),(3,_)]) (cs:=[_,S [],B false,_]) ?_))));refine cP (MS c ⟨key,[],false,seq⟩ _) RX.ext λw2 x2=>?_;have r:=r.trans x2;refine dn (da (de Z2 (EH ?_)));refine ro ?_;rw[Fw hk];exact⟨rfl,r⟩
theorem Ybl (bt:Nat)(vl vb:Value)(l:List Cell)(key:EC)(seq:Int)(w:World)(hT:TblE bt vl vb l w) :
  Calls Tryz.prog 186 [ED bt 0,S key,I seq].toArray w (ER w (λu _=>∃i:Nat,u=I ↑i/\i<=l.length/\(∀j,j<i->EZ (FZ l j) ⟨key,[],false,seq⟩=true)/\(i<l.length->EZ (FZ l i) ⟨key,[],false,seq⟩=false))):=by
 refine cw Tryz.func186 ?_;have r:=EB.refl w;have hf:=hT;obtain⟨⟨vp,hm⟩,ha,hb,hl⟩:=hT;obtain⟨hl1,hl2,hE,hen⟩:=L6 hl;obtain⟨hAll,O⟩:=Ki.1 hE;refine ws λ_ Z1=>wr (Gc rfl rfl rfl RX.all (λb1 w1 e1 x1 z=>?_));have g1:=r.ge e1;have r:=r.trans x1;refine Gc rfl rfl rfl RX.all (λb2 w2 e2 J Y=>?_);have g2:=r.ge e2;have n2_1:=z.ltb e2;have z:=z.ext J;have r:=r.trans J;refine Gc rfl rfl rfl RX.all (λb3 w3 e3 x3 m3=>?_);have g3:=r.ge e3;have n3_1:=z.ltb e3;have n3_2:=Y.ltb e3;have z:=z.ext x3;have Y:=Y.ext x3;have r:=r.trans x3;refine da (de Z1 (ws λ_ Z2=>wr ?_));refine dl rfl (z.at rfl) (dz rfl (df 0 rfl (dl rfl ((hm.ext r).at rfl) (dv 79 4 (ha.ext r).sl (dp (NR rfl) ?_)))));refine Ti rfl E9 (X0h l.length 257 [ED b1 0,ED b2 0,ED b3 0] (λi=>!EZ (FZ l i) ⟨key,[],false,seq⟩) _ EA E9 (λw2 J i hi=>Ybk bt vl vb l key seq i _ _ _ w2 (hf.ext (r.trans J)) (z.ext J) (Y.ext J) (m3.ext J) hi) (λi j hij hj h=>by
  cases e:EZ (FZ l j) ⟨key,[],false,seq⟩with
  | false=>rfl
  | true=>
   by_cases e2:i=j
   ·rw[e2,e]at h;simp at h
   ·rw[MI (VH O (show i<j by omega) hj) e]at h;simp at h)) rfl RX.all (λu4 w4 x4 hg=>?_)
 have hsz4:=r.size;have r:=r.trans x4;obtain⟨i,rfl,hc,hh,Z⟩:=hg;refine da (de Z2 (EH ?_));refine ro ?_;exact⟨_,rfl,r,i,rfl,hc,λj hj=>by simpa using hh j hj,λh=>by simpa using Z h⟩
theorem UX (bt:Nat)(vl vb:Value)(l:List Cell)(key:EC)(seq:Int)(w:World)(hT:TblE bt vl vb l w)(hkl:key.length<=1000000000) :
  Calls Tryz.prog 114 [ED bt 0,S key,I seq].toArray w (Pure w (.tuple #[((first l key seq).getD Cell.zero).v,B (first l key seq).isSome])):=by
 refine cw Tryz.func114 ?_;have r:=EB.refl w;have hg:=hT;obtain⟨⟨vp,hm⟩,Y,hb,hj⟩:=hT;obtain⟨hl1,hl2,hE,hen⟩:=L6 hj;obtain⟨hAll,J⟩:=Ki.1 hE;refine ws λ_ Z1=>wr (FG (cs:=[S [],S [],B false,.int .i64 0]) rfl E9 RX.all (λb1 w1 e1 x1 z=>?_));have g1:=r.ge e1;have r:=r.trans x1;refine da (de Z1 (ws λ_ Z2=>ws λ_ Z3=>wr (dm ?_)));refine dp (Gj E9 rfl rfl) (dm ?_);refine Fz 11 rfl (λc1=>?_) (λc1=>?_)
 ·exact absurd c1 EQ
 refine dm ?_;refine dz rfl (df 2 rfl (dl rfl ((hm.ext r).at rfl) (dm ?_)));refine cP (X9h (Iw (Hx l)) vb key _ (hb.ext r) (by rw[LF];have:=LP l l.length;unfold HC Hx;omega) hkl) RX.all λw2 x2=>?_;have z:=z.ext x2;have r:=r.trans x2;refine dn ?_;refine EO (de Z3 ?_);refine wc (λc2=>?_) λc2=>?_
 ·refine ws λ_ Z4=>wr (db (zs:=[S [],S [],B false,.int .i64 0]) (pl:=[(0,1),(1,1),(2,1),(3,1)]) (pv:=[]) (cs:=[S [],S [],B false,.int .i64 0]) ?_);refine FM z (λw3 x3 xs3 z=>?_);dsimp only [Fe,Ag,Af,Ai]at z;have r:=r.o1 x3;refine da (de Z4 (EH ?_));refine IG (u:=?v11) rfl rfl rfl rfl E9 rfl z.row ?h11 ?k11
  case h11=>conv=>lhs;whnf
  rw[X0g (by simpa using c2)];exact⟨rfl,r⟩
 refine EG (Z2 _ _ (ws λ_ Z5=>wr (dm (dm (dm ?_)))));refine cG (Ybl bt vl vb l key seq _ (hg.ext r)) RX.all λu4 w4 x4 hh=>?_;have hsz4:=r.size;have z:=z.ext x4;have r:=r.trans x4;obtain⟨i,rfl,hi1,hc,O⟩:=hh;refine da (de Z5 (ws λ_ Z6=>ws λ_ Z7=>wr (dm (dm ?_))));refine dz rfl (df 0 rfl (dl rfl ((hm.ext r).at rfl) (dv 79 4 (Y.ext r).sl (dp (G1 rfl rfl) (dm ?_)))));refine Fz 32 rfl (λc3=>?_) (λc3=>?_)
 ·iterate 10 refine dk ?_
  refine EO (de Z7 ?_);refine GD rfl (ws λ_ Z8=>wr (db (zs:=[S [],S [],B false,.int .i64 0]) (pl:=[(0,1),(1,1),(2,1),(3,1)]) (pv:=[]) (cs:=[S [],S [],B false,.int .i64 0]) ?_));refine FM z (λw5 x5 xs5 z=>?_);dsimp only [Fe,Ag,Af,Ai]at z;have r:=r.o1 x5;refine da (de Z8 (EH ?_));refine IG (u:=?v23) rfl rfl rfl rfl E9 rfl z.row ?h23 ?k23
  case h23=>conv=>lhs;whnf
  rw[TD J hc O (.inl EA)];exact⟨rfl,r⟩
 have Z:i<l.length:=by omega
 obtain⟨c,hk⟩:∃c,l[i]?=some c:=⟨_,Av Z⟩;have hf:=O Z;rw[Fw hk]at hf;refine dm ?_;refine dz rfl (df 0 rfl (dl rfl ((hm.ext r).at rfl) (dm ?_)));refine di 79 4 (Y.ext r).sl rfl ((Y.ext r).lt hk) (df 0 rfl (dl rfl (((Y.ext r).row hk).at rfl) (dm ?_)));refine dp (LR rfl rfl) (EO (de Z7 ?_));refine wi (λc4=>?_) λc4=>?_
 ·refine ws λ_ Z9=>wr (db (zs:=[S [],S [],B false,.int .i64 0]) (pl:=[(0,1),(1,1),(2,1),(3,1)]) (pv:=[]) (cs:=[S [],S [],B false,.int .i64 0]) ?_);refine FM z (λw6 x6 xs6 z=>?_);dsimp only [Fe,Ag,Af,Ai]at z;have r:=r.o1 x6;refine da (de Z9 (EH ?_));refine IG (u:=?v31) rfl rfl rfl rfl E9 rfl z.row ?h31 ?k31
  case h31=>conv=>lhs;whnf
  rw[TD J hc O (.inr ⟨Z,by rw[Fw hk];exact c4⟩)];exact⟨rfl,r⟩
 refine EG (Z6 _ _ (ws λ_ hl=>wr (dm ?_)));refine dz rfl (df 0 rfl (dl rfl ((hm.ext r).at rfl) (dm ?_)));refine di 79 4 (Y.ext r).sl rfl ((Y.ext r).lt hk) (dq (Fb E9 rfl rfl ((Y.ext r).row hk)) (FM z (λw7 x7 xs7 z=>?_)));dsimp only [Fe,Ag,Af,Ai]at z;have r:=r.o1 x7;refine da (de hl (EH ?_));refine IG (u:=?v36) rfl rfl rfl rfl E9 rfl z.row ?h36 ?k36
 case h36=>conv=>lhs;whnf
 rw[X6b hk hc hf (AI c4)];exact⟨rfl,r⟩
theorem Xm (bt:Nat)(vl vb:Value)(l:List Cell)(frm to:EC)(w:World)(hT:TblE bt vl vb l w) :
  Calls Tryz.prog 49 [ED bt 0,S frm,S to].toArray w (ER w (λv' w'=>Vc.Own Cell.cs 4 79 w.heap.size w' v' (scan l frm to))):=by
 refine cw Tryz.func49 ?_;have r:=EB.refl w;have hT0:=hT;obtain⟨⟨vp,hm⟩,ha,hb,hh⟩:=hT;obtain⟨hl1,hl2,hE,hen⟩:=L6 hh;obtain⟨hAll,hRis⟩:=Ki.1 hE;refine ws λ_ Z1=>wr (da (de Z1 (ws λ_ Z2=>ws λ_ Z3=>wr (dm ?_))));refine dp (Gj E9 rfl rfl) (de Z3 (wi (λc1=>?_) λc1=>?_))
 ·exact absurd c1 EQ
 refine EG (Z2 _ _ (ws λ_ Z4=>wr (da (de Z4 (ws λ_ Z5=>ws λ_ Z6=>wr (dm ?_))))));refine dz rfl (df 0 rfl (dl rfl ((hm.ext r).at rfl) (dv 79 4 (ha.ext r).sl (dm (de Z6 (EN ?_))))));refine Fk (G:=Nat×Value) (λ(k,Z)=>[(1,S frm),(2,S to),(6,.slice none 0 0),(7,Z),(15,vl),(16,I ↑l.length),(17,I ↑k)]) (λ(k,Z) w'=>EB w w'/\k<=l.length/\Vc.Own Cell.cs 4 79 w.heap.size w' Z (scan (l.take k) frm to)) (λ(k,Z)=>l.length-k) (0,.slice none 0 0) ?_ ?_ ?_
 ·exact FQ
 ·exact⟨r,Ad _,Vc.Own.nil⟩
 intro X1 g1 w1 hj;obtain⟨k,Z⟩:=g1;clear r;obtain⟨r,hk1,ho⟩:=hj;refine ws λ_ Z7=>wr (dp (Fa rfl rfl) (de Z7 (ws λ_ Z8=>wi (λc2=>?_) λc2=>?_)))
 ·obtain⟨c,hk⟩:∃c,l[k]?=some c:=Fq;have hlen:=Xnu l k frm to;refine EG (Z8 _ _ (ws λ_ Z9=>EN (ws λ_ hg=>wr (di 79 4 (ha.ext r).sl rfl ((ha.ext r).lt hk) (dq (Fb E9 rfl rfl ((ha.ext r).row hk)) (FG (cs:=[S [],S [],B false,.int .i64 0]) rfl E9 RX.all (λb1 w2 e1 x2 z=>?_)))))));have g1:=r.ge e1;have J:=ho.ltb e1;have ho:=ho.ext x2;have r:=r.trans x2;refine FM z (λw3 x3 xs3 z=>?_);dsimp only [Fe,Ag,Af,Ai]at z;have ho:=ho.mod x3 (by intro k hk h;have h1:=J k hk;have h2:k=b1:=h;omega);have r:=r.o1 x3;refine de hg (ws λ_ Y=>wr (df 0 rfl (dl rfl (z.at rfl) (dm ?_))));refine dp (Rb rfl rfl) (dm ?_);refine I8 25 rfl (λc3=>?_) (λc3=>?_)
  ·refine dm ?_;refine dp (Mh rfl rfl) (dm ?_);refine Fz 28 rfl (λc4=>?_) (λc4=>?_)
   ·refine dk (dk (dk (dk (EO ?_))));refine EO (de Y ?_);refine GD rfl (wr (dm ?_));refine dq (Fb (k:=4) E9 rfl rfl z.row) (li (e:=79) (sz:=4) (zs:=[S [],S [],B false,.int .i64 0]) (pv:=[(0,.agg ⟨[_,_,_,_]⟩)]) (cs:=[_,_,_,_]) RX.all (λb2 w4 e2 x4 m2=>?_));have g2:=r.ge e2;have n2_1:=z.ltb e2;have o2_ho:=ho.ltb e2;have ho:=ho.ext x4;have z:=z.ext x4;have r:=r.trans x4;refine Gv (lx:=[c]) (e:=79) (sz:=4) (by':=48) rfl E9 E9 EE ho (m2.arr (enc:=Cell.cs) (sz:=4) (l:=[c]) rfl EE rfl (Ap rfl)) rfl rfl (by intro x _ u hu;simp at hu;rcases hu with rfl|rfl|rfl|rfl<;>rfl) (by simp;omega) EK r.size (.inl rfl) (λhf w5 O x5=>?_);have z:=z.mod x5 (by intro h;have h1:=J _ h;omega);have r:=r.own x5 (λi hi=>(ho.lt i hi).1);have ho:=O;clear m2;refine da (de Z9 (wr ?_));refine pa rfl rfl (dm (EF (?_)));refine⟨(k+1,_),FQ,⟨r,by omega,?_⟩,by simp only [];omega⟩;rw[P3 hk];rw[if_pos (Xit ‹_› ‹_›)];exact ho
   refine df 0 rfl (dl rfl (z.at rfl) (dm ?_));refine dp (Nf rfl rfl) (EO ?_);refine EO (de Y ?_);refine wc (λc5=>?_) λc5=>?_
   ·refine wr (dm ?_);refine dq (Fb (k:=4) E9 rfl rfl z.row) (li (e:=79) (sz:=4) (zs:=[S [],S [],B false,.int .i64 0]) (pv:=[(0,.agg ⟨[_,_,_,_]⟩)]) (cs:=[_,_,_,_]) RX.all (λb3 w6 e3 x6 m3=>?_));have g3:=r.ge e3;have o3_ho:=ho.ltb e3;have ho:=ho.ext x6;have r:=r.trans x6;refine Gv (lx:=[c]) (e:=79) (sz:=4) (by':=48) rfl E9 E9 EE ho (m3.arr (enc:=Cell.cs) (sz:=4) (l:=[c]) rfl EE rfl (Ap rfl)) rfl rfl (by intro x _ u hu;simp at hu;rcases hu with rfl|rfl|rfl|rfl<;>rfl) (by simp;omega) EK r.size (.inl rfl) (λhf w7 O x7=>?_);have r:=r.own x7 (λi hi=>(ho.lt i hi).1);have ho:=O;clear m3;refine da (de Z9 (wr ?_));refine pa rfl rfl (dm (EF (?_)));refine⟨(k+1,_),FQ,⟨r,by omega,?_⟩,by simp only [];omega⟩;rw[P3 hk];rw[if_pos (Xg6 ‹_› ‹_›)];exact ho
   refine EG (Z9 _ _ (wr (pa rfl rfl (dm (EF (?_))))));refine⟨(k+1,_),FQ,⟨r,by omega,?_⟩,by simp only [];omega⟩;rw[P3 hk];rw[if_neg (Xiv ‹_› ‹_›)];exact ho
  refine dk (dk (dk (dk (dk (dk (dk (dk (EO (de Y ?_)))))))));refine GB rfl (EG (Z9 _ _ (wr (pa rfl rfl (dm (EF (?_)))))));refine⟨(k+1,_),FQ,⟨r,by omega,?_⟩,by simp only [];omega⟩;rw[P3 hk];rw[if_neg (Xiu ‹_›)];exact ho
 refine Ff (Z5 _ _ (ws λ_ hc=>wr (dm (da (de hc (EH ?_))))));refine ro ?_;exact⟨_,rfl,r,by rw[Ax EA]at ho;exact ho⟩
end Go.Proofs.YtiooodckiddpmaaGreatDoor
namespace Go.Sp
open Go.Vc (EC I S B)
structure Rw where
 key:EC
 val:EC
 del:Bool
deriving DecidableEq
@[reducible] def Rw.cs (r:Rw):List Value:=[S r.key,S r.val,B r.del]
@[reducible] def Rw.v (r:Rw):Value:=.agg ⟨r.cs⟩
def Rw.cell (r:Rw)(seq:Int):Cell:=⟨r.key,r.val,r.del,seq⟩
def IC (l:List Rw):Nat:=(l.map λr=>r.key.length+r.val.length).sum
def Ia (l:List Rw):Int:=if l.length=0 then 1 else if(l.all λr=>Ge (r.cell 1))=true then(if 512<l.length\/32768<IC l then 5 else 0)else 1
theorem X0i {l:List Rw}{k:Nat}{r:Rw}(h:l[k]?=some r):IC (l.take (k+1))=IC (l.take k)+(r.key.length+r.val.length):=by
 unfold IC;rw[B4,h,AC,Ch];simp
theorem X9p (l:List Rw)(k:Nat):IC (l.take k)<=IC l:=by
 have h:=congrArg IC (AT k l);unfold IC at *;rw[AC,Ch]at h;omega
theorem Xwr {l:List Rw}{k:Nat}{r:Rw}(h:l[k]?=some r):((l.take (k+1)).all λr=>Ge (r.cell 1))=(((l.take k).all λr=>Ge (r.cell 1)) && Ge (r.cell 1)):=by
 rw[B4,h,C6];simp
theorem Xws {l:List Rw}{k:Nat}{r:Rw}(h:l[k]?=some r)(hc:Ge (r.cell 1)=false):Ia l=1:=by
 unfold Ia;split
 ·rfl
 ·rw[if_neg];intro h2;rw[AU]at h2;have:=h2 r (Ak h);rw[hc]at this;cases this
theorem X6d {l:List Rw}(h:l.length=0):Ia l=1:=if_pos h
theorem Wd {l:List Rw}(h:l.length≠0)(h2:(l.all λr=>Ge (r.cell 1))=true)(h3:512<l.length\/32768<IC l):Ia l=5:=by unfold Ia;rw[if_neg h,if_pos h2,if_pos h3]
theorem X6e {l:List Rw}(h:l.length≠0)(h2:(l.all λr=>Ge (r.cell 1))=true)(h3:¬ (512<l.length\/32768<IC l)):Ia l=0:=by unfold Ia;rw[if_neg h,if_pos h2,if_neg h3]
theorem LI {l:List Rw}(h:Ia l=0):1<=l.length/\l.length<=512/\IC l<=32768/\∀r∈l,Ge (r.cell 1)=true:=by
 unfold Ia at h;split at h
 ·simp at h
 ·split at h
  ·rename_i h1 h2;rw[AU]at h2;split at h
   ·simp at h
   ·exact⟨by omega,by omega,by omega,h2⟩
  ·simp at h
def G7 (r:Rw):EC:=Fp r.key++(if r.del then EV 1 else EV 0++Fp r.val)
def FF (l:List Rw):EC:=EV l.length++l.flatMap G7
theorem Ii (r:Rw):(G7 r).length<=30+(r.key.length+r.val.length):=by
 unfold G7 Fp;have h1:=Gd r.key.length;have h2:=Gd 1;have h3:=Gd 0;have h4:=Gd r.val.length;split<;>simp only [Ab]<;>omega
theorem Ns (l:List Rw):(l.flatMap G7).length<=30*l.length+IC l:=by
 induction l with
 | nil=>simp
 | cons r t ih=>
  have:=Ii r;have e:IC (r :: t)=(r.key.length+r.val.length)+IC t:=by simp [IC]
  rw[AD,Ab,e,AB];omega
theorem UT (l:List Rw)(k:Nat):((l.take k).flatMap G7).length<=30*l.length+IC l:=by
 have h1:=Ns (l.take k);have h2:=X9p l k;have h3:(l.take k).length<=l.length:=by rw[A4];omega
 omega
def GJ (out:List Cell)(c:Cell):List Cell:=if(out.any λx=>decide (x.key=c.key))=true then out else(out.takeWhile λx=>EU x.key c.key)++c :: (out.dropWhile λx=>EU x.key c.key)
def F0 (l:List Rw)(seq:Int):List Cell:=l.foldr (λr out=>GJ out (r.cell seq)) []
def I3 (l:List Cell):Prop:=l.Pairwise λa b=>EU a.key b.key=true
theorem X6f {out:List Cell}{c:Cell}(h:I3 out):I3 (GJ out c):=by
 unfold GJ;split
 ·exact h
 ·rename_i hn;have Z:∀x∈out,x.key≠c.key:=λx z e=>hn (B6.2 ⟨x,z,by simp [e]⟩);have O:(out.takeWhile λx=>EU x.key c.key)++(out.dropWhile λx=>EU x.key c.key)=out:=C3 ..;have h':I3 ((out.takeWhile λx=>EU x.key c.key)++(out.dropWhile λx=>EU x.key c.key)):=by rw[O];exact h
  have hp:∀x∈(out.takeWhile λx=>EU x.key c.key),EU x.key c.key=true:=λx z=>(AU.1 (List.all_takeWhile (p:=λx=>EU x.key c.key) (l:=out)) x z);have h2:=Bs.1 h';have hs:∀x∈(out.dropWhile λx=>EU x.key c.key),EU c.key x.key=true:=by
   cases hsu:(out.dropWhile λx=>EU x.key c.key)with
   | nil=>intro x z;cases z
   | cons s r=>
    have hc:EU s.key c.key=false:=by
     have:=List.head?_dropWhile_not (λx=>EU x.key c.key) out;rw[hsu]at this;simpa using this
    have hf:s∈out:=by rw[<-O,hsu];simp
    have J:EU c.key s.key=true:=by
     rcases Jm c.key s.key with h|h|h
     ·exact absurd h.symm (Z s hf)
     ·exact h
     ·rw[hc]at h;cases h
    intro x z;rcases Aj.1 z with rfl|z
    ·exact J
    ·have:=h2.2.1;rw[hsu]at this;exact IZ _ _ _ J (List.rel_of_pairwise_cons this z)
  refine Bs.2 ⟨h2.1,List.pairwise_cons.2 ⟨hs,h2.2.1⟩,λa ha b Y=>?_⟩;rcases Aj.1 Y with rfl|Y
  ·exact hp a ha
  ·exact h2.2.2 a ha b Y
theorem P0 (l:List Rw)(seq:Int):I3 (F0 l seq):=by
 induction l with
 | nil=>exact Bp
 | cons r t ih=>exact X6f ih
theorem OW {out:List Cell}{c x:Cell} : x∈GJ out c↔x∈out\/(x=c/\∀y∈out,y.key≠c.key):=by
 unfold GJ;have r:(out.takeWhile λx=>EU x.key c.key)++(out.dropWhile λx=>EU x.key c.key)=out:=C3 ..;split
 ·rename_i h;obtain⟨y,J,e⟩:=B6.1 h;exact⟨.inl,λh2=>h2.elim id λh3=>absurd (by simpa using e) (h3.2 y J)⟩
 ·rename_i hn;have z:∀x∈out,x.key≠c.key:=λx O e=>hn (B6.2 ⟨x,O,by simp [e]⟩);rw[Ay,Aj]
  constructor
  ·rintro (h|h|h)
   ·exact .inl (by rw[<-r];exact List.mem_append_left _ h)
   ·exact .inr ⟨h,z⟩
   ·exact .inl (by rw[<-r];exact List.mem_append_right _ h)
  ·rintro (h|⟨h,_⟩)
   ·rw[<-r]at h;rcases Ay.1 h with h|h
    ·exact .inl h
    ·exact .inr (.inr h)
   ·exact .inr (.inl h)
theorem R6 {l:List Rw}{seq:Int}{c:Cell}(h:c∈F0 l seq):∃r∈l,c=r.cell seq:=by
 induction l with
 | nil=>cases h
 | cons r t ih=>
  rcases OW.1 h with h|⟨h,_⟩
  ·obtain⟨q,z,e⟩:=ih h;exact⟨q,Am _ z,e⟩
  ·exact⟨r,Al,h⟩
theorem Xth {l:List Rw}{seq:Int}{r:Rw}(h:r∈l):∃c∈F0 l seq,c.key=r.key:=by
 induction l with
 | nil=>cases h
 | cons q t ih=>
  by_cases e:∃c∈F0 t seq,c.key=r.key
  ·obtain⟨c,z,e⟩:=e;exact⟨c,OW.2 (.inl z),e⟩
  ·rcases Aj.1 h with rfl|h
   ·exact⟨_,OW.2 (.inr ⟨rfl,λy J e2=>e ⟨y,J,e2⟩⟩),rfl⟩
   ·exact absurd (ih h) e
theorem MH (l:List Rw)(seq:Int):(F0 l seq).length<=l.length:=by
 induction l with
 | nil=>exact Aa _
 | cons r t ih=>
  show(GJ (F0 t seq) (r.cell seq)).length<=_;unfold GJ;split
  ·simp;omega
  ·have:=congrArg A7 (C3 (p:=λx:Cell=>EU x.key (r.cell seq).key) (l:=F0 t seq));simp only [Ab,AB]at *;omega
end Go.Sp
