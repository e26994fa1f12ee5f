/-
  A part of the proof.
-/
import Derived.Test.YtiooodckiddpmaaGreatDoorQkA
import Derived.Test.YtiooodckiddpmaaGreatDoorChecked
import Derived.KernelRfl
import Derived.Shelf.Small.Bits
import Derived.Shelf.Small.Strs
import Derived.Shelf.Small.Wraps
import Derived.Shelf.Strconv.Itoa0
import Derived.Shelf.Strconv.Itoa1
import Derived.Shelf.LaysM
import Derived.Shelf.Strconv.Itoa2
import Derived.Shelf.Strconv.Itoa3
import Derived.Shelf.Strings.Prefix
import Derived.Shelf.Slices.Turned
import Derived.Ground.Names2Prog
import Derived.Shelf.Slices.SearchI
import Derived.Shelf.Bytes.SlSearch0
import Derived.Ground.SlbCloneProg
import Derived.Shelf.Bytes.SlClone
import Derived.Ground.SlbNamesProg
import Derived.Shelf.Bytes.SlJoin
import Derived.Ground.SlgnProg
import Derived.Shelf.SlicesE.Clone
import Derived.Shelf.Bytes.SlEqualAll
import Derived.Shelf.Bytes.Small
import Derived.Test.YtiooodckiddpmaaGreatDoorProg
import Derived.Shelf.SlGeneric
import Derived.Shelf.SlIter.Nil
import Derived.Ground.GgzProg
import Derived.Shelf.Sort.Plain
import Derived.Shelf.Slices.In.SortNone
import Derived.Lib.Bytealg
open Nat renaming le_refl->Aa,zero_le->Ab,le_trans->Ae,lt_of_lt_of_le->Ax,zero_add->A0,lt_irrefl->A4,lt_of_lt_of_eq->AD,mod_lt->Be,mod_eq_of_lt->Br,le_of_eq->Ch,zero_mul->Cw,add_mul->Cy,mul_le_mul_left->CB,shiftLeft_eq->Dn,or_comm->Dp,two_pow_add_eq_or_of_lt->Dq,zero_lt_one->E9
open List renaming length_append->Ad,mem_singleton->Af,mem_of_getElem?->Ag,mem_cons->Ah,mem_cons_self->Ai,mem_append->Ak,map_cons->Am,replicate->An,mem_cons_of_mem->Ao,getElem?_eq_some_iff->Ap,take_of_length_le->Ar,getElem?_eq_getElem->Au,mem_filter->Av,length_map->Aw,mem_map->Ay,eq_nil_of_length_eq_zero->Az,append_assoc->A3,length->A5,map_append->A6,length_take->A7,length_cons->AA,nil_append->AB,flatMap_cons->AF,getElem?_map->AG,append_nil->AH,pairwise_cons->AI,take->AL,all_eq_true->AO,take_append_drop->AS,sum_cons->AT,take_length->AV,length_drop->AX,length_filter_le->AZ,getElem?_take->Ba,flatMap_append->Bb,map_nil->Bf,pairwise_append->Bj,nodup_cons->Bk,length_nil->Bl,filter_append->Bs,take_add_one->Bw,map_map->Bx,mem_append_right->Bz,sum_append->B0,any_eq_true->B7,foldl_append->BC,drop_of_length_le->BD,getElem?_set_self->BE,filter_cons->BF,filter_eq_self->BG,range->BK,map_congr_left->BL,getD_eq_getElem?_getD->BN,flatMap->BO,foldl_cons->BS,drop_eq_nil_of_le->BW,map_toArray->Ca,mem_iff_getElem?->Cd,drop_zero->Ce,filter_sublist->Cf,flatMap_nil->Ci,not_mem_nil->Co,take_succ_cons->C0,takeWhile_append_dropWhile->CD,drop_eq_getElem_cons->CG,all_append->CK,find?_cons->CL,length_pos_iff->CM,replicate_succ->CR,length_replicate->CW,pairwise_map->CY,length_singleton->Db,size_toArray->Dr,getElem_mem->Dt,take_append_of_le_length->DT,take_left->DU,mem_range->DW,range_succ->E4,drop_append_of_le_length->E6,map_id->E7,length_mergeSort->E8,map_eq_cons_iff->EA
open Option renaming some->Al,map_eq_some_iff->Bp,map_some->Cn,isSome_map->CZ,getD_some->DR
open Bool renaming and_eq_true->Aq,or_eq_true->BH,not_eq_true'->BI,false_or->BY,false_eq_true->Cq,true_and->C1,eq_iff_iff->Dx
open UInt8 renaming ofNat->AC,toBitVec_inj->DQ
open Decidable renaming of_not_not->AE
open UInt32 renaming ofNat->AJ,toNat_shiftLeft->Dm,toNat_or->DS,toNat_inj->E5
open BitVec renaming ofInt->AK,ofInt_natCast->CE,toNat_ofNat->CF
open List.Pairwise renaming nil->Bq,imp_of_mem->DV
open Prod renaming mk->B5,ext->Dv
open List.Sublist renaming map->CH
open Int renaming fdiv_eq_ediv_of_nonneg->CU
set_option maxRecDepth 100000
set_option maxHeartbeats 4000000
set_option linter.unusedVariables false
set_option linter.unusedSimpArgs false
namespace Go.Proofs.YtiooodckiddpmaaGreatDoor
open Go.Vc Go.Sp
attribute [local irreducible] W XW Dw G9
theorem X1d (x y z:UInt8)(h:x &&& z≠0):(x ||| y) &&& z≠0:=by
 intro e
 apply h
 have:((x ||| y) &&& z)=(x &&& z) ||| (y &&& z):=by
  apply DQ.1;simp;ext i;simp;cases x.toBitVec[i]<;>cases y.toBitVec[i]<;>cases z.toBitVec[i]<;>rfl
 rw[this]at e;have e2:=congrArg UInt8.toBitVec e
 apply DQ.1
 simp at e2 ⊢;exact e2.1
theorem X1e (x z:UInt8)(hz:z≠0):(x ||| z) &&& z≠0:=by
 have:(x ||| z) &&& z=z:=by
  apply DQ.1;simp;ext i;simp;intro h;exact .inr h
 rw[this];exact hz
theorem X6l (m:Nat)(h:m<8):AC (2 ^ m)≠0:=by
 match m,h with
 | 0,_|1,_|2,_|3,_|4,_|5,_|6,_|7,_=>decide
def Jh (n:Nat):UInt8:=AC (2 ^ (n % 8))
def KY (b:Fh)(n:Nat):Fh:=b.set (n / 8) (b.getD (n / 8) 0 ||| Jh n)
def Kh (b:Fh)(n:Nat):Bool:=decide (b.getD (n / 8) 0 &&& Jh n≠0)
def Oh (b:Fh)(s:Fh):Fh:=(JF s (8*b.length)).foldl KY b
def I6 (k:Nat):Nat:=max 8 ((10*k+7) / 8)
def Jl (keys:List Fh):Fh:=keys.foldl Oh (An (I6 keys.length) 0)
def Ky (b:Fh)(s:Fh):Bool:=decide (b=[]) || (JF s (8*b.length)).all (Kh b)
theorem TP (b:Fh)(n:Nat):(KY b n).length=b.length:=by unfold KY;rw[List.length_set]
theorem WM (l:List Nat)(b:Fh):(l.foldl KY b).length=b.length:=by
 induction l generalizing b with
 | nil=>rfl
 | cons n r ih=>rw[BS,ih,TP]
theorem R8 (b:Fh)(s:Fh):(Oh b s).length=b.length:=WM _ _
theorem Ul (l:List Fh)(b:Fh):(l.foldl Oh b).length=b.length:=by
 induction l generalizing b with
 | nil=>rfl
 | cons n r ih=>rw[BS,ih,R8]
theorem M6 (keys:List Fh):(Jl keys).length=I6 keys.length:=by unfold Jl;rw[Ul,CW]
variable {b:Fh}{n:Nat}
theorem X1f {m:Nat}(h:Kh b n=true):Kh (KY b m) n=true:=by
 unfold Kh KY at *;rw[decide_eq_true_eq]at *
 by_cases e:m / 8=n / 8
 ·rw[e]
  by_cases hl:n / 8<b.length
  ·rw[BN,BE hl];exact X1d _ _ _ h
  ·rw[List.set_eq_of_length_le Fb];exact h
 ·rw[BN,List.getElem?_set_ne e,<-BN];exact h
theorem X1g (h:n / 8<b.length):Kh (KY b n) n=true:=by
 unfold Kh KY;rw[decide_eq_true_eq,BN,BE h];exact X1e _ _ (X6l _ (Be _ Fj))
theorem WU {l:List Nat}(h:Kh b n=true):Kh (l.foldl KY b) n=true:=by
 induction l generalizing b with
 | nil=>exact h
 | cons m r ih=>exact ih (X1f h)
theorem Xwa {l:List Nat}(hn:n∈l)(h:n / 8<b.length):Kh (l.foldl KY b) n=true:=by
 induction l generalizing b with
 | nil=>cases hn
 | cons m r ih=>
  rcases Ah.1 hn with rfl|hn
  ·rw[BS];exact WU (X1g h)
  ·rw[BS];exact ih hn (by rw[TP];exact h)
theorem Xwb {l:List Fh}(h:Kh b n=true):Kh (l.foldl Oh b) n=true:=by
 induction l generalizing b with
 | nil=>exact h
 | cons m r ih=>exact ih (WU h)
theorem Su {s:Fh}{m:Nat}(hm:0<m)(h:n∈JF s m):n<m:=by
 unfold JF at h;obtain⟨i,_,rfl⟩:=Ay.1 h;exact Be _ hm
theorem X1h {keys:List Fh}{s:Fh}(h:s∈keys):Ky (Jl keys) s=true:=by
 have z:0<I6 keys.length:=by unfold I6;omega
 have key:∀(l:List Fh) (b:Fh),s∈l->0<b.length->∀n∈JF s (8*b.length),Kh (l.foldl Oh b) n=true:=by
  intro l
  induction l with
  | nil=>intro b h;cases h
  | cons k r ih=>
   intro b h hb n hn;rw[BS];rcases Ah.1 h with rfl|h
   ·exact Xwb (Xwa hn (by have:=Su Fb hn;omega))
   ·exact ih _ h (by rw[R8];exact hb) n (by rw[R8];exact hn)
 unfold Ky;rw[BH,AO];refine .inr λn hn=>?_;rw[M6]at hn;exact key keys _ h (by rw[CW];exact z) n (by rw[CW];exact hn)
section
variable {P:Program}{E:FE}{dd:Option Tmp}{ty:TypeId}{pos:String}{af:Array Edge}{g:Option (Nat×Bool)}{x y:Operand}{T U:TypeId}
variable {a:Nat}{ky:IntKind}
theorem Tk (hx:ev E x=I ↑a)(hy:ev E y=.int ky 3):PV P ⟨dd,.binOp .shr T x y U,ty,pos,af,g⟩ E (I ↑(a / 8)):=by
 have:=Ol (P:=P) (dd:=dd) (ty:=ty) (pos:=pos) (af:=af) (g:=g) (T:=T) (U:=U) hx hy Fj;rwa [show((a:Int)).fdiv (2 ^ min (3:Int).toNat IntKind.i64.bits)=((a / 8:Nat):Int) by
  rw[show(2:Int) ^ min (3:Int).toNat IntKind.i64.bits=8 by decide,CU _ Fb];omega]at this
theorem Xwc (ha:a<=1000000000000000000)(hx:ev E x=I ↑a)(hy:ev E y=.int ky 3):PV P ⟨dd,.binOp .shl T x y U,ty,pos,af,g⟩ E (I ↑(8*a)):=by
 have:=Ov (P:=P) (dd:=dd) (ty:=ty) (pos:=pos) (af:=af) (g:=g) (T:=T) (U:=U) hx hy Fj;rwa [show(a:Int)*2 ^ min (3:Int).toNat IntKind.i64.bits=((8*a:Nat):Int) by rw[show(2:Int) ^ min (3:Int).toNat IntKind.i64.bits=8 by decide];omega,KU (by unfold Fx;omega)]at this
theorem Xwd (ha:a<9223372036854775808)(hx:ev E x=I ↑a)(hy:ev E y=I 7):PV P ⟨dd,.binOp .and T x y U,ty,pos,af,g⟩ E (I ↑(a % 8)):=by
 have:=LN (P:=P) (dd:=dd) (ty:=ty) (pos:=pos) (af:=af) (g:=g) (T:=T) (U:=U) (op:=.and) (.inl rfl) hx hy;have e:Lo .and .i64 (a:Int) 7=((a % 8:Nat):Int):=by
  show IntKind.i64.wrap (((AK 64 (a:Int) &&& AK 64 ((7:Nat):Int)).toNat:Nat):Int)=_;rw[CE,CE,BitVec.toNat_and,CF,CF,Br Fb,Br Fb,show a &&& 7=a % 8 from Nat.and_two_pow_sub_one_eq_mod a 3,KU (by unfold Fx;omega)]
 rwa [e]at this
theorem SK {n:Nat}(hx:ev E x=.int .u8 1)(hy:ev E y=.int ky ((n % 8:Nat):Int)):PV P ⟨dd,.binOp .shl T x y U,ty,pos,af,g⟩ E (b8 (Jh n)):=by
 have:=Ov (P:=P) (dd:=dd) (ty:=ty) (pos:=pos) (af:=af) (g:=g) (T:=T) (U:=U) hx hy Fb;have r:n % 8<8:=Be _ Fj;have e:IntKind.u8.wrap ((1:Int)*2 ^ min (((n % 8:Nat):Int)).toNat IntKind.u8.bits)=((Jh n).toNat:Int):=by
  rw[OD];unfold Jh
  generalize n % 8=m at r
  match m,r with
  | 0,_|1,_|2,_|3,_|4,_|5,_|6,_|7,_=>decide
 rwa [e]at this
theorem Vf {ts:Array TypeId}(hx:ev E x=I 8)(hy:ev E y=I ↑a):PV P ⟨dd,.call { callee:=.builtin .max,args:=#[x,y],argTypes:=ts },ty,pos,af,g⟩ E (I ↑(max 8 a)):=by
 have:=Sr (P:=P) (dd:=dd) (ty:=ty) (pos:=pos) (af:=af) (g:=g) (ts:=ts) hx hy;rwa [show max (8:Int) (a:Int)=((max 8 a:Nat):Int) by omega]at this
end
theorem WQ (m:Nat):(An m [Value.int .u8 0]).flatten=(An m (0:UInt8)).flatMap Fq:=by
 induction m with
 | zero=>rfl
 | succ k ih=>rw[CR,CR,List.flatten_cons,AF,ih];rfl
theorem WZ {q:List Nat}{i x:Nat}(h:q[i]?=some x):(G0 q)[i]?=some (I ↑x):=by rw[AG,h];rfl
theorem SI {i:Nat}{c:UInt8}(h:b[i]?=some c):b.getD i 0=c:=by rw[BN,h];rfl
theorem X9w (b:Fh)(v:Value)(s:Fh)(w:World)(hv:Fs Fq 1 w v b)(hb:b.length<=1000000000)(hs:s.length<=1000000000) :
  FW 185 [v,S s] w (B (Ky b s)):=by
 refine cE Tryz.func185 λr=>FL 5 1 (hv.ext r).sl ?_;refine Fk (λO=>?_) λO=>?_
 ·refine go ?_;have e:b=[]:=Az Fb;exact⟨by rw[e];rfl,r⟩
 have z:0<b.length:=by omega
 refine FL 5 1 (hv.ext r).sl ?_;refine dp (Xwc Fb rfl rfl) (cP (Xrq s (8*b.length) _ hs Fb Fb) RX.all λw1 Z=>?_);have r:=r.trans Z;refine F9 (G:=Nat) (λk=>[(0,v),(14,.agg ⟨G0 (JF s (8*b.length))⟩),(15,I ↑k)]) (λk w'=>Fp w w'/\k<=6/\((JF s (8*b.length)).take k).all (Kh b)=true) (λk=>6-k) 0 ⟨r,Ab _,rfl⟩ ?_;rintro _ k w2 ⟨r,hk1,hA⟩;refine Fk (λc2=>?_) λc2=>?_
 ·obtain⟨x,hk⟩:∃x,(JF s (8*b.length))[k]?=some x:=⟨_,Au (by rw[OZ];omega)⟩;have hx8:=Su Fb (Ag hk);obtain⟨c,hc⟩:∃c,b[x / 8]?=some c:=F8;refine go ?_;refine dp (Rp (m:=6) (e:=3) Fe Fe rfl rfl Fb (WZ hk)) (Gn 10000010000 λw3 Y=>?_);have r:=r.trans Y;refine go ?_;refine dp (Tk rfl rfl) (di 5 1 hv.sl rfl (hv.lt hc) (dL rfl (λ_ hR=>(((hv.ext (r.trans hR)).row hc).at0 rfl)) (go ?_)));refine dp (Xwd Fb rfl rfl) (dp (SK rfl rfl) (dp (Tj rfl rfl) (dp (QP (b:=0) rfl rfl) ?_)));refine Fk (λJ=>?_) λJ=>?_
  ·refine go ?_;refine⟨?_,r⟩;have H:¬ b=[]:=λe=>by rw[e]at z;simp at z
   have:Ky b s=false:=by
    unfold Ky;rw[decide_eq_false H,BY,<-Bool.not_eq_true,AO];intro h;have:=h x (Ag hk);unfold Kh at this;rw[SI hc,decide_eq_true_eq]at this;exact this (by simpa using J)
   rw[this]
  refine go ?_;refine FJ (k+1) ⟨r,by omega,?_⟩;rw[GQ hk,CK,hA,List.all_cons,List.all_nil,C1,Bool.and_true];unfold Kh;rw[SI hc];simpa using J
 refine go ?_;refine⟨?_,r⟩;rw[Ar (by rw[OZ];omega)]at hA;unfold Ky;rw[hA,Bool.or_true]
theorem YD (l:List Fh)(v:Value)(w:World)(hv:Fs G8 1 w v l)(hl:l.length<=1000000)(hs:∀s∈l,s.length<=1000000000) :
  Gf 197 [v] w λu w'=>Vc.Own Fq 1 5 w.heap.size w' u (Jl l):=by
 refine cE Tryz.func197 λr=>?_;have hbn:I6 l.length<=10000008:=by unfold I6;omega
 refine FL 9 1 (hv.ext r).sl ?_;refine dp (Kp rfl rfl (by unfold Fx;omega)) (go ?_);refine F3 (v:=I ↑((10*l.length+7) / 8)) rfl (Tk (a:=10*l.length+7) rfl rfl) rfl (dp (Vf rfl rfl) (Mk (e:=5) (sz:=1) (by':=1) (zs:=[.int .u8 0]) rfl Fe Fe Fe rfl rfl Fb Fb RX.all (λb1 w1 e1 Z m1=>?_)));have g1:=r.ge e1;have r:=r.trans Z;refine FL 9 1 (hv.ext r).sl ?_;refine F9 (G:=Nat×Fh) (λ(k,b)=>[(2,.slice none 0 0),(3,.slice (some ⟨b1,0,none⟩) (I6 l.length) (I6 l.length)),(15,v),(16,I ↑l.length),(17,I ↑k)]) (λ(k,b) w'=>Fp w w'/\k<=l.length/\Vc.Own Fq 1 5 w.heap.size w' (.slice (some ⟨b1,0,none⟩) (I6 l.length) (I6 l.length)) b/\b=(l.take k).foldl Oh (An (I6 l.length) 0)) (λ(k,b)=>l.length-k) (0,An (I6 l.length) 0) ⟨r,Ab _,m1.own (enc:=Fq) (sz:=1) (l:=An (I6 l.length) 0) g1 (WQ _) Ff F5 (by simp;omega),rfl⟩ ?_;rintro _ ⟨k,b⟩ w2 ⟨r,hk1,ho,hb⟩;refine Fk (λJ=>?_) λJ=>?_
 ·obtain⟨s,hk⟩:∃s,l[k]?=some s:=F8;have z:b.length=I6 l.length:=by rw[hb,Ul,CW]
  refine go ?_;refine di 9 1 (hv.ext r).sl rfl ((hv.ext r).lt hk) (dl rfl (((hv.ext r).row hk).at0 rfl) (go ?_));refine dv 5 1 (ho.arr Ff).sl (dp (Xwc Fb rfl rfl) (cP (Xrq s (8*b.length) _ (hs s (Ag hk)) (by unfold I6 at z;omega) Fb) RX.all λw3 O=>Fz O ho r λho r=>F9 (G:=Nat×Fh) (λ(j,c0)=>[(2,.slice none 0 0),(3,.slice (some ⟨b1,0,none⟩) (I6 l.length) (I6 l.length)),(15,v),(16,I ↑l.length),(17,I ↑k),(25,.agg ⟨G0 (JF s (8*b.length))⟩),(26,I ↑j)]) (λ(j,c0) w'=>Fp w w'/\j<=6/\Vc.Own Fq 1 5 w.heap.size w' (.slice (some ⟨b1,0,none⟩) (I6 l.length) (I6 l.length)) c0/\c0=((JF s (8*b.length)).take j).foldl KY b) (λ(j,c0)=>6-j) (0,b) ⟨r,Ab _,ho,rfl⟩ ?_));rintro _ ⟨j,c0⟩ w4 ⟨r,hj1,ho,hcb⟩;refine Fk (λc2=>?_) λc2=>?_
  ·obtain⟨x,hj⟩:∃x,(JF s (8*b.length))[j]?=some x:=⟨_,Au (by rw[OZ];omega)⟩;have hclen:c0.length=b.length:=by rw[hcb,WM]
   have hx8:=Su (by unfold I6 at z;omega) (Ag hj);obtain⟨c,hc⟩:∃c,c0[x / 8]?=some c:=F8;refine go ?_;refine dp (Rp (m:=6) (e:=3) Fe Fe rfl rfl Fb (WZ hj)) (Gn 150000010000 λw5 Y=>Fz Y ho r λho r=>?_);refine go ?_;refine dp (Tk rfl rfl) (di 5 1 (ho.arr Ff).sl rfl ((ho.arr Ff).lt hc) (dL rfl (λ_ hR=>((((ho.arr Ff).ext hR).row hc).at0 rfl)) (go ?_)));refine dp (Xwd Fb rfl rfl) (dp (SK rfl rfl) (dp (PW rfl rfl) (F3 (v:=Fg b1 (x / 8*1+0)) rfl (Ii (e:=5) (k:=1) Fe ho.sl rfl rfl Fb) (by show Fg b1 (0+x / 8*1)=_;rw[A0];rfl) (HO (enc:=Fq) (sz:=1) (i:=x / 8) (j:=0) (x:=c ||| Jh x) (vs:=[b8 (c ||| Jh x)]) Ff rfl ho rfl rfl rfl Fe Fb rfl (Aa 1) (by intro v hv;rw[Af.1 hv];rfl) (.inl rfl) (λw6 x6 xs6 H=>?_)))));have r:=r.own x6 F4;have ho:=H;refine go ?_;refine FJ (j+1,c0.set (x / 8) (c ||| Jh x)) ⟨r,by omega,ho,?_⟩;rw[GQ hj,BC,<-hcb];show _=KY c0 x;unfold KY;rw[SI hc]
  refine go ?_;refine FJ (k+1,c0) ⟨r,by omega,ho,?_⟩;rw[GQ hk,BC,<-hb,hcb,Ar (by rw[OZ];omega)];rfl
 refine go ?_;rw[Ar Fb]at hb;exact⟨_,rfl,r,by rw[hb]at ho;exact ho⟩
variable {a:Cell}
theorem Xp2 {b:Cell}(h:Op.bytesLess a.key b.key=true):less a b=true:=(J6 a b).2 (.inl h)
theorem Xp3 {b:Cell}(h:Op.bytesLess a.key b.key=false)(e:a.key=b.key):less a b=decide (b.seq<a.seq):=by simp [less,e]
theorem Xp4 {b:Cell}(h:Op.bytesLess a.key b.key=false)(e:¬ a.key=b.key):less a b=false:=by simp [less,e,F0,h]
theorem Sl {l:List Cell}{k:Nat}{c:Cell}{key:Fh}{seq:Int}(h:l[k]?=some c):first (l.drop k) key seq=if(decide (c.key=key) && decide (c.seq<=seq))=true then some c else first (l.drop (k+1)) key seq:=by
 obtain⟨hk,rfl⟩:=Ap.1 h;rw[CG hk];unfold first
 rw[CL];split<;>simp [*]
theorem Oc (a b:Cell)(w:World) :
  FW 99 [a.v,b.v] w (B (less a b)):=by
 refine cE Tryz.func99 λr=>go ?_;refine Gx rfl rfl rfl RX.all (λb1 w1 e1 O z=>?_);have g1:=r.ge e1;have r:=r.trans O;refine Gx rfl rfl rfl RX.all (λb2 w2 e2 J m2=>?_);have g2:=r.ge e2;have n2_1:=z.ltb e2;refine Fz J z r λz r=>go ?_;refine dp (Mt rfl rfl) ?_;refine Fk (λH=>?_) λH=>?_
 ·refine go ?_;refine dp (LS rfl rfl) (go ?_);refine⟨?_,r⟩;simp [less, *]
 refine go ?_;refine⟨?_,r⟩;simp [less, *]
theorem R5 (a b:Cell)(w:World) :
  FW 215 [a.v,b.v] w (B (less a b)):=by
 refine cE Tryz.func215 λr=>go ?_;refine Gx rfl rfl rfl RX.all (λb1 w1 e1 O z=>?_);have g1:=r.ge e1;have r:=r.trans O;refine Gx rfl rfl rfl RX.all (λb2 w2 e2 J m2=>?_);have g2:=r.ge e2;have n2_1:=z.ltb e2;refine Fz J z r λz r=>go ?_;refine dp (LS rfl rfl) (go ?_);refine Il 10 rfl (λH=>?_) (λH=>?_)
 ·refine go ?_;refine⟨?_,r⟩;simp only [Ending.returned.injEq,Value.bool.injEq]
  symm
  exact Xp2 (by assumption)
 refine go ?_;refine dp (Kr rfl rfl) ?_;refine ds1 16 (λY=>?_) λY=>?_
 ·refine go ?_;refine⟨?_,r⟩;simp only [Ending.returned.injEq,Value.bool.injEq]
  symm
  exact Xp3 (by assumption) (by assumption)
 refine go ?_;refine⟨?_,r⟩;simp only [Ending.returned.injEq,Value.bool.injEq]
 symm
 exact Xp4 (by assumption) (by assumption)
theorem SE (c:Cell)(w:World) :
  FW 153 [c.v] w (B (Gk c)):=by
 refine cE Tryz.func153 λr=>go ?_;refine Gx rfl rfl rfl RX.all (λb1 w1 e1 Z m1=>?_);have g1:=r.ge e1;have r:=r.trans Z;refine go ?_;refine dp (HW rfl rfl) ?_;refine ds1 7 (λz=>?_) λz=>?_
 ·refine go ?_;refine dp (IA rfl rfl) ?_;refine ds1 13 (λc2=>?_) λc2=>?_
  ·refine go ?_;refine dp (IA rfl rfl) ?_;refine ds1 19 (λc3=>?_) λc3=>?_
   ·refine go ?_;refine Il 23 rfl (λO=>?_) (λO=>?_)
    ·refine go ?_;refine dp (HW rfl rfl) ?_;refine ds1 34 (λH=>?_) λH=>?_
     ·refine go ?_;refine dp (IA rfl rfl) (go ?_);refine⟨?_,r⟩;simp only [Ending.returned.injEq,Value.bool.injEq];simp [Gk, *];omega
     refine go ?_;refine⟨?_,r⟩;simp only [Ending.returned.injEq,Value.bool.injEq];simp [Gk, *]
    refine go ?_;refine dp (Kr rfl rfl) ?_;refine ds1 29 (λY=>?_) λY=>?_
    ·refine go ?_;refine dp (HW rfl rfl) ?_;refine ds1 34 (λJ=>?_) λJ=>?_
     ·refine go ?_;refine dp (IA rfl rfl) (go ?_);refine⟨?_,r⟩;simp only [Ending.returned.injEq,Value.bool.injEq];simp [Gk, *];omega
     refine go ?_;refine⟨?_,r⟩;simp only [Ending.returned.injEq,Value.bool.injEq];simp [Gk, *]
    refine go ?_;refine⟨?_,r⟩;simp only [Ending.returned.injEq,Value.bool.injEq];simp [Gk, *]
   refine go ?_;refine⟨?_,r⟩;simp only [Ending.returned.injEq,Value.bool.injEq];simp [Gk, *];omega
  refine go ?_;refine⟨?_,r⟩;simp only [Ending.returned.injEq,Value.bool.injEq];simp [Gk, *];omega
 refine go ?_;refine⟨?_,r⟩;simp only [Ending.returned.injEq,Value.bool.injEq];simp [Gk, *];omega
theorem S6 (c:Cell)(w:World) :
  FW 36 [c.v] w (B (Gk c)):=by
 refine cE Tryz.func36 λr=>go ?_;refine Gx rfl rfl rfl RX.all (λb1 w1 e1 Z m1=>?_);have g1:=r.ge e1;have r:=r.trans Z;refine go ?_;refine dp (HW rfl rfl) ?_;refine ds1 7 (λz=>?_) λz=>?_
 ·refine go ?_;refine dp (IA rfl rfl) ?_;refine ds1 13 (λc2=>?_) λc2=>?_
  ·refine go ?_;refine dp (IA rfl rfl) ?_;refine ds1 19 (λc3=>?_) λc3=>?_
   ·refine go ?_;refine Il 23 rfl (λO=>?_) (λO=>?_)
    ·refine go ?_;refine dp (HW rfl rfl) ?_;refine ds1 34 (λH=>?_) λH=>?_
     ·refine go ?_;refine dp (IA rfl rfl) (go ?_);refine⟨?_,r⟩;simp only [Ending.returned.injEq,Value.bool.injEq];simp [Gk, *];omega
     refine go ?_;refine⟨?_,r⟩;simp only [Ending.returned.injEq,Value.bool.injEq];simp [Gk, *]
    refine go ?_;refine dp (Kr rfl rfl) ?_;refine ds1 29 (λY=>?_) λY=>?_
    ·refine go ?_;refine dp (HW rfl rfl) ?_;refine ds1 34 (λJ=>?_) λJ=>?_
     ·refine go ?_;refine dp (IA rfl rfl) (go ?_);refine⟨?_,r⟩;simp only [Ending.returned.injEq,Value.bool.injEq];simp [Gk, *];omega
     refine go ?_;refine⟨?_,r⟩;simp only [Ending.returned.injEq,Value.bool.injEq];simp [Gk, *]
    refine go ?_;refine⟨?_,r⟩;simp only [Ending.returned.injEq,Value.bool.injEq];simp [Gk, *]
   refine go ?_;refine⟨?_,r⟩;simp only [Ending.returned.injEq,Value.bool.injEq];simp [Gk, *];omega
  refine go ?_;refine⟨?_,r⟩;simp only [Ending.returned.injEq,Value.bool.injEq];simp [Gk, *];omega
 refine go ?_;refine⟨?_,r⟩;simp only [Ending.returned.injEq,Value.bool.injEq];simp [Gk, *];omega
theorem Sm (c:Cell)(w:World)(hk:c.key.length<=1000000000)(hv:c.val.length<=1000000000) :
  FW 169 [c.v] w (I (G5 c)):=by
 refine cE Tryz.func169 λr=>go ?_;refine Gx rfl rfl rfl RX.all (λb1 w1 e1 z m1=>?_);have g1:=r.ge e1;have r:=r.trans z;refine go ?_;refine⟨?_,r⟩;simp [G5]
theorem UP (c:Cell)(w:World)(hk:c.key.length<=1000000000)(hv:c.val.length<=1000000000) :
  FW 276 [c.v] w (I (G5 c)):=by
 refine cE Tryz.func276 λr=>go ?_;refine Gx rfl rfl rfl RX.all (λb1 w1 e1 z m1=>?_);have g1:=r.ge e1;have r:=r.trans z;refine go ?_;refine⟨?_,r⟩;simp [G5]
theorem WH (l:List Cell)(v:Value)(key:Fh)(seq:Int)(w:World)(hv:Fs Cell.cs 4 w v l)(hl:l.length<=1000000000) :
  FW 212 [v,S key,I seq] w (.tuple #[((first l key seq).getD Cell.zero).v,B (first l key seq).isSome]):=by
 refine cE Tryz.func212 λr=>go ?_;refine aL [S [],S [],B false,.int .i64 0] λb1 w1 e1 O z=>?_;have g1:=r.ge e1;have r:=r.trans O;refine F9 (G:=Nat) (λk=>[(0,v),(1,S key),(2,I seq),(6,Fg b1 0),(8,I ↑k)]) (λk w'=>Fp w w'/\Fo w' b1 [S [],S [],B false,I 0] 79/\k<=l.length/\first (l.drop k) key seq=first l key seq) (λk=>l.length-k) 0 ⟨r,z,Ab _,rfl⟩ ?_;rintro _ k w2 ⟨r,z,hk1,hk2⟩;refine FL 79 4 hv.sl ?_;refine Fk (λH=>?_) λH=>?_
 ·obtain⟨c,hk⟩:∃c,l[k]?=some c:=F8;refine FK 79 4 hv.sl (hv.lt hk) ?_;refine go ?_;refine dl rfl (((hv.ext r).row hk).at rfl) (go ?_);refine dp (Kr rfl rfl) ?_;refine ds1 22 (λY=>?_) λY=>?_
  ·refine FK 79 4 hv.sl (hv.lt hk) ?_;refine go ?_;refine dl rfl (((hv.ext r).row hk).at rfl) (go ?_);refine dp (IA rfl rfl) ?_;refine Fk (λZ=>?_) λZ=>?_
   ·refine FK 79 4 hv.sl (hv.lt hk) ?_;refine dq (Fy Fe rfl rfl ((hv.ext r).row hk)) (Gc z (λw3 J xs3 z=>?_));have r:=r.o1 J;refine go ?_;refine It (u:=?v17) rfl rfl rfl rfl Fe rfl z.row ?h17 ?k17
    case h17=>conv=>lhs;whnf
    refine⟨?_,r⟩;rw[<-hk2];rw[Sl hk];simp [*];done
   refine go ?_;refine FJ (k+1) ⟨r,z,by omega,?_⟩;rw[<-hk2,Sl hk];simp [*]
  refine go ?_;refine GL rfl (go ?_);refine FJ (k+1) ⟨r,z,by omega,?_⟩;rw[<-hk2,Sl hk];simp [*]
 refine go ?_;refine db (zs:=[S [],S [],B false,.int .i64 0]) (pl:=[(0,1),(1,1),(2,1),(3,1)]) (pv:=[]) (cs:=[S [],S [],B false,.int .i64 0]) ?_;refine Gc z (λw4 x4 xs4 z=>?_);have r:=r.o1 x4;refine go ?_;refine It (u:=?v26) rfl rfl rfl rfl Fe rfl z.row ?h26 ?k26
 case h26=>conv=>lhs;whnf
 refine⟨?_,r⟩;rw[<-hk2];rw[BW Fb];rfl
end Go.Proofs.YtiooodckiddpmaaGreatDoor
namespace Go.Sp
open Go.Vc (Fh)
def JW : Fh->Fh->Nat
 | a :: r,b :: s=>if a=b then JW r s+1 else 0
 | _,_=>0
theorem SV : ∀(a b:Fh),JW a b<=a.length/\JW a b<=b.length/\a.take (JW a b)=b.take (JW a b)
 | [],b=>by simp [JW]
 | a :: r,[]=>by simp [JW]
 | a :: r,b :: s=>by
  have:=SV r s;unfold JW;split
  ·rename_i h;subst h;simp only [AA,C0];exact⟨by omega,by omega,by rw[this.2.2]⟩
  ·simp
variable {k:Nat}
theorem Xn1 {a b:Fh}{x y:UInt8}(hx:a[k]?=some x)(hy:b[k]?=some y):JW (a.drop k) (b.drop k)=if x=y then JW (a.drop (k+1)) (b.drop (k+1))+1 else 0:=by
 obtain⟨h1,rfl⟩:=Ap.1 hx;obtain⟨h2,rfl⟩:=Ap.1 hy;rw[CG h1,CG h2];rfl
theorem UE {a b:Fh}(h:a.length<=k\/b.length<=k):JW (a.drop k) (b.drop k)=0:=by
 rcases h with h|h
 ·rw[BW h];cases b.drop k<;>rfl
 ·rw[BW h];cases a.drop k<;>rfl
def K7 : List Cell->Bool
 | a :: b :: r=>less a b && K7 (b :: r)
 | _=>true
def Hl (l:List Cell):Int:=if(l.all Gk)=true then(if K7 l=true then 0 else 11)else 1
variable {l:List Cell}
theorem Yl (h:K7 l=true){a b:Cell}(ha:l[k]?=some a)(hb:l[k+1]?=some b):less a b=true:=by
 induction l generalizing k with
 | nil=>cases ha
 | cons x r ih=>
  cases r with
  | nil=>simp at hb
  | cons y r=>
   unfold K7 at h;rw[Aq]at h
   cases k with
   | zero=>simp at ha hb;subst ha hb;exact h.1
   | succ k=>exact ih h.2 (by simpa using ha) (by simpa using hb)
theorem X1i (h:∀(k:Nat) (a b:Cell),l[k]?=some a->l[k+1]?=some b->less a b=true):K7 l=true:=by
 induction l with
 | nil=>rfl
 | cons x r ih=>
  cases r with
  | nil=>rfl
  | cons y r=>
   unfold K7;rw[h 0 x y rfl rfl,C1];exact ih (λk a b z hb=>h (k+1) a b (by simpa using z) (by simpa using hb))
theorem LH : Hl l=0↔(∀c∈l,Gk c=true)/\K7 l=true:=by
 unfold Hl;split
 ·rename_i h;rw[AO]at h;split
  ·rename_i h2;exact⟨λ_=>⟨h,h2⟩,λ_=>rfl⟩
  ·rename_i h2;exact⟨λe=>by simp at e,λe=>absurd e.2 h2⟩
 ·rename_i h;exact⟨λe=>by simp at e,λe=>absurd (AO.2 e.1) h⟩
def Mn (d:Bool):Nat:=if d then 1 else 0
def KE (n:Nat)(c:Cell):Fh:=F6 n++FA (c.key.drop n)++(F6 c.seq.toNat++F6 (Mn c.del))++(if c.del then[]else FA c.val)
def H9 (l:List Cell)(k:Nat):Nat:=if k % 4=0 then 0 else JW (l[k-1]?.getD Cell.zero).key (l[k]?.getD Cell.zero).key
def Kc (l:List Cell)(k:Nat):Fh:=KE (H9 l k) (l[k]?.getD Cell.zero)
def HA (l:List Cell):Fh:=(BK l.length).flatMap (Kc l)
def IG (l:List Cell)(k:Nat):Fh:=((BK l.length).drop k).flatMap (Kc l)
theorem X9x (l:List Cell):IG l 0=HA l:=rfl
theorem Tv (h:k<l.length):IG l k=Kc l k++IG l (k+1):=by
 unfold IG;rw[CG (by simpa using h),AF];simp
theorem Re (h:l.length<=k):IG l k=[]:=by
 unfold IG;rw[BW (by simpa using h)];rfl
theorem Sy (h:k<l.length):(BK (k+1)).flatMap (Kc l)=(BK k).flatMap (Kc l)++Kc l k:=by
 rw[E4,Bb];simp
theorem Y6 {c:Cell}(h:l[k]?=some c):H9 l k<=c.key.length:=by
 unfold H9;rw[h];split
 ·omega
 ·exact(SV _ _).2.1
theorem Xwl {c:Cell}(h:l[k]?=some c):∀p:Fh,p=(if k=0 then[]else(l[k-1]?.getD Cell.zero).key)->H9 l k<=p.length/\p.take (H9 l k)++c.key.drop (H9 l k)=c.key:=by
 intro p r;unfold H9;rw[h];split
 ·rename_i h4;simp
 ·rename_i h4;rw[if_neg (by rintro rfl;simp at h4)]at r;subst r;have:=SV (l[k-1]?.getD Cell.zero).key c.key;simp only [DR];exact⟨this.1,by rw[this.2.2,AS]⟩
theorem Xwm (n:Nat){c:Cell}(h:Gk c=true):(KE n c).length<=50+c.key.length+c.val.length:=by
 unfold KE FA;have h1:=Gq n;have h2:=Gq (c.key.drop n).length;have h3:=Gq c.seq.toNat;have h4:=Gq (Mn c.del);have h5:=Gq c.val.length;split<;>simp only [Ad,AX,Bl]at *<;>omega
theorem X4 (n:Nat)(c:Cell):1<=(KE n c).length:=by
 unfold KE F6;have:1<=(Hk 10 n).length:=Un 9 n;simp only [Ad];omega
theorem S8 (h:∀c∈l,Gk c=true)(k:Nat)(hk:k<=l.length):((BK k).flatMap (Kc l)).length<=20600*k:=by
 induction k with
 | zero=>simp
 | succ k ih=>
  rw[Sy Fb,Ad];have:=ih Fb;have r:l[k]?=some l[k]:=Au Fb;have hi:=h l[k] (Dt ..);have:=Xwm (H9 l k) hi;have e:Kc l k=KE (H9 l k) l[k]:=by unfold Kc;rw[r];rfl
  simp only [Gk,Aq,decide_eq_true_eq]at hi;rw[e];omega
theorem Qv (h:∀c∈l,Gk c=true):(HA l).length<=20600*l.length:=S8 h l.length (Aa _)
end Go.Sp
namespace Go.Proofs.YtiooodckiddpmaaGreatDoor
open Go.Vc Go.Sp
attribute [local irreducible] W XW Dw G9
variable {k:Nat}{l:List Cell}
theorem Xtw {a b:Cell}(hk:1<=k)(h1:l[k-1]?=some a)(h2:l[k]?=some b):K7 (l.drop (k-1))=(less a b && K7 (l.drop k)):=by
 obtain⟨i,rfl⟩:∃i,k=i+1:=⟨k-1,by omega⟩;simp only [Nat.add_sub_cancel]at *;rw[IW h1,IW h2];rfl
theorem Xwn (h:l.length<=k):K7 (l.drop (k-1))=true:=by
 have r:(l.drop (k-1)).length<=1:=by rw[AX];omega
 match hd:l.drop (k-1),r with
 | [],_=>rfl
 | [a],_=>rfl
theorem X1j {c:Cell}(h:l[k]?=some c):(l.take (k+1)).all Gk=((l.take k).all Gk && Gk c):=by
 rw[GQ h,CK];simp
theorem X6n {c:Cell}(h:l[k]?=some c)(hc:Gk c=false):Hl l=1:=by
 unfold Hl;rw[if_neg];intro h2;rw[AO]at h2;rw[h2 c (Ag h)]at hc
 cases hc
theorem KF {c:Cell}(h:Gk c=true):c.key.length<=4096/\c.val.length<=16384/\1<=c.key.length/\1<=c.seq/\c.seq<=1099511627776/\(c.del=true->c.val=[]):=by
 simp only [Gk,Aq,BH,decide_eq_true_eq]at h;refine⟨by omega,by omega,by omega,by omega,by omega,λhd=>?_⟩;obtain⟨⟨⟨_,h4⟩,_⟩,_⟩:=h;rcases h4 with h4|h4
 ·rw[hd]at h4;cases h4
 ·exact h4
theorem Wo {n:Int}(h:1<=n)(h2:n<=1099511627776):HC n=n.toNat:=by unfold HC;omega
theorem X1k (a b:Fh)(w:World)(ha:a.length<=1000000000)(hb:b.length<=1000000000) :
  FW 300 [S a,S b] w (I ↑(JW a b)):=by
 refine cE Tryz.func300 λr=>F9 (G:=Nat) (λk=>[(0,S a),(1,S b),(4,I 0),(5,I ↑k)]) (λk w'=>Fp w w'/\k<=a.length/\k<=b.length/\JW (a.drop k) (b.drop k)+k=JW a b) (λk=>a.length-k) 0 ⟨r,Ab _,Ab _,rfl⟩ ?_;rintro _ k w1 ⟨r,hka,hkb,hsh⟩;refine Gn 10000000000000000000 λw2 O=>?_;have r:=r.trans O;refine ds1 10 (λJ=>?_) λJ=>?_
 ·refine ds1 16 (λY=>?_) λY=>?_
  ·obtain⟨x,hk1⟩:∃x,a[k]?=some x:=F8;obtain⟨y,hk2⟩:∃y,b[k]?=some y:=F8;have z:=Xn1 hk1 hk2;refine go ?_;refine dp (Sf Fe rfl rfl hk1) (go ?_);refine dp (Sf Fe rfl rfl hk2) (dp (QP rfl rfl) ?_);refine Fk (λH=>?_) λH=>?_
   ·refine go ?_;refine FJ (k+1) ⟨r,by omega,by omega,?_⟩;rw[z,if_pos (by simpa using H)]at hsh;omega
   refine go ?_;refine⟨?_,r⟩;rw[z,if_neg (by simpa using H)]at hsh;rw[<-hsh,A0]
  refine go ?_;refine GL rfl (go ?_);refine⟨?_,r⟩;rw[UE (.inr Fb)]at hsh;rw[<-hsh,A0]
 refine go ?_;refine GL rfl (go ?_);refine⟨?_,r⟩;rw[UE (.inl Fb)]at hsh;rw[<-hsh,A0]
theorem X9y (d:Bool)(w:World) :
  FW 301 [B d] w (I ↑(Mn d)):=by
 refine cE Tryz.func301 λz=>?_;refine FZ (λr=>?_) λr=>?_
 ·refine go ?_;refine⟨?_,z⟩;rw[r];rfl
 refine go ?_;refine⟨?_,z⟩;rw[r];rfl
theorem X6o (l:List Cell)(v:Value)(w:World)(hv:Fs Cell.cs 4 w v l)(hl:l.length<=30000) :
  FW 299 [v] w (I (Hl l)):=by
 refine cE Tryz.func299 λr=>FL 79 4 (hv.ext r).sl ?_;refine F9 (G:=Nat) (λk=>[(0,v),(6,v),(7,I ↑l.length),(8,I ↑k)]) (λk w'=>Fp w w'/\k<=l.length/\(l.take k).all Gk=true) (λk=>l.length-k) 0 ⟨r,Ab _,rfl⟩ ?_;rintro _ k w1 ⟨r,hk1,hA⟩;refine Fk (λY=>?_) λY=>?_
 ·obtain⟨c,hk⟩:∃c,l[k]?=some c:=F8;refine go ?_;refine di 79 4 (hv.ext r).sl rfl ((hv.ext r).lt hk) (dq (Fy Fe rfl rfl ((hv.ext r).row hk)) (aL [S [],S [],B false,.int .i64 0] λb1 w2 e1 x2 O=>?_));have g1:=r.ge e1;have r:=r.trans x2;refine Gc O (λw3 Z xs3 O=>?_);have r:=r.o1 Z;refine go ?_;refine dq (Fy (k:=4) Fe rfl rfl O.row) (cP (SE c _) RX.all λw4 x4=>?_);have r:=r.trans x4;refine FZ (λJ=>?_) λJ=>?_
  ·refine go ?_;refine⟨?_,r⟩;rw[X6n hk (by simpa using J)]
  refine go ?_;refine FJ (k+1) ⟨r,by omega,?_⟩;rw[X1j hk,hA];simpa using J
 refine F9 (G:=Nat) (λk=>[(0,v),(5,I ↑k)]) (λk w'=>Fp w w'/\1<=k/\K7 l=K7 (l.drop (k-1))/\l.all Gk=true) (λk=>l.length-k) 1 ⟨r,Aa _,rfl,by rw[Ar Fb]at hA;exact hA⟩ ?_;rintro _ k w5 ⟨r,hk0,hr,hA⟩;refine FL 79 4 (hv.ext r).sl ?_;refine Fk (λc3=>?_) λc3=>?_
 ·obtain⟨c,hk⟩:∃c,l[k]?=some c:=F8;obtain⟨x,hk1⟩:∃x,l[k-1]?=some x:=F8;have z:=Xtw hk0 hk1 hk;refine Gn 105100010000 λw6 x6=>?_;have r:=r.trans x6;refine gn ?_;refine F3 (v:=I ↑(k-1)) rfl (Gz rfl rfl (by unfold Fx;omega)) (by show I _=I _;congr 1;omega) (di 79 4 (hv.ext r).sl rfl ((hv.ext r).lt hk1) (Gd rfl (λw' hR=>Fy Fe rfl rfl (((hv.ext r).ext hR).row hk1)) (go ?_)));refine di 79 4 (hv.ext r).sl rfl ((hv.ext r).lt hk) (Gd rfl (λw' hR=>Fy Fe rfl rfl (((hv.ext r).ext hR).row hk)) (cP (Oc x c _) RX.all λw7 x7=>?_));have r:=r.trans x7;refine FZ (λH=>?_) λH=>?_
  ·refine go ?_;refine⟨?_,r⟩;simp only [BI]at H;unfold Hl;rw[if_pos hA,hr,z,H];rfl
  refine go ?_;refine FJ (k+1) ⟨r,by omega,?_,hA⟩;rw[hr,z];simp at H;rw[H];rfl
 refine go ?_;refine⟨?_,r⟩;unfold Hl;rw[if_pos hA,hr,Xwn Fb];rfl
end Go.Proofs.YtiooodckiddpmaaGreatDoor
namespace Go.Proofs
open Go.Shelf
def Tryz.lays125_ren : Go.Shelf.Ren:=⟨λ|125=>204|128=>271|129=>272|n=>n,λ|46=>237|3=>3|51=>174|53=>236|4=>4|5=>5|9=>9|n=>n,λ|n=>n⟩
def Tryz.lays106_ren : Go.Shelf.Ren:=⟨λ|106=>166|213=>242|265=>298|n=>n,λ|9=>9|3=>3|n=>n,λ|n=>n⟩
theorem Tryz.lays106 : Go.Proofs.Lays.n106 Tryz.prog Tryz.lays106_ren:={
 mixed:=by kernel_rfl
 f106:=Tryz.func166.trans (congrArg some Fe)
 f213:=Tryz.func242.trans (congrArg some Fe)
 f265:=Tryz.func298.trans (congrArg some Fe)
 t3:=Tryz.underlying3
 a3:=Tryz.isAgg3
 z3:=Tryz.sizeOf3
 v3:=Tryz.zeroValue3
 t9:=Tryz.underlying9
 a9:=Tryz.isAgg9
 z9:=Tryz.sizeOf9
 v9:=Tryz.zeroValue9 }
open Go.RowKit in
theorem Tryz.strings_Compare (a b:ByteArray)(w:World) :
 Calls Tryz.prog 166 #[.string a,.string b] w λe w'=>e=.returned (.int .i64 (Lib.compareBytes a.data.toList b.data.toList))/\w'=w:=Any.strings_Compare Tryz.lays106 a b w
def Tryz.lays122_ren : Go.Shelf.Ren:=⟨λ|122=>247|215=>304|n=>n,λ|3=>3|4=>4|n=>n,λ|n=>n⟩
def Tryz.laysM171_ren : Go.Shelf.Ren:=⟨λ|171=>106|243=>183|246=>254|283=>307|284=>308|285=>309|286=>310|129=>272|317=>329|318=>330|319=>331|320=>332|337=>338|338=>339|n=>n,λ|3=>3|9=>9|2=>2|4=>4|171=>350|0=>0|53=>236|37=>82|5=>5|173=>352|212=>366|51=>174|20=>20|213=>367|46=>237|232=>371|233=>372|n=>n,λ|17=>1|18=>2|19=>3|n=>n⟩
theorem Tryz.laysM171 : Go.Proofs.LaysM.n171 Tryz.prog Tryz.laysM171_ren:={
 mixed:=by kernel_rfl
 f129:=Tryz.func272.trans (congrArg some Fe)
 f171:=Tryz.func106.trans (congrArg some Fe)
 f243:=Tryz.func183.trans (congrArg some Fe)
 f246:=Tryz.func254.trans (congrArg some Fe)
 f283:=Tryz.func307.trans (congrArg some Fe)
 f284:=Tryz.func308.trans (congrArg some Fe)
 f285:=Tryz.func309.trans (congrArg some Fe)
 f286:=Tryz.func310.trans (congrArg some Fe)
 f317:=Tryz.func329.trans (congrArg some Fe)
 f318:=Tryz.func330.trans (congrArg some Fe)
 f319:=Tryz.func331.trans (congrArg some Fe)
 f320:=Tryz.func332.trans (congrArg some Fe)
 f337:=Tryz.func338.trans (congrArg some Fe)
 f338:=Tryz.func339.trans (congrArg some Fe)
 t0:=Tryz.underlying0
 a0:=Tryz.isAgg0
 z0:=Tryz.sizeOf0
 v0:=Tryz.zeroValue0
 t2:=Tryz.underlying2
 a2:=Tryz.isAgg2
 z2:=Tryz.sizeOf2
 v2:=Tryz.zeroValue2
 t3:=Tryz.underlying3
 a3:=Tryz.isAgg3
 z3:=Tryz.sizeOf3
 v3:=Tryz.zeroValue3
 t4:=Tryz.underlying4
 a4:=Tryz.isAgg4
 z4:=Tryz.sizeOf4
 v4:=Tryz.zeroValue4
 t5:=Tryz.underlying5
 a5:=Tryz.isAgg5
 z5:=Tryz.sizeOf5
 v5:=Tryz.zeroValue5
 t9:=Tryz.underlying9
 a9:=Tryz.isAgg9
 z9:=Tryz.sizeOf9
 v9:=Tryz.zeroValue9
 t20:=Tryz.underlying20
 a20:=Tryz.isAgg20
 z20:=Tryz.sizeOf20
 v20:=Tryz.zeroValue20
 t37:=Tryz.underlying82
 a37:=Tryz.isAgg82
 z37:=Tryz.sizeOf82
 v37:=Tryz.zeroValue82
 t46:=Tryz.underlying237
 a46:=Tryz.isAgg237
 z46:=Tryz.sizeOf237
 v46:=Tryz.zeroValue237
 t51:=Tryz.underlying174
 a51:=Tryz.isAgg174
 z51:=Tryz.sizeOf174
 v51:=Tryz.zeroValue174
 t53:=Tryz.underlying236
 a53:=Tryz.isAgg236
 z53:=Tryz.sizeOf236
 v53:=Tryz.zeroValue236
 t171:=Tryz.underlying350
 a171:=Tryz.isAgg350
 z171:=Tryz.sizeOf350
 v171:=Tryz.zeroValue350
 t173:=Tryz.underlying352
 a173:=Tryz.isAgg352
 z173:=Tryz.sizeOf352
 v173:=Tryz.zeroValue352
 t212:=Tryz.underlying366
 a212:=Tryz.isAgg366
 z212:=Tryz.sizeOf366
 v212:=Tryz.zeroValue366
 t213:=Tryz.underlying367
 a213:=Tryz.isAgg367
 z213:=Tryz.sizeOf367
 t232:=Tryz.underlying371
 a232:=Tryz.isAgg371
 z232:=Tryz.sizeOf371
 v232:=Tryz.zeroValue371
 t233:=Tryz.underlying372
 a233:=Tryz.isAgg372
 z233:=Tryz.sizeOf372
 v233:=Tryz.zeroValue372
 g17:=by kernel_rfl
 g18:=by kernel_rfl
 g19:=by kernel_rfl
 i0:=by kernel_rfl
 i2:=by kernel_rfl
 i3:=by kernel_rfl
 i4:=by kernel_rfl
 i5:=by kernel_rfl
 i9:=by kernel_rfl
 i20:=by kernel_rfl
 i37:=by kernel_rfl
 i46:=by kernel_rfl
 i51:=by kernel_rfl
 i53:=by kernel_rfl
 i171:=by kernel_rfl
 i173:=by kernel_rfl
 i212:=by kernel_rfl
 i232:=by kernel_rfl
 i233:=by kernel_rfl
 m17:=by kernel_rfl
 m18:=by kernel_rfl
 m19:=by kernel_rfl }
open Go.RowKit Go.Sort Go.Lib in
theorem Tryz.strconv_Itoa (n : Int) (h0 : -9223372036854775808 ≤ n) (h1 : n ≤ 9223372036854775807) (w : World) (htab : Lib.TabIs Tryz.prog w "internal/strconv.uint64pow10" .u64 Lib.pow10Tab) :
 Calls Tryz.prog 106 #[.int .i64 n] w λe w'=>e=.returned (.string ⟨(Lib.itoa n).toArray⟩)/\∃k os,w'=grow (w.drewN k) os:=Any.strconv_Itoa Tryz.laysM171 n h0 h1 w htab
def Tryz.lays99_ren : Go.Shelf.Ren:=⟨λ|99=>129|206=>200|n=>n,λ|9=>9|4=>4|3=>3|n=>n,λ|n=>n⟩
def Tryz.lays107_ren : Go.Shelf.Ren:=⟨λ|107=>171|108=>244|n=>n,λ|28=>159|3=>3|4=>4|0=>0|n=>n,λ|n=>n⟩
def Tryz.lays110_ren : Go.Shelf.Ren:=⟨λ|110=>130|109=>201|n=>n,λ|31=>58|9=>9|4=>4|3=>3|0=>0|n=>n,λ|n=>n⟩
theorem Tryz.lays110 : Go.Proofs.Lays.n110 Tryz.prog Tryz.lays110_ren:={
 mixed:=by kernel_rfl
 f109:=Tryz.func201.trans (congrArg some Fe)
 f110:=Tryz.func130.trans (congrArg some Fe)
 t0:=Tryz.underlying0
 a0:=Tryz.isAgg0
 z0:=Tryz.sizeOf0
 v0:=Tryz.zeroValue0
 t3:=Tryz.underlying3
 a3:=Tryz.isAgg3
 z3:=Tryz.sizeOf3
 v3:=Tryz.zeroValue3
 t4:=Tryz.underlying4
 a4:=Tryz.isAgg4
 z4:=Tryz.sizeOf4
 v4:=Tryz.zeroValue4
 t9:=Tryz.underlying9
 a9:=Tryz.isAgg9
 z9:=Tryz.sizeOf9
 v9:=Tryz.zeroValue9
 t31:=Tryz.underlying58
 a31:=Tryz.isAgg58
 z31:=Tryz.sizeOf58
 v31:=Tryz.zeroValue58 }
open Go.Lib in
theorem Tryz.slices_Contains_string (b off n c:Nat)(zs:List ByteArray)(x:ByteArray)(w:World)(hz:n<=zs.length)(hbig:n<=9223372036854775807)(hc:∀j,j<zs.length->w.cell? ⟨b,off+j,none⟩=some (.string (zs.getD j ByteArray.empty))) :
 Calls Tryz.prog 130 #[.slice (some ⟨b,off,none⟩) n c,.string x] w λe w'=>e=.returned (.bool (Lib.containsS (zs.take n) x))/\w'=w:=Any.slices_Contains_string Tryz.lays110 b off n c zs x w hz hbig hc
open Go.Lib in
theorem Tryz.slices_Contains_string_empty (a:Option Addr)(c:Nat)(x:ByteArray)(w:World) :
 Calls Tryz.prog 130 #[.slice a 0 c,.string x] w λe w'=>e=.returned (.bool false)/\w'=w:=Any.slices_Contains_string_empty Tryz.lays110 a c x w
def Tryz.laysSlJ14_ren : Go.Shelf.Ren:=⟨λ|14=>240|15=>290|n=>n,λ|26=>133|22=>82|3=>3|4=>4|0=>0|9=>9|20=>20|5=>5|n=>n,λ|n=>n⟩
theorem Tryz.laysSlJ14 : Go.Proofs.SlLaysJ.n14 Tryz.prog Tryz.laysSlJ14_ren:={
 mixed:=by kernel_rfl
 f14:=Tryz.func240.trans (congrArg some Fe)
 f15:=Tryz.func290.trans (congrArg some Fe)
 t0:=Tryz.underlying0
 a0:=Tryz.isAgg0
 z0:=Tryz.sizeOf0
 v0:=Tryz.zeroValue0
 t3:=Tryz.underlying3
 a3:=Tryz.isAgg3
 z3:=Tryz.sizeOf3
 v3:=Tryz.zeroValue3
 t4:=Tryz.underlying4
 a4:=Tryz.isAgg4
 z4:=Tryz.sizeOf4
 v4:=Tryz.zeroValue4
 t9:=Tryz.underlying9
 a9:=Tryz.isAgg9
 z9:=Tryz.sizeOf9
 v9:=Tryz.zeroValue9
 t20:=Tryz.underlying20
 a20:=Tryz.isAgg20
 z20:=Tryz.sizeOf20
 v20:=Tryz.zeroValue20
 t22:=Tryz.underlying82
 a22:=Tryz.isAgg82
 z22:=Tryz.sizeOf82
 v22:=Tryz.zeroValue82
 t26:=Tryz.underlying133
 a26:=Tryz.isAgg133
 z26:=Tryz.sizeOf133
 v26:=Tryz.zeroValue133
 t5:=Tryz.underlying5
 z5:=Tryz.sizeOf5
 i5:=by kernel_rfl }
open Go.RowKit Go.Lib in
theorem Tryz.bytes_Join_many (b o n c:Nat)(vs:List Value)(ls:List (List UInt8))(sv:Value)(sep:List UInt8)(w:World)(hn:ls.length=n)(h2:2<=n)(hP:Lib.PartsAt w ⟨b,o,none⟩ vs ls)(hcap:n<=c)(hS:Lib.HoldsBytes w sv sep)(hn47:n<=140737488355328)(hlen:Lib.lens ls+sep.length*(n-1)<=140737488355328) :
 Calls Tryz.prog 240 #[.slice (some ⟨b,o,none⟩) n c,sv] w λe w'=>∃v',e=.returned v'/\Lib.FreshBytes w.heap.size w' v' (Lib.join ls sep)/\Below w.heap.size w w':=Any.bytes_Join_many Tryz.laysSlJ14 b o n c vs ls sv sep w hn h2 hP hcap hS hn47 hlen
open Go.RowKit Go.Lib in
theorem Tryz.bytes_Join_none (p:Option Addr)(c:Nat)(sv:Value)(w:World) :
 Calls Tryz.prog 240 #[.slice p 0 c,sv] w λe w'=>e=.returned (.slice (some ⟨w.heap.size,0,none⟩) 0 0)/\w'=w.alloc (.cells #[] 5):=Any.bytes_Join_none Tryz.laysSlJ14 p c sv w
open Go.RowKit Go.Lib in
theorem Tryz.bytes_Join_one (b o c:Nat)(ad0:Addr)(c0:Nat)(l0:List UInt8)(sv:Value)(w:World)(hcell:w.cell? ⟨b,o,none⟩=some (.slice (some ad0) l0.length c0))(hc:∀(i:Nat) x,l0[i]?=some x->w.cell? (ad0.add i)=some (.int .u8 (x.toNat:Int)))(h0:0<l0.length)(hs:l0.length<=140737488355328) :
 Calls Tryz.prog 240 #[.slice (some ⟨b,o,none⟩) 1 c,sv] w λe w'=>∃v',e=.returned v'/\Lib.FreshBytes w.heap.size w' v' l0/\Below w.heap.size w w':=Any.bytes_Join_one Tryz.laysSlJ14 b o c ad0 c0 l0 sv w hcell hc h0 hs
open Go.RowKit Go.Lib in
theorem Tryz.bytes_Join_one_empty (b o c:Nat)(p0:Option Addr)(c0:Nat)(sv:Value)(w:World)(hcell:w.cell? ⟨b,o,none⟩=some (.slice p0 0 c0)) :
 Calls Tryz.prog 240 #[.slice (some ⟨b,o,none⟩) 1 c,sv] w λe w'=>e=.returned (.slice none 0 0)/\w'=w:=Any.bytes_Join_one_empty Tryz.laysSlJ14 b o c p0 c0 sv w hcell
def Tryz.laysSlE041_f102_ren : Go.Shelf.Ren:=⟨λ|41=>102|n=>n,λ|22=>153|23=>174|4=>4|n=>n,λ|n=>n⟩
end Go.Proofs
namespace Go.Proofs.YtiooodckiddpmaaGreatDoor
open Go.Vc Go.Sp
attribute [local irreducible] W XW Dw G9
def PR (a b c d:UInt8):UInt32:=((a.toUInt32 ||| (b.toUInt32 <<< 8)) ||| (c.toUInt32 <<< 16)) ||| (d.toUInt32 <<< 24)
def GA : Fh->UInt32
 | a :: b :: c :: d :: _=>PR a b c d
 | _=>0
theorem X6p (a b c d:UInt8):(PR a b c d).toNat=a.toNat+b.toNat*256+c.toNat*65536+d.toNat*16777216:=by
 unfold PR;have H:=a.toNat_lt;have hb:=b.toNat_lt;have hc:=c.toNat_lt;have hd:=d.toNat_lt;have J:(b.toUInt32 <<< 8).toNat=2 ^ 8*b.toNat:=by
  rw[Dm];simp [Dn];omega
 have r:(c.toUInt32 <<< 16).toNat=2 ^ 16*c.toNat:=by
  rw[Dm];simp [Dn];omega
 have z:(d.toUInt32 <<< 24).toNat=2 ^ 24*d.toNat:=by
  rw[Dm];simp [Dn];omega
 rw[DS,DS,DS,J,r,z,UInt8.toNat_toUInt32];rw[Dp,Dp _ (2 ^ 16*_),Dp a.toNat];rw[<-Dq (i:=8) H,<-Dq (i:=16) Fb,<-Dq (i:=24) Fb];omega
theorem Xwo (v:UInt32):PR v.toUInt8 (v >>> 8).toUInt8 (v >>> 16).toUInt8 (v >>> 24).toUInt8=v:=by
 apply E5.1
 rw[X6p];have hv:=v.toNat_lt;simp only [UInt32.toNat_toUInt8,UInt32.toNat_shiftRight];simp [Nat.shiftRight_eq_div_pow];omega
theorem Vy (v:UInt32)(r:Fh):GA (I3 v++r)=v:=Xwo v
theorem Ny (b o i:Nat):(⟨b,o,none⟩:Addr).add i=⟨b,o+i,none⟩:=by
 unfold Addr.add;split
 ·rename_i e;simp [e]
 ·rfl
theorem P9 {B:Nat}{w:World}{v:Value}{l:Fh}(h:Lib.FreshBytes B w v l):Fs Fq 1 w v l/\B<=(base v).1:=by
 obtain⟨g,cap,zs,rfl,hB,hl,hc,hz,Y,hb,r,_⟩:=h;refine⟨⟨.inr (.inl ⟨g,0,cap,by rw[Aw],by rw[Aw];exact hl⟩),λi cs hi=>?_⟩,hB⟩;rw[AG]at hi;obtain⟨x,O,rfl⟩:=Bp.1 hi;have z:i<l.length:=(Ap.1 O).1;refine⟨rfl,λj u J=>?_⟩;have H:j=0:=by
  have:=(Ap.1 J).1;simp at this;exact this
 subst H;simp only [List.getElem?_cons_zero,Al.injEq]at J;subst J;have h1:=r i Fb;have h2:(Lib.bytesOf (zs.take l.length))[i]?=some x:=by rw[hb];exact O
 unfold Lib.bytesOf at h2;rw[AG,Ba,if_pos z,Au Fb]at h2;simp only [Cn,Al.injEq]at h2;have h3:zs.getD i 0=zs[i]'Fb:=by rw[BN,Au Fb];rfl
 have h4:=Y (zs[i]'Fb) (Dt _);have Z:(x.toNat:Int)=zs[i]'Fb:=by
  rw[<-h2];have h6:(zs[i]'Fb).toNat<256:=by omega
  simp [Br h6];omega
 rw[h3,<-Z]at h1;simpa [base]using h1
theorem X6q {w:World}{q:Value×Fh}(h:Fs Fq 1 w q.1 q.2):Lib.HoldsBytes w q.1 q.2:=by
 rcases h.sl with⟨e,e2⟩|⟨b,o,c,e,_⟩|⟨e2,a,c,e⟩
 ·exact⟨none,0,by rw[e,e2],λ_=>Az e2,λa h=>by cases h⟩
 ·refine⟨some ⟨b,o,none⟩,c,e,(λh=>by cases h),λa z i x r=>?_⟩
  cases z
  rw[Ny];have:=Fs.row8 h;rw[e]at this;exact this i _ (by rw[AG,r];rfl)
 ·exact⟨some a,c,by rw[e,e2],(λh=>by cases h),λa' z i x r=>by rw[Az e2]at r;simp at r⟩
theorem Xwp (qs:List (Value×Fh)):Lib.lens (qs.map (·.2))=(qs.flatMap (·.2)).length:=by
 unfold Lib.lens
 induction qs with
 | nil=>rfl
 | cons q r ih=>rw[AF,Ad,<-ih];simp
theorem Xwq (qs:List (Value×Fh)):Lib.join (qs.map (·.2)) []=qs.flatMap (·.2):=by
 cases qs with
 | nil=>rfl
 | cons q r=>
  rw[Am,Lib.join_cons,AF]
  congr 1
  unfold Lib.joinTail
  induction r with
  | nil=>rfl
  | cons a r ih=>simp at ih ⊢;exact ih
theorem X6r (qs:List (Value×Fh))(vr:Value)(w:World)(hr:Fs (λq:Value×Fh=>[q.1]) 1 w vr qs)(hq:∀q∈qs,Fs Fq 1 w q.1 q.2)(hlen:(qs.flatMap (·.2)).length<=2001000020)(hql:qs.length<=1000000) :
  Calls Tryz.prog 240 [vr,.slice none 0 0].toArray w (GX w (λu w'=>Fs Fq 1 w' u (qs.flatMap (·.2))/\(qs.flatMap (·.2)≠[]->w.heap.size<=(base u).1))):=by
 have cell:∀b o c,vr=.slice (some ⟨b,o,none⟩) qs.length c->∀(i:Nat) q,qs[i]?=some q->w.cell? ⟨b,o+i,none⟩=some q.1:=by
  intro b o c e i q hi;have:=hr.row hi;rw[e]at this;have h0:=this 0 q.1 rfl;simpa [base]using h0
 have empty:qs.length=0->∀p c,vr=.slice p 0 c->Calls Tryz.prog 240 [vr,.slice none 0 0].toArray w (GX w (λu w'=>Fs Fq 1 w' u (qs.flatMap (·.2))/\(qs.flatMap (·.2)≠[]->w.heap.size<=(base u).1))):=by
  intro h0 p c e;have hn:qs=[]:=Az h0;subst hn;subst e;refine(Tryz.bytes_Join_none p c (.slice none 0 0) w).mono ?_;rintro e w' ⟨rfl,rfl⟩;exact⟨_,rfl,Fp.alloc _ _,⟨.inr (.inr ⟨rfl,_,_,rfl⟩),λi cs hi=>by simp at hi⟩,λh=>absurd rfl h⟩
 rcases hr.sl with⟨e,h0⟩|⟨b,o,c,e,hc⟩|⟨h0,a,c,e⟩
 ·exact empty h0 _ _ e
 ·rcases Nat.lt_or_ge 1 qs.length with h2|h1
  ·subst e;refine(Tryz.bytes_Join_many b o qs.length c (qs.map (·.1)) (qs.map (·.2)) (.slice none 0 0) [] w F5 h2 ⟨by simp,λi v hi=>?_,λi v l hv O=>?_⟩ hc ⟨none,0,rfl,λ_=>rfl,λa h=>by cases h⟩ Fb (by rw[Xwp,Bl,Cw];omega)).mono ?_
   ·rw[AG]at hi;obtain⟨q,z,rfl⟩:=Bp.1 hi;rw[Ny];exact cell b o c rfl i q z
   ·rw[AG]at hv O;obtain⟨q,z,rfl⟩:=Bp.1 hv;rw[z]at O
    cases O
    exact X6q (hq q (Ag z))
   ·rintro e w' ⟨v',rfl,hf,hb⟩;rw[Xwq]at hf;exact⟨_,rfl,Fp.of_below hb,(P9 hf).1,λ_=>(P9 hf).2⟩
  ·rcases Nat.eq_zero_or_pos qs.length with h0|h0
   ·exact empty h0 _ _ (h0▸e)
   ·obtain⟨q,rfl⟩:∃q,qs=[q]:=List.length_eq_one_iff.1 Fb;have r:=cell b o c e 0 q rfl;subst e;have H:=hq q Ai;have Z:[q].flatMap (·.2)=q.2:=by simp
    rw[Z]at hlen ⊢
    by_cases hz:q.2=[]
    ·have hv:∃p0 Y,q.1=.slice p0 0 Y:=by
      rcases H.sl with⟨e,_⟩|⟨b',o',J,e,_⟩|⟨_,a',J,e⟩
      ·exact⟨_,_,e⟩
      ·rw[hz]at e;exact⟨_,_,e⟩
      ·exact⟨_,_,e⟩
     obtain⟨p0,Y,e⟩:=hv;refine(Tryz.bytes_Join_one_empty b o c p0 Y (.slice none 0 0) w (by rw[<-e];exact r)).mono ?_;rintro e w' ⟨rfl,rfl⟩;rw[hz];exact⟨_,rfl,Fp.refl _,Fs.nil,λh=>absurd rfl h⟩
    ·have hp:=CM.2 hz;have hv:∃b' o' J,q.1=.slice (some ⟨b',o',none⟩) q.2.length J:=by
      rcases H.sl with⟨_,e⟩|⟨b',o',J,e,_⟩|⟨e,_⟩
      ·omega
      ·exact⟨_,_,_,e⟩
      ·omega
     obtain⟨b',o',J,e⟩:=hv;refine(Tryz.bytes_Join_one b o c ⟨b',o',none⟩ J q.2 (.slice none 0 0) w (by rw[<-e];exact r) (λi x hx=>?_) hp Fb).mono ?_
     ·rw[Ny];have:=Fs.row8 H;rw[e]at this;exact this i _ (by rw[AG,hx];rfl)
     ·rintro e w' ⟨v',rfl,hf,hb⟩;exact⟨_,rfl,Fp.of_below hb,(P9 hf).1,λ_=>(P9 hf).2⟩
 ·exact empty h0 _ _ e
section
variable {P:Program}{E:FE}{dd:Option Tmp}{ty:TypeId}{pos:String}{af:Array Edge}{g:Option (Nat×Bool)}{x y:Operand}{T U:TypeId}
theorem WL {c:UInt32}(hx:ev E x=Ha c)(hT:(P.underlying T).isSome=true)(hU:HU P U=some .i64):PV P ⟨dd,.convert T U x,ty,pos,af,g⟩ E (I ↑c.toNat):=by
 have:=JS (P:=P) (d:=dd) (ty:=ty) (pos:=pos) (af:=af) (g:=g) hx hT hU;rwa [KU (by have:=c.toNat_lt;unfold Fx;omega)]at this
end
def GM (b:Fh):Fh×Int×Int:=
 if b.length<8 then([],0,2)else if b.take 8≠HN (GA b)then([],0,4)else if 1048576<(GA b).toNat then([],0,5)else if(b.length:Int)-8-4<(GA b).toNat then([],0,2)
 else if GA (b.drop (8+(GA b).toNat))≠Ij (b.take (8+(GA b).toNat))then([],0,4)else((b.take (8+(GA b).toNat)).drop 8,(8+(GA b).toNat:Nat)+4,0)
def Je (b:Fh):Fh×Int:=if(GM b).2.2=0/\(GM b).2.1≠b.length then([],3)else((GM b).1,(GM b).2.2)
theorem Xwr (p r:Fh)(h:p.length<=1048576):GM (F7 p++r)=(p,((p.length+12:Nat):Int),0):=by
 have hn:(AJ p.length).toNat=p.length:=by rw[UInt32.toNat_ofNat'];exact Br Fb
 have H:F7 p++r=HN (AJ p.length)++(p++(I3 (Ij (HN (AJ p.length)++p))++r)):=by unfold F7;simp only [A3]
 have O:GA (F7 p++r)=AJ p.length:=by
  rw[H];unfold HN;rw[A3];exact Vy _ _
 have z:(F7 p++r).length=p.length+12+r.length:=by rw[Ad,KA]
 have J:(F7 p++r).take 8=HN (AJ p.length):=by rw[H,DT (by rw[Ln];omega),Ar (by rw[Ln];omega)]
 have Y:(F7 p++r).take (8+p.length)=HN (AJ p.length)++p:=by
  rw[H,<-A3,DT (by rw[Ad,Ln];omega),Ar (by rw[Ad,Ln];omega)]
 have hd:(F7 p++r).drop (8+p.length)=I3 (Ij (HN (AJ p.length)++p))++r:=by
  rw[H,<-A3,E6 (by rw[Ad,Ln];omega),BD (by rw[Ad,Ln];omega),AB]
 unfold GM;rw[O,hn,z,J,Y,hd,Vy,if_neg Fb,if_neg (λh=>h rfl),if_neg Fb,if_neg Fb,if_neg (λh=>h rfl)];rw[E6 (by rw[Ln];omega),BD (by rw[Ln];omega),AB];simp only [B5.injEq,and_true,true_and];omega
theorem XS (p:Fh)(h:p.length<=1048576):Je (F7 p)=(p,0):=by
 have e:=Xwr p [] h;rw[AH]at e;unfold Je;rw[e,if_neg (by simp [KA])]
variable {b:Fh}
theorem X9z (h:b.length<8):GM b=([],0,2):=by unfold GM;rw[if_pos h]
theorem X90 (h:¬ b.length<8)(h2:b.take 8≠HN (GA b)):GM b=([],0,4):=by unfold GM;rw[if_neg h,if_pos h2]
theorem X91 (h:¬ b.length<8)(h2:b.take 8=HN (GA b))(h3:1048576<(GA b).toNat):GM b=([],0,5):=by unfold GM;rw[if_neg h,if_neg (λe=>e h2),if_pos h3]
theorem X92 (h:¬ b.length<8)(h2:b.take 8=HN (GA b))(h3:¬ 1048576<(GA b).toNat)(h4:(b.length:Int)-8-4<(GA b).toNat):GM b=([],0,2):=by unfold GM;rw[if_neg h,if_neg (λe=>e h2),if_neg h3,if_pos h4]
theorem X93 (h:¬ b.length<8)(h2:b.take 8=HN (GA b))(h3:¬ 1048576<(GA b).toNat)(h4:¬ (b.length:Int)-8-4<(GA b).toNat)(h5:GA (b.drop (8+(GA b).toNat))≠Ij (b.take (8+(GA b).toNat))):GM b=([],0,4):=by unfold GM;rw[if_neg h,if_neg (λe=>e h2),if_neg h3,if_neg h4,if_pos h5]
theorem X94 (h:¬ b.length<8)(h2:b.take 8=HN (GA b))(h3:¬ 1048576<(GA b).toNat)(h4:¬ (b.length:Int)-8-4<(GA b).toNat)(h5:GA (b.drop (8+(GA b).toNat))=Ij (b.take (8+(GA b).toNat))):
 GM b=((b.take (8+(GA b).toNat)).drop 8,((8+(GA b).toNat:Nat):Int)+4,0):=by unfold GM;rw[if_neg h,if_neg (λe=>e h2),if_neg h3,if_neg h4,if_neg (λe=>e h5)]
theorem YR {a b:UInt32} : ((a.toNat:Int)≠(b.toNat:Int))↔a≠b:=by
 exact⟨λh e=>h (by rw[e]),λh e=>h (E5.1 Fb)⟩
theorem UX (p:Fh)(vp:Value)(w:World)(hp:Fs Fq 1 w vp p)(hl:4<=p.length) :
  FW 312 [vp] w (Ha (GA p)):=by
 refine cE Tryz.func312 λz=>?_;obtain⟨b0,b1,b2,b3,r,rfl⟩:∃b0 b1 b2 b3 r,p=b0 :: b1 :: b2 :: b3 :: r:=by
  match p,hl with
  | b0 :: b1 :: b2 :: b3 :: r,_=>exact⟨b0,b1,b2,b3,r,rfl⟩
 refine Gn 100001000001000001000100 λw1 H=>?_;have z:=z.trans H;refine go ?_;refine di 5 1 hp.sl rfl (hp.lt (i:=0) (x:=b0) rfl) (dL rfl (λ_ hR=>(((hp.ext (z.trans hR)).row (i:=0) (x:=b0) rfl).at0 rfl)) (dp (MF rfl Fe Fe) (go ?_)));refine di 5 1 hp.sl rfl (hp.lt (i:=1) (x:=b1) rfl) (dL rfl (λ_ hR=>(((hp.ext (z.trans hR)).row (i:=1) (x:=b1) rfl).at0 rfl)) (dp (MF rfl Fe Fe) (dp (Oq (b:=8) Fj rfl rfl) (dp (Pe rfl rfl) (go ?_)))));refine di 5 1 hp.sl rfl (hp.lt (i:=2) (x:=b2) rfl) (dL rfl (λ_ hR=>(((hp.ext (z.trans hR)).row (i:=2) (x:=b2) rfl).at0 rfl)) (dp (MF rfl Fe Fe) (dp (Oq (b:=16) Fj rfl rfl) (dp (Pe rfl rfl) (go ?_)))));refine di 5 1 hp.sl rfl (hp.lt (i:=3) (x:=b3) rfl) (dL rfl (λ_ hR=>(((hp.ext (z.trans hR)).row (i:=3) (x:=b3) rfl).at0 rfl)) (dp (MF rfl Fe Fe) (dp (Oq (b:=24) Fj rfl rfl) (dp (Pe rfl rfl) (go ?_)))));exact⟨rfl,z⟩
theorem OC (qs:List (Value×Fh))(vr:Value)(w:World)(hr:Fs (λq:Value×Fh=>[q.1]) 1 w vr qs)(hq:∀q∈qs,Fs Fq 1 w q.1 q.2)(hlen:(qs.flatMap (·.2)).length<=2001000020)(hql:qs.length<=1000000) :
  Gf 156 [vr] w λu w'=>Fs Fq 1 w' u (qs.flatMap (·.2))/\(qs.flatMap (·.2)≠[]->w.heap.size<=(base u).1):=by
 refine cE Tryz.func156 λr=>Ge (X6r qs vr _ (hr.ext r) (λq h=>(hq q h).ext r) hlen hql) λu1 w1 J H=>?_;have z:=r.size;have r:=r.trans J;refine go ?_;exact⟨_,rfl,r,H.1,λh=>Ae z (H.2 h)⟩
theorem YA (n:UInt32)(w:World) :
  Gf 157 [Ha n] w λu w'=>Fs Fq 1 w' u (HN n)/\(HN n≠[]->w.heap.size<=(base u).1):=by
 refine cE Tryz.func157 λz=>Ge (Qu _ _) λu1 w1 x1 hh=>?_;have hsz1:=z.size;have z:=z.trans x1;obtain⟨H,rfl,hge4,r⟩:=hh;refine Ge (Qu _ _) λu2 w2 x2 hf=>?_;have hsz2:=z.size;refine Fz x2 r z λr z=>?_;obtain⟨ha,rfl,hge6,J⟩:=hf;refine li (e:=82) (sz:=1) (zs:=[.slice none 0 0]) (pv:=[(0,_)]) (cs:=[_]) RX.all (λb1 w3 e1 x3 m1=>?_);have g1:=z.ge e1;have a1_ha4:=Fs.base_lt r Fj;refine FB x3 r J z λr J z=>cP (Sq (I3 n) (Value.slice (some ⟨ha,0,none⟩) 4 4) _ _ (m1.arr (enc:=λx:Value=>[x]) (sz:=1) (l:=[Value.slice (some ⟨ha,0,none⟩) 4 4]) rfl Ff rfl F5) J (by simp [I3])) RX.all λw4 x4=>Fz x4 r z λr z=>cG (Qu _ _) RX.all λu5 w5 x5 hj=>?_;have hsz5:=z.size;refine Fz x5 r z λr z=>?_;obtain⟨Y,rfl,hge9,O⟩:=hj;refine li (e:=82) (sz:=1) (zs:=[.slice none 0 0]) (pv:=[(0,_),(1,_)]) (cs:=[_,_]) RX.all (λb2 w6 e2 x6 m2=>?_);have g2:=z.ge e2;have a2_ha4:=Fs.base_lt r Fj;refine FB x6 r O z λr O z=>?_;refine cG (OC [(Value.slice (some ⟨H,0,none⟩) 4 4,I3 n),(Value.slice (some ⟨Y,0,none⟩) 4 4,I3 (Ij (I3 n)))] _ _ (m2.arr (enc:=λq:Value×Fh=>[q.1]) (sz:=1) (l:=[(Value.slice (some ⟨H,0,none⟩) 4 4,I3 n),(Value.slice (some ⟨Y,0,none⟩) 4 4,I3 (Ij (I3 n)))]) rfl Ff rfl F5) (by intro q h;simp only [Ah,Co,or_false]at h;rcases h with rfl|rfl<;>first|exact r|exact O) (by simp [I3]) F5) RX.all λu7 w7 x7 hg=>?_;have Z:=z.size;have z:=z.trans x7;have hJ:=hg;have hc:=Z;refine go ?_;have e:BO (λq:Value×Fh=>q.2) [(Value.slice (some ⟨H,0,none⟩) 4 4,I3 n),(Value.slice (some ⟨Y,0,none⟩) 4 4,I3 (Ij (I3 n)))]=HN n:=by simp [HN]
 rw[e]at hJ;exact⟨_,rfl,z,hJ.1,λh=>Ae hc (hJ.2 h)⟩
theorem Ycp (p:Fh)(vp vr:Value)(w:World)(hr:Fs (λx:Value=>[x]) 1 w vr [vp])(hp:Fs Fq 1 w vp p)(hpl:p.length<=2001000020) :
  Gf 82 [vr] w λu w'=>(1048576<p.length/\u=.tuple #[.slice none 0 0,I 5])\/(p.length<=1048576/\∃v,u=.tuple #[v,I 0]/\Fs Fq 1 w' v (F7 p)/\w.heap.size<=(base v).1):=by
 refine cE Tryz.func82 λr=>FL 82 1 hr.sl ?_;refine F9 (G:=Nat×Nat) (λ(k,n)=>[(0,vr),(2,.slice none 0 0),(3,I 0),(4,I ↑n),(8,vr),(9,I 1),(10,I ↑k)]) (λ(k,n) w'=>Fp w w'/\k<=1/\n=if k=0 then 0 else p.length) (λ(k,n)=>1-k) (0,0) ⟨r,Ab _,rfl⟩ ?_;rintro _ ⟨k,n⟩ w1 ⟨r,hk1,hn⟩;refine Fk (λc1=>?_) λc1=>?_
 ·have ha:[vp][k]?=some vp:=by
   have e:k=0:=by omega
   subst e;rfl
  have hn0:n=0:=by rw[hn,if_pos Fb]
  refine FK 82 1 hr.sl (hr.lt ha) ?_;refine dl rfl (((hr.ext r).row ha).at0 rfl) (FL 5 1 (hp.ext r).sl ?_);refine go ?_;refine FJ (k+1,n+p.length) ⟨r,by omega,by rw[if_neg Fb];omega⟩
 rw[if_neg Fb]at hn;subst hn;refine Fk (λc2=>?_) λc2=>?_
 ·refine go ?_;exact⟨_,rfl,r,.inl ⟨by omega,rfl⟩⟩
 refine go ?_;refine dp (OE rfl Fe Fe) (cG (YA _ _) RX.all λuh w2 x2 hh=>?_);have hsz2:=r.size;have r:=r.trans x2;have J:=hh.1;refine Ge (OC [(vp,p)] vr _ (hr.ext r) (by intro q h;simp only [Ah,Co,or_false]at h;rw[h];exact hp.ext r) (by simp;omega) F5) λup w3 x3 hg=>?_;have hsz3:=r.size;refine Fz x3 J r λJ r=>?_;have Y:=hg.1;rw[show BO (λq:Value×Fh=>q.2) [(vp,p)]=p by simp]at Y;refine Io (e:=82) (sz:=1) (zs:=[.slice none 0 0]) (pv:=[(0,?a17_0),(1,?a17_1)]) (cs:=[?a17_0,?a17_1]) rfl Fe ⟨rfl,rfl⟩ Fe rfl ?h17 ?f17 RX.all (λb1 w4 e1 x4 m1=>?k17)
 case h17=>refine⟨rfl,?_,rfl,?_,trivial⟩<;>(conv=>lhs;whnf)
 case f17=>simp [Hm,Gr,An,J.sl.cells,Y.sl.cells]
 have g1:=r.ge e1;have a1_hH:=Fs.base_lt J Fj;refine FB x4 J Y r λJ Y r=>?_;refine cG (OC [(uh,HN (AJ p.length)),(up,p)] _ _ (m1.arr (enc:=λq:Value×Fh=>[q.1]) (sz:=1) (l:=[(uh,HN (AJ p.length)),(up,p)]) rfl Ff rfl F5) (by intro q h;simp only [Ah,Co,or_false]at h;rcases h with rfl|rfl<;>first|exact J|exact Y) (by simp [Ln];omega) F5) RX.all λub w5 x5 hj=>?_;have hsz5:=r.size;have r:=r.trans x5;have hB:=hj.1;rw[show BO (λq:Value×Fh=>q.2) [(uh,HN (AJ p.length)),(up,p)]=HN (AJ p.length)++p by simp]at hB;refine go ?_;refine Io (e:=82) (sz:=1) (zs:=[.slice none 0 0]) (pv:=[(0,?a21_0)]) (cs:=[?a21_0]) rfl Fe ⟨rfl,rfl⟩ Fe rfl ?h21 ?f21 RX.all (λb2 w6 e2 x6 m2=>?k21)
 case h21=>refine⟨rfl,?_,trivial⟩<;>(conv=>lhs;whnf)
 case f21=>simp [Hm,Gr,An,hB.sl.cells]
 have g2:=r.ge e2;refine Fz x6 hB r λhB r=>cP (Sq (HN (AJ p.length)++p) ub _ _ (m2.arr (enc:=λx:Value=>[x]) (sz:=1) (l:=[ub]) rfl Ff rfl F5) hB (by simp [Ln];omega)) RX.all λw7 x7=>Fz x7 hB r λhB r=>cG (Qu _ _) RX.all λu8 w8 x8 hf=>?_;have hsz8:=r.size;refine Fz x8 hB r λhB r=>?_;obtain⟨H,rfl,hge32,z⟩:=hf;refine Io (e:=82) (sz:=1) (zs:=[.slice none 0 0]) (pv:=[(0,?a22_0),(1,?a22_1)]) (cs:=[?a22_0,?a22_1]) rfl Fe ⟨rfl,rfl⟩ Fe rfl ?h22 ?f22 RX.all (λb3 w9 e3 x9 m3=>?k22)
 case h22=>refine⟨rfl,?_,rfl,?_,trivial⟩<;>(conv=>lhs;whnf)
 case f22=>simp [Hm,Gr,An,hB.sl.cells,z.sl.cells]
 have g3:=r.ge e3;refine FB x9 hB z r λhB z r=>?_;refine cG (OC [(ub,HN (AJ p.length)++p),(Value.slice (some ⟨H,0,none⟩) 4 4,I3 (Ij (HN (AJ p.length)++p)))] _ _ (m3.arr (enc:=λq:Value×Fh=>[q.1]) (sz:=1) (l:=[(ub,HN (AJ p.length)++p),(Value.slice (some ⟨H,0,none⟩) 4 4,I3 (Ij (HN (AJ p.length)++p)))]) rfl Ff rfl F5) (by intro q h;simp only [Ah,Co,or_false]at h;rcases h with rfl|rfl<;>first|exact hB|exact z) (by simp [Ln,N6];omega) F5) RX.all λu10 w10 hl Z=>?_;have O:=r.size;have r:=r.trans hl;have hJ:=Z;have hc:=O;refine go ?_;have e:BO (λq:Value×Fh=>q.2) [(ub,HN (AJ p.length)++p),(Value.slice (some ⟨H,0,none⟩) 4 4,I3 (Ij (HN (AJ p.length)++p)))]=F7 p:=by simp [F7]
 rw[e]at hJ;exact⟨_,rfl,r,.inr ⟨by omega,_,rfl,hJ.1,Ae hc (hJ.2 (λh=>by have:=KA p;rw[h]at this;simp at this))⟩⟩
theorem SS (p q:Fh)(vp vq:Value)(w:World)(hp:Fs Fq 1 w vp p)(hq:Fs Fq 1 w vq q) :
  FW 122 [vp,vq] w (B (decide (p=q))):=by
 refine cE Tryz.func122 λr=>gw ?_;refine wr (gw ?_);refine JM [.p,.l,.p,.l,.p,.p] rfl (go ?_);refine dq (Nd Fe Fe ((hp.ext r)) rfl) (go ?_);refine dq (Nd Fe Fe ((hq.ext r)) rfl) (dp (Kr rfl rfl) (go ?_));exact⟨rfl,r⟩
theorem Ycq (b:Fh)(vb:Value)(w:World)(hb:Fs Fq 1 w vb b)(hbl:b.length<=2001000020) :
  Gf 259 [vb] w λu w'=>∃v,u=.tuple #[v,I (GM b).2.1,I (GM b).2.2]/\Vc.Own Fq 1 5 w.heap.size w' v (GM b).1:=by
 refine cE Tryz.func259 λr=>FL 5 1 (hb.ext r).sl ?_;refine Fk (λc1=>?_) λc1=>?_
 ·refine go ?_;rw[X9z Fb];exact⟨_,rfl,r,_,rfl,Vc.Own.nil⟩
 have H:¬ b.length<8:=by omega
 refine Gp (UX b vb _ (hb.ext r) Fb) λw1 x1=>?_;have r:=r.trans x1;refine Gn 10055000 λw2 x2=>?_;have r:=r.trans x2;refine go ?_;refine dp (H8 (e:=5) (k:=1) Fe (hb.ext r).sl rfl rfl rfl (Ab _) (show(8:Nat)<=b.length by omega)) (Ge (YA (GA b) _) λu3 w3 x3 O=>?_);have hsz3:=r.size;have r:=r.trans x3;have hH:=O.1;refine cP (SS (b.take 8) (HN (GA b)) _ _ _ (((by have:=hb.slice (lo:=0) (hi:=8) Fb Fb;rwa [Ce]at this):Fs Fq 1 w (Hb 1 vb 0 8) (b.take 8)).ext r) hH) RX.all λw4 x4=>?_;have r:=r.trans x4;refine FZ (λZ=>?_) λZ=>?_
 ·refine go ?_;rw[X90 H (by simpa using Z)];exact⟨_,rfl,r,_,rfl,Vc.Own.nil⟩
 have h2:b.take 8=HN (GA b):=by simpa using Z
 refine Fk (λc3=>?_) λc3=>?_
 ·refine go ?_;rw[X91 H h2 Fb];exact⟨_,rfl,r,_,rfl,Vc.Own.nil⟩
 refine FL 5 1 (hb.ext r).sl ?_;refine go ?_;refine dp (WL rfl Fe Fe) ?_;refine Fk (λc4=>?_) λc4=>?_
 ·refine go ?_;rw[X92 H h2 Fb Fb];exact⟨_,rfl,r,_,rfl,Vc.Own.nil⟩
 have hn8:8+(GA b).toNat+4<=b.length:=by omega
 have J:Fs Fq 1 w (Hb 1 vb 0 (8+(GA b).toNat)) (b.take (8+(GA b).toNat)):=by
  have:=hb.slice (lo:=0) (hi:=8+(GA b).toNat) Fb Fb;rwa [Ce]at this
 have z:(b.take (8+(GA b).toNat)).length=8+(GA b).toNat:=by rw[A7];omega
 have hD:Fs Fq 1 w (Hb 1 vb (b.take (8+(GA b).toNat)).length b.length) (b.drop (8+(GA b).toNat)):=by
  rw[z];have:=hb.slice (lo:=8+(GA b).toNat) (hi:=b.length) Fb Fb;rwa [AV]at this
 refine go ?_;refine dp (WL rfl Fe Fe) (go ?_);refine dp (H8 (e:=5) (k:=1) Fe (hb.ext r).sl rfl rfl rfl (Ab _) (show 8+(GA b).toNat<=b.length by omega)) (FL 5 1 (J.ext r).sl ?_);refine dp (H8 (e:=5) (k:=1) Fe (hb.ext r).sl rfl rfl rfl (show(b.take (8+(GA b).toNat)).length<=b.length by rw[z];omega) (Aa _)) (cP (UX (b.drop (8+(GA b).toNat)) (Hb 1 vb (b.take (8+(GA b).toNat)).length b.length) _ (hD.ext r) (by rw[AX];omega)) RX.all λw5 x5=>?_);have r:=r.trans x5;refine go ?_;refine Io (e:=82) (sz:=1) (zs:=[.slice none 0 0]) (pv:=[(0,?a34_0)]) (cs:=[?a34_0]) rfl Fe ⟨rfl,rfl⟩ Fe rfl ?h34 ?f34 RX.all (λb1 w6 e1 x6 m1=>?k34)
 case h34=>refine⟨rfl,?_,trivial⟩<;>(conv=>lhs;whnf)
 case f34=>rcases hb.sl with⟨e,_⟩|⟨_,_,_,e,_⟩|⟨_,_,_,e⟩<;>rw[e]<;>rfl
 have g1:=r.ge e1;have r:=r.trans x6;refine cP (Sq (b.take (8+(GA b).toNat)) (Hb 1 vb 0 (8+(GA b).toNat)) _ _ (m1.arr (enc:=λx:Value=>[x]) (sz:=1) (l:=[Hb 1 vb 0 (8+(GA b).toNat)]) rfl Ff rfl F5) (J.ext r) Fb) RX.all λw7 x7=>?_;have r:=r.trans x7;refine Fk (λY=>?_) λY=>?_
 ·refine go ?_;rw[X93 H h2 Fb Fb (YR.1 Y)];exact⟨_,rfl,r,_,rfl,Vc.Own.nil⟩
 refine go ?_;refine dp (H8 (e:=5) (k:=1) Fe (J.ext r).sl rfl rfl rfl (show(8:Nat)<=(b.take (8+(GA b).toNat)).length by omega) (Aa _)) (cG (Nt _ _ _ ((by have:=J.slice (lo:=8) (hi:=(b.take (8+(GA b).toNat)).length) Fb Fb;rwa [AV]at this:Fs Fq 1 w (Hb 1 (Hb 1 vb 0 (8+(GA b).toNat)) 8 (b.take (8+(GA b).toNat)).length) ((b.take (8+(GA b).toNat)).drop 8)).ext r) (by rw[AX];omega)) RX.all λu8 w8 x8 hO=>?_);have hsz8:=r.size;have r:=r.trans x8;refine FL 5 1 (J.ext r).sl ?_;refine go ?_;rw[X94 H h2 Fb Fb (AE λh=>Y (YR.2 h))];exact⟨_,rfl,r,_,by rw[z],hO.mono Fb⟩
theorem Ycr (b:Fh)(vb:Value)(w:World)(hb:Fs Fq 1 w vb b)(hbl:b.length<=2001000020) :
  Gf 195 [vb] w λu w'=>∃v,u=.tuple #[v,I (Je b).2]/\Vc.Own Fq 1 5 w.heap.size w' v (Je b).1:=by
 refine cE Tryz.func195 λr=>Ge (Ycq b vb _ (hb.ext r) hbl) λu1 w1 Y J=>?_;have hsz1:=r.size;have r:=r.trans Y;obtain⟨vd,rfl,O⟩:=J;refine ds1 15 (λz=>?_) λz=>?_
 ·refine FL 5 1 (hb.ext r).sl ?_;refine Fk (λH=>?_) λH=>?_
  ·refine go ?_;rw[show Je b=([],3) from if_pos ⟨z,H⟩];exact⟨_,rfl,r,_,rfl,Vc.Own.nil⟩
  refine go ?_;rw[show Je b=((GM b).1,(GM b).2.2) from if_neg (λh=>H h.2)];exact⟨_,rfl,r,_,rfl,O⟩
 refine go ?_;refine GL rfl (go ?_);rw[show Je b=((GM b).1,(GM b).2.2) from if_neg (λh=>z h.1)];exact⟨_,rfl,r,_,rfl,O⟩
end Go.Proofs.YtiooodckiddpmaaGreatDoor
namespace Go.Sp
open Go.Vc
structure Fil where
 data:Fh
 lasts:Nat
deriving DecidableEq
structure Dsk where
 room:Int
 fused:Bool
 left:Int
 fs:List (Fh×Fil)
namespace Dsk
def may (D:Dsk)(names:List Fh):Int:=if D.fused=true/\D.left=0 then 9 else if names.all (λs=>decide (1<=s.length) && decide (s.length<=64))then 0 else 1
def tick (D:Dsk):Dsk:=if D.fused then { D with left:=D.left-1 } else D
def used (D:Dsk):Nat:=(D.fs.map λp=>p.2.data.length).sum
def full (D:Dsk)(name p:Fh):Bool:=decide (D.room-D.used<p.length) || ((lk D.fs name).isNone && decide (4096<=D.fs.length))
def old (D:Dsk)(name:Fh):Fil:=(lk D.fs name).getD ⟨[],0⟩
def app (D:Dsk)(name p:Fh):Int×Dsk:=
 if D.may [name]≠0 then(D.may [name],D)else if D.full name p then(6,D)
 else(0,tick { D with fs:=FG D.fs name ⟨(D.old name).data++p,(D.old name).lasts⟩ })
def each (a:Fh->Dsk->Dsk):List Fh->Dsk->Int×Dsk
 | [],D=>(0,D)
 | n :: r,D=>if D.may [n]≠0 then(D.may [n],D)else if(lk D.fs n).isNone then(7,D)else each a r (tick (a n D))
def lastsA (n:Fh)(D:Dsk):Dsk:={ D with fs:=FG D.fs n ⟨(D.old n).data,(D.old n).data.length⟩ }
def gone (n:Fh)(D:Dsk):Dsk:={ D with fs:=G2 D.fs n }
def sync (names:List Fh)(D:Dsk):Int×Dsk:=each lastsA names D
def rem (names:List Fh)(D:Dsk):Int×Dsk:=each gone names D
def ren (D:Dsk)(a b:Fh):Int×Dsk:=
 if D.may [a,b]≠0 then(D.may [a,b],D)else match lk D.fs a with
 | none=>(7,D)
 | some f=>(0,tick { D with fs:=FG (G2 D.fs a) b f })
def read (D:Dsk)(name:Fh):Option Fh:=(lk D.fs name).map (·.data)
def names (D:Dsk):List Fh:=(D.fs.map (·.1)).mergeSort (λx y=>decide (x<=y))
def has (D:Dsk)(name:Fh):Bool:=(lk D.fs name).isSome
def readE (D:Dsk)(name:Fh):Int:=if D.has name then 0 else 7
def readB (D:Dsk)(name:Fh):Fh:=(D.read name).getD []
def sh (name:Fh):Fh:=name++[126]
def save2 (D:Dsk)(name p:Fh):Int×Dsk:=
 if(D.app (sh name) (F7 p)).1≠0 then D.app (sh name) (F7 p)else
 if((D.app (sh name) (F7 p)).2.sync [sh name]).1≠0 then(D.app (sh name) (F7 p)).2.sync [sh name]else((D.app (sh name) (F7 p)).2.sync [sh name]).2.ren (sh name) name
def save (D:Dsk)(name p:Fh):Int×Dsk:=
 if name.length<1\/60<name.length then(1,D)else if 1048576<p.length then(5,D)else
 if D.has (sh name)then(if(D.rem [sh name]).1≠0 then D.rem [sh name]else save2 (D.rem [sh name]).2 name p)else save2 D name p
def rems : List Fh->Dsk->Int×Dsk
 | [],D=>(0,D)
 | n :: r,D=>if D.has n then(if(D.rem [n]).1≠0 then D.rem [n]else rems r (D.rem [n]).2)else rems r D
end Dsk
structure Led where
 base:Int
 data:Fh
 ents:List Fh
 dead:Bool
namespace Led
def last (L:Led):Int:=L.base+L.ents.length
def img : Fh:=[115,45,105,109,103]
def logn : Fh:=[115,45,108,111,103]
def ent (i:Int)(p:Fh):Fh:=F6 i.toNat++FA p
def append (L:Led)(D:Dsk)(p:Fh):Int×Int×Led×Dsk:=
 if L.dead then(0,9,L,D)else if 65536<p.length\/1099511627776<=L.last then(0,5,L,D)else
 let r1:=D.app logn (F7 (ent (L.last+1) p))
 let r2:Int×Dsk:=if r1.1=0 then r1.2.sync [logn]else r1
 if r2.1≠0 then(0,r2.1,{ L with dead:=true },r2.2)else(L.last+1,0,{ L with ents:=L.ents++[p] },r2.2)
def write (L:Led)(D:Dsk)(i:Int)(p:Fh):Int×Led×Dsk:=
 if L.dead then(9,L,D)else if i<L.last\/1099511627776<i then(1,L,D)else if 524288<p.length then(5,L,D)else
 let r1:=D.save img (ent i p)
 let r2:Int×Dsk:=if r1.1=0 then r1.2.rems [logn]else r1
 if r2.1≠0 then(r2.1,{ L with dead:=true },r2.2)else(0,⟨i,p,[],false⟩,r2.2)
end Led
namespace Dsk
structure Wf (D:Dsk):Prop where
 room0:0<=D.room
 room1:D.room<=1073741824
 used:(D.used:Int)<=D.room
 left0:0<=D.left
 left1:D.left<=9223372036854775807
 name:∀p∈D.fs,1<=p.1.length/\p.1.length<=64
 lasts:∀p∈D.fs,p.2.lasts<=p.2.data.length
 nd:(D.fs.map (·.1)).Nodup
 cnt:D.fs.length<=4096
end Dsk
def JE (l:List (Fh×Fil)):Nat:=(l.map λp=>p.2.data.length).sum
theorem N4 (D:Dsk):D.used=JE D.fs:=rfl
def Kl (l:List (Fh×Fil))(n:Fh):Fil:=(lk l n).getD ⟨[],0⟩
variable {α:Type}
theorem Xtx (l:List α)(p:α->Prop)[DecidablePred p](f:α->Nat)(c:Nat)(h:l.Pairwise λa b=>¬ (p a/\p b))(x:α)(hx:x∈l)(hp:p x):(l.map λa=>if p a then c else f a).sum+f x=(l.map f).sum+c:=by
 induction l with
 | nil=>cases hx
 | cons a r ih=>
  rw[AI]at h;rw[Am,Am,AT,AT];rcases Ah.1 hx with rfl|hx
  ·rw[if_pos hp];have:r.map (λa=>if p a then c else f a)=r.map f:=BL λb hb=>if_neg λz=>h.1 b hb ⟨hp,z⟩;rw[this];omega
  ·rw[if_neg λH=>h.1 x hx ⟨H,hp⟩];have:=ih h.2 hx;omega
variable {l:List (Fh×Fil)}
theorem Xn5 (hn:(l.map (·.1)).Nodup)(n:Fh)(f:Fil):JE (FG l n f)+(Kl l n).data.length=JE l+f.data.length:=by
 unfold JE Kl FG
 cases h:lk l n with
 | none=>simp
 | some g=>
  have hm:=Tc h;simp only [Option.isSome_some,if_true,DR];have r:l.Pairwise λa b=>¬ (a.1=n/\b.1=n):=by
   have:=CY.1 hn;exact this.imp λh h2=>h (h2.1.trans h2.2.symm)
  have:=Xtx l (λp=>p.1=n) (λp=>p.2.data.length) f.data.length r (n,g) hm rfl;rw[Bx];have e:(l.map ((λp:Fh×Fil=>p.2.data.length) ∘ λp=>if p.1=n then(n,f)else p))=l.map λp=>if p.1=n then f.data.length else p.2.data.length:=BL λp _=>by
   simp only [Function.comp];split<;>rfl
  rw[e];exact this
theorem XX (l:List (Fh×Fil))(n:Fh):JE (G2 l n)<=JE l:=by
 unfold JE G2
 induction l with
 | nil=>simp
 | cons p l ih=>
  rw[BF];split
  ·simp only [Am,AT];omega
  ·simp only [Am,AT];omega
theorem Xn7 (hn:(l.map (·.1)).Nodup)(n:Fh):JE (G2 l n)+(Kl l n).data.length=JE l:=by
 unfold JE Kl G2
 induction l with
 | nil=>simp [MY]
 | cons p l r=>
  rw[Am,Bk]at hn;have r:=r hn.2;rw[BF,JO]
  by_cases e:p.1=n
  ·have z:lk l n=none:=M5.2 (e▸hn.1);rw[z]at r;simp [e]at r ⊢;omega
  ·rw[if_pos (by simp [e]),if_neg e,Am,AT,Am,AT];omega
theorem VP {p:Fh×Fil}(h:p∈l):p.2.data.length<=JE l:=by
 unfold JE
 induction l with
 | nil=>cases h
 | cons q l ih=>
  rw[Am,AT];rcases Ah.1 h with rfl|h
  ·omega
  ·have:=ih h;omega
theorem Rk {l:List (Fh×α)}{n:Fh}{a:α}{p:Fh×α}(h:p∈FG l n a):p=(n,a)\/p∈l:=by
 unfold FG at h;split at h
 ·obtain⟨q,r,rfl⟩:=Ay.1 h;split
  ·exact .inl rfl
  ·exact .inr r
 ·rcases Ak.1 h with h|h
  ·exact .inr h
  ·exact .inl (Af.1 h)
theorem Qd (l:List (Fh×α))(n:Fh)(a b:α):FG (FG l n a) n b=FG l n b:=by
 have h1:(lk (FG l n a) n).isSome=true:=by rw[Pf];simp
 rw[FG.eq_def (FG l n a),if_pos h1];unfold FG;split
 ·rename_i h;rw[Bx];refine BL λp _=>?_;simp only [Function.comp]
  by_cases e:p.1=n
  ·simp [e]
  ·simp [e]
 ·rename_i h;have hn:lk l n=none:=by simpa using h
  rw[A6]
  congr 1
  ·conv=>rhs;rw[<-E7 l]
   refine BL λp r=>?_;have:p.1≠n:=λe=>M5.1 hn (e▸Ay.2 ⟨p,r,rfl⟩);simp [this]
  ·simp
namespace Dsk
variable {D:Dsk}
theorem Wf.data (h:D.Wf){p:Fh×Fil}(hp:p∈D.fs):p.2.data.length<=1073741824:=by
 have h1:=VP hp;have h2:=h.used;have h3:=h.room1;rw[N4]at h2;omega
theorem Wf.tick (h:D.Wf)(hl:¬ (D.fused=true/\D.left=0)):D.tick.Wf:=by
 unfold Dsk.tick;split
 ·rename_i r;have h0:D.left≠0:=λe=>hl ⟨r,e⟩;exact⟨h.room0,h.room1,h.used,by have:=h.left0;simp only;omega,by have:=h.left1;simp only;omega,h.name,h.lasts,h.nd,h.cnt⟩
 ·exact h
theorem Wf.set (h:D.Wf){n:Fh}{f:Fil}(hn:1<=n.length/\n.length<=64)(hl:f.lasts<=f.data.length)(hr:(D.used:Int)+f.data.length<=D.room+(D.old n).data.length)(hc:(lk D.fs n).isSome=true\/D.fs.length<4096):Wf { D with fs:=FG D.fs n f }:=by
 refine⟨h.room0,h.room1,?_,h.left0,h.left1,λp r=>?_,λp r=>?_,S2 n f h.nd,?_⟩
 ·have:=Xn5 h.nd n f;have e:D.old n=Kl D.fs n:=rfl;rw[e]at hr;rw[N4]at hr ⊢;simp only;omega
 ·rcases Rk r with rfl|r
  ·exact hn
  ·exact h.name p r
 ·rcases Rk r with rfl|r
  ·exact hl
  ·exact h.lasts p r
 ·simp only;rw[Rx];have:=h.cnt;split
  ·exact this
  ·rename_i h2;rcases hc with h3|h3
   ·exact absurd h3 h2
   ·omega
theorem Wf.gone (h:D.Wf)(n:Fh):(D.gone n).Wf:=by
 refine⟨h.room0,h.room1,?_,h.left0,h.left1,λp r=>h.name p (Av.1 r).1,λp r=>h.lasts p (Av.1 r).1,Rt n h.nd,Ae (AZ ..) h.cnt⟩;have h1:=XX D.fs n;have h2:=h.used;rw[N4]at h2 ⊢;simp only [Dsk.gone];omega
theorem may_names {names:List Fh}(h:D.may names=0):∀s∈names,1<=s.length/\s.length<=64:=by
 unfold Dsk.may at h;split at h
 ·cases h
 ·split at h
  ·rename_i h2;intro s hs;simpa using AO.1 h2 s hs
  ·cases h
theorem may_live {names:List Fh}(h:D.may names=0):¬ (D.fused=true/\D.left=0):=by
 unfold Dsk.may at h;split at h
 ·cases h
 ·assumption
end Dsk
end Go.Sp
namespace Go.Vc
open Go.RowKit
structure OwnC {α:Type}(enc:α->List Value)(sz T:Nat)(B:Nat)(w:World)(v:Value)(l:List α):Prop where
 len:(l.flatMap enc).length=l.length*sz
 row:(v=.slice none 0 0/\l.length=0)\/∃g cap cur,v=.slice (some ⟨g,0,none⟩) l.length cap/\B<=g/\w.heap[g]?=some (.cells cur T (0,0))/\l.length<=cap/\cap<=maxLen/\cap*sz<=cur.size/\cur.toList.take (l.length*sz)=l.flatMap enc
section
variable {α:Type}{enc:α->List Value}{sz T B:Nat}{w w':World}{v:Value}{l:List α}
theorem OwnC.nil : OwnC enc sz T B w (.slice none 0 0) []:=⟨by simp,.inl ⟨rfl,rfl⟩⟩
theorem Own.c (h:Own enc sz T B w v l):OwnC enc sz T B w v l:=by
 obtain⟨h1,h2⟩:=h.row;refine⟨h1,h2.imp id ?_⟩;rintro ⟨g,cap,cur,a,b,c,d,e,f,k⟩;exact⟨g,cap,cur,a,b,c,d,e,Ch f.symm,k⟩
theorem OwnC.lt (h:OwnC enc sz T B w v l):∀k,v.ownBlock=some k->B<=k/\k<w.heap.size:=by
 intro k hk;rcases h.row with⟨rfl,_⟩|⟨g,cap,cur,rfl,hb,hg,_⟩
 ·cases hk
 ·cases hk
  exact⟨hb,(Array.getElem?_eq_some_iff.1 hg).1⟩
theorem OwnC.mod {S:Nat->Prop}(h:OwnC enc sz T B w v l)(m:Mod S w w')(hS:∀k,v.ownBlock=some k->¬ S k):OwnC enc sz T B w' v l:=by
 refine⟨h.len,?_⟩;rcases h.row with h2|⟨g,cap,cur,hv,hg,hh,r⟩
 ·exact Or.inl h2
 ·have hb:g<w.heap.size:=(h.lt g (by rw[hv];rfl)).2;exact Or.inr ⟨g,cap,cur,hv,hg,by rw[m.block g hb (hS g (by rw[hv];rfl))];exact hh,r⟩
theorem OwnC.sl (h:OwnC enc sz T B w v l):Fv v l.length:=by
 rcases h.row with⟨h2,h3⟩|⟨g,cap,cur,hv,hg,hh,hn,_⟩
 ·exact .inl ⟨h2,h3⟩
 ·exact .inr (.inl ⟨g,0,cap,hv,hn⟩)
theorem OwnC.cellsAt (h:OwnC enc sz T B w v l){g:Nat}(hg:v.ownBlock=some g):∀j u,(l.flatMap enc)[j]?=some u->w.cell? ((⟨g,0,none⟩:Addr).add j)=some u:=by
 intro j u hu;rcases h.row with⟨rfl,_⟩|⟨g',cap,cur,rfl,_,hgg,_,_,_,htake⟩
 ·cases hg
 ·cases hg
  have r:(⟨g',0,none⟩:Addr).add j=⟨g',j,none⟩:=by
   unfold Addr.add;split
   ·rename_i e;rw[e]
   ·simp
  rw[r,cell_of_row w g' j cur T (0,0) hgg];rw[<-htake,Ba]at hu;split at hu
  ·simpa using hu
  ·cases hu
theorem OwnC.arr (henc:∀x,(enc x).length=sz)(h:OwnC enc sz T B w v l):Fs enc sz w v l:=by
 refine⟨by rw[Aw];exact h.sl,λi cs hi=>?_⟩;rw[AG]at hi
 cases hx:l[i]? with
 | none=>rw[hx]at hi;cases hi
 | some x=>
  rw[hx]at hi;simp only [Cn,Al.injEq]at hi;subst hi;refine⟨henc x,λj u H=>?_⟩;rcases h.row with⟨rfl,h3⟩|⟨g,cap,cur,rfl,hg,hh,hn,_⟩
  ·have:=Az h3;subst this;simp at hx
  ·have r:=h.cellsAt (g:=g) rfl (i*sz+j) u (PT henc l i x hx j u H);have z:(⟨g,0,none⟩:Addr).add (i*sz+j)=⟨g,0+i*sz+j,none⟩:=by
    unfold Addr.add;split
    ·rename_i e;have h0:i*sz=0/\j=0:=by omega
     rw[h0.1,h0.2]
    ·simp [Nat.add_assoc]
   rw[z]at r;simpa [base]using r
theorem OwnC.heap (h:OwnC enc sz T B w v l){k:Nat}(hk:v.ownBlock=some k):∃cs,w.heap[k]?=some (.cells cs T (0,0)):=by
 rcases h.row with⟨rfl,_⟩|⟨g,cap,cur,rfl,_,hg,_⟩
 ·cases hk
 ·cases hk
  exact⟨cur,hg⟩
theorem OwnC.ne_blk {T':Nat}(h:OwnC enc sz T B w v l){b:Nat}{cs:List Value}(hb:Fo w b cs T')(hT:Nat.beq T T'=false):v.ownBlock≠some b:=λe=>by
 obtain⟨cs',r⟩:=h.heap e;unfold Fo at hb;rw[hb]at r;simp only [Al.injEq,Obj.cells.injEq]at r;rw[r.2.1]at hT;simp at hT
theorem Xbf.ne_ownC {P:Program}{κ δ:Type}[DecidableEq κ]{k:Nat}{kv:κ->Value}{av:δ->Value}{b n:Nat}{f:κ->Option δ}(h:Vc.Xbf P k kv av w b n f)(ho:OwnC enc sz T B w v l):v.ownBlock≠some b:=λe=>by
 obtain⟨cs,h1⟩:=ho.heap e;obtain⟨es,c,h2⟩:=h.heap;rw[h1]at h2
 cases h2
def slM (v:Value)(n:Nat):Value:=match v with
 | .slice (some a) _ _=>.slice (some a) n n
 | _=>.slice none 0 0
end
section
variable {P:Program}{n:Nat}{E:FE}{ds:List (Option Tmp)}{R:World->World->Prop}{r:List (Oper×Fl×Bool)}{K:FE->World->Prop}{w:World}{d:Tmp}{ty:TypeId}{pos:String}{af:Array Edge}{g:Option (Nat×Bool)}{anc:Bool}{v:Value}
theorem Xp7 {α:Type}{enc:α->List Value}{t e sz B:Nat}{i:TypeInfo}{z:Value}{l lx:List α}(ht:P.underlying t=some (.slice e))(hi:P.info? e=some i)(hz:i.zero=some z)(hsize:i.size=sz)(hzs:z.cells.size=sz)(hsz:0<sz)
  (henc:∀x,(enc x).length=sz) (hown:OwnC enc sz e B w v l) (a:Addr) (c:Nat) (hnews:∀j u,(lx.flatMap enc)[j]?=some u->w.cell? (a.add j)=some u) (h1:∀u∈lx.flatMap enc,u.oneCell'=true)
  (h63:l.length+lx.length<=maxLen) (hbytes:(l.length+lx.length)*i.bytes<=140737488355328) (hB:B<=w.heap.size) :
  ∃v' w',(Builtin.append_ #[t,t] ty #[v,.slice (some a) lx.length c]).run P w=.ok v' w'/\OwnC enc sz e B w' v' (l++lx)/\w.grownBy w' v.ownBlock/\(v'.ownBlock=v.ownBlock\/v'.ownBlock=some w.heap.size):=by
 subst hsize;have hsmall:l.length+lx.length<=9223372036854775807:=by unfold maxLen at h63;omega
 have J:=FF henc (l++lx);have Z:=FF henc l;have H:=FF henc lx;have O:(l++lx).length=l.length+lx.length:=Ad;rcases hown.row with⟨rfl,hl0⟩|⟨g,cap,cur,rfl,hBg,hg,hnc,hcm,hcs,htake⟩
 ·have hl:=Az hl0;subst hl;obtain⟨v',w',Y,h2,h3,_⟩:=run_append_own (P:=P) w B t ty e i z i.size i.bytes ht hi hz rfl rfl hzs hsz (.slice none 0 0) 0 [] (World.ownsRow_nil w B e i.size) a lx.length c (lx.flatMap enc) H hnews h1 (by simpa using h63) (by simpa using hbytes) hB;have hw:=QT (P:=P) ht hi hz hzs (World.ownsRow_nil w B e i.size) a lx.length c (lx.flatMap enc) H hnews h1 (by simpa using h63) (by simpa using hbytes) Y;exact⟨v',w',Y,Own.c ⟨by simpa using h2⟩,h3,hw⟩
 by_cases hroom:l.length+lx.length<=cap
 ·have ha:l.length*i.size+(lx.flatMap enc).length<=cur.size:=by
   rw[H,<-Cy];exact Ae (Nat.mul_le_mul_right _ hroom) hcs
  have Y:=run_append_room (P:=P) w t ty e i ht hi g l.length cap cur hg a lx.length c (lx.flatMap enc) H hnews h1 hroom ha;refine⟨_,_,Y,⟨J,.inr ⟨g,cap,_,by rw[O],hBg,setRow_heap w g cur _ e _ hg,by omega,hcm,?_,?_⟩⟩,⟨rfl,rfl,rfl,by simp,λk _ hk=>setRow_other w g k _ (λe=>hk (by simp [Value.ownBlock,e]))⟩,.inl rfl⟩
  ·simp only [Dr,Ad,A7,AX,Array.length_toList];omega
  ·rw[htake,Bb,<-J,Bb];exact DU
 ·have Y:=run_append_grow (P:=P) w t ty e i z ht hi hz ⟨g,0,none⟩ l.length cap (l.flatMap enc) Z (hown.cellsAt (g:=g) rfl) a lx.length c (lx.flatMap enc) H hnews Fb Fb (growslice_fits Fb hbytes);have hc:=grownCap_ge w (l.length+lx.length) cap e;refine⟨_,_,Y,⟨J,.inr ⟨w.heap.size,_,_,by rw[O],hB,heap_alloc_new w.drew _,by rw[O];exact hc,grownCap_le_maxLen w _ cap e h63,?_,?_⟩⟩,⟨rfl,rfl,rfl,by simp,λk hk _=>heap_alloc_old w.drew _ hk⟩,.inr rfl⟩
  ·refine Ch ?_;simp only [Array.size_append,Dr,size_zeroCells,hzs,Z,H,<-Cy]
   congr 1
   omega
  ·rw[Bb]at J ⊢;simp only [Array.toList_append,A3];rw[<-A3,<-J];exact DU
theorem Yk {α:Type}{enc:α->List Value}{s x:Operand}{t e sz by' B:Nat}{vx:Value}{l lx:List α}(hg:FT ds E g=true)(ht:IH P t=some (e,sz))(hE:Mx P e sz by'=true)
  (henc:∀x,(enc x).length=sz) (hown:OwnC enc sz e B w v l) (hax:Fs enc sz w vx lx) (hs:ev E s=v) (hx:ev E x=vx) (h1:∀x∈lx,∀u∈enc x,u.oneCell'=true)
  (hbytes:(l.length+lx.length)*by'<=140737488355328) (hby:1<=by') (hB:B<=w.heap.size) (hR:anc=true\/∀w',Mod (λk=>v.ownBlock=some k) w w'->R w w')
  (h:∀v' w',OwnC enc sz e B w' v' (l++lx)->Mod (λk=>v.ownBlock=some k) w w'->(v'.ownBlock=v.ownBlock\/v'.ownBlock=some w.heap.size)->Dw P n ds R r K (FR E d v') w') :
  Dw P n ds R ((⟨some d,.call { callee:=.builtin .append,args:=#[s,x],argTypes:=#[t,t] },ty,pos,af,g⟩,.x,anc) :: r) K E w:=by
 obtain⟨hu,_⟩:=KX ht;obtain⟨i,z,hi,hz,O,hf,hl,hp⟩:=Pm hE;have hh:l.length+lx.length<=maxLen:=by
  unfold maxLen;have:(l.length+lx.length)*1<=(l.length+lx.length)*by':=CB _ hby;omega
 have Y:∀w',Mod (λk=>v.ownBlock=some k) w w'->anc=false->R w w':=λw' hm e=>hR.elim (λh=>by rw[h]at e;cases e) (λh=>h _ hm);have go:∀(a:Addr) (c:Nat),vx=.slice (some a) lx.length c->(∀j u,(lx.flatMap enc)[j]?=some u->w.cell? (a.add j)=some u)->Dw P n ds R ((⟨some d,.call { callee:=.builtin .append,args:=#[s,x],argTypes:=#[t,t] },ty,pos,af,g⟩,.x,anc) :: r) K E w:=by
  intro a c hv J;obtain⟨v',w',hr,h2,h3,hw⟩:=Xp7 (ty:=ty) hu hi hz O hl hp henc hown a c J (PE h1) hh (by rw[hf];exact hbytes) hB;refine I1 (w':=w') (v:=v') hg ?_ (Y _ (Mod.of_grown h3)) (h v' w' h2 (Mod.of_grown h3) hw);simp only [execOp,resolve,invoke,builtin,Sem.run_bind,Sem.run_pure,Result.andThen_ok,Ca,Am,Bf,hs,hx,hv,hr]
 rcases hax.sl with⟨hv,hl0⟩|⟨b,o,c,hv,hc⟩|⟨hl0,a,c,hv⟩
 ·have H:=Az hl0;subst H;subst hv;have Z:(Builtin.append_ #[t,t] ty #[v,.slice none 0 0]).run P w=.ok v w:=by
   rcases hown.sl with⟨rfl,hn⟩|⟨b,o,c,rfl,hn⟩|⟨hn,a,c,rfl⟩
   ·simp [Builtin.append_,run_underlying hu,sizeOf,typeInfo,hi,Builtin.lenOf,Builtin.firstCells]
   ·simp [Builtin.append_,run_underlying hu,sizeOf,typeInfo,hi,Builtin.lenOf,Builtin.firstCells,hn,storeCells]
   ·simp [Builtin.append_,run_underlying hu,sizeOf,typeInfo,hi,Builtin.lenOf,Builtin.firstCells,hn,storeCells]
  refine I1 (w':=w) (v:=v) hg ?_ (Y _ (Mod.refl _ _)) (h v w (by simpa using hown) (Mod.refl _ _) (.inl rfl));simp only [execOp,resolve,invoke,builtin,Sem.run_bind,Sem.run_pure,Result.andThen_ok,Ca,Am,Bf,hs,hx,Z]
 ·subst hv;refine go ⟨b,o,none⟩ c rfl (λj u hj=>?_);have:=Fs.flat henc hax j u hj;have ha:(⟨b,o,none⟩:Addr).add j=⟨b,o+j,none⟩:=by
   unfold Addr.add;split
   ·rename_i e;simp [e]
   ·rfl
  rw[ha];exact this
 ·have H:=Az hl0;subst H;exact go a c hv (λj u hj=>by simp at hj)
end
end Go.Vc
namespace Go.Proofs.YtiooodckiddpmaaGreatDoor
open Go.Vc Go.Sp
attribute [local irreducible] W XW Dw G9
theorem HL : MapK Tryz.prog 120 9 123 S pO (λs=>s.length<=maxLen):=Nj Fe Fe SU
def FSq (F:Nat->Prop)(w w':World):Nat->Prop:=λk=>F k\/(w.heap.size<=k/\k<w'.heap.size)
variable {F:Nat->Prop}{w w':World}
theorem Jk (h:∀k,F k->k<w.heap.size)(hs:w.heap.size<=w'.heap.size):∀k,FSq F w w' k->k<w'.heap.size:=λk hk=>hk.elim (λh1=>Ax (h k h1) hs) (·.2)
structure Fm where
 name:Fh
 b:Nat
 v:Value
 f:Fil
@[reducible] def Fm.kv (e:Fm):Fh×Option Nat:=(e.name,some e.b)
@[reducible] def Fm.df (e:Fm):Fh×Fil:=(e.name,e.f)
@[reducible] def Fm.foot (e:Fm):Nat->Prop:=λk=>k=e.b\/e.v.ownBlock=some k
def fe (es:List Fm)(s:Fh):Option Fm:=es.find? λe=>decide (e.name=s)
theorem O9 (es:List Fm)(s:Fh):lk (es.map Fm.kv) s=(fe es s).map λe=>some e.b:=by
 induction es with
 | nil=>rfl
 | cons e r ih=>
  rw[Am,JO];unfold fe at ih ⊢;rw[CL]
  by_cases h:e.name=s
  ·simp [h]
  ·simp [h];exact ih
theorem Vx (es:List Fm)(s:Fh):lk (es.map Fm.df) s=(fe es s).map (·.f):=by
 induction es with
 | nil=>rfl
 | cons e r ih=>
  rw[Am,JO];unfold fe at ih ⊢;rw[CL]
  by_cases h:e.name=s
  ·simp [h]
  ·simp [h];exact ih
variable {e:Fm}{es:List Fm}{s:Fh}
theorem O3 (h:fe es s=some e):e∈es/\e.name=s:=⟨List.mem_of_find?_eq_some h,by simpa using List.find?_some h⟩
structure DiskE (F:Nat->Prop)(bd mf:Nat)(es:List Fm)(D:Dsk)(w:World):Prop where
 m:Fo w bd [I D.room,.map (some mf),B D.fused,I D.left] 122
 map:Gl Tryz.prog 9 S pO w mf (es.map Fm.kv)
 fs:D.fs=es.map Fm.df
 el:∀e∈es,Fo w e.b [e.v,I ↑e.f.lasts] 125/\Vc.OwnC Fq 1 5 0 w e.v e.f.data
 ap:es.Pairwise (λa b=>∀k,a.foot k->¬ b.foot k)
 inF:∀k,(k=bd\/k=mf\/∃e∈es,e.foot k)->F k
 lt:∀k,F k->k<w.heap.size
 wf:D.Wf
def G6 (F:Nat->Prop)(bd:Nat)(D:Dsk)(w:World):Prop:=∃mf es,DiskE F bd mf es D w
section
variable {F S:Nat->Prop}{bd mf:Nat}{es:List Fm}{D:Dsk}{w w':World}
theorem DiskE.mod (h:DiskE F bd mf es D w)(m:Vc.Mod S w w')(hS:∀k,F k->¬ S k):DiskE F bd mf es D w':=
 ⟨h.m.mod m (hS _ (h.inF _ (.inl rfl))),h.map.mod m (hS _ (h.inF _ (.inr (.inl rfl)))),h.fs,λe he=>⟨(h.el e he).1.mod m (hS _ (h.inF _ (.inr (.inr ⟨e,he,.inl rfl⟩)))),(h.el e he).2.mod m (λk hk=>hS _ (h.inF _ (.inr (.inr ⟨e,he,.inr hk⟩))))⟩,
  h.ap,h.inF,λk hk=>Ax (h.lt k hk) m.size,h.wf⟩
theorem DiskE.ext (h:DiskE F bd mf es D w)(x:Fp w w'):DiskE F bd mf es D w':=h.mod x (λ_ _ h=>h)
instance : Up w w' (DiskE F bd mf es D w) (DiskE F bd mf es D w'):=⟨λx h=>DiskE.ext h x⟩
variable {G:Nat->Prop}
theorem DiskE.wide (h:DiskE F bd mf es D w)(hG:∀k,F k->G k)(hl:∀k,G k->k<w.heap.size):DiskE G bd mf es D w:=⟨h.m,h.map,h.fs,h.el,h.ap,λk hk=>hG k (h.inF k hk),hl,h.wf⟩
theorem DiskE.grow (h:DiskE F bd mf es D w)(x:Fp w w'):DiskE (FSq F w w') bd mf es D w':=(h.ext x).wide (λ_ h=>.inl h) (Jk h.lt x.size)
theorem G6.mod (h:G6 F bd D w)(m:Vc.Mod S w w')(hS:∀k,F k->¬ S k):G6 F bd D w':=by
 obtain⟨mf,es,h⟩:=h;exact⟨mf,es,h.mod m hS⟩
theorem G6.ext (h:G6 F bd D w)(x:Fp w w'):G6 F bd D w':=h.mod x (λ_ _ h=>h)
instance : Up w w' (G6 F bd D w) (G6 F bd D w'):=⟨λx h=>G6.ext h x⟩
theorem G6.lt (h:G6 F bd D w):∀k,F k->k<w.heap.size:=by obtain⟨_,_,h⟩:=h;exact h.lt
theorem G6.wf (h:G6 F bd D w):D.Wf:=by obtain⟨_,_,h⟩:=h;exact h.wf
theorem G6.wide (h:G6 F bd D w)(hG:∀k,F k->G k)(hl:∀k,G k->k<w.heap.size):G6 G bd D w:=by obtain⟨mf,es,h⟩:=h;exact⟨mf,es,h.wide hG hl⟩
theorem G6.grow (h:G6 F bd D w)(x:Fp w w'):G6 (FSq F w w') bd D w':=by obtain⟨mf,es,h⟩:=h;exact⟨mf,es,h.grow x⟩
theorem DiskE.look (h:DiskE F bd mf es D w)(s:Fh):lk D.fs s=(fe es s).map (·.f):=by rw[h.fs];exact Vx es s
theorem DiskE.nd (h:DiskE F bd mf es D w):(es.map (·.name)).Nodup:=by
 have:=h.map.nodup;rwa [Bx]at this
variable {e:Fm}
theorem DiskE.name (h:DiskE F bd mf es D w)(he:e∈es):1<=e.name.length/\e.name.length<=64:=h.wf.name (e.name,e.f) (by rw[h.fs];exact Ay.2 ⟨e,he,rfl⟩)
theorem DiskE.data (h:DiskE F bd mf es D w)(he:e∈es):e.f.data.length<=1073741824:=h.wf.data (p:=(e.name,e.f)) (by rw[h.fs];exact Ay.2 ⟨e,he,rfl⟩)
theorem DiskE.lasts (h:DiskE F bd mf es D w)(he:e∈es):e.f.lasts<=e.f.data.length:=h.wf.lasts (e.name,e.f) (by rw[h.fs];exact Ay.2 ⟨e,he,rfl⟩)
theorem DiskE.fe_in (h:DiskE F bd mf es D w)(he:e∈es):fe es e.name=some e:=by
 have hn:=h.nd;clear h
 induction es with
 | nil=>cases he
 | cons a r ih=>
  rw[Am,Bk]at hn;unfold fe at ih ⊢;rw[CL];rcases Ah.1 he with rfl|he
  ·simp
  ·have:a.name≠e.name:=λe2=>hn.1 (e2▸Ay.2 ⟨e,he,rfl⟩);simp [this];exact ih he hn.2
theorem DiskE.head {D':Dsk}(h:DiskE F bd mf es D w)(m:Vc.Mod (Fu bd) w w')(hm:Fo w' bd [I D'.room,.map (some mf),B D'.fused,I D'.left] 122)(hf:D'.fs=D.fs)(hw:D'.Wf):DiskE F bd mf es D' w':=by
 have z:∀e∈es,e.b≠bd/\e.v.ownBlock≠some bd:=λe he=>⟨(h.el e he).1.ne h.m rfl,(h.el e he).2.ne_blk h.m rfl⟩;exact⟨hm,h.map.mod m (λe=>h.map.at.ne_blk h.m (Eq.symm e)),hf.trans h.fs,λe he=>⟨(h.el e he).1.mod m (z e he).1,(h.el e he).2.mod m (λk hk e2=>(z e he).2 (e2▸hk))⟩,h.ap,h.inF,λk hk=>Ax (h.lt k hk) m.size,hw⟩
end
variable {D:Dsk}{l:List Fh}
theorem Ycs (h1:D.fused=true)(h2:D.left=0):D.may l=9:=by unfold Dsk.may;rw[if_pos ⟨h1,h2⟩]
theorem WG (h1:¬ (D.fused=true/\D.left=0))(hs:s∈l)(h:¬ (1<=s.length/\s.length<=64)):D.may l=1:=by
 unfold Dsk.may;rw[if_neg h1,if_neg];intro h2;exact h (by simpa using AO.1 h2 s hs)
theorem U9 (h1:¬ (D.fused=true/\D.left=0))(h:∀s∈l,1<=s.length/\s.length<=64):D.may l=0:=by
 unfold Dsk.may;rw[if_neg h1,if_pos (AO.2 λs hs=>by simpa using h s hs)]
theorem TA : (fe es s).isSome=true↔s∈es.map (·.name):=by
 unfold fe;rw[List.find?_isSome];simp
variable {n:Fh}
theorem Xwt {rem:List Fm}{y:Fh}: (y∈rem.map (·.name)/\y≠n)↔y∈(rem.filter λq=>decide (q.name≠n)).map (·.name):=by
 simp only [Ay,Av,decide_eq_true_eq]
 constructor
 ·rintro ⟨⟨e,he,rfl⟩,hn⟩;exact⟨e,⟨he,hn⟩,rfl⟩
 ·rintro ⟨e,⟨he,hn⟩,rfl⟩;exact⟨⟨e,he,rfl⟩,hn⟩
theorem Xwu {rem:List Fm}(he:e∈rem)(hnd:(rem.map (·.name)).Nodup):(rem.map (·.f.data.length)).sum=e.f.data.length+((rem.filter λq=>decide (q.name≠e.name)).map (·.f.data.length)).sum/\(rem.filter λq=>decide (q.name≠e.name)).length<rem.length/\((rem.filter λq=>decide (q.name≠e.name)).map (·.name)).Nodup:=by
 refine⟨?_,?_,List.Nodup.sublist (CH _ Cf) hnd⟩
 ·induction rem with
  | nil=>cases he
  | cons a r z=>
   rw[Am,Bk]at hnd;rw[BF];rcases Ah.1 he with rfl|he
   ·have:r.filter (λq=>decide (q.name≠e.name))=r:=BG.2 λq H=>by
     have:q.name≠e.name:=λe2=>hnd.1 (e2▸Ay.2 ⟨q,H,rfl⟩);simp [this]
    rw[this];simp
   ·have:a.name≠e.name:=λe2=>hnd.1 (e2▸Ay.2 ⟨e,he,rfl⟩);have z:=z he hnd.2;simp only [this,ne_eq,not_false_eq_true,decide_true,if_true,Am,AT]at z ⊢;omega
 ·refine Nat.lt_of_le_of_ne (AZ ..) λh=>?_;have:=BG.1 (List.Sublist.eq_of_length Cf h) e he;simp at this
theorem SJ (bd mf:Nat)(D:Dsk)(l:List Fh)(v:Value)(w:World)(hd:Fo w bd [I D.room,.map (some mf),B D.fused,I D.left] 122)(hv:Fs G8 1 w v l)(hl:l.length<=1000000) :
  FW 160 [Fg bd 0,v] w (I (D.may l)):=by
 refine cE Tryz.func160 λz=>?_;refine wS (g0 ?_);refine GK (G:=Unit) (λZ=>[(1,v)]) (λZ w'=>Fp w w'/\¬ (D.fused=true/\D.left=0)) ?_ ?_
 ·refine go ?_;refine dp (GS Fe rfl rfl) ?_;refine Fk (λY=>?_) λY=>?_
  ·exact absurd Y F5
  refine go ?_;refine Il 15 rfl (λJ=>?_) (λJ=>?_)
  ·refine Fk (λO=>?_) λO=>?_
   ·refine go ?_;exact⟨by rw[Ycs J O],z⟩
   refine go ?_;exact⟨(),Qq,z,λh=>O h.2⟩
  refine go ?_;refine GL rfl (go ?_);exact⟨(),Qq,z,λh=>by rw[J]at h;cases h.1⟩
 rintro _ Z w1 ⟨z,hlv⟩;refine FL 9 1 hv.sl ?_;refine F9 (G:=Nat) (λk=>[(22,v),(23,I ↑l.length),(24,I ↑k)]) (λk w'=>Fp w w'/\k<=l.length/\∀s∈l.take k,1<=s.length/\s.length<=64) (λk=>l.length-k) 0 ⟨z,Ab _,by simp⟩ ?_;rintro _ k w2 ⟨z,hk1,hA⟩;refine Fk (λc4=>?_) λc4=>?_
 ·obtain⟨s,hk⟩:∃s,l[k]?=some s:=F8;refine FK 9 1 hv.sl (hv.lt hk) ?_;refine dl rfl (((hv.ext z).row hk).at0 rfl) ?_;refine ds1 31 (λc5=>?_) λc5=>?_
  ·refine go ?_;refine GD rfl (go ?_);exact⟨by rw[WG hlv (Ag hk) Fb],z⟩
  refine Fk (λc6=>?_) λc6=>?_
  ·refine go ?_;exact⟨by rw[WG hlv (Ag hk) Fb],z⟩
  refine go ?_;refine FJ (k+1) ⟨z,by omega,λq H=>?_⟩;rw[GQ hk]at H;rcases Ak.1 H with H|H
  ·exact hA q H
  ·rw[Af.1 H];omega
 refine go ?_;rw[Ar Fb]at hA;exact⟨by rw[U9 hlv hA],z⟩
theorem Qe (F:Nat->Prop)(bd mf:Nat)(es:List Fm)(D:Dsk)(w:World)(h:DiskE F bd mf es D w)(hlv:¬ (D.fused=true/\D.left=0)) :
  Gy 162 [Fg bd 0] w (Fu bd) λu w'=>u=I 0/\DiskE F bd mf es D.tick w':=by
 refine cE Tryz.func162 λz=>?_;have hd:=h.m;have hl0:=h.wf.left0;have hl1:=h.wf.left1;refine FZ (λH=>?_) λH=>?_
 ·have hl2:D.left≠0:=λe=>hlv ⟨H,e⟩;refine go ?_;refine HG hd (λw1 J xs1 hd=>?_);have z:=(z.mod J).mono (λi hi _=>(hi:(Fu bd) i));refine go ?_;refine⟨_,rfl,z,rfl,h.head z ?_ ?_ (h.wf.tick hlv)⟩
  ·rw[show D.tick={ D with left:=D.left-1 } from if_pos H];exact hd
  ·rw[show D.tick={ D with left:=D.left-1 } from if_pos H]
 refine go ?_;have e:D.tick=D:=if_neg (by rw[H];decide);rw[e];exact⟨_,rfl,(Vc.Mod.refl _ _).ext z,rfl,h.ext z⟩
theorem X98 (F:Nat->Prop)(bd mf:Nat)(es:List Fm)(D:Dsk)(w:World)(h:DiskE F bd mf es D w) :
  FW 161 [Fg bd 0] w (I ↑D.used):=by
 refine cE Tryz.func161 λz=>?_;have hd:=h.m;have hh:=h.map.at;have hub:D.used<=1073741824:=by have:=h.wf.used;have:=h.wf.room1;omega
 refine go ?_;refine dp (OX Fe rfl rfl) ?_;refine Fk (λc1=>?_) λc1=>?_
 ·refine go ?_;refine Y0 HL rfl rfl hh RX.all (λb1 w1 ha e1 x1 hcn1 H=>?_);have g1:=z.ge e1;have z:=z.trans x1;refine F9 (G:=List Fm×Nat×Nat) (λ(rem,n,cnt)=>[(2,I 0),(3,I ↑n),(12,Fg b1 0)]) (λ(rem,n,cnt) w'=>Fp w w'/\Vc.Xa4 Tryz.prog 9 S pO w' mf b1 (es.map Fm.kv).length (lk (es.map Fm.kv)) (λx=>x∈rem.map (·.name)) cnt/\n+(rem.map (·.f.data.length)).sum=D.used/\(rem.map (·.name)).Nodup/\∀e∈rem,e∈es) (λ(rem,n,cnt)=>cnt) (es,0,ha) ⟨z,H.congr (λx=>by rw[O9,CZ];exact TA),(by rw[N4,h.fs,JE,Bx,A0];rfl),h.nd,λe he=>he⟩ ?_;rintro _ ⟨rem,n,cnt⟩ w2 ⟨z,H,hsum,hnd,hin⟩;refine go ?_;refine XU HL rfl rfl H (.inl rfl) (λhp=>?_) (λx a w3 Y hok hg hc hw xs3 hr J O=>?_)
  ·refine go ?_;refine GL rfl (go ?_);have ht:rem=[]:=by
    cases rem with
    | nil=>rfl
    | cons q r=>exact absurd (Ay.2 ⟨q,Ai,rfl⟩) (hp q.name (by have:=h.name (hin q Ai);unfold maxLen;omega))
   subst ht;simp only [Bf,List.sum_nil,Nat.add_zero]at hsum;exact⟨by rw[hsum],z⟩
  have z:=z.own hw F4;have H:=J;obtain⟨e,he,rfl⟩:=Ay.1 hg;have hl:=h.fe_in (hin e he);rw[O9,hl]at hc
  cases hc
  have hj:=(h.el e (hin e he)).1;have hf:=(h.el e (hin e he)).2.arr Ff;have hmem:=h.data (hin e he);obtain⟨hperm,hlen,Z⟩:=Xwu he hnd;refine go ?_;refine GD rfl (go ?_);refine dq (YJ rfl O) (go ?_);refine dl rfl ((hj.ext z).at rfl) (dv 5 1 (hf.ext z).sl (go ?_));refine⟨(rem.filter (λq=>decide (q.name≠e.name)),n+e.f.data.length,Y),Kv,⟨z,H.congr (λy=>?_),by omega,Z,λq hq=>hin q (Av.1 hq).1⟩,hr⟩;exact Xwt
 exact absurd c1 F5
def HX (es:List Fm)(n:Fh)(e:Fm):List Fm:=if(fe es n).isSome then es.map (λq=>if q.name=n then e else q)else es++[e]
theorem X6u (h:e.name=n):(HX es n e).map Fm.kv=FG (es.map Fm.kv) n (some e.b):=by
 unfold HX FG;rw[O9,CZ];split
 ·rw[Bx,Bx];refine BL λq _=>?_;simp only [Function.comp];split<;>simp [h]
 ·simp [h]
theorem X6v (h:e.name=n):(HX es n e).map Fm.df=FG (es.map Fm.df) n e.f:=by
 unfold HX FG;rw[Vx,CZ];split
 ·rw[Bx,Bx];refine BL λq _=>?_;simp only [Function.comp];split<;>simp [h]
 ·simp [h]
theorem V7 {q:Fm}(h:q∈HX es n e):q=e\/(q∈es/\q.name≠n):=by
 unfold HX at h;split at h
 ·obtain⟨a,z,rfl⟩:=Ay.1 h;split
  ·exact .inl rfl
  ·rename_i hn;exact .inr ⟨z,hn⟩
 ·rename_i hn;rcases Ak.1 h with h|h
  ·refine .inr ⟨h,λe2=>hn ?_⟩;rw[TA];exact e2▸Ay.2 ⟨q,h,rfl⟩
  ·exact .inl (Af.1 h)
theorem Xn9 : e∈HX es n e:=by
 unfold HX;split
 ·rename_i h;obtain⟨q,z⟩:=Option.isSome_iff_exists.1 h;obtain⟨h1,h2⟩:=O3 z;exact Ay.2 ⟨q,h1,by simp [h2]⟩
 ·exact Bz _ (Af.2 rfl)
def IB (a b:Fm):Prop:=∀k,a.foot k->¬ b.foot k
theorem IB.symm {a b:Fm}(h:IB a b):IB b a:=λk h1 h2=>h k h2 h1
theorem R7 (h:es.Pairwise IB){a b:Fm}(ha:a∈es)(hb:b∈es)(hn:a.name≠b.name):IB a b:=by
 induction es with
 | nil=>cases ha
 | cons q r ih=>
  rw[AI]at h;rcases Ah.1 ha with e1|ha
  ·rcases Ah.1 hb with e2|hb
   ·exact absurd (by rw[e1,e2]) hn
   ·rw[e1];exact h.1 b hb
  ·rcases Ah.1 hb with e2|hb
   ·rw[e2];exact(h.1 a ha).symm
   ·exact ih h.2 ha hb
theorem X99 (h:es.Pairwise IB)(hnd:(es.map (·.name)).Nodup)(he:∀q∈es,q.name≠n->IB e q):(HX es n e).Pairwise IB:=by
 unfold HX;split
 ·rw[CY];refine DV (λ {a b} z hb hab=>?_) (h.and (CY.1 hnd))
  by_cases h1:a.name=n
  ·by_cases h2:b.name=n
   ·exact absurd (h1.trans h2.symm) hab.2
   ·rw[if_pos h1,if_neg h2];exact he b hb h2
  ·by_cases h2:b.name=n
   ·rw[if_neg h1,if_pos h2];exact(he a z h1).symm
   ·rw[if_neg h1,if_neg h2];exact hab.1
 ·rename_i hn;refine Bj.2 ⟨h,List.pairwise_singleton ..,λa z b hb=>?_⟩;rw[Af.1 hb];exact(he a z (λe2=>hn (by rw[TA];exact e2▸Ay.2 ⟨a,z,rfl⟩))).symm
section
variable {F Sx:Nat->Prop}{bd mf:Nat}{es:List Fm}{D:Dsk}{w w':World}
variable {e:Fm}
theorem DiskE.foot_bd (h:DiskE F bd mf es D w)(he:e∈es):¬ e.foot bd:=λhk=>hk.elim (λe2=>(h.el e he).1.ne h.m rfl e2.symm) (λe2=>(h.el e he).2.ne_blk h.m rfl e2)
theorem DiskE.foot_mf (h:DiskE F bd mf es D w)(he:e∈es):¬ e.foot mf:=λhk=>hk.elim (λe2=>h.map.at.ne_blk (h.el e he).1 e2.symm) (λe2=>h.map.at.ne_ownC (h.el e he).2 e2)
theorem DiskE.bd_mf (h:DiskE F bd mf es D w):bd≠mf:=h.map.at.ne_blk h.m
theorem DiskE.foot_F (h:DiskE F bd mf es D w)(he:e∈es){k:Nat}(hk:e.foot k):F k:=h.inF k (.inr (.inr ⟨e,he,hk⟩))
theorem DiskE.put {n:Fh}(h:DiskE F bd mf es D w)(hen:e.name=n)(m:Vc.Mod Sx w w')(hS:∀k,Sx k->k<w.heap.size->k=mf\/∃q∈es,q.name=n/\q.foot k)(hm:Gl Tryz.prog 9 S pO w' mf (FG (es.map Fm.kv) n (some e.b)))(hb:Fo w' e.b [e.v,I ↑e.f.lasts] 125)(ho:Vc.OwnC Fq 1 5 0 w' e.v e.f.data)(hd:∀k,e.foot k->w.heap.size<=k\/(F k/\∀q∈es,q.name≠n->¬ q.foot k))(hw:Dsk.Wf { D with fs:=FG D.fs n e.f }):DiskE (FSq F w w') bd mf (HX es n e) { D with fs:=FG D.fs n e.f } w':=by
 have O:∀q∈es,q.name≠n->∀k,q.foot k->¬ Sx k:=λq z H k hk hs=>by
  rcases hS k hs (h.lt k (h.foot_F z hk))with rfl|⟨q2,hq2,hn2,J⟩
  ·exact h.foot_mf z hk
  ·exact R7 h.ap z hq2 (λe2=>H (e2.trans hn2)) k hk J
 refine⟨h.m.mod m (λhs=>?_),by rw[X6u hen];exact hm,by simp only;rw[X6v hen,h.fs],λq z=>?_,X99 h.ap h.nd λq z H k hk J=>?_,λk hk=>?_,Jk h.lt m.size,hw⟩
 ·rcases hS bd hs h.m.lt with e2|⟨q,z,_,hk⟩
  ·exact h.bd_mf e2
  ·exact h.foot_bd z hk
 ·rcases V7 z with rfl|⟨z,H⟩
  ·exact⟨hb,ho⟩
  ·exact⟨(h.el q z).1.mod m (O q z H _ (.inl rfl)),(h.el q z).2.mod m (λk hk=>O q z H k (.inr hk))⟩
 ·rcases hd k hk with h1|⟨_,h1⟩
  ·have:=h.lt k (h.foot_F z J);omega
  ·exact h1 q z H J
 ·rcases hk with rfl|rfl|⟨q,z,hk⟩
  ·exact .inl (h.inF _ (.inl rfl))
  ·exact .inl (h.inF _ (.inr (.inl rfl)))
  ·rcases V7 z with rfl|⟨z,_⟩
   ·rcases hd k hk with h1|⟨h1,_⟩
    ·refine .inr ⟨h1,?_⟩;rcases hk with rfl|hk
     ·exact hb.lt
     ·exact(ho.lt k hk).2
    ·exact .inl h1
   ·exact .inl (h.foot_F z hk)
theorem DiskE.take {n:Fh}(h:DiskE F bd mf es D w)(m:Vc.Mod (Fu mf) w w')(hm:Gl Tryz.prog 9 S pO w' mf (G2 (es.map Fm.kv) n)):DiskE F bd mf (es.filter λe=>decide (e.name≠n)) (D.gone n) w':=by
 have z:∀ {β:Type} (g:Fm->Fh×β),(∀e,(g e).1=e.name)->G2 (es.map g) n=(es.filter λe=>decide (e.name≠n)).map g:=by
  intro β g H;unfold G2;rw[List.filter_map]
  congr 1
  refine List.filter_congr λe _=>?_;simp [H]
 refine⟨h.m.mod m (λe=>h.bd_mf e),by rw[<-z Fm.kv (λ_=>rfl)];exact hm,by show G2 D.fs n=_;rw[h.fs,z Fm.df (λ_=>rfl)],λe he=>?_,h.ap.sublist Cf,λk hk=>?_,λk hk=>Ax (h.lt k hk) m.size,h.wf.gone n⟩
 ·have he:=(Av.1 he).1;exact⟨(h.el e he).1.mod m (λe2=>h.foot_mf he (.inl (Eq.symm e2))),(h.el e he).2.mod m (λk hk e2=>by have J:k=mf:=e2;exact h.foot_mf he (.inr (J▸hk)))⟩
 ·refine h.inF k (hk.imp id (Or.imp id λ⟨e,he,hk⟩=>⟨e,(Av.1 he).1,hk⟩))
theorem Xwv {κ α:Type}[DecidableEq κ]{l:List (κ×α)}{n:κ}{a:α}(hn:(l.map (·.1)).Nodup)(h:lk l n=some a):FG l n a=l:=by
 unfold FG;rw[h,if_pos (by rfl)]
 conv=>rhs;rw[<-E7 l]
 refine BL λp z=>?_;split
 ·rename_i e;have h2:=X9v hn (x:=p.1) (a:=p.2) z;rw[e,h]at h2
  cases h2
  exact Dv e.symm rfl
 ·rfl
theorem DiskE.self (h:DiskE F bd mf es D w)(he:e∈es):FG (es.map Fm.kv) e.name (some e.b)=es.map Fm.kv:=Xwv h.map.nodup (by rw[O9,h.fe_in he];rfl)
theorem DiskE.file {v:Value}{f:Fil}(h:DiskE F bd mf es D w)(he:e∈es)(m:Vc.Mod Sx w w')(hS:∀k,Sx k->k<w.heap.size->e.foot k)(hb:Fo w' e.b [v,I ↑f.lasts] 125)(ho:Vc.OwnC Fq 1 5 0 w' v f.data)(hv:v.ownBlock=e.v.ownBlock\/∀k,v.ownBlock=some k->w.heap.size<=k)(hw:Dsk.Wf { D with fs:=FG D.fs e.name f }):DiskE (FSq F w w') bd mf (HX es e.name ⟨e.name,e.b,v,f⟩) { D with fs:=FG D.fs e.name f } w':=by
 refine h.put (e:=⟨e.name,e.b,v,f⟩) rfl m (λk hk J=>.inr ⟨e,he,rfl,hS k hk J⟩) ?_ hb ho (λk hk=>?_) hw
 ·rw[h.self he]
  by_cases hs:mf<w.heap.size
  ·exact h.map.mod m (λhk=>h.foot_mf he (hS mf hk hs))
  ·exact absurd h.map.lt hs
 ·have old:e.foot k->w.heap.size<=k\/(F k/\∀q∈es,q.name≠e.name->¬ q.foot k):=λhk=>.inr ⟨h.foot_F he hk,λq O z H=>R7 h.ap O he z k H hk⟩;rcases hk with rfl|hk
  ·exact old (.inl rfl)
  ·rcases hv with e2|e2
   ·exact old (.inr (e2▸hk))
   ·exact .inl (e2 k hk)
end
def Mr : Option Fm->Option Addr
 | none=>none
 | some e=>some ⟨e.b,0,none⟩
variable {o:Option Fm}
theorem ON : Mr o=none↔o=none:=by cases o<;>simp [Mr]
theorem P5 (h:¬ Mr o=none):∃e,o=some e:=by
 cases o with
 | none=>exact absurd rfl h
 | some e=>exact⟨e,rfl⟩
section
variable {E:FE}{dd:Option Tmp}{ty:TypeId}{pos:String}{af:Array Edge}{g:Option (Nat×Bool)}{x y:Operand}{w:World}{mf n:Nat}{es:List Fm}{s:Fh}
theorem Oo {m:Operand}(hm:ev E m=.map (some mf))(hx:ev E x=S s)(h:Vc.Xbf Tryz.prog 9 S pO w mf n (lk (es.map Fm.kv)))(hok:s.length<=maxLen) :
  LV Tryz.prog ⟨dd,.lookup 120 m x false,ty,pos,af,g⟩ E w (.pointer (Mr (fe es s))):=by
 have:=Mq (P:=Tryz.prog) (dd:=dd) (ty:=ty) (pos:=pos) (af:=af) (g:=g) HL (kx:=s) (z0:=none) hm hx Fe h hok;rw[O9]at this
 cases e:fe es s<;>(rw[e]at this;exact this)
end
def Kg (bd:Nat)(l:List Nat)(w:World):Prop:=∀b∈l,Fo w b [Fg bd 0] 26
variable {bd:Nat}
theorem Kg.mod {l:List Nat}{S:Nat->Prop}(h:Kg bd l w)(m:Vc.Mod S w w')(hS:∀b∈l,¬ S b):Kg bd l w':=λb hb=>(h b hb).mod m (hS b hb)
theorem Kg.ext {l:List Nat}(h:Kg bd l w)(m:Fp w w'):Kg bd l w':=h.mod m (λ_ _ h=>h)
instance {bd : Nat} {l:List Nat} {w w':World} : Up w w' (Kg bd l w) (Kg bd l w'):=⟨λx h=>Kg.ext h x⟩
theorem Dsk.each_nil (a:Fh->Dsk->Dsk)(D:Dsk):Dsk.each a [] D=(0,D):=rfl
variable {a:Fh->Dsk->Dsk}{r:List Fh}
theorem Dsk.each_may (h:D.may [s]≠0):Dsk.each a (s :: r) D=(D.may [s],D):=by unfold Dsk.each;rw[if_pos h]
theorem Dsk.each_none (h:D.may [s]=0)(h2:lk D.fs s=none):Dsk.each a (s :: r) D=(7,D):=by unfold Dsk.each;rw[if_neg (λe=>e h),if_pos (by rw[h2];rfl)]
variable {f:Fil}
theorem Dsk.each_some (h:D.may [s]=0)(h2:lk D.fs s=some f):Dsk.each a (s :: r) D=Dsk.each a r (Dsk.tick (a s D)):=by rw[Dsk.each.eq_def];simp only [];rw[if_neg (λe=>e h),if_neg (by rw[h2];simp)]
theorem DiskE.old {mf:Nat}(h:DiskE F bd mf es D w)(he:e∈es):D.old e.name=e.f:=by unfold Dsk.old;rw[h.look,h.fe_in he];rfl
variable {b:Nat}
theorem LU (h:Fo w b [S s] 9):Fs G8 1 w (.slice (some ⟨b,0,none⟩) 1 1) [s]:=h.arr (enc:=G8) (sz:=1) (l:=[s]) rfl Ff rfl F5
theorem X6x (F:Nat->Prop)(bd mf:Nat)(es:List Fm)(D:Dsk)(e:Fm)(w:World)(h:DiskE F bd mf es D w)(he:e∈es) :
  Gy 163 [S e.name,Fg e.b 0] w F λu w'=>G6 (FSq F w w') bd (Dsk.lastsA e.name D) w':=by
 refine cE Tryz.func163 λO=>?_;have hb:=(h.el e he).1;have H:=(h.el e he).2;have ho:=H.arr Ff;have J:=H.ne_blk hb rfl;have z:=h.old he;refine FL 5 1 (ho.ext O).sl ?_;refine go ?_;refine HG hb (λw1 Y xs1 hb=>?_) (hv:=by rfl);have O:=(O.mod Y).mono (λi hi _=>(h.foot_F he (.inl hi):F i));refine go ?_;refine HV (Hx rfl (⟨_,rfl,O,?_⟩));have:=h.file (v:=e.v) (f:=⟨e.f.data,e.f.data.length⟩) he Y (λk hk _=>.inl hk) hb (H.mod Y (λk hk e2=>J (by have Z:k=e.b:=e2;rw[hk,Z]))) (.inl rfl) (h.wf.set (h.name he) (Aa _) (by rw[z];have:=h.wf.used;simp only;omega) (.inl (by rw[h.look,h.fe_in he];rfl)));unfold Dsk.lastsA;rw[z];exact⟨_,_,this⟩
theorem Yaa (F:Nat->Prop)(bd mf:Nat)(es:List Fm)(D:Dsk)(e:Fm)(bx:Nat)(w:World)(h:DiskE F bd mf es D w)(he:e∈es)(hbx:Fo w bx [Fg bd 0] 26) :
  Gy 110 [S e.name,Fg e.b 0,Fg bx 0] w F λu w'=>G6 (FSq F w w') bd (Dsk.gone e.name D) w':=by
 refine cE Tryz.func110 λz=>?_;have hd:=h.m;refine go ?_;refine RT (l:=es.map Fm.kv) HL rfl rfl rfl (h.map.ext z) (by have:=(h.name he).2;unfold maxLen;omega) (.inl rfl) (λw9 J xs9 O=>?_);have H:=h.ext z;have z:=(z.mod J).mono (λi hi _=>(h.inF i (.inr (.inl hi)):F i));refine go ?_;refine HV (Hx rfl ?_);exact⟨_,rfl,z,mf,_,(H.take J O).wide (λ_ h=>.inl h) (Jk h.lt z.size)⟩
theorem XI (F:Nat->Prop)(bd:Nat)(D:Dsk)(l:List Fh)(v:Value)(a:Fh->Dsk->Dsk)(gf:Nat)(cs:List Value)(bxs:List Nat)(w:World)(h:G6 F bd D w)(hv:Fs G8 1 w v l)(hl:l.length<=100000)(hdv:l≠[]->¬ F (base v).1)(hcb:Hj Tryz.prog gf=true)(ha:∀n D,(a n D).fused=D.fused/\(a n D).left=D.left)(hX0:Kg bd bxs w)(hxF:∀b∈bxs,¬ F b)(hg:∀(F:Nat->Prop) (mf:Nat) (es:List Fm) (D:Dsk) (w:World) (e:Fm),DiskE F bd mf es D w->e∈es->Kg bd bxs w->Calls Tryz.prog gf ([S e.name,Fg e.b 0]++cs).toArray w (Hi F w (λ_ w'=>G6 (FSq F w w') bd (a e.name D) w'))) :
  Gy 109 [Fg bd 0,v,Js gf cs] w F λu w'=>u=I (Dsk.each a l D).1/\G6 (FSq F w w') bd ((Dsk.each a l D).2) w':=by
 refine cM Tryz.func109 F λz=>?_;have hf:∀b∈bxs,¬ (F b\/w.heap.size<=b):=λb hb h=>h.elim (hxF b hb) (λh2=>by have:=(hX0 b hb).lt;omega);refine go ?_;refine dp (GS Fe rfl rfl) ?_;refine Fk (λc1=>?_) λc1=>?_
 ·exact absurd c1 F5
 refine FL 9 1 (hv.mod z hdv).sl ?_;refine F9 (G:=Nat×(Nat->Prop)×Dsk) (λ(k,Fc,Dc)=>[(0,Fg bd 0),(2,Js gf cs),(13,v),(14,I ↑l.length),(15,I ↑k)]) (λ(k,Fc,Dc) w'=>Mod F w w'/\k<=l.length/\G6 Fc bd Dc w'/\Kg bd bxs w'/\(∀i,F i->Fc i)/\(∀i,Fc i->F i\/w.heap.size<=i)/\Dsk.each a l D=Dsk.each a (l.drop k) Dc) (λ(k,Fc,Dc)=>l.length-k) (0,F,D) ⟨z,Ab _,h,hX0,λ_ h=>h,λ_ h=>.inl h,rfl⟩ ?_;rintro _ ⟨k,Fc,Dc⟩ w1 ⟨z,hk1,⟨mf,es,H⟩,J,hsup,hsub,hev⟩;have hd:=H.m;refine Fk (λc2=>?_) λc2=>?_
 ·obtain⟨s,hk⟩:∃s,l[k]?=some s:=F8;have Z:=IW hk;refine go ?_;refine di 9 1 (hv.mod z hdv).sl rfl ((hv.mod z hdv).lt hk) (dl rfl (((hv.mod z hdv).row hk).at0 rfl) (go ?_));refine li (e:=9) (sz:=1) (zs:=[S []]) (pv:=[(0,_)]) (cs:=[_]) RX.all (λb1 w2 e1 x2 m1=>?_);have g1:=z.ge e1;refine FP x2 H hd J z λH hd J z=>cP (SJ bd mf Dc [s] _ _ hd (LU m1) F5) RX.all λw3 x3=>FP x3 H hd J z λH hd J z=>?_;refine Fk (λc3=>?_) λc3=>?_
  ·refine go ?_;refine⟨_,rfl,z,?_⟩;rw[hev,Z,Dsk.each_may c3];exact⟨rfl,mf,es,H.wide (λi hi=>(hsub i hi).imp id (λh4=>⟨h4,H.lt i hi⟩)) (Jk h.lt z.size)⟩
  have O:Dc.may [s]=0:=AE c3;have hr:s.length<=maxLen:=by
   have:=(Dsk.may_names O s F5).2;unfold maxLen;omega
  have hp:=H.map.at;refine go ?_;refine dq (Oo rfl rfl hp hr) (go ?_);refine dp (GS Fe rfl rfl) ?_;refine Fk (λc4=>?_) λc4=>?_
  ·have Y:lk Dc.fs s=none:=by rw[H.look,ON.1 c4];rfl
   refine go ?_;refine⟨_,rfl,z,?_⟩;rw[hev,Z,Dsk.each_none O Y];exact⟨rfl,mf,es,H.wide (λi hi=>(hsub i hi).imp id (λh4=>⟨h4,H.lt i hi⟩)) (Jk h.lt z.size)⟩
  obtain⟨e,he⟩:=P5 c4;rw[he];have Y:lk Dc.fs s=some e.f:=by rw[H.look,he];rfl
  refine go ?_;have hc:¬ ((a s Dc).fused=true/\(a s Dc).left=0):=by rw[(ha s Dc).1,(ha s Dc).2];exact Dsk.may_live O
  obtain⟨hw,hh⟩:=O3 he;subst hh;refine X07 (vs:=[S e.name,Fg e.b 0]) rfl rfl hcb (hg Fc mf es Dc _ e H hw J) rfl (.inl rfl) (λu4 w4 x4 hj=>?_);have hlt9:=H.lt;have hszw:=z.size;have J:=J.mod x4 (λb hb hk=>hf b hb (hsub b hk));have z:=z.own x4 (λi hi hq=>(hsub i hi).resolve_right Fb);have hsz9:=x4.size;obtain⟨mf,es,H⟩:=hj;have hd:=H.m;have hM9:=H;refine Gw (Qe _ bd mf es (a e.name Dc) _ H hc) λu5 w5 x5 ht=>?_;have hsz5:=z.size;have J:=J.mod x5 (λb hb hk=>hf b hb (by have e2:b=bd:=hk;have h3:=H.inF bd (.inl rfl);rw[e2];exact h3.elim (λh4=>hsub bd h4) (λh4=>.inr Fb)));have z:=z.own x5 (λi hi hq=>(by have e2:i=bd:=hi;have h3:=H.inF bd (.inl rfl);rw[e2];exact h3.elim (λh4=>(hsub bd h4).resolve_right Fb) (λh4=>by omega)));obtain⟨rfl,H⟩:=ht;refine go ?_;refine⟨(k+1,_,Dsk.tick (a e.name Dc)),GC,⟨z,by omega,⟨mf,es,H⟩,J,λi hi=>.inl (hsup i hi),λi hi=>hi.elim (hsub i) (λh4=>.inr Fb),?_⟩,by simp only [];omega⟩;rw[hev,Z,Dsk.each_some O Y]
 refine go ?_;refine⟨_,rfl,z,?_⟩;rw[hev,BD Fb,Dsk.each_nil];exact⟨rfl,mf,es,H.wide (λi hi=>(hsub i hi).imp id (λh4=>⟨h4,H.lt i hi⟩)) (Jk h.lt z.size)⟩
theorem G6.to {G:Nat->Prop}(h:G6 G bd D w')(hG:∀k,G k->F k\/w.heap.size<=k)(hF:∀k,F k->k<w'.heap.size):G6 (FSq F w w') bd D w':=
 h.wide (λk hk=>(hG k hk).imp id λh1=>⟨h1,h.lt k hk⟩) (λk hk=>hk.elim (hF k) (·.2))
theorem Kg.nil : Kg bd [] w:=λb h=>by cases h
variable {w1 w2:World}
theorem MU (h:w.heap.size<=w1.heap.size):∀k,FSq F w1 w2 k->F k\/w.heap.size<=k:=λk hk=>hk.imp id λh1=>Ae h h1.1
section
variable {F:Nat->Prop}{bd mf:Nat}{es:List Fm}{D:Dsk}{w:World}
theorem DiskE.len (h:DiskE F bd mf es D w):es.length<=4096:=by
 have:=h.wf.cnt;rwa [h.fs,Aw]at this
theorem DiskE.ren {b:Fh}{e:Fm}{w1:World}(h:DiskE F bd mf es D w)(he:e∈es)(hb:1<=b.length/\b.length<=64)(h1:DiskE F bd mf (es.filter λq=>decide (q.name≠e.name)) (D.gone e.name) w1)(hs1:w1.heap.size=w.heap.size)(x:Vc.Mod (Fu mf) w w1){w2:World}(m:Vc.Mod (Fu mf) w1 w2)
  (hm:Gl Tryz.prog 9 S pO w2 mf (FG ((es.filter λq=>decide (q.name≠e.name)).map Fm.kv) b (some e.b))):DiskE (FSq F w1 w2) bd mf (HX (es.filter λq=>decide (q.name≠e.name)) b ⟨b,e.b,e.v,e.f⟩) { D with fs:=FG (G2 D.fs e.name) b e.f } w2:=by
 have z:¬ mf=e.b:=λe2=>h.foot_mf he (.inl e2);have O:∀k,e.v.ownBlock=some k->¬ k=mf:=λk hk e2=>h.foot_mf he (.inr (e2▸hk));refine h1.put (n:=b) (e:=⟨b,e.b,e.v,e.f⟩) rfl m (λk hk _=>.inl hk) hm (((h.el e he).1.mod x (λe2=>z e2.symm)).mod m (λe2=>z e2.symm)) (((h.el e he).2.mod x (λk hk e2=>O k hk e2)).mod m (λk hk e2=>O k hk e2)) (λk hk=>.inr ⟨h.foot_F he hk,λq hq hqn Y=>?_⟩) ?_
 ·have J:=Av.1 hq;exact R7 h.ap J.1 he (by simpa using J.2) k Y hk
 ·have hw:=h.wf.gone e.name;have H:(Kl D.fs e.name)=e.f:=h.old he;have hu:=Xn7 h.wf.nd e.name;rw[H]at hu;refine hw.set (n:=b) (f:=e.f) hb (h.lasts he) ?_ ?_
  ·have h2:=h.wf.used;rw[N4]at h2;rw[N4];have Z:JE (D.gone e.name).fs=JE (G2 D.fs e.name):=rfl;rw[Z];show(_:Int)<=D.room+_;omega
  ·refine .inr ?_;have h3:=Vw (x:=e.name) h.wf.nd;rw[h.look,h.fe_in he]at h3;have:=h.wf.cnt;simp at h3;show(G2 D.fs e.name).length<4096;omega
end
theorem Xww {a b:Fh}(h:D.may [a,b]≠0):D.ren a b=(D.may [a,b],D):=by unfold Dsk.ren;rw[if_pos h]
theorem Xty {a b:Fh}(h:D.may [a,b]=0)(h2:lk D.fs a=none):D.ren a b=(7,D):=by unfold Dsk.ren;rw[if_neg (λe=>e h),h2]
theorem Xtz {a b:Fh}(h:D.may [a,b]=0)(h2:lk D.fs a=some f):D.ren a b=(0,Dsk.tick { D with fs:=FG (G2 D.fs a) b f }):=by unfold Dsk.ren;rw[if_neg (λe=>e h),h2]
theorem V4 {t:Fh}(h:Fo w b [S s,S t] 9):Fs G8 1 w (.slice (some ⟨b,0,none⟩) 2 2) [s,t]:=h.arr (enc:=G8) (sz:=1) (l:=[s,t]) rfl Ff rfl F5
theorem TZ (F:Nat->Prop)(bd:Nat)(D:Dsk)(l:List Fh)(v:Value)(w:World)(h:G6 F bd D w)(hv:Fs G8 1 w v l)(hl:l.length<=100000)(hdv:l≠[]->¬ F (base v).1) :
  Gy 85 [Fg bd 0,v] w F λu w'=>u=I (D.sync l).1/\G6 (FSq F w w') bd ((D.sync l).2) w':=by
 refine cE Tryz.func85 λz=>Gw (XI F bd D l v Dsk.lastsA 163 [] [] _ (h.ext z) (hv.ext z) hl hdv Fe (λn D=>⟨rfl,rfl⟩) Kg.nil (λb h=>by cases h) (λF mf es D w e O he _=>X6x F bd mf es D e w O he)) λu1 w1 Y H=>?_;have hsz1:=z.size;have z:=(z.mod Y).mono (λi hi hlt=>(hi:F i));obtain⟨rfl,J⟩:=H;refine go ?_;exact⟨_,rfl,z,rfl,J⟩
theorem RD (F:Nat->Prop)(bd:Nat)(D:Dsk)(l:List Fh)(v:Value)(w:World)(h:G6 F bd D w)(hv:Fs G8 1 w v l)(hl:l.length<=100000)(hdv:l≠[]->¬ F (base v).1) :
  Gy 54 [Fg bd 0,v] w F λu w'=>u=I (D.rem l).1/\G6 (FSq F w w') bd ((D.rem l).2) w':=by
 refine cE Tryz.func54 λz=>go ?_;refine Gx rfl rfl rfl RX.all (λb1 w1 e1 Z m1=>?_);have g1:=z.ge e1;have z:=z.trans Z;refine go ?_;refine dp (Pc rfl) (cD (XI F bd D l v Dsk.gone 110 [Fg b1 0] [b1] _ (h.ext z) (hv.ext z) hl hdv Fe (λn D=>⟨rfl,rfl⟩) (λb hb=>by rw[Af.1 hb];exact m1) (λb hb=>by rw[Af.1 hb];intro hF;have:=h.lt _ hF;omega) (λF mf es D w e Y he hB=>Yaa F bd mf es D e b1 w Y he (hB b1 F5))) (.inl rfl) λu2 w2 x2 J=>?_);have H:=z.size;have z:=(z.mod x2).mono (λi hi hlt=>(hi:F i));obtain⟨rfl,O⟩:=J;refine go ?_;exact⟨_,rfl,z,rfl,O.to (MU H) (λk hk=>Ax (h.lt k hk) z.size)⟩
theorem Kx (F:Nat->Prop)(bd:Nat)(D:Dsk)(s:Fh)(w:World)(h:G6 F bd D w)(hok:s.length<=maxLen) :
  Gf 190 [Fg bd 0,S s] w λu w'=>∃v,u=.tuple #[v,I (D.readE s)]/\Vc.Own Fq 1 5 w.heap.size w' v (D.readB s):=by
 refine cE Tryz.func190 λY=>?_;obtain⟨mf,es,z⟩:=h;have hd:=z.m;have Z:=z.map.at;refine go ?_;refine dp (GS Fe rfl rfl) ?_;refine ds1 8 (λc1=>?_) λc1=>?_
 ·exact absurd c1 F5
 refine go ?_;refine dq (Oo rfl rfl Z hok) (dp (GS Fe rfl rfl) ?_);refine Fk (λc2=>?_) λc2=>?_
 ·refine go ?_;have J:lk D.fs s=none:=by rw[z.look,ON.1 c2];rfl
  rw[show D.readE s=7 by unfold Dsk.readE Dsk.has;rw[J];rfl,show D.readB s=[] by unfold Dsk.readB Dsk.read;rw[J];rfl];exact⟨_,rfl,Y,_,rfl,Vc.Own.nil⟩
 obtain⟨e,he⟩:=P5 c2;have J:D.read s=some e.f.data:=by unfold Dsk.read;rw[z.look,he];rfl
 have O:=(O3 he).1;have hfb:=(z.el e O).1;have ha:=(z.el e O).2.arr Ff;have hdl:=z.data O;refine go ?_;refine dq (Oo rfl rfl Z hok) ?_;rw[he];refine Ge (Nt e.f.data e.v _ (ha.ext Y) Fb) λu1 w1 x1 hO=>?_;have hsz1:=Y.size;have Y:=Y.trans x1;refine go ?_;have H:lk D.fs s=some e.f:=by rw[z.look,he];rfl
 rw[show D.readE s=0 by unfold Dsk.readE Dsk.has;rw[H];rfl,show D.readB s=e.f.data by unfold Dsk.readB Dsk.read;rw[H];rfl];exact⟨_,rfl,Y,_,rfl,hO⟩
theorem Yct (F:Nat->Prop)(bd:Nat)(D:Dsk)(a b:Fh)(w:World)(h:G6 F bd D w) :
  Gy 251 [Fg bd 0,S a,S b] w F λu w'=>u=I (D.ren a b).1/\G6 (FSq F w w') bd ((D.ren a b).2) w':=by
 refine cM Tryz.func251 F λz=>?_;obtain⟨mf,es,H⟩:=h;have O:=H.lt;have hd:=H.m;have J:=H.map.at;refine go ?_;refine li (e:=9) (sz:=1) (zs:=[S []]) (pv:=[(0,_),(1,_)]) (cs:=[_,_]) RX.all (λb1 w1 e1 x1 m1=>?_);have g1:=z.ge e1;have a1_hE:=H.lt;have a1_hd:=hd.lt;refine FP x1 H hd J z λH hd J z=>cP (SJ bd mf D [a,b] _ _ hd (V4 m1) F5) RX.all λw2 x2=>FP x2 H hd J z λH hd J z=>?_;refine Fk (λc1=>?_) λc1=>?_
 ·refine go ?_;refine⟨_,rfl,z,?_⟩;rw[Xww c1];exact⟨rfl,mf,es,H.wide (λi hi=>.inl hi) (Jk O z.size)⟩
 have Y:D.may [a,b]=0:=AE c1;have hr:=Dsk.may_names Y b F5;have hp:a.length<=maxLen:=by
  have:=(Dsk.may_names Y a F5).2;unfold maxLen;omega
 refine go ?_;refine dq (Oo rfl rfl J hp) (go ?_);refine dp (GS Fe rfl rfl) ?_;refine Fk (λc2=>?_) λc2=>?_
 ·refine go ?_;refine⟨_,rfl,z,?_⟩;rw[Xty Y (by rw[H.look,ON.1 c2];rfl)];exact⟨rfl,mf,es,H.wide (λi hi=>.inl hi) (Jk O z.size)⟩
 obtain⟨e,he⟩:=P5 c2;rw[he];have hh:lk D.fs a=some e.f:=by rw[H.look,he];rfl
 obtain⟨hc,hg⟩:=O3 he;subst hg;refine go ?_;refine RT (l:=es.map Fm.kv) HL rfl rfl rfl H.map (by have:=(H.name hc).2;unfold maxLen;omega) (.inl rfl) (λw8 x8 hf hM=>?_);have Z:=H.take x8 hM;have z:=z.own x8 (λi hi _=>H.inF i (.inr (.inl hi)));have ha:=z.size;have hd:=Z.m;refine go ?_;refine St (l:=(es.filter λq=>decide (q.name≠e.name)).map Fm.kv) (kx:=b) (a:=some e.b) HL rfl rfl rfl rfl Z.map (by unfold maxLen;omega) (by have:=Z.len;rw[Aw];unfold maxLen;omega) (.inl rfl) (λw9 x9 xs9 hq=>?_);have ht:=H.ren hc hr Z hf x8 x9 hq;have z:=z.own x9 (λi hi _=>H.inF i (.inr (.inl hi)));refine Gw (Qe _ bd mf _ _ _ ht (Dsk.may_live Y)) λu3 w3 x3 hj=>?_;have hsz3:=z.size;have z:=z.own x3 (λi hi hlt=>(by have e2:i=bd:=hi;rw[e2];exact H.inF bd (.inl rfl)));obtain⟨rfl,hl⟩:=hj;refine go ?_;refine⟨_,rfl,z,?_⟩;rw[Xtz Y hh];exact⟨rfl,G6.to ⟨_,_,hl⟩ (MU ha) (λk hk=>Ax (O k hk) z.size)⟩
variable {p:Fh}
theorem Xwy (h:D.may [n]≠0):D.app n p=(D.may [n],D):=by unfold Dsk.app;rw[if_pos h]
theorem Uq (h:D.may [n]=0)(h2:D.full n p=true):D.app n p=(6,D):=by unfold Dsk.app;rw[if_neg (λe=>e h),if_pos h2]
theorem X0 (h:D.may [n]=0)(h2:D.full n p=false):D.app n p=(0,Dsk.tick { D with fs:=FG D.fs n ⟨(D.old n).data++p,(D.old n).lasts⟩ }):=by unfold Dsk.app;rw[if_neg (λe=>e h),if_neg (by rw[h2];decide)]
theorem Yab (h:D.room-↑D.used<↑p.length):D.full n p=true:=by unfold Dsk.full;simp [h]
theorem Yac (h2:lk D.fs n=none)(h:4096<=D.fs.length):D.full n p=true:=by unfold Dsk.full;simp [h2,h]
theorem Vh (h:¬ D.room-↑D.used<↑p.length)(h2:lk D.fs n=none->¬ 4096<=D.fs.length):D.full n p=false:=by
 unfold Dsk.full;rw[decide_eq_false h,BY]
 cases e:lk D.fs n with
 | none=>simp [h2 e]
 | some f=>rfl
theorem DiskE.fresh {mf:Nat}(h:DiskE F bd mf es D w)(hn:1<=n.length/\n.length<=64)(hno:fe es n=none)(hc:D.fs.length<4096)(x:Fp w w1)(m1:Fo w1 b [.slice none 0 0,I 0] 125)(hb:w.heap.size<=b)(m:Vc.Mod (Fu mf) w1 w2)(hm:Gl Tryz.prog 9 S pO w2 mf (FG (es.map Fm.kv) n (some b))):DiskE (FSq F w w2) bd mf (HX es n ⟨n,b,.slice none 0 0,⟨[],0⟩⟩) { D with fs:=FG D.fs n ⟨[],0⟩ } w2:=by
 have z:¬ b=mf:=λe=>by have:=h.map.lt;omega
 refine h.put (e:=⟨n,b,.slice none 0 0,⟨[],0⟩⟩) rfl (Fp.mod x m) (λk hk _=>.inl hk) hm (m1.mod m z) OwnC.nil (λk hk=>.inl ?_) ?_
 ·rcases hk with rfl|hk
  ·exact hb
  ·cases hk
 ·refine h.wf.set (n:=n) (f:=⟨[],0⟩) hn (Aa _) ?_ (.inr hc);have h2:=h.wf.used;have h3:D.old n=⟨[],0⟩:=by unfold Dsk.old;rw[h.look,hno];rfl
  rw[h3];simpa using h2
theorem UZ (h:lk D.fs n=none):D.old n=⟨[],0⟩:=by unfold Dsk.old;rw[h];rfl
theorem TL (h:lk D.fs n=some f):D.old n=f:=by unfold Dsk.old;rw[h];rfl
theorem R6 (F:Nat->Prop)(bd:Nat)(D:Dsk)(n:Fh)(qs:List (Value×Fh))(vr:Value)(w:World)(h:G6 F bd D w)(hr:Fs (λq:Value×Fh=>[q.1]) 1 w vr qs)(hq:∀q∈qs,Fs Fq 1 w q.1 q.2)(hql:(qs.flatMap (·.2)).length<=1001000020)(hqn:qs.length<=1000000) :
  Gy 83 [Fg bd 0,S n,vr] w F λu w'=>u=I (D.app n (qs.flatMap (·.2))).1/\G6 (FSq F w w') bd ((D.app n (qs.flatMap (·.2))).2) w':=by
 refine cE Tryz.func83 λH=>?_;obtain⟨mf,es,z⟩:=h;have Z:=z.lt;have hd:=z.m;have hc:=z.map.at;have Y:=z.map;have hub0:=z.wf.room1;have hud0:=z.wf.used;have hr00:=z.wf.room0;refine go ?_;refine li (e:=9) (sz:=1) (zs:=[S []]) (pv:=[(0,_)]) (cs:=[_]) RX.all (λb1 w1 e1 x1 m1=>?_);have g1:=H.ge e1;have a1_hE:=z.lt;have a1_hd:=hd.lt;refine FV x1 z hd hc Y H λz hd hc Y H=>cP (SJ bd mf D [n] _ _ hd (LU m1) F5) RX.all λw2 x2=>FV x2 z hd hc Y H λz hd hc Y H=>?_;refine Fk (λc1=>?_) λc1=>?_
 ·refine go ?_;refine⟨_,rfl,H.mono (λ_ h _=>h.elim),?_⟩;rw[Xwy c1];exact⟨rfl,mf,es,z.wide (λi hi=>.inl hi) (Jk Z H.size)⟩
 have hf:D.may [n]=0:=AE c1;have h9:=Dsk.may_names hf n F5;have xn:n.length<=maxLen:=by unfold maxLen;omega
 refine Ge (OC qs vr _ (hr.ext H) (λq h=>(hq q h).ext H) Fb hqn) λup w3 x3 xj=>?_;have xe:=H.size;refine FV x3 z hd hc Y H λz hd hc Y H=>?_;have hJ:=xj.1;have xo:(qs.flatMap (·.2))≠[]->w.heap.size<=(base up).1:=λe=>Ae xe (xj.2 e);refine go ?_;refine dq (Oo rfl rfl hc xn) (Gn 10001100000000020100000 λw4 x4=>FV x4 z hd Y hJ H λz hd Y hJ H=>?_);refine FL 5 1 hJ.sl ?_;refine go ?_;refine cP (X98 F bd mf es D _ z) RX.ext λw5 x5=>FV x5 z hd Y hJ H λz hd Y hJ H=>?_;refine ds1 35 (λc2=>?_) λc2=>?_
 ·refine go ?_;refine GD rfl (go ?_);refine⟨_,rfl,H.mono (λ_ h _=>h.elim),?_⟩;rw[Uq hf (Yab c2)];exact⟨rfl,mf,es,z.wide (λi hi=>.inl hi) (Jk Z H.size)⟩
 refine go ?_;refine dp (GS Fe rfl rfl) ?_;refine ds1 38 (λc3=>?_) λc3=>?_
 ·refine go ?_;refine Gd rfl (λw' hR=>X6k HL rfl (Y.ext hR)) (dp (HW rfl rfl) ?_);refine Fk (λc4=>?_) λc4=>?_
  ·refine go ?_;refine⟨_,rfl,H.mono (λ_ h _=>h.elim),?_⟩;rw[Uq hf (Yac (by rw[z.look,ON.1 c3];rfl) (by rw[z.fs,Aw];rw[Aw]at c4;omega))];exact⟨rfl,mf,es,z.wide (λi hi=>.inl hi) (Jk Z H.size)⟩
  refine g0 ?_;refine GK (G:=(Nat->Prop)×List Fm×Dsk×Fm) (λ(F2,e2,D2,e)=>[(0,Fg bd 0),(6,I 0),(8,up),(9,Fg e.b 0)]) (λ(F2,e2,D2,e) w'=>Mod F w w'/\DiskE F2 bd mf e2 D2 w'/\e∈e2/\(∀i,F i->F2 i)/\(∀i,F2 i->F i\/w.heap.size<=i)/\Fs Fq 1 w' up (qs.flatMap (·.2))/\D2.fused=D.fused/\D2.left=D.left/\e.f.data.length+((qs.flatMap (·.2))).length<=1073741824/\Dsk.Wf { D2 with fs:=FG D2.fs e.name ⟨e.f.data++(qs.flatMap (·.2)),e.f.lasts⟩ }/\D.app n (qs.flatMap (·.2))=(0,Dsk.tick { D2 with fs:=FG D2.fs e.name ⟨e.f.data++(qs.flatMap (·.2)),e.f.lasts⟩ })) ?_ ?_
  ·refine go ?_;refine dp (GS Fe rfl rfl) ?_;refine Fk (λc5=>?_) λc5=>?_
   ·have xg:fe es n=none:=ON.1 c3;have ha:lk D.fs n=none:=by rw[z.look,xg];rfl
    have xf:D.fs.length<4096:=by rw[z.fs,Aw];rw[Aw]at c4;omega
    have xv:=z;have xu:=H.size;have xt:=z.wf.room1;have xr:=z.wf.used;have xc:Dsk.Wf { D with fs:=FG (FG D.fs n ⟨[],0⟩) n ⟨[]++qs.flatMap (·.2),0⟩ }:=by
     rw[Qd];refine z.wf.set h9 (Ab _) ?_ (.inr xf);rw[UZ ha];simp only [AB,Bl];omega
    refine go ?_;refine db (zs:=[.slice none 0 0,.int .i64 0]) (pl:=[(0,1),(1,1)]) (pv:=[]) (cs:=[.slice none 0 0,.int .i64 0]) ?_;refine Gx rfl rfl rfl RX.all (λb2 w6 e2 x6 m2=>?_);have g2:=H.ge e2;have a2_hE:=z.lt;have a2_hd:=hd.lt;have a2_hJ:=Fs.base_lt hJ Fj;refine FV x6 z hd Y hJ H λz hd Y hJ H=>go ?_;refine St (l:=es.map Fm.kv) (kx:=n) (a:=some b2) HL rfl rfl rfl rfl Y xn (by have:=z.len;rw[Aw];unfold maxLen;omega) (.inl rfl) (λw9 x9 xz xw=>?_);have xi:=xv.fresh h9 xg xf x6 m2 (Ch e2.symm) x9 xw;have H:=(H.mod x9).mono (λi hi _=>(z.inF i (.inr (.inl hi)):F i));have hJ:=hJ.mod x9 (λhl e=>by have e2:(base up).1=mf:=e;have h3:=xo hl;have h4:=z.inF mf (.inr (.inl rfl));have h5:=Z mf h4;omega);have hd:=xi.m;refine go ?_;refine⟨(FSq F _ _,HX es n ⟨n,b2,.slice none 0 0,⟨[],0⟩⟩,{ D with fs:=FG D.fs n ⟨[],0⟩ },⟨n,b2,.slice none 0 0,⟨[],0⟩⟩),He,H,xi,Xn9,λi h=>.inl h,MU xu,hJ,rfl,rfl,(by simp only [Bl];omega),xc,?_⟩;rw[X0 hf (Vh c2 (λ_=>by omega)),UZ ha];simp only [Qd]
   exact absurd c3 c5
  rintro _ ⟨F2,e2,D2,e⟩ w7 ⟨H,z,J,hsup,hsub,hJ,hfu,hle,hbl,hwf2,happ⟩;have hd:=z.m;have O:=(z.el e J).1;have ho:=(z.el e J).2;have xy:=ho.ne_blk O rfl;have ht:¬ (D2.fused=true/\D2.left=0):=by rw[hfu,hle];exact Dsk.may_live hf
  have xa:=H.size;refine go ?_;refine Yk (lx:=(qs.flatMap (·.2))) (e:=5) (sz:=1) (by':=1) rfl Fe Fe Ff ho (hJ) rfl rfl (by intro x _ u hu;simp at hu;rcases hu with rfl<;>rfl) Fb Fj (Ab _) (.inl rfl) (λv2 w8 hh x8 xh=>?_);have hj:=xh;have hw:=x8;have O:=O.mod x8 Fw;have H:=H.own x8 (λi hi hy=>(hsub i (z.foot_F J (.inr hi))).resolve_right Fb);have ho:=hh;have hp:=ho.ne_blk O rfl;refine go ?_;refine HG O (λw9 x9 xz O=>?_) (hv:=by exact ho.sl.one);have ho:=ho.mod x9 (λk hk h=>hp (by have h2:k=e.b:=h;rw[hk,h2]));have H:=H.own x9 (λi hi _=>(hsub i (z.foot_F J (.inl hi))).resolve_right Fb);refine go ?_;have hg:=x9;refine go ?_;have h8:=z.file (v:=v2) (f:=⟨e.f.data++qs.flatMap (·.2),e.f.lasts⟩) J ((hw.mono (λi hi _=>.inr hi)).own hg (λi hi _=>.inl hi)) (λk hk _=>hk) O ho (hj.imp id (λe2 k hk=>by rw[e2]at hk;cases hk;exact Aa _)) hwf2;have xm:=Ae hw.size hg.size;refine cD (Qe _ bd mf _ _ _ h8 ht) (.inl rfl) λu10 w10 xp xl=>?_;have hsz10:=H.size;have H:=H.own xp (λi hi hy=>(hsub i (z.inF i (.inl hi))).resolve_right Fb);obtain⟨rfl,h6⟩:=xl;refine go ?_;refine⟨_,rfl,H,?_⟩;rw[happ];exact⟨rfl,G6.to (G:=FSq F2 _ _) ⟨_,_,h6⟩ (λk hk=>hk.elim (hsub k) (λh=>.inr (Ae xa h.1))) (λk hk=>Ax (Z k hk) H.size)⟩
 refine go ?_;refine GL rfl (g0 ?_);refine GK (G:=(Nat->Prop)×List Fm×Dsk×Fm) (λ(F2,e2,D2,e)=>[(0,Fg bd 0),(6,I 0),(8,up),(9,Fg e.b 0)]) (λ(F2,e2,D2,e) w'=>Mod F w w'/\DiskE F2 bd mf e2 D2 w'/\e∈e2/\(∀i,F i->F2 i)/\(∀i,F2 i->F i\/w.heap.size<=i)/\Fs Fq 1 w' up (qs.flatMap (·.2))/\D2.fused=D.fused/\D2.left=D.left/\e.f.data.length+((qs.flatMap (·.2))).length<=1073741824/\Dsk.Wf { D2 with fs:=FG D2.fs e.name ⟨e.f.data++(qs.flatMap (·.2)),e.f.lasts⟩ }/\D.app n (qs.flatMap (·.2))=(0,Dsk.tick { D2 with fs:=FG D2.fs e.name ⟨e.f.data++(qs.flatMap (·.2)),e.f.lasts⟩ })) ?_ ?_
 ·refine go ?_;refine dp (GS Fe rfl rfl) ?_;refine Fk (λc6=>?_) λc6=>?_
  ·exact absurd c6 c3
  obtain⟨e,he⟩:=P5 c6;rw[he];have ha:lk D.fs n=some e.f:=by rw[z.look,he];rfl
  obtain⟨J,xx⟩:=O3 he;subst xx;have xt:=z.wf.room1;have xr:=z.wf.used;have hel:e.f.data.length<=D.used:=VP (p:=(e.name,e.f)) (by rw[z.fs];exact Ay.2 ⟨e,J,rfl⟩);have xk:Dsk.Wf { D with fs:=FG D.fs e.name ⟨e.f.data++qs.flatMap (·.2),e.f.lasts⟩ }:=by
   refine z.wf.set h9 (by have:=z.lasts J;simp only [Ad];omega) ?_ (.inl (by rw[ha];rfl));rw[TL ha];simp only [Ad];omega
  refine go ?_;refine⟨(F,es,D,e),He,H.mono (λ_ h _=>h.elim),z,J,λi h=>h,λi h=>.inl h,hJ,rfl,rfl,Fb,xk,?_⟩;rw[X0 hf (Vh c2 (λh=>by rw[ha]at h;cases h)),TL ha]
 rintro _ ⟨F2,e2,D2,e⟩ w11 ⟨H,z,J,hsup,hsub,hJ,hfu,hle,hbl,hwf2,happ⟩;have hd:=z.m;have O:=(z.el e J).1;have ho:=(z.el e J).2;have xy:=ho.ne_blk O rfl;have ht:¬ (D2.fused=true/\D2.left=0):=by rw[hfu,hle];exact Dsk.may_live hf
 have xa:=H.size;refine go ?_;refine Yk (lx:=(qs.flatMap (·.2))) (e:=5) (sz:=1) (by':=1) rfl Fe Fe Ff ho (hJ) rfl rfl (by intro x _ u hu;simp at hu;rcases hu with rfl<;>rfl) Fb Fj (Ab _) (.inl rfl) (λv2 w12 hh h7 xb=>?_);have hj:=xb;have hw:=h7;have O:=O.mod h7 Fw;have H:=H.own h7 (λi hi hy=>(hsub i (z.foot_F J (.inr hi))).resolve_right Fb);have ho:=hh;have hp:=ho.ne_blk O rfl;refine go ?_;refine HG O (λw13 hz xs13 O=>?_) (hv:=by exact ho.sl.one);have ho:=ho.mod hz (λk hk h=>hp (by have h2:k=e.b:=h;rw[hk,h2]));have H:=H.own hz (λi hi _=>(hsub i (z.foot_F J (.inl hi))).resolve_right Fb);refine go ?_;have hg:=hz;refine go ?_;have h8:=z.file (v:=v2) (f:=⟨e.f.data++qs.flatMap (·.2),e.f.lasts⟩) J ((hw.mono (λi hi _=>.inr hi)).own hg (λi hi _=>.inl hi)) (λk hk _=>hk) O ho (hj.imp id (λe2 k hk=>by rw[e2]at hk;cases hk;exact Aa _)) hwf2;have xm:=Ae hw.size hg.size;refine cD (Qe _ bd mf _ _ _ h8 ht) (.inl rfl) λu14 w14 xq xd=>?_;have hsz14:=H.size;have H:=H.own xq (λi hi hy=>(hsub i (z.inF i (.inl hi))).resolve_right Fb);obtain⟨rfl,h6⟩:=xd;refine go ?_;refine⟨_,rfl,H,?_⟩;rw[happ];exact⟨rfl,G6.to (G:=FSq F2 _ _) ⟨_,_,h6⟩ (λk hk=>hk.elim (hsub k) (λh=>.inr (Ae xa h.1))) (λk hk=>Ax (Z k hk) H.size)⟩
theorem Sk {i:Nat}(h:FSq F w1 w2 i)(hi:i<w1.heap.size):F i:=h.resolve_right (λh2=>by omega)
theorem Xwz : (decide (D.readE s=0))=D.has s:=by unfold Dsk.readE;cases D.has s<;>rfl
theorem Xm (h:n.length<1\/60<n.length):D.save n p=(1,D):=by unfold Dsk.save;rw[if_pos h]
theorem Yad (h:¬ (n.length<1\/60<n.length))(h2:1048576<p.length):D.save n p=(5,D):=by unfold Dsk.save;rw[if_neg h,if_pos h2]
theorem Yae (h:¬ (n.length<1\/60<n.length))(h2:¬ 1048576<p.length)(h3:D.has (Dsk.sh n)=true)(h4:(D.rem [Dsk.sh n]).1≠0):D.save n p=D.rem [Dsk.sh n]:=by unfold Dsk.save;rw[if_neg h,if_neg h2,if_pos h3,if_pos h4]
theorem Yaf (h:¬ (n.length<1\/60<n.length))(h2:¬ 1048576<p.length)(h3:D.has (Dsk.sh n)=true)(h4:¬ (D.rem [Dsk.sh n]).1≠0):D.save n p=Dsk.save2 (D.rem [Dsk.sh n]).2 n p:=by unfold Dsk.save;rw[if_neg h,if_neg h2,if_pos h3,if_neg h4]
theorem Yag (h:¬ (n.length<1\/60<n.length))(h2:¬ 1048576<p.length)(h3:D.has (Dsk.sh n)=false):D.save n p=Dsk.save2 D n p:=by unfold Dsk.save;rw[if_neg h,if_neg h2,if_neg (by rw[h3];decide)]
theorem X60 (h:(D.app (Dsk.sh n) (F7 p)).1≠0):Dsk.save2 D n p=D.app (Dsk.sh n) (F7 p):=by unfold Dsk.save2;rw[if_pos h]
theorem X61 (h:¬ (D.app (Dsk.sh n) (F7 p)).1≠0)(h2:((D.app (Dsk.sh n) (F7 p)).2.sync [Dsk.sh n]).1≠0):Dsk.save2 D n p=(D.app (Dsk.sh n) (F7 p)).2.sync [Dsk.sh n]:=by unfold Dsk.save2;rw[if_neg h,if_pos h2]
theorem X62 (h:¬ (D.app (Dsk.sh n) (F7 p)).1≠0)(h2:¬ ((D.app (Dsk.sh n) (F7 p)).2.sync [Dsk.sh n]).1≠0):Dsk.save2 D n p=((D.app (Dsk.sh n) (F7 p)).2.sync [Dsk.sh n]).2.ren (Dsk.sh n) n:=by unfold Dsk.save2;rw[if_neg h,if_neg h2]
theorem Lf {v:Value}(h:Fo w b [v] 82):Fs (λq:Value×Fh=>[q.1]) 1 w (.slice (some ⟨b,0,none⟩) 1 1) [(v,p)]:=h.arr (enc:=λq:Value×Fh=>[q.1]) (sz:=1) (l:=[(v,p)]) rfl Ff rfl F5
theorem Py (h:G6 F bd D w)(hb:w.heap.size<=b):¬ F b:=λz=>by have:=h.lt _ z;omega
def Ydz (D:Dsk)(s:Fh):Fh×Int:=if D.readE s≠0 then([],D.readE s)else if(Je (D.readB s)).2≠0 then([],3)else((Je (D.readB s)).1,0)
def HI (p:Fh):Int:=if 1048576<p.length then 5 else 0
theorem SP (p:Fh)(vp vr:Value)(w:World)(hr:Fs (λx:Value=>[x]) 1 w vr [vp])(hp:Fs Fq 1 w vp p)(hpl:p.length<=2001000020) :
  Calls Tryz.prog 82 [vr].toArray w (GX w (λu w'=>∃v,u=.tuple #[v,I (HI p)]/\(HI p=0->Fs Fq 1 w' v (F7 p)/\w.heap.size<=(base v).1))):=by
 refine(Ycp p vp vr w hr hp hpl).mono ?_;rintro e w' ⟨u,rfl,hx,h|⟨h1,v,rfl,h2,h3⟩⟩
 ·obtain⟨h1,rfl⟩:=h;have H:HI p=5:=if_pos h1;exact⟨_,rfl,hx,_,by rw[H],λz=>by rw[H]at z;cases z⟩
 ·have z:HI p=0:=if_neg Fb;exact⟨_,rfl,hx,_,by rw[z],λ_=>⟨h2,h3⟩⟩
theorem Vp (h:HI p=0):¬ 1048576<p.length:=λh2=>by rw[show HI p=5 from if_pos h2]at h;cases h
theorem Vr (h:HI p≠0):1048576<p.length:=by
 unfold HI at h;split at h
 ·assumption
 ·exact absurd rfl h
theorem X63 (F:Nat->Prop)(bd:Nat)(D:Dsk)(s:Fh)(w:World)(h:G6 F bd D w)(hok:s.length<=maxLen) :
  FW 250 [Fg bd 0,S s] w (B (D.has s)):=by
 refine cE Tryz.func250 λz=>Ge (Kx F bd D s _ (h.ext z) hok) λu1 w1 J H=>?_;have hsz1:=z.size;have z:=z.trans J;obtain⟨vr,rfl,hO⟩:=H;refine go ?_;exact⟨by rw[<-Xwz],z⟩
theorem RN (F:Nat->Prop)(bd:Nat)(D:Dsk)(n p:Fh)(vp vr:Value)(w:World)(h:G6 F bd D w)(hr:Fs (λx:Value=>[x]) 1 w vr [vp])(hp:Fs Fq 1 w vp p)(hpl:p.length<=2001000020)(hnl:n.length<=140737488355327) :
  Gy 176 [Fg bd 0,S n,vr] w F λu w'=>u=I (D.save n p).1/\G6 (FSq F w w') bd ((D.save n p).2) w':=by
 refine cE Tryz.func176 λz=>?_;have hy:F7 p≠[]:=λh=>by have:=KA p;rw[h]at this;simp at this
 refine go ?_;refine dp (GS Fe rfl rfl) ?_;refine ds1 14 (λc1=>?_) λc1=>?_
 ·exact absurd c1 F5
 refine ds1 19 (λc2=>?_) λc2=>?_
 ·refine go ?_;refine GD rfl (go ?_);rw[Xm Fb];exact⟨_,rfl,z.mono (λ_ h _=>h.elim),rfl,h.grow z⟩
 refine Fk (λc3=>?_) λc3=>?_
 ·refine go ?_;rw[Xm Fb];exact⟨_,rfl,z.mono (λ_ h _=>h.elim),rfl,h.grow z⟩
 refine Ge (SP p vp vr _ (hr.ext z) (hp.ext z) hpl) λu1 w1 x1 hw=>?_;have hg:=z.size;have z:=z.trans x1;obtain⟨vb,rfl,hE⟩:=hw;refine Fk (λc4=>?_) λc4=>?_
 ·refine go ?_;rw[Yad Fb (Vr c4),show HI p=5 from if_pos (Vr c4)];exact⟨_,rfl,z.mono (λ_ h _=>h.elim),rfl,h.grow z⟩
 have O:HI p=0:=AE c4;have hB:=(hE O).1;have hq:=Ae hg (hE O).2;have Z:¬ (n.length<1\/60<n.length):=by omega
 have Y:=Vp O;refine g0 ?_;refine GK (G:=(Nat->Prop)×Dsk) (λ(Fc,Dc)=>[(0,Fg bd 0),(1,S n),(7,vb)]) (λ(Fc,Dc) w'=>Mod F w w'/\G6 Fc bd Dc w'/\(∀k,Fc k->F k\/w.heap.size<=k)/\Fs Fq 1 w' vb (F7 p)/\D.save n p=Dsk.save2 Dc n p) ?_ ?_
 ·refine go ?_;refine dp (Iu rfl rfl (by simp;omega)) (cP (X63 F bd D (n++[126]) _ (h.ext z) (by simp;unfold maxLen;omega)) RX.all λw2 x2=>Fz x2 hB z λhB z=>?_);refine FZ (λc5=>?_) λc5=>?_
  ·refine go ?_;refine dp (Iu rfl rfl (by simp;omega)) (li (e:=9) (sz:=1) (zs:=[S []]) (pv:=[(0,_)]) (cs:=[_]) RX.all (λb1 w3 e1 x3 m1=>?_));have g1:=z.ge e1;have a1_hB:=Fs.base_lt hB Fj;refine Fz x3 hB z λhB z=>cD (RD F bd D [n++[126]] _ _ (h.ext z) (LU m1) F5 (λ_=>Py h g1)) (.inl rfl) λu4 w4 x4 hh=>?_;have hf:=z.size;have hB:=hB.mod x4 (λ_=>Py h hq);have z:=(z.mod x4).mono (λi hi J=>(hi:F i));obtain⟨rfl,hA⟩:=hh;have H:=hf;refine Fk (λc6=>?_) λc6=>?_
   ·refine go ?_;rw[Yae Z Y c5 c6];exact⟨_,rfl,z,rfl,hA.to (MU H) (λk hk=>Ax (h.lt k hk) z.size)⟩
   refine go ?_;exact⟨(_,_),Kv,z,hA,MU H,hB,Yaf Z Y c5 c6⟩
  refine go ?_;exact⟨(F,D),Kv,z.mono (λ_ h _=>h.elim),h.ext z,λ_ h=>.inl h,hB,Yag Z Y c5⟩
 rintro _ ⟨Fc,Dc⟩ w5 ⟨z,hA,hsub,hB,hsv⟩;have hsw:=z.size;have hBl:=hB.base_lt Fj hy;refine go ?_;refine dp (Iu rfl rfl (by simp;omega)) (go ?_);refine Io (e:=82) (sz:=1) (zs:=[.slice none 0 0]) (pv:=[(0,?a35_0)]) (cs:=[?a35_0]) rfl Fe ⟨rfl,rfl⟩ Fe rfl ?h35 ?f35 RX.all (λb2 w6 e2 x6 m2=>?k35)
 case h35=>refine⟨rfl,?_,trivial⟩<;>(conv=>lhs;whnf)
 case f35=>simp [Hm,Gr,An,hB.sl.cells]
 have g2:=z.ge e2;have a2_hB:=Fs.base_lt hB Fj;refine FB x6 hB hA z λhB hA z=>cD (R6 Fc bd Dc (n++[126]) [(vb,F7 p)] _ _ hA (Lf m2) (by intro q h;rw[Af.1 h];exact hB) (by simp [KA];omega) F5) (.inl rfl) λu7 w7 x7 ha=>?_;have hsz7:=z.size;have z:=z.own x7 (λi hi J=>(hsub i hi).resolve_right Fb);rw[show BO (λq:Value×Fh=>q.2) [(vb,F7 p)]=F7 p by simp]at ha;obtain⟨rfl,hA⟩:=ha;have hl:=hA;refine Fk (λc7=>?_) λc7=>?_
 ·refine go ?_;rw[hsv,X60 c7];exact⟨_,rfl,z,rfl,hA.to (λk hk=>(λhk=>hk.elim (hsub k) (λh9=>.inr Fb)) hk) (λk hk=>Ax (h.lt k hk) z.size)⟩
 refine go ?_;refine dp (Iu rfl rfl (by simp;omega)) (li (e:=9) (sz:=1) (zs:=[S []]) (pv:=[(0,_)]) (cs:=[_]) RX.all (λb3 w8 e3 x8 m3=>?_));have g3:=z.ge e3;refine Fz x8 hA z λhA z=>cD (TZ _ bd _ [n++[126]] _ _ hA (LU m3) F5 (λ_=>Py hl (Ch e3.symm))) (.inl rfl) λu9 w9 x9 ht=>?_;have hsz9:=z.size;have z:=z.own x9 (λi hi J=>(hsub i (Sk hi Fb)).resolve_right Fb);obtain⟨rfl,hA⟩:=ht;refine Fk (λc8=>?_) λc8=>?_
 ·refine go ?_;rw[hsv,X61 c7 c8];exact⟨_,rfl,z,rfl,hA.to (λk hk=>(λhk=>hk.elim (λhk=>hk.elim (hsub k) (λh9=>.inr Fb)) (λh9=>.inr Fb)) hk) (λk hk=>Ax (h.lt k hk) z.size)⟩
 refine go ?_;refine dp (Iu rfl rfl (by simp;omega)) (Gw (Yct _ bd _ (n++[126]) n _ hA) λu10 w10 hj hc=>?_);have hsz10:=z.size;have z:=z.own hj (λi hi J=>(hsub i (Sk (Sk hi Fb) Fb)).resolve_right Fb);obtain⟨rfl,hA⟩:=hc;refine go ?_;rw[hsv,X62 c7 c8];exact⟨_,rfl,z,rfl,hA.to (λk hk=>(λhk=>hk.elim (λhk=>hk.elim (λhk=>hk.elim (hsub k) (λh9=>.inr Fb)) (λh9=>.inr Fb)) (λh9=>.inr Fb)) hk) (λk hk=>Ax (h.lt k hk) z.size)⟩
end Go.Proofs.YtiooodckiddpmaaGreatDoor
namespace Go.Proofs
open Go.Shelf
def Tryz.keys67_ren : Go.Shelf.Ren:=⟨λ|7=>67|10=>133|n=>n,λ|23=>120|26=>9|3=>123|28=>129|0=>0|27=>128|33=>208|4=>4|n=>n,λ|n=>n⟩
theorem Tryz.keys67 : Go.Proofs.SlLaysZ.n7 Tryz.prog Tryz.keys67_ren:={
 mixed:=by kernel_rfl
 f7:=⟨Tryz.f67.name,by decide,Tryz.func67.trans (congrArg some Fe)⟩
 f10:=⟨Tryz.f133.name,by decide,Tryz.func133.trans (congrArg some Fe)⟩
 t0:=Tryz.underlying0
 a0:=Tryz.isAgg0
 z0:=Tryz.sizeOf0
 v0:=Tryz.zeroValue0
 t4:=Tryz.underlying4
 a4:=Tryz.isAgg4
 z4:=Tryz.sizeOf4
 v4:=Tryz.zeroValue4
 t23:=Tryz.underlying120
 a23:=Tryz.isAgg120
 z23:=Tryz.sizeOf120
 v23:=Tryz.zeroValue120
 t26:=Tryz.underlying9
 a26:=Tryz.isAgg9
 z26:=Tryz.sizeOf9
 v26:=Tryz.zeroValue9
 t27:=Tryz.underlying128
 a27:=Tryz.isAgg128
 z27:=Tryz.sizeOf128
 v27:=Tryz.zeroValue128
 t28:=Tryz.underlying129
 a28:=Tryz.isAgg129
 z28:=Tryz.sizeOf129
 v28:=Tryz.zeroValue129
 t33:=Tryz.underlying208
 a33:=Tryz.isAgg208
 z33:=Tryz.sizeOf208
 v33:=Tryz.zeroValue208 }
def Tryz.sorted66_ren : Go.Shelf.Ren:=⟨λ|6=>66|8=>131|9=>132|11=>202|13=>204|12=>203|23=>271|24=>272|14=>262|15=>263|16=>264|17=>265|18=>266|19=>267|20=>268|21=>269|22=>270|25=>313|26=>314|27=>315|28=>316|29=>317|30=>305|31=>333|n=>n,λ|26=>9|28=>129|24=>58|0=>0|3=>3|37=>237|48=>174|50=>236|4=>4|40=>331|39=>330|45=>302|5=>5|9=>9|51=>355|55=>197|57=>368|58=>211|33=>208|n=>n,λ|n=>n⟩
theorem Tryz.sorted66 : Go.Proofs.SlLaysZ.n6 Tryz.prog Tryz.sorted66_ren:={
 mixed:=by kernel_rfl
 f6:=⟨Tryz.f66.name,by decide,Tryz.func66.trans (congrArg some Fe)⟩
 f8:=⟨Tryz.f131.name,by decide,Tryz.func131.trans (congrArg some Fe)⟩
 f11:=⟨Tryz.f202.name,by decide,Tryz.func202.trans (congrArg some Fe)⟩
 t0:=Tryz.underlying0
 a0:=Tryz.isAgg0
 z0:=Tryz.sizeOf0
 v0:=Tryz.zeroValue0
 t24:=Tryz.underlying58
 a24:=Tryz.isAgg58
 z24:=Tryz.sizeOf58
 v24:=Tryz.zeroValue58
 t26:=Tryz.underlying9
 a26:=Tryz.isAgg9
 z26:=Tryz.sizeOf9
 v26:=Tryz.zeroValue9
 t28:=Tryz.underlying129
 a28:=Tryz.isAgg129
 z28:=Tryz.sizeOf129
 v28:=Tryz.zeroValue129
 i26:=by kernel_rfl }
def Tryz.lays190_ren : Go.Shelf.Ren:=⟨λ|190=>132|125=>204|258=>203|128=>271|129=>272|302=>262|303=>263|304=>264|305=>265|306=>266|307=>267|308=>268|309=>269|310=>270|333=>313|329=>314|330=>315|334=>316|335=>317|336=>305|344=>333|n=>n,λ|31=>58|9=>9|3=>3|46=>237|0=>0|51=>174|53=>236|4=>4|183=>331|182=>330|131=>302|5=>5|218=>355|222=>197|228=>368|229=>211|n=>n,λ|n=>n⟩
theorem Tryz.lays190 : Go.Proofs.Lays.n190 Tryz.prog Tryz.lays190_ren:={
 mixed:=by kernel_rfl
 f125:=Tryz.func204.trans (congrArg some Fe)
 f128:=Tryz.func271.trans (congrArg some Fe)
 f129:=Tryz.func272.trans (congrArg some Fe)
 f190:=Tryz.func132.trans (congrArg some Fe)
 f258:=Tryz.func203.trans (congrArg some Fe)
 f302:=Tryz.func262.trans (congrArg some Fe)
 f303:=Tryz.func263.trans (congrArg some Fe)
 f304:=Tryz.func264.trans (congrArg some Fe)
 f305:=Tryz.func265.trans (congrArg some Fe)
 f306:=Tryz.func266.trans (congrArg some Fe)
 f307:=Tryz.func267.trans (congrArg some Fe)
 f308:=Tryz.func268.trans (congrArg some Fe)
 f309:=Tryz.func269.trans (congrArg some Fe)
 f310:=Tryz.func270.trans (congrArg some Fe)
 f329:=Tryz.func314.trans (congrArg some Fe)
 f330:=Tryz.func315.trans (congrArg some Fe)
 f333:=Tryz.func313.trans (congrArg some Fe)
 f334:=Tryz.func316.trans (congrArg some Fe)
 f335:=Tryz.func317.trans (congrArg some Fe)
 f336:=Tryz.func305.trans (congrArg some Fe)
 f344:=Tryz.func333.trans (congrArg some Fe)
 t0:=Tryz.underlying0
 a0:=Tryz.isAgg0
 z0:=Tryz.sizeOf0
 v0:=Tryz.zeroValue0
 t3:=Tryz.underlying3
 a3:=Tryz.isAgg3
 z3:=Tryz.sizeOf3
 v3:=Tryz.zeroValue3
 t4:=Tryz.underlying4
 a4:=Tryz.isAgg4
 z4:=Tryz.sizeOf4
 v4:=Tryz.zeroValue4
 t5:=Tryz.underlying5
 a5:=Tryz.isAgg5
 z5:=Tryz.sizeOf5
 v5:=Tryz.zeroValue5
 t9:=Tryz.underlying9
 a9:=Tryz.isAgg9
 z9:=Tryz.sizeOf9
 v9:=Tryz.zeroValue9
 t31:=Tryz.underlying58
 a31:=Tryz.isAgg58
 z31:=Tryz.sizeOf58
 v31:=Tryz.zeroValue58
 t46:=Tryz.underlying237
 a46:=Tryz.isAgg237
 z46:=Tryz.sizeOf237
 v46:=Tryz.zeroValue237
 t51:=Tryz.underlying174
 a51:=Tryz.isAgg174
 z51:=Tryz.sizeOf174
 v51:=Tryz.zeroValue174
 t53:=Tryz.underlying236
 a53:=Tryz.isAgg236
 z53:=Tryz.sizeOf236
 v53:=Tryz.zeroValue236
 t131:=Tryz.underlying302
 a131:=Tryz.isAgg302
 z131:=Tryz.sizeOf302
 v131:=Tryz.zeroValue302
 t182:=Tryz.underlying330
 a182:=Tryz.isAgg330
 z182:=Tryz.sizeOf330
 v182:=Tryz.zeroValue330
 t183:=Tryz.underlying331
 a183:=Tryz.isAgg331
 z183:=Tryz.sizeOf331
 v183:=Tryz.zeroValue331
 t218:=Tryz.underlying355
 a218:=Tryz.isAgg355
 z218:=Tryz.sizeOf355
 v218:=Tryz.zeroValue355
 t222:=Tryz.underlying197
 a222:=Tryz.isAgg197
 z222:=Tryz.sizeOf197
 v222:=Tryz.zeroValue197
 t228:=Tryz.underlying368
 a228:=Tryz.isAgg368
 z228:=Tryz.sizeOf368
 v228:=Tryz.zeroValue368
 t229:=Tryz.underlying211
 a229:=Tryz.isAgg211
 z229:=Tryz.sizeOf211
 v229:=Tryz.zeroValue211 }
open Go.Sort Go.RowKit in
theorem Tryz.slices_Sort_string (blk off cap:Nat)(ss:List (List UInt8))(w:World)(hH:Holds encStr w blk off ss.toArray)(hblk:blk<w.heap.size)(hsz:ss.length<4611686018427387904) :
 Calls Tryz.prog 132 #[.slice (some ⟨blk,off,none⟩) ss.length cap] w λe w'=>
  e=.returned (.tuple #[])/\∃n os,w'=grow (putRow encStr (Sort.ahead w n) blk off (ss.mergeSort λx y=>decide (x<=y)).toArray) os:=Any.slices_Sort_string Tryz.lays190 blk off cap ss w hH hblk hsz
open Go.RowKit Go.Sort in
theorem Tryz.slices_Sort_string_none (p:Option Addr)(cap:Nat)(w:World) :
 Calls Tryz.prog 132 #[.slice p 0 cap] w λe w'=>e=.returned (.tuple #[])/\w'=w:=Any.slices_Sort_string_none Tryz.lays190 p cap w
end Go.Proofs
namespace Go.Proofs.YtiooodckiddpmaaGreatDoor
open Go.Vc Go.Sp
attribute [local irreducible] W XW Dw G9
theorem keys_in (mb:Option Nat)(W:World):CallsIn Fence.wide 5 Tryz.prog 67 #[.map mb] W λe w'=>e=.returned (.func (.func 133) #[] #[.pointer (some ⟨W.heap.size,0,none⟩)])/\w'=W.alloc (.cells #[.map mb] 120):=
 AnyZ.keys_in Tryz.keys67 Fence.wide 5 trivial rfl mb W
theorem X1l (m:Nat):AnyZ.SortsIn Tryz.prog Tryz.sorted66_ren Fence.wide m:=
 ⟨λblk off cap ss W J z H=>callsIn_wide.2 (Tryz.slices_Sort_string blk off cap ss W J z H),λp cap W=>callsIn_wide.2 (Tryz.slices_Sort_string_none p cap W)⟩
theorem Xp9 {H:Type}(b nn:Nat)(D0:DataW H)(R:Value->Option (DataW H×List MemPlace))(w:World)(hown:w.ownsMap Tryz.prog 9 R b nn D0)(hmax:Maps.size D0<=maxLen)(hbytes:Maps.size D0*16<=140737488355328) :
  CallsIn Fence.wide 5 Tryz.prog 66 #[.func (.func 133) #[] #[.pointer (some ⟨w.heap.size,0,none⟩)]] (w.alloc (.cells #[.map (some b)] 120)) λe w'=>∃(v:Value) (ss:List (List UInt8)),e=.returned v/\ss.Perm (strKeys D0)/\
   w'.ownsRow (w.alloc (.cells #[.map (some b)] 120)).heap.size 9 1 v ss.length ((ss.mergeSort (λx y=>decide (x<=y))).map encStr)/\(v=.slice none 0 0↔ss=[])/\Go.RowKit.Below (w.alloc (.cells #[.map (some b)] 120)).heap.size (w.alloc (.cells #[.map (some b)] 120)) w':=by
 have O:=hown.lt;have J:SeqGives Fence.wide 2 Tryz.prog 133 #[.pointer (some ⟨w.heap.size,0,none⟩)] encStr (λss=>ss.Perm (strKeys D0)) (Maps.size D0) (w.alloc (.cells #[.map (some b)] 120)):=
  AnyZ.keys_gives (ρ:=Tryz.keys67_ren) { Tryz.keys67 with } Fence.wide _ trivial rfl Fb w.heap.size b nn D0 _ F5 F5 (by
   obtain⟨es,z,hb,Z,hs,Y⟩:=hown;exact⟨es,z,(Go.RowKit.Below.heap_alloc _ _ b O).trans hb,Z,hs,Y⟩)
 exact AnyZ.sorted_in Tryz.sorted66 Fence.wide 5 trivial trivial trivial trivial rfl Fb (X1l _) (enters_of Tryz.func132 Fe rfl) 133 #[.pointer (some ⟨w.heap.size,0,none⟩)] trivial (enters_of Tryz.func133 Fe rfl) _ _ hmax hbytes _ J
theorem Xw4 {α:Type}{av:α->Value}{w:World}{b:Nat}{l:List (Fh×α)}(h:Gl Tryz.prog 9 S av w b l)(hl:∀p∈l,p.1.length<=maxLen):∃D:DataW α,w.ownsMap Tryz.prog 9 (rdBy av) b l.length D/\Maps.size D=l.length/\(l.map (·.1)).Perm (strKeys D):=by
 obtain⟨h0,D,h1,h2,h3⟩:=h;have hk:Tryz.prog.underlying 9=some .string:=by kernel_rfl
 have K:=Go.Maps.string_keyed hk;refine⟨D,h1,h2,?_⟩;obtain⟨es,hD,ha,_⟩:=h1.entries K;obtain⟨hc,Z,Y⟩:=h1.keysOf;obtain rfl:es=hc:=by rw[hD]at Z;simpa using Z
 subst hD;refine perm_strKeys ha (λp H=>by obtain⟨v,hv⟩:=Y p H;obtain⟨x,_,J,_⟩:=Maps.keyOf_str hk hv;exact⟨x,J⟩) h0 (λx=>?_)
 by_cases J:x.length<=maxLen
 ·have O:keyOf Tryz.prog 9 (S x)=some (.string x):=WideMaps.keyOf_string_mk hk (s:=⟨⟨x⟩⟩) J
  cases e:lk l x with
  | none=>
   have:=Maps.has_false_of_atKey (D:=.map es) (k:=.string x) λz=>by rw[h3 x _ O z,e];rfl
   rw[this];exact⟨λhm=>absurd hm (M5.1 e),λhm=>by cases hm⟩
  | some a=>
   have:=Maps.has_true_of_atKey (D:=.map es) (k:=.string x) (y:=.held a) λz=>by rw[h3 x _ O z,e];rfl
   rw[this];exact⟨λ_=>rfl,λ_=>Ay.2 ⟨_,Tc e,rfl⟩⟩
 ·constructor
  ·intro hm;obtain⟨p,H,rfl⟩:=Ay.1 hm;exact absurd (hl p H) J
  ·intro hm;have h5:x∈strKeys (.map es:DataW α):=by
    unfold Go.Maps.has at hm;show x∈es.map λp=>strOf p.1;obtain⟨p,H,hs⟩:=B7.1 hm;obtain⟨y,hy⟩:∃y,p.1=.string y:=by obtain⟨v,hv⟩:=Y p H;obtain⟨y,_,hy,_⟩:=Maps.keyOf_str hk hv;exact⟨y,hy⟩
    refine Ay.2 ⟨p,H,?_⟩;rw[hy]at hs ⊢;simpa [Lit.sameKey,strOf]using hs
   exact absurd (strKeys_le h1 hk x h5) J
theorem Yah (mf:Nat)(w:World):Calls Tryz.prog 67 [.map (some mf)].toArray w (GX w (λu w'=>u=Js 133 [Fg w.heap.size 0]/\w'=w.alloc (.cells #[.map (some mf)] 120))):=by
 refine(callsIn_wide.1 (keys_in (some mf) w)).mono ?_;rintro e w' ⟨rfl,rfl⟩;exact⟨_,rfl,Fp.alloc _ _,rfl,rfl⟩
theorem Xw5 (mf:Nat)(l:List (Fh×Option Nat))(w:World)(h:Gl Tryz.prog 9 S pO w mf l)(hl:∀p∈l,p.1.length<=maxLen)(hn:l.length<=1000000) :
  Calls Tryz.prog 66 [Js 133 [Fg w.heap.size 0]].toArray (w.alloc (.cells #[.map (some mf)] 120)) (GX (w.alloc (.cells #[.map (some mf)] 120)) (λu w'=>Vc.Own G8 1 9 w.heap.size w' u ((l.map (·.1)).mergeSort (λx y=>decide (x<=y))))):=by
 obtain⟨D,h1,h2,h3⟩:=Xw4 h hl;refine(callsIn_wide.1 (Xp9 mf l.length D (rdBy pO) w h1 (by rw[h2];unfold maxLen;omega) (by rw[h2];omega))).mono ?_;rintro e w' ⟨v,ss,rfl,hS,hrow,_,hb⟩;refine⟨v,rfl,Fp.of_below hb,⟨?_⟩⟩;have e1:ss.mergeSort (λx y=>decide (x<=y))=(l.map (·.1)).mergeSort (λx y=>decide (x<=y)):=mergeSort_of_perm (hS.trans h3.symm);rw[e1]at hrow;have e2:ss.length=((l.map (·.1)).mergeSort (λx y=>decide (x<=y))).length:=by rw[<-e1,E8]
 have z:((l.map (·.1)).mergeSort (λx y=>decide (x<=y))).flatMap G8=((l.map (·.1)).mergeSort (λx y=>decide (x<=y))).map encStr:=by
  generalize (l.map (·.1)).mergeSort (λx y=>decide (x<=y))=q
  induction q with
  | nil=>rfl
  | cons a r ih=>rw[AF,Am,ih];rfl
 rw[z,<-e2];exact ownsRow_base_a hrow F5
theorem Jz (F:Nat->Prop)(bd:Nat)(D:Dsk)(w:World)(h:G6 F bd D w) :
  Gf 28 [Fg bd 0] w λu w'=>Vc.Own G8 1 9 w.heap.size w' u D.names:=by
 refine cE Tryz.func28 λz=>?_;obtain⟨mf,es,H⟩:=h;have hd:=H.m;have hM:=H.map;refine go ?_;refine dp (GS Fe rfl rfl) ?_;refine Fk (λO=>?_) λO=>?_
 ·exact absurd O F5
 refine Ge (Yah mf _) λu1 w1 Y J=>?_;have hsz1:=z.size;have z:=z.trans Y;obtain⟨rfl,rfl⟩:=J;refine cG (Xw5 mf (es.map Fm.kv) _ hM (λp Z=>by obtain⟨e,he,rfl⟩:=Ay.1 Z;have:=(H.name he).2;unfold maxLen;simp only;omega) (by have:=H.len;rw[Aw];omega)) RX.all λu2 w2 x2 hO=>?_;have hsz2:=z.size;have z:=z.trans x2;refine go ?_;refine⟨_,rfl,z,?_⟩;rw[show D.names=((es.map Fm.kv).map (·.1)).mergeSort (λx y=>decide (x<=y)) by unfold Dsk.names;rw[H.fs,Bx,Bx];rfl];exact hO
theorem Xl5 {a b:Fh}(h:(⟨⟨a⟩⟩:ByteArray)=⟨⟨b⟩⟩):a=b:=by simpa using h
theorem Xt0 (l:List Fh)(s:Fh)(v:Value)(w:World)(hv:Fs G8 1 w v l)(hl:l.length<=1000000):Calls Tryz.prog 130 [v,S s].toArray w (Vc.Pure w (B (decide (s∈l)))):=by
 have none:l.length=0->∀a c,v=.slice a 0 c->Calls Tryz.prog 130 [v,S s].toArray w (Vc.Pure w (B (decide (s∈l)))):=by
  intro h0 a c e;have hn:l=[]:=Az h0;subst hn;subst e;refine(Tryz.slices_Contains_string_empty a c ⟨⟨s⟩⟩ w).mono ?_;rintro e w' ⟨rfl,rfl⟩;exact⟨by simp,Fp.refl _⟩
 rcases hv.sl with⟨e,h0⟩|⟨b,o,c,e,hc⟩|⟨h0,a,c,e⟩
 ·exact none h0 _ _ e
 ·subst e;refine(Tryz.slices_Contains_string b o l.length c (l.map λx=>(⟨⟨x⟩⟩:ByteArray)) ⟨⟨s⟩⟩ w F5 Fb (λj z=>?_)).mono ?_
  ·rw[Aw]at z;have:=(hv.row (Au z)) 0 _ rfl;simpa [base,List.getD,Au z]using this
  ·rintro e w' ⟨rfl,rfl⟩;refine⟨?_,Fp.refl _⟩
   congr 2
   rw[Dx,Lib.containsS_iff,Ar F5,decide_eq_true_eq,Ay];exact⟨λ⟨x,hx,e⟩=>Xl5 e▸hx,λh=>⟨s,h,rfl⟩⟩
 ·exact none h0 _ _ e
theorem Xw6 (D:Dsk)(s:Fh):decide (s∈D.names)=D.has s:=by
 rw[Dx,decide_eq_true_eq];unfold Dsk.names Dsk.has;rw[(List.mergeSort_perm _ _).mem_iff]
 cases e:lk D.fs s with
 | none=>exact⟨λh=>absurd h (M5.1 e),λh=>by cases h⟩
 | some f=>exact⟨λ_=>rfl,λ_=>Ay.2 ⟨_,Tc e,rfl⟩⟩
variable {D:Dsk}
theorem Xw7 (h:D.Wf):D.names.length<=1000000:=by
 unfold Dsk.names;rw[E8,Aw];have:=h.cnt;omega
variable {r:List Fh}{s:Fh}
theorem X1m (h:D.has s=false):Dsk.rems (s :: r) D=Dsk.rems r D:=by rw[Dsk.rems.eq_def];simp [h]
theorem X1n (h:D.has s=true)(h2:(D.rem [s]).1≠0):Dsk.rems (s :: r) D=D.rem [s]:=by rw[Dsk.rems.eq_def];simp [h,h2]
theorem X64 (h:D.has s=true)(h2:(D.rem [s]).1=0):Dsk.rems (s :: r) D=Dsk.rems r (D.rem [s]).2:=by rw[Dsk.rems.eq_def];simp [h,h2]
theorem KG (F:Nat->Prop)(bd:Nat)(D:Dsk)(s:Fh)(w:World)(h:G6 F bd D w) :
  FW 189 [Fg bd 0,S s] w (B (D.has s)):=by
 refine cE Tryz.func189 λz=>Ge (Jz F bd D _ (h.ext z)) λu1 w1 J O=>?_;have hsz1:=z.size;have z:=z.trans J;refine Gp (Xt0 D.names s _ _ (O.arr Ff) (Xw7 h.wf)) λw2 H=>?_;have z:=z.trans H;refine go ?_;exact⟨by rw[Xw6],z⟩
theorem Iz (F:Nat->Prop)(bd:Nat)(D:Dsk)(l:List Fh)(v:Value)(w:World)(h:G6 F bd D w)(hv:Fs G8 1 w v l)(hl:l.length<=100000)(hdv:l≠[]->¬ F (base v).1) :
  Gy 178 [Fg bd 0,v] w F λu w'=>u=I (Dsk.rems l D).1/\G6 (FSq F w w') bd ((Dsk.rems l D).2) w':=by
 refine cM Tryz.func178 F λz=>?_;have H:=h.lt;refine FL 9 1 (hv.mod z hdv).sl ?_;refine F9 (G:=Nat×(Nat->Prop)×Dsk) (λ(k,Fc,Dc)=>[(0,Fg bd 0),(8,v),(9,I ↑l.length),(10,I ↑k)]) (λ(k,Fc,Dc) w'=>Mod F w w'/\k<=l.length/\G6 Fc bd Dc w'/\(∀i,Fc i->F i\/w.heap.size<=i)/\Dsk.rems l D=Dsk.rems (l.drop k) Dc) (λ(k,Fc,Dc)=>l.length-k) (0,F,D) ⟨z,Ab _,h,λ_ h=>.inl h,rfl⟩ ?_;rintro _ ⟨k,Fc,Dc⟩ w1 ⟨z,hk1,hA,hsub,hev⟩;have hszk:=z.size;refine Fk (λc1=>?_) λc1=>?_
 ·obtain⟨s,hk⟩:∃s,l[k]?=some s:=F8;have J:=IW hk;refine go ?_;refine di 9 1 (hv.mod z hdv).sl rfl ((hv.mod z hdv).lt hk) (dl rfl (((hv.mod z hdv).row hk).at0 rfl) (Gp (KG Fc bd Dc s _ hA) λw2 x2=>Fz x2 hA z λhA z=>?_));refine FZ (λZ=>?_) λZ=>?_
  ·refine go ?_;refine FJ (k+1,Fc,Dc) ⟨z,by omega,hA,hsub,?_⟩;rw[hev,J,X1m (by simpa using Z)]
  have hh:Dc.has s=true:=by simpa using Z
  refine go ?_;have Y:=hA;refine go ?_;refine li (e:=9) (sz:=1) (zs:=[S []]) (pv:=[(0,_)]) (cs:=[_]) RX.all (λb1 w3 e1 x3 m1=>?_);have g1:=z.ge e1;refine Fz x3 hA z λhA z=>cD (RD Fc bd Dc [s] _ _ hA (LU m1) F5 (λ_=>Py Y (Ch e1.symm))) (.inl rfl) λu4 w4 x4 O=>?_;have hsz4:=z.size;have z:=z.own x4 (λi hi hlt=>(hsub i hi).resolve_right Fb);obtain⟨rfl,hA⟩:=O;refine Fk (λc3=>?_) λc3=>?_
  ·refine go ?_;refine⟨_,rfl,z,?_⟩;rw[hev,J,X1n hh c3];exact⟨rfl,hA.to (λi hi=>hi.elim (hsub i) (λh9=>.inr Fb)) (λk hk=>Ax (H k hk) z.size)⟩
  refine go ?_;refine⟨(k+1,_,(Dc.rem [s]).2),He,⟨z,by omega,hA,λi hi=>hi.elim (hsub i) (λh9=>.inr Fb),?_⟩,by simp only [];omega⟩;rw[hev,J,X64 hh (AE c3)]
 refine go ?_;refine⟨_,rfl,z,?_⟩;rw[hev,BD Fb];exact⟨rfl,hA.to hsub (λk hk=>Ax (H k hk) z.size)⟩
end Go.Proofs.YtiooodckiddpmaaGreatDoor

namespace Go.Proofs.YtiooodckiddpmaaGreatDoor
open Go.Vc Go.Sp
attribute [local irreducible] W XW Dw G9
@[reducible] def J1 (v:Value):List Value:=[v]
@[reducible] def nz (l:Fh) (v:Value) (k:Nat):Prop:=l≠[]/\k=(base v).1
@[reducible] def Mm (vd:Value) (vs:List (Value×Fh)) (data:Fh) (k:Nat):Prop:=nz data vd k\/∃q∈vs,nz q.2 q.1 k
structure LedE (G:Nat->Prop)(bl bd:Nat)(vd ve:Value)(vs:List (Value×Fh))(L:Led)(w:World):Prop where
 m:Fo w bl [Fg bd 0,S [115],I L.base,vd,ve,B L.dead] 147
 d:Fs Fq 1 w vd L.data
 e:Vc.Own J1 1 82 0 w ve (vs.map (·.1))
 es:vs.map (·.2)=L.ents
 el:∀q∈vs,Fs Fq 1 w q.1 q.2
 inG:∀k,(k=bl\/ve.ownBlock=some k\/Mm vd vs L.data k)->G k
 sep:∀k,Mm vd vs L.data k->k≠bl/\ve.ownBlock≠some k
 lt:∀k,G k->k<w.heap.size
 b0:0<=L.base
 b1:L.base<=1099511627776
 dl:L.data.length<=524288
 pl:∀p∈L.ents,p.length<=65536
 la:L.last<=1099511627776
section
variable {G Sx:Nat->Prop}{bl bd:Nat}{vd ve:Value}{vs:List (Value×Fh)}{L:Led}{w w':World}
theorem LedE.mod (h:LedE G bl bd vd ve vs L w)(m:Vc.Mod Sx w w')(hS:∀k,G k->¬ Sx k):LedE G bl bd vd ve vs L w':=
 ⟨h.m.mod m (hS _ (h.inG _ (.inl rfl))),h.d.mod m (λz=>hS _ (h.inG _ (.inr (.inr (.inl ⟨z,rfl⟩))))),h.e.mod m (λk hk=>hS _ (h.inG _ (.inr (.inl hk)))),h.es,λq H=>(h.el q H).mod m (λz=>hS _ (h.inG _ (.inr (.inr (.inr ⟨q,H,z,rfl⟩))))),
  h.inG,h.sep,λk hk=>Ax (h.lt k hk) m.size,h.b0,h.b1,h.dl,h.pl,h.la⟩
theorem LedE.ext (h:LedE G bl bd vd ve vs L w)(m:Fp w w'):LedE G bl bd vd ve vs L w':=h.mod m (λ_ _ h=>h)
instance : Up w w' (LedE G bl bd vd ve vs L w) (LedE G bl bd vd ve vs L w'):=⟨λx h=>LedE.ext h x⟩
theorem LedE.len (h:LedE G bl bd vd ve vs L w):vs.length=L.ents.length:=by rw[<-h.es,Aw]
theorem LedE.lenB (h:LedE G bl bd vd ve vs L w):L.ents.length<=1099511627776:=by have h1:=h.la;have h2:=h.b0;unfold Led.last at h1;omega
theorem LedE.earr (h:LedE G bl bd vd ve vs L w):Fs J1 1 w ve (vs.map (·.1)):=h.e.arr Ff
theorem LedE.head {L':Led}(h:LedE G bl bd vd ve vs L w)(m:Vc.Mod (Fu bl) w w')(hm:Fo w' bl [Fg bd 0,S [115],I L'.base,vd,ve,B L'.dead] 147)(hb:L'.base=L.base)(hd:L'.data=L.data)(he:L'.ents=L.ents):LedE G bl bd vd ve vs L' w':=by
 have z:=h.e.ne_blk h.m rfl;refine⟨hm,by rw[hd];exact h.d.mod m (λH e=>(h.sep _ (.inl ⟨H,rfl⟩)).1 e),h.e.mod m (λk hk e=>z (by have e2:k=bl:=e;rw[hk,e2])),h.es.trans he.symm,λq J=>(h.el q J).mod m (λH e=>(h.sep _ (.inr ⟨q,J,H,rfl⟩)).1 e),
  by rw[hd];exact h.inG,by rw[hd];exact h.sep,λk hk=>Ax (h.lt k hk) m.size,hb▸h.b0,hb▸h.b1,hd▸h.dl,he▸h.pl,by unfold Led.last;rw[hb,he];exact h.la⟩
end
def LD (H:Nat->Prop)(bl bd:Nat)(L:Led)(D:Dsk)(w:World):Prop:=∃(F G:Nat->Prop) (vd ve:Value) (vs:List (Value×Fh)),G6 F bd D w/\LedE G bl bd vd ve vs L w/\(∀k,F k->¬ G k)/\(∀k,F k\/G k->H k)/\∀k,H k->k<w.heap.size
variable {D:Dsk}{H Sx:Nat->Prop}{L:Led}{bd:Nat}{w w':World}
theorem LD.mod {bl:Nat}(h:LD H bl bd L D w)(m:Vc.Mod Sx w w')(hS:∀k,H k->¬ Sx k):LD H bl bd L D w':=by
 obtain⟨F,G,vd,ve,vs,h1,h2,h3,h4,z⟩:=h;exact⟨F,G,vd,ve,vs,h1.mod m (λk hk=>hS k (h4 k (.inl hk))),h2.mod m (λk hk=>hS k (h4 k (.inr hk))),h3,h4,λk hk=>Ax (z k hk) m.size⟩
theorem LD.ext {bl:Nat}(h:LD H bl bd L D w)(m:Fp w w'):LD H bl bd L D w':=h.mod m (λ_ _ h=>h)
instance {H : Nat->Prop} {bl bd:Nat} {L:Led} {D:Dsk} {w w':World} : Up w w' (LD H bl bd L D w) (LD H bl bd L D w'):=⟨λx h=>LD.ext h x⟩
theorem LD.lt {bl:Nat}(h:LD H bl bd L D w):∀k,H k->k<w.heap.size:=by obtain⟨_,_,_,_,_,_,_,_,_,z⟩:=h;exact z
theorem LD.wide {H':Nat->Prop}{bl:Nat}(h:LD H bl bd L D w)(hG:∀k,H k->H' k)(hl:∀k,H' k->k<w.heap.size):LD H' bl bd L D w:=by
 obtain⟨F,G,vd,ve,vs,h1,h2,h3,h4,h5⟩:=h;exact⟨F,G,vd,ve,vs,h1,h2,h3,λk hk=>hG k (h4 k hk),hl⟩
theorem LD.grow {bl:Nat}(h:LD H bl bd L D w)(x:Fp w w'):LD (FSq H w w') bl bd L D w':=(h.ext x).wide (λ_ h=>.inl h) (Jk h.lt x.size)
theorem HD (G:Nat->Prop)(bl bd:Nat)(vd ve:Value)(vs:List (Value×Fh))(L:Led)(w:World)(h:LedE G bl bd vd ve vs L w) :
  FW 177 [Fg bl 0] w (S Led.img):=by
 refine cE Tryz.func177 λz=>?_;have hl:=h.m;refine go ?_;refine dp (Iu rfl rfl (by simp;done)) (go ?_);exact⟨rfl,z⟩
theorem GR (G:Nat->Prop)(bl bd:Nat)(vd ve:Value)(vs:List (Value×Fh))(L:Led)(w:World)(h:LedE G bl bd vd ve vs L w) :
  FW 84 [Fg bl 0] w (S Led.logn):=by
 refine cE Tryz.func84 λz=>?_;have hl:=h.m;refine go ?_;refine dp (Iu rfl rfl (by simp;done)) (go ?_);exact⟨rfl,z⟩
theorem H5 (G:Nat->Prop)(bl bd:Nat)(vd ve:Value)(vs:List (Value×Fh))(L:Led)(w:World)(h:LedE G bl bd vd ve vs L w) :
  FW 55 [Fg bl 0] w (I L.last):=by
 refine cE Tryz.func55 λz=>?_;have Y:=h.m;have hlb:=h.lenB;have hb1:=h.b1;have hb0:=h.b0;have J:=h.len;refine go ?_;refine dp (GS Fe rfl rfl) ?_;refine Fk (λO=>?_) λO=>?_
 ·exact absurd O F5
 refine Gn 100010001000 λw1 Z=>?_;have z:=z.trans Z;refine go ?_;refine dL rfl (λ_ hR=>((Y.ext (z.trans hR)).at rfl)) (go ?_);refine dL rfl (λ_ hR=>((Y.ext (z.trans hR)).at rfl)) (dv 82 1 (h.earr.ext z).sl (dp (GJ rfl rfl (by unfold Fx;simp;omega)) (go ?_)));exact⟨by unfold Led.last;rw[<-J];simp,z⟩
theorem X4i (G:Nat->Prop)(bl bd:Nat)(vd ve:Value)(vs:List (Value×Fh))(L:Led)(e:Int)(w:World)(h:LedE G bl bd vd ve vs L w) :
  Gy 86 [Fg bl 0,I e] w (Fu bl) λu w'=>u=I e/\LedE G bl bd vd ve vs { L with dead:=L.dead || decide (e≠0) } w':=by
 refine cE Tryz.func86 λz=>?_;have J:=h.m;refine go ?_;refine Il 10 rfl (λO=>?_) (λO=>?_)
 ·refine go ?_;refine HG J (λw1 Z xs1 J=>?_);have z:=(z.mod Z).mono (λi hi _=>(hi:(Fu bl) i));refine go ?_;refine⟨_,rfl,z,rfl,h.head z ?_ rfl rfl rfl⟩;simpa [O]using J
 refine go ?_;refine HG J (λw2 Y xs2 J=>?_);have z:=(z.mod Y).mono (λi hi _=>(hi:(Fu bl) i));refine go ?_;refine⟨_,rfl,z,rfl,h.head z ?_ rfl rfl rfl⟩;simpa [O]using J
variable {p:Fh}
theorem XZ (h:L.dead=true):L.append D p=(0,9,L,D):=by unfold Led.append;rw[if_pos h]
theorem SA (h:L.dead=false)(h2:65536<p.length\/1099511627776<=L.last):L.append D p=(0,5,L,D):=by unfold Led.append;rw[if_neg (by rw[h];decide),if_pos h2]
def IV (L:Led)(D:Dsk)(p:Fh):Int×Dsk:=if(D.app Led.logn (F7 (Led.ent (L.last+1) p))).1=0 then(D.app Led.logn (F7 (Led.ent (L.last+1) p))).2.sync [Led.logn]else D.app Led.logn (F7 (Led.ent (L.last+1) p))
theorem Wc (h:L.dead=false)(h2:¬ (65536<p.length\/1099511627776<=L.last))(h3:(IV L D p).1≠0):L.append D p=(0,(IV L D p).1,{ L with dead:=true },(IV L D p).2):=by unfold Led.append;rw[if_neg (by rw[h];decide),if_neg h2];exact if_pos h3
theorem Tq (h:L.dead=false)(h2:¬ (65536<p.length\/1099511627776<=L.last))(h3:¬ (IV L D p).1≠0):L.append D p=(L.last+1,0,{ L with ents:=L.ents++[p] },(IV L D p).2):=by unfold Led.append;rw[if_neg (by rw[h];decide),if_neg h2];exact if_neg h3
variable {bw:Nat}
theorem Wr.lt {B:Nat}{v:Value}{l:Fh}(h:Wr B bw v l w):∀k,HR bw v k->k<w.heap.size:=λk hk=>hk.elim (λe=>e▸h.m.lt) (λe=>(h.o.lt k e).2)
variable {k:Nat}
theorem Wr.ge {B:Nat}{v:Value}{l:Fh}(h:Wr B bw v l w)(hb:B<=bw)(hk:HR bw v k):B<=k:=hk.elim (λe=>e▸hb) (λe=>(h.o.lt k e).1)
theorem P6 (i:Int)(p:Fh):(Led.ent i p).length<=p.length+20:=by
 unfold Led.ent FA;have h1:=Gq i.toNat;have h2:=Gq p.length;simp only [Ad];omega
theorem WD {i:Int}(h0:0<=i)(h1:i<=1099511627777):[i].flatMap G4++[p].flatMap FA=Led.ent i p:=by
 simp [Led.ent,G4,HC]
 congr 1;omega
theorem LedE.add {G:Nat->Prop}{bl:Nat}{vd ve ve2 vp:Value}{vs:List (Value×Fh)}{w0:World}(h:LedE G bl bd vd ve vs L w)(J:L.last<1099511627776)(hp:p.length<=65536)(hd:L.dead=false)(hw0:w0.heap.size<=w.heap.size)(h0:∀k,G k->k<w0.heap.size)(m:Vc.Mod Sx w w')(hS:∀k,Sx k->k=bl\/ve.ownBlock=some k\/w.heap.size<=k)(hm:Fo w' bl [Fg bd 0,S [115],I L.base,vd,ve2,B L.dead] 147)(he:Vc.Own J1 1 82 0 w' ve2 (vs.map (·.1)++[vp]))(hv:ve2.ownBlock=ve.ownBlock\/∀k,ve2.ownBlock=some k->w0.heap.size<=k)(ha:Fs Fq 1 w' vp p)(hf:p≠[]->w0.heap.size<=(base vp).1)(hu:p≠[]->ve2.ownBlock≠some (base vp).1):LedE (FSq G w0 w') bl bd vd ve2 (vs++[(vp,p)]) { L with ents:=L.ents++[p] } w':=by
 have hn:∀k,Mm vd vs L.data k->¬ Sx k:=λk hk hs=>by
  have h1:=h.sep k hk;have h2:=h.lt k (h.inG k (.inr (.inr hk)));rcases hS k hs with e|e|e
  ·exact h1.1 e
  ·exact h1.2 e
  ·omega
 refine⟨hm,h.d.mod m (λJ=>hn _ (.inl ⟨J,rfl⟩)),by rw[A6];exact he,by rw[A6,h.es];rfl,λq z=>?_,λk hk=>?_,λk hk=>?_,Jk h0 (Ae hw0 m.size),h.b0,h.b1,h.dl,λq z=>?_,?_⟩
 ·rcases Ak.1 z with z|z
  ·exact(h.el q z).mod m (λJ=>hn _ (.inr ⟨q,z,J,rfl⟩))
  ·rw[Af.1 z];exact ha
 ·rcases hk with rfl|hk|hk|⟨q,z,hk⟩
  ·exact .inl (h.inG _ (.inl rfl))
  ·rcases hv with e|e
   ·exact .inl (h.inG _ (.inr (.inl (e▸hk))))
   ·exact .inr ⟨e k hk,(he.lt k hk).2⟩
  ·exact .inl (h.inG _ (.inr (.inr (.inl hk))))
  ·rcases Ak.1 z with z|z
   ·exact .inl (h.inG _ (.inr (.inr (.inr ⟨q,z,hk⟩))))
   ·rw[Af.1 z]at hk;obtain⟨J,rfl⟩:=hk;exact .inr ⟨hf J,ha.base_lt Fj J⟩
 ·have old:Mm vd vs L.data k->k≠bl/\ve2.ownBlock≠some k:=λhk=>⟨(h.sep k hk).1,λe=>by
   rcases hv with e2|e2
   ·exact(h.sep k hk).2 (e2▸e)
   ·have h1:=e2 k e;have h2:=h0 k (h.inG k (.inr (.inr hk)));omega⟩
  rcases hk with hk|⟨q,z,hk⟩
  ·exact old (.inl hk)
  ·rcases Ak.1 z with z|z
   ·exact old (.inr ⟨q,z,hk⟩)
   ·rw[Af.1 z]at hk;obtain⟨J,rfl⟩:=hk;refine⟨λe=>?_,hu J⟩;have h1:=hf J;have h2:=h0 bl (h.inG bl (.inl rfl));rw[e]at h1;omega
 ·rcases Ak.1 z with z|z
  ·exact h.pl q z
  ·rw[Af.1 z];exact hp
 ·unfold Led.last at J ⊢;simp only [Ad,Db];omega
theorem X1o (H:Nat->Prop)(bl bd:Nat)(L:Led)(D:Dsk)(p:Fh)(vp:Value)(w:World)(h:LD H bl bd L D w)(hp:Fs Fq 1 w vp p)(hpl:p.length<=1000000)(hcnt:L.ents.length<=1000000)(hpH:p≠[]->¬ H (base vp).1) :
  Gy 40 [Fg bl 0,vp] w H λu w'=>u=.tuple #[I (L.append D p).1,I (L.append D p).2.1]/\LD (FSq H w w') bl bd (L.append D p).2.2.1 (L.append D p).2.2.2 w':=by
 refine cE Tryz.func40 λz=>?_;have xi:=h;obtain⟨F,G,vd,ve,vs,hA,J,hf,hc,hh⟩:=h;have O:=J.m;have hla:=J.la;have hb0:=J.b0;have hl0:0<=L.last:=by unfold Led.last;omega
 have ha:=J.lt;have hblt:=O.lt;have yi:=Gq (HC (L.last+1));have hbl1:([L.last+1].flatMap G4).length<=10:=by simpa [G4]using yi
 have helen:=P6 (L.last+1) p;refine go ?_;refine dp (GS Fe rfl rfl) ?_;refine Fk (λc1=>?_) λc1=>?_
 ·exact absurd c1 F5
 refine FZ (λc2=>?_) λc2=>?_
 ·refine go ?_;rw[XZ c2];exact⟨_,rfl,z.mono (λ_ h _=>h.elim),rfl,xi.grow z⟩
 refine FL 5 1 hp.sl ?_;refine ds1 21 (λc3=>?_) λc3=>?_
 ·refine go ?_;refine GD rfl (go ?_);rw[SA c2 Fb];exact⟨_,rfl,z.mono (λ_ h _=>h.elim),rfl,xi.grow z⟩
 refine Gp (H5 G bl bd vd ve vs L _ J) λw1 x1=>FP x1 O J hA z λO J hA z=>?_;refine dp (HW rfl rfl) ?_;refine Fk (λc4=>?_) λc4=>?_
 ·refine go ?_;rw[SA c2 Fb];exact⟨_,rfl,z.mono (λ_ h _=>h.elim),rfl,xi.grow z⟩
 have xv:¬ (65536<p.length\/1099511627776<=L.last):=by omega
 refine go ?_;refine aL [.slice none 0 0] λb1 w2 e1 x2 m1=>?_;have g1:=z.ge e1;have a1_hl:=O.lt;have a1_hE:=J.lt;have a1_hA:=hA.lt;refine FP x2 O J hA z λO J hA z=>Gp (H5 G bl bd vd ve vs L _ J) λw3 x3=>FV x3 O J hA m1 z λO J hA m1 z=>?_;refine go ?_;refine li (e:=3) (sz:=1) (zs:=[.int .i64 0]) (pv:=[(0,_)]) (cs:=[_]) RX.all (λb2 w4 e2 x4 m2=>?_);have g2:=z.ge e2;have n2_1:=m1.ltb e2;have a2_hl:=O.lt;have a2_hE:=J.lt;have a2_hA:=hA.lt;refine FV x4 O J hA m1 z λO J hA m1 z=>?_;have Y:Wr w.heap.size b1 (.slice none 0 0) [] w4:=⟨m1,Vc.Own.nil⟩;refine cD (KT w.heap.size b1 (.slice none 0 0) [] [L.last+1] (.slice (some ⟨b2,0,none⟩) 1 1) _ Y F5 z.size (m2.arr (enc:=Vc.encI) (sz:=1) (l:=[L.last+1]) rfl Ff rfl F5) F5 (λk hk _ e=>hk.elim (λh=>by have e2:b2=k:=e;omega) (λh=>by cases h))) (.inl rfl) λu5 w5 x5 yb=>?_;have hsz5:=z.size;have O:=O.mod x5 (λh=>by have h8:=Y.ge g1 h;omega);have J:=J.mod x5 (λk hk h=>by have h9:=ha k hk;have h8:=Y.ge g1 h;omega);have hA:=hA.mod x5 (λk hk h=>by have h9:=hh k (hc k (.inl hk));have h8:=Y.ge g1 h;omega);have z:=z.own x5 (λi hi=>Y.ge g1 hi);obtain⟨rfl,v2,Y,hg2⟩:=yb;refine go ?_;refine Io (e:=82) (sz:=1) (zs:=[.slice none 0 0]) (pv:=[(0,?a26_0)]) (cs:=[?a26_0]) rfl Fe ⟨rfl,rfl⟩ Fe rfl ?h26 ?f26 RX.all (λb3 w6 e3 x6 m3=>?k26)
 case h26=>refine⟨rfl,?_,trivial⟩<;>(conv=>lhs;whnf)
 case f26=>simp [Hm,Gr,An,hp.sl.cells]
 have g3:=z.ge e3;have a3_hl:=O.lt;have a3_hE:=J.lt;have a3_hA:=hA.lt;have ht:=Y.lt;refine FV x6 O J hA Y z λO J hA Y z=>cD (Mb w.heap.size b1 v2 _ [(vp,p)] (.slice (some ⟨b3,0,none⟩) 1 1) _ Y (by rw[AB];omega) z.size (Lf m3) (λq h=>by rw[Af.1 h];exact hp.ext z) (λq h=>by rw[Af.1 h];exact hpl) F5 (λ_ h=>A4 b3 (AD (ht _ h) e3.symm)) (λq h O h2=>by rw[Af.1 h]at O h2;have h8:=hp.base_lt Fj O;have h7:=Y.ge g1 h2;exact absurd (Ax h8 h7) (A4 _))) (.inl rfl) λu7 w7 x7 yj=>?_;have hsz7:=z.size;have O:=O.mod x7 (λh=>by have h8:=Y.ge g1 h;omega);have J:=J.mod x7 (λk hk h=>by have h9:=ha k hk;have h8:=Y.ge g1 h;omega);have hA:=hA.mod x7 (λk hk h=>by have h9:=hh k (hc k (.inl hk));have h8:=Y.ge g1 h;omega);have z:=z.own x7 (λi hi=>Y.ge g1 hi);obtain⟨rfl,v3,Y,hg3⟩:=yj;refine Ge (Od w.heap.size b1 v3 _ _ Y (by simp only [AB,Ad,Am,Bf,AF,Ci,AH,FA,G4]at *;have h5:=Gq p.length;omega)) λvo w8 x8 hB=>?_;have hsz8:=z.size;refine FP x8 O J hA z λO J hA z=>?_;rw[show([]++[L.last+1].flatMap G4)++BO FA ([(vp,p)].map (λq:Value×Fh=>q.2))=Led.ent (L.last+1) p by rw[AB];exact WD Fb Fb]at hB;refine Io (e:=82) (sz:=1) (zs:=[.slice none 0 0]) (pv:=[(0,?a27_0)]) (cs:=[?a27_0]) rfl Fe ⟨rfl,rfl⟩ Fe rfl ?h27 ?f27 RX.all (λb4 w9 e4 x9 m4=>?k27)
 case h27=>refine⟨rfl,?_,trivial⟩<;>(conv=>lhs;whnf)
 case f27=>simp [Hm,Gr,An,hB.sl.cells]
 have g4:=z.ge e4;have a4_hl:=O.lt;have a4_hE:=J.lt;have a4_hA:=hA.lt;have o4_hB:=hB.ltb e4;refine FV x9 O J hA hB z λO J hA hB z=>cG (SP (Led.ent (L.last+1) p) vo _ _ (m4.arr (enc:=λx:Value=>[x]) (sz:=1) (l:=[vo]) rfl Ff rfl F5) (hB.arr Ff) Fb) RX.all λu10 w10 ye xw=>?_;have xn:=z.size;refine FP ye O J hA z λO J hA z=>?_;obtain⟨vb,rfl,xx⟩:=xw;have xe:HI (Led.ent (L.last+1) p)=0:=if_neg Fb;have Z:=(xx xe).1;have hBf:=Ae xn (xx xe).2;refine g0 ?_;refine GK (G:=(Nat->Prop)×Dsk×Int) (λ(F1,D1,e1)=>[(0,Fg bl 0),(1,vp),(4,I 0),(5,I 0),(8,I e1)]) (λ(F1,D1,e1) w'=>Mod H w w'/\G6 F1 bd D1 w'/\LedE G bl bd vd ve vs L w'/\(∀k,F1 k->F k\/w.heap.size<=k)/\Fo w' bl [Fg bd 0,S [115],I L.base,vd,ve,B L.dead] 147/\D.app Led.logn (F7 (Led.ent (L.last+1) p))=(e1,D1)) ?_ ?_
 ·refine Fk (λc5=>?_) λc5=>?_
  ·refine Kf (R:=Fp) Fp.refl (λ_ _ _=>Fp.trans) Fe [3] (.one 0 .p false (.one 1 .p false (.one 2 .p false (.one 3 .l false (.one 4 .p false (.one 6 .p false (.fork (.alt 5 false (.one 7 .x false (.one 8 .x true (.one 9 .p false .nil))) (.alt 7 false (.one 5 .x false (.one 8 .x true (.one 9 .p false .nil))) .stop))))))))) Fe Fe (λw11 h6=>?_);have yg:=FC h6;clear h6;refine FV yg O J hA Z z λO J hA Z z=>go ?_;refine IQ ?_;refine Hc ?_ ?_
   ·refine cP (GR G bl bd vd ve vs L _ J) RX.ext λw12 yh=>FV yh O J hA Z z λO J hA Z z=>go ?_;refine Io (e:=82) (sz:=1) (zs:=[.slice none 0 0]) (pv:=[(0,?a35_0)]) (cs:=[?a35_0]) rfl Fe ⟨rfl,rfl⟩ Fe rfl ?h35 ?f35 RX.ext (λb5 w13 e5 yc m5=>?k35)
    case h35=>refine⟨rfl,?_,trivial⟩<;>(conv=>lhs;whnf)
    case f35=>simp [Hm,Gr,An,Z.sl.cells]
    have g5:=z.ge e5;have a5_hl:=O.lt;have a5_hE:=J.lt;have a5_hA:=hA.lt;have a5_hB2:=Fs.base_lt Z Fj;refine FV yc O J hA Z z λO J hA Z z=>Gw (R6 F bd D Led.logn [(vb,F7 (Led.ent (L.last+1) p))] _ _ hA (Lf m5) (by intro q h;rw[Af.1 h];exact Z) (by simp [KA];omega) F5) λu14 w14 xj hy=>?_;have xa:=z.size;have O:=O.mod xj (λh=>hf bl h (J.inG bl (.inl rfl)));have J:=J.mod xj (λk hk h=>hf k h hk);have z:=(z.mod xj).mono (λi hi hh=>(hc i (.inl hi):H i));rw[show BO (λq:Value×Fh=>q.2) [(vb,F7 (Led.ent (L.last+1) p))]=F7 (Led.ent (L.last+1) p) by simp]at hy;obtain⟨rfl,hA⟩:=hy;have hq:=xa;refine go ?_;exact⟨(_,_,_),GC,z,hA,J,MU hq,O,rfl⟩
   refine Hc ?_ ?_
   ·refine Io (e:=82) (sz:=1) (zs:=[.slice none 0 0]) (pv:=[(0,?a37_0)]) (cs:=[?a37_0]) rfl Fe ⟨rfl,rfl⟩ Fe rfl ?h37 ?f37 RX.ext (λb6 w15 e6 yo m6=>?k37)
    case h37=>refine⟨rfl,?_,trivial⟩<;>(conv=>lhs;whnf)
    case f37=>simp [Hm,Gr,An,Z.sl.cells]
    have g6:=z.ge e6;have a6_hl:=O.lt;have a6_hE:=J.lt;have a6_hA:=hA.lt;have a6_hB2:=Fs.base_lt Z Fj;refine FV yo O J hA Z z λO J hA Z z=>go ?_;refine cP (GR G bl bd vd ve vs L _ J) RX.ext λw16 ya=>H3 ya O J hA Z m6 z λO J hA Z m6 z=>Gw (R6 F bd D Led.logn [(vb,F7 (Led.ent (L.last+1) p))] _ _ hA (Lf m6) (by intro q h;rw[Af.1 h];exact Z) (by simp [KA];omega) F5) λu17 w17 xf hz=>?_;have xg:=z.size;have O:=O.mod xf (λh=>hf bl h (J.inG bl (.inl rfl)));have J:=J.mod xf (λk hk h=>hf k h hk);have z:=(z.mod xf).mono (λi hi hh=>(hc i (.inl hi):H i));rw[show BO (λq:Value×Fh=>q.2) [(vb,F7 (Led.ent (L.last+1) p))]=F7 (Led.ent (L.last+1) p) by simp]at hz;obtain⟨rfl,hA⟩:=hz;have hq:=xg;refine go ?_;exact⟨(_,_,_),GC,z,hA,J,MU hq,O,rfl⟩
   exact IZ
  exact absurd xe c5
 rintro _ ⟨F1,D1,e1⟩ w18 ⟨z,hA,J,hsub1,O,hR1⟩;have hs1:=z.size;refine GK (G:=(Nat->Prop)×Dsk×Int) (λ(F2,D2,e)=>[(0,Fg bl 0),(1,vp),(4,I 0),(5,I 0),(8,I e)]) (λ(F2,D2,e) w'=>Mod H w w'/\G6 F2 bd D2 w'/\LedE G bl bd vd ve vs L w'/\(∀k,F2 k->F k\/w.heap.size<=k)/\Fo w' bl [Fg bd 0,S [115],I L.base,vd,ve,B L.dead] 147/\IV L D p=(e,D2)) ?_ ?_
 ·refine Fk (λc6=>?_) λc6=>?_
  ·refine wd 1052201000 λw19 yd=>FP yd hA J O z λhA J O z=>go ?_;refine cP (GR G bl bd vd ve vs L _ J) RX.ext λw20 yf=>FP yf hA J O z λhA J O z=>li (e:=9) (sz:=1) (zs:=[S []]) (pv:=[(0,_)]) (cs:=[_]) RX.ext (λb7 w21 e7 yq m7=>?_);have g7:=z.ge e7;have xd:=hA.lt;have a7_hE:=J.lt;have a7_hl:=O.lt;refine FP yq hA J O z λhA J O z=>cD (TZ F1 bd D1 [Led.logn] _ _ hA (LU m7) F5 (λ_ hF=>A4 b7 (AD (xd _ hF) e7.symm))) (.inl rfl) λu22 w22 xm x0=>?_;have hsz22:=z.size;have J:=J.mod xm (λk hk h=>(hsub1 _ h).elim (λh=>hf _ h hk) (λh=>by have h9:=ha _ hk;omega));have O:=O.mod xm (λh=>(hsub1 _ h).elim (λh=>hf _ h (J.inG bl (.inl rfl))) (λh=>by have h9:=ha _ (J.inG bl (.inl rfl));omega));have z:=z.own xm (λi hi hh=>hc i (.inl ((hsub1 i hi).resolve_right Fb)));obtain⟨rfl,hA⟩:=x0;refine go ?_;exact⟨(_,_,_),GC,z,hA,J,λk hk=>hk.elim (hsub1 k) (λh9=>.inr Fb),O,by unfold IV;rw[hR1,if_pos c6]⟩
  refine go ?_;exact⟨(F1,D1,e1),GC,z,hA,J,hsub1,O,by unfold IV;rw[hR1,if_neg c6]⟩
 rintro _ ⟨F2,D2,e⟩ w23 ⟨z,hA,J,hsub,O,hR⟩;have hsw:=z.size;refine Gw (X4i G bl bd vd ve vs L e _ J) λu24 xu xz xy=>?_;have hsz24:=z.size;have hA:=hA.mod xz (λk hk e9=>by have e8:k=bl:=e9;subst e8;exact(hsub _ hk).elim (λh=>hf _ h (J.inG _ (.inl rfl))) (λh=>by have h9:=ha _ (J.inG _ (.inl rfl));omega));have z:=z.own xz (λi hi hh=>(by have e2:i=bl:=hi;rw[e2];exact hc bl (.inr (J.inG bl (.inl rfl)))));obtain⟨rfl,J⟩:=xy;refine Fk (λc7=>?_) λc7=>?_
 ·refine go ?_;have xk:{ L with dead:=L.dead || decide (e≠0) } = { L with dead:=true }:=by rw[c2];simp [c7]
  rw[xk]at J;refine⟨_,rfl,z,?_⟩;rw[Wc c2 xv (by rw[hR];exact c7),hR];exact⟨rfl,F2,G,vd,ve,vs,hA,J,λk hk hg=>(hsub k hk).elim (λh=>hf k h hg) (λh=>by have:=ha k hg;omega),λk hk=>hk.elim (λh=>(hsub k h).elim (λh2=>.inl (hc k (.inl h2))) (λh2=>.inr ⟨h2,hA.lt k h⟩)) (λh=>.inl (hc k (.inr h))),Jk hh z.size⟩
 have yk:e=0:=AE c7;have xk:{ L with dead:=L.dead || decide (e≠0) } = L:=by rw[c2,yk];cases L;simp at c2 ⊢;exact c2
 rw[xk]at J;have O:=J.m;have ho:=J.e;have ym:=hA.lt;have xp:=z.size;refine Gn 1500522010000 λw25 hw=>FP hw hA O ho z λhA O ho z=>?_;refine go ?_;refine cG (Nt p vp _ (hp.mod z hpH) Fb) RX.ext λvc w26 xc hC=>?_;have hsz26:=z.size;refine FP xc hA O ho z λhA O ho z=>?_;refine Io (e:=82) (sz:=1) (zs:=[.slice none 0 0]) (pv:=[(0,?a53_0)]) (cs:=[?a53_0]) rfl Fe ⟨rfl,rfl⟩ Fe rfl ?h53 ?f53 RX.ext (λb8 w27 e8 xl m8=>?k53)
 case h53=>refine⟨rfl,?_,trivial⟩<;>(conv=>lhs;whnf)
 case f53=>simp [Hm,Gr,An,hC.sl.cells]
 have g8:=z.ge e8;have a8_hA:=hA.lt;have a8_hl:=O.lt;have o8_ho:=ho.ltb e8;have o8_hC:=hC.ltb e8;refine FV xl hA O ho hC z λhA O ho hC z=>?_;refine LY (lx:=[vc]) (e:=82) (sz:=1) (by':=24) rfl Fe Fe Ff ho (m8.arr (enc:=J1) (sz:=1) (l:=[vc]) rfl Ff rfl (Nat.le_of_ble_eq_true rfl)) rfl rfl (by intro x yp u hu;rw[Af.1 yp]at hu;rw[Af.1 hu];exact hC.sl.one) (by have:=J.len;simp;omega) Fj (Ab _) (.inl rfl) (λv2 w28 xo hr xb=>?_);have xt:=xb;have yn:=hr;have hA:=hA.mod hr (by exact(λk hk e=>(hsub _ hk).elim (λh=>hf _ h (J.inG k (.inr (.inl e)))) (λh=>by have h9:=ha _ (J.inG k (.inr (.inl e)));omega)));have O:=O.mod hr Fw;have hC:=hC.mod hr (by exact(λk hk e=>hC.ne ho rfl hk e));have z:=z.own hr (λi hi hh=>hc i (.inr (J.inG i (.inr (.inl hi)))));have ho:=xo;have hne2:=ho.ne_blk O rfl;have hne3:=hC.ne_blk O rfl;clear m8;refine go ?_;refine HG O (λyl hj xs29 O=>?_) (hv:=by exact Fv.one ho.sl);have hA:=hA.mod hj (λk hk e9=>by have e8:k=bl:=e9;subst e8;exact(hsub _ hk).elim (λh=>hf _ h (J.inG _ (.inl rfl))) (λh=>by have h9:=ha _ (J.inG _ (.inl rfl));omega));have ho:=ho.mod hj Fw;have hC:=hC.mod hj Fw;have z:=z.own hj (λi hi _=>(by have e2:i=bl:=hi;rw[e2];exact hc bl (.inr (J.inG bl (.inl rfl)))));refine go ?_;have mB:=((Fp.mod ((hw.trans xc).trans xl) yn).mono (λk hk _=>(.inl hk:ve.ownBlock=some k\/k=bl))).own hj (λk hk _=>.inr hk);have xr:=Ae hw.size (Ae xc.size xl.size);have xq:=J.add (w0:=xu) (p:=p) Fb Fb c2 (Aa _) J.lt mB (λk hk=>hk.elim (λh=>.inr (.inl h)) .inl) O ho (xt.imp id (λe2 k hk=>by rw[e2]at hk;cases hk;exact xr)) (hC.arr Ff) (λhn=>Ae hw.size (hC.base_ge hn).1) (λhn e=>hC.ne ho rfl (hC.base_block hn) e);refine cP (H5 _ bl bd vd v2 _ _ _ xq) RX.all λw30 xh=>Fz xh hA z λhA z=>go ?_;refine⟨_,rfl,z,?_⟩;rw[Tq c2 xv (by rw[hR];exact c7),hR];refine⟨?_,F2,FSq G xu yl,vd,v2,_,hA,xq.ext xh,λk hk hg=>?_,λk hk=>hk.elim (λh=>(hsub k h).elim (λh2=>.inl (hc k (.inl h2))) (λh2=>.inr ⟨h2,hA.lt k h⟩)) (λh=>?_),Jk hh z.size⟩
 ·have e9:Led.last { L with ents:=L.ents++[p] } = L.last+1:=by unfold Led.last;simp only [Ad,Db];omega
  rw[e9]
 ·rcases hg with hg|hg
  ·exact(hsub k hk).elim (λh=>hf k h hg) (λh=>by have:=ha k hg;omega)
  ·have:=ym k hk;omega
 ·rcases h with h|h
  ·exact .inl (hc k (.inr h))
  ·exact .inr ⟨Ae xp h.1,Ax h.2 xh.size⟩
variable {b:Nat}
theorem P0 {v v2:Value}(hg:H0 w v v2)(h:¬ HR bw v b)(hlt:b<w.heap.size):¬ HR bw v2 b:=λh2=>h (Qg hg h2 hlt)
variable {A:Fh}{n:Nat}
theorem NM (h:n<=4611686018427387904):A++[(n:Int)].flatMap G4=A++F6 n:=by simp [QO h]
theorem Ycu {s:Int}{g:Nat}(h1:1<=s)(h2:s<=1099511627776)(h:g<=4611686018427387904):A++[s,(g:Int)].flatMap G4=A++(F6 s.toNat++F6 g):=by
 simp only [AF,Ci,AH,QO h];unfold G4;rw[Wo h1 h2]
theorem Ks {v:Value}: A++BO FA (List.map (λq:Value×Fh=>q.2) [(v,p)])=A++FA p:=by simp
theorem Xr5 (d:Bool):Mn d<=1:=by cases d<;>decide
variable {N:Nat}
theorem Ql (h:A.length<=N):(A++F6 n).length<=N+10:=by rw[Ad];have:=Gq n;omega
theorem P1 {M:Nat}(h:A.length<=N)(hp:p.length<=M):(A++FA p).length<=N+M+10:=by rw[Ad];unfold FA;rw[Ad];have:=Gq p.length;omega
variable {m:Nat}
theorem X1q (h:A.length<=N):(A++(F6 m++F6 n)).length<=N+20:=by rw[Ad,Ad];have:=Gq m;have:=Gq n;omega
variable {l:List Cell}
theorem SN {c:Cell}(h:l[k]?=some c):Kc l k=KE (H9 l k) c:=by unfold Kc;rw[h];rfl
theorem X65 {c x:Cell}(h:l[k]?=some c)(h2:l[k-1]?=some x)(h4:k % 4≠0):JW x.key c.key=H9 l k:=by unfold H9;rw[if_neg h4,h,h2];rfl
theorem Yai {k:Nat}(h4:k % 4=0):(0:Nat)=H9 l k:=by unfold H9;rw[if_pos h4]
theorem X1r (k:Nat)(h:k=l.length):(BK k).flatMap (Kc l)=HA l:=by rw[h];rfl
theorem Tz (l:List Cell)(v:Value)(w:World)(hv:Fs Cell.cs 4 w v l)(hl:l.length<=30000) :
  Gf 243 [v] w λu w'=>∃vb,u=.tuple #[vb,I (Hl l)]/\Vc.Own Fq 1 5 w.heap.size w' vb (if Hl l=0 then HA l else[]):=by
 refine cE Tryz.func243 λJ=>Gp (X6o l v _ (hv.ext J) hl) λw1 x1=>?_;have J:=J.trans x1;refine Fk (λc1=>?_) λc1=>?_
 ·refine go ?_;rw[if_neg c1];exact⟨_,rfl,J,_,rfl,Vc.Own.nil⟩
 have hE:Hl l=0:=AE c1;obtain⟨ha,hRis⟩:=LH.1 hE;refine go ?_;refine aL [.slice none 0 0] λb1 w2 e1 x2 m1=>?_;have g1:=J.ge e1;have J:=J.trans x2;refine FL 79 4 (hv.ext J).sl ?_;refine F9 (G:=Nat×Value) (λ(k,vc)=>[(0,v),(2,.slice none 0 0),(3,I 0),(5,Fg b1 0),(14,v),(15,I ↑l.length),(16,I ↑k)]) (λ(k,vc) w'=>Fp w w'/\k<=l.length/\Wr w.heap.size b1 vc ((BK k).flatMap (Kc l)) w') (λ(k,vc)=>l.length-k) (0,.slice none 0 0) ⟨J,Ab _,⟨m1,Vc.Own.nil⟩⟩ ?_;rintro _ ⟨k,vc⟩ w3 ⟨J,hk1,z⟩;refine Fk (λc2=>?_) λc2=>?_
 ·obtain⟨c,hk⟩:∃c,l[k]?=some c:=F8;have xh:=S8 ha k Fb;have hcs:=KF (ha c (Ag hk));have hng:=Xr5 c.del;refine go ?_;refine di 79 4 (hv.ext J).sl rfl ((hv.ext J).lt hk) (dq (Fy Fe rfl rfl ((hv.ext J).row hk)) (aL [S [],S [],B false,.int .i64 0] λb2 w4 e2 x4 O=>?_));have g2:=J.ge e2;have hc:=z.lt;refine Fz x4 z J λz J=>go ?_;refine Gc O (λw5 x5 xs5 O=>?_);have z:=z.mod x5 (λk hk h=>by have h2:k=b2:=h;subst h2;exact A4 _ (AD (hc _ hk) e2.symm));have J:=J.o1 x5;refine g0 ?_;refine wS (g0 ?_);refine GK (G:=Nat) (λn=>[(0,v),(2,.slice none 0 0),(3,I 0),(5,Fg b1 0),(6,I ↑k),(7,Fg b2 0),(8,I ↑n),(14,v),(15,I ↑l.length),(16,I ↑k)]) (λn w'=>Fp w w'/\Wr w.heap.size b1 vc ((BK k).flatMap (Kc l)) w'/\Fo w' b2 c.cs 79/\n=H9 l k) ?_ ?_
  ·refine go ?_;refine dp (N8 rfl rfl Fb Fb) ?_;refine Fk (λc3=>?_) λc3=>?_
   ·obtain⟨x,hk1⟩:∃x,l[k-1]?=some x:=F8;have hcx:=KF (ha x (Ag hk1));refine wd 10510100000 λw6 x6=>FB x6 z O J λz O J=>gn ?_;refine F3 (v:=I ↑(k-1)) rfl (Gz rfl rfl (by unfold Fx;omega)) (by show I _=I _;congr 1;omega) (di 79 4 (hv.ext J).sl rfl ((hv.ext J).lt hk1) (go ?_));refine dL rfl (λ_ hR=>((((hv.ext J).ext hR).row hk1).at rfl)) (Gp (X1k x.key c.key _ Fb Fb) λw7 x7=>FB x7 z O J λz O J=>?_);refine go ?_;exact⟨_,KQ,J,z,O,X65 hk hk1 Fb⟩
   refine go ?_;exact⟨0,KQ,J,z,O,Yai Fb⟩
  rintro _ n w8 ⟨J,z,O,hn⟩;refine go ?_;refine li (e:=3) (sz:=1) (zs:=[.int .i64 0]) (pv:=[(0,_)]) (cs:=[_]) RX.all (λb3 w9 e3 x9 m3=>?_);have g3:=J.ge e3;have n3_2:=O.ltb e3;have ht:=z.lt;refine FB x9 z O J λz O J=>?_;have xt:=hn▸Y6 hk;have Z:=O.lt;have Y:¬ HR b1 vc b2:=λh9=>(A4 b2 (AD (hc _ h9) e2.symm));refine cD (KT w.heap.size b1 vc _ [↑n] (.slice (some ⟨b3,0,none⟩) 1 1) _ z (Ae xh Fb) J.size (m3.arr (enc:=Vc.encI) (sz:=1) (l:=[↑n]) rfl Ff rfl F5) F5 (λk9 h9 _ h8=>by have hz:b3=k9:=h8;subst hz;exact(A4 b3 (AD (ht _ h9) e3.symm)))) (.inl rfl) λu10 w10 xe xc=>?_;have hsz10:=J.size;have O:=O.mod xe Y;have J:=J.own xe (λi hi=>z.ge g1 hi);obtain⟨rfl,v2,z,hf⟩:=xc;rw[NM Fb]at z;have hg:=Ql (n:=n) xh;have Y:=P0 hf Y Z;refine gw ?_;refine JM [.p,.l,.p,.p,.x,.x,.x] rfl (go ?_);refine F3 (v:=S (c.key.drop n)) rfl (SQ (b:=c.key.length) Fe rfl rfl rfl xt (Aa _)) (by rw[AV]) (KC (e:=5) rfl Fe Fe Fe rfl RX.all (λb4 xi w11 e4 xo h5=>?_));have g4:=J.ge e4;have n4_2:=O.ltb e4;have hp:=z.lt;refine FB xo O z J λO z J=>li (e:=82) (sz:=1) (zs:=[.slice none 0 0]) (pv:=[(0,_)]) (cs:=[_]) RX.all (λb5 w12 e5 xp m5=>?_);have g5:=J.ge e5;have n5_2:=O.ltb e5;have hw:=z.lt;refine FP xp O z h5 J λO z h5 J=>?_;have Z:=O.lt;refine cD (Mb w.heap.size b1 v2 _ [(.slice (some ⟨b4,0,none⟩) (c.key.drop n).length xi,c.key.drop n)] (.slice (some ⟨b5,0,none⟩) 1 1) _ z (Ae hg Fb) J.size (Lf m5) (λq h=>by rw[Af.1 h];exact h5) (λq h=>by rw[Af.1 h];exact(by rw[AX];omega)) F5 (λ_ h9=>(A4 b5 (AD (hw _ h9) e5.symm))) (λq h hl h9=>by rw[Af.1 h]at hl h9;exact(A4 b4 (AD (hp _ h9) e4.symm)))) (.inl rfl) λu13 w13 xb xj=>?_;have hsz13:=J.size;have O:=O.mod xb Y;have J:=J.own xb (λi hi=>z.ge g1 hi);obtain⟨rfl,v3,z,hf⟩:=xj;rw[Ks]at z;have hh:=P1 (p:=c.key.drop n) (M:=4096) hg (by rw[AX];omega);have Y:=P0 hf Y Z;refine go ?_;refine HM (R:=Mod (HR b1 v3)) HT Ir Fe [1,3] [(0,.p,false),(1,.l,false),(2,.p,false),(3,.l,false),(4,.x,false),(5,.x,false),(6,.x,false)] rfl Fe Fe (λw14 hy=>?_);have xq:=FC hy;clear hy;refine FB xq O z J λO z J=>go ?_;refine dL rfl (λ_ hR=>((O.mod hR Y).at rfl)) (go ?_);refine dL rfl (λ_ hR=>((O.mod hR Y).at rfl)) (cP (X9y c.del _) RX.mod λw15 xr=>FB xr O z J λO z J=>li (e:=3) (sz:=1) (zs:=[.int .i64 0]) (pv:=[(0,_),(1,_)]) (cs:=[_,_]) RX.mod (λb6 w16 e6 xk m6=>?_));have g6:=J.ge e6;have n6_2:=O.ltb e6;have hr:=z.lt;refine FB xk O z J λO z J=>?_;have Z:=O.lt;refine J8 rfl Fe (KT w.heap.size b1 v3 _ [c.seq,↑(Mn c.del)] (.slice (some ⟨b6,0,none⟩) 2 2) _ z (Ae hh Fb) J.size (m6.arr (enc:=Vc.encI) (sz:=1) (l:=[c.seq,↑(Mn c.del)]) rfl Ff rfl F5) F5 (λk9 h9 _ h8=>by have hz:b6=k9:=h8;subst hz;exact(A4 b6 (AD (hr _ h9) e6.symm)))) rfl (.inr λ_ h=>h) (λu17 w17 xf xa=>?_);have hsz17:=J.size;have O:=O.mod xf Y;have J:=J.own xf (λi hi=>z.ge g1 hi);obtain⟨rfl,v4,z,hf⟩:=xa;rw[Ycu Fb Fb Fb]at z;have h7:=X1q (m:=c.seq.toNat) (n:=Mn c.del) hh;refine FZ (λc4=>?_) λc4=>?_
  ·refine JM [.p,.l,.x,.x,.x] rfl (go ?_);refine KC (e:=5) rfl Fe Fe Fe rfl RX.all (λb7 xg w18 e7 xl h6=>?_);have g7:=J.ge e7;have n7_2:=O.ltb e7;have hj:=z.lt;refine FB xl O z J λO z J=>li (e:=82) (sz:=1) (zs:=[.slice none 0 0]) (pv:=[(0,_)]) (cs:=[_]) RX.all (λb8 w19 e8 xm m8=>?_);have g8:=J.ge e8;have n8_2:=O.ltb e8;have hq:=z.lt;refine FP xm O z h6 J λO z h6 J=>?_;have Z:=O.lt;refine cD (Mb w.heap.size b1 v4 _ [(.slice (some ⟨b7,0,none⟩) c.val.length xg,c.val)] (.slice (some ⟨b8,0,none⟩) 1 1) _ z (Ae h7 Fb) J.size (Lf m8) (λq h=>by rw[Af.1 h];exact h6) (λq h=>by rw[Af.1 h];exact(show c.val.length<=1000000 by omega)) F5 (λ_ h9=>(A4 b8 (AD (hq _ h9) e8.symm))) (λq h hl h9=>by rw[Af.1 h]at hl h9;exact(A4 b7 (AD (hj _ h9) e7.symm)))) (.inl rfl) λu20 w20 xn xd=>?_;have hsz20:=J.size;have J:=J.own xn (λi hi=>z.ge g1 hi);obtain⟨rfl,v5,z,hf⟩:=xd;rw[Ks]at z;have hln57:=trivial;refine go ?_;refine FJ (k+1,v5) ⟨J,by omega,?_⟩;rw[Sy Fb,SN hk,<-hn];unfold KE;have hd:c.del=false:=by simpa using c4
   rw[hd]at z ⊢;simpa only [A3,AH,if_true,if_false,Cq]using z
  refine go ?_;refine FJ (k+1,v4) ⟨J,by omega,?_⟩;rw[Sy Fb,SN hk,<-hn];unfold KE;have hd:c.del=true:=by simpa using c4
  rw[hd]at z ⊢;simpa only [A3,AH,if_true,if_false,Cq]using z
 refine Ge (Od w.heap.size b1 vc _ _ z (by have:=S8 ha k Fb;omega)) λvo w21 xu hB=>?_;have hsz21:=J.size;have J:=J.trans xu;refine go ?_;rw[X1r k Fb]at hB;rw[if_pos hE,hE];exact⟨_,rfl,J,_,rfl,hB.mono Fb⟩
variable {o:Nat}
theorem QI {br:Nat}: (k=br\/∃p∈[((b,o):Nat×Nat)],k=p.1)↔(k=br\/k=b):=by simp
variable {b' o':Nat}
theorem Xn {br:Nat}: (k=br\/∃p∈[((b,o):Nat×Nat),(b',o')],k=p.1)↔(k=br\/k=b\/k=b'):=by simp
theorem X66 (r:Fh)(h:n<=4611686018427387904):JI 1 (F6 n++r) false=([n],r,false):=by
 unfold JI;rw[NT r false h];rfl
theorem X67 (r:Fh)(h:n<=4611686018427387904)(h2:m<=4611686018427387904):JI 2 (F6 n++(F6 m++r)) false=([n,m],r,false):=by
 unfold JI;rw[NT _ false h];unfold JI;rw[NT _ false h2];rfl
theorem YU (n:Nat)(c:Cell)(r:Fh):KE n c++r=F6 n++(FA (c.key.drop n)++(F6 c.seq.toNat++(F6 (Mn c.del)++((if c.del then[]else FA c.val)++r)))):=by unfold KE;simp only [A3]
theorem X1s (n:Nat)(c:Cell)(r:Fh):KE n c++r≠[]:=λe=>by
 have h:=X4 n c;have h2:=congrArg A5 e;rw[Ad,Bl]at h2;omega
variable {Cs:Nat->List Value}
theorem X68 : GW Cs [(b,o)] [n] b=(Cs b).set o (I ↑n):=by unfold GW;unfold GW;rw[if_pos rfl]
theorem X1t (h:b≠b'):GW Cs [(b,o),(b',o')] [n,m] b=(Cs b).set o (I ↑n):=by unfold GW;unfold GW;unfold GW;rw[if_neg h,if_pos rfl]
theorem X1u (h:b≠b'):GW Cs [(b,o),(b',o')] [n,m] b'=(Cs b').set o' (I ↑m):=by unfold GW;unfold GW;unfold GW;rw[if_pos rfl,if_neg (λe=>h e.symm)]
theorem X69 (d:Bool):decide (¬ (↑(Mn d):Int)=0)=d:=by cases d<;>rfl
theorem O2 {α:Type}{a b:α}{P:α->Prop}(h1:P a)(h2:P b):∀p∈[a,b],P p:=λp z=>by
 rcases Ah.1 z with rfl|z
 ·exact h1
 ·rw[Af.1 z];exact h2
theorem X7a {s:Nat}(h:Fo w s [Fg b o] 197):Fs (λp:Nat×Nat=>[Fg p.1 p.2]) 1 w (.slice (some ⟨s,0,none⟩) 1 1) [(b,o)]:=h.arr (enc:=λp:Nat×Nat=>[Fg p.1 p.2]) (sz:=1) (l:=[(b,o)]) rfl Ff rfl F5
theorem X7b {s:Nat}(h:Fo w s [Fg b o,Fg b' o'] 197):Fs (λp:Nat×Nat=>[Fg p.1 p.2]) 1 w (.slice (some ⟨s,0,none⟩) 2 2) [(b,o),(b',o')]:=h.arr (enc:=λp:Nat×Nat=>[Fg p.1 p.2]) (sz:=1) (l:=[(b,o),(b',o')]) rfl Ff rfl F5
theorem Yaj (br bb:Nat)(v:Value)(n:Nat)(c:Cell)(rest ahead:Fh)(w:World)(h:Rd br bb v (KE n c++rest) false w)(hll:(KE n c++rest).length<=2001000020)(hc:Gk c=true)(hn:n<=c.key.length)(hna:n<=ahead.length)(hah:ahead.length<=1000000)(he:ahead.take n++c.key.drop n=c.key) :
  Gy 261 [Fg br 0,S ahead] w (Fu br) λu w'=>u=c.v/\∃v',Rd br bb v' rest false w':=by
 refine cM Tryz.func261 (Fu br) λJ=>?_;have hR:=h;have Z:=X1s n c rest;have O:=h.lt;have hbr:=h.m.lt;rw[YU]at hR;have xa:=KF hc;have hng:=Xr5 c.del;rw[YU]at hll;have xb:=hll;rw[Ad]at xb;refine go ?_;refine aL [S [],S [],B false,.int .i64 0] λb1 w1 e1 x1 z=>?_;have g1:=J.ge e1;have a1_hR:=hR.lt;refine Fz x1 hR J λhR J=>go ?_;refine aL [.int .i64 0] λb2 w2 e2 x2 m2=>?_;have g2:=J.ge e2;have n2_1:=z.ltb e2;have a2_hR:=hR.lt;refine FB x2 hR z J λhR z J=>aL [.int .i64 0] λb3 w3 e3 x3 Y=>?_;have g3:=J.ge e3;have n3_1:=z.ltb e3;have n3_2:=m2.ltb e3;have a3_hR:=hR.lt;refine FP x3 hR z m2 J λhR z m2 J=>go ?_;refine li (e:=197) (sz:=1) (zs:=[.pointer none]) (pv:=[(0,_)]) (cs:=[_]) RX.all (λb4 w4 e4 x4 m4=>?_);have g4:=J.ge e4;have n4_1:=z.ltb e4;have n4_2:=m2.ltb e4;have n4_3:=Y.ltb e4;have a4_hR:=hR.lt;refine FV x4 hR z m2 Y J λhR z m2 Y J=>cD (YY br bb v _ false [(b2,0)] (.slice (some ⟨b4,0,none⟩) 1 1) (λ_=>[I 0]) (λ_=>3) _ hR (by rw[Ad];omega) (X7a m4) F5 (λp hp=>by rw[Af.1 hp];exact⟨m2,E9⟩) (λp hp h9=>by rw[Af.1 hp]at h9;have h8:=O _ (LF (λ_=>Z) h9);have h7:b2<w.heap.size:=h8;omega) (λ_ h9=>by have h2:b4=br\/b4=b2:=QI.1 h9;omega)) (.inl rfl) λu5 w5 x5 hz=>?_;have hsz5:=J.size;have z:=z.mod x5 (λh9=>by have h2:b1=br\/b1=b2:=QI.1 h9;omega);have Y:=Y.mod x5 (λh9=>by have h2:b3=br\/b3=b2:=QI.1 h9;omega);have J:=J.own x5 (λi hi hy=>(show i=br from by have h2:=QI.1 hi;omega));obtain⟨rfl,v1,hR,hf⟩:=hz;have m2:=hf (b2,0) Ai;rw[show[((b2,0):Nat×Nat)].length=1 from rfl,X66 _ Fb]at hR m2;rw[show((b2,0):Nat×Nat).1=b2 from rfl,X68]at m2;refine go ?_;have hb5:=z.lt;refine cD (Pt br bb v1 _ false _ hR (by simp only [Ad]at *;omega)) (.inl rfl) λu6 w6 x6 h6=>?_;have hsz6:=J.size;have z:=z.mod x6 Fw;have Y:=Y.mod x6 Fw;have m2:=m2.mod x6 Fw;have J:=J.own x6 F4;obtain⟨hO,v2,hR⟩:=h6;rw[P4 _ _ _ (by rw[AX];omega)]at hO hR;dsimp only at hO hR;refine Fk (λc1=>?_) λc1=>?_
 ·omega
 refine Gn 150010010 λw7 x7=>H3 x7 z Y m2 hO hR J λz Y m2 hO hR J=>?_;refine go ?_;refine F3 (v:=S (ahead.take n)) rfl (SQ (a:=0) Fe rfl rfl rfl (Ab _) hna) (by rw[Ce]) (go ?_);refine Gd rfl (λw' hR=>Nd Fe Fe ((hO.ext hR).arr Ff) rfl) (F3 (v:=S c.key) rfl (Iu rfl rfl (by simp;omega)) (by rw[he]) (go ?_));refine HG z (λw8 x8 xs8 z=>?_) (hv:=by rfl);have Y:=Y.mo x8;have hR:=hR.mod x8 (λk hk e=>by have h2:k=b1:=e;have h8:=O _ (LF (λ_=>Z) hk);omega);have J:=J.o1 x8;refine go ?_;refine li (e:=197) (sz:=1) (zs:=[.pointer none]) (pv:=[(0,_),(1,_)]) (cs:=[_,_]) RX.all (λb5 w9 e5 x9 m5=>?_);have g5:=J.ge e5;have n5_1:=z.ltb e5;have n5_3:=Y.ltb e5;have a5_hR:=hR.lt;refine FP x9 z Y hR J λz Y hR J=>?_;refine cD (YY br bb v2 _ false [(b1,3),(b3,0)] (.slice (some ⟨b5,0,none⟩) 2 2) (λk=>if k=b1 then[S c.key,S [],B false,I 0]else[I 0]) (λk=>if k=b1 then 79 else 3) _ hR (by simp only [Ad]at *;omega) (X7b m5) F5 (O2 (P:=λp:Nat×Nat=>Fo _ p.1 (if p.1=b1 then _ else _) (if p.1=b1 then _ else _)/\p.2<(if p.1=b1 then _ else _:List Value).length) (by rw[if_pos rfl,if_pos rfl];exact⟨z,(by decide:3<4)⟩) (by rw[if_neg Fb,if_neg Fb];exact⟨Y,E9⟩)) (O2 (P:=λp:Nat×Nat=>¬ NU br bb _ p.1) (λh9=>by have h8:=O _ (LF (λ_=>Z) h9);have h7:b1<w.heap.size:=h8;omega) (λh9=>by have h8:=O _ (LF (λ_=>Z) h9);have h7:b3<w.heap.size:=h8;omega)) (λ_ h9=>by have h2:b5=br\/b5=b1\/b5=b3:=Xn.1 h9;omega)) (.inl rfl) λu10 w10 h5 hq=>?_;have hsz10:=J.size;have J:=J.own h5 (λi hi hy=>(show i=br from by have h2:=Xn.1 hi;omega));obtain⟨rfl,v3,hR,hf⟩:=hq;have ha:b1≠b3:=by omega
 have z:=hf (b1,3) Ai;have Y:=hf (b3,0) (Ao _ Ai);rw[show[((b1,3):Nat×Nat),(b3,0)].length=2 from rfl,X67 _ Fb Fb]at hR z Y;dsimp only at hR z Y;rw[X1t ha,if_pos rfl,if_pos rfl]at z;rw[X1u ha,if_neg (λe=>ha e.symm),if_neg (λe=>ha e.symm)]at Y;dsimp only [List.set]at z Y;rw[show((c.seq.toNat:Nat):Int)=c.seq by omega]at z;refine gc ?_;refine dl rfl (Y.at rfl) (F3 (v:=B c.del) rfl (X34 rfl rfl) (by show B _=B _;congr 1;exact X69 _) (go ?_));refine HG z (λw11 hg xs11 z=>?_) (hv:=by rfl);have hR:=hR.mod hg (λk hk e=>by have h2:k=b1:=e;have h8:=O _ (LF (λ_=>Z) hk);omega);have Y:=Y.mo hg;have J:=J.o1 hg;refine FZ (λc2=>?_) λc2=>?_
 ·refine JM [.p,.x,.l,.p,.x] rfl (go ?_);have hb6:=z.lt;refine cD (Pt br bb v3 _ false _ hR (by simp only [Ad]at *;omega)) (.inl rfl) λu12 w12 hh ht=>?_;have hsz12:=J.size;have z:=z.mod hh Fw;have Y:=Y.mod hh Fw;have J:=J.own hh F4;have hd:c.del=false:=by simpa using c2
  obtain⟨hj,v4,hR⟩:=ht;rw[hd,if_neg Fj,P4 _ _ _ Fb]at hj hR;dsimp only at hj hR;refine dq (Nd Fe Fe (hj.arr Ff) rfl) (go ?_);refine HG z (λw13 hl xs13 z=>?_) (hv:=by rfl);have hR:=hR.mod hl (λk hk e=>by have h2:k=b1:=e;have h8:=O _ (LF (λ_=>Z) hk);omega);have J:=J.o1 hl;refine go ?_;refine dq (Fy (k:=4) Fe rfl rfl z.row) (Gc z (λw14 hr xs14 z=>?_));have hR:=hR.mod hr (λk hk e=>by have h2:k=b1:=e;have h8:=O _ (LF (λ_=>Z) hk);omega);have J:=J.o1 hr;refine go ?_;refine NZ (k:=4) rfl rfl rfl Fe rfl z.row ?_;have e0:c=⟨c.key,c.val,false,c.seq⟩:=by rw[<-hd]
  rw[hd]at z;refine⟨_,rfl,J,by rw[e0],v4,hR⟩
 refine go ?_;refine dq (Fy (k:=4) Fe rfl rfl z.row) (Gc z (λw15 hw xs15 z=>?_));have hR:=hR.mod hw (λk hk e=>by have h2:k=b1:=e;have h8:=O _ (LF (λ_=>Z) hk);omega);have J:=J.o1 hw;refine go ?_;refine NZ (k:=4) rfl rfl rfl Fe rfl z.row ?_;have hd:c.del=true:=by simpa using c2
 have e0:c=⟨c.key,[],true,c.seq⟩:=by rw[<-hd,<-xa.2.2.2.2.2 hd]
 rw[hd,if_pos rfl,AB]at hR;exact⟨_,rfl,J,by rw[e0],v3,hR⟩
structure Sz (n:Nat)(w:World):Prop where
 le:n<=w.heap.size
theorem Sz.ext (h:Sz n w)(x:Fp w w'):Sz n w':=⟨Ae h.le x.size⟩
instance {n : Nat} {w w':World} : Up w w' (Sz n w) (Sz n w'):=⟨λx h=>Sz.ext h x⟩
theorem Sz.mod {S:Nat->Prop}(h:Sz n w)(x:Vc.Mod S w w')(_:True):Sz n w':=⟨Ae h.le x.size⟩
theorem Sw : 0<(IG l k).length↔k<l.length:=by
 by_cases h:k<l.length
 ·rw[Tv h,Ad];have:=X4 (H9 l k) (l[k]?.getD Cell.zero);unfold Kc;exact⟨λ_=>h,λ_=>by omega⟩
 ·rw[Re Fb];exact⟨λh2=>by simp at h2,λh2=>absurd h2 h⟩
theorem X1v (k:Nat):(IG l k).length<=(HA l).length:=by
 by_cases h:k<=l.length
 ·induction k with
  | zero=>exact Aa _
  | succ k ih=>
   have:=ih Fb;rw[Tv Fb,Ad]at this;omega
 ·rw[Re Fb];exact Ab _
theorem X1w (h:∀c∈l,Gk c=true)(k:Nat):(if k=0 then([]:Fh)else(l[k-1]?.getD Cell.zero).key).length<=4096:=by
 split
 ·simp
 ·cases e:l[k-1]? with
  | none=>simp [Cell.zero]
  | some c=>exact(KF (h c (Ag e))).1
theorem X1x (h:HA l=[]):l=[]:=by
 cases l with
 | nil=>rfl
 | cons a r=>
  have:=(Sw (l:=a :: r) (k:=0)).2 F5;rw[X9x,h]at this;simp at this
theorem X1y (l:List Cell)(v:Value)(w:World)(hv:Fs Fq 1 w v (HA l))(hl:l.length<=30000)(hE:Hl l=0) :
  Gf 196 [v] w λu w'=>∃vb,u=.tuple #[vb,I 0]/\Vc.Own Cell.cs 4 79 w.heap.size w' vb l:=by
 refine cE Tryz.func196 λz=>?_;obtain⟨Y,hRis⟩:=LH.1 hE;have hbl:=Qv Y;refine Ge (Xr (HA l) v _ (hv.ext z) Fb) λu1 w1 x1 xc=>?_;have hq:=z.size;have z:=z.trans x1;obtain⟨br,bb,hw,rfl,gbr,gbb,hR⟩:=xc;have J:Sz w1.heap.size w1:=⟨Aa _⟩;have ht:=hR.lt;have hj:=Ae hq x1.size;refine F9 (G:=Nat×Value×Value) (λ(k,vc,vl)=>[(0,v),(4,Fg br 0),(5,vl)]) (λ(k,vc,vl) w'=>Fp w w'/\k<=l.length/\Rd br bb vc (IG l k) false w'/\Vc.Own Cell.cs 4 79 w1.heap.size w' vl (l.take k)/\Sz w1.heap.size w') (λ(k,vc,vl)=>l.length-k) (0,hw,.slice none 0 0) ⟨z,Ab _,hR,Vc.Own.nil,J⟩ ?_;rintro _ ⟨k,vc,vl⟩ w2 ⟨z,hk9,hR,ho,J⟩;refine Gp (X9r br bb vc (IG l k) false _ hR) λw3 x3=>FP x3 hR ho J z λhR ho J z=>?_;refine Fk (λc1=>?_) λc1=>?_
 ·have htl:(l.take k).length=k:=by rw[A7];omega
  have O:k<l.length:=by have:=(Sw (l:=l) (k:=k)).1 Fb;exact this
  have hh:HA l≠[]:=λe=>by rw[X1x e]at O;simp at O
  obtain⟨c,hk⟩:∃c,l[k]?=some c:=⟨_,Au O⟩;have hr:=Y c (Ag hk);have hcs:=KF hr;refine g0 ?_;refine wS (g0 ?_);refine GK (G:=Fh) (λp=>[(0,v),(4,Fg br 0),(5,vl),(6,S p)]) (λp w'=>Fp w w'/\Rd br bb vc (IG l k) false w'/\Vc.Own Cell.cs 4 79 w1.heap.size w' vl (l.take k)/\Sz w1.heap.size w'/\p=if k=0 then[]else(l[k-1]?.getD Cell.zero).key) ?_ ?_
  ·refine go ?_;refine dv 79 4 (ho.arr Ff).sl ?_;refine Fk (λc2=>?_) λc2=>?_
   ·obtain⟨x,hk0⟩:∃x,l[k-1]?=some x:=F8;have hg:(l.take k)[k-1]?=some x:=by rw[Ba,if_pos Fb];exact hk0
    refine go ?_;refine dv 79 4 (ho.arr Ff).sl (F3 (v:=I ↑(k-1)) rfl (Gz rfl rfl (by unfold Fx;omega)) (by show I _=I _;congr 1;omega) (di 79 4 (ho.arr Ff).sl rfl ((ho.arr Ff).lt hg) (go ?_)));refine dl rfl (((ho.arr Ff).row hg).at rfl) (go ?_);exact⟨_,He,z,hR,ho,J,by rw[if_neg Fb,hk0];rfl⟩
   refine go ?_;exact⟨_,He,z,hR,ho,J,by rw[if_pos Fb]⟩
  rintro _ p w4 ⟨z,hR,ho,J,hp⟩;refine go ?_;have hc:=Xwl hk p hp;have hpl:=hp▸X1w Y k;have xa:=X1v (l:=l) k;rw[Tv O,SN hk]at hR xa;refine cD (Yaj br bb vc (H9 l k) c (IG l (k+1)) p _ hR Fb hr (Y6 hk) hc.1 Fb hc.2) (.inl rfl) λu5 w5 x5 hy=>?_;have hsz5:=z.size;have ho:=ho.mod x5 (λk9 h9 e=>ho.ne_blk hR.m rfl (by rw[h9];exact congrArg some e));have J:=J.mod x5 trivial;have z:=z.own x5 F4;obtain⟨rfl,xb,hR⟩:=hy;refine aL [S [],S [],B false,.int .i64 0] λb1 w6 e1 x6 m1=>?_;have g1:=z.ge e1;have o1_ho:=ho.ltb e1;have a1_hS:=J.le;have Z:=hR.lt;refine FP x6 ho J hR z λho J hR z=>Gc m1 (λw7 x7 xs7 m1=>?_);have ho:=ho.mod x7 Fw;have J:=J.mod x7 trivial;have hR:=hR.mod x7 (λk9 h9 e=>by have h2:k9=b1:=e;have h8:=Z k9 h9;omega);have z:=z.o1 x7;refine Fk (λc3=>?_) λc3=>?_
  ·omega
  refine go ?_;refine dq (Fy (k:=4) Fe rfl rfl m1.row) (lA 79 rfl λb2 w8 e2 x8 m2=>?_);have g2:=z.ge e2;have o2_ho:=ho.ltb e2;have a2_hS:=J.le;have a2_hR:=hR.lt;refine FP x8 ho J hR z λho J hR z=>G1 c ho m2 (λxd w9 ha x9=>?_) (hB:=J.le);have J:=J.mod x9 Fw;have hR:=hR.mod x9 (by intro k9 h9 e9;have h8:=ht k9 (LF (λ_=>hh) h9);have h7:=(ho.lt k9 e9).1;omega);have z:=z.own x9 (λi hi=>(Ae hj (ho.lt i hi).1));have ho:=ha;clear m2;refine go ?_;refine FJ (k+1,xb,xd) ⟨z,by omega,hR,?_,J⟩;rw[GQ hk];exact ho
 have O:l.length<=k:=by
  have h9:=(Sw (l:=l) (k:=k)).2;omega
 have hkl2:k=l.length:=by omega
 refine go ?_;rw[Ar O]at ho;rw[Re O]at hR;refine cG (Tz l vl _ (ho.arr Ff) hl) RX.all λu10 w10 hz hf=>?_;have hsz10:=z.size;refine FB hz hR ho z λhR ho z=>?_;obtain⟨vb,rfl,hB⟩:=hf;rw[if_pos hE]at hB;refine Gp (X6c br bb vc [] false _ hR) λw11 h5=>FB h5 ho hB z λho hB z=>?_;refine go ?_;refine Il 44 rfl (λc4=>?_) (λc4=>?_)
 ·simp at c4
 refine ds1 48 (λc5=>?_) λc5=>?_
 ·exact absurd hE c5
 refine Gp (SS (HA l) (HA l) vb v _ (hB.arr Ff) (hv.ext z)) λw12 h6=>Fz h6 ho z λho z=>?_;refine FZ (λc6=>?_) λc6=>?_
 ·simp at c6
 refine go ?_;exact⟨_,rfl,z,vl,rfl,ho.mono hj⟩
end Go.Proofs.YtiooodckiddpmaaGreatDoor
namespace Go.Sp
open Go.Vc (Fh)
def GB (l:List Cell)(k:Nat):Cell:=l[k]?.getD Cell.zero
variable {k:Nat}{l:List Cell}
theorem FY {c:Cell}(h:l[k]?=some c):GB l k=c:=by unfold GB;rw[h];rfl
def Kt (l:List Cell)(k:Nat):Bool:=decide (k=0) || decide ((GB l (k-1)).key≠(GB l k).key)
def LM (l:List Cell)(k:Nat):List Fh:=((BK k).filter (Kt l)).map λi=>(GB l i).key
def HY (l:List Cell):List Fh:=LM l l.length
theorem Xt2 (l:List Cell)(k:Nat):LM l (k+1)=if Kt l k=true then LM l k++[(GB l k).key]else LM l k:=by
 unfold LM;rw[E4,Bs];split
 ·rename_i h;simp [h]
 ·rename_i h;simp [h]
theorem MI (l:List Cell)(k:Nat):(LM l k).length<=k:=by
 unfold LM;rw[Aw];exact Ae (AZ _ _) F5
theorem TG (l:List Cell):∀(i k:Nat),i<k->(GB l i).key∈LM l k
 | 0,k,h=>Ay.2 ⟨0,Av.2 ⟨DW.2 h,rfl⟩,rfl⟩
 | i+1,k,h=>by
  by_cases e:Kt l (i+1)=true
  ·exact Ay.2 ⟨i+1,Av.2 ⟨DW.2 h,e⟩,rfl⟩
  ·have z:=TG l i k Fb;unfold Kt at e;simp at e;rw[<-e];exact z
theorem Xw9 {c:Cell}(h:c∈l):c.key∈HY l:=by
 obtain⟨i,hi⟩:=Cd.1 h;have:=TG l i l.length (Ap.1 hi).1;rwa [FY hi]at this
theorem Xk7 (hk:k<=l.length){s:Fh}(h:s∈LM l k):∃c∈l,c.key=s:=by
 obtain⟨i,hi,rfl⟩:=Ay.1 h;have hi2:=DW.1 (Av.1 hi).1;have e:l[i]?=some l[i]:=Au Fb;exact⟨l[i],Dt ..,by rw[FY e]⟩
def Gh (l:List Cell):Nat->List (Nat×Nat)×Nat×Nat
 | 0=>([],0,0)
 | k+1=>if k=0 then([],0,G5 (GB l 0))else if 512<(Gh l k).2.2+G5 (GB l k)then((Gh l k).1++[((Gh l k).2.1,k)],k,G5 (GB l k))else((Gh l k).1,(Gh l k).2.1,(Gh l k).2.2+G5 (GB l k))
def JU (l:List Cell)(k:Nat):List (Nat×Nat):=if k=0 then[]else(Gh l k).1++[((Gh l k).2.1,k)]
def GU (l:List Cell):List (Nat×Nat):=JU l l.length
def GO : Nat->List (Nat×Nat)->Nat->Prop
 | a,[],b=>a=b
 | a,p :: r,b=>p.1=a/\a<p.2/\p.2<=a+32/\GO p.2 r b
variable {a b:Nat}
theorem GO.append {c:Nat}{l m:List (Nat×Nat)}(h:GO a l b)(h2:GO b m c):GO a (l++m) c:=by
 induction l generalizing a with
 | nil=>rw[show a=b from h];exact h2
 | cons p r ih=>exact⟨h.1,h.2.1,h.2.2.1,ih h.2.2.2⟩
theorem GO.le {l:List (Nat×Nat)}(h:GO a l b):a+l.length<=b:=by
 induction l generalizing a with
 | nil=>have e:a=b:=h;simp;omega
 | cons p r ih=>
  have:=ih h.2.2.2;have:=h.2.1;simp;omega
variable {p:Nat×Nat}
theorem GO.mem {l:List (Nat×Nat)}(h:GO a l b)(hp:p∈l):a<=p.1/\p.1<p.2/\p.2<=p.1+32/\p.2<=b:=by
 induction l generalizing a with
 | nil=>cases hp
 | cons q r ih=>
  rcases Ah.1 hp with rfl|hp
  ·have:=h.2.2.2.le;have:=h.1;have:=h.2.1;have:=h.2.2.1;exact⟨by omega,by omega,by omega,by omega⟩
  ·have:=ih h.2.2.2 hp;have:=h.2.1;exact⟨by omega,by omega,by omega,by omega⟩
theorem X1z (l:List Cell)(k:Nat):GO 0 (Gh l (k+1)).1 (Gh l (k+1)).2.1/\(Gh l (k+1)).2.1<k+1/\16*(k+1-(Gh l (k+1)).2.1)<=(Gh l (k+1)).2.2/\((Gh l (k+1)).2.2<=512\/k+1=(Gh l (k+1)).2.1+1):=by
 induction k with
 | zero=>
  unfold Gh;rw[if_pos rfl];exact⟨rfl,Nat.one_pos,by unfold G5;simp,.inr rfl⟩
 | succ k ih=>
  obtain⟨h1,h2,h3,h4⟩:=ih;rw[Gh.eq_2,if_neg Fb];split
  ·refine⟨h1.append ⟨rfl,h2,?_,rfl⟩,by show k+1<k+1+1;omega,by show 16*(k+1+1-(k+1))<=G5 _;unfold G5;omega,.inr rfl⟩;rcases h4 with h4|h4<;>omega
  ·rename_i hn;refine⟨h1,by show(Gh l (k+1)).2.1<k+1+1;omega,?_,?_⟩
   ·show 16*(k+1+1-(Gh l (k+1)).2.1)<=(Gh l (k+1)).2.2+G5 _;unfold G5;omega
   ·left;show(Gh l (k+1)).2.2+G5 _<=512;omega
theorem N3 (l:List Cell)(k:Nat):GO 0 (JU l k) k:=by
 cases k with
 | zero=>rfl
 | succ k=>
  obtain⟨h1,h2,h3,h4⟩:=X1z l k;unfold JU;rw[if_neg Fb];refine h1.append ⟨rfl,h2,?_,rfl⟩;show k+1<=_;rcases h4 with h4|h4<;>omega
theorem PQ (l:List Cell)(k:Nat):(JU l k).length<=k:=by have:=(N3 l k).le;omega
def II (l:List Cell)(p:Nat×Nat):List Cell:=(l.take p.2).drop p.1
theorem Xi (h:p.2<=p.1+32):(II l p).length<=32:=by
 unfold II;rw[AX,A7];omega
theorem VI {ps:List (Nat×Nat)}(h:GO a ps b):ps.flatMap (II l)=(l.take b).drop a:=by
 induction ps generalizing a with
 | nil=>
  have e:a=b:=h;subst e;rw[BW (by rw[A7];omega)];rfl
 | cons p r ih=>
  have hle:=h.2.2.2.le;rw[AF,ih h.2.2.2];unfold II;rw[h.1];have hb:p.2<=b:=by omega
  have e1:l.take p.2=(l.take b).take p.2:=by rw[List.take_take,Nat.min_eq_left hb]
  have e2:(l.take b).drop a=((l.take b).drop a).take (p.2-a)++((l.take b).drop a).drop (p.2-a):=(AS _ _).symm;have h3:=h.2.1;rw[e2,List.drop_drop,show a+(p.2-a)=p.2 by omega,e1,List.drop_take]
theorem Qt {c:Cell}(h:c∈II l p):c∈l:=List.mem_of_mem_take (List.mem_of_mem_drop h)
theorem Vz {c:Cell}(h:(II l p)[k]?=some c):l[p.1+k]?=some c:=by
 unfold II at h;rw[List.getElem?_drop,Ba]at h;split at h
 ·exact h
 ·cases h
theorem Rl (h:Hl l=0)(p:Nat×Nat):Hl (II l p)=0:=by
 obtain⟨h1,h2⟩:=LH.1 h;exact LH.2 ⟨λc J=>h1 c (Qt J),X1i λk a b z hb=>Yl h2 (Vz z) (by have:=Vz hb;rwa [show p.1+(k+1)=p.1+k+1 by omega]at this)⟩
def JC (l:List Cell)(p:Nat×Nat):Fh:=FA (GB l (p.2-1)).key++F6 (GB l (p.2-1)).seq.toNat++FA (HA (II l p))
end Go.Sp
namespace Go.Proofs.YtiooodckiddpmaaGreatDoor
open Go.Vc Go.Sp
attribute [local irreducible] W XW Dw G9
@[reducible] def KS (p:Nat×Nat):List Value:=[I ↑p.1,I ↑p.2]
variable {k:Nat}{l:List Cell}
theorem UT : JU l (k+1)=(Gh l (k+1)).1++[((Gh l (k+1)).2.1,k+1)]:=by unfold JU;rw[if_neg Fb]
theorem Xxb : JU l k=[]↔k=0:=by
 unfold JU;split
 ·rename_i h;exact⟨λ_=>h,λ_=>rfl⟩
 ·rename_i h;exact⟨λe=>by simp at e,λe=>absurd e h⟩
theorem Wq (h:k=0\/512<(Gh l k).2.2+G5 (GB l k)):Gh l (k+1)=(JU l k,k,G5 (GB l k)):=by
 rw[Gh.eq_2];unfold JU
 by_cases e:k=0
 ·subst e;rfl
 ·rw[if_neg e,if_pos (h.resolve_left e),if_neg e]
theorem X7c (h:k≠0)(h2:¬ 512<(Gh l k).2.2+G5 (GB l k)):Gh l (k+1)=((Gh l k).1,(Gh l k).2.1,(Gh l k).2.2+G5 (GB l k)):=by
 rw[Gh.eq_2,if_neg h,if_neg h2]
theorem X4l (l:List Cell)(hl:∀c∈l,G5 c<=1000000)(k:Nat):(Gh l k).2.2<=1000512:=by
 have z:∀k,G5 (GB l k)<=1000000:=λk=>by
  unfold GB
  cases e:l[k]? with
  | none=>simp [Cell.zero,G5]
  | some c=>exact hl c (Ag e)
 cases k with
 | zero=>simp [Gh]
 | succ k=>
  rw[Gh.eq_2];have:=z k;have:=z 0;split
  ·simp only;omega
  ·split<;>simp only<;>omega
theorem X7d {α:Type}{l:List α}{a b:α} : (l++[a]).set l.length b=l++[b]:=by simp
theorem Us (l:List Cell)(v:Value)(w:World)(hv:Fs Cell.cs 4 w v l)(hl:l.length<=30000) :
  Gf 198 [v] w λu w'=>Vc.Own G8 1 9 w.heap.size w' u (HY l):=by
 refine cE Tryz.func198 λz=>FL 79 4 hv.sl ?_;refine F9 (G:=Nat×Value) (λ(k,vm)=>[(0,v),(2,.slice none 0 0),(3,vm),(6,v),(7,I ↑l.length),(8,I ↑k)]) (λ(k,vm) w'=>Fp w w'/\k<=l.length/\Vc.Own G8 1 9 w.heap.size w' vm (LM l k)) (λ(k,vm)=>l.length-k) (0,.slice none 0 0) ⟨z,Ab _,Vc.Own.nil⟩ ?_;rintro _ ⟨k,vm⟩ w1 ⟨z,hk9,ho⟩;refine Fk (λc1=>?_) λc1=>?_
 ·obtain⟨c,hk⟩:∃c,l[k]?=some c:=F8;have hlk:=MI l k;have O:=Xt2 l k;rw[FY hk]at O;refine FK 79 4 hv.sl (hv.lt hk) ?_;refine dq (Fy Fe rfl rfl ((hv.ext z).row hk)) (aL [S [],S [],B false,.int .i64 0] λb1 w2 e1 x2 Y=>?_);have g1:=z.ge e1;have o1_ho:=ho.ltb e1;refine Fz x2 ho z λho z=>go ?_;refine Gc Y (λw3 x3 xs3 Y=>?_);have ho:=ho.mod x3 Fw;have z:=z.o1 x3;refine Gn 10010100000000 λw4 x4=>FB x4 ho Y z λho Y z=>?_;refine ds1 15 (λc2=>?_) λc2=>?_
  ·refine go ?_;refine GD rfl (go ?_);refine li (e:=9) (sz:=1) (zs:=[S []]) (pv:=[(0,_)]) (cs:=[_]) RX.all (λb2 w5 e2 x5 m2=>?_);have g2:=z.ge e2;have n2_1:=Y.ltb e2;have o2_ho:=ho.ltb e2;refine FB x5 ho Y z λho Y z=>G1 c.key ho m2 λZ w6 J x6=>?_;have Y:=Y.mod x6 Fw;have z:=z.own x6 F4;have ho:=J;clear m2;refine go ?_;refine FJ (k+1,Z) ⟨z,by omega,?_⟩;rw[O,if_pos (by unfold Kt;simp;omega)];exact ho
  obtain⟨x,hk1⟩:∃x,l[k-1]?=some x:=F8;refine gn ?_;refine F3 (v:=I ↑(k-1)) rfl (Gz rfl rfl (by unfold Fx;omega)) (by show I _=I _;congr 1;omega) (di 79 4 hv.sl rfl (hv.lt hk1) (go ?_));refine dL rfl (λ_ hR=>(((hv.ext (z.trans hR)).row hk1).at rfl)) (go ?_);refine dp (Mt rfl rfl) ?_;refine Fk (λc3=>?_) λc3=>?_
  ·refine go ?_;refine li (e:=9) (sz:=1) (zs:=[S []]) (pv:=[(0,_)]) (cs:=[_]) RX.all (λb3 w7 e3 x7 m3=>?_);have g3:=z.ge e3;have o3_ho:=ho.ltb e3;refine Fz x7 ho z λho z=>G1 c.key ho m3 λZ w8 J x8=>?_;have z:=z.own x8 F4;have ho:=J;clear m3;refine go ?_;refine FJ (k+1,Z) ⟨z,by omega,?_⟩;rw[O,if_pos (by unfold Kt;rw[FY hk1,FY hk];simp [c3])];exact ho
  refine go ?_;refine FJ (k+1,vm) ⟨z,by omega,?_⟩;have ha:¬ k=0:=by omega
  rw[O,if_neg (by unfold Kt;rw[FY hk1,FY hk];simp [ha];simpa using c3)];exact ho
 refine go ?_;rw[show k=l.length by omega]at ho;exact⟨_,rfl,z,ho⟩
theorem WN (l:List Cell)(v:Value)(w:World)(hv:Fs Cell.cs 4 w v l)(hl:l.length<=30000)(hsz9:∀c∈l,G5 c<=1000000)(hkv:∀c∈l,c.key.length<=1000000000/\c.val.length<=1000000000) :
  Gf 199 [v] w λu w'=>Vc.Own KS 2 284 w.heap.size w' u (GU l):=by
 refine cE Tryz.func199 λz=>FL 79 4 hv.sl ?_;refine F9 (G:=Nat×Value) (λ(k,vp)=>[(0,v),(2,.slice none 0 0),(3,vp),(4,I ↑(Gh l k).2.2),(8,v),(9,I ↑l.length),(10,I ↑k)]) (λ(k,vp) w'=>Fp w w'/\k<=l.length/\Vc.Own KS 2 284 w.heap.size w' vp (JU l k)) (λ(k,vp)=>l.length-k) (0,.slice none 0 0) ⟨z,Ab _,Vc.Own.nil⟩ ?_;rintro _ ⟨k,vp⟩ w1 ⟨z,hk9,ho⟩;refine Fk (λc1=>?_) λc1=>?_
 ·obtain⟨c,hk⟩:∃c,l[k]?=some c:=F8;have hrl:=X4l l hsz9 k;have hsc:=hsz9 c (Ag hk);have ha:=hkv c (Ag hk);have hpl:=PQ l k;have Z:=Xxb (l:=l) (k:=k);refine FK 79 4 hv.sl (hv.lt hk) ?_;refine dq (Fy Fe rfl rfl ((hv.ext z).row hk)) (aL [S [],S [],B false,.int .i64 0] λb1 w2 e1 x2 m1=>?_);have g1:=z.ge e1;have o1_ho:=ho.ltb e1;refine Fz x2 ho z λho z=>go ?_;refine Gc m1 (λw3 x3 xs3 m1=>?_);have ho:=ho.mod x3 Fw;have z:=z.o1 x3;refine go ?_;refine dq (Fy (k:=4) Fe rfl rfl m1.row) (cP (Sm c _ ha.1 ha.2) RX.all λw4 x4=>Fz x4 ho z λho z=>g0 ?_);refine GK (G:=Value×List (Nat×Nat)×Nat×Nat×Nat) (λ(va,fr,f,e,s0)=>[(0,v),(2,.slice none 0 0),(3,va),(4,I ↑s0),(5,I ↑k),(7,I ↑(G5 c)),(8,v),(9,I ↑l.length),(10,I ↑k)]) (λ(va,fr,f,e,s0) w'=>Fp w w'/\Vc.Own KS 2 284 w.heap.size w' va (fr++[(f,e)])/\(fr,f,s0+G5 c)=Gh l (k+1)) ?_ ?_
  ·refine go ?_;refine dv 284 2 (ho.arr Ff).sl ?_;refine ds1 20 (λc2=>?_) λc2=>?_
   ·refine go ?_;refine GD rfl (go ?_);refine db (zs:=[.int .i64 0,.int .i64 0]) (pl:=[(0,1),(1,1)]) (pv:=[(0,_),(1,_)]) (cs:=[_,_]) ?_;refine lA 284 rfl λb2 w5 e2 x5 m2=>?_;have g2:=z.ge e2;have o2_ho:=ho.ltb e2;refine Fz x5 ho z λho z=>G1 (k,k) ho m2 λY w6 J x6=>?_;have z:=z.own x6 F4;have ho:=J;clear m2;refine go ?_;have O:k=0:=by
     have:(JU l k).length=0:=by omega
     exact Z.1 (Az this)
    exact⟨(Y,JU l k,k,k,0),KV,z,ho,by rw[Wq (.inl O),FY hk,A0]⟩
   refine Fk (λc3=>?_) λc3=>?_
   ·refine go ?_;refine db (zs:=[.int .i64 0,.int .i64 0]) (pl:=[(0,1),(1,1)]) (pv:=[(0,_),(1,_)]) (cs:=[_,_]) ?_;refine lA 284 rfl λb3 w7 e3 x7 m3=>?_;have g3:=z.ge e3;have o3_ho:=ho.ltb e3;refine Fz x7 ho z λho z=>G1 (k,k) ho m3 λY w8 J x8=>?_;have z:=z.own x8 F4;have ho:=J;clear m3;refine go ?_;exact⟨(Y,JU l k,k,k,0),KV,z,ho,by rw[Wq (.inr (by rw[FY hk];omega)),FY hk,A0]⟩
   refine go ?_;have O:k≠0:=λe=>by rw[Z.2 e]at c2;simp at c2
   exact⟨(vp,(Gh l k).1,(Gh l k).2.1,k,(Gh l k).2.2),KV,z,by rw[show JU l k=_ from if_neg O]at ho;exact ho,by rw[X7c O (by rw[FY hk];omega),FY hk]⟩
  rintro _ ⟨va,fr,f,e,s0⟩ w9 ⟨z,ho,hrn⟩;have hh:=congrArg (λt:List (Nat×Nat)×Nat×Nat=>t.2.2) hrn;simp only at hh;have hrl1:=X4l l hsz9 (k+1);have hg:=congrArg (λt:List (Nat×Nat)×Nat×Nat=>t.1.length) hrn;simp only at hg;have hc:=PQ l (k+1);rw[UT,Ad,Db]at hc;obtain⟨cs9,cap9,hf,_⟩:=ho.cells F5;refine gn ?_;refine F3 (v:=I ↑(Gh l (k+1)).2.2) rfl (GJ rfl rfl (by unfold Fx;omega)) (by show I _=I _;congr 1;omega) (go ?_);refine dv 284 2 (ho.arr Ff).sl (F3 (v:=I ↑fr.length) rfl (Gz rfl rfl (by unfold Fx;simp;omega)) (by show I _=I _;congr 1;simp) (gn ?_));refine F3 (v:=I ↑(k+1)) rfl (GJ rfl rfl (by unfold Fx;omega)) (by show I _=I _;congr 1) (F3 (v:=Fg (base va).1 (fr.length*2)) rfl (Ii (e:=284) (k:=2) Fe ho.sl rfl rfl F5) (by rw[hf];show Fg _ (0+_)=_;rw[A0]) (go ?_));refine HO (enc:=KS) (sz:=2) (i:=fr.length) (j:=1) (x:=(f,k+1)) (vs:=[I ↑(k+1)]) Ff rfl ho rfl rfl rfl Fe F5 (by rw[BN,List.getElem?_concat_length];rfl) (Aa 2) (by intro v hv;rw[Af.1 hv];rfl) (.inl rfl) (λw10 hj xs10 J=>?_);have z:=z.own hj F4;have ho:=J;rw[X7d]at ho;refine go ?_;refine FJ (k+1,va) ⟨z,by omega,?_⟩;rw[UT,<-hrn];exact ho
 refine go ?_;rw[show k=l.length by omega]at ho;exact⟨_,rfl,z,ho⟩
def Gg (l:List Cell):Fh:=F6 (GU l).length++(GU l).flatMap (JC l)++F6 l.length++FA (Jl (HY l))
def ID (l:List Cell):Int:=if l.length<1\/4096<l.length then 1 else if Hl l≠0 then Hl l else HI (Gg l)
theorem Ug (h:l.length<1\/4096<l.length):ID l=1:=if_pos h
theorem X7e (h:¬ (l.length<1\/4096<l.length))(h2:Hl l≠0):ID l=Hl l:=by unfold ID;rw[if_neg h,if_pos h2]
theorem Xxf (h:¬ (l.length<1\/4096<l.length))(h2:Hl l=0):ID l=HI (Gg l):=by unfold ID;rw[if_neg h,if_neg (λe=>e h2)]
theorem XB (h:∀c∈l,Gk c=true):(∀c∈l,G5 c<=1000000)/\∀c∈l,c.key.length<=1000000000/\c.val.length<=1000000000:=by
 refine⟨λc z=>?_,λc z=>?_⟩
 ·have:=KF (h c z);unfold G5;omega
 ·have:=KF (h c z);omega
theorem Yak {A:Fh}{s:Int}(h1:1<=s)(h2:s<=1099511627776):A++[s].flatMap G4=A++F6 s.toNat:=by
 simp only [AF,Ci,AH];unfold G4;rw[Wo h1 h2]
theorem YC {a b:Nat}{ps:List (Nat×Nat)}(h:GO a ps b)(k:Nat):∃c,GO a (ps.take k) c/\c<=b:=by
 induction ps generalizing a k with
 | nil=>exact⟨a,by simp;rfl,Ch h⟩
 | cons p r ih=>
  cases k with
  | zero=>exact⟨a,rfl,by have:=GO.le (l:=p :: r) h;simp at this;omega⟩
  | succ k=>
   obtain⟨c,h1,h2⟩:=ih h.2.2.2 k;exact⟨c,⟨h.1,h.2.1,h.2.2.1,h1⟩,h2⟩
theorem X7f (h:∀c∈l,Gk c=true)(k:Nat):(GB l k).key.length<=4096:=by
 unfold GB
 cases e:l[k]? with
 | none=>simp [Cell.zero]
 | some c=>exact(KF (h c (Ag e))).1
theorem Xxg (h:∀c∈l,Gk c=true){p:Nat×Nat}(hp:p.1<p.2):(JC l p).length<=25000*(p.2-p.1):=by
 unfold JC FA;have h1:=X7f h (p.2-1);have h2:=Gq (GB l (p.2-1)).key.length;have h3:=Gq (GB l (p.2-1)).seq.toNat;have h4:=Gq (HA (II l p)).length;have h5:=Qv (l:=II l p) (λc J=>h c (Qt J));have z:(II l p).length<=p.2-p.1:=by unfold II;rw[AX,A7];omega
 have h7:20600*(II l p).length<=20600*(p.2-p.1):=CB _ z;simp only [Ad];omega
theorem Xxh (h:∀c∈l,Gk c=true){a b:Nat}{ps:List (Nat×Nat)}(hc:GO a ps b):(ps.flatMap (JC l)).length+25000*a<=25000*b:=by
 induction ps generalizing a with
 | nil=>have e:a=b:=hc;subst e;simp
 | cons p r ih=>
  have h1:=ih hc.2.2.2;have h2:=Xxg h (p:=p) (by have:=hc.1;have:=hc.2.1;omega);have h3:=hc.1;have h4:=hc.2.1;rw[AF,Ad];omega
theorem Rb (h:∀c∈l,Gk c=true)(k:Nat):(((GU l).take k).flatMap (JC l)).length<=25000*l.length:=by
 obtain⟨c,h1,h2⟩:=YC (N3 l l.length) k;have:=Xxh h h1;have:25000*c<=25000*l.length:=CB _ h2;show(((JU l l.length).take k).flatMap (JC l)).length<=_;omega
theorem Q3 {w:World}{v v2:Value}{bw:Nat}{Q:Nat->Prop}(hg:H0 w v v2)(h:∀k,Q k->¬ HR bw v k)(hlt:∀k,Q k->k<w.heap.size):∀k,Q k->¬ HR bw v2 k:=λk hk h2=>h k hk (Qg hg h2 (hlt k hk))
theorem UG (h:∀c∈l,Gk c=true)(hl:l.length<=4096):(Gg l).length<=25000*l.length+6000:=by
 unfold Gg;have h1:=Rb h (GU l).length;rw[AV]at h1;have h2:=Gq (GU l).length;have h3:=Gq l.length;have h4:(Jl (HY l)).length<=5130:=by rw[M6];have:=MI l l.length;unfold I6;unfold HY;omega
 have h5:=Gq (Jl (HY l)).length;unfold FA;simp only [Ad];omega
theorem Uz (l:List Cell)(v:Value)(w:World)(hv:Fs Cell.cs 4 w v l)(hl:l.length<=30000) :
  Gf 170 [v] w λu w'=>∃vb,u=.tuple #[vb,I (ID l)]/\(ID l=0->Fs Fq 1 w' vb (F7 (Gg l))/\w.heap.size<=(base vb).1):=by
 refine cE Tryz.func170 λJ=>FL 79 4 (hv.ext J).sl ?_;refine ds1 16 (λc1=>?_) λc1=>?_
 ·refine go ?_;refine GD rfl (go ?_);rw[Ug (.inl Fb)];exact⟨_,rfl,J,_,rfl,λe=>by simp at e⟩
 refine FL 79 4 (hv.ext J).sl ?_;refine Fk (λc2=>?_) λc2=>?_
 ·refine go ?_;rw[Ug (.inr Fb)];exact⟨_,rfl,J,_,rfl,λe=>by simp at e⟩
 refine Ge (Tz l v _ (hv.ext J) hl) λu1 w1 x1 yn=>?_;have hsz1:=J.size;have J:=J.trans x1;obtain⟨vb0,rfl,_⟩:=yn;refine Fk (λc3=>?_) λc3=>?_
 ·refine go ?_;rw[X7e Fb c3];exact⟨_,rfl,J,_,rfl,λe=>absurd e c3⟩
 have hE:Hl l=0:=AE c3;obtain⟨ha,hRis⟩:=LH.1 hE;obtain⟨x6,yv⟩:=XB ha;have ym:=PQ l l.length;have hpN:(GU l).length<=l.length:=ym;refine go ?_;refine aL [.slice none 0 0] λb1 w2 e1 x2 m1=>?_;have g1:=J.ge e1;have J:=J.trans x2;refine Ge (WN l v _ (hv.ext J) hl x6 yv) λvp w3 x3 yu=>?_;have xv:=J.size;refine Fz x3 m1 J λm1 J=>?_;have Z:=yu.mono xv;refine go ?_;refine dv 284 2 (Z.arr Ff).sl (li (e:=3) (sz:=1) (zs:=[.int .i64 0]) (pv:=[(0,_)]) (cs:=[_]) RX.all (λb2 w4 e2 x4 m2=>?_));have g2:=J.ge e2;have n2_1:=m1.ltb e2;have o2_hP:=Z.ltb e2;refine FB x4 m1 Z J λm1 Z J=>?_;have z:Wr w.heap.size b1 (.slice none 0 0) [] w4:=⟨m1,Vc.Own.nil⟩;have xu:∀Y,vp.ownBlock=some Y->¬ HR b1 (.slice none 0 0) Y:=λY O h=>h.elim (λe=>Z.ne_blk m1 rfl (e▸O)) (λe=>by cases e);have yc:=λY O=>(Z.lt Y O).2;refine cD (KT w.heap.size b1 (.slice none 0 0) _ [↑(GU l).length] (.slice (some ⟨b2,0,none⟩) 1 1) _ z (Ae (Aa 0:([]:Fh).length<=0) Fb) J.size (m2.arr (enc:=Vc.encI) (sz:=1) (l:=[↑(GU l).length]) rfl Ff rfl F5) F5 (λY O _ hq=>by have ht:b2=Y:=hq;subst ht;exact(O.elim (λh=>by omega) (λh=>by cases h)))) (.inl rfl) λu5 w5 x5 yf=>?_;have hsz5:=J.size;have Z:=Z.mod x5 xu;have J:=J.own x5 (λi hi=>z.ge g1 hi);obtain⟨rfl,v1,z,hf⟩:=yf;rw[NM Fb,AB]at z;have hln34:=trivial;have xm:=Q3 hf xu yc;refine go ?_;refine dv 284 2 (Z.arr Ff).sl (F9 (G:=Nat×Value) (λ(k,vc)=>[(0,v),(2,.slice none 0 0),(3,I 0),(6,Fg b1 0),(35,vp),(36,I ↑(GU l).length),(37,I ↑k)]) (λ(k,vc) w'=>Fp w w'/\k<=(GU l).length/\Wr w.heap.size b1 vc (F6 (GU l).length++((GU l).take k).flatMap (JC l)) w'/\Vc.Own KS 2 284 w.heap.size w' vp (GU l)/\(∀Y,vp.ownBlock=some Y->¬ HR b1 vc Y)) (λ(k,vc)=>(GU l).length-k) (0,v1) ⟨J,Ab _,by simpa using z,Z,xm⟩ ?_);rintro _ ⟨k,vc⟩ w6 ⟨J,hk9,z,Z,xm⟩;refine Fk (λc4=>?_) λc4=>?_
 ·obtain⟨p,hkp⟩:∃p,(GU l)[k]?=some p:=F8;have yd:=(N3 l l.length).mem (Ag hkp);obtain⟨c,hk⟩:∃c,l[p.2-1]?=some c:=F8;have hcs:=KF (ha c (Ag hk));have hsl:=Xi (l:=l) yd.2.2.1;have hsb:=Qv (l:=II l p) (λc hc=>ha c (Qt hc));have yr:=Rb ha k;have yy:=Gq (GU l).length;have xf:(F6 (GU l).length++((GU l).take k).flatMap (JC l)).length<=25000*l.length+10:=by rw[Ad];omega
  refine go ?_;refine di 284 2 (Z.arr Ff).sl rfl ((Z.arr Ff).lt hkp) (dq (Fy Fe rfl rfl ((Z.arr Ff).row hkp)) (aL [.int .i64 0,.int .i64 0] λb3 w7 e3 x7 m3=>?_));have g3:=J.ge e3;have hh:=z.lt;have o3_hP:=Z.ltb e3;refine FB x7 z Z J λz Z J=>Gc m3 (λw8 x8 xs8 m3=>?_);have z:=z.mod x8 (λY O h=>by have h2:Y=b3:=h;subst h2;exact A4 _ (AD (hh _ O) e3.symm));have Z:=Z.mod x8 Fw;have J:=J.o1 x8;refine gn ?_;refine F3 (v:=I ↑(p.2-1)) rfl (Gz rfl rfl (by unfold Fx;omega)) (by show I _=I _;congr 1;omega) (di 79 4 (hv.ext J).sl rfl ((hv.ext J).lt hk) (dq (Fy Fe rfl rfl ((hv.ext J).row hk)) (aL [S [],S [],B false,.int .i64 0] λb4 w9 e4 x9 m4=>?_)));have g4:=J.ge e4;have n4_3:=m3.ltb e4;have hj:=z.lt;have o4_hP:=Z.ltb e4;refine FP x9 z Z m3 J λz Z m3 J=>Gc m4 (λw10 h6 xs10 m4=>?_);have z:=z.mod h6 (λY O h=>by have h2:Y=b4:=h;subst h2;exact A4 _ (AD (hj _ O) e4.symm));have Z:=Z.mod h6 Fw;have m3:=m3.mo h6;have J:=J.o1 h6;refine go ?_;refine dp (H8 (e:=79) (k:=4) Fe (hv.ext J).sl rfl rfl rfl Fb Fb) ?_;have hz:=z.lt;refine cG (Tz (II l p) (Hb 4 v p.1 p.2) _ ((hv.ext J).slice Fb Fb) Fb) RX.all λu11 xh yk xx=>?_;have hsz11:=J.size;refine FV yk z Z m3 m4 J λz Z m3 m4 J=>?_;obtain⟨xl,rfl,hB⟩:=xx;rw[if_pos (Rl hE p)]at hB;have hEs:=Rl hE p;have hQ:∀Y,(λY=>Y=b3\/Y=b4\/xl.ownBlock=some Y\/vp.ownBlock=some Y) Y->¬ HR b1 vc Y:=λY O h=>by
   rcases O with O|O|O|O
   ·rw[O]at h;exact A4 _ (AD (hh _ h) e3.symm)
   ·rw[O]at h;exact A4 _ (AD (hj _ h) e4.symm)
   ·have h8:=hz _ h;have h7:=(hB.lt _ O).1;omega
   ·exact xm Y O h
  have xn:∀Y,(λY=>Y=b3\/Y=b4\/xl.ownBlock=some Y\/vp.ownBlock=some Y) Y->Y<xh.heap.size:=λY O=>by
   rcases O with O|O|O|O
   ·rw[O];exact m3.lt
   ·rw[O];exact m4.lt
   ·exact(hB.lt _ O).2
   ·exact(Z.lt _ O).2
  have hS:Sz xh.heap.size xh:=⟨Aa _⟩;refine gw ?_;refine JM [.p,.l,.x,.x,.x] rfl (go ?_);refine KC (e:=5) rfl Fe Fe Fe rfl RX.all (λb5 xp w12 e5 yl xk=>?_);have g5:=J.ge e5;have n5_4:=m4.ltb e5;have xb:=z.lt;have o5_hP:=Z.ltb e5;have a5_hS:=hS.le;refine H3 yl z Z m4 hB hS J λz Z m4 hB hS J=>li (e:=82) (sz:=1) (zs:=[.slice none 0 0]) (pv:=[(0,_)]) (cs:=[_]) RX.all (λb6 w13 e6 yg m6=>?_);have g6:=J.ge e6;have n6_4:=m4.ltb e6;have xe:=z.lt;have o6_hP:=Z.ltb e6;have a6_hS:=hS.le;refine Lk yg z Z m4 hB hS xk J λz Z m4 hB hS xk J=>?_;have hg:=λY O=>Ax (xn Y O) hS.le;refine cD (Mb w.heap.size b1 vc _ [(.slice (some ⟨b5,0,none⟩) c.key.length xp,c.key)] (.slice (some ⟨b6,0,none⟩) 1 1) _ z (Ae xf Fb) J.size (Lf m6) (λq h=>by rw[Af.1 h];exact xk) (λq h=>by rw[Af.1 h];exact(show c.key.length<=1000000 by omega)) F5 (λ_ O=>(A4 b6 (AD (xe _ O) e6.symm))) (λq h hl O=>by rw[Af.1 h]at hl O;exact(A4 b5 (AD (xb _ O) e5.symm)))) (.inl rfl) λu14 w14 hr xq=>?_;have hsz14:=J.size;have Z:=Z.mod hr Fw;have m4:=m4.mod hr (hQ _ (.inr (.inl rfl)));have hB:=hB.mod hr (λY O=>hQ Y (.inr (.inr (.inl O))));have hS:=hS.mod hr trivial;have J:=J.own hr (λi hi=>z.ge g1 hi);obtain⟨rfl,v2,z,hf⟩:=xq;rw[Ks]at z;have hy:=P1 (p:=c.key) (M:=4096) xf Fb;have hQ:=Q3 hf hQ hg;refine go ?_;refine li (e:=3) (sz:=1) (zs:=[.int .i64 0]) (pv:=[(0,_)]) (cs:=[_]) RX.all (λb7 w15 e7 y3 m7=>?_);have g7:=J.ge e7;have o7_hP:=Z.ltb e7;have a7_hS:=hS.le;have xc:=z.lt;refine FV y3 Z hB hS z J λZ hB hS z J=>?_;have hg:=λY O=>Ax (xn Y O) hS.le;refine cD (KT w.heap.size b1 v2 _ [c.seq] (.slice (some ⟨b7,0,none⟩) 1 1) _ z (Ae hy Fb) J.size (m7.arr (enc:=Vc.encI) (sz:=1) (l:=[c.seq]) rfl Ff rfl F5) F5 (λY O _ hq=>by have ht:b7=Y:=hq;subst ht;exact(A4 b7 (AD (xc _ O) e7.symm)))) (.inl rfl) λu16 w16 h5 x0=>?_;have hsz16:=J.size;have Z:=Z.mod h5 (λY O=>hQ Y (.inr (.inr (.inr O))));have hB:=hB.mod h5 (λY O=>hQ Y (.inr (.inr (.inl O))));have hS:=hS.mod h5 trivial;have J:=J.own h5 (λi hi=>z.ge g1 hi);obtain⟨rfl,v3,z,hf⟩:=x0;rw[Yak Fb Fb]at z;have xj:=Ql (n:=c.seq.toNat) hy;have hQ:=Q3 hf hQ hg;refine go ?_;refine Io (e:=82) (sz:=1) (zs:=[.slice none 0 0]) (pv:=[(0,?a39_0)]) (cs:=[?a39_0]) rfl Fe ⟨rfl,rfl⟩ Fe rfl ?h39 ?f39 RX.all (λb8 w17 e8 yi m8=>?k39)
  case h39=>refine⟨rfl,?_,trivial⟩<;>(conv=>lhs;whnf)
  case f39=>simp [Hm,Gr,An,hB.sl.cells]
  have g8:=J.ge e8;have o8_hP:=Z.ltb e8;have a8_hS:=hS.le;have xa:=z.lt;refine FV yi Z hB hS z J λZ hB hS z J=>?_;have hg:=λY O=>Ax (xn Y O) hS.le;refine cD (Mb w.heap.size b1 v3 _ [(xl,HA (II l p))] (.slice (some ⟨b8,0,none⟩) 1 1) _ z (Ae xj Fb) J.size (Lf m8) (λq h=>by rw[Af.1 h];exact(hB.arr Ff)) (λq h=>by rw[Af.1 h];exact(show(HA (II l p)).length<=1000000 by omega)) F5 (λ_ O=>(A4 b8 (AD (xa _ O) e8.symm))) (λq h hl O=>by rw[Af.1 h]at hl O;exact hQ _ (.inr (.inr (.inl (hB.base_block hl)))) O)) (.inl rfl) λu18 w18 xr yb=>?_;have hsz18:=J.size;have Z:=Z.mod xr (λY O=>hQ Y (.inr (.inr (.inr O))));have J:=J.own xr (λi hi=>z.ge g1 hi);obtain⟨rfl,v4,z,hf⟩:=yb;rw[Ks]at z;have hln68:=trivial;have hQ:=Q3 hf hQ hg;refine go ?_;refine FJ (k+1,v4) ⟨J,by omega,?_,Z,λY O=>hQ Y (.inr (.inr (.inr O)))⟩;have yp:JC l p=FA c.key++F6 c.seq.toNat++FA (HA (II l p)):=by unfold JC;rw[FY hk]
  rw[GQ hkp,Bb,AF,Ci,yp];simpa only [A3,AH]using z
 have yr:=Rb ha k;have yy:=Gq (GU l).length;have xg:(F6 (GU l).length++((GU l).take k).flatMap (JC l)).length<=25000*l.length+10:=by rw[Ad];omega
 refine FL 79 4 (hv.ext J).sl ?_;refine li (e:=3) (sz:=1) (zs:=[.int .i64 0]) (pv:=[(0,_)]) (cs:=[_]) RX.all (λb9 w19 e9 yh m9=>?_);have g9:=J.ge e9;have xd:=z.lt;refine Fz yh z J λz J=>cD (KT w.heap.size b1 vc _ [↑l.length] (.slice (some ⟨b9,0,none⟩) 1 1) _ z (Ae xg Fb) J.size (m9.arr (enc:=Vc.encI) (sz:=1) (l:=[↑l.length]) rfl Ff rfl F5) F5 (λY O _ hq=>by have ht:b9=Y:=hq;subst ht;exact(A4 b9 (AD (xd _ O) e9.symm)))) (.inl rfl) λu20 w20 yj xt=>?_;have hsz20:=J.size;have J:=J.own yj (λi hi=>z.ge g1 hi);obtain⟨rfl,v5,z,hf⟩:=xt;rw[NM Fb]at z;have hw:=Ql (n:=l.length) xg;refine Ge (Us l v _ (hv.ext J) hl) λvK w21 y4 Z0=>?_;have xi:=J.size;refine Fz y4 z J λz J=>?_;have hK:=Z0.mono xi;have hz:=z.lt;refine cG (YD (HY l) vK _ (hK.arr Ff) (by have:=MI l l.length;unfold HY;omega) (λs9 O=>by obtain⟨c9,yz,rfl⟩:=Xk7 (Aa _) O;have:=KF (ha c9 yz);omega)) RX.all λvM w22 yx hM=>?_;have hsz22:=J.size;refine Fz yx z J λz J=>?_;refine Io (e:=82) (sz:=1) (zs:=[.slice none 0 0]) (pv:=[(0,?a44_0)]) (cs:=[?a44_0]) rfl Fe ⟨rfl,rfl⟩ Fe rfl ?h44 ?f44 RX.all (λxy w23 xo yo yt=>?k44)
 case h44=>refine⟨rfl,?_,trivial⟩<;>(conv=>lhs;whnf)
 case f44=>simp [Hm,Gr,An,hM.sl.cells]
 have g10:=J.ge xo;have hp:=z.lt;refine FB yo z hM J λz hM J=>cD (Mb w.heap.size b1 v5 _ [(vM,Jl (HY l))] (.slice (some ⟨xy,0,none⟩) 1 1) _ z (Ae hw Fb) J.size (Lf yt) (λq h=>by rw[Af.1 h];exact(hM.arr Ff)) (λq h=>by rw[Af.1 h];exact(show(Jl (HY l)).length<=1000000 by rw[M6];have:=MI l l.length;unfold I6 HY;omega)) F5 (λ_ O=>(A4 xy (AD (hp _ O) xo.symm))) (λq h hl O=>by rw[Af.1 h]at hl O;exact(by have h8:(base vM).1<_:=hz _ O;have h7:=(hM.base_ge hl).1;omega))) (.inl rfl) λu24 w24 y1 ya=>?_;have hsz24:=J.size;have J:=J.own y1 (λi hi=>z.ge g1 hi);obtain⟨rfl,v6,z,hf⟩:=ya;rw[Ks]at z;have hln78:=P1 (p:=Jl (HY l)) (M:=1000000) hw (by rw[M6];have:=MI l l.length;unfold I6 HY;omega);refine Ge (Od w.heap.size b1 v6 _ _ z Fb) λvo w25 y2 hO=>?_;have hsz25:=J.size;have J:=J.trans y2;rw[show k=(GU l).length by omega,AV]at hO;change Vc.Own Fq 1 _ _ _ vo (Gg l)at hO;refine Io (e:=82) (sz:=1) (zs:=[.slice none 0 0]) (pv:=[(0,?a45_0)]) (cs:=[?a45_0]) rfl Fe ⟨rfl,rfl⟩ Fe rfl ?h45 ?f45 RX.all (λb11 w26 yq ye y0=>?k45)
 case h45=>refine⟨rfl,?_,trivial⟩<;>(conv=>lhs;whnf)
 case f45=>simp [Hm,Gr,An,hO.sl.cells]
 have g11:=J.ge yq;refine Fz ye hO J λhO J=>cG (SP (Gg l) vo _ _ (y0.arr (enc:=λx:Value=>[x]) (sz:=1) (l:=[vo]) rfl Ff rfl F5) (hO.arr Ff) (by have:=UG ha Fb;omega)) RX.all λu27 w27 yw xw=>?_;have hsz27:=J.size;have J:=J.trans yw;obtain⟨vb,rfl,xz⟩:=xw;refine go ?_;rw[Xxf Fb hE];exact⟨_,rfl,J,_,rfl,λe=>⟨(xz e).1,by have:=(xz e).2;omega⟩⟩
end Go.Proofs.YtiooodckiddpmaaGreatDoor
namespace Go.Vc
open Go.RowKit Go.Maps
@[reducible] def GH (p:Int×Int):Value:=.agg ⟨[I p.1,I p.2]⟩
def Kq (p:Int×Int):Prop:=Fx p.1/\Fx p.2
theorem X10 (x y:Int×Int)(h:GH x=GH y):x=y:=by
 simp [GH]at h;exact Dv h.1 h.2
variable {P:Program}{e:Nat}
theorem YT {d:Nat}(he:P.underlying e=some (.int .i64)){n:Int}(hn:Fx n):P.keyLits (d+1) e [I n]=some [.int .i64 n]:=by
 have z:(Lit.int .i64 n).wf=true:=by
  unfold Fx at hn;simp [Lit.wf,IntKind.min,IntKind.max,IntKind.signed,IntKind.bits];omega
 simp [Program.keyLits,he,z]
theorem WK {d:Nat}(he:P.underlying e=some (.int .i64)){cs:List Value}{l:List Lit}(h:P.keyLits (d+1) e cs=some l):∃n:Int,cs=[I n]/\Fx n:=by
 unfold Program.keyLits at h;rw[he]at h
 match cs,h with
 | [.int q' n],h=>
  simp only []at h;split at h
  ·rename_i J;obtain⟨rfl,z⟩:=J;refine⟨n,rfl,?_⟩;have hw':-9223372036854775808<=n/\n<=9223372036854775807:=by simpa [Lit.wf,IntKind.min,IntKind.max,IntKind.signed,IntKind.bits]using z
   unfold Fx;omega
  ·cases h
def Ri (P:Program)(k i:Nat):Prop:=∀d cs,P.keyLits (d+1) k cs=if cs.length=2 then((P.keyLits d i (cs.take 1)).bind λa=>(P.keyLits d i ((cs.drop 1).take 1)).bind λb=>some [a,b]).map List.flatten else none
variable {i k:Nat}
theorem Xt3 (hk:P.underlying k=some (.array 2 i))(hc:P.cellsOf k=2)(hi:P.cellsOf i=1):Ri P k i:=λd cs=>by
 rw[Program.keyLits.eq_def];simp only [hk,hc,hi];rfl
theorem Ya (hs : (match P.underlying k with | some (.struct fs) => decide (fs.toList.map (λ f => (f.type, f.offset)) = [(i, 0), (i, 1)]) && fs.all (·.name != "_") | _ => false) = true)(hc : P.cellsOf k = 2)(hi : P.cellsOf i = 1): Ri P k i := λ d cs => by
 split at hs
 ·rename_i fs hk;rw[Aq,decide_eq_true_eq]at hs;obtain⟨hf,ha⟩:=hs;rw[Program.keyLits.eq_def];simp only [hk,hc,ha,and_true];obtain⟨f0,r0,h0,h1,h2⟩:=EA.1 hf;obtain⟨f1,r1,h3,h4,h5⟩:=EA.1 h2;have h6:=List.map_eq_nil_iff.1 h5;subst h6 h3;rw[h0];simp only [B5.injEq]at h1 h4;simp only [List.mapM_cons,List.mapM_nil,h1.1,h1.2,h4.1,h4.2,hi,Cw,Ce,Option.bind_eq_bind,Option.pure_def,Option.bind_some]
  cases P.keyLits d i (AL 1 cs)<;>cases P.keyLits d i (AL 1 (List.drop 1 cs))<;>rfl
 ·cases hs
theorem Tu {α:Type}{t:Nat}{av:α->Value}(hl:laidOutB P=true)(hu:P.underlying t=some (.map k e))(hL:Ri P k i)(hi:P.underlying i=some (.int .i64))(hc:P.cellsOf k=2)(hwide:(match P.underlying k with|some (.array _ _)|some (.struct _)=>true|_=>false)=true)(hkt:P.keyType k=true)(hka:P.keyTypeAt 2 k=true)(hrow:Nat.blt k P.types.size=true)(ha:∀a b,av a=av b->a=b):MapK P t k e GH av Kq:=by
 have Y:k<P.types.size:=by simpa [Nat.blt_eq]using hrow
 obtain⟨d,hd⟩:∃d,P.types.size=d+1:=⟨P.types.size-1,by omega⟩;have hg:∀v,keyOf P k v=if P.keyType k && v.formed P k then(P.keyLits (P.types.size+1) k v.cells.toList).map λls=>.string (keyBytes ls)else none:=λv=>by
  unfold keyOf;split at hwide
  ·rename_i h;rw[h]
  ·rename_i h;rw[h]
  ·cases hwide
 have z:∀cs:Array Value,(Value.agg cs).formed P k=decide (cs.size=2):=λcs=>by
  split at hwide
  ·rename_i h;simp [Value.formed,h,hc];rfl
  ·rename_i h;simp [Value.formed,h,hc];rfl
  ·cases hwide
 have O:∀v:Value,v.formed P k=true->∃cs,v=.agg cs:=λv Z=>by
  split at hwide
  ·rename_i h;cases v<;>simp [Value.formed,h]at Z;exact⟨_,rfl⟩
  ·rename_i h;cases v<;>simp [Value.formed,h]at Z;exact⟨_,rfl⟩
  ·cases hwide
 refine⟨hu,Keyed.of_law (deep_law_laid hl (m:=2) Fb Y hka hwide),λx hx=>?_,λv l hv=>?_,X10,ha⟩
 ·refine⟨.string (keyBytes ([[.int .i64 x.1],[.int .i64 x.2]].flatten)),?_⟩;rw[hg,hkt,z,hd,hL];simp only [Value.cells,AA,Bl,if_true,C0,List.take_zero,List.drop_succ_cons,Ce,YT hi hx.1,YT hi hx.2];rfl
 ·rw[hg,hkt,C1]at hv;split at hv
  ·rename_i Z;obtain⟨cs,rfl⟩:=O v Z;rw[z,decide_eq_true_eq]at Z;simp only [hd,Value.cells,Bp]at hv;obtain⟨ls,J,_⟩:=hv;rw[hL]at J;split at J
   ·simp only [Bp,Option.bind_eq_some_iff]at J;obtain⟨_,⟨a,hA,b,hB,_⟩,_⟩:=J;obtain⟨n,h1,hn⟩:=WK hi hA;obtain⟨m,h2,hm⟩:=WK hi hB;refine⟨(n,m),?_,hn,hm⟩;show Value.agg cs=.agg ⟨_⟩
    congr 1
    apply Array.toList_inj.1
    have hlen:cs.toList.length=2:=by simpa using Z
    rw[<-AS 1 cs.toList,h1];have:cs.toList.drop 1=(cs.toList.drop 1).take 1:=by rw[Ar (by simp;omega)]
    rw[this,h2];rfl
   ·cases J
  ·cases hv
theorem mapI {α:Type}{t k e:TypeId}{av:α->Value}(hu:P.underlying t=some (.map k e))(hk:P.underlying k=some (.int .i64))(ha:∀a b,av a=av b->a=b):MapK P t k e I av Fx:=
 ⟨hu,int_keyed hk,λx O=>⟨.int .i64 x,by
  have J:(Lit.int .i64 x).wf=true:=by
   unfold Fx at O;simp [Lit.wf,IntKind.min,IntKind.max,IntKind.signed,IntKind.bits];omega
  simp [keyOf,hk,mapKey,J]⟩,λv l z=>by
  simp only [keyOf,hk]at z
  cases v<;>simp [mapKey,hk]at z
  rename_i q n;obtain⟨⟨rfl,J⟩,rfl⟩:=z;refine⟨n,rfl,?_⟩;have hw':-9223372036854775808<=n/\n<=9223372036854775807:=by simpa [Lit.wf,IntKind.min,IntKind.max,IntKind.signed,IntKind.bits]using J
  unfold Fx;omega,λx y h=>by simpa using h,ha⟩
end Go.Vc
namespace Go.Proofs.YtiooodckiddpmaaGreatDoor
open Go.Vc Go.Sp
attribute [local irreducible] W XW Dw G9
theorem U4 (a b:Bool)(h:Value.bool a=.bool b):a=b:=by simpa using h
theorem YI : MapK Tryz.prog 183 284 4 GH B Kq:=Tu (i:=3) Fe Fe (Ya Fe Fe Fe) Fe Fe Fe Fe Fe Fe U4
structure TblE (bt:Nat)(vl vb:Value)(l:List Cell)(w:World):Prop where
 m:∃vp,Fo w bt [vl,vp,vb] 185
 a:Fs Cell.cs 4 w vl l
 b:Fs Fq 1 w vb (Jl (HY l))
 ok:ID l=0
@[reducible] def Ke (bt:Nat) (vl vb:Value):Nat->Prop:=λk=>k=bt\/k=(base vl).1\/k=(base vb).1
variable {l:List Cell}
theorem Nv (h:ID l=0):1<=l.length/\l.length<=4096/\Hl l=0/\HI (Gg l)=0:=by
 unfold ID at h;split at h
 ·simp at h
 ·split at h
  ·rename_i h2;exact absurd h h2
  ·rename_i h1 h2;exact⟨by omega,by omega,AE h2,h⟩
variable {bt:Nat}{vb vl:Value}{w:World}
theorem TblE.mod {S:Nat->Prop}{w':World}(h:TblE bt vl vb l w)(x:Vc.Mod S w w')(hS:∀k,Ke bt vl vb k->¬ S k):TblE bt vl vb l w':=by
 obtain⟨⟨vp,h1⟩,h2,h3,h4⟩:=h;exact⟨⟨vp,h1.mod x (hS _ (.inl rfl))⟩,h2.mod x (λ_=>hS _ (.inr (.inl rfl))),h3.mod x (λ_=>hS _ (.inr (.inr rfl))),h4⟩
theorem TblE.ext {w':World}(h:TblE bt vl vb l w)(x:Fp w w'):TblE bt vl vb l w':=h.mod x (λ_ _ h=>h)
instance {bt : Nat} {vl vb:Value} {l:List Cell} {w w':World} : Up w w' (TblE bt vl vb l w) (TblE bt vl vb l w'):=⟨λx h=>TblE.ext h x⟩
theorem TblE.lt (h:TblE bt vl vb l w):∀k,Ke bt vl vb k->k<w.heap.size:=by
 obtain⟨⟨vp,h1⟩,h2,h3,h4⟩:=h;have hb:=Nv h4;rintro k (rfl|rfl|rfl)
 ·exact h1.lt
 ·exact h2.base_lt Fj (λe=>by rw[e]at hb;simp at hb)
 ·exact h3.base_lt Fj (λe=>by have z:=M6 (HY l);rw[e]at z;unfold I6 at z;simp at z;omega)
theorem Xob {α β:Type}(f:α->List β)(l:List α)(k:Nat):((l.drop k).flatMap f).length<=(l.flatMap f).length:=by
 have h:=congrArg (λm=>(m.flatMap f).length) (AS k l);simp only [Bb,Ad]at h;omega
theorem Xqb (l:List Cell)(k:Nat):(((GU l).take k).flatMap (II l)).length<=l.length:=by
 obtain⟨c,h1,h2⟩:=YC (N3 l l.length) k;unfold GU;rw[VI h1,AX,A7];omega
theorem Xxj (l:List Cell):(GU l).flatMap (II l)=l:=by
 unfold GU;rw[VI (N3 l l.length)];simp
theorem Yi (l:List Cell):Gg l=F6 (GU l).length++(((GU l).flatMap (JC l))++(F6 l.length++FA (Jl (HY l)))):=by unfold Gg;simp only [A3]
theorem Yan (l:List Cell)(v:Value)(w:World)(hv:Fs Fq 1 w v (F7 (Gg l)))(hb:ID l=0) :
  Gf 124 [v] w λu w'=>∃bt vl vb,u=.tuple #[Fg bt 0,I 0]/\TblE bt vl vb l w'/\∀k,Ke bt vl vb k->w.heap.size<=k:=by
 refine cE Tryz.func124 λz=>?_;obtain⟨xa,hl2,hE,yd⟩:=Nv hb;obtain⟨ha,hRis⟩:=LH.1 hE;obtain⟨xc,yb⟩:=XB ha;have htl:=Vp yd;have xr:=PQ l l.length;have hpN:(GU l).length<=l.length:=xr;have hmk:(Jl (HY l)).length<=5130:=by rw[M6];have:=MI l l.length;unfold I6;unfold HY;omega
 have ye:(F7 (Gg l)).length<=2001000020:=by rw[KA];omega
 have h6:=congrArg A5 (Yi l);simp only [Ad]at h6;have hz:F6 (GU l).length++(((GU l).flatMap (JC l))++(F6 l.length++FA (Jl (HY l))))≠[]:=λe=>by
  have Z:=congrArg A5 e;have h8:1<=(F6 (GU l).length).length:=Un 9 _;rw[Ad,Bl]at Z;omega
 refine Ge (Ycr (F7 (Gg l)) v _ (hv.ext z) ye) λu1 w1 x1 xv=>?_;have hsz1:=z.size;have z:=z.trans x1;obtain⟨vo,rfl,hV⟩:=xv;rw[XS _ Fb]at hV;refine Fk (λc1=>?_) λc1=>?_
 ·rw[XS _ Fb]at c1;simp at c1
 refine Ge (Xr (Gg l) vo _ (hV.arr Ff) Fb) λu2 w2 x2 x0=>?_;have hh:=z.size;have z:=z.trans x2;obtain⟨br,bb,xe,rfl,xg,gbb,hR⟩:=x0;have hbr:w.heap.size<=br:=Ae hh xg;have hj:=hR.lt;rw[Yi]at hR hj;have xp:=Ae hh x2.size;have hS:Sz w2.heap.size w2:=⟨Aa _⟩;refine Gw (QF br bb xe _ false _ hR (by simp only [Ad];omega)) λu3 w3 x3 xz=>?_;have hsz3:=z.size;have hS:=hS.mod x3 trivial;have z:=z.own x3 F4;obtain⟨hr,yi,hR⟩:=xz;rw[NT _ _ Fb]at hr hR;dsimp only at hr hR;subst hr;refine F9 (G:=Nat×Value×Value) (λ(k,vc,vl)=>[(0,v),(5,I (Je (F7 (Gg l))).2),(6,Fg br 0),(7,vl),(25,I ↑(GU l).length),(26,I ↑k)]) (λ(k,vc,vl) w'=>Fp w w'/\k<=(GU l).length/\Rd br bb vc ((((GU l).drop k).flatMap (JC l))++(F6 l.length++FA (Jl (HY l)))) false w'/\Vc.Own Cell.cs 4 79 w2.heap.size w' vl (((GU l).take k).flatMap (II l))/\Sz w2.heap.size w') (λ(k,vc,vl)=>(GU l).length-k) (0,yi,.slice none 0 0) ⟨z,Ab _,hR,Vc.Own.nil,hS⟩ ?_;rintro _ ⟨k,vc,vl⟩ w4 ⟨z,hk9,hR,ho,hS⟩;refine Fk (λc2=>?_) λc2=>?_
 ·obtain⟨p,hkp⟩:∃p,(GU l)[k]?=some p:=F8;have hw:=(N3 l l.length).mem (Ag hkp);obtain⟨c,hk⟩:∃c,l[p.2-1]?=some c:=F8;have hcs:=KF (ha c (Ag hk));have hsl:=Xi (l:=l) hw.2.2.1;have hsb:=Qv (l:=II l p) (λc hc=>ha c (Qt hc));have hfd:=Xob (JC l) (GU l) k;have hfs:=Xqb l k;have xd:((((GU l).drop k).flatMap (JC l))++(F6 l.length++FA (Jl (HY l))))=(FA c.key++(F6 c.seq.toNat++(FA (HA (II l p))++(((GU l).drop (k+1)).flatMap (JC l)++(F6 l.length++FA (Jl (HY l))))))):=by rw[IW hkp,AF];unfold JC;rw[FY hk];simp only [A3]
  have xw:=congrArg A5 xd;simp only [Ad]at xw;refine go ?_;rw[xd]at hR;refine cD (Pt br bb vc _ false _ hR (by simp only [Ad];omega)) (.inl rfl) λu5 w5 x5 xh=>?_;have hsz5:=z.size;have ho:=ho.mod x5 (λk9 Z e=>ho.ne_blk hR.m rfl (by rw[Z];exact congrArg some e));have hS:=hS.mod x5 trivial;have z:=z.own x5 F4;obtain⟨_,yf,hR⟩:=xh;rw[P4 _ _ _ Fb]at hR;dsimp only at hR;refine Gw (QF br bb yf _ false _ hR (by simp only [Ad];omega)) λu6 w6 x6 yk=>?_;have hsz6:=z.size;have ho:=ho.mod x6 (λk9 Z e=>ho.ne_blk hR.m rfl (by rw[Z];exact congrArg some e));have hS:=hS.mod x6 trivial;have z:=z.own x6 F4;obtain⟨rfl,yg,hR⟩:=yk;rw[NT _ _ Fb]at hR;dsimp only at hR;refine Gw (Pt br bb yg _ false _ hR (by simp only [Ad];omega)) λuB w7 x7 x4=>?_;have hsz7:=z.size;have ho:=ho.mod x7 (λk9 Z e=>ho.ne_blk hR.m rfl (by rw[Z];exact congrArg some e));have hS:=hS.mod x7 trivial;have z:=z.own x7 F4;obtain⟨hB,hy,hR⟩:=x4;rw[P4 _ _ _ Fb]at hB hR;dsimp only at hB hR;refine cG (X1y (II l p) uB _ (hB.arr Ff) Fb (Rl hE p)) RX.all λu8 w8 x8 xo=>?_;have hsz8:=z.size;refine FP x8 ho hS hR z λho hS hR z=>?_;obtain⟨vC,rfl,hC⟩:=xo;refine Gp (X38 br bb hy _ false _ hR) λw9 x9=>FV x9 ho hS hR hC z λho hS hR hC z=>?_;refine go ?_;refine Il 41 rfl (λc3=>?_) (λc3=>?_)
  ·simp at c3
  refine Fk (λc4=>?_) λc4=>?_
  ·exact absurd rfl c4
  refine go ?_;refine Hf ho (hC.arr Ff) (λxy w10 h5 hp=>?_) (hB:=hS.le);have hS:=hS.mod hp Fw;have hR:=hR.mod hp (by intro k9 Z e9;have h8:=hj k9 (LF (λ_=>hz) Z);have h7:=(ho.lt k9 e9).1;omega);have z:=z.own hp (λi hi=>(Ae xp (ho.lt i hi).1));have ho:=h5;refine go ?_;refine FJ (k+1,hy,xy) ⟨z,by omega,hR,?_,hS⟩;rw[GQ hkp,Bb,AF,Ci,AH];exact ho
 have xu:k=(GU l).length:=by omega
 rw[xu,AV,Xxj]at ho;have O:=ho;refine Ge (Uz l vl _ (O.arr Ff) Fb) λu11 w11 xm xb=>?_;have hsz11:=z.size;refine FB xm hR O z λhR O z=>?_;obtain⟨xq,rfl,yc⟩:=xb;have xx:=(yc hb).1;refine ds1 56 (λc5=>?_) λc5=>?_
 ·exact absurd hb c5
 refine Gp (SS (F7 (Gg l)) (F7 (Gg l)) xq v _ xx (hv.ext z)) λw12 xn=>FB xn hR O z λhR O z=>?_;refine FZ (λc6=>?_) λc6=>?_
 ·simp at c6
 refine go ?_;refine Qz YI rfl RX.all (λb1 w13 e1 xi J=>?_);have g1:=z.ge e1;have a1_hR:=hR.lt;have o1_hL:=O.ltb e1;refine FB xi hR O z λhR O z=>Ge (Us l vl _ (O.arr Ff) Fb) λvK w14 xt hK=>?_;have hsz14:=z.size;refine FP xt hR O J z λhR O J z=>cG (YD (HY l) vK _ (hK.arr Ff) (by have:=MI l l.length;unfold HY;omega) (λs9 Z=>by obtain⟨c9,yh,rfl⟩:=Xk7 (Aa _) Z;have:=KF (ha c9 yh);omega)) RX.all λvM w15 yl xk=>?_;have hl:=z.size;refine FP yl hR O J z λhR O J z=>?_;have Y:=xk.mono hl;refine dp (LI (zs:=[.slice none 0 0,.map none,.slice none 0 0]) (pl:=[(0,1),(1,1),(2,1)]) (pv:=[(0,?a40_0),(1,?a40_1),(2,?a40_2)]) (cs:=[?a40_0,?a40_1,?a40_2]) Fe Fe ?h40 ?f40) ?k40
 case h40=>refine⟨rfl,?_,rfl,?_,rfl,?_,trivial⟩<;>(conv=>lhs;whnf)
 case f40=>rcases O.sl with⟨e,_⟩|⟨_,_,_,e,_⟩|⟨_,_,_,e⟩<;>rcases Y.sl with⟨e2,_⟩|⟨_,_,_,e2,_⟩|⟨_,_,_,e2⟩<;>rw[e,e2]<;>rfl
 refine Gx rfl rfl rfl RX.all (λb2 w16 e2 xf m2=>?_);have g2:=z.ge e2;have n2_mp1:=J.lt;have a2_hR:=hR.lt;have o2_hL:=O.ltb e2;have o2_hM:=Y.ltb e2;refine FV xf hR O J Y z λhR O J Y z=>Ge (WN l vl _ (O.arr Ff) Fb xc yb) λvP w17 xl ya=>?_;have hq:=z.size;refine H3 xl hR O J Y m2 z λhR O J Y m2 z=>?_;have hP:=ya.mono hq;refine dv 284 2 (hP.arr Ff).sl (F9 (G:=Nat×(Int×Int->Option Bool)) (λ(k,fm)=>[(11,Fg b2 0),(70,vP),(71,I ↑(GU l).length),(72,I ↑k)]) (λ(k,fm) w'=>Fp w w'/\Vc.Own Cell.cs 4 79 w2.heap.size w' vl l/\Vc.Own Fq 1 5 w.heap.size w' vM (Jl (HY l))/\Fo w' b2 [vl,.map (some b1),vM] 185/\Vc.Own KS 2 284 w.heap.size w' vP (GU l)/\k<=(GU l).length/\Vc.Xbf Tryz.prog 284 GH B w' b1 k fm) (λ(k,fm)=>(GU l).length-k) (0,λ_=>none) ⟨z,O,Y,m2,hP,Ab _,J⟩ ?_);rintro _ ⟨k,fm⟩ w18 ⟨z,O,Y,m2,hP,hk9,J⟩;refine Fk (λc7=>?_) λc7=>?_
 ·obtain⟨p,hkp⟩:∃p,(GU l)[k]?=some p:=F8;have hw:=(N3 l l.length).mem (Ag hkp);refine go ?_;refine di 284 2 (hP.arr Ff).sl rfl ((hP.arr Ff).lt hkp) (dq (Fy Fe rfl rfl ((hP.arr Ff).row hkp)) (aL [.int .i64 0,.int .i64 0] λb3 w19 e3 xj m3=>?_));have g3:=z.ge e3;have n3_2:=m2.ltb e3;have n3_mp1:=J.lt;have o3_hL:=O.ltb e3;have o3_hM:=Y.ltb e3;have o3_hP:=hP.ltb e3;refine H3 xj O Y m2 hP J z λO Y m2 hP J z=>Gc m3 (λw20 hf xs20 m3=>?_);have O:=O.mod hf Fw;have Y:=Y.mod hf Fw;have m2:=m2.mo hf;have hP:=hP.mod hf Fw;have J:=J.mod hf Fw;have z:=z.o1 hf;refine Gn 1511000 λw21 yn=>Lk yn O Y m2 hP J m3 z λO Y m2 hP J m3 z=>?_;refine go ?_;refine Gd rfl (λw' hR=>Fy (k:=2) Fe rfl rfl (m3.ext hR).row) ?_;refine OM YI (kx:=((p.1:Int),(p.2:Int))) (a:=true) rfl rfl rfl rfl J (by unfold Kq Fx;constructor<;>simp<;>omega) (by unfold maxLen;omega) (.inl rfl) (λw22 hg xs22 ht=>?_);have O:=O.mod hg (by exact(λk hk e=>J.ne_own O (hk.trans (congrArg some e))));have Y:=Y.mod hg (by exact(λk hk e=>J.ne_own Y (hk.trans (congrArg some e))));have m2:=m2.mod hg Fw;have hP:=hP.mod hg (by exact(λk hk e=>J.ne_own hP (hk.trans (congrArg some e))));have z:=z.own hg F4;have J:=ht;refine go ?_;exact⟨(k+1,_),He,⟨z,O,Y,m2,hP,by omega,J⟩,by simp only [];omega⟩
 refine go ?_;have yj:l≠[]:=λe=>by rw[e]at xa;simp at xa
 have ym:Jl (HY l)≠[]:=λe=>by have Z:=M6 (HY l);rw[e]at Z;unfold I6 at Z;simp at Z;omega
 exact⟨_,rfl,z,b2,vl,vM,rfl,⟨⟨_,m2⟩,O.arr Ff,Y.arr Ff,hb⟩,λk9 Z=>by
  rcases Z with Z|Z|Z
  ·omega
  ·have:=(O.base_ge yj).1;omega
  ·have:=(Y.base_ge ym).1;omega⟩
variable {frm:Fh}
theorem M8 {k:Nat}{c:Cell}{to:Fh}(h:l[k]?=some c):scan (l.take (k+1)) frm to=if JT frm to c=true then scan (l.take k) frm to++[c]else scan (l.take k) frm to:=by
 obtain⟨hk,rfl⟩:=Ap.1 h;rw[List.take_succ_eq_append_getElem hk];unfold scan;rw[Bs]
 by_cases hi:JT frm to l[k]=true
 ·rw[if_pos hi];simp [hi]
 ·rw[if_neg hi];simp [hi]
theorem WV (l:List Cell)(k:Nat)(frm to:Fh):(scan (l.take k) frm to).length<=l.length:=by
 have h1:=AZ (JT frm to) (l.take k);have h2:(l.take k).length<=l.length:=List.length_take_le' ..;exact Ae h1 h2
theorem Xd5 {c:Cell}{to:Fh}(h:(!Op.bytesLess c.key frm)=true)(e:to=[]):JT frm to c=true:=by simp [JT,F0,h,e]
theorem Yp {c:Cell}{to:Fh}(h:(!Op.bytesLess c.key frm)=true)(e:Op.bytesLess c.key to=true):JT frm to c=true:=by simp [JT,F0,h,e]
theorem VH {c:Cell}{to:Fh}(h:(!Op.bytesLess c.key frm)=false):¬ JT frm to c=true:=by simp [JT,F0,h]
theorem Vb {c:Cell}{to:Fh}(e:¬ to=[])(h:Op.bytesLess c.key to=false):¬ JT frm to c=true:=by simp [JT,F0,h,e]
def weight (l:List Cell):Nat:=(l.map λc=>c.key.length+c.val.length).sum
def light (l:List Cell):Prop:=l.length<=201/\weight l<=6000
theorem Xv (l:List Cell)(v:Value)(frm to:Fh)(w:World)(hv:Fs Cell.cs 4 w v l)(hl:l.length<=1000000000) :
  Gf 138 [v,S frm,S to] w λv' w'=>Vc.Own Cell.cs 4 79 w.heap.size w' v' (scan l frm to):=by
 refine cE Tryz.func138 λz=>F9 (G:=Nat×Value) (λ(k,vm)=>[(0,v),(1,S frm),(2,S to),(6,.slice none 0 0),(7,vm),(8,I ↑k)]) (λ(k,vm) w'=>Fp w w'/\k<=l.length/\Vc.Own Cell.cs 4 79 w.heap.size w' vm (scan (l.take k) frm to)) (λ(k,vm)=>l.length-k) (0,.slice none 0 0) ⟨z,Ab _,Vc.Own.nil⟩ ?_;rintro _ ⟨k,vm⟩ w1 ⟨z,hk1,ho⟩;have hlen:=WV l k frm to;refine FL 79 4 hv.sl ?_;refine Fk (λc1=>?_) λc1=>?_
 ·obtain⟨c,hk⟩:∃c,l[k]?=some c:=F8;refine FK 79 4 hv.sl (hv.lt hk) ?_;refine go ?_;refine dl rfl (((hv.ext z).row hk).at rfl) (go ?_);refine dp (MX rfl rfl) (go ?_);refine Il 22 rfl (λc2=>?_) (λc2=>?_)
  ·refine go ?_;refine dp (Kr rfl rfl) ?_;refine ds1 25 (λc3=>?_) λc3=>?_
   ·refine go ?_;refine GD rfl (FK 79 4 hv.sl (hv.lt hk) ?_);refine dq (Fy Fe rfl rfl ((hv.ext z).row hk)) (lA 79 rfl λb1 w2 e1 x2 Z=>?_);have g1:=z.ge e1;have o1_ho:=ho.ltb e1;refine Fz x2 ho z λho z=>G1 c ho Z λO w3 J x3=>?_;have z:=z.own x3 F4;have ho:=J;clear Z;refine go ?_;refine⟨(k+1,_),Hn,⟨z,by omega,?_⟩,by simp only [];omega⟩;rw[M8 hk];rw[if_pos (Xd5 ‹_› ‹_›)];exact ho
   refine FK 79 4 hv.sl (hv.lt hk) ?_;refine go ?_;refine dl rfl (((hv.ext z).row hk).at rfl) (go ?_);refine dp (LS rfl rfl) ?_;refine FZ (λc4=>?_) λc4=>?_
   ·refine FK 79 4 hv.sl (hv.lt hk) ?_;refine dq (Fy Fe rfl rfl ((hv.ext z).row hk)) (lA 79 rfl λb2 w4 e2 x4 Y=>?_);have g2:=z.ge e2;have o2_ho:=ho.ltb e2;refine Fz x4 ho z λho z=>G1 c ho Y λO w5 J x5=>?_;have z:=z.own x5 F4;have ho:=J;clear Y;refine go ?_;refine⟨(k+1,_),Hn,⟨z,by omega,?_⟩,by simp only [];omega⟩;rw[M8 hk];rw[if_pos (Yp ‹_› ‹_›)];exact ho
   refine go ?_;refine⟨(k+1,_),Hn,⟨z,by omega,?_⟩,by simp only [];omega⟩;rw[M8 hk];rw[if_neg (Vb ‹_› ‹_›)];exact ho
  refine go ?_;refine GL rfl (go ?_);refine⟨(k+1,_),Hn,⟨z,by omega,?_⟩,by simp only [];omega⟩;rw[M8 hk];rw[if_neg (VH ‹_›)];exact ho
 refine go ?_;exact⟨_,rfl,z,by rw[Ar Fb]at ho;exact ho⟩
variable {i:Nat}
theorem Xsa (h:K7 l=true){j:Nat}(hij:i<j)(hj:j<l.length):less (GB l i) (GB l j)=true:=by
 induction j with
 | zero=>omega
 | succ j ih=>
  have e1:l[j]?=some l[j]:=Au Fb;have e2:l[j+1]?=some l[j+1]:=Au hj;have h1:=Yl h e1 e2;rw[<-FY e1,<-FY e2]at h1
  by_cases e:i=j
  ·rw[e];exact h1
  ·exact Om (ih Fb Fb) h1
variable {key:Fh}{seq:Int}
theorem first_none (h:∀c∈l,¬ (c.key=key/\c.seq<=seq)):first l key seq=none:=by
 unfold first
 rw[List.find?_eq_none];intro c z;have:=h c z;simp only [Aq,decide_eq_true_eq];exact this
theorem first_at {c:Cell}(hc:l[i]?=some c)(h1:c.key=key)(h2:c.seq<=seq)(h:∀j,j<i->¬ ((GB l j).key=key/\(GB l j).seq<=seq)):first l key seq=some c:=by
 obtain⟨hi,rfl⟩:=Ap.1 hc;unfold first
 rw[List.find?_eq_some_iff_getElem];refine⟨by simp [h1,h2],i,hi,rfl,λj z=>?_⟩;have e:l[j]?=some l[j]:=Au Fb;have:=h j z;rw[FY e]at this;simp only [BI,Bool.and_eq_false_iff,decide_eq_false_iff_not]
 by_cases e2:l[j].key=key
 ·exact .inr (λJ=>this ⟨e2,J⟩)
 ·exact .inl e2
theorem TM {a:Cell}(h:less a ⟨key,[],false,seq⟩=true):¬ (a.key=key/\a.seq<=seq):=by
 rw[J6]at h;rintro ⟨e,h2⟩;rcases h with h|⟨_,h⟩
 ·rw[e,IC]at h;cases h
 ·simp only at h;omega
theorem Vm (hr:K7 l=true)(h1:∀j,j<i->less (GB l j) ⟨key,[],false,seq⟩=true)(h2:i<l.length->less (GB l i) ⟨key,[],false,seq⟩=false)(h3:i=l.length\/(i<l.length/\(GB l i).key≠key)):first l key seq=none:=by
 refine first_none λc Y=>?_;obtain⟨j,O⟩:=Cd.1 Y;have J:=(Ap.1 O).1;rw[<-FY O]
 by_cases e:j<i
 ·exact TM (h1 j e)
 ·rcases h3 with h3|⟨h3,h4⟩
  ·omega
  ·rintro ⟨e2,e3⟩;have hk:=h2 h3;have hgt:F0 key (GB l i).key=true:=by
    rcases K5 key (GB l i).key with h|h|h
    ·exact absurd h.symm h4
    ·exact h
    ·have:less (GB l i) ⟨key,[],false,seq⟩=true:=(J6 _ _).2 (.inl h);rw[this]at hk;cases hk
   by_cases e4:j=i
   ·rw[e4]at e2;exact h4 e2
   ·have z:=Xsa hr (show i<j by omega) J;rw[J6]at z;rcases z with z|⟨z,_⟩
    ·rw[e2]at z;rw[KR hgt]at z;cases z
    ·rw[e2]at z;exact h4 z
theorem X7i {c:Cell}(hc:l[i]?=some c)(h1:∀j,j<i->less (GB l j) ⟨key,[],false,seq⟩=true)(h2:less c ⟨key,[],false,seq⟩=false)(h3:c.key=key):first l key seq=some c:=by
 refine first_at hc h3 ?_ λj z=>TM (h1 j z);have n:¬ less c ⟨key,[],false,seq⟩=true:=by rw[h2];decide
 rw[J6,not_or]at n;have n2:=n.2;simp only [h3,true_and]at n2;omega
theorem X11 (h:Ky (Jl (HY l)) key=false):first l key seq=none:=by
 refine first_none λc z e=>?_;have:=X1h (Xw9 z);rw[e.1,h]at this
 cases this
theorem X7j {P:Program}{E:FE}{dd:Option Tmp}{ty:TypeId}{pos:String}{af:Array Edge}{g:Option (Nat×Bool)}{x y:Operand}{T U:TypeId}{u:Nat}{ky:IntKind}(hx:ev E x=.int .u64 u)(hy:ev E y=.int ky 1):PV P ⟨dd,.binOp .shr T x y U,ty,pos,af,g⟩ E (.int .u64 (u / 2:Nat)):=by
 have:=Ol (P:=P) (dd:=dd) (ty:=ty) (pos:=pos) (af:=af) (g:=g) (T:=T) (U:=U) hx hy Fj;rwa [show((u:Int)).fdiv (2 ^ min (1:Int).toNat IntKind.u64.bits)=((u / 2:Nat):Int) by
  rw[show(2:Int) ^ min (1:Int).toNat IntKind.u64.bits=2 by decide,CU _ Fb];omega]at this
theorem X12 (n f:Nat)(cs:List Value)(p:Nat->Bool)(w:World)(hn:n<=1000000)(hcb:Hj Tryz.prog f=true)(hc:∀w2,Fp w w2->∀i,i<n->Calls Tryz.prog f ([I ↑i]++cs).toArray w2 (Pure w2 (B (p i))))(hmo:∀i j,i<=j->j<n->p i=true->p j=true) :
  Gf 256 [I ↑n,Js f cs] w λu _=>∃i:Nat,u=I ↑i/\i<=n/\(∀j,j<i->p j=false)/\(i<n->p i=true):=by
 refine cE Tryz.func256 λz=>F9 (G:=Nat×Nat) (λ(lo,hi)=>[(1,Js f cs),(4,I 0),(5,I ↑lo),(6,I ↑hi)]) (λ(lo,hi) w'=>Fp w w'/\lo<=hi/\hi<=n/\(∀j,j<lo->p j=false)/\(hi<n->p hi=true)) (λ(lo,hi)=>hi-lo) (0,n) ⟨z,Ab _,Aa _,(λj h=>by omega),(λh=>by omega)⟩ ?_;rintro _ ⟨lo,hi⟩ w1 ⟨z,h1,h2,h3,h4⟩;refine Fk (λO=>?_) λO=>?_
 ·refine go ?_;refine F3 (v:=.int .u64 ↑(lo+hi)) rfl (Lh (n:=lo+hi) (k:=.i64) Fb rfl Fe Fe) rfl (dp (X7j (u:=lo+hi) rfl rfl) (dp (LJ (n:=(lo+hi) / 2) Fb rfl Fe Fe) (go ?_)));refine QN (vs:=[I ↑((lo+hi) / 2)]) (cs:=cs) rfl rfl hcb (hc _ z ((lo+hi) / 2) Fb) rfl RX.all (λw2 Y=>?_);have z:=z.trans Y;refine FZ (λJ=>?_) λJ=>?_
  ·refine go ?_;refine FJ ((lo+hi) / 2+1,hi) ⟨z,by omega,h2,λj hj=>?_,h4⟩
   cases e:p j with
   | false=>rfl
   | true=>have Z:=hmo j ((lo+hi) / 2) Fb Fb e;rw[Z]at J;simp at J
  refine go ?_;refine FJ (lo,(lo+hi) / 2) ⟨z,by omega,by omega,h3,λ_=>by simpa using J⟩
 refine go ?_;exact⟨_,rfl,z,lo,rfl,by omega,h3,λh=>by rw[show lo=hi by omega];exact h4 Fb⟩
theorem Ycv (bt:Nat)(vl vb:Value)(l:List Cell)(key:Fh)(seq:Int)(i b3 b4 b5:Nat)(w:World)(hT:TblE bt vl vb l w)(h3:Fo w b3 [Fg bt 0] 102)(h4:Fo w b4 [S key] 9)(h5:Fo w b5 [I seq] 3)(hi:i<l.length) :
  FW 257 [I ↑i,Fg b3 0,Fg b4 0,Fg b5 0] w (B (!less (GB l i) ⟨key,[],false,seq⟩)):=by
 refine cE Tryz.func257 λz=>?_;obtain⟨⟨vp,hm⟩,J,hb,O⟩:=hT;obtain⟨hl1,hl2,Y,hen⟩:=Nv O;obtain⟨hAll,hRis⟩:=LH.1 Y;obtain⟨c,hk⟩:∃c,l[i]?=some c:=⟨_,Au hi⟩;refine Gn 10020111001001 λw1 Z=>?_;have z:=z.trans Z;refine dL rfl (λ_ hR=>((h3.ext (z.trans hR)).at rfl)) (go ?_);refine dL rfl (λ_ hR=>((hm.ext (z.trans hR)).at rfl)) (go ?_);refine di 79 4 (J.ext z).sl rfl ((J.ext z).lt hk) (Gd rfl (λw' hR=>Fy Fe rfl rfl (((J.ext z).ext hR).row hk)) (dL rfl (λ_ hR=>((h4.ext (z.trans hR)).at rfl)) (dL rfl (λ_ hR=>((h5.ext (z.trans hR)).at rfl)) (db (zs:=[S [],S [],B false,.int .i64 0]) (pl:=[(0,1),(1,1),(2,1),(3,1)]) (pv:=[(0,_),(3,_)]) (cs:=[_,S [],B false,_]) ?_))));refine cP (Oc c ⟨key,[],false,seq⟩ _) RX.ext λw2 x2=>?_;have z:=z.trans x2;refine go ?_;rw[FY hk];exact⟨rfl,z⟩
theorem Ycw (bt:Nat)(vl vb:Value)(l:List Cell)(key:Fh)(seq:Int)(w:World)(hT:TblE bt vl vb l w) :
  Gf 186 [Fg bt 0,S key,I seq] w λu _=>∃i:Nat,u=I ↑i/\i<=l.length/\(∀j,j<i->less (GB l j) ⟨key,[],false,seq⟩=true)/\(i<l.length->less (GB l i) ⟨key,[],false,seq⟩=false):=by
 refine cE Tryz.func186 λz=>?_;have hp:=hT;obtain⟨⟨vp,hm⟩,ha,hb,hg⟩:=hT;obtain⟨hl1,hl2,hE,hen⟩:=Nv hg;obtain⟨hAll,Y⟩:=LH.1 hE;refine go ?_;refine Gx rfl rfl rfl RX.all (λb1 w1 e1 x1 J=>?_);have g1:=z.ge e1;have z:=z.trans x1;refine Gx rfl rfl rfl RX.all (λb2 w2 e2 O Z=>?_);have g2:=z.ge e2;have n2_1:=J.ltb e2;refine Fz O J z λJ z=>Gx rfl rfl rfl RX.all (λb3 w3 e3 x3 m3=>?_);have g3:=z.ge e3;have n3_1:=J.ltb e3;have n3_2:=Z.ltb e3;refine FB x3 J Z z λJ Z z=>go ?_;refine dl rfl ((hm.ext z).at rfl) (dv 79 4 (ha.ext z).sl (dp (Pc rfl) ?_));refine XD rfl Fe (X12 l.length 257 [Fg b1 0,Fg b2 0,Fg b3 0] (λi=>!less (GB l i) ⟨key,[],false,seq⟩) _ Fb Fe (λw2 O i hi=>Ycv bt vl vb l key seq i _ _ _ w2 (hp.ext (z.trans O)) (J.ext O) (Z.ext O) (m3.ext O) hi) (λi j hij hj h=>by
  cases e:less (GB l j) ⟨key,[],false,seq⟩with
  | false=>rfl
  | true=>
   by_cases e2:i=j
   ·rw[e2,e]at h;simp at h
   ·rw[Om (Xsa Y (show i<j by omega) hj) e]at h;simp at h)) rfl RX.all (λu4 w4 x4 hf=>?_)
 have hsz4:=z.size;have z:=z.trans x4;obtain⟨i,rfl,hl,hc,hh⟩:=hf;refine go ?_;exact⟨_,rfl,z,i,rfl,hl,λj hj=>by simpa using hc j hj,λh=>by simpa using hh h⟩
theorem X4n (bt:Nat)(vl vb:Value)(l:List Cell)(key:Fh)(seq:Int)(w:World)(hT:TblE bt vl vb l w)(hkl:key.length<=1000000000) :
  FW 114 [Fg bt 0,S key,I seq] w (.tuple #[((first l key seq).getD Cell.zero).v,B (first l key seq).isSome]):=by
 refine cE Tryz.func114 λz=>?_;have hj:=hT;obtain⟨⟨vp,hm⟩,ha,hb,hh⟩:=hT;obtain⟨hl1,hl2,hE,hen⟩:=Nv hh;obtain⟨hAll,O⟩:=LH.1 hE;refine go ?_;refine aL [S [],S [],B false,.int .i64 0] λb1 w1 e1 x1 J=>?_;have g1:=z.ge e1;have z:=z.trans x1;refine go ?_;refine dp (GS Fe rfl rfl) ?_;refine ds1 11 (λc1=>?_) λc1=>?_
 ·exact absurd c1 F5
 refine go ?_;refine dl rfl ((hm.ext z).at rfl) (Gp (X9w (Jl (HY l)) vb key _ (hb.ext z) (by rw[M6];have:=MI l l.length;unfold I6 HY;omega) hkl) λw2 x2=>Fz x2 J z λJ z=>?_);refine FZ (λc2=>?_) λc2=>?_
 ·refine go ?_;refine db (zs:=[S [],S [],B false,.int .i64 0]) (pl:=[(0,1),(1,1),(2,1),(3,1)]) (pv:=[]) (cs:=[S [],S [],B false,.int .i64 0]) ?_;refine Gc J (λw3 x3 xs3 J=>?_);have z:=z.o1 x3;refine go ?_;refine It (u:=?v11) rfl rfl rfl rfl Fe rfl J.row ?h11 ?k11
  case h11=>conv=>lhs;whnf
  rw[X11 (by simpa using c2)];exact⟨rfl,z⟩
 refine Ge (Ycw bt vl vb l key seq _ (hj.ext z)) λu4 w4 x4 hg=>?_;have hsz4:=z.size;refine Fz x4 J z λJ z=>?_;obtain⟨i,rfl,hi1,Y,Z⟩:=hg;refine go ?_;refine dl rfl ((hm.ext z).at rfl) (dv 79 4 (ha.ext z).sl ?_);refine ds1 32 (λc3=>?_) λc3=>?_
 ·refine go ?_;refine GD rfl (go ?_);refine db (zs:=[S [],S [],B false,.int .i64 0]) (pl:=[(0,1),(1,1),(2,1),(3,1)]) (pv:=[]) (cs:=[S [],S [],B false,.int .i64 0]) ?_;refine Gc J (λw5 x5 xs5 J=>?_);have z:=z.o1 x5;refine go ?_;refine It (u:=?v23) rfl rfl rfl rfl Fe rfl J.row ?h23 ?k23
  case h23=>conv=>lhs;whnf
  rw[Vm O Y Z (.inl Fb)];exact⟨rfl,z⟩
 have hc:i<l.length:=by omega
 obtain⟨c,hk⟩:∃c,l[i]?=some c:=⟨_,Au hc⟩;have hf:=Z hc;rw[FY hk]at hf;refine go ?_;refine dl rfl ((hm.ext z).at rfl) (go ?_);refine di 79 4 (ha.ext z).sl rfl ((ha.ext z).lt hk) (go ?_);refine dl rfl (((ha.ext z).row hk).at rfl) (go ?_);refine dp (Mt rfl rfl) ?_;refine Fk (λc4=>?_) λc4=>?_
 ·refine go ?_;refine db (zs:=[S [],S [],B false,.int .i64 0]) (pl:=[(0,1),(1,1),(2,1),(3,1)]) (pv:=[]) (cs:=[S [],S [],B false,.int .i64 0]) ?_;refine Gc J (λw6 x6 xs6 J=>?_);have z:=z.o1 x6;refine go ?_;refine It (u:=?v31) rfl rfl rfl rfl Fe rfl J.row ?h31 ?k31
  case h31=>conv=>lhs;whnf
  rw[Vm O Y Z (.inr ⟨hc,by rw[FY hk];exact c4⟩)];exact⟨rfl,z⟩
 refine go ?_;refine dl rfl ((hm.ext z).at rfl) (go ?_);refine di 79 4 (ha.ext z).sl rfl ((ha.ext z).lt hk) (dq (Fy Fe rfl rfl ((ha.ext z).row hk)) (Gc J (λw7 x7 xs7 J=>?_)));have z:=z.o1 x7;refine go ?_;refine It (u:=?v36) rfl rfl rfl rfl Fe rfl J.row ?h36 ?k36
 case h36=>conv=>lhs;whnf
 rw[X7i hk Y hf (AE c4)];exact⟨rfl,z⟩
theorem TU (bt:Nat)(vl vb:Value)(l:List Cell)(frm to:Fh)(w:World)(hT:TblE bt vl vb l w) :
  Gf 49 [Fg bt 0,S frm,S to] w λv' w'=>Vc.Own Cell.cs 4 79 w.heap.size w' v' (scan l frm to):=by
 refine cE Tryz.func49 λz=>?_;have hT0:=hT;obtain⟨⟨vp,hm⟩,Z,hb,hc⟩:=hT;obtain⟨hl1,hl2,hE,hen⟩:=Nv hc;obtain⟨hAll,hRis⟩:=LH.1 hE;refine go ?_;refine dp (GS Fe rfl rfl) ?_;refine Fk (λc1=>?_) λc1=>?_
 ·exact absurd c1 F5
 refine FL 79 4 (Z.ext z).sl ?_;refine F9 (G:=Nat×Value) (λ(k,vm)=>[(1,S frm),(2,S to),(6,.slice none 0 0),(7,vm),(15,vl),(16,I ↑l.length),(17,I ↑k)]) (λ(k,vm) w'=>Fp w w'/\k<=l.length/\Vc.Own Cell.cs 4 79 w.heap.size w' vm (scan (l.take k) frm to)) (λ(k,vm)=>l.length-k) (0,.slice none 0 0) ⟨z,Ab _,Vc.Own.nil⟩ ?_;rintro _ ⟨k,vm⟩ w1 ⟨z,hk1,ho⟩;refine Fk (λc2=>?_) λc2=>?_
 ·obtain⟨c,hk⟩:∃c,l[k]?=some c:=F8;have hlen:=WV l k frm to;refine go ?_;refine di 79 4 (Z.ext z).sl rfl ((Z.ext z).lt hk) (dq (Fy Fe rfl rfl ((Z.ext z).row hk)) (aL [S [],S [],B false,.int .i64 0] λb1 w2 e1 x2 O=>?_));have g1:=z.ge e1;have Y:=ho.ltb e1;refine Fz x2 ho z λho z=>Gc O (λw3 x3 xs3 O=>?_);have ho:=ho.mod x3 Fw;have z:=z.o1 x3;refine go ?_;refine dp (MX rfl rfl) (go ?_);refine Il 25 rfl (λc3=>?_) (λc3=>?_)
  ·refine go ?_;refine dp (Kr rfl rfl) ?_;refine ds1 28 (λc4=>?_) λc4=>?_
   ·refine go ?_;refine GD rfl (go ?_);refine dq (Fy (k:=4) Fe rfl rfl O.row) (lA 79 rfl λb2 w4 e2 x4 m2=>?_);have g2:=z.ge e2;have n2_1:=O.ltb e2;have o2_ho:=ho.ltb e2;refine FB x4 ho O z λho O z=>G1 c ho m2 λhf w5 J x5=>?_;have O:=O.mod x5 (by intro h;have h1:=Y _ h;omega);have z:=z.own x5 F4;have ho:=J;clear m2;refine go ?_;refine⟨(k+1,_),GY,⟨z,by omega,?_⟩,by simp only [];omega⟩;rw[M8 hk];rw[if_pos (Xd5 ‹_› ‹_›)];exact ho
   refine go ?_;refine dp (LS rfl rfl) ?_;refine FZ (λc5=>?_) λc5=>?_
   ·refine go ?_;refine dq (Fy (k:=4) Fe rfl rfl O.row) (lA 79 rfl λb3 w6 e3 x6 m3=>?_);have g3:=z.ge e3;have o3_ho:=ho.ltb e3;refine Fz x6 ho z λho z=>G1 c ho m3 λhf w7 J x7=>?_;have z:=z.own x7 F4;have ho:=J;clear m3;refine go ?_;refine⟨(k+1,_),GY,⟨z,by omega,?_⟩,by simp only [];omega⟩;rw[M8 hk];rw[if_pos (Yp ‹_› ‹_›)];exact ho
   refine go ?_;refine⟨(k+1,_),GY,⟨z,by omega,?_⟩,by simp only [];omega⟩;rw[M8 hk];rw[if_neg (Vb ‹_› ‹_›)];exact ho
  refine go ?_;refine GL rfl (go ?_);refine⟨(k+1,_),GY,⟨z,by omega,?_⟩,by simp only [];omega⟩;rw[M8 hk];rw[if_neg (VH ‹_›)];exact ho
 refine go ?_;exact⟨_,rfl,z,by rw[Ar Fb]at ho;exact ho⟩
end Go.Proofs.YtiooodckiddpmaaGreatDoor
namespace Go.Sp
open Go.Vc (Fh I S B)
structure Rw where
 key:Fh
 val:Fh
 del:Bool
deriving DecidableEq
@[reducible] def Rw.cs (r:Rw):List Value:=[S r.key,S r.val,B r.del]
@[reducible] def Rw.v (r:Rw):Value:=.agg ⟨r.cs⟩
def Rw.cell (r:Rw)(seq:Int):Cell:=⟨r.key,r.val,r.del,seq⟩
def IS (l:List Rw):Nat:=(l.map λr=>r.key.length+r.val.length).sum
def IM (l:List Rw):Int:=if l.length=0 then 1 else if(l.all λr=>Gk (r.cell 1))=true then(if 512<l.length\/32768<IS l then 5 else 0)else 1
variable {k:Nat}{l:List Rw}{r:Rw}
theorem Rn (h:l[k]?=some r):IS (l.take (k+1))=IS (l.take k)+(r.key.length+r.val.length):=by
 unfold IS;rw[Bw,h,A6,B0];simp
theorem Yao (l:List Rw)(k:Nat):IS (l.take k)<=IS l:=by
 have h:=congrArg IS (AS k l);unfold IS at *;rw[A6,B0]at h;omega
theorem Ue (h:l[k]?=some r):((l.take (k+1)).all λr=>Gk (r.cell 1))=(((l.take k).all λr=>Gk (r.cell 1)) && Gk (r.cell 1)):=by
 rw[Bw,h,CK];simp
theorem Ve (h:l[k]?=some r)(hc:Gk (r.cell 1)=false):IM l=1:=by
 unfold IM;split
 ·rfl
 ·rw[if_neg];intro h2;rw[AO]at h2;have:=h2 r (Ag h);rw[hc]at this;cases this
theorem Uf (h:l.length=0):IM l=1:=if_pos h
theorem Pu (h:l.length≠0)(h2:(l.all λr=>Gk (r.cell 1))=true)(h3:512<l.length\/32768<IS l):IM l=5:=by unfold IM;rw[if_neg h,if_pos h2,if_pos h3]
theorem YK (h:l.length≠0)(h2:(l.all λr=>Gk (r.cell 1))=true)(h3:¬ (512<l.length\/32768<IS l)):IM l=0:=by unfold IM;rw[if_neg h,if_pos h2,if_neg h3]
theorem Ox (h:IM l=0):1<=l.length/\l.length<=512/\IS l<=32768/\∀r∈l,Gk (r.cell 1)=true:=by
 unfold IM at h;split at h
 ·simp at h
 ·split at h
  ·rename_i h1 h2;rw[AO]at h2;split at h
   ·simp at h
   ·exact⟨by omega,by omega,by omega,h2⟩
  ·simp at h
def Hs (r:Rw):Fh:=FA r.key++(if r.del then F6 1 else F6 0++FA r.val)
def GN (l:List Rw):Fh:=F6 l.length++l.flatMap Hs
theorem X13 (r:Rw):(Hs r).length<=30+(r.key.length+r.val.length):=by
 unfold Hs FA;have h1:=Gq r.key.length;have h2:=Gq 1;have h3:=Gq 0;have h4:=Gq r.val.length;split<;>simp only [Ad]<;>omega
theorem PO (l:List Rw):(l.flatMap Hs).length<=30*l.length+IS l:=by
 induction l with
 | nil=>simp
 | cons r t ih=>
  have:=X13 r;have e:IS (r :: t)=(r.key.length+r.val.length)+IS t:=by simp [IS]
  rw[AF,Ad,e,AA];omega
theorem S4 (l:List Rw)(k:Nat):((l.take k).flatMap Hs).length<=30*l.length+IS l:=by
 have h1:=PO (l.take k);have h2:=Yao l k;have h3:(l.take k).length<=l.length:=by rw[A7];omega
 omega
def Ht (out:List Cell)(c:Cell):List Cell:=if(out.any λx=>decide (x.key=c.key))=true then out else(out.takeWhile λx=>F0 x.key c.key)++c :: (out.dropWhile λx=>F0 x.key c.key)
def Gj (l:List Rw)(seq:Int):List Cell:=l.foldr (λr out=>Ht out (r.cell seq)) []
def Jp (l:List Cell):Prop:=l.Pairwise λa b=>F0 a.key b.key=true
variable {out:List Cell}
theorem X7k {c:Cell}(h:Jp out):Jp (Ht out c):=by
 unfold Ht;split
 ·exact h
 ·rename_i hn;have Z:∀x∈out,x.key≠c.key:=λx z e=>hn (B7.2 ⟨x,z,by simp [e]⟩);have J:(out.takeWhile λx=>F0 x.key c.key)++(out.dropWhile λx=>F0 x.key c.key)=out:=CD ..;have h':Jp ((out.takeWhile λx=>F0 x.key c.key)++(out.dropWhile λx=>F0 x.key c.key)):=by rw[J];exact h
  have hp:∀x∈(out.takeWhile λx=>F0 x.key c.key),F0 x.key c.key=true:=λx z=>(AO.1 (List.all_takeWhile (p:=λx=>F0 x.key c.key) (l:=out)) x z);have h2:=Bj.1 h';have hs:∀x∈(out.dropWhile λx=>F0 x.key c.key),F0 c.key x.key=true:=by
   cases hsu:(out.dropWhile λx=>F0 x.key c.key)with
   | nil=>intro x z;cases z
   | cons s r=>
    have hc:F0 s.key c.key=false:=by
     have:=List.head?_dropWhile_not (λx=>F0 x.key c.key) out;rw[hsu]at this;simpa using this
    have Y:s∈out:=by rw[<-J,hsu];simp
    have O:F0 c.key s.key=true:=by
     rcases K5 c.key s.key with h|h|h
     ·exact absurd h.symm (Z s Y)
     ·exact h
     ·rw[hc]at h;cases h
    intro x z;rcases Ah.1 z with rfl|z
    ·exact O
    ·have:=h2.2.1;rw[hsu]at this;exact J9 _ _ _ O (List.rel_of_pairwise_cons this z)
  refine Bj.2 ⟨h2.1,AI.2 ⟨hs,h2.2.1⟩,λa ha b hb=>?_⟩;rcases Ah.1 hb with rfl|hb
  ·exact hp a ha
  ·exact h2.2.2 a ha b hb
theorem Pz (l:List Rw)(seq:Int):Jp (Gj l seq):=by
 induction l with
 | nil=>exact Bq
 | cons r t ih=>exact X7k ih
theorem Qh {c x:Cell}: x∈Ht out c↔x∈out\/(x=c/\∀y∈out,y.key≠c.key):=by
 unfold Ht;have z:(out.takeWhile λx=>F0 x.key c.key)++(out.dropWhile λx=>F0 x.key c.key)=out:=CD ..;split
 ·rename_i h;obtain⟨y,Y,e⟩:=B7.1 h;exact⟨.inl,λh2=>h2.elim id λh3=>absurd (by simpa using e) (h3.2 y Y)⟩
 ·rename_i hn;have J:∀x∈out,x.key≠c.key:=λx O e=>hn (B7.2 ⟨x,O,by simp [e]⟩);rw[Ak,Ah]
  constructor
  ·rintro (h|h|h)
   ·exact .inl (by rw[<-z];exact List.mem_append_left _ h)
   ·exact .inr ⟨h,J⟩
   ·exact .inl (by rw[<-z];exact Bz _ h)
  ·rintro (h|⟨h,_⟩)
   ·rw[<-z]at h;rcases Ak.1 h with h|h
    ·exact .inl h
    ·exact .inr (.inr h)
   ·exact .inr (.inl h)
theorem Sn {seq:Int}{c:Cell}(h:c∈Gj l seq):∃r∈l,c=r.cell seq:=by
 induction l with
 | nil=>cases h
 | cons r t ih=>
  rcases Qh.1 h with h|⟨h,_⟩
  ·obtain⟨q,z,e⟩:=ih h;exact⟨q,Ao _ z,e⟩
  ·exact⟨r,Ai,h⟩
theorem Xt4 {seq:Int}(h:r∈l):∃c∈Gj l seq,c.key=r.key:=by
 induction l with
 | nil=>cases h
 | cons q t ih=>
  by_cases e:∃c∈Gj t seq,c.key=r.key
  ·obtain⟨c,z,e⟩:=e;exact⟨c,Qh.2 (.inl z),e⟩
  ·rcases Ah.1 h with rfl|h
   ·exact⟨_,Qh.2 (.inr ⟨rfl,λy J e2=>e ⟨y,J,e2⟩⟩),rfl⟩
   ·exact absurd (ih h) e
theorem OY (l:List Rw)(seq:Int):(Gj l seq).length<=l.length:=by
 induction l with
 | nil=>exact Aa _
 | cons r t ih=>
  show(Ht (Gj t seq) (r.cell seq)).length<=_;unfold Ht;split
  ·simp;omega
  ·have:=congrArg A5 (CD (p:=λx:Cell=>F0 x.key (r.cell seq).key) (l:=Gj t seq));simp only [Ad,AA]at *;omega
end Go.Sp
namespace Go.Proofs.YtiooodckiddpmaaGreatDoor
open Go.Vc Go.Sp
attribute [local irreducible] W XW Dw G9
theorem OP {r:Rw}(h:Gk (r.cell 1)=true):r.key.length<=4096/\r.val.length<=16384/\1<=r.key.length/\(r.del=true->r.val=[]):=by
 have:=KF h;exact⟨this.1,this.2.1,this.2.2.1,this.2.2.2.2.2⟩
theorem Q8 {l:List Rw}{k:Nat}{r:Rw}(h:l[k]?=some r):(l.take (k+1)).flatMap Hs=(l.take k).flatMap Hs++Hs r:=by
 rw[GQ h,Bb];simp
theorem Yap {l:List Rw}{k:Nat}(h:∀r∈l,r.key.length+r.val.length<=1000000000000)(hk:k<=1000000):IS (l.take k)<=1000000000000*k:=by
 induction k with
 | zero=>simp [IS]
 | succ k ih=>
  have:=ih Fb
  cases e:l[k]? with
  | none=>rw[Bw,e];simp;omega
  | some r=>rw[Rn e];have:=h r (Ag e);omega
theorem Xz (r:Rw)(seq:Int)(w:World) :
  FW 154 [r.v,I seq] w (r.cell seq).v:=by
 refine cE Tryz.func154 λz=>go ?_;refine Gx rfl rfl rfl RX.all (λb1 w1 e1 Z O=>?_);have g1:=z.ge e1;have z:=z.trans Z;refine aL [S [],S [],B false,.int .i64 0] λb2 w2 e2 x2 J=>?_;have g2:=z.ge e2;have n2_1:=O.ltb e2;refine Fz x2 O z λO z=>go ?_;refine db (zs:=[S [],S [],B false,.int .i64 0]) (pl:=[(0,1),(1,1),(2,1),(3,1)]) (pv:=[(0,_),(1,_),(2,_),(3,_)]) (cs:=[_,_,_,_]) ?_;refine Gc J (λw3 Y xs3 J=>?_);have z:=z.o1 Y;refine go ?_;refine NZ (k:=4) rfl rfl rfl Fe rfl J.row ?_;exact⟨rfl,z⟩
theorem Sb (r:Rw)(seq:Int)(w:World) :
  FW 37 [r.v,I seq] w (r.cell seq).v:=by
 refine cE Tryz.func37 λz=>go ?_;refine Gx rfl rfl rfl RX.all (λb1 w1 e1 Z O=>?_);have g1:=z.ge e1;have z:=z.trans Z;refine aL [S [],S [],B false,.int .i64 0] λb2 w2 e2 x2 J=>?_;have g2:=z.ge e2;have n2_1:=O.ltb e2;refine Fz x2 O z λO z=>go ?_;refine db (zs:=[S [],S [],B false,.int .i64 0]) (pl:=[(0,1),(1,1),(2,1),(3,1)]) (pv:=[(0,_),(1,_),(2,_),(3,_)]) (cs:=[_,_,_,_]) ?_;refine Gc J (λw3 Y xs3 J=>?_);have z:=z.o1 Y;refine go ?_;refine NZ (k:=4) rfl rfl rfl Fe rfl J.row ?_;exact⟨rfl,z⟩
theorem X7l (l:List Rw)(v:Value)(w:World)(hv:Fs Rw.cs 3 w v l)(hl:l.length<=1000000) :
  FW 78 [v] w (I (IM l)):=by
 refine cE Tryz.func78 λJ=>FL 48 3 (hv.ext J).sl ?_;refine Fk (λc1=>?_) λc1=>?_
 ·refine go ?_;refine⟨?_,J⟩;rw[Uf Fb]
 refine FL 48 3 (hv.ext J).sl ?_;refine F9 (G:=Nat×Nat) (λ(k,z)=>[(0,v),(3,I ↑z),(9,v),(10,I ↑l.length),(11,I ↑k)]) (λ(k,z) w'=>Fp w w'/\k<=l.length/\z<=32769/\z=min (IS (l.take k)) 32769/\((l.take k).all λr=>Gk (r.cell 1))=true) (λ(k,z)=>l.length-k) (0,0) ⟨J,Ab _,by omega,rfl,rfl⟩ ?_;rintro _ ⟨k,z⟩ w1 ⟨J,hk1,hz0,hz,hA⟩;refine Fk (λc2=>?_) λc2=>?_
 ·obtain⟨r,hk⟩:∃r,l[k]?=some r:=F8;refine go ?_;refine di 48 3 (hv.ext J).sl rfl ((hv.ext J).lt hk) (dq (Fy Fe rfl rfl ((hv.ext J).row hk)) (aL [S [],S [],B false] λb1 w2 e1 x2 O=>?_));have g1:=J.ge e1;have J:=J.trans x2;refine Gc O (λw3 x3 xs3 O=>?_);have J:=J.o1 x3;refine go ?_;refine dq (Fy (k:=3) Fe rfl rfl O.row) (cP (Xz r 1 _) RX.all λw4 x4=>Fz x4 O J λO J=>cP (SE (r.cell 1) _) RX.all λw5 x5=>Fz x5 O J λO J=>?_);refine FZ (λZ=>?_) λZ=>?_
  ·refine go ?_;refine⟨?_,J⟩;rw[Ve hk (by simpa using Z)]
  have Y:Gk (r.cell 1)=true:=by simpa using Z
  have hrs:=OP Y;refine go ?_;refine F3 (v:=I ↑(min (z+r.key.length+r.val.length) 32769)) rfl (Xu rfl rfl) (by show I _=I _;congr 1;omega) (go ?_);refine FJ (k+1,min (z+r.key.length+r.val.length) 32769) ⟨J,by omega,Nat.min_le_right _ _,?_,?_⟩
  ·rw[Rn hk,hz];omega
  ·rw[Ue hk,hA,Y];rfl
 refine FL 48 3 (hv.ext J).sl ?_;refine ds1 33 (λc4=>?_) λc4=>?_
 ·refine go ?_;refine GD rfl (go ?_);rw[Ar Fb]at hz hA;refine⟨?_,J⟩;rw[Pu Fb hA Fb]
 refine Fk (λc5=>?_) λc5=>?_
 ·refine go ?_;rw[Ar Fb]at hz hA;refine⟨?_,J⟩;rw[Pu Fb hA Fb]
 refine go ?_;rw[Ar Fb]at hz hA;refine⟨?_,J⟩;rw[YK Fb hA Fb]
theorem X14 (l:List Rw)(v:Value)(w:World)(hv:Fs Rw.cs 3 w v l)(hl:l.length<=1000000) :
  Gf 39 [v] w λu w'=>∃vb,u=.tuple #[vb,I (IM l)]/\Vc.Own Fq 1 5 w.heap.size w' vb (if IM l=0 then GN l else[]):=by
 refine cE Tryz.func39 λJ=>Gp (X7l l v _ (hv.ext J) hl) λw1 x1=>?_;have J:=J.trans x1;refine Fk (λc1=>?_) λc1=>?_
 ·refine go ?_;rw[if_neg c1];exact⟨_,rfl,J,_,rfl,Vc.Own.nil⟩
 have hE:IM l=0:=AE c1;obtain⟨hl1,hl2,hz,xb⟩:=Ox hE;refine go ?_;refine aL [.slice none 0 0] λb1 w2 e1 x2 m1=>?_;have g1:=J.ge e1;have J:=J.trans x2;refine FL 48 3 (hv.ext J).sl ?_;refine li (e:=3) (sz:=1) (zs:=[.int .i64 0]) (pv:=[(0,_)]) (cs:=[_]) RX.all (λb2 w3 e2 x3 m2=>?_);have g2:=J.ge e2;have n2_1:=m1.ltb e2;refine Fz x3 m1 J λm1 J=>?_;have z:Wr w.heap.size b1 (.slice none 0 0) [] w3:=⟨m1,Vc.Own.nil⟩;refine cD (KT w.heap.size b1 (.slice none 0 0) _ [↑l.length] (.slice (some ⟨b2,0,none⟩) 1 1) _ z (Ae (Aa 0:([]:Fh).length<=0) Fb) J.size (m2.arr (enc:=Vc.encI) (sz:=1) (l:=[↑l.length]) rfl Ff rfl F5) F5 (λk9 Y _ hj=>by have hh:b2=k9:=hj;subst hh;exact(Y.elim (λh=>by omega) (λh=>by cases h)))) (.inl rfl) λu4 w4 x4 xk=>?_;have hsz4:=J.size;have J:=J.own x4 (λi hi=>z.ge g1 hi);obtain⟨rfl,v1,z,hg⟩:=xk;rw[NM Fb,AB]at z;have hln16:=trivial;refine FL 48 3 (hv.ext J).sl ?_;refine F9 (G:=Nat×Value) (λ(k,vc)=>[(0,v),(2,.slice none 0 0),(3,I 0),(5,Fg b1 0),(17,v),(18,I ↑l.length),(19,I ↑k)]) (λ(k,vc) w'=>Fp w w'/\k<=l.length/\Wr w.heap.size b1 vc (F6 l.length++(l.take k).flatMap Hs) w') (λ(k,vc)=>l.length-k) (0,v1) ⟨J,Ab _,by simpa using z⟩ ?_;rintro _ ⟨k,vc⟩ w5 ⟨J,hk1,z⟩;refine Fk (λc2=>?_) λc2=>?_
 ·obtain⟨r,hk⟩:∃r,l[k]?=some r:=F8;have hrs:=OP (xb r (Ag hk));have xr:=S4 l k;have xl:=Gq l.length;have h5:(F6 l.length++(l.take k).flatMap Hs).length<=60000:=by rw[Ad];omega
  refine go ?_;refine di 48 3 (hv.ext J).sl rfl ((hv.ext J).lt hk) (dq (Fy Fe rfl rfl ((hv.ext J).row hk)) (aL [S [],S [],B false] λb3 w6 e3 x6 O=>?_));have g3:=J.ge e3;have hf:=z.lt;refine Fz x6 z J λz J=>Gc O (λw7 x7 xs7 O=>?_);have z:=z.mod x7 (λk9 Y h=>by have h2:k9=b3:=h;subst h2;exact A4 _ (AD (hf _ Y) e3.symm));have J:=J.o1 x7;refine gw ?_;refine JM [.p,.l,.x,.x,.x] rfl (go ?_);refine KC (e:=5) rfl Fe Fe Fe rfl RX.all (λb4 xi w8 e4 x8 h7=>?_);have g4:=J.ge e4;have n4_3:=O.ltb e4;have hq:=z.lt;refine FB x8 z O J λz O J=>li (e:=82) (sz:=1) (zs:=[.slice none 0 0]) (pv:=[(0,_)]) (cs:=[_]) RX.all (λb5 w9 e5 x9 m5=>?_);have g5:=J.ge e5;have n5_3:=O.ltb e5;have hy:=z.lt;refine FP x9 z O h7 J λz O h7 J=>?_;have hc:¬ HR b1 vc b3:=λY=>(A4 b3 (AD (hf _ Y) e3.symm));have Z:=O.lt;refine cD (Mb w.heap.size b1 vc _ [(.slice (some ⟨b4,0,none⟩) r.key.length xi,r.key)] (.slice (some ⟨b5,0,none⟩) 1 1) _ z (Ae h5 Fb) J.size (Lf m5) (λq h=>by rw[Af.1 h];exact h7) (λq h=>by rw[Af.1 h];exact(show r.key.length<=1000000 by omega)) F5 (λ_ Y=>(A4 b5 (AD (hy _ Y) e5.symm))) (λq h hl Y=>by rw[Af.1 h]at hl Y;exact(A4 b4 (AD (hq _ Y) e4.symm)))) (.inl rfl) λu10 w10 xe xd=>?_;have hsz10:=J.size;have O:=O.mod xe hc;have J:=J.own xe (λi hi=>z.ge g1 hi);obtain⟨rfl,v2,z,hg⟩:=xd;rw[Ks]at z;have ha:=P1 (p:=r.key) (M:=4096) h5 Fb;have hc:=P0 hg hc Z;refine FZ (λc3=>?_) λc3=>?_
  ·refine go ?_;refine li (e:=3) (sz:=1) (zs:=[.int .i64 0]) (pv:=[(0,_)]) (cs:=[_]) RX.all (λb6 w11 e6 xq m6=>?_);have g6:=J.ge e6;have n6_3:=O.ltb e6;have hw:=z.lt;refine FB xq O z J λO z J=>?_;have Z:=O.lt;refine cD (KT w.heap.size b1 v2 _ [((1:Nat):Int)] (.slice (some ⟨b6,0,none⟩) 1 1) _ z (Ae ha Fb) J.size (m6.arr (enc:=Vc.encI) (sz:=1) (l:=[((1:Nat):Int)]) rfl Ff rfl F5) F5 (λk9 Y _ hj=>by have hh:b6=k9:=hj;subst hh;exact(A4 b6 (AD (hw _ Y) e6.symm)))) (.inl rfl) λu12 w12 xg xj=>?_;have hsz12:=J.size;have O:=O.mod xg hc;have J:=J.own xg (λi hi=>z.ge g1 hi);obtain⟨rfl,v3,z,hg⟩:=xj;rw[NM Fb]at z;have hln31:=trivial;have hc:=P0 hg hc Z;refine go ?_;refine FJ (k+1,v3) ⟨J,by omega,?_⟩;rw[Q8 hk,show Hs r=FA r.key++(if r.del then F6 1 else F6 0++FA r.val) from rfl,c3];simpa only [A3,AH,if_true,if_false,Cq]using z
  refine go ?_;refine li (e:=3) (sz:=1) (zs:=[.int .i64 0]) (pv:=[(0,_)]) (cs:=[_]) RX.all (λb7 w13 e7 xp m7=>?_);have g7:=J.ge e7;have n7_3:=O.ltb e7;have hp:=z.lt;refine FB xp O z J λO z J=>?_;have Z:=O.lt;refine cD (KT w.heap.size b1 v2 _ [((0:Nat):Int)] (.slice (some ⟨b7,0,none⟩) 1 1) _ z (Ae ha Fb) J.size (m7.arr (enc:=Vc.encI) (sz:=1) (l:=[((0:Nat):Int)]) rfl Ff rfl F5) F5 (λk9 Y _ hj=>by have hh:b7=k9:=hj;subst hh;exact(A4 b7 (AD (hp _ Y) e7.symm)))) (.inl rfl) λu14 w14 xh xa=>?_;have hsz14:=J.size;have O:=O.mod xh hc;have J:=J.own xh (λi hi=>z.ge g1 hi);obtain⟨rfl,v3,z,hg⟩:=xa;rw[NM Fb]at z;have h6:=Ql (n:=0) ha;refine gw ?_;refine JM [.p,.l,.x,.x,.x] rfl (go ?_);refine KC (e:=5) rfl Fe Fe Fe rfl RX.all (λb8 xf w15 e8 xt h8=>?_);have g8:=J.ge e8;have n8_3:=O.ltb e8;have ht:=z.lt;refine FB xt O z J λO z J=>li (e:=82) (sz:=1) (zs:=[.slice none 0 0]) (pv:=[(0,_)]) (cs:=[_]) RX.all (λb9 w16 e9 xm m9=>?_);have g9:=J.ge e9;have n9_3:=O.ltb e9;have hr:=z.lt;refine FP xm O z h8 J λO z h8 J=>?_;have Z:=O.lt;refine cD (Mb w.heap.size b1 v3 _ [(.slice (some ⟨b8,0,none⟩) r.val.length xf,r.val)] (.slice (some ⟨b9,0,none⟩) 1 1) _ z (Ae h6 Fb) J.size (Lf m9) (λq h=>by rw[Af.1 h];exact h8) (λq h=>by rw[Af.1 h];exact(show r.val.length<=1000000 by omega)) F5 (λ_ Y=>(A4 b9 (AD (hr _ Y) e9.symm))) (λq h hl Y=>by rw[Af.1 h]at hl Y;exact(A4 b8 (AD (ht _ Y) e8.symm)))) (.inl rfl) λu17 w17 xo xc=>?_;have hsz17:=J.size;have J:=J.own xo (λi hi=>z.ge g1 hi);obtain⟨rfl,v4,z,hg⟩:=xc;rw[Ks]at z;have hln38:=trivial;refine go ?_;refine FJ (k+1,v4) ⟨J,by omega,?_⟩;rw[Q8 hk,show Hs r=FA r.key++(if r.del then F6 1 else F6 0++FA r.val) from rfl,c3];simpa only [A3,AH,if_true,if_false,Cq]using z
 have xr:=S4 l k;have xl:=Gq l.length;have hln1:(F6 l.length++(l.take k).flatMap Hs).length<=60000:=by rw[Ad];omega
 refine Ge (Od w.heap.size b1 vc _ _ z Fb) λvo w18 xn hB=>?_;have hsz18:=J.size;have J:=J.trans xn;refine go ?_;rw[show k=l.length by omega,AV]at hB;rw[if_pos hE,hE];exact⟨_,rfl,J,_,rfl,hB.mono Fb⟩
theorem X15 (l:List Rw)(v:Value)(w:World)(hv:Fs Rw.cs 3 w v l)(hl:l.length<=1000000)(hks:∀r∈l,r.key.length+r.val.length<=1000000000000) :
  FW 13 [v] w (I (IM l)):=by
 refine cE Tryz.func13 λz=>FL 48 3 (hv.ext z).sl ?_;refine Fk (λZ=>?_) λZ=>?_
 ·refine go ?_;refine⟨?_,z⟩;rw[Uf Fb]
 refine F9 (G:=Nat) (λk=>[(0,v),(3,I ↑k)]) (λk w'=>Fp w w'/\k<=l.length/\((l.take k).all λr=>Gk (r.cell 1))=true) (λk=>l.length-k) 0 ⟨z,Ab _,rfl⟩ ?_;rintro _ k w1 ⟨z,hk1,hA⟩;refine FL 48 3 (hv.ext z).sl ?_;refine Fk (λc2=>?_) λc2=>?_
 ·obtain⟨r,hk⟩:∃r,l[k]?=some r:=F8;refine go ?_;refine di 48 3 (hv.ext z).sl rfl ((hv.ext z).lt hk) (dq (Fy Fe rfl rfl ((hv.ext z).row hk)) (cP (Sb r 1 _) RX.all λw2 x2=>?_));have z:=z.trans x2;refine cP (S6 (r.cell 1) _) RX.all λw3 x3=>?_;have z:=z.trans x3;refine FZ (λY=>?_) λY=>?_
  ·refine go ?_;refine⟨?_,z⟩;rw[Ve hk (by simpa using Y)]
  have O:Gk (r.cell 1)=true:=by simpa using Y
  refine go ?_;refine FJ (k+1) ⟨z,by omega,?_⟩;rw[Ue hk,hA,O];rfl
 refine FL 48 3 (hv.ext z).sl ?_;refine Fk (λc4=>?_) λc4=>?_
 ·refine go ?_;rw[Ar Fb]at hA;refine⟨?_,z⟩;rw[Pu Fb hA Fb]
 refine F9 (G:=Nat) (λk=>[(0,v),(4,I ↑(IS (l.take k))),(5,I ↑k)]) (λk w'=>Fp w w'/\k<=l.length/\(l.all λr=>Gk (r.cell 1))=true) (λk=>l.length-k) 0 ⟨z,Ab _,by rw[Ar Fb]at hA;exact hA⟩ ?_;rintro _ k w4 ⟨z,hk1,hA⟩;refine FL 48 3 (hv.ext z).sl ?_;refine Fk (λc5=>?_) λc5=>?_
 ·obtain⟨r,hk⟩:∃r,l[k]?=some r:=F8;have hrk:=hks r (Ag hk);have hrz:=Rn hk;have hrm:=Yap (l:=l) (k:=k) hks Fb;refine Gn 10001000000100000 λw5 x5=>?_;have z:=z.trans x5;refine go ?_;refine di 48 3 (hv.ext z).sl rfl ((hv.ext z).lt hk) (go ?_);refine dL rfl (λ_ hR=>((((hv.ext z).ext hR).row hk).at rfl)) (go ?_);refine di 48 3 (hv.ext z).sl rfl ((hv.ext z).lt hk) (go ?_);refine dL rfl (λ_ hR=>((((hv.ext z).ext hR).row hk).at rfl)) (gn ?_);refine F3 (v:=I ↑(IS (l.take (k+1)))) rfl (GJ rfl rfl (by unfold Fx;omega)) (by show I _=I _;congr 1;omega) (go ?_);exact FJ (k+1) ⟨z,by omega,hA⟩
 refine Fk (λJ=>?_) λJ=>?_
 ·refine go ?_;rw[Ar Fb]at J;refine⟨?_,z⟩;rw[Pu Fb hA Fb]
 refine go ?_;rw[Ar Fb]at J;refine⟨?_,z⟩;rw[YK Fb hA Fb]
end Go.Proofs.YtiooodckiddpmaaGreatDoor
namespace Go.Sp
open Go.Vc (Fh I S B)
structure Fi where
 id:Int
 lev:Int
 size:Int
 fst:Fh
 lst:Fh
deriving DecidableEq
@[reducible] def Fi.cs (f:Fi):List Value:=[I f.id,I f.lev,I f.size,S f.fst,S f.lst]
@[reducible] def Fi.v (f:Fi):Value:=.agg ⟨f.cs⟩
def Fi.zero : Fi:=⟨0,0,0,[],[]⟩
structure Vs where
 next:Int
 fs:List Fi
deriving DecidableEq
def Hp (a b:Int):Int:=if a<b then -1 else if b<a then 1 else 0
def Ie (a b:Fh):Int:=if F0 a b=true then -1 else if F0 b a=true then 1 else 0
def HK (a b:Fi):Int:=if a.lev=0/\b.lev=0 then Hp a.id b.id else if Hp a.lev b.lev≠0 then Hp a.lev b.lev else Ie a.fst b.fst
def IU (a b:Fi):Bool:=if 0<a.lev/\a.lev=b.lev then F0 a.lst b.fst else decide (HK a b<0)
def LR (s:Fh):Bool:=decide (1<=s.length) && decide (s.length<=4096)
def I9 (n:Int)(f:Fi):Bool:=decide (1<=f.id) && decide (f.id<n) && decide (0<=f.lev) && decide (f.lev<=4) && decide (1<=f.size) && decide (f.size<=1048576) && LR f.fst && LR f.lst && !F0 f.lst f.fst
def KB : List Fi->Bool
 | a :: b :: r=>IU a b && KB (b :: r)
 | _=>true
def Hw (v:Vs):Bool:=decide (1<=v.next) && decide (v.next<=1099511627776) && decide (v.fs.length<=1024) && v.fs.all (I9 v.next) && decide ((v.fs.map (·.id)).Nodup) && KB v.fs
def IX (lev:Int)(frm to:Fh)(f:Fi):Bool:=decide (f.lev=lev) && !F0 f.lst frm && !F0 to f.fst
def HF (fs:List Fi)(lev:Int)(frm to:Fh):List Fi:=fs.filter (IX lev frm to)
def Jo (fs:List Fi)(key:Fh):List Fi:=(HF fs 0 key key).reverse++HF fs 1 key key++HF fs 2 key key++HF fs 3 key key++HF fs 4 key key
theorem PU {fs:List Fi}{k:Nat}{f:Fi}{lev:Int}{frm to:Fh}(h:fs[k]?=some f):HF (fs.take (k+1)) lev frm to=if IX lev frm to f=true then HF (fs.take k) lev frm to++[f]else HF (fs.take k) lev frm to:=by
 unfold HF;rw[Bw,h,Bs];split
 ·rename_i h;simp [h]
 ·rename_i h;simp [h]
theorem NV (fs:List Fi)(lev:Int)(frm to:Fh):(HF fs lev frm to).length<=fs.length:=AZ _ _
theorem Xko (fs:List Fi)(k:Nat)(lev:Int)(frm to:Fh):(HF (fs.take k) lev frm to).length<=fs.length:=by
 have:=NV (fs.take k) lev frm to;rw[A7]at this;omega
end Go.Sp
namespace Go.Proofs.YtiooodckiddpmaaGreatDoor
open Go.Vc Go.Sp
attribute [local irreducible] W XW Dw G9
theorem VU (a b:Fh):(!Op.bytesLess a b && !a == b)=Op.bytesLess b a:=by
 rcases K5 a b with h|h|h
 ·subst h;have:=IC a;simp only [F0]at this;simp [this]
 ·have h2:=KR h;simp only [F0]at h h2;simp [h,h2]
 ·have h2:=KR h;have h3:=MZ h;simp only [F0]at h h2;simp [h,h2];exact λe=>h3 e.symm
theorem Y3 (a b:Fh):(Op.bytesLess a b || a == b)=!Op.bytesLess b a:=by
 rw[<-VU a b];cases Op.bytesLess a b<;>cases(a == b)<;>rfl
section
variable {P:Program}{E:FE}{d:Option Tmp}{ty:TypeId}{pos:String}{af:Array Edge}{g:Option (Nat×Bool)}
theorem Yb {x y:Operand}{T U:TypeId}{a b:Fh}(hx:ev E x=S a)(hy:ev E y=S b):PV P ⟨d,.binOp .gtr T x y U,ty,pos,af,g⟩ E (.bool (Op.bytesLess b a)):=λw=>by
 rw[<-VU];simp [execOp,hx,hy,eqGuard,binOp,Op.stringOp]
theorem Ss {x y:Operand}{T U:TypeId}{a b:Fh}(hx:ev E x=S a)(hy:ev E y=S b):PV P ⟨d,.binOp .leq T x y U,ty,pos,af,g⟩ E (.bool (!Op.bytesLess b a)):=λw=>by
 rw[<-Y3];simp [execOp,hx,hy,eqGuard,binOp,Op.stringOp]
end
theorem Xxt {a b:Fi}(h1:a.lev=0)(h2:b.lev=0):HK a b=Hp a.id b.id:=by unfold HK;rw[if_pos ⟨h1,h2⟩]
theorem V9 {a b:Fi}(h:¬ (a.lev=0/\b.lev=0)):HK a b=if Hp a.lev b.lev≠0 then Hp a.lev b.lev else Ie a.fst b.fst:=by unfold HK;rw[if_neg h]
variable {a b:Fh}
theorem X7m (h:F0 a b=true):Ie a b=-1:=if_pos h
theorem X7n (h:F0 a b=false)(h2:F0 b a=true):Ie a b=1:=by unfold Ie;rw[if_neg (by rw[h];decide),if_pos h2]
theorem X7o (h:F0 a b=false)(h2:F0 b a=false):Ie a b=0:=by unfold Ie;rw[if_neg (by rw[h];decide),if_neg (by rw[h2];decide)]
def LQ : List Int->Int
 | a :: r=>if a≠0 then a else LQ r
 | []=>0
theorem Ou (a b:Int):LQ [a,b]=if a≠0 then a else b:=by
 unfold LQ;unfold LQ;unfold LQ;split
 ·rfl
 ·split<;>simp_all
theorem U7 {l:List Int}{k:Nat}{x:Int}(h:l[k]?=some x):LQ (l.drop k)=if x≠0 then x else LQ (l.drop (k+1)):=by rw[IW h];rfl
theorem U0 (x:Int)(w:World) :
  FW 304 [I x] w (B false):=by
 refine cE Tryz.func304 λz=>go ?_;exact⟨by simp,z⟩
theorem X4q (x:Fh)(w:World) :
  FW 305 [S x] w (B false):=by
 refine cE Tryz.func305 λz=>go ?_;refine dp (Mt rfl rfl) (go ?_);exact⟨by simp,z⟩
theorem SY (x y:Int)(w:World) :
  FW 247 [I x,I y] w (I (Hp x y)):=by
 refine cE Tryz.func247 λz=>Gp (U0 x _) λw1 x1=>?_;have z:=z.trans x1;refine Gp (U0 y _) λw2 Y=>?_;have z:=z.trans Y;refine FZ (λJ=>?_) λJ=>?_
 ·cases J
 refine FZ (λO=>?_) λO=>?_
 ·cases O
 refine Fk (λc3=>?_) λc3=>?_
 ·refine go ?_;refine⟨?_,z⟩;unfold Hp;rw[if_pos Fb];done
 refine Fk (λZ=>?_) λZ=>?_
 ·refine go ?_;refine⟨?_,z⟩;unfold Hp;rw[if_neg Fb,if_pos Fb];done
 refine go ?_;refine⟨?_,z⟩;unfold Hp;rw[if_neg Fb,if_neg Fb]
theorem YX (x y:Fh)(w:World) :
  FW 249 [S x,S y] w (I (Ie x y)):=by
 refine cE Tryz.func249 λz=>Gp (X4q x _) λw1 x1=>?_;have z:=z.trans x1;refine Gp (X4q y _) λw2 x2=>?_;have z:=z.trans x2;refine FZ (λY=>?_) λY=>?_
 ·cases Y
 refine FZ (λZ=>?_) λZ=>?_
 ·cases Z
 refine go ?_;refine dp (LS rfl rfl) ?_;refine FZ (λJ=>?_) λJ=>?_
 ·refine go ?_;rw[X7m J];exact⟨rfl,z⟩
 refine go ?_;refine dp (Yb rfl rfl) ?_;refine FZ (λO=>?_) λO=>?_
 ·refine go ?_;rw[X7n J O];exact⟨rfl,z⟩
 refine go ?_;rw[X7o J O];exact⟨rfl,z⟩
theorem Yw (l:List Int)(v:Value)(w:World)(hv:Fs Vc.encI 1 w v l)(hl:l.length<=1000000) :
  FW 248 [v] w (I (LQ l)):=by
 refine cE Tryz.func248 λz=>FL 3 1 hv.sl ?_;refine F9 (G:=Nat) (λk=>[(3,I 0),(6,v),(7,I ↑l.length),(8,I ↑k)]) (λk w'=>Fp w w'/\k<=l.length/\LQ l=LQ (l.drop k)) (λk=>l.length-k) 0 ⟨z,Ab _,rfl⟩ ?_;rintro _ k w1 ⟨z,hk1,ho⟩;refine Fk (λO=>?_) λO=>?_
 ·obtain⟨x,hk⟩:∃x,l[k]?=some x:=F8;refine FK 3 1 hv.sl (hv.lt hk) ?_;refine dl rfl (((hv.ext z).row hk).at0 rfl) ?_;refine Fk (λJ=>?_) λJ=>?_
  ·refine go ?_;refine⟨?_,z⟩;rw[ho,U7 hk,if_pos J]
  refine go ?_;refine FJ (k+1) ⟨z,by omega,?_⟩;rw[ho,U7 hk,if_neg (λe=>e (AE J))]
 refine go ?_;refine⟨?_,z⟩;rw[ho,BW Fb];rfl
theorem TN (s:Fh)(w:World) :
  FW 181 [S s] w (B (LR s)):=by
 refine cE Tryz.func181 λz=>go ?_;refine dp (HW rfl rfl) ?_;refine ds1 6 (λJ=>?_) λJ=>?_
 ·refine go ?_;refine dp (IA rfl rfl) (go ?_);refine⟨?_,z⟩;simp only [Ending.returned.injEq,Value.bool.injEq];unfold LR;rw[decide_eq_true (show 1<=s.length by omega),C1];exact decide_eq_decide.2 Fb
 refine go ?_;refine⟨?_,z⟩;simp only [Ending.returned.injEq,Value.bool.injEq];unfold LR;rw[decide_eq_false (show¬ 1<=s.length by omega)];rfl
theorem Sc (a b:Fi)(w:World) :
  FW 175 [a.v,b.v] w (I (HK a b)):=by
 refine cE Tryz.func175 λz=>go ?_;refine Gx rfl rfl rfl RX.all (λb1 w1 e1 x1 J=>?_);have g1:=z.ge e1;have z:=z.trans x1;refine Gx rfl rfl rfl RX.all (λb2 w2 e2 x2 O=>?_);have g2:=z.ge e2;have n2_1:=J.ltb e2;refine Fz x2 J z λJ z=>?_;refine ds1 8 (λc1=>?_) λc1=>?_
 ·refine Fk (λc2=>?_) λc2=>?_
  ·refine Gp (SY a.id b.id _) λw3 x3=>FB x3 J O z λJ O z=>?_;refine go ?_;refine⟨?_,z⟩;rw[Xxt Fb Fb];done
  refine go ?_;refine HM (R:=Fp) Fp.refl (λ_ _ _=>Fp.trans) Fe [1,3,6,8] [(0,.p,false),(1,.l,false),(2,.p,false),(3,.l,false),(5,.p,false),(6,.l,false),(7,.p,false),(8,.l,false),(4,.x,false),(9,.x,false),(10,.x,false),(11,.x,false),(12,.p,false)] rfl Fe Fe (λw4 Z=>?_);have x4:=FC Z;clear Z;refine FB x4 J O z λJ O z=>go ?_;refine cP (SY a.lev b.lev _) RX.ext λw5 x5=>FB x5 J O z λJ O z=>cP (YX a.fst b.fst _) RX.ext λw6 x6=>FB x6 J O z λJ O z=>li (e:=3) (sz:=1) (zs:=[.int .i64 0]) (pv:=[(0,_),(1,_)]) (cs:=[_,_]) RX.ext (λb3 w7 e3 x7 m3=>?_);have g3:=z.ge e3;have n3_1:=J.ltb e3;have n3_2:=O.ltb e3;refine FB x7 J O z λJ O z=>cP (Yw [Hp a.lev b.lev,Ie a.fst b.fst] _ _ (m3.arr (enc:=Vc.encI) (l:=[Hp a.lev b.lev,Ie a.fst b.fst]) rfl Ff rfl F5) F5) RX.ext λw8 x8=>FB x8 J O z λJ O z=>go ?_;refine⟨?_,z⟩;rw[V9 Fb,Ou]
 refine go ?_;refine GL rfl (go ?_);refine HM (R:=Fp) Fp.refl (λ_ _ _=>Fp.trans) Fe [1,3,6,8] [(0,.p,false),(1,.l,false),(2,.p,false),(3,.l,false),(5,.p,false),(6,.l,false),(7,.p,false),(8,.l,false),(4,.x,false),(9,.x,false),(10,.x,false),(11,.x,false),(12,.p,false)] rfl Fe Fe (λw9 Y=>?_);have x9:=FC Y;clear Y;refine FB x9 J O z λJ O z=>go ?_;refine cP (SY a.lev b.lev _) RX.ext λw10 hg=>?_;have z:=z.trans hg;refine cP (YX a.fst b.fst _) RX.ext λw11 ha=>?_;have z:=z.trans ha;refine li (e:=3) (sz:=1) (zs:=[.int .i64 0]) (pv:=[(0,_),(1,_)]) (cs:=[_,_]) RX.ext (λb4 w12 e4 hc m4=>?_);have g4:=z.ge e4;have z:=z.trans hc;refine cP (Yw [Hp a.lev b.lev,Ie a.fst b.fst] _ _ (m4.arr (enc:=Vc.encI) (l:=[Hp a.lev b.lev,Ie a.fst b.fst]) rfl Ff rfl F5) F5) RX.ext λw13 hf=>?_;have z:=z.trans hf;refine go ?_;refine⟨?_,z⟩;rw[V9 Fb,Ou]
theorem Yau (a b:Fi)(w:World) :
  FW 182 [a.v,b.v] w (B (IU a b)):=by
 refine cE Tryz.func182 λz=>go ?_;refine Gx rfl rfl rfl RX.all (λb1 w1 e1 x1 J=>?_);have g1:=z.ge e1;have z:=z.trans x1;refine Gx rfl rfl rfl RX.all (λb2 w2 e2 x2 O=>?_);have g2:=z.ge e2;have n2_1:=J.ltb e2;refine Fz x2 J z λJ z=>?_;refine ds1 8 (λY=>?_) λY=>?_
 ·refine Fk (λc2=>?_) λc2=>?_
  ·refine go ?_;refine dp (LS rfl rfl) (go ?_);refine⟨?_,z⟩;unfold IU;rw[if_pos Fb];done
  refine go ?_;refine dq (Fy (k:=5) Fe rfl rfl J.row) (dq (Fy (k:=5) Fe rfl rfl O.row) (cP (Sc a b _) RX.all λw3 Z=>FB Z J O z λJ O z=>go ?_));refine⟨?_,z⟩;unfold IU;rw[if_neg Fb]
 refine go ?_;refine GL rfl (go ?_);refine dq (Fy (k:=5) Fe rfl rfl J.row) (dq (Fy (k:=5) Fe rfl rfl O.row) (cP (Sc a b _) RX.all λw4 x4=>?_));have z:=z.trans x4;refine go ?_;refine⟨?_,z⟩;unfold IU;rw[if_neg Fb]
def Lq (a b:Fi):Bool:=if a.lev≠b.lev then decide (a.lev<b.lev)else if a.lev=0 then decide (a.id<b.id)else F0 a.fst b.fst
def I4 (f:Fi)(next:Int):Bool:=decide (1<=f.id) && decide (f.id<next) && decide (0<=f.lev) && decide (f.lev<=4) && decide (1<=f.size) && decide (f.size<=1048576) && (decide (1<=f.fst.length) && decide (f.fst.length<=4096)) && (decide (1<=f.lst.length) && decide (f.lst.length<=4096)) && !F0 f.lst f.fst
def rAt (next:Int)(fs:List Fi)(i:Nat)(f:Fi):Prop:=I4 f next=true/\(∀j g,j<i->fs[j]?=some g->g.id≠f.id)/\∀g,0<i->fs[i-1]?=some g->Lq g f=true/\¬ (0<f.lev/\g.lev=f.lev/\F0 g.lst f.fst=false)
def Qy (next:Int)(fs:List Fi):Prop:=(1<=next/\next<=1099511627776/\fs.length<=1024)/\∀i f,fs[i]?=some f->rAt next fs i f
def Hz (fs:List Fi)(n:Int):Nat:=(fs.filter λf=>decide (f.lev=n)).length
theorem Le {α:Type}{m l:List α}{c:α}(h:∀x∈m,x∈l)(hc:c∈l):∀x∈m++[c],x∈l:=λx z=>(Ak.1 z).elim (h x) (λJ=>by rw[Af.1 J];exact hc)
theorem Yq (a b:List Cell)(va vb:Value)(w:World)(ha:Fs Cell.cs 4 w va a)(hb:Fs Cell.cs 4 w vb b)(hl:a.length+b.length<=1000000000000) :
  Gf 139 [va,vb] w λu w'=>∃m,Vc.Own Cell.cs 4 79 w.heap.size w' u m/\m.length<=a.length+b.length/\∀c∈m,c∈a\/c∈b:=by
 refine cE Tryz.func139 λz=>F9 (G:=Nat×Nat×Value×List Cell) (λ(i,k,vm,m)=>[(0,va),(1,vb),(4,.slice none 0 0),(5,vm),(6,I ↑i),(7,I ↑k)]) (λ(i,k,vm,m) w'=>Fp w w'/\i<=a.length/\k<=b.length/\m.length=i+k/\(∀c∈m,c∈a\/c∈b)/\Vc.Own Cell.cs 4 79 w.heap.size w' vm m) (λ(i,k,vm,m)=>a.length+b.length-i-k) (0,0,.slice none 0 0,[]) ⟨z,Ab _,Ab _,rfl,λc hc=>(by cases hc),Vc.Own.nil⟩ ?_;rintro _ ⟨i,k,vm,m⟩ w1 ⟨z,hi1,hk1,hml,hm,ho⟩;refine GK (G:=Unit) (λuu=>[(0,va),(1,vb),(4,.slice none 0 0),(5,vm),(6,I ↑i),(7,I ↑k)]) (λuu w'=>Fp w w'/\Vc.Own Cell.cs 4 79 w.heap.size w' vm m/\(i<a.length\/k<b.length)) ?_ ?_
 ·refine FL 79 4 (ha.ext z).sl ?_;refine ds1 12 (λc1=>?_) λc1=>?_
  ·refine go ?_;refine GD rfl (go ?_);exact⟨(),Hn,z,ho,by omega⟩
  refine FL 79 4 (hb.ext z).sl ?_;refine Fk (λc2=>?_) λc2=>?_
  ·refine go ?_;exact⟨(),Hn,z,ho,by omega⟩
  refine go ?_;exact⟨_,rfl,z,m,ho,by omega,hm⟩
 rintro _ uu w2 ⟨z,ho,hik⟩;refine g0 ?_;refine GK (G:=Bool) (λbb=>[(0,va),(1,vb),(4,.slice none 0 0),(5,vm),(6,I ↑i),(7,I ↑k),(38,.bool bb)]) (λbb w'=>Fp w w'/\Vc.Own Cell.cs 4 79 w.heap.size w' vm m/\(bb=true->i<a.length)/\(bb=false->k<b.length)) ?_ ?_
 ·refine wd 1005100010000000000000 λw3 x3=>Fz x3 ho z λho z=>FL 79 4 (hb.ext z).sl ?_;refine ds1 22 (λc3=>?_) λc3=>?_
  ·refine go ?_;exact⟨true,GY,z,ho,λ_=>by omega,λe=>(by cases e)⟩
  refine FL 79 4 (ha.ext z).sl ?_;refine ds1 27 (λc4=>?_) λc4=>?_
  ·obtain⟨c,hka⟩:∃c,a[i]?=some c:=F8;obtain⟨d,hkb⟩:∃d,b[k]?=some d:=F8;refine FK 79 4 ha.sl (ha.lt hka) ?_;refine Gd rfl (λw' hR=>Fy Fe rfl rfl ((ha.ext (z.trans hR)).row hka)) (FK 79 4 hb.sl (hb.lt hkb) ?_);refine Gd rfl (λw' hR=>Fy Fe rfl rfl ((hb.ext (z.trans hR)).row hkb)) (cP (R5 c d _) RX.all λw4 x4=>Fz x4 ho z λho z=>go ?_);exact⟨_,GY,z,ho,λ_=>by omega,λ_=>by omega⟩
  refine go ?_;exact⟨false,GY,z,ho,λe=>(by cases e),λ_=>by omega⟩
 rintro _ bb w5 ⟨z,ho,hbt,hbf⟩;refine wc (λZ=>?_) λZ=>?_
 ·have hi9:=hbt Z;obtain⟨c,hka⟩:∃c,a[i]?=some c:=F8;refine FK 79 4 ha.sl (ha.lt hka) ?_;refine dq (Fy Fe rfl rfl ((ha.ext z).row hka)) (lA 79 rfl λb1 w6 e1 x6 m1=>?_);have g1:=z.ge e1;have o1_ho:=ho.ltb e1;refine Fz x6 ho z λho z=>G1 c ho m1 λv2 w7 J x7=>?_;have z:=z.own x7 F4;have ho:=J;clear m1;refine go ?_;exact FJ (i+1,k,v2,m++[c]) ⟨z,by omega,hk1,by rw[Ad,hml,Db];omega,λx O=>(Ak.1 O).elim (hm x) (λY=>by rw[Af.1 Y];exact .inl (Ag hka)),ho⟩
 have hk9:=hbf (by simpa using Z);obtain⟨d,hkb⟩:∃d,b[k]?=some d:=F8;refine FK 79 4 hb.sl (hb.lt hkb) ?_;refine dq (Fy Fe rfl rfl ((hb.ext z).row hkb)) (lA 79 rfl λb2 w8 e2 x8 m2=>?_);have g2:=z.ge e2;have o2_ho:=ho.ltb e2;refine Fz x8 ho z λho z=>G1 d ho m2 λv3 w9 J x9=>?_;have z:=z.own x9 F4;have ho:=J;clear m2;refine go ?_;exact FJ (i,k+1,v3,m++[d]) ⟨z,hi1,by omega,by rw[Ad,hml,Db];omega,λx O=>(Ak.1 O).elim (hm x) (λY=>by rw[Af.1 Y];exact .inr (Ag hkb)),ho⟩
theorem RS (l:List Cell)(v:Value)(w:World)(hv:Fs Cell.cs 4 w v l)(hl:l.length<=1000000000000) :
  Gf 140 [v] w λu w'=>∃m,Vc.Own Cell.cs 4 79 w.heap.size w' u m/\m.length<=l.length/\(∀c∈m,c∈l)/\(l≠[]->m≠[]):=by
 refine cE Tryz.func140 λz=>F9 (G:=Nat×Value×List Cell) (λ(k,vm,m)=>[(0,v),(2,.slice none 0 0),(3,vm),(4,I ↑k)]) (λ(k,vm,m) w'=>Fp w w'/\k<=l.length/\m.length<=k/\(∀c∈m,c∈l)/\(0<k->m≠[])/\Vc.Own Cell.cs 4 79 w.heap.size w' vm m) (λ(k,vm,m)=>l.length-k) (0,.slice none 0 0,[]) ⟨z,Ab _,Aa _,λc hc=>(by cases hc),λh=>absurd h (A4 0),Vc.Own.nil⟩ ?_;rintro _ ⟨k,vm,m⟩ w1 ⟨z,hk1,hml,hm,hmn,ho⟩;refine FL 79 4 (hv.ext z).sl ?_;refine Fk (λc1=>?_) λc1=>?_
 ·obtain⟨c,hk⟩:∃c,l[k]?=some c:=F8;have O:=Ag hk;refine g0 ?_;refine wS (g0 ?_);refine GK (G:=Bool) (λbb=>[(0,v),(2,.slice none 0 0),(3,vm),(4,I ↑k),(28,.bool bb)]) (λbb w'=>Fp w w'/\Vc.Own Cell.cs 4 79 w.heap.size w' vm m/\(bb=false->m≠[])) ?_ ?_
  ·refine wd 1001000010000000000 λw2 x2=>Fz x2 ho z λho z=>go ?_;refine dv 79 4 (ho.arr Ff).sl ?_;refine ds1 14 (λY=>?_) λY=>?_
   ·refine go ?_;exact⟨true,GC,z,ho,λe=>(by cases e)⟩
   obtain⟨d,hkl⟩:∃d,m[m.length-1]?=some d:=F8;refine go ?_;refine dv 79 4 (ho.arr Ff).sl (F3 (v:=I ↑(m.length-1)) rfl (Gz rfl rfl (by unfold Fx;omega)) (by show I _=I _;congr 1;omega) (di 79 4 (ho.arr Ff).sl rfl ((ho.arr Ff).lt hkl) (go ?_)));refine dL rfl (λ_ hR=>((((ho.arr Ff).ext hR).row hkl).at rfl)) (FK 79 4 hv.sl (hv.lt hk) ?_);refine go ?_;refine dL rfl (λ_ hR=>(((hv.ext (z.trans hR)).row hk).at rfl)) (dp (Mt rfl rfl) (go ?_));exact⟨_,GC,z,ho,λ_ e=>Y (by rw[e];rfl)⟩
  rintro _ bb w3 ⟨z,ho,hbf⟩;refine wc (λZ=>?_) λZ=>?_
  ·refine FK 79 4 hv.sl (hv.lt hk) ?_;refine dq (Fy Fe rfl rfl ((hv.ext z).row hk)) (lA 79 rfl λb1 w4 e1 x4 m1=>?_);have g1:=z.ge e1;have o1_ho:=ho.ltb e1;refine Fz x4 ho z λho z=>G1 c ho m1 λv2 w5 J x5=>?_;have z:=z.own x5 F4;have ho:=J;clear m1;refine go ?_;exact FJ (k+1,v2,m++[c]) ⟨z,by omega,by simp;omega,Le hm O,λ_=>by simp,ho⟩
  refine go ?_;exact FJ (k+1,vm,m) ⟨z,by omega,by omega,hm,λ_=>hbf (by simpa using Z),ho⟩
 refine go ?_;exact⟨_,rfl,z,m,ho,by omega,hm,λh=>hmn (by have:=CM.2 h;omega)⟩
end Go.Proofs.YtiooodckiddpmaaGreatDoor
