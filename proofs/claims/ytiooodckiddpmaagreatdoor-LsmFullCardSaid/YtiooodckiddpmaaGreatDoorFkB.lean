/-
 A part of the proof: SpOct VcV VcU OcA VcO OcB OcC OcD OcE Shelf VcT OcF VcI VcQ VcL VcP SpDsk SpDk2.
-/
import Derived.Test.YtiooodckiddpmaaGreatDoorFkA
import Derived.Lib.Builder
import Derived.Lib.UnsafeStr
import Derived.Laws.Externs
import Derived.Lib.AppendStr
import Derived.Test.YtiooodckiddpmaaGreatDoorChecked
import Derived.KernelRfl
import Derived.Shelf.Small.Bits
import Derived.Shelf.Small.Strs
import Derived.Shelf.Small.Wraps
import Derived.Shelf.Strconv.Itoa0
import Derived.Shelf.Strconv.Itoa1
import Derived.Shelf.LaysM
import Derived.Shelf.Strconv.Itoa2
import Derived.Shelf.Strconv.Itoa3
import Derived.Shelf.Strings.Prefix
import Derived.Shelf.Slices.Turned
import Derived.Ground.Names2Prog
import Derived.Shelf.Slices.SearchI
import Derived.Shelf.Bytes.SlSearch0
import Derived.Ground.SlbCloneProg
import Derived.Shelf.Bytes.SlClone
import Derived.Ground.SlbNamesProg
import Derived.Shelf.Bytes.SlJoin
import Derived.Ground.SlgnProg
import Derived.Shelf.SlicesE.Clone
import Derived.Shelf.Bytes.SlEqualAll
import Derived.Shelf.Bytes.Small
import Derived.Test.YtiooodckiddpmaaGreatDoorProg
import Derived.RangeFuncRecord
import Derived.RangeFuncOwn
import Derived.OrdersIn
import Derived.TacticsIn
import Derived.Maps.OwnSet
open Nat renaming le_refl->Aa,zero_le->Ad,le_trans->Ae,le_of_ble_eq_true->Ap,blt->AR,mul_le_mul_right->AY,succ_mul->Ba,mod_lt->Bg,beq->Bq,blt_eq->Br,mul_comm->Bx,mod_eq_of_lt->B8,eq_zero_or_pos->Cl,pow_succ->CG,shiftLeft_eq->CW,or_comm->CX,two_pow_add_eq_or_of_lt->CY,div_lt_of_lt_mul->Dx,shiftRight_eq_div_pow->DX,mul_lt_mul_of_pos_right->DY
open List renaming length_append->Ab,take->Af,set->Ag,drop->Ai,mem_cons->Aj,mem_of_getElem?->Ak,mem_cons_self->Al,mem_cons_of_mem->Am,length_map->An,getElem?_eq_some_iff->Ao,map_cons->Aq,mem_map->Ar,getElem?_eq_getElem->Av,replicate->Aw,take_of_length_le->Ax,mem_filter->Az,length_take->A4,eq_nil_of_length_eq_zero->A5,length->A7,append_assoc->AA,length_cons->AB,flatMap_cons->AD,nil_append->AE,length_set->AG,getElem?_map->AH,take_length->AK,cons_append->AS,getElem?_take->AV,sum_cons->AW,nodup_cons->AZ,map_map->Be,length_drop->Bh,getElem?_eq_none->Bl,take_add_one->B4,filter_cons->B5,ext_getElem?->BA,drop_of_length_le->BH,flatMap->BI,map_congr_left->BJ,getD_eq_getElem?_getD->BQ,drop_zero->Ca,take_succ_cons->Cr,not_mem_nil->Ct,getElem?_set->C5,take_append_of_le_length->D6,drop_append_of_le_length->Eb
open Bool renaming and_eq_true->Au,not_eq_true'->BO
open Option renaming some->A3,map_eq_some_iff->Bd
open Decidable renaming of_not_not->AI
open BitVec renaming ofInt->AM,ofInt_natCast->CZ,toNat_ofNat->Da
open UInt8 renaming ofNat->AN,lt_iff_toNat_lt->CF,toNat->DV
open UInt32 renaming ofNat->AQ,toNat_shiftLeft->CV,toNat_or->D5,toNat_shiftRight->DW,toNat_inj->DZ,toNat_ofNat'->Ea
open Array renaming getElem?_eq_some_iff->BF,all_eq_true_iff_forall_mem->Cm
open Int renaming toNat_natCast->BM,fdiv_eq_ediv_of_nonneg->CH
open List.Sublist renaming map->C4
set_option maxRecDepth 100000
set_option maxHeartbeats 4000000
set_option linter.unusedVariables false
set_option linter.unusedSimpArgs false
namespace Go.Sp
open Go.Vc (EC)
def GK : Nat->Nat->EC
 | 0,_=>[]
 | k+1,u=>if u<128 then[AN u]else AN (u % 128+128) :: GK k (u / 128)
def EV (u:Nat):EC:=GK 10 u
def Gr : Nat->Nat->EC->Option (Nat×EC)
 | _,_,[]=>none
 | i,u,c :: r=>if 9<=i\/(0<i/\c=0)then none else
  if c.toNat<128 then(if 4611686018427387904<u+c.toNat % 128*128 ^ i then none else some (u+c.toNat % 128*128 ^ i,r))
  else Gr (i+1) (u+c.toNat % 128*128 ^ i) r
theorem Nd (n:Nat)(h:n<256):(AN n).toNat=n:=by
 rw[UInt8.toNat_ofNat'];exact B8 h
theorem Wg : ∀(k u:Nat),(GK k u).length<=k
 | 0,u=>Aa _
 | k+1,u=>by
  unfold GK;split
  ·simp
  ·have:=Wg k (u / 128);simp;omega
theorem Nx (k u:Nat):1<=(GK (k+1) u).length:=by
 unfold GK;split<;>simp
theorem Gd (u:Nat):(EV u).length<=10:=Wg _ _
theorem VF : ∀(k i a u:Nat) (r:EC),u<128 ^ k->i+k<=9->(0<k\/0<i)->(0<i->0<u)->a+u*128 ^ i<=4611686018427387904->Gr i a (GK k u++r)=some (a+u*128 ^ i,r)
 | 0,i,a,u,r,hu,hi,h0,hp,hm=>by
  have:u=0:=by simpa using hu
  subst this
  cases i with
  | zero=>omega
  | succ i=>exact absurd (hp (Nat.succ_pos _)) EA
 | k+1,i,a,u,r,hu,hi,h0,hp,hm=>by
  unfold GK;split
  ·rename_i h;rw[AS,AE];unfold Gr;have e:(AN u).toNat=u:=Nd u EA;have z:¬ (9<=i\/(0<i/\AN u=0)):=by
    rintro (h9|⟨h1,h2⟩)
    ·omega
    ·have:=congrArg DV h2;rw[e]at this;have:=hp h1;simp at *;omega
   rw[if_neg z,e,if_pos h,B8 h,if_neg EA]
  ·rename_i h;rw[AS];unfold Gr;have e:(AN (u % 128+128)).toNat=u % 128+128:=Nd _ EA;have z:¬ (9<=i\/(0<i/\AN (u % 128+128)=0)):=by
    rintro (h9|⟨h1,h2⟩)
    ·omega
    ·have:=congrArg DV h2;rw[e]at this;simp at this
   have e2:(u % 128+128) % 128=u % 128:=by omega
   have J:a+u % 128*128 ^ i+u / 128*128 ^ (i+1)=a+u*128 ^ i:=by
    have:u*128 ^ i=(u % 128+128*(u / 128))*128 ^ i:=by rw[Nat.mod_add_div]
    rw[this,Nat.add_mul,CG,Nat.add_assoc,Bx 128 (u / 128),Nat.mul_assoc (u / 128),Bx 128]
   rw[if_neg z,e,if_neg EA,e2,VF k (i+1) _ (u / 128) r (by rw[CG]at hu;omega) EA EA (by intro _;omega) (by rw[J];exact hm),J]
theorem Xuo {u:Nat}(r:EC)(h:u<=4611686018427387904):Gr 0 0 (EV u++r)=some (u,r):=by
 have e:EV u=GK 9 u:=by
  have:∀(k u:Nat),u<128 ^ k->0<k->GK (k+1) u=GK k u:=by
   intro k
   induction k with
   | zero=>intro u _ h;omega
   | succ k ih=>
    intro u hu _;unfold GK;split
    ·rfl
    ·rename_i h1;have hk:0<k:=by
      cases k with
      | zero=>simp at hu;omega
      | succ k=>omega
     rw[<-ih (u / 128) (by rw[CG]at hu;omega) hk]
  exact this 9 u (by
   have:(128:Nat) ^ 9=9223372036854775808:=by decide
   omega) EK
 rw[e,VF 9 0 0 u r (by
  have:(128:Nat) ^ 9=9223372036854775808:=by decide
  omega) EA EA EA (by simp;exact h)]
 simp
def Fp (p:EC):EC:=EV p.length++p
def rawR (n:Nat)(s:EC):Option (EC×EC):=if s.length<n then none else some (s.take n,s.drop n)
def rowR (s:EC):Option (EC×EC):=(Gr 0 0 s).bind λx=>rawR x.1 x.2
def MB (v:UInt32):UInt32:=(v >>> 1) ^^^ (0xedb88320 &&& (0-(v &&& 1)))
def KB : Nat->UInt32->UInt32
 | 0,v=>v
 | k+1,v=>KB k (MB v)
def J3 (v:UInt32)(c:UInt8):UInt32:=KB 8 (v ^^^ c.toUInt32)
def H1 (l:EC):UInt32 := ~~~(l.foldl J3 (~~~0))
def HR (v:UInt32):EC:=[v.toUInt8,(v >>> 8).toUInt8,(v >>> 16).toUInt8,(v >>> 24).toUInt8]
def Hm (n:UInt32):EC:=HR n++HR (H1 (HR n))
def EI (p:EC):EC:=(Hm (AQ p.length)++p)++HR (H1 (Hm (AQ p.length)++p))
theorem RF (v:UInt32):(HR v).length=4:=rfl
theorem Ke (v:UInt32):(Hm v).length=8:=rfl
theorem Jz (p:EC):(EI p).length=p.length+12:=by
 unfold EI;simp only [Ab,Ke,RF];omega
end Go.Sp
namespace Go.Vc
open Go.RowKit
@[reducible] def Gy (f:Nat):Value:=.func (.func f) #[] #[]
section
variable {P:Program}{n:Nat}{ds:List (Option Tmp)}{R:World->World->Prop}{r:List (Oper×Fl×Bool)}{K:Fg->World->Prop}{E:Fg}{w:World}
variable {d:Nat}{op:Op}{ty:TypeId}{pos:String}{af:Array Edge}{g:Option (Nat×Bool)}{anc:Bool}{v:Value}
theorem X4u {f t:Nat}{az:List Operand}{ats:Array TypeId}{vs:List Value}{R1:Ending->World->Prop}(hg:FB ds E g=true)(hv:E t=Gy f)(hf:GL P f=true)(ha:az.map (ev E)=vs)(hc:Calls P f vs.toArray w R1)
  (h:∀e w1,R1 e w1->∃v,e=.returned v/\(anc=false->R w w1)/\Dw P n ds R r K (FJ E d v) w1) :
  Dw P n ds R ((⟨some d,.call { callee:=.value (.tmp t),args:=az.toArray,argTypes:=ats },ty,pos,af,g⟩,.x,anc) :: r) K E w:=by
 refine MX hg λok=>?_;unfold GL at hf
 cases hp:P.funcs[f]? with
 | none=>rw[hp]at hf;simp at hf
 | some fn=>
  rw[hp]at hf;simp only [Au,BO]at hf;obtain⟨h1,h2⟩:=hf;have h3:fn.body≠none:=by cases hb:fn.body<;>simp [hb]at h2 ⊢
  have h1' : fn.name ≠ "runtime.NumGoroutine" := by simpa using h1
  have hr:(execOp (ev E) ⟨some d,.call { callee:=.value (.tmp t),args:=az.toArray,argTypes:=ats },ty,pos,af,g⟩).run P w=.ok (.enter f vs.toArray) w:=by
   simp [execOp,resolve,ev,hv,Deferred.ofValue,invoke,callFunc,program,Sem.run,hp,h1',h3,ha]
  unfold Oper.wp;rw[LK ok,hr];simp only [Oper.upon];refine Calls.mono hc λe w1 h1=>?_;obtain⟨v,rfl,hR,hd⟩:=h e w1 h1;exact⟨_,Iy _ _ _ _,hR,hd⟩
theorem KP {f t:Nat}{az:List Operand}{ats:Array TypeId}{vs:List Value}(hg:FB ds E g=true)(hv:E t=Gy f)(hf:GL P f=true)(hc:Calls P f vs.toArray w (Pure w v))(ha:az.map (ev E)=vs)(hR:RX R anc)
  (h:∀z,EB w z->Dw P n ds R r K (FJ E d v) z) :
  Dw P n ds R ((⟨some d,.call { callee:=.value (.tmp t),args:=az.toArray,argTypes:=ats },ty,pos,af,g⟩,.x,anc) :: r) K E w:=
 X4u hg hv hf ha hc λe z ⟨he,hx⟩=>⟨v,he,hR.use hx,h z hx⟩
end
section
variable {P:Program}{E:Fg}{w:World}{d:Option Tmp}{op:Op}{ty:TypeId}{pos:String}{af:Array Edge}{g:Option (Nat×Bool)}
def toU (P:Program)(S D n:Nat):Bool:=Oj P S && (match P.underlying D with|some .unsafePointer=>true|_=>false) && (match P.info? (P.pointee S)with|some i=>!(i.size == 0)|none=>false)
end
def Ycd (P:Program)(e:Nat):Bool:=match P.info? e with
 | some i=>(i.size == 1) && (i.bytes == 1) && (match i.zero with|some (.int .u8 0)=>true|_=>false)
 | none=>false
section
variable {P:Program}{n:Nat}{ds:List (Option Tmp)}{R:World->World->Prop}{r:List (Oper×Fl×Bool)}{K:Fg->World->Prop}{E:Fg}{w:World}
variable {d:Nat}{op:Op}{ty:TypeId}{pos:String}{af:Array Edge}{g:Option (Nat×Bool)}{anc:Bool}{v:Value}
end
structure Bld (T e B:Nat)(b:Nat)(v:Value)(l:EC)(w:World):Prop where
 blk:∃p,(p=.pointer none\/p=ED b 0)/\EL w b [p,v] T
 own:Own EP 1 e B w v l
end Go.Vc
namespace Go.Proofs.YtiooodckiddpmaaGreatDoor
open Go.Vc Go.Sp
attribute [local irreducible] W XW Dw Gm
structure Wr (B bw:Nat)(v:Value)(l:EC)(w:World):Prop where
 m:EL w bw [v] 142
 o:Vc.Own EP 1 5 B w v l
@[reducible] def Hq (bw:Nat) (v:Value):Nat->Prop:=λk=>k=bw\/v.ownBlock=some k
theorem Wr.mod {B bw:Nat}{v:Value}{l:EC}{S:Nat->Prop}{w w':World}(h:Wr B bw v l w)(m:Vc.Mod S w w')(hS:∀k,Hq bw v k->¬ S k):Wr B bw v l w':=⟨h.m.mod m (hS bw (.inl rfl)),h.o.mod m (λk hk=>hS k (.inr hk))⟩
theorem Wr.ext {B bw:Nat}{v:Value}{l:EC}{w w':World}(h:Wr B bw v l w)(m:EB w w'):Wr B bw v l w':=h.mod m (λ_ _ h=>h)
def Ha (n:Int):Nat:=(max 0 (min n 4611686018427387904)).toNat
theorem WY (n:Int):Ha n<=4611686018427387904:=by unfold Ha;omega
theorem NJ {a:Nat}(h:a<18446744073709551616):IntKind.u64.wrap (a:Int)=a:=by
 have e:IntKind.u64.wrap (a:Int)=(a:Int) % 18446744073709551616:=by unfold IntKind.wrap;simp [IntKind.bits,IntKind.signed]
 rw[e];omega
section
variable {P:Program}{E:Fg}{dd:Option Tmp}{ty:TypeId}{pos:String}{af:Array Edge}{g:Option (Nat×Bool)}{x y:Operand}{T U:TypeId}
theorem X8o {n:Int}(hx:ev E x=I (max 0 (min n 4611686018427387904)))(hT:(P.underlying T).isSome=true)(hU:H3 P U=some .u64):PV P ⟨dd,.convert T U x,ty,pos,af,g⟩ E (.int .u64 (Ha n:Nat)):=by
 have:=JB (P:=P) (d:=dd) (ty:=ty) (pos:=pos) (af:=af) (g:=g) hx hT hU;rwa [show max 0 (min n 4611686018427387904)=((Ha n:Nat):Int) by unfold Ha;omega,NJ (by have:=WY n;omega)]at this
theorem X4v {u:Nat}(hx:ev E x=.int .u64 u)(hy:ev E y=.int .u64 7):PV P ⟨dd,.binOp .shr T x y U,ty,pos,af,g⟩ E (.int .u64 (u / 128:Nat)):=by
 have:=MT (P:=P) (dd:=dd) (ty:=ty) (pos:=pos) (af:=af) (g:=g) (T:=T) (U:=U) hx hy EK;rwa [show((u:Int)).fdiv (2 ^ min (7:Int).toNat IntKind.u64.bits)=((u / 128:Nat):Int) by
  rw[show(2:Int) ^ min (7:Int).toNat IntKind.u64.bits=128 by decide,CH _ EA];omega]at this
end
theorem Ybb (u:Nat):AN u ||| 128=AN (u % 128+128):=by
 have h:∀c:Fin 256,AN c ||| 128=AN (c.1 % 128+128):=by decide +kernel
 have e:AN u=AN (u % 256):=by apply UInt8.toNat_inj.1;simp
 rw[e,h ⟨u % 256,Bg _ EK⟩]
 congr 1;simp only;omega
theorem Xuq {α β:Type}{l:List α}{k:Nat}{x:α}(f:α->List β)(h:l[k]?=some x):(l.take (k+1)).flatMap f=(l.take k).flatMap f++f x:=by
 rw[B4,h,List.flatMap_append];simp
def FX (n:Int):EC:=EV (Ha n)
theorem Fs (ns:List Int)(k:Nat):((ns.take k).flatMap FX).length<=10*k:=by
 induction ns generalizing k with
 | nil=>simp
 | cons a r ih=>
  cases k with
  | zero=>simp
  | succ k=>rw[Cr,AD,Ab];have:=Gd (Ha a);have:=ih k;unfold FX at *;omega
@[reducible] def GO (w:World) (v v':Value):Prop:=v'.ownBlock=v.ownBlock\/∀k,v'.ownBlock=some k->w.heap.size<=k
theorem O5 {w:World}{v v':Value}{bw i:Nat}(h:GO w v v')(hi:v'.ownBlock=some i)(hlt:i<w.heap.size):Hq bw v i:=by
 rcases h with e|e
 ·exact .inr (e▸hi)
 ·exact absurd (e i hi) EA
theorem WK {α:Type}{l:List α}{w:World}{v v':Value}{bw n:Nat}(h:GO w v v')(hd:∀k,Hq bw v k->l≠[]->n≠k)(hb:l≠[]->n<w.heap.size):l≠[]->¬ v'.ownBlock=some n:=by
 intro z e;rcases h with h|h
 ·exact hd n (.inr (h▸e)) z rfl
 ·have:=h n e;have:=hb z;omega
theorem R4 {w:World}{v v1 v2:Value}{n:Nat}(h:GO w v v1)(hs:v2.ownBlock=v1.ownBlock\/v2.ownBlock=some n)(hn:w.heap.size<=n):GO w v v2:=by
 rcases hs with e|e
 ·rcases h with e1|e1
  ·exact .inl (e.trans e1)
  ·exact .inr (λk hk=>e1 k (e▸hk))
 ·exact .inr (λk hk=>by rw[e]at hk;cases hk;exact hn)
theorem Xur {j u:Nat}{dn X:EC}(hj:1<=j)(hu:u<128 ^ j)(h:128<=u)(e:dn++GK j u=X):2<=j/\u / 128<128 ^ (j-1)/\(dn++[AN u ||| 128])++GK (j-1) (u / 128)=X:=by
 obtain⟨j,rfl⟩:∃i,j=i+1:=⟨j-1,by omega⟩;unfold GK at e;rw[if_neg EA]at e;refine⟨?_,by rw[CG]at hu;simp;omega,by rw[Ybb,AA];exact e⟩
 cases j with
 | zero=>simp at hu;omega
 | succ j=>omega
theorem Xus {j u:Nat}{dn X:EC}(hj:1<=j)(h:¬ 128<=u)(e:dn++GK j u=X):dn++[AN u]=X:=by
 obtain⟨j,rfl⟩:∃i,j=i+1:=⟨j-1,by omega⟩;unfold GK at e;rwa [if_pos EA]at e
theorem X8p (B bw:Nat)(v:Value)(l:EC)(p:EC)(vp:Value)(w:World)(h:Wr B bw v l w)(hl:l.length<=1000000000)(hB:B<=w.heap.size)(hp:EM EP 1 w vp p)(hpl:p.length<=1000000000) :
  Calls Tryz.prog 155 [ED bw 0,vp].toArray w (Fh (Hq bw v) w (λu w'=>u=.tuple #[]/\∃v',Wr B bw v' (l++p) w'/\GO w v v')):=by
 refine cw Tryz.func155 ?_;have O:=Vc.Mod.refl (Hq bw v) w;obtain⟨hm,ho⟩:=h;have hb:=ho.ne_blk hm rfl;have z:GO w v v:=.inl rfl;refine ws λ_ Z1=>wr (dm ?_);refine dp (Ng E9 rfl rfl) (de Z1 (wi (λc1=>?_) λc1=>?_))
 ·refine wr (dm (dm ?_));refine dz rfl (df 0 rfl (dl rfl (hm.at rfl) (dm ?_)));refine KG (lx:=p) (e:=5) (sz:=1) (by':=1) rfl E9 E9 EE ho (hp) rfl rfl (by intro x _ u hu;simp at hu;rcases hu with rfl<;>rfl) (by simp;omega) EK (Ae hB O.size) (.inl rfl) (λv2 w1 Z x1 Y=>?_);have J:=R4 z Y O.size;have hm:=hm.mod x1 (by exact hb);have O:=O.own x1 (λi hi hc=>O5 z hi hc);have ho:=Z;have z:=J;clear J;have ha:=ho.ne_blk hm rfl;refine dz rfl (df 0 rfl (G5 hm (λw2 x2 xs2 hm=>?_) (hv:=by exact FW.one ho.sl)));dsimp only [Fe,Ag,Af,Ai]at hm;have ho:=ho.mod x2 (by intro k hk e;have h2:k=bw:=e;exact ha (h2▸hk));have O:=O.own x2 (λi hi _=>Or.inl hi);refine EF ((HI (Hi rfl ?_)));exact⟨_,rfl,O,rfl,v2,⟨hm,ho⟩,z⟩
 exact absurd c1 EQ
theorem JQ (B bw:Nat)(v:Value)(l:EC)(ns:List Int)(vn:Value)(w:World)(h:Wr B bw v l w)(hl:l.length<=1000000000)(hB:B<=w.heap.size)(hn:EM Vc.encI 1 w vn ns)(hnl:ns.length<=100000)(hnd:∀k,Hq bw v k->ns≠[]->(base vn).1≠k) :
  Calls Tryz.prog 79 [ED bw 0,vn].toArray w (Fh (Hq bw v) w (λu w'=>u=.tuple #[]/\∃v',Wr B bw v' (l++ns.flatMap FX) w'/\GO w v v')):=by
 refine cw Tryz.func79 ?_;have J:=Vc.Mod.refl (Hq bw v) w;obtain⟨hm,ho⟩:=h;have hc:=ho.ne_blk hm rfl;have z:GO w v v:=.inl rfl;have hr:ns≠[]->(base vn).1<w.heap.size:=λe=>hn.base_lt EK e;refine ws λ_ Z1=>ws λ_ Z2=>wr (dm ?_);refine dp (Gj E9 rfl rfl) (de Z2 (wi (λc1=>?_) λc1=>?_))
 ·exact absurd c1 EQ
 refine EG (Z1 _ _ (ws λ_ Z3=>wr (dm ?_)));refine dv 3 1 hn.sl (dm (de Z3 (EN ?_)));refine Fk (G:=Nat×Value×EC) (λ(k,vc,lc)=>[(0,ED bw 0),(9,vn),(10,I ↑ns.length),(11,I ↑k)]) (λ(k,vc,lc) w'=>Mod (Hq bw v) w w'/\EM Vc.encI 1 w' vn ns/\k<=ns.length/\EL w' bw [vc] 142/\Vc.Own EP 1 5 B w' vc lc/\lc=l++(ns.take k).flatMap FX/\GO w v vc) (λ(k,vc,lc)=>ns.length-k) (0,v,l) ?_ ?_ ?_
 ·exact FU
 ·exact⟨J,hn,Ad _,hm,ho,by simp,.inl rfl⟩
 intro X1 g1 w1 h6;obtain⟨k,vc,lc⟩:=g1;clear J hn;obtain⟨J,hn,hk1,hm,ho,Z,z⟩:=h6;refine ws λ_ Z4=>wr (dp (Fa rfl rfl) (de Z4 (ws λ_ Z5=>wi (λc2=>?_) λc2=>?_)))
 ·obtain⟨x,hk⟩:∃x,ns[k]?=some x:=Fq;refine EG (Z5 _ _ (ws λ_ Z6=>EN (ws λ_ Z7=>wr (di 3 1 hn.sl rfl (hn.lt hk) (dl rfl ((hn.row hk).at0 rfl) (da (de Z7 (ws λ_ Z8=>wr (dm ?_)))))))));refine dp (V3 rfl rfl) (dp (Q4 rfl rfl) (dp (X8o rfl E9 E9) (da (de Z8 (ws λ_ Z9=>EN ?_)))));refine Fk (G:=Nat×Nat×Value×EC×EC) (λ(j,u,vd,ld,dn)=>[(0,ED bw 0),(6,.int .u64 ↑u),(9,vn),(10,I ↑ns.length),(11,I ↑k)]) (λ(j,u,vd,ld,dn) w'=>Mod (Hq bw v) w w'/\EM Vc.encI 1 w' vn ns/\1<=j/\u<128 ^ j/\EL w' bw [vd] 142/\Vc.Own EP 1 5 B w' vd ld/\ld=lc++dn/\dn++GK j u=FX x/\GO w v vd) (λ(j,u,vd,ld,dn)=>j) (10,Ha x,vc,lc,[]) ?_ ?_ ?_
  ·exact FA
  ·exact⟨J,hn,by omega,by have:=WY x;omega,hm,ho,by simp,rfl,z⟩
  intro X2 g2 w2 hw;obtain⟨j,u,vd,ld,dn⟩:=g2;clear J hn hm ho;obtain⟨J,hn,hj,h5,hm,ho,hf,hb,z⟩:=hw;refine ws λ_ hy=>ws λ_ hz=>wr (dm ?_);refine dp (IB rfl rfl) (de hz (wi (λc3=>?_) λc3=>?_))
  ·have hc:=ho.ne_blk hm rfl;have hq:ld.length<=2001000020:=by
    have h1:=Fs ns k;have h2:=Gd (Ha x);have h3:=congrArg A7 hb;rw[hf,Z];unfold FX at *;simp only [Ab]at *;omega
   refine EG (hy _ _ (ws λ_ ht=>EN (wr (dm (dm ?_)))));refine dz rfl (df 0 rfl (dl rfl (hm.at rfl) (dm ?_)));refine dp (QN rfl E9 E9) (dp (UN (b:=128) rfl rfl) (li (e:=5) (sz:=1) (zs:=[.int .u8 0]) (pv:=[(0,_)]) (cs:=[_]) RX.all (λb1 w3 e1 x3 m1=>?_)));have g1:=J.ge e1;have a1_hn:=EM.base_lt hn EK;have a1_hm:=hm.lt;have o1_ho:=ho.ltb e1;have hn:=hn.ext x3;have hm:=hm.ext x3;have ho:=ho.ext x3;have J:=J.ext x3;refine KG (lx:=[AN u ||| 128]) (e:=5) (sz:=1) (by':=1) rfl E9 E9 EE ho (m1.arr (enc:=EP) (sz:=1) (l:=[AN u ||| 128]) rfl EE rfl (Ap rfl)) rfl rfl (by intro x _ u hu;simp at hu;rcases hu with rfl<;>rfl) (by simp;omega) EK (Ae hB J.size) (.inl rfl) (λv2 w4 Y x4 hp=>?_);have O:=R4 z hp J.size;have hn:=hn.mod x4 (by exact WK z hnd hr);have hm:=hm.mod x4 (by exact hc);have J:=J.own x4 (λi hi hg=>O5 z hi hg);have ho:=Y;have z:=O;clear O;clear m1;have ha:=ho.ne_blk hm rfl;refine dz rfl (df 0 rfl (G5 hm (λw5 x5 xs5 hm=>?_) (hv:=by exact FW.one ho.sl)));dsimp only [Fe,Ag,Af,Ai]at hm;have hn:=hn.mod x5 (λh e=>hnd bw (.inl rfl) h e);have ho:=ho.mod x5 (by intro k hk e;have h2:k=bw:=e;exact ha (h2▸hk));have J:=J.own x5 (λi hi _=>Or.inl hi);refine de ht (wr (dm ?_));refine dp (X4v rfl rfl) (da (EF (?_)));obtain⟨h2,h3,h4⟩:=Xur hj h5 EA hb;refine⟨(j-1,u / 128,v2,ld++[AN u ||| 128],dn++[AN u ||| 128]),FA,⟨J,hn,by omega,h3,hm,ho,by rw[hf,AA],h4,z⟩,by simp only [];omega⟩
  have hc:=ho.ne_blk hm rfl;have hq:ld.length<=2001000020:=by
   have h1:=Fs ns k;have h2:=Gd (Ha x);have h3:=congrArg A7 hb;rw[hf,Z];unfold FX at *;simp only [Ab]at *;omega
  refine Ff (Z9 _ _ (wr (dm (dm ?_))));refine dz rfl (df 0 rfl (dl rfl (hm.at rfl) (dm ?_)));refine dp (QN rfl E9 E9) (li (e:=5) (sz:=1) (zs:=[.int .u8 0]) (pv:=[(0,_)]) (cs:=[_]) RX.all (λb2 w6 e2 x6 m2=>?_));have g2:=J.ge e2;have a2_hn:=EM.base_lt hn EK;have a2_hm:=hm.lt;have o2_ho:=ho.ltb e2;have hn:=hn.ext x6;have hm:=hm.ext x6;have ho:=ho.ext x6;have J:=J.ext x6;refine KG (lx:=[AN u]) (e:=5) (sz:=1) (by':=1) rfl E9 E9 EE ho (m2.arr (enc:=EP) (sz:=1) (l:=[AN u]) rfl EE rfl (Ap rfl)) rfl rfl (by intro x _ u hu;simp at hu;rcases hu with rfl<;>rfl) (by simp;omega) EK (Ae hB J.size) (.inl rfl) (λv2 w7 Y x7 hh=>?_);have O:=R4 z hh J.size;have hn:=hn.mod x7 (by exact WK z hnd hr);have hm:=hm.mod x7 (by exact hc);have J:=J.own x7 (λi hi hg=>O5 z hi hg);have ho:=Y;have z:=O;clear O;clear m2;have ha:=ho.ne_blk hm rfl;refine dz rfl (df 0 rfl (G5 hm (λw8 x8 xs8 hm=>?_) (hv:=by exact FW.one ho.sl)));dsimp only [Fe,Ag,Af,Ai]at hm;have hn:=hn.mod x8 (λh e=>hnd bw (.inl rfl) h e);have ho:=ho.mod x8 (by intro k hk e;have h2:k=bw:=e;exact ha (h2▸hk));have J:=J.own x8 (λi hi _=>Or.inl hi);refine de Z6 (wr (pa rfl rfl (dm (EF (?_)))));refine⟨(k+1,v2,ld++[AN u]),FU,⟨J,hn,by omega,hm,ho,?_,z⟩,by simp only [];omega⟩;rw[hf,Z,Xuq FX hk,<-Xus hj EA hb];simp only [AA]
 refine Ff (HI (Hi rfl ?_));rw[Ax EA]at Z;subst Z;exact⟨_,rfl,J,rfl,vc,⟨hm,ho⟩,z⟩
theorem Lp (p:EC)(vp:Value)(w:World)(hp:EM EP 1 w vp p)(hpl:p.length<=2001000020) :
  Calls Tryz.prog 87 [vp].toArray w (ER w (λu w'=>Vc.Own EP 1 5 w.heap.size w' u p)):=by
 refine cw Tryz.func87 ?_;have z:=EB.refl w;refine ws λ_ Z1=>wr (da (de Z1 (ws λ_ Z2=>ws λ_ Z3=>wr (dm ?_))));refine dp (PA (e:=5) (k:=1) E9 hp.sl rfl rfl) (de Z3 (wc (λO=>?_) λO=>?_))
 ·refine ws λ_ Z4=>wr (da (de Z4 (EH ?_)));refine ro ?_;refine⟨_,rfl,z,?_⟩;have e:p.length=0:=by
   rcases hp.sl with⟨_,e⟩|⟨b,o,c,e,_⟩|⟨e,_⟩
   ·exact e
   ·rw[e]at O;simp [NT]at O
   ·exact e
  rw[A5 e];exact Vc.Own.nil
 refine EG (Z2 _ _ (ws λ_ Z5=>wr (Me (e:=5) (sz:=1) rfl E9 RX.all (λb1 w1 e1 Y Z=>?_))));have g1:=z.ge e1;have z:=z.trans Y;refine dm ?_;have ho:=Z.own (enc:=EP) (B:=w.heap.size) (l:=[]) (sz:=1) (m:=0) g1 rfl EE rfl EQ;refine Gv (lx:=p) (e:=5) (sz:=1) (by':=1) rfl E9 E9 EE ho ((hp.ext z)) rfl rfl (by intro x _ u hu;simp at hu;rcases hu with rfl<;>rfl) (by simp;omega) EK z.size (.inl rfl) (λvm w2 J x2=>?_);have z:=z.own x2 (λi hi=>(ho.lt i hi).1);have ho:=J;refine da (de Z5 (EH ?_));refine ro ?_;exact⟨_,rfl,z,ho⟩
theorem MK (B bw:Nat)(v:Value)(l:EC)(w:World)(h:Wr B bw v l w)(hl:l.length<=2001000020) :
  Calls Tryz.prog 81 [ED bw 0].toArray w (ER w (λu w'=>Vc.Own EP 1 5 w.heap.size w' u l)):=by
 refine cw Tryz.func81 ?_;have z:=EB.refl w;obtain⟨hm,ho⟩:=h;refine ws λ_ Z1=>wr (da (de Z1 (ws λ_ O=>ws λ_ Z3=>wr (dm ?_))));refine dp (Gj E9 rfl rfl) (de Z3 (wi (λJ=>?_) λJ=>?_))
 ·exact absurd J EQ
 refine EG (O _ _ (ws λ_ Y=>wr (dm ?_)));refine dz rfl (df 0 rfl (dl rfl ((hm.ext z).at rfl) (cG (Lp l v _ ((ho.ext z).arr EE) hl) RX.all λvo w1 x1 Z=>?_)));have hsz1:=z.size;have z:=z.trans x1;refine da (de Y (EH ?_));refine ro ?_;exact⟨_,rfl,z,Z⟩
end Go.Proofs.YtiooodckiddpmaaGreatDoor
namespace Go.Vc
open Go.RowKit
@[reducible] def GM (c:UInt32):Value:=.int .u32 c.toNat
theorem KY (n:Int):IntKind.u32.wrap n=n % 4294967296:=by simp [IntKind.wrap,IntKind.bits,IntKind.signed]
theorem LY (a:UInt32):AM 32 (a.toNat:Int)=a.toBitVec:=by
 apply BitVec.eq_of_toNat_eq
 rw[BitVec.toNat_ofInt];have:=a.toNat_lt;show((a.toNat:Int) % ((2 ^ 32:Nat):Int)).toNat=a.toNat;omega
section
variable {P:Program}{E:Fg}{d:Option Tmp}{ty:TypeId}{pos:String}{af:Array Edge}{g:Option (Nat×Bool)}{w:World}{T U:TypeId}{x y:Operand}
theorem UK {a b:UInt32}(hx:ev E x=GM a)(hy:ev E y=GM b):PV P ⟨d,.binOp .and T x y U,ty,pos,af,g⟩ E (GM (a &&& b)):=by
 have:=Lz (P:=P) (dd:=d) (ty:=ty) (pos:=pos) (af:=af) (g:=g) (T:=T) (U:=U) (op:=.and) (.inl rfl) hx hy;rwa [show Kw .and .u32 (a.toNat:Int) b.toNat=((a &&& b).toNat:Int) by
  show IntKind.u32.wrap ((AM 32 (a.toNat:Int) &&& AM 32 (b.toNat:Int)).toNat:Int)=_;rw[LY,LY,KY];have:=(a &&& b).toNat_lt;show(((a &&& b).toNat:Int)) % 4294967296=_;omega]at this
theorem Py {a b:UInt32}(hx:ev E x=GM a)(hy:ev E y=GM b):PV P ⟨d,.binOp .or T x y U,ty,pos,af,g⟩ E (GM (a ||| b)):=by
 have:=Lz (P:=P) (dd:=d) (ty:=ty) (pos:=pos) (af:=af) (g:=g) (T:=T) (U:=U) (op:=.or) (.inr (.inl rfl)) hx hy;rwa [show Kw .or .u32 (a.toNat:Int) b.toNat=((a ||| b).toNat:Int) by
  show IntKind.u32.wrap ((AM 32 (a.toNat:Int) ||| AM 32 (b.toNat:Int)).toNat:Int)=_;rw[LY,LY,KY];have:=(a ||| b).toNat_lt;show(((a ||| b).toNat:Int)) % 4294967296=_;omega]at this
theorem RE {a b:UInt32}(hx:ev E x=GM a)(hy:ev E y=GM b):PV P ⟨d,.binOp .xor T x y U,ty,pos,af,g⟩ E (GM (a ^^^ b)):=by
 have:=Lz (P:=P) (dd:=d) (ty:=ty) (pos:=pos) (af:=af) (g:=g) (T:=T) (U:=U) (op:=.xor) (.inr (.inr (.inl rfl))) hx hy;rwa [show Kw .xor .u32 (a.toNat:Int) b.toNat=((a ^^^ b).toNat:Int) by
  show IntKind.u32.wrap ((AM 32 (a.toNat:Int) ^^^ AM 32 (b.toNat:Int)).toNat:Int)=_;rw[LY,LY,KY];have:=(a ^^^ b).toNat_lt;show(((a ^^^ b).toNat:Int)) % 4294967296=_;omega]at this
theorem NA {a b:UInt32}{k:IntKind}(hb:b.toNat<32)(hx:ev E x=GM a)(hy:ev E y=.int k b.toNat):PV P ⟨d,.binOp .shr T x y U,ty,pos,af,g⟩ E (GM (a >>> b)):=by
 have:=MT (P:=P) (dd:=d) (ty:=ty) (pos:=pos) (af:=af) (g:=g) (T:=T) (U:=U) hx hy EA;rwa [show((a.toNat:Int)).fdiv (2 ^ min ((b.toNat:Int)).toNat IntKind.u32.bits)=((a >>> b).toNat:Int) by
  rw[BM,show min b.toNat IntKind.u32.bits=b.toNat by show min b.toNat 32=_;omega,DW,B8 hb,DX,CH _ (Int.le_of_lt (Int.pow_pos EK))];simp]at this
theorem OJ {a b:UInt32}{k:IntKind}(hb:b.toNat<32)(hx:ev E x=GM a)(hy:ev E y=.int k b.toNat):PV P ⟨d,.binOp .shl T x y U,ty,pos,af,g⟩ E (GM (a <<< b)):=by
 have:=NH (P:=P) (dd:=d) (ty:=ty) (pos:=pos) (af:=af) (g:=g) (T:=T) (U:=U) hx hy EA;rwa [show IntKind.u32.wrap ((a.toNat:Int)*2 ^ min ((b.toNat:Int)).toNat IntKind.u32.bits)=((a <<< b).toNat:Int) by
  rw[BM,show min b.toNat IntKind.u32.bits=b.toNat by show min b.toNat 32=_;omega,CV,B8 hb,CW,KY];simp]at this
theorem Na {c:UInt8}(hx:ev E x=b8 c)(hT:(P.underlying T).isSome=true)(hU:H3 P U=some .u32):PV P ⟨d,.convert T U x,ty,pos,af,g⟩ E (GM c.toUInt32):=by
 have:=JB (P:=P) (d:=d) (ty:=ty) (pos:=pos) (af:=af) (g:=g) hx hT hU;rwa [show IntKind.u32.wrap (c.toNat:Int)=(c.toUInt32.toNat:Int) by rw[KY];have:=c.toNat_lt;simp;omega]at this
theorem PG {c:UInt32}(hx:ev E x=GM c)(hT:(P.underlying T).isSome=true)(hU:H3 P U=some .u8):PV P ⟨d,.convert T U x,ty,pos,af,g⟩ E (b8 c.toUInt8):=by
 have:=JB (P:=P) (d:=d) (ty:=ty) (pos:=pos) (af:=af) (g:=g) hx hT hU;rwa [show IntKind.u8.wrap (c.toNat:Int)=(c.toUInt8.toNat:Int) by rw[N6];simp]at this
theorem X4w {c:UInt32}(hx:ev E x=GM c):PV P ⟨d,.unOp .neg T x,ty,pos,af,g⟩ E (GM (0-c)):=λw=>by
 have e:IntKind.u32.wrap (-(c.toNat:Int))=((-c).toNat:Int):=by rw[KY,UInt32.toNat_neg];have:=c.toNat_lt;simp [UInt32.size];omega
 simp [execOp,hx,Op.unary,Op.intArith,e]
theorem X4x {c:UInt32}(hx:ev E x=GM c):PV P ⟨d,.unOp .xor T x,ty,pos,af,g⟩ E (GM (~~~c)):=λw=>by
 have e:Kw .xor .u32 4294967295 (c.toNat:Int)=((~~~c).toNat:Int):=by
  show IntKind.u32.wrap ((AM 32 ((4294967295:UInt32).toNat:Int) ^^^ AM 32 (c.toNat:Int)).toNat:Int)=_;rw[LY,LY,KY];have h:(4294967295:UInt32) ^^^ c = ~~~c:=by
   apply UInt32.toBitVec_inj.1
   simp;exact BitVec.allOnes_xor
  have:=((4294967295:UInt32) ^^^ c).toNat_lt;show((((4294967295:UInt32) ^^^ c).toNat:Int)) % 4294967296=_;rw[<-h];omega
 have e2:(if IntKind.u32.signed=true then(-1:Int)else IntKind.u32.max)=4294967295:=by decide
 simp [execOp,hx,Op.unary,Op.intBits,e2];simpa [Kw]using e
end
end Go.Vc
namespace Go.Proofs.YtiooodckiddpmaaGreatDoor
open Go.Vc Go.Sp
attribute [local irreducible] W XW Dw Gm
theorem Xuu {j:Nat}{z X:UInt32}(hj:j<8)(h:KB (8-j) z=X):KB (8-(j+1)) (MB z)=X:=by
 obtain⟨m,e⟩:∃m,8-j=m+1:=⟨7-j,by omega⟩;rw[e]at h;rw[show 8-(j+1)=m by omega];exact h
theorem Xuv {p:EC}{i:Nat}{c:UInt8}{v:UInt32}(h:p[i]?=some c):(p.take (i+1)).foldl J3 v=J3 ((p.take i).foldl J3 v) c:=by
 rw[B4,h,List.foldl_append];rfl
theorem QR (p:EC)(vp vr:Value)(w:World)(hr:EM (λx:Value=>[x]) 1 w vr [vp])(hp:EM EP 1 w vp p)(hpl:p.length<=2001000020) :
  Calls Tryz.prog 159 [vr].toArray w (Pure w (GM (H1 p))):=by
 refine cw Tryz.func159 ?_;have J:=EB.refl w;refine ws λ_ Z1=>wr (da (de Z1 (ws λ_ Z2=>wr (da (de Z2 (ws λ_ Z3=>ws λ_ Z4=>wr (dm ?_)))))));refine dv 82 1 hr.sl (dm (de Z4 (EN ?_)));refine Fk (G:=Nat×UInt32) (λ(k,v)=>[(2,.int .u32 0),(3,GM v),(8,vr),(9,I 1),(10,I ↑k)]) (λ(k,v) w'=>EB w w'/\k<=1/\v=if k=0 then ~~~0 else p.foldl J3 (~~~0)) (λ(k,v)=>1-k) (0,~~~0) ?_ ?_ ?_
 ·exact FA
 ·exact⟨J,Ad _,rfl⟩
 intro X1 g1 w1 hw;obtain⟨k,v⟩:=g1;clear J;obtain⟨J,hk1,hv⟩:=hw;refine ws λ_ Z5=>wr (dp (Fa rfl rfl) (de Z5 (ws λ_ Z6=>wi (λc1=>?_) λc1=>?_)))
 ·have O:[vp][k]?=some vp:=by
   have e:k=0:=by omega
   subst e;rfl
  refine EG (Z6 _ _ (ws λ_ Z7=>EN (ws λ_ Z8=>wr (di 82 1 hr.sl rfl (hr.lt O) (dl rfl (((hr.ext J).row O).at0 rfl) (da (de Z8 (ws λ_ Z9=>wr (dm ?_)))))))));refine dv 5 1 hp.sl (dm (de Z9 (EN ?_)));refine Fk (G:=Nat×UInt32) (λ(i,u)=>[(2,.int .u32 0),(3,GM u),(8,vr),(9,I 1),(10,I ↑k),(14,vp),(15,I ↑p.length),(16,I ↑i)]) (λ(i,u) w'=>EB w w'/\i<=p.length/\u=(p.take i).foldl J3 (~~~0)) (λ(i,u)=>p.length-i) (0,v) ?_ ?_ ?_
  ·exact KJ
  ·exact⟨J,Ad _,by rw[if_pos (show k=0 by omega)]at hv;exact hv⟩
  intro X2 g2 w2 hc;obtain⟨i,u⟩:=g2;clear J;obtain⟨J,hi1,hu⟩:=hc;refine ws λ_ ht=>wr (dp (Fa rfl rfl) (de ht (ws λ_ hf=>wi (λc2=>?_) λc2=>?_)))
  ·obtain⟨c,hk⟩:∃c,p[i]?=some c:=Fq;refine EG (hf _ _ (ws λ_ Z=>EN (ws λ_ hj=>wr (di 5 1 hp.sl rfl (hp.lt hk) (dl rfl (((hp.ext J).row hk).at0 rfl) (da (de hj (ws λ_ ha=>wr (dm (dm ?_))))))))));refine dp (Na rfl E9 E9) (dp (RE rfl rfl) (da (de ha (ws λ_ hl=>wr (dm (de hl (EN ?_)))))));refine Fk (G:=Nat×UInt32) (λ(j,z)=>[(2,.int .u32 0),(3,GM z),(8,vr),(9,I 1),(10,I ↑k),(14,vp),(15,I ↑p.length),(16,I ↑i),(24,I ↑j)]) (λ(j,z) w'=>EB w w'/\j<=8/\KB (8-j) z=J3 u c) (λ(j,z)=>8-j) (0,u ^^^ c.toUInt32) ?_ ?_ ?_
   ·exact Je
   ·exact⟨J,Ad _,rfl⟩
   intro X3 g3 w3 hb;obtain⟨j,z⟩:=g3;clear J;obtain⟨J,hj1,hz⟩:=hb;refine ws λ_ hq=>wr (dp (Fa rfl rfl) (de hq (ws λ_ Y=>wi (λc3=>?_) λc3=>?_)))
   ·refine EG (Y _ _ (ws λ_ hh=>EN (wr (dm ?_))));refine dp (NA (b:=1) EK rfl rfl) (dm ?_);refine dp (UK (b:=1) rfl rfl) (dp (X4w rfl) (dp (UK (a:=0xedb88320) rfl rfl) (dp (RE rfl rfl) (da (de hh (wr ?_))))));refine pa rfl rfl (dm (EF (?_)));refine⟨(j+1,MB z),Je,⟨J,by omega,Xuu EA hz⟩,by simp only [];omega⟩
   refine Ff (Z _ _ (wr (pa rfl rfl (dm (EF (?_))))));rw[show 8-j=0 by omega]at hz;refine⟨(i+1,z),KJ,⟨J,by omega,by rw[Xuv hk,<-hu];exact hz⟩,by simp only [];omega⟩
  refine Ff (Z7 _ _ (wr (pa rfl rfl (dm (EF (?_))))));rw[Ax EA]at hu;refine⟨(k+1,u),FA,⟨J,by omega,by rw[if_neg EA];exact hu⟩,by simp only [];omega⟩
 refine Ff (Z3 _ _ (ws λ_ hg=>wr (dm ?_)));refine dp (X4x rfl) (da (de hg (EH ?_)));refine ro ?_;refine⟨?_,J⟩;rw[show k=1 by omega,if_neg EK]at hv;rw[hv];rfl
theorem Pb (v:UInt32)(w:World) :
  Calls Tryz.prog 158 [GM v].toArray w (ER w (λu w'=>∃b,u=.slice (some ⟨b,0,none⟩) 4 4/\w.heap.size<=b/\EM EP 1 w' u (HR v))):=by
 refine cw Tryz.func158 ?_;have z:=EB.refl w;refine ws λ_ Z=>wr (da (de Z (ws λ_ J=>wr (dm ?_))));refine dp (PG rfl E9 E9) (dm ?_);refine dp (NA (b:=8) EK rfl rfl) (dp (PG rfl E9 E9) (dm ?_));refine dp (NA (b:=16) EK rfl rfl) (dp (PG rfl E9 E9) (dm ?_));refine dp (NA (b:=24) EK rfl rfl) (dp (PG rfl E9 E9) (li (e:=5) (sz:=1) (zs:=[.int .u8 0]) (pv:=[(0,_),(1,_),(2,_),(3,_)]) (cs:=[_,_,_,_]) RX.all (λb1 w1 e1 O Y=>?_)));have g1:=z.ge e1;have z:=z.trans O;refine da (de J (EH ?_));refine ro ?_;exact⟨_,rfl,z,b1,rfl,g1,Y.arr (enc:=EP) (sz:=1) (l:=HR v) rfl EE rfl (by rw[RF];decide)⟩
theorem Pd {w:World}{v v':Value}{bw i:Nat}(h:GO w v v')(hi:Hq bw v' i)(hlt:i<w.heap.size):Hq bw v i:=hi.elim .inl (λe=>O5 h e hlt)
theorem Wo {w w1:World}{v v1 v2:Value}(h:GO w v v1)(h2:GO w1 v1 v2)(hs:w.heap.size<=w1.heap.size):GO w v v2:=by
 rcases h2 with e|e
 ·rcases h with e1|e1
  ·exact .inl (e.trans e1)
  ·exact .inr (λk hk=>e1 k (e▸hk))
 ·exact .inr (λk hk=>Ae hs (e k hk))
theorem PH {n:Nat}(h:n<=4611686018427387904):FX (n:Int)=EV n:=by
 unfold FX;congr 1;unfold Ha;omega
theorem Xzf {qs:List (Value×EC)}{k:Nat}(h:∀q∈qs,q.2.length<=1000000):(((qs.take k).map (·.2)).flatMap Fp).length<=1000010*k:=by
 induction qs generalizing k with
 | nil=>simp
 | cons a r ih=>
  cases k with
  | zero=>simp
  | succ k=>
   have h1:=ih (k:=k) (λq z=>h q (Am _ z));have h2:=h a Al;have h3:=Gd a.2.length;rw[Cr,Aq,AD,Ab];unfold Fp at *;rw[Ab];omega
theorem KO (B bw:Nat)(v:Value)(l:EC)(qs:List (Value×EC))(vr:Value)(w:World)(h:Wr B bw v l w)(hl:l.length<=800000000)(hB:B<=w.heap.size)(hr:EM (λq:Value×EC=>[q.1]) 1 w vr qs)(hq:∀q∈qs,EM EP 1 w q.1 q.2)(hq2:∀q∈qs,q.2.length<=1000000)(hql:qs.length<=100)(hdr:qs≠[]->¬ Hq bw v (base vr).1)(hdq:∀q∈qs,q.2≠[]->¬ Hq bw v (base q.1).1) :
  Calls Tryz.prog 80 [ED bw 0,vr].toArray w (Fh (Hq bw v) w (λu w'=>u=.tuple #[]/\∃v',Wr B bw v' (l++(qs.map (·.2)).flatMap Fp) w'/\GO w v v')):=by
 refine cw Tryz.func80 ?_;have z:=Vc.Mod.refl (Hq bw v) w;obtain⟨hm,ho⟩:=h;refine ws λ_ Z1=>wr (dm ?_);refine dv 82 1 hr.sl (dm (de Z1 (EN ?_)));refine Fk (G:=Nat×Value×EC) (λ(k,Y,lc)=>[(0,ED bw 0),(6,vr),(7,I ↑qs.length),(8,I ↑k)]) (λ(k,Y,lc) w'=>Mod (Hq bw v) w w'/\k<=qs.length/\EL w' bw [Y] 142/\Vc.Own EP 1 5 B w' Y lc/\lc=l++((qs.take k).map (·.2)).flatMap Fp/\GO w v Y) (λ(k,Y,lc)=>qs.length-k) (0,v,l) ?_ ?_ ?_
 ·exact FU
 ·exact⟨z,Ad _,hm,ho,by simp,.inl rfl⟩
 intro X1 g1 w1 hp;obtain⟨k,Y,lc⟩:=g1;clear z;obtain⟨z,hk1,hm,ho,O,J⟩:=hp;refine ws λ_ Z2=>wr (dp (Fa rfl rfl) (de Z2 (ws λ_ Z3=>wi (λc1=>?_) λc1=>?_)))
 ·obtain⟨q,hk⟩:∃q,qs[k]?=some q:=Fq;have hlcl:lc.length<=900001000:=by
   rw[O];simp only [Ab];have h1:=Xzf (k:=k) hq2;omega
  have hnl2:(FX ↑q.2.length).length<=10:=Gd _;refine EG (Z3 _ _ (ws λ_ Z4=>EN (ws λ_ Z5=>wr (di 82 1 hr.sl rfl (hr.lt hk) (dl rfl (((hr.mod z hdr).row hk).at0 rfl) (da (de Z5 (ws λ_ Z6=>wr (dm (dm ?_))))))))));refine dv 5 1 ((hq q (Ak hk)).mod z (hdq q (Ak hk))).sl (li (e:=3) (sz:=1) (zs:=[.int .i64 0]) (pv:=[(0,_)]) (cs:=[_]) RX.all (λb1 w2 e1 x2 m1=>?_));have g1:=z.ge e1;have a1_hm:=hm.lt;have Z:=ho.ltb e1;have hm:=hm.ext x2;have ho:=ho.ext x2;have z:=z.ext x2;refine cD (JQ B bw Y lc [↑q.2.length] (.slice (some ⟨b1,0,none⟩) 1 1) _ ⟨hm,ho⟩ EA (Ae hB z.size) (m1.arr (enc:=Vc.encI) (sz:=1) (l:=[↑q.2.length]) rfl EE rfl EQ) EQ (λk hk _ e=>by have e2:b1=k:=e;exact hk.elim (λh=>by omega) (λh=>by have:=Z _ h;omega))) (.inl rfl) λu3 w3 x3 hj=>?_;have hb:=z.size;have z:=z.own x3 (λi hi ha=>Pd J hi ha);obtain⟨rfl,v2,⟨hm,ho⟩,hg⟩:=hj;have J:=Wo J hg hb;refine de Z6 (wr (dm (dm ?_)));refine cD (X8p B bw v2 _ q.2 q.1 _ ⟨hm,ho⟩ (by simp;omega) (Ae hB z.size) ((hq q (Ak hk)).mod z (hdq q (Ak hk))) (by have:=hq2 q (Ak hk);omega)) (.inl rfl) λu4 w4 x4 hh=>?_;have hc:=z.size;have z:=z.own x4 (λi hi ha=>Pd J hi ha);obtain⟨rfl,v3,⟨hm,ho⟩,hf⟩:=hh;have J:=Wo J hf hc;refine de Z4 (wr (pa rfl rfl (dm (EF (?_)))));refine⟨(k+1,v3,_),FU,⟨z,by omega,hm,ho,?_,J⟩,by simp only [];omega⟩;rw[O,B4,hk];have hq3:=hq2 q (Ak hk);simp [Fp,PH (n:=q.2.length) EA]
 refine Ff (HI (Hi rfl ?_));rw[Ax EA]at O;subst O;exact⟨_,rfl,z,rfl,Y,⟨hm,ho⟩,J⟩
structure Rd (br bb:Nat)(v:Value)(l:EC)(bad:Bool)(w:World):Prop where
 m:EL w br [v,B bad] 273
 a:EM EP 1 w v l
 n:l≠[]->(base v).1=bb/\bb≠br
theorem Rd.ext {br bb:Nat}{v:Value}{l:EC}{bad:Bool}{w w':World}(h:Rd br bb v l bad w)(x:EB w w'):Rd br bb v l bad w':=⟨h.m.ext x,h.a.ext x,h.n⟩
@[reducible] def LW (br bb:Nat) (l:EC):Nat->Prop:=λk=>k=br\/(l≠[]/\k=bb)
theorem Rd.mod {br bb:Nat}{v:Value}{l:EC}{bad:Bool}{S:Nat->Prop}{w w':World}(h:Rd br bb v l bad w)(x:Vc.Mod S w w')(hS:∀k,LW br bb l k->¬ S k):Rd br bb v l bad w':=
 ⟨h.m.mod x (hS _ (.inl rfl)),h.a.mod x (λz=>by rw[(h.n z).1];exact hS _ (.inr ⟨z,rfl⟩)),h.n⟩
theorem Rd.lt {br bb:Nat}{v:Value}{l:EC}{bad:Bool}{w:World}(h:Rd br bb v l bad w):∀k,LW br bb l k->k<w.heap.size:=by
 rintro k (rfl|⟨hl,rfl⟩)
 ·exact h.m.lt
 ·rw[<-(h.n hl).1];exact h.a.base_lt EK hl
theorem HY {α:Type}{l:List α}{k:Nat}{c:α}(h:l[k]?=some c):l.drop k=c :: l.drop (k+1):=by
 obtain⟨hk,rfl⟩:=Ao.1 h;exact List.drop_eq_getElem_cons hk
theorem Gs {α:Type}{l:List α}{k:Nat}{c:α}(h:l[k]?=some c):l.take (k+1)=l.take k++[c]:=by
 obtain⟨hk,rfl⟩:=Ao.1 h;exact List.take_succ_eq_append_getElem hk
def FH (l:EC)(bad:Bool):Nat×EC×Bool:=match Gr 0 0 l with
 | some (n,r)=>(n,r,bad)
 | none=>(0,[],true)
def IE (n:Int)(l:EC)(bad:Bool):EC×EC×Bool:=if n<0\/(l.length:Int)<n then([],[],true)else(l.take n.toNat,l.drop n.toNat,bad)
def ND (l:EC)(bad:Bool):EC×EC×Bool:=IE (FH l bad).1 (FH l bad).2.1 (FH l bad).2.2
theorem JK {n:Nat}(r:EC)(bad:Bool)(h:n<=4611686018427387904):FH (EV n++r) bad=(n,r,bad):=by unfold FH;rw[Xuo r h]
theorem K8 (p r:EC)(bad:Bool)(h:p.length<=4611686018427387904):ND (Fp p++r) bad=(p,r,bad):=by
 unfold ND Fp;rw[AA,JK _ _ h];unfold IE;rw[if_neg (by simp;omega)];simp
theorem Xzg {i u:Nat}{l r:EC}{n:Nat} : Gr i u l=some (n,r)->r.length<=l.length:=by
 induction l generalizing i u with
 | nil=>intro h;simp [Gr]at h
 | cons c l ih=>
  intro h;unfold Gr at h;split at h
  ·cases h
  ·split at h
   ·split at h
    ·cases h
    ·cases h;simp
   ·have:=ih h;simp;omega
theorem XB (l:EC)(bad:Bool):(FH l bad).2.1.length<=l.length:=by
 unfold FH;split
 ·rename_i h;exact Xzg h
 ·simp
theorem X4z {i u:Nat}{l r:EC}{n:Nat} : Gr i u l=some (n,r)->n<=4611686018427387904:=by
 induction l generalizing i u with
 | nil=>intro h;simp [Gr]at h
 | cons c l ih=>
  intro h;unfold Gr at h;split at h
  ·cases h
  ·split at h
   ·split at h
    ·cases h
    ·cases h;omega
   ·exact ih h
theorem MM (p:EC)(vp:Value)(w:World)(hp:EM EP 1 w vp p)(hpl:p.length<=2001000020) :
  Calls Tryz.prog 118 [vp].toArray w (ER w (λu w'=>∃br bb v,u=ED br 0/\w.heap.size<=br/\(p≠[]->w.heap.size<=bb)/\Rd br bb v p false w')):=by
 refine cw Tryz.func118 ?_;have z:=EB.refl w;refine ws λ_ Z1=>wr (da (de Z1 (ws λ_ Z2=>wr (dm ?_))));refine cG (Lp p vp _ (hp.ext z) hpl) RX.all λZ w1 x1 J=>?_;have hsz1:=z.size;have z:=z.trans x1;refine dp (Nk (zs:=[.slice none 0 0,B false]) (pl:=[(0,1),(1,1)]) (pv:=[(0,?a3_0)]) (cs:=[?a3_0,B false]) E9 E9 ?h3 ?f3) ?k3
 case h3=>refine⟨rfl,?_,trivial⟩<;>(conv=>lhs;whnf)
 case f3=>rcases J.sl with⟨e,_⟩|⟨_,_,_,e,_⟩|⟨_,_,_,e⟩<;>rw[e]<;>rfl
 refine Gc rfl rfl rfl RX.all (λb1 w2 e1 x2 Y=>?_);have g1:=z.ge e1;have o1_hf:=J.ltb e1;have J:=J.ext x2;have z:=z.trans x2;refine da (de Z2 (EH ?_));refine ro ?_;exact⟨_,rfl,z,b1,(base Z).1,Z,rfl,g1,λO=>(J.base_ge O).1,⟨Y,J.arr EE,λO=>⟨rfl,λe=>J.ne_blk Y rfl (e▸J.base_block O)⟩⟩⟩
theorem X8q (br bb:Nat)(v:Value)(l:EC)(bad:Bool)(w:World)(h:Rd br bb v l bad w) :
  Calls Tryz.prog 260 [ED br 0].toArray w (Pure w (I ↑l.length)):=by
 refine cw Tryz.func260 ?_;have z:=EB.refl w;obtain⟨hm,Z,hn⟩:=h;refine ws λ_ Z1=>wr (da (de Z1 (ws λ_ O=>ws λ_ Z3=>wr (dm ?_))));refine dp (Gj E9 rfl rfl) (de Z3 (wi (λJ=>?_) λJ=>?_))
 ·exact absurd J EQ
 refine EG (O _ _ (ws λ_ Y=>wr (dm ?_)));refine dz rfl (df 0 rfl (dl rfl ((hm.ext z).at rfl) (dv 5 1 (Z.ext z).sl (da (de Y (EH ?_))))));refine ro ?_;exact⟨rfl,z⟩
theorem P7 (br bb:Nat)(v:Value)(l:EC)(bad:Bool)(w:World)(h:Rd br bb v l bad w) :
  Calls Tryz.prog 120 [ED br 0].toArray w (Pure w (B (!bad))):=by
 refine cw Tryz.func120 ?_;have J:=EB.refl w;obtain⟨hm,ha,hn⟩:=h;refine ws λ_ Y=>wr (da (de Y (ws λ_ O=>wr (dm ?_))));refine dp (Ng E9 rfl rfl) (dm ?_);refine Fz 5 rfl (λz=>?_) (λz=>?_)
 ·refine dm ?_;refine dz rfl (df 1 rfl (dl rfl ((hm.ext J).at rfl) (dn ?_)));refine EO ?_;refine da (de O (EH ?_));refine ro ?_;exact⟨rfl,J⟩
 exact absurd EQ z
theorem My (br bb:Nat)(v:Value)(l:EC)(bad:Bool)(w:World)(h:Rd br bb v l bad w) :
  Calls Tryz.prog 258 [ED br 0].toArray w (Fh (ES br) w (λu w'=>u=.tuple #[]/\Rd br bb (.slice none 0 0) [] true w')):=by
 refine cw Tryz.func258 ?_;have z:=EB.refl w;obtain⟨hm,ha,hn⟩:=h;refine ws λ_ Z=>wr (dm ?_);refine dp (Ng E9 rfl rfl) (de Z (wi (λJ=>?_) λJ=>?_))
 ·refine wr (dm (dm ?_));refine dz rfl (df 0 rfl (G5 hm (λw1 O xs1 hm=>?_)));dsimp only [Fe,Ag,Af,Ai]at hm;have z:=(z.mod O).mono (λi hi _=>(hi:(ES br) i));refine dz rfl (df 1 rfl (G5 hm (λw2 Y xs2 hm=>?_)));dsimp only [Fe,Ag,Af,Ai]at hm;have z:=z.own Y (λi hi _=>hi);refine EF ((HI (Hi rfl ?_)));exact⟨_,rfl,z,rfl,⟨hm,EM.nil,λh=>absurd rfl h⟩⟩
 exact absurd EQ J
theorem PQ (br bb:Nat)(v:Value)(l:EC)(bad:Bool)(w:World)(h:Rd br bb v l bad w) :
  Calls Tryz.prog 188 [ED br 0].toArray w (Pure w (B (!bad && decide (l.length=0)))):=by
 refine cw Tryz.func188 ?_;have z:=EB.refl w;obtain⟨hm,O,hn⟩:=h;refine ws λ_ Z1=>wr (da (de Z1 (ws λ_ J=>wr (dm ?_))));refine cP (P7 br bb v l bad _ ⟨hm.ext z,O.ext z,hn⟩) RX.all λw1 Y=>?_;have z:=z.trans Y;refine dm ?_;refine I8 5 rfl (λZ=>?_) (λZ=>?_)
 ·refine dm ?_;refine dz rfl (df 0 rfl (dl rfl ((hm.ext z).at rfl) (dv 5 1 (O.ext z).sl (dp (G1 rfl rfl) (EO ?_)))));refine da (de J (EH ?_));refine ro ?_;refine⟨?_,z⟩
  cases bad<;>simp_all
 refine dk (dk (dk (dk (dk (dk (EO ?_))))));refine da (de J (EH ?_));refine ro ?_;refine⟨?_,z⟩
 cases bad<;>simp_all
section
variable {P:Program}{E:Fg}{dd:Option Tmp}{ty:TypeId}{pos:String}{af:Array Edge}{g:Option (Nat×Bool)}{x y:Operand}{T U:TypeId}
theorem TS {c:UInt8}(hx:ev E x=b8 (c &&& 127))(hT:(P.underlying T).isSome=true)(hU:H3 P U=some .u64):PV P ⟨dd,.convert T U x,ty,pos,af,g⟩ E (.int .u64 ((c.toNat % 128:Nat):Int)):=by
 have:=JB (P:=P) (d:=dd) (ty:=ty) (pos:=pos) (af:=af) (g:=g) hx hT hU;have e:(c &&& 127).toNat=c.toNat % 128:=by
  rw[UInt8.toNat_and];exact Nat.and_two_pow_sub_one_eq_mod c.toNat 7
 rw[e,NJ EA]at this;exact this
theorem NO {i:Nat}(hi:i<9):128*128 ^ i<=9223372036854775808:=by
 have:(128:Nat) ^ i<=128 ^ 8:=Nat.pow_le_pow_right EK EA;have e:(128:Nat) ^ 8=72057594037927936:=by decide
 omega
theorem Wq {m i:Nat}(hx:ev E x=.int .u64 (m:Nat))(hy:ev E y=I (7*(i:Int)))(hm:m<128)(hi:i<9):PV P ⟨dd,.binOp .shl T x y U,ty,pos,af,g⟩ E (.int .u64 ((m*128 ^ i:Nat):Int)):=by
 have:=NH (P:=P) (dd:=dd) (ty:=ty) (pos:=pos) (af:=af) (g:=g) (T:=T) (U:=U) hx hy EA;have e:(m:Int)*2 ^ min (7*(i:Int)).toNat IntKind.u64.bits=((m*128 ^ i:Nat):Int):=by
  have e1:min (7*(i:Int)).toNat IntKind.u64.bits=7*i:=by
   have:IntKind.u64.bits=64:=rfl;rw[this];omega
  rw[e1,Nat.pow_mul' 2 7 i |> λh=>(by rw[Int.natCast_mul,Int.natCast_pow,show((128:Nat):Int)=2 ^ 7 by decide,<-Int.pow_mul]:((m*128 ^ i:Nat):Int)=(m:Int)*2 ^ (7*i))]
 rw[e,NJ]at this
 ·exact this
 ·have h1:=NO hi;have:m*128 ^ i<128*128 ^ i:=DY hm (Nat.pow_pos EK);omega
theorem Xq {u m i:Nat}(hx:ev E x=.int .u64 (u:Nat))(hy:ev E y=.int .u64 ((m*128 ^ i:Nat):Int))(hu:u<128 ^ i)(hm:m<128)(hi:i<9):PV P ⟨dd,.binOp .or T x y U,ty,pos,af,g⟩ E (.int .u64 ((u+m*128 ^ i:Nat):Int)):=by
 have:=Lz (P:=P) (dd:=dd) (ty:=ty) (pos:=pos) (af:=af) (g:=g) (T:=T) (U:=U) (op:=.or) (.inr (.inl rfl)) hx hy;have h1:=NO hi;have h2:m*128 ^ i<128*128 ^ i:=DY hm (Nat.pow_pos EK);have h3:u ||| m*128 ^ i=u+m*128 ^ i:=by
  have e:(128:Nat) ^ i=2 ^ (7*i):=by rw[Nat.pow_mul]
  rw[e]at hu ⊢;rw[CX,Bx,<-CY hu,Nat.add_comm]
 have e:Kw .or .u64 (u:Int) ((m*128 ^ i:Nat):Int)=((u+m*128 ^ i:Nat):Int):=by
  show IntKind.u64.wrap (((AM 64 (u:Int) ||| AM 64 ((m*128 ^ i:Nat):Int)).toNat:Nat):Int)=_;rw[CZ,CZ,BitVec.toNat_or,Da,Da,B8 EA,B8 EA,h3,NJ EA]
 rw[e]at this;exact this
end
theorem Xzh (k:Nat)(v:Value)(a b:Nat):(base (Gz k v a b)).1=(base v).1:=by
 cases v with
 | slice p n c=>
  cases p with
  | none=>rfl
  | some a'=>
   unfold Gz;simp only [base];split
   ·rfl
   ·unfold Addr.add;split<;>rfl
 | _=>rfl
theorem R7 {k m:Nat}{v:Value}{a b:Nat}(h:FW v m):(Gz k v a b).oneCell'=true:=by
 rcases h with⟨rfl,_⟩|⟨_,_,_,rfl,_⟩|⟨_,_,_,rfl⟩<;>rfl
theorem Xux {l:EC}{bad:Bool}(h:Gr 0 0 l=none):FH l bad=(0,[],true):=by unfold FH;rw[h]
theorem Xuy {l r:EC}{n:Nat}{bad:Bool}(h:Gr 0 0 l=some (n,r)):FH l bad=(n,r,bad):=by unfold FH;rw[h]
theorem Xc {i u:Nat}{c:UInt8}{r:EC}(h:9<=i\/(0<i/\c=0)):Gr i u (c :: r)=none:=by unfold Gr;rw[if_pos h]
theorem P8 {i u:Nat}{c:UInt8}{r:EC}(h:¬ (9<=i\/(0<i/\c=0)))(hc:c.toNat<128):Gr i u (c :: r)=if 4611686018427387904<u+c.toNat % 128*128 ^ i then none else some (u+c.toNat % 128*128 ^ i,r):=by
 rw[Gr.eq_def];simp only [];rw[if_neg h,if_pos hc]
theorem VJ {i u:Nat}{c:UInt8}{r:EC}(h:¬ (9<=i\/(0<i/\c=0)))(hc:¬ c.toNat<128):Gr i u (c :: r)=Gr (i+1) (u+c.toNat % 128*128 ^ i) r:=by
 rw[Gr.eq_def];simp only [];rw[if_neg h,if_neg hc]
theorem Tw {i u m:Nat}(hu:u<128 ^ i)(hm:m<128):u+m*128 ^ i<128 ^ (i+1):=by
 rw[CG];have:m*128 ^ i<=127*128 ^ i:=AY _ EA;omega
theorem NG {br bb:Nat}{l:EC}{bad:Bool}{w':World}(h:Gr 0 0 l=none)(hR:Rd br bb (.slice none 0 0) [] true w'):I 0=I ↑(FH l bad).1/\∃v',Rd br bb v' (FH l bad).2.1 (FH l bad).2.2 w':=by
 rw[Xux h];exact⟨rfl,_,hR⟩
theorem Vy {br bb:Nat}{l r:EC}{bad:Bool}{v':Value}{w':World}{n:Nat}(h:Gr 0 0 l=some (n,r))(hR:Rd br bb v' r bad w'):(.int .i64 (IntKind.i64.wrap (n:Int)))=I ↑(FH l bad).1/\∃v',Rd br bb v' (FH l bad).2.1 (FH l bad).2.2 w':=by
 rw[Xuy h,KT (by have:=X4z h;unfold ET;omega)];exact⟨rfl,_,hR⟩
theorem SZ {br bb:Nat}{v:Value}{l:EC}{bad:Bool}{w w':World}{lo hi:Nat}(h:Rd br bb v l bad w)(hx:Vc.Mod (ES br) w w')(h1:lo<=hi)(h2:hi<=l.length):EM EP 1 w' (Gz 1 v lo hi) ((l.take hi).drop lo)/\((l.take hi).drop lo≠[]->(base (Gz 1 v lo hi)).1=bb/\bb≠br):=by
 have J:(l.take hi).drop lo≠[]->l≠[]:=λe e2=>e (by rw[e2];simp);have z:(l.take hi).drop lo≠[]->(base (Gz 1 v lo hi)).1=bb/\bb≠br:=λe=>by rw[Xzh];exact h.n (J e)
 exact⟨(h.a.slice h1 h2).mod hx (λe e2=>(z e).2 ((z e).1▸e2)),z⟩
theorem RG {br bb:Nat}{v:Value}{l:EC}{bad:Bool}{w w':World}{lo:Nat}(h:Rd br bb v l bad w)(hx:Vc.Mod (ES br) w w')(h1:lo<=l.length)(hm:EL w' br [Gz 1 v lo l.length,B bad] 273):Rd br bb (Gz 1 v lo l.length) (l.drop lo) bad w':=by
 have:=SZ h hx h1 (Aa _);rw[AK]at this;exact⟨hm,this.1,this.2⟩
theorem W4 {n:Int}{l:EC}{bad:Bool}(h:n<0\/(l.length:Int)<n):IE n l bad=([],[],true):=by unfold IE;rw[if_pos h]
theorem Xu0 {n:Int}{l:EC}{bad:Bool}(h:¬ (n<0\/(l.length:Int)<n)):IE n l bad=(l.take n.toNat,l.drop n.toNat,bad):=by unfold IE;rw[if_neg h]
def IH : Nat->EC->Bool->List Nat×EC×Bool
 | 0,l,bad=>([],l,bad)
 | k+1,l,bad=>((FH l bad).1 :: (IH k (FH l bad).2.1 (FH l bad).2.2).1,(IH k (FH l bad).2.1 (FH l bad).2.2).2)
def Gq (Cs:Nat->List Value):List (Nat×Nat)->List Nat->Nat->List Value
 | (b,o) :: ps,n :: ns=>Gq (λk=>if k=b then(Cs b).set o (I ↑n)else Cs k) ps ns
 | _,_=>Cs
theorem Vn {l:EC}{bad:Bool}(h:(FH l bad).2.1≠[]):l≠[]:=by
 rintro rfl;exact h rfl
theorem HW {br bb:Nat}{l l':EC}(h:l'≠[]->l≠[]){k:Nat}(hk:LW br bb l' k):LW br bb l k:=hk.imp id λ⟨h1,h2⟩=>⟨h h1,h2⟩
theorem RZ (k:Nat)(l:EC)(bad:Bool):IH (k+1) l bad=((FH l bad).1 :: (IH k (FH l bad).2.1 (FH l bad).2.2).1,(IH k (FH l bad).2.1 (FH l bad).2.2).2):=rfl
theorem KW (br bb:Nat)(v:Value)(l:EC)(bad:Bool)(w:World)(h:Rd br bb v l bad w)(hll:l.length<=2001000020) :
  Calls Tryz.prog 187 [ED br 0].toArray w (Fh (ES br) w (λu w'=>u=I ↑(FH l bad).1/\∃v',Rd br bb v' (FH l bad).2.1 (FH l bad).2.2 w')):=by
 refine cw Tryz.func187 ?_;have z:=EB.refl w;obtain⟨hm,ha,hn⟩:=h;have hb:Rd br bb v l bad w:=⟨hm,ha,hn⟩;refine ws λ_ Z1=>wr (da (de Z1 (ws λ_ Z2=>ws λ_ Z3=>wr (dm ?_))));refine dp (Gj E9 rfl rfl) (de Z3 (wi (λc1=>?_) λc1=>?_))
 ·exact absurd c1 EQ
 refine EG (Z2 _ _ (ws λ_ Z4=>wr (da (de Z4 (ws λ_ Z5=>ws λ_ Z6=>wr (dm ?_))))));refine dz rfl (df 0 rfl (dl rfl ((hm.ext z).at rfl) (dv 5 1 (ha.ext z).sl (dm (de Z6 (EN ?_))))));refine Fk (G:=Nat×Nat) (λ(k,u)=>[(0,ED br 0),(3,.int .u64 ↑u),(11,v),(12,I ↑l.length),(13,I ↑k)]) (λ(k,u) w'=>EB w w'/\k<=l.length/\k<=9/\u<128 ^ k/\Gr 0 0 l=Gr k u (l.drop k)) (λ(k,u)=>l.length-k) (0,0) ?_ ?_ ?_
 ·exact FA
 ·exact⟨z,Ad _,Ad _,by simp,rfl⟩
 intro X1 g1 w1 xb;obtain⟨k,u⟩:=g1;clear z;obtain⟨z,hk1,hk2,hu,hN⟩:=xb;refine ws λ_ Z7=>wr (dp (Fa rfl rfl) (de Z7 (ws λ_ Z8=>wi (λc2=>?_) λc2=>?_)))
 ·obtain⟨c,hk⟩:∃c,l[k]?=some c:=Fq;have Z:=HY hk;refine EG (Z8 _ _ (ws λ_ Z9=>EN (ws λ_ hz=>wr (dm ?_))));refine di 5 1 (ha.ext z).sl rfl ((ha.ext z).lt hk) (dl rfl (((ha.ext z).row hk).at0 rfl) (da (da (de hz (ws λ_ hf=>ws λ_ hc=>wr (dm ?_))))));refine dp (IB rfl rfl) (dm ?_);refine Fz 20 rfl (λc3=>?_) (λc3=>?_)
  ·refine dk (dk (dk (dk (dk (dk (EO (de hc ?_)))))));refine GD rfl (Ff (Z5 _ _ (ws λ_ ht=>wr (dm ?_))));refine cD (My br bb v l bad _ (hb.ext z)) (.inl rfl) λu2 w2 x2 xf=>?_;have hsz2:=z.size;have z:=(z.mod x2).mono (λi hi _=>(hi:(ES br) i));obtain⟨rfl,J⟩:=xf;refine de ht (ws λ_ hj=>wr (da (de hj (EH ?_))));refine ro ?_;exact⟨_,rfl,z,NG (by rw[hN,Z];exact Xc (.inl EA)) J⟩
  refine dm ?_;refine dp (FY rfl rfl) (dm ?_);refine Fz 23 rfl (λc4=>?_) (λc4=>?_)
  ·refine dm ?_;refine dp (Qn (b:=0) rfl rfl) (EO ?_);refine EO (de hc ?_);refine wi (λc5=>?_) λc5=>?_
   ·refine Ff (Z5 _ _ (ws λ_ xh=>wr (dm ?_)));refine cD (My br bb v l bad _ (hb.ext z)) (.inl rfl) λu3 w3 x3 xl=>?_;have hsz3:=z.size;have z:=(z.mod x3).mono (λi hi _=>(hi:(ES br) i));obtain⟨rfl,J⟩:=xl;refine de xh (ws λ_ hw=>wr (da (de hw (EH ?_))));refine ro ?_;exact⟨_,rfl,z,NG (by rw[hN,Z];exact Xc (.inr ⟨by omega,c5⟩)) J⟩
   refine EG (hf _ _ (ws λ_ hh=>wr (dm (dm ?_))));refine dp (Ql (b:=127) rfl rfl) (dp (TS rfl E9 E9) (dm ?_));refine dp (Ko rfl rfl (by unfold ET;omega)) (dp (Wq rfl rfl (Bg _ EK) EA) (dp (Xq rfl rfl hu (Bg _ EK) EA) (da (de hh (ws λ_ xc=>wr (dm ?_))))));refine dp (Tx (b:=128) rfl rfl) (de xc (wi (λc6=>?_) λc6=>?_))
   ·have Y:¬ (9<=k\/(0<k/\c=0)):=by
     rintro (h|⟨h,h2⟩)
     ·omega
     ·exact c5 h2
    have O:=CF.1 c6;refine ws λ_ hp=>ws λ_ hg=>wr (dm ?_);refine dp (FY rfl rfl) (de hg (wi (λc7=>?_) λc7=>?_))
    ·refine Ff (Z5 _ _ (ws λ_ hr=>wr (dm ?_)));refine cD (My br bb v l bad _ (hb.ext z)) (.inl rfl) λu4 w4 x4 xg=>?_;have hsz4:=z.size;have z:=(z.mod x4).mono (λi hi _=>(hi:(ES br) i));obtain⟨rfl,J⟩:=xg;refine de hr (ws λ_ xk=>wr (da (de xk (EH ?_))));refine ro ?_;exact⟨_,rfl,z,NG (by rw[hN,Z,P8 Y O,if_pos EA]) J⟩
    refine EG (hp _ _ (ws λ_ xe=>wr (dm (dm ?_))));refine dz rfl (df 0 rfl (dl rfl ((hm.ext z).at rfl) (dm ?_)));refine pa rfl rfl (dp (H8 (e:=5) (k:=1) E9 (ha.ext z).sl rfl rfl rfl (show k+1<=l.length by omega) (Aa _)) (dz rfl (df 0 rfl (G5 (hm.ext z) (λw5 x5 xs5 hm=>?_) (hv:=by exact R7 (k:=1) (a:=k+1) (b:=l.length) ha.sl)))));dsimp only [Fe,Ag,Af,Ai]at hm;have z:=(z.mod x5).mono (λi hi _=>(hi:(ES br) i));refine de xe (ws λ_ xd=>wr (dm ?_));refine dp (JB (k:=.i64) rfl E9 E9) (da (de xd (EH ?_)));refine ro ?_;exact⟨_,rfl,z,Vy (by rw[hN,Z,P8 Y O,if_neg EA]) (RG hb z EA hm)⟩
   have Y:¬ (9<=k\/(0<k/\c=0)):=by
    rintro (h|⟨h,h2⟩)
    ·omega
    ·exact c5 h2
   have O:¬ c.toNat<128:=λh=>c6 (CF.2 h);refine EG (Z9 _ _ (wr (pa rfl rfl (dm (EF (?_))))));refine⟨(k+1,_),FA,⟨z,by omega,by omega,Tw hu (Bg _ EK),by rw[hN,Z,VJ Y O]⟩,by simp only [];omega⟩
  refine dk (dk (EO ?_));refine EO (de hc ?_);refine GB rfl (EG (hf _ _ (ws λ_ xj=>wr (dm (dm ?_)))));refine dp (Ql (b:=127) rfl rfl) (dp (TS rfl E9 E9) (dm ?_));refine dp (Ko rfl rfl (by unfold ET;omega)) (dp (Wq rfl rfl (Bg _ EK) EA) (dp (Xq rfl rfl hu (Bg _ EK) EA) (da (de xj (ws λ_ h5=>wr (dm ?_))))));refine dp (Tx (b:=128) rfl rfl) (de h5 (wi (λc8=>?_) λc8=>?_))
  ·have Y:¬ (9<=k\/(0<k/\c=0)):=by rintro (h|⟨h,_⟩)<;>omega
   have O:=CF.1 c8;refine ws λ_ hy=>ws λ_ xm=>wr (dm ?_);refine dp (FY rfl rfl) (de xm (wi (λc9=>?_) λc9=>?_))
   ·refine Ff (Z5 _ _ (ws λ_ xi=>wr (dm ?_)));refine cD (My br bb v l bad _ (hb.ext z)) (.inl rfl) λu6 w6 x6 h9=>?_;have hsz6:=z.size;have z:=(z.mod x6).mono (λi hi _=>(hi:(ES br) i));obtain⟨rfl,J⟩:=h9;refine de xi (ws λ_ hl=>wr (da (de hl (EH ?_))));refine ro ?_;exact⟨_,rfl,z,NG (by rw[hN,Z,P8 Y O,if_pos EA]) J⟩
   refine EG (hy _ _ (ws λ_ h8=>wr (dm (dm ?_))));refine dz rfl (df 0 rfl (dl rfl ((hm.ext z).at rfl) (dm ?_)));refine pa rfl rfl (dp (H8 (e:=5) (k:=1) E9 (ha.ext z).sl rfl rfl rfl (show k+1<=l.length by omega) (Aa _)) (dz rfl (df 0 rfl (G5 (hm.ext z) (λw7 x7 xs7 hm=>?_) (hv:=by exact R7 (k:=1) (a:=k+1) (b:=l.length) ha.sl)))));dsimp only [Fe,Ag,Af,Ai]at hm;have z:=(z.mod x7).mono (λi hi _=>(hi:(ES br) i));refine de h8 (ws λ_ hq=>wr (dm ?_));refine dp (JB (k:=.i64) rfl E9 E9) (da (de hq (EH ?_)));refine ro ?_;exact⟨_,rfl,z,Vy (by rw[hN,Z,P8 Y O,if_neg EA]) (RG hb z EA hm)⟩
  have Y:¬ (9<=k\/(0<k/\c=0)):=by rintro (h|⟨h,_⟩)<;>omega
  have O:¬ c.toNat<128:=λh=>c8 (CF.2 h);refine EG (Z9 _ _ (wr (pa rfl rfl (dm (EF (?_))))));refine⟨(k+1,_),FA,⟨z,by omega,by omega,Tw hu (Bg _ EK),by rw[hN,Z,VJ Y O]⟩,by simp only [];omega⟩
 refine Ff (Z5 _ _ (ws λ_ xa=>wr (dm ?_)));refine cD (My br bb v l bad _ (hb.ext z)) (.inl rfl) λu8 w8 x8 h6=>?_;have hsz8:=z.size;have z:=(z.mod x8).mono (λi hi _=>(hi:(ES br) i));obtain⟨rfl,J⟩:=h6;refine de xa (ws λ_ h7=>wr (da (de h7 (EH ?_))));refine ro ?_;exact⟨_,rfl,z,NG (by rw[hN,BH EA];rfl) J⟩
theorem Ybc (br bb:Nat)(v:Value)(l:EC)(bad:Bool)(n:Int)(w:World)(h:Rd br bb v l bad w)(hll:l.length<=2001000020) :
  Calls Tryz.prog 194 [ED br 0,I n].toArray w (Fh (ES br) w (λu w'=>Vc.Own EP 1 5 w.heap.size w' u (IE n l bad).1/\∃v',Rd br bb v' (IE n l bad).2.1 (IE n l bad).2.2 w')):=by
 refine cw Tryz.func194 ?_;have z:=EB.refl w;obtain⟨hm,Z,hn⟩:=h;have J:Rd br bb v l bad w:=⟨hm,Z,hn⟩;refine ws λ_ Z1=>wr (da (de Z1 (ws λ_ Z2=>ws λ_ Z3=>wr (dm ?_))));refine dp (Gj E9 rfl rfl) (dm ?_);refine Fz 8 rfl (λc1=>?_) (λc1=>?_)
 ·exact absurd c1 EQ
 refine dm ?_;refine dp (Fa rfl rfl) (EO ?_);refine dm ?_;refine Fz 12 rfl (λc2=>?_) (λc2=>?_)
 ·refine dk (dk (dk (dk (dk (dk (dk (EO (de Z3 ?_))))))));refine GD rfl (ws λ_ Z4=>wr (dm ?_));refine cD (My br bb v l bad _ (J.ext z)) (.inl rfl) λu1 w1 x1 hg=>?_;have hsz1:=z.size;have z:=(z.mod x1).mono (λi hi _=>(hi:(ES br) i));obtain⟨rfl,Y⟩:=hg;refine de Z4 (ws λ_ Z5=>wr (da (de Z5 (EH ?_))));refine ro ?_;refine⟨_,rfl,z,?_⟩;rw[W4 EA];exact⟨Vc.Own.nil,_,Y⟩
 iterate 2 refine dm ?_
 refine dz rfl (df 0 rfl (dl rfl ((hm.ext z).at rfl) (dv 5 1 (Z.ext z).sl (dp (FY rfl rfl) (EO (de Z3 ?_))))));refine wi (λc3=>?_) λc3=>?_
 ·refine ws λ_ Z6=>wr (dm ?_);refine cD (My br bb v l bad _ (J.ext z)) (.inl rfl) λu2 w2 x2 hf=>?_;have hsz2:=z.size;have z:=(z.mod x2).mono (λi hi _=>(hi:(ES br) i));obtain⟨rfl,Y⟩:=hf;refine de Z6 (ws λ_ Z7=>wr (da (de Z7 (EH ?_))));refine ro ?_;refine⟨_,rfl,z,?_⟩;rw[W4 EA];exact⟨Vc.Own.nil,_,Y⟩
 obtain⟨n,rfl⟩:∃m:Nat,n=↑m:=⟨n.toNat,by omega⟩;have hh:(↑n:Int).toNat=n:=BM n;have O:n<=l.length:=by omega
 refine EG (Z2 _ _ (ws λ_ Z8=>wr (dm ?_)));refine dz rfl (df 0 rfl (dl rfl ((hm.ext z).at rfl) (dm ?_)));refine dp (H8 (e:=5) (k:=1) E9 (Z.ext z).sl rfl rfl rfl (Ad _) O) ?_;have hb:=(SZ (hi:=n) (lo:=0) J ((Vc.Mod.refl _ _).ext z) (Ad _) O).1;rw[Ca]at hb;refine cG (Lp (l.take n) _ _ hb (by rw[A4];omega)) RX.all λvo w3 x3 ho=>?_;have hsz3:=z.size;have z:=z.trans x3;refine da (de Z8 (ws λ_ Z9=>wr (dm (dm ?_))));refine dz rfl (df 0 rfl (dl rfl ((hm.ext z).at rfl) (dm ?_)));refine dp (H8 (e:=5) (k:=1) E9 (Z.ext z).sl rfl rfl rfl O (Aa _)) (dz rfl (df 0 rfl (G5 (hm.ext z) (λw4 x4 xs4 hm=>?_) (hv:=by exact R7 (k:=1) (a:=n) (b:=l.length) Z.sl))));dsimp only [Fe,Ag,Af,Ai]at hm;have ho:=ho.mod x4 (λk hk h=>by have h1:=(ho.lt k hk).1;have h2:k=br:=h;have h3:=J.m.lt;omega);have z:=(z.mod x4).mono (λi hi _=>(hi:(ES br) i));refine de Z9 (ws λ_ hc=>wr (dm (da (de hc (EH ?_)))));refine ro ?_;refine⟨_,rfl,z,?_⟩;rw[Xu0 EA,hh];exact⟨ho,_,RG J z O hm⟩
theorem KI (br bb:Nat)(v:Value)(l:EC)(bad:Bool)(w:World)(h:Rd br bb v l bad w)(hll:l.length<=2001000020) :
  Calls Tryz.prog 121 [ED br 0].toArray w (Fh (ES br) w (λu w'=>Vc.Own EP 1 5 w.heap.size w' u (ND l bad).1/\∃v',Rd br bb v' (ND l bad).2.1 (ND l bad).2.2 w')):=by
 refine cw Tryz.func121 ?_;have z:=Vc.Mod.refl (ES br) w;refine ws λ_ Z1=>wr (da (de Z1 (ws λ_ Z2=>wr (dm (dm ?_)))));refine cD (KW br bb v l bad _ (h.ext (EB.refl _)) hll) (.inl rfl) λu1 w1 x1 Z=>?_;have hsz1:=z.size;have z:=z.own x1 (λi hi hb=>hi);obtain⟨rfl,v1,Y⟩:=Z;have J:=x1.size;refine cD (Ybc br bb v1 _ _ _ _ Y (Ae (XB l bad) hll)) (.inl rfl) λu2 w2 x2 O=>?_;have hsz2:=z.size;have z:=z.own x2 (λi hi hb=>hi);obtain⟨hO,v2,ha⟩:=O;refine da (de Z2 (EH ?_));refine ro ?_;exact⟨_,rfl,z,hO.mono J,v2,ha⟩
theorem ON (br bb:Nat)(v:Value)(l:EC)(bad:Bool)(ps:List (Nat×Nat))(vn:Value)(Cs:Nat->List Value)(Ts:Nat->TypeId)(w:World)(hR0:Rd br bb v l bad w)(hll:l.length<=2001000020)(hv:EM (λp:Nat×Nat=>[ED p.1 p.2]) 1 w vn ps)(hpl:ps.length<=1000)(hB0:∀p∈ps,EL w p.1 (Cs p.1) (Ts p.1)/\p.2<(Cs p.1).length)(hdis:∀p∈ps,¬ LW br bb l p.1)(hdv:ps≠[]->¬ ((base vn).1=br\/∃p∈ps,(base vn).1=p.1)) :
  Calls Tryz.prog 119 [ED br 0,vn].toArray w (Fh (λk=>k=br\/∃p∈ps,k=p.1) w (λu w'=>u=.tuple #[]/\∃v',Rd br bb v' (IH ps.length l bad).2.1 (IH ps.length l bad).2.2 w'/\∀p∈ps,EL w' p.1 (Gq Cs ps (IH ps.length l bad).1 p.1) (Ts p.1))):=by
 refine cw Tryz.func119 ?_;have O:=Vc.Mod.refl (λk=>k=br\/∃p∈ps,k=p.1) w;refine ws λ_ Z1=>wr (dm ?_);refine dv 197 1 (hv.mod O hdv).sl (dm (de Z1 (EN ?_)));refine Fk (G:=Nat×Value×EC×Bool×(Nat->List Value)) (λ(k,vc,z,Y,J)=>[(0,ED br 0),(7,vn),(8,I ↑ps.length),(9,I ↑k)]) (λ(k,vc,z,Y,J) w'=>Mod (λk=>k=br\/∃p∈ps,k=p.1) w w'/\k<=ps.length/\Rd br bb vc z Y w'/\(∀p∈ps,EL w' p.1 (J p.1) (Ts p.1)/\p.2<(J p.1).length)/\z.length<=l.length/\(z≠[]->l≠[])/\Gq Cs ps (IH ps.length l bad).1=Gq J (ps.drop k) (IH (ps.length-k) z Y).1/\(IH ps.length l bad).2=(IH (ps.length-k) z Y).2) (λ(k,vc,z,Y,J)=>ps.length-k) (0,v,l,bad,Cs) ?_ ?_ ?_
 ·exact FU
 ·exact⟨O,Ad _,hR0,hB0,Aa _,id,rfl,rfl⟩
 intro X1 g1 w1 hy;obtain⟨k,vc,z,Y,J⟩:=g1;clear O;obtain⟨O,hk1,hR,Z,hh,hb,hW,hT⟩:=hy;refine ws λ_ Z2=>wr (dp (Fa rfl rfl) (de Z2 (ws λ_ Z3=>wi (λc1=>?_) λc1=>?_)))
 ·obtain⟨p,hk⟩:∃p,ps[k]?=some p:=Fq;have hl:=HY hk;refine EG (Z3 _ _ (ws λ_ Z4=>EN (ws λ_ Z5=>wr (di 197 1 (hv.mod O hdv).sl rfl ((hv.mod O hdv).lt hk) (dl rfl (((hv.mod O hdv).row hk).at0 rfl) (da (de Z5 (ws λ_ Z6=>wr (dm ?_)))))))));refine cD (KW br bb vc z Y _ hR EA) (.inl rfl) λu2 w2 x2 hr=>?_;have hsz2:=O.size;have O:=O.own x2 (λi hi ht=>.inl hi);obtain⟨rfl,v1,hR⟩:=hr;have Z:∀p∈ps,EL w2 p.1 (J p.1) (Ts p.1)/\p.2<(J p.1).length:=λp hp=>⟨(Z p hp).1.mod x2 (λh=>hdis p hp (.inl h)),(Z p hp).2⟩;refine da (de Z6 (ws λ_ Z7=>wr (dm ?_)));refine dp (Ng E9 rfl rfl) (de Z7 (wi (λc2=>?_) λc2=>?_))
  ·refine wr (dm (dm ?_));refine dz rfl ?_;obtain⟨hj,ha⟩:=Z p (Ak hk);refine M5 (b:=p.1) (o:=p.2) (v:=I ↑(FH z Y).1) rfl rfl rfl rfl E9 hj ha (.inl rfl) (λw3 x3 xs3 hg=>?_);have O:=O.own x3 (λi hi ht=>by have h2:i=p.1:=hi;exact .inr ⟨p,Ak hk,h2⟩);have hR:=hR.mod x3 (λk9 hw h9=>by have h2:k9=p.1:=h9;exact hdis p (Ak hk) (h2▸HW (λe=>hb (Vn e)) hw));have Z:∀q∈ps,EL w3 q.1 (if q.1=p.1 then(J p.1).set p.2 (I ↑(FH z Y).1)else J q.1) (Ts q.1)/\q.2<(if q.1=p.1 then(J p.1).set p.2 (I ↑(FH z Y).1)else J q.1).length:=by
    intro q hq
    by_cases e:q.1=p.1
    ·have hf:=(Z q hq).2;rw[if_pos e,e,AG];rw[e]at hf;exact⟨hg,hf⟩
    ·rw[if_neg e];exact⟨(Z q hq).1.mod x3 (λh=>e h),(Z q hq).2⟩
   refine de Z4 (wr (pa rfl rfl (dm (EF (?_)))));obtain⟨m,hm9⟩:∃m,ps.length-k=m+1:=⟨ps.length-k-1,by omega⟩;have hc:ps.length-(k+1)=m:=by omega
   refine⟨(k+1,v1,(FH z Y).2.1,(FH z Y).2.2,λq=>if q=p.1 then(J p.1).set p.2 (I ↑(FH z Y).1)else J q),FU,⟨O,by omega,hR,Z,Ae (XB z Y) hh,λe=>hb (Vn e),?_,?_⟩,by simp only [];omega⟩
   ·rw[hW,hl,hm9,hc,RZ];rfl
   ·rw[hT,hm9,hc,RZ]
  exact absurd EQ c2
 refine Ff (HI (Hi rfl ?_));rw[show ps.length-k=0 by omega]at hW hT;refine⟨_,rfl,O,rfl,vc,by rw[hT];exact hR,λp hp=>?_⟩;rw[hW,BH EA];exact(Z p hp).1
end Go.Proofs.YtiooodckiddpmaaGreatDoor
namespace Go.Proofs
open Go.Shelf
def Tryz.lays125_ren : Go.Shelf.Ren:=⟨λ|125=>204|128=>271|129=>272|n=>n,λ|46=>237|3=>3|51=>174|53=>236|4=>4|5=>5|9=>9|n=>n,λ|n=>n⟩
def Tryz.lays106_ren : Go.Shelf.Ren:=⟨λ|106=>166|213=>242|265=>298|n=>n,λ|9=>9|3=>3|n=>n,λ|n=>n⟩
theorem Tryz.lays106 : Go.Proofs.Lays.n106 Tryz.prog Tryz.lays106_ren:={
 mixed:=by kernel_rfl
 f106:=Tryz.func166.trans (congrArg some E9)
 f213:=Tryz.func242.trans (congrArg some E9)
 f265:=Tryz.func298.trans (congrArg some E9)
 t3:=Tryz.underlying3
 a3:=Tryz.isAgg3
 z3:=Tryz.sizeOf3
 v3:=Tryz.zeroValue3
 t9:=Tryz.underlying9
 a9:=Tryz.isAgg9
 z9:=Tryz.sizeOf9
 v9:=Tryz.zeroValue9 }
open Go.RowKit in
theorem Tryz.strings_Compare (a b:ByteArray)(w:World) :
 Calls Tryz.prog 166 #[.string a,.string b] w λe w'=>e=.returned (.int .i64 (Lib.compareBytes a.data.toList b.data.toList))/\w'=w:=Any.strings_Compare Tryz.lays106 a b w
def Tryz.lays122_ren : Go.Shelf.Ren:=⟨λ|122=>247|215=>304|n=>n,λ|3=>3|4=>4|n=>n,λ|n=>n⟩
def Tryz.laysM171_ren : Go.Shelf.Ren:=⟨λ|171=>106|243=>183|246=>254|283=>307|284=>308|285=>309|286=>310|129=>272|317=>329|318=>330|319=>331|320=>332|337=>338|338=>339|n=>n,λ|3=>3|9=>9|2=>2|4=>4|171=>350|0=>0|53=>236|37=>82|5=>5|173=>352|212=>366|51=>174|20=>20|213=>367|46=>237|232=>371|233=>372|n=>n,λ|17=>1|18=>2|19=>3|n=>n⟩
theorem Tryz.laysM171 : Go.Proofs.LaysM.n171 Tryz.prog Tryz.laysM171_ren:={
 mixed:=by kernel_rfl
 f129:=Tryz.func272.trans (congrArg some E9)
 f171:=Tryz.func106.trans (congrArg some E9)
 f243:=Tryz.func183.trans (congrArg some E9)
 f246:=Tryz.func254.trans (congrArg some E9)
 f283:=Tryz.func307.trans (congrArg some E9)
 f284:=Tryz.func308.trans (congrArg some E9)
 f285:=Tryz.func309.trans (congrArg some E9)
 f286:=Tryz.func310.trans (congrArg some E9)
 f317:=Tryz.func329.trans (congrArg some E9)
 f318:=Tryz.func330.trans (congrArg some E9)
 f319:=Tryz.func331.trans (congrArg some E9)
 f320:=Tryz.func332.trans (congrArg some E9)
 f337:=Tryz.func338.trans (congrArg some E9)
 f338:=Tryz.func339.trans (congrArg some E9)
 t0:=Tryz.underlying0
 a0:=Tryz.isAgg0
 z0:=Tryz.sizeOf0
 v0:=Tryz.zeroValue0
 t2:=Tryz.underlying2
 a2:=Tryz.isAgg2
 z2:=Tryz.sizeOf2
 v2:=Tryz.zeroValue2
 t3:=Tryz.underlying3
 a3:=Tryz.isAgg3
 z3:=Tryz.sizeOf3
 v3:=Tryz.zeroValue3
 t4:=Tryz.underlying4
 a4:=Tryz.isAgg4
 z4:=Tryz.sizeOf4
 v4:=Tryz.zeroValue4
 t5:=Tryz.underlying5
 a5:=Tryz.isAgg5
 z5:=Tryz.sizeOf5
 v5:=Tryz.zeroValue5
 t9:=Tryz.underlying9
 a9:=Tryz.isAgg9
 z9:=Tryz.sizeOf9
 v9:=Tryz.zeroValue9
 t20:=Tryz.underlying20
 a20:=Tryz.isAgg20
 z20:=Tryz.sizeOf20
 v20:=Tryz.zeroValue20
 t37:=Tryz.underlying82
 a37:=Tryz.isAgg82
 z37:=Tryz.sizeOf82
 v37:=Tryz.zeroValue82
 t46:=Tryz.underlying237
 a46:=Tryz.isAgg237
 z46:=Tryz.sizeOf237
 v46:=Tryz.zeroValue237
 t51:=Tryz.underlying174
 a51:=Tryz.isAgg174
 z51:=Tryz.sizeOf174
 v51:=Tryz.zeroValue174
 t53:=Tryz.underlying236
 a53:=Tryz.isAgg236
 z53:=Tryz.sizeOf236
 v53:=Tryz.zeroValue236
 t171:=Tryz.underlying350
 a171:=Tryz.isAgg350
 z171:=Tryz.sizeOf350
 v171:=Tryz.zeroValue350
 t173:=Tryz.underlying352
 a173:=Tryz.isAgg352
 z173:=Tryz.sizeOf352
 v173:=Tryz.zeroValue352
 t212:=Tryz.underlying366
 a212:=Tryz.isAgg366
 z212:=Tryz.sizeOf366
 v212:=Tryz.zeroValue366
 t213:=Tryz.underlying367
 a213:=Tryz.isAgg367
 z213:=Tryz.sizeOf367
 t232:=Tryz.underlying371
 a232:=Tryz.isAgg371
 z232:=Tryz.sizeOf371
 v232:=Tryz.zeroValue371
 t233:=Tryz.underlying372
 a233:=Tryz.isAgg372
 z233:=Tryz.sizeOf372
 v233:=Tryz.zeroValue372
 g17:=by kernel_rfl
 g18:=by kernel_rfl
 g19:=by kernel_rfl
 i0:=by kernel_rfl
 i2:=by kernel_rfl
 i3:=by kernel_rfl
 i4:=by kernel_rfl
 i5:=by kernel_rfl
 i9:=by kernel_rfl
 i20:=by kernel_rfl
 i37:=by kernel_rfl
 i46:=by kernel_rfl
 i51:=by kernel_rfl
 i53:=by kernel_rfl
 i171:=by kernel_rfl
 i173:=by kernel_rfl
 i212:=by kernel_rfl
 i232:=by kernel_rfl
 i233:=by kernel_rfl
 m17:=by kernel_rfl
 m18:=by kernel_rfl
 m19:=by kernel_rfl }
open Go.RowKit Go.Sort Go.Lib in
theorem Tryz.strconv_Itoa (n : Int) (h0 : -9223372036854775808 ≤ n) (h1 : n ≤ 9223372036854775807) (w : World) (htab : Lib.TabIs Tryz.prog w "internal/strconv.uint64pow10" .u64 Lib.pow10Tab) :
 Calls Tryz.prog 106 #[.int .i64 n] w λe w'=>e=.returned (.string ⟨(Lib.itoa n).toArray⟩)/\∃k os,w'=grow (w.drewN k) os:=Any.strconv_Itoa Tryz.laysM171 n h0 h1 w htab
def Tryz.lays99_ren : Go.Shelf.Ren:=⟨λ|99=>129|206=>200|n=>n,λ|9=>9|4=>4|3=>3|n=>n,λ|n=>n⟩
theorem Tryz.lays99 : Go.Proofs.Lays.n99 Tryz.prog Tryz.lays99_ren:={
 mixed:=by kernel_rfl
 f99:=Tryz.func129.trans (congrArg some E9)
 f206:=Tryz.func200.trans (congrArg some E9)
 t3:=Tryz.underlying3
 a3:=Tryz.isAgg3
 z3:=Tryz.sizeOf3
 v3:=Tryz.zeroValue3
 t4:=Tryz.underlying4
 a4:=Tryz.isAgg4
 z4:=Tryz.sizeOf4
 v4:=Tryz.zeroValue4
 t9:=Tryz.underlying9
 a9:=Tryz.isAgg9
 z9:=Tryz.sizeOf9
 v9:=Tryz.zeroValue9 }
open Go.RowKit Go.Lib in
theorem Tryz.strings_HasPrefix (s p:ByteArray)(w:World) :
 Calls Tryz.prog 129 #[.string s,.string p] w λe w'=>e=.returned (.bool (Lib.hasPrefix s.data.toList p.data.toList))/\w'=w:=Any.strings_HasPrefix Tryz.lays99 s p w
def Tryz.lays107_ren : Go.Shelf.Ren:=⟨λ|107=>171|108=>244|n=>n,λ|28=>159|3=>3|4=>4|0=>0|n=>n,λ|n=>n⟩
def Tryz.lays110_ren : Go.Shelf.Ren:=⟨λ|110=>130|109=>201|n=>n,λ|31=>58|9=>9|4=>4|3=>3|0=>0|n=>n,λ|n=>n⟩
theorem Tryz.lays110 : Go.Proofs.Lays.n110 Tryz.prog Tryz.lays110_ren:={
 mixed:=by kernel_rfl
 f109:=Tryz.func201.trans (congrArg some E9)
 f110:=Tryz.func130.trans (congrArg some E9)
 t0:=Tryz.underlying0
 a0:=Tryz.isAgg0
 z0:=Tryz.sizeOf0
 v0:=Tryz.zeroValue0
 t3:=Tryz.underlying3
 a3:=Tryz.isAgg3
 z3:=Tryz.sizeOf3
 v3:=Tryz.zeroValue3
 t4:=Tryz.underlying4
 a4:=Tryz.isAgg4
 z4:=Tryz.sizeOf4
 v4:=Tryz.zeroValue4
 t9:=Tryz.underlying9
 a9:=Tryz.isAgg9
 z9:=Tryz.sizeOf9
 v9:=Tryz.zeroValue9
 t31:=Tryz.underlying58
 a31:=Tryz.isAgg58
 z31:=Tryz.sizeOf58
 v31:=Tryz.zeroValue58 }
open Go.Lib in
theorem Tryz.slices_Contains_string (b off n c:Nat)(zs:List ByteArray)(x:ByteArray)(w:World)(hz:n<=zs.length)(hbig:n<=9223372036854775807)(hc:∀j,j<zs.length->w.cell? ⟨b,off+j,none⟩=some (.string (zs.getD j ByteArray.empty))) :
 Calls Tryz.prog 130 #[.slice (some ⟨b,off,none⟩) n c,.string x] w λe w'=>e=.returned (.bool (Lib.containsS (zs.take n) x))/\w'=w:=Any.slices_Contains_string Tryz.lays110 b off n c zs x w hz hbig hc
open Go.Lib in
theorem Tryz.slices_Contains_string_empty (a:Option Addr)(c:Nat)(x:ByteArray)(w:World) :
 Calls Tryz.prog 130 #[.slice a 0 c,.string x] w λe w'=>e=.returned (.bool false)/\w'=w:=Any.slices_Contains_string_empty Tryz.lays110 a c x w
def Tryz.laysSlJ14_ren : Go.Shelf.Ren:=⟨λ|14=>240|15=>290|n=>n,λ|26=>133|22=>82|3=>3|4=>4|0=>0|9=>9|20=>20|5=>5|n=>n,λ|n=>n⟩
theorem Tryz.laysSlJ14 : Go.Proofs.SlLaysJ.n14 Tryz.prog Tryz.laysSlJ14_ren:={
 mixed:=by kernel_rfl
 f14:=Tryz.func240.trans (congrArg some E9)
 f15:=Tryz.func290.trans (congrArg some E9)
 t0:=Tryz.underlying0
 a0:=Tryz.isAgg0
 z0:=Tryz.sizeOf0
 v0:=Tryz.zeroValue0
 t3:=Tryz.underlying3
 a3:=Tryz.isAgg3
 z3:=Tryz.sizeOf3
 v3:=Tryz.zeroValue3
 t4:=Tryz.underlying4
 a4:=Tryz.isAgg4
 z4:=Tryz.sizeOf4
 v4:=Tryz.zeroValue4
 t9:=Tryz.underlying9
 a9:=Tryz.isAgg9
 z9:=Tryz.sizeOf9
 v9:=Tryz.zeroValue9
 t20:=Tryz.underlying20
 a20:=Tryz.isAgg20
 z20:=Tryz.sizeOf20
 v20:=Tryz.zeroValue20
 t22:=Tryz.underlying82
 a22:=Tryz.isAgg82
 z22:=Tryz.sizeOf82
 v22:=Tryz.zeroValue82
 t26:=Tryz.underlying133
 a26:=Tryz.isAgg133
 z26:=Tryz.sizeOf133
 v26:=Tryz.zeroValue133
 t5:=Tryz.underlying5
 z5:=Tryz.sizeOf5
 i5:=by kernel_rfl }
open Go.RowKit Go.Lib in
theorem Tryz.bytes_Join_many (b o n c:Nat)(vs:List Value)(ls:List (List UInt8))(sv:Value)(sep:List UInt8)(w:World)(hn:ls.length=n)(h2:2<=n)(hP:Lib.PartsAt w ⟨b,o,none⟩ vs ls)(hcap:n<=c)(hS:Lib.HoldsBytes w sv sep)(hn47:n<=140737488355328)(hlen:Lib.lens ls+sep.length*(n-1)<=140737488355328) :
 Calls Tryz.prog 240 #[.slice (some ⟨b,o,none⟩) n c,sv] w λe w'=>∃v',e=.returned v'/\Lib.FreshBytes w.heap.size w' v' (Lib.join ls sep)/\Below w.heap.size w w':=Any.bytes_Join_many Tryz.laysSlJ14 b o n c vs ls sv sep w hn h2 hP hcap hS hn47 hlen
open Go.RowKit Go.Lib in
theorem Tryz.bytes_Join_none (p:Option Addr)(c:Nat)(sv:Value)(w:World) :
 Calls Tryz.prog 240 #[.slice p 0 c,sv] w λe w'=>e=.returned (.slice (some ⟨w.heap.size,0,none⟩) 0 0)/\w'=w.alloc (.cells #[] 5):=Any.bytes_Join_none Tryz.laysSlJ14 p c sv w
open Go.RowKit Go.Lib in
theorem Tryz.bytes_Join_one (b o c:Nat)(ad0:Addr)(c0:Nat)(l0:List UInt8)(sv:Value)(w:World)(hcell:w.cell? ⟨b,o,none⟩=some (.slice (some ad0) l0.length c0))(hc:∀(i:Nat) x,l0[i]?=some x->w.cell? (ad0.add i)=some (.int .u8 (x.toNat:Int)))(h0:0<l0.length)(hs:l0.length<=140737488355328) :
 Calls Tryz.prog 240 #[.slice (some ⟨b,o,none⟩) 1 c,sv] w λe w'=>∃v',e=.returned v'/\Lib.FreshBytes w.heap.size w' v' l0/\Below w.heap.size w w':=Any.bytes_Join_one Tryz.laysSlJ14 b o c ad0 c0 l0 sv w hcell hc h0 hs
open Go.RowKit Go.Lib in
theorem Tryz.bytes_Join_one_empty (b o c:Nat)(p0:Option Addr)(c0:Nat)(sv:Value)(w:World)(hcell:w.cell? ⟨b,o,none⟩=some (.slice p0 0 c0)) :
 Calls Tryz.prog 240 #[.slice (some ⟨b,o,none⟩) 1 c,sv] w λe w'=>e=.returned (.slice none 0 0)/\w'=w:=Any.bytes_Join_one_empty Tryz.laysSlJ14 b o c p0 c0 sv w hcell
def Tryz.laysSlE041_f102_ren : Go.Shelf.Ren:=⟨λ|41=>102|n=>n,λ|22=>153|23=>174|4=>4|n=>n,λ|n=>n⟩
end Go.Proofs
namespace Go.Vc
open Go.RowKit
section
variable {P:Program}{n:Nat}{E:Fg}{w:World}{v:Value}
theorem Xu2 {fn:Func}{t s q:Nat}{u x:Value}{R:Ending->World->Prop}(hr:fn.results=#[.tmp t,.tmp s,.tmp q])(ht:AR t n=true)(hs:AR s n=true)(hq:AR q n=true)(hv:E t=v)(hu:E s=u)(hx:E q=x)(h:R (.returned (.tuple #[v,u,x])) w):Jr P fn n R .ret E w:=by
 have O:t<n:=by simpa [Br]using ht
 have z:s<n:=by simpa [Br]using hs
 have J:q<n:=by simpa [Br]using hq
 refine⟨.tuple #[v,u,x],?_,h⟩;simp [results,hr,GN,O,hv,z,hu,J,hx]
theorem MV {fn:Func}{t s q:Nat}{u x:Value}{R:Ending->World->Prop}(h:R (.returned (.tuple #[v,u,x])) w)(hr:fn.results=#[.tmp t,.tmp s,.tmp q]:=by rfl)(ht:AR t n=true:=by rfl)(hs:AR s n=true:=by rfl)(hq:AR q n=true:=by rfl)
 (hv:E t=v:=by conv=>lhs;whnf) (hu:E s=u:=by conv=>lhs;whnf) (hx:E q=x:=by conv=>lhs;whnf):Jr P fn n R .ret E w:=Xu2 hr ht hs hq hv hu hx h
end
end Go.Vc
namespace Go.Proofs.YtiooodckiddpmaaGreatDoor
open Go.Vc Go.Sp
attribute [local irreducible] W XW Dw Gm
def OB (a b c d:UInt8):UInt32:=((a.toUInt32 ||| (b.toUInt32 <<< 8)) ||| (c.toUInt32 <<< 16)) ||| (d.toUInt32 <<< 24)
def Gh : EC->UInt32
 | a :: b :: c :: d :: _=>OB a b c d
 | _=>0
theorem X40 (a b c d:UInt8):(OB a b c d).toNat=a.toNat+b.toNat*256+c.toNat*65536+d.toNat*16777216:=by
 unfold OB;have Y:=a.toNat_lt;have hb:=b.toNat_lt;have hc:=c.toNat_lt;have hd:=d.toNat_lt;have O:(b.toUInt32 <<< 8).toNat=2 ^ 8*b.toNat:=by
  rw[CV];simp [CW];omega
 have z:(c.toUInt32 <<< 16).toNat=2 ^ 16*c.toNat:=by
  rw[CV];simp [CW];omega
 have J:(d.toUInt32 <<< 24).toNat=2 ^ 24*d.toNat:=by
  rw[CV];simp [CW];omega
 rw[D5,D5,D5,O,z,J,UInt8.toNat_toUInt32];rw[CX,CX _ (2 ^ 16*_),CX a.toNat];rw[<-CY (i:=8) Y,<-CY (i:=16) EA,<-CY (i:=24) EA];omega
theorem Xu3 (v:UInt32):OB v.toUInt8 (v >>> 8).toUInt8 (v >>> 16).toUInt8 (v >>> 24).toUInt8=v:=by
 apply DZ.1
 rw[X40];have hv:=v.toNat_lt;simp only [UInt32.toNat_toUInt8,DW];simp [DX];omega
theorem UF (v:UInt32)(r:EC):Gh (HR v++r)=v:=Xu3 v
theorem M9 (b o i:Nat):(⟨b,o,none⟩:Addr).add i=⟨b,o+i,none⟩:=by
 unfold Addr.add;split
 ·rename_i e;simp [e]
 ·rfl
theorem Px {B:Nat}{w:World}{v:Value}{l:EC}(h:Lib.FreshBytes B w v l):EM EP 1 w v l/\B<=(base v).1:=by
 obtain⟨g,cap,zs,rfl,hB,hl,hc,hz,hr,hb,z,_⟩:=h;refine⟨⟨.inr (.inl ⟨g,0,cap,by rw[An],by rw[An];exact hl⟩),λi cs hi=>?_⟩,hB⟩;rw[AH]at hi;obtain⟨x,Z,rfl⟩:=Bd.1 hi;have O:i<l.length:=(Ao.1 Z).1;refine⟨rfl,λj u J=>?_⟩;have Y:j=0:=by
  have:=(Ao.1 J).1;simp at this;exact this
 subst Y;simp only [List.getElem?_cons_zero,A3.injEq]at J;subst J;have h1:=z i EA;have h2:(Lib.bytesOf (zs.take l.length))[i]?=some x:=by rw[hb];exact Z
 unfold Lib.bytesOf at h2;rw[AH,AV,if_pos O,Av EA]at h2;simp only [Option.map_some,A3.injEq]at h2;have h3:zs.getD i 0=zs[i]'EA:=by rw[BQ,Av EA];rfl
 have h4:=hr (zs[i]'EA) (List.getElem_mem _);have h5:(x.toNat:Int)=zs[i]'EA:=by
  rw[<-h2];have h6:(zs[i]'EA).toNat<256:=by omega
  simp [B8 h6];omega
 rw[h3,<-h5]at h1;simpa [base]using h1
theorem X41 {w:World}{q:Value×EC}(h:EM EP 1 w q.1 q.2):Lib.HoldsBytes w q.1 q.2:=by
 rcases h.sl with⟨e,e2⟩|⟨b,o,c,e,_⟩|⟨e2,a,c,e⟩
 ·exact⟨none,0,by rw[e,e2],λ_=>A5 e2,λa h=>by cases h⟩
 ·refine⟨some ⟨b,o,none⟩,c,e,(λh=>by cases h),λa J i x z=>?_⟩
  cases J
  rw[M9];have:=EM.row8 h;rw[e]at this;exact this i _ (by rw[AH,z];rfl)
 ·exact⟨some a,c,by rw[e,e2],(λh=>by cases h),λa' J i x z=>by rw[A5 e2]at z;simp at z⟩
theorem Xu4 (qs:List (Value×EC)):Lib.lens (qs.map (·.2))=(qs.flatMap (·.2)).length:=by
 unfold Lib.lens
 induction qs with
 | nil=>rfl
 | cons q r ih=>rw[AD,Ab,<-ih];simp
theorem Xu5 (qs:List (Value×EC)):Lib.join (qs.map (·.2)) []=qs.flatMap (·.2):=by
 cases qs with
 | nil=>rfl
 | cons q r=>
  rw[Aq,Lib.join_cons,AD]
  congr 1
  unfold Lib.joinTail
  induction r with
  | nil=>rfl
  | cons a r ih=>simp at ih ⊢;exact ih
theorem X42 (qs:List (Value×EC))(vr:Value)(w:World)(hr:EM (λq:Value×EC=>[q.1]) 1 w vr qs)(hq:∀q∈qs,EM EP 1 w q.1 q.2)(hlen:(qs.flatMap (·.2)).length<=2001000020)(hql:qs.length<=1000000) :
  Calls Tryz.prog 240 [vr,.slice none 0 0].toArray w (ER w (λu w'=>EM EP 1 w' u (qs.flatMap (·.2))/\(qs.flatMap (·.2)≠[]->w.heap.size<=(base u).1))):=by
 have cell:∀b o c,vr=.slice (some ⟨b,o,none⟩) qs.length c->∀(i:Nat) q,qs[i]?=some q->w.cell? ⟨b,o+i,none⟩=some q.1:=by
  intro b o c e i q hi;have:=hr.row hi;rw[e]at this;have h0:=this 0 q.1 rfl;simpa [base]using h0
 have empty:qs.length=0->∀p c,vr=.slice p 0 c->Calls Tryz.prog 240 [vr,.slice none 0 0].toArray w (ER w (λu w'=>EM EP 1 w' u (qs.flatMap (·.2))/\(qs.flatMap (·.2)≠[]->w.heap.size<=(base u).1))):=by
  intro h0 p c e;have hn:qs=[]:=A5 h0;subst hn;subst e;refine(Tryz.bytes_Join_none p c (.slice none 0 0) w).mono ?_;rintro e w' ⟨rfl,rfl⟩;exact⟨_,rfl,EB.alloc _ _,⟨.inr (.inr ⟨rfl,_,_,rfl⟩),λi cs hi=>by simp at hi⟩,λh=>absurd rfl h⟩
 rcases hr.sl with⟨e,h0⟩|⟨b,o,c,e,hc⟩|⟨h0,a,c,e⟩
 ·exact empty h0 _ _ e
 ·rcases Nat.lt_or_ge 1 qs.length with h2|h1
  ·subst e;refine(Tryz.bytes_Join_many b o qs.length c (qs.map (·.1)) (qs.map (·.2)) (.slice none 0 0) [] w EQ h2 ⟨by simp,λi v hi=>?_,λi v l hv hl=>?_⟩ hc ⟨none,0,rfl,λ_=>rfl,λa h=>by cases h⟩ EA (by rw[Xu4,List.length_nil,Nat.zero_mul];omega)).mono ?_
   ·rw[AH]at hi;obtain⟨q,J,rfl⟩:=Bd.1 hi;rw[M9];exact cell b o c rfl i q J
   ·rw[AH]at hv hl;obtain⟨q,J,rfl⟩:=Bd.1 hv;rw[J]at hl
    cases hl
    exact X41 (hq q (Ak J))
   ·rintro e w' ⟨v',rfl,hf,hb⟩;rw[Xu5]at hf;exact⟨_,rfl,EB.of_below hb,(Px hf).1,λ_=>(Px hf).2⟩
  ·rcases Cl qs.length with h0|h0
   ·exact empty h0 _ _ (h0▸e)
   ·obtain⟨q,rfl⟩:∃q,qs=[q]:=List.length_eq_one_iff.1 EA;have z:=cell b o c e 0 q rfl;subst e;have O:=hq q Al;have ha:[q].flatMap (·.2)=q.2:=by simp
    rw[ha]at hlen ⊢
    by_cases hz:q.2=[]
    ·have hv:∃p0 c0,q.1=.slice p0 0 c0:=by
      rcases O.sl with⟨e,_⟩|⟨b',Z,Y,e,_⟩|⟨_,a',Y,e⟩
      ·exact⟨_,_,e⟩
      ·rw[hz]at e;exact⟨_,_,e⟩
      ·exact⟨_,_,e⟩
     obtain⟨p0,c0,e⟩:=hv;refine(Tryz.bytes_Join_one_empty b o c p0 c0 (.slice none 0 0) w (by rw[<-e];exact z)).mono ?_;rintro e w' ⟨rfl,rfl⟩;rw[hz];exact⟨_,rfl,EB.refl _,EM.nil,λh=>absurd rfl h⟩
    ·have hp:=List.length_pos_iff.2 hz;have hv:∃b' Z Y,q.1=.slice (some ⟨b',Z,none⟩) q.2.length Y:=by
      rcases O.sl with⟨_,e⟩|⟨b',Z,Y,e,_⟩|⟨e,_⟩
      ·omega
      ·exact⟨_,_,_,e⟩
      ·omega
     obtain⟨b',Z,Y,e⟩:=hv;refine(Tryz.bytes_Join_one b o c ⟨b',Z,none⟩ Y q.2 (.slice none 0 0) w (by rw[<-e];exact z) (λi x hx=>?_) hp EA).mono ?_
     ·rw[M9];have:=EM.row8 O;rw[e]at this;exact this i _ (by rw[AH,hx];rfl)
     ·rintro e w' ⟨v',rfl,hf,hb⟩;exact⟨_,rfl,EB.of_below hb,(Px hf).1,λ_=>(Px hf).2⟩
 ·exact empty h0 _ _ e
section
variable {P:Program}{E:Fg}{dd:Option Tmp}{ty:TypeId}{pos:String}{af:Array Edge}{g:Option (Nat×Bool)}{x y:Operand}{T U:TypeId}
theorem Ut {n:Nat}(hx:ev E x=I n)(hT:(P.underlying T).isSome=true)(hU:H3 P U=some .u32):PV P ⟨dd,.convert T U x,ty,pos,af,g⟩ E (GM (AQ n)):=by
 have:=JB (P:=P) (d:=dd) (ty:=ty) (pos:=pos) (af:=af) (g:=g) hx hT hU;rwa [KY,show(n:Int) % 4294967296=((AQ n).toNat:Int) by rw[Ea];omega]at this
theorem SC {c:UInt32}(hx:ev E x=GM c)(hT:(P.underlying T).isSome=true)(hU:H3 P U=some .i64):PV P ⟨dd,.convert T U x,ty,pos,af,g⟩ E (I ↑c.toNat):=by
 have:=JB (P:=P) (d:=dd) (ty:=ty) (pos:=pos) (af:=af) (g:=g) hx hT hU;rwa [KT (by have:=c.toNat_lt;unfold ET;omega)]at this
end
def Gt (b:EC):EC×Int×Int:=
 if b.length<8 then([],0,2)else if b.take 8≠Hm (Gh b)then([],0,4)else if 1048576<(Gh b).toNat then([],0,5)else if(b.length:Int)-8-4<(Gh b).toNat then([],0,2)
 else if Gh (b.drop (8+(Gh b).toNat))≠H1 (b.take (8+(Gh b).toNat))then([],0,4)else((b.take (8+(Gh b).toNat)).drop 8,(8+(Gh b).toNat:Nat)+4,0)
def HB (b:EC):EC×Int:=if(Gt b).2.2=0/\(Gt b).2.1≠b.length then([],3)else((Gt b).1,(Gt b).2.2)
theorem Sm (p r:EC)(h:p.length<=1048576):Gt (EI p++r)=(p,((p.length+12:Nat):Int),0):=by
 have hn:(AQ p.length).toNat=p.length:=by rw[Ea];exact B8 EA
 have J:EI p++r=Hm (AQ p.length)++(p++(HR (H1 (Hm (AQ p.length)++p))++r)):=by unfold EI;simp only [AA]
 have Z:Gh (EI p++r)=AQ p.length:=by
  rw[J];unfold Hm;rw[AA];exact UF _ _
 have z:(EI p++r).length=p.length+12+r.length:=by rw[Ab,Jz]
 have O:(EI p++r).take 8=Hm (AQ p.length):=by rw[J,D6 (by rw[Ke];omega),Ax (by rw[Ke];omega)]
 have Y:(EI p++r).take (8+p.length)=Hm (AQ p.length)++p:=by
  rw[J,<-AA,D6 (by rw[Ab,Ke];omega),Ax (by rw[Ab,Ke];omega)]
 have hd:(EI p++r).drop (8+p.length)=HR (H1 (Hm (AQ p.length)++p))++r:=by
  rw[J,<-AA,Eb (by rw[Ab,Ke];omega),BH (by rw[Ab,Ke];omega),AE]
 unfold Gt;rw[Z,hn,z,O,Y,hd,UF,if_neg EA,if_neg (λh=>h rfl),if_neg EA,if_neg EA,if_neg (λh=>h rfl)];rw[Eb (by rw[Ke];omega),BH (by rw[Ke];omega),AE];simp only [Prod.mk.injEq,and_true,true_and];omega
theorem Pz (p:EC)(h:p.length<=1048576):HB (EI p)=(p,0):=by
 have e:=Sm p [] h;rw[List.append_nil]at e;unfold HB;rw[e,if_neg (by simp [Jz])]
theorem X8r {b:EC}(h:b.length<8):Gt b=([],0,2):=by unfold Gt;rw[if_pos h]
theorem X8s {b:EC}(h:¬ b.length<8)(h2:b.take 8≠Hm (Gh b)):Gt b=([],0,4):=by unfold Gt;rw[if_neg h,if_pos h2]
theorem X8t {b:EC}(h:¬ b.length<8)(h2:b.take 8=Hm (Gh b))(h3:1048576<(Gh b).toNat):Gt b=([],0,5):=by unfold Gt;rw[if_neg h,if_neg (λe=>e h2),if_pos h3]
theorem X8u {b:EC}(h:¬ b.length<8)(h2:b.take 8=Hm (Gh b))(h3:¬ 1048576<(Gh b).toNat)(h4:(b.length:Int)-8-4<(Gh b).toNat):Gt b=([],0,2):=by unfold Gt;rw[if_neg h,if_neg (λe=>e h2),if_neg h3,if_pos h4]
theorem X8v {b:EC}(h:¬ b.length<8)(h2:b.take 8=Hm (Gh b))(h3:¬ 1048576<(Gh b).toNat)(h4:¬ (b.length:Int)-8-4<(Gh b).toNat)(h5:Gh (b.drop (8+(Gh b).toNat))≠H1 (b.take (8+(Gh b).toNat))):Gt b=([],0,4):=by unfold Gt;rw[if_neg h,if_neg (λe=>e h2),if_neg h3,if_neg h4,if_pos h5]
theorem X8w {b:EC}(h:¬ b.length<8)(h2:b.take 8=Hm (Gh b))(h3:¬ 1048576<(Gh b).toNat)(h4:¬ (b.length:Int)-8-4<(Gh b).toNat)(h5:Gh (b.drop (8+(Gh b).toNat))=H1 (b.take (8+(Gh b).toNat))) :
 Gt b=((b.take (8+(Gh b).toNat)).drop 8,((8+(Gh b).toNat:Nat):Int)+4,0):=by unfold Gt;rw[if_neg h,if_neg (λe=>e h2),if_neg h3,if_neg h4,if_neg (λe=>e h5)]
theorem Tg {a b:UInt32} : ((a.toNat:Int)≠(b.toNat:Int))↔a≠b:=by
 exact⟨λh e=>h (by rw[e]),λh e=>h (DZ.1 EA)⟩
theorem Xv (p:EC)(vp:Value)(w:World)(hp:EM EP 1 w vp p)(hl:4<=p.length) :
  Calls Tryz.prog 312 [vp].toArray w (Pure w (GM (Gh p))):=by
 refine cw Tryz.func312 ?_;have J:=EB.refl w;obtain⟨b0,b1,b2,b3,r,rfl⟩:∃b0 b1 b2 b3 r,p=b0 :: b1 :: b2 :: b3 :: r:=by
  match p,hl with
  | b0 :: b1 :: b2 :: b3 :: r,_=>exact⟨b0,b1,b2,b3,r,rfl⟩
 refine ws λ_ Z1=>wr (da (de Z1 (ws λ_ Y=>?_)));refine F4 (R:=EB) EB.refl (λ_ _ _=>EB.trans) E9 [2,6,12,18] [(0,.p,false),(1,.p,false),(2,.l,false),(3,.p,false),(4,.p,false),(5,.p,false),(6,.l,false),(7,.p,false),(8,.p,false),(9,.p,false),(10,.p,false),(11,.p,false),(12,.l,false),(13,.p,false),(14,.p,false),(15,.p,false),(16,.p,false),(17,.p,false),(18,.l,false),(19,.p,false),(20,.p,false),(21,.p,false),(22,.p,false)] rfl E9 E9 (λw1 O=>?_);have Z:=EJ O;clear O;have J:=J.trans Z;refine dm ?_;refine di 5 1 hp.sl rfl (hp.lt (i:=0) (x:=b0) rfl) (dL rfl (λ_ z=>(((hp.ext (J.trans z)).row (i:=0) (x:=b0) rfl).at0 rfl)) (dp (Na rfl E9 E9) (dm ?_)));refine di 5 1 hp.sl rfl (hp.lt (i:=1) (x:=b1) rfl) (dL rfl (λ_ z=>(((hp.ext (J.trans z)).row (i:=1) (x:=b1) rfl).at0 rfl)) (dp (Na rfl E9 E9) (dp (OJ (b:=8) EK rfl rfl) (dp (Py rfl rfl) (dm ?_)))));refine di 5 1 hp.sl rfl (hp.lt (i:=2) (x:=b2) rfl) (dL rfl (λ_ z=>(((hp.ext (J.trans z)).row (i:=2) (x:=b2) rfl).at0 rfl)) (dp (Na rfl E9 E9) (dp (OJ (b:=16) EK rfl rfl) (dp (Py rfl rfl) (dm ?_)))));refine di 5 1 hp.sl rfl (hp.lt (i:=3) (x:=b3) rfl) (dL rfl (λ_ z=>(((hp.ext (J.trans z)).row (i:=3) (x:=b3) rfl).at0 rfl)) (dp (Na rfl E9 E9) (dp (OJ (b:=24) EK rfl rfl) (dp (Py rfl rfl) (da (de Y (EH ?_)))))));refine ro ?_;exact⟨rfl,J⟩
theorem Nz (qs:List (Value×EC))(vr:Value)(w:World)(hr:EM (λq:Value×EC=>[q.1]) 1 w vr qs)(hq:∀q∈qs,EM EP 1 w q.1 q.2)(hlen:(qs.flatMap (·.2)).length<=2001000020)(hql:qs.length<=1000000) :
  Calls Tryz.prog 156 [vr].toArray w (ER w (λu w'=>EM EP 1 w' u (qs.flatMap (·.2))/\(qs.flatMap (·.2)≠[]->w.heap.size<=(base u).1))):=by
 refine cw Tryz.func156 ?_;have z:=EB.refl w;refine ws λ_ Z1=>wr (da (de Z1 (ws λ_ Y=>wr (dm ?_))));refine cG (X42 qs vr _ (hr.ext z) (λq h=>(hq q h).ext z) hlen hql) RX.all λu1 w1 Z J=>?_;have O:=z.size;have z:=z.trans Z;refine da (de Y (EH ?_));refine ro ?_;exact⟨_,rfl,z,J.1,λh=>Ae O (J.2 h)⟩
theorem S0 (n:UInt32)(w:World) :
  Calls Tryz.prog 157 [GM n].toArray w (ER w (λu w'=>EM EP 1 w' u (Hm n)/\(Hm n≠[]->w.heap.size<=(base u).1))):=by
 refine cw Tryz.func157 ?_;have J:=EB.refl w;refine ws λ_ Z1=>wr (da (de Z1 (ws λ_ Z2=>wr (dm ?_))));refine cG (Pb _ _) RX.all λu1 w1 x1 hl=>?_;have hsz1:=J.size;have J:=J.trans x1;obtain⟨Y,rfl,hge4,z⟩:=hl;refine dm ?_;refine cG (Pb _ _) RX.all λu2 w2 x2 hj=>?_;have hsz2:=J.size;have z:=z.ext x2;have J:=J.trans x2;obtain⟨hb,rfl,hge6,O⟩:=hj;refine li (e:=82) (sz:=1) (zs:=[.slice none 0 0]) (pv:=[(0,_)]) (cs:=[_]) RX.all (λb1 w3 e1 x3 m1=>?_);have g1:=J.ge e1;have a1_ha4:=EM.base_lt z EK;have z:=z.ext x3;have O:=O.ext x3;have J:=J.trans x3;refine cP (QR (HR n) (Value.slice (some ⟨hb,0,none⟩) 4 4) _ _ (m1.arr (enc:=λx:Value=>[x]) (sz:=1) (l:=[Value.slice (some ⟨hb,0,none⟩) 4 4]) rfl EE rfl EQ) O (by simp [HR])) RX.all λw4 x4=>?_;have z:=z.ext x4;have J:=J.trans x4;refine cG (Pb _ _) RX.all λu5 w5 x5 hf=>?_;have hsz5:=J.size;have z:=z.ext x5;have J:=J.trans x5;obtain⟨Z,rfl,hge9,ha⟩:=hf;refine li (e:=82) (sz:=1) (zs:=[.slice none 0 0]) (pv:=[(0,_),(1,_)]) (cs:=[_,_]) RX.all (λb2 w6 e2 x6 m2=>?_);have g2:=J.ge e2;have a2_ha4:=EM.base_lt z EK;have z:=z.ext x6;have ha:=ha.ext x6;have J:=J.trans x6;refine cG (Nz [(Value.slice (some ⟨Y,0,none⟩) 4 4,HR n),(Value.slice (some ⟨Z,0,none⟩) 4 4,HR (H1 (HR n)))] _ _ (m2.arr (enc:=λq:Value×EC=>[q.1]) (sz:=1) (l:=[(Value.slice (some ⟨Y,0,none⟩) 4 4,HR n),(Value.slice (some ⟨Z,0,none⟩) 4 4,HR (H1 (HR n)))]) rfl EE rfl EQ) (by intro q h;simp only [Aj,Ct,or_false]at h;rcases h with rfl|rfl<;>first|exact z|exact ha) (by simp [HR]) EQ) RX.all λu7 w7 x7 hh=>?_;have hc:=J.size;have J:=J.trans x7;have hJ:=hh;have hg:=hc;refine da (de Z2 (EH ?_));refine ro ?_;have e:BI (λq:Value×EC=>q.2) [(Value.slice (some ⟨Y,0,none⟩) 4 4,HR n),(Value.slice (some ⟨Z,0,none⟩) 4 4,HR (H1 (HR n)))]=Hm n:=by simp [Hm]
 rw[e]at hJ;exact⟨_,rfl,J,hJ.1,λh=>Ae hg (hJ.2 h)⟩
theorem Ybd (p:EC)(vp vr:Value)(w:World)(hr:EM (λx:Value=>[x]) 1 w vr [vp])(hp:EM EP 1 w vp p)(hpl:p.length<=2001000020) :
  Calls Tryz.prog 82 [vr].toArray w (ER w (λu w'=>(1048576<p.length/\u=.tuple #[.slice none 0 0,I 5])\/(p.length<=1048576/\∃v,u=.tuple #[v,I 0]/\EM EP 1 w' v (EI p)/\w.heap.size<=(base v).1))):=by
 refine cw Tryz.func82 ?_;have z:=EB.refl w;refine ws λ_ Z1=>wr (da (da (de Z1 (ws λ_ Z2=>wr (da (de Z2 (ws λ_ Z3=>ws λ_ Z4=>wr (dm ?_))))))));refine dv 82 1 hr.sl (dm (de Z4 (EN ?_)));refine Fk (G:=Nat×Nat) (λ(k,n)=>[(0,vr),(2,.slice none 0 0),(3,I 0),(4,I ↑n),(8,vr),(9,I 1),(10,I ↑k)]) (λ(k,n) w'=>EB w w'/\k<=1/\n=if k=0 then 0 else p.length) (λ(k,n)=>1-k) (0,0) ?_ ?_ ?_
 ·exact FQ
 ·exact⟨z,Ad _,rfl⟩
 intro X1 g1 w1 hw;obtain⟨k,n⟩:=g1;clear z;obtain⟨z,hk1,hn⟩:=hw;refine ws λ_ Z5=>wr (dp (Fa rfl rfl) (de Z5 (ws λ_ Z6=>wi (λc1=>?_) λc1=>?_)))
 ·have hb:[vp][k]?=some vp:=by
   have e:k=0:=by omega
   subst e;rfl
  have hn0:n=0:=by rw[hn,if_pos EA]
  refine EG (Z6 _ _ (ws λ_ Z7=>EN (ws λ_ Z8=>wr (di 82 1 hr.sl rfl (hr.lt hb) (dl rfl (((hr.ext z).row hb).at0 rfl) (da (de Z8 (wr (dm (dm ?_))))))))));refine dv 5 1 (hp.ext z).sl (pa rfl rfl (da (de Z7 (wr ?_))));refine pa rfl rfl (dm (EF (?_)));refine⟨(k+1,n+p.length),FQ,⟨z,by omega,by rw[if_neg EA];omega⟩,by simp only [];omega⟩
 rw[if_neg EA]at hn;subst hn;refine Ff (Z3 _ _ (ws λ_ Z9=>ws λ_ hj=>wr (dm ?_)));refine dp (FY rfl rfl) (de hj (wi (λc2=>?_) λc2=>?_))
 ·refine ws λ_ ht=>wr (da (da (de ht (EH ?_))));refine rt ?_;exact⟨_,rfl,z,.inl ⟨by omega,rfl⟩⟩
 refine EG (Z9 _ _ (ws λ_ hf=>wr (dm ?_)));refine dp (Ut rfl E9 E9) (cG (S0 _ _) RX.all λuh w2 x2 hy=>?_);have hsz2:=z.size;have z:=z.trans x2;have hH:=hy.1;refine dm ?_;refine cG (Nz [(vp,p)] vr _ (hr.ext z) (by intro q h;simp only [Aj,Ct,or_false]at h;rw[h];exact hp.ext z) (by simp;omega) EQ) RX.all λup w3 x3 hz=>?_;have hsz3:=z.size;have hH:=hH.ext x3;have z:=z.trans x3;have hP:=hz.1;rw[show BI (λq:Value×EC=>q.2) [(vp,p)]=p by simp]at hP;refine Ib (e:=82) (sz:=1) (zs:=[.slice none 0 0]) (pv:=[(0,?a17_0),(1,?a17_1)]) (cs:=[?a17_0,?a17_1]) rfl E9 ⟨rfl,rfl⟩ E9 rfl ?h17 ?f17 RX.all (λb1 w4 e1 x4 m1=>?k17)
 case h17=>refine⟨rfl,?_,rfl,?_,trivial⟩<;>(conv=>lhs;whnf)
 case f17=>simp [Hw,Fe,Aw,hH.sl.cells,hP.sl.cells]
 have g1:=z.ge e1;have a1_hH:=EM.base_lt hH EK;have hH:=hH.ext x4;have hP:=hP.ext x4;have z:=z.trans x4;refine cG (Nz [(uh,Hm (AQ p.length)),(up,p)] _ _ (m1.arr (enc:=λq:Value×EC=>[q.1]) (sz:=1) (l:=[(uh,Hm (AQ p.length)),(up,p)]) rfl EE rfl EQ) (by intro q h;simp only [Aj,Ct,or_false]at h;rcases h with rfl|rfl<;>first|exact hH|exact hP) (by simp [Ke];omega) EQ) RX.all λub w5 x5 hc=>?_;have hsz5:=z.size;have z:=z.trans x5;have O:=hc.1;rw[show BI (λq:Value×EC=>q.2) [(uh,Hm (AQ p.length)),(up,p)]=Hm (AQ p.length)++p by simp]at O;refine da (de hf (ws λ_ hh=>wr (dm (dm ?_))));refine Ib (e:=82) (sz:=1) (zs:=[.slice none 0 0]) (pv:=[(0,?a21_0)]) (cs:=[?a21_0]) rfl E9 ⟨rfl,rfl⟩ E9 rfl ?h21 ?f21 RX.all (λb2 w6 e2 x6 m2=>?k21)
 case h21=>refine⟨rfl,?_,trivial⟩<;>(conv=>lhs;whnf)
 case f21=>simp [Hw,Fe,Aw,O.sl.cells]
 have g2:=z.ge e2;have O:=O.ext x6;have z:=z.trans x6;refine cP (QR (Hm (AQ p.length)++p) ub _ _ (m2.arr (enc:=λx:Value=>[x]) (sz:=1) (l:=[ub]) rfl EE rfl EQ) O (by simp [Ke];omega)) RX.all λw7 x7=>?_;have O:=O.ext x7;have z:=z.trans x7;refine cG (Pb _ _) RX.all λu8 w8 x8 hq=>?_;have hsz8:=z.size;have O:=O.ext x8;have z:=z.trans x8;obtain⟨Y,rfl,hge32,J⟩:=hq;refine Ib (e:=82) (sz:=1) (zs:=[.slice none 0 0]) (pv:=[(0,?a22_0),(1,?a22_1)]) (cs:=[?a22_0,?a22_1]) rfl E9 ⟨rfl,rfl⟩ E9 rfl ?h22 ?f22 RX.all (λb3 w9 e3 x9 m3=>?k22)
 case h22=>refine⟨rfl,?_,rfl,?_,trivial⟩<;>(conv=>lhs;whnf)
 case f22=>simp [Hw,Fe,Aw,O.sl.cells,J.sl.cells]
 have g3:=z.ge e3;have O:=O.ext x9;have J:=J.ext x9;have z:=z.trans x9;refine cG (Nz [(ub,Hm (AQ p.length)++p),(Value.slice (some ⟨Y,0,none⟩) 4 4,HR (H1 (Hm (AQ p.length)++p)))] _ _ (m3.arr (enc:=λq:Value×EC=>[q.1]) (sz:=1) (l:=[(ub,Hm (AQ p.length)++p),(Value.slice (some ⟨Y,0,none⟩) 4 4,HR (H1 (Hm (AQ p.length)++p)))]) rfl EE rfl EQ) (by intro q h;simp only [Aj,Ct,or_false]at h;rcases h with rfl|rfl<;>first|exact O|exact J) (by simp [Ke,RF];omega) EQ) RX.all λu10 w10 hl ha=>?_;have Z:=z.size;have z:=z.trans hl;have hJ:=ha;have hg:=Z;refine da (da (de hh (EH ?_)));refine rt ?_;have e:BI (λq:Value×EC=>q.2) [(ub,Hm (AQ p.length)++p),(Value.slice (some ⟨Y,0,none⟩) 4 4,HR (H1 (Hm (AQ p.length)++p)))]=EI p:=by simp [EI]
 rw[e]at hJ;exact⟨_,rfl,z,.inr ⟨by omega,_,rfl,hJ.1,Ae hg (hJ.2 (λh=>by have:=Jz p;rw[h]at this;simp at this))⟩⟩
theorem Oh (p q:EC)(vp vq:Value)(w:World)(hp:EM EP 1 w vp p)(hq:EM EP 1 w vq q) :
  Calls Tryz.prog 122 [vp,vq].toArray w (Pure w (B (decide (p=q)))):=by
 refine cw Tryz.func122 ?_;have z:=EB.refl w;refine ws λ_ O=>wr (da (de O (ws λ_ J=>KR [.p,.l,.p,.l,.p,.p] rfl (dm ?_))));refine dq (L5 E9 E9 ((hp.ext z)) rfl) (dm ?_);refine dq (L5 E9 E9 ((hq.ext z)) rfl) (dp (Mh rfl rfl) (da (de J (EH ?_))));refine ro ?_;exact⟨rfl,z⟩
theorem SB (b:EC)(vb:Value)(w:World)(hb:EM EP 1 w vb b)(hbl:b.length<=2001000020) :
  Calls Tryz.prog 259 [vb].toArray w (ER w (λu w'=>∃v,u=.tuple #[v,I (Gt b).2.1,I (Gt b).2.2]/\Vc.Own EP 1 5 w.heap.size w' v (Gt b).1)):=by
 refine cw Tryz.func259 ?_;have z:=EB.refl w;refine ws λ_ Z1=>wr (da (da (da (de Z1 (ws λ_ Z2=>ws λ_ Z3=>wr (dm ?_))))));refine dv 5 1 (hb.ext z).sl (dp (Fa rfl rfl) (de Z3 (wi (λc1=>?_) λc1=>?_)))
 ·refine ws λ_ Z4=>wr (da (da (da (de Z4 (EH ?_)))));refine MV ?_;rw[X8r EA];exact⟨_,rfl,z,_,rfl,Vc.Own.nil⟩
 have O:¬ b.length<8:=by omega
 refine EG (Z2 _ _ (ws λ_ Z5=>wr (dm ?_)));refine cP (Xv b vb _ (hb.ext z) EA) RX.all λw1 x1=>?_;have z:=z.trans x1;refine da (de Z5 (ws λ_ Z6=>EN (ws λ_ Z7=>?_)));refine F4 (R:=EB) EB.refl (λ_ _ _=>EB.trans) E9 [] [(0,.p,false),(1,.p,false),(2,.p,false),(3,.x,true),(4,.x,true),(5,.p,false),(6,.p,false)] rfl E9 E9 (λw2 Y=>?_);have x2:=EJ Y;clear Y;have z:=z.trans x2;refine dm ?_;refine dp (H8 (e:=5) (k:=1) E9 (hb.ext z).sl rfl rfl rfl (Ad _) (show(8:Nat)<=b.length by omega)) (dm ?_);refine cG (S0 (Gh b) _) RX.all λu3 w3 x3 hp=>?_;have hsz3:=z.size;have z:=z.trans x3;have hH:=hp.1;refine cP (Oh (b.take 8) (Hm (Gh b)) _ _ _ (((by have:=hb.slice (lo:=0) (hi:=8) EA EA;rwa [Ca]at this):EM EP 1 w (Gz 1 vb 0 8) (b.take 8)).ext z) hH) RX.all λw4 x4=>?_;have z:=z.trans x4;refine dn (da (de Z7 ?_));refine wc (λc2=>?_) λc2=>?_
 ·refine ws λ_ Z8=>wr (da (da (da (de Z8 (EH ?_)))));refine MV ?_;rw[X8s O (by simpa using c2)];exact⟨_,rfl,z,_,rfl,Vc.Own.nil⟩
 have h2:b.take 8=Hm (Gh b):=by simpa using c2
 refine ws λ_ Z9=>wr (dm ?_);refine dp (FY rfl rfl) (da (de Z9 ?_));refine wi (λc3=>?_) λc3=>?_
 ·refine ws λ_ hq=>wr (da (da (da (de hq (EH ?_)))));refine MV ?_;rw[X8t O h2 EA];exact⟨_,rfl,z,_,rfl,Vc.Own.nil⟩
 refine ws λ_ hg=>wr (dm ?_);refine dv 5 1 (hb.ext z).sl (ps rfl rfl (ps rfl rfl (dm ?_)));refine dp (SC rfl E9 E9) (dp (Fa rfl rfl) (da (de hg ?_)));refine wi (λc4=>?_) λc4=>?_
 ·refine ws λ_ hc=>wr (da (da (da (de hc (EH ?_)))));refine MV ?_;rw[X8u O h2 EA EA];exact⟨_,rfl,z,_,rfl,Vc.Own.nil⟩
 have hn8:8+(Gh b).toNat+4<=b.length:=by omega
 have Z:EM EP 1 w (Gz 1 vb 0 (8+(Gh b).toNat)) (b.take (8+(Gh b).toNat)):=by
  have:=hb.slice (lo:=0) (hi:=8+(Gh b).toNat) EA EA;rwa [Ca]at this
 have J:(b.take (8+(Gh b).toNat)).length=8+(Gh b).toNat:=by rw[A4];omega
 have hD:EM EP 1 w (Gz 1 vb (b.take (8+(Gh b).toNat)).length b.length) (b.drop (8+(Gh b).toNat)):=by
  rw[J];have:=hb.slice (lo:=8+(Gh b).toNat) (hi:=b.length) EA EA;rwa [AK]at this
 refine EG (Z6 _ _ (ws λ_ hh=>wr (dm (dm ?_))));refine dp (SC rfl E9 E9) (pa rfl rfl (dp (H8 (e:=5) (k:=1) E9 (hb.ext z).sl rfl rfl rfl (Ad _) (show 8+(Gh b).toNat<=b.length by omega)) (da (de hh (ws λ_ hf=>ws λ_ hj=>wr (dm (dm ?_)))))));refine dv 5 1 (Z.ext z).sl (dp (H8 (e:=5) (k:=1) E9 (hb.ext z).sl rfl rfl rfl (show(b.take (8+(Gh b).toNat)).length<=b.length by rw[J];omega) (Aa _)) (cP (Xv (b.drop (8+(Gh b).toNat)) (Gz 1 vb (b.take (8+(Gh b).toNat)).length b.length) _ (hD.ext z) (by rw[Bh];omega)) RX.all λw5 x5=>?_));have z:=z.trans x5;refine dm ?_;refine Ib (e:=82) (sz:=1) (zs:=[.slice none 0 0]) (pv:=[(0,?a34_0)]) (cs:=[?a34_0]) rfl E9 ⟨rfl,rfl⟩ E9 rfl ?h34 ?f34 RX.all (λb1 w6 e1 x6 m1=>?k34)
 case h34=>refine⟨rfl,?_,trivial⟩<;>(conv=>lhs;whnf)
 case f34=>rcases hb.sl with⟨e,_⟩|⟨_,_,_,e,_⟩|⟨_,_,_,e⟩<;>rw[e]<;>rfl
 have g1:=z.ge e1;have z:=z.trans x6;refine cP (QR (b.take (8+(Gh b).toNat)) (Gz 1 vb 0 (8+(Gh b).toNat)) _ _ (m1.arr (enc:=λx:Value=>[x]) (sz:=1) (l:=[Gz 1 vb 0 (8+(Gh b).toNat)]) rfl EE rfl EQ) (Z.ext z) EA) RX.all λw7 x7=>?_;have z:=z.trans x7;refine dp (F8 rfl rfl) (de hj (wi (λc5=>?_) λc5=>?_))
 ·refine ws λ_ hl=>wr (da (da (da (de hl (EH ?_)))));refine MV ?_;rw[X8v O h2 EA EA (Tg.1 c5)];exact⟨_,rfl,z,_,rfl,Vc.Own.nil⟩
 refine EG (hf _ _ (ws λ_ ha=>wr (dm ?_)));refine dp (H8 (e:=5) (k:=1) E9 (Z.ext z).sl rfl rfl rfl (show(8:Nat)<=(b.take (8+(Gh b).toNat)).length by omega) (Aa _)) (cG (Lp _ _ _ ((by have:=Z.slice (lo:=8) (hi:=(b.take (8+(Gh b).toNat)).length) EA EA;rwa [AK]at this:EM EP 1 w (Gz 1 (Gz 1 vb 0 (8+(Gh b).toNat)) 8 (b.take (8+(Gh b).toNat)).length) ((b.take (8+(Gh b).toNat)).drop 8)).ext z) (by rw[Bh];omega)) RX.all λu8 w8 x8 hO=>?_);have hsz8:=z.size;have z:=z.trans x8;refine dm ?_;refine dv 5 1 (Z.ext z).sl (pa rfl rfl (da (da (da (de ha (EH ?_))))));refine MV ?_;rw[X8w O h2 EA EA (AI λh=>c5 (Tg.2 h))];exact⟨_,rfl,z,_,by rw[J],hO.mono EA⟩
theorem SS (b:EC)(vb:Value)(w:World)(hb:EM EP 1 w vb b)(hbl:b.length<=2001000020) :
  Calls Tryz.prog 195 [vb].toArray w (ER w (λu w'=>∃v,u=.tuple #[v,I (HB b).2]/\Vc.Own EP 1 5 w.heap.size w' v (HB b).1)):=by
 refine cw Tryz.func195 ?_;have z:=EB.refl w;refine ws λ_ Z1=>wr (da (da (de Z1 (ws λ_ Z2=>wr (dm ?_)))));refine cG (SB b vb _ (hb.ext z) hbl) RX.all λu1 w1 x1 Y=>?_;have hsz1:=z.size;have z:=z.trans x1;obtain⟨vd,rfl,hO⟩:=Y;refine dm ?_;refine dx rfl rfl (dx rfl rfl (dx rfl rfl (da (da (da (de Z2 (ws λ_ Z=>ws λ_ Z4=>wr (dm ?_))))))));refine dp (G1 rfl rfl) (dm ?_);refine Fz 15 rfl (λJ=>?_) (λJ=>?_)
 ·iterate 2 refine dm ?_
  refine dv 5 1 (hb.ext z).sl (dp (F8 rfl rfl) (EO (de Z4 ?_)));refine wi (λO=>?_) λO=>?_
  ·refine ws λ_ Z5=>wr (da (da (de Z5 (EH ?_))));refine rt ?_;rw[show HB b=([],3) from if_pos ⟨J,O⟩];exact⟨_,rfl,z,_,rfl,Vc.Own.nil⟩
  refine EG (Z _ _ (ws λ_ Z6=>wr (dm (dm (da (da (de Z6 (EH ?_))))))));refine rt ?_;rw[show HB b=((Gt b).1,(Gt b).2.2) from if_neg (λh=>O h.2)];exact⟨_,rfl,z,_,rfl,hO⟩
 refine dk (dk (dk (dk (EO (de Z4 ?_)))));refine GB rfl (EG (Z _ _ (ws λ_ Z7=>wr (dm (dm (da (da (de Z7 (EH ?_)))))))));refine rt ?_;rw[show HB b=((Gt b).1,(Gt b).2.2) from if_neg (λh=>J h.1)];exact⟨_,rfl,z,_,rfl,hO⟩
end Go.Proofs.YtiooodckiddpmaaGreatDoor
namespace Go.Vc
open Go.RowKit
def Kg (r:Option Nat):Fence:={ Fence.wide with round:=r }
def Mz (o:Oper):Bool:=match o.op with
 | .defer ..=>false
 | _=>true
theorem Xm9 {o:Oper}(h:Mz o=true):∀c,o.op≠.defer c:=λc e=>by unfold Mz at h;rw[e]at h;cases h
def Jw (n:Nat):Code->Bool
 | .skip | .exit _ | .ret=>true
 | .region _ ops _=>ops.all (IF n) && ops.all Mz
 | .seq a b=>Jw n a && Jw n b
 | .cond c a b=>M8 n c && Jw n a && Jw n b
 | .block _ c=>Jw n c
 | .loop c=>Jw n c
 | .rangeFunc g ps a b=>M8 n g && ps.all (AR · n) && Jw n a && Jw n b
 | _=>false
def GP (n:Nat)(E:Fg)(ds:List Deferred):Act:=⟨Array.ofFn (n:=n) λi=>E i.val,ds⟩
def HH (ds:List Deferred)(a:Act):Act:={ a with defers:=a.defers++ds }
theorem Xzi (n:Nat)(E:Fg)(ds:List Deferred):HH ds (GN n E)=GP n E ds:=rfl
theorem Nj (ds:List Deferred)(a:Act)(d:Option Tmp)(v:Value):(HH ds a).put d v=HH ds (a.put d v):=by cases d<;>rfl
theorem S6 {n:Nat}{E:Fg}{ds:List Deferred}{x:Operand}(h:M8 n x=true):(GP n E ds).eval x=ev E x:=PK h
abbrev QX := Exit->Fg->List Deferred->World->Prop
def WH (n:Nat)(Q:QX):Exit->Act->World->Prop:=λe a w=>∃E ds,a=GP n E ds/\Q e E ds w
def WX (r:Option Nat)(ds:List Deferred)(P:Program)(n:Nat)(c:Code)(Q:QX)(E:Fg)(w:World):Prop:=
 Jw n c=true->c.wpIn (Kg r) 0 P (WH n Q) (GP n E ds) w
def Qd (K:Fg->List Deferred->World->Prop)(Q:QX):QX
 | .normal,E,ds,w=>K E ds w
 | e,E,ds,w=>Q e E ds w
def Oz (id:Nat)(Q:QX):QX
 | .exit id',E,ds,w=>cond (Bq id' id) (Q .normal E ds w) (Q (.exit id') E ds w)
 | e,E,ds,w=>Q e E ds w
section
variable {r:Option Nat}{ds:List Deferred}{P:Program}{n:Nat}{Q:QX}{E:Fg}{w:World}
theorem Mk {x y:Code}(h:∀K:Fg->List Deferred->World->Prop,(∀E ds w,WX r ds P n y Q E w->K E ds w)->WX r ds P n x (Qd K Q) E w):WX r ds P n (.seq x y) Q E w:=by
 intro ok;simp only [Jw,Au]at ok;refine wpIn_seq (Go.wpIn_mono (h (λE ds w=>WX r ds P n y Q E w) (λ_ _ _ h=>h) ok.1) ?_);intro e a w' O;obtain⟨E',J,rfl,z⟩:=O
 cases e<;>first|exact z ok.2|exact⟨E',J,rfl,z⟩
theorem X80 (h:Q .ret E ds w):WX r ds P n .ret Q E w:=λ_=>wpIn_ret ⟨E,ds,rfl,h⟩
theorem X43 {id:Nat}(h:Q (.exit id) E ds w):WX r ds P n (.exit id) Q E w:=λ_=>wpIn_exit ⟨E,ds,rfl,h⟩
theorem X44 {c:Operand}{x y:Code}{t:Bool}(hc:ev E c=.bool t)(ht:t=true->WX r ds P n x Q E w)(hf:t=false->WX r ds P n y Q E w):WX r ds P n (.cond c x y) Q E w:=by
 intro ok;simp only [Jw,Au]at ok;exact wpIn_cond_split (t:=t) (by rw[S6 ok.1.1];exact hc) (λh=>ht h ok.1.2) (λh=>hf h ok.2)
theorem XJ {id:Nat}{c:Code}(h:WX r ds P n c (Oz id Q) E w):WX r ds P n (.block id c) Q E w:=by
 intro ok;refine wpIn_block (Go.wpIn_mono (h ok) ?_);rintro e a w' ⟨E',d',rfl,hQ⟩
 cases e with
 | exit id'=>
  simp only [Exit.inBlock]
  by_cases hid:id'=id
  ·subst hid;simp only [if_true];refine⟨E',d',rfl,?_⟩;simpa [Oz]using hQ
  ·simp only [hid,if_false];refine⟨E',d',rfl,?_⟩;simpa [Oz,P2 hid]using hQ
 | _=>exact⟨E',d',rfl,hQ⟩
theorem X45 {c:Code}{G:Type}(sl:G->List (Nat×Value))(F:G->World->Prop)(μ:G->Nat)(g0:G)(h0:holds (sl g0) E)(hF0:F g0 w)
  (round:∀(E:Fg) (g:G) (w:World),F g w->WX r ds P n c (Qd (λE' d' w'=>d'=ds/\∃Z,holds (sl Z) E'/\F Z w'/\μ Z<μ g) Q) (Nr (sl g) E) w):WX r ds P n (.loop c) Q E w:=by
 intro ok;have hg:Jw n c=true:=ok
 -- the measure stands in the ghost: one loop rule a ghost at a time,by strong induction over machines
 intro b k cs hj hb hr;have key:∀(m:Nat) (E:Fg) (g:G) (w:World),μ g=m->holds (sl g) E->F g w->
   ∃e a' w',WH n Q e a' w'/\ArrivesIn (Machine.fenced P (Kg r)) P (lone (b.atR (GP n E ds) (.code c :: .inLoop c :: k)) cs w) b k cs e a' w':=by
  intro m
  induction m using Nat.strongRecOn with
  | _ m ih=>
   intro E g w hm hh hF;have ha:=round E g w hF hg;rw[RI hh]at ha;obtain⟨e,a1,Y,⟨E1,d1,rfl,J⟩,z⟩:=ha b (.inLoop c :: k) cs hj hb hr
   cases e with
   | normal=>
    obtain⟨rfl,Z,hf,hc,hp⟩:=J;obtain⟨e2,a2,w2,hl,O⟩:=ih (μ Z) (hm▸hp) E1 Z Y rfl hf hc;exact⟨e2,a2,w2,hl,.of_steps (StepsIn.trans z (.one (fenced_calm hb hr rfl) stepR_inLoop)) O⟩
   | exit id=>exact⟨_,_,Y,⟨E1,d1,rfl,J⟩,.pass (x:=.inLoop c) rfl (λ_ _=>.inl EQ) z⟩
   | goto l=>exact⟨_,_,Y,⟨E1,d1,rfl,J⟩,.pass (x:=.inLoop c) rfl (λ_ _=>.inl EQ) z⟩
   | ret=>exact⟨_,_,Y,⟨E1,d1,rfl,J⟩,.pass (x:=.inLoop c) rfl (λ_ _=>.inl EQ) z⟩
   | panic ch=>exact⟨_,_,Y,⟨E1,d1,rfl,J⟩,.pass (x:=.inLoop c) rfl (λ_ _=>.inl EQ) z⟩
   | outgrown=>exact⟨_,_,Y,⟨E1,d1,rfl,J⟩,.pass (x:=.inLoop c) rfl (λ_ _=>.inl EQ) z⟩
 obtain⟨e,a',w',J,z⟩:=key (μ g0) E g0 w rfl h0 hF0;exact⟨e,a',w',J,.of_steps (.one (fenced_calm hb hr rfl) stepR_loop) z⟩
theorem Xnc {row:String}{args:Array Value}{R:Value->World->Prop}(h:Rows P row args w R):RowsIn (Kg r) 0 P row args w R:=λc cs _=>by
 obtain⟨v,w',z,hs⟩:=h c cs;exact⟨v,w',z,stepsIn_wide.2 hs⟩
theorem Vx {m:Nat}{f:FuncId}{args:Array Value}{R:Ending->World->Prop}(h:Calls P f args w R):CallsIn (Kg r) m P f args w R:=callsIn_wide.2 h
theorem X46 {o:Oper}(hd:Mz o=true){a:Act}{K0 K:Act->World->Prop}{Q0 Q:Exit->Act->World->Prop}(hK:∀a w,K0 a w->K (HH ds a) w)(hQ:∀e a w,e≠.normal->¬ Q0 e a w)
  (h:o.wp P a w K0 Q0):o.wpIn (Kg r) 0 P (HH ds a) w K Q:=by
 have hs:=Xm9 hd;unfold Oper.wp at h;unfold Oper.wpIn;refine⟨λ_ _=>trivial,?_⟩;rw[Oper.semAt_eq _ _ _ hs];have he:(HH ds a).eval=a.eval:=rfl;rw[he]
 generalize hres:(execOp a.eval o).run P w=res at *
 cases res with
 | ok x w'=>
  cases x<;>simp only [Oper.upon,Oper.uponIn]at h ⊢
  case value v=>rw[Nj];exact hK _ _ h
  case skip=>rw[Nj];exact hK _ _ h
  case enter f args=>
   refine⟨λh=>by simp [Kg,Fence.wide]at h,Vx (Calls.mono h λe z he=>?_)⟩
   cases e with
   | returned v=>show K ((HH ds a).put o.dst v) z;rw[Nj];exact hK _ _ he
   | panicked c=>exact(hQ _ _ _ EQ he).elim
   | outgrown=>obtain⟨a',w0,J⟩:=he;exact(hQ _ _ _ EQ J).elim
  case row row args=>
   refine⟨λh=>by simp [Kg,Fence.wide]at h,Xnc (Rows.mono h λv z he=>?_)⟩;rw[Nj];exact hK _ _ he
  case defer d=>
   have e:({ HH ds a with defers:=d :: (HH ds a).defers } : Act)=HH ds { a with defers:=d :: a.defers }:=rfl;rw[e,Nj];exact hK _ _ h
 | halt x w'=>
  cases x<;>simp only [Oper.upon]at h ⊢
  exact(hQ _ _ _ EQ h).elim
theorem Vf {ops:Array Oper}{Q0 Q1:Exit->Act->World->Prop}(hn:∀a w,Q0 .normal a w->Q1 .normal (HH ds a) w)(hQ:∀e a w,e≠.normal->¬ Q0 e a w) :
  ∀(l:List Oper) (a:Act) (w:World),(∀o∈l,Mz o=true)->wpList P ops Q0 l a w->wpListIn (Kg r) 0 P ops Q1 l (HH ds a) w
 | [],a,w,_,h=>hn _ _ h
 | o :: l,a,w,hd,h=>by
  have O:=Vf (ops:=ops) hn hQ l;have z:∀o∈l,Mz o=true:=λo h=>hd o (Am _ h);unfold wpList at h;unfold wpListIn;have Y:(HH ds a).tmps=a.tmps:=rfl;rw[Y];split
  ·rename_i J;rw[if_pos J]at h;rcases h with h|⟨_,a',w0,hf⟩
   ·exact X46 (hd o Al) (λa w h=>O a w z h) hQ h
   ·exact(hQ _ _ _ EQ hf).elim
  ·rename_i J;rw[if_neg J]at h;refine⟨λ_ _=>trivial,?_⟩;rw[Nj];exact O _ _ z h
theorem Ybe {K:Fg->World->Prop} : ∀e a w,e≠.normal->¬ GH n (nf K) e a w:=by
 rintro e a w he ⟨E,rfl,h⟩
 cases e<;>first|exact he rfl|exact h
theorem Nw {id:Nat}{l:List Oper}(fs:List Fl)(hl:Bq l.length fs.length=true)
  (h:Dw P n (l.map (·.dst)) (λa b=>a=b) (ME l fs) (λE w=>Q .normal E ds w) E w):WX r ds P n (.region id l.toArray false) Q E w:=by
 intro ok;simp only [Jw,Au]at ok;refine wpIn_region_list ?_;have h1:wpList P l.toArray (GH n (nf λE w=>Q .normal E ds w)) l (GN n E) w:=
  Xw (K:=λE w=>Q .normal E ds w) ok.1 (λ_ _ h=>h) _ fs E w (Nat.eq_of_beq_eq_true hl) (λo ho=>Cm.1 ok.1 o (by simpa using ho)) (by simpa using h)
 rw[<-Xzi];refine Vf ?_ Ybe l _ _ (λo ho=>Cm.1 ok.2 o (by simpa using ho)) h1;rintro a w ⟨E',rfl,hq⟩;exact⟨E',ds,rfl,hq⟩
def DI (r:Option Nat)(P:Program)(n:Nat)(l:List (Option Tmp)):List (Oper×Fl)->(Fg->World->Prop)->Fg->World->Prop
 | [],K,E,w=>K E w
 | (o,.p) :: rs,K,E,w=>if FB l E o.guard=true then ∃v,PV P o E v/\DI r P n l rs K (Gp E o.dst v) w else DI r P n l rs K (Gp E o.dst undef) w
 | (o,.l) :: rs,K,E,w=>if FB l E o.guard=true then ∃v,LV P o E w v/\DI r P n l rs K (Gp E o.dst v) w else DI r P n l rs K (Gp E o.dst undef) w
 | (o,.x) :: rs,K,E,w=>if FB l E o.guard=true then(IF n o=true->Mz o=true->o.wpIn (Kg r) 0 P (GN n E) w (λa w'=>∃E',a=GN n E'/\DI r P n l rs K E' w') (λ_ _ _=>False))else DI r P n l rs K (Gp E o.dst undef) w
def mki : List Oper->List Fl->List (Oper×Fl)
 | o :: r,f :: fs=>(o,f) :: mki r fs
 | _,_=>[]
def KH (E:Fg):List Tmp->List Value->Fg
 | p :: ps,v :: vs=>KH (FJ E p v) ps vs
 | _,_=>E
theorem TT (ds:List Deferred):∀(ps:List Tmp) (vs:List Value) (E:Fg),ps.length=vs.length->(ps.zip vs).foldl (λt (x:Tmp×Value)=>t.setIfInBounds x.1 x.2) (GP n E ds).tmps=(GP n (KH E ps vs) []).tmps
 | [],[],E,_=>rfl
 | p :: ps,v :: vs,E,h=>by
  have h1:=Iy n E (some p) v;have h2:(GP n E ds).tmps.setIfInBounds p v=(GP n (FJ E p v) ds).tmps:=congrArg Act.tmps h1;rw[List.zip_cons_cons,List.foldl_cons];show List.foldl _ ((GP n E ds).tmps.setIfInBounds p v) _=_;rw[h2];exact TT ds ps vs _ (by simpa using h)
 | [],_ :: _,_,h=>by simp at h
 | _ :: _,[],_,h=>by simp at h
theorem Xs6 (ps:List Tmp)(vs:List Value)(h:ps.length=vs.length):(ps.toArray.zip vs.toArray).foldl (λt (x:Tmp×Value)=>t.setIfInBounds x.1 x.2) (GP n E ds).tmps=(GP n (KH E ps vs) []).tmps:=by
 rw[<-Array.foldl_toList,Array.toList_zip];exact TT ds ps vs E h
theorem Xzk {g:Operand}{ps:List Tmp}{assign body:Code}{gf N:Nat}{lb:Array Value}{args:Nat->List Value}
  (hg:ev E g=.func (.func gf) #[] lb) (hf:GL P gf=true) (hlen:∀k,ps.length=(args k).length)
  (I:Nat->World->Prop) (A:Nat->Fg->World->Prop) (h0:I 0 w)
  (hX:∀k W W',I k W->EB W W'->I k W')
  (hL:∀k W l o o',I k W->w.heap.size<=l->W.heap[l]?=some o->o.isCells=false->I k (W.putObj l o'))
  (hAL:∀k E1 W l o o',A k E1 W->w.heap.size<=l->W.heap[l]?=some o->o.isCells=false->A k E1 (W.putObj l o'))
  (hit:∀l (J:Nat->World->Prop),(∀k W,J k W->I k W)->(∀k W W',J k W->EB W W'->J k W')->
   (∀k W,J k W->k<N->YieldAt Fence.wide 0 P l (args k).toArray W λe W'=>e=.returned (.bool true)/\J (k+1) W')->
   ∀W,J 0 W->Calls P gf (#[.func (.yield l) #[] #[]]++lb) W λe W'=>(∃v,e=.returned v)/\J N W')
  (hassign:∀k l W,k<N->I k W->WX (some l) [] P n assign (λe E1 d1 W1=>e=.normal/\d1=[]/\EB W W1/\A k E1 W1) (KH E ps (args k)) W)
  (hbody:∀k l E1 W (keep:Nat->Prop),k<N->A k E1 W->(∀j,keep j->w.heap.size<=j/\∃o,W.heap[j]?=some o/\o.isCells=false)->
   WX (some l) [] P n body (λe _ d1 W'=>e=.normal/\I (k+1) W'/\∀j,keep j->W'.heap[j]?=W.heap[j]?) E1 W)
  (h:∀D W,w.heap.size<=D->I N W->W.heap[D]?=some (.deferred (some []))->Q .normal E ({ target:=.collected D,args:=#[] } :: ds) W) :
  WX none ds P n (.rangeFunc g ps.toArray assign body) Q E w:=by
 intro ok;simp only [Jw,Au]at ok;obtain⟨⟨⟨okg,_⟩,oka⟩,okb⟩:=ok;have hgE:(GP n E ds).eval g=.func (.func gf) #[] lb:=by rw[S6 okg];exact hg
 unfold GL at hf;have eg:∀args w,(callFunc gf args).run P w=.ok (.enter gf args) w:=by
  cases hp:P.funcs[gf]? with
  | none=>rw[hp]at hf;simp at hf
  | some fn=>
   rw[hp]at hf;simp only [Au,BO]at hf;obtain⟨h1,h2⟩:=hf;have h3:fn.body≠none:=by cases hb:fn.body<;>simp [hb]at h2 ⊢
   have h1' : fn.name ≠ "runtime.NumGoroutine" := by simpa using h1
   intro args w;simp [callFunc,program,Sem.run,hp,h1',h3]
 refine wpIn_rangeFunc (F:=Kg none) ?_;intro fn hfn;rw[show(Kg none).round=none from rfl];obtain⟨rec,hrec⟩:∃rec:LoopState->Option Code->Loop,rec=λst pe=>{ state:=st,pending:=pe,fn,tmps:=(GP n E ds).tmps,params:=ps.toArray,assign,body,defers:=w.heap.size }:=⟨_,rfl⟩;obtain⟨W1,hW1⟩:∃W1,(w.alloc (.deferred (some []))).alloc (.loop (rec .ready none))=W1:=⟨_,rfl⟩;have hL1:W1.heap[w.heap.size+1]?=some (.loop (rec .ready none)):=by
  rw[<-hW1];have:=World.alloc_heap_new (w.alloc (.deferred (some []))) (.loop (rec .ready none));rwa [World.size_alloc]at this
 have hK1:W1.heap[w.heap.size]?=some (.deferred (some [])):=by
  rw[<-hW1];exact(Below.heap_alloc _ _ _ EQ).trans (World.alloc_heap_new w _)
 have hx1:EB w W1:=by rw[<-hW1];exact(EB.alloc _ _).trans (EB.alloc _ _)
 have hI1:I 0 W1:=hX _ _ _ h0 hx1;refine⟨w.heap.size+1,[{ target:=.collected w.heap.size,args:=#[] }],W1,{ target:=.fn (.func gf) lb,args:=#[.func (.yield (w.heap.size+1)) #[] #[]] },W1,gf,
  #[.func (.yield (w.heap.size+1)) #[] #[]]++lb,W1,?_,?_,λ_ _=>trivial,?_,λh=>by simp [Kg,Fence.wide]at h,?_⟩
 ·rw[<-hW1,hrec];exact run_enterLoop_outer _ _ _ _ _
 ·simp only [resolve,hgE];simp [go_sem]
 ·simp [invoke,go_sem,eg]
 ·refine Vx ((hit (w.heap.size+1) (λk W=>I k W/\W.heap[w.heap.size+1]?=some (.loop (rec .ready none))/\W.heap[w.heap.size]?=some (.deferred (some []))) (λ_ _ h=>h.1) ?_ ?_ W1 ⟨hI1,hL1,hK1⟩).mono ?_)
  ·rintro k W W' ⟨hi,hl,hk⟩ hx;have h1:=(BF.1 hl).1;have h2:=(BF.1 hk).1;exact⟨hX _ _ _ hi hx,by rw[hx.block _ h1 (λh=>h)];exact hl,by rw[hx.block _ h2 (λh=>h)];exact hk⟩
  ·rintro k W ⟨hi,hl,hk⟩ hkN;have hy:=run_yield (P:=P) (args:=(args k).toArray) hl (by rw[hrec];simp [hlen k]);rw[hrec]at hy;refine⟨fn,_,assign,body,hy,roundIn_of_wpIn (F:=Fence.wide) trivial ?_⟩;have e1:=Xs6 (n:=n) (E:=E) (ds:=ds) ps (args k) (hlen k);have ha:=hassign k (w.heap.size+1) W hkN hi oka;have e2:({ tmps:=(ps.toArray.zip (args k).toArray).foldl (λtmps (x:Tmp×Value)=>tmps.setIfInBounds x.1 x.2) (GP n E ds).tmps,defers:=[] } : Act)=GP n (KH E ps (args k)) []:=by rw[e1];rfl
   rw[e2];refine Go.wpIn_mono ha ?_;rintro e a W2 ⟨E1,d1,rfl,rfl,rfl,hx,hA⟩;have hlt1:=(BF.1 hl).1;have hlt2:=(BF.1 hk).1;have hl2:W2.heap[w.heap.size+1]?=some (.loop (rec .ready none)):=by rw[hx.block _ hlt1 (λh=>h)];exact hl
   have hk2:W2.heap[w.heap.size]?=some (.deferred (some [])):=by rw[hx.block _ hlt2 (λh=>h)];exact hk
   have hlt:w.heap.size+1<W2.heap.size:=(BF.1 hl2).1;refine⟨_,run_beginRound hl2 (by rw[hrec]),?_⟩;have hl3:(W2.putObj (w.heap.size+1) (.loop { rec .ready none with state:=.busy })).heap[w.heap.size+1]?=some (.loop { rec .ready none with state:=.busy }):=World.putObj_heap_same hlt;have hk3:(W2.putObj (w.heap.size+1) (.loop { rec .ready none with state:=.busy })).heap[w.heap.size]?=some (.deferred (some [])):=(World.putObj_heap_other EA).trans hk2;have hA3:=hAL _ _ _ _ _ (.loop { rec .ready none with state:=.busy }) hA EA hl2 rfl;have hb:=hbody k (w.heap.size+1) E1 _ (λj=>j=w.heap.size+1\/j=w.heap.size) hkN hA3 (by
    rintro j (rfl|rfl)
    ·exact⟨by omega,_,hl3,rfl⟩
    ·exact⟨by omega,_,hk3,rfl⟩) okb
   refine Go.wpIn_mono hb ?_;rintro e a3 W3 ⟨E3,d3,rfl,rfl,hI3,hkeep⟩;have hl4:=(hkeep _ (.inl rfl)).trans hl3;have hk4:=(hkeep _ (.inr rfl)).trans hk3;have hr:=run_endRound (P:=P) none hl4;refine⟨_,_,hr,rfl,hL _ _ _ _ _ hI3 EA hl4 rfl,?_,(World.putObj_heap_other EA).trans hk4⟩;rw[World.putObj_heap_same (BF.1 hl4).1,hrec];rfl
  ·rintro e W2 ⟨⟨v,rfl⟩,hi,hl,hk⟩;refine⟨none,_,by have:=run_endLoop (P:=P) hl (by rw[hrec];simp);rw[hrec]at this;exact this,E,_,rfl,?_⟩;exact h _ _ (Aa _) (hL _ _ _ _ _ hi EA hl rfl) ((World.putObj_heap_other EA).trans hk)
def Mo (P:Program)(fn:Func)(n:Nat)(R:Ending->World->Prop):QX
 | .normal,E,ds,w | .ret,E,ds,w=>LeavesInM Fence.wide 0 P fn (GN n E).tmps R ds .returning w
 | _,_,_,_=>False
theorem Xu7 {fn:Func}{R:Ending->World->Prop}(h:Jr P fn n R .ret E w):Mo P fn n R .normal E [] w:=h
theorem Xu8 {fn:Func}{R:Ending->World->Prop}{D:Nat}(hD:w.heap[D]?=some (.deferred (some [])))(h:Jr P fn n R .ret E (w.putObj D (.deferred none))):Mo P fn n R .ret E [{ target:=.collected D,args:=#[] }] w:=
 ⟨by simp,.inl ⟨D,_,rfl,run_takeDeferred hD,h⟩⟩
theorem TO {f:FuncId}{fn:Func}{c:Code}{az:List Value}{R:Ending->World->Prop}
  (hf:P.funcs[f]?=some fn) (hb:fn.body=some c) (hn:fn.ntmps=n) (hle:Nat.ble az.length n=true) (ok:Jw n c=true)
  (h:WX none [] P n c (Mo P fn n R) (KU az 0 (λ_=>undef)) w):Calls P f az.toArray w R:=by
 have hle':az.length<=n:=by simpa [Nat.ble_eq]using hle
 refine callsIn_wide.1 (callsIn_of_wp_marks (F:=Fence.wide) (n:=0) hf hb trivial ?_);have z:({ tmps:=az.toArray++Array.replicate (fn.ntmps-az.toArray.size) undef,defers:=[] } : Act)=GP n (KU az 0 (λ_=>undef)) []:=by
  simp only [GP,hn]
  congr 1
  apply Array.ext
  ·simp;omega
  ·intro i h1 h2;simp only [Array.getElem_ofFn,TZ,Ad,if_true,Nat.sub_zero];rw[Array.getElem_append]
   by_cases hi:i<az.length
   ·simp [hi]
   ·simp [hi]
 rw[z];refine Go.wpIn_mono (h ok) ?_;rintro e a w' ⟨E,d,rfl,hQ⟩
 cases e with
 | normal=>exact hQ
 | ret=>exact hQ
 | _=>exact hQ.elim
theorem Yce {c:Operand}{x y:Code}(hc:ev E c=.bool false)(h:WX r ds P n y Q E w):WX r ds P n (.cond c x y) Q E w:=X44 hc (λh=>by cases h) (λ_=>h)
theorem NR {d:Option Tmp}{ty:TypeId}{pos:String}{af:Array Edge}{g:Option (Nat×Bool)}{f:Nat}{cs:List Operand}{vs:List Value}(hc:cs.map (ev E)=vs):PV P ⟨d,.makeFunc (.func f) #[] cs.toArray,ty,pos,af,g⟩ E (.func (.func f) #[] vs.toArray):=λw=>by
 subst hc;simp [execOp,Instr.makeFunc]
theorem Mod.putObj (W:World)(l:Nat)(o:Obj):Mod (ES l) W (W.putObj l o):=⟨rfl,rfl,rfl,by simp,λk _ hk=>World.putObj_heap_other hk⟩
theorem EL.cells {W:World}{b T:Nat}{cs:List Value}(h:EL W b cs T):∃o:Obj,W.heap[b]?=some o/\o.isCells=true:=⟨_,h,rfl⟩
theorem Xzl {W:World}{l b:Nat}{o:Obj}(hl:W.heap[l]?=some o)(ho:o.isCells=false)(h:∃o:Obj,W.heap[b]?=some o/\o.isCells=true):b≠l:=λe=>by
 obtain⟨o',h1,h2⟩:=h;subst e;rw[hl]at h1;cases h1;rw[ho]at h2;cases h2
theorem EL.put {W:World}{b T l:Nat}{cs:List Value}{o:Obj}(h:EL W b cs T)(o':Obj)(hl:W.heap[l]?=some o)(ho:o.isCells=false):EL (W.putObj l o') b cs T:=h.mod (Mod.putObj W l o') (Xzl hl ho h.cells)
def Keeps (keep:Nat->Prop)(W0 W:World):Prop:=∀j,keep j->W.heap[j]?=W0.heap[j]?/\∃o,W.heap[j]?=some o/\o.isCells=false
section
variable {d:Option Tmp}{ty:TypeId}{pos:String}{af:Array Edge}{g:Option (Nat×Bool)}
end
end
@[reducible] def I1 (f:Nat) (cs:List Value):Value:=.func (.func f) #[] cs.toArray
section
variable {P:Program}{n:Nat}{ds:List (Option Tmp)}{R:World->World->Prop}{r:List (Oper×Fl×Bool)}{K:Fg->World->Prop}{E:Fg}{w:World}
variable {d:Nat}{op:Op}{ty:TypeId}{pos:String}{af:Array Edge}{g:Option (Nat×Bool)}{anc:Bool}{v:Value}
theorem WS {f t:Nat}{az:List Operand}{ats:Array TypeId}{vs cs:List Value}{R1:Ending->World->Prop}(hg:FB ds E g=true)(hv:E t=I1 f cs)(hf:GL P f=true)(ha:az.map (ev E)=vs)(hc:Calls P f (vs++cs).toArray w R1)
  (h:∀e w1,R1 e w1->∃v,e=.returned v/\(anc=false->R w w1)/\Dw P n ds R r K (FJ E d v) w1) :
  Dw P n ds R ((⟨some d,.call { callee:=.value (.tmp t),args:=az.toArray,argTypes:=ats },ty,pos,af,g⟩,.x,anc) :: r) K E w:=by
 refine MX hg λok=>?_;unfold GL at hf
 cases hp:P.funcs[f]? with
 | none=>rw[hp]at hf;simp at hf
 | some fn=>
  rw[hp]at hf;simp only [Au,BO]at hf;obtain⟨h1,h2⟩:=hf;have h3:fn.body≠none:=by cases hb:fn.body<;>simp [hb]at h2 ⊢
  have h1' : fn.name ≠ "runtime.NumGoroutine" := by simpa using h1
  have hr:(execOp (ev E) ⟨some d,.call { callee:=.value (.tmp t),args:=az.toArray,argTypes:=ats },ty,pos,af,g⟩).run P w=.ok (.enter f (vs++cs).toArray) w:=by
   simp [execOp,resolve,ev,hv,Deferred.ofValue,invoke,callFunc,program,Sem.run,hp,h1',h3,ha]
  unfold Oper.wp;rw[LK ok,hr];simp only [Oper.upon];refine Calls.mono hc λe w1 h1=>?_;obtain⟨v,rfl,hR,hd⟩:=h e w1 h1;exact⟨_,Iy _ _ _ _,hR,hd⟩
theorem Xzm {S:Nat->Prop}{f t:Nat}{az:List Operand}{ats:Array TypeId}{vs cs:List Value}{F:Value->World->Prop}(hg:FB ds E g=true)(hv:E t=I1 f cs)(hf:GL P f=true)(hc:Calls P f (vs++cs).toArray w (Fh S w F))(ha:az.map (ev E)=vs)
  (hR:anc=true\/∀w',Mod S w w'->R w w') (h:∀v z,Mod S w z->F v z->Dw P n ds R r K (FJ E d v) z) :
  Dw P n ds R ((⟨some d,.call { callee:=.value (.tmp t),args:=az.toArray,argTypes:=ats },ty,pos,af,g⟩,.x,anc) :: r) K E w:=
 WS hg hv hf ha hc λe z ⟨v,he,hx,hF⟩=>⟨v,he,λe=>hR.elim (λh=>by rw[h]at e;cases e) (λh=>h _ hx),h v z hx hF⟩
theorem P6 {f t:Nat}{az:List Operand}{ats:Array TypeId}{vs cs:List Value}(hg:FB ds E g=true)(hv:E t=I1 f cs)(hf:GL P f=true)(hc:Calls P f (vs++cs).toArray w (Pure w v))(ha:az.map (ev E)=vs)(hR:RX R anc)
  (h:∀z,EB w z->Dw P n ds R r K (FJ E d v) z) :
  Dw P n ds R ((⟨some d,.call { callee:=.value (.tmp t),args:=az.toArray,argTypes:=ats },ty,pos,af,g⟩,.x,anc) :: r) K E w:=
 WS hg hv hf ha hc λe z ⟨he,hx⟩=>⟨v,he,hR.use hx,h z hx⟩
end
end Go.Vc
namespace Go.Vc
open Go.RowKit Go.Maps
def pO : Option Nat->Value
 | none=>.pointer none
 | some b=>ED b 0
theorem QP : ∀a b,pO a=pO b->a=b
 | none,none,_=>rfl
 | none,some _,h=>by simp [pO]at h
 | some _,none,h=>by simp [pO]at h
 | some a,some b,h=>by
  have:a=b:=by simpa [pO]using h
  rw[this]
def AnyK (P:Program)(k:TypeId):Type:={v:Value // ∃l,keyOf P k v=some l}
theorem Ycf {P:Program}{k:TypeId}(hl:laidOutB P=true)(hrow:AR k P.types.size=true)(hka:P.keyTypeAt 2 k=true)(hwide:(match P.underlying k with|some (.array _ _)|some (.struct _)=>true|_=>false)=true):Keyed P k:=
 Keyed.of_law (deep_law_laid hl (m:=2) EA (by simpa [Br]using hrow) hka hwide)
def FL (w:World)(b:Nat):Prop:=w.heap[b]?=some (.map #[] 0)
theorem FL.lt {w:World}{b:Nat}(h:FL w b):b<w.heap.size:=(BF.1 h).1
theorem FL.mod {S:Nat->Prop}{w w':World}{b:Nat}(h:FL w b)(x:Mod S w w')(hS:¬ S b):FL w' b:=(x.block b h.lt hS).trans h
theorem FL.ext {w w':World}{b:Nat}(h:FL w b)(x:EB w w'):FL w' b:=h.mod x (λh=>h)
theorem FL.at {P:Program}{κ α:Type}{k:TypeId}{kv:κ->Value}{av:α->Value}{w:World}{b:Nat}(h:FL w b):Xbn P k kv av w b 0 (λ_=>none):=
 ⟨.map [],⟨#[],0,h,⟨by simp,MapKept.stamped_empty 0,by simp⟩,Aa _,rfl⟩,λx l hl z=>rfl⟩
def Hu (w:World)(v:Value):Prop:=v=.map none\/∃b,v=.map (some b)/\FL w b
theorem Hu.ext {w w':World}{v:Value}(h:Hu w v)(x:EB w w'):Hu w' v:=h.imp id λ⟨b,e,hb⟩=>⟨b,e,hb.ext x⟩
theorem FL.val {w:World}{b:Nat}(h:FL w b):Hu w (.map (some b)):=.inr ⟨b,rfl,h⟩
theorem Hu.lt {w:World}{v:Value}(h:Hu w v){b:Nat}(e:v=.map (some b)):b<w.heap.size:=by
 rcases h with rfl|⟨b2,rfl,h⟩
 ·cases e
 ·cases e;exact h.lt
theorem Xvb {w:World}{v:Value}(h:Hu w v):v.cells=⟨[v]⟩:=by
 rcases h with rfl|⟨b,rfl,_⟩<;>rfl
def Pi (w:World)(r:Nat):Prop:=∃m c a,w.heap[r]?=some (.mapIter m c #[] a)/\(m=none\/∃b,m=some b/\FL w b)
@[reducible] def G6 (f:Nat) (bs:List Value):Value:=.func (.func f) bs.toArray #[]
section
variable {P:Program}{n:Nat}{ds:List (Option Tmp)}{R:World->World->Prop}{r:List (Oper×Fl×Bool)}{K:Fg->World->Prop}{E:Fg}{w:World}
variable {d:Nat}{op:Op}{ty:TypeId}{pos:String}{af:Array Edge}{g:Option (Nat×Bool)}{anc:Bool}{v:Value}
theorem Mv {dd:Option Tmp}{f:Nat}{bs:List Operand}{vs:List Value}(hc:bs.map (ev E)=vs):PV P ⟨dd,.makeFunc (.func f) bs.toArray #[],ty,pos,af,g⟩ E (.func (.func f) vs.toArray #[]):=λw=>by
 simp [execOp,hc];rfl
theorem Xzo {dd:Option Tmp}{x y:Operand}{T:TypeId}{a:EC}{c:UInt8}(hT:JJ P T=true)(hx:ev E x=S a)(hy:ev E y=.int .u8 0)(hi:a[0]?=some c):PV P ⟨dd,.index T x y,ty,pos,af,g⟩ E (.int .u8 c.toNat):=λw=>by
 have J:P.underlying T=some .string:=by
  unfold JJ at hT;split at hT<;>first|assumption|cases hT
 have e:(⟨⟨a⟩⟩:ByteArray)[(0:Int).toNat]?=some c:=by
  have z:0<a.length:=(Ao.1 hi).1;show(⟨⟨a⟩⟩:ByteArray)[0]?=some c;rw[getElem?_pos _ 0 z];exact hi▸(by rw[Av z];rfl)
 have e2:(⟨⟨a⟩⟩:ByteArray)[0]?=some c:=by simpa using e
 simp [execOp,Instr.index,asIntOf,hx,hy,underlying,J,e2]
theorem Uv {dd:Option Tmp}{x:Operand}{T e k:Nat}(hT:IK P T=some (e,k))(hx:ev E x=.slice none 0 0):PV P ⟨dd,.call { callee:=.builtin .cap,args:=#[x],argTypes:=#[T] },ty,pos,af,g⟩ E (I 0):=λw=>by
 obtain⟨hu,_⟩:=Kf hT;simp [execOp,resolve,invoke,builtin,Builtin.cap_,underlying,hu,hx,goInt]
theorem Q3 {f t:Nat}{az:List Operand}{ats:Array TypeId}{vs bs:List Value}{R1:Ending->World->Prop}(hg:FB ds E g=true)(hv:E t=G6 f bs)(hf:GL P f=true)(ha:az.map (ev E)=vs)(hc:Calls P f (bs++vs).toArray w R1)
  (h:∀e w1,R1 e w1->∃v,e=.returned v/\(anc=false->R w w1)/\Dw P n ds R r K (FJ E d v) w1) :
  Dw P n ds R ((⟨some d,.call { callee:=.value (.tmp t),args:=az.toArray,argTypes:=ats },ty,pos,af,g⟩,.x,anc) :: r) K E w:=by
 refine MX hg λok=>?_;unfold GL at hf
 cases hp:P.funcs[f]? with
 | none=>rw[hp]at hf;simp at hf
 | some fn=>
  rw[hp]at hf;simp only [Au,BO]at hf;obtain⟨h1,h2⟩:=hf;have h3:fn.body≠none:=by cases hb:fn.body<;>simp [hb]at h2 ⊢
  have h1' : fn.name ≠ "runtime.NumGoroutine" := by simpa using h1
  have hr:(execOp (ev E) ⟨some d,.call { callee:=.value (.tmp t),args:=az.toArray,argTypes:=ats },ty,pos,af,g⟩).run P w=.ok (.enter f (bs++vs).toArray) w:=by
   simp [execOp,resolve,ev,hv,Deferred.ofValue,invoke,callFunc,program,Sem.run,hp,h1',h3,ha]
  unfold Oper.wp;rw[LK ok,hr];simp only [Oper.upon];refine Calls.mono hc λe w1 h1=>?_;obtain⟨v,rfl,hR,hd⟩:=h e w1 h1;exact⟨_,Iy _ _ _ _,hR,hd⟩
theorem Xzp {f t:Nat}{az:List Operand}{ats:Array TypeId}{vs bs:List Value}(hg:FB ds E g=true)(hv:E t=G6 f bs)(hf:GL P f=true)(hc:Calls P f (bs++vs).toArray w (Pure w v))(ha:az.map (ev E)=vs)(hR:RX R anc)
  (h:∀z,EB w z->Dw P n ds R r K (FJ E d v) z) :
  Dw P n ds R ((⟨some d,.call { callee:=.value (.tmp t),args:=az.toArray,argTypes:=ats },ty,pos,af,g⟩,.x,anc) :: r) K E w:=
 Q3 hg hv hf ha hc λe z ⟨he,hx⟩=>⟨v,he,hR.use hx,h z hx⟩
theorem TR {t:TypeId}(hg:FB ds E g=true)(hR:RX R anc)
  (h:∀b w1,b=w.heap.size->EB w w1->FL w1 b->Dw P n ds R r K (FJ E d (.map (some b))) w1):Dw P n ds R ((⟨some d,.makeMap t none,ty,pos,af,g⟩,.x,anc) :: r) K E w:=by
 refine HL (v:=.map (some w.heap.size)) (w':=w.alloc (.map #[] 0)) hg ?_ (hR.use (EB.alloc _ _)) (h _ _ rfl (EB.alloc _ _) (World.alloc_heap_new w _));have e1:(Instr.makeMap t none).run P w=.ok (.map (some w.heap.size)) (w.alloc (.map #[] 0)):=run_makeMap t w;simp [execOp,e1]
def T4 (P:Program)(t:TypeId):Bool:=match P.underlying t with
 | some (.map _ _)=>true
 | _=>false
theorem Xzq {t:TypeId}{m:Operand}{mv:Value}(hb:T4 P t=true)(hg:FB ds E g=true)(hm:ev E m=mv)(hv:Hu w mv)(hR:RX R anc)
  (h:∀q w1,q=w.heap.size->EB w w1->Pi w1 q->Dw P n ds R r K (FJ E d (ED q 0)) w1) :
  Dw P n ds R ((⟨some d,.range t m,ty,pos,af,g⟩,.x,anc) :: r) K E w:=by
 obtain⟨k,e,hu⟩:∃k e,P.underlying t=some (.map k e):=by
  unfold T4 at hb;split at hb
  ·exact⟨_,_,by assumption⟩
  ·cases hb
 rcases hv with rfl|⟨b,rfl,hb⟩
 ·refine HL (w':=w.alloc (.mapIter none 0 #[] 0)) (v:=ED w.heap.size 0) hg ?_ (hR.use (EB.alloc _ _)) (h _ _ rfl (EB.alloc _ _) ⟨none,0,0,World.alloc_heap_new w _,.inl rfl⟩);simp [execOp,hm,run_range_nilMap w t k e hu]
 ·refine HL (w':=w.alloc (.mapIter (some b) 0 #[] 0)) (v:=ED w.heap.size 0) hg ?_ (hR.use (EB.alloc _ _)) (h _ _ rfl (EB.alloc _ _) ⟨some b,0,0,World.alloc_heap_new w _,.inr ⟨b,rfl,hb.ext (EB.alloc _ _)⟩⟩);simp [execOp,hm,run_range_map w t k e b #[] 0 hu hb]
theorem Xvd {q:Nat}(hi:Pi w q):(Instr.next (ED q 0) false ty).run P w=.ok (.tuple #[.bool false]) w:=by
 obtain⟨m,c,a,h1,h2⟩:=hi;rcases h2 with rfl|⟨b,rfl,hb⟩
 ·simp only [Instr.next,getObj,Sem.run_bind,Sem.run,h1,Result.andThen];rfl
 ·unfold FL at hb;simp [Instr.next,getObj,Sem.run_bind,Sem.run,h1,hb,Result.andThen,choose,Question.forced]
theorem X47 {it:Operand}{q:Nat}(hg:FB ds E g=true)(hit:ev E it=ED q 0)(hi:Pi w q)(hR:RX R anc)(h:Dw P n ds R r K (FJ E d (.tuple #[.bool false])) w) :
  Dw P n ds R ((⟨some d,.next it false,ty,pos,af,g⟩,.x,anc) :: r) K E w:=by
 refine HL (w':=w) (v:=.tuple #[.bool false]) hg ?_ (hR.use (EB.refl _)) h;simp [execOp,hit,Xvd hi]
end
end Go.Vc
namespace Go.Vc
open Go.RowKit
section
variable {κ α β:Type}[DecidableEq κ]
def lk (l:List (κ×α))(x:κ):Option α:=(l.find? λp=>decide (p.1=x)).map (·.2)
def EX (l:List (κ×α))(x:κ)(a:α):List (κ×α):=if(lk l x).isSome then l.map (λp=>if p.1=x then(x,a)else p)else l++[(x,a)]
def FO (l:List (κ×α))(x:κ):List (κ×α):=l.filter λp=>decide (p.1≠x)
theorem MC (x:κ):lk ([]:List (κ×α)) x=none:=rfl
theorem Jb (p:κ×α)(l:List (κ×α))(x:κ):lk (p :: l) x=if p.1=x then some p.2 else lk l x:=by
 unfold lk
 by_cases h:p.1=x
 ·simp [h]
 ·simp [h]
theorem L8 {l:List (κ×α)}{x:κ} : lk l x=none↔x∉l.map (·.1):=by
 induction l with
 | nil=>simp [MC]
 | cons p l ih=>
  rw[Jb]
  by_cases h:p.1=x
  ·simp [h]
  ·rw[if_neg h,ih];have h2:¬ x=p.1:=λe=>h e.symm;simp [h2]
theorem Ox {l:List (κ×α)}{x:κ}{a:α}(h:lk l x=some a):(x,a)∈l:=by
 induction l with
 | nil=>cases h
 | cons p l ih=>
  rw[Jb]at h
  by_cases e:p.1=x
  ·rw[if_pos e]at h;cases h;subst e;exact Al
  ·rw[if_neg e]at h;exact Am _ (ih h)
theorem X81 {l:List (κ×α)}{x:κ}{a:α}(hn:(l.map (·.1)).Nodup)(h:(x,a)∈l):lk l x=some a:=by
 induction l with
 | nil=>cases h
 | cons p l ih=>
  rw[Aq,AZ]at hn;rw[Jb];rcases Aj.1 h with rfl|h
  ·simp
  ·have:p.1≠x:=λe=>hn.1 (e▸Ar.2 ⟨_,h,rfl⟩);rw[if_neg this];exact ih hn.2 h
theorem Xve (l m:List (κ×α))(x:κ):lk (l++m) x=(lk l x).or (lk m x):=by
 induction l with
 | nil=>simp [MC]
 | cons p l ih=>
  rw[AS,Jb,Jb,ih];split<;>simp
theorem JD (l:List (κ×α))(x:κ)(a:α)(y:κ):lk (EX l x a) y=if y=x then some a else lk l y:=by
 unfold EX;split
 ·rename_i h;have key:∀l:List (κ×α),lk (l.map (λp=>if p.1=x then(x,a)else p)) y=if y=x then(if(lk l x).isSome then some a else none)else lk l y:=by
   intro l
   induction l with
   | nil=>simp [MC]
   | cons p l ih=>
    rw[Aq,Jb,ih,Jb,Jb]
    by_cases e:p.1=x
    ·by_cases e2:y=x
     ·simp [e,e2]
     ·have z:¬ x=y:=λh=>e2 h.symm;simp [e,e2,z]
    ·by_cases e2:y=x
     ·simp [e,e2]
     ·simp [e,e2]
  rw[key,h];simp
 ·rename_i h;rw[Xve,Jb,MC];have h':lk l x=none:=by simpa using h
  by_cases e:y=x
  ·subst e;rw[h'];simp
  ·have z:¬ x=y:=λh=>e h.symm;simp [e,z]
theorem NM (l:List (κ×α))(x:κ)(y:κ):lk (FO l x) y=if y=x then none else lk l y:=by
 unfold FO
 induction l with
 | nil=>simp [MC]
 | cons p l ih=>
  rw[B5]
  by_cases e:p.1=x
  ·rw[if_neg (by simp [e]),ih,Jb]
   by_cases e2:y=x
   ·simp [e2]
   ·have z:¬ p.1=y:=λh=>e2 (h▸e);simp [e2,z]
  ·rw[if_pos (by simp [e]),Jb,ih,Jb]
   by_cases e2:y=x
   ·have z:¬ p.1=y:=λh=>e (h.trans e2);simp [e2,z];intro h;exact absurd h e
   ·simp [e2]
theorem Xvf (l:List (κ×α))(x:κ)(a:α):(EX l x a).map (·.1)=if(lk l x).isSome then l.map (·.1)else l.map (·.1)++[x]:=by
 unfold EX;split
 ·rw[Be];refine BJ λp _=>?_;simp only [Function.comp];split
  ·rename_i h;exact h.symm
  ·rfl
 ·simp
theorem Oq {l:List (κ×α)}(x:κ)(a:α)(h:(l.map (·.1)).Nodup):((EX l x a).map (·.1)).Nodup:=by
 rw[Xvf];split
 ·exact h
 ·rename_i hn;have O:x∉l.map (·.1):=L8.1 (by simpa using hn);rw[List.nodup_append];exact⟨h,by simp,λa J b z=>by simp at z;subst z;exact λe=>O (e▸J)⟩
theorem P9 {l:List (κ×α)}(x:κ)(h:(l.map (·.1)).Nodup):((FO l x).map (·.1)).Nodup:=by
 unfold FO;exact List.Nodup.sublist (C4 _ List.filter_sublist) h
theorem QO (l:List (κ×α))(x:κ)(a:α):(EX l x a).length=if(lk l x).isSome then l.length else l.length+1:=by
 unfold EX;split<;>simp
theorem TX {l:List (κ×α)}{x:κ}(h:(l.map (·.1)).Nodup):(FO l x).length+(if(lk l x).isSome then 1 else 0)=l.length:=by
 unfold FO
 induction l with
 | nil=>simp [MC]
 | cons p l z=>
  rw[Aq,AZ]at h;have z:=z h.2;rw[B5,Jb]
  by_cases e:p.1=x
  ·have J:lk l x=none:=L8.2 (e▸h.1);rw[J]at z;simp [e]at z ⊢;exact z
  ·rw[if_pos (by simp [e]),if_neg e,AB,AB];omega
theorem Xvg {l:List (κ×α)}{x:κ}(h:lk l x=none):FO l x=l:=by
 unfold FO;refine List.filter_eq_self.2 λp z=>?_;have:=L8.1 h;have:p.1≠x:=λe=>this (e▸Ar.2 ⟨p,z,rfl⟩);simp [this]
end
def F9 {κ α:Type}[DecidableEq κ](P:Program)(k:TypeId)(kv:κ->Value)(av:α->Value)(w:World)(b:Nat)(l:List (κ×α)):Prop:=
 (l.map (·.1)).Nodup/\∃D:DataW α,w.ownsMap P k (rdBy av) b l.length D/\Maps.size D=l.length/\∀x lx,keyOf P k (kv x)=some lx->∀z,D.atKey lx z=Mb (lk l x) z
theorem World.ownsMap.exact {H:Type}{P:Program}{k:TypeId}{R:Value->Option (DataW H×List MemPlace)}{w:World}{b n:Nat}{D:DataW H}(h:w.ownsMap P k R b n D){m:Nat}(hm:Maps.size D=m):w.ownsMap P k R b m D:=by
 obtain⟨es,z,J,F,_,rfl⟩:=h;refine⟨es,z,J,F,?_,rfl⟩;have e1:Maps.size (DataW.map ((es.toList.map (Go.WideElems.rg P k R)).foldr DataW.insert []))=es.size:=by simp [Maps.size,length_sorted]
 omega
section
variable {P:Program}{κ α:Type}[DecidableEq κ]{t k e:TypeId}{kv:κ->Value}{av:α->Value}{ok:κ->Prop}{w w':World}{b:Nat}{l:List (κ×α)}
theorem F9.at (h:F9 P k kv av w b l):Xbn P k kv av w b l.length (lk l):=by
 obtain⟨_,D,h1,_,h3⟩:=h;exact⟨D,h1,h3⟩
theorem F9.mod {S:Nat->Prop}(h:F9 P k kv av w b l)(m:Mod S w w')(hb:¬ S b):F9 P k kv av w' b l:=by
 obtain⟨h0,D,h1,h2,h3⟩:=h;exact⟨h0,D,World.ownsMap.mod h1 m hb,h2,h3⟩
theorem F9.ext (h:F9 P k kv av w b l)(m:EB w w'):F9 P k kv av w' b l:=h.mod m (λh=>h)
theorem F9.lt (h:F9 P k kv av w b l):b<w.heap.size:=h.at.lt
theorem F9.nodup (h:F9 P k kv av w b l):(l.map (·.1)).Nodup:=h.1
theorem F9.made (M:MapK P t k e kv av ok):F9 P k kv av (w.alloc (.map #[] 0)) w.heap.size ([]:List (κ×α)):=
 ⟨by simp,.map [],World.ownsMap_made w P k _,rfl,λx l hl z=>rfl⟩
theorem F9.has (M:MapK P t k e kv av ok){D:DataW α}{x:κ}{lx:Lit}(hx:keyOf P k (kv x)=some lx)(h3:∀x lx,keyOf P k (kv x)=some lx->∀z,D.atKey lx z=Mb (lk l x) z):Maps.has D lx=(lk l x).isSome:=by
 cases e:lk l x with
 | none=>exact Maps.has_false_of_atKey λz=>by rw[h3 x lx hx z,e];rfl
 | some a=>exact Maps.has_true_of_atKey (y:=.held a) λz=>by rw[h3 x lx hx z,e];rfl
theorem XC {b:Nat}(ht:w.mapTurned w' b):Mod (ES b) w w'/\w'.heap.size=w.heap.size:=by
 refine⟨(Mod.of_grown ht.grown).mono (λi hi _=>(A3.inj hi).symm),?_⟩;obtain⟨es,c,es',c',_,e⟩:=ht;rw[e];simp [ChangeMaps.setBlock]
theorem F9.update (M:MapK P t k e kv av ok)(h:F9 P k kv av w b l)(hn:l.length<maxLen){x:κ}(hx:ok x)(a:α) :
  ∃w',(Instr.mapUpdate t (.map (some b)) (kv x) (av a)).run P w=.ok () w'/\F9 P k kv av w' b (EX l x a)/\Mod (ES b) w w'/\w'.heap.size=w.heap.size:=by
 obtain⟨h0,D,h1,h2,h3⟩:=h;obtain⟨lx,J⟩:=M.key x hx;obtain⟨w',hr,ho,Y⟩:=h1.store M.keyed M.und hn J (Qe M.ainj a);have hs:Maps.size (D.put lx (.held a))=(EX l x a).length:=by
  rw[Maps.size_put (h1.tidy M.keyed),F9.has M J h3,QO,h2]
 refine⟨w',hr,⟨Oq x a h0,_,World.ownsMap.exact ho hs,hs,λy Z O z=>?_⟩,XC Y⟩;rw[JD]
 by_cases e:y=x
 ·subst e;rw[J]at O
  cases O
  rw[if_pos rfl,Maps.atKey_put_same h1.isMap (M.keyed.key J)];rfl
 ·rw[if_neg e,Maps.atKey_put_other (OT M J O e),h3 y Z O]
theorem F9.drop (M:MapK P t k e kv av ok)(h:F9 P k kv av w b l){x:κ}(hx:ok x)(ty:TypeId) :
  ∃w',(Builtin.delete_ #[t,k] ty #[.map (some b),kv x]).run P w=.ok (.tuple #[]) w'/\F9 P k kv av w' b (FO l x)/\Mod (ES b) w w'/\w'.heap.size=w.heap.size:=by
 obtain⟨h0,D,h1,h2,h3⟩:=h;obtain⟨lx,O⟩:=M.key x hx;obtain⟨w',hr,ho,Y⟩:=h1.drop M.keyed M.und O ty;have hs:Maps.size (D.del lx)=(FO l x).length:=by
  have h4:=Maps.size_del (h1.tidy M.keyed) (k:=lx);have h5:=TX (x:=x) h0;rw[F9.has M O h3,h2]at h4;omega
 refine⟨w',hr,⟨P9 x h0,_,World.ownsMap.exact ho hs,hs,λy Z J z=>?_⟩,XC Y⟩;rw[NM]
 by_cases e:y=x
 ·subst e;rw[O]at J
  cases J
  rw[if_pos rfl,Maps.atKey_del_same];rfl
 ·rw[if_neg e,Maps.atKey_del_other (OT M O J e),h3 y Z J]
variable {n:Nat}{E:Fg}{ds:List (Option Tmp)}{R:World->World->Prop}{rs:List (Oper×Fl×Bool)}{K:Fg->World->Prop}{d:Nat}{ty:TypeId}{pos:String}{af:Array Edge}{g:Option (Nat×Bool)}{anc:Bool}
theorem Xs7 (M:MapK P t k e kv av ok)(hg:FB ds E g=true)(hR:RX R anc)
  (h:∀b w1,b=w.heap.size->EB w w1->F9 P k kv av w1 b ([]:List (κ×α))->Dw P n ds R rs K (FJ E d (.map (some b))) w1):Dw P n ds R ((⟨some d,.makeMap t none,ty,pos,af,g⟩,.x,anc) :: rs) K E w:=by
 refine HL (v:=.map (some w.heap.size)) (w':=w.alloc (.map #[] 0)) hg ?_ (hR.use (EB.alloc _ _)) (h _ _ rfl (EB.alloc _ _) (F9.made M));have e1:(Instr.makeMap t none).run P w=.ok (.map (some w.heap.size)) (w.alloc (.map #[] 0)):=run_makeMap t w;simp [execOp,e1]
theorem Pq {m x y:Operand}(M:MapK P t k e kv av ok){kx:κ}{a:α}(hg:FB ds E g=true)(hm:ev E m=.map (some b))(hx:ev E x=kv kx)(hy:ev E y=av a)(hmap:F9 P k kv av w b l)(hok:ok kx)(hn:l.length<maxLen)
  (hR:anc=true\/∀w',Mod (ES b) w w'->R w w') (h:∀w1,Mod (ES b) w w1->w1.heap.size=w.heap.size->F9 P k kv av w1 b (EX l kx a)->Dw P n ds R rs K E w1) :
  Dw P n ds R ((⟨none,.mapUpdate t m x y,ty,pos,af,g⟩,.x,anc) :: rs) K E w:=by
 obtain⟨w',z,h1,h2,h3⟩:=hmap.update M hn hok a;refine Ri (w':=w') hg ?_ (λe=>hR.elim (λh=>by rw[h]at e;cases e) (λh=>h _ h2)) (h _ h2 h3 h1);simp [execOp,hm,hx,hy,z]
theorem QL {dd:Option Tmp}{m x:Operand}(M:MapK P t k e kv av ok){kx:κ}(hg:FB ds E g=true)(hm:ev E m=.map (some b))(hx:ev E x=kv kx)(hmap:F9 P k kv av w b l)(hok:ok kx)
  (hR:anc=true\/∀w',Mod (ES b) w w'->R w w') (h:∀w1,Mod (ES b) w w1->w1.heap.size=w.heap.size->F9 P k kv av w1 b (FO l kx)->Dw P n ds R rs K (Gp E dd (.tuple #[])) w1) :
  Dw P n ds R ((⟨dd,.call { callee:=.builtin .delete,args:=#[m,x],argTypes:=#[t,k] },ty,pos,af,g⟩,.x,anc) :: rs) K E w:=by
 obtain⟨w',z,h1,h2,h3⟩:=hmap.drop M hok ty;refine HL (v:=.tuple #[]) (w':=w') hg ?_ (λe=>hR.elim (λh=>by rw[h]at e;cases e) (λh=>h _ h2)) (h _ h2 h3 h1);simp [execOp,resolve,invoke,builtin,hm,hx,z]
theorem X48 {dd:Option Tmp}{m:Operand}(M:MapK P t k e kv av ok)(hm:ev E m=.map (some b))(hmap:F9 P k kv av w b l):LV P ⟨dd,.call { callee:=.builtin .len,args:=#[m],argTypes:=#[t] },ty,pos,af,g⟩ E w (I l.length):=by
 obtain⟨h0,D,h1,h2,h3⟩:=hmap;have:=h1.len M.und ty;rw[h2]at this;unfold LV;simp [execOp,resolve,invoke,builtin,hm,this]
end
section
variable {α:Type}{enc:α->List Value}{sz T B:Nat}{w:World}{v:Value}{l:List α}
theorem MG : ∀(vs:List Value) (o:Nat) (cs:List Value) (i:Nat),o+vs.length<=cs.length->(Fe cs o vs)[i]?=if o<=i/\i<o+vs.length then vs[i-o]? else cs[i]?
 | [],o,cs,i,h=>by simp [Fe];intro h1 h2;omega
 | x :: vs,o,cs,i,h=>by
  rw[Fe,MG vs (o+1) (cs.set o x) i (by simp at h ⊢;omega)];simp only [AB]at h ⊢
  by_cases h1:i=o
  ·subst h1;rw[if_neg EA,if_pos EA,C5];simp;omega
  ·by_cases h2:o<=i/\i<o+(vs.length+1)
   ·rw[if_pos EA,if_pos h2,show i-o=(i-(o+1))+1 by omega,List.getElem?_cons_succ]
   ·rw[if_neg EA,if_neg h2,C5,if_neg (λe=>h1 e.symm)]
theorem Xzr (henc:∀x,(enc x).length=sz):∀(l:List α) (i j:Nat) (x:α) (vs:List Value),i<l.length->enc x=Fe (enc (l.getD i x)) j vs->j+vs.length<=sz->
  (l.set i x).flatMap enc=Fe (l.flatMap enc) (i*sz+j) vs:=by
 intro l i j x vs hi hx hj
 apply BA
 intro m;have J:(l.flatMap enc).length=l.length*sz:=Fs henc l;have hi':i*sz+sz<=l.length*sz:=by rw[<-Ba];exact AY _ hi
 rw[MG _ _ _ _ (by rw[J];omega)]
 by_cases hm:m<l.length*sz
 ·have z:0<sz:=by
   rcases Cl sz with h|h
   ·rw[h]at hm;omega
   ·exact h
  have hq:m / sz<l.length:=Dx (by rw[Bx];exact hm);have Y:m / sz*sz+m % sz=m:=by have:=Nat.div_add_mod m sz;rw[Bx]at this;exact this
  have hr:m % sz<sz:=Bg _ z;have at':∀(l:List α) (y:α),l[m / sz]?=some y->(l.flatMap enc)[m]?=(enc y)[m % sz]?:=by
   intro l y Z;have O:m % sz<(enc y).length:=by rw[henc];exact hr
   have:=QQ henc l (m / sz) y Z (m % sz) _ (Av O);rw[Y]at this;rw[this,Av O]
  by_cases hqi:m / sz=i
  ·have h1:(l.set i x)[m / sz]?=some x:=by rw[hqi,C5];simp [hi]
   rw[at' _ _ h1,hx,MG _ _ _ _ (by rw[henc];exact hj)];have e1:l[m / sz]?=some (l.getD i x):=by rw[hqi,BQ,Av hi];rfl
   rw[at' _ _ e1];have e2:i*sz+m % sz=m:=by rw[<-hqi];exact Y
   by_cases hc:j<=m % sz/\m % sz<j+vs.length
   ·rw[if_pos hc,if_pos EA];congr 1;omega
   ·rw[if_neg hc,if_neg EA]
  ·have h1:(l.set i x)[m / sz]?=l[m / sz]?:=by rw[C5,if_neg (λe=>hqi e.symm)]
   have Z:=Av hq;rw[at' _ _ (h1.trans Z),at' _ _ Z,if_neg];rintro ⟨h2,h3⟩
   apply hqi
   have:i*sz<=m:=by omega
   have h4:m<(i+1)*sz:=by rw[Ba];omega
   exact Nat.le_antisymm (Nat.lt_succ_iff.1 (Dx (by rw[Bx];exact h4))) ((Nat.le_div_iff_mul_le z).2 this)
 ·have hl2:((l.set i x).flatMap enc).length=l.length*sz:=by rw[Fs henc,AG]
  rw[Bl EA,if_neg EA,Bl EA]
theorem Own.cells (h:Own enc sz T B w v l)(hl:l≠[]):∃cs cap,v=.slice (some ⟨(base v).1,0,none⟩) l.length cap/\EL w (base v).1 cs T/\cs.take (l.length*sz)=l.flatMap enc/\l.length*sz<=cs.length:=by
 obtain⟨h1,h2⟩:=h.row;rcases h2 with⟨_,h0⟩|⟨g,cap,cur,rfl,hB,hc,hn,hm,hs,ht⟩
 ·exact absurd (A5 h0) hl
 ·refine⟨cur.toList,cap,rfl,?_,ht,?_⟩
  ·show w.heap[g]?=_;rw[hc]
  ·have e:cur.toList.length=cap*sz:=by simp [hs]
   rw[e];exact AY _ hn
theorem Own.setEl (henc:∀x,(enc x).length=sz)(h:Own enc sz T B w v l){w1:World}{cs:List Value}{i j:Nat}{x:α}{vs:List Value}(hb:EL w (base v).1 cs T)(hi:i<l.length)(hx:enc x=Fe (enc (l.getD i x)) j vs)(hj:j+vs.length<=sz)
  (hb1:EL w1 (base v).1 (Fe cs (i*sz+j) vs) T):Own enc sz T B w1 v (l.set i x):=by
 obtain⟨h1,h2⟩:=h.row;have z:=Xzr henc l i j x vs hi hx hj;refine⟨by rw[z,R8,AG];exact h1,?_⟩;rcases h2 with⟨_,h0⟩|⟨g,cap,cur,rfl,hB,hc,hn,hm,hs,ht⟩
 ·omega
 ·refine .inr ⟨g,cap,⟨Fe cs (i*sz+j) vs⟩,by rw[AG],hB,hb1,by rw[AG];exact hn,hm,?_,?_⟩
  ·have e:cs=cur.toList:=by
    have:w.heap[g]?=some (.cells ⟨cs⟩ T (0,0)):=hb;rw[hc]at this;cases this;rfl
   simp only [List.size_toArray];rw[R8,e];simp [hs]
  ·have e:cs=cur.toList:=by
    have:w.heap[g]?=some (.cells ⟨cs⟩ T (0,0)):=hb;rw[hc]at this;cases this;rfl
   have hlen:l.length*sz<=cs.length:=by
    have e2:cs.length=cap*sz:=by rw[e];simp [hs]
    rw[e2];exact AY _ hn
   have hfl:(l.flatMap enc).length=l.length*sz:=Fs henc l;have hi':i*sz+sz<=l.length*sz:=by rw[<-Ba];exact AY _ hi
   rw[z,AG]
   apply BA
   intro m;simp only [AV];rw[MG _ _ _ _ EA,MG _ _ _ _ EA,<-ht,<-e,AV]
   by_cases hm2:m<l.length*sz
   ·simp [hm2]
   ·rw[if_neg hm2,if_neg EA,if_neg hm2]
variable {P:Program}{n:Nat}{E:Fg}{ds:List (Option Tmp)}{R:World->World->Prop}{rs:List (Oper×Fl×Bool)}{K:Fg->World->Prop}{pos:String}{af:Array Edge}{g:Option (Nat×Bool)}{anc:Bool}{ty:TypeId}
theorem H5 {a y:Operand}{T' i j:Nat}{u:Value}{x:α}{vs:List Value}(henc:∀x,(enc x).length=sz)(hg:FB ds E g=true)(hown:Own enc sz T B w v l)(ha:ev E a=ED (base v).1 (i*sz+j))(hy:ev E y=u)(hv:u.cells=⟨vs⟩)(hs:Mw P T'=some vs.length)
  (hi:i<l.length) (hx:enc x=Fe (enc (l.getD i x)) j vs) (hj:j+vs.length<=sz) (h1:∀v∈vs,v.oneCell'=true) (hR:anc=true\/∀w',Mod (λk=>v.ownBlock=some k) w w'->R w w')
  (h:∀z,Mod (λk=>v.ownBlock=some k) w z->z.heap.size=w.heap.size->Own enc sz T B z v (l.set i x)->Dw P n ds R rs K E z):Dw P n ds R ((⟨none,.store T' a y,ty,pos,af,g⟩,.x,anc) :: rs) K E w:=by
 have Z:l≠[]:=by rintro rfl;simp at hi
 obtain⟨cs,cap,hv2,hb,ht,hlen⟩:=hown.cells Z;have Y:v.ownBlock=some (base v).1:=hown.base_block Z;have hm:∀w',Mod (ES (base v).1) w w'->Mod (λk=>v.ownBlock=some k) w w':=λw' m=>m.mono (λk hk _=>by have:k=(base v).1:=hk;rw[Y,this]);have hi':i*sz+sz<=l.length*sz:=by rw[<-Ba];exact AY _ hi
 refine Mf (v:=u) (vs:=vs) hg ha hy hv hs hb EA h1 (hR.imp id λh w' m=>h w' (hm w' m)) (λz m1 O J=>h z (hm z m1) O (hown.setEl henc hb hi hx hj J))
end
end Go.Vc
namespace Go.Sp
open Go.Vc
structure Fil where
 data:EC
 lasts:Nat
deriving DecidableEq
structure Dsk where
 room:Int
 fused:Bool
 left:Int
 fs:List (EC×Fil)
namespace Dsk
def may (D:Dsk)(names:List EC):Int:=if D.fused=true/\D.left=0 then 9 else if names.all (λs=>decide (1<=s.length) && decide (s.length<=64))then 0 else 1
def tick (D:Dsk):Dsk:=if D.fused then { D with left:=D.left-1 } else D
def used (D:Dsk):Nat:=(D.fs.map λp=>p.2.data.length).sum
def full (D:Dsk)(name p:EC):Bool:=decide (D.room-D.used<p.length) || ((lk D.fs name).isNone && decide (4096<=D.fs.length))
def old (D:Dsk)(name:EC):Fil:=(lk D.fs name).getD ⟨[],0⟩
def app (D:Dsk)(name p:EC):Int×Dsk:=
 if D.may [name]≠0 then(D.may [name],D)else if D.full name p then(6,D)
 else(0,tick { D with fs:=EX D.fs name ⟨(D.old name).data++p,(D.old name).lasts⟩ })
def each (a:EC->Dsk->Dsk):List EC->Dsk->Int×Dsk
 | [],D=>(0,D)
 | n :: r,D=>if D.may [n]≠0 then(D.may [n],D)else if(lk D.fs n).isNone then(7,D)else each a r (tick (a n D))
def lastsA (n:EC)(D:Dsk):Dsk:={ D with fs:=EX D.fs n ⟨(D.old n).data,(D.old n).data.length⟩ }
def gone (n:EC)(D:Dsk):Dsk:={ D with fs:=FO D.fs n }
def sync (names:List EC)(D:Dsk):Int×Dsk:=each lastsA names D
def rem (names:List EC)(D:Dsk):Int×Dsk:=each gone names D
def ren (D:Dsk)(a b:EC):Int×Dsk:=
 if D.may [a,b]≠0 then(D.may [a,b],D)else match lk D.fs a with
 | none=>(7,D)
 | some f=>(0,tick { D with fs:=EX (FO D.fs a) b f })
def read (D:Dsk)(name:EC):Option EC:=(lk D.fs name).map (·.data)
def names (D:Dsk):List EC:=(D.fs.map (·.1)).mergeSort (λx y=>decide (x<=y))
def has (D:Dsk)(name:EC):Bool:=(lk D.fs name).isSome
def readE (D:Dsk)(name:EC):Int:=if D.has name then 0 else 7
def readB (D:Dsk)(name:EC):EC:=(D.read name).getD []
def sh (name:EC):EC:=name++[126]
def save2 (D:Dsk)(name p:EC):Int×Dsk:=
 if(D.app (sh name) (EI p)).1≠0 then D.app (sh name) (EI p)else
 if((D.app (sh name) (EI p)).2.sync [sh name]).1≠0 then(D.app (sh name) (EI p)).2.sync [sh name]else((D.app (sh name) (EI p)).2.sync [sh name]).2.ren (sh name) name
def save (D:Dsk)(name p:EC):Int×Dsk:=
 if name.length<1\/60<name.length then(1,D)else if 1048576<p.length then(5,D)else
 if D.has (sh name)then(if(D.rem [sh name]).1≠0 then D.rem [sh name]else save2 (D.rem [sh name]).2 name p)else save2 D name p
def rems : List EC->Dsk->Int×Dsk
 | [],D=>(0,D)
 | n :: r,D=>if D.has n then(if(D.rem [n]).1≠0 then D.rem [n]else rems r (D.rem [n]).2)else rems r D
end Dsk
structure Led where
 base:Int
 data:EC
 ents:List EC
 dead:Bool
namespace Led
def last (L:Led):Int:=L.base+L.ents.length
def img : EC:=[115,45,105,109,103]
def logn : EC:=[115,45,108,111,103]
def ent (i:Int)(p:EC):EC:=EV i.toNat++Fp p
def append (L:Led)(D:Dsk)(p:EC):Int×Int×Led×Dsk:=
 if L.dead then(0,9,L,D)else if 65536<p.length\/1099511627776<=L.last then(0,5,L,D)else
 let r1:=D.app logn (EI (ent (L.last+1) p))
 let r2:Int×Dsk:=if r1.1=0 then r1.2.sync [logn]else r1
 if r2.1≠0 then(0,r2.1,{ L with dead:=true },r2.2)else(L.last+1,0,{ L with ents:=L.ents++[p] },r2.2)
def write (L:Led)(D:Dsk)(i:Int)(p:EC):Int×Led×Dsk:=
 if L.dead then(9,L,D)else if i<L.last\/1099511627776<i then(1,L,D)else if 524288<p.length then(5,L,D)else
 let r1:=D.save img (ent i p)
 let r2:Int×Dsk:=if r1.1=0 then r1.2.rems [logn]else r1
 if r2.1≠0 then(r2.1,{ L with dead:=true },r2.2)else(0,⟨i,p,[],false⟩,r2.2)
end Led
namespace Dsk
structure Wf (D:Dsk):Prop where
 room0:0<=D.room
 room1:D.room<=1073741824
 used:(D.used:Int)<=D.room
 left0:0<=D.left
 left1:D.left<=9223372036854775807
 name:∀p∈D.fs,1<=p.1.length/\p.1.length<=64
 lasts:∀p∈D.fs,p.2.lasts<=p.2.data.length
 nd:(D.fs.map (·.1)).Nodup
 cnt:D.fs.length<=4096
end Dsk
def IJ (l:List (EC×Fil)):Nat:=(l.map λp=>p.2.data.length).sum
theorem Mt (D:Dsk):D.used=IJ D.fs:=rfl
def J4 (l:List (EC×Fil))(n:EC):Fil:=(lk l n).getD ⟨[],0⟩
theorem Xs8 {α:Type}(l:List α)(p:α->Prop)[DecidablePred p](f:α->Nat)(c:Nat)(h:l.Pairwise λa b=>¬ (p a/\p b))(x:α)(hx:x∈l)(hp:p x):(l.map λa=>if p a then c else f a).sum+f x=(l.map f).sum+c:=by
 induction l with
 | nil=>cases hx
 | cons a r ih=>
  rw[List.pairwise_cons]at h;rw[Aq,Aq,AW,AW];rcases Aj.1 hx with rfl|hx
  ·rw[if_pos hp];have:r.map (λa=>if p a then c else f a)=r.map f:=BJ λb J=>if_neg λz=>h.1 b J ⟨hp,z⟩;rw[this];omega
  ·rw[if_neg λO=>h.1 x hx ⟨O,hp⟩];have:=ih h.2 hx;omega
theorem Ve {l:List (EC×Fil)}(hn:(l.map (·.1)).Nodup)(n:EC)(f:Fil):IJ (EX l n f)+(J4 l n).data.length=IJ l+f.data.length:=by
 unfold IJ J4 EX
 cases h:lk l n with
 | none=>simp
 | some g=>
  have hm:=Ox h;simp only [Option.isSome_some,if_true,Option.getD_some];have z:l.Pairwise λa b=>¬ (a.1=n/\b.1=n):=by
   have:=List.pairwise_map.1 hn;exact this.imp λh h2=>h (h2.1.trans h2.2.symm)
  have:=Xs8 l (λp=>p.1=n) (λp=>p.2.data.length) f.data.length z (n,g) hm rfl;rw[Be];have e:(l.map ((λp:EC×Fil=>p.2.data.length) ∘ λp=>if p.1=n then(n,f)else p))=l.map λp=>if p.1=n then f.data.length else p.2.data.length:=BJ λp _=>by
   simp only [Function.comp];split<;>rfl
  rw[e];exact this
theorem Wi (l:List (EC×Fil))(n:EC):IJ (FO l n)<=IJ l:=by
 unfold IJ FO
 induction l with
 | nil=>simp
 | cons p l ih=>
  rw[B5];split
  ·simp only [Aq,AW];omega
  ·simp only [Aq,AW];omega
theorem Xnh {l:List (EC×Fil)}(hn:(l.map (·.1)).Nodup)(n:EC):IJ (FO l n)+(J4 l n).data.length=IJ l:=by
 unfold IJ J4 FO
 induction l with
 | nil=>simp [MC]
 | cons p l z=>
  rw[Aq,AZ]at hn;have z:=z hn.2;rw[B5,Jb]
  by_cases e:p.1=n
  ·have J:lk l n=none:=L8.2 (e▸hn.1);rw[J]at z;simp [e]at z ⊢;omega
  ·rw[if_pos (by simp [e]),if_neg e,Aq,AW,Aq,AW];omega
theorem VW {l:List (EC×Fil)}{p:EC×Fil}(h:p∈l):p.2.data.length<=IJ l:=by
 unfold IJ
 induction l with
 | nil=>cases h
 | cons q l ih=>
  rw[Aq,AW];rcases Aj.1 h with rfl|h
  ·omega
  ·have:=ih h;omega
theorem Pr {α:Type}{l:List (EC×α)}{n:EC}{a:α}{p:EC×α}(h:p∈EX l n a):p=(n,a)\/p∈l:=by
 unfold EX at h;split at h
 ·obtain⟨q,z,rfl⟩:=Ar.1 h;split
  ·exact .inl rfl
  ·exact .inr z
 ·rcases List.mem_append.1 h with h|h
  ·exact .inr h
  ·exact .inl (List.mem_singleton.1 h)
theorem MN {α:Type}(l:List (EC×α))(n:EC)(a b:α):EX (EX l n a) n b=EX l n b:=by
 have h1:(lk (EX l n a) n).isSome=true:=by rw[JD];simp
 rw[EX.eq_def (EX l n a),if_pos h1];unfold EX;split
 ·rename_i h;rw[Be];refine BJ λp _=>?_;simp only [Function.comp]
  by_cases e:p.1=n
  ·simp [e]
  ·simp [e]
 ·rename_i h;have hn:lk l n=none:=by simpa using h
  rw[List.map_append]
  congr 1
  ·conv=>rhs;rw[<-List.map_id l]
   refine BJ λp z=>?_;have:p.1≠n:=λe=>L8.1 hn (e▸Ar.2 ⟨p,z,rfl⟩);simp [this]
  ·simp
namespace Dsk
variable {D:Dsk}
theorem Wf.data (h:D.Wf){p:EC×Fil}(hp:p∈D.fs):p.2.data.length<=1073741824:=by
 have h1:=VW hp;have h2:=h.used;have h3:=h.room1;rw[Mt]at h2;omega
theorem Wf.tick (h:D.Wf)(hl:¬ (D.fused=true/\D.left=0)):D.tick.Wf:=by
 unfold Dsk.tick;split
 ·rename_i z;have h0:D.left≠0:=λe=>hl ⟨z,e⟩;exact⟨h.room0,h.room1,h.used,by have:=h.left0;simp only;omega,by have:=h.left1;simp only;omega,h.name,h.lasts,h.nd,h.cnt⟩
 ·exact h
theorem Wf.set (h:D.Wf){n:EC}{f:Fil}(hn:1<=n.length/\n.length<=64)(hl:f.lasts<=f.data.length)(hr:(D.used:Int)+f.data.length<=D.room+(D.old n).data.length)(hc:(lk D.fs n).isSome=true\/D.fs.length<4096):Wf { D with fs:=EX D.fs n f }:=by
 refine⟨h.room0,h.room1,?_,h.left0,h.left1,λp z=>?_,λp z=>?_,Oq n f h.nd,?_⟩
 ·have:=Ve h.nd n f;have e:D.old n=J4 D.fs n:=rfl;rw[e]at hr;rw[Mt]at hr ⊢;simp only;omega
 ·rcases Pr z with rfl|z
  ·exact hn
  ·exact h.name p z
 ·rcases Pr z with rfl|z
  ·exact hl
  ·exact h.lasts p z
 ·simp only;rw[QO];have:=h.cnt;split
  ·exact this
  ·rename_i h2;rcases hc with h3|h3
   ·exact absurd h3 h2
   ·omega
theorem Wf.gone (h:D.Wf)(n:EC):(D.gone n).Wf:=by
 refine⟨h.room0,h.room1,?_,h.left0,h.left1,λp z=>h.name p (Az.1 z).1,λp z=>h.lasts p (Az.1 z).1,P9 n h.nd,Ae (List.length_filter_le ..) h.cnt⟩;have h1:=Wi D.fs n;have h2:=h.used;rw[Mt]at h2 ⊢;simp only [Dsk.gone];omega
theorem may_names {names:List EC}(h:D.may names=0):∀s∈names,1<=s.length/\s.length<=64:=by
 unfold Dsk.may at h;split at h
 ·cases h
 ·split at h
  ·rename_i h2;intro s hs;simpa using List.all_eq_true.1 h2 s hs
  ·cases h
theorem may_live {names:List EC}(h:D.may names=0):¬ (D.fused=true/\D.left=0):=by
 unfold Dsk.may at h;split at h
 ·cases h
 ·assumption
end Dsk
end Go.Sp
