/-
 A part of the proof: OcA VcO OcB OcC OcD OcE BlA VcI VcQ VcL VcP BlB MemA SpBlk BkA Shelf VcT.
-/
import Derived.Test.YtiooodckiddpmaaGreatDoorCkA
import Derived.Test.YtiooodckiddpmaaGreatDoorChecked
import Derived.KernelRfl
import Derived.RangeFuncRecord
import Derived.RangeFuncOwn
import Derived.OrdersIn
import Derived.TacticsIn
import Derived.Maps.OwnSet
import Derived.Shelf.Small.Bits
import Derived.Shelf.Small.Strs
import Derived.Shelf.Small.Wraps
import Derived.Shelf.Strconv.Itoa0
import Derived.Shelf.Strconv.Itoa1
import Derived.Shelf.LaysM
import Derived.Shelf.Strconv.Itoa2
import Derived.Shelf.Strconv.Itoa3
import Derived.Shelf.Strings.Prefix
import Derived.Shelf.Slices.Turned
import Derived.Ground.Names2Prog
import Derived.Shelf.Slices.SearchI
import Derived.Shelf.Bytes.SlSearch0
import Derived.Ground.SlbCloneProg
import Derived.Shelf.Bytes.SlClone
import Derived.Ground.SlbNamesProg
import Derived.Shelf.Bytes.SlJoin
import Derived.Ground.SlgnProg
import Derived.Shelf.SlicesE.Clone
import Derived.Shelf.Bytes.SlEqualAll
import Derived.Shelf.Bytes.Small
import Derived.Test.YtiooodckiddpmaaGreatDoorProg
set_option maxRecDepth 100000
set_option maxHeartbeats 4000000
set_option linter.unusedVariables false
set_option linter.unusedSimpArgs false
namespace Go.Proofs.YtiooodckiddpmaaGreatDoor
open Go.Vc Go.Sp
attribute [local irreducible] W XW Dw DwT
structure Wr (B bw:Nat)(v:Value)(l:Str)(w:World):Prop where
 m:Blk w bw [v] 142
 o:Vc.Own encB 1 5 B w v l
@[reducible] def WrS (bw:Nat) (v:Value):Nat->Prop:=λk=>k=bw∨v.ownBlock=some k
theorem Wr.mod {B bw:Nat}{v:Value}{l:Str}{S:Nat->Prop}{w w':World}(h:Wr B bw v l w)(m:Vc.Mod S w w')(hS:∀k,WrS bw v k->¬ S k):Wr B bw v l w':=⟨h.m.mod m (hS bw (.inl rfl)),h.o.mod m (λk hk=>hS k (.inr hk))⟩
theorem Wr.ext {B bw:Nat}{v:Value}{l:Str}{w w':World}(h:Wr B bw v l w)(m:Ext w w'):Wr B bw v l w':=h.mod m (λ_ _ h=>h)
def capN (n:Int):Nat:=(max 0 (min n 4611686018427387904)).toNat
theorem Xtk (n:Int):capN n≤4611686018427387904:=by unfold capN;omega
theorem Xmh {a:Nat}(h:a<18446744073709551616):IntKind.u64.wrap (a:Int)=a:=by
 have e:IntKind.u64.wrap (a:Int)=(a:Int) % 18446744073709551616:=by unfold IntKind.wrap;simp [IntKind.bits,IntKind.signed]
 rw[e];omega
section
variable {P:Program}{E:Env}{dd:Option Tmp}{ty:TypeId}{pos:String}{af:Array Edge}{g:Option (Nat×Bool)}{x y:Operand}{T U:TypeId}
theorem X6u {n:Int}(hx:ev E x=I (max 0 (min n 4611686018427387904)))(hT:(P.underlying T).isSome=true)(hU:intK P U=some .u64):PV P ⟨dd,.convert T U x,ty,pos,af,g⟩ E (.int .u64 (capN n:Nat)):=by
 have:=Xcj (P:=P) (d:=dd) (ty:=ty) (pos:=pos) (af:=af) (g:=g) hx hT hU
 rwa [show max 0 (min n 4611686018427387904)=((capN n:Nat):Int) by unfold capN;omega,Xmh (by have:=Xtk n;omega)]at this
theorem X3e {u:Nat}(hx:ev E x=.int .u64 u)(hy:ev E y=.int .u64 7):PV P ⟨dd,.binOp .shr T x y U,ty,pos,af,g⟩ E (.int .u64 (u / 128:Nat)):=by
 have:=Xj5 (P:=P) (dd:=dd) (ty:=ty) (pos:=pos) (af:=af) (g:=g) (T:=T) (U:=U) hx hy dc9
 rwa [show((u:Int)).fdiv (2 ^ min (7:Int).toNat IntKind.u64.bits)=((u / 128:Nat):Int) by
  rw[show(2:Int) ^ min (7:Int).toNat IntKind.u64.bits=128 by decide,Int.fdiv_eq_ediv_of_nonneg _ om9];omega]at this
end
theorem X9g (u:Nat):UInt8.ofNat u ||| 128=UInt8.ofNat (u % 128+128):=by
 have h:∀c:Fin 256,UInt8.ofNat c ||| 128=UInt8.ofNat (c.1 % 128+128):=by decide +kernel
 have e:UInt8.ofNat u=UInt8.ofNat (u % 256):=by apply UInt8.toNat_inj.1;simp
 rw[e,h ⟨u % 256,Nat.mod_lt _ dc9⟩]
 congr 1;simp only;omega
theorem Xtl {α β:Type}{l:List α}{k:Nat}{x:α}(f:α->List β)(h:l[k]?=some x):(l.take (k+1)).flatMap f=(l.take k).flatMap f++f x:=by
 rw[List.take_add_one,h,List.flatMap_append];simp
def numI (n:Int):Str:=numS (capN n)
theorem flat_len (ns:List Int)(k:Nat):((ns.take k).flatMap numI).length≤10*k:=by
 induction ns generalizing k with
 | nil=>simp
 | cons a r ih=>
  cases k with
  | zero=>simp
  | succ k=>rw[List.take_succ_cons,List.flatMap_cons,List.length_append];have:=Xak (capN a);have:=ih k;unfold numI at *;omega
@[reducible] def Grew (w:World) (v v':Value):Prop:=v'.ownBlock=v.ownBlock∨∀k,v'.ownBlock=some k->w.heap.size≤k
theorem Xk5 {w:World}{v v':Value}{bw i:Nat}(h:Grew w v v')(hi:v'.ownBlock=some i)(hlt:i<w.heap.size):WrS bw v i:=by
 rcases h with e|e
 ·exact .inr (e▸hi)
 ·exact absurd (e i hi) om9
theorem Xhd {α:Type}{l:List α}{w:World}{v v':Value}{bw n:Nat}(h:Grew w v v')(hd:∀k,WrS bw v k->l≠[]->n≠k)(hb:l≠[]->n<w.heap.size):l≠[]->¬ v'.ownBlock=some n:=by
 intro hl e
 rcases h with h|h
 ·exact hd n (.inr (h▸e)) hl rfl
 ·have:=h n e;have:=hb hl;omega
theorem Xis {w:World}{v v1 v2:Value}{n:Nat}(h:Grew w v v1)(hs:v2.ownBlock=v1.ownBlock∨v2.ownBlock=some n)(hn:w.heap.size≤n):Grew w v v2:=by
 rcases hs with e|e
 ·rcases h with e1|e1
  ·exact .inl (e.trans e1)
  ·exact .inr (λk hk=>e1 k (e▸hk))
 ·exact .inr (λk hk=>by rw[e]at hk;cases hk;exact hn)
theorem Xtm {j u:Nat}{dn X:Str}(hj:1≤j)(hu:u<128 ^ j)(h:128≤u)(e:dn++numF j u=X):2≤j∧u / 128<128 ^ (j-1)∧(dn++[UInt8.ofNat u ||| 128])++numF (j-1) (u / 128)=X:=by
 obtain⟨j,rfl⟩:∃i,j=i+1:=⟨j-1,by omega⟩
 unfold numF at e
 rw[if_neg om9]at e
 refine⟨?_,by rw[Nat.pow_succ]at hu;simp;omega,by rw[X9g,List.append_assoc];exact e⟩
 cases j with
 | zero=>simp at hu;omega
 | succ j=>omega
theorem Xtn {j u:Nat}{dn X:Str}(hj:1≤j)(h:¬ 128≤u)(e:dn++numF j u=X):dn++[UInt8.ofNat u]=X:=by
 obtain⟨j,rfl⟩:∃i,j=i+1:=⟨j-1,by omega⟩
 unfold numF at e
 rwa [if_pos om9]at e
theorem X6v (B bw:Nat)(v:Value)(l:Str)(p:Str)(vp:Value)(w:World)(h:Wr B bw v l w)(hl:l.length≤1000000000)(hB:B≤w.heap.size)(hp:Arr encB 1 w vp p)(hpl:p.length≤1000000000) :
  Calls Tryz.prog 155 [ptr bw 0,vp].toArray w (Does (WrS bw v) w (λu w'=>u=.tuple #[]∧∃v',Wr B bw v' (l++p) w'∧Grew w v v')):=by
 refine cw Tryz.func155 ?_
 have hx:=Vc.Mod.refl (WrS bw v) w
 obtain⟨hm,ho⟩:=h
 have hne:=ho.ne_blk hm rfl
 have hgr:Grew w v v:=.inl rfl
 refine ws λ_ Z1=>wr (dm ?_)
 refine dp (Xma kr9 rfl rfl) (de Z1 (wi (λc1=>?_) λc1=>?_))
 ·refine wr (dm (dm ?_))
  refine dz rfl (df 0 rfl (dl rfl (hm.at rfl) (dm ?_)))
  refine Xc2 (lx:=p) (e:=5) (sz:=1) (by':=1) rfl kr9 kr9 ir9 ho (hp) rfl rfl (by intro x _ u hu;simp at hu;rcases hu with rfl<;>rfl) (by simp;omega) dc9 (Nat.le_trans hB hx.size) (.inl rfl) (λv2 w1 ho_n x1 hwh1=>?_)
  have hgr9:=Xis hgr hwh1 hx.size
  try replace hm:=hm.mod x1 (by first|(intro h;have h2:_=bw:=h;omega)|exact hne|exact Xhd hgr hnd hnb)
  try replace hp:=hp.mod x1 (by first|(intro h;have h2:_=bw:=h;omega)|exact hne|exact Xhd hgr hnd hnb)
  replace hx:=hx.own x1 (λi hi hlt=>Xk5 hgr hi hlt)
  replace ho:=ho_n
  replace hgr:=hgr9
  clear hgr9
  have hne2:=ho.ne_blk hm rfl
  refine dz rfl (df 0 rfl (st1 hm (λw2 x2 xs2 hm=>?_) (hv:=by first|rfl|exact isSl.one ho.sl|exact isSl.one hp.sl)))
  try dsimp only [Xal,List.set,List.take,List.drop]at hm
  replace ho:=ho.mod x2 (by first|(intro k hk e;have h2:k=bw:=e;exact hne2 (h2▸hk))|(intro k hk e;have h2:k=bw:=e;exact hne (h2▸hk)))
  replace hx:=hx.own x2 (λi hi _=>Or.inl hi)
  refine Xae ((Xa5 (Xav rfl ?_)))
  exact⟨_,rfl,hx,rfl,v2,⟨hm,ho⟩,hgr⟩
 exact absurd c1 sp9
theorem Xcr (B bw:Nat)(v:Value)(l:Str)(ns:List Int)(vn:Value)(w:World)(h:Wr B bw v l w)(hl:l.length≤1000000000)(hB:B≤w.heap.size)(hn:Arr Vc.encI 1 w vn ns)(hnl:ns.length≤100000)(hnd:∀k,WrS bw v k->ns≠[]->(base vn).1≠k) :
  Calls Tryz.prog 79 [ptr bw 0,vn].toArray w (Does (WrS bw v) w (λu w'=>u=.tuple #[]∧∃v',Wr B bw v' (l++ns.flatMap numI) w'∧Grew w v v')):=by
 refine cw Tryz.func79 ?_
 have hx:=Vc.Mod.refl (WrS bw v) w
 obtain⟨hm,ho⟩:=h
 have hne:=ho.ne_blk hm rfl
 have hgr:Grew w v v:=.inl rfl
 have hnb:ns≠[]->(base vn).1<w.heap.size:=λe=>hn.base_lt dc9 e
 refine ws λ_ Z1=>ws λ_ Z2=>wr (dm ?_)
 refine dp (Xa4 kr9 rfl rfl) (de Z2 (wi (λc1=>?_) λc1=>?_))
 ·exact absurd c1 sp9
 refine Xaa (Z1 _ _ (ws λ_ Z3=>wr (dm ?_)))
 refine dv 3 1 hn.sl (dm (de Z3 (Xab ?_)))
 refine Xaj (G:=Nat×Value×Str) (λ(k,vc,lc)=>[(0,ptr bw 0),(9,vn),(10,I ↑ns.length),(11,I ↑k)]) (λ(k,vc,lc) w'=>Mod (WrS bw v) w w'∧Arr Vc.encI 1 w' vn ns∧k≤ns.length∧Blk w' bw [vc] 142∧Vc.Own encB 1 5 B w' vc lc∧lc=l++(ns.take k).flatMap numI∧Grew w v vc) (λ(k,vc,lc)=>ns.length-k) (0,v,l) ?_ ?_ ?_
 ·exact zz4
 ·exact⟨hx,hn,Nat.zero_le _,hm,ho,by simp,.inl rfl⟩
 intro X1 g1 w1 hF1
 obtain⟨k,vc,lc⟩:=g1
 clear hx hn
 obtain⟨hx,hn,hk1,hm,ho,hlc,hgr⟩:=hF1
 refine ws λ_ Z4=>wr (dp (Xaf rfl rfl) (de Z4 (ws λ_ Z5=>wi (λc2=>?_) λc2=>?_)))
 ·obtain⟨x,hk⟩:∃x,ns[k]?=some x:=gtE
  refine Xaa (Z5 _ _ (ws λ_ Z6=>Xab (ws λ_ Z7=>wr (di 3 1 hn.sl rfl (hn.lt hk) (dl rfl ((hn.row hk).at0 rfl) (da (de Z7 (ws λ_ Z8=>wr (dm ?_)))))))))
  refine dp (Xs9 rfl rfl) (dp (Xoe rfl rfl) (dp (X6u rfl kr9 kr9) (da (de Z8 (ws λ_ Z9=>Xab ?_)))))
  refine Xaj (G:=Nat×Nat×Value×Str×Str) (λ(j,u,vd,ld,dn)=>[(0,ptr bw 0),(6,.int .u64 ↑u),(9,vn),(10,I ↑ns.length),(11,I ↑k)]) (λ(j,u,vd,ld,dn) w'=>Mod (WrS bw v) w w'∧Arr Vc.encI 1 w' vn ns∧1≤j∧u<128 ^ j∧Blk w' bw [vd] 142∧Vc.Own encB 1 5 B w' vd ld∧ld=lc++dn∧dn++numF j u=numI x∧Grew w v vd) (λ(j,u,vd,ld,dn)=>j) (10,capN x,vc,lc,[]) ?_ ?_ ?_
  ·exact zz5
  ·exact⟨hx,hn,by omega,by have:=Xtk x;omega,hm,ho,by simp,rfl,hgr⟩
  intro X2 g2 w2 hF2
  obtain⟨j,u,vd,ld,dn⟩:=g2
  clear hx hn hm ho
  obtain⟨hx,hn,hj,hju,hm,ho,hld,hdn,hgr⟩:=hF2
  refine ws λ_ Z10=>ws λ_ Z11=>wr (dm ?_)
  refine dp (Xcg rfl rfl) (de Z11 (wi (λc3=>?_) λc3=>?_))
  ·have hne:=ho.ne_blk hm rfl
   have hlen:ld.length≤2001000020:=by
    have h1:=flat_len ns k
    have h2:=Xak (capN x)
    have h3:=congrArg List.length hdn
    rw[hld,hlc]
    unfold numI at *
    simp only [List.length_append]at *
    omega
   refine Xaa (Z10 _ _ (ws λ_ Z12=>Xab (wr (dm (dm ?_)))))
   refine dz rfl (df 0 rfl (dl rfl (hm.at rfl) (dm ?_)))
   refine dp (Xth rfl kr9 kr9) (dp (X04 (b:=128) rfl rfl) (li (e:=5) (sz:=1) (zs:=[.int .u8 0]) (pv:=[(0,_)]) (cs:=[_]) RX.all (λb1 w3 e1 x3 m1=>?_)))
   have g1:=hx.ge e1
   have a1_hn:=Arr.base_lt hn dc9
   have a1_hm:=hm.lt
   have o1_ho:=ho.ltb e1
   replace hn:=hn.ext x3
   replace hm:=hm.ext x3
   replace ho:=ho.ext x3
   replace hx:=hx.ext x3
   refine Xc2 (lx:=[UInt8.ofNat u ||| 128]) (e:=5) (sz:=1) (by':=1) rfl kr9 kr9 ir9 ho (m1.arr (enc:=encB) (sz:=1) (l:=[UInt8.ofNat u ||| 128]) rfl ir9 rfl (Nat.le_of_ble_eq_true rfl)) rfl rfl (by intro x _ u hu;simp at hu;rcases hu with rfl<;>rfl) (by simp;omega) dc9 (Nat.le_trans hB hx.size) (.inl rfl) (λv2 w4 ho_n x4 hwh4=>?_)
   have hgr9:=Xis hgr hwh4 hx.size
   try replace hn:=hn.mod x4 (by first|(intro h;have h2:_=bw:=h;omega)|exact hne|exact Xhd hgr hnd hnb)
   try replace hm:=hm.mod x4 (by first|(intro h;have h2:_=bw:=h;omega)|exact hne|exact Xhd hgr hnd hnb)
   replace hx:=hx.own x4 (λi hi hlt=>Xk5 hgr hi hlt)
   replace ho:=ho_n
   replace hgr:=hgr9
   clear hgr9
   clear m1
   have hne2:=ho.ne_blk hm rfl
   refine dz rfl (df 0 rfl (st1 hm (λw5 x5 xs5 hm=>?_) (hv:=by first|rfl|exact isSl.one hn.sl|exact isSl.one ho.sl)))
   try dsimp only [Xal,List.set,List.take,List.drop]at hm
   replace hn:=hn.mod x5 (λh e=>hnd bw (.inl rfl) h e)
   replace ho:=ho.mod x5 (by first|(intro k hk e;have h2:k=bw:=e;exact hne2 (h2▸hk))|(intro k hk e;have h2:k=bw:=e;exact hne (h2▸hk)))
   replace hx:=hx.own x5 (λi hi _=>Or.inl hi)
   refine de Z12 (wr (dm ?_))
   refine dp (X3e rfl rfl) (da (Xae (?_)))
   obtain⟨h2,h3,h4⟩:=Xtm hj hju om9 hdn
   refine⟨(j-1,u / 128,v2,ld++[UInt8.ofNat u ||| 128],dn++[UInt8.ofNat u ||| 128]),zz5,⟨hx,hn,by omega,h3,hm,ho,by rw[hld,List.append_assoc],h4,hgr⟩,by simp only [];omega⟩
  have hne:=ho.ne_blk hm rfl
  have hlen:ld.length≤2001000020:=by
   have h1:=flat_len ns k
   have h2:=Xak (capN x)
   have h3:=congrArg List.length hdn
   rw[hld,hlc]
   unfold numI at *
   simp only [List.length_append]at *
   omega
  refine Xah (Z9 _ _ (wr (dm (dm ?_))))
  refine dz rfl (df 0 rfl (dl rfl (hm.at rfl) (dm ?_)))
  refine dp (Xth rfl kr9 kr9) (li (e:=5) (sz:=1) (zs:=[.int .u8 0]) (pv:=[(0,_)]) (cs:=[_]) RX.all (λb2 w6 e2 x6 m2=>?_))
  have g2:=hx.ge e2
  have a2_hn:=Arr.base_lt hn dc9
  have a2_hm:=hm.lt
  have o2_ho:=ho.ltb e2
  replace hn:=hn.ext x6
  replace hm:=hm.ext x6
  replace ho:=ho.ext x6
  replace hx:=hx.ext x6
  refine Xc2 (lx:=[UInt8.ofNat u]) (e:=5) (sz:=1) (by':=1) rfl kr9 kr9 ir9 ho (m2.arr (enc:=encB) (sz:=1) (l:=[UInt8.ofNat u]) rfl ir9 rfl (Nat.le_of_ble_eq_true rfl)) rfl rfl (by intro x _ u hu;simp at hu;rcases hu with rfl<;>rfl) (by simp;omega) dc9 (Nat.le_trans hB hx.size) (.inl rfl) (λv2 w7 ho_n x7 hwh7=>?_)
  have hgr9:=Xis hgr hwh7 hx.size
  try replace hn:=hn.mod x7 (by first|(intro h;have h2:_=bw:=h;omega)|exact hne|exact Xhd hgr hnd hnb)
  try replace hm:=hm.mod x7 (by first|(intro h;have h2:_=bw:=h;omega)|exact hne|exact Xhd hgr hnd hnb)
  replace hx:=hx.own x7 (λi hi hlt=>Xk5 hgr hi hlt)
  replace ho:=ho_n
  replace hgr:=hgr9
  clear hgr9
  clear m2
  have hne2:=ho.ne_blk hm rfl
  refine dz rfl (df 0 rfl (st1 hm (λw8 x8 xs8 hm=>?_) (hv:=by first|rfl|exact isSl.one hn.sl|exact isSl.one ho.sl)))
  try dsimp only [Xal,List.set,List.take,List.drop]at hm
  replace hn:=hn.mod x8 (λh e=>hnd bw (.inl rfl) h e)
  replace ho:=ho.mod x8 (by first|(intro k hk e;have h2:k=bw:=e;exact hne2 (h2▸hk))|(intro k hk e;have h2:k=bw:=e;exact hne (h2▸hk)))
  replace hx:=hx.own x8 (λi hi _=>Or.inl hi)
  refine de Z6 (wr (pa rfl rfl (dm (Xae (?_)))))
  refine⟨(k+1,v2,ld++[UInt8.ofNat u]),zz4,⟨hx,hn,by omega,hm,ho,?_,hgr⟩,by simp only [];omega⟩
  rw[hld,hlc,Xtl numI hk,←Xtn hj om9 hdn]
  simp only [List.append_assoc]
 refine Xah (Xa5 (Xav rfl ?_))
 rw[List.take_of_length_le om9]at hlc
 subst hlc
 exact⟨_,rfl,hx,rfl,vc,⟨hm,ho⟩,hgr⟩
theorem Xef (p:Str)(vp:Value)(w:World)(hp:Arr encB 1 w vp p)(hpl:p.length≤2001000020) :
  Calls Tryz.prog 87 [vp].toArray w (Gives w (λu w'=>Vc.Own encB 1 5 w.heap.size w' u p)):=by
 refine cw Tryz.func87 ?_
 have hx:=Ext.refl w
 refine ws λ_ Z1=>wr (da (de Z1 (ws λ_ Z2=>ws λ_ Z3=>wr (dm ?_))))
 refine dp (Xk3 (e:=5) (k:=1) kr9 hp.sl rfl rfl) (de Z3 (wc (λc1=>?_) λc1=>?_))
 ·refine ws λ_ Z4=>wr (da (de Z4 (Xad ?_)))
  refine ro ?_
  refine⟨_,rfl,hx,?_⟩
  have e:p.length=0:=by
   rcases hp.sl with⟨_,e⟩|⟨b,o,c,e,_⟩|⟨e,_⟩
   ·exact e
   ·rw[e]at c1;simp [Xmc]at c1
   ·exact e
  rw[List.eq_nil_of_length_eq_zero e];exact Vc.Own.nil
 refine Xaa (Z2 _ _ (ws λ_ Z5=>wr (X03 (e:=5) (sz:=1) rfl kr9 RX.all (λb1 w1 e1 x1 m1=>?_))))
 have g1:=hx.ge e1
 replace hx:=hx.trans x1
 refine dm ?_
 have ho:=m1.own (enc:=encB) (B:=w.heap.size) (l:=[]) (sz:=1) (m:=0) g1 rfl ir9 rfl sp9
 refine Xa6 (lx:=p) (e:=5) (sz:=1) (by':=1) rfl kr9 kr9 ir9 ho ((hp.ext hx)) rfl rfl (by intro x _ u hu;simp at hu;rcases hu with rfl<;>rfl) (by simp;omega) dc9 hx.size (.inl rfl) (λvm w2 ho_n x2=>?_)
 replace hx:=hx.own x2 (λi hi=>(ho.lt i hi).1)
 replace ho:=ho_n
 refine da (de Z5 (Xad ?_))
 refine ro ?_
 exact⟨_,rfl,hx,ho⟩
theorem Xj6 (B bw:Nat)(v:Value)(l:Str)(w:World)(h:Wr B bw v l w)(hl:l.length≤2001000020) :
  Calls Tryz.prog 81 [ptr bw 0].toArray w (Gives w (λu w'=>Vc.Own encB 1 5 w.heap.size w' u l)):=by
 refine cw Tryz.func81 ?_
 have hx:=Ext.refl w
 obtain⟨hm,ho⟩:=h
 refine ws λ_ Z1=>wr (da (de Z1 (ws λ_ Z2=>ws λ_ Z3=>wr (dm ?_))))
 refine dp (Xa4 kr9 rfl rfl) (de Z3 (wi (λc1=>?_) λc1=>?_))
 ·exact absurd c1 sp9
 refine Xaa (Z2 _ _ (ws λ_ Z4=>wr (dm ?_)))
 refine dz rfl (df 0 rfl (dl rfl ((hm.ext hx).at rfl) (cG (Xef l v _ ((ho.ext hx).arr ir9) hl) RX.all λvo w1 x1 hf=>?_)))
 have hsz1:=hx.size
 replace hx:=hx.trans x1
 refine da (de Z4 (Xad ?_))
 refine ro ?_
 exact⟨_,rfl,hx,hf⟩
end Go.Proofs.YtiooodckiddpmaaGreatDoor
namespace Go.Vc
open Go.RowKit
@[reducible] def c32 (c:UInt32):Value:=.int .u32 c.toNat
theorem Xft (n:Int):IntKind.u32.wrap n=n % 4294967296:=by simp [IntKind.wrap,IntKind.bits,IntKind.signed]
theorem Xe0 (a:UInt32):BitVec.ofInt 32 (a.toNat:Int)=a.toBitVec:=by
 apply BitVec.eq_of_toNat_eq
 rw[BitVec.toNat_ofInt]
 have:=a.toNat_lt
 show((a.toNat:Int) % ((2 ^ 32:Nat):Int)).toNat=a.toNat
 omega
section
variable {P:Program}{E:Env}{d:Option Tmp}{ty:TypeId}{pos:String}{af:Array Edge}{g:Option (Nat×Bool)}{w:World}{T U:TypeId}{x y:Operand}
theorem Xto {a b:UInt32}(hx:ev E x=c32 a)(hy:ev E y=c32 b):PV P ⟨d,.binOp .and T x y U,ty,pos,af,g⟩ E (c32 (a &&& b)):=by
 have:=Xed (P:=P) (dd:=d) (ty:=ty) (pos:=pos) (af:=af) (g:=g) (T:=T) (U:=U) (op:=.and) (.inl rfl) hx hy
 rwa [show Xip .and .u32 (a.toNat:Int) b.toNat=((a &&& b).toNat:Int) by
  show IntKind.u32.wrap ((BitVec.ofInt 32 (a.toNat:Int) &&& BitVec.ofInt 32 (b.toNat:Int)).toNat:Int)=_
  rw[Xe0,Xe0,Xft]
  have:=(a &&& b).toNat_lt
  show(((a &&& b).toNat:Int)) % 4294967296=_
  omega]at this
theorem Xp3 {a b:UInt32}(hx:ev E x=c32 a)(hy:ev E y=c32 b):PV P ⟨d,.binOp .or T x y U,ty,pos,af,g⟩ E (c32 (a ||| b)):=by
 have:=Xed (P:=P) (dd:=d) (ty:=ty) (pos:=pos) (af:=af) (g:=g) (T:=T) (U:=U) (op:=.or) (.inr (.inl rfl)) hx hy
 rwa [show Xip .or .u32 (a.toNat:Int) b.toNat=((a ||| b).toNat:Int) by
  show IntKind.u32.wrap ((BitVec.ofInt 32 (a.toNat:Int) ||| BitVec.ofInt 32 (b.toNat:Int)).toNat:Int)=_
  rw[Xe0,Xe0,Xft]
  have:=(a ||| b).toNat_lt
  show(((a ||| b).toNat:Int)) % 4294967296=_
  omega]at this
theorem Xon {a b:UInt32}(hx:ev E x=c32 a)(hy:ev E y=c32 b):PV P ⟨d,.binOp .xor T x y U,ty,pos,af,g⟩ E (c32 (a ^^^ b)):=by
 have:=Xed (P:=P) (dd:=d) (ty:=ty) (pos:=pos) (af:=af) (g:=g) (T:=T) (U:=U) (op:=.xor) (.inr (.inr (.inl rfl))) hx hy
 rwa [show Xip .xor .u32 (a.toNat:Int) b.toNat=((a ^^^ b).toNat:Int) by
  show IntKind.u32.wrap ((BitVec.ofInt 32 (a.toNat:Int) ^^^ BitVec.ofInt 32 (b.toNat:Int)).toNat:Int)=_
  rw[Xe0,Xe0,Xft]
  have:=(a ^^^ b).toNat_lt
  show(((a ^^^ b).toNat:Int)) % 4294967296=_
  omega]at this
theorem Xit {a b:UInt32}{k:IntKind}(hb:b.toNat<32)(hx:ev E x=c32 a)(hy:ev E y=.int k b.toNat):PV P ⟨d,.binOp .shr T x y U,ty,pos,af,g⟩ E (c32 (a >>> b)):=by
 have:=Xj5 (P:=P) (dd:=d) (ty:=ty) (pos:=pos) (af:=af) (g:=g) (T:=T) (U:=U) hx hy om9
 rwa [show((a.toNat:Int)).fdiv (2 ^ min ((b.toNat:Int)).toNat IntKind.u32.bits)=((a >>> b).toNat:Int) by
  rw[Int.toNat_natCast,show min b.toNat IntKind.u32.bits=b.toNat by show min b.toNat 32=_;omega,UInt32.toNat_shiftRight,Nat.mod_eq_of_lt hb,Nat.shiftRight_eq_div_pow,Int.fdiv_eq_ediv_of_nonneg _ (Int.le_of_lt (Int.pow_pos dc9))]
  simp]at this
theorem Xk6 {a b:UInt32}{k:IntKind}(hb:b.toNat<32)(hx:ev E x=c32 a)(hy:ev E y=.int k b.toNat):PV P ⟨d,.binOp .shl T x y U,ty,pos,af,g⟩ E (c32 (a <<< b)):=by
 have:=Xmb (P:=P) (dd:=d) (ty:=ty) (pos:=pos) (af:=af) (g:=g) (T:=T) (U:=U) hx hy om9
 rwa [show IntKind.u32.wrap ((a.toNat:Int)*2 ^ min ((b.toNat:Int)).toNat IntKind.u32.bits)=((a <<< b).toNat:Int) by
  rw[Int.toNat_natCast,show min b.toNat IntKind.u32.bits=b.toNat by show min b.toNat 32=_;omega,UInt32.toNat_shiftLeft,Nat.mod_eq_of_lt hb,Nat.shiftLeft_eq,Xft]
  simp]at this
theorem Xj7 {c:UInt8}(hx:ev E x=b8 c)(hT:(P.underlying T).isSome=true)(hU:intK P U=some .u32):PV P ⟨d,.convert T U x,ty,pos,af,g⟩ E (c32 c.toUInt32):=by
 have:=Xcj (P:=P) (d:=d) (ty:=ty) (pos:=pos) (af:=af) (g:=g) hx hT hU
 rwa [show IntKind.u32.wrap (c.toNat:Int)=(c.toUInt32.toNat:Int) by rw[Xft];have:=c.toNat_lt;simp;omega]at this
theorem Xp4 {c:UInt32}(hx:ev E x=c32 c)(hT:(P.underlying T).isSome=true)(hU:intK P U=some .u8):PV P ⟨d,.convert T U x,ty,pos,af,g⟩ E (b8 c.toUInt8):=by
 have:=Xcj (P:=P) (d:=d) (ty:=ty) (pos:=pos) (af:=af) (g:=g) hx hT hU
 rwa [show IntKind.u8.wrap (c.toNat:Int)=(c.toUInt8.toNat:Int) by rw[Xtd];simp]at this
theorem X3f {c:UInt32}(hx:ev E x=c32 c):PV P ⟨d,.unOp .neg T x,ty,pos,af,g⟩ E (c32 (0-c)):=λw=>by
 have e:IntKind.u32.wrap (-(c.toNat:Int))=((-c).toNat:Int):=by rw[Xft,UInt32.toNat_neg];have:=c.toNat_lt;simp [UInt32.size];omega
 simp [execOp,hx,Op.unary,Op.intArith,e]
theorem X3g {c:UInt32}(hx:ev E x=c32 c):PV P ⟨d,.unOp .xor T x,ty,pos,af,g⟩ E (c32 (~~~c)):=λw=>by
 have e:Xip .xor .u32 4294967295 (c.toNat:Int)=((~~~c).toNat:Int):=by
  show IntKind.u32.wrap ((BitVec.ofInt 32 ((4294967295:UInt32).toNat:Int) ^^^ BitVec.ofInt 32 (c.toNat:Int)).toNat:Int)=_
  rw[Xe0,Xe0,Xft]
  have h:(4294967295:UInt32) ^^^ c = ~~~c:=by
   apply UInt32.toBitVec_inj.1
   simp
   exact BitVec.allOnes_xor
  have:=((4294967295:UInt32) ^^^ c).toNat_lt
  show((((4294967295:UInt32) ^^^ c).toNat:Int)) % 4294967296=_
  rw[←h];omega
 have e2:(if IntKind.u32.signed=true then(-1:Int)else IntKind.u32.max)=4294967295:=by decide
 simp [execOp,hx,Op.unary,Op.intBits,e2]
 simpa [Xip]using e
end
end Go.Vc
namespace Go.Proofs.YtiooodckiddpmaaGreatDoor
open Go.Vc Go.Sp
attribute [local irreducible] W XW Dw DwT
theorem Xtp {j:Nat}{z X:UInt32}(hj:j<8)(h:crcF (8-j) z=X):crcF (8-(j+1)) (crcB z)=X:=by
 obtain⟨m,e⟩:∃m,8-j=m+1:=⟨7-j,by omega⟩
 rw[e]at h
 rw[show 8-(j+1)=m by omega]
 exact h
theorem Xtq {p:Str}{i:Nat}{c:UInt8}{v:UInt32}(h:p[i]?=some c):(p.take (i+1)).foldl crcC v=crcC ((p.take i).foldl crcC v) c:=by
 rw[List.take_add_one,h,List.foldl_append];rfl
theorem X3h (p:Str)(vp vr:Value)(w:World)(hr:Arr (λx:Value=>[x]) 1 w vr [vp])(hp:Arr encB 1 w vp p)(hpl:p.length≤2001000020) :
  Calls Tryz.prog 159 [vr].toArray w (Pure w (c32 (sumS p))):=by
 refine cw Tryz.func159 ?_
 have hx:=Ext.refl w
 refine ws λ_ Z1=>wr (da (de Z1 (ws λ_ Z2=>wr (da (de Z2 (ws λ_ Z3=>ws λ_ Z4=>wr (dm ?_)))))))
 refine dv 82 1 hr.sl (dm (de Z4 (Xab ?_)))
 refine Xaj (G:=Nat×UInt32) (λ(k,v)=>[(2,.int .u32 0),(3,c32 v),(8,vr),(9,I 1),(10,I ↑k)]) (λ(k,v) w'=>Ext w w'∧k≤1∧v=if k=0 then ~~~0 else p.foldl crcC (~~~0)) (λ(k,v)=>1-k) (0,~~~0) ?_ ?_ ?_
 ·exact zz5
 ·exact⟨hx,Nat.zero_le _,rfl⟩
 intro X1 g1 w1 hF1
 obtain⟨k,v⟩:=g1
 clear hx
 obtain⟨hx,hk1,hv⟩:=hF1
 refine ws λ_ Z5=>wr (dp (Xaf rfl rfl) (de Z5 (ws λ_ Z6=>wi (λc1=>?_) λc1=>?_)))
 ·have hk0:[vp][k]?=some vp:=by
   have e:k=0:=by omega
   subst e;rfl
  refine Xaa (Z6 _ _ (ws λ_ Z7=>Xab (ws λ_ Z8=>wr (di 82 1 hr.sl rfl (hr.lt hk0) (dl rfl (((hr.ext hx).row hk0).at0 rfl) (da (de Z8 (ws λ_ Z9=>wr (dm ?_)))))))))
  refine dv 5 1 hp.sl (dm (de Z9 (Xab ?_)))
  refine Xaj (G:=Nat×UInt32) (λ(i,u)=>[(2,.int .u32 0),(3,c32 u),(8,vr),(9,I 1),(10,I ↑k),(14,vp),(15,I ↑p.length),(16,I ↑i)]) (λ(i,u) w'=>Ext w w'∧i≤p.length∧u=(p.take i).foldl crcC (~~~0)) (λ(i,u)=>p.length-i) (0,v) ?_ ?_ ?_
  ·exact zz8
  ·exact⟨hx,Nat.zero_le _,by rw[if_pos (show k=0 by omega)]at hv;exact hv⟩
  intro X2 g2 w2 hF2
  obtain⟨i,u⟩:=g2
  clear hx
  obtain⟨hx,hi1,hu⟩:=hF2
  refine ws λ_ Z10=>wr (dp (Xaf rfl rfl) (de Z10 (ws λ_ Z11=>wi (λc2=>?_) λc2=>?_)))
  ·obtain⟨c,hk⟩:∃c,p[i]?=some c:=gtE
   refine Xaa (Z11 _ _ (ws λ_ Z12=>Xab (ws λ_ Z13=>wr (di 5 1 hp.sl rfl (hp.lt hk) (dl rfl (((hp.ext hx).row hk).at0 rfl) (da (de Z13 (ws λ_ Z14=>wr (dm (dm ?_))))))))))
   refine dp (Xj7 rfl kr9 kr9) (dp (Xon rfl rfl) (da (de Z14 (ws λ_ Z15=>wr (dm (de Z15 (Xab ?_)))))))
   refine Xaj (G:=Nat×UInt32) (λ(j,z)=>[(2,.int .u32 0),(3,c32 z),(8,vr),(9,I 1),(10,I ↑k),(14,vp),(15,I ↑p.length),(16,I ↑i),(24,I ↑j)]) (λ(j,z) w'=>Ext w w'∧j≤8∧crcF (8-j) z=crcC u c) (λ(j,z)=>8-j) (0,u ^^^ c.toUInt32) ?_ ?_ ?_
   ·exact zz9
   ·exact⟨hx,Nat.zero_le _,rfl⟩
   intro X3 g3 w3 hF3
   obtain⟨j,z⟩:=g3
   clear hx
   obtain⟨hx,hj1,hz⟩:=hF3
   refine ws λ_ Z16=>wr (dp (Xaf rfl rfl) (de Z16 (ws λ_ Z17=>wi (λc3=>?_) λc3=>?_)))
   ·refine Xaa (Z17 _ _ (ws λ_ Z18=>Xab (wr (dm ?_))))
    refine dp (Xit (b:=1) dc9 rfl rfl) (dm ?_)
    refine dp (Xto (b:=1) rfl rfl) (dp (X3f rfl) (dp (Xto (a:=0xedb88320) rfl rfl) (dp (Xon rfl rfl) (da (de Z18 (wr ?_))))))
    refine pa rfl rfl (dm (Xae (?_)))
    refine⟨(j+1,crcB z),zz9,⟨hx,by omega,Xtp om9 hz⟩,by simp only [];omega⟩
   refine Xah (Z12 _ _ (wr (pa rfl rfl (dm (Xae (?_))))))
   rw[show 8-j=0 by omega]at hz
   refine⟨(i+1,z),zz8,⟨hx,by omega,by rw[Xtq hk,←hu];exact hz⟩,by simp only [];omega⟩
  refine Xah (Z7 _ _ (wr (pa rfl rfl (dm (Xae (?_))))))
  rw[List.take_of_length_le om9]at hu
  refine⟨(k+1,u),zz5,⟨hx,by omega,by rw[if_neg om9];exact hu⟩,by simp only [];omega⟩
 refine Xah (Z3 _ _ (ws λ_ Z19=>wr (dm ?_)))
 refine dp (X3g rfl) (da (de Z19 (Xad ?_)))
 refine ro ?_
 refine⟨?_,hx⟩
 rw[show k=1 by omega,if_neg dc9]at hv
 rw[hv];rfl
theorem Xp5 (v:UInt32)(w:World) :
  Calls Tryz.prog 158 [c32 v].toArray w (Gives w (λu w'=>∃b,u=.slice (some ⟨b,0,none⟩) 4 4∧w.heap.size≤b∧Arr encB 1 w' u (Xc7 v))):=by
 refine cw Tryz.func158 ?_
 have hx:=Ext.refl w
 refine ws λ_ Z1=>wr (da (de Z1 (ws λ_ Z2=>wr (dm ?_))))
 refine dp (Xp4 rfl kr9 kr9) (dm ?_)
 refine dp (Xit (b:=8) dc9 rfl rfl) (dp (Xp4 rfl kr9 kr9) (dm ?_))
 refine dp (Xit (b:=16) dc9 rfl rfl) (dp (Xp4 rfl kr9 kr9) (dm ?_))
 refine dp (Xit (b:=24) dc9 rfl rfl) (dp (Xp4 rfl kr9 kr9) (li (e:=5) (sz:=1) (zs:=[.int .u8 0]) (pv:=[(0,_),(1,_),(2,_),(3,_)]) (cs:=[_,_,_,_]) RX.all (λb1 w1 e1 x1 m1=>?_)))
 have g1:=hx.ge e1
 replace hx:=hx.trans x1
 refine da (de Z2 (Xad ?_))
 refine ro ?_
 exact⟨_,rfl,hx,b1,rfl,g1,m1.arr (enc:=encB) (sz:=1) (l:=Xc7 v) rfl ir9 rfl (by rw[Xir];decide)⟩
theorem Xp6 {w:World}{v v':Value}{bw i:Nat}(h:Grew w v v')(hi:WrS bw v' i)(hlt:i<w.heap.size):WrS bw v i:=hi.elim .inl (λe=>Xk5 h e hlt)
theorem Xj8 {w w1:World}{v v1 v2:Value}(h:Grew w v v1)(h2:Grew w1 v1 v2)(hs:w.heap.size≤w1.heap.size):Grew w v v2:=by
 rcases h2 with e|e
 ·rcases h with e1|e1
  ·exact .inl (e.trans e1)
  ·exact .inr (λk hk=>e1 k (e▸hk))
 ·exact .inr (λk hk=>Nat.le_trans hs (e k hk))
theorem Xh4 {n:Nat}(h:n≤4611686018427387904):numI (n:Int)=numS n:=by
 unfold numI;congr 1;unfold capN;omega
theorem Xya {qs:List (Value×Str)}{k:Nat}(h:∀q∈qs,q.2.length≤1000000):(((qs.take k).map (·.2)).flatMap rowS).length≤1000010*k:=by
 induction qs generalizing k with
 | nil=>simp
 | cons a r ih=>
  cases k with
  | zero=>simp
  | succ k=>
   have h1:=ih (k:=k) (λq hq=>h q (List.mem_cons_of_mem _ hq))
   have h2:=h a List.mem_cons_self
   have h3:=Xak a.2.length
   rw[List.take_succ_cons,List.map_cons,List.flatMap_cons,List.length_append]
   unfold rowS at *
   rw[List.length_append]
   omega
theorem Xc0 (B bw:Nat)(v:Value)(l:Str)(qs:List (Value×Str))(vr:Value)(w:World)(h:Wr B bw v l w)(hl:l.length≤800000000)(hB:B≤w.heap.size)(hr:Arr (λq:Value×Str=>[q.1]) 1 w vr qs)(hq:∀q∈qs,Arr encB 1 w q.1 q.2)(hq2:∀q∈qs,q.2.length≤1000000)(hql:qs.length≤100)(hdr:qs≠[]->¬ WrS bw v (base vr).1)(hdq:∀q∈qs,q.2≠[]->¬ WrS bw v (base q.1).1) :
  Calls Tryz.prog 80 [ptr bw 0,vr].toArray w (Does (WrS bw v) w (λu w'=>u=.tuple #[]∧∃v',Wr B bw v' (l++(qs.map (·.2)).flatMap rowS) w'∧Grew w v v')):=by
 refine cw Tryz.func80 ?_
 have hx:=Vc.Mod.refl (WrS bw v) w
 obtain⟨hm,ho⟩:=h
 refine ws λ_ Z1=>wr (dm ?_)
 refine dv 82 1 hr.sl (dm (de Z1 (Xab ?_)))
 refine Xaj (G:=Nat×Value×Str) (λ(k,vc,lc)=>[(0,ptr bw 0),(6,vr),(7,I ↑qs.length),(8,I ↑k)]) (λ(k,vc,lc) w'=>Mod (WrS bw v) w w'∧k≤qs.length∧Blk w' bw [vc] 142∧Vc.Own encB 1 5 B w' vc lc∧lc=l++((qs.take k).map (·.2)).flatMap rowS∧Grew w v vc) (λ(k,vc,lc)=>qs.length-k) (0,v,l) ?_ ?_ ?_
 ·exact zz4
 ·exact⟨hx,Nat.zero_le _,hm,ho,by simp,.inl rfl⟩
 intro X1 g1 w1 hF1
 obtain⟨k,vc,lc⟩:=g1
 clear hx
 obtain⟨hx,hk1,hm,ho,hlc,hgr⟩:=hF1
 refine ws λ_ Z2=>wr (dp (Xaf rfl rfl) (de Z2 (ws λ_ Z3=>wi (λc1=>?_) λc1=>?_)))
 ·obtain⟨q,hk⟩:∃q,qs[k]?=some q:=gtE
  have hlcl:lc.length≤900001000:=by
   rw[hlc];simp only [List.length_append];have h1:=Xya (k:=k) hq2;omega
  have hnl2:(numI ↑q.2.length).length≤10:=Xak _
  refine Xaa (Z3 _ _ (ws λ_ Z4=>Xab (ws λ_ Z5=>wr (di 82 1 hr.sl rfl (hr.lt hk) (dl rfl (((hr.mod hx hdr).row hk).at0 rfl) (da (de Z5 (ws λ_ Z6=>wr (dm (dm ?_))))))))))
  refine dv 5 1 ((hq q (List.mem_of_getElem? hk)).mod hx (hdq q (List.mem_of_getElem? hk))).sl (li (e:=3) (sz:=1) (zs:=[.int .i64 0]) (pv:=[(0,_)]) (cs:=[_]) RX.all (λb1 w2 e1 x2 m1=>?_))
  have g1:=hx.ge e1
  have a1_hm:=hm.lt
  have o1_ho:=ho.ltb e1
  replace hm:=hm.ext x2
  replace ho:=ho.ext x2
  replace hx:=hx.ext x2
  refine cD (Xcr B bw vc lc [↑q.2.length] (.slice (some ⟨b1,0,none⟩) 1 1) _ ⟨hm,ho⟩ om9 (Nat.le_trans hB hx.size) (m1.arr (enc:=Vc.encI) (sz:=1) (l:=[↑q.2.length]) rfl ir9 rfl sp9) sp9 (λk hk _ e=>by have e2:b1=k:=e;exact hk.elim (λh=>by omega) (λh=>by have:=o1_ho _ h;omega))) (.inl rfl) λu3 w3 x3 hf3=>?_
  have hsz3:=hx.size
  replace hx:=hx.own x3 (λi hi hlt=>Xp6 hgr hi hlt)
  obtain⟨rfl,v2,⟨hm,ho⟩,hg2⟩:=hf3
  replace hgr:=Xj8 hgr hg2 hsz3
  refine de Z6 (wr (dm (dm ?_)))
  refine cD (X6v B bw v2 _ q.2 q.1 _ ⟨hm,ho⟩ (by simp;omega) (Nat.le_trans hB hx.size) ((hq q (List.mem_of_getElem? hk)).mod hx (hdq q (List.mem_of_getElem? hk))) (by have:=hq2 q (List.mem_of_getElem? hk);omega)) (.inl rfl) λu4 w4 x4 hf4=>?_
  have hsz4:=hx.size
  replace hx:=hx.own x4 (λi hi hlt=>Xp6 hgr hi hlt)
  obtain⟨rfl,v3,⟨hm,ho⟩,hg3⟩:=hf4
  replace hgr:=Xj8 hgr hg3 hsz4
  refine de Z4 (wr (pa rfl rfl (dm (Xae (?_)))))
  refine⟨(k+1,v3,_),zz4,⟨hx,by omega,hm,ho,?_,hgr⟩,by simp only [];omega⟩
  rw[hlc,List.take_add_one,hk]
  have hq3:=hq2 q (List.mem_of_getElem? hk)
  simp [rowS,Xh4 (n:=q.2.length) om9]
 refine Xah (Xa5 (Xav rfl ?_))
 rw[List.take_of_length_le om9]at hlc
 subst hlc
 exact⟨_,rfl,hx,rfl,vc,⟨hm,ho⟩,hgr⟩
structure Rd (br bb:Nat)(v:Value)(l:Str)(bad:Bool)(w:World):Prop where
 m:Blk w br [v,B bad] 273
 a:Arr encB 1 w v l
 n:l≠[]->(base v).1=bb∧bb≠br
theorem Rd.ext {br bb:Nat}{v:Value}{l:Str}{bad:Bool}{w w':World}(h:Rd br bb v l bad w)(x:Ext w w'):Rd br bb v l bad w':=⟨h.m.ext x,h.a.ext x,h.n⟩
@[reducible] def RdS (br bb:Nat) (l:Str):Nat->Prop:=λk=>k=br∨(l≠[]∧k=bb)
theorem Rd.mod {br bb:Nat}{v:Value}{l:Str}{bad:Bool}{S:Nat->Prop}{w w':World}(h:Rd br bb v l bad w)(x:Vc.Mod S w w')(hS:∀k,RdS br bb l k->¬ S k):Rd br bb v l bad w':=
 ⟨h.m.mod x (hS _ (.inl rfl)),h.a.mod x (λhl=>by rw[(h.n hl).1];exact hS _ (.inr ⟨hl,rfl⟩)),h.n⟩
theorem Rd.lt {br bb:Nat}{v:Value}{l:Str}{bad:Bool}{w:World}(h:Rd br bb v l bad w):∀k,RdS br bb l k->k<w.heap.size:=by
 rintro k (rfl|⟨hl,rfl⟩)
 ·exact h.m.lt
 ·rw[←(h.n hl).1];exact h.a.base_lt dc9 hl
theorem Xcs {α:Type}{l:List α}{k:Nat}{c:α}(h:l[k]?=some c):l.drop k=c :: l.drop (k+1):=by
 obtain⟨hk,rfl⟩:=List.getElem?_eq_some_iff.1 h
 exact List.drop_eq_getElem_cons hk
theorem Xa0 {α:Type}{l:List α}{k:Nat}{c:α}(h:l[k]?=some c):l.take (k+1)=l.take k++[c]:=by
 obtain⟨hk,rfl⟩:=List.getElem?_eq_some_iff.1 h
 exact List.take_succ_eq_append_getElem hk
def rNum (l:Str)(bad:Bool):Nat×Str×Bool:=match numR 0 0 l with
 | some (n,r)=>(n,r,bad)
 | none=>(0,[],true)
def rRaw (n:Int)(l:Str)(bad:Bool):Str×Str×Bool:=if n<0∨(l.length:Int)<n then([],[],true)else(l.take n.toNat,l.drop n.toNat,bad)
def Xmi (l:Str)(bad:Bool):Str×Str×Bool:=rRaw (rNum l bad).1 (rNum l bad).2.1 (rNum l bad).2.2
theorem Xd3 {n:Nat}(r:Str)(bad:Bool)(h:n≤4611686018427387904):rNum (numS n++r) bad=(n,r,bad):=by unfold rNum;rw[Xtj r h]
theorem Xeg (p r:Str)(bad:Bool)(h:p.length≤4611686018427387904):Xmi (rowS p++r) bad=(p,r,bad):=by
 unfold Xmi rowS
 rw[List.append_assoc,Xd3 _ _ h]
 unfold rRaw
 rw[if_neg (by simp;omega)]
 simp
theorem Xyb {i u:Nat}{l r:Str}{n:Nat} : numR i u l=some (n,r)->r.length≤l.length:=by
 induction l generalizing i u with
 | nil=>intro h;simp [numR]at h
 | cons c l ih=>
  intro h
  unfold numR at h
  split at h
  ·cases h
  ·split at h
   ·split at h
    ·cases h
    ·cases h;simp
   ·have:=ih h;simp;omega
theorem Xp7 (l:Str)(bad:Bool):(rNum l bad).2.1.length≤l.length:=by
 unfold rNum
 split
 ·rename_i h;exact Xyb h
 ·simp
theorem X3i {i u:Nat}{l r:Str}{n:Nat} : numR i u l=some (n,r)->n≤4611686018427387904:=by
 induction l generalizing i u with
 | nil=>intro h;simp [numR]at h
 | cons c l ih=>
  intro h
  unfold numR at h
  split at h
  ·cases h
  ·split at h
   ·split at h
    ·cases h
    ·cases h;omega
   ·exact ih h
theorem Xiu (p:Str)(vp:Value)(w:World)(hp:Arr encB 1 w vp p)(hpl:p.length≤2001000020) :
  Calls Tryz.prog 118 [vp].toArray w (Gives w (λu w'=>∃br bb v,u=ptr br 0∧w.heap.size≤br∧(p≠[]->w.heap.size≤bb)∧Rd br bb v p false w')):=by
 refine cw Tryz.func118 ?_
 have hx:=Ext.refl w
 refine ws λ_ Z1=>wr (da (de Z1 (ws λ_ Z2=>wr (dm ?_))))
 refine cG (Xef p vp _ (hp.ext hx) hpl) RX.all λvo w1 x1 hf=>?_
 have hsz1:=hx.size
 replace hx:=hx.trans x1
 refine dp (Xfd (zs:=[.slice none 0 0,B false]) (pl:=[(0,1),(1,1)]) (pv:=[(0,?a3_0)]) (cs:=[?a3_0,B false]) kr9 kr9 ?h3 ?f3) ?k3
 case h3=>refine⟨rfl,?_,trivial⟩<;>(conv=>lhs;whnf)
 case f3=>rcases hf.sl with⟨e,_⟩|⟨_,_,_,e,_⟩|⟨_,_,_,e⟩<;>rw[e]<;>rfl
 refine Xbf rfl rfl rfl RX.all (λb1 w2 e1 x2 m1=>?_)
 have g1:=hx.ge e1
 have o1_hf:=hf.ltb e1
 replace hf:=hf.ext x2
 replace hx:=hx.trans x2
 refine da (de Z2 (Xad ?_))
 refine ro ?_
 exact⟨_,rfl,hx,b1,(base vo).1,vo,rfl,g1,λhl=>(hf.base_ge hl).1,⟨m1,hf.arr ir9,λhl=>⟨rfl,λe=>hf.ne_blk m1 rfl (e▸hf.base_block hl)⟩⟩⟩
theorem X6w (br bb:Nat)(v:Value)(l:Str)(bad:Bool)(w:World)(h:Rd br bb v l bad w) :
  Calls Tryz.prog 260 [ptr br 0].toArray w (Pure w (I ↑l.length)):=by
 refine cw Tryz.func260 ?_
 have hx:=Ext.refl w
 obtain⟨hm,ha,hn⟩:=h
 refine ws λ_ Z1=>wr (da (de Z1 (ws λ_ Z2=>ws λ_ Z3=>wr (dm ?_))))
 refine dp (Xa4 kr9 rfl rfl) (de Z3 (wi (λc1=>?_) λc1=>?_))
 ·exact absurd c1 sp9
 refine Xaa (Z2 _ _ (ws λ_ Z4=>wr (dm ?_)))
 refine dz rfl (df 0 rfl (dl rfl ((hm.ext hx).at rfl) (dv 5 1 (ha.ext hx).sl (da (de Z4 (Xad ?_))))))
 refine ro ?_
 exact⟨rfl,hx⟩
theorem X05 (br bb:Nat)(v:Value)(l:Str)(bad:Bool)(w:World)(h:Rd br bb v l bad w) :
  Calls Tryz.prog 120 [ptr br 0].toArray w (Pure w (B (!bad))):=by
 refine cw Tryz.func120 ?_
 have hx:=Ext.refl w
 obtain⟨hm,ha,hn⟩:=h
 refine ws λ_ Z1=>wr (da (de Z1 (ws λ_ Z2=>wr (dm ?_))))
 refine dp (Xma kr9 rfl rfl) (dm ?_)
 refine Xag 5 rfl (λc1=>?_) (λc1=>?_)
 ·refine dm ?_
  refine dz rfl (df 1 rfl (dl rfl ((hm.ext hx).at rfl) (dn ?_)))
  refine dk' ?_
  refine da (de Z2 (Xad ?_))
  refine ro ?_
  exact⟨rfl,hx⟩
 exact absurd sp9 c1
theorem Xoo (br bb:Nat)(v:Value)(l:Str)(bad:Bool)(w:World)(h:Rd br bb v l bad w) :
  Calls Tryz.prog 258 [ptr br 0].toArray w (Does (oneB br) w (λu w'=>u=.tuple #[]∧Rd br bb (.slice none 0 0) [] true w')):=by
 refine cw Tryz.func258 ?_
 have hx:=Ext.refl w
 obtain⟨hm,ha,hn⟩:=h
 refine ws λ_ Z1=>wr (dm ?_)
 refine dp (Xma kr9 rfl rfl) (de Z1 (wi (λc1=>?_) λc1=>?_))
 ·refine wr (dm (dm ?_))
  refine dz rfl (df 0 rfl (st1 hm (λw1 x1 xs1 hm=>?_)))
  try dsimp only [Xal,List.set,List.take,List.drop]at hm
  replace hx:=(hx.mod x1).mono (λi hi _=>(hi:(oneB br) i))
  refine dz rfl (df 1 rfl (st1 hm (λw2 x2 xs2 hm=>?_)))
  try dsimp only [Xal,List.set,List.take,List.drop]at hm
  replace hx:=hx.own x2 (λi hi _=>hi)
  refine Xae ((Xa5 (Xav rfl ?_)))
  exact⟨_,rfl,hx,rfl,⟨hm,Arr.nil,λh=>absurd rfl h⟩⟩
 exact absurd sp9 c1
theorem X3j (br bb:Nat)(v:Value)(l:Str)(bad:Bool)(w:World)(h:Rd br bb v l bad w) :
  Calls Tryz.prog 188 [ptr br 0].toArray w (Pure w (B (!bad && decide (l.length=0)))):=by
 refine cw Tryz.func188 ?_
 have hx:=Ext.refl w
 obtain⟨hm,ha,hn⟩:=h
 refine ws λ_ Z1=>wr (da (de Z1 (ws λ_ Z2=>wr (dm ?_))))
 refine cP (X05 br bb v l bad _ ⟨hm.ext hx,ha.ext hx,hn⟩) RX.all λw1 x1=>?_
 replace hx:=hx.trans x1
 refine dm ?_
 refine Xb7 5 rfl (λc1=>?_) (λc1=>?_)
 ·refine dm ?_
  refine dz rfl (df 0 rfl (dl rfl ((hm.ext hx).at rfl) (dv 5 1 (ha.ext hx).sl (dp (Xa9 rfl rfl) (dk' ?_)))))
  refine da (de Z2 (Xad ?_))
  refine ro ?_
  refine⟨?_,hx⟩
  cases bad<;>simp_all
 refine dk (dk (dk (dk (dk (dk (dk' ?_))))))
 refine da (de Z2 (Xad ?_))
 refine ro ?_
 refine⟨?_,hx⟩
 cases bad<;>simp_all
section
variable {P:Program}{E:Env}{dd:Option Tmp}{ty:TypeId}{pos:String}{af:Array Edge}{g:Option (Nat×Bool)}{x y:Operand}{T U:TypeId}
theorem Xp8 {c:UInt8}(hx:ev E x=b8 (c &&& 127))(hT:(P.underlying T).isSome=true)(hU:intK P U=some .u64):PV P ⟨dd,.convert T U x,ty,pos,af,g⟩ E (.int .u64 ((c.toNat % 128:Nat):Int)):=by
 have:=Xcj (P:=P) (d:=dd) (ty:=ty) (pos:=pos) (af:=af) (g:=g) hx hT hU
 have e:(c &&& 127).toNat=c.toNat % 128:=by
  rw[UInt8.toNat_and];exact Nat.and_two_pow_sub_one_eq_mod c.toNat 7
 rw[e,Xmh om9]at this
 exact this
theorem pow7 {i:Nat}(hi:i<9):128*128 ^ i≤9223372036854775808:=by
 have:(128:Nat) ^ i≤128 ^ 8:=Nat.pow_le_pow_right dc9 om9
 have e:(128:Nat) ^ 8=72057594037927936:=by decide
 omega
theorem Xtr {m i:Nat}(hx:ev E x=.int .u64 (m:Nat))(hy:ev E y=I (7*(i:Int)))(hm:m<128)(hi:i<9):PV P ⟨dd,.binOp .shl T x y U,ty,pos,af,g⟩ E (.int .u64 ((m*128 ^ i:Nat):Int)):=by
 have:=Xmb (P:=P) (dd:=dd) (ty:=ty) (pos:=pos) (af:=af) (g:=g) (T:=T) (U:=U) hx hy om9
 have e:(m:Int)*2 ^ min (7*(i:Int)).toNat IntKind.u64.bits=((m*128 ^ i:Nat):Int):=by
  have e1:min (7*(i:Int)).toNat IntKind.u64.bits=7*i:=by
   have:IntKind.u64.bits=64:=rfl
   rw[this];omega
  rw[e1,Nat.pow_mul' 2 7 i |> λh=>(by rw[Int.natCast_mul,Int.natCast_pow,show((128:Nat):Int)=2 ^ 7 by decide,←Int.pow_mul]:((m*128 ^ i:Nat):Int)=(m:Int)*2 ^ (7*i))]
 rw[e,Xmh]at this
 ·exact this
 ·have h1:=pow7 hi
  have:m*128 ^ i<128*128 ^ i:=Nat.mul_lt_mul_of_pos_right hm (Nat.pow_pos dc9)
  omega
theorem X06 {u m i:Nat}(hx:ev E x=.int .u64 (u:Nat))(hy:ev E y=.int .u64 ((m*128 ^ i:Nat):Int))(hu:u<128 ^ i)(hm:m<128)(hi:i<9):PV P ⟨dd,.binOp .or T x y U,ty,pos,af,g⟩ E (.int .u64 ((u+m*128 ^ i:Nat):Int)):=by
 have:=Xed (P:=P) (dd:=dd) (ty:=ty) (pos:=pos) (af:=af) (g:=g) (T:=T) (U:=U) (op:=.or) (.inr (.inl rfl)) hx hy
 have h1:=pow7 hi
 have h2:m*128 ^ i<128*128 ^ i:=Nat.mul_lt_mul_of_pos_right hm (Nat.pow_pos dc9)
 have h3:u ||| m*128 ^ i=u+m*128 ^ i:=by
  have e:(128:Nat) ^ i=2 ^ (7*i):=by rw[Nat.pow_mul]
  rw[e]at hu ⊢
  rw[Nat.or_comm,Nat.mul_comm,←Nat.two_pow_add_eq_or_of_lt hu,Nat.add_comm]
 have e:Xip .or .u64 (u:Int) ((m*128 ^ i:Nat):Int)=((u+m*128 ^ i:Nat):Int):=by
  show IntKind.u64.wrap (((BitVec.ofInt 64 (u:Int) ||| BitVec.ofInt 64 ((m*128 ^ i:Nat):Int)).toNat:Nat):Int)=_
  rw[BitVec.ofInt_natCast,BitVec.ofInt_natCast,BitVec.toNat_or,BitVec.toNat_ofNat,BitVec.toNat_ofNat,Nat.mod_eq_of_lt om9,Nat.mod_eq_of_lt om9,h3,Xmh om9]
 rw[e]at this
 exact this
end
theorem Xyc (k:Nat)(v:Value)(a b:Nat):(base (slV k v a b)).1=(base v).1:=by
 cases v with
 | slice p n c=>
  cases p with
  | none=>rfl
  | some a'=>
   unfold slV
   simp only [base]
   split
   ·rfl
   ·unfold Addr.add;split<;>rfl
 | _=>rfl
theorem Xop {k m:Nat}{v:Value}{a b:Nat}(h:isSl v m):(slV k v a b).oneCell'=true:=by
 rcases h with⟨rfl,_⟩|⟨_,_,_,rfl,_⟩|⟨_,_,_,rfl⟩<;>rfl
theorem Xts {l:Str}{bad:Bool}(h:numR 0 0 l=none):rNum l bad=(0,[],true):=by unfold rNum;rw[h]
theorem Xtt {l r:Str}{n:Nat}{bad:Bool}(h:numR 0 0 l=some (n,r)):rNum l bad=(n,r,bad):=by unfold rNum;rw[h]
theorem Xmj {i u:Nat}{c:UInt8}{r:Str}(h:9≤i∨(0<i∧c=0)):numR i u (c :: r)=none:=by unfold numR;rw[if_pos h]
theorem Xgk {i u:Nat}{c:UInt8}{r:Str}(h:¬ (9≤i∨(0<i∧c=0)))(hc:c.toNat<128):numR i u (c :: r)=if 4611686018427387904<u+c.toNat % 128*128 ^ i then none else some (u+c.toNat % 128*128 ^ i,r):=by
 rw[numR.eq_def];simp only [];rw[if_neg h,if_pos hc]
theorem Xmk {i u:Nat}{c:UInt8}{r:Str}(h:¬ (9≤i∨(0<i∧c=0)))(hc:¬ c.toNat<128):numR i u (c :: r)=numR (i+1) (u+c.toNat % 128*128 ^ i) r:=by
 rw[numR.eq_def];simp only [];rw[if_neg h,if_neg hc]
theorem Xtu {i u m:Nat}(hu:u<128 ^ i)(hm:m<128):u+m*128 ^ i<128 ^ (i+1):=by
 rw[Nat.pow_succ]
 have:m*128 ^ i≤127*128 ^ i:=Nat.mul_le_mul_right _ om9
 omega
theorem Xiv {br bb:Nat}{l:Str}{bad:Bool}{w':World}(h:numR 0 0 l=none)(hR:Rd br bb (.slice none 0 0) [] true w'):I 0=I ↑(rNum l bad).1∧∃v',Rd br bb v' (rNum l bad).2.1 (rNum l bad).2.2 w':=by
 rw[Xts h];exact⟨rfl,_,hR⟩
theorem Xp9 {br bb:Nat}{l r:Str}{bad:Bool}{v':Value}{w':World}{n:Nat}(h:numR 0 0 l=some (n,r))(hR:Rd br bb v' r bad w'):(.int .i64 (IntKind.i64.wrap (n:Int)))=I ↑(rNum l bad).1∧∃v',Rd br bb v' (rNum l bad).2.1 (rNum l bad).2.2 w':=by
 rw[Xtt h,Xcx (by have:=X3i h;unfold Xai;omega)];exact⟨rfl,_,hR⟩
theorem Xqa {br bb:Nat}{v:Value}{l:Str}{bad:Bool}{w w':World}{lo hi:Nat}(h:Rd br bb v l bad w)(hx:Vc.Mod (oneB br) w w')(h1:lo≤hi)(h2:hi≤l.length):Arr encB 1 w' (slV 1 v lo hi) ((l.take hi).drop lo)∧((l.take hi).drop lo≠[]->(base (slV 1 v lo hi)).1=bb∧bb≠br):=by
 have hne:(l.take hi).drop lo≠[]->l≠[]:=λe e2=>e (by rw[e2];simp)
 have hb:(l.take hi).drop lo≠[]->(base (slV 1 v lo hi)).1=bb∧bb≠br:=λe=>by rw[Xyc];exact h.n (hne e)
 exact⟨(h.a.slice h1 h2).mod hx (λe e2=>(hb e).2 ((hb e).1▸e2)),hb⟩
theorem Xoq {br bb:Nat}{v:Value}{l:Str}{bad:Bool}{w w':World}{lo:Nat}(h:Rd br bb v l bad w)(hx:Vc.Mod (oneB br) w w')(h1:lo≤l.length)(hm:Blk w' br [slV 1 v lo l.length,B bad] 273):Rd br bb (slV 1 v lo l.length) (l.drop lo) bad w':=by
 have:=Xqa h hx h1 (Nat.le_refl _)
 rw[List.take_length]at this
 exact⟨hm,this.1,this.2⟩
theorem Xqb {n:Int}{l:Str}{bad:Bool}(h:n<0∨(l.length:Int)<n):rRaw n l bad=([],[],true):=by unfold rRaw;rw[if_pos h]
theorem Xtv {n:Int}{l:Str}{bad:Bool}(h:¬ (n<0∨(l.length:Int)<n)):rRaw n l bad=(l.take n.toNat,l.drop n.toNat,bad):=by unfold rRaw;rw[if_neg h]
def Xe1 : Nat->Str->Bool->List Nat×Str×Bool
 | 0,l,bad=>([],l,bad)
 | k+1,l,bad=>((rNum l bad).1 :: (Xe1 k (rNum l bad).2.1 (rNum l bad).2.2).1,(Xe1 k (rNum l bad).2.1 (rNum l bad).2.2).2)
def wrote (Cs:Nat->List Value):List (Nat×Nat)->List Nat->Nat->List Value
 | (b,o) :: ps,n :: ns=>wrote (λk=>if k=b then(Cs b).set o (I ↑n)else Cs k) ps ns
 | _,_=>Cs
theorem Xtw {l:Str}{bad:Bool}(h:(rNum l bad).2.1≠[]):l≠[]:=by
 rintro rfl;exact h rfl
theorem Xct {br bb:Nat}{l l':Str}(h:l'≠[]->l≠[]){k:Nat}(hk:RdS br bb l' k):RdS br bb l k:=hk.imp id λ⟨h1,h2⟩=>⟨h h1,h2⟩
theorem Xj9 (k:Nat)(l:Str)(bad:Bool):Xe1 (k+1) l bad=((rNum l bad).1 :: (Xe1 k (rNum l bad).2.1 (rNum l bad).2.2).1,(Xe1 k (rNum l bad).2.1 (rNum l bad).2.2).2):=rfl
theorem Xyd (br bb:Nat)(v:Value)(l:Str)(bad:Bool)(w:World)(h:Rd br bb v l bad w)(hll:l.length≤2001000020) :
  Calls Tryz.prog 187 [ptr br 0].toArray w (Does (oneB br) w (λu w'=>u=I ↑(rNum l bad).1∧∃v',Rd br bb v' (rNum l bad).2.1 (rNum l bad).2.2 w')):=by
 refine cw Tryz.func187 ?_
 have hx:=Ext.refl w
 obtain⟨hm,ha,hn⟩:=h
 have hR0:Rd br bb v l bad w:=⟨hm,ha,hn⟩
 refine ws λ_ Z1=>wr (da (de Z1 (ws λ_ Z2=>ws λ_ Z3=>wr (dm ?_))))
 refine dp (Xa4 kr9 rfl rfl) (de Z3 (wi (λc1=>?_) λc1=>?_))
 ·exact absurd c1 sp9
 refine Xaa (Z2 _ _ (ws λ_ Z4=>wr (da (de Z4 (ws λ_ Z5=>ws λ_ Z6=>wr (dm ?_))))))
 refine dz rfl (df 0 rfl (dl rfl ((hm.ext hx).at rfl) (dv 5 1 (ha.ext hx).sl (dm (de Z6 (Xab ?_))))))
 refine Xaj (G:=Nat×Nat) (λ(k,u)=>[(0,ptr br 0),(3,.int .u64 ↑u),(11,v),(12,I ↑l.length),(13,I ↑k)]) (λ(k,u) w'=>Ext w w'∧k≤l.length∧k≤9∧u<128 ^ k∧numR 0 0 l=numR k u (l.drop k)) (λ(k,u)=>l.length-k) (0,0) ?_ ?_ ?_
 ·exact zz5
 ·exact⟨hx,Nat.zero_le _,Nat.zero_le _,by simp,rfl⟩
 intro X1 g1 w1 hF1
 obtain⟨k,u⟩:=g1
 clear hx
 obtain⟨hx,hk1,hk2,hu,hN⟩:=hF1
 refine ws λ_ Z7=>wr (dp (Xaf rfl rfl) (de Z7 (ws λ_ Z8=>wi (λc2=>?_) λc2=>?_)))
 ·obtain⟨c,hk⟩:∃c,l[k]?=some c:=gtE
  have hdr:=Xcs hk
  refine Xaa (Z8 _ _ (ws λ_ Z9=>Xab (ws λ_ Z10=>wr (dm ?_))))
  refine di 5 1 (ha.ext hx).sl rfl ((ha.ext hx).lt hk) (dl rfl (((ha.ext hx).row hk).at0 rfl) (da (da (de Z10 (ws λ_ Z11=>ws λ_ Z12=>wr (dm ?_))))))
  refine dp (Xcg rfl rfl) (dm ?_)
  refine Xag 20 rfl (λc3=>?_) (λc3=>?_)
  ·refine dk (dk (dk (dk (dk (dk (dk' (de Z12 ?_)))))))
   refine W_t rfl (Xah (Z5 _ _ (ws λ_ Z13=>wr (dm ?_))))
   refine cD (Xoo br bb v l bad _ (hR0.ext hx)) (.inl rfl) λu2 w2 x2 hf2=>?_
   have hsz2:=hx.size
   replace hx:=(hx.mod x2).mono (λi hi _=>(hi:(oneB br) i))
   obtain⟨rfl,hRb⟩:=hf2
   refine de Z13 (ws λ_ Z14=>wr (da (de Z14 (Xad ?_))))
   refine ro ?_
   exact⟨_,rfl,hx,Xiv (by rw[hN,hdr];exact Xmj (.inl om9)) hRb⟩
  refine dm ?_
  refine dp (Xaw rfl rfl) (dm ?_)
  refine Xag 23 rfl (λc4=>?_) (λc4=>?_)
  ·refine dm ?_
   refine dp (Xok (b:=0) rfl rfl) (dk' ?_)
   refine dk' (de Z12 ?_)
   refine wi (λc5=>?_) λc5=>?_
   ·refine Xah (Z5 _ _ (ws λ_ Z15=>wr (dm ?_)))
    refine cD (Xoo br bb v l bad _ (hR0.ext hx)) (.inl rfl) λu3 w3 x3 hf3=>?_
    have hsz3:=hx.size
    replace hx:=(hx.mod x3).mono (λi hi _=>(hi:(oneB br) i))
    obtain⟨rfl,hRb⟩:=hf3
    refine de Z15 (ws λ_ Z16=>wr (da (de Z16 (Xad ?_))))
    refine ro ?_
    exact⟨_,rfl,hx,Xiv (by rw[hN,hdr];exact Xmj (.inr ⟨by omega,c5⟩)) hRb⟩
   refine Xaa (Z11 _ _ (ws λ_ Z17=>wr (dm (dm ?_))))
   refine dp (Xol (b:=127) rfl rfl) (dp (Xp8 rfl kr9 kr9) (dm ?_))
   refine dp (Xen rfl rfl (by unfold Xai;omega)) (dp (Xtr rfl rfl (Nat.mod_lt _ dc9) om9) (dp (X06 rfl rfl hu (Nat.mod_lt _ dc9) om9) (da (de Z17 (ws λ_ Z18=>wr (dm ?_))))))
   refine dp (Xtg (b:=128) rfl rfl) (de Z18 (wi (λc6=>?_) λc6=>?_))
   ·have hst:¬ (9≤k∨(0<k∧c=0)):=by
     rintro (h|⟨h,h2⟩)
     ·omega
     ·exact c5 h2
    have hc8:=UInt8.lt_iff_toNat_lt.1 c6
    refine ws λ_ Z19=>ws λ_ Z20=>wr (dm ?_)
    refine dp (Xaw rfl rfl) (de Z20 (wi (λc7=>?_) λc7=>?_))
    ·refine Xah (Z5 _ _ (ws λ_ Z21=>wr (dm ?_)))
     refine cD (Xoo br bb v l bad _ (hR0.ext hx)) (.inl rfl) λu4 w4 x4 hf4=>?_
     have hsz4:=hx.size
     replace hx:=(hx.mod x4).mono (λi hi _=>(hi:(oneB br) i))
     obtain⟨rfl,hRb⟩:=hf4
     refine de Z21 (ws λ_ Z22=>wr (da (de Z22 (Xad ?_))))
     refine ro ?_
     exact⟨_,rfl,hx,Xiv (by rw[hN,hdr,Xgk hst hc8,if_pos om9]) hRb⟩
    refine Xaa (Z19 _ _ (ws λ_ Z23=>wr (dm (dm ?_))))
    refine dz rfl (df 0 rfl (dl rfl ((hm.ext hx).at rfl) (dm ?_)))
    refine pa rfl rfl (dp (Xc1 (e:=5) (k:=1) kr9 (ha.ext hx).sl rfl rfl rfl (show k+1≤l.length by omega) (Nat.le_refl _)) (dz rfl (df 0 rfl (st1 (hm.ext hx) (λw5 x5 xs5 hm=>?_) (hv:=by first|rfl|exact Xop (k:=1) (a:=k+1) (b:=l.length) ha.sl|exact isSl.one ha.sl|exact isSl.one (ha.ext hx).sl)))))
    try dsimp only [Xal,List.set,List.take,List.drop]at hm
    replace hx:=(hx.mod x5).mono (λi hi _=>(hi:(oneB br) i))
    refine de Z23 (ws λ_ Z24=>wr (dm ?_))
    refine dp (Xcj (k:=.i64) rfl kr9 kr9) (da (de Z24 (Xad ?_)))
    refine ro ?_
    exact⟨_,rfl,hx,Xp9 (by rw[hN,hdr,Xgk hst hc8,if_neg om9]) (Xoq hR0 hx om9 hm)⟩
   have hst:¬ (9≤k∨(0<k∧c=0)):=by
    rintro (h|⟨h,h2⟩)
    ·omega
    ·exact c5 h2
   have hc8:¬ c.toNat<128:=λh=>c6 (UInt8.lt_iff_toNat_lt.2 h)
   refine Xaa (Z9 _ _ (wr (pa rfl rfl (dm (Xae (?_))))))
   refine⟨(k+1,_),zz5,⟨hx,by omega,by omega,Xtu hu (Nat.mod_lt _ dc9),by rw[hN,hdr,Xmk hst hc8]⟩,by simp only [];omega⟩
  refine dk (dk (dk' ?_))
  refine dk' (de Z12 ?_)
  refine W_f rfl (Xaa (Z11 _ _ (ws λ_ Z25=>wr (dm (dm ?_)))))
  refine dp (Xol (b:=127) rfl rfl) (dp (Xp8 rfl kr9 kr9) (dm ?_))
  refine dp (Xen rfl rfl (by unfold Xai;omega)) (dp (Xtr rfl rfl (Nat.mod_lt _ dc9) om9) (dp (X06 rfl rfl hu (Nat.mod_lt _ dc9) om9) (da (de Z25 (ws λ_ Z26=>wr (dm ?_))))))
  refine dp (Xtg (b:=128) rfl rfl) (de Z26 (wi (λc8=>?_) λc8=>?_))
  ·have hst:¬ (9≤k∨(0<k∧c=0)):=by rintro (h|⟨h,_⟩)<;>omega
   have hc8:=UInt8.lt_iff_toNat_lt.1 c8
   refine ws λ_ Z27=>ws λ_ Z28=>wr (dm ?_)
   refine dp (Xaw rfl rfl) (de Z28 (wi (λc9=>?_) λc9=>?_))
   ·refine Xah (Z5 _ _ (ws λ_ Z29=>wr (dm ?_)))
    refine cD (Xoo br bb v l bad _ (hR0.ext hx)) (.inl rfl) λu6 w6 x6 hf6=>?_
    have hsz6:=hx.size
    replace hx:=(hx.mod x6).mono (λi hi _=>(hi:(oneB br) i))
    obtain⟨rfl,hRb⟩:=hf6
    refine de Z29 (ws λ_ Z30=>wr (da (de Z30 (Xad ?_))))
    refine ro ?_
    exact⟨_,rfl,hx,Xiv (by rw[hN,hdr,Xgk hst hc8,if_pos om9]) hRb⟩
   refine Xaa (Z27 _ _ (ws λ_ Z31=>wr (dm (dm ?_))))
   refine dz rfl (df 0 rfl (dl rfl ((hm.ext hx).at rfl) (dm ?_)))
   refine pa rfl rfl (dp (Xc1 (e:=5) (k:=1) kr9 (ha.ext hx).sl rfl rfl rfl (show k+1≤l.length by omega) (Nat.le_refl _)) (dz rfl (df 0 rfl (st1 (hm.ext hx) (λw7 x7 xs7 hm=>?_) (hv:=by first|rfl|exact Xop (k:=1) (a:=k+1) (b:=l.length) ha.sl|exact isSl.one ha.sl|exact isSl.one (ha.ext hx).sl)))))
   try dsimp only [Xal,List.set,List.take,List.drop]at hm
   replace hx:=(hx.mod x7).mono (λi hi _=>(hi:(oneB br) i))
   refine de Z31 (ws λ_ Z32=>wr (dm ?_))
   refine dp (Xcj (k:=.i64) rfl kr9 kr9) (da (de Z32 (Xad ?_)))
   refine ro ?_
   exact⟨_,rfl,hx,Xp9 (by rw[hN,hdr,Xgk hst hc8,if_neg om9]) (Xoq hR0 hx om9 hm)⟩
  have hst:¬ (9≤k∨(0<k∧c=0)):=by rintro (h|⟨h,_⟩)<;>omega
  have hc8:¬ c.toNat<128:=λh=>c8 (UInt8.lt_iff_toNat_lt.2 h)
  refine Xaa (Z9 _ _ (wr (pa rfl rfl (dm (Xae (?_))))))
  refine⟨(k+1,_),zz5,⟨hx,by omega,by omega,Xtu hu (Nat.mod_lt _ dc9),by rw[hN,hdr,Xmk hst hc8]⟩,by simp only [];omega⟩
 refine Xah (Z5 _ _ (ws λ_ Z33=>wr (dm ?_)))
 refine cD (Xoo br bb v l bad _ (hR0.ext hx)) (.inl rfl) λu8 w8 x8 hf8=>?_
 have hsz8:=hx.size
 replace hx:=(hx.mod x8).mono (λi hi _=>(hi:(oneB br) i))
 obtain⟨rfl,hRb⟩:=hf8
 refine de Z33 (ws λ_ Z34=>wr (da (de Z34 (Xad ?_))))
 refine ro ?_
 exact⟨_,rfl,hx,Xiv (by rw[hN,List.drop_of_length_le om9];rfl) hRb⟩
theorem X9h (br bb:Nat)(v:Value)(l:Str)(bad:Bool)(n:Int)(w:World)(h:Rd br bb v l bad w)(hll:l.length≤2001000020) :
  Calls Tryz.prog 194 [ptr br 0,I n].toArray w (Does (oneB br) w (λu w'=>Vc.Own encB 1 5 w.heap.size w' u (rRaw n l bad).1∧∃v',Rd br bb v' (rRaw n l bad).2.1 (rRaw n l bad).2.2 w')):=by
 refine cw Tryz.func194 ?_
 have hx:=Ext.refl w
 obtain⟨hm,ha,hn⟩:=h
 have hR0:Rd br bb v l bad w:=⟨hm,ha,hn⟩
 refine ws λ_ Z1=>wr (da (de Z1 (ws λ_ Z2=>ws λ_ Z3=>wr (dm ?_))))
 refine dp (Xa4 kr9 rfl rfl) (dm ?_)
 refine Xag 8 rfl (λc1=>?_) (λc1=>?_)
 ·exact absurd c1 sp9
 refine dm ?_
 refine dp (Xaf rfl rfl) (dk' ?_)
 refine dm ?_
 refine Xag 12 rfl (λc2=>?_) (λc2=>?_)
 ·refine dk (dk (dk (dk (dk (dk (dk (dk' (de Z3 ?_))))))))
  refine W_t rfl (ws λ_ Z4=>wr (dm ?_))
  refine cD (Xoo br bb v l bad _ (hR0.ext hx)) (.inl rfl) λu1 w1 x1 hf1=>?_
  have hsz1:=hx.size
  replace hx:=(hx.mod x1).mono (λi hi _=>(hi:(oneB br) i))
  obtain⟨rfl,hRb⟩:=hf1
  refine de Z4 (ws λ_ Z5=>wr (da (de Z5 (Xad ?_))))
  refine ro ?_
  refine⟨_,rfl,hx,?_⟩
  rw[Xqb om9]
  exact⟨Vc.Own.nil,_,hRb⟩
 iterate 2 refine dm ?_
 refine dz rfl (df 0 rfl (dl rfl ((hm.ext hx).at rfl) (dv 5 1 (ha.ext hx).sl (dp (Xaw rfl rfl) (dk' (de Z3 ?_))))))
 refine wi (λc3=>?_) λc3=>?_
 ·refine ws λ_ Z6=>wr (dm ?_)
  refine cD (Xoo br bb v l bad _ (hR0.ext hx)) (.inl rfl) λu2 w2 x2 hf2=>?_
  have hsz2:=hx.size
  replace hx:=(hx.mod x2).mono (λi hi _=>(hi:(oneB br) i))
  obtain⟨rfl,hRb⟩:=hf2
  refine de Z6 (ws λ_ Z7=>wr (da (de Z7 (Xad ?_))))
  refine ro ?_
  refine⟨_,rfl,hx,?_⟩
  rw[Xqb om9]
  exact⟨Vc.Own.nil,_,hRb⟩
 obtain⟨n,rfl⟩:∃m:Nat,n=↑m:=⟨n.toNat,by omega⟩
 have hn0:(↑n:Int).toNat=n:=Int.toNat_natCast n
 have hnl:n≤l.length:=by omega
 refine Xaa (Z2 _ _ (ws λ_ Z8=>wr (dm ?_)))
 refine dz rfl (df 0 rfl (dl rfl ((hm.ext hx).at rfl) (dm ?_)))
 refine dp (Xc1 (e:=5) (k:=1) kr9 (ha.ext hx).sl rfl rfl rfl (Nat.zero_le _) hnl) ?_
 have hsl:=(Xqa (hi:=n) (lo:=0) hR0 ((Vc.Mod.refl _ _).ext hx) (Nat.zero_le _) hnl).1
 rw[List.drop_zero]at hsl
 refine cG (Xef (l.take n) _ _ hsl (by rw[List.length_take];omega)) RX.all λvo w3 x3 ho=>?_
 have hsz3:=hx.size
 replace hx:=hx.trans x3
 refine da (de Z8 (ws λ_ Z9=>wr (dm (dm ?_))))
 refine dz rfl (df 0 rfl (dl rfl ((hm.ext hx).at rfl) (dm ?_)))
 refine dp (Xc1 (e:=5) (k:=1) kr9 (ha.ext hx).sl rfl rfl rfl hnl (Nat.le_refl _)) (dz rfl (df 0 rfl (st1 (hm.ext hx) (λw4 x4 xs4 hm=>?_) (hv:=by first|rfl|exact Xop (k:=1) (a:=n) (b:=l.length) ha.sl|exact isSl.one ho.sl|exact isSl.one ha.sl|exact isSl.one (ha.ext hx).sl))))
 try dsimp only [Xal,List.set,List.take,List.drop]at hm
 replace ho:=ho.mod x4 (λk hk h=>by have h1:=(ho.lt k hk).1;have h2:k=br:=h;have h3:=hR0.m.lt;omega)
 replace hx:=(hx.mod x4).mono (λi hi _=>(hi:(oneB br) i))
 refine de Z9 (ws λ_ Z10=>wr (dm (da (de Z10 (Xad ?_)))))
 refine ro ?_
 refine⟨_,rfl,hx,?_⟩
 rw[Xtv om9,hn0]
 exact⟨ho,_,Xoq hR0 hx hnl hm⟩
theorem Xh5 (br bb:Nat)(v:Value)(l:Str)(bad:Bool)(w:World)(h:Rd br bb v l bad w)(hll:l.length≤2001000020) :
  Calls Tryz.prog 121 [ptr br 0].toArray w (Does (oneB br) w (λu w'=>Vc.Own encB 1 5 w.heap.size w' u (Xmi l bad).1∧∃v',Rd br bb v' (Xmi l bad).2.1 (Xmi l bad).2.2 w')):=by
 refine cw Tryz.func121 ?_
 have hx:=Vc.Mod.refl (oneB br) w
 refine ws λ_ Z1=>wr (da (de Z1 (ws λ_ Z2=>wr (dm (dm ?_)))))
 refine cD (Xyd br bb v l bad _ (h.ext (Ext.refl _)) hll) (.inl rfl) λu1 w1 x1 hf1=>?_
 have hsz1:=hx.size
 replace hx:=hx.own x1 (λi hi hlt=>hi)
 obtain⟨rfl,v1,hR1⟩:=hf1
 have hsz9:=x1.size
 refine cD (X9h br bb v1 _ _ _ _ hR1 (Nat.le_trans (Xp7 l bad) hll)) (.inl rfl) λu2 w2 x2 hf2=>?_
 have hsz2:=hx.size
 replace hx:=hx.own x2 (λi hi hlt=>hi)
 obtain⟨hO,v2,hR2⟩:=hf2
 refine da (de Z2 (Xad ?_))
 refine ro ?_
 exact⟨_,rfl,hx,hO.mono hsz9,v2,hR2⟩
theorem Xtx (br bb:Nat)(v:Value)(l:Str)(bad:Bool)(ps:List (Nat×Nat))(vn:Value)(Cs:Nat->List Value)(Ts:Nat->TypeId)(w:World)(hR0:Rd br bb v l bad w)(hll:l.length≤2001000020)(hv:Arr (λp:Nat×Nat=>[ptr p.1 p.2]) 1 w vn ps)(hpl:ps.length≤1000)(hB0:∀p∈ps,Blk w p.1 (Cs p.1) (Ts p.1)∧p.2<(Cs p.1).length)(hdis:∀p∈ps,¬ RdS br bb l p.1)(hdv:ps≠[]->¬ ((base vn).1=br∨∃p∈ps,(base vn).1=p.1)) :
  Calls Tryz.prog 119 [ptr br 0,vn].toArray w (Does (λk=>k=br∨∃p∈ps,k=p.1) w (λu w'=>u=.tuple #[]∧∃v',Rd br bb v' (Xe1 ps.length l bad).2.1 (Xe1 ps.length l bad).2.2 w'∧∀p∈ps,Blk w' p.1 (wrote Cs ps (Xe1 ps.length l bad).1 p.1) (Ts p.1))):=by
 refine cw Tryz.func119 ?_
 have hx:=Vc.Mod.refl (λk=>k=br∨∃p∈ps,k=p.1) w
 refine ws λ_ Z1=>wr (dm ?_)
 refine dv 197 1 (hv.mod hx hdv).sl (dm (de Z1 (Xab ?_)))
 refine Xaj (G:=Nat×Value×Str×Bool×(Nat->List Value)) (λ(k,vc,lc,bc,Cc)=>[(0,ptr br 0),(7,vn),(8,I ↑ps.length),(9,I ↑k)]) (λ(k,vc,lc,bc,Cc) w'=>Mod (λk=>k=br∨∃p∈ps,k=p.1) w w'∧k≤ps.length∧Rd br bb vc lc bc w'∧(∀p∈ps,Blk w' p.1 (Cc p.1) (Ts p.1)∧p.2<(Cc p.1).length)∧lc.length≤l.length∧(lc≠[]->l≠[])∧wrote Cs ps (Xe1 ps.length l bad).1=wrote Cc (ps.drop k) (Xe1 (ps.length-k) lc bc).1∧(Xe1 ps.length l bad).2=(Xe1 (ps.length-k) lc bc).2) (λ(k,vc,lc,bc,Cc)=>ps.length-k) (0,v,l,bad,Cs) ?_ ?_ ?_
 ·exact zz4
 ·exact⟨hx,Nat.zero_le _,hR0,hB0,Nat.le_refl _,id,rfl,rfl⟩
 intro X1 g1 w1 hF1
 obtain⟨k,vc,lc,bc,Cc⟩:=g1
 clear hx
 obtain⟨hx,hk1,hR,hB,hlen,hne,hW,hT⟩:=hF1
 refine ws λ_ Z2=>wr (dp (Xaf rfl rfl) (de Z2 (ws λ_ Z3=>wi (λc1=>?_) λc1=>?_)))
 ·obtain⟨p,hk⟩:∃p,ps[k]?=some p:=gtE
  have hdr:=Xcs hk
  refine Xaa (Z3 _ _ (ws λ_ Z4=>Xab (ws λ_ Z5=>wr (di 197 1 (hv.mod hx hdv).sl rfl ((hv.mod hx hdv).lt hk) (dl rfl (((hv.mod hx hdv).row hk).at0 rfl) (da (de Z5 (ws λ_ Z6=>wr (dm ?_)))))))))
  refine cD (Xyd br bb vc lc bc _ hR om9) (.inl rfl) λu2 w2 x2 hf2=>?_
  have hsz2:=hx.size
  replace hx:=hx.own x2 (λi hi hlt=>.inl hi)
  obtain⟨rfl,v1,hR⟩:=hf2
  replace hB:∀p∈ps,Blk w2 p.1 (Cc p.1) (Ts p.1)∧p.2<(Cc p.1).length:=λp hp=>⟨(hB p hp).1.mod x2 (λh=>hdis p hp (.inl h)),(hB p hp).2⟩
  refine da (de Z6 (ws λ_ Z7=>wr (dm ?_)))
  refine dp (Xma kr9 rfl rfl) (de Z7 (wi (λc2=>?_) λc2=>?_))
  ·refine wr (dm (dm ?_))
   refine dz rfl ?_
   obtain⟨hb9,hlen9⟩:=hB p (List.mem_of_getElem? hk)
   refine Xec (b:=p.1) (o:=p.2) (v:=I ↑(rNum lc bc).1) rfl rfl rfl rfl kr9 hb9 hlen9 (.inl rfl) (λw3 x3 xs3 hnew=>?_)
   replace hx:=hx.own x3 (λi hi hlt=>by have h2:i=p.1:=hi;exact .inr ⟨p,List.mem_of_getElem? hk,h2⟩)
   replace hR:=hR.mod x3 (λk9 hk9 h9=>by have h2:k9=p.1:=h9;exact hdis p (List.mem_of_getElem? hk) (h2▸Xct (λe=>hne (Xtw e)) hk9))
   replace hB:∀q∈ps,Blk w3 q.1 (if q.1=p.1 then(Cc p.1).set p.2 (I ↑(rNum lc bc).1)else Cc q.1) (Ts q.1)∧q.2<(if q.1=p.1 then(Cc p.1).set p.2 (I ↑(rNum lc bc).1)else Cc q.1).length:=by
    intro q hq
    by_cases e:q.1=p.1
    ·have hq9:=(hB q hq).2
     rw[if_pos e,e,List.length_set]
     rw[e]at hq9
     exact⟨hnew,hq9⟩
    ·rw[if_neg e];exact⟨(hB q hq).1.mod x3 (λh=>e h),(hB q hq).2⟩
   refine de Z4 (wr (pa rfl rfl (dm (Xae (?_)))))
   obtain⟨m,hm9⟩:∃m,ps.length-k=m+1:=⟨ps.length-k-1,by omega⟩
   have hm8:ps.length-(k+1)=m:=by omega
   refine⟨(k+1,v1,(rNum lc bc).2.1,(rNum lc bc).2.2,λq=>if q=p.1 then(Cc p.1).set p.2 (I ↑(rNum lc bc).1)else Cc q),zz4,⟨hx,by omega,hR,hB,Nat.le_trans (Xp7 lc bc) hlen,λe=>hne (Xtw e),?_,?_⟩,by simp only [];omega⟩
   ·rw[hW,hdr,hm9,hm8,Xj9];rfl
   ·rw[hT,hm9,hm8,Xj9]
  exact absurd sp9 c2
 refine Xah (Xa5 (Xav rfl ?_))
 rw[show ps.length-k=0 by omega]at hW hT
 refine⟨_,rfl,hx,rfl,vc,by rw[hT];exact hR,λp hp=>?_⟩
 rw[hW,List.drop_of_length_le om9]
 exact(hB p hp).1
def Xr5 (h:UInt32)(c:UInt8):UInt32:=(h ^^^ c.toUInt32)*16777619
def Xor (s:Str):UInt32:=s.foldl Xr5 2166136261
def Xye (s:Str):UInt32:=(Xor s >>> 17) ||| (Xor s <<< 15)
def Xml (s:Str)(n i:Nat):Nat:=(Xor s+UInt32.ofNat i*Xye s).toNat % n
def Xb1 (s:Str)(n:Nat):List Nat:=(List.range 6).map (Xml s n)
section
variable {P:Program}{E:Env}{dd:Option Tmp}{ty:TypeId}{pos:String}{af:Array Edge}{g:Option (Nat×Bool)}{x y:Operand}{T U:TypeId}
theorem Xty {a b:UInt32}(hx:ev E x=c32 a)(hy:ev E y=c32 b):PV P ⟨dd,.binOp .mul T x y U,ty,pos,af,g⟩ E (c32 (a*b)):=by
 have:=Xs1 (P:=P) (d:=dd) (ty:=ty) (pos:=pos) (af:=af) (g:=g) (T:=T) (U:=U) hx hy
 rwa [Xft,show((a.toNat:Int)*(b.toNat:Int)) % 4294967296=((a*b).toNat:Int) by rw[UInt32.toNat_mul];omega]at this
theorem X3k {a b:UInt32}(hx:ev E x=c32 a)(hy:ev E y=c32 b):PV P ⟨dd,.binOp .add T x y U,ty,pos,af,g⟩ E (c32 (a+b)):=by
 have:=X26 (P:=P) (d:=dd) (ty:=ty) (pos:=pos) (af:=af) (g:=g) (T:=T) (U:=U) hx hy
 rwa [Xft,show((a.toNat:Int)+(b.toNat:Int)) % 4294967296=((a+b).toNat:Int) by rw[UInt32.toNat_add];omega]at this
theorem X07 {n:Nat}(hx:ev E x=I n)(hT:(P.underlying T).isSome=true)(hU:intK P U=some .u32):PV P ⟨dd,.convert T U x,ty,pos,af,g⟩ E (c32 (UInt32.ofNat n)):=by
 have:=Xcj (P:=P) (d:=dd) (ty:=ty) (pos:=pos) (af:=af) (g:=g) hx hT hU
 rwa [Xft,show(n:Int) % 4294967296=((UInt32.ofNat n).toNat:Int) by rw[UInt32.toNat_ofNat'];omega]at this
theorem Xdl {n:Nat}{k:IntKind}(hn:n<18446744073709551616)(hx:ev E x=.int k n)(hT:(P.underlying T).isSome=true)(hU:intK P U=some .u64):PV P ⟨dd,.convert T U x,ty,pos,af,g⟩ E (.int .u64 (n:Int)):=by
 have:=Xcj (P:=P) (d:=dd) (ty:=ty) (pos:=pos) (af:=af) (g:=g) hx hT hU
 rwa [Xmh hn]at this
theorem Xdy {n:Nat}(hn:n<9223372036854775808)(hx:ev E x=.int .u64 (n:Int))(hT:(P.underlying T).isSome=true)(hU:intK P U=some .i64):PV P ⟨dd,.convert T U x,ty,pos,af,g⟩ E (I (n:Int)):=by
 have:=Xcj (P:=P) (d:=dd) (ty:=ty) (pos:=pos) (af:=af) (g:=g) hx hT hU
 rwa [Xcx (by unfold Xai;omega)]at this
theorem Xyf {a b:Nat}(hb:0<b)(hx:ev E x=.int .u64 (a:Int))(hy:ev E y=.int .u64 (b:Int)):PV P ⟨dd,.binOp .rem T x y U,ty,pos,af,g⟩ E (.int .u64 ((a % b:Nat):Int)):=by
 have:=Xs8 (P:=P) (dd:=dd) (ty:=ty) (pos:=pos) (af:=af) (g:=g) (T:=T) (U:=U) hx hy om9 om9
 rwa [show(a:Int) % (b:Int)=((a % b:Nat):Int) by omega]at this
end
theorem Xtz {s:Str}{k:Nat}{c:UInt8}(h:s[k]?=some c):(s.take (k+1)).foldl Xr5 2166136261=Xr5 ((s.take k).foldl Xr5 2166136261) c:=by
 rw[Xa0 h,List.foldl_append];rfl
theorem Xdm (s:Str)(n:Nat):(Xb1 s n).length=6:=by simp [Xb1]
theorem Xr6 {s:Str}{n i:Nat}(h:i<6):(Xb1 s n)[i]?=some (Xml s n i):=by simp [Xb1,h]
theorem X6x (s:Str)(w:World)(hs:s.length≤1000000000) :
  Calls Tryz.prog 311 [S s].toArray w (Pure w (c32 (Xor s))):=by
 refine cw Tryz.func311 ?_
 have hx:=Ext.refl w
 refine ws λ_ Z1=>wr (da (de Z1 (ws λ_ Z2=>wr (da (de Z2 (ws λ_ Z3=>ws λ_ Z4=>wr (dm ?_)))))))
 refine dt rfl (dm (de Z4 (Xab ?_)))
 refine Xaj (G:=Nat×UInt32) (λ(k,h)=>[(0,S s),(2,.int .u32 0),(3,c32 h),(6,I ↑s.length),(7,I ↑k)]) (λ(k,h) w'=>Ext w w'∧k≤s.length∧h=(s.take k).foldl Xr5 2166136261) (λ(k,h)=>s.length-k) (0,2166136261) ?_ ?_ ?_
 ·exact zz5
 ·exact⟨hx,Nat.zero_le _,rfl⟩
 intro X1 g1 w1 hF1
 obtain⟨k,h⟩:=g1
 clear hx
 obtain⟨hx,hk1,hh⟩:=hF1
 refine ws λ_ Z5=>wr (dp (Xaf rfl rfl) (de Z5 (ws λ_ Z6=>wi (λc1=>?_) λc1=>?_)))
 ·obtain⟨c,hk⟩:∃c,s[k]?=some c:=gtE
  refine Xaa (Z6 _ _ (ws λ_ Z7=>Xab (ws λ_ Z8=>wr (dm (da (de Z8 (wr (dm (dm (dm ?_))))))))))
  refine dp (Xx9 kr9 rfl rfl hk) (dp (Xj7 rfl kr9 kr9) (dp (Xon rfl rfl) (dp (Xty (b:=16777619) rfl rfl) (da (de Z7 (wr ?_))))))
  refine pa rfl rfl (dm (Xae (?_)))
  refine⟨(k+1,Xr5 h c),zz5,⟨hx,by omega,by rw[Xtz hk,←hh]⟩,by simp only [];omega⟩
 refine Xah (Z3 _ _ (ws λ_ Z9=>wr (dm (da (de Z9 (Xad ?_))))))
 refine ro ?_
 rw[List.take_of_length_le om9]at hh
 exact⟨by rw[hh];rfl,hx⟩
theorem Xqc (s:Str)(n:Nat)(w:World)(hs:s.length≤1000000000)(h0:0<n)(hn:n≤9223372036854775807) :
  Calls Tryz.prog 255 [S s,I ↑n].toArray w (Pure w (.agg ⟨mapJ (Xb1 s n)⟩)):=by
 refine cw Tryz.func255 ?_
 have hx:=Ext.refl w
 refine ws λ_ Z1=>wr (Xan (cs:=[.int .i64 0,.int .i64 0,.int .i64 0,.int .i64 0,.int .i64 0,.int .i64 0]) rfl kr9 RX.all (λb1 w1 e1 x1 m1=>?_))
 have g1:=hx.ge e1
 replace hx:=hx.trans x1
 refine de Z1 (ws λ_ Z2=>wr (Xan (cs:=[.int .i64 0,.int .i64 0,.int .i64 0,.int .i64 0,.int .i64 0,.int .i64 0]) rfl kr9 RX.all (λb2 w2 e2 x2 m2=>?_)))
 have g2:=hx.ge e2
 have n2_1:=m1.ltb e2
 replace m1:=m1.ext x2
 replace hx:=hx.trans x2
 refine de Z2 (ws λ_ Z3=>wr (dm ?_))
 refine cP (X6x s _ hs) RX.all λw3 x3=>?_
 replace m1:=m1.ext x3
 replace m2:=m2.ext x3
 replace hx:=hx.trans x3
 refine da (de Z3 (ws λ_ Z4=>wr (dm ?_)))
 refine dp (Xit (b:=17) dc9 rfl rfl) (dm ?_)
 refine dp (Xk6 (b:=15) dc9 rfl rfl) (dp (Xp3 rfl rfl) (da (de Z4 (ws λ_ Z5=>ws λ_ Z6=>wr (dm (de Z6 (Xab ?_)))))))
 refine Xaj (G:=Nat×List Nat) (λ(k,q)=>[(1,I ↑n),(4,ptr b1 0),(5,ptr b2 0),(6,c32 (Xor s)),(7,c32 (Xye s)),(16,I ↑k)]) (λ(k,q) w'=>Ext w w'∧Blk w' b1 (mapJ (List.replicate 6 0)) 322∧k≤6∧q.length=6∧q.take k=(Xb1 s n).take k∧Blk w' b2 (mapJ q) 322) (λ(k,q)=>6-k) (0,List.replicate 6 0) ?_ ?_ ?_
 ·exact zz6
 ·exact⟨hx,m1,Nat.zero_le _,rfl,rfl,m2⟩
 intro X4 g4 w4 hF4
 obtain⟨k,q⟩:=g4
 clear hx m1 m2
 obtain⟨hx,m1,hk1,hq,hqk,m2⟩:=hF4
 refine ws λ_ Z7=>wr (dp (Xaf rfl rfl) (de Z7 (ws λ_ Z8=>wi (λc1=>?_) λc1=>?_)))
 ·refine Xaa (Z8 _ _ (ws λ_ Z9=>Xab (ws λ_ Z10=>wr (dm (da (de Z10 (wr (dm (dm (dm ?_))))))))))
  refine dp (X07 rfl kr9 kr9) (dm ?_)
  refine dp (Xty rfl rfl) (dp (X3k rfl rfl) (dp (Xdl (by have:=UInt32.toNat_lt (Xor s+UInt32.ofNat k*Xye s);omega) rfl kr9 kr9) (dm ?_)))
  refine dp (Xdl om9 rfl kr9 kr9) (dp (Xyf h0 rfl rfl) (dp (Xdy (n:=Xml s n k) (by have:=Nat.mod_lt (Xor s+UInt32.ofNat k*Xye s).toNat h0;unfold Xml;omega) rfl kr9 kr9) (dp (Xc4 (m:=6) (e:=3) (k:=1) kr9 rfl rfl om9) (st1 m2 (λw5 x5 xs5 m2=>?_) (hv:=by first|rfl|exact isSl.one m1.sl) (ho:=by rw[List.length_map];omega)))))
  rw[Xfg]at m2
  try replace m1:=m1.mo x5
  replace hx:=hx.o1 x5
  refine de Z9 (wr (pa rfl rfl (dm (Xae (?_)))))
  refine⟨(k+1,q.set k (Xml s n k)),zz6,⟨hx,m1,by omega,by rw[List.length_set];exact hq,?_,m2⟩,by simp only [];omega⟩
  rw[List.take_add_one,List.take_add_one,Xr6 om9,List.take_set_of_le (Nat.le_refl _),hqk,List.getElem?_set_self om9]
 refine Xah (Z5 _ _ (ws λ_ Z11=>wr (dq (Xac (k:=6) kr9 rfl (by simp [hq]) m2.row) ?_)))
 refine Xgi (m:=6) (vs:=?u16) rfl rfl ?h16 kr9 ?c16 ?d16 m1 ?n16 (.inl rfl) (λw6 x6 xs6 m1=>?k16)
 case h16=>conv=>lhs;whnf
 case c16=>simp [hq]
 case d16=>rfl
 case n16=>simp [Value.oneCell']
 try dsimp only [Xal,List.set,List.take,List.drop]at m1
 replace hx:=hx.o1 x6
 refine de Z11 (Xad (Xfe (k:=6) rfl rfl rfl kr9 (by simp [hq]) m1.row ?_))
 rw[List.take_of_length_le om9,List.take_of_length_le (by rw[Xdm];omega)]at hqk
 exact⟨by rw[hqk],hx⟩
end Go.Proofs.YtiooodckiddpmaaGreatDoor
namespace Go.Vc
open Go.RowKit
def Xh0 (r:Option Nat):Fence:={ Fence.wide with round:=r }
def Xf3 (o:Oper):Bool:=match o.op with
 | .defer ..=>false
 | _=>true
theorem Xmm {o:Oper}(h:Xf3 o=true):∀c,o.op≠.defer c:=λc e=>by unfold Xf3 at h;rw[e]at h;cases h
def okX (n:Nat):Code->Bool
 | .skip | .exit _ | .ret=>true
 | .region _ ops _=>ops.all (Xch n) && ops.all Xf3
 | .seq a b=>okX n a && okX n b
 | .cond c a b=>opB n c && okX n a && okX n b
 | .block _ c=>okX n c
 | .loop c=>okX n c
 | .rangeFunc g ps a b=>opB n g && ps.all (Nat.blt · n) && okX n a && okX n b
 | _=>false
def actD (n:Nat)(E:Env)(ds:List Deferred):Act:=⟨Array.ofFn (n:=n) λi=>E i.val,ds⟩
def addD (ds:List Deferred)(a:Act):Act:={ a with defers:=a.defers++ds }
theorem Xyg (n:Nat)(E:Env)(ds:List Deferred):addD ds (act n E)=actD n E ds:=rfl
theorem Xfi (ds:List Deferred)(a:Act)(d:Option Tmp)(v:Value):(addD ds a).put d v=addD ds (a.put d v):=by cases d<;>rfl
theorem Xmn {n:Nat}{E:Env}{ds:List Deferred}{x:Operand}(h:opB n x=true):(actD n E ds).eval x=ev E x:=Xkx h
abbrev QX := Exit->Env->List Deferred->World->Prop
def X6y (n:Nat)(Q:QX):Exit->Act->World->Prop:=λe a w=>∃E ds,a=actD n E ds∧Q e E ds w
def WX (r:Option Nat)(ds:List Deferred)(P:Program)(n:Nat)(c:Code)(Q:QX)(E:Env)(w:World):Prop:=
 okX n c=true->c.wpIn (Xh0 r) 0 P (X6y n Q) (actD n E ds) w
def Xyh (K:Env->List Deferred->World->Prop)(Q:QX):QX
 | .normal,E,ds,w=>K E ds w
 | e,E,ds,w=>Q e E ds w
def Xmo (id:Nat)(Q:QX):QX
 | .exit id',E,ds,w=>cond (Nat.beq id' id) (Q .normal E ds w) (Q (.exit id') E ds w)
 | e,E,ds,w=>Q e E ds w
section
variable {r:Option Nat}{ds:List Deferred}{P:Program}{n:Nat}{Q:QX}{E:Env}{w:World}
theorem Xiw {x y:Code}(h:∀K:Env->List Deferred->World->Prop,(∀E ds w,WX r ds P n y Q E w->K E ds w)->WX r ds P n x (Xyh K Q) E w):WX r ds P n (.seq x y) Q E w:=by
 intro ok
 simp only [okX,Bool.and_eq_true]at ok
 refine wpIn_seq (Go.wpIn_mono (h (λE ds w=>WX r ds P n y Q E w) (λ_ _ _ h=>h) ok.1) ?_)
 intro e a w' hq
 obtain⟨E',d',rfl,hQ⟩:=hq
 cases e<;>first|exact hQ ok.2|exact⟨E',d',rfl,hQ⟩
theorem X6z (h:Q .ret E ds w):WX r ds P n .ret Q E w:=λ_=>wpIn_ret ⟨E,ds,rfl,h⟩
theorem X3l {id:Nat}(h:Q (.exit id) E ds w):WX r ds P n (.exit id) Q E w:=λ_=>wpIn_exit ⟨E,ds,rfl,h⟩
theorem X3m {c:Operand}{x y:Code}{t:Bool}(hc:ev E c=.bool t)(ht:t=true->WX r ds P n x Q E w)(hf:t=false->WX r ds P n y Q E w):WX r ds P n (.cond c x y) Q E w:=by
 intro ok
 simp only [okX,Bool.and_eq_true]at ok
 exact wpIn_cond_split (t:=t) (by rw[Xmn ok.1.1];exact hc) (λh=>ht h ok.1.2) (λh=>hf h ok.2)
theorem Xqd {id:Nat}{c:Code}(h:WX r ds P n c (Xmo id Q) E w):WX r ds P n (.block id c) Q E w:=by
 intro ok
 refine wpIn_block (Go.wpIn_mono (h ok) ?_)
 rintro e a w' ⟨E',d',rfl,hQ⟩
 cases e with
 | exit id'=>
  simp only [Exit.inBlock]
  by_cases hid:id'=id
  ·subst hid
   simp only [if_true]
   refine⟨E',d',rfl,?_⟩
   simpa [Xmo]using hQ
  ·simp only [hid,if_false]
   refine⟨E',d',rfl,?_⟩
   simpa [Xmo,Xfc hid]using hQ
 | _=>exact⟨E',d',rfl,hQ⟩
theorem X3n {c:Code}{G:Type}(sl:G->List (Nat×Value))(F:G->World->Prop)(μ:G->Nat)(g0:G)(h0:holds (sl g0) E)(hF0:F g0 w)
  (round:∀(E:Env) (g:G) (w:World),F g w->WX r ds P n c (Xyh (λE' d' w'=>d'=ds∧∃g',holds (sl g') E'∧F g' w'∧μ g'<μ g) Q) (env (sl g) E) w):WX r ds P n (.loop c) Q E w:=by
 intro ok
 have ok':okX n c=true:=ok
 -- the measure stands in the ghost: one loop rule a ghost at a time,by strong induction over machines
 intro b k cs hro hb hr
 have key:∀(m:Nat) (E:Env) (g:G) (w:World),μ g=m->holds (sl g) E->F g w->
   ∃e a' w',X6y n Q e a' w'∧ArrivesIn (Machine.fenced P (Xh0 r)) P (lone (b.atR (actD n E ds) (.code c :: .inLoop c :: k)) cs w) b k cs e a' w':=by
  intro m
  induction m using Nat.strongRecOn with
  | _ m ih=>
   intro E g w hm hh hF
   have hq0:=round E g w hF ok'
   rw[Xeu hh]at hq0
   obtain⟨e,a1,w1,⟨E1,d1,rfl,hq⟩,harr⟩:=hq0 b (.inLoop c :: k) cs hro hb hr
   cases e with
   | normal=>
    obtain⟨rfl,g',hh',hF',hlt⟩:=hq
    obtain⟨e2,a2,w2,hq2,harr2⟩:=ih (μ g') (hm▸hlt) E1 g' w1 rfl hh' hF'
    exact⟨e2,a2,w2,hq2,.of_steps (StepsIn.trans harr (.one (fenced_calm hb hr rfl) stepR_inLoop)) harr2⟩
   | exit id=>exact⟨_,_,w1,⟨E1,d1,rfl,hq⟩,.pass (x:=.inLoop c) rfl (λ_ _=>.inl sp9) harr⟩
   | goto l=>exact⟨_,_,w1,⟨E1,d1,rfl,hq⟩,.pass (x:=.inLoop c) rfl (λ_ _=>.inl sp9) harr⟩
   | ret=>exact⟨_,_,w1,⟨E1,d1,rfl,hq⟩,.pass (x:=.inLoop c) rfl (λ_ _=>.inl sp9) harr⟩
   | panic ch=>exact⟨_,_,w1,⟨E1,d1,rfl,hq⟩,.pass (x:=.inLoop c) rfl (λ_ _=>.inl sp9) harr⟩
   | outgrown=>exact⟨_,_,w1,⟨E1,d1,rfl,hq⟩,.pass (x:=.inLoop c) rfl (λ_ _=>.inl sp9) harr⟩
 obtain⟨e,a',w',hq,harr⟩:=key (μ g0) E g0 w rfl h0 hF0
 exact⟨e,a',w',hq,.of_steps (.one (fenced_calm hb hr rfl) stepR_loop) harr⟩
theorem Xmp {row:String}{args:Array Value}{R:Value->World->Prop}(h:Rows P row args w R):RowsIn (Xh0 r) 0 P row args w R:=λc cs _=>by
 obtain⟨v,w',hR,hs⟩:=h c cs
 exact⟨v,w',hR,stepsIn_wide.2 hs⟩
theorem Xgl {m:Nat}{f:FuncId}{args:Array Value}{R:Ending->World->Prop}(h:Calls P f args w R):CallsIn (Xh0 r) m P f args w R:=callsIn_wide.2 h
theorem X3o {o:Oper}(hd:Xf3 o=true){a:Act}{K0 K:Act->World->Prop}{Q0 Q:Exit->Act->World->Prop}(hK:∀a w,K0 a w->K (addD ds a) w)(hQ:∀e a w,e≠.normal->¬ Q0 e a w)
  (h:o.wp P a w K0 Q0):o.wpIn (Xh0 r) 0 P (addD ds a) w K Q:=by
 have hs:=Xmm hd
 unfold Oper.wp at h
 unfold Oper.wpIn
 refine⟨λ_ _=>trivial,?_⟩
 rw[Oper.semAt_eq _ _ _ hs]
 have he:(addD ds a).eval=a.eval:=rfl
 rw[he]
 generalize hres:(execOp a.eval o).run P w=res at *
 cases res with
 | ok x w'=>
  cases x<;>simp only [Oper.upon,Oper.uponIn]at h ⊢
  case value v=>rw[Xfi];exact hK _ _ h
  case skip=>rw[Xfi];exact hK _ _ h
  case enter f args=>
   refine⟨λh=>by simp [Xh0,Fence.wide]at h,Xgl (Calls.mono h λe w'' he=>?_)⟩
   cases e with
   | returned v=>show K ((addD ds a).put o.dst v) w'';rw[Xfi];exact hK _ _ he
   | panicked c=>exact(hQ _ _ _ sp9 he).elim
   | outgrown=>obtain⟨a',w0,hf⟩:=he;exact(hQ _ _ _ sp9 hf).elim
  case row row args=>
   refine⟨λh=>by simp [Xh0,Fence.wide]at h,Xmp (Rows.mono h λv w'' he=>?_)⟩
   rw[Xfi];exact hK _ _ he
  case defer d=>
   have e:({ addD ds a with defers:=d :: (addD ds a).defers } : Act)=addD ds { a with defers:=d :: a.defers }:=rfl
   rw[e,Xfi];exact hK _ _ h
 | halt x w'=>
  cases x<;>simp only [Oper.upon]at h ⊢
  exact(hQ _ _ _ sp9 h).elim
theorem Xmq {ops:Array Oper}{Q0 Q1:Exit->Act->World->Prop}(hn:∀a w,Q0 .normal a w->Q1 .normal (addD ds a) w)(hQ:∀e a w,e≠.normal->¬ Q0 e a w) :
  ∀(l:List Oper) (a:Act) (w:World),(∀o∈l,Xf3 o=true)->wpList P ops Q0 l a w->wpListIn (Xh0 r) 0 P ops Q1 l (addD ds a) w
 | [],a,w,_,h=>hn _ _ h
 | o :: l,a,w,hd,h=>by
  have ih:=Xmq (ops:=ops) hn hQ l
  have hd':∀o∈l,Xf3 o=true:=λo h=>hd o (List.mem_cons_of_mem _ h)
  unfold wpList at h
  unfold wpListIn
  have hy:(addD ds a).tmps=a.tmps:=rfl
  rw[hy]
  split
  ·rename_i hw
   rw[if_pos hw]at h
   rcases h with h|⟨_,a',w0,hf⟩
   ·exact X3o (hd o List.mem_cons_self) (λa w h=>ih a w hd' h) hQ h
   ·exact(hQ _ _ _ sp9 hf).elim
  ·rename_i hw
   rw[if_neg hw]at h
   refine⟨λ_ _=>trivial,?_⟩
   rw[Xfi]
   exact ih _ _ hd' h
theorem X9i {K:Env->World->Prop} : ∀e a w,e≠.normal->¬ lift n (nf K) e a w:=by
 rintro e a w he ⟨E,rfl,h⟩
 cases e<;>first|exact he rfl|exact h
theorem Xmr {id:Nat}{l:List Oper}(fs:List Fl)(hl:Nat.beq l.length fs.length=true)
  (h:Dw P n (l.map (·.dst)) (λa b=>a=b) (mkp l fs) (λE w=>Q .normal E ds w) E w):WX r ds P n (.region id l.toArray false) Q E w:=by
 intro ok
 simp only [okX,Bool.and_eq_true]at ok
 refine wpIn_region_list ?_
 have h1:wpList P l.toArray (lift n (nf λE w=>Q .normal E ds w)) l (act n E) w:=
  Xht (K:=λE w=>Q .normal E ds w) ok.1 (λ_ _ h=>h) _ fs E w (Nat.eq_of_beq_eq_true hl) (λo ho=>Array.all_eq_true_iff_forall_mem.1 ok.1 o (by simpa using ho)) (by simpa using h)
 rw[←Xyg]
 refine Xmq ?_ X9i l _ _ (λo ho=>Array.all_eq_true_iff_forall_mem.1 ok.2 o (by simpa using ho)) h1
 rintro a w ⟨E',rfl,hq⟩
 exact⟨E',ds,rfl,hq⟩
def DI (r:Option Nat)(P:Program)(n:Nat)(l:List (Option Tmp)):List (Oper×Fl)->(Env->World->Prop)->Env->World->Prop
 | [],K,E,w=>K E w
 | (o,.p) :: rs,K,E,w=>if Xao l E o.guard=true then ∃v,PV P o E v∧DI r P n l rs K (updO E o.dst v) w else DI r P n l rs K (updO E o.dst undef) w
 | (o,.l) :: rs,K,E,w=>if Xao l E o.guard=true then ∃v,LV P o E w v∧DI r P n l rs K (updO E o.dst v) w else DI r P n l rs K (updO E o.dst undef) w
 | (o,.x) :: rs,K,E,w=>if Xao l E o.guard=true then(Xch n o=true->Xf3 o=true->o.wpIn (Xh0 r) 0 P (act n E) w (λa w'=>∃E',a=act n E'∧DI r P n l rs K E' w') (λ_ _ _=>False))else DI r P n l rs K (updO E o.dst undef) w
def mki : List Oper->List Fl->List (Oper×Fl)
 | o :: r,f :: fs=>(o,f) :: mki r fs
 | _,_=>[]
def updL (E:Env):List Tmp->List Value->Env
 | p :: ps,v :: vs=>updL (upd E p v) ps vs
 | _,_=>E
theorem Xka (ds:List Deferred):∀(ps:List Tmp) (vs:List Value) (E:Env),ps.length=vs.length->(ps.zip vs).foldl (λt (x:Tmp×Value)=>t.setIfInBounds x.1 x.2) (actD n E ds).tmps=(actD n (updL E ps vs) []).tmps
 | [],[],E,_=>rfl
 | p :: ps,v :: vs,E,h=>by
  have h1:=Xbt n E (some p) v
  have h2:(actD n E ds).tmps.setIfInBounds p v=(actD n (upd E p v) ds).tmps:=congrArg Act.tmps h1
  rw[List.zip_cons_cons,List.foldl_cons]
  show List.foldl _ ((actD n E ds).tmps.setIfInBounds p v) _=_
  rw[h2]
  exact Xka ds ps vs _ (by simpa using h)
 | [],_ :: _,_,h=>by simp at h
 | _ :: _,[],_,h=>by simp at h
theorem Xr7 (ps:List Tmp)(vs:List Value)(h:ps.length=vs.length):(ps.toArray.zip vs.toArray).foldl (λt (x:Tmp×Value)=>t.setIfInBounds x.1 x.2) (actD n E ds).tmps=(actD n (updL E ps vs) []).tmps:=by
 rw[←Array.foldl_toList,Array.toList_zip]
 exact Xka ds ps vs E h
theorem Xyi {g:Operand}{ps:List Tmp}{assign body:Code}{gf N:Nat}{lb:Array Value}{args:Nat->List Value}
  (hg:ev E g=.func (.func gf) #[] lb) (hf:Xbw P gf=true) (hlen:∀k,ps.length=(args k).length)
  (I:Nat->World->Prop) (A:Nat->Env->World->Prop) (h0:I 0 w)
  (hX:∀k W W',I k W->Ext W W'->I k W')
  (hL:∀k W l o o',I k W->w.heap.size≤l->W.heap[l]?=some o->o.isCells=false->I k (W.putObj l o'))
  (hAL:∀k E1 W l o o',A k E1 W->w.heap.size≤l->W.heap[l]?=some o->o.isCells=false->A k E1 (W.putObj l o'))
  (hit:∀l (J:Nat->World->Prop),(∀k W,J k W->I k W)->(∀k W W',J k W->Ext W W'->J k W')->
   (∀k W,J k W->k<N->YieldAt Fence.wide 0 P l (args k).toArray W λe W'=>e=.returned (.bool true)∧J (k+1) W')->
   ∀W,J 0 W->Calls P gf (#[.func (.yield l) #[] #[]]++lb) W λe W'=>(∃v,e=.returned v)∧J N W')
  (hassign:∀k l W,k<N->I k W->WX (some l) [] P n assign (λe E1 d1 W1=>e=.normal∧d1=[]∧Ext W W1∧A k E1 W1) (updL E ps (args k)) W)
  (hbody:∀k l E1 W (keep:Nat->Prop),k<N->A k E1 W->(∀j,keep j->w.heap.size≤j∧∃o,W.heap[j]?=some o∧o.isCells=false)->
   WX (some l) [] P n body (λe _ d1 W'=>e=.normal∧I (k+1) W'∧∀j,keep j->W'.heap[j]?=W.heap[j]?) E1 W)
  (h:∀D W,w.heap.size≤D->I N W->W.heap[D]?=some (.deferred (some []))->Q .normal E ({ target:=.collected D,args:=#[] } :: ds) W) :
  WX none ds P n (.rangeFunc g ps.toArray assign body) Q E w:=by
 intro ok
 simp only [okX,Bool.and_eq_true]at ok
 obtain⟨⟨⟨okg,_⟩,oka⟩,okb⟩:=ok
 have hgE:(actD n E ds).eval g=.func (.func gf) #[] lb:=by rw[Xmn okg];exact hg
 unfold Xbw at hf
 have eg:∀args w,(callFunc gf args).run P w=.ok (.enter gf args) w:=by
  cases hp:P.funcs[gf]? with
  | none=>rw[hp]at hf;simp at hf
  | some fn=>
   rw[hp]at hf
   simp only [Bool.and_eq_true,Bool.not_eq_true']at hf
   obtain⟨h1,h2⟩:=hf
   have h3:fn.body≠none:=by cases hb:fn.body<;>simp [hb]at h2 ⊢
   have h1' : fn.name ≠ "runtime.NumGoroutine" := by simpa using h1
   intro args w
   simp [callFunc,program,Sem.run,hp,h1',h3]
 refine wpIn_rangeFunc (F:=Xh0 none) ?_
 intro fn hfn
 rw[show(Xh0 none).round=none from rfl]
 obtain⟨rec,hrec⟩:∃rec:LoopState->Option Code->Loop,rec=λst pe=>{ state:=st,pending:=pe,fn,tmps:=(actD n E ds).tmps,params:=ps.toArray,assign,body,defers:=w.heap.size }:=⟨_,rfl⟩
 obtain⟨W1,hW1⟩:∃W1,(w.alloc (.deferred (some []))).alloc (.loop (rec .ready none))=W1:=⟨_,rfl⟩
 have hL1:W1.heap[w.heap.size+1]?=some (.loop (rec .ready none)):=by
  rw[←hW1];have:=World.alloc_heap_new (w.alloc (.deferred (some []))) (.loop (rec .ready none));rwa [World.size_alloc]at this
 have hK1:W1.heap[w.heap.size]?=some (.deferred (some [])):=by
  rw[←hW1];exact(Below.heap_alloc _ _ _ sp9).trans (World.alloc_heap_new w _)
 have hx1:Ext w W1:=by rw[←hW1];exact(Ext.alloc _ _).trans (Ext.alloc _ _)
 have hI1:I 0 W1:=hX _ _ _ h0 hx1
 refine⟨w.heap.size+1,[{ target:=.collected w.heap.size,args:=#[] }],W1,{ target:=.fn (.func gf) lb,args:=#[.func (.yield (w.heap.size+1)) #[] #[]] },W1,gf,
  #[.func (.yield (w.heap.size+1)) #[] #[]]++lb,W1,?_,?_,λ_ _=>trivial,?_,λh=>by simp [Xh0,Fence.wide]at h,?_⟩
 ·rw[←hW1,hrec];exact run_enterLoop_outer _ _ _ _ _
 ·simp only [resolve,hgE]
  simp [go_sem]
 ·simp [invoke,go_sem,eg]
 ·refine Xgl ((hit (w.heap.size+1) (λk W=>I k W∧W.heap[w.heap.size+1]?=some (.loop (rec .ready none))∧W.heap[w.heap.size]?=some (.deferred (some []))) (λ_ _ h=>h.1) ?_ ?_ W1 ⟨hI1,hL1,hK1⟩).mono ?_)
  ·rintro k W W' ⟨hi,hl,hk⟩ hx
   have h1:=(Array.getElem?_eq_some_iff.1 hl).1
   have h2:=(Array.getElem?_eq_some_iff.1 hk).1
   exact⟨hX _ _ _ hi hx,by rw[hx.block _ h1 (λh=>h)];exact hl,by rw[hx.block _ h2 (λh=>h)];exact hk⟩
  ·rintro k W ⟨hi,hl,hk⟩ hkN
   have hy:=run_yield (P:=P) (args:=(args k).toArray) hl (by rw[hrec];simp [hlen k])
   rw[hrec]at hy
   refine⟨fn,_,assign,body,hy,roundIn_of_wpIn (F:=Fence.wide) trivial ?_⟩
   have e1:=Xr7 (n:=n) (E:=E) (ds:=ds) ps (args k) (hlen k)
   have ha:=hassign k (w.heap.size+1) W hkN hi oka
   have e2:({ tmps:=(ps.toArray.zip (args k).toArray).foldl (λtmps (x:Tmp×Value)=>tmps.setIfInBounds x.1 x.2) (actD n E ds).tmps,defers:=[] } : Act)=actD n (updL E ps (args k)) []:=by rw[e1];rfl
   rw[e2]
   refine Go.wpIn_mono ha ?_
   rintro e a W2 ⟨E1,d1,rfl,rfl,rfl,hx,hA⟩
   have hlt1:=(Array.getElem?_eq_some_iff.1 hl).1
   have hlt2:=(Array.getElem?_eq_some_iff.1 hk).1
   have hl2:W2.heap[w.heap.size+1]?=some (.loop (rec .ready none)):=by rw[hx.block _ hlt1 (λh=>h)];exact hl
   have hk2:W2.heap[w.heap.size]?=some (.deferred (some [])):=by rw[hx.block _ hlt2 (λh=>h)];exact hk
   have hlt:w.heap.size+1<W2.heap.size:=(Array.getElem?_eq_some_iff.1 hl2).1
   refine⟨_,run_beginRound hl2 (by rw[hrec]),?_⟩
   have hl3:(W2.putObj (w.heap.size+1) (.loop { rec .ready none with state:=.busy })).heap[w.heap.size+1]?=some (.loop { rec .ready none with state:=.busy }):=World.putObj_heap_same hlt
   have hk3:(W2.putObj (w.heap.size+1) (.loop { rec .ready none with state:=.busy })).heap[w.heap.size]?=some (.deferred (some [])):=(World.putObj_heap_other om9).trans hk2
   have hA3:=hAL _ _ _ _ _ (.loop { rec .ready none with state:=.busy }) hA om9 hl2 rfl
   have hb:=hbody k (w.heap.size+1) E1 _ (λj=>j=w.heap.size+1∨j=w.heap.size) hkN hA3 (by
    rintro j (rfl|rfl)
    ·exact⟨by omega,_,hl3,rfl⟩
    ·exact⟨by omega,_,hk3,rfl⟩) okb
   refine Go.wpIn_mono hb ?_
   rintro e a3 W3 ⟨E3,d3,rfl,rfl,hI3,hkeep⟩
   have hl4:=(hkeep _ (.inl rfl)).trans hl3
   have hk4:=(hkeep _ (.inr rfl)).trans hk3
   have hr:=run_endRound (P:=P) none hl4
   refine⟨_,_,hr,rfl,hL _ _ _ _ _ hI3 om9 hl4 rfl,?_,(World.putObj_heap_other om9).trans hk4⟩
   rw[World.putObj_heap_same (Array.getElem?_eq_some_iff.1 hl4).1,hrec];rfl
  ·rintro e W2 ⟨⟨v,rfl⟩,hi,hl,hk⟩
   refine⟨none,_,by have:=run_endLoop (P:=P) hl (by rw[hrec];simp);rw[hrec]at this;exact this,E,_,rfl,?_⟩
   exact h _ _ (Nat.le_refl _) (hL _ _ _ _ _ hi om9 hl rfl) ((World.putObj_heap_other om9).trans hk)
def retX (P:Program)(fn:Func)(n:Nat)(R:Ending->World->Prop):QX
 | .normal,E,ds,w | .ret,E,ds,w=>LeavesInM Fence.wide 0 P fn (act n E).tmps R ds .returning w
 | _,_,_,_=>False
theorem Xt0 {fn:Func}{R:Ending->World->Prop}(h:Xcd P fn n R .ret E w):retX P fn n R .normal E [] w:=h
theorem Xt1 {fn:Func}{R:Ending->World->Prop}{D:Nat}(hD:w.heap[D]?=some (.deferred (some [])))(h:Xcd P fn n R .ret E (w.putObj D (.deferred none))):retX P fn n R .ret E [{ target:=.collected D,args:=#[] }] w:=
 ⟨by simp,.inl ⟨D,_,rfl,run_takeDeferred hD,h⟩⟩
theorem Xqe {f:FuncId}{fn:Func}{c:Code}{az:List Value}{R:Ending->World->Prop}
  (hf:P.funcs[f]?=some fn) (hb:fn.body=some c) (hn:fn.ntmps=n) (hle:Nat.ble az.length n=true) (ok:okX n c=true)
  (h:WX none [] P n c (retX P fn n R) (Xjw az 0 (λ_=>undef)) w):Calls P f az.toArray w R:=by
 have hle':az.length≤n:=by simpa [Nat.ble_eq]using hle
 refine callsIn_wide.1 (callsIn_of_wp_marks (F:=Fence.wide) (n:=0) hf hb trivial ?_)
 have ha:({ tmps:=az.toArray++Array.replicate (fn.ntmps-az.toArray.size) undef,defers:=[] } : Act)=actD n (Xjw az 0 (λ_=>undef)) []:=by
  simp only [actD,hn]
  congr 1
  apply Array.ext
  ·simp;omega
  ·intro i h1 h2
   simp only [Array.getElem_ofFn,Xl6,Nat.zero_le,if_true,Nat.sub_zero]
   rw[Array.getElem_append]
   by_cases hi:i<az.length
   ·simp [hi]
   ·simp [hi]
 rw[ha]
 refine Go.wpIn_mono (h ok) ?_
 rintro e a w' ⟨E,d,rfl,hQ⟩
 cases e with
 | normal=>exact hQ
 | ret=>exact hQ
 | _=>exact hQ.elim
theorem Yan {c:Operand}{x y:Code}(hc:ev E c=.bool false)(h:WX r ds P n y Q E w):WX r ds P n (.cond c x y) Q E w:=X3m hc (λh=>by cases h) (λ_=>h)
theorem Xdn {d:Option Tmp}{ty:TypeId}{pos:String}{af:Array Edge}{g:Option (Nat×Bool)}{f:Nat}{cs:List Operand}{vs:List Value}(hc:cs.map (ev E)=vs):PV P ⟨d,.makeFunc (.func f) #[] cs.toArray,ty,pos,af,g⟩ E (.func (.func f) #[] vs.toArray):=λw=>by
 subst hc
 simp [execOp,Instr.makeFunc]
theorem Mod.putObj (W:World)(l:Nat)(o:Obj):Mod (oneB l) W (W.putObj l o):=⟨rfl,rfl,rfl,by simp,λk _ hk=>World.putObj_heap_other hk⟩
theorem Blk.cells {W:World}{b T:Nat}{cs:List Value}(h:Blk W b cs T):∃o:Obj,W.heap[b]?=some o∧o.isCells=true:=⟨_,h,rfl⟩
theorem Xyj {W:World}{l b:Nat}{o:Obj}(hl:W.heap[l]?=some o)(ho:o.isCells=false)(h:∃o:Obj,W.heap[b]?=some o∧o.isCells=true):b≠l:=λe=>by
 obtain⟨o',h1,h2⟩:=h
 subst e
 rw[hl]at h1;cases h1;rw[ho]at h2;cases h2
theorem Blk.put {W:World}{b T l:Nat}{cs:List Value}{o:Obj}(h:Blk W b cs T)(o':Obj)(hl:W.heap[l]?=some o)(ho:o.isCells=false):Blk (W.putObj l o') b cs T:=h.mod (Mod.putObj W l o') (Xyj hl ho h.cells)
def Keeps (keep:Nat->Prop)(W0 W:World):Prop:=∀j,keep j->W.heap[j]?=W0.heap[j]?∧∃o,W.heap[j]?=some o∧o.isCells=false
section
variable {d:Option Tmp}{ty:TypeId}{pos:String}{af:Array Edge}{g:Option (Nat×Bool)}
end
end
@[reducible] def fnC (f:Nat) (cs:List Value):Value:=.func (.func f) #[] cs.toArray
section
variable {P:Program}{n:Nat}{ds:List (Option Tmp)}{R:World->World->Prop}{r:List (Oper×Fl×Bool)}{K:Env->World->Prop}{E:Env}{w:World}
variable {d:Nat}{op:Op}{ty:TypeId}{pos:String}{af:Array Edge}{g:Option (Nat×Bool)}{anc:Bool}{v:Value}
theorem Xt2 {f t:Nat}{az:List Operand}{ats:Array TypeId}{vs cs:List Value}{R1:Ending->World->Prop}(hg:Xao ds E g=true)(hv:E t=fnC f cs)(hf:Xbw P f=true)(ha:az.map (ev E)=vs)(hc:Calls P f (vs++cs).toArray w R1)
  (h:∀e w1,R1 e w1->∃v,e=.returned v∧(anc=false->R w w1)∧Dw P n ds R r K (upd E d v) w1) :
  Dw P n ds R ((⟨some d,.call { callee:=.value (.tmp t),args:=az.toArray,argTypes:=ats },ty,pos,af,g⟩,.x,anc) :: r) K E w:=by
 refine D_x hg λok=>?_
 unfold Xbw at hf
 cases hp:P.funcs[f]? with
 | none=>rw[hp]at hf;simp at hf
 | some fn=>
  rw[hp]at hf
  simp only [Bool.and_eq_true,Bool.not_eq_true']at hf
  obtain⟨h1,h2⟩:=hf
  have h3:fn.body≠none:=by cases hb:fn.body<;>simp [hb]at h2 ⊢
  have h1' : fn.name ≠ "runtime.NumGoroutine" := by simpa using h1
  have hr:(execOp (ev E) ⟨some d,.call { callee:=.value (.tmp t),args:=az.toArray,argTypes:=ats },ty,pos,af,g⟩).run P w=.ok (.enter f (vs++cs).toArray) w:=by
   simp [execOp,resolve,ev,hv,Deferred.ofValue,invoke,callFunc,program,Sem.run,hp,h1',h3,ha]
  unfold Oper.wp
  rw[Xet ok,hr]
  simp only [Oper.upon]
  refine Calls.mono hc λe w1 h1=>?_
  obtain⟨v,rfl,hR,hd⟩:=h e w1 h1
  exact⟨_,Xbt _ _ _ _,hR,hd⟩
theorem Xyk {S:Nat->Prop}{f t:Nat}{az:List Operand}{ats:Array TypeId}{vs cs:List Value}{F:Value->World->Prop}(hg:Xao ds E g=true)(hv:E t=fnC f cs)(hf:Xbw P f=true)(hc:Calls P f (vs++cs).toArray w (Does S w F))(ha:az.map (ev E)=vs)
  (hR:anc=true∨∀w',Mod S w w'->R w w') (h:∀v w1,Mod S w w1->F v w1->Dw P n ds R r K (upd E d v) w1) :
  Dw P n ds R ((⟨some d,.call { callee:=.value (.tmp t),args:=az.toArray,argTypes:=ats },ty,pos,af,g⟩,.x,anc) :: r) K E w:=
 Xt2 hg hv hf ha hc λe w1 ⟨v,he,hx,hF⟩=>⟨v,he,λe=>hR.elim (λh=>by rw[h]at e;cases e) (λh=>h _ hx),h v w1 hx hF⟩
theorem Xh6 {f t:Nat}{az:List Operand}{ats:Array TypeId}{vs cs:List Value}(hg:Xao ds E g=true)(hv:E t=fnC f cs)(hf:Xbw P f=true)(hc:Calls P f (vs++cs).toArray w (Pure w v))(ha:az.map (ev E)=vs)(hR:RX R anc)
  (h:∀w1,Ext w w1->Dw P n ds R r K (upd E d v) w1) :
  Dw P n ds R ((⟨some d,.call { callee:=.value (.tmp t),args:=az.toArray,argTypes:=ats },ty,pos,af,g⟩,.x,anc) :: r) K E w:=
 Xt2 hg hv hf ha hc λe w1 ⟨he,hx⟩=>⟨v,he,hR.use hx,h w1 hx⟩
end
end Go.Vc
namespace Go.Vc
open Go.RowKit Go.Maps
def pO : Option Nat->Value
 | none=>.pointer none
 | some b=>ptr b 0
theorem Xt3 : ∀a b,pO a=pO b->a=b
 | none,none,_=>rfl
 | none,some _,h=>by simp [pO]at h
 | some _,none,h=>by simp [pO]at h
 | some a,some b,h=>by
  have:a=b:=by simpa [pO]using h
  rw[this]
def AnyK (P:Program)(k:TypeId):Type:={v:Value // ∃l,keyOf P k v=some l}
theorem Yao {P:Program}{k:TypeId}(hl:laidOutB P=true)(hrow:Nat.blt k P.types.size=true)(hka:P.keyTypeAt 2 k=true)(hwide:(match P.underlying k with|some (.array _ _)|some (.struct _)=>true|_=>false)=true):Keyed P k:=
 Keyed.of_law (deep_law_laid hl (m:=2) om9 (by simpa [Nat.blt_eq]using hrow) hka hwide)
def EmpM (w:World)(b:Nat):Prop:=w.heap[b]?=some (.map #[] 0)
theorem EmpM.lt {w:World}{b:Nat}(h:EmpM w b):b<w.heap.size:=(Array.getElem?_eq_some_iff.1 h).1
theorem EmpM.mod {S:Nat->Prop}{w w':World}{b:Nat}(h:EmpM w b)(x:Mod S w w')(hS:¬ S b):EmpM w' b:=(x.block b h.lt hS).trans h
theorem EmpM.ext {w w':World}{b:Nat}(h:EmpM w b)(x:Ext w w'):EmpM w' b:=h.mod x (λh=>h)
theorem EmpM.at {P:Program}{κ α:Type}{k:TypeId}{kv:κ->Value}{av:α->Value}{w:World}{b:Nat}(h:EmpM w b):Xbo P k kv av w b 0 (λ_=>none):=
 ⟨.map [],⟨#[],0,h,⟨by simp,MapKept.stamped_empty 0,by simp⟩,Nat.le_refl _,rfl⟩,λx l hl z=>rfl⟩
def EmpV (w:World)(v:Value):Prop:=v=.map none∨∃b,v=.map (some b)∧EmpM w b
theorem EmpV.ext {w w':World}{v:Value}(h:EmpV w v)(x:Ext w w'):EmpV w' v:=h.imp id λ⟨b,e,hb⟩=>⟨b,e,hb.ext x⟩
theorem EmpM.val {w:World}{b:Nat}(h:EmpM w b):EmpV w (.map (some b)):=.inr ⟨b,rfl,h⟩
theorem EmpV.lt {w:World}{v:Value}(h:EmpV w v){b:Nat}(e:v=.map (some b)):b<w.heap.size:=by
 rcases h with rfl|⟨b2,rfl,h⟩
 ·cases e
 ·cases e;exact h.lt
theorem Xt4 {w:World}{v:Value}(h:EmpV w v):v.cells=⟨[v]⟩:=by
 rcases h with rfl|⟨b,rfl,_⟩<;>rfl
def Xyl (w:World)(r:Nat):Prop:=∃m c a,w.heap[r]?=some (.mapIter m c #[] a)∧(m=none∨∃b,m=some b∧EmpM w b)
@[reducible] def fnB (f:Nat) (bs:List Value):Value:=.func (.func f) bs.toArray #[]
section
variable {P:Program}{n:Nat}{ds:List (Option Tmp)}{R:World->World->Prop}{r:List (Oper×Fl×Bool)}{K:Env->World->Prop}{E:Env}{w:World}
variable {d:Nat}{op:Op}{ty:TypeId}{pos:String}{af:Array Edge}{g:Option (Nat×Bool)}{anc:Bool}{v:Value}
theorem Xe2 {dd:Option Tmp}{f:Nat}{bs:List Operand}{vs:List Value}(hc:bs.map (ev E)=vs):PV P ⟨dd,.makeFunc (.func f) bs.toArray #[],ty,pos,af,g⟩ E (.func (.func f) vs.toArray #[]):=λw=>by
 simp [execOp,hc]
 rfl
theorem Xym {dd:Option Tmp}{x y:Operand}{T:TypeId}{a:Str}{c:UInt8}(hT:Xgg P T=true)(hx:ev E x=S a)(hy:ev E y=.int .u8 0)(hi:a[0]?=some c):PV P ⟨dd,.index T x y,ty,pos,af,g⟩ E (.int .u8 c.toNat):=λw=>by
 have hT':P.underlying T=some .string:=by
  unfold Xgg at hT;split at hT<;>first|assumption|cases hT
 have e:(⟨⟨a⟩⟩:ByteArray)[(0:Int).toNat]?=some c:=by
  have hlt:0<a.length:=(List.getElem?_eq_some_iff.1 hi).1
  show(⟨⟨a⟩⟩:ByteArray)[0]?=some c
  rw[getElem?_pos _ 0 hlt]
  exact hi▸(by rw[List.getElem?_eq_getElem hlt];rfl)
 have e2:(⟨⟨a⟩⟩:ByteArray)[0]?=some c:=by simpa using e
 simp [execOp,Instr.index,asIntOf,hx,hy,underlying,hT',e2]
theorem Xt5 {dd:Option Tmp}{x:Operand}{T e k:Nat}(hT:Xco P T=some (e,k))(hx:ev E x=.slice none 0 0):PV P ⟨dd,.call { callee:=.builtin .cap,args:=#[x],argTypes:=#[T] },ty,pos,af,g⟩ E (I 0):=λw=>by
 obtain⟨hu,_⟩:=Xbb hT
 simp [execOp,resolve,invoke,builtin,Builtin.cap_,underlying,hu,hx,goInt]
theorem X3p {f t:Nat}{az:List Operand}{ats:Array TypeId}{vs bs:List Value}{R1:Ending->World->Prop}(hg:Xao ds E g=true)(hv:E t=fnB f bs)(hf:Xbw P f=true)(ha:az.map (ev E)=vs)(hc:Calls P f (bs++vs).toArray w R1)
  (h:∀e w1,R1 e w1->∃v,e=.returned v∧(anc=false->R w w1)∧Dw P n ds R r K (upd E d v) w1) :
  Dw P n ds R ((⟨some d,.call { callee:=.value (.tmp t),args:=az.toArray,argTypes:=ats },ty,pos,af,g⟩,.x,anc) :: r) K E w:=by
 refine D_x hg λok=>?_
 unfold Xbw at hf
 cases hp:P.funcs[f]? with
 | none=>rw[hp]at hf;simp at hf
 | some fn=>
  rw[hp]at hf
  simp only [Bool.and_eq_true,Bool.not_eq_true']at hf
  obtain⟨h1,h2⟩:=hf
  have h3:fn.body≠none:=by cases hb:fn.body<;>simp [hb]at h2 ⊢
  have h1' : fn.name ≠ "runtime.NumGoroutine" := by simpa using h1
  have hr:(execOp (ev E) ⟨some d,.call { callee:=.value (.tmp t),args:=az.toArray,argTypes:=ats },ty,pos,af,g⟩).run P w=.ok (.enter f (bs++vs).toArray) w:=by
   simp [execOp,resolve,ev,hv,Deferred.ofValue,invoke,callFunc,program,Sem.run,hp,h1',h3,ha]
  unfold Oper.wp
  rw[Xet ok,hr]
  simp only [Oper.upon]
  refine Calls.mono hc λe w1 h1=>?_
  obtain⟨v,rfl,hR,hd⟩:=h e w1 h1
  exact⟨_,Xbt _ _ _ _,hR,hd⟩
theorem Xyn {f t:Nat}{az:List Operand}{ats:Array TypeId}{vs bs:List Value}(hg:Xao ds E g=true)(hv:E t=fnB f bs)(hf:Xbw P f=true)(hc:Calls P f (bs++vs).toArray w (Pure w v))(ha:az.map (ev E)=vs)(hR:RX R anc)
  (h:∀w1,Ext w w1->Dw P n ds R r K (upd E d v) w1) :
  Dw P n ds R ((⟨some d,.call { callee:=.value (.tmp t),args:=az.toArray,argTypes:=ats },ty,pos,af,g⟩,.x,anc) :: r) K E w:=
 X3p hg hv hf ha hc λe w1 ⟨he,hx⟩=>⟨v,he,hR.use hx,h w1 hx⟩
theorem Xkb {t:TypeId}(hg:Xao ds E g=true)(hR:RX R anc)
  (h:∀b w1,b=w.heap.size->Ext w w1->EmpM w1 b->Dw P n ds R r K (upd E d (.map (some b))) w1):Dw P n ds R ((⟨some d,.makeMap t none,ty,pos,af,g⟩,.x,anc) :: r) K E w:=by
 refine Xhz (v:=.map (some w.heap.size)) (w':=w.alloc (.map #[] 0)) hg ?_ (hR.use (Ext.alloc _ _)) (h _ _ rfl (Ext.alloc _ _) (World.alloc_heap_new w _))
 have e1:(Instr.makeMap t none).run P w=.ok (.map (some w.heap.size)) (w.alloc (.map #[] 0)):=run_makeMap t w
 simp [execOp,e1]
def X08 (P:Program)(t:TypeId):Bool:=match P.underlying t with
 | some (.map _ _)=>true
 | _=>false
theorem Xyo {t:TypeId}{m:Operand}{mv:Value}(hb:X08 P t=true)(hg:Xao ds E g=true)(hm:ev E m=mv)(hv:EmpV w mv)(hR:RX R anc)
  (h:∀q w1,q=w.heap.size->Ext w w1->Xyl w1 q->Dw P n ds R r K (upd E d (ptr q 0)) w1) :
  Dw P n ds R ((⟨some d,.range t m,ty,pos,af,g⟩,.x,anc) :: r) K E w:=by
 obtain⟨k,e,hu⟩:∃k e,P.underlying t=some (.map k e):=by
  unfold X08 at hb
  split at hb
  ·exact⟨_,_,by assumption⟩
  ·cases hb
 rcases hv with rfl|⟨b,rfl,hb⟩
 ·refine Xhz (w':=w.alloc (.mapIter none 0 #[] 0)) (v:=ptr w.heap.size 0) hg ?_ (hR.use (Ext.alloc _ _)) (h _ _ rfl (Ext.alloc _ _) ⟨none,0,0,World.alloc_heap_new w _,.inl rfl⟩)
  simp [execOp,hm,run_range_nilMap w t k e hu]
 ·refine Xhz (w':=w.alloc (.mapIter (some b) 0 #[] 0)) (v:=ptr w.heap.size 0) hg ?_ (hR.use (Ext.alloc _ _)) (h _ _ rfl (Ext.alloc _ _) ⟨some b,0,0,World.alloc_heap_new w _,.inr ⟨b,rfl,hb.ext (Ext.alloc _ _)⟩⟩)
  simp [execOp,hm,run_range_map w t k e b #[] 0 hu hb]
theorem Xt6 {q:Nat}(hi:Xyl w q):(Instr.next (ptr q 0) false ty).run P w=.ok (.tuple #[.bool false]) w:=by
 obtain⟨m,c,a,h1,h2⟩:=hi
 rcases h2 with rfl|⟨b,rfl,hb⟩
 ·simp only [Instr.next,getObj,Sem.run_bind,Sem.run,h1,Result.andThen]
  rfl
 ·unfold EmpM at hb
  simp [Instr.next,getObj,Sem.run_bind,Sem.run,h1,hb,Result.andThen,choose,Question.forced]
theorem X3q {it:Operand}{q:Nat}(hg:Xao ds E g=true)(hit:ev E it=ptr q 0)(hi:Xyl w q)(hR:RX R anc)(h:Dw P n ds R r K (upd E d (.tuple #[.bool false])) w) :
  Dw P n ds R ((⟨some d,.next it false,ty,pos,af,g⟩,.x,anc) :: r) K E w:=by
 refine Xhz (w':=w) (v:=.tuple #[.bool false]) hg ?_ (hR.use (Ext.refl _)) h
 simp [execOp,hit,Xt6 hi]
end
end Go.Vc
namespace Go.Vc
open Go.RowKit
section
variable {κ α β:Type}[DecidableEq κ]
def lk (l:List (κ×α))(x:κ):Option α:=(l.find? λp=>decide (p.1=x)).map (·.2)
def setL (l:List (κ×α))(x:κ)(a:α):List (κ×α):=if(lk l x).isSome then l.map (λp=>if p.1=x then(x,a)else p)else l++[(x,a)]
def delL (l:List (κ×α))(x:κ):List (κ×α):=l.filter λp=>decide (p.1≠x)
theorem Xix (x:κ):lk ([]:List (κ×α)) x=none:=rfl
theorem Xb2 (p:κ×α)(l:List (κ×α))(x:κ):lk (p :: l) x=if p.1=x then some p.2 else lk l x:=by
 unfold lk
 by_cases h:p.1=x
 ·simp [h]
 ·simp [h]
theorem Xe3 {l:List (κ×α)}{x:κ} : lk l x=none↔x∉l.map (·.1):=by
 induction l with
 | nil=>simp [Xix]
 | cons p l ih=>
  rw[Xb2]
  by_cases h:p.1=x
  ·simp [h]
  ·rw[if_neg h,ih]
   have h2:¬ x=p.1:=λe=>h e.symm
   simp [h2]
theorem Xqf {l:List (κ×α)}{x:κ}{a:α}(h:lk l x=some a):(x,a)∈l:=by
 induction l with
 | nil=>cases h
 | cons p l ih=>
  rw[Xb2]at h
  by_cases e:p.1=x
  ·rw[if_pos e]at h;cases h;subst e;exact List.mem_cons_self
  ·rw[if_neg e]at h;exact List.mem_cons_of_mem _ (ih h)
theorem X60 {l:List (κ×α)}{x:κ}{a:α}(hn:(l.map (·.1)).Nodup)(h:(x,a)∈l):lk l x=some a:=by
 induction l with
 | nil=>cases h
 | cons p l ih=>
  rw[List.map_cons,List.nodup_cons]at hn
  rw[Xb2]
  rcases List.mem_cons.1 h with rfl|h
  ·simp
  ·have:p.1≠x:=λe=>hn.1 (e▸List.mem_map.2 ⟨_,h,rfl⟩)
   rw[if_neg this];exact ih hn.2 h
theorem Xt7 (l m:List (κ×α))(x:κ):lk (l++m) x=(lk l x).or (lk m x):=by
 induction l with
 | nil=>simp [Xix]
 | cons p l ih=>
  rw[List.cons_append,Xb2,Xb2,ih]
  split<;>simp
theorem Xe4 (l:List (κ×α))(x:κ)(a:α)(y:κ):lk (setL l x a) y=if y=x then some a else lk l y:=by
 unfold setL
 split
 ·rename_i h
  have key:∀l:List (κ×α),lk (l.map (λp=>if p.1=x then(x,a)else p)) y=if y=x then(if(lk l x).isSome then some a else none)else lk l y:=by
   intro l
   induction l with
   | nil=>simp [Xix]
   | cons p l ih=>
    rw[List.map_cons,Xb2,ih,Xb2,Xb2]
    by_cases e:p.1=x
    ·by_cases e2:y=x
     ·simp [e,e2]
     ·have e3:¬ x=y:=λh=>e2 h.symm
      simp [e,e2,e3]
    ·by_cases e2:y=x
     ·simp [e,e2]
     ·simp [e,e2]
  rw[key,h];simp
 ·rename_i h
  rw[Xt7,Xb2,Xix]
  have h':lk l x=none:=by simpa using h
  by_cases e:y=x
  ·subst e;rw[h'];simp
  ·have e3:¬ x=y:=λh=>e h.symm
   simp [e,e3]
theorem Xos (l:List (κ×α))(x:κ)(y:κ):lk (delL l x) y=if y=x then none else lk l y:=by
 unfold delL
 induction l with
 | nil=>simp [Xix]
 | cons p l ih=>
  rw[List.filter_cons]
  by_cases e:p.1=x
  ·rw[if_neg (by simp [e]),ih,Xb2]
   by_cases e2:y=x
   ·simp [e2]
   ·have e3:¬ p.1=y:=λh=>e2 (h▸e)
    simp [e2,e3]
  ·rw[if_pos (by simp [e]),Xb2,ih,Xb2]
   by_cases e2:y=x
   ·have e3:¬ p.1=y:=λh=>e (h.trans e2)
    simp [e2,e3]
    intro h;exact absurd h e
   ·simp [e2]
theorem Xt8 (l:List (κ×α))(x:κ)(a:α):(setL l x a).map (·.1)=if(lk l x).isSome then l.map (·.1)else l.map (·.1)++[x]:=by
 unfold setL
 split
 ·rw[List.map_map]
  refine List.map_congr_left λp _=>?_
  simp only [Function.comp]
  split
  ·rename_i h;exact h.symm
  ·rfl
 ·simp
theorem Xd4 {l:List (κ×α)}(x:κ)(a:α)(h:(l.map (·.1)).Nodup):((setL l x a).map (·.1)).Nodup:=by
 rw[Xt8]
 split
 ·exact h
 ·rename_i hn
  have hx:x∉l.map (·.1):=Xe3.1 (by simpa using hn)
  rw[List.nodup_append]
  exact⟨h,by simp,λa ha b hb=>by simp at hb;subst hb;exact λe=>hx (e▸ha)⟩
theorem Xfj {l:List (κ×α)}(x:κ)(h:(l.map (·.1)).Nodup):((delL l x).map (·.1)).Nodup:=by
 unfold delL
 exact List.Nodup.sublist (List.Sublist.map _ List.filter_sublist) h
theorem Xf4 (l:List (κ×α))(x:κ)(a:α):(setL l x a).length=if(lk l x).isSome then l.length else l.length+1:=by
 unfold setL;split<;>simp
theorem Xiy {l:List (κ×α)}{x:κ}(h:(l.map (·.1)).Nodup):(delL l x).length+(if(lk l x).isSome then 1 else 0)=l.length:=by
 unfold delL
 induction l with
 | nil=>simp [Xix]
 | cons p l ih=>
  rw[List.map_cons,List.nodup_cons]at h
  have ih:=ih h.2
  rw[List.filter_cons,Xb2]
  by_cases e:p.1=x
  ·have hx:lk l x=none:=Xe3.2 (e▸h.1)
   rw[hx]at ih
   simp [e]at ih ⊢
   exact ih
  ·rw[if_pos (by simp [e]),if_neg e,List.length_cons,List.length_cons]
   omega
theorem Xt9 {l:List (κ×α)}{x:κ}(h:lk l x=none):delL l x=l:=by
 unfold delL
 refine List.filter_eq_self.2 λp hp=>?_
 have:=Xe3.1 h
 have:p.1≠x:=λe=>this (e▸List.mem_map.2 ⟨p,hp,rfl⟩)
 simp [this]
end
def MapL {κ α:Type}[DecidableEq κ](P:Program)(k:TypeId)(kv:κ->Value)(av:α->Value)(w:World)(b:Nat)(l:List (κ×α)):Prop:=
 (l.map (·.1)).Nodup∧∃D:DataW α,w.ownsMap P k (rdBy av) b l.length D∧Maps.size D=l.length∧∀x lx,keyOf P k (kv x)=some lx->∀z,D.atKey lx z=Xme (lk l x) z
theorem World.ownsMap.exact {H:Type}{P:Program}{k:TypeId}{R:Value->Option (DataW H×List MemPlace)}{w:World}{b n:Nat}{D:DataW H}(h:w.ownsMap P k R b n D){m:Nat}(hm:Maps.size D=m):w.ownsMap P k R b m D:=by
 obtain⟨es,clock,hb,F,_,rfl⟩:=h
 refine⟨es,clock,hb,F,?_,rfl⟩
 have e1:Maps.size (DataW.map ((es.toList.map (Go.WideElems.rg P k R)).foldr DataW.insert []))=es.size:=by simp [Maps.size,length_sorted]
 omega
section
variable {P:Program}{κ α:Type}[DecidableEq κ]{t k e:TypeId}{kv:κ->Value}{av:α->Value}{ok:κ->Prop}{w w':World}{b:Nat}{l:List (κ×α)}
theorem MapL.at (h:MapL P k kv av w b l):Xbo P k kv av w b l.length (lk l):=by
 obtain⟨_,D,h1,_,h3⟩:=h
 exact⟨D,h1,h3⟩
theorem MapL.mod {S:Nat->Prop}(h:MapL P k kv av w b l)(m:Mod S w w')(hb:¬ S b):MapL P k kv av w' b l:=by
 obtain⟨h0,D,h1,h2,h3⟩:=h
 exact⟨h0,D,World.ownsMap.mod h1 m hb,h2,h3⟩
theorem MapL.ext (h:MapL P k kv av w b l)(m:Ext w w'):MapL P k kv av w' b l:=h.mod m (λh=>h)
theorem MapL.lt (h:MapL P k kv av w b l):b<w.heap.size:=h.at.lt
theorem MapL.nodup (h:MapL P k kv av w b l):(l.map (·.1)).Nodup:=h.1
theorem MapL.has (M:MapK P t k e kv av ok){D:DataW α}{x:κ}{lx:Lit}(hx:keyOf P k (kv x)=some lx)(h3:∀x lx,keyOf P k (kv x)=some lx->∀z,D.atKey lx z=Xme (lk l x) z):Maps.has D lx=(lk l x).isSome:=by
 cases e:lk l x with
 | none=>exact Maps.has_false_of_atKey λz=>by rw[h3 x lx hx z,e];rfl
 | some a=>exact Maps.has_true_of_atKey (y:=.held a) λz=>by rw[h3 x lx hx z,e];rfl
theorem Xkc {b:Nat}(ht:w.mapTurned w' b):Mod (oneB b) w w'∧w'.heap.size=w.heap.size:=by
 refine⟨(Mod.of_grown ht.grown).mono (λi hi _=>(Option.some.inj hi).symm),?_⟩
 obtain⟨es,c,es',c',_,e⟩:=ht
 rw[e];simp [ChangeMaps.setBlock]
theorem MapL.update (M:MapK P t k e kv av ok)(h:MapL P k kv av w b l)(hn:l.length<maxLen){x:κ}(hx:ok x)(a:α) :
  ∃w',(Instr.mapUpdate t (.map (some b)) (kv x) (av a)).run P w=.ok () w'∧MapL P k kv av w' b (setL l x a)∧Mod (oneB b) w w'∧w'.heap.size=w.heap.size:=by
 obtain⟨h0,D,h1,h2,h3⟩:=h
 obtain⟨lx,hl⟩:=M.key x hx
 obtain⟨w',hr,ho,ht⟩:=h1.store M.keyed M.und hn hl (Xoi M.ainj a)
 have hs:Maps.size (D.put lx (.held a))=(setL l x a).length:=by
  rw[Maps.size_put (h1.tidy M.keyed),MapL.has M hl h3,Xf4,h2]
 refine⟨w',hr,⟨Xd4 x a h0,_,World.ownsMap.exact ho hs,hs,λy ly hy z=>?_⟩,Xkc ht⟩
 rw[Xe4]
 by_cases e:y=x
 ·subst e
  rw[hl]at hy
  cases hy
  rw[if_pos rfl,Maps.atKey_put_same h1.isMap (M.keyed.key hl)]
  rfl
 ·rw[if_neg e,Maps.atKey_put_other (Xpz M hl hy e),h3 y ly hy]
theorem MapL.drop (M:MapK P t k e kv av ok)(h:MapL P k kv av w b l){x:κ}(hx:ok x)(ty:TypeId) :
  ∃w',(Builtin.delete_ #[t,k] ty #[.map (some b),kv x]).run P w=.ok (.tuple #[]) w'∧MapL P k kv av w' b (delL l x)∧Mod (oneB b) w w'∧w'.heap.size=w.heap.size:=by
 obtain⟨h0,D,h1,h2,h3⟩:=h
 obtain⟨lx,hl⟩:=M.key x hx
 obtain⟨w',hr,ho,ht⟩:=h1.drop M.keyed M.und hl ty
 have hs:Maps.size (D.del lx)=(delL l x).length:=by
  have h4:=Maps.size_del (h1.tidy M.keyed) (k:=lx)
  have h5:=Xiy (x:=x) h0
  rw[MapL.has M hl h3,h2]at h4
  omega
 refine⟨w',hr,⟨Xfj x h0,_,World.ownsMap.exact ho hs,hs,λy ly hy z=>?_⟩,Xkc ht⟩
 rw[Xos]
 by_cases e:y=x
 ·subst e
  rw[hl]at hy
  cases hy
  rw[if_pos rfl,Maps.atKey_del_same]
  rfl
 ·rw[if_neg e,Maps.atKey_del_other (Xpz M hl hy e),h3 y ly hy]
variable {n:Nat}{E:Env}{ds:List (Option Tmp)}{R:World->World->Prop}{rs:List (Oper×Fl×Bool)}{K:Env->World->Prop}{d:Nat}{ty:TypeId}{pos:String}{af:Array Edge}{g:Option (Nat×Bool)}{anc:Bool}
theorem Xua {m x y:Operand}(M:MapK P t k e kv av ok){kx:κ}{a:α}(hg:Xao ds E g=true)(hm:ev E m=.map (some b))(hx:ev E x=kv kx)(hy:ev E y=av a)(hmap:MapL P k kv av w b l)(hok:ok kx)(hn:l.length<maxLen)
  (hR:anc=true∨∀w',Mod (oneB b) w w'->R w w') (h:∀w1,Mod (oneB b) w w1->w1.heap.size=w.heap.size->MapL P k kv av w1 b (setL l kx a)->Dw P n ds R rs K E w1) :
  Dw P n ds R ((⟨none,.mapUpdate t m x y,ty,pos,af,g⟩,.x,anc) :: rs) K E w:=by
 obtain⟨w',hr,h1,h2,h3⟩:=hmap.update M hn hok a
 refine X9d (w':=w') hg ?_ (λe=>hR.elim (λh=>by rw[h]at e;cases e) (λh=>h _ h2)) (h _ h2 h3 h1)
 simp [execOp,hm,hx,hy,hr]
theorem Xub {dd:Option Tmp}{m x:Operand}(M:MapK P t k e kv av ok){kx:κ}(hg:Xao ds E g=true)(hm:ev E m=.map (some b))(hx:ev E x=kv kx)(hmap:MapL P k kv av w b l)(hok:ok kx)
  (hR:anc=true∨∀w',Mod (oneB b) w w'->R w w') (h:∀w1,Mod (oneB b) w w1->w1.heap.size=w.heap.size->MapL P k kv av w1 b (delL l kx)->Dw P n ds R rs K (updO E dd (.tuple #[])) w1) :
  Dw P n ds R ((⟨dd,.call { callee:=.builtin .delete,args:=#[m,x],argTypes:=#[t,k] },ty,pos,af,g⟩,.x,anc) :: rs) K E w:=by
 obtain⟨w',hr,h1,h2,h3⟩:=hmap.drop M hok ty
 refine Xhz (v:=.tuple #[]) (w':=w') hg ?_ (λe=>hR.elim (λh=>by rw[h]at e;cases e) (λh=>h _ h2)) (h _ h2 h3 h1)
 simp [execOp,resolve,invoke,builtin,hm,hx,hr]
theorem X3r {dd:Option Tmp}{m:Operand}(M:MapK P t k e kv av ok)(hm:ev E m=.map (some b))(hmap:MapL P k kv av w b l):LV P ⟨dd,.call { callee:=.builtin .len,args:=#[m],argTypes:=#[t] },ty,pos,af,g⟩ E w (I l.length):=by
 obtain⟨h0,D,h1,h2,h3⟩:=hmap
 have:=h1.len M.und ty
 rw[h2]at this
 unfold LV
 simp [execOp,resolve,invoke,builtin,hm,this]
end
section
variable {α:Type}{enc:α->List Value}{sz T B:Nat}{w:World}{v:Value}{l:List α}
theorem Xdf : ∀(vs:List Value) (o:Nat) (cs:List Value) (i:Nat),o+vs.length≤cs.length->(Xal cs o vs)[i]?=if o≤i∧i<o+vs.length then vs[i-o]? else cs[i]?
 | [],o,cs,i,h=>by simp [Xal];intro h1 h2;omega
 | x :: vs,o,cs,i,h=>by
  rw[Xal,Xdf vs (o+1) (cs.set o x) i (by simp at h ⊢;omega)]
  simp only [List.length_cons]at h ⊢
  by_cases h1:i=o
  ·subst h1
   rw[if_neg om9,if_pos om9,List.getElem?_set]
   simp
   omega
  ·by_cases h2:o≤i∧i<o+(vs.length+1)
   ·rw[if_pos om9,if_pos h2,show i-o=(i-(o+1))+1 by omega,List.getElem?_cons_succ]
   ·rw[if_neg om9,if_neg h2,List.getElem?_set,if_neg (λe=>h1 e.symm)]
theorem Xyp (henc:∀x,(enc x).length=sz):∀(l:List α) (i j:Nat) (x:α) (vs:List Value),i<l.length->enc x=Xal (enc (l.getD i x)) j vs->j+vs.length≤sz->
  (l.set i x).flatMap enc=Xal (l.flatMap enc) (i*sz+j) vs:=by
 intro l i j x vs hi hx hj
 apply List.ext_getElem?
 intro m
 have hlen:(l.flatMap enc).length=l.length*sz:=flat_len henc l
 have hi':i*sz+sz≤l.length*sz:=by rw[←Nat.succ_mul];exact Nat.mul_le_mul_right _ hi
 rw[Xdf _ _ _ _ (by rw[hlen];omega)]
 by_cases hm:m<l.length*sz
 ·have hsz:0<sz:=by
   rcases Nat.eq_zero_or_pos sz with h|h
   ·rw[h]at hm;omega
   ·exact h
  have hq:m / sz<l.length:=Nat.div_lt_of_lt_mul (by rw[Nat.mul_comm];exact hm)
  have hdm:m / sz*sz+m % sz=m:=by have:=Nat.div_add_mod m sz;rw[Nat.mul_comm]at this;exact this
  have hr:m % sz<sz:=Nat.mod_lt _ hsz
  have at':∀(l:List α) (y:α),l[m / sz]?=some y->(l.flatMap enc)[m]?=(enc y)[m % sz]?:=by
   intro l y hy
   have hlt:m % sz<(enc y).length:=by rw[henc];exact hr
   have:=Xhc henc l (m / sz) y hy (m % sz) _ (List.getElem?_eq_getElem hlt)
   rw[hdm]at this
   rw[this,List.getElem?_eq_getElem hlt]
  by_cases hqi:m / sz=i
  ·have h1:(l.set i x)[m / sz]?=some x:=by rw[hqi,List.getElem?_set];simp [hi]
   rw[at' _ _ h1,hx,Xdf _ _ _ _ (by rw[henc];exact hj)]
   have e1:l[m / sz]?=some (l.getD i x):=by rw[hqi,List.getD_eq_getElem?_getD,List.getElem?_eq_getElem hi];rfl
   rw[at' _ _ e1]
   have e2:i*sz+m % sz=m:=by rw[←hqi];exact hdm
   by_cases hc:j≤m % sz∧m % sz<j+vs.length
   ·rw[if_pos hc,if_pos om9];congr 1;omega
   ·rw[if_neg hc,if_neg om9]
  ·have h1:(l.set i x)[m / sz]?=l[m / sz]?:=by rw[List.getElem?_set,if_neg (λe=>hqi e.symm)]
   have hy:=List.getElem?_eq_getElem hq
   rw[at' _ _ (h1.trans hy),at' _ _ hy,if_neg]
   rintro ⟨h2,h3⟩
   apply hqi
   have:i*sz≤m:=by omega
   have h4:m<(i+1)*sz:=by rw[Nat.succ_mul];omega
   exact Nat.le_antisymm (Nat.lt_succ_iff.1 (Nat.div_lt_of_lt_mul (by rw[Nat.mul_comm];exact h4))) ((Nat.le_div_iff_mul_le hsz).2 this)
 ·have hl2:((l.set i x).flatMap enc).length=l.length*sz:=by rw[flat_len henc,List.length_set]
  rw[List.getElem?_eq_none om9,if_neg om9,List.getElem?_eq_none om9]
theorem Own.cells (h:Own enc sz T B w v l)(hl:l≠[]):∃cs cap,v=.slice (some ⟨(base v).1,0,none⟩) l.length cap∧Blk w (base v).1 cs T∧cs.take (l.length*sz)=l.flatMap enc∧l.length*sz≤cs.length:=by
 obtain⟨h1,h2⟩:=h.row
 rcases h2 with⟨_,h0⟩|⟨g,cap,cur,rfl,hB,hc,hn,hm,hs,ht⟩
 ·exact absurd (List.eq_nil_of_length_eq_zero h0) hl
 ·refine⟨cur.toList,cap,rfl,?_,ht,?_⟩
  ·show w.heap[g]?=_;rw[hc]
  ·have e:cur.toList.length=cap*sz:=by simp [hs]
   rw[e];exact Nat.mul_le_mul_right _ hn
theorem Own.setEl (henc:∀x,(enc x).length=sz)(h:Own enc sz T B w v l){w1:World}{cs:List Value}{i j:Nat}{x:α}{vs:List Value}(hb:Blk w (base v).1 cs T)(hi:i<l.length)(hx:enc x=Xal (enc (l.getD i x)) j vs)(hj:j+vs.length≤sz)
  (hb1:Blk w1 (base v).1 (Xal cs (i*sz+j) vs) T):Own enc sz T B w1 v (l.set i x):=by
 obtain⟨h1,h2⟩:=h.row
 have hset:=Xyp henc l i j x vs hi hx hj
 refine⟨by rw[hset,Xey,List.length_set];exact h1,?_⟩
 rcases h2 with⟨_,h0⟩|⟨g,cap,cur,rfl,hB,hc,hn,hm,hs,ht⟩
 ·omega
 ·refine .inr ⟨g,cap,⟨Xal cs (i*sz+j) vs⟩,by rw[List.length_set],hB,hb1,by rw[List.length_set];exact hn,hm,?_,?_⟩
  ·have e:cs=cur.toList:=by
    have:w.heap[g]?=some (.cells ⟨cs⟩ T (0,0)):=hb
    rw[hc]at this;cases this;rfl
   simp only [List.size_toArray]
   rw[Xey,e];simp [hs]
  ·have e:cs=cur.toList:=by
    have:w.heap[g]?=some (.cells ⟨cs⟩ T (0,0)):=hb
    rw[hc]at this;cases this;rfl
   have hlen:l.length*sz≤cs.length:=by
    have e2:cs.length=cap*sz:=by rw[e];simp [hs]
    rw[e2];exact Nat.mul_le_mul_right _ hn
   have hfl:(l.flatMap enc).length=l.length*sz:=flat_len henc l
   have hi':i*sz+sz≤l.length*sz:=by rw[←Nat.succ_mul];exact Nat.mul_le_mul_right _ hi
   rw[hset,List.length_set]
   apply List.ext_getElem?
   intro m
   simp only [List.getElem?_take]
   rw[Xdf _ _ _ _ om9,Xdf _ _ _ _ om9,←ht,←e,List.getElem?_take]
   by_cases hm2:m<l.length*sz
   ·simp [hm2]
   ·rw[if_neg hm2,if_neg om9,if_neg hm2]
variable {P:Program}{n:Nat}{E:Env}{ds:List (Option Tmp)}{R:World->World->Prop}{rs:List (Oper×Fl×Bool)}{K:Env->World->Prop}{pos:String}{af:Array Edge}{g:Option (Nat×Bool)}{anc:Bool}{ty:TypeId}
theorem Xa3 {a y:Operand}{T' i j:Nat}{u:Value}{x:α}{vs:List Value}(henc:∀x,(enc x).length=sz)(hg:Xao ds E g=true)(hown:Own enc sz T B w v l)(ha:ev E a=ptr (base v).1 (i*sz+j))(hy:ev E y=u)(hv:u.cells=⟨vs⟩)(hs:Xoa P T'=some vs.length)
  (hi:i<l.length) (hx:enc x=Xal (enc (l.getD i x)) j vs) (hj:j+vs.length≤sz) (h1:∀v∈vs,v.oneCell'=true) (hR:anc=true∨∀w',Mod (λk=>v.ownBlock=some k) w w'->R w w')
  (h:∀w1,Mod (λk=>v.ownBlock=some k) w w1->w1.heap.size=w.heap.size->Own enc sz T B w1 v (l.set i x)->Dw P n ds R rs K E w1):Dw P n ds R ((⟨none,.store T' a y,ty,pos,af,g⟩,.x,anc) :: rs) K E w:=by
 have hl:l≠[]:=by rintro rfl;simp at hi
 obtain⟨cs,cap,hv2,hb,ht,hlen⟩:=hown.cells hl
 have hob:v.ownBlock=some (base v).1:=hown.base_block hl
 have hm:∀w',Mod (oneB (base v).1) w w'->Mod (λk=>v.ownBlock=some k) w w':=λw' m=>m.mono (λk hk _=>by have:k=(base v).1:=hk;rw[hob,this])
 have hi':i*sz+sz≤l.length*sz:=by rw[←Nat.succ_mul];exact Nat.mul_le_mul_right _ hi
 refine Xim (v:=u) (vs:=vs) hg ha hy hv hs hb om9 h1 (hR.imp id λh w' m=>h w' (hm w' m)) (λw1 m1 hs1 hb1=>h w1 (hm w1 m1) hs1 (hown.setEl henc hb hi hx hj hb1))
end
end Go.Vc
namespace Go.Proofs.YtiooodckiddpmaaGreatDoor
open Go.Vc Go.Sp
attribute [local irreducible] W XW Dw DwT
theorem Xyq (x y z:UInt8)(h:x &&& z≠0):(x ||| y) &&& z≠0:=by
 intro e
 apply h
 have:((x ||| y) &&& z)=(x &&& z) ||| (y &&& z):=by
  apply UInt8.toBitVec_inj.1;simp;ext i;simp;cases x.toBitVec[i]<;>cases y.toBitVec[i]<;>cases z.toBitVec[i]<;>rfl
 rw[this]at e
 have e2:=congrArg UInt8.toBitVec e
 apply UInt8.toBitVec_inj.1
 simp at e2 ⊢
 exact e2.1
theorem Xyr (x z:UInt8)(hz:z≠0):(x ||| z) &&& z≠0:=by
 have:(x ||| z) &&& z=z:=by
  apply UInt8.toBitVec_inj.1;simp;ext i;simp;intro h;exact .inr h
 rw[this];exact hz
theorem X3s (m:Nat)(h:m<8):UInt8.ofNat (2 ^ m)≠0:=by
 match m,h with
 | 0,_|1,_|2,_|3,_|4,_|5,_|6,_|7,_=>decide
def bitB (n:Nat):UInt8:=UInt8.ofNat (2 ^ (n % 8))
def Xd5 (b:Str)(n:Nat):Str:=b.set (n / 8) (b.getD (n / 8) 0 ||| bitB n)
def Xdo (b:Str)(n:Nat):Bool:=decide (b.getD (n / 8) 0 &&& bitB n≠0)
def Xkd (b:Str)(s:Str):Str:=(Xb1 s (8*b.length)).foldl Xd5 b
def Xcn (k:Nat):Nat:=max 8 ((10*k+7) / 8)
def Xdp (keys:List Str):Str:=keys.foldl Xkd (List.replicate (Xcn keys.length) 0)
def mayS (b:Str)(s:Str):Bool:=decide (b=[]) || (Xb1 s (8*b.length)).all (Xdo b)
theorem Xke (b:Str)(n:Nat):(Xd5 b n).length=b.length:=by unfold Xd5;rw[List.length_set]
theorem Xms (l:List Nat)(b:Str):(l.foldl Xd5 b).length=b.length:=by
 induction l generalizing b with
 | nil=>rfl
 | cons n r ih=>rw[List.foldl_cons,ih,Xke]
theorem Xhe (b:Str)(s:Str):(Xkd b s).length=b.length:=Xms _ _
theorem Xqg (l:List Str)(b:Str):(l.foldl Xkd b).length=b.length:=by
 induction l generalizing b with
 | nil=>rfl
 | cons n r ih=>rw[List.foldl_cons,ih,Xhe]
theorem Xck (keys:List Str):(Xdp keys).length=Xcn keys.length:=by unfold Xdp;rw[Xqg,List.length_replicate]
theorem Xys {b:Str}{n m:Nat}(h:Xdo b n=true):Xdo (Xd5 b m) n=true:=by
 unfold Xdo Xd5 at *
 rw[decide_eq_true_eq]at *
 by_cases e:m / 8=n / 8
 ·rw[e]
  by_cases hl:n / 8<b.length
  ·rw[List.getD_eq_getElem?_getD,List.getElem?_set_self hl]
   exact Xyq _ _ _ h
  ·rw[List.set_eq_of_length_le om9];exact h
 ·rw[List.getD_eq_getElem?_getD,List.getElem?_set_ne e,←List.getD_eq_getElem?_getD];exact h
theorem Xyt {b:Str}{n:Nat}(h:n / 8<b.length):Xdo (Xd5 b n) n=true:=by
 unfold Xdo Xd5
 rw[decide_eq_true_eq,List.getD_eq_getElem?_getD,List.getElem?_set_self h]
 exact Xyr _ _ (X3s _ (Nat.mod_lt _ dc9))
theorem Xmt {l:List Nat}{b:Str}{n:Nat}(h:Xdo b n=true):Xdo (l.foldl Xd5 b) n=true:=by
 induction l generalizing b with
 | nil=>exact h
 | cons m r ih=>exact ih (Xys h)
theorem Xuc {l:List Nat}{b:Str}{n:Nat}(hn:n∈l)(h:n / 8<b.length):Xdo (l.foldl Xd5 b) n=true:=by
 induction l generalizing b with
 | nil=>cases hn
 | cons m r ih=>
  rcases List.mem_cons.1 hn with rfl|hn
  ·rw[List.foldl_cons];exact Xmt (Xyt h)
  ·rw[List.foldl_cons];exact ih hn (by rw[Xke];exact h)
theorem Xud {l:List Str}{b:Str}{n:Nat}(h:Xdo b n=true):Xdo (l.foldl Xkd b) n=true:=by
 induction l generalizing b with
 | nil=>exact h
 | cons m r ih=>exact ih (Xmt h)
theorem Xhf {s:Str}{m n:Nat}(hm:0<m)(h:n∈Xb1 s m):n<m:=by
 unfold Xb1 at h
 obtain⟨i,_,rfl⟩:=List.mem_map.1 h
 exact Nat.mod_lt _ hm
theorem Xyu {keys:List Str}{s:Str}(h:s∈keys):mayS (Xdp keys) s=true:=by
 have hl:0<Xcn keys.length:=by unfold Xcn;omega
 have key:∀(l:List Str) (b:Str),s∈l->0<b.length->∀n∈Xb1 s (8*b.length),Xdo (l.foldl Xkd b) n=true:=by
  intro l
  induction l with
  | nil=>intro b h;cases h
  | cons k r ih=>
   intro b h hb n hn
   rw[List.foldl_cons]
   rcases List.mem_cons.1 h with rfl|h
   ·exact Xud (Xuc hn (by have:=Xhf om9 hn;omega))
   ·exact ih _ h (by rw[Xhe];exact hb) n (by rw[Xhe];exact hn)
 unfold mayS
 rw[Bool.or_eq_true,List.all_eq_true]
 refine .inr λn hn=>?_
 rw[Xck]at hn
 exact key keys _ h (by rw[List.length_replicate];exact hl) n (by rw[List.length_replicate];exact hn)
section
variable {P:Program}{E:Env}{dd:Option Tmp}{ty:TypeId}{pos:String}{af:Array Edge}{g:Option (Nat×Bool)}{x y:Operand}{T U:TypeId}
theorem Xot {a:Nat}{ky:IntKind}(hx:ev E x=I ↑a)(hy:ev E y=.int ky 3):PV P ⟨dd,.binOp .shr T x y U,ty,pos,af,g⟩ E (I ↑(a / 8)):=by
 have:=Xj5 (P:=P) (dd:=dd) (ty:=ty) (pos:=pos) (af:=af) (g:=g) (T:=T) (U:=U) hx hy dc9
 rwa [show((a:Int)).fdiv (2 ^ min (3:Int).toNat IntKind.i64.bits)=((a / 8:Nat):Int) by
  rw[show(2:Int) ^ min (3:Int).toNat IntKind.i64.bits=8 by decide,Int.fdiv_eq_ediv_of_nonneg _ om9];omega]at this
theorem Xue {a:Nat}{ky:IntKind}(ha:a≤1000000000000000000)(hx:ev E x=I ↑a)(hy:ev E y=.int ky 3):PV P ⟨dd,.binOp .shl T x y U,ty,pos,af,g⟩ E (I ↑(8*a)):=by
 have:=Xmb (P:=P) (dd:=dd) (ty:=ty) (pos:=pos) (af:=af) (g:=g) (T:=T) (U:=U) hx hy dc9
 rwa [show(a:Int)*2 ^ min (3:Int).toNat IntKind.i64.bits=((8*a:Nat):Int) by rw[show(2:Int) ^ min (3:Int).toNat IntKind.i64.bits=8 by decide];omega,Xcx (by unfold Xai;omega)]at this
theorem Xuf {a:Nat}(ha:a<9223372036854775808)(hx:ev E x=I ↑a)(hy:ev E y=I 7):PV P ⟨dd,.binOp .and T x y U,ty,pos,af,g⟩ E (I ↑(a % 8)):=by
 have:=Xed (P:=P) (dd:=dd) (ty:=ty) (pos:=pos) (af:=af) (g:=g) (T:=T) (U:=U) (op:=.and) (.inl rfl) hx hy
 have e:Xip .and .i64 (a:Int) 7=((a % 8:Nat):Int):=by
  show IntKind.i64.wrap (((BitVec.ofInt 64 (a:Int) &&& BitVec.ofInt 64 ((7:Nat):Int)).toNat:Nat):Int)=_
  rw[BitVec.ofInt_natCast,BitVec.ofInt_natCast,BitVec.toNat_and,BitVec.toNat_ofNat,BitVec.toNat_ofNat,Nat.mod_eq_of_lt om9,Nat.mod_eq_of_lt om9,show a &&& 7=a % 8 from Nat.and_two_pow_sub_one_eq_mod a 3,Xcx (by unfold Xai;omega)]
 rwa [e]at this
theorem X09 {n:Nat}{ky:IntKind}(hx:ev E x=.int .u8 1)(hy:ev E y=.int ky ((n % 8:Nat):Int)):PV P ⟨dd,.binOp .shl T x y U,ty,pos,af,g⟩ E (b8 (bitB n)):=by
 have:=Xmb (P:=P) (dd:=dd) (ty:=ty) (pos:=pos) (af:=af) (g:=g) (T:=T) (U:=U) hx hy om9
 have h8:n % 8<8:=Nat.mod_lt _ dc9
 have e:IntKind.u8.wrap ((1:Int)*2 ^ min (((n % 8:Nat):Int)).toNat IntKind.u8.bits)=((bitB n).toNat:Int):=by
  rw[Xtd]
  unfold bitB
  generalize n % 8=m at h8
  match m,h8 with
  | 0,_|1,_|2,_|3,_|4,_|5,_|6,_|7,_=>decide
 rwa [e]at this
theorem X3t {a:Nat}{ts:Array TypeId}(hx:ev E x=I 8)(hy:ev E y=I ↑a):PV P ⟨dd,.call { callee:=.builtin .max,args:=#[x,y],argTypes:=ts },ty,pos,af,g⟩ E (I ↑(max 8 a)):=by
 have:=Xoe (P:=P) (dd:=dd) (ty:=ty) (pos:=pos) (af:=af) (g:=g) (ts:=ts) hx hy
 rwa [show max (8:Int) (a:Int)=((max 8 a:Nat):Int) by omega]at this
end
theorem Xug (m:Nat):(List.replicate m [Value.int .u8 0]).flatten=(List.replicate m (0:UInt8)).flatMap encB:=by
 induction m with
 | zero=>rfl
 | succ k ih=>rw[List.replicate_succ,List.replicate_succ,List.flatten_cons,List.flatMap_cons,ih];rfl
theorem Xqh {q:List Nat}{i x:Nat}(h:q[i]?=some x):(mapJ q)[i]?=some (I ↑x):=by rw[List.getElem?_map,h];rfl
theorem Xou {b:Str}{i:Nat}{c:UInt8}(h:b[i]?=some c):b.getD i 0=c:=by rw[List.getD_eq_getElem?_getD,h];rfl
theorem X61 (b:Str)(v:Value)(s:Str)(w:World)(hv:Arr encB 1 w v b)(hb:b.length≤1000000000)(hs:s.length≤1000000000) :
  Calls Tryz.prog 185 [v,S s].toArray w (Pure w (B (mayS b s))):=by
 refine cw Tryz.func185 ?_
 have hx:=Ext.refl w
 refine ws λ_ Z1=>wr (da (de Z1 (ws λ_ Z2=>ws λ_ Z3=>wr (dm ?_))))
 refine dv 5 1 (hv.ext hx).sl (dp (Xa9 rfl rfl) (de Z3 (wi (λc1=>?_) λc1=>?_)))
 ·refine ws λ_ Z4=>wr (da (de Z4 (Xad ?_)))
  refine ro ?_
  have e:b=[]:=List.eq_nil_of_length_eq_zero om9
  exact⟨by rw[e];rfl,hx⟩
 have hb0:0<b.length:=by omega
 refine Xaa (Z2 _ _ (ws λ_ Z5=>ws λ_ Z6=>wr (dm (dm ?_))))
 refine dv 5 1 (hv.ext hx).sl (dp (Xue om9 rfl rfl) (cP (Xqc s (8*b.length) _ hs om9 om9) RX.all λw1 x1=>?_))
 replace hx:=hx.trans x1
 refine dm (de Z6 (Xab ?_))
 refine Xaj (G:=Nat) (λk=>[(0,v),(14,.agg ⟨mapJ (Xb1 s (8*b.length))⟩),(15,I ↑k)]) (λk w'=>Ext w w'∧k≤6∧((Xb1 s (8*b.length)).take k).all (Xdo b)=true) (λk=>6-k) 0 ?_ ?_ ?_
 ·exact zz3
 ·exact⟨hx,Nat.zero_le _,rfl⟩
 intro X2 g2 w2 hF2
 revert hF2;revert g2;intro k hF2
 clear hx
 obtain⟨hx,hk1,hA⟩:=hF2
 refine ws λ_ Z7=>wr (dp (Xaf rfl rfl) (de Z7 (ws λ_ Z8=>wi (λc2=>?_) λc2=>?_)))
 ·obtain⟨x,hk⟩:∃x,(Xb1 s (8*b.length))[k]?=some x:=⟨_,List.getElem?_eq_getElem (by rw[Xdm];omega)⟩
  have hx8:=Xhf om9 (List.mem_of_getElem? hk)
  obtain⟨c,hc⟩:∃c,b[x / 8]?=some c:=gtE
  refine Xaa (Z8 _ _ (ws λ_ Z9=>Xab (ws λ_ Z10=>wr (dp (Xoh (m:=6) (e:=3) kr9 kr9 rfl rfl om9 (Xqh hk)) (da (de Z10 (ws λ_ Z11=>?_)))))))
  refine Xaq (R:=Ext) Ext.refl (λ_ _ _=>Ext.trans) kr9 [4] [(0,.p,false),(1,.p,false),(2,.p,false),(3,.p,false),(4,.l,false),(5,.p,false),(6,.p,false),(7,.p,false),(8,.p,false),(9,.p,false)] rfl kr9 kr9 (λw3 ew3=>?_)
  have x3:=drewx ew3
  clear ew3
  replace hx:=hx.trans x3
  iterate 2 refine dm ?_
  refine dp (Xot rfl rfl) (di 5 1 hv.sl rfl (hv.lt hc) (dL rfl (λ_ hR=>(((hv.ext (hx.trans hR)).row hc).at0 rfl)) (dm ?_)))
  refine dp (Xuf om9 rfl rfl) (dp (X09 rfl rfl) (dp (Xol rfl rfl) (dp (Xok (b:=0) rfl rfl) (de Z11 (wi (λc3=>?_) λc3=>?_)))))
  ·refine ws λ_ Z12=>wr (da (de Z12 (Xad ?_)))
   refine ro ?_
   refine⟨?_,hx⟩
   have hne:¬ b=[]:=λe=>by rw[e]at hb0;simp at hb0
   have:mayS b s=false:=by
    unfold mayS
    rw[decide_eq_false hne,Bool.false_or,←Bool.not_eq_true,List.all_eq_true]
    intro h
    have:=h x (List.mem_of_getElem? hk)
    unfold Xdo at this
    rw[Xou hc,decide_eq_true_eq]at this
    exact this (by simpa using c3)
   rw[this]
  refine Xaa (Z9 _ _ (wr (pa rfl rfl (dm (Xae (?_))))))
  refine⟨k+1,zz3,⟨hx,by omega,?_⟩,by omega⟩
  rw[Xa0 hk,List.all_append,hA,List.all_cons,List.all_nil,Bool.true_and,Bool.and_true]
  unfold Xdo
  rw[Xou hc];simpa using c3
 refine Xah (Z5 _ _ (ws λ_ Z13=>wr (da (de Z13 (Xad ?_)))))
 refine ro ?_
 refine⟨?_,hx⟩
 rw[List.take_of_length_le (by rw[Xdm];omega)]at hA
 unfold mayS
 rw[hA,Bool.or_true]
theorem Xuh (l:List Str)(v:Value)(w:World)(hv:Arr sEnc 1 w v l)(hl:l.length≤1000000)(hs:∀s∈l,s.length≤1000000000) :
  Calls Tryz.prog 197 [v].toArray w (Gives w (λu w'=>Vc.Own encB 1 5 w.heap.size w' u (Xdp l))):=by
 refine cw Tryz.func197 ?_
 have hx:=Ext.refl w
 have hbn:Xcn l.length≤10000008:=by unfold Xcn;omega
 refine ws λ_ Z1=>wr (da (de Z1 (ws λ_ Z2=>wr (dm ?_))))
 refine dv 9 1 (hv.ext hx).sl (dp (Xen rfl rfl (by unfold Xai;omega)) (pa rfl rfl (Xa2 (v:=I ↑((10*l.length+7) / 8)) rfl (Xot (a:=10*l.length+7) rfl rfl) rfl (dp (X3t rfl rfl) (Xhu (e:=5) (sz:=1) (by':=1) (zs:=[.int .u8 0]) rfl kr9 kr9 kr9 rfl rfl om9 om9 RX.all (λb1 w1 e1 x1 m1=>?_))))))
 have g1:=hx.ge e1
 replace hx:=hx.trans x1
 refine da (de Z2 (ws λ_ Z3=>ws λ_ Z4=>wr (dm ?_)))
 refine dv 9 1 (hv.ext hx).sl (dm (de Z4 (Xab ?_)))
 refine Xaj (G:=Nat×Str) (λ(k,b)=>[(2,.slice none 0 0),(3,.slice (some ⟨b1,0,none⟩) (Xcn l.length) (Xcn l.length)),(15,v),(16,I ↑l.length),(17,I ↑k)]) (λ(k,b) w'=>Ext w w'∧k≤l.length∧Vc.Own encB 1 5 w.heap.size w' (.slice (some ⟨b1,0,none⟩) (Xcn l.length) (Xcn l.length)) b∧b=(l.take k).foldl Xkd (List.replicate (Xcn l.length) 0)) (λ(k,b)=>l.length-k) (0,List.replicate (Xcn l.length) 0) ?_ ?_ ?_
 ·exact zz5
 ·exact⟨hx,Nat.zero_le _,m1.own (enc:=encB) (sz:=1) (l:=List.replicate (Xcn l.length) 0) g1 (Xug _) ir9 sp9 (by simp;omega),rfl⟩
 intro X2 g2 w2 hF2
 obtain⟨k,b⟩:=g2
 clear hx m1
 obtain⟨hx,hk1,ho,hb⟩:=hF2
 refine ws λ_ Z5=>wr (dp (Xaf rfl rfl) (de Z5 (ws λ_ Z6=>wi (λc1=>?_) λc1=>?_)))
 ·obtain⟨s,hk⟩:∃s,l[k]?=some s:=gtE
  have hblen:b.length=Xcn l.length:=by rw[hb,Xqg,List.length_replicate]
  refine Xaa (Z6 _ _ (ws λ_ Z7=>Xab (ws λ_ Z8=>wr (di 9 1 (hv.ext hx).sl rfl ((hv.ext hx).lt hk) (dl rfl (((hv.ext hx).row hk).at0 rfl) (da (de Z8 (ws λ_ Z9=>wr (dm (dm ?_))))))))))
  refine dv 5 1 (ho.arr ir9).sl (dp (Xue om9 rfl rfl) (cP (Xqc s (8*b.length) _ (hs s (List.mem_of_getElem? hk)) (by unfold Xcn at hblen;omega) om9) RX.all λw3 x3=>?_))
  replace ho:=ho.ext x3
  replace hx:=hx.trans x3
  refine dm (de Z9 (Xab ?_))
  refine Xaj (G:=Nat×Str) (λ(j,c0)=>[(2,.slice none 0 0),(3,.slice (some ⟨b1,0,none⟩) (Xcn l.length) (Xcn l.length)),(15,v),(16,I ↑l.length),(17,I ↑k),(25,.agg ⟨mapJ (Xb1 s (8*b.length))⟩),(26,I ↑j)]) (λ(j,c0) w'=>Ext w w'∧j≤6∧Vc.Own encB 1 5 w.heap.size w' (.slice (some ⟨b1,0,none⟩) (Xcn l.length) (Xcn l.length)) c0∧c0=((Xb1 s (8*b.length)).take j).foldl Xd5 b) (λ(j,c0)=>6-j) (0,b) ?_ ?_ ?_
  ·exact zz7
  ·exact⟨hx,Nat.zero_le _,ho,rfl⟩
  intro X4 g4 w4 hF4
  obtain⟨j,c0⟩:=g4
  clear hx ho
  obtain⟨hx,hj1,ho,hcb⟩:=hF4
  refine ws λ_ Z10=>wr (dp (Xaf rfl rfl) (de Z10 (ws λ_ Z11=>wi (λc2=>?_) λc2=>?_)))
  ·obtain⟨x,hj⟩:∃x,(Xb1 s (8*b.length))[j]?=some x:=⟨_,List.getElem?_eq_getElem (by rw[Xdm];omega)⟩
   have hclen:c0.length=b.length:=by rw[hcb,Xms]
   have hx8:=Xhf (by unfold Xcn at hblen;omega) (List.mem_of_getElem? hj)
   obtain⟨c,hc⟩:∃c,c0[x / 8]?=some c:=gtE
   refine Xaa (Z11 _ _ (ws λ_ Z12=>Xab (ws λ_ Z13=>wr (dp (Xoh (m:=6) (e:=3) kr9 kr9 rfl rfl om9 (Xqh hj)) (da (de Z13 ?_))))))
   refine Xaq (R:=Ext) Ext.refl (λ_ _ _=>Ext.trans) kr9 [4] [(0,.p,false),(1,.p,false),(2,.p,false),(3,.p,false),(4,.l,false),(5,.p,false),(6,.p,false),(7,.p,false),(8,.p,false),(9,.p,false),(10,.x,true)] rfl kr9 kr9 (λw5 ew5=>?_)
   have x5:=drewx ew5
   clear ew5
   replace ho:=ho.ext x5
   replace hx:=hx.trans x5
   iterate 2 refine dm ?_
   refine dp (Xot rfl rfl) (di 5 1 (ho.arr ir9).sl rfl ((ho.arr ir9).lt hc) (dL rfl (λ_ hR=>((((ho.arr ir9).ext hR).row hc).at0 rfl)) (dm ?_)))
   refine dp (Xuf om9 rfl rfl) (dp (X09 rfl rfl) (dp (X04 rfl rfl) (Xa2 (v:=ptr b1 (x / 8*1+0)) rfl (Xba (e:=5) (k:=1) kr9 ho.sl rfl rfl om9) (by show ptr b1 (0+x / 8*1)=_;rw[Nat.zero_add];rfl) (Xa3 (enc:=encB) (sz:=1) (i:=x / 8) (j:=0) (x:=c ||| bitB x) (vs:=[b8 (c ||| bitB x)]) ir9 rfl ho rfl rfl rfl kr9 om9 rfl (Nat.le_refl 1) (by intro v hv;rw[List.mem_singleton.1 hv];rfl) (.inl rfl) (λw6 x6 xs6 ho_n=>?_)))))
   replace hx:=hx.own x6 (λi hi=>(ho.lt i hi).1)
   replace ho:=ho_n
   refine de Z12 (wr (pa rfl rfl (dm (Xae (?_)))))
   refine⟨(j+1,c0.set (x / 8) (c ||| bitB x)),zz7,⟨hx,by omega,ho,?_⟩,by simp only [];omega⟩
   rw[Xa0 hj,List.foldl_append,←hcb]
   show _=Xd5 c0 x
   unfold Xd5
   rw[Xou hc]
  refine Xah (Z7 _ _ (wr (pa rfl rfl (dm (Xae (?_))))))
  refine⟨(k+1,c0),zz5,⟨hx,by omega,ho,?_⟩,by simp only [];omega⟩
  rw[Xa0 hk,List.foldl_append,←hb,hcb,List.take_of_length_le (by rw[Xdm];omega)];rfl
 refine Xah (Z3 _ _ (ws λ_ Z14=>wr (dm (da (de Z14 (Xad ?_))))))
 refine ro ?_
 rw[List.take_of_length_le om9]at hb
 exact⟨_,rfl,hx,by rw[hb]at ho;exact ho⟩
theorem Xkf (a b:Cell)(w:World) :
  Calls Tryz.prog 99 [a.v,b.v].toArray w (Pure w (B (less a b))):=by
 refine cw Tryz.func99 ?_
 have hx:=Ext.refl w
 refine ws λ_ Z1=>wr (Xbf rfl rfl rfl RX.all (λb1 w1 e1 x1 m1=>?_))
 have g1:=hx.ge e1
 replace hx:=hx.trans x1
 refine Xbf rfl rfl rfl RX.all (λb2 w2 e2 x2 m2=>?_)
 have g2:=hx.ge e2
 have n2_1:=m1.ltb e2
 replace m1:=m1.ext x2
 replace hx:=hx.trans x2
 refine da (de Z1 (ws λ_ Z2=>ws λ_ Z3=>wr ?_))
 refine df 0 rfl (dl rfl (m1.at rfl) (df 0 rfl (dl rfl (m2.at rfl) (dp (Xj4 rfl rfl) (de Z3 (wi (λc1=>?_) λc1=>?_))))))
 ·refine ws λ_ Z4=>wr (df 0 rfl (dl rfl (m1.at rfl) (df 0 rfl (dl rfl (m2.at rfl) (dp (Xpw rfl rfl) (da (de Z4 (Xad ?_))))))))
  refine ro ?_
  refine⟨?_,hx⟩
  simp [less, *]
 refine Xaa (Z2 _ _ (ws λ_ Z5=>wr (df 3 rfl (dl rfl (m1.at rfl) (df 3 rfl (dl rfl (m2.at rfl) (dp (Xaw rfl rfl) (da (de Z5 (Xad ?_))))))))))
 refine ro ?_
 refine⟨?_,hx⟩
 simp [less, *]
theorem X9j (c:Cell)(w:World) :
  Calls Tryz.prog 153 [c.v].toArray w (Pure w (B (isC c))):=by
 refine cw Tryz.func153 ?_
 have hx:=Ext.refl w
 refine ws λ_ Z1=>wr (Xbf rfl rfl rfl RX.all (λb1 w1 e1 x1 m1=>?_))
 have g1:=hx.ge e1
 replace hx:=hx.trans x1
 refine da (de Z1 (ws λ_ Z2=>wr ?_))
 refine df 0 rfl (dl rfl (m1.at rfl) (dt rfl (dp (Xcg rfl rfl) (dm ?_))))
 refine Xag 7 rfl (λc1=>?_) (λc1=>?_)
 ·refine df 0 rfl (dl rfl (m1.at rfl) (dt rfl (dp (Xci rfl rfl) (dk' ?_))))
  refine dm ?_
  refine Xag 13 rfl (λc2=>?_) (λc2=>?_)
  ·refine df 1 rfl (dl rfl (m1.at rfl) (dt rfl (dp (Xci rfl rfl) (dk' ?_))))
   refine dm ?_
   refine Xag 19 rfl (λc3=>?_) (λc3=>?_)
   ·refine df 2 rfl (dl rfl (m1.at rfl) (dn (dm ?_)))
    refine Xb7 23 rfl (λc4=>?_) (λc4=>?_)
    ·refine dk (dk (dk (dk' ?_)))
     refine dk' ?_
     refine dm ?_
     refine df 3 rfl (dl rfl (m1.at rfl) (dp (Xcg rfl rfl) (dk' ?_)))
     refine dm ?_
     refine Xag 34 rfl (λc5=>?_) (λc5=>?_)
     ·refine df 3 rfl (dl rfl (m1.at rfl) (dp (Xci rfl rfl) (dk' ?_)))
      refine da (de Z2 (Xad ?_))
      refine ro ?_
      refine⟨?_,hx⟩
      simp only [Ending.returned.injEq,Value.bool.injEq]
      simp [isC, *]
      try omega
     refine dk (dk (dk (dk' ?_)))
     refine da (de Z2 (Xad ?_))
     refine ro ?_
     refine⟨?_,hx⟩
     simp only [Ending.returned.injEq,Value.bool.injEq]
     simp [isC, *]
     try omega
    refine df 1 rfl (dl rfl (m1.at rfl) (dp (Xj3 rfl rfl) (dk' ?_)))
    refine dk' ?_
    refine dm ?_
    refine Xag 29 rfl (λc6=>?_) (λc6=>?_)
    ·refine df 3 rfl (dl rfl (m1.at rfl) (dp (Xcg rfl rfl) (dk' ?_)))
     refine dm ?_
     refine Xag 34 rfl (λc7=>?_) (λc7=>?_)
     ·refine df 3 rfl (dl rfl (m1.at rfl) (dp (Xci rfl rfl) (dk' ?_)))
      refine da (de Z2 (Xad ?_))
      refine ro ?_
      refine⟨?_,hx⟩
      simp only [Ending.returned.injEq,Value.bool.injEq]
      simp [isC, *]
      try omega
     refine dk (dk (dk (dk' ?_)))
     refine da (de Z2 (Xad ?_))
     refine ro ?_
     refine⟨?_,hx⟩
     simp only [Ending.returned.injEq,Value.bool.injEq]
     simp [isC, *]
     try omega
    refine dk (dk (dk (dk' ?_)))
    refine dm ?_
    refine dk (dk (dk (dk' ?_)))
    refine da (de Z2 (Xad ?_))
    refine ro ?_
    refine⟨?_,hx⟩
    simp only [Ending.returned.injEq,Value.bool.injEq]
    simp [isC, *]
    try omega
   refine dk (dk (dk (dk (dk (dk (dk (dk (dk' ?_))))))))
   refine dm ?_
   refine dk (dk (dk (dk' ?_)))
   refine dm ?_
   refine dk (dk (dk (dk' ?_)))
   refine da (de Z2 (Xad ?_))
   refine ro ?_
   refine⟨?_,hx⟩
   simp only [Ending.returned.injEq,Value.bool.injEq]
   simp [isC, *]
   try omega
  refine dk (dk (dk (dk (dk' ?_))))
  refine dm ?_
  refine dk (dk (dk (dk (dk (dk (dk (dk (dk' ?_))))))))
  refine dm ?_
  refine dk (dk (dk (dk' ?_)))
  refine dm ?_
  refine dk (dk (dk (dk' ?_)))
  refine da (de Z2 (Xad ?_))
  refine ro ?_
  refine⟨?_,hx⟩
  simp only [Ending.returned.injEq,Value.bool.injEq]
  simp [isC, *]
  try omega
 refine dk (dk (dk (dk (dk' ?_))))
 refine dm ?_
 refine dk (dk (dk (dk (dk' ?_))))
 refine dm ?_
 refine dk (dk (dk (dk (dk (dk (dk (dk (dk' ?_))))))))
 refine dm ?_
 refine dk (dk (dk (dk' ?_)))
 refine dm ?_
 refine dk (dk (dk (dk' ?_)))
 refine da (de Z2 (Xad ?_))
 refine ro ?_
 refine⟨?_,hx⟩
 simp only [Ending.returned.injEq,Value.bool.injEq]
 simp [isC, *]
 try omega
theorem X9k (c:Cell)(w:World) :
  Calls Tryz.prog 36 [c.v].toArray w (Pure w (B (isC c))):=by
 refine cw Tryz.func36 ?_
 have hx:=Ext.refl w
 refine ws λ_ Z1=>wr (Xbf rfl rfl rfl RX.all (λb1 w1 e1 x1 m1=>?_))
 have g1:=hx.ge e1
 replace hx:=hx.trans x1
 refine da (de Z1 (ws λ_ Z2=>wr ?_))
 refine df 0 rfl (dl rfl (m1.at rfl) (dt rfl (dp (Xcg rfl rfl) (dm ?_))))
 refine Xag 7 rfl (λc1=>?_) (λc1=>?_)
 ·refine df 0 rfl (dl rfl (m1.at rfl) (dt rfl (dp (Xci rfl rfl) (dk' ?_))))
  refine dm ?_
  refine Xag 13 rfl (λc2=>?_) (λc2=>?_)
  ·refine df 1 rfl (dl rfl (m1.at rfl) (dt rfl (dp (Xci rfl rfl) (dk' ?_))))
   refine dm ?_
   refine Xag 19 rfl (λc3=>?_) (λc3=>?_)
   ·refine df 2 rfl (dl rfl (m1.at rfl) (dn (dm ?_)))
    refine Xb7 23 rfl (λc4=>?_) (λc4=>?_)
    ·refine dk (dk (dk (dk' ?_)))
     refine dk' ?_
     refine dm ?_
     refine df 3 rfl (dl rfl (m1.at rfl) (dp (Xcg rfl rfl) (dk' ?_)))
     refine dm ?_
     refine Xag 34 rfl (λc5=>?_) (λc5=>?_)
     ·refine df 3 rfl (dl rfl (m1.at rfl) (dp (Xci rfl rfl) (dk' ?_)))
      refine da (de Z2 (Xad ?_))
      refine ro ?_
      refine⟨?_,hx⟩
      simp only [Ending.returned.injEq,Value.bool.injEq]
      simp [isC, *]
      try omega
     refine dk (dk (dk (dk' ?_)))
     refine da (de Z2 (Xad ?_))
     refine ro ?_
     refine⟨?_,hx⟩
     simp only [Ending.returned.injEq,Value.bool.injEq]
     simp [isC, *]
     try omega
    refine df 1 rfl (dl rfl (m1.at rfl) (dp (Xj3 rfl rfl) (dk' ?_)))
    refine dk' ?_
    refine dm ?_
    refine Xag 29 rfl (λc6=>?_) (λc6=>?_)
    ·refine df 3 rfl (dl rfl (m1.at rfl) (dp (Xcg rfl rfl) (dk' ?_)))
     refine dm ?_
     refine Xag 34 rfl (λc7=>?_) (λc7=>?_)
     ·refine df 3 rfl (dl rfl (m1.at rfl) (dp (Xci rfl rfl) (dk' ?_)))
      refine da (de Z2 (Xad ?_))
      refine ro ?_
      refine⟨?_,hx⟩
      simp only [Ending.returned.injEq,Value.bool.injEq]
      simp [isC, *]
      try omega
     refine dk (dk (dk (dk' ?_)))
     refine da (de Z2 (Xad ?_))
     refine ro ?_
     refine⟨?_,hx⟩
     simp only [Ending.returned.injEq,Value.bool.injEq]
     simp [isC, *]
     try omega
    refine dk (dk (dk (dk' ?_)))
    refine dm ?_
    refine dk (dk (dk (dk' ?_)))
    refine da (de Z2 (Xad ?_))
    refine ro ?_
    refine⟨?_,hx⟩
    simp only [Ending.returned.injEq,Value.bool.injEq]
    simp [isC, *]
    try omega
   refine dk (dk (dk (dk (dk (dk (dk (dk (dk' ?_))))))))
   refine dm ?_
   refine dk (dk (dk (dk' ?_)))
   refine dm ?_
   refine dk (dk (dk (dk' ?_)))
   refine da (de Z2 (Xad ?_))
   refine ro ?_
   refine⟨?_,hx⟩
   simp only [Ending.returned.injEq,Value.bool.injEq]
   simp [isC, *]
   try omega
  refine dk (dk (dk (dk (dk' ?_))))
  refine dm ?_
  refine dk (dk (dk (dk (dk (dk (dk (dk (dk' ?_))))))))
  refine dm ?_
  refine dk (dk (dk (dk' ?_)))
  refine dm ?_
  refine dk (dk (dk (dk' ?_)))
  refine da (de Z2 (Xad ?_))
  refine ro ?_
  refine⟨?_,hx⟩
  simp only [Ending.returned.injEq,Value.bool.injEq]
  simp [isC, *]
  try omega
 refine dk (dk (dk (dk (dk' ?_))))
 refine dm ?_
 refine dk (dk (dk (dk (dk' ?_))))
 refine dm ?_
 refine dk (dk (dk (dk (dk (dk (dk (dk (dk' ?_))))))))
 refine dm ?_
 refine dk (dk (dk (dk' ?_)))
 refine dm ?_
 refine dk (dk (dk (dk' ?_)))
 refine da (de Z2 (Xad ?_))
 refine ro ?_
 refine⟨?_,hx⟩
 simp only [Ending.returned.injEq,Value.bool.injEq]
 simp [isC, *]
 try omega
theorem Xui (c:Cell)(w:World)(hk:c.key.length≤1000000000)(hv:c.val.length≤1000000000) :
  Calls Tryz.prog 169 [c.v].toArray w (Pure w (I (Xbh c))):=by
 refine cw Tryz.func169 ?_
 have hx:=Ext.refl w
 refine ws λ_ Z1=>wr (Xbf rfl rfl rfl RX.all (λb1 w1 e1 x1 m1=>?_))
 have g1:=hx.ge e1
 replace hx:=hx.trans x1
 refine da (de Z1 (ws λ_ Z2=>wr ?_))
 refine df 0 rfl (dl rfl (m1.at rfl) (dt rfl (df 1 rfl (dl rfl (m1.at rfl) (dt rfl (pa rfl rfl (pa rfl rfl (da (de Z2 (Xad ?_))))))))))
 refine ro ?_
 refine⟨?_,hx⟩
 simp [Xbh]
end Go.Proofs.YtiooodckiddpmaaGreatDoor
namespace Go.Sp
open Go.Vc (Str)
def Xb8 : Str->Str->Nat
 | a :: r,b :: s=>if a=b then Xb8 r s+1 else 0
 | _,_=>0
theorem Xhg : ∀(a b:Str),Xb8 a b≤a.length∧Xb8 a b≤b.length∧a.take (Xb8 a b)=b.take (Xb8 a b)
 | [],b=>by simp [Xb8]
 | a :: r,[]=>by simp [Xb8]
 | a :: r,b :: s=>by
  have:=Xhg r s
  unfold Xb8
  split
  ·rename_i h
   subst h
   simp only [List.length_cons,List.take_succ_cons]
   exact⟨by omega,by omega,by rw[this.2.2]⟩
  ·simp
theorem Xmu {a b:Str}{k:Nat}{x y:UInt8}(hx:a[k]?=some x)(hy:b[k]?=some y):Xb8 (a.drop k) (b.drop k)=if x=y then Xb8 (a.drop (k+1)) (b.drop (k+1))+1 else 0:=by
 obtain⟨h1,rfl⟩:=List.getElem?_eq_some_iff.1 hx
 obtain⟨h2,rfl⟩:=List.getElem?_eq_some_iff.1 hy
 rw[List.drop_eq_getElem_cons h1,List.drop_eq_getElem_cons h2]
 rfl
theorem Xiz {a b:Str}{k:Nat}(h:a.length≤k∨b.length≤k):Xb8 (a.drop k) (b.drop k)=0:=by
 rcases h with h|h
 ·rw[List.drop_eq_nil_of_le h];cases b.drop k<;>rfl
 ·rw[List.drop_eq_nil_of_le h];cases a.drop k<;>rfl
def Xdt : List Cell->Bool
 | a :: b :: r=>less a b && Xdt (b :: r)
 | _=>true
def errB (l:List Cell):Int:=if(l.all isC)=true then(if Xdt l=true then 0 else 11)else 1
theorem Xqi {l:List Cell}(h:Xdt l=true){k:Nat}{a b:Cell}(ha:l[k]?=some a)(hb:l[k+1]?=some b):less a b=true:=by
 induction l generalizing k with
 | nil=>cases ha
 | cons x r ih=>
  cases r with
  | nil=>simp at hb
  | cons y r=>
   unfold Xdt at h
   rw[Bool.and_eq_true]at h
   cases k with
   | zero=>simp at ha hb;subst ha hb;exact h.1
   | succ k=>exact ih h.2 (by simpa using ha) (by simpa using hb)
theorem Xyv {l:List Cell}(h:∀(k:Nat) (a b:Cell),l[k]?=some a->l[k+1]?=some b->less a b=true):Xdt l=true:=by
 induction l with
 | nil=>rfl
 | cons x r ih=>
  cases r with
  | nil=>rfl
  | cons y r=>
   unfold Xdt
   rw[h 0 x y rfl rfl,Bool.true_and]
   exact ih (λk a b ha hb=>h (k+1) a b (by simpa using ha) (by simpa using hb))
theorem Xfu {l:List Cell} : errB l=0↔(∀c∈l,isC c=true)∧Xdt l=true:=by
 unfold errB
 split
 ·rename_i h
  rw[List.all_eq_true]at h
  split
  ·rename_i h2;exact⟨λ_=>⟨h,h2⟩,λ_=>rfl⟩
  ·rename_i h2;exact⟨λe=>by simp at e,λe=>absurd e.2 h2⟩
 ·rename_i h
  exact⟨λe=>by simp at e,λe=>absurd (List.all_eq_true.2 e.1) h⟩
def Xi0 (d:Bool):Nat:=if d then 1 else 0
def Xe5 (n:Nat)(c:Cell):Str:=numS n++rowS (c.key.drop n)++(numS c.seq.toNat++numS (Xi0 c.del))++(if c.del then[]else rowS c.val)
def shAt (l:List Cell)(k:Nat):Nat:=if k % 4=0 then 0 else Xb8 (l[k-1]?.getD Cell.zero).key (l[k]?.getD Cell.zero).key
def Xcp (l:List Cell)(k:Nat):Str:=Xe5 (shAt l k) (l[k]?.getD Cell.zero)
def blkS (l:List Cell):Str:=(List.range l.length).flatMap (Xcp l)
def blkD (l:List Cell)(k:Nat):Str:=((List.range l.length).drop k).flatMap (Xcp l)
theorem X62 (l:List Cell):blkD l 0=blkS l:=rfl
theorem Xi1 {l:List Cell}{k:Nat}(h:k<l.length):blkD l k=Xcp l k++blkD l (k+1):=by
 unfold blkD
 rw[List.drop_eq_getElem_cons (by simpa using h),List.flatMap_cons]
 simp
theorem Xk7 {l:List Cell}{k:Nat}(h:l.length≤k):blkD l k=[]:=by
 unfold blkD;rw[List.drop_eq_nil_of_le (by simpa using h)];rfl
theorem Xgm {l:List Cell}{k:Nat}(h:k<l.length):(List.range (k+1)).flatMap (Xcp l)=(List.range k).flatMap (Xcp l)++Xcp l k:=by
 rw[List.range_succ,List.flatMap_append];simp
theorem Xov {l:List Cell}{k:Nat}{c:Cell}(h:l[k]?=some c):shAt l k≤c.key.length:=by
 unfold shAt;rw[h];split
 ·omega
 ·exact(Xhg _ _).2.1
theorem Xuj {l:List Cell}{k:Nat}{c:Cell}(h:l[k]?=some c):∀p:Str,p=(if k=0 then[]else(l[k-1]?.getD Cell.zero).key)->shAt l k≤p.length∧p.take (shAt l k)++c.key.drop (shAt l k)=c.key:=by
 intro p hp
 unfold shAt
 rw[h]
 split
 ·rename_i h4;simp
 ·rename_i h4
  rw[if_neg (by rintro rfl;simp at h4)]at hp
  subst hp
  have:=Xhg (l[k-1]?.getD Cell.zero).key c.key
  simp only [Option.getD_some]
  exact⟨this.1,by rw[this.2.2,List.take_append_drop]⟩
theorem Xuk (n:Nat){c:Cell}(h:isC c=true):(Xe5 n c).length≤50+c.key.length+c.val.length:=by
 unfold Xe5 rowS
 have h1:=Xak n;have h2:=Xak (c.key.drop n).length;have h3:=Xak c.seq.toNat;have h4:=Xak (Xi0 c.del);have h5:=Xak c.val.length
 split<;>simp only [List.length_append,List.length_drop,List.length_nil]at *<;>omega
theorem Xmv (n:Nat)(c:Cell):1≤(Xe5 n c).length:=by
 unfold Xe5 numS
 have:1≤(numF 10 n).length:=Xp2 9 n
 simp only [List.length_append];omega
theorem Xow {l:List Cell}(h:∀c∈l,isC c=true)(k:Nat)(hk:k≤l.length):((List.range k).flatMap (Xcp l)).length≤20600*k:=by
 induction k with
 | zero=>simp
 | succ k ih=>
  rw[Xgm om9,List.length_append]
  have:=ih om9
  have hc:l[k]?=some l[k]:=List.getElem?_eq_getElem om9
  have hi:=h l[k] (List.getElem_mem ..)
  have:=Xuk (shAt l k) hi
  have e:Xcp l k=Xe5 (shAt l k) l[k]:=by unfold Xcp;rw[hc];rfl
  simp only [isC,Bool.and_eq_true,decide_eq_true_eq]at hi
  rw[e];omega
theorem Xh7 {l:List Cell}(h:∀c∈l,isC c=true):(blkS l).length≤20600*l.length:=Xow h l.length (Nat.le_refl _)
end Go.Sp
namespace Go.Proofs.YtiooodckiddpmaaGreatDoor
open Go.Vc Go.Sp
attribute [local irreducible] W XW Dw DwT
theorem Xr8 {l:List Cell}{k:Nat}{a b:Cell}(hk:1≤k)(h1:l[k-1]?=some a)(h2:l[k]?=some b):Xdt (l.drop (k-1))=(less a b && Xdt (l.drop k)):=by
 obtain⟨i,rfl⟩:∃i,k=i+1:=⟨k-1,by omega⟩
 simp only [Nat.add_sub_cancel]at *
 rw[Xcs h1,Xcs h2]
 rfl
theorem Xul {l:List Cell}{k:Nat}(h:l.length≤k):Xdt (l.drop (k-1))=true:=by
 have hlen:(l.drop (k-1)).length≤1:=by rw[List.length_drop];omega
 match hd:l.drop (k-1),hlen with
 | [],_=>rfl
 | [a],_=>rfl
theorem Xyw {l:List Cell}{k:Nat}{c:Cell}(h:l[k]?=some c):(l.take (k+1)).all isC=((l.take k).all isC && isC c):=by
 rw[Xa0 h,List.all_append];simp
theorem X3u {l:List Cell}{k:Nat}{c:Cell}(h:l[k]?=some c)(hc:isC c=false):errB l=1:=by
 unfold errB
 rw[if_neg]
 intro h2
 rw[List.all_eq_true]at h2
 rw[h2 c (List.mem_of_getElem? h)]at hc
 cases hc
theorem Xbk {c:Cell}(h:isC c=true):c.key.length≤4096∧c.val.length≤16384∧1≤c.key.length∧1≤c.seq∧c.seq≤1099511627776∧(c.del=true->c.val=[]):=by
 simp only [isC,Bool.and_eq_true,Bool.or_eq_true,decide_eq_true_eq]at h
 refine⟨by omega,by omega,by omega,by omega,by omega,λhd=>?_⟩
 obtain⟨⟨⟨_,h4⟩,_⟩,_⟩:=h
 rcases h4 with h4|h4
 ·rw[hd]at h4;cases h4
 ·exact h4
theorem Xqj {n:Int}(h:1≤n)(h2:n≤1099511627776):capN n=n.toNat:=by unfold capN;omega
theorem Xyx (a b:Str)(w:World)(ha:a.length≤1000000000)(hb:b.length≤1000000000) :
  Calls Tryz.prog 300 [S a,S b].toArray w (Pure w (I ↑(Xb8 a b))):=by
 refine cw Tryz.func300 ?_
 have hx:=Ext.refl w
 refine ws λ_ Z1=>wr (da (de Z1 (ws λ_ Z2=>wr (da (de Z2 (ws λ_ Z3=>Xab ?_))))))
 refine Xaj (G:=Nat) (λk=>[(0,S a),(1,S b),(4,I 0),(5,I ↑k)]) (λk w'=>Ext w w'∧k≤a.length∧k≤b.length∧Xb8 (a.drop k) (b.drop k)+k=Xb8 a b) (λk=>a.length-k) 0 ?_ ?_ ?_
 ·exact zz4
 ·exact⟨hx,Nat.zero_le _,Nat.zero_le _,rfl⟩
 intro X1 g1 w1 hF1
 revert hF1;revert g1;intro k hF1
 clear hx
 obtain⟨hx,hka,hkb,hsh⟩:=hF1
 refine ws λ_ Z4=>ws λ_ Z5=>Xaq (R:=Ext) Ext.refl (λ_ _ _=>Ext.trans) kr9 [] [(0,.p,false),(1,.p,false),(2,.p,false),(3,.p,false),(4,.p,false),(5,.p,false),(6,.p,false),(7,.p,false),(8,.p,false),(9,.p,false),(10,.p,false),(11,.p,false),(12,.p,false),(13,.p,false),(14,.p,false),(15,.p,false),(16,.p,false),(17,.p,false),(18,.p,false)] rfl kr9 kr9 (λw2 ew2=>?_)
 have x2:=drewx ew2
 clear ew2
 replace hx:=hx.trans x2
 iterate 2 refine dm ?_
 refine dt rfl (dp (Xaf rfl rfl) (dm ?_))
 refine Xag 10 rfl (λc1=>?_) (λc1=>?_)
 ·iterate 2 refine dm ?_
  refine dt rfl (dp (Xaf rfl rfl) (dk' ?_))
  refine dm ?_
  refine Xag 16 rfl (λc2=>?_) (λc2=>?_)
  ·obtain⟨x,hk1⟩:∃x,a[k]?=some x:=gtE
   obtain⟨y,hk2⟩:∃y,b[k]?=some y:=gtE
   have hst:=Xmu hk1 hk2
   iterate 2 refine dm ?_
   refine dp (Xn9 kr9 rfl rfl hk1) (dm (dm ?_))
   refine dp (Xn9 kr9 rfl rfl hk2) (dp (Xok rfl rfl) (dk' (de Z5 ?_)))
   refine wi (λc3=>?_) λc3=>?_
   ·refine Xaa (Z4 _ _ (Xab (wr (dm ?_))))
    refine pa rfl rfl (da (Xae (?_)))
    refine⟨k+1,zz4,⟨hx,by omega,by omega,?_⟩,by omega⟩
    rw[hst,if_pos (by simpa using c3)]at hsh;omega
   refine Xah (Z3 _ _ (ws λ_ Z6=>wr (dm (da (de Z6 (Xad ?_))))))
   refine ro ?_
   refine⟨?_,hx⟩
   rw[hst,if_neg (by simpa using c3)]at hsh
   rw[←hsh,Nat.zero_add]
  refine dk (dk (dk (dk (dk (dk (dk (dk' (de Z5 ?_))))))))
  refine W_f rfl (Xah (Z3 _ _ (ws λ_ Z7=>wr (dm (da (de Z7 (Xad ?_)))))))
  refine ro ?_
  refine⟨?_,hx⟩
  rw[Xiz (.inr om9)]at hsh
  rw[←hsh,Nat.zero_add]
 refine dk (dk (dk (dk (dk' ?_))))
 refine dm ?_
 refine dk (dk (dk (dk (dk (dk (dk (dk' (de Z5 ?_))))))))
 refine W_f rfl (Xah (Z3 _ _ (ws λ_ Z8=>wr (dm (da (de Z8 (Xad ?_)))))))
 refine ro ?_
 refine⟨?_,hx⟩
 rw[Xiz (.inl om9)]at hsh
 rw[←hsh,Nat.zero_add]
theorem X63 (d:Bool)(w:World) :
  Calls Tryz.prog 301 [B d].toArray w (Pure w (I ↑(Xi0 d))):=by
 refine cw Tryz.func301 ?_
 have hx:=Ext.refl w
 refine ws λ_ Z1=>wr (da (de Z1 (ws λ_ Z2=>ws λ_ Z3=>wr (dm (de Z3 ?_)))))
 refine wc (λc1=>?_) λc1=>?_
 ·refine ws λ_ Z4=>wr (da (de Z4 (Xad ?_)))
  refine ro ?_
  refine⟨?_,hx⟩
  rw[c1];rfl
 refine Xaa (Z2 _ _ (ws λ_ Z5=>wr (da (de Z5 (Xad ?_)))))
 refine ro ?_
 refine⟨?_,hx⟩
 rw[c1];rfl
theorem X3v (l:List Cell)(v:Value)(w:World)(hv:Arr Cell.cs 4 w v l)(hl:l.length≤30000) :
  Calls Tryz.prog 299 [v].toArray w (Pure w (I (errB l))):=by
 refine cw Tryz.func299 ?_
 have hx:=Ext.refl w
 refine ws λ_ Z1=>wr (da (de Z1 (ws λ_ Z2=>ws λ_ Z3=>wr (dm ?_))))
 refine dv 79 4 (hv.ext hx).sl (dm (de Z3 (Xab ?_)))
 refine Xaj (G:=Nat) (λk=>[(0,v),(6,v),(7,I ↑l.length),(8,I ↑k)]) (λk w'=>Ext w w'∧k≤l.length∧(l.take k).all isC=true) (λk=>l.length-k) 0 ?_ ?_ ?_
 ·exact zz4
 ·exact⟨hx,Nat.zero_le _,rfl⟩
 intro X1 g1 w1 hF1
 revert hF1;revert g1;intro k hF1
 clear hx
 obtain⟨hx,hk1,hA⟩:=hF1
 refine ws λ_ Z4=>wr (dp (Xaf rfl rfl) (de Z4 (ws λ_ Z5=>wi (λc1=>?_) λc1=>?_)))
 ·obtain⟨c,hk⟩:∃c,l[k]?=some c:=gtE
  refine Xaa (Z5 _ _ (ws λ_ Z6=>Xab (ws λ_ Z7=>wr (di 79 4 (hv.ext hx).sl rfl ((hv.ext hx).lt hk) (dq (Xac kr9 rfl rfl ((hv.ext hx).row hk)) (Xan (cs:=[S [],S [],B false,.int .i64 0]) rfl kr9 RX.all (λb1 w2 e1 x2 m1=>?_)))))))
  have g1:=hx.ge e1
  replace hx:=hx.trans x2
  refine stA m1 (λw3 x3 xs3 m1=>?_)
  try dsimp only [Xal,List.set,List.take,List.drop]at m1
  replace hx:=hx.o1 x3
  refine de Z7 (ws λ_ Z8=>wr (dq (Xac (k:=4) kr9 rfl rfl m1.row) (cP (X9j c _) RX.all λw4 x4=>?_)))
  replace hx:=hx.trans x4
  refine dn (de Z8 ?_)
  refine wc (λc2=>?_) λc2=>?_
  ·refine ws λ_ Z9=>wr (da (de Z9 (Xad ?_)))
   refine ro ?_
   refine⟨?_,hx⟩
   rw[X3u hk (by simpa using c2)]
  refine Xaa (Z6 _ _ (wr (pa rfl rfl (dm (Xae (?_))))))
  refine⟨k+1,zz4,⟨hx,by omega,?_⟩,by omega⟩
  rw[Xyw hk,hA];simpa using c2
 refine Xah (Z2 _ _ (ws λ_ Z10=>ws λ_ Z11=>wr (da (de Z11 (Xab ?_)))))
 refine Xaj (G:=Nat) (λk=>[(0,v),(5,I ↑k)]) (λk w'=>Ext w w'∧1≤k∧Xdt l=Xdt (l.drop (k-1))∧l.all isC=true) (λk=>l.length-k) 1 ?_ ?_ ?_
 ·exact zz2
 ·exact⟨hx,Nat.le_refl _,rfl,by rw[List.take_of_length_le om9]at hA;exact hA⟩
 intro X5 g5 w5 hF5
 revert hF5;revert g5;intro k hF5
 clear hx
 obtain⟨hx,hk0,hr,hA⟩:=hF5
 refine ws λ_ Z12=>ws λ_ Z13=>wr (dm (dm ?_))
 refine dv 79 4 (hv.ext hx).sl (dp (Xaf rfl rfl) (de Z13 (wi (λc3=>?_) λc3=>?_)))
 ·obtain⟨c,hk⟩:∃c,l[k]?=some c:=gtE
  obtain⟨x,hk1⟩:∃x,l[k-1]?=some x:=gtE
  have hst:=Xr8 hk0 hk1 hk
  refine Xaa (Z12 _ _ (ws λ_ Z14=>Xab (ws λ_ Z15=>Xaq (R:=Ext) Ext.refl (λ_ _ _=>Ext.trans) kr9 [4,8] [(0,.p,false),(1,.p,false),(2,.p,false),(3,.p,false),(4,.l,false),(5,.p,false),(6,.p,false),(7,.p,false),(8,.l,false),(9,.x,true),(10,.p,false)] rfl kr9 kr9 (λw6 ew6=>?_))))
  have x6:=drewx ew6
  clear ew6
  replace hx:=hx.trans x6
  iterate 2 refine dm ?_
  refine Xa2 (v:=I ↑(k-1)) rfl (Xay rfl rfl (by unfold Xai;omega)) (by show I _=I _;congr 1;omega) (di 79 4 (hv.ext hx).sl rfl ((hv.ext hx).lt hk1) (D_l rfl (λw' hR=>Xac kr9 rfl rfl (((hv.ext hx).ext hR).row hk1)) (dm (dm ?_))))
  refine di 79 4 (hv.ext hx).sl rfl ((hv.ext hx).lt hk) (D_l rfl (λw' hR=>Xac kr9 rfl rfl (((hv.ext hx).ext hR).row hk)) (cP (Xkf x c _) RX.all λw7 x7=>?_))
  replace hx:=hx.trans x7
  refine dn (de Z15 ?_)
  refine wc (λc4=>?_) λc4=>?_
  ·refine ws λ_ Z16=>wr (da (de Z16 (Xad ?_)))
   refine ro ?_
   refine⟨?_,hx⟩
   simp only [Bool.not_eq_true']at c4
   unfold errB
   rw[if_pos hA,hr,hst,c4];rfl
  refine Xaa (Z14 _ _ (wr (dm ?_)))
  refine pa rfl rfl (da (Xae (?_)))
  refine⟨k+1,zz2,⟨hx,by omega,?_,hA⟩,by omega⟩
  rw[hr,hst];simp at c4;rw[c4];rfl
 refine Xah (Z10 _ _ (ws λ_ Z17=>wr (da (de Z17 (Xad ?_)))))
 refine ro ?_
 refine⟨?_,hx⟩
 unfold errB
 rw[if_pos hA,hr,Xul om9];rfl
end Go.Proofs.YtiooodckiddpmaaGreatDoor
namespace Go.Proofs
open Go.Shelf
def Tryz.lays125_ren : Go.Shelf.Ren:=⟨λ|125=>204|128=>271|129=>272|n=>n,λ|46=>237|3=>3|51=>174|53=>236|4=>4|5=>5|9=>9|n=>n,λ|n=>n⟩
def Tryz.lays106_ren : Go.Shelf.Ren:=⟨λ|106=>166|213=>242|265=>298|n=>n,λ|9=>9|3=>3|n=>n,λ|n=>n⟩
theorem Tryz.lays106 : Go.Proofs.Lays.n106 Tryz.prog Tryz.lays106_ren:={
 mixed:=by kernel_rfl
 f106:=Tryz.func166.trans (congrArg some kr9)
 f213:=Tryz.func242.trans (congrArg some kr9)
 f265:=Tryz.func298.trans (congrArg some kr9)
 t3:=Tryz.underlying3
 a3:=Tryz.isAgg3
 z3:=Tryz.sizeOf3
 v3:=Tryz.zeroValue3
 t9:=Tryz.underlying9
 a9:=Tryz.isAgg9
 z9:=Tryz.sizeOf9
 v9:=Tryz.zeroValue9 }
open Go.RowKit in
theorem Tryz.strings_Compare (a b:ByteArray)(w:World) :
 Calls Tryz.prog 166 #[.string a,.string b] w λe w'=>e=.returned (.int .i64 (Lib.compareBytes a.data.toList b.data.toList))∧w'=w:=Any.strings_Compare Tryz.lays106 a b w
def Tryz.lays122_ren : Go.Shelf.Ren:=⟨λ|122=>247|215=>304|n=>n,λ|3=>3|4=>4|n=>n,λ|n=>n⟩
def Tryz.laysM171_ren : Go.Shelf.Ren:=⟨λ|171=>106|243=>183|246=>254|283=>307|284=>308|285=>309|286=>310|129=>272|317=>329|318=>330|319=>331|320=>332|337=>338|338=>339|n=>n,λ|3=>3|9=>9|2=>2|4=>4|171=>350|0=>0|53=>236|37=>82|5=>5|173=>352|212=>366|51=>174|20=>20|213=>367|46=>237|232=>371|233=>372|n=>n,λ|17=>1|18=>2|19=>3|n=>n⟩
theorem Tryz.laysM171 : Go.Proofs.LaysM.n171 Tryz.prog Tryz.laysM171_ren:={
 mixed:=by kernel_rfl
 f129:=Tryz.func272.trans (congrArg some kr9)
 f171:=Tryz.func106.trans (congrArg some kr9)
 f243:=Tryz.func183.trans (congrArg some kr9)
 f246:=Tryz.func254.trans (congrArg some kr9)
 f283:=Tryz.func307.trans (congrArg some kr9)
 f284:=Tryz.func308.trans (congrArg some kr9)
 f285:=Tryz.func309.trans (congrArg some kr9)
 f286:=Tryz.func310.trans (congrArg some kr9)
 f317:=Tryz.func329.trans (congrArg some kr9)
 f318:=Tryz.func330.trans (congrArg some kr9)
 f319:=Tryz.func331.trans (congrArg some kr9)
 f320:=Tryz.func332.trans (congrArg some kr9)
 f337:=Tryz.func338.trans (congrArg some kr9)
 f338:=Tryz.func339.trans (congrArg some kr9)
 t0:=Tryz.underlying0
 a0:=Tryz.isAgg0
 z0:=Tryz.sizeOf0
 v0:=Tryz.zeroValue0
 t2:=Tryz.underlying2
 a2:=Tryz.isAgg2
 z2:=Tryz.sizeOf2
 v2:=Tryz.zeroValue2
 t3:=Tryz.underlying3
 a3:=Tryz.isAgg3
 z3:=Tryz.sizeOf3
 v3:=Tryz.zeroValue3
 t4:=Tryz.underlying4
 a4:=Tryz.isAgg4
 z4:=Tryz.sizeOf4
 v4:=Tryz.zeroValue4
 t5:=Tryz.underlying5
 a5:=Tryz.isAgg5
 z5:=Tryz.sizeOf5
 v5:=Tryz.zeroValue5
 t9:=Tryz.underlying9
 a9:=Tryz.isAgg9
 z9:=Tryz.sizeOf9
 v9:=Tryz.zeroValue9
 t20:=Tryz.underlying20
 a20:=Tryz.isAgg20
 z20:=Tryz.sizeOf20
 v20:=Tryz.zeroValue20
 t37:=Tryz.underlying82
 a37:=Tryz.isAgg82
 z37:=Tryz.sizeOf82
 v37:=Tryz.zeroValue82
 t46:=Tryz.underlying237
 a46:=Tryz.isAgg237
 z46:=Tryz.sizeOf237
 v46:=Tryz.zeroValue237
 t51:=Tryz.underlying174
 a51:=Tryz.isAgg174
 z51:=Tryz.sizeOf174
 v51:=Tryz.zeroValue174
 t53:=Tryz.underlying236
 a53:=Tryz.isAgg236
 z53:=Tryz.sizeOf236
 v53:=Tryz.zeroValue236
 t171:=Tryz.underlying350
 a171:=Tryz.isAgg350
 z171:=Tryz.sizeOf350
 v171:=Tryz.zeroValue350
 t173:=Tryz.underlying352
 a173:=Tryz.isAgg352
 z173:=Tryz.sizeOf352
 v173:=Tryz.zeroValue352
 t212:=Tryz.underlying366
 a212:=Tryz.isAgg366
 z212:=Tryz.sizeOf366
 v212:=Tryz.zeroValue366
 t213:=Tryz.underlying367
 a213:=Tryz.isAgg367
 z213:=Tryz.sizeOf367
 t232:=Tryz.underlying371
 a232:=Tryz.isAgg371
 z232:=Tryz.sizeOf371
 v232:=Tryz.zeroValue371
 t233:=Tryz.underlying372
 a233:=Tryz.isAgg372
 z233:=Tryz.sizeOf372
 v233:=Tryz.zeroValue372
 g17:=by kernel_rfl
 g18:=by kernel_rfl
 g19:=by kernel_rfl
 i0:=by kernel_rfl
 i2:=by kernel_rfl
 i3:=by kernel_rfl
 i4:=by kernel_rfl
 i5:=by kernel_rfl
 i9:=by kernel_rfl
 i20:=by kernel_rfl
 i37:=by kernel_rfl
 i46:=by kernel_rfl
 i51:=by kernel_rfl
 i53:=by kernel_rfl
 i171:=by kernel_rfl
 i173:=by kernel_rfl
 i212:=by kernel_rfl
 i232:=by kernel_rfl
 i233:=by kernel_rfl
 m17:=by kernel_rfl
 m18:=by kernel_rfl
 m19:=by kernel_rfl }
open Go.RowKit Go.Sort Go.Lib in
theorem Tryz.strconv_Itoa (n : Int) (h0 : -9223372036854775808 ≤ n) (h1 : n ≤ 9223372036854775807) (w : World) (htab : Lib.TabIs Tryz.prog w "internal/strconv.uint64pow10" .u64 Lib.pow10Tab) :
 Calls Tryz.prog 106 #[.int .i64 n] w λe w'=>e=.returned (.string ⟨(Lib.itoa n).toArray⟩)∧∃k os,w'=grow (w.drewN k) os:=Any.strconv_Itoa Tryz.laysM171 n h0 h1 w htab
def Tryz.lays99_ren : Go.Shelf.Ren:=⟨λ|99=>129|206=>200|n=>n,λ|9=>9|4=>4|3=>3|n=>n,λ|n=>n⟩
def Tryz.lays107_ren : Go.Shelf.Ren:=⟨λ|107=>171|108=>244|n=>n,λ|28=>159|3=>3|4=>4|0=>0|n=>n,λ|n=>n⟩
def Tryz.lays110_ren : Go.Shelf.Ren:=⟨λ|110=>130|109=>201|n=>n,λ|31=>58|9=>9|4=>4|3=>3|0=>0|n=>n,λ|n=>n⟩
theorem Tryz.lays110 : Go.Proofs.Lays.n110 Tryz.prog Tryz.lays110_ren:={
 mixed:=by kernel_rfl
 f109:=Tryz.func201.trans (congrArg some kr9)
 f110:=Tryz.func130.trans (congrArg some kr9)
 t0:=Tryz.underlying0
 a0:=Tryz.isAgg0
 z0:=Tryz.sizeOf0
 v0:=Tryz.zeroValue0
 t3:=Tryz.underlying3
 a3:=Tryz.isAgg3
 z3:=Tryz.sizeOf3
 v3:=Tryz.zeroValue3
 t4:=Tryz.underlying4
 a4:=Tryz.isAgg4
 z4:=Tryz.sizeOf4
 v4:=Tryz.zeroValue4
 t9:=Tryz.underlying9
 a9:=Tryz.isAgg9
 z9:=Tryz.sizeOf9
 v9:=Tryz.zeroValue9
 t31:=Tryz.underlying58
 a31:=Tryz.isAgg58
 z31:=Tryz.sizeOf58
 v31:=Tryz.zeroValue58 }
open Go.Lib in
theorem Tryz.slices_Contains_string (b off n c:Nat)(zs:List ByteArray)(x:ByteArray)(w:World)(hz:n≤zs.length)(hbig:n≤9223372036854775807)(hc:∀j,j<zs.length->w.cell? ⟨b,off+j,none⟩=some (.string (zs.getD j ByteArray.empty))) :
 Calls Tryz.prog 130 #[.slice (some ⟨b,off,none⟩) n c,.string x] w λe w'=>e=.returned (.bool (Lib.containsS (zs.take n) x))∧w'=w:=Any.slices_Contains_string Tryz.lays110 b off n c zs x w hz hbig hc
open Go.Lib in
theorem Tryz.slices_Contains_string_empty (a:Option Addr)(c:Nat)(x:ByteArray)(w:World) :
 Calls Tryz.prog 130 #[.slice a 0 c,.string x] w λe w'=>e=.returned (.bool false)∧w'=w:=Any.slices_Contains_string_empty Tryz.lays110 a c x w
def Tryz.laysSlJ14_ren : Go.Shelf.Ren:=⟨λ|14=>240|15=>290|n=>n,λ|26=>133|22=>82|3=>3|4=>4|0=>0|9=>9|20=>20|5=>5|n=>n,λ|n=>n⟩
theorem Tryz.laysSlJ14 : Go.Proofs.SlLaysJ.n14 Tryz.prog Tryz.laysSlJ14_ren:={
 mixed:=by kernel_rfl
 f14:=Tryz.func240.trans (congrArg some kr9)
 f15:=Tryz.func290.trans (congrArg some kr9)
 t0:=Tryz.underlying0
 a0:=Tryz.isAgg0
 z0:=Tryz.sizeOf0
 v0:=Tryz.zeroValue0
 t3:=Tryz.underlying3
 a3:=Tryz.isAgg3
 z3:=Tryz.sizeOf3
 v3:=Tryz.zeroValue3
 t4:=Tryz.underlying4
 a4:=Tryz.isAgg4
 z4:=Tryz.sizeOf4
 v4:=Tryz.zeroValue4
 t9:=Tryz.underlying9
 a9:=Tryz.isAgg9
 z9:=Tryz.sizeOf9
 v9:=Tryz.zeroValue9
 t20:=Tryz.underlying20
 a20:=Tryz.isAgg20
 z20:=Tryz.sizeOf20
 v20:=Tryz.zeroValue20
 t22:=Tryz.underlying82
 a22:=Tryz.isAgg82
 z22:=Tryz.sizeOf82
 v22:=Tryz.zeroValue82
 t26:=Tryz.underlying133
 a26:=Tryz.isAgg133
 z26:=Tryz.sizeOf133
 v26:=Tryz.zeroValue133
 t5:=Tryz.underlying5
 z5:=Tryz.sizeOf5
 i5:=by kernel_rfl }
open Go.RowKit Go.Lib in
theorem Tryz.bytes_Join_many (b o n c:Nat)(vs:List Value)(ls:List (List UInt8))(sv:Value)(sep:List UInt8)(w:World)(hn:ls.length=n)(h2:2≤n)(hP:Lib.PartsAt w ⟨b,o,none⟩ vs ls)(hcap:n≤c)(hS:Lib.HoldsBytes w sv sep)(hn47:n≤140737488355328)(hlen:Lib.lens ls+sep.length*(n-1)≤140737488355328) :
 Calls Tryz.prog 240 #[.slice (some ⟨b,o,none⟩) n c,sv] w λe w'=>∃v',e=.returned v'∧Lib.FreshBytes w.heap.size w' v' (Lib.join ls sep)∧Below w.heap.size w w':=Any.bytes_Join_many Tryz.laysSlJ14 b o n c vs ls sv sep w hn h2 hP hcap hS hn47 hlen
open Go.RowKit Go.Lib in
theorem Tryz.bytes_Join_none (p:Option Addr)(c:Nat)(sv:Value)(w:World) :
 Calls Tryz.prog 240 #[.slice p 0 c,sv] w λe w'=>e=.returned (.slice (some ⟨w.heap.size,0,none⟩) 0 0)∧w'=w.alloc (.cells #[] 5):=Any.bytes_Join_none Tryz.laysSlJ14 p c sv w
open Go.RowKit Go.Lib in
theorem Tryz.bytes_Join_one (b o c:Nat)(ad0:Addr)(c0:Nat)(l0:List UInt8)(sv:Value)(w:World)(hcell:w.cell? ⟨b,o,none⟩=some (.slice (some ad0) l0.length c0))(hc:∀(i:Nat) x,l0[i]?=some x->w.cell? (ad0.add i)=some (.int .u8 (x.toNat:Int)))(h0:0<l0.length)(hs:l0.length≤140737488355328) :
 Calls Tryz.prog 240 #[.slice (some ⟨b,o,none⟩) 1 c,sv] w λe w'=>∃v',e=.returned v'∧Lib.FreshBytes w.heap.size w' v' l0∧Below w.heap.size w w':=Any.bytes_Join_one Tryz.laysSlJ14 b o c ad0 c0 l0 sv w hcell hc h0 hs
open Go.RowKit Go.Lib in
theorem Tryz.bytes_Join_one_empty (b o c:Nat)(p0:Option Addr)(c0:Nat)(sv:Value)(w:World)(hcell:w.cell? ⟨b,o,none⟩=some (.slice p0 0 c0)) :
 Calls Tryz.prog 240 #[.slice (some ⟨b,o,none⟩) 1 c,sv] w λe w'=>e=.returned (.slice none 0 0)∧w'=w:=Any.bytes_Join_one_empty Tryz.laysSlJ14 b o c p0 c0 sv w hcell
def Tryz.laysSlE041_f102_ren : Go.Shelf.Ren:=⟨λ|41=>102|n=>n,λ|22=>153|23=>174|4=>4|n=>n,λ|n=>n⟩
end Go.Proofs
namespace Go.Vc
open Go.RowKit
section
variable {P:Program}{n:Nat}{E:Env}{w:World}{v:Value}
theorem Xum {fn:Func}{t s q:Nat}{u x:Value}{R:Ending->World->Prop}(hr:fn.results=#[.tmp t,.tmp s,.tmp q])(ht:Nat.blt t n=true)(hs:Nat.blt s n=true)(hq:Nat.blt q n=true)(hv:E t=v)(hu:E s=u)(hx:E q=x)(h:R (.returned (.tuple #[v,u,x])) w):Xcd P fn n R .ret E w:=by
 have ht':t<n:=by simpa [Nat.blt_eq]using ht
 have hs':s<n:=by simpa [Nat.blt_eq]using hs
 have hq':q<n:=by simpa [Nat.blt_eq]using hq
 refine⟨.tuple #[v,u,x],?_,h⟩
 simp [results,hr,act,ht',hv,hs',hu,hq',hx]
theorem rt3 {fn:Func}{t s q:Nat}{u x:Value}{R:Ending->World->Prop}(h:R (.returned (.tuple #[v,u,x])) w)(hr:fn.results=#[.tmp t,.tmp s,.tmp q]:=by rfl)(ht:Nat.blt t n=true:=by rfl)(hs:Nat.blt s n=true:=by rfl)(hq:Nat.blt q n=true:=by rfl)
 (hv:E t=v:=by conv=>lhs;whnf) (hu:E s=u:=by conv=>lhs;whnf) (hx:E q=x:=by conv=>lhs;whnf):Xcd P fn n R .ret E w:=Xum hr ht hs hq hv hu hx h
end
end Go.Vc
