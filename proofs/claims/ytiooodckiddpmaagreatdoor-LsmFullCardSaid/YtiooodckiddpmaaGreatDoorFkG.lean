/-
 A part of the proof: StA StB ChA SpTell VcGr MgA.
-/
import Derived.Test.YtiooodckiddpmaaGreatDoorFkA
import Derived.Test.YtiooodckiddpmaaGreatDoorChecked
import Derived.KernelRfl
import Derived.Test.YtiooodckiddpmaaGreatDoorFkD
import Derived.Test.YtiooodckiddpmaaGreatDoorFkF
import Derived.Test.YtiooodckiddpmaaGreatDoorFkB
import Derived.Test.YtiooodckiddpmaaGreatDoorFkE
open Nat renaming le_refl->Aa,zero_le->Ad,le_of_ble_eq_true->Ap,zero_add->A9,succ_mul->Ba,min_eq_left->Bv,not_lt_zero->B3,add_sub_cancel->BR,min_eq_right->Ep
open List renaming length_append->Ab,take->Af,set->Ag,mem_singleton->Ah,drop->Ai,mem_cons->Aj,mem_of_getElem?->Ak,mem_cons_self->Al,mem_cons_of_mem->Am,getElem?_eq_some_iff->Ao,take_of_length_le->Ax,mem_append->Ay,mem_filter->Az,length_take->A4,length->A7,length_set->AG,take_length->AK,pairwise_cons->AO,flatMap_append->Bb,length_drop->Bh,pairwise_append->Bs,drop_zero->Ca,all_eq_false->Er
open Decidable renaming of_not_not->AI
open List.Pairwise renaming nil->Bp,filter->C9,imp->E7
open Int renaming le_refl->BX
open Bool renaming not_eq_true->BY,and_eq_false_iff->C8
set_option maxRecDepth 100000
set_option maxHeartbeats 4000000
set_option linter.unusedVariables false
set_option linter.unusedSimpArgs false
namespace Go.Proofs.YtiooodckiddpmaaGreatDoor
open Go.Vc Go.Sp
attribute [local irreducible] W XW Dw Gm
theorem LA {P:Program}{E:Fg}{dd:Option Tmp}{ty:TypeId}{pos:String}{af:Array Edge}{g:Option (Nat×Bool)}{x y:Operand}{T U:TypeId}{u:Nat}{ky:IntKind}(hx:ev E x=.int .u64 u)(hy:ev E y=.int ky 1):PV P ⟨dd,.binOp .shr T x y U,ty,pos,af,g⟩ E (.int .u64 (u / 2:Nat)):=by
 have:=MT (P:=P) (dd:=dd) (ty:=ty) (pos:=pos) (af:=af) (g:=g) (T:=T) (U:=U) hx hy EK;rwa [show((u:Int)).fdiv (2 ^ min (1:Int).toNat IntKind.u64.bits)=((u / 2:Nat):Int) by
  rw[show(2:Int) ^ min (1:Int).toNat IntKind.u64.bits=2 by decide,Int.fdiv_eq_ediv_of_nonneg _ EA];omega]at this
def F3 {α:Type}(c:α->α->Int)(x y:α):Bool:=decide (c x y<0)
theorem JP {α:Type}{enc:α->List Value}{sz T B:Nat}{w:World}{v:Value}{l:List α}(h:Vc.Own enc sz T B w v l)(hl:l≠[]):(base v).2=0:=by
 obtain⟨cs,cap,e,_⟩:=h.cells hl;rw[e];rfl
theorem Ws (l:List Cell)(v:Value)(Bo f:Nat)(c:Cell->Cell->Int)(w:World)(ho:Vc.Own Cell.cs 4 79 Bo w v l)(hl:l.length<=10000000)(hcb:GL Tryz.prog f=true)(hc:∀w2 x y,Calls Tryz.prog f [Cell.v x,Cell.v y].toArray w2 (Pure w2 (I (c x y))))(O:Ord (F3 c))(a b:Nat)(hab:a<=b)(hb:b<=l.length) :
  Calls Tryz.prog 252 [v,I ↑a,I ↑b,Gy f].toArray w (Fh (λk=>v.ownBlock=some k) w (λu w'=>u=.tuple #[]/\∃l',Vc.Own Cell.cs 4 79 Bo w' v l'/\G0 (F3 c) a b l l')):=by
 refine cw Tryz.func252 ?_;have J:=Vc.Mod.refl (λk=>v.ownBlock=some k) w;refine ws λ_ Z1=>wr (dm ?_);refine pa rfl rfl (da (de Z1 (EN ?_)));refine Fk (G:=Nat×List Cell) (λ(i,cur)=>[(0,v),(1,I ↑a),(2,I ↑b),(3,Gy f),(8,I ↑i)]) (λ(i,cur) w'=>Mod (λk=>v.ownBlock=some k) w w'/\a+1<=i/\G0 (F3 c) a (min i b) l cur/\Vc.Own Cell.cs 4 79 Bo w' v cur) (λ(i,cur)=>b-i) (a+1,l) ?_ ?_ ?_
 ·exact FA
 ·exact⟨J,Aa _,G0.one l EA EA EA,ho⟩
 intro X1 g1 w1 hw;obtain⟨i,cur⟩:=g1;clear J ho;obtain⟨J,hi1,hs,ho⟩:=hw;refine ws λ_ Z2=>ws λ_ Z3=>wr (dm (dm ?_));refine dp (Fa rfl rfl) (de Z3 (wi (λc1=>?_) λc1=>?_))
 ·have ht:G0 (F3 c) a i l cur:=by rw[Bv EA]at hs;exact hs
  refine EG (Z2 _ _ (ws λ_ Z4=>EN (ws λ_ Z5=>wr (dm (da (de Z5 (EN ?_)))))));refine Fk (G:=Nat×List Cell) (λ(j,r)=>[(0,v),(1,I ↑a),(2,I ↑b),(3,Gy f),(8,I ↑i),(9,I ↑j)]) (λ(j,r) w'=>Mod (λk=>v.ownBlock=some k) w w'/\IY (F3 c) a i j l r/\Vc.Own Cell.cs 4 79 Bo w' v r) (λ(j,r)=>j) (i,cur) ?_ ?_ ?_
  ·exact FSq
  ·exact⟨J,TF ht EA,ho⟩
  intro X2 g2 w2 hq;obtain⟨j,r⟩:=g2;clear J ho;obtain⟨J,hj,ho⟩:=hq;refine ws λ_ Z6=>ws λ_ Z7=>F4 (R:=EB) EB.refl (λ_ _ _=>EB.trans) E9 [8,13] [(0,.p,false),(1,.p,false),(2,.p,false),(3,.p,false),(4,.p,false),(5,.p,false),(6,.p,false),(7,.p,false),(8,.l,false),(9,.p,false),(10,.p,false),(11,.p,false),(12,.p,false),(13,.l,false),(14,.x,true),(15,.p,false),(16,.p,false)] rfl E9 E9 (λw3 hh=>?_);have x3:=EJ hh;clear hh;have ho:=ho.ext x3;have J:=J.ext x3
  iterate 2 refine dm ?_
  refine dp (FY rfl rfl) (dm ?_);refine Fz 21 rfl (λc2=>?_) (λc2=>?_)
  ·have hr:=hj.len;obtain⟨x,hxj⟩:∃x,r[j]?=some x:=Fq;obtain⟨z,hzj⟩:∃x,r[j-1]?=some x:=Fq;have hg:=JP ho (λe=>by rw[e]at hxj;simp at hxj)
   iterate 3 refine dm ?_
   refine di 79 4 (ho.arr EE).sl rfl ((ho.arr EE).lt hxj) (FK rfl (λw' Z=>Fb E9 rfl rfl (((ho.arr EE).ext Z).row hxj)) (dm (dm ?_)));refine EW (v:=I ↑(j-1)) rfl (Ga rfl rfl (by unfold ET;omega)) (by show I _=I _;congr 1;omega) (di 79 4 (ho.arr EE).sl rfl ((ho.arr EE).lt hzj) (FK rfl (λw' Z=>Fb E9 rfl rfl (((ho.arr EE).ext Z).row hzj)) (KP (vs:=[x.v,z.v]) rfl rfl hcb (hc _ x z) rfl RX.all (λw4 x4=>?_))));have ho:=ho.ext x4;have J:=J.ext x4;refine dp (Fa rfl rfl) (EO (de Z7 ?_));refine wi (λc3=>?_) λc3=>?_
   ·have hf:F3 c x z=true:=by simpa [F3]using c3
    refine EG (Z6 _ _ (ws λ_ Z8=>EN (F4 (R:=EB) EB.refl (λ_ _ _=>EB.trans) E9 [9,13] [(0,.p,false),(1,.p,false),(2,.p,false),(3,.p,false),(4,.p,false),(5,.p,false),(6,.p,false),(7,.p,false),(8,.p,false),(9,.l,false),(10,.p,false),(11,.p,false),(12,.p,false),(13,.l,false),(14,.p,false),(15,.x,true),(16,.p,false),(17,.x,true)] rfl E9 E9 (λw5 hp=>?_))));have x5:=EJ hp;clear hp;have ho:=ho.ext x5;have J:=J.ext x5
    iterate 4 refine dm ?_
    refine EW (v:=I ↑(j-1)) rfl (Ga rfl rfl (by unfold ET;omega)) (by show I _=I _;congr 1;omega) (dm (dm ?_));refine EW (v:=I ↑(j-1)) rfl (Ga rfl rfl (by unfold ET;omega)) (by show I _=I _;congr 1;omega) (di 79 4 (ho.arr EE).sl rfl ((ho.arr EE).lt hzj) (FK rfl (λw' Z=>Fb E9 rfl rfl (((ho.arr EE).ext Z).row hzj)) (dm (dm ?_))));refine di 79 4 (ho.arr EE).sl rfl ((ho.arr EE).lt hxj) (FK rfl (λw' Z=>Fb E9 rfl rfl (((ho.arr EE).ext Z).row hxj)) (EW (v:=ED (base v).1 (j*4+0)) rfl (HM (i:=j) (e:=79) (k:=4) E9 ho.sl rfl rfl (by omega)) (by rw[hg];show ED _ (0+_)=_;rw[A9];rfl) ?_));refine H5 (enc:=Cell.cs) (sz:=4) (l:=r) (i:=j) (j:=0) (x:=z) (vs:=z.cs) EE rfl ho rfl rfl rfl E9 (by omega) rfl (Aa 4) (by intro v hv;simp at hv;rcases hv with rfl|rfl|rfl|rfl<;>rfl) (.inl rfl) (λw6 x6 xs6 Y=>?_);have J:=J.own x6 (λi hi hf=>hi);have ho:=Y;refine EW (v:=ED (base v).1 ((j-1)*4+0)) rfl (HM (i:=(j-1)) (e:=79) (k:=4) E9 ho.sl rfl rfl (by rw[AG];omega)) (by rw[hg];show ED _ (0+_)=_;rw[A9];rfl) ?_;refine H5 (enc:=Cell.cs) (sz:=4) (l:=(r.set j z)) (i:=(j-1)) (j:=0) (x:=x) (vs:=x.cs) EE rfl ho rfl rfl rfl E9 (by rw[AG];omega) rfl (Aa 4) (by intro v hv;simp at hv;rcases hv with rfl|rfl|rfl|rfl<;>rfl) (.inl rfl) (λw7 x7 xs7 Y=>?_);have J:=J.own x7 (λi hi hf=>hi);have ho:=Y;refine de Z8 (wr (dm ?_));refine EW (v:=I ↑(j-1)) rfl (Ga rfl rfl (by unfold ET;omega)) (by show I _=I _;congr 1;omega) (da (EF (?_)));exact⟨(j-1,_),FSq,⟨J,TP hj EA hxj hzj hf,ho⟩,by simp only [];omega⟩
   have ha:G0 (F3 c) a (i+1) l r:=Pk O hj (.inr ⟨x,z,hxj,hzj,by simpa [F3]using c3⟩);refine Ff (Z4 _ _ (wr (dm ?_)));refine pa rfl rfl (da (EF (?_)));exact⟨(i+1,r),FA,⟨J,by omega,by rw[Bv EA];exact ha,ho⟩,by simp only [];omega⟩
  have hr:=hj.len;have ha:G0 (F3 c) a (i+1) l r:=Pk O hj (.inl EA)
  iterate 12 refine dk ?_
  refine EO (de Z7 ?_);refine GB rfl (Ff (Z4 _ _ (wr (dm ?_))));refine pa rfl rfl (da (EF (?_)));exact⟨(i+1,r),FA,⟨J,by omega,by rw[Bv EA];exact ha,ho⟩,by simp only [];omega⟩
 refine Ff (HI (Hi rfl ?_));rw[Ep EA]at hs;exact⟨_,rfl,J,rfl,cur,ho,hs⟩
theorem PW (l:List Cell)(v:Value)(Bo f:Nat)(w:World)(ho:Vc.Own Cell.cs 4 79 Bo w v l)(hl:l.length<=10000000)(a b n:Nat)(h1:a+n<=b)(h2:b+n<=l.length) :
  Calls Tryz.prog 328 [v,I ↑a,I ↑b,I ↑n,Gy f].toArray w (Fh (λk=>v.ownBlock=some k) w (λu w'=>u=.tuple #[]/\∃l',Vc.Own Cell.cs 4 79 Bo w' v l'/\L9 a b n l l')):=by
 refine cw Tryz.func328 ?_;have z:=Vc.Mod.refl (λk=>v.ownBlock=some k) w;refine ws λ_ Z1=>wr (da (de Z1 (EN ?_)));refine Fk (G:=Nat×List Cell) (λ(i,cur)=>[(0,v),(1,I ↑a),(2,I ↑b),(3,I ↑n),(10,I ↑i)]) (λ(i,cur) w'=>Mod (λk=>v.ownBlock=some k) w w'/\Ma a b n i l cur/\Vc.Own Cell.cs 4 79 Bo w' v cur) (λ(i,cur)=>n-i) (0,l) ?_ ?_ ?_
 ·exact FA
 ·exact⟨z,Tf h1 h2,ho⟩
 intro X1 g1 w1 hc;obtain⟨i,cur⟩:=g1;clear z ho;obtain⟨z,Y,ho⟩:=hc;refine ws λ_ Z2=>ws λ_ Z3=>wr (dm (dm ?_));refine dp (Fa rfl rfl) (de Z3 (wi (λc1=>?_) λc1=>?_))
 ·have ha:=Y.len;obtain⟨x,hxi⟩:∃x,cur[a+i]?=some x:=Fq;obtain⟨y,hyi⟩:∃x,cur[b+i]?=some x:=Fq;have J:=JP ho (λe=>by rw[e]at hxi;simp at hxi);refine EG (Z2 _ _ (ws λ_ Z4=>EN (F4 (R:=EB) EB.refl (λ_ _ _=>EB.trans) E9 [13,19] [(0,.p,false),(1,.p,false),(2,.p,false),(3,.p,false),(4,.p,false),(5,.p,false),(6,.p,false),(7,.p,false),(8,.p,false),(9,.p,false),(10,.p,false),(11,.p,false),(12,.p,false),(13,.l,false),(14,.p,false),(15,.p,false),(16,.p,false),(17,.p,false),(18,.p,false),(19,.l,false),(20,.p,false),(21,.x,true),(22,.p,false),(23,.x,true)] rfl E9 E9 (λw2 O=>?_))));have x2:=EJ O;clear O;have ho:=ho.ext x2;have z:=z.ext x2
  iterate 3 refine dm ?_
  refine EW (v:=I ↑(a+i)) rfl (Gx rfl rfl (by unfold ET;omega)) rfl (dm (dm (dm ?_)));refine EW (v:=I ↑(b+i)) rfl (Gx rfl rfl (by unfold ET;omega)) rfl (dm (dm (dm ?_)));refine EW (v:=I ↑(b+i)) rfl (Gx rfl rfl (by unfold ET;omega)) rfl (di 79 4 (ho.arr EE).sl rfl ((ho.arr EE).lt hyi) (FK rfl (λw' Z=>Fb E9 rfl rfl (((ho.arr EE).ext Z).row hyi)) (dm (dm (dm ?_)))));refine EW (v:=I ↑(a+i)) rfl (Gx rfl rfl (by unfold ET;omega)) rfl (di 79 4 (ho.arr EE).sl rfl ((ho.arr EE).lt hxi) (FK rfl (λw' Z=>Fb E9 rfl rfl (((ho.arr EE).ext Z).row hxi)) (EW (v:=ED (base v).1 ((a+i)*4+0)) rfl (HM (i:=(a+i)) (e:=79) (k:=4) E9 ho.sl rfl rfl (by omega)) (by rw[J];show ED _ (0+_)=_;rw[A9];rfl) ?_)));refine H5 (enc:=Cell.cs) (sz:=4) (l:=cur) (i:=(a+i)) (j:=0) (x:=y) (vs:=y.cs) EE rfl ho rfl rfl rfl E9 (by omega) rfl (Aa 4) (by intro v hv;simp at hv;rcases hv with rfl|rfl|rfl|rfl<;>rfl) (.inl rfl) (λw3 x3 xs3 r=>?_);have z:=z.own x3 (λi hi hb=>hi);have ho:=r;refine EW (v:=ED (base v).1 ((b+i)*4+0)) rfl (HM (i:=(b+i)) (e:=79) (k:=4) E9 ho.sl rfl rfl (by rw[AG];omega)) (by rw[J];show ED _ (0+_)=_;rw[A9];rfl) ?_;refine H5 (enc:=Cell.cs) (sz:=4) (l:=(cur.set (a+i) y)) (i:=(b+i)) (j:=0) (x:=x) (vs:=x.cs) EE rfl ho rfl rfl rfl E9 (by rw[AG];omega) rfl (Aa 4) (by intro v hv;simp at hv;rcases hv with rfl|rfl|rfl|rfl<;>rfl) (.inl rfl) (λw4 x4 xs4 r=>?_);have z:=z.own x4 (λi hi hb=>hi);have ho:=r;refine de Z4 (wr (dm ?_));refine pa rfl rfl (da (EF (?_)));exact⟨(i+1,_),FA,⟨z,Xh Y EA hxi hyi,ho⟩,by simp only [];omega⟩
 refine Ff (HI (Hi rfl ?_));have ha:=Y.len;rw[show i=n by omega]at Y;exact⟨_,rfl,z,rfl,cur,ho,Vl Y⟩
theorem Yag (l:List Cell)(v:Value)(Bo f:Nat)(w:World)(ho:Vc.Own Cell.cs 4 79 Bo w v l)(hl:l.length<=10000000)(a m b:Nat)(h1:a<m)(h2:m<b)(h3:b<=l.length) :
  Calls Tryz.prog 306 [v,I ↑a,I ↑m,I ↑b,Gy f].toArray w (Fh (λk=>v.ownBlock=some k) w (λu w'=>u=.tuple #[]/\∃l',Vc.Own Cell.cs 4 79 Bo w' v l'/\l'=Iv l a m b)):=by
 refine cw Tryz.func306 ?_;have z:=Vc.Mod.refl (λk=>v.ownBlock=some k) w;refine ws λ_ Z1=>wr (dm (dm ?_));refine EW (v:=I ↑(m-a)) rfl (Ga rfl rfl (by unfold ET;omega)) (by show I _=I _;congr 1;omega) (da (de Z1 (ws λ_ Z2=>wr (dm (dm ?_)))));refine EW (v:=I ↑(b-m)) rfl (Ga rfl rfl (by unfold ET;omega)) (by show I _=I _;congr 1;omega) (da (de Z2 (ws λ_ Z3=>EN ?_)));refine Fk (G:=Nat×Nat×List Cell) (λ(i,j,cur)=>[(0,v),(2,I ↑m),(4,Gy f),(10,I ↑i),(11,I ↑j)]) (λ(i,j,cur) w'=>Mod (λk=>v.ownBlock=some k) w w'/\0<i/\0<j/\cur.length=l.length/\Ix m i j (Iv l a m b) cur/\Vc.Own Cell.cs 4 79 Bo w' v cur) (λ(i,j,cur)=>i+j) (m-a,b-m,l) ?_ ?_ ?_
 ·exact FA
 ·exact⟨z,by omega,by omega,rfl,PF EA EA h3,ho⟩
 intro X1 g1 w1 hf;obtain⟨i,j,cur⟩:=g1;clear z ho;obtain⟨z,hc,hj,Z,Y,ho⟩:=hf;refine ws λ_ Z4=>ws λ_ Z5=>wr (dm (dm ?_));refine dp (F8 rfl rfl) (de Z5 (wi (λc1=>?_) λc1=>?_))
 ·have hp:=Y.len;refine EG (Z4 _ _ (EN (ws λ_ Z6=>wr (dm (dm ?_)))));refine dp (FY rfl rfl) (de Z6 (wi (λc2=>?_) λc2=>?_))
  ·refine ws λ_ Z7=>wr (dm (dm (dm ?_)));refine EW (v:=I ↑(m-i)) rfl (Ga rfl rfl (by unfold ET;omega)) (by show I _=I _;congr 1;omega) (dm (dm (dm ?_)));refine cD (PW cur v Bo f _ ho EA (m-i) m j EA EA) (.inl rfl) λu2 w2 x2 hg=>?_;have hsz2:=z.size;have z:=z.own x2 (λi hi ha=>hi);obtain⟨rfl,r,ho,O⟩:=hg;refine de Z7 (wr (dm (dm ?_)));refine EW (v:=I ↑(i-j)) rfl (Ga rfl rfl (by unfold ET;omega)) (by show I _=I _;congr 1;omega) (da (EF (?_)));have J:=Wy Y EA O;exact⟨(i-j,j,r),FA,⟨z,by omega,hj,(J.len.1.trans (Y.len.1.symm.trans Z)),J,ho⟩,by simp only [];omega⟩
  refine ws λ_ Z8=>wr (dm (dm (dm ?_)));refine EW (v:=I ↑(m-i)) rfl (Ga rfl rfl (by unfold ET;omega)) (by show I _=I _;congr 1;omega) (dm (dm ?_));refine EW (v:=I ↑(m+j)) rfl (Gx rfl rfl (by unfold ET;omega)) rfl (dm ?_);refine EW (v:=I ↑(m+j-i)) rfl (Ga rfl rfl (by unfold ET;omega)) (by show I _=I _;congr 1;omega) (dm (dm ?_));refine cD (PW cur v Bo f _ ho EA (m-i) (m+j-i) i EA EA) (.inl rfl) λu3 w3 x3 hq=>?_;have hsz3:=z.size;have z:=z.own x3 (λi hi ha=>hi);obtain⟨rfl,r,ho,O⟩:=hq;refine de Z8 (wr (dm (dm ?_)));refine EW (v:=I ↑(j-i)) rfl (Ga rfl rfl (by unfold ET;omega)) (by show I _=I _;congr 1;omega) (da (EF (?_)));have J:=Tz Y EA O;exact⟨(i,j-i,r),FA,⟨z,hc,by omega,(J.len.1.trans (Y.len.1.symm.trans Z)),J,ho⟩,by simp only [];omega⟩
 have hp:=Y.len;have hb:i=j:=by omega
 subst hb;refine Ff (Z3 _ _ (wr (dm (dm (dm ?_)))));refine EW (v:=I ↑(m-i)) rfl (Ga rfl rfl (by unfold ET;omega)) (by show I _=I _;congr 1;omega) (dm (dm (dm ?_)));refine cD (PW cur v Bo f _ ho EA (m-i) m i EA EA) (.inl rfl) λu4 w4 x4 hh=>?_;have hsz4:=z.size;have z:=z.own x4 (λi hi ha=>hi);obtain⟨rfl,r,ho,O⟩:=hh;refine EF ((HI (Hi rfl ?_)));exact⟨_,rfl,z,rfl,r,ho,XE Y O⟩
def UP (v:Value)(Bo f:Nat)(c:Cell->Cell->Int)(N:Nat):Prop:=∀(l:List Cell) (w:World) (a m b:Nat),b-a<N->Vc.Own Cell.cs 4 79 Bo w v l->l.length<=10000000->a<m->m<b->b<=l.length->SM (F3 c) a m b l->Calls Tryz.prog 253 [v,I ↑a,I ↑m,I ↑b,Gy f].toArray w (Fh (λk=>v.ownBlock=some k) w (λu w'=>u=.tuple #[]/\∃l',Vc.Own Cell.cs 4 79 Bo w' v l'/\G0 (F3 c) a b l l'))
theorem Yah (l:List Cell)(v:Value)(Bo f:Nat)(c:Cell->Cell->Int)(w:World)(ho:Vc.Own Cell.cs 4 79 Bo w v l)(hl:l.length<=10000000)(hcb:GL Tryz.prog f=true)(hc:∀w2 x y,Calls Tryz.prog f [Cell.v x,Cell.v y].toArray w2 (Pure w2 (I (c x y))))(O:Ord (F3 c))(a m b:Nat)(ham:a<m)(hmb:m<b)(hb:b<=l.length)(hsm:SM (F3 c) a m b l)(ih:UP v Bo f c (b-a)) :
  Calls Tryz.prog 253 [v,I ↑a,I ↑m,I ↑b,Gy f].toArray w (Fh (λk=>v.ownBlock=some k) w (λu w'=>u=.tuple #[]/\∃l',Vc.Own Cell.cs 4 79 Bo w' v l'/\G0 (F3 c) a b l l')):=by
 refine cw Tryz.func253 ?_;have z:=Vc.Mod.refl (λk=>v.ownBlock=some k) w;refine ws λ_ Z1=>ws λ_ Z2=>wr (dm (dm ?_));refine ps rfl rfl (dp (G1 rfl rfl) (de Z2 (wi (λc1=>?_) λc1=>?_)))
 ·have xa:m=a+1:=by omega
  refine ws λ_ Z3=>wr (dm (da (de Z3 (ws λ_ Z4=>wr (dm (da (de Z4 (ws λ_ Z5=>EN ?_))))))));refine Fk (G:=Nat×Nat) (λ(i,j)=>[(0,v),(1,I ↑a),(2,I ↑m),(3,I ↑b),(4,Gy f),(10,I ↑i),(11,I ↑j)]) (λ(i,j) w'=>Mod (λk=>v.ownBlock=some k) w w'/\m<=i/\i<=j/\j<=b/\(j=b\/∃x y,l[a]?=some x/\l[j]?=some y/\F3 c y x=false)/\(i=m\/∃x y,l[a]?=some x/\l[i-1]?=some y/\F3 c y x=true)/\Vc.Own Cell.cs 4 79 Bo w' v l) (λ(i,j)=>j-i) (m,b) ?_ ?_ ?_
  ·exact FQ
  ·exact⟨z,Aa _,by omega,Aa _,.inl rfl,.inl rfl,ho⟩
  intro X1 g1 w1 yl;obtain⟨i,j⟩:=g1;clear z ho;obtain⟨z,hi,xy,hw,hq,hg,ho⟩:=yl;refine ws λ_ Z6=>ws λ_ Z7=>wr (dm (dm ?_));refine dp (Fa rfl rfl) (de Z7 (wi (λc2=>?_) λc2=>?_))
  ·obtain⟨x,hxa⟩:∃x,l[a]?=some x:=Fq;obtain⟨y,hyh⟩:∃x,l[(i+j) / 2]?=some x:=Fq;refine EG (Z6 _ _ (EN (ws λ_ Z8=>wr (dm (dm ?_)))));refine EW (v:=I ↑(i+j)) rfl (Gx rfl rfl (by unfold ET;omega)) rfl (EW (v:=.int .u64 ↑(i+j)) rfl (K5 (n:=i+j) (k:=.i64) EA rfl E9 E9) rfl (dp (LA (u:=i+j) rfl rfl) (dp (La (n:=(i+j) / 2) EA rfl E9 E9) (da (de Z8 (ws λ_ Z9=>?_))))));refine F4 (R:=EB) EB.refl (λ_ _ _=>EB.trans) E9 [4,8] [(0,.p,false),(1,.p,false),(2,.p,false),(3,.p,false),(4,.l,false),(5,.p,false),(6,.p,false),(7,.p,false),(8,.l,false),(9,.x,true),(10,.p,false)] rfl E9 E9 (λw2 xo=>?_);have x2:=EJ xo;clear xo;have ho:=ho.ext x2;have z:=z.ext x2
   iterate 3 refine dm ?_
   refine di 79 4 (ho.arr EE).sl rfl ((ho.arr EE).lt hyh) (FK rfl (λw' hR=>Fb E9 rfl rfl (((ho.arr EE).ext hR).row hyh)) (dm (dm ?_)));refine di 79 4 (ho.arr EE).sl rfl ((ho.arr EE).lt hxa) (FK rfl (λw' hR=>Fb E9 rfl rfl (((ho.arr EE).ext hR).row hxa)) (KP (vs:=[y.v,x.v]) rfl rfl hcb (hc _ y x) rfl RX.all (λw3 x3=>?_)));have ho:=ho.ext x3;have z:=z.ext x3;refine dp (Fa rfl rfl) (de Z9 (wi (λc3=>?_) λc3=>?_))
   ·have J:F3 c y x=true:=by simpa [F3]using c3
    refine wr (dm ?_);refine pa rfl rfl (da (EF (?_)));exact⟨((i+j) / 2+1,j),FQ,⟨z,by omega,by omega,hw,hq,.inr ⟨x,y,hxa,by rw[BR];exact hyh,J⟩,ho⟩,by simp only [];omega⟩
   have J:F3 c y x=false:=by simpa [F3]using c3
   refine wr (dm (da (EF (?_))));exact⟨(i,(i+j) / 2),FQ,⟨z,hi,by omega,by omega,.inr ⟨x,y,hxa,hyh,J⟩,hg,ho⟩,by simp only [];omega⟩
  refine Ff (Z5 _ _ (ws λ_ ya=>ws λ_ yf=>wr (dm (da (de yf (EN ?_))))));refine Fk (G:=Nat×List Cell) (λ(k,cur)=>[(0,v),(1,I ↑a),(2,I ↑m),(3,I ↑b),(4,Gy f),(10,I ↑i),(13,I ↑k)]) (λ(k,cur) w'=>Mod (λk=>v.ownBlock=some k) w w'/\LM a k l cur/\k<=i-1/\Vc.Own Cell.cs 4 79 Bo w' v cur) (λ(k,cur)=>i-k) (a,l) ?_ ?_ ?_
  ·exact FQ
  ·exact⟨z,VD EA,by omega,ho⟩
  intro X4 g4 w4 y4;obtain⟨k,cur⟩:=g4;clear z ho;obtain⟨z,hk,yd,ho⟩:=y4;refine ws λ_ xw=>ws λ_ yz=>wr (dm (dm ?_));refine ps rfl rfl (dp (Fa rfl rfl) (de yz (wi (λc4=>?_) λc4=>?_)))
  ·have h8:=hk.len;obtain⟨x,hxk⟩:∃x,cur[k]?=some x:=Fq;obtain⟨y,hyk⟩:∃x,cur[k+1]?=some x:=Fq;have hr:=JP ho (λe=>by rw[e]at hxk;simp at hxk);refine EG (xw _ _ (ws λ_ xx=>EN (F4 (R:=EB) EB.refl (λ_ _ _=>EB.trans) E9 [9,13] [(0,.p,false),(1,.p,false),(2,.p,false),(3,.p,false),(4,.p,false),(5,.p,false),(6,.p,false),(7,.p,false),(8,.p,false),(9,.l,false),(10,.p,false),(11,.p,false),(12,.p,false),(13,.l,false),(14,.p,false),(15,.x,true),(16,.p,false),(17,.x,true)] rfl E9 E9 (λw5 xt=>?_))));have x5:=EJ xt;clear xt;have ho:=ho.ext x5;have z:=z.ext x5
   iterate 4 refine dm ?_
   refine EW (v:=I ↑(k+1)) rfl (Gx rfl rfl (by unfold ET;omega)) rfl (dm (dm ?_));refine EW (v:=I ↑(k+1)) rfl (Gx rfl rfl (by unfold ET;omega)) rfl (di 79 4 (ho.arr EE).sl rfl ((ho.arr EE).lt hyk) (FK rfl (λw' hR=>Fb E9 rfl rfl (((ho.arr EE).ext hR).row hyk)) (dm (dm ?_))));refine di 79 4 (ho.arr EE).sl rfl ((ho.arr EE).lt hxk) (FK rfl (λw' hR=>Fb E9 rfl rfl (((ho.arr EE).ext hR).row hxk)) (EW (v:=ED (base v).1 (k*4+0)) rfl (HM (i:=k) (e:=79) (k:=4) E9 ho.sl rfl rfl (by omega)) (by rw[hr];show ED _ (0+_)=_;rw[A9];rfl) ?_));refine H5 (enc:=Cell.cs) (sz:=4) (l:=cur) (i:=k) (j:=0) (x:=y) (vs:=y.cs) EE rfl ho rfl rfl rfl E9 (by omega) rfl (Aa 4) (by intro v hv;simp at hv;rcases hv with rfl|rfl|rfl|rfl<;>rfl) (.inl rfl) (λw6 x6 xs6 hf=>?_);have z:=z.own x6 (λi hi J=>hi);have ho:=hf;refine EW (v:=ED (base v).1 ((k+1)*4+0)) rfl (HM (i:=(k+1)) (e:=79) (k:=4) E9 ho.sl rfl rfl (by rw[AG];omega)) (by rw[hr];show ED _ (0+_)=_;rw[A9];rfl) ?_;refine H5 (enc:=Cell.cs) (sz:=4) (l:=(cur.set k y)) (i:=(k+1)) (j:=0) (x:=x) (vs:=x.cs) EE rfl ho rfl rfl rfl E9 (by rw[AG];omega) rfl (Aa 4) (by intro v hv;simp at hv;rcases hv with rfl|rfl|rfl|rfl<;>rfl) (.inl rfl) (λw7 x7 xs7 hf=>?_);have z:=z.own x7 (λi hi J=>hi);have ho:=hf;refine de xx (wr (dm ?_));refine pa rfl rfl (da (EF (?_)));exact⟨(k+1,_),FQ,⟨z,Uz hk hxk hyk,by omega,ho⟩,by simp only [];omega⟩
  refine Ff (ya _ _ (EH (Hi rfl ?_)));have h8:=hk.len;have:k=i-1:=by omega
  subst this;have ht:i=j:=by omega
  subst ht;exact⟨_,rfl,z,rfl,cur,ho,VK O hsm xa hi hw hk hq hg⟩
 refine EG (Z1 _ _ (ws λ_ yh=>ws λ_ x4=>wr (dm (dm ?_))));refine ps rfl rfl (dp (G1 rfl rfl) (de x4 (wi (λc5=>?_) λc5=>?_)))
 ·have xa:b=m+1:=by omega
  refine ws λ_ yo=>wr (dm (da (de yo (ws λ_ zc=>wr (dm (da (de zc (ws λ_ yr=>EN ?_))))))));refine Fk (G:=Nat×Nat) (λ(i,j)=>[(0,v),(1,I ↑a),(2,I ↑m),(3,I ↑b),(4,Gy f),(14,I ↑i),(15,I ↑j)]) (λ(i,j) w'=>Mod (λk=>v.ownBlock=some k) w w'/\a<=i/\i<=j/\j<=m/\(j=m\/∃x y,l[m]?=some x/\l[j]?=some y/\F3 c x y=true)/\(i=a\/∃x y,l[m]?=some x/\l[i-1]?=some y/\F3 c x y=false)/\Vc.Own Cell.cs 4 79 Bo w' v l) (λ(i,j)=>j-i) (a,m) ?_ ?_ ?_
  ·exact FQ
  ·exact⟨z,Aa _,by omega,Aa _,.inl rfl,.inl rfl,ho⟩
  intro X8 g8 w8 ye;obtain⟨i,j⟩:=g8;clear z ho;obtain⟨z,hi,xy,hw,hq,hg,ho⟩:=ye;refine ws λ_ yn=>ws λ_ yx=>wr (dm (dm ?_));refine dp (Fa rfl rfl) (de yx (wi (λc6=>?_) λc6=>?_))
  ·obtain⟨x,hxm⟩:∃x,l[m]?=some x:=Fq;obtain⟨y,hyh⟩:∃x,l[(i+j) / 2]?=some x:=Fq;refine EG (yn _ _ (EN (ws λ_ yk=>wr (dm (dm ?_)))));refine EW (v:=I ↑(i+j)) rfl (Gx rfl rfl (by unfold ET;omega)) rfl (EW (v:=.int .u64 ↑(i+j)) rfl (K5 (n:=i+j) (k:=.i64) EA rfl E9 E9) rfl (dp (LA (u:=i+j) rfl rfl) (dp (La (n:=(i+j) / 2) EA rfl E9 E9) (da (de yk (ws λ_ zf=>?_))))));refine F4 (R:=EB) EB.refl (λ_ _ _=>EB.trans) E9 [4,8] [(0,.p,false),(1,.p,false),(2,.p,false),(3,.p,false),(4,.l,false),(5,.p,false),(6,.p,false),(7,.p,false),(8,.l,false),(9,.x,true),(10,.p,false),(11,.p,false)] rfl E9 E9 (λw9 xe=>?_);have x9:=EJ xe;clear xe;have ho:=ho.ext x9;have z:=z.ext x9
   iterate 3 refine dm ?_
   refine di 79 4 (ho.arr EE).sl rfl ((ho.arr EE).lt hxm) (FK rfl (λw' hR=>Fb E9 rfl rfl (((ho.arr EE).ext hR).row hxm)) (dm (dm ?_)));refine di 79 4 (ho.arr EE).sl rfl ((ho.arr EE).lt hyh) (FK rfl (λw' hR=>Fb E9 rfl rfl (((ho.arr EE).ext hR).row hyh)) (KP (vs:=[x.v,y.v]) rfl rfl hcb (hc _ x y) rfl RX.all (λw10 xg=>?_)));have ho:=ho.ext xg;have z:=z.ext xg;refine dp (Fa rfl rfl) (dn (de zf ?_));refine wc (λc7=>?_) λc7=>?_
   ·have J:F3 c x y=false:=by simpa [F3]using c7
    refine wr (dm ?_);refine pa rfl rfl (da (EF (?_)));exact⟨((i+j) / 2+1,j),FQ,⟨z,by omega,by omega,hw,hq,.inr ⟨x,y,hxm,by rw[BR];exact hyh,J⟩,ho⟩,by simp only [];omega⟩
   have J:F3 c x y=true:=by simpa [F3]using c7
   refine wr (dm (da (EF (?_))));exact⟨(i,(i+j) / 2),FQ,⟨z,hi,by omega,by omega,.inr ⟨x,y,hxm,hyh,J⟩,hg,ho⟩,by simp only [];omega⟩
  refine Ff (yr _ _ (ws λ_ zd=>ws λ_ zi=>wr (dm (da (de zi (EN ?_))))));refine Fk (G:=Nat×List Cell) (λ(k,cur)=>[(0,v),(1,I ↑a),(2,I ↑m),(3,I ↑b),(4,Gy f),(14,I ↑i),(17,I ↑k)]) (λ(k,cur) w'=>Mod (λk=>v.ownBlock=some k) w w'/\LX m k l cur/\i<=k/\Vc.Own Cell.cs 4 79 Bo w' v cur) (λ(k,cur)=>k) (m,l) ?_ ?_ ?_
  ·exact FQ
  ·exact⟨z,Te EA,by omega,ho⟩
  intro X11 ym w11 xh;obtain⟨k,cur⟩:=ym;clear z ho;obtain⟨z,hk,yd,ho⟩:=xh;refine ws λ_ yb=>ws λ_ x8=>wr (dm (dm ?_));refine dp (FY rfl rfl) (de x8 (wi (λc8=>?_) λc8=>?_))
  ·have h8:=hk.len;obtain⟨x,hxk⟩:∃x,cur[k]?=some x:=Fq;obtain⟨y,hyk⟩:∃x,cur[k-1]?=some x:=Fq;have hr:=JP ho (λe=>by rw[e]at hxk;simp at hxk);refine EG (yb _ _ (ws λ_ zn=>EN (F4 (R:=EB) EB.refl (λ_ _ _=>EB.trans) E9 [9,13] [(0,.p,false),(1,.p,false),(2,.p,false),(3,.p,false),(4,.p,false),(5,.p,false),(6,.p,false),(7,.p,false),(8,.p,false),(9,.l,false),(10,.p,false),(11,.p,false),(12,.p,false),(13,.l,false),(14,.p,false),(15,.x,true),(16,.p,false),(17,.x,true)] rfl E9 E9 (λw12 h6=>?_))));have xi:=EJ h6;clear h6;have ho:=ho.ext xi;have z:=z.ext xi
   iterate 4 refine dm ?_
   refine EW (v:=I ↑(k-1)) rfl (Ga rfl rfl (by unfold ET;omega)) (by show I _=I _;congr 1;omega) (dm (dm ?_));refine EW (v:=I ↑(k-1)) rfl (Ga rfl rfl (by unfold ET;omega)) (by show I _=I _;congr 1;omega) (di 79 4 (ho.arr EE).sl rfl ((ho.arr EE).lt hyk) (FK rfl (λw' hR=>Fb E9 rfl rfl (((ho.arr EE).ext hR).row hyk)) (dm (dm ?_))));refine di 79 4 (ho.arr EE).sl rfl ((ho.arr EE).lt hxk) (FK rfl (λw' hR=>Fb E9 rfl rfl (((ho.arr EE).ext hR).row hxk)) (EW (v:=ED (base v).1 (k*4+0)) rfl (HM (i:=k) (e:=79) (k:=4) E9 ho.sl rfl rfl (by omega)) (by rw[hr];show ED _ (0+_)=_;rw[A9];rfl) ?_));refine H5 (enc:=Cell.cs) (sz:=4) (l:=cur) (i:=k) (j:=0) (x:=y) (vs:=y.cs) EE rfl ho rfl rfl rfl E9 (by omega) rfl (Aa 4) (by intro v hv;simp at hv;rcases hv with rfl|rfl|rfl|rfl<;>rfl) (.inl rfl) (λw13 x0 xs13 hf=>?_);have z:=z.own x0 (λi hi J=>hi);have ho:=hf;refine EW (v:=ED (base v).1 ((k-1)*4+0)) rfl (HM (i:=(k-1)) (e:=79) (k:=4) E9 ho.sl rfl rfl (by rw[AG];omega)) (by rw[hr];show ED _ (0+_)=_;rw[A9];rfl) ?_;refine H5 (enc:=Cell.cs) (sz:=4) (l:=(cur.set k y)) (i:=(k-1)) (j:=0) (x:=x) (vs:=x.cs) EE rfl ho rfl rfl rfl E9 (by rw[AG];omega) rfl (Aa 4) (by intro v hv;simp at hv;rcases hv with rfl|rfl|rfl|rfl<;>rfl) (.inl rfl) (λw14 y8 xs14 hf=>?_);have z:=z.own y8 (λi hi J=>hi);have ho:=hf;refine de zn (wr (dm ?_));refine EW (v:=I ↑(k-1)) rfl (Ga rfl rfl (by unfold ET;omega)) (by show I _=I _;congr 1;omega) (da (EF (?_)));exact⟨(k-1,_),FQ,⟨z,Ui hk EA hxk hyk,by omega,ho⟩,by simp only [];omega⟩
  refine Ff (zd _ _ (EH (Hi rfl ?_)));have h8:=hk.len;have:k=i:=by omega
  subst this;have ht:k=j:=by omega
  subst ht;exact⟨_,rfl,z,rfl,cur,ho,TM O hsm xa hi hw hk hq hg⟩
 have ham2:a+2<=m:=by omega
 have hmb2:m+2<=b:=by omega
 refine EG (yh _ _ (ws λ_ yj=>wr (dm (dm ?_))));refine EW (v:=I ↑(a+b)) rfl (Gx rfl rfl (by unfold ET;omega)) rfl (EW (v:=.int .u64 ↑(a+b)) rfl (K5 (n:=a+b) (k:=.i64) EA rfl E9 E9) rfl (dp (LA (u:=a+b) rfl rfl) (dp (La (n:=(a+b) / 2) EA rfl E9 E9) (da (de yj (ws λ_ xz=>wr (dm (dm ?_))))))));refine EW (v:=I ↑((a+b) / 2+m)) rfl (Gx rfl rfl (by unfold ET;omega)) rfl (da (de xz (ws λ_ y7=>wr (da (da (de y7 ?_))))));refine Hz (G:=Nat×Nat) (λ(s0,r0)=>[(0,v),(1,I ↑a),(2,I ↑m),(3,I ↑b),(4,Gy f),(18,I ↑((a+b) / 2)),(19,I ↑((a+b) / 2+m)),(20,I ↑s0),(21,I ↑r0)]) (λ(s0,r0) w'=>Mod (λk=>v.ownBlock=some k) w w'/\a<=s0/\s0<=r0/\r0<=m/\(s0=a\/(a+b) / 2+m-s0=b)/\(r0=m\/(a+b) / 2+m-r0=m)/\(a+b) / 2+m-s0<=b/\m<=(a+b) / 2+m-r0/\Vc.Own Cell.cs 4 79 Bo w' v l) ?_ ?_
 ·refine ws λ_ yv=>wr (dm (dm ?_));refine dp (FY rfl rfl) (de yv (wi (λc9=>?_) λc9=>?_))
  ·have zk:(a+b) / 2<m:=by omega
   refine ws λ_ za=>wr (dm (dm ?_));refine EW (v:=I ↑((a+b) / 2+m-b)) rfl (Ga rfl rfl (by unfold ET;omega)) (by show I _=I _;congr 1;omega) (da (de za (wr (dm (da (EF (?_)))))));exact⟨((a+b) / 2+m-b,(a+b) / 2),Je,z,by omega,by omega,by omega,.inr EA,.inr EA,by omega,by omega,ho⟩
  have zk:m<=(a+b) / 2:=by omega
  refine ws λ_ yc=>wr (dm (da (de yc (wr (dm (da (EF (?_))))))));exact⟨(a,m),Je,z,by omega,by omega,by omega,.inl rfl,.inl rfl,by omega,by omega,ho⟩
 intro X15 yq w15 xq;obtain⟨s0,r0⟩:=yq;clear z ho;obtain⟨z,q0,q1,q2,q3,q4,q5,q6,ho⟩:=xq;refine ws λ_ yw=>wr (dm ?_);refine EW (v:=I ↑((a+b) / 2+m-1)) rfl (Ga rfl rfl (by unfold ET;omega)) (by show I _=I _;congr 1;omega) (da (de yw (ws λ_ zb=>EN ?_)));refine Fk (G:=Nat×Nat) (λ(s,r)=>[(0,v),(1,I ↑a),(2,I ↑m),(3,I ↑b),(4,Gy f),(18,I ↑((a+b) / 2)),(19,I ↑((a+b) / 2+m)),(20,I ↑s),(21,I ↑r),(22,I ↑((a+b) / 2+m-1))]) (λ(s,r) w'=>Mod (λk=>v.ownBlock=some k) w w'/\s0<=s/\s<=r/\r<=r0/\(s=s0\/∃x y,l[s-1]?=some x/\l[(a+b) / 2+m-s]?=some y/\F3 c y x=false)/\(r=r0\/∃x y,l[r]?=some x/\l[(a+b) / 2+m-1-r]?=some y/\F3 c y x=true)/\Vc.Own Cell.cs 4 79 Bo w' v l) (λ(s,r)=>r-s) (s0,r0) ?_ ?_ ?_
 ·exact HS
 ·exact⟨z,Aa _,q1,Aa _,.inl rfl,.inl rfl,ho⟩
 intro X16 yp w16 xj;obtain⟨s,r⟩:=yp;clear z ho;obtain⟨z,ze,hsr1,zj,hg,xd,ho⟩:=xj;refine ws λ_ y5=>ws λ_ zh=>wr (dm (dm ?_));refine dp (Fa rfl rfl) (de zh (wi (λxu=>?_) λxu=>?_))
 ·obtain⟨y,hyh⟩:∃x,l[(a+b) / 2+m-1-(s+r) / 2]?=some x:=Fq;obtain⟨x,hxc⟩:∃x,l[(s+r) / 2]?=some x:=Fq;refine EG (y5 _ _ (EN (ws λ_ y2=>wr (dm (dm ?_)))));refine EW (v:=I ↑(s+r)) rfl (Gx rfl rfl (by unfold ET;omega)) rfl (EW (v:=.int .u64 ↑(s+r)) rfl (K5 (n:=s+r) (k:=.i64) EA rfl E9 E9) rfl (dp (LA (u:=s+r) rfl rfl) (dp (La (n:=(s+r) / 2) EA rfl E9 E9) (da (de y2 (ws λ_ zl=>?_))))));refine F4 (R:=EB) EB.refl (λ_ _ _=>EB.trans) E9 [6,10] [(0,.p,false),(1,.p,false),(2,.p,false),(3,.p,false),(4,.p,false),(5,.p,false),(6,.l,false),(7,.p,false),(8,.p,false),(9,.p,false),(10,.l,false),(11,.x,true),(12,.p,false),(13,.p,false)] rfl E9 E9 (λw17 h5=>?_);have xf:=EJ h5;clear h5;have ho:=ho.ext xf;have z:=z.ext xf
  iterate 4 refine dm ?_
  refine EW (v:=I ↑((a+b) / 2+m-1-(s+r) / 2)) rfl (Ga rfl rfl (by unfold ET;omega)) (by show I _=I _;congr 1;omega) (di 79 4 (ho.arr EE).sl rfl ((ho.arr EE).lt hyh) (FK rfl (λw' hR=>Fb E9 rfl rfl (((ho.arr EE).ext hR).row hyh)) (dm (dm ?_))));refine di 79 4 (ho.arr EE).sl rfl ((ho.arr EE).lt hxc) (FK rfl (λw' hR=>Fb E9 rfl rfl (((ho.arr EE).ext hR).row hxc)) (KP (vs:=[y.v,x.v]) rfl rfl hcb (hc _ y x) rfl RX.all (λw18 xl=>?_)));have ho:=ho.ext xl;have z:=z.ext xl;refine dp (Fa rfl rfl) (dn (de zl ?_));refine wc (λh9=>?_) λh9=>?_
  ·have J:F3 c y x=false:=by simpa [F3]using h9
   refine wr (dm ?_);refine pa rfl rfl (da (EF (?_)));exact⟨((s+r) / 2+1,r),HS,⟨z,by omega,by omega,zj,.inr ⟨x,y,by rw[BR];exact hxc,by rw[<-hyh];congr 1;omega,J⟩,xd,ho⟩,by simp only [];omega⟩
  have J:F3 c y x=true:=by simpa [F3]using h9
  refine wr (dm (da (EF (?_))));exact⟨(s,(s+r) / 2),HS,⟨z,ze,by omega,by omega,hg,.inr ⟨x,y,hxc,hyh,J⟩,ho⟩,by simp only [];omega⟩
 have x1:s=r:=by omega
 subst x1;have h7:∀l2,((s<m/\m<(a+b) / 2+m-s->l2=Iv l s m ((a+b) / 2+m-s))/\(¬ (s<m/\m<(a+b) / 2+m-s)->l2=l))->Ky (F3 c) a m b s ((a+b) / 2+m-s) l l2:=λl2 h2=>Vz O hsm EA EA EA EA (by
  rcases hg with e|e
  ·rcases q3 with e3|e3
   ·exact .inl EA
   ·exact .inr (.inl (by rw[e];exact e3))
  ·exact .inr (.inr e)) (by
  rcases xd with e|e
  ·rcases q4 with e4|e4
   ·exact .inl EA
   ·exact .inr (.inl (by rw[e];exact e4))
  ·obtain⟨x,y,e1,e2,e3⟩:=e;exact .inr (.inr ⟨x,y,e1,by rw[<-e2];congr 1;omega,e3⟩)) h2
 have Z:s+((a+b) / 2+m-s)=(a+b) / 2+m:=by omega
 refine Ff (zb _ _ (ws λ_ zm=>wr (dm (dm ?_))));refine EW (v:=I ↑((a+b) / 2+m-s)) rfl (Ga rfl rfl (by unfold ET;omega)) (by show I _=I _;congr 1;omega) (da (de zm ?_));refine Hz (G:=List Cell) (λl2=>[(0,v),(1,I ↑a),(3,I ↑b),(4,Gy f),(18,I ↑((a+b) / 2)),(20,I ↑s),(24,I ↑((a+b) / 2+m-s))]) (λl2 w'=>Mod (λk=>v.ownBlock=some k) w w'/\Ky (F3 c) a m b s ((a+b) / 2+m-s) l l2/\l2.length=l.length/\Vc.Own Cell.cs 4 79 Bo w' v l2) ?_ ?_
 ·refine ws λ_ xm=>wr (dm (dm ?_));refine dp (Fa rfl rfl) (dm ?_);refine Fz 181 rfl (λyu=>?_) (λyu=>?_)
  ·iterate 2 refine dm ?_
   refine dp (Fa rfl rfl) (EO (de xm ?_));refine wi (λy9=>?_) λy9=>?_
   ·refine wr (dm (dm (dm (dm (dm ?_)))));refine cD (Yag l v Bo f _ ho hl s m ((a+b) / 2+m-s) EA EA EA) (.inl rfl) λu19 w19 y6 xc=>?_;have hsz19:=z.size;have z:=z.own y6 (λi hi J=>hi);obtain⟨rfl,hh,ho,xr⟩:=xc;have Y:=h7 hh ⟨λ_=>xr,λh=>absurd ⟨by omega,by omega⟩ h⟩;have hj:hh.length=l.length:=by rw[xr];have:=(PF (l:=l) (a:=s) (m:=m) (b:=(a+b) / 2+m-s) EA EA EA).len.1;omega
    refine EF (?_);exact⟨_,FQ,z,Y,hj,ho⟩
   have Y:=h7 l ⟨λh=>absurd h.2 EA,λ_=>rfl⟩;have hj:l.length=l.length:=rfl;refine EG ?_;exact⟨_,FQ,z,Y,hj,ho⟩
  have Y:=h7 l ⟨λh=>absurd h.1 EA,λ_=>rfl⟩;have hj:l.length=l.length:=rfl;refine dk (dk (dk (EO (de xm ?_))));refine GB rfl (EG ?_);exact⟨_,FQ,z,Y,hj,ho⟩
 intro X20 xv w20 hz;revert hz;revert xv;intro l2 hz;clear z ho;obtain⟨z,Y,hj,ho⟩:=hz;refine Hz (G:=List Cell) (λl3=>[(0,v),(3,I ↑b),(4,Gy f),(18,I ↑((a+b) / 2)),(24,I ↑((a+b) / 2+m-s))]) (λl3 w'=>Mod (λk=>v.ownBlock=some k) w w'/\G0 (F3 c) a ((a+b) / 2) l2 l3/\Vc.Own Cell.cs 4 79 Bo w' v l3) ?_ ?_
 ·refine ws λ_ xb=>wr (dm (dm ?_));refine dp (Fa rfl rfl) (dm ?_);refine Fz 195 rfl (λyy=>?_) (λyy=>?_)
  ·iterate 2 refine dm ?_
   refine dp (Fa rfl rfl) (EO (de xb ?_));refine wi (λyi=>?_) λyi=>?_
   ·refine wr (dm (dm (dm (dm (dm ?_)))));refine cD (ih l2 _ a s ((a+b) / 2) EA ho EA EA EA EA (TL Y Z)) (.inl rfl) λu21 w21 yt xk=>?_;have hsz21:=z.size;have z:=z.own yt (λi hi J=>hi);obtain⟨rfl,hh,ho,ha⟩:=xk;refine EF (?_);exact⟨_,FA,z,ha,ho⟩
   have ha:=OK Y Z (λh=>absurd h.2 EA);refine EG ?_;exact⟨_,FA,z,ha,ho⟩
  have ha:=OK Y Z (λh=>absurd h.1 EA);refine dk (dk (dk (EO (de xb ?_))));refine GB rfl (EG ?_);exact⟨_,FA,z,ha,ho⟩
 intro X22 yg w22 hp;revert hp;revert yg;intro l3 hp;clear z ho;obtain⟨z,ha,ho⟩:=hp;refine ws λ_ xn=>wr (dm (dm ?_));refine dp (Fa rfl rfl) (dm ?_);refine Fz 209 rfl (λy3=>?_) (λy3=>?_)
 ·iterate 2 refine dm ?_
  refine dp (Fa rfl rfl) (EO (de xn ?_));refine wi (λzg=>?_) λzg=>?_
  ·refine wr (dm (dm (dm (dm (dm ?_)))));refine cD (ih l3 _ ((a+b) / 2) ((a+b) / 2+m-s) b EA ho (by have:=ha.len.1;omega) EA EA (by have:=ha.len.1;omega) (V7 Y Z ha)) (.inl rfl) λu23 w23 y1 xp=>?_;have hsz23:=z.size;have z:=z.own y1 (λi hi J=>hi);obtain⟨rfl,hh,ho,y0⟩:=xp;have hy:=Nu Y Z ha y0;refine EF ((HI (Hi rfl ?_)));exact⟨_,rfl,z,rfl,_,ho,hy⟩
  have hy:=Nu Y Z ha (OE Y Z ha (λh=>absurd h.2 EA));refine EG (HI (Hi rfl ?_));exact⟨_,rfl,z,rfl,_,ho,hy⟩
 have hy:=Nu Y Z ha (OE Y Z ha (λh=>absurd h.1 EA));refine dk (dk (dk (EO (de xn ?_))));refine GB rfl (EG (HI (Hi rfl ?_)));exact⟨_,rfl,z,rfl,_,ho,hy⟩
theorem Qq (v:Value)(Bo f:Nat)(c:Cell->Cell->Int)(hcb:GL Tryz.prog f=true)(hc:∀r x y,Calls Tryz.prog f [Cell.v x,Cell.v y].toArray r (Pure r (I (c x y))))(O:Ord (F3 c)):∀N,UP v Bo f c N
 | 0=>λ_ _ _ _ _ h=>absurd h (B3 _)
 | N+1=>λl w a m b hN ho hl Y z hb J=>Yah l v Bo f c w ho hl hcb hc O a m b Y z hb J (λl2 r a2 m2 Z hN2=>Qq v Bo f c hcb hc O N l2 r a2 m2 Z EA)
theorem Yai (l:List Cell)(v:Value)(Bo f:Nat)(c:Cell->Cell->Int)(w:World)(ho:Vc.Own Cell.cs 4 79 Bo w v l)(hl:l.length<=10000000)(hcb:GL Tryz.prog f=true)(hc:∀w2 x y,Calls Tryz.prog f [Cell.v x,Cell.v y].toArray w2 (Pure w2 (I (c x y))))(O:Ord (F3 c)) :
  Calls Tryz.prog 180 [v,I ↑l.length,Gy f].toArray w (Fh (λk=>v.ownBlock=some k) w (λu w'=>u=.tuple #[]/\∃l',Vc.Own Cell.cs 4 79 Bo w' v l'/\l'.Perm l/\Up (F3 c) l')):=by
 refine cw Tryz.func180 ?_;have r:=Vc.Mod.refl (λk=>v.ownBlock=some k) w;refine ws λ_ Z1=>wr (da (de Z1 (ws λ_ Z2=>wr (dm (da (da (de Z2 (ws λ_ Z3=>EN ?_))))))));refine Fk (G:=Nat×List Cell) (λ(j,cur)=>[(0,v),(1,I ↑l.length),(2,Gy f),(6,I 20),(7,I ↑(j*20)),(8,I ↑(j*20+20))]) (λ(j,cur) w'=>Mod (λk=>v.ownBlock=some k) w w'/\j*20<=l.length/\I2 (F3 c) 20 j cur/\cur.Perm l/\Vc.Own Cell.cs 4 79 Bo w' v cur) (λ(j,cur)=>l.length-j*20) (0,l) ?_ ?_ ?_
 ·exact FSq
 ·exact⟨r,Ad _,λk hk=>absurd hk (B3 k),.refl _,ho⟩
 intro X1 g1 w1 xd;obtain⟨j,cur⟩:=g1;clear r ho;obtain⟨r,hj,hI,hp,ho⟩:=xd;refine ws λ_ Z4=>ws λ_ Z5=>wr (dm (dm ?_));refine dp (IM rfl rfl) (de Z5 (wi (λc1=>?_) λc1=>?_))
 ·have hf:=hp.length_eq;refine EG (Z4 _ _ (EN (ws λ_ Z6=>wr (dm (dm (dm (dm ?_)))))));refine cD (Ws cur v Bo f c _ ho EA hcb hc O (j*20) (j*20+20) EA EA) (.inl rfl) λu2 w2 x2 xf=>?_;have hsz2:=r.size;have r:=r.own x2 (λi hi hh=>hi);obtain⟨rfl,Z,ho,J⟩:=xf;refine de Z6 (ws λ_ Z7=>wr (EW (v:=I ↑((j+1)*20)) rfl (KA rfl) (by show I _=I _;congr 1;omega) (da (de Z7 (wr (dm (dm ?_)))))));refine EW (v:=I ↑((j+1)*20+20)) rfl (Gx rfl rfl (by unfold ET;omega)) (by show I _=I _;congr 1;omega) (da (EF (?_)));exact⟨(j+1,_),FSq,⟨r,by omega,VG hI (by rw[Ba];exact J),J.perm.trans hp,ho⟩,by simp only [];omega⟩
 have hf:=hp.length_eq;refine Ff (Z3 _ _ (ws λ_ Z8=>wr (dm (dm (dm (dm ?_))))));refine cD (Ws cur v Bo f c _ ho EA hcb hc O (j*20) l.length EA EA) (.inl rfl) λu3 w3 x3 xh=>?_;have hsz3:=r.size;have r:=r.own x3 (λi hi hh=>hi);obtain⟨rfl,Z,ho,J⟩:=xh;refine de Z8 (EN ?_);refine Fk (G:=Nat×List Cell) (λ(s,cur)=>[(0,v),(1,I ↑l.length),(2,Gy f),(6,I ↑s)]) (λ(s,cur) w'=>Mod (λk=>v.ownBlock=some k) w w'/\20<=s/\s<=40+2*l.length/\M2 (F3 c) s 0 cur/\cur.Perm l/\Vc.Own Cell.cs 4 79 Bo w' v cur) (λ(s,cur)=>l.length-s) (20,Z) ?_ ?_ ?_
 ·exact FU
 ·exact⟨r,Aa _,by omega,Us hI EA EA (by rw[hf];exact J),J.perm.trans hp,ho⟩
 intro X4 g4 w4 h8;obtain⟨s,cur⟩:=g4;clear r ho;obtain⟨r,hs,hs2,hM,hp,ho⟩:=h8;refine ws λ_ Z9=>ws λ_ h7=>wr (dm (dm ?_));refine dp (Fa rfl rfl) (de h7 (wi (λc2=>?_) λc2=>?_))
 ·have hf:=hp.length_eq;refine EG (Z9 _ _ (EN (ws λ_ xa=>wr (dm ?_))));refine EW (v:=I ↑(0+2*s)) rfl (Ko rfl rfl (by unfold ET;omega)) (by show I _=I _;congr 1;omega) (da (da (de xa (ws λ_ ht=>EN ?_))));refine Fk (G:=Nat×Nat×List Cell) (λ(j,q,z)=>[(0,v),(1,I ↑l.length),(2,Gy f),(6,I ↑s),(7,I ↑q),(8,I ↑(q+2*s))]) (λ(j,q,z) w'=>Mod (λk=>v.ownBlock=some k) w w'/\q=j*(2*s)/\q<=l.length/\M2 (F3 c) s j z/\z.Perm l/\Vc.Own Cell.cs 4 79 Bo w' v z) (λ(j,q,z)=>l.length-q) (0,0,cur) ?_ ?_ ?_
  ·exact FSq
  ·exact⟨r,by omega,Ad _,hM,hp,ho⟩
  intro X5 g5 w5 xb;obtain⟨j,q,z⟩:=g5;clear r ho;obtain⟨r,hq,hql,ha,hb,ho⟩:=xb;refine ws λ_ hz=>ws λ_ hw=>wr (dm (dm ?_));refine dp (IM rfl rfl) (de hw (wi (λc3=>?_) λc3=>?_))
  ·have hg:=hb.length_eq;have Y:(j+1)*(2*s)=q+2*s:=by rw[hq];exact Ba _ _
   refine EG (hz _ _ (EN (ws λ_ xg=>wr (dm (dm (dm (dm ?_)))))));refine EW (v:=I ↑(q+s)) rfl (Gx rfl rfl (by unfold ET;omega)) rfl (dm (dm ?_));refine cD (Qq v Bo f c hcb hc O ((q+2*s)-q+1) z _ q (q+s) (q+2*s) EA ho EA EA EA EA (by have h9:=UG ha (by rw[Y];omega);rw[Y,<-hq]at h9;exact h9)) (.inl rfl) λu6 w6 x6 xc=>?_;have hsz6:=r.size;have r:=r.own x6 (λi hi hh=>hi);obtain⟨rfl,Z,ho,J⟩:=xc;refine de xg (ws λ_ h6=>wr (EW (v:=I ↑(q+2*s)) rfl (KA rfl) (by show I _=I _;rfl) (da (de h6 (wr (dm (dm ?_)))))));refine EW (v:=I ↑(2*s)) rfl (Ko rfl rfl (by unfold ET;omega)) (by show I _=I _;rfl) (EW (v:=I ↑(q+2*s+2*s)) rfl (Gx rfl rfl (by unfold ET;omega)) rfl (da (EF (?_))));exact⟨(j+1,q+2*s,_),FSq,⟨r,Y.symm,by omega,Si ha (by rw[Y,<-hq];exact J),J.perm.trans hb,ho⟩,by simp only [];omega⟩
  have hg:=hb.length_eq;have Y:(j+1)*(2*s)=q+2*s:=by rw[hq];exact Ba _ _
  refine Ff (ht _ _ (ws λ_ hr=>ws λ_ xe=>wr (dm (dm ?_))));refine EW (v:=I ↑(q+s)) rfl (Gx rfl rfl (by unfold ET;omega)) rfl (da (de xe (ws λ_ hy=>wr (dm (dm ?_)))));refine dp (Fa rfl rfl) (de hy (wi (λc4=>?_) λc4=>?_))
  ·refine wr (dm (dm (dm (dm (dm ?_)))));refine cD (Qq v Bo f c hcb hc O (l.length-q+1) z _ q (q+s) l.length EA ho EA EA EA EA (by have h9:=VL ha (by rw[Y];omega) (by rw[<-hq];omega);rw[<-hq,hg]at h9;exact h9)) (.inl rfl) λu7 w7 x7 h5=>?_;have hsz7:=r.size;have r:=r.own x7 (λi hi hh=>hi);obtain⟨rfl,Z,ho,J⟩:=h5;refine de hr (wr (dm ?_));refine EW (v:=I ↑(2*s)) rfl (Ko rfl rfl (by unfold ET;omega)) (by show I _=I _;congr 1;omega) (da (EF (?_)));exact⟨(2*s,_),FU,⟨r,by omega,by omega,Pu ha (by rw[Y];omega) (by rw[<-hq];omega) ⟨λ_=>by rw[<-hq,hg];exact J,λh=>absurd h (by rw[<-hq];omega)⟩,J.perm.trans hb,ho⟩,by simp only [];omega⟩
  refine EG (hr _ _ (wr (dm ?_)));refine EW (v:=I ↑(2*s)) rfl (Ko rfl rfl (by unfold ET;omega)) (by show I _=I _;congr 1;omega) (da (EF (?_)));exact⟨(2*s,_),FU,⟨r,by omega,by omega,Pu ha (by rw[Y];omega) (by rw[<-hq];omega) ⟨λh=>absurd h (by rw[<-hq];omega),λ_=>rfl⟩,hb,ho⟩,by simp only [];omega⟩
 have hf:=hp.length_eq;refine Ff (HI (Hi rfl ?_));have hf:=hp.length_eq;exact⟨_,rfl,r,rfl,cur,ho,hp,XA hM EA⟩
theorem Yaj (l:List Cell)(v:Value)(Bo f:Nat)(c:Cell->Cell->Int)(w:World)(ho:Vc.Own Cell.cs 4 79 Bo w v l)(hl:l.length<=10000000)(hcb:GL Tryz.prog f=true)(hc:∀w2 x y,Calls Tryz.prog f [Cell.v x,Cell.v y].toArray w2 (Pure w2 (I (c x y))))(O:Ord (F3 c)) :
  Calls Tryz.prog 97 [v,Gy f].toArray w (Fh (λk=>v.ownBlock=some k) w (λu w'=>u=.tuple #[]/\∃l',Vc.Own Cell.cs 4 79 Bo w' v l'/\l'.Perm l/\Up (F3 c) l')):=by
 refine cw Tryz.func97 ?_;have z:=Vc.Mod.refl (λk=>v.ownBlock=some k) w;refine wr (dm (dm ?_));refine dv 79 4 (ho.arr EE).sl (dm ?_);refine cD (Yai l v Bo f c _ ho hl hcb hc O) (.inl rfl) λu1 w1 Y J=>?_;have hsz1:=z.size;have z:=z.own Y (λi hi hlt=>hi);obtain⟨rfl,r,ho,Z,hu⟩:=J;refine EF ((HI (Hi rfl ?_)));exact⟨_,rfl,z,rfl,r,ho,Z,hu⟩
theorem Sf (l:List Fi)(v:Value)(Bo f:Nat)(c:Fi->Fi->Int)(w:World)(ho:Vc.Own Fi.cs 5 62 Bo w v l)(hl:l.length<=10000000)(hcb:GL Tryz.prog f=true)(hc:∀w2 x y,Calls Tryz.prog f [Fi.v x,Fi.v y].toArray w2 (Pure w2 (I (c x y))))(O:Ord (F3 c))(a b:Nat)(hab:a<=b)(hb:b<=l.length) :
  Calls Tryz.prog 302 [v,I ↑a,I ↑b,Gy f].toArray w (Fh (λk=>v.ownBlock=some k) w (λu w'=>u=.tuple #[]/\∃l',Vc.Own Fi.cs 5 62 Bo w' v l'/\G0 (F3 c) a b l l')):=by
 refine cw Tryz.func302 ?_;have J:=Vc.Mod.refl (λk=>v.ownBlock=some k) w;refine ws λ_ Z1=>wr (dm ?_);refine pa rfl rfl (da (de Z1 (EN ?_)));refine Fk (G:=Nat×List Fi) (λ(i,cur)=>[(0,v),(1,I ↑a),(2,I ↑b),(3,Gy f),(8,I ↑i)]) (λ(i,cur) w'=>Mod (λk=>v.ownBlock=some k) w w'/\a+1<=i/\G0 (F3 c) a (min i b) l cur/\Vc.Own Fi.cs 5 62 Bo w' v cur) (λ(i,cur)=>b-i) (a+1,l) ?_ ?_ ?_
 ·exact FA
 ·exact⟨J,Aa _,G0.one l EA EA EA,ho⟩
 intro X1 g1 w1 hw;obtain⟨i,cur⟩:=g1;clear J ho;obtain⟨J,hi1,hs,ho⟩:=hw;refine ws λ_ Z2=>ws λ_ Z3=>wr (dm (dm ?_));refine dp (Fa rfl rfl) (de Z3 (wi (λc1=>?_) λc1=>?_))
 ·have ht:G0 (F3 c) a i l cur:=by rw[Bv EA]at hs;exact hs
  refine EG (Z2 _ _ (ws λ_ Z4=>EN (ws λ_ Z5=>wr (dm (da (de Z5 (EN ?_)))))));refine Fk (G:=Nat×List Fi) (λ(j,r)=>[(0,v),(1,I ↑a),(2,I ↑b),(3,Gy f),(8,I ↑i),(9,I ↑j)]) (λ(j,r) w'=>Mod (λk=>v.ownBlock=some k) w w'/\IY (F3 c) a i j l r/\Vc.Own Fi.cs 5 62 Bo w' v r) (λ(j,r)=>j) (i,cur) ?_ ?_ ?_
  ·exact FSq
  ·exact⟨J,TF ht EA,ho⟩
  intro X2 g2 w2 hq;obtain⟨j,r⟩:=g2;clear J ho;obtain⟨J,hj,ho⟩:=hq;refine ws λ_ Z6=>ws λ_ Z7=>F4 (R:=EB) EB.refl (λ_ _ _=>EB.trans) E9 [8,13] [(0,.p,false),(1,.p,false),(2,.p,false),(3,.p,false),(4,.p,false),(5,.p,false),(6,.p,false),(7,.p,false),(8,.l,false),(9,.p,false),(10,.p,false),(11,.p,false),(12,.p,false),(13,.l,false),(14,.x,true),(15,.p,false),(16,.p,false)] rfl E9 E9 (λw3 hh=>?_);have x3:=EJ hh;clear hh;have ho:=ho.ext x3;have J:=J.ext x3
  iterate 2 refine dm ?_
  refine dp (FY rfl rfl) (dm ?_);refine Fz 21 rfl (λc2=>?_) (λc2=>?_)
  ·have hr:=hj.len;obtain⟨x,hxj⟩:∃x,r[j]?=some x:=Fq;obtain⟨z,hzj⟩:∃x,r[j-1]?=some x:=Fq;have hg:=JP ho (λe=>by rw[e]at hxj;simp at hxj)
   iterate 3 refine dm ?_
   refine di 62 5 (ho.arr EE).sl rfl ((ho.arr EE).lt hxj) (FK rfl (λw' Z=>Fb E9 rfl rfl (((ho.arr EE).ext Z).row hxj)) (dm (dm ?_)));refine EW (v:=I ↑(j-1)) rfl (Ga rfl rfl (by unfold ET;omega)) (by show I _=I _;congr 1;omega) (di 62 5 (ho.arr EE).sl rfl ((ho.arr EE).lt hzj) (FK rfl (λw' Z=>Fb E9 rfl rfl (((ho.arr EE).ext Z).row hzj)) (KP (vs:=[x.v,z.v]) rfl rfl hcb (hc _ x z) rfl RX.all (λw4 x4=>?_))));have ho:=ho.ext x4;have J:=J.ext x4;refine dp (Fa rfl rfl) (EO (de Z7 ?_));refine wi (λc3=>?_) λc3=>?_
   ·have hf:F3 c x z=true:=by simpa [F3]using c3
    refine EG (Z6 _ _ (ws λ_ Z8=>EN (F4 (R:=EB) EB.refl (λ_ _ _=>EB.trans) E9 [9,13] [(0,.p,false),(1,.p,false),(2,.p,false),(3,.p,false),(4,.p,false),(5,.p,false),(6,.p,false),(7,.p,false),(8,.p,false),(9,.l,false),(10,.p,false),(11,.p,false),(12,.p,false),(13,.l,false),(14,.p,false),(15,.x,true),(16,.p,false),(17,.x,true)] rfl E9 E9 (λw5 hp=>?_))));have x5:=EJ hp;clear hp;have ho:=ho.ext x5;have J:=J.ext x5
    iterate 4 refine dm ?_
    refine EW (v:=I ↑(j-1)) rfl (Ga rfl rfl (by unfold ET;omega)) (by show I _=I _;congr 1;omega) (dm (dm ?_));refine EW (v:=I ↑(j-1)) rfl (Ga rfl rfl (by unfold ET;omega)) (by show I _=I _;congr 1;omega) (di 62 5 (ho.arr EE).sl rfl ((ho.arr EE).lt hzj) (FK rfl (λw' Z=>Fb E9 rfl rfl (((ho.arr EE).ext Z).row hzj)) (dm (dm ?_))));refine di 62 5 (ho.arr EE).sl rfl ((ho.arr EE).lt hxj) (FK rfl (λw' Z=>Fb E9 rfl rfl (((ho.arr EE).ext Z).row hxj)) (EW (v:=ED (base v).1 (j*5+0)) rfl (HM (i:=j) (e:=62) (k:=5) E9 ho.sl rfl rfl (by omega)) (by rw[hg];show ED _ (0+_)=_;rw[A9];rfl) ?_));refine H5 (enc:=Fi.cs) (sz:=5) (l:=r) (i:=j) (j:=0) (x:=z) (vs:=z.cs) EE rfl ho rfl rfl rfl E9 (by omega) rfl (Aa 5) (by intro v hv;simp at hv;rcases hv with rfl|rfl|rfl|rfl|rfl<;>rfl) (.inl rfl) (λw6 x6 xs6 Y=>?_);have J:=J.own x6 (λi hi hf=>hi);have ho:=Y;refine EW (v:=ED (base v).1 ((j-1)*5+0)) rfl (HM (i:=(j-1)) (e:=62) (k:=5) E9 ho.sl rfl rfl (by rw[AG];omega)) (by rw[hg];show ED _ (0+_)=_;rw[A9];rfl) ?_;refine H5 (enc:=Fi.cs) (sz:=5) (l:=(r.set j z)) (i:=(j-1)) (j:=0) (x:=x) (vs:=x.cs) EE rfl ho rfl rfl rfl E9 (by rw[AG];omega) rfl (Aa 5) (by intro v hv;simp at hv;rcases hv with rfl|rfl|rfl|rfl|rfl<;>rfl) (.inl rfl) (λw7 x7 xs7 Y=>?_);have J:=J.own x7 (λi hi hf=>hi);have ho:=Y;refine de Z8 (wr (dm ?_));refine EW (v:=I ↑(j-1)) rfl (Ga rfl rfl (by unfold ET;omega)) (by show I _=I _;congr 1;omega) (da (EF (?_)));exact⟨(j-1,_),FSq,⟨J,TP hj EA hxj hzj hf,ho⟩,by simp only [];omega⟩
   have ha:G0 (F3 c) a (i+1) l r:=Pk O hj (.inr ⟨x,z,hxj,hzj,by simpa [F3]using c3⟩);refine Ff (Z4 _ _ (wr (dm ?_)));refine pa rfl rfl (da (EF (?_)));exact⟨(i+1,r),FA,⟨J,by omega,by rw[Bv EA];exact ha,ho⟩,by simp only [];omega⟩
  have hr:=hj.len;have ha:G0 (F3 c) a (i+1) l r:=Pk O hj (.inl EA)
  iterate 12 refine dk ?_
  refine EO (de Z7 ?_);refine GB rfl (Ff (Z4 _ _ (wr (dm ?_))));refine pa rfl rfl (da (EF (?_)));exact⟨(i+1,r),FA,⟨J,by omega,by rw[Bv EA];exact ha,ho⟩,by simp only [];omega⟩
 refine Ff (HI (Hi rfl ?_));rw[Ep EA]at hs;exact⟨_,rfl,J,rfl,cur,ho,hs⟩
theorem RR (l:List Fi)(v:Value)(Bo f:Nat)(w:World)(ho:Vc.Own Fi.cs 5 62 Bo w v l)(hl:l.length<=10000000)(a b n:Nat)(h1:a+n<=b)(h2:b+n<=l.length) :
  Calls Tryz.prog 337 [v,I ↑a,I ↑b,I ↑n,Gy f].toArray w (Fh (λk=>v.ownBlock=some k) w (λu w'=>u=.tuple #[]/\∃l',Vc.Own Fi.cs 5 62 Bo w' v l'/\L9 a b n l l')):=by
 refine cw Tryz.func337 ?_;have z:=Vc.Mod.refl (λk=>v.ownBlock=some k) w;refine ws λ_ Z1=>wr (da (de Z1 (EN ?_)));refine Fk (G:=Nat×List Fi) (λ(i,cur)=>[(0,v),(1,I ↑a),(2,I ↑b),(3,I ↑n),(10,I ↑i)]) (λ(i,cur) w'=>Mod (λk=>v.ownBlock=some k) w w'/\Ma a b n i l cur/\Vc.Own Fi.cs 5 62 Bo w' v cur) (λ(i,cur)=>n-i) (0,l) ?_ ?_ ?_
 ·exact FA
 ·exact⟨z,Tf h1 h2,ho⟩
 intro X1 g1 w1 hc;obtain⟨i,cur⟩:=g1;clear z ho;obtain⟨z,Y,ho⟩:=hc;refine ws λ_ Z2=>ws λ_ Z3=>wr (dm (dm ?_));refine dp (Fa rfl rfl) (de Z3 (wi (λc1=>?_) λc1=>?_))
 ·have ha:=Y.len;obtain⟨x,hxi⟩:∃x,cur[a+i]?=some x:=Fq;obtain⟨y,hyi⟩:∃x,cur[b+i]?=some x:=Fq;have J:=JP ho (λe=>by rw[e]at hxi;simp at hxi);refine EG (Z2 _ _ (ws λ_ Z4=>EN (F4 (R:=EB) EB.refl (λ_ _ _=>EB.trans) E9 [13,19] [(0,.p,false),(1,.p,false),(2,.p,false),(3,.p,false),(4,.p,false),(5,.p,false),(6,.p,false),(7,.p,false),(8,.p,false),(9,.p,false),(10,.p,false),(11,.p,false),(12,.p,false),(13,.l,false),(14,.p,false),(15,.p,false),(16,.p,false),(17,.p,false),(18,.p,false),(19,.l,false),(20,.p,false),(21,.x,true),(22,.p,false),(23,.x,true)] rfl E9 E9 (λw2 O=>?_))));have x2:=EJ O;clear O;have ho:=ho.ext x2;have z:=z.ext x2
  iterate 3 refine dm ?_
  refine EW (v:=I ↑(a+i)) rfl (Gx rfl rfl (by unfold ET;omega)) rfl (dm (dm (dm ?_)));refine EW (v:=I ↑(b+i)) rfl (Gx rfl rfl (by unfold ET;omega)) rfl (dm (dm (dm ?_)));refine EW (v:=I ↑(b+i)) rfl (Gx rfl rfl (by unfold ET;omega)) rfl (di 62 5 (ho.arr EE).sl rfl ((ho.arr EE).lt hyi) (FK rfl (λw' Z=>Fb E9 rfl rfl (((ho.arr EE).ext Z).row hyi)) (dm (dm (dm ?_)))));refine EW (v:=I ↑(a+i)) rfl (Gx rfl rfl (by unfold ET;omega)) rfl (di 62 5 (ho.arr EE).sl rfl ((ho.arr EE).lt hxi) (FK rfl (λw' Z=>Fb E9 rfl rfl (((ho.arr EE).ext Z).row hxi)) (EW (v:=ED (base v).1 ((a+i)*5+0)) rfl (HM (i:=(a+i)) (e:=62) (k:=5) E9 ho.sl rfl rfl (by omega)) (by rw[J];show ED _ (0+_)=_;rw[A9];rfl) ?_)));refine H5 (enc:=Fi.cs) (sz:=5) (l:=cur) (i:=(a+i)) (j:=0) (x:=y) (vs:=y.cs) EE rfl ho rfl rfl rfl E9 (by omega) rfl (Aa 5) (by intro v hv;simp at hv;rcases hv with rfl|rfl|rfl|rfl|rfl<;>rfl) (.inl rfl) (λw3 x3 xs3 r=>?_);have z:=z.own x3 (λi hi hb=>hi);have ho:=r;refine EW (v:=ED (base v).1 ((b+i)*5+0)) rfl (HM (i:=(b+i)) (e:=62) (k:=5) E9 ho.sl rfl rfl (by rw[AG];omega)) (by rw[J];show ED _ (0+_)=_;rw[A9];rfl) ?_;refine H5 (enc:=Fi.cs) (sz:=5) (l:=(cur.set (a+i) y)) (i:=(b+i)) (j:=0) (x:=x) (vs:=x.cs) EE rfl ho rfl rfl rfl E9 (by rw[AG];omega) rfl (Aa 5) (by intro v hv;simp at hv;rcases hv with rfl|rfl|rfl|rfl|rfl<;>rfl) (.inl rfl) (λw4 x4 xs4 r=>?_);have z:=z.own x4 (λi hi hb=>hi);have ho:=r;refine de Z4 (wr (dm ?_));refine pa rfl rfl (da (EF (?_)));exact⟨(i+1,_),FA,⟨z,Xh Y EA hxi hyi,ho⟩,by simp only [];omega⟩
 refine Ff (HI (Hi rfl ?_));have ha:=Y.len;rw[show i=n by omega]at Y;exact⟨_,rfl,z,rfl,cur,ho,Vl Y⟩
theorem Yak (l:List Fi)(v:Value)(Bo f:Nat)(w:World)(ho:Vc.Own Fi.cs 5 62 Bo w v l)(hl:l.length<=10000000)(a m b:Nat)(h1:a<m)(h2:m<b)(h3:b<=l.length) :
  Calls Tryz.prog 327 [v,I ↑a,I ↑m,I ↑b,Gy f].toArray w (Fh (λk=>v.ownBlock=some k) w (λu w'=>u=.tuple #[]/\∃l',Vc.Own Fi.cs 5 62 Bo w' v l'/\l'=Iv l a m b)):=by
 refine cw Tryz.func327 ?_;have z:=Vc.Mod.refl (λk=>v.ownBlock=some k) w;refine ws λ_ Z1=>wr (dm (dm ?_));refine EW (v:=I ↑(m-a)) rfl (Ga rfl rfl (by unfold ET;omega)) (by show I _=I _;congr 1;omega) (da (de Z1 (ws λ_ Z2=>wr (dm (dm ?_)))));refine EW (v:=I ↑(b-m)) rfl (Ga rfl rfl (by unfold ET;omega)) (by show I _=I _;congr 1;omega) (da (de Z2 (ws λ_ Z3=>EN ?_)));refine Fk (G:=Nat×Nat×List Fi) (λ(i,j,cur)=>[(0,v),(2,I ↑m),(4,Gy f),(10,I ↑i),(11,I ↑j)]) (λ(i,j,cur) w'=>Mod (λk=>v.ownBlock=some k) w w'/\0<i/\0<j/\cur.length=l.length/\Ix m i j (Iv l a m b) cur/\Vc.Own Fi.cs 5 62 Bo w' v cur) (λ(i,j,cur)=>i+j) (m-a,b-m,l) ?_ ?_ ?_
 ·exact FA
 ·exact⟨z,by omega,by omega,rfl,PF EA EA h3,ho⟩
 intro X1 g1 w1 hf;obtain⟨i,j,cur⟩:=g1;clear z ho;obtain⟨z,hc,hj,Z,Y,ho⟩:=hf;refine ws λ_ Z4=>ws λ_ Z5=>wr (dm (dm ?_));refine dp (F8 rfl rfl) (de Z5 (wi (λc1=>?_) λc1=>?_))
 ·have hp:=Y.len;refine EG (Z4 _ _ (EN (ws λ_ Z6=>wr (dm (dm ?_)))));refine dp (FY rfl rfl) (de Z6 (wi (λc2=>?_) λc2=>?_))
  ·refine ws λ_ Z7=>wr (dm (dm (dm ?_)));refine EW (v:=I ↑(m-i)) rfl (Ga rfl rfl (by unfold ET;omega)) (by show I _=I _;congr 1;omega) (dm (dm (dm ?_)));refine cD (RR cur v Bo f _ ho EA (m-i) m j EA EA) (.inl rfl) λu2 w2 x2 hg=>?_;have hsz2:=z.size;have z:=z.own x2 (λi hi ha=>hi);obtain⟨rfl,r,ho,O⟩:=hg;refine de Z7 (wr (dm (dm ?_)));refine EW (v:=I ↑(i-j)) rfl (Ga rfl rfl (by unfold ET;omega)) (by show I _=I _;congr 1;omega) (da (EF (?_)));have J:=Wy Y EA O;exact⟨(i-j,j,r),FA,⟨z,by omega,hj,(J.len.1.trans (Y.len.1.symm.trans Z)),J,ho⟩,by simp only [];omega⟩
  refine ws λ_ Z8=>wr (dm (dm (dm ?_)));refine EW (v:=I ↑(m-i)) rfl (Ga rfl rfl (by unfold ET;omega)) (by show I _=I _;congr 1;omega) (dm (dm ?_));refine EW (v:=I ↑(m+j)) rfl (Gx rfl rfl (by unfold ET;omega)) rfl (dm ?_);refine EW (v:=I ↑(m+j-i)) rfl (Ga rfl rfl (by unfold ET;omega)) (by show I _=I _;congr 1;omega) (dm (dm ?_));refine cD (RR cur v Bo f _ ho EA (m-i) (m+j-i) i EA EA) (.inl rfl) λu3 w3 x3 hq=>?_;have hsz3:=z.size;have z:=z.own x3 (λi hi ha=>hi);obtain⟨rfl,r,ho,O⟩:=hq;refine de Z8 (wr (dm (dm ?_)));refine EW (v:=I ↑(j-i)) rfl (Ga rfl rfl (by unfold ET;omega)) (by show I _=I _;congr 1;omega) (da (EF (?_)));have J:=Tz Y EA O;exact⟨(i,j-i,r),FA,⟨z,hc,by omega,(J.len.1.trans (Y.len.1.symm.trans Z)),J,ho⟩,by simp only [];omega⟩
 have hp:=Y.len;have hb:i=j:=by omega
 subst hb;refine Ff (Z3 _ _ (wr (dm (dm (dm ?_)))));refine EW (v:=I ↑(m-i)) rfl (Ga rfl rfl (by unfold ET;omega)) (by show I _=I _;congr 1;omega) (dm (dm (dm ?_)));refine cD (RR cur v Bo f _ ho EA (m-i) m i EA EA) (.inl rfl) λu4 w4 x4 hh=>?_;have hsz4:=z.size;have z:=z.own x4 (λi hi ha=>hi);obtain⟨rfl,r,ho,O⟩:=hh;refine EF ((HI (Hi rfl ?_)));exact⟨_,rfl,z,rfl,r,ho,XE Y O⟩
def TH (v:Value)(Bo f:Nat)(c:Fi->Fi->Int)(N:Nat):Prop:=∀(l:List Fi) (w:World) (a m b:Nat),b-a<N->Vc.Own Fi.cs 5 62 Bo w v l->l.length<=10000000->a<m->m<b->b<=l.length->SM (F3 c) a m b l->Calls Tryz.prog 303 [v,I ↑a,I ↑m,I ↑b,Gy f].toArray w (Fh (λk=>v.ownBlock=some k) w (λu w'=>u=.tuple #[]/\∃l',Vc.Own Fi.cs 5 62 Bo w' v l'/\G0 (F3 c) a b l l'))
theorem Yal (l:List Fi)(v:Value)(Bo f:Nat)(c:Fi->Fi->Int)(w:World)(ho:Vc.Own Fi.cs 5 62 Bo w v l)(hl:l.length<=10000000)(hcb:GL Tryz.prog f=true)(hc:∀w2 x y,Calls Tryz.prog f [Fi.v x,Fi.v y].toArray w2 (Pure w2 (I (c x y))))(O:Ord (F3 c))(a m b:Nat)(ham:a<m)(hmb:m<b)(hb:b<=l.length)(hsm:SM (F3 c) a m b l)(ih:TH v Bo f c (b-a)) :
  Calls Tryz.prog 303 [v,I ↑a,I ↑m,I ↑b,Gy f].toArray w (Fh (λk=>v.ownBlock=some k) w (λu w'=>u=.tuple #[]/\∃l',Vc.Own Fi.cs 5 62 Bo w' v l'/\G0 (F3 c) a b l l')):=by
 refine cw Tryz.func303 ?_;have z:=Vc.Mod.refl (λk=>v.ownBlock=some k) w;refine ws λ_ Z1=>ws λ_ Z2=>wr (dm (dm ?_));refine ps rfl rfl (dp (G1 rfl rfl) (de Z2 (wi (λc1=>?_) λc1=>?_)))
 ·have xa:m=a+1:=by omega
  refine ws λ_ Z3=>wr (dm (da (de Z3 (ws λ_ Z4=>wr (dm (da (de Z4 (ws λ_ Z5=>EN ?_))))))));refine Fk (G:=Nat×Nat) (λ(i,j)=>[(0,v),(1,I ↑a),(2,I ↑m),(3,I ↑b),(4,Gy f),(10,I ↑i),(11,I ↑j)]) (λ(i,j) w'=>Mod (λk=>v.ownBlock=some k) w w'/\m<=i/\i<=j/\j<=b/\(j=b\/∃x y,l[a]?=some x/\l[j]?=some y/\F3 c y x=false)/\(i=m\/∃x y,l[a]?=some x/\l[i-1]?=some y/\F3 c y x=true)/\Vc.Own Fi.cs 5 62 Bo w' v l) (λ(i,j)=>j-i) (m,b) ?_ ?_ ?_
  ·exact FQ
  ·exact⟨z,Aa _,by omega,Aa _,.inl rfl,.inl rfl,ho⟩
  intro X1 g1 w1 yl;obtain⟨i,j⟩:=g1;clear z ho;obtain⟨z,hi,xy,hw,hq,hg,ho⟩:=yl;refine ws λ_ Z6=>ws λ_ Z7=>wr (dm (dm ?_));refine dp (Fa rfl rfl) (de Z7 (wi (λc2=>?_) λc2=>?_))
  ·obtain⟨x,hxa⟩:∃x,l[a]?=some x:=Fq;obtain⟨y,hyh⟩:∃x,l[(i+j) / 2]?=some x:=Fq;refine EG (Z6 _ _ (EN (ws λ_ Z8=>wr (dm (dm ?_)))));refine EW (v:=I ↑(i+j)) rfl (Gx rfl rfl (by unfold ET;omega)) rfl (EW (v:=.int .u64 ↑(i+j)) rfl (K5 (n:=i+j) (k:=.i64) EA rfl E9 E9) rfl (dp (LA (u:=i+j) rfl rfl) (dp (La (n:=(i+j) / 2) EA rfl E9 E9) (da (de Z8 (ws λ_ Z9=>?_))))));refine F4 (R:=EB) EB.refl (λ_ _ _=>EB.trans) E9 [4,8] [(0,.p,false),(1,.p,false),(2,.p,false),(3,.p,false),(4,.l,false),(5,.p,false),(6,.p,false),(7,.p,false),(8,.l,false),(9,.x,true),(10,.p,false)] rfl E9 E9 (λw2 xo=>?_);have x2:=EJ xo;clear xo;have ho:=ho.ext x2;have z:=z.ext x2
   iterate 3 refine dm ?_
   refine di 62 5 (ho.arr EE).sl rfl ((ho.arr EE).lt hyh) (FK rfl (λw' hR=>Fb E9 rfl rfl (((ho.arr EE).ext hR).row hyh)) (dm (dm ?_)));refine di 62 5 (ho.arr EE).sl rfl ((ho.arr EE).lt hxa) (FK rfl (λw' hR=>Fb E9 rfl rfl (((ho.arr EE).ext hR).row hxa)) (KP (vs:=[y.v,x.v]) rfl rfl hcb (hc _ y x) rfl RX.all (λw3 x3=>?_)));have ho:=ho.ext x3;have z:=z.ext x3;refine dp (Fa rfl rfl) (de Z9 (wi (λc3=>?_) λc3=>?_))
   ·have J:F3 c y x=true:=by simpa [F3]using c3
    refine wr (dm ?_);refine pa rfl rfl (da (EF (?_)));exact⟨((i+j) / 2+1,j),FQ,⟨z,by omega,by omega,hw,hq,.inr ⟨x,y,hxa,by rw[BR];exact hyh,J⟩,ho⟩,by simp only [];omega⟩
   have J:F3 c y x=false:=by simpa [F3]using c3
   refine wr (dm (da (EF (?_))));exact⟨(i,(i+j) / 2),FQ,⟨z,hi,by omega,by omega,.inr ⟨x,y,hxa,hyh,J⟩,hg,ho⟩,by simp only [];omega⟩
  refine Ff (Z5 _ _ (ws λ_ ya=>ws λ_ yf=>wr (dm (da (de yf (EN ?_))))));refine Fk (G:=Nat×List Fi) (λ(k,cur)=>[(0,v),(1,I ↑a),(2,I ↑m),(3,I ↑b),(4,Gy f),(10,I ↑i),(13,I ↑k)]) (λ(k,cur) w'=>Mod (λk=>v.ownBlock=some k) w w'/\LM a k l cur/\k<=i-1/\Vc.Own Fi.cs 5 62 Bo w' v cur) (λ(k,cur)=>i-k) (a,l) ?_ ?_ ?_
  ·exact FQ
  ·exact⟨z,VD EA,by omega,ho⟩
  intro X4 g4 w4 y4;obtain⟨k,cur⟩:=g4;clear z ho;obtain⟨z,hk,yd,ho⟩:=y4;refine ws λ_ xw=>ws λ_ yz=>wr (dm (dm ?_));refine ps rfl rfl (dp (Fa rfl rfl) (de yz (wi (λc4=>?_) λc4=>?_)))
  ·have h8:=hk.len;obtain⟨x,hxk⟩:∃x,cur[k]?=some x:=Fq;obtain⟨y,hyk⟩:∃x,cur[k+1]?=some x:=Fq;have hr:=JP ho (λe=>by rw[e]at hxk;simp at hxk);refine EG (xw _ _ (ws λ_ xx=>EN (F4 (R:=EB) EB.refl (λ_ _ _=>EB.trans) E9 [9,13] [(0,.p,false),(1,.p,false),(2,.p,false),(3,.p,false),(4,.p,false),(5,.p,false),(6,.p,false),(7,.p,false),(8,.p,false),(9,.l,false),(10,.p,false),(11,.p,false),(12,.p,false),(13,.l,false),(14,.p,false),(15,.x,true),(16,.p,false),(17,.x,true)] rfl E9 E9 (λw5 xt=>?_))));have x5:=EJ xt;clear xt;have ho:=ho.ext x5;have z:=z.ext x5
   iterate 4 refine dm ?_
   refine EW (v:=I ↑(k+1)) rfl (Gx rfl rfl (by unfold ET;omega)) rfl (dm (dm ?_));refine EW (v:=I ↑(k+1)) rfl (Gx rfl rfl (by unfold ET;omega)) rfl (di 62 5 (ho.arr EE).sl rfl ((ho.arr EE).lt hyk) (FK rfl (λw' hR=>Fb E9 rfl rfl (((ho.arr EE).ext hR).row hyk)) (dm (dm ?_))));refine di 62 5 (ho.arr EE).sl rfl ((ho.arr EE).lt hxk) (FK rfl (λw' hR=>Fb E9 rfl rfl (((ho.arr EE).ext hR).row hxk)) (EW (v:=ED (base v).1 (k*5+0)) rfl (HM (i:=k) (e:=62) (k:=5) E9 ho.sl rfl rfl (by omega)) (by rw[hr];show ED _ (0+_)=_;rw[A9];rfl) ?_));refine H5 (enc:=Fi.cs) (sz:=5) (l:=cur) (i:=k) (j:=0) (x:=y) (vs:=y.cs) EE rfl ho rfl rfl rfl E9 (by omega) rfl (Aa 5) (by intro v hv;simp at hv;rcases hv with rfl|rfl|rfl|rfl|rfl<;>rfl) (.inl rfl) (λw6 x6 xs6 hf=>?_);have z:=z.own x6 (λi hi J=>hi);have ho:=hf;refine EW (v:=ED (base v).1 ((k+1)*5+0)) rfl (HM (i:=(k+1)) (e:=62) (k:=5) E9 ho.sl rfl rfl (by rw[AG];omega)) (by rw[hr];show ED _ (0+_)=_;rw[A9];rfl) ?_;refine H5 (enc:=Fi.cs) (sz:=5) (l:=(cur.set k y)) (i:=(k+1)) (j:=0) (x:=x) (vs:=x.cs) EE rfl ho rfl rfl rfl E9 (by rw[AG];omega) rfl (Aa 5) (by intro v hv;simp at hv;rcases hv with rfl|rfl|rfl|rfl|rfl<;>rfl) (.inl rfl) (λw7 x7 xs7 hf=>?_);have z:=z.own x7 (λi hi J=>hi);have ho:=hf;refine de xx (wr (dm ?_));refine pa rfl rfl (da (EF (?_)));exact⟨(k+1,_),FQ,⟨z,Uz hk hxk hyk,by omega,ho⟩,by simp only [];omega⟩
  refine Ff (ya _ _ (EH (Hi rfl ?_)));have h8:=hk.len;have:k=i-1:=by omega
  subst this;have ht:i=j:=by omega
  subst ht;exact⟨_,rfl,z,rfl,cur,ho,VK O hsm xa hi hw hk hq hg⟩
 refine EG (Z1 _ _ (ws λ_ yh=>ws λ_ x4=>wr (dm (dm ?_))));refine ps rfl rfl (dp (G1 rfl rfl) (de x4 (wi (λc5=>?_) λc5=>?_)))
 ·have xa:b=m+1:=by omega
  refine ws λ_ yo=>wr (dm (da (de yo (ws λ_ zc=>wr (dm (da (de zc (ws λ_ yr=>EN ?_))))))));refine Fk (G:=Nat×Nat) (λ(i,j)=>[(0,v),(1,I ↑a),(2,I ↑m),(3,I ↑b),(4,Gy f),(14,I ↑i),(15,I ↑j)]) (λ(i,j) w'=>Mod (λk=>v.ownBlock=some k) w w'/\a<=i/\i<=j/\j<=m/\(j=m\/∃x y,l[m]?=some x/\l[j]?=some y/\F3 c x y=true)/\(i=a\/∃x y,l[m]?=some x/\l[i-1]?=some y/\F3 c x y=false)/\Vc.Own Fi.cs 5 62 Bo w' v l) (λ(i,j)=>j-i) (a,m) ?_ ?_ ?_
  ·exact FQ
  ·exact⟨z,Aa _,by omega,Aa _,.inl rfl,.inl rfl,ho⟩
  intro X8 g8 w8 ye;obtain⟨i,j⟩:=g8;clear z ho;obtain⟨z,hi,xy,hw,hq,hg,ho⟩:=ye;refine ws λ_ yn=>ws λ_ yx=>wr (dm (dm ?_));refine dp (Fa rfl rfl) (de yx (wi (λc6=>?_) λc6=>?_))
  ·obtain⟨x,hxm⟩:∃x,l[m]?=some x:=Fq;obtain⟨y,hyh⟩:∃x,l[(i+j) / 2]?=some x:=Fq;refine EG (yn _ _ (EN (ws λ_ yk=>wr (dm (dm ?_)))));refine EW (v:=I ↑(i+j)) rfl (Gx rfl rfl (by unfold ET;omega)) rfl (EW (v:=.int .u64 ↑(i+j)) rfl (K5 (n:=i+j) (k:=.i64) EA rfl E9 E9) rfl (dp (LA (u:=i+j) rfl rfl) (dp (La (n:=(i+j) / 2) EA rfl E9 E9) (da (de yk (ws λ_ zf=>?_))))));refine F4 (R:=EB) EB.refl (λ_ _ _=>EB.trans) E9 [4,8] [(0,.p,false),(1,.p,false),(2,.p,false),(3,.p,false),(4,.l,false),(5,.p,false),(6,.p,false),(7,.p,false),(8,.l,false),(9,.x,true),(10,.p,false),(11,.p,false)] rfl E9 E9 (λw9 xe=>?_);have x9:=EJ xe;clear xe;have ho:=ho.ext x9;have z:=z.ext x9
   iterate 3 refine dm ?_
   refine di 62 5 (ho.arr EE).sl rfl ((ho.arr EE).lt hxm) (FK rfl (λw' hR=>Fb E9 rfl rfl (((ho.arr EE).ext hR).row hxm)) (dm (dm ?_)));refine di 62 5 (ho.arr EE).sl rfl ((ho.arr EE).lt hyh) (FK rfl (λw' hR=>Fb E9 rfl rfl (((ho.arr EE).ext hR).row hyh)) (KP (vs:=[x.v,y.v]) rfl rfl hcb (hc _ x y) rfl RX.all (λw10 xg=>?_)));have ho:=ho.ext xg;have z:=z.ext xg;refine dp (Fa rfl rfl) (dn (de zf ?_));refine wc (λc7=>?_) λc7=>?_
   ·have J:F3 c x y=false:=by simpa [F3]using c7
    refine wr (dm ?_);refine pa rfl rfl (da (EF (?_)));exact⟨((i+j) / 2+1,j),FQ,⟨z,by omega,by omega,hw,hq,.inr ⟨x,y,hxm,by rw[BR];exact hyh,J⟩,ho⟩,by simp only [];omega⟩
   have J:F3 c x y=true:=by simpa [F3]using c7
   refine wr (dm (da (EF (?_))));exact⟨(i,(i+j) / 2),FQ,⟨z,hi,by omega,by omega,.inr ⟨x,y,hxm,hyh,J⟩,hg,ho⟩,by simp only [];omega⟩
  refine Ff (yr _ _ (ws λ_ zd=>ws λ_ zi=>wr (dm (da (de zi (EN ?_))))));refine Fk (G:=Nat×List Fi) (λ(k,cur)=>[(0,v),(1,I ↑a),(2,I ↑m),(3,I ↑b),(4,Gy f),(14,I ↑i),(17,I ↑k)]) (λ(k,cur) w'=>Mod (λk=>v.ownBlock=some k) w w'/\LX m k l cur/\i<=k/\Vc.Own Fi.cs 5 62 Bo w' v cur) (λ(k,cur)=>k) (m,l) ?_ ?_ ?_
  ·exact FQ
  ·exact⟨z,Te EA,by omega,ho⟩
  intro X11 ym w11 xh;obtain⟨k,cur⟩:=ym;clear z ho;obtain⟨z,hk,yd,ho⟩:=xh;refine ws λ_ yb=>ws λ_ x8=>wr (dm (dm ?_));refine dp (FY rfl rfl) (de x8 (wi (λc8=>?_) λc8=>?_))
  ·have h8:=hk.len;obtain⟨x,hxk⟩:∃x,cur[k]?=some x:=Fq;obtain⟨y,hyk⟩:∃x,cur[k-1]?=some x:=Fq;have hr:=JP ho (λe=>by rw[e]at hxk;simp at hxk);refine EG (yb _ _ (ws λ_ zn=>EN (F4 (R:=EB) EB.refl (λ_ _ _=>EB.trans) E9 [9,13] [(0,.p,false),(1,.p,false),(2,.p,false),(3,.p,false),(4,.p,false),(5,.p,false),(6,.p,false),(7,.p,false),(8,.p,false),(9,.l,false),(10,.p,false),(11,.p,false),(12,.p,false),(13,.l,false),(14,.p,false),(15,.x,true),(16,.p,false),(17,.x,true)] rfl E9 E9 (λw12 h6=>?_))));have xi:=EJ h6;clear h6;have ho:=ho.ext xi;have z:=z.ext xi
   iterate 4 refine dm ?_
   refine EW (v:=I ↑(k-1)) rfl (Ga rfl rfl (by unfold ET;omega)) (by show I _=I _;congr 1;omega) (dm (dm ?_));refine EW (v:=I ↑(k-1)) rfl (Ga rfl rfl (by unfold ET;omega)) (by show I _=I _;congr 1;omega) (di 62 5 (ho.arr EE).sl rfl ((ho.arr EE).lt hyk) (FK rfl (λw' hR=>Fb E9 rfl rfl (((ho.arr EE).ext hR).row hyk)) (dm (dm ?_))));refine di 62 5 (ho.arr EE).sl rfl ((ho.arr EE).lt hxk) (FK rfl (λw' hR=>Fb E9 rfl rfl (((ho.arr EE).ext hR).row hxk)) (EW (v:=ED (base v).1 (k*5+0)) rfl (HM (i:=k) (e:=62) (k:=5) E9 ho.sl rfl rfl (by omega)) (by rw[hr];show ED _ (0+_)=_;rw[A9];rfl) ?_));refine H5 (enc:=Fi.cs) (sz:=5) (l:=cur) (i:=k) (j:=0) (x:=y) (vs:=y.cs) EE rfl ho rfl rfl rfl E9 (by omega) rfl (Aa 5) (by intro v hv;simp at hv;rcases hv with rfl|rfl|rfl|rfl|rfl<;>rfl) (.inl rfl) (λw13 x0 xs13 hf=>?_);have z:=z.own x0 (λi hi J=>hi);have ho:=hf;refine EW (v:=ED (base v).1 ((k-1)*5+0)) rfl (HM (i:=(k-1)) (e:=62) (k:=5) E9 ho.sl rfl rfl (by rw[AG];omega)) (by rw[hr];show ED _ (0+_)=_;rw[A9];rfl) ?_;refine H5 (enc:=Fi.cs) (sz:=5) (l:=(cur.set k y)) (i:=(k-1)) (j:=0) (x:=x) (vs:=x.cs) EE rfl ho rfl rfl rfl E9 (by rw[AG];omega) rfl (Aa 5) (by intro v hv;simp at hv;rcases hv with rfl|rfl|rfl|rfl|rfl<;>rfl) (.inl rfl) (λw14 y8 xs14 hf=>?_);have z:=z.own y8 (λi hi J=>hi);have ho:=hf;refine de zn (wr (dm ?_));refine EW (v:=I ↑(k-1)) rfl (Ga rfl rfl (by unfold ET;omega)) (by show I _=I _;congr 1;omega) (da (EF (?_)));exact⟨(k-1,_),FQ,⟨z,Ui hk EA hxk hyk,by omega,ho⟩,by simp only [];omega⟩
  refine Ff (zd _ _ (EH (Hi rfl ?_)));have h8:=hk.len;have:k=i:=by omega
  subst this;have ht:k=j:=by omega
  subst ht;exact⟨_,rfl,z,rfl,cur,ho,TM O hsm xa hi hw hk hq hg⟩
 have ham2:a+2<=m:=by omega
 have hmb2:m+2<=b:=by omega
 refine EG (yh _ _ (ws λ_ yj=>wr (dm (dm ?_))));refine EW (v:=I ↑(a+b)) rfl (Gx rfl rfl (by unfold ET;omega)) rfl (EW (v:=.int .u64 ↑(a+b)) rfl (K5 (n:=a+b) (k:=.i64) EA rfl E9 E9) rfl (dp (LA (u:=a+b) rfl rfl) (dp (La (n:=(a+b) / 2) EA rfl E9 E9) (da (de yj (ws λ_ xz=>wr (dm (dm ?_))))))));refine EW (v:=I ↑((a+b) / 2+m)) rfl (Gx rfl rfl (by unfold ET;omega)) rfl (da (de xz (ws λ_ y7=>wr (da (da (de y7 ?_))))));refine Hz (G:=Nat×Nat) (λ(s0,r0)=>[(0,v),(1,I ↑a),(2,I ↑m),(3,I ↑b),(4,Gy f),(18,I ↑((a+b) / 2)),(19,I ↑((a+b) / 2+m)),(20,I ↑s0),(21,I ↑r0)]) (λ(s0,r0) w'=>Mod (λk=>v.ownBlock=some k) w w'/\a<=s0/\s0<=r0/\r0<=m/\(s0=a\/(a+b) / 2+m-s0=b)/\(r0=m\/(a+b) / 2+m-r0=m)/\(a+b) / 2+m-s0<=b/\m<=(a+b) / 2+m-r0/\Vc.Own Fi.cs 5 62 Bo w' v l) ?_ ?_
 ·refine ws λ_ yv=>wr (dm (dm ?_));refine dp (FY rfl rfl) (de yv (wi (λc9=>?_) λc9=>?_))
  ·have zk:(a+b) / 2<m:=by omega
   refine ws λ_ za=>wr (dm (dm ?_));refine EW (v:=I ↑((a+b) / 2+m-b)) rfl (Ga rfl rfl (by unfold ET;omega)) (by show I _=I _;congr 1;omega) (da (de za (wr (dm (da (EF (?_)))))));exact⟨((a+b) / 2+m-b,(a+b) / 2),Je,z,by omega,by omega,by omega,.inr EA,.inr EA,by omega,by omega,ho⟩
  have zk:m<=(a+b) / 2:=by omega
  refine ws λ_ yc=>wr (dm (da (de yc (wr (dm (da (EF (?_))))))));exact⟨(a,m),Je,z,by omega,by omega,by omega,.inl rfl,.inl rfl,by omega,by omega,ho⟩
 intro X15 yq w15 xq;obtain⟨s0,r0⟩:=yq;clear z ho;obtain⟨z,q0,q1,q2,q3,q4,q5,q6,ho⟩:=xq;refine ws λ_ yw=>wr (dm ?_);refine EW (v:=I ↑((a+b) / 2+m-1)) rfl (Ga rfl rfl (by unfold ET;omega)) (by show I _=I _;congr 1;omega) (da (de yw (ws λ_ zb=>EN ?_)));refine Fk (G:=Nat×Nat) (λ(s,r)=>[(0,v),(1,I ↑a),(2,I ↑m),(3,I ↑b),(4,Gy f),(18,I ↑((a+b) / 2)),(19,I ↑((a+b) / 2+m)),(20,I ↑s),(21,I ↑r),(22,I ↑((a+b) / 2+m-1))]) (λ(s,r) w'=>Mod (λk=>v.ownBlock=some k) w w'/\s0<=s/\s<=r/\r<=r0/\(s=s0\/∃x y,l[s-1]?=some x/\l[(a+b) / 2+m-s]?=some y/\F3 c y x=false)/\(r=r0\/∃x y,l[r]?=some x/\l[(a+b) / 2+m-1-r]?=some y/\F3 c y x=true)/\Vc.Own Fi.cs 5 62 Bo w' v l) (λ(s,r)=>r-s) (s0,r0) ?_ ?_ ?_
 ·exact HS
 ·exact⟨z,Aa _,q1,Aa _,.inl rfl,.inl rfl,ho⟩
 intro X16 yp w16 xj;obtain⟨s,r⟩:=yp;clear z ho;obtain⟨z,ze,hsr1,zj,hg,xd,ho⟩:=xj;refine ws λ_ y5=>ws λ_ zh=>wr (dm (dm ?_));refine dp (Fa rfl rfl) (de zh (wi (λxu=>?_) λxu=>?_))
 ·obtain⟨y,hyh⟩:∃x,l[(a+b) / 2+m-1-(s+r) / 2]?=some x:=Fq;obtain⟨x,hxc⟩:∃x,l[(s+r) / 2]?=some x:=Fq;refine EG (y5 _ _ (EN (ws λ_ y2=>wr (dm (dm ?_)))));refine EW (v:=I ↑(s+r)) rfl (Gx rfl rfl (by unfold ET;omega)) rfl (EW (v:=.int .u64 ↑(s+r)) rfl (K5 (n:=s+r) (k:=.i64) EA rfl E9 E9) rfl (dp (LA (u:=s+r) rfl rfl) (dp (La (n:=(s+r) / 2) EA rfl E9 E9) (da (de y2 (ws λ_ zl=>?_))))));refine F4 (R:=EB) EB.refl (λ_ _ _=>EB.trans) E9 [6,10] [(0,.p,false),(1,.p,false),(2,.p,false),(3,.p,false),(4,.p,false),(5,.p,false),(6,.l,false),(7,.p,false),(8,.p,false),(9,.p,false),(10,.l,false),(11,.x,true),(12,.p,false),(13,.p,false)] rfl E9 E9 (λw17 h5=>?_);have xf:=EJ h5;clear h5;have ho:=ho.ext xf;have z:=z.ext xf
  iterate 4 refine dm ?_
  refine EW (v:=I ↑((a+b) / 2+m-1-(s+r) / 2)) rfl (Ga rfl rfl (by unfold ET;omega)) (by show I _=I _;congr 1;omega) (di 62 5 (ho.arr EE).sl rfl ((ho.arr EE).lt hyh) (FK rfl (λw' hR=>Fb E9 rfl rfl (((ho.arr EE).ext hR).row hyh)) (dm (dm ?_))));refine di 62 5 (ho.arr EE).sl rfl ((ho.arr EE).lt hxc) (FK rfl (λw' hR=>Fb E9 rfl rfl (((ho.arr EE).ext hR).row hxc)) (KP (vs:=[y.v,x.v]) rfl rfl hcb (hc _ y x) rfl RX.all (λw18 xl=>?_)));have ho:=ho.ext xl;have z:=z.ext xl;refine dp (Fa rfl rfl) (dn (de zl ?_));refine wc (λh9=>?_) λh9=>?_
  ·have J:F3 c y x=false:=by simpa [F3]using h9
   refine wr (dm ?_);refine pa rfl rfl (da (EF (?_)));exact⟨((s+r) / 2+1,r),HS,⟨z,by omega,by omega,zj,.inr ⟨x,y,by rw[BR];exact hxc,by rw[<-hyh];congr 1;omega,J⟩,xd,ho⟩,by simp only [];omega⟩
  have J:F3 c y x=true:=by simpa [F3]using h9
  refine wr (dm (da (EF (?_))));exact⟨(s,(s+r) / 2),HS,⟨z,ze,by omega,by omega,hg,.inr ⟨x,y,hxc,hyh,J⟩,ho⟩,by simp only [];omega⟩
 have x1:s=r:=by omega
 subst x1;have h7:∀l2,((s<m/\m<(a+b) / 2+m-s->l2=Iv l s m ((a+b) / 2+m-s))/\(¬ (s<m/\m<(a+b) / 2+m-s)->l2=l))->Ky (F3 c) a m b s ((a+b) / 2+m-s) l l2:=λl2 h2=>Vz O hsm EA EA EA EA (by
  rcases hg with e|e
  ·rcases q3 with e3|e3
   ·exact .inl EA
   ·exact .inr (.inl (by rw[e];exact e3))
  ·exact .inr (.inr e)) (by
  rcases xd with e|e
  ·rcases q4 with e4|e4
   ·exact .inl EA
   ·exact .inr (.inl (by rw[e];exact e4))
  ·obtain⟨x,y,e1,e2,e3⟩:=e;exact .inr (.inr ⟨x,y,e1,by rw[<-e2];congr 1;omega,e3⟩)) h2
 have Z:s+((a+b) / 2+m-s)=(a+b) / 2+m:=by omega
 refine Ff (zb _ _ (ws λ_ zm=>wr (dm (dm ?_))));refine EW (v:=I ↑((a+b) / 2+m-s)) rfl (Ga rfl rfl (by unfold ET;omega)) (by show I _=I _;congr 1;omega) (da (de zm ?_));refine Hz (G:=List Fi) (λl2=>[(0,v),(1,I ↑a),(3,I ↑b),(4,Gy f),(18,I ↑((a+b) / 2)),(20,I ↑s),(24,I ↑((a+b) / 2+m-s))]) (λl2 w'=>Mod (λk=>v.ownBlock=some k) w w'/\Ky (F3 c) a m b s ((a+b) / 2+m-s) l l2/\l2.length=l.length/\Vc.Own Fi.cs 5 62 Bo w' v l2) ?_ ?_
 ·refine ws λ_ xm=>wr (dm (dm ?_));refine dp (Fa rfl rfl) (dm ?_);refine Fz 181 rfl (λyu=>?_) (λyu=>?_)
  ·iterate 2 refine dm ?_
   refine dp (Fa rfl rfl) (EO (de xm ?_));refine wi (λy9=>?_) λy9=>?_
   ·refine wr (dm (dm (dm (dm (dm ?_)))));refine cD (Yak l v Bo f _ ho hl s m ((a+b) / 2+m-s) EA EA EA) (.inl rfl) λu19 w19 y6 xc=>?_;have hsz19:=z.size;have z:=z.own y6 (λi hi J=>hi);obtain⟨rfl,hh,ho,xr⟩:=xc;have Y:=h7 hh ⟨λ_=>xr,λh=>absurd ⟨by omega,by omega⟩ h⟩;have hj:hh.length=l.length:=by rw[xr];have:=(PF (l:=l) (a:=s) (m:=m) (b:=(a+b) / 2+m-s) EA EA EA).len.1;omega
    refine EF (?_);exact⟨_,FQ,z,Y,hj,ho⟩
   have Y:=h7 l ⟨λh=>absurd h.2 EA,λ_=>rfl⟩;have hj:l.length=l.length:=rfl;refine EG ?_;exact⟨_,FQ,z,Y,hj,ho⟩
  have Y:=h7 l ⟨λh=>absurd h.1 EA,λ_=>rfl⟩;have hj:l.length=l.length:=rfl;refine dk (dk (dk (EO (de xm ?_))));refine GB rfl (EG ?_);exact⟨_,FQ,z,Y,hj,ho⟩
 intro X20 xv w20 hz;revert hz;revert xv;intro l2 hz;clear z ho;obtain⟨z,Y,hj,ho⟩:=hz;refine Hz (G:=List Fi) (λl3=>[(0,v),(3,I ↑b),(4,Gy f),(18,I ↑((a+b) / 2)),(24,I ↑((a+b) / 2+m-s))]) (λl3 w'=>Mod (λk=>v.ownBlock=some k) w w'/\G0 (F3 c) a ((a+b) / 2) l2 l3/\Vc.Own Fi.cs 5 62 Bo w' v l3) ?_ ?_
 ·refine ws λ_ xb=>wr (dm (dm ?_));refine dp (Fa rfl rfl) (dm ?_);refine Fz 195 rfl (λyy=>?_) (λyy=>?_)
  ·iterate 2 refine dm ?_
   refine dp (Fa rfl rfl) (EO (de xb ?_));refine wi (λyi=>?_) λyi=>?_
   ·refine wr (dm (dm (dm (dm (dm ?_)))));refine cD (ih l2 _ a s ((a+b) / 2) EA ho EA EA EA EA (TL Y Z)) (.inl rfl) λu21 w21 yt xk=>?_;have hsz21:=z.size;have z:=z.own yt (λi hi J=>hi);obtain⟨rfl,hh,ho,ha⟩:=xk;refine EF (?_);exact⟨_,FA,z,ha,ho⟩
   have ha:=OK Y Z (λh=>absurd h.2 EA);refine EG ?_;exact⟨_,FA,z,ha,ho⟩
  have ha:=OK Y Z (λh=>absurd h.1 EA);refine dk (dk (dk (EO (de xb ?_))));refine GB rfl (EG ?_);exact⟨_,FA,z,ha,ho⟩
 intro X22 yg w22 hp;revert hp;revert yg;intro l3 hp;clear z ho;obtain⟨z,ha,ho⟩:=hp;refine ws λ_ xn=>wr (dm (dm ?_));refine dp (Fa rfl rfl) (dm ?_);refine Fz 209 rfl (λy3=>?_) (λy3=>?_)
 ·iterate 2 refine dm ?_
  refine dp (Fa rfl rfl) (EO (de xn ?_));refine wi (λzg=>?_) λzg=>?_
  ·refine wr (dm (dm (dm (dm (dm ?_)))));refine cD (ih l3 _ ((a+b) / 2) ((a+b) / 2+m-s) b EA ho (by have:=ha.len.1;omega) EA EA (by have:=ha.len.1;omega) (V7 Y Z ha)) (.inl rfl) λu23 w23 y1 xp=>?_;have hsz23:=z.size;have z:=z.own y1 (λi hi J=>hi);obtain⟨rfl,hh,ho,y0⟩:=xp;have hy:=Nu Y Z ha y0;refine EF ((HI (Hi rfl ?_)));exact⟨_,rfl,z,rfl,_,ho,hy⟩
  have hy:=Nu Y Z ha (OE Y Z ha (λh=>absurd h.2 EA));refine EG (HI (Hi rfl ?_));exact⟨_,rfl,z,rfl,_,ho,hy⟩
 have hy:=Nu Y Z ha (OE Y Z ha (λh=>absurd h.1 EA));refine dk (dk (dk (EO (de xn ?_))));refine GB rfl (EG (HI (Hi rfl ?_)));exact⟨_,rfl,z,rfl,_,ho,hy⟩
theorem RD (v:Value)(Bo f:Nat)(c:Fi->Fi->Int)(hcb:GL Tryz.prog f=true)(hc:∀r x y,Calls Tryz.prog f [Fi.v x,Fi.v y].toArray r (Pure r (I (c x y))))(O:Ord (F3 c)):∀N,TH v Bo f c N
 | 0=>λ_ _ _ _ _ h=>absurd h (B3 _)
 | N+1=>λl w a m b hN ho hl Y z hb J=>Yal l v Bo f c w ho hl hcb hc O a m b Y z hb J (λl2 r a2 m2 Z hN2=>RD v Bo f c hcb hc O N l2 r a2 m2 Z EA)
theorem Yam (l:List Fi)(v:Value)(Bo f:Nat)(c:Fi->Fi->Int)(w:World)(ho:Vc.Own Fi.cs 5 62 Bo w v l)(hl:l.length<=10000000)(hcb:GL Tryz.prog f=true)(hc:∀w2 x y,Calls Tryz.prog f [Fi.v x,Fi.v y].toArray w2 (Pure w2 (I (c x y))))(O:Ord (F3 c)) :
  Calls Tryz.prog 246 [v,I ↑l.length,Gy f].toArray w (Fh (λk=>v.ownBlock=some k) w (λu w'=>u=.tuple #[]/\∃l',Vc.Own Fi.cs 5 62 Bo w' v l'/\l'.Perm l/\Up (F3 c) l')):=by
 refine cw Tryz.func246 ?_;have r:=Vc.Mod.refl (λk=>v.ownBlock=some k) w;refine ws λ_ Z1=>wr (da (de Z1 (ws λ_ Z2=>wr (dm (da (da (de Z2 (ws λ_ Z3=>EN ?_))))))));refine Fk (G:=Nat×List Fi) (λ(j,cur)=>[(0,v),(1,I ↑l.length),(2,Gy f),(6,I 20),(7,I ↑(j*20)),(8,I ↑(j*20+20))]) (λ(j,cur) w'=>Mod (λk=>v.ownBlock=some k) w w'/\j*20<=l.length/\I2 (F3 c) 20 j cur/\cur.Perm l/\Vc.Own Fi.cs 5 62 Bo w' v cur) (λ(j,cur)=>l.length-j*20) (0,l) ?_ ?_ ?_
 ·exact FSq
 ·exact⟨r,Ad _,λk hk=>absurd hk (B3 k),.refl _,ho⟩
 intro X1 g1 w1 xd;obtain⟨j,cur⟩:=g1;clear r ho;obtain⟨r,hj,hI,hp,ho⟩:=xd;refine ws λ_ Z4=>ws λ_ Z5=>wr (dm (dm ?_));refine dp (IM rfl rfl) (de Z5 (wi (λc1=>?_) λc1=>?_))
 ·have hf:=hp.length_eq;refine EG (Z4 _ _ (EN (ws λ_ Z6=>wr (dm (dm (dm (dm ?_)))))));refine cD (Sf cur v Bo f c _ ho EA hcb hc O (j*20) (j*20+20) EA EA) (.inl rfl) λu2 w2 x2 xf=>?_;have hsz2:=r.size;have r:=r.own x2 (λi hi hh=>hi);obtain⟨rfl,Z,ho,J⟩:=xf;refine de Z6 (ws λ_ Z7=>wr (EW (v:=I ↑((j+1)*20)) rfl (KA rfl) (by show I _=I _;congr 1;omega) (da (de Z7 (wr (dm (dm ?_)))))));refine EW (v:=I ↑((j+1)*20+20)) rfl (Gx rfl rfl (by unfold ET;omega)) (by show I _=I _;congr 1;omega) (da (EF (?_)));exact⟨(j+1,_),FSq,⟨r,by omega,VG hI (by rw[Ba];exact J),J.perm.trans hp,ho⟩,by simp only [];omega⟩
 have hf:=hp.length_eq;refine Ff (Z3 _ _ (ws λ_ Z8=>wr (dm (dm (dm (dm ?_))))));refine cD (Sf cur v Bo f c _ ho EA hcb hc O (j*20) l.length EA EA) (.inl rfl) λu3 w3 x3 xh=>?_;have hsz3:=r.size;have r:=r.own x3 (λi hi hh=>hi);obtain⟨rfl,Z,ho,J⟩:=xh;refine de Z8 (EN ?_);refine Fk (G:=Nat×List Fi) (λ(s,cur)=>[(0,v),(1,I ↑l.length),(2,Gy f),(6,I ↑s)]) (λ(s,cur) w'=>Mod (λk=>v.ownBlock=some k) w w'/\20<=s/\s<=40+2*l.length/\M2 (F3 c) s 0 cur/\cur.Perm l/\Vc.Own Fi.cs 5 62 Bo w' v cur) (λ(s,cur)=>l.length-s) (20,Z) ?_ ?_ ?_
 ·exact FU
 ·exact⟨r,Aa _,by omega,Us hI EA EA (by rw[hf];exact J),J.perm.trans hp,ho⟩
 intro X4 g4 w4 h8;obtain⟨s,cur⟩:=g4;clear r ho;obtain⟨r,hs,hs2,hM,hp,ho⟩:=h8;refine ws λ_ Z9=>ws λ_ h7=>wr (dm (dm ?_));refine dp (Fa rfl rfl) (de h7 (wi (λc2=>?_) λc2=>?_))
 ·have hf:=hp.length_eq;refine EG (Z9 _ _ (EN (ws λ_ xa=>wr (dm ?_))));refine EW (v:=I ↑(0+2*s)) rfl (Ko rfl rfl (by unfold ET;omega)) (by show I _=I _;congr 1;omega) (da (da (de xa (ws λ_ ht=>EN ?_))));refine Fk (G:=Nat×Nat×List Fi) (λ(j,q,z)=>[(0,v),(1,I ↑l.length),(2,Gy f),(6,I ↑s),(7,I ↑q),(8,I ↑(q+2*s))]) (λ(j,q,z) w'=>Mod (λk=>v.ownBlock=some k) w w'/\q=j*(2*s)/\q<=l.length/\M2 (F3 c) s j z/\z.Perm l/\Vc.Own Fi.cs 5 62 Bo w' v z) (λ(j,q,z)=>l.length-q) (0,0,cur) ?_ ?_ ?_
  ·exact FSq
  ·exact⟨r,by omega,Ad _,hM,hp,ho⟩
  intro X5 g5 w5 xb;obtain⟨j,q,z⟩:=g5;clear r ho;obtain⟨r,hq,hql,ha,hb,ho⟩:=xb;refine ws λ_ hz=>ws λ_ hw=>wr (dm (dm ?_));refine dp (IM rfl rfl) (de hw (wi (λc3=>?_) λc3=>?_))
  ·have hg:=hb.length_eq;have Y:(j+1)*(2*s)=q+2*s:=by rw[hq];exact Ba _ _
   refine EG (hz _ _ (EN (ws λ_ xg=>wr (dm (dm (dm (dm ?_)))))));refine EW (v:=I ↑(q+s)) rfl (Gx rfl rfl (by unfold ET;omega)) rfl (dm (dm ?_));refine cD (RD v Bo f c hcb hc O ((q+2*s)-q+1) z _ q (q+s) (q+2*s) EA ho EA EA EA EA (by have h9:=UG ha (by rw[Y];omega);rw[Y,<-hq]at h9;exact h9)) (.inl rfl) λu6 w6 x6 xc=>?_;have hsz6:=r.size;have r:=r.own x6 (λi hi hh=>hi);obtain⟨rfl,Z,ho,J⟩:=xc;refine de xg (ws λ_ h6=>wr (EW (v:=I ↑(q+2*s)) rfl (KA rfl) (by show I _=I _;rfl) (da (de h6 (wr (dm (dm ?_)))))));refine EW (v:=I ↑(2*s)) rfl (Ko rfl rfl (by unfold ET;omega)) (by show I _=I _;rfl) (EW (v:=I ↑(q+2*s+2*s)) rfl (Gx rfl rfl (by unfold ET;omega)) rfl (da (EF (?_))));exact⟨(j+1,q+2*s,_),FSq,⟨r,Y.symm,by omega,Si ha (by rw[Y,<-hq];exact J),J.perm.trans hb,ho⟩,by simp only [];omega⟩
  have hg:=hb.length_eq;have Y:(j+1)*(2*s)=q+2*s:=by rw[hq];exact Ba _ _
  refine Ff (ht _ _ (ws λ_ hr=>ws λ_ xe=>wr (dm (dm ?_))));refine EW (v:=I ↑(q+s)) rfl (Gx rfl rfl (by unfold ET;omega)) rfl (da (de xe (ws λ_ hy=>wr (dm (dm ?_)))));refine dp (Fa rfl rfl) (de hy (wi (λc4=>?_) λc4=>?_))
  ·refine wr (dm (dm (dm (dm (dm ?_)))));refine cD (RD v Bo f c hcb hc O (l.length-q+1) z _ q (q+s) l.length EA ho EA EA EA EA (by have h9:=VL ha (by rw[Y];omega) (by rw[<-hq];omega);rw[<-hq,hg]at h9;exact h9)) (.inl rfl) λu7 w7 x7 h5=>?_;have hsz7:=r.size;have r:=r.own x7 (λi hi hh=>hi);obtain⟨rfl,Z,ho,J⟩:=h5;refine de hr (wr (dm ?_));refine EW (v:=I ↑(2*s)) rfl (Ko rfl rfl (by unfold ET;omega)) (by show I _=I _;congr 1;omega) (da (EF (?_)));exact⟨(2*s,_),FU,⟨r,by omega,by omega,Pu ha (by rw[Y];omega) (by rw[<-hq];omega) ⟨λ_=>by rw[<-hq,hg];exact J,λh=>absurd h (by rw[<-hq];omega)⟩,J.perm.trans hb,ho⟩,by simp only [];omega⟩
  refine EG (hr _ _ (wr (dm ?_)));refine EW (v:=I ↑(2*s)) rfl (Ko rfl rfl (by unfold ET;omega)) (by show I _=I _;congr 1;omega) (da (EF (?_)));exact⟨(2*s,_),FU,⟨r,by omega,by omega,Pu ha (by rw[Y];omega) (by rw[<-hq];omega) ⟨λh=>absurd h (by rw[<-hq];omega),λ_=>rfl⟩,hb,ho⟩,by simp only [];omega⟩
 have hf:=hp.length_eq;refine Ff (HI (Hi rfl ?_));have hf:=hp.length_eq;exact⟨_,rfl,r,rfl,cur,ho,hp,XA hM EA⟩
theorem Yan (l:List Fi)(v:Value)(Bo f:Nat)(c:Fi->Fi->Int)(w:World)(ho:Vc.Own Fi.cs 5 62 Bo w v l)(hl:l.length<=10000000)(hcb:GL Tryz.prog f=true)(hc:∀w2 x y,Calls Tryz.prog f [Fi.v x,Fi.v y].toArray w2 (Pure w2 (I (c x y))))(O:Ord (F3 c)) :
  Calls Tryz.prog 174 [v,Gy f].toArray w (Fh (λk=>v.ownBlock=some k) w (λu w'=>u=.tuple #[]/\∃l',Vc.Own Fi.cs 5 62 Bo w' v l'/\l'.Perm l/\Up (F3 c) l')):=by
 refine cw Tryz.func174 ?_;have z:=Vc.Mod.refl (λk=>v.ownBlock=some k) w;refine wr (dm (dm ?_));refine dv 62 5 (ho.arr EE).sl (dm ?_);refine cD (Yam l v Bo f c _ ho hl hcb hc O) (.inl rfl) λu1 w1 Y J=>?_;have hsz1:=z.size;have z:=z.own Y (λi hi hlt=>hi);obtain⟨rfl,r,ho,Z,hu⟩:=J;refine EF ((HI (Hi rfl ?_)));exact⟨_,rfl,z,rfl,r,ho,Z,hu⟩
theorem N7 {x y z:EC}(h1:EU y x=false)(h2:EU z y=false):EU z x=false:=by
 cases h:EU z x with
 | false=>rfl
 | true=>
  rcases Jm x y with e|e|e
  ·rw[e,h2]at h;cases h
  ·rw[IZ _ _ _ h e]at h2;cases h2
  ·rw[e]at h1;cases h1
theorem V9 (a b:Int):(GF a b<0)↔a<b:=by
 unfold GF;split
 ·simp [*]
 ·split<;>simp<;>omega
theorem VO (a b:Int):(GF a b=0)↔a=b:=by
 unfold GF;split
 ·simp;omega
 ·split<;>simp<;>omega
theorem X0z (a b:EC):(H4 a b<0)↔EU a b=true:=by
 unfold H4;split
 ·simp [*]
 ·split<;>simp [*]
theorem Qy (a b:Fi):F3 Hg a b=true↔(a.lev<b.lev\/(a.lev=b.lev/\((a.lev=0/\a.id<b.id)\/(a.lev≠0/\EU a.fst b.fst=true)))):=by
 unfold F3 Hg;rw[decide_eq_true_iff]
 by_cases h:a.lev=0/\b.lev=0
 ·rw[if_pos h,V9];simp [h.1,h.2]
 ·rw[if_neg h]
  by_cases h2:GF a.lev b.lev≠0
  ·rw[if_pos h2,V9];have:=mt (VO a.lev b.lev).2 h2
   constructor
   ·exact .inl
   ·rintro (h3|h3)
    ·exact h3
    ·exact absurd h3.1 this
  ·rw[if_neg h2,X0z];have:=(VO a.lev b.lev).1 (AI h2);have h0:a.lev≠0:=λe=>h ⟨e,by rw[<-this];exact e⟩;simp [this,h0,this▸h0]
theorem UJ {a b:Fi} : F3 Hg a b=false↔¬ (a.lev<b.lev\/(a.lev=b.lev/\((a.lev=0/\a.id<b.id)\/(a.lev≠0/\EU a.fst b.fst=true)))):=by
 rw[<-Qy];simp
theorem Ybw : Ord (F3 Hg):=⟨λx y z h1 h2=>(by
 rw[UJ]at *;simp only [not_or,not_and,BY]at *;refine⟨by omega,λe=>⟨λr=>?_,λr=>?_⟩⟩
 ·have e1:z.lev=y.lev:=by omega
  have g1:=(h1.2 EA).1 EA;have g2:=(h2.2 e1).1 EA;omega
 ·have e1:z.lev=y.lev:=by omega
  exact N7 ((h1.2 EA).2 EA) ((h2.2 e1).2 EA)),λx y h=>(by
 rw[Qy]at h;rw[UJ];simp only [not_or,not_and,BY];refine⟨by omega,λe=>⟨λr=>?_,λr=>?_⟩⟩
 ·rcases h with h|⟨_,⟨_,h⟩|⟨h,_⟩⟩<;>omega
 ·rcases h with h|⟨_,⟨h,_⟩|⟨_,h⟩⟩
  ·omega
  ·omega
  ·exact Jp h)⟩
def KF (fs:List Fi)(gone:List Int):Bool:=decide gone.Nodup && gone.all λi=>fs.any λf=>decide (f.id=i)
def Ik (fs:List Fi)(gone:List Int):List Fi:=fs.filter λf=>!decide (f.id∈gone)
def GZ (n:Int)(add:List Fi):Int:=add.foldl (λx f=>max x (f.id+1)) n
def Kl (v:Vs)(gone:List Int)(add:List Fi):Bool:=GI v && KF v.fs gone && add.all λf=>decide (f.id<=1099511627776)
theorem X00 {fs:List Fi}{gone:List Int}{k:Nat}{i:Int}(hk:gone[k]?=some i)(h:i∈(gone.take k).drop 0):KF fs gone=false:=by
 unfold KF;rw[C8];left;rw[decide_eq_false_iff_not];intro hn;rw[Ca]at h;obtain⟨j,r⟩:=List.getElem?_of_mem h;rw[List.getElem?_take]at r;split at r
 ·rename_i z;obtain⟨h1,rfl⟩:=Ao.1 hk;obtain⟨h2,h3⟩:=Ao.1 r;exact List.pairwise_iff_getElem.1 hn j k h2 h1 z h3
 ·cases r
theorem Xxq {fs:List Fi}{gone:List Int}{k:Nat}{i:Int}(hk:gone[k]?=some i)(h:(fs.any λf=>decide (f.id=i))=false):KF fs gone=false:=by
 unfold KF;rw[C8];right;rw[Er];exact⟨i,Ak hk,by rw[h];decide⟩
theorem Xxr {fs:List Fi}{gone:List Int}{k:Nat}{i:Int}(hk:gone[k]?=some i)(h:KF fs (gone.take k)=true)(h1:i∉(gone.take k).drop 0)(h2:(fs.any λf=>decide (f.id=i))=true):KF fs (gone.take (k+1))=true:=by
 unfold KF at *;rw[Bool.and_eq_true,decide_eq_true_iff]at *;rw[Gs hk,List.all_append,h.2];refine⟨List.nodup_append.2 ⟨h.1,by simp,λa z b r e=>h1 ?_⟩,by simp [h2]⟩;rw[Ah.1 r]at e;rw[Ca,<-e];exact z
theorem Tr {fs:List Fi}{gone:List Int}{k:Nat}{f:Fi}(hk:fs[k]?=some f):Ik (fs.take (k+1)) gone=if f.id∈gone then Ik (fs.take k) gone else Ik (fs.take k) gone++[f]:=by
 unfold Ik;rw[Gs hk,List.filter_append]
 by_cases h:f.id∈gone<;>simp [h]
theorem PJ (fs:List Fi)(gone:List Int)(k:Nat):(Ik (fs.take k) gone).length<=fs.length:=by
 have h1:(Ik (fs.take k) gone).length<=(fs.take k).length:=List.length_filter_le _ _;have h2:(fs.take k).length<=fs.length:=List.length_take_le' ..;omega
theorem Xxs {n:Int}{add:List Fi}{k:Nat}{f:Fi}(hk:add[k]?=some f):GZ n (add.take (k+1))=max (GZ n (add.take k)) (f.id+1):=by
 unfold GZ;rw[Gs hk,List.foldl_append];rfl
theorem Po {v:Vs}{gone:List Int}{add:List Fi}(h:GI v=false\/KF v.fs gone=false\/∃f∈add,¬ f.id<=1099511627776):Kl v gone add=false:=by
 unfold Kl;rcases h with h|h|⟨f,hf,h⟩
 ·rw[h];rfl
 ·rw[h];simp
 ·rw[C8];right;rw[Er];exact⟨f,hf,by simpa using h⟩
theorem Rh {v:Vs}{gone:List Int}{add:List Fi}(h1:GI v=true)(h2:KF v.fs gone=true)(h3:∀f∈add,f.id<=1099511627776):Kl v gone add=true:=by
 unfold Kl;rw[h1,h2];simp only [Bool.and_self,Bool.true_and,List.all_eq_true,decide_eq_true_eq];exact h3
theorem X01 (n:Int)(fs:List Fi)(vf:Value)(gone:List Int)(vg:Value)(add:List Fi)(va:Value)(w:World)(hf:EM Fi.cs 5 w vf fs)(hfl:fs.length<=40000)(hid:∀f∈fs,ET f.id)(hg:EM Vc.encI 1 w vg gone)(hgl:gone.length<=40000)(ha:EM Fi.cs 5 w va add)(hal:add.length<=40000)(had:∀f∈add,ET f.id) :
  Calls Tryz.prog 91 [.agg ⟨[I n,vf]⟩,vg,va].toArray w (ER w (λu w'=>(Kl ⟨n,fs⟩ gone add=false/\u=.tuple #[.agg ⟨[I 0,.slice none 0 0]⟩,I 1])\/(Kl ⟨n,fs⟩ gone add=true/\∃fs',fs'.Perm (Ik fs gone++add)/\Up (F3 Hg) fs'/\((GI ⟨GZ n add,fs'⟩=false/\u=.tuple #[.agg ⟨[I 0,.slice none 0 0]⟩,I 1])\/(GI ⟨GZ n add,fs'⟩=true/\∃vx,u=.tuple #[.agg ⟨[I (GZ n add),vx]⟩,I 0]/\Vc.Own Fi.cs 5 62 w.heap.size w' vx fs'))))):=by
 refine cw Tryz.func91 ?_;have r:=EB.refl w;refine ws λ_ Z1=>wr (Gc rfl rfl rfl RX.all (λb1 w1 e1 x1 O=>?_));have g1:=r.ge e1;have r:=r.trans x1;refine FG (cs:=[.int .i64 0,.slice none 0 0]) rfl E9 RX.all (λb2 w2 e2 x2 z=>?_);have g2:=r.ge e2;have n2_1:=O.ltb e2;have O:=O.ext x2;have r:=r.trans x2;refine da (de Z1 (ws λ_ Z2=>ws λ_ Z3=>wr ?_));refine dq (Fb (k:=2) E9 rfl rfl O.row) (cP (PC n fs vf _ (hf.ext r) EA hid) RX.all λw3 x3=>?_);have O:=O.ext x3;have z:=z.ext x3;have r:=r.trans x3;refine dn (de Z3 ?_);refine wc (λc1=>?_) λc1=>?_
 ·refine ws λ_ Z4=>wr (db (zs:=[.int .i64 0,.slice none 0 0]) (pl:=[(0,1),(1,1)]) (pv:=[]) (cs:=[.int .i64 0,.slice none 0 0]) ?_);refine FM z (λw4 x4 xs4 z=>?_);dsimp only [Fe,Ag,Af,Ai]at z;have O:=O.mo x4;have r:=r.o1 x4;refine da (de Z4 (EH ?_));refine IG (u:=?v6) rfl rfl rfl rfl E9 rfl z.row ?h6 ?k6
  case h6=>conv=>lhs;whnf
  exact⟨_,rfl,r,.inl ⟨Po (.inl (by simpa using c1)),rfl⟩⟩
 have hV:GI ⟨n,fs⟩=true:=by simpa using c1
 refine EG (Z2 _ _ (ws λ_ Z5=>wr (df 0 rfl (dl rfl (O.at rfl) (db (zs:=[.int .i64 0,.slice none 0 0]) (pl:=[(0,1),(1,1)]) (pv:=[(0,_)]) (cs:=[_,.slice none 0 0]) ?_)))));refine FG (cs:=[.int .i64 0,.slice none 0 0]) rfl E9 RX.all (λb3 w5 e3 x5 J=>?_);have g3:=r.ge e3;have n3_1:=O.ltb e3;have n3_2:=z.ltb e3;have O:=O.ext x5;have z:=z.ext x5;have r:=r.trans x5;refine FM J (λw6 x6 xs6 J=>?_);dsimp only [Fe,Ag,Af,Ai]at J;have O:=O.mo x6;have z:=z.mo x6;have r:=r.o1 x6;refine de Z5 (ws λ_ Z6=>ws λ_ Z7=>wr (dm ?_));refine dv 3 1 (hg.ext r).sl (dm (de Z7 (EN ?_)));refine Fk (G:=Nat) (λk=>[(1,vg),(2,va),(3,ED b1 0),(6,ED b2 0),(8,ED b3 0),(22,vg),(23,I ↑gone.length),(24,I ↑k)]) (λk w'=>EB w w'/\EL w' b1 [I n,vf] 56/\EL w' b2 [I 0,.slice none 0 0] 56/\EL w' b3 [I n,.slice none 0 0] 56/\k<=gone.length/\KF fs (gone.take k)=true) (λk=>gone.length-k) 0 ?_ ?_ ?_
 ·exact KJ
 ·exact⟨r,O,z,J,Ad _,rfl⟩
 intro X7 g7 w7 xm;revert xm;revert g7;intro k xm;clear r O z J;obtain⟨r,O,z,J,xz,xa⟩:=xm;refine ws λ_ Z8=>wr (dp (Fa rfl rfl) (de Z8 (ws λ_ Z9=>wi (λc2=>?_) λc2=>?_)))
 ·obtain⟨i,hk⟩:∃i,gone[k]?=some i:=Fq;refine EG (Z9 _ _ (ws λ_ yb=>EN (ws λ_ ye=>wr (dm ?_))));refine di 3 1 hg.sl rfl (hg.lt hk) (dl rfl (((hg.ext r).row hk).at0 rfl) (FG (cs:=[.int .i64 0]) rfl E9 RX.all (λb4 w8 e4 x8 m4=>?_)));have g4:=r.ge e4;have n4_1:=O.ltb e4;have n4_2:=z.ltb e4;have n4_3:=J.ltb e4;have O:=O.ext x8;have z:=z.ext x8;have J:=J.ext x8;have r:=r.trans x8;refine da ?_;refine G5 m4 (λw9 x9 xs9 m4=>?_) (hv:=by rfl);dsimp only [Fe,Ag,Af,Ai]at m4;have O:=O.mo x9;have z:=z.mo x9;have J:=J.mo x9;have r:=r.o1 x9;refine de ye (ws λ_ xo=>F4 (R:=EB) EB.refl (λ_ _ _=>EB.trans) E9 [3,7] [(0,.p,false),(1,.p,false),(2,.p,false),(3,.l,false),(4,.x,true),(5,.p,false),(6,.p,false),(7,.l,false),(8,.p,false),(9,.x,false),(10,.p,false),(11,.p,false)] rfl E9 E9 (λw10 xi=>?_));have ht:=EJ xi;clear xi;have O:=O.ext ht;have z:=z.ext ht;have J:=J.ext ht;have m4:=m4.ext ht;have r:=r.trans ht
  iterate 2 refine dm ?_
  refine dp (H8 (e:=3) (k:=1) E9 (hg.ext r).sl rfl rfl rfl EA EA) (dL rfl (λ_ hR=>((m4.ext hR).at rfl)) (cP (TB ((gone.take k).drop 0) (Gz 1 vg 0 k) i _ ((hg.ext r).slice (Ad _) EA) (by rw[Bh,A4];omega)) RX.all λw11 h7=>?_));have O:=O.ext h7;have z:=z.ext h7;have J:=J.ext h7;have m4:=m4.ext h7;have r:=r.trans h7;refine dm ?_;refine I8 34 rfl (λc3=>?_) (λc3=>?_)
  ·refine dk (dk (dk (dk (dk (EO (de xo ?_))))));refine GD rfl (ws λ_ yp=>wr (db (zs:=[.int .i64 0,.slice none 0 0]) (pl:=[(0,1),(1,1)]) (pv:=[]) (cs:=[.int .i64 0,.slice none 0 0]) ?_));refine FM z (λw12 xe xs12 z=>?_);dsimp only [Fe,Ag,Af,Ai]at z;have O:=O.mo xe;have J:=J.mo xe;have m4:=m4.mo xe;have r:=r.o1 xe;refine da (de yp (EH ?_));refine IG (u:=?v21) rfl rfl rfl rfl E9 rfl z.row ?h21 ?k21
   case h21=>conv=>lhs;whnf
   exact⟨_,rfl,r,.inl ⟨Po (.inr (.inl (X00 hk (by simpa using c3)))),rfl⟩⟩
  refine df 1 rfl (dL rfl (λ_ hR=>((O.ext hR).at rfl)) (dp (NR rfl) (cP (X6q fs vf 173 [ED b4 0] (λf=>decide (f.id=i)) _ (hf.ext r) EA E9 (λw2 x2 x _=>X9y x i _ w2 (m4.ext x2))) RX.ext λw13 xc=>?_)));have O:=O.ext xc;have z:=z.ext xc;have J:=J.ext xc;have r:=r.trans xc;refine dn ?_;refine EO (de xo ?_);refine wc (λc4=>?_) λc4=>?_
  ·refine ws λ_ xx=>wr (db (zs:=[.int .i64 0,.slice none 0 0]) (pl:=[(0,1),(1,1)]) (pv:=[]) (cs:=[.int .i64 0,.slice none 0 0]) ?_);refine FM z (λw14 xn xs14 z=>?_);dsimp only [Fe,Ag,Af,Ai]at z;have O:=O.mo xn;have J:=J.mo xn;have r:=r.o1 xn;refine da (de xx (EH ?_));refine IG (u:=?v27) rfl rfl rfl rfl E9 rfl z.row ?h27 ?k27
   case h27=>conv=>lhs;whnf
   exact⟨_,rfl,r,.inl ⟨Po (.inr (.inl (Xxq hk (by simpa using c4)))),rfl⟩⟩
  refine EG (yb _ _ (wr (pa rfl rfl (dm (EF (?_))))));exact⟨k+1,KJ,⟨r,O,z,J,by omega,Xxr hk xa (by simpa using c3) (by simpa using c4)⟩,by omega⟩
 rw[Ax EA]at xa;refine Ff (Z6 _ _ (ws λ_ yg=>ws λ_ x7=>wr (df 1 rfl (dl rfl (O.at rfl) (dv 62 5 (hf.ext r).sl (dm (de x7 (EN ?_))))))));refine Fk (G:=Nat×Value) (λ(k,vb)=>[(1,vg),(2,va),(6,ED b2 0),(8,ED b3 0),(44,vf),(45,I ↑fs.length),(46,I ↑k)]) (λ(k,vb) w'=>EB w w'/\EL w' b1 [I n,vf] 56/\EL w' b2 [I 0,.slice none 0 0] 56/\k<=fs.length/\EL w' b3 [I n,vb] 56/\Vc.Own Fi.cs 5 62 w.heap.size w' vb (Ik (fs.take k) gone)) (λ(k,vb)=>fs.length-k) (0,.slice none 0 0) ?_ ?_ ?_
 ·exact FQ
 ·exact⟨r,O,z,Ad _,J,Vc.Own.nil⟩
 intro X15 yl w15 xu;obtain⟨k,vb⟩:=yl;clear r O z J;obtain⟨r,O,z,xz,J,ho⟩:=xu;refine ws λ_ yk=>wr (dp (Fa rfl rfl) (de yk (ws λ_ yv=>wi (λc5=>?_) λc5=>?_)))
 ·obtain⟨f,hk⟩:∃f,fs[k]?=some f:=Fq;have Z:=PJ fs gone k;refine EG (yv _ _ (ws λ_ xt=>EN (ws λ_ yj=>wr (di 62 5 hf.sl rfl (hf.lt hk) (dq (Fb E9 rfl rfl ((hf.ext r).row hk)) (FG (cs:=[.int .i64 0,.int .i64 0,.int .i64 0,S [],S []]) rfl E9 RX.all (λb5 w16 e5 h8 m5=>?_)))))));have g5:=r.ge e5;have n5_1:=O.ltb e5;have n5_2:=z.ltb e5;have n5_3:=J.ltb e5;have h5:=ho.ltb e5;have O:=O.ext h8;have z:=z.ext h8;have J:=J.ext h8;have ho:=ho.ext h8;have r:=r.trans h8;refine FM m5 (λw17 hr xs17 m5=>?_);dsimp only [Fe,Ag,Af,Ai]at m5;have O:=O.mo hr;have z:=z.mo hr;have J:=J.mo hr;have ho:=ho.mod hr (by intro k hk h;have h1:=h5 k hk;have h2:k=b5:=h;omega);have r:=r.o1 hr;refine de yj (ws λ_ yo=>wr (dm ?_));refine df 0 rfl (dl rfl (m5.at rfl) (cP (TB gone vg f.id _ (hg.ext r) EA) RX.all λw18 hb=>?_));have O:=O.ext hb;have z:=z.ext hb;have J:=J.ext hb;have ho:=ho.ext hb;have m5:=m5.ext hb;have r:=r.trans hb;refine dn (de yo ?_);refine wc (λc6=>?_) λc6=>?_
  ·refine wr (df 1 rfl (dl rfl (J.at rfl) (dq (Fb (k:=5) E9 rfl rfl m5.row) (li (e:=62) (sz:=5) (zs:=[.int .i64 0,.int .i64 0,.int .i64 0,S [],S []]) (pv:=[(0,.agg ⟨[_,_,_,_,_]⟩)]) (cs:=[_,_,_,_,_]) RX.all (λb6 w19 e6 hh m6=>?_)))));have g6:=r.ge e6;have n6_1:=O.ltb e6;have n6_2:=z.ltb e6;have n6_3:=J.ltb e6;have n6_5:=m5.ltb e6;have o6_ho:=ho.ltb e6;have O:=O.ext hh;have z:=z.ext hh;have J:=J.ext hh;have ho:=ho.ext hh;have m5:=m5.ext hh;have r:=r.trans hh;refine Gv (lx:=[f]) (e:=62) (sz:=5) (by':=56) rfl E9 E9 EE ho (m6.arr (enc:=Fi.cs) (sz:=5) (l:=[f]) rfl EE rfl (Ap rfl)) rfl rfl (by intro x _ u hu;simp at hu;rcases hu with rfl|rfl|rfl|rfl|rfl<;>rfl) (by simp;omega) EK r.size (.inl rfl) (λvp w20 hp hj=>?_);have O:=O.mod hj (by intro h;exact ho.ne_blk O rfl h);have z:=z.mod hj (by intro h;exact ho.ne_blk z rfl h);have J:=J.mod hj (by intro h;exact ho.ne_blk J rfl h);have m5:=m5.mod hj (by intro h;have h1:=h5 _ h;omega);have r:=r.own hj (λi hi=>(ho.lt i hi).1);have ho:=hp;have xj:∀k,vp.ownBlock=some k->¬ ES b3 k:=λk hk e=>ho.ne_blk J rfl (hk.trans (congrArg some e));clear m6;refine df 1 rfl (G5 J (λw21 xg xs21 J=>?_) (hv:=by exact FW.one ho.sl));dsimp only [Fe,Ag,Af,Ai]at J;have O:=O.mo xg;have z:=z.mo xg;have ho:=ho.mod xg (by assumption);have r:=r.o1 xg;refine de xt (wr (pa rfl rfl (dm (EF (?_)))));rw[show Ik (fs.take k) gone++[f]=Ik (fs.take (k+1)) gone by rw[Tr hk,if_neg (by simpa using c6)]]at ho;exact⟨(k+1,vp),FQ,⟨r,O,z,by omega,J,ho⟩,by simp only [];omega⟩
  refine EG (xt _ _ (wr (pa rfl rfl (dm (EF (?_))))));rw[show Ik (fs.take k) gone=Ik (fs.take (k+1)) gone by rw[Tr hk,if_pos (by simpa using c6)]]at ho;exact⟨(k+1,vb),FQ,⟨r,O,z,by omega,J,ho⟩,by simp only [];omega⟩
 rw[Ax EA]at ho;refine Ff (yg _ _ (ws λ_ yi=>ws λ_ yx=>wr (dm ?_)));refine dv 62 5 (ha.ext r).sl (dm (de yx (EN ?_)));refine Fk (G:=Nat×Value) (λ(j,vb)=>[(6,ED b2 0),(8,ED b3 0),(62,va),(63,I ↑add.length),(64,I ↑j)]) (λ(j,vb) w'=>EB w w'/\EL w' b1 [I n,vf] 56/\EL w' b2 [I 0,.slice none 0 0] 56/\j<=add.length/\(∀f∈add.take j,f.id<=1099511627776)/\EL w' b3 [I (GZ n (add.take j)),vb] 56/\Vc.Own Fi.cs 5 62 w.heap.size w' vb (Ik fs gone++add.take j)) (λ(j,vb)=>add.length-j) (0,vb) ?_ ?_ ?_
 ·exact FA
 ·exact⟨r,O,z,Ad _,(λf hf=>by cases hf),J,by simpa using ho⟩
 intro X22 yf w22 xp;obtain⟨j,vb⟩:=yf;clear r O z J ho;obtain⟨r,O,z,hj1,hA,J,ho⟩:=xp;refine ws λ_ yw=>wr (dp (Fa rfl rfl) (de yw (ws λ_ yz=>wi (λc7=>?_) λc7=>?_)))
 ·obtain⟨f,hk⟩:∃f,add[j]?=some f:=Fq;have Z:=PJ fs gone fs.length;rw[AK]at Z;have x0:=had f (Ak hk);unfold ET at x0;have xj:∀k,vb.ownBlock=some k->¬ ES b3 k:=λk hk e=>ho.ne_blk J rfl (hk.trans (congrArg some e));refine EG (yz _ _ (ws λ_ yc=>EN (ws λ_ ya=>wr (di 62 5 ha.sl rfl (ha.lt hk) (dq (Fb E9 rfl rfl ((ha.ext r).row hk)) (FG (cs:=[.int .i64 0,.int .i64 0,.int .i64 0,S [],S []]) rfl E9 RX.all (λb7 w23 e7 hz Y=>?_)))))));have g7:=r.ge e7;have n7_1:=O.ltb e7;have n7_2:=z.ltb e7;have n7_3:=J.ltb e7;have hy:=ho.ltb e7;have O:=O.ext hz;have z:=z.ext hz;have J:=J.ext hz;have ho:=ho.ext hz;have r:=r.trans hz;refine FM Y (λw24 hl xs24 Y=>?_);dsimp only [Fe,Ag,Af,Ai]at Y;have O:=O.mo hl;have z:=z.mo hl;have J:=J.mo hl;have ho:=ho.mod hl (by intro k hk h;have h1:=hy k hk;have h2:k=b7:=h;omega);have r:=r.o1 hl;refine de ya (ws λ_ yt=>ws λ_ yh=>wr (df 0 rfl (dl rfl (Y.at rfl) (dp (FY rfl rfl) (de yh (wi (λc8=>?_) λc8=>?_))))))
  ·refine ws λ_ xy=>wr (db (zs:=[.int .i64 0,.slice none 0 0]) (pl:=[(0,1),(1,1)]) (pv:=[]) (cs:=[.int .i64 0,.slice none 0 0]) ?_);refine FM z (λw25 xb xs25 z=>?_);dsimp only [Fe,Ag,Af,Ai]at z;have O:=O.mo xb;have J:=J.mo xb;have Y:=Y.mo xb;have r:=r.o1 xb;refine da (de xy (EH ?_));refine IG (u:=?v43) rfl rfl rfl rfl E9 rfl z.row ?h43 ?k43
   case h43=>conv=>lhs;whnf
   exact⟨_,rfl,r,.inl ⟨Po (.inr (.inr ⟨f,Ak hk,by omega⟩)),rfl⟩⟩
  refine EG (yt _ _ (ws λ_ yq=>wr (df 0 rfl (dl rfl (J.at rfl) (df 0 rfl (dl rfl (Y.at rfl) (pa rfl rfl (dp (Q4 rfl rfl) (df 0 rfl (G5 J (λw26 hw xs26 J=>?_) (hv:=by rfl)))))))))));dsimp only [Fe,Ag,Af,Ai]at J;have O:=O.mo hw;have z:=z.mo hw;have ho:=ho.mod hw (by assumption);have Y:=Y.mo hw;have r:=r.o1 hw;refine de yq (wr (df 1 rfl (dl rfl (J.at rfl) (dq (Fb (k:=5) E9 rfl rfl Y.row) (li (e:=62) (sz:=5) (zs:=[.int .i64 0,.int .i64 0,.int .i64 0,S [],S []]) (pv:=[(0,.agg ⟨[_,_,_,_,_]⟩)]) (cs:=[_,_,_,_,_]) RX.all (λb8 w27 e8 hc m8=>?_))))));have g8:=r.ge e8;have n8_1:=O.ltb e8;have n8_2:=z.ltb e8;have n8_3:=J.ltb e8;have n8_7:=Y.ltb e8;have o8_ho:=ho.ltb e8;have O:=O.ext hc;have z:=z.ext hc;have J:=J.ext hc;have ho:=ho.ext hc;have Y:=Y.ext hc;have r:=r.trans hc;refine Gv (lx:=[f]) (e:=62) (sz:=5) (by':=56) rfl E9 E9 EE ho (m8.arr (enc:=Fi.cs) (sz:=5) (l:=[f]) rfl EE rfl (Ap rfl)) rfl rfl (by intro x _ u hu;simp at hu;rcases hu with rfl|rfl|rfl|rfl|rfl<;>rfl) (by simp;omega) EK r.size (.inl rfl) (λvp w28 hp h9=>?_);have O:=O.mod h9 (by intro h;exact ho.ne_blk O rfl h);have z:=z.mod h9 (by intro h;exact ho.ne_blk z rfl h);have J:=J.mod h9 (by intro h;exact ho.ne_blk J rfl h);have Y:=Y.mod h9 (by intro h;have h1:=hy _ h;omega);have r:=r.own h9 (λi hi=>(ho.lt i hi).1);have ho:=hp;have xj:∀k,vp.ownBlock=some k->¬ ES b3 k:=λk hk e=>ho.ne_blk J rfl (hk.trans (congrArg some e));clear m8;refine df 1 rfl (G5 J (λw29 xh xs29 J=>?_) (hv:=by exact FW.one ho.sl));dsimp only [Fe,Ag,Af,Ai]at J;have O:=O.mo xh;have z:=z.mo xh;have ho:=ho.mod xh (by assumption);have r:=r.o1 xh;refine de yc (wr (pa rfl rfl (dm (EF (?_)))));rw[<-Xxs hk]at J;rw[List.append_assoc,<-Gs hk]at ho;exact⟨(j+1,vp),FA,⟨r,O,z,by omega,λq hq=>(by rw[Gs hk]at hq;rcases Ay.1 hq with h|h;exact hA q h;rw[Ah.1 h];omega),J,ho⟩,by simp only [];omega⟩
 have hne2:∀k,vb.ownBlock=some k->¬ ES b2 k:=λk hk e=>ho.ne_blk z rfl (hk.trans (congrArg some e));have Z:=PJ fs gone fs.length;rw[AK]at Z;rw[Ax EA]at ho J hA;refine Ff (yi _ _ (ws λ_ ym=>wr (df 1 rfl (dl rfl (J.at rfl) (cD (Yan _ vb w.heap.size 175 Hg _ ho (by simp;omega) E9 (λw2 x y=>PP x y w2) Ybw) (.inl rfl) λu30 w30 xl xr=>?_)))));have hsz30:=r.size;have z:=z.mod xl (λe=>ho.ne_blk z rfl e);have J:=J.mod xl (λe=>ho.ne_blk J rfl e);have r:=r.own xl (λi hi=>(ho.lt i hi).1);obtain⟨rfl,l2,ho,xf,xv⟩:=xr;have xw:=xf.length_eq;rw[Ab]at xw;refine de ym (ws λ_ yr=>ws λ_ yd=>wr (dq (Fb (k:=2) E9 rfl rfl J.row) (cP (PC (GZ n add) l2 vb _ (ho.arr EE) EA (λf yy=>(Ay.1 (xf.mem_iff.1 yy)).elim (λh=>hid f (Az.1 h).1) (had f))) RX.all λw31 xd=>?_)));have z:=z.ext xd;have J:=J.ext xd;have ho:=ho.ext xd;have r:=r.trans xd;refine dn (de yd ?_);refine wc (λc9=>?_) λc9=>?_
 ·refine ws λ_ yn=>wr (db (zs:=[.int .i64 0,.slice none 0 0]) (pl:=[(0,1),(1,1)]) (pv:=[]) (cs:=[.int .i64 0,.slice none 0 0]) ?_);refine FM z (λw32 xk xs32 z=>?_);dsimp only [Fe,Ag,Af,Ai]at z;have J:=J.mo xk;have ho:=ho.mod xk (by assumption);have r:=r.o1 xk;refine da (de yn (EH ?_));refine IG (u:=?v52) rfl rfl rfl rfl E9 rfl z.row ?h52 ?k52
  case h52=>conv=>lhs;whnf
  exact⟨_,rfl,r,.inr ⟨Rh hV xa hA,l2,xf,xv,.inl ⟨by simpa using c9,rfl⟩⟩⟩
 refine EG (yr _ _ (ws λ_ yu=>wr (dq (Fb (k:=2) E9 rfl rfl J.row) (FM z (λw33 xq xs33 z=>?_) (h1:=by(intro u hu;rcases Aj.1 hu with e|hu;subst e;rfl;rw[Ah.1 hu];exact ho.sl.one))))));dsimp only [Fe,Ag,Af,Ai]at z;have ho:=ho.mod xq (by assumption);have r:=r.o1 xq;refine da (de yu (EH ?_));refine IG (u:=?v55) rfl rfl rfl rfl E9 rfl z.row ?h55 ?k55
 case h55=>conv=>lhs;whnf
 exact⟨_,rfl,r,.inr ⟨Rh hV xa hA,l2,xf,xv,.inr ⟨by simpa using c9,vb,rfl,ho⟩⟩⟩
end Go.Proofs.YtiooodckiddpmaaGreatDoor
namespace Go.Sp
open Go.Vc (EC)
def IP (l:List Cell):Prop:=∀c∈l,∀d∈l,c.key=d.key->c.seq=d.seq->c=d
def Jl (l:List Cell)(c:Cell):Prop:=c∈l/\∀d∈l,d.key=c.key->d.seq<=c.seq
theorem QM (k:EC):∀l:List Cell,(∀c∈l,c.key≠k)\/∃c,Jl l c/\c.key=k
 | []=>.inl λc z=>by cases z
 | a :: r=>by
  by_cases e:a.key=k
  ·right;rcases QM k r with h|⟨c,h,hk⟩
   ·refine⟨a,⟨Al,λd hd he=>?_⟩,e⟩;rcases Aj.1 hd with rfl|hd
    ·exact BX _
    ·exact absurd (he.trans e) (h d hd)
   ·by_cases hs:a.seq<=c.seq
    ·refine⟨c,⟨Am _ h.1,λd hd he=>?_⟩,hk⟩;rcases Aj.1 hd with rfl|hd
     ·exact hs
     ·exact h.2 d hd he
    ·refine⟨a,⟨Al,λd hd he=>?_⟩,e⟩;rcases Aj.1 hd with rfl|hd
     ·exact BX _
     ·have:=h.2 d hd (he.trans (e.trans hk.symm));omega
  ·rcases QM k r with h|⟨c,h,hk⟩
   ·left;intro c z;rcases Aj.1 z with rfl|z
    ·exact e
    ·exact h c z
   ·right;refine⟨c,⟨Am _ h.1,λd hd he=>?_⟩,hk⟩;rcases Aj.1 hd with rfl|hd
    ·exact absurd (he.trans hk) e
    ·exact h.2 d hd he
theorem SD {α:Type}{lt:α->α->Bool}(hi:∀x,lt x x=false)(ha:∀x y,lt x y=true->lt y x=false):∀l m:List α,(l.Pairwise λx y=>lt x y=true)->(m.Pairwise λx y=>lt x y=true)->(∀x,x∈l↔x∈m)->l=m
 | [],[],_,_,_=>rfl
 | [],b :: m,_,_,h=>by have:=(h b).2 Al;cases this
 | a :: l,[],_,_,h=>by have:=(h a).1 Al;cases this
 | a :: l,b :: m,hl,hm,h=>by
  rw[AO]at hl hm;have e:a=b:=by
   rcases Aj.1 ((h a).1 Al)with e|h1
   ·exact e
   ·rcases Aj.1 ((h b).2 Al)with e|h2
    ·exact e.symm
    ·have:=ha _ _ (hm.1 a h1);rw[hl.1 b h2]at this;cases this
  subst e
  congr 1
  refine SD hi ha l m hl.2 hm.2 λx=>⟨λr=>?_,λr=>?_⟩
  ·rcases Aj.1 ((h x).1 (Am _ r))with rfl|h1
   ·have:=hl.1 x r;rw[hi]at this;cases this
   ·exact h1
  ·rcases Aj.1 ((h x).2 (Am _ r))with rfl|h1
   ·have:=hm.1 x r;rw[hi]at this;cases this
   ·exact h1
def JG (a b:Cell):Bool:=decide (a.key=b.key)
def Mg (l m:List Cell):Prop:=∃l':List Cell,l'.Perm l/\Up EZ l'/\m=Jk JG l'
theorem X02 {x p:Cell}(h:EZ x p=false)(hk:¬ x.key=p.key):EU p.key x.key=true:=by
 rcases Jm x.key p.key with e|e|e
 ·exact absurd e hk
 ·have:EZ x p=true:=(IT x p).2 (.inl e);rw[this]at h;cases h
 ·exact e
theorem Vk {x p:Cell}(h:EZ x p=false)(hk:x.key=p.key):x.seq<=p.seq:=by
 refine Int.not_lt.1 λr=>?_;have:EZ x p=true:=(IT x p).2 (.inr ⟨hk,r⟩);rw[this]at h;cases h
theorem WB : ∀(r:List Cell) (p:Cell),Up EZ (p :: r)->IP (p :: r)->(I3 (IQ JG p r)/\(∀c∈IQ JG p r,EU p.key c.key=true))/\∀c,c∈IQ JG p r↔(c.key≠p.key/\Jl r c)
 | [],p,_,_=>⟨⟨Bp,λc z=>(by cases z)⟩,λc=>⟨λz=>(by cases z),λz=>(by cases z.2.1)⟩⟩
 | x :: r,p,hu,hq=>by
  have Z:Up EZ (x :: r):=(AO.1 hu).2;have ha:=(AO.1 hu).1 x Al;obtain⟨⟨i1,i2⟩,i3⟩:=WB r x Z (λc z d hd=>hq c (Am _ z) d (Am _ hd));have J:∀c:Cell,c.key≠x.key->(Jl (x :: r) c↔Jl r c):=λc z=>by
   constructor
   ·rintro ⟨h1,h2⟩;rcases Aj.1 h1 with rfl|h1
    ·exact absurd rfl z
    ·exact⟨h1,λd hd=>h2 d (Am _ hd)⟩
   ·rintro ⟨h1,h2⟩;refine⟨Am _ h1,λd hd he=>?_⟩;rcases Aj.1 hd with rfl|hd
    ·exact absurd he.symm z
    ·exact h2 d hd he
  unfold IQ
  by_cases e:x.key=p.key
  ·rw[if_pos (show JG x p=true by simpa [JG]using e)];refine⟨⟨i1,λc z=>e▸i2 c z⟩,λc=>?_⟩;rw[i3 c,<-e]
   constructor
   ·rintro ⟨h1,h2⟩;exact⟨h1,(J c h1).2 h2⟩
   ·rintro ⟨h1,h2⟩;exact⟨h1,(J c h1).1 h2⟩
  ·rw[if_neg (show¬ JG x p=true by simpa [JG]using e)];have O:=X02 ha e;refine⟨⟨AO.2 ⟨i2,i1⟩,λc z=>?_⟩,λc=>?_⟩
   ·rcases Aj.1 z with rfl|z
    ·exact O
    ·exact IZ _ _ _ O (i2 c z)
   ·have Y:Jl (x :: r) x:=⟨Al,λd hd he=>by
     rcases Aj.1 hd with rfl|hd
     ·exact BX _
     ·exact Vk ((AO.1 Z).1 d hd) he⟩
    constructor
    ·intro z;rcases Aj.1 z with rfl|z
     ·exact⟨e,Y⟩
     ·have h1:=(i3 c).1 z;exact⟨λe2=>(by have:=IZ _ _ _ O (i2 c z);rw[e2,HZ]at this;cases this),(J c h1.1).2 h1.2⟩
    ·rintro ⟨h1,h2⟩
     by_cases e2:c.key=x.key
     ·have:c=x:=hq c (Am _ h2.1) x (Am _ Al) e2 (by
       have g1:=h2.2 x Al e2.symm;have g2:=Y.2 c h2.1 e2;omega)
      rw[this];exact Al
     ·exact Am _ ((i3 c).2 ⟨e2,(J c e2).1 h2⟩)
theorem O0 {l m:List Cell}(hq:IP l)(h:Mg l m):I3 m/\∀c,c∈m↔Jl l c:=by
 obtain⟨l',J,hu,rfl⟩:=h;have ht:∀c,Jl l c↔Jl l' c:=λc=>by
  unfold Jl
  constructor
  ·rintro ⟨h1,h2⟩;exact⟨J.mem_iff.2 h1,λd hd=>h2 d (J.mem_iff.1 hd)⟩
  ·rintro ⟨h1,h2⟩;exact⟨J.mem_iff.1 h1,λd hd=>h2 d (J.mem_iff.2 hd)⟩
 have Y:IP l':=λc z d hd=>hq c (J.mem_iff.1 z) d (J.mem_iff.1 hd)
 suffices hs:I3 (Jk JG l')/\∀c,c∈Jk JG l'↔Jl l' c from⟨hs.1,λc=>(hs.2 c).trans (ht c).symm⟩
 clear ht J hq
 cases l' with
 | nil=>exact⟨Bp,λc=>⟨λz=>(by cases z),λz=>(by cases z.1)⟩⟩
 | cons x r=>
  obtain⟨⟨i1,i2⟩,Z⟩:=WB r x hu Y;refine⟨AO.2 ⟨i2,i1⟩,λc=>?_⟩;have O:Jl (x :: r) x:=⟨Al,λd hd he=>by
   rcases Aj.1 hd with rfl|hd
   ·exact BX _
   ·exact Vk ((AO.1 hu).1 d hd) he⟩
  unfold Jk
  constructor
  ·intro z;rcases Aj.1 z with rfl|z
   ·exact O
   ·have h1:=(Z c).1 z;refine⟨Am _ h1.2.1,λd hd he=>?_⟩;rcases Aj.1 hd with rfl|hd
    ·exact absurd he.symm h1.1
    ·exact h1.2.2 d hd he
  ·intro h2
   by_cases e2:c.key=x.key
   ·have:c=x:=Y c h2.1 x Al e2 (by
     have g1:=h2.2 x Al e2.symm;have g2:=O.2 c h2.1 e2;omega)
    rw[this];exact Al
   ·refine Am _ ((Z c).2 ⟨e2,?_⟩);rcases Aj.1 h2.1 with rfl|h1
    ·exact absurd rfl e2
    ·exact⟨h1,λd hd=>h2.2 d (Am _ hd)⟩
def Told (l:List Cell)(M:List Rw):Prop:=(M.Pairwise λa b=>EU a.key b.key=true)/\∀r,r∈M↔∃c,Jl l c/\c.del=false/\r=⟨c.key,c.val,false⟩
theorem X61 {l:List Cell}{M M':List Rw}(h:Told l M)(h':Told l M'):M=M':=
 SD (lt:=λa b:Rw=>EU a.key b.key) (λx=>HZ _) (λx y=>Jp) M M' h.1 h'.1 λr=>(h.2 r).trans (h'.2 r).symm
def HT (m:List Cell):List Rw:=(m.filter λc=>!c.del).map λc=>⟨c.key,c.val,false⟩
theorem X62 {l m:List Cell}(hq:IP l)(h:Mg l m):Told l (HT m):=by
 obtain⟨h1,h2⟩:=O0 hq h;refine⟨?_,λr=>?_⟩
 ·unfold HT;rw[List.pairwise_map];exact E7 (λh=>h) (C9 _ h1)
 ·unfold HT;simp only [List.mem_map,Az,Bool.not_eq_true']
  constructor
  ·rintro ⟨c,⟨hc,hd⟩,rfl⟩;exact⟨c,(h2 c).1 hc,hd,rfl⟩
  ·rintro ⟨c,hc,hd,rfl⟩;exact⟨c,⟨(h2 c).2 hc,hd⟩,rfl⟩
theorem Ot {l l':List Cell}{M:List Rw}(h:Told l M)(hs:∀c∈l',c∈l)(hk:∀c,Jl l c->c∈l'\/(c.del=true/\∀d∈l',d.key≠c.key)):Told l' M:=by
 refine⟨h.1,λr=>?_⟩;rw[h.2 r]
 constructor
 ·rintro ⟨c,hc,hd,rfl⟩;rcases hk c hc with h1|⟨h1,_⟩
  ·exact⟨c,⟨h1,λd hd he=>hc.2 d (hs d hd) he⟩,hd,rfl⟩
  ·rw[h1]at hd;cases hd
 ·rintro ⟨c,hc,hd,rfl⟩;rcases QM c.key l with h1|⟨t,ht,htk⟩
  ·exact absurd rfl (h1 c (hs c hc.1))
  ·rcases hk t ht with h2|⟨_,h2⟩
   ·refine⟨c,⟨hs c hc.1,λd hd he=>?_⟩,hd,rfl⟩;have g1:=ht.2 d hd (he.trans htk.symm);have g2:=hc.2 t h2 htk;omega
   ·exact absurd htk.symm (h2 c hc.1)
def Gg (M:List Rw)(c:Cell):List Rw:=(M.filter λr=>EU r.key c.key)++((if c.del then[]else[⟨c.key,c.val,false⟩])++M.filter λr=>EU c.key r.key)
theorem Xxt {l:List Cell}{M:List Rw}{c:Cell}(h:Told l M)(hn:∀d∈l,d.key=c.key->d.seq<c.seq):Told (c :: l) (Gg M c):=by
 have J:∀d:Cell,Jl (c :: l) d↔(d=c\/(d.key≠c.key/\Jl l d)):=λd=>by
  constructor
  ·rintro ⟨h1,h2⟩;rcases Aj.1 h1 with rfl|h1
   ·exact .inl rfl
   ·refine .inr ⟨λe=>?_,h1,λx z=>h2 x (Am _ z)⟩;have g1:=h2 c Al e.symm;have g2:=hn d h1 e;omega
  ·rintro (rfl|⟨h1,h2⟩)
   ·refine⟨Al,λx z he=>?_⟩;rcases Aj.1 z with rfl|z
    ·exact BX _
    ·have:=hn x z he;omega
   ·refine⟨Am _ h2.1,λx z he=>?_⟩;rcases Aj.1 z with rfl|z
    ·exact absurd he.symm h1
    ·exact h2.2 x z he
 refine⟨?_,λr=>?_⟩
 ·unfold Gg;refine Bs.2 ⟨C9 _ h.1,Bs.2 ⟨?_,C9 _ h.1,λx z y O=>?_⟩,λx z y O=>?_⟩
  ·split
   ·exact Bp
   ·exact List.pairwise_singleton _ _
  ·split at z
   ·cases z
   ·rw[Ah.1 z];exact(Az.1 O).2
  ·have Y:=(Az.1 z).2;rcases Ay.1 O with O|O
   ·split at O
    ·cases O
    ·rw[Ah.1 O];exact Y
   ·exact IZ _ _ _ Y (Az.1 O).2
 ·have Z:r∈Gg M c↔((r∈M/\r.key≠c.key)\/(c.del=false/\r=⟨c.key,c.val,false⟩)):=by
   unfold Gg;simp only [Ay,Az]
   constructor
   ·rintro (⟨h1,h2⟩|h1|⟨h1,h2⟩)
    ·exact .inl ⟨h1,Ms h2⟩
    ·split at h1
     ·cases h1
     ·rename_i h9;exact .inr ⟨by simpa using h9,Ah.1 h1⟩
    ·exact .inl ⟨h1,(Ms h2).symm⟩
   ·rintro (⟨h1,h2⟩|⟨h1,rfl⟩)
    ·rcases Jm r.key c.key with e|e|e
     ·exact absurd e h2
     ·exact .inl ⟨h1,e⟩
     ·exact .inr (.inr ⟨h1,e⟩)
    ·right;left;rw[if_neg (by rw[h1];decide)];exact Ah.2 rfl
  rw[Z,h.2 r]
  constructor
  ·rintro (⟨⟨d,hd,h1,rfl⟩,h2⟩|⟨h1,rfl⟩)
   ·exact⟨d,(J d).2 (.inr ⟨h2,hd⟩),h1,rfl⟩
   ·exact⟨c,(J c).2 (.inl rfl),h1,rfl⟩
  ·rintro ⟨d,hd,h1,rfl⟩;rcases(J d).1 hd with rfl|⟨h2,h3⟩
   ·exact .inr ⟨h1,rfl⟩
   ·exact .inl ⟨⟨d,h3,h1,rfl⟩,h2⟩
theorem Q9 {l l':List Cell}{M:List Rw}(h:Told l M)(he:∀c,c∈l↔c∈l'):Told l' M:=
 Ot h (λc r=>(he c).2 r) λc r=>.inl ((he c).1 r.1)
theorem T6 : ∀(cs:List Cell) {l:List Cell} {M:List Rw},Told l M->I3 cs->(∀d∈l,∀c∈cs,d.key=c.key->d.seq<c.seq)->Told (cs++l) (cs.foldl Gg M)
 | [],l,M,h,_,_=>h
 | c :: cs,l,M,h,hk,hn=>by
  rw[I3,AO]at hk;have h1:=Xxt (c:=c) h (λd hd=>hn d hd c Al);have h2:=T6 cs h1 hk.2 λd hd x r he=>by
   rcases Aj.1 hd with rfl|hd
   ·have:=hk.1 x r;rw[he,HZ]at this;cases this
   ·exact hn d hd x (Am _ r) he
  refine Q9 h2 λx=>?_;simp only [Ay,Aj]
  constructor
  ·rintro (h|h|h)
   ·exact .inl (.inr h)
   ·exact .inl (.inl h)
   ·exact .inr h
  ·rintro ((h|h)|h)
   ·exact .inr (.inl h)
   ·exact .inl h
   ·exact .inr (.inr h)
end Go.Sp
namespace Go.Vc
open Go.RowKit
section
variable {α:Type}{enc:α->List Value}{sz T B:Nat}{w:World}
variable {P:Program}{n:Nat}{E:Fg}{ds:List (Option Tmp)}{R:World->World->Prop}{rs:List (Oper×Fl×Bool)}{K:Fg->World->Prop}{d:Nat}{pos:String}{af:Array Edge}{g:Option (Nat×Bool)}{anc:Bool}{ty:TypeId}
theorem Xxu {s x:Operand}{t ti e by' m:Nat}(henc:∀x,(enc x).length=sz)(hg:FB ds E g=true)(ht:IK P t=some (e,sz))(hE:MZ P e sz by'=true)(hti:H3 P ti=some .i64)
  (hs:ev E s=.slice none 0 0) (hx:ev E x=I ↑m) (hm:0<m) (hbytes:m*by'<=140737488355328) (hby:1<=by') (hB:B<=w.heap.size) (hR:RX R anc)
  (h:∀v' w',FW v' m->Own enc sz e B w' (Gz sz v' 0 0) []->EB w w'->Dw P n ds R rs K (FJ E d v') w') :
  Dw P n ds R ((⟨some d,.call { callee:=.builtin .append,args:=#[s,x],argTypes:=#[t,ti] },ty,pos,af,g⟩,.x,anc) :: rs) K E w:=by
 obtain⟨hu,_⟩:=Kf ht;obtain⟨i,z,hi,hz,J,r,hc,hj⟩:=Pw hE;have O:P.underlying ti=some (.int .i64):=by
  unfold H3 at hti;split at hti
  ·rename_i k hk;cases hti;exact hk
  ·cases hti
 have hml:m<=140737488355328:=by have:=Nat.mul_le_mul_left m hby;omega
 have hb:IntKind.i64.wrap (m:Int)=m:=KT (by unfold ET;omega);have h0:¬ ((m:Int)<0):=by omega
 have ha:¬ (281474976710656<(m:Int)*(i.bytes:Int)):=by
  rw[r];have:((m*by':Nat):Int)<=140737488355328:=by omega
  rw[Int.natCast_mul]at this;omega
 have hn:m≠0:=by omega
 have hp:¬ (9223372036854775807<(m:Int)):=by omega
 have hh:¬ (281474976710656<Builtin.nextslicecap m 0*i.bytes):=by rw[nextslicecap_zero hm,r];omega
 have hl:¬ m*i.size=0:=by rw[J];exact Nat.ne_of_gt (Nat.mul_pos hm hj)
 have Z:¬ i.size=0:=by omega
 have hf:grownCap w m 0 e<=maxLen:=grownCap_le_maxLen w m 0 e (by unfold maxLen;omega);have hq:=grownCap_ge w m 0 e;have hr:(Builtin.append_ #[t,ti] ty #[.slice none 0 0,I ↑m]).run P w=.ok (.slice (some ⟨w.heap.size,0,none⟩) m (grownCap w m 0 e)) (w.drew.alloc (.cells (Builtin.zeroCells z.cells m++Builtin.zeroCells z.cells (grownCap w m 0 e-m)) e)):=by
  simp [Builtin.append_,run_underlying hu,run_underlying O,sizeOf,typeInfo,zeroValue,hi,hz,hn,hp,hh,Question.forced,run_firstCells_none,newRow,grownCap,asInt,asIntOf,hb,h0,ha,hl,Z]
 have Y:EB w (w.drew.alloc (.cells (Builtin.zeroCells z.cells m++Builtin.zeroCells z.cells (grownCap w m 0 e-m)) e)):=EB.trans (EB.drew _) (EB.alloc _ _);refine HL (v:=.slice (some ⟨w.heap.size,0,none⟩) m (grownCap w m 0 e)) (w':=_) hg ?_ (hR.use Y) (h _ _ (.inr (.inl ⟨_,_,_,rfl,hq⟩)) ?_ Y)
 ·simp only [execOp,resolve,invoke,builtin,Sem.run_bind,Sem.run_pure,Result.andThen_ok,List.map_toArray,List.map_cons,List.map_nil,hs,hx,hr]
 ·refine⟨by simp,.inr ⟨w.heap.size,grownCap w m 0 e,Builtin.zeroCells z.cells m++Builtin.zeroCells z.cells (grownCap w m 0 e-m),?_,hB,?_,Ad _,hf,?_,by simp⟩⟩
  ·simp [Gz,Addr.add]
  ·exact heap_alloc_new w.drew _
  ·simp only [Array.size_append,size_zeroCells,hc,<-Nat.add_mul]
   congr 1;omega
end
end Go.Vc
namespace Go.Proofs.YtiooodckiddpmaaGreatDoor
open Go.Vc Go.Sp
attribute [local irreducible] W XW Dw Gm
def IV (a b:Cell):Int:=if EZ a b=true then -1 else if EZ b a=true then 1 else 0
theorem T5 : F3 IV=EZ:=by
 funext a b
 unfold F3 IV
 cases h:EZ a b with
 | true=>simp
 | false=>
  cases h2:EZ b a with
  | true=>simp
  | false=>simp
theorem X03 : Ord EZ:=⟨λx y z h1 h2=>(by
 cases h:EZ z x with
 | false=>rfl
 | true=>
  cases h3:EZ x y with
  | true=>rw[MI h h3]at h2;cases h2
  | false=>
   have r:=PL h1 h3;have:=IT z x;rw[h]at this;have h4:EZ z y=true:=(IT z y).2 (by
    rcases this.1 rfl with e|⟨e1,e2⟩
    ·exact .inl (by rw[r.1];exact e)
    ·exact .inr ⟨e1.trans r.1.symm,by omega⟩)
   rw[h4]at h2;cases h2),λx y h=>Xs5 h⟩
theorem X63 : Ord (F3 IV):=T5▸X03
@[reducible] def IR (q:Value×List Cell):List Value:=[q.1]
theorem V0 {qs:List (Value×List Cell)}{k:Nat}{q:Value×List Cell}(h:qs[k]?=some q):(qs.take (k+1)).flatMap (·.2)=(qs.take k).flatMap (·.2)++q.2:=by
 obtain⟨hk,rfl⟩:=Ao.1 h;rw[List.take_succ_eq_append_getElem hk,Bb];simp
theorem R0 (qs:List (Value×List Cell))(k:Nat):((qs.take k).flatMap (·.2)).length<=(qs.flatMap (·.2)).length:=by
 have h:=congrArg (λm=>(m.flatMap (·.2)).length) (List.take_append_drop k qs);simp only [Bb,Ab]at h;omega
theorem Vt {l cur:List Cell}{k i n:Nat}(hc:cur.length=l.length)(he:∀j,n<=j+1->cur[j]?=l[j]?)(hi:n<=k+i+1):((cur.take l.length).drop k)[i]?=l[k+i]?:=by
 rw[<-hc,AK,List.getElem?_drop,he _ hi]
theorem Ybx (a b:Cell)(w:World) :
  Calls Tryz.prog 98 [a.v,b.v].toArray w (Pure w (I (IV a b))):=by
 refine cw Tryz.func98 ?_;have r:=EB.refl w;refine ws λ_ Z1=>wr (Gc rfl rfl rfl RX.all (λb1 w1 e1 x1 z=>?_));have g1:=r.ge e1;have r:=r.trans x1;refine Gc rfl rfl rfl RX.all (λb2 w2 e2 x2 O=>?_);have g2:=r.ge e2;have n2_1:=z.ltb e2;have z:=z.ext x2;have r:=r.trans x2;refine da (de Z1 (ws λ_ Z2=>EN (ws λ_ Z3=>wr ?_)));refine dq (Fb (k:=4) E9 rfl rfl z.row) (dq (Fb (k:=4) E9 rfl rfl O.row) (cP (MS a b _) RX.all λw3 Z=>?_));have z:=z.ext Z;have O:=O.ext Z;have r:=r.trans Z;refine da (de Z3 ?_);refine wc (λJ=>?_) λJ=>?_
 ·refine ws λ_ Z4=>wr (da (de Z4 (EH ?_)));refine ro ?_;refine⟨?_,r⟩;unfold IV;rw[if_pos J]
 refine ws λ_ Z5=>wr (dq (Fb (k:=4) E9 rfl rfl O.row) (dq (Fb (k:=4) E9 rfl rfl z.row) (cP (MS b a _) RX.all λw4 x4=>?_)));have r:=r.trans x4;refine da (de Z5 ?_);refine wc (λY=>?_) λY=>?_
 ·refine ws λ_ Z6=>wr (da (de Z6 (EH ?_)));refine ro ?_;refine⟨?_,r⟩;unfold IV;rw[if_neg (by rw[J];decide),if_pos Y]
 refine EG (Z2 _ _ (ws λ_ Z7=>wr (da (de Z7 (EH ?_)))));refine ro ?_;refine⟨?_,r⟩;unfold IV;rw[if_neg (by rw[J];decide),if_neg (by rw[Y];decide)]
theorem Yby (a b:Cell)(w:World) :
  Calls Tryz.prog 101 [a.v,b.v].toArray w (Pure w (B (JG a b))):=by
 refine cw Tryz.func101 ?_;have r:=EB.refl w;refine ws λ_ Z1=>wr (Gc rfl rfl rfl RX.all (λb1 w1 e1 Y z=>?_));have g1:=r.ge e1;have r:=r.trans Y;refine Gc rfl rfl rfl RX.all (λb2 w2 e2 J Z=>?_);have g2:=r.ge e2;have n2_1:=z.ltb e2;have z:=z.ext J;have r:=r.trans J;refine da (de Z1 (ws λ_ O=>wr ?_));refine df 0 rfl (dl rfl (z.at rfl) (df 0 rfl (dl rfl (Z.at rfl) (dp (Mh rfl rfl) (da (de O (EH ?_)))))));refine ro ?_;exact⟨rfl,r⟩
theorem X64 (n:Nat)(w:World)(hn:n<=10000000) :
  Calls Tryz.prog 179 [.slice none 0 0,I ↑n].toArray w (ER w (λu w'=>Vc.Own Cell.cs 4 79 w.heap.size w' u [])):=by
 refine cw Tryz.func179 ?_;have r:=EB.refl w;refine ws λ_ Z1=>wr (da (de Z1 (ws λ_ Z2=>ws λ_ Z3=>wr (dm ?_))));refine dp (Fa rfl rfl) (de Z3 (wi (λZ=>?_) λZ=>?_))
 ·omega
 refine EG (Z2 _ _ (ws λ_ J=>ws λ_ Z5=>wr (dm (dm ?_))));refine dp (Uv (e:=79) (k:=4) E9 rfl) (dm ?_);refine dp (Q6 (e:=79) (k:=4) (n:=0) E9 (.inl ⟨rfl,rfl⟩) rfl) (EW (v:=I 0) rfl (Ga (a:=0) (b:=0) rfl rfl (by unfold ET;omega)) rfl (EW (v:=I ↑n) rfl (Ga rfl rfl (by unfold ET;omega)) (by show I _=I _;rfl) (da (de Z5 (ws λ_ O=>wr (dm ?_))))));refine dp (FY rfl rfl) (de O (wi (λc2=>?_) λc2=>?_))
 ·refine wr (dm (dm ?_));refine dp (Uv (e:=79) (k:=4) E9 rfl) (EW (v:=.slice none 0 0) rfl (H8 (e:=79) (k:=4) (m:=0) (a:=0) (b:=0) E9 (.inl ⟨rfl,rfl⟩) rfl rfl rfl (Aa 0) (Aa 0)) rfl (dm ?_));refine Xxu (enc:=Cell.cs) (sz:=4) (e:=79) (m:=n) (by':=48) (B:=w.heap.size) EE rfl E9 E9 E9 rfl rfl EA EA EK r.size RX.all (λva w1 z ho Y=>?_);have r:=r.trans Y;refine dm ?_;refine dp (Q6 (e:=79) (k:=4) (n:=0) E9 (.inl ⟨rfl,rfl⟩) rfl) (dp (H8 (e:=79) (k:=4) (a:=0) (b:=0) E9 z rfl rfl rfl (Aa 0) (Ad _)) (da (de J (ws λ_ Z7=>wr (dm (da (de Z7 (EH ?_))))))));refine ro ?_;exact⟨_,rfl,r,ho⟩
 refine EG (J _ _ (ws λ_ Z8=>wr (dm (da (de Z8 (EH ?_))))));refine ro ?_;exact⟨_,rfl,r,Vc.Own.nil⟩
theorem Xxx (qs:List (Value×List Cell))(v:Value)(w:World)(hv:EM IR 1 w v qs)(hq:∀q∈qs,EM Cell.cs 4 w q.1 q.2)(hl:qs.length<=1000000)(htot:(qs.flatMap (·.2)).length<=10000000) :
  Calls Tryz.prog 96 [v].toArray w (ER w (λu w'=>Vc.Own Cell.cs 4 79 w.heap.size w' u (qs.flatMap (·.2)))):=by
 refine cw Tryz.func96 ?_;have r:=EB.refl w;refine ws λ_ Z1=>wr (da (de Z1 (ws λ_ Z2=>wr (da (de Z2 (ws λ_ Z3=>ws λ_ Z4=>wr (dm ?_)))))));refine dv 95 1 (hv.ext r).sl (dm (de Z4 (EN ?_)));refine Fk (G:=Nat) (λk=>[(0,v),(2,.slice none 0 0),(3,I ↑((qs.take k).flatMap (·.2)).length),(9,v),(10,I ↑qs.length),(11,I ↑k)]) (λk w'=>EB w w'/\k<=qs.length) (λk=>qs.length-k) 0 ?_ ?_ ?_
 ·exact FSq
 ·exact⟨r,Ad _⟩
 intro X1 g1 w1 Y;revert Y;revert g1;intro k Y;clear r;obtain⟨r,hk1⟩:=Y;refine ws λ_ Z5=>wr (dp (Fa rfl rfl) (de Z5 (ws λ_ Z6=>wi (λc1=>?_) λc1=>?_)))
 ·obtain⟨q,hk⟩:∃q,qs[k]?=some q:=Fq;have O:=hq q (Ak hk);have J:=V0 hk;have hr:=R0 qs (k+1);have z:=congrArg A7 J;rw[Ab]at z;refine EG (Z6 _ _ (ws λ_ Z7=>EN (ws λ_ Z8=>wr (di 95 1 hv.sl rfl (hv.lt hk) (dl rfl (((hv.ext r).row hk).at0 rfl) (da (de Z8 (ws λ_ Z9=>wr (dm (dm ?_))))))))));refine dv 79 4 O.sl (EW (v:=I ↑((qs.take (k+1)).flatMap (·.2)).length) rfl (Gx rfl rfl (by unfold ET;omega)) (by show I _=I _;congr 1;omega) (da (de Z9 (ws λ_ hz=>wr (dm ?_)))));refine dp (Fa rfl rfl) (de hz (wi (λc2=>?_) λc2=>?_))
  ·omega
  refine EG (Z7 _ _ (wr (pa rfl rfl (dm (EF (?_))))));exact⟨k+1,FSq,⟨r,by omega⟩,by omega⟩
 refine Ff (Z3 _ _ (ws λ_ hj=>wr (dm ?_)));refine cG (X64 ((qs.take k).flatMap (·.2)).length _ (Nat.le_trans (R0 qs k) htot)) RX.all λvg w2 x2 hb=>?_;have ha:=r.size;have r:=r.trans x2;have ho:=hb.mono ha;refine da (de hj (ws λ_ hf=>ws λ_ ht=>wr (dm ?_)));refine dv 95 1 (hv.ext r).sl (dm (de ht (EN ?_)));refine Fk (G:=Nat×Value) (λ(j,vb)=>[(2,.slice none 0 0),(6,vb),(25,v),(26,I ↑qs.length),(27,I ↑j)]) (λ(j,vb) w'=>EB w w'/\j<=qs.length/\Vc.Own Cell.cs 4 79 w.heap.size w' vb ((qs.take j).flatMap (·.2))) (λ(j,vb)=>qs.length-j) (0,vg) ?_ ?_ ?_
 ·exact FA
 ·exact⟨r,Ad _,by simpa using ho⟩
 intro X3 g3 w3 hh;obtain⟨j,vb⟩:=g3;clear r ho;obtain⟨r,hj1,ho⟩:=hh;refine ws λ_ hg=>wr (dp (Fa rfl rfl) (de hg (ws λ_ hw=>wi (λc3=>?_) λc3=>?_)))
 ·obtain⟨q,hk⟩:∃q,qs[j]?=some q:=Fq;have O:=hq q (Ak hk);have J:=V0 hk;have hr:=R0 qs (j+1);have z:=congrArg A7 J;rw[Ab]at z;refine EG (hw _ _ (ws λ_ hy=>EN (ws λ_ hc=>wr (di 95 1 hv.sl rfl (hv.lt hk) (dl rfl (((hv.ext r).row hk).at0 rfl) (da (de hc (wr (dm (dm ?_))))))))));refine Gv (lx:=q.2) (e:=79) (sz:=4) (by':=48) rfl E9 E9 EE ho ((O.ext r)) rfl rfl (by intro x _ u hu;simp at hu;rcases hu with rfl|rfl|rfl|rfl<;>rfl) EA EK r.size (.inl rfl) (λvp w4 Z x4=>?_);have r:=r.own x4 (λi hi=>(ho.lt i hi).1);have ho:=Z;refine da (de hy (wr ?_));refine pa rfl rfl (dm (EF (?_)));rw[<-J]at ho;exact⟨(j+1,vp),FA,⟨r,by omega,ho⟩,by simp only [];omega⟩
 refine Ff (hf _ _ (ws λ_ hp=>wr (dm (da (de hp (EH ?_))))));refine ro ?_;rw[Ax EA]at ho;exact⟨_,rfl,r,ho⟩
theorem X65 (l:List Cell)(v:Value)(Bo f:Nat)(p:Cell->Cell->Bool)(w:World)(ho:Vc.Own Cell.cs 4 79 Bo w v l)(hl:l.length<=10000000)(hcb:GL Tryz.prog f=true)(hc:∀w2 x y,Calls Tryz.prog f [Cell.v x,Cell.v y].toArray w2 (Pure w2 (B (p x y)))) :
  Calls Tryz.prog 100 [v,Gy f].toArray w (Fh (λk=>v.ownBlock=some k) w (λu w'=>Vc.Own Cell.cs 4 79 Bo w' u (Jk p l)/\u.ownBlock=v.ownBlock)):=by
 refine cw Tryz.func100 ?_;have r:=Vc.Mod.refl (λk=>v.ownBlock=some k) w;have O:=ho.sl;refine ws λ_ Z1=>wr (da (de Z1 (ws λ_ Z2=>ws λ_ Z3=>wr (dm ?_))));refine dv 79 4 (ho.arr EE).sl (dp (Fa rfl rfl) (de Z3 (wi (λc1=>?_) λc1=>?_)))
 ·refine ws λ_ Z4=>wr (dm (da (de Z4 (EH ?_))));refine ro ?_;exact⟨_,rfl,r,by rw[Xp5 EA];exact ho,rfl⟩
 refine EG (Z2 _ _ (ws λ_ Z5=>ws λ_ Z6=>wr (da (de Z6 (EN ?_)))));refine Fk (G:=Nat) (λk=>[(0,v),(1,Gy f),(5,I ↑k)]) (λk w'=>Mod (λk=>v.ownBlock=some k) w w'/\1<=k/\k<=l.length/\Jk p (l.take k)=l.take k/\Vc.Own Cell.cs 4 79 Bo w' v l) (λk=>l.length-k) 1 ?_ ?_ ?_
 ·exact Hj
 ·exact⟨r,Aa _,by omega,XD p l,ho⟩
 intro X1 g1 w1 hb;revert hb;revert g1;intro k hb;clear r ho;obtain⟨r,hk1,hkl,ha,ho⟩:=hb;refine ws λ_ Z7=>ws λ_ Z8=>wr (dm (dm ?_));refine dv 79 4 (ho.arr EE).sl (dp (Fa rfl rfl) (de Z8 (wi (λc2=>?_) λc2=>?_)))
 ·obtain⟨x,hxk⟩:∃x,l[k]?=some x:=Fq;obtain⟨y,hyk⟩:∃x,l[k-1]?=some x:=Fq;refine EG (Z7 _ _ (ws λ_ Z9=>EN (ws λ_ h8=>F4 (R:=EB) EB.refl (λ_ _ _=>EB.trans) E9 [4,9] [(0,.p,false),(1,.p,false),(2,.p,false),(3,.p,false),(4,.l,false),(5,.p,false),(6,.p,false),(7,.p,false),(8,.p,false),(9,.l,false),(10,.x,true)] rfl E9 E9 (λw2 hg=>?_))));have x2:=EJ hg;clear hg;have ho:=ho.ext x2;have r:=r.ext x2
  iterate 3 refine dm ?_
  refine di 79 4 (ho.arr EE).sl rfl ((ho.arr EE).lt hxk) (FK rfl (λw' hR=>Fb E9 rfl rfl (((ho.arr EE).ext hR).row hxk)) (dm (dm ?_)));refine EW (v:=I ↑(k-1)) rfl (Ga rfl rfl (by unfold ET;omega)) (by show I _=I _;congr 1;omega) (di 79 4 (ho.arr EE).sl rfl ((ho.arr EE).lt hyk) (FK rfl (λw' hR=>Fb E9 rfl rfl (((ho.arr EE).ext hR).row hyk)) (KP (vs:=[x.v,y.v]) rfl rfl hcb (hc _ x y) rfl RX.all (λw3 x3=>?_))));have ho:=ho.ext x3;have r:=r.ext x3;refine de h8 (wc (λc3=>?_) λc3=>?_)
  ·refine ws λ_ xa=>wr (dm (dm ?_));refine dp (H8 (e:=79) (k:=4) (m:=l.length) (a:=k) (b:=l.length) E9 O rfl rfl rfl EA EA) (da (de xa (ws λ_ hw=>ws λ_ h7=>wr (da (de h7 (EN ?_))))));refine Fk (G:=Nat×Nat×List Cell) (λ(i,k2,cur)=>[(0,v),(1,Gy f),(5,I ↑k2),(6,Gz 4 v k l.length),(7,I ↑i)]) (λ(i,k2,cur) w'=>Mod (λk=>v.ownBlock=some k) w w'/\1<=i/\JU p l (k+i) k2 cur/\Vc.Own Cell.cs 4 79 Bo w' v cur) (λ(i,k2,cur)=>l.length-(k+i)) (1,k,l) ?_ ?_ ?_
   ·exact FA
   ·exact⟨r,Aa _,Yae EA ha hxk hyk c3,ho⟩
   intro X4 g4 w4 h9;obtain⟨i,k2,cur⟩:=g4;clear r ho;obtain⟨r,hi1,hr,ho⟩:=h9;have Y:=hr.1;have hr2:=hr.2.1;have hr3:=hr.2.2.1;have hlen9:((cur.take l.length).drop k).length=l.length-k:=by rw[Bh,A4];omega
   refine ws λ_ hy=>ws λ_ xc=>wr (dm (dm ?_));refine dv 79 4 ((ho.arr EE).slice (lo:=k) (hi:=l.length) EA EA).sl (dp (Fa rfl rfl) (de xc (wi (λc4=>?_) λc4=>?_)))
   ·obtain⟨x,hxl⟩:∃x,l[k+i]?=some x:=Fq;obtain⟨y,hyl⟩:∃x,l[k+i-1]?=some x:=Fq;have Z:((cur.take l.length).drop k)[i]?=some x:=(Vt Y hr.2.2.2.2 EA).trans hxl;have hf:((cur.take l.length).drop k)[i-1]?=some y:=(Vt Y hr.2.2.2.2 EA).trans (by rw[<-hyl];congr 1;omega);have hp:=JP ho (λe=>by rw[e]at Y;simp at Y;omega);refine EG (hy _ _ (ws λ_ hh=>EN (ws λ_ ht=>F4 (R:=EB) EB.refl (λ_ _ _=>EB.trans) E9 [4,9] [(0,.p,false),(1,.p,false),(2,.p,false),(3,.p,false),(4,.l,false),(5,.p,false),(6,.p,false),(7,.p,false),(8,.p,false),(9,.l,false),(10,.x,true),(11,.p,false)] rfl E9 E9 (λw5 hj=>?_))));have x5:=EJ hj;clear hj;have ho:=ho.ext x5;have r:=r.ext x5
    iterate 3 refine dm ?_
    refine di 79 4 ((ho.arr EE).slice (lo:=k) (hi:=l.length) EA EA).sl rfl (((ho.arr EE).slice (lo:=k) (hi:=l.length) EA EA).lt Z) (FK rfl (λw' hR=>Fb E9 rfl rfl ((((ho.arr EE).slice (lo:=k) (hi:=l.length) EA EA).ext hR).row Z)) (dm (dm ?_)));refine EW (v:=I ↑(i-1)) rfl (Ga rfl rfl (by unfold ET;omega)) (by show I _=I _;congr 1;omega) (di 79 4 ((ho.arr EE).slice (lo:=k) (hi:=l.length) EA EA).sl rfl (((ho.arr EE).slice (lo:=k) (hi:=l.length) EA EA).lt hf) (FK rfl (λw' hR=>Fb E9 rfl rfl ((((ho.arr EE).slice (lo:=k) (hi:=l.length) EA EA).ext hR).row hf)) (KP (vs:=[x.v,y.v]) rfl rfl hcb (hc _ x y) rfl RX.all (λw6 x6=>?_))));have ho:=ho.ext x6;have r:=r.ext x6;refine dn (de ht ?_);refine wc (λc5=>?_) λc5=>?_
    ·refine ws λ_ xb=>wr (dm (dm (dm (dm ?_))));refine di 79 4 ((ho.arr EE).slice (lo:=k) (hi:=l.length) EA EA).sl rfl (((ho.arr EE).slice (lo:=k) (hi:=l.length) EA EA).lt Z) (dq (Fb E9 rfl rfl (((ho.arr EE).slice (lo:=k) (hi:=l.length) EA EA).row Z)) (EW (v:=ED (base v).1 (k2*4+0)) rfl (HM (i:=k2) (e:=79) (k:=4) E9 ho.sl rfl rfl EA) (by rw[hp];show ED _ (0+_)=_;rw[A9];rfl) ?_));refine H5 (enc:=Cell.cs) (sz:=4) (l:=cur) (i:=k2) (j:=0) (x:=x) (vs:=x.cs) EE rfl ho rfl rfl rfl E9 EA rfl (Aa 4) (by intro v hv;simp at hv;rcases hv with rfl|rfl|rfl|rfl<;>rfl) (.inl rfl) (λw7 x7 xs7 J=>?_);have r:=r.own x7 (λi hi xd=>hi);have ho:=J;refine de xb (wr (dm ?_));refine pa rfl rfl (da (de hh (wr (dm ?_))));refine pa rfl rfl (da (EF (?_)));exact⟨(i+1,k2+1,_),FA,⟨r,by omega,Xse hr hxl hyl (by simpa using c5),ho⟩,by simp only [];omega⟩
    refine EG (hh _ _ (wr (dm ?_)));refine pa rfl rfl (da (EF (?_)));exact⟨(i+1,k2,cur),FA,⟨r,by omega,Xxl hr hxl hyl (by simpa using c5),ho⟩,by simp only [];omega⟩
   refine Ff (hw _ _ (ws λ_ h5=>wr (dm (dm ?_))));refine dp (H8 (e:=79) (k:=4) (m:=cur.length) (a:=k2) (b:=cur.length) E9 ho.sl rfl rfl rfl EA EA) ?_;refine VX (enc:=Cell.cs) (sz:=4) (e:=79) (l:=cur) (k:=k2) (zs:=[S [],S [],B false,.int .i64 0]) EE rfl E9 E9 rfl EK (by intro z hz;simp at hz;rcases hz with rfl|rfl|rfl|rfl<;>rfl) ho rfl EA (.inl rfl) (λw8 x8 xs8 J=>?_);have r:=r.own x8 (λi hi xd=>hi);have ho:=J;refine de h5 (ws λ_ hq=>wr (dm (dm ?_)));refine dp (H8 (e:=79) (k:=4) (m:=l.length) (a:=0) (b:=k2) E9 O rfl rfl rfl EA EA) (da (de hq (EH ?_)));refine ro ?_;rw[hr.2.2.2.1,Ax EA]at ho;exact⟨_,rfl,r,ho,Xn8 O⟩
  refine EG (Z9 _ _ (wr (dm ?_)));refine pa rfl rfl (da (EF (?_)));exact⟨k+1,Hj,⟨r,by omega,by omega,by rw[Pj EA hxk hyk,if_neg (by rw[c3];decide),ha,List.take_add_one,hxk];rfl,ho⟩,by omega⟩
 refine Ff (Z5 _ _ (ws λ_ h6=>wr (dm (da (de h6 (EH ?_))))));refine ro ?_;rw[Ax EA]at ha;exact⟨_,rfl,r,by rw[ha];exact ho,rfl⟩
theorem Qj (qs:List (Value×List Cell))(v:Value)(w:World)(hv:EM IR 1 w v qs)(hq:∀q∈qs,EM Cell.cs 4 w q.1 q.2)(hl:qs.length<=1000000)(htot:(qs.flatMap (·.2)).length<=10000000) :
  Calls Tryz.prog 45 [v].toArray w (ER w (λu w'=>∃m,Mg (qs.flatMap (·.2)) m/\Vc.Own Cell.cs 4 79 w.heap.size w' u m)):=by
 refine cw Tryz.func45 ?_;have r:=EB.refl w;refine ws λ_ Z1=>wr (da (de Z1 (ws λ_ Z2=>wr (dm ?_))));refine cG (Xxx qs v _ (hv.ext r) (λq h=>(hq q h).ext r) hl htot) RX.all λvb w1 x1 Z=>?_;have z:=r.size;have r:=r.trans x1;have ho:=Z.mono z;refine da (de Z2 (ws λ_ Z3=>wr (dm ?_)));refine cD (Yaj _ vb w.heap.size 98 IV _ ho htot E9 (λY x y=>Ybx x y Y) X63) (.inl rfl) λu2 Y x2 ha=>?_;have hsz2:=r.size;have r:=r.own x2 (λi hi=>(ho.lt i hi).1);obtain⟨rfl,l2,ho,O,J⟩:=ha;rw[T5]at J;refine de Z3 (ws λ_ Z4=>wr (dm ?_));refine cD (X65 l2 vb w.heap.size 101 JG _ ho (by have:=O.length_eq;omega) E9 (λY x y=>Yby x y Y)) (.inl rfl) λvr w3 x3 hb=>?_;have hsz3:=r.size;have r:=r.own x3 (λi hi=>(ho.lt i hi).1);obtain⟨ho,_⟩:=hb;refine da (de Z4 (EH ?_));refine ro ?_;exact⟨_,rfl,r,_,⟨l2,O,J,rfl⟩,ho⟩
end Go.Proofs.YtiooodckiddpmaaGreatDoor
