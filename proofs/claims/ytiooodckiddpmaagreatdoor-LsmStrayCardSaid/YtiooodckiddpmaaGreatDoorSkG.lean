/-
 A part of the proof: StB ChA SpTell VcGr MgA MkA KeA OpA.
-/
import Derived.Test.YtiooodckiddpmaaGreatDoorSkA
import Derived.Test.YtiooodckiddpmaaGreatDoorChecked
import Derived.KernelRfl
import Derived.Test.YtiooodckiddpmaaGreatDoorSkF
import Derived.Test.YtiooodckiddpmaaGreatDoorSkD
import Derived.Test.YtiooodckiddpmaaGreatDoorSkE
import Derived.Test.YtiooodckiddpmaaGreatDoorSkB
import Derived.Lib.ItoaLen
open List renaming length_append->Aa,take->Ad,set->Af,drop->Ag,mem_singleton->Ah,mem_cons->Aj,mem_of_getElem?->Ak,mem_cons_self->Al,mem_cons_of_mem->Am,map_cons->An,length_map->Ao,getElem?_eq_some_iff->Ap,getElem?_eq_getElem->Ar,mem_append->Aw,replicate->Ax,take_of_length_le->Ay,mem_filter->A3,length_take->A5,length->AC,length_set->AF,map_append->AH,take_length->AI,getElem?_of_mem->AM,pairwise_cons->AQ,flatMap_append->AU,length_drop->Bh,pairwise_append->Bs,foldl_append->B4,getElem?_set_self->BB,getD_eq_getElem?_getD->BR,drop_zero->Ch,not_mem_nil->Ct,all_eq_false->Es
open Nat renaming le_refl->Ab,zero_le->Ae,le_trans->Ai,le_of_ble_eq_true->Av,lt_of_lt_of_le->Az,zero_add->A9,succ_mul->AZ,min_eq_left->Bg,not_lt_zero->B6,add_sub_cancel->BS
open Decidable renaming of_not_not->AK,byContradiction->AP
open List.Pairwise renaming nil->Bp,filter->CB,imp->E9
open Int renaming le_refl->BQ
open Bool renaming not_eq_true->Cf,and_eq_false_iff->C8
set_option maxRecDepth 100000
set_option maxHeartbeats 4000000
set_option linter.unusedVariables false
set_option linter.unusedSimpArgs false
namespace Go.Proofs.YtiooodckiddpmaaGreatDoor
open Go.Vc Go.Sp
attribute [local irreducible] W XW Dw Gs
theorem Vb (l:List Fi)(v:Value)(Bo f:Nat)(c:Fi->Fi->Int)(w:World)(ho:Vc.Own Fi.cs 5 62 Bo w v l)(hl:l.length<=10000000)(hcb:GM Tryz.prog f=true)(hc:∀w2 x y,Calls Tryz.prog f [Fi.v x,Fi.v y].toArray w2 (Pure w2 (I (c x y))))(O:Ord (Fz c))(a b:Nat)(hab:a<=b)(hb:b<=l.length) :
  Calls Tryz.prog 302 [v,I ↑a,I ↑b,G8 f].toArray w (Ff (λk=>v.ownBlock=some k) w (λu w'=>u=.tuple #[]/\∃l',Vc.Own Fi.cs 5 62 Bo w' v l'/\GA (Fz c) a b l l')):=by
 refine cw Tryz.func302 ?_;have J:=Vc.Mod.refl (λk=>v.ownBlock=some k) w;refine ws λ_ Z1=>wr (dm ?_);refine pa rfl rfl (da (de Z1 (EM ?_)));refine Fq (G:=Nat×List Fi) (λ(i,cur)=>[(0,v),(1,I ↑a),(2,I ↑b),(3,G8 f),(8,I ↑i)]) (λ(i,cur) w'=>Mod (λk=>v.ownBlock=some k) w w'/\a+1<=i/\GA (Fz c) a (min i b) l cur/\Vc.Own Fi.cs 5 62 Bo w' v cur) (λ(i,cur)=>b-i) (a+1,l) ?_ ?_ ?_
 ·exact FN
 ·exact⟨J,Ab _,GA.one l EB EB EB,ho⟩
 intro X1 g1 w1 ht;obtain⟨i,cur⟩:=g1;clear J ho;obtain⟨J,hi1,hs,ho⟩:=ht;refine ws λ_ Z2=>ws λ_ Z3=>wr (dm (dm ?_));refine dp (Fb rfl rfl) (de Z3 (wi (λc1=>?_) λc1=>?_))
 ·have hq:GA (Fz c) a i l cur:=by rw[Bg EB]at hs;exact hs
  refine EI (Z2 _ _ (ws λ_ Z4=>EM (ws λ_ Z5=>wr (dm (da (de Z5 (EM ?_)))))));refine Fq (G:=Nat×List Fi) (λ(j,r)=>[(0,v),(1,I ↑a),(2,I ↑b),(3,G8 f),(8,I ↑i),(9,I ↑j)]) (λ(j,r) w'=>Mod (λk=>v.ownBlock=some k) w w'/\Jb (Fz c) a i j l r/\Vc.Own Fi.cs 5 62 Bo w' v r) (λ(j,r)=>j) (i,cur) ?_ ?_ ?_
  ·exact G2
  ·exact⟨J,XB hq EB,ho⟩
  intro X2 g2 w2 hr;obtain⟨j,r⟩:=g2;clear J ho;obtain⟨J,hj,ho⟩:=hr;refine ws λ_ Z6=>ws λ_ Z7=>F9 (R:=ED) ED.refl (λ_ _ _=>ED.trans) EA [8,13] [(0,.p,false),(1,.p,false),(2,.p,false),(3,.p,false),(4,.p,false),(5,.p,false),(6,.p,false),(7,.p,false),(8,.l,false),(9,.p,false),(10,.p,false),(11,.p,false),(12,.p,false),(13,.l,false),(14,.x,true),(15,.p,false),(16,.p,false)] rfl EA EA (λw3 hg=>?_);have x3:=EL hg;clear hg;have ho:=ho.ext x3;have J:=J.ext x3
  iterate 2 refine dm ?_
  refine dp (Gg rfl rfl) (dm ?_);refine F4 21 rfl (λc2=>?_) (λc2=>?_)
  ·have hp:=hj.len;obtain⟨x,hxj⟩:∃x,r[j]?=some x:=Fw;obtain⟨z,hzj⟩:∃x,r[j-1]?=some x:=Fw;have hf:=Kh ho (λe=>by rw[e]at hxj;simp at hxj)
   iterate 3 refine dm ?_
   refine di 62 5 (ho.arr EF).sl rfl ((ho.arr EF).lt hxj) (FW rfl (λw' hR=>Fe EA rfl rfl (((ho.arr EF).ext hR).row hxj)) (dm (dm ?_)));refine EW (v:=I ↑(j-1)) rfl (Gr rfl rfl (by unfold EU;omega)) (by show I _=I _;congr 1;omega) (di 62 5 (ho.arr EF).sl rfl ((ho.arr EF).lt hzj) (FW rfl (λw' hR=>Fe EA rfl rfl (((ho.arr EF).ext hR).row hzj)) (KZ (vs:=[x.v,z.v]) rfl rfl hcb (hc _ x z) rfl RX.all (λw4 x4=>?_))));have ho:=ho.ext x4;have J:=J.ext x4;refine dp (Fb rfl rfl) (EP (de Z7 ?_));refine wi (λc3=>?_) λc3=>?_
   ·have ha:Fz c x z=true:=by simpa [Fz]using c3
    refine EI (Z6 _ _ (ws λ_ Z8=>EM (F9 (R:=ED) ED.refl (λ_ _ _=>ED.trans) EA [9,13] [(0,.p,false),(1,.p,false),(2,.p,false),(3,.p,false),(4,.p,false),(5,.p,false),(6,.p,false),(7,.p,false),(8,.p,false),(9,.l,false),(10,.p,false),(11,.p,false),(12,.p,false),(13,.l,false),(14,.p,false),(15,.x,true),(16,.p,false),(17,.x,true)] rfl EA EA (λw5 hh=>?_))));have x5:=EL hh;clear hh;have ho:=ho.ext x5;have J:=J.ext x5
    iterate 4 refine dm ?_
    refine EW (v:=I ↑(j-1)) rfl (Gr rfl rfl (by unfold EU;omega)) (by show I _=I _;congr 1;omega) (dm (dm ?_));refine EW (v:=I ↑(j-1)) rfl (Gr rfl rfl (by unfold EU;omega)) (by show I _=I _;congr 1;omega) (di 62 5 (ho.arr EF).sl rfl ((ho.arr EF).lt hzj) (FW rfl (λw' hR=>Fe EA rfl rfl (((ho.arr EF).ext hR).row hzj)) (dm (dm ?_))));refine di 62 5 (ho.arr EF).sl rfl ((ho.arr EF).lt hxj) (FW rfl (λw' hR=>Fe EA rfl rfl (((ho.arr EF).ext hR).row hxj)) (EW (v:=EE (base v).1 (j*5+0)) rfl (HY (i:=j) (e:=62) (k:=5) EA ho.sl rfl rfl (by omega)) (by rw[hf];show EE _ (0+_)=_;rw[A9];rfl) ?_));refine HJ (enc:=Fi.cs) (sz:=5) (l:=r) (i:=j) (j:=0) (x:=z) (vs:=z.cs) EF rfl ho rfl rfl rfl EA (by omega) rfl (Ab 5) (by intro v hv;simp at hv;rcases hv with rfl|rfl|rfl|rfl|rfl<;>rfl) (.inl rfl) (λw6 x6 xs6 Y=>?_);have J:=J.own x6 (λi hi ha=>hi);have ho:=Y;refine EW (v:=EE (base v).1 ((j-1)*5+0)) rfl (HY (i:=(j-1)) (e:=62) (k:=5) EA ho.sl rfl rfl (by rw[AF];omega)) (by rw[hf];show EE _ (0+_)=_;rw[A9];rfl) ?_;refine HJ (enc:=Fi.cs) (sz:=5) (l:=(r.set j z)) (i:=(j-1)) (j:=0) (x:=x) (vs:=x.cs) EF rfl ho rfl rfl rfl EA (by rw[AF];omega) rfl (Ab 5) (by intro v hv;simp at hv;rcases hv with rfl|rfl|rfl|rfl|rfl<;>rfl) (.inl rfl) (λw7 x7 xs7 Y=>?_);have J:=J.own x7 (λi hi ha=>hi);have ho:=Y;refine de Z8 (wr (dm ?_));refine EW (v:=I ↑(j-1)) rfl (Gr rfl rfl (by unfold EU;omega)) (by show I _=I _;congr 1;omega) (da (EH (?_)));exact⟨(j-1,_),G2,⟨J,U4 hj EB hxj hzj ha,ho⟩,by simp only [];omega⟩
   have Z:GA (Fz c) a (i+1) l r:=PM O hj (.inr ⟨x,z,hxj,hzj,by simpa [Fz]using c3⟩);refine Fk (Z4 _ _ (wr (dm ?_)));refine pa rfl rfl (da (EH (?_)));exact⟨(i+1,r),FN,⟨J,by omega,by rw[Bg EB];exact Z,ho⟩,by simp only [];omega⟩
  have hp:=hj.len;have Z:GA (Fz c) a (i+1) l r:=PM O hj (.inl EB)
  iterate 12 refine dk ?_
  refine EP (de Z7 ?_);refine Hf rfl (Fk (Z4 _ _ (wr (dm ?_))));refine pa rfl rfl (da (EH (?_)));exact⟨(i+1,r),FN,⟨J,by omega,by rw[Bg EB];exact Z,ho⟩,by simp only [];omega⟩
 refine Fk (HH (Hh rfl ?_));rw[Nat.min_eq_right EB]at hs;exact⟨_,rfl,J,rfl,cur,ho,hs⟩
theorem RF (l:List Fi)(v:Value)(Bo f:Nat)(w:World)(ho:Vc.Own Fi.cs 5 62 Bo w v l)(hl:l.length<=10000000)(a b n:Nat)(h1:a+n<=b)(h2:b+n<=l.length) :
  Calls Tryz.prog 337 [v,I ↑a,I ↑b,I ↑n,G8 f].toArray w (Ff (λk=>v.ownBlock=some k) w (λu w'=>u=.tuple #[]/\∃l',Vc.Own Fi.cs 5 62 Bo w' v l'/\Mk a b n l l')):=by
 refine cw Tryz.func337 ?_;have r:=Vc.Mod.refl (λk=>v.ownBlock=some k) w;refine ws λ_ Z1=>wr (da (de Z1 (EM ?_)));refine Fq (G:=Nat×List Fi) (λ(i,cur)=>[(0,v),(1,I ↑a),(2,I ↑b),(3,I ↑n),(10,I ↑i)]) (λ(i,cur) w'=>Mod (λk=>v.ownBlock=some k) w w'/\LM a b n i l cur/\Vc.Own Fi.cs 5 62 Bo w' v cur) (λ(i,cur)=>n-i) (0,l) ?_ ?_ ?_
 ·exact FN
 ·exact⟨r,Tm h1 h2,ho⟩
 intro X1 g1 w1 hb;obtain⟨i,cur⟩:=g1;clear r ho;obtain⟨r,Y,ho⟩:=hb;refine ws λ_ Z2=>ws λ_ Z3=>wr (dm (dm ?_));refine dp (Fb rfl rfl) (de Z3 (wi (λc1=>?_) λc1=>?_))
 ·have Z:=Y.len;obtain⟨x,hxi⟩:∃x,cur[a+i]?=some x:=Fw;obtain⟨y,hyi⟩:∃x,cur[b+i]?=some x:=Fw;have J:=Kh ho (λe=>by rw[e]at hxi;simp at hxi);refine EI (Z2 _ _ (ws λ_ Z4=>EM (F9 (R:=ED) ED.refl (λ_ _ _=>ED.trans) EA [13,19] [(0,.p,false),(1,.p,false),(2,.p,false),(3,.p,false),(4,.p,false),(5,.p,false),(6,.p,false),(7,.p,false),(8,.p,false),(9,.p,false),(10,.p,false),(11,.p,false),(12,.p,false),(13,.l,false),(14,.p,false),(15,.p,false),(16,.p,false),(17,.p,false),(18,.p,false),(19,.l,false),(20,.p,false),(21,.x,true),(22,.p,false),(23,.x,true)] rfl EA EA (λw2 O=>?_))));have x2:=EL O;clear O;have ho:=ho.ext x2;have r:=r.ext x2
  iterate 3 refine dm ?_
  refine EW (v:=I ↑(a+i)) rfl (Gy rfl rfl (by unfold EU;omega)) rfl (dm (dm (dm ?_)));refine EW (v:=I ↑(b+i)) rfl (Gy rfl rfl (by unfold EU;omega)) rfl (dm (dm (dm ?_)));refine EW (v:=I ↑(b+i)) rfl (Gy rfl rfl (by unfold EU;omega)) rfl (di 62 5 (ho.arr EF).sl rfl ((ho.arr EF).lt hyi) (FW rfl (λw' hR=>Fe EA rfl rfl (((ho.arr EF).ext hR).row hyi)) (dm (dm (dm ?_)))));refine EW (v:=I ↑(a+i)) rfl (Gy rfl rfl (by unfold EU;omega)) rfl (di 62 5 (ho.arr EF).sl rfl ((ho.arr EF).lt hxi) (FW rfl (λw' hR=>Fe EA rfl rfl (((ho.arr EF).ext hR).row hxi)) (EW (v:=EE (base v).1 ((a+i)*5+0)) rfl (HY (i:=(a+i)) (e:=62) (k:=5) EA ho.sl rfl rfl (by omega)) (by rw[J];show EE _ (0+_)=_;rw[A9];rfl) ?_)));refine HJ (enc:=Fi.cs) (sz:=5) (l:=cur) (i:=(a+i)) (j:=0) (x:=y) (vs:=y.cs) EF rfl ho rfl rfl rfl EA (by omega) rfl (Ab 5) (by intro v hv;simp at hv;rcases hv with rfl|rfl|rfl|rfl|rfl<;>rfl) (.inl rfl) (λw3 x3 xs3 z=>?_);have r:=r.own x3 (λi hi ha=>hi);have ho:=z;refine EW (v:=EE (base v).1 ((b+i)*5+0)) rfl (HY (i:=(b+i)) (e:=62) (k:=5) EA ho.sl rfl rfl (by rw[AF];omega)) (by rw[J];show EE _ (0+_)=_;rw[A9];rfl) ?_;refine HJ (enc:=Fi.cs) (sz:=5) (l:=(cur.set (a+i) y)) (i:=(b+i)) (j:=0) (x:=x) (vs:=x.cs) EF rfl ho rfl rfl rfl EA (by rw[AF];omega) rfl (Ab 5) (by intro v hv;simp at hv;rcases hv with rfl|rfl|rfl|rfl|rfl<;>rfl) (.inl rfl) (λw4 x4 xs4 z=>?_);have r:=r.own x4 (λi hi ha=>hi);have ho:=z;refine de Z4 (wr (dm ?_));refine pa rfl rfl (da (EH (?_)));exact⟨(i+1,_),FN,⟨r,XX Y EB hxi hyi,ho⟩,by simp only [];omega⟩
 refine Fk (HH (Hh rfl ?_));have Z:=Y.len;rw[show i=n by omega]at Y;exact⟨_,rfl,r,rfl,cur,ho,WF Y⟩
theorem Yao (l:List Fi)(v:Value)(Bo f:Nat)(w:World)(ho:Vc.Own Fi.cs 5 62 Bo w v l)(hl:l.length<=10000000)(a m b:Nat)(h1:a<m)(h2:m<b)(h3:b<=l.length) :
  Calls Tryz.prog 327 [v,I ↑a,I ↑m,I ↑b,G8 f].toArray w (Ff (λk=>v.ownBlock=some k) w (λu w'=>u=.tuple #[]/\∃l',Vc.Own Fi.cs 5 62 Bo w' v l'/\l'=Iv l a m b)):=by
 refine cw Tryz.func327 ?_;have z:=Vc.Mod.refl (λk=>v.ownBlock=some k) w;refine ws λ_ Z1=>wr (dm (dm ?_));refine EW (v:=I ↑(m-a)) rfl (Gr rfl rfl (by unfold EU;omega)) (by show I _=I _;congr 1;omega) (da (de Z1 (ws λ_ Z2=>wr (dm (dm ?_)))));refine EW (v:=I ↑(b-m)) rfl (Gr rfl rfl (by unfold EU;omega)) (by show I _=I _;congr 1;omega) (da (de Z2 (ws λ_ Z3=>EM ?_)));refine Fq (G:=Nat×Nat×List Fi) (λ(i,j,cur)=>[(0,v),(2,I ↑m),(4,G8 f),(10,I ↑i),(11,I ↑j)]) (λ(i,j,cur) w'=>Mod (λk=>v.ownBlock=some k) w w'/\0<i/\0<j/\cur.length=l.length/\I4 m i j (Iv l a m b) cur/\Vc.Own Fi.cs 5 62 Bo w' v cur) (λ(i,j,cur)=>i+j) (m-a,b-m,l) ?_ ?_ ?_
 ·exact FN
 ·exact⟨z,by omega,by omega,rfl,OH EB EB h3,ho⟩
 intro X1 g1 w1 hj;obtain⟨i,j,cur⟩:=g1;clear z ho;obtain⟨z,hh,hg,Z,Y,ho⟩:=hj;refine ws λ_ Z4=>ws λ_ Z5=>wr (dm (dm ?_));refine dp (FH rfl rfl) (de Z5 (wi (λc1=>?_) λc1=>?_))
 ·have hb:=Y.len;refine EI (Z4 _ _ (EM (ws λ_ Z6=>wr (dm (dm ?_)))));refine dp (Gg rfl rfl) (de Z6 (wi (λc2=>?_) λc2=>?_))
  ·refine ws λ_ Z7=>wr (dm (dm (dm ?_)));refine EW (v:=I ↑(m-i)) rfl (Gr rfl rfl (by unfold EU;omega)) (by show I _=I _;congr 1;omega) (dm (dm (dm ?_)));refine cD (RF cur v Bo f _ ho EB (m-i) m j EB EB) (.inl rfl) λu2 w2 x2 hp=>?_;have hsz2:=z.size;have z:=z.own x2 (λi hi ha=>hi);obtain⟨rfl,r,ho,O⟩:=hp;refine de Z7 (wr (dm (dm ?_)));refine EW (v:=I ↑(i-j)) rfl (Gr rfl rfl (by unfold EU;omega)) (by show I _=I _;congr 1;omega) (da (EH (?_)));have J:=TL Y EB O;exact⟨(i-j,j,r),FN,⟨z,by omega,hg,(J.len.1.trans (Y.len.1.symm.trans Z)),J,ho⟩,by simp only [];omega⟩
  refine ws λ_ Z8=>wr (dm (dm (dm ?_)));refine EW (v:=I ↑(m-i)) rfl (Gr rfl rfl (by unfold EU;omega)) (by show I _=I _;congr 1;omega) (dm (dm ?_));refine EW (v:=I ↑(m+j)) rfl (Gy rfl rfl (by unfold EU;omega)) rfl (dm ?_);refine EW (v:=I ↑(m+j-i)) rfl (Gr rfl rfl (by unfold EU;omega)) (by show I _=I _;congr 1;omega) (dm (dm ?_));refine cD (RF cur v Bo f _ ho EB (m-i) (m+j-i) i EB EB) (.inl rfl) λu3 w3 x3 hq=>?_;have hsz3:=z.size;have z:=z.own x3 (λi hi ha=>hi);obtain⟨rfl,r,ho,O⟩:=hq;refine de Z8 (wr (dm (dm ?_)));refine EW (v:=I ↑(j-i)) rfl (Gr rfl rfl (by unfold EU;omega)) (by show I _=I _;congr 1;omega) (da (EH (?_)));have J:=Wp Y EB O;exact⟨(i,j-i,r),FN,⟨z,hh,by omega,(J.len.1.trans (Y.len.1.symm.trans Z)),J,ho⟩,by simp only [];omega⟩
 have hb:=Y.len;have hf:i=j:=by omega
 subst hf;refine Fk (Z3 _ _ (wr (dm (dm (dm ?_)))));refine EW (v:=I ↑(m-i)) rfl (Gr rfl rfl (by unfold EU;omega)) (by show I _=I _;congr 1;omega) (dm (dm (dm ?_)));refine cD (RF cur v Bo f _ ho EB (m-i) m i EB EB) (.inl rfl) λu4 w4 x4 hc=>?_;have hsz4:=z.size;have z:=z.own x4 (λi hi ha=>hi);obtain⟨rfl,r,ho,O⟩:=hc;refine EH ((HH (Hh rfl ?_)));exact⟨_,rfl,z,rfl,r,ho,T0 Y O⟩
def V7 (v:Value)(Bo f:Nat)(c:Fi->Fi->Int)(N:Nat):Prop:=∀(l:List Fi) (w:World) (a m b:Nat),b-a<N->Vc.Own Fi.cs 5 62 Bo w v l->l.length<=10000000->a<m->m<b->b<=l.length->SM (Fz c) a m b l->Calls Tryz.prog 303 [v,I ↑a,I ↑m,I ↑b,G8 f].toArray w (Ff (λk=>v.ownBlock=some k) w (λu w'=>u=.tuple #[]/\∃l',Vc.Own Fi.cs 5 62 Bo w' v l'/\GA (Fz c) a b l l'))
theorem Yap (l:List Fi)(v:Value)(Bo f:Nat)(c:Fi->Fi->Int)(w:World)(ho:Vc.Own Fi.cs 5 62 Bo w v l)(hl:l.length<=10000000)(hcb:GM Tryz.prog f=true)(hc:∀w2 x y,Calls Tryz.prog f [Fi.v x,Fi.v y].toArray w2 (Pure w2 (I (c x y))))(O:Ord (Fz c))(a m b:Nat)(ham:a<m)(hmb:m<b)(hb:b<=l.length)(hsm:SM (Fz c) a m b l)(ih:V7 v Bo f c (b-a)) :
  Calls Tryz.prog 303 [v,I ↑a,I ↑m,I ↑b,G8 f].toArray w (Ff (λk=>v.ownBlock=some k) w (λu w'=>u=.tuple #[]/\∃l',Vc.Own Fi.cs 5 62 Bo w' v l'/\GA (Fz c) a b l l')):=by
 refine cw Tryz.func303 ?_;have z:=Vc.Mod.refl (λk=>v.ownBlock=some k) w;refine ws λ_ Z1=>ws λ_ Z2=>wr (dm (dm ?_));refine ps rfl rfl (dp (GB rfl rfl) (de Z2 (wi (λc1=>?_) λc1=>?_)))
 ·have h8:m=a+1:=by omega
  refine ws λ_ Z3=>wr (dm (da (de Z3 (ws λ_ Z4=>wr (dm (da (de Z4 (ws λ_ Z5=>EM ?_))))))));refine Fq (G:=Nat×Nat) (λ(i,j)=>[(0,v),(1,I ↑a),(2,I ↑m),(3,I ↑b),(4,G8 f),(10,I ↑i),(11,I ↑j)]) (λ(i,j) w'=>Mod (λk=>v.ownBlock=some k) w w'/\m<=i/\i<=j/\j<=b/\(j=b\/∃x y,l[a]?=some x/\l[j]?=some y/\Fz c y x=false)/\(i=m\/∃x y,l[a]?=some x/\l[i-1]?=some y/\Fz c y x=true)/\Vc.Own Fi.cs 5 62 Bo w' v l) (λ(i,j)=>j-i) (m,b) ?_ ?_ ?_
  ·exact Gb
  ·exact⟨z,Ab _,by omega,Ab _,.inl rfl,.inl rfl,ho⟩
  intro X1 g1 w1 zn;obtain⟨i,j⟩:=g1;clear z ho;obtain⟨z,hi,y4,hr,ht,hg,ho⟩:=zn;refine ws λ_ Z6=>ws λ_ Z7=>wr (dm (dm ?_));refine dp (Fb rfl rfl) (de Z7 (wi (λc2=>?_) λc2=>?_))
  ·obtain⟨x,hxa⟩:∃x,l[a]?=some x:=Fw;obtain⟨y,hyh⟩:∃x,l[(i+j) / 2]?=some x:=Fw;refine EI (Z6 _ _ (EM (ws λ_ Z8=>wr (dm (dm ?_)))));refine EW (v:=I ↑(i+j)) rfl (Gy rfl rfl (by unfold EU;omega)) rfl (EW (v:=.int .u64 ↑(i+j)) rfl (KC (n:=i+j) (k:=.i64) EB rfl EA EA) rfl (dp (Mh (u:=i+j) rfl rfl) (dp (Lk (n:=(i+j) / 2) EB rfl EA EA) (da (de Z8 (ws λ_ Z9=>?_))))));refine F9 (R:=ED) ED.refl (λ_ _ _=>ED.trans) EA [4,8] [(0,.p,false),(1,.p,false),(2,.p,false),(3,.p,false),(4,.l,false),(5,.p,false),(6,.p,false),(7,.p,false),(8,.l,false),(9,.x,true),(10,.p,false)] rfl EA EA (λw2 xm=>?_);have x2:=EL xm;clear xm;have ho:=ho.ext x2;have z:=z.ext x2
   iterate 3 refine dm ?_
   refine di 62 5 (ho.arr EF).sl rfl ((ho.arr EF).lt hyh) (FW rfl (λw' hR=>Fe EA rfl rfl (((ho.arr EF).ext hR).row hyh)) (dm (dm ?_)));refine di 62 5 (ho.arr EF).sl rfl ((ho.arr EF).lt hxa) (FW rfl (λw' hR=>Fe EA rfl rfl (((ho.arr EF).ext hR).row hxa)) (KZ (vs:=[y.v,x.v]) rfl rfl hcb (hc _ y x) rfl RX.all (λw3 x3=>?_)));have ho:=ho.ext x3;have z:=z.ext x3;refine dp (Fb rfl rfl) (de Z9 (wi (λc3=>?_) λc3=>?_))
   ·have J:Fz c y x=true:=by simpa [Fz]using c3
    refine wr (dm ?_);refine pa rfl rfl (da (EH (?_)));exact⟨((i+j) / 2+1,j),Gb,⟨z,by omega,by omega,hr,ht,.inr ⟨x,y,hxa,by rw[BS];exact hyh,J⟩,ho⟩,by simp only [];omega⟩
   have J:Fz c y x=false:=by simpa [Fz]using c3
   refine wr (dm (da (EH (?_))));exact⟨(i,(i+j) / 2),Gb,⟨z,hi,by omega,by omega,.inr ⟨x,y,hxa,hyh,J⟩,hg,ho⟩,by simp only [];omega⟩
  refine Fk (Z5 _ _ (ws λ_ zb=>ws λ_ yy=>wr (dm (da (de yy (EM ?_))))));refine Fq (G:=Nat×List Fi) (λ(k,cur)=>[(0,v),(1,I ↑a),(2,I ↑m),(3,I ↑b),(4,G8 f),(10,I ↑i),(13,I ↑k)]) (λ(k,cur) w'=>Mod (λk=>v.ownBlock=some k) w w'/\LR a k l cur/\k<=i-1/\Vc.Own Fi.cs 5 62 Bo w' v cur) (λ(k,cur)=>i-k) (a,l) ?_ ?_ ?_
  ·exact Gb
  ·exact⟨z,XD EB,by omega,ho⟩
  intro X4 g4 w4 za;obtain⟨k,cur⟩:=g4;clear z ho;obtain⟨z,hk,yc,ho⟩:=za;refine ws λ_ y9=>ws λ_ y5=>wr (dm (dm ?_));refine ps rfl rfl (dp (Fb rfl rfl) (de y5 (wi (λc4=>?_) λc4=>?_)))
  ·have xa:=hk.len;obtain⟨x,hxk⟩:∃x,cur[k]?=some x:=Fw;obtain⟨y,hyk⟩:∃x,cur[k+1]?=some x:=Fw;have hz:=Kh ho (λe=>by rw[e]at hxk;simp at hxk);refine EI (y9 _ _ (ws λ_ x1=>EM (F9 (R:=ED) ED.refl (λ_ _ _=>ED.trans) EA [9,13] [(0,.p,false),(1,.p,false),(2,.p,false),(3,.p,false),(4,.p,false),(5,.p,false),(6,.p,false),(7,.p,false),(8,.p,false),(9,.l,false),(10,.p,false),(11,.p,false),(12,.p,false),(13,.l,false),(14,.p,false),(15,.x,true),(16,.p,false),(17,.x,true)] rfl EA EA (λw5 xl=>?_))));have x5:=EL xl;clear xl;have ho:=ho.ext x5;have z:=z.ext x5
   iterate 4 refine dm ?_
   refine EW (v:=I ↑(k+1)) rfl (Gy rfl rfl (by unfold EU;omega)) rfl (dm (dm ?_));refine EW (v:=I ↑(k+1)) rfl (Gy rfl rfl (by unfold EU;omega)) rfl (di 62 5 (ho.arr EF).sl rfl ((ho.arr EF).lt hyk) (FW rfl (λw' hR=>Fe EA rfl rfl (((ho.arr EF).ext hR).row hyk)) (dm (dm ?_))));refine di 62 5 (ho.arr EF).sl rfl ((ho.arr EF).lt hxk) (FW rfl (λw' hR=>Fe EA rfl rfl (((ho.arr EF).ext hR).row hxk)) (EW (v:=EE (base v).1 (k*5+0)) rfl (HY (i:=k) (e:=62) (k:=5) EA ho.sl rfl rfl (by omega)) (by rw[hz];show EE _ (0+_)=_;rw[A9];rfl) ?_));refine HJ (enc:=Fi.cs) (sz:=5) (l:=cur) (i:=k) (j:=0) (x:=y) (vs:=y.cs) EF rfl ho rfl rfl rfl EA (by omega) rfl (Ab 5) (by intro v hv;simp at hv;rcases hv with rfl|rfl|rfl|rfl|rfl<;>rfl) (.inl rfl) (λw6 x6 xs6 hf=>?_);have z:=z.own x6 (λi hi J=>hi);have ho:=hf;refine EW (v:=EE (base v).1 ((k+1)*5+0)) rfl (HY (i:=(k+1)) (e:=62) (k:=5) EA ho.sl rfl rfl (by rw[AF];omega)) (by rw[hz];show EE _ (0+_)=_;rw[A9];rfl) ?_;refine HJ (enc:=Fi.cs) (sz:=5) (l:=(cur.set k y)) (i:=(k+1)) (j:=0) (x:=x) (vs:=x.cs) EF rfl ho rfl rfl rfl EA (by rw[AF];omega) rfl (Ab 5) (by intro v hv;simp at hv;rcases hv with rfl|rfl|rfl|rfl|rfl<;>rfl) (.inl rfl) (λw7 x7 xs7 hf=>?_);have z:=z.own x7 (λi hi J=>hi);have ho:=hf;refine de x1 (wr (dm ?_));refine pa rfl rfl (da (EH (?_)));exact⟨(k+1,_),Gb,⟨z,Xh hk hxk hyk,by omega,ho⟩,by simp only [];omega⟩
  refine Fk (zb _ _ (EJ (Hh rfl ?_)));have xa:=hk.len;have:k=i-1:=by omega
  subst this;have hq:i=j:=by omega
  subst hq;exact⟨_,rfl,z,rfl,cur,ho,U5 O hsm h8 hi hr hk ht hg⟩
 refine EI (Z1 _ _ (ws λ_ xw=>ws λ_ y8=>wr (dm (dm ?_))));refine ps rfl rfl (dp (GB rfl rfl) (de y8 (wi (λc5=>?_) λc5=>?_)))
 ·have h8:b=m+1:=by omega
  refine ws λ_ zj=>wr (dm (da (de zj (ws λ_ yd=>wr (dm (da (de yd (ws λ_ ym=>EM ?_))))))));refine Fq (G:=Nat×Nat) (λ(i,j)=>[(0,v),(1,I ↑a),(2,I ↑m),(3,I ↑b),(4,G8 f),(14,I ↑i),(15,I ↑j)]) (λ(i,j) w'=>Mod (λk=>v.ownBlock=some k) w w'/\a<=i/\i<=j/\j<=m/\(j=m\/∃x y,l[m]?=some x/\l[j]?=some y/\Fz c x y=true)/\(i=a\/∃x y,l[m]?=some x/\l[i-1]?=some y/\Fz c x y=false)/\Vc.Own Fi.cs 5 62 Bo w' v l) (λ(i,j)=>j-i) (a,m) ?_ ?_ ?_
  ·exact Gb
  ·exact⟨z,Ab _,by omega,Ab _,.inl rfl,.inl rfl,ho⟩
  intro X8 g8 w8 xv;obtain⟨i,j⟩:=g8;clear z ho;obtain⟨z,hi,y4,hr,ht,hg,ho⟩:=xv;refine ws λ_ zd=>ws λ_ ze=>wr (dm (dm ?_));refine dp (Fb rfl rfl) (de ze (wi (λc6=>?_) λc6=>?_))
  ·obtain⟨x,hxm⟩:∃x,l[m]?=some x:=Fw;obtain⟨y,hyh⟩:∃x,l[(i+j) / 2]?=some x:=Fw;refine EI (zd _ _ (EM (ws λ_ zc=>wr (dm (dm ?_)))));refine EW (v:=I ↑(i+j)) rfl (Gy rfl rfl (by unfold EU;omega)) rfl (EW (v:=.int .u64 ↑(i+j)) rfl (KC (n:=i+j) (k:=.i64) EB rfl EA EA) rfl (dp (Mh (u:=i+j) rfl rfl) (dp (Lk (n:=(i+j) / 2) EB rfl EA EA) (da (de zc (ws λ_ zh=>?_))))));refine F9 (R:=ED) ED.refl (λ_ _ _=>ED.trans) EA [4,8] [(0,.p,false),(1,.p,false),(2,.p,false),(3,.p,false),(4,.l,false),(5,.p,false),(6,.p,false),(7,.p,false),(8,.l,false),(9,.x,true),(10,.p,false),(11,.p,false)] rfl EA EA (λw9 xk=>?_);have x9:=EL xk;clear xk;have ho:=ho.ext x9;have z:=z.ext x9
   iterate 3 refine dm ?_
   refine di 62 5 (ho.arr EF).sl rfl ((ho.arr EF).lt hxm) (FW rfl (λw' hR=>Fe EA rfl rfl (((ho.arr EF).ext hR).row hxm)) (dm (dm ?_)));refine di 62 5 (ho.arr EF).sl rfl ((ho.arr EF).lt hyh) (FW rfl (λw' hR=>Fe EA rfl rfl (((ho.arr EF).ext hR).row hyh)) (KZ (vs:=[x.v,y.v]) rfl rfl hcb (hc _ x y) rfl RX.all (λw10 xh=>?_)));have ho:=ho.ext xh;have z:=z.ext xh;refine dp (Fb rfl rfl) (dn (de zh ?_));refine wc (λc7=>?_) λc7=>?_
   ·have J:Fz c x y=false:=by simpa [Fz]using c7
    refine wr (dm ?_);refine pa rfl rfl (da (EH (?_)));exact⟨((i+j) / 2+1,j),Gb,⟨z,by omega,by omega,hr,ht,.inr ⟨x,y,hxm,by rw[BS];exact hyh,J⟩,ho⟩,by simp only [];omega⟩
   have J:Fz c x y=true:=by simpa [Fz]using c7
   refine wr (dm (da (EH (?_))));exact⟨(i,(i+j) / 2),Gb,⟨z,hi,by omega,by omega,.inr ⟨x,y,hxm,hyh,J⟩,hg,ho⟩,by simp only [];omega⟩
  refine Fk (ym _ _ (ws λ_ x0=>ws λ_ zo=>wr (dm (da (de zo (EM ?_))))));refine Fq (G:=Nat×List Fi) (λ(k,cur)=>[(0,v),(1,I ↑a),(2,I ↑m),(3,I ↑b),(4,G8 f),(14,I ↑i),(17,I ↑k)]) (λ(k,cur) w'=>Mod (λk=>v.ownBlock=some k) w w'/\LU m k l cur/\i<=k/\Vc.Own Fi.cs 5 62 Bo w' v cur) (λ(k,cur)=>k) (m,l) ?_ ?_ ?_
  ·exact Gb
  ·exact⟨z,Tj EB,by omega,ho⟩
  intro X11 yx w11 xi;obtain⟨k,cur⟩:=yx;clear z ho;obtain⟨z,hk,yc,ho⟩:=xi;refine ws λ_ yp=>ws λ_ zg=>wr (dm (dm ?_));refine dp (Gg rfl rfl) (de zg (wi (λc8=>?_) λc8=>?_))
  ·have xa:=hk.len;obtain⟨x,hxk⟩:∃x,cur[k]?=some x:=Fw;obtain⟨y,hyk⟩:∃x,cur[k-1]?=some x:=Fw;have hz:=Kh ho (λe=>by rw[e]at hxk;simp at hxk);refine EI (yp _ _ (ws λ_ yi=>EM (F9 (R:=ED) ED.refl (λ_ _ _=>ED.trans) EA [9,13] [(0,.p,false),(1,.p,false),(2,.p,false),(3,.p,false),(4,.p,false),(5,.p,false),(6,.p,false),(7,.p,false),(8,.p,false),(9,.l,false),(10,.p,false),(11,.p,false),(12,.p,false),(13,.l,false),(14,.p,false),(15,.x,true),(16,.p,false),(17,.x,true)] rfl EA EA (λw12 h6=>?_))));have xe:=EL h6;clear h6;have ho:=ho.ext xe;have z:=z.ext xe
   iterate 4 refine dm ?_
   refine EW (v:=I ↑(k-1)) rfl (Gr rfl rfl (by unfold EU;omega)) (by show I _=I _;congr 1;omega) (dm (dm ?_));refine EW (v:=I ↑(k-1)) rfl (Gr rfl rfl (by unfold EU;omega)) (by show I _=I _;congr 1;omega) (di 62 5 (ho.arr EF).sl rfl ((ho.arr EF).lt hyk) (FW rfl (λw' hR=>Fe EA rfl rfl (((ho.arr EF).ext hR).row hyk)) (dm (dm ?_))));refine di 62 5 (ho.arr EF).sl rfl ((ho.arr EF).lt hxk) (FW rfl (λw' hR=>Fe EA rfl rfl (((ho.arr EF).ext hR).row hxk)) (EW (v:=EE (base v).1 (k*5+0)) rfl (HY (i:=k) (e:=62) (k:=5) EA ho.sl rfl rfl (by omega)) (by rw[hz];show EE _ (0+_)=_;rw[A9];rfl) ?_));refine HJ (enc:=Fi.cs) (sz:=5) (l:=cur) (i:=k) (j:=0) (x:=y) (vs:=y.cs) EF rfl ho rfl rfl rfl EA (by omega) rfl (Ab 5) (by intro v hv;simp at hv;rcases hv with rfl|rfl|rfl|rfl|rfl<;>rfl) (.inl rfl) (λw13 x8 xs13 hf=>?_);have z:=z.own x8 (λi hi J=>hi);have ho:=hf;refine EW (v:=EE (base v).1 ((k-1)*5+0)) rfl (HY (i:=(k-1)) (e:=62) (k:=5) EA ho.sl rfl rfl (by rw[AF];omega)) (by rw[hz];show EE _ (0+_)=_;rw[A9];rfl) ?_;refine HJ (enc:=Fi.cs) (sz:=5) (l:=(cur.set k y)) (i:=(k-1)) (j:=0) (x:=x) (vs:=x.cs) EF rfl ho rfl rfl rfl EA (by rw[AF];omega) rfl (Ab 5) (by intro v hv;simp at hv;rcases hv with rfl|rfl|rfl|rfl|rfl<;>rfl) (.inl rfl) (λw14 yo xs14 hf=>?_);have z:=z.own yo (λi hi J=>hi);have ho:=hf;refine de yi (wr (dm ?_));refine EW (v:=I ↑(k-1)) rfl (Gr rfl rfl (by unfold EU;omega)) (by show I _=I _;congr 1;omega) (da (EH (?_)));exact⟨(k-1,_),Gb,⟨z,UR hk EB hxk hyk,by omega,ho⟩,by simp only [];omega⟩
  refine Fk (x0 _ _ (EJ (Hh rfl ?_)));have xa:=hk.len;have:k=i:=by omega
  subst this;have hq:k=j:=by omega
  subst hq;exact⟨_,rfl,z,rfl,cur,ho,VU O hsm h8 hi hr hk ht hg⟩
 have ham2:a+2<=m:=by omega
 have hmb2:m+2<=b:=by omega
 refine EI (xw _ _ (ws λ_ ya=>wr (dm (dm ?_))));refine EW (v:=I ↑(a+b)) rfl (Gy rfl rfl (by unfold EU;omega)) rfl (EW (v:=.int .u64 ↑(a+b)) rfl (KC (n:=a+b) (k:=.i64) EB rfl EA EA) rfl (dp (Mh (u:=a+b) rfl rfl) (dp (Lk (n:=(a+b) / 2) EB rfl EA EA) (da (de ya (ws λ_ yn=>wr (dm (dm ?_))))))));refine EW (v:=I ↑((a+b) / 2+m)) rfl (Gy rfl rfl (by unfold EU;omega)) rfl (da (de yn (ws λ_ yj=>wr (da (da (de yj ?_))))));refine Hz (G:=Nat×Nat) (λ(s0,r0)=>[(0,v),(1,I ↑a),(2,I ↑m),(3,I ↑b),(4,G8 f),(18,I ↑((a+b) / 2)),(19,I ↑((a+b) / 2+m)),(20,I ↑s0),(21,I ↑r0)]) (λ(s0,r0) w'=>Mod (λk=>v.ownBlock=some k) w w'/\a<=s0/\s0<=r0/\r0<=m/\(s0=a\/(a+b) / 2+m-s0=b)/\(r0=m\/(a+b) / 2+m-r0=m)/\(a+b) / 2+m-s0<=b/\m<=(a+b) / 2+m-r0/\Vc.Own Fi.cs 5 62 Bo w' v l) ?_ ?_
 ·refine ws λ_ xz=>wr (dm (dm ?_));refine dp (Gg rfl rfl) (de xz (wi (λc9=>?_) λc9=>?_))
  ·have yk:(a+b) / 2<m:=by omega
   refine ws λ_ yw=>wr (dm (dm ?_));refine EW (v:=I ↑((a+b) / 2+m-b)) rfl (Gr rfl rfl (by unfold EU;omega)) (by show I _=I _;congr 1;omega) (da (de yw (wr (dm (da (EH (?_)))))));exact⟨((a+b) / 2+m-b,(a+b) / 2),Ji,z,by omega,by omega,by omega,.inr EB,.inr EB,by omega,by omega,ho⟩
  have yk:m<=(a+b) / 2:=by omega
  refine ws λ_ yr=>wr (dm (da (de yr (wr (dm (da (EH (?_))))))));exact⟨(a,m),Ji,z,by omega,by omega,by omega,.inl rfl,.inl rfl,by omega,by omega,ho⟩
 intro X15 ye w15 xn;obtain⟨s0,r0⟩:=ye;clear z ho;obtain⟨z,q0,q1,q2,q3,q4,q5,q6,ho⟩:=xn;refine ws λ_ yv=>wr (dm ?_);refine EW (v:=I ↑((a+b) / 2+m-1)) rfl (Gr rfl rfl (by unfold EU;omega)) (by show I _=I _;congr 1;omega) (da (de yv (ws λ_ xx=>EM ?_)));refine Fq (G:=Nat×Nat) (λ(s,r)=>[(0,v),(1,I ↑a),(2,I ↑m),(3,I ↑b),(4,G8 f),(18,I ↑((a+b) / 2)),(19,I ↑((a+b) / 2+m)),(20,I ↑s),(21,I ↑r),(22,I ↑((a+b) / 2+m-1))]) (λ(s,r) w'=>Mod (λk=>v.ownBlock=some k) w w'/\s0<=s/\s<=r/\r<=r0/\(s=s0\/∃x y,l[s-1]?=some x/\l[(a+b) / 2+m-s]?=some y/\Fz c y x=false)/\(r=r0\/∃x y,l[r]?=some x/\l[(a+b) / 2+m-1-r]?=some y/\Fz c y x=true)/\Vc.Own Fi.cs 5 62 Bo w' v l) (λ(s,r)=>r-s) (s0,r0) ?_ ?_ ?_
 ·exact Ig
 ·exact⟨z,Ab _,q1,Ab _,.inl rfl,.inl rfl,ho⟩
 intro X16 yh w16 xg;obtain⟨s,r⟩:=yh;clear z ho;obtain⟨z,y2,hsr1,y0,hg,xc,ho⟩:=xg;refine ws λ_ y7=>ws λ_ x4=>wr (dm (dm ?_));refine dp (Fb rfl rfl) (de x4 (wi (λyt=>?_) λyt=>?_))
 ·obtain⟨y,hyh⟩:∃x,l[(a+b) / 2+m-1-(s+r) / 2]?=some x:=Fw;obtain⟨x,hxc⟩:∃x,l[(s+r) / 2]?=some x:=Fw;refine EI (y7 _ _ (EM (ws λ_ yl=>wr (dm (dm ?_)))));refine EW (v:=I ↑(s+r)) rfl (Gy rfl rfl (by unfold EU;omega)) rfl (EW (v:=.int .u64 ↑(s+r)) rfl (KC (n:=s+r) (k:=.i64) EB rfl EA EA) rfl (dp (Mh (u:=s+r) rfl rfl) (dp (Lk (n:=(s+r) / 2) EB rfl EA EA) (da (de yl (ws λ_ zi=>?_))))));refine F9 (R:=ED) ED.refl (λ_ _ _=>ED.trans) EA [6,10] [(0,.p,false),(1,.p,false),(2,.p,false),(3,.p,false),(4,.p,false),(5,.p,false),(6,.l,false),(7,.p,false),(8,.p,false),(9,.p,false),(10,.l,false),(11,.x,true),(12,.p,false),(13,.p,false)] rfl EA EA (λw17 h5=>?_);have xp:=EL h5;clear h5;have ho:=ho.ext xp;have z:=z.ext xp
  iterate 4 refine dm ?_
  refine EW (v:=I ↑((a+b) / 2+m-1-(s+r) / 2)) rfl (Gr rfl rfl (by unfold EU;omega)) (by show I _=I _;congr 1;omega) (di 62 5 (ho.arr EF).sl rfl ((ho.arr EF).lt hyh) (FW rfl (λw' hR=>Fe EA rfl rfl (((ho.arr EF).ext hR).row hyh)) (dm (dm ?_))));refine di 62 5 (ho.arr EF).sl rfl ((ho.arr EF).lt hxc) (FW rfl (λw' hR=>Fe EA rfl rfl (((ho.arr EF).ext hR).row hxc)) (KZ (vs:=[y.v,x.v]) rfl rfl hcb (hc _ y x) rfl RX.all (λw18 xb=>?_)));have ho:=ho.ext xb;have z:=z.ext xb;refine dp (Fb rfl rfl) (dn (de zi ?_));refine wc (λh7=>?_) λh7=>?_
  ·have J:Fz c y x=false:=by simpa [Fz]using h7
   refine wr (dm ?_);refine pa rfl rfl (da (EH (?_)));exact⟨((s+r) / 2+1,r),Ig,⟨z,by omega,by omega,y0,.inr ⟨x,y,by rw[BS];exact hxc,by rw[<-hyh];congr 1;omega,J⟩,xc,ho⟩,by simp only [];omega⟩
  have J:Fz c y x=true:=by simpa [Fz]using h7
  refine wr (dm (da (EH (?_))));exact⟨(s,(s+r) / 2),Ig,⟨z,y2,by omega,by omega,hg,.inr ⟨x,y,hxc,hyh,J⟩,ho⟩,by simp only [];omega⟩
 have yg:s=r:=by omega
 subst yg;have h9:∀l2,((s<m/\m<(a+b) / 2+m-s->l2=Iv l s m ((a+b) / 2+m-s))/\(¬ (s<m/\m<(a+b) / 2+m-s)->l2=l))->KX (Fz c) a m b s ((a+b) / 2+m-s) l l2:=λl2 h2=>T7 O hsm EB EB EB EB (by
  rcases hg with e|e
  ·rcases q3 with e3|e3
   ·exact .inl EB
   ·exact .inr (.inl (by rw[e];exact e3))
  ·exact .inr (.inr e)) (by
  rcases xc with e|e
  ·rcases q4 with e4|e4
   ·exact .inl EB
   ·exact .inr (.inl (by rw[e];exact e4))
  ·obtain⟨x,y,e1,e2,e3⟩:=e;exact .inr (.inr ⟨x,y,e1,by rw[<-e2];congr 1;omega,e3⟩)) h2
 have Z:s+((a+b) / 2+m-s)=(a+b) / 2+m:=by omega
 refine Fk (xx _ _ (ws λ_ y1=>wr (dm (dm ?_))));refine EW (v:=I ↑((a+b) / 2+m-s)) rfl (Gr rfl rfl (by unfold EU;omega)) (by show I _=I _;congr 1;omega) (da (de y1 ?_));refine Hz (G:=List Fi) (λl2=>[(0,v),(1,I ↑a),(3,I ↑b),(4,G8 f),(18,I ↑((a+b) / 2)),(20,I ↑s),(24,I ↑((a+b) / 2+m-s))]) (λl2 w'=>Mod (λk=>v.ownBlock=some k) w w'/\KX (Fz c) a m b s ((a+b) / 2+m-s) l l2/\l2.length=l.length/\Vc.Own Fi.cs 5 62 Bo w' v l2) ?_ ?_
 ·refine ws λ_ xj=>wr (dm (dm ?_));refine dp (Fb rfl rfl) (dm ?_);refine F4 181 rfl (λzf=>?_) (λzf=>?_)
  ·iterate 2 refine dm ?_
   refine dp (Fb rfl rfl) (EP (de xj ?_));refine wi (λyz=>?_) λyz=>?_
   ·refine wr (dm (dm (dm (dm (dm ?_)))));refine cD (Yao l v Bo f _ ho hl s m ((a+b) / 2+m-s) EB EB EB) (.inl rfl) λu19 w19 yf xq=>?_;have hsz19:=z.size;have z:=z.own yf (λi hi J=>hi);obtain⟨rfl,hh,ho,xf⟩:=xq;have Y:=h9 hh ⟨λ_=>xf,λh=>absurd ⟨by omega,by omega⟩ h⟩;have hj:hh.length=l.length:=by rw[xf];have:=(OH (l:=l) (a:=s) (m:=m) (b:=(a+b) / 2+m-s) EB EB EB).len.1;omega
    refine EH (?_);exact⟨_,Gb,z,Y,hj,ho⟩
   have Y:=h9 l ⟨λh=>absurd h.2 EB,λ_=>rfl⟩;have hj:l.length=l.length:=rfl;refine EI ?_;exact⟨_,Gb,z,Y,hj,ho⟩
  have Y:=h9 l ⟨λh=>absurd h.1 EB,λ_=>rfl⟩;have hj:l.length=l.length:=rfl;refine dk (dk (dk (EP (de xj ?_))));refine Hf rfl (EI ?_);exact⟨_,Gb,z,Y,hj,ho⟩
 intro X20 yb w20 hy;revert hy;revert yb;intro l2 hy;clear z ho;obtain⟨z,Y,hj,ho⟩:=hy;refine Hz (G:=List Fi) (λl3=>[(0,v),(3,I ↑b),(4,G8 f),(18,I ↑((a+b) / 2)),(24,I ↑((a+b) / 2+m-s))]) (λl3 w'=>Mod (λk=>v.ownBlock=some k) w w'/\GA (Fz c) a ((a+b) / 2) l2 l3/\Vc.Own Fi.cs 5 62 Bo w' v l3) ?_ ?_
 ·refine ws λ_ xr=>wr (dm (dm ?_));refine dp (Fb rfl rfl) (dm ?_);refine F4 195 rfl (λyu=>?_) (λyu=>?_)
  ·iterate 2 refine dm ?_
   refine dp (Fb rfl rfl) (EP (de xr ?_));refine wi (λy3=>?_) λy3=>?_
   ·refine wr (dm (dm (dm (dm (dm ?_)))));refine cD (ih l2 _ a s ((a+b) / 2) EB ho EB EB EB EB (Xi Y Z)) (.inl rfl) λu21 w21 y6 xo=>?_;have hsz21:=z.size;have z:=z.own y6 (λi hi J=>hi);obtain⟨rfl,hh,ho,ha⟩:=xo;refine EH (?_);exact⟨_,FN,z,ha,ho⟩
   have ha:=OT Y Z (λh=>absurd h.2 EB);refine EI ?_;exact⟨_,FN,z,ha,ho⟩
  have ha:=OT Y Z (λh=>absurd h.1 EB);refine dk (dk (dk (EP (de xr ?_))));refine Hf rfl (EI ?_);exact⟨_,FN,z,ha,ho⟩
 intro X22 zl w22 hw;revert hw;revert zl;intro l3 hw;clear z ho;obtain⟨z,ha,ho⟩:=hw;refine ws λ_ xu=>wr (dm (dm ?_));refine dp (Fb rfl rfl) (dm ?_);refine F4 209 rfl (λyq=>?_) (λyq=>?_)
 ·iterate 2 refine dm ?_
  refine dp (Fb rfl rfl) (EP (de xu ?_));refine wi (λzk=>?_) λzk=>?_
  ·refine wr (dm (dm (dm (dm (dm ?_)))));refine cD (ih l3 _ ((a+b) / 2) ((a+b) / 2+m-s) b EB ho (by have:=ha.len.1;omega) EB EB (by have:=ha.len.1;omega) (Xa Y Z ha)) (.inl rfl) λu23 w23 xy xd=>?_;have hsz23:=z.size;have z:=z.own xy (λi hi J=>hi);obtain⟨rfl,hh,ho,zm⟩:=xd;have hp:=Nc Y Z ha zm;refine EH ((HH (Hh rfl ?_)));exact⟨_,rfl,z,rfl,_,ho,hp⟩
  have hp:=Nc Y Z ha (PZ Y Z ha (λh=>absurd h.2 EB));refine EI (HH (Hh rfl ?_));exact⟨_,rfl,z,rfl,_,ho,hp⟩
 have hp:=Nc Y Z ha (PZ Y Z ha (λh=>absurd h.1 EB));refine dk (dk (dk (EP (de xu ?_))));refine Hf rfl (EI (HH (Hh rfl ?_)));exact⟨_,rfl,z,rfl,_,ho,hp⟩
theorem RP (v:Value)(Bo f:Nat)(c:Fi->Fi->Int)(hcb:GM Tryz.prog f=true)(hc:∀r x y,Calls Tryz.prog f [Fi.v x,Fi.v y].toArray r (Pure r (I (c x y))))(O:Ord (Fz c)):∀N,V7 v Bo f c N
 | 0=>λ_ _ _ _ _ h=>absurd h (B6 _)
 | N+1=>λl w a m b hN ho hl J Y Z z=>Yap l v Bo f c w ho hl hcb hc O a m b J Y Z z (λl2 r a2 m2 b2 hN2=>RP v Bo f c hcb hc O N l2 r a2 m2 b2 EB)
theorem Yaq (l:List Fi)(v:Value)(Bo f:Nat)(c:Fi->Fi->Int)(w:World)(ho:Vc.Own Fi.cs 5 62 Bo w v l)(hl:l.length<=10000000)(hcb:GM Tryz.prog f=true)(hc:∀w2 x y,Calls Tryz.prog f [Fi.v x,Fi.v y].toArray w2 (Pure w2 (I (c x y))))(O:Ord (Fz c)) :
  Calls Tryz.prog 246 [v,I ↑l.length,G8 f].toArray w (Ff (λk=>v.ownBlock=some k) w (λu w'=>u=.tuple #[]/\∃l',Vc.Own Fi.cs 5 62 Bo w' v l'/\l'.Perm l/\Up (Fz c) l')):=by
 refine cw Tryz.func246 ?_;have z:=Vc.Mod.refl (λk=>v.ownBlock=some k) w;refine ws λ_ Z1=>wr (da (de Z1 (ws λ_ Z2=>wr (dm (da (da (de Z2 (ws λ_ Z3=>EM ?_))))))));refine Fq (G:=Nat×List Fi) (λ(j,cur)=>[(0,v),(1,I ↑l.length),(2,G8 f),(6,I 20),(7,I ↑(j*20)),(8,I ↑(j*20+20))]) (λ(j,cur) w'=>Mod (λk=>v.ownBlock=some k) w w'/\j*20<=l.length/\I2 (Fz c) 20 j cur/\cur.Perm l/\Vc.Own Fi.cs 5 62 Bo w' v cur) (λ(j,cur)=>l.length-j*20) (0,l) ?_ ?_ ?_
 ·exact G2
 ·exact⟨z,Ae _,λk hk=>absurd hk (B6 k),.refl _,ho⟩
 intro X1 g1 w1 xf;obtain⟨j,cur⟩:=g1;clear z ho;obtain⟨z,hj,hI,hp,ho⟩:=xf;refine ws λ_ Z4=>ws λ_ Z5=>wr (dm (dm ?_));refine dp (IG rfl rfl) (de Z5 (wi (λc1=>?_) λc1=>?_))
 ·have hf:=hp.length_eq;refine EI (Z4 _ _ (EM (ws λ_ Z6=>wr (dm (dm (dm (dm ?_)))))));refine cD (Vb cur v Bo f c _ ho EB hcb hc O (j*20) (j*20+20) EB EB) (.inl rfl) λu2 w2 x2 h8=>?_;have hsz2:=z.size;have z:=z.own x2 (λi hi hh=>hi);obtain⟨rfl,Z,ho,J⟩:=h8;refine de Z6 (ws λ_ Z7=>wr (EW (v:=I ↑((j+1)*20)) rfl (MB rfl) (by show I _=I _;congr 1;omega) (da (de Z7 (wr (dm (dm ?_)))))));refine EW (v:=I ↑((j+1)*20+20)) rfl (Gy rfl rfl (by unfold EU;omega)) (by show I _=I _;congr 1;omega) (da (EH (?_)));exact⟨(j+1,_),G2,⟨z,by omega,U3 hI (by rw[AZ];exact J),J.perm.trans hp,ho⟩,by simp only [];omega⟩
 have hf:=hp.length_eq;refine Fk (Z3 _ _ (ws λ_ Z8=>wr (dm (dm (dm (dm ?_))))));refine cD (Vb cur v Bo f c _ ho EB hcb hc O (j*20) l.length EB EB) (.inl rfl) λu3 w3 x3 xh=>?_;have hsz3:=z.size;have z:=z.own x3 (λi hi hh=>hi);obtain⟨rfl,Z,ho,J⟩:=xh;refine de Z8 (EM ?_);refine Fq (G:=Nat×List Fi) (λ(s,cur)=>[(0,v),(1,I ↑l.length),(2,G8 f),(6,I ↑s)]) (λ(s,cur) w'=>Mod (λk=>v.ownBlock=some k) w w'/\20<=s/\s<=40+2*l.length/\M2 (Fz c) s 0 cur/\cur.Perm l/\Vc.Own Fi.cs 5 62 Bo w' v cur) (λ(s,cur)=>l.length-s) (20,Z) ?_ ?_ ?_
 ·exact Gc
 ·exact⟨z,Ab _,by omega,UO hI EB EB (by rw[hf];exact J),J.perm.trans hp,ho⟩
 intro X4 g4 w4 h7;obtain⟨s,cur⟩:=g4;clear z ho;obtain⟨z,hs,hs2,hM,hp,ho⟩:=h7;refine ws λ_ Z9=>ws λ_ xa=>wr (dm (dm ?_));refine dp (Fb rfl rfl) (de xa (wi (λc2=>?_) λc2=>?_))
 ·have hf:=hp.length_eq;refine EI (Z9 _ _ (EM (ws λ_ xg=>wr (dm ?_))));refine EW (v:=I ↑(0+2*s)) rfl (Ku rfl rfl (by unfold EU;omega)) (by show I _=I _;congr 1;omega) (da (da (de xg (ws λ_ h6=>EM ?_))));refine Fq (G:=Nat×Nat×List Fi) (λ(j,q,r)=>[(0,v),(1,I ↑l.length),(2,G8 f),(6,I ↑s),(7,I ↑q),(8,I ↑(q+2*s))]) (λ(j,q,r) w'=>Mod (λk=>v.ownBlock=some k) w w'/\q=j*(2*s)/\q<=l.length/\M2 (Fz c) s j r/\r.Perm l/\Vc.Own Fi.cs 5 62 Bo w' v r) (λ(j,q,r)=>l.length-q) (0,0,cur) ?_ ?_ ?_
  ·exact G2
  ·exact⟨z,by omega,Ae _,hM,hp,ho⟩
  intro X5 g5 w5 xc;obtain⟨j,q,r⟩:=g5;clear z ho;obtain⟨z,hq,hql,hb,hg,ho⟩:=xc;refine ws λ_ hy=>ws λ_ hw=>wr (dm (dm ?_));refine dp (IG rfl rfl) (de hw (wi (λc3=>?_) λc3=>?_))
  ·have ha:=hg.length_eq;have Y:(j+1)*(2*s)=q+2*s:=by rw[hq];exact AZ _ _
   refine EI (hy _ _ (EM (ws λ_ ht=>wr (dm (dm (dm (dm ?_)))))));refine EW (v:=I ↑(q+s)) rfl (Gy rfl rfl (by unfold EU;omega)) rfl (dm (dm ?_));refine cD (RP v Bo f c hcb hc O ((q+2*s)-q+1) r _ q (q+s) (q+2*s) EB ho EB EB EB EB (by have h9:=Xx hb (by rw[Y];omega);rw[Y,<-hq]at h9;exact h9)) (.inl rfl) λu6 w6 x6 xd=>?_;have hsz6:=z.size;have z:=z.own x6 (λi hi hh=>hi);obtain⟨rfl,Z,ho,J⟩:=xd;refine de ht (ws λ_ h5=>wr (EW (v:=I ↑(q+2*s)) rfl (MB rfl) (by show I _=I _;rfl) (da (de h5 (wr (dm (dm ?_)))))));refine EW (v:=I ↑(2*s)) rfl (Ku rfl rfl (by unfold EU;omega)) (by show I _=I _;rfl) (EW (v:=I ↑(q+2*s+2*s)) rfl (Gy rfl rfl (by unfold EU;omega)) rfl (da (EH (?_))));exact⟨(j+1,q+2*s,_),G2,⟨z,Y.symm,by omega,VO hb (by rw[Y,<-hq];exact J),J.perm.trans hg,ho⟩,by simp only [];omega⟩
  have ha:=hg.length_eq;have Y:(j+1)*(2*s)=q+2*s:=by rw[hq];exact AZ _ _
  refine Fk (h6 _ _ (ws λ_ hr=>ws λ_ xb=>wr (dm (dm ?_))));refine EW (v:=I ↑(q+s)) rfl (Gy rfl rfl (by unfold EU;omega)) rfl (da (de xb (ws λ_ xe=>wr (dm (dm ?_)))));refine dp (Fb rfl rfl) (de xe (wi (λc4=>?_) λc4=>?_))
  ·refine wr (dm (dm (dm (dm (dm ?_)))));refine cD (RP v Bo f c hcb hc O (l.length-q+1) r _ q (q+s) l.length EB ho EB EB EB EB (by have h9:=VI hb (by rw[Y];omega) (by rw[<-hq];omega);rw[<-hq,ha]at h9;exact h9)) (.inl rfl) λu7 w7 x7 hz=>?_;have hsz7:=z.size;have z:=z.own x7 (λi hi hh=>hi);obtain⟨rfl,Z,ho,J⟩:=hz;refine de hr (wr (dm ?_));refine EW (v:=I ↑(2*s)) rfl (Ku rfl rfl (by unfold EU;omega)) (by show I _=I _;congr 1;omega) (da (EH (?_)));exact⟨(2*s,_),Gc,⟨z,by omega,by omega,PS hb (by rw[Y];omega) (by rw[<-hq];omega) ⟨λ_=>by rw[<-hq,ha];exact J,λh=>absurd h (by rw[<-hq];omega)⟩,J.perm.trans hg,ho⟩,by simp only [];omega⟩
  refine EI (hr _ _ (wr (dm ?_)));refine EW (v:=I ↑(2*s)) rfl (Ku rfl rfl (by unfold EU;omega)) (by show I _=I _;congr 1;omega) (da (EH (?_)));exact⟨(2*s,_),Gc,⟨z,by omega,by omega,PS hb (by rw[Y];omega) (by rw[<-hq];omega) ⟨λh=>absurd h (by rw[<-hq];omega),λ_=>rfl⟩,hg,ho⟩,by simp only [];omega⟩
 have hf:=hp.length_eq;refine Fk (HH (Hh rfl ?_));have hf:=hp.length_eq;exact⟨_,rfl,z,rfl,cur,ho,hp,TZ hM EB⟩
theorem Yar (l:List Fi)(v:Value)(Bo f:Nat)(c:Fi->Fi->Int)(w:World)(ho:Vc.Own Fi.cs 5 62 Bo w v l)(hl:l.length<=10000000)(hcb:GM Tryz.prog f=true)(hc:∀w2 x y,Calls Tryz.prog f [Fi.v x,Fi.v y].toArray w2 (Pure w2 (I (c x y))))(O:Ord (Fz c)) :
  Calls Tryz.prog 174 [v,G8 f].toArray w (Ff (λk=>v.ownBlock=some k) w (λu w'=>u=.tuple #[]/\∃l',Vc.Own Fi.cs 5 62 Bo w' v l'/\l'.Perm l/\Up (Fz c) l')):=by
 refine cw Tryz.func174 ?_;have z:=Vc.Mod.refl (λk=>v.ownBlock=some k) w;refine wr (dm (dm ?_));refine dv 62 5 (ho.arr EF).sl (dm ?_);refine cD (Yaq l v Bo f c _ ho hl hcb hc O) (.inl rfl) λu1 w1 Z J=>?_;have hsz1:=z.size;have z:=z.own Z (λi hi hlt=>hi);obtain⟨rfl,r,ho,Y,hu⟩:=J;refine EH ((HH (Hh rfl ?_)));exact⟨_,rfl,z,rfl,r,ho,Y,hu⟩
theorem Oh {x y z:EC}(h1:Fg y x=false)(h2:Fg z y=false):Fg z x=false:=by
 cases h:Fg z x with
 | false=>rfl
 | true=>
  rcases JK x y with e|e|e
  ·rw[e,h2]at h;cases h
  ·rw[Jl _ _ _ h e]at h2;cases h2
  ·rw[e]at h1;cases h1
theorem Ut (a b:Int):(GI a b<0)↔a<b:=by
 unfold GI;split
 ·simp [*]
 ·split<;>simp<;>omega
theorem XF (a b:Int):(GI a b=0)↔a=b:=by
 unfold GI;split
 ·simp;omega
 ·split<;>simp<;>omega
theorem X0v (a b:EC):(HB a b<0)↔Fg a b=true:=by
 unfold HB;split
 ·simp [*]
 ·split<;>simp [*]
theorem Rq (a b:Fi):Fz Hw a b=true↔(a.lev<b.lev\/(a.lev=b.lev/\((a.lev=0/\a.id<b.id)\/(a.lev≠0/\Fg a.fst b.fst=true)))):=by
 unfold Fz Hw;rw[decide_eq_true_iff]
 by_cases h:a.lev=0/\b.lev=0
 ·rw[if_pos h,Ut];simp [h.1,h.2]
 ·rw[if_neg h]
  by_cases h2:GI a.lev b.lev≠0
  ·rw[if_pos h2,Ut];have:=mt (XF a.lev b.lev).2 h2
   constructor
   ·exact .inl
   ·rintro (h3|h3)
    ·exact h3
    ·exact absurd h3.1 this
  ·rw[if_neg h2,X0v];have:=(XF a.lev b.lev).1 (AK h2);have h0:a.lev≠0:=λe=>h ⟨e,by rw[<-this];exact e⟩;simp [this,h0,this▸h0]
theorem UC {a b:Fi} : Fz Hw a b=false↔¬ (a.lev<b.lev\/(a.lev=b.lev/\((a.lev=0/\a.id<b.id)\/(a.lev≠0/\Fg a.fst b.fst=true)))):=by
 rw[<-Rq];simp
theorem Yb8 : Ord (Fz Hw):=⟨λx y z h1 h2=>(by
 rw[UC]at *;simp only [not_or,not_and,Cf]at *;refine⟨by omega,λe=>⟨λr=>?_,λr=>?_⟩⟩
 ·have e1:z.lev=y.lev:=by omega
  have g1:=(h1.2 EB).1 EB;have g2:=(h2.2 e1).1 EB;omega
 ·have e1:z.lev=y.lev:=by omega
  exact Oh ((h1.2 EB).2 EB) ((h2.2 e1).2 EB)),λx y h=>(by
 rw[Rq]at h;rw[UC];simp only [not_or,not_and,Cf];refine⟨by omega,λe=>⟨λr=>?_,λr=>?_⟩⟩
 ·rcases h with h|⟨_,⟨_,h⟩|⟨h,_⟩⟩<;>omega
 ·rcases h with h|⟨_,⟨h,_⟩|⟨_,h⟩⟩
  ·omega
  ·omega
  ·exact K9 h)⟩
def KN (fs:List Fi)(gone:List Int):Bool:=decide gone.Nodup && gone.all λi=>fs.any λf=>decide (f.id=i)
def Ik (fs:List Fi)(gone:List Int):List Fi:=fs.filter λf=>!decide (f.id∈gone)
def Hp (n:Int)(add:List Fi):Int:=add.foldl (λx f=>max x (f.id+1)) n
def Kw (v:Vs)(gone:List Int)(add:List Fi):Bool:=GK v && KN v.fs gone && add.all λf=>decide (f.id<=1099511627776)
theorem X0w {fs:List Fi}{gone:List Int}{k:Nat}{i:Int}(hk:gone[k]?=some i)(h:i∈(gone.take k).drop 0):KN fs gone=false:=by
 unfold KN;rw[C8];left;rw[decide_eq_false_iff_not];intro hn;rw[Ch]at h;obtain⟨j,r⟩:=AM h;rw[List.getElem?_take]at r;split at r
 ·rename_i z;obtain⟨h1,rfl⟩:=Ap.1 hk;obtain⟨h2,h3⟩:=Ap.1 r;exact List.pairwise_iff_getElem.1 hn j k h2 h1 z h3
 ·cases r
theorem Xxg {fs:List Fi}{gone:List Int}{k:Nat}{i:Int}(hk:gone[k]?=some i)(h:(fs.any λf=>decide (f.id=i))=false):KN fs gone=false:=by
 unfold KN;rw[C8];right;rw[Es];exact⟨i,Ak hk,by rw[h];decide⟩
theorem Xxh {fs:List Fi}{gone:List Int}{k:Nat}{i:Int}(hk:gone[k]?=some i)(h:KN fs (gone.take k)=true)(h1:i∉(gone.take k).drop 0)(h2:(fs.any λf=>decide (f.id=i))=true):KN fs (gone.take (k+1))=true:=by
 unfold KN at *;rw[Bool.and_eq_true,decide_eq_true_iff]at *;rw[G1 hk,List.all_append,h.2];refine⟨List.nodup_append.2 ⟨h.1,by simp,λa r b z e=>h1 ?_⟩,by simp [h2]⟩;rw[Ah.1 z]at e;rw[Ch,<-e];exact r
theorem WC {fs:List Fi}{gone:List Int}{k:Nat}{f:Fi}(hk:fs[k]?=some f):Ik (fs.take (k+1)) gone=if f.id∈gone then Ik (fs.take k) gone else Ik (fs.take k) gone++[f]:=by
 unfold Ik;rw[G1 hk,List.filter_append]
 by_cases h:f.id∈gone<;>simp [h]
theorem Qz (fs:List Fi)(gone:List Int)(k:Nat):(Ik (fs.take k) gone).length<=fs.length:=by
 have h1:(Ik (fs.take k) gone).length<=(fs.take k).length:=List.length_filter_le _ _;have h2:(fs.take k).length<=fs.length:=List.length_take_le' ..;omega
theorem Xxi {n:Int}{add:List Fi}{k:Nat}{f:Fi}(hk:add[k]?=some f):Hp n (add.take (k+1))=max (Hp n (add.take k)) (f.id+1):=by
 unfold Hp;rw[G1 hk,B4];rfl
theorem Pc {v:Vs}{gone:List Int}{add:List Fi}(h:GK v=false\/KN v.fs gone=false\/∃f∈add,¬ f.id<=1099511627776):Kw v gone add=false:=by
 unfold Kw;rcases h with h|h|⟨f,hf,h⟩
 ·rw[h];rfl
 ·rw[h];simp
 ·rw[C8];right;rw[Es];exact⟨f,hf,by simpa using h⟩
theorem RQ {v:Vs}{gone:List Int}{add:List Fi}(h1:GK v=true)(h2:KN v.fs gone=true)(h3:∀f∈add,f.id<=1099511627776):Kw v gone add=true:=by
 unfold Kw;rw[h1,h2];simp only [Bool.and_self,Bool.true_and,List.all_eq_true,decide_eq_true_eq];exact h3
theorem X0x (n:Int)(fs:List Fi)(vf:Value)(gone:List Int)(vg:Value)(add:List Fi)(va:Value)(w:World)(hf:EQ Fi.cs 5 w vf fs)(hfl:fs.length<=40000)(hid:∀f∈fs,EU f.id)(hg:EQ Vc.encI 1 w vg gone)(hgl:gone.length<=40000)(ha:EQ Fi.cs 5 w va add)(hal:add.length<=40000)(had:∀f∈add,EU f.id) :
  Calls Tryz.prog 91 [.agg ⟨[I n,vf]⟩,vg,va].toArray w (ES w (λu w'=>(Kw ⟨n,fs⟩ gone add=false/\u=.tuple #[.agg ⟨[I 0,.slice none 0 0]⟩,I 1])\/(Kw ⟨n,fs⟩ gone add=true/\∃fs',fs'.Perm (Ik fs gone++add)/\Up (Fz Hw) fs'/\((GK ⟨Hp n add,fs'⟩=false/\u=.tuple #[.agg ⟨[I 0,.slice none 0 0]⟩,I 1])\/(GK ⟨Hp n add,fs'⟩=true/\∃vx,u=.tuple #[.agg ⟨[I (Hp n add),vx]⟩,I 0]/\Vc.Own Fi.cs 5 62 w.heap.size w' vx fs'))))):=by
 refine cw Tryz.func91 ?_;have r:=ED.refl w;refine ws λ_ Z1=>wr (Gn rfl rfl rfl RX.all (λb1 w1 e1 x1 O=>?_));have g1:=r.ge e1;have r:=r.trans x1;refine FP (cs:=[.int .i64 0,.slice none 0 0]) rfl EA RX.all (λb2 w2 e2 x2 z=>?_);have g2:=r.ge e2;have n2_1:=O.ltb e2;have O:=O.ext x2;have r:=r.trans x2;refine da (de Z1 (ws λ_ Z2=>ws λ_ Z3=>wr ?_));refine dq (Fe (k:=2) EA rfl rfl O.row) (cP (Pn n fs vf _ (hf.ext r) EB hid) RX.all λw3 x3=>?_);have O:=O.ext x3;have z:=z.ext x3;have r:=r.trans x3;refine dn (de Z3 ?_);refine wc (λc1=>?_) λc1=>?_
 ·refine ws λ_ Z4=>wr (db (zs:=[.int .i64 0,.slice none 0 0]) (pl:=[(0,1),(1,1)]) (pv:=[]) (cs:=[.int .i64 0,.slice none 0 0]) ?_);refine FY z (λw4 x4 xs4 z=>?_);dsimp only [EY,Af,Ad,Ag]at z;have O:=O.mo x4;have r:=r.o1 x4;refine da (de Z4 (EJ ?_));refine IH (u:=?v6) rfl rfl rfl rfl EA rfl z.row ?h6 ?k6
  case h6=>conv=>lhs;whnf
  exact⟨_,rfl,r,.inl ⟨Pc (.inl (by simpa using c1)),rfl⟩⟩
 have hV:GK ⟨n,fs⟩=true:=by simpa using c1
 refine EI (Z2 _ _ (ws λ_ Z5=>wr (df 0 rfl (dl rfl (O.at rfl) (db (zs:=[.int .i64 0,.slice none 0 0]) (pl:=[(0,1),(1,1)]) (pv:=[(0,_)]) (cs:=[_,.slice none 0 0]) ?_)))));refine FP (cs:=[.int .i64 0,.slice none 0 0]) rfl EA RX.all (λb3 w5 e3 x5 J=>?_);have g3:=r.ge e3;have n3_1:=O.ltb e3;have n3_2:=z.ltb e3;have O:=O.ext x5;have z:=z.ext x5;have r:=r.trans x5;refine FY J (λw6 x6 xs6 J=>?_);dsimp only [EY,Af,Ad,Ag]at J;have O:=O.mo x6;have z:=z.mo x6;have r:=r.o1 x6;refine de Z5 (ws λ_ Z6=>ws λ_ Z7=>wr (dm ?_));refine dv 3 1 (hg.ext r).sl (dm (de Z7 (EM ?_)));refine Fq (G:=Nat) (λk=>[(1,vg),(2,va),(3,EE b1 0),(6,EE b2 0),(8,EE b3 0),(22,vg),(23,I ↑gone.length),(24,I ↑k)]) (λk w'=>ED w w'/\EK w' b1 [I n,vf] 56/\EK w' b2 [I 0,.slice none 0 0] 56/\EK w' b3 [I n,.slice none 0 0] 56/\k<=gone.length/\KN fs (gone.take k)=true) (λk=>gone.length-k) 0 ?_ ?_ ?_
 ·exact KV
 ·exact⟨r,O,z,J,Ae _,rfl⟩
 intro X7 g7 w7 xk;revert xk;revert g7;intro k xk;clear r O z J;obtain⟨r,O,z,J,yz,xc⟩:=xk;refine ws λ_ Z8=>wr (dp (Fb rfl rfl) (de Z8 (ws λ_ Z9=>wi (λc2=>?_) λc2=>?_)))
 ·obtain⟨i,hk⟩:∃i,gone[k]?=some i:=Fw;refine EI (Z9 _ _ (ws λ_ yr=>EM (ws λ_ yn=>wr (dm ?_))));refine di 3 1 hg.sl rfl (hg.lt hk) (dl rfl (((hg.ext r).row hk).at0 rfl) (FP (cs:=[.int .i64 0]) rfl EA RX.all (λb4 w8 e4 x8 m4=>?_)));have g4:=r.ge e4;have n4_1:=O.ltb e4;have n4_2:=z.ltb e4;have n4_3:=J.ltb e4;have O:=O.ext x8;have z:=z.ext x8;have J:=J.ext x8;have r:=r.trans x8;refine da ?_;refine G4 m4 (λw9 x9 xs9 m4=>?_) (hv:=by rfl);dsimp only [EY,Af,Ad,Ag]at m4;have O:=O.mo x9;have z:=z.mo x9;have J:=J.mo x9;have r:=r.o1 x9;refine de yn (ws λ_ xx=>F9 (R:=ED) ED.refl (λ_ _ _=>ED.trans) EA [3,7] [(0,.p,false),(1,.p,false),(2,.p,false),(3,.l,false),(4,.x,true),(5,.p,false),(6,.p,false),(7,.l,false),(8,.p,false),(9,.x,false),(10,.p,false),(11,.p,false)] rfl EA EA (λw10 xj=>?_));have hr:=EL xj;clear xj;have O:=O.ext hr;have z:=z.ext hr;have J:=J.ext hr;have m4:=m4.ext hr;have r:=r.trans hr
  iterate 2 refine dm ?_
  refine dp (IS (e:=3) (k:=1) EA (hg.ext r).sl rfl rfl rfl EB EB) (dL rfl (λ_ hR=>((m4.ext hR).at rfl)) (cP (Tu ((gone.take k).drop 0) (G7 1 vg 0 k) i _ ((hg.ext r).slice (Ae _) EB) (by rw[Bh,A5];omega)) RX.all λw11 h9=>?_));have O:=O.ext h9;have z:=z.ext h9;have J:=J.ext h9;have m4:=m4.ext h9;have r:=r.trans h9;refine dm ?_;refine I5 34 rfl (λc3=>?_) (λc3=>?_)
  ·refine dk (dk (dk (dk (dk (EP (de xx ?_))))));refine GS rfl (ws λ_ yo=>wr (db (zs:=[.int .i64 0,.slice none 0 0]) (pl:=[(0,1),(1,1)]) (pv:=[]) (cs:=[.int .i64 0,.slice none 0 0]) ?_));refine FY z (λw12 xb xs12 z=>?_);dsimp only [EY,Af,Ad,Ag]at z;have O:=O.mo xb;have J:=J.mo xb;have m4:=m4.mo xb;have r:=r.o1 xb;refine da (de yo (EJ ?_));refine IH (u:=?v21) rfl rfl rfl rfl EA rfl z.row ?h21 ?k21
   case h21=>conv=>lhs;whnf
   exact⟨_,rfl,r,.inl ⟨Pc (.inr (.inl (X0w hk (by simpa using c3)))),rfl⟩⟩
  refine df 1 rfl (dL rfl (λ_ hR=>((O.ext hR).at rfl)) (dp (Ob rfl) (cP (X6e fs vf 173 [EE b4 0] (λf=>decide (f.id=i)) _ (hf.ext r) EB EA (λw2 x2 x _=>X91 x i _ w2 (m4.ext x2))) RX.ext λw13 xa=>?_)));have O:=O.ext xa;have z:=z.ext xa;have J:=J.ext xa;have r:=r.trans xa;refine dn ?_;refine EP (de xx ?_);refine wc (λc4=>?_) λc4=>?_
  ·refine ws λ_ ya=>wr (db (zs:=[.int .i64 0,.slice none 0 0]) (pl:=[(0,1),(1,1)]) (pv:=[]) (cs:=[.int .i64 0,.slice none 0 0]) ?_);refine FY z (λw14 xl xs14 z=>?_);dsimp only [EY,Af,Ad,Ag]at z;have O:=O.mo xl;have J:=J.mo xl;have r:=r.o1 xl;refine da (de ya (EJ ?_));refine IH (u:=?v27) rfl rfl rfl rfl EA rfl z.row ?h27 ?k27
   case h27=>conv=>lhs;whnf
   exact⟨_,rfl,r,.inl ⟨Pc (.inr (.inl (Xxg hk (by simpa using c4)))),rfl⟩⟩
  refine EI (yr _ _ (wr (pa rfl rfl (dm (EH (?_))))));exact⟨k+1,KV,⟨r,O,z,J,by omega,Xxh hk xc (by simpa using c3) (by simpa using c4)⟩,by omega⟩
 rw[Ay EB]at xc;refine Fk (Z6 _ _ (ws λ_ xy=>ws λ_ yp=>wr (df 1 rfl (dl rfl (O.at rfl) (dv 62 5 (hf.ext r).sl (dm (de yp (EM ?_))))))));refine Fq (G:=Nat×Value) (λ(k,vb)=>[(1,vg),(2,va),(6,EE b2 0),(8,EE b3 0),(44,vf),(45,I ↑fs.length),(46,I ↑k)]) (λ(k,vb) w'=>ED w w'/\EK w' b1 [I n,vf] 56/\EK w' b2 [I 0,.slice none 0 0] 56/\k<=fs.length/\EK w' b3 [I n,vb] 56/\Vc.Own Fi.cs 5 62 w.heap.size w' vb (Ik (fs.take k) gone)) (λ(k,vb)=>fs.length-k) (0,.slice none 0 0) ?_ ?_ ?_
 ·exact Gb
 ·exact⟨r,O,z,Ae _,J,Vc.Own.nil⟩
 intro X15 yf w15 xv;obtain⟨k,vb⟩:=yf;clear r O z J;obtain⟨r,O,z,yz,J,ho⟩:=xv;refine ws λ_ yy=>wr (dp (Fb rfl rfl) (de yy (ws λ_ yd=>wi (λc5=>?_) λc5=>?_)))
 ·obtain⟨f,hk⟩:∃f,fs[k]?=some f:=Fw;have Z:=Qz fs gone k;refine EI (yd _ _ (ws λ_ xq=>EM (ws λ_ yu=>wr (di 62 5 hf.sl rfl (hf.lt hk) (dq (Fe EA rfl rfl ((hf.ext r).row hk)) (FP (cs:=[.int .i64 0,.int .i64 0,.int .i64 0,S [],S []]) rfl EA RX.all (λb5 w16 e5 hy m5=>?_)))))));have g5:=r.ge e5;have n5_1:=O.ltb e5;have n5_2:=z.ltb e5;have n5_3:=J.ltb e5;have hw:=ho.ltb e5;have O:=O.ext hy;have z:=z.ext hy;have J:=J.ext hy;have ho:=ho.ext hy;have r:=r.trans hy;refine FY m5 (λw17 hz xs17 m5=>?_);dsimp only [EY,Af,Ad,Ag]at m5;have O:=O.mo hz;have z:=z.mo hz;have J:=J.mo hz;have ho:=ho.mod hz (by intro k hk h;have h1:=hw k hk;have h2:k=b5:=h;omega);have r:=r.o1 hz;refine de yu (ws λ_ yv=>wr (dm ?_));refine df 0 rfl (dl rfl (m5.at rfl) (cP (Tu gone vg f.id _ (hg.ext r) EB) RX.all λw18 hb=>?_));have O:=O.ext hb;have z:=z.ext hb;have J:=J.ext hb;have ho:=ho.ext hb;have m5:=m5.ext hb;have r:=r.trans hb;refine dn (de yv ?_);refine wc (λc6=>?_) λc6=>?_
  ·refine wr (df 1 rfl (dl rfl (J.at rfl) (dq (Fe (k:=5) EA rfl rfl m5.row) (li (e:=62) (sz:=5) (zs:=[.int .i64 0,.int .i64 0,.int .i64 0,S [],S []]) (pv:=[(0,.agg ⟨[_,_,_,_,_]⟩)]) (cs:=[_,_,_,_,_]) RX.all (λb6 w19 e6 hc m6=>?_)))));have g6:=r.ge e6;have n6_1:=O.ltb e6;have n6_2:=z.ltb e6;have n6_3:=J.ltb e6;have n6_5:=m5.ltb e6;have o6_ho:=ho.ltb e6;have O:=O.ext hc;have z:=z.ext hc;have J:=J.ext hc;have ho:=ho.ext hc;have m5:=m5.ext hc;have r:=r.trans hc;refine Hy (lx:=[f]) (e:=62) (sz:=5) (by':=56) rfl EA EA EF ho (m6.arr (enc:=Fi.cs) (sz:=5) (l:=[f]) rfl EF rfl (Av rfl)) rfl rfl (by intro x _ u hu;simp at hu;rcases hu with rfl|rfl|rfl|rfl|rfl<;>rfl) (by simp;omega) EN r.size (.inl rfl) (λvp w20 h8 h7=>?_);have O:=O.mod h7 (by intro h;exact ho.ne_blk O rfl h);have z:=z.mod h7 (by intro h;exact ho.ne_blk z rfl h);have J:=J.mod h7 (by intro h;exact ho.ne_blk J rfl h);have m5:=m5.mod h7 (by intro h;have h1:=hw _ h;omega);have r:=r.own h7 (λi hi=>(ho.lt i hi).1);have ho:=h8;have xi:∀k,vp.ownBlock=some k->¬ ET b3 k:=λk hk e=>ho.ne_blk J rfl (hk.trans (congrArg some e));clear m6;refine df 1 rfl (G4 J (λw21 xf xs21 J=>?_) (hv:=by exact Gd.one ho.sl));dsimp only [EY,Af,Ad,Ag]at J;have O:=O.mo xf;have z:=z.mo xf;have ho:=ho.mod xf (by assumption);have r:=r.o1 xf;refine de xq (wr (pa rfl rfl (dm (EH (?_)))));rw[show Ik (fs.take k) gone++[f]=Ik (fs.take (k+1)) gone by rw[WC hk,if_neg (by simpa using c6)]]at ho;exact⟨(k+1,vp),Gb,⟨r,O,z,by omega,J,ho⟩,by simp only [];omega⟩
  refine EI (xq _ _ (wr (pa rfl rfl (dm (EH (?_))))));rw[show Ik (fs.take k) gone=Ik (fs.take (k+1)) gone by rw[WC hk,if_pos (by simpa using c6)]]at ho;exact⟨(k+1,vb),Gb,⟨r,O,z,by omega,J,ho⟩,by simp only [];omega⟩
 rw[Ay EB]at ho;refine Fk (xy _ _ (ws λ_ yt=>ws λ_ yx=>wr (dm ?_)));refine dv 62 5 (ha.ext r).sl (dm (de yx (EM ?_)));refine Fq (G:=Nat×Value) (λ(j,vb)=>[(6,EE b2 0),(8,EE b3 0),(62,va),(63,I ↑add.length),(64,I ↑j)]) (λ(j,vb) w'=>ED w w'/\EK w' b1 [I n,vf] 56/\EK w' b2 [I 0,.slice none 0 0] 56/\j<=add.length/\(∀f∈add.take j,f.id<=1099511627776)/\EK w' b3 [I (Hp n (add.take j)),vb] 56/\Vc.Own Fi.cs 5 62 w.heap.size w' vb (Ik fs gone++add.take j)) (λ(j,vb)=>add.length-j) (0,vb) ?_ ?_ ?_
 ·exact FN
 ·exact⟨r,O,z,Ae _,(λf hf=>by cases hf),J,by simpa using ho⟩
 intro X22 y0 w22 xu;obtain⟨j,vb⟩:=y0;clear r O z J ho;obtain⟨r,O,z,hj1,hA,J,ho⟩:=xu;refine ws λ_ x7=>wr (dp (Fb rfl rfl) (de x7 (ws λ_ yq=>wi (λc7=>?_) λc7=>?_)))
 ·obtain⟨f,hk⟩:∃f,add[j]?=some f:=Fw;have Z:=Qz fs gone fs.length;rw[AI]at Z;have ye:=had f (Ak hk);unfold EU at ye;have xi:∀k,vb.ownBlock=some k->¬ ET b3 k:=λk hk e=>ho.ne_blk J rfl (hk.trans (congrArg some e));refine EI (yq _ _ (ws λ_ yj=>EM (ws λ_ yw=>wr (di 62 5 ha.sl rfl (ha.lt hk) (dq (Fe EA rfl rfl ((ha.ext r).row hk)) (FP (cs:=[.int .i64 0,.int .i64 0,.int .i64 0,S [],S []]) rfl EA RX.all (λb7 w23 e7 hj Y=>?_)))))));have g7:=r.ge e7;have n7_1:=O.ltb e7;have n7_2:=z.ltb e7;have n7_3:=J.ltb e7;have hl:=ho.ltb e7;have O:=O.ext hj;have z:=z.ext hj;have J:=J.ext hj;have ho:=ho.ext hj;have r:=r.trans hj;refine FY Y (λw24 hp xs24 Y=>?_);dsimp only [EY,Af,Ad,Ag]at Y;have O:=O.mo hp;have z:=z.mo hp;have J:=J.mo hp;have ho:=ho.mod hp (by intro k hk h;have h1:=hl k hk;have h2:k=b7:=h;omega);have r:=r.o1 hp;refine de yw (ws λ_ yg=>ws λ_ yb=>wr (df 0 rfl (dl rfl (Y.at rfl) (dp (Gg rfl rfl) (de yb (wi (λc8=>?_) λc8=>?_))))))
  ·refine ws λ_ yi=>wr (db (zs:=[.int .i64 0,.slice none 0 0]) (pl:=[(0,1),(1,1)]) (pv:=[]) (cs:=[.int .i64 0,.slice none 0 0]) ?_);refine FY z (λw25 xg xs25 z=>?_);dsimp only [EY,Af,Ad,Ag]at z;have O:=O.mo xg;have J:=J.mo xg;have Y:=Y.mo xg;have r:=r.o1 xg;refine da (de yi (EJ ?_));refine IH (u:=?v43) rfl rfl rfl rfl EA rfl z.row ?h43 ?k43
   case h43=>conv=>lhs;whnf
   exact⟨_,rfl,r,.inl ⟨Pc (.inr (.inr ⟨f,Ak hk,by omega⟩)),rfl⟩⟩
  refine EI (yg _ _ (ws λ_ yh=>wr (df 0 rfl (dl rfl (J.at rfl) (df 0 rfl (dl rfl (Y.at rfl) (pa rfl rfl (dp (NN rfl rfl) (df 0 rfl (G4 J (λw26 h5 xs26 J=>?_) (hv:=by rfl)))))))))));dsimp only [EY,Af,Ad,Ag]at J;have O:=O.mo h5;have z:=z.mo h5;have ho:=ho.mod h5 (by assumption);have Y:=Y.mo h5;have r:=r.o1 h5;refine de yh (wr (df 1 rfl (dl rfl (J.at rfl) (dq (Fe (k:=5) EA rfl rfl Y.row) (li (e:=62) (sz:=5) (zs:=[.int .i64 0,.int .i64 0,.int .i64 0,S [],S []]) (pv:=[(0,.agg ⟨[_,_,_,_,_]⟩)]) (cs:=[_,_,_,_,_]) RX.all (λb8 w27 e8 hh m8=>?_))))));have g8:=r.ge e8;have n8_1:=O.ltb e8;have n8_2:=z.ltb e8;have n8_3:=J.ltb e8;have n8_7:=Y.ltb e8;have o8_ho:=ho.ltb e8;have O:=O.ext hh;have z:=z.ext hh;have J:=J.ext hh;have ho:=ho.ext hh;have Y:=Y.ext hh;have r:=r.trans hh;refine Hy (lx:=[f]) (e:=62) (sz:=5) (by':=56) rfl EA EA EF ho (m8.arr (enc:=Fi.cs) (sz:=5) (l:=[f]) rfl EF rfl (Av rfl)) rfl rfl (by intro x _ u hu;simp at hu;rcases hu with rfl|rfl|rfl|rfl|rfl<;>rfl) (by simp;omega) EN r.size (.inl rfl) (λvp w28 h8 ht=>?_);have O:=O.mod ht (by intro h;exact ho.ne_blk O rfl h);have z:=z.mod ht (by intro h;exact ho.ne_blk z rfl h);have J:=J.mod ht (by intro h;exact ho.ne_blk J rfl h);have Y:=Y.mod ht (by intro h;have h1:=hl _ h;omega);have r:=r.own ht (λi hi=>(ho.lt i hi).1);have ho:=h8;have xi:∀k,vp.ownBlock=some k->¬ ET b3 k:=λk hk e=>ho.ne_blk J rfl (hk.trans (congrArg some e));clear m8;refine df 1 rfl (G4 J (λw29 xe xs29 J=>?_) (hv:=by exact Gd.one ho.sl));dsimp only [EY,Af,Ad,Ag]at J;have O:=O.mo xe;have z:=z.mo xe;have ho:=ho.mod xe (by assumption);have r:=r.o1 xe;refine de yj (wr (pa rfl rfl (dm (EH (?_)))));rw[<-Xxi hk]at J;rw[List.append_assoc,<-G1 hk]at ho;exact⟨(j+1,vp),FN,⟨r,O,z,by omega,λq hq=>(by rw[G1 hk]at hq;rcases Aw.1 hq with h|h;exact hA q h;rw[Ah.1 h];omega),J,ho⟩,by simp only [];omega⟩
 have hne2:∀k,vb.ownBlock=some k->¬ ET b2 k:=λk hk e=>ho.ne_blk z rfl (hk.trans (congrArg some e));have Z:=Qz fs gone fs.length;rw[AI]at Z;rw[Ay EB]at ho J hA;refine Fk (yt _ _ (ws λ_ x0=>wr (df 1 rfl (dl rfl (J.at rfl) (cD (Yar _ vb w.heap.size 175 Hw _ ho (by simp;omega) EA (λw2 x y=>RR x y w2) Yb8) (.inl rfl) λu30 w30 xm xw=>?_)))));have hsz30:=r.size;have z:=z.mod xm (λe=>ho.ne_blk z rfl e);have J:=J.mod xm (λe=>ho.ne_blk J rfl e);have r:=r.own xm (λi hi=>(ho.lt i hi).1);obtain⟨rfl,l2,ho,xh,xp⟩:=xw;have xo:=xh.length_eq;rw[Aa]at xo;refine de x0 (ws λ_ ym=>ws λ_ yk=>wr (dq (Fe (k:=2) EA rfl rfl J.row) (cP (Pn (Hp n add) l2 vb _ (ho.arr EF) EB (λf yc=>(Aw.1 (xh.mem_iff.1 yc)).elim (λh=>hid f (A3.1 h).1) (had f))) RX.all λw31 xd=>?_)));have z:=z.ext xd;have J:=J.ext xd;have ho:=ho.ext xd;have r:=r.trans xd;refine dn (de yk ?_);refine wc (λc9=>?_) λc9=>?_
 ·refine ws λ_ yl=>wr (db (zs:=[.int .i64 0,.slice none 0 0]) (pl:=[(0,1),(1,1)]) (pv:=[]) (cs:=[.int .i64 0,.slice none 0 0]) ?_);refine FY z (λw32 xn xs32 z=>?_);dsimp only [EY,Af,Ad,Ag]at z;have J:=J.mo xn;have ho:=ho.mod xn (by assumption);have r:=r.o1 xn;refine da (de yl (EJ ?_));refine IH (u:=?v52) rfl rfl rfl rfl EA rfl z.row ?h52 ?k52
  case h52=>conv=>lhs;whnf
  exact⟨_,rfl,r,.inr ⟨RQ hV xc hA,l2,xh,xp,.inl ⟨by simpa using c9,rfl⟩⟩⟩
 refine EI (ym _ _ (ws λ_ xz=>wr (dq (Fe (k:=2) EA rfl rfl J.row) (FY z (λw33 xr xs33 z=>?_) (h1:=by(intro u hu;rcases Aj.1 hu with e|hu;subst e;rfl;rw[Ah.1 hu];exact ho.sl.one))))));dsimp only [EY,Af,Ad,Ag]at z;have ho:=ho.mod xr (by assumption);have r:=r.o1 xr;refine da (de xz (EJ ?_));refine IH (u:=?v55) rfl rfl rfl rfl EA rfl z.row ?h55 ?k55
 case h55=>conv=>lhs;whnf
 exact⟨_,rfl,r,.inr ⟨RQ hV xc hA,l2,xh,xp,.inr ⟨by simpa using c9,vb,rfl,ho⟩⟩⟩
end Go.Proofs.YtiooodckiddpmaaGreatDoor
namespace Go.Sp
open Go.Vc (EC)
def J2 (l:List Cell):Prop:=∀c∈l,∀d∈l,c.key=d.key->c.seq=d.seq->c=d
def J4 (l:List Cell)(c:Cell):Prop:=c∈l/\∀d∈l,d.key=c.key->d.seq<=c.seq
theorem QC (k:EC):∀l:List Cell,(∀c∈l,c.key≠k)\/∃c,J4 l c/\c.key=k
 | []=>.inl λc z=>by cases z
 | a :: r=>by
  by_cases e:a.key=k
  ·right;rcases QC k r with h|⟨c,h,hk⟩
   ·refine⟨a,⟨Al,λd hd he=>?_⟩,e⟩;rcases Aj.1 hd with rfl|hd
    ·exact BQ _
    ·exact absurd (he.trans e) (h d hd)
   ·by_cases hs:a.seq<=c.seq
    ·refine⟨c,⟨Am _ h.1,λd hd he=>?_⟩,hk⟩;rcases Aj.1 hd with rfl|hd
     ·exact hs
     ·exact h.2 d hd he
    ·refine⟨a,⟨Al,λd hd he=>?_⟩,e⟩;rcases Aj.1 hd with rfl|hd
     ·exact BQ _
     ·have:=h.2 d hd (he.trans (e.trans hk.symm));omega
  ·rcases QC k r with h|⟨c,h,hk⟩
   ·left;intro c z;rcases Aj.1 z with rfl|z
    ·exact e
    ·exact h c z
   ·right;refine⟨c,⟨Am _ h.1,λd hd he=>?_⟩,hk⟩;rcases Aj.1 hd with rfl|hd
    ·exact absurd (he.trans hk) e
    ·exact h.2 d hd he
def JI (a b:Cell):Bool:=decide (a.key=b.key)
def Mg (l m:List Cell):Prop:=∃l':List Cell,l'.Perm l/\Up Fa l'/\m=Jp JI l'
theorem X0y {x p:Cell}(h:Fa x p=false)(hk:¬ x.key=p.key):Fg p.key x.key=true:=by
 rcases JK x.key p.key with e|e|e
 ·exact absurd e hk
 ·have:Fa x p=true:=(Jf x p).2 (.inl e);rw[this]at h;cases h
 ·exact e
theorem SK {x p:Cell}(h:Fa x p=false)(hk:x.key=p.key):x.seq<=p.seq:=by
 refine Int.not_lt.1 λr=>?_;have:Fa x p=true:=(Jf x p).2 (.inr ⟨hk,r⟩);rw[this]at h;cases h
theorem XZ : ∀(r:List Cell) (p:Cell),Up Fa (p :: r)->J2 (p :: r)->(IQ (Je JI p r)/\(∀c∈Je JI p r,Fg p.key c.key=true))/\∀c,c∈Je JI p r↔(c.key≠p.key/\J4 r c)
 | [],p,_,_=>⟨⟨Bp,λc z=>(by cases z)⟩,λc=>⟨λz=>(by cases z),λz=>(by cases z.2.1)⟩⟩
 | x :: r,p,hu,hq=>by
  have Y:Up Fa (x :: r):=(AQ.1 hu).2;have ha:=(AQ.1 hu).1 x Al;obtain⟨⟨i1,i2⟩,i3⟩:=XZ r x Y (λc z d hd=>hq c (Am _ z) d (Am _ hd));have J:∀c:Cell,c.key≠x.key->(J4 (x :: r) c↔J4 r c):=λc z=>by
   constructor
   ·rintro ⟨h1,h2⟩;rcases Aj.1 h1 with rfl|h1
    ·exact absurd rfl z
    ·exact⟨h1,λd hd=>h2 d (Am _ hd)⟩
   ·rintro ⟨h1,h2⟩;refine⟨Am _ h1,λd hd he=>?_⟩;rcases Aj.1 hd with rfl|hd
    ·exact absurd he.symm z
    ·exact h2 d hd he
  unfold Je
  by_cases e:x.key=p.key
  ·rw[if_pos (show JI x p=true by simpa [JI]using e)];refine⟨⟨i1,λc z=>e▸i2 c z⟩,λc=>?_⟩;rw[i3 c,<-e]
   constructor
   ·rintro ⟨h1,h2⟩;exact⟨h1,(J c h1).2 h2⟩
   ·rintro ⟨h1,h2⟩;exact⟨h1,(J c h1).1 h2⟩
  ·rw[if_neg (show¬ JI x p=true by simpa [JI]using e)];have O:=X0y ha e;refine⟨⟨AQ.2 ⟨i2,i1⟩,λc z=>?_⟩,λc=>?_⟩
   ·rcases Aj.1 z with rfl|z
    ·exact O
    ·exact Jl _ _ _ O (i2 c z)
   ·have Z:J4 (x :: r) x:=⟨Al,λd hd he=>by
     rcases Aj.1 hd with rfl|hd
     ·exact BQ _
     ·exact SK ((AQ.1 Y).1 d hd) he⟩
    constructor
    ·intro z;rcases Aj.1 z with rfl|z
     ·exact⟨e,Z⟩
     ·have h1:=(i3 c).1 z;exact⟨λe2=>(by have:=Jl _ _ _ O (i2 c z);rw[e2,I1]at this;cases this),(J c h1.1).2 h1.2⟩
    ·rintro ⟨h1,h2⟩
     by_cases e2:c.key=x.key
     ·have:c=x:=hq c (Am _ h2.1) x (Am _ Al) e2 (by
       have g1:=h2.2 x Al e2.symm;have g2:=Z.2 c h2.1 e2;omega)
      rw[this];exact Al
     ·exact Am _ ((i3 c).2 ⟨e2,(J c e2).1 h2⟩)
theorem Pm {l m:List Cell}(hq:J2 l)(h:Mg l m):IQ m/\∀c,c∈m↔J4 l c:=by
 obtain⟨l',J,hu,rfl⟩:=h;have Z:∀c,J4 l c↔J4 l' c:=λc=>by
  unfold J4
  constructor
  ·rintro ⟨h1,h2⟩;exact⟨J.mem_iff.2 h1,λd hd=>h2 d (J.mem_iff.1 hd)⟩
  ·rintro ⟨h1,h2⟩;exact⟨J.mem_iff.1 h1,λd hd=>h2 d (J.mem_iff.2 hd)⟩
 have Y:J2 l':=λc z d hd=>hq c (J.mem_iff.1 z) d (J.mem_iff.1 hd)
 suffices hs:IQ (Jp JI l')/\∀c,c∈Jp JI l'↔J4 l' c from⟨hs.1,λc=>(hs.2 c).trans (Z c).symm⟩
 clear Z J hq
 cases l' with
 | nil=>exact⟨Bp,λc=>⟨λz=>(by cases z),λz=>(by cases z.1)⟩⟩
 | cons x r=>
  obtain⟨⟨i1,i2⟩,i3⟩:=XZ r x hu Y;refine⟨AQ.2 ⟨i2,i1⟩,λc=>?_⟩;have O:J4 (x :: r) x:=⟨Al,λd hd he=>by
   rcases Aj.1 hd with rfl|hd
   ·exact BQ _
   ·exact SK ((AQ.1 hu).1 d hd) he⟩
  unfold Jp
  constructor
  ·intro z;rcases Aj.1 z with rfl|z
   ·exact O
   ·have h1:=(i3 c).1 z;refine⟨Am _ h1.2.1,λd hd he=>?_⟩;rcases Aj.1 hd with rfl|hd
    ·exact absurd he.symm h1.1
    ·exact h1.2.2 d hd he
  ·intro h2
   by_cases e2:c.key=x.key
   ·have:c=x:=Y c h2.1 x Al e2 (by
     have g1:=h2.2 x Al e2.symm;have g2:=O.2 c h2.1 e2;omega)
    rw[this];exact Al
   ·refine Am _ ((i3 c).2 ⟨e2,?_⟩);rcases Aj.1 h2.1 with rfl|h1
    ·exact absurd rfl e2
    ·exact⟨h1,λd hd=>h2.2 d (Am _ hd)⟩
def Told (l:List Cell)(M:List Rw):Prop:=(M.Pairwise λa b=>Fg a.key b.key=true)/\∀r,r∈M↔∃c,J4 l c/\c.del=false/\r=⟨c.key,c.val,false⟩
def QT (m:List Cell):List Rw:=(m.filter λc=>!c.del).map λc=>⟨c.key,c.val,false⟩
theorem Yb9 {l m:List Cell}(hq:J2 l)(h:Mg l m):Told l (QT m):=by
 obtain⟨h1,h2⟩:=Pm hq h;refine⟨?_,λr=>?_⟩
 ·unfold QT;rw[List.pairwise_map];exact E9 (λh=>h) (CB _ h1)
 ·unfold QT;simp only [List.mem_map,A3,Bool.not_eq_true']
  constructor
  ·rintro ⟨c,⟨hc,hd⟩,rfl⟩;exact⟨c,(h2 c).1 hc,hd,rfl⟩
  ·rintro ⟨c,hc,hd,rfl⟩;exact⟨c,⟨(h2 c).2 hc,hd⟩,rfl⟩
theorem Ru {l l':List Cell}{M:List Rw}(h:Told l M)(hs:∀c∈l',c∈l)(hk:∀c,J4 l c->c∈l'\/(c.del=true/\∀d∈l',d.key≠c.key)):Told l' M:=by
 refine⟨h.1,λr=>?_⟩;rw[h.2 r]
 constructor
 ·rintro ⟨c,hc,hd,rfl⟩;rcases hk c hc with h1|⟨h1,_⟩
  ·exact⟨c,⟨h1,λd hd he=>hc.2 d (hs d hd) he⟩,hd,rfl⟩
  ·rw[h1]at hd;cases hd
 ·rintro ⟨c,hc,hd,rfl⟩;rcases QC c.key l with h1|⟨t,ht,htk⟩
  ·exact absurd rfl (h1 c (hs c hc.1))
  ·rcases hk t ht with h2|⟨_,h2⟩
   ·refine⟨c,⟨hs c hc.1,λd hd he=>?_⟩,hd,rfl⟩;have g1:=ht.2 d hd (he.trans htk.symm);have g2:=hc.2 t h2 htk;omega
   ·exact absurd htk.symm (h2 c hc.1)
def HE (M:List Rw)(c:Cell):List Rw:=(M.filter λr=>Fg r.key c.key)++((if c.del then[]else[⟨c.key,c.val,false⟩])++M.filter λr=>Fg c.key r.key)
theorem Xxk {l:List Cell}{M:List Rw}{c:Cell}(h:Told l M)(hn:∀d∈l,d.key=c.key->d.seq<c.seq):Told (c :: l) (HE M c):=by
 have J:∀d:Cell,J4 (c :: l) d↔(d=c\/(d.key≠c.key/\J4 l d)):=λd=>by
  constructor
  ·rintro ⟨h1,h2⟩;rcases Aj.1 h1 with rfl|h1
   ·exact .inl rfl
   ·refine .inr ⟨λe=>?_,h1,λx z=>h2 x (Am _ z)⟩;have g1:=h2 c Al e.symm;have g2:=hn d h1 e;omega
  ·rintro (rfl|⟨h1,h2⟩)
   ·refine⟨Al,λx z he=>?_⟩;rcases Aj.1 z with rfl|z
    ·exact BQ _
    ·have:=hn x z he;omega
   ·refine⟨Am _ h2.1,λx z he=>?_⟩;rcases Aj.1 z with rfl|z
    ·exact absurd he.symm h1
    ·exact h2.2 x z he
 refine⟨?_,λr=>?_⟩
 ·unfold HE;refine Bs.2 ⟨CB _ h.1,Bs.2 ⟨?_,CB _ h.1,λx z y O=>?_⟩,λx z y O=>?_⟩
  ·split
   ·exact Bp
   ·exact List.pairwise_singleton _ _
  ·split at z
   ·cases z
   ·rw[Ah.1 z];exact(A3.1 O).2
  ·have Y:=(A3.1 z).2;rcases Aw.1 O with O|O
   ·split at O
    ·cases O
    ·rw[Ah.1 O];exact Y
   ·exact Jl _ _ _ Y (A3.1 O).2
 ·have hM:r∈HE M c↔((r∈M/\r.key≠c.key)\/(c.del=false/\r=⟨c.key,c.val,false⟩)):=by
   unfold HE;simp only [Aw,A3]
   constructor
   ·rintro (⟨h1,h2⟩|h1|⟨h1,h2⟩)
    ·exact .inl ⟨h1,MN h2⟩
    ·split at h1
     ·cases h1
     ·rename_i Z;exact .inr ⟨by simpa using Z,Ah.1 h1⟩
    ·exact .inl ⟨h1,(MN h2).symm⟩
   ·rintro (⟨h1,h2⟩|⟨h1,rfl⟩)
    ·rcases JK r.key c.key with e|e|e
     ·exact absurd e h2
     ·exact .inl ⟨h1,e⟩
     ·exact .inr (.inr ⟨h1,e⟩)
    ·right;left;rw[if_neg (by rw[h1];decide)];exact Ah.2 rfl
  rw[hM,h.2 r]
  constructor
  ·rintro (⟨⟨d,hd,h1,rfl⟩,h2⟩|⟨h1,rfl⟩)
   ·exact⟨d,(J d).2 (.inr ⟨h2,hd⟩),h1,rfl⟩
   ·exact⟨c,(J c).2 (.inl rfl),h1,rfl⟩
  ·rintro ⟨d,hd,h1,rfl⟩;rcases(J d).1 hd with rfl|⟨h2,h3⟩
   ·exact .inr ⟨h1,rfl⟩
   ·exact .inl ⟨⟨d,h3,h1,rfl⟩,h2⟩
theorem Ug {l l':List Cell}{M:List Rw}(h:Told l M)(he:∀c,c∈l↔c∈l'):Told l' M:=
 Ru h (λc r=>(he c).2 r) λc r=>.inl ((he c).1 r.1)
theorem WL : ∀(cs:List Cell) {l:List Cell} {M:List Rw},Told l M->IQ cs->(∀d∈l,∀c∈cs,d.key=c.key->d.seq<c.seq)->Told (cs++l) (cs.foldl HE M)
 | [],l,M,h,_,_=>h
 | c :: cs,l,M,h,hk,hn=>by
  rw[IQ,AQ]at hk;have h1:=Xxk (c:=c) h (λd hd=>hn d hd c Al);have h2:=WL cs h1 hk.2 λd hd x r he=>by
   rcases Aj.1 hd with rfl|hd
   ·have:=hk.1 x r;rw[he,I1]at this;cases this
   ·exact hn d hd x (Am _ r) he
  refine Ug h2 λx=>?_;simp only [Aw,Aj]
  constructor
  ·rintro (h|h|h)
   ·exact .inl (.inr h)
   ·exact .inl (.inl h)
   ·exact .inr h
  ·rintro ((h|h)|h)
   ·exact .inr (.inl h)
   ·exact .inl h
   ·exact .inr (.inr h)
end Go.Sp
namespace Go.Vc
open Go.RowKit
section
variable {α:Type}{enc:α->List Value}{sz T B:Nat}{w:World}
variable {P:Program}{n:Nat}{E:Fh}{ds:List (Option Tmp)}{R:World->World->Prop}{rs:List (Oper×Fl×Bool)}{K:Fh->World->Prop}{d:Nat}{pos:String}{af:Array Edge}{g:Option (Nat×Bool)}{anc:Bool}{ty:TypeId}
theorem Xxl {s x:Operand}{t ti e by' m:Nat}(henc:∀x,(enc x).length=sz)(hg:FK ds E g=true)(ht:IC P t=some (e,sz))(hE:M5 P e sz by'=true)(hti:HG P ti=some .i64)
  (hs:ev E s=.slice none 0 0) (hx:ev E x=I ↑m) (hm:0<m) (hbytes:m*by'<=140737488355328) (hby:1<=by') (hB:B<=w.heap.size) (hR:RX R anc)
  (h:∀v' w',Gd v' m->Own enc sz e B w' (G7 sz v' 0 0) []->ED w w'->Dw P n ds R rs K (FT E d v') w') :
  Dw P n ds R ((⟨some d,.call { callee:=.builtin .append,args:=#[s,x],argTypes:=#[t,ti] },ty,pos,af,g⟩,.x,anc) :: rs) K E w:=by
 obtain⟨hu,_⟩:=JL ht;obtain⟨i,z,hi,hz,J,r,hj,hq⟩:=Ov hE;have Y:P.underlying ti=some (.int .i64):=by
  unfold HG at hti;split at hti
  ·rename_i k hk;cases hti;exact hk
  ·cases hti
 have hml:m<=140737488355328:=by have:=Nat.mul_le_mul_left m hby;omega
 have hc:IntKind.i64.wrap (m:Int)=m:=KB (by unfold EU;omega);have h0:¬ ((m:Int)<0):=by omega
 have ha:¬ (281474976710656<(m:Int)*(i.bytes:Int)):=by
  rw[r];have:((m*by':Nat):Int)<=140737488355328:=by omega
  rw[Int.natCast_mul]at this;omega
 have hn:m≠0:=by omega
 have hp:¬ (9223372036854775807<(m:Int)):=by omega
 have hh:¬ (281474976710656<Builtin.nextslicecap m 0*i.bytes):=by rw[nextslicecap_zero hm,r];omega
 have hf:¬ m*i.size=0:=by rw[J];exact Nat.ne_of_gt (Nat.mul_pos hm hq)
 have Z:¬ i.size=0:=by omega
 have hb:grownCap w m 0 e<=maxLen:=grownCap_le_maxLen w m 0 e (by unfold maxLen;omega);have hl:=grownCap_ge w m 0 e;have hr:(Builtin.append_ #[t,ti] ty #[.slice none 0 0,I ↑m]).run P w=.ok (.slice (some ⟨w.heap.size,0,none⟩) m (grownCap w m 0 e)) (w.drew.alloc (.cells (Builtin.zeroCells z.cells m++Builtin.zeroCells z.cells (grownCap w m 0 e-m)) e)):=by
  simp [Builtin.append_,run_underlying hu,run_underlying Y,sizeOf,typeInfo,zeroValue,hi,hz,hn,hp,hh,Question.forced,run_firstCells_none,newRow,grownCap,asInt,asIntOf,hc,h0,ha,hf,Z]
 have O:ED w (w.drew.alloc (.cells (Builtin.zeroCells z.cells m++Builtin.zeroCells z.cells (grownCap w m 0 e-m)) e)):=ED.trans (ED.drew _) (ED.alloc _ _);refine HM (v:=.slice (some ⟨w.heap.size,0,none⟩) m (grownCap w m 0 e)) (w':=_) hg ?_ (hR.use O) (h _ _ (.inr (.inl ⟨_,_,_,rfl,hl⟩)) ?_ O)
 ·simp only [execOp,resolve,invoke,builtin,Sem.run_bind,Sem.run_pure,Result.andThen_ok,List.map_toArray,An,List.map_nil,hs,hx,hr]
 ·refine⟨by simp,.inr ⟨w.heap.size,grownCap w m 0 e,Builtin.zeroCells z.cells m++Builtin.zeroCells z.cells (grownCap w m 0 e-m),?_,hB,?_,Ae _,hb,?_,by simp⟩⟩
  ·simp [G7,Addr.add]
  ·exact heap_alloc_new w.drew _
  ·simp only [Array.size_append,size_zeroCells,hj,<-Nat.add_mul]
   congr 1;omega
end
end Go.Vc
namespace Go.Proofs.YtiooodckiddpmaaGreatDoor
open Go.Vc Go.Sp
attribute [local irreducible] W XW Dw Gs
def IZ (a b:Cell):Int:=if Fa a b=true then -1 else if Fa b a=true then 1 else 0
theorem T2 : Fz IZ=Fa:=by
 funext a b
 unfold Fz IZ
 cases h:Fa a b with
 | true=>simp
 | false=>
  cases h2:Fa b a with
  | true=>simp
  | false=>simp
theorem X0z : Ord Fa:=⟨λx y z h1 h2=>(by
 cases h:Fa z x with
 | false=>rfl
 | true=>
  cases h3:Fa x y with
  | true=>rw[N2 h h3]at h2;cases h2
  | false=>
   have r:=Sa h1 h3;have:=Jf z x;rw[h]at this;have h4:Fa z y=true:=(Jf z y).2 (by
    rcases this.1 rfl with e|⟨e1,e2⟩
    ·exact .inl (by rw[r.1];exact e)
    ·exact .inr ⟨e1.trans r.1.symm,by omega⟩)
   rw[h4]at h2;cases h2),λx y h=>Xsy h⟩
theorem X6p : Ord (Fz IZ):=T2▸X0z
@[reducible] def KP (q:Value×List Cell):List Value:=[q.1]
theorem Wj {qs:List (Value×List Cell)}{k:Nat}{q:Value×List Cell}(h:qs[k]?=some q):(qs.take (k+1)).flatMap (·.2)=(qs.take k).flatMap (·.2)++q.2:=by
 obtain⟨hk,rfl⟩:=Ap.1 h;rw[List.take_succ_eq_append_getElem hk,AU];simp
theorem Sh (qs:List (Value×List Cell))(k:Nat):((qs.take k).flatMap (·.2)).length<=(qs.flatMap (·.2)).length:=by
 have h:=congrArg (λm=>(m.flatMap (·.2)).length) (List.take_append_drop k qs);simp only [AU,Aa]at h;omega
theorem VN {l cur:List Cell}{k i n:Nat}(hc:cur.length=l.length)(he:∀j,n<=j+1->cur[j]?=l[j]?)(hi:n<=k+i+1):((cur.take l.length).drop k)[i]?=l[k+i]?:=by
 rw[<-hc,AI,List.getElem?_drop,he _ hi]
theorem Yca (a b:Cell)(w:World) :
  Calls Tryz.prog 98 [a.v,b.v].toArray w (Pure w (I (IZ a b))):=by
 refine cw Tryz.func98 ?_;have r:=ED.refl w;refine ws λ_ Z1=>wr (Gn rfl rfl rfl RX.all (λb1 w1 e1 x1 z=>?_));have g1:=r.ge e1;have r:=r.trans x1;refine Gn rfl rfl rfl RX.all (λb2 w2 e2 x2 O=>?_);have g2:=r.ge e2;have n2_1:=z.ltb e2;have z:=z.ext x2;have r:=r.trans x2;refine da (de Z1 (ws λ_ Z2=>EM (ws λ_ Z3=>wr ?_)));refine dq (Fe (k:=4) EA rfl rfl z.row) (dq (Fe (k:=4) EA rfl rfl O.row) (cP (Ns a b _) RX.all λw3 Z=>?_));have z:=z.ext Z;have O:=O.ext Z;have r:=r.trans Z;refine da (de Z3 ?_);refine wc (λJ=>?_) λJ=>?_
 ·refine ws λ_ Z4=>wr (da (de Z4 (EJ ?_)));refine ro ?_;refine⟨?_,r⟩;unfold IZ;rw[if_pos J]
 refine ws λ_ Z5=>wr (dq (Fe (k:=4) EA rfl rfl O.row) (dq (Fe (k:=4) EA rfl rfl z.row) (cP (Ns b a _) RX.all λw4 x4=>?_)));have r:=r.trans x4;refine da (de Z5 ?_);refine wc (λY=>?_) λY=>?_
 ·refine ws λ_ Z6=>wr (da (de Z6 (EJ ?_)));refine ro ?_;refine⟨?_,r⟩;unfold IZ;rw[if_neg (by rw[J];decide),if_pos Y]
 refine EI (Z2 _ _ (ws λ_ Z7=>wr (da (de Z7 (EJ ?_)))));refine ro ?_;refine⟨?_,r⟩;unfold IZ;rw[if_neg (by rw[J];decide),if_neg (by rw[Y];decide)]
theorem Ycb (a b:Cell)(w:World) :
  Calls Tryz.prog 101 [a.v,b.v].toArray w (Pure w (B (JI a b))):=by
 refine cw Tryz.func101 ?_;have r:=ED.refl w;refine ws λ_ Z=>wr (Gn rfl rfl rfl RX.all (λb1 w1 e1 x1 z=>?_));have g1:=r.ge e1;have r:=r.trans x1;refine Gn rfl rfl rfl RX.all (λb2 w2 e2 J Y=>?_);have g2:=r.ge e2;have n2_1:=z.ltb e2;have z:=z.ext J;have r:=r.trans J;refine da (de Z (ws λ_ O=>wr ?_));refine df 0 rfl (dl rfl (z.at rfl) (df 0 rfl (dl rfl (Y.at rfl) (dp (MU rfl rfl) (da (de O (EJ ?_)))))));refine ro ?_;exact⟨rfl,r⟩
theorem X6q (n:Nat)(w:World)(hn:n<=10000000) :
  Calls Tryz.prog 179 [.slice none 0 0,I ↑n].toArray w (ES w (λu w'=>Vc.Own Cell.cs 4 79 w.heap.size w' u [])):=by
 refine cw Tryz.func179 ?_;have r:=ED.refl w;refine ws λ_ Z1=>wr (da (de Z1 (ws λ_ Z2=>ws λ_ Z3=>wr (dm ?_))));refine dp (Fb rfl rfl) (de Z3 (wi (λc1=>?_) λc1=>?_))
 ·omega
 refine EI (Z2 _ _ (ws λ_ J=>ws λ_ Z5=>wr (dm (dm ?_))));refine dp (UV (e:=79) (k:=4) EA rfl) (dm ?_);refine dp (QS (e:=79) (k:=4) (n:=0) EA (.inl ⟨rfl,rfl⟩) rfl) (EW (v:=I 0) rfl (Gr (a:=0) (b:=0) rfl rfl (by unfold EU;omega)) rfl (EW (v:=I ↑n) rfl (Gr rfl rfl (by unfold EU;omega)) (by show I _=I _;rfl) (da (de Z5 (ws λ_ Z=>wr (dm ?_))))));refine dp (Gg rfl rfl) (de Z (wi (λY=>?_) λY=>?_))
 ·refine wr (dm (dm ?_));refine dp (UV (e:=79) (k:=4) EA rfl) (EW (v:=.slice none 0 0) rfl (IS (e:=79) (k:=4) (m:=0) (a:=0) (b:=0) EA (.inl ⟨rfl,rfl⟩) rfl rfl rfl (Ab 0) (Ab 0)) rfl (dm ?_));refine Xxl (enc:=Cell.cs) (sz:=4) (e:=79) (m:=n) (by':=48) (B:=w.heap.size) EF rfl EA EA EA rfl rfl EB EB EN r.size RX.all (λva w1 z ho x1=>?_);have r:=r.trans x1;refine dm ?_;refine dp (QS (e:=79) (k:=4) (n:=0) EA (.inl ⟨rfl,rfl⟩) rfl) (dp (IS (e:=79) (k:=4) (a:=0) (b:=0) EA z rfl rfl rfl (Ab 0) (Ae _)) (da (de J (ws λ_ Z7=>wr (dm (da (de Z7 (EJ ?_))))))));refine ro ?_;exact⟨_,rfl,r,ho⟩
 refine EI (J _ _ (ws λ_ O=>wr (dm (da (de O (EJ ?_))))));refine ro ?_;exact⟨_,rfl,r,Vc.Own.nil⟩
theorem Xxo (qs:List (Value×List Cell))(v:Value)(w:World)(hv:EQ KP 1 w v qs)(hq:∀q∈qs,EQ Cell.cs 4 w q.1 q.2)(hl:qs.length<=1000000)(htot:(qs.flatMap (·.2)).length<=10000000) :
  Calls Tryz.prog 96 [v].toArray w (ES w (λu w'=>Vc.Own Cell.cs 4 79 w.heap.size w' u (qs.flatMap (·.2)))):=by
 refine cw Tryz.func96 ?_;have r:=ED.refl w;refine ws λ_ Z1=>wr (da (de Z1 (ws λ_ Z2=>wr (da (de Z2 (ws λ_ Z3=>ws λ_ Z4=>wr (dm ?_)))))));refine dv 95 1 (hv.ext r).sl (dm (de Z4 (EM ?_)));refine Fq (G:=Nat) (λk=>[(0,v),(2,.slice none 0 0),(3,I ↑((qs.take k).flatMap (·.2)).length),(9,v),(10,I ↑qs.length),(11,I ↑k)]) (λk w'=>ED w w'/\k<=qs.length) (λk=>qs.length-k) 0 ?_ ?_ ?_
 ·exact G2
 ·exact⟨r,Ae _⟩
 intro X1 g1 w1 Y;revert Y;revert g1;intro k Y;clear r;obtain⟨r,hk1⟩:=Y;refine ws λ_ Z5=>wr (dp (Fb rfl rfl) (de Z5 (ws λ_ Z6=>wi (λc1=>?_) λc1=>?_)))
 ·obtain⟨q,hk⟩:∃q,qs[k]?=some q:=Fw;have O:=hq q (Ak hk);have J:=Wj hk;have ht:=Sh qs (k+1);have z:=congrArg AC J;rw[Aa]at z;refine EI (Z6 _ _ (ws λ_ Z7=>EM (ws λ_ Z8=>wr (di 95 1 hv.sl rfl (hv.lt hk) (dl rfl (((hv.ext r).row hk).at0 rfl) (da (de Z8 (ws λ_ Z9=>wr (dm (dm ?_))))))))));refine dv 79 4 O.sl (EW (v:=I ↑((qs.take (k+1)).flatMap (·.2)).length) rfl (Gy rfl rfl (by unfold EU;omega)) (by show I _=I _;congr 1;omega) (da (de Z9 (ws λ_ hz=>wr (dm ?_)))));refine dp (Fb rfl rfl) (de hz (wi (λc2=>?_) λc2=>?_))
  ·omega
  refine EI (Z7 _ _ (wr (pa rfl rfl (dm (EH (?_))))));exact⟨k+1,G2,⟨r,by omega⟩,by omega⟩
 refine Fk (Z3 _ _ (ws λ_ hy=>wr (dm ?_)));refine cG (X6q ((qs.take k).flatMap (·.2)).length _ (Ai (Sh qs k) htot)) RX.all λvg w2 x2 hw=>?_;have ha:=r.size;have r:=r.trans x2;have ho:=hw.mono ha;refine da (de hy (ws λ_ hr=>ws λ_ hg=>wr (dm ?_)));refine dv 95 1 (hv.ext r).sl (dm (de hg (EM ?_)));refine Fq (G:=Nat×Value) (λ(j,vb)=>[(2,.slice none 0 0),(6,vb),(25,v),(26,I ↑qs.length),(27,I ↑j)]) (λ(j,vb) w'=>ED w w'/\j<=qs.length/\Vc.Own Cell.cs 4 79 w.heap.size w' vb ((qs.take j).flatMap (·.2))) (λ(j,vb)=>qs.length-j) (0,vg) ?_ ?_ ?_
 ·exact FN
 ·exact⟨r,Ae _,by simpa using ho⟩
 intro X3 g3 w3 hc;obtain⟨j,vb⟩:=g3;clear r ho;obtain⟨r,hj1,ho⟩:=hc;refine ws λ_ hf=>wr (dp (Fb rfl rfl) (de hf (ws λ_ hb=>wi (λc3=>?_) λc3=>?_)))
 ·obtain⟨q,hk⟩:∃q,qs[j]?=some q:=Fw;have O:=hq q (Ak hk);have J:=Wj hk;have ht:=Sh qs (j+1);have z:=congrArg AC J;rw[Aa]at z;refine EI (hb _ _ (ws λ_ hp=>EM (ws λ_ hj=>wr (di 95 1 hv.sl rfl (hv.lt hk) (dl rfl (((hv.ext r).row hk).at0 rfl) (da (de hj (wr (dm (dm ?_))))))))));refine Hy (lx:=q.2) (e:=79) (sz:=4) (by':=48) rfl EA EA EF ho ((O.ext r)) rfl rfl (by intro x _ u hu;simp at hu;rcases hu with rfl|rfl|rfl|rfl<;>rfl) EB EN r.size (.inl rfl) (λvp w4 Z x4=>?_);have r:=r.own x4 (λi hi=>(ho.lt i hi).1);have ho:=Z;refine da (de hp (wr ?_));refine pa rfl rfl (dm (EH (?_)));rw[<-J]at ho;exact⟨(j+1,vp),FN,⟨r,by omega,ho⟩,by simp only [];omega⟩
 refine Fk (hr _ _ (ws λ_ hh=>wr (dm (da (de hh (EJ ?_))))));refine ro ?_;rw[Ay EB]at ho;exact⟨_,rfl,r,ho⟩
theorem X6r (l:List Cell)(v:Value)(Bo f:Nat)(p:Cell->Cell->Bool)(w:World)(ho:Vc.Own Cell.cs 4 79 Bo w v l)(hl:l.length<=10000000)(hcb:GM Tryz.prog f=true)(hc:∀w2 x y,Calls Tryz.prog f [Cell.v x,Cell.v y].toArray w2 (Pure w2 (B (p x y)))) :
  Calls Tryz.prog 100 [v,G8 f].toArray w (Ff (λk=>v.ownBlock=some k) w (λu w'=>Vc.Own Cell.cs 4 79 Bo w' u (Jp p l)/\u.ownBlock=v.ownBlock)):=by
 refine cw Tryz.func100 ?_;have r:=Vc.Mod.refl (λk=>v.ownBlock=some k) w;have J:=ho.sl;refine ws λ_ Z1=>wr (da (de Z1 (ws λ_ Z2=>ws λ_ Z3=>wr (dm ?_))));refine dv 79 4 (ho.arr EF).sl (dp (Fb rfl rfl) (de Z3 (wi (λc1=>?_) λc1=>?_)))
 ·refine ws λ_ Z4=>wr (dm (da (de Z4 (EJ ?_))));refine ro ?_;exact⟨_,rfl,r,by rw[Xp1 EB];exact ho,rfl⟩
 refine EI (Z2 _ _ (ws λ_ Z5=>ws λ_ Z6=>wr (da (de Z6 (EM ?_)))));refine Fq (G:=Nat) (λk=>[(0,v),(1,G8 f),(5,I ↑k)]) (λk w'=>Mod (λk=>v.ownBlock=some k) w w'/\1<=k/\k<=l.length/\Jp p (l.take k)=l.take k/\Vc.Own Cell.cs 4 79 Bo w' v l) (λk=>l.length-k) 1 ?_ ?_ ?_
 ·exact Hd
 ·exact⟨r,Ab _,by omega,Xp p l,ho⟩
 intro X1 g1 w1 hb;revert hb;revert g1;intro k hb;clear r ho;obtain⟨r,hk1,hkl,Z,ho⟩:=hb;refine ws λ_ Z7=>ws λ_ Z8=>wr (dm (dm ?_));refine dv 79 4 (ho.arr EF).sl (dp (Fb rfl rfl) (de Z8 (wi (λc2=>?_) λc2=>?_)))
 ·obtain⟨x,hxk⟩:∃x,l[k]?=some x:=Fw;obtain⟨y,hyk⟩:∃x,l[k-1]?=some x:=Fw;refine EI (Z7 _ _ (ws λ_ Z9=>EM (ws λ_ hy=>F9 (R:=ED) ED.refl (λ_ _ _=>ED.trans) EA [4,9] [(0,.p,false),(1,.p,false),(2,.p,false),(3,.p,false),(4,.l,false),(5,.p,false),(6,.p,false),(7,.p,false),(8,.p,false),(9,.l,false),(10,.x,true)] rfl EA EA (λw2 hg=>?_))));have x2:=EL hg;clear hg;have ho:=ho.ext x2;have r:=r.ext x2
  iterate 3 refine dm ?_
  refine di 79 4 (ho.arr EF).sl rfl ((ho.arr EF).lt hxk) (FW rfl (λw' hR=>Fe EA rfl rfl (((ho.arr EF).ext hR).row hxk)) (dm (dm ?_)));refine EW (v:=I ↑(k-1)) rfl (Gr rfl rfl (by unfold EU;omega)) (by show I _=I _;congr 1;omega) (di 79 4 (ho.arr EF).sl rfl ((ho.arr EF).lt hyk) (FW rfl (λw' hR=>Fe EA rfl rfl (((ho.arr EF).ext hR).row hyk)) (KZ (vs:=[x.v,y.v]) rfl rfl hcb (hc _ x y) rfl RX.all (λw3 x3=>?_))));have ho:=ho.ext x3;have r:=r.ext x3;refine de hy (wc (λc3=>?_) λc3=>?_)
  ·refine ws λ_ xc=>wr (dm (dm ?_));refine dp (IS (e:=79) (k:=4) (m:=l.length) (a:=k) (b:=l.length) EA J rfl rfl rfl EB EB) (da (de xc (ws λ_ xd=>ws λ_ ht=>wr (da (de ht (EM ?_))))));refine Fq (G:=Nat×Nat×List Cell) (λ(i,k2,cur)=>[(0,v),(1,G8 f),(5,I ↑k2),(6,G7 4 v k l.length),(7,I ↑i)]) (λ(i,k2,cur) w'=>Mod (λk=>v.ownBlock=some k) w w'/\1<=i/\Kj p l (k+i) k2 cur/\Vc.Own Cell.cs 4 79 Bo w' v cur) (λ(i,k2,cur)=>l.length-(k+i)) (1,k,l) ?_ ?_ ?_
   ·exact FN
   ·exact⟨r,Ab _,Yai EB Z hxk hyk c3,ho⟩
   intro X4 g4 w4 hw;obtain⟨i,k2,cur⟩:=g4;clear r ho;obtain⟨r,hi1,hr,ho⟩:=hw;have ha:=hr.1;have hr2:=hr.2.1;have hr3:=hr.2.2.1;have hlen9:((cur.take l.length).drop k).length=l.length-k:=by rw[Bh,A5];omega
   refine ws λ_ hq=>ws λ_ hp=>wr (dm (dm ?_));refine dv 79 4 ((ho.arr EF).slice (lo:=k) (hi:=l.length) EB EB).sl (dp (Fb rfl rfl) (de hp (wi (λc4=>?_) λc4=>?_)))
   ·obtain⟨x,hxl⟩:∃x,l[k+i]?=some x:=Fw;obtain⟨y,hyl⟩:∃x,l[k+i-1]?=some x:=Fw;have Y:((cur.take l.length).drop k)[i]?=some x:=(VN ha hr.2.2.2.2 EB).trans hxl;have hj:((cur.take l.length).drop k)[i-1]?=some y:=(VN ha hr.2.2.2.2 EB).trans (by rw[<-hyl];congr 1;omega);have h8:=Kh ho (λe=>by rw[e]at ha;simp at ha;omega);refine EI (hq _ _ (ws λ_ hh=>EM (ws λ_ xa=>F9 (R:=ED) ED.refl (λ_ _ _=>ED.trans) EA [4,9] [(0,.p,false),(1,.p,false),(2,.p,false),(3,.p,false),(4,.l,false),(5,.p,false),(6,.p,false),(7,.p,false),(8,.p,false),(9,.l,false),(10,.x,true),(11,.p,false)] rfl EA EA (λw5 hf=>?_))));have x5:=EL hf;clear hf;have ho:=ho.ext x5;have r:=r.ext x5
    iterate 3 refine dm ?_
    refine di 79 4 ((ho.arr EF).slice (lo:=k) (hi:=l.length) EB EB).sl rfl (((ho.arr EF).slice (lo:=k) (hi:=l.length) EB EB).lt Y) (FW rfl (λw' hR=>Fe EA rfl rfl ((((ho.arr EF).slice (lo:=k) (hi:=l.length) EB EB).ext hR).row Y)) (dm (dm ?_)));refine EW (v:=I ↑(i-1)) rfl (Gr rfl rfl (by unfold EU;omega)) (by show I _=I _;congr 1;omega) (di 79 4 ((ho.arr EF).slice (lo:=k) (hi:=l.length) EB EB).sl rfl (((ho.arr EF).slice (lo:=k) (hi:=l.length) EB EB).lt hj) (FW rfl (λw' hR=>Fe EA rfl rfl ((((ho.arr EF).slice (lo:=k) (hi:=l.length) EB EB).ext hR).row hj)) (KZ (vs:=[x.v,y.v]) rfl rfl hcb (hc _ x y) rfl RX.all (λw6 x6=>?_))));have ho:=ho.ext x6;have r:=r.ext x6;refine dn (de xa ?_);refine wc (λc5=>?_) λc5=>?_
    ·refine ws λ_ h5=>wr (dm (dm (dm (dm ?_))));refine di 79 4 ((ho.arr EF).slice (lo:=k) (hi:=l.length) EB EB).sl rfl (((ho.arr EF).slice (lo:=k) (hi:=l.length) EB EB).lt Y) (dq (Fe EA rfl rfl (((ho.arr EF).slice (lo:=k) (hi:=l.length) EB EB).row Y)) (EW (v:=EE (base v).1 (k2*4+0)) rfl (HY (i:=k2) (e:=79) (k:=4) EA ho.sl rfl rfl EB) (by rw[h8];show EE _ (0+_)=_;rw[A9];rfl) ?_));refine HJ (enc:=Cell.cs) (sz:=4) (l:=cur) (i:=k2) (j:=0) (x:=x) (vs:=x.cs) EF rfl ho rfl rfl rfl EA EB rfl (Ab 4) (by intro v hv;simp at hv;rcases hv with rfl|rfl|rfl|rfl<;>rfl) (.inl rfl) (λw7 x7 xs7 O=>?_);have r:=r.own x7 (λi hi xb=>hi);have ho:=O;refine de h5 (wr (dm ?_));refine pa rfl rfl (da (de hh (wr (dm ?_))));refine pa rfl rfl (da (EH (?_)));exact⟨(i+1,k2+1,_),FN,⟨r,by omega,Xr9 hr hxl hyl (by simpa using c5),ho⟩,by simp only [];omega⟩
    refine EI (hh _ _ (wr (dm ?_)));refine pa rfl rfl (da (EH (?_)));exact⟨(i+1,k2,cur),FN,⟨r,by omega,Xxb hr hxl hyl (by simpa using c5),ho⟩,by simp only [];omega⟩
   refine Fk (xd _ _ (ws λ_ h9=>wr (dm (dm ?_))));refine dp (IS (e:=79) (k:=4) (m:=cur.length) (a:=k2) (b:=cur.length) EA ho.sl rfl rfl rfl EB EB) ?_;refine Te (enc:=Cell.cs) (sz:=4) (e:=79) (l:=cur) (k:=k2) (zs:=[S [],S [],B false,.int .i64 0]) EF rfl EA EA rfl EN (by intro z hz;simp at hz;rcases hz with rfl|rfl|rfl|rfl<;>rfl) ho rfl EB (.inl rfl) (λw8 x8 xs8 O=>?_);have r:=r.own x8 (λi hi xb=>hi);have ho:=O;refine de h9 (ws λ_ h6=>wr (dm (dm ?_)));refine dp (IS (e:=79) (k:=4) (m:=l.length) (a:=0) (b:=k2) EA J rfl rfl rfl EB EB) (da (de h6 (EJ ?_)));refine ro ?_;rw[hr.2.2.2.1,Ay EB]at ho;exact⟨_,rfl,r,ho,Xn4 J⟩
  refine EI (Z9 _ _ (wr (dm ?_)));refine pa rfl rfl (da (EH (?_)));exact⟨k+1,Hd,⟨r,by omega,by omega,by rw[PD EB hxk hyk,if_neg (by rw[c3];decide),Z,List.take_add_one,hxk];rfl,ho⟩,by omega⟩
 refine Fk (Z5 _ _ (ws λ_ h7=>wr (dm (da (de h7 (EJ ?_))))));refine ro ?_;rw[Ay EB]at Z;exact⟨_,rfl,r,by rw[Z];exact ho,rfl⟩
theorem XY (qs:List (Value×List Cell))(v:Value)(w:World)(hv:EQ KP 1 w v qs)(hq:∀q∈qs,EQ Cell.cs 4 w q.1 q.2)(hl:qs.length<=1000000)(htot:(qs.flatMap (·.2)).length<=10000000) :
  Calls Tryz.prog 45 [v].toArray w (ES w (λu w'=>∃m,Mg (qs.flatMap (·.2)) m/\Vc.Own Cell.cs 4 79 w.heap.size w' u m)):=by
 refine cw Tryz.func45 ?_;have r:=ED.refl w;refine ws λ_ Z1=>wr (da (de Z1 (ws λ_ Z2=>wr (dm ?_))));refine cG (Xxo qs v _ (hv.ext r) (λq h=>(hq q h).ext r) hl htot) RX.all λvb w1 x1 Z=>?_;have O:=r.size;have r:=r.trans x1;have ho:=Z.mono O;refine da (de Z2 (ws λ_ Z3=>wr (dm ?_)));refine cD (Yan _ vb w.heap.size 98 IZ _ ho htot EA (λY x y=>Yca x y Y) X6p) (.inl rfl) λu2 Y x2 ha=>?_;have hsz2:=r.size;have r:=r.own x2 (λi hi=>(ho.lt i hi).1);obtain⟨rfl,l2,ho,J,z⟩:=ha;rw[T2]at z;refine de Z3 (ws λ_ Z4=>wr (dm ?_));refine cD (X6r l2 vb w.heap.size 101 JI _ ho (by have:=J.length_eq;omega) EA (λY x y=>Ycb x y Y)) (.inl rfl) λvr w3 x3 hb=>?_;have hsz3:=r.size;have r:=r.own x3 (λi hi=>(ho.lt i hi).1);obtain⟨ho,_⟩:=hb;refine da (de Z4 (EJ ?_));refine ro ?_;exact⟨_,rfl,r,_,⟨l2,J,z,rfl⟩,ho⟩
def JS (s:List (List Cell)×Nat)(c:Cell):List (List Cell)×Nat:=if s.1=[]\/4096<s.2+Gt c then(s.1++[[c]],Gt c)else(s.1.dropLast++[s.1.getLastD []++[c]],s.2+Gt c)
def Iq (l:List Cell)(k:Nat):List (List Cell)×Nat:=(l.take k).foldl JS ([],0)
def F8 (l:List Cell):List (List Cell):=(l.foldl JS ([],0)).1
theorem NV {l:List Cell}{k:Nat}{c:Cell}(h:l[k]?=some c):Iq l (k+1)=JS (Iq l k) c:=by
 unfold Iq;rw[G1 h,B4];rfl
theorem QU {l:List Cell}{k:Nat}(h:l.length<=k):(Iq l k).1=F8 l:=by unfold Iq F8;rw[Ay h]
theorem Xp7 (s:List (List Cell)×Nat)(c:Cell):(JS s c).1.flatten=s.1.flatten++[c]/\(JS s c).1.length<=s.1.length+1:=by
 unfold JS;split
 ·simp
 ·rename_i h;rw[not_or]at h;rcases List.eq_nil_or_concat s.1 with e|⟨a,b,e⟩
  ·exact absurd e h.1
  ·rw[e];simp
theorem Nx (l:List Cell):∀k,k<=l.length->(Iq l k).1.flatten=l.take k/\(Iq l k).1.length<=k
 | 0,_=>⟨rfl,Ab _⟩
 | k+1,h=>by
  have r:=Nx l k EB;have hk:l[k]?=some l[k]:=Ar EB;have h2:=Xp7 (Iq l k) l[k];rw[NV hk,h2.1,r.1,<-G1 hk];exact⟨rfl,by omega⟩
theorem QA (l:List Cell):(F8 l).flatten=l:=by
 rw[<-QU (Ab l.length),(Nx l _ (Ab _)).1,AI]
theorem WO {ss:List (List Cell)}{l sg:List Cell}(h:ss.flatten=l)(hs:sg∈ss):sg.length<=l.length:=by
 subst h;rw[List.length_flatten]
 induction ss with
 | nil=>cases hs
 | cons a r ih=>
  simp only [An,List.sum_cons];rcases Aj.1 hs with rfl|hs
  ·omega
  ·have:=ih hs;omega
theorem UE {l:List Cell}(hc:∀c∈l,Gt c<=30000):∀k,k<=l.length->(Iq l k).2<=30000
 | 0,_=>Ae _
 | k+1,h=>by
  have hk:l[k]?=some l[k]:=Ar EB;rw[NV hk];have:=hc l[k] (List.getElem_mem _);unfold JS;split
  ·exact this
  ·rename_i h2;rw[not_or]at h2;show(Iq l k).2+Gt l[k]<=30000;omega
theorem Ue {s:List (List Cell)×Nat}{c:Cell}(h:s.1=[]\/4096<s.2+Gt c):JS s c=(s.1++[[]++[c]],0+Gt c):=by unfold JS;rw[if_pos h,A9];rfl
theorem Xtg {ss:List (List Cell)}{s:List Cell}{z:Nat}{c:Cell}(h:¬ 4096<z+Gt c):JS (ss++[s],z) c=(ss++[s++[c]],z+Gt c):=by
 unfold JS;rw[if_neg (by rw[not_or];exact⟨by simp,h⟩)];simp
structure Md where
 f:Fi
 vl:Value
 vb:Value
@[reducible] def Md.cs (m:Md):List Value:=[I m.f.id,I m.f.lev,I m.f.size,S m.f.fst,S m.f.lst,m.vl,m.vb]
@[reducible] def Md.v (m:Md):Value:=.agg ⟨m.cs⟩
structure MdR (w:World)(v:Value)(l:List Md):Prop where
 row:∀ {i:Nat} {x:Md},l[i]?=some x->I9 w (base v).1 (i*7+0) x.cs
section
variable {b0 B B1:Nat}{lv next:Int}{w w':World}{v va:Value}{S:Nat->Prop}
theorem RA {l:List Md}(h:Vc.Own Md.cs 7 161 B w v l):MdR w v l:=⟨λ {i x} hi=>by
 have h2:=(h.arr EF).row hi;rw[Kh h (λe=>by rw[e]at hi;simp at hi),A9]at h2;exact h2⟩
theorem Pi {α:Type}(ys:List α)(x z:α):(ys++[x]).getD ys.length z=x:=by simp
theorem PA {α:Type}(ys:List α)(x z:α):(ys++[x]).set ys.length z=ys++[z]:=by simp
def LW (b0:Nat)(lv next:Int)(i:Nat)(x:Md)(sg:List Cell)(w:World):Prop:=x.f.id=next+↑i/\x.f.lev=lv/\x.f.size=0/\x.f.fst=(Gh sg 0).key/\x.f.lst=(Gh sg (sg.length-1)).key/\x.vb=.slice none 0 0/\sg≠[]/\Vc.Own Cell.cs 4 79 b0 w x.vl sg
theorem LW.mod {i:Nat}{x:Md}{sg:List Cell}(h:LW b0 lv next i x sg w)(m:Vc.Mod S w w')(hS:∀k,x.vl.ownBlock=some k->¬ S k):LW b0 lv next i x sg w':=by
 obtain⟨h1,h2,h3,h4,r,O,J,z⟩:=h;exact⟨h1,h2,h3,h4,r,O,J,z.mod m hS⟩
def Js (b0 B1:Nat)(lv next:Int)(ys:List Md)(ss:List (List Cell))(w:World):Prop:=ys.length=ss.length/\∀i x sg,ys[i]?=some x->ss[i]?=some sg->LW b0 lv next i x sg w/\∀k,x.vl.ownBlock=some k->k<B1
theorem Js.mod {ys:List Md}{ss:List (List Cell)}(h:Js b0 B1 lv next ys ss w)(m:Vc.Mod S w w')(hS:∀x∈ys,∀k,x.vl.ownBlock=some k->¬ S k):Js b0 B1 lv next ys ss w':=
 ⟨h.1,λi x sg r hs=>⟨(h.2 i x sg r hs).1.mod m (hS x (Ak r)),(h.2 i x sg r hs).2⟩⟩
theorem Js.ext {ys:List Md}{ss:List (List Cell)}(h:Js b0 B1 lv next ys ss w)(m:ED w w'):Js b0 B1 lv next ys ss w':=h.mod m (λ_ _ _ _ h=>h)
theorem Js.at {ys:List Md}{ss:List (List Cell)}(h:Js b0 B1 lv next ys ss w){x:Md}(hx:x∈ys):∃i sg,LW b0 lv next i x sg w/\∀k,x.vl.ownBlock=some k->k<B1:=by
 obtain⟨i,hi⟩:=AM hx;have r:=(Ap.1 hi).1;exact⟨i,_,h.2 i x _ hi (Ar (by rw[<-h.1];exact r))⟩
theorem Js.ne {ys l:List Md}{ss:List (List Cell)}(h:Js b0 B1 lv next ys ss w)(ho:Vc.Own Md.cs 7 161 B w va l):∀x∈ys,∀k,x.vl.ownBlock=some k->¬ va.ownBlock=some k:=λx r k hk=>by
 obtain⟨i,sg,z,_⟩:=h.at r;exact z.2.2.2.2.2.2.2.ne ho rfl hk
theorem Js.sep {ys:List Md}{ss:List (List Cell)}{vl:Value}{s:List Cell}(h:Js b0 B1 lv next ys ss w)(hl:Vc.Own Cell.cs 4 79 B1 w vl s):∀x∈ys,∀k,x.vl.ownBlock=some k->¬ vl.ownBlock=some k:=λx r k hk e=>by
 obtain⟨i,sg,_,h2⟩:=h.at r;have h3:=h2 k hk;have h4:=(hl.lt k e).1;omega
def Kc (b0:Nat)(lv next:Int)(xs:List Md)(R:List (List Cell))(w:World):Prop:=(xs=[]/\R=[])\/∃ys x ss s B1,xs=ys++[x]/\R=ss++[s]/\(b0<=B1/\Sz B1 w)/\Js b0 B1 lv next ys ss w/\LW b0 lv next ys.length x s w/\Vc.Own Cell.cs 4 79 B1 w x.vl s
theorem Kc.mod {xs:List Md}{R:List (List Cell)}(h:Kc b0 lv next xs R w)(m:Vc.Mod S w w')(hS:∀x∈xs,∀k,x.vl.ownBlock=some k->¬ S k):Kc b0 lv next xs R w':=by
 rcases h with h|⟨ys,x,ss,s,B1,rfl,h2,h3,h4,h5,h6⟩
 ·exact .inl h
 ·exact .inr ⟨ys,x,ss,s,B1,rfl,h2,⟨h3.1,h3.2.mod m trivial⟩,h4.mod m (λz r=>hS z (List.mem_append_left _ r)),h5.mod m (hS x ER),h6.mod m (hS x ER)⟩
theorem Kc.lt {xs:List Md}{R:List (List Cell)}(h:Kc b0 lv next xs R w):∀x∈xs,∀k,x.vl.ownBlock=some k->k<w.heap.size:=by
 rcases h with⟨rfl,_⟩|⟨ys,x,ss,s,B1,rfl,h2,h3,h4,h5,h6⟩
 ·intro x J;cases J
 ·intro z r k hk;rcases Aw.1 r with r|r
  ·obtain⟨i,sg,O,_⟩:=h4.at r;exact(O.2.2.2.2.2.2.2.lt k hk).2
  ·rw[Ah.1 r]at hk;exact(h6.lt k hk).2
theorem Kc.ext {xs:List Md}{R:List (List Cell)}(h:Kc b0 lv next xs R w)(m:ED w w'):Kc b0 lv next xs R w':=h.imp id λ⟨ys,x,ss,s,B1,h1,h2,h3,h4,h5,h6⟩=>⟨ys,x,ss,s,B1,h1,h2,⟨h3.1,h3.2.ext m⟩,h4.ext m,h5.mod m (λ_ _ h=>h),h6.ext m⟩
theorem Kc.len {xs:List Md}{R:List (List Cell)}(h:Kc b0 lv next xs R w):xs.length=R.length:=by
 rcases h with⟨rfl,rfl⟩|⟨ys,x,ss,s,B1,rfl,rfl,h3,h4,h5,h6⟩
 ·rfl
 ·simp [h4.1]
theorem Kc.all {xs:List Md}{R:List (List Cell)}(h:Kc b0 lv next xs R w)(hs:b0<=w.heap.size):∃Bn,b0<=Bn/\Sz Bn w/\Js b0 Bn lv next xs R w:=by
 refine⟨w.heap.size,hs,⟨Ab _⟩,?_⟩;rcases h with⟨rfl,rfl⟩|⟨ys,x,ss,s,B1,rfl,rfl,h3,h4,h5,h6⟩
 ·exact⟨rfl,λi x sg Y=>by simp at Y⟩
 ·refine⟨by simp [h4.1],λi z sg r hs=>?_⟩;have O:LW b0 lv next i z sg w:=by
   rw[List.getElem?_append]at r hs;rw[<-h4.1]at hs;split at r
   ·rename_i hi;rw[if_pos hi]at hs;exact(h4.2 i z sg r hs).1
   ·rename_i hi;rw[if_neg hi]at hs;have J:i-ys.length=0:=by
     rcases Nat.eq_zero_or_pos (i-ys.length)with e|e
     ·exact e
     ·rw[List.getElem?_eq_none (by simp;omega)]at r;cases r
    rw[J]at r hs;simp at r hs;subst r;subst hs;rw[show i=ys.length by omega];exact h5
  exact⟨O,λk hk=>(O.2.2.2.2.2.2.2.lt k hk).2⟩
def Kr (lv next:Int)(j:Nat)(sg:List Cell):Fi:=⟨next+↑j,lv,↑(EG (Fo sg)).length,(Gh sg 0).key,(Gh sg (sg.length-1)).key⟩
def Jr (b0 B2:Nat)(lv next:Int)(i:Nat)(xs:List Md)(ss:List (List Cell))(w:World):Prop:=xs.length=ss.length/\∀j x sg,xs[j]?=some x->ss[j]?=some sg->(j<i->x.f=Kr lv next j sg/\Hx sg=0/\EQ EO 1 w x.vb (EG (Fo sg))/\B2<=(base x.vb).1/\x.vl.oneCell'=true)/\(i<=j->LW b0 lv next j x sg w)
theorem Jr.mod {B2 i:Nat}{xs l:List Md}{ss:List (List Cell)}(h:Jr b0 B2 lv next i xs ss w)(ho:Vc.Own Md.cs 7 161 B w va l)(hv:∀k,va.ownBlock=some k->k<B2)(m:Vc.Mod (λk=>va.ownBlock=some k) w w'):Jr b0 B2 lv next i xs ss w':=
 ⟨h.1,λj x sg z hs=>⟨λr=>by
  obtain⟨h1,h2,h3,h4,O⟩:=(h.2 j x sg z hs).1 r;exact⟨h1,h2,h3.mod m (λ_ e=>by have:=hv _ e;omega),h4,O⟩,λr=>by
  have J:=(h.2 j x sg z hs).2 r;exact J.mod m (λk hk=>J.2.2.2.2.2.2.2.ne ho rfl hk)⟩⟩
theorem Jr.ext {B2 i:Nat}{xs:List Md}{ss:List (List Cell)}(h:Jr b0 B2 lv next i xs ss w)(m:ED w w'):Jr b0 B2 lv next i xs ss w':=
 ⟨h.1,λj x sg z hs=>⟨λr=>by
  obtain⟨h1,h2,h3,h4,J⟩:=(h.2 j x sg z hs).1 r;exact⟨h1,h2,h3.ext m,h4,J⟩,λr=>((h.2 j x sg z hs).2 r).mod m (λ_ _ h=>h)⟩⟩
theorem Jr.zero {B2:Nat}{xs:List Md}{ss:List (List Cell)}(h:Js b0 B1 lv next xs ss w):Jr b0 B2 lv next 0 xs ss w:=⟨h.1,λj x sg r hs=>⟨λz=>absurd z (B6 j),λ_=>(h.2 j x sg r hs).1⟩⟩
theorem Jr.step {B2 i:Nat}{xs:List Md}{ss:List (List Cell)}{x:Md}{sg:List Cell}{vb:Value}(h:Jr b0 B2 lv next i xs ss w)(hx:xs[i]?=some x)(hs:ss[i]?=some sg)(hb:Hx sg=0)(ha:EQ EO 1 w vb (EG (Fo sg)))(hg:B2<=(base vb).1) :
  Jr b0 B2 lv next (i+1) (xs.set i ⟨⟨x.f.id,x.f.lev,↑(EG (Fo sg)).length,x.f.fst,x.f.lst⟩,x.vl,vb⟩) ss w:=by
 refine⟨by rw[AF];exact h.1,λj z sz J r=>?_⟩;have O:=(Ap.1 hx).1
 by_cases e:i=j
 ·subst e;rw[BB O]at J;rw[hs]at r
  cases J;cases r
  obtain⟨h1,h2,h3,h4,Y,h6,h7,h8⟩:=(h.2 i x sg hx hs).2 (Ab _);exact⟨λ_=>⟨by unfold Kr;rw[h1,h2,h4,Y],hb,ha,hg,h8.sl.one⟩,λhh=>by omega⟩
 ·rw[List.getElem?_set_ne e]at J;exact⟨λZ=>(h.2 j z sz J r).1 EB,λZ=>(h.2 j z sz J r).2 EB⟩
def KR (b0:Nat)(lv next:Int)(xs:List Md)(ss:List (List Cell))(w:World):Prop:=xs.length=ss.length/\∀j x sg,xs[j]?=some x->ss[j]?=some sg->x.f=Kr lv next j sg/\Hx sg=0/\EQ EO 1 w x.vb (EG (Fo sg))/\b0<=(base x.vb).1/\x.vl.oneCell'=true
theorem Jr.fin {B2 i:Nat}{xs:List Md}{ss:List (List Cell)}(h:Jr b0 B2 lv next i xs ss w)(hi:xs.length<=i)(hb:b0<=B2):KR b0 lv next xs ss w:=⟨h.1,λj x sg r hs=>by
 have hil:=(Ap.1 r).1;obtain⟨h1,h2,h3,h4,z⟩:=(h.2 j x sg r hs).1 EB;exact⟨h1,h2,h3,Ai hb h4,z⟩⟩
theorem S7 (s:List Cell)(c:Cell):Gh (s++[c]) ((s++[c]).length-1)=c:=by
 unfold Gh;simp
theorem Ycc {s:List Cell}(hs:s≠[])(c:Cell):Gh (s++[c]) 0=Gh s 0:=by
 cases s with
 | nil=>exact absurd rfl hs
 | cons a r=>rfl
end
theorem X6s (l:List Cell)(v:Value)(lv next:Int)(w:World)(hv:EQ Cell.cs 4 w v l)(hl0:l.length<=30000)(hc9:∀c∈l,c.key.length<=4096/\c.val.length<=16384)(hlv:0<=lv/\lv<=100)(hnx:0<=next/\next<=1099511627776) :
  Calls Tryz.prog 90 [v,I lv,I next].toArray w (ES w (λu w'=>(∃sg∈F8 l,Hx sg≠0/\u=.tuple #[.slice none 0 0,I (Hx sg)])\/∃va xs,u=.tuple #[va,I 0]/\Vc.Own Md.cs 7 161 w.heap.size w' va xs/\KR w.heap.size lv next xs (F8 l) w')):=by
 refine cw Tryz.func90 ?_;have J:=ED.refl w;refine ws λ_ Z1=>wr (da (da (de Z1 (ws λ_ Z2=>wr (da (de Z2 (ws λ_ Z3=>wr (da (de Z3 (ws λ_ Z4=>ws λ_ Z5=>?_))))))))));refine wr (dm ?_);refine dv 79 4 (hv.ext J).sl (dm (de Z5 (EM ?_)));refine Fq (G:=Nat×List Md×Value) (λ(k,xs,va)=>[(1,I lv),(2,I next),(6,.slice none 0 0),(7,I 0),(8,va),(9,I ↑(Iq l k).2),(18,v),(19,I ↑l.length),(20,I ↑k)]) (λ(k,xs,va) w'=>ED w w'/\k<=l.length/\(Iq l k).2<=30000/\Vc.Own Md.cs 7 161 w.heap.size w' va xs/\Kc w.heap.size lv next xs (Iq l k).1 w') (λ(k,xs,va)=>l.length-k) (0,[],.slice none 0 0) ?_ ?_ ?_
 ·exact Ji
 ·exact⟨J,Ae _,Ae _,Vc.Own.nil,.inl ⟨rfl,rfl⟩⟩
 intro X1 g1 w1 yv;obtain⟨k,xs,va⟩:=g1;clear J;obtain⟨J,xu,hz1,ho,hI⟩:=yv;refine ws λ_ Z6=>wr (dp (Fb rfl rfl) (de Z6 (ws λ_ Z7=>wi (λc1=>?_) λc1=>?_)))
 ·obtain⟨c,hk⟩:∃c,l[k]?=some c:=Fw;have hcs:=hc9 c (Ak hk);have hcz:Gt c<=30000:=by unfold Gt;omega
  have yc:=hI.len;have hrl:=(Nx l k xu).2;refine EI (Z7 _ _ (ws λ_ Z8=>EM (ws λ_ Z9=>wr (di 79 4 hv.sl rfl (hv.lt hk) (dq (Fe EA rfl rfl ((hv.ext J).row hk)) (FP (cs:=[S [],S [],B false,.int .i64 0]) rfl EA RX.all (λb1 w2 e1 x2 m1=>?_)))))));have g1:=J.ge e1;have hg:=ho.ltb e1;have hj:=hI.lt;have ho:=ho.ext x2;have hI:=hI.ext x2;have J:=J.trans x2;refine FY m1 (λw3 x3 xs3 m1=>?_);dsimp only [EY,Af,Ad,Ag]at m1;have ho:=ho.mod x3 (by intro k hk h;have h1:=hg k hk;have h2:k=b1:=h;omega);have hI:=hI.mod x3 (λx9 ha k9 yt e9=>by have h2:k9=b1:=e9;have h8:=hj x9 ha k9 yt;omega);have J:=J.o1 x3;refine de Z9 (ws λ_ yi=>wr (dq (Fe (k:=4) EA rfl rfl m1.row) (cP (Qv c _ EB EB) RX.all λw4 x4=>?_)));have ho:=ho.ext x4;have hI:=hI.ext x4;have m1:=m1.ext x4;have J:=J.trans x4;refine da (de yi ?_);refine Hz (G:=List Md×Md×List (List Cell)×List Cell×Value×Nat×Nat) (λ(ys,x,ss,s,va,z,B1)=>[(1,I lv),(2,I next),(6,.slice none 0 0),(7,I 0),(8,va),(9,I ↑z),(11,EE b1 0),(12,I ↑(Gt c)),(18,v),(19,I ↑l.length),(20,I ↑k)]) (λ(ys,x,ss,s,va,z,B1) w'=>ED w w'/\EK w' b1 c.cs 79/\Iq l (k+1)=(ss++[s++[c]],z+Gt c)/\w.heap.size<=B1/\z<=60000/\Sz B1 w'/\Vc.Own Md.cs 7 161 w.heap.size w' va (ys++[x])/\Js w.heap.size B1 lv next ys ss w'/\Vc.Own Cell.cs 4 79 B1 w' x.vl s/\x.f.id=next+↑ys.length/\x.f.lev=lv/\x.f.size=0/\x.f.fst=(Gh (s++[c]) 0).key/\x.vb=.slice none 0 0/\ys.length<=k/\x.vl.ownBlock≠some b1) ?_ ?_
  ·refine ws λ_ xo=>wr (dm ?_);refine dv 161 7 (ho.arr EF).sl (dp (GB rfl rfl) (dm ?_));refine F4 29 rfl (λc2=>?_) (λc2=>?_)
   ·obtain⟨Bn,xe,r,Y⟩:=hI.all J.size;have hq:Iq l (k+1)=((Iq l k).1++[[]++[c]],0+Gt c):=by rw[NV hk,Ue (.inl (List.eq_nil_of_length_eq_zero EB))]
    refine dk (dk (dk (dk (EP (de xo ?_)))));refine GS rfl (ws λ_ yh=>wr (dm (dm (dm ?_))));refine dv 161 7 (ho.arr EF).sl (pa rfl rfl (dm ?_));refine df 0 rfl (dl rfl (m1.at rfl) (db (zs:=[.int .i64 0,.int .i64 0,.int .i64 0,S [],S []]) (pl:=[(0,1),(1,1),(2,1),(3,1),(4,1)]) (pv:=[(0,_),(1,_),(3,_)]) (cs:=[_,_,.int .i64 0,_,S []]) ?_));refine db (zs:=[.int .i64 0,.int .i64 0,.int .i64 0,S [],S [],.slice none 0 0,.slice none 0 0]) (pl:=[(0,5),(5,1),(6,1)]) (pv:=[(0,.agg ⟨[_,_,_,_,_]⟩)]) (cs:=[_,_,_,_,_,.slice none 0 0,.slice none 0 0]) ?_;refine li (e:=161) (sz:=7) (zs:=[.int .i64 0,.int .i64 0,.int .i64 0,S [],S [],.slice none 0 0,.slice none 0 0]) (pv:=[(0,.agg ⟨[_,_,_,_,_,_,_]⟩)]) (cs:=[_,_,_,_,_,_,_]) RX.all (λb2 w5 e2 x5 m2=>?_);have g2:=J.ge e2;have n2_1:=m1.ltb e2;have o2_ho:=ho.ltb e2;have ho:=ho.ext x5;have m1:=m1.ext x5;have Y:=Y.ext x5;have r:=r.ext x5;have J:=J.trans x5;refine Hy (lx:=[⟨⟨next+↑xs.length,lv,0,c.key,[]⟩,.slice none 0 0,.slice none 0 0⟩]) (e:=161) (sz:=7) (by':=104) rfl EA EA EF ho (m2.arr (enc:=Md.cs) (sz:=7) (l:=[⟨⟨next+↑xs.length,lv,0,c.key,[]⟩,.slice none 0 0,.slice none 0 0⟩]) rfl EF rfl (Av rfl)) rfl rfl (by intro x ha u hu;rw[Ah.1 ha]at hu;simp at hu;rcases hu with rfl|rfl|rfl|rfl|rfl|rfl|rfl<;>rfl) (by simp;omega) EN J.size (.inl rfl) (λvn w6 O x6=>?_);have m1:=m1.mod x6 (by intro h;have h1:=hg _ h;omega);have Y:=Y.mod x6 (by exact Y.ne ho);have r:=r.mod x6 (by trivial);have J:=J.own x6 (λi hi=>(ho.lt i hi).1);have ho:=O;clear m2;refine da (de yh (wr (da (EH (?_)))));exact⟨(xs,⟨⟨next+↑xs.length,lv,0,c.key,[]⟩,.slice none 0 0,.slice none 0 0⟩,(Iq l k).1,[],vn,0,Bn),MP,J,m1,hq,xe,Ae _,r,ho,Y,Vc.Own.nil,rfl,rfl,rfl,rfl,rfl,by omega,by simp [Value.ownBlock]⟩
   iterate 2 refine dm ?_
   refine pa rfl rfl (dp (Gg rfl rfl) (EP (de xo ?_)));refine wi (λc3=>?_) λc3=>?_
   ·obtain⟨Bn,xe,r,Y⟩:=hI.all J.size;have hq:Iq l (k+1)=((Iq l k).1++[[]++[c]],0+Gt c):=by rw[NV hk,Ue (.inr EB)]
    refine ws λ_ ye=>wr (dm (dm (dm ?_)));refine dv 161 7 (ho.arr EF).sl (pa rfl rfl (dm ?_));refine df 0 rfl (dl rfl (m1.at rfl) (db (zs:=[.int .i64 0,.int .i64 0,.int .i64 0,S [],S []]) (pl:=[(0,1),(1,1),(2,1),(3,1),(4,1)]) (pv:=[(0,_),(1,_),(3,_)]) (cs:=[_,_,.int .i64 0,_,S []]) ?_));refine db (zs:=[.int .i64 0,.int .i64 0,.int .i64 0,S [],S [],.slice none 0 0,.slice none 0 0]) (pl:=[(0,5),(5,1),(6,1)]) (pv:=[(0,.agg ⟨[_,_,_,_,_]⟩)]) (cs:=[_,_,_,_,_,.slice none 0 0,.slice none 0 0]) ?_;refine li (e:=161) (sz:=7) (zs:=[.int .i64 0,.int .i64 0,.int .i64 0,S [],S [],.slice none 0 0,.slice none 0 0]) (pv:=[(0,.agg ⟨[_,_,_,_,_,_,_]⟩)]) (cs:=[_,_,_,_,_,_,_]) RX.all (λb3 w7 e3 x7 m3=>?_);have g3:=J.ge e3;have n3_1:=m1.ltb e3;have o3_ho:=ho.ltb e3;have ho:=ho.ext x7;have m1:=m1.ext x7;have Y:=Y.ext x7;have r:=r.ext x7;have J:=J.trans x7;refine Hy (lx:=[⟨⟨next+↑xs.length,lv,0,c.key,[]⟩,.slice none 0 0,.slice none 0 0⟩]) (e:=161) (sz:=7) (by':=104) rfl EA EA EF ho (m3.arr (enc:=Md.cs) (sz:=7) (l:=[⟨⟨next+↑xs.length,lv,0,c.key,[]⟩,.slice none 0 0,.slice none 0 0⟩]) rfl EF rfl (Av rfl)) rfl rfl (by intro x ha u hu;rw[Ah.1 ha]at hu;simp at hu;rcases hu with rfl|rfl|rfl|rfl|rfl|rfl|rfl<;>rfl) (by simp;omega) EN J.size (.inl rfl) (λvn w8 O x8=>?_);have m1:=m1.mod x8 (by intro h;have h1:=hg _ h;omega);have Y:=Y.mod x8 (by exact Y.ne ho);have r:=r.mod x8 (by trivial);have J:=J.own x8 (λi hi=>(ho.lt i hi).1);have ho:=O;clear m3;refine da (de ye (wr (da (EH (?_)))));exact⟨(xs,⟨⟨next+↑xs.length,lv,0,c.key,[]⟩,.slice none 0 0,.slice none 0 0⟩,(Iq l k).1,[],vn,0,Bn),MP,J,m1,hq,xe,Ae _,r,ho,Y,Vc.Own.nil,rfl,rfl,rfl,rfl,rfl,by omega,by simp [Value.ownBlock]⟩
   rcases hI with⟨rfl,_⟩|⟨ys,x,ss,s,B1,rfl,hR,⟨hb,r⟩,Y,hL,Z⟩
   ·simp at c2
   have xh:x.vl.ownBlock≠some b1:=λe=>by have:=hj x ER b1 e;omega
   refine EI ?_;exact⟨(ys,x,ss,s,va,(Iq l k).2,B1),MP,J,m1,by rw[NV hk,show Iq l k=(ss++[s],(Iq l k).2) from Prod.ext hR rfl,Xtg EB],hb,by omega,r,ho,Y,Z,hL.1,hL.2.1,hL.2.2.1,by rw[Ycc hL.2.2.2.2.2.2.1];exact hL.2.2.2.1,hL.2.2.2.2.2.1,by simp at yc;omega,xh⟩
  intro X9 g9 w9 yd;obtain⟨ys,x,ss,s,va,z,B1⟩:=g9;clear J ho hI m1;obtain⟨J,m1,hp,hb,hz9,r,ho,Y,Z,q1,q2,q3,q4,q5,q6,xh⟩:=yd;have xp:(ys++[x])[ys.length]?=some x:=by simp
  have xk:s.length<=30000:=by
   have h9:=(Nx l (k+1) EB).1;rw[hp]at h9;have h8:=WO h9 (show s++[c]∈ss++[s++[c]] by simp);rw[Aa,A5]at h8;omega
  refine ws λ_ xy=>wr (dm (dm ?_));refine pa rfl rfl (da (de xy (ws λ_ xw=>wr (dm (dm ?_)))));refine dv 161 7 (ho.arr EF).sl (EW (v:=I ↑ys.length) rfl (Gr rfl rfl (by unfold EU;simp;omega)) (by show I _=I _;congr 1;simp) (EW (v:=EE (base va).1 (ys.length*7+0)) rfl (HY (i:=ys.length) (e:=161) (k:=7) EA ho.sl rfl rfl (by simp;done)) (by rw[Kh ho ER];show EE _ (0+_)=_;rw[A9];rfl) (da (de xw ?_))));refine Lb (R:=Mod (λk=>va.ownBlock=some k\/x.vl.ownBlock=some k)) Jz JV EA [6,10] (.one 0 .p false (.one 1 .p false (.one 2 .p false (.one 3 .p false (.one 4 .p false (.one 6 .l false (.one 9 .p false (.one 10 .l false (.fork (.alt 5 false (.one 7 .x false (.one 8 .x false (.one 11 .p false (.one 12 .p false (.one 13 .x false (.one 14 .p false (.one 15 .p false (.one 16 .p false (.one 17 .x true .nil))))))))) (.alt 7 false (.one 5 .x false (.one 8 .x false (.one 11 .p false (.one 12 .p false (.one 13 .x false (.one 14 .p false (.one 15 .p false (.one 16 .p false (.one 17 .x true .nil))))))))) .stop))))))))))) EA EA (λyb xi=>?_);have hh:=EL xi;clear xi;have m1:=m1.ext hh;have ho:=ho.ext hh;have Y:=Y.ext hh;have Z:=Z.ext hh;have r:=r.ext hh;have J:=J.trans hh;refine EX (dm (EH ?_));refine EX (dm (EH ?_));refine EX (dm (EH ?_));refine EX (dz rfl (EH (EX (df 5 rfl (EH (EX (FW rfl (λw' hR=>Fe (k:=4) EA rfl rfl (m1.mod hR (λe=>e.elim (λe=>ho.ne_blk m1 rfl e) xh)).row) (EH (EX (df 0 rfl (EH (EX (dL rfl (λ_ hR=>((m1.mod hR (λe=>e.elim (λe=>ho.ne_blk m1 rfl e) xh)).at rfl)) ?_)))))))))))));refine EH (Ju ?_);refine H6 ?_ ?_
  ·refine HM (v:=x.vl) (w':=yb) rfl (ME EA rfl (((RA ho).row xp).at rfl)) (λ_=>Jz _) (EH (EX (li (e:=79) (sz:=4) (zs:=[S [],S [],B false,.int .i64 0]) (pv:=[(0,.agg ⟨[_,_,_,_]⟩)]) (cs:=[_,_,_,_]) RX.mod (λb4 w11 e4 hw m4=>?_))));have g4:=J.ge e4;have o4_ho:=ho.ltb e4;have o4_hl:=Z.ltb e4;have ho:=ho.ext hw;have Y:=Y.ext hw;have Z:=Z.ext hw;have r:=r.ext hw;have J:=J.trans hw;refine EH (EX ?_);refine Hy (lx:=[c]) (e:=79) (sz:=4) (by':=48) rfl EA EA EF Z (m4.arr (enc:=Cell.cs) (sz:=4) (l:=[c]) rfl EF rfl (Av rfl)) rfl rfl (by intro x ha u hu;rw[Ah.1 ha]at hu;simp at hu;rcases hu with rfl|rfl|rfl|rfl<;>rfl) (by have:=xk;simp;omega) EN r.le (.inr (λw9 h9=>h9.mono (λi hi _=>.inr hi))) (λvp w12 hr h7=>?_);have ho:=ho.mod h7 (by exact(λk hk=>ho.ne Z rfl hk));have Y:=Y.mod h7 (by exact Y.sep Z);have r:=r.mod h7 (by trivial);have J:=J.own h7 (λi hi=>(Ai hb (Z.lt i hi).1));have Z:=hr;clear m4;refine EH (EX (dz rfl (EH (EX (df 5 rfl (EH (EX (HJ (enc:=Md.cs) (sz:=7) (l:=(ys++[x])) (i:=ys.length) (j:=5) (x:=⟨x.f,vp,x.vb⟩) (vs:=[vp]) EF rfl ho rfl rfl (by exact Z.sl.cells) EA (by simp;done) (by rw[Pi];rfl) (Av rfl) (by intro u hu;rw[Ah.1 hu];exact Z.sl.one) (.inr (λw9 h9=>h9.mono (λi hi _=>.inl hi))) (λw13 h6 xs13 O=>?_)))))))));have Y:=Y.mod h6 (Y.ne ho);have Z:=Z.mod h6 (λk hk=>Z.ne ho rfl hk);have r:=r.mod h6 trivial;have J:=J.own h6 (λi hi=>(ho.lt i hi).1);have ho:=O;rw[PA]at ho;refine EH (EX (dz rfl (EH (EX (df 0 rfl (EH (EX (df 4 rfl (EH (EX (HJ (enc:=Md.cs) (sz:=7) (l:=(ys++[⟨x.f,vp,x.vb⟩])) (i:=ys.length) (j:=4) (x:=⟨⟨x.f.id,x.f.lev,x.f.size,x.f.fst,c.key⟩,vp,x.vb⟩) (vs:=[S c.key]) EF rfl ho rfl rfl rfl EA (by simp;done) (by rw[Pi];rfl) (Av rfl) (by intro u hu;rw[Ah.1 hu];rfl) (.inl rfl) (λw14 xb xs14 O=>?_))))))))))));have Y:=Y.mod xb (Y.ne ho);have Z:=Z.mod xb (λk hk=>Z.ne ho rfl hk);have r:=r.mod xb trivial;have J:=J.own xb (λi hi=>(ho.lt i hi).1);have ho:=O;rw[PA]at ho;refine EH (Ii (Z8 _ _ (wr (pa rfl rfl (dm (EH (?_)))))));have xj:=UE (l:=l) (λc hc=>by have:=hc9 c hc;unfold Gt;omega) (k+1) EB;refine⟨(k+1,ys++[⟨⟨x.f.id,x.f.lev,x.f.size,x.f.fst,c.key⟩,vp,x.vb⟩],va),?_,⟨J,by omega,xj,ho,.inr ⟨ys,_,ss,s++[c],B1,rfl,by rw[hp],⟨hb,r⟩,Y,⟨q1,q2,q3,q4,by rw[S7],q5,by simp,Z.mono hb⟩,Z⟩⟩,by simp only [];omega⟩;dsimp only;rw[hp];exact Ji
  refine H6 ?_ ?_
  ·refine li (e:=79) (sz:=4) (zs:=[S [],S [],B false,.int .i64 0]) (pv:=[(0,.agg ⟨[_,_,_,_]⟩)]) (cs:=[_,_,_,_]) RX.mod (λb5 ya e5 ht m5=>?_);have g5:=J.ge e5;have o5_ho:=ho.ltb e5;have o5_hl:=Z.ltb e5;have ho:=ho.ext ht;have Y:=Y.ext ht;have Z:=Z.ext ht;have r:=r.ext ht;have J:=J.trans ht;refine EH (EX (HM (v:=x.vl) (w':=ya) rfl (ME EA rfl (((RA ho).row xp).at rfl)) (λ_=>Jz _) (EH (EX ?_))));refine Hy (lx:=[c]) (e:=79) (sz:=4) (by':=48) rfl EA EA EF Z (m5.arr (enc:=Cell.cs) (sz:=4) (l:=[c]) rfl EF rfl (Av rfl)) rfl rfl (by intro x ha u hu;rw[Ah.1 ha]at hu;simp at hu;rcases hu with rfl|rfl|rfl|rfl<;>rfl) (by have:=xk;simp;omega) EN r.le (.inr (λw9 h9=>h9.mono (λi hi _=>.inr hi))) (λvp w16 hr xc=>?_);have ho:=ho.mod xc (by exact(λk hk=>ho.ne Z rfl hk));have Y:=Y.mod xc (by exact Y.sep Z);have r:=r.mod xc (by trivial);have J:=J.own xc (λi hi=>(Ai hb (Z.lt i hi).1));have Z:=hr;clear m5;refine EH (EX (dz rfl (EH (EX (df 5 rfl (EH (EX (HJ (enc:=Md.cs) (sz:=7) (l:=(ys++[x])) (i:=ys.length) (j:=5) (x:=⟨x.f,vp,x.vb⟩) (vs:=[vp]) EF rfl ho rfl rfl (by exact Z.sl.cells) EA (by simp;done) (by rw[Pi];rfl) (Av rfl) (by intro u hu;rw[Ah.1 hu];exact Z.sl.one) (.inr (λw9 h9=>h9.mono (λi hi _=>.inl hi))) (λw17 xf xs17 O=>?_)))))))));have Y:=Y.mod xf (Y.ne ho);have Z:=Z.mod xf (λk hk=>Z.ne ho rfl hk);have r:=r.mod xf trivial;have J:=J.own xf (λi hi=>(ho.lt i hi).1);have ho:=O;rw[PA]at ho;refine EH (EX (dz rfl (EH (EX (df 0 rfl (EH (EX (df 4 rfl (EH (EX (HJ (enc:=Md.cs) (sz:=7) (l:=(ys++[⟨x.f,vp,x.vb⟩])) (i:=ys.length) (j:=4) (x:=⟨⟨x.f.id,x.f.lev,x.f.size,x.f.fst,c.key⟩,vp,x.vb⟩) (vs:=[S c.key]) EF rfl ho rfl rfl rfl EA (by simp;done) (by rw[Pi];rfl) (Av rfl) (by intro u hu;rw[Ah.1 hu];rfl) (.inl rfl) (λw18 hz xs18 O=>?_))))))))))));have Y:=Y.mod hz (Y.ne ho);have Z:=Z.mod hz (λk hk=>Z.ne ho rfl hk);have r:=r.mod hz trivial;have J:=J.own hz (λi hi=>(ho.lt i hi).1);have ho:=O;rw[PA]at ho;refine EH (Ii (Z8 _ _ (wr (pa rfl rfl (dm (EH (?_)))))));have xj:=UE (l:=l) (λc hc=>by have:=hc9 c hc;unfold Gt;omega) (k+1) EB;refine⟨(k+1,ys++[⟨⟨x.f.id,x.f.lev,x.f.size,x.f.fst,c.key⟩,vp,x.vb⟩],va),?_,⟨J,by omega,xj,ho,.inr ⟨ys,_,ss,s++[c],B1,rfl,by rw[hp],⟨hb,r⟩,Y,⟨q1,q2,q3,q4,by rw[S7],q5,by simp,Z.mono hb⟩,Z⟩⟩,by simp only [];omega⟩;dsimp only;rw[hp];exact Ji
  exact Jv
 have hnx9:xs.length<=30000:=by have h8:=hI.len;have h9:=(Nx l k xu).2;omega
 obtain⟨Bn,xe,_,Y⟩:=hI.all J.size;rw[QU EB]at Y;obtain⟨B2,hB2,hvf,hS,hP⟩:∃B2,w.heap.size<=B2/\(∀k,va.ownBlock=some k->k<B2)/\Sz B2 _/\Jr w.heap.size B2 lv next 0 xs (F8 l) _:=⟨_,J.size,λk hk=>(ho.lt k hk).2,⟨Ab _⟩,Jr.zero Y⟩;clear Y;refine Fk (Z4 _ _ (ws λ_ yf=>ws λ_ yr=>wr (dm ?_)));refine dv 161 7 (ho.arr EF).sl (dm (de yr (EM ?_)));refine Fq (G:=Nat×List Md) (λ(i,ms)=>[(8,va),(72,va),(73,I ↑xs.length),(74,I ↑i)]) (λ(i,ms) w'=>ED w w'/\i<=xs.length/\ms.length=xs.length/\Vc.Own Md.cs 7 161 w.heap.size w' va ms/\Jr w.heap.size B2 lv next i ms (F8 l) w'/\Sz B2 w') (λ(i,ms)=>xs.length-i) (0,xs) ?_ ?_ ?_
 ·exact Gc
 ·exact⟨J,Ae _,rfl,ho,hP,hS⟩
 intro X19 yp w19 xn;obtain⟨i,ms⟩:=yp;clear J ho hS hP;obtain⟨J,hi1,yj,ho,hP,hS⟩:=xn;refine ws λ_ xz=>wr (dp (Fb rfl rfl) (de xz (ws λ_ x0=>wi (λc4=>?_) λc4=>?_)))
 ·obtain⟨x,hk⟩:∃x,ms[i]?=some x:=Fw;obtain⟨sg,hsi⟩:∃sg,(F8 l)[i]?=some sg:=⟨_,Ar (by have:=hP.1;omega)⟩;have xv:=(hP.2 i x sg hk hsi).2 (Ab _);have hsl9:=WO (QA l) (Ak hsi);have xr:ms≠[]:=λe=>by rw[e]at hk;simp at hk
  refine EI (x0 _ _ (ws λ_ yl=>EM (ws λ_ ym=>wr (dm (da (de ym (ws λ_ yk=>wr (dm (dm ?_)))))))));refine EW (v:=EE (base va).1 (i*7+0)) rfl (HY (i:=i) (e:=161) (k:=7) EA ho.sl rfl rfl EB) (by rw[Kh ho xr];show EE _ (0+_)=_;rw[A9];rfl) (da (de yk (ws λ_ yo=>wr (dm ?_))));refine dz rfl (df 5 rfl (dl rfl (((RA ho).row hk).at rfl) ?_));have yu:=hS.le;refine cG (WZ sg x.vl _ ((xv.2.2.2.2.2.2.2.ext (ED.refl _)).arr EF) EB) RX.all λu20 w20 xg xm=>?_;have hsz20:=J.size;have ho:=ho.ext xg;have hP:=hP.ext xg;have hS:=hS.ext xg;have J:=J.trans xg;obtain⟨xa,rfl,yq⟩:=xm;refine dm ?_;refine dx rfl rfl (dx rfl rfl (da (da (de yo (ws λ_ xx=>ws λ_ yg=>wr (dm ?_))))));refine dp (FH rfl rfl) (de yg (wi (λc5=>?_) λc5=>?_))
  ·refine ws λ_ x1=>wr (dm (da (da (de x1 (EJ ?_)))));refine rt ?_;exact⟨_,rfl,J,.inl ⟨sg,Ak hsi,c5,rfl⟩⟩
  have xq:Hx sg=0:=AK c5;obtain⟨hf,yw⟩:=yq xq;have xl:=Ai yu yw;refine EI (xx _ _ (wr (dm (dm (dm (dm ?_))))));refine dv 5 1 hf.sl (dz rfl (df 6 rfl ?_));refine HJ (enc:=Md.cs) (sz:=7) (l:=ms) (i:=i) (j:=6) (x:=⟨x.f,x.vl,xa⟩) (vs:=[xa]) EF rfl ho rfl rfl (by exact hf.sl.cells) EA (by omega) (by rw[BR,hk];rfl) (Av rfl) (by intro u hu;rw[Ah.1 hu];exact hf.sl.one) (.inl rfl) (λw21 xd xs21 O=>?_);have hP:=hP.mod ho hvf xd;have hf:=hf.mod xd (λ_ e=>by have:=hvf _ e;omega);have hS:=hS.mod xd trivial;have J:=J.own xd (λi hi=>(ho.lt i hi).1);have ho:=O;refine dz rfl (df 0 rfl (df 2 rfl ?_));refine HJ (enc:=Md.cs) (sz:=7) (l:=(ms.set i ⟨x.f,x.vl,xa⟩)) (i:=i) (j:=2) (x:=⟨⟨x.f.id,x.f.lev,↑(EG (Fo sg)).length,x.f.fst,x.f.lst⟩,x.vl,xa⟩) (vs:=[I ↑(EG (Fo sg)).length]) EF rfl ho rfl rfl rfl EA (by simp;omega) (by rw[BR,BB EB];rfl) (Av rfl) (by intro u hu;rw[Ah.1 hu];rfl) (.inl rfl) (λw22 h5 xs22 O=>?_);have hP:=hP.mod ho hvf h5;have hf:=hf.mod h5 (λ_ e=>by have:=hvf _ e;omega);have hS:=hS.mod h5 trivial;have J:=J.own h5 (λi hi=>(ho.lt i hi).1);have ho:=O;rw[List.set_set]at ho;refine de yl (wr (pa rfl rfl (dm (EH (?_)))));exact⟨(i+1,_),Gc,⟨J,by omega,by rw[AF];exact yj,ho,hP.step hk hsi xq hf xl,hS⟩,by simp only [];omega⟩
 refine Fk (yf _ _ (ws λ_ yn=>wr (dm (da (da (de yn (EJ ?_)))))));refine rt ?_;exact⟨_,rfl,J,.inr ⟨va,ms,rfl,ho,hP.fin EB hB2⟩⟩
@[reducible] def Ycy (q:Md×EC):List Value:=q.1.cs
def GQ : List (Int×EC)->Dsk->Int×Dsk
 | [],D=>(0,D)
 | q :: r,D=>if(D.save (FJ q.1) q.2).1≠0 then D.save (FJ q.1) q.2 else GQ r (D.save (FJ q.1) q.2).2
theorem Ta {qs:List (Int×EC)}{k:Nat}{q:Int×EC}{D:Dsk}(h:qs[k]?=some q)(he:(D.save (FJ q.1) q.2).1≠0):GQ (qs.drop k) D=D.save (FJ q.1) q.2:=by
 rw[Jd h];unfold GQ;rw[if_pos he]
theorem Xm {qs:List (Int×EC)}{k:Nat}{q:Int×EC}{D:Dsk}(h:qs[k]?=some q)(he:(D.save (FJ q.1) q.2).1=0):GQ (qs.drop k) D=GQ (qs.drop (k+1)) (D.save (FJ q.1) q.2).2:=by
 rw[Jd h];rw[GQ.eq_2,if_neg (by rw[he];decide)]
theorem Oa {n:Int}(h:EU n):(Lib.itoa n).length<=21:=Lib.itoa_length_le n h.1 (by have:=h.2;omega)
theorem Sd {n:Int}(h:EU n):(FJ n).length<=22:=by have:=Oa h;unfold FJ;simp;omega
theorem X6t (κ:Nat->Nat)(bs bd bl bo bm:Nat)(vf:Value)(L:Led)(D:Dsk)(V:Vs)(ts:List Tb)(mem:List Cell)(dead:Bool)(qs:List (Md×EC))(va:Value)(w:World)(h:StE κ bs bd bl bo bm vf L D V ts mem dead w)(hg:GV w)(hgs:∀k,Ls k->κ k=0)(ha:EQ Md.cs 7 w va (qs.map (·.1)))(hal:qs.length<=40000)(hak:qs≠[]->κ (base va).1=0)(hq:∀q∈qs,EQ EO 1 w q.1.vb q.2/\q.2.length<=2001000020/\EU q.1.f.id/\(q.2≠[]->κ (base q.1.vb).1=0)/\q.1.vl.oneCell'=true) :
  Calls Tryz.prog 93 [EE bs 0,va].toArray w (Ff (λk=>κ k=1) w (λu w'=>u=I (GQ (qs.map λq=>(q.1.f.id,q.2)) D).1/\∃κ',(∀k,k<w.heap.size->κ' k=κ k)/\StE κ' bs bd bl bo bm vf L (GQ (qs.map λq=>(q.1.f.id,q.2)) D).2 V ts mem dead w')):=by
 refine cw Tryz.func93 ?_;have r:=Vc.Mod.refl (λk=>κ k=1) w;have z:=h;have hlt0:=h.lt;have hmlen:(qs.map (·.1)).length=qs.length:=Ao _;refine ws λ_ Z1=>wr (da (de Z1 (ws λ_ Z2=>ws λ_ Z3=>wr (dm ?_))));refine dv 161 7 (ha.mod r (λhl e=>by have e2:κ (base va).1=1:=e;rw[hak (by rintro rfl;exact hl rfl)]at e2;cases e2)).sl (dm (de Z3 (EM ?_)));refine Fq (G:=Nat×(Nat->Nat)×Dsk) (λ(k,κ1,D1)=>[(0,EE bs 0),(8,va),(9,I ↑(qs.map (·.1)).length),(10,I ↑k)]) (λ(k,κ1,D1) w'=>Mod (λk=>κ k=1) w w'/\k<=qs.length/\GQ (qs.map λq=>(q.1.f.id,q.2)) D=GQ ((qs.map λq=>(q.1.f.id,q.2)).drop k) D1/\(∀k,k<w.heap.size->κ1 k=κ k)/\StE κ1 bs bd bl bo bm vf L D1 V ts mem dead w') (λ(k,κ1,D1)=>qs.length-k) (0,κ,D) ?_ ?_ ?_
 ·exact Gc
 ·exact⟨r,Ae _,rfl,λ_ _=>rfl,z⟩
 intro X1 g1 w1 xh;obtain⟨k,κ1,D1⟩:=g1;clear r z;obtain⟨r,hk1,hf,hh,z⟩:=xh;refine ws λ_ Z4=>wr (dp (Fb rfl rfl) (de Z4 (ws λ_ Z5=>wi (λc1=>?_) λc1=>?_)))
 ·obtain⟨q,hk⟩:∃q,qs[k]?=some q:=Fw;obtain⟨hb,h5,hj,h7,xg⟩:=hq q (Ak hk);have hz:(qs.map (·.1))[k]?=some q.1:=by simp [hk]
  have hp:((qs.map λq=>(q.1.f.id,q.2)))[k]?=some (q.1.f.id,q.2):=by simp [hk]
  have hnl:=Sd hj;have hil:=Oa hj;refine EI (Z5 _ _ (ws λ_ Z6=>EM (ws λ_ Z7=>wr (di 161 7 ha.sl rfl (ha.lt hz) (dq (Fe EA rfl rfl ((ha.mod r (λhl e=>by have e2:κ (base va).1=1:=e;rw[hak (by rintro rfl;exact hl rfl)]at e2;cases e2)).row hz)) (FP (cs:=[.int .i64 0,.int .i64 0,.int .i64 0,S [],S [],.slice none 0 0,.slice none 0 0]) rfl EA RX.all (λb1 w2 e1 x2 m1=>?_)))))));have g1:=r.ge e1;have O:=z.lt;have z:=z.ext x2;have r:=r.ext x2;refine FY m1 (λw3 x3 xs3 m1=>?_) (h1:=by(intro u hu;simp only [Aj,Ct,or_false]at hu;rcases hu with e|e|e|e|e|e|e<;>subst e<;>first|rfl|exact xg|exact hb.sl.one));dsimp only [EY,Af,Ad,Ag]at m1;have z:=z.mod x3 (λk9 h9 e9=>by have h2:k9=b1:=e9;have h8:=O k9 h9;omega);have r:=r.o1 x3;refine de Z7 (ws λ_ Z8=>Lb (R:=Mod (λk=>κ1 k=1)) Jz JV EA [3,6,9] (.one 0 .p false (.one 1 .p false (.one 2 .p false (.one 3 .l false (.one 4 .p false (.one 5 .p false (.one 6 .l false (.one 8 .p false (.one 9 .l false (.fork (.alt 7 false (.one 10 .x false (.one 11 .x false (.one 12 .p false .nil))) (.alt 10 false (.one 7 .x false (.one 11 .x false (.one 12 .p false .nil))) .stop)))))))))))) EA EA (λw4 xa=>?_));have x4:=EL xa;clear xa;have z:=z.ext x4;have m1:=m1.ext x4;have r:=r.ext x4;refine EX (dm (EH ?_));refine EX (dz rfl (EH (EX (df 0 rfl (EH (EX (dL rfl (λ_ hR=>((z.m.mod hR (λe=>by have e2:κ1 bs=1:=e;rw[z.k0]at e2;cases e2)).at rfl)) (EH (EX (df 0 rfl (EH (EX (df 0 rfl ?_)))))))))))));refine EH (EX (dL rfl (λ_ hR=>((m1.mod hR (λe=>by have e2:κ1 b1=1:=e;have:=O b1 (by rw[e2];decide);omega)).at rfl)) (EH (EX (df 6 rfl (EH (EX (dL rfl (λ_ hR=>((m1.mod hR (λe=>by have e2:κ1 b1=1:=e;have:=O b1 (by rw[e2];decide);omega)).at rfl)) (EH (Ju ?_))))))))));refine H6 ?_ ?_
  ·refine cP (ND q.1.f.id _ (hg.mod r (λk hk e=>by have e2:κ k=1:=e;rw[hgs k hk]at e2;cases e2)) hj EB) RX.mod λw5 x5=>?_;have z:=z.ext x5;have r:=r.ext x5;refine EH (EX ?_);refine It (e:=82) (sz:=1) (zs:=[.slice none 0 0]) (pv:=[(0,?a6_0)]) (cs:=[?a6_0]) rfl EA ⟨rfl,rfl⟩ EA rfl ?h6 ?f6 RX.mod (λb2 w6 e2 x6 m2=>?k6)
   case h6=>refine⟨rfl,?_,trivial⟩<;>(conv=>lhs;whnf)
   case f6=>simp [H7,EY,Ax,hb.sl.cells]
   have g2:=r.ge e2;have a2_hS:=z.lt;have z:=z.ext x6;have r:=r.ext x6;refine EH (EX ?_);have hc:=r.size;obtain⟨F,hD,Z,Y⟩:=z.ld.disk;refine JP rfl EA (Qn F bd D1 (FJ q.1.f.id) q.2 q.1.vb _ _ hD (m2.arr (enc:=λx:Value=>[x]) (sz:=1) (l:=[q.1.vb]) rfl EF rfl ER) (hb.mod r (λhl e=>by have e2:κ (base q.1.vb).1=1:=e;rw[h7 hl]at e2;cases e2)) h5 EB) rfl (.inr λw9 h9=>h9.mono (λi hi _=>Z i hi)) (λu7 w7 x7 xd=>?_);have hsz7:=r.size;have r:=r.own x7 (λi hi hy=>(by have e1:=Z i hi;rw[<-hh i hy];exact e1));obtain⟨rfl,hw⟩:=xd;have hr:=z.ledger (x7.mono (λi hi _=>Z i hi)) (Y _ _ x7 hw);have J:=λk (hk:k<w.heap.size)=>(Ln (κ:=κ1) (i:=1) (w':=w7) (Az hk hc)).trans (hh k hk);have z:=hr;refine EH (EX (da (EH ?_)));refine Ii (Z8 _ _ (ws λ_ Z9=>wr (dm ?_)));refine dp (FH rfl rfl) (de Z9 (wi (λc2=>?_) λc2=>?_))
   ·refine ws λ_ xf=>wr (dm (da (de xf (EJ ?_))));refine ro ?_;rw[hf,Ta hp c2];exact⟨_,rfl,r,rfl,_,J,z⟩
   refine EI (Z6 _ _ (wr (pa rfl rfl (dm (EH (?_))))));exact⟨(k+1,_,_),Gc,⟨r,by omega,by rw[hf,Xm hp (AK (by exact c2))],J,z⟩,by simp only [];omega⟩
  refine H6 ?_ ?_
  ·refine It (e:=82) (sz:=1) (zs:=[.slice none 0 0]) (pv:=[(0,?a13_0)]) (cs:=[?a13_0]) rfl EA ⟨rfl,rfl⟩ EA rfl ?h13 ?f13 RX.mod (λb3 w8 e3 x8 m3=>?k13)
   case h13=>refine⟨rfl,?_,trivial⟩<;>(conv=>lhs;whnf)
   case f13=>simp [H7,EY,Ax,hb.sl.cells]
   have g3:=r.ge e3;have a3_hS:=z.lt;have z:=z.ext x8;have r:=r.ext x8;refine EH (EX (cP (ND q.1.f.id _ (hg.mod r (λk hk e=>by have e2:κ k=1:=e;rw[hgs k hk]at e2;cases e2)) hj EB) RX.mod λw9 x9=>?_));have z:=z.ext x9;have m3:=m3.ext x9;have r:=r.ext x9;refine EH (EX ?_);have hc:=r.size;obtain⟨F,hD,Z,Y⟩:=z.ld.disk;refine JP rfl EA (Qn F bd D1 (FJ q.1.f.id) q.2 q.1.vb _ _ hD (m3.arr (enc:=λx:Value=>[x]) (sz:=1) (l:=[q.1.vb]) rfl EF rfl ER) (hb.mod r (λhl e=>by have e2:κ (base q.1.vb).1=1:=e;rw[h7 hl]at e2;cases e2)) h5 EB) rfl (.inr λw9 h9=>h9.mono (λi hi _=>Z i hi)) (λu10 xj ht xb=>?_);have hsz10:=r.size;have r:=r.own ht (λi hi hy=>(by have e1:=Z i hi;rw[<-hh i hy];exact e1));obtain⟨rfl,hw⟩:=xb;have hr:=z.ledger (ht.mono (λi hi _=>Z i hi)) (Y _ _ ht hw);have J:=λk (hk:k<w.heap.size)=>(Ln (κ:=κ1) (i:=1) (w':=xj) (Az hk hc)).trans (hh k hk);have z:=hr;refine EH (EX (da (EH ?_)));refine Ii (Z8 _ _ (ws λ_ xi=>wr (dm ?_)));refine dp (FH rfl rfl) (de xi (wi (λc3=>?_) λc3=>?_))
   ·refine ws λ_ xe=>wr (dm (da (de xe (EJ ?_))));refine ro ?_;rw[hf,Ta hp c3];exact⟨_,rfl,r,rfl,_,J,z⟩
   refine EI (Z6 _ _ (wr (pa rfl rfl (dm (EH (?_))))));exact⟨(k+1,_,_),Gc,⟨r,by omega,by rw[hf,Xm hp (AK (by exact c3))],J,z⟩,by simp only [];omega⟩
  exact Jv
 refine Fk (Z2 _ _ (ws λ_ xc=>wr (da (de xc (EJ ?_)))));refine ro ?_;rw[hf,List.drop_of_length_le (by rw[Ao];simp at c1;omega)];exact⟨_,rfl,r,rfl,_,hh,z⟩
def IV (κ:Nat->Nat)(bt:Nat)(vl vb:Value):Nat->Nat:=λk=>if k=bt\/k=(base vl).1\/k=(base vb).1 then 6 else κ k
theorem Xth (tbs:List Tb):∀ts:List Tb,(tbs.foldl G9 ts).length<=ts.length+tbs.length:=by
 induction tbs with
 | nil=>intro ts;exact Ab _
 | cons t r ih=>
  intro ts;have h1:=ih (G9 ts t);have h2:(G9 ts t).length<=ts.length+1:=by unfold G9;split<;>simp
  show((r.foldl G9 (G9 ts t)).length<=_);simp only [List.length_cons];omega
def Le (ts:List Tb)(gone:List Fi):List Tb:=gone.foldl (λts f=>J1 ts (f.lev,f.id)) ts
theorem Xp8 {ts:List Tb}{gone:List Fi}{j:Nat}{f:Fi}(h:gone[j]?=some f):Le ts (gone.take (j+1))=J1 (Le ts (gone.take j)) (f.lev,f.id):=by unfold Le;rw[G1 h,B4];rfl
section
variable {κ:Nat->Nat}{bs bd bl bo bm:Nat}{vf:Value}{L:Led}{D:Dsk}{V:Vs}{ts:List Tb}{mem:List Cell}{dead:Bool}{w w':World}
theorem StE.addT {t:Tb}(h:StE κ bs bd bl bo bm vf L D V ts mem dead w)(hT:TblE t.bt t.vl t.vb t.cs w)(hn:∀k,IY t.bt t.vl t.vb k->κ k=0)(m:Vc.Mod (ET bo) w w')(hm:FE Tryz.prog 104 Gz pO w' bo (EZ (ts.map Tb.kv) t.h (some t.bt))):StE (IV κ t.bt t.vl t.vb) bs bd bl bo bm vf L D V (G9 ts t) mem dead w':=by
 have o:∀k,κ k≠0->IV κ t.bt t.vl t.vb k=κ k:=λk hk=>by
  unfold IV;rw[if_neg];intro e;exact hk (hn k e)
 have z:=h.relab o (λk hk=>by
  unfold IV at hk;split at hk
  ·rename_i e;exact hT.lt k e
  ·exact h.lt k hk)
 refine z.setMap m (by rw[X6n];exact hm) λq r=>?_;rcases X0r r with rfl|r
 ·exact⟨hT,λk hk=>by unfold IV;rw[if_pos hk]⟩
 ·exact⟨z.tb q r,z.k6 q r⟩
theorem StE.subT {x:Int×Int}(h:StE κ bs bd bl bo bm vf L D V ts mem dead w)(m:Vc.Mod (ET bo) w w')(hm:FE Tryz.prog 104 Gz pO w' bo (FR (ts.map Tb.kv) x)):StE κ bs bd bl bo bm vf L D V (J1 ts x) mem dead w':=
 h.setMap m (by rw[X6o];exact hm) λq r=>⟨h.tb q (A3.1 r).1,h.k6 q (A3.1 r).1⟩
end
theorem X6u (κ:Nat->Nat)(bs bd bl bo bm:Nat)(vf:Value)(L:Led)(D:Dsk)(V:Vs)(ts:List Tb)(mem:List Cell)(dead:Bool)(V':Vs)(vf':Value)(qs:List (Md×List Cell))(va:Value)(gone:List Fi)(vg:Value)(w:World)(h:StE κ bs bd bl bo bm vf L D V ts mem dead w)(hvf:EQ Fi.cs 5 w vf' V'.fs)(hvk:V'.fs≠[]->κ (base vf').1=0)(ha:EQ Md.cs 7 w va (qs.map (·.1)))(hal:qs.length<=40000)(hak:qs≠[]->κ (base va).1=0)(hq:∀q∈qs,EQ EO 1 w q.1.vb (EG (Fo q.2))/\Hx q.2=0/\EU q.1.f.id/\EU q.1.f.lev/\(EG (Fo q.2)≠[]->κ (base q.1.vb).1=0)/\q.1.vl.oneCell'=true)(hg:EQ Fi.cs 5 w vg gone)(hgl:gone.length<=40000)(hgk:gone≠[]->κ (base vg).1=0)(hgi:∀f∈gone,EU f.id/\EU f.lev)(htl:ts.length<=1000000) :
  Calls Tryz.prog 95 [EE bs 0,.agg ⟨[I V'.next,vf']⟩,va,vg].toArray w (Ff (λk=>κ k≠0) w (λu w'=>u=I 0/\∃κ' ts',(∀k,k<w.heap.size->(V'.fs≠[]->k≠(base vf').1)->κ' k=κ k)/\(∃tbs:List Tb,tbs.map (λt=>(t.h,t.cs))=qs.map (λq=>((q.1.f.lev,q.1.f.id),q.2))/\ts'=Le (tbs.foldl G9 ts) gone)/\StE κ' bs bd bl bo bm vf' L D V' ts' mem dead w')):=by
 refine cw Tryz.func95 ?_;have z:=Vc.Mod.refl (λk=>κ k≠0) w;have r:=h;have hmlen:(qs.map (·.1)).length=qs.length:=Ao _;refine ws λ_ Z1=>wr (Gn rfl rfl rfl RX.all (λb1 w1 e1 x1 J=>?_));have g1:=z.ge e1;have a1_hS:=r.lt;have r:=r.ext x1;have z:=z.ext x1;refine da (de Z1 (ws λ_ Z2=>ws λ_ Z3=>wr (dm ?_)));refine dv 161 7 (ha.mod z (λO e=>e (hak (by rintro rfl;exact O rfl)))).sl (dm (de Z3 (EM ?_)));refine Fq (G:=Nat×(Nat->Nat)×List Tb) (λ(k,κ1,tbs)=>[(0,EE bs 0),(3,vg),(5,EE b1 0),(15,va),(16,I ↑(qs.map (·.1)).length),(17,I ↑k)]) (λ(k,κ1,tbs) w'=>Mod (λk=>κ k≠0) w w'/\k<=qs.length/\tbs.length=k/\tbs.map (λt=>(t.h,t.cs))=(qs.take k).map (λq=>((q.1.f.lev,q.1.f.id),q.2))/\(∀k,k<w.heap.size->κ1 k=κ k)/\StE κ1 bs bd bl bo bm vf L D V (tbs.foldl G9 ts) mem dead w'/\EK w' b1 [I V'.next,vf'] 56) (λ(k,κ1,tbs)=>qs.length-k) (0,κ,[]) ?_ ?_ ?_
 ·exact G2
 ·exact⟨z,Ae _,rfl,rfl,λ_ _=>rfl,r,J⟩
 intro X2 g2 w2 x2;obtain⟨k,κ1,tbs⟩:=g2;clear z r J;obtain⟨z,hk1,xe,h6,hf,r,J⟩:=x2;refine ws λ_ Z4=>wr (dp (Fb rfl rfl) (de Z4 (ws λ_ Z5=>wi (λc1=>?_) λc1=>?_)))
 ·obtain⟨q,hk⟩:∃q,qs[k]?=some q:=Fw;obtain⟨h7,x8,xn,xd,xp,xz⟩:=hq q (Ak hk);have xb:(qs.map (·.1))[k]?=some q.1:=by simp [hk]
  have hwsz:=z.size;refine EI (Z5 _ _ (ws λ_ Z6=>EM (ws λ_ Z7=>wr (di 161 7 ha.sl rfl (ha.lt xb) (dq (Fe EA rfl rfl ((ha.mod z (λO e=>e (hak (by rintro rfl;exact O rfl)))).row xb)) (FP (cs:=[.int .i64 0,.int .i64 0,.int .i64 0,S [],S [],.slice none 0 0,.slice none 0 0]) rfl EA RX.all (λb2 w3 e2 x3 Y=>?_)))))));have g2:=z.ge e2;have n2_1:=J.ltb e2;have ht:=r.lt;have r:=r.ext x3;have J:=J.ext x3;have z:=z.ext x3;refine FY Y (λw4 x4 xs4 Y=>?_) (h1:=by(intro u hu;simp only [Aj,Ct,or_false]at hu;rcases hu with e|e|e|e|e|e|e<;>subst e<;>first|rfl|exact xz|exact h7.sl.one));dsimp only [EY,Af,Ad,Ag]at Y;have r:=r.mod x4 (λk9 h9 e9=>by have h2:k9=b2:=e9;have h8:=ht k9 h9;omega);have J:=J.mo x4;have z:=z.o1 x4;refine de Z7 (ws λ_ Z8=>wr (df 6 rfl (dl rfl (Y.at rfl) ?_)));have xa:=r.lt;refine cG (Uq q.2 q.1.vb _ (h7.mod z (λO e=>e (xp O))) x8) RX.all λu5 w5 x5 xx=>?_;have hsz5:=z.size;have r:=r.ext x5;have J:=J.ext x5;have Y:=Y.ext x5;have z:=z.ext x5;obtain⟨bt,vl,hh,rfl,hT,xg⟩:=xx;have yb:∀k,IY bt vl hh k->κ1 k=0:=λk hk=>AP λh9=>by have h1:=xg k hk;have h2:=xa k h9;omega
  refine dm ?_;refine dx rfl rfl (dx rfl rfl (da (da (de Z8 (ws λ_ Z9=>ws λ_ xv=>wr (dm ?_))))));refine dp (FH rfl rfl) (de xv (wi (λc2=>?_) λc2=>?_))
  ·exact absurd rfl c2
  refine EI (Z9 _ _ (F9 (R:=Mod (ET bo)) Jz JV EA [3,6,9] [(0,.p,false),(1,.p,false),(2,.p,false),(3,.l,false),(4,.p,false),(5,.p,false),(6,.l,false),(7,.p,false),(8,.p,false),(9,.l,false),(10,.p,false),(11,.p,false),(12,.x,true)] rfl EA EA (λw6 xi=>?_)));have x6:=EL xi;clear xi;have r:=r.ext x6;have J:=J.ext x6;have Y:=Y.ext x6;have hT:=hT.ext x6;have z:=z.ext x6;refine dm ?_;refine dz rfl (df 4 rfl (dL rfl (λ_ hR=>((r.m.mod hR (λe=>r.mp.at.ne_blk r.m e)).at rfl)) (df 0 rfl (df 1 rfl (dL rfl (λ_ hR=>((Y.mod hR (λe=>r.mp.at.ne_blk Y e)).at rfl)) (df 0 rfl (df 0 rfl (dL rfl (λ_ hR=>((Y.mod hR (λe=>r.mp.at.ne_blk Y e)).at rfl)) (db (zs:=[.int .i64 0,.int .i64 0]) (pl:=[(0,1),(1,1)]) (pv:=[(0,_),(1,_)]) (cs:=[_,_]) (dm ?_))))))))));refine PI MV (kx:=(q.1.f.lev,q.1.f.id)) (a:=some bt) rfl rfl rfl rfl r.mp ⟨xd,xn⟩ (by have:=Xth tbs ts;rw[Ao];unfold maxLen;omega) (.inl rfl) (λw7 x7 xs7 hc=>?_);have Z:=r.addT (t:=⟨(q.1.f.lev,q.1.f.id),bt,vl,hh,q.2⟩) hT yb x7 hc;clear hT;have hz:=J.mod x7 (λe=>r.mp.at.ne_blk J e);have z:=z.own x7 (λi hi xj=>by have hb:i=bo:=hi;rw[hb,h.k2];decide);have r:=Z;have xh:∀k,k<w.heap.size->IV κ1 bt vl hh k=κ k:=λk hk=>by
   unfold IV;rw[if_neg (λe=>by have:=xg k e;omega)];exact hf k hk
  have J:=hz;refine de Z6 (wr (pa rfl rfl (dm (EH (?_)))));exact⟨(k+1,_,tbs++[⟨(q.1.f.lev,q.1.f.id),bt,vl,hh,q.2⟩]),G2,⟨z,by omega,by simp [xe],by rw[AH,h6,G1 hk,AH];rfl,xh,by rw[B4];exact r,J⟩,by simp only [];omega⟩
 have xy:k=qs.length:=by omega
 subst xy;rw[AI]at h6;refine Fk (Z2 _ _ (ws λ_ ya=>ws λ_ xu=>wr (dm ?_)));refine dv 62 5 (hg.mod z (λO e=>e (hgk O))).sl (dm (de xu (EM ?_)));refine Fq (G:=Nat) (λj=>[(0,EE bs 0),(5,EE b1 0),(45,vg),(46,I ↑gone.length),(47,I ↑j)]) (λj w'=>Mod (λk=>κ k≠0) w w'/\j<=gone.length/\StE κ1 bs bd bl bo bm vf L D V (Le (tbs.foldl G9 ts) (gone.take j)) mem dead w'/\EK w' b1 [I V'.next,vf'] 56) (λj=>gone.length-j) 0 ?_ ?_ ?_
 ·exact FN
 ·exact⟨z,Ae _,r,J⟩
 intro X8 g8 w8 hr;revert hr;revert g8;intro j hr;clear z r J;obtain⟨z,hj1,r,J⟩:=hr;refine ws λ_ xq=>wr (dp (Fb rfl rfl) (de xq (ws λ_ xo=>wi (λc3=>?_) λc3=>?_)))
 ·obtain⟨f,hk⟩:∃f,gone[j]?=some f:=Fw;obtain⟨xk,xf⟩:=hgi f (Ak hk);refine EI (xo _ _ (ws λ_ xm=>EM (ws λ_ xr=>wr (di 62 5 hg.sl rfl (hg.lt hk) (dq (Fe EA rfl rfl ((hg.mod z (λO e=>e (hgk O))).row hk)) (FP (cs:=[.int .i64 0,.int .i64 0,.int .i64 0,S [],S []]) rfl EA RX.all (λb3 w9 e3 x9 m3=>?_)))))));have g3:=z.ge e3;have n3_1:=J.ltb e3;have h5:=r.lt;have r:=r.ext x9;have J:=J.ext x9;have z:=z.ext x9;refine FY m3 (λw10 hy xs10 m3=>?_);dsimp only [EY,Af,Ad,Ag]at m3;have r:=r.mod hy (λk9 h9 e9=>by have h2:k9=b3:=e9;have h8:=h5 k9 h9;omega);have J:=J.mo hy;have z:=z.o1 hy;refine de xr (F9 (R:=Mod (ET bo)) Jz JV EA [3,5,7] [(0,.p,false),(1,.p,false),(2,.p,false),(3,.l,false),(4,.p,false),(5,.l,false),(6,.p,false),(7,.l,false),(8,.p,false),(9,.x,false)] rfl EA EA (λw11 hp=>?_));have hj:=EL hp;clear hp;have r:=r.ext hj;have J:=J.ext hj;have m3:=m3.ext hj;have z:=z.ext hj;refine dm ?_;refine dz rfl (df 4 rfl (dL rfl (λ_ hR=>((r.m.mod hR (λe=>r.mp.at.ne_blk r.m e)).at rfl)) (df 1 rfl (dL rfl (λ_ hR=>((m3.mod hR (λe=>r.mp.at.ne_blk m3 e)).at rfl)) (df 0 rfl (dL rfl (λ_ hR=>((m3.mod hR (λe=>r.mp.at.ne_blk m3 e)).at rfl)) (db (zs:=[.int .i64 0,.int .i64 0]) (pl:=[(0,1),(1,1)]) (pv:=[(0,_),(1,_)]) (cs:=[_,_]) ?_)))))));refine RY MV (kx:=(f.lev,f.id)) rfl rfl rfl r.mp ⟨xf,xk⟩ (.inr λ_ h=>h) (λw12 hw xs12 hc=>?_);have Z:=r.subT hw hc;have hz:=J.mod hw (λe=>r.mp.at.ne_blk J e);have z:=z.own hw (λi hi xj=>by have hb:i=bo:=hi;rw[hb,h.k2];decide);have r:=Z;have J:=hz;refine de xm (wr (pa rfl rfl (dm (EH (?_)))));rw[<-Xp8 hk]at r;exact⟨j+1,FN,⟨z,by omega,r,J⟩,by omega⟩
 refine Fk (ya _ _ (ws λ_ x0=>wr (dm ?_)));refine dq (Fe (k:=2) EA rfl rfl J.row) (dz rfl (df 2 rfl (Lg (v:=.agg ⟨[I V'.next,vf']⟩) (vs:=[I V'.next,vf']) rfl rfl rfl rfl EA r.m (Av rfl) (by intro u hu;rcases Aj.1 hu with e|hu;subst e;rfl;rw[Ah.1 hu];exact hvf.sl.one) (.inl rfl) (λw13 xc xs13 hc=>?_))));have Z:=r.setV (V':=V') (vf':=vf') xc hc (hvf.mod z (λO e=>e (hvk O))) (λO=>(hf _ (hvf.base_lt EN O)).trans (hvk O));have z:=z.own xc (λi hi xj=>by have hb:i=bs:=hi;rw[hb,h.k0];decide);have r:=Z;refine de x0 (ws λ_ xw=>wr (da (de xw (EJ ?_))));refine ro ?_;rw[Ay EB]at r;refine⟨_,rfl,z,rfl,_,_,?_,⟨tbs,h6,rfl⟩,r⟩;intro k hk xl;split
 ·exact hf k hk
 ·rename_i h9;unfold IL;rw[if_neg (xl h9)];exact hf k hk
end Go.Proofs.YtiooodckiddpmaaGreatDoor
