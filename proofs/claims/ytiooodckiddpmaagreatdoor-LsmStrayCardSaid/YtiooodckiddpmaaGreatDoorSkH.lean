/-
 A part of the proof: LgD CgA FlA TrP PiA PiB PiP TrQ SnA DlA CmP BtC VcZ.
-/
import Derived.Test.YtiooodckiddpmaaGreatDoorSkA
import Derived.Test.YtiooodckiddpmaaGreatDoorChecked
import Derived.KernelRfl
import Derived.Test.YtiooodckiddpmaaGreatDoorSkD
import Derived.Test.YtiooodckiddpmaaGreatDoorSkG
import Derived.Test.YtiooodckiddpmaaGreatDoorSkF
import Derived.Test.YtiooodckiddpmaaGreatDoorSkE
import Derived.ProofKit
import Derived.Deep.Slices
import Derived.Lib.SmallJoins
open List renaming length_append->Aa,take->Ad,set->Af,drop->Ag,mem_singleton->Ah,mem_cons->Aj,mem_of_getElem?->Ak,mem_cons_self->Al,mem_cons_of_mem->Am,map_cons->An,length_map->Ao,getElem?_eq_some_iff->Ap,mem_map->Aq,getElem?_eq_getElem->Ar,mem_append->Aw,replicate->Ax,take_of_length_le->Ay,mem_filter->A3,flatMap_cons->AB,getElem?_map->AD,nil_append->AE,length_cons->AG,map_append->AH,take_length->AI,getElem?_of_mem->AM,append_nil->AO,pairwise_cons->AQ,flatMap_append->AU,nodup_cons->AV,sum_cons->AX,map_nil->Be,getElem?_eq_none->Bm,mem_append_right->Bw,mem_map_of_mem->Bx,foldl_append->B4,filter_eq_self->B5,foldl_cons->B9,ext_getElem?->BA,filter_cons->BC,mem_append_left->BD,nodup_append->BG,length_filter_le->BI,filter_append->BL,mem_flatMap->BP,nodup_nil->BV,filter_sublist->Ca,sum_append->Cd,pairwise_iff_getElem->Ce,foldlM->C1,find?_some->CP,find?_eq_none->Dl,zip->Dn,getElem?_zipWith->Dp,any_eq_false->Dq,getElem?_zip_eq_some->DL,flatMap_def->DN,getElem?_eq_none_iff->Et,map_fst_zip->Eu,length_zip->Ev,filter_filter->Ex,filterMap_cons->Ey,foldr_cons->Ez
open Nat renaming le_refl->Ab,zero_le->Ae,le_trans->Ai,le_of_ble_eq_true->Av,lt_of_lt_of_le->Az,lt_irrefl->A6,lt_of_lt_of_eq->AA,not_lt->Ba,lt_of_le_of_lt->DP,succ_le_succ->Ew
open Bool renaming and_eq_true->Au
open Option renaming some->A0,map_eq_some_iff->Bb,map_some->Br
open Decidable renaming of_not_not->AK,byContradiction->AP
open Prod renaming mk->Bl
open List.Pairwise renaming nil->Bp,filter->CB
open List.Sublist renaming map->C3,slnil->DQ
open Int renaming ofNat_le->Dr,lt_trichotomy->DM
set_option maxRecDepth 100000
set_option maxHeartbeats 4000000
set_option linter.unusedVariables false
set_option linter.unusedSimpArgs false
namespace Go.Proofs.YtiooodckiddpmaaGreatDoor
open Go.Vc Go.Sp
attribute [local irreducible] W XW Dw Gs
def LX (D:Dsk)(i:Int)(p:EC):Int×Dsk:=if(D.save Led.img (Led.ent i p)).1=0 then(D.save Led.img (Led.ent i p)).2.rems [Led.logn]else D.save Led.img (Led.ent i p)
theorem X6v {L:Led}{D:Dsk}{i:Int}{p:EC}(h:L.dead=true):L.write D i p=(9,L,D):=by unfold Led.write;rw[if_pos h]
theorem Wo {L:Led}{D:Dsk}{i:Int}{p:EC}(h:L.dead=false)(h2:i<L.last\/1099511627776<i):L.write D i p=(1,L,D):=by unfold Led.write;rw[if_neg (by rw[h];decide),if_pos h2]
theorem X6w {L:Led}{D:Dsk}{i:Int}{p:EC}(h:L.dead=false)(h2:¬ (i<L.last\/1099511627776<i))(h3:524288<p.length):L.write D i p=(5,L,D):=by unfold Led.write;rw[if_neg (by rw[h];decide),if_neg h2,if_pos h3]
theorem Yas {L:Led}{D:Dsk}{i:Int}{p:EC}(h:L.dead=false)(h2:¬ (i<L.last\/1099511627776<i))(h3:¬ 524288<p.length)(h4:(LX D i p).1≠0):L.write D i p=((LX D i p).1,{ L with dead:=true },(LX D i p).2):=by unfold Led.write;rw[if_neg (by rw[h];decide),if_neg h2,if_neg h3];exact if_pos h4
theorem X6x {L:Led}{D:Dsk}{i:Int}{p:EC}(h:L.dead=false)(h2:¬ (i<L.last\/1099511627776<i))(h3:¬ 524288<p.length)(h4:¬ (LX D i p).1≠0):L.write D i p=(0,⟨i,p,[],false⟩,(LX D i p).2):=by unfold Led.write;rw[if_neg (by rw[h];decide),if_neg h2,if_neg h3];exact if_neg h4
theorem LedE.image {G:Nat->Prop}{bl bd:Nat}{vd ve vp:Value}{vs:List (Value×EC)}{L:Led}{w0 w':World}{i:Int}{p:EC}(h:LedE G bl bd vd ve vs L w0)(hs:w0.heap.size<=w'.heap.size)(hm:EK w' bl [EE bd 0,S [115],I i,vp,.slice none 0 0,B false] 147)(ha:EQ EO 1 w' vp p)(hf:p≠[]->w0.heap.size<=(base vp).1)(h0:0<=i)(h1:i<=1099511627776)(hp:p.length<=524288) :
  LedE (Gx G w0 w') bl bd vp (.slice none 0 0) [] ⟨i,p,[],false⟩ w':=by
 refine⟨hm,ha,Vc.Own.nil,rfl,(λq r=>by cases r),λk hk=>?_,λk hk=>?_,HT h.lt hs,h0,h1,hp,(λq r=>by cases r),(by simpa [Led.last]using h1)⟩
 ·rcases hk with rfl|hk|hk|⟨q,r,_⟩
  ·exact .inl (h.inG _ (.inl rfl))
  ·cases hk
  ·obtain⟨z,rfl⟩:=hk;exact .inr ⟨hf z,ha.base_lt EN z⟩
  ·cases r
 ·rcases hk with hk|⟨q,r,_⟩
  ·obtain⟨z,rfl⟩:=hk;refine⟨λe=>?_,λe=>by cases e⟩;have h1:=hf z;have h2:=h.lt bl (h.inG bl (.inl rfl));rw[e]at h1;omega
  ·cases r
theorem X6y (H:Nat->Prop)(bl bd:Nat)(L:Led)(D:Dsk)(ix:Int)(p:EC)(vp:Value)(w:World)(h:LD H bl bd L D w)(hp:EQ EO 1 w vp p)(hpl:p.length<=1000000)(hpH:p≠[]->¬ H (base vp).1) :
  Calls Tryz.prog 94 [EE bl 0,I ix,vp].toArray w (Ff H w (λu w'=>u=I (L.write D ix p).1/\LD (Gx H w w') bl bd (L.write D ix p).2.1 (L.write D ix p).2.2 w')):=by
 refine cw Tryz.func94 ?_;have r:=ED.refl w;have hy:=h;obtain⟨F,G,vd,ve,vs,hA,z,hc,ha,hf⟩:=h;have J:=z.m;have hla:=z.la;have hb0:=z.b0;have hl0:0<=L.last:=by unfold Led.last;omega
 have Y:=z.lt;have hblt:=J.lt;have yi:=Gj (Hn ix);have hbl1:([ix].flatMap Gf).length<=10:=by simpa [Gf]using yi
 have helen:=Lr ix p;refine ws λ_ Z1=>wr (da (de Z1 (ws λ_ Z2=>EM (ws λ_ Z3=>wr (dm ?_)))));refine dp (Gi EA rfl rfl) (da (de Z3 ?_));refine wi (λc1=>?_) λc1=>?_
 ·exact absurd c1 ER
 refine ws λ_ Z4=>wr (dm ?_);refine dz rfl (df 5 rfl (dl rfl (J.at rfl) (da (de Z4 ?_))));refine wc (λc2=>?_) λc2=>?_
 ·refine ws λ_ Z5=>wr (da (de Z5 (EJ ?_)));refine ro ?_;rw[X6v c2];exact⟨_,rfl,r.mono (λ_ h _=>h.elim),rfl,hy.grow r⟩
 refine ws λ_ Z6=>wr (dm (dm ?_));refine cP (GC G bl bd vd ve vs L _ z) RX.all λw1 x1=>?_;have J:=J.ext x1;have z:=z.ext x1;have hA:=hA.ext x1;have r:=r.trans x1;refine dp (Fb rfl rfl) (dm ?_);refine F4 22 rfl (λc3=>?_) (λc3=>?_)
 ·refine dk (dk (EP ?_));refine da (de Z6 ?_);refine GS rfl (ws λ_ Z7=>wr (da (de Z7 (EJ ?_))));refine ro ?_;rw[Wo c2 EB];exact⟨_,rfl,r.mono (λ_ h _=>h.elim),rfl,hy.grow r⟩
 refine dm ?_;refine dp (Gg rfl rfl) (EP ?_);refine da (de Z6 ?_);refine wi (λc4=>?_) λc4=>?_
 ·refine ws λ_ Z8=>wr (da (de Z8 (EJ ?_)));refine ro ?_;rw[Wo c2 EB];exact⟨_,rfl,r.mono (λ_ h _=>h.elim),rfl,hy.grow r⟩
 have xf:¬ (ix<L.last\/1099511627776<ix):=by omega
 refine ws λ_ Z9=>wr (dm ?_);refine dv 5 1 hp.sl (dp (Gg rfl rfl) (da (de Z9 ?_)));refine wi (λc5=>?_) λc5=>?_
 ·refine ws λ_ yl=>wr (da (de yl (EJ ?_)));refine ro ?_;rw[X6w c2 xf EB];exact⟨_,rfl,r.mono (λ_ h _=>h.elim),rfl,hy.grow r⟩
 have h6:¬ 524288<p.length:=by omega
 refine EI (Z2 _ _ (ws λ_ yf=>wr (FP (cs:=[.slice none 0 0]) rfl EA RX.all (λb1 w2 e1 x2 m1=>?_))));have g1:=r.ge e1;have a1_hl:=J.lt;have a1_hE:=z.lt;have a1_hA:=hA.lt;have J:=J.ext x2;have z:=z.ext x2;have hA:=hA.ext x2;have r:=r.trans x2;refine de yf (ws λ_ yj=>wr (dm ?_));refine li (e:=3) (sz:=1) (zs:=[.int .i64 0]) (pv:=[(0,_)]) (cs:=[_]) RX.all (λb2 w3 e2 x3 m2=>?_);have g2:=r.ge e2;have n2_1:=m1.ltb e2;have a2_hl:=J.lt;have a2_hE:=z.lt;have a2_hA:=hA.lt;have J:=J.ext x3;have z:=z.ext x3;have hA:=hA.ext x3;have m1:=m1.ext x3;have r:=r.trans x3;have O:Wr w.heap.size b1 (.slice none 0 0) [] w3:=⟨m1,Vc.Own.nil⟩;refine cD (JZ w.heap.size b1 (.slice none 0 0) [] [ix] (.slice (some ⟨b2,0,none⟩) 1 1) _ O ER r.size (m2.arr (enc:=Vc.encI) (sz:=1) (l:=[ix]) rfl EF rfl ER) ER (λk hk _ e=>hk.elim (λh=>by have e2:b2=k:=e;omega) (λh=>by cases h))) (.inl rfl) λu4 w4 x4 xz=>?_;have hsz4:=r.size;have J:=J.mod x4 (λh=>by have h8:=O.ge g1 h;omega);have z:=z.mod x4 (λk hk h=>by have h9:=Y k hk;have h8:=O.ge g1 h;omega);have hA:=hA.mod x4 (λk hk h=>by have h9:=hf k (ha k (.inl hk));have h8:=O.ge g1 h;omega);have r:=r.own x4 (λi hi=>O.ge g1 hi);obtain⟨rfl,v2,O,hg2⟩:=xz;refine de yj (ws λ_ yg=>wr (dm ?_));refine It (e:=82) (sz:=1) (zs:=[.slice none 0 0]) (pv:=[(0,?a27_0)]) (cs:=[?a27_0]) rfl EA ⟨rfl,rfl⟩ EA rfl ?h27 ?f27 RX.all (λb3 w5 e3 x5 m3=>?k27)
 case h27=>refine⟨rfl,?_,trivial⟩<;>(conv=>lhs;whnf)
 case f27=>simp [H7,EY,Ax,hp.sl.cells]
 have g3:=r.ge e3;have a3_hl:=J.lt;have a3_hE:=z.lt;have a3_hA:=hA.lt;have hw:=O.lt;have J:=J.ext x5;have z:=z.ext x5;have hA:=hA.ext x5;have O:=O.ext x5;have r:=r.trans x5;refine cD (Lc w.heap.size b1 v2 _ [(vp,p)] (.slice (some ⟨b3,0,none⟩) 1 1) _ O (by rw[AE];omega) r.size (K5 m3) (λq h=>by rw[Ah.1 h];exact hp.ext r) (λq h=>by rw[Ah.1 h];exact hpl) ER (λ_ h=>A6 b3 (AA (hw _ h) e3.symm)) (λq h J h2=>by rw[Ah.1 h]at J h2;have h8:=hp.base_lt EN J;have h7:=O.ge g1 h2;exact absurd (Az h8 h7) (A6 _))) (.inl rfl) λu6 w6 x6 yb=>?_;have hsz6:=r.size;have J:=J.mod x6 (λh=>by have h8:=O.ge g1 h;omega);have z:=z.mod x6 (λk hk h=>by have h9:=Y k hk;have h8:=O.ge g1 h;omega);have hA:=hA.mod x6 (λk hk h=>by have h9:=hf k (ha k (.inl hk));have h8:=O.ge g1 h;omega);have r:=r.own x6 (λi hi=>O.ge g1 hi);obtain⟨rfl,v3,O,hg3⟩:=yb;refine de yg ?_;refine Hz (G:=(Nat->Prop)×Dsk×Int) (λ(F1,D1,e1)=>[(0,EE bl 0),(1,I ix),(2,vp),(6,I 0),(8,I e1)]) (λ(F1,D1,e1) w'=>Mod H w w'/\FSq F1 bd D1 w'/\LedE G bl bd vd ve vs L w'/\(∀k,F1 k->F k\/w.heap.size<=k)/\EK w' bl [EE bd 0,S [115],I L.base,vd,ve,B L.dead] 147/\D.save Led.img (Led.ent ix p)=(e1,D1)) ?_ ?_
 ·refine F9 (R:=ED) ED.refl (λ_ _ _=>ED.trans) EA [3] [(0,.p,false),(1,.p,false),(2,.p,false),(3,.l,false),(4,.p,false),(5,.x,false),(6,.x,false),(7,.x,false),(8,.x,true),(9,.p,false)] rfl EA EA (λw7 xr=>?_);have x7:=EL xr;clear xr;have J:=J.ext x7;have z:=z.ext x7;have hA:=hA.ext x7;have O:=O.ext x7;have r:=r.trans x7;refine dm ?_;refine dz rfl (df 0 rfl (dL rfl (λ_ hR=>((J.ext hR).at rfl)) (dm ?_)));refine cP (Gq G bl bd vd ve vs L _ z) RX.ext λw8 x8=>?_;have J:=J.ext x8;have z:=z.ext x8;have hA:=hA.ext x8;have O:=O.ext x8;have r:=r.trans x8;refine cG (N3 w.heap.size b1 v3 _ _ O (by simp only [AE,Aa,An,Be,AB,List.flatMap_nil,AO,Fs,Gf]at *;have h5:=Gj p.length;omega)) RX.ext λvo w9 x9 hB=>?_;have hsz9:=r.size;have J:=J.ext x9;have z:=z.ext x9;have hA:=hA.ext x9;have r:=r.trans x9;rw[show([]++[ix].flatMap Gf)++List.flatMap Fs ([(vp,p)].map (λq:Value×EC=>q.2))=Led.ent ix p by rw[AE];exact T4 EB EB]at hB;refine It (e:=82) (sz:=1) (zs:=[.slice none 0 0]) (pv:=[(0,?a30_0)]) (cs:=[?a30_0]) rfl EA ⟨rfl,rfl⟩ EA rfl ?h30 ?f30 RX.ext (λb4 w10 e4 hj m4=>?k30)
  case h30=>refine⟨rfl,?_,trivial⟩<;>(conv=>lhs;whnf)
  case f30=>simp [H7,EY,Ax,hB.sl.cells]
  have g4:=r.ge e4;have a4_hl:=J.lt;have a4_hE:=z.lt;have a4_hA:=hA.lt;have o4_hB:=hB.ltb e4;have J:=J.ext hj;have z:=z.ext hj;have hA:=hA.ext hj;have hB:=hB.ext hj;have r:=r.trans hj;refine cD (Qn F bd D Led.img (Led.ent ix p) vo _ _ hA (m4.arr (enc:=λx:Value=>[x]) (sz:=1) (l:=[vo]) rfl EF rfl ER) (hB.arr EF) EB EN) (.inl rfl) λu11 w11 xk xq=>?_;have xb:=r.size;have J:=J.mod xk (λh=>hc bl h (z.inG bl (.inl rfl)));have z:=z.mod xk (λk hk h=>hc k h hk);have r:=(r.mod xk).mono (λi hi _=>(ha i (.inl hi):H i));obtain⟨rfl,hA⟩:=xq;have xx:=xb;refine da (EH (?_));exact⟨(_,_,_),FN,r,hA,z,Lx xx,J,rfl⟩
 intro X12 yc w12 xy;obtain⟨F1,D1,e1⟩:=yc;clear r J z hA O;obtain⟨r,hA,z,hb,J,xn⟩:=xy;have hs1:=r.size;refine Hz (G:=(Nat->Prop)×Dsk×Int) (λ(F2,D2,e)=>[(0,EE bl 0),(1,I ix),(2,vp),(6,I 0),(8,I e)]) (λ(F2,D2,e) w'=>Mod H w w'/\FSq F2 bd D2 w'/\LedE G bl bd vd ve vs L w'/\(∀k,F2 k->F k\/w.heap.size<=k)/\EK w' bl [EE bd 0,S [115],I L.base,vd,ve,B L.dead] 147/\LX D ix p=(e,D2)) ?_ ?_
 ·refine ws λ_ x0=>wr (dm ?_);refine dp (GB rfl rfl) (de x0 (wi (λc6=>?_) λc6=>?_))
  ·refine F9 (R:=ED) ED.refl (λ_ _ _=>ED.trans) EA [3] [(0,.p,false),(1,.p,false),(2,.p,false),(3,.l,false),(4,.p,false),(5,.x,false),(6,.x,false),(7,.x,true),(8,.p,false)] rfl EA EA (λw13 xa=>?_);have hq:=EL xa;clear xa;have hA:=hA.ext hq;have z:=z.ext hq;have J:=J.ext hq;have r:=r.ext hq;refine dm ?_;refine dz rfl (df 0 rfl (dL rfl (λ_ hR=>((J.ext hR).at rfl)) (dm ?_)));refine cP (FB G bl bd vd ve vs L _ z) RX.ext λw14 ht=>?_;have hA:=hA.ext ht;have z:=z.ext ht;have J:=J.ext ht;have r:=r.ext ht;refine li (e:=9) (sz:=1) (zs:=[S []]) (pv:=[(0,_)]) (cs:=[_]) RX.ext (λb5 w15 e5 hz m5=>?_);have g5:=r.ge e5;have xd:=hA.lt;have a5_hE:=z.lt;have a5_hl:=J.lt;have hA:=hA.ext hz;have z:=z.ext hz;have J:=J.ext hz;have r:=r.ext hz;refine cD (Hr F1 bd D1 [Led.logn] _ _ hA (K6 m5) ER (λ_ hF=>A6 b5 (AA (xd _ hF) e5.symm))) (.inl rfl) λu16 w16 xh xo=>?_;have hsz16:=r.size;have z:=z.mod xh (λk hk h=>(hb _ h).elim (λh=>hc _ h hk) (λh=>by have h9:=Y _ hk;omega));have J:=J.mod xh (λh=>(hb _ h).elim (λh=>hc _ h (z.inG bl (.inl rfl))) (λh=>by have h9:=Y _ (z.inG bl (.inl rfl));omega));have r:=r.own xh (λi hi hf=>ha i (.inl ((hb i hi).resolve_right EB)));obtain⟨rfl,hA⟩:=xo;refine da (EH (?_));exact⟨(_,_,_),FN,r,hA,z,λk hk=>hk.elim (hb k) (λh9=>.inr EB),J,by unfold LX;rw[xn,if_pos c6]⟩
  refine EI ?_;exact⟨(F1,D1,e1),FN,r,hA,z,hb,J,by unfold LX;rw[xn,if_neg c6]⟩
 intro X17 yk w17 xu;obtain⟨F2,D2,e⟩:=yk;clear r hA z J;obtain⟨r,hA,z,Z,J,hR⟩:=xu;have hsw:=r.size;refine ws λ_ xm=>ws λ_ yh=>wr (dm (dm ?_));refine cD (UW G bl bd vd ve vs L e _ z) (.inl rfl) λu18 ye xl xv=>?_;have hsz18:=r.size;have hA:=hA.mod xl (λk hk e9=>by have e8:k=bl:=e9;subst e8;exact(Z _ hk).elim (λh=>hc _ h (z.inG _ (.inl rfl))) (λh=>by have h9:=Y _ (z.inG _ (.inl rfl));omega));have r:=r.own xl (λi hi hf=>(by have e2:i=bl:=hi;rw[e2];exact ha bl (.inr (z.inG bl (.inl rfl)))));obtain⟨rfl,z⟩:=xv;refine dp (GB rfl rfl) (de yh (wi (λc7=>?_) λc7=>?_))
 ·have xe:e=0:=c7;have xg:{ L with dead:=L.dead || decide (e≠0) } = L:=by rw[c2,xe];cases L;simp at c2 ⊢;exact c2
  rw[xg]at z;have J:=z.m;have yd:=hA.lt;have xp:=r.size;refine wr (dm (dm (dm (dm (dm ?_)))));refine cG (L7 p vp _ (hp.mod r hpH) EB) RX.all λvc w19 hr hC=>?_;have hsz19:=r.size;have hA:=hA.ext hr;have J:=J.ext hr;have r:=r.ext hr;have hh:=hC.ne_blk J rfl;refine dz rfl (df 2 rfl (G4 J (λw20 xj xs20 J=>?_) (hv:=by rfl)));dsimp only [EY,Af,Ad,Ag]at J;have hA:=hA.mod xj (λk hk e9=>by have e8:k=bl:=e9;subst e8;exact(Z _ hk).elim (λh=>hc _ h (z.inG _ (.inl rfl))) (λh=>by have h9:=Y _ (z.inG _ (.inl rfl));omega));have hC:=hC.mod xj (λk hk h=>hh (by have h2:k=bl:=h;rw[hk,h2]));have r:=r.own xj (λi hi _=>(by have e2:i=bl:=hi;rw[e2];exact ha bl (.inr (z.inG bl (.inl rfl)))));refine dz rfl (df 3 rfl (G4 J (λw21 xi xs21 J=>?_) (hv:=by exact hC.sl.one)));dsimp only [EY,Af,Ad,Ag]at J;have hA:=hA.mod xi (λk hk e9=>by have e8:k=bl:=e9;subst e8;exact(Z _ hk).elim (λh=>hc _ h (z.inG _ (.inl rfl))) (λh=>by have h9:=Y _ (z.inG _ (.inl rfl));omega));have hC:=hC.mod xi (λk hk h=>hh (by have h2:k=bl:=h;rw[hk,h2]));have r:=r.own xi (λi hi _=>(by have e2:i=bl:=hi;rw[e2];exact ha bl (.inr (z.inG bl (.inl rfl)))));refine dz rfl (df 4 rfl (G4 J (λxw xc xs22 J=>?_) (hv:=by rfl)));dsimp only [EY,Af,Ad,Ag]at J;have hA:=hA.mod xc (λk hk e9=>by have e8:k=bl:=e9;subst e8;exact(Z _ hk).elim (λh=>hc _ h (z.inG _ (.inl rfl))) (λh=>by have h9:=Y _ (z.inG _ (.inl rfl));omega));have hC:=hC.mod xc (λk hk h=>hh (by have h2:k=bl:=h;rw[hk,h2]));have r:=r.own xc (λi hi _=>(by have e2:i=bl:=hi;rw[e2];exact ha bl (.inr (z.inG bl (.inl rfl)))));refine de xm (ws λ_ yn=>wr (dm (da (de yn (EJ ?_)))));refine ro ?_;have hs22:=hr.size;rw[c2]at J;have ym:=z.image (w':=xw) (i:=ix) (p:=p) EB J (hC.arr EF) (λhn=>(hC.base_ge hn).1) EB EB EB;refine⟨_,rfl,r,?_⟩;rw[X6x c2 xf h6 (by rw[hR,xe];simp),hR,xe];refine⟨rfl,F2,Gx G ye xw,vc,_,_,hA,ym,λk hk hg=>?_,λk hk=>hk.elim (λh=>(Z k h).elim (λh2=>.inl (ha k (.inl h2))) (λh2=>.inr ⟨h2,hA.lt k h⟩)) (λh=>?_),HT hf r.size⟩
  ·rcases hg with hg|hg
   ·exact(Z k hk).elim (λh=>hc k h hg) (λh=>by have:=Y k hg;omega)
   ·have:=yd k hk;omega
  ·rcases h with h|h
   ·exact .inl (ha k (.inr h))
   ·exact .inr ⟨Ai xp h.1,h.2⟩
 refine EI (xm _ _ (ws λ_ ya=>wr (dm (da (de ya (EJ ?_))))));refine ro ?_;have xg:{ L with dead:=L.dead || decide (e≠0) } = { L with dead:=true }:=by rw[c2];simp [show¬ e=0 from c7]
 rw[xg]at z;refine⟨_,rfl,r,?_⟩;rw[Yas c2 xf h6 (by rw[hR];exact c7),hR];exact⟨rfl,F2,G,vd,ve,vs,hA,z,λk hk hg=>(Z k hk).elim (λh=>hc k h hg) (λh=>by have:=Y k hg;omega),λk hk=>hk.elim (λh=>(Z k h).elim (λh2=>.inl (ha k (.inl h2))) (λh2=>.inr ⟨h2,hA.lt k h⟩)) (λh=>.inl (ha k (.inr h))),HT hf r.size⟩
def F7 (lv next:Int)(ss:List (List Cell)):List Fi:=ss.zipIdx.map λp=>Kr lv next p.2 p.1
def HZ (next:Int)(ss:List (List Cell)):List (Int×EC):=ss.zipIdx.map λp=>(next+↑p.2,EG (Fo p.1))
def Kz (lv next:Int)(ss:List (List Cell)):List ((Int×Int)×List Cell):=ss.zipIdx.map λp=>((lv,next+↑p.2),p.1)
def JH (b0 B1:Nat)(lv next:Int)(xs:List Md)(ss:List (List Cell))(w:World):Prop:=KR b0 lv next xs ss w/\∀x∈xs,(base x.vb).1<B1
section
variable {b0 B1:Nat}{lv next:Int}{xs:List Md}{ss:List (List Cell)}{w w':World}{S:Nat->Prop}
theorem JH.mod (h:JH b0 B1 lv next xs ss w)(m:Vc.Mod S w w')(hS:∀k,b0<=k->k<B1->¬ S k):JH b0 B1 lv next xs ss w':=
 ⟨⟨h.1.1,λj x sg r hs=>by
  obtain⟨h1,h2,h3,h4,z⟩:=h.1.2 j x sg r hs;exact⟨h1,h2,h3.mod m (λ_=>hS _ h4 (h.2 x (Ak r))),h4,z⟩⟩,h.2⟩
theorem JH.ext (h:JH b0 B1 lv next xs ss w)(m:ED w w'):JH b0 B1 lv next xs ss w':=h.mod m (λ_ _ _ h=>h)
theorem KR.up (h:KR b0 lv next xs ss w):JH b0 w.heap.size lv next xs ss w:=⟨h,λx z=>by
 obtain⟨i,hi⟩:=AM z;have r:=(Ap.1 hi).1;obtain⟨h1,h2,h3,h4,h5⟩:=h.2 i x _ hi (Ar (by rw[<-h.1];exact r));exact h3.base_lt EN (λe=>by have:=Jm (Fo (ss[i]'(by rw[<-h.1];exact r)));rw[e]at this;simp at this)⟩
theorem Ld {α:Type}(l:List α)(i:Nat):l.zipIdx[i]?=l[i]?.map λx=>(x,i):=by
 rw[List.getElem?_zipIdx];simp
theorem KR.files (h:KR b0 lv next xs ss w):xs.map (·.f)=F7 lv next ss/\(xs.zip (ss.map λsg=>EG (Fo sg))).map (λq=>(q.1.f.id,q.2))=HZ next ss/\(xs.zip ss).map (λq=>((q.1.f.lev,q.1.f.id),q.2))=Kz lv next ss:=by
 have r:∀i x,xs[i]?=some x->∃sg,ss[i]?=some sg/\x.f=Kr lv next i sg:=λi x hi=>by
  have O:=(Ap.1 hi).1;have hs:ss[i]?=some (ss[i]'(by rw[<-h.1];exact O)):=Ar _;exact⟨_,hs,(h.2 i x _ hi hs).1⟩
 have z:∀i,xs[i]?=none->ss[i]?=none:=λi hi=>by
  rw[Et]at *;rw[<-h.1];exact hi
 refine⟨?_,?_,?_⟩
 ·apply BA
  intro i;unfold F7;rw[AD,AD,Ld]
  cases hi:xs[i]? with
  | none=>rw[z i hi];rfl
  | some x=>obtain⟨sg,hs,J⟩:=r i x hi;rw[hs];simp [J]
 ·apply BA
  intro i;unfold HZ;rw[AD,AD,Ld]
  cases hi:xs[i]? with
  | none=>rw[z i hi];simp [Dn,Dp,hi]
  | some x=>obtain⟨sg,hs,J⟩:=r i x hi;simp [Dn,Dp,hi,hs,J,Kr]
 ·apply BA
  intro i;unfold Kz;rw[AD,AD,Ld]
  cases hi:xs[i]? with
  | none=>rw[z i hi];simp [Dn,Dp,hi]
  | some x=>obtain⟨sg,hs,J⟩:=r i x hi;simp [Dn,Dp,hi,hs,J,Kr]
end
def Jx (L:Led)(D:Dsk)(V:Vs)(ts:List Tb)(dead:Bool)(l:List Cell)(lv:Int)(gone:List Fi)(e:Int)(L':Led)(D':Dsk)(V':Vs)(ts':List Tb)(dead':Bool):Prop:=
 (e≠0/\L'=L/\D'=D/\V'=V/\ts'=ts/\dead'=dead/\((∃sg∈F8 l,Hx sg≠0)\/Kw V (gone.map (·.id)) (F7 lv V.next (F8 l))=false\/∃fs',fs'.Perm (Ik V.fs (gone.map (·.id))++F7 lv V.next (F8 l))/\Up (Fz Hw) fs'/\(GK ⟨Hp V.next (F7 lv V.next (F8 l)),fs'⟩=false\/262144<(FO ⟨Hp V.next (F7 lv V.next (F8 l)),fs'⟩).length)))\/
 ((∀sg∈F8 l,Hx sg=0)/\Kw V (gone.map (·.id)) (F7 lv V.next (F8 l))=true/\∃fs',fs'.Perm (Ik V.fs (gone.map (·.id))++F7 lv V.next (F8 l))/\Up (Fz Hw) fs'/\GK ⟨Hp V.next (F7 lv V.next (F8 l)),fs'⟩=true/\(FO ⟨Hp V.next (F7 lv V.next (F8 l)),fs'⟩).length<=262144/\
  (((GQ (HZ V.next (F8 l)) D).1≠0/\e=(GQ (HZ V.next (F8 l)) D).1/\L'=L/\D'=(GQ (HZ V.next (F8 l)) D).2/\V'=V/\ts'=ts/\dead'=true)\/
   ((GQ (HZ V.next (F8 l)) D).1=0/\L'=(L.write (GQ (HZ V.next (F8 l)) D).2 L.last (FO ⟨Hp V.next (F7 lv V.next (F8 l)),fs'⟩)).2.1/\D'=(L.write (GQ (HZ V.next (F8 l)) D).2 L.last (FO ⟨Hp V.next (F7 lv V.next (F8 l)),fs'⟩)).2.2/\
    (((L.write (GQ (HZ V.next (F8 l)) D).2 L.last (FO ⟨Hp V.next (F7 lv V.next (F8 l)),fs'⟩)).1≠0/\e=(L.write (GQ (HZ V.next (F8 l)) D).2 L.last (FO ⟨Hp V.next (F7 lv V.next (F8 l)),fs'⟩)).1/\V'=V/\ts'=ts/\dead'=true)\/
     ((L.write (GQ (HZ V.next (F8 l)) D).2 L.last (FO ⟨Hp V.next (F7 lv V.next (F8 l)),fs'⟩)).1=0/\e=0/\V'=⟨Hp V.next (F7 lv V.next (F8 l)),fs'⟩/\dead'=dead/\∃tbs:List Tb,tbs.map (λt=>(t.h,t.cs))=Kz lv V.next (F8 l)/\ts'=Le (tbs.foldl G9 ts) gone)))))
theorem MI {v:Vs}(h:GK v=true):∀f∈v.fs,EU f.id/\EU f.lev:=λf z=>by
 obtain⟨h1,h2,h3,h4,_⟩:=Ij h;have r:=h4 f z;simp only [HW,Au,decide_eq_true_eq]at r;exact⟨⟨by omega,by omega⟩,⟨by omega,by omega⟩⟩
theorem KR.mono {b b0:Nat}{lv next:Int}{xs:List Md}{ss:List (List Cell)}{w:World}(h:KR b0 lv next xs ss w)(hb:b<=b0):KR b lv next xs ss w:=⟨h.1,λj x sg r hs=>by
 obtain⟨h1,h2,h3,h4,z⟩:=h.2 j x sg r hs;exact⟨h1,h2,h3,Ai hb h4,z⟩⟩
theorem Xti (l:List Cell):(F8 l).length<=l.length:=by
 rw[<-QU (Ab l.length)];exact(Nx l _ (Ab _)).2
theorem X00 {lv next:Int}{ss:List (List Cell)}(hn:0<=next/\next<=1099511627776)(hl:ss.length<=100000):∀f∈F7 lv next ss,EU f.id:=λf r=>by
 unfold F7 at r;obtain⟨p,z,rfl⟩:=Aq.1 r;obtain⟨i,hi⟩:=AM z;rw[Ld]at hi;obtain⟨sg,hs,rfl⟩:=Bb.1 hi;have:=(Ap.1 hs).1;show EU (next+↑i);unfold EU;omega
theorem Xxp {sg:List Cell}(h:Hx sg=0):(EG (Fo sg)).length<=1048588:=by
 have h1:=(LA h).2.2.2;unfold Hu at h1;rw[Jm];split at h1
 ·cases h1
 ·omega
theorem JH.zip {b0 B1:Nat}{lv next:Int}{xs:List Md}{ss:List (List Cell)}{w:World}(h:JH b0 B1 lv next xs ss w)(hn:0<=next/\next<=1099511627776)(hlv:0<=lv/\lv<=100)(hl:ss.length<=100000):∀q∈xs.zip ss,EQ EO 1 w q.1.vb (EG (Fo q.2))/\Hx q.2=0/\EU q.1.f.id/\EU q.1.f.lev/\(b0<=(base q.1.vb).1/\(base q.1.vb).1<B1)/\q.1.vl.oneCell'=true:=λq z=>by
 obtain⟨i,hi⟩:=AM z;rw[DL]at hi;obtain⟨h1,h2,h3,h4,r⟩:=h.1.2 i q.1 q.2 hi.1 hi.2;have:=(Ap.1 hi.2).1;rw[h1];exact⟨h3,h2,by show EU (next+↑i);unfold EU;omega,by show EU lv;unfold EU;omega,⟨h4,h.2 _ (Ak hi.1)⟩,r⟩
theorem JH.zip2 {b0 B1:Nat}{lv next:Int}{xs:List Md}{ss:List (List Cell)}{w:World}(h:JH b0 B1 lv next xs ss w)(hn:0<=next/\next<=1099511627776)(hlv:0<=lv/\lv<=100)(hl:ss.length<=100000):∀q∈xs.zip (ss.map λsg=>EG (Fo sg)),EQ EO 1 w q.1.vb q.2/\q.2.length<=2001000020/\EU q.1.f.id/\(b0<=(base q.1.vb).1/\(base q.1.vb).1<B1)/\q.1.vl.oneCell'=true:=λq J=>by
 obtain⟨i,hi⟩:=AM J;rw[DL,AD]at hi;obtain⟨sg,hs,he⟩:=Bb.1 hi.2;obtain⟨h1,h2,h3,h4,r,z⟩:=h.zip hn hlv hl (q.1,sg) (Ak (i:=i) (by rw[DL];exact⟨hi.1,hs⟩));rw[<-he];have h9:(EG (Fo sg)).length<=1048588:=Xxp h2;exact⟨h1,by omega,h3,r,z⟩
theorem LD.calls_last {H:Nat->Prop}{bl bd:Nat}{L:Led}{D:Dsk}{w:World}(h:LD H bl bd L D w):Calls Tryz.prog 55 [EE bl 0].toArray w (Pure w (I L.last)):=by
 obtain⟨F,G,vd,ve,vs,h1,h2,_⟩:=h;exact GC G bl bd vd ve vs L w h2
theorem Vp (κ:Nat->Nat)(bs bd bl bo bm:Nat)(vf:Value)(L:Led)(D:Dsk)(V:Vs)(ts:List Tb)(mem:List Cell)(dead:Bool)(l:List Cell)(vc:Value)(lv:Int)(gone:List Fi)(vg:Value)(w:World)(h:StE κ bs bd bl bo bm vf L D V ts mem dead w)(hc:EQ Cell.cs 4 w vc l)(hll:l.length<=30000)(hc9:∀c∈l,c.key.length<=4096/\c.val.length<=16384)(hlv:0<=lv/\lv<=100)(hg:EQ Fi.cs 5 w vg gone)(hgl:gone.length<=30000)(hgk:gone≠[]->κ (base vg).1=0)(hgi:∀f∈gone,EU f.id/\EU f.lev)(hV:GK V=true)(hgv:GV w)(hgvs:∀k,Ls k->κ k=0)(htl:ts.length<=900000)(hck:l≠[]->κ (base vc).1=0) :
  Calls Tryz.prog 44 [EE bs 0,vc,I lv,vg].toArray w (Ff (λk=>κ k≠0) w (λu w'=>∃e κ' vf' L' D' V' ts' dead',u=I e/\(∀k,k<w.heap.size->κ' k=κ k)/\StE κ' bs bd bl bo bm vf' L' D' V' ts' mem dead' w'/\Jx L D V ts dead l lv gone e L' D' V' ts' dead')):=by
 refine cw Tryz.func44 ?_;have O:=Vc.Mod.refl (λk=>κ k≠0) w;have Y:=h;obtain⟨hn1,hn2,hvl,hvo,_⟩:=Ij hV;have yy:=MI hV;have hsgl:=Xti l;have hh:∀k,w.heap.size<=k->κ k=0:=λk hk=>AP λh9=>by have:=h.lt k h9;omega
 have hwid:∀k,w.heap.size<=k->¬ ET bs k:=λk hk e=>by have e2:k=bs:=e;have h1:=hh k hk;rw[e2,h.k0]at h1;cases h1
 refine ws λ_ Z1=>wr (da (de Z1 (ws λ_ Z2=>wr (dm (dm (dm ?_))))));refine dz rfl (df 2 rfl (df 0 rfl (dl rfl (Y.m.at rfl) (cG (X6s l vc lv V.next _ (hc.mod O (λhl e=>e (hck hl))) hll hc9 hlv EB) RX.all λu1 w1 x1 zd=>?_))));have yc:=O.size;have Y:=Y.ext x1;have O:=O.ext x1;obtain⟨va,e1,hu,hmk⟩:∃va e1,u1=.tuple #[va,I e1]/\((e1≠0/\∃sg∈F8 l,Hx sg≠0)\/(e1=0/\∃xs,Vc.Own Md.cs 7 161 w.heap.size w1 va xs/\KR w.heap.size lv V.next xs (F8 l) w1)):=by
  rcases zd with⟨sg,h1,h2,h3⟩|⟨va,xs,h1,h2,h3⟩
  ·exact⟨_,_,h3,.inl ⟨h2,sg,h1,h2⟩⟩
  ·exact⟨_,_,h1,.inr ⟨rfl,xs,h2.mono yc,h3.mono yc⟩⟩
 subst hu;refine dm ?_;refine dx rfl rfl (dx rfl rfl (da (da (de Z2 (ws λ_ Z3=>ws λ_ Z4=>wr (dm ?_))))));refine dp (FH rfl rfl) (de Z4 (wi (λc1=>?_) λc1=>?_))
 ·refine ws λ_ Z5=>wr (dm (da (de Z5 (EJ ?_))));refine ro ?_;rcases hmk with⟨_,h9⟩|⟨h9,_⟩
  ·exact⟨_,rfl,O,e1,κ,vf,L,D,V,ts,dead,rfl,λ_ _=>rfl,Y,.inl ⟨c1,rfl,rfl,rfl,rfl,rfl,.inl h9⟩⟩
  ·exact absurd h9 c1
 rcases hmk with⟨h9,_⟩|⟨h9,xs,r,hMF⟩
 ·exact absurd h9 c1
 obtain⟨yt,zh,ue⟩:=hMF.files;have xn:∀sg∈F8 l,Hx sg=0:=λsg hs=>by
  obtain⟨i,hi⟩:=AM hs;have yk:=(Ap.1 hi).1;exact(hMF.2 i _ sg (Ar (by rw[hMF.1];exact yk)) hi).2.1
 have hxl:=hMF.1;obtain⟨B1,hB1,J,hG⟩:∃B1,w.heap.size<=B1/\Sz B1 _/\JH w.heap.size B1 lv V.next xs (F8 l) _:=⟨_,O.size,⟨Ab _⟩,hMF.up⟩;refine EI (Z3 _ _ (ws λ_ Z6=>wr (da (de Z6 (ws λ_ Z7=>ws λ_ Z8=>wr (dm ?_))))));refine dv 62 5 (hg.mod O (λhl e=>e (hgk hl))).sl (dm (de Z8 (EM ?_)));refine Fq (G:=Nat×Value) (λ(k,vi)=>[(0,EE bs 0),(3,vg),(8,I 0),(9,va),(10,I e1),(11,vi),(36,vg),(37,I ↑gone.length),(38,I ↑k)]) (λ(k,vi) w'=>Mod (λk=>κ k≠0) w w'/\StE κ bs bd bl bo bm vf L D V ts mem dead w'/\Vc.Own Md.cs 7 161 w.heap.size w' va xs/\JH w.heap.size B1 lv V.next xs (F8 l) w'/\Sz B1 w'/\k<=gone.length/\Vc.Own Vc.encI 1 3 B1 w' vi ((gone.take k).map (·.id))) (λ(k,vi)=>gone.length-k) (0,.slice none 0 0) ?_ ?_ ?_
 ·exact Ji
 ·exact⟨O,Y,r,hG,J,Ae _,Vc.Own.nil⟩
 intro X2 g2 w2 ub;obtain⟨k,vi⟩:=g2;clear O Y r hG J;obtain⟨O,Y,r,hG,J,uc,Z⟩:=ub;refine ws λ_ Z9=>wr (dp (Fb rfl rfl) (de Z9 (ws λ_ z3=>wi (λc2=>?_) λc2=>?_)))
 ·obtain⟨f,hk⟩:∃f,gone[k]?=some f:=Fw;refine EI (z3 _ _ (ws λ_ zr=>EM (ws λ_ z1=>wr (di 62 5 hg.sl rfl (hg.lt hk) (dq (Fe EA rfl rfl ((hg.mod O (λhl e=>e (hgk hl))).row hk)) (FP (cs:=[.int .i64 0,.int .i64 0,.int .i64 0,S [],S []]) rfl EA RX.all (λb1 w3 e1 x3 m1=>?_)))))));have g1:=O.ge e1;have a1_hS:=Y.lt;have xz:=r.ltb e1;have xw:=J.le;have xo:=Z.ltb e1;have Y:=Y.ext x3;have r:=r.ext x3;have hG:=hG.ext x3;have J:=J.ext x3;have Z:=Z.ext x3;have O:=O.ext x3;refine FY m1 (λw4 x4 xs4 m1=>?_);dsimp only [EY,Af,Ad,Ag]at m1;have Y:=Y.mod x4 (λk9 h9 e9=>by have h2:k9=b1:=e9;have h8:=h.lt;have h7:=hh k9 EB;exact h9 h7);have r:=r.mod x4 (by intro k hk h;have h1:=xz k hk;have h2:k=b1:=h;omega);have hG:=hG.mod x4 (λk9 _ h9 e9=>by have h2:k9=b1:=e9;have h8:=xw;omega);have J:=J.mod x4 trivial;have Z:=Z.mod x4 (by intro k hk h;have h1:=xo k hk;have h2:k=b1:=h;omega);have O:=O.o1 x4;refine de z1 (wr (dm ?_));refine df 0 rfl (dl rfl (m1.at rfl) (li (e:=3) (sz:=1) (zs:=[.int .i64 0]) (pv:=[(0,_)]) (cs:=[_]) RX.all (λb2 w5 e2 x5 m2=>?_)));have g2:=O.ge e2;have a2_hS:=Y.lt;have o2_hoM:=r.ltb e2;have a2_hSz:=J.le;have o2_ho1:=Z.ltb e2;have Y:=Y.ext x5;have r:=r.ext x5;have hG:=hG.ext x5;have J:=J.ext x5;have Z:=Z.ext x5;have O:=O.ext x5;refine Hy (lx:=[f.id]) (e:=3) (sz:=1) (by':=8) rfl EA EA EF Z (m2.arr (enc:=Vc.encI) (sz:=1) (l:=[f.id]) rfl EF rfl (Av rfl)) rfl rfl (by intro x zt u hu;rw[Ah.1 zt]at hu;simp at hu;rw[hu];rfl) (by simp;omega) EN J.le (.inl rfl) (λzz w6 yh x6=>?_);have Y:=Y.mod x6 (by exact(λk hk e=>hk (hh k (Ai hB1 (Z.lt k e).1))));have r:=r.mod x6 (by exact(λk hk=>r.ne Z rfl hk));have hG:=hG.mod x6 (by exact(λk _ h2 e=>absurd (Z.lt k e).1 (Nat.not_le.2 h2)));have J:=J.mod x6 (by trivial);have O:=O.own x6 (λi hi xf=>(by have:=(Z.lt i hi).1;omega));have Z:=yh;clear m2;refine da (de zr (wr ?_));refine pa rfl rfl (dm (EH (?_)));rw[show(gone.take k).map (·.id)++[f.id]=(gone.take (k+1)).map (·.id) by rw[G1 hk,AH];rfl]at Z;exact⟨(k+1,zz),Ji,⟨O,Y,r,hG,J,by omega,Z⟩,by simp only [];omega⟩
 rw[Ay EB]at Z;refine Fk (Z7 _ _ (ws λ_ zw=>wr (da (de zw (ws λ_ y7=>ws λ_ y2=>wr (dm ?_))))));refine dv 161 7 (r.arr EF).sl (dm (de y2 (EM ?_)));refine Fq (G:=Nat×Value) (λ(k,xe)=>[(0,EE bs 0),(3,vg),(8,I 0),(9,va),(10,I e1),(11,vi),(14,xe),(48,va),(49,I ↑xs.length),(50,I ↑k)]) (λ(k,xe) w'=>Mod (λk=>κ k≠0) w w'/\StE κ bs bd bl bo bm vf L D V ts mem dead w'/\Vc.Own Md.cs 7 161 w.heap.size w' va xs/\JH w.heap.size B1 lv V.next xs (F8 l) w'/\Sz B1 w'/\Vc.Own Vc.encI 1 3 B1 w' vi (gone.map (·.id))/\k<=xs.length/\Vc.Own Fi.cs 5 62 B1 w' xe ((xs.take k).map (·.f))) (λ(k,xe)=>xs.length-k) (0,.slice none 0 0) ?_ ?_ ?_
 ·exact Ig
 ·exact⟨O,Y,r,hG,J,Z,Ae _,Vc.Own.nil⟩
 intro X7 g7 w7 za;obtain⟨k,xe⟩:=g7;clear O Y r hG J Z;obtain⟨O,Y,r,hG,J,Z,uc,hb⟩:=za;refine ws λ_ zx=>wr (dp (Fb rfl rfl) (de zx (ws λ_ ua=>wi (λc3=>?_) λc3=>?_)))
 ·obtain⟨x,hk⟩:∃x,xs[k]?=some x:=Fw;obtain⟨sg,hsg⟩:∃sg,(F8 l)[k]?=some sg:=Fw;obtain⟨_,_,zv,_,zi⟩:=hG.1.2 k x sg hk hsg;refine EI (ua _ _ (ws λ_ zc=>EM (ws λ_ zg=>wr (di 161 7 (r.arr EF).sl rfl ((r.arr EF).lt hk) (dq (Fe EA rfl rfl ((r.arr EF).row hk)) (FP (cs:=[.int .i64 0,.int .i64 0,.int .i64 0,S [],S [],.slice none 0 0,.slice none 0 0]) rfl EA RX.all (λb3 w8 e3 x8 m3=>?_)))))));have g3:=O.ge e3;have a3_hS:=Y.lt;have xy:=r.ltb e3;have xx:=J.le;have x0:=Z.ltb e3;have xv:=hb.ltb e3;have Y:=Y.ext x8;have r:=r.ext x8;have hG:=hG.ext x8;have J:=J.ext x8;have Z:=Z.ext x8;have hb:=hb.ext x8;have O:=O.ext x8;refine FY m3 (λw9 x9 xs9 m3=>?_) (h1:=by(intro u hu;simp only [Aj,List.not_mem_nil,or_false]at hu;rcases hu with e|e|e|e|e|e|e<;>subst e<;>first|rfl|exact zi|exact zv.sl.one));dsimp only [EY,Af,Ad,Ag]at m3;have Y:=Y.mod x9 (λk9 h9 e9=>by have h2:k9=b3:=e9;have h8:=h.lt;have h7:=hh k9 EB;exact h9 h7);have r:=r.mod x9 (by intro k hk h;have h1:=xy k hk;have h2:k=b3:=h;omega);have hG:=hG.mod x9 (λk9 _ h9 e9=>by have h2:k9=b3:=e9;have h8:=xx;omega);have J:=J.mod x9 trivial;have Z:=Z.mod x9 (by intro k hk h;have h1:=x0 k hk;have h2:k=b3:=h;omega);have hb:=hb.mod x9 (by intro k hk h;have h1:=xv k hk;have h2:k=b3:=h;omega);have O:=O.o1 x9;refine de zg (wr (dm ?_));refine df 0 rfl (dq (LV.to (v':=x.f.v) (Fe EA rfl rfl (m3.part 0 5)) rfl) (li (e:=62) (sz:=5) (zs:=[.int .i64 0,.int .i64 0,.int .i64 0,S [],S []]) (pv:=[(0,.agg ⟨[_,_,_,_,_]⟩)]) (cs:=[_,_,_,_,_]) RX.all (λb4 w10 e4 hz m4=>?_)));have g4:=O.ge e4;have a4_hS:=Y.lt;have o4_hoM:=r.ltb e4;have a4_hSz:=J.le;have o4_ho1:=Z.ltb e4;have o4_ho2:=hb.ltb e4;have Y:=Y.ext hz;have r:=r.ext hz;have hG:=hG.ext hz;have J:=J.ext hz;have Z:=Z.ext hz;have hb:=hb.ext hz;have O:=O.ext hz;refine Hy (lx:=[x.f]) (e:=62) (sz:=5) (by':=56) rfl EA EA EF hb (m4.arr (enc:=Fi.cs) (sz:=5) (l:=[x.f]) rfl EF rfl (Av rfl)) rfl rfl (by intro x _ u hu;simp at hu;rcases hu with rfl|rfl|rfl|rfl|rfl<;>rfl) (by simp;omega) EN J.le (.inl rfl) (λzu w11 ye xh=>?_);have Y:=Y.mod xh (by exact(λk hk e=>hk (hh k (Ai hB1 (hb.lt k e).1))));have r:=r.mod xh (by exact(λk hk=>r.ne hb rfl hk));have hG:=hG.mod xh (by exact(λk _ h2 e=>absurd (hb.lt k e).1 (Nat.not_le.2 h2)));have J:=J.mod xh (by trivial);have Z:=Z.mod xh (by exact(λk hk=>Z.ne hb rfl hk));have O:=O.own xh (λi hi xf=>(by have:=(hb.lt i hi).1;omega));have hb:=ye;clear m4;refine da (de zc (wr ?_));refine pa rfl rfl (dm (EH (?_)));rw[show(xs.take k).map (·.f)++[x.f]=(xs.take (k+1)).map (·.f) by rw[G1 hk,AH];rfl]at hb;exact⟨(k+1,zu),Ig,⟨O,Y,r,hG,J,Z,by omega,hb⟩,by simp only [];omega⟩
 rw[Ay EB]at hb;refine Fk (y7 _ _ (ws λ_ z5=>wr (dm ?_)));refine dz rfl (df 2 rfl (dq (Fe EA rfl rfl (Y.m.part 2 2)) (dm (dm ?_))));refine cG (X0x V.next V.fs vf (gone.map (·.id)) vi (xs.map (·.f)) xe _ Y.vs EB (λf hf=>(yy f hf).1) (Z.arr EF) (by rw[Ao];omega) (hb.arr EF) (by rw[Ao];omega) (by rw[yt];exact X00 EB EB)) RX.all λy9 y1 xi x7=>?_;have yf:=O.size;have Y:=Y.ext xi;have r:=r.ext xi;have hG:=hG.ext xi;have J:=J.ext xi;have O:=O.ext xi;rw[yt]at x7;obtain⟨n2,vx,e2,fs2,hu,ha,hch⟩:∃n2 vx e2 fs2,y9=.tuple #[.agg ⟨[I n2,vx]⟩,I e2]/\Vc.Own Fi.cs 5 62 w.heap.size y1 vx fs2/\((e2≠0/\(Kw V (gone.map (·.id)) (F7 lv V.next (F8 l))=false\/∃fs',fs'.Perm (Ik V.fs (gone.map (·.id))++(F7 lv V.next (F8 l)))/\Up (Fz Hw) fs'/\GK ⟨Hp V.next (F7 lv V.next (F8 l)),fs'⟩=false))\/(e2=0/\Kw V (gone.map (·.id)) (F7 lv V.next (F8 l))=true/\fs2.Perm (Ik V.fs (gone.map (·.id))++(F7 lv V.next (F8 l)))/\Up (Fz Hw) fs2/\GK ⟨Hp V.next (F7 lv V.next (F8 l)),fs2⟩=true/\n2=Hp V.next (F7 lv V.next (F8 l)))):=by
  rcases x7 with⟨h1,h2⟩|⟨h1,fs',h2,h3,⟨h4,h5⟩|⟨h4,vx,h5,h6⟩⟩
  ·exact⟨_,_,_,[],h2,Vc.Own.nil,.inl ⟨by decide,.inl h1⟩⟩
  ·exact⟨_,_,_,[],h5,Vc.Own.nil,.inl ⟨by decide,.inr ⟨fs',h2,h3,h4⟩⟩⟩
  ·exact⟨_,_,_,fs',h5,h6.mono yf,.inr ⟨rfl,h1,h2,h3,h4,rfl⟩⟩
 subst hu;refine dm ?_;refine dx rfl rfl (dx rfl rfl (FP (cs:=[.int .i64 0,.slice none 0 0]) rfl EA RX.all (λb5 w13 e5 xc m5=>?_)));have g5:=O.ge e5;have a5_hS:=Y.lt;have xu:=r.ltb e5;have xr:=J.le;have xq:=ha.ltb e5;have Y:=Y.ext xc;have r:=r.ext xc;have hG:=hG.ext xc;have J:=J.ext xc;have ha:=ha.ext xc;have O:=O.ext xc;refine FY m5 (λw14 xd xs14 m5=>?_) (h1:=by(intro u hu;rcases Aj.1 hu with e|hu;subst e;rfl;rw[Ah.1 hu];exact ha.sl.one));dsimp only [EY,Af,Ad,Ag]at m5;have Y:=Y.mod xd (λk9 h9 e9=>by have h2:k9=b5:=e9;have h8:=h.lt;have h7:=hh k9 EB;exact h9 h7);have r:=r.mod xd (by intro k hk h;have h1:=xu k hk;have h2:k=b5:=h;omega);have hG:=hG.mod xd (λk9 _ h9 e9=>by have h2:k9=b5:=e9;have h8:=xr;omega);have J:=J.mod xd trivial;have ha:=ha.mod xd (by intro k hk h;have h1:=xq k hk;have h2:k=b5:=h;omega);have O:=O.o1 xd;refine da (de z5 (ws λ_ z6=>ws λ_ z4=>wr (dm ?_)));refine dp (FH rfl rfl) (de z4 (wi (λc4=>?_) λc4=>?_))
 ·refine ws λ_ z8=>wr (da (de z8 (EJ ?_)));refine ro ?_;rcases hch with⟨_,h9|⟨fs3,p1,p2,p3⟩⟩|⟨h9,_⟩
  ·exact⟨_,rfl,O,5,κ,vf,L,D,V,ts,dead,rfl,λ_ _=>rfl,Y,.inl ⟨by decide,rfl,rfl,rfl,rfl,rfl,.inr (.inl h9)⟩⟩
  ·exact⟨_,rfl,O,5,κ,vf,L,D,V,ts,dead,rfl,λ_ _=>rfl,Y,.inl ⟨by decide,rfl,rfl,rfl,rfl,rfl,.inr (.inr ⟨fs3,p1,p2,.inl p3⟩)⟩⟩
  ·exact absurd h9 c4
 rcases hch with⟨h9,_⟩|⟨h9,hck1,hcp,hcu,hV2,hn9⟩
 ·exact absurd h9 c4
 subst hn9;have yd:=MI hV2;obtain⟨_,_,yw,_⟩:=Ij hV2;refine EI (z6 _ _ (ws λ_ y5=>wr (dq (Fe (k:=2) EA rfl rfl m5.row) (cG (VH (Hp V.next (F7 lv V.next (F8 l))) fs2 vx _ (ha.arr EF) (by have:fs2.length<=1024:=yw;omega) (λf hf=>(yd f hf).1)) RX.all λu15 zm xb yo=>?_))));have yi:=O.size;have Y:=Y.ext xb;have r:=r.ext xb;have hG:=hG.ext xb;have J:=J.ext xb;have ha:=ha.ext xb;have m5:=m5.ext xb;have O:=O.ext xb;obtain⟨vp,rfl,x2⟩:=yo;rw[if_pos hV2]at x2;have hp:=x2.mono yi;refine dm ?_;refine dx rfl rfl (dx rfl rfl (da (da (de y5 (ws λ_ zy=>ws λ_ zk=>wr (dm ?_))))));refine dv 5 1 (hp.arr EF).sl (dp (Gg rfl rfl) (de zk (wi (λc5=>?_) λc5=>?_)))
 ·refine ws λ_ z7=>wr (da (de z7 (EJ ?_)));refine ro ?_;exact⟨_,rfl,O,5,κ,vf,L,D,V,ts,dead,rfl,λ_ _=>rfl,Y,.inl ⟨by decide,rfl,rfl,rfl,rfl,rfl,.inr (.inr ⟨fs2,hcp,hcu,.inr EB⟩)⟩⟩
 refine EI (zy _ _ (ws λ_ ze=>ws λ_ zb=>wr (dm (dm ?_))));obtain⟨NK,hNK⟩:∃z,z=zm.heap.size:=⟨_,rfl⟩;have hNw:w.heap.size<=NK:=by rw[hNK];exact O.size
 have yz:FO ⟨Hp V.next (F7 lv V.next (F8 l)),fs2⟩≠[]->(base vp).1<NK/\w.heap.size<=(base vp).1:=λhl=>by rw[hNK];exact⟨(hp.base_ge hl).2,(hp.base_ge hl).1⟩
 have xj:fs2≠[]->(base vx).1<NK/\w.heap.size<=(base vx).1:=λhl=>by rw[hNK];exact⟨(ha.base_ge hl).2,(ha.base_ge hl).1⟩
 have xm:xs≠[]->(base va).1<NK/\w.heap.size<=(base va).1:=λhl=>by rw[hNK];exact⟨(r.base_ge hl).2,(r.base_ge hl).1⟩
 have hBN:B1<=NK:=by rw[hNK];exact J.le
 have hmN:b5<NK:=by rw[hNK];exact m5.lt
 have ud:(xs.zip ((F8 l).map λsg=>EG (Fo sg))).map (·.1)=xs:=Eu (by rw[Ao];omega);have xk:∀k,w.heap.size<=k->¬ κ k=1:=λk hk e=>by rw[hh k hk]at e;cases e
 refine JP rfl EA (X6t κ bs bd bl bo bm vf L D V ts mem dead (xs.zip ((F8 l).map λsg=>EG (Fo sg))) va _ Y (hgv.mod O (λk hk e=>e (hgvs k hk))) hgvs (by rw[ud];exact r.arr EF) (by rw[Ev];omega) (λhl=>hh _ (xm (by rintro rfl;simp at hl)).2) (λq hq=>by
  obtain⟨g1,g2,g3,g4,g5⟩:=hG.zip2 EB hlv EB q hq;exact⟨g1,g2,g3,λ_=>hh _ g4.1,g5⟩)) rfl (.inl rfl) (λu16 y8 xa yb=>?_)
 have hsz16:=O.size;have r:=r.mod xa (by exact(λk hk e=>xk k (r.lt k hk).1 e));have hG:=hG.mod xa (by exact(λk h1 _ e=>xk k h1 e));have ha:=ha.mod xa (by exact(λk hk e=>xk k (ha.lt k hk).1 e));have m5:=m5.mod xa (by exact(λe=>xk _ EB e));have hp:=hp.mod xa (by exact(λk hk e=>xk k (hp.lt k hk).1 e));have O:=O.own xa (λi hi xf=>(by have e1:κ i=1:=hi;rw[e1];decide));rw[zh,<-hNK]at yb;obtain⟨rfl,κ1,hw,yg⟩:=yb;have Y:=yg;have hy:Sz NK y8:=⟨by rw[hNK];exact xa.size⟩;refine da (de zb (ws λ_ zj=>wr (dm ?_)));refine dp (FH rfl rfl) (de zj (wi (λc6=>?_) λc6=>?_))
 ·refine ws λ_ zf=>wr (dm (dm ?_));refine cD (Pr bs bd bl V.next vf bo bm dead (GQ (HZ V.next (F8 l)) D).1 _ Y.m) (.inl rfl) λu17 w17 yv yn=>?_;have hsz17:=O.size;have O:=O.own yv (λi hi xf=>(by have e1:i=bs:=hi;rw[e1,h.k0];decide));obtain⟨rfl,yj⟩:=yn;have xl:=Y.head yv yj;have Y:=xl;refine da (de zf (EJ ?_));refine ro ?_;exact⟨_,rfl,O,_,κ1,vf,_,_,V,ts,_,rfl,λk hk=>hw k EB,Y,.inr ⟨xn,hck1,fs2,hcp,hcu,hV2,by omega,.inl ⟨c6,rfl,rfl,rfl,rfl,rfl,by simp [c6]⟩⟩⟩
 refine EI (ze _ _ (ws λ_ y4=>ws λ_ zq=>F9 (R:=Mod (λk=>κ1 k=1)) Jz JV EA [3,7] [(0,.p,false),(1,.p,false),(2,.p,false),(3,.l,false),(4,.p,false),(5,.p,false),(6,.p,false),(7,.l,false),(9,.p,false),(8,.x,false),(10,.x,false),(11,.p,false)] rfl EA EA (λw18 ya=>?_)));have hr:=EL ya;clear ya;have r:=r.ext hr;have hG:=hG.ext hr;have ha:=ha.ext hr;have m5:=m5.ext hr;have hp:=hp.ext hr;have Y:=Y.ext hr;have hy:=hy.ext hr;have O:=O.ext hr;refine dm ?_;refine dz rfl (df 1 rfl (dL rfl (λ_ hR=>((Y.m.mod hR (λe=>by have e2:κ1 bs=1:=e;rw[Y.k0]at e2;cases e2)).at rfl)) (dm ?_)));refine dz rfl (df 1 rfl (dL rfl (λ_ hR=>((Y.m.mod hR (λe=>by have e2:κ1 bs=1:=e;rw[Y.k0]at e2;cases e2)).at rfl)) (dm ?_)));refine cP (Y.ld.calls_last) RX.mod λw19 ht=>?_;have r:=r.ext ht;have hG:=hG.ext ht;have ha:=ha.ext ht;have m5:=m5.ext ht;have hp:=hp.ext ht;have Y:=Y.ext ht;have hy:=hy.ext ht;have O:=O.ext ht;have yp:=hy.le;refine JP rfl EA (X6y _ bl bd L (GQ (HZ V.next (F8 l)) D).2 L.last (FO ⟨Hp V.next (F7 lv V.next (F8 l)),fs2⟩) vp _ Y.ld (hp.arr EF) EB (λhl e=>by have e1:κ1 (base vp).1=1:=e;rw[hw _ (yz hl).1,hh _ (yz hl).2]at e1;cases e1)) rfl (.inr λw9 h9=>h9) (λu20 y0 xg yl=>?_);have hsz20:=O.size;have O:=O.own xg (λi hi xf=>(by have e1:κ1 i=1:=hi;rw[<-hw i EB,e1];decide));obtain⟨rfl,yk⟩:=yl;have xl:=Y.ledger xg yk;have hj:=λk (hk:k<NK)=>(Ln (κ:=κ1) (i:=1) (w':=y0) (Az hk yp)).trans (hw k hk);have xp:∀k,w.heap.size<=k->k<NK->¬ κ1 k=1:=λk h1 h2 e=>by rw[hw k h2,hh k h1]at e;cases e
 have r:=r.arr EF |>.mod xg (λhl=>xp _ (xm hl).2 (xm hl).1);have ha:=ha.arr EF |>.mod xg (λhl=>xp _ (xj hl).2 (xj hl).1);have hG:=hG.mod xg (λk h1 h2=>xp k h1 EB);have m5:=m5.mod xg (λe=>xp _ EB EB e);have Y:=xl;refine da (de zq (ws λ_ zn=>wr (dm ?_)));refine dp (FH rfl rfl) (de zn (wi (λc7=>?_) λc7=>?_))
 ·refine ws λ_ zp=>wr (dm (dm ?_));refine cD (Pr bs bd bl V.next vf bo bm dead (L.write (GQ (HZ V.next (F8 l)) D).2 L.last (FO ⟨Hp V.next (F7 lv V.next (F8 l)),fs2⟩)).1 _ Y.m) (.inl rfl) λu21 w21 yr yu=>?_;have hsz21:=O.size;have O:=O.own yr (λi hi xf=>(by have e1:i=bs:=hi;rw[e1,h.k0];decide));obtain⟨rfl,yj⟩:=yu;have xl:=Y.head yr yj;have Y:=xl;refine da (de zp (EJ ?_));refine ro ?_;exact⟨_,rfl,O,_,_,vf,_,_,V,ts,_,rfl,λk hk=>hj k EB,Y,.inr ⟨xn,hck1,fs2,hcp,hcu,hV2,by omega,.inr ⟨AK c6,rfl,rfl,.inl ⟨c7,rfl,rfl,rfl,by simp [c7]⟩⟩⟩⟩
 refine EI (y4 _ _ (ws λ_ y3=>wr (dm ?_)));refine dq (Fe (k:=2) EA rfl rfl m5.row) (dm (dm ?_));have z2:(xs.zip (F8 l)).map (·.1)=xs:=Eu EB;have yq:=O.size;refine JP rfl EA (X6u _ bs bd bl bo bm vf _ _ V ts mem dead ⟨Hp V.next (F7 lv V.next (F8 l)),fs2⟩ vx (xs.zip (F8 l)) va gone vg _ Y ha (λhl=>(hj _ (xj hl).1).trans (hh _ (xj hl).2)) (by rw[z2];exact r) (by rw[Ev];omega) (λhl=>(hj _ (xm (by rintro rfl;simp at hl)).1).trans (hh _ (xm (by rintro rfl;simp at hl)).2)) (λq hq=>by
  obtain⟨g1,g2,g3,g4,g5,g6⟩:=hG.zip EB hlv EB q hq;exact⟨g1,g2,g3,g4,λ_=>(hj _ EB).trans (hh _ g5.1),g6⟩) (hg.mod O (λhl e=>e (hgk hl))) EB (λhl=>(hj _ (by have:=hg.base_lt EN hl;omega)).trans (hgk hl)) hgi EB) rfl (.inl rfl) (λu22 w22 y6 yx=>?_)
 have hsz22:=O.size;have O:=O.own y6 (λi hi xf=>(by rw[<-hj i EB];exact hi));obtain⟨rfl,κ3,zo,ym,⟨tbs,zl,z9⟩,yg⟩:=yx;have Y:=yg;refine da (de y3 (EJ ?_));refine ro ?_;exact⟨_,rfl,O,0,κ3,vx,_,_,_,zo,dead,rfl,λk hk=>(ym k (Az hk yq) (λhl e=>by have:=(xj hl).2;omega)).trans (hj k EB),Y,.inr ⟨xn,hck1,fs2,hcp,hcu,hV2,by omega,.inr ⟨AK c6,rfl,rfl,.inr ⟨AK c7,rfl,rfl,rfl,tbs,zl.trans ue,z9⟩⟩⟩⟩
def O8 (L:Led)(D:Dsk)(mem:List Cell)(dead:Bool)(l:List Rw)(e:Int)(L':Led)(D':Dsk)(mem':List Cell)(dead':Bool):Prop:=
 (dead=true/\e=9/\L'=L/\D'=D/\mem'=mem/\dead'=dead)\/(dead=false/\H8 l≠0/\e=H8 l/\L'=L/\D'=D/\mem'=mem/\dead'=dead)\/
 (dead=false/\H8 l=0/\L'=(L.append D (F0 l)).2.2.1/\D'=(L.append D (F0 l)).2.2.2/\(((L.append D (F0 l)).2.1≠0/\e=(L.append D (F0 l)).2.1/\mem'=mem/\dead'=true)\/((L.append D (F0 l)).2.1=0/\e=0/\mem'=Iu mem (G0 l (L.append D (F0 l)).1)/\dead'=false)))
def JW (L:Led)(D:Dsk)(V:Vs)(ts:List Tb)(mem:List Cell)(dead ok:Bool)(e:Int)(L':Led)(D':Dsk)(V':Vs)(ts':List Tb)(mem':List Cell)(dead':Bool):Prop:=
 (dead=true/\ok=false/\e=9/\L'=L/\D'=D/\V'=V/\ts'=ts/\mem'=mem/\dead'=dead)\/(dead=false/\mem=[]/\ok=false/\e=0/\L'=L/\D'=D/\V'=V/\ts'=ts/\mem'=mem/\dead'=dead)\/
 (dead=false/\mem≠[]/\∃m,Mg mem m/\Jx L D V ts dead m 0 [] e L' D' V' ts' dead'/\((e≠0/\ok=false/\mem'=mem)\/(e=0/\ok=true/\mem'=[])))
theorem VA {l:List Cell}(h:∀c∈l,Gt c<=20496):He l<=l.length*20496:=by
 induction l with
 | nil=>simp [He]
 | cons c r ih=>
  have h1:=h c Al;have h2:=ih (λx z=>h x (Am _ z));unfold He at *;simp only [An,AX,AG]at *;omega
theorem Rg {l:List Rw}{seq:Int}(h:H8 l=0):He (G0 l seq)<=10500000:=by
 obtain⟨h1,h2,h3,h4⟩:=Mj h;have h5:=Py l seq;have h6:=VA (l:=G0 l seq) (λc z=>by
  obtain⟨r,J,rfl⟩:=Rl z;have:=Ng (h4 r J);unfold Gt Rw.cell;simp only [];omega)
 omega
theorem Xxq {α:Type}(eq:α->α->Bool):∀l:List α,(Jp eq l).length<=l.length/\∀x∈Jp eq l,x∈l:=by
 have h:∀(r:List α) (p:α),(Je eq p r).length<=r.length/\∀x∈Je eq p r,x∈r:=by
  intro r
  induction r with
  | nil=>intro p;exact⟨Ab _,λx z=>z⟩
  | cons a r ih=>
   intro p;unfold Je;have:=ih a;split
   ·exact⟨Nat.le_succ_of_le this.1,λx z=>Am _ (this.2 x z)⟩
   ·exact⟨Ew this.1,λx z=>(Aj.1 z).elim (λe=>e▸Al) (λh=>Am _ (this.2 x h))⟩
 intro l
 cases l with
 | nil=>exact⟨Ab _,λx z=>z⟩
 | cons a r=>exact⟨Ew (h r a).1,λx z=>(Aj.1 z).elim (λe=>e▸Al) (λJ=>Am _ ((h r a).2 x J))⟩
theorem QK {l m:List Cell}(h:Mg l m):m.length<=l.length/\∀c∈m,c∈l:=by
 obtain⟨l',r,hu,rfl⟩:=h;have:=Xxq JI l';exact⟨by rw[<-r.length_eq];exact this.1,λc z=>r.mem_iff.1 (this.2 c z)⟩
section
variable {κ:Nat->Nat}{bs bd bl bo bm:Nat}{vf:Value}{L:Led}{D:Dsk}{V:Vs}{ts:List Tb}{mem:List Cell}{dead:Bool}{w w':World}
theorem StE.setM {bm':Nat}{mem':List Cell}{F:Nat->Prop}(h:StE κ bs bd bl bo bm vf L D V ts mem dead w)(m:Vc.Mod (ET bs) w w')(hm:EK w' bs (H3 bd bl V.next vf bo bm' dead) 90)(hM:FG F w bm' mem')(hF:∀k,F k->κ k=0)[DecidablePred F]:StE (λk=>if F k then 3 else κ k) bs bd bl bo bm' vf L D V ts mem' dead w':=by
 have r:=h.relab (κ':=λk=>if F k then 3 else κ k) (λk hk=>if_neg (λe=>hk (hF k e))) (λk hk=>by
  by_cases e:F k
  ·exact hM.lt k e
  ·rw[if_neg e]at hk;exact h.lt k hk)
 have o:∀k,(if F k then 3 else κ k)≠5->¬ ET bs k:=λk hk e=>hk (by have e2:k=bs:=e;rw[e2];exact r.k0);exact⟨hm,r.ld.mod m (λk hk=>o k (by rw[hk];decide)),r.mp.mod m (o _ (by rw[r.k2];decide)),(FG.mod hM m (λk hk=>o k (by rw[if_pos hk];decide))).to (λk hk=>if_pos hk) (λk hk=>Az (r.lt k (by rw[hk];decide)) m.size),r.vs.mod m (λJ=>o _ (by rw[r.k4 J];decide)),λt z=>(r.tb t z).mod m (λk hk=>o k (by rw[r.k6 t z k hk];decide)),r.k0,r.k2,r.k4,r.k6,λk hk=>Az (r.lt k hk) m.size⟩
end
theorem Qo (κ:Nat->Nat)(bs bd bl bo bm:Nat)(vf:Value)(L:Led)(D:Dsk)(V:Vs)(ts:List Tb)(mem:List Cell)(dead:Bool)(l:List Rw)(v:Value)(w:World)(h:StE κ bs bd bl bo bm vf L D V ts mem dead w)(hv:EQ Rw.cs 3 w v l)(hl:l.length<=100000)(hvk:l≠[]->κ (base v).1=0)(hml:mem.length<=600000)(hcnt:L.ents.length<=900000)(hmz:He mem<=100000000000) :
  Calls Tryz.prog 14 [EE bs 0,v].toArray w (Ff (λk=>κ k≠0) w (λu w'=>∃e κ' L' D' mem' dead',u=I e/\(∀k,k<w.heap.size->κ' k=κ k)/\StE κ' bs bd bl bo bm vf L' D' V ts mem' dead' w'/\O8 L D mem dead l e L' D' mem' dead')):=by
 refine cw Tryz.func14 ?_;have z:=Vc.Mod.refl (λk=>κ k≠0) w;have J:=h;have h8:∀k,w.heap.size<=k->κ k=0:=λk hk=>AP λh9=>by have:=h.lt k h9;omega
 refine ws λ_ Z1=>wr (da (de Z1 (ws λ_ Z2=>ws λ_ Z3=>wr (dm ?_))));refine cP (Q2 bs bd bl V.next vf bo bm dead _ J.m) RX.all λw1 x1=>?_;have J:=J.ext x1;have z:=z.ext x1;refine da (de Z3 (ws λ_ Z4=>wr (dm ?_)));refine dp (FH rfl rfl) (de Z4 (wi (λc1=>?_) λc1=>?_))
 ·refine ws λ_ Z5=>wr (dm (da (de Z5 (EJ ?_))));refine ro ?_;have xd:dead=true:=by cases dead with|true=>rfl|false=>exact absurd rfl c1
  subst xd;exact⟨_,rfl,z,9,κ,L,D,mem,true,rfl,λ_ _=>rfl,J,.inl ⟨rfl,rfl,rfl,rfl,rfl,rfl⟩⟩
 have xf:dead=false:=by cases dead with|false=>rfl|true=>exact absurd EN c1
 subst xf;refine EI (Z2 _ _ (ws λ_ Z6=>wr (dm ?_)));refine cG (Tn l v _ (hv.mod z (λhl e=>e (hvk hl))) EB) RX.all λu2 w2 x2 h5=>?_;have hf:=z.size;have J:=J.ext x2;have z:=z.ext x2;obtain⟨vb,rfl,hc⟩:=h5;have Z:=hc.mono hf;refine dm ?_;refine dx rfl rfl (dx rfl rfl (da (da (de Z6 (ws λ_ Z7=>ws λ_ Z8=>wr (dm ?_))))));refine dp (FH rfl rfl) (de Z8 (wi (λc2=>?_) λc2=>?_))
 ·refine ws λ_ Z9=>wr (dm (da (de Z9 (EJ ?_))));refine ro ?_;exact⟨_,rfl,z,_,κ,L,D,mem,false,rfl,λ_ _=>rfl,J,.inr (.inl ⟨rfl,c2,rfl,rfl,rfl,rfl,rfl⟩)⟩
 have Y:H8 l=0:=AK c2;rw[if_pos Y]at Z;obtain⟨hr1,hr2,hr3,hy⟩:=Mj Y;have hbl9:=Nk l;have hnl9:=Gj l.length;have hw:(F0 l).length<=1000000:=by unfold F0;rw[Aa];omega
 refine EI (Z7 _ _ (ws λ_ h6=>wr (dm ?_)));refine dz rfl (df 1 rfl (dl rfl (J.m.at rfl) (dm ?_)));have hg:=z.size;refine cD (Xz0 _ bl bd L D (F0 l) vb _ J.ld (Z.arr EF) hw EB (λhl e=>by have e1:κ (base vb).1=1:=e;rw[h8 _ (Z.base_ge hl).1]at e1;cases e1)) (.inl rfl) λu3 w3 x3 xg=>?_;have hsz3:=z.size;have z:=z.own x3 (λi hi hh=>(by have e1:κ i=1:=hi;rw[e1];decide));obtain⟨rfl,xc⟩:=xg;have O:=J.ledger x3 xc;have ha:∀k,k<w.heap.size->HP κ 1 _ _ k=κ k:=λk hk=>Ln (κ:=κ) (i:=1) (w':=w3) (Az hk hg);have J:=O;refine dm ?_;refine dx rfl rfl (dx rfl rfl (da (da (de h6 (ws λ_ xe=>ws λ_ hz=>wr (dm ?_))))));refine dp (FH rfl rfl) (de hz (wi (λc3=>?_) λc3=>?_))
 ·refine ws λ_ ht=>wr (dm (dm ?_));refine cD (Pr bs bd bl V.next vf bo bm false (L.append D (F0 l)).2.1 _ J.m) (.inl rfl) λu4 w4 x4 hp=>?_;have hsz4:=z.size;have z:=z.own x4 (λi hi hh=>(by have e1:i=bs:=hi;rw[e1,h.k0];decide));obtain⟨rfl,xa⟩:=hp;have O:=J.head x4 xa;have J:=O;refine da (de ht (EJ ?_));refine ro ?_;exact⟨_,rfl,z,_,_,_,_,mem,_,rfl,ha,J,.inr (.inr ⟨rfl,Y,rfl,rfl,.inl ⟨c3,rfl,rfl,by simp [c3]⟩⟩)⟩
 refine EI (xe _ _ (ws λ_ hq=>wr (dm (dm (dm ?_)))));have hlt9:=J.lt;have hb:=z.size;refine cD (Un _ bs bd bl V.next vf bo bm false mem l v (L.append D (F0 l)).1 _ J.m J.mr (by rw[J.k0];decide) (hv.mod z (λhl e=>e (hvk hl))) EB (λr hr=>by have:=Ng (hy r hr);omega) EB (by have:=Rg (seq:=(L.append D (F0 l)).1) Y;omega)) (.inl rfl) λu5 w5 x5 h7=>?_;have hsz5:=z.size;have z:=z.own x5 (λi hi hh=>(by rw[<-ha i EB];have e1:=hi;rw[e1];decide));obtain⟨rfl,xb⟩:=h7;have O:=J.setMem x5 xb;have J:=O;refine de hq (ws λ_ hj=>wr (da (de hj (EJ ?_))));refine ro ?_;exact⟨_,rfl,z,0,_,_,_,_,false,rfl,λk hk=>(Ln (Az hk hb)).trans (ha k hk),J,.inr (.inr ⟨rfl,Y,rfl,rfl,.inr ⟨AK c3,rfl,rfl,rfl⟩⟩)⟩
theorem Qr (κ:Nat->Nat)(bs bd bl bo bm:Nat)(vf:Value)(L:Led)(D:Dsk)(V:Vs)(ts:List Tb)(mem:List Cell)(dead:Bool)(w:World)(h:StE κ bs bd bl bo bm vf L D V ts mem dead w)(hml:mem.length<=30000)(hmc:∀c∈mem,c.key.length<=4096/\c.val.length<=16384/\c.seq<=4611686018427387904)(hV:GK V=true)(hgv:GV w)(hgvs:∀k,Ls k->κ k=0)(htl:ts.length<=900000) :
  Calls Tryz.prog 15 [EE bs 0].toArray w (Ff (λk=>κ k≠0) w (λu w'=>∃ok e κ' bm' vf' L' D' V' ts' mem' dead',u=.tuple #[B ok,I e]/\(∀k,k<w.heap.size->κ' k=κ k)/\StE κ' bs bd bl bo bm' vf' L' D' V' ts' mem' dead' w'/\JW L D V ts mem dead ok e L' D' V' ts' mem' dead')):=by
 refine cw Tryz.func15 ?_;have r:=Vc.Mod.refl (λk=>κ k≠0) w;have J:=h;have xk:∀k,w.heap.size<=k->κ k=0:=λk hk=>AP λh9=>by have:=h.lt k h9;omega
 refine ws λ_ Z1=>wr (da (da (de Z1 (ws λ_ Z2=>ws λ_ Z3=>wr (dm ?_)))));refine cP (Q2 bs bd bl V.next vf bo bm dead _ J.m) RX.all λw1 x1=>?_;have J:=J.ext x1;have r:=r.ext x1;refine da (de Z3 (ws λ_ Z4=>wr (dm ?_)));refine dp (FH rfl rfl) (dm ?_);refine F4 10 rfl (λc1=>?_) (λc1=>?_)
 ·refine dk (dk (dk (dk (dk (dk (EP (de Z4 ?_)))))));refine GS rfl (ws λ_ Z5=>wr (dm (da (da (de Z5 (EJ ?_))))));refine rt ?_;have xm:dead=true:=by cases dead with|true=>rfl|false=>exact absurd rfl c1
  subst xm;exact⟨_,rfl,r,false,9,κ,bm,vf,L,D,V,ts,mem,true,rfl,λ_ _=>rfl,J,.inl ⟨rfl,rfl,rfl,rfl,rfl,rfl,rfl,rfl,rfl⟩⟩
 have xp:dead=false:=by cases dead with|false=>rfl|true=>exact absurd EN c1
 subst xp;refine dm ?_;refine dz rfl (df 5 rfl (dl rfl (J.m.at rfl) (cP (J.mr.calls_len _ EB) RX.all λw2 x2=>?_)));have J:=J.ext x2;have r:=r.ext x2;refine dp (GB rfl rfl) (EP (de Z4 ?_));refine wi (λc2=>?_) λc2=>?_
 ·refine ws λ_ Z6=>wr (dm (da (da (de Z6 (EJ ?_)))));refine rt ?_;exact⟨_,rfl,r,false,0,κ,bm,vf,L,D,V,ts,mem,false,rfl,λ_ _=>rfl,J,.inr (.inl ⟨rfl,List.eq_nil_of_length_eq_zero EB,rfl,rfl,rfl,rfl,rfl,rfl,rfl,rfl⟩)⟩
 refine EI (Z2 _ _ (ws λ_ Z7=>ws λ_ Z8=>wr (dm (dm ?_))));refine dz rfl (df 5 rfl (dl rfl (J.m.at rfl) (cG (J.mr.calls_all _ EB (λc hc=>(hmc c hc).2.2)) RX.all λva w3 x3 h5=>?_)));have hp:=r.size;have J:=J.ext x3;have r:=r.ext x3;have O:=h5.mono hp;refine It (e:=95) (sz:=1) (zs:=[.slice none 0 0]) (pv:=[(0,?a20_0)]) (cs:=[?a20_0]) rfl EA ⟨rfl,rfl⟩ EA rfl ?h20 ?f20 RX.all (λb1 w4 e1 x4 m1=>?k20)
 case h20=>refine⟨rfl,?_,trivial⟩<;>(conv=>lhs;whnf)
 case f20=>simp [H7,EY,Ax,O.sl.cells]
 have g1:=r.ge e1;have a1_hS:=J.lt;have o1_hoA:=O.ltb e1;have J:=J.ext x4;have O:=O.ext x4;have r:=r.ext x4;refine cG (XY [(va,mem)] _ _ (m1.arr (enc:=KP) (sz:=1) (l:=[(va,mem)]) rfl EF rfl ER) (λq hq=>by rw[Ah.1 hq];exact O.arr EF) ER (by simp;omega)) RX.all λvm w5 x5 xh=>?_;have h6:=r.size;have J:=J.ext x5;have r:=r.ext x5;obtain⟨m,hr,ht⟩:=xh;have ha:Mg mem m:=by simpa using hr
 have hb:=ht.mono h6;have hy:=QK ha;have hw:=r.size;refine cD (Vp κ bs bd bl bo bm vf L D V ts mem false m vm 0 [] (.slice none 0 0) _ J (hb.arr EF) EB (λc hc=>⟨(hmc c (hy.2 c hc)).1,(hmc c (hy.2 c hc)).2.1⟩) EN ((Vc.Own.nil (enc:=Fi.cs) (sz:=5) (T:=0) (B:=0)).arr EF) EN (λh9=>absurd rfl h9) (λf hf=>by cases hf) hV (hgv.mod r (λk hk e=>e (hgvs k hk))) hgvs htl (λhl=>xk _ (hb.base_ge hl).1)) (.inl rfl) λu6 w6 x6 xj=>?_;have hsz6:=r.size;have r:=r.own x6 (λi hi xn=>hi);obtain⟨e1,κ1,hj,L1,D1,V1,ts1,dead1,rfl,xi,h7,hh⟩:=xj;have J:=h7;have Y:∀k,k<w.heap.size->κ1 k=κ k:=λk hk=>xi k (Az hk hw);refine da (de Z8 (ws λ_ Z9=>wr (dm ?_)));refine dp (FH rfl rfl) (de Z9 (wi (λc3=>?_) λc3=>?_))
 ·refine ws λ_ xg=>wr (dm (da (da (de xg (EJ ?_)))));refine rt ?_;exact⟨_,rfl,r,false,e1,κ1,bm,hj,L1,D1,V1,ts1,mem,dead1,rfl,Y,J,.inr (.inr ⟨rfl,λe=>c2 (by rw[e];rfl),m,ha,hh,.inl ⟨c3,rfl,rfl⟩⟩)⟩
 refine EI (Z7 _ _ (ws λ_ xo=>wr (dm ?_)));have Z:=J.lt;obtain⟨N0,hN0⟩:∃z,z=w6.heap.size:=⟨_,rfl⟩;have hg:w.heap.size<=N0:=by rw[hN0];exact r.size
 rw[<-hN0]at Z;refine cG (VR [] (.slice none 0 0) _ ((Vc.Own.nil (enc:=Iz) (sz:=1) (T:=0) (B:=0)).arr EF) EN) RX.all λu7 w7 x7 xb=>?_;have hsz7:=r.size;have J:=J.ext x7;have r:=r.ext x7;obtain⟨xf,rfl,hz⟩:=xb;rw[<-hN0]at hz;have xc:∀k,N0<=k/\k<w7.heap.size->κ1 k=0:=λk hk=>AP λh9=>by have:=Z k h9;omega
 refine dz rfl (df 5 rfl (MH rfl rfl rfl rfl EA J.m (Av rfl) (.inl rfl) (λw8 x8 xs8 xl=>?_)));have h8:=J.setM x8 xl hz xc;have r:=r.own x8 (λi hi xn=>by have xa:i=bs:=hi;rw[xa,h.k0];decide);have J:=h8;refine de xo (ws λ_ xe=>wr (da (da (de xe (EJ ?_)))));refine rt ?_;have xd:e1=0:=AK c3;subst xd;exact⟨_,rfl,r,true,0,_,xf,hj,L1,D1,V1,ts1,[],dead1,rfl,λk hk=>(if_neg (λe=>absurd (Az hk hg) (Ba.2 e.1))).trans (Y k hk),J,.inr (.inr ⟨rfl,λe=>c2 (by rw[e];rfl),m,ha,hh,.inr ⟨rfl,rfl,rfl⟩⟩)⟩
def FF (mem:List Cell)(ts:List Tb):List Cell:=mem++ts.flatMap (·.cs)
theorem Hc {mem:List Cell}{ts:List Tb}{c:Cell} : c∈FF mem ts↔c∈mem\/∃t∈ts,c∈t.cs:=by unfold FF;rw[Aw,BP]
theorem L9 {α β:Type}{f:α->β} : ∀ {l:List α},(l.map f).Nodup->∀ {x y:α},x∈l->y∈l->f x=f y->x=y
 | [],_,_,_,hx,_,_=>by cases hx
 | a :: r,h,x,y,hx,hy,e=>by
  rw[An,AV]at h;rcases Aj.1 hx with ex|hx2
  ·rcases Aj.1 hy with ey|hy2
   ·rw[ex,ey]
   ·exact absurd (by rw[<-ex,e];exact Bx hy2) h.1
  ·rcases Aj.1 hy with ey|hy2
   ·exact absurd (by rw[<-ey,<-e];exact Bx hx2) h.1
   ·exact L9 h.2 hx2 hy2 e
theorem Xr {a b c:EC}(h1:Fg a b=true)(h2:Fg c b=false):Fg a c=true:=by
 rcases JK a c with e|e|e
 ·rw[e,h2]at h1;cases h1
 ·exact e
 ·rw[Jl _ _ _ e h1]at h2;cases h2
theorem O0 {a b c:EC}(h1:Fg b a=false)(h2:Fg b c=true):Fg a c=true:=by
 rcases JK a c with e|e|e
 ·rw[e,h2]at h1;cases h1
 ·exact e
 ·rw[Jl _ _ _ h2 e]at h1;cases h1
def Nb (a b:Fi):Prop:=a.lev<b.lev\/(a.lev=b.lev/\((a.lev=0/\a.id<b.id)\/(0<a.lev/\Fg a.lst b.fst=true)))
theorem X6z {n:Int}{f:Fi}(h:HW n f=true):Fg f.lst f.fst=false:=by
 unfold HW at h;simp only [Au,Bool.not_eq_true']at h;exact h.2
theorem Yat {n:Int}{a b:Fi}(ha:HW n a=true)(h:Io a b=true):Nb a b:=by
 have h0:=(Jk ha).2.2.1;unfold Io at h;split at h
 ·rename_i e;exact .inr ⟨e.2,.inr ⟨e.1,h⟩⟩
 ·rename_i e;rcases(Rq a b).1 h with h|⟨h1,⟨h2,h3⟩|⟨h2,h3⟩⟩
  ·exact .inl h
  ·exact .inr ⟨h1,.inl ⟨h2,h3⟩⟩
  ·exact absurd ⟨by omega,h1⟩ e
theorem X01 {a b c:Fi}(hb:Fg b.lst b.fst=false)(h1:Nb a b)(h2:Nb b c):Nb a c:=by
 rcases h1 with h1|⟨h1,h1'|h1'⟩
 ·rcases h2 with h2|⟨h2,_⟩
  ·exact .inl EB
  ·exact .inl EB
 ·rcases h2 with h2|⟨h2,h2'|h2'⟩
  ·exact .inl EB
  ·exact .inr ⟨by omega,.inl ⟨h1'.1,by omega⟩⟩
  ·omega
 ·rcases h2 with h2|⟨h2,h2'|h2'⟩
  ·exact .inl EB
  ·omega
  ·exact .inr ⟨by omega,.inr ⟨h1'.1,Jl _ _ _ (Xr h1'.2 hb) h2'.2⟩⟩
theorem Tf {n:Int} : ∀ {fs:List Fi},(∀f∈fs,HW n f=true)->JT fs=true->fs.Pairwise Nb
 | [],_,_=>Bp
 | [a],_,_=>List.pairwise_singleton _ _
 | a :: b :: r,ho,h=>by
  unfold JT at h;rw[Au]at h;have O:=Tf (λf Y=>ho f (Am _ Y)) h.2;have z:=Yat (ho a Al) h.1;refine AQ.2 ⟨λx J=>?_,O⟩;rcases Aj.1 J with rfl|J
  ·exact z
  ·exact X01 (X6z (ho b ER)) z ((AQ.1 O).1 x J)
theorem Yau {V:Vs}(h:GK V=true):V.fs.Pairwise Nb:=by
 obtain⟨_,_,_,h4,_,r⟩:=Ij h;exact Tf h4 r
theorem Rx {α:Type}{R:α->α->Prop}{l:List α}(h:l.Pairwise R){x y:α}(hx:x∈l)(hy:y∈l):x=y\/R x y\/R y x:=by
 induction l with
 | nil=>cases hx
 | cons a r ih=>
  rw[AQ]at h;rcases Aj.1 hx with ex|hx2
  ·rcases Aj.1 hy with ey|hy2
   ·exact .inl (ex.trans ey.symm)
   ·exact .inr (.inl (ex▸h.1 y hy2))
  ·rcases Aj.1 hy with ey|hy2
   ·exact .inr (.inr (ey▸h.1 x hx2))
   ·exact ih h.2 hx2 hy2
theorem Xxu {V:Vs}(h:GK V=true){f g:Fi}(hf:f∈V.fs)(hg:g∈V.fs)(hl:f.lev=g.lev)(h0:0<f.lev):f=g\/Fg f.lst g.fst=true\/Fg g.lst f.fst=true:=by
 rcases Rx (Yau h) hf hg with e|e|e
 ·exact .inl e
 ·rcases e with e|⟨_,e|e⟩
  ·omega
  ·omega
  ·exact .inr (.inl e.2)
 ·rcases e with e|⟨_,e|e⟩
  ·omega
  ·omega
  ·exact .inr (.inr e.2)
structure TV (t:Tb)(f:Fi):Prop where
 h:t.h=(f.lev,f.id)
 ne:t.cs≠[]
 fst:f.fst=(Gh t.cs 0).key
 lst:f.lst=(Gh t.cs (t.cs.length-1)).key
theorem Fy {l:List Cell}{i:Nat}{c:Cell}(h:l[i]?=some c):Gh l i=c:=by unfold Gh;rw[h];rfl
theorem X60 {l:List Cell}(hu:IQ l){c:Cell}(hc:c∈l):Fg c.key (Gh l 0).key=false/\Fg (Gh l (l.length-1)).key c.key=false:=by
 obtain⟨i,hi⟩:=AM hc;obtain⟨h1,rfl⟩:=Ap.1 hi;have r:=Ce.1 hu;rw[Fy (Ar (show 0<l.length by omega)),Fy (Ar (show l.length-1<l.length by omega))]
 constructor
 ·rcases Nat.eq_zero_or_pos i with rfl|h0
  ·exact I1 _
  ·exact K9 (r 0 i EB h1 h0)
 ·by_cases e:i=l.length-1
  ·subst e;exact I1 _
  ·exact K9 (r i (l.length-1) h1 EB EB)
theorem TV.rng {t:Tb}{f:Fi}(h:TV t f)(hu:IQ t.cs){c:Cell}(hc:c∈t.cs):Fg c.key f.fst=false/\Fg f.lst c.key=false:=by
 rw[h.fst,h.lst];exact X60 hu hc
def Uf (t u:Tb):Prop:=t.h.1<u.h.1\/(t.h.1=0/\u.h.1=0/\u.h.2<t.h.2)
structure Sto (n:Int)(V:Vs)(ts:List Tb)(mem:List Cell):Prop where
 isv:GK V=true
 fwd:∀f∈V.fs,∃t∈ts,TV t f
 bwd:∀t∈ts,∃f∈V.fs,TV t f
 nod:(ts.map (·.h)).Nodup
 up:∀t∈ts,IQ t.cs
 okc:∀c∈FF mem ts,Gl c=true/\c.seq<=n
 ms:Fx mem
 n1:∀c∈mem,∀t∈ts,∀d∈t.cs,d.key=c.key->d.seq<c.seq
 n2:∀t∈ts,∀u∈ts,Uf t u->∀c∈t.cs,∀d∈u.cs,d.key=c.key->d.seq<c.seq
theorem RH {l:List Cell}(h:Fx l):J2 l:=λc r d hd hk hs=>by
 rcases Rx h r hd with e|e|e
 ·exact e
 ·rw[Sg hk hs]at e;cases e
 ·rw[Sg hk.symm hs.symm]at e;cases e
theorem Wx {l:List Cell}(h:IQ l){c d:Cell}(hc:c∈l)(hd:d∈l)(hk:c.key=d.key):c=d:=by
 rcases Rx h hc hd with e|e|e
 ·exact e
 ·exact absurd hk (MN e)
 ·exact absurd hk.symm (MN e)
section
variable {n:Int}{V:Vs}{ts:List Tb}{mem:List Cell}
theorem Sto.lev (h:Sto n V ts mem){t:Tb}(ht:t∈ts):0<=t.h.1/\t.h.1<=4/\1<=t.h.2/\t.h.2<V.next:=by
 obtain⟨f,r,hv⟩:=h.bwd t ht;have:=Jk ((Ij h.isv).2.2.2.1 f r);rw[hv.h];exact⟨this.2.2.1,this.2.2.2.1,this.1,this.2.1⟩
theorem Sto.apart (h:Sto n V ts mem){t u:Tb}(ht:t∈ts)(hu:u∈ts)(hl:t.h.1=u.h.1)(h0:0<t.h.1){c d:Cell}(hc:c∈t.cs)(hd:d∈u.cs)(hk:d.key=c.key):t=u:=by
 obtain⟨f,Y,hv⟩:=h.bwd t ht;obtain⟨g,O,r⟩:=h.bwd u hu;obtain⟨J,Z⟩:=hv.rng (h.up t ht) hc;obtain⟨b1,z⟩:=r.rng (h.up u hu) hd;rw[hk]at b1 z;have e1:t.h.1=f.lev:=by rw[hv.h]
 have e2:u.h.1=g.lev:=by rw[r.h]
 rcases Xxu h.isv Y O EB EB with e|e|e
 ·refine L9 h.nod ht hu ?_;rw[hv.h,r.h,e]
 ·rw[O0 Z e]at b1;cases b1
 ·rw[O0 z e]at J;cases J
theorem Sto.uniq (h:Sto n V ts mem):J2 (FF mem ts):=λc r d hd hk hs=>by
 rcases Hc.1 r with r|⟨t,ht,r⟩
 ·rcases Hc.1 hd with hd|⟨u,hu,hd⟩
  ·exact RH h.ms c r d hd hk hs
  ·have:=h.n1 c r u hu d hd hk.symm;omega
 ·rcases Hc.1 hd with hd|⟨u,hu,hd⟩
  ·have:=h.n1 d hd t ht c r hk;omega
  ·by_cases e:t=u
   ·subst e;exact Wx (h.up t ht) r hd hk
   ·have l1:=h.lev ht;have l2:=h.lev hu;have z:t.h≠u.h:=λe2=>e (L9 h.nod ht hu e2);rcases DM t.h.1 u.h.1 with g|g|g
    ·have:=h.n2 t ht u hu (.inl g) c r d hd hk.symm;omega
    ·by_cases g0:0<t.h.1
     ·exact absurd (h.apart ht hu g g0 r hd hk.symm) e
     ·rcases DM t.h.2 u.h.2 with k|k|k
      ·have:=h.n2 u hu t ht (.inr ⟨by omega,by omega,k⟩) d hd c r hk;omega
      ·exact absurd (Prod.ext g k) z
      ·have:=h.n2 t ht u hu (.inr ⟨by omega,by omega,k⟩) c r d hd hk.symm;omega
    ·have:=h.n2 u hu t ht (.inl g) d hd c r hk;omega
end
theorem Xtj {ts:List Tb}{h:Int×Int}(hn:∀t∈ts,t.h≠h):H5 ts h=none:=by
 unfold H5;rw[Dl];intro t r;simpa using hn t r
theorem P1 {ts:List Tb}(hn:(ts.map (·.h)).Nodup){t:Tb}(ht:t∈ts):H5 ts t.h=some t:=by
 cases e:H5 ts t.h with
 | none=>
  unfold H5 at e;rw[Dl]at e;have:=e t ht;simp at this
 | some u=>
  have h1:=ON e;have h2:u.h=t.h:=by unfold H5 at e;simpa using CP e
  rw[L9 hn h1 ht h2]
theorem PO : ∀(tbs ts:List Tb),(∀t∈tbs,∀u∈ts,u.h≠t.h)->(tbs.map (·.h)).Nodup->tbs.foldl G9 ts=ts++tbs
 | [],ts,_,_=>by simp
 | t :: r,ts,h,hn=>by
  rw[An,AV]at hn;have e:G9 ts t=ts++[t]:=by
   unfold G9;rw[Xtj (λu hu=>h t Al u hu)];rfl
  rw[B9,e,PO r (ts++[t]) (λq z u hu=>?_) hn.2]
  ·simp
  ·rcases Aw.1 hu with hu|hu
   ·exact h q (Am _ z) u hu
   ·rw[Ah.1 hu];exact λe2=>hn.1 (by rw[e2];exact Bx z)
def kp (gone:List Fi)(t:Tb):Bool:=gone.all λf=>decide (t.h≠(f.lev,f.id))
theorem Rr : ∀(gone:List Fi) (ts:List Tb),Le ts gone=ts.filter (kp gone)
 | [],ts=>by
  exact(B5.2 λt _=>rfl).symm
 | f :: r,ts=>by
  show Le (J1 ts (f.lev,f.id)) r=_;rw[Rr r,J1,Ex]
  congr 1
  funext t
  show(kp r t && decide (t.h≠(f.lev,f.id)))=(decide (t.h≠(f.lev,f.id)) && kp r t);rw[Bool.and_comm]
theorem L8 {gone:List Fi}{t:Tb} : kp gone t=true↔∀f∈gone,t.h≠(f.lev,f.id):=by
 unfold kp;simp
theorem Xxw (s:List (List Cell)×Nat)(c:Cell)(h:∀g∈s.1,g≠[]):∀g∈(JS s c).1,g≠[]:=by
 unfold JS;split
 ·intro g r;rcases Aw.1 r with r|r
  ·exact h g r
  ·rw[Ah.1 r];simp
 ·intro g r;rcases Aw.1 r with r|r
  ·exact h g (List.dropLast_subset _ r)
  ·rw[Ah.1 r];simp
theorem T6 (l:List Cell):∀g∈F8 l,g≠[]:=by
 unfold F8
 suffices hs:∀(l:List Cell) (s:List (List Cell)×Nat),(∀g∈s.1,g≠[])->∀g∈(l.foldl JS s).1,g≠[] from hs l _ (λg z=>by cases z)
 intro l
 induction l with
 | nil=>exact λs h=>h
 | cons c r ih=>exact λs h=>ih _ (Xxw s c h)
structure ChS (V:Vs)(ts:List Tb)(l:List Cell)(lv:Int)(gone:List Fi)(V':Vs)(ts':List Tb):Prop where
 ok:Kw V (gone.map (·.id)) (F7 lv V.next (F8 l))=true
 vs:∃fs',fs'.Perm (Ik V.fs (gone.map (·.id))++F7 lv V.next (F8 l))/\GK ⟨Hp V.next (F7 lv V.next (F8 l)),fs'⟩=true/\V'=⟨Hp V.next (F7 lv V.next (F8 l)),fs'⟩
 tb:∃tbs:List Tb,tbs.map (λt=>(t.h,t.cs))=Kz lv V.next (F8 l)/\ts'=Le (tbs.foldl G9 ts) gone
theorem UB (L:Led)(D:Dsk)(p:EC):(L.write D L.last p).2.1.last=L.last/\(L.write D L.last p).2.1.ents.length<=L.ents.length:=by
 unfold Led.write;split
 ·exact⟨rfl,Ab _⟩
 split
 ·exact⟨rfl,Ab _⟩
 split
 ·exact⟨rfl,Ab _⟩
 dsimp only
 repeat' split
 all_goals first|exact⟨rfl,Ab _⟩|exact⟨by unfold Led.last;simp,Ae _⟩
theorem Pv {L L':Led}{D D':Dsk}{V V':Vs}{ts ts':List Tb}{dead dead':Bool}{l:List Cell}{lv e:Int}{gone:List Fi}(h:Jx L D V ts dead l lv gone e L' D' V' ts' dead') :
  (L'.last=L.last/\L'.ents.length<=L.ents.length)/\((e≠0/\V'=V/\ts'=ts)\/(e=0/\dead'=dead/\ChS V ts l lv gone V' ts')):=by
 rcases h with⟨h1,rfl,_,h2,h3,_⟩|⟨_,hok,fs',hp,_,hv,_,⟨h1,rfl,rfl,_,h2,h3,_⟩|⟨_,rfl,_,⟨h1,rfl,h2,h3,_⟩|⟨_,h1,h2,h3,h4⟩⟩⟩
 ·exact⟨⟨rfl,Ab _⟩,.inl ⟨h1,h2,h3⟩⟩
 ·exact⟨⟨rfl,Ab _⟩,.inl ⟨h1,h2,h3⟩⟩
 ·exact⟨UB _ _ _,.inl ⟨h1,h2,h3⟩⟩
 ·exact⟨UB _ _ _,.inr ⟨h1,h3,hok,⟨fs',hp,hv,h2⟩,h4⟩⟩
theorem PK {lv next:Int}{ss:List (List Cell)}{tbs:List Tb}(h:tbs.map (λt=>(t.h,t.cs))=Kz lv next ss) :
  tbs.length=ss.length/\(∀(i:Nat) (t:Tb),tbs[i]?=some t->t.h=(lv,next+↑i)/\ss[i]?=some t.cs)/\(∀(i:Nat) (sg:List Cell),ss[i]?=some sg->∃t,tbs[i]?=some t/\t.h=(lv,next+↑i)/\t.cs=sg):=by
 have z:tbs.length=ss.length:=by
  have:=congrArg List.length h;unfold Kz at this;simpa using this
 have r:∀(i:Nat) (t:Tb),tbs[i]?=some t->t.h=(lv,next+↑i)/\ss[i]?=some t.cs:=λi t hi=>by
  have h1:=congrArg (λl=>l[i]?) h;unfold Kz at h1;simp only [AD,Ld,hi,Br]at h1
  cases hs:ss[i]? with
  | none=>rw[hs]at h1;simp at h1
  | some sg=>
   rw[hs]at h1;simp only [Br,A0.injEq,Bl.injEq]at h1;exact⟨h1.1,by rw[h1.2]⟩
 refine⟨z,r,λi sg hi=>?_⟩;have hil:=(Ap.1 hi).1;have h1:tbs[i]?=some (tbs[i]'EB):=Ar _;obtain⟨h2,h3⟩:=r i _ h1;rw[hi]at h3;exact⟨_,h1,h2,(A0.inj h3).symm⟩
theorem Xtk {lv next:Int}{ss:List (List Cell)}{tbs:List Tb}(h:tbs.map (λt=>(t.h,t.cs))=Kz lv next ss):tbs.flatMap (·.cs)=ss.flatten:=by
 obtain⟨hl,h1,_⟩:=PK h;rw[DN]
 congr 1
 apply BA
 intro i;rw[AD]
 cases hi:tbs[i]? with
 | none=>rw[Et]at hi;rw[Bm EB];rfl
 | some t=>rw[(h1 i t hi).2];rfl
theorem X61 {lv next:Int}{ss:List (List Cell)}{f:Fi}(h:f∈F7 lv next ss):∃(i:Nat) (sg:List Cell),ss[i]?=some sg/\f=Kr lv next i sg:=by
 unfold F7 at h;obtain⟨p,r,rfl⟩:=Aq.1 h;obtain⟨i,hi⟩:=AM r;rw[Ld]at hi;obtain⟨sg,hs,rfl⟩:=Bb.1 hi;exact⟨i,sg,hs,rfl⟩
theorem X02 {lv next:Int}{ss:List (List Cell)}{i:Nat}{sg:List Cell}(h:ss[i]?=some sg):Kr lv next i sg∈F7 lv next ss:=by
 unfold F7;refine Aq.2 ⟨(sg,i),Ak (i:=i) ?_,rfl⟩;rw[Ld,h];rfl
section
variable {n lv:Int}{V V':Vs}{ts ts':List Tb}{mem l:List Cell}{gone:List Fi}
theorem ChS.sto (h:Sto n V ts mem)(c:ChS V ts l lv gone V' ts')(hg:∀f∈gone,f∈V.fs)(hlu:IQ l)(hl:∀c∈l,c∈FF mem ts)
  (hA:∀u∈ts,kp gone u=true->(lv<u.h.1\/(lv=0/\u.h.1=0))->∀c∈l,∀d∈u.cs,d.key=c.key->d.seq<c.seq)
  (hB:∀t∈ts,kp gone t=true->t.h.1<lv->∀c∈t.cs,∀d∈l,d.key=c.key->d.seq<c.seq) :
  Sto n V' ts' []/\∃tbs:List Tb,ts'=ts.filter (kp gone)++tbs/\tbs.flatMap (·.cs)=l:=by
 obtain⟨hok,⟨fs',hp,hv,rfl⟩,tbs,h8,xc⟩:=c;obtain⟨htl,hr,xf⟩:=PK h8;have J:=Xtk h8;rw[QA]at J;have Y:∀t∈tbs,t.h.1=lv/\V.next<=t.h.2/\∃i:Nat,t.h.2=V.next+↑i/\(F8 l)[i]?=some t.cs:=λt r=>by
  obtain⟨i,hi⟩:=AM r;obtain⟨h1,h2⟩:=hr i t hi;rw[h1];exact⟨rfl,by show V.next<=V.next+↑i;omega,i,rfl,h2⟩
 have h5:∀t∈tbs,∀u∈ts,u.h≠t.h:=λt r u hu e=>by
  have h1:=(Y t r).2.1;have h2:=(h.lev hu).2.2.2;rw[e]at h2;omega
 have h7:(tbs.map (·.h)).Nodup:=by
  rw[List.Nodup,Ce];intro i j hi hj hij e;simp only [Ao]at hi hj;simp only [List.getElem_map]at e;rw[(hr i _ (Ar hi)).1,(hr j _ (Ar hj)).1]at e;have:=(Bl.inj e).2;omega
 have h9:∀t∈tbs,kp gone t=true:=λt r=>L8.2 λf Z e=>by
  have h1:=(Y t r).2.1;have h2:=(Jk ((Ij h.isv).2.2.2.1 f (hg f Z))).2.1;rw[e]at h1;have h3:V.next<=f.id:=h1;omega
 have hq:ts'=ts.filter (kp gone)++tbs:=by
  rw[xc,PO tbs ts h5 h7,Rr,BL,B5.2 h9]
 refine⟨?_,tbs,hq,J⟩;have z:∀t,t∈ts'↔(t∈ts/\kp gone t=true)\/t∈tbs:=λt=>by rw[hq,Aw,A3]
 have xg:(F8 l).flatten=l:=QA l;have hy:∀t∈tbs,∀c∈t.cs,c∈l:=λt r c O=>by rw[<-J];exact BP.2 ⟨t,r,O⟩
 have hz:=(Ij h.isv).2.2.2.2.1;have hx:(F8 l).flatten.Pairwise λa b=>Fg a.key b.key=true:=by rw[xg];exact hlu
 rw[List.pairwise_flatten]at hx;have hh:∀f∈V.fs,∀t∈ts,TV t f->(kp gone t=true↔f.id∉gone.map (·.id)):=λf Z t r hv=>by
  rw[L8]
  constructor
  ·intro h1 h2;obtain⟨g,hw,xd⟩:=Aq.1 h2;have:g=f:=L9 hz (hg g hw) Z xd;exact h1 g hw (by rw[hv.h,this])
  ·intro h1 g hw e;refine h1 (Aq.2 ⟨g,hw,?_⟩);rw[hv.h]at e;exact(Bl.inj e).2.symm
 refine⟨hv,λf Z=>?_,λt r=>?_,?_,λt r=>?_,λc O=>?_,Bp,λc O=>(by cases O),λt r u hu hn c O d hd hk=>?_⟩
 ·rcases Aw.1 (hp.mem_iff.1 Z)with Z|Z
  ·unfold Ik at Z;obtain⟨h6,xh⟩:=A3.1 Z;obtain⟨t,r,hv⟩:=h.fwd f h6;exact⟨t,(z t).2 (.inl ⟨r,(hh f h6 t r hv).2 (by simpa using xh)⟩),hv⟩
  ·obtain⟨i,sg,hs,rfl⟩:=X61 Z;obtain⟨t,r,h1,h2⟩:=xf i sg hs;exact⟨t,(z t).2 (.inr (Ak r)),h1,by rw[h2];exact T6 l sg (Ak hs),by rw[h2];rfl,by rw[h2];rfl⟩
 ·rcases(z t).1 r with⟨r,hk⟩|r
  ·obtain⟨f,Z,hv⟩:=h.bwd t r;refine⟨f,hp.mem_iff.2 (BD _ ?_),hv⟩;unfold Ik;refine A3.2 ⟨Z,?_⟩;simpa using(hh f Z t r hv).1 hk
  ·obtain⟨i,hi⟩:=AM r;obtain⟨h1,h2⟩:=hr i t hi;exact⟨Kr lv V.next i t.cs,hp.mem_iff.2 (Bw _ (X02 h2)),h1,T6 l _ (Ak h2),rfl,rfl⟩
 ·rw[hq,AH];refine BG.2 ⟨List.Nodup.sublist (C3 _ Ca) h.nod,h7,λa ha b hb e=>?_⟩;obtain⟨u,hu,rfl⟩:=Aq.1 ha;obtain⟨t,r,rfl⟩:=Aq.1 hb;exact h5 t r u (A3.1 hu).1 e
 ·rcases(z t).1 r with⟨r,_⟩|r
  ·exact h.up t r
  ·obtain⟨_,_,i,_,h2⟩:=Y t r;exact hx.1 _ (Ak h2)
 ·rcases Hc.1 O with O|⟨t,r,O⟩
  ·cases O
  ·rcases(z t).1 r with⟨r,_⟩|r
   ·exact h.okc c (Hc.2 (.inr ⟨t,r,O⟩))
   ·exact h.okc c (hl c (hy t r c O))
 ·rcases(z t).1 r with⟨r,hkt⟩|r
  ·rcases(z u).1 hu with⟨hu,hku⟩|hu
   ·exact h.n2 t r u hu hn c O d hd hk
   ·obtain⟨g1,g2,_⟩:=Y u hu;have g3:=h.lev r;rcases hn with hn|⟨_,_,hn⟩
    ·exact hB t r hkt EB c O d (hy u hu d hd) hk
    ·omega
  ·obtain⟨g1,g2,i,g4,g5⟩:=Y t r;rcases(z u).1 hu with⟨hu,hku⟩|hu
   ·refine hA u hu hku ?_ c (hy t r c O) d hd hk;rcases hn with hn|⟨hn1,hn2,_⟩
    ·exact .inl EB
    ·exact .inr ⟨by omega,hn2⟩
   ·obtain⟨k1,k2,j,k4,k5⟩:=Y u hu;rcases hn with hn|⟨_,_,hn⟩
    ·omega
    ·have xe:j<i:=by omega
     obtain⟨hi,xb⟩:=Ap.1 g5;obtain⟨hj,xa⟩:=Ap.1 k5;have:=Ce.1 hx.2 j i hj hi xe d (by rw[xa];exact hd) c (by rw[xb];exact O);exact absurd hk (MN this)
theorem ChS.flush {m:List Cell}{M:List Rw}(h:Sto n V ts mem)(hm:Mg mem m)(c:ChS V ts m 0 [] V' ts')(hT:Sp.Told (FF mem ts) M):Sto n V' ts' []/\Sp.Told (FF [] ts') M/\(∃tbs:List Tb,ts'=ts++tbs/\tbs.flatMap (·.cs)=m):=by
 obtain⟨Y,J⟩:=Pm (RH h.ms) hm;obtain⟨h1,tbs,h2,h3⟩:=c.sto h (λf Z=>(by cases Z)) Y (λc r=>Hc.2 (.inl ((J c).1 r).1)) (λu hu _ _ c r d hd hk=>h.n1 c ((J c).1 r).1 u hu d hd hk) (λt z _ hl=>by have:=(h.lev z).1;omega);have h4:ts.filter (kp [])=ts:=B5.2 λt _=>rfl;rw[h4]at h2;refine⟨h1,Ru hT (λc r=>?_) (λc r=>.inl ?_),tbs,h2,h3⟩
 ·rcases Hc.1 r with r|⟨t,z,r⟩
  ·cases r
  ·rw[h2]at z;rcases Aw.1 z with z|z
   ·exact Hc.2 (.inr ⟨t,z,r⟩)
   ·refine Hc.2 (.inl ((J c).1 ?_).1);rw[<-h3];exact BP.2 ⟨t,z,r⟩
 ·rcases Hc.1 r.1 with hc1|⟨t,z,hc1⟩
  ·have:c∈m:=(J c).2 ⟨hc1,λd hd=>r.2 d (Hc.2 (.inl hd))⟩;rw[<-h3]at this;obtain⟨t,z,O⟩:=BP.1 this;exact Hc.2 (.inr ⟨t,by rw[h2];exact Bw _ z,O⟩)
  ·exact Hc.2 (.inr ⟨t,by rw[h2];exact BD _ z,hc1⟩)
end
structure PickP (V:Vs)(p:List Fi)(lv:Int):Prop where
 hd:∃f,p[0]?=some f/\f.lev+1=lv
 sub:∀f∈p,f∈V.fs/\(f.lev=lv-1\/f.lev=lv)
 lo:1<=lv/\lv<=4
 src:lv=1->∀f∈V.fs,f.lev=0->f∈p
 ovr:∀f∈p,f.lev=lv-1->∀g∈V.fs,g.lev=lv->Fg g.lst f.fst=false->Fg f.lst g.fst=false->g∈p
 len:p.length<=V.fs.length
 nod:(p.map (·.id)).Nodup
def I6 (ts:List Tb)(p:List Fi):List Cell:=p.flatMap λf=>match H5 ts (f.lev,f.id)with
 | some t=>t.cs
 | none=>[]
def HL (fs:List Fi)(lv:Int)(c:Cell):Bool:=!c.del || fs.any λf=>decide (lv<f.lev) && (!Fg f.lst c.key && !Fg c.key f.fst)
section
variable {n lv:Int}{V V':Vs}{ts ts':List Tb}{m:List Cell}{p:List Fi}{M:List Rw}
theorem Ub (h:Sto n V ts [])(hp:∀f∈p,f∈V.fs){c:Cell} : c∈I6 ts p↔∃t∈ts,kp p t=false/\c∈t.cs:=by
 unfold I6;rw[BP]
 constructor
 ·rintro ⟨f,r,hc⟩;obtain⟨t,z,hv⟩:=h.fwd f (hp f r);rw[<-hv.h,P1 h.nod z]at hc;refine⟨t,z,?_,hc⟩
  cases hk:kp p t with
  | false=>rfl
  | true=>exact absurd hv.h (L8.1 hk f r)
 ·rintro ⟨t,z,hk,hc⟩;have:¬ ∀f∈p,t.h≠(f.lev,f.id):=λh2=>by rw[L8.2 h2]at hk;cases hk
  obtain⟨f,r⟩:=Classical.not_forall.1 this;rw[Classical.not_imp]at r;have e:=Classical.not_not.1 r.2;refine⟨f,r.1,?_⟩;rw[<-e,P1 h.nod z];exact hc
theorem WQ (h:Sto n V ts [])(hp:PickP V p lv){t:Tb}(ht:t∈ts)(hk:kp p t=false):∃f∈p,TV t f/\(t.h.1=lv-1\/t.h.1=lv):=by
 have:¬ ∀f∈p,t.h≠(f.lev,f.id):=λh2=>by rw[L8.2 h2]at hk;cases hk
 obtain⟨f,z⟩:=Classical.not_forall.1 this;rw[Classical.not_imp]at z;have e:=Classical.not_not.1 z.2;obtain⟨g,J,hv⟩:=h.bwd t ht;have r:=(Ij h.isv).2.2.2.2.1;have e2:f=g:=L9 r (hp.sub f z.1).1 J (by have:=hv.h;rw[e]at this;exact(Bl.inj this).2);subst e2;have:=(hp.sub f z.1).2;refine⟨f,z.1,hv,?_⟩;rw[hv.h];exact this
theorem Vk (h:Sto n V ts [])(hp:PickP V p lv){t u:Tb}(ht:t∈ts)(hkt:kp p t=false)(hu:u∈ts)(hku:kp p u=true){c d:Cell}(hc:c∈t.cs)(hd:d∈u.cs)(hk:d.key=c.key):lv<u.h.1\/Uf u t:=by
 obtain⟨f,hf,hv,J⟩:=WQ h hp ht hkt;obtain⟨g,O,z⟩:=h.bwd u hu;have e1:t.h.1=f.lev:=by rw[hv.h]
 have e2:u.h.1=g.lev:=by rw[z.h]
 have r:g∉p:=λh2=>L8.1 hku g h2 z.h;have hlo:=hp.lo;rcases DM lv u.h.1 with q|q|q
 ·exact .inl q
 ·exfalso;rcases J with J|J
  ·obtain⟨Z,a2⟩:=hv.rng (h.up t ht) hc;obtain⟨b1,Y⟩:=z.rng (h.up u hu) hd;rw[hk]at b1 Y;exact r (hp.ovr f hf EB g O EB (by
    cases e:Fg g.lst f.fst with
    | false=>rfl
    | true=>rw[O0 Y e]at Z;cases Z) (by
    cases e:Fg f.lst g.fst with
    | false=>rfl
    | true=>rw[O0 a2 e]at b1;cases b1))
  ·have:=h.apart ht hu EB EB hc hd hk;rw[this,hku]at hkt;cases hkt
 ·right
  by_cases q2:u.h.1<t.h.1
  ·exact .inl q2
  ·exfalso
   by_cases q3:lv=1
   ·exact r (hp.src q3 g O (by have:=h.lev hu;omega))
   ·have:=h.apart ht hu EB EB hc hd hk;rw[this,hku]at hkt;cases hkt
theorem ChS.merge (h:Sto n V ts [])(hp:PickP V p lv)(hm:Mg (I6 ts p) m)(c:ChS V ts (m.filter (HL V.fs lv)) lv p V' ts')(hT:Sp.Told (FF [] ts) M) :
  Sto n V' ts' []/\Sp.Told (FF [] ts') M/\(∃tbs:List Tb,ts'=ts.filter (kp p)++tbs/\tbs.flatMap (·.cs)=m.filter (HL V.fs lv)):=by
 have hz:∀f∈p,f∈V.fs:=λf hf=>(hp.sub f hf).1;have hx:∀c,c∈I6 ts p↔∃t∈ts,kp p t=false/\c∈t.cs:=λc=>Ub h hz;have ha:∀c∈I6 ts p,c∈FF [] ts:=λc r=>by
  obtain⟨t,z,_,h2⟩:=(hx c).1 r;exact Hc.2 (.inr ⟨t,z,h2⟩)
 have hq:J2 (I6 ts p):=λc r d hd=>h.uniq c (ha c r) d (ha d hd);obtain⟨hy,hj⟩:=Pm hq hm;have hlo:=hp.lo;have hr:∀c∈m.filter (HL V.fs lv),∃t∈ts,kp p t=false/\c∈t.cs:=λc r=>(hx c).1 ((hj c).1 (A3.1 r).1).1;obtain⟨h1,tbs,h2,h3⟩:=c.sto h hz (CB _ hy) (λc r=>by
  obtain⟨t,z,_,J⟩:=hr c r;exact Hc.2 (.inr ⟨t,z,J⟩)) (λu hu hb hl c r d hd hk=>by
  obtain⟨t,z,Y,J⟩:=hr c r;obtain⟨f,hf,hv,hlt⟩:=WQ h hp z Y;exact h.n2 t z u hu (.inl (by rcases hl with hl|hl<;>omega)) c J d hd hk) (λt z Y hl c r d hd hk=>by
  obtain⟨u,hu,hb,O⟩:=hr d hd;rcases Vk h hp hu hb z Y O r hk.symm with q|q
  ·omega
  ·exact h.n2 t z u hu q c r d O hk)
 refine⟨h1,Ru hT (λc r=>?_) (λc r=>?_),tbs,h2,h3⟩
 ·rcases Hc.1 r with r|⟨t,z,r⟩
  ·cases r
  ·rw[h2]at z;rcases Aw.1 z with z|z
   ·exact Hc.2 (.inr ⟨t,(A3.1 z).1,r⟩)
   ·have:c∈m.filter (HL V.fs lv):=by rw[<-h3];exact BP.2 ⟨t,z,r⟩
    exact ha c ((hj c).1 (A3.1 this).1).1
 ·rcases Hc.1 r.1 with hc1|⟨t,z,J⟩
  ·cases hc1
  ·cases Y:kp p t with
   | true=>exact .inl (Hc.2 (.inr ⟨t,by rw[h2];exact BD _ (A3.2 ⟨z,Y⟩),J⟩))
   | false=>
    have h5:c∈I6 ts p:=(hx c).2 ⟨t,z,Y,J⟩;have hh:c∈m:=(hj c).2 ⟨h5,λd hd=>r.2 d (ha d hd)⟩
    by_cases hs:HL V.fs lv c=true
    ·have:c∈m.filter (HL V.fs lv):=A3.2 ⟨hh,hs⟩;rw[<-h3]at this;obtain⟨u,hu,hcu⟩:=BP.1 this;exact .inl (Hc.2 (.inr ⟨u,by rw[h2];exact Bw _ hu,hcu⟩))
    ·right;have Z:HL V.fs lv c=false:=by simpa using hs
     unfold HL at Z;rw[Bool.or_eq_false_iff]at Z;refine⟨by simpa using Z.1,λd hd hk=>?_⟩;rcases Hc.1 hd with hd|⟨u,hu,O⟩
     ·cases hd
     ·rw[h2]at hu;rcases Aw.1 hu with hu|hu
      ·obtain⟨hu,hb⟩:=A3.1 hu;rcases Vk h hp z Y hu hb J O hk with q|q
       ·obtain⟨g,hg,hw⟩:=h.bwd u hu;obtain⟨b1,b2⟩:=hw.rng (h.up u hu) O;have h9:=Dq.1 Z.2 g hg;rw[hk]at b1 b2;have e2:u.h.1=g.lev:=by rw[hw.h]
        rw[b1,b2,decide_eq_true (show lv<g.lev by omega)]at h9;exact h9 rfl
       ·have g1:=h.n2 u hu t z q d O c J hk.symm;have g2:=r.2 d (Hc.2 (.inr ⟨u,hu,O⟩)) hk;omega
      ·have:d∈m.filter (HL V.fs lv):=by rw[<-h3];exact BP.2 ⟨u,hu,O⟩
       obtain⟨q1,q2⟩:=A3.1 this;rw[Wx hy q1 hh hk]at q2;exact hs q2
end
section
variable {P:Program}{E:Fh}{d:Option Tmp}{ty:TypeId}{pos:String}{af:Array Edge}{g:Option (Nat×Bool)}
def I3 (a b:EC):EC:=if Fg b a=true then b else a
def Iw (a b:EC):EC:=if Fg a b=true then b else a
theorem X62 {x y:Operand}{ts:Array TypeId}{a b:EC}(hx:ev E x=S a)(hy:ev E y=S b):PV P ⟨d,.call { callee:=.builtin .min,args:=#[x,y],argTypes:=ts },ty,pos,af,g⟩ E (S (I3 a b)):=λw=>by
 have h:=VL a b
 cases h2:Op.bytesLess b a with
 | true=>rw[h2]at h;simp [execOp,resolve,invoke,builtin,Builtin.min_,Builtin.min2,hx,hy,C1,Op.stringOp,I3,Fg,h2,h,asBool]
 | false=>rw[h2]at h;simp [execOp,resolve,invoke,builtin,Builtin.min_,Builtin.min2,hx,hy,C1,Op.stringOp,I3,Fg,h2,h,asBool]
theorem X63 {x y:Operand}{ts:Array TypeId}{a b:EC}(hx:ev E x=S a)(hy:ev E y=S b):PV P ⟨d,.call { callee:=.builtin .max,args:=#[x,y],argTypes:=ts },ty,pos,af,g⟩ E (S (Iw a b)):=λw=>by
 cases h2:Op.bytesLess a b with
 | true=>simp [execOp,resolve,invoke,builtin,Builtin.max_,Builtin.max2,hx,hy,C1,Op.stringOp,Iw,Fg,h2,asBool]
 | false=>simp [execOp,resolve,invoke,builtin,Builtin.max_,Builtin.max2,hx,hy,C1,Op.stringOp,Iw,Fg,h2,asBool]
end
theorem Ph {P:Program}{E:Fh}{dd:Option Tmp}{ty:TypeId}{pos:String}{af:Array Edge}{g:Option (Nat×Bool)}{T m e k:Nat}{ps:List (Nat×Operand)}{zs cs:List Value}{pv:List (Nat×Value)}(hz:KK P T=some zs)(hT:Oj P T=some (m,e,k))(hv:K8 E ps pv)(hf:H7 (λi=>some (i*k,k)) zs pv=some cs) :
  PV P ⟨dd,.build T ps.toArray,ty,pos,af,g⟩ E (.agg ⟨cs⟩):=λw=>by
 obtain⟨z,J,r⟩:=O3 (P:=P) (w:=w) hz;have hm:=K8.map hv;obtain⟨hu,f,O,hk⟩:=Q5 hT;have h2:=RS (λi=>some (i*k,k)) pv zs cs hf;simp [execOp,Instr.build,J,r,underlying,hu,sizeOf,typeInfo,O,hk,hm,h2]
def FL (fs:List Fi)(i:Int):List Fi:=fs.filter λf=>decide (f.lev=i)
theorem RN {fs:List Fi}{k:Nat}{f:Fi}(h:fs[k]?=some f)(i:Int):FL (fs.take (k+1)) i=FL (fs.take k) i++(if f.lev=i then[f]else[]):=by
 unfold FL;rw[G1 h,BL]
 by_cases e:f.lev=i<;>simp [e]
theorem VS (fs:List Fi)(k:Nat)(i:Int):(FL (fs.take k) i).length<=fs.length:=by
 unfold FL;have h1:=BI (λf:Fi=>decide (f.lev=i)) (fs.take k);have h2:(fs.take k).length<=fs.length:=List.length_take_le' ..;omega
def Hv (fs:List Fi):List Nat:=(List.range 5).map λi:Nat=>(FL fs (i:Int)).length
theorem MQ (fs:List Fi){i:Nat}(h:i<5):(Hv fs)[i]?=some (FL fs ↑i).length:=by
 unfold Hv;rw[AD,List.getElem?_range h];rfl
theorem Xxy {fs:List Fi}{k lv:Nat}{f:Fi}(h:fs[k]?=some f)(he:f.lev=↑lv)(hl:lv<5):(Hv (fs.take k)).set lv ((FL (fs.take k) ↑lv).length+1)=Hv (fs.take (k+1)):=by
 apply BA
 intro i
 by_cases hi:i<5
 ·rw[MQ _ hi]
  by_cases e:lv=i
  ·subst e;rw[List.getElem?_set_self (by unfold Hv;simpa using hl),RN h,if_pos he];simp
  ·rw[List.getElem?_set_ne e,MQ _ hi,RN h,if_neg EB];simp
 ·rw[Bm (by simp [Hv];omega),Bm (by simp [Hv];omega)]
def NY (fs:List Fi)(F:Int×Int->Option Fi):Prop:=∀(i:Int) (j:Nat),F (i,↑j)=(FL fs i)[j]?
theorem Ycd : NY [] (λ_=>none):=λi j=>rfl
theorem X03 {fs:List Fi}{k:Nat}{f:Fi}{F:Int×Int->Option Fi}(h:fs[k]?=some f)(hF:NY (fs.take k) F):NY (fs.take (k+1)) (putF F (f.lev,↑(FL (fs.take k) f.lev).length) f):=λi j=>by
 rw[RN h];unfold putF
 by_cases e:f.lev=i
 ·subst e;rw[if_pos rfl]
  by_cases e2:j=(FL (fs.take k) f.lev).length
  ·subst e2;simp
  ·rw[if_neg (by simp;omega),hF,List.getElem?_append];split
   ·rfl
   ·rw[Bm EB,Bm (by simp;omega)]
 ·rw[if_neg (by simp;exact λe2=>absurd e2.symm e),if_neg e,AO,hF]
theorem X64 (a b:Fi)(h:Fi.v a=Fi.v b):a=b:=by
 obtain⟨a1,a2,a3,a4,a5⟩:=a;obtain⟨b1,b2,b3,b4,b5⟩:=b;simp [Fi.v]at h;obtain⟨rfl,rfl,rfl,rfl,rfl⟩:=h;rfl
theorem O1 : MapK Tryz.prog 177 181 62 Gz Fi.v KG:=Qj (i:=3) EA EA (Xs9 EA EA EA) EA EA EA EA EA EA X64
theorem X04 (n:Int)(fs:List Fi)(vf:Value)(w:World)(hv:EQ Fi.cs 5 w vf fs)(hl:fs.length<=100000)(hlv:∀f∈fs,0<=f.lev/\f.lev<=4) :
  Calls Tryz.prog 104 [.agg ⟨[I n,vf]⟩].toArray w (ES w (λu w'=>∃b F,u=.tuple #[.agg ⟨Ga (Hv fs)⟩,.map (some b)]/\NY fs F/\Vc.Xbq Tryz.prog 181 Gz Fi.v w' b fs.length F)):=by
 refine cw Tryz.func104 ?_;have J:=ED.refl w;refine ws λ_ Z1=>wr (Gn rfl rfl rfl RX.all (λb1 w1 e1 x1 O=>?_));have g1:=J.ge e1;have J:=J.trans x1;refine FP (cs:=[.int .i64 0,.int .i64 0,.int .i64 0,.int .i64 0,.int .i64 0]) rfl EA RX.all (λb2 w2 e2 x2 Y=>?_);have g2:=J.ge e2;have n2_1:=O.ltb e2;have O:=O.ext x2;have J:=J.trans x2;refine da (de Z1 (ws λ_ Z2=>wr ?_));refine FP (cs:=[.int .i64 0,.int .i64 0,.int .i64 0,.int .i64 0,.int .i64 0]) rfl EA RX.all (λb3 w3 e3 x3 Z=>?_);have g3:=J.ge e3;have n3_1:=O.ltb e3;have n3_2:=Y.ltb e3;have O:=O.ext x3;have Y:=Y.ext x3;have J:=J.trans x3;refine de Z2 (ws λ_ Z3=>wr (Px O1 rfl RX.all (λb4 w4 e4 x4 r=>?_)));have g4:=J.ge e4;have n4_1:=O.ltb e4;have n4_2:=Y.ltb e4;have n4_3:=Z.ltb e4;have O:=O.ext x4;have Y:=Y.ext x4;have Z:=Z.ext x4;have J:=J.trans x4;refine da (de Z3 (ws λ_ Z4=>ws λ_ Z5=>wr ?_));refine df 1 rfl (dl rfl (O.at rfl) (dv 62 5 (hv.ext J).sl (dm (de Z5 (EM ?_)))));refine Fq (G:=Nat×(Int×Int->Option Fi)) (λ(k,F)=>[(2,EE b2 0),(3,.map none),(4,EE b3 0),(5,.map (some b4)),(10,vf),(11,I ↑fs.length),(12,I ↑k)]) (λ(k,F) w'=>ED w w'/\EK w' b1 [I n,vf] 56/\EK w' b2 [I 0,I 0,I 0,I 0,I 0] 176/\k<=fs.length/\NY (fs.take k) F/\EK w' b3 (Ga (Hv (fs.take k))) 176/\Vc.Xbq Tryz.prog 181 Gz Fi.v w' b4 k F) (λ(k,F)=>fs.length-k) (0,λ_=>none) ?_ ?_ ?_
 ·exact Gb
 ·exact⟨J,O,Y,Ae _,Ycd,Z,r⟩
 intro X5 g5 w5 hw;obtain⟨k,F⟩:=g5;clear J O Y Z r;obtain⟨J,O,Y,hk1,hf,Z,r⟩:=hw;refine ws λ_ Z6=>wr (dp (Fb rfl rfl) (de Z6 (ws λ_ Z7=>wi (λc1=>?_) λc1=>?_)))
 ·obtain⟨f,hk⟩:∃f,fs[k]?=some f:=Fw;have hlf:=hlv f (Ak hk);obtain⟨lv,hle⟩:∃lv:Nat,f.lev=↑lv:=⟨f.lev.toNat,by omega⟩;have hb:lv<5:=by omega
  have hg:=MQ (fs.take k) hb;have hxl:=VS fs k ↑lv;have ht:=Xxy hk hle hb;have hh:=X03 hk hf;rw[hle]at hh;refine EI (Z7 _ _ (ws λ_ Z8=>EM (ws λ_ Z9=>wr (di 62 5 hv.sl rfl (hv.lt hk) (dq (Fe EA rfl rfl ((hv.ext J).row hk)) (FP (cs:=[.int .i64 0,.int .i64 0,.int .i64 0,S [],S []]) rfl EA RX.all (λb5 w6 e5 x6 m5=>?_)))))));have g5:=J.ge e5;have n5_1:=O.ltb e5;have n5_2:=Y.ltb e5;have n5_3:=Z.ltb e5;have n5_mp4:=r.lt;have O:=O.ext x6;have Y:=Y.ext x6;have Z:=Z.ext x6;have r:=r.ext x6;have J:=J.trans x6;refine FY m5 (λw7 x7 xs7 m5=>?_);dsimp only [EY,Af,Ad,Ag]at m5;have O:=O.mo x7;have Y:=Y.mo x7;have Z:=Z.mo x7;have r:=r.mod x7 (by intro h;have h2:_=b5:=h;omega);have J:=J.o1 x7;refine de Z9 (ws λ_ hr=>F9 (R:=Mod (ET b4)) Jz JV EA [2,4,6,8] [(0,.p,false),(1,.p,false),(2,.l,false),(3,.p,false),(4,.l,false),(5,.p,false),(6,.l,false),(7,.p,false),(8,.l,false),(9,.x,true)] rfl EA EA (λw8 hp=>?_));have x8:=EL hp;clear hp;have O:=O.ext x8;have Y:=Y.ext x8;have Z:=Z.ext x8;have r:=r.ext x8;have m5:=m5.ext x8;have J:=J.trans x8;refine dm ?_;refine df 1 rfl (FW rfl (λw' hR=>LV.to (ME EA rfl ((m5.mod hR (λe=>r.ne_blk m5 e)).at rfl)) (congrArg (λz=>I z) hle)) (df 1 rfl (FW rfl (λw' hR=>LV.to (ME EA rfl ((m5.mod hR (λe=>r.ne_blk m5 e)).at rfl)) (congrArg (λz=>I z) hle)) (dp (Ko (m:=5) (e:=3) (k:=1) EA rfl rfl EB) (dL rfl (λ_ hR=>((Z.mod hR (λe=>r.ne_blk Z e)).at (Mm hg))) (EW (v:=Gz (↑lv,↑(FL (fs.take k) ↑lv).length)) rfl (Ph (zs:=[I 0,I 0]) (m:=2) (e:=3) (k:=1) (pv:=[(0,I ↑lv),(1,I ↑(FL (fs.take k) ↑lv).length)]) (cs:=[I ↑lv,I ↑(FL (fs.take k) ↑lv).length]) EA EA Gc rfl) rfl (FW rfl (λw' hR=>Fe (k:=5) EA rfl rfl (m5.mod hR (λe=>r.ne_blk m5 e)).row) ?_)))))));refine Ou O1 (kx:=(↑lv,↑(FL (fs.take k) ↑lv).length)) (a:=f) rfl rfl rfl rfl r ⟨by unfold EU;omega,by unfold EU;omega⟩ (by unfold maxLen;omega) (.inl rfl) (λw9 x9 xs9 hc=>?_);have O:=O.mod x9 (by exact λe=>r.ne_blk O e);have Y:=Y.mod x9 (by exact λe=>r.ne_blk Y e);have Z:=Z.mod x9 (by exact λe=>r.ne_blk Z e);have m5:=m5.mod x9 (by exact λe=>r.ne_blk m5 e);have J:=J.own x9 (λi hi=>by have hq:i=b4:=hi;subst hq;omega);have r:=hc;refine de hr (wr (df 1 rfl (dq (LV.to (ME EA rfl (m5.at rfl)) (congrArg (λz=>I z) hle)) (dp (Ko (m:=5) (e:=3) (k:=1) EA rfl rfl EB) (dl rfl (Z.at (Mm hg)) (EW (v:=I ↑((FL (fs.take k) ↑lv).length+1)) rfl (Gy rfl rfl (by unfold EU;omega)) (by show I _=I _;congr 1) (dp (Ko (m:=5) (e:=3) (k:=1) EA rfl rfl EB) (G4 Z (λw10 ha xs10 Z=>?_) (hv:=by rfl) (ho:=by rw[Ao];simp only [Hv,Ao,List.length_range];omega)))))))));rw[MR]at Z;have O:=O.mo ha;have Y:=Y.mo ha;have r:=r.mod ha (by intro h;have h2:_=b3:=h;omega);have J:=J.o1 ha;refine de Z8 (wr (pa rfl rfl (dm (EH (?_)))));exact⟨(k+1,_),Gb,⟨J,O,Y,by omega,hh,by rw[<-ht];exact Z,r⟩,by simp only [];omega⟩
 refine Fk (Z4 _ _ (ws λ_ hz=>wr (dq (Fe (k:=5) EA rfl (by rw[Ao];simp [Hv]) Z.row) (dm ?_))));refine Ox (m:=5) (vs:=?u9) rfl rfl ?h9 EA ?c9 ?d9 Y ?n9 (.inl rfl) (λw11 hj xs11 Y=>?k9)
 case h9=>conv=>lhs;whnf
 case c9=>rw[Ao];simp [Hv]
 case d9=>rfl
 case n9=>simp [Value.oneCell']
 have r:=r.mod hj (by intro h;have h2:_=b2:=h;omega);have J:=J.o1 hj;refine da (de hz (EJ ?_));refine IH (u:=?v11) rfl rfl rfl rfl EA rfl Y.row ?h11 ?k11
 case h11=>conv=>lhs;whnf
 have hy:k=fs.length:=by omega
 subst hy;rw[AI]at hf;exact⟨_,rfl,J,b4,F,by rw[AI],hf,r⟩
def H1 (l:List Fi)(a:EC):EC:=l.foldl (λa f=>I3 a f.fst) a
def H0 (l:List Fi)(a:EC):EC:=l.foldl (λa f=>Iw a f.lst) a
def IB (l:List Fi)(i:Nat):Fi:=(l[i]?).getD Fi.zero
def Kt (fs l:List Fi)(lev:Int):List Fi:=l++HS fs (lev+1) (H1 l (IB l 0).fst) (H0 l (IB l 0).lst)
theorem Xxz {l:List Fi}{k:Nat}{f:Fi}{a:EC}(h:l[k]?=some f):H1 (l.take (k+1)) a=I3 (H1 (l.take k) a) f.fst:=by unfold H1;rw[G1 h,B4];rfl
theorem Xx0 {l:List Fi}{k:Nat}{f:Fi}{a:EC}(h:l[k]?=some f):H0 (l.take (k+1)) a=Iw (H0 (l.take k) a) f.lst:=by unfold H0;rw[G1 h,B4];rfl
def I0 (l:List Fi)(o:Fi):Fi:=l.foldl (λo f=>if f.id<o.id then f else o) o
theorem Ww {l:List Fi}{k:Nat}{f o:Fi}(h:l[k]?=some f):I0 (l.take (k+1)) o=if f.id<(I0 (l.take k) o).id then f else I0 (l.take k) o:=by unfold I0;rw[G1 h,B4];rfl
def GO (l:List Fi):Fi:=I0 l (IB l 0)
def IN (fs:List Fi):Option (List Fi):=
 if 4<=(FL fs 0).length then some (Kt fs (FL fs 0) 0)
 else if 4<(FL fs 1).length then some (Kt fs [GO (FL fs 1)] 1)
 else if 16<(FL fs 2).length then some (Kt fs [GO (FL fs 2)] 2)
 else if 64<(FL fs 3).length then some (Kt fs [GO (FL fs 3)] 3)
 else none
theorem VF {fs:List Fi}(h:4<=(FL fs 0).length):IN fs=some (Kt fs (FL fs 0) 0):=if_pos h
theorem X65 {fs:List Fi}{lv:Nat}(h0:¬ 4<=(FL fs 0).length)(h1:1<=lv)(h2:lv<4)(hA:∀i:Nat,1<=i->i<lv->(FL fs ↑i).length<=4 ^ i)(h:4 ^ lv<(FL fs ↑lv).length):IN fs=some (Kt fs [GO (FL fs ↑lv)] ↑lv):=by
 unfold IN;rw[if_neg h0];rcases(show lv=1\/lv=2\/lv=3 by omega)with rfl|rfl|rfl
 ·rw[if_pos (show 4<(FL fs 1).length from h)];rfl
 ·have r:=hA 1 EN EN;rw[if_neg (show¬ 4<(FL fs 1).length by exact Ba.2 r),if_pos (show 16<(FL fs 2).length by exact h)];rfl
 ·have r:=hA 1 EN EN;have z:=hA 2 EN EN;rw[if_neg (show¬ 4<(FL fs 1).length by exact Ba.2 r),if_neg (show¬ 16<(FL fs 2).length by exact Ba.2 z),if_pos (show 64<(FL fs 3).length by exact h)];rfl
theorem X66 {fs:List Fi}(h0:¬ 4<=(FL fs 0).length)(hA:∀i:Nat,1<=i->i<4->(FL fs ↑i).length<=4 ^ i):IN fs=none:=by
 have r:=hA 1 EN EN;have z:=hA 2 EN EN;have J:=hA 3 EN EN;unfold IN;rw[if_neg h0,if_neg (show¬ 4<(FL fs 1).length by exact Ba.2 r),if_neg (show¬ 16<(FL fs 2).length by exact Ba.2 z),if_neg (show¬ 64<(FL fs 3).length by exact Ba.2 J)]
theorem Yav {lv:Nat}(h1:1<=lv)(h2:lv<4):Value.int .i64 (IntKind.i64.wrap (1*2 ^ (min ((2:Int)*↑lv).toNat IntKind.i64.bits)))=I ↑(4 ^ lv):=by
 rcases(show lv=1\/lv=2\/lv=3 by omega)with rfl|rfl|rfl<;>rfl
theorem X67 {lv:Nat}(h1:1<=lv):4<=4 ^ lv:=by
 have:=Nat.pow_le_pow_right (n:=4) EN h1;simpa using this
theorem Uj (n:Int)(fs:List Fi)(vf:Value)(lev:Int)(l:List Fi)(vl:Value)(Bo:Nat)(w:World)(hv:EQ Fi.cs 5 w vf fs)(hl:fs.length<=100000)(ho0:Vc.Own Fi.cs 5 62 Bo w vl l)(hne:l≠[])(hll:l.length<=100000)(hBo:Bo<=w.heap.size)(hB:fs≠[]->(base vf).1<Bo)(hlev:0<=lev/\lev<=10) :
  Calls Tryz.prog 105 [.agg ⟨[I n,vf]⟩,I lev,vl].toArray w (Ff (λk=>vl.ownBlock=some k) w (λu w'=>Vc.Own Fi.cs 5 62 Bo w' u (Kt fs l lev))):=by
 refine cw Tryz.func105 ?_;have z:=Vc.Mod.refl (λk=>vl.ownBlock=some k) w;have ho:=ho0;obtain⟨f0,hk0⟩:∃f,l[0]?=some f:=⟨_,Ar (by cases l with|nil=>exact absurd rfl hne|cons a r=>simp)⟩;have hq:IB l 0=f0:=by unfold IB;rw[hk0];rfl
 refine ws λ_ Z1=>wr (Gn rfl rfl rfl RX.all (λb1 w1 e1 x1 J=>?_));have g1:=z.ge e1;have o1_ho:=ho.ltb e1;have ho:=ho.ext x1;have z:=z.ext x1;refine da (de Z1 (ws λ_ Z2=>?_));refine F9 (R:=ED) ED.refl (λ_ _ _=>ED.trans) EA [3,7] [(0,.p,false),(1,.p,false),(2,.p,false),(3,.l,false),(4,.p,false),(5,.p,false),(6,.p,false),(7,.l,false),(8,.p,false),(9,.p,false)] rfl EA EA (λw2 hg=>?_);have x2:=EL hg;clear hg;have ho:=ho.ext x2;have J:=J.ext x2;have z:=z.ext x2;refine dm ?_;refine di 62 5 (ho.arr EF).sl rfl ((ho.arr EF).lt hk0) (df 3 rfl (dL rfl (λ_ O=>((((ho.arr EF).ext O).row hk0).at rfl)) (dm ?_)));refine di 62 5 (ho.arr EF).sl rfl ((ho.arr EF).lt hk0) (df 4 rfl (dL rfl (λ_ O=>((((ho.arr EF).ext O).row hk0).at rfl)) (da (da (de Z2 (ws λ_ Z3=>ws λ_ Z4=>wr (dm ?_)))))));refine dv 62 5 (ho.arr EF).sl (dm (de Z4 (EM ?_)));refine Fq (G:=Nat×EC×EC) (λ(k,a,b)=>[(1,I lev),(2,vl),(3,EE b1 0),(6,.slice none 0 0),(7,S a),(8,S b),(19,vl),(20,I ↑l.length),(21,I ↑k)]) (λ(k,a,b) w'=>Mod (λk=>vl.ownBlock=some k) w w'/\Vc.Own Fi.cs 5 62 Bo w' vl l/\EK w' b1 [I n,vf] 56/\k<=l.length/\a=H1 (l.take k) f0.fst/\b=H0 (l.take k) f0.lst) (λ(k,a,b)=>l.length-k) (0,f0.fst,f0.lst) ?_ ?_ ?_
 ·exact Ji
 ·exact⟨z,ho,J,Ae _,rfl,rfl⟩
 intro X3 g3 w3 hj;obtain⟨k,a,b⟩:=g3;clear z ho J;obtain⟨z,ho,J,hk1,ha,hb⟩:=hj;refine ws λ_ Z5=>wr (dp (Fb rfl rfl) (de Z5 (ws λ_ Z6=>wi (λc1=>?_) λc1=>?_)))
 ·obtain⟨f,hk⟩:∃f,l[k]?=some f:=Fw;refine EI (Z6 _ _ (ws λ_ Z7=>EM (ws λ_ Z8=>wr (di 62 5 (ho.arr EF).sl rfl ((ho.arr EF).lt hk) (dq (Fe EA rfl rfl ((ho.arr EF).row hk)) (FP (cs:=[.int .i64 0,.int .i64 0,.int .i64 0,S [],S []]) rfl EA RX.all (λb2 w4 e2 x4 Z=>?_)))))));have g2:=z.ge e2;have n2_1:=J.ltb e2;have Y:=ho.ltb e2;have ho:=ho.ext x4;have J:=J.ext x4;have z:=z.ext x4;refine FY Z (λw5 x5 xs5 Z=>?_);dsimp only [EY,Af,Ad,Ag]at Z;have ho:=ho.mod x5 (by intro k hk h;have h1:=Y k hk;have h2:k=b2:=h;omega);have J:=J.mo x5;have z:=z.o1 x5;refine de Z8 (F9 (R:=ED) ED.refl (λ_ _ _=>ED.trans) EA [2,6] [(0,.p,false),(1,.p,false),(2,.l,false),(3,.p,false),(4,.p,false),(5,.p,false),(6,.l,false),(7,.p,false),(8,.p,false),(9,.p,false)] rfl EA EA (λw6 hh=>?_));have x6:=EL hh;clear hh;have ho:=ho.ext x6;have J:=J.ext x6;have Z:=Z.ext x6;have z:=z.ext x6;refine dm ?_;refine df 3 rfl (dL rfl (λ_ O=>((Z.ext O).at rfl)) (dp (X62 rfl rfl) (dm ?_)));refine df 4 rfl (dL rfl (λ_ O=>((Z.ext O).at rfl)) (dp (X63 rfl rfl) (da (da (de Z7 (wr ?_))))));refine pa rfl rfl (dm (EH (?_)));exact⟨(k+1,_,_),Ji,⟨z,ho,J,by omega,by rw[Xxz hk,<-ha],by rw[Xx0 hk,<-hb]⟩,by simp only [];omega⟩
 refine Fk (Z3 _ _ (ws λ_ Z9=>wr (dm ?_)));refine dq (Fe (k:=2) EA rfl rfl J.row) (dm ?_);refine pa rfl rfl (dm (dm ?_));refine cG (OC n fs vf (lev+1) a b _ (hv.mod z (λhp e=>by have h1:=(ho0.lt _ e).1;have h2:=hB hp;omega)) hl) RX.all λvo w7 x7 hf=>?_;have hsz7:=z.size;have ho:=ho.ext x7;have z:=z.ext x7;refine Hy (lx:=(HS fs (lev+1) a b)) (e:=62) (sz:=5) (by':=56) rfl EA EA EF ho ((hf.arr EF)) rfl rfl (by intro x _ u hu;simp at hu;rcases hu with rfl|rfl|rfl|rfl|rfl<;>rfl) (by have:=Nv fs (lev+1) a b;omega) EN (Ai hBo z.size) (.inl rfl) (λvr w8 hc x8=>?_);have z:=z.own x8 (λi hi hlt=>hi);have ho:=hc;refine da (de Z9 (EJ ?_));refine ro ?_;rw[Ay EB]at ha hb;refine⟨_,rfl,z,?_⟩;unfold Kt;rw[hq,<-ha,<-hb];exact ho
theorem UN (n:Int)(fs:List Fi)(vf:Value)(w:World)(hv:EQ Fi.cs 5 w vf fs)(hl:fs.length<=100000)(hV:GK ⟨n,fs⟩=true) :
  Calls Tryz.prog 48 [.agg ⟨[I n,vf]⟩].toArray w (ES w (λu w'=>∃vp,u=.tuple #[vp,B (IN fs).isSome]/\Vc.Own Fi.cs 5 62 w.heap.size w' vp ((IN fs).getD []))):=by
 refine cw Tryz.func48 ?_;have z:=ED.refl w;obtain⟨_,_,xn,ye,_⟩:=Ij hV;have hvl2:fs.length<=1024:=xn;have xa:∀f∈fs,EU f.id:=λf hf=>(MI hV f hf).1;have xj:∀f∈fs,0<=f.lev/\f.lev<=4:=λf hf=>by have:=Jk (ye f hf);exact⟨this.2.2.1,this.2.2.2.1⟩
 have xc:fs≠[]->(base vf).1<w.heap.size:=λyi=>hv.base_lt EN yi;have Z:∀i,(FL fs i).length<=1024:=λi=>by have:=VS fs fs.length i;rw[AI]at this;omega
 have hz:(FL fs ((0:Nat):Int)).length=(FL fs 0).length:=rfl;have hk90:=Z 0;refine ws λ_ Z1=>wr (Gn rfl rfl rfl RX.all (λb1 w1 e1 x1 J=>?_));have g1:=z.ge e1;have z:=z.trans x1;refine da (da (de Z1 (ws λ_ Z2=>ws λ_ Z3=>wr ?_)));refine dq (Fe (k:=2) EA rfl rfl J.row) (cP (Pn n fs vf _ (hv.ext z) EB xa) RX.all λw2 x2=>?_);have J:=J.ext x2;have z:=z.trans x2;refine dn (de Z3 ?_);refine wc (λc1=>?_) λc1=>?_
 ·rw[hV]at c1;cases c1
 refine EI (Z2 _ _ (ws λ_ Z4=>wr (dq (Fe (k:=2) EA rfl rfl J.row) (cG (X04 n fs vf _ (hv.ext z) hl xj) RX.all λu3 w3 x3 xw=>?_))));have hsz3:=z.size;have J:=J.ext x3;have z:=z.trans x3;obtain⟨ha,F,rfl,h7,r⟩:=xw;refine dm ?_;refine dx rfl rfl (dx rfl rfl (FP (cs:=[.int .i64 0,.int .i64 0,.int .i64 0,.int .i64 0,.int .i64 0]) rfl EA RX.all (λb2 w4 e2 x4 O=>?_)));have g2:=z.ge e2;have n2_1:=J.ltb e2;have n2_mp9:=r.lt;have J:=J.ext x4;have r:=r.ext x4;have z:=z.trans x4;refine Ox (m:=5) (vs:=?u5) rfl rfl ?h5 EA ?c5 ?d5 O ?n5 (.inl rfl) (λw5 x5 xs5 O=>?k5)
 case h5=>conv=>lhs;whnf
 case c5=>rw[Ao];simp [Hv]
 case d5=>rfl
 case n5=>simp [Value.oneCell']
 have J:=J.mo x5;have r:=r.mod x5 (by intro h;have h2:_=b2:=h;omega);have z:=z.o1 x5;refine da (de Z4 (ws λ_ Z5=>ws λ_ Z6=>wr ?_));refine dp (Ko (m:=5) (e:=3) (k:=1) EA rfl rfl EN) (dl rfl (O.at (Mm (MQ fs (show 0<5 by decide)))) (dp (IA rfl rfl) (de Z6 (wi (λc2=>?_) λc2=>?_))))
 ·have h4:4<=(FL fs 0).length:=Dr.1 (show((4:Nat):Int)<=((FL fs 0).length:Int) from c2);refine ws λ_ Z7=>wr (da (de Z7 (ws λ_ Z8=>ws λ_ Z9=>wr ?_)));refine dp (Ko (m:=5) (e:=3) (k:=1) EA rfl rfl EN) (dl rfl (O.at (Mm (MQ fs (show 0<5 by decide)))) (dm (de Z9 (EM ?_))));refine Fq (G:=Nat×Value) (λ(k,vl)=>[(1,EE b1 0),(2,.slice none 0 0),(3,.bool false),(4,EE b2 0),(5,.map (some ha)),(6,vl),(24,I ↑(FL fs 0).length),(25,I ↑k)]) (λ(k,vl) w'=>ED w w'/\EK w' b1 [I n,vf] 56/\Vc.Xbq Tryz.prog 181 Gz Fi.v w' ha fs.length F/\EK w' b2 (Ga (Hv fs)) 176/\k<=(FL fs 0).length/\Vc.Own Fi.cs 5 62 w.heap.size w' vl ((FL fs 0).take k)) (λ(k,vl)=>(FL fs 0).length-k) (0,.slice none 0 0) ?_ ?_ ?_
  ·exact KV
  ·exact⟨z,J,r,O,Ae _,Vc.Own.nil⟩
  intro X6 g6 w6 xx;obtain⟨k,vl⟩:=g6;clear z J r O;obtain⟨z,J,r,O,hk1,Y⟩:=xx;refine ws λ_ yb=>wr (dp (Fb rfl rfl) (de yb (ws λ_ xv=>wi (λc3=>?_) λc3=>?_)))
  ·obtain⟨f,hk⟩:∃f,(FL fs 0)[k]?=some f:=Fw;refine EI (xv _ _ (ws λ_ ya=>EM (ws λ_ xy=>wr (dm (da (de xy (wr (dm (dm (dm ?_))))))))));refine EW (v:=Gz (0,↑k)) rfl (Ph (zs:=[I 0,I 0]) (m:=2) (e:=3) (k:=1) (pv:=[(0,I 0),(1,I ↑k)]) (cs:=[I 0,I ↑k]) EA EA Gc rfl) rfl (dq (LV.to (v':=f.v) (L5 O1 (kx:=(0,↑k)) (z0:=Fi.zero) rfl rfl EA r ⟨by unfold EU;omega,by unfold EU;have:=Z 0;omega⟩) (congrArg (λo:Option Fi=>Fi.v (o.getD Fi.zero)) ((h7 0 k).trans hk))) (li (e:=62) (sz:=5) (zs:=[.int .i64 0,.int .i64 0,.int .i64 0,S [],S []]) (pv:=[(0,.agg ⟨[_,_,_,_,_]⟩)]) (cs:=[_,_,_,_,_]) RX.all (λb3 w7 e3 x7 m3=>?_)));have g3:=z.ge e3;have n3_1:=J.ltb e3;have n3_2:=O.ltb e3;have n3_mp9:=r.lt;have o3_hoL:=Y.ltb e3;have J:=J.ext x7;have r:=r.ext x7;have O:=O.ext x7;have Y:=Y.ext x7;have z:=z.trans x7;refine Hy (lx:=[f]) (e:=62) (sz:=5) (by':=56) rfl EA EA EF Y (m3.arr (enc:=Fi.cs) (sz:=5) (l:=[f]) rfl EF rfl (Av rfl)) rfl rfl (by intro x _ u hu;simp at hu;rcases hu with rfl|rfl|rfl|rfl|rfl<;>rfl) (by have:=Z 0;simp;omega) EN z.size (.inl rfl) (λvp w8 hy x8=>?_);have J:=J.mod x8 (by intro h;exact Y.ne_blk J rfl h);have r:=r.mod x8 (r.ne_own Y);have O:=O.mod x8 (by intro h;exact Y.ne_blk O rfl h);have z:=z.own x8 (λi hi=>(Y.lt i hi).1);have Y:=hy;clear m3;refine da (de ya (wr ?_));refine pa rfl rfl (dm (EH (?_)));exact⟨(k+1,vp),KV,⟨z,J,r,O,by omega,by rw[G1 hk];exact Y⟩,by simp only [];omega⟩
  rw[Ay EB]at Y;refine Fk (Z8 _ _ (ws λ_ xh=>wr (dq (Fe (k:=2) EA rfl rfl J.row) (dm ?_))));refine cD (Uj n fs vf 0 (FL fs 0) vl w.heap.size _ (hv.ext z) hl Y (λe=>by rw[e]at h4;simp at h4) (by have:=Z 0;omega) z.size xc EN) (.inl rfl) λvr w9 x9 h6=>?_;have hsz9:=z.size;have J:=J.mod x9 (λe=>Y.ne_blk J rfl e);have r:=r.mod x9 (r.ne_own Y);have O:=O.mod x9 (λe=>Y.ne_blk O rfl e);have z:=z.own x9 (λi hi=>(Y.lt i hi).1);refine da (da (de xh (EJ ?_)));refine rt ?_;exact⟨_,rfl,z,vr,by rw[VF h4];rfl,by rw[VF h4];exact h6⟩
 have h0:¬ 4<=(FL fs 0).length:=λh9=>c2 (show((4:Nat):Int)<=((FL fs 0).length:Int) from Dr.2 h9);refine EI (Z5 _ _ (ws λ_ xe=>ws λ_ xz=>wr (da (de xz (EM ?_)))));refine Fq (G:=Nat) (λlv=>[(1,EE b1 0),(4,EE b2 0),(5,.map (some ha)),(8,I ↑lv)]) (λlv w'=>ED w w'/\EK w' b1 [I n,vf] 56/\Vc.Xbq Tryz.prog 181 Gz Fi.v w' ha fs.length F/\EK w' b2 (Ga (Hv fs)) 176/\1<=lv/\lv<=4/\∀i:Nat,1<=i->i<lv->(FL fs ↑i).length<=4 ^ i) (λlv=>4-lv) 1 ?_ ?_ ?_
 ·exact Gc
 ·exact⟨z,J,r,O,Ab _,by decide,λi h1 h2=>by omega⟩
 intro X10 xk w10 hg;revert hg;revert xk;intro lv hg;clear z J r O;obtain⟨z,J,r,O,hc,hlv4,hA⟩:=hg;refine ws λ_ yh=>ws λ_ xl=>wr (dm ?_);refine dp (Fb rfl rfl) (de xl (wi (λc4=>?_) λc4=>?_))
 ·refine EI (yh _ _ (ws λ_ xq=>EM (ws λ_ yd=>ws λ_ yf=>F9 (R:=ED) ED.refl (λ_ _ _=>ED.trans) EA [2] [(0,.p,false),(1,.p,false),(2,.l,false),(3,.p,false),(4,.p,false),(5,.p,false),(6,.p,false)] rfl EA EA (λw11 hw=>?_))));have ht:=EL hw;clear hw;have J:=J.ext ht;have r:=r.ext ht;have O:=O.ext ht;have z:=z.trans ht;refine dm ?_;refine dp (Ko (m:=5) (e:=3) (k:=1) EA rfl rfl EB) (dL rfl (λ_ hR=>((O.ext hR).at (Mm (MQ fs (show lv<5 by omega))))) (dm ?_));refine dp (Ku rfl rfl (by unfold EU;omega)) (EW (v:=I ↑(4 ^ lv)) rfl (Og rfl rfl EB) (Yav hc EB) (dp (IG rfl rfl) (de yf (wi (λc5=>?_) λc5=>?_))))
  ·refine Fk (xq _ _ (wr (dm ?_)));refine pa rfl rfl (da (EH (?_)));refine⟨lv+1,Gc,⟨z,J,r,O,by omega,by omega,λi h1 h2=>?_⟩,by omega⟩
   by_cases e9:i=lv
   ·subst e9;exact Dr.1 c5
   ·exact hA i h1 EB
  have hgt:4 ^ lv<(FL fs ↑lv).length:=Nat.lt_of_not_le (λh9=>c5 (Dr.2 h9));have hp4:=X67 hc;obtain⟨f0,hk0⟩:∃f,(FL fs ↑lv)[0]?=some f:=Fw;have yj:IB (FL fs ↑lv) 0=f0:=by unfold IB;rw[hk0];rfl
  refine EI (yd _ _ (ws λ_ yc=>wr (dm (dm ?_))));refine EW (v:=Gz (↑lv,((0:Nat):Int))) rfl (Ph (zs:=[I 0,I 0]) (m:=2) (e:=3) (k:=1) (pv:=[(0,I ↑lv),(1,I ((0:Nat):Int))]) (cs:=[I ↑lv,I ((0:Nat):Int)]) EA EA Gc rfl) rfl (dq (LV.to (v':=f0.v) (L5 O1 (kx:=(↑lv,((0:Nat):Int))) (z0:=Fi.zero) rfl rfl EA r ⟨by unfold EU;omega,by unfold EU;omega⟩) (congrArg (λo:Option Fi=>Fi.v (o.getD Fi.zero)) ((h7 ↑lv 0).trans hk0))) (FP (cs:=[.int .i64 0,.int .i64 0,.int .i64 0,S [],S []]) rfl EA RX.all (λb4 w12 e4 hp m4=>?_)));have g4:=z.ge e4;have n4_1:=J.ltb e4;have n4_2:=O.ltb e4;have n4_mp9:=r.lt;have J:=J.ext hp;have r:=r.ext hp;have O:=O.ext hp;have z:=z.trans hp;refine FY m4 (λw13 hj xs13 m4=>?_);dsimp only [EY,Af,Ad,Ag]at m4;have J:=J.mo hj;have r:=r.mod hj (by intro h;have h2:_=b4:=h;omega);have O:=O.mo hj;have z:=z.o1 hj;refine de yc (ws λ_ yg=>ws λ_ xg=>wr (dm ?_));refine dp (Ko (m:=5) (e:=3) (k:=1) EA rfl rfl EB) (dl rfl (O.at (Mm (MQ fs (show lv<5 by omega)))) (dm (de xg (EM ?_))));refine Fq (G:=Nat×Fi) (λ(i,o)=>[(1,EE b1 0),(4,EE b2 0),(5,.map (some ha)),(8,I ↑lv),(9,EE b4 0),(56,I ↑(FL fs ↑lv).length),(57,I ↑i)]) (λ(i,o) w'=>ED w w'/\EK w' b1 [I n,vf] 56/\Vc.Xbq Tryz.prog 181 Gz Fi.v w' ha fs.length F/\EK w' b2 (Ga (Hv fs)) 176/\i<=(FL fs ↑lv).length/\o=I0 ((FL fs ↑lv).take i) f0/\EK w' b4 o.cs 62) (λ(i,o)=>(FL fs ↑lv).length-i) (0,f0) ?_ ?_ ?_
  ·exact Gb
  ·exact⟨z,J,r,O,Ae _,rfl,m4⟩
  intro X14 x6 w14 h8;obtain⟨i,o⟩:=x6;clear z J r O m4;obtain⟨z,J,r,O,hi1,hq,m4⟩:=h8;refine ws λ_ x0=>wr (dp (Fb rfl rfl) (de x0 (ws λ_ xu=>wi (λc6=>?_) λc6=>?_)))
  ·obtain⟨f,hk⟩:∃f,(FL fs ↑lv)[i]?=some f:=Fw;have hk9:=Z ↑lv;refine EI (xu _ _ (ws λ_ xb=>EM (ws λ_ xo=>wr (dm (da (de xo (ws λ_ xi=>wr (dm (dm (dm ?_))))))))));refine EW (v:=Gz (↑lv,↑i)) rfl (Ph (zs:=[I 0,I 0]) (m:=2) (e:=3) (k:=1) (pv:=[(0,I ↑lv),(1,I ↑i)]) (cs:=[I ↑lv,I ↑i]) EA EA Gc rfl) rfl (dq (LV.to (v':=f.v) (L5 O1 (kx:=(↑lv,↑i)) (z0:=Fi.zero) rfl rfl EA r ⟨by unfold EU;omega,by unfold EU;have:=Z ↑lv;omega⟩) (congrArg (λo:Option Fi=>Fi.v (o.getD Fi.zero)) ((h7 ↑lv i).trans hk))) (FP (cs:=[.int .i64 0,.int .i64 0,.int .i64 0,S [],S []]) rfl EA RX.all (λb5 w15 e5 hh m5=>?_)));have g5:=z.ge e5;have n5_1:=J.ltb e5;have n5_2:=O.ltb e5;have n5_4:=m4.ltb e5;have n5_mp9:=r.lt;have J:=J.ext hh;have r:=r.ext hh;have O:=O.ext hh;have m4:=m4.ext hh;have z:=z.trans hh;refine FY m5 (λw16 hb xs16 m5=>?_);dsimp only [EY,Af,Ad,Ag]at m5;have J:=J.mo hb;have r:=r.mod hb (by intro h;have h2:_=b5:=h;omega);have O:=O.mo hb;have m4:=m4.mo hb;have z:=z.o1 hb;refine de xi (ws λ_ xr=>wr (df 0 rfl (dl rfl (m5.at rfl) (df 0 rfl (dl rfl (m4.at rfl) (dp (Fb rfl rfl) (de xr (wi (λc7=>?_) λc7=>?_))))))))
   ·refine wr (dq (Fe (k:=5) EA rfl rfl m5.row) (FY m4 (λw17 hr xs17 m4=>?_)));dsimp only [EY,Af,Ad,Ag]at m4;have J:=J.mo hr;have r:=r.mod hr (by intro h;have h2:_=b4:=h;omega);have O:=O.mo hr;have z:=z.o1 hr;refine de xb (wr (pa rfl rfl (dm (EH (?_)))));exact⟨(i+1,f),Gb,⟨z,J,r,O,by omega,by rw[Ww hk,<-hq,if_pos EB],m4⟩,by simp only [];omega⟩
   refine EI (xb _ _ (wr (pa rfl rfl (dm (EH (?_))))));exact⟨(i+1,o),Gb,⟨z,J,r,O,by omega,by rw[Ww hk,<-hq,if_neg EB],m4⟩,by simp only [];omega⟩
  refine Fk (yg _ _ (ws λ_ xp=>wr (dq (Fe (k:=2) EA rfl rfl J.row) (dm ?_))));refine dq (Fe (k:=5) EA rfl rfl m4.row) (li (e:=62) (sz:=5) (zs:=[.int .i64 0,.int .i64 0,.int .i64 0,S [],S []]) (pv:=[(0,.agg ⟨[_,_,_,_,_]⟩)]) (cs:=[_,_,_,_,_]) RX.all (λb6 w18 e6 xd m6=>?_));have g6:=z.ge e6;have z:=z.trans xd;have Y:=m6.own (enc:=Fi.cs) (B:=w.heap.size) (l:=[o]) (sz:=5) (m:=1) g6 rfl EF rfl (Av rfl);refine cD (Uj n fs vf ↑lv [o] (.slice (some ⟨b6,0,none⟩) 1 1) w.heap.size _ (hv.ext z) hl Y ER ER z.size xc EB) (.inl rfl) λvr w19 xm h6=>?_;have hsz19:=z.size;have z:=z.own xm (λi hi=>(Y.lt i hi).1);refine da (da (de xp (EJ ?_)));refine rt ?_;rw[Ay EB]at hq;have e9:GO (FL fs ↑lv)=o:=by unfold GO;rw[yj,<-hq]
  have e8:=X65 h0 hc EB hA hgt;rw[e9]at e8;exact⟨_,rfl,z,vr,by rw[e8];rfl,by rw[e8];exact h6⟩
 refine Fk (xe _ _ (ws λ_ xf=>wr (da (da (de xf (EJ ?_))))));refine rt ?_;have e8:=X66 h0 (λi h1 h2=>hA i h1 EB);exact⟨_,rfl,z,_,by rw[e8];rfl,by rw[e8];exact Vc.Own.nil⟩
theorem UU (a b:EC):Fg a (I3 a b)=false/\Fg b (I3 a b)=false:=by
 unfold I3;split
 ·rename_i h;exact⟨K9 h,I1 _⟩
 ·rename_i h;exact⟨I1 _,by simpa using h⟩
theorem VW (a b:EC):Fg (Iw a b) a=false/\Fg (Iw a b) b=false:=by
 unfold Iw;split
 ·rename_i h;exact⟨K9 h,I1 _⟩
 ·rename_i h;exact⟨I1 _,by simpa using h⟩
theorem S5 : ∀(l:List Fi) (a:EC),Fg a (H1 l a)=false/\∀f∈l,Fg f.fst (H1 l a)=false
 | [],a=>⟨I1 _,λf z=>by cases z⟩
 | x :: r,a=>by
  obtain⟨h1,h2⟩:=S5 r (I3 a x.fst);have e:H1 (x :: r) a=H1 r (I3 a x.fst):=rfl;rw[e];refine⟨Oh h1 (UU a x.fst).1,λf z=>?_⟩;rcases Aj.1 z with rfl|z
  ·exact Oh h1 (UU a f.fst).2
  ·exact h2 f z
theorem XS : ∀(l:List Fi) (a:EC),Fg (H0 l a) a=false/\∀f∈l,Fg (H0 l a) f.lst=false
 | [],a=>⟨I1 _,λf z=>by cases z⟩
 | x :: r,a=>by
  obtain⟨h1,h2⟩:=XS r (Iw a x.lst);have e:H0 (x :: r) a=H0 r (Iw a x.lst):=rfl;rw[e];refine⟨Oh (VW a x.lst).1 h1,λf z=>?_⟩;rcases Aj.1 z with rfl|z
  ·exact Oh (VW a f.lst).2 h1
  ·exact h2 f z
theorem XC {p q:Fi->Bool}(h:∀f,¬ (p f=true/\q f=true)):∀l:List Fi,(l.filter p).length+(l.filter q).length<=l.length
 | []=>Ab _
 | a :: r=>by
  have ih:=XC h r;have ha:=h a;rw[BC,BC]
  cases hp:p a<;>cases hq:q a<;>simp_all<;>omega
theorem Wa {V:Vs}(hV:GK V=true){lev:Int}{l:List Fi}(hl:l≠[])(hs:∀f∈l,f∈V.fs/\f.lev=lev)(h0:0<=lev/\lev<=3)(hnd:(l.map (·.id)).Nodup)(hlen:l.length<=(FL V.fs lev).length)(hsrc:lev=0->∀f∈V.fs,f.lev=0->f∈l):PickP V (Kt V.fs l lev) (lev+1):=by
 have J:∀f,f∈HS V.fs (lev+1) (H1 l (IB l 0).fst) (H0 l (IB l 0).lst)->f∈V.fs/\f.lev=lev+1:=λf z=>by
  obtain⟨h1,h2⟩:=A3.1 z;unfold Jo at h2;simp only [Au,decide_eq_true_eq]at h2;exact⟨h1,h2.1.1⟩
 have O:=(Ij hV).2.2.2.2.1;refine⟨?_,λf z=>?_,⟨by omega,by omega⟩,λe f z hc=>BD _ (hsrc EB f z hc),λf z hfl g Y Z h1 h2=>?_,?_,?_⟩
 ·cases l with
  | nil=>exact absurd rfl hl
  | cons a r=>exact⟨a,rfl,by rw[(hs a Al).2]⟩
 ·rcases Aw.1 z with z|z
  ·exact⟨(hs f z).1,.inl (by have:=(hs f z).2;omega)⟩
  ·exact⟨(J f z).1,.inr (J f z).2⟩
 ·rcases Aw.1 z with z|z
  ·refine Bw _ (A3.2 ⟨Y,?_⟩);unfold Jo;have a1:Fg g.lst (H1 l (IB l 0).fst)=false:=by
    cases e:Fg g.lst (H1 l (IB l 0).fst)with
    | false=>rfl
    | true=>rw[Xr e ((S5 l _).2 f z)]at h1;cases h1
   have a2:Fg (H0 l (IB l 0).lst) g.fst=false:=by
    cases e:Fg (H0 l (IB l 0).lst) g.fst with
    | false=>rfl
    | true=>rw[O0 ((XS l _).2 f z) e]at h2;cases h2
   rw[decide_eq_true Z,a1,a2];rfl
  ·have:=(J f z).2;omega
 ·have h1:(HS V.fs (lev+1) (H1 l (IB l 0).fst) (H0 l (IB l 0).lst)).length<=(FL V.fs (lev+1)).length:=by
   have e:HS V.fs (lev+1) (H1 l (IB l 0).fst) (H0 l (IB l 0).lst)=(FL V.fs (lev+1)).filter (Jo (lev+1) (H1 l (IB l 0).fst) (H0 l (IB l 0).lst)):=by
    unfold HS FL;rw[Ex]
    congr 1
    funext f
    unfold Jo
    by_cases e9:f.lev=lev+1<;>simp [e9]
   rw[e];exact BI _ _
  have h2:(FL V.fs lev).length+(FL V.fs (lev+1)).length<=V.fs.length:=XC (λf h=>by simp only [decide_eq_true_eq]at h;omega) V.fs;unfold Kt;rw[Aa];omega
 ·unfold Kt;rw[AH];refine BG.2 ⟨hnd,List.Nodup.sublist (C3 _ Ca) O,λa ha b hb e=>?_⟩;obtain⟨f,z,rfl⟩:=Aq.1 ha;obtain⟨g,Y,rfl⟩:=Aq.1 hb;have e2:f=g:=L9 O (hs f z).1 (J g Y).1 e;have e3:=(hs f z).2;have e4:=(J g Y).2;rw[e2]at e3;omega
theorem Uz : ∀(l:List Fi) (o:Fi),I0 l o=o\/I0 l o∈l
 | [],o=>.inl rfl
 | x :: r,o=>by
  have e:I0 (x :: r) o=I0 r (if x.id<o.id then x else o):=rfl;rw[e];rcases Uz r (if x.id<o.id then x else o)with h|h
  ·rw[h];split
   ·exact .inr Al
   ·exact .inl rfl
  ·exact .inr (Am _ h)
theorem Xtl {l:List Fi}(h:l≠[]):GO l∈l:=by
 unfold GO;rcases Uz l (IB l 0)with e|e
 ·rw[e]
  cases l with
  | nil=>exact absurd rfl h
  | cons a r=>exact Al
 ·exact e
theorem QI {fs:List Fi}{i:Int}{f:Fi} : f∈FL fs i↔f∈fs/\f.lev=i:=by unfold FL;rw[A3,decide_eq_true_eq]
theorem Yaw {V:Vs}{p:List Fi}(hV:GK V=true)(h:IN V.fs=some p):∃lv:Nat,PickP V p ↑lv:=by
 have r:=(Ij hV).2.2.2.2.1;have one:∀lv:Nat,1<=lv->lv<=3->0<(FL V.fs ↑lv).length->PickP V (Kt V.fs [GO (FL V.fs ↑lv)] ↑lv) (↑lv+1):=λlv h1 h3 J=>by
  have hm:=Xtl (List.ne_nil_of_length_pos J);exact Wa hV ER (λf z=>by rw[Ah.1 z];exact QI.1 hm) ⟨by omega,by omega⟩ ER J (λe=>by omega)
 unfold IN at h;split at h
 ·rename_i h4;obtain rfl:=A0.inj h;exact⟨1,Wa hV (λe=>by rw[e]at h4;simp at h4) (λf z=>QI.1 z) ⟨by decide,by decide⟩ (List.Nodup.sublist (C3 _ Ca) r) (Ab _) (λ_ f z e=>QI.2 ⟨z,e⟩)⟩
 split at h
 ·rename_i h4;obtain rfl:=A0.inj h;exact⟨2,one 1 EN EN (DP (Ae _) h4)⟩
 split at h
 ·rename_i h4;obtain rfl:=A0.inj h;exact⟨3,one 2 EN EN (DP (Ae _) h4)⟩
 split at h
 ·rename_i h4;obtain rfl:=A0.inj h;exact⟨4,one 3 EN EN (DP (Ae _) h4)⟩
 ·cases h
theorem X05 (fs:List Fi):(IN fs).isSome=true↔4<=(FL fs 0).length\/4<(FL fs 1).length\/16<(FL fs 2).length\/64<(FL fs 3).length:=by
 unfold IN
 repeat' split
 all_goals simp<;>omega
theorem Xx6 {fs gs add:List Fi}(hp:gs.Perm (fs++add))(h:(IN fs).isSome=true):(IN gs).isSome=true:=by
 have r:∀i,(FL fs i).length<=(FL gs i).length:=λi=>by
  have h1:(FL gs i).Perm (FL (fs++add) i):=hp.filter _;rw[h1.length_eq];unfold FL;rw[BL,Aa];omega
 rw[X05]at h ⊢;have:=r 0;have:=r 1;have:=r 2;have:=r 3;omega
def Fu (g:Cell->Nat)(l:List Cell):Nat:=(l.map g).sum
theorem KD (g:Cell->Nat)(l m:List Cell):Fu g (l++m)=Fu g l+Fu g m:=by unfold Fu;rw[AH,Cd]
theorem Xx7 {g:Cell->Nat}{l m:List Cell}(h:l.Perm m):Fu g l=Fu g m:=(h.map g).sum_nat
theorem Uc {g:Cell->Nat}{l m:List Cell}(h:l.Sublist m):Fu g l<=Fu g m:=by
 induction h with
 | slnil=>exact Ab _
 | cons a h ih=>unfold Fu at *;simp only [An,AX];omega
 | cons_cons a h ih=>unfold Fu at *;simp only [An,AX];omega
theorem Sk : ∀(r:List Cell) (p:Cell),(Je JI p r).Sublist r
 | [],_=>DQ
 | x :: r,p=>by
  unfold Je;split
  ·exact(Sk r x).cons x
  ·exact(Sk r x).cons_cons x
theorem QP {g:Cell->Nat}{l m:List Cell}(h:Mg l m):Fu g m<=Fu g l:=by
 obtain⟨l',z,_,rfl⟩:=h;rw[<-Xx7 z];refine Uc ?_
 cases l' with
 | nil=>exact DQ
 | cons a r=>exact(Sk r a).cons_cons a
theorem QN {g:Cell->Nat}(ts:List Tb):Fu g (ts.flatMap (·.cs))=(ts.map λt=>Fu g t.cs).sum:=by
 induction ts with
 | nil=>rfl
 | cons t r ih=>rw[AB,KD,ih];rfl
theorem SL {α:Type}(g:α->Nat):∀l1 l2:List α,l1.Nodup->(∀x∈l1,x∈l2)->(l1.map g).sum<=(l2.map g).sum
 | [],l2,_,_=>Ae _
 | a :: r,l2,hn,hs=>by
  obtain⟨X,Y,rfl⟩:=List.append_of_mem (hs a Al);rw[AV]at hn;have ih:=SL g r (X++Y) hn.2 (λx z=>by
   rcases Aw.1 (hs x (Am _ z))with h|h
   ·exact BD _ h
   ·rcases Aj.1 h with rfl|h
    ·exact absurd z hn.1
    ·exact Bw _ h)
  simp only [An,AH,AX,Cd]at *;omega
theorem SY {α:Type}(g:α->Nat)(p:α->Bool):∀l:List α,((l.filter p).map g).sum+((l.filter λx=>!p x).map g).sum=(l.map g).sum
 | []=>rfl
 | a :: r=>by
  have ih:=SY g p r;simp only [BC,An,AX]
  cases p a<;>simp<;>omega
def NR (ts:List Tb)(p:List Fi):List Tb:=p.filterMap λf=>H5 ts (f.lev,f.id)
theorem UL (ts:List Tb):∀p:List Fi,I6 ts p=(NR ts p).flatMap (·.cs)
 | []=>rfl
 | f :: r=>by
  have z:=UL ts r;unfold I6 NR at *;rw[AB,Ey,z]
  cases H5 ts (f.lev,f.id)<;>rfl
theorem Wz (ts:List Tb):∀p:List Fi,((NR ts p).map λt=>t.h.2).Sublist (p.map (·.id))
 | []=>DQ
 | f :: r=>by
  have z:=Wz ts r;unfold NR at *;rw[Ey,An]
  cases e:H5 ts (f.lev,f.id)with
  | none=>exact z.cons _
  | some t=>
   have h2:t.h=(f.lev,f.id):=by unfold H5 at e;simpa using CP e
   simp only [An];rw[h2];exact z.cons_cons _
theorem S6 {α β:Type}{f:α->β} : ∀ {l:List α},(l.map f).Nodup->l.Nodup
 | [],_=>BV
 | a :: r,h=>by
  rw[An,AV]at h;exact AV.2 ⟨λz=>h.1 (Bx z),S6 h.2⟩
section
variable {n lv:Int}{V V':Vs}{ts ts':List Tb}{mem m:List Cell}{p:List Fi}{M:List Rw}{g:Cell->Nat}
theorem Xqb (hn:(p.map (·.id)).Nodup):Fu g (I6 ts p)<=((ts.filter λt=>!kp p t).map λt=>Fu g t.cs).sum:=by
 rw[UL,QN];refine SL _ _ _ (S6 (List.Nodup.sublist (Wz ts p) hn)) λt r=>?_;unfold NR at r;obtain⟨f,z,e⟩:=List.mem_filterMap.1 r;have h2:t.h=(f.lev,f.id):=by unfold H5 at e;simpa using CP e
 refine A3.2 ⟨ON e,?_⟩
 cases hk:kp p t with
 | false=>rfl
 | true=>exact absurd h2 (L8.1 hk f z)
theorem Xtm (hm:Mg mem m)(h:∃tbs:List Tb,ts'=ts++tbs/\tbs.flatMap (·.cs)=m):Fu g (FF [] ts')<=Fu g (FF mem ts):=by
 obtain⟨tbs,rfl,h⟩:=h;have:=QP (g:=g) hm;unfold FF;rw[AU,AE,KD,KD,h];omega
theorem Xtn (hm:Mg (I6 ts p) m)(hn:(p.map (·.id)).Nodup)(h:∃tbs:List Tb,ts'=ts.filter (kp p)++tbs/\tbs.flatMap (·.cs)=m.filter (HL V.fs lv)):Fu g (FF [] ts')<=Fu g (FF [] ts):=by
 obtain⟨tbs,rfl,h⟩:=h;have h1:=QP (g:=g) hm;have h2:Fu g (m.filter (HL V.fs lv))<=Fu g m:=Uc Ca;have h3:=Xqb (g:=g) (ts:=ts) hn;have h4:=SY (λt:Tb=>Fu g t.cs) (kp p) ts;unfold FF;rw[AU,AE,AE,KD,h,QN,QN];omega
end
theorem X68 {m:List Cell}{c:Cell}(hc:Gl c=true)(hs:∀d∈m,d.key=c.key->d.seq<c.seq)(x:Cell):x∈(put m c).2↔x=c\/x∈m:=by
 have z:=MK m c;have J:has m c=false:=by
  unfold has
  cases e:HF m c with
  | nil=>rfl
  | cons d r=>
   have hd:d∈m:=by rw[<-z,e];simp
   cases h2:(decide (d.key=c.key) && decide (d.seq=c.seq))with
   | false=>exact h2
   | true=>
    simp only [Au,decide_eq_true_eq]at h2;have:=hs d hd h2.1;omega
 unfold put;rw[hc,J];show x∈pre m c++c :: HF m c↔_;rw[Aw,Aj];have:x∈m↔x∈pre m c\/x∈HF m c:=by rw[<-Aw,z]
 rw[this]
 constructor
 ·rintro (h|h|h)
  ·exact .inr (.inl h)
  ·exact .inl h
  ·exact .inr (.inr h)
 ·rintro (h|h|h)
  ·exact .inr (.inl h)
  ·exact .inl h
  ·exact .inr (.inr h)
theorem Vr : ∀(cs m:List Cell),IQ cs->(∀c∈cs,Gl c=true)->(∀d∈m,∀c∈cs,d.key=c.key->d.seq<c.seq)->Fx m->Fx (Iu m cs)/\∀x,x∈Iu m cs↔x∈cs\/x∈m
 | [],m,_,_,_,hm=>⟨hm,λx=>by show x∈m↔_;simp⟩
 | c :: r,m,hk,hc,hs,hm=>by
  rw[IQ,AQ]at hk;have h1:=X68 (hc c Al) (λd hd=>hs d hd c Al);obtain⟨O,J⟩:=Vr r (put m c).2 hk.2 (λx z=>hc x (Am _ z)) (λd hd x z he=>by
   rcases(h1 d).1 hd with rfl|hd
   ·have:=hk.1 x z;rw[he,I1]at this;cases this
   ·exact hs d hd x (Am _ z) he) (Fx.put hm c)
  refine⟨O,λx=>?_⟩;show x∈Iu (put m c).2 r↔_;rw[J,h1,Aj]
  constructor
  ·rintro (h|h|h)
   ·exact .inl (.inr h)
   ·exact .inl (.inl h)
   ·exact .inr h
  ·rintro ((h|h)|h)
   ·exact .inr (.inl h)
   ·exact .inl h
   ·exact .inr (.inr h)
def J8 (s:Int)(c:Cell):Cell:=⟨c.key,c.val,c.del,s⟩
theorem X06 (s:Int)(out:List Cell)(c:Cell):HD (out.map (J8 s)) (J8 s c)=(HD out c).map (J8 s):=by
 unfold HD;rw[List.any_map,show((λx:Cell=>decide (x.key=(J8 s c).key)) ∘ J8 s)=λx=>decide (x.key=c.key) from rfl];split
 ·rfl
 ·rw[List.takeWhile_map,List.dropWhile_map,AH,An];rfl
theorem Ti (s:Int)(l:List Rw):G0 l s=(G0 l 1).map (J8 s):=by
 unfold G0
 induction l with
 | nil=>rfl
 | cons r l ih=>rw[Ez,Ez,ih,<-X06];rfl
theorem WG (s:Int):∀(l:List Cell) (M:List Rw),(l.map (J8 s)).foldl HE M=l.foldl HE M
 | [],_=>rfl
 | c :: r,M=>by rw[An,B9,B9,WG s r];rfl
def M7 (M:List Rw)(l:List Rw):List Rw:=(G0 l 1).foldl HE M
theorem X69 {c:Rw}{s:Int}(h:Gl (c.cell 1)=true)(h1:1<=s)(h2:s<=1099511627776):Gl (c.cell s)=true:=by
 unfold Gl Rw.cell at *;simp only [Au,decide_eq_true_eq]at *;exact⟨⟨h.1.1,h1⟩,h2⟩
section
variable {n:Int}{V:Vs}{ts:List Tb}{mem:List Cell}{M:List Rw}{g:Cell->Nat}
theorem Sto.write (h:Sto n V ts mem)(hT:Sp.Told (FF mem ts) M){l:List Rw}(hc:H8 l=0)(hn:0<=n/\n<1099511627776):Sto (n+1) V ts (Iu mem (G0 l (n+1)))/\Sp.Told (FF (Iu mem (G0 l (n+1))) ts) (M7 M l):=by
 obtain⟨_,_,_,h4⟩:=Mj hc;have O:∀c∈G0 l (n+1),Gl c=true/\c.seq=n+1:=λc z=>by
  obtain⟨r,hr,rfl⟩:=Rl z;exact⟨X69 (h4 r hr) EB EB,rfl⟩
 have J:∀d∈FF mem ts,∀c∈G0 l (n+1),d.key=c.key->d.seq<c.seq:=λd hd c z _=>by
  have:=(h.okc d hd).2;have:=(O c z).2;omega
 obtain⟨p1,Y⟩:=Vr (G0 l (n+1)) mem (R6 l _) (λc z=>(O c z).1) (λd hd=>J d (Hc.2 (.inl hd))) h.ms;refine⟨⟨h.isv,h.fwd,h.bwd,h.nod,h.up,λc z=>?_,p1,λc z t Z d hd hk=>?_,h.n2⟩,?_⟩
 ·rcases Hc.1 z with z|z
  ·rcases(Y c).1 z with z|z
   ·have:=O c z;exact⟨this.1,by omega⟩
   ·have:=h.okc c (Hc.2 (.inl z));exact⟨this.1,by omega⟩
  ·have:=h.okc c (Hc.2 (.inr z));exact⟨this.1,by omega⟩
 ·rcases(Y c).1 z with z|z
  ·exact J d (Hc.2 (.inr ⟨t,Z,hd⟩)) c z hk
  ·exact h.n1 c z t Z d hd hk
 ·have:=WL (G0 l (n+1)) hT (R6 l _) J;rw[Ti (n+1) l,WG,<-Ti (n+1) l]at this;refine Ug this λx=>?_;rw[Aw,Hc,Hc,Y]
  constructor
  ·rintro (h|h|h)
   ·exact .inl (.inl h)
   ·exact .inl (.inr h)
   ·exact .inr h
  ·rintro ((h|h)|h)
   ·exact .inl h
   ·exact .inr (.inl h)
   ·exact .inr (.inr h)
theorem X07 (m:List Cell)(c:Cell):Fu g (put m c).2<=Fu g m+g c:=by
 unfold put;split
 ·exact Nat.le_add_right _ _
 ·have:=congrArg (Fu g) (MK m c);rw[KD]at this;show Fu g (pre m c++c :: HF m c)<=_;rw[KD,show Fu g (c :: HF m c)=g c+Fu g (HF m c) by unfold Fu;simp];omega
theorem QZ : ∀(cs m:List Cell),Fu g (Iu m cs)<=Fu g m+Fu g cs
 | [],m=>Ab _
 | c :: r,m=>by
  have h1:=QZ r (put m c).2;have h2:=X07 (g:=g) m c;show Fu g (Iu (put m c).2 r)<=_;rw[show Fu g (c :: r)=g c+Fu g r by unfold Fu;simp];omega
end
structure QsE (B:Nat)(qs:List (Value×List Cell))(w:World):Prop where
 row:∀q∈qs,Vc.Own Cell.cs 4 79 B w q.1 q.2
section
variable {B B':Nat}{qs:List (Value×List Cell)}{w w':World}{S:Nat->Prop}
theorem QsE.ext (h:QsE B qs w)(x:ED w w'):QsE B qs w':=⟨λq r=>(h.row q r).ext x⟩
theorem QsE.mod (h:QsE B qs w)(m:Vc.Mod S w w')(hS:∀q∈qs,∀k,q.1.ownBlock=some k->¬ S k):QsE B qs w':=⟨λq r=>(h.row q r).mod m (hS q r)⟩
theorem QsE.ne {α:Type}{enc:α->List Value}{sz T:Nat}{v:Value}{l:List α}(h:QsE B qs w)(ho:Vc.Own enc sz T B' w v l)(hT:Nat.beq 79 T=false):∀q∈qs,∀k,q.1.ownBlock=some k->¬ v.ownBlock=some k:=λq r k hk=>(h.row q r).ne ho hT hk
theorem QsE.snoc {v:Value}{l:List Cell}(h:QsE B qs w)(ho:Vc.Own Cell.cs 4 79 B w v l):QsE B (qs++[(v,l)]) w:=⟨λq r=>(Aw.1 r).elim (h.row q) (λe=>by rw[Ah.1 e];exact ho)⟩
theorem QsE.lt (h:QsE B qs w):∀q∈qs,∀k,q.1.ownBlock=some k->k<w.heap.size:=λq r k hk=>((h.row q r).lt k hk).2
end
theorem X08 {rem:List Tb}{t:Tb}(ht:t∈rem)(hnd:(rem.map (·.h)).Nodup):rem.Perm (t :: rem.filter λq=>decide (q.h≠t.h))/\((rem.filter λq=>decide (q.h≠t.h)).map (·.h)).Nodup/\∀y,(y∈rem.map (·.h)/\y≠t.h)↔y∈(rem.filter λq=>decide (q.h≠t.h)).map (·.h):=by
 refine⟨?_,List.Nodup.sublist (C3 _ Ca) hnd,λy=>?_⟩
 ·induction rem with
  | nil=>cases ht
  | cons a r ih=>
   rw[An,AV]at hnd;rw[BC]
   by_cases e:a.h=t.h
   ·have O:a=t:=by
     rcases Aj.1 ht with e2|h2
     ·exact e2.symm
     ·exact absurd (by rw[e];exact Bx h2) hnd.1
    rw[if_neg (by simp [e])];have:r.filter (λq=>decide (q.h≠t.h))=r:=B5.2 λq z=>by
     have:q.h≠t.h:=λe2=>hnd.1 (by rw[e,<-e2];exact Bx z);simpa using this
    rw[this,O]
   ·rw[if_pos (by simpa using e)];have J:t∈r:=(Aj.1 ht).resolve_left (λe2=>e (by rw[e2]));exact((ih J hnd.2).cons a).trans (List.Perm.swap t a _)
 ·simp only [Aq,A3,decide_eq_true_eq]
  constructor
  ·rintro ⟨⟨q,z,rfl⟩,hn⟩;exact⟨q,⟨z,hn⟩,rfl⟩
  ·rintro ⟨q,⟨z,hn⟩,rfl⟩;exact⟨⟨q,z,rfl⟩,hn⟩
def Ycz (most:Int)(l:List Rw):List Rw:=if most<1 then l else l.take most.toNat
theorem X09 {qs:List (Value×List Cell)}{L:List (List Cell)}(h:qs.map (·.2)=L):qs.flatMap (·.2)=L.flatten:=by rw[<-h,DN]
theorem Xya {fs:List Fi}{lv i:Nat}{c:Cell}(h1:lv<i)(h:0<(HS fs ↑i c.key c.key).length):HL fs ↑lv c=true:=by
 obtain⟨f,J⟩:=List.exists_mem_of_length_pos h;obtain⟨z,r⟩:=A3.1 J;unfold Jo at r;simp only [Au,decide_eq_true_eq]at r;unfold HL;rw[Bool.or_eq_true];refine .inr (List.any_eq_true.2 ⟨f,z,?_⟩);rw[decide_eq_true (show(↑lv:Int)<f.lev by omega),r.1.2,r.2];rfl
theorem X1a {fs:List Fi}{lv:Nat}{c:Cell}(hd:c.del=true)(hlv:∀f∈fs,0<=f.lev/\f.lev<=4)(h:∀i:Nat,lv<i->i<5->¬ 0<(HS fs ↑i c.key c.key).length):HL fs ↑lv c=false:=by
 unfold HL;rw[hd];rw[Bool.not_true,Bool.false_or,Dq];intro f z r;rw[Au,Au,decide_eq_true_eq]at r;have hr:=hlv f z;refine h f.lev.toNat EB EB (List.length_pos_of_mem (a:=f) (A3.2 ⟨z,?_⟩));unfold Jo;rw[decide_eq_true (show f.lev=↑f.lev.toNat by omega),r.2.1,r.2.2];rfl
theorem Xto {fs:List Fi}{lv:Int}{c:Cell}(hd:c.del=false):HL fs lv c=true:=by unfold HL;rw[hd];rfl
theorem X7a (bs bd bl:Nat)(n:Int)(vf:Value)(bo bm:Nat)(dead:Bool)(fs:List Fi)(c:Cell)(lv:Nat)(w:World)(hs:EK w bs (H3 bd bl n vf bo bm dead) 90)(hv:EQ Fi.cs 5 w vf fs)(hl:fs.length<=100000)(hlv:∀f∈fs,0<=f.lev/\f.lev<=4)(hl4:lv<=4) :
  Calls Tryz.prog 53 [EE bs 0,c.v,I ↑lv].toArray w (Pure w (B (HL fs ↑lv c))):=by
 refine cw Tryz.func53 ?_;have r:=ED.refl w;refine ws λ_ Z1=>wr (Gn rfl rfl rfl RX.all (λb1 w1 e1 x1 z=>?_));have g1:=r.ge e1;have r:=r.trans x1;refine da (de Z1 (ws λ_ Z2=>ws λ_ Z3=>wr ?_));refine df 2 rfl (dl rfl (z.at rfl) (dn (de Z3 ?_)));refine wc (λc1=>?_) λc1=>?_
 ·refine ws λ_ Z4=>wr (da (de Z4 (EJ ?_)));refine ro ?_;exact⟨by rw[Xto (by simpa using c1)],r⟩
 refine EI (Z2 _ _ (ws λ_ Z5=>ws λ_ Z6=>wr (dm ?_)));refine pa rfl rfl (da (de Z6 (EM ?_)));refine Fq (G:=Nat) (λi=>[(0,EE bs 0),(4,EE b1 0),(7,I ↑i)]) (λi w'=>ED w w'/\lv<i/\i<=5/\(∀j:Nat,lv<j->j<i->¬ 0<(HS fs ↑j c.key c.key).length)/\EK w' b1 c.cs 79) (λi=>5-i) (lv+1) ?_ ?_ ?_
 ·exact Hd
 ·exact⟨r,by omega,by omega,λj h1 h2=>by omega,z⟩
 intro X2 g2 w2 J;revert J;revert g2;intro i J;clear r z;obtain⟨r,Z,hi2,hA,z⟩:=J;refine ws λ_ Z7=>ws λ_ Z8=>wr (dm ?_);refine dp (IG rfl rfl) (de Z8 (wi (λc2=>?_) λc2=>?_))
 ·refine EI (Z7 _ _ (ws λ_ Z9=>EM (ws λ_ hc=>F9 (R:=ED) ED.refl (λ_ _ _=>ED.trans) EA [3,6,8] [(0,.p,false),(1,.p,false),(2,.p,false),(3,.l,false),(4,.p,false),(5,.p,false),(6,.l,false),(7,.p,false),(8,.l,false),(9,.x,true),(10,.p,false),(11,.p,false)] rfl EA EA (λw3 Y=>?_))));have x3:=EL Y;clear Y;have z:=z.ext x3;have r:=r.trans x3;refine dm ?_;refine dz rfl (df 2 rfl (FW rfl (λw' O=>Fe EA rfl rfl ((hs.ext (r.trans O)).part 2 2)) (dm ?_)));refine df 0 rfl (dL rfl (λ_ O=>((z.ext O).at rfl)) (df 0 rfl (dL rfl (λ_ O=>((z.ext O).at rfl)) (cG (OC n fs vf ↑i c.key c.key _ (hv.ext r) hl) RX.all λvo w4 x4 hO=>?_))));have hsz4:=r.size;have z:=z.ext x4;have r:=r.trans x4;refine dv 62 5 (hO.arr EF).sl (dp (Gg rfl rfl) (de hc (wi (λc3=>?_) λc3=>?_)))
  ·refine ws λ_ hb=>wr (da (de hb (EJ ?_)));refine ro ?_;exact⟨by rw[Xya Z EB],r⟩
  refine EI (Z9 _ _ (wr (dm ?_)));refine pa rfl rfl (da (EH (?_)));refine⟨i+1,Hd,⟨r,by omega,by omega,λj h1 h2=>?_,z⟩,by omega⟩
  by_cases e9:j=i
  ·subst e9;omega
  ·exact hA j h1 EB
 refine Fk (Z5 _ _ (ws λ_ ha=>wr (da (de ha (EJ ?_)))));refine ro ?_;exact⟨by rw[X1a (by simpa using c1) hlv (λj h1 h2=>hA j h1 EB)],r⟩
theorem Yax (bs bd bl:Nat)(n:Int)(vf:Value)(bo bm:Nat)(dead:Bool)(fs:List Fi)(c:Cell)(lv:Nat)(b1 b2:Nat)(w:World)(hs:EK w bs (H3 bd bl n vf bo bm dead) 90)(hv:EQ Fi.cs 5 w vf fs)(hl:fs.length<=100000)(hlv:∀f∈fs,0<=f.lev/\f.lev<=4)(hl4:lv<=4)(hb1:EK w b1 [EE bs 0] 28)(hb2:EK w b2 [I ↑lv] 3) :
  Calls Tryz.prog 52 [c.v,EE b1 0,EE b2 0].toArray w (Pure w (B (!HL fs ↑lv c))):=by
 refine cw Tryz.func52 ?_;have r:=ED.refl w;refine ws λ_ O=>wr (Gn rfl rfl rfl RX.all (λb1 w1 e1 Y J=>?_));have g1:=r.ge e1;have r:=r.trans Y;refine da (de O (ws λ_ z=>wr ?_));refine dl rfl ((hb1.ext r).at rfl) (dq (Fe (k:=4) EA rfl rfl J.row) (dl rfl ((hb2.ext r).at rfl) (cP (X7a bs bd bl n vf bo bm dead fs c lv _ (hs.ext r) (hv.ext r) hl hlv hl4) RX.all λw2 Z=>?_)));have r:=r.trans Z;refine dn (da (de z (EJ ?_)));refine ro ?_;exact⟨rfl,r⟩
theorem Yay (l:List Cell)(v:Value)(Bo f:Nat)(cs:List Value)(p:Cell->Bool)(w:World)(ho:Vc.Own Cell.cs 4 79 Bo w v l)(hl:l.length<=1000000)(hcb:GM Tryz.prog f=true)(hc:∀w2,Vc.Mod (λk=>v.ownBlock=some k) w w2->∀x∈l,Calls Tryz.prog f ([x.v]++cs).toArray w2 (Pure w2 (B (p x)))) :
  Calls Tryz.prog 51 [v,I7 f cs].toArray w (Ff (λk=>v.ownBlock=some k) w (λu w'=>Vc.Own Cell.cs 4 79 Bo w' u (l.filter λx=>!p x))):=by
 refine cw Tryz.func51 ?_;have r:=Vc.Mod.refl (λk=>v.ownBlock=some k) w;have ha:=ho.sl;refine ws λ_ Z1=>wr (da (de Z1 (ws λ_ Z2=>wr (dm (dm ?_)))));have ho2:=ho.mod r;refine cG (X6d l v f cs p _ (ho.arr EF) EB hcb (λw2 x2=>hc w2 (r.ext x2))) RX.all λu1 w1 x1 h5=>?_;have hsz1:=r.size;have ho:=ho.ext x1;have r:=r.ext x1;obtain⟨i0,rfl,hb⟩:=h5;refine da (de Z2 (ws λ_ Z3=>ws λ_ Z4=>wr (dm ?_)));refine dp (GB rfl rfl) (de Z4 (wi (λc1=>?_) λc1=>?_))
 ·refine ws λ_ Z5=>wr (dm (da (de Z5 (EJ ?_))));refine ro ?_;have e9:l.filter (λx=>!p x)=l:=B5.2 λx hh=>by
   rcases hb with⟨_,h9⟩|⟨k9,e8,_⟩
   ·simpa using Dq.1 h9 x hh
   ·omega
  exact⟨_,rfl,r,by rw[e9];exact ho⟩
 obtain⟨k0,rfl,hk1,x0,hx0,hp0⟩:∃k:Nat,i0=↑k/\(l.take k).any p=false/\∃x,l[k]?=some x/\p x=true:=hb.elim (λh9=>absurd h9.1 (by simpa using c1)) (λh9=>h9);have hkl0:=(Ap.1 hx0).1;refine EI (Z3 _ _ (ws λ_ Z6=>ws λ_ Z7=>wr (dm ?_)));refine pa rfl rfl (da (de Z7 (EM ?_)));refine Fq (G:=Nat×Nat×List Cell) (λ(n,k,cur)=>[(0,v),(1,I7 f cs),(4,.slice none 0 0),(5,I ↑k),(6,I ↑n)]) (λ(n,k,cur) w'=>Mod (λk=>v.ownBlock=some k) w w'/\Kb p l n k cur/\Vc.Own Cell.cs 4 79 Bo w' v cur) (λ(n,k,cur)=>l.length-n) (k0+1,k0,l) ?_ ?_ ?_
 ·exact FN
 ·exact⟨r,Yaj hx0 hp0 (λi y hi hy=>by cases e:p y with
  | false=>rfl
  | true=>exact absurd e (by have:=Dq.1 hk1 y (Ak (i:=i) (by rw[List.getElem?_take,if_pos hi];exact hy));exact this)),ho⟩
 intro X2 g2 w2 h6;obtain⟨n,k,cur⟩:=g2;clear r ho;obtain⟨r,Y,ho⟩:=h6;have hg:=Y.1;have hr2:=Y.2.1;have hr3:=Y.2.2.1;have hw:=Kh ho (λe=>by rw[e]at hg;simp at hg;omega);refine ws λ_ Z8=>ws λ_ Z9=>wr (dm (dm ?_));refine dv 79 4 (ho.arr EF).sl (dp (Fb rfl rfl) (de Z9 (wi (λc2=>?_) λc2=>?_)))
 ·obtain⟨x,hk2⟩:∃x,l[n]?=some x:=Fw;have hk:cur[n]?=some x:=(Y.2.2.2.2 n (Ab n)).trans hk2;refine EI (Z8 _ _ (ws λ_ hf=>EM (ws λ_ h8=>wr (dm (dm ?_)))));refine di 79 4 (ho.arr EF).sl rfl ((ho.arr EF).lt hk) (dq (Fe EA rfl rfl ((ho.arr EF).row hk)) (FP (cs:=[S [],S [],B false,.int .i64 0]) rfl EA RX.all (λb1 w3 e1 x3 O=>?_)));have g1:=r.ge e1;have Z:=ho.ltb e1;have ho:=ho.ext x3;have r:=r.ext x3;refine FY O (λw4 x4 xs4 O=>?_);dsimp only [EY,Af,Ad,Ag]at O;have ho:=ho.mod x4 (by intro k hk h;have h1:=Z k hk;have h2:k=b1:=h;omega);have r:=r.o1 x4;refine de h8 (ws λ_ ht=>wr (dm ?_));refine dq (Fe (k:=4) EA rfl rfl O.row) (PP (vs:=[x.v]) (cs:=cs) rfl rfl hcb (hc _ r x (Ak hk2)) rfl RX.all (λw5 x5=>?_));have ho:=ho.ext x5;have O:=O.ext x5;have r:=r.ext x5;refine dn (de ht ?_);refine wc (λc3=>?_) λc3=>?_
  ·refine ws λ_ hq=>wr (dm (dm ?_));refine dq (Fe (k:=4) EA rfl rfl O.row) (EW (v:=EE (base v).1 (k*4+0)) rfl (HY (i:=k) (e:=79) (k:=4) EA ho.sl rfl rfl EB) (by rw[hw];show EE _ (0+_)=_;rw[Nat.zero_add];rfl) ?_);refine HJ (enc:=Cell.cs) (sz:=4) (l:=cur) (i:=k) (j:=0) (x:=x) (vs:=x.cs) EF rfl ho rfl rfl rfl EA EB rfl (Ab 4) (by intro v hv;simp at hv;rcases hv with rfl|rfl|rfl|rfl<;>rfl) (.inl rfl) (λw6 x6 xs6 J=>?_);have r:=r.own x6 (λi hi h7=>hi);have ho:=J;refine de hq (wr (dm ?_));refine pa rfl rfl (da (de hf (wr (dm ?_))));refine pa rfl rfl (da (EH (?_)));exact⟨(n+1,k+1,_),FN,⟨r,Xsa Y hk2 (by simpa using c3),ho⟩,by simp only [];omega⟩
  refine EI (hf _ _ (wr (dm ?_)));refine pa rfl rfl (da (EH (?_)));exact⟨(n+1,k,cur),FN,⟨r,Xxc Y hk2 (by simpa using c3),ho⟩,by simp only [];omega⟩
 refine Fk (Z6 _ _ (ws λ_ hp=>wr (dm (dm ?_))));refine dp (IS (e:=79) (k:=4) (m:=cur.length) (a:=k) (b:=cur.length) EA ho.sl rfl rfl rfl EB EB) ?_;refine Te (enc:=Cell.cs) (sz:=4) (e:=79) (l:=cur) (k:=k) (zs:=[S [],S [],B false,.int .i64 0]) EF rfl EA EA rfl EN (by intro z hz;simp at hz;rcases hz with rfl|rfl|rfl|rfl<;>rfl) ho rfl EB (.inl rfl) (λw7 x7 xs7 J=>?_);have r:=r.own x7 (λi hi h7=>hi);have ho:=J;refine de hp (ws λ_ hj=>wr (dm (dm ?_)));refine dp (IS (e:=79) (k:=4) (m:=l.length) (a:=0) (b:=k) EA ha rfl rfl rfl EB EB) (da (de hj (EJ ?_)));refine ro ?_;rw[Y.2.2.2.1,Ay EB]at ho;exact⟨_,rfl,r,ho⟩
def IU (ts:List Tb)(f:Fi):List Cell:=match H5 ts (f.lev,f.id)with
 | some t=>t.cs
 | none=>[]
theorem QH (ts:List Tb)(p:List Fi):I6 ts p=(p.map (IU ts)).flatten:=by rw[<-DN];rfl
theorem Rp {ts:List Tb}{f:Fi}{t:Tb}(h:H5 ts (f.lev,f.id)=some t):IU ts f=t.cs:=by unfold IU;rw[h]
theorem Xoh {ts:List Tb}{h k:Int×Int}(hk:k≠h):H5 (ts.filter λq=>decide (q.h≠h)) k=H5 ts k:=by
 unfold H5;rw[List.find?_filter]
 congr 1
 funext q
 by_cases e:q.h=k
 ·have:q.h≠h:=λe2=>hk (e.symm.trans e2);simp [e,hk]
 ·simp [e]
theorem Ra : ∀(p:List Fi) (ts:List Tb),(ts.map (·.h)).Nodup->(p.map λf=>(f.lev,f.id)).Nodup->(I6 ts p).length<=(ts.flatMap (·.cs)).length
 | [],ts,_,_=>Ae _
 | f :: r,ts,hn,hp=>by
  rw[An,AV]at hp;have e:I6 ts (f :: r)=IU ts f++I6 ts r:=rfl;rw[e,Aa]
  cases ht:H5 ts (f.lev,f.id)with
  | none=>
   have e2:IU ts f=[]:=by unfold IU;rw[ht]
   rw[e2];have:=Ra r ts hn hp.2;simpa using this
  | some t=>
   have J:=ON ht;have z:t.h=(f.lev,f.id):=by unfold H5 at ht;simpa using CP ht
   obtain⟨h1,h2,_⟩:=X08 J hn;have h3:=Ra r _ h2 hp.2;have h4:I6 (ts.filter λq=>decide (q.h≠t.h)) r=I6 ts r:=by
    rw[QH,QH]
    congr 1
    apply List.map_congr_left
    intro g Y;unfold IU;rw[Xoh (λZ=>hp.1 (by rw[<-z,<-Z];exact Aq.2 ⟨g,Y,rfl⟩))]
   rw[h4]at h3;have O:=(List.Perm.flatMap_right (·.cs) h1).length_eq;rw[AB,Aa]at O;rw[Rp ht];omega
theorem Xyb (fs:List Fi):Ik fs []=fs:=by unfold Ik;exact B5.2 λf _=>by simp
section
variable {n:Int}{V V':Vs}{ts ts':List Tb}{mem mem':List Cell}{L L':Led}{D D':Dsk}{dead dead' ok:Bool}{e:Int}
theorem Sto.tlen (h:Sto n V ts mem):ts.length<=(FF mem ts).length:=by
 have:∀l:List Tb,(∀t∈l,t.cs≠[])->l.length<=(l.flatMap (·.cs)).length:=by
  intro l J
  induction l with
  | nil=>exact Ae _
  | cons t r ih=>
   have h1:=ih (λt z=>J t (Am _ z));have h2:=List.length_pos_iff.2 (J t Al);rw[AB,Aa,AG];omega
 have h1:=this ts (λt z=>by obtain⟨f,_,hv⟩:=h.bwd t z;exact hv.ne);unfold FF;rw[Aa];omega
theorem Sto.cellsB (h:Sto n V ts mem)(hn:n<=1099511627776):∀c∈FF mem ts,c.key.length<=4096/\c.val.length<=16384/\c.seq<=4611686018427387904:=λc r=>by
 have h1:=(h.okc c r).1;have h2:=(h.okc c r).2;unfold Gl at h1;simp only [Au,decide_eq_true_eq]at h1;omega
theorem XR {α β:Type}(f:α->β):∀ {l:List α},(l.map f).Nodup->l.Nodup
 | [],_=>BV
 | a :: r,h=>by
  rw[An,AV]at h;exact AV.2 ⟨λh2=>h.1 (Bx h2),XR f h.2⟩
theorem Xoi {p:List Fi}(h:(p.map (·.id)).Nodup):(p.map λf=>(f.lev,f.id)).Nodup:=by
 have e:(p.map λf=>(f.lev,f.id)).map Prod.snd=p.map (·.id):=by rw[List.map_map];rfl
 rw[<-e]at h;exact XR _ h
theorem Ro (h:Sto n V ts mem)(hf:JW L D V ts mem false ok 0 L' D' V' ts' mem' dead') :
  dead'=false/\mem'=[]/\Sto n V' ts' []/\(∀c∈FF [] ts',c∈FF mem ts)/\(FF [] ts').length<=(FF mem ts).length/\((IN V.fs).isSome=true->(IN V'.fs).isSome=true)/\L'.last=L.last/\L'.ents.length<=L.ents.length/\(∀M,Sp.Told (FF mem ts) M->Sp.Told (FF [] ts') M)/\(∀g:Cell->Nat,Fu g (FF [] ts')<=Fu g (FF mem ts)):=by
 rcases hf with⟨h1,_⟩|⟨_,rfl,_,_,rfl,rfl,rfl,rfl,rfl,rfl⟩|⟨_,_,m,hm,r,h2⟩
 ·cases h1
 ·exact⟨rfl,rfl,h,λc r=>r,Ab _,λh=>h,rfl,Ab _,λM h=>h,λg=>Ab _⟩
 ·obtain⟨⟨h3,h4⟩,h5⟩:=Pv r;rcases h5 with⟨h5,_⟩|⟨_,rfl,hs⟩
  ·exact absurd rfl h5
  ·rcases h2 with⟨h2,_⟩|⟨_,_,rfl⟩
   ·exact absurd rfl h2
   ·obtain⟨ha,O⟩:=Pm (RH h.ms) hm;obtain⟨k1,tbs,k2,Z⟩:=hs.sto h (λf hf=>(by cases hf)) ha (λc r=>Hc.2 (.inl ((O c).1 r).1)) (λu hu _ _ c r d hd hk=>h.n1 c ((O c).1 r).1 u hu d hd hk) (λt J _ hl=>by have:=(h.lev J).1;omega);have k0:ts.filter (kp [])=ts:=B5.2 λt _=>rfl;rw[k0]at k2;have z:=QK hm;refine⟨rfl,rfl,k1,λc r=>?_,?_,λhp=>?_,h3,h4,λM hT=>(hs.flush h hm hT).2.1,λg=>?_⟩
    ·rw[k2]at r;rcases Hc.1 r with r|⟨t,J,r⟩
     ·cases r
     ·rcases Aw.1 J with J|J
      ·exact Hc.2 (.inr ⟨t,J,r⟩)
      ·exact Hc.2 (.inl (z.2 c (by rw[<-Z];exact BP.2 ⟨t,J,r⟩)))
    ·rw[k2];unfold FF;rw[AE,AU,Z,Aa,Aa];have:=z.1;omega
    ·obtain⟨fs',Y,_,rfl⟩:=hs.vs;rw[Be,Xyb]at Y;exact Xx6 Y hp
    ·rw[k2];unfold FF;rw[AE,AU,Z,KD,KD];have:=QP (g:=g) hm;omega
end
def M0 (L:Led)(D:Dsk)(V:Vs)(ts:List Tb)(mem:List Cell)(dead did:Bool)(e:Int)(L':Led)(D':Dsk)(V':Vs)(ts':List Tb)(mem':List Cell)(dead':Bool):Prop:=
 (dead=true/\did=false/\e=9/\L'=L/\D'=D/\V'=V/\ts'=ts/\mem'=mem/\dead'=dead)\/
 (dead=false/\IN V.fs=none/\did=false/\e=0/\L'=L/\D'=D/\V'=V/\ts'=ts/\mem'=mem/\dead'=dead)\/
 (dead=false/\(IN V.fs).isSome=true/\∃ok e1 L1 D1 V1 ts1 mem1 dead1,JW L D V ts mem false ok e1 L1 D1 V1 ts1 mem1 dead1/\
  ((e1≠0/\did=false/\e=e1/\L'=L1/\D'=D1/\V'=V1/\ts'=ts1/\mem'=mem1/\dead'=dead1)\/
   (e1=0/\∃(p:List Fi) (lv:Nat) (m:List Cell) (e2:Int) (D2:Dsk) (dead2:Bool),IN V1.fs=some p/\PickP V1 p ↑lv/\Mg (I6 ts1 p) m/\Jx L1 D1 V1 ts1 false (m.filter (HL V1.fs ↑lv)) ↑lv p e2 L' D2 V' ts' dead2/\mem'=[]/\
    ((e2≠0/\did=false/\e=e2/\D'=D2/\dead'=dead2)\/
     (e2=0/\D'=(D2.rem (p.map λf=>FJ f.id)).2/\(((D2.rem (p.map λf=>FJ f.id)).1≠0/\did=false/\e=(D2.rem (p.map λf=>FJ f.id)).1/\dead'=true)\/((D2.rem (p.map λf=>FJ f.id)).1=0/\did=true/\e=0/\dead'=dead2)))))))
end Go.Proofs.YtiooodckiddpmaaGreatDoor
namespace Go.Vc
open Go.ChangeShapes Go.WideShapes Go.ChangeAt Go.RowKit
section
variable {H:Type}{enc:TypeId×Value->H}{P:Program}{W W':World}{base:Nat}
def readB (P:Program)(t:TypeId):Bool:=P.readableRec t && decide (t<P.types.size)
theorem Uw (hl:laidOutB P=true)(r:ED W W'):∀ {ts:List TypeId} {vs:List Value} {ds:List (DataW H)} {ps:List MemPlace},ts.all (readB P)=true->DataW.TrodAll enc P W 0 (λ_=>true) true ts vs ds ps->
  (∀p∈ps,p.block<W.heap.size)->DataW.TrodAll enc P W' 0 (λb=>decide (b<W.heap.size)) true ts vs ds ps
 | [],[],[],_,_,h,_=>h
 | t :: ts,v :: vs,d :: ds,ps,hr,h,hlt=>by
  obtain⟨p,q,h1,h2,rfl⟩:=h;simp only [List.all_cons,Au]at hr;have z:P.readableRec t=true/\t<P.types.size:=by simpa [readB]using hr.1
  exact⟨p,q,Below.trod hl z.1 z.2 h1 r.below (λx r=>hlt x (by simp [r])),Uw hl r hr.2 h2 (λx r=>hlt x (by simp [r])),rfl⟩
 | [],[],_ :: _,_,_,h,_=>h.elim
 | [],_ :: _,_,_,_,h,_=>h.elim
 | _ :: _,[],_,_,_,h,_=>h.elim
 | _ :: _,_ :: _,[],_,_,h,_=>h.elim
theorem ED.kept (hx:ED W W')(may:MemPlace->Prop):W.keptBut W' may:=hx.below.frame may
theorem Xyd {f:Func}{s:ChangeSpec}{fresh handsOn:Bool}{args:Array Value}{ds gs:List (DataW H)}{before:List MemPlace}{tb:TypeId}(hl:laidOutB P=true)(hts:f.params.toList.all (readB P)=true)
  (hrt:f.resultTypes=#[tb]) (hb:P.underlying tb=some .bool) (hv:s.vars=[]) (hs:s.fn H ds={ results:=[.lit (.bool true)],args:=ds })
  (hW:DataW.Whole enc P f.params.toList s.vars false W args.toList ds gs before) (z:ED W W'):s.post enc P f false fresh handsOn false W args (.bool true) W':=by
 have r:=hW;obtain⟨p,q,hA,O,rfl,hfz,hnd⟩:=hW;rw[hv]at O;obtain⟨rfl,rfl⟩:=trodVars_none O;have J:∀x∈p,x.block<W.heap.size:=λx z=>by have:=r.lt x (by simp [z]);simpa using this
 have e:s.fn H (ds++[])={ results:=[.lit (.bool true)],args:=ds }:=by rw[AO,hs]
 refine⟨ds,[],p++[],[],p,[],r,?_,?_,?_,z.kept _,λh=>by cases h⟩
 ·rw[e,hrt];exact trodAll_mk1 (shut_bool hb true)
 ·rw[e];exact Uw hl z hts hA J
 ·rw[e,hv];rfl
theorem Xoj {r:Reach}{b0:Nat}{t:TypeId}{k:IntKind}{v:Value}{d:DataW H}{ps:List MemPlace}{sp:Nat->Bool}{hd:Bool}(ht:P.underlying t=some (.int k))(hval:Value.okWide P W r b0 t v)(h:DataW.Trod enc P W base sp hd t v d ps) :
  ∃n:Int,v=.int k n/\(Lit.int k n).wf=true:=by
 obtain⟨n,h1,_,_,h2⟩:=open_int ht hval h;exact⟨n,h1,h2⟩
theorem Xsn {n:Int}(h:(Lit.int .i64 n).wf=true):EU n:=by
 have:IntKind.i64.min<=n/\n<=IntKind.i64.max:=by simpa [Lit.wf]using h
 simpa [EU,IntKind.min,IntKind.max,IntKind.signed,IntKind.bits]using this
inductive Kd where
 | s
 | b
 | i (k:IntKind)
def kdOf (P:Program)(t:TypeId):Option Kd:=match P.underlying t with
 | some .string=>some .s
 | some .bool=>some .b
 | some (.int k)=>some (.i k)
 | _=>none
def VX (P:Program):List Field->Nat->Option (List Kd)
 | [],_=>some []
 | f :: r,o=>if f.offset == o && P.cellsOf f.type == 1 then(match kdOf P f.type,VX P r (o+1)with
  | some k,some ks=>some (k :: ks)
  | _,_=>none)else none
def Ycq (P:Program)(t:TypeId):Option (List Kd):=match P.underlying t with
 | some (.struct fs)=>VX P fs.toList 0
 | _=>none
def RZ : List Kd->List Value->Prop
 | [],[]=>True
 | .s :: r,v :: c=>(∃x:EC,v=S x/\x.length<=maxLen)/\RZ r c
 | .b :: r,v :: c=>(∃x:Bool,v=.bool x)/\RZ r c
 | .i k :: r,v :: c=>(∃x:Int,v=.int k x/\(Lit.int k x).wf=true)/\RZ r c
 | _,_=>False
end
end Go.Vc
