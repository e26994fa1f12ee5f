/-
 A part of the proof: LgC BkB BkC BkD SpTbl TbA TbB VcR TbC MemB TbD SpBat BtA SpLev.
-/
import Derived.Test.YtiooodckiddpmaaGreatDoorSkA
import Derived.Test.YtiooodckiddpmaaGreatDoorChecked
import Derived.KernelRfl
import Derived.Test.YtiooodckiddpmaaGreatDoorSkC
import Derived.Test.YtiooodckiddpmaaGreatDoorSkB
import Derived.Lib.Bytealg
open List renaming length_append->Aa,take->Ad,set->Af,drop->Ag,mem_singleton->Ah,mem_cons->Aj,mem_of_getElem?->Ak,mem_cons_self->Al,mem_cons_of_mem->Am,getElem?_eq_some_iff->Ap,mem_map->Aq,getElem?_eq_getElem->Ar,mem_append->Aw,replicate->Ax,take_of_length_le->Ay,mem_filter->A3,length_take->A5,append_assoc->A7,flatMap_cons->AB,length->AC,nil_append->AE,length_cons->AG,map_append->AH,take_length->AI,append_nil->AO,flatMap_append->AU,getElem?_take->AW,all_eq_true->AY,take_append_drop->Bc,length_drop->Bh,length_nil->Bi,pairwise_append->Bs,take_add_one->B3,range->BF,flatMap->BH,length_filter_le->BI,any_eq_true->BK,filter_append->BL,flatMap_nil->BU,sum_append->Cd,drop_zero->Ch,mem_iff_getElem?->Ci,takeWhile_append_dropWhile->C2,length_singleton->DB,mem_range->DD,map_eq_cons_iff->Ee
open Nat renaming le_refl->Ab,zero_le->Ae,le_trans->Ai,le_of_ble_eq_true->Av,lt_of_lt_of_le->Az,lt_irrefl->A6,zero_add->A9,lt_of_lt_of_eq->AA,mul_le_mul_left->C0,zero_lt_one->DC
open Bool renaming and_eq_true->Au,false_eq_true->C7
open Decidable renaming of_not_not->AK
open Option renaming map_eq_some_iff->Bb
open List.Pairwise renaming nil->Bp
set_option maxRecDepth 100000
set_option maxHeartbeats 4000000
set_option linter.unusedVariables false
set_option linter.unusedSimpArgs false
namespace Go.Proofs.YtiooodckiddpmaaGreatDoor
open Go.Vc Go.Sp
attribute [local irreducible] W XW Dw Gs
theorem Rm {L:Led}{D:Dsk}{p:EC}(h:L.dead=true):L.append D p=(0,9,L,D):=by unfold Led.append;rw[if_pos h]
theorem OF {L:Led}{D:Dsk}{p:EC}(h:L.dead=false)(h2:65536<p.length\/1099511627776<=L.last):L.append D p=(0,5,L,D):=by unfold Led.append;rw[if_neg (by rw[h];decide),if_pos h2]
def Ho (L:Led)(D:Dsk)(p:EC):Int×Dsk:=if(D.app Led.logn (EG (Led.ent (L.last+1) p))).1=0 then(D.app Led.logn (EG (Led.ent (L.last+1) p))).2.sync [Led.logn]else D.app Led.logn (EG (Led.ent (L.last+1) p))
theorem Pa {L:Led}{D:Dsk}{p:EC}(h:L.dead=false)(h2:¬ (65536<p.length\/1099511627776<=L.last))(h3:(Ho L D p).1≠0):L.append D p=(0,(Ho L D p).1,{ L with dead:=true },(Ho L D p).2):=by unfold Led.append;rw[if_neg (by rw[h];decide),if_neg h2];exact if_pos h3
theorem OJ {L:Led}{D:Dsk}{p:EC}(h:L.dead=false)(h2:¬ (65536<p.length\/1099511627776<=L.last))(h3:¬ (Ho L D p).1≠0):L.append D p=(L.last+1,0,{ L with ents:=L.ents++[p] },(Ho L D p).2):=by unfold Led.append;rw[if_neg (by rw[h];decide),if_neg h2];exact if_neg h3
theorem Wr.lt {B bw:Nat}{v:Value}{l:EC}{w:World}(h:Wr B bw v l w):∀k,H2 bw v k->k<w.heap.size:=λk hk=>hk.elim (λe=>e▸h.m.lt) (λe=>(h.o.lt k e).2)
theorem Wr.ge {B bw:Nat}{v:Value}{l:EC}{w:World}(h:Wr B bw v l w)(hb:B<=bw){k:Nat}(hk:H2 bw v k):B<=k:=hk.elim (λe=>e▸hb) (λe=>(h.o.lt k e).1)
theorem Lr (i:Int)(p:EC):(Led.ent i p).length<=p.length+20:=by
 unfold Led.ent Fs;have h1:=Gj i.toNat;have h2:=Gj p.length;simp only [Aa];omega
theorem T4 {i:Int}{p:EC}(h0:0<=i)(h1:i<=1099511627777):[i].flatMap Gf++[p].flatMap Fs=Led.ent i p:=by
 simp [Led.ent,Gf,Hn]
 congr 1;omega
theorem LedE.add {G:Nat->Prop}{bl bd:Nat}{vd ve ve2 vp:Value}{vs:List (Value×EC)}{L:Led}{w0 w w':World}{Sx:Nat->Prop}{p:EC}(h:LedE G bl bd vd ve vs L w)(z:L.last<1099511627776)(hp:p.length<=65536)(hd:L.dead=false)(hw0:w0.heap.size<=w.heap.size)(h0:∀k,G k->k<w0.heap.size)
  (m:Vc.Mod Sx w w') (hS:∀k,Sx k->k=bl\/ve.ownBlock=some k\/w.heap.size<=k) (hm:EK w' bl [EE bd 0,S [115],I L.base,vd,ve2,B L.dead] 147) (he:Vc.Own KM 1 82 0 w' ve2 (vs.map (·.1)++[vp])) (hv:ve2.ownBlock=ve.ownBlock\/∀k,ve2.ownBlock=some k->w0.heap.size<=k)
  (ha:EQ EO 1 w' vp p) (hf:p≠[]->w0.heap.size<=(base vp).1) (hu:p≠[]->ve2.ownBlock≠some (base vp).1):LedE (Gx G w0 w') bl bd vd ve2 (vs++[(vp,p)]) { L with ents:=L.ents++[p] } w':=by
 have hn:∀k,KH vd vs L.data k->¬ Sx k:=λk hk hs=>by
  have h1:=h.sep k hk;have h2:=h.lt k (h.inG k (.inr (.inr hk)));rcases hS k hs with e|e|e
  ·exact h1.1 e
  ·exact h1.2 e
  ·omega
 refine⟨hm,h.d.mod m (λz=>hn _ (.inl ⟨z,rfl⟩)),by rw[AH];exact he,by rw[AH,h.es];rfl,λq r=>?_,λk hk=>?_,λk hk=>?_,HT h0 (Ai hw0 m.size),h.b0,h.b1,h.dl,λq r=>?_,?_⟩
 ·rcases Aw.1 r with r|r
  ·exact(h.el q r).mod m (λz=>hn _ (.inr ⟨q,r,z,rfl⟩))
  ·rw[Ah.1 r];exact ha
 ·rcases hk with rfl|hk|hk|⟨q,r,hk⟩
  ·exact .inl (h.inG _ (.inl rfl))
  ·rcases hv with e|e
   ·exact .inl (h.inG _ (.inr (.inl (e▸hk))))
   ·exact .inr ⟨e k hk,(he.lt k hk).2⟩
  ·exact .inl (h.inG _ (.inr (.inr (.inl hk))))
  ·rcases Aw.1 r with r|r
   ·exact .inl (h.inG _ (.inr (.inr (.inr ⟨q,r,hk⟩))))
   ·rw[Ah.1 r]at hk;obtain⟨z,rfl⟩:=hk;exact .inr ⟨hf z,ha.base_lt EN z⟩
 ·have old:KH vd vs L.data k->k≠bl/\ve2.ownBlock≠some k:=λhk=>⟨(h.sep k hk).1,λe=>by
   rcases hv with e2|e2
   ·exact(h.sep k hk).2 (e2▸e)
   ·have h1:=e2 k e;have h2:=h0 k (h.inG k (.inr (.inr hk)));omega⟩
  rcases hk with hk|⟨q,r,hk⟩
  ·exact old (.inl hk)
  ·rcases Aw.1 r with r|r
   ·exact old (.inr ⟨q,r,hk⟩)
   ·rw[Ah.1 r]at hk;obtain⟨z,rfl⟩:=hk;refine⟨λe=>?_,hu z⟩;have h1:=hf z;have h2:=h0 bl (h.inG bl (.inl rfl));rw[e]at h1;omega
 ·rcases Aw.1 r with r|r
  ·exact h.pl q r
  ·rw[Ah.1 r];exact hp
 ·unfold Led.last at z ⊢;simp only [Aa,DB];omega
theorem Xz0 (H:Nat->Prop)(bl bd:Nat)(L:Led)(D:Dsk)(p:EC)(vp:Value)(w:World)(h:LD H bl bd L D w)(hp:EQ EO 1 w vp p)(hpl:p.length<=1000000)(hcnt:L.ents.length<=1000000)(hpH:p≠[]->¬ H (base vp).1) :
  Calls Tryz.prog 40 [EE bl 0,vp].toArray w (Ff H w (λu w'=>u=.tuple #[I (L.append D p).1,I (L.append D p).2.1]/\LD (Gx H w w') bl bd (L.append D p).2.2.1 (L.append D p).2.2.2 w')):=by
 refine cw Tryz.func40 ?_;have r:=ED.refl w;have xv:=h;obtain⟨F,G,vd,ve,vs,hA,z,hf,ha,hh⟩:=h;have J:=z.m;have hla:=z.la;have hb0:=z.b0;have hl0:0<=L.last:=by unfold Led.last;omega
 have Z:=z.lt;have hblt:=J.lt;have y6:=Gj (Hn (L.last+1));have hbl1:([L.last+1].flatMap Gf).length<=10:=by simpa [Gf]using y6
 have helen:=Lr (L.last+1) p;refine ws λ_ Z1=>wr (da (da (de Z1 (ws λ_ Z2=>EM (ws λ_ Z3=>wr (dm ?_))))));refine dp (Gi EA rfl rfl) (da (de Z3 ?_));refine wi (λc1=>?_) λc1=>?_
 ·exact absurd c1 ER
 refine ws λ_ Z4=>wr (dm ?_);refine dz rfl (df 5 rfl (dl rfl (J.at rfl) (da (de Z4 ?_))));refine wc (λc2=>?_) λc2=>?_
 ·refine ws λ_ Z5=>wr (da (da (de Z5 (EJ ?_))));refine rt ?_;rw[Rm c2];exact⟨_,rfl,r.mono (λ_ h _=>h.elim),rfl,xv.grow r⟩
 refine ws λ_ Z6=>wr (dm ?_);refine dv 5 1 hp.sl (dp (Gg rfl rfl) (dm ?_));refine F4 21 rfl (λc3=>?_) (λc3=>?_)
 ·refine dk (dk (dk (EP ?_)));refine da (de Z6 ?_);refine GS rfl (ws λ_ Z7=>wr (da (da (de Z7 (EJ ?_)))));refine rt ?_;rw[OF c2 EB];exact⟨_,rfl,r.mono (λ_ h _=>h.elim),rfl,xv.grow r⟩
 refine dm ?_;refine cP (GC G bl bd vd ve vs L _ z) RX.all λw1 x1=>?_;have J:=J.ext x1;have z:=z.ext x1;have hA:=hA.ext x1;have r:=r.trans x1;refine dp (IA rfl rfl) (EP ?_);refine da (de Z6 ?_);refine wi (λc4=>?_) λc4=>?_
 ·refine ws λ_ Z8=>wr (da (da (de Z8 (EJ ?_))));refine rt ?_;rw[OF c2 EB];exact⟨_,rfl,r.mono (λ_ h _=>h.elim),rfl,xv.grow r⟩
 have yh:¬ (65536<p.length\/1099511627776<=L.last):=by omega
 refine EI (Z2 _ _ (ws λ_ Z9=>wr (FP (cs:=[.slice none 0 0]) rfl EA RX.all (λb1 w2 e1 x2 m1=>?_))));have g1:=r.ge e1;have a1_hl:=J.lt;have a1_hE:=z.lt;have a1_hA:=hA.lt;have J:=J.ext x2;have z:=z.ext x2;have hA:=hA.ext x2;have r:=r.trans x2;refine de Z9 (ws λ_ y8=>wr (dm ?_));refine cP (GC G bl bd vd ve vs L _ z) RX.all λw3 x3=>?_;have J:=J.ext x3;have z:=z.ext x3;have hA:=hA.ext x3;have m1:=m1.ext x3;have r:=r.trans x3;refine pa rfl rfl (li (e:=3) (sz:=1) (zs:=[.int .i64 0]) (pv:=[(0,_)]) (cs:=[_]) RX.all (λb2 w4 e2 x4 m2=>?_));have g2:=r.ge e2;have n2_1:=m1.ltb e2;have a2_hl:=J.lt;have a2_hE:=z.lt;have a2_hA:=hA.lt;have J:=J.ext x4;have z:=z.ext x4;have hA:=hA.ext x4;have m1:=m1.ext x4;have r:=r.trans x4;have O:Wr w.heap.size b1 (.slice none 0 0) [] w4:=⟨m1,Vc.Own.nil⟩;refine cD (JZ w.heap.size b1 (.slice none 0 0) [] [L.last+1] (.slice (some ⟨b2,0,none⟩) 1 1) _ O ER r.size (m2.arr (enc:=Vc.encI) (sz:=1) (l:=[L.last+1]) rfl EF rfl ER) ER (λk hk _ e=>hk.elim (λh=>by have e2:b2=k:=e;omega) (λh=>by cases h))) (.inl rfl) λu5 w5 x5 yw=>?_;have hsz5:=r.size;have J:=J.mod x5 (λh=>by have h8:=O.ge g1 h;omega);have z:=z.mod x5 (λk hk h=>by have h9:=Z k hk;have h8:=O.ge g1 h;omega);have hA:=hA.mod x5 (λk hk h=>by have h9:=hh k (ha k (.inl hk));have h8:=O.ge g1 h;omega);have r:=r.own x5 (λi hi=>O.ge g1 hi);obtain⟨rfl,v2,O,hg2⟩:=yw;refine de y8 (ws λ_ y1=>wr (dm ?_));refine It (e:=82) (sz:=1) (zs:=[.slice none 0 0]) (pv:=[(0,?a26_0)]) (cs:=[?a26_0]) rfl EA ⟨rfl,rfl⟩ EA rfl ?h26 ?f26 RX.all (λb3 w6 e3 x6 m3=>?k26)
 case h26=>refine⟨rfl,?_,trivial⟩<;>(conv=>lhs;whnf)
 case f26=>simp [H7,EY,Ax,hp.sl.cells]
 have g3:=r.ge e3;have a3_hl:=J.lt;have a3_hE:=z.lt;have a3_hA:=hA.lt;have xf:=O.lt;have J:=J.ext x6;have z:=z.ext x6;have hA:=hA.ext x6;have O:=O.ext x6;have r:=r.trans x6;refine cD (Lc w.heap.size b1 v2 _ [(vp,p)] (.slice (some ⟨b3,0,none⟩) 1 1) _ O (by rw[AE];omega) r.size (K5 m3) (λq h=>by rw[Ah.1 h];exact hp.ext r) (λq h=>by rw[Ah.1 h];exact hpl) ER (λ_ h=>A6 b3 (AA (xf _ h) e3.symm)) (λq h J h2=>by rw[Ah.1 h]at J h2;have h8:=hp.base_lt EN J;have h7:=O.ge g1 h2;exact absurd (Az h8 h7) (A6 _))) (.inl rfl) λu7 w7 x7 yu=>?_;have hsz7:=r.size;have J:=J.mod x7 (λh=>by have h8:=O.ge g1 h;omega);have z:=z.mod x7 (λk hk h=>by have h9:=Z k hk;have h8:=O.ge g1 h;omega);have hA:=hA.mod x7 (λk hk h=>by have h9:=hh k (ha k (.inl hk));have h8:=O.ge g1 h;omega);have r:=r.own x7 (λi hi=>O.ge g1 hi);obtain⟨rfl,v3,O,hg3⟩:=yu;refine de y1 (ws λ_ y7=>wr (cG (N3 w.heap.size b1 v3 _ _ O (by simp only [AE,Aa,List.map_cons,List.map_nil,AB,BU,AO,Fs,Gf]at *;have h5:=Gj p.length;omega)) RX.all λvo w8 x8 hB=>?_));have hsz8:=r.size;have J:=J.ext x8;have z:=z.ext x8;have hA:=hA.ext x8;have r:=r.trans x8;rw[show([]++[L.last+1].flatMap Gf)++BH Fs ([(vp,p)].map (λq:Value×EC=>q.2))=Led.ent (L.last+1) p by rw[AE];exact T4 EB EB]at hB;refine It (e:=82) (sz:=1) (zs:=[.slice none 0 0]) (pv:=[(0,?a27_0)]) (cs:=[?a27_0]) rfl EA ⟨rfl,rfl⟩ EA rfl ?h27 ?f27 RX.all (λb4 w9 e4 x9 m4=>?k27)
 case h27=>refine⟨rfl,?_,trivial⟩<;>(conv=>lhs;whnf)
 case f27=>simp [H7,EY,Ax,hB.sl.cells]
 have g4:=r.ge e4;have a4_hl:=J.lt;have a4_hE:=z.lt;have a4_hA:=hA.lt;have o4_hB:=hB.ltb e4;have J:=J.ext x9;have z:=z.ext x9;have hA:=hA.ext x9;have hB:=hB.ext x9;have r:=r.trans x9;refine cG (RT (Led.ent (L.last+1) p) vo _ _ (m4.arr (enc:=λx:Value=>[x]) (sz:=1) (l:=[vo]) rfl EF rfl ER) (hB.arr EF) EB) RX.all λu10 w10 xe yg=>?_;have xz:=r.size;have J:=J.ext xe;have z:=z.ext xe;have hA:=hA.ext xe;have r:=r.trans xe;obtain⟨vb,rfl,yi⟩:=yg;have xx:Hu (Led.ent (L.last+1) p)=0:=if_neg EB;have Y:=(yi xx).1;have hBf:=Ai xz (yi xx).2;refine dm ?_;refine dx rfl rfl (dx rfl rfl (da (da (de y7 ?_))));refine Hz (G:=(Nat->Prop)×Dsk×Int) (λ(F1,D1,e1)=>[(0,EE bl 0),(1,vp),(4,I 0),(5,I 0),(8,I e1)]) (λ(F1,D1,e1) w'=>Mod H w w'/\FSq F1 bd D1 w'/\LedE G bl bd vd ve vs L w'/\(∀k,F1 k->F k\/w.heap.size<=k)/\EK w' bl [EE bd 0,S [115],I L.base,vd,ve,B L.dead] 147/\D.app Led.logn (EG (Led.ent (L.last+1) p))=(e1,D1)) ?_ ?_
 ·refine ws λ_ y3=>wr (dm ?_);refine dp (GB rfl rfl) (de y3 (wi (λc5=>?_) λc5=>?_))
  ·refine Lb (R:=ED) ED.refl (λ_ _ _=>ED.trans) EA [3] (.one 0 .p false (.one 1 .p false (.one 2 .p false (.one 3 .l false (.one 4 .p false (.one 6 .p false (.fork (.alt 5 false (.one 7 .x false (.one 8 .x true (.one 9 .p false .nil))) (.alt 7 false (.one 5 .x false (.one 8 .x true (.one 9 .p false .nil))) .stop))))))))) EA EA (λw11 xm=>?_);have xc:=EL xm;clear xm;have J:=J.ext xc;have z:=z.ext xc;have hA:=hA.ext xc;have Y:=Y.ext xc;have r:=r.trans xc;refine EX (dm (EH ?_));refine EX (dz rfl (EH (EX (df 0 rfl (EH (EX (dL rfl (λ_ hR=>((J.ext hR).at rfl)) (EH (EX (dm (EH ?_)))))))))));refine EX (dm (EH ?_));refine Ju ?_;refine H6 ?_ ?_
   ·refine cP (FB G bl bd vd ve vs L _ z) RX.ext λw12 hy=>?_;have J:=J.ext hy;have z:=z.ext hy;have hA:=hA.ext hy;have Y:=Y.ext hy;have r:=r.trans hy;refine EH (EX ?_);refine It (e:=82) (sz:=1) (zs:=[.slice none 0 0]) (pv:=[(0,?a35_0)]) (cs:=[?a35_0]) rfl EA ⟨rfl,rfl⟩ EA rfl ?h35 ?f35 RX.ext (λb5 w13 e5 hw m5=>?k35)
    case h35=>refine⟨rfl,?_,trivial⟩<;>(conv=>lhs;whnf)
    case f35=>simp [H7,EY,Ax,Y.sl.cells]
    have g5:=r.ge e5;have a5_hl:=J.lt;have a5_hE:=z.lt;have a5_hA:=hA.lt;have a5_hB2:=EQ.base_lt Y EN;have J:=J.ext hw;have z:=z.ext hw;have hA:=hA.ext hw;have Y:=Y.ext hw;have r:=r.trans hw;refine EH (EX (cD (Si F bd D Led.logn [(vb,EG (Led.ent (L.last+1) p))] _ _ hA (K5 m5) (by intro q h;rw[Ah.1 h];exact Y) (by simp [Jm];omega) ER) (.inl rfl) λu14 w14 xq xl=>?_));have x0:=r.size;have J:=J.mod xq (λh=>hf bl h (z.inG bl (.inl rfl)));have z:=z.mod xq (λk hk h=>hf k h hk);have r:=(r.mod xq).mono (λi hi _=>(ha i (.inl hi):H i));rw[show BH (λq:Value×EC=>q.2) [(vb,EG (Led.ent (L.last+1) p))]=EG (Led.ent (L.last+1) p) by simp]at xl;obtain⟨rfl,hA⟩:=xl;have xa:=x0;refine EH (EX (da (EH ?_)));refine Ii ?_;exact⟨(_,_,_),FN,r,hA,z,Lx xa,J,rfl⟩
   refine H6 ?_ ?_
   ·refine It (e:=82) (sz:=1) (zs:=[.slice none 0 0]) (pv:=[(0,?a37_0)]) (cs:=[?a37_0]) rfl EA ⟨rfl,rfl⟩ EA rfl ?h37 ?f37 RX.ext (λb6 w15 e6 xb m6=>?k37)
    case h37=>refine⟨rfl,?_,trivial⟩<;>(conv=>lhs;whnf)
    case f37=>simp [H7,EY,Ax,Y.sl.cells]
    have g6:=r.ge e6;have a6_hl:=J.lt;have a6_hE:=z.lt;have a6_hA:=hA.lt;have a6_hB2:=EQ.base_lt Y EN;have J:=J.ext xb;have z:=z.ext xb;have hA:=hA.ext xb;have Y:=Y.ext xb;have r:=r.trans xb;refine EH (EX (cP (FB G bl bd vd ve vs L _ z) RX.ext λw16 hr=>?_));have J:=J.ext hr;have z:=z.ext hr;have hA:=hA.ext hr;have Y:=Y.ext hr;have m6:=m6.ext hr;have r:=r.trans hr;refine EH (EX (cD (Si F bd D Led.logn [(vb,EG (Led.ent (L.last+1) p))] _ _ hA (K5 m6) (by intro q h;rw[Ah.1 h];exact Y) (by simp [Jm];omega) ER) (.inl rfl) λu17 w17 xu xk=>?_));have xy:=r.size;have J:=J.mod xu (λh=>hf bl h (z.inG bl (.inl rfl)));have z:=z.mod xu (λk hk h=>hf k h hk);have r:=(r.mod xu).mono (λi hi _=>(ha i (.inl hi):H i));rw[show BH (λq:Value×EC=>q.2) [(vb,EG (Led.ent (L.last+1) p))]=EG (Led.ent (L.last+1) p) by simp]at xk;obtain⟨rfl,hA⟩:=xk;have xa:=xy;refine EH (EX (da (EH ?_)));refine Ii ?_;exact⟨(_,_,_),FN,r,hA,z,Lx xa,J,rfl⟩
   exact Jv
  exact absurd xx c5
 intro X18 y4 w18 ym;obtain⟨F1,D1,e1⟩:=y4;clear r J z hA O hB m4 Y;obtain⟨r,hA,z,hc,J,yn⟩:=ym;have hs1:=r.size;refine Hz (G:=(Nat->Prop)×Dsk×Int) (λ(F2,D2,e)=>[(0,EE bl 0),(1,vp),(4,I 0),(5,I 0),(8,I e)]) (λ(F2,D2,e) w'=>Mod H w w'/\FSq F2 bd D2 w'/\LedE G bl bd vd ve vs L w'/\(∀k,F2 k->F k\/w.heap.size<=k)/\EK w' bl [EE bd 0,S [115],I L.base,vd,ve,B L.dead] 147/\Ho L D p=(e,D2)) ?_ ?_
 ·refine ws λ_ yt=>wr (dm ?_);refine dp (GB rfl rfl) (de yt (wi (λc6=>?_) λc6=>?_))
  ·refine F9 (R:=ED) ED.refl (λ_ _ _=>ED.trans) EA [3] [(0,.p,false),(1,.p,false),(2,.p,false),(3,.l,false),(4,.p,false),(5,.x,false),(6,.x,false),(7,.x,true),(8,.p,false)] rfl EA EA (λw19 xj=>?_);have xd:=EL xj;clear xj;have hA:=hA.ext xd;have z:=z.ext xd;have J:=J.ext xd;have r:=r.ext xd;refine dm ?_;refine dz rfl (df 0 rfl (dL rfl (λ_ hR=>((J.ext hR).at rfl)) (dm ?_)));refine cP (FB G bl bd vd ve vs L _ z) RX.ext λw20 xi=>?_;have hA:=hA.ext xi;have z:=z.ext xi;have J:=J.ext xi;have r:=r.ext xi;refine li (e:=9) (sz:=1) (zs:=[S []]) (pv:=[(0,_)]) (cs:=[_]) RX.ext (λb7 w21 e7 xh m7=>?_);have g7:=r.ge e7;have xp:=hA.lt;have a7_hE:=z.lt;have a7_hl:=J.lt;have hA:=hA.ext xh;have z:=z.ext xh;have J:=J.ext xh;have r:=r.ext xh;refine cD (RI F1 bd D1 [Led.logn] _ _ hA (K6 m7) ER (λ_ hF=>A6 b7 (AA (xp _ hF) e7.symm))) (.inl rfl) λu22 w22 xo yo=>?_;have hsz22:=r.size;have z:=z.mod xo (λk hk h=>(hc _ h).elim (λh=>hf _ h hk) (λh=>by have h9:=Z _ hk;omega));have J:=J.mod xo (λh=>(hc _ h).elim (λh=>hf _ h (z.inG bl (.inl rfl))) (λh=>by have h9:=Z _ (z.inG bl (.inl rfl));omega));have r:=r.own xo (λi hi hh=>ha i (.inl ((hc i hi).resolve_right EB)));obtain⟨rfl,hA⟩:=yo;refine da (EH (?_));exact⟨(_,_,_),FN,r,hA,z,λk hk=>hk.elim (hc k) (λh9=>.inr EB),J,by unfold Ho;rw[yn,if_pos c6]⟩
  refine EI ?_;exact⟨(F1,D1,e1),FN,r,hA,z,hc,J,by unfold Ho;rw[yn,if_neg c6]⟩
 intro X23 y9 w23 yl;obtain⟨F2,D2,e⟩:=y9;clear r hA z J;obtain⟨r,hA,z,hb,J,hR⟩:=yl;have hsw:=r.size;refine ws λ_ yr=>ws λ_ y5=>wr (dm (dm ?_));refine cD (UW G bl bd vd ve vs L e _ z) (.inl rfl) λu24 yb yf yk=>?_;have hsz24:=r.size;have hA:=hA.mod yf (λk hk e9=>by have e8:k=bl:=e9;subst e8;exact(hb _ hk).elim (λh=>hf _ h (z.inG _ (.inl rfl))) (λh=>by have h9:=Z _ (z.inG _ (.inl rfl));omega));have r:=r.own yf (λi hi hh=>(by have e2:i=bl:=hi;rw[e2];exact ha bl (.inr (z.inG bl (.inl rfl)))));obtain⟨rfl,z⟩:=yk;refine dp (FH rfl rfl) (de y5 (wi (λc7=>?_) λc7=>?_))
 ·refine ws λ_ zb=>wr (dm (da (da (de zb (EJ ?_)))));refine rt ?_;have xr:{ L with dead:=L.dead || decide (e≠0) } = { L with dead:=true }:=by rw[c2];simp [c7]
  rw[xr]at z;refine⟨_,rfl,r,?_⟩;rw[Pa c2 yh (by rw[hR];exact c7),hR];exact⟨rfl,F2,G,vd,ve,vs,hA,z,λk hk hg=>(hb k hk).elim (λh=>hf k h hg) (λh=>by have:=Z k hg;omega),λk hk=>hk.elim (λh=>(hb k h).elim (λh2=>.inl (ha k (.inl h2))) (λh2=>.inr ⟨h2,hA.lt k h⟩)) (λh=>.inl (ha k (.inr h))),HT hh r.size⟩
 have yx:e=0:=AK c7;have xr:{ L with dead:=L.dead || decide (e≠0) } = L:=by rw[c2,yx];cases L;simp at c2 ⊢;exact c2
 rw[xr]at z;have J:=z.m;have ho:=z.e;have y0:=hA.lt;have yj:=r.size;refine EI (yr _ _ (ws λ_ yv=>F9 (R:=ED) ED.refl (λ_ _ _=>ED.trans) EA [4] [(0,.p,false),(1,.p,false),(2,.p,false),(3,.p,false),(4,.l,false),(5,.p,false),(6,.x,false),(7,.x,false),(8,.x,true),(9,.p,false),(10,.p,false),(11,.x,true)] rfl EA EA (λw25 xn=>?_)));have hj:=EL xn;clear xn;have hA:=hA.ext hj;have J:=J.ext hj;have ho:=ho.ext hj;have r:=r.ext hj
 iterate 2 refine dm ?_
 refine dz rfl (df 4 rfl (dL rfl (λ_ hR=>((J.ext hR).at rfl)) (dm ?_)));refine cG (L7 p vp _ (hp.mod r hpH) EB) RX.ext λvc w26 ht hC=>?_;have hsz26:=r.size;have hA:=hA.ext ht;have J:=J.ext ht;have ho:=ho.ext ht;have r:=r.ext ht;refine It (e:=82) (sz:=1) (zs:=[.slice none 0 0]) (pv:=[(0,?a53_0)]) (cs:=[?a53_0]) rfl EA ⟨rfl,rfl⟩ EA rfl ?h53 ?f53 RX.ext (λb8 w27 e8 hq m8=>?k53)
 case h53=>refine⟨rfl,?_,trivial⟩<;>(conv=>lhs;whnf)
 case f53=>simp [H7,EY,Ax,hC.sl.cells]
 have g8:=r.ge e8;have a8_hA:=hA.lt;have a8_hl:=J.lt;have o8_ho:=ho.ltb e8;have o8_hC:=hC.ltb e8;have hA:=hA.ext hq;have J:=J.ext hq;have ho:=ho.ext hq;have hC:=hC.ext hq;have r:=r.ext hq;refine LP (lx:=[vc]) (e:=82) (sz:=1) (by':=24) rfl EA EA EF ho (m8.arr (enc:=KM) (sz:=1) (l:=[vc]) rfl EF rfl (Av rfl)) rfl rfl (by intro x y2 u hu;rw[Ah.1 y2]at hu;rw[Ah.1 hu];exact hC.sl.one) (by have:=z.len;simp;omega) EN (Ae _) (.inl rfl) (λv2 w28 yq hz xw=>?_);have ye:=xw;have za:=hz;have hA:=hA.mod hz (by exact(λk hk e=>(hb _ hk).elim (λh=>hf _ h (z.inG k (.inr (.inl e)))) (λh=>by have h9:=Z _ (z.inG k (.inr (.inl e)));omega)));have J:=J.mod hz (by exact ho.ne_blk J rfl);have hC:=hC.mod hz (by exact(λk hk e=>hC.ne ho rfl hk e));have r:=r.own hz (λi hi hh=>ha i (.inr (z.inG i (.inr (.inl hi)))));have ho:=yq;have yd:=ho.ne_blk J rfl;have ya:=hC.ne_blk J rfl;clear m8;refine dz rfl (df 4 rfl (G4 J (λyz h6 xs29 J=>?_) (hv:=by exact Gd.one ho.sl)));dsimp only [EY,Af,Ad,Ag]at J;have hA:=hA.mod h6 (λk hk e9=>by have e8:k=bl:=e9;subst e8;exact(hb _ hk).elim (λh=>hf _ h (z.inG _ (.inl rfl))) (λh=>by have h9:=Z _ (z.inG _ (.inl rfl));omega));have ho:=ho.mod h6 (λk hk h=>yd (by have h2:k=bl:=h;rw[hk,h2]));have hC:=hC.mod h6 (λk hk h=>ya (by have h2:k=bl:=h;rw[hk,h2]));have r:=r.own h6 (λi hi _=>(by have e2:i=bl:=hi;rw[e2];exact ha bl (.inr (z.inG bl (.inl rfl)))));refine de yv (ws λ_ yy=>wr (dm ?_));have mB:=((ED.mod ((hj.trans ht).trans hq) za).mono (λk hk _=>(.inl hk:ve.ownBlock=some k\/k=bl))).own h6 (λk hk _=>.inr hk);have yc:=Ai hj.size (Ai ht.size hq.size);have yp:=z.add (w0:=yb) (p:=p) EB EB c2 (Ab _) z.lt mB (λk hk=>hk.elim (λh=>.inr (.inl h)) .inl) J ho (ye.imp id (λe2 k hk=>by rw[e2]at hk;cases hk;exact yc)) (hC.arr EF) (λhn=>Ai hj.size (hC.base_ge hn).1) (λhn e=>hC.ne ho rfl (hC.base_block hn) e);refine cP (GC _ bl bd vd v2 _ _ _ yp) RX.all λw30 xg=>?_;have hA:=hA.ext xg;have r:=r.ext xg;refine da (da (de yy (EJ ?_)));refine rt ?_;refine⟨_,rfl,r,?_⟩;rw[OJ c2 yh (by rw[hR];exact c7),hR];refine⟨?_,F2,Gx G yb yz,vd,v2,_,hA,yp.ext xg,λk hk hg=>?_,λk hk=>hk.elim (λh=>(hb k h).elim (λh2=>.inl (ha k (.inl h2))) (λh2=>.inr ⟨h2,hA.lt k h⟩)) (λh=>?_),HT hh r.size⟩
 ·have e9:Led.last { L with ents:=L.ents++[p] } = L.last+1:=by unfold Led.last;simp only [Aa,DB];omega
  rw[e9]
 ·rcases hg with hg|hg
  ·exact(hb k hk).elim (λh=>hf k h hg) (λh=>by have:=Z k hg;omega)
  ·have:=y0 k hk;omega
 ·rcases h with h|h
  ·exact .inl (ha k (.inr h))
  ·exact .inr ⟨Ai yj h.1,Az h.2 xg.size⟩
theorem OE {w:World}{v v2:Value}{bw b:Nat}(hg:GZ w v v2)(h:¬ H2 bw v b)(hlt:b<w.heap.size):¬ H2 bw v2 b:=λh2=>h (Ps hg h2 hlt)
theorem MX {A:EC}{n:Nat}(h:n<=4611686018427387904):A++[(n:Int)].flatMap Gf=A++EV n:=by simp [P6 h]
theorem Ybv {A:EC}{s:Int}{g:Nat}(h1:1<=s)(h2:s<=1099511627776)(h:g<=4611686018427387904):A++[s,(g:Int)].flatMap Gf=A++(EV s.toNat++EV g):=by
 simp only [AB,BU,AO,P6 h];unfold Gf;rw[Va h1 h2]
theorem Jy {A p:EC}{v:Value} : A++BH Fs (List.map (λq:Value×EC=>q.2) [(v,p)])=A++Fs p:=by simp
theorem QD (d:Bool):Kl d<=1:=by cases d<;>decide
theorem PY {A:EC}{n N:Nat}(h:A.length<=N):(A++EV n).length<=N+10:=by rw[Aa];have:=Gj n;omega
theorem P9 {A p:EC}{N M:Nat}(h:A.length<=N)(hp:p.length<=M):(A++Fs p).length<=N+M+10:=by rw[Aa];unfold Fs;rw[Aa];have:=Gj p.length;omega
theorem Xz2 {A:EC}{m n N:Nat}(h:A.length<=N):(A++(EV m++EV n)).length<=N+20:=by rw[Aa,Aa];have:=Gj m;have:=Gj n;omega
theorem Ss {l:List Cell}{k:Nat}{c:Cell}(h:l[k]?=some c):Jw l k=JM (Hm l k) c:=by unfold Jw;rw[h];rfl
theorem X5o {l:List Cell}{k:Nat}{c x:Cell}(h:l[k]?=some c)(h2:l[k-1]?=some x)(h4:k % 4≠0):Jn x.key c.key=Hm l k:=by unfold Hm;rw[if_neg h4,h,h2];rfl
theorem X9n {l:List Cell}{k:Nat}(h4:k % 4=0):(0:Nat)=Hm l k:=by unfold Hm;rw[if_pos h4]
theorem Xz3 {l:List Cell}(k:Nat)(h:k=l.length):(BF k).flatMap (Jw l)=Hl l:=by rw[h];rfl
theorem RC (l:List Cell)(v:Value)(w:World)(hv:EQ Cell.cs 4 w v l)(hl:l.length<=30000) :
  Calls Tryz.prog 243 [v].toArray w (ES w (λu w'=>∃vb,u=.tuple #[vb,I (GH l)]/\Vc.Own EO 1 5 w.heap.size w' vb (if GH l=0 then Hl l else[]))):=by
 refine cw Tryz.func243 ?_;have z:=ED.refl w;refine ws λ_ Z1=>wr (da (da (de Z1 (ws λ_ Z2=>ws λ_ Z3=>wr (dm ?_)))));refine cP (X48 l v _ (hv.ext z) hl) RX.all λw1 x1=>?_;have z:=z.trans x1;refine da (de Z3 (ws λ_ Z4=>wr (dm ?_)));refine dp (FH rfl rfl) (de Z4 (wi (λc1=>?_) λc1=>?_))
 ·refine ws λ_ Z5=>wr (dm (da (da (de Z5 (EJ ?_)))));refine rt ?_;rw[if_neg c1];exact⟨_,rfl,z,_,rfl,Vc.Own.nil⟩
 have hE:GH l=0:=AK c1;obtain⟨hb,hRis⟩:=K7.1 hE;refine EI (Z2 _ _ (ws λ_ Z6=>wr (FP (cs:=[.slice none 0 0]) rfl EA RX.all (λb1 w2 e1 x2 m1=>?_))));have g1:=z.ge e1;have z:=z.trans x2;refine de Z6 (ws λ_ Z7=>ws λ_ Z8=>wr (dm ?_));refine dv 79 4 (hv.ext z).sl (dm (de Z8 (EM ?_)));refine Fq (G:=Nat×Value) (λ(k,vc)=>[(0,v),(2,.slice none 0 0),(3,I 0),(5,EE b1 0),(14,v),(15,I ↑l.length),(16,I ↑k)]) (λ(k,vc) w'=>ED w w'/\k<=l.length/\Wr w.heap.size b1 vc ((BF k).flatMap (Jw l)) w') (λ(k,vc)=>l.length-k) (0,.slice none 0 0) ?_ ?_ ?_
 ·exact Gb
 ·exact⟨z,Ae _,⟨m1,Vc.Own.nil⟩⟩
 intro X3 g3 w3 ye;obtain⟨k,vc⟩:=g3;clear z m1;obtain⟨z,hg,r⟩:=ye;refine ws λ_ Z9=>wr (dp (Fb rfl rfl) (de Z9 (ws λ_ yc=>wi (λc2=>?_) λc2=>?_)))
 ·obtain⟨c,hk⟩:∃c,l[k]?=some c:=Fw;have xk:=Qq hb k EB;have hcs:=Ka (hb c (Ak hk));have hng:=QD c.del;refine EI (yc _ _ (ws λ_ xq=>EM (ws λ_ yb=>wr (dm ?_))));refine di 79 4 (hv.ext z).sl rfl ((hv.ext z).lt hk) (dq (Fe EA rfl rfl ((hv.ext z).row hk)) (FP (cs:=[S [],S [],B false,.int .i64 0]) rfl EA RX.all (λb2 w4 e2 x4 J=>?_)));have g2:=z.ge e2;have ha:=r.lt;have r:=r.ext x4;have z:=z.trans x4;refine da ?_;refine FY J (λw5 x5 xs5 J=>?_);dsimp only [EY,Af,Ad,Ag]at J;have r:=r.mod x5 (λk hk h=>by have h2:k=b2:=h;subst h2;exact A6 _ (AA (ha _ hk) e2.symm));have z:=z.o1 x5;refine de yb (ws λ_ x3=>wr (da (de x3 ?_)));refine Hz (G:=Nat) (λn=>[(0,v),(2,.slice none 0 0),(3,I 0),(5,EE b1 0),(6,I ↑k),(7,EE b2 0),(8,I ↑n),(14,v),(15,I ↑l.length),(16,I ↑k)]) (λn w'=>ED w w'/\Wr w.heap.size b1 vc ((BF k).flatMap (Jw l)) w'/\EK w' b2 c.cs 79/\n=Hm l k) ?_ ?_
  ·refine ws λ_ xx=>wr (dm ?_);refine dp (Ot rfl rfl EB EB) (dp (FH rfl rfl) (de xx (wi (λc3=>?_) λc3=>?_)))
   ·obtain⟨x,hg⟩:∃x,l[k-1]?=some x:=Fw;have hcx:=Ka (hb x (Ak hg));refine F9 (R:=ED) ED.refl (λ_ _ _=>ED.trans) EA [5,7] [(0,.p,false),(1,.p,false),(2,.p,false),(3,.p,false),(4,.p,false),(5,.l,false),(6,.p,false),(7,.l,false),(8,.x,true),(9,.p,false)] rfl EA EA (λw6 xp=>?_);have x6:=EL xp;clear xp;have r:=r.ext x6;have J:=J.ext x6;have z:=z.trans x6
    iterate 2 refine dm ?_
    refine EW (v:=I ↑(k-1)) rfl (Gr rfl rfl (by unfold EU;omega)) (by show I _=I _;congr 1;omega) (di 79 4 (hv.ext z).sl rfl ((hv.ext z).lt hg) (df 0 rfl (dL rfl (λ_ hR=>((((hv.ext z).ext hR).row hg).at rfl)) (df 0 rfl (dL rfl (λ_ hR=>((J.ext hR).at rfl)) (cP (Xzw x.key c.key _ EB EB) RX.all λw7 x7=>?_))))));have r:=r.ext x7;have J:=J.ext x7;have z:=z.trans x7;refine da (EH (?_));exact⟨_,Ig,z,r,J,X5o hk hg EB⟩
   refine EI ?_;exact⟨0,Ig,z,r,J,X9n EB⟩
  intro X8 g8 w8 h6;revert h6;revert g8;intro n h6;clear z r J;obtain⟨z,r,J,hn⟩:=h6;refine ws λ_ xw=>wr (dm ?_);refine li (e:=3) (sz:=1) (zs:=[.int .i64 0]) (pv:=[(0,_)]) (cs:=[_]) RX.all (λb3 w9 e3 x9 m3=>?_);have g3:=z.ge e3;have n3_2:=J.ltb e3;have hy:=r.lt;have r:=r.ext x9;have J:=J.ext x9;have z:=z.trans x9;have x0:=hn▸Tx hk;have Y:=J.lt;have O:¬ H2 b1 vc b2:=λZ=>(A6 b2 (AA (ha _ Z) e2.symm));refine cD (JZ w.heap.size b1 vc _ [↑n] (.slice (some ⟨b3,0,none⟩) 1 1) _ r (Ai xk EB) z.size (m3.arr (enc:=Vc.encI) (sz:=1) (l:=[↑n]) rfl EF rfl ER) ER (λk9 Z _ xe=>by have xb:b3=k9:=xe;subst xb;exact(A6 b3 (AA (hy _ Z) e3.symm)))) (.inl rfl) λu10 w10 xm xl=>?_;have hsz10:=z.size;have J:=J.mod xm O;have z:=z.own xm (λi hi=>r.ge g1 hi);obtain⟨rfl,v2,r,hc⟩:=xl;rw[MX EB]at r;have hh:=PY (n:=n) xk;have O:=OE hc O Y;refine de xw (ws λ_ ya=>KW [.p,.l,.p,.p,.x,.x,.x] rfl (df 0 rfl (dl rfl (J.at rfl) (dm ?_))));refine EW (v:=S (c.key.drop n)) rfl (V9 (b:=c.key.length) EA rfl rfl rfl x0 (Ab _)) (by rw[AI]) (Mz (e:=5) rfl EA EA EA rfl RX.all (λb4 xu w11 e4 xh xc=>?_));have g4:=z.ge e4;have n4_2:=J.ltb e4;have hj:=r.lt;have J:=J.ext xh;have r:=r.ext xh;have z:=z.trans xh;refine li (e:=82) (sz:=1) (zs:=[.slice none 0 0]) (pv:=[(0,_)]) (cs:=[_]) RX.all (λb5 w12 e5 hp m5=>?_);have g5:=z.ge e5;have n5_2:=J.ltb e5;have hz:=r.lt;have J:=J.ext hp;have r:=r.ext hp;have xc:=xc.ext hp;have z:=z.trans hp;have Y:=J.lt;refine cD (Lc w.heap.size b1 v2 _ [(.slice (some ⟨b4,0,none⟩) (c.key.drop n).length xu,c.key.drop n)] (.slice (some ⟨b5,0,none⟩) 1 1) _ r (Ai hh EB) z.size (K5 m5) (λq h=>by rw[Ah.1 h];exact xc) (λq h=>by rw[Ah.1 h];exact(by rw[Bh];omega)) ER (λ_ Z=>(A6 b5 (AA (hz _ Z) e5.symm))) (λq h hl Z=>by rw[Ah.1 h]at hl Z;exact(A6 b4 (AA (hj _ Z) e4.symm)))) (.inl rfl) λu13 w13 xi xn=>?_;have hsz13:=z.size;have J:=J.mod xi O;have z:=z.own xi (λi hi=>r.ge g1 hi);obtain⟨rfl,v3,r,hc⟩:=xn;rw[Jy]at r;have hf:=P9 (p:=c.key.drop n) (M:=4096) hh (by rw[Bh];omega);have O:=OE hc O Y;refine de ya (ws λ_ yf=>F9 (R:=Mod (H2 b1 v3)) Jz JV EA [1,3] [(0,.p,false),(1,.l,false),(2,.p,false),(3,.l,false),(4,.x,false),(5,.x,false),(6,.x,false)] rfl EA EA (λw14 h5=>?_));have xa:=EL h5;clear h5;have J:=J.ext xa;have r:=r.ext xa;have z:=z.trans xa;refine df 3 rfl (dL rfl (λ_ hR=>((J.mod hR O).at rfl)) (df 2 rfl (dL rfl (λ_ hR=>((J.mod hR O).at rfl)) (cP (X81 c.del _) RX.mod λw15 xg=>?_))));have J:=J.ext xg;have r:=r.ext xg;have z:=z.trans xg;refine li (e:=3) (sz:=1) (zs:=[.int .i64 0]) (pv:=[(0,_),(1,_)]) (cs:=[_,_]) RX.mod (λb6 w16 e6 xf m6=>?_);have g6:=z.ge e6;have n6_2:=J.ltb e6;have hw:=r.lt;have J:=J.ext xf;have r:=r.ext xf;have z:=z.trans xf;have Y:=J.lt;refine JP rfl EA (JZ w.heap.size b1 v3 _ [c.seq,↑(Kl c.del)] (.slice (some ⟨b6,0,none⟩) 2 2) _ r (Ai hf EB) z.size (m6.arr (enc:=Vc.encI) (sz:=1) (l:=[c.seq,↑(Kl c.del)]) rfl EF rfl ER) ER (λk9 Z _ xe=>by have xb:b6=k9:=xe;subst xb;exact(A6 b6 (AA (hw _ Z) e6.symm)))) rfl (.inr λ_ h=>h) (λu17 w17 xr xo=>?_);have hsz17:=z.size;have J:=J.mod xr O;have z:=z.own xr (λi hi=>r.ge g1 hi);obtain⟨rfl,v4,r,hc⟩:=xo;rw[Ybv EB EB EB]at r;have xd:=Xz2 (m:=c.seq.toNat) (n:=Kl c.del) hf;refine de yf (ws λ_ xy=>wr (df 2 rfl (dl rfl (J.at rfl) (dn (de xy ?_)))));refine wc (λc4=>?_) λc4=>?_
  ·refine KW [.p,.l,.x,.x,.x] rfl (df 1 rfl (dl rfl (J.at rfl) (Mz (e:=5) rfl EA EA EA rfl RX.all (λb7 xv w18 e7 h7 h8=>?_))));have g7:=z.ge e7;have n7_2:=J.ltb e7;have hq:=r.lt;have J:=J.ext h7;have r:=r.ext h7;have z:=z.trans h7;refine li (e:=82) (sz:=1) (zs:=[.slice none 0 0]) (pv:=[(0,_)]) (cs:=[_]) RX.all (λb8 w19 e8 ht m8=>?_);have g8:=z.ge e8;have n8_2:=J.ltb e8;have hr:=r.lt;have J:=J.ext ht;have r:=r.ext ht;have h8:=h8.ext ht;have z:=z.trans ht;have Y:=J.lt;refine cD (Lc w.heap.size b1 v4 _ [(.slice (some ⟨b7,0,none⟩) c.val.length xv,c.val)] (.slice (some ⟨b8,0,none⟩) 1 1) _ r (Ai xd EB) z.size (K5 m8) (λq h=>by rw[Ah.1 h];exact h8) (λq h=>by rw[Ah.1 h];exact(show c.val.length<=1000000 by omega)) ER (λ_ Z=>(A6 b8 (AA (hr _ Z) e8.symm))) (λq h hl Z=>by rw[Ah.1 h]at hl Z;exact(A6 b7 (AA (hq _ Z) e7.symm)))) (.inl rfl) λu20 w20 yd xj=>?_;have hsz20:=z.size;have z:=z.own yd (λi hi=>r.ge g1 hi);obtain⟨rfl,v5,r,hc⟩:=xj;rw[Jy]at r;have hln57:=trivial;refine de xq (wr (pa rfl rfl (dm (EH (?_)))));refine⟨(k+1,v5),Gb,⟨z,by omega,?_⟩,by simp only [];omega⟩;rw[Sy EB,Ss hk,<-hn];unfold JM;have hd:c.del=false:=by simpa using c4
   rw[hd]at r ⊢;simpa only [A7,AO,if_true,if_false,C7]using r
  refine EI (xq _ _ (wr (pa rfl rfl (dm (EH (?_))))));refine⟨(k+1,v4),Gb,⟨z,by omega,?_⟩,by simp only [];omega⟩;rw[Sy EB,Ss hk,<-hn];unfold JM;have hd:c.del=true:=by simpa using c4
  rw[hd]at r ⊢;simpa only [A7,AO,if_true,if_false,C7]using r
 refine Fk (Z7 _ _ (ws λ_ xz=>wr (cG (N3 w.heap.size b1 vc _ _ r (by have:=Qq hb k EB;omega)) RX.all λvo w21 x8 hB=>?_)));have hsz21:=z.size;have z:=z.trans x8;refine da (da (de xz (EJ ?_)));refine rt ?_;rw[Xz3 k EB]at hB;rw[if_pos hE,hE];exact⟨_,rfl,z,_,rfl,hB.mono EB⟩
theorem PN {br b k o:Nat} : (k=br\/∃p∈[((b,o):Nat×Nat)],k=p.1)↔(k=br\/k=b):=by simp
theorem O5 {br b b' k o o':Nat} : (k=br\/∃p∈[((b,o):Nat×Nat),(b',o')],k=p.1)↔(k=br\/k=b\/k=b'):=by simp
theorem X5p {n:Nat}(r:EC)(h:n<=4611686018427387904):IT 1 (EV n++r) false=([n],r,false):=by
 unfold IT;rw[JG r false h];rfl
theorem R3 {n m:Nat}(r:EC)(h:n<=4611686018427387904)(h2:m<=4611686018427387904):IT 2 (EV n++(EV m++r)) false=([n,m],r,false):=by
 unfold IT;rw[JG _ false h];unfold IT;rw[JG _ false h2];rfl
theorem Vn (n:Nat)(c:Cell)(r:EC):JM n c++r=EV n++(Fs (c.key.drop n)++(EV c.seq.toNat++(EV (Kl c.del)++((if c.del then[]else Fs c.val)++r)))):=by unfold JM;simp only [A7]
theorem Xz4 (n:Nat)(c:Cell)(r:EC):JM n c++r≠[]:=λe=>by
 have h:=SJ n c;have h2:=congrArg AC e;rw[Aa,Bi]at h2;omega
theorem X5q {b o n:Nat}{Cs:Nat->List Value} : Gw Cs [(b,o)] [n] b=(Cs b).set o (I ↑n):=by unfold Gw;unfold Gw;rw[if_pos rfl]
theorem WM {b b' o o' n m:Nat}{Cs:Nat->List Value}(h:b≠b'):Gw Cs [(b,o),(b',o')] [n,m] b=(Cs b).set o (I ↑n):=by unfold Gw;unfold Gw;unfold Gw;rw[if_neg h,if_pos rfl]
theorem XG {b b' o o' n m:Nat}{Cs:Nat->List Value}(h:b≠b'):Gw Cs [(b,o),(b',o')] [n,m] b'=(Cs b').set o' (I ↑m):=by unfold Gw;unfold Gw;unfold Gw;rw[if_pos rfl,if_neg (λe=>h e.symm)]
theorem OZ (d:Bool):decide (¬ (↑(Kl d):Int)=0)=d:=by cases d<;>rfl
theorem LZ {α:Type}{a b:α}{P:α->Prop}(h1:P a)(h2:P b):∀p∈[a,b],P p:=λp r=>by
 rcases Aj.1 r with rfl|r
 ·exact h1
 ·rw[Ah.1 r];exact h2
theorem X5r {b o s:Nat}{w:World}(h:EK w s [EE b o] 197):EQ (λp:Nat×Nat=>[EE p.1 p.2]) 1 w (.slice (some ⟨s,0,none⟩) 1 1) [(b,o)]:=h.arr (enc:=λp:Nat×Nat=>[EE p.1 p.2]) (sz:=1) (l:=[(b,o)]) rfl EF rfl ER
theorem Vo {b o b' o' s:Nat}{w:World}(h:EK w s [EE b o,EE b' o'] 197):EQ (λp:Nat×Nat=>[EE p.1 p.2]) 1 w (.slice (some ⟨s,0,none⟩) 2 2) [(b,o),(b',o')]:=h.arr (enc:=λp:Nat×Nat=>[EE p.1 p.2]) (sz:=1) (l:=[(b,o),(b',o')]) rfl EF rfl ER
theorem X9o (br bb:Nat)(v:Value)(n:Nat)(c:Cell)(rest ahead:EC)(w:World)(h:Rd br bb v (JM n c++rest) false w)(hll:(JM n c++rest).length<=2001000020)(hc:Gl c=true)(hn:n<=c.key.length)(hna:n<=ahead.length)(hah:ahead.length<=1000000)(he:ahead.take n++c.key.drop n=c.key) :
  Calls Tryz.prog 261 [EE br 0,S ahead].toArray w (Ff (ET br) w (λu w'=>u=c.v/\∃v',Rd br bb v' rest false w')):=by
 refine cw Tryz.func261 ?_;have J:=Vc.Mod.refl (ET br) w;have z:=h;have ha:=Xz4 n c rest;have O:=h.lt;have hbr:=h.m.lt;rw[Vn]at z;have xf:=Ka hc;have hng:=QD c.del;rw[Vn]at hll;have h5:=hll;rw[Aa]at h5;refine ws λ_ Z1=>wr (FP (cs:=[S [],S [],B false,.int .i64 0]) rfl EA RX.all (λb1 w1 e1 x1 r=>?_));have g1:=J.ge e1;have a1_hR:=z.lt;have z:=z.ext x1;have J:=J.ext x1;refine de Z1 (ws λ_ Z2=>wr (FP (cs:=[.int .i64 0]) rfl EA RX.all (λb2 w2 e2 x2 m2=>?_)));have g2:=J.ge e2;have n2_1:=r.ltb e2;have a2_hR:=z.lt;have z:=z.ext x2;have r:=r.ext x2;have J:=J.ext x2;refine FP (cs:=[.int .i64 0]) rfl EA RX.all (λb3 w3 e3 x3 Y=>?_);have g3:=J.ge e3;have n3_1:=r.ltb e3;have n3_2:=m2.ltb e3;have a3_hR:=z.lt;have z:=z.ext x3;have r:=r.ext x3;have m2:=m2.ext x3;have J:=J.ext x3;refine de Z2 (ws λ_ Z3=>wr (dm ?_));refine li (e:=197) (sz:=1) (zs:=[.pointer none]) (pv:=[(0,_)]) (cs:=[_]) RX.all (λb4 w4 e4 x4 m4=>?_);have g4:=J.ge e4;have n4_1:=r.ltb e4;have n4_2:=m2.ltb e4;have n4_3:=Y.ltb e4;have a4_hR:=z.lt;have z:=z.ext x4;have r:=r.ext x4;have m2:=m2.ext x4;have Y:=Y.ext x4;have J:=J.ext x4;refine cD (PH br bb v _ false [(b2,0)] (.slice (some ⟨b4,0,none⟩) 1 1) (λ_=>[I 0]) (λ_=>3) _ z (by rw[Aa];omega) (X5r m4) ER (λp hp=>by rw[Ah.1 hp];exact⟨m2,DC⟩) (λp hp Z=>by rw[Ah.1 hp]at Z;have h8:=O _ (Ib (λ_=>ha) Z);have h7:b2<w.heap.size:=h8;omega) (λ_ Z=>by have h2:b4=br\/b4=b2:=PN.1 Z;omega)) (.inl rfl) λu5 w5 x5 xd=>?_;have hsz5:=J.size;have r:=r.mod x5 (λZ=>by have h2:b1=br\/b1=b2:=PN.1 Z;omega);have Y:=Y.mod x5 (λZ=>by have h2:b3=br\/b3=b2:=PN.1 Z;omega);have J:=J.own x5 (λi hi hl=>(show i=br from by have h2:=PN.1 hi;omega));obtain⟨rfl,v1,z,hf⟩:=xd;have m2:=hf (b2,0) Al;rw[show[((b2,0):Nat×Nat)].length=1 from rfl,X5p _ EB]at z m2;rw[show((b2,0):Nat×Nat).1=b2 from rfl,X5q]at m2;refine de Z3 (ws λ_ Z4=>wr (dm ?_));have hb5:=r.lt;refine cD (Kx br bb v1 _ false _ z (by simp only [Aa]at *;omega)) (.inl rfl) λu6 w6 x6 xe=>?_;have hsz6:=J.size;have r:=r.mod x6 (λZ=>by have h2:_=br:=Z;omega);have Y:=Y.mod x6 (λZ=>by have h2:_=br:=Z;omega);have m2:=m2.mod x6 (λZ=>by have h2:_=br:=Z;omega);have J:=J.own x6 (λi hi hl=>hi);obtain⟨hO,v2,z⟩:=xe;rw[Ks _ _ _ (by rw[Bh];omega)]at hO z;dsimp only at hO z;refine da (de Z4 (ws λ_ Z5=>ws λ_ Z6=>wr ?_));refine dl rfl (m2.at rfl) (dm ?_);refine dt rfl (dp (Gg rfl rfl) (de Z6 (wi (λc1=>?_) λc1=>?_)))
 ·omega
 refine EI (Z5 _ _ (ws λ_ Z7=>F9 (R:=ED) ED.refl (λ_ _ _=>ED.trans) EA [1,4] [(0,.p,false),(1,.l,false),(2,.p,false),(3,.p,false),(4,.l,false),(5,.p,false),(6,.p,false),(7,.x,true)] rfl EA EA (λw7 hq=>?_)));have x7:=EL hq;clear hq;have r:=r.ext x7;have Y:=Y.ext x7;have m2:=m2.ext x7;have hO:=hO.ext x7;have z:=z.ext x7;have J:=J.ext x7;refine dm ?_;refine dL rfl (λ_ z=>((m2.ext z).at rfl)) (EW (v:=S (ahead.take n)) rfl (V9 (a:=0) EA rfl rfl rfl (Ae _) hna) (by rw[Ch]) (dm ?_));refine FW rfl (λw' z=>Kq EA EA ((hO.ext z).arr EF) rfl) (EW (v:=S c.key) rfl (II rfl rfl (by simp;omega)) (by rw[he]) (df 0 rfl (G4 r (λw8 x8 xs8 r=>?_) (hv:=by rfl))));dsimp only [EY,Af,Ad,Ag]at r;have Y:=Y.mo x8;have z:=z.mod x8 (λk hk e=>by have h2:k=b1:=e;have h8:=O _ (Ib (λ_=>ha) hk);omega);have J:=J.o1 x8;refine de Z7 (ws λ_ Z8=>wr (dm ?_));refine df 3 rfl (li (e:=197) (sz:=1) (zs:=[.pointer none]) (pv:=[(0,_),(1,_)]) (cs:=[_,_]) RX.all (λb5 w9 e5 x9 m5=>?_));have g5:=J.ge e5;have n5_1:=r.ltb e5;have n5_3:=Y.ltb e5;have a5_hR:=z.lt;have r:=r.ext x9;have Y:=Y.ext x9;have z:=z.ext x9;have J:=J.ext x9;refine cD (PH br bb v2 _ false [(b1,3),(b3,0)] (.slice (some ⟨b5,0,none⟩) 2 2) (λk=>if k=b1 then[S c.key,S [],B false,I 0]else[I 0]) (λk=>if k=b1 then 79 else 3) _ z (by simp only [Aa]at *;omega) (Vo m5) ER (LZ (P:=λp:Nat×Nat=>EK _ p.1 (if p.1=b1 then _ else _) (if p.1=b1 then _ else _)/\p.2<(if p.1=b1 then _ else _:List Value).length) (by rw[if_pos rfl,if_pos rfl];exact⟨r,(by decide:3<4)⟩) (by rw[if_neg EB,if_neg EB];exact⟨Y,DC⟩)) (LZ (P:=λp:Nat×Nat=>¬ Mc br bb _ p.1) (λZ=>by have h8:=O _ (Ib (λ_=>ha) Z);have h7:b1<w.heap.size:=h8;omega) (λZ=>by have h8:=O _ (Ib (λ_=>ha) Z);have h7:b3<w.heap.size:=h8;omega)) (λ_ Z=>by have h2:b5=br\/b5=b1\/b5=b3:=O5.1 Z;omega)) (.inl rfl) λu10 w10 xb hw=>?_;have hsz10:=J.size;have J:=J.own xb (λi hi hl=>(show i=br from by have h2:=O5.1 hi;omega));obtain⟨rfl,v3,z,hf⟩:=hw;have hb:b1≠b3:=by omega
 have r:=hf (b1,3) Al;have Y:=hf (b3,0) (Am _ Al);rw[show[((b1,3):Nat×Nat),(b3,0)].length=2 from rfl,R3 _ EB EB]at z r Y;dsimp only at z r Y;rw[WM hb,if_pos rfl,if_pos rfl]at r;rw[XG hb,if_neg (λe=>hb e.symm),if_neg (λe=>hb e.symm)]at Y;dsimp only [Af]at r Y;rw[show((c.seq.toNat:Nat):Int)=c.seq by omega]at r;refine de Z8 (ws λ_ Z9=>ws λ_ xc=>wr (dl rfl (Y.at rfl) (EW (v:=B c.del) rfl (FH rfl rfl) (by show B _=B _;congr 1;exact OZ _) (df 2 rfl (G4 r (λw11 hj xs11 r=>?_) (hv:=by rfl))))));dsimp only [EY,Af,Ad,Ag]at r;have z:=z.mod hj (λk hk e=>by have h2:k=b1:=e;have h8:=O _ (Ib (λ_=>ha) hk);omega);have Y:=Y.mo hj;have J:=J.o1 hj;refine de xc (ws λ_ xg=>wr (df 2 rfl (dl rfl (r.at rfl) (dn (de xg ?_)))));refine wc (λc2=>?_) λc2=>?_
 ·refine KW [.p,.x,.l,.p,.x] rfl (dm ?_);have hb6:=r.lt;refine cD (Kx br bb v3 _ false _ z (by simp only [Aa]at *;omega)) (.inl rfl) λu12 w12 hh hr=>?_;have hsz12:=J.size;have r:=r.mod hh (λZ=>by have h2:_=br:=Z;omega);have Y:=Y.mod hh (λZ=>by have h2:_=br:=Z;omega);have J:=J.own hh (λi hi hl=>hi);have hd:c.del=false:=by simpa using c2
  obtain⟨hg,v4,z⟩:=hr;rw[hd,if_neg EN,Ks _ _ _ EB]at hg z;dsimp only at hg z;refine dq (Kq EA EA (hg.arr EF) rfl) (df 1 rfl (G4 r (λw13 ht xs13 r=>?_) (hv:=by rfl)));dsimp only [EY,Af,Ad,Ag]at r;have z:=z.mod ht (λk hk e=>by have h2:k=b1:=e;have h8:=O _ (Ib (λ_=>ha) hk);omega);have J:=J.o1 ht;refine de Z9 (ws λ_ xa=>wr (dq (Fe (k:=4) EA rfl rfl r.row) (FY r (λw14 hy xs14 r=>?_))));dsimp only [EY,Af,Ad,Ag]at r;have z:=z.mod hy (λk hk e=>by have h2:k=b1:=e;have h8:=O _ (Ib (λ_=>ha) hk);omega);have J:=J.o1 hy;refine de xa (EJ (Nu (k:=4) rfl rfl rfl EA rfl r.row ?_));have e0:c=⟨c.key,c.val,false,c.seq⟩:=by rw[<-hd]
  rw[hd]at r;refine⟨_,rfl,J,by rw[e0],v4,z⟩
 refine EI (Z9 _ _ (ws λ_ h6=>wr (dq (Fe (k:=4) EA rfl rfl r.row) (FY r (λw15 hz xs15 r=>?_)))));dsimp only [EY,Af,Ad,Ag]at r;have z:=z.mod hz (λk hk e=>by have h2:k=b1:=e;have h8:=O _ (Ib (λ_=>ha) hk);omega);have J:=J.o1 hz;refine de h6 (EJ (Nu (k:=4) rfl rfl rfl EA rfl r.row ?_));have hd:c.del=true:=by simpa using c2
 have e0:c=⟨c.key,[],true,c.seq⟩:=by rw[<-hd,<-xf.2.2.2.2.2 hd]
 rw[hd,if_pos rfl,AE]at z;exact⟨_,rfl,J,by rw[e0],v3,z⟩
structure Sz (n:Nat)(w:World):Prop where
 le:n<=w.heap.size
theorem Sz.ext {n:Nat}{w w':World}(h:Sz n w)(x:ED w w'):Sz n w':=⟨Ai h.le x.size⟩
theorem Sz.mod {n:Nat}{w w':World}{S:Nat->Prop}(h:Sz n w)(x:Vc.Mod S w w')(_:True):Sz n w':=⟨Ai h.le x.size⟩
theorem RM {l:List Cell}{k:Nat} : 0<(Ih l k).length↔k<l.length:=by
 by_cases h:k<l.length
 ·rw[QV h,Aa];have:=SJ (Hm l k) (l[k]?.getD Cell.zero);unfold Jw;exact⟨λ_=>h,λ_=>by omega⟩
 ·rw[R8 EB];exact⟨λh2=>by simp at h2,λh2=>absurd h2 h⟩
theorem Xz5 {l:List Cell}(k:Nat):(Ih l k).length<=(Hl l).length:=by
 by_cases h:k<=l.length
 ·induction k with
  | zero=>exact Ab _
  | succ k ih=>
   have:=ih EB;rw[QV EB,Aa]at this;omega
 ·rw[R8 EB];exact Ae _
theorem Xz6 {l:List Cell}(h:∀c∈l,Gl c=true)(k:Nat):(if k=0 then([]:EC)else(l[k-1]?.getD Cell.zero).key).length<=4096:=by
 split
 ·simp
 ·cases e:l[k-1]? with
  | none=>simp [Cell.zero]
  | some c=>exact(Ka (h c (Ak e))).1
theorem Xz7 {l:List Cell}(h:Hl l=[]):l=[]:=by
 cases l with
 | nil=>rfl
 | cons a r=>
  have:=(RM (l:=a :: r) (k:=0)).2 ER;rw[X80,h]at this;simp at this
theorem Xz8 (l:List Cell)(v:Value)(w:World)(hv:EQ EO 1 w v (Hl l))(hl:l.length<=30000)(hE:GH l=0) :
  Calls Tryz.prog 196 [v].toArray w (ES w (λu w'=>∃vb,u=.tuple #[vb,I 0]/\Vc.Own Cell.cs 4 79 w.heap.size w' vb l)):=by
 refine cw Tryz.func196 ?_;have r:=ED.refl w;obtain⟨Y,hRis⟩:=K7.1 hE;have hbl:=Pg Y;refine ws λ_ Z1=>wr (da (da (de Z1 (ws λ_ Z2=>wr (dm ?_)))));refine cG (M6 (Hl l) v _ (hv.ext r) EB) RX.all λu1 w1 x1 xg=>?_;have hr:=r.size;have r:=r.trans x1;obtain⟨br,bb,xk,rfl,gbr,gbb,z⟩:=xg;have J:Sz w1.heap.size w1:=⟨Ab _⟩;have hh:=z.lt;have hj:=Ai hr x1.size;refine da (de Z2 (ws λ_ Z3=>wr (da (de Z3 (ws λ_ Z4=>EM ?_)))));refine Fq (G:=Nat×Value×Value) (λ(k,Z,vl)=>[(0,v),(4,EE br 0),(5,vl)]) (λ(k,Z,vl) w'=>ED w w'/\k<=l.length/\Rd br bb Z (Ih l k) false w'/\Vc.Own Cell.cs 4 79 w1.heap.size w' vl (l.take k)/\Sz w1.heap.size w') (λ(k,Z,vl)=>l.length-k) (0,xk,.slice none 0 0) ?_ ?_ ?_
 ·exact Hd
 ·exact⟨r,Ae _,z,Vc.Own.nil,J⟩
 intro X2 g2 w2 xj;obtain⟨k,Z,vl⟩:=g2;clear r z J;obtain⟨r,hk9,z,ho,J⟩:=xj;refine ws λ_ Z5=>ws λ_ Z6=>wr (dm ?_);refine cP (X8u br bb Z (Ih l k) false _ z) RX.all λw3 x3=>?_;have z:=z.ext x3;have ho:=ho.ext x3;have J:=J.ext x3;have r:=r.trans x3;refine dp (Gg rfl rfl) (de Z6 (wi (λc1=>?_) λc1=>?_))
 ·have htl:(l.take k).length=k:=by rw[A5];omega
  have O:k<l.length:=by have:=(RM (l:=l) (k:=k)).1 EB;exact this
  have hz:Hl l≠[]:=λe=>by rw[Xz7 e]at O;simp at O
  obtain⟨c,hk⟩:∃c,l[k]?=some c:=⟨_,Ar O⟩;have h6:=Y c (Ak hk);have hcs:=Ka h6;refine EI (Z5 _ _ (EM (ws λ_ Z7=>wr (da (de Z7 ?_)))));refine Hz (G:=EC) (λp=>[(0,v),(4,EE br 0),(5,vl),(6,S p)]) (λp w'=>ED w w'/\Rd br bb Z (Ih l k) false w'/\Vc.Own Cell.cs 4 79 w1.heap.size w' vl (l.take k)/\Sz w1.heap.size w'/\p=if k=0 then[]else(l[k-1]?.getD Cell.zero).key) ?_ ?_
  ·refine ws λ_ Z8=>wr (dm ?_);refine dv 79 4 (ho.arr EF).sl (dp (Gg rfl rfl) (de Z8 (wi (λc2=>?_) λc2=>?_)))
   ·obtain⟨x,hk0⟩:∃x,l[k-1]?=some x:=Fw;have h5:(l.take k)[k-1]?=some x:=by rw[AW,if_pos EB];exact hk0
    refine wr (dm (dm ?_));refine dv 79 4 (ho.arr EF).sl (EW (v:=I ↑(k-1)) rfl (Gr rfl rfl (by unfold EU;omega)) (by show I _=I _;congr 1;omega) (di 79 4 (ho.arr EF).sl rfl ((ho.arr EF).lt h5) (df 0 rfl (dl rfl (((ho.arr EF).row h5).at rfl) (da (EH (?_)))))));exact⟨_,Gc,r,z,ho,J,by rw[if_neg EB,hk0];rfl⟩
   refine EI ?_;exact⟨_,Gc,r,z,ho,J,by rw[if_pos EB]⟩
  intro X4 g4 w4 hb;revert hb;revert g4;intro p hb;clear r z ho J;obtain⟨r,z,ho,J,hp⟩:=hb;refine ws λ_ Z9=>wr (dm (dm ?_));have ht:=Xve hk p hp;have hpl:=hp▸Xz6 Y k;have xh:=Xz5 (l:=l) k;rw[QV O,Ss hk]at z xh;refine cD (X9o br bb Z (Hm l k) c (Ih l (k+1)) p _ z EB h6 (Tx hk) ht.1 EB ht.2) (.inl rfl) λu5 w5 x5 xf=>?_;have hsz5:=r.size;have ho:=ho.mod x5 (λk9 h9 e=>ho.ne_blk z.m rfl (by rw[h9];exact congrArg some e));have J:=J.mod x5 trivial;have r:=r.own x5 (λi hi=>(by have h2:i=br:=hi;omega));obtain⟨rfl,xi,z⟩:=xf;refine FP (cs:=[S [],S [],B false,.int .i64 0]) rfl EA RX.all (λb1 w6 e1 x6 m1=>?_);have g1:=r.ge e1;have hf:=ho.ltb e1;have a1_hS:=J.le;have ha:=z.lt;have ho:=ho.ext x6;have J:=J.ext x6;have z:=z.ext x6;have r:=r.trans x6;refine FY m1 (λw7 x7 xs7 m1=>?_);dsimp only [EY,Af,Ad,Ag]at m1;have ho:=ho.mod x7 (by intro k hk h;have h1:=hf k hk;have h2:k=b1:=h;omega);have J:=J.mod x7 trivial;have z:=z.mod x7 (λk9 h9 e=>by have h2:k9=b1:=e;have h8:=ha k9 h9;omega);have r:=r.o1 x7;refine de Z9 (ws λ_ xe=>ws λ_ xm=>wr (df 0 rfl (dl rfl (m1.at rfl) (dt rfl (dp (Gg rfl rfl) (de xm (wi (λc3=>?_) λc3=>?_)))))))
  ·omega
  refine EI (xe _ _ (wr (dm ?_)));refine dq (Fe (k:=4) EA rfl rfl m1.row) (li (e:=79) (sz:=4) (zs:=[S [],S [],B false,.int .i64 0]) (pv:=[(0,.agg ⟨[_,_,_,_]⟩)]) (cs:=[_,_,_,_]) RX.all (λb2 w8 e2 x8 m2=>?_));have g2:=r.ge e2;have o2_ho:=ho.ltb e2;have a2_hS:=J.le;have a2_hR:=z.lt;have ho:=ho.ext x8;have J:=J.ext x8;have z:=z.ext x8;have r:=r.trans x8;refine Hy (lx:=[c]) (e:=79) (sz:=4) (by':=48) rfl EA EA EF ho (m2.arr (enc:=Cell.cs) (sz:=4) (l:=[c]) rfl EF rfl (Av rfl)) rfl rfl (by intro x _ u hu;simp at hu;rcases hu with rfl|rfl|rfl|rfl<;>rfl) (by simp;omega) EN J.le (.inl rfl) (λxl w9 hy x9=>?_);have J:=J.mod x9 (by trivial);have z:=z.mod x9 (by intro k9 h9 e9;have h8:=hh k9 (Ib (λ_=>hz) h9);have h7:=(ho.lt k9 e9).1;omega);have r:=r.own x9 (λi hi=>(Ai hj (ho.lt i hi).1));have ho:=hy;clear m2;refine da (EH (?_));refine⟨(k+1,xi,xl),Hd,⟨r,by omega,z,?_,J⟩,by simp only [];omega⟩;rw[G1 hk];exact ho
 have O:l.length<=k:=by
  have h9:=(RM (l:=l) (k:=k)).2;omega
 have hkl2:k=l.length:=by omega
 refine Fk (Z4 _ _ (ws λ_ xd=>ws λ_ xc=>wr (dm ?_)));rw[Ay O]at ho;rw[R8 O]at z;refine cG (RC l vl _ (ho.arr EF) hl) RX.all λu10 w10 hc hw=>?_;have hsz10:=r.size;have z:=z.ext hc;have ho:=ho.ext hc;have r:=r.trans hc;obtain⟨vb,rfl,hB⟩:=hw;rw[if_pos hE]at hB;refine dm ?_;refine dx rfl rfl (dx rfl rfl (da (da (de xc (ws λ_ xb=>wr (dm ?_))))));refine cP (PB br bb Z [] false _ z) RX.all λw11 hg=>?_;have ho:=ho.ext hg;have hB:=hB.ext hg;have r:=r.trans hg;refine dn (dm ?_);refine I5 44 rfl (λc4=>?_) (λc4=>?_)
 ·simp at c4
 refine dm ?_;refine dp (FH rfl rfl) (EP ?_);refine dm ?_;refine F4 48 rfl (λc5=>?_) (λc5=>?_)
 ·exact absurd hE c5
 iterate 2 refine dm ?_
 refine cP (Ow (Hl l) (Hl l) vb v _ (hB.arr EF) (hv.ext r)) RX.all λw12 hq=>?_;have ho:=ho.ext hq;have r:=r.trans hq;refine dn ?_;refine EP (de xb ?_);refine wc (λc6=>?_) λc6=>?_
 ·simp at c6
 refine EI (xd _ _ (ws λ_ xa=>wr (dm (da (da (de xa (EJ ?_)))))));refine rt ?_;exact⟨_,rfl,r,vl,rfl,ho.mono hj⟩
end Go.Proofs.YtiooodckiddpmaaGreatDoor
namespace Go.Sp
open Go.Vc (EC)
def Gh (l:List Cell)(k:Nat):Cell:=l[k]?.getD Cell.zero
theorem Fy {l:List Cell}{k:Nat}{c:Cell}(h:l[k]?=some c):Gh l k=c:=by unfold Gh;rw[h];rfl
def JB (l:List Cell)(k:Nat):Bool:=decide (k=0) || decide ((Gh l (k-1)).key≠(Gh l k).key)
def Lm (l:List Cell)(k:Nat):List EC:=((BF k).filter (JB l)).map λi=>(Gh l i).key
def H9 (l:List Cell):List EC:=Lm l l.length
theorem Xs8 (l:List Cell)(k:Nat):Lm l (k+1)=if JB l k=true then Lm l k++[(Gh l k).key]else Lm l k:=by
 unfold Lm;rw[List.range_succ,BL];split
 ·rename_i h;simp [h]
 ·rename_i h;simp [h]
theorem LS (l:List Cell)(k:Nat):(Lm l k).length<=k:=by
 unfold Lm;rw[List.length_map];exact Ai (BI _ _) ER
theorem Uo (l:List Cell):∀(i k:Nat),i<k->(Gh l i).key∈Lm l k
 | 0,k,h=>Aq.2 ⟨0,A3.2 ⟨DD.2 h,rfl⟩,rfl⟩
 | i+1,k,h=>by
  by_cases e:JB l (i+1)=true
  ·exact Aq.2 ⟨i+1,A3.2 ⟨DD.2 h,e⟩,rfl⟩
  ·have r:=Uo l i k EB;unfold JB at e;simp at e;rw[<-e];exact r
theorem Xv3 {l:List Cell}{c:Cell}(h:c∈l):c.key∈H9 l:=by
 obtain⟨i,hi⟩:=Ci.1 h;have:=Uo l i l.length (Ap.1 hi).1;rwa [Fy hi]at this
theorem Xy {l:List Cell}{k:Nat}(hk:k<=l.length){s:EC}(h:s∈Lm l k):∃c∈l,c.key=s:=by
 obtain⟨i,hi,rfl⟩:=Aq.1 h;have hi2:=DD.1 (A3.1 hi).1;have e:l[i]?=some l[i]:=Ar EB;exact⟨l[i],List.getElem_mem ..,by rw[Fy e]⟩
def FM (l:List Cell):Nat->List (Nat×Nat)×Nat×Nat
 | 0=>([],0,0)
 | k+1=>if k=0 then([],0,Gt (Gh l 0))else if 512<(FM l k).2.2+Gt (Gh l k)then((FM l k).1++[((FM l k).2.1,k)],k,Gt (Gh l k))else((FM l k).1,(FM l k).2.1,(FM l k).2.2+Gt (Gh l k))
def Jq (l:List Cell)(k:Nat):List (Nat×Nat):=if k=0 then[]else(FM l k).1++[((FM l k).2.1,k)]
def G5 (l:List Cell):List (Nat×Nat):=Jq l l.length
def G3 : Nat->List (Nat×Nat)->Nat->Prop
 | a,[],b=>a=b
 | a,p :: r,b=>p.1=a/\a<p.2/\p.2<=a+32/\G3 p.2 r b
theorem G3.append {a b c:Nat}{l m:List (Nat×Nat)}(h:G3 a l b)(h2:G3 b m c):G3 a (l++m) c:=by
 induction l generalizing a with
 | nil=>rw[show a=b from h];exact h2
 | cons p r ih=>exact⟨h.1,h.2.1,h.2.2.1,ih h.2.2.2⟩
theorem G3.le {a b:Nat}{l:List (Nat×Nat)}(h:G3 a l b):a+l.length<=b:=by
 induction l generalizing a with
 | nil=>have e:a=b:=h;simp;omega
 | cons p r ih=>
  have:=ih h.2.2.2;have:=h.2.1;simp;omega
theorem G3.mem {a b:Nat}{l:List (Nat×Nat)}(h:G3 a l b){p:Nat×Nat}(hp:p∈l):a<=p.1/\p.1<p.2/\p.2<=p.1+32/\p.2<=b:=by
 induction l generalizing a with
 | nil=>cases hp
 | cons q r ih=>
  rcases Aj.1 hp with rfl|hp
  ·have:=h.2.2.2.le;have:=h.1;have:=h.2.1;have:=h.2.2.1;exact⟨by omega,by omega,by omega,by omega⟩
  ·have:=ih h.2.2.2 hp;have:=h.2.1;exact⟨by omega,by omega,by omega,by omega⟩
theorem Xz9 (l:List Cell)(k:Nat):G3 0 (FM l (k+1)).1 (FM l (k+1)).2.1/\(FM l (k+1)).2.1<k+1/\16*(k+1-(FM l (k+1)).2.1)<=(FM l (k+1)).2.2/\((FM l (k+1)).2.2<=512\/k+1=(FM l (k+1)).2.1+1):=by
 induction k with
 | zero=>
  unfold FM;rw[if_pos rfl];exact⟨rfl,Nat.one_pos,by unfold Gt;simp,.inr rfl⟩
 | succ k ih=>
  obtain⟨h1,h2,h3,h4⟩:=ih;rw[FM.eq_2,if_neg EB];split
  ·refine⟨h1.append ⟨rfl,h2,?_,rfl⟩,by show k+1<k+1+1;omega,by show 16*(k+1+1-(k+1))<=Gt _;unfold Gt;omega,.inr rfl⟩;rcases h4 with h4|h4<;>omega
  ·rename_i hn;refine⟨h1,by show(FM l (k+1)).2.1<k+1+1;omega,?_,?_⟩
   ·show 16*(k+1+1-(FM l (k+1)).2.1)<=(FM l (k+1)).2.2+Gt _;unfold Gt;omega
   ·left;show(FM l (k+1)).2.2+Gt _<=512;omega
theorem Mw (l:List Cell)(k:Nat):G3 0 (Jq l k) k:=by
 cases k with
 | zero=>rfl
 | succ k=>
  obtain⟨h1,h2,h3,h4⟩:=Xz9 l k;unfold Jq;rw[if_neg EB];refine h1.append ⟨rfl,h2,?_,rfl⟩;show k+1<=_;rcases h4 with h4|h4<;>omega
theorem OI (l:List Cell)(k:Nat):(Jq l k).length<=k:=by have:=(Mw l k).le;omega
def HV (l:List Cell)(p:Nat×Nat):List Cell:=(l.take p.2).drop p.1
theorem Uk {l:List Cell}{p:Nat×Nat}(h:p.2<=p.1+32):(HV l p).length<=32:=by
 unfold HV;rw[Bh,A5];omega
theorem V3 {l:List Cell}{a b:Nat}{ps:List (Nat×Nat)}(h:G3 a ps b):ps.flatMap (HV l)=(l.take b).drop a:=by
 induction ps generalizing a with
 | nil=>
  have e:a=b:=h;subst e;rw[List.drop_eq_nil_of_le (by rw[A5];omega)];rfl
 | cons p r ih=>
  have hle:=h.2.2.2.le;rw[AB,ih h.2.2.2];unfold HV;rw[h.1];have z:p.2<=b:=by omega
  have e1:l.take p.2=(l.take b).take p.2:=by rw[List.take_take,Nat.min_eq_left z]
  have e2:(l.take b).drop a=((l.take b).drop a).take (p.2-a)++((l.take b).drop a).drop (p.2-a):=(Bc _ _).symm;have h3:=h.2.1;rw[e2,List.drop_drop,show a+(p.2-a)=p.2 by omega,e1,List.drop_take]
theorem OV {l:List Cell}{p:Nat×Nat}{c:Cell}(h:c∈HV l p):c∈l:=List.mem_of_mem_take (List.mem_of_mem_drop h)
theorem WV {l:List Cell}{p:Nat×Nat}{k:Nat}{c:Cell}(h:(HV l p)[k]?=some c):l[p.1+k]?=some c:=by
 unfold HV at h;rw[List.getElem?_drop,AW]at h;split at h
 ·exact h
 ·cases h
theorem Rb {l:List Cell}(h:GH l=0)(p:Nat×Nat):GH (HV l p)=0:=by
 obtain⟨h1,h2⟩:=K7.1 h;exact K7.2 ⟨λc z=>h1 c (OV z),Xzu λk a b J r=>Um h2 (WV J) (by have:=WV r;rwa [show p.1+(k+1)=p.1+k+1 by omega]at this)⟩
def IP (l:List Cell)(p:Nat×Nat):EC:=Fs (Gh l (p.2-1)).key++EV (Gh l (p.2-1)).seq.toNat++Fs (Hl (HV l p))
end Go.Sp
namespace Go.Proofs.YtiooodckiddpmaaGreatDoor
open Go.Vc Go.Sp
attribute [local irreducible] W XW Dw Gs
@[reducible] def Jc (p:Nat×Nat):List Value:=[I ↑p.1,I ↑p.2]
theorem VJ {l:List Cell}{k:Nat} : Jq l (k+1)=(FM l (k+1)).1++[((FM l (k+1)).2.1,k+1)]:=by unfold Jq;rw[if_neg EB]
theorem Xv5 {l:List Cell}{k:Nat} : Jq l k=[]↔k=0:=by
 unfold Jq;split
 ·rename_i h;exact⟨λ_=>h,λ_=>rfl⟩
 ·rename_i h;exact⟨λe=>by simp at e,λe=>absurd e h⟩
theorem VG {l:List Cell}{k:Nat}(h:k=0\/512<(FM l k).2.2+Gt (Gh l k)):FM l (k+1)=(Jq l k,k,Gt (Gh l k)):=by
 rw[FM.eq_2];unfold Jq
 by_cases e:k=0
 ·subst e;rfl
 ·rw[if_neg e,if_pos (h.resolve_left e),if_neg e]
theorem X5s {l:List Cell}{k:Nat}(h:k≠0)(h2:¬ 512<(FM l k).2.2+Gt (Gh l k)):FM l (k+1)=((FM l k).1,(FM l k).2.1,(FM l k).2.2+Gt (Gh l k)):=by
 rw[FM.eq_2,if_neg h,if_neg h2]
theorem Xs (l:List Cell)(hl:∀c∈l,Gt c<=1000000)(k:Nat):(FM l k).2.2<=1000512:=by
 have r:∀k,Gt (Gh l k)<=1000000:=λk=>by
  unfold Gh
  cases e:l[k]? with
  | none=>simp [Cell.zero,Gt]
  | some c=>exact hl c (Ak e)
 cases k with
 | zero=>simp [FM]
 | succ k=>
  rw[FM.eq_2];have:=r k;have:=r 0;split
  ·simp only;omega
  ·split<;>simp only<;>omega
theorem X5t {α:Type}{l:List α}{a b:α} : (l++[a]).set l.length b=l++[b]:=by simp
theorem XT (l:List Cell)(v:Value)(w:World)(hv:EQ Cell.cs 4 w v l)(hl:l.length<=30000) :
  Calls Tryz.prog 198 [v].toArray w (ES w (λu w'=>Vc.Own FU 1 9 w.heap.size w' u (H9 l))):=by
 refine cw Tryz.func198 ?_;have r:=ED.refl w;refine ws λ_ Z1=>wr (da (de Z1 (ws λ_ Z2=>wr (da (de Z2 (ws λ_ Z3=>ws λ_ Z4=>wr (dm ?_)))))));refine dv 79 4 hv.sl (dm (de Z4 (EM ?_)));refine Fq (G:=Nat×Value) (λ(k,vm)=>[(0,v),(2,.slice none 0 0),(3,vm),(6,v),(7,I ↑l.length),(8,I ↑k)]) (λ(k,vm) w'=>ED w w'/\k<=l.length/\Vc.Own FU 1 9 w.heap.size w' vm (Lm l k)) (λ(k,vm)=>l.length-k) (0,.slice none 0 0) ?_ ?_ ?_
 ·exact G2
 ·exact⟨r,Ae _,Vc.Own.nil⟩
 intro X1 g1 w1 hc;obtain⟨k,vm⟩:=g1;clear r;obtain⟨r,hk9,ho⟩:=hc;refine ws λ_ Z5=>wr (dp (Fb rfl rfl) (de Z5 (ws λ_ Z6=>wi (λc1=>?_) λc1=>?_)))
 ·obtain⟨c,hk⟩:∃c,l[k]?=some c:=Fw;have hlk:=LS l k;have Y:=Xs8 l k;rw[Fy hk]at Y;refine EI (Z6 _ _ (ws λ_ Z7=>EM (ws λ_ Z8=>wr (dm ?_))));refine di 79 4 hv.sl rfl (hv.lt hk) (dq (Fe EA rfl rfl ((hv.ext r).row hk)) (FP (cs:=[S [],S [],B false,.int .i64 0]) rfl EA RX.all (λb1 w2 e1 x2 z=>?_)));have g1:=r.ge e1;have O:=ho.ltb e1;have ho:=ho.ext x2;have r:=r.trans x2;refine da ?_;refine FY z (λw3 x3 xs3 z=>?_);dsimp only [EY,Af,Ad,Ag]at z;have ho:=ho.mod x3 (by intro k hk h;have h1:=O k hk;have h2:k=b1:=h;omega);have r:=r.o1 x3;refine de Z8 (ws λ_ Z9=>F9 (R:=ED) ED.refl (λ_ _ _=>ED.trans) EA [8,10] [(0,.p,false),(1,.p,false),(2,.p,false),(3,.p,false),(4,.p,false),(5,.p,false),(6,.p,false),(7,.p,false),(8,.l,false),(9,.p,false),(10,.l,false),(11,.p,false),(12,.p,false)] rfl EA EA (λw4 ha=>?_));have x4:=EL ha;clear ha;have ho:=ho.ext x4;have z:=z.ext x4;have r:=r.trans x4;refine dm ?_;refine dp (GB rfl rfl) (dm ?_);refine F4 15 rfl (λc2=>?_) (λc2=>?_)
  ·iterate 9 refine dk ?_
   refine EP (de Z9 ?_);refine GS rfl (wr (dm ?_));refine df 0 rfl (dl rfl (z.at rfl) (li (e:=9) (sz:=1) (zs:=[S []]) (pv:=[(0,_)]) (cs:=[_]) RX.all (λb2 w5 e2 x5 m2=>?_)));have g2:=r.ge e2;have n2_1:=z.ltb e2;have o2_ho:=ho.ltb e2;have ho:=ho.ext x5;have z:=z.ext x5;have r:=r.trans x5;refine Hy (lx:=[c.key]) (e:=9) (sz:=1) (by':=16) rfl EA EA EF ho (m2.arr (enc:=FU) (sz:=1) (l:=[c.key]) rfl EF rfl (Av rfl)) rfl rfl (by intro x _ u hu;simp at hu;rcases hu with rfl<;>rfl) (by simp;omega) EN r.size (.inl rfl) (λZ w6 J x6=>?_);have z:=z.mod x6 (by intro h;have h1:=O _ h;omega);have r:=r.own x6 (λi hi=>(ho.lt i hi).1);have ho:=J;clear m2;refine da (de Z7 (wr ?_));refine pa rfl rfl (dm (EH (?_)));refine⟨(k+1,Z),G2,⟨r,by omega,?_⟩,by simp only [];omega⟩;rw[Y,if_pos (by unfold JB;simp;omega)];exact ho
  obtain⟨x,hk1⟩:∃x,l[k-1]?=some x:=Fw
  iterate 2 refine dm ?_
  refine EW (v:=I ↑(k-1)) rfl (Gr rfl rfl (by unfold EU;omega)) (by show I _=I _;congr 1;omega) (di 79 4 hv.sl rfl (hv.lt hk1) (df 0 rfl (dL rfl (λ_ hR=>(((hv.ext (r.trans hR)).row hk1).at rfl)) (df 0 rfl (dL rfl (λ_ hR=>((z.ext hR).at rfl)) (dp (Me rfl rfl) (EP (de Z9 ?_))))))));refine wi (λc3=>?_) λc3=>?_
  ·refine wr (dm ?_);refine df 0 rfl (dl rfl (z.at rfl) (li (e:=9) (sz:=1) (zs:=[S []]) (pv:=[(0,_)]) (cs:=[_]) RX.all (λb3 w7 e3 x7 m3=>?_)));have g3:=r.ge e3;have o3_ho:=ho.ltb e3;have ho:=ho.ext x7;have r:=r.trans x7;refine Hy (lx:=[c.key]) (e:=9) (sz:=1) (by':=16) rfl EA EA EF ho (m3.arr (enc:=FU) (sz:=1) (l:=[c.key]) rfl EF rfl (Av rfl)) rfl rfl (by intro x _ u hu;simp at hu;rcases hu with rfl<;>rfl) (by simp;omega) EN r.size (.inl rfl) (λZ w8 J x8=>?_);have r:=r.own x8 (λi hi=>(ho.lt i hi).1);have ho:=J;clear m3;refine da (de Z7 (wr ?_));refine pa rfl rfl (dm (EH (?_)));refine⟨(k+1,Z),G2,⟨r,by omega,?_⟩,by simp only [];omega⟩;rw[Y,if_pos (by unfold JB;rw[Fy hk1,Fy hk];simp [c3])];exact ho
  refine EI (Z7 _ _ (wr (pa rfl rfl (dm (EH (?_))))));refine⟨(k+1,vm),G2,⟨r,by omega,?_⟩,by simp only [];omega⟩;have hb:¬ k=0:=by omega
  rw[Y,if_neg (by unfold JB;rw[Fy hk1,Fy hk];simp [hb];simpa using c3)];exact ho
 refine Fk (Z3 _ _ (ws λ_ hf=>wr (dm (da (de hf (EJ ?_))))));refine ro ?_;rw[show k=l.length by omega]at ho;exact⟨_,rfl,r,ho⟩
theorem Vf (l:List Cell)(v:Value)(w:World)(hv:EQ Cell.cs 4 w v l)(hl:l.length<=30000)(hsz9:∀c∈l,Gt c<=1000000)(hkv:∀c∈l,c.key.length<=1000000000/\c.val.length<=1000000000) :
  Calls Tryz.prog 199 [v].toArray w (ES w (λu w'=>Vc.Own Jc 2 284 w.heap.size w' u (G5 l))):=by
 refine cw Tryz.func199 ?_;have r:=ED.refl w;refine ws λ_ Z1=>wr (da (de Z1 (ws λ_ Z2=>wr (da (de Z2 (ws λ_ Z3=>wr (da (de Z3 (ws λ_ Z4=>ws λ_ Z5=>?_)))))))));refine wr (dm ?_);refine dv 79 4 hv.sl (dm (de Z5 (EM ?_)));refine Fq (G:=Nat×Value) (λ(k,vp)=>[(0,v),(2,.slice none 0 0),(3,vp),(4,I ↑(FM l k).2.2),(8,v),(9,I ↑l.length),(10,I ↑k)]) (λ(k,vp) w'=>ED w w'/\k<=l.length/\Vc.Own Jc 2 284 w.heap.size w' vp (Jq l k)) (λ(k,vp)=>l.length-k) (0,.slice none 0 0) ?_ ?_ ?_
 ·exact Gb
 ·exact⟨r,Ae _,Vc.Own.nil⟩
 intro X1 g1 w1 h5;obtain⟨k,vp⟩:=g1;clear r;obtain⟨r,hk9,ho⟩:=h5;refine ws λ_ Z6=>wr (dp (Fb rfl rfl) (de Z6 (ws λ_ Z7=>wi (λc1=>?_) λc1=>?_)))
 ·obtain⟨c,hk⟩:∃c,l[k]?=some c:=Fw;have hrl:=Xs l hsz9 k;have hsc:=hsz9 c (Ak hk);have hb:=hkv c (Ak hk);have hpl:=OI l k;have hf:=Xv5 (l:=l) (k:=k);refine EI (Z7 _ _ (ws λ_ Z8=>EM (ws λ_ Z9=>wr (dm ?_))));refine di 79 4 hv.sl rfl (hv.lt hk) (dq (Fe EA rfl rfl ((hv.ext r).row hk)) (FP (cs:=[S [],S [],B false,.int .i64 0]) rfl EA RX.all (λb1 w2 e1 x2 m1=>?_)));have g1:=r.ge e1;have Z:=ho.ltb e1;have ho:=ho.ext x2;have r:=r.trans x2;refine da ?_;refine FY m1 (λw3 x3 xs3 m1=>?_);dsimp only [EY,Af,Ad,Ag]at m1;have ho:=ho.mod x3 (by intro k hk h;have h1:=Z k hk;have h2:k=b1:=h;omega);have r:=r.o1 x3;refine de Z9 (ws λ_ hz=>wr (dq (Fe (k:=4) EA rfl rfl m1.row) (cP (Qv c _ hb.1 hb.2) RX.all λw4 x4=>?_)));have ho:=ho.ext x4;have r:=r.trans x4;refine da (de hz ?_);refine Hz (G:=Value×List (Nat×Nat)×Nat×Nat×Nat) (λ(va,Y,f,e,s0)=>[(0,v),(2,.slice none 0 0),(3,va),(4,I ↑s0),(5,I ↑k),(7,I ↑(Gt c)),(8,v),(9,I ↑l.length),(10,I ↑k)]) (λ(va,Y,f,e,s0) w'=>ED w w'/\Vc.Own Jc 2 284 w.heap.size w' va (Y++[(f,e)])/\(Y,f,s0+Gt c)=FM l (k+1)) ?_ ?_
  ·refine ws λ_ hh=>wr (dm ?_);refine dv 284 2 (ho.arr EF).sl (dp (GB rfl rfl) (dm ?_));refine F4 20 rfl (λc2=>?_) (λc2=>?_)
   ·refine dk (dk (dk (dk (EP (de hh ?_)))));refine GS rfl (ws λ_ h6=>wr (dm (dm (dm ?_))));refine db (zs:=[.int .i64 0,.int .i64 0]) (pl:=[(0,1),(1,1)]) (pv:=[(0,_),(1,_)]) (cs:=[_,_]) ?_;refine li (e:=284) (sz:=2) (zs:=[.int .i64 0,.int .i64 0]) (pv:=[(0,.agg ⟨[_,_]⟩)]) (cs:=[_,_]) RX.all (λb2 w5 e2 x5 m2=>?_);have g2:=r.ge e2;have o2_ho:=ho.ltb e2;have ho:=ho.ext x5;have r:=r.trans x5;refine Hy (lx:=[(k,k)]) (e:=284) (sz:=2) (by':=16) rfl EA EA EF ho (m2.arr (enc:=Jc) (sz:=2) (l:=[(k,k)]) rfl EF rfl (Av rfl)) rfl rfl (by intro x _ u hu;simp at hu;rcases hu with rfl|rfl<;>rfl) (by simp;omega) EN r.size (.inl rfl) (λO w6 z x6=>?_);have r:=r.own x6 (λi hi=>(ho.lt i hi).1);have ho:=z;clear m2;refine da (de h6 (wr (da (EH (?_)))));have J:k=0:=by
     have:(Jq l k).length=0:=by omega
     exact hf.1 (List.eq_nil_of_length_eq_zero this)
    exact⟨(O,Jq l k,k,k,0),Ji,r,ho,by rw[VG (.inl J),Fy hk,A9]⟩
   iterate 2 refine dm ?_
   refine pa rfl rfl (dp (Gg rfl rfl) (EP (de hh ?_)));refine wi (λc3=>?_) λc3=>?_
   ·refine ws λ_ ht=>wr (dm (dm (dm ?_)));refine db (zs:=[.int .i64 0,.int .i64 0]) (pl:=[(0,1),(1,1)]) (pv:=[(0,_),(1,_)]) (cs:=[_,_]) ?_;refine li (e:=284) (sz:=2) (zs:=[.int .i64 0,.int .i64 0]) (pv:=[(0,.agg ⟨[_,_]⟩)]) (cs:=[_,_]) RX.all (λb3 w7 e3 x7 m3=>?_);have g3:=r.ge e3;have o3_ho:=ho.ltb e3;have ho:=ho.ext x7;have r:=r.trans x7;refine Hy (lx:=[(k,k)]) (e:=284) (sz:=2) (by':=16) rfl EA EA EF ho (m3.arr (enc:=Jc) (sz:=2) (l:=[(k,k)]) rfl EF rfl (Av rfl)) rfl rfl (by intro x _ u hu;simp at hu;rcases hu with rfl|rfl<;>rfl) (by simp;omega) EN r.size (.inl rfl) (λO w8 z x8=>?_);have r:=r.own x8 (λi hi=>(ho.lt i hi).1);have ho:=z;clear m3;refine da (de ht (wr (da (EH (?_)))));exact⟨(O,Jq l k,k,k,0),Ji,r,ho,by rw[VG (.inr (by rw[Fy hk];omega)),Fy hk,A9]⟩
   refine EI ?_;have J:k≠0:=λe=>by rw[hf.2 e]at c2;simp at c2
   exact⟨(vp,(FM l k).1,(FM l k).2.1,k,(FM l k).2.2),Ji,r,by rw[show Jq l k=_ from if_neg J]at ho;exact ho,by rw[X5s J (by rw[Fy hk];omega),Fy hk]⟩
  intro X9 g9 w9 hq;obtain⟨va,Y,f,e,s0⟩:=g9;clear r ho m1;obtain⟨r,ho,ha⟩:=hq;have hr:=congrArg (λt:List (Nat×Nat)×Nat×Nat=>t.2.2) ha;simp only at hr;have hrl1:=Xs l hsz9 (k+1);have hy:=congrArg (λt:List (Nat×Nat)×Nat×Nat=>t.1.length) ha;simp only at hy;have hc:=OI l (k+1);rw[VJ,Aa,DB]at hc;obtain⟨cs9,cap9,hg,_⟩:=ho.cells ER;refine ws λ_ hp=>wr (dm (dm ?_));refine EW (v:=I ↑(FM l (k+1)).2.2) rfl (Gy rfl rfl (by unfold EU;omega)) (by show I _=I _;congr 1;omega) (da (de hp (wr (dm (dm ?_)))));refine dv 284 2 (ho.arr EF).sl (EW (v:=I ↑Y.length) rfl (Gr rfl rfl (by unfold EU;simp;omega)) (by show I _=I _;congr 1;simp) (dm ?_));refine EW (v:=I ↑(k+1)) rfl (Gy rfl rfl (by unfold EU;omega)) (by show I _=I _;congr 1) (EW (v:=EE (base va).1 (Y.length*2)) rfl (HY (e:=284) (k:=2) EA ho.sl rfl rfl ER) (by rw[hg];show EE _ (0+_)=_;rw[A9]) (df 1 rfl ?_));refine HJ (enc:=Jc) (sz:=2) (i:=Y.length) (j:=1) (x:=(f,k+1)) (vs:=[I ↑(k+1)]) EF rfl ho rfl rfl rfl EA ER (by rw[List.getD_eq_getElem?_getD,List.getElem?_concat_length];rfl) (Ab 2) (by intro v hv;rw[Ah.1 hv];rfl) (.inl rfl) (λw10 hw xs10 z=>?_);have r:=r.own hw (λi hi=>(ho.lt i hi).1);have ho:=z;rw[X5t]at ho;refine de Z8 (wr (pa rfl rfl (dm (EH (?_)))));refine⟨(k+1,va),Gb,⟨r,by omega,?_⟩,by simp only [];omega⟩;rw[VJ,<-ha];exact ho
 refine Fk (Z4 _ _ (ws λ_ hj=>wr (dm (da (de hj (EJ ?_))))));refine ro ?_;rw[show k=l.length by omega]at ho;exact⟨_,rfl,r,ho⟩
def Fo (l:List Cell):EC:=EV (G5 l).length++(G5 l).flatMap (IP l)++EV l.length++Fs (Ix (H9 l))
def Hx (l:List Cell):Int:=if l.length<1\/4096<l.length then 1 else if GH l≠0 then GH l else Hu (Fo l)
theorem WJ {l:List Cell}(h:l.length<1\/4096<l.length):Hx l=1:=if_pos h
theorem X5u {l:List Cell}(h:¬ (l.length<1\/4096<l.length))(h2:GH l≠0):Hx l=GH l:=by unfold Hx;rw[if_neg h,if_pos h2]
theorem Tc {l:List Cell}(h:¬ (l.length<1\/4096<l.length))(h2:GH l=0):Hx l=Hu (Fo l):=by unfold Hx;rw[if_neg h,if_neg (λe=>e h2)]
theorem Vl {l:List Cell}(h:∀c∈l,Gl c=true):(∀c∈l,Gt c<=1000000)/\∀c∈l,c.key.length<=1000000000/\c.val.length<=1000000000:=by
 refine⟨λc r=>?_,λc r=>?_⟩
 ·have:=Ka (h c r);unfold Gt;omega
 ·have:=Ka (h c r);omega
theorem X9p {A:EC}{s:Int}(h1:1<=s)(h2:s<=1099511627776):A++[s].flatMap Gf=A++EV s.toNat:=by
 simp only [AB,BU,AO];unfold Gf;rw[Va h1 h2]
theorem Wk {a b:Nat}{ps:List (Nat×Nat)}(h:G3 a ps b)(k:Nat):∃c,G3 a (ps.take k) c/\c<=b:=by
 induction ps generalizing a k with
 | nil=>exact⟨a,by simp;rfl,Nat.le_of_eq h⟩
 | cons p r ih=>
  cases k with
  | zero=>exact⟨a,rfl,by have:=G3.le (l:=p :: r) h;simp at this;omega⟩
  | succ k=>
   obtain⟨c,h1,h2⟩:=ih h.2.2.2 k;exact⟨c,⟨h.1,h.2.1,h.2.2.1,h1⟩,h2⟩
theorem X5v {l:List Cell}(h:∀c∈l,Gl c=true)(k:Nat):(Gh l k).key.length<=4096:=by
 unfold Gh
 cases e:l[k]? with
 | none=>simp [Cell.zero]
 | some c=>exact(Ka (h c (Ak e))).1
theorem Xwa {l:List Cell}(h:∀c∈l,Gl c=true){p:Nat×Nat}(hp:p.1<p.2):(IP l p).length<=25000*(p.2-p.1):=by
 unfold IP Fs;have h1:=X5v h (p.2-1);have h2:=Gj (Gh l (p.2-1)).key.length;have h3:=Gj (Gh l (p.2-1)).seq.toNat;have h4:=Gj (Hl (HV l p)).length;have h5:=Pg (l:=HV l p) (λc r=>h c (OV r));have z:(HV l p).length<=p.2-p.1:=by unfold HV;rw[Bh,A5];omega
 have h7:20600*(HV l p).length<=20600*(p.2-p.1):=C0 _ z;simp only [Aa];omega
theorem Xwb {l:List Cell}(h:∀c∈l,Gl c=true){a b:Nat}{ps:List (Nat×Nat)}(hc:G3 a ps b):(ps.flatMap (IP l)).length+25000*a<=25000*b:=by
 induction ps generalizing a with
 | nil=>have e:a=b:=hc;subst e;simp
 | cons p r ih=>
  have h1:=ih hc.2.2.2;have h2:=Xwa h (p:=p) (by have:=hc.1;have:=hc.2.1;omega);have h3:=hc.1;have h4:=hc.2.1;rw[AB,Aa];omega
theorem R9 {l:List Cell}(h:∀c∈l,Gl c=true)(k:Nat):(((G5 l).take k).flatMap (IP l)).length<=25000*l.length:=by
 obtain⟨c,h1,h2⟩:=Wk (Mw l l.length) k;have:=Xwb h h1;have:25000*c<=25000*l.length:=C0 _ h2;show(((Jq l l.length).take k).flatMap (IP l)).length<=_;omega
theorem Pt {w:World}{v v2:Value}{bw:Nat}{Q:Nat->Prop}(hg:GZ w v v2)(h:∀k,Q k->¬ H2 bw v k)(hlt:∀k,Q k->k<w.heap.size):∀k,Q k->¬ H2 bw v2 k:=λk hk h2=>h k hk (Ps hg h2 (hlt k hk))
theorem XL {l:List Cell}(h:∀c∈l,Gl c=true)(hl:l.length<=4096):(Fo l).length<=25000*l.length+6000:=by
 unfold Fo;have h1:=R9 h (G5 l).length;rw[AI]at h1;have h2:=Gj (G5 l).length;have h3:=Gj l.length;have h4:(Ix (H9 l)).length<=5130:=by rw[Ma];have:=LS l l.length;unfold HQ;unfold H9;omega
 have h5:=Gj (Ix (H9 l)).length;unfold Fs;simp only [Aa];omega
theorem WZ (l:List Cell)(v:Value)(w:World)(hv:EQ Cell.cs 4 w v l)(hl:l.length<=30000) :
  Calls Tryz.prog 170 [v].toArray w (ES w (λu w'=>∃vb,u=.tuple #[vb,I (Hx l)]/\(Hx l=0->EQ EO 1 w' vb (EG (Fo l))/\w.heap.size<=(base vb).1))):=by
 refine cw Tryz.func170 ?_;have z:=ED.refl w;refine ws λ_ Z1=>wr (da (da (de Z1 (ws λ_ Z2=>ws λ_ Z3=>wr (dm ?_)))));refine dv 79 4 (hv.ext z).sl (dp (Fb rfl rfl) (dm ?_));refine F4 16 rfl (λc1=>?_) (λc1=>?_)
 ·refine dk (dk (dk (EP (de Z3 ?_))));refine GS rfl (ws λ_ Z4=>wr (da (da (de Z4 (EJ ?_)))));refine rt ?_;rw[WJ (.inl EB)];exact⟨_,rfl,z,_,rfl,λe=>by simp at e⟩
 refine dm ?_;refine dv 79 4 (hv.ext z).sl (dp (Gg rfl rfl) (EP (de Z3 ?_)));refine wi (λc2=>?_) λc2=>?_
 ·refine ws λ_ Z5=>wr (da (da (de Z5 (EJ ?_))));refine rt ?_;rw[WJ (.inr EB)];exact⟨_,rfl,z,_,rfl,λe=>by simp at e⟩
 refine EI (Z2 _ _ (ws λ_ Z6=>ws λ_ Z7=>wr (dm ?_)));refine cG (RC l v _ (hv.ext z) hl) RX.all λu1 w1 x1 yy=>?_;have hsz1:=z.size;have z:=z.trans x1;obtain⟨vb0,rfl,_⟩:=yy;refine dm ?_;refine dx rfl rfl (dx rfl rfl (da (da (de Z7 (ws λ_ Z8=>wr (dm ?_))))));refine dp (FH rfl rfl) (de Z8 (wi (λc3=>?_) λc3=>?_))
 ·refine ws λ_ Z9=>wr (dm (da (da (de Z9 (EJ ?_)))));refine rt ?_;rw[X5u EB c3];exact⟨_,rfl,z,_,rfl,λe=>absurd e c3⟩
 have hE:GH l=0:=AK c3;obtain⟨Z,hRis⟩:=K7.1 hE;obtain⟨yb,zm⟩:=Vl Z;have y8:=OI l l.length;have hpN:(G5 l).length<=l.length:=y8;refine EI (Z6 _ _ (ws λ_ zb=>wr (FP (cs:=[.slice none 0 0]) rfl EA RX.all (λb1 w2 e1 x2 m1=>?_))));have g1:=z.ge e1;have z:=z.trans x2;refine de zb (ws λ_ y0=>wr (dm ?_));refine cG (Vf l v _ (hv.ext z) hl yb zm) RX.all λvp w3 x3 yp=>?_;have x6:=z.size;have m1:=m1.ext x3;have z:=z.trans x3;have Y:=yp.mono x6;refine da (de y0 (ws λ_ y7=>wr (dm ?_)));refine dv 284 2 (Y.arr EF).sl (li (e:=3) (sz:=1) (zs:=[.int .i64 0]) (pv:=[(0,_)]) (cs:=[_]) RX.all (λb2 w4 e2 x4 m2=>?_));have g2:=z.ge e2;have n2_1:=m1.ltb e2;have o2_hP:=Y.ltb e2;have m1:=m1.ext x4;have Y:=Y.ext x4;have z:=z.trans x4;have r:Wr w.heap.size b1 (.slice none 0 0) [] w4:=⟨m1,Vc.Own.nil⟩;have ym:∀O,vp.ownBlock=some O->¬ H2 b1 (.slice none 0 0) O:=λO J h=>h.elim (λe=>Y.ne_blk m1 rfl (e▸J)) (λe=>by cases e);have yk:=λO J=>(Y.lt O J).2;refine cD (JZ w.heap.size b1 (.slice none 0 0) _ [↑(G5 l).length] (.slice (some ⟨b2,0,none⟩) 1 1) _ r (Ai (Ab 0:([]:EC).length<=0) EB) z.size (m2.arr (enc:=Vc.encI) (sz:=1) (l:=[↑(G5 l).length]) rfl EF rfl ER) ER (λO J _ hw=>by have hq:b2=O:=hw;subst hq;exact(J.elim (λh=>by omega) (λh=>by cases h)))) (.inl rfl) λu5 w5 x5 yw=>?_;have hsz5:=z.size;have Y:=Y.mod x5 ym;have z:=z.own x5 (λi hi=>r.ge g1 hi);obtain⟨rfl,v1,r,ha⟩:=yw;rw[MX EB,AE]at r;have hln34:=trivial;have xn:=Pt ha ym yk;refine de y7 (ws λ_ y4=>ws λ_ yt=>wr (dm ?_));refine dv 284 2 (Y.arr EF).sl (dm (de yt (EM ?_)));refine Fq (G:=Nat×Value) (λ(k,vc)=>[(0,v),(2,.slice none 0 0),(3,I 0),(6,EE b1 0),(35,vp),(36,I ↑(G5 l).length),(37,I ↑k)]) (λ(k,vc) w'=>ED w w'/\k<=(G5 l).length/\Wr w.heap.size b1 vc (EV (G5 l).length++((G5 l).take k).flatMap (IP l)) w'/\Vc.Own Jc 2 284 w.heap.size w' vp (G5 l)/\(∀O,vp.ownBlock=some O->¬ H2 b1 vc O)) (λ(k,vc)=>(G5 l).length-k) (0,v1) ?_ ?_ ?_
 ·exact Gb
 ·exact⟨z,Ae _,by simpa using r,Y,xn⟩
 intro X6 g6 w6 y3;obtain⟨k,vc⟩:=g6;clear z Y r;obtain⟨z,hk9,r,Y,xn⟩:=y3;refine ws λ_ yq=>wr (dp (Fb rfl rfl) (de yq (ws λ_ y5=>wi (λc4=>?_) λc4=>?_)))
 ·obtain⟨p,hkp⟩:∃p,(G5 l)[k]?=some p:=Fw;have y9:=(Mw l l.length).mem (Ak hkp);obtain⟨c,hk⟩:∃c,l[p.2-1]?=some c:=Fw;have hcs:=Ka (Z c (Ak hk));have hsl:=Uk (l:=l) y9.2.2.1;have hsb:=Pg (l:=HV l p) (λc hc=>Z c (OV hc));have zj:=R9 Z k;have y2:=Gj (G5 l).length;have xi:(EV (G5 l).length++((G5 l).take k).flatMap (IP l)).length<=25000*l.length+10:=by rw[Aa];omega
  refine EI (y5 _ _ (ws λ_ zk=>EM (ws λ_ yu=>wr (di 284 2 (Y.arr EF).sl rfl ((Y.arr EF).lt hkp) (dq (Fe EA rfl rfl ((Y.arr EF).row hkp)) (FP (cs:=[.int .i64 0,.int .i64 0]) rfl EA RX.all (λb3 w7 e3 x7 m3=>?_)))))));have g3:=z.ge e3;have hh:=r.lt;have xo:=Y.ltb e3;have r:=r.ext x7;have Y:=Y.ext x7;have z:=z.trans x7;refine FY m3 (λw8 x8 xs8 m3=>?_);dsimp only [EY,Af,Ad,Ag]at m3;have r:=r.mod x8 (λO J h=>by have h2:O=b3:=h;subst h2;exact A6 _ (AA (hh _ J) e3.symm));have Y:=Y.mod x8 (by intro k hk h;have h1:=xo k hk;have h2:k=b3:=h;omega);have z:=z.o1 x8;refine de yu (ws λ_ yz=>wr (dm ?_));refine df 1 rfl (dl rfl (m3.at rfl) (EW (v:=I ↑(p.2-1)) rfl (Gr rfl rfl (by unfold EU;omega)) (by show I _=I _;congr 1;omega) (di 79 4 (hv.ext z).sl rfl ((hv.ext z).lt hk) (dq (Fe EA rfl rfl ((hv.ext z).row hk)) (FP (cs:=[S [],S [],B false,.int .i64 0]) rfl EA RX.all (λb4 w9 e4 x9 m4=>?_))))));have g4:=z.ge e4;have n4_3:=m3.ltb e4;have hg:=r.lt;have xr:=Y.ltb e4;have r:=r.ext x9;have Y:=Y.ext x9;have m3:=m3.ext x9;have z:=z.trans x9;refine FY m4 (λw10 xe xs10 m4=>?_);dsimp only [EY,Af,Ad,Ag]at m4;have r:=r.mod xe (λO J h=>by have h2:O=b4:=h;subst h2;exact A6 _ (AA (hg _ J) e4.symm));have Y:=Y.mod xe (by intro k hk h;have h1:=xr k hk;have h2:k=b4:=h;omega);have m3:=m3.mo xe;have z:=z.o1 xe;refine de yz (ws λ_ ze=>wr (dm ?_));refine df 0 rfl (dl rfl (m3.at rfl) (df 1 rfl (dl rfl (m3.at rfl) (dp (IS (e:=79) (k:=4) EA (hv.ext z).sl rfl rfl rfl EB EB) ?_))));have hr:=r.lt;refine cG (RC (HV l p) (G7 4 v p.1 p.2) _ ((hv.ext z).slice EB EB) EB) RX.all λu11 xp h6 yg=>?_;have hsz11:=z.size;have r:=r.ext h6;have Y:=Y.ext h6;have m3:=m3.ext h6;have m4:=m4.ext h6;have z:=z.trans h6;obtain⟨xl,rfl,hB⟩:=yg;rw[if_pos (Rb hE p)]at hB;have hEs:=Rb hE p;have hQ:∀O,(λO=>O=b3\/O=b4\/xl.ownBlock=some O\/vp.ownBlock=some O) O->¬ H2 b1 vc O:=λO J h=>by
   rcases J with J|J|J|J
   ·rw[J]at h;exact A6 _ (AA (hh _ h) e3.symm)
   ·rw[J]at h;exact A6 _ (AA (hg _ h) e4.symm)
   ·have h8:=hr _ h;have h7:=(hB.lt _ J).1;omega
   ·exact xn O J h
  have xu:∀O,(λO=>O=b3\/O=b4\/xl.ownBlock=some O\/vp.ownBlock=some O) O->O<xp.heap.size:=λO J=>by
   rcases J with J|J|J|J
   ·rw[J];exact m3.lt
   ·rw[J];exact m4.lt
   ·exact(hB.lt _ J).2
   ·exact(Y.lt _ J).2
  have hS:Sz xp.heap.size xp:=⟨Ab _⟩;refine dm ?_;refine dx rfl rfl (dx rfl rfl (da (da (de ze (ws λ_ zg=>KW [.p,.l,.x,.x,.x] rfl ?_)))));refine df 0 rfl (dl rfl (m4.at rfl) (Mz (e:=5) rfl EA EA EA rfl RX.all (λb5 yn w12 e5 hj xm=>?_)));have g5:=z.ge e5;have n5_4:=m4.ltb e5;have xh:=r.lt;have o5_hP:=Y.ltb e5;have a5_hS:=hS.le;have r:=r.ext hj;have Y:=Y.ext hj;have m4:=m4.ext hj;have hB:=hB.ext hj;have hS:=hS.ext hj;have z:=z.trans hj;refine li (e:=82) (sz:=1) (zs:=[.slice none 0 0]) (pv:=[(0,_)]) (cs:=[_]) RX.all (λb6 w13 e6 hf m6=>?_);have g6:=z.ge e6;have n6_4:=m4.ltb e6;have xd:=r.lt;have o6_hP:=Y.ltb e6;have a6_hS:=hS.le;have r:=r.ext hf;have Y:=Y.ext hf;have m4:=m4.ext hf;have hB:=hB.ext hf;have hS:=hS.ext hf;have xm:=xm.ext hf;have z:=z.trans hf;have hb:=λO J=>Az (xu O J) hS.le;refine cD (Lc w.heap.size b1 vc _ [(.slice (some ⟨b5,0,none⟩) c.key.length yn,c.key)] (.slice (some ⟨b6,0,none⟩) 1 1) _ r (Ai xi EB) z.size (K5 m6) (λq h=>by rw[Ah.1 h];exact xm) (λq h=>by rw[Ah.1 h];exact(show c.key.length<=1000000 by omega)) ER (λ_ J=>(A6 b6 (AA (xd _ J) e6.symm))) (λq h hl J=>by rw[Ah.1 h]at hl J;exact(A6 b5 (AA (xh _ J) e5.symm)))) (.inl rfl) λu14 w14 hp ye=>?_;have hsz14:=z.size;have Y:=Y.mod hp (λO J=>hQ O (.inr (.inr (.inr J))));have m4:=m4.mod hp (hQ _ (.inr (.inl rfl)));have hB:=hB.mod hp (λO J=>hQ O (.inr (.inr (.inl J))));have hS:=hS.mod hp trivial;have z:=z.own hp (λi hi=>r.ge g1 hi);obtain⟨rfl,v2,r,ha⟩:=ye;rw[Jy]at r;have xa:=P9 (p:=c.key) (M:=4096) xi EB;have hQ:=Pt ha hQ hb;refine de zg (ws λ_ zf=>wr (df 3 rfl (dl rfl (m4.at rfl) (li (e:=3) (sz:=1) (zs:=[.int .i64 0]) (pv:=[(0,_)]) (cs:=[_]) RX.all (λb7 w15 e7 h5 m7=>?_)))));have g7:=z.ge e7;have o7_hP:=Y.ltb e7;have a7_hS:=hS.le;have xb:=r.lt;have Y:=Y.ext h5;have hB:=hB.ext h5;have hS:=hS.ext h5;have r:=r.ext h5;have z:=z.trans h5;have hb:=λO J=>Az (xu O J) hS.le;refine cD (JZ w.heap.size b1 v2 _ [c.seq] (.slice (some ⟨b7,0,none⟩) 1 1) _ r (Ai xa EB) z.size (m7.arr (enc:=Vc.encI) (sz:=1) (l:=[c.seq]) rfl EF rfl ER) ER (λO J _ hw=>by have hq:b7=O:=hw;subst hq;exact(A6 b7 (AA (xb _ J) e7.symm)))) (.inl rfl) λu16 w16 xg yc=>?_;have hsz16:=z.size;have Y:=Y.mod xg (λO J=>hQ O (.inr (.inr (.inr J))));have hB:=hB.mod xg (λO J=>hQ O (.inr (.inr (.inl J))));have hS:=hS.mod xg trivial;have z:=z.own xg (λi hi=>r.ge g1 hi);obtain⟨rfl,v3,r,ha⟩:=yc;rw[X9p EB EB]at r;have xv:=PY (n:=c.seq.toNat) xa;have hQ:=Pt ha hQ hb;refine de zf (wr (dm ?_));refine It (e:=82) (sz:=1) (zs:=[.slice none 0 0]) (pv:=[(0,?a39_0)]) (cs:=[?a39_0]) rfl EA ⟨rfl,rfl⟩ EA rfl ?h39 ?f39 RX.all (λb8 w17 e8 hz m8=>?k39)
  case h39=>refine⟨rfl,?_,trivial⟩<;>(conv=>lhs;whnf)
  case f39=>simp [H7,EY,Ax,hB.sl.cells]
  have g8:=z.ge e8;have o8_hP:=Y.ltb e8;have a8_hS:=hS.le;have xc:=r.lt;have Y:=Y.ext hz;have hB:=hB.ext hz;have hS:=hS.ext hz;have r:=r.ext hz;have z:=z.trans hz;have hb:=λO J=>Az (xu O J) hS.le;refine cD (Lc w.heap.size b1 v3 _ [(xl,Hl (HV l p))] (.slice (some ⟨b8,0,none⟩) 1 1) _ r (Ai xv EB) z.size (K5 m8) (λq h=>by rw[Ah.1 h];exact(hB.arr EF)) (λq h=>by rw[Ah.1 h];exact(show(Hl (HV l p)).length<=1000000 by omega)) ER (λ_ J=>(A6 b8 (AA (xc _ J) e8.symm))) (λq h hl J=>by rw[Ah.1 h]at hl J;exact hQ _ (.inr (.inr (.inl (hB.base_block hl)))) J)) (.inl rfl) λu18 w18 xx yj=>?_;have hsz18:=z.size;have Y:=Y.mod xx (λO J=>hQ O (.inr (.inr (.inr J))));have z:=z.own xx (λi hi=>r.ge g1 hi);obtain⟨rfl,v4,r,ha⟩:=yj;rw[Jy]at r;have hln68:=trivial;have hQ:=Pt ha hQ hb;refine de zk (wr (pa rfl rfl (dm (EH (?_)))));refine⟨(k+1,v4),Gb,⟨z,by omega,?_,Y,λO J=>hQ O (.inr (.inr (.inr J)))⟩,by simp only [];omega⟩;have yo:IP l p=Fs c.key++EV c.seq.toNat++Fs (Hl (HV l p)):=by unfold IP;rw[Fy hk]
  rw[G1 hkp,AU,AB,BU,yo];simpa only [A7,AO]using r
 have zj:=R9 Z k;have y2:=Gj (G5 l).length;have xj:(EV (G5 l).length++((G5 l).take k).flatMap (IP l)).length<=25000*l.length+10:=by rw[Aa];omega
 refine Fk (y4 _ _ (ws λ_ zi=>wr (dm ?_)));refine dv 79 4 (hv.ext z).sl (li (e:=3) (sz:=1) (zs:=[.int .i64 0]) (pv:=[(0,_)]) (cs:=[_]) RX.all (λb9 w19 e9 ya m9=>?_));have g9:=z.ge e9;have xf:=r.lt;have r:=r.ext ya;have z:=z.trans ya;refine cD (JZ w.heap.size b1 vc _ [↑l.length] (.slice (some ⟨b9,0,none⟩) 1 1) _ r (Ai xj EB) z.size (m9.arr (enc:=Vc.encI) (sz:=1) (l:=[↑l.length]) rfl EF rfl ER) ER (λO J _ hw=>by have hq:b9=O:=hw;subst hq;exact(A6 b9 (AA (xf _ J) e9.symm)))) (.inl rfl) λu20 w20 zc x0=>?_;have hsz20:=z.size;have z:=z.own zc (λi hi=>r.ge g1 hi);obtain⟨rfl,v5,r,ha⟩:=x0;rw[MX EB]at r;have ht:=PY (n:=l.length) xj;refine de zi (ws λ_ yr=>wr (dm ?_));refine cG (XT l v _ (hv.ext z) hl) RX.all λvK w21 yi Z0=>?_;have xq:=z.size;have r:=r.ext yi;have z:=z.trans yi;have hK:=Z0.mono xq;have hr:=r.lt;refine cG (UY (H9 l) vK _ (hK.arr EF) (by have:=LS l l.length;unfold H9;omega) (λs9 J=>by obtain⟨c9,zd,rfl⟩:=Xy (Ab _) J;have:=Ka (Z c9 zd);omega)) RX.all λvM w22 xy hM=>?_;have hsz22:=z.size;have r:=r.ext xy;have z:=z.trans xy;refine It (e:=82) (sz:=1) (zs:=[.slice none 0 0]) (pv:=[(0,?a44_0)]) (cs:=[?a44_0]) rfl EA ⟨rfl,rfl⟩ EA rfl ?h44 ?f44 RX.all (λyh w23 xw xk y1=>?k44)
 case h44=>refine⟨rfl,?_,trivial⟩<;>(conv=>lhs;whnf)
 case f44=>simp [H7,EY,Ax,hM.sl.cells]
 have g10:=z.ge xw;have hy:=r.lt;have r:=r.ext xk;have hM:=hM.ext xk;have z:=z.trans xk;refine cD (Lc w.heap.size b1 v5 _ [(vM,Ix (H9 l))] (.slice (some ⟨yh,0,none⟩) 1 1) _ r (Ai ht EB) z.size (K5 y1) (λq h=>by rw[Ah.1 h];exact(hM.arr EF)) (λq h=>by rw[Ah.1 h];exact(show(Ix (H9 l)).length<=1000000 by rw[Ma];have:=LS l l.length;unfold HQ H9;omega)) ER (λ_ J=>(A6 yh (AA (hy _ J) xw.symm))) (λq h hl J=>by rw[Ah.1 h]at hl J;exact(by have h8:(base vM).1<_:=hr _ J;have h7:=(hM.base_ge hl).1;omega))) (.inl rfl) λu24 w24 yx yf=>?_;have hsz24:=z.size;have z:=z.own yx (λi hi=>r.ge g1 hi);obtain⟨rfl,v6,r,ha⟩:=yf;rw[Jy]at r;have hln78:=P9 (p:=Ix (H9 l)) (M:=1000000) ht (by rw[Ma];have:=LS l l.length;unfold HQ H9;omega);refine de yr (ws λ_ y6=>wr (cG (N3 w.heap.size b1 v6 _ _ r EB) RX.all λvo w25 za hO=>?_));have hsz25:=z.size;have z:=z.trans za;rw[show k=(G5 l).length by omega,AI]at hO;change Vc.Own EO 1 _ _ _ vo (Fo l)at hO;refine It (e:=82) (sz:=1) (zs:=[.slice none 0 0]) (pv:=[(0,?a45_0)]) (cs:=[?a45_0]) rfl EA ⟨rfl,rfl⟩ EA rfl ?h45 ?f45 RX.all (λb11 w26 zh yl yv=>?k45)
 case h45=>refine⟨rfl,?_,trivial⟩<;>(conv=>lhs;whnf)
 case f45=>simp [H7,EY,Ax,hO.sl.cells]
 have g11:=z.ge zh;have hO:=hO.ext yl;have z:=z.trans yl;refine cG (RT (Fo l) vo _ _ (yv.arr (enc:=λx:Value=>[x]) (sz:=1) (l:=[vo]) rfl EF rfl ER) (hO.arr EF) (by have:=XL Z EB;omega)) RX.all λu27 w27 zl xz=>?_;have hsz27:=z.size;have z:=z.trans zl;obtain⟨vb,rfl,yd⟩:=xz;refine dx rfl rfl (dx rfl rfl (da (da (de y6 (EJ ?_)))));refine rt ?_;rw[Tc EB hE];exact⟨_,rfl,z,_,rfl,λe=>⟨(yd e).1,by have:=(yd e).2;omega⟩⟩
end Go.Proofs.YtiooodckiddpmaaGreatDoor
namespace Go.Vc
open Go.RowKit Go.Maps
@[reducible] def Gz (p:Int×Int):Value:=.agg ⟨[I p.1,I p.2]⟩
def KG (p:Int×Int):Prop:=EU p.1/\EU p.2
theorem X0a (x y:Int×Int)(h:Gz x=Gz y):x=y:=by
 simp [Gz]at h;exact Prod.ext h.1 h.2
theorem SP {P:Program}{e d:Nat}(he:P.underlying e=some (.int .i64)){n:Int}(hn:EU n):P.keyLits (d+1) e [I n]=some [.int .i64 n]:=by
 have r:(Lit.int .i64 n).wf=true:=by
  unfold EU at hn;simp [Lit.wf,IntKind.min,IntKind.max,IntKind.signed,IntKind.bits];omega
 simp [Program.keyLits,he,r]
theorem Yd {P:Program}{e d:Nat}(he:P.underlying e=some (.int .i64)){cs:List Value}{l:List Lit}(h:P.keyLits (d+1) e cs=some l):∃n:Int,cs=[I n]/\EU n:=by
 unfold Program.keyLits at h;rw[he]at h
 match cs,h with
 | [.int q' n],h=>
  simp only []at h;split at h
  ·rename_i z;obtain⟨rfl,r⟩:=z;refine⟨n,rfl,?_⟩;have hw':-9223372036854775808<=n/\n<=9223372036854775807:=by simpa [Lit.wf,IntKind.min,IntKind.max,IntKind.signed,IntKind.bits]using r
   unfold EU;omega
  ·cases h
def Qf (P:Program)(k i:Nat):Prop:=∀d cs,P.keyLits (d+1) k cs=if cs.length=2 then((P.keyLits d i (cs.take 1)).bind λa=>(P.keyLits d i ((cs.drop 1).take 1)).bind λb=>some [a,b]).map List.flatten else none
theorem Xs9 {P:Program}{k i:Nat}(hk:P.underlying k=some (.array 2 i))(hc:P.cellsOf k=2)(hi:P.cellsOf i=1):Qf P k i:=λd cs=>by
 rw[Program.keyLits.eq_def];simp only [hk,hc,hi];rfl
theorem UF {P : Program} {k i : Nat} (hs : (match P.underlying k with | some (.struct fs) => decide (fs.toList.map (λ f => (f.type, f.offset)) = [(i, 0), (i, 1)]) && fs.all (·.name != "_") | _ => false) = true) (hc : P.cellsOf k = 2) (hi : P.cellsOf i = 1) : Qf P k i := λ d cs => by
 split at hs
 ·rename_i fs hk;rw[Au,decide_eq_true_eq]at hs;obtain⟨hf,ha⟩:=hs;rw[Program.keyLits.eq_def];simp only [hk,hc,ha,and_true];obtain⟨f0,r0,h0,h1,h2⟩:=Ee.1 hf;obtain⟨f1,r1,h3,h4,h5⟩:=Ee.1 h2;have h6:=List.map_eq_nil_iff.1 h5;subst h6 h3;rw[h0];simp only [Prod.mk.injEq]at h1 h4;simp only [List.mapM_cons,List.mapM_nil,h1.1,h1.2,h4.1,h4.2,hi,Nat.zero_mul,Ch,Option.bind_eq_bind,Option.pure_def,Option.bind_some]
  cases P.keyLits d i (Ad 1 cs)<;>cases P.keyLits d i (Ad 1 (Ag 1 cs))<;>rfl
 ·cases hs
theorem Qj {P:Program}{α:Type}{t k e i:Nat}{av:α->Value}(hl:laidOutB P=true)(hu:P.underlying t=some (.map k e))(hL:Qf P k i)(hi:P.underlying i=some (.int .i64))(hc:P.cellsOf k=2)
  (hwide:(match P.underlying k with|some (.array _ _)|some (.struct _)=>true|_=>false)=true) (hkt:P.keyType k=true) (hka:P.keyTypeAt 2 k=true) (hrow:Nat.blt k P.types.size=true)
  (ha:∀a b,av a=av b->a=b):MapK P t k e Gz av KG:=by
 have O:k<P.types.size:=by simpa [Nat.blt_eq]using hrow
 obtain⟨d,hd⟩:∃d,P.types.size=d+1:=⟨P.types.size-1,by omega⟩;have Z:∀v,keyOf P k v=if P.keyType k && v.formed P k then(P.keyLits (P.types.size+1) k v.cells.toList).map λls=>.string (keyBytes ls)else none:=λv=>by
  unfold keyOf;split at hwide
  ·rename_i h;rw[h]
  ·rename_i h;rw[h]
  ·cases hwide
 have r:∀cs:Array Value,(Value.agg cs).formed P k=decide (cs.size=2):=λcs=>by
  split at hwide
  ·rename_i h;simp [Value.formed,h,hc];rfl
  ·rename_i h;simp [Value.formed,h,hc];rfl
  ·cases hwide
 have J:∀v:Value,v.formed P k=true->∃cs,v=.agg cs:=λv Y=>by
  split at hwide
  ·rename_i h;cases v<;>simp [Value.formed,h]at Y;exact⟨_,rfl⟩
  ·rename_i h;cases v<;>simp [Value.formed,h]at Y;exact⟨_,rfl⟩
  ·cases hwide
 refine⟨hu,Keyed.of_law (deep_law_laid hl (m:=2) EB O hka hwide),λx hx=>?_,λv l hv=>?_,X0a,ha⟩
 ·refine⟨.string (keyBytes ([[.int .i64 x.1],[.int .i64 x.2]].flatten)),?_⟩;rw[Z,hkt,r,hd,hL];simp only [Value.cells,AG,Bi,if_true,List.take_succ_cons,List.take_zero,List.drop_succ_cons,Ch,SP hi hx.1,SP hi hx.2];rfl
 ·rw[Z,hkt,Bool.true_and]at hv;split at hv
  ·rename_i Y;obtain⟨cs,rfl⟩:=J v Y;rw[r,decide_eq_true_eq]at Y;simp only [hd,Value.cells,Bb]at hv;obtain⟨ls,z,_⟩:=hv;rw[hL]at z;split at z
   ·simp only [Bb,Option.bind_eq_some_iff]at z;obtain⟨_,⟨a,hA,b,hB,_⟩,_⟩:=z;obtain⟨n,h1,hn⟩:=Yd hi hA;obtain⟨m,h2,hm⟩:=Yd hi hB;refine⟨(n,m),?_,hn,hm⟩;show Value.agg cs=.agg ⟨_⟩
    congr 1
    apply Array.toList_inj.1
    have hlen:cs.toList.length=2:=by simpa using Y
    rw[<-Bc 1 cs.toList,h1];have:cs.toList.drop 1=(cs.toList.drop 1).take 1:=by rw[Ay (by simp;omega)]
    rw[this,h2];rfl
   ·cases z
  ·cases hv
theorem mapI {P:Program}{α:Type}{t k e:TypeId}{av:α->Value}(hu:P.underlying t=some (.map k e))(hk:P.underlying k=some (.int .i64))(ha:∀a b,av a=av b->a=b):MapK P t k e I av EU:=
 ⟨hu,int_keyed hk,λx J=>⟨.int .i64 x,by
  have r:(Lit.int .i64 x).wf=true:=by
   unfold EU at J;simp [Lit.wf,IntKind.min,IntKind.max,IntKind.signed,IntKind.bits];omega
  simp [keyOf,hk,mapKey,r]⟩,λv l z=>by
  simp only [keyOf,hk]at z
  cases v<;>simp [mapKey,hk]at z
  rename_i q n;obtain⟨⟨rfl,r⟩,rfl⟩:=z;refine⟨n,rfl,?_⟩;have hw':-9223372036854775808<=n/\n<=9223372036854775807:=by simpa [Lit.wf,IntKind.min,IntKind.max,IntKind.signed,IntKind.bits]using r
  unfold EU;omega,λx y h=>by simpa using h,ha⟩
end Go.Vc
namespace Go.Proofs.YtiooodckiddpmaaGreatDoor
open Go.Vc Go.Sp
attribute [local irreducible] W XW Dw Gs
theorem W5 (a b:Bool)(h:Value.bool a=.bool b):a=b:=by simpa using h
theorem U9 : MapK Tryz.prog 183 284 4 Gz B KG:=Qj (i:=3) EA EA (UF EA EA EA) EA EA EA EA EA EA W5
structure TblE (bt:Nat)(vl vb:Value)(l:List Cell)(w:World):Prop where
 m:∃vp,EK w bt [vl,vp,vb] 185
 a:EQ Cell.cs 4 w vl l
 b:EQ EO 1 w vb (Ix (H9 l))
 ok:Hx l=0
@[reducible] def IY (bt:Nat) (vl vb:Value):Nat->Prop:=λk=>k=bt\/k=(base vl).1\/k=(base vb).1
theorem LA {l:List Cell}(h:Hx l=0):1<=l.length/\l.length<=4096/\GH l=0/\Hu (Fo l)=0:=by
 unfold Hx at h;split at h
 ·simp at h
 ·split at h
  ·rename_i h2;exact absurd h h2
  ·rename_i h1 h2;exact⟨by omega,by omega,AK h2,h⟩
theorem TblE.mod {bt:Nat}{vl vb:Value}{l:List Cell}{S:Nat->Prop}{w w':World}(h:TblE bt vl vb l w)(x:Vc.Mod S w w')(hS:∀k,IY bt vl vb k->¬ S k):TblE bt vl vb l w':=by
 obtain⟨⟨vp,h1⟩,h2,h3,h4⟩:=h;exact⟨⟨vp,h1.mod x (hS _ (.inl rfl))⟩,h2.mod x (λ_=>hS _ (.inr (.inl rfl))),h3.mod x (λ_=>hS _ (.inr (.inr rfl))),h4⟩
theorem TblE.ext {bt:Nat}{vl vb:Value}{l:List Cell}{w w':World}(h:TblE bt vl vb l w)(x:ED w w'):TblE bt vl vb l w':=h.mod x (λ_ _ h=>h)
theorem TblE.lt {bt:Nat}{vl vb:Value}{l:List Cell}{w:World}(h:TblE bt vl vb l w):∀k,IY bt vl vb k->k<w.heap.size:=by
 obtain⟨⟨vp,h1⟩,h2,h3,h4⟩:=h;have z:=LA h4;rintro k (rfl|rfl|rfl)
 ·exact h1.lt
 ·exact h2.base_lt EN (λe=>by rw[e]at z;simp at z)
 ·exact h3.base_lt EN (λe=>by have r:=Ma (H9 l);rw[e]at r;unfold HQ at r;simp at r;omega)
theorem R4 {α β:Type}(f:α->List β)(l:List α)(k:Nat):((l.drop k).flatMap f).length<=(l.flatMap f).length:=by
 have h:=congrArg (λm=>(m.flatMap f).length) (Bc k l);simp only [AU,Aa]at h;omega
theorem Xpq (l:List Cell)(k:Nat):(((G5 l).take k).flatMap (HV l)).length<=l.length:=by
 obtain⟨c,h1,h2⟩:=Wk (Mw l l.length) k;unfold G5;rw[V3 h1,Bh,A5];omega
theorem Xwd (l:List Cell):(G5 l).flatMap (HV l)=l:=by
 unfold G5;rw[V3 (Mw l l.length)];simp
theorem Uy (l:List Cell):Fo l=EV (G5 l).length++(((G5 l).flatMap (IP l))++(EV l.length++Fs (Ix (H9 l)))):=by unfold Fo;simp only [A7]
theorem Uq (l:List Cell)(v:Value)(w:World)(hv:EQ EO 1 w v (EG (Fo l)))(hb:Hx l=0) :
  Calls Tryz.prog 124 [v].toArray w (ES w (λu w'=>∃bt vl vb,u=.tuple #[EE bt 0,I 0]/\TblE bt vl vb l w'/\∀k,IY bt vl vb k->w.heap.size<=k)):=by
 refine cw Tryz.func124 ?_;have r:=ED.refl w;obtain⟨xr,hl2,hE,yr⟩:=LA hb;obtain⟨hf,hRis⟩:=K7.1 hE;obtain⟨xj,zf⟩:=Vl hf;have htl:=XO yr;have yz:=OI l l.length;have hpN:(G5 l).length<=l.length:=yz;have hmk:(Ix (H9 l)).length<=5130:=by rw[Ma];have:=LS l l.length;unfold HQ;unfold H9;omega
 have yg:(EG (Fo l)).length<=2001000020:=by rw[Jm];omega
 have xu:=congrArg AC (Uy l);simp only [Aa]at xu;have xk:EV (G5 l).length++(((G5 l).flatMap (IP l))++(EV l.length++Fs (Ix (H9 l))))≠[]:=λe=>by
  have h9:=congrArg AC e;have h8:1<=(EV (G5 l).length).length:=NC 9 _;rw[Aa,Bi]at h9;omega
 refine ws λ_ Z1=>wr (da (da (de Z1 (ws λ_ Z2=>wr (dm ?_)))));refine cG (WB (EG (Fo l)) v _ (hv.ext r) yg) RX.all λu1 w1 x1 yh=>?_;have hsz1:=r.size;have r:=r.trans x1;obtain⟨vo,rfl,hV⟩:=yh;rw[Pz _ EB]at hV;refine dm ?_;refine dx rfl rfl (dx rfl rfl (da (da (de Z2 (ws λ_ Z3=>ws λ_ Z4=>wr (dm ?_))))));refine dp (FH rfl rfl) (de Z4 (wi (λc1=>?_) λc1=>?_))
 ·rw[Pz _ EB]at c1;simp at c1
 refine EI (Z3 _ _ (ws λ_ Z5=>wr (dm ?_)));refine cG (M6 (Fo l) vo _ (hV.arr EF) EB) RX.all λu2 w2 x2 yb=>?_;have hw:=r.size;have r:=r.trans x2;obtain⟨br,bb,yn,rfl,xy,gbb,z⟩:=yb;have hbr:w.heap.size<=br:=Ai hw xy;have ht:=z.lt;rw[Uy]at z ht;have ya:=Ai hw x2.size;have Z:Sz w2.heap.size w2:=⟨Ab _⟩;refine da (de Z5 (ws λ_ Z6=>wr (da (de Z6 (ws λ_ Z7=>ws λ_ Z8=>wr (dm ?_))))));refine cD (KE br bb yn _ false _ z (by simp only [Aa];omega)) (.inl rfl) λu3 w3 x3 yp=>?_;have hsz3:=r.size;have Z:=Z.mod x3 trivial;have r:=r.own x3 (λi hi=>(by have h2:i=br:=hi;omega));obtain⟨xd,yl,z⟩:=yp;rw[JG _ _ EB]at xd z;dsimp only at xd z;subst xd;refine dm (de Z8 (EM ?_));refine Fq (G:=Nat×Value×Value) (λ(k,vc,vl)=>[(0,v),(5,I (HO (EG (Fo l))).2),(6,EE br 0),(7,vl),(25,I ↑(G5 l).length),(26,I ↑k)]) (λ(k,vc,vl) w'=>ED w w'/\k<=(G5 l).length/\Rd br bb vc ((((G5 l).drop k).flatMap (IP l))++(EV l.length++Fs (Ix (H9 l)))) false w'/\Vc.Own Cell.cs 4 79 w2.heap.size w' vl (((G5 l).take k).flatMap (HV l))/\Sz w2.heap.size w') (λ(k,vc,vl)=>(G5 l).length-k) (0,yl,.slice none 0 0) ?_ ?_ ?_
 ·exact G2
 ·exact⟨r,Ae _,z,Vc.Own.nil,Z⟩
 intro X4 g4 w4 yy;obtain⟨k,vc,vl⟩:=g4;clear r Z z;obtain⟨r,zc,z,ho,Z⟩:=yy;refine ws λ_ Z9=>wr (dp (Fb rfl rfl) (de Z9 (ws λ_ y0=>wi (λc2=>?_) λc2=>?_)))
 ·obtain⟨p,hkp⟩:∃p,(G5 l)[k]?=some p:=Fw;have xp:=(Mw l l.length).mem (Ak hkp);obtain⟨c,hk⟩:∃c,l[p.2-1]?=some c:=Fw;have hcs:=Ka (hf c (Ak hk));have hsl:=Uk (l:=l) xp.2.2.1;have hsb:=Pg (l:=HV l p) (λc hc=>hf c (OV hc));have hfd:=R4 (IP l) (G5 l) k;have hfs:=Xpq l k;have xn:((((G5 l).drop k).flatMap (IP l))++(EV l.length++Fs (Ix (H9 l))))=(Fs c.key++(EV c.seq.toNat++(Fs (Hl (HV l p))++(((G5 l).drop (k+1)).flatMap (IP l)++(EV l.length++Fs (Ix (H9 l))))))):=by rw[Jd hkp,AB];unfold IP;rw[Fy hk];simp only [A7]
  have y8:=congrArg AC xn;simp only [Aa]at y8;refine EI (y0 _ _ (ws λ_ yo=>EM (ws λ_ yx=>wr (dm ?_))));rw[xn]at z;refine cD (Kx br bb vc _ false _ z (by simp only [Aa];omega)) (.inl rfl) λu5 w5 x5 ye=>?_;have hsz5:=r.size;have ho:=ho.mod x5 (λk9 h9 e=>ho.ne_blk z.m rfl (by rw[h9];exact congrArg some e));have Z:=Z.mod x5 trivial;have r:=r.own x5 (λi hi=>(by have h2:i=br:=hi;omega));obtain⟨_,y9,z⟩:=ye;rw[Ks _ _ _ EB]at z;dsimp only at z;refine de yx (ws λ_ yt=>wr (dm ?_));refine cD (KE br bb y9 _ false _ z (by simp only [Aa];omega)) (.inl rfl) λu6 w6 x6 yf=>?_;have hsz6:=r.size;have ho:=ho.mod x6 (λk9 h9 e=>ho.ne_blk z.m rfl (by rw[h9];exact congrArg some e));have Z:=Z.mod x6 trivial;have r:=r.own x6 (λi hi=>(by have h2:i=br:=hi;omega));obtain⟨rfl,zg,z⟩:=yf;rw[JG _ _ EB]at z;dsimp only at z;refine de yt (ws λ_ x0=>wr (dm ?_));refine cD (Kx br bb zg _ false _ z (by simp only [Aa];omega)) (.inl rfl) λuB w7 x7 x4=>?_;have hsz7:=r.size;have ho:=ho.mod x7 (λk9 h9 e=>ho.ne_blk z.m rfl (by rw[h9];exact congrArg some e));have Z:=Z.mod x7 trivial;have r:=r.own x7 (λi hi=>(by have h2:i=br:=hi;omega));obtain⟨hB,xi,z⟩:=x4;rw[Ks _ _ _ EB]at hB z;dsimp only at hB z;refine cG (Xz8 (HV l p) uB _ (hB.arr EF) EB (Rb hE p)) RX.all λu8 w8 x8 xv=>?_;have hsz8:=r.size;have ho:=ho.ext x8;have Z:=Z.ext x8;have z:=z.ext x8;have r:=r.trans x8;obtain⟨vC,rfl,hC⟩:=xv;refine dm ?_;refine dx rfl rfl (dx rfl rfl (da (da (de x0 (ws λ_ xx=>ws λ_ yv=>wr (dm ?_))))));refine cP (Pd br bb xi _ false _ z) RX.all λw9 x9=>?_;have ho:=ho.ext x9;have Z:=Z.ext x9;have z:=z.ext x9;have hC:=hC.ext x9;have r:=r.trans x9;refine dn (dm ?_);refine I5 41 rfl (λc3=>?_) (λc3=>?_)
  ·simp at c3
  refine dm ?_;refine dp (FH rfl rfl) (EP (de yv ?_));refine wi (λc4=>?_) λc4=>?_
  ·exact absurd rfl c4
  refine EI (xx _ _ (wr (dm (dm ?_))));refine Hy (lx:=(HV l p)) (e:=79) (sz:=4) (by':=48) rfl EA EA EF ho ((hC.arr EF)) rfl rfl (by intro x _ u hu;simp at hu;rcases hu with rfl|rfl|rfl|rfl<;>rfl) EB EN Z.le (.inl rfl) (λze w10 xq xa=>?_);have Z:=Z.mod xa (by trivial);have z:=z.mod xa (by intro k9 h9 e9;have h8:=ht k9 (Ib (λ_=>xk) h9);have h7:=(ho.lt k9 e9).1;omega);have r:=r.own xa (λi hi=>(Ai ya (ho.lt i hi).1));have ho:=xq;refine da (de yo (wr ?_));refine pa rfl rfl (dm (EH (?_)));refine⟨(k+1,xi,ze),G2,⟨r,by omega,z,?_,Z⟩,by simp only [];omega⟩;rw[G1 hkp,AU,AB,BU,AO];exact ho
 have yk:k=(G5 l).length:=by omega
 rw[yk,AI,Xwd]at ho;have O:=ho;refine Fk (Z7 _ _ (ws λ_ zb=>wr (dm ?_)));refine cG (WZ l vl _ (O.arr EF) EB) RX.all λu11 w11 xg xl=>?_;have hsz11:=r.size;have z:=z.ext xg;have O:=O.ext xg;have r:=r.trans xg;obtain⟨za,rfl,yj⟩:=xl;have xo:=(yj hb).1;refine dm ?_;refine dx rfl rfl (dx rfl rfl (da (da (de zb (ws λ_ yc=>ws λ_ yi=>wr (dm ?_))))));refine dp (FH rfl rfl) (dm ?_);refine F4 56 rfl (λc5=>?_) (λc5=>?_)
 ·exact absurd hb c5
 iterate 2 refine dm ?_
 refine cP (Ow (EG (Fo l)) (EG (Fo l)) za v _ xo (hv.ext r)) RX.all λw12 h5=>?_;have z:=z.ext h5;have O:=O.ext h5;have r:=r.trans h5;refine dn ?_;refine EP (de yi ?_);refine wc (λc6=>?_) λc6=>?_
 ·simp at c6
 refine EI (yc _ _ (ws λ_ y3=>wr (dm ?_)));refine Px U9 rfl RX.all (λb1 w13 e1 hz J=>?_);have g1:=r.ge e1;have a1_hR:=z.lt;have o1_hL:=O.ltb e1;have z:=z.ext hz;have O:=O.ext hz;have r:=r.trans hz;refine dm ?_;refine cG (XT l vl _ (O.arr EF) EB) RX.all λvK w14 hq hK=>?_;have hsz14:=r.size;have z:=z.ext hq;have O:=O.ext hq;have J:=J.ext hq;have r:=r.trans hq;refine cG (UY (H9 l) vK _ (hK.arr EF) (by have:=LS l l.length;unfold H9;omega) (λs9 h9=>by obtain⟨c9,y1,rfl⟩:=Xy (Ab _) h9;have:=Ka (hf c9 y1);omega)) RX.all λvM w15 hr y6=>?_;have xe:=r.size;have z:=z.ext hr;have O:=O.ext hr;have J:=J.ext hr;have r:=r.trans hr;have Y:=y6.mono xe;refine dp (M4 (zs:=[.slice none 0 0,.map none,.slice none 0 0]) (pl:=[(0,1),(1,1),(2,1)]) (pv:=[(0,?a40_0),(1,?a40_1),(2,?a40_2)]) (cs:=[?a40_0,?a40_1,?a40_2]) EA EA ?h40 ?f40) ?k40
 case h40=>refine⟨rfl,?_,rfl,?_,rfl,?_,trivial⟩<;>(conv=>lhs;whnf)
 case f40=>rcases O.sl with⟨e,_⟩|⟨_,_,_,e,_⟩|⟨_,_,_,e⟩<;>rcases Y.sl with⟨e2,_⟩|⟨_,_,_,e2,_⟩|⟨_,_,_,e2⟩<;>rw[e,e2]<;>rfl
 refine Gn rfl rfl rfl RX.all (λb2 w16 e2 hp m2=>?_);have g2:=r.ge e2;have n2_mp1:=J.lt;have a2_hR:=z.lt;have o2_hL:=O.ltb e2;have o2_hM:=Y.ltb e2;have z:=z.ext hp;have O:=O.ext hp;have J:=J.ext hp;have Y:=Y.ext hp;have r:=r.trans hp;refine da (de y3 (ws λ_ y4=>ws λ_ y2=>wr (dm ?_)));refine cG (Vf l vl _ (O.arr EF) EB xj zf) RX.all λvP w17 hh xw=>?_;have xf:=r.size;have z:=z.ext hh;have O:=O.ext hh;have J:=J.ext hh;have Y:=Y.ext hh;have m2:=m2.ext hh;have r:=r.trans hh;have hP:=xw.mono xf;refine dv 284 2 (hP.arr EF).sl (dm (de y2 (EM ?_)));refine Fq (G:=Nat×(Int×Int->Option Bool)) (λ(k,fm)=>[(11,EE b2 0),(70,vP),(71,I ↑(G5 l).length),(72,I ↑k)]) (λ(k,fm) w'=>ED w w'/\Vc.Own Cell.cs 4 79 w2.heap.size w' vl l/\Vc.Own EO 1 5 w.heap.size w' vM (Ix (H9 l))/\EK w' b2 [vl,.map (some b1),vM] 185/\Vc.Own Jc 2 284 w.heap.size w' vP (G5 l)/\k<=(G5 l).length/\Vc.Xbq Tryz.prog 284 Gz B w' b1 k fm) (λ(k,fm)=>(G5 l).length-k) (0,λ_=>none) ?_ ?_ ?_
 ·exact Gc
 ·exact⟨r,O,Y,m2,hP,Ae _,J⟩
 intro X18 yu w18 xm;obtain⟨k,fm⟩:=yu;clear r z Z O xo J hK Y m2 hP;obtain⟨r,O,Y,m2,hP,zc,J⟩:=xm;refine ws λ_ y7=>wr (dp (Fb rfl rfl) (de y7 (ws λ_ xz=>wi (λc7=>?_) λc7=>?_)))
 ·obtain⟨p,hkp⟩:∃p,(G5 l)[k]?=some p:=Fw;have xp:=(Mw l l.length).mem (Ak hkp);refine EI (xz _ _ (ws λ_ yw=>EM (ws λ_ ym=>wr (di 284 2 (hP.arr EF).sl rfl ((hP.arr EF).lt hkp) (dq (Fe EA rfl rfl ((hP.arr EF).row hkp)) (FP (cs:=[.int .i64 0,.int .i64 0]) rfl EA RX.all (λb3 w19 e3 hg m3=>?_)))))));have g3:=r.ge e3;have n3_2:=m2.ltb e3;have n3_mp1:=J.lt;have h6:=O.ltb e3;have xb:=Y.ltb e3;have xc:=hP.ltb e3;have O:=O.ext hg;have Y:=Y.ext hg;have m2:=m2.ext hg;have hP:=hP.ext hg;have J:=J.ext hg;have r:=r.trans hg;refine FY m3 (λw20 hj xs20 m3=>?_);dsimp only [EY,Af,Ad,Ag]at m3;have O:=O.mod hj (by intro k hk h;have h1:=h6 k hk;have h2:k=b3:=h;omega);have Y:=Y.mod hj (by intro k hk h;have h1:=xb k hk;have h2:k=b3:=h;omega);have m2:=m2.mo hj;have hP:=hP.mod hj (by intro k hk h;have h1:=xc k hk;have h2:k=b3:=h;omega);have J:=J.mod hj (by intro h;have h2:_=b3:=h;omega);have r:=r.o1 hj;refine de ym (F9 (R:=ED) ED.refl (λ_ _ _=>ED.trans) EA [3,4] [(0,.p,false),(1,.p,false),(2,.p,false),(3,.l,false),(4,.l,false),(5,.x,true)] rfl EA EA (λw21 hy=>?_));have ha:=EL hy;clear hy;have O:=O.ext ha;have Y:=Y.ext ha;have m2:=m2.ext ha;have hP:=hP.ext ha;have J:=J.ext ha;have m3:=m3.ext ha;have r:=r.trans ha;refine dm ?_;refine dz rfl (df 1 rfl (dL rfl (λ_ z=>((m2.ext z).at rfl)) (FW rfl (λw' z=>Fe (k:=2) EA rfl rfl (m3.ext z).row) ?_)));refine Ou U9 (kx:=((p.1:Int),(p.2:Int))) (a:=true) rfl rfl rfl rfl J (by unfold KG EU;constructor<;>simp<;>omega) (by unfold maxLen;omega) (.inl rfl) (λw22 hl xs22 xh=>?_);have O:=O.mod hl (by exact(λk hk e=>J.ne_own O (hk.trans (congrArg some e))));have Y:=Y.mod hl (by exact(λk hk e=>J.ne_own Y (hk.trans (congrArg some e))));have m2:=m2.mod hl (by exact λe=>J.ne_blk m2 e);have hP:=hP.mod hl (by exact(λk hk e=>J.ne_own hP (hk.trans (congrArg some e))));have r:=r.own hl (λi hi=>by have yq:i=b1:=hi;subst yq;omega);have J:=xh;refine de yw (wr (pa rfl rfl (dm (EH (?_)))));exact⟨(k+1,_),Gc,⟨r,O,Y,m2,hP,by omega,J⟩,by simp only [];omega⟩
 refine Fk (y4 _ _ (ws λ_ y5=>wr (dm (da (da (de y5 (EJ ?_)))))));refine rt ?_;have yd:l≠[]:=λe=>by rw[e]at xr;simp at xr
 have zd:Ix (H9 l)≠[]:=λe=>by have h9:=Ma (H9 l);rw[e]at h9;unfold HQ at h9;simp at h9;omega
 exact⟨_,rfl,r,b2,vl,vM,rfl,⟨⟨_,m2⟩,O.arr EF,Y.arr EF,hb⟩,λk9 h9=>by
  rcases h9 with h9|h9|h9
  ·omega
  ·have:=(O.base_ge yd).1;omega
  ·have:=(Y.base_ge zd).1;omega⟩
theorem Pu {l:List Cell}{k:Nat}{c:Cell}{frm to:EC}(h:l[k]?=some c):HC (l.take (k+1)) frm to=if JN frm to c=true then HC (l.take k) frm to++[c]else HC (l.take k) frm to:=by
 obtain⟨hk,rfl⟩:=Ap.1 h;rw[List.take_succ_eq_append_getElem hk];unfold HC;rw[BL]
 by_cases hi:JN frm to l[k]=true
 ·rw[if_pos hi];simp [hi]
 ·rw[if_neg hi];simp [hi]
theorem Xns (l:List Cell)(k:Nat)(frm to:EC):(HC (l.take k) frm to).length<=l.length:=by
 have h1:=BI (JN frm to) (l.take k);have h2:(l.take k).length<=l.length:=List.length_take_le' ..;exact Ai h1 h2
theorem Xiv {c:Cell}{frm to:EC}(h:(!Op.bytesLess c.key frm)=true)(e:to=[]):JN frm to c=true:=by simp [JN,Fg,h,e]
theorem Xhc {c:Cell}{frm to:EC}(h:(!Op.bytesLess c.key frm)=true)(e:Op.bytesLess c.key to=true):JN frm to c=true:=by simp [JN,Fg,h,e]
theorem Xiw {c:Cell}{frm to:EC}(h:(!Op.bytesLess c.key frm)=false):¬ JN frm to c=true:=by simp [JN,Fg,h]
theorem Xix {c:Cell}{frm to:EC}(e:¬ to=[])(h:Op.bytesLess c.key to=false):¬ JN frm to c=true:=by simp [JN,Fg,h,e]
def weight (l:List Cell):Nat:=(l.map λc=>c.key.length+c.val.length).sum
def light (l:List Cell):Prop:=l.length<=201/\weight l<=6000
theorem Wi {l:List Cell}(h:JJ l=true){i j:Nat}(hij:i<j)(hj:j<l.length):Fa (Gh l i) (Gh l j)=true:=by
 induction j with
 | zero=>omega
 | succ j ih=>
  have e1:l[j]?=some l[j]:=Ar EB;have e2:l[j+1]?=some l[j+1]:=Ar hj;have h1:=Um h e1 e2;rw[<-Fy e1,<-Fy e2]at h1
  by_cases e:i=j
  ·rw[e];exact h1
  ·exact N2 (ih EB EB) h1
theorem first_none {l:List Cell}{key:EC}{seq:Int}(h:∀c∈l,¬ (c.key=key/\c.seq<=seq)):first l key seq=none:=by
 unfold first
 rw[List.find?_eq_none];intro c r;have:=h c r;simp only [Au,decide_eq_true_eq];exact this
theorem first_at {l:List Cell}{key:EC}{seq:Int}{i:Nat}{c:Cell}(hc:l[i]?=some c)(h1:c.key=key)(h2:c.seq<=seq)(h:∀j,j<i->¬ ((Gh l j).key=key/\(Gh l j).seq<=seq)):first l key seq=some c:=by
 obtain⟨hi,rfl⟩:=Ap.1 hc;unfold first
 rw[List.find?_eq_some_iff_getElem];refine⟨by simp [h1,h2],i,hi,rfl,λj r=>?_⟩;have e:l[j]?=some l[j]:=Ar EB;have:=h j r;rw[Fy e]at this;simp only [Bool.not_eq_true',Bool.and_eq_false_iff,decide_eq_false_iff_not]
 by_cases e2:l[j].key=key
 ·exact .inr (λz=>this ⟨e2,z⟩)
 ·exact .inl e2
theorem T1 {a:Cell}{key:EC}{seq:Int}(h:Fa a ⟨key,[],false,seq⟩=true):¬ (a.key=key/\a.seq<=seq):=by
 rw[Jf]at h;rintro ⟨e,h2⟩;rcases h with h|⟨_,h⟩
 ·rw[e,I1]at h;cases h
 ·simp only at h;omega
theorem US {l:List Cell}(hr:JJ l=true){key:EC}{seq:Int}{i:Nat}(h1:∀j,j<i->Fa (Gh l j) ⟨key,[],false,seq⟩=true)(h2:i<l.length->Fa (Gh l i) ⟨key,[],false,seq⟩=false)(h3:i=l.length\/(i<l.length/\(Gh l i).key≠key)):first l key seq=none:=by
 refine first_none λc O=>?_;obtain⟨j,J⟩:=Ci.1 O;have z:=(Ap.1 J).1;rw[<-Fy J]
 by_cases e:j<i
 ·exact T1 (h1 j e)
 ·rcases h3 with h3|⟨h3,h4⟩
  ·omega
  ·rintro ⟨e2,e3⟩;have hk:=h2 h3;have hgt:Fg key (Gh l i).key=true:=by
    rcases JK key (Gh l i).key with h|h|h
    ·exact absurd h.symm h4
    ·exact h
    ·have:Fa (Gh l i) ⟨key,[],false,seq⟩=true:=(Jf _ _).2 (.inl h);rw[this]at hk;cases hk
   by_cases e4:j=i
   ·rw[e4]at e2;exact h4 e2
   ·have r:=Wi hr (show i<j by omega) z;rw[Jf]at r;rcases r with r|⟨r,_⟩
    ·rw[e2]at r;rw[K9 hgt]at r;cases r
    ·rw[e2]at r;exact h4 r
theorem X5y {l:List Cell}{key:EC}{seq:Int}{i:Nat}{c:Cell}(hc:l[i]?=some c)(h1:∀j,j<i->Fa (Gh l j) ⟨key,[],false,seq⟩=true)(h2:Fa c ⟨key,[],false,seq⟩=false)(h3:c.key=key):first l key seq=some c:=by
 refine first_at hc h3 ?_ λj r=>T1 (h1 j r);have n:¬ Fa c ⟨key,[],false,seq⟩=true:=by rw[h2];decide
 rw[Jf,not_or]at n;have n2:=n.2;simp only [h3,true_and]at n2;omega
theorem X0b {l:List Cell}{key:EC}{seq:Int}(h:J3 (Ix (H9 l)) key=false):first l key seq=none:=by
 refine first_none λc r e=>?_;have:=Xzt (Xv3 r);rw[e.1,h]at this
 cases this
theorem X5z {P:Program}{E:Fh}{dd:Option Tmp}{ty:TypeId}{pos:String}{af:Array Edge}{g:Option (Nat×Bool)}{x y:Operand}{T U:TypeId}{u:Nat}{ky:IntKind}(hx:ev E x=.int .u64 u)(hy:ev E y=.int ky 1):PV P ⟨dd,.binOp .shr T x y U,ty,pos,af,g⟩ E (.int .u64 (u / 2:Nat)):=by
 have:=N4 (P:=P) (dd:=dd) (ty:=ty) (pos:=pos) (af:=af) (g:=g) (T:=T) (U:=U) hx hy EN;rwa [show((u:Int)).fdiv (2 ^ min (1:Int).toNat IntKind.u64.bits)=((u / 2:Nat):Int) by
  rw[show(2:Int) ^ min (1:Int).toNat IntKind.u64.bits=2 by decide,Int.fdiv_eq_ediv_of_nonneg _ EB];omega]at this
theorem X0c (n f:Nat)(cs:List Value)(p:Nat->Bool)(w:World)(hn:n<=1000000)(hcb:GM Tryz.prog f=true)(hc:∀z,ED w z->∀i,i<n->Calls Tryz.prog f ([I ↑i]++cs).toArray z (Pure z (B (p i))))(hmo:∀i j,i<=j->j<n->p i=true->p j=true) :
  Calls Tryz.prog 256 [I ↑n,I7 f cs].toArray w (ES w (λu _=>∃i:Nat,u=I ↑i/\i<=n/\(∀j,j<i->p j=false)/\(i<n->p i=true))):=by
 refine cw Tryz.func256 ?_;have r:=ED.refl w;refine ws λ_ Z1=>wr (da (de Z1 (ws λ_ Z2=>wr (dm (da (da (de Z2 (ws λ_ Z3=>EM ?_))))))));refine Fq (G:=Nat×Nat) (λ(lo,hi)=>[(1,I7 f cs),(4,I 0),(5,I ↑lo),(6,I ↑hi)]) (λ(lo,hi) w'=>ED w w'/\lo<=hi/\hi<=n/\(∀j,j<lo->p j=false)/\(hi<n->p hi=true)) (λ(lo,hi)=>hi-lo) (0,n) ?_ ?_ ?_
 ·exact Gc
 ·exact⟨r,Ae _,Ab _,(λj h=>by omega),(λh=>by omega)⟩
 intro X1 g1 w1 O;obtain⟨lo,hi⟩:=g1;clear r;obtain⟨r,h1,h2,h3,h4⟩:=O;refine ws λ_ Z4=>ws λ_ Z5=>wr (dm (dm ?_));refine dp (Fb rfl rfl) (de Z5 (wi (λc1=>?_) λc1=>?_))
 ·refine EI (Z4 _ _ (EM (ws λ_ Z6=>wr (dm (dm ?_)))));refine pa rfl rfl (EW (v:=.int .u64 ↑(lo+hi)) rfl (KC (n:=lo+hi) (k:=.i64) EB rfl EA EA) rfl (dp (X5z (u:=lo+hi) rfl rfl) (dp (Lk (n:=(lo+hi) / 2) EB rfl EA EA) (da (de Z6 (ws λ_ Z7=>wr (dm (dm ?_))))))));refine PP (vs:=[I ↑((lo+hi) / 2)]) (cs:=cs) rfl rfl hcb (hc _ r ((lo+hi) / 2) EB) rfl RX.all (λz x2=>?_);have r:=r.trans x2;refine dn (de Z7 ?_);refine wc (λJ=>?_) λJ=>?_
  ·refine wr (dm ?_);refine pa rfl rfl (da (EH (?_)));refine⟨((lo+hi) / 2+1,hi),Gc,⟨r,by omega,h2,λj hj=>?_,h4⟩,by simp only [];omega⟩
   cases e:p j with
   | false=>rfl
   | true=>have Y:=hmo j ((lo+hi) / 2) EB EB e;rw[Y]at J;simp at J
  refine wr (dm (da (EH (?_))));refine⟨(lo,(lo+hi) / 2),Gc,⟨r,by omega,by omega,h3,λ_=>by simpa using J⟩,by simp only [];omega⟩
 refine Fk (Z3 _ _ (ws λ_ Z=>wr (dm (da (de Z (EJ ?_))))));refine ro ?_;exact⟨_,rfl,r,lo,rfl,by omega,h3,λh=>by rw[show lo=hi by omega];exact h4 EB⟩
theorem Ybw (bt:Nat)(vl vb:Value)(l:List Cell)(key:EC)(seq:Int)(i b3 b4 b5:Nat)(w:World)(hT:TblE bt vl vb l w)(h3:EK w b3 [EE bt 0] 102)(h4:EK w b4 [S key] 9)(h5:EK w b5 [I seq] 3)(hi:i<l.length) :
  Calls Tryz.prog 257 [I ↑i,EE b3 0,EE b4 0,EE b5 0].toArray w (Pure w (B (!Fa (Gh l i) ⟨key,[],false,seq⟩))):=by
 refine cw Tryz.func257 ?_;have r:=ED.refl w;obtain⟨⟨vp,hm⟩,O,hb,Y⟩:=hT;obtain⟨hl1,hl2,Z,hen⟩:=LA Y;obtain⟨hAll,hRis⟩:=K7.1 Z;obtain⟨c,hk⟩:∃c,l[i]?=some c:=⟨_,Ar hi⟩;refine ws λ_ Z1=>wr (da (de Z1 (ws λ_ Z2=>?_)));refine F9 (R:=ED) ED.refl (λ_ _ _=>ED.trans) EA [0,3,6,7,8] [(0,.l,false),(1,.p,false),(2,.p,false),(3,.l,false),(4,.p,false),(5,.p,false),(6,.l,false),(7,.l,false),(8,.l,false),(9,.p,false),(10,.x,false),(11,.p,false),(12,.p,false)] rfl EA EA (λw1 J=>?_);have x1:=EL J;clear J;have r:=r.trans x1;refine dL rfl (λ_ z=>((h3.ext (r.trans z)).at rfl)) (dz rfl (df 0 rfl (dL rfl (λ_ z=>((hm.ext (r.trans z)).at rfl)) (dm ?_))));refine di 79 4 (O.ext r).sl rfl ((O.ext r).lt hk) (FW rfl (λw' z=>Fe EA rfl rfl (((O.ext r).ext z).row hk)) (dL rfl (λ_ z=>((h4.ext (r.trans z)).at rfl)) (dL rfl (λ_ z=>((h5.ext (r.trans z)).at rfl)) (db (zs:=[S [],S [],B false,.int .i64 0]) (pl:=[(0,1),(1,1),(2,1),(3,1)]) (pv:=[(0,_),(3,_)]) (cs:=[_,S [],B false,_]) ?_))));refine cP (Ns c ⟨key,[],false,seq⟩ _) RX.ext λw2 x2=>?_;have r:=r.trans x2;refine dn (da (de Z2 (EJ ?_)));refine ro ?_;rw[Fy hk];exact⟨rfl,r⟩
theorem Ybx (bt:Nat)(vl vb:Value)(l:List Cell)(key:EC)(seq:Int)(w:World)(hT:TblE bt vl vb l w) :
  Calls Tryz.prog 186 [EE bt 0,S key,I seq].toArray w (ES w (λu _=>∃i:Nat,u=I ↑i/\i<=l.length/\(∀j,j<i->Fa (Gh l j) ⟨key,[],false,seq⟩=true)/\(i<l.length->Fa (Gh l i) ⟨key,[],false,seq⟩=false))):=by
 refine cw Tryz.func186 ?_;have r:=ED.refl w;have hc:=hT;obtain⟨⟨vp,hm⟩,ha,hb,hh⟩:=hT;obtain⟨hl1,hl2,hE,hen⟩:=LA hh;obtain⟨hAll,O⟩:=K7.1 hE;refine ws λ_ Z1=>wr (Gn rfl rfl rfl RX.all (λb1 w1 e1 x1 z=>?_));have g1:=r.ge e1;have r:=r.trans x1;refine Gn rfl rfl rfl RX.all (λb2 w2 e2 J Y=>?_);have g2:=r.ge e2;have n2_1:=z.ltb e2;have z:=z.ext J;have r:=r.trans J;refine Gn rfl rfl rfl RX.all (λb3 w3 e3 x3 m3=>?_);have g3:=r.ge e3;have n3_1:=z.ltb e3;have n3_2:=Y.ltb e3;have z:=z.ext x3;have Y:=Y.ext x3;have r:=r.trans x3;refine da (de Z1 (ws λ_ Z2=>wr ?_));refine dl rfl (z.at rfl) (dz rfl (df 0 rfl (dl rfl ((hm.ext r).at rfl) (dv 79 4 (ha.ext r).sl (dp (Ob rfl) ?_)))));refine XM rfl EA (X0c l.length 257 [EE b1 0,EE b2 0,EE b3 0] (λi=>!Fa (Gh l i) ⟨key,[],false,seq⟩) _ EB EA (λw2 J i hi=>Ybw bt vl vb l key seq i _ _ _ w2 (hc.ext (r.trans J)) (z.ext J) (Y.ext J) (m3.ext J) hi) (λi j hij hj h=>by
  cases e:Fa (Gh l j) ⟨key,[],false,seq⟩with
  | false=>rfl
  | true=>
   by_cases e2:i=j
   ·rw[e2,e]at h;simp at h
   ·rw[N2 (Wi O (show i<j by omega) hj) e]at h;simp at h)) rfl RX.all (λu4 w4 x4 Z=>?_)
 have hsz4:=r.size;have r:=r.trans x4;obtain⟨i,rfl,hg,hf,hl⟩:=Z;refine da (de Z2 (EJ ?_));refine ro ?_;exact⟨_,rfl,r,i,rfl,hg,λj hj=>by simpa using hf j hj,λh=>by simpa using hl h⟩
theorem VT (bt:Nat)(vl vb:Value)(l:List Cell)(key:EC)(seq:Int)(w:World)(hT:TblE bt vl vb l w)(hkl:key.length<=1000000000) :
  Calls Tryz.prog 114 [EE bt 0,S key,I seq].toArray w (Pure w (.tuple #[((first l key seq).getD Cell.zero).v,B (first l key seq).isSome])):=by
 refine cw Tryz.func114 ?_;have r:=ED.refl w;have hh:=hT;obtain⟨⟨vp,hm⟩,O,hb,hj⟩:=hT;obtain⟨hl1,hl2,hE,hen⟩:=LA hj;obtain⟨hAll,J⟩:=K7.1 hE;refine ws λ_ Z1=>wr (FP (cs:=[S [],S [],B false,.int .i64 0]) rfl EA RX.all (λb1 w1 e1 x1 z=>?_));have g1:=r.ge e1;have r:=r.trans x1;refine da (de Z1 (ws λ_ Z2=>ws λ_ Z3=>wr (dm ?_)));refine dp (Gi EA rfl rfl) (dm ?_);refine F4 11 rfl (λc1=>?_) (λc1=>?_)
 ·exact absurd c1 ER
 refine dm ?_;refine dz rfl (df 2 rfl (dl rfl ((hm.ext r).at rfl) (dm ?_)));refine cP (X8z (Ix (H9 l)) vb key _ (hb.ext r) (by rw[Ma];have:=LS l l.length;unfold HQ H9;omega) hkl) RX.all λw2 x2=>?_;have z:=z.ext x2;have r:=r.trans x2;refine dn ?_;refine EP (de Z3 ?_);refine wc (λc2=>?_) λc2=>?_
 ·refine ws λ_ Z4=>wr (db (zs:=[S [],S [],B false,.int .i64 0]) (pl:=[(0,1),(1,1),(2,1),(3,1)]) (pv:=[]) (cs:=[S [],S [],B false,.int .i64 0]) ?_);refine FY z (λw3 x3 xs3 z=>?_);dsimp only [EY,Af,Ad,Ag]at z;have r:=r.o1 x3;refine da (de Z4 (EJ ?_));refine IH (u:=?v11) rfl rfl rfl rfl EA rfl z.row ?h11 ?k11
  case h11=>conv=>lhs;whnf
  rw[X0b (by simpa using c2)];exact⟨rfl,r⟩
 refine EI (Z2 _ _ (ws λ_ Z5=>wr (dm (dm (dm ?_)))));refine cG (Ybx bt vl vb l key seq _ (hh.ext r)) RX.all λu4 w4 x4 hg=>?_;have hsz4:=r.size;have z:=z.ext x4;have r:=r.trans x4;obtain⟨i,rfl,hi1,Y,hc⟩:=hg;refine da (de Z5 (ws λ_ Z6=>ws λ_ Z7=>wr (dm (dm ?_))));refine dz rfl (df 0 rfl (dl rfl ((hm.ext r).at rfl) (dv 79 4 (O.ext r).sl (dp (GB rfl rfl) (dm ?_)))));refine F4 32 rfl (λc3=>?_) (λc3=>?_)
 ·iterate 10 refine dk ?_
  refine EP (de Z7 ?_);refine GS rfl (ws λ_ Z8=>wr (db (zs:=[S [],S [],B false,.int .i64 0]) (pl:=[(0,1),(1,1),(2,1),(3,1)]) (pv:=[]) (cs:=[S [],S [],B false,.int .i64 0]) ?_));refine FY z (λw5 x5 xs5 z=>?_);dsimp only [EY,Af,Ad,Ag]at z;have r:=r.o1 x5;refine da (de Z8 (EJ ?_));refine IH (u:=?v23) rfl rfl rfl rfl EA rfl z.row ?h23 ?k23
  case h23=>conv=>lhs;whnf
  rw[US J Y hc (.inl EB)];exact⟨rfl,r⟩
 have Z:i<l.length:=by omega
 obtain⟨c,hk⟩:∃c,l[i]?=some c:=⟨_,Ar Z⟩;have hf:=hc Z;rw[Fy hk]at hf;refine dm ?_;refine dz rfl (df 0 rfl (dl rfl ((hm.ext r).at rfl) (dm ?_)));refine di 79 4 (O.ext r).sl rfl ((O.ext r).lt hk) (df 0 rfl (dl rfl (((O.ext r).row hk).at rfl) (dm ?_)));refine dp (Me rfl rfl) (EP (de Z7 ?_));refine wi (λc4=>?_) λc4=>?_
 ·refine ws λ_ Z9=>wr (db (zs:=[S [],S [],B false,.int .i64 0]) (pl:=[(0,1),(1,1),(2,1),(3,1)]) (pv:=[]) (cs:=[S [],S [],B false,.int .i64 0]) ?_);refine FY z (λw6 x6 xs6 z=>?_);dsimp only [EY,Af,Ad,Ag]at z;have r:=r.o1 x6;refine da (de Z9 (EJ ?_));refine IH (u:=?v31) rfl rfl rfl rfl EA rfl z.row ?h31 ?k31
  case h31=>conv=>lhs;whnf
  rw[US J Y hc (.inr ⟨Z,by rw[Fy hk];exact c4⟩)];exact⟨rfl,r⟩
 refine EI (Z6 _ _ (ws λ_ hl=>wr (dm ?_)));refine dz rfl (df 0 rfl (dl rfl ((hm.ext r).at rfl) (dm ?_)));refine di 79 4 (O.ext r).sl rfl ((O.ext r).lt hk) (dq (Fe EA rfl rfl ((O.ext r).row hk)) (FY z (λw7 x7 xs7 z=>?_)));dsimp only [EY,Af,Ad,Ag]at z;have r:=r.o1 x7;refine da (de hl (EJ ?_));refine IH (u:=?v36) rfl rfl rfl rfl EA rfl z.row ?h36 ?k36
 case h36=>conv=>lhs;whnf
 rw[X5y hk Y hf (AK c4)];exact⟨rfl,r⟩
theorem X50 (bt:Nat)(vl vb:Value)(l:List Cell)(frm to:EC)(w:World)(hT:TblE bt vl vb l w) :
  Calls Tryz.prog 49 [EE bt 0,S frm,S to].toArray w (ES w (λv' w'=>Vc.Own Cell.cs 4 79 w.heap.size w' v' (HC l frm to))):=by
 refine cw Tryz.func49 ?_;have r:=ED.refl w;have hT0:=hT;obtain⟨⟨vp,hm⟩,ha,hb,hc⟩:=hT;obtain⟨hl1,hl2,hE,hen⟩:=LA hc;obtain⟨hAll,hRis⟩:=K7.1 hE;refine ws λ_ Z1=>wr (da (de Z1 (ws λ_ Z2=>ws λ_ Z3=>wr (dm ?_))));refine dp (Gi EA rfl rfl) (de Z3 (wi (λc1=>?_) λc1=>?_))
 ·exact absurd c1 ER
 refine EI (Z2 _ _ (ws λ_ Z4=>wr (da (de Z4 (ws λ_ Z5=>ws λ_ Z6=>wr (dm ?_))))));refine dz rfl (df 0 rfl (dl rfl ((hm.ext r).at rfl) (dv 79 4 (ha.ext r).sl (dm (de Z6 (EM ?_))))));refine Fq (G:=Nat×Value) (λ(k,Z)=>[(1,S frm),(2,S to),(6,.slice none 0 0),(7,Z),(15,vl),(16,I ↑l.length),(17,I ↑k)]) (λ(k,Z) w'=>ED w w'/\k<=l.length/\Vc.Own Cell.cs 4 79 w.heap.size w' Z (HC (l.take k) frm to)) (λ(k,Z)=>l.length-k) (0,.slice none 0 0) ?_ ?_ ?_
 ·exact Gb
 ·exact⟨r,Ae _,Vc.Own.nil⟩
 intro X1 g1 w1 hh;obtain⟨k,Z⟩:=g1;clear r;obtain⟨r,hk1,ho⟩:=hh;refine ws λ_ Z7=>wr (dp (Fb rfl rfl) (de Z7 (ws λ_ Z8=>wi (λc2=>?_) λc2=>?_)))
 ·obtain⟨c,hk⟩:∃c,l[k]?=some c:=Fw;have hlen:=Xns l k frm to;refine EI (Z8 _ _ (ws λ_ Z9=>EM (ws λ_ hf=>wr (di 79 4 (ha.ext r).sl rfl ((ha.ext r).lt hk) (dq (Fe EA rfl rfl ((ha.ext r).row hk)) (FP (cs:=[S [],S [],B false,.int .i64 0]) rfl EA RX.all (λb1 w2 e1 x2 z=>?_)))))));have g1:=r.ge e1;have O:=ho.ltb e1;have ho:=ho.ext x2;have r:=r.trans x2;refine FY z (λw3 x3 xs3 z=>?_);dsimp only [EY,Af,Ad,Ag]at z;have ho:=ho.mod x3 (by intro k hk h;have h1:=O k hk;have h2:k=b1:=h;omega);have r:=r.o1 x3;refine de hf (ws λ_ Y=>wr (df 0 rfl (dl rfl (z.at rfl) (dm ?_))));refine dp (RW rfl rfl) (dm ?_);refine I5 25 rfl (λc3=>?_) (λc3=>?_)
  ·refine dm ?_;refine dp (MU rfl rfl) (dm ?_);refine F4 28 rfl (λc4=>?_) (λc4=>?_)
   ·refine dk (dk (dk (dk (EP ?_))));refine EP (de Y ?_);refine GS rfl (wr (dm ?_));refine dq (Fe (k:=4) EA rfl rfl z.row) (li (e:=79) (sz:=4) (zs:=[S [],S [],B false,.int .i64 0]) (pv:=[(0,.agg ⟨[_,_,_,_]⟩)]) (cs:=[_,_,_,_]) RX.all (λb2 w4 e2 x4 m2=>?_));have g2:=r.ge e2;have n2_1:=z.ltb e2;have o2_ho:=ho.ltb e2;have ho:=ho.ext x4;have z:=z.ext x4;have r:=r.trans x4;refine Hy (lx:=[c]) (e:=79) (sz:=4) (by':=48) rfl EA EA EF ho (m2.arr (enc:=Cell.cs) (sz:=4) (l:=[c]) rfl EF rfl (Av rfl)) rfl rfl (by intro x _ u hu;simp at hu;rcases hu with rfl|rfl|rfl|rfl<;>rfl) (by simp;omega) EN r.size (.inl rfl) (λhg w5 J x5=>?_);have z:=z.mod x5 (by intro h;have h1:=O _ h;omega);have r:=r.own x5 (λi hi=>(ho.lt i hi).1);have ho:=J;clear m2;refine da (de Z9 (wr ?_));refine pa rfl rfl (dm (EH (?_)));refine⟨(k+1,_),Gb,⟨r,by omega,?_⟩,by simp only [];omega⟩;rw[Pu hk];rw[if_pos (Xiv ‹_› ‹_›)];exact ho
   refine df 0 rfl (dl rfl (z.at rfl) (dm ?_));refine dp (OL rfl rfl) (EP ?_);refine EP (de Y ?_);refine wc (λc5=>?_) λc5=>?_
   ·refine wr (dm ?_);refine dq (Fe (k:=4) EA rfl rfl z.row) (li (e:=79) (sz:=4) (zs:=[S [],S [],B false,.int .i64 0]) (pv:=[(0,.agg ⟨[_,_,_,_]⟩)]) (cs:=[_,_,_,_]) RX.all (λb3 w6 e3 x6 m3=>?_));have g3:=r.ge e3;have o3_ho:=ho.ltb e3;have ho:=ho.ext x6;have r:=r.trans x6;refine Hy (lx:=[c]) (e:=79) (sz:=4) (by':=48) rfl EA EA EF ho (m3.arr (enc:=Cell.cs) (sz:=4) (l:=[c]) rfl EF rfl (Av rfl)) rfl rfl (by intro x _ u hu;simp at hu;rcases hu with rfl|rfl|rfl|rfl<;>rfl) (by simp;omega) EN r.size (.inl rfl) (λhg w7 J x7=>?_);have r:=r.own x7 (λi hi=>(ho.lt i hi).1);have ho:=J;clear m3;refine da (de Z9 (wr ?_));refine pa rfl rfl (dm (EH (?_)));refine⟨(k+1,_),Gb,⟨r,by omega,?_⟩,by simp only [];omega⟩;rw[Pu hk];rw[if_pos (Xhc ‹_› ‹_›)];exact ho
   refine EI (Z9 _ _ (wr (pa rfl rfl (dm (EH (?_))))));refine⟨(k+1,_),Gb,⟨r,by omega,?_⟩,by simp only [];omega⟩;rw[Pu hk];rw[if_neg (Xix ‹_› ‹_›)];exact ho
  refine dk (dk (dk (dk (dk (dk (dk (dk (EP (de Y ?_)))))))));refine Hf rfl (EI (Z9 _ _ (wr (pa rfl rfl (dm (EH (?_)))))));refine⟨(k+1,_),Gb,⟨r,by omega,?_⟩,by simp only [];omega⟩;rw[Pu hk];rw[if_neg (Xiw ‹_›)];exact ho
 refine Fk (Z5 _ _ (ws λ_ hj=>wr (dm (da (de hj (EJ ?_))))));refine ro ?_;exact⟨_,rfl,r,by rw[Ay EB]at ho;exact ho⟩
end Go.Proofs.YtiooodckiddpmaaGreatDoor
namespace Go.Sp
open Go.Vc (EC I S B)
structure Rw where
 key:EC
 val:EC
 del:Bool
deriving DecidableEq
@[reducible] def Rw.cs (r:Rw):List Value:=[S r.key,S r.val,B r.del]
@[reducible] def Rw.v (r:Rw):Value:=.agg ⟨r.cs⟩
def Rw.cell (r:Rw)(seq:Int):Cell:=⟨r.key,r.val,r.del,seq⟩
def IE (l:List Rw):Nat:=(l.map λr=>r.key.length+r.val.length).sum
def H8 (l:List Rw):Int:=if l.length=0 then 1 else if(l.all λr=>Gl (r.cell 1))=true then(if 512<l.length\/32768<IE l then 5 else 0)else 1
theorem X0d {l:List Rw}{k:Nat}{r:Rw}(h:l[k]?=some r):IE (l.take (k+1))=IE (l.take k)+(r.key.length+r.val.length):=by
 unfold IE;rw[B3,h,AH,Cd];simp
theorem X9s (l:List Rw)(k:Nat):IE (l.take k)<=IE l:=by
 have h:=congrArg IE (Bc k l);unfold IE at *;rw[AH,Cd]at h;omega
theorem Xwh {l:List Rw}{k:Nat}{r:Rw}(h:l[k]?=some r):((l.take (k+1)).all λr=>Gl (r.cell 1))=(((l.take k).all λr=>Gl (r.cell 1)) && Gl (r.cell 1)):=by
 rw[B3,h,List.all_append];simp
theorem Xwi {l:List Rw}{k:Nat}{r:Rw}(h:l[k]?=some r)(hc:Gl (r.cell 1)=false):H8 l=1:=by
 unfold H8;split
 ·rfl
 ·rw[if_neg];intro h2;rw[AY]at h2;have:=h2 r (Ak h);rw[hc]at this;cases this
theorem X51 {l:List Rw}(h:l.length=0):H8 l=1:=if_pos h
theorem UG {l:List Rw}(h:l.length≠0)(h2:(l.all λr=>Gl (r.cell 1))=true)(h3:512<l.length\/32768<IE l):H8 l=5:=by unfold H8;rw[if_neg h,if_pos h2,if_pos h3]
theorem X52 {l:List Rw}(h:l.length≠0)(h2:(l.all λr=>Gl (r.cell 1))=true)(h3:¬ (512<l.length\/32768<IE l)):H8 l=0:=by unfold H8;rw[if_neg h,if_pos h2,if_neg h3]
theorem Mj {l:List Rw}(h:H8 l=0):1<=l.length/\l.length<=512/\IE l<=32768/\∀r∈l,Gl (r.cell 1)=true:=by
 unfold H8 at h;split at h
 ·simp at h
 ·split at h
  ·rename_i h1 h2;rw[AY]at h2;split at h
   ·simp at h
   ·exact⟨by omega,by omega,by omega,h2⟩
  ·simp at h
def GD (r:Rw):EC:=Fs r.key++(if r.del then EV 1 else EV 0++Fs r.val)
def F0 (l:List Rw):EC:=EV l.length++l.flatMap GD
theorem Im (r:Rw):(GD r).length<=30+(r.key.length+r.val.length):=by
 unfold GD Fs;have h1:=Gj r.key.length;have h2:=Gj 1;have h3:=Gj 0;have h4:=Gj r.val.length;split<;>simp only [Aa]<;>omega
theorem Nk (l:List Rw):(l.flatMap GD).length<=30*l.length+IE l:=by
 induction l with
 | nil=>simp
 | cons r t ih=>
  have:=Im r;have e:IE (r :: t)=(r.key.length+r.val.length)+IE t:=by simp [IE]
  rw[AB,Aa,e,AG];omega
theorem X0 (l:List Rw)(k:Nat):((l.take k).flatMap GD).length<=30*l.length+IE l:=by
 have h1:=Nk (l.take k);have h2:=X9s l k;have h3:(l.take k).length<=l.length:=by rw[A5];omega
 omega
def HD (out:List Cell)(c:Cell):List Cell:=if(out.any λx=>decide (x.key=c.key))=true then out else(out.takeWhile λx=>Fg x.key c.key)++c :: (out.dropWhile λx=>Fg x.key c.key)
def G0 (l:List Rw)(seq:Int):List Cell:=l.foldr (λr out=>HD out (r.cell seq)) []
def IQ (l:List Cell):Prop:=l.Pairwise λa b=>Fg a.key b.key=true
theorem X53 {out:List Cell}{c:Cell}(h:IQ out):IQ (HD out c):=by
 unfold HD;split
 ·exact h
 ·rename_i hn;have Z:∀x∈out,x.key≠c.key:=λx z e=>hn (BK.2 ⟨x,z,by simp [e]⟩);have J:(out.takeWhile λx=>Fg x.key c.key)++(out.dropWhile λx=>Fg x.key c.key)=out:=C2 ..;have h':IQ ((out.takeWhile λx=>Fg x.key c.key)++(out.dropWhile λx=>Fg x.key c.key)):=by rw[J];exact h
  have hp:∀x∈(out.takeWhile λx=>Fg x.key c.key),Fg x.key c.key=true:=λx z=>(AY.1 (List.all_takeWhile (p:=λx=>Fg x.key c.key) (l:=out)) x z);have h2:=Bs.1 h';have hs:∀x∈(out.dropWhile λx=>Fg x.key c.key),Fg c.key x.key=true:=by
   cases hsu:(out.dropWhile λx=>Fg x.key c.key)with
   | nil=>intro x z;cases z
   | cons s r=>
    have hc:Fg s.key c.key=false:=by
     have:=List.head?_dropWhile_not (λx=>Fg x.key c.key) out;rw[hsu]at this;simpa using this
    have Y:s∈out:=by rw[<-J,hsu];simp
    have O:Fg c.key s.key=true:=by
     rcases JK c.key s.key with h|h|h
     ·exact absurd h.symm (Z s Y)
     ·exact h
     ·rw[hc]at h;cases h
    intro x z;rcases Aj.1 z with rfl|z
    ·exact O
    ·have:=h2.2.1;rw[hsu]at this;exact Jl _ _ _ O (List.rel_of_pairwise_cons this z)
  refine Bs.2 ⟨h2.1,List.pairwise_cons.2 ⟨hs,h2.2.1⟩,λa ha b hb=>?_⟩;rcases Aj.1 hb with rfl|hb
  ·exact hp a ha
  ·exact h2.2.2 a ha b hb
theorem R6 (l:List Rw)(seq:Int):IQ (G0 l seq):=by
 induction l with
 | nil=>exact Bp
 | cons r t ih=>exact X53 ih
theorem Po {out:List Cell}{c x:Cell} : x∈HD out c↔x∈out\/(x=c/\∀y∈out,y.key≠c.key):=by
 unfold HD;have r:(out.takeWhile λx=>Fg x.key c.key)++(out.dropWhile λx=>Fg x.key c.key)=out:=C2 ..;split
 ·rename_i h;obtain⟨y,O,e⟩:=BK.1 h;exact⟨.inl,λh2=>h2.elim id λh3=>absurd (by simpa using e) (h3.2 y O)⟩
 ·rename_i hn;have z:∀x∈out,x.key≠c.key:=λx J e=>hn (BK.2 ⟨x,J,by simp [e]⟩);rw[Aw,Aj]
  constructor
  ·rintro (h|h|h)
   ·exact .inl (by rw[<-r];exact List.mem_append_left _ h)
   ·exact .inr ⟨h,z⟩
   ·exact .inl (by rw[<-r];exact List.mem_append_right _ h)
  ·rintro (h|⟨h,_⟩)
   ·rw[<-r]at h;rcases Aw.1 h with h|h
    ·exact .inl h
    ·exact .inr (.inr h)
   ·exact .inr (.inl h)
theorem Rl {l:List Rw}{seq:Int}{c:Cell}(h:c∈G0 l seq):∃r∈l,c=r.cell seq:=by
 induction l with
 | nil=>cases h
 | cons r t ih=>
  rcases Po.1 h with h|⟨h,_⟩
  ·obtain⟨q,z,e⟩:=ih h;exact⟨q,Am _ z,e⟩
  ·exact⟨r,Al,h⟩
theorem Xta {l:List Rw}{seq:Int}{r:Rw}(h:r∈l):∃c∈G0 l seq,c.key=r.key:=by
 induction l with
 | nil=>cases h
 | cons q t ih=>
  by_cases e:∃c∈G0 t seq,c.key=r.key
  ·obtain⟨c,J,e⟩:=e;exact⟨c,Po.2 (.inl J),e⟩
  ·rcases Aj.1 h with rfl|h
   ·exact⟨_,Po.2 (.inr ⟨rfl,λy z e2=>e ⟨y,z,e2⟩⟩),rfl⟩
   ·exact absurd (ih h) e
theorem Py (l:List Rw)(seq:Int):(G0 l seq).length<=l.length:=by
 induction l with
 | nil=>exact Ab _
 | cons r t ih=>
  show(HD (G0 t seq) (r.cell seq)).length<=_;unfold HD;split
  ·simp;omega
  ·have:=congrArg AC (C2 (p:=λx:Cell=>Fg x.key (r.cell seq).key) (l:=G0 t seq));simp only [Aa,AG]at *;omega
end Go.Sp
namespace Go.Proofs.YtiooodckiddpmaaGreatDoor
open Go.Vc Go.Sp
attribute [local irreducible] W XW Dw Gs
theorem Ng {r:Rw}(h:Gl (r.cell 1)=true):r.key.length<=4096/\r.val.length<=16384/\1<=r.key.length/\(r.del=true->r.val=[]):=by
 have:=Ka h;exact⟨this.1,this.2.1,this.2.2.1,this.2.2.2.2.2⟩
theorem XA {l:List Rw}{k:Nat}{r:Rw}(h:l[k]?=some r):(l.take (k+1)).flatMap GD=(l.take k).flatMap GD++GD r:=by
 rw[G1 h,AU];simp
theorem Yb (r:Rw)(seq:Int)(w:World) :
  Calls Tryz.prog 154 [r.v,I seq].toArray w (Pure w (r.cell seq).v):=by
 refine cw Tryz.func154 ?_;have z:=ED.refl w;refine ws λ_ Z1=>wr (Gn rfl rfl rfl RX.all (λb1 w1 e1 x1 J=>?_));have g1:=z.ge e1;have z:=z.trans x1;refine FP (cs:=[S [],S [],B false,.int .i64 0]) rfl EA RX.all (λb2 w2 e2 Y O=>?_);have g2:=z.ge e2;have n2_1:=J.ltb e2;have J:=J.ext Y;have z:=z.trans Y;refine de Z1 (ws λ_ Z2=>wr (df 0 rfl (dl rfl (J.at rfl) (df 1 rfl (dl rfl (J.at rfl) (df 2 rfl (dl rfl (J.at rfl) (dm ?_))))))));refine db (zs:=[S [],S [],B false,.int .i64 0]) (pl:=[(0,1),(1,1),(2,1),(3,1)]) (pv:=[(0,_),(1,_),(2,_),(3,_)]) (cs:=[_,_,_,_]) ?_;refine FY O (λw3 Z xs3 O=>?_);dsimp only [EY,Af,Ad,Ag]at O;have z:=z.o1 Z;refine de Z2 (EJ (Nu (k:=4) rfl rfl rfl EA rfl O.row ?_));exact⟨rfl,z⟩
theorem X54 (l:List Rw)(v:Value)(w:World)(hv:EQ Rw.cs 3 w v l)(hl:l.length<=1000000) :
  Calls Tryz.prog 78 [v].toArray w (Pure w (I (H8 l))):=by
 refine cw Tryz.func78 ?_;have J:=ED.refl w;refine ws λ_ Z1=>wr (da (de Z1 (ws λ_ Z2=>ws λ_ Z3=>wr (dm ?_))));refine dv 48 3 (hv.ext J).sl (dp (GB rfl rfl) (de Z3 (wi (λc1=>?_) λc1=>?_)))
 ·refine ws λ_ Z4=>wr (da (de Z4 (EJ ?_)));refine ro ?_;refine⟨?_,J⟩;rw[X51 EB]
 refine EI (Z2 _ _ (ws λ_ Z5=>wr (da (de Z5 (ws λ_ Z6=>ws λ_ Z7=>wr (dm ?_))))));refine dv 48 3 (hv.ext J).sl (dm (de Z7 (EM ?_)));refine Fq (G:=Nat×Nat) (λ(k,z)=>[(0,v),(3,I ↑z),(9,v),(10,I ↑l.length),(11,I ↑k)]) (λ(k,z) w'=>ED w w'/\k<=l.length/\z<=32769/\z=min (IE (l.take k)) 32769/\((l.take k).all λr=>Gl (r.cell 1))=true) (λ(k,z)=>l.length-k) (0,0) ?_ ?_ ?_
 ·exact FN
 ·exact⟨J,Ae _,by omega,rfl,rfl⟩
 intro X1 g1 w1 hj;obtain⟨k,z⟩:=g1;clear J;obtain⟨J,hk1,hz0,hz,hA⟩:=hj;refine ws λ_ Z8=>wr (dp (Fb rfl rfl) (de Z8 (ws λ_ Z9=>wi (λc2=>?_) λc2=>?_)))
 ·obtain⟨r,hk⟩:∃r,l[k]?=some r:=Fw;refine EI (Z9 _ _ (ws λ_ hq=>EM (ws λ_ hp=>wr (di 48 3 (hv.ext J).sl rfl ((hv.ext J).lt hk) (dq (Fe EA rfl rfl ((hv.ext J).row hk)) (FP (cs:=[S [],S [],B false]) rfl EA RX.all (λb1 w2 e1 x2 O=>?_)))))));have g1:=J.ge e1;have J:=J.trans x2;refine FY O (λw3 x3 xs3 O=>?_);dsimp only [EY,Af,Ad,Ag]at O;have J:=J.o1 x3;refine de hp (ws λ_ hr=>ws λ_ hf=>wr (dq (Fe (k:=3) EA rfl rfl O.row) (cP (Yb r 1 _) RX.all λw4 x4=>?_)));have O:=O.ext x4;have J:=J.trans x4;refine cP (Ri (r.cell 1) _) RX.all λw5 x5=>?_;have O:=O.ext x5;have J:=J.trans x5;refine dn (de hf ?_);refine wc (λc3=>?_) λc3=>?_
  ·refine ws λ_ hb=>wr (da (de hb (EJ ?_)));refine ro ?_;refine⟨?_,J⟩;rw[Xwi hk (by simpa using c3)]
  have Y:Gl (r.cell 1)=true:=by simpa using c3
  have hrs:=Ng Y;refine EI (hr _ _ (wr (dm ?_)));refine df 0 rfl (dl rfl (O.at rfl) (dt rfl (pa rfl rfl (df 1 rfl (dl rfl (O.at rfl) (dt rfl (pa rfl rfl (EW (v:=I ↑(min (z+r.key.length+r.val.length) 32769)) rfl (Rn rfl rfl) (by show I _=I _;congr 1;omega) (da (de hq (wr ?_)))))))))));refine pa rfl rfl (dm (EH (?_)));refine⟨(k+1,min (z+r.key.length+r.val.length) 32769),FN,⟨J,by omega,Nat.min_le_right _ _,?_,?_⟩,by simp only [];omega⟩
  ·rw[X0d hk,hz];omega
  ·rw[Xwh hk,hA,Y];rfl
 refine Fk (Z6 _ _ (ws λ_ ha=>ws λ_ Z=>wr (dm ?_)));refine dv 48 3 (hv.ext J).sl (dp (Gg rfl rfl) (dm ?_));refine F4 33 rfl (λc4=>?_) (λc4=>?_)
 ·refine dk (dk (EP (de Z ?_)));refine GS rfl (ws λ_ hh=>wr (da (de hh (EJ ?_))));refine ro ?_;rw[Ay EB]at hz hA;refine⟨?_,J⟩;rw[UG EB hA EB]
 refine dm ?_;refine dp (Gg rfl rfl) (EP (de Z ?_));refine wi (λc5=>?_) λc5=>?_
 ·refine ws λ_ hg=>wr (da (de hg (EJ ?_)));refine ro ?_;rw[Ay EB]at hz hA;refine⟨?_,J⟩;rw[UG EB hA EB]
 refine EI (ha _ _ (ws λ_ hc=>wr (da (de hc (EJ ?_)))));refine ro ?_;rw[Ay EB]at hz hA;refine⟨?_,J⟩;rw[X52 EB hA EB]
theorem Tn (l:List Rw)(v:Value)(w:World)(hv:EQ Rw.cs 3 w v l)(hl:l.length<=1000000) :
  Calls Tryz.prog 39 [v].toArray w (ES w (λu w'=>∃vb,u=.tuple #[vb,I (H8 l)]/\Vc.Own EO 1 5 w.heap.size w' vb (if H8 l=0 then F0 l else[]))):=by
 refine cw Tryz.func39 ?_;have J:=ED.refl w;refine ws λ_ Z1=>wr (da (da (de Z1 (ws λ_ Z2=>ws λ_ Z3=>wr (dm ?_)))));refine cP (X54 l v _ (hv.ext J) hl) RX.all λw1 x1=>?_;have J:=J.trans x1;refine da (de Z3 (ws λ_ Z4=>wr (dm ?_)));refine dp (FH rfl rfl) (de Z4 (wi (λc1=>?_) λc1=>?_))
 ·refine ws λ_ Z5=>wr (dm (da (da (de Z5 (EJ ?_)))));refine rt ?_;rw[if_neg c1];exact⟨_,rfl,J,_,rfl,Vc.Own.nil⟩
 have hE:H8 l=0:=AK c1;obtain⟨hl1,hl2,hz,xn⟩:=Mj hE;refine EI (Z2 _ _ (ws λ_ Z6=>wr (FP (cs:=[.slice none 0 0]) rfl EA RX.all (λb1 w2 e1 x2 m1=>?_))));have g1:=J.ge e1;have J:=J.trans x2;refine de Z6 (ws λ_ Z7=>wr (dm ?_));refine dv 48 3 (hv.ext J).sl (li (e:=3) (sz:=1) (zs:=[.int .i64 0]) (pv:=[(0,_)]) (cs:=[_]) RX.all (λb2 w3 e2 x3 m2=>?_));have g2:=J.ge e2;have n2_1:=m1.ltb e2;have m1:=m1.ext x3;have J:=J.trans x3;have z:Wr w.heap.size b1 (.slice none 0 0) [] w3:=⟨m1,Vc.Own.nil⟩;refine cD (JZ w.heap.size b1 (.slice none 0 0) _ [↑l.length] (.slice (some ⟨b2,0,none⟩) 1 1) _ z (Ai (Ab 0:([]:EC).length<=0) EB) J.size (m2.arr (enc:=Vc.encI) (sz:=1) (l:=[↑l.length]) rfl EF rfl ER) ER (λk9 Y _ hh=>by have hg:b2=k9:=hh;subst hg;exact(Y.elim (λh=>by omega) (λh=>by cases h)))) (.inl rfl) λu4 w4 x4 xq=>?_;have hsz4:=J.size;have J:=J.own x4 (λi hi=>z.ge g1 hi);obtain⟨rfl,v1,z,hf⟩:=xq;rw[MX EB,AE]at z;have hln16:=trivial;refine de Z7 (ws λ_ Z8=>ws λ_ Z9=>wr (dm ?_));refine dv 48 3 (hv.ext J).sl (dm (de Z9 (EM ?_)));refine Fq (G:=Nat×Value) (λ(k,vc)=>[(0,v),(2,.slice none 0 0),(3,I 0),(5,EE b1 0),(17,v),(18,I ↑l.length),(19,I ↑k)]) (λ(k,vc) w'=>ED w w'/\k<=l.length/\Wr w.heap.size b1 vc (EV l.length++(l.take k).flatMap GD) w') (λ(k,vc)=>l.length-k) (0,v1) ?_ ?_ ?_
 ·exact Gb
 ·exact⟨J,Ae _,by simpa using z⟩
 intro X5 g5 w5 yb;obtain⟨k,vc⟩:=g5;clear J z;obtain⟨J,hk1,z⟩:=yb;refine ws λ_ ya=>wr (dp (Fb rfl rfl) (de ya (ws λ_ xy=>wi (λc2=>?_) λc2=>?_)))
 ·obtain⟨r,hk⟩:∃r,l[k]?=some r:=Fw;have hrs:=Ng (xn r (Ak hk));have xu:=X0 l k;have xx:=Gj l.length;have h5:(EV l.length++(l.take k).flatMap GD).length<=60000:=by rw[Aa];omega
  refine EI (xy _ _ (ws λ_ xk=>EM (ws λ_ xz=>wr (di 48 3 (hv.ext J).sl rfl ((hv.ext J).lt hk) (dq (Fe EA rfl rfl ((hv.ext J).row hk)) (FP (cs:=[S [],S [],B false]) rfl EA RX.all (λb3 w6 e3 x6 O=>?_)))))));have g3:=J.ge e3;have hc:=z.lt;have z:=z.ext x6;have J:=J.trans x6;refine FY O (λw7 x7 xs7 O=>?_);dsimp only [EY,Af,Ad,Ag]at O;have z:=z.mod x7 (λk9 Y h=>by have h2:k9=b3:=h;subst h2;exact A6 _ (AA (hc _ Y) e3.symm));have J:=J.o1 x7;refine de xz (ws λ_ xr=>KW [.p,.l,.x,.x,.x] rfl (df 0 rfl (dl rfl (O.at rfl) (Mz (e:=5) rfl EA EA EA rfl RX.all (λb4 xl w8 e4 x8 h8=>?_)))));have g4:=J.ge e4;have n4_3:=O.ltb e4;have hj:=z.lt;have z:=z.ext x8;have O:=O.ext x8;have J:=J.trans x8;refine li (e:=82) (sz:=1) (zs:=[.slice none 0 0]) (pv:=[(0,_)]) (cs:=[_]) RX.all (λb5 w9 e5 x9 m5=>?_);have g5:=J.ge e5;have n5_3:=O.ltb e5;have hy:=z.lt;have z:=z.ext x9;have O:=O.ext x9;have h8:=h8.ext x9;have J:=J.trans x9;have hb:¬ H2 b1 vc b3:=λY=>(A6 b3 (AA (hc _ Y) e3.symm));have Z:=O.lt;refine cD (Lc w.heap.size b1 vc _ [(.slice (some ⟨b4,0,none⟩) r.key.length xl,r.key)] (.slice (some ⟨b5,0,none⟩) 1 1) _ z (Ai h5 EB) J.size (K5 m5) (λq h=>by rw[Ah.1 h];exact h8) (λq h=>by rw[Ah.1 h];exact(show r.key.length<=1000000 by omega)) ER (λ_ Y=>(A6 b5 (AA (hy _ Y) e5.symm))) (λq h hl Y=>by rw[Ah.1 h]at hl Y;exact(A6 b4 (AA (hj _ Y) e4.symm)))) (.inl rfl) λu10 w10 xg xf=>?_;have hsz10:=J.size;have O:=O.mod xg hb;have J:=J.own xg (λi hi=>z.ge g1 hi);obtain⟨rfl,v2,z,hf⟩:=xf;rw[Jy]at z;have ha:=P9 (p:=r.key) (M:=4096) h5 EB;have hb:=OE hf hb Z;refine de xr (ws λ_ xp=>ws λ_ x0=>wr (df 2 rfl (dl rfl (O.at rfl) (de x0 (wc (λc3=>?_) λc3=>?_)))))
  ·refine ws λ_ yc=>wr (li (e:=3) (sz:=1) (zs:=[.int .i64 0]) (pv:=[(0,_)]) (cs:=[_]) RX.all (λb6 w11 e6 xc m6=>?_));have g6:=J.ge e6;have n6_3:=O.ltb e6;have hr:=z.lt;have O:=O.ext xc;have z:=z.ext xc;have J:=J.trans xc;have Z:=O.lt;refine cD (JZ w.heap.size b1 v2 _ [((1:Nat):Int)] (.slice (some ⟨b6,0,none⟩) 1 1) _ z (Ai ha EB) J.size (m6.arr (enc:=Vc.encI) (sz:=1) (l:=[((1:Nat):Int)]) rfl EF rfl ER) ER (λk9 Y _ hh=>by have hg:b6=k9:=hh;subst hg;exact(A6 b6 (AA (hr _ Y) e6.symm)))) (.inl rfl) λu12 w12 xe xd=>?_;have hsz12:=J.size;have O:=O.mod xe hb;have J:=J.own xe (λi hi=>z.ge g1 hi);obtain⟨rfl,v3,z,hf⟩:=xd;rw[MX EB]at z;have hln31:=trivial;have hb:=OE hf hb Z;refine de yc (Fk (xk _ _ (wr (pa rfl rfl (dm (EH (?_)))))));refine⟨(k+1,v3),Gb,⟨J,by omega,?_⟩,by simp only [];omega⟩;rw[XA hk,show GD r=Fs r.key++(if r.del then EV 1 else EV 0++Fs r.val) from rfl,c3];simpa only [A7,AO,if_true,if_false,C7]using z
  refine EI (xp _ _ (ws λ_ xv=>wr (li (e:=3) (sz:=1) (zs:=[.int .i64 0]) (pv:=[(0,_)]) (cs:=[_]) RX.all (λb7 w13 e7 h7 m7=>?_))));have g7:=J.ge e7;have n7_3:=O.ltb e7;have hp:=z.lt;have O:=O.ext h7;have z:=z.ext h7;have J:=J.trans h7;have Z:=O.lt;refine cD (JZ w.heap.size b1 v2 _ [((0:Nat):Int)] (.slice (some ⟨b7,0,none⟩) 1 1) _ z (Ai ha EB) J.size (m7.arr (enc:=Vc.encI) (sz:=1) (l:=[((0:Nat):Int)]) rfl EF rfl ER) ER (λk9 Y _ hh=>by have hg:b7=k9:=hh;subst hg;exact(A6 b7 (AA (hp _ Y) e7.symm)))) (.inl rfl) λu14 w14 xi xj=>?_;have hsz14:=J.size;have O:=O.mod xi hb;have J:=J.own xi (λi hi=>z.ge g1 hi);obtain⟨rfl,v3,z,hf⟩:=xj;rw[MX EB]at z;have xa:=PY (n:=0) ha;refine de xv (KW [.p,.l,.x,.x,.x] rfl (df 1 rfl (dl rfl (O.at rfl) (Mz (e:=5) rfl EA EA EA rfl RX.all (λb8 xm w15 e8 xb h6=>?_)))));have g8:=J.ge e8;have n8_3:=O.ltb e8;have hq:=z.lt;have O:=O.ext xb;have z:=z.ext xb;have J:=J.trans xb;refine li (e:=82) (sz:=1) (zs:=[.slice none 0 0]) (pv:=[(0,_)]) (cs:=[_]) RX.all (λb9 w16 e9 hw m9=>?_);have g9:=J.ge e9;have n9_3:=O.ltb e9;have ht:=z.lt;have O:=O.ext hw;have z:=z.ext hw;have h6:=h6.ext hw;have J:=J.trans hw;have Z:=O.lt;refine cD (Lc w.heap.size b1 v3 _ [(.slice (some ⟨b8,0,none⟩) r.val.length xm,r.val)] (.slice (some ⟨b9,0,none⟩) 1 1) _ z (Ai xa EB) J.size (K5 m9) (λq h=>by rw[Ah.1 h];exact h6) (λq h=>by rw[Ah.1 h];exact(show r.val.length<=1000000 by omega)) ER (λ_ Y=>(A6 b9 (AA (ht _ Y) e9.symm))) (λq h hl Y=>by rw[Ah.1 h]at hl Y;exact(A6 b8 (AA (hq _ Y) e8.symm)))) (.inl rfl) λu17 w17 x5 xh=>?_;have hsz17:=J.size;have J:=J.own x5 (λi hi=>z.ge g1 hi);obtain⟨rfl,v4,z,hf⟩:=xh;rw[Jy]at z;have hln38:=trivial;refine de xk (wr (pa rfl rfl (dm (EH (?_)))));refine⟨(k+1,v4),Gb,⟨J,by omega,?_⟩,by simp only [];omega⟩;rw[XA hk,show GD r=Fs r.key++(if r.del then EV 1 else EV 0++Fs r.val) from rfl,c3];simpa only [A7,AO,if_true,if_false,C7]using z
 have xu:=X0 l k;have xx:=Gj l.length;have hln1:(EV l.length++(l.take k).flatMap GD).length<=60000:=by rw[Aa];omega
 refine Fk (Z8 _ _ (ws λ_ xw=>wr (cG (N3 w.heap.size b1 vc _ _ z EB) RX.all λvo w18 xo hB=>?_)));have hsz18:=J.size;have J:=J.trans xo;refine da (da (de xw (EJ ?_)));refine rt ?_;rw[show k=l.length by omega,AI]at hB;rw[if_pos hE,hE];exact⟨_,rfl,J,_,rfl,hB.mono EB⟩
end Go.Proofs.YtiooodckiddpmaaGreatDoor
namespace Go.Sp
open Go.Vc (EC I S B)
structure Fi where
 id:Int
 lev:Int
 size:Int
 fst:EC
 lst:EC
deriving DecidableEq
@[reducible] def Fi.cs (f:Fi):List Value:=[I f.id,I f.lev,I f.size,S f.fst,S f.lst]
@[reducible] def Fi.v (f:Fi):Value:=.agg ⟨f.cs⟩
def Fi.zero : Fi:=⟨0,0,0,[],[]⟩
structure Vs where
 next:Int
 fs:List Fi
deriving DecidableEq
def GI (a b:Int):Int:=if a<b then -1 else if b<a then 1 else 0
def HB (a b:EC):Int:=if Fg a b=true then -1 else if Fg b a=true then 1 else 0
def Hw (a b:Fi):Int:=if a.lev=0/\b.lev=0 then GI a.id b.id else if GI a.lev b.lev≠0 then GI a.lev b.lev else HB a.fst b.fst
def Io (a b:Fi):Bool:=if 0<a.lev/\a.lev=b.lev then Fg a.lst b.fst else decide (Hw a b<0)
def Lj (s:EC):Bool:=decide (1<=s.length) && decide (s.length<=4096)
def HW (n:Int)(f:Fi):Bool:=decide (1<=f.id) && decide (f.id<n) && decide (0<=f.lev) && decide (f.lev<=4) && decide (1<=f.size) && decide (f.size<=1048576) && Lj f.fst && Lj f.lst && !Fg f.lst f.fst
def JT : List Fi->Bool
 | a :: b :: r=>Io a b && JT (b :: r)
 | _=>true
def GK (v:Vs):Bool:=decide (1<=v.next) && decide (v.next<=1099511627776) && decide (v.fs.length<=1024) && v.fs.all (HW v.next) && decide ((v.fs.map (·.id)).Nodup) && JT v.fs
def Jo (lev:Int)(frm to:EC)(f:Fi):Bool:=decide (f.lev=lev) && !Fg f.lst frm && !Fg to f.fst
def HS (fs:List Fi)(lev:Int)(frm to:EC):List Fi:=fs.filter (Jo lev frm to)
def JY (fs:List Fi)(key:EC):List Fi:=(HS fs 0 key key).reverse++HS fs 1 key key++HS fs 2 key key++HS fs 3 key key++HS fs 4 key key
theorem PJ {fs:List Fi}{k:Nat}{f:Fi}{lev:Int}{frm to:EC}(h:fs[k]?=some f):HS (fs.take (k+1)) lev frm to=if Jo lev frm to f=true then HS (fs.take k) lev frm to++[f]else HS (fs.take k) lev frm to:=by
 unfold HS;rw[B3,h,BL];split
 ·rename_i h;simp [h]
 ·rename_i h;simp [h]
theorem Nv (fs:List Fi)(lev:Int)(frm to:EC):(HS fs lev frm to).length<=fs.length:=BI _ _
theorem Xkp (fs:List Fi)(k:Nat)(lev:Int)(frm to:EC):(HS (fs.take k) lev frm to).length<=fs.length:=by
 have:=Nv (fs.take k) lev frm to;rw[A5]at this;omega
end Go.Sp
