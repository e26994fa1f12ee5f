/-
 A part of the proof: LoF FuQ KnA LwN GvR LoG EmR BgA LwT LwF.
-/
import Derived.Test.YtiooodckiddpmaaGreatDoorFkA
import Derived.Test.YtiooodckiddpmaaGreatDoorChecked
import Derived.KernelRfl
import Derived.Test.YtiooodckiddpmaaGreatDoorFkJ
import Derived.Test.YtiooodckiddpmaaGreatDoorRows
import Derived.Lib.LaidTab
import Derived.Test.YtiooodckiddpmaaGreatDoorFkI
open Nat renaming le_refl->Aa,zero_le->Ad,le_trans->Ae,le_of_ble_eq_true->Ap,lt_of_lt_of_le->A0,lt_irrefl->A6,not_lt->Bi,le_of_eq->Cd,le_succ->Dr
open List renaming length_append->Ab,take->Af,set->Ag,mem_singleton->Ah,drop->Ai,mem_cons->Aj,mem_of_getElem?->Ak,mem_cons_self->Al,mem_cons_of_mem->Am,length_map->An,getElem?_eq_some_iff->Ao,map_cons->Aq,mem_map->Ar,length_take->A4,length->A7,length_cons->AB,map_append->AC,take_length->AK,length_nil->Bc,map_map->Be,map_nil->Bk,mem_map_of_mem->BD,nodup_nil->BS,getElem_map->CA,mergeSort_perm->D7,mem_of_mem_take->DE,flatMap_map->E2,perm_singleton->E4
open Option renaming some->A3
open Decidable renaming byContradiction->AL
open Prod renaming mk->AX
open Int renaming ofNat_lt->DR
set_option maxRecDepth 100000
set_option maxHeartbeats 4000000
set_option linter.unusedVariables false
set_option linter.unusedSimpArgs false
namespace Go.Proofs.YtiooodckiddpmaaGreatDoor
open Go.Vc Go.Sp
attribute [local irreducible] W XW Dw Gm
theorem LD.calls_at {H:Nat->Prop}{bl bd:Nat}{L:Led}{D:Dsk}{w:World}(h:LD H bl bd L D w){k:Nat}{p:EC}(hk:L.ents[k]?=some p):Calls Tryz.prog 127 [ED bl 0,I (L.base+1+↑k)].toArray w (ER w (λu w'=>∃v,u=.tuple #[v,I 0]/\Vc.Own EP 1 5 w.heap.size w' v p)):=by
 obtain⟨F,G,vd,ve,vs,h1,h2,_⟩:=h;exact Ybh G bl bd vd ve vs L k p w h2 hk
theorem LD.calls_base {H:Nat->Prop}{bl bd:Nat}{L:Led}{D:Dsk}{w:World}(h:LD H bl bd L D w):Calls Tryz.prog 60 [ED bl 0].toArray w (ER w (λu w'=>∃v,u=.tuple #[I L.base,v]/\Vc.Own EP 1 5 w.heap.size w' v L.data)):=by
 obtain⟨F,G,vd,ve,vs,h1,h2,_⟩:=h;exact X5m G bl bd vd ve vs L w h2
theorem LD.bnd {H:Nat->Prop}{bl bd:Nat}{L:Led}{D:Dsk}{w:World}(h:LD H bl bd L D w):0<=L.base/\L.last<=1099511627776:=by
 obtain⟨F,G,vd,ve,vs,h1,h2,_⟩:=h;exact⟨h2.b0,h2.la⟩
theorem Xql (s p:EC)(w:World):Calls Tryz.prog 129 [S s,S p].toArray w (Vc.Pure w (B (Lib.hasPrefix s p))):=by
 refine(Tryz.strings_HasPrefix ⟨⟨s⟩⟩ ⟨⟨p⟩⟩ w).mono ?_;rintro e w' ⟨rfl,rfl⟩;exact⟨rfl,EB.refl _⟩
theorem X1s {D:Dsk}(h:D.Wf):D.names.Nodup:=by
 unfold Dsk.names;exact(D7 _ _).nodup_iff.2 h.nd
theorem X1t {D:Dsk}(h:D.Wf):∀n∈D.names,(1<=n.length/\n.length<=64)/\D.has n=true:=λn hn=>by
 have h1:D.has n=true:=by rw[<-Uh];exact decide_eq_true hn
 refine⟨?_,h1⟩;unfold Dsk.names at hn;rw[(D7 _ _).mem_iff]at hn;obtain⟨p,r,rfl⟩:=Ar.1 hn;exact h.name p r
theorem X75 {D:Dsk}{n:EC}(hf:D.fused=false)(h:(1<=n.length/\n.length<=64)/\D.has n=true):D.rem [n]=(0,D.gone n):=by
 rw[UM [n] D hf (λm hm=>by rw[Ah.1 hm];exact h) EQ];rfl
theorem X1u {D:Dsk}{n m:EC}(h:D.has m=true)(hne:m≠n):(D.gone n).has m=true:=by
 unfold Dsk.has Dsk.gone at *;rw[NM,if_neg hne];exact h
theorem X76 (κ:Nat->Nat)(bs bd bl bo bm:Nat)(vf:Value)(L:Led)(D:Dsk)(V:Vs)(ts:List Tb)(mem:List Cell)(dead:Bool)(f:Fi)(cs:List Cell)(kk:Nat)(w:World)(h:StE κ bs bd bl bo bm vf L D V ts mem dead w)(hgv:GV w)(hgvs:∀k,Li k->κ k=0)(hfi:ET f.id)(hfl:ET f.lev)(hlk:lk D.fs (Gb f.id)=some ⟨EI (EI (Fy cs)),kk⟩)(hbo:H7 cs=0)(hle:(EI (Fy cs)).length<=1048576)(hf1:f.fst=(FZ cs 0).key)(hf2:f.lst=(FZ cs (cs.length-1)).key)(htl:ts.length<=1000000) :
  Calls Tryz.prog 62 [ED bs 0,f.v].toArray w (Fh (λk=>κ k≠0) w (λu w'=>u=I 0/\∃κ' t,t.h=(f.lev,f.id)/\t.cs=cs/\(∀k,k<w.heap.size->κ' k=κ k)/\StE κ' bs bd bl bo bm vf L D V (G4 ts t) mem dead w')):=by
 refine cw Tryz.func62 ?_;have z:=Vc.Mod.refl (λk=>κ k≠0) w;have r:=h;have hκ0:∀k,w.heap.size<=k->κ k=0:=λk hk=>AL λh9=>by have:=h.lt k h9;omega
 refine ws λ_ Z1=>wr (Gc rfl rfl rfl RX.all (λb1 w1 e1 x1 J=>?_));have g1:=z.ge e1;have a1_hS:=r.lt;have r:=r.ext x1;have z:=z.ext x1;refine da (de Z1 (ws λ_ Z2=>?_));refine F4 (R:=EB) EB.refl (λ_ _ _=>EB.trans) E9 [3,5] [(0,.p,false),(1,.p,false),(2,.p,false),(3,.l,false),(4,.p,false),(5,.l,false),(6,.x,false),(7,.x,false),(8,.p,false),(9,.p,false),(10,.p,false),(11,.p,false),(12,.p,false)] rfl E9 E9 (λw2 ha=>?_);have x2:=EJ ha;clear ha;have r:=r.ext x2;have J:=J.ext x2;have z:=z.ext x2;refine dm ?_;refine dz rfl (df 0 rfl (dL rfl (λ_ O=>((r.m.ext O).at rfl)) (df 0 rfl (dL rfl (λ_ O=>((J.ext O).at rfl)) (cP (N8 f.id _ (hgv.mod z (λk hk e=>e (hgvs k hk))) hfi (by have:=N9 hfi;omega)) RX.ext λw3 x3=>?_)))));have r:=r.ext x3;have J:=J.ext x3;have z:=z.ext x3;obtain⟨F,hD,hFH,hback⟩:=r.ld.disk;refine cG (Ij F bd D (Gb f.id) _ hD (by have:=PS hfi;unfold maxLen;omega)) RX.ext λu4 w4 x4 hj=>?_;have hsz4:=z.size;have r:=r.ext x4;have J:=J.ext x4;have z:=z.ext x4;rw[SX hlk hle]at hj;obtain⟨vx,rfl,hV⟩:=hj;refine dm ?_;refine dx rfl rfl (dx rfl rfl (da (da (de Z2 (ws λ_ Z3=>ws λ_ Z4=>wr (dm ?_))))));refine dp (F8 rfl rfl) (de Z4 (wi (λc1=>?_) λc1=>?_))
 ·exact absurd rfl c1
 refine EG (Z3 _ _ (ws λ_ Z5=>wr (dm ?_)));have hc:=r.lt;have hszT:=z.size;refine cG (UU cs vx _ (hV.arr EE) hbo) RX.all λu5 w5 x5 hl=>?_;have hsz5:=z.size;have r:=r.ext x5;have J:=J.ext x5;have z:=z.ext x5;obtain⟨bt,vl,Y,rfl,Z,hh⟩:=hl;have hw:∀k,IS bt vl Y k->κ k=0:=λk hk=>AL λh9=>by have h1:=hh k hk;have h2:=hc k h9;omega
 refine dm ?_;refine dx rfl rfl (dx rfl rfl (da (da (de Z5 (ws λ_ Z6=>ws λ_ Z7=>wr (dm ?_))))));refine dp (F8 rfl rfl) (de Z7 (wi (λc2=>?_) λc2=>?_))
 ·exact absurd rfl c2
 refine EG (Z6 _ _ (ws λ_ Z8=>ws λ_ Z9=>F4 (R:=EB) EB.refl (λ_ _ _=>EB.trans) E9 [3,9] [(0,.p,false),(2,.p,false),(3,.l,false),(1,.x,false),(4,.p,false),(5,.p,false),(6,.p,false),(8,.p,false),(9,.l,false),(7,.x,false),(10,.p,false),(11,.p,false)] rfl E9 E9 (λw6 hb=>?_)));have x6:=EJ hb;clear hb;have r:=r.ext x6;have J:=J.ext x6;have Z:=Z.ext x6;have z:=z.ext x6;refine dm ?_;refine df 3 rfl (dL rfl (λ_ O=>((J.ext O).at rfl)) (cP (X1r bt vl Y cs _ Z) RX.ext λw7 x7=>?_));have r:=r.ext x7;have J:=J.ext x7;have Z:=Z.ext x7;have z:=z.ext x7;refine dp (LR rfl rfl) (dm ?_);refine Fz 35 rfl (λc3=>?_) (λc3=>?_)
 ·exact absurd hf1.symm c3
 refine dm ?_;refine df 4 rfl (dL rfl (λ_ O=>((J.ext O).at rfl)) (cP (X74 bt vl Y cs _ Z) RX.ext λw8 x8=>?_));have r:=r.ext x8;have J:=J.ext x8;have Z:=Z.ext x8;have z:=z.ext x8;refine dp (LR rfl rfl) (EO (de Z9 ?_));refine wi (λc4=>?_) λc4=>?_
 ·exact absurd hf2.symm c4
 refine EG (Z8 _ _ (ws λ_ hq=>F4 (R:=EB) EB.refl (λ_ _ _=>EB.trans) E9 [3,5,7] [(0,.p,false),(1,.p,false),(2,.p,false),(3,.l,false),(4,.p,false),(5,.l,false),(6,.p,false),(7,.l,false),(8,.p,false),(9,.p,false),(10,.x,true)] rfl E9 E9 (λw9 hf=>?_)));have x9:=EJ hf;clear hf;have r:=r.ext x9;have J:=J.ext x9;have Z:=Z.ext x9;have z:=z.ext x9;refine dm ?_;refine dz rfl (df 4 rfl (dL rfl (λ_ O=>((r.m.ext O).at rfl)) (df 1 rfl (dL rfl (λ_ O=>((J.ext O).at rfl)) (df 0 rfl (dL rfl (λ_ O=>((J.ext O).at rfl)) (db (zs:=[.int .i64 0,.int .i64 0]) (pl:=[(0,1),(1,1)]) (pv:=[(0,_),(1,_)]) (cs:=[_,_]) (dm ?_))))))));refine Pq LL (kx:=(f.lev,f.id)) (a:=some bt) rfl rfl rfl rfl r.mp ⟨hfl,hfi⟩ (by rw[An];unfold maxLen;omega) (.inl rfl) (λw10 hg xs10 hy=>?_);have ht:=r.addT (t:=⟨(f.lev,f.id),bt,vl,Y,cs⟩) Z hw hg hy;have z:=z.own hg (λi hi hlt=>by have hp:i=bo:=hi;rw[hp,h.k2];decide);have r:=ht;refine de hq (ws λ_ hr=>wr (da (de hr (EH ?_))));refine ro ?_;refine⟨_,rfl,z,rfl,_,⟨(f.lev,f.id),bt,vl,Y,cs⟩,rfl,rfl,λk hk=>?_,r⟩;unfold IX;rw[if_neg (λe=>by have:=hh k e;omega)]
theorem HG (κ:Nat->Nat)(bs bd bl bo bm:Nat)(vf:Value)(L:Led)(D:Dsk)(V:Vs)(ts:List Tb)(dead:Bool)(bs9:List (List Rw))(w:World)(h:StE κ bs bd bl bo bm vf L D V ts [] dead w)(hen:L.ents=bs9.map FF)(hck:∀b∈bs9,Ia b=0)(hbn:bs9.length<=1000000)(hmb:∀k,(G9 L.base [] (bs9.take k)).length<=600000/\GS (G9 L.base [] (bs9.take k))<=100000000000) :
  Calls Tryz.prog 63 [ED bs 0].toArray w (Fh (λk=>κ k≠0) w (λu w'=>u=I 0/\∃κ',(∀k,k<w.heap.size->κ' k=κ k)/\StE κ' bs bd bl bo bm vf L D V ts (G9 L.base [] bs9) dead w')):=by
 refine cw Tryz.func63 ?_;have J:=Vc.Mod.refl (λk=>κ k≠0) w;have z:=h;have hκ0:∀k,w.heap.size<=k->κ k=0:=λk hk=>AL λh9=>by have:=h.lt k h9;omega
 obtain⟨hb0,hla⟩:=h.ld.bnd;have hle:L.last=L.base+↑bs9.length:=by unfold Led.last;rw[hen,An]
 have hκ1e:κ=κ:=rfl;refine ws λ_ Z1=>wr (da (de Z1 (ws λ_ Z2=>wr (dm ?_))));refine dz rfl (df 1 rfl (dl rfl (z.m.at rfl) (cG (z.ld.calls_base) RX.all λu1 w1 x1 hw=>?_)));have hsz1:=J.size;have z:=z.ext x1;have J:=J.ext x1;obtain⟨vx,rfl,_⟩:=hw;refine dm ?_;refine dx rfl rfl (dx rfl rfl (da (da (de Z2 (ws λ_ Z3=>ws λ_ Z4=>wr (dm ?_))))));refine EW (v:=I (L.base+1+↑(0:Nat))) rfl (Gx rfl rfl (by unfold ET;omega)) (by show I _=I _;congr 1;omega) (da (de Z4 (EN ?_)));refine Fk (G:=Nat×(Nat->Nat)) (λ(k,O)=>[(0,ED bs 0),(5,I (L.base+1+↑k))]) (λ(k,O) w'=>Mod (λk=>κ k≠0) w w'/\k<=bs9.length/\(∀k,k<w.heap.size->O k=κ k)/\StE O bs bd bl bo bm vf L D V ts (G9 L.base [] (bs9.take k)) dead w') (λ(k,O)=>bs9.length-k) (0,κ) ?_ ?_ ?_
 ·exact KQ
 ·exact⟨J,Ad _,λ_ _=>rfl,z⟩
 intro X2 g2 w2 hp;obtain⟨k,O⟩:=g2;clear J z;obtain⟨J,hk1,Y,z⟩:=hp;refine ws λ_ Z5=>ws λ_ Z6=>wr (dm (dm ?_));refine dz rfl (df 1 rfl (dl rfl (z.m.at rfl) (cP (z.ld.calls_last) RX.all λw3 x3=>?_)));have z:=z.ext x3;have J:=J.ext x3;refine dp (IM rfl rfl) (de Z6 (wi (λc1=>?_) λc1=>?_))
 ·obtain⟨b,hk⟩:∃b,bs9[k]?=some b:=Fq;have ha:=hck b (Ak hk);have Z:L.ents[k]?=some (FF b):=by rw[hen,List.getElem?_map,hk];rfl
  obtain⟨hr1,hr2,hr3,hz⟩:=LI ha;obtain⟨hm1,hm2⟩:=hmb k;have hlt9:=z.lt;have hszw2:=J.size;refine EG (Z5 _ _ (ws λ_ Z7=>EN (ws λ_ Z8=>wr (dm ?_))));refine dz rfl (df 1 rfl (dl rfl (z.m.at rfl) (dm ?_)));refine cG (z.ld.calls_at Z) RX.all λu4 w4 x4 h8=>?_;have hsz4:=J.size;have z:=z.ext x4;have J:=J.ext x4;obtain⟨vp,rfl,hP⟩:=h8;refine dm ?_;refine dx rfl rfl (dx rfl rfl (da (da (de Z8 (ws λ_ Z9=>ws λ_ hy=>wr (dm ?_))))));refine dp (F8 rfl rfl) (de hy (wi (λc2=>?_) λc2=>?_))
  ·exact absurd rfl c2
  refine EG (Z9 _ _ (ws λ_ h5=>wr (dm ?_)));refine cG (X1q b vp _ (hP.arr EE) ha) RX.all λu5 w5 x5 hg=>?_;have hc:=J.size;have z:=z.ext x5;have J:=J.ext x5;obtain⟨vl,rfl,hq⟩:=hg;have hL:=hq.mono hc;refine dm ?_;refine dx rfl rfl (dx rfl rfl (da (da (de h5 (ws λ_ hh=>ws λ_ ht=>wr (dm ?_))))));refine dp (F8 rfl rfl) (de ht (wi (λc3=>?_) λc3=>?_))
  ·exact absurd rfl c3
  refine EG (hh _ _ (wr (dm (dm (dm ?_)))));have hlt8:=z.lt;have hf:=J.size;refine cD (Vv _ bs bd bl V.next vf bo bm dead (G9 L.base [] (bs9.take k)) b vl (L.base+1+↑k) _ z.m z.mr (by rw[z.k0];decide) (hL.arr EE) EA (λr hr=>by have:=Np (hz r hr);omega) EA (by have:=Rk (seq:=L.base+1+↑k) ha;omega)) (.inl rfl) λu6 w6 x6 h7=>?_;have hsz6:=J.size;have J:=J.own x6 (λi hi hlt=>(by rw[<-Y i EA];have e1:=hi;rw[e1];decide));obtain⟨rfl,xa⟩:=h7;have h6:=z.setMem x6 xa;have hb:∀j,j<w.heap.size->HE O 3 _ _ j=κ j:=λj hj=>(Ld (κ:=O) (i:=3) (w':=w6) (A0 hj hf)).trans (Y j hj);have z:=h6;refine de Z7 (wr (dm ?_));refine EW (v:=I (L.base+1+↑(k+1))) rfl (Gx rfl rfl (by unfold ET;omega)) (by show I _=I _;congr 1;omega) (da (EF (?_)));rw[show Il (G9 L.base [] (bs9.take k)) (F0 b (L.base+1+↑k))=G9 L.base [] (bs9.take (k+1)) by rw[Gs hk,RU,show L.base+↑(bs9.take k).length+1=L.base+1+↑k by rw[A4];omega]]at z;exact⟨(k+1,_),KQ,⟨J,by omega,hb,z⟩,by simp only [];omega⟩
 have Z:k=bs9.length:=by omega
 subst Z;rw[AK]at z;refine Ff (Z3 _ _ (ws λ_ hl=>wr (da (de hl (EH ?_)))));refine ro ?_;exact⟨_,rfl,J,rfl,_,Y,z⟩
theorem Ya3 (F:Nat->Prop)(bd:Nat)(D:Dsk)(pre:EC)(l:List EC)(v:Value)(w:World)(h:FV F bd D w)(hv:EM FT 1 w v l)(hl:l.length<=100000)(hdv:l≠[]->¬ F (base v).1)(hfu:D.fused=false) :
  Calls Tryz.prog 64 [ED bd 0,S pre,v].toArray w (Fh F w (λu w'=>u=I 0/\∃D',FV (G2 F w w') bd D' w')):=by
 refine cw Tryz.func64 ?_;have O:=Vc.Mod.refl F w;have hA:=h;have hf:=h.lt;have xc:=X1s h.wf;have h6:=X1t h.wf;have hnl:=Vq h.wf;refine ws λ_ Z1=>wr (da (de Z1 (ws λ_ Z2=>ws λ_ Z3=>wr (dm ?_))));refine dp (Gj E9 rfl rfl) (de Z3 (wi (λc1=>?_) λc1=>?_))
 ·exact absurd c1 EQ
 refine EG (Z2 _ _ (ws λ_ Z4=>ws λ_ Z5=>wr (dm ?_)));refine cG (Io F bd D _ hA) RX.all λvn w1 x1 hq=>?_;have hp:=O.size;have hA:=hA.ext x1;have O:=O.ext x1;have r:=hq.mono hp;refine dv 9 1 (r.arr EE).sl (dm ?_);obtain⟨N1,hN1⟩:∃z,z=w1.heap.size:=⟨_,rfl⟩;have J:Sz N1 w1:=⟨Cd hN1⟩;have hwN:w.heap.size<=N1:=by rw[hN1];exact O.size
 have hw:∀j,vn.ownBlock=some j->w.heap.size<=j/\j<N1:=λj hj=>by have h9:=r.lt j hj;omega
 have hh:∀j,vn.ownBlock=some j->¬ F j:=λj hj e=>by have h9:=hw j hj;have h8:=hf j e;omega
 refine de Z5 (EN ?_);refine Fk (G:=Nat×(Nat->Prop)×Dsk) (λ(k,Fc,Dc)=>[(0,ED bd 0),(1,S pre),(2,v),(13,vn),(14,I ↑D.names.length),(15,I ↑k)]) (λ(k,Fc,Dc) w'=>Mod F w w'/\k<=D.names.length/\FV Fc bd Dc w'/\(∀i,Fc i->F i\/N1<=i)/\Dc.fused=false/\(∀n∈D.names.drop k,(1<=n.length/\n.length<=64)/\Dc.has n=true)/\(∀j,vn.ownBlock=some j->¬ Fc j)/\Vc.Own FT 1 9 w.heap.size w' vn D.names/\Sz N1 w') (λ(k,Fc,Dc)=>D.names.length-k) (0,F,D) ?_ ?_ ?_
 ·exact FSq
 ·exact⟨O,Ad _,hA,λi hi=>.inl hi,hfu,h6,hh,r,J⟩
 intro X2 g2 w2 h5;obtain⟨k,Fc,Dc⟩:=g2;clear O hA r;obtain⟨O,hk1,hA,Y,hb,ha,hc,r,J⟩:=h5;refine ws λ_ Z6=>wr (dp (Fa rfl rfl) (de Z6 (ws λ_ Z7=>wi (λc2=>?_) λc2=>?_)))
 ·obtain⟨s,hk⟩:∃s,D.names[k]?=some s:=Fq;have Z:=HY hk;have xa:=ha s (by rw[Z];exact Al);have hg:=xc.sublist (List.drop_sublist k D.names);rw[Z,List.nodup_cons]at hg;refine EG (Z7 _ _ (ws λ_ Z8=>EN (ws λ_ Z9=>wr (di 9 1 (r.arr EE).sl rfl ((r.arr EE).lt hk) (dl rfl (((r.arr EE).row hk).at0 rfl) (da (de Z9 (ws λ_ xb=>ws λ_ hr=>wr (dm (dm ?_))))))))));refine cP (Xql s pre _) RX.all λw3 x3=>?_;have hA:=hA.ext x3;have r:=r.ext x3;have J:=J.ext x3;have O:=O.ext x3;refine dn (dm ?_);refine I8 23 rfl (λc3=>?_) (λc3=>?_)
  ·refine dk (dk (dk (EO (de hr ?_))));refine GD rfl (Ff (Z8 _ _ (wr (pa rfl rfl (dm (EF (?_)))))));exact⟨(k+1,Fc,Dc),FSq,⟨O,by omega,hA,Y,hb,λn hn=>ha n (by rw[Z];exact Am _ hn),hc,r,J⟩,by simp only [];omega⟩
  iterate 2 refine dm ?_
  refine cP (Xe l s _ _ (hv.mod O hdv) EA) RX.all λw4 x4=>?_;have hA:=hA.ext x4;have r:=r.ext x4;have J:=J.ext x4;have O:=O.ext x4;refine EO (de hr ?_);refine wc (λc4=>?_) λc4=>?_
  ·refine Ff (Z8 _ _ (wr (pa rfl rfl (dm (EF (?_))))));exact⟨(k+1,Fc,Dc),FSq,⟨O,by omega,hA,Y,hb,λn hn=>ha n (by rw[Z];exact Am _ hn),hc,r,J⟩,by simp only [];omega⟩
  refine EG (xb _ _ (ws λ_ hy=>wr (dm ?_)));have xd:=hA;refine dm ?_;refine li (e:=9) (sz:=1) (zs:=[S []]) (pv:=[(0,_)]) (cs:=[_]) RX.all (λb1 w5 e1 x5 m1=>?_);have g1:=O.ge e1;have a1_hA:=hA.lt;have o1_hoN:=r.ltb e1;have a1_hSz:=J.le;have hA:=hA.ext x5;have r:=r.ext x5;have J:=J.ext x5;have O:=O.ext x5;have hszq:=O.size;have hS9:=J.le;refine cD (P5 Fc bd Dc [s] _ _ hA (Lx m1) EQ (λ_=>NN xd (Cd e1.symm))) (.inl rfl) λu6 w6 x6 ht=>?_;have hsz6:=O.size;have r:=r.mod x6 (λj hj e=>hc j hj e);have J:=J.mod x6 trivial;have O:=O.own x6 (λi hi hlt=>(Y i hi).resolve_right EA);rw[X75 hb xa]at ht;obtain⟨rfl,hA⟩:=ht;refine da (de hy (ws λ_ h7=>wr (dm ?_)));refine dp (F8 rfl rfl) (de h7 (wi (λc5=>?_) λc5=>?_))
  ·exact absurd rfl c5
  refine EG (Z8 _ _ (wr (pa rfl rfl (dm (EF (?_))))));exact⟨(k+1,_,_),FSq,⟨O,by omega,hA,λi hi=>hi.elim (Y i) (λh9=>.inr EA),hb,λn hn=>⟨(ha n (by rw[Z];exact Am _ hn)).1,X1u (ha n (by rw[Z];exact Am _ hn)).2 (λe=>hg.1 (e▸hn))⟩,λj hj e=>e.elim (hc j hj) (λh9=>by have:=hw j hj;omega),r,J⟩,by simp only [];omega⟩
 refine Ff (Z4 _ _ (ws λ_ hz=>wr (da (de hz (EH ?_)))));refine ro ?_;exact⟨_,rfl,O,rfl,Dc,hA.to (λi hi=>(Y i hi).imp id (λh9=>by omega)) (λk hk=>A0 (hf k hk) O.size)⟩
def KX (ts ts2:List Tb):Prop:=(ts2.map λt=>(t.h,t.cs)).Perm (ts.map λt=>(t.h,t.cs))
section
variable {n:Int}{V:Vs}{ts ts2:List Tb}{mem:List Cell}{L L':Led}{S i:Nat}{M:List Rw}
theorem KX.bck (h:KX ts ts2){t:Tb}(ht:t∈ts2):∃u∈ts,u.h=t.h/\u.cs=t.cs:=by
 obtain⟨u,hu,e⟩:=Ar.1 (h.mem_iff.1 (BD (f:=λt:Tb=>(t.h,t.cs)) ht));exact⟨u,hu,(AX.inj e).1,(AX.inj e).2⟩
theorem KX.fwd (h:KX ts ts2){t:Tb}(ht:t∈ts):∃u∈ts2,u.h=t.h/\u.cs=t.cs:=by
 obtain⟨u,hu,e⟩:=Ar.1 (h.mem_iff.2 (BD (f:=λt:Tb=>(t.h,t.cs)) ht));exact⟨u,hu,(AX.inj e).1,(AX.inj e).2⟩
theorem KX.all (h:KX ts ts2)(c:Cell):c∈Fx mem ts↔c∈Fx mem ts2:=by
 rw[GC,GC]
 constructor
 ·rintro (h1|⟨t,ht,hc⟩)
  ·exact .inl h1
  ·obtain⟨u,hu,_,e⟩:=h.fwd ht;exact .inr ⟨u,hu,by rw[e];exact hc⟩
 ·rintro (h1|⟨t,ht,hc⟩)
  ·exact .inl h1
  ·obtain⟨u,hu,_,e⟩:=h.bck ht;exact .inr ⟨u,hu,by rw[e];exact hc⟩
theorem Sto.same (h:Sto n V ts mem)(e:KX ts ts2):Sto n V ts2 mem:=by
 have Z:∀ {t u:Tb} {f:Fi},u.h=t.h->u.cs=t.cs->TV t f->TV u f:=λh1 h2 h3=>⟨h1.trans h3.h,by rw[h2];exact h3.ne,by rw[h2];exact h3.fst,by rw[h2];exact h3.lst⟩;refine⟨h.isv,λf Y=>?_,λt r=>?_,?_,λt r=>?_,λc z=>h.okc c ((e.all c).2 z),h.ms,λc z t r d hd hk=>?_,λt r u hu hn c z d hd hk=>?_⟩
 ·obtain⟨t,r,hv⟩:=h.fwd f Y;obtain⟨u,hu,e1,e2⟩:=e.fwd r;exact⟨u,hu,Z e1 e2 hv⟩
 ·obtain⟨u,hu,e1,e2⟩:=e.bck r;obtain⟨f,Y,hv⟩:=h.bwd u hu;exact⟨f,Y,Z e1.symm e2.symm hv⟩
 ·have h1:=e.map (λp:(Int×Int)×List Cell=>p.1);rw[Be,Be]at h1;exact h1.nodup_iff.2 h.nod
 ·obtain⟨u,hu,_,e2⟩:=e.bck r;rw[<-e2];exact h.up u hu
 ·obtain⟨u,hu,_,e2⟩:=e.bck r;exact h.n1 c z u hu d (by rw[e2];exact hd) hk
 ·obtain⟨t0,O,e1,e2⟩:=e.bck r;obtain⟨u0,J,e3,e4⟩:=e.bck hu;exact h.n2 t0 O u0 J (by unfold Rn at *;rw[e1,e3];exact hn) c (by rw[e2];exact z) d (by rw[e4];exact hd) hk
theorem TI.same (h:TI S i L V ts mem M)(e:KX ts ts2)(h1:L'.last=L.last)(h2:L'.ents=L.ents):TI S i L' V ts2 mem M:=by
 refine⟨by rw[h1];exact h.sto.same e,Q9 h.told e.all,by rw[h1];exact h.l0,by rw[h2];exact h.en,?_,h.ml⟩;have r:(ts2.flatMap (·.cs)).Perm (ts.flatMap (·.cs)):=by
  have h3:=e.flatMap_right (λp:(Int×Int)×List Cell=>p.2);rwa [E2,E2]at h3
 have hw:=h.wt;unfold Fx at *;rw[Kb]at *;have h3:Fo cW (ts2.flatMap (·.cs))=Fo cW (ts.flatMap (·.cs)):=(r.map cW).sum_nat;omega
theorem Sto.tabs (h:Sto n V ts mem)(e:ts2.map (λt=>(t.h,t.cs))=V.fs.map λf=>((f.lev,f.id),Ir ts f)):KX ts ts2:=by
 have J:=(Ig h.isv).2.2.2.2.1;have Y:∀f∈V.fs,∃t∈ts,t.h=(f.lev,f.id)/\t.cs=Ir ts f:=λf Y=>by
  obtain⟨t,r,hv⟩:=h.fwd f Y;exact⟨t,r,hv.h,(Oa (by rw[<-hv.h];exact M4 h.nod r)).symm⟩
 unfold KX;rw[e];refine(List.perm_ext_iff_of_nodup ?_ ?_).2 λa=>⟨λO=>?_,λO=>?_⟩
 ·refine P1 (λp:(Int×Int)×List Cell=>p.1.2) ?_;rw[Be];exact J
 ·refine P1 (λp:(Int×Int)×List Cell=>p.1) ?_;rw[Be];exact h.nod
 ·obtain⟨f,z,rfl⟩:=Ar.1 O;obtain⟨t,r,h1,h2⟩:=Y f z;exact Ar.2 ⟨t,r,by rw[h1,h2]⟩
 ·obtain⟨t,r,rfl⟩:=Ar.1 O;obtain⟨f,z,hv⟩:=h.bwd t r;refine Ar.2 ⟨f,z,?_⟩;rw[Oa (t:=t) (by rw[<-hv.h];exact M4 h.nod r),hv.h]
end
theorem VN {L L':Led}{D D':Dsk}{mem mem':List Cell}{l:List Rw}{e:Int}{dead':Bool}{u k:Nat}(h:NB L D mem false l e L' D' mem' dead')(hc:Ia l=0)(hL:L.dead=false)(hl:L.last<1099511627776)(hO:OkD D u k)(hb:(FF l).length<=65536)(hr:((u+(FF l).length+32:Nat):Int)<=D.room)(hk:k<4096){nn:Int}{mm:List Cell}(hn:L.last+1=nn)(hm:Il mem (F0 l nn)=mm) :
  e=0/\dead'=false/\mem'=mm/\L'={ L with ents:=L.ents++[FF l] }/\OkD D' (u+(FF l).length+32) (k+1)/\D'.room=D.room:=by
 obtain⟨Y,J,O,z,r⟩:=Xy0 hO hL hb hl hr hk;rcases h with⟨h1,_⟩|⟨_,h1,_⟩|⟨_,_,h2,h3,⟨h4,_⟩|⟨_,h5,h6,h7⟩⟩
 ·cases h1
 ·exact absurd hc h1
 ·exact absurd J h4
 ·exact⟨h5,h7,by rw[h6,Y,hn,hm],h2.trans O,h3▸z,by rw[h3];exact r⟩
theorem Mc {κ κ1:Nat->Nat}{n m:Nat}(h:∀k,κ k≠0->n<=k)(hm:∀k,k<m->κ1 k=κ k)(hn:n<=m):∀k,κ1 k≠0->n<=k:=λk hk=>by
 rcases Nat.lt_or_ge k m with h1|h1
 ·rw[hm k h1]at hk;exact h k hk
 ·omega
def Ku : Rw:=⟨[97],[120],false⟩
def KC : Rw:=⟨[97],[],true⟩
def H9 : Cell:=⟨[97],[120],false,1⟩
def OP : Cell:=⟨[97],[],true,2⟩
theorem X1v : (FF [Ku]).length<=100:=by
 have h1:=Ns [Ku];have h2:=Gd (0+1);have h3:IC [Ku]=2:=rfl;unfold FF;rw[Ab];simp only [AB,Bc]at *;omega
theorem X1w : (FF [KC]).length<=100:=by
 have h1:=Ns [KC];have h2:=Gd (0+1);have h3:IC [KC]=1:=rfl;unfold FF;rw[Ab];simp only [AB,Bc]at *;omega
theorem R9 : (Fy [H9]).length<=31000:=by
 have:=Su (l:=[H9]) (by intro c r;rw[Ah.1 r];decide) EK;simpa using this
theorem Ya5 : H7 [H9]=0:=by
 rw[Sk EK EK];unfold Hh;rw[if_neg (by have:=R9;omega)]
def fX : Fi:=Kp 0 1 0 [H9]
theorem X77 : fX.size=↑((Fy [H9]).length+12):=by
 show((EI (Fy [H9])).length:Int)=_;rw[Jz]
theorem Yb5 : GI ⟨2,[fX]⟩=true:=by
 have h1:=R9;have h2:=X77;refine Ww EK EK EQ ?_ EQ rfl;simp only [List.all_cons,List.all_nil,Bool.and_true];unfold HN;rw[h2];have e1:fX.id=1:=rfl;have e2:fX.lev=0:=rfl;have z:fX.fst=[97]:=rfl;have r:fX.lst=[97]:=rfl;rw[e1,e2,z,r];simp only [Bool.and_eq_true,decide_eq_true_eq];refine⟨⟨⟨⟨⟨⟨⟨⟨by decide,by decide⟩,by decide⟩,by decide⟩,by omega⟩,by omega⟩,by decide⟩,by decide⟩,by decide⟩
theorem X1x : (FR ⟨2,[fX]⟩).length<=200:=by
 unfold FR;have a1:=Gd (2:Int).toNat;have a2:=Gd (0+1);have e:([fX].flatMap GA)=GA fX:=by simp
 have b1:=Gd fX.id.toNat;have b2:=Gd fX.lev.toNat;have b3:=Gd fX.size.toNat;have z:fX.fst=[97]:=rfl;have r:fX.lst=[97]:=rfl;simp only [e];unfold GA Fp;rw[z,r];simp only [Ab,AB,Bc]at *;omega
theorem Ud : Gb 1=[116,49]:=by
 have:Lib.itoa 1=[49]:=by
  unfold Lib.itoa;rw[if_neg EK];unfold Lib.decDigits;simp
 unfold Gb;rw[this]
theorem mgX {m:List Cell}(h:Mg [H9] m):m=[H9]:=by
 obtain⟨l',r,_,rfl⟩:=h;rw[E4.1 r];rfl
theorem Lb : F7 [H9]=[[H9]]:=by decide
theorem Ya7 {L L':Led}{D D':Dsk}{V':Vs}{ts':List Tb}{mem':List Cell}{ok dead':Bool}{e:Int}{u k:Nat}(h:Jy L D ⟨1,[]⟩ [] [H9] false ok e L' D' V' ts' mem' dead')(hL:L.dead=false)(hl:0<=L.last/\L.last<1099511627776)(hO:OkD D u k)(hr:((u+32000:Nat):Int)<=D.room)(hk:k<4000) :
  ok=true/\e=0/\mem'=[]/\dead'=false/\(∃p,L'=⟨L.last,p,[],false⟩)/\V'=⟨2,[fX]⟩/\(∃bt vl vb,ts'=[⟨(0,1),bt,vl,vb,[H9]⟩])/\OkD D' (u+32000) (k+2)/\D'.room=D.room:=by
 rcases h with⟨h1,_⟩|⟨_,h1,_⟩|⟨_,_,m,hm,hC,hE⟩
 ·cases h1
 ·cases h1
 ·have:=mgX hm;subst this;have hA:F5 0 1 (F7 [H9])=[fX]:=by rw[Lb];rfl
  have hF:HX 1 (F7 [H9])=[(1,EI (Fy [H9]))]:=by rw[Lb];rfl
  have hT:KM 0 1 (F7 [H9])=[((0,1),[H9])]:=by rw[Lb];rfl
  have hN:GZ 1 [fX]=2:=rfl;have Z:∀fs':List Fi,fs'.Perm (Ik [] []++[fX])->fs'=[fX]:=λfs' z=>E4.1 z;have O:Kl ⟨1,[]⟩ [] [fX]=true:=Rh rfl rfl (by intro f hf;rw[Ah.1 hf];decide);have ht:=R9;have hrl:=Jz (Fy [H9]);obtain⟨s1,s2,Y⟩:=WR (n:=Gb 1) (p:=EI (Fy [H9])) hO (by rw[Ud];decide) (by rw[Ud];decide) EA EA EA;have hv:=X1x;obtain⟨w1,w2,w3,w4⟩:=X1n (i:=L.last) (p:=FR ⟨2,[fX]⟩) s2 hL ⟨Int.le_refl _,by omega⟩ EA (by rw[Y];omega) EA;have J:GY [(1,EI (Fy [H9]))] D=(0,(D.save (Gb 1) (EI (Fy [H9]))).2):=by
   unfold GY;rw[if_neg (by rw[s1];decide)];rfl
  unfold JZ at hC;simp only [hA,hF,hT,hN,Bk]at hC;rcases hC with⟨he,_,_,_,_,_,hx⟩|⟨_,_,fs',z,_,_,_,hx⟩
  ·exfalso;rcases hx with⟨sg,hs,hb⟩|hx|⟨fs',z,_,hx⟩
   ·rw[Lb]at hs;rw[Ah.1 hs]at hb;exact hb Ya5
   ·rw[O]at hx;cases hx
   ·rw[Z fs' z]at hx;rcases hx with hx|hx
    ·rw[Yb5]at hx;cases hx
    ·omega
  ·have e1:=Z fs' z;subst e1;rw[J]at hx;dsimp only at hx;rcases hx with⟨hx,_⟩|⟨_,hL',hD',hx⟩
   ·exact absurd rfl hx
   ·rcases hx with⟨hx,_⟩|⟨_,he,hV,hd,tbs,htb,hts⟩
    ·exact absurd w1 hx
    ·rcases hE with⟨h9,_⟩|⟨_,h8,h7⟩
     ·exact absurd he h9
     ·rcases tbs with _|⟨t,_|⟨t2,r⟩⟩
      ·cases htb
      ·obtain⟨th,bt,vl,vb,tc⟩:=t;simp only [Aq,Bk,List.cons.injEq,AX.injEq,and_true]at htb;obtain⟨rfl,rfl⟩:=htb;refine⟨h8,he,h7,hd,⟨_,hL'.trans w2⟩,hV,⟨bt,vl,vb,hts⟩,hD'▸w3.mono EA EA,?_⟩;rw[hD',w4,Y]
      ·simp at htb
theorem Tt {κ:Nat->Nat}{bs bd bl bo bm:Nat}{vf:Value}{L:Led}{D:Dsk}{V:Vs}{ts:List Tb}{mem:List Cell}{dead:Bool}{w:World}(h:StE κ bs bd bl bo bm vf L D V ts mem dead w)(key:EC)(hml:mem.length<=900000)(hfl:V.fs.length<=100000)(hfs:∀f∈V.fs,(∃t,Hl ts (f.lev,f.id)=some t)/\ET f.lev/\ET f.id)(hkl:key.length<=1000000000) :
  Calls Tryz.prog 22 [ED bs 0,S key].toArray w (Pure w (.tuple #[S (Jo (Kj mem V.fs ts key)).1,B (Jo (Kj mem V.fs ts key)).2])):=by
 have r:=h.mp.at;rw[show lk (ts.map Tb.kv)=Iq ts from funext (Ny ts)]at r;exact X97 bs bd bl V.next vf bo bm _ dead _ mem V.fs ts key w h.m h.mr hml h.vs hfl r h.tb hfs hkl
theorem X78 {κ:Nat->Nat}{bs bd bl bo bm:Nat}{vf:Value}{L:Led}{D:Dsk}{V:Vs}{ts:List Tb}{mem:List Cell}{dead:Bool}{w:World}(h:StE κ bs bd bl bo bm vf L D V ts mem dead w) :
  Calls Tryz.prog 17 [ED bs 0].toArray w (Pure w (I L.last)):=by
 obtain⟨F,G,vd,ve,vs,h1,h2,_⟩:=h.ld;exact X96 bs bd bl V.next vf bo bm dead G vd ve vs L w h.m h2
theorem Ych : (HP 65536).Wf:=⟨by decide,by decide,by decide,by decide,by decide,λp r=>(by cases r),λp r=>(by cases r),BS,by decide⟩
theorem Yb6 : OkD (HP 65536) 0 0:=⟨rfl,Aa _,Aa _,BS,λp r=>(by cases r)⟩
theorem getX {bt:Nat}{vl vb:Value} : Kj [] [fX] [⟨(0,1),bt,vl,vb,[H9]⟩] [97]=some H9:=by
 have e:fX=⟨1,0,fX.size,[97],[97]⟩:=rfl;rw[e];rfl
theorem Yb7 {fs:List Fi}{ts:List Tb} : Kj [OP] fs ts [97]=some OP:=rfl
theorem SY (w:World)(hgv:GV w) :
  Calls Tryz.prog 18 [].toArray w (Pure w (B true)):=by
 refine cw Tryz.func18 ?_;have r:=EB.refl w;refine ws λ_ Z1=>wr (da (de Z1 (ws λ_ Z2=>wr ?_)));refine cG (Em.diskNew_w 65536 _ EK EK) RX.all λu1 w1 x1 xb=>?_;have hsz1:=r.size;have r:=r.trans x1;obtain⟨bd,mf,rfl,hd,hm,hgd,hgm⟩:=xb;refine dm ?_;refine dx rfl rfl (dx rfl rfl (da (da (de Z2 (ws λ_ Z3=>wr (dm ?_))))));have hmfl:=hm.lt;have hsz0:=r.size;refine cG (Em.lsmOpen_w bd mf 65536 _ hd hm) RX.all λu2 w2 x2 xh=>?_;have hsz2:=r.size;have r:=r.trans x2;obtain⟨bs,bl,mo,bm,ba,bn,rfl,hE,k1,k2,k3,k4,k5,k6⟩:=xh;have z:=UH hE EA Ych;have hκ:∀k,(GW bs bd bl mo bm ba bn mf) k≠0->w.heap.size<=k:=λk hk=>by
  unfold GW at hk
  repeat' split at hk
  all_goals omega
 refine dm ?_;refine dx rfl rfl (dx rfl rfl (da (da (de Z3 (ws λ_ Z4=>ws λ_ Z5=>wr (dm ?_))))));refine dp (F8 rfl rfl) (dm ?_);refine Fz 22 rfl (λc1=>?_) (λc1=>?_)
 ·exact absurd rfl c1
 refine dm ?_;refine dp (Gj E9 rfl rfl) (EO (de Z5 ?_));refine wi (λc2=>?_) λc2=>?_
 ·exact absurd c2 EQ
 refine EG (Z4 _ _ (ws λ_ Z6=>wr (dm ?_)));refine db (zs:=[S [],S [],B false]) (pl:=[(0,1),(1,1),(2,1)]) (pv:=[(0,_),(1,_)]) (cs:=[_,_,B false]) ?_;refine li (e:=48) (sz:=3) (zs:=[S [],S [],B false]) (pv:=[(0,.agg ⟨[_,_,_]⟩)]) (cs:=[_,_,_]) RX.all (λb1 w3 e1 x3 m1=>?_);have g1:=r.ge e1;have ha:=z.lt;have z:=z.ext x3;have r:=r.trans x3;have hq:=r.size;refine cD (O3 (GW bs bd bl mo bm ba bn mf) bs bd bl mo bm (.slice none 0 0) H0 (HP 65536) ⟨1,[]⟩ [] [] false [Ku] _ _ z (m1.arr (enc:=Rw.cs) (sz:=3) (l:=[Ku]) rfl EE rfl EQ) EK (λ_=>AL λO=>by have h8:=ha _ O;have h7:=e1;dsimp only [base]at h8;omega) EK EK EK) (.inl rfl) λu4 w4 x4 xi=>?_;have hsz4:=r.size;have r:=r.own x4 (λi hi=>(hκ i hi));obtain⟨e1,κ1,L1,D1,mem1,dead1,rfl,xa,J,hW⟩:=xi;have hbl:=X1v;obtain⟨he1,rfl,rfl,rfl,hy,Y⟩:=VN hW EK rfl EK Yb6 EA (by show _<=(65536:Int);omega) EK (nn:=1) (mm:=[H9]) rfl EK;have z:=J;have hb:=Mc hκ xa hq;refine de Z6 (ws λ_ Z7=>wr (dm ?_));have hp:=r.size;have z:StE κ1 bs bd bl mo bm (.slice none 0 0) _ D1 ⟨1,[]⟩ [] [H9] false _:=z;refine cD (Ps κ1 bs bd bl mo bm (.slice none 0 0) _ D1 ⟨1,[]⟩ [] [H9] false _ z EK (by intro c hc;rw[Ah.1 hc];decide) rfl (hgv.ext r) (λk hk=>AL λO=>by have h8:=hb k O;have h7:=hgv.lt k hk;omega) EK) (.inl rfl) λu5 w5 x5 h5=>?_;have hsz5:=r.size;have r:=r.own x5 (λi hi=>(hb i hi));obtain⟨ok,e2,κ2,hl,hh,L2,D2,V2,ts2,mem2,dead2,rfl,hg,J,xj⟩:=h5;obtain⟨rfl,rfl,rfl,rfl,⟨p2,rfl⟩,rfl,⟨bt,vl,vb,rfl⟩,ht,hr⟩:=Ya7 xj rfl EK hy (by rw[Y];show _<=(65536:Int);omega) EK;have z:=J;have xf:=Mc hb hg hp;refine dm ?_;refine dx rfl rfl (dx rfl rfl (da (da (de Z7 (ws λ_ Z8=>wr (dm ?_))))));refine cP ((show Calls Tryz.prog 22 [ED bs 0,S [97]].toArray w5 (Pure w5 (.tuple #[S [120],B true])) from by have O:=Tt z [97] EK EQ (by intro f hf;rw[Ah.1 hf];exact⟨⟨_,rfl⟩,by unfold ET;decide,by unfold ET;decide⟩) EK;rw[getX]at O;exact O)) RX.all λw6 x6=>?_;have z:=z.ext x6;have r:=r.trans x6;refine dm ?_;refine dx rfl rfl (dx rfl rfl (da (da (de Z8 (ws λ_ Z9=>wr (dm ?_))))));refine db (zs:=[S [],S [],B false]) (pl:=[(0,1),(1,1),(2,1)]) (pv:=[(0,_),(2,_)]) (cs:=[_,S [],_]) ?_;refine li (e:=48) (sz:=3) (zs:=[S [],S [],B false]) (pv:=[(0,.agg ⟨[_,_,_]⟩)]) (cs:=[_,_,_]) RX.all (λb2 w7 e2 x7 m2=>?_);have g2:=r.ge e2;have Z:=z.lt;have z:=z.ext x7;have r:=r.trans x7;have hsze:=r.size;refine cD (O3 κ2 bs bd bl mo hl hh _ D2 ⟨2,[fX]⟩ [⟨(0,1),bt,vl,vb,[H9]⟩] [] false [KC] _ _ z (m2.arr (enc:=Rw.cs) (sz:=3) (l:=[KC]) rfl EE rfl EQ) EK (λ_=>AL λO=>by have h8:=Z _ O;have h7:=e2;dsimp only [base]at h8;omega) EK (by show 0<=900000;decide) EK) (.inl rfl) λu8 w8 x8 xe=>?_;have hsz8:=r.size;have r:=r.own x8 (λi hi=>(xf i hi));obtain⟨e3,κ3,L3,D3,mem3,dead3,rfl,hmv3,J,h6⟩:=xe;have hbl3:=X1w;obtain⟨he3,hz,hj,hw,hOk3,hro3⟩:=VN h6 EK rfl (by show(1:Int)<1099511627776;decide) ht EA (by rw[hr,Y];show _<=(65536:Int);omega) EK (nn:=2) (mm:=[OP]) rfl EK;rw[hz,hj,hw]at J;have z:StE κ3 bs bd bl mo hl hh _ D3 ⟨2,[fX]⟩ [⟨(0,1),bt,vl,vb,[H9]⟩] [OP] false _:=J;refine de Z9 (ws λ_ xc=>wr (dm ?_));refine cP ((show Calls Tryz.prog 22 [ED bs 0,S [97]].toArray w8 (Pure w8 (.tuple #[S [],B false])) from by have O:=Tt z [97] EK EQ (by intro f hf;rw[Ah.1 hf];exact⟨⟨_,rfl⟩,by unfold ET;decide,by unfold ET;decide⟩) EK;rw[Yb7]at O;exact O)) RX.all λw9 x9=>?_;have z:=z.ext x9;have r:=r.trans x9;refine dm ?_;refine dx rfl rfl (dx rfl rfl (da (da (de xc (ws λ_ xg=>wr (dm ?_))))));refine dp (G1 rfl rfl) (dm ?_);refine Fz 51 rfl (λc3=>?_) (λc3=>?_)
 ·refine dm ?_;refine EO ?_;refine dm ?_;refine dm ?_;refine EO ?_;refine dm ?_;refine dm ?_;refine dp (Mh rfl rfl) (EO ?_);refine dm ?_;refine Fz 61 rfl (λc4=>?_) (λc4=>?_)
  ·refine dm ?_;refine dn ?_;refine EO ?_;refine dm ?_;refine dm ?_;refine cP (X78 z) RX.all λw10 xd=>?_;have r:=r.trans xd;refine dp (G1 rfl rfl) (EO ?_);refine da (de xg (EH ?_));refine ro ?_;exact⟨rfl,r⟩
  exact absurd rfl c4
 exact absurd rfl c3
theorem Xy7 {P:Program}{W:World}{name:String}{k:IntKind}{zs:List Int}{a b:String×DataW Unit}{g:Nat}{t e:TypeId}{n:Nat}
  (hg:P.globalNamed name=some g) (hty:(P.globals[g]?).map (·.type)=some t) (ht:P.underlying t=some (.array n e)) (he:P.underlying e=some (.int k)) (hce:P.cellsOf e=1) (hct:P.cellsOf t=n)
  (h:laidMet P [a,b,(name,Lib.tabData k zs)] W):Lib.TabIs P W name k zs:=by
 obtain⟨ps,hv,_⟩:=h;obtain⟨_,_,_,_,_,q1,_,_,_,_,hv,_⟩:=hv;obtain⟨_,_,_,_,_,q2,_,_,_,_,hv,_⟩:=hv;obtain⟨g',t',cs,fuel,p,q,z,J,r,hd,_,_⟩:=hv;obtain rfl:=A3.inj (hg.symm.trans z);obtain rfl:=A3.inj (hty.symm.trans J);unfold Lib.TabIs;rw[r,<-Lib.cells_of_tab ht he hce hct hd]
theorem X1y : (Rows.laid_internal_strconv_uint64pow10:DataW Unit)=Lib.tabData .u64 Lib.pow10Tab:=by rfl
theorem GV.of_row {a b : String × DataW Unit} {w : World} (_ : w.ShapedOpen Tryz.prog) (h : laidMet Tryz.prog [a, b, ("internal/strconv.uint64pow10", Rows.laid_internal_strconv_uint64pow10)] w) : GV w := by
 rw[X1y]at h;exact⟨Xy7 (g:=1) (t:=366) (e:=236) (n:=20) E9 E9 E9 E9 E9 E9 h⟩
theorem Qh {g:Cell->Nat}(B:Nat):∀(ls:List (List Rw)) (b:Int) (m:List Cell),(∀l∈ls,∀s,Fo g (F0 l s)<=B)->Fo g (G9 b m ls)<=Fo g m+B*ls.length
 | [],b,m,_=>Aa _
 | l :: r,b,m,h=>by
  have h1:=Qh B r (b+1) (Il m (F0 l (b+1))) (λx z=>h x (Am _ z));have h2:=QA (g:=g) (F0 l (b+1)) m;have h3:=h l Al (b+1);unfold G9;rw[AB,Nat.mul_add];omega
theorem X0 (l:List Cell):Fo (λ_=>1) l=l.length:=by
 unfold Fo
 induction l with
 | nil=>rfl
 | cons a r ih=>rw[Aq,List.sum_cons,ih,AB];omega
theorem X1z {ls:List (List Rw)}(b:Int)(hc:∀l∈ls,Ia l=0)(hl:ls.length<=1000):(G9 b [] ls).length<=600000/\GS (G9 b [] ls)<=100000000000:=by
 have h1:=Qh (g:=λ_=>1) 512 ls b [] (λl hm s=>by
  have h2:=MH l s;have h3:=(LI (hc l hm)).2.1;rw[X0];omega)
 have h2:=Qh (g:=Gn) 10500000 ls b [] (λl hm s=>Rk (hc l hm));have h3:=X0 (G9 b [] ls);have h4:Fo (λ_=>1) ([]:List Cell)=0:=rfl;have h5:Fo Gn ([]:List Cell)=0:=rfl;refine⟨by omega,?_⟩;show Fo Gn (G9 b [] ls)<=_;omega
@[reducible] def LO (L:Led):Led:=⟨L.base,L.data,L.ents,false⟩
section
variable {n:Int}{L:Led}{D:Dsk}{V:Vs}{ts:List Tb}{mem mem':List Cell}
theorem FI.ledF (h:FI L D V ts mem)(hla:L.last<=1099511627776)(hec:L.ents.length<=1000):LedF (LO L) D:=by
 refine⟨?_,?_,h.log,rfl,h.b0,hla,?_,?_,by show L.ents.length<=_;omega⟩
 ·have h1:=Ra h.fd.ok Led.img;unfold Dsk.has;rw[show Led.img++[126]=Dsk.sh Led.img from rfl,h1];rfl
 ·rcases h.img with⟨h1,h2,h3,_⟩|⟨⟨k,h1⟩,_⟩
  ·exact .inl ⟨h1,h2,h3⟩
  ·exact .inr ⟨k,h1⟩
 ·show L.data.length<=_;rcases h.img with⟨_,_,h3,_⟩|⟨_,h2,h3⟩
  ·rw[h3];exact Ad _
  ·rw[h2];omega
 ·intro e he;obtain⟨bs,b1,z,_⟩:=h.bs;have he:e∈L.ents:=he;rw[b1]at he;obtain⟨b,r,rfl⟩:=Ar.1 he;obtain⟨h1,h2,h3,_⟩:=LI (z b r);have h4:=Ns b;have h5:=Gd b.length;unfold FF;rw[Ab];omega
theorem FI.file (h:FI L D V ts mem)(hS:Sto n V ts mem'){f:Fi}(hf:f∈V.fs):(∃k,lk D.fs (Gb f.id)=some ⟨EI (EI (Fy (Ir ts f))),k⟩)/\H7 (Ir ts f)=0/\(EI (Fy (Ir ts f))).length<=1048576/\f.fst=(FZ (Ir ts f) 0).key/\f.lst=(FZ (Ir ts f) ((Ir ts f).length-1)).key:=by
 obtain⟨t,r,hv⟩:=hS.fwd f hf;have e:Ir ts f=t.cs:=Oa (by rw[<-hv.h];exact M4 hS.nod r);rw[e];refine⟨?_,(h.tok t r).1,(h.tok t r).2,hv.fst,hv.lst⟩;have:=h.tab t r;rwa [hv.h]at this
theorem FI.ver (h:FI L D V ts mem):(0<L.base\/0<L.data.length)->L.data=FR V/\(FR V).length<=262144:=λr=>by
 rcases h.img with⟨_,h2,h3,_⟩|⟨_,h2,h3⟩
 ·rw[h2,h3]at r;rcases r with r|r
  ·omega
  ·exact absurd r (A6 0)
 ·exact⟨h2,h3⟩
theorem FI.ver0 (h:FI L D V ts mem):¬ (0<L.data.length)->V=⟨1,[]⟩:=λr=>by
 rcases h.img with⟨_,_,_,h4⟩|⟨_,h2,_⟩
 ·exact h4
 ·exfalso
  apply r
  rw[h2];have h8:1<=(EV V.next.toNat).length:=Nx 9 _;unfold FR;simp only [Ab];omega
end
theorem StE.fresh {H G:Nat->Prop}{bs bd bl bo bm:Nat}{L:Led}{D:Dsk}{w:World}(m:EL w bs (He bd bl 1 (.slice none 0 0) bo bm false) 90)(ld:LD H bl bd L D w)(mp:F9 Tryz.prog 104 Gi pO w bo (([]:List Tb).map Tb.kv))(mr:F6 G w bm [])(h1:∀k,H k->k<bo)(h2:∀k,G k->bo<k/\k<bs)(h3:bo<bs) :
  ∃κ:Nat->Nat,(∀k,κ k≠0->H k\/bo<=k)/\StE κ bs bd bl bo bm (.slice none 0 0) L D ⟨1,[]⟩ [] [] false w:=by
 classical
 have hbs:=m.lt
 let κ:Nat->Nat:=λk=>if k=bs then 5 else if k=bo then 2 else if G k then 3 else if H k then 1 else 0
 have k1:∀k,H k->κ k=1:=λk hk=>by
  have:=h1 k hk;show(if k=bs then 5 else if k=bo then 2 else if G k then 3 else if H k then 1 else 0)=1;rw[if_neg EA,if_neg EA,if_neg (λe=>by have:=h2 k e;omega),if_pos hk]
 have O:∀k,G k->κ k=3:=λk hk=>by
  have:=h2 k hk;show(if k=bs then 5 else if k=bo then 2 else if G k then 3 else if H k then 1 else 0)=3;rw[if_neg EA,if_neg EA,if_pos hk]
 have J:∀k,κ k≠0->H k\/(bo<=k/\k<=bs):=λk hk=>by
  by_cases e1:k=bs
  ·right;omega
  by_cases e2:k=bo
  ·right;omega
  by_cases e3:G k
  ·have:=h2 k e3;right;omega
  by_cases e4:H k
  ·exact .inl e4
  exact absurd (show(if k=bs then 5 else if k=bo then 2 else if G k then 3 else if H k then 1 else 0)=0 by rw[if_neg e1,if_neg e2,if_neg e3,if_neg e4]) hk
 have r:∀k,κ k≠0->k<w.heap.size:=λk hk=>(J k hk).elim (λh=>by have:=h1 k h;omega) (λh=>by omega);refine⟨κ,λk hk=>(J k hk).imp id And.left,⟨m,ld.wide k1 (λk hk=>r k (by rw[hk];decide)),mp,mr.to O (λk hk=>r k (by rw[hk];decide)),EM.nil,λt z=>(by cases z),if_pos rfl,?_,λh=>absurd rfl h,λt z=>(by cases z),r⟩⟩;show(if bo=bs then 5 else if bo=bo then 2 else if G bo then 3 else if H bo then 1 else 0)=2;rw[if_neg EA,if_pos rfl]
theorem Xt0 (F:Nat->Prop)(bd:Nat)(L:Led)(D:Dsk)(V:Vs)(ts:List Tb)(mem:List Cell)(w:World)(hD:FV F bd D w)(hFI:FI L D V ts mem)(hS0:Sto L.last V ts mem)(hla:L.last<=1099511627776)(hec:L.ents.length<=1000)(hgv:GV w)(hgF:∀k,Li k->¬ F k) :
  Calls Tryz.prog 24 [ED bd 0].toArray w (Fh F w (λu w'=>∃κ bs bl bo bm vf D' ts2,u=.tuple #[ED bs 0,I 0]/\StE κ bs bd bl bo bm vf (LO L) D' V ts2 mem false w'/\ts2.map (λt=>(t.h,t.cs))=V.fs.map λf=>((f.lev,f.id),Ir ts f))):=by
 refine cw Tryz.func24 ?_;have r:=Vc.Mod.refl F w;have hA:=hD;have yo:=hD.lt;have y9:=hFI.ledF hla hec;obtain⟨xf,xl,xm,yw⟩:=hFI.bs;have hbl9:xf.length<=1000:=by have O:=congrArg A7 xl;rw[An]at O;omega
 obtain⟨_,_,yr,z9,yu,_⟩:=Ig hS0.isv;have hvl:V.fs.length<=1024:=yr;refine ws λ_ Z1=>wr (da (da (de Z1 (ws λ_ Z2=>ws λ_ Z3=>wr (dm ?_)))));refine dp (Gj E9 rfl rfl) (de Z3 (wi (λc1=>?_) λc1=>?_))
 ·exact absurd c1 EQ
 refine EG (Z2 _ _ (ws λ_ Z4=>wr (dm ?_)));refine cD (X7z F bd D (LO L) _ hA y9) (.inl rfl) λu1 w1 x1 xr=>?_;have hsz1:=r.size;have r:=r.own x1 (λi hi hb=>hi);obtain⟨bl,rfl,hbl,hf⟩:=xr;have hw1:=x1.size;refine dm ?_;refine dx rfl rfl (dx rfl rfl (da (da (de Z4 (ws λ_ Z5=>ws λ_ Z6=>wr (dm ?_))))));refine dp (F8 rfl rfl) (de Z6 (wi (λc2=>?_) λc2=>?_))
 ·exact absurd rfl c2
 refine EG (Z5 _ _ (ws λ_ Z7=>wr (dm (dm ?_))));refine db (zs:=[.int .i64 0,.slice none 0 0]) (pl:=[(0,1),(1,1)]) (pv:=[(0,_)]) (cs:=[_,.slice none 0 0]) ?_;refine Xs7 LL rfl RX.all (λb1 w2 e1 x2 hc=>?_);have g1:=r.ge e1;have hf:=hf.ext x2;have r:=r.ext x2;have hmp9:=hc.lt;refine cG (Sq [] (.slice none 0 0) _ ((Vc.Own.nil (enc:=Iu) (sz:=1) (T:=0) (B:=0)).arr EE) EK) RX.all λu3 w3 x3 ua=>?_;have hsz3:=r.size;have hf:=hf.ext x3;have hc:=hc.ext x3;have r:=r.ext x3;obtain⟨bm,rfl,hr⟩:=ua;refine db (zs:=[.pointer none,.pointer none,.int .i64 0,.slice none 0 0,.map none,.pointer none,B false]) (pl:=[(0,1),(1,1),(2,2),(4,1),(5,1),(6,1)]) (pv:=[(0,_),(1,_),(2,.agg ⟨[_,_]⟩),(3,_),(4,_)]) (cs:=[_,_,_,_,_,_,B false]) ?_;refine Gc rfl rfl rfl RX.all (λb2 w4 e2 x4 m2=>?_);have g2:=r.ge e2;have n2_mp1:=hc.lt;have a2_hMn:=hr.lt;have o2_hMn:=hr.lt;have hf:=hf.ext x4;have hc:=hc.ext x4;have hr:=hr.ext x4;have r:=r.ext x4;refine da (de Z7 ?_);refine Hz (G:=(Nat->Nat)×Value) (λ(κ1,vf)=>[(0,ED bd 0),(6,ED b2 0)]) (λ(κ1,vf) w'=>Mod F w w'/\StE κ1 b2 bd bl b1 bm vf (LO L) D V [] [] false w'/\(∀k,k<w.heap.size->κ1 k≠0->F k)) ?_ ?_
 ·refine ws λ_ Z8=>wr ?_;obtain⟨κ1,y7,z⟩:=StE.fresh m2 hf hc hr (λk hk=>by rcases hk with hk|hk;have h6:=yo k hk;omega;omega) (λk hk=>⟨by omega,by omega⟩) EA;have Z:(∀k,k<w.heap.size->κ1 k≠0->F k):=λk hk O=>(y7 k O).elim (λh8=>OX h8 hk) (λh8=>by omega);refine dm ?_;refine cG (z.ld.calls_base) RX.all λu5 w5 x5 zj=>?_;have hsz5:=r.size;have z:=z.ext x5;have r:=r.ext x5;obtain⟨vx,rfl,h5⟩:=zj;refine dm ?_;refine dx rfl rfl (dx rfl rfl (da (da (de Z8 (ws λ_ Z9=>wr (dm ?_))))));refine dp (FY rfl rfl) (dm ?_);refine Fz 39 rfl (λc3=>?_) (λc3=>?_)
  ·refine dk (dk (dk (EO (de Z9 ?_))));refine GD rfl (ws λ_ y3=>wr (dm (dm ?_)));have xa:0<L.base\/0<L.data.length:=by
    first
    | exact .inl c3
    | exact .inr (DR.1 c5)
   obtain⟨xz,x0⟩:=hFI.ver xa;have xe:=h5.arr EE;rw[xz]at xe;have hp:=z.lt;have yh:=z.m.lt;refine cG (Sh V.next V.fs vx _ xe hS0.isv (by have O:(FR V).length<=262144:=x0;exact Ae O EK)) RX.all λu6 w6 x6 zy=>?_;have ym:=r.size;have z:=z.ext x6;have h5:=h5.ext x6;have r:=r.ext x6;obtain⟨vf,rfl,ha⟩:=zy;have xy:∀k,_<=k->κ1 k=0:=λk hk=>AL λO=>absurd (hp k O) (Bi.2 hk);have y2:=ym;refine dm ?_;refine dx rfl rfl (dx rfl rfl (dz rfl (df 2 rfl (Mf (v:=.agg ⟨[I V.next,vf]⟩) (vs:=[I V.next,vf]) rfl rfl rfl rfl E9 z.m (Ap rfl) (by intro u hu;rcases Aj.1 hu with e|hu;subst e;rfl;rw[Ah.1 hu];exact ha.sl.one) (.inl rfl) (λw7 x7 xs7 xx=>?_)))));have h7:=z.setV (V':=V) (vf':=vf) x7 xx (ha.arr EE) (λhl=>xy _ (ha.base_ge hl).1);have r:=r.own x7 (λi hi hb=>by have zt:i=b2:=hi;omega);have hh:∀k,k<w.heap.size->(if V.fs=[]then κ1 else I9 κ1 (base vf).1 4) k≠0->F k:=λk hk O=>by
    by_cases e9:V.fs=[]
    ·rw[if_pos e9]at O;exact Z k hk O
    ·rw[if_neg e9]at O;unfold I9 at O;have h8:=(ha.base_ge e9).1;rw[if_neg EA]at O;exact Z k hk O
   have z:=h7;refine da (de y3 (ws λ_ za=>wr (dm ?_)));refine dp (F8 rfl rfl) (de za (wi (λc4=>?_) λc4=>?_))
   ·exact absurd rfl c4
   refine EG ?_;exact⟨(_,vf),KQ,r,z,hh⟩
  refine dm ?_;refine dv 5 1 (h5.arr EE).sl (dp (FY rfl rfl) (EO (de Z9 ?_)));refine wi (λc5=>?_) λc5=>?_
  ·refine ws λ_ yx=>wr (dm (dm ?_));have xa:0<L.base\/0<L.data.length:=by
    first
    | exact .inl c3
    | exact .inr (DR.1 c5)
   obtain⟨xz,x0⟩:=hFI.ver xa;have xe:=h5.arr EE;rw[xz]at xe;have hp:=z.lt;have yh:=z.m.lt;refine cG (Sh V.next V.fs vx _ xe hS0.isv (by have O:(FR V).length<=262144:=x0;exact Ae O EK)) RX.all λu8 w8 x8 y5=>?_;have yk:=r.size;have z:=z.ext x8;have r:=r.ext x8;obtain⟨vf,rfl,ha⟩:=y5;have xy:∀k,_<=k->κ1 k=0:=λk hk=>AL λO=>absurd (hp k O) (Bi.2 hk);have y2:=yk;refine dm ?_;refine dx rfl rfl (dx rfl rfl (dz rfl (df 2 rfl (Mf (v:=.agg ⟨[I V.next,vf]⟩) (vs:=[I V.next,vf]) rfl rfl rfl rfl E9 z.m (Ap rfl) (by intro u hu;rcases Aj.1 hu with e|hu;subst e;rfl;rw[Ah.1 hu];exact ha.sl.one) (.inl rfl) (λw9 x9 xs9 xx=>?_)))));have h7:=z.setV (V':=V) (vf':=vf) x9 xx (ha.arr EE) (λhl=>xy _ (ha.base_ge hl).1);have r:=r.own x9 (λi hi hb=>by have zt:i=b2:=hi;omega);have hh:∀k,k<w.heap.size->(if V.fs=[]then κ1 else I9 κ1 (base vf).1 4) k≠0->F k:=λk hk O=>by
    by_cases e9:V.fs=[]
    ·rw[if_pos e9]at O;exact Z k hk O
    ·rw[if_neg e9]at O;unfold I9 at O;have h8:=(ha.base_ge e9).1;rw[if_neg EA]at O;exact Z k hk O
   have z:=h7;refine da (de yx (ws λ_ zr=>wr (dm ?_)));refine dp (F8 rfl rfl) (de zr (wi (λc6=>?_) λc6=>?_))
   ·exact absurd rfl c6
   refine EG ?_;exact⟨(_,vf),KQ,r,z,hh⟩
  refine EG ?_;have z6:=hFI.ver0 (λO=>c5 (DR.2 O));rw[<-z6]at z;exact⟨(κ1,.slice none 0 0),KQ,r,z,Z⟩
 intro X10 z8 w10 ye;obtain⟨κ1,vf⟩:=z8;clear r hf hc hr m2;obtain⟨r,z,Z⟩:=ye;refine ws λ_ yy=>wr (da (de yy (ws λ_ zc=>ws λ_ y0=>wr (dm ?_))));refine dz rfl (df 2 rfl (df 1 rfl (dl rfl (z.m.at rfl) (dv 62 5 z.vs.sl (dm (de y0 (EN ?_)))))));refine Fk (G:=Nat×(Nat->Nat)×List Tb×Value) (λ(k,κ1,ts2,vn)=>[(0,ED bd 0),(6,ED b2 0),(9,vn),(59,vf),(60,I ↑V.fs.length),(61,I ↑k)]) (λ(k,κ1,ts2,vn) w'=>Mod F w w'/\k<=V.fs.length/\ts2.map (λt=>(t.h,t.cs))=(V.fs.take k).map (λf=>((f.lev,f.id),Ir ts f))/\StE κ1 b2 bd bl b1 bm vf (LO L) D V ts2 [] false w'/\(∀k,k<w.heap.size->κ1 k≠0->F k)/\Vc.Own FT 1 9 w.heap.size w' vn ((V.fs.take k).map λf=>Gb f.id)/\(∀j,vn.ownBlock=some j->κ1 j=0)) (λ(k,κ1,ts2,vn)=>V.fs.length-k) (0,κ1,[],.slice none 0 0) ?_ ?_ ?_
 ·exact FSq
 ·exact⟨r,Ad _,rfl,z,Z,Vc.Own.nil,λj Y=>(by cases Y)⟩
 intro X11 zg w11 yg;obtain⟨k,κ1,ts2,vn⟩:=zg;clear r z;obtain⟨r,hk1,ht,z,Z,J,xj⟩:=yg;refine ws λ_ zi=>wr (dp (Fa rfl rfl) (de zi (ws λ_ z1=>wi (λc7=>?_) λc7=>?_)))
 ·obtain⟨f,hk⟩:∃f,V.fs[k]?=some f:=Fq;have xb:=Ak hk;obtain⟨⟨kk,zp⟩,zo,hle,xr,z5⟩:=hFI.file hS0 xb;have hff:=JH (z9 f xb);have xq:ET f.id:=(LZ hS0.isv f xb).1;have zq:ET f.lev:=(LZ hS0.isv f xb).2;have zv:ts2.length<=k:=by have O:=congrArg A7 ht;rw[An,An,A4]at O;omega
  have zu:∀y∈ts2,y.h≠(f.lev,f.id):=λy hy e=>by
   have O:=BD (f:=λt:Tb=>(t.h,t.cs)) hy;rw[ht]at O;obtain⟨g,hg,e2⟩:=Ar.1 O;have e3:=(AX.inj e2).1;rw[e]at e3;have e4:g.id=f.id:=(AX.inj e3).2;have ze:g=f:=Lt yu (DE hg) xb e4;subst ze;obtain⟨j,Y⟩:=List.getElem?_of_mem hg;have zl:=(Ao.1 Y).1;rw[A4]at zl;rw[List.getElem?_take,if_pos EA]at Y;obtain⟨q1,q2⟩:=Ao.1 Y;obtain⟨q3,q4⟩:=Ao.1 hk;have yl:=List.pairwise_iff_getElem.1 yu j k (by rw[An];exact q1) (by rw[An];exact q3) EA;rw[CA,CA,q2,q4]at yl;exact yl rfl
  have xn:=z.lt;refine EG (z1 _ _ (ws λ_ zm=>EN (ws λ_ zh=>wr (di 62 5 z.vs.sl rfl (z.vs.lt hk) (dq (Fb E9 rfl rfl (z.vs.row hk)) (FG (cs:=[.int .i64 0,.int .i64 0,.int .i64 0,S [],S []]) rfl E9 RX.all (λb3 w12 e3 xu m3=>?_)))))));have g3:=r.ge e3;have a3_hS:=z.lt;have hq:=J.ltb e3;have z:=z.ext xu;have J:=J.ext xu;have r:=r.ext xu;refine FM m3 (λw13 xp xs13 m3=>?_);dsimp only [Fe,Ag,Af,Ai]at m3;have z:=z.mod xp (λj Y e=>by have h2:j=b3:=e;have h8:=xn j Y;omega);have J:=J.mod xp (by intro k hk h;have h1:=hq k hk;have h2:k=b3:=h;omega);have r:=r.o1 xp;refine de zh (ws λ_ zn=>ws λ_ zf=>wr (dm ?_));refine dq (Fb (k:=5) E9 rfl rfl m3.row) ?_;have zw:κ1 b3=0:=AL λO=>by have h8:=xn _ O;omega
  have hz:=r.size;have xo:∀j,vn.ownBlock=some j->j<_:=λj Y=>(J.lt j Y).2;refine cD (X76 κ1 b2 bd bl b1 bm vf (LO L) D V ts2 [] false f (Ir ts f) kk _ z (hgv.mod r (λj Y e=>hgF j Y e)) (λj Y=>AL λO=>hgF j Y (Z j (hgv.lt j Y) O)) xq zq zp zo hle xr z5 EA) (.inl rfl) λu14 w14 yb yp=>?_;have hsz14:=r.size;have J:=J.mod yb (λj Y e=>e (xj j Y));have m3:=m3.mod yb (λe=>e zw);have r:=r.own yb (λi hi hb=>(Z i hb hi));obtain⟨rfl,κ2,t,yt,y8,hw,xc⟩:=yp;have hh:∀j,j<w.heap.size->κ2 j≠0->F j:=λj Y O=>Z j Y (by rw[<-hw j (A0 Y hz)];exact O);have xk:∀j,vn.ownBlock=some j->κ2 j=0:=λj Y=>(hw j (xo j Y)).trans (xj j Y);rw[show G4 ts2 t=ts2++[t] from O7 [t] ts2 (λx zb y hy=>by rw[Ah.1 zb,yt];exact zu y hy) EQ]at xc;have z:=xc;have hp:=z.lt;refine da (de zf (ws λ_ z4=>wr (dm ?_)));refine dp (F8 rfl rfl) (de z4 (wi (λc8=>?_) λc8=>?_))
  ·exact absurd rfl c8
  refine EG (zn _ _ (wr (dm ?_)));refine df 0 rfl (dl rfl (m3.at rfl) (cP (N8 f.id _ (hgv.mod r (λj Y e=>hgF j Y e)) xq (by have:=N9 xq;omega)) RX.all λw15 xg=>?_));have J:=J.ext xg;have m3:=m3.ext xg;have z:=z.ext xg;have r:=r.ext xg;refine li (e:=9) (sz:=1) (zs:=[S []]) (pv:=[(0,_)]) (cs:=[_]) RX.all (λb4 w16 e4 xi m4=>?_);have g4:=r.ge e4;have n4_3:=m3.ltb e4;have o4_hoN:=J.ltb e4;have a4_hS:=z.lt;have J:=J.ext xi;have m3:=m3.ext xi;have z:=z.ext xi;have r:=r.ext xi;refine KG (lx:=[Gb f.id]) (e:=9) (sz:=1) (by':=16) rfl E9 E9 EE J (m4.arr (enc:=FT) (sz:=1) (l:=[Gb f.id]) rfl EE rfl (Ap rfl)) rfl rfl (by intro x _ u hu;simp at hu;rcases hu with rfl<;>rfl) (by simp;omega) EK r.size (.inl rfl) (λz3 w17 xw xt xv=>?_);have yi:=xv;have yq:=z.lt;have m3:=m3.mod xt (by intro h;have h1:=hq _ h;omega);have z:=z.mod xt (by exact(λj Y e=>Y (xk j e)));have r:=r.own xt (λi hi hb=>(by have:=(J.lt i hi).1;omega));have J:=xw;clear m4;refine da (de zm (wr ?_));refine pa rfl rfl (dm (EF (?_)));rw[show((V.fs.take k).map λf=>Gb f.id)++[Gb f.id]=(V.fs.take (k+1)).map λf=>Gb f.id by rw[Gs hk,AC];rfl]at J;exact⟨(k+1,κ2,ts2++[t],z3),FSq,⟨r,by omega,by rw[AC,ht,Gs hk,AC];simp [yt,y8],z,hh,J,λj Y=>yi.elim (λe=>xk j (e.symm.trans Y)) (λe=>AL λO=>A6 _ (yq _ (A3.inj (e.symm.trans Y)▸O)))⟩,by simp only [];omega⟩
 have y4:k=V.fs.length:=by omega
 subst y4;rw[AK]at ht J;have zv:ts2.length<=V.fs.length:=by have O:=congrArg A7 ht;rw[An,An]at O;omega
 refine Ff (zc _ _ (ws λ_ z2=>ws λ_ z7=>wr (dm ?_)));have hz:=r.size;have xo:∀j,vn.ownBlock=some j->j<_:=λj Y=>(J.lt j Y).2;refine cD (HG κ1 b2 bd bl b1 bm vf (LO L) D V ts2 false xf _ z xl xm EA (λk9=>X1z L.base (ls:=xf.take k9) (λl hl=>xm l (DE hl)) (by rw[A4];omega))) (.inl rfl) λu18 w18 yj yn=>?_;have hsz18:=r.size;have J:=J.mod yj (λj Y e=>e (xj j Y));have r:=r.own yj (λi hi hb=>(Z i hb hi));obtain⟨rfl,κ3,hw,xc⟩:=yn;have yc:∀j,j<w.heap.size->κ3 j≠0->F j:=λj Y O=>Z j Y (by rw[<-hw j (A0 Y hz)];exact O);have yv:∀j,vn.ownBlock=some j->κ3 j=0:=λj Y=>(hw j (xo j Y)).trans (xj j Y);rw[show G9 (LO L).base [] xf=mem from yw.symm]at xc;have z:=xc;refine da (de z7 (ws λ_ y6=>wr (dm ?_)));refine dp (F8 rfl rfl) (de y6 (wi (λc9=>?_) λc9=>?_))
 ·exact absurd rfl c9
 refine EG (z2 _ _ (ws λ_ y1=>ws λ_ zz=>wr (dm (dm ?_))));obtain⟨F2,zk,xd,xh⟩:=z.ld.disk;refine cD (Ya3 F2 bd D [116] (V.fs.map λf=>Gb f.id) vn _ zk (J.arr EE) (by rw[An];omega) (λhl e=>by have e1:κ3 (base vn).1=1:=xd _ e;rw[yv _ (J.base_block hl)]at e1;cases e1) hFI.fd.fu) (.inl rfl) λu19 w19 ya yf=>?_;have hsz19:=r.size;have r:=r.own ya (λi hi hb=>(by have e1:κ3 i=1:=xd i hi;exact yc i hb (by rw[e1];decide)));obtain⟨rfl,D9,zx⟩:=yf;have h7:=z.ledger (ya.mono (λi hi _=>xd i hi)) (xh _ _ ya zx);have z:=h7;refine da (de zz (ws λ_ zd=>wr (dm ?_)));refine dp (F8 rfl rfl) (de zd (wi (λyd=>?_) λyd=>?_))
 ·exact absurd rfl yd
 refine EG (y1 _ _ (ws λ_ yz=>wr (dm (da (da (de yz (EH ?_)))))));refine rt ?_;exact⟨_,rfl,r,_,b2,bl,b1,bm,vf,D9,ts2,rfl,z,ht⟩
end Go.Proofs.YtiooodckiddpmaaGreatDoor
namespace Go.Proofs.YtiooodckiddpmaaGreatDoor.Em
open Go.Vc Go.Sp
attribute [local irreducible] W XW Dw Gm
structure RStE (w:World)(bs bd bl bm:Nat)(room:Int):Prop where
 s:EL w bs [ED bd 0,ED bl 0,I 1,.slice none 0 0,.slice none 0 0,ED bm 0,B false] 69
 l:EL w bl [ED bd 0,S [115],I 0,.slice none 0 0,.slice none 0 0,B false] 135
 d:EL w bd [I room,.slice none 0 0,I (-1)] 138
theorem rdiskNew_w (room:Int)(w:World)(h0:0<=room)(h1:room<=1073741824) :
  Calls Tryz.prog 34 [I room].toArray w (ER w (λu w'=>∃bd,u=.tuple #[ED bd 0,I 0]/\EL w' bd [I room,.slice none 0 0,I (-1)] 138)):=by
 refine cw Tryz.func34 ?_;have r:=EB.refl w;refine ws λ_ Z1=>wr (da (da (de Z1 (ws λ_ z=>ws λ_ Z3=>wr (dm ?_)))));refine dp (Fa rfl rfl) (dm ?_);refine Fz 6 rfl (λZ=>?_) (λZ=>?_)
 ·omega
 refine dm ?_;refine dp (FY rfl rfl) (EO (de Z3 ?_));refine wi (λc2=>?_) λc2=>?_
 ·omega
 refine EG (z _ _ (ws λ_ J=>wr (dm ?_)));refine db (zs:=[.int .i64 0,.slice none 0 0,.int .i64 0]) (pl:=[(0,1),(1,1),(2,1)]) (pv:=[(0,_),(2,_)]) (cs:=[_,.slice none 0 0,_]) ?_;refine Gc rfl rfl rfl RX.all (λb1 w1 e1 O Y=>?_);have g1:=r.ge e1;have r:=r.trans O;refine da (da (de J (EH ?_)));refine rt ?_;exact⟨_,rfl,r,b1,rfl,Y⟩
theorem X79 (bd:Nat)(room:Int)(s:EC)(w:World)(hd:EL w bd [I room,.slice none 0 0,I (-1)] 138) :
  Calls Tryz.prog 227 [ED bd 0,S s].toArray w (Pure w (.tuple #[I 0,B false])):=by
 refine cw Tryz.func227 ?_;have r:=EB.refl w;refine ws λ_ Z1=>wr (da (da (de Z1 (ws λ_ Z2=>wr (da (de Z2 (ws λ_ Z3=>EN ?_)))))));refine Fk (G:=Unit) (λO=>[(0,ED bd 0),(1,S s),(4,I 0),(5,.bool false),(6,I 0)]) (λO w'=>EB w w'/\True) (λO=>0) () ?_ ?_ ?_
 ·exact FA
 ·exact⟨r,trivial⟩
 intro X1 g1 w1 z;revert z;revert g1;intro O z;clear r;obtain⟨r,htr⟩:=z;refine ws λ_ Z4=>ws λ_ Z5=>wr (dm (dm ?_));refine dz rfl (df 1 rfl (dl rfl ((hd.ext r).at rfl) (dv 226 3 (EM.nil (enc:=λx:List Value=>x) (sz:=3) (w:=w)).sl (dp (Fa rfl rfl) (dm ?_)))));refine Fz 14 rfl (λY=>?_) (λY=>?_)
 ·exact absurd Y EK
 iterate 10 refine dk ?_
 refine EO (de Z5 ?_);refine GB rfl (Ff (Z3 _ _ (ws λ_ Z6=>F4 (R:=EB) EB.refl (λ_ _ _=>EB.trans) E9 [5,12,16] [(0,.p,false),(1,.p,false),(2,.p,false),(3,.p,false),(4,.p,false),(5,.l,false),(6,.p,false),(7,.p,false),(8,.p,false),(9,.p,false),(10,.p,false),(11,.p,false),(12,.l,false),(13,.p,false),(14,.p,false),(15,.p,false),(16,.l,false),(17,.p,false),(18,.p,false),(19,.p,false),(20,.p,false),(21,.p,false)] rfl E9 E9 (λw2 J=>?_))));have x2:=EJ J;clear J;have r:=r.trans x2
 iterate 3 refine dm ?_
 refine dz rfl (df 1 rfl (dL rfl (λ_ hR=>((hd.ext (r.trans hR)).at rfl)) (dv 226 3 (EM.nil (enc:=λx:List Value=>x) (sz:=3) (w:=w)).sl (dp (Fa rfl rfl) (dm ?_)))));refine Fz 36 rfl (λZ=>?_) (λZ=>?_)
 ·exact absurd Z EK
 iterate 10 refine dk ?_
 refine EO ?_;refine da (da (de Z6 (EH ?_)));refine rt ?_;exact⟨rfl,r⟩
theorem Xx (bd:Nat)(room:Int)(s:EC)(w:World)(hd:EL w bd [I room,.slice none 0 0,I (-1)] 138) :
  Calls Tryz.prog 232 [ED bd 0,S s].toArray w (Pure w (.tuple #[.slice none 0 0,I 7])):=by
 refine cw Tryz.func232 ?_;have r:=EB.refl w;refine ws λ_ Z=>wr (da (da (de Z (ws λ_ z=>wr (dm (dm ?_))))));refine cP (X79 bd room s _ (hd.ext r)) RX.all λw1 O=>?_;have r:=r.trans O;refine dm ?_;refine dx rfl rfl (dx rfl rfl (da (da (de z (ws λ_ Z3=>ws λ_ J=>wr (dm ?_))))));refine dn (de J ?_);refine GD rfl (ws λ_ Y=>wr (da (da (de Y (EH ?_)))));refine rt ?_;exact⟨rfl,r⟩
theorem UW (bl bd:Nat)(room:Int)(s:EC)(w:World)(hl:EL w bl [ED bd 0,S [115],I 0,.slice none 0 0,.slice none 0 0,B false] 135)(hd:EL w bd [I room,.slice none 0 0,I (-1)] 138) :
  Calls Tryz.prog 230 [ED bl 0,S s].toArray w (Pure w (B false)):=by
 refine cw Tryz.func230 ?_;have r:=EB.refl w;refine ws λ_ Y=>wr (da (de Y (ws λ_ z=>wr (dm ?_))));refine dz rfl (df 0 rfl (dl rfl ((hl.ext r).at rfl) (dm ?_)));refine cP (Xx bd room s _ (hd.ext r)) RX.all λw1 J=>?_;have r:=r.trans J;refine dm ?_;refine dx rfl rfl (dx rfl rfl (da (da (de z (ws λ_ O=>wr (dm ?_))))));refine dp (G1 rfl rfl) (da (de O (EH ?_)));refine ro ?_;exact⟨rfl,r⟩
theorem X2a (bl bd:Nat)(room:Int)(w:World)(hl:EL w bl [ED bd 0,S [115],I 0,.slice none 0 0,.slice none 0 0,B false] 135)(hd:EL w bd [I room,.slice none 0 0,I (-1)] 138) :
  Calls Tryz.prog 231 [ED bl 0].toArray w (Pure w (I 0)):=by
 refine cw Tryz.func231 ?_;have r:=EB.refl w;refine ws λ_ Y=>wr (da (de Y (ws λ_ Z2=>ws λ_ O=>wr (dm (dm ?_)))));refine dz rfl (df 1 rfl (dl rfl ((hl.ext r).at rfl) (dp (Ji rfl rfl (by simp;done)) (cP (UW bl bd room _ _ (hl.ext r) (hd.ext r)) RX.all λw1 J=>?_))));have r:=r.trans J;refine dn (de O ?_);refine GD rfl (ws λ_ z=>wr (da (de z (EH ?_))));refine ro ?_;exact⟨rfl,r⟩
theorem X8a (bl bd:Nat)(w:World)(hl:EL w bl [ED bd 0,S [115],I 0,.slice none 0 0,.slice none 0 0,B false] 135) :
  Calls Tryz.prog 31 [ED bl 0].toArray w (Pure w (I 0)):=by
 refine cw Tryz.func31 ?_;have z:=EB.refl w;refine ws λ_ Z=>wr (da (de Z (ws λ_ O=>?_)));refine F4 (R:=EB) EB.refl (λ_ _ _=>EB.trans) E9 [3,7] [(0,.p,false),(1,.p,false),(2,.p,false),(3,.l,false),(4,.p,false),(5,.p,false),(6,.p,false),(7,.l,false),(8,.p,false),(9,.p,false),(10,.p,false)] rfl E9 E9 (λw1 r=>?_);have Y:=EJ r;clear r;have z:=z.trans Y;refine dm ?_;refine dz rfl (df 2 rfl (dL rfl (λ_ J=>((hl.ext (z.trans J)).at rfl)) (dm ?_)));refine dz rfl (df 4 rfl (dL rfl (λ_ J=>((hl.ext (z.trans J)).at rfl)) (dv 82 1 (EM.nil (enc:=λx:List Value=>x) (sz:=3) (w:=w)).sl (dp (Gx (a:=0) (b:=0) rfl rfl (by simp [ET])) (da (de O (EH ?_)))))));refine ro ?_;exact⟨rfl,z⟩
theorem Xmt (bd:Nat)(room:Int)(w:World)(hd:EL w bd [I room,.slice none 0 0,I (-1)] 138) :
  Calls Tryz.prog 147 [ED bd 0,S [115]].toArray w (ER w (λu w'=>∃bl,u=.tuple #[ED bl 0,I 0]/\EL w' bl [ED bd 0,S [115],I 0,.slice none 0 0,.slice none 0 0,B false] 135)):=by
 refine cw Tryz.func147 ?_;have r:=EB.refl w;refine ws λ_ Z1=>wr (da (da (de Z1 (ws λ_ Z2=>ws λ_ Z3=>wr (dm ?_)))));refine dp (Gj E9 rfl rfl) (dm ?_);refine Fz 13 rfl (λc1=>?_) (λc1=>?_)
 ·exact absurd c1 EQ
 refine dm ?_;refine dt rfl (dp (Fa rfl rfl) (EO ?_));refine dm ?_;refine Fz 18 rfl (λc2=>?_) (λc2=>?_)
 ·exact absurd c2 EK
 refine dm ?_;refine dt rfl (dp (FY rfl rfl) (EO (de Z3 ?_)));refine wi (λc3=>?_) λc3=>?_
 ·exact absurd c3 EK
 refine EG (Z2 _ _ (ws λ_ Z4=>wr (dm (dm ?_))));refine db (zs:=[.pointer none,S [],.int .i64 0,.slice none 0 0,.slice none 0 0,B false]) (pl:=[(0,1),(1,1),(2,1),(3,1),(4,1),(5,1)]) (pv:=[(0,_),(1,_)]) (cs:=[_,_,.int .i64 0,.slice none 0 0,.slice none 0 0,B false]) ?_;refine Gc rfl rfl rfl RX.all (λb1 w1 e1 x1 z=>?_);have g1:=r.ge e1;have r:=r.trans x1;refine da (de Z4 (ws λ_ Z5=>wr (da (de Z5 (ws λ_ Z6=>ws λ_ Z7=>wr (dm (dm ?_)))))));refine dp (Ji rfl rfl (by simp;done)) (cP (UW b1 bd room _ _ z (hd.ext r)) RX.all λw2 x2=>?_);have z:=z.ext x2;have r:=r.trans x2;refine de Z7 (GB rfl (EG (Z6 _ _ (ws λ_ Z8=>ws λ_ Z9=>wr (dm ?_)))));refine dp (G1 rfl rfl) (de Z9 (wi (λc4=>?_) λc4=>?_))
 ·refine wr (dm ?_);refine cP (X2a b1 bd room _ z (hd.ext r)) RX.all λw3 x3=>?_;have z:=z.ext x3;have r:=r.trans x3;refine da (de Z8 (ws λ_ ha=>ws λ_ Y=>wr (dm ?_)));refine dp (F8 rfl rfl) (de Y (wi (λc5=>?_) λc5=>?_))
  ·exact absurd rfl c5
  refine EG (ha _ _ (ws λ_ J=>wr (dm (dm ?_))));refine dp (Ji rfl rfl (by simp;done)) (cP (Xx bd room _ _ (hd.ext r)) RX.all λw4 x4=>?_);have z:=z.ext x4;have r:=r.trans x4;refine dm ?_;refine dx rfl rfl (dx rfl rfl (da (da (de J (ws λ_ Z13=>ws λ_ O=>wr (dm ?_))))));refine dp (F8 rfl rfl) (de O (wi (λc6=>?_) λc6=>?_))
  ·refine ws λ_ Z=>wr (dm (da (da (de Z (EH ?_)))));refine rt ?_;exact⟨_,rfl,r,b1,rfl,z⟩
  exact absurd EK c6
 exact absurd rfl c4
theorem X8b (bs bd bl bm:Nat)(w:World)(hs:EL w bs [ED bd 0,ED bl 0,I 1,.slice none 0 0,.slice none 0 0,ED bm 0,B false] 69) :
  Calls Tryz.prog 149 [ED bs 0].toArray w (Pure w (I 0)):=by
 refine cw Tryz.func149 ?_;have z:=EB.refl w;refine ws λ_ Z1=>wr (da (de Z1 (ws λ_ Y=>ws λ_ Z3=>wr (da (de Z3 (EN ?_))))));refine Fk (G:=Unit) (λJ=>[(0,ED bs 0),(3,I 0)]) (λJ w'=>EB w w'/\True) (λJ=>0) () ?_ ?_ ?_
 ·exact KQ
 ·exact⟨z,trivial⟩
 intro X1 g1 w1 r;revert r;revert g1;intro J r;clear z;obtain⟨z,htr⟩:=r;refine ws λ_ Z4=>ws λ_ Z5=>wr (dm (dm ?_));refine dz rfl (df 2 rfl (df 1 rfl (dl rfl ((hs.ext z).at rfl) (dv 62 5 (EM.nil (enc:=λv:Value=>[v]) (sz:=5) (w:=w)).sl (dp (Fa rfl rfl) (de Z5 (wi (λO=>?_) λO=>?_)))))))
 ·exact absurd O EK
 refine Ff (Y _ _ (ws λ_ Z=>wr (da (de Z (EH ?_)))));refine ro ?_;exact⟨rfl,z⟩
theorem X8c (bd:Nat)(room:Int)(w:World)(hd:EL w bd [I room,.slice none 0 0,I (-1)] 138) :
  Calls Tryz.prog 239 [ED bd 0].toArray w (Pure w (.slice none 0 0)):=by
 refine cw Tryz.func239 ?_;have z:=EB.refl w;refine ws λ_ Z1=>wr (da (de Z1 (ws λ_ Z2=>wr (da (de Z2 (ws λ_ Z=>ws λ_ Z4=>wr (da (de Z4 (EN ?_)))))))));refine Fk (G:=Unit) (λJ=>[(0,ED bd 0),(2,.slice none 0 0),(3,.slice none 0 0),(4,I 0)]) (λJ w'=>EB w w'/\True) (λJ=>0) () ?_ ?_ ?_
 ·exact FU
 ·exact⟨z,trivial⟩
 intro X1 g1 w1 r;revert r;revert g1;intro J r;clear z;obtain⟨z,htr⟩:=r;refine ws λ_ Z5=>ws λ_ Y=>wr (dm (dm ?_));refine dz rfl (df 1 rfl (dl rfl ((hd.ext z).at rfl) (dv 226 3 (EM.nil (enc:=λx:List Value=>x) (sz:=3) (w:=w)).sl (dp (Fa rfl rfl) (de Y (wi (λO=>?_) λO=>?_))))))
 ·exact absurd O EK
 refine Ff (Z _ _ (ws λ_ Z7=>wr (dm (da (de Z7 (EH ?_))))));refine ro ?_;exact⟨rfl,z⟩
theorem X2b (bd:Nat)(room:Int)(s:EC)(w:World)(hd:EL w bd [I room,.slice none 0 0,I (-1)] 138) :
  Calls Tryz.prog 152 [ED bd 0,S s,.slice none 0 0].toArray w (Pure w (I 0)):=by
 refine cw Tryz.func152 ?_;have r:=EB.refl w;refine ws λ_ Z1=>wr (da (de Z1 (ws λ_ Z2=>ws λ_ Z3=>wr (dm ?_))));refine dp (Gj E9 rfl rfl) (de Z3 (wi (λO=>?_) λO=>?_))
 ·exact absurd O EQ
 refine EG (Z2 _ _ (ws λ_ Z4=>wr (dm ?_)));refine cP (X8c bd room _ (hd.ext r)) RX.all λw1 x1=>?_;have r:=r.trans x1;refine da (de Z4 (ws λ_ Z5=>ws λ_ Z=>wr (da (de Z (EN ?_)))));refine Fk (G:=Unit) (λJ=>[(0,ED bd 0),(1,S s),(2,.slice none 0 0),(7,.slice none 0 0),(8,I 0)]) (λJ w'=>EB w w'/\True) (λJ=>0) () ?_ ?_ ?_
 ·exact FA
 ·exact⟨r,trivial⟩
 intro X2 g2 w2 z;revert z;revert g2;intro J z;clear r;obtain⟨r,htr⟩:=z;refine ws λ_ Z7=>ws λ_ Z8=>wr (dm (dm ?_));refine dv 9 1 (EM.nil (enc:=FT) (sz:=1) (w:=w)).sl (dp (Fa rfl rfl) (de Z8 (wi (λY=>?_) λY=>?_)))
 ·exact absurd Y EK
 refine Ff (Z5 _ _ (ws λ_ Z9=>wr (da (de Z9 (EH ?_)))));refine ro ?_;exact⟨rfl,r⟩
theorem rlsmOpen_w (bd:Nat)(room:Int)(w:World)(hd:EL w bd [I room,.slice none 0 0,I (-1)] 138) :
  Calls Tryz.prog 77 [ED bd 0].toArray w (ER w (λu w'=>∃bs bl bm,u=.tuple #[ED bs 0,I 0]/\RStE w' bs bd bl bm room)):=by
 refine cw Tryz.func77 ?_;have r:=EB.refl w;refine ws λ_ Z1=>wr (da (da (de Z1 (ws λ_ Z2=>ws λ_ Z3=>wr (dm ?_)))));refine dp (Gj E9 rfl rfl) (de Z3 (wi (λc1=>?_) λc1=>?_))
 ·exact absurd c1 EQ
 refine EG (Z2 _ _ (ws λ_ Z4=>wr (dm ?_)));refine cG (Xmt bd room _ (hd.ext r)) RX.all λu1 w1 x1 hp=>?_;have hsz1:=r.size;have r:=r.trans x1;obtain⟨bl,rfl,z⟩:=hp;refine dm ?_;refine dx rfl rfl (dx rfl rfl (da (da (de Z4 (ws λ_ Z5=>ws λ_ Z6=>wr (dm ?_))))));refine dp (F8 rfl rfl) (de Z6 (wi (λc2=>?_) λc2=>?_))
 ·exact absurd rfl c2
 refine EG (Z5 _ _ (ws λ_ Z7=>wr (dm (dm ?_))));refine db (zs:=[.int .i64 0,.slice none 0 0]) (pl:=[(0,1),(1,1)]) (pv:=[(0,_)]) (cs:=[_,.slice none 0 0]) ?_;refine db (zs:=[.slice none 0 0]) (pl:=[(0,1)]) (pv:=[]) (cs:=[.slice none 0 0]) ?_;refine Gc rfl rfl rfl RX.all (λb1 w2 e1 x2 O=>?_);have g1:=r.ge e1;have a1_hl:=z.lt;have z:=z.ext x2;have r:=r.trans x2;refine db (zs:=[.pointer none,.pointer none,.int .i64 0,.slice none 0 0,.slice none 0 0,.pointer none,B false]) (pl:=[(0,1),(1,1),(2,2),(4,1),(5,1),(6,1)]) (pv:=[(0,_),(1,_),(2,.agg ⟨[_,_]⟩),(4,_)]) (cs:=[_,_,_,_,.slice none 0 0,_,B false]) ?_;refine Gc rfl rfl rfl RX.all (λb2 w3 e2 x3 J=>?_);have g2:=r.ge e2;have n2_1:=O.ltb e2;have a2_hl:=z.lt;have z:=z.ext x3;have O:=O.ext x3;have r:=r.trans x3;refine da (de Z7 (ws λ_ Z8=>ws λ_ Z9=>wr (dm ?_)));refine dz rfl (df 3 rfl (dl rfl (z.at rfl) (dv 5 1 (EM.nil (enc:=EP) (sz:=1) (w:=w)).sl (dp (FY rfl rfl) (dm ?_)))));refine Fz 37 rfl (λc3=>?_) (λc3=>?_)
 ·exact absurd c3 EK
 refine dm ?_;refine dz rfl (df 2 rfl (dl rfl (z.at rfl) (dp (FY rfl rfl) (EO (de Z9 ?_)))));refine wi (λc4=>?_) λc4=>?_
 ·exact absurd c4 EK
 refine EG (Z8 _ _ (ws λ_ hr=>wr (dm ?_)));refine cP (X8b b2 bd bl b1 _ J) RX.all λw4 x4=>?_;have z:=z.ext x4;have O:=O.ext x4;have J:=J.ext x4;have r:=r.trans x4;refine da (de hr (ws λ_ ht=>ws λ_ hc=>wr (dm ?_)));refine dp (F8 rfl rfl) (de hc (wi (λc5=>?_) λc5=>?_))
 ·exact absurd rfl c5
 refine EG (ht _ _ (ws λ_ hj=>ws λ_ hf=>wr (dm ?_)));refine dz rfl (df 2 rfl (dl rfl (z.at rfl) (pa rfl rfl (da (de hf (EN ?_))))));refine Fk (G:=Unit) (λY=>[(0,ED bd 0),(4,ED bl 0),(5,I 0),(6,ED b2 0),(7,I 1)]) (λY w'=>EB w w'/\EL w' bl [ED bd 0,S [115],I 0,.slice none 0 0,.slice none 0 0,B false] 135/\EL w' b1 [.slice none 0 0] 215/\EL w' b2 [ED bd 0,ED bl 0,I 1,.slice none 0 0,.slice none 0 0,ED b1 0,B false] 69/\True) (λY=>0) () ?_ ?_ ?_
 ·exact FA
 ·exact⟨r,z,O,J,trivial⟩
 intro X5 g5 w5 ha;revert ha;revert g5;intro Y ha;clear r z O J;obtain⟨r,z,O,J,h5⟩:=ha;refine ws λ_ Z15=>ws λ_ hq=>wr (dm (dm ?_));refine cP (X8a bl bd _ z) RX.all λw6 x6=>?_;have z:=z.ext x6;have O:=O.ext x6;have J:=J.ext x6;have r:=r.trans x6;refine dp (IM rfl rfl) (de hq (wi (λc6=>?_) λc6=>?_))
 ·exact absurd c6 EK
 refine Ff (hj _ _ (ws λ_ hb=>wr (da (de hb (ws λ_ hw=>ws λ_ hg=>wr (da (de hg (EN ?_))))))));refine Fk (G:=Unit) (λY=>[(0,ED bd 0),(5,I 0),(6,ED b2 0),(12,.slice none 0 0),(13,I 0)]) (λY w'=>EB w w'/\EL w' bl [ED bd 0,S [115],I 0,.slice none 0 0,.slice none 0 0,B false] 135/\EL w' b1 [.slice none 0 0] 215/\EL w' b2 [ED bd 0,ED bl 0,I 1,.slice none 0 0,.slice none 0 0,ED b1 0,B false] 69/\True) (λY=>0) () ?_ ?_ ?_
 ·exact FA
 ·exact⟨r,z,O,J,trivial⟩
 intro X7 g7 w7 Z;revert Z;revert g7;intro Y Z;clear r z O J;obtain⟨r,z,O,J,h5⟩:=Z;refine ws λ_ Z20=>ws λ_ hh=>wr (dm (dm ?_));refine dz rfl (df 2 rfl (df 1 rfl (dl rfl (J.at rfl) (dv 62 5 (EM.nil (enc:=λv:Value=>[v]) (sz:=5) (w:=w)).sl (dp (Fa rfl rfl) (de hh (wi (λc7=>?_) λc7=>?_)))))))
 ·exact absurd c7 EK
 refine Ff (hw _ _ (ws λ_ h7=>wr (dm (dm ?_))));refine cP (X2b bd room [116] _ (hd.ext r)) RX.all λw8 x8=>?_;have z:=z.ext x8;have J:=J.ext x8;have r:=r.trans x8;refine da (de h7 (ws λ_ hz=>ws λ_ hy=>wr (dm ?_)));refine dp (F8 rfl rfl) (de hy (wi (λc8=>?_) λc8=>?_))
 ·exact absurd rfl c8
 refine EG (hz _ _ (ws λ_ h6=>wr (dm (da (da (de h6 (EH ?_)))))));refine rt ?_;exact⟨_,rfl,r,b2,bl,b1,rfl,⟨J,z,hd.ext r⟩⟩
end Go.Proofs.YtiooodckiddpmaaGreatDoor.Em
namespace Go.Proofs.YtiooodckiddpmaaGreatDoor
open Go.Vc Go.Sp
attribute [local irreducible] W XW Dw Gm
theorem X8d {bs bd bl mo bm ba bn mf n:Nat}(h1:n<=bs)(h2:n<=bl)(h3:n<=mo)(h4:n<=bm)(h5:n<=ba)(h6:n<=bn):∀k,GW bs bd bl mo bm ba bn mf k≠0->k=bd\/k=mf\/n<=k:=λk hk=>by
 unfold GW at hk
 repeat' split at hk
 all_goals omega
theorem X8e (pb bd bx mf:Nat)(room:Int)(w:World)(hp0:EL w pb [ED bd 0,ED bx 0,.pointer none,.pointer none] 31)(hd:EL w bd [I room,.map (some mf),B false,I 0] 122)(hm:FL w mf)(hr:EL w bx [I room,.slice none 0 0,I (-1)] 138)(hw:(HP room).Wf) :
  Calls Tryz.prog 35 [ED pb 0].toArray w (Fh (ES pb) w (λu w'=>u=B true/\∃κ bs bl bo bm sb,EL w' pb [ED bd 0,ED bx 0,ED bs 0,ED sb 0] 31/\StE κ bs bd bl bo bm (.slice none 0 0) H0 (HP room) ⟨1,[]⟩ [] [] false w'/\(∀k,κ k≠0->k=bd\/k=mf\/w.heap.size<=k))):=by
 refine cw Tryz.func35 ?_;have J:=Vc.Mod.refl (ES pb) w;have z:=hp0;have hmfl:=hm.lt;have hne1:=hp0.ne hd rfl;have hne2:=JO hm hp0;have hpl:=hp0.lt;refine ws λ_ Z1=>wr (da (de Z1 (ws λ_ Z2=>wr (dm ?_))));refine dz rfl (df 0 rfl (dl rfl (z.at rfl) ?_));have r:=J.size;refine cG (Em.lsmOpen_w bd mf room _ hd hm) RX.all λu1 w1 x1 hb=>?_;have hsz1:=J.size;have z:=z.ext x1;have hd:=hd.ext x1;have hm:=hm.ext x1;have hr:=hr.ext x1;have J:=J.ext x1;obtain⟨bs,bl,mo,bm,ba,bn,rfl,hE,k1,k2,k3,k4,k5,k6⟩:=hb;have O:=UH hE EA hw;have hκ:=X8d (bd:=bd) (mf:=mf) (Ae r k1) (Ae r k2) (Ae r k3) (Ae r k4) (Ae r k5) (Ae r k6);refine dm ?_;refine dx rfl rfl (dx rfl rfl (da (da (de Z2 (ws λ_ Z3=>wr (dm ?_))))));refine dz rfl (df 1 rfl (dl rfl (z.at rfl) (cG (Em.rlsmOpen_w bx room _ hr) RX.all λu2 w2 Y ha=>?_)));have hsz2:=J.size;have z:=z.ext Y;have hd:=hd.ext Y;have hm:=hm.ext Y;have hr:=hr.ext Y;have O:=O.ext Y;have J:=J.ext Y;obtain⟨sb,rbl,rbm,rfl,hRS⟩:=ha;refine dm ?_;refine dx rfl rfl (dx rfl rfl (da (da (de Z3 (ws λ_ Z4=>wr (dm (dm (dm (dm ?_)))))))));refine dz rfl (df 2 rfl (G5 z (λw3 x3 xs3 z=>?_) (hv:=by rfl)));dsimp only [Fe,Ag,Af,Ai]at z;have hd:=hd.mod x3 (by intro h;have h2:_=pb:=h;omega);have hm:=hm.mod x3 (by intro h;have h2:_=pb:=h;omega);have O:=O.mod x3 (λZ h9 e9=>by have h2:Z=pb:=e9;have h8:=hκ Z h9;omega);have J:=J.own x3 (λi hi _=>hi);refine dz rfl (df 3 rfl (G5 z (λw4 x4 xs4 z=>?_) (hv:=by rfl)));dsimp only [Fe,Ag,Af,Ai]at z;have O:=O.mod x4 (λZ h9 e9=>by have h2:Z=pb:=e9;have h8:=hκ Z h9;omega);have J:=J.own x4 (λi hi _=>hi);refine de Z4 (ws λ_ Z5=>wr (dm (dm ?_)));refine dp (G1 rfl rfl) (dm ?_);refine Fz 34 rfl (λc1=>?_) (λc1=>?_)
 ·refine dm ?_;refine dp (Gj E9 rfl rfl) (dm ?_);refine dp (F8 rfl rfl) (dp (X8k E9 rfl rfl) (EO ?_));refine da (de Z5 (EH ?_));refine ro ?_;exact⟨_,rfl,J,by simp,_,bs,bl,mo,bm,sb,z,O,hκ⟩
 exact absurd rfl c1
theorem X8f (room:Int)(w:World)(h0:0<=room)(h1:room<=1073741824)(hw:(HP room).Wf) :
  Calls Tryz.prog 12 [I room].toArray w (ER w (λu w'=>∃κ pb bd bx bs bl bo bm Y,u=ED pb 0/\EL w' pb [ED bd 0,ED bx 0,ED bs 0,ED Y 0] 31/\StE κ bs bd bl bo bm (.slice none 0 0) H0 (HP room) ⟨1,[]⟩ [] [] false w'/\(∀k,κ k≠0->w.heap.size<=k)/\κ pb=0/\w.heap.size<=pb)):=by
 refine cw Tryz.func12 ?_;have r:=EB.refl w;refine ws λ_ Z1=>wr (da (de Z1 (ws λ_ Z2=>wr (dm ?_))));have hsza:=r.size;refine cG (Em.diskNew_w room _ h0 h1) RX.all λu1 w1 x1 hb=>?_;have hsz1:=r.size;have r:=r.trans x1;obtain⟨bd,mf,rfl,hd,hm,hgd,hgm⟩:=hb;refine dm ?_;refine dx rfl rfl (dx rfl rfl (da (da (de Z2 (ws λ_ Z3=>wr (dm ?_))))));refine cG (Em.rdiskNew_w room _ h0 h1) RX.all λu2 w2 x2 Z=>?_;have hsz2:=r.size;have hd:=hd.ext x2;have hm:=hm.ext x2;have r:=r.trans x2;obtain⟨bx,rfl,O⟩:=Z;refine dm ?_;refine dx rfl rfl (dx rfl rfl (da (da (de Z3 (ws λ_ Z4=>wr (dm (dm ?_)))))));refine db (zs:=[.pointer none,.pointer none,.pointer none,.pointer none]) (pl:=[(0,1),(1,1),(2,1),(3,1)]) (pv:=[(0,_),(1,_)]) (cs:=[_,_,.pointer none,.pointer none]) ?_;refine Gc rfl rfl rfl RX.all (λb1 w3 e1 J z=>?_);have g1:=r.ge e1;have a1_hd:=hd.lt;have a1_hr:=O.lt;have hd:=hd.ext J;have hm:=hm.ext J;have O:=O.ext J;have r:=r.trans J;refine da (de Z4 (ws λ_ Z5=>ws λ_ Z6=>wr (dm ?_)));refine dp (Gj E9 rfl rfl) (dm ?_);refine Fz 24 rfl (λc1=>?_) (λc1=>?_)
 ·exact absurd c1 EQ
 refine dm ?_;refine dp (Gj E9 rfl rfl) (EO ?_);refine dm ?_;refine Fz 28 rfl (λc2=>?_) (λc2=>?_)
 ·exact absurd c2 EQ
 refine dm ?_;have hpl9:=z.lt;have hne1:=z.ne hd rfl;have hne2:=JO hm z;have hszd:=r.size;refine cD (X8e b1 bd bx mf room _ z hd hm O hw) (.inl rfl) λu4 w4 x4 ha=>?_;have hsz4:=r.size;have r:=r.own x4 (λi hi=>(by have e9:i=b1:=hi;omega));obtain⟨rfl,κ,bs,bl,bo,bm,Y,hp,hS,hκ⟩:=ha;refine dn ?_;refine EO (de Z6 ?_);refine GB rfl (EG (Z5 _ _ (ws λ_ Z7=>wr (dm (da (de Z7 (EH ?_)))))));refine ro ?_;exact⟨_,rfl,r,κ,b1,bd,bx,bs,bl,bo,bm,Y,rfl,hp,hS,λk hk=>(by have h9:=hκ k hk;omega),AL λh9=>(by have h8:=hκ _ h9;omega),EA⟩
theorem Ni {S i:Nat}{L:Led}{V:Vs}{ts:List Tb}{mem:List Cell}{M:List Rw}(h:TI S i L V ts mem M)(hS:S<=60000)(hi:i<=60):L.last<=60/\(Fx mem ts).length<=30000/\mem.length<=30000/\ts.length<=30000/\V.fs.length<=1024/\GS mem<=100000000000/\(∀c∈mem,c.key.length<=4096/\c.val.length<=16384/\c.seq<=4611686018427387904):=by
 have h1:=h.len;have h2:=h.l0;have h3:=h.sto.tlen;have h4:(Fx mem ts).length=mem.length+(ts.flatMap (·.cs)).length:=by unfold Fx;rw[Ab]
 obtain⟨_,_,z,_⟩:=Ig h.sto.isv;have z:V.fs.length<=1024:=z;have J:=λc (r:c∈mem)=>h.sto.cellsB EA c (GC.2 (.inl r));refine⟨by omega,by omega,by omega,by omega,z,?_,J⟩;have h7:=SJ (l:=mem) (λc r=>by have:=J c r;unfold Gn;omega);omega
theorem X8g {room:Int}(h0:0<=room)(h1:room<=20000):(HP room).Wf:=⟨h0,by show room<=_;omega,by show((0:Nat):Int)<=room;omega,by show(0:Int)<=0;decide,by show(0:Int)<=9223372036854775807;decide,λp r=>(by cases r),λp r=>(by cases r),BS,by show(0:Nat)<=4096;decide⟩
theorem X2c {L L':Led}{D D':Dsk}{V V':Vs}{ts ts':List Tb}{mem mem':List Cell}{dead' ok:Bool}{e:Int}(h:Jy L D V ts mem true ok e L' D' V' ts' mem' dead'):e=9/\L'=L/\D'=D/\V'=V/\ts'=ts/\mem'=mem/\dead'=true:=by
 rcases h with⟨_,_,h1,h2,h3,h4,h5,h6,h7⟩|⟨h9,_⟩|⟨h9,_⟩
 ·exact⟨h1,h2,h3,h4,h5,h6,h7⟩
 ·cases h9
 ·cases h9
theorem X2d {L L':Led}{D D':Dsk}{V V':Vs}{ts ts':List Tb}{mem mem':List Cell}{dead' did:Bool}{e:Int}(h:Le L D V ts mem true did e L' D' V' ts' mem' dead'):e=9/\L'=L/\D'=D/\V'=V/\ts'=ts/\mem'=mem/\dead'=true:=by
 rcases h with⟨_,_,h1,h2,h3,h4,h5,h6,h7⟩|⟨h9,_⟩|⟨h9,_⟩
 ·exact⟨h1,h2,h3,h4,h5,h6,h7⟩
 ·cases h9
 ·cases h9
theorem X2e {L L':Led}{D D':Dsk}{mem mem':List Cell}{l:List Rw}{dead':Bool}{e:Int}(h:NB L D mem true l e L' D' mem' dead'):e=9/\L'=L/\D'=D/\mem'=mem/\dead'=true:=by
 rcases h with⟨_,h1,h2,h3,h4,h5⟩|⟨h9,_⟩|⟨h9,_⟩
 ·exact⟨h1,h2,h3,h4,h5⟩
 ·cases h9
 ·cases h9
theorem X2f (room:Int)(l:List Ac)(v:Value)(w:World)(hv:EM Ac.cs 5 w v l)(hl:l.length<=140737488355328)(hok:∀a∈l,AcOk w a)(hgv:GV w) :
  Calls Tryz.prog 5 [I room,v].toArray w (Pure w (B true)):=by
 refine cw Tryz.func5 ?_;have r:=EB.refl w;refine ws λ_ Z1=>wr (da (de Z1 (ws λ_ Z2=>ws λ_ Z3=>wr (dm ?_))));refine cP (X7m l v _ (hv.ext r) hl (λa ha=>(hok a ha).ext r)) RX.all λw1 x1=>?_;have r:=r.trans x1;refine dm ?_;refine I8 18 rfl (λc1=>?_) (λc1=>?_)
 ·refine dk (dk (EO ?_));refine dm ?_;refine dk (dk (EO (de Z3 ?_)));refine GD rfl (ws λ_ Z4=>wr (da (de Z4 (EH ?_))));refine ro ?_;exact⟨rfl,r⟩
 refine dm ?_;refine dp (Fa rfl rfl) (EO ?_);refine dm ?_;refine Fz 22 rfl (λc2=>?_) (λc2=>?_)
 ·refine dk (dk (EO (de Z3 ?_)));refine GD rfl (ws λ_ Z5=>wr (da (de Z5 (EH ?_))));refine ro ?_;exact⟨rfl,r⟩
 refine dm ?_;refine dp (FY rfl rfl) (EO (de Z3 ?_));refine wi (λc3=>?_) λc3=>?_
 ·refine ws λ_ Z6=>wr (da (de Z6 (EH ?_)));refine ro ?_;exact⟨rfl,r⟩
 have yh:KE l<=60000:=by simpa using c1
 have zc:0<=room:=by omega
 have z4:room<=20000:=by omega
 refine EG (Z2 _ _ (ws λ_ Z7=>wr (dm ?_)));have zl:=r.size;refine cG (X8f room _ zc EA (X8g zc z4)) RX.all λu2 w2 x2 vu=>?_;have hsz2:=r.size;have r:=r.trans x2;obtain⟨κ,pb,bd,bx,bs,bl,bo,bm,sb,rfl,z,J,uj,Z,hpge⟩:=vu;have hκ:∀k,κ k≠0->w.heap.size<=k:=λk hk=>Ae zl (uj k hk);refine da (de Z7 (ws λ_ Z8=>ws λ_ Z9=>wr (dm ?_)));refine dp (Gj E9 rfl rfl) (de Z9 (wi (λc4=>?_) λc4=>?_))
 ·cases c4
 refine EG (Z8 _ _ (ws λ_ z8=>ws λ_ ua=>wr (dm ?_)));refine dz rfl (df 2 rfl (dl rfl (z.at rfl) (dp (Gj E9 rfl rfl) (de ua (wi (λc5=>?_) λc5=>?_)))))
 ·cases c5
 refine EG (z8 _ _ (ws λ_ uq=>wr (da (da (de uq ?_)))));refine Hz (G:=(Nat->Nat)×Nat×Value×Led×Dsk×Vs×List Tb×List Cell×Bool×Value×List Rw×Value) (λ(κ,bm,vf,L,D,V,ts,mem,dead,Y,M,vq)=>[(5,ED pb 0),(6,Y),(7,vq)]) (λ(κ,bm,vf,L,D,V,ts,mem,dead,Y,M,vq) w'=>EB w w'/\EL w' pb [ED bd 0,ED bx 0,ED bs 0,ED sb 0] 31/\TI 60000 60 L V ts mem M/\FI L D V ts mem/\(∀k,κ k≠0->w.heap.size<=k)/\κ pb=0/\(M≠[]->κ (base Y).1=0)/\StE κ bs bd bl bo bm vf L D V ts mem dead w'/\EM Rw.cs 3 w' Y M) ?_ ?_
 ·refine ws λ_ uk=>wr (da (de uk (EN ?_)));refine Fk (G:=Nat×(Nat->Nat)×Nat×Value×Led×Dsk×Vs×List Tb×List Cell×Bool×Value×List Rw×Value) (λ(i,κ,bm,vf,L,D,V,ts,mem,dead,Y,M,vq)=>[(1,v),(5,ED pb 0),(6,Y),(7,vq),(8,I ↑i)]) (λ(i,κ,bm,vf,L,D,V,ts,mem,dead,Y,M,vq) w'=>EB w w'/\EL w' pb [ED bd 0,ED bx 0,ED bs 0,ED sb 0] 31/\i<=l.length/\i<=60/\TI ((l.take i).map Hv).sum i L V ts mem M/\FI L D V ts mem/\(∀k,κ k≠0->w.heap.size<=k)/\κ pb=0/\(M≠[]->κ (base Y).1=0)/\StE κ bs bd bl bo bm vf L D V ts mem dead w'/\EM Rw.cs 3 w' Y M) (λ(i,κ,bm,vf,L,D,V,ts,mem,dead,Y,M,vq)=>l.length-i) (0,κ,bm,.slice none 0 0,H0,HP room,⟨1,[]⟩,[],[],false,.slice none 0 0,[],.slice none 0 0) ?_ ?_ ?_
  ·exact FA
  ·exact⟨r,z,Ad _,Ad _,TI.nil,FI.nil room,hκ,Z,λO=>absurd rfl O,J,EM.nil⟩
  intro X3 g3 w3 z2;obtain⟨i,κ,bm,vf,L,D,V,ts,mem,dead,Y,M,vq⟩:=g3;clear r z J;obtain⟨r,z,hi1,hi2,hT,hq,hκ,Z,hf,J,hA⟩:=z2;refine ws λ_ ur=>ws λ_ yg=>wr (dm (dm ?_));refine dv 34 5 (hv.ext r).sl (dp (Fa rfl rfl) (dm ?_));refine Fz 40 rfl (λc6=>?_) (λc6=>?_)
  ·refine dm ?_;refine dp (Fa rfl rfl) (EO ?_);refine dm ?_;refine Fz 44 rfl (λc7=>?_) (λc7=>?_)
   ·refine dm ?_;refine dz rfl (df 2 rfl (dl rfl (z.at rfl) (cP (SO bs bd bl V.next vf bo bm dead _ J.m) RX.all λw4 x4=>?_)));have z:=z.ext x4;have J:=J.ext x4;have hA:=hA.ext x4;have r:=r.trans x4;refine dn ?_;refine EO (de yg ?_);refine wc (λc8=>?_) λc8=>?_
    ·have y8:dead=false:=by simpa using c8
     obtain⟨a,hk⟩:∃a,l[i]?=some a:=Fq;have zu:=hok a (Ak hk);have yl:=zu.v;have z5:=Vi (k:=a.l.length) EA hk (Aa _);rw[AK]at z5;have hst:=Pe Hv hk;have haw:Hv a=a.key.length+a.to.length+(a.l.map Hd).sum:=rfl;have hrs:=Rf a.l;have hml9:=hT.ml;have zx:=J.lt;refine EG (ur _ _ (ws λ_ z7=>EN ?_));refine Hz (G:=(Nat->Nat)×Nat×Value×Led×Dsk×Vs×List Tb×List Cell×Bool×Value×List Rw×Value) (λ(κ,bm,vf,L,D,V,ts,mem,dead,Y,M,vq)=>[(1,v),(5,ED pb 0),(6,Y),(7,vq),(8,I ↑i)]) (λ(κ,bm,vf,L,D,V,ts,mem,dead,Y,M,vq) w'=>EB w w'/\EL w' pb [ED bd 0,ED bx 0,ED bs 0,ED sb 0] 31/\TI ((l.take (i+1)).map Hv).sum (i+1) L V ts mem M/\FI L D V ts mem/\(∀k,κ k≠0->w.heap.size<=k)/\κ pb=0/\(M≠[]->κ (base Y).1=0)/\StE κ bs bd bl bo bm vf L D V ts mem dead w'/\EM Rw.cs 3 w' Y M) ?_ ?_
     ·refine ws λ_ u5=>wr (dm (dm ?_));refine di 34 5 hv.sl rfl (hv.lt hk) (df 0 rfl (dl rfl (((hv.ext r).row hk).at rfl) (de u5 (EN (ws λ_ vo=>wr (dp (G1 rfl rfl) (da (de vo ?_))))))));refine wi (λc9=>?_) λc9=>?_
      ·refine ws λ_ vg=>?_;have yw:=r;have hD:w.heap.size<=w4.heap.size:=r.size;have xy:=hA;have xx:=J;have x0:=z;have xw:=(hv.ext r);refine F4 (R:=Mod (Hs w4.heap.size)) (Far.refl _) Far.trans E9 [7] [(1,.p,false),(3,.p,false),(4,.p,false),(5,.p,false),(6,.p,false),(7,.l,false),(0,.x,false),(2,.x,false),(8,.x,true),(9,.p,false)] rfl E9 E9 (λw5 zd=>?_);have x5:=EJ zd;clear zd;have z:=z.ext x5;have J:=J.ext x5;have hA:=hA.ext x5;have r:=r.trans x5;have hs:Mod (Hs w4.heap.size) w4 w5:=Far.of_ext x5
       iterate 3 refine dm ?_
       refine di 34 5 hv.sl rfl (hv.lt hk) (df 4 rfl (dL rfl (λ_ hR=>(((xw.far EK (hs.own hR (λ_ h _=>h))).row hk).at rfl)) (Me (e:=48) (sz:=3) rfl E9 RX.far (λb1 w6 e1 x6 m1=>?_))));have g1:=r.ge e1;have a1_hp:=z.lt;have a1_hS:=J.lt;have a1_hA:=EM.base_lt hA EK;have ut:w4.heap.size<=b1:=by have:=hs.size;omega
       have z:=z.ext x6;have J:=J.ext x6;have hA:=hA.ext x6;have r:=r.trans x6;have hs:=hs.ext x6;have ho:=m1.own (enc:=Rw.cs) (B:=w4.heap.size) (l:=[]) (sz:=3) (m:=0) ut rfl EE rfl (Ap rfl);refine KG (e:=48) (sz:=3) (by':=40) rfl E9 E9 EE ho ((hA)) rfl rfl (by intro x _ u hu;simp at hu;rcases hu with rfl|rfl|rfl<;>rfl) (by simp;omega) EK hs.size (.inr (Far.own ho (Aa _))) (λvp w7 zg x7 hwh7=>?_);have hs7:=x7.size;have hs6:=hs.size;have z:=z.mod x7 (by intro e9;have h7:=(ho.lt _ e9).1;have h8:=x0.lt;omega);have J:=J.mod x7 (by intro k9 O e9;have h8:=zx k9 O;have h7:=(ho.lt _ e9).1;omega);have hA:=hA.mod x7 (by intro vk e9;have h8:=EM.base_lt xy EK vk;have h7:=(ho.lt _ e9).1;omega);have r:=r.own x7 (λi hi=>(by have h1:=(ho.lt i hi).1;have:=yw.size;omega));have ho:=zg;rw[List.nil_append]at ho;refine cG (Yb3 M vp a.l a.v _ (ho.arr EE) (yl.ext r) EA EA hT.up) RX.all λxc w8 x8 uy=>?_;have hsz8:=r.size;have z:=z.ext x8;have J:=J.ext x8;have hA:=hA.ext x8;have ho:=ho.ext x8;have r:=r.trans x8;obtain⟨xa,u9⟩:=uy;have zm:ID M a.l≠[]->κ (base xc).1=0:=λO=>AL λh6=>by
        have h5:=xx.lt _ h6;rcases u9 with e9|h8
        ·rw[e9]at h5;have h7:=X1l (e9▸xa.sl) (ho.arr EE).sl;have h4:M≠[]:=λe8=>O (List.eq_nil_of_length_eq_zero (by rw[h7,e8];rfl));have h3:=(ho.base_ge h4).1;omega
        ·have h3:=h8 O;omega
       refine da ?_;clear hs yw xy xx x0 xw;refine de vg (ws λ_ uc=>F4 (R:=EB) EB.refl (λ_ _ _=>EB.trans) E9 [3,8] [(0,.p,false),(1,.p,false),(2,.p,false),(3,.l,false),(4,.p,false),(5,.p,false),(6,.p,false),(7,.p,false),(8,.l,false),(9,.x,true),(10,.p,false)] rfl E9 E9 (λw9 zh=>?_));have x9:=EJ zh;clear zh;have z:=z.ext x9;have J:=J.ext x9;have hA:=hA.ext x9;have xa:=xa.ext x9;have r:=r.trans x9;refine dm ?_;refine dz rfl (df 2 rfl (dL rfl (λ_ hR=>((z.ext hR).at rfl)) (dm (dm ?_))));refine di 34 5 hv.sl rfl (hv.lt hk) (df 4 rfl (dL rfl (λ_ hR=>(((hv.ext (r.trans hR)).row hk).at rfl)) ?_));have hj:=r.size;have hy:=z.lt;have hw:M≠[]->(base Y).1<w9.heap.size:=λO=>EM.base_lt hA EK O;obtain⟨q1,q2,q3,q4,q5,q6,q7⟩:=Ni hT EA EA;have xb:∀k,k<w.heap.size->κ k=0:=λk hk=>AL λO=>by have:=hκ k O;omega
       have u4:ID M a.l≠[]->(base xc).1<w9.heap.size:=λO=>EM.base_lt xa EK O;refine cD (O3 κ bs bd bl bo bm vf L D V ts mem dead a.l a.v _ J (yl.ext r) EA (λO=>xb _ (yl.base_lt EK O)) EA (by have:=hT.en;omega) q6) (.inl rfl) λu10 w10 xp yp=>?_;have hsz10:=r.size;have z:=z.mod xp (λe=>e Z);have hA:=hA.mod xp (λhl e=>e (hf hl));have xa:=xa.mod xp (λhl e=>e (zm hl));have r:=r.own xp (λi hi=>(hκ i hi));obtain⟨e,κ1,L1,D1,mem1,dead1,rfl,hb,hr,hW⟩:=yp;have J:=hr;have ht:=Mc hκ hb hj;have hg:κ1 pb=0:=(hb _ hy).trans Z;have hh:M≠[]->κ1 (base Y).1=0:=λO=>(hb _ (hw O)).trans (hf O);have y5:ID M a.l≠[]->κ1 (base xc).1=0:=λO=>(hb _ (u4 O)).trans (zm O);have xt:=hT.write hW;have xz:=hq.write hW;refine dp (G1 rfl rfl) (de uc (wi (λya=>?_) λya=>?_))
       ·have uw:e=0:=by simpa using ya
        rw[if_pos uw]at xt;refine wr (dm (da (EF (?_))));exact⟨(κ1,bm,vf,L1,D1,V,ts,mem1,dead1,xc,ID M a.l,xc),FA,r,z,xt.mono EA (Aa _),xz,ht,hg,y5,J,xa⟩
       rw[if_neg ya]at xt;refine EG ?_;exact⟨(κ1,bm,vf,L1,D1,V,ts,mem1,dead1,Y,M,xc),FA,r,z,xt.mono EA (Aa _),xz,ht,hg,hh,J,hA⟩
      refine ws λ_ vi=>wr (dp (G1 rfl rfl) (da (de vi ?_)));refine wi (λvh=>?_) λvh=>?_
      ·refine wr (dm ?_);refine dz rfl (df 2 rfl (dl rfl (z.at rfl) ?_));have hj:=r.size;have hy:=z.lt;have hw:M≠[]->(base Y).1<w4.heap.size:=λO=>EM.base_lt hA EK O;obtain⟨q1,q2,q3,q4,q5,q6,q7⟩:=Ni hT EA EA;have xb:∀k,k<w.heap.size->κ k=0:=λk hk=>AL λO=>by have:=hκ k O;omega
       refine cD (Ps κ bs bd bl bo bm vf L D V ts mem dead _ J q3 q7 hT.sto.isv (hgv.ext r) (λk hk=>xb k (hgv.lt k hk)) EA) (.inl rfl) λu11 w11 yk zv=>?_;have hsz11:=r.size;have z:=z.mod yk (λe=>e Z);have hA:=hA.mod yk (λhl e=>e (hf hl));have r:=r.own yk (λi hi=>(hκ i hi));obtain⟨u3,e1,κ1,xl,xd,L1,D1,V1,ts1,mem1,dead1,rfl,hb,hr,hF⟩:=zv;have J:=hr;have ht:=Mc hκ hb hj;have hg:κ1 pb=0:=(hb _ hy).trans Z;have hh:M≠[]->κ1 (base Y).1=0:=λO=>(hb _ (hw O)).trans (hf O);refine EF (?_);exact⟨(κ1,xl,xd,L1,D1,V1,ts1,mem1,dead1,Y,M,vq),FA,r,z,(hT.flush hF).mono EA (Dr _),hq.flush hT.sto hF,ht,hg,hh,J,hA⟩
      refine ws λ_ u1=>wr (dp (G1 rfl rfl) (da (de u1 ?_)));refine wi (λue=>?_) λue=>?_
      ·refine wr (dm ?_);refine dz rfl (df 2 rfl (dl rfl (z.at rfl) ?_));have hj:=r.size;have hy:=z.lt;have hw:M≠[]->(base Y).1<w4.heap.size:=λO=>EM.base_lt hA EK O;obtain⟨q1,q2,q3,q4,q5,q6,q7⟩:=Ni hT EA EA;have xb:∀k,k<w.heap.size->κ k=0:=λk hk=>AL λO=>by have:=hκ k O;omega
       refine cD (WQ κ bs bd bl bo bm vf L D V ts mem dead L.last _ J hT.sto EA q2 (hgv.ext r) (λk hk=>xb k (hgv.lt k hk))) (.inl rfl) λu12 w12 yd zt=>?_;have hsz12:=r.size;have z:=z.mod yd (λe=>e Z);have hA:=hA.mod yd (λhl e=>e (hf hl));have r:=r.own yd (λi hi=>(hκ i hi));obtain⟨yt,e1,κ1,xl,xd,L1,D1,V1,ts1,mem1,dead1,rfl,hb,hr,hF⟩:=zt;have J:=hr;have ht:=Mc hκ hb hj;have hg:κ1 pb=0:=(hb _ hy).trans Z;have hh:M≠[]->κ1 (base Y).1=0:=λO=>(hb _ (hw O)).trans (hf O);refine EF (?_);exact⟨(κ1,xl,xd,L1,D1,V1,ts1,mem1,dead1,Y,M,vq),FA,r,z,(hT.comp hF).mono EA (Dr _),hq.comp hT.sto hF,ht,hg,hh,J,hA⟩
      refine EG ?_;exact⟨(κ,bm,vf,L,D,V,ts,mem,dead,Y,M,vq),FA,r,z,hT.mono EA (Dr _),hq,hκ,Z,hf,J,hA⟩
     intro X13 vv w13 zn;obtain⟨κ,bm,vf,L,D,V,ts,mem,dead,Y,M,vq⟩:=vv;clear r z J hA;obtain⟨r,z,hT,hq,hκ,Z,hf,J,hA⟩:=zn;refine ws λ_ vt=>wr (dm ?_);refine dz rfl (df 2 rfl (dl rfl (z.at rfl) ?_));obtain⟨q1,q2,q3,q4,q5,q6,q7⟩:=Ni hT EA EA;have zi:=hT.ml;refine cG (T7 κ bs bd bl bo bm vf L D V ts mem dead [] [] 0 _ J hT.sto.nod hT.sto.okh EA (λc hc=>(q7 c hc).2.2) EA EA) RX.all λvs w14 xr y2=>?_;have hsz14:=r.size;have z:=z.ext xr;have J:=J.ext xr;have hA:=hA.ext xr;have r:=r.trans xr;obtain⟨Lc,m9,yj,_,ye,hz⟩:=y2;rw[hT.scan yj ye]at hz;refine dm ?_;refine cP (T9 M M vs Y _ (hz.arr EE) hA EA EA) RX.all λw15 xk=>?_;have z:=z.ext xk;have J:=J.ext xk;have hA:=hA.ext xk;have hz:=hz.ext xk;have r:=r.trans xk;refine dn (de vt ?_);refine wc (λy7=>?_) λy7=>?_
     ·exact absurd y7 EQ
     refine EG (z7 _ _ (wr (dm ?_)));refine pa rfl rfl (da (EF (?_)));exact⟨(i+1,κ,bm,vf,L,D,V,ts,mem,dead,Y,M,vq),FA,⟨r,z,by omega,by omega,hT,hq,hκ,Z,hf,J,hA⟩,by simp only [];omega⟩
    refine Ff ?_;exact⟨(κ,bm,vf,L,D,V,ts,mem,dead,Y,M,vq),Hj,r,z,hT.mono (by have O:=NU Hv l (show i<=60 by omega);unfold KE at yh;omega) EA,hq,hκ,Z,hf,J,hA⟩
   refine dk (dk (dk (dk (dk (dk (EO (de yg ?_)))))));refine GB rfl (Ff ?_);exact⟨(κ,bm,vf,L,D,V,ts,mem,dead,Y,M,vq),Hj,r,z,hT.mono (by have O:=NU Hv l (show i<=60 by omega);unfold KE at yh;omega) EA,hq,hκ,Z,hf,J,hA⟩
  refine dk (dk (EO ?_));refine dm ?_;refine dk (dk (dk (dk (dk (dk (EO (de yg ?_)))))));refine GB rfl (Ff ?_);exact⟨(κ,bm,vf,L,D,V,ts,mem,dead,Y,M,vq),Hj,r,z,hT.mono (by have O:=NU Hv l (show i<=60 by omega);unfold KE at yh;omega) EA,hq,hκ,Z,hf,J,hA⟩
 intro X16 u6 w16 yv;obtain⟨κ,bm,vf,L,D,V,ts,mem,dead,Y,M,vq⟩:=u6;clear r z J;obtain⟨r,z,hT,hq,hκ,Z,hf,J,hA⟩:=yv;refine ws λ_ vr=>ws λ_ vx=>wr (dm ?_);refine dz rfl (df 2 rfl (dl rfl (z.at rfl) (cP (SO bs bd bl V.next vf bo bm dead _ J.m) RX.all λvw xo=>?_)));have z:=z.ext xo;have J:=J.ext xo;have hA:=hA.ext xo;have r:=r.trans xo;refine dn (de vx ?_);refine wc (λzq=>?_) λzq=>?_
 ·refine ws λ_ z9=>wr (cP (SY _ (hgv.ext r)) RX.all λw18 xq=>?_);have z:=z.ext xq;have J:=J.ext xq;have hA:=hA.ext xq;have r:=r.trans xq;refine da (de z9 (EH ?_));refine ro ?_;exact⟨rfl,r⟩
 have y8:dead=true:=by simpa using zq
 subst y8;refine EG (vr _ _ (ws λ_ ux=>wr (dm ?_)));refine dz rfl (df 2 rfl (dl rfl (z.at rfl) ?_));have hj:=r.size;have hy:=z.lt;have hw:M≠[]->(base Y).1<vw.heap.size:=λO=>EM.base_lt hA EK O;obtain⟨q1,q2,q3,q4,q5,q6,q7⟩:=Ni hT EA EA;have xb:∀k,k<w.heap.size->κ k=0:=λk hk=>AL λO=>by have:=hκ k O;omega
 refine cD (Ps κ bs bd bl bo bm vf L D V ts mem true _ J q3 q7 hT.sto.isv (hgv.ext r) (λk hk=>xb k (hgv.lt k hk)) EA) (.inl rfl) λu19 vj yi zf=>?_;have hsz19:=r.size;have z:=z.mod yi (λe=>e Z);have hA:=hA.mod yi (λhl e=>e (hf hl));have r:=r.own yi (λi hi=>(hκ i hi));obtain⟨u3,e1,κ1,xl,xd,L1,D1,V1,ts1,mem1,dead1,rfl,hb,hr,hF⟩:=zf;have J:=hr;have ht:=Mc hκ hb hj;have hg:κ1 pb=0:=(hb _ hy).trans Z;have hh:M≠[]->κ1 (base Y).1=0:=λO=>(hb _ (hw O)).trans (hf O);obtain⟨xf,xh,xi,xn,xe,yn,yb⟩:=X2c hF;subst xf;rw[xh,xi,xn,xe,yn,yb]at J;refine dm ?_;refine dx rfl rfl (dx rfl rfl (da (da (de ux (ws λ_ vy=>wr (dm ?_))))));refine dz rfl (df 2 rfl (dl rfl (z.at rfl) ?_));have yc:=r.size;have zb:=z.lt;have y1:M≠[]->(base Y).1<vj.heap.size:=λO=>EM.base_lt hA EK O;have yy:∀k,k<w.heap.size->κ1 k=0:=λk hk=>AL λO=>by have:=ht k O;omega
 refine cD (WQ κ1 bs bd bl bo xl xd L D V ts mem true L.last _ J hT.sto EA q2 (hgv.ext r) (λk hk=>yy k (hgv.lt k hk))) (.inl rfl) λu20 w20 ym yq=>?_;have hsz20:=r.size;have z:=z.mod ym (λe=>e hg);have hA:=hA.mod ym (λhl e=>e (hh hl));have r:=r.own ym (λi hi=>(ht i hi));obtain⟨yt,e2,κ2,ui,ud,L2,D2,V2,ts2,mem2,dead2,rfl,xg,hr,z3⟩:=yq;have J:=hr;obtain⟨xf,xh,xi,xn,xe,yn,yb⟩:=X2d z3;subst xf;rw[xh,xi,xn,xe,yn,yb]at J;have y6:=Mc ht xg yc;have zk:κ2 pb=0:=(xg _ zb).trans hg;have xv:M≠[]->κ2 (base Y).1=0:=λO=>(xg _ (y1 O)).trans (hh O);have yx:=J.lt;refine dm ?_;refine dx rfl rfl (dx rfl rfl (da (da (de vy (ws λ_ ub=>ws λ_ uv=>wr (dm ?_))))));refine dp (F8 rfl rfl) (dm ?_);refine Fz 129 rfl (λyz=>?_) (λyz=>?_)
 ·exact absurd rfl yz
 refine dm ?_;refine dp (F8 rfl rfl) (EO ?_);refine dm ?_;refine Fz 133 rfl (λzz=>?_) (λzz=>?_)
 ·exact absurd rfl zz
 refine dm ?_;refine dz rfl (df 2 rfl (dl rfl (z.at rfl) (db (zs:=[S [],S [],B false]) (pl:=[(0,1),(1,1),(2,1)]) (pv:=[(0,_)]) (cs:=[_,S [],B false]) ?_)));refine li (e:=48) (sz:=3) (zs:=[S [],S [],B false]) (pv:=[(0,.agg ⟨[_,_,_]⟩)]) (cs:=[_,_,_]) RX.all (λb2 z1 e2 xu m2=>?_);have g2:=r.ge e2;have a2_hp:=z.lt;have a2_hA:=EM.base_lt hA EK;have a2_hS:=J.lt;have z:=z.ext xu;have hA:=hA.ext xu;have J:=J.ext xu;have r:=r.trans xu;have yf:=r.size;have hpl3:=z.lt;have yu:M≠[]->(base Y).1<z1.heap.size:=λO=>EM.base_lt hA EK O;refine cD (O3 κ2 bs bd bl bo ui ud L D V ts mem true [⟨[97],[],false⟩] (.slice (some ⟨b2,0,none⟩) 1 1) _ J (m2.arr (enc:=Rw.cs) (sz:=3) (l:=[⟨[97],[],false⟩]) rfl EE rfl EQ) EQ (λ_=>AL λO=>by have h8:b2<_:=yx _ O;omega) EA (by have:=hT.en;omega) q6) (.inl rfl) λu22 w22 yo y9=>?_;have hsz22:=r.size;have z:=z.mod yo (λe=>e zk);have hA:=hA.mod yo (λhl e=>e (xv hl));have r:=r.own yo (λi hi=>(y6 i hi));obtain⟨e3,κ3,L3,D3,mem3,dead3,rfl,x3,hr,hW⟩:=y9;have J:=hr;obtain⟨xf,xh,xi,xn,xe⟩:=X2e hW;subst xf;rw[xh,xi,xn,xe]at J;have ze:=Mc y6 x3 yf;have zp:M≠[]->κ3 (base Y).1=0:=λO=>(x3 _ (yu O)).trans (xv O);refine dp (F8 rfl rfl) (EO (de uv ?_));refine wi (λza=>?_) λza=>?_
 ·exact absurd rfl za
 refine EG (ub _ _ (ws λ_ vn=>wr (dm ?_)));refine dz rfl (df 0 rfl (dl rfl (z.at rfl) ?_));obtain⟨F2,u7,xm,_⟩:=J.ld.disk;have zj:∀k,k<w.heap.size->κ3 k=0:=λk hk=>AL λO=>by have:=ze k O;omega
 refine cD (Xt0 F2 bd L D V ts mem _ u7 hq hT.sto EA (by have:=hT.en;omega) (hgv.ext r) (λk hk e=>by have e1:κ3 k=1:=xm _ e;rw[zj k (hgv.lt k hk)]at e1;cases e1)) (.inl rfl) λu23 w23 zy zw=>?_;have hsz23:=r.size;have hA:=hA.mod zy (λhl e=>by have e1:κ3 (base Y).1=1:=xm _ e;rw[zp hl]at e1;cases e1);have r:=r.own zy (λi hi=>(by have e1:κ3 i=1:=xm i hi;exact ze i (by rw[e1];decide)));obtain⟨κ4,ul,z6,vc,uo,uf,D4,y0,rfl,un,y3⟩:=zw;have xj:TI 60000 60 (LO L) V y0 mem M:=hT.same (hT.sto.tabs y3) rfl rfl;refine dm ?_;refine dx rfl rfl (dx rfl rfl (da (da (de vn (ws λ_ ug=>ws λ_ um=>wr (dm ?_))))));refine dp (F8 rfl rfl) (de um (wi (λy4=>?_) λy4=>?_))
 ·exact absurd rfl y4
 refine EG (ug _ _ (ws λ_ uz=>wr (dm ?_)));obtain⟨q1,q2,q3,q4,q5,q6,q7⟩:=Ni xj EA EA;have zi:=xj.ml;refine cG (T7 κ4 ul bd z6 vc uo uf (LO L) D4 V y0 mem false [] [] 0 _ un xj.sto.nod xj.sto.okh EA (λc hc=>(q7 c hc).2.2) EA EA) RX.all λvs w24 yr zo=>?_;have hsz24:=r.size;have hA:=hA.ext yr;have r:=r.trans yr;obtain⟨Lc,m9,yj,_,ye,hz⟩:=zo;rw[xj.scan yj ye]at hz;refine da (de uz (ws λ_ uh=>wr (dm (dm ?_))));refine cP (T9 M M vs Y _ (hz.arr EE) hA EA EA) RX.all λw25 uu=>?_;have r:=r.trans uu;refine dm ?_;refine I8 163 rfl (λzr=>?_) (λzr=>?_)
 ·refine dk (dk (dk (EO ?_)));refine dm ?_;refine cP (SY _ (hgv.ext r)) RX.all λw26 u0=>?_;have r:=r.trans u0;refine EO ?_;refine da (de uh (EH ?_));refine ro ?_;exact⟨rfl,r⟩
 simp at zr
end Go.Proofs.YtiooodckiddpmaaGreatDoor
