/-
 A part of the proof: LgD CgA FlA TrP PiA PiB PiP TrQ SnA DlA CmP BtC VcZ.
-/
import Derived.Test.YtiooodckiddpmaaGreatDoorCkA
import Derived.Test.YtiooodckiddpmaaGreatDoorChecked
import Derived.KernelRfl
import Derived.Test.YtiooodckiddpmaaGreatDoorCkC
import Derived.Test.YtiooodckiddpmaaGreatDoorCkG
import Derived.Test.YtiooodckiddpmaaGreatDoorCkF
import Derived.Test.YtiooodckiddpmaaGreatDoorCkE
import Derived.Test.YtiooodckiddpmaaGreatDoorCkD
import Derived.ProofKit
import Derived.Deep.Slices
import Derived.Lib.SmallJoins
set_option maxRecDepth 100000
set_option maxHeartbeats 4000000
set_option linter.unusedVariables false
set_option linter.unusedSimpArgs false
namespace Go.Proofs.YtiooodckiddpmaaGreatDoor
open Go.Vc Go.Sp
attribute [local irreducible] W XW Dw DwT
def wrR (D:Dsk)(i:Int)(p:Str):Int×Dsk:=if(D.save Led.img (Led.ent i p)).1=0 then(D.save Led.img (Led.ent i p)).2.rems [Led.logn]else D.save Led.img (Led.ent i p)
theorem X5l {L:Led}{D:Dsk}{i:Int}{p:Str}(h:L.dead=true):L.write D i p=(9,L,D):=by unfold Led.write;rw[if_pos h]
theorem X2o {L:Led}{D:Dsk}{i:Int}{p:Str}(h:L.dead=false)(h2:i<L.last∨1099511627776<i):L.write D i p=(1,L,D):=by unfold Led.write;rw[if_neg (by rw[h];decide),if_pos h2]
theorem X5m {L:Led}{D:Dsk}{i:Int}{p:Str}(h:L.dead=false)(h2:¬ (i<L.last∨1099511627776<i))(h3:524288<p.length):L.write D i p=(5,L,D):=by unfold Led.write;rw[if_neg (by rw[h];decide),if_neg h2,if_pos h3]
theorem X8u {L:Led}{D:Dsk}{i:Int}{p:Str}(h:L.dead=false)(h2:¬ (i<L.last∨1099511627776<i))(h3:¬ 524288<p.length)(h4:(wrR D i p).1≠0):L.write D i p=((wrR D i p).1,{ L with dead:=true },(wrR D i p).2):=by unfold Led.write;rw[if_neg (by rw[h];decide),if_neg h2,if_neg h3];exact if_pos h4
theorem X5n {L:Led}{D:Dsk}{i:Int}{p:Str}(h:L.dead=false)(h2:¬ (i<L.last∨1099511627776<i))(h3:¬ 524288<p.length)(h4:¬ (wrR D i p).1≠0):L.write D i p=(0,⟨i,p,[],false⟩,(wrR D i p).2):=by unfold Led.write;rw[if_neg (by rw[h];decide),if_neg h2,if_neg h3];exact if_neg h4
theorem LedE.image {G:Nat->Prop}{bl bd:Nat}{vd ve vp:Value}{vs:List (Value×Str)}{L:Led}{w0 w':World}{i:Int}{p:Str}(h:LedE G bl bd vd ve vs L w0)(hs:w0.heap.size≤w'.heap.size)(hm:Blk w' bl [ptr bd 0,S [115],I i,vp,.slice none 0 0,B false] 147)(ha:Arr encB 1 w' vp p)(hf:p≠[]->w0.heap.size≤(base vp).1)(h0:0≤i)(h1:i≤1099511627776)(hp:p.length≤524288) :
  LedE (Xb6 G w0 w') bl bd vp (.slice none 0 0) [] ⟨i,p,[],false⟩ w':=by
 refine⟨hm,ha,Vc.Own.nil,rfl,(λq hq=>by cases hq),λk hk=>?_,λk hk=>?_,Xbj h.lt hs,h0,h1,hp,(λq hq=>by cases hq),(by simpa [Led.last]using h1)⟩
 ·rcases hk with rfl|hk|hk|⟨q,hq,_⟩
  ·exact .inl (h.inG _ (.inl rfl))
  ·cases hk
  ·obtain⟨hl,rfl⟩:=hk
   exact .inr ⟨hf hl,ha.base_lt dc9 hl⟩
  ·cases hq
 ·rcases hk with hk|⟨q,hq,_⟩
  ·obtain⟨hl,rfl⟩:=hk
   refine⟨λe=>?_,λe=>by cases e⟩
   have h1:=hf hl
   have h2:=h.lt bl (h.inG bl (.inl rfl))
   rw[e]at h1;omega
  ·cases hq
theorem X5o (H:Nat->Prop)(bl bd:Nat)(L:Led)(D:Dsk)(ix:Int)(p:Str)(vp:Value)(w:World)(h:LD H bl bd L D w)(hp:Arr encB 1 w vp p)(hpl:p.length≤1000000)(hpH:p≠[]->¬ H (base vp).1) :
  Calls Tryz.prog 94 [ptr bl 0,I ix,vp].toArray w (Does H w (λu w'=>u=I (L.write D ix p).1∧LD (Xb6 H w w') bl bd (L.write D ix p).2.1 (L.write D ix p).2.2 w')):=by
 refine cw Tryz.func94 ?_
 have hx:=Ext.refl w
 have h00:=h
 obtain⟨F,G,vd,ve,vs,hA,hE,hFG,hFH,hlt⟩:=h
 have hl:=hE.m
 have hla:=hE.la
 have hb0:=hE.b0
 have hl0:0≤L.last:=by unfold Led.last;omega
 have hltG:=hE.lt
 have hblt:=hl.lt
 have hnv:=Xak (capN ix)
 have hbl1:([ix].flatMap numI).length≤10:=by simpa [numI]using hnv
 have helen:=Xf7 ix p
 refine ws λ_ Z1=>wr (da (de Z1 (ws λ_ Z2=>Xab (ws λ_ Z3=>wr (dm ?_)))))
 refine dp (Xa4 kr9 rfl rfl) (da (de Z3 ?_))
 refine wi (λc1=>?_) λc1=>?_
 ·exact absurd c1 sp9
 refine ws λ_ Z4=>wr (dm ?_)
 refine dz rfl (df 5 rfl (dl rfl (hl.at rfl) (da (de Z4 ?_))))
 refine wc (λc2=>?_) λc2=>?_
 ·refine ws λ_ Z5=>wr (da (de Z5 (Xad ?_)))
  refine ro ?_
  rw[X5l c2]
  exact⟨_,rfl,hx.mono (λ_ h _=>h.elim),rfl,h00.grow hx⟩
 refine ws λ_ Z6=>wr (dm (dm ?_))
 refine cP (last_w G bl bd vd ve vs L _ hE) RX.all λw1 x1=>?_
 replace hl:=hl.ext x1
 replace hE:=hE.ext x1
 replace hA:=hA.ext x1
 replace hx:=hx.trans x1
 refine dp (Xaf rfl rfl) (dm ?_)
 refine Xag 22 rfl (λc3=>?_) (λc3=>?_)
 ·refine dk (dk (dk' ?_))
  refine da (de Z6 ?_)
  refine W_t rfl (ws λ_ Z7=>wr (da (de Z7 (Xad ?_))))
  refine ro ?_
  rw[X2o c2 om9]
  exact⟨_,rfl,hx.mono (λ_ h _=>h.elim),rfl,h00.grow hx⟩
 refine dm ?_
 refine dp (Xaw rfl rfl) (dk' ?_)
 refine da (de Z6 ?_)
 refine wi (λc4=>?_) λc4=>?_
 ·refine ws λ_ Z8=>wr (da (de Z8 (Xad ?_)))
  refine ro ?_
  rw[X2o c2 om9]
  exact⟨_,rfl,hx.mono (λ_ h _=>h.elim),rfl,h00.grow hx⟩
 have hnl:¬ (ix<L.last∨1099511627776<ix):=by omega
 refine ws λ_ Z9=>wr (dm ?_)
 refine dv 5 1 hp.sl (dp (Xaw rfl rfl) (da (de Z9 ?_)))
 refine wi (λc5=>?_) λc5=>?_
 ·refine ws λ_ Z10=>wr (da (de Z10 (Xad ?_)))
  refine ro ?_
  rw[X5m c2 hnl om9]
  exact⟨_,rfl,hx.mono (λ_ h _=>h.elim),rfl,h00.grow hx⟩
 have hpl2:¬ 524288<p.length:=by omega
 refine Xaa (Z2 _ _ (ws λ_ Z11=>wr (Xan (cs:=[.slice none 0 0]) rfl kr9 RX.all (λb1 w2 e1 x2 m1=>?_))))
 have g1:=hx.ge e1
 have a1_hl:=hl.lt
 have a1_hE:=hE.lt
 have a1_hA:=hA.lt
 replace hl:=hl.ext x2
 replace hE:=hE.ext x2
 replace hA:=hA.ext x2
 replace hx:=hx.trans x2
 refine de Z11 (ws λ_ Z12=>wr (dm ?_))
 refine li (e:=3) (sz:=1) (zs:=[.int .i64 0]) (pv:=[(0,_)]) (cs:=[_]) RX.all (λb2 w3 e2 x3 m2=>?_)
 have g2:=hx.ge e2
 have n2_1:=m1.ltb e2
 have a2_hl:=hl.lt
 have a2_hE:=hE.lt
 have a2_hA:=hA.lt
 replace hl:=hl.ext x3
 replace hE:=hE.ext x3
 replace hA:=hA.ext x3
 replace m1:=m1.ext x3
 replace hx:=hx.trans x3
 have hWr:Wr w.heap.size b1 (.slice none 0 0) [] w3:=⟨m1,Vc.Own.nil⟩
 refine cD (Xcr w.heap.size b1 (.slice none 0 0) [] [ix] (.slice (some ⟨b2,0,none⟩) 1 1) _ hWr sp9 hx.size (m2.arr (enc:=Vc.encI) (sz:=1) (l:=[ix]) rfl ir9 rfl sp9) sp9 (λk hk _ e=>hk.elim (λh=>by have e2:b2=k:=e;omega) (λh=>by cases h))) (.inl rfl) λu4 w4 x4 hf4=>?_
 have hsz4:=hx.size
 replace hl:=hl.mod x4 (λh=>by have h8:=hWr.ge g1 h;omega)
 replace hE:=hE.mod x4 (λk hk h=>by have h9:=hltG k hk;have h8:=hWr.ge g1 h;omega)
 replace hA:=hA.mod x4 (λk hk h=>by have h9:=hlt k (hFH k (.inl hk));have h8:=hWr.ge g1 h;omega)
 replace hx:=hx.own x4 (λi hi=>hWr.ge g1 hi)
 obtain⟨rfl,v2,hWr,hg2⟩:=hf4
 refine de Z12 (ws λ_ Z13=>wr (dm ?_))
 refine Xd2 (e:=82) (sz:=1) (zs:=[.slice none 0 0]) (pv:=[(0,?a27_0)]) (cs:=[?a27_0]) rfl kr9 ⟨rfl,rfl⟩ kr9 rfl ?h27 ?f27 RX.all (λb3 w5 e3 x5 m3=>?k27)
 case h27=>refine⟨rfl,?_,trivial⟩<;>(conv=>lhs;whnf)
 case f27=>simp [Xcq,Xal,List.replicate,hp.sl.cells]
 have g3:=hx.ge e3
 have a3_hl:=hl.lt
 have a3_hE:=hE.lt
 have a3_hA:=hA.lt
 have a3_hWr:=hWr.lt
 replace hl:=hl.ext x5
 replace hE:=hE.ext x5
 replace hA:=hA.ext x5
 replace hWr:=hWr.ext x5
 replace hx:=hx.trans x5
 refine cD (Xc0 w.heap.size b1 v2 _ [(vp,p)] (.slice (some ⟨b3,0,none⟩) 1 1) _ hWr (by rw[List.nil_append];omega) hx.size (Xc8 m3) (λq h=>by rw[List.mem_singleton.1 h];exact hp.ext hx) (λq h=>by rw[List.mem_singleton.1 h];exact hpl) sp9 (λ_ h=>Nat.lt_irrefl b3 (Nat.lt_of_lt_of_eq (a3_hWr _ h) e3.symm)) (λq h hl h2=>by rw[List.mem_singleton.1 h]at hl h2;have h8:=hp.base_lt dc9 hl;have h7:=hWr.ge g1 h2;exact absurd (Nat.lt_of_lt_of_le h8 h7) (Nat.lt_irrefl _))) (.inl rfl) λu6 w6 x6 hf6=>?_
 have hsz6:=hx.size
 replace hl:=hl.mod x6 (λh=>by have h8:=hWr.ge g1 h;omega)
 replace hE:=hE.mod x6 (λk hk h=>by have h9:=hltG k hk;have h8:=hWr.ge g1 h;omega)
 replace hA:=hA.mod x6 (λk hk h=>by have h9:=hlt k (hFH k (.inl hk));have h8:=hWr.ge g1 h;omega)
 replace hx:=hx.own x6 (λi hi=>hWr.ge g1 hi)
 obtain⟨rfl,v3,hWr,hg3⟩:=hf6
 refine de Z13 ?_
 refine Xdi (G:=(Nat->Prop)×Dsk×Int) (λ(F1,D1,e1)=>[(0,ptr bl 0),(1,I ix),(2,vp),(6,I 0),(8,I e1)]) (λ(F1,D1,e1) w'=>Mod H w w'∧Xax F1 bd D1 w'∧LedE G bl bd vd ve vs L w'∧(∀k,F1 k->F k∨w.heap.size≤k)∧Blk w' bl [ptr bd 0,S [115],I L.base,vd,ve,B L.dead] 147∧D.save Led.img (Led.ent ix p)=(e1,D1)) ?_ ?_
 ·refine Xaq (R:=Ext) Ext.refl (λ_ _ _=>Ext.trans) kr9 [3] [(0,.p,false),(1,.p,false),(2,.p,false),(3,.l,false),(4,.p,false),(5,.x,false),(6,.x,false),(7,.x,false),(8,.x,true),(9,.p,false)] rfl kr9 kr9 (λw7 ew7=>?_)
  have x7:=drewx ew7
  clear ew7
  replace hl:=hl.ext x7
  replace hE:=hE.ext x7
  replace hA:=hA.ext x7
  replace hWr:=hWr.ext x7
  replace hx:=hx.trans x7
  refine dm ?_
  refine dz rfl (df 0 rfl (dL rfl (λ_ hR=>((hl.ext hR).at rfl)) (dm ?_)))
  refine cP (imgName_w G bl bd vd ve vs L _ hE) RX.ext λw8 x8=>?_
  replace hl:=hl.ext x8
  replace hE:=hE.ext x8
  replace hA:=hA.ext x8
  replace hWr:=hWr.ext x8
  replace hx:=hx.trans x8
  refine cG (Xj6 w.heap.size b1 v3 _ _ hWr (by simp only [List.nil_append,List.length_append,List.map_cons,List.map_nil,List.flatMap_cons,List.flatMap_nil,List.append_nil,rowS,numI]at *;have h5:=Xak p.length;omega)) RX.ext λvo w9 x9 hB=>?_
  have hsz9:=hx.size
  replace hl:=hl.ext x9
  replace hE:=hE.ext x9
  replace hA:=hA.ext x9
  replace hx:=hx.trans x9
  rw[show([]++[ix].flatMap numI)++List.flatMap rowS ([(vp,p)].map (λq:Value×Str=>q.2))=Led.ent ix p by rw[List.nil_append];exact X1i om9 om9]at hB
  refine Xd2 (e:=82) (sz:=1) (zs:=[.slice none 0 0]) (pv:=[(0,?a30_0)]) (cs:=[?a30_0]) rfl kr9 ⟨rfl,rfl⟩ kr9 rfl ?h30 ?f30 RX.ext (λb4 w10 e4 x10 m4=>?k30)
  case h30=>refine⟨rfl,?_,trivial⟩<;>(conv=>lhs;whnf)
  case f30=>simp [Xcq,Xal,List.replicate,hB.sl.cells]
  have g4:=hx.ge e4
  have a4_hl:=hl.lt
  have a4_hE:=hE.lt
  have a4_hA:=hA.lt
  have o4_hB:=hB.ltb e4
  replace hl:=hl.ext x10
  replace hE:=hE.ext x10
  replace hA:=hA.ext x10
  replace hB:=hB.ext x10
  replace hx:=hx.trans x10
  refine cD (Xu1 F bd D Led.img (Led.ent ix p) vo _ _ hA (m4.arr (enc:=λx:Value=>[x]) (sz:=1) (l:=[vo]) rfl ir9 rfl sp9) (hB.arr ir9) om9 dc9) (.inl rfl) λu11 w11 x11 hf11=>?_
  have hsz11:=hx.size
  replace hl:=hl.mod x11 (λh=>hFG bl h (hE.inG bl (.inl rfl)))
  replace hE:=hE.mod x11 (λk hk h=>hFG k h hk)
  replace hx:=(hx.mod x11).mono (λi hi _=>(hFH i (.inl hi):H i))
  obtain⟨rfl,hA⟩:=hf11
  have hszA:=hsz11
  refine da (Xae (?_))
  exact⟨(_,_,_),zz5,hx,hA,hE,gro hszA,hl,rfl⟩
 intro X12 g12 w12 hF12
 obtain⟨F1,D1,e1⟩:=g12
 clear hx hl hE hA hWr
 obtain⟨hx,hA,hE,hsub1,hl,hR1⟩:=hF12
 have hs1:=hx.size
 refine Xdi (G:=(Nat->Prop)×Dsk×Int) (λ(F2,D2,e)=>[(0,ptr bl 0),(1,I ix),(2,vp),(6,I 0),(8,I e)]) (λ(F2,D2,e) w'=>Mod H w w'∧Xax F2 bd D2 w'∧LedE G bl bd vd ve vs L w'∧(∀k,F2 k->F k∨w.heap.size≤k)∧Blk w' bl [ptr bd 0,S [115],I L.base,vd,ve,B L.dead] 147∧wrR D ix p=(e,D2)) ?_ ?_
 ·refine ws λ_ Z14=>wr (dm ?_)
  refine dp (Xa9 rfl rfl) (de Z14 (wi (λc6=>?_) λc6=>?_))
  ·refine Xaq (R:=Ext) Ext.refl (λ_ _ _=>Ext.trans) kr9 [3] [(0,.p,false),(1,.p,false),(2,.p,false),(3,.l,false),(4,.p,false),(5,.x,false),(6,.x,false),(7,.x,true),(8,.p,false)] rfl kr9 kr9 (λw13 ew13=>?_)
   have x13:=drewx ew13
   clear ew13
   replace hA:=hA.ext x13
   replace hE:=hE.ext x13
   replace hl:=hl.ext x13
   replace hx:=hx.ext x13
   refine dm ?_
   refine dz rfl (df 0 rfl (dL rfl (λ_ hR=>((hl.ext hR).at rfl)) (dm ?_)))
   refine cP (logName_w G bl bd vd ve vs L _ hE) RX.ext λw14 x14=>?_
   replace hA:=hA.ext x14
   replace hE:=hE.ext x14
   replace hl:=hl.ext x14
   replace hx:=hx.ext x14
   refine li (e:=9) (sz:=1) (zs:=[S []]) (pv:=[(0,_)]) (cs:=[_]) RX.ext (λb5 w15 e5 x15 m5=>?_)
   have g5:=hx.ge e5
   have a5_hA:=hA.lt
   have a5_hE:=hE.lt
   have a5_hl:=hl.lt
   replace hA:=hA.ext x15
   replace hE:=hE.ext x15
   replace hl:=hl.ext x15
   replace hx:=hx.ext x15
   refine cD (removes_w F1 bd D1 [Led.logn] _ _ hA (Xf6 m5) sp9 (λ_ hF=>Nat.lt_irrefl b5 (Nat.lt_of_lt_of_eq (a5_hA _ hF) e5.symm))) (.inl rfl) λu16 w16 x16 hf16=>?_
   have hsz16:=hx.size
   replace hE:=hE.mod x16 (λk hk h=>(hsub1 _ h).elim (λh=>hFG _ h hk) (λh=>by have h9:=hltG _ hk;omega))
   replace hl:=hl.mod x16 (λh=>(hsub1 _ h).elim (λh=>hFG _ h (hE.inG bl (.inl rfl))) (λh=>by have h9:=hltG _ (hE.inG bl (.inl rfl));omega))
   replace hx:=hx.own x16 (λi hi hlt=>hFH i (.inl ((hsub1 i hi).resolve_right om9)))
   obtain⟨rfl,hA⟩:=hf16
   refine da (Xae (?_))
   first|exact⟨(_,_,_),zz5,hx,hA,hE,λk hk=>hk.elim (hsub1 k) (λh9=>.inr om9),hl,by unfold wrR;rw[hR1,if_pos c6]⟩|exact⟨(F1,D1,e1),zz5,hx,hA,hE,hsub1,hl,by unfold wrR;rw[hR1,if_neg c6]⟩
  refine Xaa ?_
  first|exact⟨(_,_,_),zz5,hx,hA,hE,λk hk=>hk.elim (hsub1 k) (λh9=>.inr om9),hl,by unfold wrR;rw[hR1,if_pos c6]⟩|exact⟨(F1,D1,e1),zz5,hx,hA,hE,hsub1,hl,by unfold wrR;rw[hR1,if_neg c6]⟩
 intro X17 g17 w17 hF17
 obtain⟨F2,D2,e⟩:=g17
 clear hx hA hE hl
 obtain⟨hx,hA,hE,hsub,hl,hR⟩:=hF17
 have hsw:=hx.size
 refine ws λ_ Z15=>ws λ_ Z16=>wr (dm (dm ?_))
 refine cD (X1h G bl bd vd ve vs L e _ hE) (.inl rfl) λu18 w18 x18 hf18=>?_
 have hsz18:=hx.size
 replace hA:=hA.mod x18 (λk hk e9=>by have e8:k=bl:=e9;subst e8;exact(hsub _ hk).elim (λh=>hFG _ h (hE.inG _ (.inl rfl))) (λh=>by have h9:=hltG _ (hE.inG _ (.inl rfl));omega))
 replace hx:=hx.own x18 (λi hi hlt=>(by have e2:i=bl:=hi;rw[e2];exact hFH bl (.inr (hE.inG bl (.inl rfl)))))
 obtain⟨rfl,hE⟩:=hf18
 refine dp (Xa9 rfl rfl) (de Z16 (wi (λc7=>?_) λc7=>?_))
 ·have e07:e=0:=c7
  have hLe:{ L with dead:=L.dead || decide (e≠0) } = L:=by rw[c2,e07];cases L;simp at c2 ⊢;exact c2
  rw[hLe]at hE
  have hl:=hE.m
  have hA8:=hA.lt
  have hw24:=hx.size
  refine wr (dm (dm (dm (dm (dm ?_)))))
  refine cG (Xef p vp _ (hp.mod hx hpH) om9) RX.all λvc w19 x19 hC=>?_
  have hsz19:=hx.size
  replace hA:=hA.ext x19
  replace hl:=hl.ext x19
  replace hx:=hx.ext x19
  have hne3:=hC.ne_blk hl rfl
  refine dz rfl (df 2 rfl (st1 hl (λw20 x20 xs20 hl=>?_) (hv:=by first|rfl|exact hC.sl.one|exact isSl.one hA.sl|exact isSl.one hC.sl|exact isSl.one hp.sl)))
  try dsimp only [Xal,List.set,List.take,List.drop]at hl
  replace hA:=hA.mod x20 (λk hk e9=>by have e8:k=bl:=e9;subst e8;exact(hsub _ hk).elim (λh=>hFG _ h (hE.inG _ (.inl rfl))) (λh=>by have h9:=hltG _ (hE.inG _ (.inl rfl));omega))
  replace hC:=hC.mod x20 (λk hk h=>hne3 (by have h2:k=bl:=h;rw[hk,h2]))
  replace hx:=hx.own x20 (λi hi _=>(by have e2:i=bl:=hi;rw[e2];exact hFH bl (.inr (hE.inG bl (.inl rfl)))))
  refine dz rfl (df 3 rfl (st1 hl (λw21 x21 xs21 hl=>?_) (hv:=by first|rfl|exact hC.sl.one|exact isSl.one hA.sl|exact isSl.one hC.sl|exact isSl.one hp.sl)))
  try dsimp only [Xal,List.set,List.take,List.drop]at hl
  replace hA:=hA.mod x21 (λk hk e9=>by have e8:k=bl:=e9;subst e8;exact(hsub _ hk).elim (λh=>hFG _ h (hE.inG _ (.inl rfl))) (λh=>by have h9:=hltG _ (hE.inG _ (.inl rfl));omega))
  replace hC:=hC.mod x21 (λk hk h=>hne3 (by have h2:k=bl:=h;rw[hk,h2]))
  replace hx:=hx.own x21 (λi hi _=>(by have e2:i=bl:=hi;rw[e2];exact hFH bl (.inr (hE.inG bl (.inl rfl)))))
  refine dz rfl (df 4 rfl (st1 hl (λw22 x22 xs22 hl=>?_) (hv:=by first|rfl|exact hC.sl.one|exact isSl.one hA.sl|exact isSl.one hC.sl|exact isSl.one hp.sl)))
  try dsimp only [Xal,List.set,List.take,List.drop]at hl
  replace hA:=hA.mod x22 (λk hk e9=>by have e8:k=bl:=e9;subst e8;exact(hsub _ hk).elim (λh=>hFG _ h (hE.inG _ (.inl rfl))) (λh=>by have h9:=hltG _ (hE.inG _ (.inl rfl));omega))
  replace hC:=hC.mod x22 (λk hk h=>hne3 (by have h2:k=bl:=h;rw[hk,h2]))
  replace hx:=hx.own x22 (λi hi _=>(by have e2:i=bl:=hi;rw[e2];exact hFH bl (.inr (hE.inG bl (.inl rfl)))))
  refine de Z15 (ws λ_ Z17=>wr (dm (da (de Z17 (Xad ?_)))))
  refine ro ?_
  have hs22:=x19.size
  rw[c2]at hl
  have hE9:=hE.image (w':=w22) (i:=ix) (p:=p) om9 hl (hC.arr ir9) (λhn=>(hC.base_ge hn).1) om9 om9 om9
  refine⟨_,rfl,hx,?_⟩
  rw[X5n c2 hnl hpl2 (by rw[hR,e07];simp),hR,e07]
  refine⟨rfl,F2,Xb6 G w18 w22,vc,_,_,hA,hE9,λk hk hg=>?_,λk hk=>hk.elim (λh=>(hsub k h).elim (λh2=>.inl (hFH k (.inl h2))) (λh2=>.inr ⟨h2,hA.lt k h⟩)) (λh=>?_),Xbj hlt hx.size⟩
  ·rcases hg with hg|hg
   ·exact(hsub k hk).elim (λh=>hFG k h hg) (λh=>by have:=hltG k hg;omega)
   ·have:=hA8 k hk;omega
  ·rcases h with h|h
   ·exact .inl (hFH k (.inr h))
   ·exact .inr ⟨Nat.le_trans hw24 h.1,h.2⟩
 refine Xaa (Z15 _ _ (ws λ_ Z18=>wr (dm (da (de Z18 (Xad ?_))))))
 refine ro ?_
 have hLe:{ L with dead:=L.dead || decide (e≠0) } = { L with dead:=true }:=by rw[c2];simp [show¬ e=0 from c7]
 rw[hLe]at hE
 refine⟨_,rfl,hx,?_⟩
 rw[X8u c2 hnl hpl2 (by rw[hR];exact c7),hR]
 exact⟨rfl,F2,G,vd,ve,vs,hA,hE,λk hk hg=>(hsub k hk).elim (λh=>hFG k h hg) (λh=>by have:=hltG k hg;omega),λk hk=>hk.elim (λh=>(hsub k h).elim (λh2=>.inl (hFH k (.inl h2))) (λh2=>.inr ⟨h2,hA.lt k h⟩)) (λh=>.inl (hFH k (.inr h))),Xbj hlt hx.size⟩
def addF (lv next:Int)(ss:List (List Cell)):List Fi:=ss.zipIdx.map λp=>Xeq lv next p.2 p.1
def Xbn (next:Int)(ss:List (List Cell)):List (Int×Str):=ss.zipIdx.map λp=>(next+↑p.2,recS (tblS p.1))
def Xj2 (lv next:Int)(ss:List (List Cell)):List ((Int×Int)×List Cell):=ss.zipIdx.map λp=>((lv,next+↑p.2),p.1)
def MkG (b0 B1:Nat)(lv next:Int)(xs:List Md)(ss:List (List Cell))(w:World):Prop:=MkF b0 lv next xs ss w∧∀x∈xs,(base x.vb).1<B1
section
variable {b0 B1:Nat}{lv next:Int}{xs:List Md}{ss:List (List Cell)}{w w':World}{S:Nat->Prop}
theorem MkG.mod (h:MkG b0 B1 lv next xs ss w)(m:Vc.Mod S w w')(hS:∀k,b0≤k->k<B1->¬ S k):MkG b0 B1 lv next xs ss w':=
 ⟨⟨h.1.1,λj x sg hx hs=>by
  obtain⟨h1,h2,h3,h4,h5⟩:=h.1.2 j x sg hx hs
  exact⟨h1,h2,h3.mod m (λ_=>hS _ h4 (h.2 x (List.mem_of_getElem? hx))),h4,h5⟩⟩,h.2⟩
theorem MkG.ext (h:MkG b0 B1 lv next xs ss w)(m:Ext w w'):MkG b0 B1 lv next xs ss w':=h.mod m (λ_ _ _ h=>h)
theorem MkF.up (h:MkF b0 lv next xs ss w):MkG b0 w.heap.size lv next xs ss w:=⟨h,λx hx=>by
 obtain⟨i,hi⟩:=List.getElem?_of_mem hx
 have hl:=(List.getElem?_eq_some_iff.1 hi).1
 obtain⟨h1,h2,h3,h4,h5⟩:=h.2 i x _ hi (List.getElem?_eq_getElem (by rw[←h.1];exact hl))
 exact h3.base_lt dc9 (λe=>by have:=Xbi (tblS (ss[i]'(by rw[←h.1];exact hl)));rw[e]at this;simp at this)⟩
theorem Xcm {α:Type}(l:List α)(i:Nat):l.zipIdx[i]?=l[i]?.map λx=>(x,i):=by
 rw[List.getElem?_zipIdx];simp
theorem MkF.files (h:MkF b0 lv next xs ss w):xs.map (·.f)=addF lv next ss∧(xs.zip (ss.map λsg=>recS (tblS sg))).map (λq=>(q.1.f.id,q.2))=Xbn next ss∧(xs.zip ss).map (λq=>((q.1.f.lev,q.1.f.id),q.2))=Xj2 lv next ss:=by
 have hat:∀i x,xs[i]?=some x->∃sg,ss[i]?=some sg∧x.f=Xeq lv next i sg:=λi x hi=>by
  have hl:=(List.getElem?_eq_some_iff.1 hi).1
  have hs:ss[i]?=some (ss[i]'(by rw[←h.1];exact hl)):=List.getElem?_eq_getElem _
  exact⟨_,hs,(h.2 i x _ hi hs).1⟩
 have hno:∀i,xs[i]?=none->ss[i]?=none:=λi hi=>by
  rw[List.getElem?_eq_none_iff]at *;rw[←h.1];exact hi
 refine⟨?_,?_,?_⟩
 ·apply List.ext_getElem?
  intro i
  unfold addF
  rw[List.getElem?_map,List.getElem?_map,Xcm]
  cases hi:xs[i]? with
  | none=>rw[hno i hi];rfl
  | some x=>obtain⟨sg,hs,hf⟩:=hat i x hi;rw[hs];simp [hf]
 ·apply List.ext_getElem?
  intro i
  unfold Xbn
  rw[List.getElem?_map,List.getElem?_map,Xcm]
  cases hi:xs[i]? with
  | none=>rw[hno i hi];simp [List.zip,List.getElem?_zipWith,hi]
  | some x=>obtain⟨sg,hs,hf⟩:=hat i x hi;simp [List.zip,List.getElem?_zipWith,hi,hs,hf,Xeq]
 ·apply List.ext_getElem?
  intro i
  unfold Xj2
  rw[List.getElem?_map,List.getElem?_map,Xcm]
  cases hi:xs[i]? with
  | none=>rw[hno i hi];simp [List.zip,List.getElem?_zipWith,hi]
  | some x=>obtain⟨sg,hs,hf⟩:=hat i x hi;simp [List.zip,List.getElem?_zipWith,hi,hs,hf,Xeq]
end
def ChgP (L:Led)(D:Dsk)(V:Vs)(ts:List Tb)(dead:Bool)(l:List Cell)(lv:Int)(gone:List Fi)(e:Int)(L':Led)(D':Dsk)(V':Vs)(ts':List Tb)(dead':Bool):Prop:=
 (e≠0∧L'=L∧D'=D∧V'=V∧ts'=ts∧dead'=dead∧((∃sg∈Xam l,Xbz sg≠0)∨Xh2 V (gone.map (·.id)) (addF lv V.next (Xam l))=false∨∃fs',fs'.Perm (Xcw V.fs (gone.map (·.id))++addF lv V.next (Xam l))∧Up (ltC cmpF) fs'∧(isV ⟨Xcb V.next (addF lv V.next (Xam l)),fs'⟩=false∨262144<(verS ⟨Xcb V.next (addF lv V.next (Xam l)),fs'⟩).length)))∨
 ((∀sg∈Xam l,Xbz sg=0)∧Xh2 V (gone.map (·.id)) (addF lv V.next (Xam l))=true∧∃fs',fs'.Perm (Xcw V.fs (gone.map (·.id))++addF lv V.next (Xam l))∧Up (ltC cmpF) fs'∧isV ⟨Xcb V.next (addF lv V.next (Xam l)),fs'⟩=true∧(verS ⟨Xcb V.next (addF lv V.next (Xam l)),fs'⟩).length≤262144∧
  (((Xbs (Xbn V.next (Xam l)) D).1≠0∧e=(Xbs (Xbn V.next (Xam l)) D).1∧L'=L∧D'=(Xbs (Xbn V.next (Xam l)) D).2∧V'=V∧ts'=ts∧dead'=true)∨
   ((Xbs (Xbn V.next (Xam l)) D).1=0∧L'=(L.write (Xbs (Xbn V.next (Xam l)) D).2 L.last (verS ⟨Xcb V.next (addF lv V.next (Xam l)),fs'⟩)).2.1∧D'=(L.write (Xbs (Xbn V.next (Xam l)) D).2 L.last (verS ⟨Xcb V.next (addF lv V.next (Xam l)),fs'⟩)).2.2∧
    (((L.write (Xbs (Xbn V.next (Xam l)) D).2 L.last (verS ⟨Xcb V.next (addF lv V.next (Xam l)),fs'⟩)).1≠0∧e=(L.write (Xbs (Xbn V.next (Xam l)) D).2 L.last (verS ⟨Xcb V.next (addF lv V.next (Xam l)),fs'⟩)).1∧V'=V∧ts'=ts∧dead'=true)∨
     ((L.write (Xbs (Xbn V.next (Xam l)) D).2 L.last (verS ⟨Xcb V.next (addF lv V.next (Xam l)),fs'⟩)).1=0∧e=0∧V'=⟨Xcb V.next (addF lv V.next (Xam l)),fs'⟩∧dead'=dead∧∃tbs:List Tb,tbs.map (λt=>(t.h,t.cs))=Xj2 lv V.next (Xam l)∧ts'=Xg5 (tbs.foldl insT ts) gone)))))
theorem Xjj {v:Vs}(h:isV v=true):∀f∈v.fs,Xai f.id∧Xai f.lev:=λf hf=>by
 obtain⟨h1,h2,h3,h4,_⟩:=Xbl h
 have h5:=h4 f hf
 simp only [okF,Bool.and_eq_true,decide_eq_true_eq]at h5
 exact⟨⟨by omega,by omega⟩,⟨by omega,by omega⟩⟩
theorem MkF.mono {b b0:Nat}{lv next:Int}{xs:List Md}{ss:List (List Cell)}{w:World}(h:MkF b0 lv next xs ss w)(hb:b≤b0):MkF b lv next xs ss w:=⟨h.1,λj x sg hx hs=>by
 obtain⟨h1,h2,h3,h4,h5⟩:=h.2 j x sg hx hs
 exact⟨h1,h2,h3,Nat.le_trans hb h4,h5⟩⟩
theorem Xsn (l:List Cell):(Xam l).length≤l.length:=by
 rw[←Xpg (Nat.le_refl l.length)];exact(Xfn l _ (Nat.le_refl _)).2
theorem Xz6 {lv next:Int}{ss:List (List Cell)}(hn:0≤next∧next≤1099511627776)(hl:ss.length≤100000):∀f∈addF lv next ss,Xai f.id:=λf hf=>by
 unfold addF at hf
 obtain⟨p,hp,rfl⟩:=List.mem_map.1 hf
 obtain⟨i,hi⟩:=List.getElem?_of_mem hp
 rw[Xcm]at hi
 obtain⟨sg,hs,rfl⟩:=Option.map_eq_some_iff.1 hi
 have:=(List.getElem?_eq_some_iff.1 hs).1
 show Xai (next+↑i)
 unfold Xai;omega
theorem Xwt {sg:List Cell}(h:Xbz sg=0):(recS (tblS sg)).length≤1048588:=by
 have h1:=(Xei h).2.2.2
 unfold encE at h1
 rw[Xbi]
 split at h1
 ·cases h1
 ·omega
theorem MkG.zip {b0 B1:Nat}{lv next:Int}{xs:List Md}{ss:List (List Cell)}{w:World}(h:MkG b0 B1 lv next xs ss w)(hn:0≤next∧next≤1099511627776)(hlv:0≤lv∧lv≤100)(hl:ss.length≤100000):∀q∈xs.zip ss,Arr encB 1 w q.1.vb (recS (tblS q.2))∧Xbz q.2=0∧Xai q.1.f.id∧Xai q.1.f.lev∧(b0≤(base q.1.vb).1∧(base q.1.vb).1<B1)∧q.1.vl.oneCell'=true:=λq hq=>by
 obtain⟨i,hi⟩:=List.getElem?_of_mem hq
 rw[List.getElem?_zip_eq_some]at hi
 obtain⟨h1,h2,h3,h4,h5⟩:=h.1.2 i q.1 q.2 hi.1 hi.2
 have:=(List.getElem?_eq_some_iff.1 hi.2).1
 rw[h1]
 exact⟨h3,h2,by show Xai (next+↑i);unfold Xai;omega,by show Xai lv;unfold Xai;omega,⟨h4,h.2 _ (List.mem_of_getElem? hi.1)⟩,h5⟩
theorem MkG.zip2 {b0 B1:Nat}{lv next:Int}{xs:List Md}{ss:List (List Cell)}{w:World}(h:MkG b0 B1 lv next xs ss w)(hn:0≤next∧next≤1099511627776)(hlv:0≤lv∧lv≤100)(hl:ss.length≤100000):∀q∈xs.zip (ss.map λsg=>recS (tblS sg)),Arr encB 1 w q.1.vb q.2∧q.2.length≤2001000020∧Xai q.1.f.id∧(b0≤(base q.1.vb).1∧(base q.1.vb).1<B1)∧q.1.vl.oneCell'=true:=λq hq=>by
 obtain⟨i,hi⟩:=List.getElem?_of_mem hq
 rw[List.getElem?_zip_eq_some,List.getElem?_map]at hi
 obtain⟨sg,hs,he⟩:=Option.map_eq_some_iff.1 hi.2
 obtain⟨h1,h2,h3,h4,h5,h6⟩:=h.zip hn hlv hl (q.1,sg) (List.mem_of_getElem? (i:=i) (by rw[List.getElem?_zip_eq_some];exact⟨hi.1,hs⟩))
 rw[←he]
 have h9:(recS (tblS sg)).length≤1048588:=Xwt h2
 exact⟨h1,by omega,h3,h5,h6⟩
theorem LD.calls_last {H:Nat->Prop}{bl bd:Nat}{L:Led}{D:Dsk}{w:World}(h:LD H bl bd L D w):Calls Tryz.prog 55 [ptr bl 0].toArray w (Pure w (I L.last)):=by
 obtain⟨F,G,vd,ve,vs,h1,h2,_⟩:=h
 exact last_w G bl bd vd ve vs L w h2
theorem Xnp (κ:Nat->Nat)(bs bd bl bo bm:Nat)(vf:Value)(L:Led)(D:Dsk)(V:Vs)(ts:List Tb)(mem:List Cell)(dead:Bool)(l:List Cell)(vc:Value)(lv:Int)(gone:List Fi)(vg:Value)(w:World)(h:StE κ bs bd bl bo bm vf L D V ts mem dead w)(hc:Arr Cell.cs 4 w vc l)(hll:l.length≤30000)(hc9:∀c∈l,c.key.length≤4096∧c.val.length≤16384)(hlv:0≤lv∧lv≤100)(hg:Arr Fi.cs 5 w vg gone)(hgl:gone.length≤30000)(hgk:gone≠[]->κ (base vg).1=0)(hgi:∀f∈gone,Xai f.id∧Xai f.lev)(hV:isV V=true)(hgv:GV w)(hgvs:∀k,gvS k->κ k=0)(htl:ts.length≤900000)(hck:l≠[]->κ (base vc).1=0) :
  Calls Tryz.prog 44 [ptr bs 0,vc,I lv,vg].toArray w (Does (λk=>κ k≠0) w (λu w'=>∃e κ' vf' L' D' V' ts' dead',u=I e∧(∀k,k<w.heap.size->κ' k=κ k)∧StE κ' bs bd bl bo bm vf' L' D' V' ts' mem dead' w'∧ChgP L D V ts dead l lv gone e L' D' V' ts' dead')):=by
 refine cw Tryz.func44 ?_
 have hx:=Vc.Mod.refl (λk=>κ k≠0) w
 have hS:=h
 obtain⟨hn1,hn2,hvl,hvo,_⟩:=Xbl hV
 have hids:=Xjj hV
 have hsgl:=Xsn l
 have hκ0:∀k,w.heap.size≤k->κ k=0:=λk hk=>Decidable.byContradiction λh9=>by have:=h.lt k h9;omega
 have hwid:∀k,w.heap.size≤k->¬ oneB bs k:=λk hk e=>by have e2:k=bs:=e;have h1:=hκ0 k hk;rw[e2,h.k0]at h1;cases h1
 refine ws λ_ Z1=>wr (da (de Z1 (ws λ_ Z2=>wr (dm (dm (dm ?_))))))
 refine dz rfl (df 2 rfl (df 0 rfl (dl rfl (hS.m.at rfl) (cG (X5i l vc lv V.next _ (hc.mod hx (λhl e=>e (hck hl))) hll hc9 hlv om9) RX.all λu1 w1 x1 hf1=>?_))))
 have hsz1:=hx.size
 replace hS:=hS.ext x1
 replace hx:=hx.ext x1
 obtain⟨va,e1,hu,hmk⟩:∃va e1,u1=.tuple #[va,I e1]∧((e1≠0∧∃sg∈Xam l,Xbz sg≠0)∨(e1=0∧∃xs,Vc.Own Md.cs 7 161 w.heap.size w1 va xs∧MkF w.heap.size lv V.next xs (Xam l) w1)):=by
  rcases hf1 with⟨sg,h1,h2,h3⟩|⟨va,xs,h1,h2,h3⟩
  ·exact⟨_,_,h3,.inl ⟨h2,sg,h1,h2⟩⟩
  ·exact⟨_,_,h1,.inr ⟨rfl,xs,h2.mono hsz1,h3.mono hsz1⟩⟩
 subst hu
 refine dm ?_
 refine dx rfl rfl (dx rfl rfl (da (da (de Z2 (ws λ_ Z3=>ws λ_ Z4=>wr (dm ?_))))))
 refine dp (Xas rfl rfl) (de Z4 (wi (λc1=>?_) λc1=>?_))
 ·refine ws λ_ Z5=>wr (dm (da (de Z5 (Xad ?_))))
  refine ro ?_
  rcases hmk with⟨_,h9⟩|⟨h9,_⟩
  ·exact⟨_,rfl,hx,e1,κ,vf,L,D,V,ts,dead,rfl,λ_ _=>rfl,hS,.inl ⟨c1,rfl,rfl,rfl,rfl,rfl,.inl h9⟩⟩
  ·exact absurd h9 c1
 rcases hmk with⟨h9,_⟩|⟨h9,xs,hoM,hMF⟩
 ·exact absurd h9 c1
 obtain⟨hAl,hFi,hTa⟩:=hMF.files
 have hAll:∀sg∈Xam l,Xbz sg=0:=λsg hs=>by
  obtain⟨i,hi⟩:=List.getElem?_of_mem hs
  have hl9:=(List.getElem?_eq_some_iff.1 hi).1
  exact(hMF.2 i _ sg (List.getElem?_eq_getElem (by rw[hMF.1];exact hl9)) hi).2.1
 have hxl:=hMF.1
 obtain⟨B1,hB1,hSz,hG⟩:∃B1,w.heap.size≤B1∧Sz B1 _∧MkG w.heap.size B1 lv V.next xs (Xam l) _:=⟨_,hx.size,⟨Nat.le_refl _⟩,hMF.up⟩
 refine Xaa (Z3 _ _ (ws λ_ Z6=>wr (da (de Z6 (ws λ_ Z7=>ws λ_ Z8=>wr (dm ?_))))))
 refine dv 62 5 (hg.mod hx (λhl e=>e (hgk hl))).sl (dm (de Z8 (Xab ?_)))
 refine Xaj (G:=Nat×Value) (λ(k,vi)=>[(0,ptr bs 0),(3,vg),(8,I 0),(9,va),(10,I e1),(11,vi),(36,vg),(37,I ↑gone.length),(38,I ↑k)]) (λ(k,vi) w'=>Mod (λk=>κ k≠0) w w'∧StE κ bs bd bl bo bm vf L D V ts mem dead w'∧Vc.Own Md.cs 7 161 w.heap.size w' va xs∧MkG w.heap.size B1 lv V.next xs (Xam l) w'∧Sz B1 w'∧k≤gone.length∧Vc.Own Vc.encI 1 3 B1 w' vi ((gone.take k).map (·.id))) (λ(k,vi)=>gone.length-k) (0,.slice none 0 0) ?_ ?_ ?_
 ·exact zz9
 ·exact⟨hx,hS,hoM,hG,hSz,Nat.zero_le _,Vc.Own.nil⟩
 intro X2 g2 w2 hF2
 obtain⟨k,vi⟩:=g2
 clear hx hS hoM hG hSz
 obtain⟨hx,hS,hoM,hG,hSz,hk1,ho1⟩:=hF2
 refine ws λ_ Z9=>wr (dp (Xaf rfl rfl) (de Z9 (ws λ_ Z10=>wi (λc2=>?_) λc2=>?_)))
 ·obtain⟨f,hk⟩:∃f,gone[k]?=some f:=gtE
  refine Xaa (Z10 _ _ (ws λ_ Z11=>Xab (ws λ_ Z12=>wr (di 62 5 hg.sl rfl (hg.lt hk) (dq (Xac kr9 rfl rfl ((hg.mod hx (λhl e=>e (hgk hl))).row hk)) (Xan (cs:=[.int .i64 0,.int .i64 0,.int .i64 0,S [],S []]) rfl kr9 RX.all (λb1 w3 e1 x3 m1=>?_)))))))
  have g1:=hx.ge e1
  have a1_hS:=hS.lt
  have o1_hoM:=hoM.ltb e1
  have a1_hSz:=hSz.le
  have o1_ho1:=ho1.ltb e1
  replace hS:=hS.ext x3
  replace hoM:=hoM.ext x3
  replace hG:=hG.ext x3
  replace hSz:=hSz.ext x3
  replace ho1:=ho1.ext x3
  replace hx:=hx.ext x3
  refine stA m1 (λw4 x4 xs4 m1=>?_)
  try dsimp only [Xal,List.set,List.take,List.drop]at m1
  replace hS:=hS.mod x4 (λk9 h9 e9=>by have h2:k9=b1:=e9;have h8:=h.lt;have h7:=hκ0 k9 om9;exact h9 h7)
  try replace hoM:=hoM.mod x4 (by first|assumption|(intro k hk h;have h1:=(hoM.lt k hk).1;have h2:k=b1:=h;omega)|(intro k hk h;have h1:=o1_hoM k hk;have h2:k=b1:=h;omega)|(intro h;have h2:_=b1:=h;omega)|(intro hl h;have h1:=a1_hoM hl;have h2:_=b1:=h;omega))
  replace hG:=hG.mod x4 (λk9 _ h9 e9=>by have h2:k9=b1:=e9;first|(have h8:=a1_hSz;omega)|(have h8:=a3_hSz;omega)|(have h8:=a5_hSz;omega))
  replace hSz:=hSz.mod x4 trivial
  try replace ho1:=ho1.mod x4 (by first|assumption|(intro k hk h;have h1:=(ho1.lt k hk).1;have h2:k=b1:=h;omega)|(intro k hk h;have h1:=o1_ho1 k hk;have h2:k=b1:=h;omega)|(intro h;have h2:_=b1:=h;omega)|(intro hl h;have h1:=a1_ho1 hl;have h2:_=b1:=h;omega))
  replace hx:=hx.o1 x4
  refine de Z12 (wr (dm ?_))
  refine df 0 rfl (dl rfl (m1.at rfl) (li (e:=3) (sz:=1) (zs:=[.int .i64 0]) (pv:=[(0,_)]) (cs:=[_]) RX.all (λb2 w5 e2 x5 m2=>?_)))
  have g2:=hx.ge e2
  have a2_hS:=hS.lt
  have o2_hoM:=hoM.ltb e2
  have a2_hSz:=hSz.le
  have o2_ho1:=ho1.ltb e2
  replace hS:=hS.ext x5
  replace hoM:=hoM.ext x5
  replace hG:=hG.ext x5
  replace hSz:=hSz.ext x5
  replace ho1:=ho1.ext x5
  replace hx:=hx.ext x5
  refine Xa6 (lx:=[f.id]) (e:=3) (sz:=1) (by':=8) rfl kr9 kr9 ir9 ho1 (m2.arr (enc:=Vc.encI) (sz:=1) (l:=[f.id]) rfl ir9 rfl (Nat.le_of_ble_eq_true rfl)) rfl rfl (by intro x hx9 u hu;rw[List.mem_singleton.1 hx9]at hu;simp at hu;rw[hu];rfl) (by simp;omega) dc9 hSz.le (.inl rfl) (λvp1 w6 ho1_n x6=>?_)
  try replace hS:=hS.mod x6 (by first|exact(λk _ h2 e=>absurd (ho1.lt k e).1 (Nat.not_le.2 h2))|exact(λk hk=>hoM.ne ho1 rfl hk)|exact(λk hk e=>hk (hκ0 k (Nat.le_trans hB1 (ho1.lt k e).1)))|trivial)
  try replace hoM:=hoM.mod x6 (by first|exact(λk _ h2 e=>absurd (ho1.lt k e).1 (Nat.not_le.2 h2))|exact(λk hk=>hoM.ne ho1 rfl hk)|exact(λk hk e=>hk (hκ0 k (Nat.le_trans hB1 (ho1.lt k e).1)))|trivial)
  try replace hG:=hG.mod x6 (by first|exact(λk _ h2 e=>absurd (ho1.lt k e).1 (Nat.not_le.2 h2))|exact(λk hk=>hoM.ne ho1 rfl hk)|exact(λk hk e=>hk (hκ0 k (Nat.le_trans hB1 (ho1.lt k e).1)))|trivial)
  try replace hSz:=hSz.mod x6 (by first|exact(λk _ h2 e=>absurd (ho1.lt k e).1 (Nat.not_le.2 h2))|exact(λk hk=>hoM.ne ho1 rfl hk)|exact(λk hk e=>hk (hκ0 k (Nat.le_trans hB1 (ho1.lt k e).1)))|trivial)
  replace hx:=hx.own x6 (λi hi hlt=>(by have:=(ho1.lt i hi).1;omega))
  replace ho1:=ho1_n
  clear m2
  refine da (de Z11 (wr ?_))
  refine pa rfl rfl (dm (Xae (?_)))
  rw[show(gone.take k).map (·.id)++[f.id]=(gone.take (k+1)).map (·.id) by rw[Xa0 hk,List.map_append];rfl]at ho1
  exact⟨(k+1,vp1),zz9,⟨hx,hS,hoM,hG,hSz,by omega,ho1⟩,by simp only [];omega⟩
 rw[List.take_of_length_le om9]at ho1
 refine Xah (Z7 _ _ (ws λ_ Z13=>wr (da (de Z13 (ws λ_ Z14=>ws λ_ Z15=>wr (dm ?_))))))
 refine dv 161 7 (hoM.arr ir9).sl (dm (de Z15 (Xab ?_)))
 refine Xaj (G:=Nat×Value) (λ(k,vad)=>[(0,ptr bs 0),(3,vg),(8,I 0),(9,va),(10,I e1),(11,vi),(14,vad),(48,va),(49,I ↑xs.length),(50,I ↑k)]) (λ(k,vad) w'=>Mod (λk=>κ k≠0) w w'∧StE κ bs bd bl bo bm vf L D V ts mem dead w'∧Vc.Own Md.cs 7 161 w.heap.size w' va xs∧MkG w.heap.size B1 lv V.next xs (Xam l) w'∧Sz B1 w'∧Vc.Own Vc.encI 1 3 B1 w' vi (gone.map (·.id))∧k≤xs.length∧Vc.Own Fi.cs 5 62 B1 w' vad ((xs.take k).map (·.f))) (λ(k,vad)=>xs.length-k) (0,.slice none 0 0) ?_ ?_ ?_
 ·exact zz10
 ·exact⟨hx,hS,hoM,hG,hSz,ho1,Nat.zero_le _,Vc.Own.nil⟩
 intro X7 g7 w7 hF7
 obtain⟨k,vad⟩:=g7
 clear hx hS hoM hG hSz ho1
 obtain⟨hx,hS,hoM,hG,hSz,ho1,hk1,ho2⟩:=hF7
 refine ws λ_ Z16=>wr (dp (Xaf rfl rfl) (de Z16 (ws λ_ Z17=>wi (λc3=>?_) λc3=>?_)))
 ·obtain⟨x,hk⟩:∃x,xs[k]?=some x:=gtE
  obtain⟨sg,hsg⟩:∃sg,(Xam l)[k]?=some sg:=gtE
  obtain⟨_,_,hqa,_,hqo⟩:=hG.1.2 k x sg hk hsg
  refine Xaa (Z17 _ _ (ws λ_ Z18=>Xab (ws λ_ Z19=>wr (di 161 7 (hoM.arr ir9).sl rfl ((hoM.arr ir9).lt hk) (dq (Xac kr9 rfl rfl ((hoM.arr ir9).row hk)) (Xan (cs:=[.int .i64 0,.int .i64 0,.int .i64 0,S [],S [],.slice none 0 0,.slice none 0 0]) rfl kr9 RX.all (λb3 w8 e3 x8 m3=>?_)))))))
  have g3:=hx.ge e3
  have a3_hS:=hS.lt
  have o3_hoM:=hoM.ltb e3
  have a3_hSz:=hSz.le
  have o3_ho1:=ho1.ltb e3
  have o3_ho2:=ho2.ltb e3
  replace hS:=hS.ext x8
  replace hoM:=hoM.ext x8
  replace hG:=hG.ext x8
  replace hSz:=hSz.ext x8
  replace ho1:=ho1.ext x8
  replace ho2:=ho2.ext x8
  replace hx:=hx.ext x8
  refine stA m3 (λw9 x9 xs9 m3=>?_) (h1:=by(intro u hu;simp only [List.mem_cons,List.not_mem_nil,or_false]at hu;rcases hu with e|e|e|e|e|e|e<;>subst e<;>first|rfl|exact hqo|exact hqa.sl.one))
  try dsimp only [Xal,List.set,List.take,List.drop]at m3
  replace hS:=hS.mod x9 (λk9 h9 e9=>by have h2:k9=b3:=e9;have h8:=h.lt;have h7:=hκ0 k9 om9;exact h9 h7)
  try replace hoM:=hoM.mod x9 (by first|assumption|(intro k hk h;have h1:=(hoM.lt k hk).1;have h2:k=b3:=h;omega)|(intro k hk h;have h1:=o3_hoM k hk;have h2:k=b3:=h;omega)|(intro h;have h2:_=b3:=h;omega)|(intro hl h;have h1:=a3_hoM hl;have h2:_=b3:=h;omega))
  replace hG:=hG.mod x9 (λk9 _ h9 e9=>by have h2:k9=b3:=e9;first|(have h8:=a1_hSz;omega)|(have h8:=a3_hSz;omega)|(have h8:=a5_hSz;omega))
  replace hSz:=hSz.mod x9 trivial
  try replace ho1:=ho1.mod x9 (by first|assumption|(intro k hk h;have h1:=(ho1.lt k hk).1;have h2:k=b3:=h;omega)|(intro k hk h;have h1:=o3_ho1 k hk;have h2:k=b3:=h;omega)|(intro h;have h2:_=b3:=h;omega)|(intro hl h;have h1:=a3_ho1 hl;have h2:_=b3:=h;omega))
  try replace ho2:=ho2.mod x9 (by first|assumption|(intro k hk h;have h1:=(ho2.lt k hk).1;have h2:k=b3:=h;omega)|(intro k hk h;have h1:=o3_ho2 k hk;have h2:k=b3:=h;omega)|(intro h;have h2:_=b3:=h;omega)|(intro hl h;have h1:=a3_ho2 hl;have h2:_=b3:=h;omega))
  replace hx:=hx.o1 x9
  refine de Z19 (wr (dm ?_))
  refine df 0 rfl (dq (LV.to (v':=x.f.v) (Xac kr9 rfl rfl (m3.part 0 5)) rfl) (li (e:=62) (sz:=5) (zs:=[.int .i64 0,.int .i64 0,.int .i64 0,S [],S []]) (pv:=[(0,.agg ⟨[_,_,_,_,_]⟩)]) (cs:=[_,_,_,_,_]) RX.all (λb4 w10 e4 x10 m4=>?_)))
  have g4:=hx.ge e4
  have a4_hS:=hS.lt
  have o4_hoM:=hoM.ltb e4
  have a4_hSz:=hSz.le
  have o4_ho1:=ho1.ltb e4
  have o4_ho2:=ho2.ltb e4
  replace hS:=hS.ext x10
  replace hoM:=hoM.ext x10
  replace hG:=hG.ext x10
  replace hSz:=hSz.ext x10
  replace ho1:=ho1.ext x10
  replace ho2:=ho2.ext x10
  replace hx:=hx.ext x10
  refine Xa6 (lx:=[x.f]) (e:=62) (sz:=5) (by':=56) rfl kr9 kr9 ir9 ho2 (m4.arr (enc:=Fi.cs) (sz:=5) (l:=[x.f]) rfl ir9 rfl (Nat.le_of_ble_eq_true rfl)) rfl rfl (by intro x _ u hu;simp at hu;rcases hu with rfl|rfl|rfl|rfl|rfl<;>rfl) (by simp;omega) dc9 hSz.le (.inl rfl) (λvp2 w11 ho2_n x11=>?_)
  try replace hS:=hS.mod x11 (by first|exact(λk _ h2 e=>absurd (ho2.lt k e).1 (Nat.not_le.2 h2))|exact(λk hk=>hoM.ne ho2 rfl hk)|exact(λk hk=>ho1.ne ho2 rfl hk)|exact(λk hk e=>hk (hκ0 k (Nat.le_trans hB1 (ho2.lt k e).1)))|trivial)
  try replace hoM:=hoM.mod x11 (by first|exact(λk _ h2 e=>absurd (ho2.lt k e).1 (Nat.not_le.2 h2))|exact(λk hk=>hoM.ne ho2 rfl hk)|exact(λk hk=>ho1.ne ho2 rfl hk)|exact(λk hk e=>hk (hκ0 k (Nat.le_trans hB1 (ho2.lt k e).1)))|trivial)
  try replace hG:=hG.mod x11 (by first|exact(λk _ h2 e=>absurd (ho2.lt k e).1 (Nat.not_le.2 h2))|exact(λk hk=>hoM.ne ho2 rfl hk)|exact(λk hk=>ho1.ne ho2 rfl hk)|exact(λk hk e=>hk (hκ0 k (Nat.le_trans hB1 (ho2.lt k e).1)))|trivial)
  try replace hSz:=hSz.mod x11 (by first|exact(λk _ h2 e=>absurd (ho2.lt k e).1 (Nat.not_le.2 h2))|exact(λk hk=>hoM.ne ho2 rfl hk)|exact(λk hk=>ho1.ne ho2 rfl hk)|exact(λk hk e=>hk (hκ0 k (Nat.le_trans hB1 (ho2.lt k e).1)))|trivial)
  try replace ho1:=ho1.mod x11 (by first|exact(λk _ h2 e=>absurd (ho2.lt k e).1 (Nat.not_le.2 h2))|exact(λk hk=>hoM.ne ho2 rfl hk)|exact(λk hk=>ho1.ne ho2 rfl hk)|exact(λk hk e=>hk (hκ0 k (Nat.le_trans hB1 (ho2.lt k e).1)))|trivial)
  replace hx:=hx.own x11 (λi hi hlt=>(by have:=(ho2.lt i hi).1;omega))
  replace ho2:=ho2_n
  clear m4
  refine da (de Z18 (wr ?_))
  refine pa rfl rfl (dm (Xae (?_)))
  rw[show(xs.take k).map (·.f)++[x.f]=(xs.take (k+1)).map (·.f) by rw[Xa0 hk,List.map_append];rfl]at ho2
  exact⟨(k+1,vp2),zz10,⟨hx,hS,hoM,hG,hSz,ho1,by omega,ho2⟩,by simp only [];omega⟩
 rw[List.take_of_length_le om9]at ho2
 refine Xah (Z14 _ _ (ws λ_ Z20=>wr (dm ?_)))
 refine dz rfl (df 2 rfl (dq (Xac kr9 rfl rfl (hS.m.part 2 2)) (dm (dm ?_))))
 refine cG (Xz3 V.next V.fs vf (gone.map (·.id)) vi (xs.map (·.f)) vad _ hS.vs om9 (λf hf=>(hids f hf).1) (ho1.arr ir9) (by rw[List.length_map];omega) (ho2.arr ir9) (by rw[List.length_map];omega) (by rw[hAl];exact Xz6 om9 om9)) RX.all λu12 w12 x12 hf12=>?_
 have hsz12:=hx.size
 replace hS:=hS.ext x12
 replace hoM:=hoM.ext x12
 replace hG:=hG.ext x12
 replace hSz:=hSz.ext x12
 replace hx:=hx.ext x12
 rw[hAl]at hf12
 obtain⟨n2,vx,e2,fs2,hu,hoV,hch⟩:∃n2 vx e2 fs2,u12=.tuple #[.agg ⟨[I n2,vx]⟩,I e2]∧Vc.Own Fi.cs 5 62 w.heap.size w12 vx fs2∧((e2≠0∧(Xh2 V (gone.map (·.id)) (addF lv V.next (Xam l))=false∨∃fs',fs'.Perm (Xcw V.fs (gone.map (·.id))++(addF lv V.next (Xam l)))∧Up (ltC cmpF) fs'∧isV ⟨Xcb V.next (addF lv V.next (Xam l)),fs'⟩=false))∨(e2=0∧Xh2 V (gone.map (·.id)) (addF lv V.next (Xam l))=true∧fs2.Perm (Xcw V.fs (gone.map (·.id))++(addF lv V.next (Xam l)))∧Up (ltC cmpF) fs2∧isV ⟨Xcb V.next (addF lv V.next (Xam l)),fs2⟩=true∧n2=Xcb V.next (addF lv V.next (Xam l)))):=by
  rcases hf12 with⟨h1,h2⟩|⟨h1,fs',h2,h3,⟨h4,h5⟩|⟨h4,vx,h5,h6⟩⟩
  ·exact⟨_,_,_,[],h2,Vc.Own.nil,.inl ⟨by decide,.inl h1⟩⟩
  ·exact⟨_,_,_,[],h5,Vc.Own.nil,.inl ⟨by decide,.inr ⟨fs',h2,h3,h4⟩⟩⟩
  ·exact⟨_,_,_,fs',h5,h6.mono hsz12,.inr ⟨rfl,h1,h2,h3,h4,rfl⟩⟩
 subst hu
 refine dm ?_
 refine dx rfl rfl (dx rfl rfl (Xan (cs:=[.int .i64 0,.slice none 0 0]) rfl kr9 RX.all (λb5 w13 e5 x13 m5=>?_)))
 have g5:=hx.ge e5
 have a5_hS:=hS.lt
 have o5_hoM:=hoM.ltb e5
 have a5_hSz:=hSz.le
 have o5_hoV:=hoV.ltb e5
 replace hS:=hS.ext x13
 replace hoM:=hoM.ext x13
 replace hG:=hG.ext x13
 replace hSz:=hSz.ext x13
 replace hoV:=hoV.ext x13
 replace hx:=hx.ext x13
 refine stA m5 (λw14 x14 xs14 m5=>?_) (h1:=by(intro u hu;rcases List.mem_cons.1 hu with e|hu;subst e;rfl;rw[List.mem_singleton.1 hu];exact hoV.sl.one))
 try dsimp only [Xal,List.set,List.take,List.drop]at m5
 replace hS:=hS.mod x14 (λk9 h9 e9=>by have h2:k9=b5:=e9;have h8:=h.lt;have h7:=hκ0 k9 om9;exact h9 h7)
 try replace hoM:=hoM.mod x14 (by first|assumption|(intro k hk h;have h1:=(hoM.lt k hk).1;have h2:k=b5:=h;omega)|(intro k hk h;have h1:=o5_hoM k hk;have h2:k=b5:=h;omega)|(intro h;have h2:_=b5:=h;omega)|(intro hl h;have h1:=a5_hoM hl;have h2:_=b5:=h;omega))
 replace hG:=hG.mod x14 (λk9 _ h9 e9=>by have h2:k9=b5:=e9;first|(have h8:=a1_hSz;omega)|(have h8:=a3_hSz;omega)|(have h8:=a5_hSz;omega))
 replace hSz:=hSz.mod x14 trivial
 try replace hoV:=hoV.mod x14 (by first|assumption|(intro k hk h;have h1:=(hoV.lt k hk).1;have h2:k=b5:=h;omega)|(intro k hk h;have h1:=o5_hoV k hk;have h2:k=b5:=h;omega)|(intro h;have h2:_=b5:=h;omega)|(intro hl h;have h1:=a5_hoV hl;have h2:_=b5:=h;omega))
 replace hx:=hx.o1 x14
 refine da (de Z20 (ws λ_ Z21=>ws λ_ Z22=>wr (dm ?_)))
 refine dp (Xas rfl rfl) (de Z22 (wi (λc4=>?_) λc4=>?_))
 ·refine ws λ_ Z23=>wr (da (de Z23 (Xad ?_)))
  refine ro ?_
  rcases hch with⟨_,h9|⟨fs3,p1,p2,p3⟩⟩|⟨h9,_⟩
  ·exact⟨_,rfl,hx,5,κ,vf,L,D,V,ts,dead,rfl,λ_ _=>rfl,hS,.inl ⟨by decide,rfl,rfl,rfl,rfl,rfl,.inr (.inl h9)⟩⟩
  ·exact⟨_,rfl,hx,5,κ,vf,L,D,V,ts,dead,rfl,λ_ _=>rfl,hS,.inl ⟨by decide,rfl,rfl,rfl,rfl,rfl,.inr (.inr ⟨fs3,p1,p2,.inl p3⟩)⟩⟩
  ·exact absurd h9 c4
 rcases hch with⟨h9,_⟩|⟨h9,hck1,hcp,hcu,hV2,hn9⟩
 ·exact absurd h9 c4
 subst hn9
 have hids2:=Xjj hV2
 obtain⟨_,_,hvl2,_⟩:=Xbl hV2
 refine Xaa (Z21 _ _ (ws λ_ Z24=>wr (dq (Xac (k:=2) kr9 rfl rfl m5.row) (cG (Xzn (Xcb V.next (addF lv V.next (Xam l))) fs2 vx _ (hoV.arr ir9) (by have:fs2.length≤1024:=hvl2;omega) (λf hf=>(hids2 f hf).1)) RX.all λu15 w15 x15 hf15=>?_))))
 have hsz15:=hx.size
 replace hS:=hS.ext x15
 replace hoM:=hoM.ext x15
 replace hG:=hG.ext x15
 replace hSz:=hSz.ext x15
 replace hoV:=hoV.ext x15
 replace m5:=m5.ext x15
 replace hx:=hx.ext x15
 obtain⟨vp,rfl,hoP0⟩:=hf15
 rw[if_pos hV2]at hoP0
 have hoP:=hoP0.mono hsz15
 refine dm ?_
 refine dx rfl rfl (dx rfl rfl (da (da (de Z24 (ws λ_ Z25=>ws λ_ Z26=>wr (dm ?_))))))
 refine dv 5 1 (hoP.arr ir9).sl (dp (Xaw rfl rfl) (de Z26 (wi (λc5=>?_) λc5=>?_)))
 ·refine ws λ_ Z27=>wr (da (de Z27 (Xad ?_)))
  refine ro ?_
  exact⟨_,rfl,hx,5,κ,vf,L,D,V,ts,dead,rfl,λ_ _=>rfl,hS,.inl ⟨by decide,rfl,rfl,rfl,rfl,rfl,.inr (.inr ⟨fs2,hcp,hcu,.inr om9⟩)⟩⟩
 refine Xaa (Z25 _ _ (ws λ_ Z28=>ws λ_ Z29=>wr (dm (dm ?_))))
 obtain⟨NK,hNK⟩:∃z,z=w15.heap.size:=⟨_,rfl⟩
 have hNw:w.heap.size≤NK:=by rw[hNK];exact hx.size
 have hbP:verS ⟨Xcb V.next (addF lv V.next (Xam l)),fs2⟩≠[]->(base vp).1<NK∧w.heap.size≤(base vp).1:=λhl=>by rw[hNK];exact⟨(hoP.base_ge hl).2,(hoP.base_ge hl).1⟩
 have hbV:fs2≠[]->(base vx).1<NK∧w.heap.size≤(base vx).1:=λhl=>by rw[hNK];exact⟨(hoV.base_ge hl).2,(hoV.base_ge hl).1⟩
 have hbM:xs≠[]->(base va).1<NK∧w.heap.size≤(base va).1:=λhl=>by rw[hNK];exact⟨(hoM.base_ge hl).2,(hoM.base_ge hl).1⟩
 have hBN:B1≤NK:=by rw[hNK];exact hSz.le
 have hmN:b5<NK:=by rw[hNK];exact m5.lt
 have hz1:(xs.zip ((Xam l).map λsg=>recS (tblS sg))).map (·.1)=xs:=List.map_fst_zip (by rw[List.length_map];omega)
 have hgb:∀k,w.heap.size≤k->¬ κ k=1:=λk hk e=>by rw[hκ0 k hk]at e;cases e
 refine Xc6 rfl kr9 (X5j κ bs bd bl bo bm vf L D V ts mem dead (xs.zip ((Xam l).map λsg=>recS (tblS sg))) va _ hS (hgv.mod hx (λk hk e=>e (hgvs k hk))) hgvs (by rw[hz1];exact hoM.arr ir9) (by rw[List.length_zip];omega) (λhl=>hκ0 _ (hbM (by rintro rfl;simp at hl)).2) (λq hq=>by
  obtain⟨g1,g2,g3,g4,g5⟩:=hG.zip2 om9 hlv om9 q hq
  exact⟨g1,g2,g3,λ_=>hκ0 _ g4.1,g5⟩)) rfl (.inl rfl) (λu16 w16 x16 hf16=>?_)
 have hsz16:=hx.size
 replace hoM:=hoM.mod x16 (by first|exact(λk hk e=>hgb k (hoM.lt k hk).1 e)|exact(λk hk e=>hgb k (Nat.le_trans hB1 (hoM.lt k hk).1) e)|exact(λk h1 _ e=>hgb k h1 e)|trivial|exact(λe=>hgb _ om9 e))
 replace hG:=hG.mod x16 (by first|exact(λk hk e=>hgb k (hG.lt k hk).1 e)|exact(λk hk e=>hgb k (Nat.le_trans hB1 (hG.lt k hk).1) e)|exact(λk h1 _ e=>hgb k h1 e)|trivial|exact(λe=>hgb _ om9 e))
 replace hoV:=hoV.mod x16 (by first|exact(λk hk e=>hgb k (hoV.lt k hk).1 e)|exact(λk hk e=>hgb k (Nat.le_trans hB1 (hoV.lt k hk).1) e)|exact(λk h1 _ e=>hgb k h1 e)|trivial|exact(λe=>hgb _ om9 e))
 replace m5:=m5.mod x16 (by first|exact(λk hk e=>hgb k (m5.lt k hk).1 e)|exact(λk hk e=>hgb k (Nat.le_trans hB1 (m5.lt k hk).1) e)|exact(λk h1 _ e=>hgb k h1 e)|trivial|exact(λe=>hgb _ om9 e))
 replace hoP:=hoP.mod x16 (by first|exact(λk hk e=>hgb k (hoP.lt k hk).1 e)|exact(λk hk e=>hgb k (Nat.le_trans hB1 (hoP.lt k hk).1) e)|exact(λk h1 _ e=>hgb k h1 e)|trivial|exact(λe=>hgb _ om9 e))
 replace hx:=hx.own x16 (λi hi hlt=>(by have e1:κ i=1:=hi;rw[e1];decide))
 rw[hFi,←hNK]at hf16
 obtain⟨rfl,κ1,hmv1,hS9⟩:=hf16
 have hS:=hS9
 have hSzK:Sz NK w16:=⟨by rw[hNK];exact x16.size⟩
 refine da (de Z29 (ws λ_ Z30=>wr (dm ?_)))
 refine dp (Xas rfl rfl) (de Z30 (wi (λc6=>?_) λc6=>?_))
 ·refine ws λ_ Z31=>wr (dm (dm ?_))
  refine cD (Xlk bs bd bl V.next vf bo bm dead (Xbs (Xbn V.next (Xam l)) D).1 _ hS.m) (.inl rfl) λu17 w17 x17 hf17=>?_
  have hsz17:=hx.size
  replace hx:=hx.own x17 (λi hi hlt=>(by have e1:i=bs:=hi;rw[e1,h.k0];decide))
  obtain⟨rfl,hd9⟩:=hf17
  have hS2:=hS.head x17 hd9
  replace hS:=hS2
  refine da (de Z31 (Xad ?_))
  refine ro ?_
  exact⟨_,rfl,hx,_,κ1,vf,_,_,V,ts,_,rfl,λk hk=>hmv1 k om9,hS,.inr ⟨hAll,hck1,fs2,hcp,hcu,hV2,by omega,.inl ⟨c6,rfl,rfl,rfl,rfl,rfl,by simp [c6]⟩⟩⟩
 refine Xaa (Z28 _ _ (ws λ_ Z32=>ws λ_ Z33=>Xaq (R:=Mod (λk=>κ1 k=1)) Xc5 Xcy kr9 [3,7] [(0,.p,false),(1,.p,false),(2,.p,false),(3,.l,false),(4,.p,false),(5,.p,false),(6,.p,false),(7,.l,false),(9,.p,false),(8,.x,false),(10,.x,false),(11,.p,false)] rfl kr9 kr9 (λw18 ew18=>?_)))
 have x18:=drewx ew18
 clear ew18
 replace hoM:=hoM.ext x18
 replace hG:=hG.ext x18
 replace hoV:=hoV.ext x18
 replace m5:=m5.ext x18
 replace hoP:=hoP.ext x18
 replace hS:=hS.ext x18
 replace hSzK:=hSzK.ext x18
 replace hx:=hx.ext x18
 refine dm ?_
 refine dz rfl (df 1 rfl (dL rfl (λ_ hR=>((hS.m.mod hR (λe=>by have e2:κ1 bs=1:=e;rw[hS.k0]at e2;cases e2)).at rfl)) (dm ?_)))
 refine dz rfl (df 1 rfl (dL rfl (λ_ hR=>((hS.m.mod hR (λe=>by have e2:κ1 bs=1:=e;rw[hS.k0]at e2;cases e2)).at rfl)) (dm ?_)))
 refine cP (hS.ld.calls_last) RX.mod λw19 x19=>?_
 replace hoM:=hoM.ext x19
 replace hG:=hG.ext x19
 replace hoV:=hoV.ext x19
 replace m5:=m5.ext x19
 replace hoP:=hoP.ext x19
 replace hS:=hS.ext x19
 replace hSzK:=hSzK.ext x19
 replace hx:=hx.ext x19
 have hNK2:=hSzK.le
 refine Xc6 rfl kr9 (X5o _ bl bd L (Xbs (Xbn V.next (Xam l)) D).2 L.last (verS ⟨Xcb V.next (addF lv V.next (Xam l)),fs2⟩) vp _ hS.ld (hoP.arr ir9) om9 (λhl e=>by have e1:κ1 (base vp).1=1:=e;rw[hmv1 _ (hbP hl).1,hκ0 _ (hbP hl).2]at e1;cases e1)) rfl (.inr λw9 h9=>h9) (λu20 w20 x20 hf20=>?_)
 have hsz20:=hx.size
 replace hx:=hx.own x20 (λi hi hlt=>(by have e1:κ1 i=1:=hi;rw[←hmv1 i om9,e1];decide))
 obtain⟨rfl,hl9⟩:=hf20
 have hS2:=hS.ledger x20 hl9
 have hmv2:=λk (hk:k<NK)=>(Xdu (κ:=κ1) (i:=1) (w':=w20) (Nat.lt_of_lt_of_le hk hNK2)).trans (hmv1 k hk)
 have hNo:∀k,w.heap.size≤k->k<NK->¬ κ1 k=1:=λk h1 h2 e=>by rw[hmv1 k h2,hκ0 k h1]at e;cases e
 replace hoM:=hoM.arr ir9 |>.mod x20 (λhl=>hNo _ (hbM hl).2 (hbM hl).1)
 replace hoV:=hoV.arr ir9 |>.mod x20 (λhl=>hNo _ (hbV hl).2 (hbV hl).1)
 replace hG:=hG.mod x20 (λk h1 h2=>hNo k h1 om9)
 replace m5:=m5.mod x20 (λe=>hNo _ om9 om9 e)
 replace hS:=hS2
 refine da (de Z33 (ws λ_ Z34=>wr (dm ?_)))
 refine dp (Xas rfl rfl) (de Z34 (wi (λc7=>?_) λc7=>?_))
 ·refine ws λ_ Z35=>wr (dm (dm ?_))
  refine cD (Xlk bs bd bl V.next vf bo bm dead (L.write (Xbs (Xbn V.next (Xam l)) D).2 L.last (verS ⟨Xcb V.next (addF lv V.next (Xam l)),fs2⟩)).1 _ hS.m) (.inl rfl) λu21 w21 x21 hf21=>?_
  have hsz21:=hx.size
  replace hx:=hx.own x21 (λi hi hlt=>(by have e1:i=bs:=hi;rw[e1,h.k0];decide))
  obtain⟨rfl,hd9⟩:=hf21
  have hS2:=hS.head x21 hd9
  replace hS:=hS2
  refine da (de Z35 (Xad ?_))
  refine ro ?_
  exact⟨_,rfl,hx,_,_,vf,_,_,V,ts,_,rfl,λk hk=>hmv2 k om9,hS,.inr ⟨hAll,hck1,fs2,hcp,hcu,hV2,by omega,.inr ⟨Decidable.of_not_not c6,rfl,rfl,.inl ⟨c7,rfl,rfl,rfl,by simp [c7]⟩⟩⟩⟩
 refine Xaa (Z32 _ _ (ws λ_ Z36=>wr (dm ?_)))
 refine dq (Xac (k:=2) kr9 rfl rfl m5.row) (dm (dm ?_))
 have hz2:(xs.zip (Xam l)).map (·.1)=xs:=List.map_fst_zip om9
 have hws9:=hx.size
 refine Xc6 rfl kr9 (X5k _ bs bd bl bo bm vf _ _ V ts mem dead ⟨Xcb V.next (addF lv V.next (Xam l)),fs2⟩ vx (xs.zip (Xam l)) va gone vg _ hS hoV (λhl=>(hmv2 _ (hbV hl).1).trans (hκ0 _ (hbV hl).2)) (by rw[hz2];exact hoM) (by rw[List.length_zip];omega) (λhl=>(hmv2 _ (hbM (by rintro rfl;simp at hl)).1).trans (hκ0 _ (hbM (by rintro rfl;simp at hl)).2)) (λq hq=>by
  obtain⟨g1,g2,g3,g4,g5,g6⟩:=hG.zip om9 hlv om9 q hq
  exact⟨g1,g2,g3,g4,λ_=>(hmv2 _ om9).trans (hκ0 _ g5.1),g6⟩) (hg.mod hx (λhl e=>e (hgk hl))) om9 (λhl=>(hmv2 _ (by have:=hg.base_lt dc9 hl;omega)).trans (hgk hl)) hgi om9) rfl (.inl rfl) (λu22 w22 x22 hf22=>?_)
 have hsz22:=hx.size
 replace hx:=hx.own x22 (λi hi hlt=>(by rw[←hmv2 i om9];exact hi))
 obtain⟨rfl,κ3,ts3,hmv3,⟨tbs,htb,hts⟩,hS9⟩:=hf22
 have hS:=hS9
 refine da (de Z36 (Xad ?_))
 refine ro ?_
 exact⟨_,rfl,hx,0,κ3,vx,_,_,_,ts3,dead,rfl,λk hk=>(hmv3 k (Nat.lt_of_lt_of_le hk hws9) (λhl e=>by have:=(hbV hl).2;omega)).trans (hmv2 k om9),hS,.inr ⟨hAll,hck1,fs2,hcp,hcu,hV2,by omega,.inr ⟨Decidable.of_not_not c6,rfl,rfl,.inr ⟨Decidable.of_not_not c7,rfl,rfl,rfl,tbs,htb.trans hTa,hts⟩⟩⟩⟩
def WrP (L:Led)(D:Dsk)(mem:List Cell)(dead:Bool)(l:List Rw)(e:Int)(L':Led)(D':Dsk)(mem':List Cell)(dead':Bool):Prop:=
 (dead=true∧e=9∧L'=L∧D'=D∧mem'=mem∧dead'=dead)∨(dead=false∧Xb4 l≠0∧e=Xb4 l∧L'=L∧D'=D∧mem'=mem∧dead'=dead)∨
 (dead=false∧Xb4 l=0∧L'=(L.append D (batS l)).2.2.1∧D'=(L.append D (batS l)).2.2.2∧(((L.append D (batS l)).2.1≠0∧e=(L.append D (batS l)).2.1∧mem'=mem∧dead'=true)∨((L.append D (batS l)).2.1=0∧e=0∧mem'=Xes mem (Xa8 l (L.append D (batS l)).1)∧dead'=false)))
def FluP (L:Led)(D:Dsk)(V:Vs)(ts:List Tb)(mem:List Cell)(dead ok:Bool)(e:Int)(L':Led)(D':Dsk)(V':Vs)(ts':List Tb)(mem':List Cell)(dead':Bool):Prop:=
 (dead=true∧ok=false∧e=9∧L'=L∧D'=D∧V'=V∧ts'=ts∧mem'=mem∧dead'=dead)∨(dead=false∧mem=[]∧ok=false∧e=0∧L'=L∧D'=D∧V'=V∧ts'=ts∧mem'=mem∧dead'=dead)∨
 (dead=false∧mem≠[]∧∃m,Mg mem m∧ChgP L D V ts dead m 0 [] e L' D' V' ts' dead'∧((e≠0∧ok=false∧mem'=mem)∨(e=0∧ok=true∧mem'=[])))
theorem Xnq {l:List Cell}(h:∀c∈l,Xbh c≤20496):Xb5 l≤l.length*20496:=by
 induction l with
 | nil=>simp [Xb5]
 | cons c r ih=>
  have h1:=h c List.mem_cons_self
  have h2:=ih (λx hx=>h x (List.mem_cons_of_mem _ hx))
  unfold Xb5 at *
  simp only [List.map_cons,List.sum_cons,List.length_cons]at *
  omega
theorem Xpj {l:List Rw}{seq:Int}(h:Xb4 l=0):Xb5 (Xa8 l seq)≤10500000:=by
 obtain⟨h1,h2,h3,h4⟩:=Xgu h
 have h5:=Xhj l seq
 have h6:=Xnq (l:=Xa8 l seq) (λc hc=>by
  obtain⟨r,hr,rfl⟩:=Xhi hc
  have:=Xgv (h4 r hr)
  unfold Xbh Rw.cell;simp only [];omega)
 omega
theorem Xwu {α:Type}(eq:α->α->Bool):∀l:List α,(Xfp eq l).length≤l.length∧∀x∈Xfp eq l,x∈l:=by
 have h:∀(r:List α) (p:α),(Xfa eq p r).length≤r.length∧∀x∈Xfa eq p r,x∈r:=by
  intro r
  induction r with
  | nil=>intro p;exact⟨Nat.le_refl _,λx hx=>hx⟩
  | cons a r ih=>
   intro p
   unfold Xfa
   have:=ih a
   split
   ·exact⟨Nat.le_succ_of_le this.1,λx hx=>List.mem_cons_of_mem _ (this.2 x hx)⟩
   ·exact⟨Nat.succ_le_succ this.1,λx hx=>(List.mem_cons.1 hx).elim (λe=>e▸List.mem_cons_self) (λh=>List.mem_cons_of_mem _ (this.2 x h))⟩
 intro l
 cases l with
 | nil=>exact⟨Nat.le_refl _,λx hx=>hx⟩
 | cons a r=>exact⟨Nat.succ_le_succ (h r a).1,λx hx=>(List.mem_cons.1 hx).elim (λe=>e▸List.mem_cons_self) (λh9=>List.mem_cons_of_mem _ ((h r a).2 x h9))⟩
theorem Xnr {l m:List Cell}(h:Mg l m):m.length≤l.length∧∀c∈m,c∈l:=by
 obtain⟨l',hp,hu,rfl⟩:=h
 have:=Xwu Xg2 l'
 exact⟨by rw[←hp.length_eq];exact this.1,λc hc=>hp.mem_iff.1 (this.2 c hc)⟩
section
variable {κ:Nat->Nat}{bs bd bl bo bm:Nat}{vf:Value}{L:Led}{D:Dsk}{V:Vs}{ts:List Tb}{mem:List Cell}{dead:Bool}{w w':World}
theorem StE.setM {bm':Nat}{mem':List Cell}{F:Nat->Prop}(h:StE κ bs bd bl bo bm vf L D V ts mem dead w)(m:Vc.Mod (oneB bs) w w')(hm:Blk w' bs (stoC bd bl V.next vf bo bm' dead) 90)(hM:MRep F w bm' mem')(hF:∀k,F k->κ k=0)[DecidablePred F]:StE (λk=>if F k then 3 else κ k) bs bd bl bo bm' vf L D V ts mem' dead w':=by
 have hr:=h.relab (κ':=λk=>if F k then 3 else κ k) (λk hk=>if_neg (λe=>hk (hF k e))) (λk hk=>by
  by_cases e:F k
  ·exact hM.lt k e
  ·rw[if_neg e]at hk;exact h.lt k hk)
 have o:∀k,(if F k then 3 else κ k)≠5->¬ oneB bs k:=λk hk e=>hk (by have e2:k=bs:=e;rw[e2];exact hr.k0)
 exact⟨hm,hr.ld.mod m (λk hk=>o k (by rw[hk];decide)),hr.mp.mod m (o _ (by rw[hr.k2];decide)),(MRep.mod hM m (λk hk=>o k (by rw[if_pos hk];decide))).to (λk hk=>if_pos hk) (λk hk=>Nat.lt_of_lt_of_le (hr.lt k (by rw[hk];decide)) m.size),hr.vs.mod m (λhl=>o _ (by rw[hr.k4 hl];decide)),λt ht=>(hr.tb t ht).mod m (λk hk=>o k (by rw[hr.k6 t ht k hk];decide)),hr.k0,hr.k2,hr.k4,hr.k6,λk hk=>Nat.lt_of_lt_of_le (hr.lt k hk) m.size⟩
end
theorem Xlt (κ:Nat->Nat)(bs bd bl bo bm:Nat)(vf:Value)(L:Led)(D:Dsk)(V:Vs)(ts:List Tb)(mem:List Cell)(dead:Bool)(l:List Rw)(v:Value)(w:World)(h:StE κ bs bd bl bo bm vf L D V ts mem dead w)(hv:Arr Rw.cs 3 w v l)(hl:l.length≤100000)(hvk:l≠[]->κ (base v).1=0)(hml:mem.length≤600000)(hcnt:L.ents.length≤900000)(hmz:Xb5 mem≤100000000000) :
  Calls Tryz.prog 14 [ptr bs 0,v].toArray w (Does (λk=>κ k≠0) w (λu w'=>∃e κ' L' D' mem' dead',u=I e∧(∀k,k<w.heap.size->κ' k=κ k)∧StE κ' bs bd bl bo bm vf L' D' V ts mem' dead' w'∧WrP L D mem dead l e L' D' mem' dead')):=by
 refine cw Tryz.func14 ?_
 have hx:=Vc.Mod.refl (λk=>κ k≠0) w
 have hS:=h
 have hκ0:∀k,w.heap.size≤k->κ k=0:=λk hk=>Decidable.byContradiction λh9=>by have:=h.lt k h9;omega
 refine ws λ_ Z1=>wr (da (de Z1 (ws λ_ Z2=>ws λ_ Z3=>wr (dm ?_))))
 refine cP (Xo1 bs bd bl V.next vf bo bm dead _ hS.m) RX.all λw1 x1=>?_
 replace hS:=hS.ext x1
 replace hx:=hx.ext x1
 refine da (de Z3 (ws λ_ Z4=>wr (dm ?_)))
 refine dp (Xas rfl rfl) (de Z4 (wi (λc1=>?_) λc1=>?_))
 ·refine ws λ_ Z5=>wr (dm (da (de Z5 (Xad ?_))))
  refine ro ?_
  have hd1:dead=true:=by cases dead with|true=>rfl|false=>exact absurd rfl c1
  subst hd1
  exact⟨_,rfl,hx,9,κ,L,D,mem,true,rfl,λ_ _=>rfl,hS,.inl ⟨rfl,rfl,rfl,rfl,rfl,rfl⟩⟩
 have hd0:dead=false:=by cases dead with|false=>rfl|true=>exact absurd dc9 c1
 subst hd0
 refine Xaa (Z2 _ _ (ws λ_ Z6=>wr (dm ?_)))
 refine cG (Xzi l v _ (hv.mod hx (λhl e=>e (hvk hl))) om9) RX.all λu2 w2 x2 hf2=>?_
 have hsz2:=hx.size
 replace hS:=hS.ext x2
 replace hx:=hx.ext x2
 obtain⟨vb,rfl,hoP0⟩:=hf2
 have hoP:=hoP0.mono hsz2
 refine dm ?_
 refine dx rfl rfl (dx rfl rfl (da (da (de Z6 (ws λ_ Z7=>ws λ_ Z8=>wr (dm ?_))))))
 refine dp (Xas rfl rfl) (de Z8 (wi (λc2=>?_) λc2=>?_))
 ·refine ws λ_ Z9=>wr (dm (da (de Z9 (Xad ?_))))
  refine ro ?_
  exact⟨_,rfl,hx,_,κ,L,D,mem,false,rfl,λ_ _=>rfl,hS,.inr (.inl ⟨rfl,c2,rfl,rfl,rfl,rfl,rfl⟩)⟩
 have hc0:Xb4 l=0:=Decidable.of_not_not c2
 rw[if_pos hc0]at hoP
 obtain⟨hr1,hr2,hr3,hr4⟩:=Xgu hc0
 have hbl9:=Xi9 l
 have hnl9:=Xak l.length
 have hbS:(batS l).length≤1000000:=by unfold batS;rw[List.length_append];omega
 refine Xaa (Z7 _ _ (ws λ_ Z10=>wr (dm ?_)))
 refine dz rfl (df 1 rfl (dl rfl (hS.m.at rfl) (dm ?_)))
 have hszw:=hx.size
 refine cD (Xy1 _ bl bd L D (batS l) vb _ hS.ld (hoP.arr ir9) hbS om9 (λhl e=>by have e1:κ (base vb).1=1:=e;rw[hκ0 _ (hoP.base_ge hl).1]at e1;cases e1)) (.inl rfl) λu3 w3 x3 hf3=>?_
 have hsz3:=hx.size
 replace hx:=hx.own x3 (λi hi hlt=>(by have e1:κ i=1:=hi;rw[e1];decide))
 obtain⟨rfl,hl9⟩:=hf3
 have hS2:=hS.ledger x3 hl9
 have hmv:∀k,k<w.heap.size->updK κ 1 _ _ k=κ k:=λk hk=>Xdu (κ:=κ) (i:=1) (w':=w3) (Nat.lt_of_lt_of_le hk hszw)
 replace hS:=hS2
 refine dm ?_
 refine dx rfl rfl (dx rfl rfl (da (da (de Z10 (ws λ_ Z11=>ws λ_ Z12=>wr (dm ?_))))))
 refine dp (Xas rfl rfl) (de Z12 (wi (λc3=>?_) λc3=>?_))
 ·refine ws λ_ Z13=>wr (dm (dm ?_))
  refine cD (Xlk bs bd bl V.next vf bo bm false (L.append D (batS l)).2.1 _ hS.m) (.inl rfl) λu4 w4 x4 hf4=>?_
  have hsz4:=hx.size
  replace hx:=hx.own x4 (λi hi hlt=>(by have e1:i=bs:=hi;rw[e1,h.k0];decide))
  obtain⟨rfl,hd9⟩:=hf4
  have hS2:=hS.head x4 hd9
  replace hS:=hS2
  refine da (de Z13 (Xad ?_))
  refine ro ?_
  exact⟨_,rfl,hx,_,_,_,_,mem,_,rfl,hmv,hS,.inr (.inr ⟨rfl,hc0,rfl,rfl,.inl ⟨c3,rfl,rfl,by simp [c3]⟩⟩)⟩
 refine Xaa (Z11 _ _ (ws λ_ Z14=>wr (dm (dm (dm ?_)))))
 have hlt9:=hS.lt
 have hszw2:=hx.size
 refine cD (X8b _ bs bd bl V.next vf bo bm false mem l v (L.append D (batS l)).1 _ hS.m hS.mr (by rw[hS.k0];decide) (hv.mod hx (λhl e=>e (hvk hl))) om9 (λr hr=>by have:=Xgv (hr4 r hr);omega) om9 (by have:=Xpj (seq:=(L.append D (batS l)).1) hc0;omega)) (.inl rfl) λu5 w5 x5 hf5=>?_
 have hsz5:=hx.size
 replace hx:=hx.own x5 (λi hi hlt=>(by rw[←hmv i om9];have e1:=hi;rw[e1];decide))
 obtain⟨rfl,hm9⟩:=hf5
 have hS2:=hS.setMem x5 hm9
 replace hS:=hS2
 refine de Z14 (ws λ_ Z15=>wr (da (de Z15 (Xad ?_))))
 refine ro ?_
 exact⟨_,rfl,hx,0,_,_,_,_,false,rfl,λk hk=>(Xdu (Nat.lt_of_lt_of_le hk hszw2)).trans (hmv k hk),hS,.inr (.inr ⟨rfl,hc0,rfl,rfl,.inr ⟨Decidable.of_not_not c3,rfl,rfl,rfl⟩⟩)⟩
theorem Xlu (κ:Nat->Nat)(bs bd bl bo bm:Nat)(vf:Value)(L:Led)(D:Dsk)(V:Vs)(ts:List Tb)(mem:List Cell)(dead:Bool)(w:World)(h:StE κ bs bd bl bo bm vf L D V ts mem dead w)(hml:mem.length≤30000)(hmc:∀c∈mem,c.key.length≤4096∧c.val.length≤16384∧c.seq≤4611686018427387904)(hV:isV V=true)(hgv:GV w)(hgvs:∀k,gvS k->κ k=0)(htl:ts.length≤900000) :
  Calls Tryz.prog 15 [ptr bs 0].toArray w (Does (λk=>κ k≠0) w (λu w'=>∃ok e κ' bm' vf' L' D' V' ts' mem' dead',u=.tuple #[B ok,I e]∧(∀k,k<w.heap.size->κ' k=κ k)∧StE κ' bs bd bl bo bm' vf' L' D' V' ts' mem' dead' w'∧FluP L D V ts mem dead ok e L' D' V' ts' mem' dead')):=by
 refine cw Tryz.func15 ?_
 have hx:=Vc.Mod.refl (λk=>κ k≠0) w
 have hS:=h
 have hκ0:∀k,w.heap.size≤k->κ k=0:=λk hk=>Decidable.byContradiction λh9=>by have:=h.lt k h9;omega
 refine ws λ_ Z1=>wr (da (da (de Z1 (ws λ_ Z2=>ws λ_ Z3=>wr (dm ?_)))))
 refine cP (Xo1 bs bd bl V.next vf bo bm dead _ hS.m) RX.all λw1 x1=>?_
 replace hS:=hS.ext x1
 replace hx:=hx.ext x1
 refine da (de Z3 (ws λ_ Z4=>wr (dm ?_)))
 refine dp (Xas rfl rfl) (dm ?_)
 refine Xag 10 rfl (λc1=>?_) (λc1=>?_)
 ·refine dk (dk (dk (dk (dk (dk (dk' (de Z4 ?_)))))))
  refine W_t rfl (ws λ_ Z5=>wr (dm (da (da (de Z5 (Xad ?_))))))
  refine rt ?_
  have hd1:dead=true:=by cases dead with|true=>rfl|false=>exact absurd rfl c1
  subst hd1
  exact⟨_,rfl,hx,false,9,κ,bm,vf,L,D,V,ts,mem,true,rfl,λ_ _=>rfl,hS,.inl ⟨rfl,rfl,rfl,rfl,rfl,rfl,rfl,rfl,rfl⟩⟩
 have hd0:dead=false:=by cases dead with|false=>rfl|true=>exact absurd dc9 c1
 subst hd0
 refine dm ?_
 refine dz rfl (df 5 rfl (dl rfl (hS.m.at rfl) (cP (hS.mr.calls_len _ om9) RX.all λw2 x2=>?_)))
 replace hS:=hS.ext x2
 replace hx:=hx.ext x2
 refine dp (Xa9 rfl rfl) (dk' (de Z4 ?_))
 refine wi (λc2=>?_) λc2=>?_
 ·refine ws λ_ Z6=>wr (dm (da (da (de Z6 (Xad ?_)))))
  refine rt ?_
  exact⟨_,rfl,hx,false,0,κ,bm,vf,L,D,V,ts,mem,false,rfl,λ_ _=>rfl,hS,.inr (.inl ⟨rfl,List.eq_nil_of_length_eq_zero om9,rfl,rfl,rfl,rfl,rfl,rfl,rfl,rfl⟩)⟩
 refine Xaa (Z2 _ _ (ws λ_ Z7=>ws λ_ Z8=>wr (dm (dm ?_))))
 refine dz rfl (df 5 rfl (dl rfl (hS.m.at rfl) (cG (hS.mr.calls_all _ om9 (λc hc=>(hmc c hc).2.2)) RX.all λva w3 x3 hoA0=>?_)))
 have hsz3:=hx.size
 replace hS:=hS.ext x3
 replace hx:=hx.ext x3
 have hoA:=hoA0.mono hsz3
 refine Xd2 (e:=95) (sz:=1) (zs:=[.slice none 0 0]) (pv:=[(0,?a20_0)]) (cs:=[?a20_0]) rfl kr9 ⟨rfl,rfl⟩ kr9 rfl ?h20 ?f20 RX.all (λb1 w4 e1 x4 m1=>?k20)
 case h20=>refine⟨rfl,?_,trivial⟩<;>(conv=>lhs;whnf)
 case f20=>simp [Xcq,Xal,List.replicate,hoA.sl.cells]
 have g1:=hx.ge e1
 have a1_hS:=hS.lt
 have o1_hoA:=hoA.ltb e1
 replace hS:=hS.ext x4
 replace hoA:=hoA.ext x4
 replace hx:=hx.ext x4
 refine cG (Xrl [(va,mem)] _ _ (m1.arr (enc:=encQ) (sz:=1) (l:=[(va,mem)]) rfl ir9 rfl sp9) (λq hq=>by rw[List.mem_singleton.1 hq];exact hoA.arr ir9) sp9 (by simp;omega)) RX.all λvm w5 x5 hf5=>?_
 have hsz5:=hx.size
 replace hS:=hS.ext x5
 replace hx:=hx.ext x5
 obtain⟨m,hMg0,hoM0⟩:=hf5
 have hMg:Mg mem m:=by simpa using hMg0
 have hoM:=hoM0.mono hsz5
 have hms:=Xnr hMg
 have hszc:=hx.size
 refine cD (Xnp κ bs bd bl bo bm vf L D V ts mem false m vm 0 [] (.slice none 0 0) _ hS (hoM.arr ir9) om9 (λc hc=>⟨(hmc c (hms.2 c hc)).1,(hmc c (hms.2 c hc)).2.1⟩) dc9 ((Vc.Own.nil (enc:=Fi.cs) (sz:=5) (T:=0) (B:=0)).arr ir9) dc9 (λh9=>absurd rfl h9) (λf hf=>by cases hf) hV (hgv.mod hx (λk hk e=>e (hgvs k hk))) hgvs htl (λhl=>hκ0 _ (hoM.base_ge hl).1)) (.inl rfl) λu6 w6 x6 hf6=>?_
 have hsz6:=hx.size
 replace hx:=hx.own x6 (λi hi hlt=>hi)
 obtain⟨e1,κ1,vf1,L1,D1,V1,ts1,dead1,rfl,hmv,hS9,hCh⟩:=hf6
 have hS:=hS9
 have hmv1:∀k,k<w.heap.size->κ1 k=κ k:=λk hk=>hmv k (Nat.lt_of_lt_of_le hk hszc)
 refine da (de Z8 (ws λ_ Z9=>wr (dm ?_)))
 refine dp (Xas rfl rfl) (de Z9 (wi (λc3=>?_) λc3=>?_))
 ·refine ws λ_ Z10=>wr (dm (da (da (de Z10 (Xad ?_)))))
  refine rt ?_
  exact⟨_,rfl,hx,false,e1,κ1,bm,vf1,L1,D1,V1,ts1,mem,dead1,rfl,hmv1,hS,.inr (.inr ⟨rfl,λe=>c2 (by rw[e];rfl),m,hMg,hCh,.inl ⟨c3,rfl,rfl⟩⟩)⟩
 refine Xaa (Z7 _ _ (ws λ_ Z11=>wr (dm ?_)))
 have hlt1:=hS.lt
 obtain⟨N0,hN0⟩:∃z,z=w6.heap.size:=⟨_,rfl⟩
 have hszn:w.heap.size≤N0:=by rw[hN0];exact hx.size
 rw[←hN0]at hlt1
 refine cG (X92 [] (.slice none 0 0) _ ((Vc.Own.nil (enc:=encU) (sz:=1) (T:=0) (B:=0)).arr ir9) dc9) RX.all λu7 w7 x7 hf7=>?_
 have hsz7:=hx.size
 replace hS:=hS.ext x7
 replace hx:=hx.ext x7
 obtain⟨bm2,rfl,hMn⟩:=hf7
 rw[←hN0]at hMn
 have hMk:∀k,N0≤k∧k<w7.heap.size->κ1 k=0:=λk hk=>Decidable.byContradiction λh9=>by have:=hlt1 k h9;omega
 refine dz rfl (df 5 rfl (Xec rfl rfl rfl rfl kr9 hS.m (Nat.le_of_ble_eq_true rfl) (.inl rfl) (λw8 x8 xs8 hm9=>?_)))
 have hS2:=hS.setM x8 hm9 hMn hMk
 replace hx:=hx.own x8 (λi hi hlt=>by have hi2:i=bs:=hi;rw[hi2,h.k0];decide)
 replace hS:=hS2
 refine de Z11 (ws λ_ Z12=>wr (da (da (de Z12 (Xad ?_)))))
 refine rt ?_
 have he1:e1=0:=Decidable.of_not_not c3
 subst he1
 exact⟨_,rfl,hx,true,0,_,bm2,vf1,L1,D1,V1,ts1,[],dead1,rfl,λk hk=>(if_neg (λe=>absurd (Nat.lt_of_lt_of_le hk hszn) (Nat.not_lt.2 e.1))).trans (hmv1 k hk),hS,.inr (.inr ⟨rfl,λe=>c2 (by rw[e];rfl),m,hMg,hCh,.inr ⟨rfl,rfl,rfl⟩⟩)⟩
def allC (mem:List Cell)(ts:List Tb):List Cell:=mem++ts.flatMap (·.cs)
theorem Xar {mem:List Cell}{ts:List Tb}{c:Cell} : c∈allC mem ts↔c∈mem∨∃t∈ts,c∈t.cs:=by unfold allC;rw[List.mem_append,List.mem_flatMap]
theorem Xel {α β:Type}{f:α->β} : ∀ {l:List α},(l.map f).Nodup->∀ {x y:α},x∈l->y∈l->f x=f y->x=y
 | [],_,_,_,hx,_,_=>by cases hx
 | a :: r,h,x,y,hx,hy,e=>by
  rw[List.map_cons,List.nodup_cons]at h
  rcases List.mem_cons.1 hx with ex|hx2
  ·rcases List.mem_cons.1 hy with ey|hy2
   ·rw[ex,ey]
   ·exact absurd (by rw[←ex,e];exact List.mem_map_of_mem hy2) h.1
  ·rcases List.mem_cons.1 hy with ey|hy2
   ·exact absurd (by rw[←ey,←e];exact List.mem_map_of_mem hx2) h.1
   ·exact Xel h.2 hx2 hy2 e
theorem X2p {a b c:Str}(h1:sLt a b=true)(h2:sLt c b=false):sLt a c=true:=by
 rcases Xbp a c with e|e|e
 ·rw[e,h2]at h1;cases h1
 ·exact e
 ·rw[Xbg _ _ _ e h1]at h2;cases h2
theorem Xns {a b c:Str}(h1:sLt b a=false)(h2:sLt b c=true):sLt a c=true:=by
 rcases Xbp a c with e|e|e
 ·rw[e,h2]at h1;cases h1
 ·exact e
 ·rw[Xbg _ _ _ h2 e]at h1;cases h1
def ahF (a b:Fi):Prop:=a.lev<b.lev∨(a.lev=b.lev∧((a.lev=0∧a.id<b.id)∨(0<a.lev∧sLt a.lst b.fst=true)))
theorem X5p {n:Int}{f:Fi}(h:okF n f=true):sLt f.lst f.fst=false:=by
 unfold okF at h
 simp only [Bool.and_eq_true,Bool.not_eq_true']at h
 exact h.2
theorem X8v {n:Int}{a b:Fi}(ha:okF n a=true)(h:folF a b=true):ahF a b:=by
 have h0:=(Xbr ha).2.2.1
 unfold folF at h
 split at h
 ·rename_i e;exact .inr ⟨e.2,.inr ⟨e.1,h⟩⟩
 ·rename_i e
  rcases(Xpe a b).1 h with h|⟨h1,⟨h2,h3⟩|⟨h2,h3⟩⟩
  ·exact .inl h
  ·exact .inr ⟨h1,.inl ⟨h2,h3⟩⟩
  ·exact absurd ⟨by omega,h1⟩ e
theorem Xz7 {a b c:Fi}(hb:sLt b.lst b.fst=false)(h1:ahF a b)(h2:ahF b c):ahF a c:=by
 rcases h1 with h1|⟨h1,h1'|h1'⟩
 ·rcases h2 with h2|⟨h2,_⟩
  ·exact .inl om9
  ·exact .inl om9
 ·rcases h2 with h2|⟨h2,h2'|h2'⟩
  ·exact .inl om9
  ·exact .inr ⟨by omega,.inl ⟨h1'.1,by omega⟩⟩
  ·omega
 ·rcases h2 with h2|⟨h2,h2'|h2'⟩
  ·exact .inl om9
  ·omega
  ·exact .inr ⟨by omega,.inr ⟨h1'.1,Xbg _ _ _ (X2p h1'.2 hb) h2'.2⟩⟩
theorem Xwv {n:Int} : ∀ {fs:List Fi},(∀f∈fs,okF n f=true)->Xgw fs=true->fs.Pairwise ahF
 | [],_,_=>List.Pairwise.nil
 | [a],_,_=>List.pairwise_singleton _ _
 | a :: b :: r,ho,h=>by
  unfold Xgw at h
  rw[Bool.and_eq_true]at h
  have ih:=Xwv (λf hf=>ho f (List.mem_cons_of_mem _ hf)) h.2
  have hab:=X8v (ho a List.mem_cons_self) h.1
  refine List.pairwise_cons.2 ⟨λx hx=>?_,ih⟩
  rcases List.mem_cons.1 hx with rfl|hx
  ·exact hab
  ·exact Xz7 (X5p (ho b sp9)) hab ((List.pairwise_cons.1 ih).1 x hx)
theorem X8w {V:Vs}(h:isV V=true):V.fs.Pairwise ahF:=by
 obtain⟨_,_,_,h4,_,h6⟩:=Xbl h
 exact Xwv h4 h6
theorem Xww {α:Type}{R:α->α->Prop}{l:List α}(h:l.Pairwise R){x y:α}(hx:x∈l)(hy:y∈l):x=y∨R x y∨R y x:=by
 induction l with
 | nil=>cases hx
 | cons a r ih=>
  rw[List.pairwise_cons]at h
  rcases List.mem_cons.1 hx with ex|hx2
  ·rcases List.mem_cons.1 hy with ey|hy2
   ·exact .inl (ex.trans ey.symm)
   ·exact .inr (.inl (ex▸h.1 y hy2))
  ·rcases List.mem_cons.1 hy with ey|hy2
   ·exact .inr (.inr (ey▸h.1 x hx2))
   ·exact ih h.2 hx2 hy2
theorem Xwx {V:Vs}(h:isV V=true){f g:Fi}(hf:f∈V.fs)(hg:g∈V.fs)(hl:f.lev=g.lev)(h0:0<f.lev):f=g∨sLt f.lst g.fst=true∨sLt g.lst f.fst=true:=by
 rcases Xww (X8w h) hf hg with e|e|e
 ·exact .inl e
 ·rcases e with e|⟨_,e|e⟩
  ·omega
  ·omega
  ·exact .inr (.inl e.2)
 ·rcases e with e|⟨_,e|e⟩
  ·omega
  ·omega
  ·exact .inr (.inr e.2)
structure TV (t:Tb)(f:Fi):Prop where
 h:t.h=(f.lev,f.id)
 ne:t.cs≠[]
 fst:f.fst=(cAt t.cs 0).key
 lst:f.lst=(cAt t.cs (t.cs.length-1)).key
theorem cAt_at {l:List Cell}{i:Nat}{c:Cell}(h:l[i]?=some c):cAt l i=c:=by unfold cAt;rw[h];rfl
theorem X5q {l:List Cell}(hu:KUp l){c:Cell}(hc:c∈l):sLt c.key (cAt l 0).key=false∧sLt (cAt l (l.length-1)).key c.key=false:=by
 obtain⟨i,hi⟩:=List.getElem?_of_mem hc
 obtain⟨h1,rfl⟩:=List.getElem?_eq_some_iff.1 hi
 have hp:=List.pairwise_iff_getElem.1 hu
 rw[cAt_at (List.getElem?_eq_getElem (show 0<l.length by omega)),cAt_at (List.getElem?_eq_getElem (show l.length-1<l.length by omega))]
 constructor
 ·rcases Nat.eq_zero_or_pos i with rfl|h0
  ·exact Xa1 _
  ·exact Xbx (hp 0 i om9 h1 h0)
 ·by_cases e:i=l.length-1
  ·subst e;exact Xa1 _
  ·exact Xbx (hp i (l.length-1) h1 om9 om9)
theorem TV.rng {t:Tb}{f:Fi}(h:TV t f)(hu:KUp t.cs){c:Cell}(hc:c∈t.cs):sLt c.key f.fst=false∧sLt f.lst c.key=false:=by
 rw[h.fst,h.lst];exact X5q hu hc
def nwr (t u:Tb):Prop:=t.h.1<u.h.1∨(t.h.1=0∧u.h.1=0∧u.h.2<t.h.2)
structure Sto (n:Int)(V:Vs)(ts:List Tb)(mem:List Cell):Prop where
 isv:isV V=true
 fwd:∀f∈V.fs,∃t∈ts,TV t f
 bwd:∀t∈ts,∃f∈V.fs,TV t f
 nod:(ts.map (·.h)).Nodup
 up:∀t∈ts,KUp t.cs
 okc:∀c∈allC mem ts,isC c=true∧c.seq≤n
 ms:Sorted mem
 n1:∀c∈mem,∀t∈ts,∀d∈t.cs,d.key=c.key->d.seq<c.seq
 n2:∀t∈ts,∀u∈ts,nwr t u->∀c∈t.cs,∀d∈u.cs,d.key=c.key->d.seq<c.seq
theorem Xgc {l:List Cell}(h:Sorted l):Uniq l:=λc hc d hd hk hs=>by
 rcases Xww h hc hd with e|e|e
 ·exact e
 ·rw[Xf1 hk hs]at e;cases e
 ·rw[Xf1 hk.symm hs.symm]at e;cases e
theorem Xwy {l:List Cell}(h:KUp l){c d:Cell}(hc:c∈l)(hd:d∈l)(hk:c.key=d.key):c=d:=by
 rcases Xww h hc hd with e|e|e
 ·exact e
 ·exact absurd hk (Xiq e)
 ·exact absurd hk.symm (Xiq e)
section
variable {n:Int}{V:Vs}{ts:List Tb}{mem:List Cell}
theorem Sto.lev (h:Sto n V ts mem){t:Tb}(ht:t∈ts):0≤t.h.1∧t.h.1≤4∧1≤t.h.2∧t.h.2<V.next:=by
 obtain⟨f,hf,hv⟩:=h.bwd t ht
 have:=Xbr ((Xbl h.isv).2.2.2.1 f hf)
 rw[hv.h];exact⟨this.2.2.1,this.2.2.2.1,this.1,this.2.1⟩
theorem Sto.apart (h:Sto n V ts mem){t u:Tb}(ht:t∈ts)(hu:u∈ts)(hl:t.h.1=u.h.1)(h0:0<t.h.1){c d:Cell}(hc:c∈t.cs)(hd:d∈u.cs)(hk:d.key=c.key):t=u:=by
 obtain⟨f,hf,hv⟩:=h.bwd t ht
 obtain⟨g,hg,hw⟩:=h.bwd u hu
 obtain⟨a1,a2⟩:=hv.rng (h.up t ht) hc
 obtain⟨b1,b2⟩:=hw.rng (h.up u hu) hd
 rw[hk]at b1 b2
 have e1:t.h.1=f.lev:=by rw[hv.h]
 have e2:u.h.1=g.lev:=by rw[hw.h]
 rcases Xwx h.isv hf hg om9 om9 with e|e|e
 ·refine Xel h.nod ht hu ?_
  rw[hv.h,hw.h,e]
 ·rw[Xns a2 e]at b1;cases b1
 ·rw[Xns b2 e]at a1;cases a1
theorem Sto.uniq (h:Sto n V ts mem):Uniq (allC mem ts):=λc hc d hd hk hs=>by
 rcases Xar.1 hc with hc|⟨t,ht,hc⟩
 ·rcases Xar.1 hd with hd|⟨u,hu,hd⟩
  ·exact Xgc h.ms c hc d hd hk hs
  ·have:=h.n1 c hc u hu d hd hk.symm;omega
 ·rcases Xar.1 hd with hd|⟨u,hu,hd⟩
  ·have:=h.n1 d hd t ht c hc hk;omega
  ·by_cases e:t=u
   ·subst e;exact Xwy (h.up t ht) hc hd hk
   ·have l1:=h.lev ht
    have l2:=h.lev hu
    have hne:t.h≠u.h:=λe2=>e (Xel h.nod ht hu e2)
    rcases Int.lt_trichotomy t.h.1 u.h.1 with g|g|g
    ·have:=h.n2 t ht u hu (.inl g) c hc d hd hk.symm;omega
    ·by_cases g0:0<t.h.1
     ·exact absurd (h.apart ht hu g g0 hc hd hk.symm) e
     ·rcases Int.lt_trichotomy t.h.2 u.h.2 with k|k|k
      ·have:=h.n2 u hu t ht (.inr ⟨by omega,by omega,k⟩) d hd c hc hk;omega
      ·exact absurd (Prod.ext g k) hne
      ·have:=h.n2 t ht u hu (.inr ⟨by omega,by omega,k⟩) c hc d hd hk.symm;omega
    ·have:=h.n2 u hu t ht (.inl g) d hd c hc hk;omega
end
theorem Xso {ts:List Tb}{h:Int×Int}(hn:∀t∈ts,t.h≠h):Xcf ts h=none:=by
 unfold Xcf
 rw[List.find?_eq_none]
 intro t ht
 simpa using hn t ht
theorem Xlv {ts:List Tb}(hn:(ts.map (·.h)).Nodup){t:Tb}(ht:t∈ts):Xcf ts t.h=some t:=by
 cases e:Xcf ts t.h with
 | none=>
  unfold Xcf at e
  rw[List.find?_eq_none]at e
  have:=e t ht
  simp at this
 | some u=>
  have h1:=Xgz e
  have h2:u.h=t.h:=by unfold Xcf at e;simpa using List.find?_some e
  rw[Xel hn h1 ht h2]
theorem Xjk : ∀(tbs ts:List Tb),(∀t∈tbs,∀u∈ts,u.h≠t.h)->(tbs.map (·.h)).Nodup->tbs.foldl insT ts=ts++tbs
 | [],ts,_,_=>by simp
 | t :: r,ts,h,hn=>by
  rw[List.map_cons,List.nodup_cons]at hn
  have e:insT ts t=ts++[t]:=by
   unfold insT
   rw[Xso (λu hu=>h t List.mem_cons_self u hu)];rfl
  rw[List.foldl_cons,e,Xjk r (ts++[t]) (λq hq u hu=>?_) hn.2]
  ·simp
  ·rcases List.mem_append.1 hu with hu|hu
   ·exact h q (List.mem_cons_of_mem _ hq) u hu
   ·rw[List.mem_singleton.1 hu]
    exact λe2=>hn.1 (by rw[e2];exact List.mem_map_of_mem hq)
def kp (gone:List Fi)(t:Tb):Bool:=gone.all λf=>decide (t.h≠(f.lev,f.id))
theorem Xjl : ∀(gone:List Fi) (ts:List Tb),Xg5 ts gone=ts.filter (kp gone)
 | [],ts=>by
  exact(List.filter_eq_self.2 λt _=>rfl).symm
 | f :: r,ts=>by
  show Xg5 (delT ts (f.lev,f.id)) r=_
  rw[Xjl r,delT,List.filter_filter]
  congr 1
  funext t
  show(kp r t && decide (t.h≠(f.lev,f.id)))=(decide (t.h≠(f.lev,f.id)) && kp r t)
  rw[Bool.and_comm]
theorem Xfw {gone:List Fi}{t:Tb} : kp gone t=true↔∀f∈gone,t.h≠(f.lev,f.id):=by
 unfold kp;simp
theorem Xwz (s:List (List Cell)×Nat)(c:Cell)(h:∀g∈s.1,g≠[]):∀g∈(Xdx s c).1,g≠[]:=by
 unfold Xdx
 split
 ·intro g hg
  rcases List.mem_append.1 hg with hg|hg
  ·exact h g hg
  ·rw[List.mem_singleton.1 hg];simp
 ·intro g hg
  rcases List.mem_append.1 hg with hg|hg
  ·exact h g (List.dropLast_subset _ hg)
  ·rw[List.mem_singleton.1 hg];simp
theorem Xnt (l:List Cell):∀g∈Xam l,g≠[]:=by
 unfold Xam
 suffices hs:∀(l:List Cell) (s:List (List Cell)×Nat),(∀g∈s.1,g≠[])->∀g∈(l.foldl Xdx s).1,g≠[] from hs l _ (λg hg=>by cases hg)
 intro l
 induction l with
 | nil=>exact λs h=>h
 | cons c r ih=>exact λs h=>ih _ (Xwz s c h)
structure ChS (V:Vs)(ts:List Tb)(l:List Cell)(lv:Int)(gone:List Fi)(V':Vs)(ts':List Tb):Prop where
 ok:Xh2 V (gone.map (·.id)) (addF lv V.next (Xam l))=true
 vs:∃fs',fs'.Perm (Xcw V.fs (gone.map (·.id))++addF lv V.next (Xam l))∧isV ⟨Xcb V.next (addF lv V.next (Xam l)),fs'⟩=true∧V'=⟨Xcb V.next (addF lv V.next (Xam l)),fs'⟩
 tb:∃tbs:List Tb,tbs.map (λt=>(t.h,t.cs))=Xj2 lv V.next (Xam l)∧ts'=Xg5 (tbs.foldl insT ts) gone
theorem Xkr (L:Led)(D:Dsk)(p:Str):(L.write D L.last p).2.1.last=L.last∧(L.write D L.last p).2.1.ents.length≤L.ents.length:=by
 unfold Led.write
 split
 ·exact⟨rfl,Nat.le_refl _⟩
 split
 ·exact⟨rfl,Nat.le_refl _⟩
 split
 ·exact⟨rfl,Nat.le_refl _⟩
 dsimp only
 repeat' split
 all_goals first|exact⟨rfl,Nat.le_refl _⟩|exact⟨by unfold Led.last;simp,Nat.zero_le _⟩
theorem Xc3 {L L':Led}{D D':Dsk}{V V':Vs}{ts ts':List Tb}{dead dead':Bool}{l:List Cell}{lv e:Int}{gone:List Fi}(h:ChgP L D V ts dead l lv gone e L' D' V' ts' dead') :
  (L'.last=L.last∧L'.ents.length≤L.ents.length)∧((e≠0∧V'=V∧ts'=ts)∨(e=0∧dead'=dead∧ChS V ts l lv gone V' ts')):=by
 rcases h with⟨h1,rfl,_,h2,h3,_⟩|⟨_,hok,fs',hp,_,hv,_,⟨h1,rfl,rfl,_,h2,h3,_⟩|⟨_,rfl,_,⟨h1,rfl,h2,h3,_⟩|⟨_,h1,h2,h3,h4⟩⟩⟩
 ·exact⟨⟨rfl,Nat.le_refl _⟩,.inl ⟨h1,h2,h3⟩⟩
 ·exact⟨⟨rfl,Nat.le_refl _⟩,.inl ⟨h1,h2,h3⟩⟩
 ·exact⟨Xkr _ _ _,.inl ⟨h1,h2,h3⟩⟩
 ·exact⟨Xkr _ _ _,.inr ⟨h1,h3,hok,⟨fs',hp,hv,h2⟩,h4⟩⟩
theorem Xii {lv next:Int}{ss:List (List Cell)}{tbs:List Tb}(h:tbs.map (λt=>(t.h,t.cs))=Xj2 lv next ss) :
  tbs.length=ss.length∧(∀(i:Nat) (t:Tb),tbs[i]?=some t->t.h=(lv,next+↑i)∧ss[i]?=some t.cs)∧(∀(i:Nat) (sg:List Cell),ss[i]?=some sg->∃t,tbs[i]?=some t∧t.h=(lv,next+↑i)∧t.cs=sg):=by
 have hl:tbs.length=ss.length:=by
  have:=congrArg List.length h
  unfold Xj2 at this
  simpa using this
 have hat:∀(i:Nat) (t:Tb),tbs[i]?=some t->t.h=(lv,next+↑i)∧ss[i]?=some t.cs:=λi t hi=>by
  have h1:=congrArg (λl=>l[i]?) h
  unfold Xj2 at h1
  simp only [List.getElem?_map,Xcm,hi,Option.map_some]at h1
  cases hs:ss[i]? with
  | none=>rw[hs]at h1;simp at h1
  | some sg=>
   rw[hs]at h1
   simp only [Option.map_some,Option.some.injEq,Prod.mk.injEq]at h1
   exact⟨h1.1,by rw[h1.2]⟩
 refine⟨hl,hat,λi sg hi=>?_⟩
 have hil:=(List.getElem?_eq_some_iff.1 hi).1
 have h1:tbs[i]?=some (tbs[i]'om9):=List.getElem?_eq_getElem _
 obtain⟨h2,h3⟩:=hat i _ h1
 rw[hi]at h3
 exact⟨_,h1,h2,(Option.some.inj h3).symm⟩
theorem Xsp {lv next:Int}{ss:List (List Cell)}{tbs:List Tb}(h:tbs.map (λt=>(t.h,t.cs))=Xj2 lv next ss):tbs.flatMap (·.cs)=ss.flatten:=by
 obtain⟨hl,h1,_⟩:=Xii h
 rw[List.flatMap_def]
 congr 1
 apply List.ext_getElem?
 intro i
 rw[List.getElem?_map]
 cases hi:tbs[i]? with
 | none=>rw[List.getElem?_eq_none_iff]at hi;rw[List.getElem?_eq_none om9];rfl
 | some t=>rw[(h1 i t hi).2];rfl
theorem X5r {lv next:Int}{ss:List (List Cell)}{f:Fi}(h:f∈addF lv next ss):∃(i:Nat) (sg:List Cell),ss[i]?=some sg∧f=Xeq lv next i sg:=by
 unfold addF at h
 obtain⟨p,hp,rfl⟩:=List.mem_map.1 h
 obtain⟨i,hi⟩:=List.getElem?_of_mem hp
 rw[Xcm]at hi
 obtain⟨sg,hs,rfl⟩:=Option.map_eq_some_iff.1 hi
 exact⟨i,sg,hs,rfl⟩
theorem Xz8 {lv next:Int}{ss:List (List Cell)}{i:Nat}{sg:List Cell}(h:ss[i]?=some sg):Xeq lv next i sg∈addF lv next ss:=by
 unfold addF
 refine List.mem_map.2 ⟨(sg,i),List.mem_of_getElem? (i:=i) ?_,rfl⟩
 rw[Xcm,h];rfl
section
variable {n lv:Int}{V V':Vs}{ts ts':List Tb}{mem l:List Cell}{gone:List Fi}
theorem ChS.sto (h:Sto n V ts mem)(c:ChS V ts l lv gone V' ts')(hg:∀f∈gone,f∈V.fs)(hlu:KUp l)(hl:∀c∈l,c∈allC mem ts)
  (hA:∀u∈ts,kp gone u=true->(lv<u.h.1∨(lv=0∧u.h.1=0))->∀c∈l,∀d∈u.cs,d.key=c.key->d.seq<c.seq)
  (hB:∀t∈ts,kp gone t=true->t.h.1<lv->∀c∈t.cs,∀d∈l,d.key=c.key->d.seq<c.seq) :
  Sto n V' ts' []∧∃tbs:List Tb,ts'=ts.filter (kp gone)++tbs∧tbs.flatMap (·.cs)=l:=by
 obtain⟨hok,⟨fs',hp,hv,rfl⟩,tbs,htb,hts⟩:=c
 obtain⟨htl,hat,hta⟩:=Xii htb
 have hflat:=Xsp htb
 rw[Xdq]at hflat
 have hnx:∀t∈tbs,t.h.1=lv∧V.next≤t.h.2∧∃i:Nat,t.h.2=V.next+↑i∧(Xam l)[i]?=some t.cs:=λt ht=>by
  obtain⟨i,hi⟩:=List.getElem?_of_mem ht
  obtain⟨h1,h2⟩:=hat i t hi
  rw[h1];exact⟨rfl,by show V.next≤V.next+↑i;omega,i,rfl,h2⟩
 have hfr:∀t∈tbs,∀u∈ts,u.h≠t.h:=λt ht u hu e=>by
  have h1:=(hnx t ht).2.1
  have h2:=(h.lev hu).2.2.2
  rw[e]at h2;omega
 have hnd:(tbs.map (·.h)).Nodup:=by
  rw[List.Nodup,List.pairwise_iff_getElem]
  intro i j hi hj hij e
  simp only [List.length_map]at hi hj
  simp only [List.getElem_map]at e
  rw[(hat i _ (List.getElem?_eq_getElem hi)).1,(hat j _ (List.getElem?_eq_getElem hj)).1]at e
  have:=(Prod.mk.inj e).2
  omega
 have hkn:∀t∈tbs,kp gone t=true:=λt ht=>Xfw.2 λf hf e=>by
  have h1:=(hnx t ht).2.1
  have h2:=(Xbr ((Xbl h.isv).2.2.2.1 f (hg f hf))).2.1
  rw[e]at h1
  have h3:V.next≤f.id:=h1
  omega
 have hts2:ts'=ts.filter (kp gone)++tbs:=by
  rw[hts,Xjk tbs ts hfr hnd,Xjl,List.filter_append,List.filter_eq_self.2 hkn]
 refine⟨?_,tbs,hts2,hflat⟩
 have hmem:∀t,t∈ts'↔(t∈ts∧kp gone t=true)∨t∈tbs:=λt=>by rw[hts2,List.mem_append,List.mem_filter]
 have hfl:(Xam l).flatten=l:=Xdq l
 have hcl:∀t∈tbs,∀c∈t.cs,c∈l:=λt ht c hc=>by rw[←hflat];exact List.mem_flatMap.2 ⟨t,ht,hc⟩
 have hids:=(Xbl h.isv).2.2.2.2.1
 have hpw:(Xam l).flatten.Pairwise λa b=>sLt a.key b.key=true:=by rw[hfl];exact hlu
 rw[List.pairwise_flatten]at hpw
 have hkeep:∀f∈V.fs,∀t∈ts,TV t f->(kp gone t=true↔f.id∉gone.map (·.id)):=λf hf t ht hv=>by
  rw[Xfw]
  constructor
  ·intro h1 h2
   obtain⟨g,hg1,hg2⟩:=List.mem_map.1 h2
   have:g=f:=Xel hids (hg g hg1) hf hg2
   exact h1 g hg1 (by rw[hv.h,this])
  ·intro h1 g hg1 e
   refine h1 (List.mem_map.2 ⟨g,hg1,?_⟩)
   rw[hv.h]at e
   exact(Prod.mk.inj e).2.symm
 refine⟨hv,λf hf=>?_,λt ht=>?_,?_,λt ht=>?_,λc hc=>?_,List.Pairwise.nil,λc hc=>(by cases hc),λt ht u hu hn c hc d hd hk=>?_⟩
 ·rcases List.mem_append.1 (hp.mem_iff.1 hf)with hf|hf
  ·unfold Xcw at hf
   obtain⟨hf1,hf2⟩:=List.mem_filter.1 hf
   obtain⟨t,ht,hv⟩:=h.fwd f hf1
   exact⟨t,(hmem t).2 (.inl ⟨ht,(hkeep f hf1 t ht hv).2 (by simpa using hf2)⟩),hv⟩
  ·obtain⟨i,sg,hs,rfl⟩:=X5r hf
   obtain⟨t,ht,h1,h2⟩:=hta i sg hs
   exact⟨t,(hmem t).2 (.inr (List.mem_of_getElem? ht)),h1,by rw[h2];exact Xnt l sg (List.mem_of_getElem? hs),by rw[h2];rfl,by rw[h2];rfl⟩
 ·rcases(hmem t).1 ht with⟨ht,hk⟩|ht
  ·obtain⟨f,hf,hv⟩:=h.bwd t ht
   refine⟨f,hp.mem_iff.2 (List.mem_append_left _ ?_),hv⟩
   unfold Xcw
   refine List.mem_filter.2 ⟨hf,?_⟩
   simpa using(hkeep f hf t ht hv).1 hk
  ·obtain⟨i,hi⟩:=List.getElem?_of_mem ht
   obtain⟨h1,h2⟩:=hat i t hi
   exact⟨Xeq lv V.next i t.cs,hp.mem_iff.2 (List.mem_append_right _ (Xz8 h2)),h1,Xnt l _ (List.mem_of_getElem? h2),rfl,rfl⟩
 ·rw[hts2,List.map_append]
  refine List.nodup_append.2 ⟨List.Nodup.sublist (List.Sublist.map _ List.filter_sublist) h.nod,hnd,λa ha b hb e=>?_⟩
  obtain⟨u,hu,rfl⟩:=List.mem_map.1 ha
  obtain⟨t,ht,rfl⟩:=List.mem_map.1 hb
  exact hfr t ht u (List.mem_filter.1 hu).1 e
 ·rcases(hmem t).1 ht with⟨ht,_⟩|ht
  ·exact h.up t ht
  ·obtain⟨_,_,i,_,h2⟩:=hnx t ht
   exact hpw.1 _ (List.mem_of_getElem? h2)
 ·rcases Xar.1 hc with hc|⟨t,ht,hc⟩
  ·cases hc
  ·rcases(hmem t).1 ht with⟨ht,_⟩|ht
   ·exact h.okc c (Xar.2 (.inr ⟨t,ht,hc⟩))
   ·exact h.okc c (hl c (hcl t ht c hc))
 ·rcases(hmem t).1 ht with⟨ht,hkt⟩|ht
  ·rcases(hmem u).1 hu with⟨hu,hku⟩|hu
   ·exact h.n2 t ht u hu hn c hc d hd hk
   ·obtain⟨g1,g2,_⟩:=hnx u hu
    have g3:=h.lev ht
    rcases hn with hn|⟨_,_,hn⟩
    ·exact hB t ht hkt om9 c hc d (hcl u hu d hd) hk
    ·omega
  ·obtain⟨g1,g2,i,g4,g5⟩:=hnx t ht
   rcases(hmem u).1 hu with⟨hu,hku⟩|hu
   ·refine hA u hu hku ?_ c (hcl t ht c hc) d hd hk
    rcases hn with hn|⟨hn1,hn2,_⟩
    ·exact .inl om9
    ·exact .inr ⟨by omega,hn2⟩
   ·obtain⟨k1,k2,j,k4,k5⟩:=hnx u hu
    rcases hn with hn|⟨_,_,hn⟩
    ·omega
    ·have hji:j<i:=by omega
     obtain⟨hi,hi2⟩:=List.getElem?_eq_some_iff.1 g5
     obtain⟨hj,hj2⟩:=List.getElem?_eq_some_iff.1 k5
     have:=List.pairwise_iff_getElem.1 hpw.2 j i hj hi hji d (by rw[hj2];exact hd) c (by rw[hi2];exact hc)
     exact absurd hk (Xiq this)
theorem ChS.flush {m:List Cell}{M:List Rw}(h:Sto n V ts mem)(hm:Mg mem m)(c:ChS V ts m 0 [] V' ts')(hT:Sp.Told (allC mem ts) M):Sto n V' ts' []∧Sp.Told (allC [] ts') M∧(∃tbs:List Tb,ts'=ts++tbs∧tbs.flatMap (·.cs)=m):=by
 obtain⟨hmu,hmt⟩:=Xrk (Xgc h.ms) hm
 obtain⟨h1,tbs,h2,h3⟩:=c.sto h (λf hf=>(by cases hf)) hmu (λc hc=>Xar.2 (.inl ((hmt c).1 hc).1)) (λu hu _ _ c hc d hd hk=>h.n1 c ((hmt c).1 hc).1 u hu d hd hk) (λt ht _ hl=>by have:=(h.lev ht).1;omega)
 have h4:ts.filter (kp [])=ts:=List.filter_eq_self.2 λt _=>rfl
 rw[h4]at h2
 refine⟨h1,Xlr hT (λc hc=>?_) (λc hc=>.inl ?_),tbs,h2,h3⟩
 ·rcases Xar.1 hc with hc|⟨t,ht,hc⟩
  ·cases hc
  ·rw[h2]at ht
   rcases List.mem_append.1 ht with ht|ht
   ·exact Xar.2 (.inr ⟨t,ht,hc⟩)
   ·refine Xar.2 (.inl ((hmt c).1 ?_).1)
    rw[←h3];exact List.mem_flatMap.2 ⟨t,ht,hc⟩
 ·rcases Xar.1 hc.1 with hc1|⟨t,ht,hc1⟩
  ·have:c∈m:=(hmt c).2 ⟨hc1,λd hd=>hc.2 d (Xar.2 (.inl hd))⟩
   rw[←h3]at this
   obtain⟨t,ht,hct⟩:=List.mem_flatMap.1 this
   exact Xar.2 (.inr ⟨t,by rw[h2];exact List.mem_append_right _ ht,hct⟩)
  ·exact Xar.2 (.inr ⟨t,by rw[h2];exact List.mem_append_left _ ht,hc1⟩)
end
structure PickP (V:Vs)(p:List Fi)(lv:Int):Prop where
 hd:∃f,p[0]?=some f∧f.lev+1=lv
 sub:∀f∈p,f∈V.fs∧(f.lev=lv-1∨f.lev=lv)
 lo:1≤lv∧lv≤4
 src:lv=1->∀f∈V.fs,f.lev=0->f∈p
 ovr:∀f∈p,f.lev=lv-1->∀g∈V.fs,g.lev=lv->sLt g.lst f.fst=false->sLt f.lst g.fst=false->g∈p
 len:p.length≤V.fs.length
 nod:(p.map (·.id)).Nodup
def Xcc (ts:List Tb)(p:List Fi):List Cell:=p.flatMap λf=>match Xcf ts (f.lev,f.id)with
 | some t=>t.cs
 | none=>[]
def Xb0 (fs:List Fi)(lv:Int)(c:Cell):Bool:=!c.del || fs.any λf=>decide (lv<f.lev) && (!sLt f.lst c.key && !sLt c.key f.fst)
section
variable {n lv:Int}{V V':Vs}{ts ts':List Tb}{m:List Cell}{p:List Fi}{M:List Rw}
theorem Xhp (h:Sto n V ts [])(hp:∀f∈p,f∈V.fs){c:Cell} : c∈Xcc ts p↔∃t∈ts,kp p t=false∧c∈t.cs:=by
 unfold Xcc
 rw[List.mem_flatMap]
 constructor
 ·rintro ⟨f,hf,hc⟩
  obtain⟨t,ht,hv⟩:=h.fwd f (hp f hf)
  rw[←hv.h,Xlv h.nod ht]at hc
  refine⟨t,ht,?_,hc⟩
  cases hk:kp p t with
  | false=>rfl
  | true=>exact absurd hv.h (Xfw.1 hk f hf)
 ·rintro ⟨t,ht,hk,hc⟩
  have:¬ ∀f∈p,t.h≠(f.lev,f.id):=λh2=>by rw[Xfw.2 h2]at hk;cases hk
  obtain⟨f,hf⟩:=Classical.not_forall.1 this
  rw[Classical.not_imp]at hf
  have e:=Classical.not_not.1 hf.2
  refine⟨f,hf.1,?_⟩
  rw[←e,Xlv h.nod ht];exact hc
theorem Xro (h:Sto n V ts [])(hp:PickP V p lv){t:Tb}(ht:t∈ts)(hk:kp p t=false):∃f∈p,TV t f∧(t.h.1=lv-1∨t.h.1=lv):=by
 have:¬ ∀f∈p,t.h≠(f.lev,f.id):=λh2=>by rw[Xfw.2 h2]at hk;cases hk
 obtain⟨f,hf⟩:=Classical.not_forall.1 this
 rw[Classical.not_imp]at hf
 have e:=Classical.not_not.1 hf.2
 obtain⟨g,hg,hv⟩:=h.bwd t ht
 have hids:=(Xbl h.isv).2.2.2.2.1
 have e2:f=g:=Xel hids (hp.sub f hf.1).1 hg (by have:=hv.h;rw[e]at this;exact(Prod.mk.inj this).2)
 subst e2
 have:=(hp.sub f hf.1).2
 refine⟨f,hf.1,hv,?_⟩
 rw[hv.h];exact this
theorem Xnu (h:Sto n V ts [])(hp:PickP V p lv){t u:Tb}(ht:t∈ts)(hkt:kp p t=false)(hu:u∈ts)(hku:kp p u=true){c d:Cell}(hc:c∈t.cs)(hd:d∈u.cs)(hk:d.key=c.key):lv<u.h.1∨nwr u t:=by
 obtain⟨f,hf,hv,hl⟩:=Xro h hp ht hkt
 obtain⟨g,hg,hw⟩:=h.bwd u hu
 have e1:t.h.1=f.lev:=by rw[hv.h]
 have e2:u.h.1=g.lev:=by rw[hw.h]
 have hgp:g∉p:=λh2=>Xfw.1 hku g h2 hw.h
 have hlo:=hp.lo
 rcases Int.lt_trichotomy lv u.h.1 with q|q|q
 ·exact .inl q
 ·exfalso
  rcases hl with hl|hl
  ·obtain⟨a1,a2⟩:=hv.rng (h.up t ht) hc
   obtain⟨b1,b2⟩:=hw.rng (h.up u hu) hd
   rw[hk]at b1 b2
   exact hgp (hp.ovr f hf om9 g hg om9 (by
    cases e:sLt g.lst f.fst with
    | false=>rfl
    | true=>rw[Xns b2 e]at a1;cases a1) (by
    cases e:sLt f.lst g.fst with
    | false=>rfl
    | true=>rw[Xns a2 e]at b1;cases b1))
  ·have:=h.apart ht hu om9 om9 hc hd hk
   rw[this,hku]at hkt;cases hkt
 ·right
  by_cases q2:u.h.1<t.h.1
  ·exact .inl q2
  ·exfalso
   by_cases q3:lv=1
   ·exact hgp (hp.src q3 g hg (by have:=h.lev hu;omega))
   ·have:=h.apart ht hu om9 om9 hc hd hk
    rw[this,hku]at hkt;cases hkt
theorem ChS.merge (h:Sto n V ts [])(hp:PickP V p lv)(hm:Mg (Xcc ts p) m)(c:ChS V ts (m.filter (Xb0 V.fs lv)) lv p V' ts')(hT:Sp.Told (allC [] ts) M) :
  Sto n V' ts' []∧Sp.Told (allC [] ts') M∧(∃tbs:List Tb,ts'=ts.filter (kp p)++tbs∧tbs.flatMap (·.cs)=m.filter (Xb0 V.fs lv)):=by
 have hpV:∀f∈p,f∈V.fs:=λf hf=>(hp.sub f hf).1
 have hcm:∀c,c∈Xcc ts p↔∃t∈ts,kp p t=false∧c∈t.cs:=λc=>Xhp h hpV
 have hca:∀c∈Xcc ts p,c∈allC [] ts:=λc hc=>by
  obtain⟨t,ht,_,h2⟩:=(hcm c).1 hc
  exact Xar.2 (.inr ⟨t,ht,h2⟩)
 have hq:Uniq (Xcc ts p):=λc hc d hd=>h.uniq c (hca c hc) d (hca d hd)
 obtain⟨hmu,hmt⟩:=Xrk hq hm
 have hlo:=hp.lo
 have hlm:∀c∈m.filter (Xb0 V.fs lv),∃t∈ts,kp p t=false∧c∈t.cs:=λc hc=>(hcm c).1 ((hmt c).1 (List.mem_filter.1 hc).1).1
 obtain⟨h1,tbs,h2,h3⟩:=c.sto h hpV (List.Pairwise.filter _ hmu) (λc hc=>by
  obtain⟨t,ht,_,hct⟩:=hlm c hc
  exact Xar.2 (.inr ⟨t,ht,hct⟩)) (λu hu hku hl c hc d hd hk=>by
  obtain⟨t,ht,hkt,hct⟩:=hlm c hc
  obtain⟨f,hf,hv,hlt⟩:=Xro h hp ht hkt
  exact h.n2 t ht u hu (.inl (by rcases hl with hl|hl<;>omega)) c hct d hd hk) (λt ht hkt hl c hc d hd hk=>by
  obtain⟨u,hu,hku,hdu⟩:=hlm d hd
  rcases Xnu h hp hu hku ht hkt hdu hc hk.symm with q|q
  ·omega
  ·exact h.n2 t ht u hu q c hc d hdu hk)
 refine⟨h1,Xlr hT (λc hc=>?_) (λc hc=>?_),tbs,h2,h3⟩
 ·rcases Xar.1 hc with hc|⟨t,ht,hc⟩
  ·cases hc
  ·rw[h2]at ht
   rcases List.mem_append.1 ht with ht|ht
   ·exact Xar.2 (.inr ⟨t,(List.mem_filter.1 ht).1,hc⟩)
   ·have:c∈m.filter (Xb0 V.fs lv):=by rw[←h3];exact List.mem_flatMap.2 ⟨t,ht,hc⟩
    exact hca c ((hmt c).1 (List.mem_filter.1 this).1).1
 ·rcases Xar.1 hc.1 with hc1|⟨t,ht,hct⟩
  ·cases hc1
  ·cases hkt:kp p t with
   | true=>exact .inl (Xar.2 (.inr ⟨t,by rw[h2];exact List.mem_append_left _ (List.mem_filter.2 ⟨ht,hkt⟩),hct⟩))
   | false=>
    have hcF:c∈Xcc ts p:=(hcm c).2 ⟨t,ht,hkt,hct⟩
    have hcm2:c∈m:=(hmt c).2 ⟨hcF,λd hd=>hc.2 d (hca d hd)⟩
    by_cases hs:Xb0 V.fs lv c=true
    ·have:c∈m.filter (Xb0 V.fs lv):=List.mem_filter.2 ⟨hcm2,hs⟩
     rw[←h3]at this
     obtain⟨u,hu,hcu⟩:=List.mem_flatMap.1 this
     exact .inl (Xar.2 (.inr ⟨u,by rw[h2];exact List.mem_append_right _ hu,hcu⟩))
    ·right
     have hs2:Xb0 V.fs lv c=false:=by simpa using hs
     unfold Xb0 at hs2
     rw[Bool.or_eq_false_iff]at hs2
     refine⟨by simpa using hs2.1,λd hd hk=>?_⟩
     rcases Xar.1 hd with hd|⟨u,hu,hdu⟩
     ·cases hd
     ·rw[h2]at hu
      rcases List.mem_append.1 hu with hu|hu
      ·obtain⟨hu,hku⟩:=List.mem_filter.1 hu
       rcases Xnu h hp ht hkt hu hku hct hdu hk with q|q
       ·obtain⟨g,hg,hw⟩:=h.bwd u hu
        obtain⟨b1,b2⟩:=hw.rng (h.up u hu) hdu
        have h9:=List.any_eq_false.1 hs2.2 g hg
        rw[hk]at b1 b2
        have e2:u.h.1=g.lev:=by rw[hw.h]
        rw[b1,b2,decide_eq_true (show lv<g.lev by omega)]at h9
        exact h9 rfl
       ·have g1:=h.n2 u hu t ht q d hdu c hct hk.symm
        have g2:=hc.2 d (Xar.2 (.inr ⟨u,hu,hdu⟩)) hk
        omega
      ·have:d∈m.filter (Xb0 V.fs lv):=by rw[←h3];exact List.mem_flatMap.2 ⟨u,hu,hdu⟩
       obtain⟨q1,q2⟩:=List.mem_filter.1 this
       rw[Xwy hmu q1 hcm2 hk]at q2
       exact hs q2
end
section
variable {P:Program}{E:Env}{d:Option Tmp}{ty:TypeId}{pos:String}{af:Array Edge}{g:Option (Nat×Bool)}
def minS (a b:Str):Str:=if sLt b a=true then b else a
def maxS (a b:Str):Str:=if sLt a b=true then b else a
theorem X5s {x y:Operand}{ts:Array TypeId}{a b:Str}(hx:ev E x=S a)(hy:ev E y=S b):PV P ⟨d,.call { callee:=.builtin .min,args:=#[x,y],argTypes:=ts },ty,pos,af,g⟩ E (S (minS a b)):=λw=>by
 have h:=X7w a b
 cases h2:Op.bytesLess b a with
 | true=>rw[h2]at h;simp [execOp,resolve,invoke,builtin,Builtin.min_,Builtin.min2,hx,hy,List.foldlM,Op.stringOp,minS,sLt,h2,h,asBool]
 | false=>rw[h2]at h;simp [execOp,resolve,invoke,builtin,Builtin.min_,Builtin.min2,hx,hy,List.foldlM,Op.stringOp,minS,sLt,h2,h,asBool]
theorem X5t {x y:Operand}{ts:Array TypeId}{a b:Str}(hx:ev E x=S a)(hy:ev E y=S b):PV P ⟨d,.call { callee:=.builtin .max,args:=#[x,y],argTypes:=ts },ty,pos,af,g⟩ E (S (maxS a b)):=λw=>by
 cases h2:Op.bytesLess a b with
 | true=>simp [execOp,resolve,invoke,builtin,Builtin.max_,Builtin.max2,hx,hy,List.foldlM,Op.stringOp,maxS,sLt,h2,asBool]
 | false=>simp [execOp,resolve,invoke,builtin,Builtin.max_,Builtin.max2,hx,hy,List.foldlM,Op.stringOp,maxS,sLt,h2,asBool]
end
theorem Xg6 {P:Program}{E:Env}{dd:Option Tmp}{ty:TypeId}{pos:String}{af:Array Edge}{g:Option (Nat×Bool)}{T m e k:Nat}{ps:List (Nat×Operand)}{zs cs:List Value}{pv:List (Nat×Value)}(hz:Xil P T=some zs)(hT:Xij P T=some (m,e,k))(hv:EvL E ps pv)(hf:Xcq (λi=>some (i*k,k)) zs pv=some cs) :
  PV P ⟨dd,.build T ps.toArray,ty,pos,af,g⟩ E (.agg ⟨cs⟩):=λw=>by
 obtain⟨z,hz1,hz2⟩:=Xex (P:=P) (w:=w) hz
 have hm:=EvL.map hv
 obtain⟨hu,f,hf2,hk⟩:=Xeb hT
 have h2:=Xod (λi=>some (i*k,k)) pv zs cs hf
 simp [execOp,Instr.build,hz1,hz2,underlying,hu,sizeOf,typeInfo,hf2,hk,hm,h2]
def lvF (fs:List Fi)(i:Int):List Fi:=fs.filter λf=>decide (f.lev=i)
theorem Xlw {fs:List Fi}{k:Nat}{f:Fi}(h:fs[k]?=some f)(i:Int):lvF (fs.take (k+1)) i=lvF (fs.take k) i++(if f.lev=i then[f]else[]):=by
 unfold lvF
 rw[Xa0 h,List.filter_append]
 by_cases e:f.lev=i<;>simp [e]
theorem Xw0 (fs:List Fi)(k:Nat)(i:Int):(lvF (fs.take k) i).length≤fs.length:=by
 unfold lvF
 have h1:=List.length_filter_le (λf:Fi=>decide (f.lev=i)) (fs.take k)
 have h2:(fs.take k).length≤fs.length:=List.length_take_le' ..
 omega
def cntN (fs:List Fi):List Nat:=(List.range 5).map λi:Nat=>(lvF fs (i:Int)).length
theorem Xgd (fs:List Fi){i:Nat}(h:i<5):(cntN fs)[i]?=some (lvF fs ↑i).length:=by
 unfold cntN
 rw[List.getElem?_map,List.getElem?_range h];rfl
theorem Xw1 {fs:List Fi}{k lv:Nat}{f:Fi}(h:fs[k]?=some f)(he:f.lev=↑lv)(hl:lv<5):(cntN (fs.take k)).set lv ((lvF (fs.take k) ↑lv).length+1)=cntN (fs.take (k+1)):=by
 apply List.ext_getElem?
 intro i
 by_cases hi:i<5
 ·rw[Xgd _ hi]
  by_cases e:lv=i
  ·subst e
   rw[List.getElem?_set_self (by unfold cntN;simpa using hl),Xlw h,if_pos he];simp
  ·rw[List.getElem?_set_ne e,Xgd _ hi,Xlw h,if_neg om9];simp
 ·rw[List.getElem?_eq_none (by simp [cntN];omega),List.getElem?_eq_none (by simp [cntN];omega)]
def PlF (fs:List Fi)(F:Int×Int->Option Fi):Prop:=∀(i:Int) (j:Nat),F (i,↑j)=(lvF fs i)[j]?
theorem X99 : PlF [] (λ_=>none):=λi j=>rfl
theorem Xz9 {fs:List Fi}{k:Nat}{f:Fi}{F:Int×Int->Option Fi}(h:fs[k]?=some f)(hF:PlF (fs.take k) F):PlF (fs.take (k+1)) (putF F (f.lev,↑(lvF (fs.take k) f.lev).length) f):=λi j=>by
 rw[Xlw h]
 unfold putF
 by_cases e:f.lev=i
 ·subst e
  rw[if_pos rfl]
  by_cases e2:j=(lvF (fs.take k) f.lev).length
  ·subst e2;simp
  ·rw[if_neg (by simp;omega),hF,List.getElem?_append]
   split
   ·rfl
   ·rw[List.getElem?_eq_none om9,List.getElem?_eq_none (by simp;omega)]
 ·rw[if_neg (by simp;exact λe2=>absurd e2.symm e),if_neg e,List.append_nil,hF]
theorem X5u (a b:Fi)(h:Fi.v a=Fi.v b):a=b:=by
 obtain⟨a1,a2,a3,a4,a5⟩:=a
 obtain⟨b1,b2,b3,b4,b5⟩:=b
 simp [Fi.v]at h
 obtain⟨rfl,rfl,rfl,rfl,rfl⟩:=h
 rfl
theorem Xnv : MapK Tryz.prog 177 181 62 kvII Fi.v okII:=X4p (i:=3) kr9 kr9 (Xsf kr9 kr9 kr9) kr9 kr9 kr9 kr9 kr9 kr9 X5u
theorem X0a (n:Int)(fs:List Fi)(vf:Value)(w:World)(hv:Arr Fi.cs 5 w vf fs)(hl:fs.length≤100000)(hlv:∀f∈fs,0≤f.lev∧f.lev≤4) :
  Calls Tryz.prog 104 [.agg ⟨[I n,vf]⟩].toArray w (Gives w (λu w'=>∃b F,u=.tuple #[.agg ⟨mapJ (cntN fs)⟩,.map (some b)]∧PlF fs F∧Vc.Xbo Tryz.prog 181 kvII Fi.v w' b fs.length F)):=by
 refine cw Tryz.func104 ?_
 have hx:=Ext.refl w
 refine ws λ_ Z1=>wr (Xbf rfl rfl rfl RX.all (λb1 w1 e1 x1 m1=>?_))
 have g1:=hx.ge e1
 replace hx:=hx.trans x1
 refine Xan (cs:=[.int .i64 0,.int .i64 0,.int .i64 0,.int .i64 0,.int .i64 0]) rfl kr9 RX.all (λb2 w2 e2 x2 m2=>?_)
 have g2:=hx.ge e2
 have n2_1:=m1.ltb e2
 replace m1:=m1.ext x2
 replace hx:=hx.trans x2
 refine da (de Z1 (ws λ_ Z2=>wr ?_))
 refine Xan (cs:=[.int .i64 0,.int .i64 0,.int .i64 0,.int .i64 0,.int .i64 0]) rfl kr9 RX.all (λb3 w3 e3 x3 m3=>?_)
 have g3:=hx.ge e3
 have n3_1:=m1.ltb e3
 have n3_2:=m2.ltb e3
 replace m1:=m1.ext x3
 replace m2:=m2.ext x3
 replace hx:=hx.trans x3
 refine de Z2 (ws λ_ Z3=>wr (Xgj Xnv rfl RX.all (λb4 w4 e4 x4 mp4=>?_)))
 have g4:=hx.ge e4
 have n4_1:=m1.ltb e4
 have n4_2:=m2.ltb e4
 have n4_3:=m3.ltb e4
 replace m1:=m1.ext x4
 replace m2:=m2.ext x4
 replace m3:=m3.ext x4
 replace hx:=hx.trans x4
 refine da (de Z3 (ws λ_ Z4=>ws λ_ Z5=>wr ?_))
 refine df 1 rfl (dl rfl (m1.at rfl) (dv 62 5 (hv.ext hx).sl (dm (de Z5 (Xab ?_)))))
 refine Xaj (G:=Nat×(Int×Int->Option Fi)) (λ(k,F)=>[(2,ptr b2 0),(3,.map none),(4,ptr b3 0),(5,.map (some b4)),(10,vf),(11,I ↑fs.length),(12,I ↑k)]) (λ(k,F) w'=>Ext w w'∧Blk w' b1 [I n,vf] 56∧Blk w' b2 [I 0,I 0,I 0,I 0,I 0] 176∧k≤fs.length∧PlF (fs.take k) F∧Blk w' b3 (mapJ (cntN (fs.take k))) 176∧Vc.Xbo Tryz.prog 181 kvII Fi.v w' b4 k F) (λ(k,F)=>fs.length-k) (0,λ_=>none) ?_ ?_ ?_
 ·exact zz7
 ·exact⟨hx,m1,m2,Nat.zero_le _,X99,m3,mp4⟩
 intro X5 g5 w5 hF5
 obtain⟨k,F⟩:=g5
 clear hx m1 m2 m3 mp4
 obtain⟨hx,m1,m2,hk1,hPl,m3,mp4⟩:=hF5
 refine ws λ_ Z6=>wr (dp (Xaf rfl rfl) (de Z6 (ws λ_ Z7=>wi (λc1=>?_) λc1=>?_)))
 ·obtain⟨f,hk⟩:∃f,fs[k]?=some f:=gtE
  have hlf:=hlv f (List.mem_of_getElem? hk)
  obtain⟨lv,hle⟩:∃lv:Nat,f.lev=↑lv:=⟨f.lev.toNat,by omega⟩
  have hlv5:lv<5:=by omega
  have hqk:=Xgd (fs.take k) hlv5
  have hxl:=Xw0 fs k ↑lv
  have hst:=Xw1 hk hle hlv5
  have hpl:=Xz9 hk hPl
  rw[hle]at hpl
  refine Xaa (Z7 _ _ (ws λ_ Z8=>Xab (ws λ_ Z9=>wr (di 62 5 hv.sl rfl (hv.lt hk) (dq (Xac kr9 rfl rfl ((hv.ext hx).row hk)) (Xan (cs:=[.int .i64 0,.int .i64 0,.int .i64 0,S [],S []]) rfl kr9 RX.all (λb5 w6 e5 x6 m5=>?_)))))))
  have g5:=hx.ge e5
  have n5_1:=m1.ltb e5
  have n5_2:=m2.ltb e5
  have n5_3:=m3.ltb e5
  have n5_mp4:=mp4.lt
  replace m1:=m1.ext x6
  replace m2:=m2.ext x6
  replace m3:=m3.ext x6
  replace mp4:=mp4.ext x6
  replace hx:=hx.trans x6
  refine stA m5 (λw7 x7 xs7 m5=>?_)
  try dsimp only [Xal,List.set,List.take,List.drop]at m5
  try replace m1:=m1.mo x7
  try replace m2:=m2.mo x7
  try replace m3:=m3.mo x7
  replace mp4:=mp4.mod x7 (by intro h;have h2:_=b5:=h;omega)
  replace hx:=hx.o1 x7
  refine de Z9 (ws λ_ Z10=>Xaq (R:=Mod (oneB b4)) Xc5 Xcy kr9 [2,4,6,8] [(0,.p,false),(1,.p,false),(2,.l,false),(3,.p,false),(4,.l,false),(5,.p,false),(6,.l,false),(7,.p,false),(8,.l,false),(9,.x,true)] rfl kr9 kr9 (λw8 ew8=>?_))
  have x8:=drewx ew8
  clear ew8
  replace m1:=m1.ext x8
  replace m2:=m2.ext x8
  replace m3:=m3.ext x8
  replace mp4:=mp4.ext x8
  replace m5:=m5.ext x8
  replace hx:=hx.trans x8
  refine dm ?_
  refine df 1 rfl (D_l rfl (λw' hR=>LV.to (Xf0 kr9 rfl ((m5.mod hR (λe=>mp4.ne_blk m5 e)).at rfl)) (congrArg (λz=>I z) hle)) (df 1 rfl (D_l rfl (λw' hR=>LV.to (Xf0 kr9 rfl ((m5.mod hR (λe=>mp4.ne_blk m5 e)).at rfl)) (congrArg (λz=>I z) hle)) (dp (Xc4 (m:=5) (e:=3) (k:=1) kr9 rfl rfl om9) (dL rfl (λ_ hR=>((m3.mod hR (λe=>mp4.ne_blk m3 e)).at (Xez hqk))) (Xa2 (v:=kvII (↑lv,↑(lvF (fs.take k) ↑lv).length)) rfl (Xg6 (zs:=[I 0,I 0]) (m:=2) (e:=3) (k:=1) (pv:=[(0,I ↑lv),(1,I ↑(lvF (fs.take k) ↑lv).length)]) (cs:=[I ↑lv,I ↑(lvF (fs.take k) ↑lv).length]) kr9 kr9 zz4 rfl) rfl (D_l rfl (λw' hR=>Xac (k:=5) kr9 rfl rfl (m5.mod hR (λe=>mp4.ne_blk m5 e)).row) ?_)))))))
  refine Xdk Xnv (kx:=(↑lv,↑(lvF (fs.take k) ↑lv).length)) (a:=f) rfl rfl rfl rfl mp4 ⟨by unfold Xai;omega,by unfold Xai;omega⟩ (by unfold maxLen;omega) (.inl rfl) (λw9 x9 xs9 mp4_n=>?_)
  replace m1:=m1.mod x9 (by first|exact(λk hk e=>mp4.ne_own m1 (hk.trans (congrArg some e)))|exact λe=>mp4.ne_blk m1 e|assumption|omega)
  replace m2:=m2.mod x9 (by first|exact(λk hk e=>mp4.ne_own m2 (hk.trans (congrArg some e)))|exact λe=>mp4.ne_blk m2 e|assumption|omega)
  replace m3:=m3.mod x9 (by first|exact(λk hk e=>mp4.ne_own m3 (hk.trans (congrArg some e)))|exact λe=>mp4.ne_blk m3 e|assumption|omega)
  replace m5:=m5.mod x9 (by first|exact(λk hk e=>mp4.ne_own m5 (hk.trans (congrArg some e)))|exact λe=>mp4.ne_blk m5 e|assumption|omega)
  replace hx:=hx.own x9 (λi hi=>by have hi2:i=b4:=hi;subst hi2;omega)
  replace mp4:=mp4_n
  refine de Z10 (wr (df 1 rfl (dq (LV.to (Xf0 kr9 rfl (m5.at rfl)) (congrArg (λz=>I z) hle)) (dp (Xc4 (m:=5) (e:=3) (k:=1) kr9 rfl rfl om9) (dl rfl (m3.at (Xez hqk)) (Xa2 (v:=I ↑((lvF (fs.take k) ↑lv).length+1)) rfl (Xa7 rfl rfl (by unfold Xai;omega)) (by show I _=I _;congr 1) (dp (Xc4 (m:=5) (e:=3) (k:=1) kr9 rfl rfl om9) (st1 m3 (λw10 x10 xs10 m3=>?_) (hv:=by first|rfl|exact isSl.one m1.sl|exact isSl.one m2.sl|exact isSl.one mp4.sl|exact isSl.one m5.sl|exact isSl.one hv.sl|exact isSl.one (hv.ext hx).sl) (ho:=by rw[List.length_map];simp only [cntN,List.length_map,List.length_range];omega)))))))))
  rw[Xfg]at m3
  try replace m1:=m1.mo x10
  try replace m2:=m2.mo x10
  replace mp4:=mp4.mod x10 (by intro h;have h2:_=b3:=h;omega)
  replace hx:=hx.o1 x10
  refine de Z8 (wr (pa rfl rfl (dm (Xae (?_)))))
  exact⟨(k+1,_),zz7,⟨hx,m1,m2,by omega,hpl,by rw[←hst];exact m3,mp4⟩,by simp only [];omega⟩
 refine Xah (Z4 _ _ (ws λ_ Z11=>wr (dq (Xac (k:=5) kr9 rfl (by rw[List.length_map];simp [cntN]) m3.row) (dm ?_))))
 refine Xgi (m:=5) (vs:=?u9) rfl rfl ?h9 kr9 ?c9 ?d9 m2 ?n9 (.inl rfl) (λw11 x11 xs11 m2=>?k9)
 case h9=>conv=>lhs;whnf
 case c9=>rw[List.length_map];simp [cntN]
 case d9=>rfl
 case n9=>simp [Value.oneCell']
 try dsimp only [Xal,List.set,List.take,List.drop]at m2
 replace mp4:=mp4.mod x11 (by intro h;have h2:_=b2:=h;omega)
 replace hx:=hx.o1 x11
 refine da (de Z11 (Xad ?_))
 refine Xau (u:=?v11) rfl rfl rfl rfl kr9 rfl m2.row ?h11 ?k11
 case h11=>conv=>lhs;whnf
 have hkk:k=fs.length:=by omega
 subst hkk
 rw[List.take_length]at hPl
 exact⟨_,rfl,hx,b4,F,by rw[List.take_length],hPl,mp4⟩
def minF (l:List Fi)(a:Str):Str:=l.foldl (λa f=>minS a f.fst) a
def maxF (l:List Fi)(a:Str):Str:=l.foldl (λa f=>maxS a f.lst) a
def atF (l:List Fi)(i:Nat):Fi:=(l[i]?).getD Fi.zero
def Xh3 (fs l:List Fi)(lev:Int):List Fi:=l++Xcu fs (lev+1) (minF l (atF l 0).fst) (maxF l (atF l 0).lst)
theorem Xw2 {l:List Fi}{k:Nat}{f:Fi}{a:Str}(h:l[k]?=some f):minF (l.take (k+1)) a=minS (minF (l.take k) a) f.fst:=by unfold minF;rw[Xa0 h,List.foldl_append];rfl
theorem Xw3 {l:List Fi}{k:Nat}{f:Fi}{a:Str}(h:l[k]?=some f):maxF (l.take (k+1)) a=maxS (maxF (l.take k) a) f.lst:=by unfold maxF;rw[Xa0 h,List.foldl_append];rfl
def oldF (l:List Fi)(o:Fi):Fi:=l.foldl (λo f=>if f.id<o.id then f else o) o
theorem Xg7 {l:List Fi}{k:Nat}{f o:Fi}(h:l[k]?=some f):oldF (l.take (k+1)) o=if f.id<(oldF (l.take k) o).id then f else oldF (l.take k) o:=by unfold oldF;rw[Xa0 h,List.foldl_append];rfl
def oldest (l:List Fi):Fi:=oldF l (atF l 0)
def Xem (fs:List Fi):Option (List Fi):=
 if 4≤(lvF fs 0).length then some (Xh3 fs (lvF fs 0) 0)
 else if 4<(lvF fs 1).length then some (Xh3 fs [oldest (lvF fs 1)] 1)
 else if 16<(lvF fs 2).length then some (Xh3 fs [oldest (lvF fs 2)] 2)
 else if 64<(lvF fs 3).length then some (Xh3 fs [oldest (lvF fs 3)] 3)
 else none
theorem X2q {fs:List Fi}(h:4≤(lvF fs 0).length):Xem fs=some (Xh3 fs (lvF fs 0) 0):=if_pos h
theorem X5v {fs:List Fi}{lv:Nat}(h0:¬ 4≤(lvF fs 0).length)(h1:1≤lv)(h2:lv<4)(hA:∀i:Nat,1≤i->i<lv->(lvF fs ↑i).length≤4 ^ i)(h:4 ^ lv<(lvF fs ↑lv).length):Xem fs=some (Xh3 fs [oldest (lvF fs ↑lv)] ↑lv):=by
 unfold Xem
 rw[if_neg h0]
 rcases(show lv=1∨lv=2∨lv=3 by omega)with rfl|rfl|rfl
 ·rw[if_pos (show 4<(lvF fs 1).length from h)];rfl
 ·have a1:=hA 1 dc9 dc9
  rw[if_neg (show¬ 4<(lvF fs 1).length by exact Nat.not_lt.2 a1),if_pos (show 16<(lvF fs 2).length by exact h)];rfl
 ·have a1:=hA 1 dc9 dc9
  have a2:=hA 2 dc9 dc9
  rw[if_neg (show¬ 4<(lvF fs 1).length by exact Nat.not_lt.2 a1),if_neg (show¬ 16<(lvF fs 2).length by exact Nat.not_lt.2 a2),if_pos (show 64<(lvF fs 3).length by exact h)];rfl
theorem X5w {fs:List Fi}(h0:¬ 4≤(lvF fs 0).length)(hA:∀i:Nat,1≤i->i<4->(lvF fs ↑i).length≤4 ^ i):Xem fs=none:=by
 have a1:=hA 1 dc9 dc9
 have a2:=hA 2 dc9 dc9
 have a3:=hA 3 dc9 dc9
 unfold Xem
 rw[if_neg h0,if_neg (show¬ 4<(lvF fs 1).length by exact Nat.not_lt.2 a1),if_neg (show¬ 16<(lvF fs 2).length by exact Nat.not_lt.2 a2),if_neg (show¬ 64<(lvF fs 3).length by exact Nat.not_lt.2 a3)]
theorem X8x {lv:Nat}(h1:1≤lv)(h2:lv<4):Value.int .i64 (IntKind.i64.wrap (1*2 ^ (min ((2:Int)*↑lv).toNat IntKind.i64.bits)))=I ↑(4 ^ lv):=by
 rcases(show lv=1∨lv=2∨lv=3 by omega)with rfl|rfl|rfl<;>rfl
theorem X5x {lv:Nat}(h1:1≤lv):4≤4 ^ lv:=by
 have:=Nat.pow_le_pow_right (n:=4) dc9 h1
 simpa using this
theorem X2r (n:Int)(fs:List Fi)(vf:Value)(lev:Int)(l:List Fi)(vl:Value)(Bo:Nat)(w:World)(hv:Arr Fi.cs 5 w vf fs)(hl:fs.length≤100000)(ho0:Vc.Own Fi.cs 5 62 Bo w vl l)(hne:l≠[])(hll:l.length≤100000)(hBo:Bo≤w.heap.size)(hB:fs≠[]->(base vf).1<Bo)(hlev:0≤lev∧lev≤10) :
  Calls Tryz.prog 105 [.agg ⟨[I n,vf]⟩,I lev,vl].toArray w (Does (λk=>vl.ownBlock=some k) w (λu w'=>Vc.Own Fi.cs 5 62 Bo w' u (Xh3 fs l lev))):=by
 refine cw Tryz.func105 ?_
 have hx:=Vc.Mod.refl (λk=>vl.ownBlock=some k) w
 have ho:=ho0
 obtain⟨f0,hk0⟩:∃f,l[0]?=some f:=⟨_,List.getElem?_eq_getElem (by cases l with|nil=>exact absurd rfl hne|cons a r=>simp)⟩
 have ha0:atF l 0=f0:=by unfold atF;rw[hk0];rfl
 refine ws λ_ Z1=>wr (Xbf rfl rfl rfl RX.all (λb1 w1 e1 x1 m1=>?_))
 have g1:=hx.ge e1
 have o1_ho:=ho.ltb e1
 replace ho:=ho.ext x1
 replace hx:=hx.ext x1
 refine da (de Z1 (ws λ_ Z2=>?_))
 refine Xaq (R:=Ext) Ext.refl (λ_ _ _=>Ext.trans) kr9 [3,7] [(0,.p,false),(1,.p,false),(2,.p,false),(3,.l,false),(4,.p,false),(5,.p,false),(6,.p,false),(7,.l,false),(8,.p,false),(9,.p,false)] rfl kr9 kr9 (λw2 ew2=>?_)
 have x2:=drewx ew2
 clear ew2
 replace ho:=ho.ext x2
 replace m1:=m1.ext x2
 replace hx:=hx.ext x2
 refine dm ?_
 refine di 62 5 (ho.arr ir9).sl rfl ((ho.arr ir9).lt hk0) (df 3 rfl (dL rfl (λ_ hR=>((((ho.arr ir9).ext hR).row hk0).at rfl)) (dm ?_)))
 refine di 62 5 (ho.arr ir9).sl rfl ((ho.arr ir9).lt hk0) (df 4 rfl (dL rfl (λ_ hR=>((((ho.arr ir9).ext hR).row hk0).at rfl)) (da (da (de Z2 (ws λ_ Z3=>ws λ_ Z4=>wr (dm ?_)))))))
 refine dv 62 5 (ho.arr ir9).sl (dm (de Z4 (Xab ?_)))
 refine Xaj (G:=Nat×Str×Str) (λ(k,a,b)=>[(1,I lev),(2,vl),(3,ptr b1 0),(6,.slice none 0 0),(7,S a),(8,S b),(19,vl),(20,I ↑l.length),(21,I ↑k)]) (λ(k,a,b) w'=>Mod (λk=>vl.ownBlock=some k) w w'∧Vc.Own Fi.cs 5 62 Bo w' vl l∧Blk w' b1 [I n,vf] 56∧k≤l.length∧a=minF (l.take k) f0.fst∧b=maxF (l.take k) f0.lst) (λ(k,a,b)=>l.length-k) (0,f0.fst,f0.lst) ?_ ?_ ?_
 ·exact zz9
 ·exact⟨hx,ho,m1,Nat.zero_le _,rfl,rfl⟩
 intro X3 g3 w3 hF3
 obtain⟨k,a,b⟩:=g3
 clear hx ho m1
 obtain⟨hx,ho,m1,hk1,ha,hb⟩:=hF3
 refine ws λ_ Z5=>wr (dp (Xaf rfl rfl) (de Z5 (ws λ_ Z6=>wi (λc1=>?_) λc1=>?_)))
 ·obtain⟨f,hk⟩:∃f,l[k]?=some f:=gtE
  refine Xaa (Z6 _ _ (ws λ_ Z7=>Xab (ws λ_ Z8=>wr (di 62 5 (ho.arr ir9).sl rfl ((ho.arr ir9).lt hk) (dq (Xac kr9 rfl rfl ((ho.arr ir9).row hk)) (Xan (cs:=[.int .i64 0,.int .i64 0,.int .i64 0,S [],S []]) rfl kr9 RX.all (λb2 w4 e2 x4 m2=>?_)))))))
  have g2:=hx.ge e2
  have n2_1:=m1.ltb e2
  have o2_ho:=ho.ltb e2
  replace ho:=ho.ext x4
  replace m1:=m1.ext x4
  replace hx:=hx.ext x4
  refine stA m2 (λw5 x5 xs5 m2=>?_)
  try dsimp only [Xal,List.set,List.take,List.drop]at m2
  try replace ho:=ho.mod x5 (by first|assumption|(intro k hk h;have h1:=(ho.lt k hk).1;have h2:k=b2:=h;omega)|(intro k hk h;have h1:=o2_ho k hk;have h2:k=b2:=h;omega)|(intro h;have h2:_=b2:=h;omega)|(intro hl h;have h1:=a2_ho hl;have h2:_=b2:=h;omega))
  try replace m1:=m1.mo x5
  replace hx:=hx.o1 x5
  refine de Z8 (Xaq (R:=Ext) Ext.refl (λ_ _ _=>Ext.trans) kr9 [2,6] [(0,.p,false),(1,.p,false),(2,.l,false),(3,.p,false),(4,.p,false),(5,.p,false),(6,.l,false),(7,.p,false),(8,.p,false),(9,.p,false)] rfl kr9 kr9 (λw6 ew6=>?_))
  have x6:=drewx ew6
  clear ew6
  replace ho:=ho.ext x6
  replace m1:=m1.ext x6
  replace m2:=m2.ext x6
  replace hx:=hx.ext x6
  refine dm ?_
  refine df 3 rfl (dL rfl (λ_ hR=>((m2.ext hR).at rfl)) (dp (X5s rfl rfl) (dm ?_)))
  refine df 4 rfl (dL rfl (λ_ hR=>((m2.ext hR).at rfl)) (dp (X5t rfl rfl) (da (da (de Z7 (wr ?_))))))
  refine pa rfl rfl (dm (Xae (?_)))
  exact⟨(k+1,_,_),zz9,⟨hx,ho,m1,by omega,by rw[Xw2 hk,←ha],by rw[Xw3 hk,←hb]⟩,by simp only [];omega⟩
 refine Xah (Z3 _ _ (ws λ_ Z9=>wr (dm ?_)))
 refine dq (Xac (k:=2) kr9 rfl rfl m1.row) (dm ?_)
 refine pa rfl rfl (dm (dm ?_))
 refine cG (Xqz n fs vf (lev+1) a b _ (hv.mod hx (λhl9 e=>by have h1:=(ho0.lt _ e).1;have h2:=hB hl9;omega)) hl) RX.all λvo w7 x7 hf=>?_
 have hsz7:=hx.size
 replace ho:=ho.ext x7
 replace hx:=hx.ext x7
 refine Xa6 (lx:=(Xcu fs (lev+1) a b)) (e:=62) (sz:=5) (by':=56) rfl kr9 kr9 ir9 ho ((hf.arr ir9)) rfl rfl (by intro x _ u hu;simp at hu;rcases hu with rfl|rfl|rfl|rfl|rfl<;>rfl) (by have:=Xd7 fs (lev+1) a b;omega) dc9 (Nat.le_trans hBo hx.size) (.inl rfl) (λvr w8 ho_n x8=>?_)
 replace hx:=hx.own x8 (λi hi hlt=>hi)
 replace ho:=ho_n
 refine da (de Z9 (Xad ?_))
 refine ro ?_
 rw[List.take_of_length_le om9]at ha hb
 refine⟨_,rfl,hx,?_⟩
 unfold Xh3
 rw[ha0,←ha,←hb]
 exact ho
theorem X2s (n:Int)(fs:List Fi)(vf:Value)(w:World)(hv:Arr Fi.cs 5 w vf fs)(hl:fs.length≤100000)(hV:isV ⟨n,fs⟩=true) :
  Calls Tryz.prog 48 [.agg ⟨[I n,vf]⟩].toArray w (Gives w (λu w'=>∃vp,u=.tuple #[vp,B (Xem fs).isSome]∧Vc.Own Fi.cs 5 62 w.heap.size w' vp ((Xem fs).getD []))):=by
 refine cw Tryz.func48 ?_
 have hx:=Ext.refl w
 obtain⟨_,_,hvl,hvo,_⟩:=Xbl hV
 have hvl2:fs.length≤1024:=hvl
 have hids:∀f∈fs,Xai f.id:=λf hf=>(Xjj hV f hf).1
 have hlv:∀f∈fs,0≤f.lev∧f.lev≤4:=λf hf=>by have:=Xbr (hvo f hf);exact⟨this.2.2.1,this.2.2.2.1⟩
 have hbf:fs≠[]->(base vf).1<w.heap.size:=λhl9=>hv.base_lt dc9 hl9
 have hln0:∀i,(lvF fs i).length≤1024:=λi=>by have:=Xw0 fs fs.length i;rw[List.take_length]at this;omega
 have hz:(lvF fs ((0:Nat):Int)).length=(lvF fs 0).length:=rfl
 have hk90:=hln0 0
 refine ws λ_ Z1=>wr (Xbf rfl rfl rfl RX.all (λb1 w1 e1 x1 m1=>?_))
 have g1:=hx.ge e1
 replace hx:=hx.trans x1
 refine da (da (de Z1 (ws λ_ Z2=>ws λ_ Z3=>wr ?_)))
 refine dq (Xac (k:=2) kr9 rfl rfl m1.row) (cP (Xzl n fs vf _ (hv.ext hx) om9 hids) RX.all λw2 x2=>?_)
 replace m1:=m1.ext x2
 replace hx:=hx.trans x2
 refine dn (de Z3 ?_)
 refine wc (λc1=>?_) λc1=>?_
 ·rw[hV]at c1;cases c1
 refine Xaa (Z2 _ _ (ws λ_ Z4=>wr (dq (Xac (k:=2) kr9 rfl rfl m1.row) (cG (X0a n fs vf _ (hv.ext hx) hl hlv) RX.all λu3 w3 x3 hf3=>?_))))
 have hsz3:=hx.size
 replace m1:=m1.ext x3
 replace hx:=hx.trans x3
 obtain⟨bmp,F,rfl,hPl,mp9⟩:=hf3
 refine dm ?_
 refine dx rfl rfl (dx rfl rfl (Xan (cs:=[.int .i64 0,.int .i64 0,.int .i64 0,.int .i64 0,.int .i64 0]) rfl kr9 RX.all (λb2 w4 e2 x4 m2=>?_)))
 have g2:=hx.ge e2
 have n2_1:=m1.ltb e2
 have n2_mp9:=mp9.lt
 replace m1:=m1.ext x4
 replace mp9:=mp9.ext x4
 replace hx:=hx.trans x4
 refine Xgi (m:=5) (vs:=?u5) rfl rfl ?h5 kr9 ?c5 ?d5 m2 ?n5 (.inl rfl) (λw5 x5 xs5 m2=>?k5)
 case h5=>conv=>lhs;whnf
 case c5=>rw[List.length_map];simp [cntN]
 case d5=>rfl
 case n5=>simp [Value.oneCell']
 try dsimp only [Xal,List.set,List.take,List.drop]at m2
 try replace m1:=m1.mo x5
 replace mp9:=mp9.mod x5 (by intro h;have h2:_=b2:=h;omega)
 replace hx:=hx.o1 x5
 refine da (de Z4 (ws λ_ Z5=>ws λ_ Z6=>wr ?_))
 refine dp (Xc4 (m:=5) (e:=3) (k:=1) kr9 rfl rfl dc9) (dl rfl (m2.at (Xez (Xgd fs (show 0<5 by decide)))) (dp (Xcg rfl rfl) (de Z6 (wi (λc2=>?_) λc2=>?_))))
 ·have h4:4≤(lvF fs 0).length:=Int.ofNat_le.1 (show((4:Nat):Int)≤((lvF fs 0).length:Int) from c2)
  refine ws λ_ Z7=>wr (da (de Z7 (ws λ_ Z8=>ws λ_ Z9=>wr ?_)))
  refine dp (Xc4 (m:=5) (e:=3) (k:=1) kr9 rfl rfl dc9) (dl rfl (m2.at (Xez (Xgd fs (show 0<5 by decide)))) (dm (de Z9 (Xab ?_))))
  refine Xaj (G:=Nat×Value) (λ(k,vl)=>[(1,ptr b1 0),(2,.slice none 0 0),(3,.bool false),(4,ptr b2 0),(5,.map (some bmp)),(6,vl),(24,I ↑(lvF fs 0).length),(25,I ↑k)]) (λ(k,vl) w'=>Ext w w'∧Blk w' b1 [I n,vf] 56∧Vc.Xbo Tryz.prog 181 kvII Fi.v w' bmp fs.length F∧Blk w' b2 (mapJ (cntN fs)) 176∧k≤(lvF fs 0).length∧Vc.Own Fi.cs 5 62 w.heap.size w' vl ((lvF fs 0).take k)) (λ(k,vl)=>(lvF fs 0).length-k) (0,.slice none 0 0) ?_ ?_ ?_
  ·exact zz8
  ·exact⟨hx,m1,mp9,m2,Nat.zero_le _,Vc.Own.nil⟩
  intro X6 g6 w6 hF6
  obtain⟨k,vl⟩:=g6
  clear hx m1 mp9 m2
  obtain⟨hx,m1,mp9,m2,hk1,hoL⟩:=hF6
  refine ws λ_ Z10=>wr (dp (Xaf rfl rfl) (de Z10 (ws λ_ Z11=>wi (λc3=>?_) λc3=>?_)))
  ·obtain⟨f,hk⟩:∃f,(lvF fs 0)[k]?=some f:=gtE
   refine Xaa (Z11 _ _ (ws λ_ Z12=>Xab (ws λ_ Z13=>wr (dm (da (de Z13 (wr (dm (dm (dm ?_))))))))))
   refine Xa2 (v:=kvII (0,↑k)) rfl (Xg6 (zs:=[I 0,I 0]) (m:=2) (e:=3) (k:=1) (pv:=[(0,I 0),(1,I ↑k)]) (cs:=[I 0,I ↑k]) kr9 kr9 zz4 rfl) rfl (dq (LV.to (v':=f.v) (Xee Xnv (kx:=(0,↑k)) (z0:=Fi.zero) rfl rfl kr9 mp9 ⟨by unfold Xai;omega,by unfold Xai;have:=hln0 0;omega⟩) (congrArg (λo:Option Fi=>Fi.v (o.getD Fi.zero)) ((hPl 0 k).trans hk))) (li (e:=62) (sz:=5) (zs:=[.int .i64 0,.int .i64 0,.int .i64 0,S [],S []]) (pv:=[(0,.agg ⟨[_,_,_,_,_]⟩)]) (cs:=[_,_,_,_,_]) RX.all (λb3 w7 e3 x7 m3=>?_)))
   have g3:=hx.ge e3
   have n3_1:=m1.ltb e3
   have n3_2:=m2.ltb e3
   have n3_mp9:=mp9.lt
   have o3_hoL:=hoL.ltb e3
   replace m1:=m1.ext x7
   replace mp9:=mp9.ext x7
   replace m2:=m2.ext x7
   replace hoL:=hoL.ext x7
   replace hx:=hx.trans x7
   refine Xa6 (lx:=[f]) (e:=62) (sz:=5) (by':=56) rfl kr9 kr9 ir9 hoL (m3.arr (enc:=Fi.cs) (sz:=5) (l:=[f]) rfl ir9 rfl (Nat.le_of_ble_eq_true rfl)) rfl rfl (by intro x _ u hu;simp at hu;rcases hu with rfl|rfl|rfl|rfl|rfl<;>rfl) (by have:=hln0 0;simp;omega) dc9 hx.size (.inl rfl) (λvp w8 hoL_n x8=>?_)
   try replace m1:=m1.mod x8 (by first|(intro h;have h2:b1=b1:=Option.some.inj h;omega)|(intro h;have h1:=(hoL.lt _ h).1;omega)|(intro h;have h1:=o1_hoL _ h;omega)|(intro h;exact hoL.ne_blk m1 rfl h))
   replace mp9:=mp9.mod x8 (mp9.ne_own hoL)
   try replace m2:=m2.mod x8 (by first|(intro h;have h2:b2=b2:=Option.some.inj h;omega)|(intro h;have h1:=(hoL.lt _ h).1;omega)|(intro h;have h1:=o2_hoL _ h;omega)|(intro h;exact hoL.ne_blk m2 rfl h))
   replace hx:=hx.own x8 (λi hi=>(hoL.lt i hi).1)
   replace hoL:=hoL_n
   clear m3
   refine da (de Z12 (wr ?_))
   refine pa rfl rfl (dm (Xae (?_)))
   exact⟨(k+1,vp),zz8,⟨hx,m1,mp9,m2,by omega,by rw[Xa0 hk];exact hoL⟩,by simp only [];omega⟩
  rw[List.take_of_length_le om9]at hoL
  refine Xah (Z8 _ _ (ws λ_ Z14=>wr (dq (Xac (k:=2) kr9 rfl rfl m1.row) (dm ?_))))
  refine cD (X2r n fs vf 0 (lvF fs 0) vl w.heap.size _ (hv.ext hx) hl hoL (λe=>by rw[e]at h4;simp at h4) (by have:=hln0 0;omega) hx.size hbf dc9) (.inl rfl) λvr w9 x9 hoW=>?_
  have hsz9:=hx.size
  replace m1:=m1.mod x9 (λe=>hoL.ne_blk m1 rfl e)
  replace mp9:=mp9.mod x9 (mp9.ne_own hoL)
  replace m2:=m2.mod x9 (λe=>hoL.ne_blk m2 rfl e)
  replace hx:=hx.own x9 (λi hi=>(hoL.lt i hi).1)
  refine da (da (de Z14 (Xad ?_)))
  refine rt ?_
  exact⟨_,rfl,hx,vr,by rw[X2q h4];rfl,by rw[X2q h4];exact hoW⟩
 have h0:¬ 4≤(lvF fs 0).length:=λh9=>c2 (show((4:Nat):Int)≤((lvF fs 0).length:Int) from Int.ofNat_le.2 h9)
 refine Xaa (Z5 _ _ (ws λ_ Z15=>ws λ_ Z16=>wr (da (de Z16 (Xab ?_)))))
 refine Xaj (G:=Nat) (λlv=>[(1,ptr b1 0),(4,ptr b2 0),(5,.map (some bmp)),(8,I ↑lv)]) (λlv w'=>Ext w w'∧Blk w' b1 [I n,vf] 56∧Vc.Xbo Tryz.prog 181 kvII Fi.v w' bmp fs.length F∧Blk w' b2 (mapJ (cntN fs)) 176∧1≤lv∧lv≤4∧∀i:Nat,1≤i->i<lv->(lvF fs ↑i).length≤4 ^ i) (λlv=>4-lv) 1 ?_ ?_ ?_
 ·exact zz4
 ·exact⟨hx,m1,mp9,m2,Nat.le_refl _,by decide,λi h1 h2=>by omega⟩
 intro X10 g10 w10 hF10
 revert hF10;revert g10;intro lv hF10
 clear hx m1 mp9 m2
 obtain⟨hx,m1,mp9,m2,hlv1,hlv4,hA⟩:=hF10
 refine ws λ_ Z17=>ws λ_ Z18=>wr (dm ?_)
 refine dp (Xaf rfl rfl) (de Z18 (wi (λc4=>?_) λc4=>?_))
 ·refine Xaa (Z17 _ _ (ws λ_ Z19=>Xab (ws λ_ Z20=>ws λ_ Z21=>Xaq (R:=Ext) Ext.refl (λ_ _ _=>Ext.trans) kr9 [2] [(0,.p,false),(1,.p,false),(2,.l,false),(3,.p,false),(4,.p,false),(5,.p,false),(6,.p,false)] rfl kr9 kr9 (λw11 ew11=>?_))))
  have x11:=drewx ew11
  clear ew11
  replace m1:=m1.ext x11
  replace mp9:=mp9.ext x11
  replace m2:=m2.ext x11
  replace hx:=hx.trans x11
  refine dm ?_
  refine dp (Xc4 (m:=5) (e:=3) (k:=1) kr9 rfl rfl om9) (dL rfl (λ_ hR=>((m2.ext hR).at (Xez (Xgd fs (show lv<5 by omega))))) (dm ?_))
  refine dp (Xen rfl rfl (by unfold Xai;omega)) (Xa2 (v:=I ↑(4 ^ lv)) rfl (Xmb rfl rfl om9) (X8x hlv1 om9) (dp (Xci rfl rfl) (de Z21 (wi (λc5=>?_) λc5=>?_))))
  ·refine Xah (Z19 _ _ (wr (dm ?_)))
   refine pa rfl rfl (da (Xae (?_)))
   refine⟨lv+1,zz4,⟨hx,m1,mp9,m2,by omega,by omega,λi h1 h2=>?_⟩,by omega⟩
   by_cases e9:i=lv
   ·subst e9;exact Int.ofNat_le.1 c5
   ·exact hA i h1 om9
  have hgt:4 ^ lv<(lvF fs ↑lv).length:=Nat.lt_of_not_le (λh9=>c5 (Int.ofNat_le.2 h9))
  have hp4:=X5x hlv1
  obtain⟨f0,hk0⟩:∃f,(lvF fs ↑lv)[0]?=some f:=gtE
  have ha0:atF (lvF fs ↑lv) 0=f0:=by unfold atF;rw[hk0];rfl
  refine Xaa (Z20 _ _ (ws λ_ Z22=>wr (dm (dm ?_))))
  refine Xa2 (v:=kvII (↑lv,((0:Nat):Int))) rfl (Xg6 (zs:=[I 0,I 0]) (m:=2) (e:=3) (k:=1) (pv:=[(0,I ↑lv),(1,I ((0:Nat):Int))]) (cs:=[I ↑lv,I ((0:Nat):Int)]) kr9 kr9 zz4 rfl) rfl (dq (LV.to (v':=f0.v) (Xee Xnv (kx:=(↑lv,((0:Nat):Int))) (z0:=Fi.zero) rfl rfl kr9 mp9 ⟨by unfold Xai;omega,by unfold Xai;omega⟩) (congrArg (λo:Option Fi=>Fi.v (o.getD Fi.zero)) ((hPl ↑lv 0).trans hk0))) (Xan (cs:=[.int .i64 0,.int .i64 0,.int .i64 0,S [],S []]) rfl kr9 RX.all (λb4 w12 e4 x12 m4=>?_)))
  have g4:=hx.ge e4
  have n4_1:=m1.ltb e4
  have n4_2:=m2.ltb e4
  have n4_mp9:=mp9.lt
  replace m1:=m1.ext x12
  replace mp9:=mp9.ext x12
  replace m2:=m2.ext x12
  replace hx:=hx.trans x12
  refine stA m4 (λw13 x13 xs13 m4=>?_)
  try dsimp only [Xal,List.set,List.take,List.drop]at m4
  try replace m1:=m1.mo x13
  replace mp9:=mp9.mod x13 (by intro h;have h2:_=b4:=h;omega)
  try replace m2:=m2.mo x13
  replace hx:=hx.o1 x13
  refine de Z22 (ws λ_ Z23=>ws λ_ Z24=>wr (dm ?_))
  refine dp (Xc4 (m:=5) (e:=3) (k:=1) kr9 rfl rfl om9) (dl rfl (m2.at (Xez (Xgd fs (show lv<5 by omega)))) (dm (de Z24 (Xab ?_))))
  refine Xaj (G:=Nat×Fi) (λ(i,o)=>[(1,ptr b1 0),(4,ptr b2 0),(5,.map (some bmp)),(8,I ↑lv),(9,ptr b4 0),(56,I ↑(lvF fs ↑lv).length),(57,I ↑i)]) (λ(i,o) w'=>Ext w w'∧Blk w' b1 [I n,vf] 56∧Vc.Xbo Tryz.prog 181 kvII Fi.v w' bmp fs.length F∧Blk w' b2 (mapJ (cntN fs)) 176∧i≤(lvF fs ↑lv).length∧o=oldF ((lvF fs ↑lv).take i) f0∧Blk w' b4 o.cs 62) (λ(i,o)=>(lvF fs ↑lv).length-i) (0,f0) ?_ ?_ ?_
  ·exact zz7
  ·exact⟨hx,m1,mp9,m2,Nat.zero_le _,rfl,m4⟩
  intro X14 g14 w14 hF14
  obtain⟨i,o⟩:=g14
  clear hx m1 mp9 m2 m4
  obtain⟨hx,m1,mp9,m2,hi1,ho9,m4⟩:=hF14
  refine ws λ_ Z25=>wr (dp (Xaf rfl rfl) (de Z25 (ws λ_ Z26=>wi (λc6=>?_) λc6=>?_)))
  ·obtain⟨f,hk⟩:∃f,(lvF fs ↑lv)[i]?=some f:=gtE
   have hk9:=hln0 ↑lv
   refine Xaa (Z26 _ _ (ws λ_ Z27=>Xab (ws λ_ Z28=>wr (dm (da (de Z28 (ws λ_ Z29=>wr (dm (dm (dm ?_))))))))))
   refine Xa2 (v:=kvII (↑lv,↑i)) rfl (Xg6 (zs:=[I 0,I 0]) (m:=2) (e:=3) (k:=1) (pv:=[(0,I ↑lv),(1,I ↑i)]) (cs:=[I ↑lv,I ↑i]) kr9 kr9 zz4 rfl) rfl (dq (LV.to (v':=f.v) (Xee Xnv (kx:=(↑lv,↑i)) (z0:=Fi.zero) rfl rfl kr9 mp9 ⟨by unfold Xai;omega,by unfold Xai;have:=hln0 ↑lv;omega⟩) (congrArg (λo:Option Fi=>Fi.v (o.getD Fi.zero)) ((hPl ↑lv i).trans hk))) (Xan (cs:=[.int .i64 0,.int .i64 0,.int .i64 0,S [],S []]) rfl kr9 RX.all (λb5 w15 e5 x15 m5=>?_)))
   have g5:=hx.ge e5
   have n5_1:=m1.ltb e5
   have n5_2:=m2.ltb e5
   have n5_4:=m4.ltb e5
   have n5_mp9:=mp9.lt
   replace m1:=m1.ext x15
   replace mp9:=mp9.ext x15
   replace m2:=m2.ext x15
   replace m4:=m4.ext x15
   replace hx:=hx.trans x15
   refine stA m5 (λw16 x16 xs16 m5=>?_)
   try dsimp only [Xal,List.set,List.take,List.drop]at m5
   try replace m1:=m1.mo x16
   replace mp9:=mp9.mod x16 (by intro h;have h2:_=b5:=h;omega)
   try replace m2:=m2.mo x16
   try replace m4:=m4.mo x16
   replace hx:=hx.o1 x16
   refine de Z29 (ws λ_ Z30=>wr (df 0 rfl (dl rfl (m5.at rfl) (df 0 rfl (dl rfl (m4.at rfl) (dp (Xaf rfl rfl) (de Z30 (wi (λc7=>?_) λc7=>?_))))))))
   ·refine wr (dq (Xac (k:=5) kr9 rfl rfl m5.row) (stA m4 (λw17 x17 xs17 m4=>?_)))
    try dsimp only [Xal,List.set,List.take,List.drop]at m4
    try replace m1:=m1.mo x17
    replace mp9:=mp9.mod x17 (by intro h;have h2:_=b4:=h;omega)
    try replace m2:=m2.mo x17
    replace hx:=hx.o1 x17
    refine de Z27 (wr (pa rfl rfl (dm (Xae (?_)))))
    first|exact⟨(i+1,f),zz7,⟨hx,m1,mp9,m2,by omega,by rw[Xg7 hk,←ho9,if_pos om9],m4⟩,by simp only [];omega⟩|exact⟨(i+1,o),zz7,⟨hx,m1,mp9,m2,by omega,by rw[Xg7 hk,←ho9,if_neg om9],m4⟩,by simp only [];omega⟩
   refine Xaa (Z27 _ _ (wr (pa rfl rfl (dm (Xae (?_))))))
   first|exact⟨(i+1,f),zz7,⟨hx,m1,mp9,m2,by omega,by rw[Xg7 hk,←ho9,if_pos om9],m4⟩,by simp only [];omega⟩|exact⟨(i+1,o),zz7,⟨hx,m1,mp9,m2,by omega,by rw[Xg7 hk,←ho9,if_neg om9],m4⟩,by simp only [];omega⟩
  refine Xah (Z23 _ _ (ws λ_ Z31=>wr (dq (Xac (k:=2) kr9 rfl rfl m1.row) (dm ?_))))
  refine dq (Xac (k:=5) kr9 rfl rfl m4.row) (li (e:=62) (sz:=5) (zs:=[.int .i64 0,.int .i64 0,.int .i64 0,S [],S []]) (pv:=[(0,.agg ⟨[_,_,_,_,_]⟩)]) (cs:=[_,_,_,_,_]) RX.all (λb6 w18 e6 x18 m6=>?_))
  have g6:=hx.ge e6
  replace hx:=hx.trans x18
  have hoL:=m6.own (enc:=Fi.cs) (B:=w.heap.size) (l:=[o]) (sz:=5) (m:=1) g6 rfl ir9 rfl (Nat.le_of_ble_eq_true rfl)
  refine cD (X2r n fs vf ↑lv [o] (.slice (some ⟨b6,0,none⟩) 1 1) w.heap.size _ (hv.ext hx) hl hoL sp9 sp9 hx.size hbf om9) (.inl rfl) λvr w19 x19 hoW=>?_
  have hsz19:=hx.size
  replace hx:=hx.own x19 (λi hi=>(hoL.lt i hi).1)
  refine da (da (de Z31 (Xad ?_)))
  refine rt ?_
  rw[List.take_of_length_le om9]at ho9
  have e9:oldest (lvF fs ↑lv)=o:=by unfold oldest;rw[ha0,←ho9]
  have e8:=X5v h0 hlv1 om9 hA hgt
  rw[e9]at e8
  exact⟨_,rfl,hx,vr,by rw[e8];rfl,by rw[e8];exact hoW⟩
 refine Xah (Z15 _ _ (ws λ_ Z32=>wr (da (da (de Z32 (Xad ?_))))))
 refine rt ?_
 have e8:=X5w h0 (λi h1 h2=>hA i h1 om9)
 exact⟨_,rfl,hx,_,by rw[e8];rfl,by rw[e8];exact Vc.Own.nil⟩
theorem Xw4 (a b:Str):sLt a (minS a b)=false∧sLt b (minS a b)=false:=by
 unfold minS
 split
 ·rename_i h;exact⟨Xbx h,Xa1 _⟩
 ·rename_i h;exact⟨Xa1 _,by simpa using h⟩
theorem Xw5 (a b:Str):sLt (maxS a b) a=false∧sLt (maxS a b) b=false:=by
 unfold maxS
 split
 ·rename_i h;exact⟨Xbx h,Xa1 _⟩
 ·rename_i h;exact⟨Xa1 _,by simpa using h⟩
theorem Xw6 : ∀(l:List Fi) (a:Str),sLt a (minF l a)=false∧∀f∈l,sLt f.fst (minF l a)=false
 | [],a=>⟨Xa1 _,λf hf=>by cases hf⟩
 | x :: r,a=>by
  obtain⟨h1,h2⟩:=Xw6 r (minS a x.fst)
  have e:minF (x :: r) a=minF r (minS a x.fst):=rfl
  rw[e]
  refine⟨Xnj h1 (Xw4 a x.fst).1,λf hf=>?_⟩
  rcases List.mem_cons.1 hf with rfl|hf
  ·exact Xnj h1 (Xw4 a f.fst).2
  ·exact h2 f hf
theorem Xw7 : ∀(l:List Fi) (a:Str),sLt (maxF l a) a=false∧∀f∈l,sLt (maxF l a) f.lst=false
 | [],a=>⟨Xa1 _,λf hf=>by cases hf⟩
 | x :: r,a=>by
  obtain⟨h1,h2⟩:=Xw7 r (maxS a x.lst)
  have e:maxF (x :: r) a=maxF r (maxS a x.lst):=rfl
  rw[e]
  refine⟨Xnj (Xw5 a x.lst).1 h1,λf hf=>?_⟩
  rcases List.mem_cons.1 hf with rfl|hf
  ·exact Xnj (Xw5 a f.lst).2 h1
  ·exact h2 f hf
theorem Xw8 {p q:Fi->Bool}(h:∀f,¬ (p f=true∧q f=true)):∀l:List Fi,(l.filter p).length+(l.filter q).length≤l.length
 | []=>Nat.le_refl _
 | a :: r=>by
  have ih:=Xw8 h r
  have ha:=h a
  rw[List.filter_cons,List.filter_cons]
  cases hp:p a<;>cases hq:q a<;>simp_all<;>omega
theorem X2t {V:Vs}(hV:isV V=true){lev:Int}{l:List Fi}(hl:l≠[])(hs:∀f∈l,f∈V.fs∧f.lev=lev)(h0:0≤lev∧lev≤3)(hnd:(l.map (·.id)).Nodup)(hlen:l.length≤(lvF V.fs lev).length)(hsrc:lev=0->∀f∈V.fs,f.lev=0->f∈l):PickP V (Xh3 V.fs l lev) (lev+1):=by
 have hov:∀f,f∈Xcu V.fs (lev+1) (minF l (atF l 0).fst) (maxF l (atF l 0).lst)->f∈V.fs∧f.lev=lev+1:=λf hf=>by
  obtain⟨h1,h2⟩:=List.mem_filter.1 hf
  unfold Xda at h2
  simp only [Bool.and_eq_true,decide_eq_true_eq]at h2
  exact⟨h1,h2.1.1⟩
 have hids:=(Xbl hV).2.2.2.2.1
 refine⟨?_,λf hf=>?_,⟨by omega,by omega⟩,λe f hf hl9=>List.mem_append_left _ (hsrc om9 f hf hl9),λf hf hfl g hg hgl h1 h2=>?_,?_,?_⟩
 ·cases l with
  | nil=>exact absurd rfl hl
  | cons a r=>exact⟨a,rfl,by rw[(hs a List.mem_cons_self).2]⟩
 ·rcases List.mem_append.1 hf with hf|hf
  ·exact⟨(hs f hf).1,.inl (by have:=(hs f hf).2;omega)⟩
  ·exact⟨(hov f hf).1,.inr (hov f hf).2⟩
 ·rcases List.mem_append.1 hf with hf|hf
  ·refine List.mem_append_right _ (List.mem_filter.2 ⟨hg,?_⟩)
   unfold Xda
   have a1:sLt g.lst (minF l (atF l 0).fst)=false:=by
    cases e:sLt g.lst (minF l (atF l 0).fst)with
    | false=>rfl
    | true=>rw[X2p e ((Xw6 l _).2 f hf)]at h1;cases h1
   have a2:sLt (maxF l (atF l 0).lst) g.fst=false:=by
    cases e:sLt (maxF l (atF l 0).lst) g.fst with
    | false=>rfl
    | true=>rw[Xns ((Xw7 l _).2 f hf) e]at h2;cases h2
   rw[decide_eq_true hgl,a1,a2];rfl
  ·have:=(hov f hf).2;omega
 ·have h1:(Xcu V.fs (lev+1) (minF l (atF l 0).fst) (maxF l (atF l 0).lst)).length≤(lvF V.fs (lev+1)).length:=by
   have e:Xcu V.fs (lev+1) (minF l (atF l 0).fst) (maxF l (atF l 0).lst)=(lvF V.fs (lev+1)).filter (Xda (lev+1) (minF l (atF l 0).fst) (maxF l (atF l 0).lst)):=by
    unfold Xcu lvF
    rw[List.filter_filter]
    congr 1
    funext f
    unfold Xda
    by_cases e9:f.lev=lev+1<;>simp [e9]
   rw[e];exact List.length_filter_le _ _
  have h2:(lvF V.fs lev).length+(lvF V.fs (lev+1)).length≤V.fs.length:=Xw8 (λf h=>by simp only [decide_eq_true_eq]at h;omega) V.fs
  unfold Xh3
  rw[List.length_append];omega
 ·unfold Xh3
  rw[List.map_append]
  refine List.nodup_append.2 ⟨hnd,List.Nodup.sublist (List.Sublist.map _ List.filter_sublist) hids,λa ha b hb e=>?_⟩
  obtain⟨f,hf,rfl⟩:=List.mem_map.1 ha
  obtain⟨g,hg,rfl⟩:=List.mem_map.1 hb
  have e2:f=g:=Xel hids (hs f hf).1 (hov g hg).1 e
  have e3:=(hs f hf).2
  have e4:=(hov g hg).2
  rw[e2]at e3;omega
theorem Xrp : ∀(l:List Fi) (o:Fi),oldF l o=o∨oldF l o∈l
 | [],o=>.inl rfl
 | x :: r,o=>by
  have e:oldF (x :: r) o=oldF r (if x.id<o.id then x else o):=rfl
  rw[e]
  rcases Xrp r (if x.id<o.id then x else o)with h|h
  ·rw[h]
   split
   ·exact .inr List.mem_cons_self
   ·exact .inl rfl
  ·exact .inr (List.mem_cons_of_mem _ h)
theorem Xsq {l:List Fi}(h:l≠[]):oldest l∈l:=by
 unfold oldest
 rcases Xrp l (atF l 0)with e|e
 ·rw[e]
  cases l with
  | nil=>exact absurd rfl h
  | cons a r=>exact List.mem_cons_self
 ·exact e
theorem Xpk {fs:List Fi}{i:Int}{f:Fi} : f∈lvF fs i↔f∈fs∧f.lev=i:=by unfold lvF;rw[List.mem_filter,decide_eq_true_eq]
theorem X8y {V:Vs}{p:List Fi}(hV:isV V=true)(h:Xem V.fs=some p):∃lv:Nat,PickP V p ↑lv:=by
 have hids:=(Xbl hV).2.2.2.2.1
 have one:∀lv:Nat,1≤lv->lv≤3->0<(lvF V.fs ↑lv).length->PickP V (Xh3 V.fs [oldest (lvF V.fs ↑lv)] ↑lv) (↑lv+1):=λlv h1 h3 hp=>by
  have hm:=Xsq (List.ne_nil_of_length_pos hp)
  exact X2t hV sp9 (λf hf=>by rw[List.mem_singleton.1 hf];exact Xpk.1 hm) ⟨by omega,by omega⟩ sp9 hp (λe=>by omega)
 unfold Xem at h
 split at h
 ·rename_i h4
  obtain rfl:=Option.some.inj h
  exact⟨1,X2t hV (λe=>by rw[e]at h4;simp at h4) (λf hf=>Xpk.1 hf) ⟨by decide,by decide⟩ (List.Nodup.sublist (List.Sublist.map _ List.filter_sublist) hids) (Nat.le_refl _) (λ_ f hf e=>Xpk.2 ⟨hf,e⟩)⟩
 split at h
 ·rename_i h4
  obtain rfl:=Option.some.inj h
  exact⟨2,one 1 dc9 dc9 (Nat.lt_of_le_of_lt (Nat.zero_le _) h4)⟩
 split at h
 ·rename_i h4
  obtain rfl:=Option.some.inj h
  exact⟨3,one 2 dc9 dc9 (Nat.lt_of_le_of_lt (Nat.zero_le _) h4)⟩
 split at h
 ·rename_i h4
  obtain rfl:=Option.some.inj h
  exact⟨4,one 3 dc9 dc9 (Nat.lt_of_le_of_lt (Nat.zero_le _) h4)⟩
 ·cases h
theorem X0b (fs:List Fi):(Xem fs).isSome=true↔4≤(lvF fs 0).length∨4<(lvF fs 1).length∨16<(lvF fs 2).length∨64<(lvF fs 3).length:=by
 unfold Xem
 repeat' split
 all_goals simp<;>omega
theorem Xw9 {fs gs add:List Fi}(hp:gs.Perm (fs++add))(h:(Xem fs).isSome=true):(Xem gs).isSome=true:=by
 have hg:∀i,(lvF fs i).length≤(lvF gs i).length:=λi=>by
  have h1:(lvF gs i).Perm (lvF (fs++add) i):=hp.filter _
  rw[h1.length_eq]
  unfold lvF
  rw[List.filter_append,List.length_append];omega
 rw[X0b]at h ⊢
 have:=hg 0;have:=hg 1;have:=hg 2;have:=hg 3
 omega
def wsum (g:Cell->Nat)(l:List Cell):Nat:=(l.map g).sum
theorem Xbu (g:Cell->Nat)(l m:List Cell):wsum g (l++m)=wsum g l+wsum g m:=by unfold wsum;rw[List.map_append,List.sum_append]
theorem Xxa {g:Cell->Nat}{l m:List Cell}(h:l.Perm m):wsum g l=wsum g m:=(h.map g).sum_nat
theorem Xlx {g:Cell->Nat}{l m:List Cell}(h:l.Sublist m):wsum g l≤wsum g m:=by
 induction h with
 | slnil=>exact Nat.le_refl _
 | cons a h ih=>unfold wsum at *;simp only [List.map_cons,List.sum_cons];omega
 | cons_cons a h ih=>unfold wsum at *;simp only [List.map_cons,List.sum_cons];omega
theorem Xjm : ∀(r:List Cell) (p:Cell),(Xfa Xg2 p r).Sublist r
 | [],_=>List.Sublist.slnil
 | x :: r,p=>by
  unfold Xfa
  split
  ·exact(Xjm r x).cons x
  ·exact(Xjm r x).cons_cons x
theorem Xjn {g:Cell->Nat}{l m:List Cell}(h:Mg l m):wsum g m≤wsum g l:=by
 obtain⟨l',hp,_,rfl⟩:=h
 rw[←Xxa hp]
 refine Xlx ?_
 cases l' with
 | nil=>exact List.Sublist.slnil
 | cons a r=>exact(Xjm r a).cons_cons a
theorem Xg8 {g:Cell->Nat}(ts:List Tb):wsum g (ts.flatMap (·.cs))=(ts.map λt=>wsum g t.cs).sum:=by
 induction ts with
 | nil=>rfl
 | cons t r ih=>rw[List.flatMap_cons,Xbu,ih];rfl
theorem Xpl {α:Type}(g:α->Nat):∀l1 l2:List α,l1.Nodup->(∀x∈l1,x∈l2)->(l1.map g).sum≤(l2.map g).sum
 | [],l2,_,_=>Nat.zero_le _
 | a :: r,l2,hn,hs=>by
  obtain⟨X,Y,rfl⟩:=List.append_of_mem (hs a List.mem_cons_self)
  rw[List.nodup_cons]at hn
  have ih:=Xpl g r (X++Y) hn.2 (λx hx=>by
   rcases List.mem_append.1 (hs x (List.mem_cons_of_mem _ hx))with h|h
   ·exact List.mem_append_left _ h
   ·rcases List.mem_cons.1 h with rfl|h
    ·exact absurd hx hn.1
    ·exact List.mem_append_right _ h)
  simp only [List.map_cons,List.map_append,List.sum_cons,List.sum_append]at *
  omega
theorem Xly {α:Type}(g:α->Nat)(p:α->Bool):∀l:List α,((l.filter p).map g).sum+((l.filter λx=>!p x).map g).sum=(l.map g).sum
 | []=>rfl
 | a :: r=>by
  have ih:=Xly g p r
  simp only [List.filter_cons,List.map_cons,List.sum_cons]
  cases p a<;>simp<;>omega
def Xxb (ts:List Tb)(p:List Fi):List Tb:=p.filterMap λf=>Xcf ts (f.lev,f.id)
theorem Xjo (ts:List Tb):∀p:List Fi,Xcc ts p=(Xxb ts p).flatMap (·.cs)
 | []=>rfl
 | f :: r=>by
  have ih:=Xjo ts r
  unfold Xcc Xxb at *
  rw[List.flatMap_cons,List.filterMap_cons,ih]
  cases Xcf ts (f.lev,f.id)<;>rfl
theorem Xnw (ts:List Tb):∀p:List Fi,((Xxb ts p).map λt=>t.h.2).Sublist (p.map (·.id))
 | []=>List.Sublist.slnil
 | f :: r=>by
  have ih:=Xnw ts r
  unfold Xxb at *
  rw[List.filterMap_cons,List.map_cons]
  cases e:Xcf ts (f.lev,f.id)with
  | none=>exact ih.cons _
  | some t=>
   have h2:t.h=(f.lev,f.id):=by unfold Xcf at e;simpa using List.find?_some e
   simp only [List.map_cons]
   rw[h2];exact ih.cons_cons _
theorem X2u {α β:Type}{f:α->β} : ∀ {l:List α},(l.map f).Nodup->l.Nodup
 | [],_=>List.nodup_nil
 | a :: r,h=>by
  rw[List.map_cons,List.nodup_cons]at h
  exact List.nodup_cons.2 ⟨λha=>h.1 (List.mem_map_of_mem ha),X2u h.2⟩
section
variable {n lv:Int}{V V':Vs}{ts ts':List Tb}{mem m:List Cell}{p:List Fi}{M:List Rw}{g:Cell->Nat}
theorem Xjp (hn:(p.map (·.id)).Nodup):wsum g (Xcc ts p)≤((ts.filter λt=>!kp p t).map λt=>wsum g t.cs).sum:=by
 rw[Xjo,Xg8]
 refine Xpl _ _ _ (X2u (List.Nodup.sublist (Xnw ts p) hn)) λt ht=>?_
 unfold Xxb at ht
 obtain⟨f,hf,e⟩:=List.mem_filterMap.1 ht
 have h2:t.h=(f.lev,f.id):=by unfold Xcf at e;simpa using List.find?_some e
 refine List.mem_filter.2 ⟨Xgz e,?_⟩
 cases hk:kp p t with
 | false=>rfl
 | true=>exact absurd h2 (Xfw.1 hk f hf)
theorem Xsr (hm:Mg mem m)(h:∃tbs:List Tb,ts'=ts++tbs∧tbs.flatMap (·.cs)=m):wsum g (allC [] ts')≤wsum g (allC mem ts):=by
 obtain⟨tbs,rfl,h⟩:=h
 have:=Xjn (g:=g) hm
 unfold allC
 rw[List.flatMap_append,List.nil_append,Xbu,Xbu,h]
 omega
theorem Xss (hm:Mg (Xcc ts p) m)(hn:(p.map (·.id)).Nodup)(h:∃tbs:List Tb,ts'=ts.filter (kp p)++tbs∧tbs.flatMap (·.cs)=m.filter (Xb0 V.fs lv)):wsum g (allC [] ts')≤wsum g (allC [] ts):=by
 obtain⟨tbs,rfl,h⟩:=h
 have h1:=Xjn (g:=g) hm
 have h2:wsum g (m.filter (Xb0 V.fs lv))≤wsum g m:=Xlx List.filter_sublist
 have h3:=Xjp (g:=g) (ts:=ts) hn
 have h4:=Xly (λt:Tb=>wsum g t.cs) (kp p) ts
 unfold allC
 rw[List.flatMap_append,List.nil_append,List.nil_append,Xbu,h,Xg8,Xg8]
 omega
end
theorem X5y {m:List Cell}{c:Cell}(hc:isC c=true)(hs:∀d∈m,d.key=c.key->d.seq<c.seq)(x:Cell):x∈(put m c).2↔x=c∨x∈m:=by
 have hps:=Xf2 m c
 have hh:has m c=false:=by
  unfold has
  cases e:suf m c with
  | nil=>rfl
  | cons d r=>
   have hd:d∈m:=by rw[←hps,e];simp
   cases h2:(decide (d.key=c.key) && decide (d.seq=c.seq))with
   | false=>exact h2
   | true=>
    simp only [Bool.and_eq_true,decide_eq_true_eq]at h2
    have:=hs d hd h2.1;omega
 unfold put
 rw[hc,hh]
 show x∈pre m c++c :: suf m c↔_
 rw[List.mem_append,List.mem_cons]
 have:x∈m↔x∈pre m c∨x∈suf m c:=by rw[←List.mem_append,hps]
 rw[this]
 constructor
 ·rintro (h|h|h)
  ·exact .inr (.inl h)
  ·exact .inl h
  ·exact .inr (.inr h)
 ·rintro (h|h|h)
  ·exact .inr (.inl h)
  ·exact .inl h
  ·exact .inr (.inr h)
theorem Xrq : ∀(cs m:List Cell),KUp cs->(∀c∈cs,isC c=true)->(∀d∈m,∀c∈cs,d.key=c.key->d.seq<c.seq)->Sorted m->Sorted (Xes m cs)∧∀x,x∈Xes m cs↔x∈cs∨x∈m
 | [],m,_,_,_,hm=>⟨hm,λx=>by show x∈m↔_;simp⟩
 | c :: r,m,hk,hc,hs,hm=>by
  rw[KUp,List.pairwise_cons]at hk
  have h1:=X5y (hc c List.mem_cons_self) (λd hd=>hs d hd c List.mem_cons_self)
  obtain⟨i1,i2⟩:=Xrq r (put m c).2 hk.2 (λx hx=>hc x (List.mem_cons_of_mem _ hx)) (λd hd x hx he=>by
   rcases(h1 d).1 hd with rfl|hd
   ·have:=hk.1 x hx;rw[he,Xa1]at this;cases this
   ·exact hs d hd x (List.mem_cons_of_mem _ hx) he) (Sorted.put hm c)
  refine⟨i1,λx=>?_⟩
  show x∈Xes (put m c).2 r↔_
  rw[i2,h1,List.mem_cons]
  constructor
  ·rintro (h|h|h)
   ·exact .inl (.inr h)
   ·exact .inl (.inl h)
   ·exact .inr h
  ·rintro ((h|h)|h)
   ·exact .inr (.inl h)
   ·exact .inl h
   ·exact .inr (.inr h)
def seqC (s:Int)(c:Cell):Cell:=⟨c.key,c.val,c.del,s⟩
theorem X0c (s:Int)(out:List Cell)(c:Cell):insK (out.map (seqC s)) (seqC s c)=(insK out c).map (seqC s):=by
 unfold insK
 rw[List.any_map,show((λx:Cell=>decide (x.key=(seqC s c).key)) ∘ seqC s)=λx=>decide (x.key=c.key) from rfl]
 split
 ·rfl
 ·rw[List.takeWhile_map,List.dropWhile_map,List.map_append,List.map_cons];rfl
theorem Xks (s:Int)(l:List Rw):Xa8 l s=(Xa8 l 1).map (seqC s):=by
 unfold Xa8
 induction l with
 | nil=>rfl
 | cons r l ih=>rw[List.foldr_cons,List.foldr_cons,ih,←X0c];rfl
theorem Xrr (s:Int):∀(l:List Cell) (M:List Rw),(l.map (seqC s)).foldl layC M=l.foldl layC M
 | [],_=>rfl
 | c :: r,M=>by rw[List.map_cons,List.foldl_cons,List.foldl_cons,Xrr s r];rfl
def layN (M:List Rw)(l:List Rw):List Rw:=(Xa8 l 1).foldl layC M
theorem X5z {c:Rw}{s:Int}(h:isC (c.cell 1)=true)(h1:1≤s)(h2:s≤1099511627776):isC (c.cell s)=true:=by
 unfold isC Rw.cell at *
 simp only [Bool.and_eq_true,decide_eq_true_eq]at *
 exact⟨⟨h.1.1,h1⟩,h2⟩
section
variable {n:Int}{V:Vs}{ts:List Tb}{mem:List Cell}{M:List Rw}{g:Cell->Nat}
theorem Sto.write (h:Sto n V ts mem)(hT:Sp.Told (allC mem ts) M){l:List Rw}(hc:Xb4 l=0)(hn:0≤n∧n<1099511627776):Sto (n+1) V ts (Xes mem (Xa8 l (n+1)))∧Sp.Told (allC (Xes mem (Xa8 l (n+1))) ts) (layN M l):=by
 obtain⟨_,_,_,h4⟩:=Xgu hc
 have hcs:∀c∈Xa8 l (n+1),isC c=true∧c.seq=n+1:=λc hc2=>by
  obtain⟨r,hr,rfl⟩:=Xhi hc2
  exact⟨X5z (h4 r hr) om9 om9,rfl⟩
 have hnew:∀d∈allC mem ts,∀c∈Xa8 l (n+1),d.key=c.key->d.seq<c.seq:=λd hd c hc2 _=>by
  have:=(h.okc d hd).2
  have:=(hcs c hc2).2
  omega
 obtain⟨p1,p2⟩:=Xrq (Xa8 l (n+1)) mem (Xja l _) (λc hc2=>(hcs c hc2).1) (λd hd=>hnew d (Xar.2 (.inl hd))) h.ms
 refine⟨⟨h.isv,h.fwd,h.bwd,h.nod,h.up,λc hc2=>?_,p1,λc hc2 t ht d hd hk=>?_,h.n2⟩,?_⟩
 ·rcases Xar.1 hc2 with hc2|hc2
  ·rcases(p2 c).1 hc2 with hc2|hc2
   ·have:=hcs c hc2;exact⟨this.1,by omega⟩
   ·have:=h.okc c (Xar.2 (.inl hc2));exact⟨this.1,by omega⟩
  ·have:=h.okc c (Xar.2 (.inr hc2));exact⟨this.1,by omega⟩
 ·rcases(p2 c).1 hc2 with hc2|hc2
  ·exact hnew d (Xar.2 (.inr ⟨t,ht,hd⟩)) c hc2 hk
  ·exact h.n1 c hc2 t ht d hd hk
 ·have:=Xnl (Xa8 l (n+1)) hT (Xja l _) hnew
  rw[Xks (n+1) l,Xrr,←Xks (n+1) l]at this
  refine Xkp this λx=>?_
  rw[List.mem_append,Xar,Xar,p2]
  constructor
  ·rintro (h|h|h)
   ·exact .inl (.inl h)
   ·exact .inl (.inr h)
   ·exact .inr h
  ·rintro ((h|h)|h)
   ·exact .inl h
   ·exact .inr (.inl h)
   ·exact .inr (.inr h)
theorem X0d (m:List Cell)(c:Cell):wsum g (put m c).2≤wsum g m+g c:=by
 unfold put
 split
 ·exact Nat.le_add_right _ _
 ·have:=congrArg (wsum g) (Xf2 m c)
  rw[Xbu]at this
  show wsum g (pre m c++c :: suf m c)≤_
  rw[Xbu,show wsum g (c :: suf m c)=g c+wsum g (suf m c) by unfold wsum;simp]
  omega
theorem Xnx : ∀(cs m:List Cell),wsum g (Xes m cs)≤wsum g m+wsum g cs
 | [],m=>Nat.le_refl _
 | c :: r,m=>by
  have h1:=Xnx r (put m c).2
  have h2:=X0d (g:=g) m c
  show wsum g (Xes (put m c).2 r)≤_
  rw[show wsum g (c :: r)=g c+wsum g r by unfold wsum;simp]
  omega
end
structure QsE (B:Nat)(qs:List (Value×List Cell))(w:World):Prop where
 row:∀q∈qs,Vc.Own Cell.cs 4 79 B w q.1 q.2
section
variable {B B':Nat}{qs:List (Value×List Cell)}{w w':World}{S:Nat->Prop}
theorem QsE.ext (h:QsE B qs w)(x:Ext w w'):QsE B qs w':=⟨λq hq=>(h.row q hq).ext x⟩
theorem QsE.mod (h:QsE B qs w)(m:Vc.Mod S w w')(hS:∀q∈qs,∀k,q.1.ownBlock=some k->¬ S k):QsE B qs w':=⟨λq hq=>(h.row q hq).mod m (hS q hq)⟩
theorem QsE.ne {α:Type}{enc:α->List Value}{sz T:Nat}{v:Value}{l:List α}(h:QsE B qs w)(ho:Vc.Own enc sz T B' w v l)(hT:Nat.beq 79 T=false):∀q∈qs,∀k,q.1.ownBlock=some k->¬ v.ownBlock=some k:=λq hq k hk=>(h.row q hq).ne ho hT hk
theorem QsE.snoc {v:Value}{l:List Cell}(h:QsE B qs w)(ho:Vc.Own Cell.cs 4 79 B w v l):QsE B (qs++[(v,l)]) w:=⟨λq hq=>(List.mem_append.1 hq).elim (h.row q) (λe=>by rw[List.mem_singleton.1 e];exact ho)⟩
theorem QsE.lt (h:QsE B qs w):∀q∈qs,∀k,q.1.ownBlock=some k->k<w.heap.size:=λq hq k hk=>((h.row q hq).lt k hk).2
end
theorem X0e {rem:List Tb}{t:Tb}(ht:t∈rem)(hnd:(rem.map (·.h)).Nodup):rem.Perm (t :: rem.filter λq=>decide (q.h≠t.h))∧((rem.filter λq=>decide (q.h≠t.h)).map (·.h)).Nodup∧∀y,(y∈rem.map (·.h)∧y≠t.h)↔y∈(rem.filter λq=>decide (q.h≠t.h)).map (·.h):=by
 refine⟨?_,List.Nodup.sublist (List.Sublist.map _ List.filter_sublist) hnd,λy=>?_⟩
 ·induction rem with
  | nil=>cases ht
  | cons a r ih=>
   rw[List.map_cons,List.nodup_cons]at hnd
   rw[List.filter_cons]
   by_cases e:a.h=t.h
   ·have ea:a=t:=by
     rcases List.mem_cons.1 ht with e2|h2
     ·exact e2.symm
     ·exact absurd (by rw[e];exact List.mem_map_of_mem h2) hnd.1
    rw[if_neg (by simp [e])]
    have:r.filter (λq=>decide (q.h≠t.h))=r:=List.filter_eq_self.2 λq hq=>by
     have:q.h≠t.h:=λe2=>hnd.1 (by rw[e,←e2];exact List.mem_map_of_mem hq)
     simpa using this
    rw[this,ea]
   ·rw[if_pos (by simpa using e)]
    have ht2:t∈r:=(List.mem_cons.1 ht).resolve_left (λe2=>e (by rw[e2]))
    exact((ih ht2 hnd.2).cons a).trans (List.Perm.swap t a _)
 ·simp only [List.mem_map,List.mem_filter,decide_eq_true_eq]
  constructor
  ·rintro ⟨⟨q,hq,rfl⟩,hn⟩;exact⟨q,⟨hq,hn⟩,rfl⟩
  ·rintro ⟨q,⟨hq,hn⟩,rfl⟩;exact⟨⟨q,hq,rfl⟩,hn⟩
def Yar (most:Int)(l:List Rw):List Rw:=if most<1 then l else l.take most.toNat
theorem X0f {qs:List (Value×List Cell)}{L:List (List Cell)}(h:qs.map (·.2)=L):qs.flatMap (·.2)=L.flatten:=by rw[←h,List.flatMap_def]
theorem Xxc {fs:List Fi}{lv i:Nat}{c:Cell}(h1:lv<i)(h:0<(Xcu fs ↑i c.key c.key).length):Xb0 fs ↑lv c=true:=by
 obtain⟨f,hf⟩:=List.exists_mem_of_length_pos h
 obtain⟨hf1,hf2⟩:=List.mem_filter.1 hf
 unfold Xda at hf2
 simp only [Bool.and_eq_true,decide_eq_true_eq]at hf2
 unfold Xb0
 rw[Bool.or_eq_true]
 refine .inr (List.any_eq_true.2 ⟨f,hf1,?_⟩)
 rw[decide_eq_true (show(↑lv:Int)<f.lev by omega),hf2.1.2,hf2.2];rfl
theorem X0g {fs:List Fi}{lv:Nat}{c:Cell}(hd:c.del=true)(hlv:∀f∈fs,0≤f.lev∧f.lev≤4)(h:∀i:Nat,lv<i->i<5->¬ 0<(Xcu fs ↑i c.key c.key).length):Xb0 fs ↑lv c=false:=by
 unfold Xb0
 rw[hd]
 rw[Bool.not_true,Bool.false_or,List.any_eq_false]
 intro f hf hx
 rw[Bool.and_eq_true,Bool.and_eq_true,decide_eq_true_eq]at hx
 have hr:=hlv f hf
 refine h f.lev.toNat om9 om9 (List.length_pos_of_mem (a:=f) (List.mem_filter.2 ⟨hf,?_⟩))
 unfold Xda
 rw[decide_eq_true (show f.lev=↑f.lev.toNat by omega),hx.2.1,hx.2.2];rfl
theorem Xst {fs:List Fi}{lv:Int}{c:Cell}(hd:c.del=false):Xb0 fs lv c=true:=by unfold Xb0;rw[hd];rfl
theorem X50 (bs bd bl:Nat)(n:Int)(vf:Value)(bo bm:Nat)(dead:Bool)(fs:List Fi)(c:Cell)(lv:Nat)(w:World)(hs:Blk w bs (stoC bd bl n vf bo bm dead) 90)(hv:Arr Fi.cs 5 w vf fs)(hl:fs.length≤100000)(hlv:∀f∈fs,0≤f.lev∧f.lev≤4)(hl4:lv≤4) :
  Calls Tryz.prog 53 [ptr bs 0,c.v,I ↑lv].toArray w (Pure w (B (Xb0 fs ↑lv c))):=by
 refine cw Tryz.func53 ?_
 have hx:=Ext.refl w
 refine ws λ_ Z1=>wr (Xbf rfl rfl rfl RX.all (λb1 w1 e1 x1 m1=>?_))
 have g1:=hx.ge e1
 replace hx:=hx.trans x1
 refine da (de Z1 (ws λ_ Z2=>ws λ_ Z3=>wr ?_))
 refine df 2 rfl (dl rfl (m1.at rfl) (dn (de Z3 ?_)))
 refine wc (λc1=>?_) λc1=>?_
 ·refine ws λ_ Z4=>wr (da (de Z4 (Xad ?_)))
  refine ro ?_
  exact⟨by rw[Xst (by simpa using c1)],hx⟩
 refine Xaa (Z2 _ _ (ws λ_ Z5=>ws λ_ Z6=>wr (dm ?_)))
 refine pa rfl rfl (da (de Z6 (Xab ?_)))
 refine Xaj (G:=Nat) (λi=>[(0,ptr bs 0),(4,ptr b1 0),(7,I ↑i)]) (λi w'=>Ext w w'∧lv<i∧i≤5∧(∀j:Nat,lv<j->j<i->¬ 0<(Xcu fs ↑j c.key c.key).length)∧Blk w' b1 c.cs 79) (λi=>5-i) (lv+1) ?_ ?_ ?_
 ·exact zz3
 ·exact⟨hx,by omega,by omega,λj h1 h2=>by omega,m1⟩
 intro X2 g2 w2 hF2
 revert hF2;revert g2;intro i hF2
 clear hx m1
 obtain⟨hx,hi1,hi2,hA,m1⟩:=hF2
 refine ws λ_ Z7=>ws λ_ Z8=>wr (dm ?_)
 refine dp (Xci rfl rfl) (de Z8 (wi (λc2=>?_) λc2=>?_))
 ·refine Xaa (Z7 _ _ (ws λ_ Z9=>Xab (ws λ_ Z10=>Xaq (R:=Ext) Ext.refl (λ_ _ _=>Ext.trans) kr9 [3,6,8] [(0,.p,false),(1,.p,false),(2,.p,false),(3,.l,false),(4,.p,false),(5,.p,false),(6,.l,false),(7,.p,false),(8,.l,false),(9,.x,true),(10,.p,false),(11,.p,false)] rfl kr9 kr9 (λw3 ew3=>?_))))
  have x3:=drewx ew3
  clear ew3
  replace m1:=m1.ext x3
  replace hx:=hx.trans x3
  refine dm ?_
  refine dz rfl (df 2 rfl (D_l rfl (λw' hR=>Xac kr9 rfl rfl ((hs.ext (hx.trans hR)).part 2 2)) (dm ?_)))
  refine df 0 rfl (dL rfl (λ_ hR=>((m1.ext hR).at rfl)) (df 0 rfl (dL rfl (λ_ hR=>((m1.ext hR).at rfl)) (cG (Xqz n fs vf ↑i c.key c.key _ (hv.ext hx) hl) RX.all λvo w4 x4 hO=>?_))))
  have hsz4:=hx.size
  replace m1:=m1.ext x4
  replace hx:=hx.trans x4
  refine dv 62 5 (hO.arr ir9).sl (dp (Xaw rfl rfl) (de Z10 (wi (λc3=>?_) λc3=>?_)))
  ·refine ws λ_ Z11=>wr (da (de Z11 (Xad ?_)))
   refine ro ?_
   exact⟨by rw[Xxc hi1 om9],hx⟩
  refine Xaa (Z9 _ _ (wr (dm ?_)))
  refine pa rfl rfl (da (Xae (?_)))
  refine⟨i+1,zz3,⟨hx,by omega,by omega,λj h1 h2=>?_,m1⟩,by omega⟩
  by_cases e9:j=i
  ·subst e9;omega
  ·exact hA j h1 om9
 refine Xah (Z5 _ _ (ws λ_ Z12=>wr (da (de Z12 (Xad ?_)))))
 refine ro ?_
 exact⟨by rw[X0g (by simpa using c1) hlv (λj h1 h2=>hA j h1 om9)],hx⟩
theorem X8z (bs bd bl:Nat)(n:Int)(vf:Value)(bo bm:Nat)(dead:Bool)(fs:List Fi)(c:Cell)(lv:Nat)(b1 b2:Nat)(w:World)(hs:Blk w bs (stoC bd bl n vf bo bm dead) 90)(hv:Arr Fi.cs 5 w vf fs)(hl:fs.length≤100000)(hlv:∀f∈fs,0≤f.lev∧f.lev≤4)(hl4:lv≤4)(hb1:Blk w b1 [ptr bs 0] 28)(hb2:Blk w b2 [I ↑lv] 3) :
  Calls Tryz.prog 52 [c.v,ptr b1 0,ptr b2 0].toArray w (Pure w (B (!Xb0 fs ↑lv c))):=by
 refine cw Tryz.func52 ?_
 have hx:=Ext.refl w
 refine ws λ_ Z1=>wr (Xbf rfl rfl rfl RX.all (λb1 w1 e1 x1 m1=>?_))
 have g1:=hx.ge e1
 replace hx:=hx.trans x1
 refine da (de Z1 (ws λ_ Z2=>wr ?_))
 refine dl rfl ((hb1.ext hx).at rfl) (dq (Xac (k:=4) kr9 rfl rfl m1.row) (dl rfl ((hb2.ext hx).at rfl) (cP (X50 bs bd bl n vf bo bm dead fs c lv _ (hs.ext hx) (hv.ext hx) hl hlv hl4) RX.all λw2 x2=>?_)))
 replace hx:=hx.trans x2
 refine dn (da (de Z2 (Xad ?_)))
 refine ro ?_
 exact⟨rfl,hx⟩
theorem X80 (l:List Cell)(v:Value)(Bo f:Nat)(cs:List Value)(p:Cell->Bool)(w:World)(ho:Vc.Own Cell.cs 4 79 Bo w v l)(hl:l.length≤1000000)(hcb:Xbw Tryz.prog f=true)(hc:∀w2,Vc.Mod (λk=>v.ownBlock=some k) w w2->∀x∈l,Calls Tryz.prog f ([x.v]++cs).toArray w2 (Pure w2 (B (p x)))) :
  Calls Tryz.prog 51 [v,fnC f cs].toArray w (Does (λk=>v.ownBlock=some k) w (λu w'=>Vc.Own Cell.cs 4 79 Bo w' u (l.filter λx=>!p x))):=by
 refine cw Tryz.func51 ?_
 have hx:=Vc.Mod.refl (λk=>v.ownBlock=some k) w
 have hvsl:=ho.sl
 refine ws λ_ Z1=>wr (da (de Z1 (ws λ_ Z2=>wr (dm (dm ?_)))))
 have ho2:=ho.mod hx
 refine cG (X43 l v f cs p _ (ho.arr ir9) om9 hcb (λw2 x2=>hc w2 (hx.ext x2))) RX.all λu1 w1 x1 hf1=>?_
 have hsz1:=hx.size
 replace ho:=ho.ext x1
 replace hx:=hx.ext x1
 obtain⟨i0,rfl,hfd⟩:=hf1
 refine da (de Z2 (ws λ_ Z3=>ws λ_ Z4=>wr (dm ?_)))
 refine dp (Xa9 rfl rfl) (de Z4 (wi (λc1=>?_) λc1=>?_))
 ·refine ws λ_ Z5=>wr (dm (da (de Z5 (Xad ?_))))
  refine ro ?_
  have e9:l.filter (λx=>!p x)=l:=List.filter_eq_self.2 λx hx9=>by
   rcases hfd with⟨_,h9⟩|⟨k9,e8,_⟩
   ·simpa using List.any_eq_false.1 h9 x hx9
   ·omega
  exact⟨_,rfl,hx,by rw[e9];exact ho⟩
 obtain⟨k0,rfl,hk1,x0,hx0,hp0⟩:∃k:Nat,i0=↑k∧(l.take k).any p=false∧∃x,l[k]?=some x∧p x=true:=hfd.elim (λh9=>absurd h9.1 (by simpa using c1)) (λh9=>h9)
 have hkl0:=(List.getElem?_eq_some_iff.1 hx0).1
 refine Xaa (Z3 _ _ (ws λ_ Z6=>ws λ_ Z7=>wr (dm ?_)))
 refine pa rfl rfl (da (de Z7 (Xab ?_)))
 refine Xaj (G:=Nat×Nat×List Cell) (λ(n,k,cur)=>[(0,v),(1,fnC f cs),(4,.slice none 0 0),(5,I ↑k),(6,I ↑n)]) (λ(n,k,cur) w'=>Mod (λk=>v.ownBlock=some k) w w'∧DelR p l n k cur∧Vc.Own Cell.cs 4 79 Bo w' v cur) (λ(n,k,cur)=>l.length-n) (k0+1,k0,l) ?_ ?_ ?_
 ·exact zz5
 ·exact⟨hx,X8l hx0 hp0 (λi y hi hy=>by cases e:p y with
  | false=>rfl
  | true=>exact absurd e (by have:=List.any_eq_false.1 hk1 y (List.mem_of_getElem? (i:=i) (by rw[List.getElem?_take,if_pos hi];exact hy));exact this)),ho⟩
 intro X2 g2 w2 hF2
 obtain⟨n,k,cur⟩:=g2
 clear hx ho
 obtain⟨hx,hr,ho⟩:=hF2
 have hcl:=hr.1
 have hr2:=hr.2.1
 have hr3:=hr.2.2.1
 have hb0:=Xcv ho (λe=>by rw[e]at hcl;simp at hcl;omega)
 refine ws λ_ Z8=>ws λ_ Z9=>wr (dm (dm ?_))
 refine dv 79 4 (ho.arr ir9).sl (dp (Xaf rfl rfl) (de Z9 (wi (λc2=>?_) λc2=>?_)))
 ·obtain⟨x,hk2⟩:∃x,l[n]?=some x:=gtE
  have hk:cur[n]?=some x:=(hr.2.2.2.2 n (Nat.le_refl n)).trans hk2
  refine Xaa (Z8 _ _ (ws λ_ Z10=>Xab (ws λ_ Z11=>wr (dm (dm ?_)))))
  refine di 79 4 (ho.arr ir9).sl rfl ((ho.arr ir9).lt hk) (dq (Xac kr9 rfl rfl ((ho.arr ir9).row hk)) (Xan (cs:=[S [],S [],B false,.int .i64 0]) rfl kr9 RX.all (λb1 w3 e1 x3 m1=>?_)))
  have g1:=hx.ge e1
  have o1_ho:=ho.ltb e1
  replace ho:=ho.ext x3
  replace hx:=hx.ext x3
  refine stA m1 (λw4 x4 xs4 m1=>?_)
  try dsimp only [Xal,List.set,List.take,List.drop]at m1
  try replace ho:=ho.mod x4 (by first|assumption|(intro k hk h;have h1:=(ho.lt k hk).1;have h2:k=b1:=h;omega)|(intro k hk h;have h1:=o1_ho k hk;have h2:k=b1:=h;omega)|(intro h;have h2:_=b1:=h;omega)|(intro hl h;have h1:=a1_ho hl;have h2:_=b1:=h;omega))
  replace hx:=hx.o1 x4
  refine de Z11 (ws λ_ Z12=>wr (dm ?_))
  refine dq (Xac (k:=4) kr9 rfl rfl m1.row) (Xh6 (vs:=[x.v]) (cs:=cs) rfl rfl hcb (hc _ hx x (List.mem_of_getElem? hk2)) rfl RX.all (λw5 x5=>?_))
  replace ho:=ho.ext x5
  replace m1:=m1.ext x5
  replace hx:=hx.ext x5
  refine dn (de Z12 ?_)
  refine wc (λc3=>?_) λc3=>?_
  ·refine ws λ_ Z13=>wr (dm (dm ?_))
   refine dq (Xac (k:=4) kr9 rfl rfl m1.row) (Xa2 (v:=ptr (base v).1 (k*4+0)) rfl (Xba (i:=k) (e:=79) (k:=4) kr9 ho.sl rfl rfl om9) (by rw[hb0];show ptr _ (0+_)=_;rw[Nat.zero_add];rfl) ?_)
   refine Xa3 (enc:=Cell.cs) (sz:=4) (l:=cur) (i:=k) (j:=0) (x:=x) (vs:=x.cs) ir9 rfl ho rfl rfl rfl kr9 om9 rfl (Nat.le_refl 4) (by intro v hv;simp at hv;rcases hv with rfl|rfl|rfl|rfl<;>rfl) (.inl rfl) (λw6 x6 xs6 ho_n=>?_)
   replace hx:=hx.own x6 (λi hi hlt=>hi)
   replace ho:=ho_n
   refine de Z13 (wr (dm ?_))
   refine pa rfl rfl (da (de Z10 (wr (dm ?_))))
   refine pa rfl rfl (da (Xae (?_)))
   first|exact⟨(n+1,k+1,_),zz5,⟨hx,Xrh hr hk2 (by simpa using c3),ho⟩,by simp only [];omega⟩|exact⟨(n+1,k,cur),zz5,⟨hx,Xwg hr hk2 (by simpa using c3),ho⟩,by simp only [];omega⟩
  refine Xaa (Z10 _ _ (wr (dm ?_)))
  refine pa rfl rfl (da (Xae (?_)))
  first|exact⟨(n+1,k+1,_),zz5,⟨hx,Xrh hr hk2 (by simpa using c3),ho⟩,by simp only [];omega⟩|exact⟨(n+1,k,cur),zz5,⟨hx,Xwg hr hk2 (by simpa using c3),ho⟩,by simp only [];omega⟩
 refine Xah (Z6 _ _ (ws λ_ Z14=>wr (dm (dm ?_))))
 refine dp (Xc1 (e:=79) (k:=4) (m:=cur.length) (a:=k) (b:=cur.length) kr9 ho.sl rfl rfl rfl om9 om9) ?_
 refine Xwh (enc:=Cell.cs) (sz:=4) (e:=79) (l:=cur) (k:=k) (zs:=[S [],S [],B false,.int .i64 0]) ir9 rfl kr9 kr9 rfl dc9 (by intro z hz;simp at hz;rcases hz with rfl|rfl|rfl|rfl<;>rfl) ho rfl om9 (.inl rfl) (λw7 x7 xs7 ho_n=>?_)
 replace hx:=hx.own x7 (λi hi hlt=>hi)
 replace ho:=ho_n
 refine de Z14 (ws λ_ Z15=>wr (dm (dm ?_)))
 refine dp (Xc1 (e:=79) (k:=4) (m:=l.length) (a:=0) (b:=k) kr9 hvsl rfl rfl rfl om9 om9) (da (de Z15 (Xad ?_)))
 refine ro ?_
 rw[hr.2.2.2.1,List.take_of_length_le om9]at ho
 exact⟨_,rfl,hx,ho⟩
def cOf (ts:List Tb)(f:Fi):List Cell:=match Xcf ts (f.lev,f.id)with
 | some t=>t.cs
 | none=>[]
theorem Xhq (ts:List Tb)(p:List Fi):Xcc ts p=(p.map (cOf ts)).flatten:=by rw[←List.flatMap_def];rfl
theorem Xxd {ts:List Tb}{f:Fi}{t:Tb}(h:Xcf ts (f.lev,f.id)=some t):cOf ts f=t.cs:=by unfold cOf;rw[h]
theorem Xny {ts:List Tb}{h k:Int×Int}(hk:k≠h):Xcf (ts.filter λq=>decide (q.h≠h)) k=Xcf ts k:=by
 unfold Xcf
 rw[List.find?_filter]
 congr 1
 funext q
 by_cases e:q.h=k
 ·have:q.h≠h:=λe2=>hk (e.symm.trans e2)
  simp [e,hk]
 ·simp [e]
theorem Xhr : ∀(p:List Fi) (ts:List Tb),(ts.map (·.h)).Nodup->(p.map λf=>(f.lev,f.id)).Nodup->(Xcc ts p).length≤(ts.flatMap (·.cs)).length
 | [],ts,_,_=>Nat.zero_le _
 | f :: r,ts,hn,hp=>by
  rw[List.map_cons,List.nodup_cons]at hp
  have e:Xcc ts (f :: r)=cOf ts f++Xcc ts r:=rfl
  rw[e,List.length_append]
  cases ht:Xcf ts (f.lev,f.id)with
  | none=>
   have e2:cOf ts f=[]:=by unfold cOf;rw[ht]
   rw[e2]
   have:=Xhr r ts hn hp.2
   simpa using this
  | some t=>
   have htm:=Xgz ht
   have hth:t.h=(f.lev,f.id):=by unfold Xcf at ht;simpa using List.find?_some ht
   obtain⟨h1,h2,_⟩:=X0e htm hn
   have h3:=Xhr r _ h2 hp.2
   have h4:Xcc (ts.filter λq=>decide (q.h≠t.h)) r=Xcc ts r:=by
    rw[Xhq,Xhq]
    congr 1
    apply List.map_congr_left
    intro g hg
    unfold cOf
    rw[Xny (λe9=>hp.1 (by rw[←hth,←e9];exact List.mem_map.2 ⟨g,hg,rfl⟩))]
   rw[h4]at h3
   have h5:=(List.Perm.flatMap_right (·.cs) h1).length_eq
   rw[List.flatMap_cons,List.length_append]at h5
   rw[Xxd ht];omega
theorem Xxe (fs:List Fi):Xcw fs []=fs:=by unfold Xcw;exact List.filter_eq_self.2 λf _=>by simp
section
variable {n:Int}{V V':Vs}{ts ts':List Tb}{mem mem':List Cell}{L L':Led}{D D':Dsk}{dead dead' ok:Bool}{e:Int}
theorem Sto.tlen (h:Sto n V ts mem):ts.length≤(allC mem ts).length:=by
 have:∀l:List Tb,(∀t∈l,t.cs≠[])->l.length≤(l.flatMap (·.cs)).length:=by
  intro l hl
  induction l with
  | nil=>exact Nat.zero_le _
  | cons t r ih=>
   have h1:=ih (λt ht=>hl t (List.mem_cons_of_mem _ ht))
   have h2:=List.length_pos_iff.2 (hl t List.mem_cons_self)
   rw[List.flatMap_cons,List.length_append,List.length_cons];omega
 have h1:=this ts (λt ht=>by obtain⟨f,_,hv⟩:=h.bwd t ht;exact hv.ne)
 unfold allC
 rw[List.length_append];omega
theorem Sto.cellsB (h:Sto n V ts mem)(hn:n≤1099511627776):∀c∈allC mem ts,c.key.length≤4096∧c.val.length≤16384∧c.seq≤4611686018427387904:=λc hc=>by
 have h1:=(h.okc c hc).1
 have h2:=(h.okc c hc).2
 unfold isC at h1
 simp only [Bool.and_eq_true,decide_eq_true_eq]at h1
 omega
theorem Xpm {α β:Type}(f:α->β):∀ {l:List α},(l.map f).Nodup->l.Nodup
 | [],_=>List.nodup_nil
 | a :: r,h=>by
  rw[List.map_cons,List.nodup_cons]at h
  exact List.nodup_cons.2 ⟨λh2=>h.1 (List.mem_map_of_mem h2),Xpm f h.2⟩
theorem Xnz {p:List Fi}(h:(p.map (·.id)).Nodup):(p.map λf=>(f.lev,f.id)).Nodup:=by
 have e:(p.map λf=>(f.lev,f.id)).map Prod.snd=p.map (·.id):=by rw[List.map_map];rfl
 rw[←e]at h
 exact Xpm _ h
theorem Xpn (h:Sto n V ts mem)(hf:FluP L D V ts mem false ok 0 L' D' V' ts' mem' dead') :
  dead'=false∧mem'=[]∧Sto n V' ts' []∧(∀c∈allC [] ts',c∈allC mem ts)∧(allC [] ts').length≤(allC mem ts).length∧((Xem V.fs).isSome=true->(Xem V'.fs).isSome=true)∧L'.last=L.last∧L'.ents.length≤L.ents.length∧(∀M,Sp.Told (allC mem ts) M->Sp.Told (allC [] ts') M)∧(∀g:Cell->Nat,wsum g (allC [] ts')≤wsum g (allC mem ts)):=by
 rcases hf with⟨h1,_⟩|⟨_,rfl,_,_,rfl,rfl,rfl,rfl,rfl,rfl⟩|⟨_,_,m,hm,hc,h2⟩
 ·cases h1
 ·exact⟨rfl,rfl,h,λc hc=>hc,Nat.le_refl _,λh=>h,rfl,Nat.le_refl _,λM h=>h,λg=>Nat.le_refl _⟩
 ·obtain⟨⟨h3,h4⟩,h5⟩:=Xc3 hc
  rcases h5 with⟨h5,_⟩|⟨_,rfl,hs⟩
  ·exact absurd rfl h5
  ·rcases h2 with⟨h2,_⟩|⟨_,_,rfl⟩
   ·exact absurd rfl h2
   ·obtain⟨hmu,hmt⟩:=Xrk (Xgc h.ms) hm
    obtain⟨k1,tbs,k2,k3⟩:=hs.sto h (λf hf=>(by cases hf)) hmu (λc hc=>Xar.2 (.inl ((hmt c).1 hc).1)) (λu hu _ _ c hc d hd hk=>h.n1 c ((hmt c).1 hc).1 u hu d hd hk) (λt ht _ hl=>by have:=(h.lev ht).1;omega)
    have k0:ts.filter (kp [])=ts:=List.filter_eq_self.2 λt _=>rfl
    rw[k0]at k2
    have hsub:=Xnr hm
    refine⟨rfl,rfl,k1,λc hc=>?_,?_,λhp=>?_,h3,h4,λM hT=>(hs.flush h hm hT).2.1,λg=>?_⟩
    ·rw[k2]at hc
     rcases Xar.1 hc with hc|⟨t,ht,hc⟩
     ·cases hc
     ·rcases List.mem_append.1 ht with ht|ht
      ·exact Xar.2 (.inr ⟨t,ht,hc⟩)
      ·exact Xar.2 (.inl (hsub.2 c (by rw[←k3];exact List.mem_flatMap.2 ⟨t,ht,hc⟩)))
    ·rw[k2]
     unfold allC
     rw[List.nil_append,List.flatMap_append,k3,List.length_append,List.length_append]
     have:=hsub.1;omega
    ·obtain⟨fs',hp9,_,rfl⟩:=hs.vs
     rw[List.map_nil,Xxe]at hp9
     exact Xw9 hp9 hp
    ·rw[k2]
     unfold allC
     rw[List.nil_append,List.flatMap_append,k3,Xbu,Xbu]
     have:=Xjn (g:=g) hm;omega
end
def CmpP (L:Led)(D:Dsk)(V:Vs)(ts:List Tb)(mem:List Cell)(dead did:Bool)(e:Int)(L':Led)(D':Dsk)(V':Vs)(ts':List Tb)(mem':List Cell)(dead':Bool):Prop:=
 (dead=true∧did=false∧e=9∧L'=L∧D'=D∧V'=V∧ts'=ts∧mem'=mem∧dead'=dead)∨
 (dead=false∧Xem V.fs=none∧did=false∧e=0∧L'=L∧D'=D∧V'=V∧ts'=ts∧mem'=mem∧dead'=dead)∨
 (dead=false∧(Xem V.fs).isSome=true∧∃ok e1 L1 D1 V1 ts1 mem1 dead1,FluP L D V ts mem false ok e1 L1 D1 V1 ts1 mem1 dead1∧
  ((e1≠0∧did=false∧e=e1∧L'=L1∧D'=D1∧V'=V1∧ts'=ts1∧mem'=mem1∧dead'=dead1)∨
   (e1=0∧∃(p:List Fi) (lv:Nat) (m:List Cell) (e2:Int) (D2:Dsk) (dead2:Bool),Xem V1.fs=some p∧PickP V1 p ↑lv∧Mg (Xcc ts1 p) m∧ChgP L1 D1 V1 ts1 false (m.filter (Xb0 V1.fs ↑lv)) ↑lv p e2 L' D2 V' ts' dead2∧mem'=[]∧
    ((e2≠0∧did=false∧e=e2∧D'=D2∧dead'=dead2)∨
     (e2=0∧D'=(D2.rem (p.map λf=>Xbc f.id)).2∧(((D2.rem (p.map λf=>Xbc f.id)).1≠0∧did=false∧e=(D2.rem (p.map λf=>Xbc f.id)).1∧dead'=true)∨((D2.rem (p.map λf=>Xbc f.id)).1=0∧did=true∧e=0∧dead'=dead2)))))))
end Go.Proofs.YtiooodckiddpmaaGreatDoor
namespace Go.Vc
open Go.ChangeShapes Go.WideShapes Go.ChangeAt Go.RowKit
section
variable {H:Type}{enc:TypeId×Value->H}{P:Program}{W W':World}{base:Nat}
def readB (P:Program)(t:TypeId):Bool:=P.readableRec t && decide (t<P.types.size)
theorem Xjq (hl:laidOutB P=true)(hx:Ext W W'):∀ {ts:List TypeId} {vs:List Value} {ds:List (DataW H)} {ps:List MemPlace},ts.all (readB P)=true->DataW.TrodAll enc P W 0 (λ_=>true) true ts vs ds ps->
  (∀p∈ps,p.block<W.heap.size)->DataW.TrodAll enc P W' 0 (λb=>decide (b<W.heap.size)) true ts vs ds ps
 | [],[],[],_,_,h,_=>h
 | t :: ts,v :: vs,d :: ds,ps,hr,h,hlt=>by
  obtain⟨p,q,h1,h2,rfl⟩:=h
  simp only [List.all_cons,Bool.and_eq_true]at hr
  have hr1:P.readableRec t=true∧t<P.types.size:=by simpa [readB]using hr.1
  exact⟨p,q,Below.trod hl hr1.1 hr1.2 h1 hx.below (λx hx=>hlt x (by simp [hx])),Xjq hl hx hr.2 h2 (λx hx=>hlt x (by simp [hx])),rfl⟩
 | [],[],_ :: _,_,_,h,_=>h.elim
 | [],_ :: _,_,_,_,h,_=>h.elim
 | _ :: _,[],_,_,_,h,_=>h.elim
 | _ :: _,_ :: _,[],_,_,h,_=>h.elim
theorem Ext.kept (hx:Ext W W')(may:MemPlace->Prop):W.keptBut W' may:=hx.below.frame may
theorem Xxf {f:Func}{s:ChangeSpec}{fresh handsOn:Bool}{args:Array Value}{ds gs:List (DataW H)}{before:List MemPlace}{tb:TypeId}(hl:laidOutB P=true)(hts:f.params.toList.all (readB P)=true)
  (hrt:f.resultTypes=#[tb]) (hb:P.underlying tb=some .bool) (hv:s.vars=[]) (hs:s.fn H ds={ results:=[.lit (.bool true)],args:=ds })
  (hW:DataW.Whole enc P f.params.toList s.vars false W args.toList ds gs before) (hx:Ext W W'):s.post enc P f false fresh handsOn false W args (.bool true) W':=by
 have hW':=hW
 obtain⟨p,q,hA,hV,rfl,hfz,hnd⟩:=hW
 rw[hv]at hV
 obtain⟨rfl,rfl⟩:=trodVars_none hV
 have hlt:∀x∈p,x.block<W.heap.size:=λx hx=>by have:=hW'.lt x (by simp [hx]);simpa using this
 have e:s.fn H (ds++[])={ results:=[.lit (.bool true)],args:=ds }:=by rw[List.append_nil,hs]
 refine⟨ds,[],p++[],[],p,[],hW',?_,?_,?_,hx.kept _,λh=>by cases h⟩
 ·rw[e,hrt]
  exact trodAll_mk1 (shut_bool hb true)
 ·rw[e];exact Xjq hl hx hts hA hlt
 ·rw[e,hv];rfl
theorem X2v {n:Int}(h:(Lit.int .i64 n).wf=true):Xai n:=by
 have:IntKind.i64.min≤n∧n≤IntKind.i64.max:=by simpa [Lit.wf]using h
 simpa [Xai,IntKind.min,IntKind.max,IntKind.signed,IntKind.bits]using this
inductive Kd where
 | s
 | b
 | i (k:IntKind)
def kdOf (P:Program)(t:TypeId):Option Kd:=match P.underlying t with
 | some .string=>some .s
 | some .bool=>some .b
 | some (.int k)=>some (.i k)
 | _=>none
def X81 (P:Program):List Field->Nat->Option (List Kd)
 | [],_=>some []
 | f :: r,o=>if f.offset == o && P.cellsOf f.type == 1 then(match kdOf P f.type,X81 P r (o+1)with
  | some k,some ks=>some (k :: ks)
  | _,_=>none)else none
def Yai (P:Program)(t:TypeId):Option (List Kd):=match P.underlying t with
 | some (.struct fs)=>X81 P fs.toList 0
 | _=>none
def X51 : List Kd->List Value->Prop
 | [],[]=>True
 | .s :: r,v :: c=>(∃x:Str,v=S x∧x.length≤maxLen)∧X51 r c
 | .b :: r,v :: c=>(∃x:Bool,v=.bool x)∧X51 r c
 | .i k :: r,v :: c=>(∃x:Int,v=.int k x∧(Lit.int k x).wf=true)∧X51 r c
 | _,_=>False
end
end Go.Vc
