/-
 A part of the proof: SyH SyI EmR BgA LwT SyL.
-/
import Derived.Test.YtiooodckiddpmaaGreatDoorSkA
import Derived.Test.YtiooodckiddpmaaGreatDoorChecked
import Derived.KernelRfl
import Derived.Test.YtiooodckiddpmaaGreatDoorSkJ
import Derived.Test.YtiooodckiddpmaaGreatDoorSkH
import Derived.Test.YtiooodckiddpmaaGreatDoorSkI
open List renaming length_append->Aa,take->Ad,set->Af,drop->Ag,mem_singleton->Ah,mem_cons->Aj,mem_of_getElem?->Ak,mem_cons_of_mem->Am,length_map->Ao,getElem?_eq_some_iff->Ap,mem_map->Aq,length_take->A5,length->AC,map_append->AH,take_length->AI,mem_map_of_mem->Bx,getElem_map->CC,forall_mem_cons->CD,mem_of_mem_take->DE,filter_eq_nil_iff->DF,filter_cons_of_pos->E5,filter_cons_of_neg->E6
open Nat renaming le_refl->Ab,zero_le->Ae,le_trans->Ai,le_of_ble_eq_true->Av,lt_of_lt_of_le->Az,lt_irrefl->A6,not_lt->Ba,le_succ->Cj
open Option renaming some->A0
open UInt8 renaming ofNat->AJ
open Decidable renaming byContradiction->AP
open Prod renaming mk->Bl
open Int renaming ofNat_lt->DU
set_option maxRecDepth 100000
set_option maxHeartbeats 4000000
set_option linter.unusedVariables false
set_option linter.unusedSimpArgs false
namespace Go.Proofs.YtiooodckiddpmaaGreatDoor
open Go.Vc Go.Sp
attribute [local irreducible] W XW Dw Gs
section
variable {n:Int}{L:Led}{b0:Int}{x9:EC}{D:Dsk}{V:Vs}{ts:List Tb}{mem':List Cell}
theorem FC.ledC (h:FC L b0 x9 D V ts)(hla:b0+L.ents.length<=1099511627776)(hlb:L.base<=1099511627776)(hec:L.ents.length<=1000):LedC L b0 x9 D:=by
 refine⟨h.fu,?_,h.log,h.xt,h.st,h.h0,?_,hlb,hla,?_,?_,hec⟩
 ·rcases h.img with⟨h1,h2,h3,_⟩|⟨⟨k,h1⟩,_⟩
  ·exact .inl ⟨h1,h2,h3⟩
  ·exact .inr ⟨k,h1⟩
 ·have h1:=h.h0;rcases h.st with h2|h2<;>omega
 ·rcases h.img with⟨_,_,h3,_⟩|⟨_,h2,h3⟩
  ·rw[h3];exact Ae _
  ·rw[h2];omega
 ·intro e he;obtain⟨bs,b1,r⟩:=h.bs;rw[b1]at he;obtain⟨b,z,rfl⟩:=Aq.1 he;exact Ya (r b z)
theorem FC.file {D1:Dsk}(h:FC L b0 x9 D V ts)(hS:Sto n V ts mem'){f:Fi}(hf:f∈V.fs)(hlk:∀m,m≠Led.img++[126]->m≠Led.logn->lk D1.fs m=lk D.fs m):(∃k,lk D1.fs (FJ f.id)=some ⟨EG (EG (Fo (IU ts f))),k⟩)/\Hx (IU ts f)=0/\(EG (Fo (IU ts f))).length<=1048576/\f.fst=(Gh (IU ts f) 0).key/\f.lst=(Gh (IU ts f) ((IU ts f).length-1)).key:=by
 obtain⟨t,r,hv⟩:=hS.fwd f hf;have e:IU ts f=t.cs:=Rp (by rw[<-hv.h];exact P1 hS.nod r);rw[e];refine⟨?_,(h.tok t r).1,(h.tok t r).2,hv.fst,hv.lst⟩;have h1:=h.tab t r;have h2:=hS.lev r;rw[hv.h]at h1 h2;rw[hlk _ (λz=>R7 (n:=f.id) EB (by rw[z];simp)) (Mx _)];exact h1
theorem FC.ver (h:FC L b0 x9 D V ts):(0<L.base\/0<L.data.length)->L.data=FO V/\(FO V).length<=262144:=λr=>by
 rcases h.img with⟨_,h2,h3,_⟩|⟨_,h2,h3⟩
 ·rw[h2,h3]at r;rcases r with r|r
  ·omega
  ·exact absurd r (A6 0)
 ·exact⟨h2,h3⟩
theorem FC.ver0 (h:FC L b0 x9 D V ts):¬ (0<L.data.length)->V=⟨1,[]⟩:=λr=>by
 rcases h.img with⟨_,_,_,h4⟩|⟨_,h2,_⟩
 ·exact h4
 ·exfalso
  apply r
  rw[h2];have h8:1<=(EV V.next.toNat).length:=NC 9 _;unfold FO;simp only [Aa];omega
end
theorem Xts (F:Nat->Prop)(bd:Nat)(L:Led)(b0 n0:Int)(x9:EC)(D:Dsk)(V:Vs)(ts:List Tb)(mem0:List Cell)(w:World)(hD:FSq F bd D w)(hFC:FC L b0 x9 D V ts)(hS0:Sto n0 V ts mem0)(hla:b0+L.ents.length<=1099511627776)(hlb:L.base<=1099511627776)(hec:L.ents.length<=1000)(hgv:GV w)(hgF:∀k,Ls k->¬ F k) :
  Calls Tryz.prog 24 [EE bd 0].toArray w (Ff F w (λu w'=>∃κ bs bl bo bm vf L' D' mem' ts2,u=.tuple #[EE bs 0,I 0]/\StE κ bs bd bl bo bm vf L' D' V ts2 mem' false w'/\Qu D' [116] (V.fs.map λf=>FJ f.id))):=by
 refine cw Tryz.func24 ?_;have r:=Vc.Mod.refl F w;have hA:=hD;have yp:=hD.lt;have z9:=hFC.ledC hla hlb hec;obtain⟨bs9,hbs1,hbs2⟩:∃bs9:List (List Rw),(LC L b0).ents=bs9.map F0/\∀b∈bs9,H8 b=0:=by
  obtain⟨bs,q1,q2⟩:=hFC.bs
  by_cases e:b0=L.base
  ·exact⟨bs,by unfold LC;rw[if_pos e];exact q1,q2⟩
  ·exact⟨[],by unfold LC;rw[if_neg e];rfl,λb hb=>(by cases hb)⟩
 have hbl9:bs9.length<=1000:=by
  have O:=congrArg AC hbs1;rw[Ao]at O;have h8:(LC L b0).ents.length<=L.ents.length:=by unfold LC;dsimp only;split;exact Ab _;exact Ae _
  omega
 obtain⟨_,_,yl,z4,yx,_⟩:=Ij hS0.isv;have hvl:V.fs.length<=1024:=yl;refine ws λ_ Z1=>wr (da (da (de Z1 (ws λ_ Z2=>ws λ_ Z3=>wr (dm ?_)))));refine dp (Gi EA rfl rfl) (de Z3 (wi (λc1=>?_) λc1=>?_))
 ·exact absurd c1 ER
 refine EI (Z2 _ _ (ws λ_ Z4=>wr (dm ?_)));refine cD (X13 F bd D L b0 x9 _ hA z9) (.inl rfl) λu1 w1 x1 xr=>?_;have hsz1:=r.size;have r:=r.own x1 (λi hi ha=>hi);obtain⟨bl,rfl,hbl,D1,hp,yh,yg⟩:=xr;have hw1:=x1.size;refine dm ?_;refine dx rfl rfl (dx rfl rfl (da (da (de Z4 (ws λ_ Z5=>ws λ_ Z6=>wr (dm ?_))))));refine dp (FH rfl rfl) (de Z6 (wi (λc2=>?_) λc2=>?_))
 ·exact absurd rfl c2
 refine EI (Z5 _ _ (ws λ_ Z7=>wr (dm (dm ?_))));refine db (zs:=[.int .i64 0,.slice none 0 0]) (pl:=[(0,1),(1,1)]) (pv:=[(0,_)]) (cs:=[_,.slice none 0 0]) ?_;refine Xs2 MV rfl RX.all (λb1 w2 e1 x2 hh=>?_);have g1:=r.ge e1;have hp:=hp.ext x2;have r:=r.ext x2;have hmp9:=hh.lt;refine cG (VR [] (.slice none 0 0) _ ((Vc.Own.nil (enc:=Iz) (sz:=1) (T:=0) (B:=0)).arr EF) EN) RX.all λu3 w3 x3 zm=>?_;have hsz3:=r.size;have hp:=hp.ext x3;have hh:=hh.ext x3;have r:=r.ext x3;obtain⟨bm,rfl,ht⟩:=zm;refine db (zs:=[.pointer none,.pointer none,.int .i64 0,.slice none 0 0,.map none,.pointer none,B false]) (pl:=[(0,1),(1,1),(2,2),(4,1),(5,1),(6,1)]) (pv:=[(0,_),(1,_),(2,.agg ⟨[_,_]⟩),(3,_),(4,_)]) (cs:=[_,_,_,_,_,_,B false]) ?_;refine Gn rfl rfl rfl RX.all (λb2 w4 e2 x4 m2=>?_);have g2:=r.ge e2;have n2_mp1:=hh.lt;have a2_hMn:=ht.lt;have o2_hMn:=ht.lt;have hp:=hp.ext x4;have hh:=hh.ext x4;have ht:=ht.ext x4;have r:=r.ext x4;refine da (de Z7 ?_);refine Hz (G:=(Nat->Nat)×Value) (λ(κ1,vf)=>[(0,EE bd 0),(6,EE b2 0)]) (λ(κ1,vf) w'=>Mod F w w'/\StE κ1 b2 bd bl b1 bm vf (LC L b0) D1 V [] [] false w'/\(∀k,k<w.heap.size->κ1 k≠0->F k)) ?_ ?_
 ·refine ws λ_ Z8=>wr ?_;obtain⟨κ1,y1,z⟩:=StE.fresh m2 hp hh ht (λk hk=>by rcases hk with hk|hk;have h6:=yp k hk;omega;omega) (λk hk=>⟨by omega,by omega⟩) EB;have Z:(∀k,k<w.heap.size->κ1 k≠0->F k):=λk hk O=>(y1 k O).elim (λh8=>OW h8 hk) (λh8=>by omega);refine dm ?_;refine cG (z.ld.calls_base) RX.all λu5 w5 x5 zb=>?_;have hsz5:=r.size;have z:=z.ext x5;have r:=r.ext x5;obtain⟨vx,rfl,xa⟩:=zb;refine dm ?_;refine dx rfl rfl (dx rfl rfl (da (da (de Z8 (ws λ_ Z9=>wr (dm ?_))))));refine dp (Gg rfl rfl) (dm ?_);refine F4 39 rfl (λc3=>?_) (λc3=>?_)
  ·refine dk (dk (dk (EP (de Z9 ?_))));refine GS rfl (ws λ_ z1=>wr (dm (dm ?_)));have xb:0<L.base\/0<L.data.length:=by
    first
    | exact .inl c3
    | exact .inr (DU.1 c5)
   obtain⟨ya,x0⟩:=hFC.ver xb;have xe:=xa.arr EF;rw[ya]at xe;have hr:=z.lt;have yb:=z.m.lt;refine cG (Tz V.next V.fs vx _ xe hS0.isv (by have O:(FO V).length<=262144:=x0;exact Ai O EN)) RX.all λu6 w6 x6 zd=>?_;have yo:=r.size;have z:=z.ext x6;have xa:=xa.ext x6;have r:=r.ext x6;obtain⟨vf,rfl,hc⟩:=zd;have xz:∀k,_<=k->κ1 k=0:=λk hk=>AP λO=>absurd (hr k O) (Ba.2 hk);have ze:=yo;refine dm ?_;refine dx rfl rfl (dx rfl rfl (dz rfl (df 2 rfl (Lg (v:=.agg ⟨[I V.next,vf]⟩) (vs:=[I V.next,vf]) rfl rfl rfl rfl EA z.m (Av rfl) (by intro u hu;rcases Aj.1 hu with e|hu;subst e;rfl;rw[Ah.1 hu];exact hc.sl.one) (.inl rfl) (λw7 x7 xs7 xx=>?_)))));have h7:=z.setV (V':=V) (vf':=vf) x7 xx (hc.arr EF) (λhl=>xz _ (hc.base_ge hl).1);have r:=r.own x7 (λi hi ha=>by have zq:i=b2:=hi;omega);have hf:∀k,k<w.heap.size->(if V.fs=[]then κ1 else IL κ1 (base vf).1 4) k≠0->F k:=λk hk O=>by
    by_cases e9:V.fs=[]
    ·rw[if_pos e9]at O;exact Z k hk O
    ·rw[if_neg e9]at O;unfold IL at O;have h8:=(hc.base_ge e9).1;rw[if_neg EB]at O;exact Z k hk O
   have z:=h7;refine da (de z1 (ws λ_ zl=>wr (dm ?_)));refine dp (FH rfl rfl) (de zl (wi (λc4=>?_) λc4=>?_))
   ·exact absurd rfl c4
   refine EI ?_;exact⟨(_,vf),Lo,r,z,hf⟩
  refine dm ?_;refine dv 5 1 (xa.arr EF).sl (dp (Gg rfl rfl) (EP (de Z9 ?_)));refine wi (λc5=>?_) λc5=>?_
  ·refine ws λ_ zw=>wr (dm (dm ?_));have xb:0<L.base\/0<L.data.length:=by
    first
    | exact .inl c3
    | exact .inr (DU.1 c5)
   obtain⟨ya,x0⟩:=hFC.ver xb;have xe:=xa.arr EF;rw[ya]at xe;have hr:=z.lt;have yb:=z.m.lt;refine cG (Tz V.next V.fs vx _ xe hS0.isv (by have O:(FO V).length<=262144:=x0;exact Ai O EN)) RX.all λu8 w8 x8 yy=>?_;have yd:=r.size;have z:=z.ext x8;have r:=r.ext x8;obtain⟨vf,rfl,hc⟩:=yy;have xz:∀k,_<=k->κ1 k=0:=λk hk=>AP λO=>absurd (hr k O) (Ba.2 hk);have ze:=yd;refine dm ?_;refine dx rfl rfl (dx rfl rfl (dz rfl (df 2 rfl (Lg (v:=.agg ⟨[I V.next,vf]⟩) (vs:=[I V.next,vf]) rfl rfl rfl rfl EA z.m (Av rfl) (by intro u hu;rcases Aj.1 hu with e|hu;subst e;rfl;rw[Ah.1 hu];exact hc.sl.one) (.inl rfl) (λw9 x9 xs9 xx=>?_)))));have h7:=z.setV (V':=V) (vf':=vf) x9 xx (hc.arr EF) (λhl=>xz _ (hc.base_ge hl).1);have r:=r.own x9 (λi hi ha=>by have zq:i=b2:=hi;omega);have hf:∀k,k<w.heap.size->(if V.fs=[]then κ1 else IL κ1 (base vf).1 4) k≠0->F k:=λk hk O=>by
    by_cases e9:V.fs=[]
    ·rw[if_pos e9]at O;exact Z k hk O
    ·rw[if_neg e9]at O;unfold IL at O;have h8:=(hc.base_ge e9).1;rw[if_neg EB]at O;exact Z k hk O
   have z:=h7;refine da (de zw (ws λ_ zr=>wr (dm ?_)));refine dp (FH rfl rfl) (de zr (wi (λc6=>?_) λc6=>?_))
   ·exact absurd rfl c6
   refine EI ?_;exact⟨(_,vf),Lo,r,z,hf⟩
  refine EI ?_;have y3:=hFC.ver0 (λO=>c5 (DU.2 O));rw[<-y3]at z;exact⟨(κ1,.slice none 0 0),Lo,r,z,Z⟩
 intro X10 y6 w10 yu;obtain⟨κ1,vf⟩:=y6;clear r hp hh ht m2;obtain⟨r,z,Z⟩:=yu;refine ws λ_ y4=>wr (da (de y4 (ws λ_ y0=>ws λ_ zt=>wr (dm ?_))));refine dz rfl (df 2 rfl (df 1 rfl (dl rfl (z.m.at rfl) (dv 62 5 z.vs.sl (dm (de zt (EM ?_)))))));refine Fq (G:=Nat×(Nat->Nat)×List Tb×Value) (λ(k,κ1,ts2,vn)=>[(0,EE bd 0),(6,EE b2 0),(9,vn),(59,vf),(60,I ↑V.fs.length),(61,I ↑k)]) (λ(k,κ1,ts2,vn) w'=>Mod F w w'/\k<=V.fs.length/\ts2.map (λt=>(t.h,t.cs))=(V.fs.take k).map (λf=>((f.lev,f.id),IU ts f))/\StE κ1 b2 bd bl b1 bm vf (LC L b0) D1 V ts2 [] false w'/\(∀k,k<w.heap.size->κ1 k≠0->F k)/\Vc.Own FU 1 9 w.heap.size w' vn ((V.fs.take k).map λf=>FJ f.id)/\(∀j,vn.ownBlock=some j->κ1 j=0)) (λ(k,κ1,ts2,vn)=>V.fs.length-k) (0,κ1,[],.slice none 0 0) ?_ ?_ ?_
 ·exact G2
 ·exact⟨r,Ae _,rfl,z,Z,Vc.Own.nil,λj Y=>(by cases Y)⟩
 intro X11 zk w11 yj;obtain⟨k,κ1,ts2,vn⟩:=zk;clear r z;obtain⟨r,hk1,xd,z,Z,J,xf⟩:=yj;refine ws λ_ ua=>wr (dp (Fb rfl rfl) (de ua (ws λ_ y9=>wi (λc7=>?_) λc7=>?_)))
 ·obtain⟨f,hk⟩:∃f,V.fs[k]?=some f:=Fw;have hz:=Ak hk;obtain⟨⟨kk,zx⟩,za,hle,xr,y8⟩:=hFC.file hS0 hz yg;have hff:=Jk (z4 f hz);have xo:EU f.id:=(MI hS0.isv f hz).1;have zy:EU f.lev:=(MI hS0.isv f hz).2;have y7:ts2.length<=k:=by have O:=congrArg AC xd;rw[Ao,Ao,A5]at O;omega
  have z6:∀y∈ts2,y.h≠(f.lev,f.id):=λy hy e=>by
   have O:=Bx (f:=λt:Tb=>(t.h,t.cs)) hy;rw[xd]at O;obtain⟨g,hg,e2⟩:=Aq.1 O;have e3:=(Bl.inj e2).1;rw[e]at e3;have e4:g.id=f.id:=(Bl.inj e3).2;have zu:g=f:=L9 yx (DE hg) hz e4;subst zu;obtain⟨j,Y⟩:=List.getElem?_of_mem hg;have zp:=(Ap.1 Y).1;rw[A5]at zp;rw[List.getElem?_take,if_pos EB]at Y;obtain⟨q1,q2⟩:=Ap.1 Y;obtain⟨q3,q4⟩:=Ap.1 hk;have yw:=List.pairwise_iff_getElem.1 yx j k (by rw[Ao];exact q1) (by rw[Ao];exact q3) EB;rw[CC,CC,q2,q4]at yw;exact yw rfl
  have xl:=z.lt;refine EI (y9 _ _ (ws λ_ zg=>EM (ws λ_ z3=>wr (di 62 5 z.vs.sl rfl (z.vs.lt hk) (dq (Fe EA rfl rfl (z.vs.row hk)) (FP (cs:=[.int .i64 0,.int .i64 0,.int .i64 0,S [],S []]) rfl EA RX.all (λb3 w12 e3 xn m3=>?_)))))));have g3:=r.ge e3;have a3_hS:=z.lt;have hq:=J.ltb e3;have z:=z.ext xn;have J:=J.ext xn;have r:=r.ext xn;refine FY m3 (λw13 xm xs13 m3=>?_);dsimp only [EY,Af,Ad,Ag]at m3;have z:=z.mod xm (λj Y e=>by have h2:j=b3:=e;have h8:=xl j Y;omega);have J:=J.mod xm (by intro k hk h;have h1:=hq k hk;have h2:k=b3:=h;omega);have r:=r.o1 xm;refine de z3 (ws λ_ z5=>ws λ_ z2=>wr (dm ?_));refine dq (Fe (k:=5) EA rfl rfl m3.row) ?_;have zz:κ1 b3=0:=AP λO=>by have h8:=xl _ O;omega
  have h5:=r.size;have xw:∀j,vn.ownBlock=some j->j<_:=λj Y=>(J.lt j Y).2;refine cD (X7v κ1 b2 bd bl b1 bm vf (LC L b0) D1 V ts2 [] false f (IU ts f) kk _ z (hgv.mod r (λj Y e=>hgF j Y e)) (λj Y=>AP λO=>hgF j Y (Z j (hgv.lt j Y) O)) xo zy zx za hle xr y8 EB) (.inl rfl) λu14 w14 xv yk=>?_;have hsz14:=r.size;have J:=J.mod xv (λj Y e=>e (xf j Y));have m3:=m3.mod xv (λe=>e zz);have r:=r.own xv (λi hi ha=>(Z i ha hi));obtain⟨rfl,κ2,t,yv,zo,xc,xg⟩:=yk;have hf:∀j,j<w.heap.size->κ2 j≠0->F j:=λj Y O=>Z j Y (by rw[<-xc j (Az Y h5)];exact O);have xk:∀j,vn.ownBlock=some j->κ2 j=0:=λj Y=>(xc j (xw j Y)).trans (xf j Y);rw[show G9 ts2 t=ts2++[t] from PO [t] ts2 (λx zn y hy=>by rw[Ah.1 zn,yv];exact z6 y hy) ER]at xg;have z:=xg;have hr:=z.lt;refine da (de z2 (ws λ_ z8=>wr (dm ?_)));refine dp (FH rfl rfl) (de z8 (wi (λc8=>?_) λc8=>?_))
  ·exact absurd rfl c8
  refine EI (z5 _ _ (wr (dm ?_)));refine df 0 rfl (dl rfl (m3.at rfl) (cP (ND f.id _ (hgv.mod r (λj Y e=>hgF j Y e)) xo (by have:=Oa xo;omega)) RX.all λw15 xj=>?_));have J:=J.ext xj;have m3:=m3.ext xj;have z:=z.ext xj;have r:=r.ext xj;refine li (e:=9) (sz:=1) (zs:=[S []]) (pv:=[(0,_)]) (cs:=[_]) RX.all (λb4 w16 e4 xi m4=>?_);have g4:=r.ge e4;have n4_3:=m3.ltb e4;have o4_hoN:=J.ltb e4;have a4_hS:=z.lt;have J:=J.ext xi;have m3:=m3.ext xi;have z:=z.ext xi;have r:=r.ext xi;refine LP (lx:=[FJ f.id]) (e:=9) (sz:=1) (by':=16) rfl EA EA EF J (m4.arr (enc:=FU) (sz:=1) (l:=[FJ f.id]) rfl EF rfl (Av rfl)) rfl rfl (by intro x _ u hu;simp at hu;rcases hu with rfl<;>rfl) (by simp;omega) EN r.size (.inl rfl) (λzc w17 xq xy xu=>?_);have yi:=xu;have yf:=z.lt;have m3:=m3.mod xy (by intro h;have h1:=hq _ h;omega);have z:=z.mod xy (by exact(λj Y e=>Y (xk j e)));have r:=r.own xy (λi hi ha=>(by have:=(J.lt i hi).1;omega));have J:=xq;clear m4;refine da (de zg (wr ?_));refine pa rfl rfl (dm (EH (?_)));rw[show((V.fs.take k).map λf=>FJ f.id)++[FJ f.id]=(V.fs.take (k+1)).map λf=>FJ f.id by rw[G1 hk,AH];rfl]at J;exact⟨(k+1,κ2,ts2++[t],zc),G2,⟨r,by omega,by rw[AH,xd,G1 hk,AH];simp [yv,zo],z,hf,J,λj Y=>yi.elim (λe=>xk j (e.symm.trans Y)) (λe=>AP λO=>A6 _ (yf _ (A0.inj (e.symm.trans Y)▸O)))⟩,by simp only [];omega⟩
 have zj:k=V.fs.length:=by omega
 subst zj;rw[AI]at xd J;have y7:ts2.length<=V.fs.length:=by have O:=congrArg AC xd;rw[Ao,Ao]at O;omega
 refine Fk (y0 _ _ (ws λ_ y2=>ws λ_ zv=>wr (dm ?_)));have h5:=r.size;have xw:∀j,vn.ownBlock=some j->j<_:=λj Y=>(J.lt j Y).2;refine cD (HR κ1 b2 bd bl b1 bm vf (LC L b0) D1 V ts2 false bs9 _ z hbs1 hbs2 EB (λk9=>X1u L.base (ls:=bs9.take k9) (λl hl=>hbs2 l (DE hl)) (by rw[A5];omega))) (.inl rfl) λu18 w18 yc yq=>?_;have hsz18:=r.size;have J:=J.mod yc (λj Y e=>e (xf j Y));have r:=r.own yc (λi hi ha=>(Z i ha hi));obtain⟨rfl,κ3,xc,xg⟩:=yq;have yt:∀j,j<w.heap.size->κ3 j≠0->F j:=λj Y O=>Z j Y (by rw[<-xc j (Az Y h5)];exact O);have yn:∀j,vn.ownBlock=some j->κ3 j=0:=λj Y=>(xc j (xw j Y)).trans (xf j Y);have z:=xg;refine da (de zv (ws λ_ zi=>wr (dm ?_)));refine dp (FH rfl rfl) (de zi (wi (λc9=>?_) λc9=>?_))
 ·exact absurd rfl c9
 refine EI (y2 _ _ (ws λ_ z7=>ws λ_ zf=>wr (dm (dm ?_))));obtain⟨F2,yz,hw,xh⟩:=z.ld.disk;refine cD (X78 F2 bd D1 [116] (V.fs.map λf=>FJ f.id) vn _ yz (J.arr EF) (by rw[Ao];omega) (λhl e=>by have e1:κ3 (base vn).1=1:=hw _ e;rw[yn _ (J.base_block hl)]at e1;cases e1) yh) (.inl rfl) λu19 w19 xp yr=>?_;have hsz19:=r.size;have r:=r.own xp (λi hi ha=>(by have e1:κ3 i=1:=hw i hi;exact yt i ha (by rw[e1];decide)));obtain⟨rfl,D9,ub,ye⟩:=yr;have h7:=z.ledger (xp.mono (λi hi _=>hw i hi)) (xh _ _ xp ub);have z:=h7;refine da (de zf (ws λ_ y5=>wr (dm ?_)));refine dp (FH rfl rfl) (de y5 (wi (λym=>?_) λym=>?_))
 ·exact absurd rfl ym
 refine EI (z7 _ _ (ws λ_ zh=>wr (dm (da (da (de zh (EJ ?_)))))));refine rt ?_;exact⟨_,rfl,r,_,b2,bl,b1,bm,vf,_,D9,_,ts2,rfl,z,ye⟩
theorem Xyy {n:Nat}(h:n<10):Lib.decDigits n=[AJ (48+n)]:=by rw[Lib.decDigits,dif_pos h]
theorem VE {n:Nat}(h:¬ n<10):Lib.decDigits n=Lib.decDigits (n / 10)++[AJ (48+n % 10)]:=by rw[Lib.decDigits,dif_neg h]
theorem Vu {n:Nat}(h:n<=9223372036854775807):(Lib.decDigits n).length<=20:=by rw[Lib.decDigits_length];exact Lib.nDigits_le20 n EB
theorem Yco {a:Nat}(h:a<=9223372036854775807):IntKind.i64.wrap ((a:Int) / 10)=((a / 10:Nat):Int):=by rw[KB (by unfold EU;omega)];omega
theorem WH (κ:Nat->Nat)(bs bd bl bo bm:Nat)(vf:Value)(L:Led)(D:Dsk)(V:Vs)(ts:List Tb)(mem:List Cell)(dead:Bool)(w:World)(h:StE κ bs bd bl bo bm vf L D V ts mem dead w)(hvl:V.fs.length<=1024) :
  Calls Tryz.prog 27 [EE bs 0].toArray w (ES w (λu w'=>∃vp,u=.agg ⟨[I V.next,vp]⟩/\Vc.Own Fi.cs 5 62 w.heap.size w' vp V.fs)):=by
 refine cw Tryz.func27 ?_;have r:=ED.refl w;refine ws λ_ Z1=>wr (FP (cs:=[.int .i64 0,.slice none 0 0]) rfl EA RX.all (λb1 w1 e1 x1 J=>?_));have g1:=r.ge e1;have r:=r.trans x1;refine de Z1 (ws λ_ Z2=>ws λ_ Z3=>wr (dm ?_));refine dp (Gi EA rfl rfl) (de Z3 (wi (λc1=>?_) λc1=>?_))
 ·exact absurd c1 ER
 refine EI (Z2 _ _ (ws λ_ Z4=>F9 (R:=ED) ED.refl (λ_ _ _=>ED.trans) EA [4,9] [(0,.p,false),(1,.p,false),(2,.p,false),(3,.p,false),(4,.l,false),(5,.p,false),(6,.p,false),(7,.p,false),(8,.p,false),(9,.l,false),(10,.x,false),(11,.p,false),(12,.x,true)] rfl EA EA (λw2 Y=>?_)));have x2:=EL Y;clear Y;have J:=J.ext x2;have r:=r.trans x2;refine dm ?_;refine dz rfl (df 2 rfl (df 0 rfl (dL rfl (λ_ hR=>((h.m.ext (r.trans hR)).at rfl)) (dm ?_))));refine dz rfl (df 2 rfl (df 1 rfl (dL rfl (λ_ hR=>((h.m.ext (r.trans hR)).at rfl)) ?_)));have hb19:=J.lt;refine cG (X0o V.fs vf _ (h.vs.ext r) EB) RX.ext λvp w3 x3 z=>?_;have Z:=r.size;have J:=J.ext x3;have r:=r.trans x3;have O:=Z;refine dp (M4 (zs:=[.int .i64 0,.slice none 0 0]) (pl:=[(0,1),(1,1)]) (pv:=[(0,?a4_0),(1,?a4_1)]) (cs:=[?a4_0,?a4_1]) EA EA ?h4 ?f4) ?k4
 case h4=>refine⟨rfl,?_,rfl,?_,trivial⟩<;>(conv=>lhs;whnf)
 case f4=>simp [H7,EY,List.replicate,z.sl.cells,show(I V.next:Value).cells=#[I V.next] from rfl]
 refine FY J (λw4 x4 xs4 J=>?_) (h1:=by intro u hu;simp at hu;rcases hu with rfl|rfl;rfl;exact z.sl.one);dsimp only [EY,Af,Ad,Ag]at J;have z:=z.mod x4 (λk hk e=>by have h2:k=b1:=e;have h1:=(z.lt k hk).1;omega);have r:=r.o1 x4;refine de Z4 (EJ (Nu (k:=2) rfl rfl rfl EA rfl J.row ?_));exact⟨_,rfl,r,vp,rfl,z.mono O⟩
theorem X2a (n:Nat)(w:World)(hn:n<=9223372036854775807)(ih:∀(m:Nat) (w:World),m<n->Calls Tryz.prog 68 [I ↑m].toArray w (Pure w (S (Lib.decDigits m)))) :
  Calls Tryz.prog 68 [I ↑n].toArray w (Pure w (S (Lib.decDigits n))):=by
 refine cw Tryz.func68 ?_;have r:=ED.refl w;have hdl:=Vu (n:=n / 10) EB;refine ws λ_ Z1=>wr (da (de Z1 (ws λ_ Z2=>ws λ_ Z3=>wr (dm ?_))));refine dp (Fb rfl rfl) (de Z3 (wi (λc1=>?_) λc1=>?_))
 ·refine ws λ_ Z4=>KW [.p,.p,.p,.x,.l,.p] rfl (dm ?_);refine EW (v:=I ↑(48+n)) rfl (Gy rfl rfl (by unfold EU;omega)) (by show I _=I _;rfl) (dp (O6 (n:=48+n) rfl EA EA) (li (e:=5) (sz:=1) (zs:=[.int .u8 0]) (pv:=[(0,_)]) (cs:=[_]) RX.all (λb1 w1 e1 x1 m1=>?_)));have g1:=r.ge e1;have r:=r.trans x1;refine dq (Kq EA EA (m1.arr (enc:=EO) (sz:=1) (l:=[AJ (48+n)]) rfl EF rfl (Av rfl)) rfl) (da (de Z4 (EJ ?_)));refine ro ?_;exact⟨by rw[Xyy (n:=n) EB],r⟩
 refine EI (Z2 _ _ (ws λ_ O=>Lb (R:=ED) ED.refl (λ_ _ _=>ED.trans) EA [8] (.one 0 .p false (.one 1 .p false (.one 3 .p false (.one 4 .p false (.one 5 .p false (.one 6 .p false (.fork (.alt 2 true (.one 7 .x true (.one 8 .l false (.one 9 .p false (.one 10 .p false .nil)))) (.alt 7 true (.one 8 .l false (.one 2 .x false (.one 9 .p false (.one 10 .p false .nil)))) .stop))))))))) EA EA (λw2 z=>?_)));have x2:=EL z;clear z;have r:=r.trans x2;refine EX (dm (EH ?_));refine EX (EW (v:=I ↑(n / 10)) rfl (X8r rfl rfl EB EN) (by show I _=I _;rw[Yco hn]) (EH (EX (dm (EH ?_)))));refine EX (EW (v:=I ↑(n % 10)) rfl (Ot rfl rfl EB EN) (by show I _=I _;rfl) (EH (EX (EW (v:=I ↑(48+n % 10)) rfl (Gy rfl rfl (by unfold EU;omega)) (by show I _=I _;rfl) (EH (EX (dp (O6 (n:=48+n % 10) rfl EA EA) (EH (Ju ?_)))))))));refine H6 ?_ ?_
 ·refine cP (ih (n / 10) _ EB) RX.all λw3 x3=>?_;have r:=r.trans x3;refine EH (EX (li (e:=5) (sz:=1) (zs:=[.int .u8 0]) (pv:=[(0,_)]) (cs:=[_]) RX.all (λb2 w4 e2 Y m2=>?_)));have g2:=r.ge e2;have r:=r.trans Y;refine EH (EX (FW rfl (λw' J=>Kq EA EA ((m2.ext J).arr (enc:=EO) (sz:=1) (l:=[AJ (48+n % 10)]) rfl EF rfl (Av rfl)) rfl) (EH (EX (dp (II rfl rfl (by simp;omega)) (EH (EX (da (EH ?_)))))))));refine Ii (O _ _ (EJ (ro ?_)));exact⟨by rw[VE (n:=n) EB],r⟩
 refine H6 ?_ ?_
 ·refine li (e:=5) (sz:=1) (zs:=[.int .u8 0]) (pv:=[(0,_)]) (cs:=[_]) RX.all (λb3 w5 e3 x5 Z=>?_);have g3:=r.ge e3;have r:=r.trans x5;refine EH (EX (FW rfl (λw' J=>Kq EA EA ((Z.ext J).arr (enc:=EO) (sz:=1) (l:=[AJ (48+n % 10)]) rfl EF rfl (Av rfl)) rfl) (EH (EX (cP (ih (n / 10) _ EB) RX.ext λw6 x6=>?_)))));have r:=r.trans x6;refine EH (EX (dp (II rfl rfl (by simp;omega)) (EH (EX (da (EH ?_))))));refine Ii (O _ _ (EJ (ro ?_)));exact⟨by rw[VE (n:=n) EB],r⟩
 exact Jv
theorem Xtt (n:Nat):∀(w:World),n<=9223372036854775807->Calls Tryz.prog 68 [I ↑n].toArray w (Pure w (S (Lib.decDigits n))):=by
 induction n using Nat.strongRecOn with
 | _ n ih=>exact λw hn=>X2a n w hn (λm r hm=>ih m hm r EB)
theorem X79 (n:Nat)(w:World)(hn:n<=9223372036854775807) :
  Calls Tryz.prog 29 [I ↑n].toArray w (Pure w (S (FJ ↑n))):=by
 refine cw Tryz.func29 ?_;have r:=ED.refl w;have hdl:=Vu hn;refine ws λ_ z=>wr (da (de z (ws λ_ J=>wr (dm ?_))));refine cP (Xtt n _ hn) RX.all λw1 O=>?_;have r:=r.trans O;refine dp (II rfl rfl (by simp;omega)) (da (de J (EJ ?_)));refine ro ?_;exact⟨by rw[P4 EB];rfl,r⟩
theorem X8a (n:Int)(w:World)(h0:0<=n)(h1:n<=9223372036854775807):Calls Tryz.prog 29 [I n].toArray w (Pure w (S (FJ n))):=by
 obtain⟨m,rfl⟩:∃m:Nat,n=m:=⟨n.toNat,by omega⟩;exact X79 m w EB
end Go.Proofs.YtiooodckiddpmaaGreatDoor
namespace Go.Proofs.YtiooodckiddpmaaGreatDoor.Em
open Go.Vc Go.Sp
attribute [local irreducible] W XW Dw Gs
structure RStE (w:World)(bs bd bl bm:Nat)(room:Int):Prop where
 s:EK w bs [EE bd 0,EE bl 0,I 1,.slice none 0 0,.slice none 0 0,EE bm 0,B false] 69
 l:EK w bl [EE bd 0,S [115],I 0,.slice none 0 0,.slice none 0 0,B false] 135
 d:EK w bd [I room,.slice none 0 0,I (-1)] 138
theorem rdiskNew_w (room:Int)(w:World)(h0:0<=room)(h1:room<=1073741824) :
  Calls Tryz.prog 34 [I room].toArray w (ES w (λu w'=>∃bd,u=.tuple #[EE bd 0,I 0]/\EK w' bd [I room,.slice none 0 0,I (-1)] 138)):=by
 refine cw Tryz.func34 ?_;have r:=ED.refl w;refine ws λ_ Z=>wr (da (da (de Z (ws λ_ z=>ws λ_ Z3=>wr (dm ?_)))));refine dp (Fb rfl rfl) (dm ?_);refine F4 6 rfl (λc1=>?_) (λc1=>?_)
 ·omega
 refine dm ?_;refine dp (Gg rfl rfl) (EP (de Z3 ?_));refine wi (λO=>?_) λO=>?_
 ·omega
 refine EI (z _ _ (ws λ_ J=>wr (dm ?_)));refine db (zs:=[.int .i64 0,.slice none 0 0,.int .i64 0]) (pl:=[(0,1),(1,1),(2,1)]) (pv:=[(0,_),(2,_)]) (cs:=[_,.slice none 0 0,_]) ?_;refine Gn rfl rfl rfl RX.all (λb1 w1 e1 x1 Y=>?_);have g1:=r.ge e1;have r:=r.trans x1;refine da (da (de J (EJ ?_)));refine rt ?_;exact⟨_,rfl,r,b1,rfl,Y⟩
theorem X8b (bd:Nat)(room:Int)(s:EC)(w:World)(hd:EK w bd [I room,.slice none 0 0,I (-1)] 138) :
  Calls Tryz.prog 227 [EE bd 0,S s].toArray w (Pure w (.tuple #[I 0,B false])):=by
 refine cw Tryz.func227 ?_;have r:=ED.refl w;refine ws λ_ Z1=>wr (da (da (de Z1 (ws λ_ Z2=>wr (da (de Z2 (ws λ_ Z3=>EM ?_)))))));refine Fq (G:=Unit) (λO=>[(0,EE bd 0),(1,S s),(4,I 0),(5,.bool false),(6,I 0)]) (λO w'=>ED w w'/\True) (λO=>0) () ?_ ?_ ?_
 ·exact FN
 ·exact⟨r,trivial⟩
 intro X1 g1 w1 z;revert z;revert g1;intro O z;clear r;obtain⟨r,htr⟩:=z;refine ws λ_ Z4=>ws λ_ Z5=>wr (dm (dm ?_));refine dz rfl (df 1 rfl (dl rfl ((hd.ext r).at rfl) (dv 226 3 (EQ.nil (enc:=λx:List Value=>x) (sz:=3) (w:=w)).sl (dp (Fb rfl rfl) (dm ?_)))));refine F4 14 rfl (λZ=>?_) (λZ=>?_)
 ·exact absurd Z EN
 iterate 10 refine dk ?_
 refine EP (de Z5 ?_);refine Hf rfl (Fk (Z3 _ _ (ws λ_ Z6=>F9 (R:=ED) ED.refl (λ_ _ _=>ED.trans) EA [5,12,16] [(0,.p,false),(1,.p,false),(2,.p,false),(3,.p,false),(4,.p,false),(5,.l,false),(6,.p,false),(7,.p,false),(8,.p,false),(9,.p,false),(10,.p,false),(11,.p,false),(12,.l,false),(13,.p,false),(14,.p,false),(15,.p,false),(16,.l,false),(17,.p,false),(18,.p,false),(19,.p,false),(20,.p,false),(21,.p,false)] rfl EA EA (λw2 J=>?_))));have x2:=EL J;clear J;have r:=r.trans x2
 iterate 3 refine dm ?_
 refine dz rfl (df 1 rfl (dL rfl (λ_ hR=>((hd.ext (r.trans hR)).at rfl)) (dv 226 3 (EQ.nil (enc:=λx:List Value=>x) (sz:=3) (w:=w)).sl (dp (Fb rfl rfl) (dm ?_)))));refine F4 36 rfl (λY=>?_) (λY=>?_)
 ·exact absurd Y EN
 iterate 10 refine dk ?_
 refine EP ?_;refine da (da (de Z6 (EJ ?_)));refine rt ?_;exact⟨rfl,r⟩
theorem VQ (bd:Nat)(room:Int)(s:EC)(w:World)(hd:EK w bd [I room,.slice none 0 0,I (-1)] 138) :
  Calls Tryz.prog 232 [EE bd 0,S s].toArray w (Pure w (.tuple #[.slice none 0 0,I 7])):=by
 refine cw Tryz.func232 ?_;have r:=ED.refl w;refine ws λ_ O=>wr (da (da (de O (ws λ_ z=>wr (dm (dm ?_))))));refine cP (X8b bd room s _ (hd.ext r)) RX.all λw1 Y=>?_;have r:=r.trans Y;refine dm ?_;refine dx rfl rfl (dx rfl rfl (da (da (de z (ws λ_ Z3=>ws λ_ J=>wr (dm ?_))))));refine dn (de J ?_);refine GS rfl (ws λ_ Z=>wr (da (da (de Z (EJ ?_)))));refine rt ?_;exact⟨rfl,r⟩
theorem Xb (bl bd:Nat)(room:Int)(s:EC)(w:World)(hl:EK w bl [EE bd 0,S [115],I 0,.slice none 0 0,.slice none 0 0,B false] 135)(hd:EK w bd [I room,.slice none 0 0,I (-1)] 138) :
  Calls Tryz.prog 230 [EE bl 0,S s].toArray w (Pure w (B false)):=by
 refine cw Tryz.func230 ?_;have r:=ED.refl w;refine ws λ_ z=>wr (da (de z (ws λ_ O=>wr (dm ?_))));refine dz rfl (df 0 rfl (dl rfl ((hl.ext r).at rfl) (dm ?_)));refine cP (VQ bd room s _ (hd.ext r)) RX.all λw1 J=>?_;have r:=r.trans J;refine dm ?_;refine dx rfl rfl (dx rfl rfl (da (da (de O (ws λ_ Y=>wr (dm ?_))))));refine dp (GB rfl rfl) (da (de Y (EJ ?_)));refine ro ?_;exact⟨rfl,r⟩
theorem X2b (bl bd:Nat)(room:Int)(w:World)(hl:EK w bl [EE bd 0,S [115],I 0,.slice none 0 0,.slice none 0 0,B false] 135)(hd:EK w bd [I room,.slice none 0 0,I (-1)] 138) :
  Calls Tryz.prog 231 [EE bl 0].toArray w (Pure w (I 0)):=by
 refine cw Tryz.func231 ?_;have r:=ED.refl w;refine ws λ_ J=>wr (da (de J (ws λ_ Z2=>ws λ_ Y=>wr (dm (dm ?_)))));refine dz rfl (df 1 rfl (dl rfl ((hl.ext r).at rfl) (dp (II rfl rfl (by simp;done)) (cP (Xb bl bd room _ _ (hl.ext r) (hd.ext r)) RX.all λw1 O=>?_))));have r:=r.trans O;refine dn (de Y ?_);refine GS rfl (ws λ_ z=>wr (da (de z (EJ ?_))));refine ro ?_;exact⟨rfl,r⟩
theorem X8c (bl bd:Nat)(w:World)(hl:EK w bl [EE bd 0,S [115],I 0,.slice none 0 0,.slice none 0 0,B false] 135) :
  Calls Tryz.prog 31 [EE bl 0].toArray w (Pure w (I 0)):=by
 refine cw Tryz.func31 ?_;have r:=ED.refl w;refine ws λ_ Z=>wr (da (de Z (ws λ_ O=>?_)));refine F9 (R:=ED) ED.refl (λ_ _ _=>ED.trans) EA [3,7] [(0,.p,false),(1,.p,false),(2,.p,false),(3,.l,false),(4,.p,false),(5,.p,false),(6,.p,false),(7,.l,false),(8,.p,false),(9,.p,false),(10,.p,false)] rfl EA EA (λw1 z=>?_);have Y:=EL z;clear z;have r:=r.trans Y;refine dm ?_;refine dz rfl (df 2 rfl (dL rfl (λ_ J=>((hl.ext (r.trans J)).at rfl)) (dm ?_)));refine dz rfl (df 4 rfl (dL rfl (λ_ J=>((hl.ext (r.trans J)).at rfl)) (dv 82 1 (EQ.nil (enc:=λx:List Value=>x) (sz:=3) (w:=w)).sl (dp (Gy (a:=0) (b:=0) rfl rfl (by simp [EU])) (da (de O (EJ ?_)))))));refine ro ?_;exact⟨rfl,r⟩
theorem Xmr (bd:Nat)(room:Int)(w:World)(hd:EK w bd [I room,.slice none 0 0,I (-1)] 138) :
  Calls Tryz.prog 147 [EE bd 0,S [115]].toArray w (ES w (λu w'=>∃bl,u=.tuple #[EE bl 0,I 0]/\EK w' bl [EE bd 0,S [115],I 0,.slice none 0 0,.slice none 0 0,B false] 135)):=by
 refine cw Tryz.func147 ?_;have r:=ED.refl w;refine ws λ_ Z1=>wr (da (da (de Z1 (ws λ_ Z2=>ws λ_ Z3=>wr (dm ?_)))));refine dp (Gi EA rfl rfl) (dm ?_);refine F4 13 rfl (λc1=>?_) (λc1=>?_)
 ·exact absurd c1 ER
 refine dm ?_;refine dt rfl (dp (Fb rfl rfl) (EP ?_));refine dm ?_;refine F4 18 rfl (λc2=>?_) (λc2=>?_)
 ·exact absurd c2 EN
 refine dm ?_;refine dt rfl (dp (Gg rfl rfl) (EP (de Z3 ?_)));refine wi (λc3=>?_) λc3=>?_
 ·exact absurd c3 EN
 refine EI (Z2 _ _ (ws λ_ Z4=>wr (dm (dm ?_))));refine db (zs:=[.pointer none,S [],.int .i64 0,.slice none 0 0,.slice none 0 0,B false]) (pl:=[(0,1),(1,1),(2,1),(3,1),(4,1),(5,1)]) (pv:=[(0,_),(1,_)]) (cs:=[_,_,.int .i64 0,.slice none 0 0,.slice none 0 0,B false]) ?_;refine Gn rfl rfl rfl RX.all (λb1 w1 e1 x1 z=>?_);have g1:=r.ge e1;have r:=r.trans x1;refine da (de Z4 (ws λ_ Z5=>wr (da (de Z5 (ws λ_ Z6=>ws λ_ Z7=>wr (dm (dm ?_)))))));refine dp (II rfl rfl (by simp;done)) (cP (Xb b1 bd room _ _ z (hd.ext r)) RX.all λw2 x2=>?_);have z:=z.ext x2;have r:=r.trans x2;refine de Z7 (Hf rfl (EI (Z6 _ _ (ws λ_ Z8=>ws λ_ Z9=>wr (dm ?_)))));refine dp (GB rfl rfl) (de Z9 (wi (λc4=>?_) λc4=>?_))
 ·refine wr (dm ?_);refine cP (X2b b1 bd room _ z (hd.ext r)) RX.all λw3 x3=>?_;have z:=z.ext x3;have r:=r.trans x3;refine da (de Z8 (ws λ_ Z=>ws λ_ Y=>wr (dm ?_)));refine dp (FH rfl rfl) (de Y (wi (λc5=>?_) λc5=>?_))
  ·exact absurd rfl c5
  refine EI (Z _ _ (ws λ_ ha=>wr (dm (dm ?_))));refine dp (II rfl rfl (by simp;done)) (cP (VQ bd room _ _ (hd.ext r)) RX.all λw4 x4=>?_);have z:=z.ext x4;have r:=r.trans x4;refine dm ?_;refine dx rfl rfl (dx rfl rfl (da (da (de ha (ws λ_ Z13=>ws λ_ O=>wr (dm ?_))))));refine dp (FH rfl rfl) (de O (wi (λc6=>?_) λc6=>?_))
  ·refine ws λ_ J=>wr (dm (da (da (de J (EJ ?_)))));refine rt ?_;exact⟨_,rfl,r,b1,rfl,z⟩
  exact absurd EN c6
 exact absurd rfl c4
theorem X8d (bs bd bl bm:Nat)(w:World)(hs:EK w bs [EE bd 0,EE bl 0,I 1,.slice none 0 0,.slice none 0 0,EE bm 0,B false] 69) :
  Calls Tryz.prog 149 [EE bs 0].toArray w (Pure w (I 0)):=by
 refine cw Tryz.func149 ?_;have z:=ED.refl w;refine ws λ_ Z1=>wr (da (de Z1 (ws λ_ Z=>ws λ_ Z3=>wr (da (de Z3 (EM ?_))))));refine Fq (G:=Unit) (λJ=>[(0,EE bs 0),(3,I 0)]) (λJ w'=>ED w w'/\True) (λJ=>0) () ?_ ?_ ?_
 ·exact Lo
 ·exact⟨z,trivial⟩
 intro X1 g1 w1 r;revert r;revert g1;intro J r;clear z;obtain⟨z,htr⟩:=r;refine ws λ_ Z4=>ws λ_ Y=>wr (dm (dm ?_));refine dz rfl (df 2 rfl (df 1 rfl (dl rfl ((hs.ext z).at rfl) (dv 62 5 (EQ.nil (enc:=λv:Value=>[v]) (sz:=5) (w:=w)).sl (dp (Fb rfl rfl) (de Y (wi (λO=>?_) λO=>?_)))))))
 ·exact absurd O EN
 refine Fk (Z _ _ (ws λ_ Z6=>wr (da (de Z6 (EJ ?_)))));refine ro ?_;exact⟨rfl,z⟩
theorem X8e (bd:Nat)(room:Int)(w:World)(hd:EK w bd [I room,.slice none 0 0,I (-1)] 138) :
  Calls Tryz.prog 239 [EE bd 0].toArray w (Pure w (.slice none 0 0)):=by
 refine cw Tryz.func239 ?_;have z:=ED.refl w;refine ws λ_ Z1=>wr (da (de Z1 (ws λ_ Z2=>wr (da (de Z2 (ws λ_ Z3=>ws λ_ Z4=>wr (da (de Z4 (EM ?_)))))))));refine Fq (G:=Unit) (λJ=>[(0,EE bd 0),(2,.slice none 0 0),(3,.slice none 0 0),(4,I 0)]) (λJ w'=>ED w w'/\True) (λJ=>0) () ?_ ?_ ?_
 ·exact Gc
 ·exact⟨z,trivial⟩
 intro X1 g1 w1 r;revert r;revert g1;intro J r;clear z;obtain⟨z,htr⟩:=r;refine ws λ_ Z5=>ws λ_ Y=>wr (dm (dm ?_));refine dz rfl (df 1 rfl (dl rfl ((hd.ext z).at rfl) (dv 226 3 (EQ.nil (enc:=λx:List Value=>x) (sz:=3) (w:=w)).sl (dp (Fb rfl rfl) (de Y (wi (λO=>?_) λO=>?_))))))
 ·exact absurd O EN
 refine Fk (Z3 _ _ (ws λ_ Z=>wr (dm (da (de Z (EJ ?_))))));refine ro ?_;exact⟨rfl,z⟩
theorem X2c (bd:Nat)(room:Int)(s:EC)(w:World)(hd:EK w bd [I room,.slice none 0 0,I (-1)] 138) :
  Calls Tryz.prog 152 [EE bd 0,S s,.slice none 0 0].toArray w (Pure w (I 0)):=by
 refine cw Tryz.func152 ?_;have r:=ED.refl w;refine ws λ_ Z1=>wr (da (de Z1 (ws λ_ Z2=>ws λ_ Z3=>wr (dm ?_))));refine dp (Gi EA rfl rfl) (de Z3 (wi (λY=>?_) λY=>?_))
 ·exact absurd Y ER
 refine EI (Z2 _ _ (ws λ_ Z4=>wr (dm ?_)));refine cP (X8e bd room _ (hd.ext r)) RX.all λw1 x1=>?_;have r:=r.trans x1;refine da (de Z4 (ws λ_ Z5=>ws λ_ Z6=>wr (da (de Z6 (EM ?_)))));refine Fq (G:=Unit) (λJ=>[(0,EE bd 0),(1,S s),(2,.slice none 0 0),(7,.slice none 0 0),(8,I 0)]) (λJ w'=>ED w w'/\True) (λJ=>0) () ?_ ?_ ?_
 ·exact FN
 ·exact⟨r,trivial⟩
 intro X2 g2 w2 z;revert z;revert g2;intro J z;clear r;obtain⟨r,htr⟩:=z;refine ws λ_ Z7=>ws λ_ Z=>wr (dm (dm ?_));refine dv 9 1 (EQ.nil (enc:=FU) (sz:=1) (w:=w)).sl (dp (Fb rfl rfl) (de Z (wi (λO=>?_) λO=>?_)))
 ·exact absurd O EN
 refine Fk (Z5 _ _ (ws λ_ Z9=>wr (da (de Z9 (EJ ?_)))));refine ro ?_;exact⟨rfl,r⟩
theorem rlsmOpen_w (bd:Nat)(room:Int)(w:World)(hd:EK w bd [I room,.slice none 0 0,I (-1)] 138) :
  Calls Tryz.prog 77 [EE bd 0].toArray w (ES w (λu w'=>∃bs bl bm,u=.tuple #[EE bs 0,I 0]/\RStE w' bs bd bl bm room)):=by
 refine cw Tryz.func77 ?_;have r:=ED.refl w;refine ws λ_ Z1=>wr (da (da (de Z1 (ws λ_ Z2=>ws λ_ Z3=>wr (dm ?_)))));refine dp (Gi EA rfl rfl) (de Z3 (wi (λc1=>?_) λc1=>?_))
 ·exact absurd c1 ER
 refine EI (Z2 _ _ (ws λ_ Z4=>wr (dm ?_)));refine cG (Xmr bd room _ (hd.ext r)) RX.all λu1 w1 x1 ht=>?_;have hsz1:=r.size;have r:=r.trans x1;obtain⟨bl,rfl,z⟩:=ht;refine dm ?_;refine dx rfl rfl (dx rfl rfl (da (da (de Z4 (ws λ_ Z5=>ws λ_ Z6=>wr (dm ?_))))));refine dp (FH rfl rfl) (de Z6 (wi (λc2=>?_) λc2=>?_))
 ·exact absurd rfl c2
 refine EI (Z5 _ _ (ws λ_ Z7=>wr (dm (dm ?_))));refine db (zs:=[.int .i64 0,.slice none 0 0]) (pl:=[(0,1),(1,1)]) (pv:=[(0,_)]) (cs:=[_,.slice none 0 0]) ?_;refine db (zs:=[.slice none 0 0]) (pl:=[(0,1)]) (pv:=[]) (cs:=[.slice none 0 0]) ?_;refine Gn rfl rfl rfl RX.all (λb1 w2 e1 x2 O=>?_);have g1:=r.ge e1;have a1_hl:=z.lt;have z:=z.ext x2;have r:=r.trans x2;refine db (zs:=[.pointer none,.pointer none,.int .i64 0,.slice none 0 0,.slice none 0 0,.pointer none,B false]) (pl:=[(0,1),(1,1),(2,2),(4,1),(5,1),(6,1)]) (pv:=[(0,_),(1,_),(2,.agg ⟨[_,_]⟩),(4,_)]) (cs:=[_,_,_,_,.slice none 0 0,_,B false]) ?_;refine Gn rfl rfl rfl RX.all (λb2 w3 e2 x3 J=>?_);have g2:=r.ge e2;have n2_1:=O.ltb e2;have a2_hl:=z.lt;have z:=z.ext x3;have O:=O.ext x3;have r:=r.trans x3;refine da (de Z7 (ws λ_ Z8=>ws λ_ Z9=>wr (dm ?_)));refine dz rfl (df 3 rfl (dl rfl (z.at rfl) (dv 5 1 (EQ.nil (enc:=EO) (sz:=1) (w:=w)).sl (dp (Gg rfl rfl) (dm ?_)))));refine F4 37 rfl (λc3=>?_) (λc3=>?_)
 ·exact absurd c3 EN
 refine dm ?_;refine dz rfl (df 2 rfl (dl rfl (z.at rfl) (dp (Gg rfl rfl) (EP (de Z9 ?_)))));refine wi (λc4=>?_) λc4=>?_
 ·exact absurd c4 EN
 refine EI (Z8 _ _ (ws λ_ hj=>wr (dm ?_)));refine cP (X8d b2 bd bl b1 _ J) RX.all λw4 x4=>?_;have z:=z.ext x4;have O:=O.ext x4;have J:=J.ext x4;have r:=r.trans x4;refine da (de hj (ws λ_ h6=>ws λ_ hh=>wr (dm ?_)));refine dp (FH rfl rfl) (de hh (wi (λc5=>?_) λc5=>?_))
 ·exact absurd rfl c5
 refine EI (h6 _ _ (ws λ_ hc=>ws λ_ hb=>wr (dm ?_)));refine dz rfl (df 2 rfl (dl rfl (z.at rfl) (pa rfl rfl (da (de hb (EM ?_))))));refine Fq (G:=Unit) (λuu=>[(0,EE bd 0),(4,EE bl 0),(5,I 0),(6,EE b2 0),(7,I 1)]) (λuu w'=>ED w w'/\EK w' bl [EE bd 0,S [115],I 0,.slice none 0 0,.slice none 0 0,B false] 135/\EK w' b1 [.slice none 0 0] 215/\EK w' b2 [EE bd 0,EE bl 0,I 1,.slice none 0 0,.slice none 0 0,EE b1 0,B false] 69/\True) (λuu=>0) () ?_ ?_ ?_
 ·exact FN
 ·exact⟨r,z,O,J,trivial⟩
 intro X5 g5 w5 Z;revert Z;revert g5;intro uu Z;clear r z O J;obtain⟨r,z,O,J,h5⟩:=Z;refine ws λ_ Z15=>ws λ_ hf=>wr (dm (dm ?_));refine cP (X8c bl bd _ z) RX.all λw6 x6=>?_;have z:=z.ext x6;have O:=O.ext x6;have J:=J.ext x6;have r:=r.trans x6;refine dp (IG rfl rfl) (de hf (wi (λc6=>?_) λc6=>?_))
 ·exact absurd c6 EN
 refine Fk (hc _ _ (ws λ_ hz=>wr (da (de hz (ws λ_ hp=>ws λ_ hy=>wr (da (de hy (EM ?_))))))));refine Fq (G:=Unit) (λuu=>[(0,EE bd 0),(5,I 0),(6,EE b2 0),(12,.slice none 0 0),(13,I 0)]) (λuu w'=>ED w w'/\EK w' bl [EE bd 0,S [115],I 0,.slice none 0 0,.slice none 0 0,B false] 135/\EK w' b1 [.slice none 0 0] 215/\EK w' b2 [EE bd 0,EE bl 0,I 1,.slice none 0 0,.slice none 0 0,EE b1 0,B false] 69/\True) (λuu=>0) () ?_ ?_ ?_
 ·exact FN
 ·exact⟨r,z,O,J,trivial⟩
 intro X7 g7 w7 Y;revert Y;revert g7;intro uu Y;clear r z O J;obtain⟨r,z,O,J,h5⟩:=Y;refine ws λ_ Z20=>ws λ_ hr=>wr (dm (dm ?_));refine dz rfl (df 2 rfl (df 1 rfl (dl rfl (J.at rfl) (dv 62 5 (EQ.nil (enc:=λv:Value=>[v]) (sz:=5) (w:=w)).sl (dp (Fb rfl rfl) (de hr (wi (λc7=>?_) λc7=>?_)))))))
 ·exact absurd c7 EN
 refine Fk (hp _ _ (ws λ_ hq=>wr (dm (dm ?_))));refine cP (X2c bd room [116] _ (hd.ext r)) RX.all λw8 x8=>?_;have z:=z.ext x8;have J:=J.ext x8;have r:=r.trans x8;refine da (de hq (ws λ_ hw=>ws λ_ ha=>wr (dm ?_)));refine dp (FH rfl rfl) (de ha (wi (λc8=>?_) λc8=>?_))
 ·exact absurd rfl c8
 refine EI (hw _ _ (ws λ_ hg=>wr (dm (da (da (de hg (EJ ?_)))))));refine rt ?_;exact⟨_,rfl,r,b2,bl,b1,rfl,⟨J,z,hd.ext r⟩⟩
end Go.Proofs.YtiooodckiddpmaaGreatDoor.Em
namespace Go.Proofs.YtiooodckiddpmaaGreatDoor
open Go.Vc Go.Sp
attribute [local irreducible] W XW Dw Gs
theorem X8f {bs bd bl mo bm ba bn mf n:Nat}(h1:n<=bs)(h2:n<=bl)(h3:n<=mo)(h4:n<=bm)(h5:n<=ba)(h6:n<=bn):∀k,Hg bs bd bl mo bm ba bn mf k≠0->k=bd\/k=mf\/n<=k:=λk hk=>by
 unfold Hg at hk
 repeat' split at hk
 all_goals omega
theorem X8g (pb bd bx mf:Nat)(room:Int)(w:World)(hp0:EK w pb [EE bd 0,EE bx 0,.pointer none,.pointer none] 31)(hd:EK w bd [I room,.map (some mf),B false,I 0] 122)(hm:FV w mf)(hr:EK w bx [I room,.slice none 0 0,I (-1)] 138)(hw:(Ie room).Wf) :
  Calls Tryz.prog 35 [EE pb 0].toArray w (Ff (ET pb) w (λu w'=>u=B true/\∃κ bs bl bo bm sb,EK w' pb [EE bd 0,EE bx 0,EE bs 0,EE sb 0] 31/\StE κ bs bd bl bo bm (.slice none 0 0) Hs (Ie room) ⟨1,[]⟩ [] [] false w'/\(∀k,κ k≠0->k=bd\/k=mf\/w.heap.size<=k))):=by
 refine cw Tryz.func35 ?_;have J:=Vc.Mod.refl (ET pb) w;have z:=hp0;have hmfl:=hm.lt;have hne1:=hp0.ne hd rfl;have hne2:=JU hm hp0;have hpl:=hp0.lt;refine ws λ_ Z1=>wr (da (de Z1 (ws λ_ Z2=>wr (dm ?_))));refine dz rfl (df 0 rfl (dl rfl (z.at rfl) ?_));have r:=J.size;refine cG (Em.lsmOpen_w bd mf room _ hd hm) RX.all λu1 w1 x1 ha=>?_;have hsz1:=J.size;have z:=z.ext x1;have hd:=hd.ext x1;have hm:=hm.ext x1;have hr:=hr.ext x1;have J:=J.ext x1;obtain⟨bs,bl,mo,bm,ba,bn,rfl,hE,k1,k2,k3,k4,k5,k6⟩:=ha;have O:=W9 hE EB hw;have hκ:=X8f (bd:=bd) (mf:=mf) (Ai r k1) (Ai r k2) (Ai r k3) (Ai r k4) (Ai r k5) (Ai r k6);refine dm ?_;refine dx rfl rfl (dx rfl rfl (da (da (de Z2 (ws λ_ Z3=>wr (dm ?_))))));refine dz rfl (df 1 rfl (dl rfl (z.at rfl) (cG (Em.rlsmOpen_w bx room _ hr) RX.all λu2 w2 Y hb=>?_)));have hsz2:=J.size;have z:=z.ext Y;have hd:=hd.ext Y;have hm:=hm.ext Y;have hr:=hr.ext Y;have O:=O.ext Y;have J:=J.ext Y;obtain⟨sb,rbl,rbm,rfl,hRS⟩:=hb;refine dm ?_;refine dx rfl rfl (dx rfl rfl (da (da (de Z3 (ws λ_ Z4=>wr (dm (dm (dm (dm ?_)))))))));refine dz rfl (df 2 rfl (G4 z (λw3 x3 xs3 z=>?_) (hv:=by rfl)));dsimp only [EY,Af,Ad,Ag]at z;have hd:=hd.mod x3 (by intro h;have h2:_=pb:=h;omega);have hm:=hm.mod x3 (by intro h;have h2:_=pb:=h;omega);have O:=O.mod x3 (λZ h9 e9=>by have h2:Z=pb:=e9;have h8:=hκ Z h9;omega);have J:=J.own x3 (λi hi _=>hi);refine dz rfl (df 3 rfl (G4 z (λw4 x4 xs4 z=>?_) (hv:=by rfl)));dsimp only [EY,Af,Ad,Ag]at z;have O:=O.mod x4 (λZ h9 e9=>by have h2:Z=pb:=e9;have h8:=hκ Z h9;omega);have J:=J.own x4 (λi hi _=>hi);refine de Z4 (ws λ_ Z5=>wr (dm (dm ?_)));refine dp (GB rfl rfl) (dm ?_);refine F4 34 rfl (λc1=>?_) (λc1=>?_)
 ·refine dm ?_;refine dp (Gi EA rfl rfl) (dm ?_);refine dp (FH rfl rfl) (dp (X8o EA rfl rfl) (EP ?_));refine da (de Z5 (EJ ?_));refine ro ?_;exact⟨_,rfl,J,by simp,_,bs,bl,mo,bm,sb,z,O,hκ⟩
 exact absurd rfl c1
theorem X8h (room:Int)(w:World)(h0:0<=room)(h1:room<=1073741824)(hw:(Ie room).Wf) :
  Calls Tryz.prog 12 [I room].toArray w (ES w (λu w'=>∃κ pb bd bx bs bl bo bm sb,u=EE pb 0/\EK w' pb [EE bd 0,EE bx 0,EE bs 0,EE sb 0] 31/\StE κ bs bd bl bo bm (.slice none 0 0) Hs (Ie room) ⟨1,[]⟩ [] [] false w'/\(∀k,κ k≠0->w.heap.size<=k)/\κ pb=0/\w.heap.size<=pb)):=by
 refine cw Tryz.func12 ?_;have r:=ED.refl w;refine ws λ_ Z1=>wr (da (de Z1 (ws λ_ Z2=>wr (dm ?_))));have hsza:=r.size;refine cG (Em.diskNew_w room _ h0 h1) RX.all λu1 w1 x1 ha=>?_;have hsz1:=r.size;have r:=r.trans x1;obtain⟨bd,mf,rfl,hd,hm,hgd,hgm⟩:=ha;refine dm ?_;refine dx rfl rfl (dx rfl rfl (da (da (de Z2 (ws λ_ Z3=>wr (dm ?_))))));refine cG (Em.rdiskNew_w room _ h0 h1) RX.all λu2 w2 Y hb=>?_;have hsz2:=r.size;have hd:=hd.ext Y;have hm:=hm.ext Y;have r:=r.trans Y;obtain⟨bx,rfl,O⟩:=hb;refine dm ?_;refine dx rfl rfl (dx rfl rfl (da (da (de Z3 (ws λ_ Z4=>wr (dm (dm ?_)))))));refine db (zs:=[.pointer none,.pointer none,.pointer none,.pointer none]) (pl:=[(0,1),(1,1),(2,1),(3,1)]) (pv:=[(0,_),(1,_)]) (cs:=[_,_,.pointer none,.pointer none]) ?_;refine Gn rfl rfl rfl RX.all (λb1 w3 e1 z J=>?_);have g1:=r.ge e1;have a1_hd:=hd.lt;have a1_hr:=O.lt;have hd:=hd.ext z;have hm:=hm.ext z;have O:=O.ext z;have r:=r.trans z;refine da (de Z4 (ws λ_ Z5=>ws λ_ Z6=>wr (dm ?_)));refine dp (Gi EA rfl rfl) (dm ?_);refine F4 24 rfl (λc1=>?_) (λc1=>?_)
 ·exact absurd c1 ER
 refine dm ?_;refine dp (Gi EA rfl rfl) (EP ?_);refine dm ?_;refine F4 28 rfl (λc2=>?_) (λc2=>?_)
 ·exact absurd c2 ER
 refine dm ?_;have hpl9:=J.lt;have hne1:=J.ne hd rfl;have hne2:=JU hm J;have hszd:=r.size;refine cD (X8g b1 bd bx mf room _ J hd hm O hw) (.inl rfl) λu4 w4 x4 Z=>?_;have hsz4:=r.size;have r:=r.own x4 (λi hi=>(by have e9:i=b1:=hi;omega));obtain⟨rfl,κ,bs,bl,bo,bm,sb,hp,hS,hκ⟩:=Z;refine dn ?_;refine EP (de Z6 ?_);refine Hf rfl (EI (Z5 _ _ (ws λ_ Z7=>wr (dm (da (de Z7 (EJ ?_)))))));refine ro ?_;exact⟨_,rfl,r,κ,b1,bd,bx,bs,bl,bo,bm,sb,rfl,hp,hS,λk hk=>(by have h9:=hκ k hk;omega),AP λh9=>(by have h8:=hκ _ h9;omega),EB⟩
theorem Yc2 : (Ie 4194304).Wf:=⟨by decide,by decide,by decide,by decide,by decide,λp r=>(by cases r),λp r=>(by cases r),List.nodup_nil,by decide⟩
theorem Sj {S i:Nat}{L:Led}{V:Vs}{ts:List Tb}{mem:List Cell}{M:List Rw}(h:TI S i L V ts mem M)(hS:S<=60000)(hi:i<=60):L.last<=60/\(FF mem ts).length<=30000/\mem.length<=30000/\ts.length<=30000/\V.fs.length<=1024/\He mem<=100000000000/\(∀c∈mem,c.key.length<=4096/\c.val.length<=16384/\c.seq<=4611686018427387904):=by
 have h1:=h.len;have h2:=h.l0;have h3:=h.sto.tlen;have h4:(FF mem ts).length=mem.length+(ts.flatMap (·.cs)).length:=by unfold FF;rw[Aa]
 obtain⟨_,_,r,_⟩:=Ij h.sto.isv;have r:V.fs.length<=1024:=r;have J:=λc (z:c∈mem)=>h.sto.cellsB EB c (Hc.2 (.inl z));refine⟨by omega,by omega,by omega,by omega,r,?_,J⟩;have h7:=VA (l:=mem) (λc z=>by have:=J c z;unfold Gt;omega);omega
theorem X8i (F:Nat->Prop)(bd:Nat)(D:Dsk)(n:Int)(w:World)(h:FSq F bd D w)(hn0:0<=n)(hn1:n<=9223372036854775807):Calls Tryz.prog 25 [EE bd 0,I n].toArray w (Ff F w (λu w'=>FSq (Gx F w w') bd { D with fused:=true,left:=n } w')):=by
 obtain⟨mf,es,r⟩:=h;refine(Ybh F bd mf es D n w r hn0 hn1).mono ?_;rintro e w' ⟨v,he,hx,hu⟩;exact⟨v,he,hx.mono (λi hi _=>by rw[show i=bd from hi];exact r.inF bd (.inl rfl)),FSq.to ⟨_,_,hu⟩ (λi hi=>.inl hi) (λk hk=>Az (r.lt k hk) hx.size)⟩
theorem X2d (n:Int):(FJ n)[0]?=some 116:=rfl
def IM (fs:List Fi)(s:EC)(j:Nat):Nat:=((fs.take j).filter λf=>decide (s=FJ f.id)).length
theorem Tg {fs:List Fi}{s:EC}{j:Nat}{f:Fi}(h:fs[j]?=some f):IM fs s (j+1)=IM fs s j+if s=FJ f.id then 1 else 0:=by
 unfold IM;rw[G1 h,List.filter_append,Aa]
 congr 1
 by_cases e:s=FJ f.id
 ·rw[if_pos e,E5 (by simpa using e)];rfl
 ·rw[if_neg e,E6 (by simpa using e)];rfl
theorem X8j {fs:List Fi}{s:EC}(j:Nat):IM fs s j<=fs.length:=by
 unfold IM;refine Ai (List.length_filter_le _ _) ?_;rw[A5];omega
theorem Xy3 {fs:List Fi}{s:EC}(hn:(fs.map (·.id)).Nodup)(hp:∀f∈fs,0<=f.id):(fs.filter λf=>decide (s=FJ f.id)).length<=1:=by
 induction fs with
 | nil=>exact Ae _
 | cons a r ih=>
  rw[List.map_cons,List.nodup_cons]at hn
  by_cases e:s=FJ a.id
  ·rw[E5 (by simpa using e)];have h0:r.filter (λf=>decide (s=FJ f.id))=[]:=by
    rw[DF];intro f z J;have Y:s=FJ f.id:=by simpa using J
    have O:=NF (hp a List.mem_cons_self) (hp f (Am _ z)) (e.symm.trans Y);exact hn.1 (by rw[O];exact Bx z)
   rw[h0];exact Ab _
  ·rw[E6 (by simpa using e)];exact ih hn.2 (λf z=>hp f (Am _ z))
theorem Ybk {fs:List Fi}{s:EC}{c:UInt8}{D:Dsk}(hs:s[0]?=some c)(hh:D.has s=true)(hst:Qu D [116] (fs.map λf=>FJ f.id))(hn:(fs.map (·.id)).Nodup)(hp:∀f∈fs,0<=f.id):((if c=116 then 1 else 0:Int)-((IM fs s fs.length:Nat):Int))=0:=by
 have h2:=Xy3 (s:=s) hn hp;unfold IM;rw[AI];split
 ·rename_i e;have hm:s∈fs.map λf=>FJ f.id:=hst s hh (by
   cases s with
   | nil=>cases hs
   | cons a r=>have z:a=c:=A0.inj hs;rw[z,e];rfl)
  obtain⟨f,O,e2⟩:=Aq.1 hm;have h3:0<(fs.filter λf=>decide (s=FJ f.id)).length:=List.length_pos_of_mem (List.mem_filter.2 ⟨O,by simpa using e2.symm⟩);omega
 ·rename_i e;have h3:fs.filter (λf=>decide (s=FJ f.id))=[]:=by
   rw[DF];intro f _ z;have J:s=FJ f.id:=by simpa using z
   rw[J,X2d]at hs;exact e (A0.inj hs).symm
  rw[h3];rfl
theorem Xy4 (l:List Ac)(fuse draw:Int)(v:Value)(w:World)(hv:EQ Ac.cs 5 w v l)(hl:l.length<=140737488355328)(hok:∀a∈l,AcOk w a)(hfu:EU fuse)(hgv:GV w) :
  Calls Tryz.prog 6 [v,I fuse,I draw].toArray w (Pure w (B true)):=by
 refine cw Tryz.func6 ?_;have r:=ED.refl w;refine ws λ_ Z1=>wr (da (de Z1 (ws λ_ Z2=>ws λ_ Z3=>wr (dm ?_))));refine cP (X7d l v _ (hv.ext r) hl (λa ha=>(hok a ha).ext r)) RX.all λw1 x1=>?_;have r:=r.trans x1;refine dm ?_;refine I5 18 rfl (λc1=>?_) (λc1=>?_)
 ·refine dk (dk (EP (de Z3 ?_)));refine GS rfl (ws λ_ Z4=>wr (da (de Z4 (EJ ?_))));refine ro ?_;exact⟨rfl,r⟩
 have yr:KQ l<=60000:=by simpa using c1
 refine dm ?_;refine dp (Fb rfl rfl) (EP (de Z3 ?_));refine wi (λc2=>?_) λc2=>?_
 ·refine ws λ_ Z5=>wr (da (de Z5 (EJ ?_)));refine ro ?_;exact⟨rfl,r⟩
 refine EI (Z2 _ _ (ws λ_ Z6=>wr ?_));have y8:=r.size;refine cG (X8h 4194304 _ EN EN Yc2) RX.all λu2 w2 x2 uo=>?_;have hsz2:=r.size;have r:=r.trans x2;obtain⟨κ,pb,bd,bx,bs,bl,bo,bm,sb,rfl,Z,hS,vc,hb,hpge⟩:=uo;have hκ:∀k,κ k≠0->w.heap.size<=k:=λk hk=>Ai y8 (vc k hk);refine da (de Z6 (ws λ_ Z7=>ws λ_ Z8=>wr (dm ?_)));refine dp (Gi EA rfl rfl) (dm ?_);refine F4 25 rfl (λc3=>?_) (λc3=>?_)
 ·cases c3
 refine dm ?_;refine dz rfl (df 2 rfl (dl rfl (Z.at rfl) (dp (Gi EA rfl rfl) (EP (de Z8 ?_)))));refine wi (λc4=>?_) λc4=>?_
 ·cases c4
 refine EI (Z7 _ _ (ws λ_ Z9=>wr (dm ?_)));refine dz rfl (df 0 rfl (dl rfl (Z.at rfl) (dm ?_)));obtain⟨F1,z9,xe,xr⟩:=hS.ld.disk;obtain⟨N9,hN9⟩:∃z,z=w2.heap.size:=⟨_,rfl⟩;have hh:w.heap.size<=N9:=by rw[hN9];exact r.size
 have h7:pb<N9:=by rw[hN9];exact Z.lt
 refine cD (X8i F1 bd _ fuse _ z9 EB (by have:=hfu.2;omega)) (.inl rfl) λu3 w3 x3 z5=>?_;have hsz3:=r.size;have Z:=Z.mod x3 (λe=>by have e1:κ pb=1:=xe _ e;rw[hb]at e1;cases e1);have r:=r.own x3 (λi hi=>(by have e1:κ i=1:=xe i hi;exact hκ i (by rw[e1];decide)));obtain⟨κ1,h6,hq⟩:∃κ1,StE κ1 bs bd bl bo bm (.slice none 0 0) Hs { Ie 4194304 with fused:=true,left:=fuse } ⟨1,[]⟩ [] [] false w3/\∀k,k<N9->κ1 k=κ k:=⟨_,hS.ledger (x3.mono (λi hi _=>xe i hi)) (xr _ _ x3 z5),λk hk=>Ln (by rw[<-hN9];exact hk)⟩;have hS:=h6;have h5:=MW hκ hq hh;have hj:κ1 pb=0:=(hq _ h7).trans hb;refine de Z9 ?_;refine Hz (G:=(Nat->Nat)×Nat×Value×Led×Dsk×Vs×List Tb×List Cell×Bool) (λ(κ,bm,vf,L,D,V,ts,mem,dead)=>[(2,I draw),(6,.bool false),(7,EE pb 0)]) (λ(κ,bm,vf,L,D,V,ts,mem,dead) w'=>ED w w'/\EK w' pb [EE bd 0,EE bx 0,EE bs 0,EE sb 0] 31/\SI 60000 60 L D V ts mem dead/\(∀k,κ k≠0->w.heap.size<=k)/\κ pb=0/\StE κ bs bd bl bo bm vf L D V ts mem dead w') ?_ ?_
 ·refine ws λ_ z8=>wr (da (de z8 (EM ?_)));refine Fq (G:=Nat×(Nat->Nat)×Nat×Value×Led×Dsk×Vs×List Tb×List Cell×Bool) (λ(i,κ,bm,vf,L,D,V,ts,mem,dead)=>[(0,v),(2,I draw),(6,.bool false),(7,EE pb 0),(8,I ↑i)]) (λ(i,κ,bm,vf,L,D,V,ts,mem,dead) w'=>ED w w'/\EK w' pb [EE bd 0,EE bx 0,EE bs 0,EE sb 0] 31/\i<=l.length/\i<=60/\SI ((l.take i).map Ht).sum i L D V ts mem dead/\(∀k,κ k≠0->w.heap.size<=k)/\κ pb=0/\StE κ bs bd bl bo bm vf L D V ts mem dead w') (λ(i,κ,bm,vf,L,D,V,ts,mem,dead)=>l.length-i) (0,κ1,bm,.slice none 0 0,Hs,{ Ie 4194304 with fused:=true,left:=fuse },⟨1,[]⟩,[],[],false) ?_ ?_ ?_
  ·exact FN
  ·exact⟨r,Z,Ae _,Ae _,SI.nil rfl,h5,hj,hS⟩
  intro X4 g4 w4 uy;obtain⟨i,κ,bm,vf,L,D,V,ts,mem,dead⟩:=g4;clear r Z hS;obtain⟨r,Z,hi1,hi2,hg,hκ,hb,hS⟩:=uy;refine ws λ_ z4=>ws λ_ zn=>wr (dm (dm ?_));refine dv 34 5 (hv.ext r).sl (dp (Fb rfl rfl) (dm ?_));refine F4 42 rfl (λc5=>?_) (λc5=>?_)
  ·refine dm ?_;refine dp (Fb rfl rfl) (EP (de zn ?_));refine wi (λc6=>?_) λc6=>?_
   ·obtain⟨a,hk⟩:∃a,l[i]?=some a:=Fw;obtain⟨M,hT⟩:=hg.ti;have y5:=hok a (Ak hk);have zi:=y5.v;have vh:=WN (k:=a.l.length) EB hk (Ab _);rw[AI]at vh;have hst:=Qa Ht hk;have haw:Ht a=a.key.length+a.to.length+(a.l.map GW).sum:=rfl;have hrs:=QL a.l;have hml9:=hT.ml;have hS60:((l.take i).map Ht).sum+(a.l.map GW).sum<=60000:=by have h9:=NP Ht l (show i+1<=60 by omega);unfold KQ at yr;omega
    refine EI (z4 _ _ ?_);refine Hz (G:=(Nat->Nat)×Nat×Value×Led×Dsk×Vs×List Tb×List Cell×Bool) (λ(κ,bm,vf,L,D,V,ts,mem,dead)=>[(0,v),(2,I draw),(6,.bool false),(7,EE pb 0),(8,I ↑i)]) (λ(κ,bm,vf,L,D,V,ts,mem,dead) w'=>ED w w'/\EK w' pb [EE bd 0,EE bx 0,EE bs 0,EE sb 0] 31/\SI ((l.take (i+1)).map Ht).sum (i+1) L D V ts mem dead/\(∀k,κ k≠0->w.heap.size<=k)/\κ pb=0/\StE κ bs bd bl bo bm vf L D V ts mem dead w') ?_ ?_
    ·refine EM (ws λ_ z6=>wr (dm (dm ?_)));refine di 34 5 hv.sl rfl (hv.lt hk) (df 0 rfl (dl rfl (((hv.ext r).row hk).at rfl) (de z6 (EM (ws λ_ zt=>wr (dp (GB rfl rfl) (da (de zt ?_))))))));refine wi (λc7=>?_) λc7=>?_
     ·refine F9 (R:=ED) ED.refl (λ_ _ _=>ED.trans) EA [3,8] [(0,.p,false),(1,.p,false),(2,.p,false),(3,.l,false),(4,.p,false),(5,.p,false),(6,.p,false),(7,.p,false),(8,.l,false),(9,.x,true)] rfl EA EA (λw5 zh=>?_);have x5:=EL zh;clear zh;have Z:=Z.ext x5;have hS:=hS.ext x5;have r:=r.trans x5;refine dm ?_;refine dz rfl (df 2 rfl (dL rfl (λ_ hR=>((Z.ext hR).at rfl)) (dm (dm ?_))));refine di 34 5 hv.sl rfl (hv.lt hk) (df 4 rfl (dL rfl (λ_ hR=>(((hv.ext (r.trans hR)).row hk).at rfl)) ?_));have hh:=r.size;have h7:=Z.lt;obtain⟨q1,q2,q3,q4,q5,q6,q7⟩:=Sj hT EB EB;have xi:∀k,k<w.heap.size->κ k=0:=λk hk=>AP λh9=>by have:=hκ k h9;omega
      refine cD (Qo κ bs bd bl bo bm vf L D V ts mem dead a.l a.v _ hS (zi.ext r) EB (λh9=>xi _ (zi.base_lt EN h9)) EB (by have:=hT.en;omega) q6) (.inl rfl) λu6 w6 x6 zw=>?_;have hr:=r.size;have Z:=Z.mod x6 (λe=>e hb);have r:=r.own x6 (λi hi=>(hκ i hi));obtain⟨e,κ1,L1,D1,mem1,dead1,rfl,hq,h6,hW⟩:=zw;have hS:=h6;have h5:=MW hκ hq hh;have hj:κ1 pb=0:=(hq _ h7).trans hb;have y9:=hg.write hW;refine EH (?_);exact⟨(κ1,bm,vf,L1,D1,V,ts,mem1,dead1),FN,r,Z,y9.mono EB (Ab _),h5,hj,hS⟩
     refine ws λ_ ui=>wr (dp (GB rfl rfl) (da (de ui ?_)));refine wi (λc8=>?_) λc8=>?_
     ·refine wr (dm ?_);refine dz rfl (df 2 rfl (dl rfl (Z.at rfl) ?_));have hh:=r.size;have h7:=Z.lt;obtain⟨q1,q2,q3,q4,q5,q6,q7⟩:=Sj hT EB EB;have xi:∀k,k<w.heap.size->κ k=0:=λk hk=>AP λh9=>by have:=hκ k h9;omega
      refine cD (Qr κ bs bd bl bo bm vf L D V ts mem dead _ hS q3 q7 hT.sto.isv (hgv.ext r) (λk hk=>xi k (hgv.lt k hk)) EB) (.inl rfl) λu7 w7 x7 zu=>?_;have hsz7:=r.size;have Z:=Z.mod x7 (λe=>e hb);have r:=r.own x7 (λi hi=>(hκ i hi));obtain⟨ok1,e1,κ1,yg,yj,L1,D1,V1,ts1,mem1,dead1,rfl,hq,h6,hF⟩:=zu;have hS:=h6;have h5:=MW hκ hq hh;have hj:κ1 pb=0:=(hq _ h7).trans hb;refine EH (?_);exact⟨(κ1,yg,yj,L1,D1,V1,ts1,mem1,dead1),FN,r,Z,(hg.flush hF).mono EB (Cj _),h5,hj,hS⟩
     refine ws λ_ ux=>wr (dp (GB rfl rfl) (da (de ux ?_)));refine wi (λc9=>?_) λc9=>?_
     ·refine wr (dm ?_);refine dz rfl (df 2 rfl (dl rfl (Z.at rfl) ?_));have hh:=r.size;have h7:=Z.lt;obtain⟨q1,q2,q3,q4,q5,q6,q7⟩:=Sj hT EB EB;have xi:∀k,k<w.heap.size->κ k=0:=λk hk=>AP λh9=>by have:=hκ k h9;omega
      refine cD (Xys κ bs bd bl bo bm vf L D V ts mem dead L.last _ hS hT.sto EB q2 (hgv.ext r) (λk hk=>xi k (hgv.lt k hk))) (.inl rfl) λu8 w8 x8 uh=>?_;have hsz8:=r.size;have Z:=Z.mod x8 (λe=>e hb);have r:=r.own x8 (λi hi=>(hκ i hi));obtain⟨did1,e1,κ1,yg,yj,L1,D1,V1,ts1,mem1,dead1,rfl,hq,h6,hF⟩:=uh;have hS:=h6;have h5:=MW hκ hq hh;have hj:κ1 pb=0:=(hq _ h7).trans hb;refine EH (?_);exact⟨(κ1,yg,yj,L1,D1,V1,ts1,mem1,dead1),FN,r,Z,(hg.comp hF).mono EB (Cj _),h5,hj,hS⟩
     refine EI ?_;exact⟨(κ,bm,vf,L,D,V,ts,mem,dead),FN,r,Z,hg.mono EB (Cj _),hκ,hb,hS⟩
    intro X9 g9 w9 uv;obtain⟨κ,bm,vf,L,D,V,ts,mem,dead⟩:=g9;clear r Z hS;obtain⟨r,Z,hg,hκ,hb,hS⟩:=uv;refine wr (dm ?_);refine pa rfl rfl (da (EH (?_)));exact⟨(i+1,κ,bm,vf,L,D,V,ts,mem,dead),FN,⟨r,Z,by omega,by omega,hg,hκ,hb,hS⟩,by simp only [];omega⟩
   refine Fk ?_;exact⟨(κ,bm,vf,L,D,V,ts,mem,dead),Hd,r,Z,hg.mono (by have h9:=NP Ht l (show i<=60 by omega);unfold KQ at yr;omega) EB,hκ,hb,hS⟩
  refine dk (dk (EP (de zn ?_)));refine Hf rfl (Fk ?_);exact⟨(κ,bm,vf,L,D,V,ts,mem,dead),Hd,r,Z,hg.mono (by have h9:=NP Ht l (show i<=60 by omega);unfold KQ at yr;omega) EB,hκ,hb,hS⟩
 intro X10 ul w10 y2;obtain⟨κ,bm,vf,L,D,V,ts,mem,dead⟩:=ul;clear r Z hS;obtain⟨r,Z,hg,hκ,hb,hS⟩:=y2;refine ws λ_ ue=>wr (dm ?_);refine dz rfl (df 0 rfl (dl rfl (Z.at rfl) (dm ?_)));obtain⟨F3,ub,hy,_⟩:=hS.ld.disk;have hszcr:=r.size;have hplc:=Z.lt;refine cD (X72 F3 bd D draw _ ub) (.inl rfl) λu11 w11 zl hA=>?_;have hsz11:=r.size;have Z:=Z.mod zl (λe=>by have e1:κ pb=1:=hy _ e;rw[hb]at e1;cases e1);have r:=r.own zl (λi hi=>(by have e1:κ i=1:=hy i hi;exact hκ i (by rw[e1];decide)));refine de ue (ws λ_ uq=>wr (dm ?_));refine dz rfl (df 0 rfl (dl rfl (Z.at rfl) ?_));obtain⟨L0,b0,V0,ts0,mem0,n0,zp,x0,hr1,hr2,hr3⟩:=hg.rc;obtain⟨ents,x9,uw,hel⟩:=zp.crash (max 0 draw).toNat;refine JP rfl EA (Xts _ bd { L0 with ents:=ents } b0 n0 x9 _ V0 ts0 mem0 _ hA uw x0 (by show b0+(ents.length:Int)<=_;omega) (by show L0.base<=_;omega) (by show ents.length<=_;omega) (hgv.ext r) (λk hk e=>by
  have h9:=hgv.lt k hk;rcases e with e|e
  ·have e1:κ k=1:=hy k e;have h8:=hκ k (by rw[e1];decide);omega
  ·omega)) rfl (.inl rfl) (λu12 xb yw yt=>?_)
 have hsz12:=r.size;have Z:=Z.mod yw (λe=>by
  rcases e with e|e
  ·have e1:κ pb=1:=hy _ e;rw[hb]at e1;cases e1
  ·omega)
 have r:=r.own yw (λi hi=>(by
  rcases hi with e|e
  ·have e1:κ i=1:=hy i e;exact hκ i (by rw[e1];decide)
  ·omega))
 obtain⟨κ4,yv,y0,za,zc,y7,L4,D4,xy,yz,rfl,Y,yu⟩:=yt;obtain⟨F6,y6,_,_⟩:=Y.ld.disk;have xz:=Xf y6.wf;have hnln:=QE y6.wf;obtain⟨_,zm,ze,ye,zb,_⟩:=Ij x0.isv;have x4:∀f∈V0.fs,0<=f.id:=λf hf=>by have h9:=Jk (ye f hf);omega
 have yb:V0.fs.length<=1024:=ze;refine dm ?_;refine dx rfl rfl (dx rfl rfl (da (da (de uq (ws λ_ zx=>ws λ_ ua=>wr (dm ?_))))));refine dp (FH rfl rfl) (dm ?_);refine F4 95 rfl (λzf=>?_) (λzf=>?_)
 ·exact absurd rfl zf
 refine dm ?_;refine dp (Gi EA rfl rfl) (EP (de ua ?_));refine wi (λyx=>?_) λyx=>?_
 ·cases yx
 refine EI (zx _ _ ?_);refine Hz (G:=Nat×Value×Value) (λ(ba,vp,vn)=>[(6,.bool false),(11,EE ba 0),(12,vn)]) (λ(ba,vp,vn) w'=>ED w w'/\EK w' ba [I V0.next,vp] 56/\Vc.Own Fi.cs 5 62 w.heap.size w' vp V0.fs/\Vc.Own FU 1 9 w.heap.size w' vn D4.names) ?_ ?_
 ·have yl:=r;have hD:w.heap.size<=xb.heap.size:=r.size;have xa:=Y;have xc:=Z;have xk:=(hv.ext r);refine Lb (R:=Mod (Lh xb.heap.size)) (Far.refl _) Far.trans EA [5] (.one 0 .p false (.one 2 .p false (.one 3 .p false (.one 4 .p false (.one 5 .l false (.fork (.alt 1 false (.fork (.alt 6 true (.one 7 .x false (.one 8 .x false (.one 9 .p false .nil))) (.alt 7 false (.one 6 .x true (.one 8 .x false (.one 9 .p false .nil))) .stop))) (.alt 7 false (.one 1 .x false (.one 6 .x true (.one 8 .x false (.one 9 .p false .nil)))) .stop)))))))) EA EA (λuk yd=>?_);have yn:=EL yd;clear yd;have Y:=Y.ext yn;have r:=r.trans yn;have hs:Mod (Lh xb.heap.size) xb uk:=Far.of_ext yn;refine EX (dm (EH ?_));refine EX (dm (EH ?_));refine EX (dz rfl (EH (EX (df 0 rfl (EH (EX (dL rfl (λ_ hR=>((xc.far (hs.own hR (λ_ h _=>h))).at rfl)) (EH (Ju ?_)))))))));refine H6 ?_ ?_
  ·have xl:=r.size;refine cG (WH κ4 yv bd y0 za zc y7 L4 D4 V0 yz xy false _ Y yb) RX.far λu14 w14 yp zd=>?_;have hsz14:=r.size;have Y:=Y.ext yp;have r:=r.trans yp;have hs:=hs.ext yp;obtain⟨vp,rfl,hw⟩:=zd;have zg:=λk hk=>(hw.lt k hk).1;have J:=hw.mono xl;refine EH (Ju ?_);refine H6 ?_ ?_
   ·obtain⟨F5,xd,_,_⟩:=Y.ld.disk;have hr:=r.size;refine cG (Hj F5 bd D4 _ xd) RX.all λvn w15 xx hc=>?_;have hsz15:=r.size;have Y:=Y.ext xx;have J:=J.ext xx;have r:=r.trans xx;have hs:=hs.ext xx;have xn:=λk hk=>(hc.lt k hk).1;have O:=hc.mono hr;refine EH (EX (FP (cs:=[.int .i64 0,.slice none 0 0]) rfl EA RX.far (λb1 w16 e1 xg m1=>?_)));have g1:=r.ge e1;have a1_hS4:=Y.lt;have xu:=J.ltb e1;have xw:=O.ltb e1;have z7:xb.heap.size<=b1:=by have:=hs.size;omega
    have Y:=Y.ext xg;have J:=J.ext xg;have O:=O.ext xg;have r:=r.trans xg;have hs:=hs.ext xg;refine EH (EX ?_);refine Lg (v:=?v49) (vs:=?u49) rfl rfl ?h49 ?c49 ?s49 m1 ?o49 ?n49 (.inr λ_ h=>h.mono (λi hi _=>by exact(show i=b1 from hi)▸z7)) (λw17 yq xs17 m1=>?k49)
    case h49=>conv=>lhs;whnf
    case c49=>exact rfl
    case s49=>kernel_rfl
    case o49=>exact Av rfl
    case n49=>exact CD.2 ⟨rfl,CD.2 ⟨J.sl.one,λ_ h=>(by cases h)⟩⟩
    dsimp only [EY,Af,Ad,Ag]at m1;have J:=J.mod yq (λk hk e=>by have h2:k=b1:=e;have h1:=xu k hk;omega);have O:=O.mod yq (λk hk e=>by have h2:k=b1:=e;have h1:=xw k hk;omega);have r:=r.o1 yq;refine EH (EX (da (EH ?_)));clear hs yl xa xc xk;refine Ii ?_;exact⟨(b1,vp,vn),Hd,r,m1,J,O⟩
   refine H6 ?_ ?_
   ·refine FP (cs:=[.int .i64 0,.slice none 0 0]) rfl EA RX.far (λb2 w18 e2 xq m2=>?_);have g2:=r.ge e2;have a2_hS4:=Y.lt;have xv:=J.ltb e2;have uf:xb.heap.size<=b2:=by have:=hs.size;omega
    have Y:=Y.ext xq;have J:=J.ext xq;have r:=r.trans xq;have hs:=hs.ext xq;refine EH (EX ?_);obtain⟨F5,xd,_,_⟩:=Y.ld.disk;have hr:=r.size;have y4:=m2.lt;refine cG (Hj F5 bd D4 _ xd) RX.all λvn w19 xf hc=>?_;have hsz19:=r.size;have Y:=Y.ext xf;have J:=J.ext xf;have m2:=m2.ext xf;have r:=r.trans xf;have hs:=hs.ext xf;have xn:=λk hk=>(hc.lt k hk).1;have O:=hc.mono hr;refine EH (EX ?_);refine Lg (v:=?v51) (vs:=?u51) rfl rfl ?h51 ?c51 ?s51 m2 ?o51 ?n51 (.inr λ_ h=>h.mono (λi hi _=>by exact(show i=b2 from hi)▸uf)) (λw20 yk xs20 m2=>?k51)
    case h51=>conv=>lhs;whnf
    case c51=>exact rfl
    case s51=>kernel_rfl
    case o51=>exact Av rfl
    case n51=>exact CD.2 ⟨rfl,CD.2 ⟨J.sl.one,λ_ h=>(by cases h)⟩⟩
    dsimp only [EY,Af,Ad,Ag]at m2;have J:=J.mod yk (λk hk e=>by have h2:k=b2:=e;have h1:=xv k hk;omega);have O:=O.mod yk (λk hk e=>by have h2:k=b2:=e;have h1:=xn k hk;omega);have r:=r.o1 yk;refine EH (EX (da (EH ?_)));clear hs yl xa xc xk;refine Ii ?_;exact⟨(b2,vp,vn),Hd,r,m2,J,O⟩
   exact Jv
  refine H6 ?_ ?_
  ·refine FP (cs:=[.int .i64 0,.slice none 0 0]) rfl EA RX.far (λb3 w21 e3 zj m3=>?_);have g3:=r.ge e3;have a3_hS4:=Y.lt;have un:xb.heap.size<=b3:=by have:=hs.size;omega
   have Y:=Y.ext zj;have r:=r.trans zj;refine EH (EX ?_);have xl:=r.size;have y4:=m3.lt;refine cG (WH κ4 yv bd y0 za zc y7 L4 D4 V0 yz xy false _ Y yb) RX.far λu22 w22 ym zk=>?_;have hsz22:=r.size;have Y:=Y.ext ym;have m3:=m3.ext ym;have r:=r.trans ym;obtain⟨vp,rfl,hw⟩:=zk;have zg:=λk hk=>(hw.lt k hk).1;have J:=hw.mono xl;refine EH (EX ?_);obtain⟨F5,xd,_,_⟩:=Y.ld.disk;have hr:=r.size;have y4:=m3.lt;refine cG (Hj F5 bd D4 _ xd) RX.all λvn w23 yf hc=>?_;have hsz23:=r.size;have m3:=m3.ext yf;have J:=J.ext yf;have r:=r.trans yf;have xn:=λk hk=>(hc.lt k hk).1;have O:=hc.mono hr;refine EH (EX ?_);refine Lg (v:=?v53) (vs:=?u53) rfl rfl ?h53 ?c53 ?s53 m3 ?o53 ?n53 (.inr λ_ h=>h.mono (λi hi _=>by exact(show i=b3 from hi)▸un)) (λw24 yo xs24 m3=>?k53)
   case h53=>conv=>lhs;whnf
   case c53=>exact rfl
   case s53=>kernel_rfl
   case o53=>exact Av rfl
   case n53=>exact CD.2 ⟨rfl,CD.2 ⟨J.sl.one,λ_ h=>(by cases h)⟩⟩
   dsimp only [EY,Af,Ad,Ag]at m3;have J:=J.mod yo (λk hk e=>by have h2:k=b3:=e;have h1:=zg k hk;omega);have O:=O.mod yo (λk hk e=>by have h2:k=b3:=e;have h1:=xn k hk;omega);have r:=r.o1 yo;refine EH (EX (da (EH ?_)));clear hs yl xa xc xk;refine Ii ?_;exact⟨(b3,vp,vn),Hd,r,m3,J,O⟩
  exact Jv
 intro X25 z1 w25 y3;obtain⟨ba,vp,vn⟩:=z1;clear r Z Y;obtain⟨r,ma,J,O⟩:=y3;refine ws λ_ u4=>wr (da (de u4 (ws λ_ u1=>ws λ_ u9=>wr (da (de u9 (EM ?_))))));refine Fq (G:=Nat) (λk=>[(6,.bool false),(11,EE ba 0),(12,vn),(13,I 0),(14,I ↑k)]) (λk w'=>ED w w'/\EK w' ba [I V0.next,vp] 56/\Vc.Own Fi.cs 5 62 w.heap.size w' vp V0.fs/\Vc.Own FU 1 9 w.heap.size w' vn D4.names/\k<=D4.names.length) (λk=>D4.names.length-k) 0 ?_ ?_ ?_
 ·exact FN
 ·exact⟨r,ma,J,O,Ae _⟩
 intro X26 um w26 xm;revert xm;revert um;intro k xm;clear r ma J O;obtain⟨r,ma,J,O,hk1⟩:=xm;refine ws λ_ zr=>ws λ_ ug=>wr (dm (dm ?_));refine dv 9 1 (O.arr EF).sl (dp (Fb rfl rfl) (de ug (wi (λuc=>?_) λuc=>?_)))
 ·obtain⟨s,hkn⟩:∃s,D4.names[k]?=some s:=Fw;have hs1:=(xz s (Ak hkn)).1.1;obtain⟨c0,hc0⟩:∃c,s[0]?=some c:=Fw;refine EI (zr _ _ (ws λ_ zz=>EM ?_));refine Hz (G:=Int) (λhz=>[(6,.bool false),(11,EE ba 0),(12,vn),(13,I hz),(14,I ↑k)]) (λhz w'=>ED w w'/\EK w' ba [I V0.next,vp] 56/\Vc.Own Fi.cs 5 62 w.heap.size w' vp V0.fs/\Vc.Own FU 1 9 w.heap.size w' vn D4.names/\hz=(if c0=116 then 1 else 0:Int)) ?_ ?_
  ·refine ws λ_ u5=>wr (dm (dm ?_));refine di 9 1 (O.arr EF).sl rfl ((O.arr EF).lt hkn) (dl rfl (((O.arr EF).row hkn).at0 rfl) (dp (Pe EA rfl rfl hc0) (dp (OX (b:=116) rfl rfl) (de u5 (wi (λyh=>?_) λyh=>?_)))))
   ·refine wr (dm ?_);refine pa rfl rfl (da (EH (?_)));exact⟨(0+1:Int),FN,r,ma,J,O,by rw[if_pos yh];rfl⟩
   refine EI ?_;exact⟨(0:Int),FN,r,ma,J,O,by rw[if_neg yh]⟩
  intro X27 zv w27 xj;revert xj;revert zv;intro hz xj;clear r ma J O;obtain⟨r,ma,J,O,yc⟩:=xj;refine ws λ_ uu=>wr (da (de uu (EM ?_)));refine Fq (G:=Nat×Int) (λ(j,ht)=>[(6,.bool false),(11,EE ba 0),(12,vn),(13,I ht),(14,I ↑k),(15,I ↑j)]) (λ(j,ht) w'=>ED w w'/\EK w' ba [I V0.next,vp] 56/\Vc.Own Fi.cs 5 62 w.heap.size w' vp V0.fs/\Vc.Own FU 1 9 w.heap.size w' vn D4.names/\j<=V0.fs.length/\ht=hz-((IM V0.fs s j:Nat):Int)) (λ(j,ht)=>V0.fs.length-j) (0,hz) ?_ ?_ ?_
  ·exact G2
  ·exact⟨r,ma,J,O,Ae _,(by unfold IM;simp)⟩
  intro X28 u0 w28 y1;obtain⟨j,ht⟩:=u0;clear r ma J O;obtain⟨r,ma,J,O,hj1,xh⟩:=y1;refine ws λ_ uj=>ws λ_ zy=>wr (dm ?_);refine df 1 rfl (dl rfl (ma.at rfl) (dv 62 5 (J.arr EF).sl (dp (Fb rfl rfl) (de zy (wi (λz2=>?_) λz2=>?_)))))
  ·obtain⟨f,hkf⟩:∃f,V0.fs[j]?=some f:=Fw;have ud:=x4 f (Ak hkf);have ut:f.id<=9223372036854775807:=by have h9:=Jk (ye f (Ak hkf));have h8:V0.next<=1099511627776:=zm;omega
   refine EI (uj _ _ (ws λ_ yy=>EM (ws λ_ zq=>F9 (R:=ED) ED.refl (λ_ _ _=>ED.trans) EA [3,5,9] [(0,.p,false),(1,.p,false),(2,.p,false),(3,.l,false),(4,.p,false),(5,.l,false),(6,.p,false),(7,.p,false),(8,.p,false),(9,.l,false),(10,.x,false),(11,.p,false)] rfl EA EA (λw29 ya=>?_))));have xp:=EL ya;clear ya;have ma:=ma.ext xp;have J:=J.ext xp;have O:=O.ext xp;have r:=r.trans xp
   iterate 2 refine dm ?_
   refine di 9 1 (O.arr EF).sl rfl ((O.arr EF).lt hkn) (dL rfl (λ_ hR=>((((O.arr EF).ext hR).row hkn).at0 rfl)) (df 1 rfl (dL rfl (λ_ hR=>((ma.ext hR).at rfl)) (dm ?_))));refine di 62 5 (J.arr EF).sl rfl ((J.arr EF).lt hkf) (df 0 rfl (dL rfl (λ_ hR=>((((J.arr EF).ext hR).row hkf).at rfl)) (cP (X8a f.id _ ud ut) RX.ext λw30 xo=>?_)));have ma:=ma.ext xo;have J:=J.ext xo;have O:=O.ext xo;have r:=r.trans xo;refine dp (MU rfl rfl) (de zq (wi (λyi=>?_) λyi=>?_))
   ·have hsl:=X8j (fs:=V0.fs) (s:=s) j;have hn9:0<=hz/\hz<=1:=by rw[yc];split<;>decide
    refine wr (dm ?_);refine ps rfl rfl (da (de yy (wr (dm ?_))));refine pa rfl rfl (da (EH (?_)));exact⟨(j+1,ht-1),G2,⟨r,ma,J,O,by omega,by rw[Tg hkf,if_pos yi,xh];omega⟩,by simp only [];omega⟩
   refine EI (yy _ _ (wr (dm ?_)));refine pa rfl rfl (da (EH (?_)));exact⟨(j+1,ht),G2,⟨r,ma,J,O,by omega,by rw[Tg hkf,if_neg yi,xh];omega⟩,by simp only [];omega⟩
  refine Fk (zz _ _ (wr (dm ?_)));refine pa rfl rfl (da (EH (?_)));have vg:ht=0:=by
   have uz:j=V0.fs.length:=by omega
   rw[xh,yc,uz];exact Ybk hc0 (xz s (Ak hkn)).2 yu zb x4
  subst vg;exact⟨k+1,FN,⟨r,ma,J,O,by omega⟩,by omega⟩
 refine Fk (u1 _ _ (ws λ_ z3=>wr (dm ?_)));refine dp (GB rfl rfl) (dm ?_);refine F4 143 rfl (λzo=>?_) (λzo=>?_)
 ·refine cP (X7y _ (hgv.ext r)) RX.all λw31 ur=>?_;have r:=r.trans ur;refine EP ?_;refine da (de z3 (EJ ?_));refine ro ?_;exact⟨rfl,r⟩
 exact absurd rfl zo
end Go.Proofs.YtiooodckiddpmaaGreatDoor
