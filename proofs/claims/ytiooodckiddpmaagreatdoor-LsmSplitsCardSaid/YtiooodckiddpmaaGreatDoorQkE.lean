/-
  A part of the proof.
-/
import Derived.Test.YtiooodckiddpmaaGreatDoorQkA
import Derived.Test.YtiooodckiddpmaaGreatDoorChecked
import Derived.KernelRfl
import Derived.Test.YtiooodckiddpmaaGreatDoorQkD
import Derived.Test.YtiooodckiddpmaaGreatDoorQkB
import Derived.Test.YtiooodckiddpmaaGreatDoorQkC
import Derived.Lib.ItoaLen
import Derived.ProofKit
import Derived.Deep.Slices
import Derived.Lib.SmallJoins
import Derived.HandedShaped
import Derived.SizedLaws
import Derived.Shelf.Vars
open Nat renaming le_refl->Aa,zero_le->Ab,le_trans->Ae,le_of_ble_eq_true->Aj,lt_of_lt_of_le->Ax,not_lt_zero->Bg,add_assoc->BR,le_of_lt->D8
open List renaming length_append->Ad,mem_singleton->Af,mem_of_getElem?->Ag,mem_cons->Ah,mem_cons_self->Ai,mem_append->Ak,map_cons->Am,replicate->An,mem_cons_of_mem->Ao,getElem?_eq_some_iff->Ap,take_of_length_le->Ar,getElem?_eq_getElem->Au,mem_filter->Av,length_map->Aw,map_append->A6,length_cons->AA,nil_append->AB,flatMap_cons->AF,getElem?_map->AG,pairwise_cons->AI,take->AL,all_eq_true->AO,getElem?_of_mem->AQ,set->AN,take_append_drop->AS,sum_cons->AT,take_length->AV,drop->AU,length_filter_le->AZ,flatMap_append->Bb,pairwise_append->Bj,nodup_cons->Bk,filter_append->Bs,getElem?_append_left->Bu,sum_append->B0,mem_append_left->B8,filter_cons->BF,foldl_cons->BS,mem_iff_getElem?->Cd,nodup_nil->Cj,cons->Ck,find?_some->Cp,mem_of_mem_take->Cr,mem_of_mem_drop->C2,length_pos_iff->CM,getElem?_cons_succ->CV,getElem?_cons_zero->Du,elem_iff->D9,mem_reverse->DY,getElem?_range->Eg,elem->Ej,filterMap_cons->EU,foldr_cons->EV
open Option renaming some->Al,map_eq_some_iff->Bp
open Bool renaming and_eq_true->Aq,not_eq_false'->Ek
open UInt8 renaming ofNat->AC
open Decidable renaming of_not_not->AE
open List.Pairwise renaming nil->Bq,filter->Cu,imp_of_mem->DV
open Int renaming le_refl->BV
open List.Sublist renaming slnil->El
set_option maxRecDepth 100000
set_option maxHeartbeats 4000000
set_option linter.unusedVariables false
set_option linter.unusedSimpArgs false
namespace Go.Proofs.YtiooodckiddpmaaGreatDoor
open Go.Vc Go.Sp
attribute [local irreducible] W XW Dw G9
section
variable {G:Nat->Prop}{bx:Nat}{room left left':Int}{vL v':Value}{L L':List Rf}{w w':World}
theorem D3.put {x:Rf}(h:D3 G bx room vL L left w)(m:Vc.Mod (Fu bx) w w')(hm:Fo w' bx [I room,v',I left] 138){B:Nat}(ho:Vc.Own Rf.cs 3 226 B w' v' L')(hB:∀k,B<=k->G k)(hs:∀f∈L',f∈L\/f=x)(hx:∃bs:Fh,Vc.Own Fq 1 5 0 w' x.v bs/\bs.length=x.n)(hg:∀k,x.v.ownBlock=some k->G k)(hn:x.nm.length<=64)(hu:(Gv L':Int)<=room)(hl:L'.length<=4096) :
  D3 G bx room v' L' left w':=by
 have he:=h.e.mod m (h.e.ne_blk h.m rfl);refine⟨hm,ho.mono (Ab _),⟨λf r=>?_⟩,h.g0,λk hk=>hB k (ho.lt k hk).1,λf r k hk=>?_,λf r=>?_,h.r1,hu,hl,h.lf⟩
 ·rcases hs f r with h9|h9
  ·exact he.row f h9
  ·rw[h9];exact hx
 ·rcases hs f r with h9|h9
  ·exact h.gf f h9 k hk
  ·rw[h9]at hk;exact hg k hk
 ·rcases hs f r with h9|h9
  ·exact h.nl f h9
  ·rw[h9];exact hn
theorem D3.cut (h:D3 G bx room vL L left w){B:Nat}(hB:B=w.heap.size):D3 (λk=>G k/\k<B) bx room vL L left w:=by
 subst hB;exact⟨h.m,h.o,h.e,⟨h.g0,h.m.lt⟩,λk hk=>⟨h.gL k hk,(h.o.lt k hk).2⟩,λf r k hk=>⟨h.gf f r k hk,h.e.lt f r k hk⟩,h.nl,h.r1,h.us,h.le,h.lf⟩
theorem D3.less {c:Bool}{i:Nat}(h:D3 G bx room vL (if c then L.eraseIdx i else L) left w)(hi:c=true->i<L.length):∃L2,(∀f∈L2,f∈L)/\Gv L2<=Gv L/\L2.length<=L.length/\D3 G bx room vL L2 left w:=by
 refine⟨_,λf r=>?_,?_,?_,h⟩<;>cases c
 ·exact r
 ·exact List.mem_of_mem_eraseIdx r
 ·exact Aa _
 ·have z:=Oe (Au (hi rfl));show Gv (L.eraseIdx i)<=_;omega
 ·exact Aa _
 ·have z:=Oe (Au (hi rfl));show(L.eraseIdx i).length<=_;omega
end
theorem Xzj (G:Nat->Prop)(bx:Nat)(room:Int)(vL:Value)(L:List Rf)(left:Int)(s t:Fh)(w:World)(h:D3 G bx room vL L left w)(J:∀k,G k->k<w.heap.size) :
  Gy 321 [Fg bx 0,S s,S t] w (GT G [138,226] w) λu w'=>∃e:Int,u=I e/\NA (FSq G w w') bx w':=by
 refine cM Tryz.func321 (GT G [138,226] w) λH=>?_;have r:=h;have hle:=h.le;have hus:=h.us;have hr1:=h.r1;refine go ?_;refine li (e:=9) (sz:=1) (zs:=[S []]) (pv:=[(0,_),(1,_)]) (cs:=[_,_]) RX.all (λb1 w1 e1 x1 m1=>?_);have g1:=H.ge e1;refine Fz x1 r H λr H=>cG (P3 G bx room vL L left [s,t] _ _ r (V4 m1) (Aj rfl)) RX.all λu2 w2 x2 xb=>?_;have hsz2:=H.size;refine Fz x2 r H λr H=>?_;obtain⟨e9,rfl,xk⟩:=xb;refine Fk (λc1=>?_) λc1=>?_
 ·refine go ?_;exact⟨_,rfl,H,e9,rfl,r.fin0 J H.size⟩
 have h0:e9=0:=AE c1;refine Gp (GP G bx room vL L left s _ r) λw3 x3=>Fz x3 r H λr H=>?_;refine FZ (λc2=>?_) λc2=>?_
 ·refine go ?_;exact⟨_,rfl,H,7,rfl,r.fin0 J H.size⟩
 have xm:L5 L s=true:=by simpa using c2
 have hr:HB L s<L.length:=NW (by simpa using c2);have hne:L≠[]:=λe=>by rw[e]at hr;exact absurd hr (Bg _)
 obtain⟨f,hk⟩:∃f,L[HB L s]?=some f:=⟨_,Au hr⟩;have Z:=Ag hk;obtain⟨bs,z,xd⟩:=r.e.row f Z;have h5:=r.e.one Z;have hvb:∀k,f.v.ownBlock=some k->¬ Fu bx k:=λk hk e=>h.e.ne_blk h.m rfl f Z k hk e;refine go ?_;refine dp (Kr rfl rfl) ?_;refine Fk (λc3=>?_) λc3=>?_
 ·refine Gw (OS _ bx room _ _ _ _ r) λu4 w4 x4 xo=>?_;have hsz4:=H.size;have z:=z.mod x4 Fw;have H:=H.own x4 (λi hi J=>(h.inX hi));obtain⟨rfl,hq,r⟩:=xo;refine go ?_;exact⟨_,rfl,H,0,rfl,r.fin0 J H.size⟩
 refine go ?_;refine dl rfl (r.m.at rfl) (go ?_);refine di 226 3 (r.o.arr Ff).sl rfl ((r.o.arr Ff).lt hk) (dq (Fy Fe rfl rfl ((r.o.arr Ff).row hk)) (aL [S [],.slice none 0 0,.int .i64 0] λb2 w5 e2 x5 O=>?_));have g2:=H.ge e2;refine FB x5 r z H λr z H=>Gc O (λw6 x6 xs6 O=>?_) (h1:=by intro u hu;simp at hu;rcases hu with rfl|rfl|rfl;rfl;exact h5;rfl);have r:=r.mod x6 (λk hk e=>by have h1:=J k hk;have h2:k=b2:=e;omega);have z:=z.mod x6 Fw;have H:=H.o1 x6;refine go ?_;refine HG O (λw7 x7 xs7 O=>?_) (hv:=by rfl);have r:=r.mod x7 (λk hk e=>by have h1:=J k hk;have h2:k=b2:=e;omega);have z:=z.mod x7 Fw;have H:=H.o1 x7;refine go ?_;have h6:=H.size;have hnb2:¬ Fu bx b2:=λe=>by have h1:=J bx h.g0;have h2:b2=bx:=e;omega
 refine cD (QW _ bx room vL L left s _ r) (.inl rfl) λu8 w8 x8 xc=>?_;have hsz8:=H.size;have z:=z.mod x8 Fw;have O:=O.mod x8 Fw;have H:=H.own x8 (λi hi J=>(h.inX hi));obtain⟨rfl,xi,hj⟩:=xc;rw[if_pos xm]at hj;have r:=hj.wide (G':=λk=>G k\/w.heap.size<=k) (λk hk=>hk.imp id (λe=>Ae h6 e));have hse:=Oe hk;refine go ?_;have ht:=H.size;refine cD (QW _ bx room xi _ left t _ r) (.inl rfl) λu9 w9 x9 xn=>?_;have hsz9:=H.size;have z:=z.mod x9 Fw;have O:=O.mod x9 Fw;have H:=H.own x9 (λi hi J=>(h.inX hi));obtain⟨rfl,xh,hj⟩:=xn;obtain⟨L2,hs2,hsu2,hle2,xp⟩:=hj.less (λh9=>NW h9);have r:=xp.wide (G':=λk=>G k\/w.heap.size<=k) (λk hk=>hk.elim id (λe=>.inr (Ae ht e)));have hh:=Vi L2 t;refine Gp (GP _ bx room xh L2 left t _ r) λhw xa=>FP xa z O r H λz O r H=>?_;have hb2l:=O.lt;obtain⟨B9,hB9⟩:∃B9,B9=hw.heap.size:=⟨_,rfl⟩;have xf:w.heap.size<=B9:=by rw[hB9];exact H.size
 have r:=r.cut hB9;have hS:Sz B9 hw:=⟨Nat.le_of_eq hB9⟩;refine go ?_;refine IY (e:=226) (sz:=3) rfl Fe RX.all (λb3 w11 e3 xj m3=>?_);have g3:=H.ge e3;have n3_2:=O.ltb e3;refine FV xj z O r hS H λz O r hS H=>go ?_;refine dl rfl (r.m.at rfl) (go ?_);refine dp (H8 (e:=226) (k:=3) Fe (r.o.arr Ff).sl rfl rfl rfl (Ab _) hh) ?_;have hn:=m3.own (enc:=Rf.cs) (B:=B9) (l:=[]) (sz:=3) (m:=0) Fb rfl Ff rfl (Aj rfl);refine HZ (e:=226) (sz:=3) (by':=48) rfl Fe Fe Ff hn ((r.o.arr Ff).slice (Ab _) hh) rfl rfl (by intro x hc u hu;have h7:=r.e.one (Cr (C2 hc));simp at hu;rcases hu with rfl|rfl|rfl;rfl;exact h7;rfl) (by simp;omega) Fj hS.le (.inl rfl) (λv1 w12 Y ha=>?_);have z:=z.mod ha (by exact(λk hk e=>by have h1:=(hn.lt k e).1;have h2:=J k (h.gf f Z k hk);omega));have O:=O.mod ha (by intro h;have h2:b3=b2:=Al.inj h;omega);have r:=r.mod ha (by exact(λk hk e=>by have h1:=(hn.lt k e).1;have h2:k<B9:=hk.2;omega));have hS:=hS.mod ha Fw;have H:=H.own ha (λi hi J=>(by have:=(hn.lt i hi).1;omega));have hn:=Y;refine go ?_;refine dq (Fy (k:=3) Fe rfl rfl O.row) (lA 226 rfl λb4 w13 e4 xg m4=>?_);have g4:=H.ge e4;refine FV xg z r hS hn H λz r hS hn H=>G1 ⟨t,f.v,f.n,f.la⟩ hn m4 (λv2 w14 Y hg=>?_) (h1:=(by intro x hc u hu;rw[Af.1 hc]at hu;simp [Rf.cs]at hu;rcases hu with rfl|rfl|rfl;rfl;exact h5;rfl)) (hB:=hS.le);have z:=z.mod hg (by exact(λk hk e=>by have h1:=(hn.lt k e).1;have h2:=J k (h.gf f Z k hk);omega));have r:=r.mod hg (by exact(λk hk e=>by have h1:=(hn.lt k e).1;have h2:k<B9:=hk.2;omega));have hS:=hS.mod hg Fw;have H:=H.own hg (λi hi J=>(by have:=(hn.lt i hi).1;omega));have hn:=Y;clear m4;refine go ?_;refine dl rfl (r.m.at rfl) (go ?_);refine dp (H8 (e:=226) (k:=3) Fe (r.o.arr Ff).sl rfl rfl rfl hh (Aa _)) (HZ (e:=226) (sz:=3) (by':=48) rfl Fe Fe Ff hn ((r.o.arr Ff).slice hh (Aa _)) rfl rfl (by intro x hc u hu;have h7:=r.e.one (Cr (C2 hc));simp at hu;rcases hu with rfl|rfl|rfl;rfl;exact h7;rfl) (by simp;omega) Fj hS.le (.inl rfl) (λv3 w15 Y hp=>?_));have z:=z.mod hp (by exact(λk hk e=>by have h1:=(hn.lt k e).1;have h2:=J k (h.gf f Z k hk);omega));have r:=r.mod hp (by exact(λk hk e=>by have h1:=(hn.lt k e).1;have h2:k<B9:=hk.2;omega));have H:=H.own hp (λi hi J=>(by have:=(hn.lt i hi).1;omega));have hn:=Y;refine go ?_;refine JV (b:=bx) (o:=1) (v:=?v49) rfl rfl ?h49 ?n49 Fe (r.m) ?o49 (.inl rfl) (λxl hl xs16 hz=>?k49)
 case h49=>conv=>lhs;whnf
 case n49=>exact hn.sl.one
 case o49=>exact Aj rfl
 have z:=z.mod hl Fw;have H:=H.own hl (λi hi J=>(h.inX hi));dsimp only [Gr,AN,AL,AU]at hz;have h8:Vc.Own Rf.cs 3 226 B9 xl v3 (L2.take (HB L2 t)++[⟨t,f.v,f.n,f.la⟩]++L2.drop (HB L2 t)):=by
  have h9:=hn.mod hl (λk hk e=>by have h1:=(hn.lt k hk).1;have h2:=J bx h.g0;have h3:k=bx:=e;omega);simpa using h9
 have xe:=(r.wide (G':=λk=>G k\/w.heap.size<=k) (λk hk=>hk.1)).put hl hz h8 (λk hk=>.inr (Ae xf hk)) (λf hf=>Vd hf) ⟨bs,z,xd⟩ (λk hk=>.inl (h.gf f Z k hk)) (xk h0 t (Ao _ Ai)) (by rw[Rc];show((Gv L2+f.n:Nat):Int)<=room;omega) (by simp;omega);have r:=xe;refine Gw (OS _ bx room _ _ _ _ r) λu17 w17 xq hy=>?_;have hsz17:=H.size;have H:=H.own xq (λi hi J=>(h.inX hi));obtain⟨rfl,hq,r⟩:=hy;refine go ?_;exact⟨_,rfl,H,0,rfl,r.fin J H.size⟩
def DX (G:Nat->Prop)(w0:World)(bx:Nat)(w:World):Prop:=(∀k,G k->k<w0.heap.size)/\w0.heap.size<=w.heap.size/\∃room vL L left,D3 (FSq G w0 w) bx room vL L left w
section
variable {G:Nat->Prop}{bx:Nat}{w0 w w' w'':World}{ts:List Nat}
theorem GI (h:w.heap.size<=w'.heap.size)(k:Nat)(hk:FSq G w0 w k):FSq G w0 w' k:=hk.imp id (λe=>⟨e.1,Ax e.2 h⟩)
theorem DX.lt (h:DX G w0 bx w):∀k,FSq G w0 w k->k<w.heap.size:=Jk h.1 h.2.1
theorem DX.ext (h:DX G w0 bx w)(x:Fp w w'):DX G w0 bx w':=by
 obtain⟨h1,h2,room,vL,L,left,r⟩:=h;exact⟨h1,Ae h2 x.size,room,vL,L,left,(r.ext x).wide (GI x.size)⟩
instance : Up w w' (DX G w0 bx w) (DX G w0 bx w'):=⟨λx h=>DX.ext h x⟩
theorem D3.modS {S:Nat->Prop}{G':Nat->Prop}{room left:Int}{vL:Value}{L:List Rf}(h:D3 G' bx room vL L left w)(m:Vc.Mod S w w')(hS:∀k,Gb w [138,226,5] k->¬ S k):D3 G' bx room vL L left w':=
 ⟨h.m.mod m (hS bx ⟨_,_,h.m,by decide⟩),h.o.mod m (λk hk=>hS k (K6 h.o Fj hk)),h.e.mod m (λf r k hk=>by
  obtain⟨bs,h1,h2⟩:=h.e.row f r;exact hS k (K6 h1 Fj hk)),h.g0,h.gL,h.gf,h.nl,h.r1,h.us,h.le,h.lf⟩
variable {us:List Nat}
theorem Gb.ne {w:World}{ts:List Nat}{k:Nat}(h:Gb w ts k)(h9:ts.all (λt=>!us.elem t)=true):¬ Gb w us k:=by
 obtain⟨cs,T,h1,h2⟩:=h;refine Fo.noTy h1 ?_;have h3:=AO.1 h9 T (D9.1 h2);simpa using h3
theorem DX.mod {S:Nat->Prop}(h:DX G w0 bx w)(m:Vc.Mod S w w')(hS:∀k,Gb w [138,226,5] k->¬ S k):DX G w0 bx w':=by
 obtain⟨h1,h2,room,vL,L,left,r⟩:=h;exact⟨h1,Ae h2 m.size,room,vL,L,left,(r.modS m hS).wide (GI m.size)⟩
theorem DX.up (hG:∀k,G k->k<w0.heap.size)(hs:w0.heap.size<=w.heap.size)(hz:w.heap.size<=w'.heap.size)(h:NA (FSq (FSq G w0 w) w w') bx w'):DX G w0 bx w':=by
 obtain⟨⟨room,vL,L,left,r⟩,_⟩:=h;exact⟨hG,Ae hs hz,room,vL,L,left,r.wide (λk hk=>hk.elim (GI hz k) (λe=>.inr ⟨Ae hs e.1,e.2⟩))⟩
theorem GT.back {i:Nat}(m:Vc.Mod (GT (FSq G w0 w) ts w) w w')(h:GT (FSq G w0 w') us w' i)(hi:i<w.heap.size)(hu:us.all ts.elem=true):GT (FSq G w0 w) ts w i:=by
 have h1:Gb w' ts i:=by
  obtain⟨cs,T,h1,h2⟩:=h.2;exact⟨cs,T,h1,AO.1 hu T (D9.1 h2)⟩
 exact⟨h.1.imp id (λe=>⟨e.1,hi⟩),h1.back m (λr=>r.2) hi⟩
theorem J0 (G:Nat->Prop)(w0:World)(bx:Nat)(s:Fh)(w:World)(h:DX G w0 bx w):Calls Tryz.prog 145 #[Fg bx 0,S s] w (Hi (GT (FSq G w0 w) [138,226] w) w (λu w'=>∃e:Int,u=I e/\DX G w0 bx w')):=by
 have z:=h.lt;obtain⟨h1,h2,room,vL,L,left,r⟩:=h;exact Calls.mono (X8t _ bx room vL L left s w r z) λe w' ⟨u,e1,m,e9,hu,hd⟩=>⟨u,e1,m,e9,hu,.up h1 h2 m.size hd⟩
theorem ML (G:Nat->Prop)(w0:World)(bx:Nat)(s:Fh)(w:World)(h:DX G w0 bx w):Calls Tryz.prog 209 #[Fg bx 0,S s] w (Hi (GT (FSq G w0 w) [138,226] w) w (λu w'=>∃e:Int,u=I e/\DX G w0 bx w')):=by
 have z:=h.lt;obtain⟨h1,h2,room,vL,L,left,r⟩:=h;exact Calls.mono (X8u _ bx room vL L left s w r z) λe w' ⟨u,e1,m,e9,hu,hd⟩=>⟨u,e1,m,e9,hu,.up h1 h2 m.size hd⟩
theorem drename (G:Nat->Prop)(w0:World)(bx:Nat)(s t:Fh)(w:World)(h:DX G w0 bx w):Calls Tryz.prog 321 #[Fg bx 0,S s,S t] w (Hi (GT (FSq G w0 w) [138,226] w) w (λu w'=>∃e:Int,u=I e/\DX G w0 bx w')):=by
 have z:=h.lt;obtain⟨h1,h2,room,vL,L,left,r⟩:=h;exact Calls.mono (Xzj _ bx room vL L left s t w r z) λe w' ⟨u,e1,m,e9,hu,hd⟩=>⟨u,e1,m,e9,hu,.up h1 h2 m.size hd⟩
theorem K9 (G:Nat->Prop)(w0:World)(bx:Nat)(s p:Fh)(v:Value)(w:World)(h:DX G w0 bx w)(hv:Vc.Own Fq 1 5 0 w v p)(hp:p.length<=10000000000000):Calls Tryz.prog 208 #[Fg bx 0,S s,v] w (Hi (GT (FSq G w0 w) [138,226] w) w (λu w'=>∃e:Int,u=I e/\DX G w0 bx w')):=by
 have z:=h.lt;obtain⟨h1,h2,room,vL,L,left,r⟩:=h;exact Calls.mono (Xzi _ bx room vL L left s p v w r z hv hp) λe w' ⟨u,e1,m,e9,hu,hd⟩=>⟨u,e1,m,e9,hu,.up h1 h2 m.size hd⟩
theorem MS (G:Nat->Prop)(w0:World)(bx:Nat)(s:Fh)(w:World)(h:DX G w0 bx w):Calls Tryz.prog 232 #[Fg bx 0,S s] w (GX w (λu _=>∃(vb:Value) (e:Int),u=.tuple #[vb,I e])):=by
 obtain⟨h1,h2,room,vL,L,left,r⟩:=h;exact IL _ bx room vL L left s w r
end
theorem J4 (G:Nat->Prop)(w0:World)(bx:Nat)(s:Fh)(w:World)(h:DX G w0 bx w) :
  Gf 320 [Fg bx 0,S s] w λu _=>∃b,u=B b:=by
 refine cE Tryz.func320 λr=>?_;have H:=h;refine Ge (MS G w0 bx s _ H) λu1 w1 J z=>?_;have hsz1:=r.size;have r:=r.trans J;obtain⟨vb1,e1,rfl⟩:=z;refine go ?_;exact⟨_,rfl,r,_,rfl⟩
theorem X21 (G:Nat->Prop)(w0:World)(bx:Nat)(s p:Fh)(v:Value)(w:World)(h:DX G w0 bx w)(hv:Vc.Own Fq 1 5 0 w v p)(hpl:p.length<=10000000000000)(hsl:s.length<=1000) :
  Gy 282 [Fg bx 0,S s,v] w (GT (FSq G w0 w) [138,226] w) λu w'=>∃e:Int,u=I e/\DX G w0 bx w':=by
 refine cM Tryz.func282 (GT (FSq G w0 w) [138,226] w) λr=>?_;have z:=h;refine wS (g0 ?_);refine GK (G:=Unit) (λuu=>[(0,Fg bx 0),(1,S s),(2,v)]) (λuu w'=>Mod (GT (FSq G w0 w) [138,226] w) w w'/\DX G w0 bx w'/\Vc.Own Fq 1 5 0 w' v p/\True) ?_ ?_
 ·refine go ?_;refine dp (Iu rfl rfl (by simp;omega)) (cG (J4 G w0 bx (s++[126]) _ z) RX.all λu1 w1 x1 hc=>?_);have hsz1:=r.size;refine FB x1 z hv r λz hv r=>?_;obtain⟨b9,rfl⟩:=hc;refine FZ (λc1=>?_) λc1=>?_
  ·refine go ?_;refine dp (Iu rfl rfl (by simp;omega)) (cD (J0 G w0 bx (s++[126]) _ z) (.inl rfl) λu2 w2 x2 O=>?_);have hsz2:=r.size;have hv:=hv.mod x2 (by exact(λk hk e=>FM hv Fj hk e.2));have r:=r.own x2 (λi hi H=>(GT.back r hi H Fj));obtain⟨e2,rfl,z⟩:=O;refine Fk (λc2=>?_) λc2=>?_
   ·refine go ?_;exact⟨_,rfl,r,_,rfl,z⟩
   refine go ?_;exact⟨(),Kv,r,z,hv,trivial⟩
  refine go ?_;exact⟨(),Kv,r,z,hv,trivial⟩
 rintro _ uu w3 ⟨r,z,hv,htr⟩;refine go ?_;refine dp (Iu rfl rfl (by simp;omega)) (Gw (K9 G w0 bx (s++[126]) p v _ z hv hpl) λu4 w4 x4 Y=>?_);have hsz4:=r.size;have hv:=hv.mod x4 (by exact(λk hk e=>FM hv Fj hk e.2));have r:=r.own x4 (λi hi H=>(GT.back r hi H Fj));obtain⟨e4,rfl,z⟩:=Y;refine g0 ?_;refine GK (G:=Int) (λJ=>[(0,Fg bx 0),(1,S s),(8,I J)]) (λJ w'=>Mod (GT (FSq G w0 w) [138,226] w) w w'/\Vc.Own Fq 1 5 0 w' v p/\DX G w0 bx w'/\True) ?_ ?_
 ·refine Fk (λc3=>?_) λc3=>?_
  ·refine go ?_;refine dp (Iu rfl rfl (by simp;omega)) (cD (ML G w0 bx (s++[126]) _ z) (.inl rfl) λu5 w5 x5 Z=>?_);have hsz5:=r.size;have hv:=hv.mod x5 (by exact(λk hk e=>FM hv Fj hk e.2));have r:=r.own x5 (λi hi H=>(GT.back r hi H Fj));obtain⟨e5,rfl,z⟩:=Z;refine go ?_;exact⟨_,Kv,r,hv,z,trivial⟩
  refine go ?_;exact⟨_,Kv,r,hv,z,trivial⟩
 rintro _ J w6 ⟨r,hv,z,htr⟩;refine GK (G:=Int) (λJ=>[(8,I J)]) (λJ w'=>Mod (GT (FSq G w0 w) [138,226] w) w w'/\Vc.Own Fq 1 5 0 w' v p/\DX G w0 bx w'/\True) ?_ ?_
 ·refine Fk (λc4=>?_) λc4=>?_
  ·refine go ?_;refine dp (Iu rfl rfl (by simp;omega)) (Gw (drename G w0 bx (s++[126]) s _ z) λu7 w7 x7 ha=>?_);have hsz7:=r.size;have hv:=hv.mod x7 (by exact(λk hk e=>FM hv Fj hk e.2));have r:=r.own x7 (λi hi H=>(GT.back r hi H Fj));obtain⟨e7,rfl,z⟩:=ha;refine go ?_;exact⟨_,Qq,r,hv,z,trivial⟩
  refine go ?_;exact⟨_,Qq,r,hv,z,trivial⟩
 rintro _ J w8 ⟨r,hv,z,htr⟩;refine go ?_;exact⟨_,rfl,r,_,rfl,z⟩
theorem YH (G:Nat->Prop)(w0:World)(bx:Nat)(s p:Fh)(v:Value)(w:World)(h:DX G w0 bx w)(hv:Fs Fq 1 w v p)(hpl:p.length<=1000000000000)(hsl:s.length<=900) :
  Gy 220 [Fg bx 0,S s,v] w (GT (FSq G w0 w) [138,226] w) λu w'=>∃e:Int,u=I e/\DX G w0 bx w':=by
 refine cM Tryz.func220 (GT (FSq G w0 w) [138,226] w) λr=>?_;have z:=h;refine go ?_;refine dp (GS Fe rfl rfl) ?_;refine ds1 11 (λc1=>?_) λc1=>?_
 ·refine go ?_;refine GD rfl (go ?_);exact⟨_,rfl,r,_,rfl,z⟩
 refine ds1 16 (λc2=>?_) λc2=>?_
 ·refine go ?_;refine GD rfl (go ?_);exact⟨_,rfl,r,_,rfl,z⟩
 refine Fk (λc3=>?_) λc3=>?_
 ·refine go ?_;exact⟨_,rfl,r,_,rfl,z⟩
 refine Ge (S7 p v _ hv Fb) λu1 w1 x1 O=>?_;have hsz1:=r.size;refine Fz x1 z r λz r=>?_;obtain⟨Z,ez,bz,rfl,hZ,hz9⟩:=O;refine Fk (λc4=>?_) λc4=>?_
 ·refine go ?_;exact⟨_,rfl,r,_,rfl,z⟩
 refine Gw (X21 G w0 bx s bz Z _ z (hZ.mono (Ab _)) Fb Fb) λu2 w2 Y H=>?_;have hsz2:=r.size;have r:=r.own Y (λi hi J=>(GT.back r hi J Fj));obtain⟨e2,rfl,z⟩:=H;refine go ?_;exact⟨_,rfl,r,_,rfl,z⟩
structure SzD (G:Nat->Prop)(w0:World)(B:Nat)(bx:Nat)(w:World):Prop where
 le:B<=w.heap.size
 lo:∀k,G k->k<w0.heap.size
 hs:w0.heap.size<=B
 d:∃room vL L left,D3 (λk=>G k\/(w0.heap.size<=k/\k<B)) bx room vL L left w
section
variable {G:Nat->Prop}{bx B:Nat}{w0 w w':World}
theorem DX.sz (h:DX G w0 bx w):SzD G w0 w.heap.size bx w:=⟨Aa _,h.1,h.2.1,h.2.2⟩
theorem SzD.dx (h:SzD G w0 B bx w):DX G w0 bx w:=by
 obtain⟨room,vL,L,left,r⟩:=h.d;exact⟨h.lo,Ae h.hs h.le,room,vL,L,left,r.wide (λk hk=>hk.imp id (λe=>⟨e.1,Ax e.2 h.le⟩))⟩
theorem SzD.ext (h:SzD G w0 B bx w)(x:Fp w w'):SzD G w0 B bx w':=by
 obtain⟨room,vL,L,left,r⟩:=h.d;exact⟨Ae h.le x.size,h.lo,h.hs,room,vL,L,left,r.ext x⟩
instance : Up w w' (SzD G w0 B bx w) (SzD G w0 B bx w'):=⟨λx h=>SzD.ext h x⟩
theorem SzD.mod {S:Nat->Prop}(h:SzD G w0 B bx w)(m:Vc.Mod S w w')(hS:∀k,k<B->Gb w [138,226,5] k->¬ S k):SzD G w0 B bx w':=by
 obtain⟨room,vL,L,left,r⟩:=h.d;have hb:∀k,(G k\/(w0.heap.size<=k/\k<B))->k<B:=λk hk=>hk.elim (λe=>Ax (h.lo k e) h.hs) (λe=>e.2);exact⟨Ae h.le m.size,h.lo,h.hs,room,vL,L,left,r.m.mod m (hS bx (hb _ r.g0) ⟨_,_,r.m,by decide⟩),r.o.mod m (λk hk=>hS k (hb _ (r.gL k hk)) (K6 r.o Fj hk)),r.e.mod m (λf z k hk=>by
  obtain⟨bs,h1,h2⟩:=r.e.row f z;exact hS k (hb _ (r.gf f z k hk)) (K6 h1 Fj hk)),r.g0,r.gL,r.gf,r.nl,r.r1,r.us,r.le,r.lf⟩
end
variable {w:World}
theorem Gb.blk {b T:Nat}{cs:List Value}{ts:List Nat}(h:Fo w b cs T)(hT:ts.elem T=false):∀k,Gb w ts k->¬ Fu b k:=λk hk e=>Fo.noTy h hT (by rw[<-show k=b from e];exact hk)
structure LE (G:Nat->Prop)(w0:World)(bl bx idx:Nat)(vD vL:Value)(dead:Bool)(LL:List Value)(w:World):Prop where
 d:DX G w0 bx w
 m:Fo w bl [Fg bx 0,S [115],I ↑idx,vD,vL,B dead] 135
 o:Vc.Own J1 1 82 0 w vL LL
 gb:FSq G w0 w bl
 gv:∀k,vL.ownBlock=some k->FSq G w0 w k
 bd:idx+LL.length<=1099511627776
def LX (G:Nat->Prop)(w0:World)(bl bx:Nat)(w:World):Prop:=∃idx vD vL dead LL,LE G w0 bl bx idx vD vL dead LL w
variable {G:Nat->Prop}{bx:Nat}{w0:World}
theorem LX.ext {bl:Nat}{w':World}(h:LX G w0 bl bx w)(x:Fp w w'):LX G w0 bl bx w':=by
 obtain⟨idx,vD,vL,dead,LL,h⟩:=h;exact⟨idx,vD,vL,dead,LL,h.d.ext x,h.m.ext x,h.o.ext x,GI x.size _ h.gb,λk hk=>GI x.size _ (h.gv k hk),h.bd⟩
instance {G : Nat->Prop} {bl bx:Nat} {w0 w w':World} : Up w w' (LX G w0 bl bx w) (LX G w0 bl bx w'):=⟨λx h=>LX.ext h x⟩
theorem Ic (G:Nat->Prop)(w0:World)(bl bx idx:Nat)(vD vL:Value)(dead:Bool)(LL:List Value)(w:World)(h:LE G w0 bl bx idx vD vL dead LL w) :
  FW 31 [Fg bl 0] w (I ↑(idx+LL.length)):=by
 refine cE Tryz.func31 λr=>?_;have hm:=h.m;have z:=h.o;have hbd:=h.bd;refine Gn 100010001000 λw1 H=>?_;have r:=r.trans H;refine go ?_;refine dL rfl (λ_ hR=>((hm.ext (r.trans hR)).at rfl)) (go ?_);refine dL rfl (λ_ hR=>((hm.ext (r.trans hR)).at rfl)) (dv 82 1 ((z.ext r).arr Ff).sl (F3 (v:=I ↑(idx+LL.length)) rfl (GJ rfl rfl (by unfold Fx;omega)) (by show I _=I _;rfl) (go ?_)));exact⟨rfl,r⟩
theorem TT (G:Nat->Prop)(w0:World)(bl bx idx:Nat)(vD vL:Value)(dead:Bool)(LL:List Value)(e:Int)(w:World)(h:LE G w0 bl bx idx vD vL dead LL w) :
  Gy 210 [Fg bl 0,I e] w (Fu bl) λu w'=>u=I e/\LE G w0 bl bx idx vD vL (dead || decide (e≠0)) LL w':=by
 refine cM Tryz.func210 (Fu bl) λz=>?_;have hD:=h.d.sz;have hm:=h.m;have J:=h.o;have hbd:=h.bd;refine Fk (λY=>?_) λY=>?_
 ·refine go ?_;refine JV (b:=bl) (o:=5) (v:=?v4) rfl rfl ?h4 ?n4 Fe (hm) ?o4 (.inl rfl) (λw1 Z xs1 r=>?k4)
  case h4=>conv=>lhs;whnf
  case n4=>rfl
  case o4=>exact Aj rfl
  have z:=z.own Z F4;dsimp only [Gr,AN,AL,AU]at r;have O:=hD.mod Z (λk _=>Gb.blk hm Fj k);have H:=J.mod Z (λk hk e=>J.ne_blk hm rfl (by rw[hk];exact congrArg some e));refine go ?_;exact⟨_,rfl,z,rfl,O.dx,by simpa [Y]using r,H,GI z.size _ h.gb,λk hk=>GI z.size _ (h.gv k hk),h.bd⟩
 refine go ?_;have r:=hm;exact⟨_,rfl,z,rfl,hD.dx,by simpa [Y]using r,J,GI z.size _ h.gb,λk hk=>GI z.size _ (h.gv k hk),h.bd⟩
theorem X8v (G:Nat->Prop)(w0:World)(bl bx idx:Nat)(vD vL:Value)(dead:Bool)(LL:List Value)(s:Fh)(w:World)(h:LE G w0 bl bx idx vD vL dead LL w) :
  Gf 230 [Fg bl 0,S s] w λu _=>∃b,u=B b:=by
 refine cE Tryz.func230 λr=>?_;have H:=h.d.sz;have hm:=h.m;have hL:=h.o;have hbd:=h.bd;refine Ge (MS G w0 bx s _ H.dx) λu1 w1 J z=>?_;have hsz1:=r.size;have r:=r.trans J;obtain⟨vb1,e1,rfl⟩:=z;refine go ?_;exact⟨_,rfl,r,_,rfl⟩
variable {LL:List Value}{dead:Bool}{idx:Nat}{vD vL:Value}
theorem LE.up {bl:Nat}{w1:World}{d2:Bool}(h:LE G w0 bl bx idx vD vL dead LL w)(hs:w.heap.size<=w1.heap.size)(hD:DX G w0 bx w1)(hm:Fo w1 bl [Fg bx 0,S [115],I ↑idx,vD,vL,B d2] 135)(hL:Vc.Own J1 1 82 0 w1 vL LL):LE G w0 bl bx idx vD vL d2 LL w1:=⟨hD,hm,hL,GI hs _ h.gb,λk hk=>GI hs _ (h.gv k hk),h.bd⟩
theorem LE.inB {bl:Nat}(h:LE G w0 bl bx idx vD vL dead LL w){i:Nat}(hi:Fu bl i):GT (FSq G w0 w) [138,226,135,82] w i:=by
 rw[show i=bl from hi];exact⟨h.gb,_,_,h.m,by decide⟩
theorem LE.inL {bl:Nat}(h:LE G w0 bl bx idx vD vL dead LL w){i:Nat}(hi:vL.ownBlock=some i):GT (FSq G w0 w) [138,226,135,82] w i:=⟨h.gv i hi,K6 h.o Fj hi⟩
theorem Xue (G:Nat->Prop)(w0:World)(bl bx idx:Nat)(vD vL:Value)(dead:Bool)(LL:List Value)(p:Fh)(v:Value)(w:World)(h:LE G w0 bl bx idx vD vL dead LL w)(hv:Vc.Own Fq 1 5 0 w v p)(hpl:p.length<=1000000000000) :
  Gy 135 [Fg bl 0,v] w (GT (FSq G w0 w) [138,226,135,82] w) λu w'=>∃(n:Nat) (e:Int),u=.tuple #[I ↑n,I e]/\(e=0->1<=n/\n<=1099511627776)/\LX G w0 bl bx w':=by
 refine cM Tryz.func135 (GT (FSq G w0 w) [138,226,135,82] w) λr=>?_;have H:=h.d.sz;have hm:=h.m;have z:=h.o;have hbd:=h.bd;have xf:=hv.lt;have hn1:=Gq (idx+LL.length+1);have hn2:=Gq p.length;refine Gp (Ic G w0 bl bx idx vD vL dead LL _ (h.up r.size H.dx hm z)) λw1 x1=>FV x1 H hm z hv r λH hm z hv r=>?_;refine F3 (v:=I ↑(idx+LL.length+1)) rfl (GJ rfl rfl (by unfold Fx;omega)) (by show I _=I _;rfl) ?_;refine FZ (λc1=>?_) λc1=>?_
 ·refine go ?_;exact⟨_,rfl,r,0,9,rfl,λe=>(by cases e),⟨_,_,_,_,_,h.up r.size H.dx hm z⟩⟩
 refine go ?_;refine dv 5 1 (hv.arr Ff).sl ?_;refine ds1 22 (λc2=>?_) λc2=>?_
 ·refine go ?_;refine GD rfl (go ?_);exact⟨_,rfl,r,0,5,rfl,λe=>(by cases e),⟨_,_,_,_,_,h.up r.size H.dx hm z⟩⟩
 refine Fk (λc3=>?_) λc3=>?_
 ·refine go ?_;exact⟨_,rfl,r,0,5,rfl,λe=>(by cases e),⟨_,_,_,_,_,h.up r.size H.dx hm z⟩⟩
 refine Ge (My (idx+LL.length+1) _ Fb) λvn w2 x2 xd=>?_;have hp:=r.size;refine FV x2 H hm z hv r λH hm z hv r=>?_;have hN:=xd.mono hp;refine Ge (Ns p v _ (hv.arr Ff) Fb) λvp w3 x3 hP=>?_;have hsz3:=r.size;refine H3 x3 H hm z hv hN r λH hm z hv hN r=>Hf hN (hP.arr Ff) (λv2 w4 hj x4=>?_) (hb:=(by simp [FA]at *;omega));have H:=H.mod x4 (by exact(λk hk ht e=>by have h1:=(hN.lt k e).1;omega));have hm:=hm.mod x4 Fw;have z:=z.mod x4 (by exact(λk hk e=>hN.ne z rfl e hk));have hv:=hv.mod x4 (by exact(λk hk e=>by have h1:=(hN.lt k e).1;have h2:=(xf k hk).2;omega));have r:=r.own x4 F4;have hN:=hj;refine cG (S7 (F6 (idx+LL.length+1)++FA p) v2 _ (hN.arr Ff) (by simp [FA]at *;omega)) RX.all λu5 w5 x5 xc=>?_;have hsz5:=r.size;refine FV x5 H hm z hv r λH hm z hv r=>?_;obtain⟨vz,ez,bz,rfl,hZ,hz9⟩:=xc;refine go ?_;refine HM (R:=Mod (λk=>k≠bl)) HT Ir Fe [3,7] [(0,.p,false),(1,.p,false),(2,.p,false),(3,.l,false),(4,.p,false),(5,.p,false),(6,.p,false),(7,.l,false),(8,.p,false),(9,.p,false),(10,.x,false),(11,.p,false)] rfl Fe Fe (λw6 hh=>?_);have x6:=FC hh;clear hh;refine H3 x6 H hm z hv hZ r λH hm z hv hZ r=>go ?_;refine dL rfl (λ_ hR=>((hm.mod hR (λh=>h rfl)).at rfl)) (go ?_);refine dL rfl (λ_ hR=>((hm.mod hR (λh=>h rfl)).at rfl)) (dp (Iu rfl rfl (by simp;done)) (go ?_));refine J8 rfl Fe (K9 G w0 bx ([115]++[45,108,111,103]) bz vz _ H.dx (hZ.mono (Ab _)) (by simp [FA]at *;omega)) rfl (.inr λ_ h=>h.mono (λk hk _ e=>Gb.blk hm Fj k hk.2 e)) (λu7 w7 x7 xe=>?_);have hsz7:=r.size;have hm:=hm.mod x7 (by exact(λe=>Fo.noTy hm Fj e.2));have z:=z.mod x7 (by exact(λk hk e=>FM z Fj hk e.2));have hv:=hv.mod x7 (by exact(λk hk e=>FM hv Fj hk e.2));have r:=r.own x7 (λi hi J=>(GT.back r hi J Fj));obtain⟨e7,rfl,hl⟩:=xe;have H:=hl.sz;refine g0 ?_;refine GK (G:=Int) (λe9=>[(0,Fg bl 0),(1,v),(4,I 0),(5,I 0),(6,I ↑(idx+LL.length+1)),(9,I e9)]) (λe9 w'=>Mod (GT (FSq G w0 w) [138,226,135,82] w) w w'/\Fo w' bl [Fg bx 0,S [115],I ↑idx,vD,vL,B dead] 135/\Vc.Own J1 1 82 0 w' vL LL/\Vc.Own Fq 1 5 0 w' v p/\DX G w0 bx w') ?_ ?_
 ·refine Fk (λc4=>?_) λc4=>?_
  ·refine HM (R:=Mod (λk=>k≠bl)) HT Ir Fe [3,7] [(0,.p,false),(1,.p,false),(2,.p,false),(3,.l,false),(4,.p,false),(5,.p,false),(6,.p,false),(7,.l,false),(8,.p,false),(9,.x,false),(10,.p,false)] rfl Fe Fe (λw8 h5=>?_);have x8:=FC h5;clear h5;refine FV x8 hm z hv H r λhm z hv H r=>go ?_;refine dL rfl (λ_ hR=>((hm.mod hR (λh=>h rfl)).at rfl)) (go ?_);refine dL rfl (λ_ hR=>((hm.mod hR (λh=>h rfl)).at rfl)) (dp (Iu rfl rfl (by simp;done)) (J8 rfl Fe (ML G w0 bx ([115]++[45,108,111,103]) _ H.dx) rfl (.inr λ_ h=>h.mono (λk hk _ e=>Gb.blk hm Fj k hk.2 e)) (λu9 w9 x9 xh=>?_)));have ha:=r.size;have hm:=hm.mod x9 (by exact(λe=>Fo.noTy hm Fj e.2));have z:=z.mod x9 (by exact(λk hk e=>FM z Fj hk e.2));have hv:=hv.mod x9 (by exact(λk hk e=>FM hv Fj hk e.2));have r:=r.own x9 (λi hi J=>(GT.back r hi J Fj));obtain⟨e9,rfl,h6⟩:=xh;have H:=h6.sz;refine go ?_;exact⟨_,Hn,r,hm,z,hv,H.dx⟩
  refine go ?_;exact⟨_,Hn,r,hm,z,hv,H.dx⟩
 rintro _ e9 w10 ⟨r,hm,z,hv,hDx⟩;have H:=hDx.sz;refine Gw (TT G w0 bl bx idx vD vL dead LL e9 _ (h.up r.size H.dx hm z)) λu11 w11 hq hw=>?_;have hsz11:=r.size;have hv:=hv.mod hq Fw;have r:=r.own hq (λi hi J=>(h.inB hi));obtain⟨rfl,hE⟩:=hw;have H:=hE.d.sz;have hm:=hE.m;have z:=hE.o;refine Fk (λc5=>?_) λc5=>?_
 ·refine go ?_;exact⟨_,rfl,r,0,e9,rfl,λe=>(by exact absurd e (by assumption)),⟨_,_,_,_,_,h.up r.size H.dx hm z⟩⟩
 refine go ?_;refine HM (R:=Mod (λk=>k≠bl)) HT Ir Fe [4] [(0,.p,false),(1,.p,false),(2,.p,false),(3,.p,false),(4,.l,false),(6,.p,false),(5,.x,false),(7,.x,false),(8,.x,false),(9,.x,true),(10,.p,false),(11,.p,false),(12,.x,true)] rfl Fe Fe (λw12 Z=>?_);have xg:=FC Z;clear Z;refine FV xg hv H hm z r λhv H hm z r=>go ?_;refine dL rfl (λ_ hR=>((hm.mod hR (λh=>h rfl)).at rfl)) (go ?_);refine IY (e:=5) (sz:=1) rfl Fe RX.mod (λb1 w13 e1 xa m1=>?_);have g1:=r.ge e1;have o1_hv:=hv.ltb e1;have a1_hD:=H.le;have a1_hm:=hm.lt;have o1_hL:=z.ltb e1;refine FV xa hv H hm z r λhv H hm z r=>?_;have O:=m1.own (enc:=Fq) (B:=b1) (l:=[]) (sz:=1) (m:=0) (Aa _) rfl Ff rfl (Aj rfl);refine Hf O (hv.arr Ff) (λvc w14 h7 Y=>?_) (hB:=(D8 m1.lt)) (hR:=(.inr λw9 h9=>h9.mono (λk hk _ e=>O.ne_blk hm rfl (by rw[hk,e]))));have H:=H.mod Y (by exact(λk hk ht e=>by have h1:=(O.lt k e).1;omega));have hm:=hm.mod Y Fw;have z:=z.mod Y (by exact(λk hk e=>O.ne z rfl e hk));have r:=r.own Y (λi hi J=>(by have:=(O.lt i hi).1;omega));have O:=h7;refine Io (e:=82) (sz:=1) (zs:=[.slice none 0 0]) (pv:=[(0,?a45_0)]) (cs:=[?a45_0]) rfl Fe ⟨rfl,rfl⟩ Fe rfl ?h45 ?f45 RX.mod (λb2 w15 e2 h8 m2=>?k45)
 case h45=>refine⟨rfl,?_,trivial⟩<;>(conv=>lhs;whnf)
 case f45=>simp [Hm,Gr,An,O.sl.cells]
 have g2:=r.ge e2;have a2_hD:=H.le;have a2_hm:=hm.lt;have o2_hL:=z.ltb e2;refine FV h8 H hm z O r λH hm z O r=>?_;refine LY (lx:=[vc]) (e:=82) (sz:=1) (by':=24) rfl Fe Fe Ff z (m2.arr (enc:=J1) (sz:=1) (l:=[vc]) rfl Ff rfl (Aj rfl)) rfl rfl (by intro x xi u hu;rw[Af.1 xi]at hu;rw[Af.1 hu];exact O.sl.one) (by simp;omega) Fj (Ab _) (.inr λw9 h9=>h9.mono (λk hk _ e=>z.ne_blk hm rfl (by rw[hk,e]))) (λxb w16 hz hf hc=>?_);have hr:=hc;have ha:=r.size;have H:=H.mod hf (by exact(λk hk ht e=>FM z Fj e ht));have hm:=hm.mod hf Fw;have r:=r.own hf (λi hi J=>(h.inL hi));have z:=hz;clear m2;refine go ?_;refine JV (b:=bl) (o:=4) (v:=?v46) rfl rfl ?h46 ?n46 Fe (hm) ?o46 (.inl rfl) (λw17 hg xs17 hy=>?k46)
 case h46=>conv=>lhs;whnf
 case n46=>exact z.sl.one
 case o46=>exact Aj rfl
 have r:=r.own hg (λi hi J=>(h.inB hi));dsimp only [Gr,AN,AL,AU]at hy;have H:=H.mod hg (λk _=>Gb.blk hm Fj k);have z:=z.mod hg Fw;have hLlt:=z.lt;refine go ?_;refine⟨_,rfl,r,idx+LL.length+1,0,rfl,λ_=>⟨by omega,by omega⟩,idx,vD,xb,_,LL++[vc],H.dx,hy,z,GI r.size _ h.gb,λk hk=>?_,by simp;omega⟩;rcases hr with e|e
 ·exact GI r.size _ (h.gv k (by rw[<-e];exact hk))
 ·exact .inr ⟨by rw[hk]at e;cases e;exact Ae h.d.2.1 ha,(z.lt k hk).2⟩
theorem Xzl (G:Nat->Prop)(w0:World)(bl bx idx:Nat)(vD vL:Value)(dead:Bool)(LL:List Value)(n:Nat)(p:Fh)(v:Value)(w:World)(h:LE G w0 bl bx idx vD vL dead LL w)(hv:Vc.Own Fq 1 5 0 w v p)(hnn:n<=1099511627776)(hpl:p.length<=100000000000) :
  Gy 221 [Fg bl 0,I ↑n,v] w (GT (FSq G w0 w) [138,226,135,82] w) λu w'=>∃e:Int,u=I e/\LX G w0 bl bx w':=by
 refine cM Tryz.func221 (GT (FSq G w0 w) [138,226,135,82] w) λr=>?_;have z:=h.d.sz;have hm:=h.m;have H:=h.o;have hbd:=h.bd;have h7:=hv.lt;have hn1:=Gq n;have hn2:=Gq p.length;refine FZ (λc1=>?_) λc1=>?_
 ·refine go ?_;exact⟨_,rfl,r,_,rfl,⟨_,_,_,_,_,h.up r.size z.dx hm H⟩⟩
 refine Gp (Ic G w0 bl bx idx vD vL dead LL _ (h.up r.size z.dx hm H)) λw1 x1=>FV x1 z hm H hv r λz hm H hv r=>?_;refine ds1 18 (λc2=>?_) λc2=>?_
 ·refine go ?_;refine GD rfl (go ?_);exact⟨_,rfl,r,_,rfl,⟨_,_,_,_,_,h.up r.size z.dx hm H⟩⟩
 refine Fk (λc3=>?_) λc3=>?_
 ·refine go ?_;exact⟨_,rfl,r,_,rfl,⟨_,_,_,_,_,h.up r.size z.dx hm H⟩⟩
 refine go ?_;refine dv 5 1 (hv.arr Ff).sl ?_;refine Fk (λc4=>?_) λc4=>?_
 ·refine go ?_;exact⟨_,rfl,r,_,rfl,⟨_,_,_,_,_,h.up r.size z.dx hm H⟩⟩
 refine go ?_;refine HM (R:=Mod (λk=>k≠bl)) HT Ir Fe [3,7] [(0,.p,false),(1,.p,false),(2,.p,false),(3,.l,false),(4,.p,false),(5,.p,false),(6,.p,false),(7,.l,false),(8,.p,false),(9,.p,false),(11,.p,false),(10,.x,false),(12,.x,false),(13,.x,false),(14,.x,false),(15,.p,false)] rfl Fe Fe (λw2 hh=>?_);have x2:=FC hh;clear hh;refine FV x2 z hm H hv r λz hm H hv r=>go ?_;refine dL rfl (λ_ hR=>((hm.mod hR (λh=>h rfl)).at rfl)) (go ?_);refine dL rfl (λ_ hR=>((hm.mod hR (λh=>h rfl)).at rfl)) (dp (Iu rfl rfl (by simp;done)) (go ?_));refine cG (My n _ Fb) RX.mod λvn w3 x3 h5=>?_;have hq:=r.size;refine FV x3 z hm H hv r λz hm H hv r=>?_;have hN:=h5.mono hq;refine cG (Ns p v _ (hv.arr Ff) Fb) RX.mod λvp w4 x4 hP=>?_;have hsz4:=r.size;refine H3 x4 z hm H hv hN r λz hm H hv hN r=>Hf hN (hP.arr Ff) (λv2 w5 hc x5=>?_) (hb:=(by simp [FA]at *;omega)) (hR:=(.inr λw9 h9=>h9.mono (λk hk _ e=>hN.ne_blk hm rfl (by rw[hk,e]))));have z:=z.mod x5 (by exact(λk hk ht e=>by have h1:=(hN.lt k e).1;omega));have hm:=hm.mod x5 Fw;have H:=H.mod x5 (by exact(λk hk e=>hN.ne H rfl e hk));have hv:=hv.mod x5 (by exact(λk hk e=>by have h1:=(hN.lt k e).1;have h2:=(h7 k hk).2;omega));have r:=r.own x5 F4;have hN:=hc;refine J8 rfl Fe (YH G w0 bx ([115]++[45,105,109,103]) (F6 n++FA p) v2 _ z.dx (hN.arr Ff) (by simp [FA]at *;omega) (Aj rfl)) rfl (.inr λ_ h=>h.mono (λk hk _ e=>Gb.blk hm Fj k hk.2 e)) (λu6 w6 x6 xb=>?_);have hsz6:=r.size;have hm:=hm.mod x6 (by exact(λe=>Fo.noTy hm Fj e.2));have H:=H.mod x6 (by exact(λk hk e=>FM H Fj hk e.2));have hv:=hv.mod x6 (by exact(λk hk e=>FM hv Fj hk e.2));have r:=r.own x6 (λi hi J=>(GT.back r hi J Fj));obtain⟨e6,rfl,hj⟩:=xb;have z:=hj.sz;refine g0 ?_;refine GK (G:=Int) (λe9=>[(0,Fg bl 0),(1,I ↑n),(2,v),(6,I 0),(7,I e9)]) (λe9 w'=>Mod (GT (FSq G w0 w) [138,226,135,82] w) w w'/\Fo w' bl [Fg bx 0,S [115],I ↑idx,vD,vL,B dead] 135/\Vc.Own J1 1 82 0 w' vL LL/\Vc.Own Fq 1 5 0 w' v p/\DX G w0 bx w') ?_ ?_
 ·refine ds1 43 (λc5=>?_) λc5=>?_
  ·refine go ?_;refine dp (Iu rfl rfl (by simp;done)) (cG (X8v G w0 bl bx idx vD vL dead LL ([115]++[45,108,111,103]) _ (h.up r.size z.dx hm H)) RX.all λu7 w7 x7 h6=>?_);have hsz7:=r.size;refine FV x7 hm H hv z r λhm H hv z r=>?_;obtain⟨b9,rfl⟩:=h6;refine FZ (λc6=>?_) λc6=>?_
   ·refine HM (R:=Mod (λk=>k≠bl)) HT Ir Fe [3,7] [(0,.p,false),(1,.p,false),(2,.p,false),(3,.l,false),(4,.p,false),(5,.p,false),(6,.p,false),(7,.l,false),(8,.p,false),(9,.x,false),(10,.p,false)] rfl Fe Fe (λw8 hr=>?_);have x8:=FC hr;clear hr;refine FV x8 hm H hv z r λhm H hv z r=>go ?_;refine dL rfl (λ_ hR=>((hm.mod hR (λh=>h rfl)).at rfl)) (go ?_);refine dL rfl (λ_ hR=>((hm.mod hR (λh=>h rfl)).at rfl)) (dp (Iu rfl rfl (by simp;done)) (J8 rfl Fe (J0 G w0 bx ([115]++[45,108,111,103]) _ z.dx) rfl (.inr λ_ h=>h.mono (λk hk _ e=>Gb.blk hm Fj k hk.2 e)) (λu9 w9 x9 xa=>?_)));have hsz9:=r.size;have hm:=hm.mod x9 (by exact(λe=>Fo.noTy hm Fj e.2));have H:=H.mod x9 (by exact(λk hk e=>FM H Fj hk e.2));have hv:=hv.mod x9 (by exact(λk hk e=>FM hv Fj hk e.2));have r:=r.own x9 (λi hi J=>(GT.back r hi J Fj));obtain⟨e9,rfl,hy⟩:=xa;have z:=hy.sz;refine go ?_;exact⟨_,GC,r,hm,H,hv,z.dx⟩
   refine go ?_;exact⟨_,GC,r,hm,H,hv,z.dx⟩
  refine go ?_;refine GL rfl (go ?_);exact⟨_,GC,r,hm,H,hv,z.dx⟩
 rintro _ e9 w10 ⟨r,hm,H,hv,hDx⟩;have z:=hDx.sz;refine Gw (TT G w0 bl bx idx vD vL dead LL e9 _ (h.up r.size z.dx hm H)) λu11 w11 hg hl=>?_;have hsz11:=r.size;have hv:=hv.mod hg Fw;have r:=r.own hg (λi hi J=>(h.inB hi));obtain⟨rfl,hE⟩:=hl;have z:=hE.d.sz;have hm:=hE.m;have H:=hE.o;refine Fk (λc7=>?_) λc7=>?_
 ·refine go ?_;exact⟨_,rfl,r,_,rfl,⟨_,_,_,_,_,h.up r.size z.dx hm H⟩⟩
 refine go ?_;refine IY (e:=5) (sz:=1) rfl Fe RX.all (λb1 w12 e1 h8 m1=>?_);have g1:=r.ge e1;have o1_hv:=hv.ltb e1;have a1_hD:=z.le;have a1_hm:=hm.lt;have o1_hL:=H.ltb e1;refine FV h8 hv z hm H r λhv z hm H r=>go ?_;have hC:=m1.own (enc:=Fq) (B:=b1) (l:=[]) (sz:=1) (m:=0) (Aa _) rfl Ff rfl (Aj rfl);refine Hf hC (hv.arr Ff) (λvc w13 hz O=>?_) (hB:=(D8 m1.lt));have z:=z.mod O (by exact(λk hk ht e=>by have h1:=(hC.lt k e).1;omega));have hm:=hm.mod O Fw;have H:=H.mod O (by exact(λk hk e=>hC.ne H rfl e hk));have r:=r.own O (λi hi J=>(by have:=(hC.lt i hi).1;omega));have hC:=hz;refine go ?_;refine JV (b:=bl) (o:=2) (v:=?v46) rfl rfl ?h46 ?n46 Fe (hm) ?o46 (.inl rfl) (λw14 ha xs14 Y=>?k46)
 case h46=>conv=>lhs;whnf
 case n46=>rfl
 case o46=>exact Aj rfl
 have r:=r.own ha (λi hi J=>(h.inB hi));dsimp only [Gr,AN,AL,AU]at Y;have z:=z.mod ha (λk _=>Gb.blk hm Fj k);refine go ?_;refine JV (b:=bl) (o:=3) (v:=?v47) rfl rfl ?h47 ?n47 Fe (Y) ?o47 (.inl rfl) (λw15 hf xs15 Z=>?k47)
 case h47=>conv=>lhs;whnf
 case n47=>exact hC.sl.one
 case o47=>exact Aj rfl
 have r:=r.own hf (λi hi J=>(h.inB hi));dsimp only [Gr,AN,AL,AU]at Z;have z:=z.mod hf (λk _=>Gb.blk Y Fj k);refine go ?_;refine JV (b:=bl) (o:=4) (v:=?v48) rfl rfl ?h48 ?n48 Fe (Z) ?o48 (.inl rfl) (λw16 hw xs16 hp=>?k48)
 case h48=>conv=>lhs;whnf
 case n48=>rfl
 case o48=>exact Aj rfl
 have r:=r.own hw (λi hi J=>(h.inB hi));dsimp only [Gr,AN,AL,AU]at hp;have z:=z.mod hw (λk _=>Gb.blk Z Fj k);refine go ?_;exact⟨_,rfl,r,0,rfl,n,vc,.slice none 0 0,_,[],z.dx,hp,Vc.Own.nil,GI r.size _ h.gb,λk hk=>(by cases hk),by simp;omega⟩
theorem Rg (bs bx bl bm:Nat)(n:Int)(vf vT:Value)(dead:Bool)(e:Int)(w:World)(h:Fo w bs [Fg bx 0,Fg bl 0,I n,vf,vT,Fg bm 0,B dead] 69) :
  Gy 146 [Fg bs 0,I e] w (Fu bs) λu w'=>u=I e/\Fo w' bs [Fg bx 0,Fg bl 0,I n,vf,vT,Fg bm 0,B true] 69:=by
 refine cM Tryz.func146 (Fu bs) λr=>?_;have hm:=h;refine go ?_;refine df 6 (rfl) (HG hm (λw1 z xs1 hm=>?_));have r:=r.own z F4;refine go ?_;exact⟨_,rfl,r,rfl,hm⟩
theorem X22 (bs bx bl bm:Nat)(n:Int)(vf vT:Value)(dead:Bool)(fs:List Fi)(lev:Int)(s:Fh)(w:World)(h:Fo w bs [Fg bx 0,Fg bl 0,I n,vf,vT,Fg bm 0,B dead] 69)(hv:Fs Fi.cs 5 w vf fs)(hl:fs.length<=100000000)(hlev:-10<=lev/\lev<=10) :
  Gf 225 [Fg bs 0,I lev,S s] w λu _=>∃b,u=B b:=by
 refine cE Tryz.func225 λr=>?_;have hm:=h;refine F9 (G:=Int) (λz=>[(0,Fg bs 0),(2,S s),(7,I z)]) (λz w'=>Fp w w'/\-10<=z/\z<=12) (λz=>(12-z).toNat) (lev+1) ⟨r,by omega,by omega⟩ ?_;rintro _ z w1 ⟨r,hz1,hz2⟩;refine go ?_;refine dp (IA rfl rfl) ?_;refine Fk (λZ=>?_) λZ=>?_
 ·refine go ?_;refine dq (Fy Fe rfl rfl ((hm.ext r).part 2 2)) (Ge (NP n fs vf z s s _ (hv.ext r) hl) λvhq w2 Y O=>?_);have H:=r.size;have r:=r.trans Y;obtain⟨q,J,ql,qm⟩:=O;have hq:=J.mono H;refine dv 62 5 (hq.arr Ff).sl ?_;refine Fk (λc2=>?_) λc2=>?_
  ·refine go ?_;exact⟨_,rfl,r,_,rfl⟩
  refine go ?_;exact FJ (z+1) ⟨r,by omega,by omega⟩
 refine go ?_;exact⟨_,rfl,r,_,rfl⟩
theorem Qf {α:Type}{enc:α->List Value}{sz T B:Nat}{v:Value}{l:List α}(h:Vc.Own enc sz T B w v l)(hw:w0.heap.size<=w.heap.size):∃B9,w0.heap.size<=B9/\(∀k,v.ownBlock=some k->k<B9)/\(∀b T cs,Fo w b cs T->b<B9)/\Sz B9 w:=⟨w.heap.size,hw,λk hk=>(h.lt k hk).2,λb T cs hb=>hb.lt,⟨Aa _⟩⟩
theorem X23 (xs:List Fi)(k:Nat)(f:Fi)(L:Int):Hz xs L<=Hz (xs.take k++[f]++xs.drop k) L:=by
 have h:=congrArg (λl=>(List.filter (λf:Fi=>decide (f.lev=L)) l).length) (AS k xs);simp only [Bs,Ad]at h;unfold Hz;simp only [Bs,Ad];omega
variable {fs:List Fi}
theorem Ow {xs:List Fi}(h:∀L,Hz fs L<=Hz xs L)(hp:KM fs):KM xs:=by
 have h0:=h 0;have h1:=h 1;have h2:=h 2;have h3:=h 3;unfold KM at *;omega
theorem Ybv {add xs:List Fi}{k:Nat}{f:Fi}(h:∀x∈xs,x∈fs\/x∈add)(hf:f∈add):∀x∈xs.take k++[f]++xs.drop k,x∈fs\/x∈add:=λx r=>by
 rcases Ak.1 r with r|r
 ·rcases Ak.1 r with r|r
  ·exact h x (Cr r)
  ·rw[Af.1 r];exact .inr hf
 ·exact h x (C2 r)
theorem Xzm (n:Int)(fs:List Fi)(vf:Value)(gone:List Int)(vg:Value)(add:List Fi)(va:Value)(w:World)(hv:Fs Fi.cs 5 w vf fs)(hl:fs.length<=100000000)(hs:∀f∈fs,f.fst.length<=140737488355328/\f.lst.length<=140737488355328)(hg:Fs Vc.encI 1 w vg gone)(hgl:gone.length<=40000000)(ha:Fs Fi.cs 5 w va add)(hal:fs.length+add.length<=100000000)(had:∀f∈add,Fx f.id/\f.fst.length<=140737488355328/\f.lst.length<=140737488355328) :
  Gf 218 [.agg ⟨[I n,vf]⟩,vg,va] w λu w'=>∃(nx:Int) (vx:Value) (xs:List Fi) (e:Int),u=.tuple #[.agg ⟨[I nx,vx]⟩,I e]/\Vc.Own Fi.cs 5 62 w.heap.size w' vx xs/\(e=0->Qy nx xs/\add.length<=xs.length/\(gone=[]->KM fs->KM xs)/\∀f∈xs,f∈fs\/f∈add):=by
 refine cE Tryz.func218 λr=>go ?_;refine Gx rfl rfl rfl RX.all (λb1 w1 e1 x1 J=>?_);have g1:=r.ge e1;have r:=r.trans x1;refine aL [.int .i64 0,.slice none 0 0] λb2 w2 e2 x2 H=>?_;have g2:=r.ge e2;have n2_1:=J.ltb e2;refine Fz x2 J r λJ r=>go ?_;refine dq (Fy (k:=2) Fe rfl rfl J.row) (cG (PF n fs vf _ (hv.ext r) hl hs) RX.all λu3 w3 x3 y7=>?_);have hsz3:=r.size;refine FB x3 J H r λJ H r=>?_;obtain⟨b9,rfl,hb9⟩:=y7;refine FZ (λc1=>?_) λc1=>?_
 ·refine go ?_;refine db (zs:=[.int .i64 0,.slice none 0 0]) (pl:=[(0,1),(1,1)]) (pv:=[]) (cs:=[.int .i64 0,.slice none 0 0]) ?_;refine Gc H (λw4 x4 xs4 H=>?_);have J:=J.mo x4;have r:=r.o1 x4;refine go ?_;refine It (u:=?v6) rfl rfl rfl rfl Fe rfl H.row ?h6 ?k6
  case h6=>conv=>lhs;whnf
  exact⟨_,rfl,r,0,.slice none 0 0,[],1,rfl,Vc.Own.nil,λe=>(by cases e)⟩
 have hbt:b9=true:=by simpa using c1
 refine g0 ?_;refine GK (G:=Nat×Value) (λ(b4,hp)=>[(1,vg),(2,va),(6,Fg b2 0),(7,I 0),(8,Fg b4 0)]) (λ(b4,hp) w'=>Fp w w'/\Fo w' b1 [I n,vf] 56/\Fo w' b2 [I 0,.slice none 0 0] 56/\Fo w' b4 [I n,hp] 56/\Vc.Own Fi.cs 5 62 w.heap.size w' hp fs/\w.heap.size<=b4/\b1<b4/\b2<b4) ?_ ?_
 ·refine Kf (R:=Mod (λk=>k≠b1)) HT Ir Fe [1,4] (.one 0 .p false (.one 1 .l false (.one 3 .p false (.one 4 .l false (.fork (.alt 2 false (.fork (.alt 5 false (.one 6 .p false (.one 7 .x false (.one 8 .x true .nil))) (.alt 7 false (.one 5 .x false (.one 6 .p false (.one 8 .x true .nil))) .stop))) (.alt 7 false (.one 2 .x false (.one 5 .x false (.one 6 .p false (.one 8 .x true .nil)))) .stop))))))) Fe Fe (λw5 ye=>?_);have x5:=FC ye;clear ye;refine FB x5 J H r λJ H r=>go ?_;refine dL rfl (λ_ hR=>((J.mod hR (λh=>h rfl)).at rfl)) (go ?_);refine dL rfl (λ_ hR=>((J.mod hR (λh=>h rfl)).at rfl)) (go ?_);refine IQ ?_;refine Hc ?_ ?_
  ·refine IY (e:=62) (sz:=5) rfl Fe RX.mod (λb3 w6 e3 x6 m3=>?_);have g3:=r.ge e3;have n3_1:=J.ltb e3;have n3_2:=H.ltb e3;refine FB x6 J H r λJ H r=>go ?_;refine IQ ?_;refine Hc ?_ ?_
   ·have z:=m3.own (enc:=Fi.cs) (B:=w.heap.size) (l:=[]) (sz:=5) (m:=0) g3 rfl Ff rfl (Aj rfl);refine Hf z (hv.ext r) (λhp w7 ht x7=>?_) (hR:=(.inr λw9 h9=>h9.mono (λk hk _ e=>by have h8:b3=k:=Al.inj hk;have h1:=J.lt;omega)));have J:=J.mod x7 Fw;have H:=H.mod x7 Fw;have r:=r.own x7 F4;have z:=ht;refine go ?_;refine dp (LI (zs:=[.int .i64 0,.slice none 0 0]) (pl:=[(0,1),(1,1)]) (pv:=[(0,?a7_0),(1,?a7_1)]) (cs:=[?a7_0,?a7_1]) Fe Fe ?h7 ?f7) ?k7
    case h7=>refine⟨rfl,?_,rfl,?_,trivial⟩<;>(conv=>lhs;whnf)
    case f7=>simp [Hm,Gr,An,z.sl.cells,show(Value.int IntKind.i64 n).cells=⟨[I n]⟩ from rfl]
    refine go ?_;refine aL [.int .i64 0,.slice none 0 0] (λb4 w8 e4 x8 O=>?_) (hR:=RX.mod);have g4:=r.ge e4;have n4_1:=J.ltb e4;have n4_2:=H.ltb e4;have o4_hX:=z.ltb e4;refine FP x8 J H z r λJ H z r=>go ?_;refine Gc O (λw9 x9 xs9 O=>?_) (h1:=by(intro u hu;rcases Ah.1 hu with e|hu;subst e;rfl;rw[Af.1 hu];exact z.sl.one));have J:=J.mo x9;have H:=H.mo x9;have z:=z.mod x9 Fw;have r:=r.o1 x9;refine go ?_;exact⟨(_,_),GC,r,J,H,by assumption,z,by assumption,by omega,by omega⟩
   refine Hc ?_ ?_
   ·refine aL [.int .i64 0,.slice none 0 0] (λb5 w10 e5 yu m5=>?_) (hR:=RX.mod);have g5:=r.ge e5;have n5_1:=J.ltb e5;have n5_2:=H.ltb e5;have n5_3:=m3.ltb e5;refine FP yu J H m3 r λJ H m3 r=>go ?_;have z:=m3.own (enc:=Fi.cs) (B:=w.heap.size) (l:=[]) (sz:=5) (m:=0) g3 rfl Ff rfl (Aj rfl);refine Hf z (hv.ext r) (λhp w11 ht xq=>?_) (hR:=(.inr λw9 h9=>h9.mono (λk hk _ e=>by have h8:b3=k:=Al.inj hk;have h1:=J.lt;omega)));have J:=J.mod xq Fw;have H:=H.mod xq Fw;have m5:=m5.mod xq Fw;have r:=r.own xq F4;have z:=ht;have hne5:∀k,hp.ownBlock=some k->¬ Fu b5 k:=λk hk e=>z.ne_blk m5 rfl (hk.trans (congrArg some e));refine go ?_;refine dp (LI (zs:=[.int .i64 0,.slice none 0 0]) (pl:=[(0,1),(1,1)]) (pv:=[(0,?a9_0),(1,?a9_1)]) (cs:=[?a9_0,?a9_1]) Fe Fe ?h9 ?f9) ?k9
    case h9=>refine⟨rfl,?_,rfl,?_,trivial⟩<;>(conv=>lhs;whnf)
    case f9=>simp [Hm,Gr,An,z.sl.cells,show(Value.int IntKind.i64 n).cells=⟨[I n]⟩ from rfl]
    refine go ?_;refine Gc m5 (λw12 xn xs12 m5=>?_) (h1:=by(intro u hu;rcases Ah.1 hu with e|hu;subst e;rfl;rw[Af.1 hu];exact z.sl.one));have J:=J.mo xn;have H:=H.mo xn;have z:=z.mod xn Fw;have r:=r.o1 xn;refine go ?_;exact⟨(_,_),GC,r,J,H,by assumption,z,by assumption,by omega,by omega⟩
   exact IZ
  refine Hc ?_ ?_
  ·refine aL [.int .i64 0,.slice none 0 0] (λb6 w13 e6 yw m6=>?_) (hR:=RX.mod);have g6:=r.ge e6;have n6_1:=J.ltb e6;have n6_2:=H.ltb e6;refine FB yw J H r λJ H r=>go ?_;refine IY (e:=62) (sz:=5) rfl Fe RX.mod (λb7 w14 e7 yt m7=>?_);have g7:=r.ge e7;have n7_1:=J.ltb e7;have n7_2:=H.ltb e7;have n7_6:=m6.ltb e7;refine FP yt J H m6 r λJ H m6 r=>go ?_;have z:=m7.own (enc:=Fi.cs) (B:=w.heap.size) (l:=[]) (sz:=5) (m:=0) g7 rfl Ff rfl (Aj rfl);refine Hf z (hv.ext r) (λhp w15 ht xp=>?_) (hR:=(.inr λw9 h9=>h9.mono (λk hk _ e=>by have h8:b7=k:=Al.inj hk;have h1:=J.lt;omega)));have J:=J.mod xp Fw;have H:=H.mod xp Fw;have m6:=m6.mod xp Fw;have r:=r.own xp F4;have z:=ht;have hne6:∀k,hp.ownBlock=some k->¬ Fu b6 k:=λk hk e=>z.ne_blk m6 rfl (hk.trans (congrArg some e));refine go ?_;refine dp (LI (zs:=[.int .i64 0,.slice none 0 0]) (pl:=[(0,1),(1,1)]) (pv:=[(0,?a11_0),(1,?a11_1)]) (cs:=[?a11_0,?a11_1]) Fe Fe ?h11 ?f11) ?k11
   case h11=>refine⟨rfl,?_,rfl,?_,trivial⟩<;>(conv=>lhs;whnf)
   case f11=>simp [Hm,Gr,An,z.sl.cells,show(Value.int IntKind.i64 n).cells=⟨[I n]⟩ from rfl]
   refine go ?_;refine stA m6 (λw16 xt xs16 m6=>?_) (h1:=by(intro u hu;rcases Ah.1 hu with e|hu;subst e;rfl;rw[Af.1 hu];exact z.sl.one));have J:=J.mo xt;have H:=H.mo xt;have z:=z.mod xt Fw;have r:=r.o1 xt;refine go ?_;exact⟨(_,_),GC,r,J,H,by assumption,z,by assumption,by omega,by omega⟩
  exact IZ
 rintro _ ⟨b4,hp⟩ w17 ⟨r,J,H,O,z,g4,hb14,hb24⟩;refine F9 (G:=Nat×Int×Value×List Fi) (λ(i,nx,vx,xs)=>[(1,vg),(2,va),(6,Fg b2 0),(8,Fg b4 0),(9,I ↑i)]) (λ(i,nx,vx,xs) w'=>Fp w w'/\Fo w' b1 [I n,vf] 56/\Fo w' b2 [I 0,.slice none 0 0] 56/\i<=gone.length/\xs.length<=fs.length/\(∀f∈xs,f∈fs)/\(gone=[]->xs=fs)/\Fo w' b4 [I nx,vx] 56/\Vc.Own Fi.cs 5 62 w.heap.size w' vx xs) (λ(i,nx,vx,xs)=>gone.length-i) (0,n,hp,fs) ⟨r,J,H,Ab _,Aa _,λf hf=>hf,λ_=>rfl,O,by simpa using z⟩ ?_;rintro _ ⟨i,nx,vx,xs⟩ w18 ⟨r,J,H,hi1,hxl1,hxs8,hge,O,z⟩;refine FL 3 1 (hg.ext r).sl ?_;refine Fk (λc2=>?_) λc2=>?_
 ·obtain⟨id0,hki⟩:∃id0,gone[i]?=some id0:=F8;obtain⟨B9,hj,hr,xk,Y⟩:=Qf z r.size;have x0:=xk _ _ _ O;refine F9 (G:=Nat×Value×List Fi) (λ(k,vl,l)=>[(1,vg),(2,va),(6,Fg b2 0),(8,Fg b4 0),(9,I ↑i),(10,vl),(11,I ↑k)]) (λ(k,vl,l) w'=>Fp w w'/\Fo w' b1 [I n,vf] 56/\Fo w' b2 [I 0,.slice none 0 0] 56/\Fo w' b4 [I nx,vx] 56/\Vc.Own Fi.cs 5 62 w.heap.size w' vx xs/\Sz B9 w'/\k<=xs.length/\l.length<=k/\(∀f∈l,f∈xs)/\Vc.Own Fi.cs 5 62 B9 w' vl l) (λ(k,vl,l)=>xs.length-k) (0,.slice none 0 0,[]) ⟨r,J,H,O,z,Y,Ab _,Aa _,λf hf=>(by cases hf),Vc.Own.nil⟩ ?_;rintro _ ⟨k,vl,l⟩ w19 ⟨r,J,H,O,z,Y,hk1,hll,hlm,hh⟩;refine go ?_;refine dv 62 5 (z.arr Ff).sl ?_;refine Fk (λc3=>?_) λc3=>?_
  ·obtain⟨g,hk⟩:∃g,xs[k]?=some g:=F8;refine Gn 101000100010 λw20 yl=>Lk yl J H O z Y hh r λJ H O z Y hh r=>?_;refine go ?_;refine di 62 5 (z.arr Ff).sl rfl ((z.arr Ff).lt hk) (go ?_);refine dL rfl (λ_ hR=>((((z.arr Ff).ext hR).row hk).at rfl)) (FK 3 1 hg.sl (hg.lt hki) ?_);refine dL rfl (λ_ hR=>(((hg.ext (r.trans hR)).row hki).at0 rfl)) ?_;refine Fk (λc4=>?_) λc4=>?_
   ·refine go ?_;refine di 62 5 (z.arr Ff).sl rfl ((z.arr Ff).lt hk) (dq (Fy Fe rfl rfl ((z.arr Ff).row hk)) (lA 62 rfl λb8 w21 e8 y3 m8=>?_));have g8:=r.ge e8;have n8_1:=J.ltb e8;have n8_2:=H.ltb e8;have n8_4:=O.ltb e8;have o8_hX:=z.ltb e8;have a8_hS:=Y.le;have o8_hl9:=hh.ltb e8;refine Lk y3 J H O z Y hh r λJ H O z Y hh r=>G1 g hh m8 (λyv w22 xw xj=>?_) (hB:=Y.le);have J:=J.mod xj Fw;have H:=H.mod xj Fw;have O:=O.mod xj Fw;have z:=z.mod xj (by exact(λk hk e=>by have h1:=(hh.lt k e).1;have h2:=hr k hk;omega));have Y:=Y.mod xj Fw;have r:=r.own xj (λi hi=>(Ae hj (hh.lt i hi).1));have hh:=xw;clear m8;refine go ?_;exact⟨(k+1,yv,l++[g]),GY,⟨r,J,H,O,z,Y,by omega,by simp;omega,Le hlm (Ag hk),hh⟩,by simp only [];omega⟩
   refine go ?_;exact⟨(k+1,vl,l),GY,⟨r,J,H,O,z,Y,by omega,by omega,hlm,hh⟩,by simp only [];omega⟩
  refine go ?_;refine dv 62 5 (hh.arr Ff).sl (go ?_);refine dv 62 5 (z.arr Ff).sl ?_;refine Fk (λc5=>?_) λc5=>?_
  ·refine go ?_;refine db (zs:=[.int .i64 0,.slice none 0 0]) (pl:=[(0,1),(1,1)]) (pv:=[]) (cs:=[.int .i64 0,.slice none 0 0]) ?_;refine Gc H (λw23 xa xs23 H=>?_);have J:=J.mo xa;have O:=O.mo xa;have z:=z.mod xa Fw;have Y:=Y.mod xa Fw;have hh:=hh.mod xa Fw;have r:=r.o1 xa;refine go ?_;refine It (u:=?v34) rfl rfl rfl rfl Fe rfl H.row ?h34 ?k34
   case h34=>conv=>lhs;whnf
   exact⟨_,rfl,r,0,.slice none 0 0,[],1,rfl,Vc.Own.nil,λe=>(by cases e)⟩
  refine go ?_;refine HG O (λw24 xg xs24 O=>?_) (hv:=by exact Fv.one hh.sl);have J:=J.mo xg;have H:=H.mo xg;have z:=z.mod xg Fw;have Y:=Y.mod xg Fw;have hh:=hh.mod xg Fw;have r:=r.o1 xg;refine go ?_;exact FJ (i+1,nx,vl,l) ⟨r,J,H,by omega,by omega,λf hf=>hxs8 f (hlm f hf),λe=>absurd (show gone.length=0 by rw[e];rfl) Fb,O,hh.mono hj⟩
 refine F9 (G:=Nat×Int×Value×List Fi) (λ(j,nx,vx,xs)=>[(2,va),(6,Fg b2 0),(8,Fg b4 0),(12,I ↑j)]) (λ(j,nx,vx,xs) w'=>Fp w w'/\Fo w' b1 [I n,vf] 56/\Fo w' b2 [I 0,.slice none 0 0] 56/\j<=add.length/\j<=xs.length/\xs.length<=fs.length+j/\(∀f∈xs,f∈fs\/f∈add)/\(gone=[]->∀L,Hz fs L<=Hz xs L)/\Fo w' b4 [I nx,vx] 56/\Vc.Own Fi.cs 5 62 w.heap.size w' vx xs) (λ(j,nx,vx,xs)=>add.length-j) (0,nx,vx,xs) ⟨r,J,H,Ab _,Ab _,hxl1,λf hf=>.inl (hxs8 f hf),λe L=>(by rw[hge e];exact Aa _),O,z⟩ ?_;rintro _ ⟨j,nx,vx,xs⟩ w25 ⟨r,J,H,hj1,hjx,hxl1,hxs9,hcn,O,z⟩;refine FL 62 5 (ha.ext r).sl ?_;refine Fk (λc6=>?_) λc6=>?_
 ·obtain⟨f,hkj⟩:∃f,add[j]?=some f:=F8;have yg:=Ag hkj;have yp:=(had f yg).1;unfold Fx at yp;refine g0 ?_;refine wS (g0 ?_);refine GK (G:=Int) (λnx=>[(2,va),(6,Fg b2 0),(8,Fg b4 0),(12,I ↑j)]) (λnx w'=>Fp w w'/\Fo w' b1 [I n,vf] 56/\Fo w' b2 [I 0,.slice none 0 0] 56/\Vc.Own Fi.cs 5 62 w.heap.size w' vx xs/\Fo w' b4 [I nx,vx] 56) ?_ ?_
  ·refine Gn 101010000 λw26 yq=>FV yq J H O z r λJ H O z r=>?_;refine FK 62 5 ha.sl (ha.lt hkj) ?_;refine go ?_;refine dL rfl (λ_ hR=>(((ha.ext (r.trans hR)).row hkj).at rfl)) (go ?_);refine dp (HW rfl rfl) ?_;refine Fk (λc7=>?_) λc7=>?_
   ·refine FK 62 5 ha.sl (ha.lt hkj) ?_;refine go ?_;refine dl rfl (((ha.ext r).row hkj).at rfl) (dp (HW rfl rfl) ?_);refine Fk (λc8=>?_) λc8=>?_
    ·refine go ?_;refine db (zs:=[.int .i64 0,.slice none 0 0]) (pl:=[(0,1),(1,1)]) (pv:=[]) (cs:=[.int .i64 0,.slice none 0 0]) ?_;refine Gc H (λw27 xo xs27 H=>?_);have J:=J.mo xo;have O:=O.mo xo;have z:=z.mod xo Fw;have r:=r.o1 xo;refine go ?_;refine It (u:=?v49) rfl rfl rfl rfl Fe rfl H.row ?h49 ?k49
     case h49=>conv=>lhs;whnf
     exact⟨_,rfl,r,0,.slice none 0 0,[],1,rfl,Vc.Own.nil,λe=>(by cases e)⟩
    have yf:∀k,vx.ownBlock=some k->¬ Fu b4 k:=λk hk e=>z.ne_blk O rfl (hk.trans (congrArg some e));refine FK 62 5 ha.sl (ha.lt hkj) ?_;refine go ?_;refine dl rfl (((ha.ext r).row hkj).at rfl) (go ?_);refine HG O (λw28 xu xs28 O=>?_) (hv:=by rfl);have J:=J.mo xu;have H:=H.mo xu;have z:=z.mod xu Fw;have r:=r.o1 xu;refine go ?_;exact⟨_,He,r,J,H,z,O⟩
   refine go ?_;exact⟨_,He,r,J,H,z,O⟩
  rintro _ nx w29 ⟨r,J,H,z,O⟩;refine F9 (G:=Nat) (λk=>[(2,va),(6,Fg b2 0),(8,Fg b4 0),(12,I ↑j),(13,I ↑k)]) (λk w'=>Fp w w'/\Fo w' b1 [I n,vf] 56/\Fo w' b2 [I 0,.slice none 0 0] 56/\Vc.Own Fi.cs 5 62 w.heap.size w' vx xs/\Fo w' b4 [I nx,vx] 56/\k<=xs.length) (λk=>xs.length-k) 0 ⟨r,J,H,z,O,Ab _⟩ ?_;rintro _ k w30 ⟨r,J,H,z,O,hk9⟩;refine wS ?_;refine GK (G:=Bool) (λbb=>[(2,va),(6,Fg b2 0),(8,Fg b4 0),(12,I ↑j),(13,I ↑k),(111,.bool bb)]) (λbb w'=>Fp w w'/\Fo w' b1 [I n,vf] 56/\Fo w' b2 [I 0,.slice none 0 0] 56/\Vc.Own Fi.cs 5 62 w.heap.size w' vx xs/\Fo w' b4 [I nx,vx] 56/\(bb=true->k<xs.length)) ?_ ?_
  ·refine wd 102100010010000100 λw31 y1=>FV y1 J H z O r λJ H z O r=>go ?_;refine dv 62 5 (z.arr Ff).sl ?_;refine ds1 100 (λc9=>?_) λc9=>?_
   ·obtain⟨g,hk⟩:∃g,xs[k]?=some g:=F8;refine go ?_;refine di 62 5 (z.arr Ff).sl rfl ((z.arr Ff).lt hk) (Gd rfl (λw' hR=>Fy Fe rfl rfl (((z.arr Ff).ext hR).row hk)) (FK 62 5 ha.sl (ha.lt hkj) ?_));refine Gd rfl (λw' hR=>Fy Fe rfl rfl ((ha.ext (r.trans hR)).row hkj)) (cP (Wu g f _) RX.ext λw32 yz=>FV yz J H z O r λJ H z O r=>go ?_);exact⟨_,Hn,r,J,H,z,O,λ_=>by omega⟩
   refine go ?_;exact⟨false,Hn,r,J,H,z,O,λe=>(by cases e)⟩
  rintro _ bb w33 ⟨r,J,H,z,O,hbb⟩;refine wc (λxy=>?_) λxy=>?_
  ·have hk8:=hbb xy;refine go ?_;exact FJ (k+1) ⟨r,J,H,z,O,by omega⟩
  obtain⟨B9,hj,hr,xk,Y⟩:=Qf z r.size;have x0:=xk _ _ _ O;refine g0 ?_;refine GK (G:=Value) (λhq=>[(2,va),(6,Fg b2 0),(8,Fg b4 0),(12,I ↑j),(13,I ↑k),(14,hq)]) (λhq w'=>Fp w w'/\Fo w' b1 [I n,vf] 56/\Fo w' b2 [I 0,.slice none 0 0] 56/\Vc.Own Fi.cs 5 62 w.heap.size w' vx xs/\Fo w' b4 [I nx,vx] 56/\Sz B9 w'/\Vc.Own Fi.cs 5 62 B9 w' hq (xs.take k++[f])) ?_ ?_
  ·refine Kf (R:=Mod (λk=>B9<=k)) HT Ir Fe [2,9] (.one 1 .p false (.one 2 .l false (.one 3 .p false (.one 4 .p false (.one 6 .p false (.one 7 .p false (.one 8 .p false (.one 9 .l false (.fork (.alt 0 false (.fork (.alt 5 false (.one 10 .x false (.one 11 .x false (.one 12 .p false .nil))) (.alt 10 false (.one 5 .x false (.one 11 .x false (.one 12 .p false .nil))) .stop))) (.alt 10 false (.one 0 .x false (.one 5 .x false (.one 11 .x false (.one 12 .p false .nil)))) .stop))))))))))) Fe Fe (λw34 xv=>?_);have y0:=FC xv;clear xv;refine H3 y0 J H z O Y r λJ H z O Y r=>go ?_;refine dL rfl (λ_ hR=>((O.mod hR (λh=>by have h1:=x0;omega)).at rfl)) (go ?_);refine dp (H8 (e:=62) (k:=5) Fe (z.arr Ff).sl rfl rfl rfl (Ab _) hk9) (FK 62 5 ha.sl (ha.lt hkj) ?_);refine go ?_;refine Gd rfl (λw' hR=>Fy Fe rfl rfl (((ha.ext r).mod hR (λyy h=>by have h2:=Fs.base_lt ha Fj yy;omega)).row hkj)) (go ?_);refine IQ ?_;refine Hc ?_ ?_
   ·refine IY (e:=62) (sz:=5) rfl Fe RX.mod (λb9 w35 e9 ym m9=>?_);have g9:=r.ge e9;have n9_1:=J.ltb e9;have n9_2:=H.ltb e9;have n9_4:=O.ltb e9;have o9_hX:=z.ltb e9;have a9_hS:=Y.le;refine H3 ym J H z O Y r λJ H z O Y r=>go ?_;refine IQ ?_;refine Hc ?_ ?_
    ·have Z:=m9.own (enc:=Fi.cs) (B:=B9) (l:=[]) (sz:=5) (m:=0) (by have:=Y.le;omega) rfl Ff rfl (Aj rfl);refine HZ (e:=62) (sz:=5) (by':=56) rfl Fe Fe Ff Z ((z.arr Ff).slice (Ab _) hk9) rfl rfl (by intro x _ u hu;simp at hu;rcases hu with rfl|rfl|rfl|rfl|rfl<;>rfl) (by simp;omega) Fj Y.le (.inr λw9 h9=>h9.mono (λk hk _=>(Z.lt k hk).1)) (λxz w36 hc h5=>?_);have J:=J.mod h5 Fw;have H:=H.mod h5 Fw;have z:=z.mod h5 (by exact(λk hk e=>by have h1:=(Z.lt k e).1;have h2:=hr k hk;omega));have O:=O.mod h5 Fw;have Y:=Y.mod h5 Fw;have r:=r.own h5 (λi hi=>(Ae hj (Z.lt i hi).1));have Z:=hc;refine go ?_;refine lA 62 rfl (λb10 w37 xd yi ya=>?_) (hR:=RX.mod);have g10:=r.ge xd;have n10_1:=J.ltb xd;have n10_2:=H.ltb xd;have n10_4:=O.ltb xd;have o10_hX:=z.ltb xd;have a10_hS:=Y.le;have o10_hM:=Z.ltb xd;refine Lk yi J H z O Y Z r λJ H z O Y Z r=>go ?_;refine G1 f Z ya (λhq w38 hc xb=>?_) (hB:=Y.le) (hR:=(.inr λw9 h9=>h9.mono (λk hk _=>(Z.lt k hk).1)));have J:=J.mod xb Fw;have H:=H.mod xb Fw;have z:=z.mod xb (by exact(λk hk e=>by have h1:=(Z.lt k e).1;have h2:=hr k hk;omega));have O:=O.mod xb Fw;have Y:=Y.mod xb Fw;have r:=r.own xb (λi hi=>(Ae hj (Z.lt i hi).1));have Z:=hc;clear ya;refine go ?_;exact⟨hq,Hn,r,J,H,z,O,Y,by simpa using Z⟩
    refine Hc ?_ ?_
    ·refine lA 62 rfl (λy2 w39 xc y5 xr=>?_) (hR:=RX.mod);have g11:=r.ge xc;have n11_1:=J.ltb xc;have n11_2:=H.ltb xc;have n11_4:=O.ltb xc;have n11_9:=m9.ltb xc;have o11_hX:=z.ltb xc;have a11_hS:=Y.le;refine Lk y5 J H z O Y m9 r λJ H z O Y m9 r=>go ?_;have Z:=m9.own (enc:=Fi.cs) (B:=B9) (l:=[]) (sz:=5) (m:=0) (by have:=Y.le;omega) rfl Ff rfl (Aj rfl);refine HZ (e:=62) (sz:=5) (by':=56) rfl Fe Fe Ff Z ((z.arr Ff).slice (Ab _) hk9) rfl rfl (by intro x _ u hu;simp at hu;rcases hu with rfl|rfl|rfl|rfl|rfl<;>rfl) (by simp;omega) Fj Y.le (.inr λw9 h9=>h9.mono (λk hk _=>(Z.lt k hk).1)) (λxz w40 hc hy=>?_);have J:=J.mod hy Fw;have H:=H.mod hy Fw;have z:=z.mod hy (by exact(λk hk e=>by have h1:=(Z.lt k e).1;have h2:=hr k hk;omega));have O:=O.mod hy Fw;have Y:=Y.mod hy Fw;have xr:=xr.mod hy (by intro h;have h2:b9=y2:=Al.inj h;omega);have r:=r.own hy (λi hi=>(Ae hj (Z.lt i hi).1));have Z:=hc;refine go ?_;refine G1 f Z xr (λhq w41 hc xe=>?_) (hB:=Y.le) (hR:=(.inr λw9 h9=>h9.mono (λk hk _=>(Z.lt k hk).1)));have J:=J.mod xe Fw;have H:=H.mod xe Fw;have z:=z.mod xe (by exact(λk hk e=>by have h1:=(Z.lt k e).1;have h2:=hr k hk;omega));have O:=O.mod xe Fw;have Y:=Y.mod xe Fw;have r:=r.own xe (λi hi=>(Ae hj (Z.lt i hi).1));have Z:=hc;clear xr;refine go ?_;exact⟨hq,Hn,r,J,H,z,O,Y,by simpa using Z⟩
    exact IZ
   refine Hc ?_ ?_
   ·refine lA 62 rfl (λyk w42 xl yx hz=>?_) (hR:=RX.mod);have g12:=r.ge xl;have n12_1:=J.ltb xl;have n12_2:=H.ltb xl;have n12_4:=O.ltb xl;have o12_hX:=z.ltb xl;have a12_hS:=Y.le;refine H3 yx J H z O Y r λJ H z O Y r=>go ?_;refine IY (e:=62) (sz:=5) rfl Fe RX.mod (λyr w43 xf yn y4=>?_);have g13:=r.ge xf;have n13_1:=J.ltb xf;have n13_2:=H.ltb xf;have n13_4:=O.ltb xf;have n13_12:=hz.ltb xf;have o13_hX:=z.ltb xf;have a13_hS:=Y.le;refine Lk yn J H z O Y hz r λJ H z O Y hz r=>go ?_;have Z:=y4.own (enc:=Fi.cs) (B:=B9) (l:=[]) (sz:=5) (m:=0) (by have:=Y.le;omega) rfl Ff rfl (Aj rfl);refine HZ (e:=62) (sz:=5) (by':=56) rfl Fe Fe Ff Z ((z.arr Ff).slice (Ab _) hk9) rfl rfl (by intro x _ u hu;simp at hu;rcases hu with rfl|rfl|rfl|rfl|rfl<;>rfl) (by simp;omega) Fj Y.le (.inr λw9 h9=>h9.mono (λk hk _=>(Z.lt k hk).1)) (λxz w44 hc hw=>?_);have J:=J.mod hw Fw;have H:=H.mod hw Fw;have z:=z.mod hw (by exact(λk hk e=>by have h1:=(Z.lt k e).1;have h2:=hr k hk;omega));have O:=O.mod hw Fw;have Y:=Y.mod hw Fw;have hz:=hz.mod hw (by intro h;have h2:yr=yk:=Al.inj h;omega);have r:=r.own hw (λi hi=>(Ae hj (Z.lt i hi).1));have Z:=hc;refine go ?_;refine G1 f Z hz (λhq w45 hc xi=>?_) (hB:=Y.le) (hR:=(.inr λw9 h9=>h9.mono (λk hk _=>(Z.lt k hk).1)));have J:=J.mod xi Fw;have H:=H.mod xi Fw;have z:=z.mod xi (by exact(λk hk e=>by have h1:=(Z.lt k e).1;have h2:=hr k hk;omega));have O:=O.mod xi Fw;have Y:=Y.mod xi Fw;have r:=r.own xi (λi hi=>(Ae hj (Z.lt i hi).1));have Z:=hc;clear hz;refine go ?_;exact⟨hq,Hn,r,J,H,z,O,Y,by simpa using Z⟩
   exact IZ
  rintro _ hq w46 ⟨r,J,H,z,O,Y,Z⟩;refine go ?_;refine dp (H8 (e:=62) (k:=5) Fe (z.arr Ff).sl rfl rfl rfl hk9 (Aa _)) ?_;refine HZ (e:=62) (sz:=5) (by':=56) rfl Fe Fe Ff Z ((z.arr Ff).slice hk9 (Aa _)) rfl rfl (by intro x _ u hu;simp at hu;rcases hu with rfl|rfl|rfl|rfl|rfl<;>rfl) (by simp;omega) Fj Y.le (.inl rfl) (λy6 w47 hc xh=>?_);have J:=J.mod xh Fw;have H:=H.mod xh Fw;have z:=z.mod xh (by exact(λk hk e=>by have h1:=(Z.lt k e).1;have h2:=hr k hk;omega));have O:=O.mod xh Fw;have Y:=Y.mod xh Fw;have r:=r.own xh (λi hi=>(Ae hj (Z.lt i hi).1));have Z:=hc;refine go ?_;refine HG O (λw48 xm xs48 O=>?_) (hv:=by exact Fv.one Z.sl);have J:=J.mo xm;have H:=H.mo xm;have z:=z.mod xm Fw;have Z:=Z.mod xm Fw;have r:=r.o1 xm;refine go ?_;exact FJ (j+1,nx,y6,xs.take k++[f]++xs.drop k) ⟨r,J,H,by omega,by simp;omega,by simp;omega,Ybv hxs9 yg,λe L=>Ae (hcn e L) (X23 xs k f L),O,by simpa using Z.mono hj⟩
 refine go ?_;refine dq (Fy (k:=2) Fe rfl rfl O.row) (cG (PF nx xs vx _ (z.arr Ff) Fb (λf hf=>(hxs9 f hf).elim (hs f) (λh9=>(had f h9).2))) RX.all λu49 w49 yo yb=>?_);have hsz49:=r.size;refine FP yo H O z r λH O z r=>?_;obtain⟨b8,rfl,yj⟩:=yb;refine FZ (λyc=>?_) λyc=>?_
 ·refine go ?_;refine db (zs:=[.int .i64 0,.slice none 0 0]) (pl:=[(0,1),(1,1)]) (pv:=[]) (cs:=[.int .i64 0,.slice none 0 0]) ?_;refine Gc H (λw50 xx xs50 H=>?_);have O:=O.mo xx;have z:=z.mod xx Fw;have r:=r.o1 xx;refine go ?_;refine It (u:=?v81) rfl rfl rfl rfl Fe rfl H.row ?h81 ?k81
  case h81=>conv=>lhs;whnf
  exact⟨_,rfl,r,0,.slice none 0 0,[],1,rfl,Vc.Own.nil,λe=>(by cases e)⟩
 have yd:b8=true:=by simpa using yc
 have yf:∀k,vx.ownBlock=some k->¬ Fu b2 k:=λk hk e=>z.ne_blk H rfl (hk.trans (congrArg some e));refine go ?_;refine dq (Fy (k:=2) Fe rfl rfl O.row) (Gc H (λw51 yh xs51 H=>?_) (h1:=by(intro u hu;rcases Ah.1 hu with e|hu;subst e;rfl;rw[Af.1 hu];exact z.sl.one)));have z:=z.mod yh Fw;have r:=r.o1 yh;refine go ?_;refine It (u:=?v84) rfl rfl rfl rfl Fe rfl H.row ?h84 ?k84
 case h84=>conv=>lhs;whnf
 exact⟨_,rfl,r,nx,vx,xs,0,rfl,z,λ_=>⟨yj.1 yd,by omega,λe=>Ow (hcn e),hxs9⟩⟩
structure Tr where
 id:Int
 v:Value
 l:List Cell
@[reducible] def Tr.cs (t:Tr):List Value:=[I t.id,t.v]
theorem Wd (bs bx bl bm:Nat)(n:Int)(vf vT:Value)(dead:Bool)(T:List Tr)(id:Int)(w:World)(h:Fo w bs [Fg bx 0,Fg bl 0,I n,vf,vT,Fg bm 0,B dead] 69)(hT:Fs Tr.cs 2 w vT T)(hE:∀t∈T,Fs Cell.cs 4 w t.v t.l)(hl:T.length<=100000000) :
  Gf 214 [Fg bs 0,I id] w λu w'=>∃l,Fs Cell.cs 4 w' u l/\(l=[]\/∃t∈T,l=t.l):=by
 refine cE Tryz.func214 λr=>?_;have hm:=h;refine F9 (G:=Nat) (λk=>[(0,Fg bs 0),(1,I id),(5,I ↑k)]) (λk w'=>Fp w w'/\k<=T.length) (λk=>T.length-k) 0 ⟨r,Ab _⟩ ?_;rintro _ k w1 ⟨r,hk1⟩;refine go ?_;refine df 4 (rfl) (dl rfl ((hm.ext r).at rfl) (dv 218 2 (hT.ext r).sl ?_));refine Fk (λz=>?_) λz=>?_
 ·obtain⟨t,hk⟩:∃t,T[k]?=some t:=F8;refine go ?_;refine df 4 (rfl) (dl rfl ((hm.ext r).at rfl) (FK 218 2 hT.sl (hT.lt hk) ?_));refine go ?_;refine dl rfl (((hT.ext r).row hk).at rfl) ?_;refine Fk (λH=>?_) λH=>?_
  ·refine go ?_;refine df 4 (rfl) (dl rfl ((hm.ext r).at rfl) (FK 218 2 hT.sl (hT.lt hk) ?_));refine go ?_;refine dl rfl (((hT.ext r).row hk).at rfl) (go ?_);exact⟨_,rfl,r,t.l,(hE t (Ag hk)).ext r,.inr ⟨t,Ag hk,rfl⟩⟩
  refine go ?_;exact FJ (k+1) ⟨r,by omega⟩
 refine go ?_;exact⟨_,rfl,r,[],(Vc.Own.nil (T:=0) (B:=0)).arr Ff,.inl rfl⟩
theorem Xzn (bs bx bl bm:Nat)(n:Int)(vf vT:Value)(dead:Bool)(fs:List Fi)(T:List Tr)(p:List Fi)(vp:Value)(lev:Int)(w:World)(h:Fo w bs [Fg bx 0,Fg bl 0,I n,vf,vT,Fg bm 0,B dead] 69)(hv:Fs Fi.cs 5 w vf fs)(hfl:fs.length<=100000000)(hT:Fs Tr.cs 2 w vT T)(hE:∀t∈T,Fs Cell.cs 4 w t.v t.l)(hl:T.length<=100000000)(hp:Fs Fi.cs 5 w vp p)(hpl:p.length<=10000)(hlev:-10<=lev/\lev<=10)(hb:∀t∈T,t.l.length<=4096) :
  Gf 143 [Fg bs 0,vp,I lev] w λu w'=>∃l,Vc.Own Cell.cs 4 79 w.heap.size w' u l/\l.length<=40960000/\∀c∈l,∃t∈T,c∈t.l:=by
 refine cE Tryz.func143 λr=>?_;have hm:=h;refine F9 (G:=Nat×Value×List Cell) (λ(k,vl,l)=>[(0,Fg bs 0),(1,vp),(2,I lev),(6,.slice none 0 0),(7,vl),(8,I ↑k)]) (λ(k,vl,l) w'=>Fp w w'/\k<=p.length/\l.length<=4096*k/\(∀c∈l,∃t∈T,c∈t.l)/\Fs Cell.cs 4 w' vl l) (λ(k,vl,l)=>p.length-k) (0,.slice none 0 0,[]) ⟨r,Ab _,Ab _,λc hc=>(by cases hc),(Vc.Own.nil (T:=0) (B:=0)).arr Ff⟩ ?_;rintro _ ⟨k,vl,l⟩ w1 ⟨r,hk1,hll1,hlT,hA⟩;refine FL 62 5 (hp.ext r).sl ?_;refine Fk (λc1=>?_) λc1=>?_
 ·obtain⟨f,hk⟩:∃f,p[k]?=some f:=F8;refine FK 62 5 hp.sl (hp.lt hk) ?_;refine go ?_;refine dl rfl (((hp.ext r).row hk).at rfl) (cG (Wd bs bx bl bm n vf vT dead T _ _ (hm.ext r) (hT.ext r) (λt ht=>(hE t ht).ext r) hl) RX.all λvc w2 x2 hq=>?_);have hsz2:=r.size;refine Fz x2 hA r λhA r=>?_;obtain⟨lc,hC,hf⟩:=hq;have hcb:lc.length<=4096:=hf.elim (λe=>by rw[e];exact Ab _) (λ⟨t,ht,e⟩=>by rw[e];exact hb t ht);refine cG (Yq l lc vl vc _ hA hC Fb) RX.all λvm w3 x3 h7=>?_;have hsz3:=r.size;refine Fz x3 hA r λhA r=>?_;obtain⟨m2,hM,h6,J⟩:=h7;have h5:=hM.arr Ff;refine go ?_;exact FJ (k+1,vm,m2) ⟨r,by omega,by omega,λc hc=>(J c hc).elim (hlT c) (λh9=>hf.elim (λe=>by rw[e]at h9;cases h9) (λ⟨t,ht,e⟩=>⟨t,ht,by rw[<-e];exact h9⟩)),h5⟩
 refine Ge (RS l vl _ hA Fb) λhh w4 x4 hy=>?_;have hg:=r.size;have r:=r.trans x4;obtain⟨l2,hw,hll,hz,hln⟩:=hy;have z:=hw.mono hg;obtain⟨B9,ha,hj,hbl9,H⟩:=Qf z r.size;refine F9 (G:=Nat×Value×List Cell) (λ(k,vo,m)=>[(0,Fg bs 0),(2,I lev),(6,.slice none 0 0),(7,hh),(9,vo),(10,I ↑k)]) (λ(k,vo,m) w'=>Fp w w'/\Vc.Own Cell.cs 4 79 w.heap.size w' hh l2/\Sz B9 w'/\k<=l2.length/\m.length<=k/\(∀c∈m,c∈l2)/\Vc.Own Cell.cs 4 79 B9 w' vo m) (λ(k,vo,m)=>l2.length-k) (0,.slice none 0 0,[]) ⟨r,z,H,Ab _,Aa _,λc hc=>(by cases hc),Vc.Own.nil⟩ ?_;rintro _ ⟨k,vo,m⟩ w5 ⟨r,z,H,hk1,h6,J,ho⟩;refine go ?_;refine dv 79 4 (z.arr Ff).sl ?_;refine Fk (λc2=>?_) λc2=>?_
 ·obtain⟨c,hk⟩:∃c,l2[k]?=some c:=F8;refine go ?_;refine di 79 4 (z.arr Ff).sl rfl ((z.arr Ff).lt hk) (go ?_);refine dl rfl (((z.arr Ff).row hk).at rfl) (go ?_);refine Il 40 rfl (λc3=>?_) (λc3=>?_)
  ·refine go ?_;refine GD rfl (go ?_);refine di 79 4 (z.arr Ff).sl rfl ((z.arr Ff).lt hk) (dq (Fy Fe rfl rfl ((z.arr Ff).row hk)) (lA 79 rfl λb1 w6 e1 x6 m1=>?_));have g1:=r.ge e1;have o1_hL:=z.ltb e1;have a1_hS:=H.le;have o1_ho:=ho.ltb e1;refine FP x6 z H ho r λz H ho r=>G1 c ho m1 (λZ w7 O x7=>?_) (hB:=H.le);have z:=z.mod x7 (by exact(λk hk e=>by have h1:=(ho.lt k e).1;have h2:=hj k hk;omega));have H:=H.mod x7 Fw;have r:=r.own x7 (λi hi=>(Ae ha (ho.lt i hi).1));have ho:=O;clear m1;refine go ?_;exact⟨(k+1,Z,m++[c]),Hn,⟨r,z,H,by omega,by simp;omega,Le J (Ag hk),ho⟩,by simp only [];omega⟩
  refine go ?_;refine di 79 4 (z.arr Ff).sl rfl ((z.arr Ff).lt hk) (go ?_);refine dl rfl (((z.arr Ff).row hk).at rfl) (cG (X22 bs bx bl bm n vf vT dead fs lev c.key _ (hm.ext r) (hv.ext r) hfl hlev) RX.all λu8 w8 x8 hr=>?_);have hsz8:=r.size;refine FP x8 z H ho r λz H ho r=>?_;obtain⟨b9,rfl⟩:=hr;refine FZ (λc4=>?_) λc4=>?_
  ·refine go ?_;refine di 79 4 (z.arr Ff).sl rfl ((z.arr Ff).lt hk) (dq (Fy Fe rfl rfl ((z.arr Ff).row hk)) (lA 79 rfl λb2 w9 e2 x9 m2=>?_));have g2:=r.ge e2;have o2_hL:=z.ltb e2;have a2_hS:=H.le;have o2_ho:=ho.ltb e2;refine FP x9 z H ho r λz H ho r=>G1 c ho m2 (λZ w10 O Y=>?_) (hB:=H.le);have z:=z.mod Y (by exact(λk hk e=>by have h1:=(ho.lt k e).1;have h2:=hj k hk;omega));have H:=H.mod Y Fw;have r:=r.own Y (λi hi=>(Ae ha (ho.lt i hi).1));have ho:=O;clear m2;refine go ?_;exact⟨(k+1,Z,m++[c]),Hn,⟨r,z,H,by omega,by simp;omega,Le J (Ag hk),ho⟩,by simp only [];omega⟩
  refine go ?_;exact⟨(k+1,vo,m),Hn,⟨r,z,H,by omega,by omega,J,ho⟩,by simp only [];omega⟩
 refine go ?_;exact⟨_,rfl,r,m,ho.mono ha,by omega,λc hc=>hlT c (hz c (J c hc))⟩
theorem X24 (bs bx bl bm:Nat)(n:Int)(vf vT:Value)(dead:Bool)(T:List Tr)(id:Int)(w:World)(h:Fo w bs [Fg bx 0,Fg bl 0,I n,vf,vT,Fg bm 0,B dead] 69)(hT:Fs Tr.cs 2 w vT T)(hE:∀t∈T,t.v.oneCell'=true)(hl:T.length<=100000000)(hbT:T≠[]->(base vT).1≠bs) :
  Gy 144 [Fg bs 0,I id] w (Fu bs) λu w'=>u=.tuple #[]/\∃vT' T',Fo w' bs [Fg bx 0,Fg bl 0,I n,vf,vT',Fg bm 0,B dead] 69/\Vc.Own Tr.cs 2 218 w.heap.size w' vT' T'/\T'.length<=T.length/\∀t∈T',t∈T:=by
 refine cM Tryz.func144 (Fu bs) λr=>?_;have hm:=h;refine F9 (G:=Nat×Value×List Tr) (λ(k,vo,m)=>[(0,Fg bs 0),(1,I id),(4,vo),(5,I ↑k)]) (λ(k,vo,m) w'=>Mod (Fu bs) w w'/\Fo w' bs [Fg bx 0,Fg bl 0,I n,vf,vT,Fg bm 0,B dead] 69/\k<=T.length/\m.length<=k/\(∀t∈m,t∈T)/\Vc.Own Tr.cs 2 218 w.heap.size w' vo m) (λ(k,vo,m)=>T.length-k) (0,.slice none 0 0,[]) ⟨r,hm,Ab _,Aa _,λc hc=>(by cases hc),Vc.Own.nil⟩ ?_;rintro _ ⟨k,vo,m⟩ w1 ⟨r,hm,hk1,hml,hmm,ho⟩;refine go ?_;refine df 4 (rfl) (FL 218 2 (hT.mod r hbT).sl ?_);refine Fk (λc1=>?_) λc1=>?_
 ·obtain⟨t,hk⟩:∃t,T[k]?=some t:=F8;refine go ?_;refine df 4 (rfl) (go ?_);refine di 218 2 (hT.mod r hbT).sl rfl ((hT.mod r hbT).lt hk) (go ?_);refine dl rfl (((hT.mod r hbT).row hk).at rfl) ?_;refine Fk (λc2=>?_) λc2=>?_
  ·refine go ?_;refine df 4 (rfl) (go ?_);refine di 218 2 (hT.mod r hbT).sl rfl ((hT.mod r hbT).lt hk) (dq (Fy Fe rfl rfl ((hT.mod r hbT).row hk)) (lA 218 rfl λb1 w2 e1 x2 m1=>?_));have g1:=r.ge e1;have a1_hm:=hm.lt;have o1_ho:=ho.ltb e1;refine FB x2 hm ho r λhm ho r=>G1 t ho m1 (λY w3 H x3=>?_) (h1:=(by intro x O u hu;rw[Af.1 O]at hu;simp at hu;rcases hu with rfl|rfl;rfl;exact hE t (Ag hk)));have hm:=hm.mod x3 Fw;have r:=r.own x3 F4;have ho:=H;clear m1;refine go ?_;exact⟨(k+1,Y,m++[t]),He,⟨r,hm,by omega,by simp;omega,Le hmm (Ag hk),ho⟩,by simp only [];omega⟩
  refine go ?_;exact⟨(k+1,vo,m),He,⟨r,hm,by omega,by omega,hmm,ho⟩,by simp only [];omega⟩
 refine go ?_;refine df 4 (rfl) ?_;refine JV (b:=bs) (o:=4) (v:=?v19) rfl rfl ?h19 ?n19 Fe (hm) ?o19 (.inl rfl) (λw4 Z xs4 z=>?k19)
 case h19=>conv=>lhs;whnf
 case n19=>exact ho.sl.one
 case o19=>exact Aj rfl
 have r:=r.own Z F4;dsimp only [Gr,AN,AL,AU]at z;have J:=ho.mod Z (λk hk e=>ho.ne_blk hm rfl (hk.trans (congrArg some e)));refine go ?_;refine HV (Hx rfl ?_);exact⟨_,rfl,r,rfl,vo,m,z,J,by omega,hmm⟩
def G3 (G:Nat->Prop)(w0:World)(bm n:Nat)(w:World):Prop:=w0.heap.size<=w.heap.size/\FSq G w0 w bm/\∃vM M,Fo w bm [vM] 215/\Vc.Own Cell.cs 4 79 0 w vM M/\(∀k,vM.ownBlock=some k->FSq G w0 w k)/\M.length<=n/\∀c∈M,Gk c=true
section
variable {G:Nat->Prop}{w0 w w':World}{bm n:Nat}
theorem G3.mod {S:Nat->Prop}(h:G3 G w0 bm n w)(m:Vc.Mod S w w')(hS:∀k,Gb w [215,79] k->¬ S k):G3 G w0 bm n w':=by
 obtain⟨h0,r,vM,M,h1,h2,h3,h4⟩:=h;exact⟨Ae h0 m.size,GI m.size _ r,vM,M,h1.mod m (hS bm ⟨_,_,h1,by decide⟩),h2.mod m (λk hk=>hS k (K6 h2 Fj hk)),λk hk=>GI m.size _ (h3 k hk),h4⟩
theorem G3.ext (h:G3 G w0 bm n w)(x:Fp w w'):G3 G w0 bm n w':=h.mod x (λ_ _ h=>h)
instance : Up w w' (G3 G w0 bm n w) (G3 G w0 bm n w'):=⟨λx h=>G3.ext h x⟩
theorem G3.ty (h:G3 G w0 bm n w):Gb w [215] bm:=by
 obtain⟨_,_,vM,M,h1,_⟩:=h;exact⟨_,_,h1,by decide⟩
theorem G3.ne {b T:Nat}{cs:List Value}(h:G3 G w0 bm n w)(hb:Fo w b cs T)(hT:Ej T [215]=false):¬ Fu bm b:=λe=>Fo.noTy hb hT (by rw[show b=bm from e];exact h.ty)
theorem G3.neO {α:Type}{enc:α->List Value}{sz T B:Nat}{v:Value}{l:List α}(h:G3 G w0 bm n w)(ho:Vc.Own enc sz T B w v l)(hT:Ej T [215]=false):∀k,v.ownBlock=some k->¬ Fu bm k:=λk hk e=>FM ho hT hk (by rw[show k=bm from e];exact h.ty)
theorem G3.neT {ts:List Nat}{k:Nat}(h:G3 G w0 bm n w)(hk:Gb w ts k)(hT:ts.all (λt=>!Ej t [215])=true):¬ Fu bm k:=λe=>Gb.ne hk hT (by rw[show k=bm from e];exact h.ty)
theorem G3.more {q:Nat}(h:G3 G w0 bm n w)(hq:n<=q):G3 G w0 bm q w:=by
 obtain⟨h0,r,vM,M,h1,h2,h3,h4,z⟩:=h;exact⟨h0,r,vM,M,h1,h2,h3,by omega,z⟩
end
variable {M:List Cell}
theorem Ta {c d:Cell}{k:Nat}(hM:∀c∈M,Gk c=true)(hc:Gk c=true)(h:d∈M.take k++[c]++AU k (AL M.length M)):Gk d=true:=by
 rcases Ak.1 h with h|h
 ·rcases Ak.1 h with h|h
  ·exact hM d (Cr h)
  ·rw[Af.1 h];exact hc
 ·exact hM d (Cr (C2 h))
theorem X8w (G:Nat->Prop)(w0:World)(bm n:Nat)(c:Cell)(w:World)(h:G3 G w0 bm n w)(hn:n<=1000000000) :
  Gy 211 [Fg bm 0,c.v] w (Fu bm) λu w'=>(∃b,u=B b)/\G3 G w0 bm (n+1) w':=by
 refine cE Tryz.func211 λr=>?_;obtain⟨h0,hg,vM,M,hm,hO,yb,hMl,hh⟩:=h;have hv:=hO.arr (enc:=Cell.cs) Ff;have hbx:=hm.lt;have hne:M≠[]->(base vM).1≠bm:=λhl e=>hO.ne_blk hm rfl ((hO.base_block hl).trans (congrArg some e));refine go ?_;refine Gx rfl rfl rfl RX.all (λb1 w1 e1 x1 J=>?_);have g1:=r.ge e1;have r:=r.trans x1;refine go ?_;refine dq (Fy (k:=4) Fe rfl rfl J.row) (cP (S6 c _) RX.all λw2 x2=>Fz x2 J r λJ r=>?_);refine FZ (λc1=>?_) λc1=>?_
 ·refine go ?_;exact⟨_,rfl,r.mono (λ_ h _=>h.elim),⟨_,rfl⟩,Ae h0 r.size,GI r.size _ hg,vM,M,hm.ext r,hO.ext r,λk hk=>GI r.size _ (yb k hk),by omega,hh⟩
 refine g0 ?_;refine wS (g0 ?_);refine GK (G:=Nat) (λk=>[(0,Fg bm 0),(3,Fg b1 0),(4,.bool false),(5,I ↑k)]) (λk w'=>Fp w w'/\Fo w' b1 c.cs 79/\k<=M.length) ?_ ?_
 ·refine F9 (G:=Nat) (λk=>[(0,Fg bm 0),(3,Fg b1 0),(4,.bool false),(5,I ↑k)]) (λk w'=>Fp w w'/\Fo w' b1 c.cs 79/\k<=M.length) (λk=>M.length-k) 0 ⟨r,J,Ab _⟩ ?_;rintro _ k w3 ⟨r,J,hk1⟩;refine Gn 1021100100000010000 λw4 x4=>Fz x4 J r λJ r=>?_;refine go ?_;refine dL rfl (λ_ hR=>((hm.ext (r.trans hR)).at rfl)) (dv 79 4 hv.sl ?_);refine ds1 17 (λc2=>?_) λc2=>?_
  ·obtain⟨d,hk⟩:∃d,M[k]?=some d:=F8;refine go ?_;refine dL rfl (λ_ hR=>((hm.ext (r.trans hR)).at rfl)) (FK 79 4 hv.sl (hv.lt hk) ?_);refine Gd rfl (λw' hR=>Fy Fe rfl rfl ((hv.ext (r.trans hR)).row hk)) (Gd rfl (λw' hR=>Fy (k:=4) Fe rfl rfl (J.ext hR).row) (cP (R5 d c _) RX.ext λw5 x5=>Fz x5 J r λJ r=>?_));refine FZ (λc3=>?_) λc3=>?_
   ·refine go ?_;exact FJ (k+1) ⟨r,J,by omega⟩
   refine go ?_;exact⟨k,He,r,J,hk1⟩
  refine go ?_;refine GL rfl (go ?_);exact⟨k,He,r,J,hk1⟩
 rintro _ k w6 ⟨r,J,hk1⟩;refine Gn 1001010001000000101000100000010000 λZ x7=>Fz x7 J r λJ r=>?_;refine go ?_;refine dL rfl (λ_ hR=>((hm.ext (r.trans hR)).at rfl)) (dv 79 4 hv.sl ?_);refine ds1 37 (λc4=>?_) λc4=>?_
 ·obtain⟨d,hk⟩:∃d,M[k]?=some d:=F8;refine go ?_;refine dL rfl (λ_ hR=>((hm.ext (r.trans hR)).at rfl)) (FK 79 4 hv.sl (hv.lt hk) ?_);refine go ?_;refine dL rfl (λ_ hR=>(((hv.ext (r.trans hR)).row hk).at rfl)) (go ?_);refine dp (Kr rfl rfl) ?_;refine ds1 50 (λc5=>?_) λc5=>?_
  ·refine go ?_;refine dL rfl (λ_ hR=>((hm.ext (r.trans hR)).at rfl)) (FK 79 4 hv.sl (hv.lt hk) ?_);refine go ?_;refine dL rfl (λ_ hR=>(((hv.ext (r.trans hR)).row hk).at rfl)) ?_;refine Fk (λc6=>?_) λc6=>?_
   ·refine go ?_;exact⟨_,rfl,r.mono (λ_ h _=>h.elim),⟨_,rfl⟩,Ae h0 r.size,GI r.size _ hg,vM,M,hm.ext r,hO.ext r,λk hk=>GI r.size _ (yb k hk),by omega,hh⟩
   refine g0 ?_;refine GK (G:=Value) (λvn=>[(0,Fg bm 0),(4,.bool false),(5,I ↑k),(6,vn)]) (λvn w'=>Fp w w'/\Vc.Own Cell.cs 4 79 w.heap.size w' vn (M.take k++[c])) ?_ ?_
   ·have O:=r;have hD:w.heap.size<=Z.heap.size:=r.size;have Y:=(hm.ext r);have ha:=(hv.ext r);have H:=J;refine Kf (R:=Mod (Ia Z.heap.size)) (Far.refl _) Far.trans Fe [4,8] (.one 1 .p false (.one 2 .p false (.one 3 .p false (.one 4 .l false (.one 5 .p false (.one 6 .p false (.one 8 .l false (.fork (.alt 0 false (.fork (.alt 7 false (.one 9 .x false (.one 10 .x false (.one 11 .p false .nil))) (.alt 9 false (.one 7 .x false (.one 10 .x false (.one 11 .p false .nil))) .stop))) (.alt 9 false (.one 0 .x false (.one 7 .x false (.one 10 .x false (.one 11 .p false .nil)))) .stop)))))))))) Fe Fe (λw8 x3=>?_);have x8:=FC x3;clear x3;refine Fz x8 J r λJ r=>?_;have hs:Mod (Ia Z.heap.size) Z w8:=Far.of_ext x8;refine go ?_;refine dL rfl (λ_ hR=>((Y.far (hs.own hR (λ_ h _=>h))).at rfl)) (go ?_);refine dp (H8 (e:=79) (k:=4) Fe hv.sl rfl rfl rfl Fb Fb) (go ?_);refine Gd rfl (λw' hR=>Fy (k:=4) Fe rfl rfl (H.far (hs.own hR (λ_ h _=>h))).row) (go ?_);refine IQ ?_;refine Hc ?_ ?_
    ·refine IY (e:=79) (sz:=4) rfl Fe RX.far (λb2 w9 e2 x9 m2=>?_);have g2:=r.ge e2;have n2_1:=J.ltb e2;have gs2:Z.heap.size<=b2:=by have:=hs.size;omega
     refine FB x9 J r hs λJ r hs=>go ?_;refine IQ ?_;refine Hc ?_ ?_
     ·have ho:=m2.own (enc:=Cell.cs) (B:=Z.heap.size) (l:=[]) (sz:=4) (m:=0) gs2 rfl Ff rfl (Aj rfl);refine HZ (e:=79) (sz:=4) (by':=48) rfl Fe Fe Ff ho (((hv.ext r)).slice (Ab _) hk1) rfl rfl (by intro x _ u hu;simp at hu;rcases hu with rfl|rfl|rfl|rfl<;>rfl) (by simp;omega) Fj hs.size (.inr (Far.own ho (Aa _))) (λvp w10 z xd=>?_);have hs:=hs.own xd F4;have J:=J.mod xd (by intro h;have h1:=(ho.lt _ h).1;have h2:=H.lt;omega);have r:=r.own xd (λi hi=>(by have h1:=(ho.lt i hi).1;have:=O.size;omega));have ho:=z;refine go ?_;refine lA 79 rfl (λb3 w11 e3 yq m3=>?_) (hR:=RX.far);have g3:=r.ge e3;have n3_1:=J.ltb e3;have gs3:Z.heap.size<=b3:=by have:=hs.size;omega
      refine FP yq J ho r hs λJ ho r hs=>go ?_;refine G1 c ho m3 (λvq w12 z h8=>?_) (hR:=(.inr (Far.own ho (Aa _))));have hs:=hs.own h8 F4;have J:=J.mod h8 (by intro h;have h1:=(ho.lt _ h).1;have h2:=H.lt;omega);have r:=r.own h8 (λi hi=>(by have h1:=(ho.lt i hi).1;have:=O.size;omega));have ho:=z;clear m3;refine go ?_;clear hs O Y ha H;refine go ?_;exact⟨vq,He,r,(by simpa using ho:Vc.Own Cell.cs 4 79 _ _ _ (M.take k++[c])).mono hD⟩
     refine Hc ?_ ?_
     ·refine lA 79 rfl (λb4 w13 e4 yl m4=>?_) (hR:=RX.far);have g4:=r.ge e4;have n4_1:=J.ltb e4;have n4_2:=m2.ltb e4;have gs4:Z.heap.size<=b4:=by have:=hs.size;omega
      refine FP yl J m2 r hs λJ m2 r hs=>go ?_;have ho:=m2.own (enc:=Cell.cs) (B:=Z.heap.size) (l:=[]) (sz:=4) (m:=0) gs2 rfl Ff rfl (Aj rfl);refine HZ (e:=79) (sz:=4) (by':=48) rfl Fe Fe Ff ho (((hv.ext r)).slice (Ab _) hk1) rfl rfl (by intro x _ u hu;simp at hu;rcases hu with rfl|rfl|rfl|rfl<;>rfl) (by simp;omega) Fj hs.size (.inr (Far.own ho (Aa _))) (λvp w14 z hq=>?_);have hs:=hs.own hq F4;have J:=J.mod hq (by intro h;have h1:=(ho.lt _ h).1;have h2:=H.lt;omega);have m4:=m4.mod hq (by intro h;have h2:b2=b4:=Al.inj h;omega);have r:=r.own hq (λi hi=>(by have h1:=(ho.lt i hi).1;have:=O.size;omega));have ho:=z;refine go ?_;refine G1 c ho m4 (λvq w15 z xe=>?_) (hR:=(.inr (Far.own ho (Aa _))));have hs:=hs.own xe F4;have J:=J.mod xe (by intro h;have h1:=(ho.lt _ h).1;have h2:=H.lt;omega);have r:=r.own xe (λi hi=>(by have h1:=(ho.lt i hi).1;have:=O.size;omega));have ho:=z;clear m4;refine go ?_;clear hs O Y ha H;refine go ?_;exact⟨vq,He,r,(by simpa using ho:Vc.Own Cell.cs 4 79 _ _ _ (M.take k++[c])).mono hD⟩
     exact IZ
    refine Hc ?_ ?_
    ·refine lA 79 rfl (λb5 w16 e5 y1 m5=>?_) (hR:=RX.far);have g5:=r.ge e5;have n5_1:=J.ltb e5;have gs5:Z.heap.size<=b5:=by have:=hs.size;omega
     refine FB y1 J r hs λJ r hs=>go ?_;refine IY (e:=79) (sz:=4) rfl Fe RX.far (λb6 w17 e6 yk m6=>?_);have g6:=r.ge e6;have n6_1:=J.ltb e6;have n6_5:=m5.ltb e6;have yo:Z.heap.size<=b6:=by have:=hs.size;omega
     refine FP yk J m5 r hs λJ m5 r hs=>go ?_;have ho:=m6.own (enc:=Cell.cs) (B:=Z.heap.size) (l:=[]) (sz:=4) (m:=0) yo rfl Ff rfl (Aj rfl);refine HZ (e:=79) (sz:=4) (by':=48) rfl Fe Fe Ff ho (((hv.ext r)).slice (Ab _) hk1) rfl rfl (by intro x _ u hu;simp at hu;rcases hu with rfl|rfl|rfl|rfl<;>rfl) (by simp;omega) Fj hs.size (.inr (Far.own ho (Aa _))) (λvp w18 z hw=>?_);have hs:=hs.own hw F4;have J:=J.mod hw (by intro h;have h1:=(ho.lt _ h).1;have h2:=H.lt;omega);have m5:=m5.mod hw (by intro h;have h2:b6=b5:=Al.inj h;omega);have r:=r.own hw (λi hi=>(by have h1:=(ho.lt i hi).1;have:=O.size;omega));have ho:=z;refine go ?_;refine G1 c ho m5 (λvq w19 z xa=>?_) (hR:=(.inr (Far.own ho (Aa _))));have hs:=hs.own xa F4;have J:=J.mod xa (by intro h;have h1:=(ho.lt _ h).1;have h2:=H.lt;omega);have r:=r.own xa (λi hi=>(by have h1:=(ho.lt i hi).1;have:=O.size;omega));have ho:=z;clear m5;refine go ?_;clear hs O Y ha H;refine go ?_;exact⟨vq,He,r,(by simpa using ho:Vc.Own Cell.cs 4 79 _ _ _ (M.take k++[c])).mono hD⟩
    exact IZ
   rintro _ vn w20 ⟨r,ho⟩;refine go ?_;refine dl rfl ((hm.ext r).at rfl) (go ?_);refine dp (H8 (e:=79) (k:=4) Fe hv.sl rfl rfl rfl Fb Fb) ?_;refine HZ (e:=79) (sz:=4) (by':=48) rfl Fe Fe Ff ho (((hv.ext r)).slice hk1 (Aa _)) rfl rfl (by intro x _ u hu;simp at hu;rcases hu with rfl|rfl|rfl|rfl<;>rfl) (by simp;omega) Fj r.size (.inl rfl) (λvr w21 z yy=>?_);have r:=r.own yy F4;have ho:=z;refine go ?_;refine KK (hm.ext r) (λw22 x6 xs22 hm=>?_) (hv:=by exact Fv.one ho.sl);dsimp only [Gr,AN,AL,AU]at hm;have ho:=ho.mod x6 Fw;have r:=(r.mod x6).mono (λi hi _=>(hi:(Fu bm) i));refine go ?_;simp only [Ek]at c1;exact⟨_,rfl,r,⟨_,rfl⟩,Ae h0 r.size,GI r.size _ hg,_,_,hm,ho.mono (Ab _),λk hk=>.inr ⟨Ae h0 (ho.lt k hk).1,(ho.lt k hk).2⟩,by simp;omega,λd hd=>Ta hh c1 hd⟩
  refine go ?_;refine GL rfl (g0 ?_);refine GK (G:=Value) (λvn=>[(0,Fg bm 0),(4,.bool false),(5,I ↑k),(6,vn)]) (λvn w'=>Fp w w'/\Vc.Own Cell.cs 4 79 w.heap.size w' vn (M.take k++[c])) ?_ ?_
  ·have O:=r;have hD:w.heap.size<=Z.heap.size:=r.size;have Y:=(hm.ext r);have ha:=(hv.ext r);have H:=J;refine Kf (R:=Mod (Ia Z.heap.size)) (Far.refl _) Far.trans Fe [4,8] (.one 1 .p false (.one 2 .p false (.one 3 .p false (.one 4 .l false (.one 5 .p false (.one 6 .p false (.one 8 .l false (.fork (.alt 0 false (.fork (.alt 7 false (.one 9 .x false (.one 10 .x false (.one 11 .p false .nil))) (.alt 9 false (.one 7 .x false (.one 10 .x false (.one 11 .p false .nil))) .stop))) (.alt 9 false (.one 0 .x false (.one 7 .x false (.one 10 .x false (.one 11 .p false .nil)))) .stop)))))))))) Fe Fe (λyj hz=>?_);have xm:=FC hz;clear hz;refine Fz xm J r λJ r=>?_;have hs:Mod (Ia Z.heap.size) Z yj:=Far.of_ext xm;refine go ?_;refine dL rfl (λ_ hR=>((Y.far (hs.own hR (λ_ h _=>h))).at rfl)) (go ?_);refine dp (H8 (e:=79) (k:=4) Fe hv.sl rfl rfl rfl Fb Fb) (go ?_);refine Gd rfl (λw' hR=>Fy (k:=4) Fe rfl rfl (H.far (hs.own hR (λ_ h _=>h))).row) (go ?_);refine IQ ?_;refine Hc ?_ ?_
   ·refine IY (e:=79) (sz:=4) rfl Fe RX.far (λb7 w24 e7 yw m7=>?_);have g7:=r.ge e7;have n7_1:=J.ltb e7;have ya:Z.heap.size<=b7:=by have:=hs.size;omega
    refine FB yw J r hs λJ r hs=>go ?_;refine IQ ?_;refine Hc ?_ ?_
    ·have ho:=m7.own (enc:=Cell.cs) (B:=Z.heap.size) (l:=[]) (sz:=4) (m:=0) ya rfl Ff rfl (Aj rfl);refine HZ (e:=79) (sz:=4) (by':=48) rfl Fe Fe Ff ho (((hv.ext r)).slice (Ab _) hk1) rfl rfl (by intro x _ u hu;simp at hu;rcases hu with rfl|rfl|rfl|rfl<;>rfl) (by simp;omega) Fj hs.size (.inr (Far.own ho (Aa _))) (λvp w25 z h6=>?_);have hs:=hs.own h6 F4;have J:=J.mod h6 (by intro h;have h1:=(ho.lt _ h).1;have h2:=H.lt;omega);have r:=r.own h6 (λi hi=>(by have h1:=(ho.lt i hi).1;have:=O.size;omega));have ho:=z;refine go ?_;refine lA 79 rfl (λb8 w26 e8 yg m8=>?_) (hR:=RX.far);have g8:=r.ge e8;have n8_1:=J.ltb e8;have gs8:Z.heap.size<=b8:=by have:=hs.size;omega
     refine FP yg J ho r hs λJ ho r hs=>go ?_;refine G1 c ho m8 (λvq w27 z xb=>?_) (hR:=(.inr (Far.own ho (Aa _))));have hs:=hs.own xb F4;have J:=J.mod xb (by intro h;have h1:=(ho.lt _ h).1;have h2:=H.lt;omega);have r:=r.own xb (λi hi=>(by have h1:=(ho.lt i hi).1;have:=O.size;omega));have ho:=z;clear m8;refine go ?_;clear hs O Y ha H;refine go ?_;exact⟨vq,He,r,(by simpa using ho:Vc.Own Cell.cs 4 79 _ _ _ (M.take k++[c])).mono hD⟩
    refine Hc ?_ ?_
    ·refine lA 79 rfl (λb9 w28 e9 y2 m9=>?_) (hR:=RX.far);have g9:=r.ge e9;have n9_1:=J.ltb e9;have n9_7:=m7.ltb e9;have gs9:Z.heap.size<=b9:=by have:=hs.size;omega
     refine FP y2 J m7 r hs λJ m7 r hs=>go ?_;have ho:=m7.own (enc:=Cell.cs) (B:=Z.heap.size) (l:=[]) (sz:=4) (m:=0) ya rfl Ff rfl (Aj rfl);refine HZ (e:=79) (sz:=4) (by':=48) rfl Fe Fe Ff ho (((hv.ext r)).slice (Ab _) hk1) rfl rfl (by intro x _ u hu;simp at hu;rcases hu with rfl|rfl|rfl|rfl<;>rfl) (by simp;omega) Fj hs.size (.inr (Far.own ho (Aa _))) (λvp w29 z hp=>?_);have hs:=hs.own hp F4;have J:=J.mod hp (by intro h;have h1:=(ho.lt _ h).1;have h2:=H.lt;omega);have m9:=m9.mod hp (by intro h;have h2:b7=b9:=Al.inj h;omega);have r:=r.own hp (λi hi=>(by have h1:=(ho.lt i hi).1;have:=O.size;omega));have ho:=z;refine go ?_;refine G1 c ho m9 (λvq w30 z h9=>?_) (hR:=(.inr (Far.own ho (Aa _))));have hs:=hs.own h9 F4;have J:=J.mod h9 (by intro h;have h1:=(ho.lt _ h).1;have h2:=H.lt;omega);have r:=r.own h9 (λi hi=>(by have h1:=(ho.lt i hi).1;have:=O.size;omega));have ho:=z;clear m9;refine go ?_;clear hs O Y ha H;refine go ?_;exact⟨vq,He,r,(by simpa using ho:Vc.Own Cell.cs 4 79 _ _ _ (M.take k++[c])).mono hD⟩
    exact IZ
   refine Hc ?_ ?_
   ·refine lA 79 rfl (λxw w31 xp yu hf=>?_) (hR:=RX.far);have g10:=r.ge xp;have n10_1:=J.ltb xp;have gs10:Z.heap.size<=xw:=by have:=hs.size;omega
    refine FB yu J r hs λJ r hs=>go ?_;refine IY (e:=79) (sz:=4) rfl Fe RX.far (λxy w32 xc yn yx=>?_);have g11:=r.ge xc;have n11_1:=J.ltb xc;have n11_10:=hf.ltb xc;have xj:Z.heap.size<=xy:=by have:=hs.size;omega
    refine FP yn J hf r hs λJ hf r hs=>go ?_;have ho:=yx.own (enc:=Cell.cs) (B:=Z.heap.size) (l:=[]) (sz:=4) (m:=0) xj rfl Ff rfl (Aj rfl);refine HZ (e:=79) (sz:=4) (by':=48) rfl Fe Fe Ff ho (((hv.ext r)).slice (Ab _) hk1) rfl rfl (by intro x _ u hu;simp at hu;rcases hu with rfl|rfl|rfl|rfl<;>rfl) (by simp;omega) Fj hs.size (.inr (Far.own ho (Aa _))) (λvp w33 z ht=>?_);have hs:=hs.own ht F4;have J:=J.mod ht (by intro h;have h1:=(ho.lt _ h).1;have h2:=H.lt;omega);have hf:=hf.mod ht (by intro h;have h2:xy=xw:=Al.inj h;omega);have r:=r.own ht (λi hi=>(by have h1:=(ho.lt i hi).1;have:=O.size;omega));have ho:=z;refine go ?_;refine G1 c ho hf (λvq w34 z xf=>?_) (hR:=(.inr (Far.own ho (Aa _))));have hs:=hs.own xf F4;have J:=J.mod xf (by intro h;have h1:=(ho.lt _ h).1;have h2:=H.lt;omega);have r:=r.own xf (λi hi=>(by have h1:=(ho.lt i hi).1;have:=O.size;omega));have ho:=z;clear hf;refine go ?_;clear hs O Y ha H;refine go ?_;exact⟨vq,He,r,(by simpa using ho:Vc.Own Cell.cs 4 79 _ _ _ (M.take k++[c])).mono hD⟩
   exact IZ
  rintro _ vn w35 ⟨r,ho⟩;refine go ?_;refine dl rfl ((hm.ext r).at rfl) (go ?_);refine dp (H8 (e:=79) (k:=4) Fe hv.sl rfl rfl rfl Fb Fb) ?_;refine HZ (e:=79) (sz:=4) (by':=48) rfl Fe Fe Ff ho (((hv.ext r)).slice hk1 (Aa _)) rfl rfl (by intro x _ u hu;simp at hu;rcases hu with rfl|rfl|rfl|rfl<;>rfl) (by simp;omega) Fj r.size (.inl rfl) (λvr w36 z yf=>?_);have r:=r.own yf F4;have ho:=z;refine go ?_;refine KK (hm.ext r) (λw37 xh xs37 hm=>?_) (hv:=by exact Fv.one ho.sl);dsimp only [Gr,AN,AL,AU]at hm;have ho:=ho.mod xh Fw;have r:=(r.mod xh).mono (λi hi _=>(hi:(Fu bm) i));refine go ?_;simp only [Ek]at c1;exact⟨_,rfl,r,⟨_,rfl⟩,Ae h0 r.size,GI r.size _ hg,_,_,hm,ho.mono (Ab _),λk hk=>.inr ⟨Ae h0 (ho.lt k hk).1,(ho.lt k hk).2⟩,by simp;omega,λd hd=>Ta hh c1 hd⟩
 refine go ?_;refine GL rfl (g0 ?_);refine GK (G:=Value) (λvn=>[(0,Fg bm 0),(4,.bool false),(5,I ↑k),(6,vn)]) (λvn w'=>Fp w w'/\Vc.Own Cell.cs 4 79 w.heap.size w' vn (M.take k++[c])) ?_ ?_
 ·have O:=r;have hD:w.heap.size<=Z.heap.size:=r.size;have Y:=(hm.ext r);have ha:=(hv.ext r);have H:=J;refine Kf (R:=Mod (Ia Z.heap.size)) (Far.refl _) Far.trans Fe [4,8] (.one 1 .p false (.one 2 .p false (.one 3 .p false (.one 4 .l false (.one 5 .p false (.one 6 .p false (.one 8 .l false (.fork (.alt 0 false (.fork (.alt 7 false (.one 9 .x false (.one 10 .x false (.one 11 .p false .nil))) (.alt 9 false (.one 7 .x false (.one 10 .x false (.one 11 .p false .nil))) .stop))) (.alt 9 false (.one 0 .x false (.one 7 .x false (.one 10 .x false (.one 11 .p false .nil)))) .stop)))))))))) Fe Fe (λyd hy=>?_);have xn:=FC hy;clear hy;have r:=r.trans xn;have hs:Mod (Ia Z.heap.size) Z yd:=Far.of_ext xn;refine go ?_;refine dL rfl (λ_ hR=>((Y.far (hs.own hR (λ_ h _=>h))).at rfl)) (go ?_);refine dp (H8 (e:=79) (k:=4) Fe hv.sl rfl rfl rfl Fb Fb) (go ?_);refine Gd rfl (λw' hR=>Fy (k:=4) Fe rfl rfl (H.far (hs.own hR (λ_ h _=>h))).row) (go ?_);refine IQ ?_;refine Hc ?_ ?_
  ·refine IY (e:=79) (sz:=4) rfl Fe RX.far (λxk w39 yh y0 hj=>?_);have g12:=r.ge yh;have h5:Z.heap.size<=xk:=by have:=hs.size;omega
   refine Fz y0 r hs λr hs=>go ?_;refine IQ ?_;refine Hc ?_ ?_
   ·have ho:=hj.own (enc:=Cell.cs) (B:=Z.heap.size) (l:=[]) (sz:=4) (m:=0) h5 rfl Ff rfl (Aj rfl);refine HZ (e:=79) (sz:=4) (by':=48) rfl Fe Fe Ff ho (((hv.ext r)).slice (Ab _) hk1) rfl rfl (by intro x _ u hu;simp at hu;rcases hu with rfl|rfl|rfl|rfl<;>rfl) (by simp;omega) Fj hs.size (.inr (Far.own ho (Aa _))) (λvp w40 z xx=>?_);have hs:=hs.own xx F4;have r:=r.own xx (λi hi=>(by have h1:=(ho.lt i hi).1;have:=O.size;omega));have ho:=z;refine go ?_;refine lA 79 rfl (λyi w41 yp ym xz=>?_) (hR:=RX.far);have g13:=r.ge yp;have gs13:Z.heap.size<=yi:=by have:=hs.size;omega
    refine FB ym ho r hs λho r hs=>go ?_;refine G1 c ho xz (λvq w42 z xu=>?_) (hR:=(.inr (Far.own ho (Aa _))));have hs:=hs.own xu F4;have r:=r.own xu (λi hi=>(by have h1:=(ho.lt i hi).1;have:=O.size;omega));have ho:=z;clear xz;refine go ?_;clear hs O Y ha H;refine go ?_;exact⟨vq,He,r,(by simpa using ho:Vc.Own Cell.cs 4 79 _ _ _ (M.take k++[c])).mono hD⟩
   refine Hc ?_ ?_
   ·refine lA 79 rfl (λxq w43 xr ye hr=>?_) (hR:=RX.far);have g14:=r.ge xr;have n14_12:=hj.ltb xr;have gs14:Z.heap.size<=xq:=by have:=hs.size;omega
    refine FB ye hj r hs λhj r hs=>go ?_;have ho:=hj.own (enc:=Cell.cs) (B:=Z.heap.size) (l:=[]) (sz:=4) (m:=0) h5 rfl Ff rfl (Aj rfl);refine HZ (e:=79) (sz:=4) (by':=48) rfl Fe Fe Ff ho (((hv.ext r)).slice (Ab _) hk1) rfl rfl (by intro x _ u hu;simp at hu;rcases hu with rfl|rfl|rfl|rfl<;>rfl) (by simp;omega) Fj hs.size (.inr (Far.own ho (Aa _))) (λvp w44 z h7=>?_);have hs:=hs.own h7 F4;have hr:=hr.mod h7 (by intro h;have h2:xk=xq:=Al.inj h;omega);have r:=r.own h7 (λi hi=>(by have h1:=(ho.lt i hi).1;have:=O.size;omega));have ho:=z;refine go ?_;refine G1 c ho hr (λvq w45 z x0=>?_) (hR:=(.inr (Far.own ho (Aa _))));have hs:=hs.own x0 F4;have r:=r.own x0 (λi hi=>(by have h1:=(ho.lt i hi).1;have:=O.size;omega));have ho:=z;clear hr;refine go ?_;clear hs O Y ha H;refine go ?_;exact⟨vq,He,r,(by simpa using ho:Vc.Own Cell.cs 4 79 _ _ _ (M.take k++[c])).mono hD⟩
   exact IZ
  refine Hc ?_ ?_
  ·refine lA 79 rfl (λxt w46 yv yt hc=>?_) (hR:=RX.far);have g15:=r.ge yv;have gs15:Z.heap.size<=xt:=by have:=hs.size;omega
   refine Fz yt r hs λr hs=>go ?_;refine IY (e:=79) (sz:=4) rfl Fe RX.far (λxl w47 xv yz yr=>?_);have g16:=r.ge xv;have n16_15:=hc.ltb xv;have xo:Z.heap.size<=xl:=by have:=hs.size;omega
   refine FB yz hc r hs λhc r hs=>go ?_;have ho:=yr.own (enc:=Cell.cs) (B:=Z.heap.size) (l:=[]) (sz:=4) (m:=0) xo rfl Ff rfl (Aj rfl);refine HZ (e:=79) (sz:=4) (by':=48) rfl Fe Fe Ff ho (((hv.ext r)).slice (Ab _) hk1) rfl rfl (by intro x _ u hu;simp at hu;rcases hu with rfl|rfl|rfl|rfl<;>rfl) (by simp;omega) Fj hs.size (.inr (Far.own ho (Aa _))) (λvp w48 z xg=>?_);have hs:=hs.own xg F4;have hc:=hc.mod xg (by intro h;have h2:xl=xt:=Al.inj h;omega);have r:=r.own xg (λi hi=>(by have h1:=(ho.lt i hi).1;have:=O.size;omega));have ho:=z;refine go ?_;refine G1 c ho hc (λvq w49 z yc=>?_) (hR:=(.inr (Far.own ho (Aa _))));have r:=r.own yc (λi hi=>(by have h1:=(ho.lt i hi).1;have:=O.size;omega));have ho:=z;clear hc;refine go ?_;clear hs O Y ha H;refine go ?_;exact⟨vq,He,r,(by simpa using ho:Vc.Own Cell.cs 4 79 _ _ _ (M.take k++[c])).mono hD⟩
  exact IZ
 rintro _ vn w50 ⟨r,ho⟩;refine go ?_;refine dl rfl ((hm.ext r).at rfl) (go ?_);refine dp (H8 (e:=79) (k:=4) Fe hv.sl rfl rfl rfl Fb Fb) ?_;refine HZ (e:=79) (sz:=4) (by':=48) rfl Fe Fe Ff ho (((hv.ext r)).slice hk1 (Aa _)) rfl rfl (by intro x _ u hu;simp at hu;rcases hu with rfl|rfl|rfl|rfl<;>rfl) (by simp;omega) Fj r.size (.inl rfl) (λvr w51 z y3=>?_);have r:=r.own y3 F4;have ho:=z;refine go ?_;refine KK (hm.ext r) (λw52 xi xs52 hm=>?_) (hv:=by exact Fv.one ho.sl);dsimp only [Gr,AN,AL,AU]at hm;have ho:=ho.mod xi Fw;have r:=(r.mod xi).mono (λi hi _=>(hi:(Fu bm) i));refine go ?_;simp only [Ek]at c1;exact⟨_,rfl,r,⟨_,rfl⟩,Ae h0 r.size,GI r.size _ hg,_,_,hm,ho.mono (Ab _),λk hk=>.inr ⟨Ae h0 (ho.lt k hk).1,(ho.lt k hk).2⟩,by simp;omega,λd hd=>Ta hh c1 hd⟩
theorem Ybw (G:Nat->Prop)(w0:World)(bs bx bl bm nn:Nat)(n:Int)(vf vT:Value)(dead:Bool)(l:List Rw)(v:Value)(seq:Int)(w:World)(h:Fo w bs [Fg bx 0,Fg bl 0,I n,vf,vT,Fg bm 0,B dead] 69)(hX0:G3 G w0 bm nn w)(hv:Fs Rw.cs 3 w v l)(hl:l.length<=100000)(hnn:nn<=100000000) :
  Gy 136 [Fg bs 0,v,I seq] w (Fu bm) λu w'=>u=.tuple #[]/\G3 G w0 bm (nn+l.length) w':=by
 refine cM Tryz.func136 (Fu bm) λz=>?_;have hm:=h;have r:=hX0;refine Ge (X2z l v seq _ hv hl) λY w1 x1 H=>?_;have hsz1:=z.size;refine FB x1 hm r z λhm r z=>?_;have hcn:=OY l seq;refine F9 (G:=Nat) (λk=>[(0,Fg bs 0),(6,Y),(7,I ↑k)]) (λk w'=>Mod (Fu bm) w w'/\Fo w' bs [Fg bx 0,Fg bl 0,I n,vf,vT,Fg bm 0,B dead] 69/\Vc.Own Cell.cs 4 79 w.heap.size w' Y (Gj l seq)/\k<=(Gj l seq).length/\G3 G w0 bm (nn+k) w') (λk=>(Gj l seq).length-k) 0 ⟨z,hm,H,Ab _,r⟩ ?_;rintro _ k w2 ⟨z,hm,H,hk1,r⟩;refine go ?_;refine dv 79 4 (H.arr Ff).sl ?_;refine Fk (λc1=>?_) λc1=>?_
 ·obtain⟨c,hk⟩:∃c,(Gj l seq)[k]?=some c:=F8;refine Gn 1510001000 λw3 Z=>FP Z hm H r z λhm H r z=>?_;refine go ?_;refine df 5 (rfl) (go ?_);refine di 79 4 (H.arr Ff).sl rfl ((H.arr Ff).lt hk) (Gd rfl (λw' hR=>Fy Fe rfl rfl (((H.arr Ff).ext hR).row hk)) (cD (X8w G w0 bm (nn+k) c _ r Fb) (.inl rfl) λu4 w4 J O=>?_));have hsz4:=z.size;have hm:=hm.mod J (by exact r.ne hm Fj);have H:=H.mod J (by exact r.neO H Fj);have z:=z.own J F4;obtain⟨⟨b4,rfl⟩,r⟩:=O;refine go ?_;exact FJ (k+1) ⟨z,hm,H,by omega,r⟩
 refine go ?_;refine HV (Hx rfl ?_);exact⟨_,rfl,z,rfl,r.more Fb⟩
structure RV (bs bx bl bm:Nat)(n:Int)(vf vT vM:Value)(dead:Bool)(M:List Cell)(fs:List Fi)(T:List Tr)(w:World):Prop where
 m:Fo w bs [Fg bx 0,Fg bl 0,I n,vf,vT,Fg bm 0,B dead] 69
 b:Fo w bm [vM] 215
 a:Fs Cell.cs 4 w vM M
 al:M.length<=100000000
 v:Fs Fi.cs 5 w vf fs
 vl:fs.length<=100000000
 t:Fs Tr.cs 2 w vT T
 tl:T.length<=200000
 e:∀t∈T,Fs Cell.cs 4 w t.v t.l
 tb:∀t∈T,t.l.length<=4096
theorem RV.ext {bs bl bm:Nat}{n:Int}{vf vT vM:Value}{T:List Tr}{w':World}(h:RV bs bx bl bm n vf vT vM dead M fs T w)(x:Fp w w'):RV bs bx bl bm n vf vT vM dead M fs T w':=⟨h.m.ext x,h.b.ext x,h.a.ext x,h.al,h.v.ext x,h.vl,h.t.ext x,h.tl,λt r=>(h.e t r).ext x,h.tb⟩
instance {bs bx bl bm:Nat} {n:Int} {vf vT vM:Value} {dead:Bool} {M:List Cell} {fs:List Fi} {T:List Tr} {w w':World} : Up w w' (RV bs bx bl bm n vf vT vM dead M fs T w) (RV bs bx bl bm n vf vT vM dead M fs T w'):=⟨λx h=>RV.ext h x⟩
theorem Xzp (bs bx bl bm:Nat)(n:Int)(vf vT vM:Value)(dead:Bool)(M:List Cell)(fs:List Fi)(T:List Tr)(key:Fh)(w:World)(h:RV bs bx bl bm n vf vT vM dead M fs T w) :
  Gf 137 [Fg bs 0,S key] w λu _=>∃(c:Cell) (b:Bool),u=.tuple #[c.v,B b]:=by
 refine cE Tryz.func137 λr=>?_;have hm:=h.m;have hb:=h.b;have hg:=h.a;have hAl:=h.al;have hT:=h.t;have hTl:=h.tl;refine go ?_;refine aL [S [],S [],B false,.int .i64 0] λb1 w1 e1 x1 z=>?_;have g1:=r.ge e1;have r:=r.trans x1;refine go ?_;refine df 5 (rfl) (dl rfl ((hm.ext r).at rfl) (go ?_));refine dl rfl ((hb.ext r).at rfl) (Gp (WH M vM key 1099511627776 _ (hg.ext r) Fb) λw2 x2=>Fz x2 z r λz r=>?_);refine go ?_;refine aL [S [],S [],B false,.int .i64 0] λb2 w3 e2 x3 H=>?_;have g2:=r.ge e2;have n2_1:=z.ltb e2;refine Fz x3 z r λz r=>Gc H (λw4 x4 xs4 H=>?_);have z:=z.mo x4;have r:=r.o1 x4;refine FZ (λc1=>?_) λc1=>?_
 ·refine go ?_;refine dq (Fy (k:=4) Fe rfl rfl H.row) (Gc z (λw5 x5 xs5 z=>?_));have H:=H.mo x5;have r:=r.o1 x5;refine go ?_;refine It (u:=?v10) rfl rfl rfl rfl Fe rfl z.row ?h10 ?k10
  case h10=>conv=>lhs;whnf
  exact⟨_,rfl,r,(first M key 1099511627776).getD Cell.zero,true,rfl⟩
 refine go ?_;refine dq (Fy Fe rfl rfl ((hm.ext r).part 2 2)) (Ge (X2y n fs vf key _ (h.v.ext r) h.vl) λvo w6 x6 hj=>?_);have hc:=r.size;refine FB x6 z H r λz H r=>?_;obtain⟨o,hh,hol,hom⟩:=hj;have J:=hh.mono hc;refine F9 (G:=Nat×Cell) (λ(k,cq)=>[(0,Fg bs 0),(1,S key),(4,Fg b1 0),(6,Fg b2 0),(8,vo),(9,I ↑k)]) (λ(k,cq) w'=>Fp w w'/\Fo w' b1 Cell.zero.cs 79/\Vc.Own Fi.cs 5 62 w.heap.size w' vo o/\k<=o.length/\Fo w' b2 cq.cs 79) (λ(k,cq)=>o.length-k) (0,(first M key 1099511627776).getD Cell.zero) ⟨r,z,J,Ab _,H⟩ ?_;rintro _ ⟨k,cq⟩ w7 ⟨r,z,J,hk1,H⟩;refine go ?_;refine dv 62 5 (J.arr Ff).sl ?_;refine Fk (λc2=>?_) λc2=>?_
 ·obtain⟨f,hk⟩:∃f,o[k]?=some f:=F8;have Z:=H;have O:=z;refine go ?_;refine di 62 5 (J.arr Ff).sl rfl ((J.arr Ff).lt hk) (go ?_);refine dl rfl (((J.arr Ff).row hk).at rfl) (cG (Wd bs bx bl bm n vf vT dead T f.id _ (hm.ext r) (hT.ext r) (λt ht=>(h.e t ht).ext r) Fb) RX.all λvc w8 x8 hf=>?_);have hsz8:=r.size;refine H3 x8 z J H Z O r λz J H Z O r=>?_;obtain⟨lc,hC,hl⟩:=hf;have hcb:lc.length<=4096:=hl.elim (λe=>by rw[e];exact Ab _) (λ⟨t,ht,e⟩=>by rw[e];exact h.tb t ht);refine Gp (WH lc vc key 1099511627776 _ hC Fb) λw9 x9=>H3 x9 z J H Z O r λz J H Z O r=>?_;refine go ?_;refine Gc H (λw10 Y xs10 H=>?_);have z:=z.mo Y;have J:=J.mod Y Fw;have O:=O.mod Y Fw;have r:=r.o1 Y;refine FZ (λc3=>?_) λc3=>?_
  ·refine go ?_;refine dq (Fy (k:=4) Fe rfl rfl H.row) (Gc z (λw11 ha xs11 z=>?_));have J:=J.mod ha Fw;have H:=H.mo ha;have r:=r.o1 ha;refine go ?_;refine It (u:=?v27) rfl rfl rfl rfl Fe rfl z.row ?h27 ?k27
   case h27=>conv=>lhs;whnf
   exact⟨_,rfl,r,(first lc key 1099511627776).getD Cell.zero,true,rfl⟩
  refine go ?_;exact FJ (k+1,(first lc key 1099511627776).getD Cell.zero) ⟨r,z,J,by omega,H⟩
 refine go ?_;refine db (zs:=[S [],S [],B false,.int .i64 0]) (pl:=[(0,1),(1,1),(2,1),(3,1)]) (pv:=[]) (cs:=[S [],S [],B false,.int .i64 0]) ?_;refine Gc z (λw12 hp xs12 z=>?_);have r:=r.o1 hp;refine go ?_;refine It (u:=?v33) rfl rfl rfl rfl Fe rfl z.row ?h33 ?k33
 case h33=>conv=>lhs;whnf
 exact⟨_,rfl,r,Cell.zero,false,rfl⟩
theorem X25 (bs bx bl bm:Nat)(n:Int)(vf vT vM:Value)(dead:Bool)(M:List Cell)(fs:List Fi)(T:List Tr)(key:Fh)(w:World)(h:RV bs bx bl bm n vf vT vM dead M fs T w) :
  Gf 70 [Fg bs 0,S key] w λu _=>∃(s:Fh) (b:Bool),u=.tuple #[S s,B b]:=by
 refine cE Tryz.func70 λr=>Ge (Xzp bs bx bl bm n vf vT vM dead M fs T key _ (h.ext r)) λu1 w1 Z z=>?_;have hsz1:=r.size;have r:=r.trans Z;obtain⟨c,b9,rfl⟩:=z;refine go ?_;refine aL [S [],S [],B false,.int .i64 0] λb1 w2 e1 J H=>?_;have g1:=r.ge e1;have r:=r.trans J;refine Gc H (λw3 O xs3 H=>?_);have r:=r.o1 O;refine go ?_;refine Il 16 rfl (λY=>?_) (λY=>?_)
 ·refine go ?_;refine GD rfl (go ?_);exact⟨_,rfl,r,_,_,rfl⟩
 refine FZ (λc2=>?_) λc2=>?_
 ·refine go ?_;exact⟨_,rfl,r,_,_,rfl⟩
 refine go ?_;exact⟨_,rfl,r,_,_,rfl⟩
theorem Xzq (bs bx bl bm:Nat)(n:Int)(vf vT vM:Value)(dead:Bool)(M:List Cell)(fs:List Fi)(T:List Tr)(frm to:Fh)(most:Int)(w:World)(h:RV bs bx bl bm n vf vT vM dead M fs T w) :
  Gf 71 [Fg bs 0,S frm,S to,I most] w λu w'=>∃l,Vc.Own Rw.cs 3 48 w.heap.size w' u l/\l.length<=1000000000:=by
 refine cE Tryz.func71 λH=>?_;have hm:=h.m;have hb:=h.b;have h5:=h.a;have hAl:=h.al;have hT:=h.t;have hTl:=h.tl;refine go ?_;refine df 5 (rfl) (Ge (Xv M vM frm to _ (h5.ext H) Fb) λv0 w1 x1 h0=>?_);have hsz1:=H.size;have H:=H.trans x1;have hA:=h0.arr (enc:=Cell.cs) Ff;have hl0:(scan M frm to).length<=M.length:=AZ ..;refine F9 (G:=Nat×Value×List Cell) (λ(k,vl,l)=>[(0,Fg bs 0),(1,S frm),(2,S to),(3,I most),(8,.slice none 0 0),(9,vl),(10,I ↑k)]) (λ(k,vl,l) w'=>Fp w w'/\k<=T.length/\l.length<=4096*k+100000000/\Fs Cell.cs 4 w' vl l) (λ(k,vl,l)=>T.length-k) (0,v0,scan M frm to) ⟨H,Ab _,by omega,hA⟩ ?_;rintro _ ⟨k,vl,l⟩ w2 ⟨H,hk1,hll1,hA⟩;refine go ?_;refine df 4 (rfl) (dl rfl ((hm.ext H).at rfl) (dv 218 2 (hT.ext H).sl ?_));refine Fk (λc1=>?_) λc1=>?_
 ·obtain⟨t,hk⟩:∃t,T[k]?=some t:=F8;refine go ?_;refine df 4 (rfl) (dl rfl ((hm.ext H).at rfl) (FK 218 2 hT.sl (hT.lt hk) ?_));refine go ?_;refine dl rfl (((hT.ext H).row hk).at rfl) (go ?_);have hl:=Ag hk;have htb:=h.tb t hl;refine cG (Xv t.l t.v frm to _ ((h.e t hl).ext H) Fb) RX.all λvs w3 x3 h6=>?_;have hsz3:=H.size;refine Fz x3 hA H λhA H=>?_;have hC:=h6.arr (enc:=Cell.cs) Ff;have hcb:(scan t.l frm to).length<=t.l.length:=AZ ..;refine cG (Yq l (scan t.l frm to) vl vs _ hA hC Fb) RX.all λvm w4 x4 h7=>?_;have hsz4:=H.size;refine Fz x4 hA H λhA H=>?_;obtain⟨m2,hz,hml,hmm⟩:=h7;have h8:=hz.arr (enc:=Cell.cs) Ff;refine go ?_;exact FJ (k+1,vm,m2) ⟨H,by omega,by omega,h8⟩
 refine Ge (RS l vl _ hA Fb) λhj w5 x5 ht=>?_;have hp:=H.size;have H:=H.trans x5;obtain⟨l2,hy,hll,hlm,hln⟩:=ht;have J:=hy.mono hp;obtain⟨B9,hc,Z,hbl9,Y⟩:=Qf J H.size;have z:=J.arr (enc:=Cell.cs) Ff;refine F9 (G:=Nat×Value×List Rw) (λ(k,vo,r)=>[(3,I most),(8,.slice none 0 0),(9,hj),(11,vo),(12,I ↑k)]) (λ(k,vo,r) w'=>Fp w w'/\Vc.Own Cell.cs 4 79 w.heap.size w' hj l2/\Fs Cell.cs 4 w' hj l2/\Sz B9 w'/\k<=l2.length/\r.length<=k/\Vc.Own Rw.cs 3 48 B9 w' vo r) (λ(k,vo,r)=>l2.length-k) (0,.slice none 0 0,[]) ⟨H,J,z,Y,Ab _,Aa _,Vc.Own.nil⟩ ?_;rintro _ ⟨k,vo,r⟩ w6 ⟨H,J,z,Y,hk1,hrl,ho⟩;refine FL 79 4 z.sl ?_;refine ds1 51 (λc2=>?_) λc2=>?_
 ·have hk9:k<l2.length:=by simp at c2;omega
  obtain⟨c,hk⟩:∃c,l2[k]?=some c:=F8;refine ds1 54 (λc3=>?_) λc3=>?_
  ·refine go ?_;refine GD rfl (FK 79 4 z.sl (z.lt hk) ?_);refine go ?_;refine dl rfl ((z.row hk).at rfl) ?_;refine FZ (λc4=>?_) λc4=>?_
   ·refine HM (R:=Mod (λk=>B9<=k)) HT Ir Fe [5,10] [(0,.p,false),(1,.p,false),(2,.p,false),(3,.p,false),(4,.p,false),(5,.l,false),(6,.p,false),(7,.p,false),(8,.p,false),(9,.p,false),(10,.l,false),(11,.p,false),(12,.x,false),(13,.x,false),(14,.p,false)] rfl Fe Fe (λw7 hq=>?_);have x7:=FC hq;clear hq;refine FV x7 J z Y ho H λJ z Y ho H=>FK 79 4 z.sl (z.lt hk) ?_;refine go ?_;refine dL rfl (λ_ hR=>(((z.mod hR (λO h=>by have h1:=Z _ (J.base_block O);omega)).row hk).at rfl)) (FK 79 4 z.sl (z.lt hk) ?_);refine go ?_;refine dL rfl (λ_ hR=>(((z.mod hR (λO h=>by have h1:=Z _ (J.base_block O);omega)).row hk).at rfl)) (db (zs:=[S [],S [],B false]) (pl:=[(0,1),(1,1),(2,1)]) (pv:=[(0,_),(1,_)]) (cs:=[_,_,B false]) ?_);refine lA 48 rfl (λb1 w8 e1 x8 m1=>?_) (hR:=RX.mod);have g1:=H.ge e1;have o1_hL:=J.ltb e1;have a1_hLa:=Fs.base_lt z Fj;have a1_hS:=Y.le;have o1_ho:=ho.ltb e1;refine FV x8 J z Y ho H λJ z Y ho H=>G1 ⟨c.key,c.val,false⟩ ho m1 (λhh w9 ha x9=>?_) (hB:=Y.le) (hR:=(.inr λw9 h9=>h9.mono (λk hk _=>(ho.lt k hk).1)));have J:=J.mod x9 (by exact(λk hk e=>by have h1:=(ho.lt k e).1;have h2:=Z k hk;omega));have z:=z.mod x9 (by exact(λO e=>by have h1:=(ho.lt _ e).1;have h2:=Z _ (J.base_block O);omega));have Y:=Y.mod x9 Fw;have H:=H.own x9 (λi hi=>(Ae hc (ho.lt i hi).1));have ho:=ha;clear m1;refine go ?_;exact⟨(k+1,hh,r++[⟨c.key,c.val,false⟩]),GC,⟨H,J,z,Y,by omega,by simp;omega,ho⟩,by simp only [];omega⟩
   refine go ?_;exact⟨(k+1,vo,r),GC,⟨H,J,z,Y,by omega,by omega,ho⟩,by simp only [];omega⟩
  refine go ?_;refine dv 48 3 (ho.arr Ff).sl ?_;refine Fk (λc5=>?_) λc5=>?_
  ·refine FK 79 4 z.sl (z.lt hk) ?_;refine go ?_;refine dl rfl ((z.row hk).at rfl) ?_;refine FZ (λc6=>?_) λc6=>?_
   ·refine HM (R:=Mod (λk=>B9<=k)) HT Ir Fe [5,10] [(0,.p,false),(1,.p,false),(2,.p,false),(3,.p,false),(4,.p,false),(5,.l,false),(6,.p,false),(7,.p,false),(8,.p,false),(9,.p,false),(10,.l,false),(11,.p,false),(12,.x,false),(13,.x,false),(14,.p,false)] rfl Fe Fe (λw10 hg=>?_);have hr:=FC hg;clear hg;refine FV hr J z Y ho H λJ z Y ho H=>FK 79 4 z.sl (z.lt hk) ?_;refine go ?_;refine dL rfl (λ_ hR=>(((z.mod hR (λO h=>by have h1:=Z _ (J.base_block O);omega)).row hk).at rfl)) (FK 79 4 z.sl (z.lt hk) ?_);refine go ?_;refine dL rfl (λ_ hR=>(((z.mod hR (λO h=>by have h1:=Z _ (J.base_block O);omega)).row hk).at rfl)) (db (zs:=[S [],S [],B false]) (pl:=[(0,1),(1,1),(2,1)]) (pv:=[(0,_),(1,_)]) (cs:=[_,_,B false]) ?_);refine lA 48 rfl (λb2 w11 e2 hw m2=>?_) (hR:=RX.mod);have g2:=H.ge e2;have o2_hL:=J.ltb e2;have a2_hLa:=Fs.base_lt z Fj;have a2_hS:=Y.le;have o2_ho:=ho.ltb e2;refine FV hw J z Y ho H λJ z Y ho H=>G1 ⟨c.key,c.val,false⟩ ho m2 (λhh w12 ha hf=>?_) (hB:=Y.le) (hR:=(.inr λw9 h9=>h9.mono (λk hk _=>(ho.lt k hk).1)));have J:=J.mod hf (by exact(λk hk e=>by have h1:=(ho.lt k e).1;have h2:=Z k hk;omega));have z:=z.mod hf (by exact(λO e=>by have h1:=(ho.lt _ e).1;have h2:=Z _ (J.base_block O);omega));have Y:=Y.mod hf Fw;have H:=H.own hf (λi hi=>(Ae hc (ho.lt i hi).1));have ho:=ha;clear m2;refine go ?_;exact⟨(k+1,hh,r++[⟨c.key,c.val,false⟩]),GC,⟨H,J,z,Y,by omega,by simp;omega,ho⟩,by simp only [];omega⟩
   refine go ?_;exact⟨(k+1,vo,r),GC,⟨H,J,z,Y,by omega,by omega,ho⟩,by simp only [];omega⟩
  refine go ?_;exact⟨_,rfl,H,r,ho.mono hc,by omega⟩
 refine go ?_;refine GL rfl (go ?_);exact⟨_,rfl,H,r,ho.mono hc,by omega⟩
theorem Ybx {l:List Rw}(hl:l.length<=100000)(h:∀r∈l,r.key.length<=1000000/\r.val.length<=1000000):(GN l).length<=1000000000000:=by
 have h1:=Gq l.length;have h2:(l.flatMap Hs).length<=l.length*2000100:=by
  clear hl h1
  induction l with
  | nil=>exact Aa _
  | cons r t z=>
   have g:=h r Ai;have g1:(Hs r).length<=2000100:=by
    have e1:=Gq r.key.length;have e2:=Gq r.val.length;have e3:=Gq 0;have e4:=Gq 1;unfold Hs FA;split<;>simp only [Ad]<;>omega
   have z:=z (λr H=>h r (Ao _ H));rw[AF,Ad,AA];omega
 unfold GN;rw[Ad];omega
structure RK (G:Nat->Prop)(w0:World)(n:Int)(vf vT:Value)(fs:List Fi)(T:List Tr)(b:Nat)(w:World):Prop where
 v:Vc.Own Fi.cs 5 62 0 w vf fs
 gv:∀k,vf.ownBlock=some k->FSq G w0 w k
 i:Qy n fs
 t:Vc.Own Tr.cs 2 218 0 w vT T
 gt:∀k,vT.ownBlock=some k->FSq G w0 w k
 tl:T.length<=b
 e:∀t∈T,Vc.Own Cell.cs 4 79 0 w t.v t.l/\t.l.length<=4096/\(∀c∈t.l,Gk c=true)/\∀k,t.v.ownBlock=some k->FSq G w0 w k
section
variable {G:Nat->Prop}{w0 w w':World}{n:Int}{vf vT:Value}{fs:List Fi}{T:List Tr}{b bs bx bl bm a:Nat}{dead:Bool}
theorem RK.modS {S:Nat->Prop}(h:RK G w0 n vf vT fs T b w)(m:Vc.Mod S w w')(h1:∀k,vf.ownBlock=some k->¬ S k)(h2:∀k,vT.ownBlock=some k->¬ S k)(h3:∀t∈T,∀k,t.v.ownBlock=some k->¬ S k):RK G w0 n vf vT fs T b w':=
 ⟨h.v.mod m h1,λk hk=>GI m.size _ (h.gv k hk),h.i,h.t.mod m h2,λk hk=>GI m.size _ (h.gt k hk),h.tl,λt r=>⟨(h.e t r).1.mod m (h3 t r),(h.e t r).2.1,(h.e t r).2.2.1,λk hk=>GI m.size _ ((h.e t r).2.2.2 k hk)⟩⟩
theorem RK.mod {S:Nat->Prop}(h:RK G w0 n vf vT fs T b w)(m:Vc.Mod S w w')(hS:∀k,Gb w [62,218,79] k->¬ S k):RK G w0 n vf vT fs T b w':=
 h.modS m (λk hk=>hS k (K6 h.v Fj hk)) (λk hk=>hS k (K6 h.t Fj hk)) (λt r k hk=>hS k (K6 (h.e t r).1 Fj hk))
theorem RK.up9 {q:Nat}(h:RK G w0 n vf vT fs T b w)(hq:b<=q):RK G w0 n vf vT fs T q w:=⟨h.v,h.gv,h.i,h.t,h.gt,Ae h.tl hq,h.e⟩
theorem RK.ext (h:RK G w0 n vf vT fs T b w)(x:Fp w w'):RK G w0 n vf vT fs T b w':=h.mod x (λ_ _ h=>h)
instance : Up w w' (RK G w0 n vf vT fs T b w) (RK G w0 n vf vT fs T b w'):=⟨λx h=>RK.ext h x⟩
theorem LX.mod {S:Nat->Prop}(h:LX G w0 bl bx w)(m:Vc.Mod S w w')(hS:∀k,Gb w [138,226,5,135,82] k->¬ S k):LX G w0 bl bx w':=by
 obtain⟨idx,vD,vL,dead,LL,h⟩:=h;refine⟨idx,vD,vL,dead,LL,h.d.mod m (λk hk=>hS k ?_),h.m.mod m (hS bl ⟨_,_,h.m,by decide⟩),h.o.mod m (λk hk=>hS k (K6 h.o Fj hk)),GI m.size _ h.gb,λk hk=>GI m.size _ (h.gv k hk),h.bd⟩;obtain⟨cs,r,h1,h2⟩:=hk;exact⟨cs,r,h1,by have h3:=D9.1 h2;simp only [Ah,List.not_mem_nil,or_false]at h3;rcases h3 with rfl|rfl|rfl<;>decide⟩
structure RE (G:Nat->Prop)(w0:World)(bs bx bl bm:Nat)(n:Int)(vf vT:Value)(dead:Bool)(fs:List Fi)(T:List Tr)(a b:Nat)(w:World):Prop where
 m:Fo w bs [Fg bx 0,Fg bl 0,I n,vf,vT,Fg bm 0,B dead] 69
 g:FSq G w0 w bs
 l:LX G w0 bl bx w
 x:G3 G w0 bm a w
 k:RK G w0 n vf vT fs T b w
theorem RE.inB (h:RE G w0 bs bx bl bm n vf vT dead fs T a b w){i:Nat}(hi:Fu bs i):GT (FSq G w0 w) [138,226,135,82,215,69,218] w i:=by
 rw[show i=bs from hi];exact⟨h.g,_,_,h.m,by decide⟩
theorem RE.rv (h:RE G w0 bs bx bl bm n vf vT dead fs T a b w)(ha:a<=100000000)(hb:b<=200000):∃vM M,RV bs bx bl bm n vf vT vM dead M fs T w:=by
 obtain⟨_,_,vM,M,h1,h2,_,h4,_⟩:=h.x;exact⟨vM,M,h.m,h1,h2.arr Ff,by omega,h.k.v.arr Ff,by have:=h.k.i.1.2.2;omega,h.k.t.arr Ff,by have:=h.k.tl;omega,λt r=>(h.k.e t r).1.arr Ff,λt r=>(h.k.e t r).2.1⟩
end
theorem Xuf (G:Nat->Prop)(w0:World)(bs bx bl bm:Nat)(n:Int)(vf vT:Value)(dead:Bool)(fs:List Fi)(T:List Tr)(a b:Nat)(l:List Rw)(v:Value)(w:World)(h:RE G w0 bs bx bl bm n vf vT dead fs T a b w)(hv:Fs Rw.cs 3 w v l)(hvG:l≠[]->¬ G (base v).1/\(base v).1<w0.heap.size)(hl:l.length<=100000)(hks:∀r∈l,r.key.length<=1000000/\r.val.length<=1000000)(ha:a<=100000000) :
  Gy 69 [Fg bs 0,v] w (GT (FSq G w0 w) [138,226,135,82,215,69,218] w) λu w'=>∃(e:Int) (d2:Bool),u=I e/\RE G w0 bs bx bl bm n vf vT d2 fs T (a+l.length) b w':=by
 refine cM Tryz.func69 (GT (FSq G w0 w) [138,226,135,82,215,69,218] w) λz=>?_;have hm:=h.m;have Y:=h.l;have H:=h.x;have O:=h.k;have J:=hv;have hf:∀w9,l≠[]->¬ FSq G w0 w9 (base v).1:=λw9 hl e=>e.elim (hvG hl).1 (λe9=>by have:=(hvG hl).2;omega);refine go ?_;refine df 6 (rfl) ?_;refine FZ (λc1=>?_) λc1=>?_
 ·refine go ?_;exact⟨_,rfl,z,9,dead,rfl,hm,GI z.size _ h.g,Y,H.more Fb,O⟩
 refine Ge (Xza l v _ J hl hks) λu1 w1 x1 ht=>?_;have hsz1:=z.size;refine H3 x1 hm Y H O J z λhm Y H O J z=>?_;obtain⟨vb,rfl,hB⟩:=ht;refine Fk (λc2=>?_) λc2=>?_
 ·refine go ?_;exact⟨_,rfl,z,_,dead,rfl,hm,GI z.size _ h.g,Y,H.more Fb,O⟩
 refine go ?_;obtain⟨idx,vD,hp,dL,LL,hg⟩:=Y;refine cD (Xue G w0 bl bx idx vD hp dL LL _ vb _ hg (hB.mono (Ab _)) (by split;exact Ybx hl hks;exact Ab _)) (.inl rfl) λu2 w2 x2 hj=>?_;have hsz2:=z.size;have hm:=hm.mod x2 (by exact(λe=>Fo.noTy hm Fj e.2));have H:=H.mod x2 (by exact(λk hk e=>Gb.ne hk Fj e.2));have O:=O.mod x2 (by exact(λk hk e=>Gb.ne hk Fj e.2));have J:=J.mod x2 (λhl e=>hf _ hl e.1);have z:=z.own x2 (λi hi Z=>(GT.back z hi Z Fj));obtain⟨nn,ee,rfl,hn9,Y⟩:=hj;refine Fk (λc3=>?_) λc3=>?_
 ·refine go ?_;refine df 6 (rfl) ?_;refine JV (b:=bs) (o:=6) (v:=?v20) rfl rfl ?h20 ?n20 Fe (hm) ?o20 (.inl rfl) (λw3 x3 xs3 hc=>?k20)
  case h20=>conv=>lhs;whnf
  case n20=>rfl
  case o20=>exact Aj rfl
  have z:=z.own x3 (λi hi Z=>(h.inB hi));dsimp only [Gr,AN,AL,AU]at hc;have hh:=Y.mod x3 (λk hk=>Gb.blk hm Fj k hk);have hr:=H.mod x3 (λk hk=>Gb.blk hm Fj k hk);have Z9:=O.mod x3 (λk hk=>Gb.blk hm Fj k hk);refine go ?_;exact⟨_,rfl,z,ee,true,rfl,hc,GI z.size _ h.g,hh,hr.more Fb,Z9⟩
 refine Gw (Ybw G w0 bs bx bl bm a n vf vT dead l v ↑nn _ hm H J hl ha) λu4 w4 x4 hq=>?_;have hsz4:=z.size;have hm:=hm.mod x4 (by exact H.ne hm Fj);have O:=O.mod x4 (by exact(λk hk=>H.neT hk Fj));have Y:=Y.mod x4 (by exact(λk hk=>H.neT hk Fj));have z:=z.own x4 (λi hi Z=>(by rw[show i=bm from hi];exact GT.back z ⟨H.2.1,H.ty⟩ (by rw[<-show i=bm from hi];exact Z) Fj));obtain⟨rfl,H⟩:=hq;refine go ?_;exact⟨_,rfl,z,0,dead,rfl,hm,GI z.size _ h.g,Y,H,O⟩
theorem QB (z:Int)(w:World)(h:0<=z/\z<=4611686018427387904):Calls Tryz.prog 205 #[I z] w (GX w (λu w'=>Vc.Own Fq 1 5 w.heap.size w' u (F6 z.toNat))):=by
 obtain⟨n,rfl⟩:=Int.eq_ofNat_of_zero_le h.1;exact My n w Fb
theorem QD {f:Fi}{n:Int}(h:I4 f n=true)(hn:n<=1099511627776):0<=f.id/\f.id<=1099511627776/\0<=f.lev/\f.lev<=4/\0<=f.size/\f.size<=1048576/\f.fst.length<=4096/\f.lst.length<=4096:=by
 simp [I4]at h;omega
theorem X8x (n:Int)(fs:List Fi)(vf:Value)(w:World)(hv:Fs Fi.cs 5 w vf fs)(hl:fs.length<=100000000)(hs:∀f∈fs,f.fst.length<=140737488355328/\f.lst.length<=140737488355328) :
  Gf 219 [.agg ⟨[I n,vf]⟩] w λu w'=>∃(vb:Value) (e:Int) (p:Fh),u=.tuple #[vb,I e]/\Vc.Own Fq 1 5 w.heap.size w' vb p/\p.length<=20000000:=by
 refine cE Tryz.func219 λr=>go ?_;refine Gx rfl rfl rfl RX.all (λb1 w1 e1 x1 z=>?_);have g1:=r.ge e1;have r:=r.trans x1;refine go ?_;refine dq (Fy (k:=2) Fe rfl rfl z.row) (cG (PF n fs vf _ (hv.ext r) hl hs) RX.all λu2 w2 x2 hp=>?_);have hsz2:=r.size;refine Fz x2 z r λz r=>?_;obtain⟨b9,rfl,h6⟩:=hp;refine FZ (λc1=>?_) λc1=>?_
 ·refine go ?_;exact⟨_,rfl,r,_,_,[],rfl,Vc.Own.nil,by simp⟩
 have xa:b9=true:=by simpa using c1
 have hR:=h6.1 xa;obtain⟨hR1,hw⟩:=hR;have hn1:=Gq n.toNat;have hn2:=Gq fs.length;refine go ?_;refine HM (R:=Mod (λk=>k≠b1)) HT Ir Fe [1,4] [(0,.p,false),(1,.l,false),(3,.p,false),(4,.l,false),(5,.p,false),(2,.x,false),(6,.x,false),(7,.x,false),(8,.p,false)] rfl Fe Fe (λw3 hg=>?_);have x3:=FC hg;clear hg;refine Fz x3 z r λz r=>go ?_;refine dL rfl (λ_ hR=>((z.mod hR (λh=>h rfl)).at rfl)) (go ?_);refine dL rfl (λ_ hR=>((z.mod hR (λh=>h rfl)).at rfl)) (dv 62 5 (hv.ext r).sl (cG (QB n _ Fb) RX.mod λv1 w4 x4 h7=>?_));have hf:=r.size;refine Fz x4 z r λz r=>?_;have ho:=h7.mono hf;refine cG (My fs.length _ Fb) RX.mod λvn w5 x5 O=>?_;have hsz5:=r.size;refine FB x5 z ho r λz ho r=>Hf ho (O.arr Ff) (λv2 w6 H x6=>?_) (hR:=(.inr λw9 h9=>h9.mono (λk hk _ e=>ho.ne_blk z rfl (by rw[hk,e]))));have z:=z.mod x6 Fw;have r:=r.own x6 F4;have ho:=H;refine F9 (G:=Nat×Value×Fh) (λ(k,vp,p)=>[(1,Fg b1 0),(2,.slice none 0 0),(3,I 0),(4,vp),(5,I ↑k)]) (λ(k,vp,p) w'=>Fp w w'/\Fo w' b1 [I n,vf] 56/\k<=fs.length/\p.length<=20+10000*k/\Vc.Own Fq 1 5 w.heap.size w' vp p) (λ(k,vp,p)=>fs.length-k) (0,v2,F6 n.toNat++F6 fs.length) ⟨r,z,Ab _,by simp only [Ad];omega,ho⟩ ?_;rintro _ ⟨k,vp,p⟩ w7 ⟨r,z,hk1,hpl,ho⟩;refine FL 62 5 (hv.ext r).sl ?_;refine Fk (λc2=>?_) λc2=>?_
 ·obtain⟨f,hk⟩:∃f,fs[k]?=some f:=F8;obtain⟨f1,f2,f3,f4,f5,f6,f7,f8⟩:=QD (hw k f hk).1 Fb;have hi1:=Gq f.id.toNat;have hi2:=Gq f.lev.toNat;have hi3:=Gq f.size.toNat;have hr1:(FA f.fst).length<=10+f.fst.length:=by unfold FA;have:=Gq f.fst.length;simp;omega
  have hr2:(FA f.lst).length<=10+f.lst.length:=by unfold FA;have:=Gq f.lst.length;simp;omega
  refine FK 62 5 hv.sl (hv.lt hk) ?_;refine dq (Fy Fe rfl rfl ((hv.ext r).row hk)) (aL [.int .i64 0,.int .i64 0,.int .i64 0,S [],S []] λb2 w8 e2 x8 J=>?_);have g2:=r.ge e2;have n2_1:=z.ltb e2;have o2_ho:=ho.ltb e2;refine FB x8 z ho r λz ho r=>Gc J (λw9 x9 xs9 J=>?_);have z:=z.mo x9;have ho:=ho.mod x9 Fw;have r:=r.o1 x9;refine Ge (QB f.id _ Fb) λva w10 hr O=>?_;have hsz10:=r.size;refine FP hr z ho J r λz ho J r=>Hf ho (O.arr Ff) (λv3 w11 H ha=>?_) (hb:=(by omega));have z:=z.mod ha Fw;have J:=J.mod ha Fw;have r:=r.own ha F4;have ho:=H;refine Ge (QB f.lev _ Fb) λvc w12 hz O=>?_;have hsz12:=r.size;refine FP hz z ho J r λz ho J r=>Hf ho (O.arr Ff) (λv4 w13 H Z=>?_) (hb:=(by simp only [Ad];omega));have z:=z.mod Z Fw;have J:=J.mod Z Fw;have r:=r.own Z F4;have ho:=H;refine Ge (QB f.size _ Fb) λvd w14 hj O=>?_;have hsz14:=r.size;refine FP hj z ho J r λz ho J r=>Hf ho (O.arr Ff) (λv5 w15 H Y=>?_) (hb:=(by simp only [Ad];omega));have z:=z.mod Y Fw;have J:=J.mod Y Fw;have r:=r.own Y F4;have ho:=H;refine gw ?_;refine JM [.p,.p,.l,.x,.x,.x,.p] rfl (go ?_);refine KC (e:=5) rfl Fe Fe Fe rfl RX.all (λb3 cap3 w16 e3 xb h5=>?_);have g3:=r.ge e3;have n3_1:=z.ltb e3;have n3_2:=J.ltb e3;have o3_ho:=ho.ltb e3;refine FP xb z ho J r λz ho J r=>cG (Ns f.fst _ _ h5 Fb) RX.all λvq w17 xc O=>?_;have hsz17:=r.size;refine FP xc z ho J r λz ho J r=>Hf ho (O.arr Ff) (λv6 w18 H hc=>?_) (hb:=(by simp only [Ad];omega));have z:=z.mod hc Fw;have J:=J.mod hc Fw;have r:=r.own hc F4;have ho:=H;refine gw ?_;refine JM [.p,.p,.l,.x,.x,.x,.p] rfl (go ?_);refine KC (e:=5) rfl Fe Fe Fe rfl RX.all (λb4 cap4 w19 e4 h8 ht=>?_);have g4:=r.ge e4;have n4_1:=z.ltb e4;have o4_ho:=ho.ltb e4;refine FB h8 z ho r λz ho r=>cG (Ns f.lst _ _ ht Fb) RX.all λvq w20 hy O=>?_;have hsz20:=r.size;refine FB hy z ho r λz ho r=>Hf ho (O.arr Ff) (λv7 w21 H hh=>?_) (hb:=(by simp only [Ad];omega));have z:=z.mod hh Fw;have r:=r.own hh F4;have ho:=H;refine go ?_;exact⟨(k+1,v7,_),GC,⟨r,z,by omega,by simp only [Ad];omega,ho⟩,by simp only [];omega⟩
 refine go ?_;exact⟨_,rfl,r,_,_,p,rfl,ho,by omega⟩
end Go.Proofs.YtiooodckiddpmaaGreatDoor
namespace Go.Sp
open Go.Vc
variable {n:Nat}
theorem Xzr (h:n<10):Lib.decDigits n=[AC (48+n)]:=by rw[Lib.decDigits,dif_pos h]
theorem X6 (h:¬ n<10):Lib.decDigits n=Lib.decDigits (n / 10)++[AC (48+n % 10)]:=by rw[Lib.decDigits,dif_neg h]
theorem SD (h:n<=9223372036854775807):(Lib.decDigits n).length<=20:=by rw[Lib.decDigits_length];exact Lib.nDigits_le20 n Fb
theorem Yde {a:Nat}(h:a<=9223372036854775807):IntKind.i64.wrap ((a:Int) / 10)=((a / 10:Nat):Int):=by rw[KU (by unfold Fx;omega)];omega
def Td (n:Int):Fh:=116 :: Lib.decDigits n.toNat
theorem Yby {n:Int}(h0:0<=n)(h1:n<=9223372036854775807):(Td n).length<=900:=by
 have:=SD (n:=n.toNat) Fb;unfold Td;rw[AA];omega
end Go.Sp

namespace Go.Proofs.YtiooodckiddpmaaGreatDoor
open Go.Vc Go.Sp
attribute [local irreducible] W XW Dw G9
@[reducible] def Tf (r:Value×Fh):List Value:=[r.1]
structure RcEb (rs:List (Value×Fh))(w:World):Prop where
 row:∀r∈rs,Vc.Own Fq 1 5 0 w r.1 r.2/\r.2.length<=900000000000
section
variable {G:Nat->Prop}{rs:List (Value×Fh)}{Z:Nat->Prop}{w0 w w':World}{bl bx:Nat}
theorem RcEb.ext (h:RcEb rs w)(x:Fp w w'):RcEb rs w':=⟨λr z=>⟨(h.row r z).1.ext x,(h.row r z).2⟩⟩
instance : Up w w' (RcEb rs w) (RcEb rs w'):=⟨λx h=>RcEb.ext h x⟩
theorem RcEb.mod (h:RcEb rs w)(m:Vc.Mod Z w w')(hS:∀r∈rs,∀k,r.1.ownBlock=some k->¬ Z k):RcEb rs w':=⟨λr z=>⟨(h.row r z).1.mod m (hS r z),(h.row r z).2⟩⟩
variable {α:Type}{l:List α}
theorem RcEb.ne {enc:α->List Value}{sz T B:Nat}{v:Value}(h:RcEb rs w)(ho:Vc.Own enc sz T B w v l)(hT:Nat.beq 5 T=false):∀r∈rs,∀k,r.1.ownBlock=some k->¬ v.ownBlock=some k:=λr z k hk=>(h.row r z).1.ne ho hT hk
variable {p:Fh}
theorem RcEb.snoc {v:Value}(h:RcEb rs w)(ho:Vc.Own Fq 1 5 0 w v p)(hp:p.length<=900000000000):RcEb (rs++[(v,p)]) w:=⟨λr z=>(Ak.1 z).elim (h.row r) (λe=>by rw[Af.1 e];exact⟨ho,hp⟩)⟩
theorem RcEb.lt (h:RcEb rs w):∀r∈rs,∀k,r.1.ownBlock=some k->0<=k/\k<w.heap.size:=λr z k hk=>(h.row r z).1.lt k hk
theorem X26 {enc:α->List Value}{sz T B:Nat}{w0 w:World}{v:Value}(h:Vc.Own enc sz T B w v l)(hw:w0.heap.size<=w.heap.size):∃B9,w0.heap.size<=B9/\(∀k,v.ownBlock=some k->k<B9)/\(∀k,k<w.heap.size->k<B9)/\Sz B9 w:=⟨w.heap.size,hw,λk hk=>(h.lt k hk).2,λ_ h=>h,⟨Aa _⟩⟩
theorem PD {a:α}{p:α->Prop}(h:∀x∈l,p x)(ha:p a):∀x∈l++[a],p x:=λx r=>(Ak.1 r).elim (h x) (λe=>by rw[Af.1 e];exact ha)
theorem lsave {s:Fh}{v:Value}(h:LX G w0 bl bx w)(hv:Fs Fq 1 w v p)(hp:p.length<=900000000000)(hs:s.length<=900):Calls Tryz.prog 220 [Fg bx 0,S s,v].toArray w (Hi (GT (FSq G w0 w) [138,226] w) w (λu w'=>∃e:Int,u=I e/\LX G w0 bl bx w')):=by
 obtain⟨idx,vD,vL,dead,LL,h⟩:=h;exact Calls.mono (YH G w0 bx s p v w h.d hv Fb hs) λe w' ⟨u,e1,m,e9,hu,hd⟩=>⟨u,e1,m,e9,hu,idx,vD,vL,dead,LL,h.up m.size hd (h.m.mod m (λe=>Fo.noTy h.m Fj e.2)) (h.o.mod m (λk hk e=>FM h.o Fj hk e.2))⟩
theorem lremove {s:Fh}(h:LX G w0 bl bx w):Calls Tryz.prog 145 [Fg bx 0,S s].toArray w (Hi (GT (FSq G w0 w) [138,226] w) w (λu w'=>∃e:Int,u=I e/\LX G w0 bl bx w')):=by
 obtain⟨idx,vD,vL,dead,LL,h⟩:=h;exact Calls.mono (J0 G w0 bx s w h.d) λe w' ⟨u,e1,m,e9,hu,hd⟩=>⟨u,e1,m,e9,hu,idx,vD,vL,dead,LL,h.up m.size hd (h.m.mod m (λe=>Fo.noTy h.m Fj e.2)) (h.o.mod m (λk hk e=>FM h.o Fj hk e.2))⟩
structure GvE (G:Nat->Prop)(w0:World)(v:Value)(w:World):Prop where
 g:∀k,v.ownBlock=some k->FSq G w0 w k
theorem GvE.mod {v:Value}(h:GvE G w0 v w)(m:Vc.Mod Z w w')(_:True):GvE G w0 v w':=⟨λk hk=>GI m.size _ (h.g k hk)⟩
theorem GvE.ext {v:Value}(h:GvE G w0 v w)(x:Fp w w'):GvE G w0 v w':=⟨λk hk=>GI x.size _ (h.g k hk)⟩
instance {v : Value} : Up w w' (GvE G w0 v w) (GvE G w0 v w'):=⟨λx h=>GvE.ext h x⟩
structure TeE (G:Nat->Prop)(w0:World)(T:List Tr)(w:World):Prop where
 e:∀t∈T,Vc.Own Cell.cs 4 79 0 w t.v t.l/\t.l.length<=4096/\(∀c∈t.l,Gk c=true)/\∀k,t.v.ownBlock=some k->FSq G w0 w k
theorem TeE.mod {T:List Tr}(h:TeE G w0 T w)(m:Vc.Mod Z w w')(hS:∀t∈T,∀k,t.v.ownBlock=some k->¬ Z k):TeE G w0 T w':=⟨λt r=>⟨(h.e t r).1.mod m (hS t r),(h.e t r).2.1,(h.e t r).2.2.1,λk hk=>GI m.size _ ((h.e t r).2.2.2 k hk)⟩⟩
theorem TeE.ext {T:List Tr}(h:TeE G w0 T w)(x:Fp w w'):TeE G w0 T w':=h.mod x (λ_ _ _ _ h=>h)
instance {T : List Tr} : Up w w' (TeE G w0 T w) (TeE G w0 T w'):=⟨λx h=>TeE.ext h x⟩
theorem llast (h:LX G w0 bl bx w):∃n:Nat,n<=1099511627776/\Calls Tryz.prog 31 [Fg bl 0].toArray w (Pure w (I ↑n)):=by
 obtain⟨idx,vD,vL,dead,LL,h⟩:=h;exact⟨_,h.bd,Ic G w0 bl bx idx vD vL dead LL w h⟩
theorem lwrite {n:Nat}{v:Value}(h:LX G w0 bl bx w)(hv:Vc.Own Fq 1 5 0 w v p)(hn:n<=1099511627776)(hp:p.length<=100000000000):Calls Tryz.prog 221 [Fg bl 0,I ↑n,v].toArray w (Hi (GT (FSq G w0 w) [138,226,135,82] w) w (λu w'=>∃e:Int,u=I e/\LX G w0 bl bx w')):=by
 obtain⟨idx,vD,vL,dead,LL,h⟩:=h;exact Xzl G w0 bl bx idx vD vL dead LL n p v w h hv hn hp
end
theorem X27 (n:Nat)(w:World)(hn:n<=9223372036854775807)(ih:∀(m:Nat) (w:World),m<n->Calls Tryz.prog 68 [I ↑m].toArray w (Pure w (S (Lib.decDigits m)))) :
  FW 68 [I ↑n] w (S (Lib.decDigits n)):=by
 refine cE Tryz.func68 λr=>?_;have hdl:=SD (n:=n / 10) Fb;refine Fk (λc1=>?_) λc1=>?_
 ·refine gw ?_;refine JM [.p,.p,.p,.x,.l,.p] rfl (gn ?_);refine F3 (v:=I ↑(48+n)) rfl (GJ rfl rfl (by unfold Fx;omega)) (by show I _=I _;rfl) (dp (N2 (n:=48+n) rfl Fe Fe) (li (e:=5) (sz:=1) (zs:=[.int .u8 0]) (pv:=[(0,_)]) (cs:=[_]) RX.all (λb1 w1 e1 x1 m1=>?_)));have g1:=r.ge e1;have r:=r.trans x1;refine dq (Nd Fe Fe (m1.arr (enc:=Fq) (sz:=1) (l:=[AC (48+n)]) rfl Ff rfl (Aj rfl)) rfl) (go ?_);exact⟨by rw[Xzr (n:=n) Fb],r⟩
 refine go ?_;refine Kf (R:=Fp) Fp.refl (λ_ _ _=>Fp.trans) Fe [8] (.one 0 .p false (.one 1 .p false (.one 3 .p false (.one 4 .p false (.one 5 .p false (.one 6 .p false (.fork (.alt 2 true (.one 7 .x true (.one 8 .l false (.one 9 .p false (.one 10 .p false .nil)))) (.alt 7 true (.one 8 .l false (.one 2 .x false (.one 9 .p false (.one 10 .p false .nil)))) .stop))))))))) Fe Fe (λw2 z=>?_);have J:=FC z;clear z;have r:=r.trans J;refine go ?_;refine F3 (v:=I ↑(n / 10)) rfl (Qa rfl rfl Fb Fj) (by show I _=I _;rw[Yde hn]) (go ?_);refine F3 (v:=I ↑(n % 10)) rfl (N8 rfl rfl Fb Fj) (by show I _=I _;rfl) (gn ?_);refine F3 (v:=I ↑(48+n % 10)) rfl (GJ rfl rfl (by unfold Fx;omega)) (by show I _=I _;rfl) (go ?_);refine dp (N2 (n:=48+n % 10) rfl Fe Fe) (go ?_);refine IQ ?_;refine Hc ?_ ?_
 ·refine cP (ih (n / 10) _ Fb) RX.all λw3 O=>?_;have r:=r.trans O;refine go ?_;refine li (e:=5) (sz:=1) (zs:=[.int .u8 0]) (pv:=[(0,_)]) (cs:=[_]) RX.all (λb2 w4 e2 H m2=>?_);have g2:=r.ge e2;have r:=r.trans H;refine go ?_;refine Gd rfl (λw' hR=>Nd Fe Fe ((m2.ext hR).arr (enc:=Fq) (sz:=1) (l:=[AC (48+n % 10)]) rfl Ff rfl (Aj rfl)) rfl) (go ?_);refine dp (Iu rfl rfl (by simp;omega)) (go ?_);exact⟨by rw[X6 (n:=n) Fb],r⟩
 refine Hc ?_ ?_
 ·refine li (e:=5) (sz:=1) (zs:=[.int .u8 0]) (pv:=[(0,_)]) (cs:=[_]) RX.all (λb3 w5 e3 x5 m3=>?_);have g3:=r.ge e3;have r:=r.trans x5;refine go ?_;refine Gd rfl (λw' hR=>Nd Fe Fe ((m3.ext hR).arr (enc:=Fq) (sz:=1) (l:=[AC (48+n % 10)]) rfl Ff rfl (Aj rfl)) rfl) (go ?_);refine cP (ih (n / 10) _ Fb) RX.ext λw6 Y=>?_;have r:=r.trans Y;refine go ?_;refine dp (Iu rfl rfl (by simp;omega)) (go ?_);exact⟨by rw[X6 (n:=n) Fb],r⟩
 exact IZ
theorem Xug (n:Nat):∀(w:World),n<=9223372036854775807->Calls Tryz.prog 68 [I ↑n].toArray w (Pure w (S (Lib.decDigits n))):=by
 induction n using Nat.strongRecOn with
 | _ n ih=>exact λw hn=>X27 n w hn (λm r hm=>ih m hm r Fb)
theorem XH (n:Int)(w:World)(h0:0<=n)(hn:n<=9223372036854775807) :
  FW 29 [I n] w (S (Td n)):=by
 refine cE Tryz.func29 λz=>?_;have r:=SD (n:=n.toNat) Fb;obtain⟨m,rfl⟩:∃m:Nat,n=m:=⟨n.toNat,by omega⟩;refine Gp (Xug m _ Fb) λw1 H=>?_;have z:=z.trans H;refine dp (Iu rfl rfl (by simp at r ⊢;omega)) (go ?_);exact⟨rfl,z⟩
theorem Xd (G:Nat->Prop)(w0:World)(bs bx bl bm:Nat)(n:Int)(vf vT:Value)(dead:Bool)(fs:List Fi)(T:List Tr)(a b:Nat)(l:List Cell)(v:Value)(lev:Int)(gone:List Int)(vg:Value)(w:World)(h:RE G w0 bs bx bl bm n vf vT dead fs T a b w)(hv:Vc.Own Cell.cs 4 79 0 w v l)(hl:l.length<=90000000)(hlc:∀c∈l,Gk c=true)(hg:Fs Vc.encI 1 w vg gone)(hgl:gone.length<=40000000)(hb9:b<=20000000) :
  Gy 141 [Fg bs 0,v,I lev,vg] w (GT (FSq G w0 w) [138,226,135,82,215,69,218] w) λu w'=>∃(e:Int) (d2:Bool) (n2:Int) (vf2 vT2:Value) (fs2:List Fi) (T2:List Tr),u=I e/\RE G w0 bs bx bl bm n2 vf2 vT2 d2 fs2 T2 a (b+1024) w'/\(gone=[]->KM fs->KM fs2):=by
 refine cE Tryz.func141 λJ=>?_;have hbs:=h.m.lt;have y6:=h.k.i.1;refine Ge (Xzd l v _ ((hv.ext J).arr Ff) Fb (λc hc=>by have:=M9 (hlc c hc);omega)) λvq w1 x1 zc=>?_;have xm:=J.size;have J:=J.trans x1;obtain⟨qs,y1,ze,yp,hql⟩:=zc;have O:=y1.mono xm;have z:RcE w.heap.size qs _:=⟨λq hq=>(ze.row q hq).mono xm⟩;obtain⟨B9,yx,xz,yt,hS⟩:=X26 O J.size;have ym:∀q∈qs,∀k,q.1.ownBlock=some k->k<B9:=λq hq k hk=>yt _ (z.lt q hq k hk).2;have H:=O.arr (enc:=JQ) Ff;refine F9 (G:=Nat×Value×List (Value×Fh)×Value×List Fi) (λ(k,vr,rs,vd,add)=>[(0,Fg bs 0),(2,I lev),(3,vg),(9,vq),(10,vd),(11,vr),(12,I ↑k)]) (λ(k,vr,rs,vd,add) w'=>Fp w w'/\Fs JQ 1 w' vq qs/\Vc.Own JQ 1 95 w.heap.size w' vq qs/\RcE w.heap.size qs w'/\Sz B9 w'/\k<=qs.length/\rs.length=k/\add.length=k/\(∀q∈qs.take k,q.2.length<=4096)/\(∀f∈add,0<=f.id/\f.id<=2199023255552/\f.fst.length<=4096/\f.lst.length<=4096)/\Vc.Own Tf 1 82 w.heap.size w' vr rs/\RcEb rs w'/\Vc.Own Fi.cs 5 62 B9 w' vd add) (λ(k,vr,rs,vd,add)=>qs.length-k) (0,.slice none 0 0,[],.slice none 0 0,[]) ⟨J,H,O,z,hS,Ab _,rfl,rfl,λq hq=>(by cases hq),λf hf=>(by cases hf),Vc.Own.nil,⟨λr hr=>(by cases hr)⟩,Vc.Own.nil⟩ ?_;rintro _ ⟨k,vr,rs,vd,add⟩ w2 ⟨J,H,O,z,hS,hk1,hrl,hal,hqb,had,ho,hW,hd⟩;refine FL 95 1 H.sl ?_;refine Fk (λc1=>?_) λc1=>?_
 ·obtain⟨q,hkq⟩:∃q,qs[k]?=some q:=F8;have hj:=Ag hkq;obtain⟨zd,hq2,yr⟩:=yp q hj;have hq0:=CM.2 zd;obtain⟨c0,hk0⟩:∃c,q.2[0]?=some c:=F8;obtain⟨c1,hk1⟩:∃c,q.2[q.2.length-1]?=some c:=F8;have hb0:=M9 (hlc c0 (yr c0 (Ag hk0)));have hb1:=M9 (hlc c1 (yr c1 (Ag hk1)));have ha:=(z.row q hj).arr (enc:=Cell.cs) Ff;have hh:=z;refine FK 95 1 H.sl (H.lt hkq) ?_;refine dl rfl ((H.row hkq).at0 rfl) (cG (X20 q.2 q.1 _ ha Fb) RX.all λu3 w3 x3 yy=>?_);have yu:=J.size;refine Jb x3 H O z hS ho hW hd ha λH O z hS ho hW hd ha=>Fz x3 hh J λhh J=>?_;obtain⟨vb,e9,xf,rfl,za,y8,y9⟩:=yy;have hB:=za.mono yu;refine Fk (λc2=>?_) λc2=>?_
  ·refine go ?_;exact⟨_,rfl,J.mono (λ_ h _=>h.elim),5,dead,n,vf,vT,fs,T,rfl,⟨h.m.ext J,GI J.size _ h.g,h.l.ext J,h.x.ext J,(h.k.ext J).up9 Fb⟩,λ_ h9=>h9⟩
  have hq4:=(y9 (AE ‹_›)).1;refine go ?_;refine Io (e:=82) (sz:=1) (zs:=[.slice none 0 0]) (pv:=[(0,?a19_0)]) (cs:=[?a19_0]) rfl Fe ⟨rfl,rfl⟩ Fe rfl ?h19 ?f19 RX.all (λb1 w4 e1 x4 m1=>?k19)
  case h19=>refine⟨rfl,?_,trivial⟩<;>(conv=>lhs;whnf)
  case f19=>simp [Hm,Gr,An,hB.sl.cells]
  have g1:=J.ge e1;have a1_hQa:=Fs.base_lt H Fj;have o1_hQ:=O.ltb e1;have q1_hRc:=z.lt;have a1_hS:=hS.le;have o1_ho:=ho.ltb e1;have q1_hW:=hW.lt;have o1_hd:=hd.ltb e1;have a1_hqa:=Fs.base_lt ha Fj;have q1_hR2:=hh.lt;have o1_hB:=hB.ltb e1;refine Jb x4 H O z hS ho hW hd ha λH O z hS ho hW hd ha=>FB x4 hh hB J λhh hB J=>G1 (vb,xf) ho m1 (λy2 w5 yh x5=>?_) (h1:=(by intro x xx u hu;rw[Af.1 xx]at hu;rw[Af.1 hu];exact hB.sl.one));have H:=H.mod x5 (by exact(λhl e=>O.ne ho rfl (O.base_block hl) e));have O:=O.mod x5 (by exact(λk hk=>O.ne ho rfl hk));have z:=z.mod x5 (by exact z.ne ho rfl);have hS:=hS.mod x5 (by trivial);have hW:=hW.mod x5 (by exact hW.ne ho rfl);have hd:=hd.mod x5 (by exact(λk hk=>hd.ne ho rfl hk));have ha:=ha.mod x5 (by exact(λhl e=>(hh.row q hj).ne ho rfl ((hh.row q hj).base_block hl) e));have hh:=hh.mod x5 (by exact hh.ne ho rfl);have hB:=hB.mod x5 (by exact(λk hk=>hB.ne ho rfl hk));have J:=J.own x5 (λi hi=>(ho.lt i hi).1);have ho:=yh;clear m1;refine go ?_;refine HM (R:=Mod (λk=>B9<=k)) HT Ir Fe [5,14,17,21,25,30] [(0,.p,false),(1,.p,false),(2,.p,false),(3,.p,false),(4,.p,false),(5,.l,false),(6,.p,false),(7,.p,false),(8,.p,false),(9,.p,false),(10,.p,false),(11,.p,false),(12,.p,false),(13,.p,false),(14,.l,false),(15,.p,false),(16,.p,false),(17,.l,false),(18,.p,false),(19,.p,false),(20,.p,false),(21,.l,false),(22,.p,false),(23,.p,false),(24,.p,false),(25,.l,false),(26,.p,false),(27,.p,false),(28,.p,false),(29,.p,false),(30,.l,false),(31,.p,false),(32,.x,false),(33,.x,false),(34,.p,false)] rfl Fe Fe (λw6 x0=>?_);have x6:=FC x0;clear x0;refine Jb x6 H O z hS ho hW hd ha λH O z hS ho hW hd ha=>FB x6 hh hB J λhh hB J=>go ?_;refine dL rfl (λ_ hR=>(((h.m.ext J).mod hR (λh9=>by omega)).at rfl)) (gn ?_);refine F3 (v:=I (n+↑k)) rfl (GJ rfl rfl (by unfold Fx;omega)) rfl (go ?_);refine dv 5 1 (hB.arr Ff).sl (FK 95 1 H.sl (H.lt hkq) ?_);refine dL rfl (λ_ hR=>(((H.mod hR (λhl h9=>by have h1:=xz _ (O.base_block hl);omega)).row hkq).at0 rfl)) (di 79 4 ha.sl rfl (ha.lt hk0) (go ?_));refine dL rfl (λ_ hR=>(((ha.mod hR (λhl h9=>by have h1:=ym q hj _ ((z.row q hj).base_block hl);omega)).row hk0).at rfl)) (FK 95 1 H.sl (H.lt hkq) ?_);refine dL rfl (λ_ hR=>(((H.mod hR (λhl h9=>by have h1:=xz _ (O.base_block hl);omega)).row hkq).at0 rfl)) (FK 95 1 H.sl (H.lt hkq) ?_);refine dL rfl (λ_ hR=>(((H.mod hR (λhl h9=>by have h1:=xz _ (O.base_block hl);omega)).row hkq).at0 rfl)) (dv 79 4 ha.sl (F3 (v:=I ↑(q.2.length-1)) rfl (Gz rfl rfl (by unfold Fx;omega)) (by show I _=I _;congr 1;omega) (di 79 4 ha.sl rfl (ha.lt hk1) (go ?_))));refine dL rfl (λ_ hR=>(((ha.mod hR (λhl h9=>by have h1:=ym q hj _ ((z.row q hj).base_block hl);omega)).row hk1).at rfl)) (db (zs:=[.int .i64 0,.int .i64 0,.int .i64 0,S [],S []]) (pl:=[(0,1),(1,1),(2,1),(3,1),(4,1)]) (pv:=[(0,_),(1,_),(2,_),(3,_),(4,_)]) (cs:=[_,_,_,_,_]) ?_);refine lA 62 rfl (λb2 w7 e2 x7 m2=>?_) (hR:=RX.mod);have g2:=J.ge e2;have a2_hQa:=Fs.base_lt H Fj;have o2_hQ:=O.ltb e2;have q2_hRc:=z.lt;have a2_hS:=hS.le;have o2_ho:=ho.ltb e2;have q2_hW:=hW.lt;have o2_hd:=hd.ltb e2;have a2_hqa:=Fs.base_lt ha Fj;have q2_hR2:=hh.lt;have o2_hB:=hB.ltb e2;refine Jb x7 H O z hS ho hW hd ha λH O z hS ho hW hd ha=>FB x7 hh hB J λhh hB J=>G1 ⟨n+↑k,lev,↑xf.length,c0.key,c1.key⟩ hd m2 (λzb w8 yi x8=>?_) (hB:=hS.le) (hR:=(.inr λw9 h9=>h9.mono (λk hk _=>(hd.lt k hk).1)));have H:=H.mod x8 (by exact(λhl e=>O.ne hd rfl (O.base_block hl) e));have O:=O.mod x8 (by exact(λk hk=>O.ne hd rfl hk));have z:=z.mod x8 (by exact z.ne hd rfl);have hS:=hS.mod x8 (by trivial);have ho:=ho.mod x8 (by exact(λk hk=>ho.ne hd rfl hk));have hW:=hW.mod x8 (by exact hW.ne hd rfl);have ha:=ha.mod x8 (by exact(λhl e=>(hh.row q hj).ne hd rfl ((hh.row q hj).base_block hl) e));have hh:=hh.mod x8 (by exact hh.ne hd rfl);have hB:=hB.mod x8 (by exact(λk hk=>hB.ne hd rfl hk));have J:=J.own x8 (λi hi=>(Ae yx (hd.lt i hi).1));have hd:=yi;clear m2;refine go ?_;exact FJ (k+1,y2,rs++[(vb,xf)],zb,add++[⟨n+↑k,lev,↑xf.length,c0.key,c1.key⟩]) ⟨J,H,O,z,hS,by omega,by simp;omega,by simp;omega,by rw[GQ hkq];exact PD hqb Fb,PD had ⟨by simp only [];omega,by simp only [];omega,by simp only [];omega,by simp only [];omega⟩,ho,hW.snoc (hB.mono (Ab _)) y8,hd⟩
 rw[Ar Fb]at hqb;refine go ?_;refine dq (Fy Fe rfl rfl ((h.m.ext J).part 2 2)) ?_;refine Ge (Xzm n fs vf gone vg add vd _ ((h.k.v.ext J).arr Ff) Fb (λf hf=>by obtain⟨i9,hi⟩:=AQ hf;have:=QD (h.k.i.2 i9 f hi).1 y6.2.1;omega) (hg.ext J) hgl (hd.arr Ff) Fb (λf hf=>by have:=had f hf;exact⟨by unfold Fx;omega,by omega,by omega⟩)) λu9 w9 x9 y4=>?_;have xe:=J.size;refine Lk x9 H O z ho hW hd J λH O z ho hW hd J=>?_;obtain⟨nx,vx,xs,e7,rfl,y3,y5⟩:=y4;have hV:=y3.mono xe;refine go ?_;refine aL [.int .i64 0,.slice none 0 0] λb3 w10 e3 y7 m3=>?_;have g3:=J.ge e3;have xi:=Fs.base_lt H Fj;have xp:=O.ltb e3;have xg:=z.lt;have xt:=ho.ltb e3;have xw:=hW.lt;have xr:=hd.ltb e3;have xo:=hV.ltb e3;refine Jb y7 H O z ho hW hd hV J λH O z ho hW hd hV J=>Gc m3 (λw11 xb xs11 m3=>?_) (h1:=by(intro u hu;rcases Ah.1 hu with e|hu;subst e;rfl;rw[Af.1 hu];exact hV.sl.one));have H:=H.mod xb (λhl e=>by have h2:(base vq).1=b3:=e;have h1:=xi hl;omega);have O:=O.mod xb (by intro k hk h;have h1:=xp k hk;have h2:k=b3:=h;omega);have z:=z.mod xb (λq hq k hk e=>by have h2:k=b3:=e;have h1:=((z.row q hq).lt k hk);have h3:=(xg q hq k hk).2;omega);have ho:=ho.mod xb (by intro k hk h;have h1:=xt k hk;have h2:k=b3:=h;omega);have hW:=hW.mod xb (λq hq k hk e=>by have h2:k=b3:=e;have h3:=(xw q hq k hk).2;omega);have hd:=hd.mod xb (by intro k hk h;have h1:=xr k hk;have h2:k=b3:=h;omega);have hV:=hV.mod xb (by intro k hk h;have h1:=xo k hk;have h2:k=b3:=h;omega);have J:=J.o1 xb;refine Fk (λc3=>?_) λc3=>?_
 ·refine go ?_;exact⟨_,rfl,J.mono (λ_ h _=>h.elim),5,dead,n,vf,vT,fs,T,rfl,⟨h.m.ext J,GI J.size _ h.g,h.l.ext J,h.x.ext J,(h.k.ext J).up9 Fb⟩,λ_ h9=>h9⟩
 obtain⟨xq,hVa,zg,hVm⟩:=y5 (AE ‹_›);have zh:=xq.1;refine go ?_;refine dq (Fy (k:=2) Fe rfl rfl m3.row) ?_;refine cG (X8x nx xs vx _ (hV.arr Ff) Fb (λf hf=>by obtain⟨i9,hi⟩:=AQ hf;have:=QD (xq.2 i9 f hi).1 zh.2.1;omega)) RX.all λu12 w12 yd yc=>?_;have hsz12:=J.size;refine Jb yd H O z ho hW hd hV m3 λH O z ho hW hd hV m3=>?_;have J:=J.ext yd;obtain⟨vi,e8,pi,rfl,zf,hil⟩:=yc;have hI:=zf.mono (Ab _);refine go ?_;refine dv 5 1 (hI.arr Ff).sl ?_;refine Fk (λc4=>?_) λc4=>?_
 ·refine go ?_;exact⟨_,rfl,J.mono (λ_ h _=>h.elim),5,dead,n,vf,vT,fs,T,rfl,⟨h.m.ext J,GI J.size _ h.g,h.l.ext J,h.x.ext J,(h.k.ext J).up9 Fb⟩,λ_ h9=>h9⟩
 have hm:=h.m.ext J;have hL:=h.l.ext J;have hX:=h.x.ext J;have hK:=h.k.ext J;refine F9 (G:=Nat) (λk=>[(0,Fg bs 0),(9,vq),(10,vd),(11,vr),(15,Fg b3 0),(17,vi),(19,I ↑k)]) (λk w'=>Mod (GT (FSq G w0 w) [138,226,135,82,215,69,218] w) w w'/\Fs JQ 1 w' vq qs/\Vc.Own JQ 1 95 w.heap.size w' vq qs/\RcE w.heap.size qs w'/\Vc.Own Tf 1 82 w.heap.size w' vr rs/\RcEb rs w'/\Vc.Own Fi.cs 5 62 B9 w' vd add/\Vc.Own Fi.cs 5 62 w.heap.size w' vx xs/\Fo w' b3 [I nx,vx] 56/\Vc.Own Fq 1 5 0 w' vi pi/\Fo w' bs [Fg bx 0,Fg bl 0,I n,vf,vT,Fg bm 0,B dead] 69/\LX G w0 bl bx w'/\G3 G w0 bm a w'/\RK G w0 n vf vT fs T b w'/\k<=rs.length) (λk=>rs.length-k) 0 ⟨J.mono (λ_ h _=>h.elim),H,O,z,ho,hW,hd,hV,m3,hI,hm,hL,hX,hK,Ab _⟩ ?_;rintro _ k w13 ⟨J,H,O,z,ho,hW,hd,hV,m3,hI,hm,hL,hX,hK,hk2⟩;refine go ?_;refine dv 82 1 (ho.arr Ff).sl ?_;refine Fk (λc5=>?_) λc5=>?_
 ·obtain⟨r,hkr⟩:∃r,rs[k]?=some r:=F8;obtain⟨f,hkf⟩:∃f,add[k]?=some f:=F8;have hfa:=had f (Ag hkf);have yn:=Ag hkr;have hp:=hd.arr (enc:=Fi.cs) Ff;have xc:=ho.arr (enc:=Tf) Ff;refine go ?_;refine HM (R:=Mod (λk=>k≠bs/\vd.ownBlock≠some k/\vr.ownBlock≠some k)) HT Ir Fe [3,8,13] [(0,.p,false),(1,.p,false),(2,.p,false),(3,.l,false),(4,.p,false),(5,.p,false),(6,.p,false),(7,.p,false),(8,.l,false),(10,.p,false),(11,.p,false),(12,.p,false),(13,.l,false),(9,.x,false),(14,.x,false),(15,.p,false)] rfl Fe Fe (λw14 xk=>?_);have yk:=FC xk;clear xk;refine Jb yk H O z ho hW hd hV m3 λH O z ho hW hd hV m3=>Jb yk hI hm hL hX hK hp xc J λhI hm hL hX hK hp xc J=>go ?_;refine dL rfl (λ_ hR=>((hm.mod hR (λh=>h.1 rfl)).at rfl)) (FK 62 5 hp.sl (hp.lt hkf) ?_);refine go ?_;refine dL rfl (λ_ hR=>(((hp.mod hR (λhl h=>h.2.1 (hd.base_block hl))).row hkf).at rfl)) (FK 82 1 xc.sl (xc.lt hkr) ?_);refine dL rfl (λ_ hR=>(((xc.mod hR (λhl h=>h.2.2 (ho.base_block hl))).row hkr).at0 rfl)) (cP (XH f.id _ Fb Fb) RX.mod λw15 yl=>Jb yl H O z ho hW hd hV m3 λH O z ho hW hd hV m3=>Jb yl hI hm hL hX hK hp xc J λhI hm hL hX hK hp xc J=>J8 rfl Fe (lsave hL ((hW.row r yn).1.arr Ff) (hW.row r yn).2 (Yby Fb Fb)) rfl (.inr λw9 h9=>h9.mono (λk hk _=>⟨λe=>Gb.blk hm Fj k hk.2 e,λe=>FM hd Fj e hk.2,λe=>FM ho Fj e hk.2⟩)) (λu16 w16 hy ya=>?_));have hsz16:=J.size;have H:=H.mod hy (by exact(λhl e=>FM O Fj (O.base_block hl) e.2));have O:=O.mod hy (by exact(λk hk e=>FM O Fj hk e.2));have z:=z.mod hy (by exact(λq hq k hk e=>FM (z.row q hq) Fj hk e.2));have ho:=ho.mod hy (by exact(λk hk e=>FM ho Fj hk e.2));have hW:=hW.mod hy (by exact(λq hq k hk e=>FM (hW.row q hq).1 Fj hk e.2));have hd:=hd.mod hy (by exact(λk hk e=>FM hd Fj hk e.2));have hV:=hV.mod hy (by exact(λk hk e=>FM hV Fj hk e.2));have m3:=m3.mod hy (by exact(λe=>Fo.noTy m3 Fj e.2));have hI:=hI.mod hy (by exact(λk hk e=>FM hI Fj hk e.2));have hm:=hm.mod hy (by exact(λe=>Fo.noTy hm Fj e.2));have hX:=hX.mod hy (by exact(λk hk e=>Gb.ne hk Fj e.2));have hK:=hK.mod hy (by exact(λk hk e=>Gb.ne hk Fj e.2));have J:=J.own hy (λi hi xa=>(GT.back J hi xa Fj));obtain⟨e6,rfl,hL⟩:=ya;refine Fk (λc6=>?_) λc6=>?_
  ·refine Gw (Rg bs bx bl bm n vf vT dead e6 _ hm) λu17 w17 xh x2=>?_;have hsz17:=J.size;have hX:=hX.mod xh (λk hk=>Gb.blk hm Fj k hk);have hK:=hK.mod xh (λk hk=>Gb.blk hm Fj k hk);have hL:=hL.mod xh (λk hk=>Gb.blk hm Fj k hk);have J:=J.own xh (λi hi xa=>(h.inB hi));obtain⟨rfl,hm⟩:=x2;refine go ?_;exact⟨_,rfl,J,e6,true,n,vf,vT,fs,T,rfl,⟨hm,GI J.size _ h.g,hL,hX,hK.up9 Fb⟩,λ_ h9=>h9⟩
  refine go ?_;exact FJ (k+1) ⟨J,H,O,z,ho,hW,hd,hV,m3,hI,hm,hL,hX,hK,by omega⟩
 refine go ?_;refine HM (R:=Mod (λk=>k≠bs)) HT Ir Fe [3,7] [(0,.p,false),(1,.p,false),(2,.p,false),(3,.l,false),(4,.p,false),(5,.p,false),(6,.p,false),(7,.l,false),(9,.p,false),(8,.x,false),(10,.x,false),(11,.p,false)] rfl Fe Fe (λw18 xn=>?_);have yw:=FC xn;clear xn;refine Jb yw H O z ho hd hV m3 hI λH O z ho hd hV m3 hI=>FV yw hm hL hX hK J λhm hL hX hK J=>go ?_;refine dL rfl (λ_ hR=>((hm.mod hR (λh=>h rfl)).at rfl)) (go ?_);refine dL rfl (λ_ hR=>((hm.mod hR (λh=>h rfl)).at rfl)) (go ?_);obtain⟨nn,yz,y0⟩:=llast hL;refine cP (y0) RX.mod λw19 yf=>Jb yf H O z ho hd hV m3 hI λH O z ho hd hV m3 hI=>FV yf hm hL hX hK J λhm hL hX hK J=>J8 rfl Fe (lwrite hL hI yz Fb) rfl (.inr λw9 h9=>h9.mono (λk hk _ e=>Gb.blk hm Fj k hk.2 e)) (λu20 w20 h7 yj=>?_);have hsz20:=J.size;have H:=H.mod h7 (by exact(λhl e=>FM O Fj (O.base_block hl) e.2));have O:=O.mod h7 (by exact(λk hk e=>FM O Fj hk e.2));have z:=z.mod h7 (by exact(λq hq k hk e=>FM (z.row q hq) Fj hk e.2));have hd:=hd.mod h7 (by exact(λk hk e=>FM hd Fj hk e.2));have hV:=hV.mod h7 (by exact(λk hk e=>FM hV Fj hk e.2));have m3:=m3.mod h7 (by exact(λe=>Fo.noTy m3 Fj e.2));have hm:=hm.mod h7 (by exact(λe=>Fo.noTy hm Fj e.2));have hX:=hX.mod h7 (by exact(λk hk e=>Gb.ne hk Fj e.2));have hK:=hK.mod h7 (by exact(λk hk e=>Gb.ne hk Fj e.2));have J:=J.own h7 (λi hi xa=>(GT.back J hi xa Fj));obtain⟨e6,rfl,hL⟩:=yj;refine Fk (λc7=>?_) λc7=>?_
 ·refine Gw (Rg bs bx bl bm n vf vT dead e6 _ hm) λu21 w21 xj yo=>?_;have hsz21:=J.size;have hX:=hX.mod xj (λk hk=>Gb.blk hm Fj k hk);have hK:=hK.mod xj (λk hk=>Gb.blk hm Fj k hk);have hL:=hL.mod xj (λk hk=>Gb.blk hm Fj k hk);have J:=J.own xj (λi hi xa=>(h.inB hi));obtain⟨rfl,hm⟩:=yo;refine go ?_;exact⟨_,rfl,J,e6,true,n,vf,vT,fs,T,rfl,⟨hm,GI J.size _ h.g,hL,hX,hK.up9 Fb⟩,λ_ h9=>h9⟩
 have xy:=hm;refine go ?_;refine dq (Fy (k:=2) Fe rfl rfl m3.row) (go ?_);refine Gc hm (λw22 h8 xs22 hm=>?_) (h1:=by(intro u hu;rcases Ah.1 hu with e|hu;subst e;rfl;rw[Af.1 hu];exact hV.sl.one));have H:=H.mod h8 (λhl e=>by have h2:(base vq).1=bs:=e;have h1:=O.lt _ (O.base_block hl);omega);have O:=O.mod h8 (by intro k hk h;have h1:=(O.lt k hk).1;have h2:k=bs:=h;omega);have z:=z.mod h8 (λq hq k hk e=>by have h2:k=bs:=e;have h1:=((z.row q hq).lt k hk);omega);have hd:=hd.mod h8 (by intro k hk h;have h1:=(hd.lt k hk).1;have h2:k=bs:=h;omega);have hV:=hV.mod h8 (by intro k hk h;have h1:=(hV.lt k hk).1;have h2:k=bs:=h;omega);have hX:=hX.mod h8 (λk hk=>by exact Gb.blk xy Fj k hk);have hK:=hK.mod h8 (λk hk=>by exact Gb.blk xy Fj k hk);have hL:=hL.mod h8 (λk hk=>by exact Gb.blk xy Fj k hk);have J:=J.own h8 (λi hi _=>(h.inB hi));refine F9 (G:=Nat×Value×List Tr) (λ(k,vT2,T2)=>[(0,Fg bs 0),(9,vq),(10,vd),(20,I ↑k)]) (λ(k,vT2,T2) w'=>Mod (GT (FSq G w0 w) [138,226,135,82,215,69,218] w) w w'/\Fs JQ 1 w' vq qs/\Vc.Own JQ 1 95 w.heap.size w' vq qs/\RcE w.heap.size qs w'/\Vc.Own Fi.cs 5 62 B9 w' vd add/\Vc.Own Fi.cs 5 62 w.heap.size w' vx xs/\G3 G w0 bm a w'/\LX G w0 bl bx w'/\k<=qs.length/\T2.length<=b+k/\Fo w' bs [Fg bx 0,Fg bl 0,I nx,vx,vT2,Fg bm 0,B dead] 69/\Vc.Own Tr.cs 2 218 0 w' vT2 T2/\GvE G w0 vT2 w'/\TeE G w0 T2 w') (λ(k,vT2,T2)=>qs.length-k) (0,vT,T) ⟨J,H,O,z,hd,hV,hX,hL,Ab _,hK.tl,hm,hK.t,⟨hK.gt⟩,⟨hK.e⟩⟩ ?_;rintro _ ⟨k,vT2,T2⟩ w23 ⟨J,H,O,z,hd,hV,hX,hL,hk3,htl3,hw,Y,hgt,hz⟩;refine FL 95 1 H.sl ?_;refine Fk (λc8=>?_) λc8=>?_
 ·obtain⟨q,hkq⟩:∃q,qs[k]?=some q:=F8;obtain⟨f,hkf⟩:∃f,add[k]?=some f:=F8;have hj:=Ag hkq;have hp:=hd.arr (enc:=Fi.cs) Ff;refine go ?_;refine HM (R:=Mod (λk=>vT2.ownBlock=some k)) HT Ir Fe [4,9,13] [(0,.p,false),(1,.p,false),(2,.p,false),(3,.p,false),(4,.l,false),(5,.p,false),(6,.p,false),(7,.p,false),(8,.p,false),(9,.l,false),(10,.p,false),(11,.p,false),(12,.p,false),(13,.l,false),(14,.p,false),(15,.x,false),(16,.x,false),(17,.p,false),(18,.p,false),(19,.x,true)] rfl Fe Fe (λw24 xl=>?_);have yv:=FC xl;clear xl;refine Jb yv H O z hd hV hX hL hw λH O z hd hV hX hL hw=>FV yv Y hgt hz hp J λY hgt hz hp J=>go ?_;refine df 4 (rfl) (dL rfl (λ_ hR=>((hw.mod hR (λh=>Y.ne_blk hw rfl h)).at rfl)) (FK 62 5 hp.sl (hp.lt hkf) ?_));refine go ?_;refine dL rfl (λ_ hR=>(((hp.mod hR (λhl e=>hd.ne Y rfl (hd.base_block hl) e)).row hkf).at rfl)) (FK 95 1 H.sl (H.lt hkq) ?_);refine dL rfl (λ_ hR=>(((H.mod hR (λhl e=>O.ne Y rfl (O.base_block hl) e)).row hkq).at0 rfl)) ?_;refine dp (LI (zs:=[.int .i64 0,.slice none 0 0]) (pl:=[(0,1),(1,1)]) (pv:=[(0,?a88_0),(1,?a88_1)]) (cs:=[?a88_0,?a88_1]) Fe Fe ?h88 ?f88) ?k88
  case h88=>refine⟨rfl,?_,rfl,?_,trivial⟩<;>(conv=>lhs;whnf)
  case f88=>simp [Hm,Gr,An,(z.row q hj).sl.cells,show(Value.int IntKind.i64 f.id).cells=⟨[I f.id]⟩ from rfl]
  refine lA 218 rfl (λb4 w25 e4 yb m4=>?_) (hR:=RX.mod);have g4:=J.ge e4;have a4_hQa:=Fs.base_lt H Fj;have o4_hQ:=O.ltb e4;have q4_hRc:=z.lt;have o4_hd:=hd.ltb e4;have o4_hV:=hV.ltb e4;have a4_hm3:=hw.lt;have o4_hT3:=Y.ltb e4;have a4_hda:=Fs.base_lt hp Fj;refine Jb yb H O z hd hV hX hL hw λH O z hd hV hX hL hw=>FV yb Y hgt hz hp J λY hgt hz hp J=>?_;refine LY (lx:=[⟨f.id,q.1,q.2⟩]) (e:=218) (sz:=2) (by':=32) rfl Fe Fe Ff Y (m4.arr (enc:=Tr.cs) (sz:=2) (l:=[⟨f.id,q.1,q.2⟩]) rfl Ff rfl (Aj rfl)) rfl rfl (by intro x xx u hu;rw[Af.1 xx]at hu;simp at hu;rcases hu with rfl|rfl;rfl;exact(z.row q hj).sl.one) (by simp;omega) Fj (Ab _) (.inr λ_ h9=>h9) (λyg w26 xu h6 xv=>?_);have ye:=xv;have xe:=J.size;have H:=H.mod h6 (by exact(λhl e=>O.ne Y rfl (O.base_block hl) e));have O:=O.mod h6 (by exact(λk hk=>O.ne Y rfl hk));have z:=z.mod h6 (by exact z.ne Y rfl);have hd:=hd.mod h6 (by exact(λk hk=>hd.ne Y rfl hk));have hV:=hV.mod h6 (by exact(λk hk=>hV.ne Y rfl hk));have hX:=hX.mod h6 (by exact(λk hk e=>FM Y Fj e hk));have hL:=hL.mod h6 (by exact(λk hk e=>FM Y Fj e hk));have hw:=hw.mod h6 (by exact(λe=>Y.ne_blk hw rfl e));have hgt:=hgt.mod h6 (by trivial);have hz:=hz.mod h6 (by exact(λt ht k hk=>(hz.e t ht).1.ne Y rfl hk));have J:=J.own h6 (λi hi xa=>(GT.back J (us:=[218]) ⟨(hgt.g i hi).imp id (λe=>⟨e.1,Ax xa J.size⟩),K6 Y Fj hi⟩ xa Fj));have Y:=xu;have yq:GvE G w0 yg _:=⟨λk hk=>ye.elim (λe=>GI (by have:=J.size;omega) _ (hgt.g k (by rw[<-e];exact hk))) (λe=>.inr ⟨by rw[hk]at e;cases e;exact Ae h.x.1 xe,(Y.lt k hk).2⟩)⟩;have xd:=hw;clear m4;refine go ?_;refine df 4 (rfl) (HG hw (λw27 h5 xs27 hw=>?_) (hv:=by exact Y.sl.one));have H:=H.mod h5 (λhl e=>by have h2:(base vq).1=bs:=e;have h1:=O.lt _ (O.base_block hl);omega);have O:=O.mod h5 (by intro k hk h;have h1:=(O.lt k hk).1;have h2:k=bs:=h;omega);have z:=z.mod h5 (λq hq k hk e=>by have h2:k=bs:=e;have h1:=((z.row q hq).lt k hk);omega);have hd:=hd.mod h5 (by intro k hk h;have h1:=(hd.lt k hk).1;have h2:k=bs:=h;omega);have hV:=hV.mod h5 (by intro k hk h;have h1:=(hV.lt k hk).1;have h2:k=bs:=h;omega);have hX:=hX.mod h5 (λk hk=>by exact Gb.blk xd Fj k hk);have hL:=hL.mod h5 (λk hk=>by exact Gb.blk xd Fj k hk);have Y:=Y.mod h5 (λk hk e=>Y.ne_blk xd rfl (hk.trans (congrArg some e)));have hgt:=hgt.mod h5 trivial;have hz:=hz.mod h5 (λt ht k hk e=>(hz.e t ht).1.ne_blk xd rfl (hk.trans (congrArg some e)));have J:=J.own h5 (λi hi _=>(h.inB hi));refine go ?_;exact FJ (k+1,yg,T2++[⟨f.id,q.1,q.2⟩]) ⟨J,H,O,z,hd,hV,hX,hL,by omega,by simp;omega,hw,Y,⟨λk hk=>(yq.g k hk).imp id (λe=>⟨e.1,(Y.lt k hk).2⟩)⟩,⟨PD hz.e ⟨(z.row q hj).mono (Ab _),hqb q hj,λc hc=>hlc c ((yp q hj).2.2 c hc),λk hk=>.inr ⟨Ae h.x.1 ((z.row q hj).lt k hk).1,((z.row q hj).lt k hk).2⟩⟩⟩⟩
 refine go ?_;exact⟨_,rfl,J,0,dead,nx,vx,vT2,xs,T2,rfl,⟨hw,GI J.size _ h.g,hL,hX,⟨hV.mono (Ab _),λk hk=>.inr ⟨Ae h.x.1 (hV.lt k hk).1,(hV.lt k hk).2⟩,xq,Y,hgt.g,by omega,hz.e⟩⟩,zg⟩
section
variable {G:Nat->Prop}{w0 w w':World}{n:Int}{vf vT:Value}{fs:List Fi}{T:List Tr}{b bs bx bl bm a:Nat}{dead:Bool}
theorem RE.ext (h:RE G w0 bs bx bl bm n vf vT dead fs T a b w)(x:Fp w w'):RE G w0 bs bx bl bm n vf vT dead fs T a b w':=⟨h.m.ext x,GI x.size _ h.g,h.l.ext x,h.x.ext x,h.k.ext x⟩
instance : Up w w' (RE G w0 bs bx bl bm n vf vT dead fs T a b w) (RE G w0 bs bx bl bm n vf vT dead fs T a b w'):=⟨λx h=>RE.ext h x⟩
theorem Gb.sub {ts us:List Nat}{k:Nat}(h:Gb w ts k)(hu:ts.all us.elem=true):Gb w us k:=by
 obtain⟨cs,r,h1,h2⟩:=h;exact⟨cs,r,h1,AO.1 hu r (D9.1 h2)⟩
theorem RE.mod {S:Nat->Prop}(h:RE G w0 bs bx bl bm n vf vT dead fs T a b w)(m:Vc.Mod S w w')(hS:∀k,Gb w [138,226,135,82,215,69,218,5,62,79] k->¬ S k):RE G w0 bs bx bl bm n vf vT dead fs T a b w':=
 ⟨h.m.mod m (hS bs ⟨_,_,h.m,by decide⟩),GI m.size _ h.g,h.l.mod m (λk hk=>hS k (hk.sub Fj)),h.x.mod m (λk hk=>hS k (hk.sub Fj)),h.k.mod m (λk hk=>hS k (hk.sub Fj))⟩
theorem RE.up {q p:Nat}(h:RE G w0 bs bx bl bm n vf vT dead fs T a b w)(hq:a<=q)(hp:b<=p):RE G w0 bs bx bl bm n vf vT dead fs T q p w:=⟨h.m,h.g,h.l,h.x.more hq,h.k.up9 hp⟩
theorem RE.fid (h:RE G w0 bs bx bl bm n vf vT dead fs T a b w){f:Fi}(hf:f∈fs):0<=f.id/\f.id<=1099511627776/\0<=f.lev/\f.lev<=4/\0<=f.size/\f.size<=1048576/\f.fst.length<=4096/\f.lst.length<=4096:=by
 obtain⟨r,hi⟩:=AQ hf;exact QD (h.k.i.2 r f hi).1 h.k.i.1.2.1
theorem efail {e:Int}(h:RE G w0 bs bx bl bm n vf vT dead fs T a b w):Calls Tryz.prog 146 [Fg bs 0,I e].toArray w (Hi (Fu bs) w (λu w'=>u=I e/\RE G w0 bs bx bl bm n vf vT true fs T a b w')):=
 Calls.mono (Rg bs bx bl bm n vf vT dead e w h.m) λe w' ⟨u,e1,m,e9,hu⟩=>⟨u,e1,m,e9,hu,GI m.size _ h.g,h.l.mod m (λk hk=>Gb.blk h.m Fj k hk),h.x.mod m (λk hk=>Gb.blk h.m Fj k hk),h.k.mod m (λk hk=>Gb.blk h.m Fj k hk)⟩
theorem eclose {i:Int}(h:RE G w0 bs bx bl bm n vf vT dead fs T a b w)(hb:b<=100000000):Calls Tryz.prog 144 [Fg bs 0,I i].toArray w (Hi (Fu bs) w (λu w'=>u=.tuple #[]/\∃vT' T',RE G w0 bs bx bl bm n vf vT' dead fs T' a b w')):=by
 refine Calls.mono (X24 bs bx bl bm n vf vT dead T i w h.m (h.k.t.arr Ff) (λt r=>(h.k.e t r).1.sl.one) (by have:=h.k.tl;omega) (λz e=>h.k.t.ne_blk h.m rfl ((h.k.t.base_block z).trans (congrArg some e)))) λe w' ⟨u,e1,m,e9,vT',T',hm,ho,z,hs⟩=>⟨u,e1,m,e9,vT',T',hm,GI m.size _ h.g,h.l.mod m (λk hk=>Gb.blk h.m Fj k hk),h.x.mod m (λk hk=>Gb.blk h.m Fj k hk),?_⟩;have hk:=h.k.mod m (λk hk=>Gb.blk h.m Fj k hk);exact⟨hk.v,hk.gv,hk.i,ho.mono (Ab _),λk hk=>.inr ⟨Ae h.x.1 (ho.lt k hk).1,(ho.lt k hk).2⟩,by have:=hk.tl;omega,λt r=>hk.e t (hs t r)⟩
theorem eremove {s:Fh}(h:RE G w0 bs bx bl bm n vf vT dead fs T a b w):Calls Tryz.prog 145 [Fg bx 0,S s].toArray w (Hi (GT (FSq G w0 w) [138,226] w) w (λu w'=>∃e:Int,u=I e/\RE G w0 bs bx bl bm n vf vT dead fs T a b w')):=
 Calls.mono (lremove h.l) λe w' ⟨u,e1,m,e9,hu,hL⟩=>⟨u,e1,m,e9,hu,h.m.mod m (λe=>Fo.noTy h.m Fj e.2),GI m.size _ h.g,hL,h.x.mod m (λk hk e=>Gb.ne hk Fj e.2),h.k.mod m (λk hk e=>Gb.ne hk Fj e.2)⟩
end
theorem Wk (G:Nat->Prop)(w0:World)(bs bx bl bm:Nat)(n:Int)(vf vT:Value)(dead:Bool)(fs:List Fi)(T:List Tr)(a b:Nat)(w:World)(h:RE G w0 bs bx bl bm n vf vT dead fs T a b w)(ha:a<=90000000)(hb:b<=20000000) :
  Gy 72 [Fg bs 0] w (GT (FSq G w0 w) [138,226,135,82,215,69,218] w) λu w'=>∃(ok:Bool) (e:Int) (bm2:Nat) (d2:Bool) (n2:Int) (vf2 vT2:Value) (fs2:List Fi) (T2:List Tr),u=.tuple #[B ok,I e]/\RE G w0 bs bx bl bm2 n2 vf2 vT2 d2 fs2 T2 a (b+1024) w'/\(KM fs->KM fs2):=by
 refine cE Tryz.func72 λr=>?_;obtain⟨hj,hgx,vM,M,hbm,J,hMg,hMl,hr⟩:=h.x;have hbs:=h.m.lt;refine go ?_;refine df 6 (rfl) (dl rfl (h.m.at rfl) ?_);refine FZ (λc1=>?_) λc1=>?_
 ·refine go ?_;exact⟨_,rfl,r.mono (λ_ h _=>h.elim),false,9,bm,dead,n,vf,vT,fs,T,rfl,(h.ext r).up (Aa _) Fb,id⟩
 refine go ?_;refine df 5 (rfl) (dl rfl (h.m.at rfl) (go ?_));refine dv 79 4 ((J.ext r).arr Ff).sl ?_;refine Fk (λc2=>?_) λc2=>?_
 ·refine go ?_;exact⟨_,rfl,r.mono (λ_ h _=>h.elim),false,0,bm,dead,n,vf,vT,fs,T,rfl,(h.ext r).up (Aa _) Fb,id⟩
 refine go ?_;refine df 5 (rfl) (dl rfl (h.m.at rfl) (Ge (RS M vM _ ((J.ext r).arr Ff) Fb) λhp w1 x1 hw=>?_));have hsz1:=r.size;have r:=r.trans x1;obtain⟨l2,hh,hll,hl,hln⟩:=hw;have hq:=hh.mono (Ab _);refine cD (Xd G w0 bs bx bl bm n vf vT dead fs T a b l2 hp 0 [] (.slice none 0 0) _ (h.ext r) hq Fb (λc hc=>hr c (hl c hc)) ((Vc.Own.nil (T:=0) (B:=0)).arr Ff) (Ab _) hb) (.inl rfl) λu2 w2 x2 hg=>?_;have hsz2:=r.size;have r:=(r.mod x2).mono (λi hi ht=>((GT.back (r.mono (λ_ h _=>h.elim)) hi ht Fj):(GT (FSq G w0 w) [138,226,135,82,215,69,218] w) i));obtain⟨e6,d2,n2,vf2,vT2,fs2,T2,rfl,O,hf⟩:=hg;have hm:=O.m;have z:=O.m;have Y:=O.l;have H:=O.k;refine Fk (λc3=>?_) λc3=>?_
 ·refine go ?_;exact⟨_,rfl,r,false,e6,bm,d2,n2,vf2,vT2,fs2,T2,rfl,O.up (Aa _) Fb,hf rfl⟩
 refine go ?_;refine db (zs:=[.slice none 0 0]) (pl:=[(0,1)]) (pv:=[]) (cs:=[.slice none 0 0]) ?_;refine Gx rfl rfl rfl RX.all (λb1 w3 e1 x3 m1=>?_);have g1:=r.ge e1;refine FV x3 hm z Y H r λhm z Y H r=>go ?_;refine df 5 (rfl) (HG hm (λw4 x4 xs4 hm=>?_) (hv:=by rfl));have Y:=Y.mod x4 (λk hk=>Gb.blk z Fj k hk);have H:=H.mod x4 (λk hk=>Gb.blk z Fj k hk);have m1:=m1.mo x4;have r:=r.own x4 (λi hi _=>(h.inB hi));refine go ?_;exact⟨_,rfl,r,true,0,b1,d2,n2,vf2,vT2,fs2,T2,rfl,⟨hm,GI r.size _ h.g,Y,⟨Ae hj r.size,.inr ⟨by omega,m1.lt⟩,.slice none 0 0,[],m1,Vc.Own.nil,λk hk=>(by cases hk),Ab _,λc hc=>(by cases hc)⟩,H.up9 Fb⟩,hf rfl⟩
theorem Xo7 (G:Nat->Prop)(w0:World)(bs bx bl bm:Nat)(n:Int)(vf vT:Value)(dead:Bool)(fs:List Fi)(T:List Tr)(a b:Nat)(w:World)(h:RE G w0 bs bx bl bm n vf vT dead fs T a b w)(ha:a<=40000000)(hb:b<=10000000) :
  Gy 73 [Fg bs 0] w (GT (FSq G w0 w) [138,226,135,82,215,69,218] w) λu w'=>∃(ok:Bool) (e:Int) (bm2:Nat) (d2:Bool) (n2:Int) (vf2 vT2:Value) (fs2:List Fi) (T2:List Tr),u=.tuple #[B ok,I e]/\RE G w0 bs bx bl bm2 n2 vf2 vT2 d2 fs2 T2 a (b+2048) w':=by
 refine cE Tryz.func73 λz=>?_;have hi9:=h.k.i.1;refine go ?_;refine df 6 (rfl) (dl rfl (h.m.at rfl) ?_);refine FZ (λc1=>?_) λc1=>?_
 ·refine go ?_;exact⟨_,rfl,z.mono (λ_ h _=>h.elim),false,9,bm,dead,n,vf,vT,fs,T,rfl,(h.ext z).up (Aa _) Fb⟩
 refine go ?_;refine dq (Fy Fe rfl rfl (h.m.part 2 2)) (cG (YF n fs vf _ ((h.k.v.ext z).arr Ff) Fb (λf hf=>by have:=h.fid hf;omega)) RX.all λu1 w1 x1 xv=>?_);have xd:=z.size;have z:=z.trans x1;obtain⟨vq,q,bq,rfl,xy,hql,hqm,xr,hqn⟩:=xv;have hq:=xy.mono xd;refine FZ (λc2=>?_) λc2=>?_
 ·refine go ?_;exact⟨_,rfl,z.mono (λ_ h _=>h.elim),false,0,bm,dead,n,vf,vT,fs,T,rfl,(h.ext z).up (Aa _) Fb⟩
 have x4:bq=true:=by simpa using c2
 have xt:=(xr.1 x4).2;refine Gw (Wk G w0 bs bx bl bm n vf vT dead fs T a b _ (h.ext z) Fb Fb) λu2 w2 x2 xk=>?_;have hsz2:=z.size;have z:=(z.mod x2).mono (λi hi hh=>((GT.back (z.mono (λ_ h _=>h.elim)) hi hh Fj):(GT (FSq G w0 w) [138,226,135,82,215,69,218] w) i));obtain⟨ok6,e6,bm2,d2,n2,vf2,vT2,fs2,T2,rfl,O,xu⟩:=xk;have J:=O.m;have hi8:=O.k.i.1;have hT8:=O.k.tl;refine Fk (λc3=>?_) λc3=>?_
 ·refine go ?_;exact⟨_,rfl,z,false,e6,bm2,d2,n2,vf2,vT2,fs2,T2,rfl,O.up (Aa _) Fb⟩
 refine go ?_;refine dq (Fy Fe rfl rfl (J.part 2 2)) (cG (YF n2 fs2 vf2 _ (O.k.v.arr Ff) Fb (λf hf=>by have:=O.fid hf;omega)) RX.all λu3 w3 x3 yc=>?_);have xf:=z.size;refine FB x3 O J z λO J z=>?_;obtain⟨vp,p,bp,rfl,yb,hpl,xc,xi,x0⟩:=yc;have Y:=yb.mono xf;have xa:=x0 (xi.2 ⟨O.k.i,xu xt⟩);refine F9 (G:=Nat×Value×List Int) (λ(k,vg,ids)=>[(0,Fg bs 0),(2,.bool false),(3,I 0),(4,vp),(7,I e6),(8,vg),(9,I ↑k)]) (λ(k,vg,ids) w'=>Mod (GT (FSq G w0 w) [138,226,135,82,215,69,218] w) w w'/\RE G w0 bs bx bl bm2 n2 vf2 vT2 d2 fs2 T2 a (b+1024) w'/\Fo w' bs [Fg bx 0,Fg bl 0,I n2,vf2,vT2,Fg bm2 0,B d2] 69/\Vc.Own Fi.cs 5 62 w.heap.size w' vp p/\k<=p.length/\ids.length=k/\(∀i∈ids,0<=i/\i<=1099511627776)/\Vc.Own Vc.encI 1 3 w.heap.size w' vg ids) (λ(k,vg,ids)=>p.length-k) (0,.slice none 0 0,[]) ⟨z,O,J,Y,Ab _,rfl,λi hi=>(by cases hi),Vc.Own.nil⟩ ?_;rintro _ ⟨k,vg,ids⟩ w4 ⟨z,O,J,Y,hk1,hil,hids,r⟩;refine go ?_;refine dv 62 5 (Y.arr Ff).sl ?_;refine Fk (λc4=>?_) λc4=>?_
 ·obtain⟨f,hk⟩:∃f,p[k]?=some f:=F8;refine go ?_;refine di 62 5 (Y.arr Ff).sl rfl ((Y.arr Ff).lt hk) (go ?_);refine dl rfl (((Y.arr Ff).row hk).at rfl) (li (e:=3) (sz:=1) (zs:=[.int .i64 0]) (pv:=[(0,_)]) (cs:=[_]) RX.all (λb1 w5 e1 x5 m1=>?_));have g1:=z.ge e1;have a1_hm5:=J.lt;have o1_hp:=Y.ltb e1;have o1_hgo:=r.ltb e1;refine FV x5 O J Y r z λO J Y r z=>G1 f.id r m1 λxm w6 h5 x6=>?_;have O:=O.mod x6 (by exact(λk hk e=>Gb.ne hk Fj (K6 r (ts:=[3]) Fj e)));have J:=J.mod x6 Fw;have Y:=Y.mod x6 (by exact(λk hk=>Y.ne r rfl hk));have z:=z.own x6 F4;have r:=h5;clear m1;refine go ?_;exact FJ (k+1,xm,ids++[f.id]) ⟨z,O,J,Y,by omega,by simp;omega,PD hids (by have:=O.fid (xc f (Ag hk));exact⟨this.1,this.2.1⟩),r⟩
 obtain⟨f0,hk0⟩:∃f,p[0]?=some f:=⟨_,Au (CM.2 xa)⟩;have hf0:=O.fid (xc f0 (Ag hk0));have hj:=Y.arr (enc:=Fi.cs) Ff;refine go ?_;refine HM (R:=Mod (λk=>vp.ownBlock≠some k)) HT Ir Fe [6,12] [(0,.p,false),(1,.p,false),(2,.p,false),(3,.p,false),(4,.p,false),(5,.p,false),(6,.l,false),(7,.p,false),(9,.p,false),(10,.p,false),(11,.p,false),(12,.l,false),(13,.p,false),(14,.p,false),(8,.x,false),(15,.x,false),(16,.p,false)] rfl Fe Fe (λw7 xg=>?_);have x7:=FC xg;clear xg;refine H3 x7 O J Y r hj z λO J Y r hj z=>FK 62 5 hj.sl (hj.lt hk0) ?_;refine go ?_;refine dL rfl (λ_ hR=>(((hj.mod hR (λhl h=>h (Y.base_block hl))).row hk0).at rfl)) (FK 62 5 hj.sl (hj.lt hk0) ?_);refine go ?_;refine dL rfl (λ_ hR=>(((hj.mod hR (λhl h=>h (Y.base_block hl))).row hk0).at rfl)) (go ?_);refine cG (Xzn bs bx bl bm2 n2 vf2 vT2 d2 fs2 T2 p vp (f0.lev+1) _ J (O.k.v.arr Ff) Fb (O.k.t.arr Ff) (λt ht=>(O.k.e t ht).1.arr Ff) Fb (Y.arr Ff) Fb Fb (λt ht=>(O.k.e t ht).2.1)) RX.mod λvl w8 x8 xl=>?_;have hsz8:=z.size;refine FP x8 O Y r z λO Y r z=>?_;obtain⟨lc,xn,hll,ya⟩:=xl;have xw:∀c∈lc,Gk c=true:=λc hc=>by obtain⟨t,ht,h9⟩:=ya c hc;exact(O.k.e t ht).2.2.1 c h9
 have xq:=xn.mono (Ab _);refine J8 rfl Fe (Xd G w0 bs bx bl bm2 n2 vf2 vT2 d2 fs2 T2 a (b+1024) lc vl (f0.lev+1) ids vg _ O xq Fb xw (r.arr Ff) Fb Fb) rfl (.inr λw9 h9=>h9.mono (λk hk _ e=>FM Y Fj e hk.2)) (λu9 w9 x9 xz=>?_);have hsz9:=z.size;have r:=r.mod x9 (λk hk e=>FM r Fj hk e.2);have z:=z.own x9 (λi hi hh=>(GT.back z hi hh Fj));obtain⟨e7,d3,n3,hy,hg,hw,T3,rfl,xx,_⟩:=xz;have H:=xx.up (Aa _) (by omega:b+1024+1024<=b+2048);refine Fk (λc5=>?_) λc5=>?_
 ·refine go ?_;exact⟨_,rfl,z,false,e7,bm2,d3,n3,hy,hg,hw,T3,rfl,H⟩
 refine F9 (G:=Nat×Value×List Tr) (λ(k,hg,T3)=>[(0,Fg bs 0),(2,.bool false),(3,I 0),(7,I e7),(8,vg),(10,I ↑k)]) (λ(k,hg,T3) w'=>Mod (GT (FSq G w0 w) [138,226,135,82,215,69,218] w) w w'/\Vc.Own Vc.encI 1 3 w.heap.size w' vg ids/\k<=ids.length/\RE G w0 bs bx bl bm2 n3 hy hg d3 hw T3 a (b+2048) w') (λ(k,hg,T3)=>ids.length-k) (0,hg,T3) ⟨z,r,Ab _,H⟩ ?_;rintro _ ⟨k,hg,T3⟩ w10 ⟨z,r,hk1,H⟩;refine go ?_;refine dv 3 1 (r.arr Ff).sl ?_;refine Fk (λc6=>?_) λc6=>?_
 ·obtain⟨i7,hki⟩:∃i,ids[k]?=some i:=F8;refine go ?_;refine di 3 1 (r.arr Ff).sl rfl ((r.arr Ff).lt hki) (dl rfl (((r.arr Ff).row hki).at0 rfl) (cD (eclose H Fb) (.inl rfl) λu11 w11 xb xe=>?_));have hsz11:=z.size;have r:=r.mod xb (λk hk e=>r.ne_blk H.m rfl (hk.trans (congrArg some e)));have z:=z.own xb (λi hi hh=>(GT.back z (H.inB hi) hh Fj));obtain⟨rfl,xo,T4,H⟩:=xe;refine go ?_;exact FJ (k+1,xo,T4) ⟨z,r,by omega,H⟩
 refine F9 (G:=Nat) (λk=>[(0,Fg bs 0),(8,vg),(11,I ↑k)]) (λk w'=>Mod (GT (FSq G w0 w) [138,226,135,82,215,69,218] w) w w'/\Vc.Own Vc.encI 1 3 w.heap.size w' vg ids/\RE G w0 bs bx bl bm2 n3 hy hg d3 hw T3 a (b+2048) w'/\k<=ids.length) (λk=>ids.length-k) 0 ⟨z,r,H,Ab _⟩ ?_;rintro _ k w12 ⟨z,r,H,hk1⟩;refine go ?_;refine dv 3 1 (r.arr Ff).sl ?_;refine Fk (λc7=>?_) λc7=>?_
 ·obtain⟨i7,hki⟩:∃i,ids[k]?=some i:=F8;have hi7:=hids i7 (Ag hki);have hr:=r.arr (enc:=Vc.encI) Ff;refine go ?_;refine HM (R:=Mod (λk=>k≠bs/\vg.ownBlock≠some k)) HT Ir Fe [3,7] [(0,.p,false),(1,.p,false),(2,.p,false),(3,.l,false),(4,.p,false),(5,.p,false),(6,.p,false),(7,.l,false),(8,.x,false),(9,.x,false),(10,.p,false)] rfl Fe Fe (λw13 hz=>?_);have xp:=FC hz;clear hz;refine FP xp r H hr z λr H hr z=>go ?_;refine dL rfl (λ_ hR=>((H.m.mod hR (λh=>h.1 rfl)).at rfl)) (FK 3 1 hr.sl (hr.lt hki) ?_);refine dL rfl (λ_ hR=>(((hr.mod hR (λhl h=>h.2 (r.base_block hl))).row hki).at0 rfl)) (cP (XH i7 _ Fb Fb) RX.mod λw14 xj=>FB xj r H z λr H z=>J8 rfl Fe (eremove H) rfl (.inr λw9 h9=>h9.mono (λk hk _=>⟨λe=>Gb.blk H.m Fj k hk.2 e,λe=>FM r Fj e hk.2⟩)) (λu15 w15 h7 h6=>?_));have hsz15:=z.size;have r:=r.mod h7 (λk hk e=>FM r Fj hk e.2);have z:=z.own h7 (λi hi hh=>(GT.back z hi hh Fj));obtain⟨e8,rfl,H⟩:=h6;refine Fk (λc8=>?_) λc8=>?_
  ·refine Gw (efail H) λu16 w16 xh h8=>?_;have hsz16:=z.size;have r:=r.mod xh (λk hk e=>r.ne_blk H.m rfl (hk.trans (congrArg some e)));have z:=z.own xh (λi hi hh=>(GT.back z (H.inB hi) hh Fj));obtain⟨rfl,H⟩:=h8;refine go ?_;exact⟨_,rfl,z,false,e8,bm2,true,n3,hy,hg,hw,T3,rfl,H⟩
  refine go ?_;exact FJ (k+1) ⟨z,r,H,by omega⟩
 refine go ?_;exact⟨_,rfl,z,true,0,bm2,d3,n3,hy,hg,hw,T3,rfl,H⟩
section
variable {G:Nat->Prop}{w0 w w':World}{n:Int}{vf vT:Value}{fs:List Fi}{T:List Tr}{b bs bx bl bm a:Nat}{dead:Bool}{S:Nat->Prop}
theorem Iw (k:Nat)(h:FSq G w w k):G k:=h.elim id (λe=>absurd e.2 (Nat.not_lt.2 e.1))
theorem DX.base (h:DX G w bx w)(m:Vc.Mod S w w')(hS:∀k,G k->¬ S k):DX G w' bx w':=by
 obtain⟨h1,_,room,vL,L,left,r⟩:=h;exact⟨λk hk=>Ax (h1 k hk) m.size,Aa _,room,vL,L,left,((r.wide Iw).mod m hS).wide (λk hk=>.inl hk)⟩
theorem LX.base (h:LX G w bl bx w)(m:Vc.Mod S w w')(hS:∀k,G k->¬ S k):LX G w' bl bx w':=by
 obtain⟨idx,vD,vL,dead,LL,h⟩:=h;exact⟨idx,vD,vL,dead,LL,h.d.base m hS,h.m.mod m (hS bl (Iw _ h.gb)),h.o.mod m (λk hk=>hS k (Iw k (h.gv k hk))),.inl (Iw _ h.gb),λk hk=>.inl (Iw k (h.gv k hk)),h.bd⟩
theorem G3.base (h:G3 G w bm a w)(m:Vc.Mod S w w')(hS:∀k,G k->¬ S k):G3 G w' bm a w':=by
 obtain⟨_,r,vM,M,h1,h2,h3,h4⟩:=h;exact⟨Aa _,.inl (Iw _ r),vM,M,h1.mod m (hS bm (Iw _ r)),h2.mod m (λk hk=>hS k (Iw k (h3 k hk))),λk hk=>.inl (Iw k (h3 k hk)),h4⟩
theorem RK.base (h:RK G w n vf vT fs T b w)(m:Vc.Mod S w w')(hS:∀k,G k->¬ S k):RK G w' n vf vT fs T b w':=
 ⟨h.v.mod m (λk hk=>hS k (Iw k (h.gv k hk))),λk hk=>.inl (Iw k (h.gv k hk)),h.i,h.t.mod m (λk hk=>hS k (Iw k (h.gt k hk))),λk hk=>.inl (Iw k (h.gt k hk)),h.tl,λt r=>⟨(h.e t r).1.mod m (λk hk=>hS k (Iw k ((h.e t r).2.2.2 k hk))),(h.e t r).2.1,(h.e t r).2.2.1,λk hk=>.inl (Iw k ((h.e t r).2.2.2 k hk))⟩⟩
theorem RE.base (h:RE G w bs bx bl bm n vf vT dead fs T a b w)(m:Vc.Mod S w w')(hS:∀k,G k->¬ S k):RE G w' bs bx bl bm n vf vT dead fs T a b w':=
 ⟨h.m.mod m (hS bs (Iw _ h.g)),.inl (Iw _ h.g),h.l.base m hS,h.x.base m hS,h.k.base m hS⟩
theorem RE.dx (h:RE G w0 bs bx bl bm n vf vT dead fs T a b w):DX G w0 bx w:=by
 obtain⟨idx,vD,vL,dead,LL,h⟩:=h.l;exact h.d
theorem RE.roll (h:RE G w0 bs bx bl bm n vf vT dead fs T a b w):RE (FSq G w0 w) w bs bx bl bm n vf vT dead fs T a b w:=by
 have Y:=h.dx.lt;obtain⟨hm,hg,⟨idx,vD,vL,dL,LL,r⟩,⟨_,O,vM,M,x1,x2,x3,x4⟩,hk⟩:=h;obtain⟨_,_,room,J,L,left,hD⟩:=r.d;exact⟨hm,.inl hg,⟨idx,vD,vL,dL,LL,⟨Y,Aa _,room,J,L,left,hD.wide (λk hk=>.inl hk)⟩,r.m,r.o,.inl r.gb,λk hk=>.inl (r.gv k hk),r.bd⟩,⟨Aa _,.inl O,vM,M,x1,x2,λk hk=>.inl (x3 k hk),x4⟩,⟨hk.v,λk z=>.inl (hk.gv k z),hk.i,hk.t,λk z=>.inl (hk.gt k z),hk.tl,λt H=>⟨(hk.e t H).1,(hk.e t H).2.1,(hk.e t H).2.2.1,λk z=>.inl ((hk.e t H).2.2.2 k z)⟩⟩⟩
end
def FU (g:Cell->Nat)(l:List Cell):Nat:=(l.map g).sum
theorem LA (g:Cell->Nat)(l m:List Cell):FU g (l++m)=FU g l+FU g m:=by unfold FU;rw[A6,B0]
variable {g:Cell->Nat}{l m:List Cell}
theorem Xzu (h:l.Perm m):FU g l=FU g m:=(h.map g).sum_nat
theorem Xte (h:l.Sublist m):FU g l<=FU g m:=by
 induction h with
 | slnil=>exact Aa _
 | cons a h ih=>unfold FU at *;simp only [Am,AT];omega
 | cons_cons a h ih=>unfold FU at *;simp only [Am,AT];omega
theorem RZ : ∀(r:List Cell) (p:Cell),(JP KH p r).Sublist r
 | [],_=>El
 | x :: r,p=>by
  unfold JP;split
  ·exact(RZ r x).cons x
  ·exact(RZ r x).cons_cons x
theorem Tw (h:Mg l m):FU g m<=FU g l:=by
 obtain⟨l',z,_,rfl⟩:=h;rw[<-Xzu z];refine Xte ?_
 cases l' with
 | nil=>exact El
 | cons a r=>exact(RZ r a).cons_cons a
theorem Si (ts:List Tb):FU g (ts.flatMap (·.cs))=(ts.map λt=>FU g t.cs).sum:=by
 induction ts with
 | nil=>rfl
 | cons t r ih=>rw[AF,LA,ih];rfl
theorem YN {α:Type}(g:α->Nat):∀l1 l2:List α,l1.Nodup->(∀x∈l1,x∈l2)->(l1.map g).sum<=(l2.map g).sum
 | [],l2,_,_=>Ab _
 | a :: r,l2,hn,hs=>by
  obtain⟨X,Y,rfl⟩:=List.append_of_mem (hs a Ai);rw[Bk]at hn;have ih:=YN g r (X++Y) hn.2 (λx z=>by
   rcases Ak.1 (hs x (Ao _ z))with h|h
   ·exact B8 _ h
   ·rcases Ah.1 h with rfl|h
    ·exact absurd z hn.1
    ·exact List.mem_append_right _ h)
  simp only [Am,A6,AT,B0]at *;omega
theorem VQ {α:Type}(g:α->Nat)(p:α->Bool):∀l:List α,((l.filter p).map g).sum+((l.filter λx=>!p x).map g).sum=(l.map g).sum
 | []=>rfl
 | a :: r=>by
  have ih:=VQ g p r;simp only [BF,Am,AT]
  cases p a<;>simp<;>omega
def OB (ts:List Tb)(p:List Fi):List Tb:=p.filterMap λf=>HH ts (f.lev,f.id)
theorem Uu (ts:List Tb):∀p:List Fi,Jr ts p=(OB ts p).flatMap (·.cs)
 | []=>rfl
 | f :: r=>by
  have z:=Uu ts r;unfold Jr OB at *;rw[AF,EU,z]
  cases HH ts (f.lev,f.id)<;>rfl
theorem UN (ts:List Tb):∀p:List Fi,((OB ts p).map λt=>t.h.2).Sublist (p.map (·.id))
 | []=>El
 | f :: r=>by
  have z:=UN ts r;unfold OB at *;rw[EU,Am]
  cases e:HH ts (f.lev,f.id)with
  | none=>exact z.cons _
  | some t=>
   have h2:t.h=(f.lev,f.id):=by unfold HH at e;simpa using Cp e
   simp only [Am];rw[h2];exact z.cons_cons _
theorem Uc {α β:Type}{f:α->β} : ∀ {l:List α},(l.map f).Nodup->l.Nodup
 | [],_=>Cj
 | a :: r,h=>by
  rw[Am,Bk]at h;exact Bk.2 ⟨λz=>h.1 (List.mem_map_of_mem z),Uc h.2⟩
section
variable {n lv:Int}{V V':Vs}{ts ts':List Tb}{mem m:List Cell}{p:List Fi}{M:List Rw}{g:Cell->Nat}
theorem Xq1 (hn:(p.map (·.id)).Nodup):FU g (Jr ts p)<=((ts.filter λt=>!kp p t).map λt=>FU g t.cs).sum:=by
 rw[Uu,Si];refine YN _ _ _ (Uc (List.Nodup.sublist (UN ts p) hn)) λt r=>?_;unfold OB at r;obtain⟨f,z,e⟩:=List.mem_filterMap.1 r;have h2:t.h=(f.lev,f.id):=by unfold HH at e;simpa using Cp e
 refine Av.2 ⟨PY e,?_⟩
 cases hk:kp p t with
 | false=>rfl
 | true=>exact absurd h2 (MW.1 hk f z)
theorem Xuh (hm:Mg mem m)(h:∃tbs:List Tb,ts'=ts++tbs/\tbs.flatMap (·.cs)=m):FU g (FQ [] ts')<=FU g (FQ mem ts):=by
 obtain⟨tbs,rfl,h⟩:=h;have:=Tw (g:=g) hm;unfold FQ;rw[Bb,AB,LA,LA,h];omega
theorem Xui (hm:Mg (Jr ts p) m)(hn:(p.map (·.id)).Nodup)(h:∃tbs:List Tb,ts'=ts.filter (kp p)++tbs/\tbs.flatMap (·.cs)=m.filter (I5 V.fs lv)):FU g (FQ [] ts')<=FU g (FQ [] ts):=by
 obtain⟨tbs,rfl,h⟩:=h;have h1:=Tw (g:=g) hm;have h2:FU g (m.filter (I5 V.fs lv))<=FU g m:=Xte List.filter_sublist;have h3:=Xq1 (g:=g) (ts:=ts) hn;have h4:=VQ (λt:Tb=>FU g t.cs) (kp p) ts;unfold FQ;rw[Bb,AB,AB,LA,h,Si,Si];omega
end
theorem X8z {c:Cell}(hc:Gk c=true)(hs:∀d∈m,d.key=c.key->d.seq<c.seq)(x:Cell):x∈(put m c).2↔x=c\/x∈m:=by
 have z:=N5 m c;have H:has m c=false:=by
  unfold has
  cases e:Iq m c with
  | nil=>rfl
  | cons d r=>
   have hd:d∈m:=by rw[<-z,e];simp
   cases h2:(decide (d.key=c.key) && decide (d.seq=c.seq))with
   | false=>exact h2
   | true=>
    simp only [Aq,decide_eq_true_eq]at h2;have:=hs d hd h2.1;omega
 unfold put;rw[hc,H];show x∈pre m c++c :: Iq m c↔_;rw[Ak,Ah];have:x∈m↔x∈pre m c\/x∈Iq m c:=by rw[<-Ak,z]
 rw[this]
 constructor
 ·rintro (h|h|h)
  ·exact .inr (.inl h)
  ·exact .inl h
  ·exact .inr (.inr h)
 ·rintro (h|h|h)
  ·exact .inr (.inl h)
  ·exact .inl h
  ·exact .inr (.inr h)
theorem XQ : ∀(cs m:List Cell),Jp cs->(∀c∈cs,Gk c=true)->(∀d∈m,∀c∈cs,d.key=c.key->d.seq<c.seq)->FO m->FO (JA m cs)/\∀x,x∈JA m cs↔x∈cs\/x∈m
 | [],m,_,_,_,hm=>⟨hm,λx=>by show x∈m↔_;simp⟩
 | c :: r,m,hk,hc,hs,hm=>by
  rw[Jp,AI]at hk;have h1:=X8z (hc c Ai) (λd hd=>hs d hd c Ai);obtain⟨H,J⟩:=XQ r (put m c).2 hk.2 (λx z=>hc x (Ao _ z)) (λd hd x z he=>by
   rcases(h1 d).1 hd with rfl|hd
   ·have:=hk.1 x z;rw[he,IC]at this;cases this
   ·exact hs d hd x (Ao _ z) he) (FO.put hm c)
  refine⟨H,λx=>?_⟩;show x∈JA (put m c).2 r↔_;rw[J,h1,Ah]
  constructor
  ·rintro (h|h|h)
   ·exact .inl (.inr h)
   ·exact .inl (.inl h)
   ·exact .inr h
  ·rintro ((h|h)|h)
   ·exact .inr (.inl h)
   ·exact .inl h
   ·exact .inr (.inr h)
def Kk (s:Int)(c:Cell):Cell:=⟨c.key,c.val,c.del,s⟩
theorem X28 (s:Int)(out:List Cell)(c:Cell):Ht (out.map (Kk s)) (Kk s c)=(Ht out c).map (Kk s):=by
 unfold Ht;rw[List.any_map,show((λx:Cell=>decide (x.key=(Kk s c).key)) ∘ Kk s)=λx=>decide (x.key=c.key) from rfl];split
 ·rfl
 ·rw[List.takeWhile_map,List.dropWhile_map,A6,Am];rfl
theorem Xln (s:Int)(l:List Rw):Gj l s=(Gj l 1).map (Kk s):=by
 unfold Gj
 induction l with
 | nil=>rfl
 | cons r l ih=>rw[EV,EV,ih,<-X28];rfl
theorem VM (s:Int):∀(l:List Cell) (M:List Rw),(l.map (Kk s)).foldl Ip M=l.foldl Ip M
 | [],_=>rfl
 | c :: r,M=>by rw[Am,BS,BS,VM s r];rfl
def Na (M:List Rw)(l:List Rw):List Rw:=(Gj l 1).foldl Ip M
theorem X80 {c:Rw}{s:Int}(h:Gk (c.cell 1)=true)(h1:1<=s)(h2:s<=1099511627776):Gk (c.cell s)=true:=by
 unfold Gk Rw.cell at *;simp only [Aq,decide_eq_true_eq]at *;exact⟨⟨h.1.1,h1⟩,h2⟩
section
variable {n:Int}{V:Vs}{ts:List Tb}{mem:List Cell}{M:List Rw}{g:Cell->Nat}
theorem Sto.write (h:Sto n V ts mem)(hT:Sp.Told (FQ mem ts) M){l:List Rw}(hc:IM l=0)(hn:0<=n/\n<1099511627776):Sto (n+1) V ts (JA mem (Gj l (n+1)))/\Sp.Told (FQ (JA mem (Gj l (n+1))) ts) (Na M l):=by
 obtain⟨_,_,_,h4⟩:=Ox hc;have J:∀c∈Gj l (n+1),Gk c=true/\c.seq=n+1:=λc z=>by
  obtain⟨r,Y,rfl⟩:=Sn z;exact⟨X80 (h4 r Y) Fb Fb,rfl⟩
 have H:∀d∈FQ mem ts,∀c∈Gj l (n+1),d.key=c.key->d.seq<c.seq:=λd hd c z _=>by
  have:=(h.okc d hd).2;have:=(J c z).2;omega
 obtain⟨p1,p2⟩:=XQ (Gj l (n+1)) mem (Pz l _) (λc z=>(J c z).1) (λd hd=>H d (Hg.2 (.inl hd))) h.ms;refine⟨⟨h.isv,h.fwd,h.bwd,h.nod,h.up,λc z=>?_,p1,λc z t O d hd hk=>?_,h.n2⟩,?_⟩
 ·rcases Hg.1 z with z|z
  ·rcases(p2 c).1 z with z|z
   ·have:=J c z;exact⟨this.1,by omega⟩
   ·have:=h.okc c (Hg.2 (.inl z));exact⟨this.1,by omega⟩
  ·have:=h.okc c (Hg.2 (.inr z));exact⟨this.1,by omega⟩
 ·rcases(p2 c).1 z with z|z
  ·exact H d (Hg.2 (.inr ⟨t,O,hd⟩)) c z hk
  ·exact h.n1 c z t O d hd hk
 ·have:=X5 (Gj l (n+1)) hT (Pz l _) H;rw[Xln (n+1) l,VM,<-Xln (n+1) l]at this;refine Xlh this λx=>?_;rw[Ak,Hg,Hg,p2]
  constructor
  ·rintro (h|h|h)
   ·exact .inl (.inl h)
   ·exact .inl (.inr h)
   ·exact .inr h
  ·rintro ((h|h)|h)
   ·exact .inl h
   ·exact .inr (.inl h)
   ·exact .inr (.inr h)
theorem X29 (m:List Cell)(c:Cell):FU g (put m c).2<=FU g m+g c:=by
 unfold put;split
 ·exact Nat.le_add_right _ _
 ·have:=congrArg (FU g) (N5 m c);rw[LA]at this;show FU g (pre m c++c :: Iq m c)<=_;rw[LA,show FU g (c :: Iq m c)=g c+FU g (Iq m c) by unfold FU;simp];omega
theorem UR : ∀(cs m:List Cell),FU g (JA m cs)<=FU g m+FU g cs
 | [],m=>Aa _
 | c :: r,m=>by
  have h1:=UR r (put m c).2;have h2:=X29 (g:=g) m c;show FU g (JA (put m c).2 r)<=_;rw[show FU g (c :: r)=g c+FU g r by unfold FU;simp];omega
variable {key:Fh}{l:List Cell}
theorem WA (h:first l key 1099511627776=none)(hs:∀c∈l,c.seq<=1099511627776):∀c∈l,c.key≠key:=λc r e=>by
 unfold first at h
 rw[List.find?_eq_none]at h;exact h c r (by simp [e,hs c r])
theorem RU {c:Cell}(h:first l key 1099511627776=some c):c∈l/\c.key=key:=by
 unfold first at h
 have:=Cp h;simp only [Aq,decide_eq_true_eq]at this;exact⟨List.mem_of_find?_eq_some h,this.1⟩
theorem Xuj {c:Cell}(hs:FO l)(hq:∀c∈l,c.seq<=1099511627776)(h:first l key 1099511627776=some c):Ju l c:=by
 obtain⟨h1,h2⟩:=RU h;refine⟨h1,λd hd hk=>?_⟩;unfold first at h
 obtain⟨_,A,B,z,hA⟩:=List.find?_eq_some_iff_append.1 h;rw[z]at hd hs;rcases Ak.1 hd with hd|hd
 ·have:=hA d hd;have r:d∈l:=by rw[z];exact B8 _ hd
  simp [hk.trans h2,hq d r]at this
 ·rcases Ah.1 hd with rfl|hd
  ·exact BV _
  ·have H:=(AI.1 (Bj.1 hs).2.1).1 d hd;rcases(J6 c d).1 H with e|e
   ·rw[hk,IC]at e;cases e
   ·omega
theorem X3a (h:Sto n V ts mem)(key:Fh):(Jo V.fs key).Pairwise λf g=>f.lev<g.lev\/(f.lev=0/\g.lev=0/\g.id<f.id):=by
 have O:=Uo h.isv;have ho:=(JG h.isv).2.2.2.1;have J:∀i:Int,0<i->(HF V.fs i key key).Pairwise λf g=>f.lev<g.lev\/(f.lev=0/\g.lev=0/\g.id<f.id):=λi hi=>by
  have h1:=Cu (IX i key key) O;have hm:∀f∈HF V.fs i key key,IX i key key f=true:=λf H=>(Av.1 H).2;refine DV (λ {f g} H Y hfg=>?_) h1;have e1:=hm f H;have e2:=hm g Y;unfold IX at e1 e2;simp only [Aq,decide_eq_true_eq,Bool.not_eq_true']at e1 e2;rcases hfg with q|⟨_,q|q⟩
  ·exact .inl q
  ·omega
  ·have:=Tp q.2 e2.2;rw[e1.1.2]at this;cases this
 have hz:((HF V.fs 0 key key).reverse).Pairwise λf g=>f.lev<g.lev\/(f.lev=0/\g.lev=0/\g.id<f.id):=by
  rw[List.pairwise_reverse];have h1:=Cu (IX 0 key key) O;have hm:∀f∈HF V.fs 0 key key,f.lev=0:=λf H=>by
   have:=(Av.1 H).2;unfold IX at this;simp only [Aq,decide_eq_true_eq]at this;exact this.1.1
  refine DV (λ {f g} H Y hfg=>?_) h1;have e1:=hm f H;have e2:=hm g Y;rcases hfg with q|⟨_,q|q⟩
  ·omega
  ·exact .inr ⟨e2,e1,q.2⟩
  ·omega
 have hl:∀(i:Int) (f:Fi),f∈HF V.fs i key key->f.lev=i:=λi f H=>by
  have:=(Av.1 H).2;unfold IX at this;simp only [Aq,decide_eq_true_eq]at this;exact this.1.1
 unfold Jo;simp only [Bj,Ak,DY];have z:∀(i j:Int),i<j->∀f g:Fi,f∈HF V.fs i key key->g∈HF V.fs j key key->f.lev<g.lev\/(f.lev=0/\g.lev=0/\g.id<f.id):=λi j hc f g H Y=>.inl (by rw[hl i f H,hl j g Y];exact hc);refine⟨⟨⟨⟨hz,J 1 Fj,λa r b hb=>z 0 1 Fj a b r hb⟩,J 2 Fj,λa r b hb=>?_⟩,J 3 Fj,λa r b hb=>?_⟩,J 4 Fj,λa r b hb=>?_⟩
 ·rcases r with r|r
  ·exact z 0 2 Fj a b r hb
  ·exact z 1 2 Fj a b r hb
 ·rcases r with(r|r)|r
  ·exact z 0 3 Fj a b r hb
  ·exact z 1 3 Fj a b r hb
  ·exact z 2 3 Fj a b r hb
 ·rcases r with((r|r)|r)|r
  ·exact z 0 4 Fj a b r hb
  ·exact z 1 4 Fj a b r hb
  ·exact z 2 4 Fj a b r hb
  ·exact z 3 4 Fj a b r hb
theorem Xzx (h:Sto n V ts mem){f:Fi}(hf:f∈V.fs)(h1:F0 f.lst key=false)(h2:F0 key f.fst=false):f∈Jo V.fs key:=by
 have hl:=ME ((JG h.isv).2.2.2.1 f hf);have hi:∀i:Int,f.lev=i->f∈HF V.fs i key key:=λi e=>Av.2 ⟨hf,by unfold IX;rw[e,h1,h2];simp⟩;unfold Jo;simp only [Ak,DY];rcases(show f.lev=0\/f.lev=1\/f.lev=2\/f.lev=3\/f.lev=4 by omega)with e|e|e|e|e
 ·exact .inl (.inl (.inl (.inl (hi 0 e))))
 ·exact .inl (.inl (.inl (.inr (hi 1 e))))
 ·exact .inl (.inl (.inr (hi 2 e)))
 ·exact .inl (.inr (hi 3 e))
 ·exact .inr (hi 4 e)
theorem Ut (h:Sto n V ts mem)(hn:n<=1099511627776)(key:Fh):∀(r:List Fi),(∀f∈r,f∈V.fs)->(r.Pairwise λf g=>f.lev<g.lev\/(f.lev=0/\g.lev=0/\g.id<f.id))->
  match KD ts key r with
  | some c=>c.key=key/\∃t∈ts,c∈t.cs/\(∃f∈r,t.h=(f.lev,f.id))/\∀u∈ts,(∃g∈r,u.h=(g.lev,g.id))->∀d∈u.cs,d.key=key->d.seq<=c.seq
  | none=>∀u∈ts,(∃g∈r,u.h=(g.lev,g.id))->∀d∈u.cs,d.key≠key
 | [],_,_=>λu _ J=>by obtain⟨g,J,_⟩:=J;cases J
 | f :: r,hr,hp=>by
  rw[AI]at hp;have ih:=Ut h hn key r (λg J=>hr g (Ao _ J)) hp.2;obtain⟨t,Y,hv⟩:=h.fwd f (hr f Ai);have hf:HH ts (f.lev,f.id)=some t:=by rw[<-hv.h];exact NR h.nod Y
  have hh:∀u∈ts,∀d∈u.cs,d.seq<=1099511627776:=λu hu d hd=>by have:=(h.okc d (Hg.2 (.inr ⟨u,hu,hd⟩))).2;omega
  unfold KD;rw[hf,Option.bind_some]
  cases e:first t.cs key 1099511627776 with
  | some c=>
   obtain⟨c1,c2⟩:=RU e;refine⟨c2,t,Y,c1,⟨f,Ai,hv.h⟩,λu hu J d hd hk=>?_⟩;obtain⟨g,J,O⟩:=J;rcases Ah.1 J with rfl|J
   ·have:u=t:=LZ h.nod hu Y (O.trans hv.h.symm);subst this;rw[Tx (h.up u hu) hd c1 (hk.trans c2.symm)];exact BV _
   ·have hc:QG t u:=by
     unfold QG;rw[hv.h,O];exact hp.1 g J
    have:=h.n2 t Y u hu hc c c1 d hd (hk.trans c2.symm);omega
  | none=>
   have ha:=WA e (hh t Y);dsimp only
   cases e2:KD ts key r with
   | some c=>
    rw[e2]at ih;obtain⟨i1,u,hu,hcu,⟨g,J,O⟩,i3⟩:=ih;refine⟨i1,u,hu,hcu,⟨g,Ao _ J,O⟩,λx hx z d hd hk=>?_⟩;obtain⟨g2,z,H⟩:=z;rcases Ah.1 z with rfl|z
    ·have:x=t:=LZ h.nod hx Y (H.trans hv.h.symm);subst this;exact absurd hk (ha d hd)
    ·exact i3 x hx ⟨g2,z,H⟩ d hd hk
   | none=>
    rw[e2]at ih;intro x hx z d hd;obtain⟨g2,z,H⟩:=z;rcases Ah.1 z with rfl|z
    ·have:x=t:=LZ h.nod hx Y (H.trans hv.h.symm);subst this;exact ha d hd
    ·exact ih x hx ⟨g2,z,H⟩ d hd
theorem Sto.get (h:Sto n V ts mem)(hn:n<=1099511627776)(key:Fh):match JZ mem V.fs ts key with
  | some c=>Ju (FQ mem ts) c/\c.key=key
  | none=>∀c∈FQ mem ts,c.key≠key:=by
 have z:∀c∈mem,c.seq<=1099511627776:=λc hc=>by have:=(h.okc c (Hg.2 (.inl hc))).2;omega
 have r:∀u∈ts,∀d∈u.cs,d.key=key->∃g∈Jo V.fs key,u.h=(g.lev,g.id):=λu hu d hd hk=>by
  obtain⟨g,hg,hw⟩:=h.bwd u hu;obtain⟨b1,Y⟩:=hw.rng (h.up u hu) hd;rw[hk]at b1 Y;exact⟨g,Xzx h hg Y b1,hw.h⟩
 cases e:first mem key 1099511627776 with
 | some c=>
  rw[VL e];obtain⟨c1,c2⟩:=RU e;have hT:=Xuj h.ms z e;refine⟨⟨Hg.2 (.inl c1),λd hd hk=>?_⟩,c2⟩;rcases Hg.1 hd with hd|⟨u,hu,hd⟩
  ·exact hT.2 d hd hk
  ·have:=h.n1 c c1 u hu d hd hk;omega
 | none=>
  rw[Q7 e];have H:=WA e z;have hs:=Ut h hn key (Jo V.fs key) (λf hf=>XV hf) (X3a h key)
  cases e2:KD ts key (Jo V.fs key)with
  | some c=>
   rw[e2]at hs;obtain⟨J,t,ht,O,_,i3⟩:=hs;refine⟨⟨Hg.2 (.inr ⟨t,ht,O⟩),λd hd hk=>?_⟩,J⟩;rcases Hg.1 hd with hd|⟨u,hu,hd⟩
   ·exact absurd (hk.trans J) (H d hd)
   ·exact i3 u hu (r u hu d hd (hk.trans J)) d hd (hk.trans J)
  | none=>
   rw[e2]at hs;intro d hd hk;rcases Hg.1 hd with hd|⟨u,hu,hd⟩
   ·exact H d hd hk
   ·exact hs u hu (r u hu d hd hk) d hd hk
theorem Sto.getR (h:Sto n V ts mem)(hn:n<=1099511627776)(hT:Sp.Told (FQ mem ts) M)(key:Fh):getR (JZ mem V.fs ts key)=match M.find? (λr=>decide (r.key=key))with
  | some r=>(r.val,true)
  | none=>([],false):=by
 have h1:=X2r h.uniq hT (key:=key) (o:=JZ mem V.fs ts key) (h.get hn key)
 cases e:M.find? (λr=>decide (r.key=key))with
 | some r=>
  rw[e]at h1;obtain⟨c,h2,h3,h4⟩:=h1;rw[h2];unfold Proofs.YtiooodckiddpmaaGreatDoor.getR;dsimp only;rw[if_neg (by rw[h3];decide),h4]
 | none=>
  rw[e]at h1
  cases e2:JZ mem V.fs ts key with
  | none=>rfl
  | some c=>
   unfold Proofs.YtiooodckiddpmaaGreatDoor.getR;dsimp only;rw[if_pos (h1 c e2)]
end
end Go.Proofs.YtiooodckiddpmaaGreatDoor
namespace Go.Vc
open Go.ChangeShapes Go.WideShapes Go.ChangeAt Go.RowKit
section
variable {H:Type}{enc:TypeId×Value->H}{P:Program}{W W':World}{base:Nat}
def readB (P:Program)(t:TypeId):Bool:=P.readableRec t && decide (t<P.types.size)
theorem XF (hl:laidOutB P=true)(r:Fp W W'):∀ {ts:List TypeId} {vs:List Value} {ds:List (DataW H)} {ps:List MemPlace},ts.all (readB P)=true->DataW.TrodAll enc P W 0 (λ_=>true) true ts vs ds ps->
  (∀p∈ps,p.block<W.heap.size)->DataW.TrodAll enc P W' 0 (λb=>decide (b<W.heap.size)) true ts vs ds ps
 | [],[],[],_,_,h,_=>h
 | t :: ts,v :: vs,d :: ds,ps,hr,h,hlt=>by
  obtain⟨p,q,h1,h2,rfl⟩:=h;simp only [List.all_cons,Aq]at hr;have z:P.readableRec t=true/\t<P.types.size:=by simpa [readB]using hr.1
  exact⟨p,q,Below.trod hl z.1 z.2 h1 r.below (λx r=>hlt x (by simp [r])),XF hl r hr.2 h2 (λx r=>hlt x (by simp [r])),rfl⟩
 | [],[],_ :: _,_,_,h,_=>h.elim
 | [],_ :: _,_,_,_,h,_=>h.elim
 | _ :: _,[],_,_,_,h,_=>h.elim
 | _ :: _,_ :: _,[],_,_,h,_=>h.elim
theorem Fp.kept (hx:Fp W W')(may:MemPlace->Prop):W.keptBut W' may:=hx.below.frame may
theorem Xzy {f:Func}{s:ChangeSpec}{fresh handsOn:Bool}{args:Array Value}{ds gs:List (DataW H)}{before:List MemPlace}{tb:TypeId}(hl:laidOutB P=true)(hts:f.params.toList.all (readB P)=true)
  (hrt:f.resultTypes=#[tb]) (hb:P.underlying tb=some .bool) (hv:s.vars=[]) (hs:s.fn H ds={ results:=[.lit (.bool true)],args:=ds })
  (hW:DataW.Whole enc P f.params.toList s.vars false W args.toList ds gs before) (z:Fp W W'):s.post enc P f false fresh handsOn false W args (.bool true) W':=by
 have r:=hW;obtain⟨p,q,hA,O,rfl,hfz,hnd⟩:=hW;rw[hv]at O;obtain⟨rfl,rfl⟩:=trodVars_none O;have J:∀x∈p,x.block<W.heap.size:=λx z=>by have:=r.lt x (by simp [z]);simpa using this
 have e:s.fn H (ds++[])={ results:=[.lit (.bool true)],args:=ds }:=by rw[List.append_nil,hs]
 refine⟨ds,[],p++[],[],p,[],r,?_,?_,?_,z.kept _,λh=>by cases h⟩
 ·rw[e,hrt];exact trodAll_mk1 (shut_bool hb true)
 ·rw[e];exact XF hl z hts hA J
 ·rw[e,hv];rfl
theorem UL {n:Int}(h:(Lit.int .i64 n).wf=true):Fx n:=by
 have:IntKind.i64.min<=n/\n<=IntKind.i64.max:=by simpa [Lit.wf]using h
 simpa [Fx,IntKind.min,IntKind.max,IntKind.signed,IntKind.bits]using this
inductive Kd where
 | s
 | b
 | i (k:IntKind)
def kdOf (P:Program)(t:TypeId):Option Kd:=match P.underlying t with
 | some .string=>some .s
 | some .bool=>some .b
 | some (.int k)=>some (.i k)
 | _=>none
def US (P:Program):List Field->Nat->Option (List Kd)
 | [],_=>some []
 | f :: r,o=>if f.offset == o && P.cellsOf f.type == 1 then(match kdOf P f.type,US P r (o+1)with
  | some k,some ks=>some (k :: ks)
  | _,_=>none)else none
def Ydq (P:Program)(t:TypeId):Option (List Kd):=match P.underlying t with
 | some (.struct fs)=>US P fs.toList 0
 | _=>none
def RR : List Kd->List Value->Prop
 | [],[]=>True
 | .s :: r,v :: c=>(∃x:Fh,v=S x/\x.length<=maxLen)/\RR r c
 | .b :: r,v :: c=>(∃x:Bool,v=.bool x)/\RR r c
 | .i k :: r,v :: c=>(∃x:Int,v=.int k x/\(Lit.int k x).wf=true)/\RR r c
 | _,_=>False
end
variable {H:Type}{enc:TypeId×Value->H}
theorem Xh7 {a:Assume}{C:Checked}{os:Os}{f:FuncId}{fn:Func}{s:ChangeSpec}{conds:List PathCond}{apart fresh handsOn again:Bool}{X:World->Array Value->Prop}
  (hX:∀(w w':World) (args:Array Value),w.heap=w'.heap->X w args->X w' args)
  (own:ownKnob C.prog.godebug=none) (started:os.Started) (noInit:C.prog.inits.idxOf? f=none) (hfn:C.prog.funcs[f]?=some fn)
  (witness:∃(w:World) (tape:Tape) (i:Input),w.os=os/\(w.forCall tape i).Shaped C.prog/\i.vars=[]/\Input.okWide C.prog (w.forCall tape i) .any w.heap.size f i/\
   ((s.pre enc C.prog fn conds apart (w.forCall tape i).memory i.args/\X (w.forCall tape i).memory i.args)/\sizedMet enc C.prog fn (OpenSpec.ofChange s) apart (w.forCall tape i).memory i.args)/\a.holds C.prog (lone (Frame.enter C.prog f i.args .normal) [] (w.forCall tape i)))
  (contract:∀(W:World) (base:Nat) (args:Array Value) (ds gs:List (DataW H)) (r:List MemPlace),
   (∀(j:Nat) t v,fn.params[j]?=some t->args[j]?=some v->Value.okWide C.prog W .any base t v)->
   DataW.Whole enc C.prog fn.params.toList s.vars apart W args.toList ds gs r->
   (DataW.weightsEach C.prog (fn.params.toList++s.plain.varTypes C.prog) (ds++gs)).all (·<=reachBytes)=true->X W args->W.ShapedOpen C.prog->
   Calls C.prog f args W λe W'=>∃v,e=.returned v/\s.post enc C.prog fn apart fresh handsOn again W args v W') :
  ReturnsInHanded a C os f .any (λw args=>(s.pre enc C.prog fn conds apart w args/\X w args)/\sizedMet enc C.prog fn (OpenSpec.ofChange s) apart w args) (s.post enc C.prog fn apart fresh handsOn again):=by
 refine returnsInHanded_of_calls own started noInit witness ?_;intro w tape i _ ha _ hf z _;obtain⟨_,_,_,hc,O,_,_,_,_,J⟩:=hf;have e:hc=fn:=Al.inj (O.symm.trans hfn);subst e;obtain⟨⟨⟨ds,gs,r,hw,_⟩,hx⟩,hz⟩:=z;have Y:=DataW.Whole.of_heap (w':=w.forCall tape i) (by rfl) hw;refine(contract (w.forCall tape i) w.heap.size i.args ds gs r J Y (hz.weights hw) (hX _ _ _ (by rfl) hx) ha).mono λe W' ⟨v,he,hp⟩=>?_;subst he;exact ChangeSpec.post_blind hp
theorem Xlo {P:Program}{W:World}{base:Nat}{r:Reach}{b0:Nat}{t:TypeId}{v:Value}{d:DataW H}{ps:List MemPlace}{sp:Nat->Bool}{hd:Bool}(ht:P.underlying t=some .string)(hval:Value.okWide P W r b0 t v)(h:DataW.Trod enc P W base sp hd t v d ps) :
  ∃s:Fh,v=S s/\d=.lit (.string s):=by
 obtain⟨s,rfl⟩:=okWide_string ht hval;obtain⟨n,h⟩:=h;obtain⟨z,h1,h2,_⟩:=DataW.trod_string ht h;have e:s=z:=by simpa [Value.cells]using h1
 subst e;refine⟨s.data.toList,rfl,?_⟩;have:=congrArg Prod.fst h2;simpa using this
theorem Xlp {P:Program}{ts:List TypeId}{ds:List (DataW H)}(h:(DataW.weightsEach P ts ds).all (·<=reachBytes)=true){j:Nat}{t:TypeId}{s:Fh}(ht:ts[j]?=some t)(hd:ds[j]?=some (.lit (.string s))):s.length<=140737488355328:=by
 have h1:=sized_string h ht hd;have h2:=reachBytes_lt;omega
section
variable {H:Type}{enc:TypeId×Value->H}{P:Program}{W W':World}{base:Nat}
theorem Xpa {α:Type}{Q:DataW H->α->Prop}{cenc:α->List Value}{good:α->Prop}{r:Reach}{b0:Nat}{t e sz:Nat}{v:Value}{d:DataW H}{ps:List MemPlace}{sp:Nat->Bool}{hd:Bool}(ht:P.underlying t=some (.slice e))(hc:P.cellsOf e=sz)
  (hdec:∀(n:Nat) (cs:List Value) (y:DataW H×List MemPlace),DataW.trod enc P W base sp hd n e cs=some y->cs.length=sz->∃x,cs=cenc x/\good x/\Q y.1 x)
  (hval:Value.okWide P W r b0 t v) (h:DataW.Trod enc P W base sp hd t v d ps):∃l:List α,Fs cenc sz W v l/\(∀x∈l,good x)/\l.length<=maxLen/\(l.length=0\/∃el sp',d=.slice el sp'/\el.length=l.length/\∀(i:Nat) (x:α),l[i]?=some x->∃y,el[i]?=some y/\Q y x):=by
 obtain⟨oa,len,cap,rfl⟩:=okWide_slice ht hval;obtain⟨fuel,h⟩:=h;rcases Deep.open_slice ht h with⟨h1,_⟩|⟨a,len',cap',m,n,D,Pl,h1,_,hlc,hcm,hm,hdx,hel⟩
 ·have J:[Value.slice oa len cap]=[.slice none 0 0]:=by simpa [Value.cells]using h1
  simp only [Ck.injEq,and_true]at J;rw[J];exact⟨[],Fs.nil,λx hx=>(by cases hx),Ab _,.inl rfl⟩
 ·have J:[Value.slice oa len cap]=[.slice (some a) len' cap']:=by simpa [Value.cells]using h1
  simp only [Ck.injEq,Value.slice.injEq,and_true]at J;obtain⟨rfl,rfl,rfl⟩:=J;have hh:a.spot=none:=by
   simp only [Value.okWide,ht,Cell.okWide,Cell.ok]at hval;exact hval.2.2.2.1
  obtain⟨b,o,spot⟩:=a;simp only at hh;subst hh;have hlm:len<=m:=by rw[hm];split<;>omega
  obtain⟨X,hX⟩:=Deep.choose_lt (α:=Option α) (n:=len) (p:=λi ox=>∃x,ox=some x/\W.cells? base ((⟨b,o,none⟩:Addr).add (i*P.cellsOf e)) (P.cellsOf e)=some (cenc x)/\good x/\Q (D i) x) (λi hi=>by
   obtain⟨cs',h2,h3⟩:=hel i Fb;obtain⟨_,O,_⟩:=World.cells?_some h2;obtain⟨x,rfl,hg⟩:=hdec n cs' _ h3 (by rw[O,hc]);exact⟨some x,x,rfl,h2,hg⟩)
  have hx:∀i,i<len->∃x,X i=some x/\W.cells? base ((⟨b,o,none⟩:Addr).add (i*P.cellsOf e)) (P.cellsOf e)=some (cenc x)/\good x/\Q (D i) x:=hX;have hp:∀k,k<=len->∃l:List α,l.length=k/\∀i,i<k->∃x,l[i]?=some x/\X i=some x:=by
   intro k
   induction k with
   | zero=>intro _;exact⟨[],rfl,λi hi=>absurd hi (Bg _)⟩
   | succ k ih=>
    intro hk;obtain⟨l,hl,hf⟩:=ih Fb;obtain⟨x,Y,_⟩:=hx k Fb;refine⟨l++[x],by simp [hl],λi hi=>?_⟩
    by_cases hik:i<k
    ·obtain⟨y,h2,h3⟩:=hf i hik;exact⟨y,by rw[Bu Fb];exact h2,h3⟩
    ·have:i=k:=by omega
     subst this;exact⟨x,by rw[<-hl];simp,Y⟩
  obtain⟨l,hl,hf⟩:=hp len (Aa _);refine⟨l,⟨.inr (.inl ⟨b,o,cap,by rw[Aw,hl],by rw[Aw,hl];exact hlc⟩),λi cs hi=>?_⟩,λx hw=>?_,by omega,.inr ⟨_,_,(Prod.mk.inj hdx).1,by simp [hl],λi x hi=>?_⟩⟩
  ·rw[AG]at hi;obtain⟨x,Y,rfl⟩:=Bp.1 hi;have hq:=(Ap.1 Y).1;obtain⟨y,h2,h3⟩:=hf i Fb;obtain⟨z,h4,h5,_⟩:=hx i Fb;rw[h2]at Y;rw[h3]at h4
   cases Y;cases h4
   obtain⟨_,O,hr⟩:=World.cells?_some h5;refine⟨by rw[O,hc],λj u hj=>?_⟩;have hjl:=(Ap.1 hj).1;have:=hr j Fb;rw[hj,Deep.add_add]at this;have ha:(⟨b,o,none⟩:Addr).add (i*P.cellsOf e+j)=⟨b,o+i*sz+j,none⟩:=by
    unfold Addr.add;split
    ·rename_i e0;have h0:i*sz=0/\j=0:=by rw[hc]at e0;omega
     rw[h0.1,h0.2];rfl
    ·rw[hc];simp [BR]
   rw[ha]at this;exact this
  ·obtain⟨i,hi⟩:=Cd.1 hw;have hq:=(Ap.1 hi).1;obtain⟨y,h2,h3⟩:=hf i Fb;obtain⟨z,h4,_,h5⟩:=hx i Fb;rw[h2]at hi;rw[h3]at h4
   cases hi;cases h4
   exact h5.1
  ·have hq:=(Ap.1 hi).1;obtain⟨y,h2,h3⟩:=hf i Fb;obtain⟨z,h4,_,_,h5⟩:=hx i Fb;rw[h2]at hi;rw[h3]at h4
   cases hi;cases h4
   exact⟨D i,by rw[AG,Eg Fb];rfl,h5⟩
theorem Xga {e:TypeId} : ∀ {l:List (DataW H)} {d:DataW H},d∈l->∀n∈d.weights P e,n∈DataW.weightsAll P e l
 | [],_,h,_,_=>by cases h
 | a :: l,d,h,n,hn=>by
  rw[DataW.weightsAll,Ak];rcases Ah.1 h with rfl|h
  ·exact .inl hn
  ·exact .inr (Xga h n hn)
end
end Go.Vc
namespace Go.Proofs.YtiooodckiddpmaaGreatDoor
open Go.Vc Go.Sp Go.ChangeShapes Go.WideShapes Go.ChangeAt Go.RowKit
open Go.Deep (oneCellFields hone_of)
structure Ac where
 k:Int
 n:Int
 key:Fh
 to:Fh
 l:List Rw
 v:Value
@[reducible] def Ac.cs (a:Ac):List Value:=[I a.k,I a.n,S a.key,S a.to,a.v]
structure AcOk (W:World)(a:Ac):Prop where
 v:Fs Rw.cs 3 W a.v a.l
 hk:Fx a.k
 hn:Fx a.n
 key:a.key.length<=140737488355328
 to:a.to.length<=140737488355328
 len:a.l.length<=140737488355328
 row:∀r∈a.l,r.key.length<=140737488355328/\r.val.length<=140737488355328
theorem AcOk.ext {W W':World}{a:Ac}(h:AcOk W a)(x:Fp W W'):AcOk W' a:=⟨h.v.ext x,h.hk,h.hn,h.key,h.to,h.len,h.row⟩
section
variable {H:Type}{enc:TypeId×Value->H}{P:Program}{W:World}{base:Nat}
theorem Xzz {a:Addr}{v:Value}(h:W.cell? a=some v):a.spot=none:=by
 unfold World.cell? at h;split at h
 ·split at h
  ·cases h
  ·rename_i hs;simpa using hs
 ·cases h
variable {hd:Bool}{sp:Nat->Bool}
theorem Xpb {α:Type}{Q:DataW H->α->Prop}{cenc:α->List Value}{t e sz:Nat}{v:Value}{y:DataW H×List MemPlace}{n0:Nat}(ht:P.underlying t=some (.slice e))(hc:P.cellsOf e=sz)(hsz:0<sz)(hdec:∀(n:Nat) (cs:List Value) (y:DataW H×List MemPlace),DataW.trod enc P W base sp hd n e cs=some y->cs.length=sz->∃x,cs=cenc x/\Q y.1 x)(h:DataW.trod enc P W base sp hd n0 t [v]=some y):∃l:List α,Fs cenc sz W v l/\(l=[]\/∃el sp',y.1=.slice el sp'/\el.length=l.length/\∀(i:Nat) (x:α),l[i]?=some x->∃d,el[i]?=some d/\Q d x):=by
 rcases Deep.open_slice ht h with⟨h1,_⟩|⟨a,len,cap,m,n,D,Pl,h1,_,hlc,hcm,hm,hdx,hel⟩
 ·simp only [Ck.injEq,and_true]at h1;rw[h1];exact⟨[],Fs.nil,.inl rfl⟩
 ·simp only [Ck.injEq,and_true]at h1;subst h1;have hlm:len<=m:=by rw[hm];split<;>omega
  by_cases hl0:len=0
  ·subst hl0;exact⟨[],⟨.inr (.inr ⟨rfl,_,_,rfl⟩),λi cs hi=>by simp at hi⟩,.inl rfl⟩
  have O:a.spot=none:=by
   obtain⟨cs',h2,h3⟩:=hel 0 Fb;obtain⟨_,r,hf⟩:=World.cells?_some h2;have h4:=hf 0 Fb;have h5:cs'[0]?=some cs'[0]:=Au Fb;rw[h5]at h4;have h6:(a.add (0*P.cellsOf e)).add 0=a:=by simp [Addr.add]
   rw[h6]at h4;exact Xzz h4
  obtain⟨b,o,spot⟩:=a;simp only at O;subst O;obtain⟨X,hX⟩:=Deep.choose_lt (α:=Option α) (n:=len) (p:=λi ox=>∃x,ox=some x/\W.cells? base ((⟨b,o,none⟩:Addr).add (i*P.cellsOf e)) (P.cellsOf e)=some (cenc x)/\Q (D i) x) (λi hi=>by
   obtain⟨cs',h2,h3⟩:=hel i Fb;obtain⟨_,r,_⟩:=World.cells?_some h2;obtain⟨x,rfl,hg⟩:=hdec n cs' _ h3 (by rw[r,hc]);exact⟨some x,x,rfl,h2,hg⟩)
  have hx:∀i,i<len->∃x,X i=some x/\W.cells? base ((⟨b,o,none⟩:Addr).add (i*P.cellsOf e)) (P.cellsOf e)=some (cenc x)/\Q (D i) x:=hX;have hh:∀k,k<=len->∃l:List α,l.length=k/\∀i,i<k->∃x,l[i]?=some x/\X i=some x:=by
   intro k
   induction k with
   | zero=>intro _;exact⟨[],rfl,λi hi=>absurd hi (Bg _)⟩
   | succ k ih=>
    intro hk;obtain⟨l,hl,Y⟩:=ih Fb;obtain⟨x,J,_⟩:=hx k Fb;refine⟨l++[x],by simp [hl],λi hi=>?_⟩
    by_cases hik:i<k
    ·obtain⟨y,h2,h3⟩:=Y i hik;exact⟨y,by rw[Bu Fb];exact h2,h3⟩
    ·have:i=k:=by omega
     subst this;exact⟨x,by rw[<-hl];simp,J⟩
  obtain⟨l,hl,Y⟩:=hh len (Aa _);refine⟨l,⟨.inr (.inl ⟨b,o,cap,by rw[Aw,hl],by rw[Aw,hl];exact hlc⟩),λi cs hi=>?_⟩,.inr ⟨_,_,congrArg Prod.fst hdx,by simp [hl],λi x hi=>?_⟩⟩
  ·rw[AG]at hi;obtain⟨x,J,rfl⟩:=Bp.1 hi;have hp:=(Ap.1 J).1;obtain⟨y,h2,h3⟩:=Y i Fb;obtain⟨z,h4,h5,_⟩:=hx i Fb;rw[h2]at J;rw[h3]at h4
   cases J;cases h4
   obtain⟨_,r,hf⟩:=World.cells?_some h5;refine⟨by rw[r,hc],λj u hj=>?_⟩;have hjl:=(Ap.1 hj).1;have:=hf j Fb;rw[hj,Deep.add_add]at this;have ha:(⟨b,o,none⟩:Addr).add (i*P.cellsOf e+j)=⟨b,o+i*sz+j,none⟩:=by
    unfold Addr.add;split
    ·rename_i e0;have h0:i*sz=0/\j=0:=by rw[hc]at e0;omega
     rw[h0.1,h0.2];rfl
    ·rw[hc];simp [BR]
   rw[ha]at this;exact this
  ·have hp:=(Ap.1 hi).1;obtain⟨y,h2,h3⟩:=Y i Fb;obtain⟨z,h4,_,h5⟩:=hx i Fb;rw[h2]at hi;rw[h3]at h4
   cases hi;cases h4
   exact⟨D i,by rw[AG,Eg Fb];rfl,h5⟩
variable {f0 f1 f2:Field}{t:TypeId}{x:DataW H×List MemPlace}
theorem Xpc {f3 f4:Field}{fuel:Nat}{cs:List Value}(ht:P.underlying t=some (.struct #[f0,f1,f2,f3,f4]))(h:DataW.trod enc P W base sp hd fuel t cs=some x):
  ∃y0 y1 y2 y3 y4 n,x.1=.agg [y0.1,y1.1,y2.1,y3.1,y4.1]/\cs.length=P.cellsOf t/\DataW.trod enc P W base sp hd n f0.type ((cs.drop f0.offset).take (P.cellsOf f0.type))=some y0/\
   DataW.trod enc P W base sp hd n f1.type ((cs.drop f1.offset).take (P.cellsOf f1.type))=some y1/\DataW.trod enc P W base sp hd n f2.type ((cs.drop f2.offset).take (P.cellsOf f2.type))=some y2/\
   DataW.trod enc P W base sp hd n f3.type ((cs.drop f3.offset).take (P.cellsOf f3.type))=some y3/\DataW.trod enc P W base sp hd n f4.type ((cs.drop f4.offset).take (P.cellsOf f4.type))=some y4:=by
 obtain⟨xs,n,_,rfl,J,z,r⟩:=DataW.trod_struct ht h
 match xs,z with
 | [y0,y1,y2,y3,y4],_=>exact⟨y0,y1,y2,y3,y4,n,by simp,J,by simpa using r 0 f0 rfl,by simpa using r 1 f1 rfl,by simpa using r 2 f2 rfl,by simpa using r 3 f3 rfl,by simpa using r 4 f4 rfl⟩
theorem Xpd {fuel:Nat}{cs:List Value}(ht:P.underlying t=some (.struct #[f0,f1,f2]))(h:DataW.trod enc P W base sp hd fuel t cs=some x):
  ∃y0 y1 y2 n,x.1=.agg [y0.1,y1.1,y2.1]/\cs.length=P.cellsOf t/\DataW.trod enc P W base sp hd n f0.type ((cs.drop f0.offset).take (P.cellsOf f0.type))=some y0/\
   DataW.trod enc P W base sp hd n f1.type ((cs.drop f1.offset).take (P.cellsOf f1.type))=some y1/\DataW.trod enc P W base sp hd n f2.type ((cs.drop f2.offset).take (P.cellsOf f2.type))=some y2:=by
 obtain⟨xs,n,_,rfl,J,r,z⟩:=DataW.trod_struct ht h
 match xs,r with
 | [y0,y1,y2],_=>exact⟨y0,y1,y2,n,by simp,J,by simpa using z 0 f0 rfl,by simpa using z 1 f1 rfl,by simpa using z 2 f2 rfl⟩
theorem YV {e:TypeId}{el sp':List (DataW H)}(ht:P.underlying t=some (.slice e))(hb:1<=P.bytesOf e)(h:∀x∈DataW.weights P t (.slice el sp'),x<=reachBytes):el.length<=reachBytes/\∀d∈el,∀x∈DataW.weights P e d,x<=reachBytes:=by
 rw[DataW.weights,ht]at h;simp only [Ah,Ak]at h;have h1:=h _ (.inl rfl);have h2:el.length*1<=(el.length+sp'.length)*P.bytesOf e:=Nat.mul_le_mul Fb hb;exact⟨by omega,λd hd x r=>h x (.inr (.inl (Xga hd x r)))⟩
theorem Ydf {e:TypeId}(he:P.underlying e=some (.struct #[f0,f1,f2]))(hone:oneCellFields P #[f0,f1,f2]=true)(h0:P.underlying f0.type=some .string)(h1:P.underlying f1.type=some .string)(h2:P.underlying f2.type=some .bool):
  ∀(n:Nat) (cs:List Value) (y:DataW H×List MemPlace),DataW.trod enc P W base sp hd n e cs=some y->cs.length=3->∃x:Rw,cs=x.cs/\((∀z∈y.1.weights P e,z<=reachBytes)->x.key.length<=140737488355328/\x.val.length<=140737488355328):=λn cs y h hl=>by
 obtain⟨y0,y1,y2,m,hy,_,O,t1,t2⟩:=Xpd he h;obtain⟨o0,k0⟩:=hone_of hone 0 f0 rfl;obtain⟨o1,k1⟩:=hone_of hone 1 f1 rfl;obtain⟨o2,k2⟩:=hone_of hone 2 f2 rfl
 match cs,hl with
 | [c0,c1,c2],_=>
  rw[o0,k0]at O;rw[o1,k1]at t1;rw[o2,k2]at t2;simp only [AU,AL]at O t1 t2;obtain⟨J,e0,Y,_⟩:=DataW.trod_string h0 O;obtain⟨s1,e1,ha,_⟩:=DataW.trod_string h1 t1;obtain⟨b,e2,_⟩:=DataW.trod_bool h2 t2;simp only [Ck.injEq,and_true]at e0 e1 e2;subst e0;subst e1;subst e2;have hrb:reachBytes=140737488351232:=rfl;refine⟨⟨J.data.toList,s1.data.toList,b⟩,rfl,λhw=>?_⟩;have r:∀(j:Nat) (u:TypeId) (d:DataW H),[f0.type,f1.type,f2.type][j]?=some u->[y0.1,y1.1,y2.1][j]?=some d->∀x∈d.weights P u,x<=reachBytes:=λj u d hj hc x hx=>by
   refine hw x ?_;rw[hy,DataW.weights,he];exact DataW.weights_mem_each hj hc x hx
  have b0:=r 0 _ _ rfl rfl J.data.toList.length (by rw[Y,DataW.weights];simp);have b1:=r 1 _ _ rfl rfl s1.data.toList.length (by rw[ha,DataW.weights];simp);exact⟨by show J.data.toList.length<=_;omega,by show s1.data.toList.length<=_;omega⟩
section
variable {e u:TypeId}{f0 f1 f2 f3 f4 g0 g1 g2:Field}{sp:Nat->Bool}{hd:Bool}(he:P.underlying e=some (.struct #[f0,f1,f2,f3,f4]))(hone:oneCellFields P #[f0,f1,f2,f3,f4]=true)(h0:P.underlying f0.type=some (.int .i64))(h1:P.underlying f1.type=some (.int .i64))(h2:P.underlying f2.type=some .string)(h3:P.underlying f3.type=some .string)
 (h4:P.underlying f4.type=some (.slice u)) (hu:P.underlying u=some (.struct #[g0,g1,g2])) (hone2:oneCellFields P #[g0,g1,g2]=true) (hcu:P.cellsOf u=3) (hbu:1<=P.bytesOf u) (k0:P.underlying g0.type=some .string) (k1:P.underlying g1.type=some .string) (k2:P.underlying g2.type=some .bool)
include he hone h0 h1 h2 h3 h4 hu hone2 hcu hbu k0 k1 k2
theorem Ydg : ∀(n:Nat) (cs:List Value) (y:DataW H×List MemPlace),DataW.trod enc P W base sp hd n e cs=some y->cs.length=5->∃x:Ac,cs=x.cs/\((∀z∈y.1.weights P e,z<=reachBytes)->AcOk W x):=λn cs y h hl=>by
 obtain⟨y0,y1,y2,y3,y4,m,hy,_,Y,t1,t2,t3,t4⟩:=Xpc he h;obtain⟨o0,q0⟩:=hone_of hone 0 f0 rfl;obtain⟨o1,q1⟩:=hone_of hone 1 f1 rfl;obtain⟨o2,q2⟩:=hone_of hone 2 f2 rfl;obtain⟨o3,q3⟩:=hone_of hone 3 f3 rfl;obtain⟨o4,q4⟩:=hone_of hone 4 f4 rfl
 match cs,hl with
 | [c0,c1,c2,c3,c4],_=>
  rw[o0,q0]at Y;rw[o1,q1]at t1;rw[o2,q2]at t2;rw[o3,q3]at t3;rw[o4,q4]at t4;simp only [AU,AL]at Y t1 t2 t3 t4;obtain⟨a,e0,_,w0⟩:=DataW.trod_int h0 Y;obtain⟨b,e1,_,w1⟩:=DataW.trod_int h1 t1;obtain⟨s2,e2,hf,_⟩:=DataW.trod_string h2 t2;obtain⟨s3,e3,hg,_⟩:=DataW.trod_string h3 t3;simp only [Ck.injEq,and_true]at e0 e1 e2 e3;subst e0;subst e1;subst e2;subst e3;have hrb:reachBytes=140737488351232:=rfl;obtain⟨l,hl,hb⟩:=Xpb (Q:=λd (x:Rw)=>(∀z∈d.weights P u,z<=reachBytes)->x.key.length<=140737488355328/\x.val.length<=140737488355328) (cenc:=Rw.cs) h4 hcu Fj (Ydf hu hone2 k0 k1 k2) t4;refine⟨⟨a,b,s2.data.toList,s3.data.toList,l,c4⟩,rfl,λhw=>?_⟩;have J:∀(j:Nat) (u:TypeId) (d:DataW H),[f0.type,f1.type,f2.type,f3.type,f4.type][j]?=some u->[y0.1,y1.1,y2.1,y3.1,y4.1][j]?=some d->∀x∈d.weights P u,x<=reachBytes:=λj u d hj hc x hx=>by
   refine hw x ?_;rw[hy,DataW.weights,he];exact DataW.weights_mem_each hj hc x hx
  have b2:=J 2 _ _ rfl rfl s2.data.toList.length (by rw[hf,DataW.weights];simp);have b3:=J 3 _ _ rfl rfl s3.data.toList.length (by rw[hg,DataW.weights];simp);have b4:l.length<=140737488355328/\∀r∈l,r.key.length<=140737488355328/\r.val.length<=140737488355328:=by
   rcases hb with rfl|⟨el,sp',e4,hel,hq⟩
   ·exact⟨by simp,λp hp=>by cases hp⟩
   ·obtain⟨z1,z2⟩:=YV h4 hbu (λx hx=>J 4 _ _ rfl rfl x (by rw[e4];exact hx));refine⟨by omega,λr hr=>?_⟩;obtain⟨i,hi⟩:=Cd.1 hr;obtain⟨d,ha,O⟩:=hq i r hi;exact O (z2 d (Ag ha))
  exact⟨hl,UL w0,UL w1,by show s2.data.toList.length<=_;omega,by show s3.data.toList.length<=_;omega,b4.1,b4.2⟩
theorem Xuk {r:Reach}{b0:Nat}{t:TypeId}{v:Value}{d:DataW H}{ps:List MemPlace}{ts:List TypeId}{ds:List (DataW H)}{j:Nat}(ht:P.underlying t=some (.slice e))(hce:P.cellsOf e=5)(hbe:1<=P.bytesOf e)
  (hval:Value.okWide P W r b0 t v) (h:DataW.Trod enc P W base sp hd t v d ps) (hz:(DataW.weightsEach P ts ds).all (·<=reachBytes)=true) (hj:ts[j]?=some t) (hdj:ds[j]?=some d) :
  ∃l:List Ac,Fs Ac.cs 5 W v l/\l.length<=140737488355328/\∀a∈l,AcOk W a:=by
 obtain⟨l,hl,_,_,hb⟩:=Xpa (Q:=λ(d:DataW H) (x:Ac)=>(∀z∈d.weights P e,z<=reachBytes)->AcOk W x) (good:=λ_=>True) (cenc:=Ac.cs) ht hce (λn cs y h9 J=>by
  obtain⟨x,q1,q2⟩:=Ydg he hone h0 h1 h2 h3 h4 hu hone2 hcu hbu k0 k1 k2 n cs y h9 J;exact⟨x,q1,trivial,q2⟩) hval h
 have hw:∀x∈d.weights P t,x<=reachBytes:=λx hx=>by have:=AO.1 hz _ (DataW.weights_mem_each hj hdj x hx);simpa using this
 have hrb:reachBytes=140737488351232:=rfl;refine⟨l,hl,?_⟩;rcases hb with hb|⟨el,sp',e4,hel,hq⟩
 ·have:=List.eq_nil_of_length_eq_zero hb;subst this;exact⟨by simp,λp hp=>by cases hp⟩
 ·obtain⟨z1,z2⟩:=YV ht hbe (λx hx=>hw x (by rw[show d=_ from e4];exact hx));refine⟨by omega,λa ha=>?_⟩;obtain⟨i,hi⟩:=Cd.1 ha;obtain⟨d',Y,O⟩:=hq i a hi;exact O (z2 d' (Ag Y))
end
end
end Go.Proofs.YtiooodckiddpmaaGreatDoor
namespace Go.Proofs.YtiooodckiddpmaaGreatDoor
open Go.Vc Go.Sp
attribute [local irreducible] W XW Dw G9
theorem Wj (c d:Rw):Lm c.cs d.cs=decide (c=d):=by
 obtain⟨k,v,b⟩:=c;obtain⟨r,v',b'⟩:=d;simp [Lm,Rw.cs]
 by_cases h:k=r<;>by_cases h2:v=v'<;>by_cases h3:b=b'<;>simp [h,h2,h3]
def Hu (r:Rw):Nat:=1+r.key.length+r.val.length
def H4 (a:Ac):Nat:=a.key.length+a.to.length+(a.l.map Hu).sum
def Mj (l:List Ac):Nat:=((l.take 60).map H4).sum
theorem PN {α:Type}(f:α->Nat){l:List α}{k:Nat}{x:α}(h:l[k]?=some x):((l.take (k+1)).map f).sum=((l.take k).map f).sum+f x:=by
 rw[GQ h,A6,B0];simp
theorem O5 {α:Type}(f:α->Nat)(l:List α){i j:Nat}(h:i<=j):((l.take i).map f).sum<=((l.take j).map f).sum:=by
 have e:l.take i=(l.take j).take i:=by rw[List.take_take,Nat.min_eq_left h]
 have:=congrArg (λm=>(m.map f).sum) (AS i (l.take j));simp only [A6,B0]at this;rw[e];omega
theorem Yb0 {l:List Ac}{i k:Nat}{a:Ac}(hi:i<60)(ha:l[i]?=some a)(hk:k<=a.l.length):((l.take i).map H4).sum+a.key.length+a.to.length+((a.l.take k).map Hu).sum<=Mj l:=by
 have h1:=O5 H4 l (show i+1<=60 by omega);rw[PN H4 ha]at h1;have h2:=O5 Hu a.l hk;rw[AV]at h2;unfold Mj;have h3:H4 a=a.key.length+a.to.length+(a.l.map Hu).sum:=rfl;omega
def LK (M:List Rw):Prop:=M.Pairwise λa b=>F0 a.key b.key=true
section
variable {M:List Rw}{c:Cell}{j:Nat}{d:Rw}
theorem Vt (hM:LK M)(c:Cell):LK (Ip M c):=by
 unfold Ip LK;refine Bj.2 ⟨Cu _ hM,Bj.2 ⟨?_,Cu _ hM,λx z y r=>?_⟩,λx z y r=>?_⟩
 ·split
  ·exact Bq
  ·exact List.pairwise_singleton _ _
 ·split at z
  ·cases z
  ·rw[Af.1 z];exact(Av.1 r).2
 ·have J:=(Av.1 z).2;rcases Ak.1 r with r|r
  ·split at r
   ·cases r
   ·rw[Af.1 r];exact J
  ·exact J9 _ _ _ J (Av.1 r).2
theorem X3b (hM:LK M)(c:Cell):(Ip M c).length<=M.length+1:=by
 have h1:∀M:List Rw,(M.filter λr=>F0 r.key c.key).length+(M.filter λr=>F0 c.key r.key).length<=M.length:=by
  intro M
  induction M with
  | nil=>exact Aa _
  | cons r q ih=>
   simp only [BF,AA]
   cases h:F0 r.key c.key with
   | true=>rw[KR h];simp;omega
   | false=>cases h2:F0 c.key r.key<;>simp<;>omega
 have:=h1 M;unfold Ip;simp only [Ad];split<;>simp<;>omega
def Ml (M:List Rw)(cs:List Cell):List Rw:=cs.foldl Ip M
theorem X82 : ∀(cs:List Cell) {M:List Rw},LK M->LK (Ml M cs)
 | [],_,h=>h
 | c :: r,_,h=>X82 r (Vt h c)
theorem VJ : ∀(cs:List Cell) {M:List Rw},LK M->(Ml M cs).length<=M.length+cs.length
 | [],_,h=>Aa _
 | c :: r,M,h=>by
  have h1:=VJ r (Vt h c);have h2:=X3b h c;show(Ml (Ip M c) r).length<=_;simp only [AA];omega
end
theorem X83 (l:List Ac)(v:Value)(w:World)(hv:Fs Ac.cs 5 w v l)(hl:l.length<=140737488355328)(hok:∀a∈l,AcOk w a) :
  FW 11 [v] w (B (decide (60000<Mj l))):=by
 refine cE Tryz.func11 λz=>F9 (G:=Nat×Nat) (λ(i,n)=>[(0,v),(3,I ↑n),(4,I ↑i)]) (λ(i,n) w'=>Fp w w'/\i<=l.length/\i<=60/\n=((l.take i).map H4).sum/\n<=60000+i*281474976710656) (λ(i,n)=>l.length-i) (0,0) ⟨z,Ab _,Ab _,rfl,Ab _⟩ ?_;rintro _ ⟨i,n⟩ w1 ⟨z,hi1,hi2,hn,hnb⟩;refine FL 34 5 (hv.ext z).sl ?_;refine ds1 10 (λc1=>?_) λc1=>?_
 ·refine Fk (λc2=>?_) λc2=>?_
  ·obtain⟨a,hk⟩:∃a,l[i]?=some a:=F8;have J:=hok a (Ag hk);have O:=J.v;have q1:=J.key;have q2:=J.to;have q3:=J.len;refine Gn 10001000000100000 λw2 x2=>?_;have z:=z.trans x2;refine FK 34 5 hv.sl (hv.lt hk) ?_;refine go ?_;refine dL rfl (λ_ hR=>(((hv.ext (z.trans hR)).row hk).at rfl)) (FK 34 5 hv.sl (hv.lt hk) ?_);refine go ?_;refine dL rfl (λ_ hR=>(((hv.ext (z.trans hR)).row hk).at rfl)) (F9 (G:=Nat×Nat) (λ(k,m)=>[(0,v),(3,I ↑m),(4,I ↑i),(5,I ↑k)]) (λ(k,m) w'=>Fp w w'/\k<=a.l.length/\m=n+a.key.length+a.to.length+((a.l.take k).map Hu).sum/\m<=60000+(i+1)*281474976710656) (λ(k,m)=>a.l.length-k) (0,n+a.key.length+a.to.length) ⟨z,Ab _,by simp,by omega⟩ ?_);rintro _ ⟨k,m⟩ w3 ⟨z,hk1,hm,hmb⟩;refine FK 34 5 hv.sl (hv.lt hk) ?_;refine go ?_;refine dl rfl (((hv.ext z).row hk).at rfl) (dv 48 3 (O.ext z).sl ?_);refine Fk (λc3=>?_) λc3=>?_
   ·obtain⟨r,hr⟩:∃r,a.l[k]?=some r:=F8;have q4:=J.row r (Ag hr);have hrs:=PN Hu hr;have hrw:Hu r=1+r.key.length+r.val.length:=rfl;have hge:=Yb0 (k:=k+1) Fb hk Fb;refine Gn 10001000100000010001000000 λw4 x4=>?_;have z:=z.trans x4;refine FK 34 5 hv.sl (hv.lt hk) ?_;refine go ?_;refine dL rfl (λ_ hR=>(((hv.ext (z.trans hR)).row hk).at rfl)) (FK 48 3 O.sl (O.lt hr) ?_);refine go ?_;refine dL rfl (λ_ hR=>(((O.ext (z.trans hR)).row hr).at rfl)) (FK 34 5 hv.sl (hv.lt hk) ?_);refine go ?_;refine dL rfl (λ_ hR=>(((hv.ext (z.trans hR)).row hk).at rfl)) (FK 48 3 O.sl (O.lt hr) ?_);refine go ?_;refine dL rfl (λ_ hR=>(((O.ext (z.trans hR)).row hr).at rfl)) ?_;refine Fk (λc4=>?_) λc4=>?_
    ·refine go ?_;refine⟨?_,z⟩;rw[decide_eq_true (show 60000<Mj l by omega)]
    refine go ?_;exact FJ (k+1,m+1+r.key.length+r.val.length) ⟨z,by omega,by omega,by omega⟩
   refine go ?_;have ha:k=a.l.length:=by omega
   subst ha;rw[AV]at hm;have hst:=PN H4 hk;have haw:H4 a=a.key.length+a.to.length+(a.l.map Hu).sum:=rfl;exact FJ (i+1,m) ⟨z,by omega,by omega,by omega,by omega⟩
  refine go ?_;have Y:i=60:=by omega
  subst Y;refine⟨?_,z⟩
  congr 2
  unfold Mj;rw[<-hn];exact decide_eq_decide.2 Fb
 refine go ?_;refine GL rfl (go ?_);have e:Mj l=n:=by unfold Mj;rw[hn,Ar (show l.length<=60 by omega),Ar (show l.length<=i by omega)]
 refine⟨?_,z⟩
 congr 2
 rw[e];exact decide_eq_decide.2 Fb
theorem Xc (l m:List Rw)(v u:Value)(w:World)(hv:Fs Rw.cs 3 w v l)(hu:Fs Rw.cs 3 w u m)(hl:l.length<=1000000000)(hm:m.length<=1000000000) :
  FW 20 [v,u] w (B (decide (l=m))):=by
 refine cE Tryz.func20 λr=>FL 48 3 (hv.ext r).sl ?_;refine FL 48 3 (hu.ext r).sl ?_;refine Fk (λJ=>?_) λJ=>?_
 ·refine go ?_;refine⟨?_,r⟩;rw[decide_eq_false (λe=>by rw[e]at J;exact absurd rfl J)]
 refine F9 (G:=Nat) (λk=>[(0,v),(1,u),(5,I ↑k)]) (λk w'=>Fp w w'/\k<=l.length/\l.length=m.length/\l.take k=m.take k) (λk=>l.length-k) 0 ⟨r,Ab _,by omega,rfl⟩ ?_;rintro _ k w1 ⟨r,hk1,hle,he⟩;refine FL 48 3 (hv.ext r).sl ?_;refine Fk (λY=>?_) λY=>?_
 ·obtain⟨c,hk⟩:∃c,l[k]?=some c:=F8;obtain⟨d,hk2⟩:∃d,m[k]?=some d:=F8;refine Gn 1010001000 λw2 O=>?_;have r:=r.trans O;refine FK 48 3 hv.sl (hv.lt hk) ?_;refine Gd rfl (λw' hR=>Fy Fe rfl rfl ((hv.ext (r.trans hR)).row hk)) (FK 48 3 hu.sl (hu.lt hk2) ?_);refine Gd rfl (λw' hR=>Fy Fe rfl rfl ((hu.ext (r.trans hR)).row hk2)) (dp (X9o (ts:=[9,9,4]) Fe rfl rfl ⟨by kernel_rfl,by kernel_rfl,by kernel_rfl,trivial⟩ ⟨by kernel_rfl,by kernel_rfl,by kernel_rfl,trivial⟩) ?_);refine FZ (λz=>?_) λz=>?_
  ·refine go ?_;refine⟨?_,r⟩;rw[Wj]at z;simp at z;rw[decide_eq_false (λe=>by rw[e,hk2]at hk;cases hk;exact z rfl)]
  refine go ?_;rw[Wj]at z;refine FJ (k+1) ⟨r,by omega,hle,?_⟩;rw[GQ hk,GQ hk2,he];simp at z;rw[z]
 refine go ?_;refine⟨?_,r⟩;rw[Ar Fb,Ar Fb]at he;rw[decide_eq_true he]
end Go.Proofs.YtiooodckiddpmaaGreatDoor
namespace Go.Proofs.YtiooodckiddpmaaGreatDoor.Em
open Go.Vc Go.Sp
attribute [local irreducible] W XW Dw G9
theorem HL : MapK Tryz.prog 120 9 123 S pO (λs=>s.length<=maxLen):=Nj Fe Fe SU
theorem Yb1 (w:World) :
  FW 262 [.slice none 0 0,I 0,I 0] w (.tuple #[]):=by
 refine cE Tryz.func262 λr=>F9 (G:=Unit) (λz=>[(0,.slice none 0 0),(1,I 0),(2,I 0),(6,I (0+1))]) (λz w'=>Fp w w'/\True) (λz=>0) () ⟨r,trivial⟩ ?_;rintro _ z w1 ⟨r,htr⟩;refine Fk (λJ=>?_) λJ=>?_
 ·exact absurd J Fj
 refine go ?_;refine HV (Hx rfl ?_);exact⟨rfl,r⟩
theorem X84 (w:World) :
  FW 272 [.int .u64 0] w (I 0):=by
 refine cE Tryz.func272 λO=>go ?_;refine dp (HW rfl rfl) ?_;refine Fk (λr=>?_) λr=>?_
 ·exact absurd r Fj
 refine go ?_;refine dp (HW rfl rfl) ?_;refine Fk (λJ=>?_) λJ=>?_
 ·exact absurd J Fj
 refine go ?_;refine dp (HW rfl rfl) ?_;refine Fk (λz=>?_) λz=>?_
 ·exact absurd z Fj
 refine go ?_;refine dp (N2 rfl Fe Fe) (dp (X09 (c:=0) Fe rfl rfl rfl) (dp (X0w rfl Fe Fe) (dp (GJ (a:=0) (b:=0) rfl rfl (by simp [Fx])) (go ?_))));exact⟨rfl,O⟩
theorem Yb2 (w:World) :
  FW 204 [.int .u64 0] w (I 0):=by
 refine cE Tryz.func204 λr=>go ?_;refine GL rfl (Gp (X84 _) λw1 z=>?_);have r:=r.trans z;refine go ?_;exact⟨rfl,r⟩
theorem Yb3 (w:World) :
  FW 203 [.slice none 0 0,I 0,I 0,I 0] w (.tuple #[]):=by
 refine cE Tryz.func203 λr=>F9 (G:=Unit) (λz=>[(0,.slice none 0 0),(1,I 0),(2,I 0)]) (λz w'=>Fp w w'/\True) (λz=>0) () ⟨r,trivial⟩ ?_;rintro _ z w1 ⟨r,htr⟩;refine go ?_;refine dp (IA rfl rfl) ?_;refine Fk (λJ=>?_) λJ=>?_
 ·refine Gp (Yb1 _) λw2 O=>?_;have r:=r.trans O;refine go ?_;refine Hx rfl ?_;exact⟨rfl,r⟩
 exact absurd J Fj
theorem X85 (w:World) :
  FW 132 [.slice none 0 0] w (.tuple #[]):=by
 refine cE Tryz.func132 λr=>FL 9 1 (Fs.nil (enc:=G8) (sz:=1) (w:=w)).sl ?_;refine go ?_;refine dp (JS (k:=.u64) rfl Fe Fe) (cP (Yb2 _) RX.all λw1 z=>?_);have r:=r.trans z;refine cP (Yb3 _) RX.all λw2 J=>?_;have r:=r.trans J;refine go ?_;refine HV (Hx rfl ?_);exact⟨rfl,r⟩
theorem X3c (b ly:Nat)(mv:Value)(J:Nat->World->Prop)(w:World)(hJ:∀k W,J k W->Fo W b [mv] 120/\HS W mv)(hE:∀k W W',J k W->Fp W W'->J k W')(hj:J 0 w) :
  Calls Tryz.prog 133 [.func (.yield ly) #[] #[],Fg b 0].toArray w (λe W'=>(∃v,e=.returned v)/\J 0 W'):=by
 refine VN Tryz.func133 rfl rfl rfl Fe ?_;have O:=Fp.refl w;obtain⟨hb,hv⟩:=hJ _ _ hj;refine N7 λK1 Z1=>Pj [.l,.x] rfl (dl rfl (hb.at rfl) (X1b Fe rfl rfl hv RX.all (λb1 w1 e1 x1 r=>?_)));have g1:=O.ge e1;have O:=O.trans x1;refine OG (Z1 _ _ _ (Xb ?_));refine X6f (G:=Unit) (λY=>[(0,.func (.yield ly) #[] #[]),(5,Fg b1 0)]) (λY w'=>Fp w w'/\PB w' b1/\True) (λY=>0) () ?_ ?_ ?_
 ·exact Mw
 ·exact⟨O,r,trivial⟩
 intro X2 g2 w2 z;revert z;revert g2;intro Y z;clear O r;obtain⟨O,r,htr⟩:=z;refine N7 λK2 Z2=>Pj [.x,.p] rfl (X6i rfl rfl r RX.all (dx rfl rfl (OG (Z2 _ _ _ (N7 λK3 Z3=>Ydx rfl (X6d ?_))))));dsimp only [Qo,O8];refine Xvx (Hx rfl ?_);exact⟨⟨_,rfl⟩,hE _ _ _ hj O⟩
theorem X86 (mv:Value)(w:World)(hv:HS w mv) :
  Gf 67 [mv] w λu w'=>∃b,u=Js 133 [Fg b 0]/\Fo w' b [mv] 120:=by
 refine cE Tryz.func67 λr=>go ?_;refine Gx rfl rfl (Xv1 hv) RX.all (λb1 w1 e1 J z=>?_);have g1:=r.ge e1;have r:=r.trans J;refine go ?_;refine dp (Pc rfl) (go ?_);exact⟨_,rfl,r,b1,rfl,z⟩
theorem Xpe (bk:Nat)(mv:Value)(w:World)(hk:Fo w bk [mv] 120)(hv:HS w mv) :
  Calls Tryz.prog 202 [.slice none 0 0,Js 133 [Fg bk 0]].toArray w (Pure w (.slice none 0 0)):=by
 refine VN Tryz.func202 rfl rfl rfl Fe ?_;have r:=Fp.refl w;refine N7 λK1 Z1=>Pj [.x,.p] rfl (Gx rfl rfl rfl RX.all (λb1 w1 e1 x1 z=>?_));have g1:=r.ge e1;have r:=r.trans x1;refine da ?_;refine OG (Z1 _ _ _ (N7 λK2 Z2=>N7 λK3 Z3=>Pj [.p] rfl (dm ?_)));refine OG (Z3 _ _ _ (Xb ?_));have O:(Fp w w1/\Fo w1 b1 [.slice none 0 0] 58/\Fo w1 bk [mv] 120/\HS w1 mv):=⟨r,z,hk.ext r,hv.ext r⟩;have hx3:=r.size;have hbk:=hk.lt;have hb1:=z.lt;refine X05 (gf:=133) (N:=0) (lb:=#[Fg bk 0]) (args:=λk=>[S []]) rfl Fe (λ_=>rfl) (λk W=>(Fp w W/\Fo W b1 [.slice none 0 0] 58/\Fo W bk [mv] 120/\HS W mv)) (λk E1 W=>False) O ?hX ?hL ?hAL ?hit ?assign ?body ?h
 case hX=>
  rintro k W W' ⟨h1,h2,h3,h4⟩ x;exact⟨h1.trans x,h2.ext x,h3.ext x,h4.ext x⟩
 case hL=>
  rintro k W l' o o' ⟨h1,h2,h3,h4⟩ hle hl ho;have:=r.size;exact⟨h1.own (Mod.putObj W l' o') (λi hi=>by have hc:i=l':=hi;omega),h2.put o' hl ho,h3.put o' hl ho,h4.imp id λ⟨b,e,hb⟩=>⟨b,e,hb.mod (Mod.putObj W l' o') (λe2=>by have e3:b=l':=e2;have h9:=hv.lt e;omega)⟩⟩
 case hAL=>exact λk E1 W l' o o' h=>h.elim
 case hit=>
  intro ly J Y hf hY W hj;exact X3c bk ly mv J W (λk W h=>⟨(Y k W h).2.2.1,(Y k W h).2.2.2⟩) hf hj
 case assign=>exact λk l W hk=>absurd hk (Bg k)
 case body=>exact λk l E1 W keep hk=>absurd hk (Bg k)
 case h=>
  intro D w8 hD hI ha;clear r z O;obtain⟨r,z,-,-⟩:=hI;refine Z2 _ _ _ (N7 λK4 Z4=>Pj [.l,.p] rfl (dl rfl (z.at rfl) (da ?_)));refine OG (Z4 _ _ _ (X9u ?_));refine Xvy ha (ro ?_);have hxs:=r.size;exact⟨rfl,r.own (Mod.putObj _ D _) (λi hi=>by have hc:i=D:=hi;omega)⟩
theorem Xul (bk:Nat)(mv:Value)(w:World)(hk:Fo w bk [mv] 120)(hv:HS w mv) :
  FW 131 [Js 133 [Fg bk 0]] w (.slice none 0 0):=by
 refine cE Tryz.func131 λr=>Gp (Xpe bk mv _ (hk.ext r) (hv.ext r)) λw1 z=>?_;have r:=r.trans z;refine go ?_;exact⟨rfl,r⟩
theorem Xz1 (bk:Nat)(mv:Value)(w:World)(hk:Fo w bk [mv] 120)(hv:HS w mv) :
  FW 66 [Js 133 [Fg bk 0]] w (.slice none 0 0):=by
 refine cE Tryz.func66 λr=>Gp (Xul bk mv _ (hk.ext r) (hv.ext r)) λw1 z=>?_;have r:=r.trans z;refine Gp (X85 _) λw2 J=>?_;have r:=r.trans J;refine go ?_;exact⟨rfl,r⟩
theorem Jz (bd mf:Nat)(room:Int)(w:World)(hd:Fo w bd [I room,.map (some mf),B false,I 0] 122)(hm:Gt w mf) :
  FW 28 [Fg bd 0] w (.slice none 0 0):=by
 refine cE Tryz.func28 λr=>go ?_;refine dp (GS Fe rfl rfl) ?_;refine Fk (λJ=>?_) λJ=>?_
 ·exact absurd J F5
 refine Ge (X86 (.map (some mf)) _ (hm.ext r).val) λu1 w1 Y z=>?_;have hsz1:=r.size;have r:=r.trans Y;obtain⟨bk,rfl,hk⟩:=z;refine cP (Xz1 bk _ _ hk (hm.ext r).val) RX.all λw2 O=>?_;have r:=r.trans O;refine go ?_;exact⟨rfl,r⟩
theorem X3d (s:Fh)(w:World) :
  FW 201 [.slice none 0 0,S s] w (I (-1)):=by
 refine cE Tryz.func201 λr=>FL 9 1 (Fs.nil (enc:=G8) (sz:=1) (w:=w)).sl ?_;refine F9 (G:=Unit) (λz=>[(0,.slice none 0 0),(1,S s),(7,I 0),(8,I 0)]) (λz w'=>Fp w w'/\True) (λz=>0) () ⟨r,trivial⟩ ?_;rintro _ z w1 ⟨r,htr⟩;refine Fk (λJ=>?_) λJ=>?_
 ·exact absurd J Fj
 refine go ?_;exact⟨rfl,r⟩
theorem Xq2 (s:Fh)(w:World) :
  FW 130 [.slice none 0 0,S s] w (B false):=by
 refine cE Tryz.func130 λr=>Gp (X3d s _) λw1 z=>?_;have r:=r.trans z;refine dp (HW rfl rfl) (go ?_);exact⟨rfl,r⟩
theorem KG (bd mf:Nat)(room:Int)(s:Fh)(w:World)(hd:Fo w bd [I room,.map (some mf),B false,I 0] 122)(hm:Gt w mf) :
  FW 189 [Fg bd 0,S s] w (B false):=by
 refine cE Tryz.func189 λr=>Gp (Jz bd mf room _ (hd.ext r) (hm.ext r)) λw1 z=>?_;have r:=r.trans z;refine Gp (Xq2 s _) λw2 J=>?_;have r:=r.trans J;refine go ?_;exact⟨rfl,r⟩
theorem Iz (bd mf:Nat)(room:Int)(l:List Fh)(v:Value)(w:World)(hd:Fo w bd [I room,.map (some mf),B false,I 0] 122)(hm:Gt w mf)(hv:Fs G8 1 w v l)(hl:l.length<=1000) :
  FW 178 [Fg bd 0,v] w (I 0):=by
 refine cE Tryz.func178 λr=>FL 9 1 hv.sl ?_;refine F9 (G:=Nat) (λk=>[(0,Fg bd 0),(8,v),(9,I ↑l.length),(10,I ↑k)]) (λk w'=>Fp w w'/\k<=l.length) (λk=>l.length-k) 0 ⟨r,Ab _⟩ ?_;rintro _ k w1 ⟨r,hk1⟩;refine Fk (λz=>?_) λz=>?_
 ·obtain⟨s,hk⟩:∃s,l[k]?=some s:=F8;refine FK 9 1 hv.sl (hv.lt hk) ?_;refine dl rfl (((hv.ext r).row hk).at0 rfl) (Gp (KG bd mf room s _ (hd.ext r) (hm.ext r)) λw2 J=>?_);have r:=r.trans J;refine go ?_;refine GD rfl (go ?_);refine FJ (k+1) ⟨r,by omega⟩
 refine go ?_;exact⟨rfl,r⟩
theorem Kx (bd mf:Nat)(room:Int)(s:Fh)(w:World)(hd:Fo w bd [I room,.map (some mf),B false,I 0] 122)(hm:Gt w mf)(hs:s.length<=maxLen) :
  FW 190 [Fg bd 0,S s] w (.tuple #[.slice none 0 0,I 7]):=by
 refine cE Tryz.func190 λO=>?_;have r:Vc.Xbf Tryz.prog 9 S pO w mf 0 (λ_=>none):=hm.at;refine go ?_;refine dp (GS Fe rfl rfl) ?_;refine ds1 8 (λz=>?_) λz=>?_
 ·exact absurd z F5
 refine go ?_;refine dq (Mq HL (kx:=s) (z0:=none) rfl rfl Fe r hs) (dp (GS Fe rfl rfl) ?_);refine Fk (λJ=>?_) λJ=>?_
 ·refine go ?_;exact⟨rfl,O⟩
 exact absurd rfl J
theorem Yb4 (bd mf:Nat)(room:Int)(s:Fh)(w:World)(hd:Fo w bd [I room,.map (some mf),B false,I 0] 122)(hm:Gt w mf)(hs:s.length<=maxLen) :
  FW 123 [Fg bd 0,S s] w (.tuple #[.slice none 0 0,I 7]):=by
 refine cE Tryz.func123 λr=>go ?_;refine dp (GS Fe rfl rfl) ?_;refine Fk (λz=>?_) λz=>?_
 ·exact absurd z F5
 refine Gp (Kx bd mf room s _ (hd.ext r) (hm.ext r) hs) λw1 O=>?_;have r:=r.trans O;refine Fk (λJ=>?_) λJ=>?_
 ·refine go ?_;exact⟨rfl,r⟩
 exact absurd J Fj
theorem HD (bl bd:Nat)(w:World)(hl:Fo w bl [Fg bd 0,S [115],I 0,.slice none 0 0,.slice none 0 0,B false] 147) :
  FW 177 [Fg bl 0] w (S [115,45,105,109,103]):=by
 refine cE Tryz.func177 λr=>go ?_;refine dp (Iu rfl rfl (by simp;done)) (go ?_);exact⟨rfl,r⟩
theorem GR (bl bd:Nat)(w:World)(hl:Fo w bl [Fg bd 0,S [115],I 0,.slice none 0 0,.slice none 0 0,B false] 147) :
  FW 84 [Fg bl 0] w (S [115,45,108,111,103]):=by
 refine cE Tryz.func84 λr=>go ?_;refine dp (Iu rfl rfl (by simp;done)) (go ?_);exact⟨rfl,r⟩
theorem X3e (bl bd mf:Nat)(room:Int)(w:World)(hl:Fo w bl [Fg bd 0,S [115],I 0,.slice none 0 0,.slice none 0 0,B false] 147)(hd:Fo w bd [I room,.map (some mf),B false,I 0] 122)(hm:Gt w mf) :
  FW 115 [Fg bl 0] w (I 0):=by
 refine cE Tryz.func115 λr=>Gn 10520201000 λw1 x1=>?_;have r:=r.trans x1;refine go ?_;refine dL rfl (λ_ hR=>((hl.ext (r.trans hR)).at rfl)) (go ?_);refine cP (HD bl bd _ (hl.ext r)) RX.ext λw2 O=>?_;have r:=r.trans O;refine dp (Iu rfl rfl (by simp;done)) (li (e:=9) (sz:=1) (zs:=[S []]) (pv:=[(0,_)]) (cs:=[_]) RX.ext (λb1 w3 e1 Y z=>?_));have g1:=r.ge e1;have r:=r.trans Y;refine cP (Iz bd mf room [[115,45,105,109,103]++[126]] _ _ (hd.ext r) (hm.ext r) (z.arr (enc:=G8) (sz:=1) rfl Ff rfl F5) F5) RX.all λw4 J=>?_;have r:=r.trans J;refine go ?_;exact⟨rfl,r⟩
theorem X87 (bl bd mf:Nat)(room:Int)(w:World)(hl:Fo w bl [Fg bd 0,S [115],I 0,.slice none 0 0,.slice none 0 0,B false] 147)(hd:Fo w bd [I room,.map (some mf),B false,I 0] 122)(hm:Gt w mf) :
  FW 116 [Fg bl 0] w (I 0):=by
 refine cE Tryz.func116 λr=>Gn 1000005201000 λw1 Y=>?_;have r:=r.trans Y;refine go ?_;refine dL rfl (λ_ hR=>((hl.ext (r.trans hR)).at rfl)) (go ?_);refine cP (HD bl bd _ (hl.ext r)) RX.ext λw2 J=>?_;have r:=r.trans J;refine cP (Yb4 bd mf room [115,45,105,109,103] _ (hd.ext r) (hm.ext r) Fj) RX.all λw3 O=>?_;have r:=r.trans O;refine Fk (λz=>?_) λz=>?_
 ·refine go ?_;exact⟨rfl,r⟩
 exact absurd rfl z
theorem Ydh (bl bd mf:Nat)(room:Int)(w:World)(hl:Fo w bl [Fg bd 0,S [115],I 0,.slice none 0 0,.slice none 0 0,B false] 147)(hd:Fo w bd [I room,.map (some mf),B false,I 0] 122)(hm:Gt w mf) :
  FW 117 [Fg bl 0] w (I 0):=by
 refine cE Tryz.func117 λr=>Gn 105201000 λw1 O=>?_;have r:=r.trans O;refine go ?_;refine dL rfl (λ_ hR=>((hl.ext (r.trans hR)).at rfl)) (go ?_);refine cP (GR bl bd _ (hl.ext r)) RX.ext λw2 z=>?_;have r:=r.trans z;refine cP (KG bd mf room [115,45,108,111,103] _ (hd.ext r) (hm.ext r)) RX.all λw3 J=>?_;have r:=r.trans J;refine go ?_;refine GD rfl (go ?_);exact⟨rfl,r⟩
theorem X3f (w:World) :
  FW 87 [.slice none 0 0] w (.slice none 0 0):=by
 refine cE Tryz.func87 λz=>go ?_;refine dp (PK (e:=5) (k:=1) Fe (Fs.nil (enc:=Fq) (sz:=1) (w:=w)).sl rfl rfl) ?_;refine FZ (λr=>?_) λr=>?_
 ·refine go ?_;exact⟨rfl,z⟩
 exact absurd r Fj
theorem UF (bl bd:Nat)(w:World)(hl:Fo w bl [Fg bd 0,S [115],I 0,.slice none 0 0,.slice none 0 0,B false] 147) :
  FW 60 [Fg bl 0] w (.tuple #[I 0,.slice none 0 0]):=by
 refine cE Tryz.func60 λr=>go ?_;refine dp (GS Fe rfl rfl) ?_;refine Fk (λz=>?_) λz=>?_
 ·exact absurd z F5
 refine Gn 100210001000 λw1 O=>?_;have r:=r.trans O;refine go ?_;refine dL rfl (λ_ hR=>((hl.ext (r.trans hR)).at rfl)) (go ?_);refine dL rfl (λ_ hR=>((hl.ext (r.trans hR)).at rfl)) (cP (X3f _) RX.ext λw2 J=>?_);have r:=r.trans J;refine go ?_;exact⟨rfl,r⟩
theorem H5 (bl bd:Nat)(w:World)(hl:Fo w bl [Fg bd 0,S [115],I 0,.slice none 0 0,.slice none 0 0,B false] 147) :
  FW 55 [Fg bl 0] w (I 0):=by
 refine cE Tryz.func55 λr=>go ?_;refine dp (GS Fe rfl rfl) ?_;refine Fk (λz=>?_) λz=>?_
 ·exact absurd z F5
 refine Gn 100010001000 λw1 J=>?_;have r:=r.trans J;refine go ?_;refine dL rfl (λ_ hR=>((hl.ext (r.trans hR)).at rfl)) (go ?_);refine dL rfl (λ_ hR=>((hl.ext (r.trans hR)).at rfl)) (dv 82 1 (Fs.nil (enc:=G8) (sz:=3) (w:=w)).sl (dp (GJ rfl rfl (by simp [Fx])) (go ?_)));exact⟨rfl,r⟩
theorem diskNew_w (room:Int)(w:World)(h0:0<=room)(h1:room<=1073741824) :
  Gf 33 [I room] w λu w'=>∃bd mf,u=.tuple #[Fg bd 0,I 0]/\Fo w' bd [I room,.map (some mf),B false,I 0] 122/\Gt w' mf/\w.heap.size<=bd/\w.heap.size<=mf:=by
 refine cE Tryz.func33 λz=>?_;refine ds1 6 (λc1=>?_) λc1=>?_
 ·omega
 refine Fk (λc2=>?_) λc2=>?_
 ·omega
 refine go ?_;refine TC rfl RX.all (λb1 w1 e1 x1 r=>?_);have g1:=z.ge e1;have z:=z.trans x1;refine db (zs:=[.int .i64 0,.map none,B false,.int .i64 0]) (pl:=[(0,1),(1,1),(2,1),(3,1)]) (pv:=[(0,_),(1,_)]) (cs:=[_,_,B false,.int .i64 0]) ?_;refine Gx rfl rfl rfl RX.all (λJ w2 e2 O Y=>?_);have g2:=z.ge e2;have n2_mp1:=r.lt;refine Fz O r z λr z=>go ?_;exact⟨_,rfl,z,J,b1,rfl,Y,r,g2,g1⟩
theorem Xpf (bd mf:Nat)(room:Int)(w:World)(hd:Fo w bd [I room,.map (some mf),B false,I 0] 122)(hm:Gt w mf) :
  Gf 59 [Fg bd 0,S [115]] w λu w'=>∃bl,u=.tuple #[Fg bl 0,I 0]/\Fo w' bl [Fg bd 0,S [115],I 0,.slice none 0 0,.slice none 0 0,B false] 147/\w.heap.size<=bl:=by
 refine cE Tryz.func59 λr=>go ?_;refine dp (GS Fe rfl rfl) ?_;refine ds1 12 (λc1=>?_) λc1=>?_
 ·exact absurd c1 F5
 refine ds1 17 (λc2=>?_) λc2=>?_
 ·exact absurd c2 Fj
 refine Fk (λY=>?_) λY=>?_
 ·exact absurd Y Fj
 refine go ?_;refine db (zs:=[.pointer none,S [],.int .i64 0,.slice none 0 0,.slice none 0 0,B false]) (pl:=[(0,1),(1,1),(2,1),(3,1),(4,1),(5,1)]) (pv:=[(0,_),(1,_)]) (cs:=[_,_,.int .i64 0,.slice none 0 0,.slice none 0 0,B false]) ?_;refine Gx rfl rfl rfl RX.all (λb1 w1 e1 x1 z=>?_);have g1:=r.ge e1;have r:=r.trans x1;refine go ?_;refine dp (SC rfl) (go ?_);refine dp (SC rfl) (go ?_);refine dp (SC rfl) (li (e:=81) (sz:=1) (zs:=[.nilFunc]) (pv:=[(0,_),(1,_),(2,_)]) (cs:=[_,_,_]) RX.all (λO w2 e2 x2 J=>?_));have g2:=r.ge e2;have n2_1:=z.ltb e2;refine Fz x2 z r λz r=>dv 81 1 (J.arr (enc:=λg:Value=>[g]) (sz:=1) (l:=[Ji 115 [Fg b1 0],Ji 116 [Fg b1 0],Ji 117 [Fg b1 0]]) rfl Ff rfl F5).sl (F9 (G:=Nat) (λk=>[(6,Fg b1 0),(32,.slice (some ⟨O,0,none⟩) 3 3),(33,I 3),(34,I ↑k)]) (λk w'=>Fp w w'/\Fo w' b1 [Fg bd 0,S [115],I 0,.slice none 0 0,.slice none 0 0,B false] 147/\Fo w' O [Ji 115 [Fg b1 0],Ji 116 [Fg b1 0],Ji 117 [Fg b1 0]] 81/\k<=3) (λk=>3-k) 0 ⟨r,z,J,Ab _⟩ ?_);rintro _ k w3 ⟨r,z,J,hk1⟩;refine Fk (λc4=>?_) λc4=>?_
 ·obtain⟨g,hk⟩:∃g,[Ji 115 [Fg b1 0],Ji 116 [Fg b1 0],Ji 117 [Fg b1 0]][k]?=some g:=⟨_,Au (by simp;omega)⟩;obtain⟨f,rfl,hcb,hcall⟩:∃f,g=Ji f [Fg b1 0]/\Hj Tryz.prog f=true/\∀w1,Fo w1 b1 [Fg bd 0,S [115],I 0,.slice none 0 0,.slice none 0 0,B false] 147->Fo w1 bd [I room,.map (some mf),B false,I 0] 122->Gt w1 mf->Calls Tryz.prog f ([Fg b1 0]++[]).toArray w1 (Pure w1 (I 0)):=by
   match k,hk with
   | 0,hk=>simp only [Du,CV,Al.injEq]at hk;exact⟨_,hk.symm,by kernel_rfl,λw1 h1 h2 h3=>X3e b1 bd mf room w1 h1 h2 h3⟩
   | 1,hk=>simp only [Du,CV,Al.injEq]at hk;exact⟨_,hk.symm,by kernel_rfl,λw1 h1 h2 h3=>X87 b1 bd mf room w1 h1 h2 h3⟩
   | 2,hk=>simp only [Du,CV,Al.injEq]at hk;exact⟨_,hk.symm,by kernel_rfl,λw1 h1 h2 h3=>Ydh b1 bd mf room w1 h1 h2 h3⟩
   | k+3,hk=>simp at hk
  refine go ?_;refine di 81 1 (J.arr (enc:=λg:Value=>[g]) (sz:=1) (l:=[Ji 115 [Fg b1 0],Ji 116 [Fg b1 0],Ji 117 [Fg b1 0]]) rfl Ff rfl F5).sl rfl ((J.arr (enc:=λg:Value=>[g]) (sz:=1) (l:=[Ji 115 [Fg b1 0],Ji 116 [Fg b1 0],Ji 117 [Fg b1 0]]) rfl Ff rfl F5).lt hk) (dl rfl (((J.arr (enc:=λg:Value=>[g]) (sz:=1) (l:=[Ji 115 [Fg b1 0],Ji 116 [Fg b1 0],Ji 117 [Fg b1 0]]) rfl Ff rfl F5).row hk).at0 rfl) (go ?_));refine X1a (vs:=[]) rfl rfl hcb (hcall _ z (hd.ext r) (hm.ext r)) rfl RX.all (λw4 x4=>FB x4 z J r λz J r=>?_);refine Fk (λc5=>?_) λc5=>?_
  ·exact absurd rfl c5
  refine go ?_;refine FJ (k+1) ⟨r,z,J,by omega⟩
 refine go ?_;exact⟨_,rfl,r,b1,rfl,z,g1⟩
structure MemE (w:World)(bm ba bn:Nat):Prop where
 m:Fo w bm [.slice (some ⟨ba,0,none⟩) 1 1,.slice none 0 0,I 0,I 0] 155
 a:Fo w ba [S [],S [],B false,I 0,.slice (some ⟨bn,0,none⟩) 12 12] 172
 n:Fo w bn (An 12 (I 0)) 3
theorem MemE.ext {w w':World}{bm ba bn:Nat}(h:MemE w bm ba bn)(x:Fp w w'):MemE w' bm ba bn:=⟨h.m.ext x,h.a.ext x,h.n.ext x⟩
instance {w w':World} {bm ba bn:Nat} : Up w w' (MemE w bm ba bn) (MemE w' bm ba bn):=⟨λx h=>MemE.ext h x⟩
structure StE (w:World)(bs bd bl mo bm ba bn mf:Nat)(room:Int):Prop where
 s:Fo w bs [Fg bd 0,Fg bl 0,I 1,.slice none 0 0,.map (some mo),Fg bm 0,B false] 90
 l:Fo w bl [Fg bd 0,S [115],I 0,.slice none 0 0,.slice none 0 0,B false] 147
 d:Fo w bd [I room,.map (some mf),B false,I 0] 122
 f:Gt w mf
 o:Gt w mo
 m:MemE w bm ba bn
theorem Rr (w:World) :
  FW 102 [.slice none 0 0] w (.slice none 0 0):=by
 refine cE Tryz.func102 λz=>go ?_;refine dp (PK (e:=174) (k:=1) Fe (Fs.nil (enc:=Fq) (sz:=1) (w:=w)).sl rfl rfl) ?_;refine FZ (λr=>?_) λr=>?_
 ·refine go ?_;exact⟨rfl,z⟩
 exact absurd r Fj
theorem X3g (w:World) :
  Gf 47 [.slice none 0 0] w λu w'=>∃bm ba bn,u=Fg bm 0/\MemE w' bm ba bn/\w.heap.size<=bm/\w.heap.size<=ba/\w.heap.size<=bn:=by
 refine cE Tryz.func47 λr=>go ?_;refine Kf (R:=Fp) Fp.refl (λ_ _ _=>Fp.trans) Fe [] (.one 3 .p false (.fork (.alt 0 true (.one 1 .p false (.fork (.alt 2 true (.one 4 .x true (.one 5 .p false (.one 6 .x true (.one 7 .p false .nil)))) (.alt 4 true (.one 2 .x true (.one 5 .p false (.one 6 .x true (.one 7 .p false .nil)))) .stop)))) (.alt 4 true (.one 0 .x true (.one 1 .p false (.one 2 .x true (.one 5 .p false (.one 6 .x true (.one 7 .p false .nil)))))) .stop)))) Fe Fe (λw1 Y=>?_);have x1:=FC Y;clear Y;have r:=r.trans x1;refine go ?_;refine IQ ?_;refine Hc ?_ ?_
 ·refine Mk (e:=3) (sz:=1) (by':=8) (zs:=[.int .i64 0]) rfl Fe Fe Fe rfl rfl Fj Fj RX.all (λb1 w2 e1 x2 z=>?_);have g1:=r.ge e1;have r:=r.trans x2;refine go ?_;refine db (zs:=[S [],S [],B false,.int .i64 0,.slice none 0 0]) (pl:=[(0,4),(4,1)]) (pv:=[(1,_)]) (cs:=[S [],S [],B false,.int .i64 0,_]) ?_;refine go ?_;refine IQ ?_;refine Hc ?_ ?_
  ·refine lA 172 rfl λb2 w3 e2 x3 O=>?_;have g2:=r.ge e2;have n2_1:=z.ltb e2;refine Fz x3 z r λz r=>Gp (Rr _) λw4 x4=>FB x4 z O r λz O r=>?_;refine go ?_;refine db (zs:=[.slice none 0 0,.slice none 0 0,.int .i64 0,.int .i64 0]) (pl:=[(0,1),(1,1),(2,1),(3,1)]) (pv:=[(0,_),(1,_)]) (cs:=[_,_,.int .i64 0,.int .i64 0]) ?_;refine go ?_;refine Gx rfl rfl rfl RX.all (λb3 w5 e3 x5 m3=>?_);have g3:=r.ge e3;have n3_1:=z.ltb e3;have n3_2:=O.ltb e3;refine FB x5 z O r λz O r=>go ?_;exact⟨_,rfl,r,b3,b2,b1,rfl,⟨m3,O,z⟩,g3,g2,g1⟩
  refine Hc ?_ ?_
  ·refine cP (Rr _) RX.all λw6 x6=>Fz x6 z r λz r=>go ?_;refine lA 172 rfl λb4 w7 e4 x7 m4=>?_;have g4:=r.ge e4;have n4_1:=z.ltb e4;refine Fz x7 z r λz r=>go ?_;refine db (zs:=[.slice none 0 0,.slice none 0 0,.int .i64 0,.int .i64 0]) (pl:=[(0,1),(1,1),(2,1),(3,1)]) (pv:=[(0,_),(1,_)]) (cs:=[_,_,.int .i64 0,.int .i64 0]) ?_;refine go ?_;refine Gx rfl rfl rfl RX.all (λb5 w8 e5 x8 m5=>?_);have g5:=r.ge e5;have n5_1:=z.ltb e5;have n5_4:=m4.ltb e5;refine FB x8 z m4 r λz m4 r=>go ?_;exact⟨_,rfl,r,b5,b4,b1,rfl,⟨m5,m4,z⟩,g5,g4,g1⟩
  exact IZ
 refine Hc ?_ ?_
 ·refine cP (Rr _) RX.all λw9 x9=>?_;have r:=r.trans x9;refine go ?_;refine Mk (e:=3) (sz:=1) (by':=8) (zs:=[.int .i64 0]) rfl Fe Fe Fe rfl rfl Fj Fj RX.all (λb6 w10 e6 ha J=>?_);have g6:=r.ge e6;have r:=r.trans ha;refine go ?_;refine db (zs:=[S [],S [],B false,.int .i64 0,.slice none 0 0]) (pl:=[(0,4),(4,1)]) (pv:=[(1,_)]) (cs:=[S [],S [],B false,.int .i64 0,_]) ?_;refine go ?_;refine lA 172 rfl λb7 w11 e7 hc m7=>?_;have g7:=r.ge e7;have n7_6:=J.ltb e7;refine Fz hc J r λJ r=>go ?_;refine db (zs:=[.slice none 0 0,.slice none 0 0,.int .i64 0,.int .i64 0]) (pl:=[(0,1),(1,1),(2,1),(3,1)]) (pv:=[(0,_),(1,_)]) (cs:=[_,_,.int .i64 0,.int .i64 0]) ?_;refine go ?_;refine Gx rfl rfl rfl RX.all (λb8 w12 e8 hf m8=>?_);have g8:=r.ge e8;have n8_6:=J.ltb e8;have n8_7:=m7.ltb e8;refine FB hf J m7 r λJ m7 r=>go ?_;exact⟨_,rfl,r,b8,b7,b6,rfl,⟨m8,m7,J⟩,g8,g7,g6⟩
 exact IZ
theorem Xz2 (bs bd bl mo bm:Nat)(w:World)(hb:Fo w bs [Fg bd 0,Fg bl 0,I 1,.slice none 0 0,.map (some mo),Fg bm 0,B false] 90)(hl:Fo w bl [Fg bd 0,S [115],I 0,.slice none 0 0,.slice none 0 0,B false] 147) :
  FW 63 [Fg bs 0] w (I 0):=by
 refine cE Tryz.func63 λr=>Gp (UF bl bd _ (hl.ext r)) λw1 Y=>?_;have r:=r.trans Y;refine F9 (G:=Unit) (λz=>[(0,Fg bs 0),(5,I 1)]) (λz w'=>Fp w w'/\True) (λz=>0) () ⟨r,trivial⟩ ?_;rintro _ z w2 ⟨r,htr⟩;refine go ?_;refine dl rfl ((hb.ext r).at rfl) (cP (H5 bl bd _ (hl.ext r)) RX.all λw3 O=>?_);have r:=r.trans O;refine dp (IA rfl rfl) ?_;refine Fk (λJ=>?_) λJ=>?_
 ·exact absurd J Fj
 refine go ?_;exact⟨rfl,r⟩
theorem X88 (bd mf:Nat)(room:Int)(s:Fh)(w:World)(hd:Fo w bd [I room,.map (some mf),B false,I 0] 122)(hm:Gt w mf) :
  FW 64 [Fg bd 0,S s,.slice none 0 0] w (I 0):=by
 refine cE Tryz.func64 λr=>go ?_;refine dp (GS Fe rfl rfl) ?_;refine Fk (λJ=>?_) λJ=>?_
 ·exact absurd J F5
 refine Gp (Jz bd mf room _ (hd.ext r) (hm.ext r)) λw1 Y=>?_;have r:=r.trans Y;refine dv 9 1 (Fs.nil (enc:=G8) (sz:=1) (w:=w)).sl (F9 (G:=Unit) (λz=>[(0,Fg bd 0),(1,S s),(2,.slice none 0 0),(13,.slice none 0 0),(14,I 0),(15,I 0)]) (λz w'=>Fp w w'/\True) (λz=>0) () ⟨r,trivial⟩ ?_);rintro _ z w2 ⟨r,htr⟩;refine Fk (λO=>?_) λO=>?_
 ·exact absurd O Fj
 refine go ?_;exact⟨rfl,r⟩
theorem lsmOpen_w (bd mf:Nat)(room:Int)(w:World)(hd:Fo w bd [I room,.map (some mf),B false,I 0] 122)(hm:Gt w mf) :
  Gf 24 [Fg bd 0] w λu w'=>∃bs bl mo bm ba bn,u=.tuple #[Fg bs 0,I 0]/\StE w' bs bd bl mo bm ba bn mf room/\w.heap.size<=bs/\w.heap.size<=bl/\w.heap.size<=mo/\w.heap.size<=bm/\w.heap.size<=ba/\w.heap.size<=bn:=by
 refine cE Tryz.func24 λr=>go ?_;refine dp (GS Fe rfl rfl) ?_;refine Fk (λc1=>?_) λc1=>?_
 ·exact absurd c1 F5
 refine go ?_;have ha:=r.size;refine cG (Xpf bd mf room _ (hd.ext r) (hm.ext r)) RX.all λu1 w1 x1 hj=>?_;have hsz1:=r.size;have r:=r.trans x1;obtain⟨bl,rfl,J,hf⟩:=hj;refine Fk (λc2=>?_) λc2=>?_
 ·exact absurd rfl c2
 refine go ?_;refine db (zs:=[.int .i64 0,.slice none 0 0]) (pl:=[(0,1),(1,1)]) (pv:=[(0,_)]) (cs:=[_,.slice none 0 0]) ?_;refine TC rfl RX.all (λb1 w2 e1 x2 z=>?_);have g1:=r.ge e1;have a1_hl:=J.lt;refine Fz x2 J r λJ r=>?_;have Y:=r.size;refine cG (X3g _) RX.all λu3 w3 x3 hp=>?_;have hsz3:=r.size;refine FB x3 J z r λJ z r=>?_;obtain⟨bm,ba,bn,rfl,O,hh,hc,hg⟩:=hp;refine db (zs:=[.pointer none,.pointer none,.int .i64 0,.slice none 0 0,.map none,.pointer none,B false]) (pl:=[(0,1),(1,1),(2,2),(4,1),(5,1),(6,1)]) (pv:=[(0,_),(1,_),(2,.agg ⟨[_,_]⟩),(3,_),(4,_)]) (cs:=[_,_,_,_,_,_,B false]) ?_;refine Gx rfl rfl rfl RX.all (λb2 w4 e2 x4 m2=>?_);have g2:=r.ge e2;have n2_mp1:=z.lt;have a2_hl:=J.lt;refine FP x4 J z O r λJ z O r=>Gp (UF bl bd _ J) λw5 x5=>FV x5 J z O m2 r λJ z O m2 r=>?_;refine ds1 39 (λc3=>?_) λc3=>?_
 ·exact absurd c3 Fj
 refine FL 5 1 (Fs.nil (enc:=Fq) (sz:=1) (w:=w)).sl ?_;refine Fk (λc4=>?_) λc4=>?_
 ·exact absurd c4 Fj
 refine FL 62 5 (Fs.nil (enc:=λv:Value=>[v]) (sz:=5) (w:=w)).sl ?_;refine F9 (G:=Unit) (λuu=>[(0,Fg bd 0),(6,Fg b2 0),(9,.slice none 0 0),(59,.slice none 0 0),(60,I 0),(61,I 0)]) (λuu w'=>Fp w w'/\Fo w' bl [Fg bd 0,S [115],I 0,.slice none 0 0,.slice none 0 0,B false] 147/\Gt w' b1/\MemE w' bm ba bn/\Fo w' b2 [Fg bd 0,Fg bl 0,I 1,.slice none 0 0,.map (some b1),Fg bm 0,B false] 90/\True) (λuu=>0) () ⟨r,J,z,O,m2,trivial⟩ ?_;rintro _ uu w6 ⟨r,J,z,O,m2,htr⟩;refine Fk (λc5=>?_) λc5=>?_
 ·exact absurd c5 Fj
 refine Gp (Xz2 b2 bd bl b1 bm _ m2 J) λw7 x7=>FV x7 J z O m2 r λJ z O m2 r=>?_;refine Fk (λc6=>?_) λc6=>?_
 ·exact absurd rfl c6
 refine Gp (X88 bd mf room [116] _ (hd.ext r) (hm.ext r)) λw8 x8=>FV x8 J z O m2 r λJ z O m2 r=>?_;refine Fk (λc7=>?_) λc7=>?_
 ·exact absurd rfl c7
 refine go ?_;exact⟨_,rfl,r,b2,bl,b1,bm,ba,bn,rfl,⟨m2,J,hd.ext r,hm.ext r,z,O⟩,g2,Ae ha hf,g1,Ae Y hh,Ae Y hc,Ae Y hg⟩
structure RStE (w:World)(bs bd bl bm:Nat)(room:Int):Prop where
 s:Fo w bs [Fg bd 0,Fg bl 0,I 1,.slice none 0 0,.slice none 0 0,Fg bm 0,B false] 69
 l:Fo w bl [Fg bd 0,S [115],I 0,.slice none 0 0,.slice none 0 0,B false] 135
 d:Fo w bd [I room,.slice none 0 0,I (-1)] 138
theorem GP (bd:Nat)(room:Int)(s:Fh)(w:World)(hd:Fo w bd [I room,.slice none 0 0,I (-1)] 138) :
  FW 227 [Fg bd 0,S s] w (.tuple #[I 0,B false]):=by
 refine cE Tryz.func227 λr=>F9 (G:=Unit) (λz=>[(0,Fg bd 0),(1,S s),(4,I 0),(5,.bool false),(6,I 0)]) (λz w'=>Fp w w'/\True) (λz=>0) () ⟨r,trivial⟩ ?_;rintro _ z w1 ⟨r,htr⟩;refine go ?_;refine dl rfl ((hd.ext r).at rfl) (dv 226 3 (Fs.nil (enc:=λx:List Value=>x) (sz:=3) (w:=w)).sl ?_);refine ds1 14 (λJ=>?_) λJ=>?_
 ·exact absurd J Fj
 refine go ?_;refine GL rfl (Gn 10000010001000000100000 λw2 Y=>?_);have r:=r.trans Y;refine go ?_;refine dL rfl (λ_ hR=>((hd.ext (r.trans hR)).at rfl)) (dv 226 3 (Fs.nil (enc:=λx:List Value=>x) (sz:=3) (w:=w)).sl ?_);refine ds1 36 (λO=>?_) λO=>?_
 ·exact absurd O Fj
 refine go ?_;exact⟨rfl,r⟩
theorem IL (bd:Nat)(room:Int)(s:Fh)(w:World)(hd:Fo w bd [I room,.slice none 0 0,I (-1)] 138) :
  FW 232 [Fg bd 0,S s] w (.tuple #[.slice none 0 0,I 7]):=by
 refine cE Tryz.func232 λr=>Gp (GP bd room s _ (hd.ext r)) λw1 z=>?_;have r:=r.trans z;refine go ?_;refine GD rfl (go ?_);exact⟨rfl,r⟩
theorem J4 (bl bd:Nat)(room:Int)(s:Fh)(w:World)(hl:Fo w bl [Fg bd 0,S [115],I 0,.slice none 0 0,.slice none 0 0,B false] 135)(hd:Fo w bd [I room,.slice none 0 0,I (-1)] 138) :
  FW 230 [Fg bl 0,S s] w (B false):=by
 refine cE Tryz.func230 λr=>Gp (IL bd room s _ (hd.ext r)) λw1 z=>?_;have r:=r.trans z;refine go ?_;exact⟨rfl,r⟩
theorem X3h (bl bd:Nat)(room:Int)(w:World)(hl:Fo w bl [Fg bd 0,S [115],I 0,.slice none 0 0,.slice none 0 0,B false] 135)(hd:Fo w bd [I room,.slice none 0 0,I (-1)] 138) :
  FW 231 [Fg bl 0] w (I 0):=by
 refine cE Tryz.func231 λr=>go ?_;refine dp (Iu rfl rfl (by simp;done)) (cP (J4 bl bd room _ _ (hl.ext r) (hd.ext r)) RX.all λw1 z=>?_);have r:=r.trans z;refine go ?_;refine GD rfl (go ?_);exact⟨rfl,r⟩
theorem Ic (bl bd:Nat)(w:World)(hl:Fo w bl [Fg bd 0,S [115],I 0,.slice none 0 0,.slice none 0 0,B false] 135) :
  FW 31 [Fg bl 0] w (I 0):=by
 refine cE Tryz.func31 λr=>Gn 100010001000 λw1 z=>?_;have r:=r.trans z;refine go ?_;refine dL rfl (λ_ hR=>((hl.ext (r.trans hR)).at rfl)) (go ?_);refine dL rfl (λ_ hR=>((hl.ext (r.trans hR)).at rfl)) (dv 82 1 (Fs.nil (enc:=λx:List Value=>x) (sz:=3) (w:=w)).sl (dp (GJ (a:=0) (b:=0) rfl rfl (by simp [Fx])) (go ?_)));exact⟨rfl,r⟩
theorem X89 (bs bd bl bm:Nat)(w:World)(hs:Fo w bs [Fg bd 0,Fg bl 0,I 1,.slice none 0 0,.slice none 0 0,Fg bm 0,B false] 69) :
  FW 149 [Fg bs 0] w (I 0):=by
 refine cE Tryz.func149 λr=>F9 (G:=Unit) (λz=>[(0,Fg bs 0),(3,I 0)]) (λz w'=>Fp w w'/\True) (λz=>0) () ⟨r,trivial⟩ ?_;rintro _ z w1 ⟨r,htr⟩;refine go ?_;refine dl rfl ((hs.ext r).at rfl) (dv 62 5 (Fs.nil (enc:=λv:Value=>[v]) (sz:=5) (w:=w)).sl ?_);refine Fk (λJ=>?_) λJ=>?_
 ·exact absurd J Fj
 refine go ?_;exact⟨rfl,r⟩
theorem X9a (bd:Nat)(room:Int)(w:World)(hd:Fo w bd [I room,.slice none 0 0,I (-1)] 138) :
  FW 239 [Fg bd 0] w (.slice none 0 0):=by
 refine cE Tryz.func239 λr=>F9 (G:=Unit) (λz=>[(0,Fg bd 0),(2,.slice none 0 0),(3,.slice none 0 0),(4,I 0)]) (λz w'=>Fp w w'/\True) (λz=>0) () ⟨r,trivial⟩ ?_;rintro _ z w1 ⟨r,htr⟩;refine go ?_;refine dl rfl ((hd.ext r).at rfl) (dv 226 3 (Fs.nil (enc:=λx:List Value=>x) (sz:=3) (w:=w)).sl ?_);refine Fk (λJ=>?_) λJ=>?_
 ·exact absurd J Fj
 refine go ?_;exact⟨rfl,r⟩
theorem X3i (bd:Nat)(room:Int)(s:Fh)(w:World)(hd:Fo w bd [I room,.slice none 0 0,I (-1)] 138) :
  FW 152 [Fg bd 0,S s,.slice none 0 0] w (I 0):=by
 refine cE Tryz.func152 λr=>go ?_;refine dp (GS Fe rfl rfl) ?_;refine Fk (λJ=>?_) λJ=>?_
 ·exact absurd J F5
 refine Gp (X9a bd room _ (hd.ext r)) λw1 Y=>?_;have r:=r.trans Y;refine F9 (G:=Unit) (λz=>[(0,Fg bd 0),(1,S s),(2,.slice none 0 0),(7,.slice none 0 0),(8,I 0)]) (λz w'=>Fp w w'/\True) (λz=>0) () ⟨r,trivial⟩ ?_;rintro _ z w2 ⟨r,htr⟩;refine FL 9 1 (Fs.nil (enc:=G8) (sz:=1) (w:=w)).sl ?_;refine Fk (λO=>?_) λO=>?_
 ·exact absurd O Fj
 refine go ?_;exact⟨rfl,r⟩
end Go.Proofs.YtiooodckiddpmaaGreatDoor.Em
namespace Go.Proofs.YtiooodckiddpmaaGreatDoor
open Go.Vc Go.Sp
attribute [local irreducible] W XW Dw G9
variable {w:World}
theorem Yy {P:Program}{κ α:Type}[DecidableEq κ]{k:TypeId}{kv:κ->Value}{av:α->Value}{b:Nat}(h:Gt w b):Gl P k kv av w b ([]:List (κ×α)):=
 ⟨by simp,.map [],⟨#[],0,h,⟨by simp,MapKept.stamped_empty 0,by simp⟩,Aa _,rfl⟩,rfl,λx l hl z=>rfl⟩
variable {ba:Nat}
theorem Yb5 {bm bn:Nat}(h:Em.MemE w bm ba bn):Ga (λk=>k=bm\/k=ba\/k=bn) w bm []:=by
 have O:Fo w bn (G0 (An 12 0)) 3:=by
  have:=h.n;rwa [show An 12 (I 0)=G0 (An 12 0) from rfl]at this
 have J:MemAt w bm (.slice (some ⟨ba,0,none⟩) 1 1) (.slice none 0 0) [⟨Cell.zero,bn,12⟩] (λ_=>An 12 0) [] 0 0:=by
  refine⟨h.m,h.a.own (enc:=Tow.enc) (l:=[⟨Cell.zero,bn,12⟩]) (Ab _) rfl Ff rfl F5,Vc.Own.nil,λi t r=>?_,λi j s t hs r _=>?_⟩
  ·cases i with
   | zero=>simp at r;subst r;exact⟨O,by simp⟩
   | succ i=>simp at r
  ·cases i with
   | zero=>cases j with
    | zero=>rfl
    | succ j=>simp at r
   | succ i=>simp at hs
 refine⟨_,_,_,_,_,[],J,⟨rfl,λi hi=>(by cases hi),Cj,rfl,rfl,λi hi=>?_,⟨λrow Y=>?_,trivial⟩⟩,Bq,λk hk=>?_,λk hk=>?_⟩
 ·have:i=0:=by simp at hi;exact hi
  subst this;exact⟨(show 1<=12 by decide),(show 12<=12 by decide)⟩
 ·have z:row<12:=Y;rw[List.getElem?_replicate_of_lt z];rfl
 ·rcases hk with rfl|hk|hk|⟨t,r,rfl⟩
  ·exact .inl rfl
  ·have:ba=k:=Al.inj hk;exact .inr (.inl this.symm)
  ·cases hk
  ·rw[Af.1 r];exact .inr (.inr rfl)
 ·rcases hk with rfl|rfl|rfl
  ·exact h.m.lt
  ·exact h.a.lt
  ·exact h.n.lt
def IN (room:Int):Dsk:=⟨room,false,0,[]⟩
def Km : Led:=⟨0,[],[],false⟩
def H7 (bs bd bl mo bm ba bn mf:Nat):Nat->Nat:=λk=>if k=bs then 5 else if k=mo then 2 else if k=bm\/k=ba\/k=bn then 3 else if k=bl\/k=bd\/k=mf then 1 else 0
theorem KJ {b b':Nat}{cs:List Value}{T:TypeId}(h:Gt w b)(hb:Fo w b' cs T):b'≠b:=λe=>by
 subst e;have h1:w.heap[b']?=some (.cells ⟨cs⟩ T (0,0)):=hb;rw[h]at h1;cases h1
theorem VW {bs bd bl mo bm bn mf:Nat}{room:Int}(h:Em.StE w bs bd bl mo bm ba bn mf room)(hne:mo≠mf)(hw:(IN room).Wf):StE (H7 bs bd bl mo bm ba bn mf) bs bd bl mo bm (.slice none 0 0) Km (IN room) ⟨1,[]⟩ [] [] false w:=by
 have n1:=h.s.ne h.l rfl;have n2:=h.s.ne h.d rfl;have n3:=h.s.ne h.m.m rfl;have n4:=h.s.ne h.m.a rfl;have n5:=h.s.ne h.m.n rfl;have n6:=KJ h.o h.s;have n7:=KJ h.f h.s;have p1:=KJ h.o h.l;have p2:=KJ h.o h.d;have p3:=KJ h.o h.m.m;have p4:=KJ h.o h.m.a;have p5:=KJ h.o h.m.n;have q1:=h.m.m.ne h.l rfl;have q2:=h.m.m.ne h.d rfl;have q3:=KJ h.f h.m.m;have q4:=h.m.a.ne h.l rfl;have q5:=h.m.a.ne h.d rfl;have q6:=KJ h.f h.m.a;have q7:=h.m.n.ne h.l rfl;have q8:=h.m.n.ne h.d rfl;have Y:=KJ h.f h.m.n;have r1:=KJ h.f h.l;have r2:=h.l.ne h.d rfl;have kl:H7 bs bd bl mo bm ba bn mf bl=1:=by unfold H7;simp [Ne.symm n1,p1,Ne.symm q1,Ne.symm q4,Ne.symm q7]
 have kd:H7 bs bd bl mo bm ba bn mf bd=1:=by unfold H7;simp [Ne.symm n2,p2,Ne.symm q2,Ne.symm q5,Ne.symm q8]
 have kf:H7 bs bd bl mo bm ba bn mf mf=1:=by unfold H7;simp [Ne.symm n7,Ne.symm hne,Ne.symm q3,Ne.symm q6,Ne.symm Y]
 have r:∀k,H7 bs bd bl mo bm ba bn mf k≠0->k<w.heap.size:=λk hk=>by
  unfold H7 at hk;split at hk
  ·rename_i e;rw[e];exact h.s.lt
  ·split at hk
   ·rename_i e;rw[e];exact h.o.lt
   ·split at hk
    ·rename_i e;rcases e with rfl|rfl|rfl
     ·exact h.m.m.lt
     ·exact h.m.a.lt
     ·exact h.m.n.lt
    ·split at hk
     ·rename_i e;rcases e with rfl|rfl|rfl
      ·exact h.l.lt
      ·exact h.d.lt
      ·exact h.f.lt
     ·exact absurd rfl hk
 refine⟨h.s,⟨λk=>k=bd\/k=mf,λk=>k=bl,.slice none 0 0,.slice none 0 0,[],⟨mf,[],⟨h.d,Yy h.f,rfl,λe he=>(by cases he),Bq,λk hk=>?_,λk hk=>?_,hw⟩⟩,⟨h.l,Vc.Own.nil.arr (enc:=Fq) (sz:=1) (T:=0) (B:=0) Ff,Vc.Own.nil,rfl,λq z=>(by cases z),λk hk=>?_,λk hk=>?_,λk hk=>?_,BV _,by decide,by decide,λp O=>(by cases O),by decide⟩,λk hk e=>?_,λk hk=>?_,λk hk=>r k (by rw[hk];decide)⟩,Yy h.o,(Yb5 h.m).to (λk hk=>?_) (λk hk=>r k (by rw[hk];decide)),Vc.Own.nil.arr (enc:=Fi.cs) (sz:=5) (T:=0) (B:=0) Ff,λt J=>(by cases J),by unfold H7;simp,by unfold H7;simp [Ne.symm n6],λh9=>absurd rfl h9,λt J=>(by cases J),r⟩
 ·rcases hk with e|e|⟨e,he,_⟩
  ·exact .inl e
  ·exact .inr e
  ·cases he
 ·rcases hk with rfl|rfl
  ·exact h.d.lt
  ·exact h.f.lt
 ·rcases hk with e|e|e|⟨q,z,_⟩
  ·exact e
  ·cases e
  ·exact absurd rfl e.1
  ·cases z
 ·rcases hk with e|⟨q,z,_⟩
  ·exact absurd rfl e.1
  ·cases z
 ·rw[hk];exact h.l.lt
 ·rcases hk with rfl|rfl
  ·exact r2 e.symm
  ·exact r1 e.symm
 ·rcases hk with(e|e)|e
  ·rw[e];exact kd
  ·rw[e];exact kf
  ·rw[e];exact kl
 ·unfold H7;rcases hk with e|e|e
  ·rw[e];simp [Ne.symm n3,p3]
  ·rw[e];simp [Ne.symm n4,p4]
  ·rw[e];simp [Ne.symm n5,p5]
theorem X9b {bs bd bl mo bm bn mf n:Nat}(h1:n<=bs)(h2:n<=bl)(h3:n<=mo)(h4:n<=bm)(h5:n<=ba)(h6:n<=bn):∀k,H7 bs bd bl mo bm ba bn mf k≠0->k=bd\/k=mf\/n<=k:=λk hk=>by
 unfold H7 at hk
 repeat' split at hk
 all_goals omega
end Go.Proofs.YtiooodckiddpmaaGreatDoor
