/-
  A part of the proof.
-/
import Derived.Test.YtiooodckiddpmaaGreatDoorQkA
import Derived.Test.YtiooodckiddpmaaGreatDoorChecked
import Derived.KernelRfl
import Derived.Test.YtiooodckiddpmaaGreatDoorQkD
import Derived.Test.YtiooodckiddpmaaGreatDoorQkB
import Derived.Test.YtiooodckiddpmaaGreatDoorQkC
import Derived.Lib.ItoaLen
import Derived.ProofKit
import Derived.Deep.Slices
import Derived.Lib.SmallJoins
import Derived.HandedShaped
import Derived.SizedLaws
import Derived.Shelf.Vars
open Nat renaming le_refl->Aa,zero_le->Ab,le_trans->Ae,le_of_ble_eq_true->An,lt_of_lt_of_le->Ay,beq->AM,not_lt->AR,not_lt_zero->Bh,le_add_right->B8,add_assoc->BV,lt_of_le_of_lt->Ej
open List renaming length_append->Ad,mem_singleton->Af,mem_of_getElem?->Ag,mem_cons->Ah,mem_cons_self->Ai,mem_cons_of_mem->Aj,map_cons->Ak,mem_append->Al,mem_map->Ao,replicate->Ap,getElem?_eq_getElem->Aq,getElem?_eq_some_iff->Ar,length_map->Au,take_of_length_le->Av,mem_filter->Ax,length_cons->Az,map_append->A3,sum_cons->A4,length->A9,flatMap_cons->AA,nil_append->AG,getElem?_map->AH,append_nil->AI,getElem?_of_mem->AK,take->AP,all_eq_true->AQ,take_length->AT,set->AU,take_append_drop->AV,drop->AZ,nodup_cons->Ba,mem_append_right->Bb,flatMap_append->Bc,length_nil->Bj,length_filter_le->Bk,mem_append_left->Bl,filter_append->Bs,sum_append->Bt,pairwise_append->Bw,filter_eq_self->Bz,getElem?_append_left->B5,foldl_append->BA,mem_map_of_mem->BC,foldl_cons->BE,filter_cons->BJ,nodup_nil->BR,filter_sublist->BZ,cons->Cd,mem_iff_getElem?->Ci,flatten_cons->Cn,mem_of_mem_take->Cr,mem_of_mem_drop->C3,length_pos_iff->CM,getElem?_cons_succ->CW,find?_some->Da,getElem?_cons_zero->Dt,any_eq_false->D7,elem_iff->D9,flatMap_def->Ec,getElem?_range->Ed,elem->Eg,filterMap_cons->ET,foldr_cons->EU
open Option renaming some->Am,map_eq_some_iff->Bp
open Bool renaming and_eq_true->Aw,not_eq_false'->Eh
open UInt8 renaming ofNat->AC
open Decidable renaming of_not_not->AF,byContradiction->AO
open List.Pairwise renaming nil->Bu,filter->CR
open List.Sublist renaming map->C0,slnil->Ei
open Int renaming ofNat_le->DA
open List.Perm renaming append_left->DW,flatMap_right->EV
set_option maxRecDepth 100000
set_option maxHeartbeats 4000000
set_option linter.unusedVariables false
set_option linter.defProp false
set_option linter.unusedSimpArgs false
namespace Go.Proofs.YtiooodckiddpmaaGreatDoor
open Go.Vc Go.Sp
attribute [local irreducible] W XW Dw GC
def SK (bs bx bl bm:Nat)(n:Int)(vf vT:Value)(dead:Bool)(e:Int)(w:World)(h:Fp w bs [Fh bx 0,Fh bl 0,I n,vf,vT,Fh bm 0,B dead] 69) :
  G4 146 [Fh bs 0,I e] w (Fv bs) λu w'=>u=I e/\Fp w' bs [Fh bx 0,Fh bl 0,I n,vf,vT,Fh bm 0,B true] 69:=by
 refine cM Tryz.func146 (Fv bs) λr=>?_;have hm:=h;refine go ?_;refine df 6 (rfl) (HL hm (λw1 z xs1 hm=>?_));have r:=r.own z F5;refine go ?_;exact⟨_,rfl,r,rfl,hm⟩
def X3f (bs bx bl bm:Nat)(n:Int)(vf vT:Value)(dead:Bool)(fs:List Fi)(lev:Int)(s:Fj)(w:World)(h:Fp w bs [Fh bx 0,Fh bl 0,I n,vf,vT,Fh bm 0,B dead] 69)(hv:Fu Fi.cs 5 w vf fs)(hl:fs.length<=100000000)(hlev:-10<=lev/\lev<=10) :
  Gi 225 [Fh bs 0,I lev,S s] w λu _=>∃b,u=B b:=by
 refine cE Tryz.func225 λr=>?_;have hm:=h;refine F8 (G:=Int) (λz=>[(0,Fh bs 0),(2,S s),(7,I z)]) (λz w'=>Fq w w'/\-10<=z/\z<=12) (λz=>(12-z).toNat) (lev+1) ⟨r,by omega,by omega⟩ ?_;rintro _ z w1 ⟨r,hz1,hz2⟩;refine go ?_;refine dp (IJ rfl rfl) ?_;refine Fk (λc1=>?_) λc1=>?_
 ·refine go ?_;refine dq (Fx Ff rfl rfl ((hm.ext r).part 2 2)) (Gj (Oe n fs vf z s s _ (hv.ext r) hl) λvhq w2 x2 J=>?_);have H:=r.size;have r:=r.trans x2;obtain⟨q,O,ql,qm⟩:=J;have Y:=O.mono H;refine dv 62 5 (Y.arr Fg).sl ?_;refine Fk (λZ=>?_) λZ=>?_
  ·refine go ?_;exact⟨_,rfl,r,_,rfl⟩
  refine go ?_;exact FL (z+1) ⟨r,by omega,by omega⟩
 refine go ?_;exact⟨_,rfl,r,_,rfl⟩
def Rn {α:Type}{enc:α->List Value}{sz T B:Nat}{w0 w:World}{v:Value}{l:List α}(h:Vc.Own enc sz T B w v l)(hw:w0.heap.size<=w.heap.size):∃B9,w0.heap.size<=B9/\(∀k,v.ownBlock=some k->k<B9)/\(∀b T cs,Fp w b cs T->b<B9)/\Sz B9 w:=⟨w.heap.size,hw,λk hk=>(h.lt k hk).2,λb T cs hb=>hb.lt,⟨Aa _⟩⟩
def X3g (xs:List Fi)(k:Nat)(f:Fi)(L:Int):HA xs L<=HA (xs.take k++[f]++xs.drop k) L:=by
 have h:=congrArg (λl=>(List.filter (λf:Fi=>decide (f.lev=L)) l).length) (AV k xs);simp only [Bs,Ad]at h;unfold HA;simp only [Bs,Ad];omega
variable {fs:List Fi}
def Xhs {xs:List Fi}(h:∀L,HA fs L<=HA xs L)(hp:Li fs):Li xs:=by
 have h0:=h 0;have h1:=h 1;have h2:=h 2;have h3:=h 3;unfold Li at *;omega
def Yca {add xs:List Fi}{k:Nat}{f:Fi}(h:∀x∈xs,x∈fs\/x∈add)(hf:f∈add):∀x∈xs.take k++[f]++xs.drop k,x∈fs\/x∈add:=λx r=>by
 rcases Al.1 r with r|r
 ·rcases Al.1 r with r|r
  ·exact h x (Cr r)
  ·rw[Af.1 r];exact .inr hf
 ·exact h x (C3 r)
def Xzz (n:Int)(fs:List Fi)(vf:Value)(gone:List Int)(vg:Value)(add:List Fi)(va:Value)(w:World)(hv:Fu Fi.cs 5 w vf fs)(hl:fs.length<=100000000)(hs:∀f∈fs,f.fst.length<=140737488355328/\f.lst.length<=140737488355328)(hg:Fu Vc.encI 1 w vg gone)(hgl:gone.length<=40000000)(ha:Fu Fi.cs 5 w va add)(hal:fs.length+add.length<=100000000)(had:∀f∈add,Ge f.id/\f.fst.length<=140737488355328/\f.lst.length<=140737488355328) :
  Gi 218 [.agg ⟨[I n,vf]⟩,vg,va] w λu w'=>∃(nx:Int) (vx:Value) (xs:List Fi) (e:Int),u=.tuple #[.agg ⟨[I nx,vx]⟩,I e]/\Vc.Own Fi.cs 5 62 w.heap.size w' vx xs/\(e=0->QT nx xs/\add.length<=xs.length/\(gone=[]->Li fs->Li xs)/\∀f∈xs,f∈fs\/f∈add):=by
 refine cE Tryz.func218 λr=>go ?_;refine G1 rfl rfl rfl RX.all (λb1 w1 e1 x1 J=>?_);have g1:=r.ge e1;have r:=r.trans x1;refine aL [.int .i64 0,.slice none 0 0] λb2 w2 e2 x2 H=>?_;have g2:=r.ge e2;have n2_1:=J.ltb e2;refine Fy x2 J r λJ r=>go ?_;refine dq (Fx (k:=2) Ff rfl rfl J.row) (cG (Rl n fs vf _ (hv.ext r) hl hs) RX.all λu3 w3 x3 yj=>?_);have hsz3:=r.size;refine FC x3 J H r λJ H r=>?_;obtain⟨b9,rfl,hb9⟩:=yj;refine Gb (λc1=>?_) λc1=>?_
 ·refine go ?_;refine db (zs:=[.int .i64 0,.slice none 0 0]) (pl:=[(0,1),(1,1)]) (pv:=[]) (cs:=[.int .i64 0,.slice none 0 0]) ?_;refine Gg H (λw4 x4 xs4 H=>?_);have J:=J.mo x4;have r:=r.o1 x4;refine go ?_;refine I5 (u:=?v6) rfl rfl rfl rfl Ff rfl H.row ?h6 ?k6
  case h6=>conv=>lhs;whnf
  exact⟨_,rfl,r,0,.slice none 0 0,[],1,rfl,Vc.Own.nil,λe=>(by cases e)⟩
 have hbt:b9=true:=by simpa using c1
 refine g0 ?_;refine GP (G:=Nat×Value) (λ(b4,hp)=>[(1,vg),(2,va),(6,Fh b2 0),(7,I 0),(8,Fh b4 0)]) (λ(b4,hp) w'=>Fq w w'/\Fp w' b1 [I n,vf] 56/\Fp w' b2 [I 0,.slice none 0 0] 56/\Fp w' b4 [I n,hp] 56/\Vc.Own Fi.cs 5 62 w.heap.size w' hp fs/\w.heap.size<=b4/\b1<b4/\b2<b4) ?_ ?_
 ·refine KK (R:=Mod (λk=>k≠b1)) Ij I0 Ff [1,4] (.one 0 .p false (.one 1 .l false (.one 3 .p false (.one 4 .l false (.fork (.alt 2 false (.fork (.alt 5 false (.one 6 .p false (.one 7 .x false (.one 8 .x true .nil))) (.alt 7 false (.one 5 .x false (.one 6 .p false (.one 8 .x true .nil))) .stop))) (.alt 7 false (.one 2 .x false (.one 5 .x false (.one 6 .p false (.one 8 .x true .nil)))) .stop))))))) Ff Ff (λw5 ya=>?_);have x5:=FE ya;clear ya;refine FC x5 J H r λJ H r=>go ?_;refine dL rfl (λ_ hR=>((J.mod hR (λh=>h rfl)).at rfl)) (go ?_);refine dL rfl (λ_ hR=>((J.mod hR (λh=>h rfl)).at rfl)) (go ?_);refine Ji ?_;refine Hk ?_ ?_
  ·refine Jx (e:=62) (sz:=5) rfl Ff RX.mod (λb3 w6 e3 x6 m3=>?_);have g3:=r.ge e3;have n3_1:=J.ltb e3;have n3_2:=H.ltb e3;refine FC x6 J H r λJ H r=>go ?_;refine Ji ?_;refine Hk ?_ ?_
   ·have z:=m3.own (enc:=Fi.cs) (B:=w.heap.size) (l:=[]) (sz:=5) (m:=0) g3 rfl Fg rfl (An rfl);refine Ht z (hv.ext r) (λhp w7 ht x7=>?_) (hR:=(.inr λw9 h9=>h9.mono (λk hk _ e=>by have h8:b3=k:=Am.inj hk;have h1:=J.lt;omega)));have J:=J.mod x7 Fw;have H:=H.mod x7 Fw;have r:=r.own x7 F5;have z:=ht;refine go ?_;refine dp (Mh (zs:=[.int .i64 0,.slice none 0 0]) (pl:=[(0,1),(1,1)]) (pv:=[(0,?a7_0),(1,?a7_1)]) (cs:=[?a7_0,?a7_1]) Ff Ff ?h7 ?f7) ?k7
    case h7=>refine⟨rfl,?_,rfl,?_,trivial⟩<;>(conv=>lhs;whnf)
    case f7=>simp [Hs,Gw,Ap,z.sl.cells,show(Value.int IntKind.i64 n).cells=⟨[I n]⟩ from rfl]
    refine go ?_;refine aL [.int .i64 0,.slice none 0 0] (λb4 w8 e4 x8 O=>?_) (hR:=RX.mod);have g4:=r.ge e4;have n4_1:=J.ltb e4;have n4_2:=H.ltb e4;have o4_hX:=z.ltb e4;refine FQ x8 J H z r λJ H z r=>go ?_;refine Gg O (λw9 x9 xs9 O=>?_) (h1:=by(intro u hu;rcases Ah.1 hu with e|hu;subst e;rfl;rw[Af.1 hu];exact z.sl.one));have J:=J.mo x9;have H:=H.mo x9;have z:=z.mod x9 Fw;have r:=r.o1 x9;refine go ?_;exact⟨(_,_),Hc,r,J,H,by assumption,z,by assumption,by omega,by omega⟩
   refine Hk ?_ ?_
   ·refine aL [.int .i64 0,.slice none 0 0] (λb5 w10 e5 y3 m5=>?_) (hR:=RX.mod);have g5:=r.ge e5;have n5_1:=J.ltb e5;have n5_2:=H.ltb e5;have n5_3:=m3.ltb e5;refine FQ y3 J H m3 r λJ H m3 r=>go ?_;have z:=m3.own (enc:=Fi.cs) (B:=w.heap.size) (l:=[]) (sz:=5) (m:=0) g3 rfl Fg rfl (An rfl);refine Ht z (hv.ext r) (λhp w11 ht xn=>?_) (hR:=(.inr λw9 h9=>h9.mono (λk hk _ e=>by have h8:b3=k:=Am.inj hk;have h1:=J.lt;omega)));have J:=J.mod xn Fw;have H:=H.mod xn Fw;have m5:=m5.mod xn Fw;have r:=r.own xn F5;have z:=ht;have hne5:∀k,hp.ownBlock=some k->¬ Fv b5 k:=λk hk e=>z.ne_blk m5 rfl (hk.trans (congrArg some e));refine go ?_;refine dp (Mh (zs:=[.int .i64 0,.slice none 0 0]) (pl:=[(0,1),(1,1)]) (pv:=[(0,?a9_0),(1,?a9_1)]) (cs:=[?a9_0,?a9_1]) Ff Ff ?h9 ?f9) ?k9
    case h9=>refine⟨rfl,?_,rfl,?_,trivial⟩<;>(conv=>lhs;whnf)
    case f9=>simp [Hs,Gw,Ap,z.sl.cells,show(Value.int IntKind.i64 n).cells=⟨[I n]⟩ from rfl]
    refine go ?_;refine Gg m5 (λw12 xq xs12 m5=>?_) (h1:=by(intro u hu;rcases Ah.1 hu with e|hu;subst e;rfl;rw[Af.1 hu];exact z.sl.one));have J:=J.mo xq;have H:=H.mo xq;have z:=z.mod xq Fw;have r:=r.o1 xq;refine go ?_;exact⟨(_,_),Hc,r,J,H,by assumption,z,by assumption,by omega,by omega⟩
   exact Jh
  refine Hk ?_ ?_
  ·refine aL [.int .i64 0,.slice none 0 0] (λb6 w13 e6 yq m6=>?_) (hR:=RX.mod);have g6:=r.ge e6;have n6_1:=J.ltb e6;have n6_2:=H.ltb e6;refine FC yq J H r λJ H r=>go ?_;refine Jx (e:=62) (sz:=5) rfl Ff RX.mod (λb7 w14 e7 yx m7=>?_);have g7:=r.ge e7;have n7_1:=J.ltb e7;have n7_2:=H.ltb e7;have n7_6:=m6.ltb e7;refine FQ yx J H m6 r λJ H m6 r=>go ?_;have z:=m7.own (enc:=Fi.cs) (B:=w.heap.size) (l:=[]) (sz:=5) (m:=0) g7 rfl Fg rfl (An rfl);refine Ht z (hv.ext r) (λhp w15 ht xo=>?_) (hR:=(.inr λw9 h9=>h9.mono (λk hk _ e=>by have h8:b7=k:=Am.inj hk;have h1:=J.lt;omega)));have J:=J.mod xo Fw;have H:=H.mod xo Fw;have m6:=m6.mod xo Fw;have r:=r.own xo F5;have z:=ht;have hne6:∀k,hp.ownBlock=some k->¬ Fv b6 k:=λk hk e=>z.ne_blk m6 rfl (hk.trans (congrArg some e));refine go ?_;refine dp (Mh (zs:=[.int .i64 0,.slice none 0 0]) (pl:=[(0,1),(1,1)]) (pv:=[(0,?a11_0),(1,?a11_1)]) (cs:=[?a11_0,?a11_1]) Ff Ff ?h11 ?f11) ?k11
   case h11=>refine⟨rfl,?_,rfl,?_,trivial⟩<;>(conv=>lhs;whnf)
   case f11=>simp [Hs,Gw,Ap,z.sl.cells,show(Value.int IntKind.i64 n).cells=⟨[I n]⟩ from rfl]
   refine go ?_;refine stA m6 (λw16 xu xs16 m6=>?_) (h1:=by(intro u hu;rcases Ah.1 hu with e|hu;subst e;rfl;rw[Af.1 hu];exact z.sl.one));have J:=J.mo xu;have H:=H.mo xu;have z:=z.mod xu Fw;have r:=r.o1 xu;refine go ?_;exact⟨(_,_),Hc,r,J,H,by assumption,z,by assumption,by omega,by omega⟩
  exact Jh
 rintro _ ⟨b4,hp⟩ w17 ⟨r,J,H,O,z,g4,hb14,hb24⟩;refine F8 (G:=Nat×Int×Value×List Fi) (λ(i,nx,vx,xs)=>[(1,vg),(2,va),(6,Fh b2 0),(8,Fh b4 0),(9,I ↑i)]) (λ(i,nx,vx,xs) w'=>Fq w w'/\Fp w' b1 [I n,vf] 56/\Fp w' b2 [I 0,.slice none 0 0] 56/\i<=gone.length/\xs.length<=fs.length/\(∀f∈xs,f∈fs)/\(gone=[]->xs=fs)/\Fp w' b4 [I nx,vx] 56/\Vc.Own Fi.cs 5 62 w.heap.size w' vx xs) (λ(i,nx,vx,xs)=>gone.length-i) (0,n,hp,fs) ⟨r,J,H,Ab _,Aa _,λf hf=>hf,λ_=>rfl,O,by simpa using z⟩ ?_;rintro _ ⟨i,nx,vx,xs⟩ w18 ⟨r,J,H,hi1,hxl1,hxs8,hge,O,z⟩;refine FM 3 1 (hg.ext r).sl ?_;refine Fk (λc2=>?_) λc2=>?_
 ·obtain⟨id0,hki⟩:∃id0,gone[i]?=some id0:=F7;obtain⟨B9,hj,hr,xk,Y⟩:=Rn z r.size;have yd:=xk _ _ _ O;refine F8 (G:=Nat×Value×List Fi) (λ(k,vl,l)=>[(1,vg),(2,va),(6,Fh b2 0),(8,Fh b4 0),(9,I ↑i),(10,vl),(11,I ↑k)]) (λ(k,vl,l) w'=>Fq w w'/\Fp w' b1 [I n,vf] 56/\Fp w' b2 [I 0,.slice none 0 0] 56/\Fp w' b4 [I nx,vx] 56/\Vc.Own Fi.cs 5 62 w.heap.size w' vx xs/\Sz B9 w'/\k<=xs.length/\l.length<=k/\(∀f∈l,f∈xs)/\Vc.Own Fi.cs 5 62 B9 w' vl l) (λ(k,vl,l)=>xs.length-k) (0,.slice none 0 0,[]) ⟨r,J,H,O,z,Y,Ab _,Aa _,λf hf=>(by cases hf),Vc.Own.nil⟩ ?_;rintro _ ⟨k,vl,l⟩ w19 ⟨r,J,H,O,z,Y,hk1,hll,hlm,hh⟩;refine go ?_;refine dv 62 5 (z.arr Fg).sl ?_;refine Fk (λc3=>?_) λc3=>?_
  ·obtain⟨g,hk⟩:∃g,xs[k]?=some g:=F7;refine Gt 101000100010 λw20 y0=>Lv y0 J H O z Y hh r λJ H O z Y hh r=>?_;refine go ?_;refine di 62 5 (z.arr Fg).sl rfl ((z.arr Fg).lt hk) (go ?_);refine dL rfl (λ_ hR=>((((z.arr Fg).ext hR).row hk).at rfl)) (FN 3 1 hg.sl (hg.lt hki) ?_);refine dL rfl (λ_ hR=>(((hg.ext (r.trans hR)).row hki).at0 rfl)) ?_;refine Fk (λc4=>?_) λc4=>?_
   ·refine go ?_;refine di 62 5 (z.arr Fg).sl rfl ((z.arr Fg).lt hk) (dq (Fx Ff rfl rfl ((z.arr Fg).row hk)) (lA 62 rfl λb8 w21 e8 yz m8=>?_));have g8:=r.ge e8;have n8_1:=J.ltb e8;have n8_2:=H.ltb e8;have n8_4:=O.ltb e8;have o8_hX:=z.ltb e8;have a8_hS:=Y.le;have o8_hl9:=hh.ltb e8;refine Lv yz J H O z Y hh r λJ H O z Y hh r=>G8 g hh m8 (λyt w22 xx xc=>?_) (hB:=Y.le);have J:=J.mod xc Fw;have H:=H.mod xc Fw;have O:=O.mod xc Fw;have z:=z.mod xc (by exact(λk hk e=>by have h1:=(hh.lt k e).1;have h2:=hr k hk;omega));have Y:=Y.mod xc Fw;have r:=r.own xc (λi hi=>(Ae hj (hh.lt i hi).1));have hh:=xx;clear m8;refine go ?_;exact⟨(k+1,yt,l++[g]),Ho,⟨r,J,H,O,z,Y,by omega,by simp;omega,M6 hlm (Ag hk),hh⟩,by simp only [];omega⟩
   refine go ?_;exact⟨(k+1,vl,l),Ho,⟨r,J,H,O,z,Y,by omega,by omega,hlm,hh⟩,by simp only [];omega⟩
  refine go ?_;refine dv 62 5 (hh.arr Fg).sl (go ?_);refine dv 62 5 (z.arr Fg).sl ?_;refine Fk (λc5=>?_) λc5=>?_
  ·refine go ?_;refine db (zs:=[.int .i64 0,.slice none 0 0]) (pl:=[(0,1),(1,1)]) (pv:=[]) (cs:=[.int .i64 0,.slice none 0 0]) ?_;refine Gg H (λw23 xf xs23 H=>?_);have J:=J.mo xf;have O:=O.mo xf;have z:=z.mod xf Fw;have Y:=Y.mod xf Fw;have hh:=hh.mod xf Fw;have r:=r.o1 xf;refine go ?_;refine I5 (u:=?v34) rfl rfl rfl rfl Ff rfl H.row ?h34 ?k34
   case h34=>conv=>lhs;whnf
   exact⟨_,rfl,r,0,.slice none 0 0,[],1,rfl,Vc.Own.nil,λe=>(by cases e)⟩
  refine go ?_;refine HL O (λw24 xa xs24 O=>?_) (hv:=by exact Gq.one hh.sl);have J:=J.mo xa;have H:=H.mo xa;have z:=z.mod xa Fw;have Y:=Y.mod xa Fw;have hh:=hh.mod xa Fw;have r:=r.o1 xa;refine go ?_;exact FL (i+1,nx,vl,l) ⟨r,J,H,by omega,by omega,λf hf=>hxs8 f (hlm f hf),λe=>absurd (show gone.length=0 by rw[e];rfl) Fe,O,hh.mono hj⟩
 refine F8 (G:=Nat×Int×Value×List Fi) (λ(j,nx,vx,xs)=>[(2,va),(6,Fh b2 0),(8,Fh b4 0),(12,I ↑j)]) (λ(j,nx,vx,xs) w'=>Fq w w'/\Fp w' b1 [I n,vf] 56/\Fp w' b2 [I 0,.slice none 0 0] 56/\j<=add.length/\j<=xs.length/\xs.length<=fs.length+j/\(∀f∈xs,f∈fs\/f∈add)/\(gone=[]->∀L,HA fs L<=HA xs L)/\Fp w' b4 [I nx,vx] 56/\Vc.Own Fi.cs 5 62 w.heap.size w' vx xs) (λ(j,nx,vx,xs)=>add.length-j) (0,nx,vx,xs) ⟨r,J,H,Ab _,Ab _,hxl1,λf hf=>.inl (hxs8 f hf),λe L=>(by rw[hge e];exact Aa _),O,z⟩ ?_;rintro _ ⟨j,nx,vx,xs⟩ w25 ⟨r,J,H,hj1,hjx,hxl1,hxs9,hcn,O,z⟩;refine FM 62 5 (ha.ext r).sl ?_;refine Fk (λc6=>?_) λc6=>?_
 ·obtain⟨f,hkj⟩:∃f,add[j]?=some f:=F7;have x0:=Ag hkj;have y4:=(had f x0).1;unfold Ge at y4;refine g0 ?_;refine wS (g0 ?_);refine GP (G:=Int) (λnx=>[(2,va),(6,Fh b2 0),(8,Fh b4 0),(12,I ↑j)]) (λnx w'=>Fq w w'/\Fp w' b1 [I n,vf] 56/\Fp w' b2 [I 0,.slice none 0 0] 56/\Vc.Own Fi.cs 5 62 w.heap.size w' vx xs/\Fp w' b4 [I nx,vx] 56) ?_ ?_
  ·refine Gt 101010000 λw26 yi=>Ga yi J H O z r λJ H O z r=>?_;refine FN 62 5 ha.sl (ha.lt hkj) ?_;refine go ?_;refine dL rfl (λ_ hR=>(((ha.ext (r.trans hR)).row hkj).at rfl)) (go ?_);refine dp (HY rfl rfl) ?_;refine Fk (λc7=>?_) λc7=>?_
   ·refine FN 62 5 ha.sl (ha.lt hkj) ?_;refine go ?_;refine dl rfl (((ha.ext r).row hkj).at rfl) (dp (HY rfl rfl) ?_);refine Fk (λc8=>?_) λc8=>?_
    ·refine go ?_;refine db (zs:=[.int .i64 0,.slice none 0 0]) (pl:=[(0,1),(1,1)]) (pv:=[]) (cs:=[.int .i64 0,.slice none 0 0]) ?_;refine Gg H (λw27 xt xs27 H=>?_);have J:=J.mo xt;have O:=O.mo xt;have z:=z.mod xt Fw;have r:=r.o1 xt;refine go ?_;refine I5 (u:=?v49) rfl rfl rfl rfl Ff rfl H.row ?h49 ?k49
     case h49=>conv=>lhs;whnf
     exact⟨_,rfl,r,0,.slice none 0 0,[],1,rfl,Vc.Own.nil,λe=>(by cases e)⟩
    have yf:∀k,vx.ownBlock=some k->¬ Fv b4 k:=λk hk e=>z.ne_blk O rfl (hk.trans (congrArg some e));refine FN 62 5 ha.sl (ha.lt hkj) ?_;refine go ?_;refine dl rfl (((ha.ext r).row hkj).at rfl) (go ?_);refine HL O (λw28 xp xs28 O=>?_) (hv:=by rfl);have J:=J.mo xp;have H:=H.mo xp;have z:=z.mod xp Fw;have r:=r.o1 xp;refine go ?_;exact⟨_,Hn,r,J,H,z,O⟩
   refine go ?_;exact⟨_,Hn,r,J,H,z,O⟩
  rintro _ nx w29 ⟨r,J,H,z,O⟩;refine F8 (G:=Nat) (λk=>[(2,va),(6,Fh b2 0),(8,Fh b4 0),(12,I ↑j),(13,I ↑k)]) (λk w'=>Fq w w'/\Fp w' b1 [I n,vf] 56/\Fp w' b2 [I 0,.slice none 0 0] 56/\Vc.Own Fi.cs 5 62 w.heap.size w' vx xs/\Fp w' b4 [I nx,vx] 56/\k<=xs.length) (λk=>xs.length-k) 0 ⟨r,J,H,z,O,Ab _⟩ ?_;rintro _ k w30 ⟨r,J,H,z,O,hk9⟩;refine wS ?_;refine GP (G:=Bool) (λbb=>[(2,va),(6,Fh b2 0),(8,Fh b4 0),(12,I ↑j),(13,I ↑k),(111,.bool bb)]) (λbb w'=>Fq w w'/\Fp w' b1 [I n,vf] 56/\Fp w' b2 [I 0,.slice none 0 0] 56/\Vc.Own Fi.cs 5 62 w.heap.size w' vx xs/\Fp w' b4 [I nx,vx] 56/\(bb=true->k<xs.length)) ?_ ?_
  ·refine wd 102100010010000100 λw31 yy=>Ga yy J H z O r λJ H z O r=>go ?_;refine dv 62 5 (z.arr Fg).sl ?_;refine FJ 100 (λc9=>?_) λc9=>?_
   ·obtain⟨g,hk⟩:∃g,xs[k]?=some g:=F7;refine go ?_;refine di 62 5 (z.arr Fg).sl rfl ((z.arr Fg).lt hk) (Gh rfl (λw' hR=>Fx Ff rfl rfl (((z.arr Fg).ext hR).row hk)) (FN 62 5 ha.sl (ha.lt hkj) ?_));refine Gh rfl (λw' hR=>Fx Ff rfl rfl ((ha.ext (r.trans hR)).row hkj)) (cP (Vd g f _) RX.ext λw32 yl=>Ga yl J H z O r λJ H z O r=>go ?_);exact⟨_,HW,r,J,H,z,O,λ_=>by omega⟩
   refine go ?_;exact⟨false,HW,r,J,H,z,O,λe=>(by cases e)⟩
  rintro _ bb w33 ⟨r,J,H,z,O,hbb⟩;refine wc (λxz=>?_) λxz=>?_
  ·have hk8:=hbb xz;refine go ?_;exact FL (k+1) ⟨r,J,H,z,O,by omega⟩
  obtain⟨B9,hj,hr,xk,Y⟩:=Rn z r.size;have yd:=xk _ _ _ O;refine g0 ?_;refine GP (G:=Value) (λhq=>[(2,va),(6,Fh b2 0),(8,Fh b4 0),(12,I ↑j),(13,I ↑k),(14,hq)]) (λhq w'=>Fq w w'/\Fp w' b1 [I n,vf] 56/\Fp w' b2 [I 0,.slice none 0 0] 56/\Vc.Own Fi.cs 5 62 w.heap.size w' vx xs/\Fp w' b4 [I nx,vx] 56/\Sz B9 w'/\Vc.Own Fi.cs 5 62 B9 w' hq (xs.take k++[f])) ?_ ?_
  ·refine KK (R:=Mod (λk=>B9<=k)) Ij I0 Ff [2,9] (.one 1 .p false (.one 2 .l false (.one 3 .p false (.one 4 .p false (.one 6 .p false (.one 7 .p false (.one 8 .p false (.one 9 .l false (.fork (.alt 0 false (.fork (.alt 5 false (.one 10 .x false (.one 11 .x false (.one 12 .p false .nil))) (.alt 10 false (.one 5 .x false (.one 11 .x false (.one 12 .p false .nil))) .stop))) (.alt 10 false (.one 0 .x false (.one 5 .x false (.one 11 .x false (.one 12 .p false .nil)))) .stop))))))))))) Ff Ff (λw34 xv=>?_);have y2:=FE xv;clear xv;refine HB y2 J H z O Y r λJ H z O Y r=>go ?_;refine dL rfl (λ_ hR=>((O.mod hR (λh=>by have h1:=yd;omega)).at rfl)) (go ?_);refine dp (HH (e:=62) (k:=5) Ff (z.arr Fg).sl rfl rfl rfl (Ab _) hk9) (FN 62 5 ha.sl (ha.lt hkj) ?_);refine go ?_;refine Gh rfl (λw' hR=>Fx Ff rfl rfl (((ha.ext r).mod hR (λy5 h=>by have h2:=Fu.base_lt ha Fo y5;omega)).row hkj)) (go ?_);refine Ji ?_;refine Hk ?_ ?_
   ·refine Jx (e:=62) (sz:=5) rfl Ff RX.mod (λb9 w35 e9 y7 m9=>?_);have g9:=r.ge e9;have n9_1:=J.ltb e9;have n9_2:=H.ltb e9;have n9_4:=O.ltb e9;have o9_hX:=z.ltb e9;have a9_hS:=Y.le;refine HB y7 J H z O Y r λJ H z O Y r=>go ?_;refine Ji ?_;refine Hk ?_ ?_
    ·have Z:=m9.own (enc:=Fi.cs) (B:=B9) (l:=[]) (sz:=5) (m:=0) (by have:=Y.le;omega) rfl Fg rfl (An rfl);refine Ip (e:=62) (sz:=5) (by':=56) rfl Ff Ff Fg Z ((z.arr Fg).slice (Ab _) hk9) rfl rfl (by intro x _ u hu;simp at hu;rcases hu with rfl|rfl|rfl|rfl|rfl<;>rfl) Gx Fo Y.le (.inr λw9 h9=>h9.mono (λk hk _=>(Z.lt k hk).1)) (λxy w36 hc h5=>?_);have J:=J.mod h5 Fw;have H:=H.mod h5 Fw;have z:=z.mod h5 (by exact(λk hk e=>by have h1:=(Z.lt k e).1;have h2:=hr k hk;omega));have O:=O.mod h5 Fw;have Y:=Y.mod h5 Fw;have r:=r.own h5 (λi hi=>(Ae hj (Z.lt i hi).1));have Z:=hc;refine go ?_;refine lA 62 rfl (λb10 w37 xb ym yh=>?_) (hR:=RX.mod);have g10:=r.ge xb;have n10_1:=J.ltb xb;have n10_2:=H.ltb xb;have n10_4:=O.ltb xb;have o10_hX:=z.ltb xb;have a10_hS:=Y.le;have o10_hM:=Z.ltb xb;refine Lv ym J H z O Y Z r λJ H z O Y Z r=>go ?_;refine G8 f Z yh (λhq w38 hc xi=>?_) (hB:=Y.le) (hR:=(.inr λw9 h9=>h9.mono (λk hk _=>(Z.lt k hk).1)));have J:=J.mod xi Fw;have H:=H.mod xi Fw;have z:=z.mod xi (by exact(λk hk e=>by have h1:=(Z.lt k e).1;have h2:=hr k hk;omega));have O:=O.mod xi Fw;have Y:=Y.mod xi Fw;have r:=r.own xi (λi hi=>(Ae hj (Z.lt i hi).1));have Z:=hc;clear yh;refine go ?_;exact⟨hq,HW,r,J,H,z,O,Y,by simpa using Z⟩
    refine Hk ?_ ?_
    ·refine lA 62 rfl (λyw w39 xg y6 xr=>?_) (hR:=RX.mod);have g11:=r.ge xg;have n11_1:=J.ltb xg;have n11_2:=H.ltb xg;have n11_4:=O.ltb xg;have n11_9:=m9.ltb xg;have o11_hX:=z.ltb xg;have a11_hS:=Y.le;refine Lv y6 J H z O Y m9 r λJ H z O Y m9 r=>go ?_;have Z:=m9.own (enc:=Fi.cs) (B:=B9) (l:=[]) (sz:=5) (m:=0) (by have:=Y.le;omega) rfl Fg rfl (An rfl);refine Ip (e:=62) (sz:=5) (by':=56) rfl Ff Ff Fg Z ((z.arr Fg).slice (Ab _) hk9) rfl rfl (by intro x _ u hu;simp at hu;rcases hu with rfl|rfl|rfl|rfl|rfl<;>rfl) Gx Fo Y.le (.inr λw9 h9=>h9.mono (λk hk _=>(Z.lt k hk).1)) (λxy w40 hc hw=>?_);have J:=J.mod hw Fw;have H:=H.mod hw Fw;have z:=z.mod hw (by exact(λk hk e=>by have h1:=(Z.lt k e).1;have h2:=hr k hk;omega));have O:=O.mod hw Fw;have Y:=Y.mod hw Fw;have xr:=xr.mod hw (by intro h;have h2:b9=yw:=Am.inj h;omega);have r:=r.own hw (λi hi=>(Ae hj (Z.lt i hi).1));have Z:=hc;refine go ?_;refine G8 f Z xr (λhq w41 hc xe=>?_) (hB:=Y.le) (hR:=(.inr λw9 h9=>h9.mono (λk hk _=>(Z.lt k hk).1)));have J:=J.mod xe Fw;have H:=H.mod xe Fw;have z:=z.mod xe (by exact(λk hk e=>by have h1:=(Z.lt k e).1;have h2:=hr k hk;omega));have O:=O.mod xe Fw;have Y:=Y.mod xe Fw;have r:=r.own xe (λi hi=>(Ae hj (Z.lt i hi).1));have Z:=hc;clear xr;refine go ?_;exact⟨hq,HW,r,J,H,z,O,Y,by simpa using Z⟩
    exact Jh
   refine Hk ?_ ?_
   ·refine lA 62 rfl (λyp w42 xm yr hz=>?_) (hR:=RX.mod);have g12:=r.ge xm;have n12_1:=J.ltb xm;have n12_2:=H.ltb xm;have n12_4:=O.ltb xm;have o12_hX:=z.ltb xm;have a12_hS:=Y.le;refine HB yr J H z O Y r λJ H z O Y r=>go ?_;refine Jx (e:=62) (sz:=5) rfl Ff RX.mod (λyv w43 xd yk yo=>?_);have g13:=r.ge xd;have n13_1:=J.ltb xd;have n13_2:=H.ltb xd;have n13_4:=O.ltb xd;have n13_12:=hz.ltb xd;have o13_hX:=z.ltb xd;have a13_hS:=Y.le;refine Lv yk J H z O Y hz r λJ H z O Y hz r=>go ?_;have Z:=yo.own (enc:=Fi.cs) (B:=B9) (l:=[]) (sz:=5) (m:=0) (by have:=Y.le;omega) rfl Fg rfl (An rfl);refine Ip (e:=62) (sz:=5) (by':=56) rfl Ff Ff Fg Z ((z.arr Fg).slice (Ab _) hk9) rfl rfl (by intro x _ u hu;simp at hu;rcases hu with rfl|rfl|rfl|rfl|rfl<;>rfl) Gx Fo Y.le (.inr λw9 h9=>h9.mono (λk hk _=>(Z.lt k hk).1)) (λxy w44 hc hy=>?_);have J:=J.mod hy Fw;have H:=H.mod hy Fw;have z:=z.mod hy (by exact(λk hk e=>by have h1:=(Z.lt k e).1;have h2:=hr k hk;omega));have O:=O.mod hy Fw;have Y:=Y.mod hy Fw;have hz:=hz.mod hy (by intro h;have h2:yv=yp:=Am.inj h;omega);have r:=r.own hy (λi hi=>(Ae hj (Z.lt i hi).1));have Z:=hc;refine go ?_;refine G8 f Z hz (λhq w45 hc xh=>?_) (hB:=Y.le) (hR:=(.inr λw9 h9=>h9.mono (λk hk _=>(Z.lt k hk).1)));have J:=J.mod xh Fw;have H:=H.mod xh Fw;have z:=z.mod xh (by exact(λk hk e=>by have h1:=(Z.lt k e).1;have h2:=hr k hk;omega));have O:=O.mod xh Fw;have Y:=Y.mod xh Fw;have r:=r.own xh (λi hi=>(Ae hj (Z.lt i hi).1));have Z:=hc;clear hz;refine go ?_;exact⟨hq,HW,r,J,H,z,O,Y,by simpa using Z⟩
   exact Jh
  rintro _ hq w46 ⟨r,J,H,z,O,Y,Z⟩;refine go ?_;refine dp (HH (e:=62) (k:=5) Ff (z.arr Fg).sl rfl rfl rfl hk9 (Aa _)) ?_;refine Ip (e:=62) (sz:=5) (by':=56) rfl Ff Ff Fg Z ((z.arr Fg).slice hk9 (Aa _)) rfl rfl (by intro x _ u hu;simp at hu;rcases hu with rfl|rfl|rfl|rfl|rfl<;>rfl) Gx Fo Y.le (.inl rfl) (λyu w47 hc xj=>?_);have J:=J.mod xj Fw;have H:=H.mod xj Fw;have z:=z.mod xj (by exact(λk hk e=>by have h1:=(Z.lt k e).1;have h2:=hr k hk;omega));have O:=O.mod xj Fw;have Y:=Y.mod xj Fw;have r:=r.own xj (λi hi=>(Ae hj (Z.lt i hi).1));have Z:=hc;refine go ?_;refine HL O (λw48 xl xs48 O=>?_) (hv:=by exact Gq.one Z.sl);have J:=J.mo xl;have H:=H.mo xl;have z:=z.mod xl Fw;have Z:=Z.mod xl Fw;have r:=r.o1 xl;refine go ?_;exact FL (j+1,nx,yu,xs.take k++[f]++xs.drop k) ⟨r,J,H,by omega,by simp;omega,by simp;omega,Yca hxs9 x0,λe L=>Ae (hcn e L) (X3g xs k f L),O,by simpa using Z.mono hj⟩
 refine go ?_;refine dq (Fx (k:=2) Ff rfl rfl O.row) (cG (Rl nx xs vx _ (z.arr Fg) Fe (λf hf=>(hxs9 f hf).elim (hs f) (λh9=>(had f h9).2))) RX.all λu49 w49 y1 yc=>?_);have hsz49:=r.size;refine FQ y1 H O z r λH O z r=>?_;obtain⟨b8,rfl,yn⟩:=yc;refine Gb (λyb=>?_) λyb=>?_
 ·refine go ?_;refine db (zs:=[.int .i64 0,.slice none 0 0]) (pl:=[(0,1),(1,1)]) (pv:=[]) (cs:=[.int .i64 0,.slice none 0 0]) ?_;refine Gg H (λw50 xw xs50 H=>?_);have O:=O.mo xw;have z:=z.mod xw Fw;have r:=r.o1 xw;refine go ?_;refine I5 (u:=?v81) rfl rfl rfl rfl Ff rfl H.row ?h81 ?k81
  case h81=>conv=>lhs;whnf
  exact⟨_,rfl,r,0,.slice none 0 0,[],1,rfl,Vc.Own.nil,λe=>(by cases e)⟩
 have yg:b8=true:=by simpa using yb
 have yf:∀k,vx.ownBlock=some k->¬ Fv b2 k:=λk hk e=>z.ne_blk H rfl (hk.trans (congrArg some e));refine go ?_;refine dq (Fx (k:=2) Ff rfl rfl O.row) (Gg H (λw51 ye xs51 H=>?_) (h1:=by(intro u hu;rcases Ah.1 hu with e|hu;subst e;rfl;rw[Af.1 hu];exact z.sl.one)));have z:=z.mod ye Fw;have r:=r.o1 ye;refine go ?_;refine I5 (u:=?v84) rfl rfl rfl rfl Ff rfl H.row ?h84 ?k84
 case h84=>conv=>lhs;whnf
 exact⟨_,rfl,r,nx,vx,xs,0,rfl,z,λ_=>⟨yn.1 yg,by omega,λe=>Xhs (hcn e),hxs9⟩⟩
structure Tr where
 id:Int
 v:Value
 l:List Cell
@[reducible] def Tr.cs (t:Tr):List Value:=[I t.id,t.v]
def VS (bs bx bl bm:Nat)(n:Int)(vf vT:Value)(dead:Bool)(T:List Tr)(id:Int)(w:World)(h:Fp w bs [Fh bx 0,Fh bl 0,I n,vf,vT,Fh bm 0,B dead] 69)(hT:Fu Tr.cs 2 w vT T)(hE:∀t∈T,Fu Cell.cs 4 w t.v t.l)(hl:T.length<=100000000) :
  Gi 214 [Fh bs 0,I id] w λu w'=>∃l,Fu Cell.cs 4 w' u l/\(l=[]\/∃t∈T,l=t.l):=by
 refine cE Tryz.func214 λr=>?_;have hm:=h;refine F8 (G:=Nat) (λk=>[(0,Fh bs 0),(1,I id),(5,I ↑k)]) (λk w'=>Fq w w'/\k<=T.length) (λk=>T.length-k) 0 ⟨r,Ab _⟩ ?_;rintro _ k w1 ⟨r,hk1⟩;refine go ?_;refine df 4 (rfl) (dl rfl ((hm.ext r).at rfl) (dv 218 2 (hT.ext r).sl ?_));refine Fk (λH=>?_) λH=>?_
 ·obtain⟨t,hk⟩:∃t,T[k]?=some t:=F7;refine go ?_;refine df 4 (rfl) (dl rfl ((hm.ext r).at rfl) (FN 218 2 hT.sl (hT.lt hk) ?_));refine go ?_;refine dl rfl (((hT.ext r).row hk).at rfl) ?_;refine Fk (λz=>?_) λz=>?_
  ·refine go ?_;refine df 4 (rfl) (dl rfl ((hm.ext r).at rfl) (FN 218 2 hT.sl (hT.lt hk) ?_));refine go ?_;refine dl rfl (((hT.ext r).row hk).at rfl) (go ?_);exact⟨_,rfl,r,t.l,(hE t (Ag hk)).ext r,.inr ⟨t,Ag hk,rfl⟩⟩
  refine go ?_;exact FL (k+1) ⟨r,by omega⟩
 refine go ?_;exact⟨_,rfl,r,[],(Vc.Own.nil (T:=0) (B:=0)).arr Fg,.inl rfl⟩
def Xz0 (bs bx bl bm:Nat)(n:Int)(vf vT:Value)(dead:Bool)(fs:List Fi)(T:List Tr)(p:List Fi)(vp:Value)(lev:Int)(w:World)(h:Fp w bs [Fh bx 0,Fh bl 0,I n,vf,vT,Fh bm 0,B dead] 69)(hv:Fu Fi.cs 5 w vf fs)(hfl:fs.length<=100000000)(hT:Fu Tr.cs 2 w vT T)(hE:∀t∈T,Fu Cell.cs 4 w t.v t.l)(hl:T.length<=100000000)(hp:Fu Fi.cs 5 w vp p)(hpl:p.length<=10000)(hlev:-10<=lev/\lev<=10)(hb:∀t∈T,t.l.length<=4096) :
  Gi 143 [Fh bs 0,vp,I lev] w λu w'=>∃l,Vc.Own Cell.cs 4 79 w.heap.size w' u l/\l.length<=40960000/\∀c∈l,∃t∈T,c∈t.l:=by
 refine cE Tryz.func143 λr=>?_;have hm:=h;refine F8 (G:=Nat×Value×List Cell) (λ(k,vl,l)=>[(0,Fh bs 0),(1,vp),(2,I lev),(6,.slice none 0 0),(7,vl),(8,I ↑k)]) (λ(k,vl,l) w'=>Fq w w'/\k<=p.length/\l.length<=4096*k/\(∀c∈l,∃t∈T,c∈t.l)/\Fu Cell.cs 4 w' vl l) (λ(k,vl,l)=>p.length-k) (0,.slice none 0 0,[]) ⟨r,Ab _,Ab _,λc Y=>(by cases Y),(Vc.Own.nil (T:=0) (B:=0)).arr Fg⟩ ?_;rintro _ ⟨k,vl,l⟩ w1 ⟨r,hk1,hll1,hlT,hA⟩;refine FM 62 5 (hp.ext r).sl ?_;refine Fk (λc1=>?_) λc1=>?_
 ·obtain⟨f,hk⟩:∃f,p[k]?=some f:=F7;refine FN 62 5 hp.sl (hp.lt hk) ?_;refine go ?_;refine dl rfl (((hp.ext r).row hk).at rfl) (cG (VS bs bx bl bm n vf vT dead T _ _ (hm.ext r) (hT.ext r) (λt ht=>(hE t ht).ext r) hl) RX.all λvc w2 x2 h5=>?_);have hsz2:=r.size;refine Fy x2 hA r λhA r=>?_;obtain⟨lc,hC,hg⟩:=h5;have hcb:lc.length<=4096:=hg.elim (λe=>by rw[e];exact Ab _) (λ⟨t,ht,e⟩=>by rw[e];exact hb t ht);refine cG (Xl l lc vl vc _ hA hC Fe) RX.all λvm w3 x3 hw=>?_;have hsz3:=r.size;refine Fy x3 hA r λhA r=>?_;obtain⟨m2,hM,h7,J⟩:=hw;have h6:=hM.arr Fg;refine go ?_;exact FL (k+1,vm,m2) ⟨r,by omega,by omega,λc Y=>(J c Y).elim (hlT c) (λh9=>hg.elim (λe=>by rw[e]at h9;cases h9) (λ⟨t,ht,e⟩=>⟨t,ht,by rw[<-e];exact h9⟩)),h6⟩
 refine Gj (Tw l vl _ hA Fe) λhq w4 x4 hz=>?_;have hh:=r.size;have r:=r.trans x4;obtain⟨l2,hr,hll,hy,hln⟩:=hz;have z:=hr.mono hh;obtain⟨B9,hf,hj,hbl9,H⟩:=Rn z r.size;refine F8 (G:=Nat×Value×List Cell) (λ(k,vo,m)=>[(0,Fh bs 0),(2,I lev),(6,.slice none 0 0),(7,hq),(9,vo),(10,I ↑k)]) (λ(k,vo,m) w'=>Fq w w'/\Vc.Own Cell.cs 4 79 w.heap.size w' hq l2/\Sz B9 w'/\k<=l2.length/\m.length<=k/\(∀c∈m,c∈l2)/\Vc.Own Cell.cs 4 79 B9 w' vo m) (λ(k,vo,m)=>l2.length-k) (0,.slice none 0 0,[]) ⟨r,z,H,Ab _,Aa _,λc Y=>(by cases Y),Vc.Own.nil⟩ ?_;rintro _ ⟨k,vo,m⟩ w5 ⟨r,z,H,hk1,h7,J,ho⟩;refine go ?_;refine dv 79 4 (z.arr Fg).sl ?_;refine Fk (λc2=>?_) λc2=>?_
 ·obtain⟨c,hk⟩:∃c,l2[k]?=some c:=F7;refine go ?_;refine di 79 4 (z.arr Fg).sl rfl ((z.arr Fg).lt hk) (go ?_);refine dl rfl (((z.arr Fg).row hk).at rfl) (go ?_);refine IR 40 rfl (λc3=>?_) (λc3=>?_)
  ·refine go ?_;refine GU rfl (go ?_);refine di 79 4 (z.arr Fg).sl rfl ((z.arr Fg).lt hk) (dq (Fx Ff rfl rfl ((z.arr Fg).row hk)) (lA 79 rfl λb1 w6 e1 x6 m1=>?_));have g1:=r.ge e1;have o1_hL:=z.ltb e1;have a1_hS:=H.le;have o1_ho:=ho.ltb e1;refine FQ x6 z H ho r λz H ho r=>G8 c ho m1 (λZ w7 O x7=>?_) (hB:=H.le);have z:=z.mod x7 (by exact(λk hk e=>by have h1:=(ho.lt k e).1;have h2:=hj k hk;omega));have H:=H.mod x7 Fw;have r:=r.own x7 (λi hi=>(Ae hf (ho.lt i hi).1));have ho:=O;clear m1;refine go ?_;exact⟨(k+1,Z,m++[c]),HW,⟨r,z,H,by omega,by simp;omega,M6 J (Ag hk),ho⟩,by simp only [];omega⟩
  refine go ?_;refine di 79 4 (z.arr Fg).sl rfl ((z.arr Fg).lt hk) (go ?_);refine dl rfl (((z.arr Fg).row hk).at rfl) (cG (X3f bs bx bl bm n vf vT dead fs lev c.key _ (hm.ext r) (hv.ext r) hfl hlev) RX.all λu8 w8 x8 h8=>?_);have hsz8:=r.size;refine FQ x8 z H ho r λz H ho r=>?_;obtain⟨b9,rfl⟩:=h8;refine Gb (λc4=>?_) λc4=>?_
  ·refine go ?_;refine di 79 4 (z.arr Fg).sl rfl ((z.arr Fg).lt hk) (dq (Fx Ff rfl rfl ((z.arr Fg).row hk)) (lA 79 rfl λb2 w9 e2 x9 m2=>?_));have g2:=r.ge e2;have o2_hL:=z.ltb e2;have a2_hS:=H.le;have o2_ho:=ho.ltb e2;refine FQ x9 z H ho r λz H ho r=>G8 c ho m2 (λZ w10 O ha=>?_) (hB:=H.le);have z:=z.mod ha (by exact(λk hk e=>by have h1:=(ho.lt k e).1;have h2:=hj k hk;omega));have H:=H.mod ha Fw;have r:=r.own ha (λi hi=>(Ae hf (ho.lt i hi).1));have ho:=O;clear m2;refine go ?_;exact⟨(k+1,Z,m++[c]),HW,⟨r,z,H,by omega,by simp;omega,M6 J (Ag hk),ho⟩,by simp only [];omega⟩
  refine go ?_;exact⟨(k+1,vo,m),HW,⟨r,z,H,by omega,by omega,J,ho⟩,by simp only [];omega⟩
 refine go ?_;exact⟨_,rfl,r,m,ho.mono hf,by omega,λc Y=>hlT c (hy c (J c Y))⟩
def X3h (bs bx bl bm:Nat)(n:Int)(vf vT:Value)(dead:Bool)(T:List Tr)(id:Int)(w:World)(h:Fp w bs [Fh bx 0,Fh bl 0,I n,vf,vT,Fh bm 0,B dead] 69)(hT:Fu Tr.cs 2 w vT T)(hE:∀t∈T,t.v.oneCell'=true)(hl:T.length<=100000000)(hbT:T≠[]->(base vT).1≠bs) :
  G4 144 [Fh bs 0,I id] w (Fv bs) λu w'=>u=.tuple #[]/\∃vT' T',Fp w' bs [Fh bx 0,Fh bl 0,I n,vf,vT',Fh bm 0,B dead] 69/\Vc.Own Tr.cs 2 218 w.heap.size w' vT' T'/\T'.length<=T.length/\∀t∈T',t∈T:=by
 refine cM Tryz.func144 (Fv bs) λr=>?_;have hm:=h;refine F8 (G:=Nat×Value×List Tr) (λ(k,vo,m)=>[(0,Fh bs 0),(1,I id),(4,vo),(5,I ↑k)]) (λ(k,vo,m) w'=>Mod (Fv bs) w w'/\Fp w' bs [Fh bx 0,Fh bl 0,I n,vf,vT,Fh bm 0,B dead] 69/\k<=T.length/\m.length<=k/\(∀t∈m,t∈T)/\Vc.Own Tr.cs 2 218 w.heap.size w' vo m) (λ(k,vo,m)=>T.length-k) (0,.slice none 0 0,[]) ⟨r,hm,Ab _,Aa _,λc hc=>(by cases hc),Vc.Own.nil⟩ ?_;rintro _ ⟨k,vo,m⟩ w1 ⟨r,hm,hk1,hml,hmm,ho⟩;refine go ?_;refine df 4 (rfl) (FM 218 2 (hT.mod r hbT).sl ?_);refine Fk (λc1=>?_) λc1=>?_
 ·obtain⟨t,hk⟩:∃t,T[k]?=some t:=F7;refine go ?_;refine df 4 (rfl) (go ?_);refine di 218 2 (hT.mod r hbT).sl rfl ((hT.mod r hbT).lt hk) (go ?_);refine dl rfl (((hT.mod r hbT).row hk).at rfl) ?_;refine Fk (λc2=>?_) λc2=>?_
  ·refine go ?_;refine df 4 (rfl) (go ?_);refine di 218 2 (hT.mod r hbT).sl rfl ((hT.mod r hbT).lt hk) (dq (Fx Ff rfl rfl ((hT.mod r hbT).row hk)) (lA 218 rfl λb1 w2 e1 x2 m1=>?_));have g1:=r.ge e1;have a1_hm:=hm.lt;have o1_ho:=ho.ltb e1;refine FC x2 hm ho r λhm ho r=>G8 t ho m1 (λO w3 z Z=>?_) (h1:=(by intro x Y u hu;rw[Af.1 Y]at hu;simp at hu;rcases hu with rfl|rfl;rfl;exact hE t (Ag hk)));have hm:=hm.mod Z Fw;have r:=r.own Z F5;have ho:=z;clear m1;refine go ?_;exact⟨(k+1,O,m++[t]),Hn,⟨r,hm,by omega,by simp;omega,M6 hmm (Ag hk),ho⟩,by simp only [];omega⟩
  refine go ?_;exact⟨(k+1,vo,m),Hn,⟨r,hm,by omega,by omega,hmm,ho⟩,by simp only [];omega⟩
 refine go ?_;refine df 4 (rfl) ?_;refine Kc (b:=bs) (o:=4) (v:=?v19) rfl rfl ?h19 ?n19 Ff (hm) ?o19 (.inl rfl) (λw4 x4 xs4 H=>?k19)
 case h19=>conv=>lhs;whnf
 case n19=>exact ho.sl.one
 case o19=>exact An rfl
 have r:=r.own x4 F5;dsimp only [Gw,AU,AP,AZ]at H;have J:=ho.mod x4 (λk hk e=>ho.ne_blk hm rfl (hk.trans (congrArg some e)));refine go ?_;refine Ig (H6 rfl ?_);exact⟨_,rfl,r,rfl,vo,m,H,J,by omega,hmm⟩
def G9 (G:Nat->Prop)(w0:World)(bm n:Nat)(w:World):Prop:=w0.heap.size<=w.heap.size/\FV G w0 w bm/\∃vM M,Fp w bm [vM] 215/\Vc.Own Cell.cs 4 79 0 w vM M/\(∀k,vM.ownBlock=some k->FV G w0 w k)/\M.length<=n/\∀c∈M,Gl c=true
section
variable {G:Nat->Prop}{w0 w w':World}{bm n:Nat}
def G9.mod {S:Nat->Prop}(h:G9 G w0 bm n w)(m:Vc.Mod S w w')(hS:∀k,G0 w [215,79] k->¬ S k):G9 G w0 bm n w':=by
 obtain⟨h0,r,vM,M,h1,h2,h3,h4⟩:=h;exact⟨Ae h0 m.size,GZ m.size _ r,vM,M,h1.mod m (hS bm ⟨_,_,h1,by decide⟩),h2.mod m (λk hk=>hS k (KU h2 Fo hk)),λk hk=>GZ m.size _ (h3 k hk),h4⟩
def G9.ext (h:G9 G w0 bm n w)(x:Fq w w'):G9 G w0 bm n w':=h.mod x (λ_ _ h=>h)
instance : Up w w' (G9 G w0 bm n w) (G9 G w0 bm n w'):=⟨λx h=>h.ext x⟩
def G9.ty (h:G9 G w0 bm n w):G0 w [215] bm:=by
 obtain⟨_,_,vM,M,h1,_⟩:=h;exact⟨_,_,h1,by decide⟩
def G9.ne {b T:Nat}{cs:List Value}(h:G9 G w0 bm n w)(hb:Fp w b cs T)(hT:Eg T [215]=false):¬ Fv bm b:=λe=>Fp.noTy hb hT (by rw[show b=bm from e];exact h.ty)
def G9.neO {α:Type}{enc:α->List Value}{sz T B:Nat}{v:Value}{l:List α}(h:G9 G w0 bm n w)(ho:Vc.Own enc sz T B w v l)(hT:Eg T [215]=false):∀k,v.ownBlock=some k->¬ Fv bm k:=λk hk e=>H4 ho hT hk (by rw[show k=bm from e];exact h.ty)
def G9.neT {ts:List Nat}{k:Nat}(h:G9 G w0 bm n w)(hk:G0 w ts k)(hT:ts.all (λt=>!Eg t [215])=true):¬ Fv bm k:=λe=>G0.ne hk hT (by rw[show k=bm from e];exact h.ty)
def G9.more {q:Nat}(h:G9 G w0 bm n w)(hq:n<=q):G9 G w0 bm q w:=by
 obtain⟨h0,r,vM,M,h1,h2,h3,h4,z⟩:=h;exact⟨h0,r,vM,M,h1,h2,h3,by omega,z⟩
end
variable {M:List Cell}
def RA {c d:Cell}{k:Nat}(hM:∀c∈M,Gl c=true)(hc:Gl c=true)(h:d∈M.take k++[c]++AZ k (AP M.length M)):Gl d=true:=by
 rcases Al.1 h with h|h
 ·rcases Al.1 h with h|h
  ·exact hM d (Cr h)
  ·rw[Af.1 h];exact hc
 ·exact hM d (Cr (C3 h))
def X86 (G:Nat->Prop)(w0:World)(bm n:Nat)(c:Cell)(w:World)(h:G9 G w0 bm n w)(hn:n<=1000000000) :
  G4 211 [Fh bm 0,c.v] w (Fv bm) λu w'=>(∃b,u=B b)/\G9 G w0 bm (n+1) w':=by
 refine cE Tryz.func211 λr=>?_;obtain⟨h0,hg,vM,M,hm,hO,xo,hMl,hh⟩:=h;have hv:=hO.arr (enc:=Cell.cs) Fg;have hbx:=hm.lt;have hne:M≠[]->(base vM).1≠bm:=λhl e=>hO.ne_blk hm rfl ((hO.base_block hl).trans (congrArg some e));refine go ?_;refine G1 rfl rfl rfl RX.all (λb1 w1 e1 x1 J=>?_);have g1:=r.ge e1;have r:=r.trans x1;refine go ?_;refine dq (Fx (k:=4) Ff rfl rfl J.row) (cP (RH c _) RX.all λw2 x2=>Fy x2 J r λJ r=>?_);refine Gb (λc1=>?_) λc1=>?_
 ·refine go ?_;exact⟨_,rfl,r.mono (λ_ h _=>h.elim),⟨_,rfl⟩,Ae h0 r.size,GZ r.size _ hg,vM,M,hm.ext r,hO.ext r,λk hk=>GZ r.size _ (xo k hk),by omega,hh⟩
 refine g0 ?_;refine wS (g0 ?_);refine GP (G:=Nat) (λk=>[(0,Fh bm 0),(3,Fh b1 0),(4,.bool false),(5,I ↑k)]) (λk w'=>Fq w w'/\Fp w' b1 c.cs 79/\k<=M.length) ?_ ?_
 ·refine F8 (G:=Nat) (λk=>[(0,Fh bm 0),(3,Fh b1 0),(4,.bool false),(5,I ↑k)]) (λk w'=>Fq w w'/\Fp w' b1 c.cs 79/\k<=M.length) (λk=>M.length-k) 0 ⟨r,J,Ab _⟩ ?_;rintro _ k w3 ⟨r,J,hk1⟩;refine Gt 1021100100000010000 λw4 x4=>Fy x4 J r λJ r=>?_;refine go ?_;refine dL rfl (λ_ hR=>((hm.ext (r.trans hR)).at rfl)) (dv 79 4 hv.sl ?_);refine FJ 17 (λc2=>?_) λc2=>?_
  ·obtain⟨d,hk⟩:∃d,M[k]?=some d:=F7;refine go ?_;refine dL rfl (λ_ hR=>((hm.ext (r.trans hR)).at rfl)) (FN 79 4 hv.sl (hv.lt hk) ?_);refine Gh rfl (λw' hR=>Fx Ff rfl rfl ((hv.ext (r.trans hR)).row hk)) (Gh rfl (λw' hR=>Fx (k:=4) Ff rfl rfl (J.ext hR).row) (cP (Rz d c _) RX.ext λw5 x5=>Fy x5 J r λJ r=>?_));refine Gb (λc3=>?_) λc3=>?_
   ·refine go ?_;exact FL (k+1) ⟨r,J,by omega⟩
   refine go ?_;exact⟨k,Hn,r,J,hk1⟩
  refine go ?_;refine GS rfl (go ?_);exact⟨k,Hn,r,J,hk1⟩
 rintro _ k w6 ⟨r,J,hk1⟩;refine Gt 1001010001000000101000100000010000 λZ x7=>Fy x7 J r λJ r=>?_;refine go ?_;refine dL rfl (λ_ hR=>((hm.ext (r.trans hR)).at rfl)) (dv 79 4 hv.sl ?_);refine FJ 37 (λc4=>?_) λc4=>?_
 ·obtain⟨d,hk⟩:∃d,M[k]?=some d:=F7;refine go ?_;refine dL rfl (λ_ hR=>((hm.ext (r.trans hR)).at rfl)) (FN 79 4 hv.sl (hv.lt hk) ?_);refine go ?_;refine dL rfl (λ_ hR=>(((hv.ext (r.trans hR)).row hk).at rfl)) (go ?_);refine dp (KI rfl rfl) ?_;refine FJ 50 (λc5=>?_) λc5=>?_
  ·refine go ?_;refine dL rfl (λ_ hR=>((hm.ext (r.trans hR)).at rfl)) (FN 79 4 hv.sl (hv.lt hk) ?_);refine go ?_;refine dL rfl (λ_ hR=>(((hv.ext (r.trans hR)).row hk).at rfl)) ?_;refine Fk (λc6=>?_) λc6=>?_
   ·refine go ?_;exact⟨_,rfl,r.mono (λ_ h _=>h.elim),⟨_,rfl⟩,Ae h0 r.size,GZ r.size _ hg,vM,M,hm.ext r,hO.ext r,λk hk=>GZ r.size _ (xo k hk),by omega,hh⟩
   refine g0 ?_;refine GP (G:=Value) (λvn=>[(0,Fh bm 0),(4,.bool false),(5,I ↑k),(6,vn)]) (λvn w'=>Fq w w'/\Vc.Own Cell.cs 4 79 w.heap.size w' vn (M.take k++[c])) ?_ ?_
   ·have O:=r;have hD:w.heap.size<=Z.heap.size:=r.size;have Y:=(hm.ext r);have ha:=(hv.ext r);have H:=J;refine KK (R:=Mod (Im Z.heap.size)) (Far.refl _) Far.trans Ff [4,8] (.one 1 .p false (.one 2 .p false (.one 3 .p false (.one 4 .l false (.one 5 .p false (.one 6 .p false (.one 8 .l false (.fork (.alt 0 false (.fork (.alt 7 false (.one 9 .x false (.one 10 .x false (.one 11 .p false .nil))) (.alt 9 false (.one 7 .x false (.one 10 .x false (.one 11 .p false .nil))) .stop))) (.alt 9 false (.one 0 .x false (.one 7 .x false (.one 10 .x false (.one 11 .p false .nil)))) .stop)))))))))) Ff Ff (λw8 xv=>?_);have x8:=FE xv;clear xv;refine Fy x8 J r λJ r=>?_;have hs:Mod (Im Z.heap.size) Z w8:=Far.of_ext x8;refine go ?_;refine dL rfl (λ_ hR=>((Y.far (hs.own hR (λ_ h _=>h))).at rfl)) (go ?_);refine dp (HH (e:=79) (k:=4) Ff hv.sl rfl rfl rfl Fe Fe) (go ?_);refine Gh rfl (λw' hR=>Fx (k:=4) Ff rfl rfl (H.far (hs.own hR (λ_ h _=>h))).row) (go ?_);refine Ji ?_;refine Hk ?_ ?_
    ·refine Jx (e:=79) (sz:=4) rfl Ff RX.far (λb2 w9 e2 x9 m2=>?_);have g2:=r.ge e2;have n2_1:=J.ltb e2;have gs2:Z.heap.size<=b2:=by have:=hs.size;omega
     refine FC x9 J r hs λJ r hs=>go ?_;refine Ji ?_;refine Hk ?_ ?_
     ·have ho:=m2.own (enc:=Cell.cs) (B:=Z.heap.size) (l:=[]) (sz:=4) (m:=0) gs2 rfl Fg rfl (An rfl);refine Ip (e:=79) (sz:=4) (by':=48) rfl Ff Ff Fg ho (((hv.ext r)).slice (Ab _) hk1) rfl rfl (by intro x _ u hu;simp at hu;rcases hu with rfl|rfl|rfl|rfl<;>rfl) Gx Fo hs.size (.inr (Far.own ho (Aa _))) (λvp w10 z xf=>?_);have hs:=hs.own xf F5;have J:=J.mod xf (by intro h;have h1:=(ho.lt _ h).1;have h2:=H.lt;omega);have r:=r.own xf (λi hi=>(by have h1:=(ho.lt i hi).1;have:=O.size;omega));have ho:=z;refine go ?_;refine lA 79 rfl (λb3 w11 e3 yd m3=>?_) (hR:=RX.far);have g3:=r.ge e3;have n3_1:=J.ltb e3;have gs3:Z.heap.size<=b3:=by have:=hs.size;omega
      refine FQ yd J ho r hs λJ ho r hs=>go ?_;refine G8 c ho m3 (λvq w12 z xa=>?_) (hR:=(.inr (Far.own ho (Aa _))));have hs:=hs.own xa F5;have J:=J.mod xa (by intro h;have h1:=(ho.lt _ h).1;have h2:=H.lt;omega);have r:=r.own xa (λi hi=>(by have h1:=(ho.lt i hi).1;have:=O.size;omega));have ho:=z;clear m3;refine go ?_;clear hs O Y ha H;refine go ?_;exact⟨vq,Hn,r,(by simpa using ho:Vc.Own Cell.cs 4 79 _ _ _ (M.take k++[c])).mono hD⟩
     refine Hk ?_ ?_
     ·refine lA 79 rfl (λb4 w13 e4 yn m4=>?_) (hR:=RX.far);have g4:=r.ge e4;have n4_1:=J.ltb e4;have n4_2:=m2.ltb e4;have gs4:Z.heap.size<=b4:=by have:=hs.size;omega
      refine FQ yn J m2 r hs λJ m2 r hs=>go ?_;have ho:=m2.own (enc:=Cell.cs) (B:=Z.heap.size) (l:=[]) (sz:=4) (m:=0) gs2 rfl Fg rfl (An rfl);refine Ip (e:=79) (sz:=4) (by':=48) rfl Ff Ff Fg ho (((hv.ext r)).slice (Ab _) hk1) rfl rfl (by intro x _ u hu;simp at hu;rcases hu with rfl|rfl|rfl|rfl<;>rfl) Gx Fo hs.size (.inr (Far.own ho (Aa _))) (λvp w14 z hr=>?_);have hs:=hs.own hr F5;have J:=J.mod hr (by intro h;have h1:=(ho.lt _ h).1;have h2:=H.lt;omega);have m4:=m4.mod hr (by intro h;have h2:b2=b4:=Am.inj h;omega);have r:=r.own hr (λi hi=>(by have h1:=(ho.lt i hi).1;have:=O.size;omega));have ho:=z;refine go ?_;refine G8 c ho m4 (λvq w15 z h6=>?_) (hR:=(.inr (Far.own ho (Aa _))));have hs:=hs.own h6 F5;have J:=J.mod h6 (by intro h;have h1:=(ho.lt _ h).1;have h2:=H.lt;omega);have r:=r.own h6 (λi hi=>(by have h1:=(ho.lt i hi).1;have:=O.size;omega));have ho:=z;clear m4;refine go ?_;clear hs O Y ha H;refine go ?_;exact⟨vq,Hn,r,(by simpa using ho:Vc.Own Cell.cs 4 79 _ _ _ (M.take k++[c])).mono hD⟩
     exact Jh
    refine Hk ?_ ?_
    ·refine lA 79 rfl (λb5 w16 e5 yy m5=>?_) (hR:=RX.far);have g5:=r.ge e5;have n5_1:=J.ltb e5;have gs5:Z.heap.size<=b5:=by have:=hs.size;omega
     refine FC yy J r hs λJ r hs=>go ?_;refine Jx (e:=79) (sz:=4) rfl Ff RX.far (λb6 w17 e6 y2 m6=>?_);have g6:=r.ge e6;have n6_1:=J.ltb e6;have n6_5:=m5.ltb e6;have yj:Z.heap.size<=b6:=by have:=hs.size;omega
     refine FQ y2 J m5 r hs λJ m5 r hs=>go ?_;have ho:=m6.own (enc:=Cell.cs) (B:=Z.heap.size) (l:=[]) (sz:=4) (m:=0) yj rfl Fg rfl (An rfl);refine Ip (e:=79) (sz:=4) (by':=48) rfl Ff Ff Fg ho (((hv.ext r)).slice (Ab _) hk1) rfl rfl (by intro x _ u hu;simp at hu;rcases hu with rfl|rfl|rfl|rfl<;>rfl) Gx Fo hs.size (.inr (Far.own ho (Aa _))) (λvp w18 z hw=>?_);have hs:=hs.own hw F5;have J:=J.mod hw (by intro h;have h1:=(ho.lt _ h).1;have h2:=H.lt;omega);have m5:=m5.mod hw (by intro h;have h2:b6=b5:=Am.inj h;omega);have r:=r.own hw (λi hi=>(by have h1:=(ho.lt i hi).1;have:=O.size;omega));have ho:=z;refine go ?_;refine G8 c ho m5 (λvq w19 z xb=>?_) (hR:=(.inr (Far.own ho (Aa _))));have hs:=hs.own xb F5;have J:=J.mod xb (by intro h;have h1:=(ho.lt _ h).1;have h2:=H.lt;omega);have r:=r.own xb (λi hi=>(by have h1:=(ho.lt i hi).1;have:=O.size;omega));have ho:=z;clear m5;refine go ?_;clear hs O Y ha H;refine go ?_;exact⟨vq,Hn,r,(by simpa using ho:Vc.Own Cell.cs 4 79 _ _ _ (M.take k++[c])).mono hD⟩
    exact Jh
   rintro _ vn w20 ⟨r,ho⟩;refine go ?_;refine dl rfl ((hm.ext r).at rfl) (go ?_);refine dp (HH (e:=79) (k:=4) Ff hv.sl rfl rfl rfl Fe Fe) ?_;refine Ip (e:=79) (sz:=4) (by':=48) rfl Ff Ff Fg ho (((hv.ext r)).slice hk1 (Aa _)) rfl rfl (by intro x _ u hu;simp at hu;rcases hu with rfl|rfl|rfl|rfl<;>rfl) Gx Fo r.size (.inl rfl) (λvr w21 z yw=>?_);have r:=r.own yw F5;have ho:=z;refine go ?_;refine KW (hm.ext r) (λw22 xl xs22 hm=>?_) (hv:=by exact Gq.one ho.sl);dsimp only [Gw,AU,AP,AZ]at hm;have ho:=ho.mod xl Fw;have r:=(r.mod xl).mono (λi hi _=>(hi:(Fv bm) i));refine go ?_;simp only [Eh]at c1;exact⟨_,rfl,r,⟨_,rfl⟩,Ae h0 r.size,GZ r.size _ hg,_,_,hm,ho.mono (Ab _),λk hk=>.inr ⟨Ae h0 (ho.lt k hk).1,(ho.lt k hk).2⟩,by simp;omega,λd hd=>RA hh c1 hd⟩
  refine go ?_;refine GS rfl (g0 ?_);refine GP (G:=Value) (λvn=>[(0,Fh bm 0),(4,.bool false),(5,I ↑k),(6,vn)]) (λvn w'=>Fq w w'/\Vc.Own Cell.cs 4 79 w.heap.size w' vn (M.take k++[c])) ?_ ?_
  ·have O:=r;have hD:w.heap.size<=Z.heap.size:=r.size;have Y:=(hm.ext r);have ha:=(hv.ext r);have H:=J;refine KK (R:=Mod (Im Z.heap.size)) (Far.refl _) Far.trans Ff [4,8] (.one 1 .p false (.one 2 .p false (.one 3 .p false (.one 4 .l false (.one 5 .p false (.one 6 .p false (.one 8 .l false (.fork (.alt 0 false (.fork (.alt 7 false (.one 9 .x false (.one 10 .x false (.one 11 .p false .nil))) (.alt 9 false (.one 7 .x false (.one 10 .x false (.one 11 .p false .nil))) .stop))) (.alt 9 false (.one 0 .x false (.one 7 .x false (.one 10 .x false (.one 11 .p false .nil)))) .stop)))))))))) Ff Ff (λyt h5=>?_);have xt:=FE h5;clear h5;refine Fy xt J r λJ r=>?_;have hs:Mod (Im Z.heap.size) Z yt:=Far.of_ext xt;refine go ?_;refine dL rfl (λ_ hR=>((Y.far (hs.own hR (λ_ h _=>h))).at rfl)) (go ?_);refine dp (HH (e:=79) (k:=4) Ff hv.sl rfl rfl rfl Fe Fe) (go ?_);refine Gh rfl (λw' hR=>Fx (k:=4) Ff rfl rfl (H.far (hs.own hR (λ_ h _=>h))).row) (go ?_);refine Ji ?_;refine Hk ?_ ?_
   ·refine Jx (e:=79) (sz:=4) rfl Ff RX.far (λb7 w24 e7 yf m7=>?_);have g7:=r.ge e7;have n7_1:=J.ltb e7;have xu:Z.heap.size<=b7:=by have:=hs.size;omega
    refine FC yf J r hs λJ r hs=>go ?_;refine Ji ?_;refine Hk ?_ ?_
    ·have ho:=m7.own (enc:=Cell.cs) (B:=Z.heap.size) (l:=[]) (sz:=4) (m:=0) xu rfl Fg rfl (An rfl);refine Ip (e:=79) (sz:=4) (by':=48) rfl Ff Ff Fg ho (((hv.ext r)).slice (Ab _) hk1) rfl rfl (by intro x _ u hu;simp at hu;rcases hu with rfl|rfl|rfl|rfl<;>rfl) Gx Fo hs.size (.inr (Far.own ho (Aa _))) (λvp w25 z xg=>?_);have hs:=hs.own xg F5;have J:=J.mod xg (by intro h;have h1:=(ho.lt _ h).1;have h2:=H.lt;omega);have r:=r.own xg (λi hi=>(by have h1:=(ho.lt i hi).1;have:=O.size;omega));have ho:=z;refine go ?_;refine lA 79 rfl (λb8 w26 e8 yc m8=>?_) (hR:=RX.far);have g8:=r.ge e8;have n8_1:=J.ltb e8;have gs8:Z.heap.size<=b8:=by have:=hs.size;omega
     refine FQ yc J ho r hs λJ ho r hs=>go ?_;refine G8 c ho m8 (λvq w27 z xc=>?_) (hR:=(.inr (Far.own ho (Aa _))));have hs:=hs.own xc F5;have J:=J.mod xc (by intro h;have h1:=(ho.lt _ h).1;have h2:=H.lt;omega);have r:=r.own xc (λi hi=>(by have h1:=(ho.lt i hi).1;have:=O.size;omega));have ho:=z;clear m8;refine go ?_;clear hs O Y ha H;refine go ?_;exact⟨vq,Hn,r,(by simpa using ho:Vc.Own Cell.cs 4 79 _ _ _ (M.take k++[c])).mono hD⟩
    refine Hk ?_ ?_
    ·refine lA 79 rfl (λb9 w28 e9 yl m9=>?_) (hR:=RX.far);have g9:=r.ge e9;have n9_1:=J.ltb e9;have n9_7:=m7.ltb e9;have gs9:Z.heap.size<=b9:=by have:=hs.size;omega
     refine FQ yl J m7 r hs λJ m7 r hs=>go ?_;have ho:=m7.own (enc:=Cell.cs) (B:=Z.heap.size) (l:=[]) (sz:=4) (m:=0) xu rfl Fg rfl (An rfl);refine Ip (e:=79) (sz:=4) (by':=48) rfl Ff Ff Fg ho (((hv.ext r)).slice (Ab _) hk1) rfl rfl (by intro x _ u hu;simp at hu;rcases hu with rfl|rfl|rfl|rfl<;>rfl) Gx Fo hs.size (.inr (Far.own ho (Aa _))) (λvp w29 z ht=>?_);have hs:=hs.own ht F5;have J:=J.mod ht (by intro h;have h1:=(ho.lt _ h).1;have h2:=H.lt;omega);have m9:=m9.mod ht (by intro h;have h2:b7=b9:=Am.inj h;omega);have r:=r.own ht (λi hi=>(by have h1:=(ho.lt i hi).1;have:=O.size;omega));have ho:=z;refine go ?_;refine G8 c ho m9 (λvq w30 z h8=>?_) (hR:=(.inr (Far.own ho (Aa _))));have hs:=hs.own h8 F5;have J:=J.mod h8 (by intro h;have h1:=(ho.lt _ h).1;have h2:=H.lt;omega);have r:=r.own h8 (λi hi=>(by have h1:=(ho.lt i hi).1;have:=O.size;omega));have ho:=z;clear m9;refine go ?_;clear hs O Y ha H;refine go ?_;exact⟨vq,Hn,r,(by simpa using ho:Vc.Own Cell.cs 4 79 _ _ _ (M.take k++[c])).mono hD⟩
    exact Jh
   refine Hk ?_ ?_
   ·refine lA 79 rfl (λx6 w31 xj yu hf=>?_) (hR:=RX.far);have g10:=r.ge xj;have n10_1:=J.ltb xj;have gs10:Z.heap.size<=x6:=by have:=hs.size;omega
    refine FC yu J r hs λJ r hs=>go ?_;refine Jx (e:=79) (sz:=4) rfl Ff RX.far (λxx w32 h9 yk yv=>?_);have g11:=r.ge h9;have n11_1:=J.ltb h9;have n11_10:=hf.ltb h9;have xi:Z.heap.size<=xx:=by have:=hs.size;omega
    refine FQ yk J hf r hs λJ hf r hs=>go ?_;have ho:=yv.own (enc:=Cell.cs) (B:=Z.heap.size) (l:=[]) (sz:=4) (m:=0) xi rfl Fg rfl (An rfl);refine Ip (e:=79) (sz:=4) (by':=48) rfl Ff Ff Fg ho (((hv.ext r)).slice (Ab _) hk1) rfl rfl (by intro x _ u hu;simp at hu;rcases hu with rfl|rfl|rfl|rfl<;>rfl) Gx Fo hs.size (.inr (Far.own ho (Aa _))) (λvp w33 z hq=>?_);have hs:=hs.own hq F5;have J:=J.mod hq (by intro h;have h1:=(ho.lt _ h).1;have h2:=H.lt;omega);have hf:=hf.mod hq (by intro h;have h2:xx=x6:=Am.inj h;omega);have r:=r.own hq (λi hi=>(by have h1:=(ho.lt i hi).1;have:=O.size;omega));have ho:=z;refine go ?_;refine G8 c ho hf (λvq w34 z xe=>?_) (hR:=(.inr (Far.own ho (Aa _))));have hs:=hs.own xe F5;have J:=J.mod xe (by intro h;have h1:=(ho.lt _ h).1;have h2:=H.lt;omega);have r:=r.own xe (λi hi=>(by have h1:=(ho.lt i hi).1;have:=O.size;omega));have ho:=z;clear hf;refine go ?_;clear hs O Y ha H;refine go ?_;exact⟨vq,Hn,r,(by simpa using ho:Vc.Own Cell.cs 4 79 _ _ _ (M.take k++[c])).mono hD⟩
   exact Jh
  rintro _ vn w35 ⟨r,ho⟩;refine go ?_;refine dl rfl ((hm.ext r).at rfl) (go ?_);refine dp (HH (e:=79) (k:=4) Ff hv.sl rfl rfl rfl Fe Fe) ?_;refine Ip (e:=79) (sz:=4) (by':=48) rfl Ff Ff Fg ho (((hv.ext r)).slice hk1 (Aa _)) rfl rfl (by intro x _ u hu;simp at hu;rcases hu with rfl|rfl|rfl|rfl<;>rfl) Gx Fo r.size (.inl rfl) (λvr w36 z ye=>?_);have r:=r.own ye F5;have ho:=z;refine go ?_;refine KW (hm.ext r) (λw37 xm xs37 hm=>?_) (hv:=by exact Gq.one ho.sl);dsimp only [Gw,AU,AP,AZ]at hm;have ho:=ho.mod xm Fw;have r:=(r.mod xm).mono (λi hi _=>(hi:(Fv bm) i));refine go ?_;simp only [Eh]at c1;exact⟨_,rfl,r,⟨_,rfl⟩,Ae h0 r.size,GZ r.size _ hg,_,_,hm,ho.mono (Ab _),λk hk=>.inr ⟨Ae h0 (ho.lt k hk).1,(ho.lt k hk).2⟩,by simp;omega,λd hd=>RA hh c1 hd⟩
 refine go ?_;refine GS rfl (g0 ?_);refine GP (G:=Value) (λvn=>[(0,Fh bm 0),(4,.bool false),(5,I ↑k),(6,vn)]) (λvn w'=>Fq w w'/\Vc.Own Cell.cs 4 79 w.heap.size w' vn (M.take k++[c])) ?_ ?_
 ·have O:=r;have hD:w.heap.size<=Z.heap.size:=r.size;have Y:=(hm.ext r);have ha:=(hv.ext r);have H:=J;refine KK (R:=Mod (Im Z.heap.size)) (Far.refl _) Far.trans Ff [4,8] (.one 1 .p false (.one 2 .p false (.one 3 .p false (.one 4 .l false (.one 5 .p false (.one 6 .p false (.one 8 .l false (.fork (.alt 0 false (.fork (.alt 7 false (.one 9 .x false (.one 10 .x false (.one 11 .p false .nil))) (.alt 9 false (.one 7 .x false (.one 10 .x false (.one 11 .p false .nil))) .stop))) (.alt 9 false (.one 0 .x false (.one 7 .x false (.one 10 .x false (.one 11 .p false .nil)))) .stop)))))))))) Ff Ff (λyz hy=>?_);have ya:=FE hy;clear hy;have r:=r.trans ya;have hs:Mod (Im Z.heap.size) Z yz:=Far.of_ext ya;refine go ?_;refine dL rfl (λ_ hR=>((Y.far (hs.own hR (λ_ h _=>h))).at rfl)) (go ?_);refine dp (HH (e:=79) (k:=4) Ff hv.sl rfl rfl rfl Fe Fe) (go ?_);refine Gh rfl (λw' hR=>Fx (k:=4) Ff rfl rfl (H.far (hs.own hR (λ_ h _=>h))).row) (go ?_);refine Ji ?_;refine Hk ?_ ?_
  ·refine Jx (e:=79) (sz:=4) rfl Ff RX.far (λxp w39 yi y1 hj=>?_);have g12:=r.ge yi;have hz:Z.heap.size<=xp:=by have:=hs.size;omega
   refine Fy y1 r hs λr hs=>go ?_;refine Ji ?_;refine Hk ?_ ?_
   ·have ho:=hj.own (enc:=Cell.cs) (B:=Z.heap.size) (l:=[]) (sz:=4) (m:=0) hz rfl Fg rfl (An rfl);refine Ip (e:=79) (sz:=4) (by':=48) rfl Ff Ff Fg ho (((hv.ext r)).slice (Ab _) hk1) rfl rfl (by intro x _ u hu;simp at hu;rcases hu with rfl|rfl|rfl|rfl<;>rfl) Gx Fo hs.size (.inr (Far.own ho (Aa _))) (λvp w40 z x3=>?_);have hs:=hs.own x3 F5;have r:=r.own x3 (λi hi=>(by have h1:=(ho.lt i hi).1;have:=O.size;omega));have ho:=z;refine go ?_;refine lA 79 rfl (λyr w41 ym yp xn=>?_) (hR:=RX.far);have g13:=r.ge ym;have gs13:Z.heap.size<=yr:=by have:=hs.size;omega
    refine FC yp ho r hs λho r hs=>go ?_;refine G8 c ho xn (λvq w42 z xr=>?_) (hR:=(.inr (Far.own ho (Aa _))));have hs:=hs.own xr F5;have r:=r.own xr (λi hi=>(by have h1:=(ho.lt i hi).1;have:=O.size;omega));have ho:=z;clear xn;refine go ?_;clear hs O Y ha H;refine go ?_;exact⟨vq,Hn,r,(by simpa using ho:Vc.Own Cell.cs 4 79 _ _ _ (M.take k++[c])).mono hD⟩
   refine Hk ?_ ?_
   ·refine lA 79 rfl (λxh w43 xw yg hp=>?_) (hR:=RX.far);have g14:=r.ge xw;have n14_12:=hj.ltb xw;have gs14:Z.heap.size<=xh:=by have:=hs.size;omega
    refine FC yg hj r hs λhj r hs=>go ?_;have ho:=hj.own (enc:=Cell.cs) (B:=Z.heap.size) (l:=[]) (sz:=4) (m:=0) hz rfl Fg rfl (An rfl);refine Ip (e:=79) (sz:=4) (by':=48) rfl Ff Ff Fg ho (((hv.ext r)).slice (Ab _) hk1) rfl rfl (by intro x _ u hu;simp at hu;rcases hu with rfl|rfl|rfl|rfl<;>rfl) Gx Fo hs.size (.inr (Far.own ho (Aa _))) (λvp w44 z xd=>?_);have hs:=hs.own xd F5;have hp:=hp.mod xd (by intro h;have h2:xp=xh:=Am.inj h;omega);have r:=r.own xd (λi hi=>(by have h1:=(ho.lt i hi).1;have:=O.size;omega));have ho:=z;refine go ?_;refine G8 c ho hp (λvq w45 z xy=>?_) (hR:=(.inr (Far.own ho (Aa _))));have hs:=hs.own xy F5;have r:=r.own xy (λi hi=>(by have h1:=(ho.lt i hi).1;have:=O.size;omega));have ho:=z;clear hp;refine go ?_;clear hs O Y ha H;refine go ?_;exact⟨vq,Hn,r,(by simpa using ho:Vc.Own Cell.cs 4 79 _ _ _ (M.take k++[c])).mono hD⟩
   exact Jh
  refine Hk ?_ ?_
  ·refine lA 79 rfl (λxk w46 yh yq hc=>?_) (hR:=RX.far);have g15:=r.ge yh;have gs15:Z.heap.size<=xk:=by have:=hs.size;omega
   refine Fy yq r hs λr hs=>go ?_;refine Jx (e:=79) (sz:=4) rfl Ff RX.far (λyb w47 xz y3 yo=>?_);have g16:=r.ge xz;have n16_15:=hc.ltb xz;have xq:Z.heap.size<=yb:=by have:=hs.size;omega
   refine FC y3 hc r hs λhc r hs=>go ?_;have ho:=yo.own (enc:=Cell.cs) (B:=Z.heap.size) (l:=[]) (sz:=4) (m:=0) xq rfl Fg rfl (An rfl);refine Ip (e:=79) (sz:=4) (by':=48) rfl Ff Ff Fg ho (((hv.ext r)).slice (Ab _) hk1) rfl rfl (by intro x _ u hu;simp at hu;rcases hu with rfl|rfl|rfl|rfl<;>rfl) Gx Fo hs.size (.inr (Far.own ho (Aa _))) (λvp w48 z h7=>?_);have hs:=hs.own h7 F5;have hc:=hc.mod h7 (by intro h;have h2:yb=xk:=Am.inj h;omega);have r:=r.own h7 (λi hi=>(by have h1:=(ho.lt i hi).1;have:=O.size;omega));have ho:=z;refine go ?_;refine G8 c ho hc (λvq w49 z yx=>?_) (hR:=(.inr (Far.own ho (Aa _))));have r:=r.own yx (λi hi=>(by have h1:=(ho.lt i hi).1;have:=O.size;omega));have ho:=z;clear hc;refine go ?_;clear hs O Y ha H;refine go ?_;exact⟨vq,Hn,r,(by simpa using ho:Vc.Own Cell.cs 4 79 _ _ _ (M.take k++[c])).mono hD⟩
  exact Jh
 rintro _ vn w50 ⟨r,ho⟩;refine go ?_;refine dl rfl ((hm.ext r).at rfl) (go ?_);refine dp (HH (e:=79) (k:=4) Ff hv.sl rfl rfl rfl Fe Fe) ?_;refine Ip (e:=79) (sz:=4) (by':=48) rfl Ff Ff Fg ho (((hv.ext r)).slice hk1 (Aa _)) rfl rfl (by intro x _ u hu;simp at hu;rcases hu with rfl|rfl|rfl|rfl<;>rfl) Gx Fo r.size (.inl rfl) (λvr w51 z y0=>?_);have r:=r.own y0 F5;have ho:=z;refine go ?_;refine KW (hm.ext r) (λw52 x0 xs52 hm=>?_) (hv:=by exact Gq.one ho.sl);dsimp only [Gw,AU,AP,AZ]at hm;have ho:=ho.mod x0 Fw;have r:=(r.mod x0).mono (λi hi _=>(hi:(Fv bm) i));refine go ?_;simp only [Eh]at c1;exact⟨_,rfl,r,⟨_,rfl⟩,Ae h0 r.size,GZ r.size _ hg,_,_,hm,ho.mono (Ab _),λk hk=>.inr ⟨Ae h0 (ho.lt k hk).1,(ho.lt k hk).2⟩,by simp;omega,λd hd=>RA hh c1 hd⟩
def Ycb (G:Nat->Prop)(w0:World)(bs bx bl bm nn:Nat)(n:Int)(vf vT:Value)(dead:Bool)(l:List Rw)(v:Value)(seq:Int)(w:World)(h:Fp w bs [Fh bx 0,Fh bl 0,I n,vf,vT,Fh bm 0,B dead] 69)(hX0:G9 G w0 bm nn w)(hv:Fu Rw.cs 3 w v l)(hl:l.length<=100000)(hnn:nn<=100000000) :
  G4 136 [Fh bs 0,v,I seq] w (Fv bm) λu w'=>u=.tuple #[]/\G9 G w0 bm (nn+l.length) w':=by
 refine cM Tryz.func136 (Fv bm) λH=>?_;have hm:=h;have r:=hX0;refine Gj (X3c l v seq _ hv hl) λY w1 x1 z=>?_;have hsz1:=H.size;refine FC x1 hm r H λhm r H=>?_;have hcn:=P4 l seq;refine F8 (G:=Nat) (λk=>[(0,Fh bs 0),(6,Y),(7,I ↑k)]) (λk w'=>Mod (Fv bm) w w'/\Fp w' bs [Fh bx 0,Fh bl 0,I n,vf,vT,Fh bm 0,B dead] 69/\Vc.Own Cell.cs 4 79 w.heap.size w' Y (Gp l seq)/\k<=(Gp l seq).length/\G9 G w0 bm (nn+k) w') (λk=>(Gp l seq).length-k) 0 ⟨H,hm,z,Ab _,r⟩ ?_;rintro _ k w2 ⟨H,hm,z,hk1,r⟩;refine go ?_;refine dv 79 4 (z.arr Fg).sl ?_;refine Fk (λc1=>?_) λc1=>?_
 ·obtain⟨c,hk⟩:∃c,(Gp l seq)[k]?=some c:=F7;refine Gt 1510001000 λw3 Z=>FQ Z hm z r H λhm z r H=>?_;refine go ?_;refine df 5 (rfl) (go ?_);refine di 79 4 (z.arr Fg).sl rfl ((z.arr Fg).lt hk) (Gh rfl (λw' hR=>Fx Ff rfl rfl (((z.arr Fg).ext hR).row hk)) (cD (X86 G w0 bm (nn+k) c _ r Fe) (.inl rfl) λu4 w4 O J=>?_));have hsz4:=H.size;have hm:=hm.mod O (by exact r.ne hm Fo);have z:=z.mod O (by exact r.neO z Fo);have H:=H.own O F5;obtain⟨⟨b4,rfl⟩,r⟩:=J;refine go ?_;exact FL (k+1) ⟨H,hm,z,by omega,r⟩
 refine go ?_;refine Ig (H6 rfl ?_);exact⟨_,rfl,H,rfl,r.more Fe⟩
structure RV (bs bx bl bm:Nat)(n:Int)(vf vT vM:Value)(dead:Bool)(M:List Cell)(fs:List Fi)(T:List Tr)(w:World):Prop where
 m:Fp w bs [Fh bx 0,Fh bl 0,I n,vf,vT,Fh bm 0,B dead] 69
 b:Fp w bm [vM] 215
 a:Fu Cell.cs 4 w vM M
 al:M.length<=100000000
 v:Fu Fi.cs 5 w vf fs
 vl:fs.length<=100000000
 t:Fu Tr.cs 2 w vT T
 tl:T.length<=200000
 e:∀t∈T,Fu Cell.cs 4 w t.v t.l
 tb:∀t∈T,t.l.length<=4096
def RV.ext {bs bx bl bm:Nat}{n:Int}{vf vT vM:Value}{dead:Bool}{T:List Tr}{w w':World}(h:RV bs bx bl bm n vf vT vM dead M fs T w)(x:Fq w w'):RV bs bx bl bm n vf vT vM dead M fs T w':=⟨h.m.ext x,h.b.ext x,h.a.ext x,h.al,h.v.ext x,h.vl,h.t.ext x,h.tl,λt r=>(h.e t r).ext x,h.tb⟩
instance {bs bx bl bm:Nat} {n:Int} {vf vT vM:Value} {dead:Bool} {M:List Cell} {fs:List Fi} {T:List Tr} {w w':World} : Up w w' (RV bs bx bl bm n vf vT vM dead M fs T w) (RV bs bx bl bm n vf vT vM dead M fs T w'):=⟨λx h=>h.ext x⟩
def Xz2 (bs bx bl bm:Nat)(n:Int)(vf vT vM:Value)(dead:Bool)(M:List Cell)(fs:List Fi)(T:List Tr)(key:Fj)(w:World)(h:RV bs bx bl bm n vf vT vM dead M fs T w) :
  Gi 137 [Fh bs 0,S key] w λu _=>∃(c:Cell) (b:Bool),u=.tuple #[c.v,B b]:=by
 refine cE Tryz.func137 λr=>?_;have hm:=h.m;have hb:=h.b;have hf:=h.a;have hAl:=h.al;have hT:=h.t;have hTl:=h.tl;refine go ?_;refine aL [S [],S [],B false,.int .i64 0] λb1 w1 e1 x1 z=>?_;have g1:=r.ge e1;have r:=r.trans x1;refine go ?_;refine df 5 (rfl) (dl rfl ((hm.ext r).at rfl) (go ?_));refine dl rfl ((hb.ext r).at rfl) (Gs (Yh M vM key 1099511627776 _ (hf.ext r) Fe) λw2 x2=>Fy x2 z r λz r=>?_);refine go ?_;refine aL [S [],S [],B false,.int .i64 0] λb2 w3 e2 x3 H=>?_;have g2:=r.ge e2;have n2_1:=z.ltb e2;refine Fy x3 z r λz r=>Gg H (λw4 x4 xs4 H=>?_);have z:=z.mo x4;have r:=r.o1 x4;refine Gb (λc1=>?_) λc1=>?_
 ·refine go ?_;refine dq (Fx (k:=4) Ff rfl rfl H.row) (Gg z (λw5 x5 xs5 z=>?_));have H:=H.mo x5;have r:=r.o1 x5;refine go ?_;refine I5 (u:=?v10) rfl rfl rfl rfl Ff rfl z.row ?h10 ?k10
  case h10=>conv=>lhs;whnf
  exact⟨_,rfl,r,(first M key 1099511627776).getD Cell.zero,true,rfl⟩
 refine go ?_;refine dq (Fx Ff rfl rfl ((hm.ext r).part 2 2)) (Gj (X3b n fs vf key _ (h.v.ext r) h.vl) λvo w6 x6 hj=>?_);have hc:=r.size;refine FC x6 z H r λz H r=>?_;obtain⟨o,hp,hol,hom⟩:=hj;have J:=hp.mono hc;refine F8 (G:=Nat×Cell) (λ(k,cq)=>[(0,Fh bs 0),(1,S key),(4,Fh b1 0),(6,Fh b2 0),(8,vo),(9,I ↑k)]) (λ(k,cq) w'=>Fq w w'/\Fp w' b1 Cell.zero.cs 79/\Vc.Own Fi.cs 5 62 w.heap.size w' vo o/\k<=o.length/\Fp w' b2 cq.cs 79) (λ(k,cq)=>o.length-k) (0,(first M key 1099511627776).getD Cell.zero) ⟨r,z,J,Ab _,H⟩ ?_;rintro _ ⟨k,cq⟩ w7 ⟨r,z,J,hk1,H⟩;refine go ?_;refine dv 62 5 (J.arr Fg).sl ?_;refine Fk (λc2=>?_) λc2=>?_
 ·obtain⟨f,hk⟩:∃f,o[k]?=some f:=F7;have Y:=H;have O:=z;refine go ?_;refine di 62 5 (J.arr Fg).sl rfl ((J.arr Fg).lt hk) (go ?_);refine dl rfl (((J.arr Fg).row hk).at rfl) (cG (VS bs bx bl bm n vf vT dead T f.id _ (hm.ext r) (hT.ext r) (λt ht=>(h.e t ht).ext r) Fe) RX.all λvc w8 x8 hl=>?_);have hsz8:=r.size;refine HB x8 z J H Y O r λz J H Y O r=>?_;obtain⟨lc,hC,hh⟩:=hl;have hcb:lc.length<=4096:=hh.elim (λe=>by rw[e];exact Ab _) (λ⟨t,ht,e⟩=>by rw[e];exact h.tb t ht);refine Gs (Yh lc vc key 1099511627776 _ hC Fe) λw9 x9=>HB x9 z J H Y O r λz J H Y O r=>?_;refine go ?_;refine Gg H (λw10 Z xs10 H=>?_);have z:=z.mo Z;have J:=J.mod Z Fw;have O:=O.mod Z Fw;have r:=r.o1 Z;refine Gb (λc3=>?_) λc3=>?_
  ·refine go ?_;refine dq (Fx (k:=4) Ff rfl rfl H.row) (Gg z (λw11 ha xs11 z=>?_));have J:=J.mod ha Fw;have H:=H.mo ha;have r:=r.o1 ha;refine go ?_;refine I5 (u:=?v27) rfl rfl rfl rfl Ff rfl z.row ?h27 ?k27
   case h27=>conv=>lhs;whnf
   exact⟨_,rfl,r,(first lc key 1099511627776).getD Cell.zero,true,rfl⟩
  refine go ?_;exact FL (k+1,(first lc key 1099511627776).getD Cell.zero) ⟨r,z,J,by omega,H⟩
 refine go ?_;refine db (zs:=[S [],S [],B false,.int .i64 0]) (pl:=[(0,1),(1,1),(2,1),(3,1)]) (pv:=[]) (cs:=[S [],S [],B false,.int .i64 0]) ?_;refine Gg z (λw12 hg xs12 z=>?_);have r:=r.o1 hg;refine go ?_;refine I5 (u:=?v33) rfl rfl rfl rfl Ff rfl z.row ?h33 ?k33
 case h33=>conv=>lhs;whnf
 exact⟨_,rfl,r,Cell.zero,false,rfl⟩
def X3i (bs bx bl bm:Nat)(n:Int)(vf vT vM:Value)(dead:Bool)(M:List Cell)(fs:List Fi)(T:List Tr)(key:Fj)(w:World)(h:RV bs bx bl bm n vf vT vM dead M fs T w) :
  Gi 70 [Fh bs 0,S key] w λu _=>∃(s:Fj) (b:Bool),u=.tuple #[S s,B b]:=by
 refine cE Tryz.func70 λr=>Gj (Xz2 bs bx bl bm n vf vT vM dead M fs T key _ (h.ext r)) λu1 w1 Y z=>?_;have hsz1:=r.size;have r:=r.trans Y;obtain⟨c,b9,rfl⟩:=z;refine go ?_;refine aL [S [],S [],B false,.int .i64 0] λb1 w2 e1 Z H=>?_;have g1:=r.ge e1;have r:=r.trans Z;refine Gg H (λw3 J xs3 H=>?_);have r:=r.o1 J;refine go ?_;refine IR 16 rfl (λO=>?_) (λO=>?_)
 ·refine go ?_;refine GU rfl (go ?_);exact⟨_,rfl,r,_,_,rfl⟩
 refine Gb (λc2=>?_) λc2=>?_
 ·refine go ?_;exact⟨_,rfl,r,_,_,rfl⟩
 refine go ?_;exact⟨_,rfl,r,_,_,rfl⟩
def Xz3 (bs bx bl bm:Nat)(n:Int)(vf vT vM:Value)(dead:Bool)(M:List Cell)(fs:List Fi)(T:List Tr)(frm to:Fj)(most:Int)(w:World)(h:RV bs bx bl bm n vf vT vM dead M fs T w) :
  Gi 71 [Fh bs 0,S frm,S to,I most] w λu w'=>∃l,Vc.Own Rw.cs 3 48 w.heap.size w' u l/\l.length<=1000000000:=by
 refine cE Tryz.func71 λH=>?_;have hm:=h.m;have hb:=h.b;have h7:=h.a;have hAl:=h.al;have hT:=h.t;have hTl:=h.tl;refine go ?_;refine df 5 (rfl) (Gj (Xxx M vM frm to _ (h7.ext H) Fe) λv0 w1 x1 h0=>?_);have hsz1:=H.size;have H:=H.trans x1;have hA:=h0.arr (enc:=Cell.cs) Fg;have hl0:(scan M frm to).length<=M.length:=Bk ..;refine F8 (G:=Nat×Value×List Cell) (λ(k,vl,l)=>[(0,Fh bs 0),(1,S frm),(2,S to),(3,I most),(8,.slice none 0 0),(9,vl),(10,I ↑k)]) (λ(k,vl,l) w'=>Fq w w'/\k<=T.length/\l.length<=4096*k+100000000/\Fu Cell.cs 4 w' vl l) (λ(k,vl,l)=>T.length-k) (0,v0,scan M frm to) ⟨H,Ab _,by omega,hA⟩ ?_;rintro _ ⟨k,vl,l⟩ w2 ⟨H,hk1,hll1,hA⟩;refine go ?_;refine df 4 (rfl) (dl rfl ((hm.ext H).at rfl) (dv 218 2 (hT.ext H).sl ?_));refine Fk (λc1=>?_) λc1=>?_
 ·obtain⟨t,hk⟩:∃t,T[k]?=some t:=F7;refine go ?_;refine df 4 (rfl) (dl rfl ((hm.ext H).at rfl) (FN 218 2 hT.sl (hT.lt hk) ?_));refine go ?_;refine dl rfl (((hT.ext H).row hk).at rfl) (go ?_);have hq:=Ag hk;have htb:=h.tb t hq;refine cG (Xxx t.l t.v frm to _ ((h.e t hq).ext H) Fe) RX.all λvs w3 x3 hy=>?_;have hsz3:=H.size;refine Fy x3 hA H λhA H=>?_;have hC:=hy.arr (enc:=Cell.cs) Fg;have hcb:(scan t.l frm to).length<=t.l.length:=Bk ..;refine cG (Xl l (scan t.l frm to) vl vs _ hA hC Fe) RX.all λvm w4 x4 h5=>?_;have hsz4:=H.size;refine Fy x4 hA H λhA H=>?_;obtain⟨m2,ht,hml,hmm⟩:=h5;have h6:=ht.arr (enc:=Cell.cs) Fg;refine go ?_;exact FL (k+1,vm,m2) ⟨H,by omega,by omega,h6⟩
 refine Gj (Tw l vl _ hA Fe) λhj w5 x5 hw=>?_;have hp:=H.size;have H:=H.trans x5;obtain⟨l2,hr,hll,hlm,hln⟩:=hw;have J:=hr.mono hp;obtain⟨B9,hf,Z,hbl9,Y⟩:=Rn J H.size;have z:=J.arr (enc:=Cell.cs) Fg;refine F8 (G:=Nat×Value×List Rw) (λ(k,vo,r)=>[(3,I most),(8,.slice none 0 0),(9,hj),(11,vo),(12,I ↑k)]) (λ(k,vo,r) w'=>Fq w w'/\Vc.Own Cell.cs 4 79 w.heap.size w' hj l2/\Fu Cell.cs 4 w' hj l2/\Sz B9 w'/\k<=l2.length/\r.length<=k/\Vc.Own Rw.cs 3 48 B9 w' vo r) (λ(k,vo,r)=>l2.length-k) (0,.slice none 0 0,[]) ⟨H,J,z,Y,Ab _,Aa _,Vc.Own.nil⟩ ?_;rintro _ ⟨k,vo,r⟩ w6 ⟨H,J,z,Y,hk1,hrl,ho⟩;refine FM 79 4 z.sl ?_;refine FJ 51 (λc2=>?_) λc2=>?_
 ·have hk9:k<l2.length:=by simp at c2;omega
  obtain⟨c,hk⟩:∃c,l2[k]?=some c:=F7;refine FJ 54 (λc3=>?_) λc3=>?_
  ·refine go ?_;refine GU rfl (FN 79 4 z.sl (z.lt hk) ?_);refine go ?_;refine dl rfl ((z.row hk).at rfl) ?_;refine Gb (λc4=>?_) λc4=>?_
   ·refine HP (R:=Mod (λk=>B9<=k)) Ij I0 Ff [5,10] [(0,.p,false),(1,.p,false),(2,.p,false),(3,.p,false),(4,.p,false),(5,.l,false),(6,.p,false),(7,.p,false),(8,.p,false),(9,.p,false),(10,.l,false),(11,.p,false),(12,.x,false),(13,.x,false),(14,.p,false)] rfl Ff Ff (λw7 hl=>?_);have x7:=FE hl;clear hl;refine Ga x7 J z Y ho H λJ z Y ho H=>FN 79 4 z.sl (z.lt hk) ?_;refine go ?_;refine dL rfl (λ_ hR=>(((z.mod hR (λO h=>by have h1:=Z _ (J.base_block O);omega)).row hk).at rfl)) (FN 79 4 z.sl (z.lt hk) ?_);refine go ?_;refine dL rfl (λ_ hR=>(((z.mod hR (λO h=>by have h1:=Z _ (J.base_block O);omega)).row hk).at rfl)) (db (zs:=[S [],S [],B false]) (pl:=[(0,1),(1,1),(2,1)]) (pv:=[(0,_),(1,_)]) (cs:=[_,_,B false]) ?_);refine lA 48 rfl (λb1 w8 e1 x8 m1=>?_) (hR:=RX.mod);have g1:=H.ge e1;have o1_hL:=J.ltb e1;have a1_hLa:=Fu.base_lt z Fo;have a1_hS:=Y.le;have o1_ho:=ho.ltb e1;refine Ga x8 J z Y ho H λJ z Y ho H=>G8 ⟨c.key,c.val,false⟩ ho m1 (λhh w9 ha x9=>?_) (hB:=Y.le) (hR:=(.inr λw9 h9=>h9.mono (λk hk _=>(ho.lt k hk).1)));have J:=J.mod x9 (by exact(λk hk e=>by have h1:=(ho.lt k e).1;have h2:=Z k hk;omega));have z:=z.mod x9 (by exact(λO e=>by have h1:=(ho.lt _ e).1;have h2:=Z _ (J.base_block O);omega));have Y:=Y.mod x9 Fw;have H:=H.own x9 (λi hi=>(Ae hf (ho.lt i hi).1));have ho:=ha;clear m1;refine go ?_;exact⟨(k+1,hh,r++[⟨c.key,c.val,false⟩]),Hc,⟨H,J,z,Y,by omega,by simp;omega,ho⟩,by simp only [];omega⟩
   refine go ?_;exact⟨(k+1,vo,r),Hc,⟨H,J,z,Y,by omega,by omega,ho⟩,by simp only [];omega⟩
  refine go ?_;refine dv 48 3 (ho.arr Fg).sl ?_;refine Fk (λc5=>?_) λc5=>?_
  ·refine FN 79 4 z.sl (z.lt hk) ?_;refine go ?_;refine dl rfl ((z.row hk).at rfl) ?_;refine Gb (λc6=>?_) λc6=>?_
   ·refine HP (R:=Mod (λk=>B9<=k)) Ij I0 Ff [5,10] [(0,.p,false),(1,.p,false),(2,.p,false),(3,.p,false),(4,.p,false),(5,.l,false),(6,.p,false),(7,.p,false),(8,.p,false),(9,.p,false),(10,.l,false),(11,.p,false),(12,.x,false),(13,.x,false),(14,.p,false)] rfl Ff Ff (λw10 hg=>?_);have h8:=FE hg;clear hg;refine Ga h8 J z Y ho H λJ z Y ho H=>FN 79 4 z.sl (z.lt hk) ?_;refine go ?_;refine dL rfl (λ_ hR=>(((z.mod hR (λO h=>by have h1:=Z _ (J.base_block O);omega)).row hk).at rfl)) (FN 79 4 z.sl (z.lt hk) ?_);refine go ?_;refine dL rfl (λ_ hR=>(((z.mod hR (λO h=>by have h1:=Z _ (J.base_block O);omega)).row hk).at rfl)) (db (zs:=[S [],S [],B false]) (pl:=[(0,1),(1,1),(2,1)]) (pv:=[(0,_),(1,_)]) (cs:=[_,_,B false]) ?_);refine lA 48 rfl (λb2 w11 e2 hz m2=>?_) (hR:=RX.mod);have g2:=H.ge e2;have o2_hL:=J.ltb e2;have a2_hLa:=Fu.base_lt z Fo;have a2_hS:=Y.le;have o2_ho:=ho.ltb e2;refine Ga hz J z Y ho H λJ z Y ho H=>G8 ⟨c.key,c.val,false⟩ ho m2 (λhh w12 ha hc=>?_) (hB:=Y.le) (hR:=(.inr λw9 h9=>h9.mono (λk hk _=>(ho.lt k hk).1)));have J:=J.mod hc (by exact(λk hk e=>by have h1:=(ho.lt k e).1;have h2:=Z k hk;omega));have z:=z.mod hc (by exact(λO e=>by have h1:=(ho.lt _ e).1;have h2:=Z _ (J.base_block O);omega));have Y:=Y.mod hc Fw;have H:=H.own hc (λi hi=>(Ae hf (ho.lt i hi).1));have ho:=ha;clear m2;refine go ?_;exact⟨(k+1,hh,r++[⟨c.key,c.val,false⟩]),Hc,⟨H,J,z,Y,by omega,by simp;omega,ho⟩,by simp only [];omega⟩
   refine go ?_;exact⟨(k+1,vo,r),Hc,⟨H,J,z,Y,by omega,by omega,ho⟩,by simp only [];omega⟩
  refine go ?_;exact⟨_,rfl,H,r,ho.mono hf,by omega⟩
 refine go ?_;refine GS rfl (go ?_);exact⟨_,rfl,H,r,ho.mono hf,by omega⟩
def Ycc {l:List Rw}(hl:l.length<=100000)(h:∀r∈l,r.key.length<=1000000/\r.val.length<=1000000):(G2 l).length<=1000000000000:=by
 have h1:=Gk l.length;have h2:(l.flatMap Hi).length<=l.length*2000100:=by
  clear hl h1
  induction l with
  | nil=>exact Aa _
  | cons r t z=>
   have g:=h r Ai;have g1:(Hi r).length<=2000100:=by
    have e1:=Gk r.key.length;have e2:=Gk r.val.length;have e3:=Gk 0;have e4:=Gk 1;unfold Hi FA;split<;>simp only [Ad]<;>omega
   have z:=z (λr H=>h r (Aj _ H));rw[AA,Ad,Az];omega
 unfold G2;rw[Ad];omega
structure RK (G:Nat->Prop)(w0:World)(n:Int)(vf vT:Value)(fs:List Fi)(T:List Tr)(b:Nat)(w:World):Prop where
 v:Vc.Own Fi.cs 5 62 0 w vf fs
 gv:∀k,vf.ownBlock=some k->FV G w0 w k
 i:QT n fs
 t:Vc.Own Tr.cs 2 218 0 w vT T
 gt:∀k,vT.ownBlock=some k->FV G w0 w k
 tl:T.length<=b
 e:∀t∈T,Vc.Own Cell.cs 4 79 0 w t.v t.l/\t.l.length<=4096/\(∀c∈t.l,Gl c=true)/\∀k,t.v.ownBlock=some k->FV G w0 w k
section
variable {G:Nat->Prop}{w0 w w':World}{n:Int}{vf vT:Value}{fs:List Fi}{T:List Tr}{b bs bx bl bm a:Nat}{dead:Bool}
def RK.modS {S:Nat->Prop}(h:RK G w0 n vf vT fs T b w)(m:Vc.Mod S w w')(h1:∀k,vf.ownBlock=some k->¬ S k)(h2:∀k,vT.ownBlock=some k->¬ S k)(h3:∀t∈T,∀k,t.v.ownBlock=some k->¬ S k):RK G w0 n vf vT fs T b w':=
 ⟨h.v.mod m h1,λk hk=>GZ m.size _ (h.gv k hk),h.i,h.t.mod m h2,λk hk=>GZ m.size _ (h.gt k hk),h.tl,λt r=>⟨(h.e t r).1.mod m (h3 t r),(h.e t r).2.1,(h.e t r).2.2.1,λk hk=>GZ m.size _ ((h.e t r).2.2.2 k hk)⟩⟩
def RK.mod {S:Nat->Prop}(h:RK G w0 n vf vT fs T b w)(m:Vc.Mod S w w')(hS:∀k,G0 w [62,218,79] k->¬ S k):RK G w0 n vf vT fs T b w':=
 h.modS m (λk hk=>hS k (KU h.v Fo hk)) (λk hk=>hS k (KU h.t Fo hk)) (λt r k hk=>hS k (KU (h.e t r).1 Fo hk))
def RK.up9 {q:Nat}(h:RK G w0 n vf vT fs T b w)(hq:b<=q):RK G w0 n vf vT fs T q w:=⟨h.v,h.gv,h.i,h.t,h.gt,Ae h.tl hq,h.e⟩
def RK.ext (h:RK G w0 n vf vT fs T b w)(x:Fq w w'):RK G w0 n vf vT fs T b w':=h.mod x (λ_ _ h=>h)
instance : Up w w' (RK G w0 n vf vT fs T b w) (RK G w0 n vf vT fs T b w'):=⟨λx h=>h.ext x⟩
def LX.mod {S:Nat->Prop}(h:LX G w0 bl bx w)(m:Vc.Mod S w w')(hS:∀k,G0 w [138,226,5,135,82] k->¬ S k):LX G w0 bl bx w':=by
 obtain⟨idx,vD,vL,dead,LL,h⟩:=h;refine⟨idx,vD,vL,dead,LL,h.d.mod m (λk hk=>hS k ?_),h.m.mod m (hS bl ⟨_,_,h.m,by decide⟩),h.o.mod m (λk hk=>hS k (KU h.o Fo hk)),GZ m.size _ h.gb,λk hk=>GZ m.size _ (h.gv k hk),h.bd⟩;obtain⟨cs,r,h1,h2⟩:=hk;exact⟨cs,r,h1,by have h3:=D9.1 h2;simp only [Ah,List.not_mem_nil,or_false]at h3;rcases h3 with rfl|rfl|rfl<;>decide⟩
structure RE (G:Nat->Prop)(w0:World)(bs bx bl bm:Nat)(n:Int)(vf vT:Value)(dead:Bool)(fs:List Fi)(T:List Tr)(a b:Nat)(w:World):Prop where
 m:Fp w bs [Fh bx 0,Fh bl 0,I n,vf,vT,Fh bm 0,B dead] 69
 g:FV G w0 w bs
 l:LX G w0 bl bx w
 x:G9 G w0 bm a w
 k:RK G w0 n vf vT fs T b w
def RE.inB (h:RE G w0 bs bx bl bm n vf vT dead fs T a b w){i:Nat}(hi:Fv bs i):GT (FV G w0 w) [138,226,135,82,215,69,218] w i:=by
 rw[show i=bs from hi];exact⟨h.g,_,_,h.m,by decide⟩
def RE.rv (h:RE G w0 bs bx bl bm n vf vT dead fs T a b w)(ha:a<=100000000)(hb:b<=200000):∃vM M,RV bs bx bl bm n vf vT vM dead M fs T w:=by
 obtain⟨_,_,vM,M,h1,h2,_,h4,_⟩:=h.x;exact⟨vM,M,h.m,h1,h2.arr Fg,by omega,h.k.v.arr Fg,by have:=h.k.i.1.2.2;omega,h.k.t.arr Fg,by have:=h.k.tl;omega,λt r=>(h.k.e t r).1.arr Fg,λt r=>(h.k.e t r).2.1⟩
end
def Xuw (G:Nat->Prop)(w0:World)(bs bx bl bm:Nat)(n:Int)(vf vT:Value)(dead:Bool)(fs:List Fi)(T:List Tr)(a b:Nat)(l:List Rw)(v:Value)(w:World)(h:RE G w0 bs bx bl bm n vf vT dead fs T a b w)(hv:Fu Rw.cs 3 w v l)(hvG:l≠[]->¬ G (base v).1/\(base v).1<w0.heap.size)(hl:l.length<=100000)(hks:∀r∈l,r.key.length<=1000000/\r.val.length<=1000000)(ha:a<=100000000) :
  G4 69 [Fh bs 0,v] w (GT (FV G w0 w) [138,226,135,82,215,69,218] w) λu w'=>∃(e:Int) (d2:Bool),u=I e/\RE G w0 bs bx bl bm n vf vT d2 fs T (a+l.length) b w':=by
 refine cM Tryz.func69 (GT (FV G w0 w) [138,226,135,82,215,69,218] w) λz=>?_;have hm:=h.m;have O:=h.l;have H:=h.x;have Y:=h.k;have J:=hv;have hq:∀w9,l≠[]->¬ FV G w0 w9 (base v).1:=λw9 hl e=>e.elim (hvG hl).1 (λe9=>by have:=(hvG hl).2;omega);refine go ?_;refine df 6 (rfl) ?_;refine Gb (λc1=>?_) λc1=>?_
 ·refine go ?_;exact⟨_,rfl,z,9,dead,rfl,hm,GZ z.size _ h.g,O,H.more Fe,Y⟩
 refine Gj (Xzn l v _ J hl hks) λu1 w1 x1 ht=>?_;have hsz1:=z.size;refine HB x1 hm O H Y J z λhm O H Y J z=>?_;obtain⟨vb,rfl,hB⟩:=ht;refine Fk (λc2=>?_) λc2=>?_
 ·refine go ?_;exact⟨_,rfl,z,_,dead,rfl,hm,GZ z.size _ h.g,O,H.more Fe,Y⟩
 refine go ?_;obtain⟨idx,vD,hj,dL,LL,hp⟩:=O;refine cD (Xuv G w0 bl bx idx vD hj dL LL _ vb _ hp (hB.mono (Ab _)) (by split;exact Ycc hl hks;exact Ab _)) (.inl rfl) λu2 w2 x2 hh=>?_;have hsz2:=z.size;have hm:=hm.mod x2 (by exact(λe=>Fp.noTy hm Fo e.2));have H:=H.mod x2 (by exact(λk hk e=>G0.ne hk Fo e.2));have Y:=Y.mod x2 (by exact(λk hk e=>G0.ne hk Fo e.2));have J:=J.mod x2 (λhl e=>hq _ hl e.1);have z:=z.own x2 (λi hi Z=>(GT.back z hi Z Fo));obtain⟨nn,ee,rfl,hn9,O⟩:=hh;refine Fk (λc3=>?_) λc3=>?_
 ·refine go ?_;refine df 6 (rfl) ?_;refine Kc (b:=bs) (o:=6) (v:=?v20) rfl rfl ?h20 ?n20 Ff (hm) ?o20 (.inl rfl) (λw3 x3 xs3 hc=>?k20)
  case h20=>conv=>lhs;whnf
  case n20=>rfl
  case o20=>exact An rfl
  have z:=z.own x3 (λi hi Z=>(h.inB hi));dsimp only [Gw,AU,AP,AZ]at hc;have hr:=O.mod x3 (λk hk=>G0.blk hm Fo k hk);have hf:=H.mod x3 (λk hk=>G0.blk hm Fo k hk);have Z9:=Y.mod x3 (λk hk=>G0.blk hm Fo k hk);refine go ?_;exact⟨_,rfl,z,ee,true,rfl,hc,GZ z.size _ h.g,hr,hf.more Fe,Z9⟩
 refine Gz (Ycb G w0 bs bx bl bm a n vf vT dead l v ↑nn _ hm H J hl ha) λu4 w4 x4 hg=>?_;have hsz4:=z.size;have hm:=hm.mod x4 (by exact H.ne hm Fo);have Y:=Y.mod x4 (by exact(λk hk=>H.neT hk Fo));have O:=O.mod x4 (by exact(λk hk=>H.neT hk Fo));have z:=z.own x4 (λi hi Z=>(by rw[show i=bm from hi];exact GT.back z ⟨H.2.1,H.ty⟩ (by rw[<-show i=bm from hi];exact Z) Fo));obtain⟨rfl,H⟩:=hg;refine go ?_;exact⟨_,rfl,z,0,dead,rfl,hm,GZ z.size _ h.g,O,H,Y⟩
def QY (z:Int)(w:World)(h:0<=z/\z<=4611686018427387904):Calls Tryz.prog 205 #[I z] w (Hb w (λu w'=>Vc.Own Fs 1 5 w.heap.size w' u (F4 z.toNat))):=by
 obtain⟨n,rfl⟩:=Int.eq_ofNat_of_zero_le h.1;exact MF n w Fe
def PI {f:Fi}{n:Int}(h:IC f n=true)(hn:n<=1099511627776):0<=f.id/\f.id<=1099511627776/\0<=f.lev/\f.lev<=4/\0<=f.size/\f.size<=1048576/\f.fst.length<=4096/\f.lst.length<=4096:=by
 simp [IC]at h;omega
def X87 (n:Int)(fs:List Fi)(vf:Value)(w:World)(hv:Fu Fi.cs 5 w vf fs)(hl:fs.length<=100000000)(hs:∀f∈fs,f.fst.length<=140737488355328/\f.lst.length<=140737488355328) :
  Gi 219 [.agg ⟨[I n,vf]⟩] w λu w'=>∃(vb:Value) (e:Int) (p:Fj),u=.tuple #[vb,I e]/\Vc.Own Fs 1 5 w.heap.size w' vb p/\p.length<=20000000:=by
 refine cE Tryz.func219 λr=>go ?_;refine G1 rfl rfl rfl RX.all (λb1 w1 e1 x1 z=>?_);have g1:=r.ge e1;have r:=r.trans x1;refine go ?_;refine dq (Fx (k:=2) Ff rfl rfl z.row) (cG (Rl n fs vf _ (hv.ext r) hl hs) RX.all λu2 w2 x2 hz=>?_);have hsz2:=r.size;refine Fy x2 z r λz r=>?_;obtain⟨b9,rfl,h6⟩:=hz;refine Gb (λc1=>?_) λc1=>?_
 ·refine go ?_;exact⟨_,rfl,r,_,_,[],rfl,Vc.Own.nil,by simp⟩
 have h8:b9=true:=by simpa using c1
 have hR:=h6.1 h8;obtain⟨hR1,hy⟩:=hR;have hn1:=Gk n.toNat;have hn2:=Gk fs.length;refine go ?_;refine HP (R:=Mod (λk=>k≠b1)) Ij I0 Ff [1,4] [(0,.p,false),(1,.l,false),(3,.p,false),(4,.l,false),(5,.p,false),(2,.x,false),(6,.x,false),(7,.x,false),(8,.p,false)] rfl Ff Ff (λw3 hf=>?_);have x3:=FE hf;clear hf;refine Fy x3 z r λz r=>go ?_;refine dL rfl (λ_ hR=>((z.mod hR (λh=>h rfl)).at rfl)) (go ?_);refine dL rfl (λ_ hR=>((z.mod hR (λh=>h rfl)).at rfl)) (dv 62 5 (hv.ext r).sl (cG (QY n _ Fe) RX.mod λv1 w4 x4 xa=>?_));have hh:=r.size;refine Fy x4 z r λz r=>?_;have ho:=xa.mono hh;refine cG (MF fs.length _ Fe) RX.mod λvn w5 x5 O=>?_;have hsz5:=r.size;refine FC x5 z ho r λz ho r=>Ht ho (O.arr Fg) (λv2 w6 H x6=>?_) (hR:=(.inr λw9 h9=>h9.mono (λk hk _ e=>ho.ne_blk z rfl (by rw[hk,e]))));have z:=z.mod x6 Fw;have r:=r.own x6 F5;have ho:=H;refine F8 (G:=Nat×Value×Fj) (λ(k,vp,p)=>[(1,Fh b1 0),(2,.slice none 0 0),(3,I 0),(4,vp),(5,I ↑k)]) (λ(k,vp,p) w'=>Fq w w'/\Fp w' b1 [I n,vf] 56/\k<=fs.length/\p.length<=20+10000*k/\Vc.Own Fs 1 5 w.heap.size w' vp p) (λ(k,vp,p)=>fs.length-k) (0,v2,F4 n.toNat++F4 fs.length) ⟨r,z,Ab _,by simp only [Ad];omega,ho⟩ ?_;rintro _ ⟨k,vp,p⟩ w7 ⟨r,z,hk1,hpl,ho⟩;refine FM 62 5 (hv.ext r).sl ?_;refine Fk (λc2=>?_) λc2=>?_
 ·obtain⟨f,hk⟩:∃f,fs[k]?=some f:=F7;obtain⟨f1,f2,f3,f4,f5,f6,f7,f8⟩:=PI (hy k f hk).1 Fe;have hi1:=Gk f.id.toNat;have hi2:=Gk f.lev.toNat;have hi3:=Gk f.size.toNat;have hr1:(FA f.fst).length<=10+f.fst.length:=by unfold FA;have:=Gk f.fst.length;simp;omega
  have hr2:(FA f.lst).length<=10+f.lst.length:=by unfold FA;have:=Gk f.lst.length;simp;omega
  refine FN 62 5 hv.sl (hv.lt hk) ?_;refine dq (Fx Ff rfl rfl ((hv.ext r).row hk)) (aL [.int .i64 0,.int .i64 0,.int .i64 0,S [],S []] λb2 w8 e2 x8 J=>?_);have g2:=r.ge e2;have n2_1:=z.ltb e2;have o2_ho:=ho.ltb e2;refine FC x8 z ho r λz ho r=>Gg J (λw9 x9 xs9 J=>?_);have z:=z.mo x9;have ho:=ho.mod x9 Fw;have r:=r.o1 x9;refine Gj (QY f.id _ Fe) λva w10 xb O=>?_;have hsz10:=r.size;refine FQ xb z ho J r λz ho J r=>Ht ho (O.arr Fg) (λv3 w11 H Y=>?_) (hb:=(by omega));have z:=z.mod Y Fw;have J:=J.mod Y Fw;have r:=r.own Y F5;have ho:=H;refine Gj (QY f.lev _ Fe) λvc w12 hp O=>?_;have hsz12:=r.size;refine FQ hp z ho J r λz ho J r=>Ht ho (O.arr Fg) (λv4 w13 H hc=>?_) (hb:=(by simp only [Ad];omega));have z:=z.mod hc Fw;have J:=J.mod hc Fw;have r:=r.own hc F5;have ho:=H;refine Gj (QY f.size _ Fe) λvd w14 hr O=>?_;have hsz14:=r.size;refine FQ hr z ho J r λz ho J r=>Ht ho (O.arr Fg) (λv5 w15 H Z=>?_) (hb:=(by simp only [Ad];omega));have z:=z.mod Z Fw;have J:=J.mod Z Fw;have r:=r.own Z F5;have ho:=H;refine gw ?_;refine Ka [.p,.p,.l,.x,.x,.x,.p] rfl (go ?_);refine KF (e:=5) rfl Ff Ff Ff rfl RX.all (λb3 cap3 w16 e3 h7 hw=>?_);have g3:=r.ge e3;have n3_1:=z.ltb e3;have n3_2:=J.ltb e3;have o3_ho:=ho.ltb e3;refine FQ h7 z ho J r λz ho J r=>cG (Nu f.fst _ _ hw Fe) RX.all λvq w17 xc O=>?_;have hsz17:=r.size;refine FQ xc z ho J r λz ho J r=>Ht ho (O.arr Fg) (λv6 w18 H ha=>?_) (hb:=(by simp only [Ad];omega));have z:=z.mod ha Fw;have J:=J.mod ha Fw;have r:=r.own ha F5;have ho:=H;refine gw ?_;refine Ka [.p,.p,.l,.x,.x,.x,.p] rfl (go ?_);refine KF (e:=5) rfl Ff Ff Ff rfl RX.all (λb4 cap4 w19 e4 ht hj=>?_);have g4:=r.ge e4;have n4_1:=z.ltb e4;have o4_ho:=ho.ltb e4;refine FC ht z ho r λz ho r=>cG (Nu f.lst _ _ hj Fe) RX.all λvq w20 h5 O=>?_;have hsz20:=r.size;refine FC h5 z ho r λz ho r=>Ht ho (O.arr Fg) (λv7 w21 H hg=>?_) (hb:=(by simp only [Ad];omega));have z:=z.mod hg Fw;have r:=r.own hg F5;have ho:=H;refine go ?_;exact⟨(k+1,v7,_),Hc,⟨r,z,by omega,by simp only [Ad];omega,ho⟩,by simp only [];omega⟩
 refine go ?_;exact⟨_,rfl,r,_,_,p,rfl,ho,by omega⟩
end Go.Proofs.YtiooodckiddpmaaGreatDoor
namespace Go.Sp
open Go.Vc
variable {n:Nat}
def Xz4 (h:n<10):Lib.decDigits n=[AC (48+n)]:=by rw[Lib.decDigits,dif_pos h]
def Yy (h:¬ n<10):Lib.decDigits n=Lib.decDigits (n / 10)++[AC (48+n % 10)]:=by rw[Lib.decDigits,dif_neg h]
def RW (h:n<=9223372036854775807):(Lib.decDigits n).length<=20:=by rw[Lib.decDigits_length];exact Lib.nDigits_le20 n Fe
def Ydv {a:Nat}(h:a<=9223372036854775807):IntKind.i64.wrap ((a:Int) / 10)=((a / 10:Nat):Int):=by rw[Lj FH];omega
def RS (n:Int):Fj:=116 :: Lib.decDigits n.toNat
def Ycd {n:Int}(h0:0<=n)(h1:n<=9223372036854775807):(RS n).length<=900:=by
 have:=RW (n:=n.toNat) Fe;unfold RS;rw[Az];omega
end Go.Sp
namespace Go.Proofs.YtiooodckiddpmaaGreatDoor
open Go.Vc Go.Sp
attribute [local irreducible] W XW Dw GC
@[reducible] def SQ (r:Value×Fj):List Value:=[r.1]
structure RcEb (rs:List (Value×Fj))(w:World):Prop where
 row:∀r∈rs,Vc.Own Fs 1 5 0 w r.1 r.2/\r.2.length<=900000000000
section
variable {G:Nat->Prop}{rs:List (Value×Fj)}{Z:Nat->Prop}{w0 w w':World}{bl bx:Nat}
def RcEb.ext (h:RcEb rs w)(x:Fq w w'):RcEb rs w':=⟨λr z=>⟨(h.row r z).1.ext x,(h.row r z).2⟩⟩
instance : Up w w' (RcEb rs w) (RcEb rs w'):=⟨λx h=>h.ext x⟩
def RcEb.mod (h:RcEb rs w)(m:Vc.Mod Z w w')(hS:∀r∈rs,∀k,r.1.ownBlock=some k->¬ Z k):RcEb rs w':=⟨λr z=>⟨(h.row r z).1.mod m (hS r z),(h.row r z).2⟩⟩
variable {α:Type}{l:List α}
def RcEb.ne {enc:α->List Value}{sz T B:Nat}{v:Value}(h:RcEb rs w)(ho:Vc.Own enc sz T B w v l)(hT:AM 5 T=false):∀r∈rs,∀k,r.1.ownBlock=some k->¬ v.ownBlock=some k:=λr z k hk=>(h.row r z).1.ne ho hT hk
variable {p:Fj}
def RcEb.snoc {v:Value}(h:RcEb rs w)(ho:Vc.Own Fs 1 5 0 w v p)(hp:p.length<=900000000000):RcEb (rs++[(v,p)]) w:=⟨λr z=>(Al.1 z).elim (h.row r) (λe=>by rw[Af.1 e];exact⟨ho,hp⟩)⟩
def RcEb.lt (h:RcEb rs w):∀r∈rs,∀k,r.1.ownBlock=some k->0<=k/\k<w.heap.size:=λr z k hk=>(h.row r z).1.lt k hk
def X3j {enc:α->List Value}{sz T B:Nat}{w0 w:World}{v:Value}(h:Vc.Own enc sz T B w v l)(hw:w0.heap.size<=w.heap.size):∃B9,w0.heap.size<=B9/\(∀k,v.ownBlock=some k->k<B9)/\(∀k,k<w.heap.size->k<B9)/\Sz B9 w:=⟨w.heap.size,hw,λk hk=>(h.lt k hk).2,λ_ h=>h,⟨Aa _⟩⟩
def PK {a:α}{p:α->Prop}(h:∀x∈l,p x)(ha:p a):∀x∈l++[a],p x:=λx r=>(Al.1 r).elim (h x) (λe=>by rw[Af.1 e];exact ha)
def lsave {s:Fj}{v:Value}(h:LX G w0 bl bx w)(hv:Fu Fs 1 w v p)(hp:p.length<=900000000000)(hs:s.length<=900):Calls Tryz.prog 220 [Fh bx 0,S s,v].toArray w (Hp (GT (FV G w0 w) [138,226] w) w (λu w'=>∃e:Int,u=I e/\LX G w0 bl bx w')):=by
 obtain⟨idx,vD,vL,dead,LL,h⟩:=h;exact Calls.mono (WO G w0 bx s p v w h.d hv Fe hs) λe w' ⟨u,e1,m,e9,hu,hd⟩=>⟨u,e1,m,e9,hu,idx,vD,vL,dead,LL,h.up m.size hd (h.m.mod m (λe=>Fp.noTy h.m Fo e.2)) (h.o.mod m (λk hk e=>H4 h.o Fo hk e.2))⟩
def lremove {s:Fj}(h:LX G w0 bl bx w):Calls Tryz.prog 145 [Fh bx 0,S s].toArray w (Hp (GT (FV G w0 w) [138,226] w) w (λu w'=>∃e:Int,u=I e/\LX G w0 bl bx w')):=by
 obtain⟨idx,vD,vL,dead,LL,h⟩:=h;exact Calls.mono (J6 G w0 bx s w h.d) λe w' ⟨u,e1,m,e9,hu,hd⟩=>⟨u,e1,m,e9,hu,idx,vD,vL,dead,LL,h.up m.size hd (h.m.mod m (λe=>Fp.noTy h.m Fo e.2)) (h.o.mod m (λk hk e=>H4 h.o Fo hk e.2))⟩
structure GvE (G:Nat->Prop)(w0:World)(v:Value)(w:World):Prop where
 g:∀k,v.ownBlock=some k->FV G w0 w k
def GvE.mod {v:Value}(h:GvE G w0 v w)(m:Vc.Mod Z w w')(_:True):GvE G w0 v w':=⟨λk hk=>GZ m.size _ (h.g k hk)⟩
def GvE.ext {v:Value}(h:GvE G w0 v w)(x:Fq w w'):GvE G w0 v w':=⟨λk hk=>GZ x.size _ (h.g k hk)⟩
instance {v : Value} : Up w w' (GvE G w0 v w) (GvE G w0 v w'):=⟨λx h=>h.ext x⟩
structure TeE (G:Nat->Prop)(w0:World)(T:List Tr)(w:World):Prop where
 e:∀t∈T,Vc.Own Cell.cs 4 79 0 w t.v t.l/\t.l.length<=4096/\(∀c∈t.l,Gl c=true)/\∀k,t.v.ownBlock=some k->FV G w0 w k
def TeE.mod {T:List Tr}(h:TeE G w0 T w)(m:Vc.Mod Z w w')(hS:∀t∈T,∀k,t.v.ownBlock=some k->¬ Z k):TeE G w0 T w':=⟨λt r=>⟨(h.e t r).1.mod m (hS t r),(h.e t r).2.1,(h.e t r).2.2.1,λk hk=>GZ m.size _ ((h.e t r).2.2.2 k hk)⟩⟩
def TeE.ext {T:List Tr}(h:TeE G w0 T w)(x:Fq w w'):TeE G w0 T w':=h.mod x (λ_ _ _ _ h=>h)
instance {T : List Tr} : Up w w' (TeE G w0 T w) (TeE G w0 T w'):=⟨λx h=>h.ext x⟩
def llast (h:LX G w0 bl bx w):∃n:Nat,n<=1099511627776/\Calls Tryz.prog 31 [Fh bl 0].toArray w (Pure w (I ↑n)):=by
 obtain⟨idx,vD,vL,dead,LL,h⟩:=h;exact⟨_,h.bd,Iw G w0 bl bx idx vD vL dead LL w h⟩
def lwrite {n:Nat}{v:Value}(h:LX G w0 bl bx w)(hv:Vc.Own Fs 1 5 0 w v p)(hn:n<=1099511627776)(hp:p.length<=100000000000):Calls Tryz.prog 221 [Fh bl 0,I ↑n,v].toArray w (Hp (GT (FV G w0 w) [138,226,135,82] w) w (λu w'=>∃e:Int,u=I e/\LX G w0 bl bx w')):=by
 obtain⟨idx,vD,vL,dead,LL,h⟩:=h;exact Xzy G w0 bl bx idx vD vL dead LL n p v w h hv hn hp
end
def X3k (n:Nat)(w:World)(hn:n<=9223372036854775807)(ih:∀(m:Nat) (w:World),m<n->Calls Tryz.prog 68 [I ↑m].toArray w (Pure w (S (Lib.decDigits m)))) :
  FX 68 [I ↑n] w (S (Lib.decDigits n)):=by
 refine cE Tryz.func68 λr=>?_;have hdl:=RW (n:=n / 10) Fe;refine Fk (λJ=>?_) λJ=>?_
 ·refine gw ?_;refine Ka [.p,.p,.p,.x,.l,.p] rfl (gn ?_);refine F3 (v:=I ↑(48+n)) rfl (GK rfl rfl FH) FY (dp (NN (n:=48+n) rfl Ff Ff) (li (e:=5) (sz:=1) (zs:=[.int .u8 0]) (pv:=[(0,_)]) (cs:=[_]) RX.all (λb1 w1 e1 O Y=>?_)));have g1:=r.ge e1;have r:=r.trans O;refine dq (Nz Ff Ff (Y.arr (enc:=Fs) (sz:=1) (l:=[AC (48+n)]) rfl Fg rfl (An rfl)) rfl) (go ?_);exact⟨by rw[Xz4 (n:=n) Fe],r⟩
 refine go ?_;refine KK (R:=Fq) Fq.refl (λ_ _ _=>Fq.trans) Ff [8] (.one 0 .p false (.one 1 .p false (.one 3 .p false (.one 4 .p false (.one 5 .p false (.one 6 .p false (.fork (.alt 2 true (.one 7 .x true (.one 8 .l false (.one 9 .p false (.one 10 .p false .nil)))) (.alt 7 true (.one 8 .l false (.one 2 .x false (.one 9 .p false (.one 10 .p false .nil)))) .stop))))))))) Ff Ff (λw2 z=>?_);have x2:=FE z;clear z;have r:=r.trans x2;refine go ?_;refine F3 (v:=I ↑(n / 10)) rfl (QA rfl rfl Fe Fo) (by show I _=I _;rw[Ydv hn]) (go ?_);refine F3 (v:=I ↑(n % 10)) rfl (NJ rfl rfl Fe Fo) FY (gn ?_);refine F3 (v:=I ↑(48+n % 10)) rfl (GK rfl rfl FH) FY (go ?_);refine dp (NN (n:=48+n % 10) rfl Ff Ff) (go ?_);refine Ji ?_;refine Hk ?_ ?_
 ·refine cP (ih (n / 10) _ Fe) RX.all λw3 H=>?_;have r:=r.trans H;refine go ?_;refine li (e:=5) (sz:=1) (zs:=[.int .u8 0]) (pv:=[(0,_)]) (cs:=[_]) RX.all (λb2 w4 e2 x4 m2=>?_);have g2:=r.ge e2;have r:=r.trans x4;refine go ?_;refine Gh rfl (λw' hR=>Nz Ff Ff ((m2.ext hR).arr (enc:=Fs) (sz:=1) (l:=[AC (48+n % 10)]) rfl Fg rfl (An rfl)) rfl) (go ?_);refine dp (I6 rfl rfl Gx) (go ?_);exact⟨by rw[Yy (n:=n) Fe],r⟩
 refine Hk ?_ ?_
 ·refine li (e:=5) (sz:=1) (zs:=[.int .u8 0]) (pv:=[(0,_)]) (cs:=[_]) RX.all (λb3 w5 e3 x5 m3=>?_);have g3:=r.ge e3;have r:=r.trans x5;refine go ?_;refine Gh rfl (λw' hR=>Nz Ff Ff ((m3.ext hR).arr (enc:=Fs) (sz:=1) (l:=[AC (48+n % 10)]) rfl Fg rfl (An rfl)) rfl) (go ?_);refine cP (ih (n / 10) _ Fe) RX.ext λw6 x6=>?_;have r:=r.trans x6;refine go ?_;refine dp (I6 rfl rfl Gx) (go ?_);exact⟨by rw[Yy (n:=n) Fe],r⟩
 exact Jh
def Xux (n:Nat):∀(w:World),n<=9223372036854775807->Calls Tryz.prog 68 [I ↑n].toArray w (Pure w (S (Lib.decDigits n))):=by
 induction n using Nat.strongRecOn with
 | _ n ih=>exact λw hn=>X3k n w hn (λm r hm=>ih m hm r Fe)
def Xz6 (n:Int)(w:World)(h0:0<=n)(hn:n<=9223372036854775807) :
  FX 29 [I n] w (S (RS n)):=by
 refine cE Tryz.func29 λr=>?_;have z:=RW (n:=n.toNat) Fe;obtain⟨m,rfl⟩:∃m:Nat,n=m:=⟨n.toNat,by omega⟩;refine Gs (Xux m _ Fe) λw1 H=>?_;have r:=r.trans H;refine dp (I6 rfl rfl (by simp at z ⊢;omega)) (go ?_);exact⟨rfl,r⟩
def X3 (G:Nat->Prop)(w0:World)(bs bx bl bm:Nat)(n:Int)(vf vT:Value)(dead:Bool)(fs:List Fi)(T:List Tr)(a b:Nat)(l:List Cell)(v:Value)(lev:Int)(gone:List Int)(vg:Value)(w:World)(h:RE G w0 bs bx bl bm n vf vT dead fs T a b w)(hv:Vc.Own Cell.cs 4 79 0 w v l)(hl:l.length<=90000000)(hlc:∀c∈l,Gl c=true)(hg:Fu Vc.encI 1 w vg gone)(hgl:gone.length<=40000000)(hb9:b<=20000000) :
  G4 141 [Fh bs 0,v,I lev,vg] w (GT (FV G w0 w) [138,226,135,82,215,69,218] w) λu w'=>∃(e:Int) (d2:Bool) (n2:Int) (vf2 vT2:Value) (fs2:List Fi) (T2:List Tr),u=I e/\RE G w0 bs bx bl bm n2 vf2 vT2 d2 fs2 T2 a (b+1024) w'/\(gone=[]->Li fs->Li fs2):=by
 refine cE Tryz.func141 λJ=>?_;have hbs:=h.m.lt;have yy:=h.k.i.1;refine Gj (Xzq l v _ ((hv.ext J).arr Fg) Fe (λc hc=>by have:=MQ (hlc c hc);omega)) λvq w1 x1 zg=>?_;have xn:=J.size;have J:=J.trans x1;obtain⟨qs,y1,zd,yg,hql⟩:=zg;have O:=y1.mono xn;have z:RcE w.heap.size qs _:=⟨λq hq=>(zd.row q hq).mono xn⟩;obtain⟨B9,y5,xu,yd,hS⟩:=X3j O J.size;have yn:∀q∈qs,∀k,q.1.ownBlock=some k->k<B9:=λq hq k hk=>yd _ (z.lt q hq k hk).2;have H:=O.arr (enc:=JV) Fg;refine F8 (G:=Nat×Value×List (Value×Fj)×Value×List Fi) (λ(k,vr,rs,vd,add)=>[(0,Fh bs 0),(2,I lev),(3,vg),(9,vq),(10,vd),(11,vr),(12,I ↑k)]) (λ(k,vr,rs,vd,add) w'=>Fq w w'/\Fu JV 1 w' vq qs/\Vc.Own JV 1 95 w.heap.size w' vq qs/\RcE w.heap.size qs w'/\Sz B9 w'/\k<=qs.length/\rs.length=k/\add.length=k/\(∀q∈qs.take k,q.2.length<=4096)/\(∀f∈add,0<=f.id/\f.id<=2199023255552/\f.fst.length<=4096/\f.lst.length<=4096)/\Vc.Own SQ 1 82 w.heap.size w' vr rs/\RcEb rs w'/\Vc.Own Fi.cs 5 62 B9 w' vd add) (λ(k,vr,rs,vd,add)=>qs.length-k) (0,.slice none 0 0,[],.slice none 0 0,[]) ⟨J,H,O,z,hS,Ab _,rfl,rfl,λq hq=>(by cases hq),λf hf=>(by cases hf),Vc.Own.nil,⟨λr hr=>(by cases hr)⟩,Vc.Own.nil⟩ ?_;rintro _ ⟨k,vr,rs,vd,add⟩ w2 ⟨J,H,O,z,hS,hk1,hrl,hal,hqb,had,ho,hW,hd⟩;refine FM 95 1 H.sl ?_;refine Fk (λc1=>?_) λc1=>?_
 ·obtain⟨q,hkq⟩:∃q,qs[k]?=some q:=F7;have hj:=Ag hkq;obtain⟨za,hq2,yc⟩:=yg q hj;have hq0:=CM.2 za;obtain⟨c0,hk0⟩:∃c,q.2[0]?=some c:=F7;obtain⟨c1,hk1⟩:∃c,q.2[q.2.length-1]?=some c:=F7;have hb0:=MQ (hlc c0 (yc c0 (Ag hk0)));have hb1:=MQ (hlc c1 (yc c1 (Ag hk1)));have ha:=(z.row q hj).arr (enc:=Cell.cs) Fg;have hh:=z;refine FN 95 1 H.sl (H.lt hkq) ?_;refine dl rfl ((H.row hkq).at0 rfl) (cG (X3d q.2 q.1 _ ha Fe) RX.all λu3 w3 x3 yx=>?_);have yl:=J.size;refine Jj x3 H O z hS ho hW hd ha λH O z hS ho hW hd ha=>Fy x3 hh J λhh J=>?_;obtain⟨vb,e9,xh,rfl,ze,yz,y0⟩:=yx;have hB:=ze.mono yl;refine Fk (λc2=>?_) λc2=>?_
  ·refine go ?_;exact⟨_,rfl,J.mono (λ_ h _=>h.elim),5,dead,n,vf,vT,fs,T,rfl,⟨h.m.ext J,GZ J.size _ h.g,h.l.ext J,h.x.ext J,(h.k.ext J).up9 Fe⟩,λ_ h9=>h9⟩
  have hq4:=(y0 (AF ‹_›)).1;refine go ?_;refine It (e:=82) (sz:=1) (zs:=[.slice none 0 0]) (pv:=[(0,?a19_0)]) (cs:=[?a19_0]) rfl Ff ⟨rfl,rfl⟩ Ff rfl ?h19 ?f19 RX.all (λb1 w4 e1 x4 m1=>?k19)
  case h19=>refine⟨rfl,?_,trivial⟩<;>(conv=>lhs;whnf)
  case f19=>simp [Hs,Gw,Ap,hB.sl.cells]
  have g1:=J.ge e1;have a1_hQa:=Fu.base_lt H Fo;have o1_hQ:=O.ltb e1;have q1_hRc:=z.lt;have a1_hS:=hS.le;have o1_ho:=ho.ltb e1;have q1_hW:=hW.lt;have o1_hd:=hd.ltb e1;have a1_hqa:=Fu.base_lt ha Fo;have q1_hR2:=hh.lt;have o1_hB:=hB.ltb e1;refine Jj x4 H O z hS ho hW hd ha λH O z hS ho hW hd ha=>FC x4 hh hB J λhh hB J=>G8 (vb,xh) ho m1 (λy6 w5 yq x5=>?_) (h1:=(by intro x xp u hu;rw[Af.1 xp]at hu;rw[Af.1 hu];exact hB.sl.one));have H:=H.mod x5 (by exact(λhl e=>O.ne ho rfl (O.base_block hl) e));have O:=O.mod x5 (by exact(λk hk=>O.ne ho rfl hk));have z:=z.mod x5 (by exact z.ne ho rfl);have hS:=hS.mod x5 (by trivial);have hW:=hW.mod x5 (by exact hW.ne ho rfl);have hd:=hd.mod x5 (by exact(λk hk=>hd.ne ho rfl hk));have ha:=ha.mod x5 (by exact(λhl e=>(hh.row q hj).ne ho rfl ((hh.row q hj).base_block hl) e));have hh:=hh.mod x5 (by exact hh.ne ho rfl);have hB:=hB.mod x5 (by exact(λk hk=>hB.ne ho rfl hk));have J:=J.own x5 (λi hi=>(ho.lt i hi).1);have ho:=yq;clear m1;refine go ?_;refine HP (R:=Mod (λk=>B9<=k)) Ij I0 Ff [5,14,17,21,25,30] [(0,.p,false),(1,.p,false),(2,.p,false),(3,.p,false),(4,.p,false),(5,.l,false),(6,.p,false),(7,.p,false),(8,.p,false),(9,.p,false),(10,.p,false),(11,.p,false),(12,.p,false),(13,.p,false),(14,.l,false),(15,.p,false),(16,.p,false),(17,.l,false),(18,.p,false),(19,.p,false),(20,.p,false),(21,.l,false),(22,.p,false),(23,.p,false),(24,.p,false),(25,.l,false),(26,.p,false),(27,.p,false),(28,.p,false),(29,.p,false),(30,.l,false),(31,.p,false),(32,.x,false),(33,.x,false),(34,.p,false)] rfl Ff Ff (λw6 yt=>?_);have x6:=FE yt;clear yt;refine Jj x6 H O z hS ho hW hd ha λH O z hS ho hW hd ha=>FC x6 hh hB J λhh hB J=>go ?_;refine dL rfl (λ_ hR=>(((h.m.ext J).mod hR (λh9=>by omega)).at rfl)) (gn ?_);refine F3 (v:=I (n+↑k)) rfl (GK rfl rfl FH) rfl (go ?_);refine dv 5 1 (hB.arr Fg).sl (FN 95 1 H.sl (H.lt hkq) ?_);refine dL rfl (λ_ hR=>(((H.mod hR (λhl h9=>by have h1:=xu _ (O.base_block hl);omega)).row hkq).at0 rfl)) (di 79 4 ha.sl rfl (ha.lt hk0) (go ?_));refine dL rfl (λ_ hR=>(((ha.mod hR (λhl h9=>by have h1:=yn q hj _ ((z.row q hj).base_block hl);omega)).row hk0).at rfl)) (FN 95 1 H.sl (H.lt hkq) ?_);refine dL rfl (λ_ hR=>(((H.mod hR (λhl h9=>by have h1:=xu _ (O.base_block hl);omega)).row hkq).at0 rfl)) (FN 95 1 H.sl (H.lt hkq) ?_);refine dL rfl (λ_ hR=>(((H.mod hR (λhl h9=>by have h1:=xu _ (O.base_block hl);omega)).row hkq).at0 rfl)) (dv 79 4 ha.sl (F3 (v:=I ↑(q.2.length-1)) rfl (G7 rfl rfl FH) FY (di 79 4 ha.sl rfl (ha.lt hk1) (go ?_))));refine dL rfl (λ_ hR=>(((ha.mod hR (λhl h9=>by have h1:=yn q hj _ ((z.row q hj).base_block hl);omega)).row hk1).at rfl)) (db (zs:=[.int .i64 0,.int .i64 0,.int .i64 0,S [],S []]) (pl:=[(0,1),(1,1),(2,1),(3,1),(4,1)]) (pv:=[(0,_),(1,_),(2,_),(3,_),(4,_)]) (cs:=[_,_,_,_,_]) ?_);refine lA 62 rfl (λb2 w7 e2 x7 m2=>?_) (hR:=RX.mod);have g2:=J.ge e2;have a2_hQa:=Fu.base_lt H Fo;have o2_hQ:=O.ltb e2;have q2_hRc:=z.lt;have a2_hS:=hS.le;have o2_ho:=ho.ltb e2;have q2_hW:=hW.lt;have o2_hd:=hd.ltb e2;have a2_hqa:=Fu.base_lt ha Fo;have q2_hR2:=hh.lt;have o2_hB:=hB.ltb e2;refine Jj x7 H O z hS ho hW hd ha λH O z hS ho hW hd ha=>FC x7 hh hB J λhh hB J=>G8 ⟨n+↑k,lev,↑xh.length,c0.key,c1.key⟩ hd m2 (λzh w8 yo x8=>?_) (hB:=hS.le) (hR:=(.inr λw9 h9=>h9.mono (λk hk _=>(hd.lt k hk).1)));have H:=H.mod x8 (by exact(λhl e=>O.ne hd rfl (O.base_block hl) e));have O:=O.mod x8 (by exact(λk hk=>O.ne hd rfl hk));have z:=z.mod x8 (by exact z.ne hd rfl);have hS:=hS.mod x8 (by trivial);have ho:=ho.mod x8 (by exact(λk hk=>ho.ne hd rfl hk));have hW:=hW.mod x8 (by exact hW.ne hd rfl);have ha:=ha.mod x8 (by exact(λhl e=>(hh.row q hj).ne hd rfl ((hh.row q hj).base_block hl) e));have hh:=hh.mod x8 (by exact hh.ne hd rfl);have hB:=hB.mod x8 (by exact(λk hk=>hB.ne hd rfl hk));have J:=J.own x8 (λi hi=>(Ae y5 (hd.lt i hi).1));have hd:=yo;clear m2;refine go ?_;exact FL (k+1,y6,rs++[(vb,xh)],zh,add++[⟨n+↑k,lev,↑xh.length,c0.key,c1.key⟩]) ⟨J,H,O,z,hS,by omega,by simp;omega,by simp;omega,by rw[GW hkq];exact PK hqb Fe,PK had ⟨by simp only [];omega,by simp only [];omega,by simp only [];omega,by simp only [];omega⟩,ho,hW.snoc (hB.mono (Ab _)) yz,hd⟩
 rw[Av Fe]at hqb;refine go ?_;refine dq (Fx Ff rfl rfl ((h.m.ext J).part 2 2)) ?_;refine Gj (Xzz n fs vf gone vg add vd _ ((h.k.v.ext J).arr Fg) Fe (λf hf=>by obtain⟨i9,hi⟩:=AK hf;have:=PI (h.k.i.2 i9 f hi).1 yy.2.1;omega) (hg.ext J) hgl (hd.arr Fg) Fe (λf hf=>by have:=had f hf;exact⟨by unfold Ge;omega,by omega,by omega⟩)) λu9 w9 x9 y9=>?_;have xe:=J.size;refine Lv x9 H O z ho hW hd J λH O z ho hW hd J=>?_;obtain⟨nx,vx,xs,e7,rfl,y7,y4⟩:=y9;have hV:=y7.mono xe;refine go ?_;refine aL [.int .i64 0,.slice none 0 0] λb3 w10 e3 zf m3=>?_;have g3:=J.ge e3;have xf:=Fu.base_lt H Fo;have xr:=O.ltb e3;have xg:=z.lt;have xx:=ho.ltb e3;have xv:=hW.lt;have xy:=hd.ltb e3;have xz:=hV.ltb e3;refine Jj zf H O z ho hW hd hV J λH O z ho hW hd hV J=>Gg m3 (λw11 xa xs11 m3=>?_) (h1:=by(intro u hu;rcases Ah.1 hu with e|hu;subst e;rfl;rw[Af.1 hu];exact hV.sl.one));have H:=H.mod xa (λhl e=>by have h2:(base vq).1=b3:=e;have h1:=xf hl;omega);have O:=O.mod xa (by intro k hk h;have h1:=xr k hk;have h2:k=b3:=h;omega);have z:=z.mod xa (λq hq k hk e=>by have h2:k=b3:=e;have h1:=((z.row q hq).lt k hk);have h3:=(xg q hq k hk).2;omega);have ho:=ho.mod xa (by intro k hk h;have h1:=xx k hk;have h2:k=b3:=h;omega);have hW:=hW.mod xa (λq hq k hk e=>by have h2:k=b3:=e;have h3:=(xv q hq k hk).2;omega);have hd:=hd.mod xa (by intro k hk h;have h1:=xy k hk;have h2:k=b3:=h;omega);have hV:=hV.mod xa (by intro k hk h;have h1:=xz k hk;have h2:k=b3:=h;omega);have J:=J.o1 xa;refine Fk (λc3=>?_) λc3=>?_
 ·refine go ?_;exact⟨_,rfl,J.mono (λ_ h _=>h.elim),5,dead,n,vf,vT,fs,T,rfl,⟨h.m.ext J,GZ J.size _ h.g,h.l.ext J,h.x.ext J,(h.k.ext J).up9 Fe⟩,λ_ h9=>h9⟩
 obtain⟨xw,hVa,y2,hVm⟩:=y4 (AF ‹_›);have zb:=xw.1;refine go ?_;refine dq (Fx (k:=2) Ff rfl rfl m3.row) ?_;refine cG (X87 nx xs vx _ (hV.arr Fg) Fe (λf hf=>by obtain⟨i9,hi⟩:=AK hf;have:=PI (xw.2 i9 f hi).1 zb.2.1;omega)) RX.all λu12 w12 yi ya=>?_;have hsz12:=J.size;refine Jj yi H O z ho hW hd hV m3 λH O z ho hW hd hV m3=>?_;have J:=J.ext yi;obtain⟨vi,e8,pi,rfl,y8,hil⟩:=ya;have hI:=y8.mono (Ab _);refine go ?_;refine dv 5 1 (hI.arr Fg).sl ?_;refine Fk (λc4=>?_) λc4=>?_
 ·refine go ?_;exact⟨_,rfl,J.mono (λ_ h _=>h.elim),5,dead,n,vf,vT,fs,T,rfl,⟨h.m.ext J,GZ J.size _ h.g,h.l.ext J,h.x.ext J,(h.k.ext J).up9 Fe⟩,λ_ h9=>h9⟩
 have hm:=h.m.ext J;have hL:=h.l.ext J;have hX:=h.x.ext J;have hK:=h.k.ext J;refine F8 (G:=Nat) (λk=>[(0,Fh bs 0),(9,vq),(10,vd),(11,vr),(15,Fh b3 0),(17,vi),(19,I ↑k)]) (λk w'=>Mod (GT (FV G w0 w) [138,226,135,82,215,69,218] w) w w'/\Fu JV 1 w' vq qs/\Vc.Own JV 1 95 w.heap.size w' vq qs/\RcE w.heap.size qs w'/\Vc.Own SQ 1 82 w.heap.size w' vr rs/\RcEb rs w'/\Vc.Own Fi.cs 5 62 B9 w' vd add/\Vc.Own Fi.cs 5 62 w.heap.size w' vx xs/\Fp w' b3 [I nx,vx] 56/\Vc.Own Fs 1 5 0 w' vi pi/\Fp w' bs [Fh bx 0,Fh bl 0,I n,vf,vT,Fh bm 0,B dead] 69/\LX G w0 bl bx w'/\G9 G w0 bm a w'/\RK G w0 n vf vT fs T b w'/\k<=rs.length) (λk=>rs.length-k) 0 ⟨J.mono (λ_ h _=>h.elim),H,O,z,ho,hW,hd,hV,m3,hI,hm,hL,hX,hK,Ab _⟩ ?_;rintro _ k w13 ⟨J,H,O,z,ho,hW,hd,hV,m3,hI,hm,hL,hX,hK,hk2⟩;refine go ?_;refine dv 82 1 (ho.arr Fg).sl ?_;refine Fk (λc5=>?_) λc5=>?_
 ·obtain⟨r,hkr⟩:∃r,rs[k]?=some r:=F7;obtain⟨f,hkf⟩:∃f,add[k]?=some f:=F7;have hfa:=had f (Ag hkf);have ym:=Ag hkr;have hp:=hd.arr (enc:=Fi.cs) Fg;have xc:=ho.arr (enc:=SQ) Fg;refine go ?_;refine HP (R:=Mod (λk=>k≠bs/\vd.ownBlock≠some k/\vr.ownBlock≠some k)) Ij I0 Ff [3,8,13] [(0,.p,false),(1,.p,false),(2,.p,false),(3,.l,false),(4,.p,false),(5,.p,false),(6,.p,false),(7,.p,false),(8,.l,false),(10,.p,false),(11,.p,false),(12,.p,false),(13,.l,false),(9,.x,false),(14,.x,false),(15,.p,false)] rfl Ff Ff (λw14 xk=>?_);have yj:=FE xk;clear xk;refine Jj yj H O z ho hW hd hV m3 λH O z ho hW hd hV m3=>Jj yj hI hm hL hX hK hp xc J λhI hm hL hX hK hp xc J=>go ?_;refine dL rfl (λ_ hR=>((hm.mod hR (λh=>h.1 rfl)).at rfl)) (FN 62 5 hp.sl (hp.lt hkf) ?_);refine go ?_;refine dL rfl (λ_ hR=>(((hp.mod hR (λhl h=>h.2.1 (hd.base_block hl))).row hkf).at rfl)) (FN 82 1 xc.sl (xc.lt hkr) ?_);refine dL rfl (λ_ hR=>(((xc.mod hR (λhl h=>h.2.2 (ho.base_block hl))).row hkr).at0 rfl)) (cP (Xz6 f.id _ Fe Fe) RX.mod λw15 x2=>Jj x2 H O z ho hW hd hV m3 λH O z ho hW hd hV m3=>Jj x2 hI hm hL hX hK hp xc J λhI hm hL hX hK hp xc J=>Jz rfl Ff (lsave hL ((hW.row r ym).1.arr Fg) (hW.row r ym).2 (Ycd Fe Fe)) rfl (.inr λw9 h9=>h9.mono (λk hk _=>⟨λe=>G0.blk hm Fo k hk.2 e,λe=>H4 hd Fo e hk.2,λe=>H4 ho Fo e hk.2⟩)) (λu16 w16 hy x0=>?_));have hsz16:=J.size;have H:=H.mod hy (by exact(λhl e=>H4 O Fo (O.base_block hl) e.2));have O:=O.mod hy (by exact(λk hk e=>H4 O Fo hk e.2));have z:=z.mod hy (by exact(λq hq k hk e=>H4 (z.row q hq) Fo hk e.2));have ho:=ho.mod hy (by exact(λk hk e=>H4 ho Fo hk e.2));have hW:=hW.mod hy (by exact(λq hq k hk e=>H4 (hW.row q hq).1 Fo hk e.2));have hd:=hd.mod hy (by exact(λk hk e=>H4 hd Fo hk e.2));have hV:=hV.mod hy (by exact(λk hk e=>H4 hV Fo hk e.2));have m3:=m3.mod hy (by exact(λe=>Fp.noTy m3 Fo e.2));have hI:=hI.mod hy (by exact(λk hk e=>H4 hI Fo hk e.2));have hm:=hm.mod hy (by exact(λe=>Fp.noTy hm Fo e.2));have hX:=hX.mod hy (by exact(λk hk e=>G0.ne hk Fo e.2));have hK:=hK.mod hy (by exact(λk hk e=>G0.ne hk Fo e.2));have J:=J.own hy (λi hi xb=>(GT.back J hi xb Fo));obtain⟨e6,rfl,hL⟩:=x0;refine Fk (λc6=>?_) λc6=>?_
  ·refine Gz (SK bs bx bl bm n vf vT dead e6 _ hm) λu17 w17 xj yw=>?_;have hsz17:=J.size;have hX:=hX.mod xj (λk hk=>G0.blk hm Fo k hk);have hK:=hK.mod xj (λk hk=>G0.blk hm Fo k hk);have hL:=hL.mod xj (λk hk=>G0.blk hm Fo k hk);have J:=J.own xj (λi hi xb=>(h.inB hi));obtain⟨rfl,hm⟩:=yw;refine go ?_;exact⟨_,rfl,J,e6,true,n,vf,vT,fs,T,rfl,⟨hm,GZ J.size _ h.g,hL,hX,hK.up9 Fe⟩,λ_ h9=>h9⟩
  refine go ?_;exact FL (k+1) ⟨J,H,O,z,ho,hW,hd,hV,m3,hI,hm,hL,hX,hK,by omega⟩
 refine go ?_;refine HP (R:=Mod (λk=>k≠bs)) Ij I0 Ff [3,7] [(0,.p,false),(1,.p,false),(2,.p,false),(3,.l,false),(4,.p,false),(5,.p,false),(6,.p,false),(7,.l,false),(9,.p,false),(8,.x,false),(10,.x,false),(11,.p,false)] rfl Ff Ff (λw18 xm=>?_);have yu:=FE xm;clear xm;refine Jj yu H O z ho hd hV m3 hI λH O z ho hd hV m3 hI=>Ga yu hm hL hX hK J λhm hL hX hK J=>go ?_;refine dL rfl (λ_ hR=>((hm.mod hR (λh=>h rfl)).at rfl)) (go ?_);refine dL rfl (λ_ hR=>((hm.mod hR (λh=>h rfl)).at rfl)) (go ?_);obtain⟨nn,zc,y3⟩:=llast hL;refine cP (y3) RX.mod λw19 yk=>Jj yk H O z ho hd hV m3 hI λH O z ho hd hV m3 hI=>Ga yk hm hL hX hK J λhm hL hX hK J=>Jz rfl Ff (lwrite hL hI zc Fe) rfl (.inr λw9 h9=>h9.mono (λk hk _ e=>G0.blk hm Fo k hk.2 e)) (λu20 w20 h7 yf=>?_);have hsz20:=J.size;have H:=H.mod h7 (by exact(λhl e=>H4 O Fo (O.base_block hl) e.2));have O:=O.mod h7 (by exact(λk hk e=>H4 O Fo hk e.2));have z:=z.mod h7 (by exact(λq hq k hk e=>H4 (z.row q hq) Fo hk e.2));have hd:=hd.mod h7 (by exact(λk hk e=>H4 hd Fo hk e.2));have hV:=hV.mod h7 (by exact(λk hk e=>H4 hV Fo hk e.2));have m3:=m3.mod h7 (by exact(λe=>Fp.noTy m3 Fo e.2));have hm:=hm.mod h7 (by exact(λe=>Fp.noTy hm Fo e.2));have hX:=hX.mod h7 (by exact(λk hk e=>G0.ne hk Fo e.2));have hK:=hK.mod h7 (by exact(λk hk e=>G0.ne hk Fo e.2));have J:=J.own h7 (λi hi xb=>(GT.back J hi xb Fo));obtain⟨e6,rfl,hL⟩:=yf;refine Fk (λc7=>?_) λc7=>?_
 ·refine Gz (SK bs bx bl bm n vf vT dead e6 _ hm) λu21 w21 xi ye=>?_;have hsz21:=J.size;have hX:=hX.mod xi (λk hk=>G0.blk hm Fo k hk);have hK:=hK.mod xi (λk hk=>G0.blk hm Fo k hk);have hL:=hL.mod xi (λk hk=>G0.blk hm Fo k hk);have J:=J.own xi (λi hi xb=>(h.inB hi));obtain⟨rfl,hm⟩:=ye;refine go ?_;exact⟨_,rfl,J,e6,true,n,vf,vT,fs,T,rfl,⟨hm,GZ J.size _ h.g,hL,hX,hK.up9 Fe⟩,λ_ h9=>h9⟩
 have xq:=hm;refine go ?_;refine dq (Fx (k:=2) Ff rfl rfl m3.row) (go ?_);refine Gg hm (λw22 h8 xs22 hm=>?_) (h1:=by(intro u hu;rcases Ah.1 hu with e|hu;subst e;rfl;rw[Af.1 hu];exact hV.sl.one));have H:=H.mod h8 (λhl e=>by have h2:(base vq).1=bs:=e;have h1:=O.lt _ (O.base_block hl);omega);have O:=O.mod h8 (by intro k hk h;have h1:=(O.lt k hk).1;have h2:k=bs:=h;omega);have z:=z.mod h8 (λq hq k hk e=>by have h2:k=bs:=e;have h1:=((z.row q hq).lt k hk);omega);have hd:=hd.mod h8 (by intro k hk h;have h1:=(hd.lt k hk).1;have h2:k=bs:=h;omega);have hV:=hV.mod h8 (by intro k hk h;have h1:=(hV.lt k hk).1;have h2:k=bs:=h;omega);have hX:=hX.mod h8 (λk hk=>by exact G0.blk xq Fo k hk);have hK:=hK.mod h8 (λk hk=>by exact G0.blk xq Fo k hk);have hL:=hL.mod h8 (λk hk=>by exact G0.blk xq Fo k hk);have J:=J.own h8 (λi hi _=>(h.inB hi));refine F8 (G:=Nat×Value×List Tr) (λ(k,vT2,T2)=>[(0,Fh bs 0),(9,vq),(10,vd),(20,I ↑k)]) (λ(k,vT2,T2) w'=>Mod (GT (FV G w0 w) [138,226,135,82,215,69,218] w) w w'/\Fu JV 1 w' vq qs/\Vc.Own JV 1 95 w.heap.size w' vq qs/\RcE w.heap.size qs w'/\Vc.Own Fi.cs 5 62 B9 w' vd add/\Vc.Own Fi.cs 5 62 w.heap.size w' vx xs/\G9 G w0 bm a w'/\LX G w0 bl bx w'/\k<=qs.length/\T2.length<=b+k/\Fp w' bs [Fh bx 0,Fh bl 0,I nx,vx,vT2,Fh bm 0,B dead] 69/\Vc.Own Tr.cs 2 218 0 w' vT2 T2/\GvE G w0 vT2 w'/\TeE G w0 T2 w') (λ(k,vT2,T2)=>qs.length-k) (0,vT,T) ⟨J,H,O,z,hd,hV,hX,hL,Ab _,hK.tl,hm,hK.t,⟨hK.gt⟩,⟨hK.e⟩⟩ ?_;rintro _ ⟨k,vT2,T2⟩ w23 ⟨J,H,O,z,hd,hV,hX,hL,hk3,htl3,hw,Y,hgt,hz⟩;refine FM 95 1 H.sl ?_;refine Fk (λc8=>?_) λc8=>?_
 ·obtain⟨q,hkq⟩:∃q,qs[k]?=some q:=F7;obtain⟨f,hkf⟩:∃f,add[k]?=some f:=F7;have hj:=Ag hkq;have hp:=hd.arr (enc:=Fi.cs) Fg;refine go ?_;refine HP (R:=Mod (λk=>vT2.ownBlock=some k)) Ij I0 Ff [4,9,13] [(0,.p,false),(1,.p,false),(2,.p,false),(3,.p,false),(4,.l,false),(5,.p,false),(6,.p,false),(7,.p,false),(8,.p,false),(9,.l,false),(10,.p,false),(11,.p,false),(12,.p,false),(13,.l,false),(14,.p,false),(15,.x,false),(16,.x,false),(17,.p,false),(18,.p,false),(19,.x,true)] rfl Ff Ff (λw24 xl=>?_);have yb:=FE xl;clear xl;refine Jj yb H O z hd hV hX hL hw λH O z hd hV hX hL hw=>Ga yb Y hgt hz hp J λY hgt hz hp J=>go ?_;refine df 4 (rfl) (dL rfl (λ_ hR=>((hw.mod hR (λh=>Y.ne_blk hw rfl h)).at rfl)) (FN 62 5 hp.sl (hp.lt hkf) ?_));refine go ?_;refine dL rfl (λ_ hR=>(((hp.mod hR (λhl e=>hd.ne Y rfl (hd.base_block hl) e)).row hkf).at rfl)) (FN 95 1 H.sl (H.lt hkq) ?_);refine dL rfl (λ_ hR=>(((H.mod hR (λhl e=>O.ne Y rfl (O.base_block hl) e)).row hkq).at0 rfl)) ?_;refine dp (Mh (zs:=[.int .i64 0,.slice none 0 0]) (pl:=[(0,1),(1,1)]) (pv:=[(0,?a88_0),(1,?a88_1)]) (cs:=[?a88_0,?a88_1]) Ff Ff ?h88 ?f88) ?k88
  case h88=>refine⟨rfl,?_,rfl,?_,trivial⟩<;>(conv=>lhs;whnf)
  case f88=>simp [Hs,Gw,Ap,(z.row q hj).sl.cells,show(Value.int IntKind.i64 f.id).cells=⟨[I f.id]⟩ from rfl]
  refine lA 218 rfl (λb4 w25 e4 yv m4=>?_) (hR:=RX.mod);have g4:=J.ge e4;have a4_hQa:=Fu.base_lt H Fo;have o4_hQ:=O.ltb e4;have q4_hRc:=z.lt;have o4_hd:=hd.ltb e4;have o4_hV:=hV.ltb e4;have a4_hm3:=hw.lt;have o4_hT3:=Y.ltb e4;have a4_hda:=Fu.base_lt hp Fo;refine Jj yv H O z hd hV hX hL hw λH O z hd hV hX hL hw=>Ga yv Y hgt hz hp J λY hgt hz hp J=>?_;refine LU (lx:=[⟨f.id,q.1,q.2⟩]) (e:=218) (sz:=2) (by':=32) rfl Ff Ff Fg Y (m4.arr (enc:=Tr.cs) (sz:=2) (l:=[⟨f.id,q.1,q.2⟩]) rfl Fg rfl (An rfl)) rfl rfl (by intro x xp u hu;rw[Af.1 xp]at hu;simp at hu;rcases hu with rfl|rfl;rfl;exact(z.row q hj).sl.one) Gx Fo (Ab _) (.inr λ_ h9=>h9) (λyh w26 xo h5 xt=>?_);have yp:=xt;have xe:=J.size;have H:=H.mod h5 (by exact(λhl e=>O.ne Y rfl (O.base_block hl) e));have O:=O.mod h5 (by exact(λk hk=>O.ne Y rfl hk));have z:=z.mod h5 (by exact z.ne Y rfl);have hd:=hd.mod h5 (by exact(λk hk=>hd.ne Y rfl hk));have hV:=hV.mod h5 (by exact(λk hk=>hV.ne Y rfl hk));have hX:=hX.mod h5 (by exact(λk hk e=>H4 Y Fo e hk));have hL:=hL.mod h5 (by exact(λk hk e=>H4 Y Fo e hk));have hw:=hw.mod h5 (by exact(λe=>Y.ne_blk hw rfl e));have hgt:=hgt.mod h5 (by trivial);have hz:=hz.mod h5 (by exact(λt ht k hk=>(hz.e t ht).1.ne Y rfl hk));have J:=J.own h5 (λi hi xb=>(GT.back J (us:=[218]) ⟨(hgt.g i hi).imp (λh=>h) (λe=>⟨e.1,Ay xb J.size⟩),KU Y Fo hi⟩ xb Fo));have Y:=xo;have yr:GvE G w0 yh _:=⟨λk hk=>yp.elim (λe=>GZ (by have:=J.size;omega) _ (hgt.g k (by rw[<-e];exact hk))) (λe=>.inr ⟨by rw[hk]at e;cases e;exact Ae h.x.1 xe,(Y.lt k hk).2⟩)⟩;have xd:=hw;clear m4;refine go ?_;refine df 4 (rfl) (HL hw (λw27 h6 xs27 hw=>?_) (hv:=by exact Y.sl.one));have H:=H.mod h6 (λhl e=>by have h2:(base vq).1=bs:=e;have h1:=O.lt _ (O.base_block hl);omega);have O:=O.mod h6 (by intro k hk h;have h1:=(O.lt k hk).1;have h2:k=bs:=h;omega);have z:=z.mod h6 (λq hq k hk e=>by have h2:k=bs:=e;have h1:=((z.row q hq).lt k hk);omega);have hd:=hd.mod h6 (by intro k hk h;have h1:=(hd.lt k hk).1;have h2:k=bs:=h;omega);have hV:=hV.mod h6 (by intro k hk h;have h1:=(hV.lt k hk).1;have h2:k=bs:=h;omega);have hX:=hX.mod h6 (λk hk=>by exact G0.blk xd Fo k hk);have hL:=hL.mod h6 (λk hk=>by exact G0.blk xd Fo k hk);have Y:=Y.mod h6 (λk hk e=>Y.ne_blk xd rfl (hk.trans (congrArg some e)));have hgt:=hgt.mod h6 trivial;have hz:=hz.mod h6 (λt ht k hk e=>(hz.e t ht).1.ne_blk xd rfl (hk.trans (congrArg some e)));have J:=J.own h6 (λi hi _=>(h.inB hi));refine go ?_;exact FL (k+1,yh,T2++[⟨f.id,q.1,q.2⟩]) ⟨J,H,O,z,hd,hV,hX,hL,by omega,by simp;omega,hw,Y,⟨λk hk=>(yr.g k hk).imp (λh=>h) (λe=>⟨e.1,(Y.lt k hk).2⟩)⟩,⟨PK hz.e ⟨(z.row q hj).mono (Ab _),hqb q hj,λc hc=>hlc c ((yg q hj).2.2 c hc),λk hk=>.inr ⟨Ae h.x.1 ((z.row q hj).lt k hk).1,((z.row q hj).lt k hk).2⟩⟩⟩⟩
 refine go ?_;exact⟨_,rfl,J,0,dead,nx,vx,vT2,xs,T2,rfl,⟨hw,GZ J.size _ h.g,hL,hX,⟨hV.mono (Ab _),λk hk=>.inr ⟨Ae h.x.1 (hV.lt k hk).1,(hV.lt k hk).2⟩,xw,Y,hgt.g,by omega,hz.e⟩⟩,y2⟩
section
variable {G:Nat->Prop}{w0 w w':World}{n:Int}{vf vT:Value}{fs:List Fi}{T:List Tr}{b bs bx bl bm a:Nat}{dead:Bool}
def RE.ext (h:RE G w0 bs bx bl bm n vf vT dead fs T a b w)(x:Fq w w'):RE G w0 bs bx bl bm n vf vT dead fs T a b w':=⟨h.m.ext x,GZ x.size _ h.g,h.l.ext x,h.x.ext x,h.k.ext x⟩
instance : Up w w' (RE G w0 bs bx bl bm n vf vT dead fs T a b w) (RE G w0 bs bx bl bm n vf vT dead fs T a b w'):=⟨λx h=>h.ext x⟩
def G0.sub {ts us:List Nat}{k:Nat}(h:G0 w ts k)(hu:ts.all us.elem=true):G0 w us k:=by
 obtain⟨cs,r,h1,h2⟩:=h;exact⟨cs,r,h1,AQ.1 hu r (D9.1 h2)⟩
def RE.mod {S:Nat->Prop}(h:RE G w0 bs bx bl bm n vf vT dead fs T a b w)(m:Vc.Mod S w w')(hS:∀k,G0 w [138,226,135,82,215,69,218,5,62,79] k->¬ S k):RE G w0 bs bx bl bm n vf vT dead fs T a b w':=
 ⟨h.m.mod m (hS bs ⟨_,_,h.m,by decide⟩),GZ m.size _ h.g,h.l.mod m (λk hk=>hS k (hk.sub Fo)),h.x.mod m (λk hk=>hS k (hk.sub Fo)),h.k.mod m (λk hk=>hS k (hk.sub Fo))⟩
def RE.up {q p:Nat}(h:RE G w0 bs bx bl bm n vf vT dead fs T a b w)(hq:a<=q)(hp:b<=p):RE G w0 bs bx bl bm n vf vT dead fs T q p w:=⟨h.m,h.g,h.l,h.x.more hq,h.k.up9 hp⟩
def RE.fid (h:RE G w0 bs bx bl bm n vf vT dead fs T a b w){f:Fi}(hf:f∈fs):0<=f.id/\f.id<=1099511627776/\0<=f.lev/\f.lev<=4/\0<=f.size/\f.size<=1048576/\f.fst.length<=4096/\f.lst.length<=4096:=by
 obtain⟨r,hi⟩:=AK hf;exact PI (h.k.i.2 r f hi).1 h.k.i.1.2.1
def efail {e:Int}(h:RE G w0 bs bx bl bm n vf vT dead fs T a b w):Calls Tryz.prog 146 [Fh bs 0,I e].toArray w (Hp (Fv bs) w (λu w'=>u=I e/\RE G w0 bs bx bl bm n vf vT true fs T a b w')):=
 Calls.mono (SK bs bx bl bm n vf vT dead e w h.m) λe w' ⟨u,e1,m,e9,hu⟩=>⟨u,e1,m,e9,hu,GZ m.size _ h.g,h.l.mod m (λk hk=>G0.blk h.m Fo k hk),h.x.mod m (λk hk=>G0.blk h.m Fo k hk),h.k.mod m (λk hk=>G0.blk h.m Fo k hk)⟩
def eclose {i:Int}(h:RE G w0 bs bx bl bm n vf vT dead fs T a b w)(hb:b<=100000000):Calls Tryz.prog 144 [Fh bs 0,I i].toArray w (Hp (Fv bs) w (λu w'=>u=.tuple #[]/\∃vT' T',RE G w0 bs bx bl bm n vf vT' dead fs T' a b w')):=by
 refine Calls.mono (X3h bs bx bl bm n vf vT dead T i w h.m (h.k.t.arr Fg) (λt r=>(h.k.e t r).1.sl.one) (by have:=h.k.tl;omega) (λz e=>h.k.t.ne_blk h.m rfl ((h.k.t.base_block z).trans (congrArg some e)))) λe w' ⟨u,e1,m,e9,vT',T',hm,ho,z,hs⟩=>⟨u,e1,m,e9,vT',T',hm,GZ m.size _ h.g,h.l.mod m (λk hk=>G0.blk h.m Fo k hk),h.x.mod m (λk hk=>G0.blk h.m Fo k hk),?_⟩;have hk:=h.k.mod m (λk hk=>G0.blk h.m Fo k hk);exact⟨hk.v,hk.gv,hk.i,ho.mono (Ab _),λk hk=>.inr ⟨Ae h.x.1 (ho.lt k hk).1,(ho.lt k hk).2⟩,by have:=hk.tl;omega,λt r=>hk.e t (hs t r)⟩
def eremove {s:Fj}(h:RE G w0 bs bx bl bm n vf vT dead fs T a b w):Calls Tryz.prog 145 [Fh bx 0,S s].toArray w (Hp (GT (FV G w0 w) [138,226] w) w (λu w'=>∃e:Int,u=I e/\RE G w0 bs bx bl bm n vf vT dead fs T a b w')):=
 Calls.mono (lremove h.l) λe w' ⟨u,e1,m,e9,hu,hL⟩=>⟨u,e1,m,e9,hu,h.m.mod m (λe=>Fp.noTy h.m Fo e.2),GZ m.size _ h.g,hL,h.x.mod m (λk hk e=>G0.ne hk Fo e.2),h.k.mod m (λk hk e=>G0.ne hk Fo e.2)⟩
end
def Xly (G:Nat->Prop)(w0:World)(bs bx bl bm:Nat)(n:Int)(vf vT:Value)(dead:Bool)(fs:List Fi)(T:List Tr)(a b:Nat)(w:World)(h:RE G w0 bs bx bl bm n vf vT dead fs T a b w)(ha:a<=90000000)(hb:b<=20000000) :
  G4 72 [Fh bs 0] w (GT (FV G w0 w) [138,226,135,82,215,69,218] w) λu w'=>∃(ok:Bool) (e:Int) (bm2:Nat) (d2:Bool) (n2:Int) (vf2 vT2:Value) (fs2:List Fi) (T2:List Tr),u=.tuple #[B ok,I e]/\RE G w0 bs bx bl bm2 n2 vf2 vT2 d2 fs2 T2 a (b+1024) w'/\(Li fs->Li fs2):=by
 refine cE Tryz.func72 λr=>?_;obtain⟨hh,hgx,vM,M,hbm,H,hMg,hMl,hl⟩:=h.x;have hbs:=h.m.lt;refine go ?_;refine df 6 (rfl) (dl rfl (h.m.at rfl) ?_);refine Gb (λc1=>?_) λc1=>?_
 ·refine go ?_;exact⟨_,rfl,r.mono (λ_ h _=>h.elim),false,9,bm,dead,n,vf,vT,fs,T,rfl,(h.ext r).up (Aa _) Fe,id⟩
 refine go ?_;refine df 5 (rfl) (dl rfl (h.m.at rfl) (go ?_));refine dv 79 4 ((H.ext r).arr Fg).sl ?_;refine Fk (λc2=>?_) λc2=>?_
 ·refine go ?_;exact⟨_,rfl,r.mono (λ_ h _=>h.elim),false,0,bm,dead,n,vf,vT,fs,T,rfl,(h.ext r).up (Aa _) Fe,id⟩
 refine go ?_;refine df 5 (rfl) (dl rfl (h.m.at rfl) (Gj (Tw M vM _ ((H.ext r).arr Fg) Fe) λht w1 x1 hp=>?_));have hsz1:=r.size;have r:=r.trans x1;obtain⟨l2,hf,hll,hq,hln⟩:=hp;have hj:=hf.mono (Ab _);refine cD (X3 G w0 bs bx bl bm n vf vT dead fs T a b l2 ht 0 [] (.slice none 0 0) _ (h.ext r) hj Fe (λc hc=>hl c (hq c hc)) ((Vc.Own.nil (T:=0) (B:=0)).arr Fg) (Ab _) hb) (.inl rfl) λu2 w2 x2 hg=>?_;have hsz2:=r.size;have r:=(r.mod x2).mono (λi hi hr=>((GT.back (r.mono (λ_ h _=>h.elim)) hi hr Fo):(GT (FV G w0 w) [138,226,135,82,215,69,218] w) i));obtain⟨e6,d2,n2,vf2,vT2,fs2,T2,rfl,J,Y⟩:=hg;have hm:=J.m;have z:=J.m;have O:=J.l;have hK:=J.k;refine Fk (λc3=>?_) λc3=>?_
 ·refine go ?_;exact⟨_,rfl,r,false,e6,bm,d2,n2,vf2,vT2,fs2,T2,rfl,J.up (Aa _) Fe,Y rfl⟩
 refine go ?_;refine db (zs:=[.slice none 0 0]) (pl:=[(0,1)]) (pv:=[]) (cs:=[.slice none 0 0]) ?_;refine G1 rfl rfl rfl RX.all (λb1 w3 e1 x3 m1=>?_);have g1:=r.ge e1;refine Ga x3 hm z O hK r λhm z O hK r=>go ?_;refine df 5 (rfl) (HL hm (λw4 x4 xs4 hm=>?_) (hv:=by rfl));have O:=O.mod x4 (λk hk=>G0.blk z Fo k hk);have hK:=hK.mod x4 (λk hk=>G0.blk z Fo k hk);have m1:=m1.mo x4;have r:=r.own x4 (λi hi _=>(h.inB hi));refine go ?_;exact⟨_,rfl,r,true,0,b1,d2,n2,vf2,vT2,fs2,T2,rfl,⟨hm,GZ r.size _ h.g,O,⟨Ae hh r.size,.inr ⟨by omega,m1.lt⟩,.slice none 0 0,[],m1,Vc.Own.nil,λk hk=>(by cases hk),Ab _,λc hc=>(by cases hc)⟩,hK.up9 Fe⟩,Y rfl⟩
def Xpd (G:Nat->Prop)(w0:World)(bs bx bl bm:Nat)(n:Int)(vf vT:Value)(dead:Bool)(fs:List Fi)(T:List Tr)(a b:Nat)(w:World)(h:RE G w0 bs bx bl bm n vf vT dead fs T a b w)(ha:a<=40000000)(hb:b<=10000000) :
  G4 73 [Fh bs 0] w (GT (FV G w0 w) [138,226,135,82,215,69,218] w) λu w'=>∃(ok:Bool) (e:Int) (bm2:Nat) (d2:Bool) (n2:Int) (vf2 vT2:Value) (fs2:List Fi) (T2:List Tr),u=.tuple #[B ok,I e]/\RE G w0 bs bx bl bm2 n2 vf2 vT2 d2 fs2 T2 a (b+2048) w':=by
 refine cE Tryz.func73 λz=>?_;have hi9:=h.k.i.1;refine go ?_;refine df 6 (rfl) (dl rfl (h.m.at rfl) ?_);refine Gb (λc1=>?_) λc1=>?_
 ·refine go ?_;exact⟨_,rfl,z.mono (λ_ h _=>h.elim),false,9,bm,dead,n,vf,vT,fs,T,rfl,(h.ext z).up (Aa _) Fe⟩
 refine go ?_;refine dq (Fx Ff rfl rfl (h.m.part 2 2)) (cG (Xzj n fs vf _ ((h.k.v.ext z).arr Fg) Fe (λf hf=>by have:=h.fid hf;omega)) RX.all λu1 w1 x1 x0=>?_);have xd:=z.size;have z:=z.trans x1;obtain⟨vq,q,bq,rfl,xr,hql,hqm,xo,hqn⟩:=x0;have hq:=xr.mono xd;refine Gb (λc2=>?_) λc2=>?_
 ·refine go ?_;exact⟨_,rfl,z.mono (λ_ h _=>h.elim),false,0,bm,dead,n,vf,vT,fs,T,rfl,(h.ext z).up (Aa _) Fe⟩
 have xt:bq=true:=by simpa using c2
 have yc:=(xo.1 xt).2;refine Gz (Xly G w0 bs bx bl bm n vf vT dead fs T a b _ (h.ext z) Fe Fe) λu2 w2 x2 xv=>?_;have hsz2:=z.size;have z:=(z.mod x2).mono (λi hi hh=>((GT.back (z.mono (λ_ h _=>h.elim)) hi hh Fo):(GT (FV G w0 w) [138,226,135,82,215,69,218] w) i));obtain⟨ok6,e6,bm2,d2,n2,vf2,vT2,fs2,T2,rfl,O,xx⟩:=xv;have J:=O.m;have hi8:=O.k.i.1;have hT8:=O.k.tl;refine Fk (λc3=>?_) λc3=>?_
 ·refine go ?_;exact⟨_,rfl,z,false,e6,bm2,d2,n2,vf2,vT2,fs2,T2,rfl,O.up (Aa _) Fe⟩
 refine go ?_;refine dq (Fx Ff rfl rfl (J.part 2 2)) (cG (Xzj n2 fs2 vf2 _ (O.k.v.arr Fg) Fe (λf hf=>by have:=O.fid hf;omega)) RX.all λu3 w3 x3 xm=>?_);have xb:=z.size;refine FC x3 O J z λO J z=>?_;obtain⟨vp,p,bp,rfl,xn,hpl,xc,xk,xi⟩:=xm;have Y:=xn.mono xb;have xh:=xi (xk.2 ⟨O.k.i,xx yc⟩);refine F8 (G:=Nat×Value×List Int) (λ(k,vg,ids)=>[(0,Fh bs 0),(2,.bool false),(3,I 0),(4,vp),(7,I e6),(8,vg),(9,I ↑k)]) (λ(k,vg,ids) w'=>Mod (GT (FV G w0 w) [138,226,135,82,215,69,218] w) w w'/\RE G w0 bs bx bl bm2 n2 vf2 vT2 d2 fs2 T2 a (b+1024) w'/\Fp w' bs [Fh bx 0,Fh bl 0,I n2,vf2,vT2,Fh bm2 0,B d2] 69/\Vc.Own Fi.cs 5 62 w.heap.size w' vp p/\k<=p.length/\ids.length=k/\(∀i∈ids,0<=i/\i<=1099511627776)/\Vc.Own Vc.encI 1 3 w.heap.size w' vg ids) (λ(k,vg,ids)=>p.length-k) (0,.slice none 0 0,[]) ⟨z,O,J,Y,Ab _,rfl,λi hi=>(by cases hi),Vc.Own.nil⟩ ?_;rintro _ ⟨k,vg,ids⟩ w4 ⟨z,O,J,Y,hk1,hil,hids,r⟩;refine go ?_;refine dv 62 5 (Y.arr Fg).sl ?_;refine Fk (λc4=>?_) λc4=>?_
 ·obtain⟨f,hk⟩:∃f,p[k]?=some f:=F7;refine go ?_;refine di 62 5 (Y.arr Fg).sl rfl ((Y.arr Fg).lt hk) (go ?_);refine dl rfl (((Y.arr Fg).row hk).at rfl) (li (e:=3) (sz:=1) (zs:=[.int .i64 0]) (pv:=[(0,_)]) (cs:=[_]) RX.all (λb1 w5 e1 x5 m1=>?_));have g1:=z.ge e1;have a1_hm5:=J.lt;have o1_hp:=Y.ltb e1;have o1_hgo:=r.ltb e1;refine Ga x5 O J Y r z λO J Y r z=>G8 f.id r m1 λxy w6 h5 x6=>?_;have O:=O.mod x6 (by exact(λk hk e=>G0.ne hk Fo (KU r (ts:=[3]) Fo e)));have J:=J.mod x6 Fw;have Y:=Y.mod x6 (by exact(λk hk=>Y.ne r rfl hk));have z:=z.own x6 F5;have r:=h5;clear m1;refine go ?_;exact FL (k+1,xy,ids++[f.id]) ⟨z,O,J,Y,by omega,by simp;omega,PK hids (by have:=O.fid (xc f (Ag hk));exact⟨this.1,this.2.1⟩),r⟩
 obtain⟨f0,hk0⟩:∃f,p[0]?=some f:=⟨_,Aq (CM.2 xh)⟩;have hf0:=O.fid (xc f0 (Ag hk0));have hj:=Y.arr (enc:=Fi.cs) Fg;refine go ?_;refine HP (R:=Mod (λk=>vp.ownBlock≠some k)) Ij I0 Ff [6,12] [(0,.p,false),(1,.p,false),(2,.p,false),(3,.p,false),(4,.p,false),(5,.p,false),(6,.l,false),(7,.p,false),(9,.p,false),(10,.p,false),(11,.p,false),(12,.l,false),(13,.p,false),(14,.p,false),(8,.x,false),(15,.x,false),(16,.p,false)] rfl Ff Ff (λw7 h7=>?_);have x7:=FE h7;clear h7;refine HB x7 O J Y r hj z λO J Y r hj z=>FN 62 5 hj.sl (hj.lt hk0) ?_;refine go ?_;refine dL rfl (λ_ hR=>(((hj.mod hR (λhl h=>h (Y.base_block hl))).row hk0).at rfl)) (FN 62 5 hj.sl (hj.lt hk0) ?_);refine go ?_;refine dL rfl (λ_ hR=>(((hj.mod hR (λhl h=>h (Y.base_block hl))).row hk0).at rfl)) (go ?_);refine cG (Xz0 bs bx bl bm2 n2 vf2 vT2 d2 fs2 T2 p vp (f0.lev+1) _ J (O.k.v.arr Fg) Fe (O.k.t.arr Fg) (λt ht=>(O.k.e t ht).1.arr Fg) Fe (Y.arr Fg) Fe Fe (λt ht=>(O.k.e t ht).2.1)) RX.mod λvl w8 x8 ya=>?_;have hsz8:=z.size;refine FQ x8 O Y r z λO Y r z=>?_;obtain⟨lc,xw,hll,xp⟩:=ya;have xu:∀c∈lc,Gl c=true:=λc hc=>by obtain⟨t,ht,h9⟩:=xp c hc;exact(O.k.e t ht).2.2.1 c h9
 have x4:=xw.mono (Ab _);refine Jz rfl Ff (X3 G w0 bs bx bl bm2 n2 vf2 vT2 d2 fs2 T2 a (b+1024) lc vl (f0.lev+1) ids vg _ O x4 Fe xu (r.arr Fg) Fe Fe) rfl (.inr λw9 h9=>h9.mono (λk hk _ e=>H4 Y Fo e hk.2)) (λu9 w9 x9 xj=>?_);have hsz9:=z.size;have r:=r.mod x9 (λk hk e=>H4 r Fo hk e.2);have z:=z.own x9 (λi hi hh=>(GT.back z hi hh Fo));obtain⟨e7,d3,n3,hr,hg,hw,T3,rfl,xq,_⟩:=xj;have H:=xq.up (Aa _) (by omega:b+1024+1024<=b+2048);refine Fk (λc5=>?_) λc5=>?_
 ·refine go ?_;exact⟨_,rfl,z,false,e7,bm2,d3,n3,hr,hg,hw,T3,rfl,H⟩
 refine F8 (G:=Nat×Value×List Tr) (λ(k,hg,T3)=>[(0,Fh bs 0),(2,.bool false),(3,I 0),(7,I e7),(8,vg),(10,I ↑k)]) (λ(k,hg,T3) w'=>Mod (GT (FV G w0 w) [138,226,135,82,215,69,218] w) w w'/\Vc.Own Vc.encI 1 3 w.heap.size w' vg ids/\k<=ids.length/\RE G w0 bs bx bl bm2 n3 hr hg d3 hw T3 a (b+2048) w') (λ(k,hg,T3)=>ids.length-k) (0,hg,T3) ⟨z,r,Ab _,H⟩ ?_;rintro _ ⟨k,hg,T3⟩ w10 ⟨z,r,hk1,H⟩;refine go ?_;refine dv 3 1 (r.arr Fg).sl ?_;refine Fk (λc6=>?_) λc6=>?_
 ·obtain⟨i7,hki⟩:∃i,ids[k]?=some i:=F7;refine go ?_;refine di 3 1 (r.arr Fg).sl rfl ((r.arr Fg).lt hki) (dl rfl (((r.arr Fg).row hki).at0 rfl) (cD (eclose H Fe) (.inl rfl) λu11 w11 h8 xf=>?_));have hsz11:=z.size;have r:=r.mod h8 (λk hk e=>r.ne_blk H.m rfl (hk.trans (congrArg some e)));have z:=z.own h8 (λi hi hh=>(GT.back z (H.inB hi) hh Fo));obtain⟨rfl,yb,T4,H⟩:=xf;refine go ?_;exact FL (k+1,yb,T4) ⟨z,r,by omega,H⟩
 refine F8 (G:=Nat) (λk=>[(0,Fh bs 0),(8,vg),(11,I ↑k)]) (λk w'=>Mod (GT (FV G w0 w) [138,226,135,82,215,69,218] w) w w'/\Vc.Own Vc.encI 1 3 w.heap.size w' vg ids/\RE G w0 bs bx bl bm2 n3 hr hg d3 hw T3 a (b+2048) w'/\k<=ids.length) (λk=>ids.length-k) 0 ⟨z,r,H,Ab _⟩ ?_;rintro _ k w12 ⟨z,r,H,hk1⟩;refine go ?_;refine dv 3 1 (r.arr Fg).sl ?_;refine Fk (λc7=>?_) λc7=>?_
 ·obtain⟨i7,hki⟩:∃i,ids[k]?=some i:=F7;have hi7:=hids i7 (Ag hki);have hy:=r.arr (enc:=Vc.encI) Fg;refine go ?_;refine HP (R:=Mod (λk=>k≠bs/\vg.ownBlock≠some k)) Ij I0 Ff [3,7] [(0,.p,false),(1,.p,false),(2,.p,false),(3,.l,false),(4,.p,false),(5,.p,false),(6,.p,false),(7,.l,false),(8,.x,false),(9,.x,false),(10,.p,false)] rfl Ff Ff (λw13 hz=>?_);have xz:=FE hz;clear hz;refine FQ xz r H hy z λr H hy z=>go ?_;refine dL rfl (λ_ hR=>((H.m.mod hR (λh=>h.1 rfl)).at rfl)) (FN 3 1 hy.sl (hy.lt hki) ?_);refine dL rfl (λ_ hR=>(((hy.mod hR (λhl h=>h.2 (r.base_block hl))).row hki).at0 rfl)) (cP (Xz6 i7 _ Fe Fe) RX.mod λw14 xl=>FC xl r H z λr H z=>Jz rfl Ff (eremove H) rfl (.inr λw9 h9=>h9.mono (λk hk _=>⟨λe=>G0.blk H.m Fo k hk.2 e,λe=>H4 r Fo e hk.2⟩)) (λu15 w15 xa xe=>?_));have hsz15:=z.size;have r:=r.mod xa (λk hk e=>H4 r Fo hk e.2);have z:=z.own xa (λi hi hh=>(GT.back z hi hh Fo));obtain⟨e8,rfl,H⟩:=xe;refine Fk (λc8=>?_) λc8=>?_
  ·refine Gz (efail H) λu16 w16 xg h6=>?_;have hsz16:=z.size;have r:=r.mod xg (λk hk e=>r.ne_blk H.m rfl (hk.trans (congrArg some e)));have z:=z.own xg (λi hi hh=>(GT.back z (H.inB hi) hh Fo));obtain⟨rfl,H⟩:=h6;refine go ?_;exact⟨_,rfl,z,false,e8,bm2,true,n3,hr,hg,hw,T3,rfl,H⟩
  refine go ?_;exact FL (k+1) ⟨z,r,H,by omega⟩
 refine go ?_;exact⟨_,rfl,z,true,0,bm2,d3,n3,hr,hg,hw,T3,rfl,H⟩
end Go.Proofs.YtiooodckiddpmaaGreatDoor

namespace Go.Proofs.YtiooodckiddpmaaGreatDoor
open Go.Vc Go.Sp
attribute [local irreducible] W XW Dw GC
section
variable {G:Nat->Prop}{w0 w w':World}{n:Int}{vf vT:Value}{fs:List Fi}{T:List Tr}{b bs bx bl bm a:Nat}{dead:Bool}{S:Nat->Prop}
def I3 (k:Nat)(h:FV G w w k):G k:=h.elim (λh=>h) (λe=>absurd e.2 (AR.2 e.1))
def DX.base (h:DX G w bx w)(m:Vc.Mod S w w')(hS:∀k,G k->¬ S k):DX G w' bx w':=by
 obtain⟨h1,_,room,vL,L,left,r⟩:=h;exact⟨λk hk=>Ay (h1 k hk) m.size,Aa _,room,vL,L,left,((r.wide I3).mod m hS).wide (λk hk=>.inl hk)⟩
def LX.base (h:LX G w bl bx w)(m:Vc.Mod S w w')(hS:∀k,G k->¬ S k):LX G w' bl bx w':=by
 obtain⟨idx,vD,vL,dead,LL,h⟩:=h;exact⟨idx,vD,vL,dead,LL,h.d.base m hS,h.m.mod m (hS bl (I3 _ h.gb)),h.o.mod m (λk hk=>hS k (I3 k (h.gv k hk))),.inl (I3 _ h.gb),λk hk=>.inl (I3 k (h.gv k hk)),h.bd⟩
def G9.base (h:G9 G w bm a w)(m:Vc.Mod S w w')(hS:∀k,G k->¬ S k):G9 G w' bm a w':=by
 obtain⟨_,r,vM,M,h1,h2,h3,h4⟩:=h;exact⟨Aa _,.inl (I3 _ r),vM,M,h1.mod m (hS bm (I3 _ r)),h2.mod m (λk hk=>hS k (I3 k (h3 k hk))),λk hk=>.inl (I3 k (h3 k hk)),h4⟩
def RK.base (h:RK G w n vf vT fs T b w)(m:Vc.Mod S w w')(hS:∀k,G k->¬ S k):RK G w' n vf vT fs T b w':=
 ⟨h.v.mod m (λk hk=>hS k (I3 k (h.gv k hk))),λk hk=>.inl (I3 k (h.gv k hk)),h.i,h.t.mod m (λk hk=>hS k (I3 k (h.gt k hk))),λk hk=>.inl (I3 k (h.gt k hk)),h.tl,λt r=>⟨(h.e t r).1.mod m (λk hk=>hS k (I3 k ((h.e t r).2.2.2 k hk))),(h.e t r).2.1,(h.e t r).2.2.1,λk hk=>.inl (I3 k ((h.e t r).2.2.2 k hk))⟩⟩
def RE.base (h:RE G w bs bx bl bm n vf vT dead fs T a b w)(m:Vc.Mod S w w')(hS:∀k,G k->¬ S k):RE G w' bs bx bl bm n vf vT dead fs T a b w':=
 ⟨h.m.mod m (hS bs (I3 _ h.g)),.inl (I3 _ h.g),h.l.base m hS,h.x.base m hS,h.k.base m hS⟩
def RE.dx (h:RE G w0 bs bx bl bm n vf vT dead fs T a b w):DX G w0 bx w:=by
 obtain⟨idx,vD,vL,dead,LL,h⟩:=h.l;exact h.d
def RE.roll (h:RE G w0 bs bx bl bm n vf vT dead fs T a b w):RE (FV G w0 w) w bs bx bl bm n vf vT dead fs T a b w:=by
 have Y:=h.dx.lt;obtain⟨hm,hg,⟨idx,vD,vL,dL,LL,r⟩,⟨_,J,vM,M,x1,x2,x3,x4⟩,hk⟩:=h;obtain⟨_,_,room,O,L,left,hD⟩:=r.d;exact⟨hm,.inl hg,⟨idx,vD,vL,dL,LL,⟨Y,Aa _,room,O,L,left,hD.wide (λk hk=>.inl hk)⟩,r.m,r.o,.inl r.gb,λk hk=>.inl (r.gv k hk),r.bd⟩,⟨Aa _,.inl J,vM,M,x1,x2,λk hk=>.inl (x3 k hk),x4⟩,⟨hk.v,λk z=>.inl (hk.gv k z),hk.i,hk.t,λk z=>.inl (hk.gt k z),hk.tl,λt H=>⟨(hk.e t H).1,(hk.e t H).2.1,(hk.e t H).2.2.1,λk z=>.inl ((hk.e t H).2.2.2 k z)⟩⟩⟩
end
def F9 (g:Cell->Nat)(l:List Cell):Nat:=(l.map g).sum
def Kk (g:Cell->Nat)(l m:List Cell):F9 g (l++m)=F9 g l+F9 g m:=by unfold F9;rw[A3,Bt]
variable {g:Cell->Nat}{l m:List Cell}
def Xz7 (h:l.Perm m):F9 g l=F9 g m:=(h.map g).sum_nat
def TP (h:l.Sublist m):F9 g l<=F9 g m:=by
 induction h with
 | slnil=>exact Aa _
 | cons a h ih=>unfold F9 at *;simp only [Ak,A4];omega
 | cons_cons a h ih=>unfold F9 at *;simp only [Ak,A4];omega
def SX : ∀(r:List Cell) (p:Cell),(JZ KL p r).Sublist r
 | [],_=>Ei
 | x :: r,p=>by
  unfold JZ;split
  ·exact(SX r x).cons x
  ·exact(SX r x).cons_cons x
def OZ (h:Mg l m):F9 g m<=F9 g l:=by
 obtain⟨l',z,_,rfl⟩:=h;rw[<-Xz7 z];refine TP ?_
 cases l' with
 | nil=>exact Ei
 | cons a r=>exact(SX r a).cons_cons a
def QZ (ts:List Tb):F9 g (ts.flatMap (·.cs))=(ts.map λt=>F9 g t.cs).sum:=by
 induction ts with
 | nil=>rfl
 | cons t r ih=>rw[AA,Kk,ih];rfl
def PW {α:Type}(g:α->Nat):∀l1 l2:List α,l1.Nodup->(∀x∈l1,x∈l2)->(l1.map g).sum<=(l2.map g).sum
 | [],l2,_,_=>Ab _
 | a :: r,l2,hn,hs=>by
  obtain⟨X,Y,rfl⟩:=List.append_of_mem (hs a Ai);rw[Ba]at hn;have ih:=PW g r (X++Y) hn.2 (λx z=>by
   rcases Al.1 (hs x (Aj _ z))with h|h
   ·exact Bl _ h
   ·rcases Ah.1 h with rfl|h
    ·exact absurd z hn.1
    ·exact Bb _ h)
  simp only [Ak,A3,A4,Bt]at *;omega
def TB {α:Type}(g:α->Nat)(p:α->Bool):∀l:List α,((l.filter p).map g).sum+((l.filter λx=>!p x).map g).sum=(l.map g).sum
 | []=>rfl
 | a :: r=>by
  have ih:=TB g p r;simp only [BJ,Ak,A4]
  cases p a<;>simp<;>omega
def OU (ts:List Tb)(p:List Fi):List Tb:=p.filterMap λf=>HO ts (f.lev,f.id)
def Um (ts:List Tb):∀p:List Fi,Js ts p=(OU ts p).flatMap (·.cs)
 | []=>rfl
 | f :: r=>by
  have z:=Um ts r;unfold Js OU at *;rw[AA,ET,z]
  cases HO ts (f.lev,f.id)<;>rfl
def Xpe (ts:List Tb):∀p:List Fi,((OU ts p).map λt=>t.h.2).Sublist (p.map (·.id))
 | []=>Ei
 | f :: r=>by
  have z:=Xpe ts r;unfold OU at *;rw[ET,Ak]
  cases e:HO ts (f.lev,f.id)with
  | none=>exact z.cons _
  | some t=>
   have h2:t.h=(f.lev,f.id):=by unfold HO at e;simpa using Da e
   simp only [Ak];rw[h2];exact z.cons_cons _
def YF {α β:Type}{f:α->β} : ∀ {l:List α},(l.map f).Nodup->l.Nodup
 | [],_=>BR
 | a :: r,h=>by
  rw[Ak,Ba]at h;exact Ba.2 ⟨λz=>h.1 (BC z),YF h.2⟩
section
variable {n lv:Int}{V V':Vs}{ts ts':List Tb}{mem m:List Cell}{p:List Fi}{M:List Rw}{g:Cell->Nat}
def Xk (hn:(p.map (·.id)).Nodup):F9 g (Js ts p)<=((ts.filter λt=>!kp p t).map λt=>F9 g t.cs).sum:=by
 rw[Um,QZ];refine PW _ _ _ (YF (List.Nodup.sublist (Xpe ts p) hn)) λt r=>?_;unfold OU at r;obtain⟨f,z,e⟩:=List.mem_filterMap.1 r;have h2:t.h=(f.lev,f.id):=by unfold HO at e;simpa using Da e
 refine Ax.2 ⟨Qh e,?_⟩
 cases hk:kp p t with
 | false=>rfl
 | true=>exact absurd h2 (Ml.1 hk f z)
def Xuy (hm:Mg mem m)(h:∃tbs:List Tb,ts'=ts++tbs/\tbs.flatMap (·.cs)=m):F9 g (FR [] ts')<=F9 g (FR mem ts):=by
 obtain⟨tbs,rfl,h⟩:=h;have:=OZ (g:=g) hm;unfold FR;rw[Bc,AG,Kk,Kk,h];omega
def Xuz (hm:Mg (Js ts p) m)(hn:(p.map (·.id)).Nodup)(h:∃tbs:List Tb,ts'=ts.filter (kp p)++tbs/\tbs.flatMap (·.cs)=m.filter (I7 V.fs lv)):F9 g (FR [] ts')<=F9 g (FR [] ts):=by
 obtain⟨tbs,rfl,h⟩:=h;have h1:=OZ (g:=g) hm;have h2:F9 g (m.filter (I7 V.fs lv))<=F9 g m:=TP BZ;have h3:=Xk (g:=g) (ts:=ts) hn;have h4:=TB (λt:Tb=>F9 g t.cs) (kp p) ts;unfold FR;rw[Bc,AG,AG,Kk,h,QZ,QZ];omega
end
def X89 {c:Cell}(hc:Gl c=true)(hs:∀d∈m,d.key=c.key->d.seq<c.seq)(x:Cell):x∈(put m c).2↔x=c\/x∈m:=by
 have z:=NQ m c;have H:has m c=false:=by
  unfold has
  cases e:Iq m c with
  | nil=>rfl
  | cons d r=>
   have hd:d∈m:=by rw[<-z,e];simp
   cases h2:(decide (d.key=c.key) && decide (d.seq=c.seq))with
   | false=>exact h2
   | true=>
    simp only [Aw,decide_eq_true_eq]at h2;have:=hs d hd h2.1;omega
 unfold put;rw[hc,H];show x∈pre m c++c :: Iq m c↔_;rw[Al,Ah];have:x∈m↔x∈pre m c\/x∈Iq m c:=by rw[<-Al,z]
 rw[this]
 constructor
 ·rintro (h|h|h)
  ·exact .inr (.inl h)
  ·exact .inl h
  ·exact .inr (.inr h)
 ·rintro (h|h|h)
  ·exact .inr (.inl h)
  ·exact .inl h
  ·exact .inr (.inr h)
def VY : ∀(cs m:List Cell),J1 cs->(∀c∈cs,Gl c=true)->(∀d∈m,∀c∈cs,d.key=c.key->d.seq<c.seq)->FP m->FP (JJ m cs)/\∀x,x∈JJ m cs↔x∈cs\/x∈m
 | [],m,_,_,_,hm=>⟨hm,λx=>by show x∈m↔_;simp⟩
 | c :: r,m,hk,hc,hs,hm=>by
  rw[J1,List.pairwise_cons]at hk;have h1:=X89 (hc c Ai) (λd hd=>hs d hd c Ai);obtain⟨H,J⟩:=VY r (put m c).2 hk.2 (λx z=>hc x (Aj _ z)) (λd hd x z he=>by
   rcases(h1 d).1 hd with rfl|hd
   ·have:=hk.1 x z;rw[he,IN]at this;cases this
   ·exact hs d hd x (Aj _ z) he) (FP.put hm c)
  refine⟨H,λx=>?_⟩;show x∈JJ (put m c).2 r↔_;rw[J,h1,Ah]
  constructor
  ·rintro (h|h|h)
   ·exact .inl (.inr h)
   ·exact .inl (.inl h)
   ·exact .inr h
  ·rintro ((h|h)|h)
   ·exact .inr (.inl h)
   ·exact .inl h
   ·exact .inr (.inr h)
def KA (s:Int)(c:Cell):Cell:=⟨c.key,c.val,c.del,s⟩
def X3l (s:Int)(out:List Cell)(c:Cell):Hw (out.map (KA s)) (KA s c)=(Hw out c).map (KA s):=by
 unfold Hw;rw[List.any_map,show((λx:Cell=>decide (x.key=(KA s c).key)) ∘ KA s)=λx=>decide (x.key=c.key) from rfl];split
 ·rfl
 ·rw[List.takeWhile_map,List.dropWhile_map,A3,Ak];rfl
def Xb (s:Int)(l:List Rw):Gp l s=(Gp l 1).map (KA s):=by
 unfold Gp
 induction l with
 | nil=>rfl
 | cons r l ih=>rw[EU,EU,ih,<-X3l];rfl
def V7 (s:Int):∀(l:List Cell) (M:List Rw),(l.map (KA s)).foldl Ia M=l.foldl Ia M
 | [],_=>rfl
 | c :: r,M=>by rw[Ak,BE,BE,V7 s r];rfl
def MJ (M:List Rw)(l:List Rw):List Rw:=(Gp l 1).foldl Ia M
def X9a {c:Rw}{s:Int}(h:Gl (c.cell 1)=true)(h1:1<=s)(h2:s<=1099511627776):Gl (c.cell s)=true:=by
 unfold Gl Rw.cell at *;simp only [Aw,decide_eq_true_eq]at *;exact⟨⟨h.1.1,h1⟩,h2⟩
section
variable {n:Int}{V:Vs}{ts:List Tb}{mem:List Cell}{M:List Rw}{g:Cell->Nat}
def Sto.write (h:Sto n V ts mem)(hT:Sp.Told (FR mem ts) M){l:List Rw}(hc:I4 l=0)(hn:0<=n/\n<1099511627776):Sto (n+1) V ts (JJ mem (Gp l (n+1)))/\Sp.Told (FR (JJ mem (Gp l (n+1))) ts) (MJ M l):=by
 obtain⟨_,_,_,h4⟩:=O7 hc;have J:∀c∈Gp l (n+1),Gl c=true/\c.seq=n+1:=λc z=>by
  obtain⟨r,Y,rfl⟩:=RP z;exact⟨X9a (h4 r Y) Fe Fe,rfl⟩
 have H:∀d∈FR mem ts,∀c∈Gp l (n+1),d.key=c.key->d.seq<c.seq:=λd hd c z _=>by
  have:=(h.okc d hd).2;have:=(J c z).2;omega
 obtain⟨p1,p2⟩:=VY (Gp l (n+1)) mem (Q7 l _) (λc z=>(J c z).1) (λd hd=>H d (Hu.2 (.inl hd))) h.ms;refine⟨⟨h.isv,h.fwd,h.bwd,h.nod,h.up,λc z=>?_,p1,λc z t O d hd hk=>?_,h.n2⟩,?_⟩
 ·rcases Hu.1 z with z|z
  ·rcases(p2 c).1 z with z|z
   ·have:=J c z;exact⟨this.1,by omega⟩
   ·have:=h.okc c (Hu.2 (.inl z));exact⟨this.1,by omega⟩
  ·have:=h.okc c (Hu.2 (.inr z));exact⟨this.1,by omega⟩
 ·rcases(p2 c).1 z with z|z
  ·exact H d (Hu.2 (.inr ⟨t,O,hd⟩)) c z hk
  ·exact h.n1 c z t O d hd hk
 ·have:=Y3 (Gp l (n+1)) hT (Q7 l _) H;rw[Xb (n+1) l,V7,<-Xb (n+1) l]at this;refine Xlu this λx=>?_;rw[Al,Hu,Hu,p2]
  constructor
  ·rintro (h|h|h)
   ·exact .inl (.inl h)
   ·exact .inl (.inr h)
   ·exact .inr h
  ·rintro ((h|h)|h)
   ·exact .inl h
   ·exact .inr (.inl h)
   ·exact .inr (.inr h)
def X3m (m:List Cell)(c:Cell):F9 g (put m c).2<=F9 g m+g c:=by
 unfold put;split
 ·exact B8 _ _
 ·have:=congrArg (F9 g) (NQ m c);rw[Kk]at this;show F9 g (pre m c++c :: Iq m c)<=_;rw[Kk,show F9 g (c :: Iq m c)=g c+F9 g (Iq m c) by unfold F9;simp];omega
def Wq : ∀(cs m:List Cell),F9 g (JJ m cs)<=F9 g m+F9 g cs
 | [],m=>Aa _
 | c :: r,m=>by
  have h1:=Wq r (put m c).2;have h2:=X3m (g:=g) m c;show F9 g (JJ (put m c).2 r)<=_;rw[show F9 g (c :: r)=g c+F9 g r by unfold F9;simp];omega
end
end Go.Proofs.YtiooodckiddpmaaGreatDoor
namespace Go.Vc
open Go.ChangeShapes Go.WideShapes Go.ChangeAt Go.RowKit
section
variable {H:Type}{enc:TypeId×Value->H}{P:Program}{W W':World}{base:Nat}
def readB (P:Program)(t:TypeId):Bool:=P.readableRec t && decide (t<P.types.size)
def UP (hl:laidOutB P=true)(r:Fq W W'):∀ {ts:List TypeId} {vs:List Value} {ds:List (DataW H)} {ps:List MemPlace},ts.all (readB P)=true->DataW.TrodAll enc P W 0 (λ_=>true) true ts vs ds ps->
  (∀p∈ps,p.block<W.heap.size)->DataW.TrodAll enc P W' 0 (λb=>decide (b<W.heap.size)) true ts vs ds ps
 | [],[],[],_,_,h,_=>h
 | t :: ts,v :: vs,d :: ds,ps,hr,h,hlt=>by
  obtain⟨p,q,h1,h2,rfl⟩:=h;simp only [List.all_cons,Aw]at hr;have z:P.readableRec t=true/\t<P.types.size:=by simpa [readB]using hr.1
  exact⟨p,q,Below.trod hl z.1 z.2 h1 r.below (λx r=>hlt x (by simp [r])),UP hl r hr.2 h2 (λx r=>hlt x (by simp [r])),rfl⟩
 | [],[],_ :: _,_,_,h,_=>h.elim
 | [],_ :: _,_,_,_,h,_=>h.elim
 | _ :: _,[],_,_,_,h,_=>h.elim
 | _ :: _,_ :: _,[],_,_,h,_=>h.elim
def Fq.kept (hx:Fq W W')(may:MemPlace->Prop):W.keptBut W' may:=hx.below.frame may
def Xz9 {f:Func}{s:ChangeSpec}{fresh handsOn:Bool}{args:Array Value}{ds gs:List (DataW H)}{before:List MemPlace}{tb:TypeId}(hl:laidOutB P=true)(hts:f.params.toList.all (readB P)=true)
  (hrt:f.resultTypes=#[tb]) (hb:P.underlying tb=some .bool) (hv:s.vars=[]) (hs:s.fn H ds={ results:=[.lit (.bool true)],args:=ds })
  (hW:DataW.Whole enc P f.params.toList s.vars false W args.toList ds gs before) (z:Fq W W'):s.post enc P f false fresh handsOn false W args (.bool true) W':=by
 have r:=hW;obtain⟨p,q,hA,O,rfl,hfz,hnd⟩:=hW;rw[hv]at O;obtain⟨rfl,rfl⟩:=trodVars_none O;have J:∀x∈p,x.block<W.heap.size:=λx z=>by have:=r.lt x (by simp [z]);simpa using this
 have e:s.fn H (ds++[])={ results:=[.lit (.bool true)],args:=ds }:=by rw[AI,hs]
 refine⟨ds,[],p++[],[],p,[],r,?_,?_,?_,z.kept _,λh=>by cases h⟩
 ·rw[e,hrt];exact trodAll_mk1 (shut_bool hb true)
 ·rw[e];exact UP hl z hts hA J
 ·rw[e,hv];rfl
def V9 {n:Int}(h:(Lit.int .i64 n).wf=true):Ge n:=by
 have:IntKind.i64.min<=n/\n<=IntKind.i64.max:=by simpa [Lit.wf]using h
 simpa [Ge,IntKind.min,IntKind.max,IntKind.signed,IntKind.bits]using this
inductive Kd where
 | s
 | b
 | i (k:IntKind)
def kdOf (P:Program)(t:TypeId):Option Kd:=match P.underlying t with
 | some .string=>some .s
 | some .bool=>some .b
 | some (.int k)=>some (.i k)
 | _=>none
def Yce (P:Program):List Field->Nat->Option (List Kd)
 | [],_=>some []
 | f :: r,o=>if f.offset == o && P.cellsOf f.type == 1 then(match kdOf P f.type,Yce P r (o+1)with
  | some k,some ks=>some (k :: ks)
  | _,_=>none)else none
def Yd7 (P:Program)(t:TypeId):Option (List Kd):=match P.underlying t with
 | some (.struct fs)=>Yce P fs.toList 0
 | _=>none
def R9 : List Kd->List Value->Prop
 | [],[]=>True
 | .s :: r,v :: c=>(∃x:Fj,v=S x/\x.length<=maxLen)/\R9 r c
 | .b :: r,v :: c=>(∃x:Bool,v=.bool x)/\R9 r c
 | .i k :: r,v :: c=>(∃x:Int,v=.int k x/\(Lit.int k x).wf=true)/\R9 r c
 | _,_=>False
end
variable {H:Type}{enc:TypeId×Value->H}
def Xid {a:Assume}{C:Checked}{os:Os}{f:FuncId}{fn:Func}{s:ChangeSpec}{conds:List PathCond}{apart fresh handsOn again:Bool}{X:World->Array Value->Prop}
  (hX:∀(w w':World) (args:Array Value),w.heap=w'.heap->X w args->X w' args)
  (own:ownKnob C.prog.godebug=none) (started:os.Started) (noInit:C.prog.inits.idxOf? f=none) (hfn:C.prog.funcs[f]?=some fn)
  (witness:∃(w:World) (tape:Tape) (i:Input),w.os=os/\(w.forCall tape i).Shaped C.prog/\i.vars=[]/\Input.okWide C.prog (w.forCall tape i) .any w.heap.size f i/\
   ((s.pre enc C.prog fn conds apart (w.forCall tape i).memory i.args/\X (w.forCall tape i).memory i.args)/\sizedMet enc C.prog fn (OpenSpec.ofChange s) apart (w.forCall tape i).memory i.args)/\a.holds C.prog (lone (Frame.enter C.prog f i.args .normal) [] (w.forCall tape i)))
  (contract:∀(W:World) (base:Nat) (args:Array Value) (ds gs:List (DataW H)) (r:List MemPlace),
   (∀(j:Nat) t v,fn.params[j]?=some t->args[j]?=some v->Value.okWide C.prog W .any base t v)->
   DataW.Whole enc C.prog fn.params.toList s.vars apart W args.toList ds gs r->
   (DataW.weightsEach C.prog (fn.params.toList++s.plain.varTypes C.prog) (ds++gs)).all (·<=reachBytes)=true->X W args->W.ShapedOpen C.prog->
   Calls C.prog f args W λe W'=>∃v,e=.returned v/\s.post enc C.prog fn apart fresh handsOn again W args v W') :
  ReturnsInHanded a C os f .any (λw args=>(s.pre enc C.prog fn conds apart w args/\X w args)/\sizedMet enc C.prog fn (OpenSpec.ofChange s) apart w args) (s.post enc C.prog fn apart fresh handsOn again):=by
 refine returnsInHanded_of_calls own started noInit witness ?_;intro w tape i _ Y _ hc O _;obtain⟨_,_,_,ha,J,_,_,_,_,z⟩:=hc;have e:ha=fn:=Am.inj (J.symm.trans hfn);subst e;obtain⟨⟨⟨ds,gs,r,hw,_⟩,hx⟩,hz⟩:=O;have hf:=DataW.Whole.of_heap (w':=w.forCall tape i) (by rfl) hw;refine(contract (w.forCall tape i) w.heap.size i.args ds gs r z hf (hz.weights hw) (hX _ _ _ (by rfl) hx) Y).mono λe W' ⟨v,he,hp⟩=>?_;subst he;exact ChangeSpec.post_blind hp
section
variable {H:Type}{enc:TypeId×Value->H}{P:Program}{W W':World}{base:Nat}
def Xpg {α:Type}{Q:DataW H->α->Prop}{cenc:α->List Value}{good:α->Prop}{r:Reach}{b0:Nat}{t e sz:Nat}{v:Value}{d:DataW H}{ps:List MemPlace}{sp:Nat->Bool}{hd:Bool}(ht:P.underlying t=some (.slice e))(hc:P.cellsOf e=sz)
  (hdec:∀(n:Nat) (cs:List Value) (y:DataW H×List MemPlace),DataW.trod enc P W base sp hd n e cs=some y->cs.length=sz->∃x,cs=cenc x/\good x/\Q y.1 x)
  (hval:Value.okWide P W r b0 t v) (h:DataW.Trod enc P W base sp hd t v d ps):∃l:List α,Fu cenc sz W v l/\(∀x∈l,good x)/\l.length<=maxLen/\(l.length=0\/∃el sp',d=.slice el sp'/\el.length=l.length/\∀(i:Nat) (x:α),l[i]?=some x->∃y,el[i]?=some y/\Q y x):=by
 obtain⟨oa,len,cap,rfl⟩:=okWide_slice ht hval;obtain⟨fuel,h⟩:=h;rcases Deep.open_slice ht h with⟨h1,_⟩|⟨a,len',cap',m,n,D,Pl,h1,_,hlc,hcm,hm,hdx,hel⟩
 ·have J:[Value.slice oa len cap]=[.slice none 0 0]:=by simpa [Value.cells]using h1
  simp only [Cd.injEq,and_true]at J;rw[J];exact⟨[],Fu.nil,λx hx=>(by cases hx),Ab _,.inl rfl⟩
 ·have J:[Value.slice oa len cap]=[.slice (some a) len' cap']:=by simpa [Value.cells]using h1
  simp only [Cd.injEq,Value.slice.injEq,and_true]at J;obtain⟨rfl,rfl,rfl⟩:=J;have hf:a.spot=none:=by
   simp only [Value.okWide,ht,Cell.okWide,Cell.ok]at hval;exact hval.2.2.2.1
  obtain⟨b,o,spot⟩:=a;simp only at hf;subst hf;have hlm:len<=m:=by rw[hm];split<;>omega
  obtain⟨X,hX⟩:=Deep.choose_lt (α:=Option α) (n:=len) (p:=λi ox=>∃x,ox=some x/\W.cells? base ((⟨b,o,none⟩:Addr).add (i*P.cellsOf e)) (P.cellsOf e)=some (cenc x)/\good x/\Q (D i) x) (λi hi=>by
   obtain⟨cs',h2,h3⟩:=hel i Fe;obtain⟨_,hh,_⟩:=World.cells?_some h2;obtain⟨x,rfl,hg⟩:=hdec n cs' _ h3 (by rw[hh,hc]);exact⟨some x,x,rfl,h2,hg⟩)
  have hx:∀i,i<len->∃x,X i=some x/\W.cells? base ((⟨b,o,none⟩:Addr).add (i*P.cellsOf e)) (P.cellsOf e)=some (cenc x)/\good x/\Q (D i) x:=hX;have hp:∀k,k<=len->∃l:List α,l.length=k/\∀i,i<k->∃x,l[i]?=some x/\X i=some x:=by
   intro k
   induction k with
   | zero=>intro _;exact⟨[],rfl,λi hi=>absurd hi (Bh _)⟩
   | succ k ih=>
    intro hk;obtain⟨l,hl,O⟩:=ih Fe;obtain⟨x,Y,_⟩:=hx k Fe;refine⟨l++[x],by simp [hl],λi hi=>?_⟩
    by_cases hik:i<k
    ·obtain⟨y,h2,h3⟩:=O i hik;exact⟨y,by rw[B5 Fe];exact h2,h3⟩
    ·have:i=k:=by omega
     subst this;exact⟨x,by rw[<-hl];simp,Y⟩
  obtain⟨l,hl,O⟩:=hp len (Aa _);refine⟨l,⟨.inr (.inl ⟨b,o,cap,by rw[Au,hl],by rw[Au,hl];exact hlc⟩),λi cs hi=>?_⟩,λx hw=>?_,by omega,.inr ⟨_,_,(Prod.mk.inj hdx).1,by simp [hl],λi x hi=>?_⟩⟩
  ·rw[AH]at hi;obtain⟨x,Y,rfl⟩:=Bp.1 hi;have hq:=(Ar.1 Y).1;obtain⟨y,h2,h3⟩:=O i Fe;obtain⟨z,h4,h5,_⟩:=hx i Fe;rw[h2]at Y;rw[h3]at h4
   cases Y;cases h4
   obtain⟨_,hh,hr⟩:=World.cells?_some h5;refine⟨by rw[hh,hc],λj u hj=>?_⟩;have hjl:=(Ar.1 hj).1;have:=hr j Fe;rw[hj,Deep.add_add]at this;have ha:(⟨b,o,none⟩:Addr).add (i*P.cellsOf e+j)=⟨b,o+i*sz+j,none⟩:=by
    unfold Addr.add;split
    ·rename_i e0;have h0:i*sz=0/\j=0:=by rw[hc]at e0;omega
     rw[h0.1,h0.2];rfl
    ·rw[hc];simp [BV]
   rw[ha]at this;exact this
  ·obtain⟨i,hi⟩:=Ci.1 hw;have hq:=(Ar.1 hi).1;obtain⟨y,h2,h3⟩:=O i Fe;obtain⟨z,h4,_,h5⟩:=hx i Fe;rw[h2]at hi;rw[h3]at h4
   cases hi;cases h4
   exact h5.1
  ·have hq:=(Ar.1 hi).1;obtain⟨y,h2,h3⟩:=O i Fe;obtain⟨z,h4,_,_,h5⟩:=hx i Fe;rw[h2]at hi;rw[h3]at h4
   cases hi;cases h4
   exact⟨D i,by rw[AH,Ed Fe];rfl,h5⟩
def YH {e:TypeId} : ∀ {l:List (DataW H)} {d:DataW H},d∈l->∀n∈d.weights P e,n∈DataW.weightsAll P e l
 | [],_,h,_,_=>by cases h
 | a :: l,d,h,n,hn=>by
  rw[DataW.weightsAll,Al];rcases Ah.1 h with rfl|h
  ·exact .inl hn
  ·exact .inr (YH h n hn)
end
end Go.Vc
namespace Go.Proofs.YtiooodckiddpmaaGreatDoor
open Go.Vc Go.Sp Go.ChangeShapes Go.WideShapes Go.ChangeAt Go.RowKit
open Go.Deep (oneCellFields hone_of)
structure Ac where
 k:Int
 n:Int
 key:Fj
 to:Fj
 l:List Rw
 v:Value
@[reducible] def Ac.cs (a:Ac):List Value:=[I a.k,I a.n,S a.key,S a.to,a.v]
structure AcOk (W:World)(a:Ac):Prop where
 v:Fu Rw.cs 3 W a.v a.l
 hk:Ge a.k
 hn:Ge a.n
 key:a.key.length<=140737488355328
 to:a.to.length<=140737488355328
 len:a.l.length<=140737488355328
 row:∀r∈a.l,r.key.length<=140737488355328/\r.val.length<=140737488355328
def AcOk.ext {W W':World}{a:Ac}(h:AcOk W a)(x:Fq W W'):AcOk W' a:=⟨h.v.ext x,h.hk,h.hn,h.key,h.to,h.len,h.row⟩
section
variable {H:Type}{enc:TypeId×Value->H}{P:Program}{W:World}{base:Nat}
def X0a {a:Addr}{v:Value}(h:W.cell? a=some v):a.spot=none:=by
 unfold World.cell? at h;split at h
 ·split at h
  ·cases h
  ·rename_i hs;simpa using hs
 ·cases h
variable {hd:Bool}{sp:Nat->Bool}
def Xph {α:Type}{Q:DataW H->α->Prop}{cenc:α->List Value}{t e sz:Nat}{v:Value}{y:DataW H×List MemPlace}{n0:Nat}(ht:P.underlying t=some (.slice e))(hc:P.cellsOf e=sz)(hsz:0<sz)(hdec:∀(n:Nat) (cs:List Value) (y:DataW H×List MemPlace),DataW.trod enc P W base sp hd n e cs=some y->cs.length=sz->∃x,cs=cenc x/\Q y.1 x)(h:DataW.trod enc P W base sp hd n0 t [v]=some y):∃l:List α,Fu cenc sz W v l/\(l=[]\/∃el sp',y.1=.slice el sp'/\el.length=l.length/\∀(i:Nat) (x:α),l[i]?=some x->∃d,el[i]?=some d/\Q d x):=by
 rcases Deep.open_slice ht h with⟨h1,_⟩|⟨a,len,cap,m,n,D,Pl,h1,_,hlc,hcm,hm,hdx,hel⟩
 ·simp only [Cd.injEq,and_true]at h1;rw[h1];exact⟨[],Fu.nil,.inl rfl⟩
 ·simp only [Cd.injEq,and_true]at h1;subst h1;have hlm:len<=m:=by rw[hm];split<;>omega
  by_cases hl0:len=0
  ·subst hl0;exact⟨[],⟨.inr (.inr ⟨rfl,_,_,rfl⟩),λi cs hi=>by simp at hi⟩,.inl rfl⟩
  have O:a.spot=none:=by
   obtain⟨cs',h2,h3⟩:=hel 0 Fe;obtain⟨_,r,hf⟩:=World.cells?_some h2;have h4:=hf 0 Fe;have h5:cs'[0]?=some cs'[0]:=Aq Fe;rw[h5]at h4;have h6:(a.add (0*P.cellsOf e)).add 0=a:=by simp [Addr.add]
   rw[h6]at h4;exact X0a h4
  obtain⟨b,o,spot⟩:=a;simp only at O;subst O;obtain⟨X,hX⟩:=Deep.choose_lt (α:=Option α) (n:=len) (p:=λi ox=>∃x,ox=some x/\W.cells? base ((⟨b,o,none⟩:Addr).add (i*P.cellsOf e)) (P.cellsOf e)=some (cenc x)/\Q (D i) x) (λi hi=>by
   obtain⟨cs',h2,h3⟩:=hel i Fe;obtain⟨_,r,_⟩:=World.cells?_some h2;obtain⟨x,rfl,hg⟩:=hdec n cs' _ h3 (by rw[r,hc]);exact⟨some x,x,rfl,h2,hg⟩)
  have hx:∀i,i<len->∃x,X i=some x/\W.cells? base ((⟨b,o,none⟩:Addr).add (i*P.cellsOf e)) (P.cellsOf e)=some (cenc x)/\Q (D i) x:=hX;have hh:∀k,k<=len->∃l:List α,l.length=k/\∀i,i<k->∃x,l[i]?=some x/\X i=some x:=by
   intro k
   induction k with
   | zero=>intro _;exact⟨[],rfl,λi hi=>absurd hi (Bh _)⟩
   | succ k ih=>
    intro hk;obtain⟨l,hl,Y⟩:=ih Fe;obtain⟨x,J,_⟩:=hx k Fe;refine⟨l++[x],by simp [hl],λi hi=>?_⟩
    by_cases hik:i<k
    ·obtain⟨y,h2,h3⟩:=Y i hik;exact⟨y,by rw[B5 Fe];exact h2,h3⟩
    ·have:i=k:=by omega
     subst this;exact⟨x,by rw[<-hl];simp,J⟩
  obtain⟨l,hl,Y⟩:=hh len (Aa _);refine⟨l,⟨.inr (.inl ⟨b,o,cap,by rw[Au,hl],by rw[Au,hl];exact hlc⟩),λi cs hi=>?_⟩,.inr ⟨_,_,congrArg Prod.fst hdx,by simp [hl],λi x hi=>?_⟩⟩
  ·rw[AH]at hi;obtain⟨x,J,rfl⟩:=Bp.1 hi;have hp:=(Ar.1 J).1;obtain⟨y,h2,h3⟩:=Y i Fe;obtain⟨z,h4,h5,_⟩:=hx i Fe;rw[h2]at J;rw[h3]at h4
   cases J;cases h4
   obtain⟨_,r,hf⟩:=World.cells?_some h5;refine⟨by rw[r,hc],λj u hj=>?_⟩;have hjl:=(Ar.1 hj).1;have:=hf j Fe;rw[hj,Deep.add_add]at this;have ha:(⟨b,o,none⟩:Addr).add (i*P.cellsOf e+j)=⟨b,o+i*sz+j,none⟩:=by
    unfold Addr.add;split
    ·rename_i e0;have h0:i*sz=0/\j=0:=by rw[hc]at e0;omega
     rw[h0.1,h0.2];rfl
    ·rw[hc];simp [BV]
   rw[ha]at this;exact this
  ·have hp:=(Ar.1 hi).1;obtain⟨y,h2,h3⟩:=Y i Fe;obtain⟨z,h4,_,h5⟩:=hx i Fe;rw[h2]at hi;rw[h3]at h4
   cases hi;cases h4
   exact⟨D i,by rw[AH,Ed Fe];rfl,h5⟩
variable {f0 f1 f2:Field}{t:TypeId}{x:DataW H×List MemPlace}
def Xpi {f3 f4:Field}{fuel:Nat}{cs:List Value}(ht:P.underlying t=some (.struct #[f0,f1,f2,f3,f4]))(h:DataW.trod enc P W base sp hd fuel t cs=some x):
  ∃y0 y1 y2 y3 y4 n,x.1=.agg [y0.1,y1.1,y2.1,y3.1,y4.1]/\cs.length=P.cellsOf t/\DataW.trod enc P W base sp hd n f0.type ((cs.drop f0.offset).take (P.cellsOf f0.type))=some y0/\
   DataW.trod enc P W base sp hd n f1.type ((cs.drop f1.offset).take (P.cellsOf f1.type))=some y1/\DataW.trod enc P W base sp hd n f2.type ((cs.drop f2.offset).take (P.cellsOf f2.type))=some y2/\
   DataW.trod enc P W base sp hd n f3.type ((cs.drop f3.offset).take (P.cellsOf f3.type))=some y3/\DataW.trod enc P W base sp hd n f4.type ((cs.drop f4.offset).take (P.cellsOf f4.type))=some y4:=by
 obtain⟨xs,n,_,rfl,J,z,r⟩:=DataW.trod_struct ht h
 match xs,z with
 | [y0,y1,y2,y3,y4],_=>exact⟨y0,y1,y2,y3,y4,n,by simp,J,by simpa using r 0 f0 rfl,by simpa using r 1 f1 rfl,by simpa using r 2 f2 rfl,by simpa using r 3 f3 rfl,by simpa using r 4 f4 rfl⟩
def Xpj {fuel:Nat}{cs:List Value}(ht:P.underlying t=some (.struct #[f0,f1,f2]))(h:DataW.trod enc P W base sp hd fuel t cs=some x):
  ∃y0 y1 y2 n,x.1=.agg [y0.1,y1.1,y2.1]/\cs.length=P.cellsOf t/\DataW.trod enc P W base sp hd n f0.type ((cs.drop f0.offset).take (P.cellsOf f0.type))=some y0/\
   DataW.trod enc P W base sp hd n f1.type ((cs.drop f1.offset).take (P.cellsOf f1.type))=some y1/\DataW.trod enc P W base sp hd n f2.type ((cs.drop f2.offset).take (P.cellsOf f2.type))=some y2:=by
 obtain⟨xs,n,_,rfl,J,r,z⟩:=DataW.trod_struct ht h
 match xs,r with
 | [y0,y1,y2],_=>exact⟨y0,y1,y2,n,by simp,J,by simpa using z 0 f0 rfl,by simpa using z 1 f1 rfl,by simpa using z 2 f2 rfl⟩
def Ut {e:TypeId}{el sp':List (DataW H)}(ht:P.underlying t=some (.slice e))(hb:1<=P.bytesOf e)(h:∀x∈DataW.weights P t (.slice el sp'),x<=reachBytes):el.length<=reachBytes/\∀d∈el,∀x∈DataW.weights P e d,x<=reachBytes:=by
 rw[DataW.weights,ht]at h;simp only [Ah,Al]at h;have h1:=h _ (.inl rfl);have h2:el.length*1<=(el.length+sp'.length)*P.bytesOf e:=Nat.mul_le_mul Fe hb;exact⟨by omega,λd hd x r=>h x (.inr (.inl (YH hd x r)))⟩
def Ydw {e:TypeId}(he:P.underlying e=some (.struct #[f0,f1,f2]))(hone:oneCellFields P #[f0,f1,f2]=true)(h0:P.underlying f0.type=some .string)(h1:P.underlying f1.type=some .string)(h2:P.underlying f2.type=some .bool):
  ∀(n:Nat) (cs:List Value) (y:DataW H×List MemPlace),DataW.trod enc P W base sp hd n e cs=some y->cs.length=3->∃x:Rw,cs=x.cs/\((∀z∈y.1.weights P e,z<=reachBytes)->x.key.length<=140737488355328/\x.val.length<=140737488355328):=λn cs y h hl=>by
 obtain⟨y0,y1,y2,m,hy,_,t0,t1,Y⟩:=Xpj he h;obtain⟨o0,k0⟩:=hone_of hone 0 f0 rfl;obtain⟨o1,k1⟩:=hone_of hone 1 f1 rfl;obtain⟨o2,k2⟩:=hone_of hone 2 f2 rfl
 match cs,hl with
 | [c0,c1,c2],_=>
  rw[o0,k0]at t0;rw[o1,k1]at t1;rw[o2,k2]at Y;simp only [AZ,AP]at t0 t1 Y;obtain⟨s0,e0,O,_⟩:=DataW.trod_string h0 t0;obtain⟨J,e1,ha,_⟩:=DataW.trod_string h1 t1;obtain⟨b,e2,_⟩:=DataW.trod_bool h2 Y;simp only [Cd.injEq,and_true]at e0 e1 e2;subst e0;subst e1;subst e2;have hrb:reachBytes=140737488351232:=rfl;refine⟨⟨s0.data.toList,J.data.toList,b⟩,rfl,λhw=>?_⟩;have r:∀(j:Nat) (u:TypeId) (d:DataW H),[f0.type,f1.type,f2.type][j]?=some u->[y0.1,y1.1,y2.1][j]?=some d->∀x∈d.weights P u,x<=reachBytes:=λj u d hj hc x hx=>by
   refine hw x ?_;rw[hy,DataW.weights,he];exact DataW.weights_mem_each hj hc x hx
  have b0:=r 0 _ _ rfl rfl s0.data.toList.length (by rw[O,DataW.weights];simp);have b1:=r 1 _ _ rfl rfl J.data.toList.length (by rw[ha,DataW.weights];simp);exact⟨by show s0.data.toList.length<=_;omega,by show J.data.toList.length<=_;omega⟩
section
variable {e u:TypeId}{f0 f1 f2 f3 f4 g0 g1 g2:Field}{sp:Nat->Bool}{hd:Bool}(he:P.underlying e=some (.struct #[f0,f1,f2,f3,f4]))(hone:oneCellFields P #[f0,f1,f2,f3,f4]=true)(h0:P.underlying f0.type=some (.int .i64))(h1:P.underlying f1.type=some (.int .i64))(h2:P.underlying f2.type=some .string)(h3:P.underlying f3.type=some .string)
 (h4:P.underlying f4.type=some (.slice u)) (hu:P.underlying u=some (.struct #[g0,g1,g2])) (hone2:oneCellFields P #[g0,g1,g2]=true) (hcu:P.cellsOf u=3) (hbu:1<=P.bytesOf u) (k0:P.underlying g0.type=some .string) (k1:P.underlying g1.type=some .string) (k2:P.underlying g2.type=some .bool)
include he hone h0 h1 h2 h3 h4 hu hone2 hcu hbu k0 k1 k2
def Ydx : ∀(n:Nat) (cs:List Value) (y:DataW H×List MemPlace),DataW.trod enc P W base sp hd n e cs=some y->cs.length=5->∃x:Ac,cs=x.cs/\((∀z∈y.1.weights P e,z<=reachBytes)->AcOk W x):=λn cs y h hl=>by
 obtain⟨y0,y1,y2,y3,y4,m,hy,_,t0,t1,t2,O,t4⟩:=Xpi he h;obtain⟨o0,q0⟩:=hone_of hone 0 f0 rfl;obtain⟨o1,q1⟩:=hone_of hone 1 f1 rfl;obtain⟨o2,q2⟩:=hone_of hone 2 f2 rfl;obtain⟨o3,q3⟩:=hone_of hone 3 f3 rfl;obtain⟨o4,q4⟩:=hone_of hone 4 f4 rfl
 match cs,hl with
 | [c0,c1,c2,c3,c4],_=>
  rw[o0,q0]at t0;rw[o1,q1]at t1;rw[o2,q2]at t2;rw[o3,q3]at O;rw[o4,q4]at t4;simp only [AZ,AP]at t0 t1 t2 O t4;obtain⟨a,e0,_,w0⟩:=DataW.trod_int h0 t0;obtain⟨b,e1,_,w1⟩:=DataW.trod_int h1 t1;obtain⟨s2,e2,hf,_⟩:=DataW.trod_string h2 t2;obtain⟨s3,e3,hc,_⟩:=DataW.trod_string h3 O;simp only [Cd.injEq,and_true]at e0 e1 e2 e3;subst e0;subst e1;subst e2;subst e3;have hrb:reachBytes=140737488351232:=rfl;obtain⟨l,hl,hb⟩:=Xph (Q:=λd (x:Rw)=>(∀z∈d.weights P u,z<=reachBytes)->x.key.length<=140737488355328/\x.val.length<=140737488355328) (cenc:=Rw.cs) h4 hcu Fo (Ydw hu hone2 k0 k1 k2) t4;refine⟨⟨a,b,s2.data.toList,s3.data.toList,l,c4⟩,rfl,λhw=>?_⟩;have J:∀(j:Nat) (u:TypeId) (d:DataW H),[f0.type,f1.type,f2.type,f3.type,f4.type][j]?=some u->[y0.1,y1.1,y2.1,y3.1,y4.1][j]?=some d->∀x∈d.weights P u,x<=reachBytes:=λj u d hj hg x hx=>by
   refine hw x ?_;rw[hy,DataW.weights,he];exact DataW.weights_mem_each hj hg x hx
  have b2:=J 2 _ _ rfl rfl s2.data.toList.length (by rw[hf,DataW.weights];simp);have b3:=J 3 _ _ rfl rfl s3.data.toList.length (by rw[hc,DataW.weights];simp);have b4:l.length<=140737488355328/\∀r∈l,r.key.length<=140737488355328/\r.val.length<=140737488355328:=by
   rcases hb with rfl|⟨el,sp',e4,hel,hq⟩
   ·exact⟨by simp,λp hp=>by cases hp⟩
   ·obtain⟨z1,z2⟩:=Ut h4 hbu (λx hx=>J 4 _ _ rfl rfl x (by rw[e4];exact hx));refine⟨by omega,λr hr=>?_⟩;obtain⟨i,hi⟩:=Ci.1 hr;obtain⟨d,Y,ha⟩:=hq i r hi;exact ha (z2 d (Ag Y))
  exact⟨hl,V9 w0,V9 w1,by show s2.data.toList.length<=_;omega,by show s3.data.toList.length<=_;omega,b4.1,b4.2⟩
def Xu0 {r:Reach}{b0:Nat}{t:TypeId}{v:Value}{d:DataW H}{ps:List MemPlace}{ts:List TypeId}{ds:List (DataW H)}{j:Nat}(ht:P.underlying t=some (.slice e))(hce:P.cellsOf e=5)(hbe:1<=P.bytesOf e)
  (hval:Value.okWide P W r b0 t v) (h:DataW.Trod enc P W base sp hd t v d ps) (hz:(DataW.weightsEach P ts ds).all (·<=reachBytes)=true) (hj:ts[j]?=some t) (hdj:ds[j]?=some d) :
  ∃l:List Ac,Fu Ac.cs 5 W v l/\l.length<=140737488355328/\∀a∈l,AcOk W a:=by
 obtain⟨l,hl,_,_,hb⟩:=Xpg (Q:=λ(d:DataW H) (x:Ac)=>(∀z∈d.weights P e,z<=reachBytes)->AcOk W x) (good:=λ_=>True) (cenc:=Ac.cs) ht hce (λn cs y h9 J=>by
  obtain⟨x,q1,q2⟩:=Ydx he hone h0 h1 h2 h3 h4 hu hone2 hcu hbu k0 k1 k2 n cs y h9 J;exact⟨x,q1,trivial,q2⟩) hval h
 have hw:∀x∈d.weights P t,x<=reachBytes:=λx hx=>by have:=AQ.1 hz _ (DataW.weights_mem_each hj hdj x hx);simpa using this
 have hrb:reachBytes=140737488351232:=rfl;refine⟨l,hl,?_⟩;rcases hb with hb|⟨el,sp',e4,hel,hq⟩
 ·have:=List.eq_nil_of_length_eq_zero hb;subst this;exact⟨by simp,λp hp=>by cases hp⟩
 ·obtain⟨z1,z2⟩:=Ut ht hbe (λx hx=>hw x (by rw[show d=_ from e4];exact hx));refine⟨by omega,λa ha=>?_⟩;obtain⟨i,hi⟩:=Ci.1 ha;obtain⟨d',Y,O⟩:=hq i a hi;exact O (z2 d' (Ag Y))
end
end
end Go.Proofs.YtiooodckiddpmaaGreatDoor
namespace Go.Proofs.YtiooodckiddpmaaGreatDoor
open Go.Vc Go.Sp
attribute [local irreducible] W XW Dw GC
def X9 (c d:Rw):Lt c.cs d.cs=decide (c=d):=by
 obtain⟨k,v,b⟩:=c;obtain⟨r,v',b'⟩:=d;simp [Lt,Rw.cs]
 by_cases h:k=r<;>by_cases h2:v=v'<;>by_cases h3:b=b'<;>simp [h,h2,h3]
def G5 (r:Rw):Nat:=1+r.key.length+r.val.length
def HE (a:Ac):Nat:=a.key.length+a.to.length+(a.l.map G5).sum
def Mw (l:List Ac):Nat:=((l.take 60).map HE).sum
def PC {α:Type}(f:α->Nat){l:List α}{k:Nat}{x:α}(h:l[k]?=some x):((l.take (k+1)).map f).sum=((l.take k).map f).sum+f x:=by
 rw[GW h,A3,Bt];simp
def Pn {α:Type}(f:α->Nat)(l:List α){i j:Nat}(h:i<=j):((l.take i).map f).sum<=((l.take j).map f).sum:=by
 have e:l.take i=(l.take j).take i:=by rw[List.take_take,Nat.min_eq_left h]
 have:=congrArg (λm=>(m.map f).sum) (AV i (l.take j));simp only [A3,Bt]at this;rw[e];omega
def Ycf {l:List Ac}{i k:Nat}{a:Ac}(hi:i<60)(ha:l[i]?=some a)(hk:k<=a.l.length):((l.take i).map HE).sum+a.key.length+a.to.length+((a.l.take k).map G5).sum<=Mw l:=by
 have h1:=Pn HE l (show i+1<=60 by omega);rw[PC HE ha]at h1;have h2:=Pn G5 a.l hk;rw[AT]at h2;unfold Mw;have h3:HE a=a.key.length+a.to.length+(a.l.map G5).sum:=rfl;omega
def Mx (M:List Rw):Prop:=M.Pairwise λa b=>F6 a.key b.key=true
section
variable {M:List Rw}{c:Cell}{j:Nat}{d:Rw}
def VO (hM:Mx M)(c:Cell):Mx (Ia M c):=by
 unfold Ia Mx;refine Bw.2 ⟨CR _ hM,Bw.2 ⟨?_,CR _ hM,λx J y r=>?_⟩,λx J y r=>?_⟩
 ·split
  ·exact Bu
  ·exact List.pairwise_singleton _ _
 ·split at J
  ·cases J
  ·rw[Af.1 J];exact(Ax.1 r).2
 ·have z:=(Ax.1 J).2;rcases Al.1 r with r|r
  ·split at r
   ·cases r
   ·rw[Af.1 r];exact z
  ·exact Kg _ _ _ z (Ax.1 r).2
def X3n (hM:Mx M)(c:Cell):(Ia M c).length<=M.length+1:=by
 have h1:∀M:List Rw,(M.filter λr=>F6 r.key c.key).length+(M.filter λr=>F6 c.key r.key).length<=M.length:=by
  intro M
  induction M with
  | nil=>exact Aa _
  | cons r q ih=>
   simp only [BJ,Az]
   cases h:F6 r.key c.key with
   | true=>rw[KM h];simp;omega
   | false=>cases h2:F6 c.key r.key<;>simp<;>omega
 have:=h1 M;unfold Ia;simp only [Ad];split<;>simp<;>omega
def ML (M:List Rw)(cs:List Cell):List Rw:=cs.foldl Ia M
def X9c : ∀(cs:List Cell) {M:List Rw},Mx M->Mx (ML M cs)
 | [],_,h=>h
 | c :: r,_,h=>X9c r (VO h c)
def Xtt : ∀(cs:List Cell) {M:List Rw},Mx M->(ML M cs).length<=M.length+cs.length
 | [],_,h=>Aa _
 | c :: r,M,h=>by
  have h1:=Xtt r (VO h c);have h2:=X3n h c;show(ML (Ia M c) r).length<=_;simp only [Az];omega
end
def X9d (l:List Ac)(v:Value)(w:World)(hv:Fu Ac.cs 5 w v l)(hl:l.length<=140737488355328)(hok:∀a∈l,AcOk w a) :
  FX 11 [v] w (B (decide (60000<Mw l))):=by
 refine cE Tryz.func11 λz=>F8 (G:=Nat×Nat) (λ(i,n)=>[(0,v),(3,I ↑n),(4,I ↑i)]) (λ(i,n) w'=>Fq w w'/\i<=l.length/\i<=60/\n=((l.take i).map HE).sum/\n<=60000+i*281474976710656) (λ(i,n)=>l.length-i) (0,0) ⟨z,Ab _,Ab _,rfl,Ab _⟩ ?_;rintro _ ⟨i,n⟩ w1 ⟨z,hi1,hi2,hn,hnb⟩;refine FM 34 5 (hv.ext z).sl ?_;refine FJ 10 (λc1=>?_) λc1=>?_
 ·refine Fk (λc2=>?_) λc2=>?_
  ·obtain⟨a,hk⟩:∃a,l[i]?=some a:=F7;have J:=hok a (Ag hk);have O:=J.v;have q1:=J.key;have q2:=J.to;have q3:=J.len;refine Gt 10001000000100000 λw2 x2=>?_;have z:=z.trans x2;refine FN 34 5 hv.sl (hv.lt hk) ?_;refine go ?_;refine dL rfl (λ_ hR=>(((hv.ext (z.trans hR)).row hk).at rfl)) (FN 34 5 hv.sl (hv.lt hk) ?_);refine go ?_;refine dL rfl (λ_ hR=>(((hv.ext (z.trans hR)).row hk).at rfl)) (F8 (G:=Nat×Nat) (λ(k,m)=>[(0,v),(3,I ↑m),(4,I ↑i),(5,I ↑k)]) (λ(k,m) w'=>Fq w w'/\k<=a.l.length/\m=n+a.key.length+a.to.length+((a.l.take k).map G5).sum/\m<=60000+(i+1)*281474976710656) (λ(k,m)=>a.l.length-k) (0,n+a.key.length+a.to.length) ⟨z,Ab _,by simp,by omega⟩ ?_);rintro _ ⟨k,m⟩ w3 ⟨z,hk1,hm,hmb⟩;refine FN 34 5 hv.sl (hv.lt hk) ?_;refine go ?_;refine dl rfl (((hv.ext z).row hk).at rfl) (dv 48 3 (O.ext z).sl ?_);refine Fk (λc3=>?_) λc3=>?_
   ·obtain⟨r,hr⟩:∃r,a.l[k]?=some r:=F7;have q4:=J.row r (Ag hr);have hrs:=PC G5 hr;have hrw:G5 r=1+r.key.length+r.val.length:=rfl;have hge:=Ycf (k:=k+1) Fe hk Fe;refine Gt 10001000100000010001000000 λw4 x4=>?_;have z:=z.trans x4;refine FN 34 5 hv.sl (hv.lt hk) ?_;refine go ?_;refine dL rfl (λ_ hR=>(((hv.ext (z.trans hR)).row hk).at rfl)) (FN 48 3 O.sl (O.lt hr) ?_);refine go ?_;refine dL rfl (λ_ hR=>(((O.ext (z.trans hR)).row hr).at rfl)) (FN 34 5 hv.sl (hv.lt hk) ?_);refine go ?_;refine dL rfl (λ_ hR=>(((hv.ext (z.trans hR)).row hk).at rfl)) (FN 48 3 O.sl (O.lt hr) ?_);refine go ?_;refine dL rfl (λ_ hR=>(((O.ext (z.trans hR)).row hr).at rfl)) ?_;refine Fk (λc4=>?_) λc4=>?_
    ·refine go ?_;refine⟨?_,z⟩;rw[decide_eq_true (show 60000<Mw l by omega)]
    refine go ?_;exact FL (k+1,m+1+r.key.length+r.val.length) ⟨z,by omega,by omega,by omega⟩
   refine go ?_;have ha:k=a.l.length:=by omega
   subst ha;rw[AT]at hm;have hst:=PC HE hk;have haw:HE a=a.key.length+a.to.length+(a.l.map G5).sum:=rfl;exact FL (i+1,m) ⟨z,by omega,by omega,by omega,by omega⟩
  refine go ?_;have Y:i=60:=by omega
  subst Y;refine⟨?_,z⟩
  congr 2
  unfold Mw;rw[<-hn];exact decide_eq_decide.2 Fe
 refine go ?_;refine GS rfl (go ?_);have e:Mw l=n:=by unfold Mw;rw[hn,Av (show l.length<=60 by omega),Av (show l.length<=i by omega)]
 refine⟨?_,z⟩
 congr 2
 rw[e];exact decide_eq_decide.2 Fe
def Ycg (l m:List Rw)(v u:Value)(w:World)(hv:Fu Rw.cs 3 w v l)(hu:Fu Rw.cs 3 w u m)(hl:l.length<=1000000000)(hm:m.length<=1000000000) :
  FX 20 [v,u] w (B (decide (l=m))):=by
 refine cE Tryz.func20 λr=>FM 48 3 (hv.ext r).sl ?_;refine FM 48 3 (hu.ext r).sl ?_;refine Fk (λJ=>?_) λJ=>?_
 ·refine go ?_;refine⟨?_,r⟩;rw[decide_eq_false (λe=>by rw[e]at J;exact absurd rfl J)]
 refine F8 (G:=Nat) (λk=>[(0,v),(1,u),(5,I ↑k)]) (λk w'=>Fq w w'/\k<=l.length/\l.length=m.length/\l.take k=m.take k) (λk=>l.length-k) 0 ⟨r,Ab _,by omega,rfl⟩ ?_;rintro _ k w1 ⟨r,hk1,hle,he⟩;refine FM 48 3 (hv.ext r).sl ?_;refine Fk (λO=>?_) λO=>?_
 ·obtain⟨c,hk⟩:∃c,l[k]?=some c:=F7;obtain⟨d,hk2⟩:∃d,m[k]?=some d:=F7;refine Gt 1010001000 λw2 Y=>?_;have r:=r.trans Y;refine FN 48 3 hv.sl (hv.lt hk) ?_;refine Gh rfl (λw' hR=>Fx Ff rfl rfl ((hv.ext (r.trans hR)).row hk)) (FN 48 3 hu.sl (hu.lt hk2) ?_);refine Gh rfl (λw' hR=>Fx Ff rfl rfl ((hu.ext (r.trans hR)).row hk2)) (dp (X91 (ts:=[9,9,4]) Ff rfl rfl ⟨by kernel_rfl,by kernel_rfl,by kernel_rfl,trivial⟩ ⟨by kernel_rfl,by kernel_rfl,by kernel_rfl,trivial⟩) ?_);refine Gb (λz=>?_) λz=>?_
  ·refine go ?_;refine⟨?_,r⟩;rw[X9]at z;simp at z;rw[decide_eq_false (λe=>by rw[e,hk2]at hk;cases hk;exact z rfl)]
  refine go ?_;rw[X9]at z;refine FL (k+1) ⟨r,by omega,hle,?_⟩;rw[GW hk,GW hk2,he];simp at z;rw[z]
 refine go ?_;refine⟨?_,r⟩;rw[Av Fe,Av Fe]at he;rw[decide_eq_true he]
end Go.Proofs.YtiooodckiddpmaaGreatDoor
namespace Go.Proofs.YtiooodckiddpmaaGreatDoor.Em
open Go.Vc Go.Sp
attribute [local irreducible] W XW Dw GC
def HU : MapK Tryz.prog 120 9 123 S pO (λs=>s.length<=maxLen):=NH Ff Ff Sh
def Ych (w:World) :
  FX 262 [.slice none 0 0,I 0,I 0] w (.tuple #[]):=by
 refine cE Tryz.func262 λz=>F8 (G:=Unit) (λr=>[(0,.slice none 0 0),(1,I 0),(2,I 0),(6,I (0+1))]) (λr w'=>Fq w w'/\True) (λr=>0) () ⟨z,trivial⟩ ?_;rintro _ r w1 ⟨z,htr⟩;refine Fk (λJ=>?_) λJ=>?_
 ·exact absurd J Fo
 refine go ?_;refine Ig (H6 rfl ?_);exact⟨rfl,z⟩
def X9e (w:World) :
  FX 272 [.int .u64 0] w (I 0):=by
 refine cE Tryz.func272 λO=>go ?_;refine dp (HY rfl rfl) ?_;refine Fk (λJ=>?_) λJ=>?_
 ·exact absurd J Fo
 refine go ?_;refine dp (HY rfl rfl) ?_;refine Fk (λr=>?_) λr=>?_
 ·exact absurd r Fo
 refine go ?_;refine dp (HY rfl rfl) ?_;refine Fk (λz=>?_) λz=>?_
 ·exact absurd z Fo
 refine go ?_;refine dp (NN rfl Ff Ff) (dp (X1o (c:=0) Ff rfl rfl rfl) (dp (X1b rfl Ff Ff) (dp (GK (a:=0) (b:=0) rfl rfl (by simp [Ge])) (go ?_))));exact⟨rfl,O⟩
def Yci (w:World) :
  FX 204 [.int .u64 0] w (I 0):=by
 refine cE Tryz.func204 λr=>go ?_;refine GS rfl (Gs (X9e _) λw1 z=>?_);have r:=r.trans z;refine go ?_;exact⟨rfl,r⟩
def Ycj (w:World) :
  FX 203 [.slice none 0 0,I 0,I 0,I 0] w (.tuple #[]):=by
 refine cE Tryz.func203 λr=>F8 (G:=Unit) (λz=>[(0,.slice none 0 0),(1,I 0),(2,I 0)]) (λz w'=>Fq w w'/\True) (λz=>0) () ⟨r,trivial⟩ ?_;rintro _ z w1 ⟨r,htr⟩;refine go ?_;refine dp (IJ rfl rfl) ?_;refine Fk (λJ=>?_) λJ=>?_
 ·refine Gs (Ych _) λw2 O=>?_;have r:=r.trans O;refine go ?_;refine H6 rfl ?_;exact⟨rfl,r⟩
 exact absurd J Fo
def X9f (w:World) :
  FX 132 [.slice none 0 0] w (.tuple #[]):=by
 refine cE Tryz.func132 λr=>FM 9 1 (Fu.nil (enc:=GF) (sz:=1) (w:=w)).sl ?_;refine go ?_;refine dp (Kf (k:=.u64) rfl Ff Ff) (cP (Yci _) RX.all λw1 J=>?_);have r:=r.trans J;refine cP (Ycj _) RX.all λw2 z=>?_;have r:=r.trans z;refine go ?_;refine Ig (H6 rfl ?_);exact⟨rfl,r⟩
def X3o (b ly:Nat)(mv:Value)(J:Nat->World->Prop)(w:World)(hJ:∀k W,J k W->Fp W b [mv] 120/\Ib W mv)(hE:∀k W W',J k W->Fq W W'->J k W')(hj:J 0 w) :
  Calls Tryz.prog 133 [.func (.yield ly) #[] #[],Fh b 0].toArray w (λe W'=>(∃v,e=.returned v)/\J 0 W'):=by
 refine Xu Tryz.func133 rfl rfl rfl Ff ?_;have O:=Fq.refl w;obtain⟨hb,hv⟩:=hJ _ _ hj;refine NR λK1 Z1=>PB [.l,.x] rfl (dl rfl (hb.at rfl) (X1q Ff rfl rfl hv RX.all (λb1 w1 e1 x1 r=>?_)));have g1:=O.ge e1;have O:=O.trans x1;refine Pr (Z1 _ _ _ (Yn ?_));refine X6q (G:=Unit) (λY=>[(0,.func (.yield ly) #[] #[]),(5,Fh b1 0)]) (λY w'=>Fq w w'/\Qr w' b1/\True) (λY=>0) () ?_ ?_ ?_
 ·exact L9
 ·exact⟨O,r,trivial⟩
 intro X2 g2 w2 z;revert z;revert g2;intro Y z;clear O r;obtain⟨O,r,htr⟩:=z;refine NR λK2 Z2=>PB [.x,.p] rfl (X6t rfl rfl r RX.all (dx rfl rfl (Pr (Z2 _ _ _ (NR λK3 Z3=>Yee rfl (X6o ?_))))));dsimp only [Si,Q9];refine Xwc (H6 rfl ?_);exact⟨⟨_,rfl⟩,hE _ _ _ hj O⟩
def X9g (mv:Value)(w:World)(hv:Ib w mv) :
  Gi 67 [mv] w λu w'=>∃b,u=J2 133 [Fh b 0]/\Fp w' b [mv] 120:=by
 refine cE Tryz.func67 λr=>go ?_;refine G1 rfl rfl (Xwg hv) RX.all (λb1 w1 e1 z J=>?_);have g1:=r.ge e1;have r:=r.trans z;refine go ?_;refine dp (Pm rfl) (go ?_);exact⟨_,rfl,r,b1,rfl,J⟩
def Xpk (bk:Nat)(mv:Value)(w:World)(hk:Fp w bk [mv] 120)(hv:Ib w mv) :
  Calls Tryz.prog 202 [.slice none 0 0,J2 133 [Fh bk 0]].toArray w (Pure w (.slice none 0 0)):=by
 refine Xu Tryz.func202 rfl rfl rfl Ff ?_;have r:=Fq.refl w;refine NR λK1 Z1=>PB [.x,.p] rfl (G1 rfl rfl rfl RX.all (λb1 w1 e1 x1 Y=>?_));have g1:=r.ge e1;have r:=r.trans x1;refine da ?_;refine Pr (Z1 _ _ _ (NR λK2 Z2=>NR λK3 Z3=>PB [.p] rfl (dm ?_)));refine Pr (Z3 _ _ _ (Yn ?_));have O:(Fq w w1/\Fp w1 b1 [.slice none 0 0] 58/\Fp w1 bk [mv] 120/\Ib w1 mv):=⟨r,Y,hk.ext r,hv.ext r⟩;have hx3:=r.size;have hbk:=hk.lt;have hb1:=Y.lt;refine X1k (gf:=133) (N:=0) (lb:=#[Fh bk 0]) (args:=λk=>[S []]) rfl Ff (λ_=>rfl) (λk W=>(Fq w W/\Fp W b1 [.slice none 0 0] 58/\Fp W bk [mv] 120/\Ib W mv)) (λk E1 W=>False) O ?hX ?hL ?hAL ?hit ?assign ?body ?h
 case hX=>
  rintro k W W' ⟨h1,h2,h3,h4⟩ x;exact⟨h1.trans x,h2.ext x,h3.ext x,h4.ext x⟩
 case hL=>
  rintro k W l' o o' ⟨h1,h2,h3,h4⟩ hle hl ho;have:=r.size;exact⟨h1.own (Mod.putObj W l' o') (λi hi=>by have hc:i=l':=hi;omega),h2.put o' hl ho,h3.put o' hl ho,h4.imp (λh=>h) λ⟨b,e,hb⟩=>⟨b,e,hb.mod (Mod.putObj W l' o') (λe2=>by have e3:b=l':=e2;have h9:=hv.lt e;omega)⟩⟩
 case hAL=>exact λk E1 W l' o o' h=>h.elim
 case hit=>
  intro ly J z hf hY W hj;exact X3o bk ly mv J W (λk W h=>⟨(z k W h).2.2.1,(z k W h).2.2.2⟩) hf hj
 case assign=>exact λk l W hk=>absurd hk (Bh k)
 case body=>exact λk l E1 W keep hk=>absurd hk (Bh k)
 case h=>
  intro D w8 hD hI ha;clear r Y O;obtain⟨r,Y,-,-⟩:=hI;refine Z2 _ _ _ (NR λK4 Z4=>PB [.l,.p] rfl (dl rfl (Y.at rfl) (da ?_)));refine Pr (Z4 _ _ _ (X97 ?_));refine Xwd ha (ro ?_);have hxs:=r.size;exact⟨rfl,r.own (Mod.putObj _ D _) (λi hi=>by have hc:i=D:=hi;omega)⟩
def Xu1 (bk:Nat)(mv:Value)(w:World)(hk:Fp w bk [mv] 120)(hv:Ib w mv) :
  FX 131 [J2 133 [Fh bk 0]] w (.slice none 0 0):=by
 refine cE Tryz.func131 λr=>Gs (Xpk bk mv _ (hk.ext r) (hv.ext r)) λw1 z=>?_;have r:=r.trans z;refine go ?_;exact⟨rfl,r⟩
def X0c (bk:Nat)(mv:Value)(w:World)(hk:Fp w bk [mv] 120)(hv:Ib w mv) :
  FX 66 [J2 133 [Fh bk 0]] w (.slice none 0 0):=by
 refine cE Tryz.func66 λr=>Gs (Xu1 bk mv _ (hk.ext r) (hv.ext r)) λw1 J=>?_;have r:=r.trans J;refine Gs (X9f _) λw2 z=>?_;have r:=r.trans z;refine go ?_;exact⟨rfl,r⟩
def J5 (bd mf:Nat)(room:Int)(w:World)(hd:Fp w bd [I room,.map (some mf),B false,I 0] 122)(hm:Gv w mf) :
  FX 28 [Fh bd 0] w (.slice none 0 0):=by
 refine cE Tryz.func28 λr=>go ?_;refine dp (GY Ff rfl rfl) ?_;refine Fk (λJ=>?_) λJ=>?_
 ·exact absurd J F0
 refine Gj (X9g (.map (some mf)) _ (hm.ext r).val) λu1 w1 O z=>?_;have hsz1:=r.size;have r:=r.trans O;obtain⟨bk,rfl,hk⟩:=z;refine cP (X0c bk _ _ hk (hm.ext r).val) RX.all λw2 Y=>?_;have r:=r.trans Y;refine go ?_;exact⟨rfl,r⟩
def X3p (s:Fj)(w:World) :
  FX 201 [.slice none 0 0,S s] w (I (-1)):=by
 refine cE Tryz.func201 λz=>FM 9 1 (Fu.nil (enc:=GF) (sz:=1) (w:=w)).sl ?_;refine F8 (G:=Unit) (λr=>[(0,.slice none 0 0),(1,S s),(7,I 0),(8,I 0)]) (λr w'=>Fq w w'/\True) (λr=>0) () ⟨z,trivial⟩ ?_;rintro _ r w1 ⟨z,htr⟩;refine Fk (λJ=>?_) λJ=>?_
 ·exact absurd J Fo
 refine go ?_;exact⟨rfl,z⟩
def Xrb (s:Fj)(w:World) :
  FX 130 [.slice none 0 0,S s] w (B false):=by
 refine cE Tryz.func130 λr=>Gs (X3p s _) λw1 z=>?_;have r:=r.trans z;refine dp (HY rfl rfl) (go ?_);exact⟨rfl,r⟩
def KO (bd mf:Nat)(room:Int)(s:Fj)(w:World)(hd:Fp w bd [I room,.map (some mf),B false,I 0] 122)(hm:Gv w mf) :
  FX 189 [Fh bd 0,S s] w (B false):=by
 refine cE Tryz.func189 λr=>Gs (J5 bd mf room _ (hd.ext r) (hm.ext r)) λw1 J=>?_;have r:=r.trans J;refine Gs (Xrb s _) λw2 z=>?_;have r:=r.trans z;refine go ?_;exact⟨rfl,r⟩
def IF (bd mf:Nat)(room:Int)(l:List Fj)(v:Value)(w:World)(hd:Fp w bd [I room,.map (some mf),B false,I 0] 122)(hm:Gv w mf)(hv:Fu GF 1 w v l)(hl:l.length<=1000) :
  FX 178 [Fh bd 0,v] w (I 0):=by
 refine cE Tryz.func178 λr=>FM 9 1 hv.sl ?_;refine F8 (G:=Nat) (λk=>[(0,Fh bd 0),(8,v),(9,I ↑l.length),(10,I ↑k)]) (λk w'=>Fq w w'/\k<=l.length) (λk=>l.length-k) 0 ⟨r,Ab _⟩ ?_;rintro _ k w1 ⟨r,hk1⟩;refine Fk (λJ=>?_) λJ=>?_
 ·obtain⟨s,hk⟩:∃s,l[k]?=some s:=F7;refine FN 9 1 hv.sl (hv.lt hk) ?_;refine dl rfl (((hv.ext r).row hk).at0 rfl) (Gs (KO bd mf room s _ (hd.ext r) (hm.ext r)) λw2 z=>?_);have r:=r.trans z;refine go ?_;refine GU rfl (go ?_);refine FL (k+1) ⟨r,by omega⟩
 refine go ?_;exact⟨rfl,r⟩
def K8 (bd mf:Nat)(room:Int)(s:Fj)(w:World)(hd:Fp w bd [I room,.map (some mf),B false,I 0] 122)(hm:Gv w mf)(hs:s.length<=maxLen) :
  FX 190 [Fh bd 0,S s] w (.tuple #[.slice none 0 0,I 7]):=by
 refine cE Tryz.func190 λO=>?_;have r:Vc.Xbd Tryz.prog 9 S pO w mf 0 (λ_=>none):=hm.at;refine go ?_;refine dp (GY Ff rfl rfl) ?_;refine FJ 8 (λJ=>?_) λJ=>?_
 ·exact absurd J F0
 refine go ?_;refine dq (M9 HU (kx:=s) (z0:=none) rfl rfl Ff r hs) (dp (GY Ff rfl rfl) ?_);refine Fk (λz=>?_) λz=>?_
 ·refine go ?_;exact⟨rfl,O⟩
 exact absurd rfl z
def Yck (bd mf:Nat)(room:Int)(s:Fj)(w:World)(hd:Fp w bd [I room,.map (some mf),B false,I 0] 122)(hm:Gv w mf)(hs:s.length<=maxLen) :
  FX 123 [Fh bd 0,S s] w (.tuple #[.slice none 0 0,I 7]):=by
 refine cE Tryz.func123 λr=>go ?_;refine dp (GY Ff rfl rfl) ?_;refine Fk (λJ=>?_) λJ=>?_
 ·exact absurd J F0
 refine Gs (K8 bd mf room s _ (hd.ext r) (hm.ext r) hs) λw1 O=>?_;have r:=r.trans O;refine Fk (λz=>?_) λz=>?_
 ·refine go ?_;exact⟨rfl,r⟩
 exact absurd z Fo
def HJ (bl bd:Nat)(w:World)(hl:Fp w bl [Fh bd 0,S [115],I 0,.slice none 0 0,.slice none 0 0,B false] 147) :
  FX 177 [Fh bl 0] w (S [115,45,105,109,103]):=by
 refine cE Tryz.func177 λr=>go ?_;refine dp (I6 rfl rfl (by simp;done)) (go ?_);exact⟨rfl,r⟩
def Ha (bl bd:Nat)(w:World)(hl:Fp w bl [Fh bd 0,S [115],I 0,.slice none 0 0,.slice none 0 0,B false] 147) :
  FX 84 [Fh bl 0] w (S [115,45,108,111,103]):=by
 refine cE Tryz.func84 λr=>go ?_;refine dp (I6 rfl rfl (by simp;done)) (go ?_);exact⟨rfl,r⟩
def X3q (bl bd mf:Nat)(room:Int)(w:World)(hl:Fp w bl [Fh bd 0,S [115],I 0,.slice none 0 0,.slice none 0 0,B false] 147)(hd:Fp w bd [I room,.map (some mf),B false,I 0] 122)(hm:Gv w mf) :
  FX 115 [Fh bl 0] w (I 0):=by
 refine cE Tryz.func115 λr=>Gt 10520201000 λw1 O=>?_;have r:=r.trans O;refine go ?_;refine dL rfl (λ_ hR=>((hl.ext (r.trans hR)).at rfl)) (go ?_);refine cP (HJ bl bd _ (hl.ext r)) RX.ext λw2 x2=>?_;have r:=r.trans x2;refine dp (I6 rfl rfl (by simp;done)) (li (e:=9) (sz:=1) (zs:=[S []]) (pv:=[(0,_)]) (cs:=[_]) RX.ext (λb1 w3 e1 J Y=>?_));have g1:=r.ge e1;have r:=r.trans J;refine cP (IF bd mf room [[115,45,105,109,103]++[126]] _ _ (hd.ext r) (hm.ext r) (Y.arr (enc:=GF) (sz:=1) rfl Fg rfl F0) F0) RX.all λw4 z=>?_;have r:=r.trans z;refine go ?_;exact⟨rfl,r⟩
def X9h (bl bd mf:Nat)(room:Int)(w:World)(hl:Fp w bl [Fh bd 0,S [115],I 0,.slice none 0 0,.slice none 0 0,B false] 147)(hd:Fp w bd [I room,.map (some mf),B false,I 0] 122)(hm:Gv w mf) :
  FX 116 [Fh bl 0] w (I 0):=by
 refine cE Tryz.func116 λr=>Gt 1000005201000 λw1 O=>?_;have r:=r.trans O;refine go ?_;refine dL rfl (λ_ hR=>((hl.ext (r.trans hR)).at rfl)) (go ?_);refine cP (HJ bl bd _ (hl.ext r)) RX.ext λw2 Y=>?_;have r:=r.trans Y;refine cP (Yck bd mf room [115,45,105,109,103] _ (hd.ext r) (hm.ext r) Fo) RX.all λw3 J=>?_;have r:=r.trans J;refine Fk (λz=>?_) λz=>?_
 ·refine go ?_;exact⟨rfl,r⟩
 exact absurd rfl z
def Ydy (bl bd mf:Nat)(room:Int)(w:World)(hl:Fp w bl [Fh bd 0,S [115],I 0,.slice none 0 0,.slice none 0 0,B false] 147)(hd:Fp w bd [I room,.map (some mf),B false,I 0] 122)(hm:Gv w mf) :
  FX 117 [Fh bl 0] w (I 0):=by
 refine cE Tryz.func117 λr=>Gt 105201000 λw1 J=>?_;have r:=r.trans J;refine go ?_;refine dL rfl (λ_ hR=>((hl.ext (r.trans hR)).at rfl)) (go ?_);refine cP (Ha bl bd _ (hl.ext r)) RX.ext λw2 O=>?_;have r:=r.trans O;refine cP (KO bd mf room [115,45,108,111,103] _ (hd.ext r) (hm.ext r)) RX.all λw3 z=>?_;have r:=r.trans z;refine go ?_;refine GU rfl (go ?_);exact⟨rfl,r⟩
def X3r (w:World) :
  FX 87 [.slice none 0 0] w (.slice none 0 0):=by
 refine cE Tryz.func87 λz=>go ?_;refine dp (PO (e:=5) (k:=1) Ff (Fu.nil (enc:=Fs) (sz:=1) (w:=w)).sl rfl rfl) ?_;refine Gb (λr=>?_) λr=>?_
 ·refine go ?_;exact⟨rfl,z⟩
 exact absurd r Fo
def V0 (bl bd:Nat)(w:World)(hl:Fp w bl [Fh bd 0,S [115],I 0,.slice none 0 0,.slice none 0 0,B false] 147) :
  FX 60 [Fh bl 0] w (.tuple #[I 0,.slice none 0 0]):=by
 refine cE Tryz.func60 λr=>go ?_;refine dp (GY Ff rfl rfl) ?_;refine Fk (λz=>?_) λz=>?_
 ·exact absurd z F0
 refine Gt 100210001000 λw1 J=>?_;have r:=r.trans J;refine go ?_;refine dL rfl (λ_ hR=>((hl.ext (r.trans hR)).at rfl)) (go ?_);refine dL rfl (λ_ hR=>((hl.ext (r.trans hR)).at rfl)) (cP (X3r _) RX.ext λw2 O=>?_);have r:=r.trans O;refine go ?_;exact⟨rfl,r⟩
def HC (bl bd:Nat)(w:World)(hl:Fp w bl [Fh bd 0,S [115],I 0,.slice none 0 0,.slice none 0 0,B false] 147) :
  FX 55 [Fh bl 0] w (I 0):=by
 refine cE Tryz.func55 λr=>go ?_;refine dp (GY Ff rfl rfl) ?_;refine Fk (λz=>?_) λz=>?_
 ·exact absurd z F0
 refine Gt 100010001000 λw1 J=>?_;have r:=r.trans J;refine go ?_;refine dL rfl (λ_ hR=>((hl.ext (r.trans hR)).at rfl)) (go ?_);refine dL rfl (λ_ hR=>((hl.ext (r.trans hR)).at rfl)) (dv 82 1 (Fu.nil (enc:=GF) (sz:=3) (w:=w)).sl (dp (GK rfl rfl (by simp [Ge])) (go ?_)));exact⟨rfl,r⟩
def diskNew_w (room:Int)(w:World)(h0:0<=room)(h1:room<=1073741824) :
  Gi 33 [I room] w λu w'=>∃bd mf,u=.tuple #[Fh bd 0,I 0]/\Fp w' bd [I room,.map (some mf),B false,I 0] 122/\Gv w' mf/\w.heap.size<=bd/\w.heap.size<=mf:=by
 refine cE Tryz.func33 λz=>?_;refine FJ 6 (λJ=>?_) λJ=>?_
 ·omega
 refine Fk (λc2=>?_) λc2=>?_
 ·omega
 refine go ?_;refine VA rfl RX.all (λb1 w1 e1 O r=>?_);have g1:=z.ge e1;have z:=z.trans O;refine db (zs:=[.int .i64 0,.map none,B false,.int .i64 0]) (pl:=[(0,1),(1,1),(2,1),(3,1)]) (pv:=[(0,_),(1,_)]) (cs:=[_,_,B false,.int .i64 0]) ?_;refine G1 rfl rfl rfl RX.all (λb2 w2 e2 Y m2=>?_);have g2:=z.ge e2;have n2_mp1:=r.lt;refine Fy Y r z λr z=>go ?_;exact⟨_,rfl,z,b2,b1,rfl,m2,r,g2,g1⟩
def Xpl (bd mf:Nat)(room:Int)(w:World)(hd:Fp w bd [I room,.map (some mf),B false,I 0] 122)(hm:Gv w mf) :
  Gi 59 [Fh bd 0,S [115]] w λu w'=>∃bl,u=.tuple #[Fh bl 0,I 0]/\Fp w' bl [Fh bd 0,S [115],I 0,.slice none 0 0,.slice none 0 0,B false] 147/\w.heap.size<=bl:=by
 refine cE Tryz.func59 λr=>go ?_;refine dp (GY Ff rfl rfl) ?_;refine FJ 12 (λO=>?_) λO=>?_
 ·exact absurd O F0
 refine FJ 17 (λY=>?_) λY=>?_
 ·exact absurd Y Fo
 refine Fk (λc3=>?_) λc3=>?_
 ·exact absurd c3 Fo
 refine go ?_;refine db (zs:=[.pointer none,S [],.int .i64 0,.slice none 0 0,.slice none 0 0,B false]) (pl:=[(0,1),(1,1),(2,1),(3,1),(4,1),(5,1)]) (pv:=[(0,_),(1,_)]) (cs:=[_,_,.int .i64 0,.slice none 0 0,.slice none 0 0,B false]) ?_;refine G1 rfl rfl rfl RX.all (λb1 w1 e1 x1 z=>?_);have g1:=r.ge e1;have r:=r.trans x1;refine go ?_;refine dp (TH rfl) (go ?_);refine dp (TH rfl) (go ?_);refine dp (TH rfl) (li (e:=81) (sz:=1) (zs:=[.nilFunc]) (pv:=[(0,_),(1,_),(2,_)]) (cs:=[_,_,_]) RX.all (λb2 w2 e2 x2 J=>?_));have g2:=r.ge e2;have n2_1:=z.ltb e2;refine Fy x2 z r λz r=>dv 81 1 (J.arr (enc:=λg:Value=>[g]) (sz:=1) (l:=[Jr 115 [Fh b1 0],Jr 116 [Fh b1 0],Jr 117 [Fh b1 0]]) rfl Fg rfl F0).sl (F8 (G:=Nat) (λk=>[(6,Fh b1 0),(32,.slice (some ⟨b2,0,none⟩) 3 3),(33,I 3),(34,I ↑k)]) (λk w'=>Fq w w'/\Fp w' b1 [Fh bd 0,S [115],I 0,.slice none 0 0,.slice none 0 0,B false] 147/\Fp w' b2 [Jr 115 [Fh b1 0],Jr 116 [Fh b1 0],Jr 117 [Fh b1 0]] 81/\k<=3) (λk=>3-k) 0 ⟨r,z,J,Ab _⟩ ?_);rintro _ k w3 ⟨r,z,J,hk1⟩;refine Fk (λc4=>?_) λc4=>?_
 ·obtain⟨g,hk⟩:∃g,[Jr 115 [Fh b1 0],Jr 116 [Fh b1 0],Jr 117 [Fh b1 0]][k]?=some g:=⟨_,Aq Gx⟩;obtain⟨f,rfl,hcb,hcall⟩:∃f,g=Jr f [Fh b1 0]/\Hr Tryz.prog f=true/\∀w1,Fp w1 b1 [Fh bd 0,S [115],I 0,.slice none 0 0,.slice none 0 0,B false] 147->Fp w1 bd [I room,.map (some mf),B false,I 0] 122->Gv w1 mf->Calls Tryz.prog f ([Fh b1 0]++[]).toArray w1 (Pure w1 (I 0)):=by
   match k,hk with
   | 0,hk=>simp only [Dt,CW,Am.injEq]at hk;exact⟨_,hk.symm,by kernel_rfl,λw1 h1 h2 h3=>X3q b1 bd mf room w1 h1 h2 h3⟩
   | 1,hk=>simp only [Dt,CW,Am.injEq]at hk;exact⟨_,hk.symm,by kernel_rfl,λw1 h1 h2 h3=>X9h b1 bd mf room w1 h1 h2 h3⟩
   | 2,hk=>simp only [Dt,CW,Am.injEq]at hk;exact⟨_,hk.symm,by kernel_rfl,λw1 h1 h2 h3=>Ydy b1 bd mf room w1 h1 h2 h3⟩
   | k+3,hk=>simp at hk
  refine go ?_;refine di 81 1 (J.arr (enc:=λg:Value=>[g]) (sz:=1) (l:=[Jr 115 [Fh b1 0],Jr 116 [Fh b1 0],Jr 117 [Fh b1 0]]) rfl Fg rfl F0).sl rfl ((J.arr (enc:=λg:Value=>[g]) (sz:=1) (l:=[Jr 115 [Fh b1 0],Jr 116 [Fh b1 0],Jr 117 [Fh b1 0]]) rfl Fg rfl F0).lt hk) (dl rfl (((J.arr (enc:=λg:Value=>[g]) (sz:=1) (l:=[Jr 115 [Fh b1 0],Jr 116 [Fh b1 0],Jr 117 [Fh b1 0]]) rfl Fg rfl F0).row hk).at0 rfl) (go ?_));refine X1p (vs:=[]) rfl rfl hcb (hcall _ z (hd.ext r) (hm.ext r)) rfl RX.all (λw4 x4=>FC x4 z J r λz J r=>?_);refine Fk (λc5=>?_) λc5=>?_
  ·exact absurd rfl c5
  refine go ?_;refine FL (k+1) ⟨r,z,J,by omega⟩
 refine go ?_;exact⟨_,rfl,r,b1,rfl,z,g1⟩
structure MemE (w:World)(bm ba bn:Nat):Prop where
 m:Fp w bm [.slice (some ⟨ba,0,none⟩) 1 1,.slice none 0 0,I 0,I 0] 155
 a:Fp w ba [S [],S [],B false,I 0,.slice (some ⟨bn,0,none⟩) 12 12] 172
 n:Fp w bn (Ap 12 (I 0)) 3
def MemE.ext {w w':World}{bm ba bn:Nat}(h:MemE w bm ba bn)(x:Fq w w'):MemE w' bm ba bn:=⟨h.m.ext x,h.a.ext x,h.n.ext x⟩
instance {w w':World} {bm ba bn:Nat} : Up w w' (MemE w bm ba bn) (MemE w' bm ba bn):=⟨λx h=>h.ext x⟩
structure StE (w:World)(bs bd bl mo bm ba bn mf:Nat)(room:Int):Prop where
 s:Fp w bs [Fh bd 0,Fh bl 0,I 1,.slice none 0 0,.map (some mo),Fh bm 0,B false] 90
 l:Fp w bl [Fh bd 0,S [115],I 0,.slice none 0 0,.slice none 0 0,B false] 147
 d:Fp w bd [I room,.map (some mf),B false,I 0] 122
 f:Gv w mf
 o:Gv w mo
 m:MemE w bm ba bn
def RL (w:World) :
  FX 102 [.slice none 0 0] w (.slice none 0 0):=by
 refine cE Tryz.func102 λz=>go ?_;refine dp (PO (e:=174) (k:=1) Ff (Fu.nil (enc:=Fs) (sz:=1) (w:=w)).sl rfl rfl) ?_;refine Gb (λr=>?_) λr=>?_
 ·refine go ?_;exact⟨rfl,z⟩
 exact absurd r Fo
def X3s (w:World) :
  Gi 47 [.slice none 0 0] w λu w'=>∃bm ba bn,u=Fh bm 0/\MemE w' bm ba bn/\w.heap.size<=bm/\w.heap.size<=ba/\w.heap.size<=bn:=by
 refine cE Tryz.func47 λr=>go ?_;refine KK (R:=Fq) Fq.refl (λ_ _ _=>Fq.trans) Ff [] (.one 3 .p false (.fork (.alt 0 true (.one 1 .p false (.fork (.alt 2 true (.one 4 .x true (.one 5 .p false (.one 6 .x true (.one 7 .p false .nil)))) (.alt 4 true (.one 2 .x true (.one 5 .p false (.one 6 .x true (.one 7 .p false .nil)))) .stop)))) (.alt 4 true (.one 0 .x true (.one 1 .p false (.one 2 .x true (.one 5 .p false (.one 6 .x true (.one 7 .p false .nil)))))) .stop)))) Ff Ff (λw1 Y=>?_);have x1:=FE Y;clear Y;have r:=r.trans x1;refine go ?_;refine Ji ?_;refine Hk ?_ ?_
 ·refine Mu (e:=3) (sz:=1) (by':=8) (zs:=[.int .i64 0]) rfl Ff Ff Ff rfl rfl Fo Fo RX.all (λb1 w2 e1 x2 z=>?_);have g1:=r.ge e1;have r:=r.trans x2;refine go ?_;refine db (zs:=[S [],S [],B false,.int .i64 0,.slice none 0 0]) (pl:=[(0,4),(4,1)]) (pv:=[(1,_)]) (cs:=[S [],S [],B false,.int .i64 0,_]) ?_;refine go ?_;refine Ji ?_;refine Hk ?_ ?_
  ·refine lA 172 rfl λb2 w3 e2 x3 O=>?_;have g2:=r.ge e2;have n2_1:=z.ltb e2;refine Fy x3 z r λz r=>Gs (RL _) λw4 x4=>FC x4 z O r λz O r=>?_;refine go ?_;refine db (zs:=[.slice none 0 0,.slice none 0 0,.int .i64 0,.int .i64 0]) (pl:=[(0,1),(1,1),(2,1),(3,1)]) (pv:=[(0,_),(1,_)]) (cs:=[_,_,.int .i64 0,.int .i64 0]) ?_;refine go ?_;refine G1 rfl rfl rfl RX.all (λb3 w5 e3 x5 m3=>?_);have g3:=r.ge e3;have n3_1:=z.ltb e3;have n3_2:=O.ltb e3;refine FC x5 z O r λz O r=>go ?_;exact⟨_,rfl,r,b3,b2,b1,rfl,⟨m3,O,z⟩,g3,g2,g1⟩
  refine Hk ?_ ?_
  ·refine cP (RL _) RX.all λw6 x6=>Fy x6 z r λz r=>go ?_;refine lA 172 rfl λb4 w7 e4 x7 m4=>?_;have g4:=r.ge e4;have n4_1:=z.ltb e4;refine Fy x7 z r λz r=>go ?_;refine db (zs:=[.slice none 0 0,.slice none 0 0,.int .i64 0,.int .i64 0]) (pl:=[(0,1),(1,1),(2,1),(3,1)]) (pv:=[(0,_),(1,_)]) (cs:=[_,_,.int .i64 0,.int .i64 0]) ?_;refine go ?_;refine G1 rfl rfl rfl RX.all (λb5 w8 e5 x8 m5=>?_);have g5:=r.ge e5;have n5_1:=z.ltb e5;have n5_4:=m4.ltb e5;refine FC x8 z m4 r λz m4 r=>go ?_;exact⟨_,rfl,r,b5,b4,b1,rfl,⟨m5,m4,z⟩,g5,g4,g1⟩
  exact Jh
 refine Hk ?_ ?_
 ·refine cP (RL _) RX.all λw9 x9=>?_;have r:=r.trans x9;refine go ?_;refine Mu (e:=3) (sz:=1) (by':=8) (zs:=[.int .i64 0]) rfl Ff Ff Ff rfl rfl Fo Fo RX.all (λb6 w10 e6 hf J=>?_);have g6:=r.ge e6;have r:=r.trans hf;refine go ?_;refine db (zs:=[S [],S [],B false,.int .i64 0,.slice none 0 0]) (pl:=[(0,4),(4,1)]) (pv:=[(1,_)]) (cs:=[S [],S [],B false,.int .i64 0,_]) ?_;refine go ?_;refine lA 172 rfl λb7 w11 e7 hc m7=>?_;have g7:=r.ge e7;have n7_6:=J.ltb e7;refine Fy hc J r λJ r=>go ?_;refine db (zs:=[.slice none 0 0,.slice none 0 0,.int .i64 0,.int .i64 0]) (pl:=[(0,1),(1,1),(2,1),(3,1)]) (pv:=[(0,_),(1,_)]) (cs:=[_,_,.int .i64 0,.int .i64 0]) ?_;refine go ?_;refine G1 rfl rfl rfl RX.all (λb8 w12 e8 ha m8=>?_);have g8:=r.ge e8;have n8_6:=J.ltb e8;have n8_7:=m7.ltb e8;refine FC ha J m7 r λJ m7 r=>go ?_;exact⟨_,rfl,r,b8,b7,b6,rfl,⟨m8,m7,J⟩,g8,g7,g6⟩
 exact Jh
def X0d (bs bd bl mo bm:Nat)(w:World)(hb:Fp w bs [Fh bd 0,Fh bl 0,I 1,.slice none 0 0,.map (some mo),Fh bm 0,B false] 90)(hl:Fp w bl [Fh bd 0,S [115],I 0,.slice none 0 0,.slice none 0 0,B false] 147) :
  FX 63 [Fh bs 0] w (I 0):=by
 refine cE Tryz.func63 λr=>Gs (V0 bl bd _ (hl.ext r)) λw1 Y=>?_;have r:=r.trans Y;refine F8 (G:=Unit) (λz=>[(0,Fh bs 0),(5,I 1)]) (λz w'=>Fq w w'/\True) (λz=>0) () ⟨r,trivial⟩ ?_;rintro _ z w2 ⟨r,htr⟩;refine go ?_;refine dl rfl ((hb.ext r).at rfl) (cP (HC bl bd _ (hl.ext r)) RX.all λw3 O=>?_);have r:=r.trans O;refine dp (IJ rfl rfl) ?_;refine Fk (λJ=>?_) λJ=>?_
 ·exact absurd J Fo
 refine go ?_;exact⟨rfl,r⟩
def X9i (bd mf:Nat)(room:Int)(s:Fj)(w:World)(hd:Fp w bd [I room,.map (some mf),B false,I 0] 122)(hm:Gv w mf) :
  FX 64 [Fh bd 0,S s,.slice none 0 0] w (I 0):=by
 refine cE Tryz.func64 λr=>go ?_;refine dp (GY Ff rfl rfl) ?_;refine Fk (λO=>?_) λO=>?_
 ·exact absurd O F0
 refine Gs (J5 bd mf room _ (hd.ext r) (hm.ext r)) λw1 Y=>?_;have r:=r.trans Y;refine dv 9 1 (Fu.nil (enc:=GF) (sz:=1) (w:=w)).sl (F8 (G:=Unit) (λz=>[(0,Fh bd 0),(1,S s),(2,.slice none 0 0),(13,.slice none 0 0),(14,I 0),(15,I 0)]) (λz w'=>Fq w w'/\True) (λz=>0) () ⟨r,trivial⟩ ?_);rintro _ z w2 ⟨r,htr⟩;refine Fk (λJ=>?_) λJ=>?_
 ·exact absurd J Fo
 refine go ?_;exact⟨rfl,r⟩
def lsmOpen_w (bd mf:Nat)(room:Int)(w:World)(hd:Fp w bd [I room,.map (some mf),B false,I 0] 122)(hm:Gv w mf) :
  Gi 24 [Fh bd 0] w λu w'=>∃bs bl mo bm ba bn,u=.tuple #[Fh bs 0,I 0]/\StE w' bs bd bl mo bm ba bn mf room/\w.heap.size<=bs/\w.heap.size<=bl/\w.heap.size<=mo/\w.heap.size<=bm/\w.heap.size<=ba/\w.heap.size<=bn:=by
 refine cE Tryz.func24 λr=>go ?_;refine dp (GY Ff rfl rfl) ?_;refine Fk (λc1=>?_) λc1=>?_
 ·exact absurd c1 F0
 refine go ?_;have ha:=r.size;refine cG (Xpl bd mf room _ (hd.ext r) (hm.ext r)) RX.all λu1 w1 x1 hh=>?_;have hsz1:=r.size;have r:=r.trans x1;obtain⟨bl,rfl,J,hj⟩:=hh;refine Fk (λc2=>?_) λc2=>?_
 ·exact absurd rfl c2
 refine go ?_;refine db (zs:=[.int .i64 0,.slice none 0 0]) (pl:=[(0,1),(1,1)]) (pv:=[(0,_)]) (cs:=[_,.slice none 0 0]) ?_;refine VA rfl RX.all (λb1 w2 e1 x2 z=>?_);have g1:=r.ge e1;have a1_hl:=J.lt;refine Fy x2 J r λJ r=>?_;have Y:=r.size;refine cG (X3s _) RX.all λu3 w3 x3 hf=>?_;have hsz3:=r.size;refine FC x3 J z r λJ z r=>?_;obtain⟨bm,ba,bn,rfl,O,hc,hg,hp⟩:=hf;refine db (zs:=[.pointer none,.pointer none,.int .i64 0,.slice none 0 0,.map none,.pointer none,B false]) (pl:=[(0,1),(1,1),(2,2),(4,1),(5,1),(6,1)]) (pv:=[(0,_),(1,_),(2,.agg ⟨[_,_]⟩),(3,_),(4,_)]) (cs:=[_,_,_,_,_,_,B false]) ?_;refine G1 rfl rfl rfl RX.all (λb2 w4 e2 x4 m2=>?_);have g2:=r.ge e2;have n2_mp1:=z.lt;have a2_hl:=J.lt;refine FQ x4 J z O r λJ z O r=>Gs (V0 bl bd _ J) λw5 x5=>Ga x5 J z O m2 r λJ z O m2 r=>?_;refine FJ 39 (λc3=>?_) λc3=>?_
 ·exact absurd c3 Fo
 refine FM 5 1 (Fu.nil (enc:=Fs) (sz:=1) (w:=w)).sl ?_;refine Fk (λc4=>?_) λc4=>?_
 ·exact absurd c4 Fo
 refine FM 62 5 (Fu.nil (enc:=λv:Value=>[v]) (sz:=5) (w:=w)).sl ?_;refine F8 (G:=Unit) (λuu=>[(0,Fh bd 0),(6,Fh b2 0),(9,.slice none 0 0),(59,.slice none 0 0),(60,I 0),(61,I 0)]) (λuu w'=>Fq w w'/\Fp w' bl [Fh bd 0,S [115],I 0,.slice none 0 0,.slice none 0 0,B false] 147/\Gv w' b1/\MemE w' bm ba bn/\Fp w' b2 [Fh bd 0,Fh bl 0,I 1,.slice none 0 0,.map (some b1),Fh bm 0,B false] 90/\True) (λuu=>0) () ⟨r,J,z,O,m2,trivial⟩ ?_;rintro _ uu w6 ⟨r,J,z,O,m2,htr⟩;refine Fk (λc5=>?_) λc5=>?_
 ·exact absurd c5 Fo
 refine Gs (X0d b2 bd bl b1 bm _ m2 J) λw7 x7=>Ga x7 J z O m2 r λJ z O m2 r=>?_;refine Fk (λc6=>?_) λc6=>?_
 ·exact absurd rfl c6
 refine Gs (X9i bd mf room [116] _ (hd.ext r) (hm.ext r)) λw8 x8=>Ga x8 J z O m2 r λJ z O m2 r=>?_;refine Fk (λc7=>?_) λc7=>?_
 ·exact absurd rfl c7
 refine go ?_;exact⟨_,rfl,r,b2,bl,b1,bm,ba,bn,rfl,⟨m2,J,hd.ext r,hm.ext r,z,O⟩,g2,Ae ha hj,g1,Ae Y hc,Ae Y hg,Ae Y hp⟩
structure RStE (w:World)(bs bd bl bm:Nat)(room:Int):Prop where
 s:Fp w bs [Fh bd 0,Fh bl 0,I 1,.slice none 0 0,.slice none 0 0,Fh bm 0,B false] 69
 l:Fp w bl [Fh bd 0,S [115],I 0,.slice none 0 0,.slice none 0 0,B false] 135
 d:Fp w bd [I room,.slice none 0 0,I (-1)] 138
def GX (bd:Nat)(room:Int)(s:Fj)(w:World)(hd:Fp w bd [I room,.slice none 0 0,I (-1)] 138) :
  FX 227 [Fh bd 0,S s] w (.tuple #[I 0,B false]):=by
 refine cE Tryz.func227 λr=>F8 (G:=Unit) (λz=>[(0,Fh bd 0),(1,S s),(4,I 0),(5,.bool false),(6,I 0)]) (λz w'=>Fq w w'/\True) (λz=>0) () ⟨r,trivial⟩ ?_;rintro _ z w1 ⟨r,htr⟩;refine go ?_;refine dl rfl ((hd.ext r).at rfl) (dv 226 3 (Fu.nil (enc:=λx:List Value=>x) (sz:=3) (w:=w)).sl ?_);refine FJ 14 (λO=>?_) λO=>?_
 ·exact absurd O Fo
 refine go ?_;refine GS rfl (Gt 10000010001000000100000 λw2 Y=>?_);have r:=r.trans Y;refine go ?_;refine dL rfl (λ_ hR=>((hd.ext (r.trans hR)).at rfl)) (dv 226 3 (Fu.nil (enc:=λx:List Value=>x) (sz:=3) (w:=w)).sl ?_);refine FJ 36 (λJ=>?_) λJ=>?_
 ·exact absurd J Fo
 refine go ?_;exact⟨rfl,r⟩
def IZ (bd:Nat)(room:Int)(s:Fj)(w:World)(hd:Fp w bd [I room,.slice none 0 0,I (-1)] 138) :
  FX 232 [Fh bd 0,S s] w (.tuple #[.slice none 0 0,I 7]):=by
 refine cE Tryz.func232 λr=>Gs (GX bd room s _ (hd.ext r)) λw1 z=>?_;have r:=r.trans z;refine go ?_;refine GU rfl (go ?_);exact⟨rfl,r⟩
def J7 (bl bd:Nat)(room:Int)(s:Fj)(w:World)(hl:Fp w bl [Fh bd 0,S [115],I 0,.slice none 0 0,.slice none 0 0,B false] 135)(hd:Fp w bd [I room,.slice none 0 0,I (-1)] 138) :
  FX 230 [Fh bl 0,S s] w (B false):=by
 refine cE Tryz.func230 λr=>Gs (IZ bd room s _ (hd.ext r)) λw1 z=>?_;have r:=r.trans z;refine go ?_;exact⟨rfl,r⟩
def X3t (bl bd:Nat)(room:Int)(w:World)(hl:Fp w bl [Fh bd 0,S [115],I 0,.slice none 0 0,.slice none 0 0,B false] 135)(hd:Fp w bd [I room,.slice none 0 0,I (-1)] 138) :
  FX 231 [Fh bl 0] w (I 0):=by
 refine cE Tryz.func231 λr=>go ?_;refine dp (I6 rfl rfl (by simp;done)) (cP (J7 bl bd room _ _ (hl.ext r) (hd.ext r)) RX.all λw1 z=>?_);have r:=r.trans z;refine go ?_;refine GU rfl (go ?_);exact⟨rfl,r⟩
def Iw (bl bd:Nat)(w:World)(hl:Fp w bl [Fh bd 0,S [115],I 0,.slice none 0 0,.slice none 0 0,B false] 135) :
  FX 31 [Fh bl 0] w (I 0):=by
 refine cE Tryz.func31 λr=>Gt 100010001000 λw1 z=>?_;have r:=r.trans z;refine go ?_;refine dL rfl (λ_ hR=>((hl.ext (r.trans hR)).at rfl)) (go ?_);refine dL rfl (λ_ hR=>((hl.ext (r.trans hR)).at rfl)) (dv 82 1 (Fu.nil (enc:=λx:List Value=>x) (sz:=3) (w:=w)).sl (dp (GK (a:=0) (b:=0) rfl rfl (by simp [Ge])) (go ?_)));exact⟨rfl,r⟩
def X9j (bs bd bl bm:Nat)(w:World)(hs:Fp w bs [Fh bd 0,Fh bl 0,I 1,.slice none 0 0,.slice none 0 0,Fh bm 0,B false] 69) :
  FX 149 [Fh bs 0] w (I 0):=by
 refine cE Tryz.func149 λr=>F8 (G:=Unit) (λz=>[(0,Fh bs 0),(3,I 0)]) (λz w'=>Fq w w'/\True) (λz=>0) () ⟨r,trivial⟩ ?_;rintro _ z w1 ⟨r,htr⟩;refine go ?_;refine dl rfl ((hs.ext r).at rfl) (dv 62 5 (Fu.nil (enc:=λv:Value=>[v]) (sz:=5) (w:=w)).sl ?_);refine Fk (λJ=>?_) λJ=>?_
 ·exact absurd J Fo
 refine go ?_;exact⟨rfl,r⟩
def X9k (bd:Nat)(room:Int)(w:World)(hd:Fp w bd [I room,.slice none 0 0,I (-1)] 138) :
  FX 239 [Fh bd 0] w (.slice none 0 0):=by
 refine cE Tryz.func239 λr=>F8 (G:=Unit) (λz=>[(0,Fh bd 0),(2,.slice none 0 0),(3,.slice none 0 0),(4,I 0)]) (λz w'=>Fq w w'/\True) (λz=>0) () ⟨r,trivial⟩ ?_;rintro _ z w1 ⟨r,htr⟩;refine go ?_;refine dl rfl ((hd.ext r).at rfl) (dv 226 3 (Fu.nil (enc:=λx:List Value=>x) (sz:=3) (w:=w)).sl ?_);refine Fk (λJ=>?_) λJ=>?_
 ·exact absurd J Fo
 refine go ?_;exact⟨rfl,r⟩
def X3u (bd:Nat)(room:Int)(s:Fj)(w:World)(hd:Fp w bd [I room,.slice none 0 0,I (-1)] 138) :
  FX 152 [Fh bd 0,S s,.slice none 0 0] w (I 0):=by
 refine cE Tryz.func152 λr=>go ?_;refine dp (GY Ff rfl rfl) ?_;refine Fk (λO=>?_) λO=>?_
 ·exact absurd O F0
 refine Gs (X9k bd room _ (hd.ext r)) λw1 Y=>?_;have r:=r.trans Y;refine F8 (G:=Unit) (λz=>[(0,Fh bd 0),(1,S s),(2,.slice none 0 0),(7,.slice none 0 0),(8,I 0)]) (λz w'=>Fq w w'/\True) (λz=>0) () ⟨r,trivial⟩ ?_;rintro _ z w2 ⟨r,htr⟩;refine FM 9 1 (Fu.nil (enc:=GF) (sz:=1) (w:=w)).sl ?_;refine Fk (λJ=>?_) λJ=>?_
 ·exact absurd J Fo
 refine go ?_;exact⟨rfl,r⟩
end Go.Proofs.YtiooodckiddpmaaGreatDoor.Em
namespace Go.Proofs.YtiooodckiddpmaaGreatDoor
open Go.Vc Go.Sp
attribute [local irreducible] W XW Dw GC
variable {w:World}
def W9 {P:Program}{κ α:Type}[DecidableEq κ]{k:TypeId}{kv:κ->Value}{av:α->Value}{b:Nat}(h:Gv w b):Gr P k kv av w b ([]:List (κ×α)):=
 ⟨by simp,.map [],⟨#[],0,h,⟨by simp,MapKept.stamped_empty 0,by simp⟩,Aa _,rfl⟩,rfl,λx l hl z=>rfl⟩
variable {ba:Nat}
def Ycl {bm bn:Nat}(h:Em.MemE w bm ba bn):Gd (λk=>k=bm\/k=ba\/k=bn) w bm []:=by
 have Y:Fp w bn (G6 (Ap 12 0)) 3:=by
  have:=h.n;rwa [show Ap 12 (I 0)=G6 (Ap 12 0) from rfl]at this
 have J:MemAt w bm (.slice (some ⟨ba,0,none⟩) 1 1) (.slice none 0 0) [⟨Cell.zero,bn,12⟩] (λ_=>Ap 12 0) [] 0 0:=by
  refine⟨h.m,h.a.own (enc:=Tow.enc) (l:=[⟨Cell.zero,bn,12⟩]) (Ab _) rfl Fg rfl F0,Vc.Own.nil,λi t r=>?_,λi j s t hs r _=>?_⟩
  ·cases i with
   | zero=>simp at r;subst r;exact⟨Y,by simp⟩
   | succ i=>simp at r
  ·cases i with
   | zero=>cases j with
    | zero=>rfl
    | succ j=>simp at r
   | succ i=>simp at hs
 refine⟨_,_,_,_,_,[],J,⟨rfl,λi hi=>(by cases hi),BR,rfl,rfl,λi hi=>?_,⟨λrow O=>?_,trivial⟩⟩,Bu,λk hk=>?_,λk hk=>?_⟩
 ·have:i=0:=by simp at hi;exact hi
  subst this;exact⟨(show 1<=12 by decide),(show 12<=12 by decide)⟩
 ·have z:row<12:=O;rw[List.getElem?_replicate_of_lt z];rfl
 ·rcases hk with rfl|hk|hk|⟨t,r,rfl⟩
  ·exact .inl rfl
  ·have:ba=k:=Am.inj hk;exact .inr (.inl this.symm)
  ·cases hk
  ·rw[Af.1 r];exact .inr (.inr rfl)
 ·rcases hk with rfl|rfl|rfl
  ·exact h.m.lt
  ·exact h.a.lt
  ·exact h.n.lt
def IQ (room:Int):Dsk:=⟨room,false,0,[]⟩
def JQ : Led:=⟨0,[],[],false⟩
def HD (bs bd bl mo bm ba bn mf:Nat):Nat->Nat:=λk=>if k=bs then 5 else if k=mo then 2 else if k=bm\/k=ba\/k=bn then 3 else if k=bl\/k=bd\/k=mf then 1 else 0
def KP {b b':Nat}{cs:List Value}{T:TypeId}(h:Gv w b)(hb:Fp w b' cs T):b'≠b:=λe=>by
 subst e;have h1:w.heap[b']?=some (.cells ⟨cs⟩ T (0,0)):=hb;rw[h]at h1;cases h1
def YE {bs bd bl mo bm bn mf:Nat}{room:Int}(h:Em.StE w bs bd bl mo bm ba bn mf room)(hne:mo≠mf)(hw:(IQ room).Wf):StE (HD bs bd bl mo bm ba bn mf) bs bd bl mo bm (.slice none 0 0) JQ (IQ room) ⟨1,[]⟩ [] [] false w:=by
 have n1:=h.s.ne h.l rfl;have n2:=h.s.ne h.d rfl;have n3:=h.s.ne h.m.m rfl;have n4:=h.s.ne h.m.a rfl;have n5:=h.s.ne h.m.n rfl;have n6:=KP h.o h.s;have n7:=KP h.f h.s;have p1:=KP h.o h.l;have p2:=KP h.o h.d;have p3:=KP h.o h.m.m;have p4:=KP h.o h.m.a;have p5:=KP h.o h.m.n;have q1:=h.m.m.ne h.l rfl;have q2:=h.m.m.ne h.d rfl;have q3:=KP h.f h.m.m;have q4:=h.m.a.ne h.l rfl;have q5:=h.m.a.ne h.d rfl;have q6:=KP h.f h.m.a;have q7:=h.m.n.ne h.l rfl;have q8:=h.m.n.ne h.d rfl;have q9:=KP h.f h.m.n;have r1:=KP h.f h.l;have r2:=h.l.ne h.d rfl;have Y:HD bs bd bl mo bm ba bn mf bl=1:=by unfold HD;simp [Ne.symm n1,p1,Ne.symm q1,Ne.symm q4,Ne.symm q7]
 have kd:HD bs bd bl mo bm ba bn mf bd=1:=by unfold HD;simp [Ne.symm n2,p2,Ne.symm q2,Ne.symm q5,Ne.symm q8]
 have O:HD bs bd bl mo bm ba bn mf mf=1:=by unfold HD;simp [Ne.symm n7,Ne.symm hne,Ne.symm q3,Ne.symm q6,Ne.symm q9]
 have r:∀k,HD bs bd bl mo bm ba bn mf k≠0->k<w.heap.size:=λk hk=>by
  unfold HD at hk;split at hk
  ·rename_i e;rw[e];exact h.s.lt
  ·split at hk
   ·rename_i e;rw[e];exact h.o.lt
   ·split at hk
    ·rename_i e;rcases e with rfl|rfl|rfl
     ·exact h.m.m.lt
     ·exact h.m.a.lt
     ·exact h.m.n.lt
    ·split at hk
     ·rename_i e;rcases e with rfl|rfl|rfl
      ·exact h.l.lt
      ·exact h.d.lt
      ·exact h.f.lt
     ·exact absurd rfl hk
 refine⟨h.s,⟨λk=>k=bd\/k=mf,λk=>k=bl,.slice none 0 0,.slice none 0 0,[],⟨mf,[],⟨h.d,W9 h.f,rfl,λe he=>(by cases he),Bu,λk hk=>?_,λk hk=>?_,hw⟩⟩,⟨h.l,Vc.Own.nil.arr (enc:=Fs) (sz:=1) (T:=0) (B:=0) Fg,Vc.Own.nil,rfl,λq z=>(by cases z),λk hk=>?_,λk hk=>?_,λk hk=>?_,Int.le_refl _,by decide,by decide,λp hp=>(by cases hp),by decide⟩,λk hk e=>?_,λk hk=>?_,λk hk=>r k (by rw[hk];decide)⟩,W9 h.o,(Ycl h.m).to (λk hk=>?_) (λk hk=>r k (by rw[hk];decide)),Vc.Own.nil.arr (enc:=Fi.cs) (sz:=5) (T:=0) (B:=0) Fg,λt J=>(by cases J),by unfold HD;simp,by unfold HD;simp [Ne.symm n6],λh9=>absurd rfl h9,λt J=>(by cases J),r⟩
 ·rcases hk with e|e|⟨e,he,_⟩
  ·exact .inl e
  ·exact .inr e
  ·cases he
 ·rcases hk with rfl|rfl
  ·exact h.d.lt
  ·exact h.f.lt
 ·rcases hk with e|e|e|⟨q,z,_⟩
  ·exact e
  ·cases e
  ·exact absurd rfl e.1
  ·cases z
 ·rcases hk with e|⟨q,z,_⟩
  ·exact absurd rfl e.1
  ·cases z
 ·rw[hk];exact h.l.lt
 ·rcases hk with rfl|rfl
  ·exact r2 e.symm
  ·exact r1 e.symm
 ·rcases hk with(e|e)|e
  ·rw[e];exact kd
  ·rw[e];exact O
  ·rw[e];exact Y
 ·unfold HD;rcases hk with e|e|e
  ·rw[e];simp [Ne.symm n3,p3]
  ·rw[e];simp [Ne.symm n4,p4]
  ·rw[e];simp [Ne.symm n5,p5]
def X9l {bs bd bl mo bm bn mf n:Nat}(h1:n<=bs)(h2:n<=bl)(h3:n<=mo)(h4:n<=bm)(h5:n<=ba)(h6:n<=bn):∀k,HD bs bd bl mo bm ba bn mf k≠0->k=bd\/k=mf\/n<=k:=λk hk=>by
 unfold HD at hk
 repeat' split at hk
 all_goals omega
end Go.Proofs.YtiooodckiddpmaaGreatDoor
namespace Go.Proofs.YtiooodckiddpmaaGreatDoor.Em
open Go.Vc Go.Sp
attribute [local irreducible] W XW Dw GC
def rdiskNewS_w (room:Int)(w:World)(h0:0<=room)(h1:room<=1073741824) :
  Gi 34 [I room] w λu w'=>∃bd,u=.tuple #[Fh bd 0,I 0]/\Fp w' bd [I room,.slice none 0 0,I (-1)] 138/\w.heap.size<=bd:=by
 refine cE Tryz.func34 λr=>?_;refine FJ 6 (λJ=>?_) λJ=>?_
 ·omega
 refine Fk (λz=>?_) λz=>?_
 ·omega
 refine go ?_;refine db (zs:=[.int .i64 0,.slice none 0 0,.int .i64 0]) (pl:=[(0,1),(1,1),(2,1)]) (pv:=[(0,_),(2,_)]) (cs:=[_,.slice none 0 0,_]) ?_;refine G1 rfl rfl rfl RX.all (λb1 w1 e1 O Y=>?_);have g1:=r.ge e1;have r:=r.trans O;refine go ?_;exact⟨_,rfl,r,b1,rfl,Y,g1⟩
def Xk5 (bd:Nat)(room:Int)(w:World)(hd:Fp w bd [I room,.slice none 0 0,I (-1)] 138) :
  Gi 147 [Fh bd 0,S [115]] w λu w'=>∃bl,u=.tuple #[Fh bl 0,I 0]/\Fp w' bl [Fh bd 0,S [115],I 0,.slice none 0 0,.slice none 0 0,B false] 135/\w.heap.size<=bl:=by
 refine cE Tryz.func147 λr=>go ?_;refine dp (GY Ff rfl rfl) ?_;refine FJ 13 (λJ=>?_) λJ=>?_
 ·exact absurd J F0
 refine FJ 18 (λY=>?_) λY=>?_
 ·exact absurd Y Fo
 refine Fk (λc3=>?_) λc3=>?_
 ·exact absurd c3 Fo
 refine go ?_;refine db (zs:=[.pointer none,S [],.int .i64 0,.slice none 0 0,.slice none 0 0,B false]) (pl:=[(0,1),(1,1),(2,1),(3,1),(4,1),(5,1)]) (pv:=[(0,_),(1,_)]) (cs:=[_,_,.int .i64 0,.slice none 0 0,.slice none 0 0,B false]) ?_;refine G1 rfl rfl rfl RX.all (λb1 w1 e1 x1 z=>?_);have g1:=r.ge e1;have r:=r.trans x1;refine go ?_;refine dp (I6 rfl rfl (by simp;done)) (cP (J7 b1 bd room _ _ z (hd.ext r)) RX.all λw2 x2=>Fy x2 z r λz r=>go ?_);refine GS rfl ?_;refine Fk (λO=>?_) λO=>?_
 ·refine Gs (X3t b1 bd room _ z (hd.ext r)) λw3 x3=>Fy x3 z r λz r=>?_;refine Fk (λc5=>?_) λc5=>?_
  ·exact absurd rfl c5
  refine go ?_;refine dp (I6 rfl rfl (by simp;done)) (cP (IZ bd room _ _ (hd.ext r)) RX.all λw4 x4=>Fy x4 z r λz r=>?_);refine Fk (λc6=>?_) λc6=>?_
  ·refine go ?_;exact⟨_,rfl,r,b1,rfl,z,g1⟩
  exact absurd Fo c6
 exact absurd rfl O
def rlsmOpenS_w (bd:Nat)(room:Int)(w:World)(hd:Fp w bd [I room,.slice none 0 0,I (-1)] 138) :
  Gi 77 [Fh bd 0] w λu w'=>∃bs bl bm,u=.tuple #[Fh bs 0,I 0]/\RStE w' bs bd bl bm room/\Fp w' bm [.slice none 0 0] 215/\w.heap.size<=bs/\w.heap.size<=bl/\w.heap.size<=bm:=by
 refine cE Tryz.func77 λr=>go ?_;refine dp (GY Ff rfl rfl) ?_;refine Fk (λc1=>?_) λc1=>?_
 ·exact absurd c1 F0
 refine go ?_;have ha:=r.size;refine cG (Xk5 bd room _ (hd.ext r)) RX.all λu1 w1 x1 hc=>?_;have hsz1:=r.size;have r:=r.trans x1;obtain⟨bl,rfl,z,hf⟩:=hc;refine Fk (λc2=>?_) λc2=>?_
 ·exact absurd rfl c2
 refine go ?_;refine db (zs:=[.int .i64 0,.slice none 0 0]) (pl:=[(0,1),(1,1)]) (pv:=[(0,_)]) (cs:=[_,.slice none 0 0]) ?_;refine db (zs:=[.slice none 0 0]) (pl:=[(0,1)]) (pv:=[]) (cs:=[.slice none 0 0]) ?_;refine G1 rfl rfl rfl RX.all (λb1 w2 e1 x2 J=>?_);have g1:=r.ge e1;have a1_hl:=z.lt;refine Fy x2 z r λz r=>db (zs:=[.pointer none,.pointer none,.int .i64 0,.slice none 0 0,.slice none 0 0,.pointer none,B false]) (pl:=[(0,1),(1,1),(2,2),(4,1),(5,1),(6,1)]) (pv:=[(0,_),(1,_),(2,.agg ⟨[_,_]⟩),(4,_)]) (cs:=[_,_,_,_,.slice none 0 0,_,B false]) ?_;refine G1 rfl rfl rfl RX.all (λb2 w3 e2 x3 O=>?_);have g2:=r.ge e2;have n2_1:=J.ltb e2;have a2_hl:=z.lt;refine FC x3 z J r λz J r=>FM 5 1 (Fu.nil (enc:=Fs) (sz:=1) (w:=w)).sl ?_;refine FJ 37 (λc3=>?_) λc3=>?_
 ·exact absurd c3 Fo
 refine Fk (λc4=>?_) λc4=>?_
 ·exact absurd c4 Fo
 refine Gs (X9j b2 bd bl b1 _ O) λw4 x4=>FQ x4 z J O r λz J O r=>?_;refine Fk (λc5=>?_) λc5=>?_
 ·exact absurd rfl c5
 refine F8 (G:=Unit) (λY=>[(0,Fh bd 0),(4,Fh bl 0),(5,I 0),(6,Fh b2 0),(7,I 1)]) (λY w'=>Fq w w'/\Fp w' bl [Fh bd 0,S [115],I 0,.slice none 0 0,.slice none 0 0,B false] 135/\Fp w' b1 [.slice none 0 0] 215/\Fp w' b2 [Fh bd 0,Fh bl 0,I 1,.slice none 0 0,.slice none 0 0,Fh b1 0,B false] 69/\True) (λY=>0) () ⟨r,z,J,O,trivial⟩ ?_;rintro _ Y w5 ⟨r,z,J,O,htr⟩;refine Gs (Iw bl bd _ z) λw6 x6=>FQ x6 z J O r λz J O r=>?_;refine dp (IJ rfl rfl) ?_;refine Fk (λc6=>?_) λc6=>?_
 ·exact absurd c6 Fo
 refine F8 (G:=Unit) (λY=>[(0,Fh bd 0),(5,I 0),(6,Fh b2 0),(12,.slice none 0 0),(13,I 0)]) (λY w'=>Fq w w'/\Fp w' bl [Fh bd 0,S [115],I 0,.slice none 0 0,.slice none 0 0,B false] 135/\Fp w' b1 [.slice none 0 0] 215/\Fp w' b2 [Fh bd 0,Fh bl 0,I 1,.slice none 0 0,.slice none 0 0,Fh b1 0,B false] 69/\True) (λY=>0) () ⟨r,z,J,O,trivial⟩ ?_;rintro _ Y w7 ⟨r,z,J,O,htr⟩;refine FM 62 5 (Fu.nil (enc:=λv:Value=>[v]) (sz:=5) (w:=w)).sl ?_;refine Fk (λc7=>?_) λc7=>?_
 ·exact absurd c7 Fo
 refine Gs (X3u bd room [116] _ (hd.ext r)) λw8 x8=>FQ x8 z J O r λz J O r=>?_;refine Fk (λc8=>?_) λc8=>?_
 ·exact absurd rfl c8
 refine go ?_;exact⟨_,rfl,r,b2,bl,b1,rfl,⟨O,z,hd.ext r⟩,J,g2,Ae ha hf,g1⟩
end Go.Proofs.YtiooodckiddpmaaGreatDoor.Em
namespace Go.Proofs.YtiooodckiddpmaaGreatDoor
open Go.Vc Go.Sp
attribute [local irreducible] W XW Dw GC
structure RG (G:Nat->Prop)(bs bx bl bm:Nat)(n:Int)(vf vT:Value)(dead:Bool)(fs:List Fi)(T:List Tr)(a b:Nat)(w:World):Prop where
 e:RE G w bs bx bl bm n vf vT dead fs T a b w
section
variable {G:Nat->Prop}{w w':World}{n:Int}{vf vT:Value}{fs:List Fi}{T:List Tr}{b bs bx bl bm a:Nat}{dead:Bool}{S:Nat->Prop}
def RG.mod (h:RG G bs bx bl bm n vf vT dead fs T a b w)(m:Vc.Mod S w w')(hS:∀k,G k->¬ S k):RG G bs bx bl bm n vf vT dead fs T a b w':=⟨h.e.base m hS⟩
def RG.ext (h:RG G bs bx bl bm n vf vT dead fs T a b w)(x:Fq w w'):RG G bs bx bl bm n vf vT dead fs T a b w':=h.mod x (λ_ _ h=>h)
instance : Up w w' (RG G bs bx bl bm n vf vT dead fs T a b w) (RG G bs bx bl bm n vf vT dead fs T a b w'):=⟨λx h=>h.ext x⟩
def RG.lt (h:RG G bs bx bl bm n vf vT dead fs T a b w):∀k,G k->k<w.heap.size:=h.e.dx.1
end
def RE.nothing {bs bx bl bm:Nat}{room:Int}{w:World}(h:Em.RStE w bs bx bl bm room)(hb:Fp w bm [.slice none 0 0] 215)(h0:0<=room)(h1:room<=1073741824):RE (λk=>k=bs\/k=bl\/k=bm\/k=bx) w bs bx bl bm 1 (.slice none 0 0) (.slice none 0 0) false [] [] 0 0 w:=by
 have J:∀k,(k=bs\/k=bl\/k=bm\/k=bx)->k<w.heap.size:=λk hk=>by rcases hk with e|e|e|e<;>subst e<;>first|exact h.s.lt|exact h.l.lt|exact hb.lt|exact h.d.lt
 exact⟨h.s,.inl (.inl rfl),⟨0,.slice none 0 0,.slice none 0 0,false,[],⟨J,Aa _,room,.slice none 0 0,[],-1,h.d,Vc.Own.nil,⟨λf r=>(by cases r)⟩,.inl (.inr (.inr (.inr rfl))),λk hk=>(by cases hk),λf r=>(by cases r),λf r=>(by cases r),⟨h0,h1⟩,h0,Ab _,by omega⟩,h.l,Vc.Own.nil,.inl (.inr (.inl rfl)),λk hk=>(by cases hk),Ab _⟩,
  ⟨Aa _,.inl (.inr (.inr (.inl rfl))),.slice none 0 0,[],hb,Vc.Own.nil,λk hk=>(by cases hk),Aa _,λc z=>(by cases z)⟩,
  ⟨Vc.Own.nil,λk hk=>(by cases hk),⟨⟨by omega,by omega,Ab _⟩,λi f r=>(by cases r)⟩,Vc.Own.nil,λk hk=>(by cases hk),Aa _,λt O=>(by cases O)⟩⟩
def X3v (pb bd bx mf:Nat)(room:Int)(w:World)(hp0:Fp w pb [Fh bd 0,Fh bx 0,.pointer none,.pointer none] 31)(hd:Fp w bd [I room,.map (some mf),B false,I 0] 122)(hm:Gv w mf)(hr:Fp w bx [I room,.slice none 0 0,I (-1)] 138)(hw:(IQ room).Wf)(h0:0<=room)(h1:room<=1073741824)(hbx:bx<w.heap.size) :
  G4 35 [Fh pb 0] w (Fv pb) λu w'=>u=B true/\∃κ bs bl bo bm sb rbl J,Fp w' pb [Fh bd 0,Fh bx 0,Fh bs 0,Fh sb 0] 31/\StE κ bs bd bl bo bm (.slice none 0 0) JQ (IQ room) ⟨1,[]⟩ [] [] false w'/\(∀k,κ k≠0->k=bd\/k=mf\/w.heap.size<=k)/\RG (λk=>k=sb\/k=rbl\/k=J\/k=bx) sb bx rbl J 1 (.slice none 0 0) (.slice none 0 0) false [] [] 0 0 w'/\(∀k,(k=sb\/k=rbl\/k=J)->w.heap.size<=k/\κ k=0):=by
 refine cM Tryz.func35 (Fv pb) λz=>?_;have Y:=hp0;have hmfl:=hm.lt;have hne1:=hp0.ne hd rfl;have hne2:=KP hm hp0;have hpl:=hp0.lt;have hne9:=hr.ne hp0 rfl;refine go ?_;have r:=z.size;refine cG (Em.lsmOpen_w bd mf room _ hd hm) RX.all λu1 w1 x1 hh=>?_;have hsz1:=z.size;refine Ga x1 Y hd hm hr z λY hd hm hr z=>?_;obtain⟨bs,bl,mo,bm,ba,bn,rfl,hE,k1,k2,k3,k4,k5,k6⟩:=hh;have hS:=YE hE Fe hw;have hκ:=X9l (bd:=bd) (mf:=mf) (Ae r k1) (Ae r k2) (Ae r k3) (Ae r k4) (Ae r k5) (Ae r k6);refine go ?_;have hsz9:=z.size;have hf:=hS.lt;refine cG (Em.rlsmOpenS_w bx room _ hr) RX.all λu2 w2 x2 ha=>?_;have hsz2:=z.size;refine HB x2 Y hd hm hr hS z λY hd hm hr hS z=>?_;obtain⟨sb,rbl,J,rfl,hg,hc,hr1,hr2,hr3⟩:=ha;have hE:=RG.mk (RE.nothing hg hc h0 h1);refine go ?_;refine HL Y (λw3 x3 xs3 Y=>?_) (hv:=by rfl);have hd:=hd.mod x3 Fw;have hm:=hm.mod x3 Fw;have hr:=hr.mod x3 Fw;have hS:=hS.mod x3 (λO h9 e9=>by have h2:O=pb:=e9;have h8:=hκ O h9;omega);have hE:=hE.mod x3 (λO h9 e9=>by have h2:O=pb:=e9;rcases h9 with e|e|e|e<;>omega);have z:=z.own x3 F5;refine go ?_;refine HL Y (λw4 x4 xs4 Y=>?_) (hv:=by rfl);have hS:=hS.mod x4 (λO h9 e9=>by have h2:O=pb:=e9;have h8:=hκ O h9;omega);have hE:=hE.mod x4 (λO h9 e9=>by have h2:O=pb:=e9;rcases h9 with e|e|e|e<;>omega);have z:=z.own x4 F5;refine FJ 34 (λc1=>?_) λc1=>?_
 ·refine go ?_;refine dp (GY Ff rfl rfl) (go ?_);refine dp (QV Ff rfl rfl) (go ?_);refine⟨_,rfl,z,by simp,_,bs,bl,mo,bm,sb,rbl,J,Y,hS,hκ,hE,λk hk=>?_⟩;rcases hk with e|e|e<;>subst e<;>exact⟨by omega,AO λh9=>by have:=hf _ h9;omega⟩
 exact absurd rfl c1
def X3w (room:Int)(w:World)(h0:0<=room)(h1:room<=1073741824)(hw:(IQ room).Wf) :
  Gi 12 [I room] w λu w'=>∃κ pb bd bx bs bl bo bm sb rbl z,u=Fh pb 0/\Fp w' pb [Fh bd 0,Fh bx 0,Fh bs 0,Fh sb 0] 31/\StE κ bs bd bl bo bm (.slice none 0 0) JQ (IQ room) ⟨1,[]⟩ [] [] false w'/\(∀k,κ k≠0->w.heap.size<=k)/\κ pb=0/\w.heap.size<=pb/\RG (λk=>k=sb\/k=rbl\/k=z\/k=bx) sb bx rbl z 1 (.slice none 0 0) (.slice none 0 0) false [] [] 0 0 w'/\∀k,(k=sb\/k=rbl\/k=z\/k=bx)->w.heap.size<=k/\κ k=0/\k≠pb:=by
 refine cE Tryz.func12 λr=>go ?_;have hsza:=r.size;refine cG (Em.diskNew_w room _ h0 h1) RX.all λu1 w1 x1 hf=>?_;have hsz1:=r.size;have r:=r.trans x1;obtain⟨bd,mf,rfl,hd,hm,hgd,hgm⟩:=hf;refine go ?_;have hszx:=r.size;refine cG (Em.rdiskNewS_w room _ h0 h1) RX.all λu2 w2 x2 hc=>?_;have hsz2:=r.size;refine FC x2 hd hm r λhd hm r=>?_;obtain⟨bx,rfl,J,hgx⟩:=hc;refine go ?_;refine db (zs:=[.pointer none,.pointer none,.pointer none,.pointer none]) (pl:=[(0,1),(1,1),(2,1),(3,1)]) (pv:=[(0,_),(1,_)]) (cs:=[_,_,.pointer none,.pointer none]) ?_;refine G1 rfl rfl rfl RX.all (λb1 w3 e1 x3 O=>?_);have g1:=r.ge e1;have a1_hd:=hd.lt;have a1_hr:=J.lt;refine FQ x3 hd hm J r λhd hm J r=>go ?_;refine dp (GY Ff rfl rfl) ?_;refine FJ 24 (λc1=>?_) λc1=>?_
 ·exact absurd c1 F0
 refine go ?_;refine dp (GY Ff rfl rfl) ?_;refine FJ 28 (λc2=>?_) λc2=>?_
 ·exact absurd c2 F0
 refine go ?_;have hpl9:=O.lt;have hne1:=O.ne hd rfl;have hne2:=KP hm O;have hszd:=r.size;have hne3:=J.ne hd rfl;have hne4:=KP hm J;have hne5:=J.ne O rfl;have hrl9:=J.lt;refine cD (X3v b1 bd bx mf room _ O hd hm J hw h0 h1 J.lt) (.inl rfl) λu4 w4 x4 ha=>?_;have hsz4:=r.size;have r:=r.own x4 F5;obtain⟨rfl,κ,bs,bl,bo,bm,sb,rbl,z,hp,hS,hκ,hE,hG⟩:=ha;refine go ?_;refine GS rfl (go ?_);refine⟨_,rfl,r,κ,b1,bd,bx,bs,bl,bo,bm,sb,rbl,z,rfl,hp,hS,λk hk=>(by have Y:=hκ k hk;omega),AO λY=>(by have h8:=hκ _ Y;omega),Fe,hE,λk hk=>?_⟩;rcases hk with e|e|e|e
 ·have:=hG k (.inl e);exact⟨by omega,this.2,by omega⟩
 ·have:=hG k (.inr (.inl e));exact⟨by omega,this.2,by omega⟩
 ·have:=hG k (.inr (.inr e));exact⟨by omega,this.2,by omega⟩
 ·subst e;exact⟨by omega,AO λY=>(by have h8:=hκ _ Y;omega),by omega⟩
def Ih (l:List Fi)(a:Fj):Fj:=l.foldl (λa f=>Jv a f.fst) a
def Ik (l:List Fi)(a:Fj):Fj:=l.foldl (λa f=>Jw a f.lst) a
def J0 (l:List Fi)(i:Nat):Fi:=(l[i]?).getD Fi.zero
def L0 (fs l:List Fi)(lev:Int):List Fi:=l++IM fs (lev+1) (Ih l (J0 l 0).fst) (Ik l (J0 l 0).lst)
variable {f:Fi}{k:Nat}{l:List Fi}
def X0e {a:Fj}(h:l[k]?=some f):Ih (l.take (k+1)) a=Jv (Ih (l.take k) a) f.fst:=by unfold Ih;rw[GW h,BA];rfl
def X0f {a:Fj}(h:l[k]?=some f):Ik (l.take (k+1)) a=Jw (Ik (l.take k) a) f.lst:=by unfold Ik;rw[GW h,BA];rfl
def Ju (l:List Fi)(o:Fi):Fi:=l.foldl (λo f=>if f.id<o.id then f else o) o
def Wi {o:Fi}(h:l[k]?=some f):Ju (l.take (k+1)) o=if f.id<(Ju (l.take k) o).id then f else Ju (l.take k) o:=by unfold Ju;rw[GW h,BA];rfl
def Hy (l:List Fi):Fi:=Ju l (J0 l 0)
def J8 (fs:List Fi):Option (List Fi):=
 if 4<=(Gn fs 0).length then some (L0 fs (Gn fs 0) 0)
 else if 4<(Gn fs 1).length then some (L0 fs [Hy (Gn fs 1)] 1)
 else if 16<(Gn fs 2).length then some (L0 fs [Hy (Gn fs 2)] 2)
 else if 64<(Gn fs 3).length then some (L0 fs [Hy (Gn fs 3)] 3)
 else none
variable {fs:List Fi}
def Xv (h:4<=(Gn fs 0).length):J8 fs=some (L0 fs (Gn fs 0) 0):=if_pos h
variable {lv:Nat}
def X9m (h0:¬ 4<=(Gn fs 0).length)(h1:1<=lv)(h2:lv<4)(hA:∀i:Nat,1<=i->i<lv->(Gn fs ↑i).length<=4 ^ i)(h:4 ^ lv<(Gn fs ↑lv).length):J8 fs=some (L0 fs [Hy (Gn fs ↑lv)] ↑lv):=by
 unfold J8;rw[if_neg h0];rcases(show lv=1\/lv=2\/lv=3 by omega)with rfl|rfl|rfl
 ·rw[if_pos (show 4<(Gn fs 1).length from h)];rfl
 ·have r:=hA 1 Fo Fo;rw[if_neg (show¬ 4<(Gn fs 1).length by exact AR.2 r),if_pos (show 16<(Gn fs 2).length by exact h)];rfl
 ·have r:=hA 1 Fo Fo;have z:=hA 2 Fo Fo;rw[if_neg (show¬ 4<(Gn fs 1).length by exact AR.2 r),if_neg (show¬ 16<(Gn fs 2).length by exact AR.2 z),if_pos (show 64<(Gn fs 3).length by exact h)];rfl
def X9n (h0:¬ 4<=(Gn fs 0).length)(hA:∀i:Nat,1<=i->i<4->(Gn fs ↑i).length<=4 ^ i):J8 fs=none:=by
 have r:=hA 1 Fo Fo;have J:=hA 2 Fo Fo;have z:=hA 3 Fo Fo;unfold J8;rw[if_neg h0,if_neg (show¬ 4<(Gn fs 1).length by exact AR.2 r),if_neg (show¬ 16<(Gn fs 2).length by exact AR.2 J),if_neg (show¬ 64<(Gn fs 3).length by exact AR.2 z)]
def Ycn (h1:1<=lv)(h2:lv<4):Value.int .i64 (IntKind.i64.wrap (1*2 ^ (min ((2:Int)*↑lv).toNat IntKind.i64.bits)))=I ↑(4 ^ lv):=by
 rcases(show lv=1\/lv=2\/lv=3 by omega)with rfl|rfl|rfl<;>rfl
def X9o (h1:1<=lv):4<=4 ^ lv:=by
 have:=Nat.pow_le_pow_right (n:=4) Fo h1;simpa using this
def XT (n:Int)(fs:List Fi)(vf:Value)(lev:Int)(l:List Fi)(vl:Value)(Bo:Nat)(w:World)(hv:Fu Fi.cs 5 w vf fs)(hl:fs.length<=100000)(ho0:Vc.Own Fi.cs 5 62 Bo w vl l)(hne:l≠[])(hll:l.length<=100000)(hBo:Bo<=w.heap.size)(hB:fs≠[]->(base vf).1<Bo)(hlev:0<=lev/\lev<=10) :
  G4 105 [.agg ⟨[I n,vf]⟩,I lev,vl] w (λk=>vl.ownBlock=some k) λu w'=>Vc.Own Fi.cs 5 62 Bo w' u (L0 fs l lev):=by
 refine cM Tryz.func105 (λk=>vl.ownBlock=some k) λz=>?_;have ho:=ho0;obtain⟨f0,hk0⟩:∃f,l[0]?=some f:=⟨_,Aq (by cases l with|nil=>exact absurd rfl hne|cons a r=>simp)⟩;have hg:J0 l 0=f0:=by unfold J0;rw[hk0];rfl
 refine go ?_;refine G1 rfl rfl rfl RX.all (λb1 w1 e1 x1 J=>?_);have g1:=z.ge e1;have o1_ho:=ho.ltb e1;refine Fy x1 ho z λho z=>Gt 10010001000 λw2 x2=>FC x2 ho J z λho J z=>?_;refine go ?_;refine di 62 5 (ho.arr Fg).sl rfl ((ho.arr Fg).lt hk0) (go ?_);refine dL rfl (λ_ hR=>((((ho.arr Fg).ext hR).row hk0).at rfl)) (go ?_);refine di 62 5 (ho.arr Fg).sl rfl ((ho.arr Fg).lt hk0) (go ?_);refine dL rfl (λ_ hR=>((((ho.arr Fg).ext hR).row hk0).at rfl)) (go ?_);refine dv 62 5 (ho.arr Fg).sl (F8 (G:=Nat×Fj×Fj) (λ(k,a,b)=>[(1,I lev),(2,vl),(3,Fh b1 0),(6,.slice none 0 0),(7,S a),(8,S b),(19,vl),(20,I ↑l.length),(21,I ↑k)]) (λ(k,a,b) w'=>Mod (λk=>vl.ownBlock=some k) w w'/\Vc.Own Fi.cs 5 62 Bo w' vl l/\Fp w' b1 [I n,vf] 56/\k<=l.length/\a=Ih (l.take k) f0.fst/\b=Ik (l.take k) f0.lst) (λ(k,a,b)=>l.length-k) (0,f0.fst,f0.lst) ⟨z,ho,J,Ab _,rfl,rfl⟩ ?_);rintro _ ⟨k,a,b⟩ w3 ⟨z,ho,J,hk1,ha,hb⟩;refine Fk (λc1=>?_) λc1=>?_
 ·obtain⟨f,hk⟩:∃f,l[k]?=some f:=F7;refine go ?_;refine di 62 5 (ho.arr Fg).sl rfl ((ho.arr Fg).lt hk) (dq (Fx Ff rfl rfl ((ho.arr Fg).row hk)) (aL [.int .i64 0,.int .i64 0,.int .i64 0,S [],S []] λb2 w4 e2 x4 Y=>?_));have g2:=z.ge e2;have n2_1:=J.ltb e2;have o2_ho:=ho.ltb e2;refine FC x4 ho J z λho J z=>Gg Y (λw5 x5 xs5 Y=>?_);have ho:=ho.mod x5 Fw;have J:=J.mo x5;have z:=z.o1 x5;refine Gt 10001000100 λw6 x6=>FQ x6 ho J Y z λho J Y z=>?_;refine go ?_;refine dp (Xa rfl rfl) (go ?_);refine dp (Yp rfl rfl) (go ?_);exact⟨(k+1,_,_),KZ,⟨z,ho,J,by omega,by rw[X0e hk,<-ha],by rw[X0f hk,<-hb]⟩,by simp only [];omega⟩
 refine go ?_;refine dq (Fx (k:=2) Ff rfl rfl J.row) (Gj (Qv n fs vf (lev+1) a b _ (hv.mod z (λhc e=>by have h1:=(ho0.lt _ e).1;have h2:=hB hc;omega)) hl) λvo w7 x7 hf=>?_);have hsz7:=z.size;refine Fy x7 ho z λho z=>Ht ho (hf.arr Fg) (λvr w8 O x8=>?_) (hb:=(by have:=O9 fs (lev+1) a b;omega)) (hB:=(Ae hBo z.size));have z:=z.own x8 F5;have ho:=O;refine go ?_;rw[Av Fe]at ha hb;refine⟨_,rfl,z,?_⟩;unfold L0;rw[hg,<-ha,<-hb];exact ho
def X52 (n:Int)(fs:List Fi)(vf:Value)(w:World)(hv:Fu Fi.cs 5 w vf fs)(hl:fs.length<=100000)(hV:H2 ⟨n,fs⟩=true) :
  Gi 48 [.agg ⟨[I n,vf]⟩] w λu w'=>∃vp,u=.tuple #[vp,B (J8 fs).isSome]/\Vc.Own Fi.cs 5 62 w.heap.size w' vp ((J8 fs).getD []):=by
 refine cE Tryz.func48 λz=>?_;obtain⟨_,_,xd,xg,_⟩:=Jc hV;have hvl2:fs.length<=1024:=xd;have hw:∀f∈fs,Ge f.id:=λf hf=>(Nw hV f hf).1;have h6:∀f∈fs,0<=f.lev/\f.lev<=4:=λf hf=>by have:=KQ (xg f hf);exact⟨this.2.2.1,this.2.2.2.1⟩
 have ht:fs≠[]->(base vf).1<w.heap.size:=λhy=>hv.base_lt Fo hy;have ha:∀i,(Gn fs i).length<=1024:=λi=>by have:=Va fs fs.length i;rw[AT]at this;omega
 have hz:(Gn fs ((0:Nat):Int)).length=(Gn fs 0).length:=rfl;have hk90:=ha 0;refine go ?_;refine G1 rfl rfl rfl RX.all (λb1 w1 e1 x1 J=>?_);have g1:=z.ge e1;have z:=z.trans x1;refine go ?_;refine dq (Fx (k:=2) Ff rfl rfl J.row) (cP (QQ n fs vf _ (hv.ext z) Fe hw) RX.all λw2 x2=>Fy x2 J z λJ z=>?_);refine Gb (λc1=>?_) λc1=>?_
 ·rw[hV]at c1;cases c1
 refine go ?_;refine dq (Fx (k:=2) Ff rfl rfl J.row) (cG (X3a n fs vf _ (hv.ext z) hl h6) RX.all λu3 w3 x3 xc=>?_);have hsz3:=z.size;refine Fy x3 J z λJ z=>?_;obtain⟨hc,F,rfl,hr,r⟩:=xc;refine go ?_;refine aL [.int .i64 0,.int .i64 0,.int .i64 0,.int .i64 0,.int .i64 0] λb2 w4 e2 x4 O=>?_;have g2:=z.ge e2;have n2_1:=J.ltb e2;have n2_mp9:=r.lt;refine FC x4 J r z λJ r z=>?_;refine OJ (m:=5) (vs:=?u5) rfl rfl ?h5 Ff ?c5 ?d5 O ?n5 (.inl rfl) (λw5 x5 xs5 O=>?k5)
 case h5=>conv=>lhs;whnf
 case c5=>rw[Au];simp [HR]
 case d5=>rfl
 case n5=>simp [Value.oneCell']
 have J:=J.mo x5;have r:=r.mod x5 Fw;have z:=z.o1 x5;refine go ?_;refine dp (Ln (m:=5) (e:=3) (k:=1) Ff rfl rfl Fo) (dl rfl (O.at (MZ (NP fs (show 0<5 by decide)))) (dp (HY rfl rfl) ?_));refine Fk (λc2=>?_) λc2=>?_
 ·have h4:4<=(Gn fs 0).length:=DA.1 (show((4:Nat):Int)<=((Gn fs 0).length:Int) from c2);refine go ?_;refine dp (Ln (m:=5) (e:=3) (k:=1) Ff rfl rfl Fo) (dl rfl (O.at (MZ (NP fs (show 0<5 by decide)))) (F8 (G:=Nat×Value) (λ(k,vl)=>[(1,Fh b1 0),(2,.slice none 0 0),(3,.bool false),(4,Fh b2 0),(5,.map (some hc)),(6,vl),(24,I ↑(Gn fs 0).length),(25,I ↑k)]) (λ(k,vl) w'=>Fq w w'/\Fp w' b1 [I n,vf] 56/\Vc.Xbd Tryz.prog 181 GM Fi.v w' hc fs.length F/\Fp w' b2 (G6 (HR fs)) 176/\k<=(Gn fs 0).length/\Vc.Own Fi.cs 5 62 w.heap.size w' vl ((Gn fs 0).take k)) (λ(k,vl)=>(Gn fs 0).length-k) (0,.slice none 0 0) ⟨z,J,r,O,Ab _,Vc.Own.nil⟩ ?_));rintro _ ⟨k,vl⟩ w6 ⟨z,J,r,O,hk1,Y⟩;refine Fk (λc3=>?_) λc3=>?_
  ·obtain⟨f,hk⟩:∃f,(Gn fs 0)[k]?=some f:=F7;refine go ?_;refine F3 (v:=GM (0,↑k)) rfl (PM (zs:=[I 0,I 0]) (m:=2) (e:=3) (k:=1) (pv:=[(0,I 0),(1,I ↑k)]) (cs:=[I 0,I ↑k]) Ff Ff Hn rfl) rfl (dq (LV.to (v':=f.v) (M9 OL (kx:=(0,↑k)) (z0:=Fi.zero) rfl rfl Ff r ⟨by unfold Ge;omega,by unfold Ge;have:=ha 0;omega⟩) (congrArg (λo:Option Fi=>Fi.v (o.getD Fi.zero)) ((hr 0 k).trans hk))) (lA 62 rfl λb3 w7 e3 x7 m3=>?_));have g3:=z.ge e3;have n3_1:=J.ltb e3;have n3_2:=O.ltb e3;have n3_mp9:=r.lt;have o3_hoL:=Y.ltb e3;refine Ga x7 J r O Y z λJ r O Y z=>G8 f Y m3 (λvp w8 hq x8=>?_) (hb:=(by have:=ha 0;simp;omega));have J:=J.mod x8 Fw;have r:=r.mod x8 (r.ne_own Y);have O:=O.mod x8 Fw;have z:=z.own x8 F5;have Y:=hq;clear m3;refine go ?_;exact FL (k+1,vp) ⟨z,J,r,O,by omega,by rw[GW hk];exact Y⟩
  rw[Av Fe]at Y;refine go ?_;refine dq (Fx (k:=2) Ff rfl rfl J.row) (Gz (XT n fs vf 0 (Gn fs 0) vl w.heap.size _ (hv.ext z) hl Y (λe=>by rw[e]at h4;simp at h4) (by have:=ha 0;omega) z.size ht Fo) λvr w9 x9 hp=>?_);have hsz9:=z.size;have J:=J.mod x9 Fw;have r:=r.mod x9 (r.ne_own Y);have O:=O.mod x9 Fw;have z:=z.own x9 F5;refine go ?_;exact⟨_,rfl,z,vr,by rw[Xv h4];rfl,by rw[Xv h4];exact hp⟩
 have h0:¬ 4<=(Gn fs 0).length:=λh9=>c2 (show((4:Nat):Int)<=((Gn fs 0).length:Int) from DA.2 h9);refine F8 (G:=Nat) (λlv=>[(1,Fh b1 0),(4,Fh b2 0),(5,.map (some hc)),(8,I ↑lv)]) (λlv w'=>Fq w w'/\Fp w' b1 [I n,vf] 56/\Vc.Xbd Tryz.prog 181 GM Fi.v w' hc fs.length F/\Fp w' b2 (G6 (HR fs)) 176/\1<=lv/\lv<=4/\∀i:Nat,1<=i->i<lv->(Gn fs ↑i).length<=4 ^ i) (λlv=>4-lv) 1 ⟨z,J,r,O,Aa _,by decide,λi h1 h2=>by omega⟩ ?_;rintro _ lv w10 ⟨z,J,r,O,hlv1,hlv4,hA⟩;refine Fk (λc4=>?_) λc4=>?_
 ·refine Gt 10000100 λw11 h8=>FQ h8 J r O z λJ r O z=>?_;refine go ?_;refine dp (Ln (m:=5) (e:=3) (k:=1) Ff rfl rfl Fe) (dL rfl (λ_ hR=>((O.ext hR).at (MZ (NP fs (show lv<5 by omega))))) (go ?_));refine dp (Ks rfl rfl FH) (F3 (v:=I ↑(4 ^ lv)) rfl (OY rfl rfl Fe) (Ycn hlv1 Fe) (dp (IJ rfl rfl) ?_));refine Fk (λc5=>?_) λc5=>?_
  ·refine go ?_;refine FL (lv+1) ⟨z,J,r,O,by omega,by omega,λi h1 h2=>?_⟩
   by_cases e9:i=lv
   ·subst e9;exact DA.1 c5
   ·exact hA i h1 Fe
  have hgt:4 ^ lv<(Gn fs ↑lv).length:=Nat.lt_of_not_le (λh9=>c5 (DA.2 h9));have hp4:=X9o hlv1;obtain⟨f0,hk0⟩:∃f,(Gn fs ↑lv)[0]?=some f:=F7;have xe:J0 (Gn fs ↑lv) 0=f0:=by unfold J0;rw[hk0];rfl
  refine go ?_;refine F3 (v:=GM (↑lv,((0:Nat):Int))) rfl (PM (zs:=[I 0,I 0]) (m:=2) (e:=3) (k:=1) (pv:=[(0,I ↑lv),(1,I ((0:Nat):Int))]) (cs:=[I ↑lv,I ((0:Nat):Int)]) Ff Ff Hn rfl) rfl (dq (LV.to (v':=f0.v) (M9 OL (kx:=(↑lv,((0:Nat):Int))) (z0:=Fi.zero) rfl rfl Ff r ⟨by unfold Ge;omega,by unfold Ge;omega⟩) (congrArg (λo:Option Fi=>Fi.v (o.getD Fi.zero)) ((hr ↑lv 0).trans hk0))) (aL [.int .i64 0,.int .i64 0,.int .i64 0,S [],S []] λb4 w12 e4 h7 m4=>?_));have g4:=z.ge e4;have n4_1:=J.ltb e4;have n4_2:=O.ltb e4;have n4_mp9:=r.lt;refine FQ h7 J r O z λJ r O z=>Gg m4 (λw13 hh xs13 m4=>?_);have J:=J.mo hh;have r:=r.mod hh Fw;have O:=O.mo hh;have z:=z.o1 hh;refine go ?_;refine dp (Ln (m:=5) (e:=3) (k:=1) Ff rfl rfl Fe) (dl rfl (O.at (MZ (NP fs (show lv<5 by omega)))) (F8 (G:=Nat×Fi) (λ(i,o)=>[(1,Fh b1 0),(4,Fh b2 0),(5,.map (some hc)),(8,I ↑lv),(9,Fh b4 0),(56,I ↑(Gn fs ↑lv).length),(57,I ↑i)]) (λ(i,o) w'=>Fq w w'/\Fp w' b1 [I n,vf] 56/\Vc.Xbd Tryz.prog 181 GM Fi.v w' hc fs.length F/\Fp w' b2 (G6 (HR fs)) 176/\i<=(Gn fs ↑lv).length/\o=Ju ((Gn fs ↑lv).take i) f0/\Fp w' b4 o.cs 62) (λ(i,o)=>(Gn fs ↑lv).length-i) (0,f0) ⟨z,J,r,O,Ab _,rfl,m4⟩ ?_));rintro _ ⟨i,o⟩ w14 ⟨z,J,r,O,hi1,ho9,m4⟩;refine Fk (λc6=>?_) λc6=>?_
  ·obtain⟨f,hk⟩:∃f,(Gn fs ↑lv)[i]?=some f:=F7;have hk9:=ha ↑lv;refine go ?_;refine F3 (v:=GM (↑lv,↑i)) rfl (PM (zs:=[I 0,I 0]) (m:=2) (e:=3) (k:=1) (pv:=[(0,I ↑lv),(1,I ↑i)]) (cs:=[I ↑lv,I ↑i]) Ff Ff Hn rfl) rfl (dq (LV.to (v':=f.v) (M9 OL (kx:=(↑lv,↑i)) (z0:=Fi.zero) rfl rfl Ff r ⟨by unfold Ge;omega,by unfold Ge;have:=ha ↑lv;omega⟩) (congrArg (λo:Option Fi=>Fi.v (o.getD Fi.zero)) ((hr ↑lv i).trans hk))) (aL [.int .i64 0,.int .i64 0,.int .i64 0,S [],S []] λb5 w15 e5 xa m5=>?_));have g5:=z.ge e5;have n5_1:=J.ltb e5;have n5_2:=O.ltb e5;have n5_4:=m4.ltb e5;have n5_mp9:=r.lt;refine Ga xa J r O m4 z λJ r O m4 z=>Gg m5 (λw16 hg xs16 m5=>?_);have J:=J.mo hg;have r:=r.mod hg Fw;have O:=O.mo hg;have m4:=m4.mo hg;have z:=z.o1 hg;refine Fk (λc7=>?_) λc7=>?_
   ·refine go ?_;refine dq (Fx (k:=5) Ff rfl rfl m5.row) (Gg m4 (λw17 hj xs17 m4=>?_));have J:=J.mo hj;have r:=r.mod hj Fw;have O:=O.mo hj;have z:=z.o1 hj;refine go ?_;exact⟨(i+1,f),Ho,⟨z,J,r,O,by omega,by rw[Wi hk,<-ho9,if_pos Fe],m4⟩,by simp only [];omega⟩
   refine go ?_;exact⟨(i+1,o),Ho,⟨z,J,r,O,by omega,by rw[Wi hk,<-ho9,if_neg Fe],m4⟩,by simp only [];omega⟩
  refine go ?_;refine dq (Fx (k:=2) Ff rfl rfl J.row) (go ?_);refine dq (Fx (k:=5) Ff rfl rfl m4.row) (lA 62 rfl λb6 w18 e6 xf m6=>?_);have g6:=z.ge e6;have z:=z.trans xf;have Y:=m6.own (enc:=Fi.cs) (B:=w.heap.size) (l:=[o]) (sz:=5) (m:=1) g6 rfl Fg rfl (An rfl);refine cD (XT n fs vf ↑lv [o] (.slice (some ⟨b6,0,none⟩) 1 1) w.heap.size _ (hv.ext z) hl Y F0 F0 z.size ht Fe) (.inl rfl) λvr w19 xb hp=>?_;have hsz19:=z.size;have z:=z.own xb F5;refine go ?_;rw[Av Fe]at ho9;have e9:Hy (Gn fs ↑lv)=o:=by unfold Hy;rw[xe,<-ho9]
  have e8:=X9m h0 hlv1 Fe hA hgt;rw[e9]at e8;exact⟨_,rfl,z,vr,by rw[e8];rfl,by rw[e8];exact hp⟩
 refine go ?_;have e8:=X9n h0 (λi h1 h2=>hA i h1 Fe);exact⟨_,rfl,z,_,by rw[e8];rfl,by rw[e8];exact Vc.Own.nil⟩
def X0g (a b:Fj):F6 a (Jv a b)=false/\F6 b (Jv a b)=false:=by
 unfold Jv;split
 ·rename_i h;exact⟨KM h,IN _⟩
 ·rename_i h;exact⟨IN _,by simpa using h⟩
def Uw (a b:Fj):F6 (Jw a b) a=false/\F6 (Jw a b) b=false:=by
 unfold Jw;split
 ·rename_i h;exact⟨KM h,IN _⟩
 ·rename_i h;exact⟨IN _,by simpa using h⟩
def VQ : ∀(l:List Fi) (a:Fj),F6 a (Ih l a)=false/\∀f∈l,F6 f.fst (Ih l a)=false
 | [],a=>⟨IN _,λf z=>by cases z⟩
 | x :: r,a=>by
  obtain⟨h1,h2⟩:=VQ r (Jv a x.fst);have e:Ih (x :: r) a=Ih r (Jv a x.fst):=rfl;rw[e];refine⟨Ph h1 (X0g a x.fst).1,λf z=>?_⟩;rcases Ah.1 z with rfl|z
  ·exact Ph h1 (X0g a f.fst).2
  ·exact h2 f z
def X0j : ∀(l:List Fi) (a:Fj),F6 (Ik l a) a=false/\∀f∈l,F6 (Ik l a) f.lst=false
 | [],a=>⟨IN _,λf z=>by cases z⟩
 | x :: r,a=>by
  obtain⟨h1,h2⟩:=X0j r (Jw a x.lst);have e:Ik (x :: r) a=Ik r (Jw a x.lst):=rfl;rw[e];refine⟨Ph (Uw a x.lst).1 h1,λf z=>?_⟩;rcases Ah.1 z with rfl|z
  ·exact Ph (Uw a f.lst).2 h1
  ·exact h2 f z
def VW {p q:Fi->Bool}(h:∀f,¬ (p f=true/\q f=true)):∀l:List Fi,(l.filter p).length+(l.filter q).length<=l.length
 | []=>Aa _
 | a :: r=>by
  have ih:=VW h r;have ha:=h a;rw[BJ,BJ]
  cases hp:p a<;>cases hq:q a<;>simp_all<;>omega
def VX {V:Vs}(hV:H2 V=true){lev:Int}(hl:l≠[])(hs:∀f∈l,f∈V.fs/\f.lev=lev)(h0:0<=lev/\lev<=3)(hnd:(l.map (·.id)).Nodup)(hlen:l.length<=(Gn V.fs lev).length)(hsrc:lev=0->∀f∈V.fs,f.lev=0->f∈l):PickP V (L0 V.fs l lev) (lev+1):=by
 have J:∀f,f∈IM V.fs (lev+1) (Ih l (J0 l 0).fst) (Ik l (J0 l 0).lst)->f∈V.fs/\f.lev=lev+1:=λf z=>by
  obtain⟨h1,h2⟩:=Ax.1 z;unfold Ke at h2;simp only [Aw,decide_eq_true_eq]at h2;exact⟨h1,h2.1.1⟩
 have O:=(Jc hV).2.2.2.2.1;refine⟨?_,λf z=>?_,⟨by omega,by omega⟩,λe f z hc=>Bl _ (hsrc Fe f z hc),λf z hfl g Y hh h1 h2=>?_,?_,?_⟩
 ·cases l with
  | nil=>exact absurd rfl hl
  | cons a r=>exact⟨a,rfl,by rw[(hs a Ai).2]⟩
 ·rcases Al.1 z with z|z
  ·exact⟨(hs f z).1,.inl (by have:=(hs f z).2;omega)⟩
  ·exact⟨(J f z).1,.inr (J f z).2⟩
 ·rcases Al.1 z with z|z
  ·refine Bb _ (Ax.2 ⟨Y,?_⟩);unfold Ke;have a1:F6 g.lst (Ih l (J0 l 0).fst)=false:=by
    cases e:F6 g.lst (Ih l (J0 l 0).fst)with
    | false=>rfl
    | true=>rw[X5u e ((VQ l _).2 f z)]at h1;cases h1
   have a2:F6 (Ik l (J0 l 0).lst) g.fst=false:=by
    cases e:F6 (Ik l (J0 l 0).lst) g.fst with
    | false=>rfl
    | true=>rw[Pz ((X0j l _).2 f z) e]at h2;cases h2
   rw[decide_eq_true hh,a1,a2];rfl
  ·have:=(J f z).2;omega
 ·have h1:(IM V.fs (lev+1) (Ih l (J0 l 0).fst) (Ik l (J0 l 0).lst)).length<=(Gn V.fs (lev+1)).length:=by
   have e:IM V.fs (lev+1) (Ih l (J0 l 0).fst) (Ik l (J0 l 0).lst)=(Gn V.fs (lev+1)).filter (Ke (lev+1) (Ih l (J0 l 0).fst) (Ik l (J0 l 0).lst)):=by
    unfold IM Gn;rw[List.filter_filter]
    congr 1
    funext f
    unfold Ke
    by_cases e9:f.lev=lev+1<;>simp [e9]
   rw[e];exact Bk _ _
  have h2:(Gn V.fs lev).length+(Gn V.fs (lev+1)).length<=V.fs.length:=VW (λf h=>by simp only [decide_eq_true_eq]at h;omega) V.fs;unfold L0;rw[Ad];omega
 ·unfold L0;rw[A3];refine List.nodup_append.2 ⟨hnd,List.Nodup.sublist (C0 _ BZ) O,λa ha b hb e=>?_⟩;obtain⟨f,z,rfl⟩:=Ao.1 ha;obtain⟨g,Y,rfl⟩:=Ao.1 hb;have e2:f=g:=M0 O (hs f z).1 (J g Y).1 e;have e3:=(hs f z).2;have e4:=(J g Y).2;rw[e2]at e3;omega
def Uy : ∀(l:List Fi) (o:Fi),Ju l o=o\/Ju l o∈l
 | [],o=>.inl rfl
 | x :: r,o=>by
  have e:Ju (x :: r) o=Ju r (if x.id<o.id then x else o):=rfl;rw[e];rcases Uy r (if x.id<o.id then x else o)with h|h
  ·rw[h];split
   ·exact .inr Ai
   ·exact .inl rfl
  ·exact .inr (Aj _ h)
def Xu2 (h:l≠[]):Hy l∈l:=by
 unfold Hy;rcases Uy l (J0 l 0)with e|e
 ·rw[e]
  cases l with
  | nil=>exact absurd rfl h
  | cons a r=>exact Ai
 ·exact e
def Sb {i:Int}: f∈Gn fs i↔f∈fs/\f.lev=i:=by unfold Gn;rw[Ax,decide_eq_true_eq]
def Yco {V:Vs}{p:List Fi}(hV:H2 V=true)(h:J8 V.fs=some p):∃lv:Nat,PickP V p ↑lv:=by
 have z:=(Jc hV).2.2.2.2.1;have one:∀lv:Nat,1<=lv->lv<=3->0<(Gn V.fs ↑lv).length->PickP V (L0 V.fs [Hy (Gn V.fs ↑lv)] ↑lv) (↑lv+1):=λlv h1 h3 J=>by
  have hm:=Xu2 (List.ne_nil_of_length_pos J);exact VX hV F0 (λf r=>by rw[Af.1 r];exact Sb.1 hm) ⟨by omega,by omega⟩ F0 J (λe=>by omega)
 unfold J8 at h;split at h
 ·rename_i h4;obtain rfl:=Am.inj h;exact⟨1,VX hV (λe=>by rw[e]at h4;simp at h4) (λf r=>Sb.1 r) ⟨by decide,by decide⟩ (List.Nodup.sublist (C0 _ BZ) z) (Aa _) (λ_ f r e=>Sb.2 ⟨r,e⟩)⟩
 split at h
 ·rename_i h4;obtain rfl:=Am.inj h;exact⟨2,one 1 Fo Fo (Ej (Ab _) h4)⟩
 split at h
 ·rename_i h4;obtain rfl:=Am.inj h;exact⟨3,one 2 Fo Fo (Ej (Ab _) h4)⟩
 split at h
 ·rename_i h4;obtain rfl:=Am.inj h;exact⟨4,one 3 Fo Fo (Ej (Ab _) h4)⟩
 ·cases h
def X3x (fs:List Fi):(J8 fs).isSome=true↔4<=(Gn fs 0).length\/4<(Gn fs 1).length\/16<(Gn fs 2).length\/64<(Gn fs 3).length:=by
 unfold J8
 repeat' split
 all_goals simp<;>omega
def X0l {gs add:List Fi}(hp:gs.Perm (fs++add))(h:(J8 fs).isSome=true):(J8 gs).isSome=true:=by
 have r:∀i,(Gn fs i).length<=(Gn gs i).length:=λi=>by
  have h1:(Gn gs i).Perm (Gn (fs++add) i):=hp.filter _;rw[h1.length_eq];unfold Gn;rw[Bs,Ad];omega
 rw[X3x]at h ⊢;have:=r 0;have:=r 1;have:=r 2;have:=r 3;omega
structure QsE (B:Nat)(qs:List (Value×List Cell))(w:World):Prop where
 row:∀q∈qs,Vc.Own Cell.cs 4 79 B w q.1 q.2
section
variable {B B':Nat}{qs:List (Value×List Cell)}{w w':World}{S:Nat->Prop}
def QsE.ext (h:QsE B qs w)(x:Fq w w'):QsE B qs w':=⟨λq r=>(h.row q r).ext x⟩
instance : Up w w' (QsE B qs w) (QsE B qs w'):=⟨λx h=>h.ext x⟩
def QsE.mod (h:QsE B qs w)(m:Vc.Mod S w w')(hS:∀q∈qs,∀k,q.1.ownBlock=some k->¬ S k):QsE B qs w':=⟨λq r=>(h.row q r).mod m (hS q r)⟩
def QsE.ne {α:Type}{enc:α->List Value}{sz T:Nat}{v:Value}{l:List α}(h:QsE B qs w)(ho:Vc.Own enc sz T B' w v l)(hT:AM 79 T=false):∀q∈qs,∀k,q.1.ownBlock=some k->¬ v.ownBlock=some k:=λq r k hk=>(h.row q r).ne ho hT hk
def QsE.snoc {v:Value}{l:List Cell}(h:QsE B qs w)(ho:Vc.Own Cell.cs 4 79 B w v l):QsE B (qs++[(v,l)]) w:=⟨λq r=>(Al.1 r).elim (h.row q) (λe=>by rw[Af.1 e];exact ho)⟩
def QsE.lt (h:QsE B qs w):∀q∈qs,∀k,q.1.ownBlock=some k->k<w.heap.size:=λq r k hk=>((h.row q r).lt k hk).2
end
def Y4 {rem:List Tb}{t:Tb}(ht:t∈rem)(hnd:(rem.map (·.h)).Nodup):rem.Perm (t :: rem.filter λq=>decide (q.h≠t.h))/\((rem.filter λq=>decide (q.h≠t.h)).map (·.h)).Nodup/\∀y,(y∈rem.map (·.h)/\y≠t.h)↔y∈(rem.filter λq=>decide (q.h≠t.h)).map (·.h):=by
 refine⟨?_,List.Nodup.sublist (C0 _ BZ) hnd,λy=>?_⟩
 ·induction rem with
  | nil=>cases ht
  | cons a r ih=>
   rw[Ak,Ba]at hnd;rw[BJ]
   by_cases e:a.h=t.h
   ·have O:a=t:=by
     rcases Ah.1 ht with e2|h2
     ·exact e2.symm
     ·exact absurd (by rw[e];exact BC h2) hnd.1
    rw[if_neg (by simp [e])];have:r.filter (λq=>decide (q.h≠t.h))=r:=Bz.2 λq z=>by
     have:q.h≠t.h:=λe2=>hnd.1 (by rw[e,<-e2];exact BC z);simpa using this
    rw[this,O]
   ·rw[if_pos (by simpa using e)];have J:t∈r:=(Ah.1 ht).resolve_left (λe2=>e (by rw[e2]));exact((ih J hnd.2).cons a).trans (List.Perm.swap t a _)
 ·simp only [Ao,Ax,decide_eq_true_eq]
  constructor
  ·rintro ⟨⟨q,z,rfl⟩,hn⟩;exact⟨q,⟨z,hn⟩,rfl⟩
  ·rintro ⟨q,⟨z,hn⟩,rfl⟩;exact⟨⟨q,z,rfl⟩,hn⟩
def LY (most:Int)(l:List Rw):List Rw:=if most<1 then l else l.take most.toNat
variable {m:List Cell}
def Xrd {c:Cell}(h:m[k]?=some c):IE (m.take (k+1))=if c.del=true then IE (m.take k)else IE (m.take k)++[⟨c.key,c.val,false⟩]:=by
 unfold IE;rw[GW h,Bs,A3]
 cases hd:c.del<;>simp [hd]
def Yr (m:List Cell)(k:Nat):(IE (m.take k)).length<=m.length:=by
 unfold IE;rw[Au];have h1:=Bk (λc:Cell=>!c.del) (m.take k);have h2:(m.take k).length<=m.length:=List.length_take_le' ..;omega
def Xu3 {most:Int}(h:((IE (m.take k)).length:Int)=most)(h1:1<=most):LY most (IE m)=IE (m.take k):=by
 have e:IE m=IE (m.take k)++IE (m.drop k):=by
  conv=>lhs;rw[<-AV k m]
  unfold IE;rw[Bs,A3]
 unfold LY;rw[if_neg Fe,e,<-h,Int.toNat_natCast,List.take_left]
def X0m {most:Int}(h:most<1\/((IE m).length:Int)<most):LY most (IE m)=IE m:=by
 unfold LY;split
 ·rfl
 ·exact Av Fe
def Se {qs:List (Value×List Cell)}{L:List (List Cell)}(h:qs.map (·.2)=L):qs.flatMap (·.2)=L.flatten:=by rw[<-h,Ec]
variable {ts:List Tb}
def WC {frm to:Fj}{dn:List Tb}(h:dn.Perm ts)(mem:List Cell):((scan mem frm to :: dn.map λt=>scan t.cs frm to).flatten).length<=(FR mem ts).length:=by
 have h1:∀dn:List Tb,((dn.map λt=>scan t.cs frm to).flatten).length<=(dn.flatMap (·.cs)).length:=by
  intro dn
  induction dn with
  | nil=>exact Aa _
  | cons t r ih=>
   have:(scan t.cs frm to).length<=t.cs.length:=Bk _ _;simp only [Ak,Cn,AA,Ad];omega
 have h2:=h1 dn;have h3:(dn.flatMap (·.cs)).length=(ts.flatMap (·.cs)).length:=(EV _ h).length_eq;have h4:(scan mem frm to).length<=mem.length:=Bk _ _;unfold FR;simp only [Cn,Ad];omega
def Vp {frm to:Fj}{dn:List Tb}(h:dn.Perm ts)(mem:List Cell)(c:Cell):c∈(scan mem frm to :: dn.map λt=>scan t.cs frm to).flatten↔c∈scan (FR mem ts) frm to:=by
 unfold scan;rw[Cn,Al,List.mem_flatten,Ax,Ax,Hu]
 constructor
 ·rintro (⟨h1,h2⟩|⟨x,hx,hc⟩)
  ·exact⟨.inl h1,h2⟩
  ·obtain⟨t,r,rfl⟩:=Ao.1 hx;have:=Ax.1 hc;exact⟨.inr ⟨t,h.mem_iff.1 r,this.1⟩,this.2⟩
 ·rintro ⟨h1|⟨t,r,h1⟩,h2⟩
  ·exact .inl ⟨h1,h2⟩
  ·exact .inr ⟨_,Ao.2 ⟨t,h.mem_iff.2 r,rfl⟩,Ax.2 ⟨h1,h2⟩⟩
def R7 (κ:Nat->Nat)(bs bd bl bo bm:Nat)(vf:Value)(L:Led)(D:Dsk)(V:Vs)(ts:List Tb)(mem:List Cell)(dead:Bool)(frm to:Fj)(most:Int)(w:World)(h:StE κ bs bd bl bo bm vf L D V ts mem dead w)(hnd:(ts.map (·.h)).Nodup)(hokh:∀t∈ts,Km t.h)(hml:mem.length<=900000)(hms:∀c∈mem,c.seq<=4611686018427387904)(htl:ts.length<=900000)(hcl:(FR mem ts).length<=9000000) :
  Gi 21 [Fh bs 0,S frm,S to,I most] w λu w'=>∃L m,(∀c,c∈L↔c∈scan (FR mem ts) frm to)/\L.length<=(FR mem ts).length/\Mg L m/\Vc.Own Rw.cs 3 48 w.heap.size w' u (LY most (IE m)):=by
 refine cE Tryz.func21 λO=>?_;have hm:=h.m;have z:=h.mp.at;have xv:=h.mr;have xw:=h.tb;refine go ?_;refine dp (GY Ff rfl rfl) ?_;refine Fk (λc1=>?_) λc1=>?_
 ·exact absurd c1 F0
 refine go ?_;refine df 5 (rfl) (Gj (xv.calls_scan frm to _ Fe hms) λv0 w1 x1 hg=>?_);have hsz1:=O.size;refine Fy x1 z O λz O=>?_;refine It (e:=95) (sz:=1) (zs:=[.slice none 0 0]) (pv:=[(0,?a6_0)]) (cs:=[?a6_0]) rfl Ff ⟨rfl,rfl⟩ Ff rfl ?h6 ?f6 RX.all (λb1 w2 e1 x2 m1=>?k6)
 case h6=>refine⟨rfl,?_,trivial⟩<;>(conv=>lhs;whnf)
 case f6=>simp [Hs,Gw,Ap,hg.sl.cells]
 have g1:=O.ge e1;have n1_mp9:=z.lt;have o1_hoS:=hg.ltb e1;refine FC x2 z hg O λz hg O=>go ?_;refine df 4 (rfl) (dl rfl ((hm.ext O).at rfl) (WV Og rfl rfl z RX.all (λb2 w3 hp e2 x3 hcn2 hc=>?_)));have g2:=O.ge e2;have n2_1:=m1.ltb e2;have n2_mp9:=z.lt;have o2_hoS:=hg.ltb e2;refine FQ x3 z hg m1 O λz hg m1 O=>?_;refine F8 (G:=List Tb×List Tb×List (Value×List Cell)×Value×Nat) (λ(rem,dn,qs,vr,cnt)=>[(1,S frm),(2,S to),(3,I most),(8,.slice none 0 0),(9,vr),(29,Fh b2 0)]) (λ(rem,dn,qs,vr,cnt) w'=>Fq w w'/\Vc.Xbd Tryz.prog 104 GM pO w' bo (ts.map Tb.kv).length (lk (ts.map Tb.kv))/\(dn++rem).Perm ts/\(rem.map (·.h)).Nodup/\qs.map (·.2)=(scan mem frm to :: dn.map λt=>scan t.cs frm to)/\Vc.Own Lh 1 95 w.heap.size w' vr qs/\QsE w.heap.size qs w'/\Vc.Xa4 Tryz.prog 104 GM pO w' bo b2 (ts.map Tb.kv).length (lk (ts.map Tb.kv)) (λx=>x∈rem.map (·.h)) cnt) (λ(rem,dn,qs,vr,cnt)=>cnt) (ts,[],[(v0,scan mem frm to)],.slice (some ⟨b1,0,none⟩) 1 1,hp) ⟨O,z,List.Perm.refl _,hnd,rfl,m1.own (enc:=Lh) (B:=w.heap.size) (l:=[(v0,scan mem frm to)]) (sz:=1) (m:=1) g1 rfl Fg rfl (An rfl),⟨λq hq=>by rw[Af.1 hq];exact hg⟩,hc.congr (λx=>by rw[P5,Jp,Option.isSome_map];unfold HO;rw[List.find?_isSome];simp)⟩ ?_;rintro _ ⟨rem,dn,qs,vr,cnt⟩ w4 ⟨O,z,hpr,hndr,hqs,ha,hQ,hc⟩;refine go ?_;refine WT Og rfl rfl hc (.inl rfl) (λxu=>?_) (λx a w5 hp hok xm xk hr xs5 xt h5 xg=>?_)
 ·have xr:rem=[]:=by
   cases rem with
   | nil=>rfl
   | cons q r=>exact absurd (Ao.2 ⟨q,Ai,rfl⟩) (xu q.h (hokh q (hpr.mem_iff.1 F0)))
  subst xr;rw[AI]at hpr;have h8:=congrArg A9 hqs;have xh:=hpr.length_eq;simp only [Au,Az]at h8;refine go ?_;refine GS rfl (Gj (TC qs vr _ (ha.arr Fg) (λq hq=>(hQ.row q hq).arr Fg) Fe (by rw[Se hqs];have:=WC (frm:=frm) (to:=to) hpr mem;omega)) λvm w6 x6 xo=>?_);have xj:=O.size;refine Ga x6 z ha hQ hc O λz ha hQ hc O=>?_;obtain⟨m,hw,xf⟩:=xo;have Y:=xf.mono xj;have xc:=(NT hw).1;rw[Se hqs]at xc hw;have hy:=WC (frm:=frm) (to:=to) hpr mem;refine dv 79 4 (Y.arr Fg).sl (F8 (G:=Nat×Value) (λ(k,vl)=>[(3,I most),(8,.slice none 0 0),(12,vl),(42,vm),(43,I ↑m.length),(44,I ↑k)]) (λ(k,vl) w'=>Fq w w'/\k<=m.length/\(most<1\/((IE (m.take k)).length:Int)<most)/\Vc.Own Rw.cs 3 48 w.heap.size w' vl (IE (m.take k))/\Vc.Own Cell.cs 4 79 w.heap.size w' vm m) (λ(k,vl)=>m.length-k) (0,.slice none 0 0) ⟨O,Ab _,(by show most<1\/((0:Nat):Int)<most;omega),Vc.Own.nil,Y⟩ ?_);rintro _ ⟨k,vl⟩ w7 ⟨O,hk1,hmo,J,Y⟩;refine Fk (λc2=>?_) λc2=>?_
  ·obtain⟨c,hk⟩:∃c,m[k]?=some c:=F7;have hf:=Xrd hk;have hrl:=Yr m k;refine go ?_;refine di 79 4 (Y.arr Fg).sl rfl ((Y.arr Fg).lt hk) (dq (Fx Ff rfl rfl ((Y.arr Fg).row hk)) (aL [S [],S [],B false,.int .i64 0] λb3 w8 e3 x8 m3=>?_));have g3:=O.ge e3;have o3_hoR:=J.ltb e3;have o3_hoM:=Y.ltb e3;refine FC x8 J Y O λJ Y O=>Gg m3 (λw9 x9 xs9 m3=>?_);have J:=J.mod x9 Fw;have Y:=Y.mod x9 Fw;have O:=O.o1 x9;refine Gb (λc3=>?_) λc3=>?_
   ·refine go ?_;rw[if_pos c3]at hf;exact FL (k+1,vl) ⟨O,by omega,by rw[hf];exact hmo,by rw[hf];exact J,Y⟩
   refine go ?_;refine db (zs:=[S [],S [],B false]) (pl:=[(0,1),(1,1),(2,1)]) (pv:=[(0,_),(1,_)]) (cs:=[_,_,B false]) ?_;refine lA 48 rfl λb4 w10 e4 xx m4=>?_;have g4:=O.ge e4;have o4_hoR:=J.ltb e4;have o4_hoM:=Y.ltb e4;refine FC xx J Y O λJ Y O=>G8 ⟨c.key,c.val,false⟩ J m4 λxq w11 xb xe=>?_;have Y:=Y.mod xe (by exact(λk hk=>Y.ne J rfl hk));have O:=O.own xe F5;have J:=xb;clear m4;refine go ?_;refine dv 48 3 (J.arr Fg).sl ?_;refine Fk (λc4=>?_) λc4=>?_
   ·refine go ?_;rw[if_neg (by rw[c3];decide)]at hf;rw[<-hf]at J;have hj:=congrArg A9 hf;simp only [Ad,Az,Bj]at hj c4;rw[<-Xu3 (k:=k+1) (m:=m) (most:=most) Fe Fe]at J;exact⟨_,rfl,O,_,m,Vp hpr mem,hy,hw,J⟩
   refine go ?_;rw[if_neg (by rw[c3];decide)]at hf;rw[<-hf]at J;have hj:=congrArg A9 hf;simp only [Ad,Az,Bj]at hj c4;exact FL (k+1,xq) ⟨O,by omega,by omega,J,Y⟩
  refine go ?_;rw[Av Fe]at J hmo;rw[<-X0m hmo]at J;exact⟨_,rfl,O,_,m,Vp hpr mem,hy,hw,J⟩
 have z:=z.mod hr Fw;have ha:=ha.mod hr (by exact(λk hk e=>hc.ne_own ha (hk.trans (congrArg some e))));have hQ:=hQ.mod hr (λq hq k hk e=>hc.ne_own (hQ.row q hq) (hk.trans (congrArg some e)));have O:=O.own hr F5;have hc:=h5;obtain⟨t,ht,rfl⟩:=Ao.1 xm;have xl:t∈ts:=hpr.mem_iff.1 (Bb _ ht);rw[P5,Jp,OE hnd xl]at xk
 cases xk
 have hT:=xw t xl;obtain⟨xa,xi,hz⟩:=Y4 ht hndr;have h8:=congrArg A9 hqs;have xh:=hpr.length_eq;simp only [Au,Az,Ad]at h8 xh;refine go ?_;refine GU rfl (go ?_);refine dq (Xrt rfl xg) (F3 (v:=Fh t.bt 0) rfl (WP rfl rfl) rfl (Gj (UB t.bt t.vl t.vb t.cs frm to _ (hT.ext O)) λvt w12 xn xd=>?_));have h7:=O.size;refine Ga xn z ha hQ hc O λz ha hQ hc O=>?_;have hh:=xd.mono h7;refine It (e:=95) (sz:=1) (zs:=[.slice none 0 0]) (pv:=[(0,?a32_0)]) (cs:=[?a32_0]) rfl Ff ⟨rfl,rfl⟩ Ff rfl ?h32 ?f32 RX.all (λb5 w13 e5 xy m5=>?k32)
 case h32=>refine⟨rfl,?_,trivial⟩<;>(conv=>lhs;whnf)
 case f32=>simp [Hs,Gw,Ap,hh.sl.cells]
 have g5:=O.ge e5;have n5_mp9:=z.lt;have n5_rg2:=hc.lt;have n5_rg2m:=hc.map.lt;have o5_hoQ:=ha.ltb e5;have a5_hQ:=hQ.lt;refine HB xy z ha hQ hc hh O λz ha hQ hc hh O=>G8 (vt,scan t.cs frm to) ha m5 (λvq w14 h9 hl=>?_) (h1:=(by intro x xp u hu;rw[Af.1 xp]at hu;simp at hu;rw[hu];exact hh.sl.one));have z:=z.mod hl (z.ne_own ha);have hQ:=hQ.mod hl (by exact hQ.ne ha rfl);have hc:=hc.mod hl (hc.map.ne_own ha) (hc.ne_own ha);have hh:=hh.mod hl (by exact(λk hk=>hh.ne ha rfl hk));have O:=O.own hl F5;have ha:=h9;clear m5;refine go ?_;exact⟨(rem.filter (λq=>decide (q.h≠t.h)),dn++[t],qs++[(vt,scan t.cs frm to)],vq,hp),HW,⟨O,z,by rw[List.append_assoc];exact(DW dn xa.symm).trans hpr,xi,by rw[A3,hqs,A3];rfl,ha,hQ.snoc hh,hc.congr (λy=>hz y)⟩,xt⟩
def X0n {i:Nat}{c:Cell}(h1:lv<i)(h:0<(IM fs ↑i c.key c.key).length):I7 fs ↑lv c=true:=by
 obtain⟨f,J⟩:=List.exists_mem_of_length_pos h;obtain⟨z,r⟩:=Ax.1 J;unfold Ke at r;simp only [Aw,decide_eq_true_eq]at r;unfold I7;rw[Bool.or_eq_true];refine .inr (List.any_eq_true.2 ⟨f,z,?_⟩);rw[decide_eq_true (show(↑lv:Int)<f.lev by omega),r.1.2,r.2];rfl
def X3y {c:Cell}(hd:c.del=true)(hlv:∀f∈fs,0<=f.lev/\f.lev<=4)(h:∀i:Nat,lv<i->i<5->¬ 0<(IM fs ↑i c.key c.key).length):I7 fs ↑lv c=false:=by
 unfold I7;rw[hd];rw[Bool.not_true,Bool.false_or,D7];intro f z r;rw[Aw,Aw,decide_eq_true_eq]at r;have hr:=hlv f z;refine h f.lev.toNat Fe Fe (List.length_pos_of_mem (a:=f) (Ax.2 ⟨z,?_⟩));unfold Ke;rw[decide_eq_true (show f.lev=↑f.lev.toNat by omega),r.2.1,r.2.2];rfl
def Xu4 {lv:Int}{c:Cell}(hd:c.del=false):I7 fs lv c=true:=by unfold I7;rw[hd];rfl
def X9p (bs bd bl:Nat)(n:Int)(vf:Value)(bo bm:Nat)(dead:Bool)(fs:List Fi)(c:Cell)(lv:Nat)(w:World)(hs:Fp w bs (Iu bd bl n vf bo bm dead) 90)(hv:Fu Fi.cs 5 w vf fs)(hl:fs.length<=100000)(hlv:∀f∈fs,0<=f.lev/\f.lev<=4)(hl4:lv<=4) :
  FX 53 [Fh bs 0,c.v,I ↑lv] w (B (I7 fs ↑lv c)):=by
 refine cE Tryz.func53 λr=>go ?_;refine G1 rfl rfl rfl RX.all (λb1 w1 e1 x1 z=>?_);have g1:=r.ge e1;have r:=r.trans x1;refine Gb (λJ=>?_) λJ=>?_
 ·refine go ?_;exact⟨by rw[Xu4 (by simpa using J)],r⟩
 refine F8 (G:=Nat) (λi=>[(0,Fh bs 0),(4,Fh b1 0),(7,I ↑i)]) (λi w'=>Fq w w'/\lv<i/\i<=5/\(∀j:Nat,lv<j->j<i->¬ 0<(IM fs ↑j c.key c.key).length)/\Fp w' b1 c.cs 79) (λi=>5-i) (lv+1) ⟨r,by omega,by omega,λj h1 h2=>by omega,z⟩ ?_;rintro _ i w2 ⟨r,hi1,hi2,hA,z⟩;refine go ?_;refine dp (IJ rfl rfl) ?_;refine Fk (λc2=>?_) λc2=>?_
 ·refine Gt 1005101001000 λw3 O=>Fy O z r λz r=>?_;refine go ?_;refine Gh rfl (λw' hR=>Fx Ff rfl rfl ((hs.ext (r.trans hR)).part 2 2)) (Gj (Qv n fs vf ↑i c.key c.key _ (hv.ext r) hl) λvo w4 x4 Y=>?_);have hsz4:=r.size;refine Fy x4 z r λz r=>dv 62 5 (Y.arr Fg).sl ?_;refine Fk (λc3=>?_) λc3=>?_
  ·refine go ?_;exact⟨by rw[X0n hi1 Fe],r⟩
  refine go ?_;refine FL (i+1) ⟨r,by omega,by omega,λj h1 h2=>?_,z⟩
  by_cases e9:j=i
  ·subst e9;omega
  ·exact hA j h1 Fe
 refine go ?_;exact⟨by rw[X3y (by simpa using J) hlv (λj h1 h2=>hA j h1 Fe)],r⟩
def Ycp (bs bd bl:Nat)(n:Int)(vf:Value)(bo bm:Nat)(dead:Bool)(fs:List Fi)(c:Cell)(lv:Nat)(b1 b2:Nat)(w:World)(hs:Fp w bs (Iu bd bl n vf bo bm dead) 90)(hv:Fu Fi.cs 5 w vf fs)(hl:fs.length<=100000)(hlv:∀f∈fs,0<=f.lev/\f.lev<=4)(hl4:lv<=4)(hb1:Fp w b1 [Fh bs 0] 28)(hb2:Fp w b2 [I ↑lv] 3) :
  FX 52 [c.v,Fh b1 0,Fh b2 0] w (B (!I7 fs ↑lv c)):=by
 refine cE Tryz.func52 λr=>go ?_;refine G1 rfl rfl rfl RX.all (λb1 w1 e1 z J=>?_);have g1:=r.ge e1;have r:=r.trans z;refine go ?_;refine dl rfl ((hb1.ext r).at rfl) (dq (Fx (k:=4) Ff rfl rfl J.row) (dl rfl ((hb2.ext r).at rfl) (cP (X9p bs bd bl n vf bo bm dead fs c lv _ (hs.ext r) (hv.ext r) hl hlv hl4) RX.all λw2 O=>?_)));have r:=r.trans O;refine go ?_;exact⟨rfl,r⟩
def Ycq (l:List Cell)(v:Value)(Bo f:Nat)(cs:List Value)(p:Cell->Bool)(w:World)(ho:Vc.Own Cell.cs 4 79 Bo w v l)(hl:l.length<=1000000)(hcb:Hr Tryz.prog f=true)(hc:∀w2,Vc.Mod (λk=>v.ownBlock=some k) w w2->∀x∈l,Calls Tryz.prog f ([x.v]++cs).toArray w2 (Pure w2 (B (p x)))) :
  G4 51 [v,J2 f cs] w (λk=>v.ownBlock=some k) λu w'=>Vc.Own Cell.cs 4 79 Bo w' u (l.filter λx=>!p x):=by
 refine cM Tryz.func51 (λk=>v.ownBlock=some k) λr=>?_;have Y:=ho.sl;refine go ?_;have ho2:=ho.mod r;refine cG (X74 l v f cs p _ (ho.arr Fg) Fe hcb (λw2 x2=>hc w2 (r.ext x2))) RX.all λu1 w1 x1 hh=>?_;have hsz1:=r.size;refine Fy x1 ho r λho r=>?_;obtain⟨i0,rfl,hf⟩:=hh;refine Fk (λc1=>?_) λc1=>?_
 ·refine go ?_;have e9:l.filter (λx=>!p x)=l:=Bz.2 λx hg=>by
   rcases hf with⟨_,h9⟩|⟨k9,e8,_⟩
   ·simpa using D7.1 h9 x hg
   ·omega
  exact⟨_,rfl,r,by rw[e9];exact ho⟩
 obtain⟨k0,rfl,hk1,x0,hx0,hp0⟩:∃k:Nat,i0=↑k/\(l.take k).any p=false/\∃x,l[k]?=some x/\p x=true:=hf.elim (λh9=>absurd h9.1 (by simpa using c1)) (λh9=>h9);have hkl0:=(Ar.1 hx0).1;refine go ?_;refine XR (G:=Nat×Nat×List Cell) (λ(n,k,cur)=>[(0,v),(1,J2 f cs),(4,.slice none 0 0),(5,I ↑k),(6,I ↑n)]) (λ(n,k,cur) w'=>Mod (λk=>v.ownBlock=some k) w w'/\KV p l n k cur/\Vc.Own Cell.cs 4 79 Bo w' v cur) (λ(n,k,cur)=>l.length-n) (k0+1,k0,l) ?_ ?_ ?_
 ·exact Hc
 ·exact⟨r,Ybt hx0 hp0 (λi y hi hy=>by cases e:p y with
  | false=>rfl
  | true=>exact absurd e (by have:=D7.1 hk1 y (Ag (i:=i) (by rw[List.getElem?_take,if_pos hi];exact hy));exact this)),ho⟩
 rintro _ ⟨n,k,cur⟩ w2 ⟨r,hr,ho⟩;have ha:=hr.1;have hr2:=hr.2.1;have hr3:=hr.2.2.1;have hj:=Kz ho (λe=>by rw[e]at ha;simp at ha;omega);refine go ?_;refine dv 79 4 (ho.arr Fg).sl ?_;refine Fk (λc2=>?_) λc2=>?_
 ·obtain⟨x,hk2⟩:∃x,l[n]?=some x:=F7;have hk:cur[n]?=some x:=(hr.2.2.2.2 n (Aa n)).trans hk2;refine go ?_;refine di 79 4 (ho.arr Fg).sl rfl ((ho.arr Fg).lt hk) (dq (Fx Ff rfl rfl ((ho.arr Fg).row hk)) (aL [S [],S [],B false,.int .i64 0] λb1 w3 e1 x3 O=>?_));have g1:=r.ge e1;have o1_ho:=ho.ltb e1;refine Fy x3 ho r λho r=>Gg O (λw4 x4 xs4 O=>?_);have ho:=ho.mod x4 Fw;have r:=r.o1 x4;refine go ?_;refine dq (Fx (k:=4) Ff rfl rfl O.row) (Q6 (vs:=[x.v]) (cs:=cs) rfl rfl hcb (hc _ r x (Ag hk2)) rfl RX.all (λw5 x5=>FC x5 ho O r λho O r=>?_));refine Gb (λc3=>?_) λc3=>?_
  ·refine go ?_;refine dq (Fx (k:=4) Ff rfl rfl O.row) (F3 (v:=Fh (base v).1 (k*4+0)) rfl (Ir (i:=k) (e:=79) (k:=4) Ff ho.sl rfl rfl Fe) (by rw[hj];show Fh _ (0+_)=_;rw[Nat.zero_add];rfl) ?_);refine Ie (enc:=Cell.cs) (sz:=4) (l:=cur) (i:=k) (j:=0) (x:=x) (vs:=x.cs) Fg rfl ho rfl rfl rfl Ff Fe rfl (Aa 4) (by intro v hv;simp at hv;rcases hv with rfl|rfl|rfl|rfl<;>rfl) (.inl rfl) (λw6 x6 xs6 J=>?_);have r:=r.own x6 F5;have ho:=J;refine go ?_;exact⟨(n+1,k+1,_),Hc,⟨r,Xtd hr hk2 (by simpa using c3),ho⟩,by simp only [];omega⟩
  refine go ?_;exact⟨(n+1,k,cur),Hc,⟨r,Xyw hr hk2 (by simpa using c3),ho⟩,by simp only [];omega⟩
 refine go ?_;refine dp (HH (e:=79) (k:=4) (m:=cur.length) (a:=k) (b:=cur.length) Ff ho.sl rfl rfl rfl Fe Fe) ?_;refine Yv (enc:=Cell.cs) (sz:=4) (e:=79) (l:=cur) (k:=k) (zs:=[S [],S [],B false,.int .i64 0]) Fg rfl Ff Ff rfl Fo (by intro z hz;simp at hz;rcases hz with rfl|rfl|rfl|rfl<;>rfl) ho rfl Fe (.inl rfl) (λw7 x7 xs7 J=>?_);have r:=r.own x7 F5;have ho:=J;refine go ?_;refine dp (HH (e:=79) (k:=4) (m:=l.length) (a:=0) (b:=k) Ff Y rfl rfl rfl Fe Fe) (go ?_);rw[hr.2.2.2.1,Av Fe]at ho;exact⟨_,rfl,r,ho⟩
def MK (ts:List Tb)(f:Fi):List Cell:=match HO ts (f.lev,f.id)with
 | some t=>t.cs
 | none=>[]
def Sm (ts:List Tb)(p:List Fi):Js ts p=(p.map (MK ts)).flatten:=by rw[<-Ec];rfl
def Wl {t:Tb}(h:HO ts (f.lev,f.id)=some t):MK ts f=t.cs:=by unfold MK;rw[h]
def Xpn {h k:Int×Int}(hk:k≠h):HO (ts.filter λq=>decide (q.h≠h)) k=HO ts k:=by
 unfold HO;rw[List.find?_filter]
 congr 1
 funext q
 by_cases e:q.h=k
 ·have:q.h≠h:=λe2=>hk (e.symm.trans e2);simp [e,hk]
 ·simp [e]
def R0 : ∀(p:List Fi) (ts:List Tb),(ts.map (·.h)).Nodup->(p.map λf=>(f.lev,f.id)).Nodup->(Js ts p).length<=(ts.flatMap (·.cs)).length
 | [],ts,_,_=>Ab _
 | f :: r,ts,hn,hp=>by
  rw[Ak,Ba]at hp;have e:Js ts (f :: r)=MK ts f++Js ts r:=rfl;rw[e,Ad]
  cases ht:HO ts (f.lev,f.id)with
  | none=>
   have e2:MK ts f=[]:=by unfold MK;rw[ht]
   rw[e2];have:=R0 r ts hn hp.2;simpa using this
  | some t=>
   have J:=Qh ht;have z:t.h=(f.lev,f.id):=by unfold HO at ht;simpa using Da ht
   obtain⟨h1,h2,_⟩:=Y4 J hn;have h3:=R0 r _ h2 hp.2;have h4:Js (ts.filter λq=>decide (q.h≠t.h)) r=Js ts r:=by
    rw[Sm,Sm]
    congr 1
    apply List.map_congr_left
    intro g Y;unfold MK;rw[Xpn (λO=>hp.1 (by rw[<-z,<-O];exact Ao.2 ⟨g,Y,rfl⟩))]
   rw[h4]at h3;have h5:=(EV (·.cs) h1).length_eq;rw[AA,Ad]at h5;rw[Wl ht];omega
def X0p (fs:List Fi):Je fs []=fs:=by unfold Je;exact Bz.2 λf _=>by simp
section
variable {n:Int}{V V':Vs}{ts ts':List Tb}{mem mem':List Cell}{L L':Led}{D D':Dsk}{dead dead' ok:Bool}{e:Int}
def Sto.tlen (h:Sto n V ts mem):ts.length<=(FR mem ts).length:=by
 have:∀l:List Tb,(∀t∈l,t.cs≠[])->l.length<=(l.flatMap (·.cs)).length:=by
  intro l J
  induction l with
  | nil=>exact Ab _
  | cons t r ih=>
   have h1:=ih (λt z=>J t (Aj _ z));have h2:=CM.2 (J t Ai);rw[AA,Ad,Az];omega
 have h1:=this ts (λt z=>by obtain⟨f,_,hv⟩:=h.bwd t z;exact hv.ne);unfold FR;rw[Ad];omega
def Sto.okh (h:Sto n V ts mem):∀t∈ts,Km t.h:=λt r=>by
 have h1:=h.lev r;obtain⟨f,z,hv⟩:=h.bwd t r;have h2:=Nw h.isv f z;rw[hv.h];exact⟨h2.2,h2.1⟩
def Sto.cellsB (h:Sto n V ts mem)(hn:n<=1099511627776):∀c∈FR mem ts,c.key.length<=4096/\c.val.length<=16384/\c.seq<=4611686018427387904:=λc r=>by
 have h1:=(h.okc c r).1;have h2:=(h.okc c r).2;unfold Gl at h1;simp only [Aw,decide_eq_true_eq]at h1;omega
def Sg {α β:Type}(f:α->β):∀ {l:List α},(l.map f).Nodup->l.Nodup
 | [],_=>BR
 | a :: r,h=>by
  rw[Ak,Ba]at h;exact Ba.2 ⟨λh2=>h.1 (BC h2),Sg f h.2⟩
def Xpo {p:List Fi}(h:(p.map (·.id)).Nodup):(p.map λf=>(f.lev,f.id)).Nodup:=by
 have e:(p.map λf=>(f.lev,f.id)).map Prod.snd=p.map (·.id):=by rw[List.map_map];rfl
 rw[<-e]at h;exact Sg _ h
def Tk (h:Sto n V ts mem)(hf:KS L D V ts mem false ok 0 L' D' V' ts' mem' dead') :
  dead'=false/\mem'=[]/\Sto n V' ts' []/\(∀c∈FR [] ts',c∈FR mem ts)/\(FR [] ts').length<=(FR mem ts).length/\((J8 V.fs).isSome=true->(J8 V'.fs).isSome=true)/\L'.last=L.last/\L'.ents.length<=L.ents.length/\(∀M,Sp.Told (FR mem ts) M->Sp.Told (FR [] ts') M)/\(∀g:Cell->Nat,F9 g (FR [] ts')<=F9 g (FR mem ts)):=by
 rcases hf with⟨h1,_⟩|⟨_,rfl,_,_,rfl,rfl,rfl,rfl,rfl,rfl⟩|⟨_,_,m,hm,r,h2⟩
 ·cases h1
 ·exact⟨rfl,rfl,h,λc r=>r,Aa _,λh=>h,rfl,Aa _,λM h=>h,λg=>Aa _⟩
 ·obtain⟨⟨h3,h4⟩,h5⟩:=O0 r;rcases h5 with⟨h5,_⟩|⟨_,rfl,hs⟩
  ·exact absurd rfl h5
  ·rcases h2 with⟨h2,_⟩|⟨_,_,rfl⟩
   ·exact absurd rfl h2
   ·obtain⟨ha,Y⟩:=PU (RC h.ms) hm;obtain⟨k1,tbs,k2,k3⟩:=hs.sto h (λf hf=>(by cases hf)) ha (λc r=>Hu.2 (.inl ((Y c).1 r).1)) (λu hu _ _ c r d hd hk=>h.n1 c ((Y c).1 r).1 u hu d hd hk) (λt J _ hl=>by have:=(h.lev J).1;omega);have k0:ts.filter (kp [])=ts:=Bz.2 λt _=>rfl;rw[k0]at k2;have z:=NT hm;refine⟨rfl,rfl,k1,λc r=>?_,?_,λhp=>?_,h3,h4,λM hT=>(hs.flush h hm hT).2.1,λg=>?_⟩
    ·rw[k2]at r;rcases Hu.1 r with r|⟨t,J,r⟩
     ·cases r
     ·rcases Al.1 J with J|J
      ·exact Hu.2 (.inr ⟨t,J,r⟩)
      ·exact Hu.2 (.inl (z.2 c (by rw[<-k3];exact List.mem_flatMap.2 ⟨t,J,r⟩)))
    ·rw[k2];unfold FR;rw[AG,Bc,k3,Ad,Ad];have:=z.1;omega
    ·obtain⟨fs',O,_,rfl⟩:=hs.vs;rw[List.map_nil,X0p]at O;exact X0l O hp
    ·rw[k2];unfold FR;rw[AG,Bc,k3,Kk,Kk];have:=OZ (g:=g) hm;omega
end
def NS (L:Led)(D:Dsk)(V:Vs)(ts:List Tb)(mem:List Cell)(dead did:Bool)(e:Int)(L':Led)(D':Dsk)(V':Vs)(ts':List Tb)(mem':List Cell)(dead':Bool):Prop:=
 (dead=true/\did=false/\e=9/\L'=L/\D'=D/\V'=V/\ts'=ts/\mem'=mem/\dead'=dead)\/
 (dead=false/\J8 V.fs=none/\did=false/\e=0/\L'=L/\D'=D/\V'=V/\ts'=ts/\mem'=mem/\dead'=dead)\/
 (dead=false/\(J8 V.fs).isSome=true/\∃ok e1 L1 D1 V1 ts1 mem1 dead1,KS L D V ts mem false ok e1 L1 D1 V1 ts1 mem1 dead1/\
  ((e1≠0/\did=false/\e=e1/\L'=L1/\D'=D1/\V'=V1/\ts'=ts1/\mem'=mem1/\dead'=dead1)\/
   (e1=0/\∃(p:List Fi) (lv:Nat) (m:List Cell) (e2:Int) (D2:Dsk) (dead2:Bool),J8 V1.fs=some p/\PickP V1 p ↑lv/\Mg (Js ts1 p) m/\Lf L1 D1 V1 ts1 false (m.filter (I7 V1.fs ↑lv)) ↑lv p e2 L' D2 V' ts' dead2/\mem'=[]/\
    ((e2≠0/\did=false/\e=e2/\D'=D2/\dead'=dead2)\/
     (e2=0/\D'=(D2.rem (p.map λf=>GJ f.id)).2/\(((D2.rem (p.map λf=>GJ f.id)).1≠0/\did=false/\e=(D2.rem (p.map λf=>GJ f.id)).1/\dead'=true)\/((D2.rem (p.map λf=>GJ f.id)).1=0/\did=true/\e=0/\dead'=dead2)))))))
def X3z (L:Led)(D:Dsk)(p:Fj):((L.append D p).2.1≠0/\(L.append D p).2.2.1.last=L.last/\(L.append D p).2.2.1.ents.length<=L.ents.length)\/
  ((L.append D p).2.1=0/\(L.append D p).1=L.last+1/\(L.append D p).2.2.1.last=L.last+1/\(L.append D p).2.2.1.ents.length=L.ents.length+1/\L.last<1099511627776):=by
 cases hd:L.dead with
 | true=>rw[Vt hd];exact .inl ⟨(by decide:(9:Int)≠0),rfl,Aa _⟩
 | false=>
  by_cases h2:65536<p.length\/1099511627776<=L.last
  ·rw[R4 hd h2];exact .inl ⟨(by decide:(5:Int)≠0),rfl,Aa _⟩
  ·by_cases h3:(IH L D p).1≠0
   ·rw[UF hd h2 h3];exact .inl ⟨h3,rfl,Aa _⟩
   ·rw[QR hd h2 h3];exact .inr ⟨rfl,rfl,by unfold Led.last;simp;omega,by simp,by omega⟩
def cW (c:Cell):Nat:=1+c.key.length+c.val.length
def X0q {g:Cell->Nat}(out:List Cell)(c:Cell):F9 g (Hw out c)<=F9 g out+g c:=by
 unfold Hw;split
 ·omega
 ·have h:=List.takeWhile_append_dropWhile (p:=λx:Cell=>F6 x.key c.key) (l:=out);have h2:F9 g out=F9 g (out.takeWhile λx=>F6 x.key c.key)+F9 g (out.dropWhile λx=>F6 x.key c.key):=by
   rw[<-Kk,h]
  rw[Kk];have h3:F9 g (c :: out.dropWhile λx=>F6 x.key c.key)=g c+F9 g (out.dropWhile λx=>F6 x.key c.key):=by unfold F9;rw[Ak,A4]
  omega
def Xt (s:Int):∀l:List Rw,F9 cW (Gp l s)<=(l.map G5).sum
 | []=>Ab _
 | r :: l=>by
  have h1:=Xt s l;have h2:=X0q (g:=cW) (Gp l s) (r.cell s);have h3:cW (r.cell s)=G5 r:=rfl;have h4:Gp (r :: l) s=Hw (Gp l s) (r.cell s):=rfl;rw[h4,Ak,A4];omega
def SF : ∀l:List Rw,l.length<=(l.map G5).sum
 | []=>Ab _
 | r :: l=>by
  have h1:=SF l;have h2:1<=G5 r:=by unfold G5;omega
  rw[Ak,A4,Az];omega
structure TI (S i:Nat)(L:Led)(V:Vs)(ts:List Tb)(mem:List Cell)(M:List Rw):Prop where
 sto:Sto L.last V ts mem
 told:Sp.Told (FR mem ts) M
 l0:0<=L.last/\L.last<=i
 en:L.ents.length<=i
 wt:F9 cW (FR mem ts)<=S
 ml:M.length<=S
section
variable {S i:Nat}{L L':Led}{D D':Dsk}{V V':Vs}{ts ts':List Tb}{mem mem':List Cell}{M:List Rw}{dead dead' ok:Bool}{e:Int}
def TI.nil : TI 0 0 JQ ⟨1,[]⟩ [] [] []:=by
 refine⟨⟨by decide,λf O=>(by cases O),λt J=>(by cases J),BR,λt J=>(by cases J),λc z=>(by cases z),Bu,λc z=>(by cases z),λt J=>(by cases J)⟩,⟨Bu,λr=>⟨λh=>(by cases h),λ⟨c,z,_⟩=>(by cases z.1)⟩⟩,by decide,by decide,by decide,by decide⟩
def TI.mono {S' i':Nat}(h:TI S i L V ts mem M)(hS:S<=S')(hi:i<=i'):TI S' i' L V ts mem M:=
 ⟨h.sto,h.told,⟨h.l0.1,by have:=h.l0.2;omega⟩,Ae h.en hi,Ae h.wt hS,Ae h.ml hS⟩
def TI.len (h:TI S i L V ts mem M):2*(FR mem ts).length<=S:=by
 refine Ae ?_ h.wt;have:∀l:List Cell,(∀c∈l,Gl c=true)->2*l.length<=F9 cW l:=by
  intro l z
  induction l with
  | nil=>exact Ab _
  | cons c r ih=>
   have h1:=ih (λx O=>z x (Aj _ O));have h2:=z c Ai;unfold Gl at h2;simp only [Aw,decide_eq_true_eq]at h2;unfold F9 at *;rw[Ak,A4,Az];have h3:cW c=1+c.key.length+c.val.length:=rfl;omega
 exact this _ (λc J=>(h.sto.okc c J).1)
def TI.up (h:TI S i L V ts mem M):Mx M:=h.told.1
def TI.write {l:List Rw}(h:TI S i L V ts mem M)(hw:Rp L D mem dead l e L' D' mem' dead'):TI (S+(l.map G5).sum) (i+1) L' V ts mem' (if e=0 then MJ M l else M):=by
 have h0:=h.mono (B8 S (l.map G5).sum) (Nat.le_succ i);rcases hw with⟨_,rfl,rfl,_,rfl,_⟩|⟨_,h1,rfl,rfl,_,rfl,_⟩|⟨_,hc,rfl,_,hr⟩
 ·exact h0
 ·rw[if_neg h1];exact h0
 ·rcases X3z L D (G2 l)with⟨a1,a2,a3⟩|⟨a1,a2,a3,a4,a5⟩
  ·rcases hr with⟨b1,rfl,rfl,_⟩|⟨b1,_⟩
   ·rw[if_neg b1];exact⟨by rw[a2];exact h0.sto,h0.told,by rw[a2];exact h0.l0,Ae a3 h0.en,h0.wt,h0.ml⟩
   ·exact absurd b1 a1
  ·rcases hr with⟨b1,_⟩|⟨_,rfl,rfl,_⟩
   ·exact absurd a1 b1
   ·obtain⟨r,z⟩:=h.sto.write h.told hc ⟨h.l0.1,a5⟩;rw[if_pos rfl,a2];have hl1:=h.l0;have hen:=h.en;have hwt:=h.wt;have hml:=h.ml;have hcw:=Xt (L.last+1) l;refine⟨by rw[a3];exact r,z,by rw[a3];omega,by omega,?_,?_⟩
    ·have hpw:=Wq (g:=cW) (Gp l (L.last+1)) mem;unfold FR at *;rw[Kk]at *;omega
    ·have h5:=Xtt (Gp l 1) h.up;have h6:=P4 l 1;have h7:=SF l;have J:MJ M l=ML M (Gp l 1):=rfl;rw[J];omega
def TI.flush (h:TI S i L V ts mem M)(hf:KS L D V ts mem dead ok e L' D' V' ts' mem' dead'):TI S i L' V' ts' mem' M:=by
 rcases hf with⟨_,_,_,rfl,_,rfl,rfl,rfl,_⟩|⟨_,_,_,_,rfl,_,rfl,rfl,rfl,_⟩|⟨hd,_,m,hm,hc,h2⟩
 ·exact h
 ·exact h
 ·obtain⟨⟨h3,h4⟩,r⟩:=O0 hc;rcases r with⟨r,rfl,rfl⟩|⟨rfl,_,hs⟩
  ·rcases h2 with⟨_,_,rfl⟩|⟨h6,_⟩
   ·exact⟨by rw[h3];exact h.sto,h.told,by rw[h3];exact h.l0,Ae h4 h.en,h.wt,h.ml⟩
   ·exact absurd h6 r
  ·rcases h2 with⟨h6,_⟩|⟨_,_,rfl⟩
   ·exact absurd rfl h6
   ·obtain⟨k1,k2,z⟩:=hs.flush h.sto hm h.told;exact⟨by rw[h3];exact k1,k2,by rw[h3];exact h.l0,Ae h4 h.en,Ae (Xuy hm z) h.wt,h.ml⟩
def TI.comp {did:Bool}(h:TI S i L V ts mem M)(hf:NS L D V ts mem dead did e L' D' V' ts' mem' dead'):TI S i L' V' ts' mem' M:=by
 rcases hf with⟨_,_,_,rfl,_,rfl,rfl,rfl,_⟩|⟨_,_,_,_,rfl,_,rfl,rfl,rfl,_⟩|⟨_,_,ok,e1,L1,D1,V1,ts1,mem1,dead1,hF,hr⟩
 ·exact h
 ·exact h
 ·have h1:=h.flush hF;rcases hr with⟨_,_,_,rfl,_,rfl,rfl,rfl,_⟩|⟨rfl,p,lv,m,e2,D2,dead2,_,hP,hm,hc,rfl,_⟩
  ·exact h1
  ·obtain⟨_,rfl,_⟩:=Tk h.sto hF;obtain⟨⟨h3,h4⟩,r⟩:=O0 hc;rcases r with⟨_,rfl,rfl⟩|⟨_,_,hs⟩
   ·exact⟨by rw[h3];exact h1.sto,h1.told,by rw[h3];exact h1.l0,Ae h4 h1.en,h1.wt,h1.ml⟩
   ·obtain⟨k1,k2,z⟩:=hs.merge h1.sto hP hm h1.told;exact⟨by rw[h3];exact k1,k2,by rw[h3];exact h1.l0,Ae h4 h1.en,Ae (Xuz hm hP.nod z) h1.wt,h1.ml⟩
def TI.scan {l m:List Cell}(h:TI S i L V ts mem M)(hl:∀c,c∈l↔c∈scan (FR mem ts) [] [])(hm:Mg l m):LY 0 (IE m)=M:=by
 rw[T6]at hl;have e:LY 0 (IE m)=IE m:=by unfold LY;rw[if_pos Fo]
 rw[e];have z:JW l:=λc r d hd=>h.sto.uniq c ((hl c).1 r) d ((hl d).1 hd);exact X8g (X8h z hm) (QI h.told (λc r=>(hl c).1 r) (λc r=>.inl ((hl c).2 r.1)))
end
end Go.Proofs.YtiooodckiddpmaaGreatDoor
